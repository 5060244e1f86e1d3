/- The reference's integers, ninth part: divide. The reference's integers, tenth part: DivMod. The reference's integers, eleventh part: Gcd. Package integer: Ext. Rows and matrices of integers in memory. torsionref05: ValidVec. Matrices whose rows' slice begins somewhere in a block, for reading. torsionref05: Same, Valid, Sized. Divides of both packages; torsionref05.Sized. torsionref13.Is. matrix.Valid; smith.diagonal. smith.diagonal. append on rows of integers; smith.elements. smith.elements. smith.Is. Matrices that a call itself made. torsionref05.New. torsionlaw13.list. torsionref13.Same. -/
import Derived.StillTailTactics
import Derived.BigQuiet
import Derived.Deep.QuietTactic
import Derived.Test.YtjdemlfceaikgaaGreatK06
import Derived.Test.YtjdemlfceaikgaaGreatK07
set_option linter.unusedVariables false
set_option linter.unusedSimpArgs false
set_option linter.unusedSectionVars false
namespace Go.Proofs.YtjdemlfceaikgaaGreat
open Go.RowKit
theorem results_cc {fn : Func} {p1 p2 : Tmp} (h : fn.results = #[.cell p1 66,.cell p2 66]) (tmps : Array Value) {W : World} {r1 r2 : Nat} {v1 v2 : Array Value}
  (hp1 : tmps.getD p1 undef = .pointer (some ⟨r1,0,none⟩)) (hp2 : tmps.getD p2 undef = .pointer (some ⟨r2,0,none⟩)) (hb1 : Blk W r1 66 v1) (hb2 : Blk W r2 66 v2) (h1 : v1.size = 2) (h2 : v2.size = 2) :
  (results fn tmps).run Tryz.prog W = .ok (.tuple #[.agg v1,.agg v2]) W:=by
 have hp1' : tmps[p1]?.getD undef = .pointer (some ⟨r1,0,none⟩):=by simpa using hp1
 have hp2' : tmps[p2]?.getD undef = .pointer (some ⟨r2,0,none⟩):=by simpa using hp2
 simp [results,h,hp1',hp2',asAddr,run_loadInt hb1 h1,run_loadInt hb2 h2]
theorem div_mod_of {a q d r : Nat} (h : a = q * d + r) (hr : r < d) : a / d = q/\a % d = r:=by
 subst h
 have hd : 0 < d:=by omega
 constructor
 ·rw [Nat.mul_comm,Nat.mul_add_div hd,Nat.div_eq_of_lt hr,Nat.add_zero]
 ·rw [Nat.mul_comm,Nat.mul_add_mod,Nat.mod_eq_of_lt hr]
theorem intV_zero (w : World) : IntV w (.agg #[.bool false,.slice none 0 0]) 0:=
 ⟨false,none,0,0,[],rfl,rfl,Nat.le_refl _,by omega,LimbsAt.nil _ _,Normal.nil,rfl,fun _=>rfl⟩
theorem div_fin {A B s q r g t : Nat} (hs : 0 < s) (h : A * s = q * (B * s) + r) (hr : r = g * s + t) (ht : t < s) (hlt : r < B * s) : A / B = q/\A % B = g:=by
 have e : A * s = (q * B + g) * s + t:=by
  rw [h,hr,Nat.add_mul,Nat.mul_assoc]; omega
 have ht0 : t = 0:=by
  have h1 : (A * s) % s = 0:=Nat.mul_mod_left _ _
  rw [e,Nat.mul_comm,Nat.mul_add_mod,Nat.mod_eq_of_lt ht] at h1
  exact h1
 subst ht0
 rw [Nat.add_zero] at e hr
 have e2 : A = q * B + g:=Nat.eq_of_mul_eq_mul_right hs e
 have hg : g < B:=by
  rw [hr] at hlt
  exact Nat.lt_of_mul_lt_mul_right hlt
 exact div_mod_of e2 hg
theorem len_le {xs ys : List Nat} (hN : Normal ys) (lx : Limbs xs) (h : nat ys<=nat xs) : ys.length<=xs.length:=by
 cases hy : ys.length with
 | zero=>omega
 | succ k=>
  have h1:=nat_ge hN hy
  have h2:=nat_lt lx
  rcases Nat.lt_or_ge xs.length (k + 1) with h3 | h3
  ·have:=pow_mono (show xs.length<=k by omega); omega
  ·omega
def RetQR (w : World) (a b : Nat) (e : Ending) (w' : World) : Prop:=
 ∃v1 v2,e = .returned (.tuple #[v1,v2])/\IntV w' v1 ((a / b : Nat) : Int)/\IntV w' v2 ((a % b : Nat) : Int)/\Below w.heap.size w w'
set_option maxHeartbeats 4000000 in
set_option maxRecDepth 200000 in
theorem r1divide_any (ao1 ao2 : Option Addr) (n1 cap1 n2 cap2 : Nat) (xs ys : List Nat) (w : World) (hn1 : xs.length = n1) (hn2 : ys.length = n2 + 1)
  (hl1 : n1<=cap1) (hc1 : cap1<=9223372036854775807) (hl2 : n2 + 1<=cap2) (hc2 : cap2<=9223372036854775807)
  (hb1 : n1 + 1<=LIM) (hb2 : n2 + 2<=LIM) (hx1 : LimbsAt w ao1 xs) (hx2 : LimbsAt w ao2 ys) (hN1 : Normal xs) (hN2 : Normal ys) :
  Calls Tryz.prog 156 #[.slice ao1 n1 cap1,.slice ao2 (n2 + 1) cap2] w (RetQR w (nat xs) (nat ys)):=by
 have HN1:=Lib.hid hn1
 have HN2:=Lib.hid hn2
 have hlen1' : n1<=xs.length:=by omega
 have hlen2' : n2 + 1<=ys.length:=by omega
 obtain ⟨b2,off2,y,rfl,hbw2,hy32,HY,hcy⟩:=hx2.limb (k:=n2) oM
 have hyp : 0 < y:=by have:=hN2 n2 hn2; rw [HY.out] at this; omega
 have hys0 : 0 < nat ys:=Nat.lt_of_lt_of_le (Nat.pow_pos dE) (nat_ge hN2 hn2)
 have HA : ∀s,s < 4294967296->Hid (Sm ((nat xs * s : Nat) : Int)):=fun s hs=>Sm.of_pow (k:=n1 + 1) (by
  have h1:=nat_lt hx1.1
  rw [hn1] at h1
  rw [Int.natAbs_natCast,Nat.pow_succ]
  exact Nat.lt_of_le_of_lt (Nat.mul_le_mul_left _ (Nat.le_of_lt hs)) (Nat.mul_lt_mul_of_pos_right h1 dE)) hb1
 have HB : ∀s,s < 4294967296->Hid (Sm ((nat ys * s : Nat) : Int)):=fun s hs=>Sm.of_pow (k:=n2 + 2) (by
  have h1:=nat_lt hx2.1
  rw [hn2] at h1
  rw [Int.natAbs_natCast,Nat.pow_succ]
  exact Nat.lt_of_le_of_lt (Nat.mul_le_mul_left _ (Nat.le_of_lt hs)) (Nat.mul_lt_mul_of_pos_right h1 dE)) hb2
 clear hn1 hn2
 have hM1 : n1<=8 * LIM:=by omega
 have hM2 : n2 + 1<=8 * LIM:=by omega
 rw [LIM_eq] at hb1 hb2
 go_enter Tryz.func156,Tryz.ntmps156
 go_upto_region 1 with (fail)
 refine wp_world ?_
 intro W0 hW0
 obtain ⟨hB0,br1,br2,hs0⟩:=world2 hW0
 obtain ⟨d1,d2,d3,d4⟩:=br1.two
 obtain ⟨e1,e2,e3,e4⟩:=br2.two
 have hcy0:=(hB0.cell (p:=⟨b2,off2 + n2,none⟩) hbw2).trans hcy
 clear hcy
 by_cases hone : n2 = 0
 ·subst hone
  simp only [Nat.add_zero] at hcy0
  have hd1 : ((0 : Nat) : Int) + 1 = 1:=rfl
  go_wp2_with fail
  refine (r1short_any ao1 n1 cap1 xs y W0 HN1.out (by rw [LIM_eq]; omega) (hx1.ext (lx hB0)) hyp hy32).mono ?_
  rintro e w1 ⟨g,qs,r,rfl,k1,k2,k3,k4,k5,k6⟩
  have HV:=Lib.hid k5
  clear k5
  go_wp2_with fail
  refine (made_any _ n1 n1 qs false w1 k3 (Nat.le_refl _) oM (by rw [LIM_eq]; omega) (k1.at_ k2)).mono ?_
  rintro e w2 ⟨v,rfl,⟨vn,va,vl,vc,vx,rfl,hv⟩,hb2⟩
  go_wp2_with fail
  refine wp_calls_world ?_
  intro W3 hW3
  obtain ⟨hB3,br3,hs3⟩:=world1 hW3
  have bl3 : LBlk W3 w2.heap.size [r]:=br3
  refine (made_any _ 1 1 [r] false W3 rfl (Nat.le_refl _) oM (by rw [LIM_eq]; omega) (bl3.at_ (fun x hx=>by simp at hx; unfold B32; omega))).mono ?_
  rintro e w4 ⟨v2,rfl,⟨un,ua,ul,uc,ux,rfl,hu⟩,hb4⟩
  have br1a:=(((br1.below k6).below hb2).below hB3).below hb4
  have br2a:=(((br2.below k6).below hb2).below hB3).below hb4
  obtain ⟨f1,f2,f3,f4⟩:=br1a.two
  obtain ⟨g1,g2,g3,g4⟩:=br2a.two
  go_wp2_with fail
  refine bodyPost_ret (results_cc rfl _ rfl rfl (((br1a.put2 _ _).far oM _ _).far oM _ _) (((br2a.far oM _ _).far oM _ _).put2 _ _) rfl rfl) rfl ?_
  have hlx:=(br1a.lext2 dE (.bool vn) (.slice va vl vc)).trans (((br2a.far oM 0 (.bool vn)).far oM 1 (.slice va vl vc)).lext2 dE (.bool un) (.slice ua ul uc))
  have hy1 : nat ys = y:=by
   have h:=nat_take_succ ys 0
   rw [nat_take_all _ (by have:=HN2.out; omega),HY.out] at h
   simpa using h
  obtain ⟨q1,q2⟩:=div_mod_of HV.out k4
  refine ⟨_,_,rfl,?_,?_,bset (bset (bset (bset (nx (nx (nx (nx hB0 k6) hb2) hB3) hb4) oM 0 _) oM 1 _) oM 0 _) oM 1 _⟩
  ·rw [hy1,q1]
   exact IntV.ext (IntV.ext ⟨vn,va,vl,vc,vx,rfl,hv⟩ (lx (nx hB3 hb4))) hlx
  ·rw [hy1,q2]
   have hr1 : nat [r] = r:=by simp [nat_cons]
   rw [<-hr1]
   exact IntV.ext ⟨un,ua,ul,uc,ux,rfl,hu⟩ hlx
 ·go_wp2
  go_loopw [8] (fun sv wr=>wr = W0/\∃s : Nat,sv = .int .u32 s/\0 < s/\s < 4294967296/\y * s < 4294967296) (fun sv _=>4294967296 - (intOf sv).toNat)
  case atStart=>exact ⟨rfl,1,rfl,by omega,by omega,by omega⟩
  case round=>
   obtain ⟨hwr,s,rfl,hs1,hs2,hs3⟩:=hrel
   have hwr:=hwr.symm
   subst hwr
   have hys : s<=y * s:=Nat.le_mul_of_pos_left s hyp
   have ec : ((y * s : Nat) : Int) = (y : Int) * (s : Int):=by simp
   have hi0 : 0<=(y : Int) * (s : Int):=by omega
   have hi1 : (y : Int) * (s : Int) < 4294967296:=by omega
   by_cases hlt : y * s < 2147483648
   ·have hi2 : (y : Int) * (s : Int) < 2147483648:=by omega
    go_wp2
    go_roundw
    case rel=>exact ⟨trivial,2 * s,by simp,by omega,by omega,by rw [Nat.mul_left_comm]; omega⟩
    case measure=>simp [intOf]; omega
   ·have hi2 : ¬ (y : Int) * (s : Int) < 2147483648:=by omega
    go_wp2_with fail
    refine wp_calls_world ?_
    intro W1 hW1
    obtain ⟨hB1,br3,hs4⟩:=world1 hW1
    have bl3 : LBlk W1 W0.heap.size [s]:=br3
    refine (made_any _ 1 1 [s] false W1 rfl (Nat.le_refl _) oM (by rw [LIM_eq]; omega) (bl3.at_ (fun x hx=>by simp at hx; unfold B32; omega))).mono ?_
    rintro e w2 ⟨v,rfl,⟨vn,va,vl,vc,vx,rfl,hv⟩,hb2⟩
    go_upto_region 8 with (fail)
    refine wp_world ?_
    intro W3 hW3
    have HV:=Lib.hid hv
    clear hv d1 d2 d3 d4 e1 e2 e3 e4
    obtain ⟨hB3,br4,hs5⟩:=world1 hW3
    obtain ⟨d1,d2,d3,d4⟩:=br4.two
    have hb3 : Below W0.heap.size W0 W3:=nx (nx hB1 hb2) hB3
    have hx1b:=hx1.ext (lx (nx hB0 hb3))
    have hx2b:=hx2.ext (lx (nx hB0 hb3))
    have hvI : IntV W3 (.agg #[.bool vn,.slice va vl vc]) (sgn false (nat [s])):=IntV.ext ⟨vn,va,vl,vc,vx,rfl,HV.out⟩ (lx hB3)
    clear hW0 hW1 hW3 hB1 hb2 hB3
    have hne1:=World.new_ne W3 _ d1
    have hne2:=World.new_ne W3 _ d2
    replace HA:=HA s hs2
    replace HB:=HB s hs2
    have eS : nat [s] = s:=by simp [nat_cons]
    have eA : sgn false (nat xs) * sgn false (nat [s]) = ((nat xs * s : Nat) : Int):=by rw [eS]; simp [sgn]
    have eB : sgn false (nat ys) * sgn false (nat [s]) = ((nat ys * s : Nat) : Int):=by rw [eS]; simp [sgn]
    have hHA:=HA.out
    have sA : Sm (sgn false (nat xs)):=Sm.mono hHA (by simp [natAbs_sgn]; exact Nat.le_mul_of_pos_right _ hs1)
    have hHB:=HB.out
    have sB : Sm (sgn false (nat ys)):=Sm.mono hHB (by simp [natAbs_sgn]; exact Nat.le_mul_of_pos_right _ hs1)
    have sS : Sm (sgn false (nat [s])):=Sm.mono hHB (by simp [natAbs_sgn]; rw [eS]; exact Nat.le_mul_of_pos_left _ hys0)
    clear hb1 hb2 hHA hHB
    refine wp_ser [pcI 1 (sgn false (nat xs)),pcD 3 [1] (fun w v=>IntV w v (((nat xs * s : Nat) : Int))),pcI 5 (sgn false (nat ys)),pcD 7 [5] (fun w v=>IntV w v (((nat ys * s : Nat) : Int))),pcI 8 (0),pbA 9 66 2,pbA 10 66 2,pbA 11 66 2,pbS 12 9 66 2,pbS 13 10 66 2,pbS 14 11 66 2] ?_
    refine sRd ?_
    refine sRc (fun wS hI Gk hG=>by go_simp; exact ck hG (made_any ao1 n1 cap1 xs false _ HN1.out hl1 hc1 hM1 (hx1b.ext hI.lext))) (fun va1 _=>?_)
    refine sRd ?_
    refine sRc (fun wS hI ha1 Gk hG=>?_) (fun va3 hv=>?_)
    ·go_simp
     refine (r1mul_any _ _ (sgn false (nat xs)) (sgn false (nat [s])) _ ha1 (hvI.ext hI.lext) sA sS).mono ?_
     rintro e wa ⟨v,rfl,hv,hba⟩
     rw [eA] at hv
     exact ⟨_,rfl,hG _ _ hv,hba⟩
    obtain ⟨xa9,ya9,rfl,qa9⟩:=boxI hv
    clear hv
    refine sRd ?_
    refine sRc (fun wS hI Gk hG=>by go_simp; exact ck hG (made_any _ _ _ ys false _ HN2.out hl2 hc2 hM2 (hx2b.ext hI.lext))) (fun va5 _=>?_)
    refine sRd ?_
    refine sRc (fun wS hI ha5 Gk hG=>?_) (fun va7 hv=>?_)
    ·go_simp
     refine (r1mul_any _ _ (sgn false (nat ys)) (sgn false (nat [s])) _ ha5 (hvI.ext hI.lext) sB sS).mono ?_
     rintro e wa ⟨v,rfl,hv,hba⟩
     rw [eB] at hv
     exact ⟨_,rfl,hG _ _ hv,hba⟩
    obtain ⟨xa10,ya10,rfl,qa10⟩:=boxI hv
    clear hv
    refine sRc (fun wS hI Gk hG=>?_) (fun va8 hv=>?_)
    ·go_simp
     exact ⟨hG _ _ (intV_zero _),Below.refl _ _⟩
    obtain ⟨xa11,ya11,rfl,qa11⟩:=boxI hv
    clear hv
    refine sRa (cs:=#[.bool false,.slice none 0 0]) fun ca9 ga9=>?_
    refine sRa (cs:=#[.bool false,.slice none 0 0]) fun ca10 ga10=>?_
    refine sRa (cs:=#[.bool false,.slice none 0 0]) fun ca11 ga11=>?_
    refine sRs ca9 (.agg #[xa9,ya9]) ?_ qa9
    refine sRs ca10 (.agg #[xa10,ya10]) ?_ qa10
    refine sRs ca11 (.agg #[xa11,ya11]) ?_ qa11
    refine sRb ?_
    simp only [FA,FC,FN,ptr,List.nil_append,List.cons_append,Act.put,List.setIfInBounds_toArray,List.set_cons_zero,List.set_cons_succ]
    intro wx hbwx ha1 ha3 ha5 ha7 ha8 ka9 ka10 ka11 na9 na10 na11
    replace ka9 : Blk wx ca9 66 #[xa9,ya9]:=ka9 _ rfl
    have ia9:=ha3
    replace ka10 : Blk wx ca10 66 #[xa10,ya10]:=ka10 _ rfl
    have ia10:=ha7
    replace ka11 : Blk wx ca11 66 #[xa11,ya11]:=ka11 _ rfl
    have ia11:=ha8
    have na9_10 : ca9 ≠ ca10:=na9 (10,ca10) sI
    have na9_11 : ca9 ≠ ca11:=na9 (11,ca11) sI
    have na10_11 : ca10 ≠ ca11:=na10 (11,ca11) sI
    clear na9 na10 na11
    clear ha1 ha3 ha5 ha7 ha8 hvI hx1b hx2b d1 d2 d3 d4 hne1 hne2 sA sB sS HV br4 eA eB eS bl3 br3 hM1 hM2 HN1 HN2 hx1 hx2 hcy0 HY
    have hDI:=ia10
    obtain ⟨dn,da,dl,dc,dx,hdv,hdl,hd1,hd2,hdL,hdN,hdz,hds⟩:=ia10
    injection hdv with hdv
    simp only [Array.mk.injEq,List.cons.injEq,and_true] at hdv
    obtain ⟨rfl,rfl⟩:=hdv
    have hD : nat dx = nat ys * s:=by
     have:=congrArg Int.natAbs hdz
     rw [natAbs_sgn] at this
     omega
    have hD0 : 0 < nat ys * s:=Nat.mul_pos hys0 hs1
    obtain ⟨dm,rfl⟩ : ∃dm,dl = dm + 1:=by
     cases dl with
     | zero=>rw [List.length_eq_zero_iff.1 hdl] at hD; simp [nat] at hD; omega
     | succ k=>exact ⟨k,rfl⟩
    have HDl:=Lib.hid hdl
    clear hdl hdz
    have hsz:=hb3.size
    have n30 : ca11 ≠ w.heap.size:=by omega
    have n31 : ca11 ≠ w.heap.size + 1:=by omega
    have l11:=ka11.lt
    obtain ⟨f,hf⟩:=intAt_ex
    go_wp2
    go_loopw [] (fun wr=>∃(q r : Nat) (x1 y1 x3 y3 : Value),Below W3.heap.size W3 wr/\LExt wx wr/\wx.heap.size<=wr.heap.size/\Blk wr ca9 66 #[x1,y1]/\IntV wr (.agg #[x1,y1]) r/\Blk wr ca10 66 #[.bool dn,.slice da (dm + 1) dc] ∧
     Blk wr ca11 66 #[x3,y3]/\IntV wr (.agg #[x3,y3]) q/\Hid (nat xs * s = q * (nat ys * s) + r)) (fun wr=>(f wr ca9).toNat)
    case atStart=>
     exact ⟨0,nat xs * s,xa9,ya9,xa11,ya11,hbwx,LExt.refl _,Nat.le_refl _,ka9,ia9,ka10,ka11,ia11,by rw [Nat.zero_mul,Nat.zero_add]; exact Lib.hid rfl⟩
    case round=>
     obtain ⟨q,r,rx1,ry1,rx3,ry3,hbr,hxr,hsr,p1,j1,p2,p3,j3,hinv⟩:=hrel
     have hfr:=hf _ _ _ _ _ p1 j1
     obtain ⟨rn,ra,rl,rc,rx,hrv,hrl,hr1,hr2,hrL,hrN,hrz,hrs⟩:=id j1
     injection hrv with hrv
     simp only [Array.mk.injEq,List.cons.injEq,and_true] at hrv
     obtain ⟨rfl,rfl⟩:=hrv
     have hR : nat rx = r:=by
      have:=congrArg Int.natAbs hrz
      rw [natAbs_sgn] at this
      omega
     have HSR : Hid (Sm (r : Int)):=Sm.mono HA.out (by have:=hinv.out; simp only [Int.natAbs_natCast]; omega)
     have HSQ : Hid (Sm (q : Int)):=Sm.mono HA.out (by have:=hinv.out; have h2 : q<=q * (nat ys * s):=Nat.le_mul_of_pos_right _ hD0; simp only [Int.natAbs_natCast]; omega)
     have hrl4 : rl<=4 * LIM:=by
      have h0:=HSR.out
      rw [<-hR] at h0
      have h1 : Sm (sgn false (nat rx)):=h0.mono (by simp [natAbs_sgn])
      have h2:=h1.len hrN
      rw [hrl] at h2
      clear h0 h1
      rw [LIM_eq] at h2 ⊢
      omega
     have HRl:=Lib.hid hrl
     clear hrl hrz
     obtain ⟨m1,m2,m3,m4⟩:=p1.two
     obtain ⟨l1,l2,l3,l4⟩:=p2.two
     obtain ⟨qn,qa,ql,qc,qx,hqv,hq'⟩:=id j3
     injection hqv with hqv
     simp only [Array.mk.injEq,List.cons.injEq,and_true] at hqv
     obtain ⟨rfl,rfl⟩:=hqv
     have HQ':=Lib.hid hq'
     clear hq'
     obtain ⟨o1,o2,o3,o4⟩:=p3.two
     go_wp2_with fail
     refine (less_any ra da rl rc (dm + 1) dc rx dx wr HRl.out HDl.out hr1 hd1 hr2 hd2 hrL (hdL.ext hxr) hrN hdN).mono ?_
     rintro e wq ⟨rfl,nq,rfl⟩
     by_cases hlt2 : nat rx < nat dx
     ·rw [decide_eq_true hlt2]
      go_wp2_with fail
      refine (r1short_any ra rl rc rx s _ HRl.out hrl4 (hrL.ext (lx (drN wr nq))) hs1 hs2).mono ?_
      rintro e w4 ⟨g,qs,rr,rfl,t1,t2,t3,t4,t5,t6⟩
      have P3:=(p3.drewN nq).below t6
      obtain ⟨e1,e2,e3,e4⟩:=P3.two
      have HT5:=Lib.hid t5
      clear t5
      have B1:=(((br1.below hb3).below hbr).drewN nq).below t6
      have B2:=(((br2.below hb3).below hbr).drewN nq).below t6
      have P3l:=P3.lt
      clear m1 m2 m3 m4 l1 l2 l3 l4 o1 o2 o3 o4
      go_upto_region 14 with (fail)
      refine wp_serH 3 [pcI 2 (((nat qs : Nat) : Int))] ?_
      refine sRd ?_
      refine sRc (fun wS hI Gk hG=>?_) (fun vb2 _=>?_)
      ·go_simp
       refine (made_any _ rl rl qs false _ t3 (Nat.le_refl _) oM oM ((t1.at_ t2).ext hI.lext)).mono ?_
       rintro e wa ⟨v,rfl,hv,hba⟩
       simp only [sgn_false] at hv
       exact ⟨_,rfl,hG _ _ hv,hba⟩
      refine sRe ?_
      intro w5 hbw5 hb2
      obtain ⟨fn,fa,fl,fc,fx,rfl,hff⟩:=id hb2
      have HFF:=Lib.hid hff
      clear hff
      have C1:=B1.below hbw5
      have C2:=B2.below hbw5
      obtain ⟨z1,z2,z3,z4⟩:=C1.two
      obtain ⟨y1,y2,y3,y4⟩:=C2.two
      go_wp2_with fail
      refine bodyPost_ret (results_cc rfl _ rfl rfl (((C1.put2 _ _).far oM _ _).far oM _ _) (((C2.far oM _ _).far oM _ _).put2 _ _) rfl rfl) rfl ?_
      obtain ⟨g1,g2⟩:=div_fin hs1 hinv.out (hR ▸ HT5.out) t4 (by rw [<-hD,<-hR]; exact hlt2)
      have hlx:=(C1.lext2 dE (.bool qn) (.slice qa ql qc)).trans (((C2.far oM 0 (.bool qn)).far oM 1 (.slice qa ql qc)).lext2 dE (.bool fn) (.slice fa fl fc))
      refine ⟨_,_,rfl,?_,?_,bset (bset (bset (bset (nx (nx (nx (nx (nx hB0 hb3) hbr) (drN wr nq)) t6) hbw5) oM 0 _) oM 1 _) oM 0 _) oM 1 _⟩
      ·rw [g1]
       exact (j3.ext (lx (nx (nx (drN wr nq) t6) hbw5))).ext hlx
      ·rw [g2]
       exact hb2.ext hlx
     ·rw [decide_eq_false hlt2]
      have hdr : nat dx<=nat rx:=Nat.le_of_not_lt hlt2
      have hlen:=len_le hdN hrL.1 hdr
      rw [HRl.out,HDl.out] at hlen
      obtain ⟨rm,rfl⟩ : ∃rm,rl = rm + 1:=⟨rl - 1,by omega⟩
      go_wp2_with fail
      refine (r1est_any ra da rm rc dm dc rx dx _ HRl.out HDl.out hrl4 (hrL.ext (lx (drN wr nq))) (hdL.ext (hxr.trans (lx (drN wr nq)))) hrN oM hdr).mono ?_
      rintro e w4 ⟨v,z,rfl,hz,hz0,hzb,hb4⟩
      obtain ⟨zn,za,zl,zc,zx,rfl,hz'⟩:=id hz
      rw [hD,hR] at hzb
      have hzD : 0 < z * (nat ys * s):=Nat.mul_pos hz0 hD0
      have SZD : Hid (Sm ((z : Int) * ((nat ys * s : Nat) : Int))):=Sm.mono HSR.out (by rw [<-Int.natCast_mul,Int.natAbs_natCast,Int.natAbs_natCast]; exact hzb)
      have SZ : Hid (Sm (z : Int)):=Sm.mono HSR.out (by rw [Int.natAbs_natCast,Int.natAbs_natCast]; exact Nat.le_trans (Nat.le_mul_of_pos_right _ hD0) hzb)
      have HZB:=Lib.hid hzb
      have HZD:=Lib.hid hzD
      clear hzb hz' hzD
      go_upto_region 11 with (fail)
      refine wp_world ?_
      intro W5 hW5
      obtain ⟨hB5,br5,hs6⟩:=world1 hW5
      have P1:=((p1.drewN nq).below hb4).below hB5
      have P2:=((p2.drewN nq).below hb4).below hB5
      have P3:=((p3.drewN nq).below hb4).below hB5
      obtain ⟨e1,e2,e3,e4⟩:=P3.two
      obtain ⟨f1,f2,f3,f4⟩:=br5.two
      clear m1 m2 m3 m4 l1 l2 l3 l4 o1 o2 o3 o4
      go_wp2_with fail
      refine (r1add_any _ _ (q : Int) (z : Int) W5 (j3.ext ((lx (drN wr nq)).trans (lx (nx hb4 hB5)))) (hz.ext (lx hB5)) HSQ.out SZ.out).mono ?_
      rintro e w6 ⟨v,rfl,hq2,hb6⟩
      obtain ⟨vn2,va2,vl2,vc2,vx2,rfl,hq2'⟩:=id hq2
      have HQ2':=Lib.hid hq2'
      clear hq2'
      have P3':=P3.below hb6
      obtain ⟨k31,k32,k33,k34⟩:=P3'.two
      clear e1 e2 e3 e4 f1 f2 f3 f4
      go_upto_region 12 with (fail)
      refine wp_world ?_
      intro W7 hW7
      have Q3:=Blk.at_ hW7 (P3'.put2 _ _)
      have Q1:=Blk.at_ hW7 (((P1.below hb6).far na9_11 _ _).far na9_11 _ _)
      have Q2:=Blk.at_ hW7 (((P2.below hb6).far na10_11 _ _).far na10_11 _ _)
      have n53 : w4.heap.size ≠ ca11:=by
       have h1:=p3.lt
       have h2:=hb4.size
       have h3 : (wr.drewN nq).heap.size = wr.heap.size:=rfl
       omega
      have Q5:=Blk.at_ hW7 (((br5.below hb6).far n53 _ _).far n53 _ _)
      obtain ⟨s1,s2,s3,s4⟩:=Q1.two
      obtain ⟨a1,a2,a3,a4⟩:=Q2.two
      obtain ⟨f1,f2,f3,f4⟩:=Q5.two
      have hx67 : LExt w6 W7:=by rw [hW7.out]; exact P3'.lext2 dE _ _
      have hb67 : Below W3.heap.size W3 W7:=by
       rw [hW7.out]
       have h0:=(((hbr.trans ((drN wr nq).mono hbr.size)).trans (hb4.mono hbr.size)).trans (hB5.mono (Nat.le_trans hbr.size hb4.size))).trans (hb6.mono (Nat.le_trans (Nat.le_trans hbr.size hb4.size) hB5.size))
       exact bset (bset h0 ga11 0 _) ga11 1 _
      have hx7 : LExt wr W7:=((lx (drN wr nq)).trans (lx (nx (nx hb4 hB5) hb6))).trans hx67
      have q1l:=Q1.lt
      have q2l:=Q2.lt
      have q5l:=Q5.lt
      have hsz7 : wx.heap.size<=W7.heap.size:=by
       rw [hW7.out]
       have h1:=hb4.size
       have h2:=hB5.size
       have h3:=hb6.size
       have h4 : (wr.drewN nq).heap.size = wr.heap.size:=rfl
       simp only [World.size_setCell]
       omega
      have hr7:=j1.ext hx7
      have hD7 : IntV W7 (.agg #[.bool dn,.slice da (dm + 1) dc]) ((nat ys * s : Nat) : Int):=hDI.ext (hxr.trans hx7)
      have hz7 : IntV W7 (.agg #[.bool zn,.slice za zl zc]) (z : Int):=hz.ext ((lx (nx hB5 hb6)).trans hx67)
      clear hW7 hW5 hb4 hB5 P1 P2 P3 P3' k31 k32 k33 k34 br5
      refine wp_serH 5 [pcI 3 ((z : Int) * ((nat ys * s : Nat) : Int)),pcD 4 [3] (fun w v=>IntV w v ((r : Int) - (z : Int) * ((nat ys * s : Nat) : Int)))] ?_
      refine sRd ?_
      refine sRc (fun wS hI Gk hG=>by go_simp; exact ck hG (r1mul_any _ _ (z : Int) ((nat ys * s : Nat) : Int) _ (hz7.ext hI.lext) (hD7.ext hI.lext) SZ.out HB.out)) (fun vc3 _=>?_)
      refine sRc (fun wS hI hc3 Gk hG=>by go_simp; exact ck hG (r1sub_any _ _ (r : Int) ((z : Int) * ((nat ys * s : Nat) : Int)) _ (hr7.ext hI.lext) hc3 HSR.out SZD.out)) (fun vc4 _=>?_)
      refine sRe ?_
      intro w9 hbw9 hc3 hc4
      obtain ⟨on,oa,ol,oc,ox,rfl,ho⟩:=id hc4
      have HO:=Lib.hid ho
      clear ho
      have C1:=Q1.below hbw9
      have C2:=Q2.below hbw9
      have C3:=Q3.below hbw9
      have hnew0 : IntV w9 (.agg #[.bool on,.slice oa ol oc]) ((r - z * (nat ys * s) : Nat) : Int):=by
       have h1:=HZB.out
       have h2 : (r : Int) - (z : Int) * ((nat ys * s : Nat) : Int) = ((r - z * (nat ys * s) : Nat) : Int):=by
        rw [<-Int.natCast_mul]; omega
       rw [<-h2]; exact hc4
      have hxs:=C1.lext2 dE (.bool on) (.slice oa ol oc)
      have hnew:=hnew0.ext hxs
      have hb9 : Below W3.heap.size W3 w9:=hb67.trans (hbw9.mono hb67.size)
      have hx9 : LExt wx w9:=(hxr.trans hx7).trans (lx hbw9)
      have hsz9 : wx.heap.size<=((w9.setCell ⟨ca9,0,none⟩ (.bool on)).setCell ⟨ca9,1,none⟩ (.slice oa ol oc)).heap.size:=by
       have h1:=hbw9.size
       simp only [World.size_setCell]
       omega
      obtain ⟨z1,z2,z3,z4⟩:=C1.two
      go_wp2
      go_roundw
      case rel=>
       exact ⟨q + z,r - z * (nat ys * s),_,_,_,_,bset (bset hb9 ga9 0 _) ga9 1 _,hx9.trans hxs,hsz9,C1.put2 _ _,hnew,(C2.far (Ne.symm na9_10) _ _).far (Ne.symm na9_10) _ _,(C3.far (Ne.symm na9_11) _ _).far (Ne.symm na9_11) _ _,(hq2.ext (hx67.trans (lx hbw9))).ext hxs,by
        have h1:=hinv.out
        have h2:=HZB.out
        refine Lib.hid ?_
        rw [Nat.add_mul]
        omega⟩
      case measure=>
       rw [hf _ _ _ _ _ (C1.put2 _ _) hnew,hfr]
       have h1:=HZB.out
       have h2:=HZD.out
       omega
def DLIM : Nat:=1099511627774
theorem DLIM_eq : DLIM = 1099511627774:=rfl
structure Smd (z : Int) : Prop where
 lt : z.natAbs < B32 ^ DLIM
theorem Smd.sm {z : Int} (h : Smd z) : Sm z:=Nat.lt_of_lt_of_le h.lt (pow_mono (by rw [DLIM_eq,LIM_eq]; omega))
theorem Smd.mono {z y : Int} (h : Smd z) (hy : y.natAbs<=z.natAbs) : Smd y:=⟨Nat.lt_of_le_of_lt hy h.lt⟩
theorem B32_pow_lt (a b : Nat) (h : a + 1<=b) : B32 ^ a < B32 ^ b:=by
 have h1 : B32 ^ (a + 1)<=B32 ^ b:=pow_mono h
 rw [Nat.pow_succ] at h1
 have h2 : 0 < B32 ^ a:=Nat.pow_pos dE
 have h3 : B32 ^ a * 2<=B32 ^ a * B32:=Nat.mul_le_mul_left _ dE
 omega
theorem Smd.sm1 {z y : Int} (h : Smd z) (hy : y.natAbs<=z.natAbs + 1) : Sm y:=
 Nat.lt_of_le_of_lt hy (Nat.lt_of_le_of_lt h.lt (B32_pow_lt DLIM LIM (by rw [DLIM_eq,LIM_eq]; omega)))
theorem Smd.len {neg : Bool} {xs : List Nat} (h : Smd (sgn neg (nat xs))) (hn : Normal xs) : xs.length<=DLIM:=by
 have h:=h.lt
 rw [natAbs_sgn] at h
 cases hx : xs.length with
 | zero=>omega
 | succ n=>
  have h1:=nat_ge hn hx
  rcases Nat.lt_or_ge n DLIM with h2 | h2
  ·omega
  ·have:=pow_mono h2; omega
set_option maxHeartbeats 4000000 in
set_option maxRecDepth 200000 in
theorem r1divmod_any (v1 v2 : Value) (z1 z2 : Int) (w : World) (h1 : IntV w v1 z1) (h2 : IntV w v2 z2) (s1 : Smd z1) (s2 : Smd z2) (hz : z2 ≠ 0) :
  Calls Tryz.prog 138 #[v1,v2] w (RetDM w z1 z2):=by
 obtain ⟨neg1,ao1,n1,cap1,xs,rfl,hn1,hl1,hc1,hx1,hN1,hz1,hp1⟩:=h1
 obtain ⟨neg2,ao2,n2,cap2,ys,rfl,hn2,hl2,hc2,hx2,hN2,hz2,hp2⟩:=h2
 have hM1 : n1<=8 * LIM:=by
  have:=(hz1 ▸ s1).len hN1
  rw [hn1,DLIM_eq] at this
  clear s1 s2
  rw [LIM_eq]
  omega
 have hM2 : n2<=8 * LIM:=by
  have:=(hz2 ▸ s2).len hN2
  rw [hn2,DLIM_eq] at this
  clear s1 s2
  rw [LIM_eq]
  omega
 have HN1:=Lib.hid hn1
 have HN2:=Lib.hid hn2
 have HZ1:=Lib.hid hz1
 have HZ2:=Lib.hid hz2
 have HS1:=Lib.hid s1
 have HS2:=Lib.hid s2
 have HZ:=Lib.hid hz
 clear hn1 hn2 hz1 hz2 s1 s2 hz
 go_enter Tryz.func138,Tryz.ntmps138
 go_upto_region 1 with (fail)
 refine wp_world ?_
 intro W0 hW0
 obtain ⟨hB0,bx1,bx2,br1,br2,hs0⟩:=world4 hW0
 obtain ⟨c1,c2,c3,c4⟩:=bx1.two
 obtain ⟨d1,d2,d3,d4⟩:=bx2.two
 have hx1':=hx1.ext (lx hB0)
 have hx2':=hx2.ext (lx hB0)
 refine wp_serH 10 [pcI 4 (z1),pcI 9 (z2)] ?_
 refine sRd ?_
 refine sRc (fun wS hI Gk hG=>?_) (fun va4 _=>?_)
 ·go_simp
  refine (made_any ao1 n1 cap1 xs neg1 _ HN1.out hl1 hc1 hM1 (hx1'.ext hI.lext)).mono ?_
  rintro e wa ⟨v,rfl,hv,hba⟩
  rw [<-HZ1.out] at hv
  exact ⟨_,rfl,hG _ _ hv,hba⟩
 refine sRd ?_
 refine sRc (fun wS hI Gk hG=>?_) (fun va9 _=>?_)
 ·go_simp
  refine (made_any ao2 n2 cap2 ys neg2 _ HN2.out hl2 hc2 hM2 (hx2'.ext hI.lext)).mono ?_
  rintro e wa ⟨v,rfl,hv,hba⟩
  rw [<-HZ2.out] at hv
  exact ⟨_,rfl,hG _ _ hv,hba⟩
 refine sRe ?_
 intro W1 hbW1 ha4 ha9
 clear c1 c2 c3 c4 d1 d2 d3 d4 hx1' hx2' hx1 hx2
 obtain ⟨an,aa,al,ac,ax,rfl,h1l,h1a,h1b,h1x,h1N,h1z,h1p⟩:=ha4
 obtain ⟨bn,ba,bl,bc,bx,rfl,h2l,h2a,h2b,h2x,h2N,h2z,h2p⟩:=ha9
 have hal : al<=DLIM:=by
  have:=(h1z ▸ HS1.out).len h1N
  rwa [h1l] at this
 have hbl : bl<=DLIM:=by
  have:=(h2z ▸ HS2.out).len h2N
  rwa [h2l] at this
 have hA : nat ax = z1.natAbs:=by rw [h1z,natAbs_sgn]
 have hBv : nat bx = z2.natAbs:=by rw [h2z,natAbs_sgn]
 obtain ⟨bm,rfl⟩ : ∃bm,bl = bm + 1:=by
  cases bl with
  | zero=>rw [List.length_eq_zero_iff.1 h2l] at hBv; have:=HZ.out; simp [nat] at hBv; omega
  | succ k=>exact ⟨k,rfl⟩
 have H1L:=Lib.hid h1l
 have H2L:=Lib.hid h2l
 have H1Z:=Lib.hid h1z
 have H2Z:=Lib.hid h2z
 have H1A:=Lib.hid hA
 have H2A:=Lib.hid hBv
 have H1P:=Lib.hid h1p
 have H2P:=Lib.hid h2p
 clear h1l h2l h1z h2z hA hBv h1p h2p
 have bx1:=bx1.below hbW1
 have bx2:=bx2.below hbW1
 have br1:=br1.below hbW1
 have br2:=br2.below hbW1
 obtain ⟨c1,c2,c3,c4⟩:=bx1.two
 obtain ⟨d1,d2,d3,d4⟩:=bx2.two
 go_upto_region 2 with (fail)
 refine wp_world ?_
 intro W2 hW2
 have X1:=Blk.at_ hW2 (((bx1.put2 _ _).far oM _ _).far oM _ _)
 have X2:=Blk.at_ hW2 (((bx2.far oM _ _).far oM _ _).put2 _ _)
 have R1:=Blk.at_ hW2 ((((br1.far oM _ _).far oM _ _).far oM _ _).far oM _ _)
 have R2:=Blk.at_ hW2 ((((br2.far oM _ _).far oM _ _).far oM _ _).far oM _ _)
 have hs2:=R2.lt
 have hx12 : LExt W1 W2:=by
  rw [hW2.out]
  exact (bx1.lext2 dE _ _).trans (((bx2.far oM _ _).far oM _ _).lext2 dE _ _)
 have hB2 : Below w.heap.size w W2:=by
  rw [hW2.out]
  exact bset (bset (bset (bset (nx hB0 hbW1) oM 0 _) oM 1 _) oM 0 _) oM 1 _
 clear hW2 bx1 bx2 br1 br2 c1 c2 c3 c4 d1 d2 d3 d4
 obtain ⟨c1,c2,c3,c4⟩:=X1.two
 obtain ⟨d1,d2,d3,d4⟩:=X2.two
 have h2v : IntV W2 (.agg #[.bool bn,.slice ba (bm + 1) bc]) z2:=⟨bn,ba,bm + 1,bc,bx,rfl,H2L.out,h2a,h2b,h2x.ext hx12,h2N,H2Z.out,H2P.out⟩
 go_wp2_with fail
 refine (r1sign_any _ z2 W2 h2v).mono ?_
 rintro e w3 ⟨rfl,hb3⟩
 have hc0 : cmpI z2 0 ≠ 0:=by have:=HZ.out; unfold cmpI; split <;> (try split) <;> omega
 obtain ⟨k,hk⟩ : ∃k,cmpI z2 0 = k:=⟨_,rfl⟩
 rw [hk] at hc0 ⊢
 have e1:=kc_below c1 hb3
 have e2:=kc_below c2 hb3
 have e3:=kc_below d1 hb3
 have e4:=kc_below d2 hb3
 clear c1 c2 c3 c4 d1 d2 d3 d4
 go_wp2_with fail
 refine (r1divide_any aa ba al ac bm bc ax bx w3 H1L.out H2L.out h1a h1b h2a h2b (by rw [DLIM_eq] at hal; rw [LIM_eq]; omega) (by rw [DLIM_eq] at hbl; rw [LIM_eq]; omega) (h1x.ext (hx12.trans (lx hb3))) (h2x.ext (hx12.trans (lx hb3))) h1N h2N).mono ?_
 rintro e w4 ⟨q0,r0,rfl,hq,hr,hb4⟩
 obtain ⟨qn,qa,ql,qc,qx,rfl,hq'⟩:=id hq
 obtain ⟨rn,ra,rl,rc,rx,rfl,hr'⟩:=id hr
 have HQ':=Lib.hid hq'
 have HR':=Lib.hid hr'
 clear hq' hr' e1 e2 e3 e4 hk hc0
 go_upto_region 5 with (fail)
 refine wp_world ?_
 intro W5 hW5
 obtain ⟨hB5,T7,T8,hs5⟩:=world2 hW5
 have Y1:=((X1.below hb3).below hb4).below hB5
 have Y2:=((X2.below hb3).below hb4).below hB5
 have R1:=((R1.below hb3).below hb4).below hB5
 have R2:=((R2.below hb3).below hb4).below hB5
 have hBt : Below w.heap.size w W5:=nx (nx (nx hB2 hb3) hb4) hB5
 have hs4 : w.heap.size + 1 + 1 + 1 < w4.heap.size:=by
  have h3:=hb3.size
  have h4:=hb4.size
  omega
 have hb0 : 0 < nat bx:=by have:=HZ.out; have:=H2A.out; omega
 obtain ⟨DM1,DM2⟩:=dm_spec an bn (nat ax) (nat bx) hb0
 rw [<-H1Z.out,<-H2Z.out] at DM1 DM2
 have h2x5 : LimbsAt W5 ba bx:=h2x.ext ((hx12.trans (lx hb3)).trans (lx (nx hb4 hB5)))
 have tq:=hq.ext (lx hB5)
 have tr:=hr.ext (lx hB5)
 clear hq hr hW5 hB5 hb4 hb3 X1 X2 hW0 h2v
 have SQ : Sm ((nat ax / nat bx + 1 : Nat) : Int):=HS1.out.sm1 (by simp only [Int.natAbs_natCast]; rw [<-H1A.out]; have:=Nat.div_le_self (nat ax) (nat bx); omega)
 have HSQ:=Lib.hid SQ
 clear SQ
 obtain ⟨k1,k2,k3,k4⟩:=Y1.two
 obtain ⟨l1,l2,l3,l4⟩:=Y2.two
 obtain ⟨c1,c2,c3,c4⟩:=T7.two
 obtain ⟨d1,d2,d3,d4⟩:=T8.two
 cases an
 case' false=>
  have hq : dmQ false (nat ax) (nat bx) = nat ax / nat bx:=rfl
  have hr : dmR false (nat ax) (nat bx) = nat ax % nat bx:=rfl
  rw [hq] at DM1
  rw [hr] at DM2
  have HSQ:=Lib.hid (HSQ.out.mono (y:=((nat ax / nat bx : Nat) : Int)) (by simp only [Int.natAbs_natCast]; omega))
  clear hq hr
  obtain ⟨Q,hQ⟩ : ∃Q : Nat,nat ax / nat bx = Q:=⟨_,rfl⟩
  obtain ⟨R,hR⟩ : ∃R : Nat,nat ax % nat bx = R:=⟨_,rfl⟩
  rw [hQ] at tq DM1 HSQ
  rw [hR] at tr DM2
  clear hQ hR
  obtain ⟨WX,hE⟩ : ∃W,W = W5:=⟨_,rfl⟩
  subst hE
 case' true=>
  have hm:=Nat.mod_lt (nat ax) hb0
  go_wp2_with fail
  refine (r1sign_any _ _ _ tr).mono ?_
  rintro e w6 ⟨rfl,hb6⟩
  have T7:=T7.below hb6
  have T8:=T8.below hb6
  have R1:=R1.below hb6
  have R2:=R2.below hb6
  have Y1:=Y1.below hb6
  have Y2:=Y2.below hb6
  have hBt:=nx hBt hb6
  have tq:=tq.ext (lx hb6)
  have tr:=tr.ext (lx hb6)
  have h2x6 : LimbsAt w6 ba bx:=h2x5.ext (lx hb6)
  clear hb6 c1 c2 c3 c4 d1 d2 d3 d4 k1 k2 k3 k4 l1 l2 l3 l4
  obtain ⟨k1,k2,k3,k4⟩:=Y1.two
  obtain ⟨l1,l2,l3,l4⟩:=Y2.two
  obtain ⟨c1,c2,c3,c4⟩:=T7.two
  obtain ⟨d1,d2,d3,d4⟩:=T8.two
  by_cases h0 : 0 < nat ax % nat bx
  case' pos=>
   have hc : cmpI ((nat ax % nat bx : Nat) : Int) 0 = 1:=by unfold cmpI; rw [if_neg oM,if_pos oM]
   have hq : dmQ true (nat ax) (nat bx) = nat ax / nat bx + 1:=by unfold dmQ; rw [if_pos ⟨rfl,h0⟩]
   have hr : dmR true (nat ax) (nat bx) = nat bx - nat ax % nat bx:=by unfold dmR; rw [if_pos ⟨rfl,h0⟩]
   rw [hq] at DM1
   rw [hr] at DM2
   rw [hc]
   clear hq hr hc
   go_upto_region 6 with (fail)
   have hs6 : w4.heap.size + 1 < w6.heap.size:=T8.lt
   have hl7:=T7.lt
   have SQ0 : Hid (Sm ((nat ax / nat bx : Nat) : Int)):=HSQ.out.mono (by simp only [Int.natAbs_natCast]; omega)
   have SB : Hid (Sm (sgn false (nat bx))):=HS2.out.sm.mono (by rw [natAbs_sgn,H2A.out]; exact Nat.le_refl _)
   have SR : Hid (Sm ((nat ax % nat bx : Nat) : Int)):=SB.out.mono (by rw [natAbs_sgn,Int.natAbs_natCast]; omega)
   have S1 : Hid (Sm 1):=HSQ.out.mono (by rw [Int.natAbs_natCast]; exact Nat.succ_le_succ (Nat.zero_le _))
   have hbl8 : bm + 1<=8 * LIM:=by rw [DLIM_eq] at hbl; rw [LIM_eq]; omega
   refine wp_serH 3 [pcI 1 (1),pcD 2 [1] (fun w v=>IntV w v (((nat ax / nat bx + 1 : Nat) : Int)))] ?_
   refine sRd ?_
   refine sRc (fun wS hI Gk hG=>by go_simp; exact ck hG (r1of_any 1 _ oM oM)) (fun va1 _=>?_)
   refine sRc (fun wS hI ha1 Gk hG=>by go_simp; exact ck hG (r1add_any _ _ ((nat ax / nat bx : Nat) : Int) 1 _ (tq.ext hI.lext) ha1 SQ0.out S1.out)) (fun va2 _=>?_)
   refine sRe ?_
   intro w7 hbw7 ha1 ha2
   have hlw7:=lx hbw7
   obtain ⟨qn,qa,ql,qc,px,rfl,hpq⟩:=id ha2
   have HPQ:=Lib.hid hpq
   clear hpq
   have T7:=T7.below hbw7
   have T8:=T8.below hbw7
   have R1:=R1.below hbw7
   have R2:=R2.below hbw7
   have Y1:=Y1.below hbw7
   have Y2:=Y2.below hbw7
   clear c1 c2 c3 c4 d1 d2 d3 d4 k1 k2 k3 k4 l1 l2 l3 l4
   obtain ⟨c1,c2,c3,c4⟩:=T7.two
   go_upto_region 7 with (fail)
   refine wp_world ?_
   intro W8 hW8
   have T7':=Blk.at_ hW8 (T7.put2 _ _)
   have T8:=Blk.at_ hW8 ((T8.far oM _ _).far oM _ _)
   have R1:=Blk.at_ hW8 ((R1.far oM _ _).far oM _ _)
   have R2:=Blk.at_ hW8 ((R2.far oM _ _).far oM _ _)
   have Y1:=Blk.at_ hW8 ((Y1.far oM _ _).far oM _ _)
   have Y2:=Blk.at_ hW8 ((Y2.far oM _ _).far oM _ _)
   have hx8 : LExt w7 W8:=by rw [hW8.out]; exact T7.lext2 dE _ _
   have hBt : Below w.heap.size w W8:=by rw [hW8.out]; exact bset (bset (nx hBt hbw7) oM 0 _) oM 1 _
   have tr:=tr.ext ((lx hbw7).trans hx8)
   have tq:=ha2.ext hx8
   have h2x8 : LimbsAt W8 ba bx:=h2x6.ext ((lx hbw7).trans hx8)
   have T7:=T7'
   clear T7' hW8 hx8 hbw7 hlw7 c1 c2 c3 c4
   obtain ⟨l1,l2,l3,l4⟩:=Y2.two
   obtain ⟨d1,d2,d3,d4⟩:=T8.two
   have hl8:=T8.lt
   have hly:=Y2.lt
   have hse : sgn false (nat bx) - ((nat ax % nat bx : Nat) : Int) = ((nat bx - nat ax % nat bx : Nat) : Int):=by rw [sgn_false]; omega
   refine wp_serH 5 [pcI 2 (sgn false (nat bx)),pcD 4 [2] (fun w v=>IntV w v (((nat bx - nat ax % nat bx : Nat) : Int)))] ?_
   refine sRd ?_
   refine sRc (fun wS hI Gk hG=>by go_simp; exact ck hG (made_any ba (bm + 1) bc bx false _ H2L.out h2a h2b hbl8 (h2x8.ext hI.lext))) (fun vb2 _=>?_)
   refine sRd ?_
   refine sRc (fun wS hI hb2 Gk hG=>?_) (fun vb4 _=>?_)
   ·go_simp
    refine (r1sub_any _ _ (sgn false (nat bx)) ((nat ax % nat bx : Nat) : Int) _ hb2 (tr.ext hI.lext) SB.out SR.out).mono ?_
    rintro e wa ⟨v,rfl,hv,hba⟩
    rw [hse] at hv
    exact ⟨_,rfl,hG _ _ hv,hba⟩
   refine sRe ?_
   intro w9 hbw9 hb2 hb4
   have hlw9:=lx hbw9
   obtain ⟨rn,ra,rl,rc,ox,rfl,hor⟩:=id hb4
   have HOR:=Lib.hid hor
   clear hor
   have T7:=T7.below hbw9
   have T8:=T8.below hbw9
   have R1:=R1.below hbw9
   have R2:=R2.below hbw9
   have Y1:=Y1.below hbw9
   have Y2:=Y2.below hbw9
   clear d1 d2 d3 d4 l1 l2 l3 l4
   obtain ⟨d1,d2,d3,d4⟩:=T8.two
   obtain ⟨k1,k2,k3,k4⟩:=Y1.two
   obtain ⟨l1,l2,l3,l4⟩:=Y2.two
   go_upto_region 8 with (fail)
   refine wp_world ?_
   intro WA hWA
   have T8':=Blk.at_ hWA (T8.put2 _ _)
   have T7:=Blk.at_ hWA ((T7.far oM _ _).far oM _ _)
   have R1:=Blk.at_ hWA ((R1.far oM _ _).far oM _ _)
   have R2:=Blk.at_ hWA ((R2.far oM _ _).far oM _ _)
   have Y1:=Blk.at_ hWA ((Y1.far oM _ _).far oM _ _)
   have Y2:=Blk.at_ hWA ((Y2.far oM _ _).far oM _ _)
   have hxA : LExt w9 WA:=by rw [hWA.out]; exact T8.lext2 dE _ _
   have hBt : Below w.heap.size w WA:=by rw [hWA.out]; exact bset (bset (nx hBt hbw9) oM 0 _) oM 1 _
   have tr:=hb4.ext hxA
   have tq:=tq.ext ((lx hbw9).trans hxA)
   have T8:=T8'
   clear T8' hWA hxA hbw9 hlw9 d1 d2 d3 d4 k1 k2 k3 k4 l1 l2 l3 l4
   obtain ⟨k1,k2,k3,k4⟩:=Y1.two
   obtain ⟨l1,l2,l3,l4⟩:=Y2.two
   obtain ⟨c1,c2,c3,c4⟩:=T7.two
   obtain ⟨Q,hQ⟩ : ∃Q : Nat,nat ax / nat bx + 1 = Q:=⟨_,rfl⟩
   obtain ⟨R,hR⟩ : ∃R : Nat,nat bx - nat ax % nat bx = R:=⟨_,rfl⟩
   rw [hQ] at tq DM1 HSQ
   rw [hR] at tr DM2
   clear hQ hR
   obtain ⟨WX,hE⟩ : ∃W,W = WA:=⟨_,rfl⟩
   subst hE
  case' neg=>
   have hc : cmpI ((nat ax % nat bx : Nat) : Int) 0 = 0:=by unfold cmpI; rw [if_neg oM,if_neg oM]
   have hq : dmQ true (nat ax) (nat bx) = nat ax / nat bx:=by unfold dmQ; rw [if_neg (by simp; omega)]
   have hr : dmR true (nat ax) (nat bx) = nat ax % nat bx:=by unfold dmR; rw [if_neg (by simp; omega)]
   rw [hq] at DM1
   rw [hr] at DM2
   rw [hc]
   have HSQ:=Lib.hid (HSQ.out.mono (y:=((nat ax / nat bx : Nat) : Int)) (by simp only [Int.natAbs_natCast]; omega))
   clear hq hr hc
   obtain ⟨Q,hQ⟩ : ∃Q : Nat,nat ax / nat bx = Q:=⟨_,rfl⟩
   obtain ⟨R,hR⟩ : ∃R : Nat,nat ax % nat bx = R:=⟨_,rfl⟩
   rw [hQ] at tq DM1 HSQ
   rw [hR] at tr DM2
   clear hQ hR
   obtain ⟨WX,hE⟩ : ∃W,W = w6:=⟨_,rfl⟩
   subst hE
 all_goals
  cases bn
  all_goals
   first
    |have HD1 : Hid (z1 / z2 = (Q : Int)):=DM1
     clear DM1
     go_upto_region 10 with (fail)
     obtain ⟨Wn,hE⟩ : ∃W,W = WX:=⟨_,rfl⟩
     subst hE
     obtain ⟨F,hF⟩ : ∃F,(Q : Int) = F:=⟨_,rfl⟩
     rw [hF] at tq HD1
     clear hF
    |have HD1 : Hid (z1 / z2 = -(Q : Int)):=DM1
     clear DM1
     go_wp2_with fail
     refine (r1neg_any _ ((Q : Int)) _ tq.weak HSQ.out).mono ?_
     rintro e wn ⟨v,rfl,tq2,hbn⟩
     obtain ⟨qn,qa,ql,qc,nqx,rfl,hnq⟩:=id tq2
     have HNQ:=Lib.hid hnq
     clear hnq
     have T7:=T7.below hbn
     have T8:=T8.below hbn
     have R1:=R1.below hbn
     have R2:=R2.below hbn
     obtain ⟨c1,c2,c3,c4⟩:=T7.two
     go_upto_region 10 with (fail)
     refine wp_world ?_
     intro Wn hWn
     have T7':=Blk.at_ hWn (T7.put2 _ _)
     have T8:=Blk.at_ hWn ((T8.far oM _ _).far oM _ _)
     have R1:=Blk.at_ hWn ((R1.far oM _ _).far oM _ _)
     have R2:=Blk.at_ hWn ((R2.far oM _ _).far oM _ _)
     have hxn : LExt WX Wn:=by rw [hWn.out]; exact (lx hbn).trans (T7.lext2 dE _ _)
     have hBt : Below w.heap.size w Wn:=by rw [hWn.out]; exact bset (bset (nx hBt hbn) oM 0 _) oM 1 _
     have tr:=tr.ext hxn
     have tq : IntV Wn (.agg #[.bool qn,.slice qa ql qc]) (-(Q : Int)):=by rw [hWn.out]; exact tq2.ext (T7.lext2 dE _ _)
     have T7:=T7'
     clear T7' tq2 hWn hxn hbn
     obtain ⟨F,hF⟩ : ∃F,-(Q : Int) = F:=⟨_,rfl⟩
     rw [hF] at tq HD1
     clear hF
   have HD2 : Hid (z1 % z2 = (R : Int)):=DM2
   clear DM2
   obtain ⟨c1,c2,c3,c4⟩:=T7.two
   obtain ⟨d1,d2,d3,d4⟩:=T8.two
   have hl7:=T7.lt
   have hl8:=T8.lt
   refine wp_ses [pcD 0 [] (fun _ v=>v = .agg #[.bool qn,.slice qa ql qc]),pcD 1 [] (fun _ v=>v = .agg #[.bool rn,.slice ra rl rc]),pbE 2 (w.heap.size + 1 + 1) 66 2,pbE 3 (w.heap.size + 1 + 1 + 1) 66 2] ?_
   refine sRg (fun wS hI Gk hG=>?_) (fun _ hv=>?_)
   ·have cc0:=hI.cell c1
    have cc1:=hI.cell c2
    go_simp
    exact ⟨hG _ _ rfl,Below.refl _ _⟩
   obtain ⟨_,-,rfl⟩:=hv
   refine sRg (fun wS hI Gk hG=>?_) (fun _ hv=>?_)
   ·have cc0:=hI.cell d1
    have cc1:=hI.cell d2
    go_simp
    exact ⟨hG _ _ rfl,Below.refl _ _⟩
   obtain ⟨_,-,rfl⟩:=hv
   refine sRx (.agg #[.bool qn,.slice qa ql qc]) ?_
   refine sRx (.agg #[.bool rn,.slice ra rl rc]) ?_
   refine sRd ?_
   refine sRb ?_
   simp only [FA,FC,FN,ptr,List.nil_append,List.cons_append,Act.put,List.setIfInBounds_toArray,List.set_cons_zero,List.set_cons_succ]
   intro We hRWe _ _ ke2 ke3
   obtain ⟨exe2,eye2,ebe2,eie2⟩ : ∃xq yq,Blk We (w.heap.size + 1 + 1) 66 #[xq,yq]/\IntV We (.agg #[xq,yq]) (F):=⟨_,_,ke2 _ rfl,IntV.ext tq hRWe.lext⟩
   obtain ⟨exe3,eye3,ebe3,eie3⟩ : ∃xq yq,Blk We (w.heap.size + 1 + 1 + 1) 66 #[xq,yq]/\IntV We (.agg #[xq,yq]) ((R : Int)):=⟨_,_,ke3 _ rfl,IntV.ext tr hRWe.lext⟩
   clear ke2 ke3
   have hlWe:=hRWe.lext
   have hbWe:=hRWe.bel (w.heap.size)
   have holdWe : ∀k,k < Wn.heap.size->(∀s ∈ [((w.heap.size + 1 + 1 : Nat),0),((w.heap.size + 1 + 1 + 1 : Nat),0)],s.1 ≠ k)->We.heap[k]? = Wn.heap[k]?:=fun k hk hn=>hRWe.old k oM (by simp only [List.forall_mem_cons] at hn; repeat' (first | exact trivial | omega | refine ⟨?_,?_⟩))
   go_wp2_with fail
   refine bodyPost_ret (results_cct rfl _ rfl rfl ebe2 ebe3 rfl rfl) rfl ⟨_,_,rfl,?_,?_,hBt.trans hbWe⟩
   ·rw [HD1.out]; exact eie2
   ·rw [HD2.out]; exact eie3

def BoxI (w : World) (b : Nat) (z : Int) : Prop:=∃n a l c,Blk w b 66 #[.bool n,.slice a l c]/\IntV w (.agg #[.bool n,.slice a l c]) z
theorem BoxI.mk {w : World} {b : Nat} {z : Int} {x y : Value} (h : Blk w b 66 #[x,y]) (hv : IntV w (.agg #[x,y]) z) : BoxI w b z:=by
 obtain ⟨n,a,l,c,xs,e,h2⟩:=id hv
 injection e with e
 simp only [Array.mk.injEq,List.cons.injEq,and_true] at e
 obtain ⟨rfl,rfl⟩:=e
 exact ⟨_,_,_,_,h,hv⟩
theorem BoxI.old {w w' : World} {b : Nat} {z : Int} (h : BoxI w b z) (e : w'.heap[b]? = w.heap[b]?) (x : LExt w w') : BoxI w' b z:=by
 obtain ⟨n,a,l,c,h1,h2⟩:=h
 exact ⟨n,a,l,c,e.trans h1,h2.ext x⟩
theorem BoxI.lt {w : World} {b : Nat} {z : Int} (h : BoxI w b z) : b < w.heap.size:=by
 obtain ⟨n,a,l,c,h1,h2⟩:=h
 exact h1.lt
theorem BoxI.below {w w' : World} {b : Nat} {z : Int} (h : BoxI w b z) (hb : Below w.heap.size w w') : BoxI w' b z:=h.old (hb.block _ h.lt) (lx hb)
theorem BoxI.far {w : World} {b r : Nat} {z : Int} (h : BoxI w b z) (hne : b ≠ r) {t : TypeId} {cs : Array Value} (hr : Blk w r t cs) (ht : t ≠ tU) (x y : Value) : BoxI ((w.setCell ⟨r,0,none⟩ x).setCell ⟨r,1,none⟩ y) b z:=
 h.old ((Below.heap_setCell _ ⟨r,1,none⟩ _ b hne).trans (Below.heap_setCell _ ⟨r,0,none⟩ _ b hne)) (hr.lext2 ht x y)
theorem BoxI.put {w : World} {r : Nat} {z : Int} {c0 c1 : Value} (hr : Blk w r 66 #[c0,c1]) {x y : Value} (hv : IntV w (.agg #[x,y]) z) : BoxI ((w.setCell ⟨r,0,none⟩ x).setCell ⟨r,1,none⟩ y) r z:=
 BoxI.mk (hr.put2 _ _) (hv.ext (hr.lext2 dE _ _))
structure ExtK (w wr : World) (a b : Int) : Prop where
 a : BoxI wr w.heap.size a
 b : BoxI wr (w.heap.size + 1) b
 r1 : Blk wr (w.heap.size + 1 + 1) 66 #[.bool false,.slice none 0 0]
 r2 : Blk wr (w.heap.size + 1 + 1 + 1) 66 #[.bool false,.slice none 0 0]
 r3 : Blk wr (w.heap.size + 1 + 1 + 1 + 1) 66 #[.bool false,.slice none 0 0]
theorem ExtK.old {w wr w' : World} {a b : Int} (h : ExtK w wr a b) (e : ∀k,k<=w.heap.size + 1 + 1 + 1 + 1->w'.heap[k]? = wr.heap[k]?) (x : LExt wr w') : ExtK w w' a b:=
 ⟨h.a.old (e _ oM) x,h.b.old (e _ oM) x,(e _ oM).trans h.r1,(e _ oM).trans h.r2,(e _ oM).trans h.r3⟩
theorem ExtK.below {w wr w' : World} {a b : Int} (h : ExtK w wr a b) (hb : Below wr.heap.size wr w') : ExtK w w' a b:=
 h.old (fun k hk=>hb.block k (by have:=h.r3.lt; omega)) (lx hb)
structure ExtN (a b : Int) (x y : Nat) (σ : Bool) (p p' r r' : Nat) : Prop where
 hg : Nat.gcd x y = Int.gcd a b
 hx : (x : Int) = sgn σ p * (a.natAbs : Int) + sgn (!σ) r * (b.natAbs : Int)
 hy : (y : Int) = sgn (!σ) p' * (a.natAbs : Int) + sgn σ r' * (b.natAbs : Int)
 hb : p' * x + p * y = b.natAbs
 ha : r' * x + r * y = a.natAbs
 pb : p<=max 1 b.natAbs
 pb' : p'<=max 1 b.natAbs
 rb : r<=max 1 a.natAbs
 rb' : r'<=max 1 a.natAbs
 yb : y<=b.natAbs
 xb : x<=max a.natAbs b.natAbs
theorem ExtN.start (a b : Int) : ExtN a b a.natAbs b.natAbs false 1 0 0 1:=
 ⟨rfl,by simp,by simp,by simp,by simp,by omega,by omega,by omega,by omega,Nat.le_refl _,by omega⟩
theorem sgn_mulAdd (σ : Bool) (p q p' : Nat) : sgn σ p - (q : Int) * sgn (!σ) p' = sgn σ (p + q * p'):=by
 have e : ((q * p' : Nat) : Int) = (q : Int) * (p' : Int):=Int.natCast_mul _ _
 cases σ
 ·show (p : Int) - (q : Int) * (-(p' : Int)) = ((p + q * p' : Nat) : Int)
  rw [Int.natCast_add,e,Int.mul_neg]; omega
 ·show -(p : Int) - (q : Int) * ((p' : Nat) : Int) = -((p + q * p' : Nat) : Int)
  rw [Int.natCast_add,e]; omega
theorem ExtN.step {a b : Int} {x y : Nat} {σ : Bool} {p p' r r' : Nat} (h : ExtN a b x y σ p p' r r') (hy : 0 < y) :
  ExtN a b y (x % y) (!σ) p' (p + x / y * p') r' (r + x / y * r'):=by
 have hd:=Nat.div_add_mod x y
 have hm:=Nat.mod_lt x hy
 have e1 : (p + x / y * p') * y + p' * (x % y) = b.natAbs:=by
  rw [<-h.hb]
  have : p' * x = p' * (y * (x / y)) + p' * (x % y):=by rw [<-Nat.mul_add,hd]
  rw [this,Nat.add_mul,Nat.mul_comm (x / y) p',Nat.mul_assoc,Nat.mul_comm (x / y) y]
  omega
 have e2 : (r + x / y * r') * y + r' * (x % y) = a.natAbs:=by
  rw [<-h.ha]
  have : r' * x = r' * (y * (x / y)) + r' * (x % y):=by rw [<-Nat.mul_add,hd]
  rw [this,Nat.add_mul,Nat.mul_comm (x / y) r',Nat.mul_assoc,Nat.mul_comm (x / y) y]
  omega
 have b1 : p + x / y * p'<=b.natAbs:=by
  have:=Nat.le_mul_of_pos_right (p + x / y * p') hy
  omega
 have b2 : r + x / y * r'<=a.natAbs:=by
  have:=Nat.le_mul_of_pos_right (r + x / y * r') hy
  omega
 refine ⟨?_,by rw [Bool.not_not]; exact h.hy,?_,e1,e2,h.pb',by omega,h.rb',by omega,?_,by have:=h.yb; omega⟩
 ·rw [<-h.hg,Nat.gcd_comm x y,Nat.gcd_rec y x,Nat.gcd_comm]
 ·rw [Bool.not_not]
  have hq : ((x % y : Nat) : Int) = (x : Int) - ((x / y : Nat) : Int) * (y : Int):=by
   have : ((y * (x / y) + x % y : Nat) : Int) = (x : Int):=by rw [hd]
   rw [Int.natCast_add,Int.natCast_mul,Int.mul_comm] at this
   omega
  rw [hq,h.hx,h.hy,<-sgn_mulAdd,<-sgn_mulAdd (!σ) r (x / y) r',Bool.not_not]
  simp only [Int.sub_mul,Int.mul_add,Int.mul_assoc]
  omega
 ·have:=h.yb
  omega
def RetExt (w : World) (a b : Int) (e : Ending) (w' : World) : Prop:=
 ∃v1 v2 v3 s t,e = .returned (.tuple #[v1,v2,v3])/\IntV w' v1 ((Int.gcd a b : Nat) : Int)/\IntV w' v2 s/\IntV w' v3 t/\s * a + t * b = ((Int.gcd a b : Nat) : Int) ∧
  s.natAbs<=max 1 b.natAbs/\t.natAbs<=max 1 a.natAbs/\Below w.heap.size w w'
abbrev tI : TypeId:=66
def RowAt (w : World) (b : Nat) (zs : List Int) : Prop:=
 ∃cs : Array Value,w.heap[b]? = some (.cells cs tI (0,0))/\∀k z,zs[k]? = some z->∃s a l c,cs[k * 2]? = some (.bool s)/\cs[k * 2 + 1]? = some (.slice a l c)/\IntV w (.agg #[.bool s,.slice a l c]) z
theorem RowAt.lt {w : World} {b : Nat} {zs : List Int} (h : RowAt w b zs) : b < w.heap.size:=by
 obtain ⟨cs,h1,-⟩:=h
 exact (Array.getElem?_eq_some_iff.1 h1).1
theorem RowAt.old {w w' : World} {b : Nat} {zs : List Int} (h : RowAt w b zs) (e : w'.heap[b]? = w.heap[b]?) (x : LExt w w') : RowAt w' b zs:=by
 obtain ⟨cs,h1,h2⟩:=h
 refine ⟨cs,e.trans h1,fun k z hk=>?_⟩
 obtain ⟨s,a,l,c,e1,e2,e3⟩:=h2 k z hk
 exact ⟨s,a,l,c,e1,e2,e3.ext x⟩
theorem RowAt.below {w w' : World} {b : Nat} {zs : List Int} (h : RowAt w b zs) (hb : Below w.heap.size w w') : RowAt w' b zs:=h.old (hb.block _ h.lt) (lx hb)
theorem RowAt.cell {w : World} {b : Nat} {zs : List Int} (h : RowAt w b zs) {k : Nat} {z : Int} (hk : zs[k]? = some z) :
  ∃s a l c,w.cell? ⟨b,k * 2,none⟩ = some (.bool s)/\w.cell? ⟨b,k * 2 + 1,none⟩ = some (.slice a l c)/\w.frozen? ⟨b,k * 2,none⟩ = false/\w.frozen? ⟨b,k * 2 + 1,none⟩ = false/\IntV w (.agg #[.bool s,.slice a l c]) z:=by
 obtain ⟨cs,h1,h2⟩:=h
 obtain ⟨s,a,l,c,e1,e2,e3⟩:=h2 k z hk
 exact ⟨s,a,l,c,(cell_of_row w b _ cs tI _ h1).trans e1,(cell_of_row w b _ cs tI _ h1).trans e2,frozen_of_row w b _ cs tI h1,frozen_of_row w b _ cs tI h1,e3⟩
theorem RowAt.lext {w : World} {b : Nat} {zs : List Int} (h : RowAt w b zs) (i : Nat) (u : Value) : LExt w (w.setCell ⟨b,i,none⟩ u):=by
 obtain ⟨cs,h1,-⟩:=h
 exact Blk.lext (show Blk w b tI cs from h1) dE i u
theorem setCell_old (w : World) (b i k : Nat) (u : Value) (h : k ≠ b) : (w.setCell ⟨b,i,none⟩ u).heap[k]? = w.heap[k]?:=Below.heap_setCell w ⟨b,i,none⟩ u k h
theorem set2_old (w : World) (b i j k : Nat) (u v : Value) (h : k ≠ b) : ((w.setCell ⟨b,i,none⟩ u).setCell ⟨b,j,none⟩ v).heap[k]? = w.heap[k]?:=
 (setCell_old _ b j k v h).trans (setCell_old _ b i k u h)
theorem RowAt.set {w : World} {b : Nat} {zs : List Int} (h : RowAt w b zs) {k : Nat} (hk : k < zs.length) {s : Bool} {a : Option Addr} {l c : Nat} {z : Int} (hv : IntV w (.agg #[.bool s,.slice a l c]) z) :
  RowAt ((w.setCell ⟨b,k * 2,none⟩ (.bool s)).setCell ⟨b,k * 2 + 1,none⟩ (.slice a l c)) b (zs.set k z)/\LExt w ((w.setCell ⟨b,k * 2,none⟩ (.bool s)).setCell ⟨b,k * 2 + 1,none⟩ (.slice a l c)):=by
 obtain ⟨cs,h1,h2⟩:=h
 have hB : Blk w b tI cs:=h1
 have hx : LExt w ((w.setCell ⟨b,k * 2,none⟩ (.bool s)).setCell ⟨b,k * 2 + 1,none⟩ (.slice a l c)):=(hB.lext dE _ _).trans ((hB.set_ _ _).lext dE _ _)
 refine ⟨⟨(cs.setIfInBounds (k * 2) (.bool s)).setIfInBounds (k * 2 + 1) (.slice a l c),(hB.set_ _ _).set_ _ _,?_⟩,hx⟩
 intro j y hj
 by_cases e : j = k
 ·subst e
  rw [List.getElem?_set_self hk] at hj
  injection hj with hj
  subst hj
  obtain ⟨s0,a0,l0,c0,e1,e2,-⟩:=h2 j zs[j] (List.getElem?_eq_getElem hk)
  have l1:=(Array.getElem?_eq_some_iff.1 e1).1
  have l2:=(Array.getElem?_eq_some_iff.1 e2).1
  refine ⟨s,a,l,c,?_,?_,hv.ext hx⟩
  ·rw [Array.getElem?_setIfInBounds_ne oM,Array.getElem?_setIfInBounds_self_of_lt l1]
  ·rw [Array.getElem?_setIfInBounds_self_of_lt (by simpa using l2)]
 ·rw [List.getElem?_set_ne (Ne.symm e)] at hj
  obtain ⟨s0,a0,l0,c0,e1,e2,e3⟩:=h2 j y hj
  refine ⟨s0,a0,l0,c0,?_,?_,e3.ext hx⟩
  ·rw [Array.getElem?_setIfInBounds_ne oM,Array.getElem?_setIfInBounds_ne oM]; exact e1
  ·rw [Array.getElem?_setIfInBounds_ne oM,Array.getElem?_setIfInBounds_ne oM]; exact e2
def VecV (w : World) (v : Value) (zs : List Int) : Prop:=
 ∃ao n cap,v = .slice ao n cap/\zs.length = n/\n<=cap/\cap<=9223372036854775807/\(zs ≠ []->∃b,ao = some ⟨b,0,none⟩/\RowAt w b zs)
theorem VecV.nil (w : World) : VecV w (.slice none 0 0) []:=⟨none,0,0,rfl,rfl,Nat.le_refl _,by omega,fun h=>absurd rfl h⟩
theorem VecV.below {w w' : World} {v : Value} {zs : List Int} (h : VecV w v zs) (hb : Below w.heap.size w w') : VecV w' v zs:=by
 obtain ⟨ao,n,cap,h1,h2,h3,h4,h5⟩:=h
 exact ⟨ao,n,cap,h1,h2,h3,h4,fun hn=>(h5 hn).elim fun b h=>⟨b,h.1,h.2.below hb⟩⟩
theorem VecV.cell {w : World} {ao : Option Addr} {n cap : Nat} {zs : List Int} (h : VecV w (.slice ao n cap) zs) {k : Nat} (hk : k < zs.length) :
  ∃b z s a l c,ao = some ⟨b,0,none⟩/\b < w.heap.size/\zs[k]? = some z/\w.cell? ⟨b,k * 2,none⟩ = some (.bool s)/\w.cell? ⟨b,k * 2 + 1,none⟩ = some (.slice a l c)/\IntV w (.agg #[.bool s,.slice a l c]) z:=by
 obtain ⟨ao',n',cap',h1,h2,h3,h4,h5⟩:=h
 injection h1 with e1 e2 e3
 subst e1
 obtain ⟨b,e,hr⟩:=h5 (by rintro rfl; simp at hk)
 obtain ⟨s,a,l,c,c1,c2,-,-,c5⟩:=hr.cell (List.getElem?_eq_getElem hk)
 exact ⟨b,_,s,a,l,c,e,hr.lt,List.getElem?_eq_getElem hk,c1,c2,c5⟩
theorem VecV.len {w : World} {ao : Option Addr} {n cap : Nat} {zs : List Int} (h : VecV w (.slice ao n cap) zs) : zs.length = n/\n<=cap/\cap<=9223372036854775807:=by
 obtain ⟨ao',n',cap',h1,h2,h3,h4,h5⟩:=h
 injection h1 with e1 e2 e3
 omega
def RowsV (w : World) (v : Value) (M : List (List Int)) : Prop:=
 ∃ao n cap,v = .slice ao n cap/\M.length = n/\n<=cap/\cap<=9223372036854775807/\(M ≠ []->∃(b : Nat) (cs : Array Value),ao = some ⟨b,0,none⟩/\w.heap[b]? = some (.cells cs 116 (0,0))/\∀(k : Nat) (zs : List Int),M[k]? = some zs->∃rv,cs[k]? = some rv/\VecV w rv zs)
theorem RowsV.nil (w : World) : RowsV w (.slice none 0 0) []:=⟨none,0,0,rfl,rfl,Nat.le_refl _,by omega,fun h=>absurd rfl h⟩
theorem RowsV.below {w w' : World} {v : Value} {M : List (List Int)} (h : RowsV w v M) (hb : Below w.heap.size w w') : RowsV w' v M:=by
 obtain ⟨ao,n,cap,h1,h2,h3,h4,h5⟩:=h
 refine ⟨ao,n,cap,h1,h2,h3,h4,fun hn=>?_⟩
 obtain ⟨b,cs,e1,e2,e3⟩:=h5 hn
 refine ⟨b,cs,e1,(hb.block _ (Array.getElem?_eq_some_iff.1 e2).1).trans e2,fun k zs hk=>?_⟩
 obtain ⟨rv,e4,e5⟩:=e3 k zs hk
 exact ⟨rv,e4,e5.below hb⟩
theorem RowsV.row {w : World} {ao : Option Addr} {n cap : Nat} {M : List (List Int)} (h : RowsV w (.slice ao n cap) M) {k : Nat} (hk : k < M.length) :
  ∃b ra rn rc zs,ao = some ⟨b,0,none⟩/\b < w.heap.size/\M[k]? = some zs/\w.cell? ⟨b,k,none⟩ = some (.slice ra rn rc)/\VecV w (.slice ra rn rc) zs:=by
 obtain ⟨ao',n',cap',h1,h2,h3,h4,h5⟩:=h
 injection h1 with e1 e2 e3
 subst e1
 obtain ⟨b,cs,e,hr,hc⟩:=h5 (by rintro rfl; simp at hk)
 obtain ⟨rv,c1,c2⟩:=hc k _ (List.getElem?_eq_getElem hk)
 obtain ⟨ra,rn,rc,rfl,c3⟩:=id c2
 exact ⟨b,ra,rn,rc,_,e,(Array.getElem?_eq_some_iff.1 hr).1,List.getElem?_eq_getElem hk,(cell_of_row w b k cs _ _ hr).trans c1,c2⟩
theorem RowsV.len {w : World} {ao : Option Addr} {n cap : Nat} {M : List (List Int)} (h : RowsV w (.slice ao n cap) M) : M.length = n/\n<=cap/\cap<=9223372036854775807:=by
 obtain ⟨ao',n',cap',h1,h2,h3,h4,h5⟩:=h
 injection h1 with e1 e2 e3
 omega
def MatV (w : World) (v : Value) (R C : Int) (M : List (List Int)) : Prop:=∃A,v = .agg #[.int .i64 R,.int .i64 C,A]/\RowsV w A M
theorem MatV.below {w w' : World} {v : Value} {R C : Int} {M : List (List Int)} (h : MatV w v R C M) (hb : Below w.heap.size w w') : MatV w' v R C M:=by
 obtain ⟨A,h1,h2⟩:=h
 exact ⟨A,h1,h2.below hb⟩
def Fits (R C : Nat) (M : List (List Int)) : Prop:=M.length = R/\∀r ∈ M,r.length = C
set_option maxHeartbeats 1000000 in
set_option maxRecDepth 20000 in
theorem validvec_any (v : Value) (zs : List Int) (w : World) (h : VecV w v zs) :
  Calls Tryz.prog 107 #[v] w fun e w'=>e = .returned (.bool true)/\Below w.heap.size w w':=by
 obtain ⟨ao,n,cap,rfl,h2,h3,h4,h5⟩:=id h
 have HL:=Lib.hid h2
 clear h2 h5
 go_enter Tryz.func107,Tryz.ntmps107
 go_wp2
 go_loopw [3] (fun i wr=>∃k : Nat,k<=n/\i = .int .i64 k/\Below w.heap.size w wr) (fun i _=>n - (intOf i).toNat)
 case atStart=>exact ⟨0,by omega,rfl,Below.refl _ _⟩
 case round=>
  obtain ⟨k,hk,rfl,hb⟩:=hrel
  by_cases hlt : k < n
  ·obtain ⟨b,z,s,a,l,c,rfl,hbl,-,c1,c2,hv⟩:=(h.below hb).cell (k:=k) (by rw [HL.out]; exact hlt)
   go_wp2_with fail
   refine (r1valid_any _ _ wr hv).mono ?_
   rintro e w1 ⟨rfl,hb1⟩
   go_wp2
   go_roundw
   case rel=>exact ⟨k + 1,by omega,by simp,nx hb hb1⟩
   case measure=>simp [intOf]; omega
  ·obtain rfl : k = n:=by omega
   go_wp2
   go_ret
   exact ⟨rfl,hb⟩
theorem take_same {α : Type} {xs ys : List α} {k : Nat} {x y : α} (h : xs.take k = ys.take k) (hx : xs[k]? = some x) (hy : ys[k]? = some y) (e : x = y) : xs.take (k + 1) = ys.take (k + 1):=by
 rw [List.take_add_one,List.take_add_one,hx,hy,h,e]
theorem take_differ {α : Type} {xs ys : List α} {k : Nat} {x y : α} (hx : xs[k]? = some x) (hy : ys[k]? = some y) (e : x ≠ y) : xs ≠ ys:=by
 rintro rfl
 rw [hx] at hy
 injection hy with hy
 exact e hy
set_option maxHeartbeats 1000000 in
set_option maxRecDepth 20000 in
theorem samevec_any (v1 v2 : Value) (xs ys : List Int) (w : World) (h1 : VecV w v1 xs) (h2 : VecV w v2 ys) :
  Calls Tryz.prog 61 #[v1,v2] w fun e w'=>e = .returned (.bool (decide (xs = ys)))/\Below w.heap.size w w':=by
 obtain ⟨ao,n,cap,rfl,e2,e3,e4,e5⟩:=id h1
 obtain ⟨bo,m,bcap,rfl,f2,f3,f4,f5⟩:=id h2
 have HX:=Lib.hid e2
 have HY:=Lib.hid f2
 clear e2 e5 f2 f5
 by_cases hlen : n = m
 ·subst hlen
  go_enter Tryz.func61,Tryz.ntmps61
  go_wp2
  go_loopw [5] (fun i wr=>∃k : Nat,k<=n/\i = .int .i64 k/\Below w.heap.size w wr/\Hid (xs.take k = ys.take k)) (fun i _=>n - (intOf i).toNat)
  case atStart=>exact ⟨0,by omega,rfl,Below.refl _ _,by rw [List.take_zero,List.take_zero]; exact Lib.hid rfl⟩
  case round=>
   obtain ⟨k,hk,rfl,hb,hsame⟩:=hrel
   by_cases hlt : k < n
   ·obtain ⟨b,z,s,a,l,c,rfl,hbl,hz,c1,c2,hv⟩:=(h1.below hb).cell (k:=k) (by rw [HX.out]; exact hlt)
    obtain ⟨b',z',s',a',l',c',rfl,hbl',hz',d1,d2,hv'⟩:=(h2.below hb).cell (k:=k) (by rw [HY.out]; exact hlt)
    have HZ:=Lib.hid hz
    have HZ':=Lib.hid hz'
    clear hz hz'
    have c1':=kc_drew c1
    have c2':=kc_drew c2
    have d1':=kc_drew d1
    have d2':=kc_drew d2
    go_upto_region 6 with (fail)
    go_still_tail 8,kR
    change wpList _ _ _ _ _ wr.drew
    go_wp2_with fail
    refine (r1same_any _ _ z z' _ (hv.ext (lx (dr _))) (hv'.ext (lx (dr _)))).mono ?_
    rintro e w1 ⟨rfl,hb1⟩
    by_cases he : z = z'
    ·rw [decide_eq_true he]
     go_wp2
     go_roundw
     case rel=>exact ⟨k + 1,by omega,by simp,nx (nx hb (dr _)) hb1,Lib.hid (take_same hsame.out HZ.out HZ'.out he)⟩
     case measure=>simp [intOf]; omega
    ·rw [decide_eq_false he]
     go_wp2
     go_ret
     exact ⟨by rw [decide_eq_false (take_differ HZ.out HZ'.out he)]; rfl,nx (nx hb (dr _)) hb1⟩
   ·obtain rfl : k = n:=by omega
    go_wp2
    go_ret
    refine ⟨?_,hb⟩
    have:=hsame.out
    rw [<-HX.out,List.take_length,HX.out,<-HY.out,List.take_length] at this
    rw [decide_eq_true this]
    rfl
 ·have hne : xs ≠ ys:=by rintro rfl; exact hlen (HX.out.symm.trans HY.out)
  have hd:=decide_eq_false hne
  rw [hd]
  have hi : ¬ (n : Int) = (m : Int):=by omega
  go_enter Tryz.func61,Tryz.ntmps61
  go_wp2
  go_ret
  exact ⟨rfl,Below.refl _ _⟩
def RowsW (w : World) (v : Value) (M : List (List Int)) : Prop:=
 ∃ao n cap,v = .slice ao n cap/\M.length = n/\n<=cap/\cap<=9223372036854775807/\(M ≠ []->∃(b o : Nat) (cs : Array Value),ao = some ⟨b,o,none⟩/\w.heap[b]? = some (.cells cs 116 (0,0))/\∀(k : Nat) (zs : List Int),M[k]? = some zs->∃rv,cs[o + k]? = some rv/\VecV w rv zs)
theorem RowsV.off0 {w : World} {v : Value} {M : List (List Int)} (h : RowsV w v M) : RowsW w v M:=by
 obtain ⟨ao,n,cap,h1,h2,h3,h4,h5⟩:=h
 refine ⟨ao,n,cap,h1,h2,h3,h4,fun hn=>?_⟩
 obtain ⟨b,cs,e1,e2,e3⟩:=h5 hn
 exact ⟨b,0,cs,e1,e2,fun k zs hk=>by rw [Nat.zero_add]; exact e3 k zs hk⟩
theorem RowsW.below {w w' : World} {v : Value} {M : List (List Int)} (h : RowsW w v M) (hb : Below w.heap.size w w') : RowsW w' v M:=by
 obtain ⟨ao,n,cap,h1,h2,h3,h4,h5⟩:=h
 refine ⟨ao,n,cap,h1,h2,h3,h4,fun hn=>?_⟩
 obtain ⟨b,o,cs,e1,e2,e3⟩:=h5 hn
 refine ⟨b,o,cs,e1,(hb.block _ (Array.getElem?_eq_some_iff.1 e2).1).trans e2,fun k zs hk=>?_⟩
 obtain ⟨rv,e4,e5⟩:=e3 k zs hk
 exact ⟨rv,e4,e5.below hb⟩
theorem RowsW.row {w : World} {ao : Option Addr} {n cap : Nat} {M : List (List Int)} (h : RowsW w (.slice ao n cap) M) {k : Nat} (hk : k < M.length) :
  ∃b o ra rn rc zs,ao = some ⟨b,o,none⟩/\b < w.heap.size/\M[k]? = some zs/\w.cell? ⟨b,o + k,none⟩ = some (.slice ra rn rc)/\VecV w (.slice ra rn rc) zs:=by
 obtain ⟨ao',n',cap',h1,h2,h3,h4,h5⟩:=h
 injection h1 with e1 e2 e3
 subst e1
 obtain ⟨b,o,cs,e,hr,hc⟩:=h5 (by rintro rfl; simp at hk)
 obtain ⟨rv,c1,c2⟩:=hc k _ (List.getElem?_eq_getElem hk)
 obtain ⟨ra,rn,rc,rfl,c3⟩:=id c2
 exact ⟨b,o,ra,rn,rc,_,e,(Array.getElem?_eq_some_iff.1 hr).1,List.getElem?_eq_getElem hk,(cell_of_row w b _ cs _ _ hr).trans c1,c2⟩
def MatW (w : World) (v : Value) (R C : Int) (M : List (List Int)) : Prop:=∃A,v = .agg #[.int .i64 R,.int .i64 C,A]/\RowsW w A M
theorem MatV.off {w : World} {v : Value} {R C : Int} {M : List (List Int)} (h : MatV w v R C M) : MatW w v R C M:=by
 obtain ⟨A,h1,h2⟩:=h
 exact ⟨A,h1,h2.off0⟩
theorem MatW.below {w w' : World} {v : Value} {R C : Int} {M : List (List Int)} (h : MatW w v R C M) (hb : Below w.heap.size w w') : MatW w' v R C M:=by
 obtain ⟨A,h1,h2⟩:=h
 exact ⟨A,h1,h2.below hb⟩
set_option maxHeartbeats 2000000 in
set_option maxRecDepth 20000 in
theorem same_any (v1 v2 : Value) (R1 C1 R2 C2 : Int) (M1 M2 : List (List Int)) (w : World) (h1 : MatV w v1 R1 C1 M1) (h2 : MatV w v2 R2 C2 M2) :
  Calls Tryz.prog 18 #[v1,v2] w fun e w'=>e = .returned (.bool (decide (R1 = R2/\C1 = C2/\M1 = M2)))/\Below w.heap.size w w':=by
 obtain ⟨A1,rfl,h1⟩:=h1
 obtain ⟨A2,rfl,h2⟩:=h2
 obtain ⟨ao,n,cap,rfl,e2,e3,e4,-⟩:=id h1
 obtain ⟨bo,m,bcap,rfl,f2,f3,f4,-⟩:=id h2
 have HX:=Lib.hid e2
 have HY:=Lib.hid f2
 clear e2 f2
 by_cases hall : R1 = R2/\C1 = C2/\n = m
 ·obtain ⟨rfl,rfl,rfl⟩:=hall
  have hd : decide (R1 = R1/\C1 = C1/\M1 = M2) = decide (M1 = M2):=by simp
  rw [hd]
  clear hd
  go_enter Tryz.func18,Tryz.ntmps18
  go_upto_region 1 with (fail)
  refine wp_world ?_
  intro W0 hW0
  obtain ⟨hB0,bx1,bx2,hs0⟩:=world2 hW0
  obtain ⟨c1,c2,c3,c4,c5,c6⟩:=bx1.three
  obtain ⟨d1,d2,d3,d4,d5,d6⟩:=bx2.three
  have h1:=h1.below hB0
  have h2:=h2.below hB0
  go_wp2
  go_loopw [5] (fun i wr=>∃k : Nat,k<=n/\i = .int .i64 k/\Below w.heap.size w wr/\Below W0.heap.size W0 wr/\Hid (M1.take k = M2.take k)) (fun i _=>n - (intOf i).toNat)
  case atStart=>exact ⟨0,by omega,rfl,hB0,Below.refl _ _,by rw [List.take_zero,List.take_zero]; exact Lib.hid rfl⟩
  case round=>
   obtain ⟨k,hk,rfl,hb,hb0,hsame⟩:=hrel
   have bx1:=bx1.below hb0
   have bx2:=bx2.below hb0
   clear c1 c2 c3 c4 c5 c6 d1 d2 d3 d4 d5 d6
   obtain ⟨c1,c2,c3,c4,c5,c6⟩:=bx1.three
   obtain ⟨d1,d2,d3,d4,d5,d6⟩:=bx2.three
   by_cases hlt : k < n
   ·obtain ⟨b,ra,rn,rc,zs,rfl,hbl,hz,p1,hv⟩:=(h1.below hb0).row (k:=k) (by rw [HX.out]; exact hlt)
    obtain ⟨b',ra',rn',rc',zs',rfl,hbl',hz',q1,hv'⟩:=(h2.below hb0).row (k:=k) (by rw [HY.out]; exact hlt)
    have HZ:=Lib.hid hz
    have HZ':=Lib.hid hz'
    clear hz hz'
    have c3':=kc_drew c3
    have d3':=kc_drew d3
    have p1':=kc_drew p1
    have q1':=kc_drew q1
    go_upto_region 6 with (fail)
    go_still_tail 10,kR
    change wpList _ _ _ _ _ wr.drew
    go_wp2_with fail
    refine (samevec_any _ _ zs zs' _ (hv.below (dr _)) (hv'.below (dr _))).mono ?_
    rintro e w1 ⟨rfl,hb1⟩
    by_cases he : zs = zs'
    ·rw [decide_eq_true he]
     go_wp2
     go_roundw
     case rel=>exact ⟨k + 1,by omega,by simp,nx (nx hb (dr _)) hb1,nx (nx hb0 (dr _)) hb1,Lib.hid (take_same hsame.out HZ.out HZ'.out he)⟩
     case measure=>simp [intOf]; omega
    ·rw [decide_eq_false he]
     go_wp2
     go_ret
     exact ⟨by rw [decide_eq_false (take_differ HZ.out HZ'.out he)]; rfl,nx (nx hb (dr _)) hb1⟩
   ·obtain rfl : k = n:=by omega
    go_wp2
    go_ret
    refine ⟨?_,hb⟩
    have:=hsame.out
    rw [<-HX.out,List.take_length,HX.out,<-HY.out,List.take_length] at this
    rw [decide_eq_true this]
    rfl
 ·have hne : ¬ (R1 = R2/\C1 = C2/\M1 = M2):=by
   rintro ⟨a,b,c⟩
   subst c
   exact hall ⟨a,b,HX.out.symm.trans HY.out⟩
  rw [decide_eq_false hne]
  clear hne
  by_cases hR : R1 = R2
  ·by_cases hC : C1 = C2
   ·have hn : ¬ (n : Int) = (m : Int):=fun h=>hall ⟨hR,hC,by omega⟩
    clear hall
    go_enter Tryz.func18,Tryz.ntmps18
    go_upto_region 1 with (fail)
    refine wp_world ?_
    intro W0 hW0
    obtain ⟨hB0,bx1,bx2,hs0⟩:=world2 hW0
    obtain ⟨c1,c2,c3,c4,c5,c6⟩:=bx1.three
    obtain ⟨d1,d2,d3,d4,d5,d6⟩:=bx2.three
    go_wp2
    go_ret
    exact ⟨rfl,hB0⟩
   ·clear hall
    go_enter Tryz.func18,Tryz.ntmps18
    go_upto_region 1 with (fail)
    refine wp_world ?_
    intro W0 hW0
    obtain ⟨hB0,bx1,bx2,hs0⟩:=world2 hW0
    obtain ⟨c1,c2,c3,c4,c5,c6⟩:=bx1.three
    obtain ⟨d1,d2,d3,d4,d5,d6⟩:=bx2.three
    go_wp2
    go_ret
    exact ⟨rfl,hB0⟩
  ·clear hall
   go_enter Tryz.func18,Tryz.ntmps18
   go_upto_region 1 with (fail)
   refine wp_world ?_
   intro W0 hW0
   obtain ⟨hB0,bx1,bx2,hs0⟩:=world2 hW0
   obtain ⟨c1,c2,c3,c4,c5,c6⟩:=bx1.three
   obtain ⟨d1,d2,d3,d4,d5,d6⟩:=bx2.three
   go_wp2
   go_ret
   exact ⟨rfl,hB0⟩
def ValidM (R C : Int) (M : List (List Int)) : Prop:=0<=R/\0<=C/\(M.length : Int) = R/\∀r ∈ M,(r.length : Int) = C
instance (R C : Int) (M : List (List Int)) : Decidable (ValidM R C M):=inferInstanceAs (Decidable (_/\_))
set_option maxHeartbeats 2000000 in
set_option maxRecDepth 20000 in
theorem r5valid_off (v : Value) (R C : Int) (M : List (List Int)) (w : World) (h : MatW w v R C M) :
  Calls Tryz.prog 77 #[v] w fun e w'=>e = .returned (.bool (decide (ValidM R C M)))/\Below w.heap.size w w':=by
 obtain ⟨A,rfl,h⟩:=h
 obtain ⟨ao,n,cap,rfl,e2,e3,e4,-⟩:=id h
 have HX:=Lib.hid e2
 clear e2
 by_cases hall : 0<=R/\0<=C/\(n : Int) = R
 ·obtain ⟨h0,h1,rfl⟩:=hall
  have hd : decide (ValidM n C M) = decide (∀r ∈ M,(r.length : Int) = C):=decide_eq_decide.2 ⟨fun h=>h.2.2.2,fun h=>⟨h0,h1,by rw [HX.out],h⟩⟩
  rw [hd]
  clear hd
  go_enter Tryz.func77,Tryz.ntmps77
  go_upto_region 1 with (fail)
  refine wp_world ?_
  intro W0 hW0
  obtain ⟨hB0,bx1,hs0⟩:=world1 hW0
  obtain ⟨c1,c2,c3,c4,c5,c6⟩:=bx1.three
  have h:=h.below hB0
  go_wp2
  go_loopw [3] (fun i wr=>∃k : Nat,k<=n/\i = .int .i64 k/\Below w.heap.size w wr/\Below W0.heap.size W0 wr/\Hid (∀r ∈ M.take k,(r.length : Int) = C)) (fun i _=>n - (intOf i).toNat)
  case atStart=>exact ⟨0,by omega,rfl,hB0,Below.refl _ _,by rw [List.take_zero]; exact Lib.hid (fun r hr=>by cases hr)⟩
  case round=>
   obtain ⟨k,hk,rfl,hb,hb0,hall⟩:=hrel
   have bx1:=bx1.below hb0
   clear c1 c2 c3 c4 c5 c6
   obtain ⟨c1,c2,c3,c4,c5,c6⟩:=bx1.three
   by_cases hlt : k < n
   ·obtain ⟨b,o,ra,rn,rc,zs,rfl,hbl,hz,p1,hv⟩:=(h.below hb0).row (k:=k) (by rw [HX.out]; exact hlt)
    have HZ:=Lib.hid hz
    have HL:=Lib.hid hv.len.1
    clear hz
    have c2':=kc_drew c2
    have c3':=kc_drew c3
    have p1':=kc_drew p1
    go_upto_region 6 with (fail)
    by_cases hrc : (rn : Int) = C
    ·go_still_tail 15,kR
     change wpList _ _ _ _ _ wr.drew
     go_wp2_with fail
     refine (validvec_any _ zs _ (hv.below (dr _))).mono ?_
     rintro e w1 ⟨rfl,hb1⟩
     go_wp2
     go_roundw
     case rel=>
      refine ⟨k + 1,by omega,by simp,nx (nx hb (dr _)) hb1,nx (nx hb0 (dr _)) hb1,Lib.hid ?_⟩
      rw [List.take_add_one,HZ.out]
      intro r hr
      rcases List.mem_append.1 hr with hr | hr
      ·exact hall.out r hr
      ·simp at hr
       rw [hr,HL.out,hrc]
     case measure=>simp [intOf]; omega
    ·go_quiet (fail)
     go_wp2
     go_ret
     refine ⟨?_,nx hb (drN _ _)⟩
     have hbad : ¬ ∀r ∈ M,(r.length : Int) = C:=fun hh=>hrc (by rw [<-HL.out]; exact hh zs (List.mem_of_getElem? HZ.out))
     rw [decide_eq_false hbad]
     rfl
   ·obtain rfl : k = n:=by omega
    go_wp2
    go_ret
    refine ⟨?_,hb⟩
    have:=hall.out
    rw [<-HX.out,List.take_length] at this
    rw [decide_eq_true this]
    rfl
 ·have hne : ¬ ValidM R C M:=by
   rintro ⟨a,b,c,-⟩
   exact hall ⟨a,b,by rw [<-HX.out]; exact c⟩
  rw [decide_eq_false hne]
  clear hne
  by_cases hR : 0<=R
  ·have hR' : ¬ R < 0:=by omega
   by_cases hC : 0<=C
   ·have hn : ¬ (n : Int) = R:=fun h=>hall ⟨hR,hC,h⟩
    have hC' : ¬ C < 0:=by omega
    clear hall
    go_enter Tryz.func77,Tryz.ntmps77
    go_upto_region 1 with (fail)
    refine wp_world ?_
    intro W0 hW0
    obtain ⟨hB0,bx1,hs0⟩:=world1 hW0
    obtain ⟨c1,c2,c3,c4,c5,c6⟩:=bx1.three
    go_wp2
    go_ret
    exact ⟨rfl,hB0⟩
   ·have hC' : C < 0:=by omega
    clear hall
    go_enter Tryz.func77,Tryz.ntmps77
    go_upto_region 1 with (fail)
    refine wp_world ?_
    intro W0 hW0
    obtain ⟨hB0,bx1,hs0⟩:=world1 hW0
    obtain ⟨c1,c2,c3,c4,c5,c6⟩:=bx1.three
    go_wp2
    go_ret
    exact ⟨rfl,hB0⟩
  ·have hR' : R < 0:=by omega
   clear hall
   go_enter Tryz.func77,Tryz.ntmps77
   go_upto_region 1 with (fail)
   refine wp_world ?_
   intro W0 hW0
   obtain ⟨hB0,bx1,hs0⟩:=world1 hW0
   obtain ⟨c1,c2,c3,c4,c5,c6⟩:=bx1.three
   go_wp2
   go_ret
   exact ⟨rfl,hB0⟩
theorem r5valid_any (v : Value) (R C : Int) (M : List (List Int)) (w : World) (h : MatV w v R C M) :
  Calls Tryz.prog 77 #[v] w fun e w'=>e = .returned (.bool (decide (ValidM R C M)))/\Below w.heap.size w w':=r5valid_off v R C M w h.off
theorem cmpI_zero {z : Int} (h : z = 0) : cmpI z 0 = 0:=by subst h; rfl
theorem cmpI_ne {z : Int} (h : z ≠ 0) : cmpI z 0 ≠ 0:=by unfold cmpI; split <;> (try split) <;> omega
theorem cmpI_dec (z : Int) : decide (cmpI z 0 = 0) = decide (z = 0):=decide_eq_decide.2 ⟨fun h=>Classical.byContradiction fun hh=>cmpI_ne hh h,cmpI_zero⟩
def OffZero (i C : Nat) (r : List Int) : Prop:=∀k,k < C->k ≠ i->r.getD k 0 = 0
instance (i C : Nat) (r : List Int) : Decidable (OffZero i C r):=inferInstanceAs (Decidable (∀k,k < C->_))
def isGo (C : Nat) : Nat->Int->List (List Int)->Bool
 | _,_,[]=>true
 | i,last,r :: rs=>decide (OffZero i C r) && (if i < C then decide (0<=r.getD i 0) && decide (last ∣ r.getD i 0) && isGo C (i + 1) (r.getD i 0) rs else isGo C (i + 1) last rs)
def IsM (R C : Int) (M : List (List Int)) : Bool:=decide (ValidM R C M) && isGo C.toNat 0 1 M
theorem drop_cons {α : Type} {l : List α} {k : Nat} {x : α} (h : l[k]? = some x) : l.drop k = x :: l.drop (k + 1):=by
 obtain ⟨h1,h2⟩:=List.getElem?_eq_some_iff.1 h
 rw [List.drop_eq_getElem_cons h1,h2]
theorem getD_of {α : Type} {l : List α} {k : Nat} {x d : α} (h : l[k]? = some x) : l.getD k d = x:=by simp [List.getD_eq_getElem?_getD,h]
theorem Smd.one {z : Int} (h : z.natAbs<=1) : Smd z:=⟨Nat.lt_of_le_of_lt h (by
 have h1:=B32_pow_lt 0 DLIM (by rw [DLIM_eq]; omega)
 rw [Nat.pow_zero] at h1
 exact h1)⟩

def diagGo : Nat->List (List Int)->Bool
 | _,[]=>true
 | i,r :: rs=>decide (OffZero i r.length r) && diagGo (i + 1) rs
theorem diagGo_step {i : Nat} {r : List Int} {rs : List (List Int)} (h : OffZero i r.length r) : diagGo i (r :: rs) = diagGo (i + 1) rs:=by
 conv=>lhs; unfold diagGo
 rw [decide_eq_true h,Bool.true_and]
theorem Tryz.infoI : (Tryz.prog.info? tI).map (fun i=>(i.zero,i.size,i.bytes)) = some (some (.agg #[.bool false,.slice none 0 0]),2,32):=by kernel_rfl
def CellsI (w : World) (cells : List Value) (zs : List Int) : Prop:=
 ∀(k : Nat) (z : Int),zs[k]? = some z->∃s a l c,cells[k * 2]? = some (.bool s)/\cells[k * 2 + 1]? = some (.slice a l c)/\IntV w (.agg #[.bool s,.slice a l c]) z
def VecO (w : World) (base : Nat) (v : Value) (zs : List Int) : Prop:=∃cells,w.ownsRow base tI 2 v zs.length cells/\CellsI w cells zs
theorem VecO.nil (w : World) (base : Nat) : VecO w base (.slice none 0 0) []:=⟨[],World.ownsRow_nil _ _ _ _,fun k z h=>by simp at h⟩
theorem VecO.below {w w' : World} {base : Nat} {v : Value} {zs : List Int} (h : VecO w base v zs) (hb : Below w.heap.size w w') : VecO w' base v zs:=by
 obtain ⟨cells,h1,h2⟩:=h
 refine ⟨cells,h1.kept (row:=none) ⟨hb.os,hb.tape,hb.output,hb.size,fun k hk _=>hb.block k hk⟩ (by cases hv : v.ownBlock <;> simp),fun k z hk=>?_⟩
 obtain ⟨s,a,l,c,e1,e2,e3⟩:=h2 k z hk
 exact ⟨s,a,l,c,e1,e2,e3.ext (lx hb)⟩
theorem VecO.vec {w : World} {base : Nat} {v : Value} {zs : List Int} (h : VecO w base v zs) : VecV w v zs:=by
 obtain ⟨cells,⟨h0,h1⟩,h2⟩:=h
 rcases h1 with ⟨rfl,hn⟩ | ⟨g,cap,cur,rfl,hg,hh,hnc,hc,hs,ht⟩
 ·have : zs = []:=List.eq_nil_of_length_eq_zero hn
  subst this
  exact VecV.nil w
 ·refine ⟨some ⟨g,0,none⟩,zs.length,cap,rfl,rfl,hnc,hc,fun _=>⟨g,rfl,cur,hh,fun k z hk=>?_⟩⟩
  obtain ⟨s,a,l,c,e1,e2,e3⟩:=h2 k z hk
  have hk' : k < zs.length:=(List.getElem?_eq_some_iff.1 hk).1
  rw [<-ht,List.getElem?_take_of_lt oM] at e1 e2
  exact ⟨s,a,l,c,by simpa using e1,by simpa using e2,e3⟩
theorem VecO.len {w : World} {base : Nat} {v : Value} {zs : List Int} (h : VecO w base v zs) : ∃ao cap,v = .slice ao zs.length cap/\zs.length<=cap/\cap<=9223372036854775807:=by
 obtain ⟨ao,n,cap,h1,h2,h3,h4,-⟩:=h.vec
 subst h2
 exact ⟨ao,cap,h1,h3,h4⟩
theorem lext_grown {w w' : World} {base : Nat} {v : Value} {n : Nat} {xs : List Value} {e : TypeId} {size : Nat} (h : w.ownsRow base e size v n xs) (he : e ≠ tU) (hg : w.grownBy w' v.ownBlock) : LExt w w':=by
 intro b cs fz hb
 have hlt:=(Array.getElem?_eq_some_iff.1 hb).1
 by_cases hv : v.ownBlock = some b
 ·exfalso
  rcases h.2 with ⟨rfl,-⟩ | ⟨g,cap,cur,rfl,-,hh,-⟩
  ·cases hv
  ·simp only [Value.ownBlock,Option.some.injEq] at hv
   subst hv
   rw [hh] at hb
   injection hb with hb
   injection hb with _ ht
   exact he ht
 ·have hne : ∀k,v.ownBlock = some k->b ≠ k:=fun k hk e=>hv (by rw [hk,e])
  rw [hg.block b hlt (by
   intro hh
   exact hv hh.symm)]
  exact hb
theorem run_append_none (P : Program) (w : World) (t ty e : TypeId) (i : TypeInfo) (ht : P.underlying t = some (.slice e)) (hi : P.info? e = some i)
  (g : Option Addr) (n cap : Nat) (hg : g = none->n = 0/\cap = 0) (hn : n<=cap) (ao : Option Addr) (c : Nat) :
  (Builtin.append_ #[t,t] ty #[.slice g n cap,.slice ao 0 c]).run P w = .ok (.slice g n cap) w:=by
 cases g with
 | none=>
  obtain ⟨rfl,rfl⟩:=hg rfl
  cases ao <;> simp [Builtin.append_,run_underlying ht,sizeOf,typeInfo,hi,Builtin.lenOf,Builtin.firstCells,loadCells,loadCellsFrom]
 | some g=>
  cases ao <;> simp [Builtin.append_,run_underlying ht,sizeOf,typeInfo,hi,Builtin.lenOf,Builtin.firstCells,loadCells,loadCellsFrom,storeCells,hn]
theorem VecO.own {w : World} {base : Nat} {v : Value} {zs : List Int} (h : VecO w base v zs) : ∀g,v.ownBlock = some g->base<=g:=by
 intro g hg
 obtain ⟨cells,⟨h0,h1⟩,h2⟩:=h
 rcases h1 with ⟨rfl,hn⟩ | ⟨g',cap,cur,rfl,hg',-⟩
 ·cases hg
 ·simp only [Value.ownBlock,Option.some.injEq] at hg
  omega
theorem VecO.mono {w : World} {base base' : Nat} {v : Value} {zs : List Int} (h : VecO w base v zs) (hb : base'<=base) : VecO w base' v zs:=by
 obtain ⟨cells,⟨h0,h1⟩,h2⟩:=h
 refine ⟨cells,⟨h0,?_⟩,h2⟩
 rcases h1 with h1 | ⟨g,cap,cur,e1,e2,e3⟩
 ·exact .inl h1
 ·exact .inr ⟨g,cap,cur,e1,Nat.le_trans hb e2,e3⟩
def diagL (M : List (List Int)) (n : Nat) : List Int:=(List.range n).map fun k=>(M.getD k []).getD k 0
def chainGo : Int->List Int->Bool
 | _,[]=>true
 | last,d :: ds=>decide (0<=d) && decide (last ∣ d) && chainGo d ds
theorem chainGo_step {last d : Int} {ds : List Int} (h0 : 0<=d) (h : last ∣ d) : chainGo last (d :: ds) = chainGo d ds:=by
 conv=>lhs; unfold chainGo
 rw [decide_eq_true h,decide_eq_true h0]
 simp
def IsM2 (R C : Int) (M : List (List Int)) : Bool:=decide (ValidM R C M) && (diagGo 0 M && chainGo 1 (diagL M (min R.toNat C.toNat)))
abbrev tR : TypeId:=116
theorem Tryz.infoR : (Tryz.prog.info? tR).map (fun i=>(i.zero,i.size,i.bytes)) = some (some (.slice none 0 0),1,24):=by kernel_rfl
def zeroCells (n : Nat) : Array Value:=madeCells (Value.agg #[.bool false,.slice none 0 0]).cells (n * 2)
theorem mkI (m : Int) (n : Nat) (hm : m = n) (h : n<=1099511627776) (W : World) :
  (Instr.makeSlice 116 (.int .i64 m) (.int .i64 m)).run Tryz.prog W = .ok (.slice (some ⟨W.heap.size,0,none⟩) n n) (W.alloc (.cells (zeroCells n) tI)):=by
 subst hm
 obtain ⟨i0,hi,hz0,hz1,hz2⟩:=info_parts Tryz.infoI
 have:=run_make_rowN (P:=Tryz.prog) 116 tI i0 _ Tryz.underlying116 hi hz0 .i64 .i64 n n (Nat.le_refl _) (by rw [hz2]; omega) oM W
 rw [this,hz1]
 rfl
theorem row_zero (w : World) (n : Nat) : RowAt (w.alloc (.cells (zeroCells n) tI)) w.heap.size (List.replicate n 0):=by
 refine ⟨zeroCells n,heap_alloc_new w _,fun k z hk=>?_⟩
 have hk':=(List.getElem?_eq_some_iff.1 hk)
 obtain ⟨h1,h2⟩:=hk'
 rw [List.length_replicate] at h1
 rw [List.getElem_replicate] at h2
 subst h2
 refine ⟨false,none,0,0,?_,?_,intV_zero _⟩
 ·unfold zeroCells madeCells
  rw [Array.getElem?_eq_getElem (by simp; omega)]
  simp [Value.cells]
 ·unfold zeroCells madeCells
  rw [Array.getElem?_eq_getElem (by simp; omega)]
  have : (k * 2 + 1) % 2 = 1:=by omega
  simp [Value.cells,this]
def rowPtrs (C : Nat) (bs : List Nat) : List Value:=bs.map fun b=>.slice (some ⟨b,0,none⟩) C C
structure RowsO (w : World) (base : Nat) (A : Value) (C : Nat) (bs : List Nat) (M : List (List Int)) : Prop where
 own : w.ownsRow base tR 1 A bs.length (rowPtrs C bs)
 len : M.length = bs.length
 row : ∀(k : Nat) (b : Nat) (r : List Int),bs[k]? = some b->M[k]? = some r->base<=b/\r.length = C/\RowAt w b r
 nodup : bs.Nodup
 cb : C<=1099511627776
theorem RowsO.below {w w' : World} {base : Nat} {A : Value} {C : Nat} {bs : List Nat} {M : List (List Int)} (h : RowsO w base A C bs M) (hb : Below w.heap.size w w') : RowsO w' base A C bs M:=
 ⟨h.own.kept (row:=none) ⟨hb.os,hb.tape,hb.output,hb.size,fun k hk _=>hb.block k hk⟩ (by cases hv : A.ownBlock <;> simp),h.len,fun k b r h1 h2=>by
  obtain ⟨e1,e2,e3⟩:=h.row k b r h1 h2
  exact ⟨e1,e2,e3.below hb⟩,h.nodup,h.cb⟩
theorem RowsO.keep {w w' : World} {base : Nat} {A : Value} {C : Nat} {bs : List Nat} {M : List (List Int)} (h : RowsO w base A C bs M) (e : ∀k,base<=k->w'.heap[k]? = w.heap[k]?) (x : LExt w w') : RowsO w' base A C bs M:=by
 refine ⟨⟨h.own.1,?_⟩,h.len,fun k b r h1 h2=>by
  obtain ⟨e1,e2,e3⟩:=h.row k b r h1 h2
  exact ⟨e1,e2,e3.old (e _ e1) x⟩,h.nodup,h.cb⟩
 rcases h.own.2 with h1 | ⟨g,cap,cur,e1,e2,e3⟩
 ·exact .inl h1
 ·exact .inr ⟨g,cap,cur,e1,e2,(e _ e2).trans e3.1,e3.2⟩
theorem Blk.put3 {w : World} {r : Nat} {T : TypeId} {c0 c1 c2 : Value} (h : Blk w r T #[c0,c1,c2]) (x y z : Value) : Blk (((w.setCell ⟨r,0,none⟩ x).setCell ⟨r,1,none⟩ y).setCell ⟨r,2,none⟩ z) r T #[x,y,z]:=by
 simpa using ((h.set_ 0 x).set_ 1 y).set_ 2 z
theorem Blk.lext3 {w : World} {r : Nat} {T : TypeId} {cs : Array Value} (h : Blk w r T cs) (hne : T ≠ tU) (x y z : Value) : LExt w (((w.setCell ⟨r,0,none⟩ x).setCell ⟨r,1,none⟩ y).setCell ⟨r,2,none⟩ z):=
 ((h.lext hne 0 _).trans ((h.set_ 0 _).lext hne 1 _)).trans (((h.set_ 0 _).set_ 1 _).lext hne 2 _)
theorem set3_old (w : World) (b k : Nat) (x y z : Value) (h : k ≠ b) : (((w.setCell ⟨b,0,none⟩ x).setCell ⟨b,1,none⟩ y).setCell ⟨b,2,none⟩ z).heap[k]? = w.heap[k]?:=
 (setCell_old _ b 2 k z h).trans (set2_old w b 0 1 k x y h)
theorem RowsO.mono {w : World} {base base' : Nat} {A : Value} {C : Nat} {bs : List Nat} {M : List (List Int)} (h : RowsO w base A C bs M) (hb : base'<=base) : RowsO w base' A C bs M:=by
 refine ⟨⟨h.own.1,?_⟩,h.len,fun k b r h1 h2=>by
  obtain ⟨e1,e2,e3⟩:=h.row k b r h1 h2
  exact ⟨by omega,e2,e3⟩,h.nodup,h.cb⟩
 rcases h.own.2 with h1 | ⟨g,cap,cur,e1,e2,e3⟩
 ·exact .inl h1
 ·exact .inr ⟨g,cap,cur,e1,Nat.le_trans hb e2,e3⟩
theorem RowsO.fits {w : World} {base : Nat} {A : Value} {C : Nat} {bs : List Nat} {M : List (List Int)} (h : RowsO w base A C bs M) : Fits bs.length C M:=by
 refine ⟨h.len,fun r hr=>?_⟩
 obtain ⟨k,hk,e⟩:=List.getElem_of_mem hr
 have hk' : k < bs.length:=by have:=h.len; omega
 exact (h.row k bs[k] r (List.getElem?_eq_getElem hk') (by rw [List.getElem?_eq_getElem hk,e])).2.1
theorem RowsO.rows {w : World} {base : Nat} {A : Value} {C : Nat} {bs : List Nat} {M : List (List Int)} (h : RowsO w base A C bs M) : RowsV w A M:=by
 rcases h.own.2 with ⟨rfl,h0⟩ | ⟨g,cap,cur,rfl,e2,e3,e4,e5,e6,e7⟩
 ·have : M = []:=List.eq_nil_of_length_eq_zero (by rw [h.len]; exact h0)
  subst this
  exact RowsV.nil w
 ·refine ⟨some ⟨g,0,none⟩,bs.length,cap,rfl,h.len,e4,e5,fun _=>⟨g,cur,rfl,e3,fun k zs hk=>?_⟩⟩
  have hkM:=(List.getElem?_eq_some_iff.1 hk).1
  have hkb : k < bs.length:=by have:=h.len; omega
  obtain ⟨f1,f2,f3⟩:=h.row k bs[k] zs (List.getElem?_eq_getElem hkb) hk
  refine ⟨.slice (some ⟨bs[k],0,none⟩) C C,?_,some ⟨bs[k],0,none⟩,C,C,rfl,f2,Nat.le_refl _,by have:=h.cb; omega,fun _=>⟨_,rfl,f3⟩⟩
  have : (rowPtrs C bs)[k]? = some (.slice (some ⟨bs[k],0,none⟩) C C):=by simp [rowPtrs,hkb]
  rw [<-e7,List.getElem?_take_of_lt oM] at this
  simpa using this
def MatO (w : World) (base : Nat) (v : Value) (R C : Nat) (bs : List Nat) (M : List (List Int)) : Prop:=bs.length = R/\∃A,v = .agg #[.int .i64 R,.int .i64 C,A]/\RowsO w base A C bs M
theorem MatO.mat {w : World} {base : Nat} {v : Value} {R C : Nat} {bs : List Nat} {M : List (List Int)} (h : MatO w base v R C bs M) : MatV w v R C M/\Fits R C M:=by
 obtain ⟨rfl,A,rfl,h⟩:=h
 exact ⟨⟨A,rfl,h.rows⟩,h.fits⟩
theorem MatO.below {w w' : World} {base : Nat} {v : Value} {R C : Nat} {bs : List Nat} {M : List (List Int)} (h : MatO w base v R C bs M) (hb : Below w.heap.size w w') : MatO w' base v R C bs M:=by
 obtain ⟨h0,A,h1,h2⟩:=h
 exact ⟨h0,A,h1,h2.below hb⟩
theorem Fits.valid {R C : Nat} {M : List (List Int)} (h : Fits R C M) : ValidM R C M:=⟨by omega,by omega,by rw [h.1],fun r hr=>by rw [h.2 r hr]⟩
def RetMat (w : World) (R C : Nat) (M : List (List Int)) (e : Ending) (w' : World) : Prop:=∃v bs,e = .returned v/\MatO w' w.heap.size v R C bs M/\Below w.heap.size w w'
theorem Tryz.sizeM : (Tryz.prog.info? 41).map (·.size) = some 3:=by kernel_rfl
theorem bodyPost_mat {fn : Func} {a : Act} {W : World} {Q : Ending->World->Prop} {r : Nat} {x y z : Value} {p : Tmp} (h : fn.results = #[.cell p 41]) (hd : a.defers = [])
  (hp : a.tmps.getD p undef = .pointer (some ⟨r,0,none⟩)) (hb : Blk W r 41 #[x,y,z]) (hQ : Q (.returned (.agg #[x,y,z])) W) : bodyPost Tryz.prog fn Q .ret a W:=
 bodyPost_ret (results_cell_row h _ W r _ _ _ _ hp hb Tryz.underlying41 rfl (by rw [Tryz.sizeM]; rfl)) hd hQ
theorem own_ne {w : World} {base : Nat} {v : Value} {n : Nat} {xs : List Value} {b : Nat} {r : List Int} (h : w.ownsRow base tR 1 v n xs) (hr : RowAt w b r) : some b ≠ v.ownBlock:=by
 intro e
 rcases h.2 with ⟨rfl,-⟩ | ⟨g,cap,cur,rfl,-,hh,-⟩
 ·cases e
 ·simp only [Value.ownBlock,Option.some.injEq] at e
  subst e
  obtain ⟨cs,h1,-⟩:=hr
  rw [hh] at h1
  injection h1 with h1
  injection h1 with _ ht
  exact absurd ht dE
theorem appR {w : World} {ops : Array Oper} {rest : List Oper} {o : Oper} {a : Act} {Q : Exit->Act->World->Prop} (hgd : o.guard = none) (s x : Operand)
  (ho : o.op = .call { callee:=.builtin .append,args:=#[s,x],argTypes:=#[39,39] })
  (base : Nat) (v : Value) (C : Nat) (bs : List Nat) (M : List (List Int)) (hs : a.eval s = v) (hown : RowsO w base v C bs M) (b c nb : Nat) (r : List Int) (hx : a.eval x = .slice (some ⟨b,0,none⟩) 1 c)
  (hb : Blk w b tR #[.slice (some ⟨nb,0,none⟩) C C]) (hr : RowAt w nb r) (hrl : r.length = C) (hnb : base<=nb) (hfr : ∀g ∈ bs,g ≠ nb)
  (hlen : bs.length + 1<=1099511627776) (hbase : base<=w.heap.size)
  (h : ∀v' w',RowsO w' base v' C (bs ++ [nb]) (M ++ [r])->w.grownBy w' v.ownBlock->LExt w w'->wpList Tryz.prog ops Q rest (a.put o.dst v') w') : wpList Tryz.prog ops Q (o :: rest) a w:=by
 obtain ⟨i0,hi,hz0,hz1,hz2⟩:=info_parts Tryz.infoR
 have c0:=hb.cell 0
 refine wpList_append_own w hgd s x 39 ho base tR i0 _ 1 24 Tryz.underlying39 hi hz0 hz1 hz2 rfl oM v bs.length _ hs hown.own ⟨b,0,none⟩ 1 c [.slice (some ⟨nb,0,none⟩) C C] hx rfl ?_ ?_ (by simp [maxLen]; omega) oM hbase ?_
 ·intro j u hj
  rw [Addr.add_lit]
  match j with
  | 0=>simp at hj; subst hj; exact c0
  | j + 1=>simp at hj
 ·intro u hu
  simp at hu
  subst hu
  rfl
 ·intro v' w' k1 k2 _
  have hx:=lext_grown hown.own dE k2
  have hkeep : ∀g q,RowAt w g q->RowAt w' g q:=fun g q hq=>hq.old (k2.block g hq.lt (own_ne hown.own hq)) hx
  refine h v' w' ⟨?_,by simp [hown.len],?_,?_,hown.cb⟩ k2 hx
  ·have : rowPtrs C (bs ++ [nb]) = rowPtrs C bs ++ [.slice (some ⟨nb,0,none⟩) C C]:=by simp [rowPtrs]
   rw [this]
   simpa using k1
  ·intro k g q hg hq
   rcases Nat.lt_or_ge k bs.length with hlt | hge
   ·rw [List.getElem?_append_left hlt] at hg
    rw [List.getElem?_append_left (by rw [hown.len]; exact hlt)] at hq
    obtain ⟨f1,f2,f3⟩:=hown.row k g q hg hq
    exact ⟨f1,f2,hkeep _ _ f3⟩
   ·rw [List.getElem?_append_right hge] at hg
    rw [List.getElem?_append_right (by rw [hown.len]; exact hge),hown.len] at hq
    have hk0 : k - bs.length = 0:=by
     have:=(List.getElem?_eq_some_iff.1 hg).1
     simp at this
     omega
    rw [hk0] at hg hq
    simp at hg hq
    subst hg
    subst hq
    exact ⟨hnb,hrl,hkeep _ _ hr⟩
  ·rw [List.nodup_append]
   refine ⟨hown.nodup,by simp,fun x hx y hy=>?_⟩
   simp at hy
   subst hy
   exact hfr x hx
def zerosM (R C : Nat) : List (List Int):=List.replicate R (List.replicate C 0)
set_option maxHeartbeats 2000000 in
set_option maxRecDepth 20000 in
theorem r5new_any (R C : Nat) (w : World) (hR : R<=1000000) (hC : C<=1000000) :
  Calls Tryz.prog 55 #[.int .i64 R,.int .i64 C] w (RetMat w R C (zerosM R C)):=by
 have hmk:=fun W=>mkI (C : Int) C rfl oM W
 go_enter Tryz.func55,Tryz.ntmps55
 go_upto_block 0 with (fail)
 refine wp_world ?_
 intro W0 hW0
 obtain ⟨hB0,br,bA,hs0⟩:=world2 hW0
 go_wp2
 go_loopw [5,6] (fun A iv wr=>∃(k : Nat) (bs : List Nat),k<=R/\iv = .int .i64 k/\RowsO wr (w.heap.size + 1) A C bs (zerosM k C)/\Below w.heap.size w wr/\Blk wr w.heap.size 41 #[.int .i64 0,.int .i64 0,.slice none 0 0]) (fun _ iv _=>R - (intOf iv).toNat)
 case atStart=>
  refine ⟨0,[],by omega,rfl,⟨⟨by simp [rowPtrs],.inr ⟨w.heap.size + 1,0,#[],rfl,Nat.le_refl _,bA,Nat.le_refl _,by simp [maxLen],rfl,rfl⟩⟩,rfl,fun k b r h=>by simp at h,by simp,by omega⟩,hB0,br⟩
 case round=>
  obtain ⟨k,bs,hk,rfl,ho,hb,br⟩:=hrel
  have hbl : bs.length = k:=by rw [<-ho.len]; simp [zerosM]
  by_cases hlt : k < R
  ·have hmk:=hmk wr
   have hb2 : Below wr.heap.size wr ((wr.alloc (.cells (zeroCells C) tI)).alloc (.cells #[.slice (some ⟨wr.heap.size,0,none⟩) C C] tR)):=((Below.refl _ _).alloc (Nat.le_refl _) _).alloc sI _
   have hblk : Blk ((wr.alloc (.cells (zeroCells C) tI)).alloc (.cells #[.slice (some ⟨wr.heap.size,0,none⟩) C C] tR)) (wr.heap.size + 1) tR #[.slice (some ⟨wr.heap.size,0,none⟩) C C]:=by
    simpa using Blk.new (wr.alloc (.cells (zeroCells C) tI)) tR #[.slice (some ⟨wr.heap.size,0,none⟩) C C]
   have hrow:=(row_zero wr C).below ((Below.refl (wr.alloc (.cells (zeroCells C) tI)).heap.size _).alloc (Nat.le_refl _) (.cells #[.slice (some ⟨wr.heap.size,0,none⟩) C C] tR))
   have hfr : ∀g ∈ bs,g ≠ wr.heap.size:=by
    intro g hg
    obtain ⟨j,hj,e⟩:=List.getElem_of_mem hg
    have:=(ho.row j g _ (by rw [List.getElem?_eq_getElem hj,e]) (List.getElem?_eq_getElem (by rw [ho.len]; exact hj))).2.2.lt
    omega
   have hsz:=hb.size
   have hbr:=br.lt
   have ho2:=ho.below hb2
   have hxx:=lx hb2
   go_wp2_with (at_builtin; refine appR rfl _ _ rfl (w.heap.size + 1) u5 C bs (zerosM k C) rfl ho2 (wr.heap.size + 1) 1 wr.heap.size (List.replicate C 0) rfl hblk hrow sI oM hfr oM (by simp; omega) ?_; intro v' w' hown hgr hxg)
   have hown' : ∀g,u5.ownBlock = some g->w.heap.size + 1<=g:=by
    intro g hg
    rcases ho.own.2 with ⟨rfl,-⟩ | ⟨g',cap,cur,rfl,h1,-⟩
    ·cases hg
    ·simp only [Value.ownBlock,Option.some.injEq] at hg
     omega
   have hB9 : Below w.heap.size w w':=(nx hb hb2).grown hgr (by simp; omega) (fun g hg=>by have:=hown' g hg; omega)
   have br9:=(hgr.block _ (by simp; omega) (fun hh=>by have:=hown' _ hh.symm; omega)).trans (br.below hb2)
   go_roundw
   case rel=>
    refine ⟨k + 1,bs ++ [wr.heap.size],by omega,by simp,?_,hB9,br9⟩
    have : zerosM (k + 1) C = zerosM k C ++ [List.replicate C 0]:=by unfold zerosM; rw [List.replicate_succ']
    rw [this]
    exact hown
   case measure=>simp [intOf]; omega
  ·obtain rfl : k = R:=by omega
   obtain ⟨c1,c2,c3,c4,c5,c6⟩:=br.three
   obtain ⟨ao,an,ac,rfl,a1,a2,a3,-⟩:=id ho.rows
   have hsz:=hb.size
   go_wp2
   refine bodyPost_mat rfl rfl rfl (br.put3 _ _ _) ⟨_,bs,rfl,⟨hbl,_,rfl,?_⟩,bset (bset (bset hb (Nat.le_refl _) 0 _) (Nat.le_refl _) 1 _) (Nat.le_refl _) 2 _⟩
   exact (ho.keep (fun k hk=>set3_old _ _ k _ _ _ oM) (br.lext3 dE _ _ _)).mono (Nat.le_succ _)
def I64V (w : World) (v : Value) (ls : List Int) : Prop:=
 ∃ao n cap,v = .slice ao n cap/\ls.length = n/\n<=cap/\cap<=9223372036854775807/\(∀z ∈ ls,-9223372036854775808<=z/\z<=9223372036854775807) ∧
  (ls ≠ []->∃(b : Nat) (cs : Array Value),ao = some ⟨b,0,none⟩/\w.heap[b]? = some (.cells cs 2 (0,0))/\∀(k : Nat) (z : Int),ls[k]? = some z->cs[k]? = some (.int .i64 z))
theorem I64V.below {w w' : World} {v : Value} {ls : List Int} (h : I64V w v ls) (hb : Below w.heap.size w w') : I64V w' v ls:=by
 obtain ⟨ao,n,cap,h1,h2,h3,h4,h5,h6⟩:=h
 refine ⟨ao,n,cap,h1,h2,h3,h4,h5,fun hn=>?_⟩
 obtain ⟨b,cs,e1,e2,e3⟩:=h6 hn
 exact ⟨b,cs,e1,(hb.block _ (Array.getElem?_eq_some_iff.1 e2).1).trans e2,e3⟩
theorem I64V.cell {w : World} {ao : Option Addr} {n cap : Nat} {ls : List Int} (h : I64V w (.slice ao n cap) ls) {k : Nat} (hk : k < ls.length) :
  ∃b z,ao = some ⟨b,0,none⟩/\b < w.heap.size/\ls[k]? = some z/\w.cell? ⟨b,k,none⟩ = some (.int .i64 z)/\-9223372036854775808<=z/\z<=9223372036854775807:=by
 obtain ⟨ao',n',cap',h1,h2,h3,h4,h5,h6⟩:=h
 injection h1 with e1 e2 e3
 subst e1
 obtain ⟨b,cs,e,hr,hc⟩:=h6 (by rintro rfl; simp at hk)
 have hz:=List.getElem?_eq_getElem hk
 have:=h5 _ (List.mem_of_getElem? hz)
 exact ⟨b,_,e,(Array.getElem?_eq_some_iff.1 hr).1,hz,(cell_of_row w b k cs _ _ hr).trans (hc k _ hz),this.1,this.2⟩

end Go.Proofs.YtjdemlfceaikgaaGreat
