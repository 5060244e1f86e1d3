/- The reference's integers, ninth part: divide. The reference's integers, tenth part: DivMod. -/
import Derived.Test.YtnbmaipobhppcaaGreatD05
import Derived.Test.YtnbmaipobhppcaaGreatD06
set_option linter.unusedVariables false
set_option linter.unusedSimpArgs false
set_option linter.unusedSectionVars false
set_option maxHeartbeats 16000000
set_option maxRecDepth 100000
namespace Go.Proofs.YtnbmaipobhppcaaGreat
open Go.RowKit
theorem zFX{fn:Func}{p1 p2:Tmp}(h:fn.results=#[.cell p1 35,.cell p2 35])(tmps:Array Value){W:World}{r1 r2:Nat}{v1 v2:Array Value}
  (hp1:tmps.getD p1 undef= .pointer (some ⟨r1,0,none⟩)) (hp2:tmps.getD p2 undef= .pointer (some ⟨r2,0,none⟩)) (hb1:Blk W r1 35 v1) (hb2:Blk W r2 35 v2) (h1:v1.size=2) (h2:v2.size=2):
  (results fn tmps).run Tryz.prog W= .ok (.tuple #[.agg v1,.agg v2]) W:=by
 have hp1':tmps[p1]?.getD undef= .pointer (some ⟨r1,0,none⟩):=by simpa using hp1
 have hp2':tmps[p2]?.getD undef= .pointer (some ⟨r2,0,none⟩):=by simpa using hp2
 simp[results,h,hp1',hp2',asAddr,zAK hb1 h1,zAK hb2 h2]
theorem zFF{a q d r:Nat}(h:a=q*d+r)(hr:r<d):a/d=q/\a%d=r:=by
 subst h;have hd:0<d:=by omega
 constructor
 ·rw[Nat.mul_comm,Nat.mul_add_div hd,Nat.div_eq_of_lt hr,Nat.add_zero]
 ·rw[Nat.mul_comm,Nat.mul_add_mod,Nat.mod_eq_of_lt hr]
theorem zAA(w:World):zH w (.agg #[.bool false,.slice none 0 0]) 0:=
 ⟨false,none,0,0,[],rfl,rfl,xgf _,by omega,zG.nil _ _,qM.nil,rfl,fun _=>rfl⟩
theorem zNt{A B s q r g t:Nat}(hs:0<s)(h:A*s=q*(B*s)+r)(hr:r=g*s+t)(ht:t<s)(hlt:r<B*s):A/B=q/\A%B=g:=by
 have e:A*s=(q*B+g)*s+t:=by
  rw[h,hr,Nat.add_mul,Nat.mul_assoc];omega
 have ht0:t=0:=by
  have h1:(A*s)%s=0:=Nat.mul_mod_left _ _;rw[e,Nat.mul_comm,Nat.mul_add_mod,Nat.mod_eq_of_lt ht]at h1;exact h1
 subst ht0;rw[Nat.add_zero]at e hr;have e2:A=q*B+g:=Nat.eq_of_mul_eq_mul_right hs e;have hg:g<B:=by
  rw[hr]at hlt;exact Nat.lt_of_mul_lt_mul_right hlt
 exact zFF e2 hg
theorem zPM{xs ys:List Nat}(hN:qM ys)(lx:qR xs)(h:nat ys<=nat xs):ys.length<=xs.length:=by
 cases hy:ys.length with
 |zero=>omega
 |succ k=>
  have h1:=zC8 hN hy;have h2:=jX lx;rcases Nat.lt_or_ge xs.length (k+1)with h3|h3
  ·have:=zAY (show xs.length<=k by omega);omega
  ·omega
def zPt(w:World)(a b:Nat)(e:Ending)(w':World):Prop:=
 ∃v1 v2,e= .returned (.tuple #[v1,v2])/\zH w' v1 ((a/b:Nat):Int)/\zH w' v2 ((a%b:Nat):Int)/\Below w.heap.size w w'
theorem zGv(ao1 ao2:Option Addr)(n1 cap1 n2 cap2:Nat)(xs ys:List Nat)(w:World)(hn1:xs.length=n1)(hn2:ys.length=n2+1)
  (hl1:n1<=cap1) (hc1:cap1<=9223372036854775807) (hl2:n2+1<=cap2) (hc2:cap2<=9223372036854775807)
  (hb1:n1+1<=LIM) (hb2:n2+2<=LIM) (hx1:zG w ao1 xs) (hx2:zG w ao2 ys) (hN1:qM xs) (hN2:qM ys):
  Calls Tryz.prog 292 #[.slice ao1 n1 cap1,.slice ao2 (n2+1) cap2] w (zPt w (nat xs) (nat ys)):=by
 have HN1:=xgw hn1;have HN2:=xgw hn2;have hlen1':n1<=xs.length:=by omega
 have hlen2':n2+1<=ys.length:=by omega
 obtain⟨b2,off2,y,rfl,hbw2,hy32,HY,hcy⟩:=hx2.limb (k:=n2) oM;have hyp:0<y:=by have:=hN2 n2 hn2;rw[HY.out]at this;omega
 have hys0:0<nat ys:=Nat.lt_of_lt_of_le (Nat.pow_pos dE) (zC8 hN2 hn2);have HA:∀s,s<4294967296->Hid (Sm ((nat xs*s:Nat):Int)):=fun s hs=>Sm.of_pow (k:=n1+1) (by
  have h1:=jX hx1.1;rw[hn1]at h1;rw[Int.natAbs_natCast,Nat.pow_succ];exact Nat.lt_of_le_of_lt (Nat.mul_le_mul_left _ (Nat.le_of_lt hs)) (Nat.mul_lt_mul_of_pos_right h1 dE)) hb1
 have HB:∀s,s<4294967296->Hid (Sm ((nat ys*s:Nat):Int)):=fun s hs=>Sm.of_pow (k:=n2+2) (by
  have h1:=jX hx2.1;rw[hn2]at h1;rw[Int.natAbs_natCast,Nat.pow_succ];exact Nat.lt_of_le_of_lt (Nat.mul_le_mul_left _ (Nat.le_of_lt hs)) (Nat.mul_lt_mul_of_pos_right h1 dE)) hb2
 clear hn1 hn2;have hM1:n1<=8*LIM:=by omega
 have hM2:n2+1<=8*LIM:=by omega
 rw[qV]at hb1 hb2;go_enter Tryz.func292,Tryz.ntmps292;go_upto_region 1 with(fail)
 refine zB ?_;intro W0 hW0;obtain⟨hB0,br1,br2,hs0⟩:=qI hW0;obtain⟨d1,d2,d3,d4⟩:=br1.two;obtain⟨e1,e2,e3,e4⟩:=br2.two;have hcy0:=(hB0.cell (p:=⟨b2,off2+n2,none⟩) hbw2).trans hcy;clear hcy;by_cases hone:n2=0
 ·subst hone
  simp only[Nat.add_zero]at hcy0;have hd1:((0:Nat):Int)+1=1:=rfl;go_wp2_with fail
  refine(zEe ao1 n1 cap1 xs y W0 HN1.out (by rw[qV];omega) (hx1.ext (lx hB0)) hyp hy32).mono ?_;rintro e w1 ⟨g,qs,r,rfl,k1,k2,k3,k4,k5,k6⟩;have HV:=xgw k5;clear k5;go_wp2_with fail
  refine(yL _ n1 n1 qs false w1 k3 (xgf _) oM (by rw[qV];omega) (k1.at_ k2)).mono ?_;rintro e w2 ⟨v,rfl,⟨vn,va,vl,vc,vx,rfl,hv⟩,hb2⟩;go_wp2_with fail
  refine zAj ?_;intro W3 hW3;obtain⟨hB3,br3,hs3⟩:=zK hW3;have bl3:jO W3 w2.heap.size [r]:=br3;refine(yL _ 1 1 [r] false W3 rfl (xgf _) oM (by rw[qV];omega) (bl3.at_ (fun x hx=>by simp at hx;unfold B32;omega))).mono ?_;rintro e w4 ⟨v2,rfl,⟨un,ua,ul,uc,ux,rfl,hu⟩,hb4⟩;have br1a:=(((br1.below k6).below hb2).below hB3).below hb4;have br2a:=(((br2.below k6).below hb2).below hB3).below hb4;obtain⟨f1,f2,f3,f4⟩:=br1a.two;obtain⟨g1,g2,g3,g4⟩:=br2a.two;go_wp2_with fail
  refine bodyPost_ret (zFX rfl _ rfl rfl (((br1a.put2 _ _).far oM _ _).far oM _ _) (((br2a.far oM _ _).far oM _ _).put2 _ _) rfl rfl) rfl ?_;have hlx:=(br1a.lext2 dE (.bool vn) (.slice va vl vc)).trans (((br2a.far oM 0 (.bool vn)).far oM 1 (.slice va vl vc)).lext2 dE (.bool un) (.slice ua ul uc));have hy1:nat ys=y:=by
   have h:=zQ ys 0;rw[zJ _ (by have:=HN2.out;omega),HY.out]at h;simpa using h
  obtain⟨q1,q2⟩:=zFF HV.out k4;refine⟨_,_,rfl,?_,?_,zT (zT (zT (zT (nx (nx (nx (nx hB0 k6) hb2) hB3) hb4) oM 0 _) oM 1 _) oM 0 _) oM 1 _⟩
  ·rw[hy1,q1]
   exact zH.ext (zH.ext ⟨vn,va,vl,vc,vx,rfl,hv⟩ (lx (nx hB3 hb4))) hlx
  ·rw[hy1,q2]
   have hr1:nat [r]=r:=by simp[yM]
   rw[<-hr1];exact zH.ext ⟨un,ua,ul,uc,ux,rfl,hu⟩ hlx
 ·go_wp2
  go_loopw [8] (fun sv wr=>wr=W0/\∃s:Nat,sv= .int .u32 s/\0<s/\s<4294967296/\y*s<4294967296) (fun sv _=>4294967296-(intOf sv).toNat)
  case atStart=>exact⟨rfl,1,rfl,by omega,by omega,by omega⟩
  case round=>
   obtain⟨hwr,s,rfl,hs1,hs2,hs3⟩:=hrel;have hwr:=hwr.symm;subst hwr;have hys:s<=y*s:=Nat.le_mul_of_pos_left s hyp;have ec:((y*s:Nat):Int)=(y:Int)*(s:Int):=by simp
   have hi0:0<=(y:Int)*(s:Int):=by omega
   have hi1:(y:Int)*(s:Int)<4294967296:=by omega
   by_cases hlt:y*s<2147483648
   ·have hi2:(y:Int)*(s:Int)<2147483648:=by omega
    go_wp2;go_roundw
    case rel=>exact⟨trivial,2*s,by simp,by omega,by omega,by rw[Nat.mul_left_comm];omega⟩
    case measure=>simp[intOf];omega
   ·have hi2:¬ (y:Int)*(s:Int)<2147483648:=by omega
    go_wp2_with fail
    refine zAj ?_;intro W1 hW1;obtain⟨hB1,br3,hs4⟩:=zK hW1;have bl3:jO W1 W0.heap.size [s]:=br3;refine(yL _ 1 1 [s] false W1 rfl (xgf _) oM (by rw[qV];omega) (bl3.at_ (fun x hx=>by simp at hx;unfold B32;omega))).mono ?_;rintro e w2 ⟨v,rfl,⟨vn,va,vl,vc,vx,rfl,hv⟩,hb2⟩;go_upto_region 8 with(fail)
    refine zB ?_;intro W3 hW3;have HV:=xgw hv;clear hv d1 d2 d3 d4 e1 e2 e3 e4;obtain⟨hB3,br4,hs5⟩:=zK hW3;obtain⟨d1,d2,d3,d4⟩:=br4.two;have hb3:Below W0.heap.size W0 W3:=nx (nx hB1 hb2) hB3;have hx1b:=hx1.ext (lx (nx hB0 hb3));have hx2b:=hx2.ext (lx (nx hB0 hb3));have hvI:zH W3 (.agg #[.bool vn,.slice va vl vc]) (sgn false (nat [s])):=zH.ext ⟨vn,va,vl,vc,vx,rfl,HV.out⟩ (lx hB3);clear hW0 hW1 hW3 hB1 hb2 hB3;have hne1:=World.new_ne W3 _ d1;have hne2:=World.new_ne W3 _ d2;replace HA:=HA s hs2;replace HB:=HB s hs2;have eS:nat [s]=s:=by simp[yM]
    have eA:sgn false (nat xs)*sgn false (nat [s])=((nat xs*s:Nat):Int):=by rw[eS];simp[sgn]
    have eB:sgn false (nat ys)*sgn false (nat [s])=((nat ys*s:Nat):Int):=by rw[eS];simp[sgn]
    have hHA:=HA.out;have sA:Sm (sgn false (nat xs)):=Sm.mono hHA (by simp[zZ];exact Nat.le_mul_of_pos_right _ hs1);have hHB:=HB.out;have sB:Sm (sgn false (nat ys)):=Sm.mono hHB (by simp[zZ];exact Nat.le_mul_of_pos_right _ hs1);have sS:Sm (sgn false (nat [s])):=Sm.mono hHB (by simp[zZ];rw[eS];exact Nat.le_mul_of_pos_left _ hys0);clear hb1 hb2 hHA hHB;refine zE rfl (RI W3 (W3.heap.size) _ 35
      [E 0 48 (.slice ao1 n1 cap1),EI 1 49 (sgn false (nat xs)),E 2 50 (.agg #[.bool vn,.slice va vl vc]),EI 3 51 (((nat xs*s:Nat):Int)),E 4 52 (.slice (some ⟨b2,off2,none⟩) (n2+1) cap2),EI 5 53 (sgn false (nat ys)),E 6 54 (.agg #[.bool vn,.slice va vl vc]),EI 7 55 (((nat ys*s:Nat):Int)),⟨8,56,fun w v=>zH w v 0⟩] [⟨9,10,12,fun w v=>zH w v (((nat xs*s:Nat):Int))⟩,⟨10,11,13,fun w v=>zH w v (((nat ys*s:Nat):Int))⟩,⟨11,12,14,fun w v=>zH w v (0)⟩] []) kR RI.start ?fin1 ?steps1
    case steps1=>
     refine⟨?_,?_,?_,?_,?_,?_,?_,?_,?_,?_,?_,?_,?_,?_,?_,trivial⟩<;>(intro L T wS hL hd hcl hI K hK;try refine zA rfl ?_)
     ·exact xgs (hI.k 0 rfl kR)
     ·have zt0:=hI.e mm0 (hd 0)
      go_simp;refine(yL ao1 n1 cap1 xs false _ HN1.out hl1 hc1 hM1 (hx1b.ext hI.lext)).mono ?_;exact xgo
     ·have zt:=hI.k 9 rfl kR
      have cc0:=hI.cell d1 oM nom;have cc1:=hI.cell d2 oM nom;exact xgu
     ·obtain⟨v1,zt1,h1⟩:=hI.vi mm1 (hd 1)
      have zt2:=hI.e mm2 (hd 2);go_simp;refine(zAE _ _ (sgn false (nat xs)) (sgn false (nat [s])) _ h1 (hvI.ext hI.lext) sA sS).mono ?_;rintro e wa ⟨v,rfl,hv,hba⟩;rw[eA]at hv;exact hK _ _ ((hI.world hba).n mm3 hv)
     ·exact xgs (hI.k 1 rfl kR)
     ·have zt4:=hI.e mm4 (hd 4)
      go_simp;refine(yL _ _ _ ys false _ HN2.out hl2 hc2 hM2 (hx2b.ext hI.lext)).mono ?_;exact xgo
     ·have zt:=hI.k 9 rfl kR
      have cc0:=hI.cell d1 oM nom;have cc1:=hI.cell d2 oM nom;exact xgu
     ·obtain⟨v5,zt5,h5⟩:=hI.vi mm5 (hd 5)
      have zt6:=hI.e mm6 (hd 6);go_simp;refine(zAE _ _ (sgn false (nat ys)) (sgn false (nat [s])) _ h5 (hvI.ext hI.lext) sB sS).mono ?_;rintro e wa ⟨v,rfl,hv,hba⟩;rw[eB]at hv;exact hK _ _ ((hI.world hba).n mm7 hv)
     ·go_simp
      exact hK _ _ (hI.value ⟨8,56,_⟩ (.tail _ (.tail _ (.tail _ (.tail _ (.tail _ (.tail _ (.tail _ (.tail _ (.head _))))))))) rfl (zAA _))
     ·go_simp
      exact hK _ _ (hI.alloc ⟨9,10,12,_⟩ mm0 rfl hL)
     ·go_simp
      exact hK _ _ (hI.alloc ⟨10,11,13,_⟩ mm1 rfl hL)
     ·go_simp
      exact hK _ _ (hI.alloc ⟨11,12,14,_⟩ mm2 rfl hL)
     ·obtain⟨v,t1,hv⟩:=hI.vi mm3 (hd 3)
      obtain⟨b,x,y,t2,hb1,hb2,-⟩:=hI.box _ mm0 (hd 9);obtain⟨vneg,vao,vlen,vcap,vls,rfl,hv'⟩:=id hv;have HT:=xgw t2;unfold ptr at t2;obtain⟨k1,k2,k3,k4⟩:=hb2.two;go_simp;exact hK _ _ (hI.store ⟨9,10,12,_⟩ mm0 rfl (hd 9) HT.out hv)
     ·obtain⟨v,t1,hv⟩:=hI.vi mm7 (hd 7)
      obtain⟨b,x,y,t2,hb1,hb2,-⟩:=hI.box _ mm1 (hd 10);obtain⟨vneg,vao,vlen,vcap,vls,rfl,hv'⟩:=id hv;have HT:=xgw t2;unfold ptr at t2;obtain⟨k1,k2,k3,k4⟩:=hb2.two;go_simp;exact hK _ _ (hI.store ⟨10,11,13,_⟩ mm1 rfl (hd 10) HT.out hv)
     ·obtain⟨v,t1,hv⟩:=hI.v mm8 (hd 8)
      obtain⟨b,x,y,t2,hb1,hb2,-⟩:=hI.box _ mm2 (hd 11);obtain⟨vneg,vao,vlen,vcap,vls,rfl,hv'⟩:=id hv;have HT:=xgw t2;unfold ptr at t2;obtain⟨k1,k2,k3,k4⟩:=hb2.two;go_simp;exact hK _ _ (hI.store ⟨11,12,14,_⟩ mm2 rfl (hd 11) HT.out hv)
    intro T wx hI;have hT:=hI.finx kR kR;have hlwx:=hI.lext;have hbwx:=hI.bel (W3.heap.size) oM nom;have holdwx:=hI.old;clear hI;simp only[zEH,zD1,E,EI,ptr,xgm,List.not_mem_nil,false_implies,implies_true,and_true,true_and,xgg,xgh,xgi,xgj]at hT;obtain⟨va1,ha1,va3,ha3,va5,ha5,va7,ha7,va8,ha8,ca9,xa9,ya9,ga9,ka9,ia9,ca10,xa10,ya10,ga10,ka10,ia10,na9_10,ca11,xa11,ya11,ga11,ka11,ia11,⟨na10_11,na9_11⟩,rfl⟩:=hT;clear ha1 ha3 ha5 ha7 ha8 hvI hx1b hx2b d1 d2 d3 d4 hne1 hne2 sA sB sS HV br4 eA eB eS bl3 br3 hM1 hM2 HN1 HN2 hx1 hx2 hcy0 HY;have hDI:=ia10;obtain⟨dn,da,dl,dc,dx,hdv,hdl,hd1,hd2,hdL,hdN,hdz,hds⟩:=ia10;injection hdv with hdv
    simp only[Array.mk.injEq,List.cons.injEq,and_true]at hdv;obtain⟨rfl,rfl⟩:=hdv;have hD:nat dx=nat ys*s:=by
     have:=congrArg Int.natAbs hdz;rw[zZ]at this;omega
    have hD0:0<nat ys*s:=Nat.mul_pos hys0 hs1;obtain⟨dm,rfl⟩:∃dm,dl=dm+1:=by
     cases dl with
     |zero=>rw[List.length_eq_zero_iff.1 hdl]at hD;simp[nat]at hD;omega
     |succ k=>exact⟨k,rfl⟩
    have HDl:=xgw hdl;clear hdl hdz;have hsz:=hb3.size;have n30:ca11≠w.heap.size:=by omega
    have n31:ca11≠w.heap.size+1:=by omega
    have l11:=ka11.lt;obtain⟨f,hf⟩:=zFu;go_wp2;go_loopw [] (fun wr=>∃(q r:Nat) (x1 y1 x3 y3:Value),Below W3.heap.size W3 wr/\yO wx wr/\wx.heap.size<=wr.heap.size/\Blk wr ca9 35 #[x1,y1]/\zH wr (.agg #[x1,y1]) r/\Blk wr ca10 35 #[.bool dn,.slice da (dm+1) dc]∧
     Blk wr ca11 35 #[x3,y3]/\zH wr (.agg #[x3,y3]) q/\Hid (nat xs*s=q*(nat ys*s)+r)) (fun wr=>(f wr ca9).toNat)
    case atStart=>
     exact⟨0,nat xs*s,xa9,ya9,xa11,ya11,hbwx,yO.refl _,xgf _,ka9,ia9,ka10,ka11,ia11,by rw[Nat.zero_mul,Nat.zero_add];exact xgw rfl⟩
    case round=>
     obtain⟨q,r,rx1,ry1,rx3,ry3,hbr,hxr,hsr,p1,j1,p2,p3,j3,hinv⟩:=hrel;have hfr:=hf _ _ _ _ _ p1 j1;obtain⟨rn,ra,rl,rc,rx,hrv,hrl,hr1,hr2,hrL,hrN,hrz,hrs⟩:=id j1;injection hrv with hrv
     simp only[Array.mk.injEq,List.cons.injEq,and_true]at hrv;obtain⟨rfl,rfl⟩:=hrv;have hR:nat rx=r:=by
      have:=congrArg Int.natAbs hrz;rw[zZ]at this;omega
     have HSR:Hid (Sm (r:Int)):=Sm.mono HA.out (by have:=hinv.out;simp only[Int.natAbs_natCast];omega);have HSQ:Hid (Sm (q:Int)):=Sm.mono HA.out (by have:=hinv.out;have h2:q<=q*(nat ys*s):=Nat.le_mul_of_pos_right _ hD0;simp only[Int.natAbs_natCast];omega);have hrl4:rl<=4*LIM:=by
      have h0:=HSR.out;rw[<-hR]at h0;have h1:Sm (sgn false (nat rx)):=h0.mono (by simp[zZ]);have h2:=h1.len hrN;rw[hrl]at h2;clear h0 h1;rw[qV]at h2 ⊢
      omega
     have HRl:=xgw hrl;clear hrl hrz;obtain⟨m1,m2,m3,m4⟩:=p1.two;obtain⟨l1,l2,l3,l4⟩:=p2.two;obtain⟨qn,qa,ql,qc,qx,hqv,hq'⟩:=id j3;injection hqv with hqv
     simp only[Array.mk.injEq,List.cons.injEq,and_true]at hqv;obtain⟨rfl,rfl⟩:=hqv;have HQ':=xgw hq';clear hq';obtain⟨o1,o2,o3,o4⟩:=p3.two;go_wp2_with fail
     refine(zD3 ra da rl rc (dm+1) dc rx dx wr HRl.out HDl.out hr1 hd1 hr2 hd2 hrL (hdL.ext hxr) hrN hdN).mono ?_;rintro e wq ⟨rfl,nq,rfl⟩;by_cases hlt2:nat rx<nat dx
     ·rw[decide_eq_true hlt2]
      go_wp2_with fail
      refine(zEe ra rl rc rx s _ HRl.out hrl4 (hrL.ext (lx (drN wr nq))) hs1 hs2).mono ?_;rintro e w4 ⟨g,qs,rr,rfl,t1,t2,t3,t4,t5,t6⟩;have P3:=(p3.drewN nq).below t6;obtain⟨e1,e2,e3,e4⟩:=P3.two;have HT5:=xgw t5;clear t5;have B1:=(((br1.below hb3).below hbr).drewN nq).below t6;have B2:=(((br2.below hb3).below hbr).drewN nq).below t6;have P3l:=P3.lt;clear m1 m2 m3 m4 l1 l2 l3 l4 o1 o2 o3 o4;go_upto_region 14 with(fail)
      refine zC 3 rfl (RI w4 (w4.heap.size) _ 35
        [E 0 83 (.agg #[.bool qn,.slice qa ql qc]),VSl 1 84 g rl rl,EI 2 85 (((nat qs:Nat):Int))] [] []) kR RI.start (RI.fin kR ?fin2) ?steps2
      case steps2=>
       refine⟨?_,?_,?_,trivial⟩<;>(intro L T wS hL hd hcl hI K hK;try refine zA rfl ?_)
       ·have zt:=hI.k 12 rfl kR
        have cc0:=hI.cell e1 oM nom;have cc1:=hI.cell e2 oM nom;exact xgu
       ·exact xgs (hI.k 14 rfl kR)
       ·have zt1:=hI.e mm1 (hd 1)
        go_simp;refine(yL _ rl rl qs false _ t3 (xgf _) oM oM ((t1.at_ t2).ext hI.lext)).mono ?_;rintro e wa ⟨v,rfl,hv,hba⟩;simp only[sgn_false]at hv;exact hK _ _ ((hI.world hba).n mm2 hv)
      intro w5 hlw5 hbw5 holdw5 T hT;simp only[Fin,E,EI,VP,VSl,VN,xgg,xgh,xgi,xgj]at hT;obtain⟨vb2,hb2,rfl⟩:=hT;simp only[xgl,xgk];obtain⟨fn,fa,fl,fc,fx,rfl,hff⟩:=id hb2;have HFF:=xgw hff;clear hff;have C1:=B1.below hbw5;have C2:=B2.below hbw5;obtain⟨z1,z2,z3,z4⟩:=C1.two;obtain⟨y1,y2,y3,y4⟩:=C2.two;go_wp2_with fail
      refine bodyPost_ret (zFX rfl _ rfl rfl (((C1.put2 _ _).far oM _ _).far oM _ _) (((C2.far oM _ _).far oM _ _).put2 _ _) rfl rfl) rfl ?_;obtain⟨g1,g2⟩:=zNt hs1 hinv.out (hR ▸ HT5.out) t4 (by rw[<-hD,<-hR];exact hlt2);have hlx:=(C1.lext2 dE (.bool qn) (.slice qa ql qc)).trans (((C2.far oM 0 (.bool qn)).far oM 1 (.slice qa ql qc)).lext2 dE (.bool fn) (.slice fa fl fc));refine⟨_,_,rfl,?_,?_,zT (zT (zT (zT (nx (nx (nx (nx (nx hB0 hb3) hbr) (drN wr nq)) t6) hbw5) oM 0 _) oM 1 _) oM 0 _) oM 1 _⟩
      ·rw[g1]
       exact(j3.ext (lx (nx (nx (drN wr nq) t6) hbw5))).ext hlx
      ·rw[g2]
       exact hb2.ext hlx
     ·rw[decide_eq_false hlt2]
      have hdr:nat dx<=nat rx:=Nat.le_of_not_lt hlt2;have hlen:=zPM hdN hrL.1 hdr;rw[HRl.out,HDl.out]at hlen;obtain⟨rm,rfl⟩:∃rm,rl=rm+1:=⟨rl-1,by omega⟩;go_wp2_with fail
      refine(zK9 ra da rm rc dm dc rx dx _ HRl.out HDl.out hrl4 (hrL.ext (lx (drN wr nq))) (hdL.ext (hxr.trans (lx (drN wr nq)))) hrN oM hdr).mono ?_;rintro e w4 ⟨v,z,rfl,hz,hz0,hzb,hb4⟩;obtain⟨zn,za,zl,zc,zx,rfl,hz'⟩:=id hz;rw[hD,hR]at hzb;have hzD:0<z*(nat ys*s):=Nat.mul_pos hz0 hD0;have SZD:Hid (Sm ((z:Int)*((nat ys*s:Nat):Int))):=Sm.mono HSR.out (by rw[<-Int.natCast_mul,Int.natAbs_natCast,Int.natAbs_natCast];exact hzb);have SZ:Hid (Sm (z:Int)):=Sm.mono HSR.out (by rw[Int.natAbs_natCast,Int.natAbs_natCast];exact Nat.le_trans (Nat.le_mul_of_pos_right _ hD0) hzb);have HZB:=xgw hzb;have HZD:=xgw hzD;clear hzb hz' hzD;go_upto_region 11 with(fail)
      refine zB ?_;intro W5 hW5;obtain⟨hB5,br5,hs6⟩:=zK hW5;have P1:=((p1.drewN nq).below hb4).below hB5;have P2:=((p2.drewN nq).below hb4).below hB5;have P3:=((p3.drewN nq).below hb4).below hB5;obtain⟨e1,e2,e3,e4⟩:=P3.two;obtain⟨f1,f2,f3,f4⟩:=br5.two;clear m1 m2 m3 m4 l1 l2 l3 l4 o1 o2 o3 o4;go_wp2_with fail
      refine(zBZ _ _ (q:Int) (z:Int) W5 (j3.ext ((lx (drN wr nq)).trans (lx (nx hb4 hB5)))) (hz.ext (lx hB5)) HSQ.out SZ.out).mono ?_;rintro e w6 ⟨v,rfl,hq2,hb6⟩;obtain⟨vn2,va2,vl2,vc2,vx2,rfl,hq2'⟩:=id hq2;have HQ2':=xgw hq2';clear hq2';have P3':=P3.below hb6;obtain⟨k31,k32,k33,k34⟩:=P3'.two;clear e1 e2 e3 e4 f1 f2 f3 f4;go_upto_region 12 with(fail)
      refine zB ?_;intro W7 hW7;have Q3:=Blk.at_ hW7 (P3'.put2 _ _);have Q1:=Blk.at_ hW7 (((P1.below hb6).far na9_11 _ _).far na9_11 _ _);have Q2:=Blk.at_ hW7 (((P2.below hb6).far na10_11 _ _).far na10_11 _ _);have n53:w4.heap.size≠ca11:=by
       have h1:=p3.lt;have h2:=hb4.size;have h3:(wr.drewN nq).heap.size=wr.heap.size:=rfl;omega
      have Q5:=Blk.at_ hW7 (((br5.below hb6).far n53 _ _).far n53 _ _);obtain⟨s1,s2,s3,s4⟩:=Q1.two;obtain⟨a1,a2,a3,a4⟩:=Q2.two;obtain⟨f1,f2,f3,f4⟩:=Q5.two;have hx67:yO w6 W7:=by rw[hW7.out];exact P3'.lext2 dE _ _
      have hb67:Below W3.heap.size W3 W7:=by
       rw[hW7.out];have h0:=(((hbr.trans ((drN wr nq).mono hbr.size)).trans (hb4.mono hbr.size)).trans (hB5.mono (Nat.le_trans hbr.size hb4.size))).trans (hb6.mono (Nat.le_trans (Nat.le_trans hbr.size hb4.size) hB5.size));exact zT (zT h0 ga11 0 _) ga11 1 _
      have hx7:yO wr W7:=((lx (drN wr nq)).trans (lx (nx (nx hb4 hB5) hb6))).trans hx67;have q1l:=Q1.lt;have q2l:=Q2.lt;have q5l:=Q5.lt;have hsz7:wx.heap.size<=W7.heap.size:=by
       rw[hW7.out];have h1:=hb4.size;have h2:=hB5.size;have h3:=hb6.size;have h4:(wr.drewN nq).heap.size=wr.heap.size:=rfl;simp only[World.size_setCell];omega
      have hr7:=j1.ext hx7;have hD7:zH W7 (.agg #[.bool dn,.slice da (dm+1) dc]) ((nat ys*s:Nat):Int):=hDI.ext (hxr.trans hx7);have hz7:zH W7 (.agg #[.bool zn,.slice za zl zc]) (z:Int):=hz.ext ((lx (nx hB5 hb6)).trans hx67);clear hW7 hW5 hb4 hB5 P1 P2 P3 P3' k31 k32 k33 k34 br5;refine zC 5 rfl (RI W7 (W7.heap.size) _ 35
        [E 0 71 (.agg #[.bool rn,.slice ra (rm+1) rc]),E 1 72 (.agg #[.bool zn,.slice za zl zc]),E 2 73 (.agg #[.bool dn,.slice da (dm+1) dc]),EI 3 74 ((z:Int)*((nat ys*s:Nat):Int)),EI 4 75 ((r:Int)-(z:Int)*((nat ys*s:Nat):Int))] [] []) kR RI.start (RI.fin kR ?fin3) ?steps3
      case steps3=>
       refine⟨?_,?_,?_,?_,?_,trivial⟩<;>(intro L T wS hL hd hcl hI K hK;try refine zA rfl ?_)
       ·have zt:=hI.k 10 rfl kR
        have cc0:=hI.cell s1 oM nom;have cc1:=hI.cell s2 oM nom;exact xgu
       ·have zt:=hI.k 13 rfl kR
        have cc0:=hI.cell f1 oM nom;have cc1:=hI.cell f2 oM nom;exact xgu
       ·have zt:=hI.k 11 rfl kR
        have cc0:=hI.cell a1 oM nom;have cc1:=hI.cell a2 oM nom;exact xgu
       ·have zt1:=hI.e mm1 (hd 1)
        have zt2:=hI.e mm2 (hd 2);go_simp;refine(zAE _ _ (z:Int) ((nat ys*s:Nat):Int) _ (hz7.ext hI.lext) (hD7.ext hI.lext) SZ.out HB.out).mono ?_;exact xgo
       ·have zt0:=hI.e mm0 (hd 0)
        obtain⟨v3,zt3,h3⟩:=hI.vi mm3 (hd 3);go_simp;refine(zEf _ _ (r:Int) ((z:Int)*((nat ys*s:Nat):Int)) _ (hr7.ext hI.lext) h3 HSR.out SZD.out).mono ?_;exact xgo
      intro w9 hlw9 hbw9 holdw9 T hT;simp only[Fin,E,EI,VP,VSl,VN,xgg,xgh,xgi,xgj]at hT;obtain⟨vc3,hc3,vc4,hc4,rfl⟩:=hT;simp only[xgl,xgk];obtain⟨on,oa,ol,oc,ox,rfl,ho⟩:=id hc4;have HO:=xgw ho;clear ho;have C1:=Q1.below hbw9;have C2:=Q2.below hbw9;have C3:=Q3.below hbw9;have hnew0:zH w9 (.agg #[.bool on,.slice oa ol oc]) ((r-z*(nat ys*s):Nat):Int):=by
       have h1:=HZB.out;have h2:(r:Int)-(z:Int)*((nat ys*s:Nat):Int)=((r-z*(nat ys*s):Nat):Int):=by
        rw[<-Int.natCast_mul];omega
       rw[<-h2];exact hc4
      have hxs:=C1.lext2 dE (.bool on) (.slice oa ol oc);have hnew:=hnew0.ext hxs;have hb9:Below W3.heap.size W3 w9:=hb67.trans (hbw9.mono hb67.size);have hx9:yO wx w9:=(hxr.trans hx7).trans (lx hbw9);have hsz9:wx.heap.size<=((w9.setCell ⟨ca9,0,none⟩ (.bool on)).setCell ⟨ca9,1,none⟩ (.slice oa ol oc)).heap.size:=by
       have h1:=hbw9.size;simp only[World.size_setCell];omega
      obtain⟨z1,z2,z3,z4⟩:=C1.two;go_wp2;go_roundw
      case rel=>
       exact⟨q+z,r-z*(nat ys*s),_,_,_,_,zT (zT hb9 ga9 0 _) ga9 1 _,hx9.trans hxs,hsz9,C1.put2 _ _,hnew,(C2.far (Ne.symm na9_10) _ _).far (Ne.symm na9_10) _ _,(C3.far (Ne.symm na9_11) _ _).far (Ne.symm na9_11) _ _,(hq2.ext (hx67.trans (lx hbw9))).ext hxs,by
        have h1:=hinv.out;have h2:=HZB.out;refine xgw ?_;rw[Nat.add_mul];omega⟩
      case measure=>
       rw[hf _ _ _ _ _ (C1.put2 _ _) hnew,hfr];have h1:=HZB.out;have h2:=HZD.out;omega
def zJx:Nat:=1099511627774
theorem zAP:zJx=1099511627774:=rfl
structure Smd(z:Int):Prop where
 lt:z.natAbs<B32^zJx
theorem Smd.sm{z:Int}(h:Smd z):Sm z:=Nat.lt_of_lt_of_le h.lt (zAY (by rw[zAP,qV];omega))
theorem Smd.mono{z y:Int}(h:Smd z)(hy:y.natAbs<=z.natAbs):Smd y:=⟨Nat.lt_of_le_of_lt hy h.lt⟩
theorem zE2(a b:Nat)(h:a+1<=b):B32^a<B32^b:=by
 have h1:B32^(a+1)<=B32^b:=zAY h;rw[Nat.pow_succ]at h1;have h2:0<B32^a:=Nat.pow_pos dE;have h3:B32^a*2<=B32^a*B32:=Nat.mul_le_mul_left _ dE;omega
theorem Smd.sm1{z y:Int}(h:Smd z)(hy:y.natAbs<=z.natAbs+1):Sm y:=
 Nat.lt_of_le_of_lt hy (Nat.lt_of_le_of_lt h.lt (zE2 zJx LIM (by rw[zAP,qV];omega)))
theorem Smd.len{neg:Bool}{xs:List Nat}(h:Smd (sgn neg (nat xs)))(hn:qM xs):xs.length<=zJx:=by
 have h:=h.lt;rw[zZ]at h;cases hx:xs.length with
 |zero=>omega
 |succ n=>
  have h1:=zC8 hn hx;rcases Nat.lt_or_ge n zJx with h2|h2
  ·omega
  ·have:=zAY h2;omega
theorem zB4(v1 v2:Value)(z1 z2:Int)(w:World)(h1:zH w v1 z1)(h2:zH w v2 z2)(s1:Smd z1)(s2:Smd z2)(hz:z2≠0):
  Calls Tryz.prog 254 #[v1,v2] w (zLy w z1 z2):=by
 obtain⟨neg1,ao1,n1,cap1,xs,rfl,hn1,hl1,hc1,hx1,hN1,hz1,hp1⟩:=h1;obtain⟨neg2,ao2,n2,cap2,ys,rfl,hn2,hl2,hc2,hx2,hN2,hz2,hp2⟩:=h2;have hM1:n1<=8*LIM:=by
  have:=(hz1 ▸ s1).len hN1;rw[hn1,zAP]at this;clear s1 s2;rw[qV];omega
 have hM2:n2<=8*LIM:=by
  have:=(hz2 ▸ s2).len hN2;rw[hn2,zAP]at this;clear s1 s2;rw[qV];omega
 have HN1:=xgw hn1;have HN2:=xgw hn2;have HZ1:=xgw hz1;have HZ2:=xgw hz2;have HS1:=xgw s1;have HS2:=xgw s2;have HZ:=xgw hz;clear hn1 hn2 hz1 hz2 s1 s2 hz;go_enter Tryz.func254,Tryz.ntmps254;go_upto_region 1 with(fail)
 refine zB ?_;intro W0 hW0;obtain⟨hB0,bx1,bx2,br1,br2,hs0⟩:=zHJ hW0;obtain⟨c1,c2,c3,c4⟩:=bx1.two;obtain⟨d1,d2,d3,d4⟩:=bx2.two;have hx1':=hx1.ext (lx hB0);have hx2':=hx2.ext (lx hB0);refine zC 10 rfl (RI W0 (W0.heap.size) _ 35
   [VP 0 9 w.heap.size 1,E 1 10 (.slice ao1 n1 cap1),VP 2 11 w.heap.size 0,E 3 12 (.bool neg1),EI 4 13 (z1),VP 5 14 (w.heap.size+1) 1,E 6 15 (.slice ao2 n2 cap2),VP 7 16 (w.heap.size+1) 0,E 8 17 (.bool neg2),EI 9 18 (z2)] [] []) kR RI.start (RI.fin kR ?fin1) ?steps1
 case steps1=>
  refine⟨?_,?_,?_,?_,?_,?_,?_,?_,?_,?_,trivial⟩<;>(intro L T wS hL hd hcl hI K hK;try refine zA rfl ?_)
  ·exact xgs (hI.k 2 rfl kR)
  ·have zt0:=hI.e mm0 (hd 0)
   have cc0:=hI.cell c2 oM nom;exact xgu
  ·exact xgs (hI.k 2 rfl kR)
  ·have zt2:=hI.e mm2 (hd 2)
   have cc0:=hI.cell c1 oM nom;exact xgu
  ·have zt1:=hI.e mm1 (hd 1)
   have zt3:=hI.e mm3 (hd 3);go_simp;refine(yL ao1 n1 cap1 xs neg1 _ HN1.out hl1 hc1 hM1 (hx1'.ext hI.lext)).mono ?_;rintro e wa ⟨v,rfl,hv,hba⟩;rw[<-HZ1.out]at hv;exact hK _ _ ((hI.world hba).n mm4 hv)
  ·exact xgs (hI.k 3 rfl kR)
  ·have zt5:=hI.e mm5 (hd 5)
   have cc0:=hI.cell d2 oM nom;exact xgu
  ·exact xgs (hI.k 3 rfl kR)
  ·have zt7:=hI.e mm7 (hd 7)
   have cc0:=hI.cell d1 oM nom;exact xgu
  ·have zt6:=hI.e mm6 (hd 6)
   have zt8:=hI.e mm8 (hd 8);go_simp;refine(yL ao2 n2 cap2 ys neg2 _ HN2.out hl2 hc2 hM2 (hx2'.ext hI.lext)).mono ?_;rintro e wa ⟨v,rfl,hv,hba⟩;rw[<-HZ2.out]at hv;exact hK _ _ ((hI.world hba).n mm9 hv)
 intro W1 hlW1 hbW1 holdW1 T hT;simp only[Fin,E,EI,VP,VSl,VN,xgg,xgh,xgi,xgj]at hT;obtain⟨va4,ha4,va9,ha9,rfl⟩:=hT;simp only[xgl,xgk];clear c1 c2 c3 c4 d1 d2 d3 d4 hx1' hx2' hx1 hx2;obtain⟨an,aa,al,ac,ax,rfl,h1l,h1a,h1b,h1x,h1N,h1z,h1p⟩:=ha4;obtain⟨bn,ba,bl,bc,bx,rfl,h2l,h2a,h2b,h2x,h2N,h2z,h2p⟩:=ha9;have hal:al<=zJx:=by
  have:=(h1z ▸ HS1.out).len h1N;rwa[h1l]at this
 have hbl:bl<=zJx:=by
  have:=(h2z ▸ HS2.out).len h2N;rwa[h2l]at this
 have hA:nat ax=z1.natAbs:=by rw[h1z,zZ]
 have hBv:nat bx=z2.natAbs:=by rw[h2z,zZ]
 obtain⟨bm,rfl⟩:∃bm,bl=bm+1:=by
  cases bl with
  |zero=>rw[List.length_eq_zero_iff.1 h2l]at hBv;have:=HZ.out;simp[nat]at hBv;omega
  |succ k=>exact⟨k,rfl⟩
 have H1L:=xgw h1l;have H2L:=xgw h2l;have H1Z:=xgw h1z;have H2Z:=xgw h2z;have H1A:=xgw hA;have H2A:=xgw hBv;have H1P:=xgw h1p;have H2P:=xgw h2p;clear h1l h2l h1z h2z hA hBv h1p h2p;have bx1:=bx1.below hbW1;have bx2:=bx2.below hbW1;have br1:=br1.below hbW1;have br2:=br2.below hbW1;obtain⟨c1,c2,c3,c4⟩:=bx1.two;obtain⟨d1,d2,d3,d4⟩:=bx2.two;go_upto_region 2 with(fail)
 refine zB ?_;intro W2 hW2;have X1:=Blk.at_ hW2 (((bx1.put2 _ _).far oM _ _).far oM _ _);have X2:=Blk.at_ hW2 (((bx2.far oM _ _).far oM _ _).put2 _ _);have R1:=Blk.at_ hW2 ((((br1.far oM _ _).far oM _ _).far oM _ _).far oM _ _);have R2:=Blk.at_ hW2 ((((br2.far oM _ _).far oM _ _).far oM _ _).far oM _ _);have hs2:=R2.lt;have hx12:yO W1 W2:=by
  rw[hW2.out];exact(bx1.lext2 dE _ _).trans (((bx2.far oM _ _).far oM _ _).lext2 dE _ _)
 have hB2:Below w.heap.size w W2:=by
  rw[hW2.out];exact zT (zT (zT (zT (nx hB0 hbW1) oM 0 _) oM 1 _) oM 0 _) oM 1 _
 clear hW2 bx1 bx2 br1 br2 c1 c2 c3 c4 d1 d2 d3 d4;obtain⟨c1,c2,c3,c4⟩:=X1.two;obtain⟨d1,d2,d3,d4⟩:=X2.two;have h2v:zH W2 (.agg #[.bool bn,.slice ba (bm+1) bc]) z2:=⟨bn,ba,bm+1,bc,bx,rfl,H2L.out,h2a,h2b,h2x.ext hx12,h2N,H2Z.out,H2P.out⟩;go_wp2_with fail
 refine(zAx _ z2 W2 h2v).mono ?_;rintro e w3 ⟨rfl,hb3⟩;have hc0:qJ z2 0≠0:=by have:=HZ.out;unfold qJ;split<;>(try split)<;>omega
 obtain⟨k,hk⟩:∃k,qJ z2 0=k:=⟨_,rfl⟩;rw[hk]at hc0 ⊢
 have e1:=zI c1 hb3;have e2:=zI c2 hb3;have e3:=zI d1 hb3;have e4:=zI d2 hb3;clear c1 c2 c3 c4 d1 d2 d3 d4;go_wp2_with fail
 refine(zGv aa ba al ac bm bc ax bx w3 H1L.out H2L.out h1a h1b h2a h2b (by rw[zAP]at hal;rw[qV];omega) (by rw[zAP]at hbl;rw[qV];omega) (h1x.ext (hx12.trans (lx hb3))) (h2x.ext (hx12.trans (lx hb3))) h1N h2N).mono ?_;rintro e w4 ⟨q0,r0,rfl,hq,hr,hb4⟩;obtain⟨qn,qa,ql,qc,qx,rfl,hq'⟩:=id hq;obtain⟨rn,ra,rl,rc,rx,rfl,hr'⟩:=id hr;have HQ':=xgw hq';have HR':=xgw hr';clear hq' hr' e1 e2 e3 e4 hk hc0;go_upto_region 5 with(fail)
 refine zB ?_;intro W5 hW5;obtain⟨hB5,T7,T8,hs5⟩:=qI hW5;have Y1:=((X1.below hb3).below hb4).below hB5;have Y2:=((X2.below hb3).below hb4).below hB5;have R1:=((R1.below hb3).below hb4).below hB5;have R2:=((R2.below hb3).below hb4).below hB5;have hBt:Below w.heap.size w W5:=nx (nx (nx hB2 hb3) hb4) hB5;have hs4:w.heap.size+1+1+1<w4.heap.size:=by
  have h3:=hb3.size;have h4:=hb4.size;omega
 have hb0:0<nat bx:=by have:=HZ.out;have:=H2A.out;omega
 obtain⟨DM1,DM2⟩:=zKK an bn (nat ax) (nat bx) hb0;rw[<-H1Z.out,<-H2Z.out]at DM1 DM2;have h2x5:zG W5 ba bx:=h2x.ext ((hx12.trans (lx hb3)).trans (lx (nx hb4 hB5)));have tq:=hq.ext (lx hB5);have tr:=hr.ext (lx hB5);clear hq hr hW5 hB5 hb4 hb3 X1 X2 hW0 h2v;have SQ:Sm ((nat ax/nat bx+1:Nat):Int):=HS1.out.sm1 (by simp only[Int.natAbs_natCast];rw[<-H1A.out];have:=Nat.div_le_self (nat ax) (nat bx);omega);have HSQ:=xgw SQ;clear SQ;obtain⟨k1,k2,k3,k4⟩:=Y1.two;obtain⟨l1,l2,l3,l4⟩:=Y2.two;obtain⟨c1,c2,c3,c4⟩:=T7.two;obtain⟨d1,d2,d3,d4⟩:=T8.two;cases an with
 | false=>
  have hq:dmQ false (nat ax) (nat bx)=nat ax/nat bx:=rfl;have hr:dmR false (nat ax) (nat bx)=nat ax%nat bx:=rfl;rw[hq]at DM1;rw[hr]at DM2;have HSQ:=xgw (HSQ.out.mono (y:=((nat ax/nat bx:Nat):Int)) (by simp only[Int.natAbs_natCast];omega));clear hq hr;cases bn with
  | false=>
   have HD1:Hid (z1/z2=((nat ax/nat bx:Nat):Int)):=DM1;have HD2:Hid (z1%z2=((nat ax%nat bx:Nat):Int)):=DM2;clear DM1 DM2;go_upto_region 10 with(fail)
   obtain⟨c1,c2,c3,c4⟩:=T7.two;obtain⟨d1,d2,d3,d4⟩:=T8.two;have hl7:=T7.lt;have hl8:=T8.lt;refine zE rfl (RI W5 (W5.heap.size) _ 35
     [E 0 54 (.agg #[.bool qn,.slice qa ql qc]),E 1 55 (.agg #[.bool rn,.slice ra rl rc]),VN 4 6 0] [] [⟨2,w.heap.size+1+1,fun w v=>zH w v (((nat ax/nat bx:Nat):Int))⟩,⟨3,w.heap.size+1+1+1,fun w v=>zH w v (((nat ax%nat bx:Nat):Int))⟩]) kR RI.start ?fin2 ?steps2
   case steps2=>
    refine⟨?_,?_,?_,?_,?_,trivial⟩<;>(intro L T wS hL hd hcl hI K hK;try refine zA rfl ?_)
    ·have zt:=hI.k 7 rfl kR
     have cc0:=hI.cell c1 oM aU;have cc1:=hI.cell c2 oM aU;exact xgu
    ·have zt:=hI.k 8 rfl kR
     have cc0:=hI.cell d1 oM aU;have cc1:=hI.cell d2 oM aU;exact xgu
    ·have zt:=hI.k 4 rfl kR
     have zv:=hI.e mm0 (hd 0);obtain⟨⟨xo,yo,zb,-⟩,-⟩:=hI.ex _ mm0;replace zb:Blk wS (w.heap.size+1+1) 35 #[xo,yo]:=zb;obtain⟨zk1,zk2,zk3,zk4⟩:=zb.two;go_simp;exact hK _ _ (hI.storeE ⟨2,w.heap.size+1+1,_⟩ mm0 rfl hL rfl (zH.ext tq hI.lext))
    ·have zt:=hI.k 5 rfl kR
     have zv:=hI.e mm1 (hd 1);obtain⟨⟨xo,yo,zb,-⟩,-⟩:=hI.ex _ mm1;replace zb:Blk wS (w.heap.size+1+1+1) 35 #[xo,yo]:=zb;obtain⟨zk1,zk2,zk3,zk4⟩:=zb.two;go_simp;exact hK _ _ (hI.storeE ⟨3,w.heap.size+1+1+1,_⟩ mm1 rfl hL rfl (zH.ext tr hI.lext))
    ·go_simp
     exact hK _ _ (hI.q mm2)
   intro T We hI;obtain⟨⟨exe2,eye2,ebe2,eie2⟩,-⟩:=hI.ex _ mm0;replace ebe2:Blk We (w.heap.size+1+1) 35 #[exe2,eye2]:=ebe2;replace eie2:zH We (.agg #[exe2,eye2]) (((nat ax/nat bx:Nat):Int)):=eie2 rfl;obtain⟨⟨exe3,eye3,ebe3,eie3⟩,-⟩:=hI.ex _ mm1;replace ebe3:Blk We (w.heap.size+1+1+1) 35 #[exe3,eye3]:=ebe3;replace eie3:zH We (.agg #[exe3,eye3]) (((nat ax%nat bx:Nat):Int)):=eie3 rfl;have hT:=hI.finx kR kR;have hlWe:=hI.lext;have hbWe:=hI.bel (w.heap.size) oM aU;have holdWe:=hI.old;clear hI;simp only[zEH,zD1,E,EI,ptr,xgm,List.not_mem_nil,false_implies,implies_true,and_true,true_and,xgg,xgh,xgi,xgj]at hT;subst hT;go_wp2_with fail
   refine bodyPost_ret (jG rfl _ rfl rfl ebe2 ebe3 rfl rfl) rfl ⟨_,_,rfl,?_,?_,hBt.trans hbWe⟩
   ·rw[HD1.out];exact eie2
   ·rw[HD2.out];exact eie3
  | true=>
   have HD1:Hid (z1/z2=-((nat ax/nat bx:Nat):Int)):=DM1;have HD2:Hid (z1%z2=((nat ax%nat bx:Nat):Int)):=DM2;clear DM1 DM2;go_wp2_with fail
   refine(zBa _ (((nat ax/nat bx:Nat):Int)) _ tq.weak HSQ.out).mono ?_;rintro e wn ⟨v,rfl,tq2,hbn⟩;obtain⟨nqn,nqa,nql,nqc,nqx,rfl,hnq⟩:=id tq2;have HNQ:=xgw hnq;clear hnq;have T7:=T7.below hbn;have T8:=T8.below hbn;have R1:=R1.below hbn;have R2:=R2.below hbn;obtain⟨c1,c2,c3,c4⟩:=T7.two;go_upto_region 10 with(fail)
   refine zB ?_;intro Wn hWn;have T7':=Blk.at_ hWn (T7.put2 _ _);have T8:=Blk.at_ hWn ((T8.far oM _ _).far oM _ _);have R1:=Blk.at_ hWn ((R1.far oM _ _).far oM _ _);have R2:=Blk.at_ hWn ((R2.far oM _ _).far oM _ _);have hxn:yO W5 Wn:=by rw[hWn.out];exact(lx hbn).trans (T7.lext2 dE _ _)
   have hBt:Below w.heap.size w Wn:=by rw[hWn.out];exact zT (zT (nx hBt hbn) oM 0 _) oM 1 _
   have tr:=tr.ext hxn;have tq:zH Wn (.agg #[.bool nqn,.slice nqa nql nqc]) (-((nat ax/nat bx:Nat):Int)):=by rw[hWn.out];exact tq2.ext (T7.lext2 dE _ _)
   have T7:=T7';clear T7' tq2 hWn hxn hbn;obtain⟨c1,c2,c3,c4⟩:=T7.two;obtain⟨d1,d2,d3,d4⟩:=T8.two;have hl7:=T7.lt;have hl8:=T8.lt;refine zE rfl (RI Wn (Wn.heap.size) _ 35
     [E 0 54 (.agg #[.bool nqn,.slice nqa nql nqc]),E 1 55 (.agg #[.bool rn,.slice ra rl rc]),VN 4 6 0] [] [⟨2,w.heap.size+1+1,fun w v=>zH w v ((-((nat ax/nat bx:Nat):Int)))⟩,⟨3,w.heap.size+1+1+1,fun w v=>zH w v (((nat ax%nat bx:Nat):Int))⟩]) kR RI.start ?fin3 ?steps3
   case steps3=>
    refine⟨?_,?_,?_,?_,?_,trivial⟩<;>(intro L T wS hL hd hcl hI K hK;try refine zA rfl ?_)
    ·have zt:=hI.k 7 rfl kR
     have cc0:=hI.cell c1 oM aU;have cc1:=hI.cell c2 oM aU;exact xgu
    ·have zt:=hI.k 8 rfl kR
     have cc0:=hI.cell d1 oM aU;have cc1:=hI.cell d2 oM aU;exact xgu
    ·have zt:=hI.k 4 rfl kR
     have zv:=hI.e mm0 (hd 0);obtain⟨⟨xo,yo,zb,-⟩,-⟩:=hI.ex _ mm0;replace zb:Blk wS (w.heap.size+1+1) 35 #[xo,yo]:=zb;obtain⟨zk1,zk2,zk3,zk4⟩:=zb.two;go_simp;exact hK _ _ (hI.storeE ⟨2,w.heap.size+1+1,_⟩ mm0 rfl hL rfl (zH.ext tq hI.lext))
    ·have zt:=hI.k 5 rfl kR
     have zv:=hI.e mm1 (hd 1);obtain⟨⟨xo,yo,zb,-⟩,-⟩:=hI.ex _ mm1;replace zb:Blk wS (w.heap.size+1+1+1) 35 #[xo,yo]:=zb;obtain⟨zk1,zk2,zk3,zk4⟩:=zb.two;go_simp;exact hK _ _ (hI.storeE ⟨3,w.heap.size+1+1+1,_⟩ mm1 rfl hL rfl (zH.ext tr hI.lext))
    ·go_simp
     exact hK _ _ (hI.q mm2)
   intro T We hI;obtain⟨⟨exe2,eye2,ebe2,eie2⟩,-⟩:=hI.ex _ mm0;replace ebe2:Blk We (w.heap.size+1+1) 35 #[exe2,eye2]:=ebe2;replace eie2:zH We (.agg #[exe2,eye2]) ((-((nat ax/nat bx:Nat):Int))):=eie2 rfl;obtain⟨⟨exe3,eye3,ebe3,eie3⟩,-⟩:=hI.ex _ mm1;replace ebe3:Blk We (w.heap.size+1+1+1) 35 #[exe3,eye3]:=ebe3;replace eie3:zH We (.agg #[exe3,eye3]) (((nat ax%nat bx:Nat):Int)):=eie3 rfl;have hT:=hI.finx kR kR;have hlWe:=hI.lext;have hbWe:=hI.bel (w.heap.size) oM aU;have holdWe:=hI.old;clear hI;simp only[zEH,zD1,E,EI,ptr,xgm,List.not_mem_nil,false_implies,implies_true,and_true,true_and,xgg,xgh,xgi,xgj]at hT;subst hT;go_wp2_with fail
   refine bodyPost_ret (jG rfl _ rfl rfl ebe2 ebe3 rfl rfl) rfl ⟨_,_,rfl,?_,?_,hBt.trans hbWe⟩
   ·rw[HD1.out];exact eie2
   ·rw[HD2.out];exact eie3
 | true=>
  have hm:=Nat.mod_lt (nat ax) hb0;go_wp2_with fail
  refine(zAx _ _ _ tr).mono ?_;rintro e w6 ⟨rfl,hb6⟩;have T7:=T7.below hb6;have T8:=T8.below hb6;have R1:=R1.below hb6;have R2:=R2.below hb6;have Y1:=Y1.below hb6;have Y2:=Y2.below hb6;have hBt:=nx hBt hb6;have tq:=tq.ext (lx hb6);have tr:=tr.ext (lx hb6);have h2x6:zG w6 ba bx:=h2x5.ext (lx hb6);clear hb6 c1 c2 c3 c4 d1 d2 d3 d4 k1 k2 k3 k4 l1 l2 l3 l4;obtain⟨k1,k2,k3,k4⟩:=Y1.two;obtain⟨l1,l2,l3,l4⟩:=Y2.two;obtain⟨c1,c2,c3,c4⟩:=T7.two;obtain⟨d1,d2,d3,d4⟩:=T8.two;by_cases h0:0<nat ax%nat bx
  ·have hc:qJ ((nat ax%nat bx:Nat):Int) 0=1:=by unfold qJ;rw[if_neg oM,if_pos oM]
   have hq:dmQ true (nat ax) (nat bx)=nat ax/nat bx+1:=by unfold dmQ;rw[if_pos ⟨rfl,h0⟩]
   have hr:dmR true (nat ax) (nat bx)=nat bx-nat ax%nat bx:=by unfold dmR;rw[if_pos ⟨rfl,h0⟩]
   rw[hq]at DM1;rw[hr]at DM2;rw[hc];clear hq hr hc;go_upto_region 6 with(fail)
   have hs6:w4.heap.size+1<w6.heap.size:=T8.lt;have hl7:=T7.lt;have SQ0:Hid (Sm ((nat ax/nat bx:Nat):Int)):=HSQ.out.mono (by simp only[Int.natAbs_natCast];omega);have SB:Hid (Sm (sgn false (nat bx))):=HS2.out.sm.mono (by rw[zZ,H2A.out];exact xgf _);have SR:Hid (Sm ((nat ax%nat bx:Nat):Int)):=SB.out.mono (by rw[zZ,Int.natAbs_natCast];omega);have S1:Hid (Sm 1):=HSQ.out.mono (by rw[Int.natAbs_natCast];exact Nat.succ_le_succ (Nat.zero_le _));have hbl8:bm+1<=8*LIM:=by rw[zAP]at hbl;rw[qV];omega
   refine zC 3 rfl (RI w6 (w6.heap.size) _ 35
     [E 0 39 (.agg #[.bool qn,.slice qa ql qc]),EI 1 40 (1),EI 2 41 (((nat ax/nat bx+1:Nat):Int))] [] []) kR RI.start (RI.fin kR ?fin4) ?steps4
   case steps4=>
    refine⟨?_,?_,?_,trivial⟩<;>(intro L T wS hL hd hcl hI K hK;try refine zA rfl ?_)
    ·have zt:=hI.k 7 rfl kR
     have cc0:=hI.cell c1 oM nom;have cc1:=hI.cell c2 oM nom;exact xgu
    ·go_simp
     refine(zAF 1 _ oM oM).mono ?_;exact xgo
    ·have zt0:=hI.e mm0 (hd 0)
     obtain⟨v1,zt1,h1⟩:=hI.vi mm1 (hd 1);go_simp;refine(zBZ _ _ ((nat ax/nat bx:Nat):Int) 1 _ (tq.ext hI.lext) h1 SQ0.out S1.out).mono ?_;exact xgo
   intro w7 hlw7 hbw7 holdw7 T hT;simp only[Fin,E,EI,VP,VSl,VN,xgg,xgh,xgi,xgj]at hT;obtain⟨va1,ha1,va2,ha2,rfl⟩:=hT;simp only[xgl,xgk];obtain⟨pn,pa,pl,pc,px,rfl,hpq⟩:=id ha2;have HPQ:=xgw hpq;clear hpq;have T7:=T7.below hbw7;have T8:=T8.below hbw7;have R1:=R1.below hbw7;have R2:=R2.below hbw7;have Y1:=Y1.below hbw7;have Y2:=Y2.below hbw7;clear c1 c2 c3 c4 d1 d2 d3 d4 k1 k2 k3 k4 l1 l2 l3 l4;obtain⟨c1,c2,c3,c4⟩:=T7.two;go_upto_region 7 with(fail)
   refine zB ?_;intro W8 hW8;have T7':=Blk.at_ hW8 (T7.put2 _ _);have T8:=Blk.at_ hW8 ((T8.far oM _ _).far oM _ _);have R1:=Blk.at_ hW8 ((R1.far oM _ _).far oM _ _);have R2:=Blk.at_ hW8 ((R2.far oM _ _).far oM _ _);have Y1:=Blk.at_ hW8 ((Y1.far oM _ _).far oM _ _);have Y2:=Blk.at_ hW8 ((Y2.far oM _ _).far oM _ _);have hx8:yO w7 W8:=by rw[hW8.out];exact T7.lext2 dE _ _
   have hBt:Below w.heap.size w W8:=by rw[hW8.out];exact zT (zT (nx hBt hbw7) oM 0 _) oM 1 _
   have tr:=tr.ext ((lx hbw7).trans hx8);have tq:=ha2.ext hx8;have h2x8:zG W8 ba bx:=h2x6.ext ((lx hbw7).trans hx8);have T7:=T7';clear T7' hW8 hx8 hbw7 hlw7 c1 c2 c3 c4;obtain⟨l1,l2,l3,l4⟩:=Y2.two;obtain⟨d1,d2,d3,d4⟩:=T8.two;have hl8:=T8.lt;have hly:=Y2.lt;have hse:sgn false (nat bx)-((nat ax%nat bx:Nat):Int)=((nat bx-nat ax%nat bx:Nat):Int):=by rw[sgn_false];omega
   refine zC 5 rfl (RI W8 (W8.heap.size) _ 35
     [VP 0 42 (w.heap.size+1) 1,E 1 43 (.slice ba (bm+1) bc),EI 2 44 (sgn false (nat bx)),E 3 45 (.agg #[.bool rn,.slice ra rl rc]),EI 4 46 (((nat bx-nat ax%nat bx:Nat):Int))] [] []) kR RI.start (RI.fin kR ?fin5) ?steps5
   case steps5=>
    refine⟨?_,?_,?_,?_,?_,trivial⟩<;>(intro L T wS hL hd hcl hI K hK;try refine zA rfl ?_)
    ·exact xgs (hI.k 3 rfl kR)
    ·have zt0:=hI.e mm0 (hd 0)
     have cc0:=hI.cell l2 oM nom;exact xgu
    ·have zt1:=hI.e mm1 (hd 1)
     go_simp;refine(yL ba (bm+1) bc bx false _ H2L.out h2a h2b hbl8 (h2x8.ext hI.lext)).mono ?_;exact xgo
    ·have zt:=hI.k 8 rfl kR
     have cc0:=hI.cell d1 oM nom;have cc1:=hI.cell d2 oM nom;exact xgu
    ·obtain⟨v2,zt2,h2⟩:=hI.vi mm2 (hd 2)
     have zt3:=hI.e mm3 (hd 3);go_simp;refine(zEf _ _ (sgn false (nat bx)) ((nat ax%nat bx:Nat):Int) _ h2 (tr.ext hI.lext) SB.out SR.out).mono ?_;rintro e wa ⟨v,rfl,hv,hba⟩;rw[hse]at hv;exact hK _ _ ((hI.world hba).n mm4 hv)
   intro w9 hlw9 hbw9 holdw9 T hT;simp only[Fin,E,EI,VP,VSl,VN,xgg,xgh,xgi,xgj]at hT;obtain⟨vb2,hb2,vb4,hb4,rfl⟩:=hT;simp only[xgl,xgk];obtain⟨on,oa,ol,oc,ox,rfl,hor⟩:=id hb4;have HOR:=xgw hor;clear hor;have T7:=T7.below hbw9;have T8:=T8.below hbw9;have R1:=R1.below hbw9;have R2:=R2.below hbw9;have Y1:=Y1.below hbw9;have Y2:=Y2.below hbw9;clear d1 d2 d3 d4 l1 l2 l3 l4;obtain⟨d1,d2,d3,d4⟩:=T8.two;obtain⟨k1,k2,k3,k4⟩:=Y1.two;obtain⟨l1,l2,l3,l4⟩:=Y2.two;go_upto_region 8 with(fail)
   refine zB ?_;intro WA hWA;have T8':=Blk.at_ hWA (T8.put2 _ _);have T7:=Blk.at_ hWA ((T7.far oM _ _).far oM _ _);have R1:=Blk.at_ hWA ((R1.far oM _ _).far oM _ _);have R2:=Blk.at_ hWA ((R2.far oM _ _).far oM _ _);have Y1:=Blk.at_ hWA ((Y1.far oM _ _).far oM _ _);have Y2:=Blk.at_ hWA ((Y2.far oM _ _).far oM _ _);have hxA:yO w9 WA:=by rw[hWA.out];exact T8.lext2 dE _ _
   have hBt:Below w.heap.size w WA:=by rw[hWA.out];exact zT (zT (nx hBt hbw9) oM 0 _) oM 1 _
   have tr:=hb4.ext hxA;have tq:=tq.ext ((lx hbw9).trans hxA);have T8:=T8';clear T8' hWA hxA hbw9 hlw9 d1 d2 d3 d4 k1 k2 k3 k4 l1 l2 l3 l4;obtain⟨k1,k2,k3,k4⟩:=Y1.two;obtain⟨l1,l2,l3,l4⟩:=Y2.two;obtain⟨c1,c2,c3,c4⟩:=T7.two;cases bn with
   | true=>
    have HD1:Hid (z1/z2=((nat ax/nat bx+1:Nat):Int)):=DM1;have HD2:Hid (z1%z2=((nat bx-nat ax%nat bx:Nat):Int)):=DM2;clear DM1 DM2;go_upto_region 10 with(fail)
    obtain⟨c1,c2,c3,c4⟩:=T7.two;obtain⟨d1,d2,d3,d4⟩:=T8.two;have hl7:=T7.lt;have hl8:=T8.lt;refine zE rfl (RI WA (WA.heap.size) _ 35
      [E 0 54 (.agg #[.bool pn,.slice pa pl pc]),E 1 55 (.agg #[.bool on,.slice oa ol oc]),VN 4 6 0] [] [⟨2,w.heap.size+1+1,fun w v=>zH w v (((nat ax/nat bx+1:Nat):Int))⟩,⟨3,w.heap.size+1+1+1,fun w v=>zH w v (((nat bx-nat ax%nat bx:Nat):Int))⟩]) kR RI.start ?fin6 ?steps6
    case steps6=>
     refine⟨?_,?_,?_,?_,?_,trivial⟩<;>(intro L T wS hL hd hcl hI K hK;try refine zA rfl ?_)
     ·have zt:=hI.k 7 rfl kR
      have cc0:=hI.cell c1 oM aU;have cc1:=hI.cell c2 oM aU;exact xgu
     ·have zt:=hI.k 8 rfl kR
      have cc0:=hI.cell d1 oM aU;have cc1:=hI.cell d2 oM aU;exact xgu
     ·have zt:=hI.k 4 rfl kR
      have zv:=hI.e mm0 (hd 0);obtain⟨⟨xo,yo,zb,-⟩,-⟩:=hI.ex _ mm0;replace zb:Blk wS (w.heap.size+1+1) 35 #[xo,yo]:=zb;obtain⟨zk1,zk2,zk3,zk4⟩:=zb.two;go_simp;exact hK _ _ (hI.storeE ⟨2,w.heap.size+1+1,_⟩ mm0 rfl hL rfl (zH.ext tq hI.lext))
     ·have zt:=hI.k 5 rfl kR
      have zv:=hI.e mm1 (hd 1);obtain⟨⟨xo,yo,zb,-⟩,-⟩:=hI.ex _ mm1;replace zb:Blk wS (w.heap.size+1+1+1) 35 #[xo,yo]:=zb;obtain⟨zk1,zk2,zk3,zk4⟩:=zb.two;go_simp;exact hK _ _ (hI.storeE ⟨3,w.heap.size+1+1+1,_⟩ mm1 rfl hL rfl (zH.ext tr hI.lext))
     ·go_simp
      exact hK _ _ (hI.q mm2)
    intro T We hI;obtain⟨⟨exe2,eye2,ebe2,eie2⟩,-⟩:=hI.ex _ mm0;replace ebe2:Blk We (w.heap.size+1+1) 35 #[exe2,eye2]:=ebe2;replace eie2:zH We (.agg #[exe2,eye2]) (((nat ax/nat bx+1:Nat):Int)):=eie2 rfl;obtain⟨⟨exe3,eye3,ebe3,eie3⟩,-⟩:=hI.ex _ mm1;replace ebe3:Blk We (w.heap.size+1+1+1) 35 #[exe3,eye3]:=ebe3;replace eie3:zH We (.agg #[exe3,eye3]) (((nat bx-nat ax%nat bx:Nat):Int)):=eie3 rfl;have hT:=hI.finx kR kR;have hlWe:=hI.lext;have hbWe:=hI.bel (w.heap.size) oM aU;have holdWe:=hI.old;clear hI;simp only[zEH,zD1,E,EI,ptr,xgm,List.not_mem_nil,false_implies,implies_true,and_true,true_and,xgg,xgh,xgi,xgj]at hT;subst hT;go_wp2_with fail
    refine bodyPost_ret (jG rfl _ rfl rfl ebe2 ebe3 rfl rfl) rfl ⟨_,_,rfl,?_,?_,hBt.trans hbWe⟩
    ·rw[HD1.out];exact eie2
    ·rw[HD2.out];exact eie3
   | false=>
    have HD1:Hid (z1/z2=-((nat ax/nat bx+1:Nat):Int)):=DM1;have HD2:Hid (z1%z2=((nat bx-nat ax%nat bx:Nat):Int)):=DM2;clear DM1 DM2;go_wp2_with fail
    refine(zBa _ (((nat ax/nat bx+1:Nat):Int)) _ tq.weak HSQ.out).mono ?_;rintro e wn ⟨v,rfl,tq2,hbn⟩;obtain⟨nqn,nqa,nql,nqc,nqx,rfl,hnq⟩:=id tq2;have HNQ:=xgw hnq;clear hnq;have T7:=T7.below hbn;have T8:=T8.below hbn;have R1:=R1.below hbn;have R2:=R2.below hbn;obtain⟨c1,c2,c3,c4⟩:=T7.two;go_upto_region 10 with(fail)
    refine zB ?_;intro Wn hWn;have T7':=Blk.at_ hWn (T7.put2 _ _);have T8:=Blk.at_ hWn ((T8.far oM _ _).far oM _ _);have R1:=Blk.at_ hWn ((R1.far oM _ _).far oM _ _);have R2:=Blk.at_ hWn ((R2.far oM _ _).far oM _ _);have hxn:yO WA Wn:=by rw[hWn.out];exact(lx hbn).trans (T7.lext2 dE _ _)
    have hBt:Below w.heap.size w Wn:=by rw[hWn.out];exact zT (zT (nx hBt hbn) oM 0 _) oM 1 _
    have tr:=tr.ext hxn;have tq:zH Wn (.agg #[.bool nqn,.slice nqa nql nqc]) (-((nat ax/nat bx+1:Nat):Int)):=by rw[hWn.out];exact tq2.ext (T7.lext2 dE _ _)
    have T7:=T7';clear T7' tq2 hWn hxn hbn;obtain⟨c1,c2,c3,c4⟩:=T7.two;obtain⟨d1,d2,d3,d4⟩:=T8.two;have hl7:=T7.lt;have hl8:=T8.lt;refine zE rfl (RI Wn (Wn.heap.size) _ 35
      [E 0 54 (.agg #[.bool nqn,.slice nqa nql nqc]),E 1 55 (.agg #[.bool on,.slice oa ol oc]),VN 4 6 0] [] [⟨2,w.heap.size+1+1,fun w v=>zH w v ((-((nat ax/nat bx+1:Nat):Int)))⟩,⟨3,w.heap.size+1+1+1,fun w v=>zH w v (((nat bx-nat ax%nat bx:Nat):Int))⟩]) kR RI.start ?fin7 ?steps7
    case steps7=>
     refine⟨?_,?_,?_,?_,?_,trivial⟩<;>(intro L T wS hL hd hcl hI K hK;try refine zA rfl ?_)
     ·have zt:=hI.k 7 rfl kR
      have cc0:=hI.cell c1 oM aU;have cc1:=hI.cell c2 oM aU;exact xgu
     ·have zt:=hI.k 8 rfl kR
      have cc0:=hI.cell d1 oM aU;have cc1:=hI.cell d2 oM aU;exact xgu
     ·have zt:=hI.k 4 rfl kR
      have zv:=hI.e mm0 (hd 0);obtain⟨⟨xo,yo,zb,-⟩,-⟩:=hI.ex _ mm0;replace zb:Blk wS (w.heap.size+1+1) 35 #[xo,yo]:=zb;obtain⟨zk1,zk2,zk3,zk4⟩:=zb.two;go_simp;exact hK _ _ (hI.storeE ⟨2,w.heap.size+1+1,_⟩ mm0 rfl hL rfl (zH.ext tq hI.lext))
     ·have zt:=hI.k 5 rfl kR
      have zv:=hI.e mm1 (hd 1);obtain⟨⟨xo,yo,zb,-⟩,-⟩:=hI.ex _ mm1;replace zb:Blk wS (w.heap.size+1+1+1) 35 #[xo,yo]:=zb;obtain⟨zk1,zk2,zk3,zk4⟩:=zb.two;go_simp;exact hK _ _ (hI.storeE ⟨3,w.heap.size+1+1+1,_⟩ mm1 rfl hL rfl (zH.ext tr hI.lext))
     ·go_simp
      exact hK _ _ (hI.q mm2)
    intro T We hI;obtain⟨⟨exe2,eye2,ebe2,eie2⟩,-⟩:=hI.ex _ mm0;replace ebe2:Blk We (w.heap.size+1+1) 35 #[exe2,eye2]:=ebe2;replace eie2:zH We (.agg #[exe2,eye2]) ((-((nat ax/nat bx+1:Nat):Int))):=eie2 rfl;obtain⟨⟨exe3,eye3,ebe3,eie3⟩,-⟩:=hI.ex _ mm1;replace ebe3:Blk We (w.heap.size+1+1+1) 35 #[exe3,eye3]:=ebe3;replace eie3:zH We (.agg #[exe3,eye3]) (((nat bx-nat ax%nat bx:Nat):Int)):=eie3 rfl;have hT:=hI.finx kR kR;have hlWe:=hI.lext;have hbWe:=hI.bel (w.heap.size) oM aU;have holdWe:=hI.old;clear hI;simp only[zEH,zD1,E,EI,ptr,xgm,List.not_mem_nil,false_implies,implies_true,and_true,true_and,xgg,xgh,xgi,xgj]at hT;subst hT;go_wp2_with fail
    refine bodyPost_ret (jG rfl _ rfl rfl ebe2 ebe3 rfl rfl) rfl ⟨_,_,rfl,?_,?_,hBt.trans hbWe⟩
    ·rw[HD1.out];exact eie2
    ·rw[HD2.out];exact eie3
  ·have hc:qJ ((nat ax%nat bx:Nat):Int) 0=0:=by unfold qJ;rw[if_neg oM,if_neg oM]
   have hq:dmQ true (nat ax) (nat bx)=nat ax/nat bx:=by unfold dmQ;rw[if_neg (by simp;omega)]
   have hr:dmR true (nat ax) (nat bx)=nat ax%nat bx:=by unfold dmR;rw[if_neg (by simp;omega)]
   rw[hq]at DM1;rw[hr]at DM2;rw[hc];have HSQ:=xgw (HSQ.out.mono (y:=((nat ax/nat bx:Nat):Int)) (by simp only[Int.natAbs_natCast];omega));clear hq hr hc;cases bn with
   | true=>
    have HD1:Hid (z1/z2=((nat ax/nat bx:Nat):Int)):=DM1;have HD2:Hid (z1%z2=((nat ax%nat bx:Nat):Int)):=DM2;clear DM1 DM2;go_upto_region 10 with(fail)
    obtain⟨c1,c2,c3,c4⟩:=T7.two;obtain⟨d1,d2,d3,d4⟩:=T8.two;have hl7:=T7.lt;have hl8:=T8.lt;refine zE rfl (RI w6 (w6.heap.size) _ 35
      [E 0 54 (.agg #[.bool qn,.slice qa ql qc]),E 1 55 (.agg #[.bool rn,.slice ra rl rc]),VN 4 6 0] [] [⟨2,w.heap.size+1+1,fun w v=>zH w v (((nat ax/nat bx:Nat):Int))⟩,⟨3,w.heap.size+1+1+1,fun w v=>zH w v (((nat ax%nat bx:Nat):Int))⟩]) kR RI.start ?fin8 ?steps8
    case steps8=>
     refine⟨?_,?_,?_,?_,?_,trivial⟩<;>(intro L T wS hL hd hcl hI K hK;try refine zA rfl ?_)
     ·have zt:=hI.k 7 rfl kR
      have cc0:=hI.cell c1 oM aU;have cc1:=hI.cell c2 oM aU;exact xgu
     ·have zt:=hI.k 8 rfl kR
      have cc0:=hI.cell d1 oM aU;have cc1:=hI.cell d2 oM aU;exact xgu
     ·have zt:=hI.k 4 rfl kR
      have zv:=hI.e mm0 (hd 0);obtain⟨⟨xo,yo,zb,-⟩,-⟩:=hI.ex _ mm0;replace zb:Blk wS (w.heap.size+1+1) 35 #[xo,yo]:=zb;obtain⟨zk1,zk2,zk3,zk4⟩:=zb.two;go_simp;exact hK _ _ (hI.storeE ⟨2,w.heap.size+1+1,_⟩ mm0 rfl hL rfl (zH.ext tq hI.lext))
     ·have zt:=hI.k 5 rfl kR
      have zv:=hI.e mm1 (hd 1);obtain⟨⟨xo,yo,zb,-⟩,-⟩:=hI.ex _ mm1;replace zb:Blk wS (w.heap.size+1+1+1) 35 #[xo,yo]:=zb;obtain⟨zk1,zk2,zk3,zk4⟩:=zb.two;go_simp;exact hK _ _ (hI.storeE ⟨3,w.heap.size+1+1+1,_⟩ mm1 rfl hL rfl (zH.ext tr hI.lext))
     ·go_simp
      exact hK _ _ (hI.q mm2)
    intro T We hI;obtain⟨⟨exe2,eye2,ebe2,eie2⟩,-⟩:=hI.ex _ mm0;replace ebe2:Blk We (w.heap.size+1+1) 35 #[exe2,eye2]:=ebe2;replace eie2:zH We (.agg #[exe2,eye2]) (((nat ax/nat bx:Nat):Int)):=eie2 rfl;obtain⟨⟨exe3,eye3,ebe3,eie3⟩,-⟩:=hI.ex _ mm1;replace ebe3:Blk We (w.heap.size+1+1+1) 35 #[exe3,eye3]:=ebe3;replace eie3:zH We (.agg #[exe3,eye3]) (((nat ax%nat bx:Nat):Int)):=eie3 rfl;have hT:=hI.finx kR kR;have hlWe:=hI.lext;have hbWe:=hI.bel (w.heap.size) oM aU;have holdWe:=hI.old;clear hI;simp only[zEH,zD1,E,EI,ptr,xgm,List.not_mem_nil,false_implies,implies_true,and_true,true_and,xgg,xgh,xgi,xgj]at hT;subst hT;go_wp2_with fail
    refine bodyPost_ret (jG rfl _ rfl rfl ebe2 ebe3 rfl rfl) rfl ⟨_,_,rfl,?_,?_,hBt.trans hbWe⟩
    ·rw[HD1.out];exact eie2
    ·rw[HD2.out];exact eie3
   | false=>
    have HD1:Hid (z1/z2=-((nat ax/nat bx:Nat):Int)):=DM1;have HD2:Hid (z1%z2=((nat ax%nat bx:Nat):Int)):=DM2;clear DM1 DM2;go_wp2_with fail
    refine(zBa _ (((nat ax/nat bx:Nat):Int)) _ tq.weak HSQ.out).mono ?_;rintro e wn ⟨v,rfl,tq2,hbn⟩;obtain⟨nqn,nqa,nql,nqc,nqx,rfl,hnq⟩:=id tq2;have HNQ:=xgw hnq;clear hnq;have T7:=T7.below hbn;have T8:=T8.below hbn;have R1:=R1.below hbn;have R2:=R2.below hbn;obtain⟨c1,c2,c3,c4⟩:=T7.two;go_upto_region 10 with(fail)
    refine zB ?_;intro Wn hWn;have T7':=Blk.at_ hWn (T7.put2 _ _);have T8:=Blk.at_ hWn ((T8.far oM _ _).far oM _ _);have R1:=Blk.at_ hWn ((R1.far oM _ _).far oM _ _);have R2:=Blk.at_ hWn ((R2.far oM _ _).far oM _ _);have hxn:yO w6 Wn:=by rw[hWn.out];exact(lx hbn).trans (T7.lext2 dE _ _)
    have hBt:Below w.heap.size w Wn:=by rw[hWn.out];exact zT (zT (nx hBt hbn) oM 0 _) oM 1 _
    have tr:=tr.ext hxn;have tq:zH Wn (.agg #[.bool nqn,.slice nqa nql nqc]) (-((nat ax/nat bx:Nat):Int)):=by rw[hWn.out];exact tq2.ext (T7.lext2 dE _ _)
    have T7:=T7';clear T7' tq2 hWn hxn hbn;obtain⟨c1,c2,c3,c4⟩:=T7.two;obtain⟨d1,d2,d3,d4⟩:=T8.two;have hl7:=T7.lt;have hl8:=T8.lt;refine zE rfl (RI Wn (Wn.heap.size) _ 35
      [E 0 54 (.agg #[.bool nqn,.slice nqa nql nqc]),E 1 55 (.agg #[.bool rn,.slice ra rl rc]),VN 4 6 0] [] [⟨2,w.heap.size+1+1,fun w v=>zH w v ((-((nat ax/nat bx:Nat):Int)))⟩,⟨3,w.heap.size+1+1+1,fun w v=>zH w v (((nat ax%nat bx:Nat):Int))⟩]) kR RI.start ?fin9 ?steps9
    case steps9=>
     refine⟨?_,?_,?_,?_,?_,trivial⟩<;>(intro L T wS hL hd hcl hI K hK;try refine zA rfl ?_)
     ·have zt:=hI.k 7 rfl kR
      have cc0:=hI.cell c1 oM aU;have cc1:=hI.cell c2 oM aU;exact xgu
     ·have zt:=hI.k 8 rfl kR
      have cc0:=hI.cell d1 oM aU;have cc1:=hI.cell d2 oM aU;exact xgu
     ·have zt:=hI.k 4 rfl kR
      have zv:=hI.e mm0 (hd 0);obtain⟨⟨xo,yo,zb,-⟩,-⟩:=hI.ex _ mm0;replace zb:Blk wS (w.heap.size+1+1) 35 #[xo,yo]:=zb;obtain⟨zk1,zk2,zk3,zk4⟩:=zb.two;go_simp;exact hK _ _ (hI.storeE ⟨2,w.heap.size+1+1,_⟩ mm0 rfl hL rfl (zH.ext tq hI.lext))
     ·have zt:=hI.k 5 rfl kR
      have zv:=hI.e mm1 (hd 1);obtain⟨⟨xo,yo,zb,-⟩,-⟩:=hI.ex _ mm1;replace zb:Blk wS (w.heap.size+1+1+1) 35 #[xo,yo]:=zb;obtain⟨zk1,zk2,zk3,zk4⟩:=zb.two;go_simp;exact hK _ _ (hI.storeE ⟨3,w.heap.size+1+1+1,_⟩ mm1 rfl hL rfl (zH.ext tr hI.lext))
     ·go_simp
      exact hK _ _ (hI.q mm2)
    intro T We hI;obtain⟨⟨exe2,eye2,ebe2,eie2⟩,-⟩:=hI.ex _ mm0;replace ebe2:Blk We (w.heap.size+1+1) 35 #[exe2,eye2]:=ebe2;replace eie2:zH We (.agg #[exe2,eye2]) ((-((nat ax/nat bx:Nat):Int))):=eie2 rfl;obtain⟨⟨exe3,eye3,ebe3,eie3⟩,-⟩:=hI.ex _ mm1;replace ebe3:Blk We (w.heap.size+1+1+1) 35 #[exe3,eye3]:=ebe3;replace eie3:zH We (.agg #[exe3,eye3]) (((nat ax%nat bx:Nat):Int)):=eie3 rfl;have hT:=hI.finx kR kR;have hlWe:=hI.lext;have hbWe:=hI.bel (w.heap.size) oM aU;have holdWe:=hI.old;clear hI;simp only[zEH,zD1,E,EI,ptr,xgm,List.not_mem_nil,false_implies,implies_true,and_true,true_and,xgg,xgh,xgi,xgj]at hT;subst hT;go_wp2_with fail
    refine bodyPost_ret (jG rfl _ rfl rfl ebe2 ebe3 rfl rfl) rfl ⟨_,_,rfl,?_,?_,hBt.trans hbWe⟩
    ·rw[HD1.out];exact eie2
    ·rw[HD2.out];exact eie3
end Go.Proofs.YtnbmaipobhppcaaGreat
