/- smith.Invariants. smith.inverses and smith.Check where everything holds. smith.Check where everything holds; the zero struct. torsionlaw13.list. -/
import Derived.Test.YtnocgagoaldfnaaGreatB17
import Derived.Test.YtnocgagoaldfnaaGreatB45
set_option linter.unusedVariables false
set_option linter.unusedSimpArgs false
set_option linter.unusedSectionVars false
namespace Go.Proofs.YtnocgagoaldfnaaGreat
open Go.RowKit
def zf : Nat→Nat→Int:=fun _ _=>0
theorem mnewW (R C : Nat) (w : World) (hR : R≤1000000) (hC : C≤1000000) : Calls Tryz.prog 60 #[.int .i64 R,.int .i64 C] w fun e w'=>∃v,e = .returned v∧Within R C zf w.heap.size w'.heap.size w' v∧Below w.heap.size w w':=
 (mnew_any R C w hR hC).mono fun e w' hr=>by
  rw [zeros_genM] at hr
  exact hr.within
def nzL (l : List Int) : List Int:=l.filter (fun z=>decide (z ≠ 0))
set_option maxHeartbeats 4000000 in
set_option maxRecDepth 20000 in
theorem invariants_none (v : Value) (C : Nat) (M : List (List Int)) (w : World) (h : MatV w v (0 : Nat) C M) (hF : Fits 0 C M) :
  Calls Tryz.prog 18 #[v] w fun e w'=>∃v,e = .returned v∧VecO w' w.heap.size v []∧Below w.heap.size w w':=by
 have H0:=HidS.mk h
 obtain ⟨R,hR0⟩ : ∃R : Nat,R = 0:=⟨0,rfl⟩
 rw [← hR0] at H0
 obtain ⟨A,rfl,h⟩:=h
 obtain ⟨ao,n,cap,rfl,e2,e3,e4,-⟩:=id h
 have hdv : decide (ValidM R C M) = true:=decide_eq_true (by rw [hR0]; exact hF.valid)
 rw [← hR0]
 clear e2 hF
 go_enter Tryz.func18,Tryz.ntmps18
 go_upto_region 1 with (fail)
 refine wp_world ?_
 intro W0 hW0
 obtain ⟨hB0,bx1,hs0⟩:=world1 hW0
 obtain ⟨c1,c2,c3,c4,c5,c6⟩:=bx1.three
 clear hW0
 go_wp2_with fail
 refine (mvalid_any _ R C M W0 (H0.out.below hB0)).mono ?_
 rintro e w1 ⟨rfl,hb1⟩
 rw [hdv]
 have bx1:=bx1.below hb1
 have hB1:=nx hB0 hb1
 have hs1:=hb1.size
 clear c1 c2 c3 c4 c5 c6 hdv
 obtain ⟨c1,c2,c3,c4,c5,c6⟩:=bx1.three
 subst hR0
 go_wp2
 go_ret
 exact ⟨_,rfl,VecO.nil _ _,hB1⟩
theorem diagL_genM {R C n : Nat} {F : Nat→Nat→Int} (h : n≤R) (h2 : n≤C) : diagL (genM R C F) n = genV n (fun i=>F i i):=by
 unfold diagL genV
 refine List.map_congr_left fun k hk=>?_
 have hk':=List.mem_range.1 hk
 exact ent_genM (by omega) (by omega)
theorem nzL_snoc (l : List Int) (z : Int) : nzL (l ++ [z]) = if z ≠ 0 then nzL l ++ [z] else nzL l:=by
 unfold nzL
 by_cases h : z = 0
 ·simp [h]
 ·simp [h]
set_option maxHeartbeats 8000000 in
set_option maxRecDepth 20000 in
theorem invariants_any {B : Nat} (hB : BSd B) (v : Value) (M : List (List Int)) (R C : Nat) (w : World) (h : MatV w v R C M) (hF : Fits R C M) (hR0 : 0 < R) (hR : R≤1000000) (hC : C≤1000000) {f rr : Nat} {y : W5} (hok : okW B R C 0 0 ⟨ent M,zf,zf,zf,zf⟩)
  (hrun : runGo B R C 0 0 f rr ⟨ent M,zf,zf,zf,zf⟩ = some y) (hdiv : ∀y',DivR (min R C) y y'→∀i j,i < j→j < min R C→¬ y'.s i i ∣ y'.s j j→DivOk B C 0 0 y' i j) (hel : ∀y',DivR (min R C) y y'→∀i,i < min R C→(y'.s i i).natAbs < B) :
  Calls Tryz.prog 18 #[v] w fun e w'=>∃v,e = .returned v∧VecO w' w.heap.size v (nzL (genV (min R C) (fun i=>divI (min R C) 0 y.s i i)))∧Below w.heap.size w w':=by
 have hBm:=hB.bsm
 have S1 : HidS (Sm 1):=⟨(Smd.one (z:=1) (by decide)).sm⟩
 have H0:=HidS.mk h
 obtain ⟨A,rfl,h⟩:=h
 obtain ⟨ao,n,cap,rfl,e2,e3,e4,-⟩:=id h
 obtain rfl : R = n:=by rw [← e2,hF.1]
 have hdv : decide (ValidM R C M) = true:=decide_eq_true hF.valid
 have HF:=HidS.mk hF
 have HOK:=HidS.mk hok
 have HRUN:=HidS.mk hrun
 have HDIV:=HidS.mk hdiv
 have HEL:=HidS.mk hel
 obtain ⟨LL,hLL⟩ : ∃LL : List Int,genV (min R C) (fun i=>divI (min R C) 0 y.s i i) = LL:=⟨_,rfl⟩
 rw [hLL]
 have HLL:=HidS.mk hLL
 clear hok hrun hdiv hel hF e2 hLL
 go_enter Tryz.func18,Tryz.ntmps18
 go_upto_region 1 with (fail)
 refine wp_world ?_
 intro W0 hW0
 obtain ⟨hB0,bx1,hs0⟩:=world1 hW0
 obtain ⟨c1,c2,c3,c4,c5,c6⟩:=bx1.three
 clear hW0
 go_wp2_with fail
 refine (mvalid_any _ R C M W0 (H0.out.below hB0)).mono ?_
 rintro e w1 ⟨rfl,hb1⟩
 rw [hdv]
 have bx1:=bx1.below hb1
 have hB1:=nx hB0 hb1
 have hs1:=hb1.size
 clear c1 c2 c3 c4 c5 c6 hdv
 obtain ⟨c1,c2,c3,c4,c5,c6⟩:=bx1.three
 have hl1:=lastsB_five w1.heap.size R C 0 0 ⟨ent M,zf,zf,zf,zf⟩
 have hl2:=lastsB_workNew w1.heap.size
 have hRne : ¬ (R : Int) = 0:=by omega
 go_upto_region 3 with (fail)
 refine wp_region_headed 18 rfl (RG w1 _ [⟨0,15,fun _ v=>v = .agg #[.int .i64 R,.int .i64 C,.slice ao R cap]⟩,⟨1,16,fun w v=>IntV w v (1)⟩,⟨3,18,fun _ v=>v = .pointer (some ⟨w.heap.size,0,none⟩)⟩,⟨4,19,fun _ v=>v = .int .i64 R⟩,⟨6,21,fun _ v=>v = .pointer (some ⟨w.heap.size,0,none⟩)⟩,⟨7,22,fun _ v=>v = .int .i64 R⟩,⟨9,24,fun _ v=>v = .pointer (some ⟨w.heap.size,1,none⟩)⟩,⟨10,25,fun _ v=>v = .int .i64 C⟩,⟨12,27,fun _ v=>v = .pointer (some ⟨w.heap.size,1,none⟩)⟩,⟨13,28,fun _ v=>v = .int .i64 C⟩,⟨15,30,FiveV w1.heap.size R C 0 0 ⟨ent M,zf,zf,zf,zf⟩⟩,⟨16,31,FiveV w1.heap.size R C 0 0 ⟨ent M,zf,zf,zf,zf⟩⟩,⟨17,3,WorkNew w1.heap.size⟩] [⟨2,17,R,C,ent M⟩,⟨5,20,R,0,zf⟩,⟨8,23,R,0,zf⟩,⟨11,26,C,0,zf⟩,⟨14,29,C,0,zf⟩]) (by kernel_rfl) RG.start ?fin1 ?steps1
 case steps1=>
  refine ⟨?_,?_,?_,?_,?_,?_,?_,?_,?_,?_,?_,?_,?_,?_,?_,?_,?_,?_,trivial⟩ <;> (intro L T wS hL hd hcl hI K hK; try refine step_wanted rfl ?_)
  ·have zt : T[1]? = some (.pointer (some ⟨w.heap.size,0,none⟩)):=hI.keep 1 (by simp) (by simp)
   have cc0:=hI.cell c1
   have cc1:=hI.cell c2
   have cc2:=hI.cell c3
   go_simp
   exact hK _ _ (hI.value _ mm0 rfl rfl)
  ·go_simp
   refine (of_any 1 _ (by omega) (by omega)).mono ?_
   rintro e wa ⟨v,rfl,hv,hba⟩
   exact hK _ _ ((hI.world hba).value _ mm1 rfl hv)
  ·obtain ⟨_,zt0,rfl⟩:=hI.val _ mm0 (hd 0)
   obtain ⟨v1,zt1,h1⟩:=hI.val _ mm1 (hd 1)
   go_simp
   refine (mscaleW hBm _ _ M R C _ ((H0.out.below hB1).below hI.bel) HF.out h1 hR hC HOK.out.1 S1.out).mono ?_
   rintro e wa ⟨v,rfl,hv,hba⟩
   exact hK _ _ (hI.mat hcl hL ⟨2,17,_,_,_⟩ mm0 rfl hba hv (by kernel_rfl))
  ·have zt : T[1]? = some (.pointer (some ⟨w.heap.size,0,none⟩)):=hI.keep 1 (by simp) (by simp)
   go_simp
   exact hK _ _ (hI.value _ mm2 rfl rfl)
  ·obtain ⟨_,zt3,rfl⟩:=hI.val _ mm2 (hd 3)
   have cc0:=hI.cell c1
   go_simp
   exact hK _ _ (hI.value _ mm3 rfl rfl)
  ·obtain ⟨_,zt4,rfl⟩:=hI.val _ mm3 (hd 4)
   go_simp
   refine (mnewW R 0 _ hR (Nat.zero_le _)).mono ?_
   rintro e wa ⟨v,rfl,hv,hba⟩
   exact hK _ _ (hI.mat hcl hL ⟨5,20,_,_,_⟩ mm1 rfl hba hv (by kernel_rfl))
  ·have zt : T[1]? = some (.pointer (some ⟨w.heap.size,0,none⟩)):=hI.keep 1 (by simp) (by simp)
   go_simp
   exact hK _ _ (hI.value _ mm4 rfl rfl)
  ·obtain ⟨_,zt6,rfl⟩:=hI.val _ mm4 (hd 6)
   have cc0:=hI.cell c1
   go_simp
   exact hK _ _ (hI.value _ mm5 rfl rfl)
  ·obtain ⟨_,zt7,rfl⟩:=hI.val _ mm5 (hd 7)
   go_simp
   refine (mnewW R 0 _ hR (Nat.zero_le _)).mono ?_
   rintro e wa ⟨v,rfl,hv,hba⟩
   exact hK _ _ (hI.mat hcl hL ⟨8,23,_,_,_⟩ mm2 rfl hba hv (by kernel_rfl))
  ·have zt : T[1]? = some (.pointer (some ⟨w.heap.size,0,none⟩)):=hI.keep 1 (by simp) (by simp)
   go_simp
   exact hK _ _ (hI.value _ mm6 rfl rfl)
  ·obtain ⟨_,zt9,rfl⟩:=hI.val _ mm6 (hd 9)
   have cc0:=hI.cell c2
   go_simp
   exact hK _ _ (hI.value _ mm7 rfl rfl)
  ·obtain ⟨_,zt10,rfl⟩:=hI.val _ mm7 (hd 10)
   go_simp
   refine (mnewW C 0 _ hC (Nat.zero_le _)).mono ?_
   rintro e wa ⟨v,rfl,hv,hba⟩
   exact hK _ _ (hI.mat hcl hL ⟨11,26,_,_,_⟩ mm3 rfl hba hv (by kernel_rfl))
  ·have zt : T[1]? = some (.pointer (some ⟨w.heap.size,0,none⟩)):=hI.keep 1 (by simp) (by simp)
   go_simp
   exact hK _ _ (hI.value _ mm8 rfl rfl)
  ·obtain ⟨_,zt12,rfl⟩:=hI.val _ mm8 (hd 12)
   have cc0:=hI.cell c2
   go_simp
   exact hK _ _ (hI.value _ mm9 rfl rfl)
  ·obtain ⟨_,zt13,rfl⟩:=hI.val _ mm9 (hd 13)
   go_simp
   refine (mnewW C 0 _ hC (Nat.zero_le _)).mono ?_
   rintro e wa ⟨v,rfl,hv,hba⟩
   exact hK _ _ (hI.mat hcl hL ⟨14,29,_,_,_⟩ mm4 rfl hba hv (by kernel_rfl))
  ·obtain ⟨so,sc,uo,uc,vo,vc,wo,wc,xo,xc,t1,t2,t3,t4,t5,hfive⟩:=hI.five (by omega) (by omega) (by omega) (by omega) (hd 2) (hd 5) (hd 8) (hd 11) (hd 14)
   go_simp
   exact hK _ _ (hI.value _ mm10 rfl hfive)
  ·obtain ⟨v15,zt15,h15⟩:=hI.val _ mm10 (hd 15)
   have h15' : FiveV w1.heap.size R C 0 0 ⟨ent M,zf,zf,zf,zf⟩ wS v15:=h15
   obtain ⟨so,sc,uo,uc,vo,vc,wo,wc,xo,xc,bS,bU,bV,bW,bX,rfl,-⟩:=h15'.ex
   go_simp
   exact hK _ _ (hI.value _ mm11 rfl h15)
  ·go_simp
   exact hK _ _ ((hI.world ((Below.refl _ _).alloc (Nat.le_refl _) _)).value _ mm12 rfl ⟨_,rfl,Blk.new _ _ _,hI.bel.size⟩)
 intro T w2 hI
 obtain ⟨va0,q0,rfl⟩:=hI.val _ mm0 rfl
 obtain ⟨va1,q1,ha1⟩:=hI.val _ mm1 rfl
 replace ha1 : IntV w2 va1 (1):=ha1
 obtain ⟨va3,q3,rfl⟩:=hI.val _ mm2 rfl
 obtain ⟨va4,q4,rfl⟩:=hI.val _ mm3 rfl
 obtain ⟨va6,q6,rfl⟩:=hI.val _ mm4 rfl
 obtain ⟨va7,q7,rfl⟩:=hI.val _ mm5 rfl
 obtain ⟨va9,q9,rfl⟩:=hI.val _ mm6 rfl
 obtain ⟨va10,q10,rfl⟩:=hI.val _ mm7 rfl
 obtain ⟨va12,q12,rfl⟩:=hI.val _ mm8 rfl
 obtain ⟨va13,q13,rfl⟩:=hI.val _ mm9 rfl
 obtain ⟨va15,q15,ha15⟩:=hI.val _ mm10 rfl
 obtain ⟨va16,q16,ha16⟩:=hI.val _ mm11 rfl
 obtain ⟨va17,q17,ha17⟩:=hI.val _ mm12 rfl
 obtain ⟨va2,q2,moa2,mca2,mea2⟩:=hI.matv _ mm0 rfl
 obtain ⟨va5,q5,moa5,mca5,mea5⟩:=hI.matv _ mm1 rfl
 obtain ⟨va8,q8,moa8,mca8,mea8⟩:=hI.matv _ mm2 rfl
 obtain ⟨va11,q11,moa11,mca11,mea11⟩:=hI.matv _ mm3 rfl
 obtain ⟨va14,q14,moa14,mca14,mea14⟩:=hI.matv _ mm4 rfl
 have hT:=tmps_set [(15,.agg #[.int .i64 R,.int .i64 C,.slice ao R cap]),(16,va1),(18,.pointer (some ⟨w.heap.size,0,none⟩)),(19,.int .i64 R),(21,.pointer (some ⟨w.heap.size,0,none⟩)),(22,.int .i64 R),(24,.pointer (some ⟨w.heap.size,1,none⟩)),(25,.int .i64 C),(27,.pointer (some ⟨w.heap.size,1,none⟩)),(28,.int .i64 C),(30,va15),(31,va16),(3,va17),(17,va2),(20,va5),(23,va8),(26,va11),(29,va14)]
  (fun j hj=>hI.keep j (by simp only [List.forall_mem_cons] at hj ⊢; simp [hj]) (by simp only [List.forall_mem_cons] at hj ⊢; simp [hj]))
  (by simp only [List.forall_mem_cons]; simp [q0,q1,q3,q4,q6,q7,q9,q10,q12,q13,q15,q16,q17,q2,q5,q8,q11,q14]) hI.size
 have hbw2:=hI.bel
 clear hI
 simp only [List.foldl_cons,List.foldl_nil,List.setIfInBounds_toArray,List.set_cons_zero,List.set_cons_succ,ptr] at hT
 subst hT
 clear q0 q1 q3 q4 q6 q7 q9 q10 q12 q13 q15 q16 q17 q2 q5 q8 q11 q14
 simp only [List.drop_succ_cons,List.drop_zero]
 have ha16' : FiveV w1.heap.size R C 0 0 ⟨ent M,zf,zf,zf,zf⟩ w2 va16:=ha16
 obtain ⟨g,rfl,gb,hgg⟩ : WorkNew w1.heap.size w2 va17:=ha17
 obtain ⟨so,sc,uo,uc,vo,vc,wo,wc,xo,xc,-,-,-,-,-,rfl,-⟩:=ha16'.ex
 have H5:=HidS.mk ha16'
 obtain ⟨⟨q0,q1,q2,q3,q4,q5,q6,q7,q8,q9,q10,q11,q12,q13,q14⟩,⟨f0,f1,f2,f3,f4,f5,f6,f7,f8,f9,f10,f11,f12,f13,f14⟩⟩:=gb.all15
 have hB2:=nx hB1 hbw2
 have bx1:=bx1.below hbw2
 have lg:=gb.lt
 clear c1 c2 c3 c4 c5 c6 ha1 ha15 ha16 ha16'
 clear mea2 mea5 mea8 mea11 mea14
 go_upto_region 4 with (fail)
 refine wp_world ?_
 intro W3 hW3
 have hgW : Blk W3 g tW #[.int .i64 R,.int .i64 C,.slice so R sc,.int .i64 R,.int .i64 (0 : Nat),.slice uo R uc,.int .i64 R,.int .i64 (0 : Nat),.slice vo R vc,.int .i64 C,.int .i64 (0 : Nat),.slice wo C wc,.int .i64 C,.int .i64 (0 : Nat),.slice xo C xc]:=by rw [hW3.out]; exact gb.put15 _ _ _ _ _ _ _ _ _ _ _ _ _ _ _
 have hold : ∀b,b ≠ g→W3.heap[b]? = w2.heap[b]?:=fun b hb=>by rw [hW3.out]; exact set15_old _ _ _ _ _ _ _ _ _ _ _ _ _ _ _ _ _ _ hb
 have hx3 : LExt w2 W3:=by rw [hW3.out]; exact gb.lext15 (by decide) _ _ _ _ _ _ _ _ _ _ _ _ _ _ _
 have hbl3 : Below 0 w2 W3:=by rw [hW3.out]; exact below15 (Below.refl _ _) (Nat.zero_le _) _ _ _ _ _ _ _ _ _ _ _ _ _ _ _
 have hB3 : Below w.heap.size w W3:=by rw [hW3.out]; exact below15 hB2 (by have:=hB0.size; omega) _ _ _ _ _ _ _ _ _ _ _ _ _ _ _
 have hO3 : OnlyZ (fun b=>b = g) w2 W3:=⟨hbl3,hx3,fun b _ hb=>hold b hb⟩
 obtain ⟨bS,bU,bV,bW,bX,hwork⟩:=H5.out.work gb hgg hgW hO3
 have hsz3:=hbl3.size
 have hsz2:=hbw2.size
 have HWK:=HidS.mk hwork
 clear q0 q1 q2 q3 q4 q5 q6 q7 q8 q9 q10 q11 q12 q13 q14 f0 f1 f2 f3 f4 f5 f6 f7 f8 f9 f10 f11 f12 f13 f14 hW3 hold hx3 hbl3 hO3 hwork gb hgW H5
 go_wp2_with fail
 refine (wrun_any hB HWK.out (by omega) HOK.out hR hC (Nat.zero_le _) (Nat.zero_le _) HRUN.out HDIV.out HEL.out).mono ?_
 rintro e w4 ⟨⟨uu,rfl⟩,hO4,AS',bS',bU',bV',bW',bX',y',hdr,hys,hw4⟩
 obtain ⟨so',sc',rfl⟩:=hw4.mS.shape
 have hB4 : Below w.heap.size w w4:=below_only hB3 hO4 (by have:=hB1.size; omega) hB3.size
 have HW:=HidS.mk hw4
 have hLe : diagL (genM R C y'.s) (min R C) = LL:=by rw [diagL_genM (by omega) (by omega),hys]; exact HLL.out
 have HLE:=HidS.mk hLe
 obtain ⟨k0,k1,k2,-,-,-,-,-,-,-⟩:=hw4.blk.fifteen
 clear hdr hys hw4 HWK hLe
 go_wp2_with fail
 refine (elements_any _ R C (genM R C y'.s) w4 HW.out.mS.mat (genM_fits _ _ _) hR hC).mono ?_
 rintro e w5 ⟨u5,rfl,hvo,hb5⟩
 rw [HLE.out] at hvo
 have hlen : LL.length≤1000000:=by rw [← HLE.out,diagL_length]; omega
 obtain ⟨eo,ec,rfl,hec1,hec2⟩:=hvo.len
 have hB5:=nx hB4 hb5
 have HV5:=HidS.mk hvo.vec
 clear k0 k1 k2 hvo
 go_wp2
 go_loopw [4,38] (fun u iv wr=>∃k : Nat,k≤LL.length∧iv = .int .i64 k∧VecO wr w5.heap.size u (nzL (LL.take k))∧Below w.heap.size w wr∧Below w5.heap.size w5 wr) (fun _ iv _=>LL.length - (intOf iv).toNat)
 case atStart=>exact ⟨0,by omega,rfl,by rw [List.take_zero]; exact VecO.nil _ _,hB5,Below.refl _ _⟩
 case round=>
  obtain ⟨k,hk,rfl,ho,hb,hb'⟩:=hrel
  by_cases hlt : k < LL.length
  ·obtain ⟨b1,z,s,a,l,c,rfl,hbl1,hz,p1,p2,hzv⟩:=(HV5.out.below hb').cell (k:=k) hlt
   have hd : HidS (nzL (LL.take (k + 1)) = if z ≠ 0 then nzL (LL.take k) ++ [z] else nzL (LL.take k)):=⟨by rw [List.take_add_one,hz]; exact nzL_snoc _ _⟩
   clear hz
   go_upto_region 9 with (fail)
   refine wp_world ?_
   intro W6 hW6
   obtain ⟨hB6,T7,hs6⟩:=world1 hW6
   obtain ⟨d1,d2,d3,d4⟩:=T7.two
   have hzv:=hzv.ext (lx hB6)
   have ho:=ho.below hB6
   have hb:=nx hb hB6
   have hb':=nx hb' hB6
   clear p1 p2 hW6
   go_wp2_with fail
   refine (sign_any _ z W6 hzv.weak).mono ?_
   rintro e w7 ⟨rfl,hb7⟩
   have hzv:=hzv.ext (lx hb7)
   have ho:=ho.below hb7
   have hb:=nx hb hb7
   have hb':=nx hb' hb7
   have T7:=T7.below hb7
   clear d1 d2 d3 d4
   by_cases hz0 : z = 0
   ·rw [cmpI_zero hz0]
    have hq : HidS (nzL (LL.take (k + 1)) = nzL (LL.take k)):=⟨by rw [hd.out,if_neg (by simpa using hz0)]⟩
    clear hz0
    go_wp2
    go_roundw
    case rel=>exact ⟨k + 1,by omega,by simp,by rw [hq.out]; exact ho,hb,hb'⟩
    case measure=>simp [intOf]; omega
   ·have hc:=cmpI_ne hz0
    obtain ⟨k0,hk0⟩ : ∃k0,cmpI z 0 = k0:=⟨_,rfl⟩
    rw [hk0] at hc ⊢
    have hq : HidS (nzL (LL.take (k + 1)) = nzL (LL.take k) ++ [z]):=⟨by rw [hd.out,if_pos hz0]⟩
    clear hk0 hz0
    obtain ⟨d1,d2,d3,d4⟩:=T7.two
    have hsz5b:=hb'.size
    have hnl : (nzL (LL.take k)).length≤k:=Nat.le_trans (List.length_filter_le _ _) (by rw [List.length_take]; omega)
    have hszb:=hb.size
    go_wp2_with (at_builtin; refine appI rfl _ _ rfl w5.heap.size u4 (nzL (LL.take k)) rfl (ho.below ((Below.refl _ _).alloc (Nat.le_refl _) _)) w7.heap.size 1 s a l c z rfl (Blk.new _ _ _) (hzv.ext (lx ((Below.refl _ _).alloc (Nat.le_refl _) _))) (by omega) (by simp; omega) ?_; intro v' w' hown hgr hxg)
    have hsz50:=hB5.size
    have hgr : World.grownBy (w7.alloc (.cells #[.bool s,.slice a l c] tI)) w' (Value.ownBlock u4):=hgr
    have hB9 : Below w.heap.size w w':=(hb.alloc hb.size _).grown hgr (by simp; omega) (fun g hg=>by have:=ho.own g hg; omega)
    have hB9' : Below w5.heap.size w5 w':=(hb'.alloc hb'.size _).grown hgr (by simp; omega) (fun g hg=>ho.own g hg)
    go_roundw
    case rel=>exact ⟨k + 1,by omega,by simp,by rw [hq.out]; exact hown,hB9,hB9'⟩
    case measure=>simp [intOf]; omega
  ·obtain rfl : k = LL.length:=by omega
   rw [List.take_length] at ho
   go_wp2
   go_ret
   exact ⟨_,rfl,ho.mono hB5.size,hb⟩
theorem midentityM (n : Nat) (w : World) (hn : n≤1000000) : Calls Tryz.prog 49 #[.int .i64 n] w fun e w'=>∃v,e = .returned v∧MatV w' v n n (genM n n idf)∧Below w.heap.size w w':=
 (midentity_any n w hn).mono fun _ _ ⟨v,bs,e,h,hb⟩=>⟨v,e,h.mat.1,hb⟩
theorem mequalT (v1 v2 : Value) (R C : Nat) (M1 M2 : List (List Int)) (w : World) (h1 : MatV w v1 R C M1) (h2 : MatV w v2 R C M2) (hF1 : Fits R C M1) (hF2 : Fits R C M2) (hC : C≤1000000) (he : M1 = M2) :
  Calls Tryz.prog 69 #[v1,v2] w fun e w'=>∃v,e = .returned v∧v = .bool true∧Below w.heap.size w w':=
 (mequal_any v1 v2 R C M1 M2 w h1 h2 hF1 hF2 hC).mono fun e w' ⟨h,hb⟩=>⟨_,h,by rw [decide_eq_true he],hb⟩
theorem mmulM (v1 v2 : Value) (R m C : Nat) (M1 M2 : List (List Int)) (w : World) (h1 : MatV w v1 R m M1) (h2 : MatV w v2 m C M2) (hF1 : Fits R m M1) (hF2 : Fits m C M2) (hR : R≤1000000) (hm : m≤1000000) (hC : C≤1000000) (hS : MulSm M1 M2 R m C) :
  Calls Tryz.prog 68 #[v1,v2] w fun e w'=>∃o c k,e = .returned (.tuple #[.agg #[.int .i64 R,.int .i64 C,.slice o c k],.int .i64 0])∧MatV w' (.agg #[.int .i64 R,.int .i64 C,.slice o c k]) R C (genM R C (mulf M1 M2 m))∧Below w.heap.size w w':=by
 refine (mmul_any v1 v2 R m C M1 M2 w h1 h2 hF1 hF2 hR hm hC hS).mono ?_
 rintro e w' ⟨v,bs,rfl,h,hb⟩
 obtain ⟨A,rfl,ao,n,cap,rfl,h3⟩:=h.mat.1
 exact ⟨_,_,_,rfl,h.mat.1,hb⟩
set_option maxHeartbeats 4000000 in
set_option maxRecDepth 20000 in
theorem inverses_true (v1 v2 : Value) (n : Nat) (U V : List (List Int)) (w : World) (h1 : MatV w v1 n n U) (h2 : MatV w v2 n n V) (hF1 : Fits n n U) (hF2 : Fits n n V) (hn : n≤1000000) (hS : MulSm U V n n n) (hp : genM n n (mulf U V n) = genM n n idf) :
  Calls Tryz.prog 67 #[v1,v2,.int .i64 n] w fun e w'=>∃v,e = .returned v∧v = .bool true∧Below w.heap.size w w':=by
 have H1:=HidS.mk h1
 have H2:=HidS.mk h2
 obtain ⟨A1,rfl,h1⟩:=h1
 obtain ⟨A2,rfl,h2⟩:=h2
 obtain ⟨ao,an,ac,rfl,-⟩:=id h1
 obtain ⟨bo,bn,bc,rfl,-⟩:=id h2
 have HF1:=HidS.mk hF1
 have HF2:=HidS.mk hF2
 have HS:=HidS.mk hS
 have HP:=HidS.mk hp
 have hdv1 : decide (ValidM n n U) = true:=decide_eq_true hF1.valid
 have hdv2 : decide (ValidM n n V) = true:=decide_eq_true hF2.valid
 clear hF1 hF2 hS hp h1 h2
 go_enter Tryz.func67,Tryz.ntmps67
 go_upto_region 1 with (fail)
 refine wp_world ?_
 intro W0 hW0
 obtain ⟨hB0,bx1,bx2,hs0⟩:=world2 hW0
 obtain ⟨c1,c2,c3,c4,c5,c6⟩:=bx1.three
 obtain ⟨d1,d2,d3,d4,d5,d6⟩:=bx2.three
 clear hW0
 go_wp2_with fail
 refine (mvalid_any _ n n U W0 (H1.out.below hB0)).mono ?_
 rintro e w1 ⟨rfl,hb1⟩
 rw [hdv1]
 have hB:=nx hB0 hb1
 have bx1:=bx1.below hb1
 have bx2:=bx2.below hb1
 clear c1 c2 c3 c4 c5 c6 d1 d2 d3 d4 d5 d6 hdv1
 obtain ⟨c1,c2,c3,c4,c5,c6⟩:=bx1.three
 obtain ⟨d1,d2,d3,d4,d5,d6⟩:=bx2.three
 go_wp2_with fail
 refine (mvalid_any _ n n V w1 (H2.out.below hB)).mono ?_
 rintro e w2 ⟨rfl,hb2⟩
 rw [hdv2]
 have hB:=nx hB hb2
 have bx1:=bx1.below hb2
 have bx2:=bx2.below hb2
 clear c1 c2 c3 c4 c5 c6 d1 d2 d3 d4 d5 d6 hdv2
 obtain ⟨c1,c2,c3,c4,c5,c6⟩:=bx1.three
 obtain ⟨d1,d2,d3,d4,d5,d6⟩:=bx2.three
 go_wp2_with fail
 refine (mmulM _ _ n n n U V w2 (H1.out.below hB) (H2.out.below hB) HF1.out HF2.out hn hn hn HS.out).mono ?_
 rintro e w3 ⟨o,c,k,rfl,hm,hb3⟩
 have hB:=nx hB hb3
 have HM:=HidS.mk hm
 clear c1 c2 c3 c4 c5 c6 d1 d2 d3 d4 d5 d6 hm
 go_upto_region 4 with (fail)
 refine wp_world ?_
 intro W4 hW4
 obtain ⟨hB4,T7,hs4⟩:=world1 hW4
 have hB:=nx hB hB4
 have HM:=HidS.mk (HM.out.below hB4)
 obtain ⟨c1,c2,c3,c4,c5,c6⟩:=T7.three
 clear hW4
 refine wp_region_each rfl (RV W4 _ [⟨0,41,fun _ v=>v = .int .i64 0⟩,⟨1,42,fun _ v=>v = .bool true⟩,⟨2,43,fun _ v=>v = .bool true⟩,⟨3,44,fun _ v=>v = .agg #[.int .i64 n,.int .i64 n,.slice o c k]⟩,⟨4,45,fun _ v=>v = .int .i64 n⟩,⟨5,46,fun w v=>MatV w v (n) (n) (genM n n idf)⟩,⟨6,47,fun _ v=>v = .bool true⟩,⟨7,48,fun _ v=>v = .bool true⟩,⟨8,6,fun _ v=>v = .bool true⟩]) (by kernel_rfl) RV.start ?fin1 ?steps1
 case steps1=>
  refine ⟨?_,?_,?_,?_,?_,?_,?_,?_,?_,trivial⟩ <;> (intro L T wS hL hd hcl hI K hK; try refine step_wanted rfl ?_)
  ·have zt : T[8]? = some (.int .i64 0):=hI.keep 8 (by simp)
   go_simp
   exact hK _ _ (hI.value _ mm0 rfl rfl)
  ·obtain ⟨_,zt0,rfl⟩:=hI.val _ mm0 (hd 0)
   go_simp
   exact hK _ _ (hI.value _ mm1 rfl rfl)
  ·obtain ⟨_,zt1,rfl⟩:=hI.val _ mm1 (hd 1)
   go_simp
   exact hK _ _ (hI.value _ mm2 rfl rfl)
  ·obtain ⟨_,zg,rfl⟩:=hI.val _ mm2 (hd 2)
   refine step_wanted (by simp [Region.wanted,yielded,zg]) ?_
   have zt : T[7]? = some (.pointer (some ⟨w3.heap.size,0,none⟩)):=hI.keep 7 (by simp)
   have cc0:=hI.cell c1
   have cc1:=hI.cell c2
   have cc2:=hI.cell c3
   go_simp
   exact hK _ _ (hI.value _ mm3 rfl rfl)
  ·obtain ⟨_,zg,rfl⟩:=hI.val _ mm2 (hd 2)
   refine step_wanted (by simp [Region.wanted,yielded,zg]) ?_
   have zt : T[2]? = some (.int .i64 n):=hI.keep 2 (by simp)
   go_simp
   exact hK _ _ (hI.value _ mm4 rfl rfl)
  ·obtain ⟨_,zg,rfl⟩:=hI.val _ mm2 (hd 2)
   refine step_wanted (by simp [Region.wanted,yielded,zg]) ?_
   obtain ⟨_,zt4,rfl⟩:=hI.val _ mm4 (hd 4)
   go_simp
   refine (midentityM n _ hn).mono ?_
   rintro e wa ⟨v,rfl,hv,hba⟩
   exact hK _ _ ((hI.world hba).value _ mm5 rfl hv)
  ·obtain ⟨_,zg,rfl⟩:=hI.val _ mm2 (hd 2)
   refine step_wanted (by simp [Region.wanted,yielded,zg]) ?_
   obtain ⟨_,zt3,rfl⟩:=hI.val _ mm3 (hd 3)
   obtain ⟨v5,zt5,h5⟩:=hI.val _ mm5 (hd 5)
   go_simp
   refine (mequalT _ _ n n _ _ _ (HM.out.below hI.bel) h5 (genM_fits _ _ _) (genM_fits _ _ _) hn HP.out).mono ?_
   rintro e wa ⟨v,rfl,hv,hba⟩
   exact hK _ _ ((hI.world hba).value _ mm6 rfl hv)
  ·obtain ⟨_,zt2,rfl⟩:=hI.val _ mm2 (hd 2)
   obtain ⟨_,zt6,rfl⟩:=hI.val _ mm6 (hd 6)
   go_simp
   exact hK _ _ (hI.value _ mm7 rfl rfl)
  ·obtain ⟨_,zt7,rfl⟩:=hI.val _ mm7 (hd 7)
   go_simp
   exact hK _ _ (hI.value _ mm8 rfl rfl)
 intro T w5 hI
 obtain ⟨va0,q0,rfl⟩:=hI.val _ mm0 rfl
 obtain ⟨va1,q1,rfl⟩:=hI.val _ mm1 rfl
 obtain ⟨va2,q2,rfl⟩:=hI.val _ mm2 rfl
 obtain ⟨va3,q3,rfl⟩:=hI.val _ mm3 rfl
 obtain ⟨va4,q4,rfl⟩:=hI.val _ mm4 rfl
 obtain ⟨va5,q5,ha5⟩:=hI.val _ mm5 rfl
 replace ha5 : MatV w5 va5 (n) (n) (genM n n idf):=ha5
 obtain ⟨va6,q6,rfl⟩:=hI.val _ mm6 rfl
 obtain ⟨va7,q7,rfl⟩:=hI.val _ mm7 rfl
 obtain ⟨va8,q8,rfl⟩:=hI.val _ mm8 rfl
 have hT:=tmps_set [(41,.int .i64 0),(42,.bool true),(43,.bool true),(44,.agg #[.int .i64 n,.int .i64 n,.slice o c k]),(45,.int .i64 n),(46,va5),(47,.bool true),(48,.bool true),(6,.bool true)]
  (fun j hj=>hI.keep j (by simp only [List.forall_mem_cons] at hj ⊢; simp [hj]))
  (by simp only [List.forall_mem_cons]; simp [q0,q1,q2,q3,q4,q5,q6,q7,q8]) hI.size
 have hbw5:=hI.bel
 clear hI
 simp only [List.foldl_cons,List.foldl_nil,List.setIfInBounds_toArray,List.set_cons_zero,List.set_cons_succ,ptr] at hT
 subst hT
 clear q0 q1 q2 q3 q4 q5 q6 q7 q8
 have hB:=nx hB hbw5
 clear c1 c2 c3 c4 c5 c6
 go_wp2
 go_ret
 exact ⟨_,rfl,rfl,hB⟩
set_option maxHeartbeats 8000000 in
set_option maxRecDepth 20000 in
theorem scheck_true (av fv : Value) (R C : Nat) (A S U V W X : List (List Int)) (w : World) (ha : MatV w av R C A) (hf : SmithV w fv R C S U V W X) (hA : Fits R C A) (hSf : Fits R C S) (hU : Fits R R U) (hV : Fits R R V) (hW : Fits C C W) (hX : Fits C C X) (hR : R≤1000000) (hC : C≤1000000)
  (hIs : IsM2 R C S = true) (hI1 : genM R R (mulf U V R) = genM R R idf) (hI2 : genM C C (mulf W X C) = genM C C idf) (hSS : ∀r ∈ S,∀z ∈ r,Smd z) (hm1 : MulSm U V R R R) (hm2 : MulSm W X C C C)
  (hm3 : MulSm U A R R C) (hm4 : MulSm (genM R C (mulf U A R)) W R C C) (hP : genM R C (mulf (genM R C (mulf U A R)) W C) = S) :
  Calls Tryz.prog 21 #[av,fv] w fun e w'=>e = .returned (.bool true)∧Below w.heap.size w w':=by
 obtain ⟨s0,u0,v0,x0,y0,rfl,hs0,hu0,hv0,hx0,hy0⟩:=hf.ex
 obtain ⟨so,sn,sc,rfl,-⟩:=id hs0
 obtain ⟨uo,un,uc,rfl,-⟩:=id hu0
 obtain ⟨vo,vn,vc,rfl,-⟩:=id hv0
 obtain ⟨xo,xn,xc,rfl,-⟩:=id hx0
 obtain ⟨yo,yn,yc,rfl,-⟩:=id hy0
 obtain ⟨A1,rfl,hA1⟩:=id ha
 obtain ⟨ao,an,ac,rfl,-⟩:=id hA1
 have hs : MatV w (.agg #[.int .i64 R,.int .i64 C,.slice so sn sc]) R C S:=⟨_,rfl,hs0⟩
 have hu : MatV w (.agg #[.int .i64 R,.int .i64 R,.slice uo un uc]) R R U:=⟨_,rfl,hu0⟩
 have hv : MatV w (.agg #[.int .i64 R,.int .i64 R,.slice vo vn vc]) R R V:=⟨_,rfl,hv0⟩
 have hx : MatV w (.agg #[.int .i64 C,.int .i64 C,.slice xo xn xc]) C C W:=⟨_,rfl,hx0⟩
 have hy : MatV w (.agg #[.int .i64 C,.int .i64 C,.slice yo yn yc]) C C X:=⟨_,rfl,hy0⟩
 have HA:=HidS.mk ha
 have HS:=HidS.mk hs
 have HU:=HidS.mk hu
 have HV:=HidS.mk hv
 have HX:=HidS.mk hx
 have HY:=HidS.mk hy
 have K:=HidS.mk (And.intro hA (And.intro hSf (And.intro hU (And.intro hV (And.intro hW hX)))))
 have KI:=HidS.mk (And.intro hI1 (And.intro hI2 hP))
 have KM:=HidS.mk (And.intro hm1 (And.intro hm2 (And.intro hm3 hm4)))
 have KS:=HidS.mk hSS
 have hdv : decide (ValidM R C A) = true:=decide_eq_true hA.valid
 clear ha hf hs hu hv hx hy hs0 hu0 hv0 hx0 hy0 hA1 hA hSf hU hV hW hX hI1 hI2 hP hm1 hm2 hm3 hm4 hSS
 go_enter Tryz.func21,Tryz.ntmps21
 go_upto_region 1 with (fail)
 refine wp_world ?_
 intro W0 hW0
 obtain ⟨hB,bx,bf,hs0⟩:=world2 hW0
 obtain ⟨c1,c2,c3,c4,c5,c6⟩:=bx.three
 obtain ⟨⟨q0,q1,q2,q3,q4,q5,q6,q7,q8,q9,q10,q11,q12,q13,q14⟩,-⟩:=bf.all15
 clear hW0
 go_wp2_with fail
 refine (mvalid_any _ R C A W0 (HA.out.below hB)).mono ?_
 rintro e w1 ⟨rfl,hb1⟩
 rw [hdv]
 have hB:=nx hB hb1
 have bx:=bx.below hb1
 have bf:=bf.below hb1
 clear c1 c2 c3 c4 c5 c6 q0 q1 q2 q3 q4 q5 q6 q7 q8 q9 q10 q11 q12 q13 q14 hdv
 obtain ⟨c1,c2,c3,c4,c5,c6⟩:=bx.three
 obtain ⟨⟨q0,q1,q2,q3,q4,q5,q6,q7,q8,q9,q10,q11,q12,q13,q14⟩,-⟩:=bf.all15
 go_wp2_with fail
 refine (sis_any _ R C S w1 (HS.out.below hB) KS.out (by omega) (by omega)).mono ?_
 rintro e w2 ⟨rfl,hb2⟩
 rw [hIs]
 have hB:=nx hB hb2
 have bx:=bx.below hb2
 have bf:=bf.below hb2
 clear c1 c2 c3 c4 c5 c6 q0 q1 q2 q3 q4 q5 q6 q7 q8 q9 q10 q11 q12 q13 q14 hIs
 obtain ⟨c1,c2,c3,c4,c5,c6⟩:=bx.three
 obtain ⟨⟨q0,q1,q2,q3,q4,q5,q6,q7,q8,q9,q10,q11,q12,q13,q14⟩,-⟩:=bf.all15
 go_wp2_with fail
 refine (inverses_true _ _ R U V w2 (HU.out.below hB) (HV.out.below hB) K.out.2.2.1 K.out.2.2.2.1 hR KM.out.1 KI.out.1).mono ?_
 rintro e w3 ⟨_,rfl,rfl,hb3⟩
 have hB:=nx hB hb3
 have bx:=bx.below hb3
 have bf:=bf.below hb3
 clear c1 c2 c3 c4 c5 c6 q0 q1 q2 q3 q4 q5 q6 q7 q8 q9 q10 q11 q12 q13 q14
 obtain ⟨c1,c2,c3,c4,c5,c6⟩:=bx.three
 obtain ⟨⟨q0,q1,q2,q3,q4,q5,q6,q7,q8,q9,q10,q11,q12,q13,q14⟩,-⟩:=bf.all15
 go_wp2_with fail
 refine (inverses_true _ _ C W X w3 (HX.out.below hB) (HY.out.below hB) K.out.2.2.2.2.1 K.out.2.2.2.2.2 hC KM.out.2.1 KI.out.2.1).mono ?_
 rintro e w4 ⟨_,rfl,rfl,hb4⟩
 have hB:=nx hB hb4
 have bx:=bx.below hb4
 have bf:=bf.below hb4
 clear c1 c2 c3 c4 c5 c6 q0 q1 q2 q3 q4 q5 q6 q7 q8 q9 q10 q11 q12 q13 q14
 obtain ⟨c1,c2,c3,c4,c5,c6⟩:=bx.three
 obtain ⟨⟨q0,q1,q2,q3,q4,q5,q6,q7,q8,q9,q10,q11,q12,q13,q14⟩,-⟩:=bf.all15
 go_wp2_with fail
 refine (mmulM _ _ R R C U A w4 (HU.out.below hB) (HA.out.below hB) K.out.2.2.1 K.out.1 hR hR hC KM.out.2.2.1).mono ?_
 rintro e w5 ⟨o,c,k,rfl,hm,hb5⟩
 have hB:=nx hB hb5
 have bx:=bx.below hb5
 have bf:=bf.below hb5
 have HM:=HidS.mk hm
 clear c1 c2 c3 c4 c5 c6 q0 q1 q2 q3 q4 q5 q6 q7 q8 q9 q10 q11 q12 q13 q14 hm
 obtain ⟨⟨q0,q1,q2,q3,q4,q5,q6,q7,q8,q9,q10,q11,q12,q13,q14⟩,-⟩:=bf.all15
 go_upto_region 6 with (fail)
 refine wp_world ?_
 intro W6 hW6
 obtain ⟨hB6,T7,hs6⟩:=world1 hW6
 have hB:=nx hB hB6
 have HM:=HidS.mk (HM.out.below hB6)
 have bf:=bf.below hB6
 clear hW6 q0 q1 q2 q3 q4 q5 q6 q7 q8 q9 q10 q11 q12 q13 q14
 obtain ⟨c1,c2,c3,c4,c5,c6⟩:=T7.three
 obtain ⟨⟨q0,q1,q2,q3,q4,q5,q6,q7,q8,q9,q10,q11,q12,q13,q14⟩,-⟩:=bf.all15
 go_wp2_with fail
 refine (mmulM _ _ R C C (genM R C (mulf U A R)) W W6 HM.out (HX.out.below hB) (genM_fits _ _ _) K.out.2.2.2.2.1 hR hC hC KM.out.2.2.2).mono ?_
 rintro e w7 ⟨o2,k2,l2,rfl,hm2,hb7⟩
 have hB:=nx hB hb7
 have bf:=bf.below hb7
 have HM2:=HidS.mk hm2
 clear c1 c2 c3 c4 c5 c6 q0 q1 q2 q3 q4 q5 q6 q7 q8 q9 q10 q11 q12 q13 q14 hm2
 go_upto_region 7 with (fail)
 refine wp_world ?_
 intro W8 hW8
 obtain ⟨hB8,T9,hs8⟩:=world1 hW8
 have hB:=nx hB hB8
 have HM2:=HidS.mk (HM2.out.below hB8)
 have bf:=bf.below hB8
 clear hW8
 obtain ⟨c1,c2,c3,c4,c5,c6⟩:=T9.three
 obtain ⟨⟨q0,q1,q2,q3,q4,q5,q6,q7,q8,q9,q10,q11,q12,q13,q14⟩,-⟩:=bf.all15
 go_wp2_with fail
 refine (mequalT _ _ R C _ S W8 HM2.out (HS.out.below hB) (genM_fits _ _ _) K.out.2.1 hC KI.out.2.2).mono ?_
 rintro e w9 ⟨_,rfl,rfl,hb9⟩
 have hB:=nx hB hb9
 clear c1 c2 c3 c4 c5 c6 q0 q1 q2 q3 q4 q5 q6 q7 q8 q9 q10 q11 q12 q13 q14
 go_wp2
 go_ret
 exact ⟨rfl,hB⟩
set_option maxHeartbeats 4000000 in
set_option maxRecDepth 20000 in
theorem scheck_zero (av : Value) (R C : Nat) (A : List (List Int)) (w : World) (ha : MatV w av R C A) (hA : Fits R C A) (hR : 0 < R) :
  Calls Tryz.prog 21 #[av,.agg #[.int .i64 0,.int .i64 0,.slice none 0 0,.int .i64 0,.int .i64 0,.slice none 0 0,.int .i64 0,.int .i64 0,.slice none 0 0,.int .i64 0,.int .i64 0,.slice none 0 0,.int .i64 0,.int .i64 0,.slice none 0 0]] w fun e w'=>e = .returned (.bool false)∧Below w.heap.size w w':=by
 obtain ⟨A1,rfl,hA1⟩:=id ha
 obtain ⟨ao,an,ac,rfl,-⟩:=id hA1
 have HA:=HidS.mk ha
 have hdv : decide (ValidM R C A) = true:=decide_eq_true hA.valid
 have hz : IsM2 0 0 [] = true:=by decide
 have hRn : ¬ (0 : Int) = R:=by omega
 clear ha hA1 hA
 go_enter Tryz.func21,Tryz.ntmps21
 go_upto_region 1 with (fail)
 refine wp_world ?_
 intro W0 hW0
 obtain ⟨hB,bx,bf,hs0⟩:=world2 hW0
 obtain ⟨c1,c2,c3,c4,c5,c6⟩:=bx.three
 obtain ⟨⟨q0,q1,q2,q3,q4,q5,q6,q7,q8,q9,q10,q11,q12,q13,q14⟩,-⟩:=bf.all15
 clear hW0
 go_wp2_with fail
 refine (mvalid_any _ R C A W0 (HA.out.below hB)).mono ?_
 rintro e w1 ⟨rfl,hb1⟩
 rw [hdv]
 have hB:=nx hB hb1
 have bx:=bx.below hb1
 have bf:=bf.below hb1
 clear c1 c2 c3 c4 c5 c6 q0 q1 q2 q3 q4 q5 q6 q7 q8 q9 q10 q11 q12 q13 q14 hdv
 obtain ⟨c1,c2,c3,c4,c5,c6⟩:=bx.three
 obtain ⟨⟨q0,q1,q2,q3,q4,q5,q6,q7,q8,q9,q10,q11,q12,q13,q14⟩,-⟩:=bf.all15
 go_wp2_with fail
 refine (sis_any _ 0 0 [] w1 ⟨_,rfl,RowsV.nil _⟩ (fun r hr=>by cases hr) (by omega) (by omega)).mono ?_
 rintro e w2 ⟨rfl,hb2⟩
 rw [hz]
 have hB:=nx hB hb2
 have bx:=bx.below hb2
 have bf:=bf.below hb2
 clear c1 c2 c3 c4 c5 c6 q0 q1 q2 q3 q4 q5 q6 q7 q8 q9 q10 q11 q12 q13 q14 hz
 obtain ⟨c1,c2,c3,c4,c5,c6⟩:=bx.three
 obtain ⟨⟨q0,q1,q2,q3,q4,q5,q6,q7,q8,q9,q10,q11,q12,q13,q14⟩,-⟩:=bf.all15
 go_wp2
 go_ret
 exact ⟨rfl,hB⟩
def I64V (w : World) (v : Value) (ls : List Int) : Prop:=
 ∃ao n cap,v = .slice ao n cap∧ls.length = n∧n≤cap∧cap≤9223372036854775807∧(∀z ∈ ls,-9223372036854775808≤z∧z≤9223372036854775807) ∧
  (ls ≠ []→∃(b : Nat) (cs : Array Value),ao = some ⟨b,0,none⟩∧w.heap[b]? = some (.cells cs 2 (0,0))∧∀(k : Nat) (z : Int),ls[k]? = some z→cs[k]? = some (.int .i64 z))
theorem I64V.below {w w' : World} {v : Value} {ls : List Int} (h : I64V w v ls) (hb : Below w.heap.size w w') : I64V w' v ls:=by
 obtain ⟨ao,n,cap,h1,h2,h3,h4,h5,h6⟩:=h
 refine ⟨ao,n,cap,h1,h2,h3,h4,h5,fun hn=>?_⟩
 obtain ⟨b,cs,e1,e2,e3⟩:=h6 hn
 exact ⟨b,cs,e1,(hb.block _ (Array.getElem?_eq_some_iff.1 e2).1).trans e2,e3⟩
theorem I64V.cell {w : World} {ao : Option Addr} {n cap : Nat} {ls : List Int} (h : I64V w (.slice ao n cap) ls) {k : Nat} (hk : k < ls.length) :
  ∃b z,ao = some ⟨b,0,none⟩∧b < w.heap.size∧ls[k]? = some z∧w.cell? ⟨b,k,none⟩ = some (.int .i64 z)∧-9223372036854775808≤z∧z≤9223372036854775807:=by
 obtain ⟨ao',n',cap',h1,h2,h3,h4,h5,h6⟩:=h
 injection h1 with e1 e2 e3
 subst e1
 obtain ⟨b,cs,e,hr,hc⟩:=h6 (by rintro rfl; simp at hk)
 have hz:=List.getElem?_eq_getElem hk
 have:=h5 _ (List.mem_of_getElem? hz)
 exact ⟨b,_,e,(Array.getElem?_eq_some_iff.1 hr).1,hz,(cell_of_row w b k cs _ _ hr).trans (hc k _ hz),this.1,this.2⟩
set_option maxHeartbeats 2000000 in
set_option maxRecDepth 20000 in
theorem list_any (v : Value) (ls : List Int) (w : World) (h : I64V w v ls) (hn : ls.length≤1000000) :
  Calls Tryz.prog 43 #[v] w fun e w'=>∃u,e = .returned u∧VecO w' w.heap.size u ls∧Below w.heap.size w w':=by
 obtain ⟨ao,n,cap,rfl,h2,h3,h4,-,-⟩:=id h
 have HL:=Lib.hid h2
 have hn1 : n≤1000000:=by omega
 clear h2 hn
 go_enter Tryz.func43,Tryz.ntmps43
 go_upto_block 0 with (fail)
 refine wp_world ?_
 intro W0 hW0
 obtain ⟨hB0,bA,hs0⟩:=world1 hW0
 have ho0 : VecO W0 w.heap.size (.slice (some ⟨w.heap.size,0,none⟩) 0 0) []:=⟨[],⟨rfl,.inr ⟨w.heap.size,0,#[],rfl,Nat.le_refl _,bA,Nat.le_refl _,by simp [maxLen],rfl,rfl⟩⟩,fun k z h=>by simp at h⟩
 go_wp2
 go_loopw [3,4] (fun u iv wr=>∃k : Nat,k≤n∧iv = .int .i64 k∧VecO wr w.heap.size u (ls.take k)∧Below w.heap.size w wr) (fun _ iv _=>n - (intOf iv).toNat)
 case atStart=>exact ⟨0,by omega,rfl,by rw [List.take_zero]; exact ho0,hB0⟩
 case round=>
  obtain ⟨k,hk,rfl,ho,hb⟩:=hrel
  by_cases hlt : k < n
  ·obtain ⟨b,z,rfl,hbl,hz,c1,z1,z2⟩:=(h.below hb).cell (k:=k) (by rw [HL.out]; exact hlt)
   have hd : Hid (ls.take (k + 1) = ls.take k ++ [z]):=by rw [List.take_add_one,hz]; exact Lib.hid rfl
   clear hz
   go_wp2_with fail
   refine (r1of_any z wr z1 z2).mono ?_
   rintro e w5 ⟨x,rfl,hx,hb5⟩
   obtain ⟨s,a,l,c,xs,rfl,hxx⟩:=id hx
   have HXX:=Lib.hid hxx
   clear hxx
   have ho5:=ho.below hb5
   have hb9:=nx hb hb5
   have hlk : (ls.take k).length = k:=by rw [List.length_take,HL.out]; omega
   go_wp2_with (at_builtin; refine appI rfl _ _ rfl w.heap.size u3 (ls.take k) rfl (ho5.below ((Below.refl _ _).alloc (Nat.le_refl _) _)) w5.heap.size 1 s a l c z rfl (Blk.new _ _ _) (hx.ext (lx ((Below.refl _ _).alloc (Nat.le_refl _) _))) (by rw [hlk]; omega) (by have:=hb9.size; simp; omega) ?_; intro v' w' hown hgr hxg)
   have hgr : World.grownBy (w5.alloc (.cells #[.bool s,.slice a l c] tI)) w' (Value.ownBlock u3):=hgr
   have hB9 : Below w.heap.size w w':=(hb9.alloc hb9.size _).grown hgr (by have:=hb9.size; simp; omega) (fun g hg=>ho.own g hg)
   go_roundw
   case rel=>exact ⟨k + 1,by omega,by simp,by rw [hd.out]; exact hown,hB9⟩
   case measure=>simp [intOf]; omega
  ·obtain rfl : k = n:=by omega
   rw [← HL.out,List.take_length] at ho
   go_wp2
   go_ret
   exact ⟨_,rfl,ho,hb⟩
end Go.Proofs.YtnocgagoaldfnaaGreat
