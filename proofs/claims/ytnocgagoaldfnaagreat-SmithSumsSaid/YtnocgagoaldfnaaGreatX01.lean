/- torsionlaw13.SmithSums: the plain law. torsionlaw13.SmithSums: the walk. -/
import Derived.Test.YtnocgagoaldfnaaGreatD37
import Derived.Test.YtnocgagoaldfnaaGreatD48
set_option linter.unusedVariables false
set_option linter.unusedSimpArgs false
set_option linter.unusedSectionVars false
namespace Go.Proofs.YtnocgagoaldfnaaGreat
open Go.RowKit
theorem det_one (F : Nat->Nat->Int) : det 1 F = F 0 0:=by
 simp [det,sumN,sg1]
theorem det_two (F : Nat->Nat->Int) : det 2 F = F 0 0 * F 1 1 - F 0 1 * F 1 0:=by
 have e : det 2 F = sg1 0 * (F 0 0 * det 1 (mnr F 0 0)) + sg1 1 * (F 0 1 * det 1 (mnr F 0 1)):=by
  rw [det_succ]
  show 0 + _ + _ = _
  rw [Int.zero_add]
 rw [e,det_one,det_one]
 have h1 : mnr F 0 0 0 0 = F 1 1:=rfl
 have h2 : mnr F 0 1 0 0 = F 1 0:=rfl
 rw [h1,h2]
 show 1 * _ + (-1) * _ = _
 omega
def cor (R C : Nat) (x y : Int) : Nat->Nat->Int:=fun a b=>if a = R - 1/\b = 0 then x else if a = 0/\b = C - 1 then y else 0
theorem cor_zero {R C a b : Nat} {x y : Int} (h1 : ¬ (a = R - 1/\b = 0)) (h2 : ¬ (a = 0/\b = C - 1)) : cor R C x y a b = 0:=by
 unfold cor; rw [if_neg h1,if_neg h2]
theorem cor_prod {R C : Nat} {x y : Int} (hR : 2<=R) (hC : 2<=C) {a b c d : Nat} (h : a < b) : x * y ∣ cor R C x y a c * cor R C x y b d:=by
 by_cases h1 : b = R - 1/\d = 0
 ·by_cases h2 : a = 0/\c = C - 1
  ·have e1 : cor R C x y a c = y:=by unfold cor; rw [if_neg oM,if_pos h2]
   have e2 : cor R C x y b d = x:=by unfold cor; rw [if_pos h1]
   rw [e1,e2,Int.mul_comm]
   exact Int.dvd_refl _
  ·rw [cor_zero (a:=a) oM h2,Int.zero_mul]
   exact Int.dvd_zero _
 ·rw [cor_zero (a:=b) h1 oM,Int.mul_zero]
  exact Int.dvd_zero _
theorem sums_list {R C r : Nat} {x y : Int} {A F : Nat->Nat->Int} (hR : 2<=R) (hC : 2<=C) (hx : x ≠ 0) (hy : y ≠ 0) (hA : ∀a,a < R->∀b,b < C->A a b = cor R C x y a b) (h : Inv R C r A F) :
  genV r (fun i=>F i i) = [((Int.gcd x y : Nat) : Int),((x * y).natAbs : Int) / ((Int.gcd x y : Nat) : Int)]:=by
 have hmin : 2<=min R C:=by omega
 have hxy : x * y ≠ 0:=Int.mul_ne_zero hx hy
 have ex : cor R C x y (R - 1) 0 = x:=by unfold cor; rw [if_pos ⟨rfl,rfl⟩]
 have ey : cor R C x y 0 (C - 1) = y:=by unfold cor; rw [if_neg oM,if_pos ⟨rfl,rfl⟩]
 have m1:=h.minors (k:=1) oM
 have p1 : prodN 1 (fun i=>F i i) = F 0 0:=by show 1 * F 0 0 = _; rw [Int.one_mul]
 rw [p1] at m1
 have d1 : F 0 0 ∣ x:=by
  have:=m1 (fun _=>R - 1) (fun _=>0) (fun _ _=>by omega) (fun _ _=>by omega)
  rw [det_one,hA _ oM _ oM,ex] at this
  exact this
 have d2 : F 0 0 ∣ y:=by
  have:=m1 (fun _=>0) (fun _=>C - 1) (fun _ _=>by omega) (fun _ _=>by omega)
  rw [det_one,hA _ oM _ oM,ey] at this
  exact this
 have d3 : ((Int.gcd x y : Nat) : Int) ∣ F 0 0:=by
  rw [<-p1]
  refine h.gen oM fun σ τ hσ hτ=>?_
  rw [det_one,hA _ (hσ 0 oM) _ (hτ 0 oM)]
  unfold cor
  split
  ·exact Int.gcd_dvd_left ..
  ·split
   ·exact Int.gcd_dvd_right ..
   ·exact Int.dvd_zero _
 have h0 : 0<=F 0 0:=h.dg.nonneg oM
 have e0 : F 0 0 = ((Int.gcd x y : Nat) : Int):=Int.dvd_antisymm h0 oM (Int.dvd_coe_gcd d1 d2) d3
 have p2 : prodN 2 (fun i=>F i i) = F 0 0 * F 1 1:=by show 1 * F 0 0 * F 1 1 = _; rw [Int.one_mul]
 have d4 : F 0 0 * F 1 1 ∣ x * y:=by
  have:=h.minors (k:=2) oM (fun a=>if a = 0 then 0 else R - 1) (fun b=>if b = 0 then 0 else C - 1) (fun a ha=>by split <;> omega) (fun a ha=>by split <;> omega)
  rw [p2,det_two] at this
  simp only [if_true] at this
  rw [if_neg oM,if_neg oM,hA 0 oM 0 oM,hA (R - 1) oM 0 oM,hA 0 oM (C - 1) oM,ex,ey,cor_zero oM oM,Int.zero_mul,Int.zero_sub] at this
  rw [Int.mul_comm x y]
  exact Int.dvd_neg.1 this
 have d5 : x * y ∣ F 0 0 * F 1 1:=by
  rw [<-p2]
  refine h.gen oM (dvd_both_inc fun σ τ hσ hτ hi hj=>?_)
  have hs:=hi 0 oM
  rw [det_two,hA _ (hσ 0 oM) _ (hτ 0 oM),hA _ (hσ 1 oM) _ (hτ 1 oM),hA _ (hσ 0 oM) _ (hτ 1 oM),hA _ (hσ 1 oM) _ (hτ 0 oM)]
  exact Int.dvd_sub (cor_prod hR hC hs) (cor_prod hR hC hs)
 have h1 : 0<=F 1 1:=h.dg.nonneg oM
 have e1 : F 0 0 * F 1 1 = ((x * y).natAbs : Int):=by
  refine Int.dvd_antisymm (Int.mul_nonneg h0 h1) oM ?_ ?_
  ·exact Int.dvd_natAbs.2 d4
  ·exact Int.natAbs_dvd.2 d5
 have hp : F 0 0 * F 1 1 ≠ 0:=by rw [e1]; omega
 have hF0 : F 0 0 ≠ 0:=fun e=>hp (by rw [e,Int.zero_mul])
 have hF1 : F 1 1 ≠ 0:=fun e=>hp (by rw [e,Int.mul_zero])
 have hr2 : 2<=r:=by
  refine Nat.le_of_not_lt fun hlt=>hF1 ?_
  exact h.dg.zero 1 oM oM
 have hr3 : r<=2:=by
  refine Nat.le_of_not_lt fun hlt=>?_
  have hm : 3<=min R C:=by have:=h.dg.le; omega
  have hz : MinD R C 3 A 0:=dvd_both_inc fun σ τ hσ hτ hi hj=>by
   have hs0 : σ 0 < σ 1:=hi 0 oM
   have hs1 : σ 1 < σ 2:=hi 1 oM
   have g2:=hσ 2 oM
   rw [det_row_zero (c:=1) oM fun b hb=>by rw [hA _ (hσ 1 oM) _ (hτ b hb)]; exact cor_zero oM oM]
   exact Int.dvd_refl 0
  have:=Int.zero_dvd.1 (h.gen hm hz)
  have h3 : 0 < prodN 3 (fun i=>F i i):=prodN_pos fun i hi=>h.dg.pos i oM
  omega
 obtain rfl : r = 2:=by omega
 have e2 : genV 2 (fun i=>F i i) = [F 0 0,F 1 1]:=rfl
 rw [e2,<-e0,<-e1,Int.mul_ediv_cancel_left _ hF0]
section
variable {P : Program} {ops : Array Oper} {W : World} {n0 : Nat} {T0 : Array Value} {tB : TypeId} {vs : List VS} {bs : List BS} {es : List ES} {L : Array Bool} {T : Array Value} {w : World} {k1 k2 : Nat} {p1 : World->World} {p2 : Array Value->World->World}
theorem RIS.either {k : Nat} (h : RIS W n0 T0 tB vs bs es k1 k2 p1 p2 L T w) (hcl : ClosedL ops L) (hr2 : reach ops 9 k2 k = true) (hL : L[k]? = some false) : ∃w0,(w = w0 ∨ w = p1 w0)/\RI W n0 T0 tB vs bs es L T w0:=by
 obtain ⟨w0,hri,h1,h2,h3⟩:=h.ex
 have hn2 : L[k2]? ≠ some true:=fun hh=>by
  have:=reach_spec hcl hr2 hh
  rw [hL] at this
  cases this
 by_cases hk : L[k1]? = some true
 ·exact ⟨w0,.inr (h2 hk hn2),hri⟩
 ·exact ⟨w0,.inl (h1 hk),hri⟩
end
theorem r13sameB (v1 v2 : Value) (xs : List Int) (w : World) (h1 : VecV w v1 xs) (h2 : VecV w v2 xs) : Calls Tryz.prog 17 #[v1,v2] w fun e w'=>∃v,e = .returned v/\v = .bool true/\Below w.heap.size w w':=
 (r13sameT v1 v2 xs w h1 h2).mono fun e w' h=>⟨_,h.1,rfl,h.2⟩
theorem VecV.two (w : World) {s1 s2 : Bool} {a1 a2 : Option Addr} {l1 l2 c1 c2 : Nat} {z1 z2 : Int} (h1 : IntV w (.agg #[.bool s1,.slice a1 l1 c1]) z1) (h2 : IntV w (.agg #[.bool s2,.slice a2 l2 c2]) z2) :
  VecV (w.alloc (.cells #[.bool s1,.slice a1 l1 c1,.bool s2,.slice a2 l2 c2] 45)) (.slice (some ⟨w.heap.size,0,none⟩) 2 2) [z1,z2]:=by
 have hb : Below w.heap.size w (w.alloc (.cells #[.bool s1,.slice a1 l1 c1,.bool s2,.slice a2 l2 c2] 45)):=(Below.refl _ _).alloc (Nat.le_refl _) _
 refine ⟨_,2,2,rfl,rfl,Nat.le_refl _,by omega,fun _=>⟨_,rfl,?_⟩⟩
 refine ⟨_,Blk.new _ _ _,fun k z hk=>?_⟩
 match k,hk with
 | 0,hk=>
  simp at hk
  subst hk
  exact ⟨_,_,_,_,rfl,rfl,h1.ext (lx hb)⟩
 | 1,hk=>
  simp at hk
  subst hk
  exact ⟨_,_,_,_,rfl,rfl,h2.ext (lx hb)⟩
set_option maxHeartbeats 8000000 in
set_option maxRecDepth 20000 in
theorem smithSums_any (x y p q : Int) (w : World) (hx : -32768<=x/\x<=32767) (hy : -32768<=y/\y<=32767) (hp : 0<=p/\p<=255) (hq : 0<=q/\q<=255) :
  Calls Tryz.prog 10 #[.int .i16 x,.int .i16 y,.agg #[.int .u8 p,.int .u8 q]] w fun e w'=>e = .returned (.bool true)/\Below w.heap.size w w':=by
 obtain ⟨pn,rfl⟩:=Int.eq_ofNat_of_zero_le hp.1
 obtain ⟨qn,rfl⟩:=Int.eq_ofNat_of_zero_le hq.1
 have hp' : pn<=255:=by omega
 have hq' : qn<=255:=by omega
 obtain ⟨hx1,hx2⟩:=hx
 obtain ⟨hy1,hy2⟩:=hy
 clear hp hq
 go_enter Tryz.func10,Tryz.ntmps10
 go_upto_region 1 with (fail)
 refine wp_world ?_
 intro W0 hW0
 obtain ⟨hB0,bw,hs0⟩:=world1 hW0
 clear hW0
 go_wp2_with fail
 refine (sanity_any W0).mono ?_
 rintro e w1 ⟨rfl,hb1⟩
 have hB:=nx hB0 hb1
 have bw:=bw.below hb1
 by_cases hx0 : x = 0
 ·subst hx0
  go_wp2
  go_ret
  exact ⟨rfl,hB⟩
 by_cases hy0 : y = 0
 ·subst hy0
  go_wp2
  go_ret
  exact ⟨rfl,hB⟩
 have hxb : (x == 0) = false:=by simp [hx0]
 have hyb : (y == 0) = false:=by simp [hy0]
 obtain ⟨c1,c2,c3,c4⟩:=bw.two
 obtain ⟨R0,hR0⟩ : ∃R0 : Nat,R0 = pn % 3:=⟨_,rfl⟩
 obtain ⟨C0,hC0⟩ : ∃C0 : Nat,C0 = qn % 3:=⟨_,rfl⟩
 have e1 : (pn : Int) % 3 = (R0 : Int):=by omega
 have e2 : (qn : Int) % 3 = (C0 : Int):=by omega
 have hR2 : R0<=2:=by omega
 have hC2 : C0<=2:=by omega
 clear hR0 hC0
 go_wp2_with fail
 obtain ⟨R,hR⟩ : ∃R : Nat,R = 2 + R0:=⟨_,rfl⟩
 obtain ⟨C,hC⟩ : ∃C : Nat,C = 2 + C0:=⟨_,rfl⟩
 rw [show (2 : Int) + (R0 : Int) = ((R : Nat) : Int) by omega,show (2 : Int) + (C0 : Int) = ((C : Nat) : Int) by omega]
 have hR4 : 2<=R/\R<=4:=by omega
 have hC4 : 2<=C/\C<=4:=by omega
 obtain ⟨hRl,hRh⟩:=hR4
 obtain ⟨hCl,hCh⟩:=hC4
 clear hR hC e1 e2 hR2 hC2
 refine (r5new_any R C w1 oM oM).mono ?_
 rintro e w2 ⟨u,bs,rfl,⟨hbl,A2,rfl,ho⟩,hb2⟩
 obtain ⟨oo,on,oc,rfl,-,-,-,-⟩:=id ho.rows
 have hlts:=ho.lts
 rw [zeros_genM] at ho
 go_upto_region 5 with (fail)
 refine wp_world ?_
 intro W3 hW3
 obtain ⟨hB3,T8,hs3⟩:=world1 hW3
 have ho:=ho.below hB3
 have hB:=nx (nx hB hb2) hB3
 have q2:=hb2.size
 clear hW3 c1 c2 c3 c4 bw
 go_wp2_with fail
 refine (r1of_any x _ oM oM).mono ?_
 rintro e w4 ⟨v4,rfl,hv4,hb4⟩
 go_wp2_with fail
 refine (r1of_any y _ oM oM).mono ?_
 rintro e w5 ⟨v5,rfl,hv5,hb5⟩
 have hv4:=hv4.ext (lx hb5)
 obtain ⟨xn,xa,xl,xc,xx,rfl,hxv⟩:=id hv4
 obtain ⟨yn,ya,yl,yc,yx,rfl,hyv⟩:=id hv5
 have HXV:=Lib.hid hxv
 have HYV:=Lib.hid hyv
 clear hxv hyv
 go_upto_region 6 with (fail)
 refine wp_world ?_
 intro W6 hW6
 obtain ⟨hB6,T9,T10,hs6⟩:=world2 hW6
 have hBx:=nx (nx hb4 hb5) hB6
 have ho:=ho.below hBx
 have T8:=T8.below hBx
 have hB:=nx hB hBx
 have hv4:=hv4.ext (lx hB6)
 have hv5:=hv5.ext (lx hB6)
 have qx:=hBx.size
 have q4:=hb4.size
 have q5:=hb5.size
 clear hW6 hBx
 obtain ⟨f1,f2,f3,f4,f5,f6⟩:=T8.three
 obtain ⟨k1,k2,k3,k4⟩:=T9.two
 obtain ⟨m1,m2,m3,m4⟩:=T10.two
 obtain ⟨g,b1,rfl,hg,hbi,hbi2,o1,ho3⟩:=ho.at_ (i:=R - 1) oM
 obtain ⟨g',b0,eg,-,hb0,hb02,o2,-⟩:=ho.at_ (i:=0) oM
 obtain rfl : g = g':=by injection eg with eg; injection eg
 obtain ⟨sn1,sa1,sl1,sc1,z1,z2,z3,z4,-⟩:=ho.cellAt hbi (show 0 < C by omega)
 obtain ⟨sn2,sa2,sl2,sc2,t1,t2,t3,t4,-⟩:=ho.cellAt hb0 (show C - 1 < C by omega)
 have hion : R - 1 < on/\0 < on:=by omega
 obtain ⟨hi1,hi0⟩:=hion
 have hbne : b1 ≠ b0:=by
  intro hh
  subst hh
  obtain ⟨f1,f2⟩:=List.getElem?_eq_some_iff.1 hbi
  obtain ⟨g1,g2⟩:=List.getElem?_eq_some_iff.1 hb0
  have:=(List.getElem_inj ho.nodup).1 (f2.trans g2.symm)
  omega
 have HO3:=Lib.hid ho3
 obtain ⟨Rm,hRm⟩ : ∃Rm : Nat,Rm = R - 1:=⟨_,rfl⟩
 obtain ⟨Cm,hCm⟩ : ∃Cm : Nat,Cm = C - 1:=⟨_,rfl⟩
 have hRi : (R : Int) - 1 = (Rm : Int):=by omega
 have hCi : (C : Int) - 1 = (Cm : Int):=by omega
 rw [<-hRm] at hbi o1 hi1
 rw [<-hCm] at t1 t2 t3 t4
 have hwR : IntKind.i64.wrap (Rm : Int) = (Rm : Int):=IntWalk.i64_in _ oM
 have hwC : IntKind.i64.wrap (Cm : Int) = (Cm : Int):=IntWalk.i64_in _ oM
 have hb1w:=hlts _ _ hbi
 have hb0w:=hlts _ _ hb0
 have lt8:=T8.lt
 have lt9:=T9.lt
 have lt10:=T10.lt
 have HRM:=Lib.hid hRm
 have HCM:=Lib.hid hCm
 have hRmb : Rm < R:=by omega
 have hCmb : Cm < C:=by omega
 have h0C : 0 < C:=by omega
 clear ho3 eg hRm hCm
 go_upto_region 6 with (fail)
 refine wp_region_each rfl (RIS W6 (W6.heap.size) _ 45
   [⟨0,40,fun _ v=>v = .pointer (some ⟨w2.heap.size,2,none⟩)⟩,⟨1,41,fun _ v=>v = .slice (some ⟨g,0,none⟩) on oc⟩,⟨2,42,fun _ v=>v = .pointer (some ⟨w2.heap.size,0,none⟩)⟩,⟨3,43,fun _ v=>v = .int .i64 R⟩,⟨4,44,fun _ v=>v = .int .i64 Rm⟩,⟨5,45,fun _ v=>v = .pointer (some ⟨g,Rm,none⟩)⟩,⟨6,46,fun _ v=>v = .slice (some ⟨b1,0,none⟩) C C⟩,⟨7,47,fun _ v=>v = .pointer (some ⟨w2.heap.size,2,none⟩)⟩,⟨8,48,fun _ v=>v = .slice (some ⟨g,0,none⟩) on oc⟩,⟨9,49,fun _ v=>v = .pointer (some ⟨g,0,none⟩)⟩,⟨10,50,fun _ v=>v = .slice (some ⟨b0,0,none⟩) C C⟩,⟨11,51,fun _ v=>v = .pointer (some ⟨w2.heap.size,1,none⟩)⟩,⟨12,52,fun _ v=>v = .int .i64 C⟩,⟨13,53,fun _ v=>v = .int .i64 Cm⟩,⟨14,54,fun _ v=>v = .agg #[.bool xn,.slice xa xl xc]⟩,⟨15,55,fun _ v=>v = .agg #[.bool yn,.slice ya yl yc]⟩,⟨16,56,fun _ v=>v = .pointer (some ⟨b1,0,none⟩)⟩,⟨18,57,fun _ v=>v = .pointer (some ⟨b0,Cm * 2,none⟩)⟩]
   [] [] 17 19 (fun w=>(w.setCell ⟨b1,0,none⟩ (.bool xn)).setCell ⟨b1,1,none⟩ (.slice xa xl xc)) (fun _ w=>(w.setCell ⟨b0,Cm * 2,none⟩ (.bool yn)).setCell ⟨b0,Cm * 2 + 1,none⟩ (.slice ya yl yc))) kR (RIS.start RI.start) ?fin1 ?steps1
 case steps1=>
  refine ⟨?_,?_,?_,?_,?_,?_,?_,?_,?_,?_,?_,?_,?_,?_,?_,?_,?_,?_,?_,?_,trivial⟩
  ·refine StepAt.lift kR kR dE ?_
   intro L T wS hL hd hcl hI K hK
   try refine step_wanted rfl ?_
   have zt : T[8]? = some (.pointer (some ⟨w2.heap.size,0,none⟩)):=hI.keep 8 sI sI
   go_simp
   exact hK _ _ (hI.y mm0 rfl)
  ·refine StepAt.lift kR kR dE ?_
   intro L T wS hL hd hcl hI K hK
   try refine step_wanted rfl ?_
   obtain ⟨v0,zt0,rfl⟩:=hI.v mm0 (hd 0)
   have cc0:=hI.cell f3 oM aU
   go_simp
   exact hK _ _ (hI.y mm1 rfl)
  ·refine StepAt.lift kR kR dE ?_
   intro L T wS hL hd hcl hI K hK
   try refine step_wanted rfl ?_
   have zt : T[8]? = some (.pointer (some ⟨w2.heap.size,0,none⟩)):=hI.keep 8 sI sI
   go_simp
   exact hK _ _ (hI.y mm2 rfl)
  ·refine StepAt.lift kR kR dE ?_
   intro L T wS hL hd hcl hI K hK
   try refine step_wanted rfl ?_
   obtain ⟨v2,zt2,rfl⟩:=hI.v mm2 (hd 2)
   have cc0:=hI.cell f1 oM aU
   go_simp
   exact hK _ _ (hI.y mm3 rfl)
  ·refine StepAt.lift kR kR dE ?_
   intro L T wS hL hd hcl hI K hK
   try refine step_wanted rfl ?_
   obtain ⟨v3,zt3,rfl⟩:=hI.v mm3 (hd 3)
   go_simp
   exact hK _ _ (hI.y mm4 rfl)
  ·refine StepAt.lift kR kR dE ?_
   intro L T wS hL hd hcl hI K hK
   try refine step_wanted rfl ?_
   obtain ⟨v1,zt1,rfl⟩:=hI.v mm1 (hd 1)
   obtain ⟨v4,zt4,rfl⟩:=hI.v mm4 (hd 4)
   go_simp
   exact hK _ _ (hI.y mm5 rfl)
  ·refine StepAt.lift kR kR dE ?_
   intro L T wS hL hd hcl hI K hK
   try refine step_wanted rfl ?_
   obtain ⟨v5,zt5,rfl⟩:=hI.v mm5 (hd 5)
   have cc0:=hI.cell o1 oM aU
   go_simp
   exact hK _ _ (hI.y mm6 rfl)
  ·refine StepAt.lift kR kR dE ?_
   intro L T wS hL hd hcl hI K hK
   try refine step_wanted rfl ?_
   have zt : T[8]? = some (.pointer (some ⟨w2.heap.size,0,none⟩)):=hI.keep 8 sI sI
   go_simp
   exact hK _ _ (hI.y mm7 rfl)
  ·refine StepAt.lift kR kR dE ?_
   intro L T wS hL hd hcl hI K hK
   try refine step_wanted rfl ?_
   obtain ⟨v7,zt7,rfl⟩:=hI.v mm7 (hd 7)
   have cc0:=hI.cell f3 oM aU
   go_simp
   exact hK _ _ (hI.y mm8 rfl)
  ·refine StepAt.lift kR kR dE ?_
   intro L T wS hL hd hcl hI K hK
   try refine step_wanted rfl ?_
   obtain ⟨v8,zt8,rfl⟩:=hI.v mm8 (hd 8)
   go_simp
   exact hK _ _ (hI.y mm9 rfl)
  ·refine StepAt.lift kR kR dE ?_
   intro L T wS hL hd hcl hI K hK
   try refine step_wanted rfl ?_
   obtain ⟨v9,zt9,rfl⟩:=hI.v mm9 (hd 9)
   have cc0:=hI.cell o2 oM aU
   go_simp
   exact hK _ _ (hI.y mm10 rfl)
  ·intro L T wS hL hd hcl hI K hK
   try refine step_wanted rfl ?_
   have zt : T[8]? = some (.pointer (some ⟨w2.heap.size,0,none⟩)):=hI.keep sI sI
   go_simp
   exact hK _ _ (hI.value hcl kR hL dE ⟨11,51,_⟩ mm11 rfl (fun _=>rfl))
  ·intro L T wS hL hd hcl hI K hK
   try refine step_wanted rfl ?_
   obtain ⟨w0,ho0,hI0⟩:=hI.either hcl kR hL
   obtain ⟨_,zt11,rfl⟩:=hI0.v mm11 (hd 11)
   have hh : wS.heap[w2.heap.size]? = W6.heap[w2.heap.size]?:=ho0.elim (fun e=>by rw [e]; exact hI0.old w2.heap.size oM sI) (fun e=>by rw [e]; exact (set2_old _ _ _ _ _ _ _ oM).trans (hI0.old w2.heap.size oM sI))
   have cc1:=(cell_same hh).trans f2
   clear hh
   go_simp
   exact hK _ _ (hI.value hcl kR hL dE ⟨12,52,_⟩ mm12 rfl (fun _=>rfl))
  ·intro L T wS hL hd hcl hI K hK
   try refine step_wanted rfl ?_
   obtain ⟨v12,zt12,hz12⟩:=hI.val mm12 (hd 12) (fun _ _ _ h=>h)
   replace hz12 : v12 = .int .i64 C:=hz12 wS
   subst hz12
   go_simp
   exact hK _ _ (hI.value hcl kR hL dE ⟨13,53,_⟩ mm13 rfl (fun _=>rfl))
  ·refine StepAt.lift kR kR dE ?_
   intro L T wS hL hd hcl hI K hK
   try refine step_wanted rfl ?_
   have zt : T[9]? = some (.pointer (some ⟨w5.heap.size,0,none⟩)):=hI.keep 9 sI sI
   have cc0:=hI.cell k1 oM aU
   have cc1:=hI.cell k2 oM aU
   go_simp
   exact hK _ _ (hI.y mm14 rfl)
  ·intro L T wS hL hd hcl hI K hK
   try refine step_wanted rfl ?_
   obtain ⟨w0,ho0,hI0⟩:=hI.either hcl kR hL
   have zt : T[10]? = some (.pointer (some ⟨w5.heap.size + 1,0,none⟩)):=hI.keep sI sI
   have hh : wS.heap[w5.heap.size + 1]? = W6.heap[w5.heap.size + 1]?:=ho0.elim (fun e=>by rw [e]; exact hI0.old (w5.heap.size + 1) oM sI) (fun e=>by rw [e]; exact (set2_old _ _ _ _ _ _ _ oM).trans (hI0.old (w5.heap.size + 1) oM sI))
   have cc1:=(cell_same hh).trans m1
   have cc2:=(cell_same hh).trans m2
   clear hh
   go_simp
   exact hK _ _ (hI.value hcl kR hL dE ⟨15,55,_⟩ mm15 rfl (fun _=>rfl))
  ·refine StepAt.lift kR kR dE ?_
   intro L T wS hL hd hcl hI K hK
   try refine step_wanted rfl ?_
   obtain ⟨v6,zt6,rfl⟩:=hI.v mm6 (hd 6)
   go_simp
   exact hK _ _ (hI.y mm16 rfl)
  ·intro L T wS hL hd hcl hI K hK
   try refine step_wanted rfl ?_
   obtain ⟨hI0,hIS⟩:=hI.first hcl kR hL dE sI sI sI
   obtain ⟨_,zt16,rfl⟩:=hI0.v mm16 (hd 16)
   obtain ⟨_,zt14,rfl⟩:=hI0.v mm14 (hd 14)
   have hh:=hI0.old b1 oM sI
   have cc1:=(cell_same hh).trans z1
   have cc2:=(cell_same hh).trans z2
   have cc3:=(frozen_same hh).trans z3
   have cc4:=(frozen_same hh).trans z4
   clear hh
   go_simp
   exact hK _ _ hIS
  ·intro L T wS hL hd hcl hI K hK
   try refine step_wanted rfl ?_
   obtain ⟨v10,zt10,hz10⟩:=hI.val mm10 (hd 10) (fun _ _ _ h=>h)
   replace hz10 : v10 = .slice (some ⟨b0,0,none⟩) C C:=hz10 wS
   subst hz10
   obtain ⟨v13,zt13,hz13⟩:=hI.val mm13 (hd 13) (fun _ _ _ h=>h)
   replace hz13 : v13 = .int .i64 Cm:=hz13 wS
   subst hz13
   go_simp
   exact hK _ _ (hI.value hcl kR hL dE ⟨18,57,_⟩ mm17 rfl (fun _=>rfl))
  ·intro L T wS hL hd hcl hI K hK
   try refine step_wanted rfl ?_
   obtain ⟨w0,rfl,hI0,hIS⟩:=hI.second (hd 17) hL sI sI sI
   obtain ⟨_,zt18,rfl⟩:=hI0.v mm17 (hd 18)
   obtain ⟨_,zt15,rfl⟩:=hI0.v mm15 (hd 15)
   have hh : ((w0.setCell ⟨b1,0,none⟩ (.bool xn)).setCell ⟨b1,1,none⟩ (.slice xa xl xc)).heap[b0]? = W6.heap[b0]?:=(set2_old _ _ _ _ _ _ _ (Ne.symm hbne)).trans (hI0.old b0 oM sI)
   have cc1:=(cell_same hh).trans t1
   have cc2:=(cell_same hh).trans t2
   have cc3:=(frozen_same hh).trans t3
   have cc4:=(frozen_same hh).trans t4
   clear hh
   go_simp
   exact hK _ _ hIS
 intro T wf1 hIS
 obtain ⟨w7,hI,hwfa⟩:=hIS.fin dE
 obtain ⟨va0,q0,rfl⟩:=hI.v mm0 rfl
 obtain ⟨va1,q1,rfl⟩:=hI.v mm1 rfl
 obtain ⟨va2,q2,rfl⟩:=hI.v mm2 rfl
 obtain ⟨va3,q3,rfl⟩:=hI.v mm3 rfl
 obtain ⟨va4,q4,rfl⟩:=hI.v mm4 rfl
 obtain ⟨va5,q5,rfl⟩:=hI.v mm5 rfl
 obtain ⟨va6,q6,rfl⟩:=hI.v mm6 rfl
 obtain ⟨va7,q7,rfl⟩:=hI.v mm7 rfl
 obtain ⟨va8,q8,rfl⟩:=hI.v mm8 rfl
 obtain ⟨va9,q9,rfl⟩:=hI.v mm9 rfl
 obtain ⟨va10,q10,rfl⟩:=hI.v mm10 rfl
 obtain ⟨va11,q11,rfl⟩:=hI.v mm11 rfl
 obtain ⟨va12,q12,rfl⟩:=hI.v mm12 rfl
 obtain ⟨va13,q13,rfl⟩:=hI.v mm13 rfl
 obtain ⟨va14,q14,rfl⟩:=hI.v mm14 rfl
 obtain ⟨va15,q15,rfl⟩:=hI.v mm15 rfl
 obtain ⟨va16,q16,rfl⟩:=hI.v mm16 rfl
 obtain ⟨va18,q18,rfl⟩:=hI.v mm17 rfl
 have hT:=tmps_set [(40,.pointer (some ⟨w2.heap.size,2,none⟩)),(41,.slice (some ⟨g,0,none⟩) on oc),(42,.pointer (some ⟨w2.heap.size,0,none⟩)),(43,.int .i64 R),(44,.int .i64 Rm),(45,.pointer (some ⟨g,Rm,none⟩)),(46,.slice (some ⟨b1,0,none⟩) C C),(47,.pointer (some ⟨w2.heap.size,2,none⟩)),(48,.slice (some ⟨g,0,none⟩) on oc),(49,.pointer (some ⟨g,0,none⟩)),(50,.slice (some ⟨b0,0,none⟩) C C),(51,.pointer (some ⟨w2.heap.size,1,none⟩)),(52,.int .i64 C),(53,.int .i64 Cm),(54,.agg #[.bool xn,.slice xa xl xc]),(55,.agg #[.bool yn,.slice ya yl yc]),(56,.pointer (some ⟨b1,0,none⟩)),(57,.pointer (some ⟨b0,Cm * 2,none⟩))]
  (fun j hj=>hI.keep j (by simp only [List.forall_mem_cons] at hj ⊢; simp [hj]) (by simp only [List.forall_mem_cons] at hj ⊢; simp [hj]))
  (by simp only [List.forall_mem_cons]; simp [q0,q1,q2,q3,q4,q5,q6,q7,q8,q9,q10,q11,q12,q13,q14,q15,q16,q18]) hI.size
 have hlw7:=hI.lext
 have hbw7:=hI.bel (W6.heap.size) oM aU
 have holdw7:=hI.old
 clear hI
 simp only [List.foldl_cons,List.foldl_nil,List.setIfInBounds_toArray,List.set_cons_zero,List.set_cons_succ,ptr] at hT
 subst hT
 clear q0 q1 q2 q3 q4 q5 q6 q7 q8 q9 q10 q11 q12 q13 q14 q15 q16 q18
 have hwf : wf1 = (((w7.setCell ⟨b1,0,none⟩ (.bool xn)).setCell ⟨b1,1,none⟩ (.slice xa xl xc)).setCell ⟨b0,Cm * 2,none⟩ (.bool yn)).setCell ⟨b0,Cm * 2 + 1,none⟩ (.slice ya yl yc):=hwfa
 subst hwf
 clear hwfa
 have hoA:=ho.below hbw7
 have hset1:=hoA.set hbi h0C (hv4.ext hlw7)
 have hset2:=hset1.1.set hb0 hCmb ((hv5.ext hlw7).ext hset1.2.1)
 have hx8:=hlw7.trans (hset1.2.1.trans hset2.2.1)
 have hbase1:=hset1.2.2
 have hbase0:=hset2.2.2
 have hn1 : ∀b,b ≠ b1->b ≠ b0->((((w7.setCell ⟨b1,0,none⟩ (.bool xn)).setCell ⟨b1,1,none⟩ (.slice xa xl xc)).setCell ⟨b0,Cm * 2,none⟩ (.bool yn)).setCell ⟨b0,Cm * 2 + 1,none⟩ (.slice ya yl yc)).heap[b]? = w7.heap[b]?:=fun b h1 h2=>(set2_old _ _ _ _ _ _ _ h2).trans (set2_old _ _ _ _ _ _ _ h1)
 have hM : setM (setM (genM R C fun _ _=>0) Rm 0 x) 0 Cm y = genM R C (cor R C x y):=by
  rw [setM_genM _ hRmb h0C,setM_genM _ oM hCmb]
  refine genM_congr fun a _ b _=>?_
  have e1:=HRM.out
  have e2:=HCM.out
  unfold cor
  rw [<-e1,<-e2]
  by_cases h1 : a = 0/\b = Cm
  ·rw [if_pos h1,if_neg oM,if_pos h1]
  ·rw [if_neg h1,if_neg h1]
 have ho8:=hset2.1
 rw [hM] at ho8
 have HO8:=HidS.mk ho8
 have hB8 : Below w.heap.size w ((((w7.setCell ⟨b1,0,none⟩ (.bool xn)).setCell ⟨b1,1,none⟩ (.slice xa xl xc)).setCell ⟨b0,Cm * 2,none⟩ (.bool yn)).setCell ⟨b0,Cm * 2 + 1,none⟩ (.slice ya yl yc)):=by
  have q1:=hB0.size
  have q0:=hb1.size
  exact bset (bset (bset (bset (nx hB hbw7) oM _ _) oM _ _) oM _ _) oM _ _
 have T8 : Blk _ w2.heap.size 28 #[.int .i64 R,.int .i64 C,.slice (some ⟨g,0,none⟩) on oc]:=(hn1 _ oM oM).trans (T8.below hbw7)
 have T9 : Blk _ w5.heap.size 45 #[.bool xn,.slice xa xl xc]:=(hn1 _ oM oM).trans (T9.below hbw7)
 have T10 : Blk _ (w5.heap.size + 1) 45 #[.bool yn,.slice ya yl yc]:=(hn1 _ oM oM).trans (T10.below hbw7)
 have hv4:=hv4.ext hx8
 have hv5:=hv5.ext hx8
 have hsz8:=hB8.size
 clear hn1 hset1 hset2 hoA hM ho8 ho hB hx8 f1 f2 f3 f4 f5 f6 k1 k2 k3 k4 m1 m2 m3 m4 z1 z2 z3 z4 t1 t2 t3 t4 o1 o2
 generalize ((((w7.setCell ⟨b1,0,none⟩ (.bool xn)).setCell ⟨b1,1,none⟩ (.slice xa xl xc)).setCell ⟨b0,Cm * 2,none⟩ (.bool yn)).setCell ⟨b0,Cm * 2 + 1,none⟩ (.slice ya yl yc)) = w8 at *
 obtain ⟨k1,k2,k3,k4⟩:=T9.two
 obtain ⟨m1,m2,m3,m4⟩:=T10.two
 have SX : HidS (Smd x/\Smd y):=⟨small_smd oM,small_smd oM⟩
 go_wp2_with fail
 refine (r1gcd_any _ _ x y w8 hv4 hv5 SX.out.1 SX.out.2).mono ?_
 rintro e w9 ⟨v9,rfl,hv9,hb9⟩
 obtain ⟨gn,ga,gl,gc,gx,rfl,hgv⟩:=id hv9
 have HGV:=Lib.hid hgv
 clear hgv k1 k2 k3 k4 m1 m2 m3 m4
 go_upto_region 8 with (fail)
 refine wp_world ?_
 intro WA hWA
 obtain ⟨hBA,T11,hsA⟩:=world1 hWA
 have T8:=(T8.below hb9).below hBA
 have T9:=(T9.below hb9).below hBA
 have T10:=(T10.below hb9).below hBA
 have ho:=((HO8.out).below hb9).below hBA
 have hB:=nx (nx hB8 hb9) hBA
 have hv4:=(hv4.ext (lx hb9)).ext (lx hBA)
 have hv5:=(hv5.ext (lx hb9)).ext (lx hBA)
 have hv9:=hv9.ext (lx hBA)
 have q9:=hb9.size
 clear hWA HO8 hB8
 obtain ⟨k1,k2,k3,k4⟩:=T9.two
 obtain ⟨m1,m2,m3,m4⟩:=T10.two
 obtain ⟨n1,n2,n3,n4⟩:=T11.two
 have hg0 : ((Int.gcd x y : Nat) : Int) ≠ 0:=fun h=>by
  have : Int.gcd x y = 0:=by omega
  rw [Int.gcd_eq_zero_iff] at this
  exact hx0 this.1
 have hgle : Int.gcd x y<=32768:=Nat.le_trans (Nat.le_of_dvd oM (Int.natAbs_dvd_natAbs.2 (Int.gcd_dvd_left (a:=x) (b:=y)))) oM
 have hxyb : (x * y).natAbs<=32768 * 32768:=abs_mul_le oM oM
 obtain ⟨gg,hgg⟩ : ∃gg : Int,((Int.gcd x y : Nat) : Int) = gg:=⟨_,rfl⟩
 rw [hgg] at hg0 hv9
 have SP : HidS (Sm x/\Sm y/\Sm (x * y)/\Smd (((x * y).natAbs : Nat) : Int)/\Smd gg/\gg ≠ 0):=⟨SX.out.1.sm,SX.out.2.sm,(small_smd (Nat.le_trans hxyb dE)).sm,small_smd (by rw [Int.natAbs_natCast]; exact Nat.le_trans hxyb dE),small_smd oM,hg0⟩
 have HGG:=HidS.mk hgg
 have hlt9:=T9.lt
 have hlt10:=T10.lt
 have hlt11:=T11.lt
 clear hg0 hgle hxyb hgg
 have hld : Lasts (fun w v=>∃v1 v2,v = .tuple #[v1,v2,.int .i64 0]/\IntV w v1 ((((x * y).natAbs : Nat) : Int) / gg)/\IntV w v2 ((((x * y).natAbs : Nat) : Int) % gg)):=fun w w' v hx h=>by
  obtain ⟨v1,v2,e,h1,h2⟩:=h
  exact ⟨v1,v2,e,h1.ext hx,h2.ext hx⟩
 refine wp_region_each rfl (RI WA (WA.heap.size) _ 45
   [⟨0,62,fun _ v=>v = .agg #[.bool xn,.slice xa xl xc]⟩,⟨1,63,fun _ v=>v = .agg #[.bool yn,.slice ya yl yc]⟩,⟨2,64,fun w v=>IntV w v (x * y)⟩,⟨3,65,fun w v=>IntV w v ((((x * y).natAbs : Nat) : Int))⟩,⟨4,66,fun _ v=>v = .agg #[.bool gn,.slice ga gl gc]⟩,⟨5,67,fun w v=>∃v1 v2,v = .tuple #[v1,v2,.int .i64 0]/\IntV w v1 ((((x * y).natAbs : Nat) : Int) / gg)/\IntV w v2 ((((x * y).natAbs : Nat) : Int) % gg)⟩,⟨6,61,fun w v=>∃v1 v2,v = .tuple #[v1,v2,.int .i64 0]/\IntV w v1 ((((x * y).natAbs : Nat) : Int) / gg)/\IntV w v2 ((((x * y).natAbs : Nat) : Int) % gg)⟩,⟨7,68,fun w v=>IntV w v ((((x * y).natAbs : Nat) : Int) / gg)⟩,⟨8,69,fun w v=>IntV w v ((((x * y).natAbs : Nat) : Int) % gg)⟩,⟨9,70,fun _ v=>v = .int .i64 0⟩,⟨14,14,fun _ v=>v = .int .i64 0⟩]
   [⟨10,12,12,fun w v=>IntV w v ((((x * y).natAbs : Nat) : Int) / gg)⟩,⟨11,13,13,fun w v=>IntV w v ((((x * y).natAbs : Nat) : Int) % gg)⟩] []) kR RI.start ?fin2 ?steps2
 case steps2=>
  refine ⟨?_,?_,?_,?_,?_,?_,?_,?_,?_,?_,?_,?_,?_,?_,?_,trivial⟩ <;> (intro L T wS hL hd hcl hI K hK; try refine step_wanted rfl ?_)
  ·have zt : T[9]? = some (.pointer (some ⟨w5.heap.size,0,none⟩)):=hI.keep 9 sI sI
   have cc0:=hI.cell k1 oM nom
   have cc1:=hI.cell k2 oM nom
   go_simp
   exact hK _ _ (hI.y mm0 rfl)
  ·have zt : T[10]? = some (.pointer (some ⟨w5.heap.size + 1,0,none⟩)):=hI.keep 10 sI sI
   have cc0:=hI.cell m1 oM nom
   have cc1:=hI.cell m2 oM nom
   go_simp
   exact hK _ _ (hI.y mm1 rfl)
  ·obtain ⟨v0,zt0,rfl⟩:=hI.v mm0 (hd 0)
   obtain ⟨v1,zt1,rfl⟩:=hI.v mm1 (hd 1)
   go_simp
   refine (r1mul_any _ _ x y _ (hv4.ext hI.lext) (hv5.ext hI.lext) SP.out.1 SP.out.2.1).mono ?_
   rintro e wa ⟨v,rfl,hv,hba⟩
   exact hK _ _ ((hI.world hba).y mm2 hv)
  ·obtain ⟨v2,zt2,h2⟩:=hI.v mm2 (hd 2)
   go_simp
   refine (r1abs_any _ (x * y) _ h2.weak SP.out.2.2.1).mono ?_
   rintro e wa ⟨v,rfl,hv,hba⟩
   exact hK _ _ ((hI.world hba).y mm3 hv)
  ·have zt : T[11]? = some (.pointer (some ⟨w9.heap.size,0,none⟩)):=hI.keep 11 sI sI
   have cc0:=hI.cell n1 oM nom
   have cc1:=hI.cell n2 oM nom
   go_simp
   exact hK _ _ (hI.y mm4 rfl)
  ·obtain ⟨v3,zt3,h3⟩:=hI.v mm3 (hd 3)
   obtain ⟨_,zt4,rfl⟩:=hI.v mm4 (hd 4)
   go_simp
   refine (r1divmod_any _ _ _ gg _ h3 (hv9.ext hI.lext) SP.out.2.2.2.1 SP.out.2.2.2.2.1 SP.out.2.2.2.2.2).mono ?_
   rintro e wa ⟨u1,u2,rfl,hu1,hu2,hba⟩
   exact hK _ _ ((hI.world hba).y mm5 ⟨u1,u2,rfl,hu1,hu2⟩)
  ·obtain ⟨v5,zt5,h5⟩:=hI.v mm5 (hd 5)
   go_simp
   exact hK _ _ (hI.y mm6 h5)
  ·obtain ⟨v6,zt6,h6⟩:=hI.v mm6 (hd 6)
   obtain ⟨u1,u2,rfl,e1,e2⟩:=h6
   go_simp
   exact hK _ _ (hI.y mm7 e1)
  ·obtain ⟨v6,zt6,h6⟩:=hI.v mm6 (hd 6)
   obtain ⟨u1,u2,rfl,e1,e2⟩:=h6
   go_simp
   exact hK _ _ (hI.y mm8 e2)
  ·obtain ⟨v6,zt6,h6⟩:=hI.v mm6 (hd 6)
   obtain ⟨u1,u2,rfl,e1,e2⟩:=h6
   go_simp
   exact hK _ _ (hI.y mm9 rfl)
  ·go_simp
   exact hK _ _ (hI.alloc ⟨10,12,12,_⟩ mm0 rfl hL)
  ·go_simp
   exact hK _ _ (hI.alloc ⟨11,13,13,_⟩ mm1 rfl hL)
  ·obtain ⟨v,t1,hv⟩:=hI.v mm7 (hd 7)
   obtain ⟨b,x,y,t2,hb1,hb2,-⟩:=hI.box _ mm0 (hd 10)
   obtain ⟨vneg,vao,vlen,vcap,vls,rfl,hv'⟩:=id hv
   have HT:=Lib.hid t2
   unfold ptr at t2
   obtain ⟨k1,k2,k3,k4⟩:=hb2.two
   go_simp
   exact hK _ _ (hI.store ⟨10,12,12,_⟩ mm0 rfl (hd 10) HT.out hv)
  ·obtain ⟨v,t1,hv⟩:=hI.v mm8 (hd 8)
   obtain ⟨b,x,y,t2,hb1,hb2,-⟩:=hI.box _ mm1 (hd 11)
   obtain ⟨vneg,vao,vlen,vcap,vls,rfl,hv'⟩:=id hv
   have HT:=Lib.hid t2
   unfold ptr at t2
   obtain ⟨k1,k2,k3,k4⟩:=hb2.two
   go_simp
   exact hK _ _ (hI.store ⟨11,13,13,_⟩ mm1 rfl (hd 11) HT.out hv)
  ·obtain ⟨v9,zt9,rfl⟩:=hI.v mm9 (hd 9)
   go_simp
   exact hK _ _ (hI.y mm10 rfl)
 intro T wb hI
 obtain ⟨vb0,q0,rfl⟩:=hI.v mm0 rfl
 obtain ⟨vb1,q1,rfl⟩:=hI.v mm1 rfl
 obtain ⟨vb2,q2,hb2⟩:=hI.v mm2 rfl
 replace hb2 : IntV wb vb2 (x * y):=hb2
 obtain ⟨vb3,q3,hb3⟩:=hI.v mm3 rfl
 replace hb3 : IntV wb vb3 ((((x * y).natAbs : Nat) : Int)):=hb3
 obtain ⟨vb4,q4,rfl⟩:=hI.v mm4 rfl
 obtain ⟨vb5,q5,hb5⟩:=hI.v mm5 rfl
 obtain ⟨vb6,q6,hb6⟩:=hI.v mm6 rfl
 obtain ⟨vb7,q7,hb7⟩:=hI.v mm7 rfl
 replace hb7 : IntV wb vb7 ((((x * y).natAbs : Nat) : Int) / gg):=hb7
 obtain ⟨vb8,q8,hb8⟩:=hI.v mm8 rfl
 replace hb8 : IntV wb vb8 ((((x * y).natAbs : Nat) : Int) % gg):=hb8
 obtain ⟨vb9,q9,rfl⟩:=hI.v mm9 rfl
 obtain ⟨vb14,q14,rfl⟩:=hI.v mm10 rfl
 obtain ⟨cb10,xb10,yb10,r10,gb10,kb10,ib10⟩:=hI.box _ mm0 rfl
 replace ib10 : IntV wb (.agg #[xb10,yb10]) ((((x * y).natAbs : Nat) : Int) / gg):=ib10 rfl
 obtain ⟨cb11,xb11,yb11,r11,gb11,kb11,ib11⟩:=hI.box _ mm1 rfl
 replace ib11 : IntV wb (.agg #[xb11,yb11]) ((((x * y).natAbs : Nat) : Int) % gg):=ib11 rfl
 have nb10_11:=hI.far _ mm0 _ mm1 sI rfl rfl cb10 cb11 r10 r11
 have hT:=tmps_set [(62,.agg #[.bool xn,.slice xa xl xc]),(63,.agg #[.bool yn,.slice ya yl yc]),(64,vb2),(65,vb3),(66,.agg #[.bool gn,.slice ga gl gc]),(67,vb5),(61,vb6),(68,vb7),(69,vb8),(70,.int .i64 0),(14,.int .i64 0),(12,ptr cb10),(13,ptr cb11)]
  (fun j hj=>hI.keep j (by simp only [List.forall_mem_cons] at hj ⊢; simp [hj]) (by simp only [List.forall_mem_cons] at hj ⊢; simp [hj]))
  (by simp only [List.forall_mem_cons]; simp [q0,q1,q2,q3,q4,q5,q6,q7,q8,q9,q14,r10,r11]) hI.size
 have hlwb:=hI.lext
 have hbwb:=hI.bel (WA.heap.size) oM nom
 have holdwb:=hI.old
 clear hI
 simp only [List.foldl_cons,List.foldl_nil,List.setIfInBounds_toArray,List.set_cons_zero,List.set_cons_succ,ptr] at hT
 subst hT
 clear q0 q1 q2 q3 q4 q5 q6 q7 q8 q9 q14 r10 r11
 have hB:=nx hB hbwb
 have T8:=T8.below hbwb
 have T11:=T11.below hbwb
 have ho:=ho.below hbwb
 have hv9:=hv9.ext (lx hbwb)
 clear k1 k2 k3 k4 m1 m2 m3 m4 n1 n2 n3 n4
 obtain ⟨f1,f2,f3,f4,f5,f6⟩:=T8.three
 obtain ⟨k1,k2,k3,k4⟩:=T11.two
 obtain ⟨m1,m2,m3,m4⟩:=kb10.two
 have hfit:=ho.fits
 rw [hbl] at hfit
 have HMV : HidS (MatV wb (.agg #[.int .i64 R,.int .i64 C,.slice (some ⟨g,0,none⟩) on oc]) R C (genM R C (cor R C x y))):=⟨⟨_,rfl,ho.rows⟩⟩
 have HFT:=HidS.mk hfit
 have HLE : HidS (leM 1048576 R C (ent (genM R C (cor R C x y)))):=⟨ent_leM fun a _ b _=>by
  unfold cor
  split
  ·omega
  ·split
   ·omega
   ·simp⟩
 obtain ⟨LL,hLL⟩ : ∃LL : List Int,[gg,(((x * y).natAbs : Nat) : Int) / gg] = LL:=⟨_,rfl⟩
 have HLL:=HidS.mk hLL
 obtain ⟨qn,qa,ql,qc,qx,e10,hqx⟩:=id ib10
 injection e10 with e10
 simp only [Array.mk.injEq,List.cons.injEq,and_true] at e10
 obtain ⟨rfl,rfl⟩:=e10
 have HQX:=Lib.hid hqx
 clear hqx
 have HV2 : HidS (∀w',LExt wb w'->VecV (w'.alloc (.cells #[.bool gn,.slice ga gl gc,.bool qn,.slice qa ql qc] 45)) (.slice (some ⟨w'.heap.size,0,none⟩) 2 2) LL):=⟨fun w' hx=>by
  rw [<-HLL.out]
  exact VecV.two w' (hv9.ext hx) (ib10.ext hx)⟩
 have HLS : HidS (∀r F,Inv R C r (ent (genM R C (cor R C x y))) F->genV r (fun i=>F i i) = LL):=⟨fun r F hI=>by
  rw [<-HLL.out,<-HGG.out]
  exact sums_list hRl hCl hx0 hy0 (fun a ha b hb=>ent_genM ha hb) hI⟩
 clear hfit hLL ho
 go_upto_region 9 with (fail)
 refine wp_region_each rfl (RV wb _ [⟨0,71,fun _ v=>v = .agg #[.int .i64 R,.int .i64 C,.slice (some ⟨g,0,none⟩) on oc]⟩,⟨1,72,fun w v=>VecV w v LL⟩,⟨2,73,fun _ v=>v = .agg #[.bool gn,.slice ga gl gc]⟩,⟨3,74,fun _ v=>v = .agg #[.bool qn,.slice qa ql qc]⟩,⟨4,75,fun w v=>VecV w v LL⟩,⟨5,76,fun _ v=>v = .bool true⟩,⟨6,77,fun _ v=>v = .bool true⟩,⟨7,78,fun _ v=>v = .bool true⟩,⟨8,79,fun _ v=>v = .bool true⟩,⟨9,6,fun _ v=>v = .bool true⟩]) kR RV.start ?fin3 ?steps3
 case steps3=>
  refine ⟨?_,?_,?_,?_,?_,?_,?_,?_,?_,?_,trivial⟩ <;> (intro L T wS hL hd hcl hI K hK; try refine step_wanted rfl ?_)
  ·have zt : T[8]? = some (.pointer (some ⟨w2.heap.size,0,none⟩)):=hI.keep 8 sI
   have cc0:=hI.cell f1
   have cc1:=hI.cell f2
   have cc2:=hI.cell f3
   go_simp
   exact hK _ _ (hI.y mm0 rfl)
  ·obtain ⟨_,zt0,rfl⟩:=hI.v mm0 (hd 0)
   go_simp
   refine (invL _ _ R C LL _ (HMV.out.below hI.bel) HFT.out hRh hCh HLE.out HLS.out).mono ?_
   rintro e wa ⟨v,rfl,hv,hba⟩
   exact hK _ _ ((hI.world hba).y mm1 hv)
  ·have zt : T[11]? = some (.pointer (some ⟨w9.heap.size,0,none⟩)):=hI.keep 11 sI
   have cc0:=hI.cell k1
   have cc1:=hI.cell k2
   go_simp
   exact hK _ _ (hI.y mm2 rfl)
  ·have zt : T[12]? = some (.pointer (some ⟨cb10,0,none⟩)):=hI.keep 12 sI
   have cc0:=hI.cell m1
   have cc1:=hI.cell m2
   go_simp
   exact hK _ _ (hI.y mm3 rfl)
  ·obtain ⟨_,zt2,rfl⟩:=hI.v mm2 (hd 2)
   obtain ⟨_,zt3,rfl⟩:=hI.v mm3 (hd 3)
   go_simp
   exact hK _ _ ((hI.world ((Below.refl _ _).alloc (Nat.le_refl _) _)).y mm4 (HV2.out _ (lx hI.bel)))
  ·obtain ⟨v1,zt1,h1⟩:=hI.v mm1 (hd 1)
   obtain ⟨v4,zt4,h4⟩:=hI.v mm4 (hd 4)
   go_simp
   refine (r13sameB _ _ LL _ h1 h4).mono ?_
   rintro e wa ⟨v,rfl,hv,hba⟩
   exact hK _ _ ((hI.world hba).y mm5 hv)
  ·obtain ⟨_,zt5,rfl⟩:=hI.v mm5 (hd 5)
   go_simp
   exact hK _ _ (hI.y mm6 rfl)
  ·obtain ⟨_,zg,rfl⟩:=hI.v mm6 (hd 6)
   refine step_wanted (by simp [Region.wanted,yielded,zg]) ?_
   have zt : T[7]? = some (.bool true):=hI.keep 7 sI
   go_simp
   exact hK _ _ (hI.y mm7 rfl)
  ·obtain ⟨_,zt6,rfl⟩:=hI.v mm6 (hd 6)
   obtain ⟨_,zt7,rfl⟩:=hI.v mm7 (hd 7)
   go_simp
   exact hK _ _ (hI.y mm8 rfl)
  ·obtain ⟨_,zt8,rfl⟩:=hI.v mm8 (hd 8)
   go_simp
   exact hK _ _ (hI.y mm9 rfl)
 intro T wc hI
 obtain ⟨vc0,q0,rfl⟩:=hI.v mm0 rfl
 obtain ⟨vc1,q1,hc1⟩:=hI.v mm1 rfl
 obtain ⟨vc2,q2,rfl⟩:=hI.v mm2 rfl
 obtain ⟨vc3,q3,rfl⟩:=hI.v mm3 rfl
 obtain ⟨vc4,q4,hc4⟩:=hI.v mm4 rfl
 obtain ⟨vc5,q5,rfl⟩:=hI.v mm5 rfl
 obtain ⟨vc6,q6,rfl⟩:=hI.v mm6 rfl
 obtain ⟨vc7,q7,rfl⟩:=hI.v mm7 rfl
 obtain ⟨vc8,q8,rfl⟩:=hI.v mm8 rfl
 obtain ⟨vc9,q9,rfl⟩:=hI.v mm9 rfl
 have hT:=tmps_set [(71,.agg #[.int .i64 R,.int .i64 C,.slice (some ⟨g,0,none⟩) on oc]),(72,vc1),(73,.agg #[.bool gn,.slice ga gl gc]),(74,.agg #[.bool qn,.slice qa ql qc]),(75,vc4),(76,.bool true),(77,.bool true),(78,.bool true),(79,.bool true),(6,.bool true)]
  (fun j hj=>hI.keep j (by simp only [List.forall_mem_cons] at hj ⊢; simp [hj]))
  (by simp only [List.forall_mem_cons]; simp [q0,q1,q2,q3,q4,q5,q6,q7,q8,q9]) hI.size
 have hbwc:=hI.bel
 clear hI
 simp only [List.foldl_cons,List.foldl_nil,List.setIfInBounds_toArray,List.set_cons_zero,List.set_cons_succ,ptr] at hT
 subst hT
 clear q0 q1 q2 q3 q4 q5 q6 q7 q8 q9
 have hBF:=nx hB hbwc
 go_wp2
 go_ret
 exact ⟨rfl,hBF⟩
end Go.Proofs.YtnocgagoaldfnaaGreat
