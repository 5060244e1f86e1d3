/- torsionref13: combine, combineColumns. -/
import Derived.Test.YtnocgagoaldfnaaGreatD21
import Derived.Test.YtnocgagoaldfnaaGreatW01
set_option linter.unusedVariables false
set_option linter.unusedSimpArgs false
set_option linter.unusedSectionVars false
namespace Go.Proofs.YtnocgagoaldfnaaGreat
open Go.RowKit
def addC (F : Nat->Nat->Int) (i j : Nat) (k : Int) : Nat->Nat->Int:=fun a b=>if b = i then F a i + k * F a j else F a b
def addFu (F : Nat->Nat->Int) (i j : Nat) (k : Int) (c : Nat) : Nat->Nat->Int:=fun a b=>if a = i/\b < c then F i b + k * F j b else F a b
def addCu (F : Nat->Nat->Int) (i j : Nat) (k : Int) (c : Nat) : Nat->Nat->Int:=fun a b=>if b = i/\a < c then F a i + k * F a j else F a b
theorem Only.bset2 {S : List Nat} {w : World} {b i : Nat} {u v : Value} (hb : b ∈ S) (hx : LExt w ((w.setCell ⟨b,i,none⟩ u).setCell ⟨b,i + 1,none⟩ v)) : Only S w ((w.setCell ⟨b,i,none⟩ u).setCell ⟨b,i + 1,none⟩ v):=
 ⟨bset (bset (Below.refl _ _) (Nat.zero_le _) _ _) (Nat.zero_le _) _ _,hx,fun k _ hk=>set2_old _ _ _ _ _ _ _ (fun e=>hk (e ▸ hb))⟩
set_option maxHeartbeats 4000000 in
set_option maxRecDepth 20000 in
theorem combine_any (A kv : Value) (R C i j base : Nat) (bs : List Nat) (F : Nat->Nat->Int) (k : Int) (w : World) (h : RowsO w base A C bs (genM R C F)) (hbl : bs.length = R) (hi : i < R) (hj : j < R) (hij : i ≠ j) (hk : IntV w kv k) (hR : R<=1000000) (hC : C<=1000000)
  (hS : ∀a,a < R->∀b,b < C->Sm (F a b)/\Sm (k * F a b)) (hks : Sm k) :
  Calls Tryz.prog 81 #[.agg #[.int .i64 R,.int .i64 C,A],.agg #[.int .i64 i,.int .i64 j],kv] w fun e w'=>(∃u,e = .returned u)/\Only bs w w'/\RowsO w' base A C bs (genM R C (addF F i j k)):=by
 have HS:=HidS.mk hS
 have HK:=HidS.mk hks
 obtain ⟨kn,ka,kl,kc,kx,rfl,hkx⟩:=id hk
 have HKX:=Lib.hid hkx
 obtain ⟨oo,on,oc,rfl,-,-,-,-⟩:=id h.rows
 have hlts:=h.lts
 have HIJ:=Lib.hid hij
 clear hS hks hkx hij
 go_enter Tryz.func81,Tryz.ntmps81
 go_upto_region 1 with (fail)
 refine wp_world ?_
 intro W0 hW0
 obtain ⟨hB0,T3,T4,T5,hs0⟩:=world3 hW0
 have ho:=h.below hB0
 have hk0:=hk.ext (lx hB0)
 have hO:=Only.of bs hB0
 have hst : genM R C F = genM R C (addFu F i j k 0):=genM_congr fun a _ b _=>by unfold addFu; rw [if_neg oM]
 rw [hst] at ho
 clear hW0 hst
 go_wp2
 go_loopw [6] (fun cv wr=>∃c : Nat,c<=C/\cv = .int .i64 c/\Only bs w wr/\Blk wr w.heap.size 28 #[.int .i64 R,.int .i64 C,.slice oo on oc]/\Blk wr (w.heap.size + 1) 86 #[.int .i64 i,.int .i64 j]/\Blk wr (w.heap.size + 1 + 1) 45 #[.bool kn,.slice ka kl kc]/\IntV wr (.agg #[.bool kn,.slice ka kl kc]) k/\RowsO wr base (.slice oo on oc) C bs (genM R C (addFu F i j k c))) (fun cv _=>C - (intOf cv).toNat)
 case atStart=>exact ⟨0,by omega,rfl,hO,T3,T4,T5,hk0,ho⟩
 case round=>
  obtain ⟨c,hc,rfl,hO,T3,T4,T5,hkw,ho⟩:=hrel
  by_cases hlt : c < C
  ·obtain ⟨g,bi,rfl,hg,hbi,hbi2,o1,ho3⟩:=ho.at_ (i:=i) oM
   obtain ⟨g',bj,hgg,hg',hbj,hbj2,o2,-⟩:=ho.at_ (i:=j) oM
   obtain rfl : g = g':=by injection hgg with hgg; injection hgg
   have hon : i < on/\j < on:=by omega
   obtain ⟨hion,hjon⟩:=hon
   obtain ⟨xs,xa,xl,xc,p1,p2,-,-,hx⟩:=ho.cellAt hbi hlt
   obtain ⟨ys,ya,yl,yc,q1,q2,-,-,hy⟩:=ho.cellAt hbj hlt
   rw [ent_genM hi hlt] at hx
   rw [ent_genM hj hlt] at hy
   have e1 : addFu F i j k c i c = F i c:=by unfold addFu; rw [if_neg oM]
   have e2 : addFu F i j k c j c = F j c:=by unfold addFu; rw [if_neg (fun h=>HIJ h.1.symm)]
   rw [e1] at hx
   rw [e2] at hy
   obtain ⟨f1,f2,f3,f4,f5,f6⟩:=T3.three
   obtain ⟨d1,d2,d3,d4⟩:=T4.two
   obtain ⟨k1,k2,k3,k4⟩:=T5.two
   have lt3:=T3.lt
   have lt4:=T4.lt
   have lt5:=T5.lt
   have HO3:=Lib.hid ho3
   have HZ:=HidS.mk (HS.out i hi c hlt)
   have HZ2:=HidS.mk (HS.out j hj c hlt)
   clear ho3 hgg e1 e2
   go_upto_region 4 with (fail)
   refine wp_region_headed 29 rfl (RI wr (wr.heap.size) _ 45
     [⟨0,13,fun _ v=>v = .pointer (some ⟨w.heap.size,2,none⟩)⟩,⟨1,14,fun _ v=>v = .slice (some ⟨g,0,none⟩) on oc⟩,⟨2,15,fun _ v=>v = .pointer (some ⟨w.heap.size + 1,0,none⟩)⟩,⟨3,16,fun _ v=>v = .int .i64 i⟩,⟨4,17,fun _ v=>v = .pointer (some ⟨g,i,none⟩)⟩,⟨5,18,fun _ v=>v = .slice (some ⟨bi,0,none⟩) C C⟩,⟨6,19,fun _ v=>v = .int .i64 c⟩,⟨7,20,fun _ v=>v = .pointer (some ⟨w.heap.size,2,none⟩)⟩,⟨8,21,fun _ v=>v = .slice (some ⟨g,0,none⟩) on oc⟩,⟨9,22,fun _ v=>v = .pointer (some ⟨w.heap.size + 1,0,none⟩)⟩,⟨10,23,fun _ v=>v = .int .i64 i⟩,⟨11,24,fun _ v=>v = .pointer (some ⟨g,i,none⟩)⟩,⟨12,25,fun _ v=>v = .slice (some ⟨bi,0,none⟩) C C⟩,⟨13,26,fun _ v=>v = .int .i64 c⟩,⟨14,27,fun _ v=>v = .pointer (some ⟨bi,c * 2,none⟩)⟩,⟨15,28,fun _ v=>v = .agg #[.bool xs,.slice xa xl xc]⟩,⟨16,29,fun _ v=>v = .agg #[.bool kn,.slice ka kl kc]⟩,⟨17,30,fun _ v=>v = .pointer (some ⟨w.heap.size,2,none⟩)⟩,⟨18,31,fun _ v=>v = .slice (some ⟨g,0,none⟩) on oc⟩,⟨19,32,fun _ v=>v = .pointer (some ⟨w.heap.size + 1,1,none⟩)⟩,⟨20,33,fun _ v=>v = .int .i64 j⟩,⟨21,34,fun _ v=>v = .pointer (some ⟨g,j,none⟩)⟩,⟨22,35,fun _ v=>v = .slice (some ⟨bj,0,none⟩) C C⟩,⟨23,36,fun _ v=>v = .int .i64 c⟩,⟨24,37,fun _ v=>v = .pointer (some ⟨bj,c * 2,none⟩)⟩,⟨25,38,fun _ v=>v = .agg #[.bool ys,.slice ya yl yc]⟩,⟨26,39,fun w v=>IntV w v (k * F j c)⟩,⟨27,40,fun w v=>IntV w v (F i c + k * F j c)⟩,⟨28,41,fun _ v=>v = .pointer (some ⟨bi,c * 2,none⟩)⟩]
     [] []) kR RI.start ?fin1 ?steps1
   case steps1=>
    refine ⟨?_,?_,?_,?_,?_,?_,?_,?_,?_,?_,?_,?_,?_,?_,?_,?_,?_,?_,?_,?_,?_,?_,?_,?_,?_,?_,?_,?_,?_,trivial⟩ <;> (intro L T wS hL hd hcl hI K hK; try refine step_wanted rfl ?_)
    ·have zt : T[3]? = some (.pointer (some ⟨w.heap.size,0,none⟩)):=hI.keep 3 sI sI
     go_simp
     exact hK _ _ (hI.y mm0 rfl)
    ·obtain ⟨v0,zt0,rfl⟩:=hI.v mm0 (hd 0)
     have cc0:=hI.cell f3 oM nom
     go_simp
     exact hK _ _ (hI.y mm1 rfl)
    ·have zt : T[4]? = some (.pointer (some ⟨w.heap.size + 1,0,none⟩)):=hI.keep 4 sI sI
     go_simp
     exact hK _ _ (hI.y mm2 rfl)
    ·obtain ⟨v2,zt2,rfl⟩:=hI.v mm2 (hd 2)
     have cc0:=hI.cell d1 oM nom
     go_simp
     exact hK _ _ (hI.y mm3 rfl)
    ·obtain ⟨v1,zt1,rfl⟩:=hI.v mm1 (hd 1)
     obtain ⟨v3,zt3,rfl⟩:=hI.v mm3 (hd 3)
     go_simp
     exact hK _ _ (hI.y mm4 rfl)
    ·obtain ⟨v4,zt4,rfl⟩:=hI.v mm4 (hd 4)
     have cc0:=hI.cell o1 oM nom
     go_simp
     exact hK _ _ (hI.y mm5 rfl)
    ·have zt : T[6]? = some (.int .i64 c):=hI.keep 6 sI sI
     go_simp
     exact hK _ _ (hI.y mm6 rfl)
    ·have zt : T[3]? = some (.pointer (some ⟨w.heap.size,0,none⟩)):=hI.keep 3 sI sI
     go_simp
     exact hK _ _ (hI.y mm7 rfl)
    ·obtain ⟨v7,zt7,rfl⟩:=hI.v mm7 (hd 7)
     have cc0:=hI.cell f3 oM nom
     go_simp
     exact hK _ _ (hI.y mm8 rfl)
    ·have zt : T[4]? = some (.pointer (some ⟨w.heap.size + 1,0,none⟩)):=hI.keep 4 sI sI
     go_simp
     exact hK _ _ (hI.y mm9 rfl)
    ·obtain ⟨v9,zt9,rfl⟩:=hI.v mm9 (hd 9)
     have cc0:=hI.cell d1 oM nom
     go_simp
     exact hK _ _ (hI.y mm10 rfl)
    ·obtain ⟨v8,zt8,rfl⟩:=hI.v mm8 (hd 8)
     obtain ⟨v10,zt10,rfl⟩:=hI.v mm10 (hd 10)
     go_simp
     exact hK _ _ (hI.y mm11 rfl)
    ·obtain ⟨v11,zt11,rfl⟩:=hI.v mm11 (hd 11)
     have cc0:=hI.cell o1 oM nom
     go_simp
     exact hK _ _ (hI.y mm12 rfl)
    ·have zt : T[6]? = some (.int .i64 c):=hI.keep 6 sI sI
     go_simp
     exact hK _ _ (hI.y mm13 rfl)
    ·obtain ⟨v12,zt12,rfl⟩:=hI.v mm12 (hd 12)
     obtain ⟨v13,zt13,rfl⟩:=hI.v mm13 (hd 13)
     go_simp
     exact hK _ _ (hI.y mm14 rfl)
    ·obtain ⟨v14,zt14,rfl⟩:=hI.v mm14 (hd 14)
     have cc0:=hI.cell p1 oM nom
     have cc1:=hI.cell p2 oM nom
     go_simp
     exact hK _ _ (hI.y mm15 rfl)
    ·have zt : T[5]? = some (.pointer (some ⟨w.heap.size + 1 + 1,0,none⟩)):=hI.keep 5 sI sI
     have cc0:=hI.cell k1 oM nom
     have cc1:=hI.cell k2 oM nom
     go_simp
     exact hK _ _ (hI.y mm16 rfl)
    ·have zt : T[3]? = some (.pointer (some ⟨w.heap.size,0,none⟩)):=hI.keep 3 sI sI
     go_simp
     exact hK _ _ (hI.y mm17 rfl)
    ·obtain ⟨v17,zt17,rfl⟩:=hI.v mm17 (hd 17)
     have cc0:=hI.cell f3 oM nom
     go_simp
     exact hK _ _ (hI.y mm18 rfl)
    ·have zt : T[4]? = some (.pointer (some ⟨w.heap.size + 1,0,none⟩)):=hI.keep 4 sI sI
     go_simp
     exact hK _ _ (hI.y mm19 rfl)
    ·obtain ⟨v19,zt19,rfl⟩:=hI.v mm19 (hd 19)
     have cc0:=hI.cell d2 oM nom
     go_simp
     exact hK _ _ (hI.y mm20 rfl)
    ·obtain ⟨v18,zt18,rfl⟩:=hI.v mm18 (hd 18)
     obtain ⟨v20,zt20,rfl⟩:=hI.v mm20 (hd 20)
     go_simp
     exact hK _ _ (hI.y mm21 rfl)
    ·obtain ⟨v21,zt21,rfl⟩:=hI.v mm21 (hd 21)
     have cc0:=hI.cell o2 oM nom
     go_simp
     exact hK _ _ (hI.y mm22 rfl)
    ·have zt : T[6]? = some (.int .i64 c):=hI.keep 6 sI sI
     go_simp
     exact hK _ _ (hI.y mm23 rfl)
    ·obtain ⟨v22,zt22,rfl⟩:=hI.v mm22 (hd 22)
     obtain ⟨v23,zt23,rfl⟩:=hI.v mm23 (hd 23)
     go_simp
     exact hK _ _ (hI.y mm24 rfl)
    ·obtain ⟨v24,zt24,rfl⟩:=hI.v mm24 (hd 24)
     have cc0:=hI.cell q1 oM nom
     have cc1:=hI.cell q2 oM nom
     go_simp
     exact hK _ _ (hI.y mm25 rfl)
    ·obtain ⟨v16,zt16,rfl⟩:=hI.v mm16 (hd 16)
     obtain ⟨v25,zt25,rfl⟩:=hI.v mm25 (hd 25)
     go_simp
     refine (r1mul_any _ _ k (F j c) _ (hkw.ext hI.lext) (hy.ext hI.lext) HK.out HZ2.out.1).mono ?_
     rintro e wa ⟨v,rfl,hv,hba⟩
     exact hK _ _ ((hI.world hba).y mm26 hv)
    ·obtain ⟨v15,zt15,rfl⟩:=hI.v mm15 (hd 15)
     obtain ⟨v26,zt26,h26⟩:=hI.v mm26 (hd 26)
     go_simp
     refine (r1add_any _ _ (F i c) (k * F j c) _ (hx.ext hI.lext) h26 HZ.out.1 HZ2.out.2).mono ?_
     rintro e wa ⟨v,rfl,hv,hba⟩
     exact hK _ _ ((hI.world hba).y mm27 hv)
    ·obtain ⟨v5,zt5,rfl⟩:=hI.v mm5 (hd 5)
     obtain ⟨v6,zt6,rfl⟩:=hI.v mm6 (hd 6)
     go_simp
     exact hK _ _ (hI.y mm28 rfl)
   intro T w9 hI
   obtain ⟨va0,q0,rfl⟩:=hI.v mm0 rfl
   obtain ⟨va1,q1,rfl⟩:=hI.v mm1 rfl
   obtain ⟨va2,q2,rfl⟩:=hI.v mm2 rfl
   obtain ⟨va3,q3,rfl⟩:=hI.v mm3 rfl
   obtain ⟨va4,q4,rfl⟩:=hI.v mm4 rfl
   obtain ⟨va5,q5,rfl⟩:=hI.v mm5 rfl
   obtain ⟨va6,q6,rfl⟩:=hI.v mm6 rfl
   obtain ⟨va7,q7,rfl⟩:=hI.v mm7 rfl
   obtain ⟨va8,q8,rfl⟩:=hI.v mm8 rfl
   obtain ⟨va9,q9,rfl⟩:=hI.v mm9 rfl
   obtain ⟨va10,q10,rfl⟩:=hI.v mm10 rfl
   obtain ⟨va11,q11,rfl⟩:=hI.v mm11 rfl
   obtain ⟨va12,q12,rfl⟩:=hI.v mm12 rfl
   obtain ⟨va13,q13,rfl⟩:=hI.v mm13 rfl
   obtain ⟨va14,q14,rfl⟩:=hI.v mm14 rfl
   obtain ⟨va15,q15,rfl⟩:=hI.v mm15 rfl
   obtain ⟨va16,q16,rfl⟩:=hI.v mm16 rfl
   obtain ⟨va17,q17,rfl⟩:=hI.v mm17 rfl
   obtain ⟨va18,q18,rfl⟩:=hI.v mm18 rfl
   obtain ⟨va19,q19,rfl⟩:=hI.v mm19 rfl
   obtain ⟨va20,q20,rfl⟩:=hI.v mm20 rfl
   obtain ⟨va21,q21,rfl⟩:=hI.v mm21 rfl
   obtain ⟨va22,q22,rfl⟩:=hI.v mm22 rfl
   obtain ⟨va23,q23,rfl⟩:=hI.v mm23 rfl
   obtain ⟨va24,q24,rfl⟩:=hI.v mm24 rfl
   obtain ⟨va25,q25,rfl⟩:=hI.v mm25 rfl
   obtain ⟨va26,q26,ha26⟩:=hI.v mm26 rfl
   replace ha26 : IntV w9 va26 (k * F j c):=ha26
   obtain ⟨va27,q27,ha27⟩:=hI.v mm27 rfl
   replace ha27 : IntV w9 va27 (F i c + k * F j c):=ha27
   obtain ⟨va28,q28,rfl⟩:=hI.v mm28 rfl
   have hT:=tmps_set [(13,.pointer (some ⟨w.heap.size,2,none⟩)),(14,.slice (some ⟨g,0,none⟩) on oc),(15,.pointer (some ⟨w.heap.size + 1,0,none⟩)),(16,.int .i64 i),(17,.pointer (some ⟨g,i,none⟩)),(18,.slice (some ⟨bi,0,none⟩) C C),(19,.int .i64 c),(20,.pointer (some ⟨w.heap.size,2,none⟩)),(21,.slice (some ⟨g,0,none⟩) on oc),(22,.pointer (some ⟨w.heap.size + 1,0,none⟩)),(23,.int .i64 i),(24,.pointer (some ⟨g,i,none⟩)),(25,.slice (some ⟨bi,0,none⟩) C C),(26,.int .i64 c),(27,.pointer (some ⟨bi,c * 2,none⟩)),(28,.agg #[.bool xs,.slice xa xl xc]),(29,.agg #[.bool kn,.slice ka kl kc]),(30,.pointer (some ⟨w.heap.size,2,none⟩)),(31,.slice (some ⟨g,0,none⟩) on oc),(32,.pointer (some ⟨w.heap.size + 1,1,none⟩)),(33,.int .i64 j),(34,.pointer (some ⟨g,j,none⟩)),(35,.slice (some ⟨bj,0,none⟩) C C),(36,.int .i64 c),(37,.pointer (some ⟨bj,c * 2,none⟩)),(38,.agg #[.bool ys,.slice ya yl yc]),(39,va26),(40,va27),(41,.pointer (some ⟨bi,c * 2,none⟩))]
    (fun j hj=>hI.keep j (by simp only [List.forall_mem_cons] at hj ⊢; simp [hj]) (by simp only [List.forall_mem_cons] at hj ⊢; simp [hj]))
    (by simp only [List.forall_mem_cons]; simp [q0,q1,q2,q3,q4,q5,q6,q7,q8,q9,q10,q11,q12,q13,q14,q15,q16,q17,q18,q19,q20,q21,q22,q23,q24,q25,q26,q27,q28]) hI.size
   have hlw9:=hI.lext
   have hbw9:=hI.bel (wr.heap.size) oM nom
   have holdw9:=hI.old
   clear hI
   simp only [List.foldl_cons,List.foldl_nil,List.setIfInBounds_toArray,List.set_cons_zero,List.set_cons_succ,ptr] at hT
   subst hT
   clear q0 q1 q2 q3 q4 q5 q6 q7 q8 q9 q10 q11 q12 q13 q14 q15 q16 q17 q18 q19 q20 q21 q22 q23 q24 q25 q26 q27 q28
   simp only [List.drop_succ_cons,List.drop_zero]
   obtain ⟨pn,pa,pl,pc,px,rfl,hpx⟩:=id ha27
   have HPX:=Lib.hid hpx
   clear hpx
   have ho9:=ho.below hbw9
   obtain ⟨sn,sa,sl,sc,z1,z2,z3,z4,-⟩:=ho9.cellAt hbi hlt
   have hbolt:=hlts i bi hbi
   have hset:=ho9.set hbi hlt ha27
   have hO9:=hO.trans (Only.of bs hbw9)
   have hk9:=hkw.ext (lx hbw9)
   have hmem : bi ∈ bs:=List.mem_of_getElem? hbi
   clear p1 p2 q1 q2
   go_wp2
   go_roundw
   case rel=>
    have hq : setM (genM R C (addFu F i j k c)) i c (F i c + k * F j c) = genM R C (addFu F i j k (c + 1)):=by
     rw [setM_genM _ hi hlt]
     exact genM_congr fun a _ b _=>by
      unfold addFu
      by_cases h1 : a = i/\b = c
      ·obtain ⟨rfl,rfl⟩:=h1
       rw [if_pos ⟨rfl,rfl⟩,if_pos oM]
      ·rw [if_neg h1]
       by_cases h2 : a = i/\b < c
       ·rw [if_pos h2,if_pos oM]
       ·rw [if_neg h2,if_neg oM]
    rw [hq] at hset
    exact ⟨c + 1,by omega,by simp,hO9.trans (Only.bset2 hmem hset.2.1),(set2_old _ _ _ _ _ _ _ oM).trans (T3.below hbw9),(set2_old _ _ _ _ _ _ _ oM).trans (T4.below hbw9),(set2_old _ _ _ _ _ _ _ oM).trans (T5.below hbw9),hk9.ext hset.2.1,hset.1⟩
   case measure=>simp [intOf]; omega
  ·obtain rfl : c = C:=by omega
   have hq : genM R c (addFu F i j k c) = genM R c (addF F i j k):=genM_congr fun a _ b hb=>by
    unfold addFu addF
    by_cases h1 : a = i
    ·rw [if_pos ⟨h1,hb⟩,if_pos h1]
    ·rw [if_neg (fun h=>h1 h.1),if_neg h1]
   rw [hq] at ho
   obtain ⟨f1,f2,f3,f4,f5,f6⟩:=T3.three
   obtain ⟨d1,d2,d3,d4⟩:=T4.two
   obtain ⟨k1,k2,k3,k4⟩:=T5.two
   have lt3:=T3.lt
   have lt4:=T4.lt
   have lt5:=T5.lt
   go_wp2
   exact bodyPost_end (results_none rfl _ _ _) rfl ⟨⟨_,rfl⟩,hO,ho⟩
set_option maxHeartbeats 4000000 in
set_option maxRecDepth 20000 in
theorem combineColumns_any (A kv : Value) (R C i j base : Nat) (bs : List Nat) (F : Nat->Nat->Int) (k : Int) (w : World) (h : RowsO w base A C bs (genM R C F)) (hbl : bs.length = R) (hi : i < C) (hj : j < C) (hij : i ≠ j) (hk : IntV w kv k) (hR : R<=1000000) (hC : C<=1000000)
  (hS : ∀a,a < R->∀b,b < C->Sm (F a b)/\Sm (k * F a b)) (hks : Sm k) :
  Calls Tryz.prog 82 #[.agg #[.int .i64 R,.int .i64 C,A],.agg #[.int .i64 i,.int .i64 j],kv] w fun e w'=>(∃u,e = .returned u)/\Only bs w w'/\RowsO w' base A C bs (genM R C (addC F i j k)):=by
 have HS:=HidS.mk hS
 have HK:=HidS.mk hks
 obtain ⟨kn,ka,kl,kc,kx,rfl,hkx⟩:=id hk
 have HKX:=Lib.hid hkx
 obtain ⟨oo,on,oc,rfl,-,-,-,-⟩:=id h.rows
 have hlts:=h.lts
 have HIJ:=Lib.hid hij
 clear hS hks hkx hij
 go_enter Tryz.func82,Tryz.ntmps82
 go_upto_region 1 with (fail)
 refine wp_world ?_
 intro W0 hW0
 obtain ⟨hB0,T3,T4,T5,hs0⟩:=world3 hW0
 have ho:=h.below hB0
 have hk0:=hk.ext (lx hB0)
 have hO:=Only.of bs hB0
 have hst : genM R C F = genM R C (addCu F i j k 0):=genM_congr fun a _ b _=>by unfold addCu; rw [if_neg oM]
 rw [hst] at ho
 clear hW0 hst
 go_wp2
 go_loopw [6] (fun cv wr=>∃c : Nat,c<=R/\cv = .int .i64 c/\Only bs w wr/\Blk wr w.heap.size 28 #[.int .i64 R,.int .i64 C,.slice oo on oc]/\Blk wr (w.heap.size + 1) 86 #[.int .i64 i,.int .i64 j]/\Blk wr (w.heap.size + 1 + 1) 45 #[.bool kn,.slice ka kl kc]/\IntV wr (.agg #[.bool kn,.slice ka kl kc]) k/\RowsO wr base (.slice oo on oc) C bs (genM R C (addCu F i j k c))) (fun cv _=>R - (intOf cv).toNat)
 case atStart=>exact ⟨0,by omega,rfl,hO,T3,T4,T5,hk0,ho⟩
 case round=>
  obtain ⟨c,hc,rfl,hO,T3,T4,T5,hkw,ho⟩:=hrel
  by_cases hlt : c < R
  ·obtain ⟨g,bi,rfl,hg,hbi,hbi2,o1,ho3⟩:=ho.at_ (i:=c) oM
   have hion : c < on:=by omega
   obtain ⟨xs,xa,xl,xc,p1,p2,-,-,hx⟩:=ho.cellAt hbi hi
   obtain ⟨ys,ya,yl,yc,q1,q2,-,-,hy⟩:=ho.cellAt hbi hj
   rw [ent_genM hlt hi] at hx
   rw [ent_genM hlt hj] at hy
   have e1 : addCu F i j k c c i = F c i:=by unfold addCu; rw [if_neg oM]
   have e2 : addCu F i j k c c j = F c j:=by unfold addCu; rw [if_neg (fun h=>HIJ h.1.symm)]
   rw [e1] at hx
   rw [e2] at hy
   obtain ⟨f1,f2,f3,f4,f5,f6⟩:=T3.three
   obtain ⟨d1,d2,d3,d4⟩:=T4.two
   obtain ⟨k1,k2,k3,k4⟩:=T5.two
   have lt3:=T3.lt
   have lt4:=T4.lt
   have lt5:=T5.lt
   have HO3:=Lib.hid ho3
   have HZ:=HidS.mk (HS.out c hlt i hi)
   have HZ2:=HidS.mk (HS.out c hlt j hj)
   clear ho3 e1 e2
   go_upto_region 4 with (fail)
   refine wp_region_headed 29 rfl (RI wr (wr.heap.size) _ 45
     [⟨0,13,fun _ v=>v = .pointer (some ⟨w.heap.size,2,none⟩)⟩,⟨1,14,fun _ v=>v = .slice (some ⟨g,0,none⟩) on oc⟩,⟨2,15,fun _ v=>v = .int .i64 c⟩,⟨3,16,fun _ v=>v = .pointer (some ⟨g,c,none⟩)⟩,⟨4,17,fun _ v=>v = .slice (some ⟨bi,0,none⟩) C C⟩,⟨5,18,fun _ v=>v = .pointer (some ⟨w.heap.size + 1,0,none⟩)⟩,⟨6,19,fun _ v=>v = .int .i64 i⟩,⟨7,20,fun _ v=>v = .pointer (some ⟨w.heap.size,2,none⟩)⟩,⟨8,21,fun _ v=>v = .slice (some ⟨g,0,none⟩) on oc⟩,⟨9,22,fun _ v=>v = .int .i64 c⟩,⟨10,23,fun _ v=>v = .pointer (some ⟨g,c,none⟩)⟩,⟨11,24,fun _ v=>v = .slice (some ⟨bi,0,none⟩) C C⟩,⟨12,25,fun _ v=>v = .pointer (some ⟨w.heap.size + 1,0,none⟩)⟩,⟨13,26,fun _ v=>v = .int .i64 i⟩,⟨14,27,fun _ v=>v = .pointer (some ⟨bi,i * 2,none⟩)⟩,⟨15,28,fun _ v=>v = .agg #[.bool xs,.slice xa xl xc]⟩,⟨16,29,fun _ v=>v = .agg #[.bool kn,.slice ka kl kc]⟩,⟨17,30,fun _ v=>v = .pointer (some ⟨w.heap.size,2,none⟩)⟩,⟨18,31,fun _ v=>v = .slice (some ⟨g,0,none⟩) on oc⟩,⟨19,32,fun _ v=>v = .int .i64 c⟩,⟨20,33,fun _ v=>v = .pointer (some ⟨g,c,none⟩)⟩,⟨21,34,fun _ v=>v = .slice (some ⟨bi,0,none⟩) C C⟩,⟨22,35,fun _ v=>v = .pointer (some ⟨w.heap.size + 1,1,none⟩)⟩,⟨23,36,fun _ v=>v = .int .i64 j⟩,⟨24,37,fun _ v=>v = .pointer (some ⟨bi,j * 2,none⟩)⟩,⟨25,38,fun _ v=>v = .agg #[.bool ys,.slice ya yl yc]⟩,⟨26,39,fun w v=>IntV w v (k * F c j)⟩,⟨27,40,fun w v=>IntV w v (F c i + k * F c j)⟩,⟨28,41,fun _ v=>v = .pointer (some ⟨bi,i * 2,none⟩)⟩]
     [] []) kR RI.start ?fin2 ?steps2
   case steps2=>
    refine ⟨?_,?_,?_,?_,?_,?_,?_,?_,?_,?_,?_,?_,?_,?_,?_,?_,?_,?_,?_,?_,?_,?_,?_,?_,?_,?_,?_,?_,?_,trivial⟩ <;> (intro L T wS hL hd hcl hI K hK; try refine step_wanted rfl ?_)
    ·have zt : T[3]? = some (.pointer (some ⟨w.heap.size,0,none⟩)):=hI.keep 3 sI sI
     go_simp
     exact hK _ _ (hI.y mm0 rfl)
    ·obtain ⟨v0,zt0,rfl⟩:=hI.v mm0 (hd 0)
     have cc0:=hI.cell f3 oM nom
     go_simp
     exact hK _ _ (hI.y mm1 rfl)
    ·have zt : T[6]? = some (.int .i64 c):=hI.keep 6 sI sI
     go_simp
     exact hK _ _ (hI.y mm2 rfl)
    ·obtain ⟨v1,zt1,rfl⟩:=hI.v mm1 (hd 1)
     obtain ⟨v2,zt2,rfl⟩:=hI.v mm2 (hd 2)
     go_simp
     exact hK _ _ (hI.y mm3 rfl)
    ·obtain ⟨v3,zt3,rfl⟩:=hI.v mm3 (hd 3)
     have cc0:=hI.cell o1 oM nom
     go_simp
     exact hK _ _ (hI.y mm4 rfl)
    ·have zt : T[4]? = some (.pointer (some ⟨w.heap.size + 1,0,none⟩)):=hI.keep 4 sI sI
     go_simp
     exact hK _ _ (hI.y mm5 rfl)
    ·obtain ⟨v5,zt5,rfl⟩:=hI.v mm5 (hd 5)
     have cc0:=hI.cell d1 oM nom
     go_simp
     exact hK _ _ (hI.y mm6 rfl)
    ·have zt : T[3]? = some (.pointer (some ⟨w.heap.size,0,none⟩)):=hI.keep 3 sI sI
     go_simp
     exact hK _ _ (hI.y mm7 rfl)
    ·obtain ⟨v7,zt7,rfl⟩:=hI.v mm7 (hd 7)
     have cc0:=hI.cell f3 oM nom
     go_simp
     exact hK _ _ (hI.y mm8 rfl)
    ·have zt : T[6]? = some (.int .i64 c):=hI.keep 6 sI sI
     go_simp
     exact hK _ _ (hI.y mm9 rfl)
    ·obtain ⟨v8,zt8,rfl⟩:=hI.v mm8 (hd 8)
     obtain ⟨v9,zt9,rfl⟩:=hI.v mm9 (hd 9)
     go_simp
     exact hK _ _ (hI.y mm10 rfl)
    ·obtain ⟨v10,zt10,rfl⟩:=hI.v mm10 (hd 10)
     have cc0:=hI.cell o1 oM nom
     go_simp
     exact hK _ _ (hI.y mm11 rfl)
    ·have zt : T[4]? = some (.pointer (some ⟨w.heap.size + 1,0,none⟩)):=hI.keep 4 sI sI
     go_simp
     exact hK _ _ (hI.y mm12 rfl)
    ·obtain ⟨v12,zt12,rfl⟩:=hI.v mm12 (hd 12)
     have cc0:=hI.cell d1 oM nom
     go_simp
     exact hK _ _ (hI.y mm13 rfl)
    ·obtain ⟨v11,zt11,rfl⟩:=hI.v mm11 (hd 11)
     obtain ⟨v13,zt13,rfl⟩:=hI.v mm13 (hd 13)
     go_simp
     exact hK _ _ (hI.y mm14 rfl)
    ·obtain ⟨v14,zt14,rfl⟩:=hI.v mm14 (hd 14)
     have cc0:=hI.cell p1 oM nom
     have cc1:=hI.cell p2 oM nom
     go_simp
     exact hK _ _ (hI.y mm15 rfl)
    ·have zt : T[5]? = some (.pointer (some ⟨w.heap.size + 1 + 1,0,none⟩)):=hI.keep 5 sI sI
     have cc0:=hI.cell k1 oM nom
     have cc1:=hI.cell k2 oM nom
     go_simp
     exact hK _ _ (hI.y mm16 rfl)
    ·have zt : T[3]? = some (.pointer (some ⟨w.heap.size,0,none⟩)):=hI.keep 3 sI sI
     go_simp
     exact hK _ _ (hI.y mm17 rfl)
    ·obtain ⟨v17,zt17,rfl⟩:=hI.v mm17 (hd 17)
     have cc0:=hI.cell f3 oM nom
     go_simp
     exact hK _ _ (hI.y mm18 rfl)
    ·have zt : T[6]? = some (.int .i64 c):=hI.keep 6 sI sI
     go_simp
     exact hK _ _ (hI.y mm19 rfl)
    ·obtain ⟨v18,zt18,rfl⟩:=hI.v mm18 (hd 18)
     obtain ⟨v19,zt19,rfl⟩:=hI.v mm19 (hd 19)
     go_simp
     exact hK _ _ (hI.y mm20 rfl)
    ·obtain ⟨v20,zt20,rfl⟩:=hI.v mm20 (hd 20)
     have cc0:=hI.cell o1 oM nom
     go_simp
     exact hK _ _ (hI.y mm21 rfl)
    ·have zt : T[4]? = some (.pointer (some ⟨w.heap.size + 1,0,none⟩)):=hI.keep 4 sI sI
     go_simp
     exact hK _ _ (hI.y mm22 rfl)
    ·obtain ⟨v22,zt22,rfl⟩:=hI.v mm22 (hd 22)
     have cc0:=hI.cell d2 oM nom
     go_simp
     exact hK _ _ (hI.y mm23 rfl)
    ·obtain ⟨v21,zt21,rfl⟩:=hI.v mm21 (hd 21)
     obtain ⟨v23,zt23,rfl⟩:=hI.v mm23 (hd 23)
     go_simp
     exact hK _ _ (hI.y mm24 rfl)
    ·obtain ⟨v24,zt24,rfl⟩:=hI.v mm24 (hd 24)
     have cc0:=hI.cell q1 oM nom
     have cc1:=hI.cell q2 oM nom
     go_simp
     exact hK _ _ (hI.y mm25 rfl)
    ·obtain ⟨v16,zt16,rfl⟩:=hI.v mm16 (hd 16)
     obtain ⟨v25,zt25,rfl⟩:=hI.v mm25 (hd 25)
     go_simp
     refine (r1mul_any _ _ k (F c j) _ (hkw.ext hI.lext) (hy.ext hI.lext) HK.out HZ2.out.1).mono ?_
     rintro e wa ⟨v,rfl,hv,hba⟩
     exact hK _ _ ((hI.world hba).y mm26 hv)
    ·obtain ⟨v15,zt15,rfl⟩:=hI.v mm15 (hd 15)
     obtain ⟨v26,zt26,h26⟩:=hI.v mm26 (hd 26)
     go_simp
     refine (r1add_any _ _ (F c i) (k * F c j) _ (hx.ext hI.lext) h26 HZ.out.1 HZ2.out.2).mono ?_
     rintro e wa ⟨v,rfl,hv,hba⟩
     exact hK _ _ ((hI.world hba).y mm27 hv)
    ·obtain ⟨v4,zt4,rfl⟩:=hI.v mm4 (hd 4)
     obtain ⟨v6,zt6,rfl⟩:=hI.v mm6 (hd 6)
     go_simp
     exact hK _ _ (hI.y mm28 rfl)
   intro T w9 hI
   obtain ⟨va0,q0,rfl⟩:=hI.v mm0 rfl
   obtain ⟨va1,q1,rfl⟩:=hI.v mm1 rfl
   obtain ⟨va2,q2,rfl⟩:=hI.v mm2 rfl
   obtain ⟨va3,q3,rfl⟩:=hI.v mm3 rfl
   obtain ⟨va4,q4,rfl⟩:=hI.v mm4 rfl
   obtain ⟨va5,q5,rfl⟩:=hI.v mm5 rfl
   obtain ⟨va6,q6,rfl⟩:=hI.v mm6 rfl
   obtain ⟨va7,q7,rfl⟩:=hI.v mm7 rfl
   obtain ⟨va8,q8,rfl⟩:=hI.v mm8 rfl
   obtain ⟨va9,q9,rfl⟩:=hI.v mm9 rfl
   obtain ⟨va10,q10,rfl⟩:=hI.v mm10 rfl
   obtain ⟨va11,q11,rfl⟩:=hI.v mm11 rfl
   obtain ⟨va12,q12,rfl⟩:=hI.v mm12 rfl
   obtain ⟨va13,q13,rfl⟩:=hI.v mm13 rfl
   obtain ⟨va14,q14,rfl⟩:=hI.v mm14 rfl
   obtain ⟨va15,q15,rfl⟩:=hI.v mm15 rfl
   obtain ⟨va16,q16,rfl⟩:=hI.v mm16 rfl
   obtain ⟨va17,q17,rfl⟩:=hI.v mm17 rfl
   obtain ⟨va18,q18,rfl⟩:=hI.v mm18 rfl
   obtain ⟨va19,q19,rfl⟩:=hI.v mm19 rfl
   obtain ⟨va20,q20,rfl⟩:=hI.v mm20 rfl
   obtain ⟨va21,q21,rfl⟩:=hI.v mm21 rfl
   obtain ⟨va22,q22,rfl⟩:=hI.v mm22 rfl
   obtain ⟨va23,q23,rfl⟩:=hI.v mm23 rfl
   obtain ⟨va24,q24,rfl⟩:=hI.v mm24 rfl
   obtain ⟨va25,q25,rfl⟩:=hI.v mm25 rfl
   obtain ⟨va26,q26,ha26⟩:=hI.v mm26 rfl
   replace ha26 : IntV w9 va26 (k * F c j):=ha26
   obtain ⟨va27,q27,ha27⟩:=hI.v mm27 rfl
   replace ha27 : IntV w9 va27 (F c i + k * F c j):=ha27
   obtain ⟨va28,q28,rfl⟩:=hI.v mm28 rfl
   have hT:=tmps_set [(13,.pointer (some ⟨w.heap.size,2,none⟩)),(14,.slice (some ⟨g,0,none⟩) on oc),(15,.int .i64 c),(16,.pointer (some ⟨g,c,none⟩)),(17,.slice (some ⟨bi,0,none⟩) C C),(18,.pointer (some ⟨w.heap.size + 1,0,none⟩)),(19,.int .i64 i),(20,.pointer (some ⟨w.heap.size,2,none⟩)),(21,.slice (some ⟨g,0,none⟩) on oc),(22,.int .i64 c),(23,.pointer (some ⟨g,c,none⟩)),(24,.slice (some ⟨bi,0,none⟩) C C),(25,.pointer (some ⟨w.heap.size + 1,0,none⟩)),(26,.int .i64 i),(27,.pointer (some ⟨bi,i * 2,none⟩)),(28,.agg #[.bool xs,.slice xa xl xc]),(29,.agg #[.bool kn,.slice ka kl kc]),(30,.pointer (some ⟨w.heap.size,2,none⟩)),(31,.slice (some ⟨g,0,none⟩) on oc),(32,.int .i64 c),(33,.pointer (some ⟨g,c,none⟩)),(34,.slice (some ⟨bi,0,none⟩) C C),(35,.pointer (some ⟨w.heap.size + 1,1,none⟩)),(36,.int .i64 j),(37,.pointer (some ⟨bi,j * 2,none⟩)),(38,.agg #[.bool ys,.slice ya yl yc]),(39,va26),(40,va27),(41,.pointer (some ⟨bi,i * 2,none⟩))]
    (fun j hj=>hI.keep j (by simp only [List.forall_mem_cons] at hj ⊢; simp [hj]) (by simp only [List.forall_mem_cons] at hj ⊢; simp [hj]))
    (by simp only [List.forall_mem_cons]; simp [q0,q1,q2,q3,q4,q5,q6,q7,q8,q9,q10,q11,q12,q13,q14,q15,q16,q17,q18,q19,q20,q21,q22,q23,q24,q25,q26,q27,q28]) hI.size
   have hlw9:=hI.lext
   have hbw9:=hI.bel (wr.heap.size) oM nom
   have holdw9:=hI.old
   clear hI
   simp only [List.foldl_cons,List.foldl_nil,List.setIfInBounds_toArray,List.set_cons_zero,List.set_cons_succ,ptr] at hT
   subst hT
   clear q0 q1 q2 q3 q4 q5 q6 q7 q8 q9 q10 q11 q12 q13 q14 q15 q16 q17 q18 q19 q20 q21 q22 q23 q24 q25 q26 q27 q28
   simp only [List.drop_succ_cons,List.drop_zero]
   obtain ⟨pn,pa,pl,pc,px,rfl,hpx⟩:=id ha27
   have HPX:=Lib.hid hpx
   clear hpx
   have ho9:=ho.below hbw9
   obtain ⟨sn,sa,sl,sc,z1,z2,z3,z4,-⟩:=ho9.cellAt hbi hi
   have hbolt:=hlts c bi hbi
   have hset:=ho9.set hbi hi ha27
   have hO9:=hO.trans (Only.of bs hbw9)
   have hk9:=hkw.ext (lx hbw9)
   have hmem : bi ∈ bs:=List.mem_of_getElem? hbi
   clear p1 p2 q1 q2
   go_wp2
   go_roundw
   case rel=>
    have hq : setM (genM R C (addCu F i j k c)) c i (F c i + k * F c j) = genM R C (addCu F i j k (c + 1)):=by
     rw [setM_genM _ hlt hi]
     exact genM_congr fun a _ b _=>by
      unfold addCu
      by_cases h1 : a = c/\b = i
      ·obtain ⟨rfl,rfl⟩:=h1
       rw [if_pos ⟨rfl,rfl⟩,if_pos oM]
      ·rw [if_neg h1]
       by_cases h2 : b = i/\a < c
       ·rw [if_pos h2,if_pos oM]
       ·rw [if_neg h2,if_neg oM]
    rw [hq] at hset
    exact ⟨c + 1,by omega,by simp,hO9.trans (Only.bset2 hmem hset.2.1),(set2_old _ _ _ _ _ _ _ oM).trans (T3.below hbw9),(set2_old _ _ _ _ _ _ _ oM).trans (T4.below hbw9),(set2_old _ _ _ _ _ _ _ oM).trans (T5.below hbw9),hk9.ext hset.2.1,hset.1⟩
   case measure=>simp [intOf]; omega
  ·obtain rfl : c = R:=by omega
   have hq : genM c C (addCu F i j k c) = genM c C (addC F i j k):=genM_congr fun a ha b _=>by
    unfold addCu addC
    by_cases h1 : b = i
    ·rw [if_pos ⟨h1,ha⟩,if_pos h1]
    ·rw [if_neg (fun h=>h1 h.1),if_neg h1]
   rw [hq] at ho
   obtain ⟨f1,f2,f3,f4,f5,f6⟩:=T3.three
   obtain ⟨d1,d2,d3,d4⟩:=T4.two
   obtain ⟨k1,k2,k3,k4⟩:=T5.two
   have lt3:=T3.lt
   have lt4:=T4.lt
   have lt5:=T5.lt
   go_wp2
   exact bodyPost_end (results_none rfl _ _ _) rfl ⟨⟨_,rfl⟩,hO,ho⟩
end Go.Proofs.YtnocgagoaldfnaaGreat
