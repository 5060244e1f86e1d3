/- torsionref05.Filled. torsionref05: Made, Square. The arguments of torsionlaw13's statements, opened. -/
import Derived.ChangeArms
import Derived.ProofKit
import Derived.OpenShut
import Derived.Test.YtnocgagoaldfnaaGreatB47
set_option linter.unusedVariables false
set_option linter.unusedSimpArgs false
set_option linter.unusedSectionVars false
namespace Go.Proofs.YtnocgagoaldfnaaGreat
open Go.RowKit
def I8V (w : World) (v : Value) (ls : List Int) : Prop:=
 ∃ao n cap,v = .slice ao n cap∧ls.length = n∧n≤cap∧cap≤9223372036854775807∧(∀z ∈ ls,-128≤z∧z≤127) ∧
  (ls ≠ []→∃b off,ao = some ⟨b,off,none⟩∧b < w.heap.size∧∀(k : Nat) (z : Int),ls[k]? = some z→w.cell? ⟨b,off + k,none⟩ = some (.int .i8 z))
theorem I8V.cell {w : World} {ao : Option Addr} {n cap : Nat} {ls : List Int} (h : I8V w (.slice ao n cap) ls) {k : Nat} (hk : k < ls.length) :
  ∃b off z,ao = some ⟨b,off,none⟩∧b < w.heap.size∧ls[k]? = some z∧w.cell? ⟨b,off + k,none⟩ = some (.int .i8 z)∧-128≤z∧z≤127:=by
 obtain ⟨ao',n',cap',h1,h2,h3,h4,h5,h6⟩:=h
 injection h1 with e1 e2 e3
 subst e1
 obtain ⟨b,off,e,hb,hc⟩:=h6 (by rintro rfl; simp at hk)
 have hz:=List.getElem?_eq_getElem hk
 have:=h5 _ (List.mem_of_getElem? hz)
 exact ⟨b,off,_,e,hb,hz,hc _ _ hz,this.1,this.2⟩
theorem I8V.below {w w' : World} {v : Value} {ls : List Int} (h : I8V w v ls) (hb : Below w.heap.size w w') : I8V w' v ls:=by
 obtain ⟨ao,n,cap,h1,h2,h3,h4,h5,h6⟩:=h
 refine ⟨ao,n,cap,h1,h2,h3,h4,h5,fun hne=>?_⟩
 obtain ⟨b,off,e,hlt,hc⟩:=h6 hne
 exact ⟨b,off,e,Nat.lt_of_lt_of_le hlt hb.size,fun k z hz=>(hb.cell (p:=⟨b,off + k,none⟩) hlt).trans (hc k z hz)⟩
def digF (C : Nat) (ls : List Int) : Nat→Nat→Int:=fun i j=>(ls.getD (i * C + j) 0).tmod 10
theorem digF_out {C : Nat} {ls : List Int} {i j : Nat} (h : ls.length≤i * C + j) : digF C ls i j = 0:=by
 unfold digF
 rw [List.getD_eq_getElem?_getD,List.getElem?_eq_none h]
 rfl
theorem tmod10 {z : Int} : (Int.tmod z 10).natAbs≤9:=by
 rcases Int.le_total 0 z with h | h
 ·rw [Int.tmod_eq_emod_of_nonneg h]; omega
 ·have : Int.tmod z 10 = -(Int.tmod (-z) 10):=by rw [Int.neg_tmod]; omega
  rw [this,Int.tmod_eq_emod_of_nonneg (by omega)]; omega
theorem digF_le (C : Nat) (ls : List Int) (i j : Nat) : (digF C ls i j).natAbs≤9:=tmod10
theorem upTo_rest {R C : Nat} {f : Nat→Nat→Int} {i j : Nat} (h : ∀b,j≤b→f i b = 0) : genM R C (upTo f i j) = genM R C (upTo f (i + 1) 0):=
 genM_congr fun a _ b _=>by
  unfold upTo
  by_cases e : a < i ∨ (a = i∧b < j)
  ·rw [if_pos e,if_pos (by omega)]
  ·rw [if_neg e]
   by_cases e2 : a < i + 1 ∨ a = i + 1∧b < 0
   ·rw [if_pos e2]
    obtain rfl : a = i:=by omega
    exact (h b (by omega)).symm
   ·rw [if_neg e2]
set_option maxHeartbeats 4000000 in
set_option maxRecDepth 20000 in
theorem filled_any (v : Value) (R C : Nat) (ls : List Int) (w : World) (h : I8V w v ls) (hR : R≤16) (hC : C≤16) :
  Calls Tryz.prog 44 #[.int .i64 R,.int .i64 C,v] w (RetMat w R C (genM R C (digF C ls))):=by
 obtain ⟨ao,n,cap,rfl,h2,h3,h4,-,-⟩:=id h
 have HL:=Lib.hid h2
 obtain ⟨f,hf⟩ : ∃f : Nat→Nat→Int,digF C ls = f:=⟨_,rfl⟩
 rw [hf]
 have HFE : HidS (∀i j,f i j = digF C ls i j):=⟨fun i j=>by rw [← hf]⟩
 clear hf h2
 go_enter Tryz.func44,Tryz.ntmps44
 go_upto_region 1 with (fail)
 refine wp_world ?_
 intro W0 hW0
 obtain ⟨hB0,br,hs0⟩:=world1 hW0
 have e1 : min (R : Int) 16 = R:=by omega
 have e2 : min (C : Int) 16 = C:=by omega
 go_wp2_with fail
 refine (r5new_any R C W0 (by omega) (by omega)).mono ?_
 rintro e w2 ⟨u,bs,rfl,⟨hbl,A2,rfl,ho⟩,hb2⟩
 obtain ⟨oo,on,oc,rfl,-,-,-,-⟩:=id ho.rows
 have hlts:=ho.lts
 go_upto_region 2 with (fail)
 refine wp_world ?_
 intro W3 hW3
 obtain ⟨hB3,T7,hs3⟩:=world1 hW3
 have br:=(br.below hb2).below hB3
 have ho:=ho.below hB3
 rw [upTo_start R C f] at ho
 have hBt:=nx (nx hB0 hb2) hB3
 have q2:=hb2.size
 clear hW3 hW0 e1 e2
 go_wp2
 go_loopw [8] (fun iv wr=>∃i : Nat,i≤R∧iv = .int .i64 i∧Below w.heap.size w wr∧Blk wr w.heap.size 28 #[.int .i64 0,.int .i64 0,.slice none 0 0]∧Blk wr w2.heap.size 28 #[.int .i64 R,.int .i64 C,.slice oo on oc]∧RowsO wr W0.heap.size (.slice oo on oc) C bs (genM R C (upTo f i 0))) (fun iv _=>R - (intOf iv).toNat)
 case atStart=>exact ⟨0,by omega,rfl,hBt,br,T7,ho⟩
 case round=>
  obtain ⟨i,hi,rfl,hb,br,T7,ho⟩:=hrel
  obtain ⟨f1,f2,f3,f4,f5,f6⟩:=T7.three
  by_cases hlt : i < R
  ·go_wp2
   clear f1 f2 f3 f4 f5 f6
   go_loopw [9] (fun jv wr=>∃j : Nat,j≤C∧jv = .int .i64 j∧Below w.heap.size w wr∧Blk wr w.heap.size 28 #[.int .i64 0,.int .i64 0,.slice none 0 0]∧Blk wr w2.heap.size 28 #[.int .i64 R,.int .i64 C,.slice oo on oc]∧RowsO wr W0.heap.size (.slice oo on oc) C bs (genM R C (upTo f i j))) (fun jv _=>C - (intOf jv).toNat)
   case atStart=>exact ⟨0,by omega,rfl,hb,br,T7,ho⟩
   case round=>
    obtain ⟨j,hj,rfl,hb,br,T7,ho⟩:=hrel
    obtain ⟨f1,f2,f3,f4,f5,f6⟩:=T7.three
    obtain ⟨m,hm⟩ : ∃m,i * C + j = m:=⟨_,rfl⟩
    have hmi : (i : Int) * (C : Int) + (j : Int) = (m : Int):=by rw [← hm,Int.natCast_add,Int.natCast_mul]
    have hiC : i * C≤16 * 16:=Nat.mul_le_mul (by omega) hC
    have hp0 : 0≤(i : Int) * (C : Int):=by rw [← Int.natCast_mul]; omega
    have hp1 : (i : Int) * (C : Int)≤1000000:=by rw [← Int.natCast_mul]; omega
    have hw1 : IntKind.i64.wrap ((i : Int) * (C : Int)) = (i : Int) * (C : Int):=IntWalk.i64_in _ (by omega)
    have hw2 : IntKind.i64.wrap (m : Int) = (m : Int):=IntWalk.i64_in _ (by omega)
    have hmm : IntKind.i64.wrap ((i : Int) * (C : Int) + (j : Int)) = (m : Int):=by rw [hmi,hw2]
    by_cases hjc : j < C
    ·by_cases hmn : m < n
     ·obtain ⟨b,off,z,rfl,hbl1,hz,c1,z1,z2⟩:=h.cell (k:=m) (by rw [HL.out]; exact hmn)
      have hcell:=(hb.cell (p:=⟨b,off + m,none⟩) hbl1).trans c1
      have hent : Hid (f i j = Int.tmod z 10):=Lib.hid (by rw [HFE.out]; unfold digF; rw [hm,getD_of hz])
      have ht9 : (Int.tmod z 10).natAbs≤9:=tmod10
      obtain ⟨t,ht⟩ : ∃t,Int.tmod z 10 = t:=⟨_,rfl⟩
      rw [ht] at hent ht9
      obtain ⟨g,bo,rfl,hg,hbo,hbo2,o1,ho3⟩:=ho.at_ (i:=i) (by omega)
      have hio : i < on:=by omega
      have HO3:=Lib.hid ho3
      have HM:=Lib.hid hm
      have HT:=HidS.mk ht
      have lt7:=T7.lt
      clear ho3 hm hz hiC c1 ht
      go_upto_region 8 with (fail)
      refine wp_region_headed 19 rfl (RI wr (wr.heap.size) _ 45
        [⟨0,40,fun _ v=>v = .pointer (some ⟨w2.heap.size,2,none⟩)⟩,⟨1,41,fun _ v=>v = .slice (some ⟨g,0,none⟩) on oc⟩,⟨2,42,fun _ v=>v = .int .i64 i⟩,⟨3,43,fun _ v=>v = .pointer (some ⟨g,i,none⟩)⟩,⟨4,44,fun _ v=>v = .slice (some ⟨bo,0,none⟩) C C⟩,⟨5,45,fun _ v=>v = .int .i64 j⟩,⟨6,46,fun _ v=>v = .slice (some ⟨b,off,none⟩) n cap⟩,⟨7,47,fun _ v=>v = .int .i64 i⟩,⟨8,48,fun _ v=>v = .pointer (some ⟨w2.heap.size,1,none⟩)⟩,⟨9,49,fun _ v=>v = .int .i64 C⟩,⟨10,50,fun _ v=>v = .int .i64 ((i : Int) * (C : Int))⟩,⟨11,51,fun _ v=>v = .int .i64 j⟩,⟨12,52,fun _ v=>v = .int .i64 m⟩,⟨13,53,fun _ v=>v = .pointer (some ⟨b,off + m,none⟩)⟩,⟨14,54,fun _ v=>v = .int .i8 z⟩,⟨15,55,fun _ v=>v = .int .i8 t⟩,⟨16,56,fun _ v=>v = .int .i64 t⟩,⟨17,57,fun w v=>IntV w v (t)⟩,⟨18,58,fun _ v=>v = .pointer (some ⟨bo,j * 2,none⟩)⟩]
        [] []) (by kernel_rfl) RI.start ?fin1 ?steps1
      case steps1=>
       refine ⟨?_,?_,?_,?_,?_,?_,?_,?_,?_,?_,?_,?_,?_,?_,?_,?_,?_,?_,?_,trivial⟩ <;> (intro L T wS hL hd hcl hI K hK; try refine step_wanted rfl ?_)
       ·have zt : T[7]? = some (.pointer (some ⟨w2.heap.size,0,none⟩)):=hI.keep 7 (by simp) (by simp)
        go_simp
        exact hK _ _ (hI.value _ mm0 rfl rfl)
       ·obtain ⟨v0,zt0,rfl⟩:=hI.val _ mm0 (hd 0)
        have cc0:=hI.cell f3 (by omega) nom
        go_simp
        exact hK _ _ (hI.value _ mm1 rfl rfl)
       ·have zt : T[8]? = some (.int .i64 i):=hI.keep 8 (by simp) (by simp)
        go_simp
        exact hK _ _ (hI.value _ mm2 rfl rfl)
       ·obtain ⟨v1,zt1,rfl⟩:=hI.val _ mm1 (hd 1)
        obtain ⟨v2,zt2,rfl⟩:=hI.val _ mm2 (hd 2)
        go_simp
        exact hK _ _ (hI.value _ mm3 rfl rfl)
       ·obtain ⟨v3,zt3,rfl⟩:=hI.val _ mm3 (hd 3)
        have cc0:=hI.cell o1 (by omega) nom
        go_simp
        exact hK _ _ (hI.value _ mm4 rfl rfl)
       ·have zt : T[9]? = some (.int .i64 j):=hI.keep 9 (by simp) (by simp)
        go_simp
        exact hK _ _ (hI.value _ mm5 rfl rfl)
       ·have zt : T[2]? = some (.slice (some ⟨b,off,none⟩) n cap):=hI.keep 2 (by simp) (by simp)
        go_simp
        exact hK _ _ (hI.value _ mm6 rfl rfl)
       ·have zt : T[8]? = some (.int .i64 i):=hI.keep 8 (by simp) (by simp)
        go_simp
        exact hK _ _ (hI.value _ mm7 rfl rfl)
       ·have zt : T[7]? = some (.pointer (some ⟨w2.heap.size,0,none⟩)):=hI.keep 7 (by simp) (by simp)
        go_simp
        exact hK _ _ (hI.value _ mm8 rfl rfl)
       ·obtain ⟨v8,zt8,rfl⟩:=hI.val _ mm8 (hd 8)
        have cc0:=hI.cell f2 (by omega) nom
        go_simp
        exact hK _ _ (hI.value _ mm9 rfl rfl)
       ·obtain ⟨v7,zt7,rfl⟩:=hI.val _ mm7 (hd 7)
        obtain ⟨v9,zt9,rfl⟩:=hI.val _ mm9 (hd 9)
        go_simp
        exact hK _ _ (hI.value _ mm10 rfl rfl)
       ·have zt : T[9]? = some (.int .i64 j):=hI.keep 9 (by simp) (by simp)
        go_simp
        exact hK _ _ (hI.value _ mm11 rfl rfl)
       ·obtain ⟨v10,zt10,rfl⟩:=hI.val _ mm10 (hd 10)
        obtain ⟨v11,zt11,rfl⟩:=hI.val _ mm11 (hd 11)
        go_simp
        exact hK _ _ (hI.value _ mm12 rfl rfl)
       ·obtain ⟨v6,zt6,rfl⟩:=hI.val _ mm6 (hd 6)
        obtain ⟨v12,zt12,rfl⟩:=hI.val _ mm12 (hd 12)
        go_simp
        exact hK _ _ (hI.value _ mm13 rfl rfl)
       ·obtain ⟨v13,zt13,rfl⟩:=hI.val _ mm13 (hd 13)
        have cc0:=hI.cell hcell (by omega) nom
        go_simp
        exact hK _ _ (hI.value _ mm14 rfl rfl)
       ·obtain ⟨v14,zt14,rfl⟩:=hI.val _ mm14 (hd 14)
        go_simp
        exact hK _ _ (hI.value _ mm15 rfl (congrArg (Value.int .i8) HT.out))
       ·obtain ⟨v15,zt15,rfl⟩:=hI.val _ mm15 (hd 15)
        go_simp
        exact hK _ _ (hI.value _ mm16 rfl (congrArg (Value.int .i64) (IntWalk.i64_in _ (by omega))))
       ·obtain ⟨v16,zt16,rfl⟩:=hI.val _ mm16 (hd 16)
        go_simp
        refine (r1of_any t _ (by omega) (by omega)).mono ?_
        rintro e wa ⟨v,rfl,hv,hba⟩
        exact hK _ _ ((hI.world hba).value _ mm17 rfl hv)
       ·obtain ⟨v4,zt4,rfl⟩:=hI.val _ mm4 (hd 4)
        obtain ⟨v5,zt5,rfl⟩:=hI.val _ mm5 (hd 5)
        go_simp
        exact hK _ _ (hI.value _ mm18 rfl rfl)
      intro T w9 hI
      obtain ⟨va0,q0,rfl⟩:=hI.val _ mm0 rfl
      obtain ⟨va1,q1,rfl⟩:=hI.val _ mm1 rfl
      obtain ⟨va2,q2,rfl⟩:=hI.val _ mm2 rfl
      obtain ⟨va3,q3,rfl⟩:=hI.val _ mm3 rfl
      obtain ⟨va4,q4,rfl⟩:=hI.val _ mm4 rfl
      obtain ⟨va5,q5,rfl⟩:=hI.val _ mm5 rfl
      obtain ⟨va6,q6,rfl⟩:=hI.val _ mm6 rfl
      obtain ⟨va7,q7,rfl⟩:=hI.val _ mm7 rfl
      obtain ⟨va8,q8,rfl⟩:=hI.val _ mm8 rfl
      obtain ⟨va9,q9,rfl⟩:=hI.val _ mm9 rfl
      obtain ⟨va10,q10,rfl⟩:=hI.val _ mm10 rfl
      obtain ⟨va11,q11,rfl⟩:=hI.val _ mm11 rfl
      obtain ⟨va12,q12,rfl⟩:=hI.val _ mm12 rfl
      obtain ⟨va13,q13,rfl⟩:=hI.val _ mm13 rfl
      obtain ⟨va14,q14,rfl⟩:=hI.val _ mm14 rfl
      obtain ⟨va15,q15,rfl⟩:=hI.val _ mm15 rfl
      obtain ⟨va16,q16,rfl⟩:=hI.val _ mm16 rfl
      obtain ⟨va17,q17,ha17⟩:=hI.val _ mm17 rfl
      replace ha17 : IntV w9 va17 (t):=ha17
      obtain ⟨va18,q18,rfl⟩:=hI.val _ mm18 rfl
      have hT:=tmps_set [(40,.pointer (some ⟨w2.heap.size,2,none⟩)),(41,.slice (some ⟨g,0,none⟩) on oc),(42,.int .i64 i),(43,.pointer (some ⟨g,i,none⟩)),(44,.slice (some ⟨bo,0,none⟩) C C),(45,.int .i64 j),(46,.slice (some ⟨b,off,none⟩) n cap),(47,.int .i64 i),(48,.pointer (some ⟨w2.heap.size,1,none⟩)),(49,.int .i64 C),(50,.int .i64 ((i : Int) * (C : Int))),(51,.int .i64 j),(52,.int .i64 m),(53,.pointer (some ⟨b,off + m,none⟩)),(54,.int .i8 z),(55,.int .i8 t),(56,.int .i64 t),(57,va17),(58,.pointer (some ⟨bo,j * 2,none⟩))]
       (fun j hj=>hI.keep j (by simp only [List.forall_mem_cons] at hj ⊢; simp [hj]) (by simp only [List.forall_mem_cons] at hj ⊢; simp [hj]))
       (by simp only [List.forall_mem_cons]; simp [q0,q1,q2,q3,q4,q5,q6,q7,q8,q9,q10,q11,q12,q13,q14,q15,q16,q17,q18]) hI.size
      have hlw9:=hI.lext
      have hbw9:=hI.bel (wr.heap.size) (by omega) nom
      have holdw9:=hI.old
      clear hI
      simp only [List.foldl_cons,List.foldl_nil,List.setIfInBounds_toArray,List.set_cons_zero,List.set_cons_succ,ptr] at hT
      subst hT
      clear q0 q1 q2 q3 q4 q5 q6 q7 q8 q9 q10 q11 q12 q13 q14 q15 q16 q17 q18
      simp only [List.drop_succ_cons,List.drop_zero]
      obtain ⟨pn,pa,pl,pc,px,rfl,hpx⟩:=id ha17
      have HPX:=Lib.hid hpx
      clear hpx
      have ho9:=ho.below hbw9
      obtain ⟨sn,sa,sl,sc,y1,y2,y3,y4,-⟩:=ho9.cellAt hbo hjc
      have hbolt:=hlts i bo hbo
      have hset:=ho9.set hbo hjc ha17
      clear hw1 hw2 hmi hp0 hp1 hmm ht9
      go_wp2
      go_roundw
      case rel=>
       rw [← hent.out,upTo_step hlt hjc] at hset
       exact ⟨j + 1,by omega,by simp,bset (bset (nx hb hbw9) (by omega) _ _) (by omega) _ _,(set2_old _ _ _ _ _ _ _ (by omega)).trans (br.below hbw9),(set2_old _ _ _ _ _ _ _ (by omega)).trans (T7.below hbw9),hset.1⟩
      case measure=>simp [intOf]; omega
     ·have hrest : ∀b,j≤b→f i b = 0:=fun b hb=>by
       rw [HFE.out]
       exact digF_out (by rw [HL.out]; omega)
      rw [upTo_rest hrest] at ho
      clear hmi hp0 hp1 hiC hm
      go_wp2
      go_roundw
      case rel=>exact ⟨i + 1,by omega,by simp,hb,br,T7,ho⟩
      case measure=>simp [intOf]; omega
    ·obtain rfl : j = C:=by omega
     rw [upTo_row] at ho
     clear hmi hp0 hp1 hmm hw1 hw2
     go_wp2
     go_roundw
     case rel=>exact ⟨i + 1,by omega,by simp,hb,br,T7,ho⟩
     case measure=>simp [intOf]; omega
  ·obtain rfl : i = R:=by omega
   rw [upTo_end] at ho
   obtain ⟨r1,r2,r3,r4,r5,r6⟩:=br.three
   have q1:=hB0.size
   go_wp2
   refine bodyPost_mat rfl rfl rfl (br.put3 _ _ _) ⟨_,bs,rfl,⟨hbl,_,rfl,?_⟩,bset (bset (bset hb (by omega) 0 _) (by omega) 1 _) (by omega) 2 _⟩
   exact (ho.keep (fun k hk=>set3_old _ _ k _ _ _ (by omega)) (br.lext3 (by decide) _ _ _)).mono q1
set_option maxHeartbeats 4000000 in
set_option maxRecDepth 20000 in
theorem rawMade_any (v : Value) (r c : Nat) (ls : List Int) (w : World) (h : I8V w v ls) (hr : r≤255) (hc : c≤255) (R C : Nat) (hR : R = r % 5) (hC : C = c % 5) :
  Calls Tryz.prog 13 #[.agg #[.int .u8 r,.int .u8 c,v]] w (RetMat w R C (genM R C (digF C ls))):=by
 obtain ⟨ao,n,cap,rfl,-,-,-,-,-⟩:=id h
 go_enter Tryz.func13,Tryz.ntmps13
 go_upto_region 1 with (fail)
 refine wp_world ?_
 intro W0 hW0
 obtain ⟨hB0,bx1,br,hs0⟩:=world2 hW0
 obtain ⟨c1,c2,c3,c4,c5,c6⟩:=bx1.three
 have e1 : (r : Int) % 5 = (R : Int):=by omega
 have e2 : (c : Int) % 5 = (C : Int):=by omega
 have hR4 : R≤4:=by omega
 have hC4 : C≤4:=by omega
 clear hR hC
 go_wp2_with fail
 refine (filled_any _ R C ls W0 (h.below hB0) (by omega) (by omega)).mono ?_
 rintro e w2 ⟨u,bs,rfl,⟨hbl,A2,rfl,ho⟩,hb2⟩
 obtain ⟨oo,on,oc,rfl,-,-,-,-⟩:=id ho.rows
 have br:=br.below hb2
 obtain ⟨r1,r2,r3,r4,r5,r6⟩:=br.three
 have hBt:=nx hB0 hb2
 have q1:=hB0.size
 clear c1 c2 c3 c4 c5 c6
 go_wp2
 refine bodyPost_mat rfl rfl rfl (br.put3 _ _ _) ⟨_,bs,rfl,⟨hbl,_,rfl,?_⟩,bset (bset (bset hBt (by omega) 0 _) (by omega) 1 _) (by omega) 2 _⟩
 exact (ho.keep (fun k hk=>set3_old _ _ k _ _ _ (by omega)) (br.lext3 (by decide) _ _ _)).mono q1
set_option maxHeartbeats 4000000 in
set_option maxRecDepth 20000 in
theorem rawSquare_any (v : Value) (r c : Nat) (ls : List Int) (w : World) (h : I8V w v ls) (hr : r≤255) (hc : c≤255) (R : Nat) (hR : R = r % 5) (_hc : c≤255) :
  Calls Tryz.prog 35 #[.agg #[.int .u8 r,.int .u8 c,v]] w (RetMat w R R (genM R R (digF R ls))):=by
 obtain ⟨ao,n,cap,rfl,-,-,-,-,-⟩:=id h
 go_enter Tryz.func35,Tryz.ntmps35
 go_upto_region 1 with (fail)
 refine wp_world ?_
 intro W0 hW0
 obtain ⟨hB0,bx1,br,hs0⟩:=world2 hW0
 obtain ⟨c1,c2,c3,c4,c5,c6⟩:=bx1.three
 have e1 : (r : Int) % 5 = (R : Int):=by omega
 skip
 have hR4 : R≤4:=by omega
 have hC4 : R≤4:=by omega
 clear hR
 go_wp2_with fail
 refine (filled_any _ R R ls W0 (h.below hB0) (by omega) (by omega)).mono ?_
 rintro e w2 ⟨u,bs,rfl,⟨hbl,A2,rfl,ho⟩,hb2⟩
 obtain ⟨oo,on,oc,rfl,-,-,-,-⟩:=id ho.rows
 have br:=br.below hb2
 obtain ⟨r1,r2,r3,r4,r5,r6⟩:=br.three
 have hBt:=nx hB0 hb2
 have q1:=hB0.size
 clear c1 c2 c3 c4 c5 c6
 go_wp2
 refine bodyPost_mat rfl rfl rfl (br.put3 _ _ _) ⟨_,bs,rfl,⟨hbl,_,rfl,?_⟩,bset (bset (bset hBt (by omega) 0 _) (by omega) 1 _) (by omega) 2 _⟩
 exact (ho.keep (fun k hk=>set3_old _ _ k _ _ _ (by omega)) (br.lext3 (by decide) _ _ _)).mono q1
end Go.Proofs.YtnocgagoaldfnaaGreat

namespace Go.Proofs.YtnocgagoaldfnaaGreat
open Go.ChangeShapes Go.WideShapes Go.ChangeAt Go.RowKit
theorem Tryz.own : ownKnob Tryz.prog.godebug = none:=by kernel_rfl
theorem Tryz.laidOut : laidOutB Tryz.prog = true:=by kernel_rfl
theorem cells40 : Tryz.prog.cellsOf 40 = 2:=by kernel_rfl
theorem cells5 : Tryz.prog.cellsOf 5 = 1:=by kernel_rfl
theorem cells47 : Tryz.prog.cellsOf 47 = 1:=by kernel_rfl
set_option maxRecDepth 100000 in
theorem open_pair {H : Type} {enc : TypeId × Value→H} {w : World} {b0 base : Nat} {spare : Nat→Bool} {held : Bool} {r : Reach} {v : Value} {d : DataW H} {ps : List MemPlace} (hval : Value.okWide Tryz.prog w r b0 40 v)
  (h : DataW.Trod enc Tryz.prog w base spare held 40 v d ps) : ∃a b : Int,v = .agg #[.int .u8 a,.int .u8 b]∧(0≤a∧a≤255)∧(0≤b∧b≤255):=by
 simp only [Value.okWide,Tryz.underlying40] at hval
 obtain ⟨cs,rfl,hsz,-⟩:=hval
 obtain ⟨fuel,hf⟩:=h
 obtain ⟨xs,m,-,-,h1,h2,h3⟩:=DataW.trod_array Tryz.underlying40 hf
 rw [cells40] at h1
 have e0:=h3 0 (by omega)
 have e1:=h3 1 (by omega)
 rw [cells5] at e0 e1
 rw [List.getElem?_eq_getElem (by omega)] at e0 e1
 obtain ⟨a,ha,-,wa⟩:=DataW.trod_int Tryz.underlying5 e0
 obtain ⟨b,hb,-,wb⟩:=DataW.trod_int Tryz.underlying5 e1
 simp only [Value.cells] at ha hb h1
 obtain ⟨cl⟩:=cs
 match cl,h1 with
 | [c0,c1],_=>
  simp at ha hb
  subst ha
  subst hb
  simp [Lit.wf,IntKind.min,IntKind.max,IntKind.bits,IntKind.signed] at wa wb
  exact ⟨a,b,rfl,by omega,by omega⟩
theorem open_i8 {H : Type} {enc : TypeId × Value→H} {w : World} {f : Nat} {cs : List Value} {y : DataW H × List MemPlace} (hf : DataW.trod enc Tryz.prog w 0 (fun _=>true) true f 22 cs = some y) (hlt : ∀x ∈ y.2,x.block < w.heap.size) :
  ∃ao n cap ls,cs = [.slice ao n cap]∧I8V w (.slice ao n cap) ls:=by
 rcases open_ints Tryz.underlying22 Tryz.underlying41 (by kernel_rfl) hf with ⟨e1,-⟩ | ⟨a,len,cap,zs,e1,-,hl,hm,hzl,e2,hcell,hwf⟩
 ·exact ⟨none,0,0,[],e1,none,0,0,rfl,rfl,Nat.le_refl _,by omega,fun z hz=>(by cases hz),fun h=>absurd rfl h⟩
 ·simp only [if_true] at hzl
  unfold maxLen at hm
  refine ⟨some a,len,cap,zs.take len,e1,some a,len,cap,rfl,by simp; omega,hl,by omega,fun z hz=>?_,fun h=>?_⟩
  ·have:=hwf z (List.mem_of_mem_take hz)
   exact bounds_i8 this
  ·have hpos : 0 < zs.length:=by
    rcases Nat.eq_zero_or_pos zs.length with h0 | h0
    ·exact absurd (by rw [List.eq_nil_of_length_eq_zero h0]; simp) h
    ·exact h0
   obtain ⟨b,off,rfl,hj⟩:=ints_at hcell hpos
   refine ⟨b,off,rfl,?_,fun k z hk=>?_⟩
   ·exact hlt (.cell b off) (by rw [e2]; exact MemPlace.mem_row.2 ⟨0,hpos,rfl⟩)
   ·obtain ⟨h1,h2⟩:=List.getElem?_eq_some_iff.1 hk
    rw [List.getElem_take] at h2
    have hkz : k < zs.length:=by
     simp at h1
     omega
    rw [hj k hkz,← h2]
    simp [hkz]
set_option maxRecDepth 100000 in
theorem open_raw {H : Type} {enc : TypeId × Value→H} {w : World} {b0 : Nat} {r : Reach} {v : Value} {d : DataW H} {ps : List MemPlace} (hval : Value.okWide Tryz.prog w r b0 24 v)
  (h : DataW.Trod enc Tryz.prog w 0 (fun _=>true) true 24 v d ps) (hlt : ∀x ∈ ps,x.block < w.heap.size) : ∃(a b : Nat) (sv : Value) (ls : List Int),v = .agg #[.int .u8 a,.int .u8 b,sv]∧a≤255∧b≤255∧I8V w sv ls:=by
 simp only [Value.okWide,Tryz.underlying24] at hval
 obtain ⟨cs,rfl,hsz,-⟩:=hval
 obtain ⟨fuel,hf⟩:=h
 obtain ⟨xs,m,h0,h1,h2,h3,h4⟩:=DataW.trod_struct Tryz.underlying24 hf
 have c24 : Tryz.prog.cellsOf 24 = 3:=by kernel_rfl
 have c22 : Tryz.prog.cellsOf 22 = 1:=by kernel_rfl
 have g0 : DataW.trod enc Tryz.prog w 0 (fun _=>true) true m 5 (List.take (Tryz.prog.cellsOf 5) (List.drop 0 (Value.agg cs).cells.toList)) = xs[0]?:=h4 0 _ rfl
 have g1 : DataW.trod enc Tryz.prog w 0 (fun _=>true) true m 5 (List.take (Tryz.prog.cellsOf 5) (List.drop 1 (Value.agg cs).cells.toList)) = xs[1]?:=h4 1 _ rfl
 have g2 : DataW.trod enc Tryz.prog w 0 (fun _=>true) true m 22 (List.take (Tryz.prog.cellsOf 22) (List.drop 2 (Value.agg cs).cells.toList)) = xs[2]?:=h4 2 _ rfl
 rw [c24] at h2
 rw [cells5] at g0 g1
 rw [c22] at g2
 simp only [Value.cells] at g0 g1 g2 h2
 obtain ⟨cl⟩:=cs
 match xs,h3 with
 | [y0,y1,y2],_=>
  match cl,h2 with
  | [k0,k1,k2],_=>
   simp at g0 g1 g2
   obtain ⟨a,ha,-,wa⟩:=DataW.trod_int Tryz.underlying5 g0
   obtain ⟨b,hb,-,wb⟩:=DataW.trod_int Tryz.underlying5 g1
   simp only [Prod.mk.injEq] at h1
   obtain ⟨ao,n,cap,ls,hk,hI⟩:=open_i8 g2 (fun x hx=>hlt x (by rw [h1.2]; simp [hx]))
   simp at ha hb hk
   subst ha
   subst hb
   subst hk
   have wa:=bounds_u8 wa
   have wb:=bounds_u8 wb
   exact ⟨a.toNat,b.toNat,_,ls,by rw [Int.toNat_of_nonneg wa.1,Int.toNat_of_nonneg wb.1],by omega,by omega,hI⟩
end Go.Proofs.YtnocgagoaldfnaaGreat
