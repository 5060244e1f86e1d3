/- torsionref05.Transpose; torsionref13: combine, combineColumns. -/
import Derived.Test.YtnocgagoaldfnaaGreatD47
set_option linter.unusedVariables false
set_option linter.unusedSimpArgs false
set_option linter.unusedSectionVars false
namespace Go.Proofs.YtnocgagoaldfnaaGreat
open Go.RowKit
theorem upTr_step {R C : Nat} {g : Nat->Nat->Int} {i j : Nat} (hi : i < R) (hj : j < C) : setM (genM C R (fun a b=>upTo g i j b a)) j i (g i j) = genM C R (fun a b=>upTo g i (j + 1) b a):=by
 rw [setM_genM _ hj hi]
 exact genM_congr fun a _ b _=>by
  unfold upTo
  by_cases h : a = j/\b = i
  ·obtain ⟨rfl,rfl⟩:=h
   rw [if_pos ⟨rfl,rfl⟩,if_pos oM]
  ·rw [if_neg h]
   by_cases h2 : b < i ∨ (b = i/\a < j)
   ·rw [if_pos h2,if_pos oM]
   ·rw [if_neg h2,if_neg oM]
theorem upTr_row {R C : Nat} {g : Nat->Nat->Int} {i : Nat} : genM C R (fun a b=>upTo g i C b a) = genM C R (fun a b=>upTo g (i + 1) 0 b a):=
 genM_congr fun a ha b hb=>by
  unfold upTo
  by_cases h : b < i ∨ (b = i/\a < C)
  ·rw [if_pos h,if_pos oM]
  ·rw [if_neg h,if_neg oM]
theorem upTr_start (R C : Nat) (g : Nat->Nat->Int) : zerosM C R = genM C R (fun a b=>upTo g 0 0 b a):=by
 rw [zeros_genM]
 exact genM_congr fun i _ j _=>by unfold upTo; rw [if_neg oM]
theorem upTr_end {R C : Nat} {g : Nat->Nat->Int} : genM C R (fun a b=>upTo g R 0 b a) = genM C R (fun a b=>g b a):=
 genM_congr fun a ha b hb=>by unfold upTo; rw [if_pos oM]
set_option maxHeartbeats 4000000 in
set_option maxRecDepth 20000 in
theorem r5transpose_any (v : Value) (R C : Nat) (M : List (List Int)) (w : World) (h : MatV w v R C M) (hF : Fits R C M) (hR : R<=1000000) (hC : C<=1000000) :
  Calls Tryz.prog 33 #[v] w (RetMat w C R (genM C R (fun a b=>ent M b a))):=by
 obtain ⟨A,rfl,h⟩:=h
 obtain ⟨ao,n,cap,rfl,e2,e3,e4,-⟩:=id h
 obtain rfl : R = n:=by rw [<-e2,hF.1]
 have HF:=HidS.mk hF
 obtain ⟨f,hf⟩ : ∃f : Nat->Nat->Int,ent M = f:=⟨_,rfl⟩
 rw [hf]
 have HFE : HidS (∀a b,f a b = ent M a b):=⟨fun a b=>by rw [<-hf]⟩
 have HX:=Lib.hid e2
 clear hf hF e2
 go_enter Tryz.func33,Tryz.ntmps33
 go_upto_region 1 with (fail)
 refine wp_world ?_
 intro W0 hW0
 obtain ⟨hB0,bx1,br,hs0⟩:=world2 hW0
 obtain ⟨c1,c2,c3,c4,c5,c6⟩:=bx1.three
 go_wp2_with fail
 refine (r5new_any C R W0 oM oM).mono ?_
 rintro e w2 ⟨u,bs,rfl,⟨hbl,A2,rfl,ho⟩,hb2⟩
 obtain ⟨oo,on,oc,rfl,-,-,-,-⟩:=id ho.rows
 have hlts:=ho.lts
 go_upto_region 2 with (fail)
 refine wp_world ?_
 intro W3 hW3
 obtain ⟨hB3,T7,hs3⟩:=world1 hW3
 have br:=(br.below hb2).below hB3
 have bx1:=(bx1.below hb2).below hB3
 have ho:=ho.below hB3
 rw [upTr_start R C f] at ho
 have hBt:=nx (nx hB0 hb2) hB3
 have q2:=hb2.size
 clear hW3 hW0 c1 c2 c3 c4 c5 c6
 go_wp2
 go_loopw [4] (fun iv wr=>∃i : Nat,i<=R/\iv = .int .i64 i/\Below w.heap.size w wr/\Blk wr w.heap.size 28 #[.int .i64 R,.int .i64 C,.slice ao R cap]/\Blk wr (w.heap.size + 1) 28 #[.int .i64 0,.int .i64 0,.slice none 0 0]/\Blk wr w2.heap.size 28 #[.int .i64 C,.int .i64 R,.slice oo on oc]/\RowsO wr W0.heap.size (.slice oo on oc) R bs (genM C R (fun a b=>upTo f i 0 b a))) (fun iv _=>R - (intOf iv).toNat)
 case atStart=>exact ⟨0,by omega,rfl,hBt,bx1,br,T7,ho⟩
 case round=>
  obtain ⟨i,hi,rfl,hb,bx1,br,T7,ho⟩:=hrel
  obtain ⟨c1,c2,c3,c4,c5,c6⟩:=bx1.three
  by_cases hlt : i < R
  ·go_wp2
   clear c1 c2 c3 c4 c5 c6
   go_loopw [5] (fun jv wr=>∃j : Nat,j<=C/\jv = .int .i64 j/\Below w.heap.size w wr/\Blk wr w.heap.size 28 #[.int .i64 R,.int .i64 C,.slice ao R cap]/\Blk wr (w.heap.size + 1) 28 #[.int .i64 0,.int .i64 0,.slice none 0 0]/\Blk wr w2.heap.size 28 #[.int .i64 C,.int .i64 R,.slice oo on oc]/\RowsO wr W0.heap.size (.slice oo on oc) R bs (genM C R (fun a b=>upTo f i j b a))) (fun jv _=>C - (intOf jv).toNat)
   case atStart=>exact ⟨0,by omega,rfl,hb,bx1,br,T7,ho⟩
   case round=>
    obtain ⟨j,hj,rfl,hb,bx1,br,T7,ho⟩:=hrel
    obtain ⟨c1,c2,c3,c4,c5,c6⟩:=bx1.three
    by_cases hjc : j < C
    ·obtain ⟨b,ra,rn,rc,zs,rfl,hbl1,hz,p1,hv⟩:=(h.below hb).row (k:=i) (by rw [HX.out]; exact hlt)
     have hzl:=HF.out.2 zs (List.mem_of_getElem? hz)
     have hvl:=hv.len
     obtain rfl : rn = C:=by omega
     obtain ⟨b',z,s,a,l,c,rfl,hbl',hzk,q1,q2',hzv⟩:=hv.cell (k:=j) oM
     have hent:=Lib.hid ((HFE.out i j).trans (ent_of hz hzk))
     clear hz hzk hzl
     obtain ⟨g,bo,rfl,hg,hbo,hbo2,o1,ho3⟩:=ho.at_ (i:=j) oM
     obtain ⟨f1,f2,f3,f4,f5,f6⟩:=T7.three
     have hio : j < on:=by omega
     have HO3:=Lib.hid ho3
     clear ho3
     have lt1:=bx1.lt
     have lt7:=T7.lt
     go_upto_region 8 with (fail)
     refine wp_region_headed 15 rfl (RI wr (wr.heap.size) _ 45
       [⟨0,23,fun _ v=>v = .pointer (some ⟨w2.heap.size,2,none⟩)⟩,⟨1,24,fun _ v=>v = .slice (some ⟨g,0,none⟩) on oc⟩,⟨2,25,fun _ v=>v = .int .i64 j⟩,⟨3,26,fun _ v=>v = .pointer (some ⟨g,j,none⟩)⟩,⟨4,27,fun _ v=>v = .slice (some ⟨bo,0,none⟩) R R⟩,⟨5,28,fun _ v=>v = .int .i64 i⟩,⟨6,29,fun _ v=>v = .pointer (some ⟨w.heap.size,2,none⟩)⟩,⟨7,30,fun _ v=>v = .slice (some ⟨b,0,none⟩) R cap⟩,⟨8,31,fun _ v=>v = .int .i64 i⟩,⟨9,32,fun _ v=>v = .pointer (some ⟨b,i,none⟩)⟩,⟨10,33,fun _ v=>v = .slice (some ⟨b',0,none⟩) rn rc⟩,⟨11,34,fun _ v=>v = .int .i64 j⟩,⟨12,35,fun _ v=>v = .pointer (some ⟨b',j * 2,none⟩)⟩,⟨13,36,fun _ v=>v = .agg #[.bool s,.slice a l c]⟩,⟨14,37,fun _ v=>v = .pointer (some ⟨bo,i * 2,none⟩)⟩]
       [] []) kR RI.start ?fin1 ?steps1
     case steps1=>
      refine ⟨?_,?_,?_,?_,?_,?_,?_,?_,?_,?_,?_,?_,?_,?_,?_,trivial⟩ <;> (intro L T wS hL hd hcl hI K hK; try refine step_wanted rfl ?_)
      ·have zt : T[3]? = some (.pointer (some ⟨w2.heap.size,0,none⟩)):=hI.keep 3 sI sI
       go_simp
       exact hK _ _ (hI.y mm0 rfl)
      ·obtain ⟨v0,zt0,rfl⟩:=hI.v mm0 (hd 0)
       have cc0:=hI.cell f3 oM nom
       go_simp
       exact hK _ _ (hI.y mm1 rfl)
      ·have zt : T[5]? = some (.int .i64 j):=hI.keep 5 sI sI
       go_simp
       exact hK _ _ (hI.y mm2 rfl)
      ·obtain ⟨v1,zt1,rfl⟩:=hI.v mm1 (hd 1)
       obtain ⟨v2,zt2,rfl⟩:=hI.v mm2 (hd 2)
       go_simp
       exact hK _ _ (hI.y mm3 rfl)
      ·obtain ⟨v3,zt3,rfl⟩:=hI.v mm3 (hd 3)
       have cc0:=hI.cell o1 oM nom
       go_simp
       exact hK _ _ (hI.y mm4 rfl)
      ·have zt : T[4]? = some (.int .i64 i):=hI.keep 4 sI sI
       go_simp
       exact hK _ _ (hI.y mm5 rfl)
      ·have zt : T[1]? = some (.pointer (some ⟨w.heap.size,0,none⟩)):=hI.keep 1 sI sI
       go_simp
       exact hK _ _ (hI.y mm6 rfl)
      ·obtain ⟨v6,zt6,rfl⟩:=hI.v mm6 (hd 6)
       have cc0:=hI.cell c3 oM nom
       go_simp
       exact hK _ _ (hI.y mm7 rfl)
      ·have zt : T[4]? = some (.int .i64 i):=hI.keep 4 sI sI
       go_simp
       exact hK _ _ (hI.y mm8 rfl)
      ·obtain ⟨v7,zt7,rfl⟩:=hI.v mm7 (hd 7)
       obtain ⟨v8,zt8,rfl⟩:=hI.v mm8 (hd 8)
       go_simp
       exact hK _ _ (hI.y mm9 rfl)
      ·obtain ⟨v9,zt9,rfl⟩:=hI.v mm9 (hd 9)
       have cc0:=hI.cell p1 oM nom
       go_simp
       exact hK _ _ (hI.y mm10 rfl)
      ·have zt : T[5]? = some (.int .i64 j):=hI.keep 5 sI sI
       go_simp
       exact hK _ _ (hI.y mm11 rfl)
      ·obtain ⟨v10,zt10,rfl⟩:=hI.v mm10 (hd 10)
       obtain ⟨v11,zt11,rfl⟩:=hI.v mm11 (hd 11)
       go_simp
       exact hK _ _ (hI.y mm12 rfl)
      ·obtain ⟨v12,zt12,rfl⟩:=hI.v mm12 (hd 12)
       have cc0:=hI.cell q1 oM nom
       have cc1:=hI.cell q2' oM nom
       go_simp
       exact hK _ _ (hI.y mm13 rfl)
      ·obtain ⟨v4,zt4,rfl⟩:=hI.v mm4 (hd 4)
       obtain ⟨v5,zt5,rfl⟩:=hI.v mm5 (hd 5)
       go_simp
       exact hK _ _ (hI.y mm14 rfl)
     intro T w9 hI
     obtain ⟨va0,q0,rfl⟩:=hI.v mm0 rfl
     obtain ⟨va1,q1,rfl⟩:=hI.v mm1 rfl
     obtain ⟨va2,q2,rfl⟩:=hI.v mm2 rfl
     obtain ⟨va3,q3,rfl⟩:=hI.v mm3 rfl
     obtain ⟨va4,q4,rfl⟩:=hI.v mm4 rfl
     obtain ⟨va5,q5,rfl⟩:=hI.v mm5 rfl
     obtain ⟨va6,q6,rfl⟩:=hI.v mm6 rfl
     obtain ⟨va7,q7,rfl⟩:=hI.v mm7 rfl
     obtain ⟨va8,q8,rfl⟩:=hI.v mm8 rfl
     obtain ⟨va9,q9,rfl⟩:=hI.v mm9 rfl
     obtain ⟨va10,q10,rfl⟩:=hI.v mm10 rfl
     obtain ⟨va11,q11,rfl⟩:=hI.v mm11 rfl
     obtain ⟨va12,q12,rfl⟩:=hI.v mm12 rfl
     obtain ⟨va13,q13,rfl⟩:=hI.v mm13 rfl
     obtain ⟨va14,q14,rfl⟩:=hI.v mm14 rfl
     have hT:=tmps_set [(23,.pointer (some ⟨w2.heap.size,2,none⟩)),(24,.slice (some ⟨g,0,none⟩) on oc),(25,.int .i64 j),(26,.pointer (some ⟨g,j,none⟩)),(27,.slice (some ⟨bo,0,none⟩) R R),(28,.int .i64 i),(29,.pointer (some ⟨w.heap.size,2,none⟩)),(30,.slice (some ⟨b,0,none⟩) R cap),(31,.int .i64 i),(32,.pointer (some ⟨b,i,none⟩)),(33,.slice (some ⟨b',0,none⟩) rn rc),(34,.int .i64 j),(35,.pointer (some ⟨b',j * 2,none⟩)),(36,.agg #[.bool s,.slice a l c]),(37,.pointer (some ⟨bo,i * 2,none⟩))]
      (fun j hj=>hI.keep j (by simp only [List.forall_mem_cons] at hj ⊢; simp [hj]) (by simp only [List.forall_mem_cons] at hj ⊢; simp [hj]))
      (by simp only [List.forall_mem_cons]; simp [q0,q1,q2,q3,q4,q5,q6,q7,q8,q9,q10,q11,q12,q13,q14]) hI.size
     have hlw9:=hI.lext
     have hbw9:=hI.bel (wr.heap.size) oM nom
     have holdw9:=hI.old
     clear hI
     simp only [List.foldl_cons,List.foldl_nil,List.setIfInBounds_toArray,List.set_cons_zero,List.set_cons_succ,ptr] at hT
     subst hT
     clear q0 q1 q2 q3 q4 q5 q6 q7 q8 q9 q10 q11 q12 q13 q14
     simp only [List.drop_succ_cons,List.drop_zero]
     have ho9:=ho.below hbw9
     obtain ⟨sn,sa,sl,sc,z1,z2,z3,z4,-⟩:=ho9.cellAt hbo hlt
     have hbolt:=hlts j bo hbo
     have hset:=ho9.set hbo hlt (hzv.ext hlw9)
     go_wp2
     go_roundw
     case rel=>
      rw [<-hent.out,upTr_step hlt hjc] at hset
      exact ⟨j + 1,by omega,by simp,bset (bset (nx hb hbw9) oM _ _) oM _ _,(set2_old _ _ _ _ _ _ _ oM).trans (bx1.below hbw9),(set2_old _ _ _ _ _ _ _ oM).trans (br.below hbw9),(set2_old _ _ _ _ _ _ _ oM).trans (T7.below hbw9),hset.1⟩
     case measure=>simp [intOf]; omega
    ·obtain rfl : j = C:=by omega
     rw [upTr_row] at ho
     go_wp2
     go_roundw
     case rel=>exact ⟨i + 1,by omega,by simp,hb,bx1,br,T7,ho⟩
     case measure=>simp [intOf]; omega
  ·obtain rfl : i = R:=by omega
   rw [upTr_end] at ho
   obtain ⟨f1,f2,f3,f4,f5,f6⟩:=T7.three
   obtain ⟨r1,r2,r3,r4,r5,r6⟩:=br.three
   have q1:=hB0.size
   go_wp2
   refine bodyPost_mat rfl rfl rfl (br.put3 _ _ _) ⟨_,bs,rfl,⟨hbl,_,rfl,?_⟩,bset (bset (bset hb oM 0 _) oM 1 _) oM 2 _⟩
   exact (ho.keep (fun k hk=>set3_old _ _ k _ _ _ oM) (br.lext3 dE _ _ _)).mono q1
end Go.Proofs.YtnocgagoaldfnaaGreat
