/- torsionref05.Scale. torsionref05: Copied, Identity. -/
import Derived.Test.YtnocgagoaldfnaaGreatD18
set_option linter.unusedVariables false
set_option linter.unusedSimpArgs false
set_option linter.unusedSectionVars false
namespace Go.Proofs.YtnocgagoaldfnaaGreat
open Go.RowKit
def upTo (f : Nat->Nat->Int) (i j : Nat) : Nat->Nat->Int:=fun a b=>if a < i ∨ (a = i/\b < j) then f a b else 0
theorem upTo_start (R C : Nat) (f : Nat->Nat->Int) : zerosM R C = genM R C (upTo f 0 0):=by
 rw [zeros_genM]
 exact genM_congr fun i _ j _=>by unfold upTo; rw [if_neg oM]
theorem upTo_row {R C : Nat} {f : Nat->Nat->Int} {i : Nat} : genM R C (upTo f i C) = genM R C (upTo f (i + 1) 0):=
 genM_congr fun a _ b hb=>by
  unfold upTo
  by_cases h : a < i ∨ (a = i/\b < C)
  ·rw [if_pos h,if_pos oM]
  ·rw [if_neg h,if_neg oM]
theorem upTo_end {R C : Nat} {f : Nat->Nat->Int} : genM R C (upTo f R 0) = genM R C f:=
 genM_congr fun a ha b _=>by unfold upTo; rw [if_pos oM]
theorem upTo_step {R C : Nat} {f : Nat->Nat->Int} {i j : Nat} (hi : i < R) (hj : j < C) : setM (genM R C (upTo f i j)) i j (f i j) = genM R C (upTo f i (j + 1)):=by
 rw [setM_genM _ hi hj]
 exact genM_congr fun a _ b _=>by
  unfold upTo
  by_cases h : a = i/\b = j
  ·obtain ⟨rfl,rfl⟩:=h
   rw [if_pos ⟨rfl,rfl⟩,if_pos oM]
  ·rw [if_neg h]
   by_cases h2 : a < i ∨ (a = i/\b < j)
   ·rw [if_pos h2,if_pos oM]
   ·rw [if_neg h2,if_neg oM]
theorem RowsO.lts {w : World} {base : Nat} {A : Value} {C : Nat} {bs : List Nat} {M : List (List Int)} (h : RowsO w base A C bs M) : ∀(i b : Nat),bs[i]? = some b->b < w.heap.size:=by
 intro i b hb
 have hib:=(List.getElem?_eq_some_iff.1 hb).1
 have hiM : i < M.length:=by rw [h.len]; exact hib
 exact (h.row i b M[i] hb (List.getElem?_eq_getElem hiM)).2.2.lt
set_option maxHeartbeats 4000000 in
set_option maxRecDepth 20000 in
theorem r5scale_any (v kv : Value) (R C : Nat) (M : List (List Int)) (k : Int) (w : World) (h : MatV w v R C M) (hF : Fits R C M) (hk : IntV w kv k) (hR : R<=1000000) (hC : C<=1000000) (hS : ∀r ∈ M,∀z ∈ r,Sm z) (hks : Sm k) :
  Calls Tryz.prog 71 #[v,kv] w (RetMat w R C (genM R C (fun i j=>ent M i j * k))):=by
 obtain ⟨A,rfl,h⟩:=h
 obtain ⟨ao,n,cap,rfl,e2,e3,e4,-⟩:=id h
 have HX:=Lib.hid e2
 have HS:=HidS.mk hS
 have HK:=HidS.mk hks
 have HF:=HidS.mk hF
 obtain rfl : n = R:=by rw [<-e2,hF.1]
 have hkv:=hk
 obtain ⟨kn,ka,kl,kc,kx,rfl,hkx⟩:=id hk
 have HKX:=Lib.hid hkx
 clear e2 hS hks hF hkx
 obtain ⟨f,hf⟩ : ∃f : Nat->Nat->Int,(fun i j=>ent M i j * k) = f:=⟨_,rfl⟩
 rw [hf]
 have hfe : ∀i j,f i j = ent M i j * k:=fun i j=>by rw [<-hf]
 clear hf
 have HFE:=HidS.mk hfe
 clear hfe
 go_enter Tryz.func71,Tryz.ntmps71
 go_upto_region 1 with (fail)
 refine wp_world ?_
 intro W0 hW0
 obtain ⟨hB0,bx1,bx2,br,hs0⟩:=world3 hW0
 obtain ⟨c1,c2,c3,c4,c5,c6⟩:=bx1.three
 go_wp2_with fail
 refine (r5new_any n C W0 hR hC).mono ?_
 rintro e w2 ⟨u,bs,rfl,⟨hbl,A2,rfl,ho⟩,hb2⟩
 obtain ⟨oo,on,oc,rfl,-,-,-,-⟩:=id ho.rows
 have hlts:=ho.lts
 go_upto_region 2 with (fail)
 refine wp_world ?_
 intro W3 hW3
 obtain ⟨hB3,T5,hs3⟩:=world1 hW3
 have bx1:=(bx1.below hb2).below hB3
 have bx2:=(bx2.below hb2).below hB3
 have br:=(br.below hb2).below hB3
 have ho:=ho.below hB3
 rw [upTo_start n C f] at ho
 have hBt:=nx (nx hB0 hb2) hB3
 have q2:=hb2.size
 clear hW3 hW0 c1 c2 c3 c4 c5 c6
 go_wp2
 go_loopw [6] (fun iv wr=>∃i : Nat,i<=n/\iv = .int .i64 i/\Below w.heap.size w wr/\Blk wr w.heap.size 28 #[.int .i64 n,.int .i64 C,.slice ao n cap]/\Blk wr (w.heap.size + 1) 45 #[.bool kn,.slice ka kl kc] ∧
  Blk wr (w.heap.size + 1 + 1) 28 #[.int .i64 0,.int .i64 0,.slice none 0 0]/\Blk wr w2.heap.size 28 #[.int .i64 n,.int .i64 C,.slice oo on oc]/\RowsO wr W0.heap.size (.slice oo on oc) C bs (genM n C (upTo f i 0))) (fun iv _=>n - (intOf iv).toNat)
 case atStart=>exact ⟨0,by omega,rfl,hBt,bx1,bx2,br,T5,ho⟩
 case round=>
  obtain ⟨i,hi,rfl,hb,bx1,bx2,br,T5,ho⟩:=hrel
  obtain ⟨c1,c2,c3,c4,c5,c6⟩:=bx1.three
  by_cases hlt : i < n
  ·go_wp2
   clear c1 c2 c3 c4 c5 c6
   go_loopw [7] (fun jv wr=>∃j : Nat,j<=C/\jv = .int .i64 j/\Below w.heap.size w wr/\Blk wr w.heap.size 28 #[.int .i64 n,.int .i64 C,.slice ao n cap]/\Blk wr (w.heap.size + 1) 45 #[.bool kn,.slice ka kl kc] ∧
    Blk wr (w.heap.size + 1 + 1) 28 #[.int .i64 0,.int .i64 0,.slice none 0 0]/\Blk wr w2.heap.size 28 #[.int .i64 n,.int .i64 C,.slice oo on oc]/\RowsO wr W0.heap.size (.slice oo on oc) C bs (genM n C (upTo f i j))) (fun jv _=>C - (intOf jv).toNat)
   case atStart=>exact ⟨0,by omega,rfl,hb,bx1,bx2,br,T5,ho⟩
   case round=>
    obtain ⟨j,hj,rfl,hb,bx1,bx2,br,T5,ho⟩:=hrel
    obtain ⟨c1,c2,c3,c4,c5,c6⟩:=bx1.three
    by_cases hjc : j < C
    ·obtain ⟨b,ra,rn,rc,zs,rfl,hbl1,hz,p1,hv⟩:=(h.below hb).row (k:=i) (by rw [HX.out]; exact hlt)
     have hzl:=HF.out.2 zs (List.mem_of_getElem? hz)
     have hvl:=hv.len
     obtain rfl : rn = C:=by omega
     obtain ⟨b',z,s,a,l,c,rfl,hbl',hzk,q1,q2',hzv⟩:=hv.cell (k:=j) oM
     have hent:=Lib.hid (ent_of hz hzk)
     have SZ : HidS (Sm z):=⟨HS.out _ (List.mem_of_getElem? hz) _ (List.mem_of_getElem? hzk)⟩
     clear hz hzk hzl
     obtain ⟨g,bo,rfl,hg,hbo,hbo2,o1,ho3⟩:=ho.at_ (i:=i) oM
     obtain ⟨d1,d2,d3,d4⟩:=bx2.two
     obtain ⟨f1,f2,f3,f4,f5,f6⟩:=T5.three
     have hio : i < on:=by omega
     have HO3:=Lib.hid ho3
     clear ho3
     have lt1:=bx1.lt
     have lt2:=bx2.lt
     have lt5:=T5.lt
     have hkw:=hkv.ext (lx hb)
     go_upto_region 8 with (fail)
     refine wp_region_headed 17 rfl (RI wr (wr.heap.size) _ 45
       [⟨0,25,fun _ v=>v = .pointer (some ⟨w2.heap.size,2,none⟩)⟩,⟨1,26,fun _ v=>v = .slice (some ⟨g,0,none⟩) on oc⟩,⟨2,27,fun _ v=>v = .int .i64 i⟩,⟨3,28,fun _ v=>v = .pointer (some ⟨g,i,none⟩)⟩,⟨4,29,fun _ v=>v = .slice (some ⟨bo,0,none⟩) rn rn⟩,⟨5,30,fun _ v=>v = .int .i64 j⟩,⟨6,31,fun _ v=>v = .pointer (some ⟨w.heap.size,2,none⟩)⟩,⟨7,32,fun _ v=>v = .slice (some ⟨b,0,none⟩) n cap⟩,⟨8,33,fun _ v=>v = .int .i64 i⟩,⟨9,34,fun _ v=>v = .pointer (some ⟨b,i,none⟩)⟩,⟨10,35,fun _ v=>v = .slice (some ⟨b',0,none⟩) rn rc⟩,⟨11,36,fun _ v=>v = .int .i64 j⟩,⟨12,37,fun _ v=>v = .pointer (some ⟨b',j * 2,none⟩)⟩,⟨13,38,fun _ v=>v = .agg #[.bool s,.slice a l c]⟩,⟨14,39,fun _ v=>v = .agg #[.bool kn,.slice ka kl kc]⟩,⟨15,40,fun w v=>IntV w v (z * k)⟩,⟨16,41,fun _ v=>v = .pointer (some ⟨bo,j * 2,none⟩)⟩]
       [] []) kR RI.start ?fin1 ?steps1
     case steps1=>
      refine ⟨?_,?_,?_,?_,?_,?_,?_,?_,?_,?_,?_,?_,?_,?_,?_,?_,?_,trivial⟩ <;> (intro L T wS hL hd hcl hI K hK; try refine step_wanted rfl ?_)
      ·have zt : T[5]? = some (.pointer (some ⟨w2.heap.size,0,none⟩)):=hI.keep 5 sI sI
       go_simp
       exact hK _ _ (hI.y mm0 rfl)
      ·obtain ⟨v0,zt0,rfl⟩:=hI.v mm0 (hd 0)
       have cc0:=hI.cell f3 oM nom
       go_simp
       exact hK _ _ (hI.y mm1 rfl)
      ·have zt : T[6]? = some (.int .i64 i):=hI.keep 6 sI sI
       go_simp
       exact hK _ _ (hI.y mm2 rfl)
      ·obtain ⟨v1,zt1,rfl⟩:=hI.v mm1 (hd 1)
       obtain ⟨v2,zt2,rfl⟩:=hI.v mm2 (hd 2)
       go_simp
       exact hK _ _ (hI.y mm3 rfl)
      ·obtain ⟨v3,zt3,rfl⟩:=hI.v mm3 (hd 3)
       have cc0:=hI.cell o1 oM nom
       go_simp
       exact hK _ _ (hI.y mm4 rfl)
      ·have zt : T[7]? = some (.int .i64 j):=hI.keep 7 sI sI
       go_simp
       exact hK _ _ (hI.y mm5 rfl)
      ·have zt : T[2]? = some (.pointer (some ⟨w.heap.size,0,none⟩)):=hI.keep 2 sI sI
       go_simp
       exact hK _ _ (hI.y mm6 rfl)
      ·obtain ⟨v6,zt6,rfl⟩:=hI.v mm6 (hd 6)
       have cc0:=hI.cell c3 oM nom
       go_simp
       exact hK _ _ (hI.y mm7 rfl)
      ·have zt : T[6]? = some (.int .i64 i):=hI.keep 6 sI sI
       go_simp
       exact hK _ _ (hI.y mm8 rfl)
      ·obtain ⟨v7,zt7,rfl⟩:=hI.v mm7 (hd 7)
       obtain ⟨v8,zt8,rfl⟩:=hI.v mm8 (hd 8)
       go_simp
       exact hK _ _ (hI.y mm9 rfl)
      ·obtain ⟨v9,zt9,rfl⟩:=hI.v mm9 (hd 9)
       have cc0:=hI.cell p1 oM nom
       go_simp
       exact hK _ _ (hI.y mm10 rfl)
      ·have zt : T[7]? = some (.int .i64 j):=hI.keep 7 sI sI
       go_simp
       exact hK _ _ (hI.y mm11 rfl)
      ·obtain ⟨v10,zt10,rfl⟩:=hI.v mm10 (hd 10)
       obtain ⟨v11,zt11,rfl⟩:=hI.v mm11 (hd 11)
       go_simp
       exact hK _ _ (hI.y mm12 rfl)
      ·obtain ⟨v12,zt12,rfl⟩:=hI.v mm12 (hd 12)
       have cc0:=hI.cell q1 oM nom
       have cc1:=hI.cell q2' oM nom
       go_simp
       exact hK _ _ (hI.y mm13 rfl)
      ·have zt : T[3]? = some (.pointer (some ⟨w.heap.size + 1,0,none⟩)):=hI.keep 3 sI sI
       have cc0:=hI.cell d1 oM nom
       have cc1:=hI.cell d2 oM nom
       go_simp
       exact hK _ _ (hI.y mm14 rfl)
      ·obtain ⟨v13,zt13,rfl⟩:=hI.v mm13 (hd 13)
       obtain ⟨v14,zt14,rfl⟩:=hI.v mm14 (hd 14)
       go_simp
       refine (r1mul_any _ _ z k _ (hzv.ext hI.lext) (hkw.ext hI.lext) SZ.out HK.out).mono ?_
       rintro e wa ⟨v,rfl,hv,hba⟩
       exact hK _ _ ((hI.world hba).y mm15 hv)
      ·obtain ⟨v4,zt4,rfl⟩:=hI.v mm4 (hd 4)
       obtain ⟨v5,zt5,rfl⟩:=hI.v mm5 (hd 5)
       go_simp
       exact hK _ _ (hI.y mm16 rfl)
     intro T w9 hI
     obtain ⟨va0,q0,rfl⟩:=hI.v mm0 rfl
     obtain ⟨va1,q1,rfl⟩:=hI.v mm1 rfl
     obtain ⟨va2,q2,rfl⟩:=hI.v mm2 rfl
     obtain ⟨va3,q3,rfl⟩:=hI.v mm3 rfl
     obtain ⟨va4,q4,rfl⟩:=hI.v mm4 rfl
     obtain ⟨va5,q5,rfl⟩:=hI.v mm5 rfl
     obtain ⟨va6,q6,rfl⟩:=hI.v mm6 rfl
     obtain ⟨va7,q7,rfl⟩:=hI.v mm7 rfl
     obtain ⟨va8,q8,rfl⟩:=hI.v mm8 rfl
     obtain ⟨va9,q9,rfl⟩:=hI.v mm9 rfl
     obtain ⟨va10,q10,rfl⟩:=hI.v mm10 rfl
     obtain ⟨va11,q11,rfl⟩:=hI.v mm11 rfl
     obtain ⟨va12,q12,rfl⟩:=hI.v mm12 rfl
     obtain ⟨va13,q13,rfl⟩:=hI.v mm13 rfl
     obtain ⟨va14,q14,rfl⟩:=hI.v mm14 rfl
     obtain ⟨va15,q15,ha15⟩:=hI.v mm15 rfl
     replace ha15 : IntV w9 va15 (z * k):=ha15
     obtain ⟨va16,q16,rfl⟩:=hI.v mm16 rfl
     have hT:=tmps_set [(25,.pointer (some ⟨w2.heap.size,2,none⟩)),(26,.slice (some ⟨g,0,none⟩) on oc),(27,.int .i64 i),(28,.pointer (some ⟨g,i,none⟩)),(29,.slice (some ⟨bo,0,none⟩) rn rn),(30,.int .i64 j),(31,.pointer (some ⟨w.heap.size,2,none⟩)),(32,.slice (some ⟨b,0,none⟩) n cap),(33,.int .i64 i),(34,.pointer (some ⟨b,i,none⟩)),(35,.slice (some ⟨b',0,none⟩) rn rc),(36,.int .i64 j),(37,.pointer (some ⟨b',j * 2,none⟩)),(38,.agg #[.bool s,.slice a l c]),(39,.agg #[.bool kn,.slice ka kl kc]),(40,va15),(41,.pointer (some ⟨bo,j * 2,none⟩))]
      (fun j hj=>hI.keep j (by simp only [List.forall_mem_cons] at hj ⊢; simp [hj]) (by simp only [List.forall_mem_cons] at hj ⊢; simp [hj]))
      (by simp only [List.forall_mem_cons]; simp [q0,q1,q2,q3,q4,q5,q6,q7,q8,q9,q10,q11,q12,q13,q14,q15,q16]) hI.size
     have hlw9:=hI.lext
     have hbw9:=hI.bel (wr.heap.size) oM nom
     have holdw9:=hI.old
     clear hI
     simp only [List.foldl_cons,List.foldl_nil,List.setIfInBounds_toArray,List.set_cons_zero,List.set_cons_succ,ptr] at hT
     subst hT
     clear q0 q1 q2 q3 q4 q5 q6 q7 q8 q9 q10 q11 q12 q13 q14 q15 q16
     simp only [List.drop_succ_cons,List.drop_zero]
     obtain ⟨pn,pa,pl,pc,px,rfl,hpx⟩:=id ha15
     have HPX:=Lib.hid hpx
     clear hpx
     have ho9:=ho.below hbw9
     obtain ⟨sn,sa,sl,sc,z1,z2,z3,z4,-⟩:=ho9.cellAt hbo hjc
     have hbolt:=hlts i bo hbo
     have hset:=ho9.set hbo hjc ha15
     go_wp2
     go_roundw
     case rel=>
      have hq : z * k = f i j:=by rw [HFE.out,hent.out]
      rw [hq,upTo_step hlt hjc] at hset
      exact ⟨j + 1,by omega,by simp,bset (bset (nx hb hbw9) oM _ _) oM _ _,(set2_old _ _ _ _ _ _ _ oM).trans (bx1.below hbw9),(set2_old _ _ _ _ _ _ _ oM).trans (bx2.below hbw9),(set2_old _ _ _ _ _ _ _ oM).trans (br.below hbw9),(set2_old _ _ _ _ _ _ _ oM).trans (T5.below hbw9),hset.1⟩
     case measure=>simp [intOf]; omega
    ·obtain rfl : j = C:=by omega
     rw [upTo_row] at ho
     go_wp2
     go_roundw
     case rel=>exact ⟨i + 1,by omega,by simp,hb,bx1,bx2,br,T5,ho⟩
     case measure=>simp [intOf]; omega
  ·obtain rfl : i = n:=by omega
   rw [upTo_end] at ho
   obtain ⟨f1,f2,f3,f4,f5,f6⟩:=T5.three
   obtain ⟨r1,r2,r3,r4,r5,r6⟩:=br.three
   have q1:=hB0.size
   go_wp2
   refine bodyPost_mat rfl rfl rfl (br.put3 _ _ _) ⟨_,bs,rfl,⟨hbl,_,rfl,?_⟩,bset (bset (bset hb oM 0 _) oM 1 _) oM 2 _⟩
   exact (ho.keep (fun k hk=>set3_old _ _ k _ _ _ oM) (br.lext3 dE _ _ _)).mono q1
set_option maxHeartbeats 4000000 in
set_option maxRecDepth 20000 in
theorem r5copied_any (v : Value) (R C : Nat) (M : List (List Int)) (w : World) (h : MatV w v R C M) (hF : Fits R C M) (hR : R<=1000000) (hC : C<=1000000) (hS : ∀r ∈ M,∀z ∈ r,Sm z) :
  Calls Tryz.prog 24 #[v] w (RetMat w R C M):=by
 have h0:=h
 obtain ⟨A,rfl,h⟩:=h
 obtain ⟨ao,n,cap,rfl,e2,e3,e4,-⟩:=id h
 have HS:=HidS.mk hS
 have HF:=HidS.mk hF
 have S1 : HidS (Sm 1):=⟨(Smd.one (z:=1) dE).sm⟩
 have hM : genM R C (fun i j=>ent M i j * 1) = M:=by
  have : (fun i j=>ent M i j * 1) = ent M:=by funext i j; rw [Int.mul_one]
  rw [this,<-fits_genM hF]
 clear hS hF e2
 go_enter Tryz.func24,Tryz.ntmps24
 go_upto_region 1 with (fail)
 refine wp_world ?_
 intro W0 hW0
 obtain ⟨hB0,bx1,br,hs0⟩:=world2 hW0
 obtain ⟨c1,c2,c3,c4,c5,c6⟩:=bx1.three
 refine wp_region_headed 2 rfl (RI W0 (W0.heap.size) _ 45
   [⟨0,3,fun _ v=>v = .agg #[.int .i64 R,.int .i64 C,.slice ao n cap]⟩,⟨1,4,fun w v=>IntV w v (1)⟩]
   [] []) kR RI.start ?fin1 ?steps1
 case steps1=>
  refine ⟨?_,?_,trivial⟩ <;> (intro L T wS hL hd hcl hI K hK; try refine step_wanted rfl ?_)
  ·have zt : T[1]? = some (.pointer (some ⟨w.heap.size,0,none⟩)):=hI.keep 1 sI sI
   have cc0:=hI.cell c1 oM nom
   have cc1:=hI.cell c2 oM nom
   have cc2:=hI.cell c3 oM nom
   go_simp
   exact hK _ _ (hI.y mm0 rfl)
  ·go_simp
   refine (r1of_any 1 _ oM oM).mono ?_
   rintro e wa ⟨v,rfl,hv,hba⟩
   exact hK _ _ ((hI.world hba).y mm1 hv)
 intro T w1 hI
 obtain ⟨va0,q0,rfl⟩:=hI.v mm0 rfl
 obtain ⟨va1,q1,ha1⟩:=hI.v mm1 rfl
 replace ha1 : IntV w1 va1 (1):=ha1
 have hT:=tmps_set [(3,.agg #[.int .i64 R,.int .i64 C,.slice ao n cap]),(4,va1)]
  (fun j hj=>hI.keep j (by simp only [List.forall_mem_cons] at hj ⊢; simp [hj]) (by simp only [List.forall_mem_cons] at hj ⊢; simp [hj]))
  (by simp only [List.forall_mem_cons]; simp [q0,q1]) hI.size
 have hlw1:=hI.lext
 have hbw1:=hI.bel (W0.heap.size) oM nom
 have holdw1:=hI.old
 clear hI
 simp only [List.foldl_cons,List.foldl_nil,List.setIfInBounds_toArray,List.set_cons_zero,List.set_cons_succ,ptr] at hT
 subst hT
 clear q0 q1
 simp only [List.drop_succ_cons,List.drop_zero]
 have br:=br.below hbw1
 have hBt:=nx hB0 hbw1
 clear c1 c2 c3 c4 c5 c6
 go_wp2_with fail
 refine (r5scale_any _ _ R C M 1 w1 (h0.below hBt) HF.out ha1 hR hC HS.out S1.out).mono ?_
 rintro e w2 ⟨u,bs,rfl,⟨hbl,A2,rfl,ho⟩,hb2⟩
 rw [hM] at ho
 obtain ⟨oo,on,oc,rfl,-,-,-,-⟩:=id ho.rows
 have br:=br.below hb2
 have hBt:=nx hBt hb2
 obtain ⟨r1,r2,r3,r4,r5,r6⟩:=br.three
 have q1:=hbw1.size
 have q2 : w.heap.size + 1 < w1.heap.size:=by omega
 clear r1 r2 r3
 obtain ⟨r1,r2,r3,-,-,-⟩:=br.three
 go_wp2
 refine bodyPost_mat rfl rfl rfl (br.put3 _ _ _) ⟨_,bs,rfl,⟨hbl,_,rfl,?_⟩,bset (bset (bset hBt oM 0 _) oM 1 _) oM 2 _⟩
 exact (ho.keep (fun k hk=>set3_old _ _ k _ _ _ oM) (br.lext3 dE _ _ _)).mono oM
def idf (i j : Nat) : Int:=if i = j then 1 else 0
def idUp (k : Nat) (i j : Nat) : Int:=if i = j/\i < k then 1 else 0
set_option maxHeartbeats 4000000 in
set_option maxRecDepth 20000 in
theorem r5identity_any (n : Nat) (w : World) (hn : n<=1000000) : Calls Tryz.prog 52 #[.int .i64 n] w (RetMat w n n (genM n n idf)):=by
 go_enter Tryz.func52,Tryz.ntmps52
 go_upto_region 1 with (fail)
 refine wp_world ?_
 intro W0 hW0
 obtain ⟨hB0,br,hs0⟩:=world1 hW0
 go_wp2_with fail
 refine (r5new_any n n W0 hn hn).mono ?_
 rintro e w2 ⟨u,bs,rfl,⟨hbl,A2,rfl,ho⟩,hb2⟩
 obtain ⟨oo,on,oc,rfl,-,-,-,-⟩:=id ho.rows
 have hlts:=ho.lts
 go_upto_region 2 with (fail)
 refine wp_world ?_
 intro W3 hW3
 obtain ⟨hB3,T5,hs3⟩:=world1 hW3
 have br:=(br.below hb2).below hB3
 have ho:=ho.below hB3
 have hz0 : zerosM n n = genM n n (idUp 0):=by rw [zeros_genM]; exact genM_congr fun i _ j _=>by unfold idUp; rw [if_neg oM]
 rw [hz0] at ho
 have hBt:=nx (nx hB0 hb2) hB3
 have q1:=hB0.size
 have q2:=hb2.size
 clear hW3 hW0 hz0
 go_wp2
 go_loopw [4] (fun iv wr=>∃i : Nat,i<=n/\iv = .int .i64 i/\Below w.heap.size w wr/\Blk wr w.heap.size 28 #[.int .i64 0,.int .i64 0,.slice none 0 0]/\Blk wr w2.heap.size 28 #[.int .i64 n,.int .i64 n,.slice oo on oc]/\RowsO wr W0.heap.size (.slice oo on oc) n bs (genM n n (idUp i))) (fun iv _=>n - (intOf iv).toNat)
 case atStart=>exact ⟨0,by omega,rfl,hBt,br,T5,ho⟩
 case round=>
  obtain ⟨i,hi,rfl,hb,br,T5,ho⟩:=hrel
  obtain ⟨f1,f2,f3,f4,f5,f6⟩:=T5.three
  by_cases hlt : i < n
  ·obtain ⟨g,bo,rfl,hg,hbo,hbo2,o1,ho3⟩:=ho.at_ (i:=i) oM
   have hio : i < on:=by omega
   have HO3:=Lib.hid ho3
   clear ho3
   have lt5:=T5.lt
   go_upto_region 5 with (fail)
   refine wp_region_headed 8 rfl (RI wr (wr.heap.size) _ 45
     [⟨0,13,fun _ v=>v = .pointer (some ⟨w2.heap.size,2,none⟩)⟩,⟨1,14,fun _ v=>v = .slice (some ⟨g,0,none⟩) on oc⟩,⟨2,15,fun _ v=>v = .int .i64 i⟩,⟨3,16,fun _ v=>v = .pointer (some ⟨g,i,none⟩)⟩,⟨4,17,fun _ v=>v = .slice (some ⟨bo,0,none⟩) n n⟩,⟨5,18,fun _ v=>v = .int .i64 i⟩,⟨6,19,fun w v=>IntV w v (1)⟩,⟨7,20,fun _ v=>v = .pointer (some ⟨bo,i * 2,none⟩)⟩]
     [] []) kR RI.start ?fin2 ?steps2
   case steps2=>
    refine ⟨?_,?_,?_,?_,?_,?_,?_,?_,trivial⟩ <;> (intro L T wS hL hd hcl hI K hK; try refine step_wanted rfl ?_)
    ·have zt : T[3]? = some (.pointer (some ⟨w2.heap.size,0,none⟩)):=hI.keep 3 sI sI
     go_simp
     exact hK _ _ (hI.y mm0 rfl)
    ·obtain ⟨v0,zt0,rfl⟩:=hI.v mm0 (hd 0)
     have cc0:=hI.cell f3 oM nom
     go_simp
     exact hK _ _ (hI.y mm1 rfl)
    ·have zt : T[4]? = some (.int .i64 i):=hI.keep 4 sI sI
     go_simp
     exact hK _ _ (hI.y mm2 rfl)
    ·obtain ⟨v1,zt1,rfl⟩:=hI.v mm1 (hd 1)
     obtain ⟨v2,zt2,rfl⟩:=hI.v mm2 (hd 2)
     go_simp
     exact hK _ _ (hI.y mm3 rfl)
    ·obtain ⟨v3,zt3,rfl⟩:=hI.v mm3 (hd 3)
     have cc0:=hI.cell o1 oM nom
     go_simp
     exact hK _ _ (hI.y mm4 rfl)
    ·have zt : T[4]? = some (.int .i64 i):=hI.keep 4 sI sI
     go_simp
     exact hK _ _ (hI.y mm5 rfl)
    ·go_simp
     refine (r1of_any 1 _ oM oM).mono ?_
     rintro e wa ⟨v,rfl,hv,hba⟩
     exact hK _ _ ((hI.world hba).y mm6 hv)
    ·obtain ⟨v4,zt4,rfl⟩:=hI.v mm4 (hd 4)
     obtain ⟨v5,zt5,rfl⟩:=hI.v mm5 (hd 5)
     go_simp
     exact hK _ _ (hI.y mm7 rfl)
   intro T w9 hI
   obtain ⟨va0,q0,rfl⟩:=hI.v mm0 rfl
   obtain ⟨va1,q1,rfl⟩:=hI.v mm1 rfl
   obtain ⟨va2,q2,rfl⟩:=hI.v mm2 rfl
   obtain ⟨va3,q3,rfl⟩:=hI.v mm3 rfl
   obtain ⟨va4,q4,rfl⟩:=hI.v mm4 rfl
   obtain ⟨va5,q5,rfl⟩:=hI.v mm5 rfl
   obtain ⟨va6,q6,ha6⟩:=hI.v mm6 rfl
   replace ha6 : IntV w9 va6 (1):=ha6
   obtain ⟨va7,q7,rfl⟩:=hI.v mm7 rfl
   have hT:=tmps_set [(13,.pointer (some ⟨w2.heap.size,2,none⟩)),(14,.slice (some ⟨g,0,none⟩) on oc),(15,.int .i64 i),(16,.pointer (some ⟨g,i,none⟩)),(17,.slice (some ⟨bo,0,none⟩) n n),(18,.int .i64 i),(19,va6),(20,.pointer (some ⟨bo,i * 2,none⟩))]
    (fun j hj=>hI.keep j (by simp only [List.forall_mem_cons] at hj ⊢; simp [hj]) (by simp only [List.forall_mem_cons] at hj ⊢; simp [hj]))
    (by simp only [List.forall_mem_cons]; simp [q0,q1,q2,q3,q4,q5,q6,q7]) hI.size
   have hlw9:=hI.lext
   have hbw9:=hI.bel (wr.heap.size) oM nom
   have holdw9:=hI.old
   clear hI
   simp only [List.foldl_cons,List.foldl_nil,List.setIfInBounds_toArray,List.set_cons_zero,List.set_cons_succ,ptr] at hT
   subst hT
   clear q0 q1 q2 q3 q4 q5 q6 q7
   simp only [List.drop_succ_cons,List.drop_zero]
   obtain ⟨pn,pa,pl,pc,px,rfl,hpx⟩:=id ha6
   have HPX:=Lib.hid hpx
   clear hpx
   have ho9:=ho.below hbw9
   obtain ⟨sn,sa,sl,sc,z1,z2,z3,z4,-⟩:=ho9.cellAt hbo hlt
   have hbolt:=hlts i bo hbo
   have hset:=ho9.set hbo hlt ha6
   go_wp2
   go_roundw
   case rel=>
    have hq : setM (genM n n (idUp i)) i i 1 = genM n n (idUp (i + 1)):=by
     rw [setM_genM _ hlt hlt]
     exact genM_congr fun a _ b _=>by
      unfold idUp
      by_cases h : a = i/\b = i
      ·rw [if_pos h,if_pos oM]
      ·rw [if_neg h]
       by_cases h2 : a = b/\a < i
       ·rw [if_pos h2,if_pos oM]
       ·rw [if_neg h2,if_neg oM]
    rw [hq] at hset
    exact ⟨i + 1,by omega,by simp,bset (bset (nx hb hbw9) oM _ _) oM _ _,(set2_old _ _ _ _ _ _ _ oM).trans (br.below hbw9),(set2_old _ _ _ _ _ _ _ oM).trans (T5.below hbw9),hset.1⟩
   case measure=>simp [intOf]; omega
  ·obtain rfl : i = n:=by omega
   have hq : genM i i (idUp i) = genM i i idf:=genM_congr fun a ha b _=>by
    unfold idUp idf
    by_cases h : a = b
    ·rw [if_pos ⟨h,ha⟩,if_pos h]
    ·rw [if_neg (fun h2=>h h2.1),if_neg h]
   rw [hq] at ho
   obtain ⟨r1,r2,r3,r4,r5,r6⟩:=br.three
   go_wp2
   refine bodyPost_mat rfl rfl rfl (br.put3 _ _ _) ⟨_,bs,rfl,⟨hbl,_,rfl,?_⟩,bset (bset (bset hb oM 0 _) oM 1 _) oM 2 _⟩
   exact (ho.keep (fun k hk=>set3_old _ _ k _ _ _ oM) (br.lext3 dE _ _ _)).mono q1
end Go.Proofs.YtnocgagoaldfnaaGreat
