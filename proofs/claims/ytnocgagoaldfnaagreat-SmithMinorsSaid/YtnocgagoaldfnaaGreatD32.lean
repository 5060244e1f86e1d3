/- matrix.Identity. matrix.Transpose. smith: the work under way; work.divide. The law for regions that draw, where two elements of rows are written: at the end, but for operations that may come behind the first store. -/
import Derived.Test.YtnocgagoaldfnaaGreatD31
set_option linter.unusedVariables false
set_option linter.unusedSimpArgs false
set_option linter.unusedSectionVars false
namespace Go.Proofs.YtnocgagoaldfnaaGreat
open Go.RowKit
set_option maxHeartbeats 4000000 in
set_option maxRecDepth 20000 in
theorem midentity_any (n : Nat) (w : World) (hn : n<=1000000) : Calls Tryz.prog 49 #[.int .i64 n] w (RetMat w n n (genM n n idf)):=by
 go_enter Tryz.func49,Tryz.ntmps49
 go_upto_region 1 with (fail)
 refine wp_world ?_
 intro W0 hW0
 obtain ⟨hB0,br,hs0⟩:=world1 hW0
 go_wp2_with fail
 refine (mnew_any n n W0 hn hn).mono ?_
 rintro e w2 ⟨u,bs,rfl,⟨hbl,A2,rfl,ho⟩,hb2⟩
 obtain ⟨oo,on,oc,rfl,hon,-,-,-⟩:=id ho.rows
 obtain rfl : n = on:=by rw [<-hon]; simp [zerosM]
 clear hon
 have hlts:=ho.lts
 go_upto_region 2 with (fail)
 refine wp_world ?_
 intro W3 hW3
 obtain ⟨hB3,T5,hs3⟩:=world1 hW3
 have br:=(br.below hb2).below hB3
 have ho:=ho.below hB3
 have hz0 : zerosM n n = genM n n (idUp 0):=by rw [zeros_genM]; exact genM_congr fun i _ j _=>by unfold idUp; rw [if_neg oM]
 rw [hz0] at ho
 have hBt:=nx (nx hB0 hb2) hB3
 have q1:=hB0.size
 have q2:=hb2.size
 obtain ⟨f1,f2,f3,f4,f5,f6⟩:=T5.three
 clear hW3 hW0 hz0
 go_wp2
 clear f1 f2 f3 f4 f5 f6
 go_loopw [11] (fun iv wr=>∃i : Nat,i<=n/\iv = .int .i64 i/\Below w.heap.size w wr/\Blk wr w.heap.size 28 #[.int .i64 0,.int .i64 0,.slice none 0 0]/\Blk wr w2.heap.size 28 #[.int .i64 n,.int .i64 n,.slice oo n oc]/\RowsO wr W0.heap.size (.slice oo n oc) n bs (genM n n (idUp i))) (fun iv _=>n - (intOf iv).toNat)
 case atStart=>exact ⟨0,by omega,rfl,hBt,br,T5,ho⟩
 case round=>
  obtain ⟨i,hi,rfl,hb,br,T5,ho⟩:=hrel
  obtain ⟨f1,f2,f3,f4,f5,f6⟩:=T5.three
  by_cases hlt : i < n
  ·obtain ⟨g,bo,rfl,hg,hbo,hbo2,o1,ho3⟩:=ho.at_ (i:=i) oM
   clear ho3
   have lt5:=T5.lt
   go_upto_region 5 with (fail)
   refine wp_region_headed 8 rfl (RI wr (wr.heap.size) _ 45
     [⟨0,14,fun _ v=>v = .pointer (some ⟨w2.heap.size,2,none⟩)⟩,⟨1,15,fun _ v=>v = .slice (some ⟨g,0,none⟩) n oc⟩,⟨2,16,fun _ v=>v = .int .i64 i⟩,⟨3,17,fun _ v=>v = .pointer (some ⟨g,i,none⟩)⟩,⟨4,18,fun _ v=>v = .slice (some ⟨bo,0,none⟩) n n⟩,⟨5,19,fun _ v=>v = .int .i64 i⟩,⟨6,20,fun w v=>IntV w v (1)⟩,⟨7,21,fun _ v=>v = .pointer (some ⟨bo,i * 2,none⟩)⟩]
     [] []) kR RI.start ?fin1 ?steps1
   case steps1=>
    refine ⟨?_,?_,?_,?_,?_,?_,?_,?_,trivial⟩ <;> (intro L T wS hL hd hcl hI K hK; try refine step_wanted rfl ?_)
    ·have zt : T[3]? = some (.pointer (some ⟨w2.heap.size,0,none⟩)):=hI.keep 3 sI sI
     go_simp
     exact hK _ _ (hI.y mm0 rfl)
    ·obtain ⟨v0,zt0,rfl⟩:=hI.v mm0 (hd 0)
     have cc0:=hI.cell f3 oM nom
     go_simp
     exact hK _ _ (hI.y mm1 rfl)
    ·have zt : T[4]? = some (.int .i64 i):=hI.keep 4 sI sI
     go_simp
     exact hK _ _ (hI.y mm2 rfl)
    ·obtain ⟨v1,zt1,rfl⟩:=hI.v mm1 (hd 1)
     obtain ⟨v2,zt2,rfl⟩:=hI.v mm2 (hd 2)
     go_simp
     exact hK _ _ (hI.y mm3 rfl)
    ·obtain ⟨v3,zt3,rfl⟩:=hI.v mm3 (hd 3)
     have cc0:=hI.cell o1 oM nom
     go_simp
     exact hK _ _ (hI.y mm4 rfl)
    ·have zt : T[4]? = some (.int .i64 i):=hI.keep 4 sI sI
     go_simp
     exact hK _ _ (hI.y mm5 rfl)
    ·go_simp
     refine (of_any 1 _ oM oM).mono ?_
     rintro e wa ⟨v,rfl,hv,hba⟩
     exact hK _ _ ((hI.world hba).y mm6 hv)
    ·obtain ⟨v4,zt4,rfl⟩:=hI.v mm4 (hd 4)
     obtain ⟨v5,zt5,rfl⟩:=hI.v mm5 (hd 5)
     go_simp
     exact hK _ _ (hI.y mm7 rfl)
   intro T w9 hI
   obtain ⟨va0,q0,rfl⟩:=hI.v mm0 rfl
   obtain ⟨va1,q1,rfl⟩:=hI.v mm1 rfl
   obtain ⟨va2,q2,rfl⟩:=hI.v mm2 rfl
   obtain ⟨va3,q3,rfl⟩:=hI.v mm3 rfl
   obtain ⟨va4,q4,rfl⟩:=hI.v mm4 rfl
   obtain ⟨va5,q5,rfl⟩:=hI.v mm5 rfl
   obtain ⟨va6,q6,ha6⟩:=hI.v mm6 rfl
   replace ha6 : IntV w9 va6 (1):=ha6
   obtain ⟨va7,q7,rfl⟩:=hI.v mm7 rfl
   have hT:=tmps_set [(14,.pointer (some ⟨w2.heap.size,2,none⟩)),(15,.slice (some ⟨g,0,none⟩) n oc),(16,.int .i64 i),(17,.pointer (some ⟨g,i,none⟩)),(18,.slice (some ⟨bo,0,none⟩) n n),(19,.int .i64 i),(20,va6),(21,.pointer (some ⟨bo,i * 2,none⟩))]
    (fun j hj=>hI.keep j (by simp only [List.forall_mem_cons] at hj ⊢; simp [hj]) (by simp only [List.forall_mem_cons] at hj ⊢; simp [hj]))
    (by simp only [List.forall_mem_cons]; simp [q0,q1,q2,q3,q4,q5,q6,q7]) hI.size
   have hlw9:=hI.lext
   have hbw9:=hI.bel (wr.heap.size) oM nom
   have holdw9:=hI.old
   clear hI
   simp only [List.foldl_cons,List.foldl_nil,List.setIfInBounds_toArray,List.set_cons_zero,List.set_cons_succ,ptr] at hT
   subst hT
   clear q0 q1 q2 q3 q4 q5 q6 q7
   simp only [List.drop_succ_cons,List.drop_zero]
   obtain ⟨pn,pa,pl,pc,px,rfl,hpx⟩:=id ha6
   have HPX:=Lib.hid hpx
   clear hpx
   have ho9:=ho.below hbw9
   obtain ⟨sn,sa,sl,sc,z1,z2,z3,z4,-⟩:=ho9.cellAt hbo hlt
   have hbolt:=hlts i bo hbo
   have hset:=ho9.set hbo hlt ha6
   go_wp2
   go_roundw
   case rel=>
    have hq : setM (genM n n (idUp i)) i i 1 = genM n n (idUp (i + 1)):=by
     rw [setM_genM _ hlt hlt]
     exact genM_congr fun a _ b _=>by
      unfold idUp
      by_cases h : a = i/\b = i
      ·rw [if_pos h,if_pos oM]
      ·rw [if_neg h]
       by_cases h2 : a = b/\a < i
       ·rw [if_pos h2,if_pos oM]
       ·rw [if_neg h2,if_neg oM]
    rw [hq] at hset
    exact ⟨i + 1,by omega,by simp,bset (bset (nx hb hbw9) oM _ _) oM _ _,(set2_old _ _ _ _ _ _ _ oM).trans (br.below hbw9),(set2_old _ _ _ _ _ _ _ oM).trans (T5.below hbw9),hset.1⟩
   case measure=>simp [intOf]; omega
  ·obtain rfl : i = n:=by omega
   have hq : genM i i (idUp i) = genM i i idf:=genM_congr fun a ha b _=>by
    unfold idUp idf
    by_cases h : a = b
    ·rw [if_pos ⟨h,ha⟩,if_pos h]
    ·rw [if_neg (fun h2=>h h2.1),if_neg h]
   rw [hq] at ho
   obtain ⟨r1,r2,r3,r4,r5,r6⟩:=br.three
   go_wp2
   refine bodyPost_mat rfl rfl rfl (br.put3 _ _ _) ⟨_,bs,rfl,⟨hbl,_,rfl,?_⟩,bset (bset (bset hb oM 0 _) oM 1 _) oM 2 _⟩
   exact (ho.keep (fun k hk=>set3_old _ _ k _ _ _ oM) (br.lext3 dE _ _ _)).mono q1
def trUp (f : Nat->Nat->Int) (i j : Nat) : Nat->Nat->Int:=fun a b=>if b < i ∨ (b = i/\a < j) then f a b else 0
theorem trUp_start (R C : Nat) (f : Nat->Nat->Int) : zerosM R C = genM R C (trUp f 0 0):=by
 rw [zeros_genM]
 exact genM_congr fun i _ j _=>by unfold trUp; rw [if_neg oM]
theorem trUp_row {R C : Nat} {f : Nat->Nat->Int} {i : Nat} : genM R C (trUp f i R) = genM R C (trUp f (i + 1) 0):=
 genM_congr fun a ha b hb=>by
  unfold trUp
  by_cases h : b < i ∨ (b = i/\a < R)
  ·rw [if_pos h,if_pos oM]
  ·rw [if_neg h,if_neg oM]
theorem trUp_end {R C : Nat} {f : Nat->Nat->Int} : genM R C (trUp f C 0) = genM R C f:=
 genM_congr fun a ha b hb=>by unfold trUp; rw [if_pos oM]
theorem trUp_step {R C : Nat} {f : Nat->Nat->Int} {i j : Nat} (hi : i < C) (hj : j < R) : setM (genM R C (trUp f i j)) j i (f j i) = genM R C (trUp f i (j + 1)):=by
 rw [setM_genM _ hj hi]
 exact genM_congr fun a _ b _=>by
  unfold trUp
  by_cases h : a = j/\b = i
  ·obtain ⟨rfl,rfl⟩:=h
   rw [if_pos ⟨rfl,rfl⟩,if_pos oM]
  ·rw [if_neg h]
   by_cases h2 : b < i ∨ (b = i/\a < j)
   ·rw [if_pos h2,if_pos oM]
   ·rw [if_neg h2,if_neg oM]
set_option maxHeartbeats 4000000 in
set_option maxRecDepth 20000 in
theorem mtranspose_any (v : Value) (R C : Nat) (M : List (List Int)) (w : World) (h : MatV w v R C M) (hF : Fits R C M) (hR : R<=1000000) (hC : C<=1000000) (hS : ∀r ∈ M,∀z ∈ r,Sm z) :
  Calls Tryz.prog 51 #[v] w (RetMat w C R (genM C R (fun a b=>ent M b a))):=by
 have h0:=h
 obtain ⟨A,rfl,h⟩:=h
 obtain ⟨ao,n,cap,rfl,e2,e3,e4,-⟩:=id h
 have HX:=Lib.hid e2
 have HS:=HidS.mk hS
 have HF:=HidS.mk hF
 obtain rfl : n = R:=by rw [<-e2,hF.1]
 have hdv : decide (ValidM n C M) = true:=decide_eq_true hF.valid
 obtain ⟨f,hf⟩ : ∃f : Nat->Nat->Int,(fun a b=>ent M b a) = f:=⟨_,rfl⟩
 rw [hf]
 have hfe : ∀i j,f i j = ent M j i:=fun i j=>by rw [<-hf]
 have HFE:=HidS.mk hfe
 clear hf hfe e2 hS hF
 go_enter Tryz.func51,Tryz.ntmps51
 go_upto_region 1 with (fail)
 refine wp_world ?_
 intro W0 hW0
 obtain ⟨hB0,bx1,br,hs0⟩:=world2 hW0
 obtain ⟨c1,c2,c3,c4,c5,c6⟩:=bx1.three
 clear hW0
 go_wp2_with fail
 refine (mvalid_any _ n C M W0 (h0.below hB0)).mono ?_
 rintro e w1 ⟨rfl,hb1⟩
 rw [hdv]
 have bx1:=bx1.below hb1
 have br:=br.below hb1
 clear c1 c2 c3 c4 c5 c6 hdv
 obtain ⟨c1,c2,c3,c4,c5,c6⟩:=bx1.three
 go_wp2_with fail
 refine (mnew_any C n w1 hC hR).mono ?_
 rintro e w2 ⟨u,bs,rfl,⟨hbl,A2,rfl,ho⟩,hb2⟩
 obtain ⟨oo,on,oc,rfl,hon,-,-,-⟩:=id ho.rows
 obtain rfl : C = on:=by rw [<-hon]; simp [zerosM]
 clear hon
 have hlts:=ho.lts
 have hBt:=nx hB0 hb1
 have hszt:=hBt.size
 have hB0s:=hB0.size
 have hb1s:=hb1.size
 clear c1 c2 c3 c4 c5 c6
 go_upto_region 4 with (fail)
 refine wp_world ?_
 intro W3 hW3
 obtain ⟨hB3,T5,hs3⟩:=world1 hW3
 have bx1:=(bx1.below hb2).below hB3
 have br:=(br.below hb2).below hB3
 have ho:=ho.below hB3
 rw [trUp_start C n f] at ho
 have hBt:=nx (nx hBt hb2) hB3
 have q2:=hb2.size
 obtain ⟨c1,c2,c3,c4,c5,c6⟩:=bx1.three
 clear hW3
 go_wp2
 clear c1 c2 c3 c4 c5 c6
 go_loopw [20] (fun iv wr=>∃i : Nat,i<=n/\iv = .int .i64 i/\Below w.heap.size w wr ∧
  Blk wr (w.heap.size + 1) 28 #[.int .i64 0,.int .i64 0,.slice none 0 0]/\Blk wr w2.heap.size 28 #[.int .i64 C,.int .i64 n,.slice oo C oc]/\RowsO wr w1.heap.size (.slice oo C oc) n bs (genM C n (trUp f i 0))) (fun iv _=>n - (intOf iv).toNat)
 case atStart=>exact ⟨0,by omega,rfl,hBt,br,T5,ho⟩
 case round=>
  obtain ⟨i,hi,rfl,hb,br,T5,ho⟩:=hrel
  by_cases hlt : i < n
  ·obtain ⟨b,ra,rn,rc,zs,rfl,hbl1,hz,p1,hv⟩:=h.row (k:=i) (by rw [HX.out]; exact hlt)
   have hzl:=HF.out.2 zs (List.mem_of_getElem? hz)
   have hvl:=hv.len
   obtain rfl : C = rn:=by omega
   have HZ:=HidS.mk (And.intro hz hzl)
   have p1:=kc_below p1 hb
   obtain ⟨hvl1,hvl2,hvl3⟩:=hvl
   clear hz hzl hvl1
   go_wp2
   clear p1
   go_loopw [27] (fun jv wt=>∃j : Nat,j<=C/\jv = .int .i64 j/\Below w.heap.size w wt ∧
    Blk wt (w.heap.size + 1) 28 #[.int .i64 0,.int .i64 0,.slice none 0 0]/\Blk wt w2.heap.size 28 #[.int .i64 C,.int .i64 n,.slice oo C oc]/\RowsO wt w1.heap.size (.slice oo C oc) n bs (genM C n (trUp f i j))) (fun jv _=>C - (intOf jv).toNat)
   case atStart=>exact ⟨0,by omega,rfl,hb,br,T5,ho⟩
   case round=>
    rename World=>wt
    obtain ⟨j,hj,rfl,hb,br,T5,ho⟩:=hrel
    by_cases hjc : j < C
    ·obtain ⟨b',z,s,a,l,c,rfl,hbl',hzk,q1,q2',hzv⟩:=(hv.below hb).cell (k:=j) (by rw [HZ.out.2]; exact hjc)
     have hent:=Lib.hid ((HFE.out j i).trans (ent_of HZ.out.1 hzk))
     have SZ : HidS (Sm z):=⟨HS.out _ (List.mem_of_getElem? HZ.out.1) _ (List.mem_of_getElem? hzk)⟩
     clear hzk
     have lt2:=br.lt
     have lt5:=T5.lt
     have hbs:=hb.size
     go_upto_region 10 with (fail)
     refine wp_world ?_
     intro W6 hW6
     obtain ⟨hB6,T7,hs6⟩:=world1 hW6
     obtain ⟨d1,d2,d3,d4⟩:=T7.two
     have br:=br.below hB6
     have T5:=T5.below hB6
     have ho:=ho.below hB6
     have hzv:=hzv.ext (lx hB6)
     have hb:=nx hb hB6
     clear q1 q2' hW6
     obtain ⟨g,bo,rfl,hg,hbo,hbo2,o1,ho3⟩:=ho.at_ (i:=j) oM
     obtain ⟨f1,f2,f3,f4,f5,f6⟩:=T5.three
     clear ho3
     have lt5:=T5.lt
     have lt7:=T7.lt
     refine wp_region_headed 9 rfl (RI W6 (W6.heap.size) _ 45
       [⟨0,32,fun _ v=>v = .pointer (some ⟨w2.heap.size,2,none⟩)⟩,⟨1,33,fun _ v=>v = .slice (some ⟨g,0,none⟩) C oc⟩,⟨2,34,fun _ v=>v = .int .i64 j⟩,⟨3,35,fun _ v=>v = .pointer (some ⟨g,j,none⟩)⟩,⟨4,36,fun _ v=>v = .slice (some ⟨bo,0,none⟩) n n⟩,⟨5,37,fun _ v=>v = .int .i64 i⟩,⟨6,38,fun _ v=>v = .agg #[.bool s,.slice a l c]⟩,⟨7,39,fun w v=>IntV w v (z)⟩,⟨8,40,fun _ v=>v = .pointer (some ⟨bo,i * 2,none⟩)⟩]
       [] []) kR RI.start ?fin1 ?steps1
     case steps1=>
      refine ⟨?_,?_,?_,?_,?_,?_,?_,?_,?_,trivial⟩ <;> (intro L T wS hL hd hcl hI K hK; try refine step_wanted rfl ?_)
      ·have zt : T[3]? = some (.pointer (some ⟨w2.heap.size,0,none⟩)):=hI.keep 3 sI sI
       go_simp
       exact hK _ _ (hI.y mm0 rfl)
      ·obtain ⟨v0,zt0,rfl⟩:=hI.v mm0 (hd 0)
       have cc0:=hI.cell f3 oM nom
       go_simp
       exact hK _ _ (hI.y mm1 rfl)
      ·have zt : T[6]? = some (.int .i64 j):=hI.keep 6 sI sI
       go_simp
       exact hK _ _ (hI.y mm2 rfl)
      ·obtain ⟨v1,zt1,rfl⟩:=hI.v mm1 (hd 1)
       obtain ⟨v2,zt2,rfl⟩:=hI.v mm2 (hd 2)
       go_simp
       exact hK _ _ (hI.y mm3 rfl)
      ·obtain ⟨v3,zt3,rfl⟩:=hI.v mm3 (hd 3)
       have cc0:=hI.cell o1 oM nom
       go_simp
       exact hK _ _ (hI.y mm4 rfl)
      ·have zt : T[4]? = some (.int .i64 i):=hI.keep 4 sI sI
       go_simp
       exact hK _ _ (hI.y mm5 rfl)
      ·have zt : T[7]? = some (.pointer (some ⟨wt.heap.size,0,none⟩)):=hI.keep 7 sI sI
       have cc0:=hI.cell d1 oM nom
       have cc1:=hI.cell d2 oM nom
       go_simp
       exact hK _ _ (hI.y mm6 rfl)
      ·obtain ⟨v6,zt6,rfl⟩:=hI.v mm6 (hd 6)
       go_simp
       refine (own_any _ z _ (hzv.ext hI.lext) SZ.out).mono ?_
       rintro e wa ⟨v,rfl,hv,hba⟩
       exact hK _ _ ((hI.world hba).y mm7 hv)
      ·obtain ⟨v4,zt4,rfl⟩:=hI.v mm4 (hd 4)
       obtain ⟨v5,zt5,rfl⟩:=hI.v mm5 (hd 5)
       go_simp
       exact hK _ _ (hI.y mm8 rfl)
     intro T w9 hI
     obtain ⟨va0,q0,rfl⟩:=hI.v mm0 rfl
     obtain ⟨va1,q1,rfl⟩:=hI.v mm1 rfl
     obtain ⟨va2,q2,rfl⟩:=hI.v mm2 rfl
     obtain ⟨va3,q3,rfl⟩:=hI.v mm3 rfl
     obtain ⟨va4,q4,rfl⟩:=hI.v mm4 rfl
     obtain ⟨va5,q5,rfl⟩:=hI.v mm5 rfl
     obtain ⟨va6,q6,rfl⟩:=hI.v mm6 rfl
     obtain ⟨va7,q7,ha7⟩:=hI.v mm7 rfl
     replace ha7 : IntV w9 va7 (z):=ha7
     obtain ⟨va8,q8,rfl⟩:=hI.v mm8 rfl
     have hT:=tmps_set [(32,.pointer (some ⟨w2.heap.size,2,none⟩)),(33,.slice (some ⟨g,0,none⟩) C oc),(34,.int .i64 j),(35,.pointer (some ⟨g,j,none⟩)),(36,.slice (some ⟨bo,0,none⟩) n n),(37,.int .i64 i),(38,.agg #[.bool s,.slice a l c]),(39,va7),(40,.pointer (some ⟨bo,i * 2,none⟩))]
      (fun j hj=>hI.keep j (by simp only [List.forall_mem_cons] at hj ⊢; simp [hj]) (by simp only [List.forall_mem_cons] at hj ⊢; simp [hj]))
      (by simp only [List.forall_mem_cons]; simp [q0,q1,q2,q3,q4,q5,q6,q7,q8]) hI.size
     have hlw9:=hI.lext
     have hbw9:=hI.bel (W6.heap.size) oM nom
     have holdw9:=hI.old
     clear hI
     simp only [List.foldl_cons,List.foldl_nil,List.setIfInBounds_toArray,List.set_cons_zero,List.set_cons_succ,ptr] at hT
     subst hT
     clear q0 q1 q2 q3 q4 q5 q6 q7 q8
     simp only [List.drop_succ_cons,List.drop_zero]
     obtain ⟨pn,pa,pl,pc,px,rfl,hpx⟩:=id ha7
     have HPX:=Lib.hid hpx
     clear hpx
     have ho9:=ho.below hbw9
     obtain ⟨sn,sa,sl,sc,z1,z2,z3,z4,-⟩:=ho9.cellAt hbo hlt
     have hbolt:=hlts j bo hbo
     have hset:=ho9.set hbo hlt ha7
     have hbo9:=hset.2.2
     go_wp2
     go_roundw
     case rel=>
      have hq : z = f j i:=hent.out.symm
      rw [hq,trUp_step hlt hjc] at hset
      exact ⟨j + 1,by omega,by simp,bset (bset (nx hb hbw9) oM _ _) oM _ _,(set2_old _ _ _ _ _ _ _ oM).trans (br.below hbw9),(set2_old _ _ _ _ _ _ _ oM).trans (T5.below hbw9),hset.1⟩
     case measure=>simp [intOf]; omega
    ·obtain rfl : j = C:=by omega
     rw [trUp_row] at ho
     go_wp2
     go_roundw
     case rel=>exact ⟨i + 1,by omega,by simp,hb,br,T5,ho⟩
     case measure=>simp [intOf]; omega
  ·obtain rfl : i = n:=by omega
   rw [trUp_end] at ho
   obtain ⟨f1,f2,f3,f4,f5,f6⟩:=T5.three
   obtain ⟨r1,r2,r3,r4,r5,r6⟩:=br.three
   go_wp2
   refine bodyPost_mat rfl rfl rfl (br.put3 _ _ _) ⟨_,bs,rfl,⟨hbl,_,rfl,?_⟩,bset (bset (bset hb oM 0 _) oM 1 _) oM 2 _⟩
   exact (ho.keep (fun k hk=>set3_old _ _ k _ _ _ oM) (br.lext3 dE _ _ _)).mono oM
def Zn (A : Value) (bs : List Nat) (b : Nat) : Prop:=b ∈ bs ∨ A.ownBlock = some b
def Ap (A : Value) (bs : List Nat) (A' : Value) (bs' : List Nat) : Prop:=∀b,Zn A bs b->¬ Zn A' bs' b
theorem Ap.far {A A' : Value} {bs bs' : List Nat} (h : Ap A bs A' bs') : Far bs bs':=fun b h1 h2=>h b (.inl h1) (.inl h2)
theorem Ap.own {A A' : Value} {bs bs' : List Nat} (h : Ap A bs A' bs') : ∀g,A.ownBlock = some g->A'.ownBlock ≠ some g:=fun g h1 h2=>h g (.inr h1) (.inr h2)
theorem Ap.symm {A A' : Value} {bs bs' : List Nat} (h : Ap A bs A' bs') : Ap A' bs' A bs:=fun b h1 h2=>h b h2 h1
theorem Wri.zlt {w : World} {A : Value} {R C : Nat} {bs : List Nat} {F : Nat->Nat->Int} (h : Wri w A R C bs F) {b : Nat} (hb : Zn A bs b) : b < w.heap.size:=by
 rcases hb with hb | hb
 ·exact (h.blk hb).elim fun r hr=>hr.lt
 ·rcases (RowsO.own h).2 with ⟨rfl,-⟩ | ⟨g,cap,cur,rfl,-,hh,-⟩
  ·cases hb
  ·simp only [Value.ownBlock,Option.some.injEq] at hb
   subst hb
   exact (Array.getElem?_eq_some_iff.1 hh).1
theorem Wri.keepZ {Z : Nat->Prop} {w w' : World} {A : Value} {R C : Nat} {bs : List Nat} {F : Nat->Nat->Int} (h : Wri w A R C bs F) (ho : OnlyZ Z w w') (hz : ∀b,Zn A bs b->¬ Z b) : Wri w' A R C bs F:=
 RowsO.same h (fun b hb=>ho.old b (h.zlt (.inl hb)) (hz b (.inl hb))) (fun g hg=>ho.old g (h.zlt (.inr hg)) (hz g (.inr hg))) ho.lext
theorem Wri.rown {w : World} {A A' : Value} {R C R' C' : Nat} {bs bs' : List Nat} {F F' : Nat->Nat->Int} (h : Wri w A R C bs F) (h' : Wri w A' R' C' bs' F') {b : Nat} (hb : b ∈ bs) : A'.ownBlock ≠ some b:=by
 intro e
 obtain ⟨r,hr⟩:=h.blk hb
 exact own_ne (RowsO.own h') hr e.symm
theorem Ap.of {w : World} {A A' : Value} {R C R' C' : Nat} {bs bs' : List Nat} {F F' : Nat->Nat->Int} (h : Wri w A R C bs F) (h' : Wri w A' R' C' bs' F') (hf : Far bs bs') (ho : ∀g,A.ownBlock = some g->A'.ownBlock ≠ some g) : Ap A bs A' bs':=by
 intro b h1 h2
 rcases h1 with h1 | h1
 ·rcases h2 with h2 | h2
  ·exact hf b h1 h2
  ·exact h.rown h' h1 h2
 ·rcases h2 with h2 | h2
  ·exact h'.rown h h2 h1
  ·exact ho b h1 h2
theorem Wri.mat {w : World} {A : Value} {R C : Nat} {bs : List Nat} {F : Nat->Nat->Int} (h : Wri w A R C bs F) : MatV w (.agg #[.int .i64 R,.int .i64 C,A]) R C (genM R C F):=⟨A,rfl,RowsO.rows h⟩
abbrev tW : TypeId:=79
structure WorkV (w : World) (base wb RS CS R C Cu Cw : Nat) (AS AU AV AW AX : Value) (bS bU bV bW bX : List Nat) (z : W5) : Prop where
 blk : Blk w wb tW #[.int .i64 RS,.int .i64 CS,AS,.int .i64 R,.int .i64 Cu,AU,.int .i64 R,.int .i64 Cu,AV,.int .i64 C,.int .i64 Cw,AW,.int .i64 C,.int .i64 Cw,AX]
 wbb : base<=wb
 mS : Wri w AS RS CS bS z.s
 mU : Wri w AU R Cu bU z.u
 mV : Wri w AV R Cu bV z.v
 mW : Wri w AW C Cw bW z.w
 mX : Wri w AX C Cw bX z.x
 zb : ∀b,Zn AS bS b ∨ Zn AU bU b ∨ Zn AV bV b ∨ Zn AW bW b ∨ Zn AX bX b->base<=b
 su : Ap AS bS AU bU
 sv : Ap AS bS AV bV
 sw : Ap AS bS AW bW
 sx : Ap AS bS AX bX
 uv : Ap AU bU AV bV
 uw : Ap AU bU AW bW
 ux : Ap AU bU AX bX
 vw : Ap AV bV AW bW
 vx : Ap AV bV AX bX
 wx : Ap AW bW AX bX
theorem WorkV.below {w w' : World} {base wb RS CS R C Cu Cw : Nat} {AS AU AV AW AX : Value} {bS bU bV bW bX : List Nat} {z : W5} (h : WorkV w base wb RS CS R C Cu Cw AS AU AV AW AX bS bU bV bW bX z) (hb : Below w.heap.size w w') : WorkV w' base wb RS CS R C Cu Cw AS AU AV AW AX bS bU bV bW bX z:=
 ⟨h.blk.below hb,h.wbb,h.mS.below hb,h.mU.below hb,h.mV.below hb,h.mW.below hb,h.mX.below hb,h.zb,h.su,h.sv,h.sw,h.sx,h.uv,h.uw,h.ux,h.vw,h.vx,h.wx⟩
theorem Wri.nwb {w : World} {A : Value} {R C : Nat} {bs : List Nat} {F : Nat->Nat->Int} (h : Wri w A R C bs F) {wb : Nat} {cs : Array Value} (hw : Blk w wb tW cs) : ¬ Zn A bs wb:=by
 intro hh
 have hw' : w.heap[wb]? = some (.cells cs tW (0,0)):=hw
 rcases hh with hb | hb
 ·obtain ⟨r,cs',q1,-⟩:=h.blk hb
  rw [hw'] at q1
  injection q1 with q1
  injection q1 with _ ht
  exact absurd ht dE
 ·rcases (RowsO.own h).2 with ⟨rfl,-⟩ | ⟨g,cap,cur,rfl,-,hh,-⟩
  ·cases hb
  ·simp only [Value.ownBlock,Option.some.injEq] at hb
   subst hb
   rw [hw'] at hh
   injection hh with hh
   injection hh with _ ht
   exact absurd ht dE
theorem Blk.fifteen {w : World} {g : Nat} {t : TypeId} {c0 c1 c2 c3 c4 c5 c6 c7 c8 c9 c10 c11 c12 c13 c14 : Value} (h : Blk w g t #[c0,c1,c2,c3,c4,c5,c6,c7,c8,c9,c10,c11,c12,c13,c14]) :
  w.cell? ⟨g,0,none⟩ = some c0/\w.cell? ⟨g,1,none⟩ = some c1/\w.cell? ⟨g,2,none⟩ = some c2/\w.cell? ⟨g,5,none⟩ = some c5/\w.cell? ⟨g,8,none⟩ = some c8/\w.cell? ⟨g,11,none⟩ = some c11/\w.cell? ⟨g,14,none⟩ = some c14 ∧
   w.frozen? ⟨g,0,none⟩ = false/\w.frozen? ⟨g,1,none⟩ = false/\w.frozen? ⟨g,2,none⟩ = false:=
 ⟨h.cell 0,h.cell 1,h.cell 2,h.cell 5,h.cell 8,h.cell 11,h.cell 14,h.frozen 0,h.frozen 1,h.frozen 2⟩
structure BSd (B : Nat) : Prop where
 smd : ∀z : Int,z.natAbs < B->Smd z
theorem BSd.bsm {B : Nat} (h : BSd B) : BSm B:=⟨fun z hz=>(h.smd z hz).sm⟩
def okTw (B C : Nat) (F : Nat->Nat->Int) (i j : Nat) (m0 m1 m2 m3 : Int) : Prop:=
 m0.natAbs < B/\m1.natAbs < B/\m2.natAbs < B/\m3.natAbs < B/\∀t,t < C->(F i t).natAbs < B/\(F j t).natAbs < B/\(m0 * F i t).natAbs < B/\(m1 * F j t).natAbs < B/\(m2 * F i t).natAbs < B/\(m3 * F j t).natAbs < B
theorem okTw.bl {B C : Nat} {F : Nat->Nat->Int} {i j : Nat} {m0 m1 m2 m3 : Int} (hB : BSm B) (h : okTw B C F i j m0 m1 m2 m3) : BlSm C (F i) (F j) m0 m1 m2 m3:=fun t ht=>by
 obtain ⟨-,-,-,-,h5⟩:=h
 obtain ⟨q1,q2,q3,q4,q5,q6⟩:=h5 t ht
 exact ⟨hB.sm _ q1,hB.sm _ q2,hB.sm _ q3,hB.sm _ q4,hB.sm _ q5,hB.sm _ q6⟩
theorem okTw.ms {B C : Nat} {F : Nat->Nat->Int} {i j : Nat} {m0 m1 m2 m3 : Int} (hB : BSm B) (h : okTw B C F i j m0 m1 m2 m3) : Sm m0/\Sm m1/\Sm m2/\Sm m3:=⟨hB.sm _ h.1,hB.sm _ h.2.1,hB.sm _ h.2.2.1,hB.sm _ h.2.2.2.1⟩
structure DivOk (B C Cu Cw : Nat) (z : W5) (i j : Nat) : Prop where
 sz : (z.s i i).natAbs < B/\(z.s j j).natAbs < B
 g0 : Int.gcd (z.s i i) (z.s j j) ≠ 0
 all : ∀g u v s t : Int,g = ((Int.gcd (z.s i i) (z.s j j) : Nat) : Int)->u = z.s i i / g->v = z.s j j / g->Bez (z.s i i) (z.s j j) s t ->
  (z.s i i * v).natAbs < B/\(t * v).natAbs < B/\okTw B Cu z.u i j s t (-v) u/\okTw B Cu z.v i j u v (-t) s/\okTw B Cw z.w i j 1 1 (-(t * v)) (1 - t * v)/\okTw B Cw z.x i j (1 - t * v) (t * v) (-1) 1
section
variable {P : Program} {ops : Array Oper} {Q : Exit->Act->World->Prop}
def reach (ops : Array Oper) : Nat->Nat->Nat->Bool
 | 0,j,k=>j == k
 | f + 1,j,k=>j == k || ((ops[j]?).map (fun o=>o.after.any fun e=>Region.binds .any e && reach ops f e.on k)).getD false
theorem reach_spec {L : Array Bool} (hcl : ClosedL ops L) : ∀{f j k : Nat},reach ops f j k = true->L[j]? = some true->L[k]? = some true:=by
 intro f
 induction f with
 | zero=>
  intro j k h hj
  unfold reach at h
  rw [<-(beq_iff_eq.1 h)]
  exact hj
 | succ f ih=>
  intro j k h hj
  unfold reach at h
  rw [Bool.or_eq_true] at h
  rcases h with h | h
  ·rw [<-(beq_iff_eq.1 h)]
   exact hj
  ·cases ho : ops[j]? with
   | none=>rw [ho] at h; simp at h
   | some o=>
    rw [ho] at h
    simp only [Option.map_some,Option.getD_some] at h
    rw [<-Array.any_toList,List.any_eq_true] at h
    obtain ⟨e,he,h2⟩:=h
    rw [Bool.and_eq_true] at h2
    refine ih h2.2 (hcl j o ho hj e.on ?_)
    unfold waits
    rw [<-Array.any_toList,List.any_eq_true]
    exact ⟨e,he,by simp [h2.1]⟩
variable {W : World} {n0 : Nat} {T0 : Array Value} {tB : TypeId} {vs : List VS} {bs : List BS} {es : List ES} {L : Array Bool} {T : Array Value} {w w' : World}
theorem RI.skip {k : Nat} (h : RI W n0 T0 tB vs bs es L T w) (h1 : ∀s ∈ vs,s.op ≠ k) (h2 : ∀s ∈ bs,s.al ≠ k/\s.st ≠ k) (h3 : ∀s ∈ es,s.st ≠ k) : RI W n0 T0 tB vs bs es (L.setIfInBounds k true) T w:=
 ⟨h.wf,h.tb,h.lv,h.lb,h.le,h.eb,h.ed,h.size,h.keep,h.bel0,h.old,h.lext,h.ge,
  fun s hs hl=>listed_mono (h.sto s hs (set_true hl (Ne.symm (h2 s hs).2))),
  fun s hs hl=>h.val s hs (set_true hl (Ne.symm (h1 s hs))),
  fun s hs hl=>by
   obtain ⟨b,x,y,e1,e2,e3,e4⟩:=h.box s hs (set_true hl (Ne.symm (h2 s hs).1))
   exact ⟨b,x,y,e1,e2,e3,fun hh=>e4 (set_true hh (Ne.symm (h2 s hs).2))⟩,
  fun s hs t ht hne l1 l2 b c e1 e2=>h.far s hs t ht hne (set_true l1 (Ne.symm (h2 s hs).1)) (set_true l2 (Ne.symm (h2 t ht).1)) b c e1 e2,
  fun s hs=>by
   obtain ⟨⟨x,y,e1,e2⟩,e3⟩:=h.ex s hs
   exact ⟨⟨x,y,e1,fun hh=>e2 (set_true hh (Ne.symm (h3 s hs)))⟩,fun hh=>e3 (set_ne hh)⟩⟩
theorem frozen_same {w W : World} {b o : Nat} (h : w.heap[b]? = W.heap[b]?) : w.frozen? ⟨b,o,none⟩ = W.frozen? ⟨b,o,none⟩:=by
 simp only [World.frozen?,h]
theorem cell_same {w W : World} {b o : Nat} (h : w.heap[b]? = W.heap[b]?) : w.cell? ⟨b,o,none⟩ = W.cell? ⟨b,o,none⟩:=by
 simp only [World.cell?,h]
def cellOf (T : Array Value) (sl k : Nat) : Value:=match T[sl]? with
 | some (.agg cs)=>cs.getD k undef
 | _=>undef
def put2At (sl b o : Nat) : Array Value->World->World:=fun T w=>(w.setCell ⟨b,o,none⟩ (cellOf T sl 0)).setCell ⟨b,o + 1,none⟩ (cellOf T sl 1)
theorem cellOf_two {T : Array Value} {sl : Nat} {x y : Value} (h : T[sl]? = some (.agg #[x,y])) : cellOf T sl 0 = x/\cellOf T sl 1 = y:=by
 unfold cellOf
 rw [h]
 exact ⟨rfl,rfl⟩
structure RIS (W : World) (n0 : Nat) (T0 : Array Value) (tB : TypeId) (vs : List VS) (bs : List BS) (es : List ES) (k1 k2 : Nat) (p1 : World->World) (p2 : Array Value->World->World) (L : Array Bool) (T : Array Value) (w : World) : Prop where
 ex : ∃w0,RI W n0 T0 tB vs bs es L T w0/\(L[k1]? ≠ some true->w = w0)/\(L[k1]? = some true->L[k2]? ≠ some true->w = p1 w0)/\(L[k2]? = some true->w = p2 T (p1 w0))
variable {n k1 k2 : Nat} {p1 : World->World} {p2 : Array Value->World->World}
theorem RIS.start (h : RI W n0 T0 tB vs bs es (Array.replicate n false) T w) : RIS W n0 T0 tB vs bs es k1 k2 p1 p2 (Array.replicate n false) T w:=by
 have hf : ∀k : Nat,(Array.replicate n false)[k]? ≠ some true:=by
  intro k h
  rw [Array.getElem?_replicate] at h
  split at h <;> simp at h
 exact ⟨w,h,fun _=>rfl,fun h1=>absurd h1 (hf _),fun h1=>absurd h1 (hf _)⟩
theorem StepAt.lift {ds : List Deferred} {k : Nat} {o : Oper} (hr1 : reach ops 9 k1 k = true) (hr2 : reach ops 9 k2 k1 = true) (hk : k ≠ k1/\k ≠ k2) (h : StepAt P ops Q ds (RI W n0 T0 tB vs bs es) k o) : StepAt P ops Q ds (RIS W n0 T0 tB vs bs es k1 k2 p1 p2) k o:=by
 intro L T w hL hd hcl hI K hK
 obtain ⟨w0,hri,h1,h2,h3⟩:=hI.ex
 have hn : L[k1]? ≠ some true:=fun hh=>by
  have:=reach_spec hcl hr1 hh
  rw [hL] at this
  cases this
 have hn2 : L[k2]? ≠ some true:=fun hh=>hn (reach_spec hcl hr2 hh)
 obtain rfl:=h1 hn
 exact h L T w hL @hd hcl hri K (fun T' w' hI'=>hK T' w' ⟨w',hI',fun _=>rfl,fun hh=>absurd (set_true hh hk.1) hn,fun hh=>absurd (set_true hh hk.2) hn2⟩)
theorem RIS.value {k : Nat} {v : Value} (h : RIS W n0 T0 tB vs bs es k1 k2 p1 p2 L T w) (hcl : ClosedL ops L) (hr2 : reach ops 9 k2 k = true) (hL : L[k]? = some false) (hk : k ≠ k1/\k ≠ k2) (s : VS) (hs : s ∈ vs) (hsk : s.op = k) (hP : ∀w,s.P w v) :
  RIS W n0 T0 tB vs bs es k1 k2 p1 p2 (L.setIfInBounds k true) (T.setIfInBounds s.slot v) w:=by
 obtain ⟨w0,hri,h1,h2,h3⟩:=h.ex
 have hn2 : L[k2]? ≠ some true:=fun hh=>by
  have:=reach_spec hcl hr2 hh
  rw [hL] at this
  cases this
 exact ⟨w0,hri.value s hs hsk (hP w0),fun hh=>h1 (set_ne hh),fun hh hh2=>h2 (set_true hh hk.1) (set_ne hh2),fun hh=>absurd (set_true hh hk.2) hn2⟩
theorem RIS.val {s : VS} (h : RIS W n0 T0 tB vs bs es k1 k2 p1 p2 L T w) (hs : s ∈ vs) (hl : L[s.op]? = some true) (hP : ∀w w' v,s.P w v->s.P w' v) : ∃v,T[s.slot]? = some v/\∀w,s.P w v:=by
 obtain ⟨w0,hri,-⟩:=h.ex
 obtain ⟨v,e1,e2⟩:=hri.val s hs hl
 exact ⟨v,e1,fun w=>hP _ _ _ e2⟩
theorem RIS.keep {j : Nat} (h : RIS W n0 T0 tB vs bs es k1 k2 p1 p2 L T w) (h1 : ∀s ∈ vs,s.slot ≠ j) (h2 : ∀s ∈ bs,s.slot ≠ j) : T[j]? = T0[j]?:=by
 obtain ⟨w0,hri,-⟩:=h.ex
 exact hri.keep j h1 h2
theorem RIS.first (h : RIS W n0 T0 tB vs bs es k1 k2 p1 p2 L T w) (hcl : ClosedL ops L) (hr2 : reach ops 9 k2 k1 = true) (hL : L[k1]? = some false) (hne : k1 ≠ k2) (h1 : ∀s ∈ vs,s.op ≠ k1) (h2 : ∀s ∈ bs,s.al ≠ k1/\s.st ≠ k1) (h3 : ∀s ∈ es,s.st ≠ k1) :
  RI W n0 T0 tB vs bs es L T w/\RIS W n0 T0 tB vs bs es k1 k2 p1 p2 (L.setIfInBounds k1 true) T (p1 w):=by
 obtain ⟨w0,hri,g1,g2,g3⟩:=h.ex
 have hn : L[k1]? ≠ some true:=by rw [hL]; simp
 have hn2 : L[k2]? ≠ some true:=fun hh=>hn (reach_spec hcl hr2 hh)
 have hw : w = w0:=g1 hn
 subst hw
 refine ⟨hri,⟨w,hri.skip h1 h2 h3,fun hh=>absurd (Array.getElem?_setIfInBounds_self_of_lt (Array.getElem?_eq_some_iff.1 hL).1) hh,fun _ _=>rfl,fun hh=>absurd (set_true hh hne) hn2⟩⟩
theorem RIS.second (h : RIS W n0 T0 tB vs bs es k1 k2 p1 p2 L T w) (hl1 : L[k1]? = some true) (hL : L[k2]? = some false) (h1 : ∀s ∈ vs,s.op ≠ k2) (h2 : ∀s ∈ bs,s.al ≠ k2/\s.st ≠ k2) (h3 : ∀s ∈ es,s.st ≠ k2) :
  ∃w0,w = p1 w0/\RI W n0 T0 tB vs bs es L T w0/\RIS W n0 T0 tB vs bs es k1 k2 p1 p2 (L.setIfInBounds k2 true) T (p2 T (p1 w0)):=by
 obtain ⟨w0,hri,g1,g2,g3⟩:=h.ex
 have hn2 : L[k2]? ≠ some true:=by rw [hL]; simp
 refine ⟨w0,g2 hl1 hn2,hri,⟨w0,hri.skip h1 h2 h3,fun hh=>absurd (listed_mono hl1) hh,fun _ hh=>absurd (Array.getElem?_setIfInBounds_self_of_lt (Array.getElem?_eq_some_iff.1 hL).1) hh,fun _=>rfl⟩⟩
theorem RIS.fin (h : RIS W n0 T0 tB vs bs es k1 k2 p1 p2 (Array.replicate n true) T w) (hk : k2 < n) : ∃w0,RI W n0 T0 tB vs bs es (Array.replicate n true) T w0/\w = p2 T (p1 w0):=by
 obtain ⟨w0,hri,g1,g2,g3⟩:=h.ex
 exact ⟨w0,hri,g3 (by simp [hk])⟩
end
end Go.Proofs.YtnocgagoaldfnaaGreat
