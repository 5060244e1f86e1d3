/- torsionlaw13.sanity. What the Checks ask for; Invariants of a small matrix as a list. The arguments of torsionlaw13's statements, opened. -/
import Derived.ChangeArms
import Derived.ProofKit
import Derived.OpenShut
import Derived.Test.YtnocgagoaldfnaaGreatD46
set_option linter.unusedVariables false
set_option linter.unusedSimpArgs false
set_option linter.unusedSectionVars false
namespace Go.Proofs.YtnocgagoaldfnaaGreat
open Go.RowKit
theorem nxa {w W W' : World} {o : Obj} (h : Below w.heap.size w W) (hb : Below (W.alloc o).heap.size (W.alloc o) W') : Below w.heap.size w W':=nx (h.alloc h.size o) hb
def i64Cells (ls : List Int) : Array Value:=(ls.map (Value.int .i64)).toArray
theorem I64V.new (W : World) (ls : List Int) (hb : (ls.all fun z=>decide (-9223372036854775808<=z/\z<=9223372036854775807)) = true) (hl : ls.length<=1000) :
  I64V (W.alloc (.cells (i64Cells ls) 2)) (.slice (some ⟨W.heap.size,0,none⟩) ls.length ls.length) ls:=by
 refine ⟨_,_,_,rfl,rfl,Nat.le_refl _,by omega,fun z hz=>of_decide_eq_true (List.all_eq_true.1 hb z hz),fun _=>⟨W.heap.size,_,rfl,heap_alloc_new W _,fun k z hk=>?_⟩⟩
 simp [i64Cells,hk]
theorem lastsB_i64 (ls : List Int) : LastsB (fun w v=>I64V w v ls):=fun _ _ _ x h=>h.below x
theorem intsM (v : Value) (ls : List Int) (R C : Nat) (r c : Int) (M : List (List Int)) (w : World) (h : I64V w v ls) (hr : r = R) (hc : c = C) (hl : ls.length = R * C) (hR : R<=1000) (hC : C<=1000) (hM : genM R C (fun i j=>ls.getD (i * C + j) 0) = M) :
  Calls Tryz.prog 42 #[.int .i64 r,.int .i64 c,v] w fun e w'=>∃v,e = .returned v/\MatV w' v R C M/\Below w.heap.size w w':=by
 subst hr
 subst hc
 subst hM
 exact (ints_any v R C ls w h hl hR hC).mono fun e w' ⟨v,bs,he,hm,hb⟩=>⟨v,he,hm.mat.1,hb⟩
theorem newM (R C : Nat) (r c : Int) (w : World) (hr : r = R) (hc : c = C) (hR : R<=1000000) (hC : C<=1000000) :
  Calls Tryz.prog 22 #[.int .i64 r,.int .i64 c] w fun e w'=>∃v,e = .returned v/\MatV w' v R C (zerosM R C)/\Below w.heap.size w w':=by
 subst hr
 subst hc
 exact (r5new_any R C w hR hC).mono fun e w' ⟨v,bs,he,hm,hb⟩=>⟨v,he,hm.mat.1,hb⟩
theorem MatV.agg {w : World} {v : Value} {R C : Int} {M : List (List Int)} (h : MatV w v R C M) : ∃o n k,v = .agg #[.int .i64 R,.int .i64 C,.slice o n k]:=by
 obtain ⟨A,rfl,ao,n,cap,rfl,-⟩:=h
 exact ⟨_,_,_,rfl⟩
theorem SmithV.below {w w' : World} {f : Value} {R C : Nat} {S U V W X : List (List Int)} (h : SmithV w f R C S U V W X) (hb : Below w.heap.size w w') : SmithV w' f R C S U V W X:=by
 obtain ⟨s,u,v,x,y,e,h1,h2,h3,h4,h5⟩:=h.ex
 exact ⟨s,u,v,x,y,e,h1.below hb,h2.below hb,h3.below hb,h4.below hb,h5.below hb⟩
theorem r13sameT (v1 v2 : Value) (xs : List Int) (w : World) (h1 : VecV w v1 xs) (h2 : VecV w v2 xs) :
  Calls Tryz.prog 17 #[v1,v2] w fun e w'=>e = .returned (.bool true)/\Below w.heap.size w w':=
 (r13same_any v1 v2 xs xs w h1 h2).mono fun e w' ⟨h,hb⟩=>⟨by rw [h,decide_eq_true rfl],hb⟩
theorem sisT (v : Value) (R C : Int) (M : List (List Int)) (b : Bool) (w : World) (h : MatV w v R C M) (hS : lessL 1000000 M = true) (hR : R<=1000000) (hC : C<=1000000) (hb : IsM2 R C M = b) :
  Calls Tryz.prog 26 #[v] w fun e w'=>e = .returned (.bool b)/\Below w.heap.size w w':=
 (sis_any v R C M w h (lessL_smd million hS) hR hC).mono fun e w' ⟨h,hb'⟩=>⟨by rw [h,hb],hb'⟩
theorem sameT (v1 v2 : Value) (R C : Int) (M : List (List Int)) (w : World) (h1 : MatV w v1 R C M) (h2 : MatV w v2 R C M) :
  Calls Tryz.prog 14 #[v1,v2] w fun e w'=>∃v,e = .returned v/\v = .bool true/\Below w.heap.size w w':=
 (same_any v1 v2 R C R C M M w h1 h2).mono fun e w' ⟨h,hb⟩=>⟨_,h,by rw [decide_eq_true ⟨rfl,rfl,rfl⟩],hb⟩
theorem r13checkC (av fv : Value) (w : World) (ha : MatV w av (2 : Nat) (1 : Nat) [[4],[6]]) (hf : SmithV w fv 2 1 [[2],[0]] [[-1,1],[3,-2]] [[2,1],[3,1]] [[1]] [[1]]) :
  Calls Tryz.prog 20 #[av,fv] w fun e w'=>∃v,e = .returned v/\v = .bool true/\Below w.heap.size w w':=
 (r13check_true av fv 2 1 [[4],[6]] _ _ _ _ _ w ha hf ⟨rfl,by decide⟩ ⟨rfl,by decide⟩ ⟨rfl,by decide⟩ ⟨rfl,by decide⟩ oM oM dE dE dE (lessL_smd million dE)
  (fun _=>MulB.sm million.bsm dE) (fun _=>MulB.sm million.bsm dE) (MulB.sm million.bsm dE) (MulB.sm million.bsm dE) dE).mono fun e w' ⟨h,hb⟩=>⟨_,h,rfl,hb⟩
theorem scheckC (av fv : Value) (w : World) (ha : MatV w av (2 : Nat) (1 : Nat) [[4],[6]]) (hf : SmithV w fv 2 1 [[2],[0]] [[-1,1],[3,-2]] [[2,1],[3,1]] [[1]] [[1]]) :
  Calls Tryz.prog 21 #[av,fv] w fun e w'=>∃v,e = .returned v/\v = .bool true/\Below w.heap.size w w':=
 (scheck_true av fv 2 1 [[4],[6]] _ _ _ _ _ w ha hf ⟨rfl,by decide⟩ ⟨rfl,by decide⟩ ⟨rfl,by decide⟩ ⟨rfl,by decide⟩ ⟨rfl,by decide⟩ ⟨rfl,by decide⟩ oM oM dE dE dE (lessL_smd million dE)
  (MulB.sm million.bsm dE) (MulB.sm million.bsm dE) (MulB.sm million.bsm dE) (MulB.sm million.bsm dE) dE).mono fun e w' ⟨h,hb⟩=>⟨_,h,rfl,hb⟩
theorem scheckZ (av : Value) (w : World) (ha : MatV w av (2 : Nat) (1 : Nat) [[4],[6]]) :
  Calls Tryz.prog 21 #[av,.agg #[.int .i64 0,.int .i64 0,.slice none 0 0,.int .i64 0,.int .i64 0,.slice none 0 0,.int .i64 0,.int .i64 0,.slice none 0 0,.int .i64 0,.int .i64 0,.slice none 0 0,.int .i64 0,.int .i64 0,.slice none 0 0]] w fun e w'=>∃v,e = .returned v/\v = .bool false/\Below w.heap.size w w':=
 (scheck_zero av 2 1 [[4],[6]] w ha ⟨rfl,by decide⟩ oM).mono fun e w' ⟨h,hb⟩=>⟨_,h,rfl,hb⟩
set_option maxHeartbeats 8000000 in
set_option maxRecDepth 20000 in
theorem sanity_any (w : World) : Calls Tryz.prog 12 #[] w fun e w'=>e = .returned (.bool true)/\Below w.heap.size w w':=by
 go_enter Tryz.func12,Tryz.ntmps12
 have hB:=Below.refl w.heap.size w
 go_wp2_with fail
 refine (intsM _ [4,6] 2 1 _ _ [[4],[6]] _ (I64V.new _ [4,6] dE dE) (by rfl) (by rfl) (by rfl) oM oM (by rfl)).mono ?_
 rintro e wc ⟨v1,rfl,hm,hb1⟩
 have hB:=nxa hB hb1
 obtain ⟨co,cn,ck,rfl⟩:=hm.agg
 have HM:=HidS.mk hm
 clear hm
 go_upto_region 2 with (fail)
 refine wp_world ?_
 intro W1 hW1
 obtain ⟨hB1,bc,hs1⟩:=world1 hW1
 have hB:=nx hB hB1
 have HC:=HidS.mk (HM.out.below hB1)
 obtain ⟨c1,c2,c3,c4,c5,c6⟩:=bc.three
 clear hW1 HM
 go_wp2_with fail
 refine (form_column _ W1 HC.out).mono ?_
 rintro e w2 ⟨fv,rfl,hf,hb2⟩
 have hB:=nx hB hb2
 have bc:=bc.below hb2
 obtain ⟨sv,uv,xv,yv,zv,rfl,hs0,hu0,hx0,hy0,hz0⟩:=id hf.ex
 obtain ⟨s0,s1,s2,rfl,-⟩:=id hs0
 obtain ⟨u0,u1,u2,rfl,-⟩:=id hu0
 obtain ⟨x0,x1,x2,rfl,-⟩:=id hx0
 obtain ⟨y0,y1,y2,rfl,-⟩:=id hy0
 obtain ⟨z0,z1,z2,rfl,-⟩:=id hz0
 have HFV:=HidS.mk hf
 clear hf hs0 hu0 hx0 hy0 hz0 c1 c2 c3 c4 c5 c6
 go_upto_region 3 with (fail)
 refine wp_world ?_
 intro W3 hW3
 obtain ⟨hB3,bf,hs3⟩:=world1 hW3
 have hB:=nx hB hB3
 have bc:=bc.below hB3
 have HC:=HidS.mk ((HC.out.below hb2).below hB3)
 have HF:=HidS.mk (HFV.out.below hB3)
 have hBT:=hB
 have BC:=HidS.mk bc
 have BF:=HidS.mk bf
 clear hW3 HFV hB bc bf
 have hB:=Below.refl W3.heap.size W3
 go_wp2_with fail
 refine (intsM _ [2,0,0,3] 2 2 _ _ [[2,0],[0,3]] _ (I64V.new _ [2,0,0,3] dE dE) (by rfl) (by rfl) (by rfl) oM oM (by rfl)).mono ?_
 rintro e w1 ⟨v1,rfl,hm,hb1⟩
 have hB:=nxa hB hb1
 obtain ⟨mo,mn,mk,rfl⟩:=hm.agg
 have HM:=HidS.mk hm
 clear hm
 go_wp2_with fail
 refine (inv_23 _ _ HM.out).mono ?_
 rintro e w1 ⟨v1,rfl,hv1,hb1⟩
 have hB:=nx hB hb1
 obtain ⟨mo,mk,rfl⟩:=hv1.shape
 have HV:=HidS.mk hv1.vec
 clear hv1
 go_wp2_with fail
 refine (list_any _ [1,6] _ (I64V.new _ [1,6] dE dE) dE).mono ?_
 rintro e w1 ⟨v1,rfl,hv1,hb1⟩
 have HV1:=HidS.mk (HV.out.below (nxa (Below.refl _ _) hb1))
 have hB:=nxa hB hb1
 obtain ⟨so,sk,rfl⟩:=hv1.shape
 go_wp2_with fail
 refine (r13sameT _ _ [1,6] _ HV1.out hv1.vec).mono ?_
 rintro e w1 ⟨rfl,hb1⟩
 have hB:=nx hB hb1
 clear hv1
 clear HM HV HV1
 go_wp2_with fail
 refine (intsM _ [2,4,4,8] 2 2 _ _ [[2,4],[4,8]] _ (I64V.new _ [2,4,4,8] dE dE) (by rfl) (by rfl) (by rfl) oM oM (by rfl)).mono ?_
 rintro e w1 ⟨v1,rfl,hm,hb1⟩
 have hB:=nxa hB hb1
 obtain ⟨mo,mn,mk,rfl⟩:=hm.agg
 have HM:=HidS.mk hm
 clear hm
 go_wp2_with fail
 refine (inv_plain _ 2 2 [[2,4],[4,8]] [2] _ HM.out ⟨rfl,by decide⟩ oM oM oM kR dE).mono ?_
 rintro e w1 ⟨v1,rfl,hv1,hb1⟩
 have hB:=nx hB hb1
 obtain ⟨mo,mk,rfl⟩:=hv1.shape
 have HV:=HidS.mk hv1.vec
 clear hv1
 go_wp2_with fail
 refine (list_any _ [2] _ (I64V.new _ [2] dE dE) dE).mono ?_
 rintro e w1 ⟨v1,rfl,hv1,hb1⟩
 have HV1:=HidS.mk (HV.out.below (nxa (Below.refl _ _) hb1))
 have hB:=nxa hB hb1
 obtain ⟨so,sk,rfl⟩:=hv1.shape
 go_wp2_with fail
 refine (r13sameT _ _ [2] _ HV1.out hv1.vec).mono ?_
 rintro e w1 ⟨rfl,hb1⟩
 have hB:=nx hB hb1
 clear hv1
 clear HM HV HV1
 go_wp2_with fail
 refine (newM 2 3 _ _ _ (by rfl) (by rfl) oM oM).mono ?_
 rintro e w1 ⟨v1,rfl,hm,hb1⟩
 have hB:=nx hB hb1
 obtain ⟨mo,mn,mk,rfl⟩:=hm.agg
 have HM:=HidS.mk hm
 clear hm
 go_wp2_with fail
 refine (inv_plain _ 2 3 (zerosM 2 3) [] _ HM.out ⟨rfl,by decide⟩ oM oM oM kR dE).mono ?_
 rintro e w1 ⟨v1,rfl,hv1,hb1⟩
 have hB:=nx hB hb1
 obtain ⟨mo,mk,rfl⟩:=hv1.shape
 have HV:=HidS.mk hv1.vec
 clear hv1
 clear HM HV
 go_wp2_with fail
 refine (newM 0 3 _ _ _ (by rfl) (by rfl) oM oM).mono ?_
 rintro e w1 ⟨v1,rfl,hm,hb1⟩
 have hB:=nx hB hb1
 obtain ⟨mo,mn,mk,rfl⟩:=hm.agg
 have HM:=HidS.mk hm
 clear hm
 go_wp2_with fail
 refine (invariants_none _ 3 (zerosM 0 3) _ HM.out ⟨rfl,by decide⟩).mono ?_
 rintro e w1 ⟨v1,rfl,hv1,hb1⟩
 have hB:=nx hB hb1
 obtain ⟨mo,mk,rfl⟩:=hv1.shape
 have HV:=HidS.mk hv1.vec
 clear hv1
 clear HM HV
 go_wp2_with fail
 refine (intsM _ [1,0,0,0,2,0] 2 3 _ _ [[1,0,0],[0,2,0]] _ (I64V.new _ [1,0,0,0,2,0] dE dE) (by rfl) (by rfl) (by rfl) oM oM (by rfl)).mono ?_
 rintro e w1 ⟨v1,rfl,hm,hb1⟩
 have hB:=nxa hB hb1
 obtain ⟨mo,mn,mk,rfl⟩:=hm.agg
 have HM:=HidS.mk hm
 clear hm
 go_wp2_with fail
 refine (sisT _ _ _ [[1,0,0],[0,2,0]] true _ HM.out dE dE dE dE).mono ?_
 rintro e w1 ⟨rfl,hb1⟩
 have hB:=nx hB hb1
 clear HM
 go_wp2_with fail
 refine (intsM _ [2,0,0,1] 2 2 _ _ [[2,0],[0,1]] _ (I64V.new _ [2,0,0,1] dE dE) (by rfl) (by rfl) (by rfl) oM oM (by rfl)).mono ?_
 rintro e w1 ⟨v1,rfl,hm,hb1⟩
 have hB:=nxa hB hb1
 obtain ⟨mo,mn,mk,rfl⟩:=hm.agg
 have HM:=HidS.mk hm
 clear hm
 go_wp2_with fail
 refine (sisT _ _ _ [[2,0],[0,1]] false _ HM.out dE dE dE dE).mono ?_
 rintro e w1 ⟨rfl,hb1⟩
 have hB:=nx hB hb1
 clear HM
 go_wp2_with fail
 refine (intsM _ [0,0,0,1] 2 2 _ _ [[0,0],[0,1]] _ (I64V.new _ [0,0,0,1] dE dE) (by rfl) (by rfl) (by rfl) oM oM (by rfl)).mono ?_
 rintro e w1 ⟨v1,rfl,hm,hb1⟩
 have hB:=nxa hB hb1
 obtain ⟨mo,mn,mk,rfl⟩:=hm.agg
 have HM:=HidS.mk hm
 clear hm
 go_wp2_with fail
 refine (sisT _ _ _ [[0,0],[0,1]] false _ HM.out dE dE dE dE).mono ?_
 rintro e w1 ⟨rfl,hb1⟩
 have hB:=nx hB hb1
 clear HM
 go_wp2_with fail
 refine (intsM _ [-1] 1 1 _ _ [[-1]] _ (I64V.new _ [-1] dE dE) (by rfl) (by rfl) (by rfl) oM oM (by rfl)).mono ?_
 rintro e w1 ⟨v1,rfl,hm,hb1⟩
 have hB:=nxa hB hb1
 obtain ⟨mo,mn,mk,rfl⟩:=hm.agg
 have HM:=HidS.mk hm
 clear hm
 go_wp2_with fail
 refine (sisT _ _ _ [[-1]] false _ HM.out dE dE dE dE).mono ?_
 rintro e w1 ⟨rfl,hb1⟩
 have hB:=nx hB hb1
 clear HM
 go_wp2_with fail
 refine (intsM _ [1,1] 1 2 _ _ [[1,1]] _ (I64V.new _ [1,1] dE dE) (by rfl) (by rfl) (by rfl) oM oM (by rfl)).mono ?_
 rintro e w1 ⟨v1,rfl,hm,hb1⟩
 have hB:=nxa hB hb1
 obtain ⟨mo,mn,mk,rfl⟩:=hm.agg
 have HM:=HidS.mk hm
 clear hm
 go_wp2_with fail
 refine (sisT _ _ _ [[1,1]] false _ HM.out dE dE dE dE).mono ?_
 rintro e w1 ⟨rfl,hb1⟩
 have hB:=nx hB hb1
 clear HM
 go_wp2_with fail
 refine (newM 0 2 _ _ _ (by rfl) (by rfl) oM oM).mono ?_
 rintro e w1 ⟨v1,rfl,hm,hb1⟩
 have hB:=nx hB hb1
 obtain ⟨mo,mn,mk,rfl⟩:=hm.agg
 have HM:=HidS.mk hm
 clear hm
 go_wp2_with fail
 refine (sisT _ _ _ (zerosM 0 2) true _ HM.out dE dE dE dE).mono ?_
 rintro e w1 ⟨rfl,hb1⟩
 have hB:=nx hB hb1
 clear HM
 go_wp2_with fail
 refine (sisT _ 1 1 [] false _ ⟨_,rfl,RowsV.nil _⟩ dE dE dE dE).mono ?_
 rintro e w1 ⟨rfl,hb1⟩
 have hB:=nx hB hb1
 have bc:=BC.out.below hB
 have bf:=BF.out.below hB
 have HC:=HidS.mk (HC.out.below hB)
 have HF:=HidS.mk (HF.out.below hB)
 have HS : HidS (MatV w1 (.agg #[.int .i64 2,.int .i64 1,.slice s0 s1 s2]) 2 1 [[2],[0]]):=⟨by
  obtain ⟨sv,uv,xv,yv,zv,e,h1,-⟩:=HF.out.ex
  injection e with e
  simp only [Array.mk.injEq,List.cons.injEq] at e
  exact ⟨_,rfl,by rw [e.2.2.1]; exact h1⟩⟩
 have hBF:=nx hBT hB
 obtain ⟨c1,c2,c3,c4,c5,c6⟩:=bc.three
 obtain ⟨⟨q0,q1,q2,q3,q4,q5,q6,q7,q8,q9,q10,q11,q12,q13,q14⟩,-⟩:=bf.all15
 have hl1:=lastsB_i64 [2,0]
 go_upto_region 5 with (fail)
 refine wp_region_each rfl (RV w1 _ [⟨0,71,fun _ v=>v = .bool true⟩,⟨1,72,fun _ v=>v = .bool true⟩,⟨2,73,fun _ v=>v = .bool true⟩,⟨3,74,fun _ v=>v = .bool true⟩,⟨4,75,fun _ v=>v = .bool true⟩,⟨5,76,fun _ v=>v = .pointer (some ⟨w2.heap.size,0,none⟩)⟩,⟨6,77,fun _ v=>v = .agg #[.int .i64 2,.int .i64 1,.slice s0 s1 s2]⟩,⟨7,78,fun w v=>I64V w v [2,0]⟩,⟨8,79,fun w v=>MatV w v (2 : Nat) (1 : Nat) [[2],[0]]⟩,⟨9,80,fun _ v=>v = .bool true⟩,⟨10,81,fun _ v=>v = .bool true⟩,⟨11,82,fun _ v=>v = .bool true⟩,⟨12,83,fun _ v=>v = .agg #[.int .i64 2,.int .i64 1,.slice co cn ck]⟩,⟨13,84,fun _ v=>v = .agg #[.int .i64 2,.int .i64 1,.slice s0 s1 s2,.int .i64 2,.int .i64 2,.slice u0 u1 u2,.int .i64 2,.int .i64 2,.slice x0 x1 x2,.int .i64 1,.int .i64 1,.slice y0 y1 y2,.int .i64 1,.int .i64 1,.slice z0 z1 z2]⟩,⟨14,85,fun _ v=>v = .bool true⟩,⟨15,86,fun _ v=>v = .bool true⟩,⟨16,87,fun _ v=>v = .bool true⟩,⟨17,88,fun _ v=>v = .agg #[.int .i64 2,.int .i64 1,.slice co cn ck]⟩,⟨18,89,fun _ v=>v = .agg #[.int .i64 2,.int .i64 1,.slice s0 s1 s2,.int .i64 2,.int .i64 2,.slice u0 u1 u2,.int .i64 2,.int .i64 2,.slice x0 x1 x2,.int .i64 1,.int .i64 1,.slice y0 y1 y2,.int .i64 1,.int .i64 1,.slice z0 z1 z2]⟩,⟨19,90,fun _ v=>v = .bool true⟩,⟨20,91,fun _ v=>v = .bool true⟩,⟨21,92,fun _ v=>v = .bool true⟩,⟨22,93,fun _ v=>v = .agg #[.int .i64 2,.int .i64 1,.slice co cn ck]⟩,⟨23,94,fun _ v=>v = .agg #[.int .i64 0,.int .i64 0,.slice none 0 0,.int .i64 0,.int .i64 0,.slice none 0 0,.int .i64 0,.int .i64 0,.slice none 0 0,.int .i64 0,.int .i64 0,.slice none 0 0,.int .i64 0,.int .i64 0,.slice none 0 0]⟩,⟨24,95,fun _ v=>v = .bool false⟩,⟨25,96,fun _ v=>v = .bool true⟩,⟨26,97,fun _ v=>v = .bool true⟩,⟨27,0,fun _ v=>v = .bool true⟩]) kR RV.start ?fin1 ?steps1
 case steps1=>
  refine ⟨?_,?_,?_,?_,?_,?_,?_,?_,?_,?_,?_,?_,?_,?_,?_,?_,?_,?_,?_,?_,?_,?_,?_,?_,?_,?_,?_,?_,trivial⟩ <;> (intro L T wS hL hd hcl hI K hK; try refine step_wanted rfl ?_)
  ·have zt : T[3]? = some (.bool true):=hI.keep 3 sI
   go_simp
   exact hK _ _ (hI.y mm0 rfl)
  ·obtain ⟨_,zt0,rfl⟩:=hI.v mm0 (hd 0)
   go_simp
   exact hK _ _ (hI.y mm1 rfl)
  ·obtain ⟨_,zg,rfl⟩:=hI.v mm1 (hd 1)
   refine step_wanted (by simp [Region.wanted,yielded,zg]) ?_
   have zt : T[4]? = some (.bool true):=hI.keep 4 sI
   go_simp
   exact hK _ _ (hI.y mm2 rfl)
  ·obtain ⟨_,zt1,rfl⟩:=hI.v mm1 (hd 1)
   obtain ⟨_,zt2,rfl⟩:=hI.v mm2 (hd 2)
   go_simp
   exact hK _ _ (hI.y mm3 rfl)
  ·obtain ⟨_,zt3,rfl⟩:=hI.v mm3 (hd 3)
   go_simp
   exact hK _ _ (hI.y mm4 rfl)
  ·obtain ⟨_,zg,rfl⟩:=hI.v mm4 (hd 4)
   refine step_wanted (by simp [Region.wanted,yielded,zg]) ?_
   have zt : T[2]? = some (.pointer (some ⟨w2.heap.size,0,none⟩)):=hI.keep 2 sI
   go_simp
   exact hK _ _ (hI.y mm5 rfl)
  ·obtain ⟨_,zg,rfl⟩:=hI.v mm4 (hd 4)
   refine step_wanted (by simp [Region.wanted,yielded,zg]) ?_
   obtain ⟨_,zt5,rfl⟩:=hI.v mm5 (hd 5)
   have cc0:=hI.cell q0
   have cc1:=hI.cell q1
   have cc2:=hI.cell q2
   go_simp
   exact hK _ _ (hI.y mm6 rfl)
  ·obtain ⟨_,zg,rfl⟩:=hI.v mm4 (hd 4)
   refine step_wanted (by simp [Region.wanted,yielded,zg]) ?_
   go_simp
   exact hK _ _ ((hI.world ((Below.refl _ _).alloc (Nat.le_refl _) _)).y mm7 (I64V.new _ [2,0] dE dE))
  ·obtain ⟨_,zg,rfl⟩:=hI.v mm4 (hd 4)
   refine step_wanted (by simp [Region.wanted,yielded,zg]) ?_
   obtain ⟨v7,zt7,h7⟩:=hI.v mm7 (hd 7)
   go_simp
   refine (intsM _ [2,0] 2 1 _ _ [[2],[0]] _ h7 (by rfl) (by rfl) (by rfl) oM oM (by rfl)).mono ?_
   rintro e wa ⟨v,rfl,hv,hba⟩
   exact hK _ _ ((hI.world hba).y mm8 hv)
  ·obtain ⟨_,zg,rfl⟩:=hI.v mm4 (hd 4)
   refine step_wanted (by simp [Region.wanted,yielded,zg]) ?_
   obtain ⟨_,zt6,rfl⟩:=hI.v mm6 (hd 6)
   obtain ⟨v8,zt8,h8⟩:=hI.v mm8 (hd 8)
   go_simp
   refine (sameT _ _ 2 1 [[2],[0]] _ (HS.out.below hI.bel) h8).mono ?_
   rintro e wa ⟨v,rfl,hv,hba⟩
   exact hK _ _ ((hI.world hba).y mm9 hv)
  ·obtain ⟨_,zt4,rfl⟩:=hI.v mm4 (hd 4)
   obtain ⟨_,zt9,rfl⟩:=hI.v mm9 (hd 9)
   go_simp
   exact hK _ _ (hI.y mm10 rfl)
  ·obtain ⟨_,zt10,rfl⟩:=hI.v mm10 (hd 10)
   go_simp
   exact hK _ _ (hI.y mm11 rfl)
  ·obtain ⟨_,zg,rfl⟩:=hI.v mm11 (hd 11)
   refine step_wanted (by simp [Region.wanted,yielded,zg]) ?_
   have zt : T[1]? = some (.pointer (some ⟨wc.heap.size,0,none⟩)):=hI.keep 1 sI
   have cc0:=hI.cell c1
   have cc1:=hI.cell c2
   have cc2:=hI.cell c3
   go_simp
   exact hK _ _ (hI.y mm12 rfl)
  ·obtain ⟨_,zg,rfl⟩:=hI.v mm11 (hd 11)
   refine step_wanted (by simp [Region.wanted,yielded,zg]) ?_
   have zt : T[2]? = some (.pointer (some ⟨w2.heap.size,0,none⟩)):=hI.keep 2 sI
   have cc0:=hI.cell q0
   have cc1:=hI.cell q1
   have cc2:=hI.cell q2
   have cc3:=hI.cell q3
   have cc4:=hI.cell q4
   have cc5:=hI.cell q5
   have cc6:=hI.cell q6
   have cc7:=hI.cell q7
   have cc8:=hI.cell q8
   have cc9:=hI.cell q9
   have cc10:=hI.cell q10
   have cc11:=hI.cell q11
   have cc12:=hI.cell q12
   have cc13:=hI.cell q13
   have cc14:=hI.cell q14
   go_simp
   exact hK _ _ (hI.y mm13 rfl)
  ·obtain ⟨_,zg,rfl⟩:=hI.v mm11 (hd 11)
   refine step_wanted (by simp [Region.wanted,yielded,zg]) ?_
   obtain ⟨_,zt12,rfl⟩:=hI.v mm12 (hd 12)
   obtain ⟨_,zt13,rfl⟩:=hI.v mm13 (hd 13)
   go_simp
   refine (r13checkC _ _ _ (HC.out.below hI.bel) (HF.out.below hI.bel)).mono ?_
   rintro e wa ⟨v,rfl,hv,hba⟩
   exact hK _ _ ((hI.world hba).y mm14 hv)
  ·obtain ⟨_,zt11,rfl⟩:=hI.v mm11 (hd 11)
   obtain ⟨_,zt14,rfl⟩:=hI.v mm14 (hd 14)
   go_simp
   exact hK _ _ (hI.y mm15 rfl)
  ·obtain ⟨_,zt15,rfl⟩:=hI.v mm15 (hd 15)
   go_simp
   exact hK _ _ (hI.y mm16 rfl)
  ·obtain ⟨_,zg,rfl⟩:=hI.v mm16 (hd 16)
   refine step_wanted (by simp [Region.wanted,yielded,zg]) ?_
   have zt : T[1]? = some (.pointer (some ⟨wc.heap.size,0,none⟩)):=hI.keep 1 sI
   have cc0:=hI.cell c1
   have cc1:=hI.cell c2
   have cc2:=hI.cell c3
   go_simp
   exact hK _ _ (hI.y mm17 rfl)
  ·obtain ⟨_,zg,rfl⟩:=hI.v mm16 (hd 16)
   refine step_wanted (by simp [Region.wanted,yielded,zg]) ?_
   have zt : T[2]? = some (.pointer (some ⟨w2.heap.size,0,none⟩)):=hI.keep 2 sI
   have cc0:=hI.cell q0
   have cc1:=hI.cell q1
   have cc2:=hI.cell q2
   have cc3:=hI.cell q3
   have cc4:=hI.cell q4
   have cc5:=hI.cell q5
   have cc6:=hI.cell q6
   have cc7:=hI.cell q7
   have cc8:=hI.cell q8
   have cc9:=hI.cell q9
   have cc10:=hI.cell q10
   have cc11:=hI.cell q11
   have cc12:=hI.cell q12
   have cc13:=hI.cell q13
   have cc14:=hI.cell q14
   go_simp
   exact hK _ _ (hI.y mm18 rfl)
  ·obtain ⟨_,zg,rfl⟩:=hI.v mm16 (hd 16)
   refine step_wanted (by simp [Region.wanted,yielded,zg]) ?_
   obtain ⟨_,zt17,rfl⟩:=hI.v mm17 (hd 17)
   obtain ⟨_,zt18,rfl⟩:=hI.v mm18 (hd 18)
   go_simp
   refine (scheckC _ _ _ (HC.out.below hI.bel) (HF.out.below hI.bel)).mono ?_
   rintro e wa ⟨v,rfl,hv,hba⟩
   exact hK _ _ ((hI.world hba).y mm19 hv)
  ·obtain ⟨_,zt16,rfl⟩:=hI.v mm16 (hd 16)
   obtain ⟨_,zt19,rfl⟩:=hI.v mm19 (hd 19)
   go_simp
   exact hK _ _ (hI.y mm20 rfl)
  ·obtain ⟨_,zt20,rfl⟩:=hI.v mm20 (hd 20)
   go_simp
   exact hK _ _ (hI.y mm21 rfl)
  ·obtain ⟨_,zg,rfl⟩:=hI.v mm21 (hd 21)
   refine step_wanted (by simp [Region.wanted,yielded,zg]) ?_
   have zt : T[1]? = some (.pointer (some ⟨wc.heap.size,0,none⟩)):=hI.keep 1 sI
   have cc0:=hI.cell c1
   have cc1:=hI.cell c2
   have cc2:=hI.cell c3
   go_simp
   exact hK _ _ (hI.y mm22 rfl)
  ·obtain ⟨_,zg,rfl⟩:=hI.v mm21 (hd 21)
   refine step_wanted (by simp [Region.wanted,yielded,zg]) ?_
   go_simp
   exact hK _ _ (hI.y mm23 rfl)
  ·obtain ⟨_,zg,rfl⟩:=hI.v mm21 (hd 21)
   refine step_wanted (by simp [Region.wanted,yielded,zg]) ?_
   obtain ⟨_,zt22,rfl⟩:=hI.v mm22 (hd 22)
   obtain ⟨_,zt23,rfl⟩:=hI.v mm23 (hd 23)
   go_simp
   refine (scheckZ _ _ (HC.out.below hI.bel)).mono ?_
   rintro e wa ⟨v,rfl,hv,hba⟩
   exact hK _ _ ((hI.world hba).y mm24 hv)
  ·obtain ⟨_,zg,rfl⟩:=hI.v mm21 (hd 21)
   refine step_wanted (by simp [Region.wanted,yielded,zg]) ?_
   obtain ⟨_,zt24,rfl⟩:=hI.v mm24 (hd 24)
   go_simp
   exact hK _ _ (hI.y mm25 rfl)
  ·obtain ⟨_,zt21,rfl⟩:=hI.v mm21 (hd 21)
   obtain ⟨_,zt25,rfl⟩:=hI.v mm25 (hd 25)
   go_simp
   exact hK _ _ (hI.y mm26 rfl)
  ·obtain ⟨_,zt26,rfl⟩:=hI.v mm26 (hd 26)
   go_simp
   exact hK _ _ (hI.y mm27 rfl)
 intro T w9 hI
 obtain ⟨va0,q0,rfl⟩:=hI.v mm0 rfl
 obtain ⟨va1,q1,rfl⟩:=hI.v mm1 rfl
 obtain ⟨va2,q2,rfl⟩:=hI.v mm2 rfl
 obtain ⟨va3,q3,rfl⟩:=hI.v mm3 rfl
 obtain ⟨va4,q4,rfl⟩:=hI.v mm4 rfl
 obtain ⟨va5,q5,rfl⟩:=hI.v mm5 rfl
 obtain ⟨va6,q6,rfl⟩:=hI.v mm6 rfl
 obtain ⟨va7,q7,ha7⟩:=hI.v mm7 rfl
 obtain ⟨va8,q8,ha8⟩:=hI.v mm8 rfl
 obtain ⟨va9,q9,rfl⟩:=hI.v mm9 rfl
 obtain ⟨va10,q10,rfl⟩:=hI.v mm10 rfl
 obtain ⟨va11,q11,rfl⟩:=hI.v mm11 rfl
 obtain ⟨va12,q12,rfl⟩:=hI.v mm12 rfl
 obtain ⟨va13,q13,rfl⟩:=hI.v mm13 rfl
 obtain ⟨va14,q14,rfl⟩:=hI.v mm14 rfl
 obtain ⟨va15,q15,rfl⟩:=hI.v mm15 rfl
 obtain ⟨va16,q16,rfl⟩:=hI.v mm16 rfl
 obtain ⟨va17,q17,rfl⟩:=hI.v mm17 rfl
 obtain ⟨va18,q18,rfl⟩:=hI.v mm18 rfl
 obtain ⟨va19,q19,rfl⟩:=hI.v mm19 rfl
 obtain ⟨va20,q20,rfl⟩:=hI.v mm20 rfl
 obtain ⟨va21,q21,rfl⟩:=hI.v mm21 rfl
 obtain ⟨va22,q22,rfl⟩:=hI.v mm22 rfl
 obtain ⟨va23,q23,rfl⟩:=hI.v mm23 rfl
 obtain ⟨va24,q24,rfl⟩:=hI.v mm24 rfl
 obtain ⟨va25,q25,rfl⟩:=hI.v mm25 rfl
 obtain ⟨va26,q26,rfl⟩:=hI.v mm26 rfl
 obtain ⟨va27,q27,rfl⟩:=hI.v mm27 rfl
 have hT:=tmps_set [(71,.bool true),(72,.bool true),(73,.bool true),(74,.bool true),(75,.bool true),(76,.pointer (some ⟨w2.heap.size,0,none⟩)),(77,.agg #[.int .i64 2,.int .i64 1,.slice s0 s1 s2]),(78,va7),(79,va8),(80,.bool true),(81,.bool true),(82,.bool true),(83,.agg #[.int .i64 2,.int .i64 1,.slice co cn ck]),(84,.agg #[.int .i64 2,.int .i64 1,.slice s0 s1 s2,.int .i64 2,.int .i64 2,.slice u0 u1 u2,.int .i64 2,.int .i64 2,.slice x0 x1 x2,.int .i64 1,.int .i64 1,.slice y0 y1 y2,.int .i64 1,.int .i64 1,.slice z0 z1 z2]),(85,.bool true),(86,.bool true),(87,.bool true),(88,.agg #[.int .i64 2,.int .i64 1,.slice co cn ck]),(89,.agg #[.int .i64 2,.int .i64 1,.slice s0 s1 s2,.int .i64 2,.int .i64 2,.slice u0 u1 u2,.int .i64 2,.int .i64 2,.slice x0 x1 x2,.int .i64 1,.int .i64 1,.slice y0 y1 y2,.int .i64 1,.int .i64 1,.slice z0 z1 z2]),(90,.bool true),(91,.bool true),(92,.bool true),(93,.agg #[.int .i64 2,.int .i64 1,.slice co cn ck]),(94,.agg #[.int .i64 0,.int .i64 0,.slice none 0 0,.int .i64 0,.int .i64 0,.slice none 0 0,.int .i64 0,.int .i64 0,.slice none 0 0,.int .i64 0,.int .i64 0,.slice none 0 0,.int .i64 0,.int .i64 0,.slice none 0 0]),(95,.bool false),(96,.bool true),(97,.bool true),(0,.bool true)]
  (fun j hj=>hI.keep j (by simp only [List.forall_mem_cons] at hj ⊢; simp [hj]))
  (by simp only [List.forall_mem_cons]; simp [q0,q1,q2,q3,q4,q5,q6,q7,q8,q9,q10,q11,q12,q13,q14,q15,q16,q17,q18,q19,q20,q21,q22,q23,q24,q25,q26,q27]) hI.size
 have hbw9:=hI.bel
 clear hI
 simp only [List.foldl_cons,List.foldl_nil,List.setIfInBounds_toArray,List.set_cons_zero,List.set_cons_succ,ptr] at hT
 subst hT
 clear q0 q1 q2 q3 q4 q5 q6 q7 q8 q9 q10 q11 q12 q13 q14 q15 q16 q17 q18 q19 q20 q21 q22 q23 q24 q25 q26 q27
 have hBF:=nx hBF hbw9
 go_wp2
 go_ret
 exact ⟨rfl,hBF⟩
theorem sumTo_sumN (f : Nat->Int) (n : Nat) : sumTo f n = sumN n f:=by
 induction n with
 | zero=>rfl
 | succ n ih=>unfold sumTo sumN; rw [ih]
theorem mulf_genM {R m C : Nat} {F G : Nat->Nat->Int} {i j : Nat} (hi : i < R) (hj : j < C) : mulf (genM R m F) (genM m C G) m i j = sumN m fun t=>F i t * G t j:=by
 unfold mulf
 rw [sumTo_sumN]
 exact sumN_congr fun t ht=>by rw [ent_genM hi ht,ent_genM ht hj]
theorem BB3_sm {z : Int} (h : z.natAbs<=BB ^ 3 * 16) : Sm z:=Nat.lt_of_le_of_lt h (Nat.lt_of_le_of_lt BB_pow (B32_pow_lt DLIM LIM (by rw [DLIM_eq,LIM_eq]; omega)))
theorem MulSm_of {R m C a b : Nat} {F G : Nat->Nat->Int} (hF : leM a R m F) (hG : leM b m C G) (hm : m<=4) (ha : a<=BB ^ 3 * 16) (hb : b<=BB ^ 3 * 16) (hab : 4 * (a * b)<=BB ^ 3 * 16) : MulSm (genM R m F) (genM m C G) R m C:=by
 intro i hi j hj k hk
 rw [ent_genM hi hk,ent_genM hk hj]
 have h1:=hF i hi k hk
 have h2:=hG k hk j hj
 have h3:=abs_mul_le h1 h2
 refine ⟨BB3_sm oM,BB3_sm oM,BB3_sm oM,BB3_sm ?_⟩
 unfold mulf
 rw [sumTo_sumN]
 have h4:=sumN_natAbs (n:=k) (f:=fun t=>ent (genM R m F) i t * ent (genM m C G) t j) (B:=a * b) fun t ht=>by
  rw [ent_genM hi oM,ent_genM oM hj]
  exact abs_mul_le (hF i hi t oM) (hG t oM j hj)
 have h5 : k * (a * b)<=4 * (a * b):=Nat.mul_le_mul_right _ oM
 omega
theorem leM_of_ok {B R C : Nat} {F : Nat->Nat->Int} (h : okF B R C F) : leM B R C F:=fun a ha b hb=>Nat.le_of_lt (h a ha b hb)
theorem bb_nums {h : Nat} (hh : h<=1048576) : BB<=BB ^ 3 * 16/\h<=BB/\4 * (BB * BB)<=BB ^ 3 * 16/\4 * (BB * h)<=BB ^ 3 * 16/\4 * (BB * BB) * 4 * BB<=BB ^ 3 * 16/\4 * (4 * (BB * h) * BB)<=BB ^ 3 * 16/\4 * (BB * h)<=BB ^ 3 * 16:=by
 have h0 : 1048576<=BB:=Nat.le_trans dE BB_97
 have h1:=BB_pos
 generalize BB = B at *
 have e3 : B ^ 3 * 16 = 16 * (B * (B * B)):=by
  rw [show (3 : Nat) = 2 + 1 from rfl,Nat.pow_succ,Nat.pow_two,Nat.mul_comm,Nat.mul_comm (B * B)]
 have q1 : B<=B * B:=Nat.le_mul_of_pos_left _ h1
 have q2 : B * B<=B * (B * B):=Nat.mul_le_mul_left _ q1
 have q3 : B * h<=B * B:=Nat.mul_le_mul_left _ oM
 have q4 : B * h * B<=B * (B * B):=by
  rw [Nat.mul_assoc]
  exact Nat.mul_le_mul_left _ (Nat.mul_le_mul_right _ oM)
 have q5 : 4 * (4 * (B * h) * B) = 16 * (B * h * B):=by rw [Nat.mul_assoc 4,<-Nat.mul_assoc 4 4]
 have q6 : 4 * (B * B) * 4 * B = 16 * (B * (B * B)):=by
  rw [Nat.mul_comm (4 * (B * B)) 4,<-Nat.mul_assoc,Nat.mul_assoc,Nat.mul_comm (B * B) B]
 rw [e3,q5,q6]
 refine ⟨by omega,by omega,by omega,by omega,by omega,by omega,by omega⟩
structure Chk (R C : Nat) (A S U V W X : List (List Int)) : Prop where
 fs : Fits R C S
 fu : Fits R R U
 fv : Fits R R V
 fw : Fits C C W
 fx : Fits C C X
 is : IsM2 R C S = true
 i1 : genM R R (mulf U V R) = genM R R idf
 i2 : genM C C (mulf W X C) = genM C C idf
 ss : ∀r ∈ S,∀z ∈ r,Smd z
 m1 : MulSm U V R R R
 m2 : MulSm W X C C C
 m3 : MulSm U A R R C
 m4 : MulSm (genM R C (mulf U A R)) W R C C
 p : genM R C (mulf (genM R C (mulf U A R)) W C) = S
theorem genM_smd {R C : Nat} {F : Nat->Nat->Int} (h : okF BB R C F) : ∀r ∈ genM R C F,∀z ∈ r,Smd z:=by
 intro r hr z hz
 unfold genM at hr
 obtain ⟨i,hi,rfl⟩:=List.mem_map.1 hr
 obtain ⟨j,hj,rfl⟩:=List.mem_map.1 hz
 exact BB_smd (h i (List.mem_range.1 hi) j (List.mem_range.1 hj))
theorem Chk.of {R C r : Nat} {M : List (List Int)} {y : W5} (hR : R<=4) (hC : C<=4) (hF : Fits R C M) (hA : leM 1048576 R C (ent M)) (hr : Rel R C (ent M) y) (hI : Inv R C r (ent M) y.s) (hok : okW BB R C R C y) :
  Chk R C M (genM R C y.s) (genM R R y.u) (genM R R (trF y.v)) (genM C C (trF y.w)) (genM C C y.x):=by
 obtain ⟨o1,o2,o3,o4,o5⟩:=hok
 obtain ⟨b1,b2,b3,b4,b5,b6,b7⟩:=bb_nums (h:=1048576) (Nat.le_refl _)
 have eM : M = genM R C (ent M):=fits_genM hF
 have eUA : genM R C (mulf (genM R R y.u) M R) = genM R C fun i t=>sumN R fun s=>y.u i s * ent M s t:=genM_congr fun i hi j hj=>by
  conv=>lhs; rw [eM]
  rw [mulf_genM hi hj]
 have hUA : leM (4 * (BB * 1048576)) R C fun i t=>sumN R fun s=>y.u i s * ent M s t:=fun i hi j hj=>by
  have h1:=sumN_natAbs (n:=R) (f:=fun s=>y.u i s * ent M s j) (B:=BB * 1048576) fun t ht=>abs_mul_le (leM_of_ok o2 i hi t ht) (hA t ht j hj)
  exact Nat.le_trans h1 (Nat.mul_le_mul_right _ hR)
 refine ⟨genM_fits _ _ _,genM_fits _ _ _,genM_fits _ _ _,genM_fits _ _ _,genM_fits _ _ _,dg_isM2 hI.dg hI.chn,genM_congr fun i hi j hj=>?_,genM_congr fun i hi j hj=>?_,genM_smd o1,?_,?_,?_,?_,?_⟩
 ·rw [mulf_genM hi hj]
  exact hr.uv i hi j hj
 ·rw [mulf_genM hi hj]
  have:=hr.xw j hj i hi
  rw [idf_comm i j,<-this]
  exact sumN_congr fun t ht=>Int.mul_comm _ _
 ·exact MulSm_of (leM_of_ok o2) (leM_tr (leM_of_ok o3)) hR b1 b1 b3
 ·exact MulSm_of (leM_tr (leM_of_ok o4)) (leM_of_ok o5) hC b1 b1 b3
 ·conv=>arg 2; rw [eM]
  exact MulSm_of (leM_of_ok o2) hA hR b1 (Nat.le_trans b2 b1) b4
 ·rw [eUA]
  exact MulSm_of hUA (leM_tr (leM_of_ok o4)) hC b7 b1 b6
 ·rw [eUA]
  refine genM_congr fun i hi j hj=>?_
  rw [mulf_genM hi hj,hr.s i hi j hj]
  simp only [<-sumN_mul,<-sumN_mulr]
  rw [sumN_swap]
  refine sumN_congr fun s hs=>sumN_congr fun t ht=>?_
  show y.u i s * ent M s t * y.w j t = y.u i s * (ent M s t * y.w j t)
  rw [Int.mul_assoc]
theorem digF_leM (R C D : Nat) (ls : List Int) : leM 9 R C (digF D ls):=fun a _ b _=>digF_le D ls a b
theorem ent_leM {n R C : Nat} {F : Nat->Nat->Int} (h : leM n R C F) : leM n R C (ent (genM R C F)):=fun a ha b hb=>by rw [ent_genM ha hb]; exact h a ha b hb
theorem madeM (v : Value) (r c : Nat) (ls : List Int) (w : World) (h : I8V w v ls) (hr : r<=255) (hc : c<=255) (R C : Nat) (hR : R = r % 5) (hC : C = c % 5) :
  Calls Tryz.prog 13 #[.agg #[.int .u8 r,.int .u8 c,v]] w fun e w'=>∃v,e = .returned v/\MatV w' v R C (genM R C (digF C ls))/\Below w.heap.size w w':=
 (rawMade_any v r c ls w h hr hc R C hR hC).mono fun e w' ⟨v,bs,h,hm,hb⟩=>⟨v,h,hm.mat.1,hb⟩
end Go.Proofs.YtnocgagoaldfnaaGreat

namespace Go.Proofs.YtnocgagoaldfnaaGreat
open Go.ChangeShapes Go.WideShapes Go.ChangeAt Go.RowKit
theorem Tryz.own : ownKnob Tryz.prog.godebug = none:=by kernel_rfl
theorem Tryz.laidOut : laidOutB Tryz.prog = true:=by kernel_rfl
theorem cells5 : Tryz.prog.cellsOf 5 = 1:=by kernel_rfl
theorem open_i8 {H : Type} {enc : TypeId × Value->H} {w : World} {f : Nat} {cs : List Value} {y : DataW H × List MemPlace} (hf : DataW.trod enc Tryz.prog w 0 (fun _=>true) true f 22 cs = some y) (hlt : ∀x ∈ y.2,x.block < w.heap.size) :
  ∃ao n cap ls,cs = [.slice ao n cap]/\I8V w (.slice ao n cap) ls:=by
 rcases open_ints Tryz.underlying22 Tryz.underlying41 kR hf with ⟨e1,-⟩ | ⟨a,len,cap,zs,e1,-,hl,hm,hzl,e2,hcell,hwf⟩
 ·exact ⟨none,0,0,[],e1,none,0,0,rfl,rfl,Nat.le_refl _,by omega,fun z hz=>(by cases hz),fun h=>absurd rfl h⟩
 ·simp only [if_true] at hzl
  unfold maxLen at hm
  refine ⟨some a,len,cap,zs.take len,e1,some a,len,cap,rfl,by simp; omega,hl,by omega,fun z hz=>?_,fun h=>?_⟩
  ·have:=hwf z (List.mem_of_mem_take hz)
   exact bounds_i8 this
  ·have hpos : 0 < zs.length:=by
    rcases Nat.eq_zero_or_pos zs.length with h0 | h0
    ·exact absurd (by rw [List.eq_nil_of_length_eq_zero h0]; simp) h
    ·exact h0
   obtain ⟨b,off,rfl,hj⟩:=ints_at hcell hpos
   refine ⟨b,off,rfl,?_,fun k z hk=>?_⟩
   ·exact hlt (.cell b off) (by rw [e2]; exact MemPlace.mem_row.2 ⟨0,hpos,rfl⟩)
   ·obtain ⟨h1,h2⟩:=List.getElem?_eq_some_iff.1 hk
    rw [List.getElem_take] at h2
    have hkz : k < zs.length:=by
     simp at h1
     omega
    rw [hj k hkz,<-h2]
    simp [hkz]
set_option maxRecDepth 100000 in
theorem open_raw {H : Type} {enc : TypeId × Value->H} {w : World} {b0 : Nat} {r : Reach} {v : Value} {d : DataW H} {ps : List MemPlace} (hval : Value.okWide Tryz.prog w r b0 24 v)
  (h : DataW.Trod enc Tryz.prog w 0 (fun _=>true) true 24 v d ps) (hlt : ∀x ∈ ps,x.block < w.heap.size) : ∃(a b : Nat) (sv : Value) (ls : List Int),v = .agg #[.int .u8 a,.int .u8 b,sv]/\a<=255/\b<=255/\I8V w sv ls:=by
 simp only [Value.okWide,Tryz.underlying24] at hval
 obtain ⟨cs,rfl,hsz,-⟩:=hval
 obtain ⟨fuel,hf⟩:=h
 obtain ⟨xs,m,h0,h1,h2,h3,h4⟩:=DataW.trod_struct Tryz.underlying24 hf
 have c24 : Tryz.prog.cellsOf 24 = 3:=by kernel_rfl
 have c22 : Tryz.prog.cellsOf 22 = 1:=by kernel_rfl
 have g0 : DataW.trod enc Tryz.prog w 0 (fun _=>true) true m 5 (List.take (Tryz.prog.cellsOf 5) (List.drop 0 (Value.agg cs).cells.toList)) = xs[0]?:=h4 0 _ rfl
 have g1 : DataW.trod enc Tryz.prog w 0 (fun _=>true) true m 5 (List.take (Tryz.prog.cellsOf 5) (List.drop 1 (Value.agg cs).cells.toList)) = xs[1]?:=h4 1 _ rfl
 have g2 : DataW.trod enc Tryz.prog w 0 (fun _=>true) true m 22 (List.take (Tryz.prog.cellsOf 22) (List.drop 2 (Value.agg cs).cells.toList)) = xs[2]?:=h4 2 _ rfl
 rw [c24] at h2
 rw [cells5] at g0 g1
 rw [c22] at g2
 simp only [Value.cells] at g0 g1 g2 h2
 obtain ⟨cl⟩:=cs
 match xs,h3 with
 | [y0,y1,y2],_=>
  match cl,h2 with
  | [k0,k1,k2],_=>
   simp at g0 g1 g2
   obtain ⟨a,ha,-,wa⟩:=DataW.trod_int Tryz.underlying5 g0
   obtain ⟨b,hb,-,wb⟩:=DataW.trod_int Tryz.underlying5 g1
   simp only [Prod.mk.injEq] at h1
   obtain ⟨ao,n,cap,ls,hk,hI⟩:=open_i8 g2 (fun x hx=>hlt x (by rw [h1.2]; simp [hx]))
   simp at ha hb hk
   subst ha
   subst hb
   subst hk
   have wa:=bounds_u8 wa
   have wb:=bounds_u8 wb
   exact ⟨a.toNat,b.toNat,_,ls,by rw [Int.toNat_of_nonneg wa.1,Int.toNat_of_nonneg wb.1],by omega,by omega,hI⟩
end Go.Proofs.YtnocgagoaldfnaaGreat
