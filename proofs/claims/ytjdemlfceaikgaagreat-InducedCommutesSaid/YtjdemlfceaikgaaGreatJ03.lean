/- torsionlaw29.InducedCommutes: whatever the input, it returns true, and the input reads as it did. No conditions. -/
import Derived.Test.YtjdemlfceaikgaaGreatRows
import Derived.Test.YtjdemlfceaikgaaGreatJ02
import Derived.Test.YtjdemlfceaikgaaGreatK22
set_option linter.unusedVariables false
set_option linter.unusedSimpArgs false
set_option linter.unusedSectionVars false
namespace Go.Proofs.YtjdemlfceaikgaaGreat
open Go.ChangeShapes Go.WideShapes Go.ChangeAt Go.RowKit
set_option maxRecDepth 100000 in
theorem inducedCommutes_lifted (os : Os) (started : os.Started) (H : Type) (enc : TypeId × Value->H) :
  ReturnsInHanded {} Tryz.checked os 6 .any (Rows.inducedCommutesSpec.pre6 enc Tryz.prog Tryz.f6 Rows.inducedCommutesRow.domain false) (Rows.inducedCommutesSpec.post enc Tryz.prog Tryz.f6 false true false false):=by
 refine returnsInHanded_of_change (C:=Tryz.checked) Tryz.own started kR Tryz.func6
  (ChangeSpec.witness6 (enc:=enc) (C:=Tryz.checked) false ⟨#[],#[.agg #[.int .u8 0,.slice none 0 0,.int .u8 0,.int .i8 0,.slice none 0 0],.slice none 0 0],[]⟩ 8 kR kR kR kR) ?_
 intro W base args ds gs before hval0 hW hcnd _
 have hval : ∀(j : Nat) t v,Tryz.f6.params[j]? = some t->args[j]? = some v->Value.okWide Tryz.prog W .any base t v:=hval0
 have hW':=hW
 obtain ⟨p,q,hA0,hV,rfl,hfz,hnd⟩:=hW
 have hA : DataW.TrodAll enc Tryz.prog W 0 (fun _=>true) true Tryz.f6.params.toList args.toList ds p:=hA0
 rw [Tryz.params6] at hA hval
 obtain ⟨v0,v1,d0,d1,p0,p1,rfl,rfl,rfl,h0,h1⟩:=trodAll_two hA
 obtain ⟨rfl,rfl⟩:=trodVars_none hV
 clear hA0 hval0
 simp only [List.append_nil] at hW'
 have hlt0 : ∀x ∈ p0,x.block < W.heap.size:=fun x hx=>hW'.lt x (by simp [hx])
 have hlt1 : ∀x ∈ p1,x.block < W.heap.size:=fun x hx=>hW'.lt x (by simp [hx])
 obtain ⟨s,A,N,sv,lv,L,l,rfl,hs,hA,hN,hI,hl⟩:=open_raw29 (hval 0 28 v0 rfl rfl) h0 hlt0
 obtain ⟨ls1,hI1⟩:=open_i8v (hval 1 26 v1 rfl rfl) h1 hlt1
 refine (inducedCommutes_any s A N sv lv v1 L l ls1 W hs hA hN hI hl hI1).mono fun e W' ⟨he,hB⟩=>?_
 subst he
 refine ⟨_,rfl,_,_,_,[],p0 ++ p1,[],hW',?_,?_,rfl,hB.frame _,fun h=>by cases h⟩
 ·exact trodAll_mk1 (shut_bool Tryz.underlying4 true)
 ·exact trodAll_mk2 (Below.trod Tryz.laidOut kR (of_decide_eq_true kR) h0 hB hlt0) (Below.trod Tryz.laidOut kR (of_decide_eq_true kR) h1 hB hlt1)
theorem inducedCommutes_j1 : (Rows.inducedCommutesRow.inPlace == Tryz.pinned.checked.prog.inPlace 6) = true:=by kernel_rfl
theorem inducedCommutes_j2 : (Rows.inducedCommutesRow.unfollowed == Tryz.pinned.checked.prog.unfollowed 6) = true:=by kernel_rfl
theorem inducedCommutes_j3 : (Rows.inducedCommutesRow.recurses == Tryz.pinned.checked.prog.recurses 6) = true:=by kernel_rfl
theorem inducedCommutes_j4 : (Rows.inducedCommutesRow.named == Tryz.pinned.checked.prog.varsNamed 6) = true:=by kernel_rfl
theorem inducedCommutes_joined : joinedFacts Tryz.pinned.checked.prog 6 Tryz.f6 Rows.inducedCommutesSpec Rows.inducedCommutesRow = true:=by
 unfold joinedFacts
 rw [inducedCommutes_j1,inducedCommutes_j2,inducedCommutes_j3,inducedCommutes_j4]
 kernel_rfl
theorem inducedCommutes_holds : Rows.InducedCommutesSaid:=
 OpenClaim.holds_of_wide 6 Tryz.f6 rfl rfl rfl rfl rfl rfl rfl ⟨rfl,rfl,rfl,rfl,rfl⟩ rfl rfl rfl rfl rfl kR Tryz.func6 inducedCommutes_joined
  (of_decide_eq_true kR) (by unfold Func.isWrapper; first | (rw [if_pos (by decide +kernel)]; kernel_rfl) | (rw [if_neg (by decide +kernel)]; exact ⟨rfl,rfl⟩))
  (fun os started H enc _=>inducedCommutes_lifted os started H enc)
end Go.Proofs.YtjdemlfceaikgaaGreat
