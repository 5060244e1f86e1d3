/- torsionlaw13.SmithSums: whatever the input, it returns true, and the input reads as it did. No conditions. -/
import Derived.Test.YtnocgagoaldfnaaGreatRows
import Derived.Test.YtnocgagoaldfnaaGreatD49
import Derived.Test.YtnocgagoaldfnaaGreatX01
set_option linter.unusedVariables false
set_option linter.unusedSimpArgs false
set_option linter.unusedSectionVars false
namespace Go.Proofs.YtnocgagoaldfnaaGreat
open Go.ChangeShapes Go.WideShapes Go.ChangeAt Go.RowKit
set_option maxRecDepth 100000 in
theorem smithSums_lifted (os : Os) (started : os.Started) (H : Type) (enc : TypeId × Value->H) :
  ReturnsInHanded {} Tryz.checked os 10 .any (Rows.smithSumsSpec.pre6 enc Tryz.prog Tryz.f10 Rows.smithSumsRow.domain false) (Rows.smithSumsSpec.post enc Tryz.prog Tryz.f10 false true false false):=by
 refine returnsInHanded_of_change (C:=Tryz.checked) Tryz.own started kR Tryz.func10
  (ChangeSpec.witness6 (enc:=enc) (C:=Tryz.checked) false ⟨#[],#[.int .i16 0,.int .i16 0,.agg #[.int .u8 0,.int .u8 0]],[]⟩ 8 kR kR kR kR) ?_
 intro W base args ds gs before hval0 hW hcnd _
 have hval : ∀(j : Nat) t v,Tryz.f10.params[j]? = some t->args[j]? = some v->Value.okWide Tryz.prog W .any base t v:=hval0
 have hW':=hW
 obtain ⟨p,q,hA0,hV,rfl,hfz,hnd⟩:=hW
 have hA : DataW.TrodAll enc Tryz.prog W 0 (fun _=>true) true Tryz.f10.params.toList args.toList ds p:=hA0
 rw [Tryz.params10] at hA hval
 obtain ⟨v0,v1,v2,d0,d1,d2,p0,p1,p2,rfl,rfl,rfl,h0,h1,h2⟩:=trodAll_three hA
 obtain ⟨rfl,rfl⟩:=trodVars_none hV
 clear hA0 hval0
 simp only [List.append_nil] at hW'
 obtain ⟨x,rfl,rfl,rfl,wx⟩:=open_int Tryz.underlying47 (hval 0 47 v0 rfl rfl) h0
 obtain ⟨y,rfl,rfl,rfl,wy⟩:=open_int Tryz.underlying47 (hval 1 47 v1 rfl rfl) h1
 obtain ⟨a,b,rfl,ha,hb⟩:=open_pair (hval 2 40 v2 rfl rfl) h2
 simp only [List.nil_append] at hW'
 have hlt2 : ∀x ∈ p2,x.block < W.heap.size:=fun x hx=>hW'.lt x hx
 refine (smithSums_any x y a b W (bounds_i16 wx) (bounds_i16 wy) ha hb).mono fun e W' ⟨he,hB⟩=>?_
 subst he
 refine ⟨_,rfl,_,_,_,[],p2,[],hW',?_,?_,rfl,hB.frame _,fun h=>by cases h⟩
 ·exact trodAll_mk1 (shut_bool Tryz.underlying4 true)
 ·exact trodAll_mk3 (shut_int Tryz.underlying47 wx) (shut_int Tryz.underlying47 wy) (Below.trod Tryz.laidOut kR (of_decide_eq_true kR) h2 hB hlt2)
theorem smithSums_holds : Rows.SmithSumsSaid:=
 OpenClaim.holds_of_wide 10 Tryz.f10 rfl rfl rfl rfl rfl rfl rfl ⟨rfl,rfl,rfl,rfl,rfl⟩ rfl rfl rfl rfl rfl kR Tryz.func10 kR
  (of_decide_eq_true kR) (by unfold Func.isWrapper; first | (rw [if_pos (by decide +kernel)]; kernel_rfl) | (rw [if_neg (by decide +kernel)]; exact ⟨rfl,rfl⟩))
  (fun os started H enc _=>smithSums_lifted os started H enc)
end Go.Proofs.YtnocgagoaldfnaaGreat
