/-
  No cell of these rows narrows 'for every input' (looked for: loops, veiled, ifaces, maps, wideKeys, modest, calm, conditions, laid).
  DERIVED. THE GIVEN ROWS OF THIS SEAT. 9 by the template 'for every input the law returns true; each argument reads behind the call as it read before'; 0 by the template 'total and deterministic' (their statements: YtkidaebmhlijlaaGreatTotals.lean).
  GIVEN WITH THE SEED: the statements are not yours to turn. If you find one false, say at which input.
  Laid BY PROGRAM, IN A SANDBOX (cutbox-rows.mjs): the forced cells as the released guide's own fill.sh prints them over the translation 3108f077e16d462b… (all of the seat's roots in one cut). By AI agents, Wed Nov 11 2026. No macro, syntax, notation, axiom, sorry.
-/
import Derived.Test.YtkidaebmhlijlaaGreatChecked
import GoSem.Claim
import GoSem.ClaimJoined
import GoSem.ClaimMapViews
import Derived.JoinedTies
import Derived.KernelRfl
namespace Go.Proofs.YtkidaebmhlijlaaGreat
/- THE CELL 'sum', in the pinned program and in every row, IS THE sha256 OF THE DUMP (.gsa) THAT YtkidaebmhlijlaaGreatProg.lean LOADS. Nothing in Lean hashes anything: it is a label: what it is worth is what the hold of that sum in a sandbox is worth. -/
noncomputable def Tryz.pinned : Pinned := { name := "ytkidaebmhlijlaagreat", sum := "3108f077e16d462bbbb4b4f1624c8dc3044a547a422ee84327eb73286850038c", checked := Tryz.checked }
namespace Rows
def none {H : Type} : Left H := { results := [], args := [] }

/-- 'torsionlaw16.ModuleMatchesReference': WHATEVER THE INPUT: true; the input reads as it did. -/
def moduleMatchesReferenceSpec : ChangeSpec := { name := "moduleMatchesReference", fn := fun _ => fun
  | [d1, d2] => { results := [.lit (.bool true)], args := [d1, d2] }
  | _ => none }
def moduleMatchesReferenceRow : OpenClaim := { program := "ytkidaebmhlijlaagreat", sum := "3108f077e16d462bbbb4b4f1624c8dc3044a547a422ee84327eb73286850038c", func := "torsion/torsionlaw16.ModuleMatchesReference", spec := "moduleMatchesReference", inPlace := ["slices.overlaps[torsion/hermite.pivot]"], unfollowed := true, recurses := true, apart := false }
def ModuleMatchesReferenceSaid : Prop := moduleMatchesReferenceRow.holds Tryz.pinned (OpenSpec.ofChange moduleMatchesReferenceSpec)

/-- ITS FALSE NEIGHBOUR: 'it returns false'. Refute it at one input. -/
def moduleMatchesReferenceWrong : ChangeSpec := { name := "moduleMatchesReference", fn := fun _ => fun
  | [d1, d2] => { results := [.lit (.bool false)], args := [d1, d2] }
  | _ => none }
def ModuleMatchesReferenceWrongFalsely : Prop := moduleMatchesReferenceRow.holds Tryz.pinned (OpenSpec.ofChange moduleMatchesReferenceWrong)

/-- 'torsionlaw16.ModuleSums': WHATEVER THE INPUT: true; the input reads as it did. -/
def moduleSumsSpec : ChangeSpec := { name := "moduleSums", fn := fun _ => fun
  | [d] => { results := [.lit (.bool true)], args := [d] }
  | _ => none }
def moduleSumsRow : OpenClaim := { program := "ytkidaebmhlijlaagreat", sum := "3108f077e16d462bbbb4b4f1624c8dc3044a547a422ee84327eb73286850038c", func := "torsion/torsionlaw16.ModuleSums", spec := "moduleSums", inPlace := ["slices.overlaps[torsion/hermite.pivot]"], unfollowed := true, recurses := true, apart := false }
def ModuleSumsSaid : Prop := moduleSumsRow.holds Tryz.pinned (OpenSpec.ofChange moduleSumsSpec)

/-- ITS FALSE NEIGHBOUR: 'it returns false'. Refute it at one input. -/
def moduleSumsWrong : ChangeSpec := { name := "moduleSums", fn := fun _ => fun
  | [d] => { results := [.lit (.bool false)], args := [d] }
  | _ => none }
def ModuleSumsWrongFalsely : Prop := moduleSumsRow.holds Tryz.pinned (OpenSpec.ofChange moduleSumsWrong)

/-- 'torsionlaw16.ModuleIntersections': WHATEVER THE INPUT: true; the input reads as it did. -/
def moduleIntersectionsSpec : ChangeSpec := { name := "moduleIntersections", fn := fun _ => fun
  | [d1, d2] => { results := [.lit (.bool true)], args := [d1, d2] }
  | _ => none }
def moduleIntersectionsRow : OpenClaim := { program := "ytkidaebmhlijlaagreat", sum := "3108f077e16d462bbbb4b4f1624c8dc3044a547a422ee84327eb73286850038c", func := "torsion/torsionlaw16.ModuleIntersections", spec := "moduleIntersections", inPlace := ["slices.overlaps[torsion/hermite.pivot]"], unfollowed := true, recurses := true, apart := false }
def ModuleIntersectionsSaid : Prop := moduleIntersectionsRow.holds Tryz.pinned (OpenSpec.ofChange moduleIntersectionsSpec)

/-- ITS FALSE NEIGHBOUR: 'it returns false'. Refute it at one input. -/
def moduleIntersectionsWrong : ChangeSpec := { name := "moduleIntersections", fn := fun _ => fun
  | [d1, d2] => { results := [.lit (.bool false)], args := [d1, d2] }
  | _ => none }
def ModuleIntersectionsWrongFalsely : Prop := moduleIntersectionsRow.holds Tryz.pinned (OpenSpec.ofChange moduleIntersectionsWrong)

/-- 'torsionlaw16.ModuleLaws': WHATEVER THE INPUT: true; the input reads as it did. -/
def moduleLawsSpec : ChangeSpec := { name := "moduleLaws", fn := fun _ => fun
  | [d] => { results := [.lit (.bool true)], args := [d] }
  | _ => none }
def moduleLawsRow : OpenClaim := { program := "ytkidaebmhlijlaagreat", sum := "3108f077e16d462bbbb4b4f1624c8dc3044a547a422ee84327eb73286850038c", func := "torsion/torsionlaw16.ModuleLaws", spec := "moduleLaws", inPlace := ["slices.overlaps[torsion/hermite.pivot]"], unfollowed := true, recurses := true, apart := false }
def ModuleLawsSaid : Prop := moduleLawsRow.holds Tryz.pinned (OpenSpec.ofChange moduleLawsSpec)

/-- ITS FALSE NEIGHBOUR: 'it returns false'. Refute it at one input. -/
def moduleLawsWrong : ChangeSpec := { name := "moduleLaws", fn := fun _ => fun
  | [d] => { results := [.lit (.bool false)], args := [d] }
  | _ => none }
def ModuleLawsWrongFalsely : Prop := moduleLawsRow.holds Tryz.pinned (OpenSpec.ofChange moduleLawsWrong)

/-- 'torsionlaw16.ModuleContains': WHATEVER THE INPUT: true; the input reads as it did. -/
def moduleContainsSpec : ChangeSpec := { name := "moduleContains", fn := fun _ => fun
  | [d1, d2] => { results := [.lit (.bool true)], args := [d1, d2] }
  | _ => none }
def moduleContainsRow : OpenClaim := { program := "ytkidaebmhlijlaagreat", sum := "3108f077e16d462bbbb4b4f1624c8dc3044a547a422ee84327eb73286850038c", func := "torsion/torsionlaw16.ModuleContains", spec := "moduleContains", inPlace := ["slices.overlaps[torsion/hermite.pivot]"], unfollowed := true, recurses := true, apart := false }
def ModuleContainsSaid : Prop := moduleContainsRow.holds Tryz.pinned (OpenSpec.ofChange moduleContainsSpec)

/-- ITS FALSE NEIGHBOUR: 'it returns false'. Refute it at one input. -/
def moduleContainsWrong : ChangeSpec := { name := "moduleContains", fn := fun _ => fun
  | [d1, d2] => { results := [.lit (.bool false)], args := [d1, d2] }
  | _ => none }
def ModuleContainsWrongFalsely : Prop := moduleContainsRow.holds Tryz.pinned (OpenSpec.ofChange moduleContainsWrong)

/-- 'torsionlaw16.ModuleOrders': WHATEVER THE INPUT: true; the input reads as it did. -/
def moduleOrdersSpec : ChangeSpec := { name := "moduleOrders", fn := fun _ => fun
  | [d] => { results := [.lit (.bool true)], args := [d] }
  | _ => none }
def moduleOrdersRow : OpenClaim := { program := "ytkidaebmhlijlaagreat", sum := "3108f077e16d462bbbb4b4f1624c8dc3044a547a422ee84327eb73286850038c", func := "torsion/torsionlaw16.ModuleOrders", spec := "moduleOrders", inPlace := ["slices.overlaps[torsion/hermite.pivot]"], unfollowed := true, recurses := true, apart := false }
def ModuleOrdersSaid : Prop := moduleOrdersRow.holds Tryz.pinned (OpenSpec.ofChange moduleOrdersSpec)

/-- ITS FALSE NEIGHBOUR: 'it returns false'. Refute it at one input. -/
def moduleOrdersWrong : ChangeSpec := { name := "moduleOrders", fn := fun _ => fun
  | [d] => { results := [.lit (.bool false)], args := [d] }
  | _ => none }
def ModuleOrdersWrongFalsely : Prop := moduleOrdersRow.holds Tryz.pinned (OpenSpec.ofChange moduleOrdersWrong)

/-- 'torsionlaw16.ModuleIndices': WHATEVER THE INPUT: true; the input reads as it did. -/
def moduleIndicesSpec : ChangeSpec := { name := "moduleIndices", fn := fun _ => fun
  | [d1, d2, d3] => { results := [.lit (.bool true)], args := [d1, d2, d3] }
  | _ => none }
def moduleIndicesRow : OpenClaim := { program := "ytkidaebmhlijlaagreat", sum := "3108f077e16d462bbbb4b4f1624c8dc3044a547a422ee84327eb73286850038c", func := "torsion/torsionlaw16.ModuleIndices", spec := "moduleIndices", inPlace := ["slices.overlaps[torsion/hermite.pivot]"], unfollowed := true, recurses := true, apart := false }
def ModuleIndicesSaid : Prop := moduleIndicesRow.holds Tryz.pinned (OpenSpec.ofChange moduleIndicesSpec)

/-- ITS FALSE NEIGHBOUR: 'it returns false'. Refute it at one input. -/
def moduleIndicesWrong : ChangeSpec := { name := "moduleIndices", fn := fun _ => fun
  | [d1, d2, d3] => { results := [.lit (.bool false)], args := [d1, d2, d3] }
  | _ => none }
def ModuleIndicesWrongFalsely : Prop := moduleIndicesRow.holds Tryz.pinned (OpenSpec.ofChange moduleIndicesWrong)

/-- 'torsionlaw16.ModuleQuotients': WHATEVER THE INPUT: true; the input reads as it did. -/
def moduleQuotientsSpec : ChangeSpec := { name := "moduleQuotients", fn := fun _ => fun
  | [d] => { results := [.lit (.bool true)], args := [d] }
  | _ => none }
def moduleQuotientsRow : OpenClaim := { program := "ytkidaebmhlijlaagreat", sum := "3108f077e16d462bbbb4b4f1624c8dc3044a547a422ee84327eb73286850038c", func := "torsion/torsionlaw16.ModuleQuotients", spec := "moduleQuotients", inPlace := ["slices.overlaps[torsion/hermite.pivot]"], unfollowed := true, recurses := true, apart := false }
def ModuleQuotientsSaid : Prop := moduleQuotientsRow.holds Tryz.pinned (OpenSpec.ofChange moduleQuotientsSpec)

/-- ITS FALSE NEIGHBOUR: 'it returns false'. Refute it at one input. -/
def moduleQuotientsWrong : ChangeSpec := { name := "moduleQuotients", fn := fun _ => fun
  | [d] => { results := [.lit (.bool false)], args := [d] }
  | _ => none }
def ModuleQuotientsWrongFalsely : Prop := moduleQuotientsRow.holds Tryz.pinned (OpenSpec.ofChange moduleQuotientsWrong)

/-- 'torsionlaw16.ModuleIsomorphism': WHATEVER THE INPUT: true; the input reads as it did. -/
def moduleIsomorphismSpec : ChangeSpec := { name := "moduleIsomorphism", fn := fun _ => fun
  | [d1, d2, d3] => { results := [.lit (.bool true)], args := [d1, d2, d3] }
  | _ => none }
def moduleIsomorphismRow : OpenClaim := { program := "ytkidaebmhlijlaagreat", sum := "3108f077e16d462bbbb4b4f1624c8dc3044a547a422ee84327eb73286850038c", func := "torsion/torsionlaw16.ModuleIsomorphism", spec := "moduleIsomorphism", inPlace := ["slices.overlaps[torsion/hermite.pivot]"], unfollowed := true, recurses := true, apart := false }
def ModuleIsomorphismSaid : Prop := moduleIsomorphismRow.holds Tryz.pinned (OpenSpec.ofChange moduleIsomorphismSpec)

/-- ITS FALSE NEIGHBOUR: 'it returns false'. Refute it at one input. -/
def moduleIsomorphismWrong : ChangeSpec := { name := "moduleIsomorphism", fn := fun _ => fun
  | [d1, d2, d3] => { results := [.lit (.bool false)], args := [d1, d2, d3] }
  | _ => none }
def ModuleIsomorphismWrongFalsely : Prop := moduleIsomorphismRow.holds Tryz.pinned (OpenSpec.ofChange moduleIsomorphismWrong)

/- THE SECOND FORM. 'bulk': how many values and letters a reading holds, each counted each time it is reached (what is shared counts as often as it is met; a slice's spare places count too). A statement '..UptoSaid' is the law's where the arguments, and the package variables that the reading takes, are together of bulk at most 1048576: NARROWER than '..Said'. Prove '..Said' where nothing that the law and all that it calls make is longer than what came in: it says more and counts as full. Else prove '..UptoSaid'. A law counts once. -/
mutual
def uptoBulk {H : Type} : DataW H → Nat
  | .lit (.string bytes) => bytes.length + 1
  | .lit _ => 1
  | .nil => 1
  | .ptr d => uptoBulk d + 1
  | .slice elems spare => uptoBulkAll elems + uptoBulkAll spare + 1
  | .agg parts => uptoBulkAll parts + 1
  | .iface _ d => uptoBulk d + 1
  | .map entries => uptoBulkEntries entries + 1
  | .held _ => 1
def uptoBulkAll {H : Type} : List (DataW H) → Nat
  | [] => 0
  | d :: r => uptoBulk d + uptoBulkAll r
def uptoBulkEntries {H : Type} : List (Lit × DataW H) → Nat
  | [] => 0
  | x :: r => uptoBulkEntry x + uptoBulkEntries r
def uptoBulkEntry {H : Type} : Lit × DataW H → Nat
  | (.string bytes, d) => bytes.length + uptoBulk d + 1
  | (_, d) => uptoBulk d + 1
 end
def uptoSmall : (H : Type) → List (DataW H) → Bool := fun _ ds => decide (uptoBulkAll ds ≤ 1048576)
def OpenSpec.upto (s : _root_.Go.ChangeSpec) : _root_.Go.OpenSpec := { _root_.Go.OpenSpec.ofChange s with cond := some uptoSmall }

/-- 'torsionlaw16.ModuleMatchesReference', WHERE WHAT IT READS IS OF BULK AT MOST 1048576: true; the input reads as it did. -/
def moduleMatchesReferenceUptoRow : OpenClaim := { program := "ytkidaebmhlijlaagreat", sum := "3108f077e16d462bbbb4b4f1624c8dc3044a547a422ee84327eb73286850038c", func := "torsion/torsionlaw16.ModuleMatchesReference", spec := "moduleMatchesReference", inPlace := ["slices.overlaps[torsion/hermite.pivot]"], unfollowed := true, recurses := true, apart := false, narrowed := true }
def ModuleMatchesReferenceUptoSaid : Prop := moduleMatchesReferenceUptoRow.holds Tryz.pinned (OpenSpec.upto moduleMatchesReferenceSpec)

/-- 'torsionlaw16.ModuleSums', WHERE WHAT IT READS IS OF BULK AT MOST 1048576: true; the input reads as it did. -/
def moduleSumsUptoRow : OpenClaim := { program := "ytkidaebmhlijlaagreat", sum := "3108f077e16d462bbbb4b4f1624c8dc3044a547a422ee84327eb73286850038c", func := "torsion/torsionlaw16.ModuleSums", spec := "moduleSums", inPlace := ["slices.overlaps[torsion/hermite.pivot]"], unfollowed := true, recurses := true, apart := false, narrowed := true }
def ModuleSumsUptoSaid : Prop := moduleSumsUptoRow.holds Tryz.pinned (OpenSpec.upto moduleSumsSpec)

/-- 'torsionlaw16.ModuleIntersections', WHERE WHAT IT READS IS OF BULK AT MOST 1048576: true; the input reads as it did. -/
def moduleIntersectionsUptoRow : OpenClaim := { program := "ytkidaebmhlijlaagreat", sum := "3108f077e16d462bbbb4b4f1624c8dc3044a547a422ee84327eb73286850038c", func := "torsion/torsionlaw16.ModuleIntersections", spec := "moduleIntersections", inPlace := ["slices.overlaps[torsion/hermite.pivot]"], unfollowed := true, recurses := true, apart := false, narrowed := true }
def ModuleIntersectionsUptoSaid : Prop := moduleIntersectionsUptoRow.holds Tryz.pinned (OpenSpec.upto moduleIntersectionsSpec)

/-- 'torsionlaw16.ModuleLaws', WHERE WHAT IT READS IS OF BULK AT MOST 1048576: true; the input reads as it did. -/
def moduleLawsUptoRow : OpenClaim := { program := "ytkidaebmhlijlaagreat", sum := "3108f077e16d462bbbb4b4f1624c8dc3044a547a422ee84327eb73286850038c", func := "torsion/torsionlaw16.ModuleLaws", spec := "moduleLaws", inPlace := ["slices.overlaps[torsion/hermite.pivot]"], unfollowed := true, recurses := true, apart := false, narrowed := true }
def ModuleLawsUptoSaid : Prop := moduleLawsUptoRow.holds Tryz.pinned (OpenSpec.upto moduleLawsSpec)

/-- 'torsionlaw16.ModuleContains', WHERE WHAT IT READS IS OF BULK AT MOST 1048576: true; the input reads as it did. -/
def moduleContainsUptoRow : OpenClaim := { program := "ytkidaebmhlijlaagreat", sum := "3108f077e16d462bbbb4b4f1624c8dc3044a547a422ee84327eb73286850038c", func := "torsion/torsionlaw16.ModuleContains", spec := "moduleContains", inPlace := ["slices.overlaps[torsion/hermite.pivot]"], unfollowed := true, recurses := true, apart := false, narrowed := true }
def ModuleContainsUptoSaid : Prop := moduleContainsUptoRow.holds Tryz.pinned (OpenSpec.upto moduleContainsSpec)

/-- 'torsionlaw16.ModuleOrders', WHERE WHAT IT READS IS OF BULK AT MOST 1048576: true; the input reads as it did. -/
def moduleOrdersUptoRow : OpenClaim := { program := "ytkidaebmhlijlaagreat", sum := "3108f077e16d462bbbb4b4f1624c8dc3044a547a422ee84327eb73286850038c", func := "torsion/torsionlaw16.ModuleOrders", spec := "moduleOrders", inPlace := ["slices.overlaps[torsion/hermite.pivot]"], unfollowed := true, recurses := true, apart := false, narrowed := true }
def ModuleOrdersUptoSaid : Prop := moduleOrdersUptoRow.holds Tryz.pinned (OpenSpec.upto moduleOrdersSpec)

/-- 'torsionlaw16.ModuleIndices', WHERE WHAT IT READS IS OF BULK AT MOST 1048576: true; the input reads as it did. -/
def moduleIndicesUptoRow : OpenClaim := { program := "ytkidaebmhlijlaagreat", sum := "3108f077e16d462bbbb4b4f1624c8dc3044a547a422ee84327eb73286850038c", func := "torsion/torsionlaw16.ModuleIndices", spec := "moduleIndices", inPlace := ["slices.overlaps[torsion/hermite.pivot]"], unfollowed := true, recurses := true, apart := false, narrowed := true }
def ModuleIndicesUptoSaid : Prop := moduleIndicesUptoRow.holds Tryz.pinned (OpenSpec.upto moduleIndicesSpec)

/-- 'torsionlaw16.ModuleQuotients', WHERE WHAT IT READS IS OF BULK AT MOST 1048576: true; the input reads as it did. -/
def moduleQuotientsUptoRow : OpenClaim := { program := "ytkidaebmhlijlaagreat", sum := "3108f077e16d462bbbb4b4f1624c8dc3044a547a422ee84327eb73286850038c", func := "torsion/torsionlaw16.ModuleQuotients", spec := "moduleQuotients", inPlace := ["slices.overlaps[torsion/hermite.pivot]"], unfollowed := true, recurses := true, apart := false, narrowed := true }
def ModuleQuotientsUptoSaid : Prop := moduleQuotientsUptoRow.holds Tryz.pinned (OpenSpec.upto moduleQuotientsSpec)

/-- 'torsionlaw16.ModuleIsomorphism', WHERE WHAT IT READS IS OF BULK AT MOST 1048576: true; the input reads as it did. -/
def moduleIsomorphismUptoRow : OpenClaim := { program := "ytkidaebmhlijlaagreat", sum := "3108f077e16d462bbbb4b4f1624c8dc3044a547a422ee84327eb73286850038c", func := "torsion/torsionlaw16.ModuleIsomorphism", spec := "moduleIsomorphism", inPlace := ["slices.overlaps[torsion/hermite.pivot]"], unfollowed := true, recurses := true, apart := false, narrowed := true }
def ModuleIsomorphismUptoSaid : Prop := moduleIsomorphismUptoRow.holds Tryz.pinned (OpenSpec.upto moduleIsomorphismSpec)

end Rows
end Go.Proofs.YtkidaebmhlijlaaGreat
