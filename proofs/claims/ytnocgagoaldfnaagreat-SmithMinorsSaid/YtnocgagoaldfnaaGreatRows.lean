/-
  No cell of these rows narrows 'for every input' (looked for: loops, veiled, ifaces, maps, wideKeys, modest, calm, conditions, laid).
  DERIVED. THE GIVEN ROWS OF THIS SEAT. 9 by the template 'for every input the law returns true; each argument reads behind the call as it read before'; 0 by the template 'total and deterministic' (their statements: YtnocgagoaldfnaaGreatTotals.lean).
  GIVEN WITH THE SEED: the statements are not yours to turn. If you find one false, say at which input.
  Laid BY PROGRAM, IN A SANDBOX (cutbox-rows.mjs): the forced cells as the released guide's own fill.sh prints them over the translation 875c883d6aff40b8… (all of the seat's roots in one cut). By AI agents, Wed Nov 11 2026. No macro, syntax, notation, axiom, sorry.
-/
import Derived.Test.YtnocgagoaldfnaaGreatChecked
import GoSem.Claim
import GoSem.ClaimJoined
import GoSem.ClaimMapViews
import Derived.JoinedTies
import Derived.KernelRfl
namespace Go.Proofs.YtnocgagoaldfnaaGreat
/- THE CELL 'sum', in the pinned program and in every row, IS THE sha256 OF THE DUMP (.gsa) THAT YtnocgagoaldfnaaGreatProg.lean LOADS. Nothing in Lean hashes anything: it is a label: what it is worth is what the hold of that sum in a sandbox is worth. -/
noncomputable def Tryz.pinned : Pinned := { name := "ytnocgagoaldfnaagreat", sum := "875c883d6aff40b8c71fa77bd79f4b89ffe18c13fc25cc17d9e3dca06c79879f", checked := Tryz.checked }
namespace Rows
def none {H : Type} : Left H := { results := [], args := [] }

/-- 'torsionlaw13.SmithMatchesReference': WHATEVER THE INPUT: true; the input reads as it did. -/
def smithMatchesReferenceSpec : ChangeSpec := { name := "smithMatchesReference", fn := fun _ => fun
  | [d] => { results := [.lit (.bool true)], args := [d] }
  | _ => none }
def smithMatchesReferenceRow : OpenClaim := { program := "ytnocgagoaldfnaagreat", sum := "875c883d6aff40b8c71fa77bd79f4b89ffe18c13fc25cc17d9e3dca06c79879f", func := "torsion/torsionlaw13.SmithMatchesReference", spec := "smithMatchesReference", unfollowed := true, recurses := true, apart := false }
def SmithMatchesReferenceSaid : Prop := smithMatchesReferenceRow.holds Tryz.pinned (OpenSpec.ofChange smithMatchesReferenceSpec)

/-- ITS FALSE NEIGHBOUR: 'it returns false'. Refute it at one input. -/
def smithMatchesReferenceWrong : ChangeSpec := { name := "smithMatchesReference", fn := fun _ => fun
  | [d] => { results := [.lit (.bool false)], args := [d] }
  | _ => none }
def SmithMatchesReferenceWrongFalsely : Prop := smithMatchesReferenceRow.holds Tryz.pinned (OpenSpec.ofChange smithMatchesReferenceWrong)

/-- 'torsionlaw13.SmithTransforms': WHATEVER THE INPUT: true; the input reads as it did. -/
def smithTransformsSpec : ChangeSpec := { name := "smithTransforms", fn := fun _ => fun
  | [d] => { results := [.lit (.bool true)], args := [d] }
  | _ => none }
def smithTransformsRow : OpenClaim := { program := "ytnocgagoaldfnaagreat", sum := "875c883d6aff40b8c71fa77bd79f4b89ffe18c13fc25cc17d9e3dca06c79879f", func := "torsion/torsionlaw13.SmithTransforms", spec := "smithTransforms", unfollowed := true, recurses := true, apart := false }
def SmithTransformsSaid : Prop := smithTransformsRow.holds Tryz.pinned (OpenSpec.ofChange smithTransformsSpec)

/-- ITS FALSE NEIGHBOUR: 'it returns false'. Refute it at one input. -/
def smithTransformsWrong : ChangeSpec := { name := "smithTransforms", fn := fun _ => fun
  | [d] => { results := [.lit (.bool false)], args := [d] }
  | _ => none }
def SmithTransformsWrongFalsely : Prop := smithTransformsRow.holds Tryz.pinned (OpenSpec.ofChange smithTransformsWrong)

/-- 'torsionlaw13.SmithIs': WHATEVER THE INPUT: true; the input reads as it did. -/
def smithIsSpec : ChangeSpec := { name := "smithIs", fn := fun _ => fun
  | [d1, d2, d3] => { results := [.lit (.bool true)], args := [d1, d2, d3] }
  | _ => none }
def smithIsRow : OpenClaim := { program := "ytnocgagoaldfnaagreat", sum := "875c883d6aff40b8c71fa77bd79f4b89ffe18c13fc25cc17d9e3dca06c79879f", func := "torsion/torsionlaw13.SmithIs", spec := "smithIs", unfollowed := true, recurses := true, apart := false }
def SmithIsSaid : Prop := smithIsRow.holds Tryz.pinned (OpenSpec.ofChange smithIsSpec)

/-- ITS FALSE NEIGHBOUR: 'it returns false'. Refute it at one input. -/
def smithIsWrong : ChangeSpec := { name := "smithIs", fn := fun _ => fun
  | [d1, d2, d3] => { results := [.lit (.bool false)], args := [d1, d2, d3] }
  | _ => none }
def SmithIsWrongFalsely : Prop := smithIsRow.holds Tryz.pinned (OpenSpec.ofChange smithIsWrong)

/-- 'torsionlaw13.SmithMinors': WHATEVER THE INPUT: true; the input reads as it did. -/
def smithMinorsSpec : ChangeSpec := { name := "smithMinors", fn := fun _ => fun
  | [d] => { results := [.lit (.bool true)], args := [d] }
  | _ => none }
def smithMinorsRow : OpenClaim := { program := "ytnocgagoaldfnaagreat", sum := "875c883d6aff40b8c71fa77bd79f4b89ffe18c13fc25cc17d9e3dca06c79879f", func := "torsion/torsionlaw13.SmithMinors", spec := "smithMinors", unfollowed := true, recurses := true, apart := false }
def SmithMinorsSaid : Prop := smithMinorsRow.holds Tryz.pinned (OpenSpec.ofChange smithMinorsSpec)

/-- ITS FALSE NEIGHBOUR: 'it returns false'. Refute it at one input. -/
def smithMinorsWrong : ChangeSpec := { name := "smithMinors", fn := fun _ => fun
  | [d] => { results := [.lit (.bool false)], args := [d] }
  | _ => none }
def SmithMinorsWrongFalsely : Prop := smithMinorsRow.holds Tryz.pinned (OpenSpec.ofChange smithMinorsWrong)

/-- 'torsionlaw13.SmithUnique': WHATEVER THE INPUT: true; the input reads as it did. -/
def smithUniqueSpec : ChangeSpec := { name := "smithUnique", fn := fun _ => fun
  | [d1, d2] => { results := [.lit (.bool true)], args := [d1, d2] }
  | _ => none }
def smithUniqueRow : OpenClaim := { program := "ytnocgagoaldfnaagreat", sum := "875c883d6aff40b8c71fa77bd79f4b89ffe18c13fc25cc17d9e3dca06c79879f", func := "torsion/torsionlaw13.SmithUnique", spec := "smithUnique", unfollowed := true, recurses := true, apart := false }
def SmithUniqueSaid : Prop := smithUniqueRow.holds Tryz.pinned (OpenSpec.ofChange smithUniqueSpec)

/-- ITS FALSE NEIGHBOUR: 'it returns false'. Refute it at one input. -/
def smithUniqueWrong : ChangeSpec := { name := "smithUnique", fn := fun _ => fun
  | [d1, d2] => { results := [.lit (.bool false)], args := [d1, d2] }
  | _ => none }
def SmithUniqueWrongFalsely : Prop := smithUniqueRow.holds Tryz.pinned (OpenSpec.ofChange smithUniqueWrong)

/-- 'torsionlaw13.SmithMade': WHATEVER THE INPUT: true; the input reads as it did. -/
def smithMadeSpec : ChangeSpec := { name := "smithMade", fn := fun _ => fun
  | [d1, d2, d3] => { results := [.lit (.bool true)], args := [d1, d2, d3] }
  | _ => none }
def smithMadeRow : OpenClaim := { program := "ytnocgagoaldfnaagreat", sum := "875c883d6aff40b8c71fa77bd79f4b89ffe18c13fc25cc17d9e3dca06c79879f", func := "torsion/torsionlaw13.SmithMade", spec := "smithMade", unfollowed := true, recurses := true, apart := false }
def SmithMadeSaid : Prop := smithMadeRow.holds Tryz.pinned (OpenSpec.ofChange smithMadeSpec)

/-- ITS FALSE NEIGHBOUR: 'it returns false'. Refute it at one input. -/
def smithMadeWrong : ChangeSpec := { name := "smithMade", fn := fun _ => fun
  | [d1, d2, d3] => { results := [.lit (.bool false)], args := [d1, d2, d3] }
  | _ => none }
def SmithMadeWrongFalsely : Prop := smithMadeRow.holds Tryz.pinned (OpenSpec.ofChange smithMadeWrong)

/-- 'torsionlaw13.SmithDeterminant': WHATEVER THE INPUT: true; the input reads as it did. -/
def smithDeterminantSpec : ChangeSpec := { name := "smithDeterminant", fn := fun _ => fun
  | [d] => { results := [.lit (.bool true)], args := [d] }
  | _ => none }
def smithDeterminantRow : OpenClaim := { program := "ytnocgagoaldfnaagreat", sum := "875c883d6aff40b8c71fa77bd79f4b89ffe18c13fc25cc17d9e3dca06c79879f", func := "torsion/torsionlaw13.SmithDeterminant", spec := "smithDeterminant", unfollowed := true, recurses := true, apart := false }
def SmithDeterminantSaid : Prop := smithDeterminantRow.holds Tryz.pinned (OpenSpec.ofChange smithDeterminantSpec)

/-- ITS FALSE NEIGHBOUR: 'it returns false'. Refute it at one input. -/
def smithDeterminantWrong : ChangeSpec := { name := "smithDeterminant", fn := fun _ => fun
  | [d] => { results := [.lit (.bool false)], args := [d] }
  | _ => none }
def SmithDeterminantWrongFalsely : Prop := smithDeterminantRow.holds Tryz.pinned (OpenSpec.ofChange smithDeterminantWrong)

/-- 'torsionlaw13.SmithSums': WHATEVER THE INPUT: true; the input reads as it did. -/
def smithSumsSpec : ChangeSpec := { name := "smithSums", fn := fun _ => fun
  | [d1, d2, d3] => { results := [.lit (.bool true)], args := [d1, d2, d3] }
  | _ => none }
def smithSumsRow : OpenClaim := { program := "ytnocgagoaldfnaagreat", sum := "875c883d6aff40b8c71fa77bd79f4b89ffe18c13fc25cc17d9e3dca06c79879f", func := "torsion/torsionlaw13.SmithSums", spec := "smithSums", unfollowed := true, recurses := true, apart := false }
def SmithSumsSaid : Prop := smithSumsRow.holds Tryz.pinned (OpenSpec.ofChange smithSumsSpec)

/-- ITS FALSE NEIGHBOUR: 'it returns false'. Refute it at one input. -/
def smithSumsWrong : ChangeSpec := { name := "smithSums", fn := fun _ => fun
  | [d1, d2, d3] => { results := [.lit (.bool false)], args := [d1, d2, d3] }
  | _ => none }
def SmithSumsWrongFalsely : Prop := smithSumsRow.holds Tryz.pinned (OpenSpec.ofChange smithSumsWrong)

/-- 'torsionlaw13.SmithChecks': WHATEVER THE INPUT: true; the input reads as it did. -/
def smithChecksSpec : ChangeSpec := { name := "smithChecks", fn := fun _ => fun
  | [d1, d2, d3] => { results := [.lit (.bool true)], args := [d1, d2, d3] }
  | _ => none }
def smithChecksRow : OpenClaim := { program := "ytnocgagoaldfnaagreat", sum := "875c883d6aff40b8c71fa77bd79f4b89ffe18c13fc25cc17d9e3dca06c79879f", func := "torsion/torsionlaw13.SmithChecks", spec := "smithChecks", unfollowed := true, recurses := true, apart := false }
def SmithChecksSaid : Prop := smithChecksRow.holds Tryz.pinned (OpenSpec.ofChange smithChecksSpec)

/-- ITS FALSE NEIGHBOUR: 'it returns false'. Refute it at one input. -/
def smithChecksWrong : ChangeSpec := { name := "smithChecks", fn := fun _ => fun
  | [d1, d2, d3] => { results := [.lit (.bool false)], args := [d1, d2, d3] }
  | _ => none }
def SmithChecksWrongFalsely : Prop := smithChecksRow.holds Tryz.pinned (OpenSpec.ofChange smithChecksWrong)

/- THE SECOND FORM. 'bulk': how many values and letters a reading holds, each counted each time it is reached (what is shared counts as often as it is met; a slice's spare places count too). A statement '..UptoSaid' is the law's where the arguments, and the package variables that the reading takes, are together of bulk at most 1048576: NARROWER than '..Said'. Prove '..Said' where nothing that the law and all that it calls make is longer than what came in: it says more and counts as full. Else prove '..UptoSaid'. A law counts once. -/
mutual
def uptoBulk {H : Type} : DataW H → Nat
  | .lit (.string bytes) => bytes.length + 1
  | .lit _ => 1
  | .nil => 1
  | .ptr d => uptoBulk d + 1
  | .slice elems spare => uptoBulkAll elems + uptoBulkAll spare + 1
  | .agg parts => uptoBulkAll parts + 1
  | .iface _ d => uptoBulk d + 1
  | .map entries => uptoBulkEntries entries + 1
  | .held _ => 1
def uptoBulkAll {H : Type} : List (DataW H) → Nat
  | [] => 0
  | d :: r => uptoBulk d + uptoBulkAll r
def uptoBulkEntries {H : Type} : List (Lit × DataW H) → Nat
  | [] => 0
  | x :: r => uptoBulkEntry x + uptoBulkEntries r
def uptoBulkEntry {H : Type} : Lit × DataW H → Nat
  | (.string bytes, d) => bytes.length + uptoBulk d + 1
  | (_, d) => uptoBulk d + 1
 end
def uptoSmall : (H : Type) → List (DataW H) → Bool := fun _ ds => decide (uptoBulkAll ds ≤ 1048576)
def OpenSpec.upto (s : _root_.Go.ChangeSpec) : _root_.Go.OpenSpec := { _root_.Go.OpenSpec.ofChange s with cond := some uptoSmall }

/-- 'torsionlaw13.SmithMatchesReference', WHERE WHAT IT READS IS OF BULK AT MOST 1048576: true; the input reads as it did. -/
def smithMatchesReferenceUptoRow : OpenClaim := { program := "ytnocgagoaldfnaagreat", sum := "875c883d6aff40b8c71fa77bd79f4b89ffe18c13fc25cc17d9e3dca06c79879f", func := "torsion/torsionlaw13.SmithMatchesReference", spec := "smithMatchesReference", unfollowed := true, recurses := true, apart := false, narrowed := true }
def SmithMatchesReferenceUptoSaid : Prop := smithMatchesReferenceUptoRow.holds Tryz.pinned (OpenSpec.upto smithMatchesReferenceSpec)

/-- 'torsionlaw13.SmithTransforms', WHERE WHAT IT READS IS OF BULK AT MOST 1048576: true; the input reads as it did. -/
def smithTransformsUptoRow : OpenClaim := { program := "ytnocgagoaldfnaagreat", sum := "875c883d6aff40b8c71fa77bd79f4b89ffe18c13fc25cc17d9e3dca06c79879f", func := "torsion/torsionlaw13.SmithTransforms", spec := "smithTransforms", unfollowed := true, recurses := true, apart := false, narrowed := true }
def SmithTransformsUptoSaid : Prop := smithTransformsUptoRow.holds Tryz.pinned (OpenSpec.upto smithTransformsSpec)

/-- 'torsionlaw13.SmithIs', WHERE WHAT IT READS IS OF BULK AT MOST 1048576: true; the input reads as it did. -/
def smithIsUptoRow : OpenClaim := { program := "ytnocgagoaldfnaagreat", sum := "875c883d6aff40b8c71fa77bd79f4b89ffe18c13fc25cc17d9e3dca06c79879f", func := "torsion/torsionlaw13.SmithIs", spec := "smithIs", unfollowed := true, recurses := true, apart := false, narrowed := true }
def SmithIsUptoSaid : Prop := smithIsUptoRow.holds Tryz.pinned (OpenSpec.upto smithIsSpec)

/-- 'torsionlaw13.SmithMinors', WHERE WHAT IT READS IS OF BULK AT MOST 1048576: true; the input reads as it did. -/
def smithMinorsUptoRow : OpenClaim := { program := "ytnocgagoaldfnaagreat", sum := "875c883d6aff40b8c71fa77bd79f4b89ffe18c13fc25cc17d9e3dca06c79879f", func := "torsion/torsionlaw13.SmithMinors", spec := "smithMinors", unfollowed := true, recurses := true, apart := false, narrowed := true }
def SmithMinorsUptoSaid : Prop := smithMinorsUptoRow.holds Tryz.pinned (OpenSpec.upto smithMinorsSpec)

/-- 'torsionlaw13.SmithUnique', WHERE WHAT IT READS IS OF BULK AT MOST 1048576: true; the input reads as it did. -/
def smithUniqueUptoRow : OpenClaim := { program := "ytnocgagoaldfnaagreat", sum := "875c883d6aff40b8c71fa77bd79f4b89ffe18c13fc25cc17d9e3dca06c79879f", func := "torsion/torsionlaw13.SmithUnique", spec := "smithUnique", unfollowed := true, recurses := true, apart := false, narrowed := true }
def SmithUniqueUptoSaid : Prop := smithUniqueUptoRow.holds Tryz.pinned (OpenSpec.upto smithUniqueSpec)

/-- 'torsionlaw13.SmithMade', WHERE WHAT IT READS IS OF BULK AT MOST 1048576: true; the input reads as it did. -/
def smithMadeUptoRow : OpenClaim := { program := "ytnocgagoaldfnaagreat", sum := "875c883d6aff40b8c71fa77bd79f4b89ffe18c13fc25cc17d9e3dca06c79879f", func := "torsion/torsionlaw13.SmithMade", spec := "smithMade", unfollowed := true, recurses := true, apart := false, narrowed := true }
def SmithMadeUptoSaid : Prop := smithMadeUptoRow.holds Tryz.pinned (OpenSpec.upto smithMadeSpec)

/-- 'torsionlaw13.SmithDeterminant', WHERE WHAT IT READS IS OF BULK AT MOST 1048576: true; the input reads as it did. -/
def smithDeterminantUptoRow : OpenClaim := { program := "ytnocgagoaldfnaagreat", sum := "875c883d6aff40b8c71fa77bd79f4b89ffe18c13fc25cc17d9e3dca06c79879f", func := "torsion/torsionlaw13.SmithDeterminant", spec := "smithDeterminant", unfollowed := true, recurses := true, apart := false, narrowed := true }
def SmithDeterminantUptoSaid : Prop := smithDeterminantUptoRow.holds Tryz.pinned (OpenSpec.upto smithDeterminantSpec)

/-- 'torsionlaw13.SmithSums', WHERE WHAT IT READS IS OF BULK AT MOST 1048576: true; the input reads as it did. -/
def smithSumsUptoRow : OpenClaim := { program := "ytnocgagoaldfnaagreat", sum := "875c883d6aff40b8c71fa77bd79f4b89ffe18c13fc25cc17d9e3dca06c79879f", func := "torsion/torsionlaw13.SmithSums", spec := "smithSums", unfollowed := true, recurses := true, apart := false, narrowed := true }
def SmithSumsUptoSaid : Prop := smithSumsUptoRow.holds Tryz.pinned (OpenSpec.upto smithSumsSpec)

/-- 'torsionlaw13.SmithChecks', WHERE WHAT IT READS IS OF BULK AT MOST 1048576: true; the input reads as it did. -/
def smithChecksUptoRow : OpenClaim := { program := "ytnocgagoaldfnaagreat", sum := "875c883d6aff40b8c71fa77bd79f4b89ffe18c13fc25cc17d9e3dca06c79879f", func := "torsion/torsionlaw13.SmithChecks", spec := "smithChecks", unfollowed := true, recurses := true, apart := false, narrowed := true }
def SmithChecksUptoSaid : Prop := smithChecksUptoRow.holds Tryz.pinned (OpenSpec.upto smithChecksSpec)

end Rows
end Go.Proofs.YtnocgagoaldfnaaGreat
