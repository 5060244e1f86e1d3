/-
  No cell of these rows narrows 'for every input' (looked for: loops, veiled, ifaces, maps, wideKeys, modest, calm, conditions, laid).
  DERIVED. THE GIVEN ROWS OF THIS SEAT. 10 by the template 'for every input the law returns true; each argument reads behind the call as it read before'; 0 by the template 'total and deterministic' (their statements: YtgnmdddaiefooaaGreatTotals.lean).
  GIVEN WITH THE SEED: the statements are not yours to turn. If you find one false, say at which input.
  Laid BY PROGRAM, IN A SANDBOX (cutbox-rows.mjs): the forced cells as the released guide's own fill.sh prints them over the translation 0d217cdb2575f4b8… (all of the seat's roots in one cut). By AI agents, Wed Nov 11 2026. No macro, syntax, notation, axiom, sorry.
-/
import Derived.Test.YtgnmdddaiefooaaGreatChecked
import GoSem.Claim
import GoSem.ClaimJoined
import GoSem.ClaimMapViews
import Derived.JoinedTies
import Derived.KernelRfl
namespace Go.Proofs.YtgnmdddaiefooaaGreat
/- THE CELL 'sum', in the pinned program and in every row, IS THE sha256 OF THE DUMP (.gsa) THAT YtgnmdddaiefooaaGreatProg.lean LOADS. Nothing in Lean hashes anything: it is a label: what it is worth is what the hold of that sum in a sandbox is worth. -/
noncomputable def Tryz.pinned : Pinned := { name := "ytgnmdddaiefooaagreat", sum := "0d217cdb2575f4b8d9f7f6113ab6d17c2dfb72101a02415030e60fd24c06fe27", checked := Tryz.checked }
namespace Rows
def none {H : Type} : Left H := { results := [], args := [] }

/-- 'torsionlaw15.KernelMatchesReference': WHATEVER THE INPUT: true; the input reads as it did. -/
def kernelMatchesReferenceSpec : ChangeSpec := { name := "kernelMatchesReference", fn := fun _ => fun
  | [d] => { results := [.lit (.bool true)], args := [d] }
  | _ => none }
def kernelMatchesReferenceRow : OpenClaim := { program := "ytgnmdddaiefooaagreat", sum := "0d217cdb2575f4b8d9f7f6113ab6d17c2dfb72101a02415030e60fd24c06fe27", func := "torsion/torsionlaw15.KernelMatchesReference", spec := "kernelMatchesReference", inPlace := ["slices.overlaps[torsion/hermite.pivot]"], unfollowed := true, recurses := true, apart := false }
def KernelMatchesReferenceSaid : Prop := kernelMatchesReferenceRow.holds Tryz.pinned (OpenSpec.ofChange kernelMatchesReferenceSpec)

/-- ITS FALSE NEIGHBOUR: 'it returns false'. Refute it at one input. -/
def kernelMatchesReferenceWrong : ChangeSpec := { name := "kernelMatchesReference", fn := fun _ => fun
  | [d] => { results := [.lit (.bool false)], args := [d] }
  | _ => none }
def KernelMatchesReferenceWrongFalsely : Prop := kernelMatchesReferenceRow.holds Tryz.pinned (OpenSpec.ofChange kernelMatchesReferenceWrong)

/-- 'torsionlaw15.KernelComplete': WHATEVER THE INPUT: true; the input reads as it did. -/
def kernelCompleteSpec : ChangeSpec := { name := "kernelComplete", fn := fun _ => fun
  | [d1, d2] => { results := [.lit (.bool true)], args := [d1, d2] }
  | _ => none }
def kernelCompleteRow : OpenClaim := { program := "ytgnmdddaiefooaagreat", sum := "0d217cdb2575f4b8d9f7f6113ab6d17c2dfb72101a02415030e60fd24c06fe27", func := "torsion/torsionlaw15.KernelComplete", spec := "kernelComplete", inPlace := ["slices.overlaps[torsion/hermite.pivot]"], unfollowed := true, recurses := true, apart := false }
def KernelCompleteSaid : Prop := kernelCompleteRow.holds Tryz.pinned (OpenSpec.ofChange kernelCompleteSpec)

/-- ITS FALSE NEIGHBOUR: 'it returns false'. Refute it at one input. -/
def kernelCompleteWrong : ChangeSpec := { name := "kernelComplete", fn := fun _ => fun
  | [d1, d2] => { results := [.lit (.bool false)], args := [d1, d2] }
  | _ => none }
def KernelCompleteWrongFalsely : Prop := kernelCompleteRow.holds Tryz.pinned (OpenSpec.ofChange kernelCompleteWrong)

/-- 'torsionlaw15.KernelSaturates': WHATEVER THE INPUT: true; the input reads as it did. -/
def kernelSaturatesSpec : ChangeSpec := { name := "kernelSaturates", fn := fun _ => fun
  | [d1, d2] => { results := [.lit (.bool true)], args := [d1, d2] }
  | _ => none }
def kernelSaturatesRow : OpenClaim := { program := "ytgnmdddaiefooaagreat", sum := "0d217cdb2575f4b8d9f7f6113ab6d17c2dfb72101a02415030e60fd24c06fe27", func := "torsion/torsionlaw15.KernelSaturates", spec := "kernelSaturates", inPlace := ["slices.overlaps[torsion/hermite.pivot]"], unfollowed := true, recurses := true, apart := false }
def KernelSaturatesSaid : Prop := kernelSaturatesRow.holds Tryz.pinned (OpenSpec.ofChange kernelSaturatesSpec)

/-- ITS FALSE NEIGHBOUR: 'it returns false'. Refute it at one input. -/
def kernelSaturatesWrong : ChangeSpec := { name := "kernelSaturates", fn := fun _ => fun
  | [d1, d2] => { results := [.lit (.bool false)], args := [d1, d2] }
  | _ => none }
def KernelSaturatesWrongFalsely : Prop := kernelSaturatesRow.holds Tryz.pinned (OpenSpec.ofChange kernelSaturatesWrong)

/-- 'torsionlaw15.KernelComplements': WHATEVER THE INPUT: true; the input reads as it did. -/
def kernelComplementsSpec : ChangeSpec := { name := "kernelComplements", fn := fun _ => fun
  | [d1, d2, d3] => { results := [.lit (.bool true)], args := [d1, d2, d3] }
  | _ => none }
def kernelComplementsRow : OpenClaim := { program := "ytgnmdddaiefooaagreat", sum := "0d217cdb2575f4b8d9f7f6113ab6d17c2dfb72101a02415030e60fd24c06fe27", func := "torsion/torsionlaw15.KernelComplements", spec := "kernelComplements", inPlace := ["slices.overlaps[torsion/hermite.pivot]"], unfollowed := true, recurses := true, apart := false }
def KernelComplementsSaid : Prop := kernelComplementsRow.holds Tryz.pinned (OpenSpec.ofChange kernelComplementsSpec)

/-- ITS FALSE NEIGHBOUR: 'it returns false'. Refute it at one input. -/
def kernelComplementsWrong : ChangeSpec := { name := "kernelComplements", fn := fun _ => fun
  | [d1, d2, d3] => { results := [.lit (.bool false)], args := [d1, d2, d3] }
  | _ => none }
def KernelComplementsWrongFalsely : Prop := kernelComplementsRow.holds Tryz.pinned (OpenSpec.ofChange kernelComplementsWrong)

/-- 'torsionlaw12.HermiteMatchesReference': WHATEVER THE INPUT: true; the input reads as it did. -/
def hermiteMatchesReferenceSpec : ChangeSpec := { name := "hermiteMatchesReference", fn := fun _ => fun
  | [d] => { results := [.lit (.bool true)], args := [d] }
  | _ => none }
def hermiteMatchesReferenceRow : OpenClaim := { program := "ytgnmdddaiefooaagreat", sum := "0d217cdb2575f4b8d9f7f6113ab6d17c2dfb72101a02415030e60fd24c06fe27", func := "torsion/torsionlaw12.HermiteMatchesReference", spec := "hermiteMatchesReference", inPlace := ["slices.overlaps[torsion/hermite.pivot]"], unfollowed := true, recurses := true, apart := false }
def HermiteMatchesReferenceSaid : Prop := hermiteMatchesReferenceRow.holds Tryz.pinned (OpenSpec.ofChange hermiteMatchesReferenceSpec)

/-- ITS FALSE NEIGHBOUR: 'it returns false'. Refute it at one input. -/
def hermiteMatchesReferenceWrong : ChangeSpec := { name := "hermiteMatchesReference", fn := fun _ => fun
  | [d] => { results := [.lit (.bool false)], args := [d] }
  | _ => none }
def HermiteMatchesReferenceWrongFalsely : Prop := hermiteMatchesReferenceRow.holds Tryz.pinned (OpenSpec.ofChange hermiteMatchesReferenceWrong)

/-- 'torsionlaw12.HermiteUnique': WHATEVER THE INPUT: true; the input reads as it did. -/
def hermiteUniqueSpec : ChangeSpec := { name := "hermiteUnique", fn := fun _ => fun
  | [d1, d2] => { results := [.lit (.bool true)], args := [d1, d2] }
  | _ => none }
def hermiteUniqueRow : OpenClaim := { program := "ytgnmdddaiefooaagreat", sum := "0d217cdb2575f4b8d9f7f6113ab6d17c2dfb72101a02415030e60fd24c06fe27", func := "torsion/torsionlaw12.HermiteUnique", spec := "hermiteUnique", inPlace := ["slices.overlaps[torsion/hermite.pivot]"], unfollowed := true, recurses := true, apart := false }
def HermiteUniqueSaid : Prop := hermiteUniqueRow.holds Tryz.pinned (OpenSpec.ofChange hermiteUniqueSpec)

/-- ITS FALSE NEIGHBOUR: 'it returns false'. Refute it at one input. -/
def hermiteUniqueWrong : ChangeSpec := { name := "hermiteUnique", fn := fun _ => fun
  | [d1, d2] => { results := [.lit (.bool false)], args := [d1, d2] }
  | _ => none }
def HermiteUniqueWrongFalsely : Prop := hermiteUniqueRow.holds Tryz.pinned (OpenSpec.ofChange hermiteUniqueWrong)

/-- 'torsionlaw12.HermiteReduces': WHATEVER THE INPUT: true; the input reads as it did. -/
def hermiteReducesSpec : ChangeSpec := { name := "hermiteReduces", fn := fun _ => fun
  | [d1, d2, d3] => { results := [.lit (.bool true)], args := [d1, d2, d3] }
  | _ => none }
def hermiteReducesRow : OpenClaim := { program := "ytgnmdddaiefooaagreat", sum := "0d217cdb2575f4b8d9f7f6113ab6d17c2dfb72101a02415030e60fd24c06fe27", func := "torsion/torsionlaw12.HermiteReduces", spec := "hermiteReduces", inPlace := ["slices.overlaps[torsion/hermite.pivot]"], unfollowed := true, recurses := true, apart := false }
def HermiteReducesSaid : Prop := hermiteReducesRow.holds Tryz.pinned (OpenSpec.ofChange hermiteReducesSpec)

/-- ITS FALSE NEIGHBOUR: 'it returns false'. Refute it at one input. -/
def hermiteReducesWrong : ChangeSpec := { name := "hermiteReduces", fn := fun _ => fun
  | [d1, d2, d3] => { results := [.lit (.bool false)], args := [d1, d2, d3] }
  | _ => none }
def HermiteReducesWrongFalsely : Prop := hermiteReducesRow.holds Tryz.pinned (OpenSpec.ofChange hermiteReducesWrong)

/-- 'torsionlaw12.HermiteIs': WHATEVER THE INPUT: true; the input reads as it did. -/
def hermiteIsSpec : ChangeSpec := { name := "hermiteIs", fn := fun _ => fun
  | [d1, d2, d3] => { results := [.lit (.bool true)], args := [d1, d2, d3] }
  | _ => none }
def hermiteIsRow : OpenClaim := { program := "ytgnmdddaiefooaagreat", sum := "0d217cdb2575f4b8d9f7f6113ab6d17c2dfb72101a02415030e60fd24c06fe27", func := "torsion/torsionlaw12.HermiteIs", spec := "hermiteIs", inPlace := ["slices.overlaps[torsion/hermite.pivot]"], unfollowed := true, recurses := true, apart := false }
def HermiteIsSaid : Prop := hermiteIsRow.holds Tryz.pinned (OpenSpec.ofChange hermiteIsSpec)

/-- ITS FALSE NEIGHBOUR: 'it returns false'. Refute it at one input. -/
def hermiteIsWrong : ChangeSpec := { name := "hermiteIs", fn := fun _ => fun
  | [d1, d2, d3] => { results := [.lit (.bool false)], args := [d1, d2, d3] }
  | _ => none }
def HermiteIsWrongFalsely : Prop := hermiteIsRow.holds Tryz.pinned (OpenSpec.ofChange hermiteIsWrong)

/-- 'torsionlaw12.HermitePivots': WHATEVER THE INPUT: true; the input reads as it did. -/
def hermitePivotsSpec : ChangeSpec := { name := "hermitePivots", fn := fun _ => fun
  | [d] => { results := [.lit (.bool true)], args := [d] }
  | _ => none }
def hermitePivotsRow : OpenClaim := { program := "ytgnmdddaiefooaagreat", sum := "0d217cdb2575f4b8d9f7f6113ab6d17c2dfb72101a02415030e60fd24c06fe27", func := "torsion/torsionlaw12.HermitePivots", spec := "hermitePivots", inPlace := ["slices.overlaps[torsion/hermite.pivot]"], unfollowed := true, recurses := true, apart := false }
def HermitePivotsSaid : Prop := hermitePivotsRow.holds Tryz.pinned (OpenSpec.ofChange hermitePivotsSpec)

/-- ITS FALSE NEIGHBOUR: 'it returns false'. Refute it at one input. -/
def hermitePivotsWrong : ChangeSpec := { name := "hermitePivots", fn := fun _ => fun
  | [d] => { results := [.lit (.bool false)], args := [d] }
  | _ => none }
def HermitePivotsWrongFalsely : Prop := hermitePivotsRow.holds Tryz.pinned (OpenSpec.ofChange hermitePivotsWrong)

/-- 'torsionlaw12.HermiteChecks': WHATEVER THE INPUT: true; the input reads as it did. -/
def hermiteChecksSpec : ChangeSpec := { name := "hermiteChecks", fn := fun _ => fun
  | [d1, d2, d3] => { results := [.lit (.bool true)], args := [d1, d2, d3] }
  | _ => none }
def hermiteChecksRow : OpenClaim := { program := "ytgnmdddaiefooaagreat", sum := "0d217cdb2575f4b8d9f7f6113ab6d17c2dfb72101a02415030e60fd24c06fe27", func := "torsion/torsionlaw12.HermiteChecks", spec := "hermiteChecks", inPlace := ["slices.overlaps[torsion/hermite.pivot]"], unfollowed := true, recurses := true, apart := false }
def HermiteChecksSaid : Prop := hermiteChecksRow.holds Tryz.pinned (OpenSpec.ofChange hermiteChecksSpec)

/-- ITS FALSE NEIGHBOUR: 'it returns false'. Refute it at one input. -/
def hermiteChecksWrong : ChangeSpec := { name := "hermiteChecks", fn := fun _ => fun
  | [d1, d2, d3] => { results := [.lit (.bool false)], args := [d1, d2, d3] }
  | _ => none }
def HermiteChecksWrongFalsely : Prop := hermiteChecksRow.holds Tryz.pinned (OpenSpec.ofChange hermiteChecksWrong)

/- THE SECOND FORM. 'bulk': how many values and letters a reading holds, each counted each time it is reached (what is shared counts as often as it is met; a slice's spare places count too). A statement '..UptoSaid' is the law's where the arguments, and the package variables that the reading takes, are together of bulk at most 1048576: NARROWER than '..Said'. Prove '..Said' where nothing that the law and all that it calls make is longer than what came in: it says more and counts as full. Else prove '..UptoSaid'. A law counts once. -/
mutual
def uptoBulk {H : Type} : DataW H → Nat
  | .lit (.string bytes) => bytes.length + 1
  | .lit _ => 1
  | .nil => 1
  | .ptr d => uptoBulk d + 1
  | .slice elems spare => uptoBulkAll elems + uptoBulkAll spare + 1
  | .agg parts => uptoBulkAll parts + 1
  | .iface _ d => uptoBulk d + 1
  | .map entries => uptoBulkEntries entries + 1
  | .held _ => 1
def uptoBulkAll {H : Type} : List (DataW H) → Nat
  | [] => 0
  | d :: r => uptoBulk d + uptoBulkAll r
def uptoBulkEntries {H : Type} : List (Lit × DataW H) → Nat
  | [] => 0
  | x :: r => uptoBulkEntry x + uptoBulkEntries r
def uptoBulkEntry {H : Type} : Lit × DataW H → Nat
  | (.string bytes, d) => bytes.length + uptoBulk d + 1
  | (_, d) => uptoBulk d + 1
 end
def uptoSmall : (H : Type) → List (DataW H) → Bool := fun _ ds => decide (uptoBulkAll ds ≤ 1048576)
def OpenSpec.upto (s : _root_.Go.ChangeSpec) : _root_.Go.OpenSpec := { _root_.Go.OpenSpec.ofChange s with cond := some uptoSmall }

/-- 'torsionlaw15.KernelMatchesReference', WHERE WHAT IT READS IS OF BULK AT MOST 1048576: true; the input reads as it did. -/
def kernelMatchesReferenceUptoRow : OpenClaim := { program := "ytgnmdddaiefooaagreat", sum := "0d217cdb2575f4b8d9f7f6113ab6d17c2dfb72101a02415030e60fd24c06fe27", func := "torsion/torsionlaw15.KernelMatchesReference", spec := "kernelMatchesReference", inPlace := ["slices.overlaps[torsion/hermite.pivot]"], unfollowed := true, recurses := true, apart := false, narrowed := true }
def KernelMatchesReferenceUptoSaid : Prop := kernelMatchesReferenceUptoRow.holds Tryz.pinned (OpenSpec.upto kernelMatchesReferenceSpec)

/-- 'torsionlaw15.KernelComplete', WHERE WHAT IT READS IS OF BULK AT MOST 1048576: true; the input reads as it did. -/
def kernelCompleteUptoRow : OpenClaim := { program := "ytgnmdddaiefooaagreat", sum := "0d217cdb2575f4b8d9f7f6113ab6d17c2dfb72101a02415030e60fd24c06fe27", func := "torsion/torsionlaw15.KernelComplete", spec := "kernelComplete", inPlace := ["slices.overlaps[torsion/hermite.pivot]"], unfollowed := true, recurses := true, apart := false, narrowed := true }
def KernelCompleteUptoSaid : Prop := kernelCompleteUptoRow.holds Tryz.pinned (OpenSpec.upto kernelCompleteSpec)

/-- 'torsionlaw15.KernelSaturates', WHERE WHAT IT READS IS OF BULK AT MOST 1048576: true; the input reads as it did. -/
def kernelSaturatesUptoRow : OpenClaim := { program := "ytgnmdddaiefooaagreat", sum := "0d217cdb2575f4b8d9f7f6113ab6d17c2dfb72101a02415030e60fd24c06fe27", func := "torsion/torsionlaw15.KernelSaturates", spec := "kernelSaturates", inPlace := ["slices.overlaps[torsion/hermite.pivot]"], unfollowed := true, recurses := true, apart := false, narrowed := true }
def KernelSaturatesUptoSaid : Prop := kernelSaturatesUptoRow.holds Tryz.pinned (OpenSpec.upto kernelSaturatesSpec)

/-- 'torsionlaw15.KernelComplements', WHERE WHAT IT READS IS OF BULK AT MOST 1048576: true; the input reads as it did. -/
def kernelComplementsUptoRow : OpenClaim := { program := "ytgnmdddaiefooaagreat", sum := "0d217cdb2575f4b8d9f7f6113ab6d17c2dfb72101a02415030e60fd24c06fe27", func := "torsion/torsionlaw15.KernelComplements", spec := "kernelComplements", inPlace := ["slices.overlaps[torsion/hermite.pivot]"], unfollowed := true, recurses := true, apart := false, narrowed := true }
def KernelComplementsUptoSaid : Prop := kernelComplementsUptoRow.holds Tryz.pinned (OpenSpec.upto kernelComplementsSpec)

/-- 'torsionlaw12.HermiteMatchesReference', WHERE WHAT IT READS IS OF BULK AT MOST 1048576: true; the input reads as it did. -/
def hermiteMatchesReferenceUptoRow : OpenClaim := { program := "ytgnmdddaiefooaagreat", sum := "0d217cdb2575f4b8d9f7f6113ab6d17c2dfb72101a02415030e60fd24c06fe27", func := "torsion/torsionlaw12.HermiteMatchesReference", spec := "hermiteMatchesReference", inPlace := ["slices.overlaps[torsion/hermite.pivot]"], unfollowed := true, recurses := true, apart := false, narrowed := true }
def HermiteMatchesReferenceUptoSaid : Prop := hermiteMatchesReferenceUptoRow.holds Tryz.pinned (OpenSpec.upto hermiteMatchesReferenceSpec)

/-- 'torsionlaw12.HermiteUnique', WHERE WHAT IT READS IS OF BULK AT MOST 1048576: true; the input reads as it did. -/
def hermiteUniqueUptoRow : OpenClaim := { program := "ytgnmdddaiefooaagreat", sum := "0d217cdb2575f4b8d9f7f6113ab6d17c2dfb72101a02415030e60fd24c06fe27", func := "torsion/torsionlaw12.HermiteUnique", spec := "hermiteUnique", inPlace := ["slices.overlaps[torsion/hermite.pivot]"], unfollowed := true, recurses := true, apart := false, narrowed := true }
def HermiteUniqueUptoSaid : Prop := hermiteUniqueUptoRow.holds Tryz.pinned (OpenSpec.upto hermiteUniqueSpec)

/-- 'torsionlaw12.HermiteReduces', WHERE WHAT IT READS IS OF BULK AT MOST 1048576: true; the input reads as it did. -/
def hermiteReducesUptoRow : OpenClaim := { program := "ytgnmdddaiefooaagreat", sum := "0d217cdb2575f4b8d9f7f6113ab6d17c2dfb72101a02415030e60fd24c06fe27", func := "torsion/torsionlaw12.HermiteReduces", spec := "hermiteReduces", inPlace := ["slices.overlaps[torsion/hermite.pivot]"], unfollowed := true, recurses := true, apart := false, narrowed := true }
def HermiteReducesUptoSaid : Prop := hermiteReducesUptoRow.holds Tryz.pinned (OpenSpec.upto hermiteReducesSpec)

/-- 'torsionlaw12.HermiteIs', WHERE WHAT IT READS IS OF BULK AT MOST 1048576: true; the input reads as it did. -/
def hermiteIsUptoRow : OpenClaim := { program := "ytgnmdddaiefooaagreat", sum := "0d217cdb2575f4b8d9f7f6113ab6d17c2dfb72101a02415030e60fd24c06fe27", func := "torsion/torsionlaw12.HermiteIs", spec := "hermiteIs", inPlace := ["slices.overlaps[torsion/hermite.pivot]"], unfollowed := true, recurses := true, apart := false, narrowed := true }
def HermiteIsUptoSaid : Prop := hermiteIsUptoRow.holds Tryz.pinned (OpenSpec.upto hermiteIsSpec)

/-- 'torsionlaw12.HermitePivots', WHERE WHAT IT READS IS OF BULK AT MOST 1048576: true; the input reads as it did. -/
def hermitePivotsUptoRow : OpenClaim := { program := "ytgnmdddaiefooaagreat", sum := "0d217cdb2575f4b8d9f7f6113ab6d17c2dfb72101a02415030e60fd24c06fe27", func := "torsion/torsionlaw12.HermitePivots", spec := "hermitePivots", inPlace := ["slices.overlaps[torsion/hermite.pivot]"], unfollowed := true, recurses := true, apart := false, narrowed := true }
def HermitePivotsUptoSaid : Prop := hermitePivotsUptoRow.holds Tryz.pinned (OpenSpec.upto hermitePivotsSpec)

/-- 'torsionlaw12.HermiteChecks', WHERE WHAT IT READS IS OF BULK AT MOST 1048576: true; the input reads as it did. -/
def hermiteChecksUptoRow : OpenClaim := { program := "ytgnmdddaiefooaagreat", sum := "0d217cdb2575f4b8d9f7f6113ab6d17c2dfb72101a02415030e60fd24c06fe27", func := "torsion/torsionlaw12.HermiteChecks", spec := "hermiteChecks", inPlace := ["slices.overlaps[torsion/hermite.pivot]"], unfollowed := true, recurses := true, apart := false, narrowed := true }
def HermiteChecksUptoSaid : Prop := hermiteChecksUptoRow.holds Tryz.pinned (OpenSpec.upto hermiteChecksSpec)

end Rows
end Go.Proofs.YtgnmdddaiefooaaGreat
