/-
  No cell of these rows narrows 'for every input' (looked for: loops, veiled, ifaces, maps, wideKeys, modest, calm, conditions, laid).
  DERIVED. THE GIVEN ROWS OF THIS SEAT. 11 by the template 'for every input the law returns true; each argument reads behind the call as it read before'; 0 by the template 'total and deterministic' (their statements: YtnbmaipobhppcaaGreatTotals.lean).
  GIVEN WITH THE SEED: the statements are not yours to turn. If you find one false, say at which input.
  Laid BY PROGRAM, IN A SANDBOX (cutbox-rows.mjs): the forced cells as the released guide's own fill.sh prints them over the translation 51d5b11bf111794a… (all of the seat's roots in one cut). By AI agents, Wed Nov 11 2026. No macro, syntax, notation, axiom, sorry.
-/
import Derived.Test.YtnbmaipobhppcaaGreatChecked
import GoSem.Claim
import GoSem.ClaimJoined
import GoSem.ClaimMapViews
import Derived.JoinedTies
import Derived.KernelRfl
namespace Go.Proofs.YtnbmaipobhppcaaGreat
/- THE CELL 'sum', in the pinned program and in every row, IS THE sha256 OF THE DUMP (.gsa) THAT YtnbmaipobhppcaaGreatProg.lean LOADS. Nothing in Lean hashes anything: it is a label: what it is worth is what the hold of that sum in a sandbox is worth. -/
noncomputable def Tryz.pinned : Pinned := { name := "ytnbmaipobhppcaagreat", sum := "51d5b11bf111794a8e8e3afff6ffd0bdea7f6f2a931274d648269e421c5b42b3", checked := Tryz.checked }
namespace Rows
def none {H : Type} : Left H := { results := [], args := [] }

/-- 'torsionlaw14.DiophantDecides': WHATEVER THE INPUT: true; the input reads as it did. -/
def diophantDecidesSpec : ChangeSpec := { name := "diophantDecides", fn := fun _ => fun
  | [d1, d2, d3] => { results := [.lit (.bool true)], args := [d1, d2, d3] }
  | _ => none }
def diophantDecidesRow : OpenClaim := { program := "ytnbmaipobhppcaagreat", sum := "51d5b11bf111794a8e8e3afff6ffd0bdea7f6f2a931274d648269e421c5b42b3", func := "torsion/torsionlaw14.DiophantDecides", spec := "diophantDecides", inPlace := ["slices.overlaps[torsion/hermite.pivot]"], unfollowed := true, recurses := true, apart := false }
def DiophantDecidesSaid : Prop := diophantDecidesRow.holds Tryz.pinned (OpenSpec.ofChange diophantDecidesSpec)

/-- ITS FALSE NEIGHBOUR: 'it returns false'. Refute it at one input. -/
def diophantDecidesWrong : ChangeSpec := { name := "diophantDecides", fn := fun _ => fun
  | [d1, d2, d3] => { results := [.lit (.bool false)], args := [d1, d2, d3] }
  | _ => none }
def DiophantDecidesWrongFalsely : Prop := diophantDecidesRow.holds Tryz.pinned (OpenSpec.ofChange diophantDecidesWrong)

/-- 'torsionlaw14.DiophantFinds': WHATEVER THE INPUT: true; the input reads as it did. -/
def diophantFindsSpec : ChangeSpec := { name := "diophantFinds", fn := fun _ => fun
  | [d1, d2] => { results := [.lit (.bool true)], args := [d1, d2] }
  | _ => none }
def diophantFindsRow : OpenClaim := { program := "ytnbmaipobhppcaagreat", sum := "51d5b11bf111794a8e8e3afff6ffd0bdea7f6f2a931274d648269e421c5b42b3", func := "torsion/torsionlaw14.DiophantFinds", spec := "diophantFinds", inPlace := ["slices.overlaps[torsion/hermite.pivot]"], unfollowed := true, recurses := true, apart := false }
def DiophantFindsSaid : Prop := diophantFindsRow.holds Tryz.pinned (OpenSpec.ofChange diophantFindsSpec)

/-- ITS FALSE NEIGHBOUR: 'it returns false'. Refute it at one input. -/
def diophantFindsWrong : ChangeSpec := { name := "diophantFinds", fn := fun _ => fun
  | [d1, d2] => { results := [.lit (.bool false)], args := [d1, d2] }
  | _ => none }
def DiophantFindsWrongFalsely : Prop := diophantFindsRow.holds Tryz.pinned (OpenSpec.ofChange diophantFindsWrong)

/-- 'torsionlaw14.DiophantLattice': WHATEVER THE INPUT: true; the input reads as it did. -/
def diophantLatticeSpec : ChangeSpec := { name := "diophantLattice", fn := fun _ => fun
  | [d1, d2, d3] => { results := [.lit (.bool true)], args := [d1, d2, d3] }
  | _ => none }
def diophantLatticeRow : OpenClaim := { program := "ytnbmaipobhppcaagreat", sum := "51d5b11bf111794a8e8e3afff6ffd0bdea7f6f2a931274d648269e421c5b42b3", func := "torsion/torsionlaw14.DiophantLattice", spec := "diophantLattice", inPlace := ["slices.overlaps[torsion/hermite.pivot]"], unfollowed := true, recurses := true, apart := false }
def DiophantLatticeSaid : Prop := diophantLatticeRow.holds Tryz.pinned (OpenSpec.ofChange diophantLatticeSpec)

/-- ITS FALSE NEIGHBOUR: 'it returns false'. Refute it at one input. -/
def diophantLatticeWrong : ChangeSpec := { name := "diophantLattice", fn := fun _ => fun
  | [d1, d2, d3] => { results := [.lit (.bool false)], args := [d1, d2, d3] }
  | _ => none }
def DiophantLatticeWrongFalsely : Prop := diophantLatticeRow.holds Tryz.pinned (OpenSpec.ofChange diophantLatticeWrong)

/-- 'torsionlaw14.DiophantMultiples': WHATEVER THE INPUT: true; the input reads as it did. -/
def diophantMultiplesSpec : ChangeSpec := { name := "diophantMultiples", fn := fun _ => fun
  | [d1, d2, d3] => { results := [.lit (.bool true)], args := [d1, d2, d3] }
  | _ => none }
def diophantMultiplesRow : OpenClaim := { program := "ytnbmaipobhppcaagreat", sum := "51d5b11bf111794a8e8e3afff6ffd0bdea7f6f2a931274d648269e421c5b42b3", func := "torsion/torsionlaw14.DiophantMultiples", spec := "diophantMultiples", inPlace := ["slices.overlaps[torsion/hermite.pivot]"], unfollowed := true, recurses := true, apart := false }
def DiophantMultiplesSaid : Prop := diophantMultiplesRow.holds Tryz.pinned (OpenSpec.ofChange diophantMultiplesSpec)

/-- ITS FALSE NEIGHBOUR: 'it returns false'. Refute it at one input. -/
def diophantMultiplesWrong : ChangeSpec := { name := "diophantMultiples", fn := fun _ => fun
  | [d1, d2, d3] => { results := [.lit (.bool false)], args := [d1, d2, d3] }
  | _ => none }
def DiophantMultiplesWrongFalsely : Prop := diophantMultiplesRow.holds Tryz.pinned (OpenSpec.ofChange diophantMultiplesWrong)

/-- 'torsionlaw14.DiophantChecks': WHATEVER THE INPUT: true; the input reads as it did. -/
def diophantChecksSpec : ChangeSpec := { name := "diophantChecks", fn := fun _ => fun
  | [d1, d2, d3] => { results := [.lit (.bool true)], args := [d1, d2, d3] }
  | _ => none }
def diophantChecksRow : OpenClaim := { program := "ytnbmaipobhppcaagreat", sum := "51d5b11bf111794a8e8e3afff6ffd0bdea7f6f2a931274d648269e421c5b42b3", func := "torsion/torsionlaw14.DiophantChecks", spec := "diophantChecks", inPlace := ["slices.overlaps[torsion/hermite.pivot]"], unfollowed := true, recurses := true, apart := false }
def DiophantChecksSaid : Prop := diophantChecksRow.holds Tryz.pinned (OpenSpec.ofChange diophantChecksSpec)

/-- ITS FALSE NEIGHBOUR: 'it returns false'. Refute it at one input. -/
def diophantChecksWrong : ChangeSpec := { name := "diophantChecks", fn := fun _ => fun
  | [d1, d2, d3] => { results := [.lit (.bool false)], args := [d1, d2, d3] }
  | _ => none }
def DiophantChecksWrongFalsely : Prop := diophantChecksRow.holds Tryz.pinned (OpenSpec.ofChange diophantChecksWrong)

/-- 'torsionlaw29.InducedMakes': WHATEVER THE INPUT: true; the input reads as it did. -/
def inducedMakesSpec : ChangeSpec := { name := "inducedMakes", fn := fun _ => fun
  | [d1, d2, d3] => { results := [.lit (.bool true)], args := [d1, d2, d3] }
  | _ => none }
def inducedMakesRow : OpenClaim := { program := "ytnbmaipobhppcaagreat", sum := "51d5b11bf111794a8e8e3afff6ffd0bdea7f6f2a931274d648269e421c5b42b3", func := "torsion/torsionlaw29.InducedMakes", spec := "inducedMakes", inPlace := ["sync/atomic.LoadUint32", "(*internal/sync.Mutex).Lock", "internal/race.Disable", "sync/atomic.CompareAndSwapInt32", "internal/race.Enable", "internal/race.Acquire", "(*internal/sync.Mutex).lockSlow", "internal/sync.runtime_canSpin", "internal/sync.runtime_doSpin", "internal/sync.throw", "internal/sync.runtime_nanotime", "internal/sync.runtime_SemacquireMutex", "sync/atomic.AddInt32", "(*internal/sync.Mutex).Unlock", "internal/race.ReleaseMerge", "(*internal/sync.Mutex).unlockSlow", "internal/sync.fatal", "internal/sync.runtime_Semrelease", "sync/atomic.StoreUint32"], unfollowed := true, recurses := true, apart := false }
def InducedMakesSaid : Prop := inducedMakesRow.holds Tryz.pinned (OpenSpec.ofChange inducedMakesSpec)

/-- ITS FALSE NEIGHBOUR: 'it returns false'. Refute it at one input. -/
def inducedMakesWrong : ChangeSpec := { name := "inducedMakes", fn := fun _ => fun
  | [d1, d2, d3] => { results := [.lit (.bool false)], args := [d1, d2, d3] }
  | _ => none }
def InducedMakesWrongFalsely : Prop := inducedMakesRow.holds Tryz.pinned (OpenSpec.ofChange inducedMakesWrong)

/-- 'torsionlaw29.InducedValid': WHATEVER THE INPUT: true; the input reads as it did. -/
def inducedValidSpec : ChangeSpec := { name := "inducedValid", fn := fun _ => fun
  | [d1, d2] => { results := [.lit (.bool true)], args := [d1, d2] }
  | _ => none }
def inducedValidRow : OpenClaim := { program := "ytnbmaipobhppcaagreat", sum := "51d5b11bf111794a8e8e3afff6ffd0bdea7f6f2a931274d648269e421c5b42b3", func := "torsion/torsionlaw29.InducedValid", spec := "inducedValid", inPlace := ["sync/atomic.LoadUint32", "(*internal/sync.Mutex).Lock", "internal/race.Disable", "sync/atomic.CompareAndSwapInt32", "internal/race.Enable", "internal/race.Acquire", "(*internal/sync.Mutex).lockSlow", "internal/sync.runtime_canSpin", "internal/sync.runtime_doSpin", "internal/sync.throw", "internal/sync.runtime_nanotime", "internal/sync.runtime_SemacquireMutex", "sync/atomic.AddInt32", "(*internal/sync.Mutex).Unlock", "internal/race.ReleaseMerge", "(*internal/sync.Mutex).unlockSlow", "internal/sync.fatal", "internal/sync.runtime_Semrelease", "sync/atomic.StoreUint32"], unfollowed := true, recurses := true, apart := false }
def InducedValidSaid : Prop := inducedValidRow.holds Tryz.pinned (OpenSpec.ofChange inducedValidSpec)

/-- ITS FALSE NEIGHBOUR: 'it returns false'. Refute it at one input. -/
def inducedValidWrong : ChangeSpec := { name := "inducedValid", fn := fun _ => fun
  | [d1, d2] => { results := [.lit (.bool false)], args := [d1, d2] }
  | _ => none }
def InducedValidWrongFalsely : Prop := inducedValidRow.holds Tryz.pinned (OpenSpec.ofChange inducedValidWrong)

/-- 'torsionlaw29.InducedLinear': WHATEVER THE INPUT: true; the input reads as it did. -/
def inducedLinearSpec : ChangeSpec := { name := "inducedLinear", fn := fun _ => fun
  | [d1, d2, d3] => { results := [.lit (.bool true)], args := [d1, d2, d3] }
  | _ => none }
def inducedLinearRow : OpenClaim := { program := "ytnbmaipobhppcaagreat", sum := "51d5b11bf111794a8e8e3afff6ffd0bdea7f6f2a931274d648269e421c5b42b3", func := "torsion/torsionlaw29.InducedLinear", spec := "inducedLinear", inPlace := ["sync/atomic.LoadUint32", "(*internal/sync.Mutex).Lock", "internal/race.Disable", "sync/atomic.CompareAndSwapInt32", "internal/race.Enable", "internal/race.Acquire", "(*internal/sync.Mutex).lockSlow", "internal/sync.runtime_canSpin", "internal/sync.runtime_doSpin", "internal/sync.throw", "internal/sync.runtime_nanotime", "internal/sync.runtime_SemacquireMutex", "sync/atomic.AddInt32", "(*internal/sync.Mutex).Unlock", "internal/race.ReleaseMerge", "(*internal/sync.Mutex).unlockSlow", "internal/sync.fatal", "internal/sync.runtime_Semrelease", "sync/atomic.StoreUint32"], unfollowed := true, recurses := true, apart := false }
def InducedLinearSaid : Prop := inducedLinearRow.holds Tryz.pinned (OpenSpec.ofChange inducedLinearSpec)

/-- ITS FALSE NEIGHBOUR: 'it returns false'. Refute it at one input. -/
def inducedLinearWrong : ChangeSpec := { name := "inducedLinear", fn := fun _ => fun
  | [d1, d2, d3] => { results := [.lit (.bool false)], args := [d1, d2, d3] }
  | _ => none }
def InducedLinearWrongFalsely : Prop := inducedLinearRow.holds Tryz.pinned (OpenSpec.ofChange inducedLinearWrong)

/-- 'torsionlaw29.InducedCommutes': WHATEVER THE INPUT: true; the input reads as it did. -/
def inducedCommutesSpec : ChangeSpec := { name := "inducedCommutes", fn := fun _ => fun
  | [d1, d2] => { results := [.lit (.bool true)], args := [d1, d2] }
  | _ => none }
def inducedCommutesRow : OpenClaim := { program := "ytnbmaipobhppcaagreat", sum := "51d5b11bf111794a8e8e3afff6ffd0bdea7f6f2a931274d648269e421c5b42b3", func := "torsion/torsionlaw29.InducedCommutes", spec := "inducedCommutes", inPlace := ["sync/atomic.LoadUint32", "(*internal/sync.Mutex).Lock", "internal/race.Disable", "sync/atomic.CompareAndSwapInt32", "internal/race.Enable", "internal/race.Acquire", "(*internal/sync.Mutex).lockSlow", "internal/sync.runtime_canSpin", "internal/sync.runtime_doSpin", "internal/sync.throw", "internal/sync.runtime_nanotime", "internal/sync.runtime_SemacquireMutex", "sync/atomic.AddInt32", "(*internal/sync.Mutex).Unlock", "internal/race.ReleaseMerge", "(*internal/sync.Mutex).unlockSlow", "internal/sync.fatal", "internal/sync.runtime_Semrelease", "sync/atomic.StoreUint32"], unfollowed := true, recurses := true, apart := false }
def InducedCommutesSaid : Prop := inducedCommutesRow.holds Tryz.pinned (OpenSpec.ofChange inducedCommutesSpec)

/-- ITS FALSE NEIGHBOUR: 'it returns false'. Refute it at one input. -/
def inducedCommutesWrong : ChangeSpec := { name := "inducedCommutes", fn := fun _ => fun
  | [d1, d2] => { results := [.lit (.bool false)], args := [d1, d2] }
  | _ => none }
def InducedCommutesWrongFalsely : Prop := inducedCommutesRow.holds Tryz.pinned (OpenSpec.ofChange inducedCommutesWrong)

/-- 'torsionlaw29.InducedComposes': WHATEVER THE INPUT: true; the input reads as it did. -/
def inducedComposesSpec : ChangeSpec := { name := "inducedComposes", fn := fun _ => fun
  | [d1, d2, d3] => { results := [.lit (.bool true)], args := [d1, d2, d3] }
  | _ => none }
def inducedComposesRow : OpenClaim := { program := "ytnbmaipobhppcaagreat", sum := "51d5b11bf111794a8e8e3afff6ffd0bdea7f6f2a931274d648269e421c5b42b3", func := "torsion/torsionlaw29.InducedComposes", spec := "inducedComposes", inPlace := ["sync/atomic.LoadUint32", "(*internal/sync.Mutex).Lock", "internal/race.Disable", "sync/atomic.CompareAndSwapInt32", "internal/race.Enable", "internal/race.Acquire", "(*internal/sync.Mutex).lockSlow", "internal/sync.runtime_canSpin", "internal/sync.runtime_doSpin", "internal/sync.throw", "internal/sync.runtime_nanotime", "internal/sync.runtime_SemacquireMutex", "sync/atomic.AddInt32", "(*internal/sync.Mutex).Unlock", "internal/race.ReleaseMerge", "(*internal/sync.Mutex).unlockSlow", "internal/sync.fatal", "internal/sync.runtime_Semrelease", "sync/atomic.StoreUint32"], unfollowed := true, recurses := true, apart := false }
def InducedComposesSaid : Prop := inducedComposesRow.holds Tryz.pinned (OpenSpec.ofChange inducedComposesSpec)

/-- ITS FALSE NEIGHBOUR: 'it returns false'. Refute it at one input. -/
def inducedComposesWrong : ChangeSpec := { name := "inducedComposes", fn := fun _ => fun
  | [d1, d2, d3] => { results := [.lit (.bool false)], args := [d1, d2, d3] }
  | _ => none }
def InducedComposesWrongFalsely : Prop := inducedComposesRow.holds Tryz.pinned (OpenSpec.ofChange inducedComposesWrong)

/-- 'torsionlaw29.InducedHomotopy': WHATEVER THE INPUT: true; the input reads as it did. -/
def inducedHomotopySpec : ChangeSpec := { name := "inducedHomotopy", fn := fun _ => fun
  | [d1, d2, d3] => { results := [.lit (.bool true)], args := [d1, d2, d3] }
  | _ => none }
def inducedHomotopyRow : OpenClaim := { program := "ytnbmaipobhppcaagreat", sum := "51d5b11bf111794a8e8e3afff6ffd0bdea7f6f2a931274d648269e421c5b42b3", func := "torsion/torsionlaw29.InducedHomotopy", spec := "inducedHomotopy", inPlace := ["sync/atomic.LoadUint32", "(*internal/sync.Mutex).Lock", "internal/race.Disable", "sync/atomic.CompareAndSwapInt32", "internal/race.Enable", "internal/race.Acquire", "(*internal/sync.Mutex).lockSlow", "internal/sync.runtime_canSpin", "internal/sync.runtime_doSpin", "internal/sync.throw", "internal/sync.runtime_nanotime", "internal/sync.runtime_SemacquireMutex", "sync/atomic.AddInt32", "(*internal/sync.Mutex).Unlock", "internal/race.ReleaseMerge", "(*internal/sync.Mutex).unlockSlow", "internal/sync.fatal", "internal/sync.runtime_Semrelease", "sync/atomic.StoreUint32", "slices.overlaps[torsion/hermite.pivot]"], unfollowed := true, recurses := true, apart := false }
def InducedHomotopySaid : Prop := inducedHomotopyRow.holds Tryz.pinned (OpenSpec.ofChange inducedHomotopySpec)

/-- ITS FALSE NEIGHBOUR: 'it returns false'. Refute it at one input. -/
def inducedHomotopyWrong : ChangeSpec := { name := "inducedHomotopy", fn := fun _ => fun
  | [d1, d2, d3] => { results := [.lit (.bool false)], args := [d1, d2, d3] }
  | _ => none }
def InducedHomotopyWrongFalsely : Prop := inducedHomotopyRow.holds Tryz.pinned (OpenSpec.ofChange inducedHomotopyWrong)

/- THE SECOND FORM. 'bulk': how many values and letters a reading holds, each counted each time it is reached (what is shared counts as often as it is met; a slice's spare places count too). A statement '..UptoSaid' is the law's where the arguments, and the package variables that the reading takes, are together of bulk at most 1048576: NARROWER than '..Said'. Prove '..Said' where nothing that the law and all that it calls make is longer than what came in: it says more and counts as full. Else prove '..UptoSaid'. A law counts once. -/
mutual
def uptoBulk {H : Type} : DataW H → Nat
  | .lit (.string bytes) => bytes.length + 1
  | .lit _ => 1
  | .nil => 1
  | .ptr d => uptoBulk d + 1
  | .slice elems spare => uptoBulkAll elems + uptoBulkAll spare + 1
  | .agg parts => uptoBulkAll parts + 1
  | .iface _ d => uptoBulk d + 1
  | .map entries => uptoBulkEntries entries + 1
  | .held _ => 1
def uptoBulkAll {H : Type} : List (DataW H) → Nat
  | [] => 0
  | d :: r => uptoBulk d + uptoBulkAll r
def uptoBulkEntries {H : Type} : List (Lit × DataW H) → Nat
  | [] => 0
  | x :: r => uptoBulkEntry x + uptoBulkEntries r
def uptoBulkEntry {H : Type} : Lit × DataW H → Nat
  | (.string bytes, d) => bytes.length + uptoBulk d + 1
  | (_, d) => uptoBulk d + 1
 end
def uptoSmall : (H : Type) → List (DataW H) → Bool := fun _ ds => decide (uptoBulkAll ds ≤ 1048576)
def OpenSpec.upto (s : _root_.Go.ChangeSpec) : _root_.Go.OpenSpec := { _root_.Go.OpenSpec.ofChange s with cond := some uptoSmall }

/-- 'torsionlaw14.DiophantDecides', WHERE WHAT IT READS IS OF BULK AT MOST 1048576: true; the input reads as it did. -/
def diophantDecidesUptoRow : OpenClaim := { program := "ytnbmaipobhppcaagreat", sum := "51d5b11bf111794a8e8e3afff6ffd0bdea7f6f2a931274d648269e421c5b42b3", func := "torsion/torsionlaw14.DiophantDecides", spec := "diophantDecides", inPlace := ["slices.overlaps[torsion/hermite.pivot]"], unfollowed := true, recurses := true, apart := false, narrowed := true }
def DiophantDecidesUptoSaid : Prop := diophantDecidesUptoRow.holds Tryz.pinned (OpenSpec.upto diophantDecidesSpec)

/-- 'torsionlaw14.DiophantFinds', WHERE WHAT IT READS IS OF BULK AT MOST 1048576: true; the input reads as it did. -/
def diophantFindsUptoRow : OpenClaim := { program := "ytnbmaipobhppcaagreat", sum := "51d5b11bf111794a8e8e3afff6ffd0bdea7f6f2a931274d648269e421c5b42b3", func := "torsion/torsionlaw14.DiophantFinds", spec := "diophantFinds", inPlace := ["slices.overlaps[torsion/hermite.pivot]"], unfollowed := true, recurses := true, apart := false, narrowed := true }
def DiophantFindsUptoSaid : Prop := diophantFindsUptoRow.holds Tryz.pinned (OpenSpec.upto diophantFindsSpec)

/-- 'torsionlaw14.DiophantLattice', WHERE WHAT IT READS IS OF BULK AT MOST 1048576: true; the input reads as it did. -/
def diophantLatticeUptoRow : OpenClaim := { program := "ytnbmaipobhppcaagreat", sum := "51d5b11bf111794a8e8e3afff6ffd0bdea7f6f2a931274d648269e421c5b42b3", func := "torsion/torsionlaw14.DiophantLattice", spec := "diophantLattice", inPlace := ["slices.overlaps[torsion/hermite.pivot]"], unfollowed := true, recurses := true, apart := false, narrowed := true }
def DiophantLatticeUptoSaid : Prop := diophantLatticeUptoRow.holds Tryz.pinned (OpenSpec.upto diophantLatticeSpec)

/-- 'torsionlaw14.DiophantMultiples', WHERE WHAT IT READS IS OF BULK AT MOST 1048576: true; the input reads as it did. -/
def diophantMultiplesUptoRow : OpenClaim := { program := "ytnbmaipobhppcaagreat", sum := "51d5b11bf111794a8e8e3afff6ffd0bdea7f6f2a931274d648269e421c5b42b3", func := "torsion/torsionlaw14.DiophantMultiples", spec := "diophantMultiples", inPlace := ["slices.overlaps[torsion/hermite.pivot]"], unfollowed := true, recurses := true, apart := false, narrowed := true }
def DiophantMultiplesUptoSaid : Prop := diophantMultiplesUptoRow.holds Tryz.pinned (OpenSpec.upto diophantMultiplesSpec)

/-- 'torsionlaw14.DiophantChecks', WHERE WHAT IT READS IS OF BULK AT MOST 1048576: true; the input reads as it did. -/
def diophantChecksUptoRow : OpenClaim := { program := "ytnbmaipobhppcaagreat", sum := "51d5b11bf111794a8e8e3afff6ffd0bdea7f6f2a931274d648269e421c5b42b3", func := "torsion/torsionlaw14.DiophantChecks", spec := "diophantChecks", inPlace := ["slices.overlaps[torsion/hermite.pivot]"], unfollowed := true, recurses := true, apart := false, narrowed := true }
def DiophantChecksUptoSaid : Prop := diophantChecksUptoRow.holds Tryz.pinned (OpenSpec.upto diophantChecksSpec)

/-- 'torsionlaw29.InducedMakes', WHERE WHAT IT READS IS OF BULK AT MOST 1048576: true; the input reads as it did. -/
def inducedMakesUptoRow : OpenClaim := { program := "ytnbmaipobhppcaagreat", sum := "51d5b11bf111794a8e8e3afff6ffd0bdea7f6f2a931274d648269e421c5b42b3", func := "torsion/torsionlaw29.InducedMakes", spec := "inducedMakes", inPlace := ["sync/atomic.LoadUint32", "(*internal/sync.Mutex).Lock", "internal/race.Disable", "sync/atomic.CompareAndSwapInt32", "internal/race.Enable", "internal/race.Acquire", "(*internal/sync.Mutex).lockSlow", "internal/sync.runtime_canSpin", "internal/sync.runtime_doSpin", "internal/sync.throw", "internal/sync.runtime_nanotime", "internal/sync.runtime_SemacquireMutex", "sync/atomic.AddInt32", "(*internal/sync.Mutex).Unlock", "internal/race.ReleaseMerge", "(*internal/sync.Mutex).unlockSlow", "internal/sync.fatal", "internal/sync.runtime_Semrelease", "sync/atomic.StoreUint32"], unfollowed := true, recurses := true, apart := false, narrowed := true }
def InducedMakesUptoSaid : Prop := inducedMakesUptoRow.holds Tryz.pinned (OpenSpec.upto inducedMakesSpec)

/-- 'torsionlaw29.InducedValid', WHERE WHAT IT READS IS OF BULK AT MOST 1048576: true; the input reads as it did. -/
def inducedValidUptoRow : OpenClaim := { program := "ytnbmaipobhppcaagreat", sum := "51d5b11bf111794a8e8e3afff6ffd0bdea7f6f2a931274d648269e421c5b42b3", func := "torsion/torsionlaw29.InducedValid", spec := "inducedValid", inPlace := ["sync/atomic.LoadUint32", "(*internal/sync.Mutex).Lock", "internal/race.Disable", "sync/atomic.CompareAndSwapInt32", "internal/race.Enable", "internal/race.Acquire", "(*internal/sync.Mutex).lockSlow", "internal/sync.runtime_canSpin", "internal/sync.runtime_doSpin", "internal/sync.throw", "internal/sync.runtime_nanotime", "internal/sync.runtime_SemacquireMutex", "sync/atomic.AddInt32", "(*internal/sync.Mutex).Unlock", "internal/race.ReleaseMerge", "(*internal/sync.Mutex).unlockSlow", "internal/sync.fatal", "internal/sync.runtime_Semrelease", "sync/atomic.StoreUint32"], unfollowed := true, recurses := true, apart := false, narrowed := true }
def InducedValidUptoSaid : Prop := inducedValidUptoRow.holds Tryz.pinned (OpenSpec.upto inducedValidSpec)

/-- 'torsionlaw29.InducedLinear', WHERE WHAT IT READS IS OF BULK AT MOST 1048576: true; the input reads as it did. -/
def inducedLinearUptoRow : OpenClaim := { program := "ytnbmaipobhppcaagreat", sum := "51d5b11bf111794a8e8e3afff6ffd0bdea7f6f2a931274d648269e421c5b42b3", func := "torsion/torsionlaw29.InducedLinear", spec := "inducedLinear", inPlace := ["sync/atomic.LoadUint32", "(*internal/sync.Mutex).Lock", "internal/race.Disable", "sync/atomic.CompareAndSwapInt32", "internal/race.Enable", "internal/race.Acquire", "(*internal/sync.Mutex).lockSlow", "internal/sync.runtime_canSpin", "internal/sync.runtime_doSpin", "internal/sync.throw", "internal/sync.runtime_nanotime", "internal/sync.runtime_SemacquireMutex", "sync/atomic.AddInt32", "(*internal/sync.Mutex).Unlock", "internal/race.ReleaseMerge", "(*internal/sync.Mutex).unlockSlow", "internal/sync.fatal", "internal/sync.runtime_Semrelease", "sync/atomic.StoreUint32"], unfollowed := true, recurses := true, apart := false, narrowed := true }
def InducedLinearUptoSaid : Prop := inducedLinearUptoRow.holds Tryz.pinned (OpenSpec.upto inducedLinearSpec)

/-- 'torsionlaw29.InducedCommutes', WHERE WHAT IT READS IS OF BULK AT MOST 1048576: true; the input reads as it did. -/
def inducedCommutesUptoRow : OpenClaim := { program := "ytnbmaipobhppcaagreat", sum := "51d5b11bf111794a8e8e3afff6ffd0bdea7f6f2a931274d648269e421c5b42b3", func := "torsion/torsionlaw29.InducedCommutes", spec := "inducedCommutes", inPlace := ["sync/atomic.LoadUint32", "(*internal/sync.Mutex).Lock", "internal/race.Disable", "sync/atomic.CompareAndSwapInt32", "internal/race.Enable", "internal/race.Acquire", "(*internal/sync.Mutex).lockSlow", "internal/sync.runtime_canSpin", "internal/sync.runtime_doSpin", "internal/sync.throw", "internal/sync.runtime_nanotime", "internal/sync.runtime_SemacquireMutex", "sync/atomic.AddInt32", "(*internal/sync.Mutex).Unlock", "internal/race.ReleaseMerge", "(*internal/sync.Mutex).unlockSlow", "internal/sync.fatal", "internal/sync.runtime_Semrelease", "sync/atomic.StoreUint32"], unfollowed := true, recurses := true, apart := false, narrowed := true }
def InducedCommutesUptoSaid : Prop := inducedCommutesUptoRow.holds Tryz.pinned (OpenSpec.upto inducedCommutesSpec)

/-- 'torsionlaw29.InducedComposes', WHERE WHAT IT READS IS OF BULK AT MOST 1048576: true; the input reads as it did. -/
def inducedComposesUptoRow : OpenClaim := { program := "ytnbmaipobhppcaagreat", sum := "51d5b11bf111794a8e8e3afff6ffd0bdea7f6f2a931274d648269e421c5b42b3", func := "torsion/torsionlaw29.InducedComposes", spec := "inducedComposes", inPlace := ["sync/atomic.LoadUint32", "(*internal/sync.Mutex).Lock", "internal/race.Disable", "sync/atomic.CompareAndSwapInt32", "internal/race.Enable", "internal/race.Acquire", "(*internal/sync.Mutex).lockSlow", "internal/sync.runtime_canSpin", "internal/sync.runtime_doSpin", "internal/sync.throw", "internal/sync.runtime_nanotime", "internal/sync.runtime_SemacquireMutex", "sync/atomic.AddInt32", "(*internal/sync.Mutex).Unlock", "internal/race.ReleaseMerge", "(*internal/sync.Mutex).unlockSlow", "internal/sync.fatal", "internal/sync.runtime_Semrelease", "sync/atomic.StoreUint32"], unfollowed := true, recurses := true, apart := false, narrowed := true }
def InducedComposesUptoSaid : Prop := inducedComposesUptoRow.holds Tryz.pinned (OpenSpec.upto inducedComposesSpec)

/-- 'torsionlaw29.InducedHomotopy', WHERE WHAT IT READS IS OF BULK AT MOST 1048576: true; the input reads as it did. -/
def inducedHomotopyUptoRow : OpenClaim := { program := "ytnbmaipobhppcaagreat", sum := "51d5b11bf111794a8e8e3afff6ffd0bdea7f6f2a931274d648269e421c5b42b3", func := "torsion/torsionlaw29.InducedHomotopy", spec := "inducedHomotopy", inPlace := ["sync/atomic.LoadUint32", "(*internal/sync.Mutex).Lock", "internal/race.Disable", "sync/atomic.CompareAndSwapInt32", "internal/race.Enable", "internal/race.Acquire", "(*internal/sync.Mutex).lockSlow", "internal/sync.runtime_canSpin", "internal/sync.runtime_doSpin", "internal/sync.throw", "internal/sync.runtime_nanotime", "internal/sync.runtime_SemacquireMutex", "sync/atomic.AddInt32", "(*internal/sync.Mutex).Unlock", "internal/race.ReleaseMerge", "(*internal/sync.Mutex).unlockSlow", "internal/sync.fatal", "internal/sync.runtime_Semrelease", "sync/atomic.StoreUint32", "slices.overlaps[torsion/hermite.pivot]"], unfollowed := true, recurses := true, apart := false, narrowed := true }
def InducedHomotopyUptoSaid : Prop := inducedHomotopyUptoRow.holds Tryz.pinned (OpenSpec.upto inducedHomotopySpec)

end Rows
end Go.Proofs.YtnbmaipobhppcaaGreat
