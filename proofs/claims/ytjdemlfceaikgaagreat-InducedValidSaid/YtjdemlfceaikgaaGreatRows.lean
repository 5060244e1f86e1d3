/-
  No cell of these rows narrows 'for every input' (looked for: loops, veiled, ifaces, maps, wideKeys, modest, calm, conditions, laid).
  DERIVED. THE GIVEN ROWS OF THIS SEAT. 5 by the template 'for every input the law returns true; each argument reads behind the call as it read before'; 0 by the template 'total and deterministic' (their statements: YtjdemlfceaikgaaGreatTotals.lean).
  GIVEN WITH THE SEED: the statements are not yours to turn. If you find one false, say at which input.
  Laid BY PROGRAM, IN A SANDBOX (cutbox-rows.mjs): the forced cells as the released guide's own fill.sh prints them over the translation 1402c91d9bec1dc3… (all of the seat's roots in one cut). By AI agents, Wed Nov 11 2026. No macro, syntax, notation, axiom, sorry.
-/
import Derived.Test.YtjdemlfceaikgaaGreatChecked
import GoSem.Claim
import GoSem.ClaimJoined
import GoSem.ClaimMapViews
import Derived.JoinedTies
import Derived.KernelRfl
namespace Go.Proofs.YtjdemlfceaikgaaGreat
/- THE CELL 'sum', in the pinned program and in every row, IS THE sha256 OF THE DUMP (.gsa) THAT YtjdemlfceaikgaaGreatProg.lean LOADS. Nothing in Lean hashes anything: it is a label: what it is worth is what the hold of that sum in a sandbox is worth. -/
noncomputable def Tryz.pinned : Pinned := { name := "ytjdemlfceaikgaagreat", sum := "1402c91d9bec1dc37bd0881f54595ada4598aba741fe503196e45bf997092429", checked := Tryz.checked }
namespace Rows
def none {H : Type} : Left H := { results := [], args := [] }

/-- 'torsionlaw29.InducedMakes': WHATEVER THE INPUT: true; the input reads as it did. -/
def inducedMakesSpec : ChangeSpec := { name := "inducedMakes", fn := fun _ => fun
  | [d1, d2, d3] => { results := [.lit (.bool true)], args := [d1, d2, d3] }
  | _ => none }
def inducedMakesRow : OpenClaim := { program := "ytjdemlfceaikgaagreat", sum := "1402c91d9bec1dc37bd0881f54595ada4598aba741fe503196e45bf997092429", func := "torsion/torsionlaw29.InducedMakes", spec := "inducedMakes", inPlace := ["sync/atomic.LoadUint32", "(*internal/sync.Mutex).Lock", "internal/race.Disable", "sync/atomic.CompareAndSwapInt32", "internal/race.Enable", "internal/race.Acquire", "(*internal/sync.Mutex).lockSlow", "internal/sync.runtime_canSpin", "internal/sync.runtime_doSpin", "internal/sync.throw", "internal/sync.runtime_nanotime", "internal/sync.runtime_SemacquireMutex", "sync/atomic.AddInt32", "(*internal/sync.Mutex).Unlock", "internal/race.ReleaseMerge", "(*internal/sync.Mutex).unlockSlow", "internal/sync.fatal", "internal/sync.runtime_Semrelease", "sync/atomic.StoreUint32"], unfollowed := true, recurses := true, apart := false }
def InducedMakesSaid : Prop := inducedMakesRow.holds Tryz.pinned (OpenSpec.ofChange inducedMakesSpec)

/-- ITS FALSE NEIGHBOUR: 'it returns false'. Refute it at one input. -/
def inducedMakesWrong : ChangeSpec := { name := "inducedMakes", fn := fun _ => fun
  | [d1, d2, d3] => { results := [.lit (.bool false)], args := [d1, d2, d3] }
  | _ => none }
def InducedMakesWrongFalsely : Prop := inducedMakesRow.holds Tryz.pinned (OpenSpec.ofChange inducedMakesWrong)

/-- 'torsionlaw29.InducedValid': WHATEVER THE INPUT: true; the input reads as it did. -/
def inducedValidSpec : ChangeSpec := { name := "inducedValid", fn := fun _ => fun
  | [d1, d2] => { results := [.lit (.bool true)], args := [d1, d2] }
  | _ => none }
def inducedValidRow : OpenClaim := { program := "ytjdemlfceaikgaagreat", sum := "1402c91d9bec1dc37bd0881f54595ada4598aba741fe503196e45bf997092429", func := "torsion/torsionlaw29.InducedValid", spec := "inducedValid", inPlace := ["sync/atomic.LoadUint32", "(*internal/sync.Mutex).Lock", "internal/race.Disable", "sync/atomic.CompareAndSwapInt32", "internal/race.Enable", "internal/race.Acquire", "(*internal/sync.Mutex).lockSlow", "internal/sync.runtime_canSpin", "internal/sync.runtime_doSpin", "internal/sync.throw", "internal/sync.runtime_nanotime", "internal/sync.runtime_SemacquireMutex", "sync/atomic.AddInt32", "(*internal/sync.Mutex).Unlock", "internal/race.ReleaseMerge", "(*internal/sync.Mutex).unlockSlow", "internal/sync.fatal", "internal/sync.runtime_Semrelease", "sync/atomic.StoreUint32"], unfollowed := true, recurses := true, apart := false }
def InducedValidSaid : Prop := inducedValidRow.holds Tryz.pinned (OpenSpec.ofChange inducedValidSpec)

/-- ITS FALSE NEIGHBOUR: 'it returns false'. Refute it at one input. -/
def inducedValidWrong : ChangeSpec := { name := "inducedValid", fn := fun _ => fun
  | [d1, d2] => { results := [.lit (.bool false)], args := [d1, d2] }
  | _ => none }
def InducedValidWrongFalsely : Prop := inducedValidRow.holds Tryz.pinned (OpenSpec.ofChange inducedValidWrong)

/-- 'torsionlaw29.InducedLinear': WHATEVER THE INPUT: true; the input reads as it did. -/
def inducedLinearSpec : ChangeSpec := { name := "inducedLinear", fn := fun _ => fun
  | [d1, d2, d3] => { results := [.lit (.bool true)], args := [d1, d2, d3] }
  | _ => none }
def inducedLinearRow : OpenClaim := { program := "ytjdemlfceaikgaagreat", sum := "1402c91d9bec1dc37bd0881f54595ada4598aba741fe503196e45bf997092429", func := "torsion/torsionlaw29.InducedLinear", spec := "inducedLinear", inPlace := ["sync/atomic.LoadUint32", "(*internal/sync.Mutex).Lock", "internal/race.Disable", "sync/atomic.CompareAndSwapInt32", "internal/race.Enable", "internal/race.Acquire", "(*internal/sync.Mutex).lockSlow", "internal/sync.runtime_canSpin", "internal/sync.runtime_doSpin", "internal/sync.throw", "internal/sync.runtime_nanotime", "internal/sync.runtime_SemacquireMutex", "sync/atomic.AddInt32", "(*internal/sync.Mutex).Unlock", "internal/race.ReleaseMerge", "(*internal/sync.Mutex).unlockSlow", "internal/sync.fatal", "internal/sync.runtime_Semrelease", "sync/atomic.StoreUint32"], unfollowed := true, recurses := true, apart := false }
def InducedLinearSaid : Prop := inducedLinearRow.holds Tryz.pinned (OpenSpec.ofChange inducedLinearSpec)

/-- ITS FALSE NEIGHBOUR: 'it returns false'. Refute it at one input. -/
def inducedLinearWrong : ChangeSpec := { name := "inducedLinear", fn := fun _ => fun
  | [d1, d2, d3] => { results := [.lit (.bool false)], args := [d1, d2, d3] }
  | _ => none }
def InducedLinearWrongFalsely : Prop := inducedLinearRow.holds Tryz.pinned (OpenSpec.ofChange inducedLinearWrong)

/-- 'torsionlaw29.InducedCommutes': WHATEVER THE INPUT: true; the input reads as it did. -/
def inducedCommutesSpec : ChangeSpec := { name := "inducedCommutes", fn := fun _ => fun
  | [d1, d2] => { results := [.lit (.bool true)], args := [d1, d2] }
  | _ => none }
def inducedCommutesRow : OpenClaim := { program := "ytjdemlfceaikgaagreat", sum := "1402c91d9bec1dc37bd0881f54595ada4598aba741fe503196e45bf997092429", func := "torsion/torsionlaw29.InducedCommutes", spec := "inducedCommutes", inPlace := ["sync/atomic.LoadUint32", "(*internal/sync.Mutex).Lock", "internal/race.Disable", "sync/atomic.CompareAndSwapInt32", "internal/race.Enable", "internal/race.Acquire", "(*internal/sync.Mutex).lockSlow", "internal/sync.runtime_canSpin", "internal/sync.runtime_doSpin", "internal/sync.throw", "internal/sync.runtime_nanotime", "internal/sync.runtime_SemacquireMutex", "sync/atomic.AddInt32", "(*internal/sync.Mutex).Unlock", "internal/race.ReleaseMerge", "(*internal/sync.Mutex).unlockSlow", "internal/sync.fatal", "internal/sync.runtime_Semrelease", "sync/atomic.StoreUint32"], unfollowed := true, recurses := true, apart := false }
def InducedCommutesSaid : Prop := inducedCommutesRow.holds Tryz.pinned (OpenSpec.ofChange inducedCommutesSpec)

/-- ITS FALSE NEIGHBOUR: 'it returns false'. Refute it at one input. -/
def inducedCommutesWrong : ChangeSpec := { name := "inducedCommutes", fn := fun _ => fun
  | [d1, d2] => { results := [.lit (.bool false)], args := [d1, d2] }
  | _ => none }
def InducedCommutesWrongFalsely : Prop := inducedCommutesRow.holds Tryz.pinned (OpenSpec.ofChange inducedCommutesWrong)

/-- 'torsionlaw29.InducedComposes': WHATEVER THE INPUT: true; the input reads as it did. -/
def inducedComposesSpec : ChangeSpec := { name := "inducedComposes", fn := fun _ => fun
  | [d1, d2, d3] => { results := [.lit (.bool true)], args := [d1, d2, d3] }
  | _ => none }
def inducedComposesRow : OpenClaim := { program := "ytjdemlfceaikgaagreat", sum := "1402c91d9bec1dc37bd0881f54595ada4598aba741fe503196e45bf997092429", func := "torsion/torsionlaw29.InducedComposes", spec := "inducedComposes", inPlace := ["sync/atomic.LoadUint32", "(*internal/sync.Mutex).Lock", "internal/race.Disable", "sync/atomic.CompareAndSwapInt32", "internal/race.Enable", "internal/race.Acquire", "(*internal/sync.Mutex).lockSlow", "internal/sync.runtime_canSpin", "internal/sync.runtime_doSpin", "internal/sync.throw", "internal/sync.runtime_nanotime", "internal/sync.runtime_SemacquireMutex", "sync/atomic.AddInt32", "(*internal/sync.Mutex).Unlock", "internal/race.ReleaseMerge", "(*internal/sync.Mutex).unlockSlow", "internal/sync.fatal", "internal/sync.runtime_Semrelease", "sync/atomic.StoreUint32"], unfollowed := true, recurses := true, apart := false }
def InducedComposesSaid : Prop := inducedComposesRow.holds Tryz.pinned (OpenSpec.ofChange inducedComposesSpec)

/-- ITS FALSE NEIGHBOUR: 'it returns false'. Refute it at one input. -/
def inducedComposesWrong : ChangeSpec := { name := "inducedComposes", fn := fun _ => fun
  | [d1, d2, d3] => { results := [.lit (.bool false)], args := [d1, d2, d3] }
  | _ => none }
def InducedComposesWrongFalsely : Prop := inducedComposesRow.holds Tryz.pinned (OpenSpec.ofChange inducedComposesWrong)

/- THE SECOND FORM. 'bulk': how many values and letters a reading holds, each counted each time it is reached (what is shared counts as often as it is met; a slice's spare places count too). A statement '..UptoSaid' is the law's where the arguments, and the package variables that the reading takes, are together of bulk at most 1048576: NARROWER than '..Said'. Prove '..Said' where nothing that the law and all that it calls make is longer than what came in: it says more and counts as full. Else prove '..UptoSaid'. A law counts once. -/
mutual
def uptoBulk {H : Type} : DataW H → Nat
  | .lit (.string bytes) => bytes.length + 1
  | .lit _ => 1
  | .nil => 1
  | .ptr d => uptoBulk d + 1
  | .slice elems spare => uptoBulkAll elems + uptoBulkAll spare + 1
  | .agg parts => uptoBulkAll parts + 1
  | .iface _ d => uptoBulk d + 1
  | .map entries => uptoBulkEntries entries + 1
  | .held _ => 1
def uptoBulkAll {H : Type} : List (DataW H) → Nat
  | [] => 0
  | d :: r => uptoBulk d + uptoBulkAll r
def uptoBulkEntries {H : Type} : List (Lit × DataW H) → Nat
  | [] => 0
  | x :: r => uptoBulkEntry x + uptoBulkEntries r
def uptoBulkEntry {H : Type} : Lit × DataW H → Nat
  | (.string bytes, d) => bytes.length + uptoBulk d + 1
  | (_, d) => uptoBulk d + 1
 end
def uptoSmall : (H : Type) → List (DataW H) → Bool := fun _ ds => decide (uptoBulkAll ds ≤ 1048576)
def OpenSpec.upto (s : _root_.Go.ChangeSpec) : _root_.Go.OpenSpec := { _root_.Go.OpenSpec.ofChange s with cond := some uptoSmall }

/-- 'torsionlaw29.InducedMakes', WHERE WHAT IT READS IS OF BULK AT MOST 1048576: true; the input reads as it did. -/
def inducedMakesUptoRow : OpenClaim := { program := "ytjdemlfceaikgaagreat", sum := "1402c91d9bec1dc37bd0881f54595ada4598aba741fe503196e45bf997092429", func := "torsion/torsionlaw29.InducedMakes", spec := "inducedMakes", inPlace := ["sync/atomic.LoadUint32", "(*internal/sync.Mutex).Lock", "internal/race.Disable", "sync/atomic.CompareAndSwapInt32", "internal/race.Enable", "internal/race.Acquire", "(*internal/sync.Mutex).lockSlow", "internal/sync.runtime_canSpin", "internal/sync.runtime_doSpin", "internal/sync.throw", "internal/sync.runtime_nanotime", "internal/sync.runtime_SemacquireMutex", "sync/atomic.AddInt32", "(*internal/sync.Mutex).Unlock", "internal/race.ReleaseMerge", "(*internal/sync.Mutex).unlockSlow", "internal/sync.fatal", "internal/sync.runtime_Semrelease", "sync/atomic.StoreUint32"], unfollowed := true, recurses := true, apart := false, narrowed := true }
def InducedMakesUptoSaid : Prop := inducedMakesUptoRow.holds Tryz.pinned (OpenSpec.upto inducedMakesSpec)

/-- 'torsionlaw29.InducedValid', WHERE WHAT IT READS IS OF BULK AT MOST 1048576: true; the input reads as it did. -/
def inducedValidUptoRow : OpenClaim := { program := "ytjdemlfceaikgaagreat", sum := "1402c91d9bec1dc37bd0881f54595ada4598aba741fe503196e45bf997092429", func := "torsion/torsionlaw29.InducedValid", spec := "inducedValid", inPlace := ["sync/atomic.LoadUint32", "(*internal/sync.Mutex).Lock", "internal/race.Disable", "sync/atomic.CompareAndSwapInt32", "internal/race.Enable", "internal/race.Acquire", "(*internal/sync.Mutex).lockSlow", "internal/sync.runtime_canSpin", "internal/sync.runtime_doSpin", "internal/sync.throw", "internal/sync.runtime_nanotime", "internal/sync.runtime_SemacquireMutex", "sync/atomic.AddInt32", "(*internal/sync.Mutex).Unlock", "internal/race.ReleaseMerge", "(*internal/sync.Mutex).unlockSlow", "internal/sync.fatal", "internal/sync.runtime_Semrelease", "sync/atomic.StoreUint32"], unfollowed := true, recurses := true, apart := false, narrowed := true }
def InducedValidUptoSaid : Prop := inducedValidUptoRow.holds Tryz.pinned (OpenSpec.upto inducedValidSpec)

/-- 'torsionlaw29.InducedLinear', WHERE WHAT IT READS IS OF BULK AT MOST 1048576: true; the input reads as it did. -/
def inducedLinearUptoRow : OpenClaim := { program := "ytjdemlfceaikgaagreat", sum := "1402c91d9bec1dc37bd0881f54595ada4598aba741fe503196e45bf997092429", func := "torsion/torsionlaw29.InducedLinear", spec := "inducedLinear", inPlace := ["sync/atomic.LoadUint32", "(*internal/sync.Mutex).Lock", "internal/race.Disable", "sync/atomic.CompareAndSwapInt32", "internal/race.Enable", "internal/race.Acquire", "(*internal/sync.Mutex).lockSlow", "internal/sync.runtime_canSpin", "internal/sync.runtime_doSpin", "internal/sync.throw", "internal/sync.runtime_nanotime", "internal/sync.runtime_SemacquireMutex", "sync/atomic.AddInt32", "(*internal/sync.Mutex).Unlock", "internal/race.ReleaseMerge", "(*internal/sync.Mutex).unlockSlow", "internal/sync.fatal", "internal/sync.runtime_Semrelease", "sync/atomic.StoreUint32"], unfollowed := true, recurses := true, apart := false, narrowed := true }
def InducedLinearUptoSaid : Prop := inducedLinearUptoRow.holds Tryz.pinned (OpenSpec.upto inducedLinearSpec)

/-- 'torsionlaw29.InducedCommutes', WHERE WHAT IT READS IS OF BULK AT MOST 1048576: true; the input reads as it did. -/
def inducedCommutesUptoRow : OpenClaim := { program := "ytjdemlfceaikgaagreat", sum := "1402c91d9bec1dc37bd0881f54595ada4598aba741fe503196e45bf997092429", func := "torsion/torsionlaw29.InducedCommutes", spec := "inducedCommutes", inPlace := ["sync/atomic.LoadUint32", "(*internal/sync.Mutex).Lock", "internal/race.Disable", "sync/atomic.CompareAndSwapInt32", "internal/race.Enable", "internal/race.Acquire", "(*internal/sync.Mutex).lockSlow", "internal/sync.runtime_canSpin", "internal/sync.runtime_doSpin", "internal/sync.throw", "internal/sync.runtime_nanotime", "internal/sync.runtime_SemacquireMutex", "sync/atomic.AddInt32", "(*internal/sync.Mutex).Unlock", "internal/race.ReleaseMerge", "(*internal/sync.Mutex).unlockSlow", "internal/sync.fatal", "internal/sync.runtime_Semrelease", "sync/atomic.StoreUint32"], unfollowed := true, recurses := true, apart := false, narrowed := true }
def InducedCommutesUptoSaid : Prop := inducedCommutesUptoRow.holds Tryz.pinned (OpenSpec.upto inducedCommutesSpec)

/-- 'torsionlaw29.InducedComposes', WHERE WHAT IT READS IS OF BULK AT MOST 1048576: true; the input reads as it did. -/
def inducedComposesUptoRow : OpenClaim := { program := "ytjdemlfceaikgaagreat", sum := "1402c91d9bec1dc37bd0881f54595ada4598aba741fe503196e45bf997092429", func := "torsion/torsionlaw29.InducedComposes", spec := "inducedComposes", inPlace := ["sync/atomic.LoadUint32", "(*internal/sync.Mutex).Lock", "internal/race.Disable", "sync/atomic.CompareAndSwapInt32", "internal/race.Enable", "internal/race.Acquire", "(*internal/sync.Mutex).lockSlow", "internal/sync.runtime_canSpin", "internal/sync.runtime_doSpin", "internal/sync.throw", "internal/sync.runtime_nanotime", "internal/sync.runtime_SemacquireMutex", "sync/atomic.AddInt32", "(*internal/sync.Mutex).Unlock", "internal/race.ReleaseMerge", "(*internal/sync.Mutex).unlockSlow", "internal/sync.fatal", "internal/sync.runtime_Semrelease", "sync/atomic.StoreUint32"], unfollowed := true, recurses := true, apart := false, narrowed := true }
def InducedComposesUptoSaid : Prop := inducedComposesUptoRow.holds Tryz.pinned (OpenSpec.upto inducedComposesSpec)

end Rows
end Go.Proofs.YtjdemlfceaikgaaGreat
