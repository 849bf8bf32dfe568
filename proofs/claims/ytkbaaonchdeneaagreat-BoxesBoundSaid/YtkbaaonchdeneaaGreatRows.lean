/-
  No cell of these rows narrows 'for every input' (looked for: loops, veiled, ifaces, maps, wideKeys, modest, calm, conditions, laid).
  DERIVED. THE GIVEN ROWS OF THIS SEAT. 10 by the template 'for every input the law returns true; each argument reads behind the call as it read before'; 0 by the template 'total and deterministic' (their statements: YtkbaaonchdeneaaGreatTotals.lean).
  GIVEN WITH THE SEED: the statements are not yours to turn. If you find one false, say at which input.
  Laid BY PROGRAM, IN A SANDBOX (cutbox-rows.mjs): the forced cells as the released guide's own fill.sh prints them over the translation 7cd2f6e1a3669ec5… (all of the seat's roots in one cut). By AI agents, Wed Nov 11 2026. No macro, syntax, notation, axiom, sorry.
-/
import Derived.Test.YtkbaaonchdeneaaGreatChecked
import GoSem.Claim
import GoSem.ClaimJoined
import GoSem.ClaimMapViews
import Derived.JoinedTies
import Derived.KernelRfl
namespace Go.Proofs.YtkbaaonchdeneaaGreat
/- THE CELL 'sum', in the pinned program and in every row, IS THE sha256 OF THE DUMP (.gsa) THAT YtkbaaonchdeneaaGreatProg.lean LOADS. Nothing in Lean hashes anything: it is a label: what it is worth is what the hold of that sum in a sandbox is worth. -/
noncomputable def Tryz.pinned : Pinned := { name := "ytkbaaonchdeneaagreat", sum := "7cd2f6e1a3669ec5ea2e370e6d64708421e890b374a9fde36b74612af9a46094", checked := Tryz.checked }
namespace Rows
def none {H : Type} : Left H := { results := [], args := [] }

/-- 'gridironlaw25.BoxesBound': WHATEVER THE INPUT: true; the input reads as it did. -/
def boxesBoundSpec : ChangeSpec := { name := "boxesBound", fn := fun _ => fun
  | [d] => { results := [.lit (.bool true)], args := [d] }
  | _ => none }
def boxesBoundRow : OpenClaim := { program := "ytkbaaonchdeneaagreat", sum := "7cd2f6e1a3669ec5ea2e370e6d64708421e890b374a9fde36b74612af9a46094", func := "gridiron/gridironlaw25.BoxesBound", spec := "boxesBound", inPlace := ["sync/atomic.LoadUint32", "(*internal/sync.Mutex).Lock", "internal/race.Disable", "sync/atomic.CompareAndSwapInt32", "internal/race.Enable", "internal/race.Acquire", "(*internal/sync.Mutex).lockSlow", "internal/sync.runtime_canSpin", "internal/sync.runtime_doSpin", "internal/sync.throw", "internal/sync.runtime_nanotime", "internal/sync.runtime_SemacquireMutex", "sync/atomic.AddInt32", "(*internal/sync.Mutex).Unlock", "internal/race.ReleaseMerge", "(*internal/sync.Mutex).unlockSlow", "internal/sync.fatal", "internal/sync.runtime_Semrelease", "sync/atomic.StoreUint32", "math/bits.Add64"], unfollowed := true, recurses := true, plainKeys := false, apart := false }
def BoxesBoundSaid : Prop := boxesBoundRow.holds Tryz.pinned (OpenSpec.ofChange boxesBoundSpec)

/-- ITS FALSE NEIGHBOUR: 'it returns false'. Refute it at one input. -/
def boxesBoundWrong : ChangeSpec := { name := "boxesBound", fn := fun _ => fun
  | [d] => { results := [.lit (.bool false)], args := [d] }
  | _ => none }
def BoxesBoundWrongFalsely : Prop := boxesBoundRow.holds Tryz.pinned (OpenSpec.ofChange boxesBoundWrong)

/-- 'gridironlaw25.BoxesNone': WHATEVER THE INPUT: true; the input reads as it did. -/
def boxesNoneSpec : ChangeSpec := { name := "boxesNone", fn := fun _ => fun
  | [d] => { results := [.lit (.bool true)], args := [d] }
  | _ => none }
def boxesNoneRow : OpenClaim := { program := "ytkbaaonchdeneaagreat", sum := "7cd2f6e1a3669ec5ea2e370e6d64708421e890b374a9fde36b74612af9a46094", func := "gridiron/gridironlaw25.BoxesNone", spec := "boxesNone", inPlace := ["sync/atomic.LoadUint32", "(*internal/sync.Mutex).Lock", "internal/race.Disable", "sync/atomic.CompareAndSwapInt32", "internal/race.Enable", "internal/race.Acquire", "(*internal/sync.Mutex).lockSlow", "internal/sync.runtime_canSpin", "internal/sync.runtime_doSpin", "internal/sync.throw", "internal/sync.runtime_nanotime", "internal/sync.runtime_SemacquireMutex", "sync/atomic.AddInt32", "(*internal/sync.Mutex).Unlock", "internal/race.ReleaseMerge", "(*internal/sync.Mutex).unlockSlow", "internal/sync.fatal", "internal/sync.runtime_Semrelease", "sync/atomic.StoreUint32", "math/bits.Add64"], unfollowed := true, recurses := true, plainKeys := false, apart := false }
def BoxesNoneSaid : Prop := boxesNoneRow.holds Tryz.pinned (OpenSpec.ofChange boxesNoneSpec)

/-- ITS FALSE NEIGHBOUR: 'it returns false'. Refute it at one input. -/
def boxesNoneWrong : ChangeSpec := { name := "boxesNone", fn := fun _ => fun
  | [d] => { results := [.lit (.bool false)], args := [d] }
  | _ => none }
def BoxesNoneWrongFalsely : Prop := boxesNoneRow.holds Tryz.pinned (OpenSpec.ofChange boxesNoneWrong)

/-- 'gridironlaw24.SpansOrder': WHATEVER THE INPUT: true; the input reads as it did. -/
def spansOrderSpec : ChangeSpec := { name := "spansOrder", fn := fun _ => fun
  | [d1, d2, d3] => { results := [.lit (.bool true)], args := [d1, d2, d3] }
  | _ => none }
def spansOrderRow : OpenClaim := { program := "ytkbaaonchdeneaagreat", sum := "7cd2f6e1a3669ec5ea2e370e6d64708421e890b374a9fde36b74612af9a46094", func := "gridiron/gridironlaw24.SpansOrder", spec := "spansOrder", inPlace := ["sync/atomic.LoadUint32", "(*internal/sync.Mutex).Lock", "internal/race.Disable", "sync/atomic.CompareAndSwapInt32", "internal/race.Enable", "internal/race.Acquire", "(*internal/sync.Mutex).lockSlow", "internal/sync.runtime_canSpin", "internal/sync.runtime_doSpin", "internal/sync.throw", "internal/sync.runtime_nanotime", "internal/sync.runtime_SemacquireMutex", "sync/atomic.AddInt32", "(*internal/sync.Mutex).Unlock", "internal/race.ReleaseMerge", "(*internal/sync.Mutex).unlockSlow", "internal/sync.fatal", "internal/sync.runtime_Semrelease", "sync/atomic.StoreUint32"], unfollowed := true, recurses := true, plainKeys := false, apart := false }
def SpansOrderSaid : Prop := spansOrderRow.holds Tryz.pinned (OpenSpec.ofChange spansOrderSpec)

/-- ITS FALSE NEIGHBOUR: 'it returns false'. Refute it at one input. -/
def spansOrderWrong : ChangeSpec := { name := "spansOrder", fn := fun _ => fun
  | [d1, d2, d3] => { results := [.lit (.bool false)], args := [d1, d2, d3] }
  | _ => none }
def SpansOrderWrongFalsely : Prop := spansOrderRow.holds Tryz.pinned (OpenSpec.ofChange spansOrderWrong)

/-- 'gridironlaw24.SpansSteps': WHATEVER THE INPUT: true; the input reads as it did. -/
def spansStepsSpec : ChangeSpec := { name := "spansSteps", fn := fun _ => fun
  | [d1, d2] => { results := [.lit (.bool true)], args := [d1, d2] }
  | _ => none }
def spansStepsRow : OpenClaim := { program := "ytkbaaonchdeneaagreat", sum := "7cd2f6e1a3669ec5ea2e370e6d64708421e890b374a9fde36b74612af9a46094", func := "gridiron/gridironlaw24.SpansSteps", spec := "spansSteps", inPlace := ["sync/atomic.LoadUint32", "(*internal/sync.Mutex).Lock", "internal/race.Disable", "sync/atomic.CompareAndSwapInt32", "internal/race.Enable", "internal/race.Acquire", "(*internal/sync.Mutex).lockSlow", "internal/sync.runtime_canSpin", "internal/sync.runtime_doSpin", "internal/sync.throw", "internal/sync.runtime_nanotime", "internal/sync.runtime_SemacquireMutex", "sync/atomic.AddInt32", "(*internal/sync.Mutex).Unlock", "internal/race.ReleaseMerge", "(*internal/sync.Mutex).unlockSlow", "internal/sync.fatal", "internal/sync.runtime_Semrelease", "sync/atomic.StoreUint32"], unfollowed := true, recurses := true, plainKeys := false, apart := false }
def SpansStepsSaid : Prop := spansStepsRow.holds Tryz.pinned (OpenSpec.ofChange spansStepsSpec)

/-- ITS FALSE NEIGHBOUR: 'it returns false'. Refute it at one input. -/
def spansStepsWrong : ChangeSpec := { name := "spansSteps", fn := fun _ => fun
  | [d1, d2] => { results := [.lit (.bool false)], args := [d1, d2] }
  | _ => none }
def SpansStepsWrongFalsely : Prop := spansStepsRow.holds Tryz.pinned (OpenSpec.ofChange spansStepsWrong)

/-- 'gridironlaw24.SpansTell': WHATEVER THE INPUT: true; the input reads as it did. -/
def spansTellSpec : ChangeSpec := { name := "spansTell", fn := fun _ => fun
  | [d] => { results := [.lit (.bool true)], args := [d] }
  | _ => none }
def spansTellRow : OpenClaim := { program := "ytkbaaonchdeneaagreat", sum := "7cd2f6e1a3669ec5ea2e370e6d64708421e890b374a9fde36b74612af9a46094", func := "gridiron/gridironlaw24.SpansTell", spec := "spansTell", inPlace := ["sync/atomic.LoadUint32", "(*internal/sync.Mutex).Lock", "internal/race.Disable", "sync/atomic.CompareAndSwapInt32", "internal/race.Enable", "internal/race.Acquire", "(*internal/sync.Mutex).lockSlow", "internal/sync.runtime_canSpin", "internal/sync.runtime_doSpin", "internal/sync.throw", "internal/sync.runtime_nanotime", "internal/sync.runtime_SemacquireMutex", "sync/atomic.AddInt32", "(*internal/sync.Mutex).Unlock", "internal/race.ReleaseMerge", "(*internal/sync.Mutex).unlockSlow", "internal/sync.fatal", "internal/sync.runtime_Semrelease", "sync/atomic.StoreUint32"], unfollowed := true, recurses := true, plainKeys := false, apart := false }
def SpansTellSaid : Prop := spansTellRow.holds Tryz.pinned (OpenSpec.ofChange spansTellSpec)

/-- ITS FALSE NEIGHBOUR: 'it returns false'. Refute it at one input. -/
def spansTellWrong : ChangeSpec := { name := "spansTell", fn := fun _ => fun
  | [d] => { results := [.lit (.bool false)], args := [d] }
  | _ => none }
def SpansTellWrongFalsely : Prop := spansTellRow.holds Tryz.pinned (OpenSpec.ofChange spansTellWrong)

/-- 'gridironlaw24.SpansBound': WHATEVER THE INPUT: true; the input reads as it did. -/
def spansBoundSpec : ChangeSpec := { name := "spansBound", fn := fun _ => fun
  | [d] => { results := [.lit (.bool true)], args := [d] }
  | _ => none }
def spansBoundRow : OpenClaim := { program := "ytkbaaonchdeneaagreat", sum := "7cd2f6e1a3669ec5ea2e370e6d64708421e890b374a9fde36b74612af9a46094", func := "gridiron/gridironlaw24.SpansBound", spec := "spansBound", inPlace := ["sync/atomic.LoadUint32", "(*internal/sync.Mutex).Lock", "internal/race.Disable", "sync/atomic.CompareAndSwapInt32", "internal/race.Enable", "internal/race.Acquire", "(*internal/sync.Mutex).lockSlow", "internal/sync.runtime_canSpin", "internal/sync.runtime_doSpin", "internal/sync.throw", "internal/sync.runtime_nanotime", "internal/sync.runtime_SemacquireMutex", "sync/atomic.AddInt32", "(*internal/sync.Mutex).Unlock", "internal/race.ReleaseMerge", "(*internal/sync.Mutex).unlockSlow", "internal/sync.fatal", "internal/sync.runtime_Semrelease", "sync/atomic.StoreUint32"], unfollowed := true, recurses := true, plainKeys := false, apart := false }
def SpansBoundSaid : Prop := spansBoundRow.holds Tryz.pinned (OpenSpec.ofChange spansBoundSpec)

/-- ITS FALSE NEIGHBOUR: 'it returns false'. Refute it at one input. -/
def spansBoundWrong : ChangeSpec := { name := "spansBound", fn := fun _ => fun
  | [d] => { results := [.lit (.bool false)], args := [d] }
  | _ => none }
def SpansBoundWrongFalsely : Prop := spansBoundRow.holds Tryz.pinned (OpenSpec.ofChange spansBoundWrong)

/-- 'gridironlaw24.SpansNone': WHATEVER THE INPUT: true; the input reads as it did. -/
def spansNoneSpec : ChangeSpec := { name := "spansNone", fn := fun _ => fun
  | [d1, d2] => { results := [.lit (.bool true)], args := [d1, d2] }
  | _ => none }
def spansNoneRow : OpenClaim := { program := "ytkbaaonchdeneaagreat", sum := "7cd2f6e1a3669ec5ea2e370e6d64708421e890b374a9fde36b74612af9a46094", func := "gridiron/gridironlaw24.SpansNone", spec := "spansNone", inPlace := ["sync/atomic.LoadUint32", "(*internal/sync.Mutex).Lock", "internal/race.Disable", "sync/atomic.CompareAndSwapInt32", "internal/race.Enable", "internal/race.Acquire", "(*internal/sync.Mutex).lockSlow", "internal/sync.runtime_canSpin", "internal/sync.runtime_doSpin", "internal/sync.throw", "internal/sync.runtime_nanotime", "internal/sync.runtime_SemacquireMutex", "sync/atomic.AddInt32", "(*internal/sync.Mutex).Unlock", "internal/race.ReleaseMerge", "(*internal/sync.Mutex).unlockSlow", "internal/sync.fatal", "internal/sync.runtime_Semrelease", "sync/atomic.StoreUint32"], unfollowed := true, recurses := true, plainKeys := false, apart := false }
def SpansNoneSaid : Prop := spansNoneRow.holds Tryz.pinned (OpenSpec.ofChange spansNoneSpec)

/-- ITS FALSE NEIGHBOUR: 'it returns false'. Refute it at one input. -/
def spansNoneWrong : ChangeSpec := { name := "spansNone", fn := fun _ => fun
  | [d1, d2] => { results := [.lit (.bool false)], args := [d1, d2] }
  | _ => none }
def SpansNoneWrongFalsely : Prop := spansNoneRow.holds Tryz.pinned (OpenSpec.ofChange spansNoneWrong)

/-- 'gridironlaw25.BoxesCover': WHATEVER THE INPUT: true; the input reads as it did. -/
def boxesCoverSpec : ChangeSpec := { name := "boxesCover", fn := fun _ => fun
  | [d1, d2, d3] => { results := [.lit (.bool true)], args := [d1, d2, d3] }
  | _ => none }
def boxesCoverRow : OpenClaim := { program := "ytkbaaonchdeneaagreat", sum := "7cd2f6e1a3669ec5ea2e370e6d64708421e890b374a9fde36b74612af9a46094", func := "gridiron/gridironlaw25.BoxesCover", spec := "boxesCover", inPlace := ["sync/atomic.LoadUint32", "(*internal/sync.Mutex).Lock", "internal/race.Disable", "sync/atomic.CompareAndSwapInt32", "internal/race.Enable", "internal/race.Acquire", "(*internal/sync.Mutex).lockSlow", "internal/sync.runtime_canSpin", "internal/sync.runtime_doSpin", "internal/sync.throw", "internal/sync.runtime_nanotime", "internal/sync.runtime_SemacquireMutex", "sync/atomic.AddInt32", "(*internal/sync.Mutex).Unlock", "internal/race.ReleaseMerge", "(*internal/sync.Mutex).unlockSlow", "internal/sync.fatal", "internal/sync.runtime_Semrelease", "sync/atomic.StoreUint32", "math/bits.Add64"], unfollowed := true, recurses := true, plainKeys := false, apart := false }
def BoxesCoverSaid : Prop := boxesCoverRow.holds Tryz.pinned (OpenSpec.ofChange boxesCoverSpec)

/-- ITS FALSE NEIGHBOUR: 'it returns false'. Refute it at one input. -/
def boxesCoverWrong : ChangeSpec := { name := "boxesCover", fn := fun _ => fun
  | [d1, d2, d3] => { results := [.lit (.bool false)], args := [d1, d2, d3] }
  | _ => none }
def BoxesCoverWrongFalsely : Prop := boxesCoverRow.holds Tryz.pinned (OpenSpec.ofChange boxesCoverWrong)

/-- 'gridironlaw25.BoxesTell': WHATEVER THE INPUT: true; the input reads as it did. -/
def boxesTellSpec : ChangeSpec := { name := "boxesTell", fn := fun _ => fun
  | [d] => { results := [.lit (.bool true)], args := [d] }
  | _ => none }
def boxesTellRow : OpenClaim := { program := "ytkbaaonchdeneaagreat", sum := "7cd2f6e1a3669ec5ea2e370e6d64708421e890b374a9fde36b74612af9a46094", func := "gridiron/gridironlaw25.BoxesTell", spec := "boxesTell", inPlace := ["sync/atomic.LoadUint32", "(*internal/sync.Mutex).Lock", "internal/race.Disable", "sync/atomic.CompareAndSwapInt32", "internal/race.Enable", "internal/race.Acquire", "(*internal/sync.Mutex).lockSlow", "internal/sync.runtime_canSpin", "internal/sync.runtime_doSpin", "internal/sync.throw", "internal/sync.runtime_nanotime", "internal/sync.runtime_SemacquireMutex", "sync/atomic.AddInt32", "(*internal/sync.Mutex).Unlock", "internal/race.ReleaseMerge", "(*internal/sync.Mutex).unlockSlow", "internal/sync.fatal", "internal/sync.runtime_Semrelease", "sync/atomic.StoreUint32", "math/bits.Add64"], unfollowed := true, recurses := true, plainKeys := false, apart := false }
def BoxesTellSaid : Prop := boxesTellRow.holds Tryz.pinned (OpenSpec.ofChange boxesTellSpec)

/-- ITS FALSE NEIGHBOUR: 'it returns false'. Refute it at one input. -/
def boxesTellWrong : ChangeSpec := { name := "boxesTell", fn := fun _ => fun
  | [d] => { results := [.lit (.bool false)], args := [d] }
  | _ => none }
def BoxesTellWrongFalsely : Prop := boxesTellRow.holds Tryz.pinned (OpenSpec.ofChange boxesTellWrong)

/-- 'gridironlaw25.BoxesList': WHATEVER THE INPUT: true; the input reads as it did. -/
def boxesListSpec : ChangeSpec := { name := "boxesList", fn := fun _ => fun
  | [d] => { results := [.lit (.bool true)], args := [d] }
  | _ => none }
def boxesListRow : OpenClaim := { program := "ytkbaaonchdeneaagreat", sum := "7cd2f6e1a3669ec5ea2e370e6d64708421e890b374a9fde36b74612af9a46094", func := "gridiron/gridironlaw25.BoxesList", spec := "boxesList", inPlace := ["sync/atomic.LoadUint32", "(*internal/sync.Mutex).Lock", "internal/race.Disable", "sync/atomic.CompareAndSwapInt32", "internal/race.Enable", "internal/race.Acquire", "(*internal/sync.Mutex).lockSlow", "internal/sync.runtime_canSpin", "internal/sync.runtime_doSpin", "internal/sync.throw", "internal/sync.runtime_nanotime", "internal/sync.runtime_SemacquireMutex", "sync/atomic.AddInt32", "(*internal/sync.Mutex).Unlock", "internal/race.ReleaseMerge", "(*internal/sync.Mutex).unlockSlow", "internal/sync.fatal", "internal/sync.runtime_Semrelease", "sync/atomic.StoreUint32", "math/bits.Add64"], unfollowed := true, recurses := true, plainKeys := false, apart := false }
def BoxesListSaid : Prop := boxesListRow.holds Tryz.pinned (OpenSpec.ofChange boxesListSpec)

/-- ITS FALSE NEIGHBOUR: 'it returns false'. Refute it at one input. -/
def boxesListWrong : ChangeSpec := { name := "boxesList", fn := fun _ => fun
  | [d] => { results := [.lit (.bool false)], args := [d] }
  | _ => none }
def BoxesListWrongFalsely : Prop := boxesListRow.holds Tryz.pinned (OpenSpec.ofChange boxesListWrong)

/- THE SECOND FORM. 'bulk': how many values and letters a reading holds, each counted each time it is reached (what is shared counts as often as it is met; a slice's spare places count too). A statement '..UptoSaid' is the law's where the arguments, and the package variables that the reading takes, are together of bulk at most 1048576: NARROWER than '..Said'. Prove '..Said' where nothing that the law and all that it calls make is longer than what came in: it says more and counts as full. Else prove '..UptoSaid'. A law counts once. -/
mutual
def uptoBulk {H : Type} : DataW H → Nat
  | .lit (.string bytes) => bytes.length + 1
  | .lit _ => 1
  | .nil => 1
  | .ptr d => uptoBulk d + 1
  | .slice elems spare => uptoBulkAll elems + uptoBulkAll spare + 1
  | .agg parts => uptoBulkAll parts + 1
  | .iface _ d => uptoBulk d + 1
  | .map entries => uptoBulkEntries entries + 1
  | .held _ => 1
def uptoBulkAll {H : Type} : List (DataW H) → Nat
  | [] => 0
  | d :: r => uptoBulk d + uptoBulkAll r
def uptoBulkEntries {H : Type} : List (Lit × DataW H) → Nat
  | [] => 0
  | x :: r => uptoBulkEntry x + uptoBulkEntries r
def uptoBulkEntry {H : Type} : Lit × DataW H → Nat
  | (.string bytes, d) => bytes.length + uptoBulk d + 1
  | (_, d) => uptoBulk d + 1
 end
def uptoSmall : (H : Type) → List (DataW H) → Bool := fun _ ds => decide (uptoBulkAll ds ≤ 1048576)
def OpenSpec.upto (s : _root_.Go.ChangeSpec) : _root_.Go.OpenSpec := { _root_.Go.OpenSpec.ofChange s with cond := some uptoSmall }

/-- 'gridironlaw25.BoxesBound', WHERE WHAT IT READS IS OF BULK AT MOST 1048576: true; the input reads as it did. -/
def boxesBoundUptoRow : OpenClaim := { program := "ytkbaaonchdeneaagreat", sum := "7cd2f6e1a3669ec5ea2e370e6d64708421e890b374a9fde36b74612af9a46094", func := "gridiron/gridironlaw25.BoxesBound", spec := "boxesBound", inPlace := ["sync/atomic.LoadUint32", "(*internal/sync.Mutex).Lock", "internal/race.Disable", "sync/atomic.CompareAndSwapInt32", "internal/race.Enable", "internal/race.Acquire", "(*internal/sync.Mutex).lockSlow", "internal/sync.runtime_canSpin", "internal/sync.runtime_doSpin", "internal/sync.throw", "internal/sync.runtime_nanotime", "internal/sync.runtime_SemacquireMutex", "sync/atomic.AddInt32", "(*internal/sync.Mutex).Unlock", "internal/race.ReleaseMerge", "(*internal/sync.Mutex).unlockSlow", "internal/sync.fatal", "internal/sync.runtime_Semrelease", "sync/atomic.StoreUint32", "math/bits.Add64"], unfollowed := true, recurses := true, plainKeys := false, apart := false, narrowed := true }
def BoxesBoundUptoSaid : Prop := boxesBoundUptoRow.holds Tryz.pinned (OpenSpec.upto boxesBoundSpec)

/-- 'gridironlaw25.BoxesNone', WHERE WHAT IT READS IS OF BULK AT MOST 1048576: true; the input reads as it did. -/
def boxesNoneUptoRow : OpenClaim := { program := "ytkbaaonchdeneaagreat", sum := "7cd2f6e1a3669ec5ea2e370e6d64708421e890b374a9fde36b74612af9a46094", func := "gridiron/gridironlaw25.BoxesNone", spec := "boxesNone", inPlace := ["sync/atomic.LoadUint32", "(*internal/sync.Mutex).Lock", "internal/race.Disable", "sync/atomic.CompareAndSwapInt32", "internal/race.Enable", "internal/race.Acquire", "(*internal/sync.Mutex).lockSlow", "internal/sync.runtime_canSpin", "internal/sync.runtime_doSpin", "internal/sync.throw", "internal/sync.runtime_nanotime", "internal/sync.runtime_SemacquireMutex", "sync/atomic.AddInt32", "(*internal/sync.Mutex).Unlock", "internal/race.ReleaseMerge", "(*internal/sync.Mutex).unlockSlow", "internal/sync.fatal", "internal/sync.runtime_Semrelease", "sync/atomic.StoreUint32", "math/bits.Add64"], unfollowed := true, recurses := true, plainKeys := false, apart := false, narrowed := true }
def BoxesNoneUptoSaid : Prop := boxesNoneUptoRow.holds Tryz.pinned (OpenSpec.upto boxesNoneSpec)

/-- 'gridironlaw24.SpansOrder', WHERE WHAT IT READS IS OF BULK AT MOST 1048576: true; the input reads as it did. -/
def spansOrderUptoRow : OpenClaim := { program := "ytkbaaonchdeneaagreat", sum := "7cd2f6e1a3669ec5ea2e370e6d64708421e890b374a9fde36b74612af9a46094", func := "gridiron/gridironlaw24.SpansOrder", spec := "spansOrder", inPlace := ["sync/atomic.LoadUint32", "(*internal/sync.Mutex).Lock", "internal/race.Disable", "sync/atomic.CompareAndSwapInt32", "internal/race.Enable", "internal/race.Acquire", "(*internal/sync.Mutex).lockSlow", "internal/sync.runtime_canSpin", "internal/sync.runtime_doSpin", "internal/sync.throw", "internal/sync.runtime_nanotime", "internal/sync.runtime_SemacquireMutex", "sync/atomic.AddInt32", "(*internal/sync.Mutex).Unlock", "internal/race.ReleaseMerge", "(*internal/sync.Mutex).unlockSlow", "internal/sync.fatal", "internal/sync.runtime_Semrelease", "sync/atomic.StoreUint32"], unfollowed := true, recurses := true, plainKeys := false, apart := false, narrowed := true }
def SpansOrderUptoSaid : Prop := spansOrderUptoRow.holds Tryz.pinned (OpenSpec.upto spansOrderSpec)

/-- 'gridironlaw24.SpansSteps', WHERE WHAT IT READS IS OF BULK AT MOST 1048576: true; the input reads as it did. -/
def spansStepsUptoRow : OpenClaim := { program := "ytkbaaonchdeneaagreat", sum := "7cd2f6e1a3669ec5ea2e370e6d64708421e890b374a9fde36b74612af9a46094", func := "gridiron/gridironlaw24.SpansSteps", spec := "spansSteps", inPlace := ["sync/atomic.LoadUint32", "(*internal/sync.Mutex).Lock", "internal/race.Disable", "sync/atomic.CompareAndSwapInt32", "internal/race.Enable", "internal/race.Acquire", "(*internal/sync.Mutex).lockSlow", "internal/sync.runtime_canSpin", "internal/sync.runtime_doSpin", "internal/sync.throw", "internal/sync.runtime_nanotime", "internal/sync.runtime_SemacquireMutex", "sync/atomic.AddInt32", "(*internal/sync.Mutex).Unlock", "internal/race.ReleaseMerge", "(*internal/sync.Mutex).unlockSlow", "internal/sync.fatal", "internal/sync.runtime_Semrelease", "sync/atomic.StoreUint32"], unfollowed := true, recurses := true, plainKeys := false, apart := false, narrowed := true }
def SpansStepsUptoSaid : Prop := spansStepsUptoRow.holds Tryz.pinned (OpenSpec.upto spansStepsSpec)

/-- 'gridironlaw24.SpansTell', WHERE WHAT IT READS IS OF BULK AT MOST 1048576: true; the input reads as it did. -/
def spansTellUptoRow : OpenClaim := { program := "ytkbaaonchdeneaagreat", sum := "7cd2f6e1a3669ec5ea2e370e6d64708421e890b374a9fde36b74612af9a46094", func := "gridiron/gridironlaw24.SpansTell", spec := "spansTell", inPlace := ["sync/atomic.LoadUint32", "(*internal/sync.Mutex).Lock", "internal/race.Disable", "sync/atomic.CompareAndSwapInt32", "internal/race.Enable", "internal/race.Acquire", "(*internal/sync.Mutex).lockSlow", "internal/sync.runtime_canSpin", "internal/sync.runtime_doSpin", "internal/sync.throw", "internal/sync.runtime_nanotime", "internal/sync.runtime_SemacquireMutex", "sync/atomic.AddInt32", "(*internal/sync.Mutex).Unlock", "internal/race.ReleaseMerge", "(*internal/sync.Mutex).unlockSlow", "internal/sync.fatal", "internal/sync.runtime_Semrelease", "sync/atomic.StoreUint32"], unfollowed := true, recurses := true, plainKeys := false, apart := false, narrowed := true }
def SpansTellUptoSaid : Prop := spansTellUptoRow.holds Tryz.pinned (OpenSpec.upto spansTellSpec)

/-- 'gridironlaw24.SpansBound', WHERE WHAT IT READS IS OF BULK AT MOST 1048576: true; the input reads as it did. -/
def spansBoundUptoRow : OpenClaim := { program := "ytkbaaonchdeneaagreat", sum := "7cd2f6e1a3669ec5ea2e370e6d64708421e890b374a9fde36b74612af9a46094", func := "gridiron/gridironlaw24.SpansBound", spec := "spansBound", inPlace := ["sync/atomic.LoadUint32", "(*internal/sync.Mutex).Lock", "internal/race.Disable", "sync/atomic.CompareAndSwapInt32", "internal/race.Enable", "internal/race.Acquire", "(*internal/sync.Mutex).lockSlow", "internal/sync.runtime_canSpin", "internal/sync.runtime_doSpin", "internal/sync.throw", "internal/sync.runtime_nanotime", "internal/sync.runtime_SemacquireMutex", "sync/atomic.AddInt32", "(*internal/sync.Mutex).Unlock", "internal/race.ReleaseMerge", "(*internal/sync.Mutex).unlockSlow", "internal/sync.fatal", "internal/sync.runtime_Semrelease", "sync/atomic.StoreUint32"], unfollowed := true, recurses := true, plainKeys := false, apart := false, narrowed := true }
def SpansBoundUptoSaid : Prop := spansBoundUptoRow.holds Tryz.pinned (OpenSpec.upto spansBoundSpec)

/-- 'gridironlaw24.SpansNone', WHERE WHAT IT READS IS OF BULK AT MOST 1048576: true; the input reads as it did. -/
def spansNoneUptoRow : OpenClaim := { program := "ytkbaaonchdeneaagreat", sum := "7cd2f6e1a3669ec5ea2e370e6d64708421e890b374a9fde36b74612af9a46094", func := "gridiron/gridironlaw24.SpansNone", spec := "spansNone", inPlace := ["sync/atomic.LoadUint32", "(*internal/sync.Mutex).Lock", "internal/race.Disable", "sync/atomic.CompareAndSwapInt32", "internal/race.Enable", "internal/race.Acquire", "(*internal/sync.Mutex).lockSlow", "internal/sync.runtime_canSpin", "internal/sync.runtime_doSpin", "internal/sync.throw", "internal/sync.runtime_nanotime", "internal/sync.runtime_SemacquireMutex", "sync/atomic.AddInt32", "(*internal/sync.Mutex).Unlock", "internal/race.ReleaseMerge", "(*internal/sync.Mutex).unlockSlow", "internal/sync.fatal", "internal/sync.runtime_Semrelease", "sync/atomic.StoreUint32"], unfollowed := true, recurses := true, plainKeys := false, apart := false, narrowed := true }
def SpansNoneUptoSaid : Prop := spansNoneUptoRow.holds Tryz.pinned (OpenSpec.upto spansNoneSpec)

/-- 'gridironlaw25.BoxesCover', WHERE WHAT IT READS IS OF BULK AT MOST 1048576: true; the input reads as it did. -/
def boxesCoverUptoRow : OpenClaim := { program := "ytkbaaonchdeneaagreat", sum := "7cd2f6e1a3669ec5ea2e370e6d64708421e890b374a9fde36b74612af9a46094", func := "gridiron/gridironlaw25.BoxesCover", spec := "boxesCover", inPlace := ["sync/atomic.LoadUint32", "(*internal/sync.Mutex).Lock", "internal/race.Disable", "sync/atomic.CompareAndSwapInt32", "internal/race.Enable", "internal/race.Acquire", "(*internal/sync.Mutex).lockSlow", "internal/sync.runtime_canSpin", "internal/sync.runtime_doSpin", "internal/sync.throw", "internal/sync.runtime_nanotime", "internal/sync.runtime_SemacquireMutex", "sync/atomic.AddInt32", "(*internal/sync.Mutex).Unlock", "internal/race.ReleaseMerge", "(*internal/sync.Mutex).unlockSlow", "internal/sync.fatal", "internal/sync.runtime_Semrelease", "sync/atomic.StoreUint32", "math/bits.Add64"], unfollowed := true, recurses := true, plainKeys := false, apart := false, narrowed := true }
def BoxesCoverUptoSaid : Prop := boxesCoverUptoRow.holds Tryz.pinned (OpenSpec.upto boxesCoverSpec)

/-- 'gridironlaw25.BoxesTell', WHERE WHAT IT READS IS OF BULK AT MOST 1048576: true; the input reads as it did. -/
def boxesTellUptoRow : OpenClaim := { program := "ytkbaaonchdeneaagreat", sum := "7cd2f6e1a3669ec5ea2e370e6d64708421e890b374a9fde36b74612af9a46094", func := "gridiron/gridironlaw25.BoxesTell", spec := "boxesTell", inPlace := ["sync/atomic.LoadUint32", "(*internal/sync.Mutex).Lock", "internal/race.Disable", "sync/atomic.CompareAndSwapInt32", "internal/race.Enable", "internal/race.Acquire", "(*internal/sync.Mutex).lockSlow", "internal/sync.runtime_canSpin", "internal/sync.runtime_doSpin", "internal/sync.throw", "internal/sync.runtime_nanotime", "internal/sync.runtime_SemacquireMutex", "sync/atomic.AddInt32", "(*internal/sync.Mutex).Unlock", "internal/race.ReleaseMerge", "(*internal/sync.Mutex).unlockSlow", "internal/sync.fatal", "internal/sync.runtime_Semrelease", "sync/atomic.StoreUint32", "math/bits.Add64"], unfollowed := true, recurses := true, plainKeys := false, apart := false, narrowed := true }
def BoxesTellUptoSaid : Prop := boxesTellUptoRow.holds Tryz.pinned (OpenSpec.upto boxesTellSpec)

/-- 'gridironlaw25.BoxesList', WHERE WHAT IT READS IS OF BULK AT MOST 1048576: true; the input reads as it did. -/
def boxesListUptoRow : OpenClaim := { program := "ytkbaaonchdeneaagreat", sum := "7cd2f6e1a3669ec5ea2e370e6d64708421e890b374a9fde36b74612af9a46094", func := "gridiron/gridironlaw25.BoxesList", spec := "boxesList", inPlace := ["sync/atomic.LoadUint32", "(*internal/sync.Mutex).Lock", "internal/race.Disable", "sync/atomic.CompareAndSwapInt32", "internal/race.Enable", "internal/race.Acquire", "(*internal/sync.Mutex).lockSlow", "internal/sync.runtime_canSpin", "internal/sync.runtime_doSpin", "internal/sync.throw", "internal/sync.runtime_nanotime", "internal/sync.runtime_SemacquireMutex", "sync/atomic.AddInt32", "(*internal/sync.Mutex).Unlock", "internal/race.ReleaseMerge", "(*internal/sync.Mutex).unlockSlow", "internal/sync.fatal", "internal/sync.runtime_Semrelease", "sync/atomic.StoreUint32", "math/bits.Add64"], unfollowed := true, recurses := true, plainKeys := false, apart := false, narrowed := true }
def BoxesListUptoSaid : Prop := boxesListUptoRow.holds Tryz.pinned (OpenSpec.upto boxesListSpec)

end Rows
end Go.Proofs.YtkbaaonchdeneaaGreat
