/-
  No cell of these rows narrows 'for every input' (looked for: loops, veiled, ifaces, maps, wideKeys, modest, calm, conditions, laid).
  DERIVED. THE GIVEN ROWS OF THIS SEAT. 12 by the template 'for every input the law returns true; each argument reads behind the call as it read before'; 0 by the template 'total and deterministic' (their statements: YtokpdocabmaagaaGreatTotals.lean).
  GIVEN WITH THE SEED: the statements are not yours to turn. If you find one false, say at which input.
  Laid BY PROGRAM, IN A SANDBOX (cutbox-rows.mjs): the forced cells as the released guide's own fill.sh prints them over the translation 0a7487c3e1d39684… (all of the seat's roots in one cut). By AI agents, Wed Nov 11 2026. No macro, syntax, notation, axiom, sorry.
-/
import Derived.Test.YtokpdocabmaagaaGreatChecked
import GoSem.Claim
import GoSem.ClaimJoined
import GoSem.ClaimMapViews
import Derived.JoinedTies
import Derived.KernelRfl
namespace Go.Proofs.YtokpdocabmaagaaGreat
/- THE CELL 'sum', in the pinned program and in every row, IS THE sha256 OF THE DUMP (.gsa) THAT YtokpdocabmaagaaGreatProg.lean LOADS. Nothing in Lean hashes anything: it is a label: what it is worth is what the hold of that sum in a sandbox is worth. -/
noncomputable def Tryz.pinned : Pinned := { name := "ytokpdocabmaagaagreat", sum := "0a7487c3e1d396842cc83568203920b5d5f1a076b4db5f35e4054cbc10aa9a97", checked := Tryz.checked }
namespace Rows
def none {H : Type} : Left H := { results := [], args := [] }

/-- 'gridironlaw17.AreaTells': WHATEVER THE INPUT: true; the input reads as it did. -/
def areaTellsSpec : ChangeSpec := { name := "areaTells", fn := fun _ => fun
  | [d] => { results := [.lit (.bool true)], args := [d] }
  | _ => none }
def areaTellsRow : OpenClaim := { program := "ytokpdocabmaagaagreat", sum := "0a7487c3e1d396842cc83568203920b5d5f1a076b4db5f35e4054cbc10aa9a97", func := "gridiron/gridironlaw17.AreaTells", spec := "areaTells", inPlace := ["sync/atomic.LoadUint32", "(*internal/sync.Mutex).Lock", "internal/race.Disable", "sync/atomic.CompareAndSwapInt32", "internal/race.Enable", "internal/race.Acquire", "(*internal/sync.Mutex).lockSlow", "internal/sync.runtime_canSpin", "internal/sync.runtime_doSpin", "internal/sync.throw", "internal/sync.runtime_nanotime", "internal/sync.runtime_SemacquireMutex", "sync/atomic.AddInt32", "(*internal/sync.Mutex).Unlock", "internal/race.ReleaseMerge", "(*internal/sync.Mutex).unlockSlow", "internal/sync.fatal", "internal/sync.runtime_Semrelease", "sync/atomic.StoreUint32", "math/bits.Add64"], unfollowed := true, recurses := true, plainKeys := false, apart := false }
def AreaTellsSaid : Prop := areaTellsRow.holds Tryz.pinned (OpenSpec.ofChange areaTellsSpec)

/-- ITS FALSE NEIGHBOUR: 'it returns false'. Refute it at one input. -/
def areaTellsWrong : ChangeSpec := { name := "areaTells", fn := fun _ => fun
  | [d] => { results := [.lit (.bool false)], args := [d] }
  | _ => none }
def AreaTellsWrongFalsely : Prop := areaTellsRow.holds Tryz.pinned (OpenSpec.ofChange areaTellsWrong)

/-- 'gridironlaw17.AreaMoved': WHATEVER THE INPUT: true; the input reads as it did. -/
def areaMovedSpec : ChangeSpec := { name := "areaMoved", fn := fun _ => fun
  | [d1, d2] => { results := [.lit (.bool true)], args := [d1, d2] }
  | _ => none }
def areaMovedRow : OpenClaim := { program := "ytokpdocabmaagaagreat", sum := "0a7487c3e1d396842cc83568203920b5d5f1a076b4db5f35e4054cbc10aa9a97", func := "gridiron/gridironlaw17.AreaMoved", spec := "areaMoved", inPlace := ["sync/atomic.LoadUint32", "(*internal/sync.Mutex).Lock", "internal/race.Disable", "sync/atomic.CompareAndSwapInt32", "internal/race.Enable", "internal/race.Acquire", "(*internal/sync.Mutex).lockSlow", "internal/sync.runtime_canSpin", "internal/sync.runtime_doSpin", "internal/sync.throw", "internal/sync.runtime_nanotime", "internal/sync.runtime_SemacquireMutex", "sync/atomic.AddInt32", "(*internal/sync.Mutex).Unlock", "internal/race.ReleaseMerge", "(*internal/sync.Mutex).unlockSlow", "internal/sync.fatal", "internal/sync.runtime_Semrelease", "sync/atomic.StoreUint32", "math/bits.Add64"], unfollowed := true, recurses := true, plainKeys := false, apart := false }
def AreaMovedSaid : Prop := areaMovedRow.holds Tryz.pinned (OpenSpec.ofChange areaMovedSpec)

/-- ITS FALSE NEIGHBOUR: 'it returns false'. Refute it at one input. -/
def areaMovedWrong : ChangeSpec := { name := "areaMoved", fn := fun _ => fun
  | [d1, d2] => { results := [.lit (.bool false)], args := [d1, d2] }
  | _ => none }
def AreaMovedWrongFalsely : Prop := areaMovedRow.holds Tryz.pinned (OpenSpec.ofChange areaMovedWrong)

/-- 'gridironlaw17.AreaParts': WHATEVER THE INPUT: true; the input reads as it did. -/
def areaPartsSpec : ChangeSpec := { name := "areaParts", fn := fun _ => fun
  | [d1, d2, d3] => { results := [.lit (.bool true)], args := [d1, d2, d3] }
  | _ => none }
def areaPartsRow : OpenClaim := { program := "ytokpdocabmaagaagreat", sum := "0a7487c3e1d396842cc83568203920b5d5f1a076b4db5f35e4054cbc10aa9a97", func := "gridiron/gridironlaw17.AreaParts", spec := "areaParts", inPlace := ["sync/atomic.LoadUint32", "(*internal/sync.Mutex).Lock", "internal/race.Disable", "sync/atomic.CompareAndSwapInt32", "internal/race.Enable", "internal/race.Acquire", "(*internal/sync.Mutex).lockSlow", "internal/sync.runtime_canSpin", "internal/sync.runtime_doSpin", "internal/sync.throw", "internal/sync.runtime_nanotime", "internal/sync.runtime_SemacquireMutex", "sync/atomic.AddInt32", "(*internal/sync.Mutex).Unlock", "internal/race.ReleaseMerge", "(*internal/sync.Mutex).unlockSlow", "internal/sync.fatal", "internal/sync.runtime_Semrelease", "sync/atomic.StoreUint32", "math/bits.Add64"], unfollowed := true, recurses := true, plainKeys := false, apart := false }
def AreaPartsSaid : Prop := areaPartsRow.holds Tryz.pinned (OpenSpec.ofChange areaPartsSpec)

/-- ITS FALSE NEIGHBOUR: 'it returns false'. Refute it at one input. -/
def areaPartsWrong : ChangeSpec := { name := "areaParts", fn := fun _ => fun
  | [d1, d2, d3] => { results := [.lit (.bool false)], args := [d1, d2, d3] }
  | _ => none }
def AreaPartsWrongFalsely : Prop := areaPartsRow.holds Tryz.pinned (OpenSpec.ofChange areaPartsWrong)

/-- 'gridironlaw17.AreaOne': WHATEVER THE INPUT: true; the input reads as it did. -/
def areaOneSpec : ChangeSpec := { name := "areaOne", fn := fun _ => fun
  | [d] => { results := [.lit (.bool true)], args := [d] }
  | _ => none }
def areaOneRow : OpenClaim := { program := "ytokpdocabmaagaagreat", sum := "0a7487c3e1d396842cc83568203920b5d5f1a076b4db5f35e4054cbc10aa9a97", func := "gridiron/gridironlaw17.AreaOne", spec := "areaOne", inPlace := ["sync/atomic.LoadUint32", "(*internal/sync.Mutex).Lock", "internal/race.Disable", "sync/atomic.CompareAndSwapInt32", "internal/race.Enable", "internal/race.Acquire", "(*internal/sync.Mutex).lockSlow", "internal/sync.runtime_canSpin", "internal/sync.runtime_doSpin", "internal/sync.throw", "internal/sync.runtime_nanotime", "internal/sync.runtime_SemacquireMutex", "sync/atomic.AddInt32", "(*internal/sync.Mutex).Unlock", "internal/race.ReleaseMerge", "(*internal/sync.Mutex).unlockSlow", "internal/sync.fatal", "internal/sync.runtime_Semrelease", "sync/atomic.StoreUint32", "math/bits.Add64"], unfollowed := true, recurses := true, plainKeys := false, apart := false }
def AreaOneSaid : Prop := areaOneRow.holds Tryz.pinned (OpenSpec.ofChange areaOneSpec)

/-- ITS FALSE NEIGHBOUR: 'it returns false'. Refute it at one input. -/
def areaOneWrong : ChangeSpec := { name := "areaOne", fn := fun _ => fun
  | [d] => { results := [.lit (.bool false)], args := [d] }
  | _ => none }
def AreaOneWrongFalsely : Prop := areaOneRow.holds Tryz.pinned (OpenSpec.ofChange areaOneWrong)

/-- 'gridironlaw17.AreaCells': WHATEVER THE INPUT: true; the input reads as it did. -/
def areaCellsSpec : ChangeSpec := { name := "areaCells", fn := fun _ => fun
  | [d] => { results := [.lit (.bool true)], args := [d] }
  | _ => none }
def areaCellsRow : OpenClaim := { program := "ytokpdocabmaagaagreat", sum := "0a7487c3e1d396842cc83568203920b5d5f1a076b4db5f35e4054cbc10aa9a97", func := "gridiron/gridironlaw17.AreaCells", spec := "areaCells", inPlace := ["sync/atomic.LoadUint32", "(*internal/sync.Mutex).Lock", "internal/race.Disable", "sync/atomic.CompareAndSwapInt32", "internal/race.Enable", "internal/race.Acquire", "(*internal/sync.Mutex).lockSlow", "internal/sync.runtime_canSpin", "internal/sync.runtime_doSpin", "internal/sync.throw", "internal/sync.runtime_nanotime", "internal/sync.runtime_SemacquireMutex", "sync/atomic.AddInt32", "(*internal/sync.Mutex).Unlock", "internal/race.ReleaseMerge", "(*internal/sync.Mutex).unlockSlow", "internal/sync.fatal", "internal/sync.runtime_Semrelease", "sync/atomic.StoreUint32", "math/bits.Add64"], unfollowed := true, recurses := true, plainKeys := false, apart := false }
def AreaCellsSaid : Prop := areaCellsRow.holds Tryz.pinned (OpenSpec.ofChange areaCellsSpec)

/-- ITS FALSE NEIGHBOUR: 'it returns false'. Refute it at one input. -/
def areaCellsWrong : ChangeSpec := { name := "areaCells", fn := fun _ => fun
  | [d] => { results := [.lit (.bool false)], args := [d] }
  | _ => none }
def AreaCellsWrongFalsely : Prop := areaCellsRow.holds Tryz.pinned (OpenSpec.ofChange areaCellsWrong)

/-- 'gridironlaw18.RimTells': WHATEVER THE INPUT: true; the input reads as it did. -/
def rimTellsSpec : ChangeSpec := { name := "rimTells", fn := fun _ => fun
  | [d] => { results := [.lit (.bool true)], args := [d] }
  | _ => none }
def rimTellsRow : OpenClaim := { program := "ytokpdocabmaagaagreat", sum := "0a7487c3e1d396842cc83568203920b5d5f1a076b4db5f35e4054cbc10aa9a97", func := "gridiron/gridironlaw18.RimTells", spec := "rimTells", inPlace := ["sync/atomic.LoadUint32", "(*internal/sync.Mutex).Lock", "internal/race.Disable", "sync/atomic.CompareAndSwapInt32", "internal/race.Enable", "internal/race.Acquire", "(*internal/sync.Mutex).lockSlow", "internal/sync.runtime_canSpin", "internal/sync.runtime_doSpin", "internal/sync.throw", "internal/sync.runtime_nanotime", "internal/sync.runtime_SemacquireMutex", "sync/atomic.AddInt32", "(*internal/sync.Mutex).Unlock", "internal/race.ReleaseMerge", "(*internal/sync.Mutex).unlockSlow", "internal/sync.fatal", "internal/sync.runtime_Semrelease", "sync/atomic.StoreUint32", "math/bits.Add64"], unfollowed := true, recurses := true, plainKeys := false, apart := false }
def RimTellsSaid : Prop := rimTellsRow.holds Tryz.pinned (OpenSpec.ofChange rimTellsSpec)

/-- ITS FALSE NEIGHBOUR: 'it returns false'. Refute it at one input. -/
def rimTellsWrong : ChangeSpec := { name := "rimTells", fn := fun _ => fun
  | [d] => { results := [.lit (.bool false)], args := [d] }
  | _ => none }
def RimTellsWrongFalsely : Prop := rimTellsRow.holds Tryz.pinned (OpenSpec.ofChange rimTellsWrong)

/-- 'gridironlaw18.RimMoved': WHATEVER THE INPUT: true; the input reads as it did. -/
def rimMovedSpec : ChangeSpec := { name := "rimMoved", fn := fun _ => fun
  | [d1, d2] => { results := [.lit (.bool true)], args := [d1, d2] }
  | _ => none }
def rimMovedRow : OpenClaim := { program := "ytokpdocabmaagaagreat", sum := "0a7487c3e1d396842cc83568203920b5d5f1a076b4db5f35e4054cbc10aa9a97", func := "gridiron/gridironlaw18.RimMoved", spec := "rimMoved", inPlace := ["sync/atomic.LoadUint32", "(*internal/sync.Mutex).Lock", "internal/race.Disable", "sync/atomic.CompareAndSwapInt32", "internal/race.Enable", "internal/race.Acquire", "(*internal/sync.Mutex).lockSlow", "internal/sync.runtime_canSpin", "internal/sync.runtime_doSpin", "internal/sync.throw", "internal/sync.runtime_nanotime", "internal/sync.runtime_SemacquireMutex", "sync/atomic.AddInt32", "(*internal/sync.Mutex).Unlock", "internal/race.ReleaseMerge", "(*internal/sync.Mutex).unlockSlow", "internal/sync.fatal", "internal/sync.runtime_Semrelease", "sync/atomic.StoreUint32", "math/bits.Add64"], unfollowed := true, recurses := true, plainKeys := false, apart := false }
def RimMovedSaid : Prop := rimMovedRow.holds Tryz.pinned (OpenSpec.ofChange rimMovedSpec)

/-- ITS FALSE NEIGHBOUR: 'it returns false'. Refute it at one input. -/
def rimMovedWrong : ChangeSpec := { name := "rimMoved", fn := fun _ => fun
  | [d1, d2] => { results := [.lit (.bool false)], args := [d1, d2] }
  | _ => none }
def RimMovedWrongFalsely : Prop := rimMovedRow.holds Tryz.pinned (OpenSpec.ofChange rimMovedWrong)

/-- 'gridironlaw18.RimApart': WHATEVER THE INPUT: true; the input reads as it did. -/
def rimApartSpec : ChangeSpec := { name := "rimApart", fn := fun _ => fun
  | [d1, d2, d3] => { results := [.lit (.bool true)], args := [d1, d2, d3] }
  | _ => none }
def rimApartRow : OpenClaim := { program := "ytokpdocabmaagaagreat", sum := "0a7487c3e1d396842cc83568203920b5d5f1a076b4db5f35e4054cbc10aa9a97", func := "gridiron/gridironlaw18.RimApart", spec := "rimApart", inPlace := ["sync/atomic.LoadUint32", "(*internal/sync.Mutex).Lock", "internal/race.Disable", "sync/atomic.CompareAndSwapInt32", "internal/race.Enable", "internal/race.Acquire", "(*internal/sync.Mutex).lockSlow", "internal/sync.runtime_canSpin", "internal/sync.runtime_doSpin", "internal/sync.throw", "internal/sync.runtime_nanotime", "internal/sync.runtime_SemacquireMutex", "sync/atomic.AddInt32", "(*internal/sync.Mutex).Unlock", "internal/race.ReleaseMerge", "(*internal/sync.Mutex).unlockSlow", "internal/sync.fatal", "internal/sync.runtime_Semrelease", "sync/atomic.StoreUint32", "math/bits.Add64"], unfollowed := true, recurses := true, plainKeys := false, apart := false }
def RimApartSaid : Prop := rimApartRow.holds Tryz.pinned (OpenSpec.ofChange rimApartSpec)

/-- ITS FALSE NEIGHBOUR: 'it returns false'. Refute it at one input. -/
def rimApartWrong : ChangeSpec := { name := "rimApart", fn := fun _ => fun
  | [d1, d2, d3] => { results := [.lit (.bool false)], args := [d1, d2, d3] }
  | _ => none }
def RimApartWrongFalsely : Prop := rimApartRow.holds Tryz.pinned (OpenSpec.ofChange rimApartWrong)

/-- 'gridironlaw17.AreaBoth': WHATEVER THE INPUT: true; the input reads as it did. -/
def areaBothSpec : ChangeSpec := { name := "areaBoth", fn := fun _ => fun
  | [d1, d2] => { results := [.lit (.bool true)], args := [d1, d2] }
  | _ => none }
def areaBothRow : OpenClaim := { program := "ytokpdocabmaagaagreat", sum := "0a7487c3e1d396842cc83568203920b5d5f1a076b4db5f35e4054cbc10aa9a97", func := "gridiron/gridironlaw17.AreaBoth", spec := "areaBoth", inPlace := ["sync/atomic.LoadUint32", "(*internal/sync.Mutex).Lock", "internal/race.Disable", "sync/atomic.CompareAndSwapInt32", "internal/race.Enable", "internal/race.Acquire", "(*internal/sync.Mutex).lockSlow", "internal/sync.runtime_canSpin", "internal/sync.runtime_doSpin", "internal/sync.throw", "internal/sync.runtime_nanotime", "internal/sync.runtime_SemacquireMutex", "sync/atomic.AddInt32", "(*internal/sync.Mutex).Unlock", "internal/race.ReleaseMerge", "(*internal/sync.Mutex).unlockSlow", "internal/sync.fatal", "internal/sync.runtime_Semrelease", "sync/atomic.StoreUint32", "math/bits.Add64", "math/bits.Sub64"], unfollowed := true, recurses := true, plainKeys := false, apart := false }
def AreaBothSaid : Prop := areaBothRow.holds Tryz.pinned (OpenSpec.ofChange areaBothSpec)

/-- ITS FALSE NEIGHBOUR: 'it returns false'. Refute it at one input. -/
def areaBothWrong : ChangeSpec := { name := "areaBoth", fn := fun _ => fun
  | [d1, d2] => { results := [.lit (.bool false)], args := [d1, d2] }
  | _ => none }
def AreaBothWrongFalsely : Prop := areaBothRow.holds Tryz.pinned (OpenSpec.ofChange areaBothWrong)

/-- 'gridironlaw18.RimParts': WHATEVER THE INPUT: true; the input reads as it did. -/
def rimPartsSpec : ChangeSpec := { name := "rimParts", fn := fun _ => fun
  | [d1, d2, d3] => { results := [.lit (.bool true)], args := [d1, d2, d3] }
  | _ => none }
def rimPartsRow : OpenClaim := { program := "ytokpdocabmaagaagreat", sum := "0a7487c3e1d396842cc83568203920b5d5f1a076b4db5f35e4054cbc10aa9a97", func := "gridiron/gridironlaw18.RimParts", spec := "rimParts", inPlace := ["sync/atomic.LoadUint32", "(*internal/sync.Mutex).Lock", "internal/race.Disable", "sync/atomic.CompareAndSwapInt32", "internal/race.Enable", "internal/race.Acquire", "(*internal/sync.Mutex).lockSlow", "internal/sync.runtime_canSpin", "internal/sync.runtime_doSpin", "internal/sync.throw", "internal/sync.runtime_nanotime", "internal/sync.runtime_SemacquireMutex", "sync/atomic.AddInt32", "(*internal/sync.Mutex).Unlock", "internal/race.ReleaseMerge", "(*internal/sync.Mutex).unlockSlow", "internal/sync.fatal", "internal/sync.runtime_Semrelease", "sync/atomic.StoreUint32", "math/bits.Add64"], unfollowed := true, recurses := true, plainKeys := false, apart := false }
def RimPartsSaid : Prop := rimPartsRow.holds Tryz.pinned (OpenSpec.ofChange rimPartsSpec)

/-- ITS FALSE NEIGHBOUR: 'it returns false'. Refute it at one input. -/
def rimPartsWrong : ChangeSpec := { name := "rimParts", fn := fun _ => fun
  | [d1, d2, d3] => { results := [.lit (.bool false)], args := [d1, d2, d3] }
  | _ => none }
def RimPartsWrongFalsely : Prop := rimPartsRow.holds Tryz.pinned (OpenSpec.ofChange rimPartsWrong)

/-- 'gridironlaw18.RimSides': WHATEVER THE INPUT: true; the input reads as it did. -/
def rimSidesSpec : ChangeSpec := { name := "rimSides", fn := fun _ => fun
  | [d] => { results := [.lit (.bool true)], args := [d] }
  | _ => none }
def rimSidesRow : OpenClaim := { program := "ytokpdocabmaagaagreat", sum := "0a7487c3e1d396842cc83568203920b5d5f1a076b4db5f35e4054cbc10aa9a97", func := "gridiron/gridironlaw18.RimSides", spec := "rimSides", inPlace := ["sync/atomic.LoadUint32", "(*internal/sync.Mutex).Lock", "internal/race.Disable", "sync/atomic.CompareAndSwapInt32", "internal/race.Enable", "internal/race.Acquire", "(*internal/sync.Mutex).lockSlow", "internal/sync.runtime_canSpin", "internal/sync.runtime_doSpin", "internal/sync.throw", "internal/sync.runtime_nanotime", "internal/sync.runtime_SemacquireMutex", "sync/atomic.AddInt32", "(*internal/sync.Mutex).Unlock", "internal/race.ReleaseMerge", "(*internal/sync.Mutex).unlockSlow", "internal/sync.fatal", "internal/sync.runtime_Semrelease", "sync/atomic.StoreUint32", "math/bits.Add64"], unfollowed := true, recurses := true, plainKeys := false, apart := false }
def RimSidesSaid : Prop := rimSidesRow.holds Tryz.pinned (OpenSpec.ofChange rimSidesSpec)

/-- ITS FALSE NEIGHBOUR: 'it returns false'. Refute it at one input. -/
def rimSidesWrong : ChangeSpec := { name := "rimSides", fn := fun _ => fun
  | [d] => { results := [.lit (.bool false)], args := [d] }
  | _ => none }
def RimSidesWrongFalsely : Prop := rimSidesRow.holds Tryz.pinned (OpenSpec.ofChange rimSidesWrong)

/-- 'gridironlaw19.CellsSame': WHATEVER THE INPUT: true; the input reads as it did. -/
def cellsSameSpec : ChangeSpec := { name := "cellsSame", fn := fun _ => fun
  | [d] => { results := [.lit (.bool true)], args := [d] }
  | _ => none }
def cellsSameRow : OpenClaim := { program := "ytokpdocabmaagaagreat", sum := "0a7487c3e1d396842cc83568203920b5d5f1a076b4db5f35e4054cbc10aa9a97", func := "gridiron/gridironlaw19.CellsSame", spec := "cellsSame", inPlace := ["math/bits.Add64", "sync/atomic.LoadUint32", "(*internal/sync.Mutex).Lock", "internal/race.Disable", "sync/atomic.CompareAndSwapInt32", "internal/race.Enable", "internal/race.Acquire", "(*internal/sync.Mutex).lockSlow", "internal/sync.runtime_canSpin", "internal/sync.runtime_doSpin", "internal/sync.throw", "internal/sync.runtime_nanotime", "internal/sync.runtime_SemacquireMutex", "sync/atomic.AddInt32", "(*internal/sync.Mutex).Unlock", "internal/race.ReleaseMerge", "(*internal/sync.Mutex).unlockSlow", "internal/sync.fatal", "internal/sync.runtime_Semrelease", "sync/atomic.StoreUint32"], unfollowed := true, recurses := true, plainKeys := false, apart := false }
def CellsSameSaid : Prop := cellsSameRow.holds Tryz.pinned (OpenSpec.ofChange cellsSameSpec)

/-- ITS FALSE NEIGHBOUR: 'it returns false'. Refute it at one input. -/
def cellsSameWrong : ChangeSpec := { name := "cellsSame", fn := fun _ => fun
  | [d] => { results := [.lit (.bool false)], args := [d] }
  | _ => none }
def CellsSameWrongFalsely : Prop := cellsSameRow.holds Tryz.pinned (OpenSpec.ofChange cellsSameWrong)

/- THE SECOND FORM. 'bulk': how many values and letters a reading holds, each counted each time it is reached (what is shared counts as often as it is met; a slice's spare places count too). A statement '..UptoSaid' is the law's where the arguments, and the package variables that the reading takes, are together of bulk at most 1048576: NARROWER than '..Said'. Prove '..Said' where nothing that the law and all that it calls make is longer than what came in: it says more and counts as full. Else prove '..UptoSaid'. A law counts once. -/
mutual
def uptoBulk {H : Type} : DataW H → Nat
  | .lit (.string bytes) => bytes.length + 1
  | .lit _ => 1
  | .nil => 1
  | .ptr d => uptoBulk d + 1
  | .slice elems spare => uptoBulkAll elems + uptoBulkAll spare + 1
  | .agg parts => uptoBulkAll parts + 1
  | .iface _ d => uptoBulk d + 1
  | .map entries => uptoBulkEntries entries + 1
  | .held _ => 1
def uptoBulkAll {H : Type} : List (DataW H) → Nat
  | [] => 0
  | d :: r => uptoBulk d + uptoBulkAll r
def uptoBulkEntries {H : Type} : List (Lit × DataW H) → Nat
  | [] => 0
  | x :: r => uptoBulkEntry x + uptoBulkEntries r
def uptoBulkEntry {H : Type} : Lit × DataW H → Nat
  | (.string bytes, d) => bytes.length + uptoBulk d + 1
  | (_, d) => uptoBulk d + 1
 end
def uptoSmall : (H : Type) → List (DataW H) → Bool := fun _ ds => decide (uptoBulkAll ds ≤ 1048576)
def OpenSpec.upto (s : _root_.Go.ChangeSpec) : _root_.Go.OpenSpec := { _root_.Go.OpenSpec.ofChange s with cond := some uptoSmall }

/-- 'gridironlaw17.AreaTells', WHERE WHAT IT READS IS OF BULK AT MOST 1048576: true; the input reads as it did. -/
def areaTellsUptoRow : OpenClaim := { program := "ytokpdocabmaagaagreat", sum := "0a7487c3e1d396842cc83568203920b5d5f1a076b4db5f35e4054cbc10aa9a97", func := "gridiron/gridironlaw17.AreaTells", spec := "areaTells", inPlace := ["sync/atomic.LoadUint32", "(*internal/sync.Mutex).Lock", "internal/race.Disable", "sync/atomic.CompareAndSwapInt32", "internal/race.Enable", "internal/race.Acquire", "(*internal/sync.Mutex).lockSlow", "internal/sync.runtime_canSpin", "internal/sync.runtime_doSpin", "internal/sync.throw", "internal/sync.runtime_nanotime", "internal/sync.runtime_SemacquireMutex", "sync/atomic.AddInt32", "(*internal/sync.Mutex).Unlock", "internal/race.ReleaseMerge", "(*internal/sync.Mutex).unlockSlow", "internal/sync.fatal", "internal/sync.runtime_Semrelease", "sync/atomic.StoreUint32", "math/bits.Add64"], unfollowed := true, recurses := true, plainKeys := false, apart := false, narrowed := true }
def AreaTellsUptoSaid : Prop := areaTellsUptoRow.holds Tryz.pinned (OpenSpec.upto areaTellsSpec)

/-- 'gridironlaw17.AreaMoved', WHERE WHAT IT READS IS OF BULK AT MOST 1048576: true; the input reads as it did. -/
def areaMovedUptoRow : OpenClaim := { program := "ytokpdocabmaagaagreat", sum := "0a7487c3e1d396842cc83568203920b5d5f1a076b4db5f35e4054cbc10aa9a97", func := "gridiron/gridironlaw17.AreaMoved", spec := "areaMoved", inPlace := ["sync/atomic.LoadUint32", "(*internal/sync.Mutex).Lock", "internal/race.Disable", "sync/atomic.CompareAndSwapInt32", "internal/race.Enable", "internal/race.Acquire", "(*internal/sync.Mutex).lockSlow", "internal/sync.runtime_canSpin", "internal/sync.runtime_doSpin", "internal/sync.throw", "internal/sync.runtime_nanotime", "internal/sync.runtime_SemacquireMutex", "sync/atomic.AddInt32", "(*internal/sync.Mutex).Unlock", "internal/race.ReleaseMerge", "(*internal/sync.Mutex).unlockSlow", "internal/sync.fatal", "internal/sync.runtime_Semrelease", "sync/atomic.StoreUint32", "math/bits.Add64"], unfollowed := true, recurses := true, plainKeys := false, apart := false, narrowed := true }
def AreaMovedUptoSaid : Prop := areaMovedUptoRow.holds Tryz.pinned (OpenSpec.upto areaMovedSpec)

/-- 'gridironlaw17.AreaParts', WHERE WHAT IT READS IS OF BULK AT MOST 1048576: true; the input reads as it did. -/
def areaPartsUptoRow : OpenClaim := { program := "ytokpdocabmaagaagreat", sum := "0a7487c3e1d396842cc83568203920b5d5f1a076b4db5f35e4054cbc10aa9a97", func := "gridiron/gridironlaw17.AreaParts", spec := "areaParts", inPlace := ["sync/atomic.LoadUint32", "(*internal/sync.Mutex).Lock", "internal/race.Disable", "sync/atomic.CompareAndSwapInt32", "internal/race.Enable", "internal/race.Acquire", "(*internal/sync.Mutex).lockSlow", "internal/sync.runtime_canSpin", "internal/sync.runtime_doSpin", "internal/sync.throw", "internal/sync.runtime_nanotime", "internal/sync.runtime_SemacquireMutex", "sync/atomic.AddInt32", "(*internal/sync.Mutex).Unlock", "internal/race.ReleaseMerge", "(*internal/sync.Mutex).unlockSlow", "internal/sync.fatal", "internal/sync.runtime_Semrelease", "sync/atomic.StoreUint32", "math/bits.Add64"], unfollowed := true, recurses := true, plainKeys := false, apart := false, narrowed := true }
def AreaPartsUptoSaid : Prop := areaPartsUptoRow.holds Tryz.pinned (OpenSpec.upto areaPartsSpec)

/-- 'gridironlaw17.AreaOne', WHERE WHAT IT READS IS OF BULK AT MOST 1048576: true; the input reads as it did. -/
def areaOneUptoRow : OpenClaim := { program := "ytokpdocabmaagaagreat", sum := "0a7487c3e1d396842cc83568203920b5d5f1a076b4db5f35e4054cbc10aa9a97", func := "gridiron/gridironlaw17.AreaOne", spec := "areaOne", inPlace := ["sync/atomic.LoadUint32", "(*internal/sync.Mutex).Lock", "internal/race.Disable", "sync/atomic.CompareAndSwapInt32", "internal/race.Enable", "internal/race.Acquire", "(*internal/sync.Mutex).lockSlow", "internal/sync.runtime_canSpin", "internal/sync.runtime_doSpin", "internal/sync.throw", "internal/sync.runtime_nanotime", "internal/sync.runtime_SemacquireMutex", "sync/atomic.AddInt32", "(*internal/sync.Mutex).Unlock", "internal/race.ReleaseMerge", "(*internal/sync.Mutex).unlockSlow", "internal/sync.fatal", "internal/sync.runtime_Semrelease", "sync/atomic.StoreUint32", "math/bits.Add64"], unfollowed := true, recurses := true, plainKeys := false, apart := false, narrowed := true }
def AreaOneUptoSaid : Prop := areaOneUptoRow.holds Tryz.pinned (OpenSpec.upto areaOneSpec)

/-- 'gridironlaw17.AreaCells', WHERE WHAT IT READS IS OF BULK AT MOST 1048576: true; the input reads as it did. -/
def areaCellsUptoRow : OpenClaim := { program := "ytokpdocabmaagaagreat", sum := "0a7487c3e1d396842cc83568203920b5d5f1a076b4db5f35e4054cbc10aa9a97", func := "gridiron/gridironlaw17.AreaCells", spec := "areaCells", inPlace := ["sync/atomic.LoadUint32", "(*internal/sync.Mutex).Lock", "internal/race.Disable", "sync/atomic.CompareAndSwapInt32", "internal/race.Enable", "internal/race.Acquire", "(*internal/sync.Mutex).lockSlow", "internal/sync.runtime_canSpin", "internal/sync.runtime_doSpin", "internal/sync.throw", "internal/sync.runtime_nanotime", "internal/sync.runtime_SemacquireMutex", "sync/atomic.AddInt32", "(*internal/sync.Mutex).Unlock", "internal/race.ReleaseMerge", "(*internal/sync.Mutex).unlockSlow", "internal/sync.fatal", "internal/sync.runtime_Semrelease", "sync/atomic.StoreUint32", "math/bits.Add64"], unfollowed := true, recurses := true, plainKeys := false, apart := false, narrowed := true }
def AreaCellsUptoSaid : Prop := areaCellsUptoRow.holds Tryz.pinned (OpenSpec.upto areaCellsSpec)

/-- 'gridironlaw18.RimTells', WHERE WHAT IT READS IS OF BULK AT MOST 1048576: true; the input reads as it did. -/
def rimTellsUptoRow : OpenClaim := { program := "ytokpdocabmaagaagreat", sum := "0a7487c3e1d396842cc83568203920b5d5f1a076b4db5f35e4054cbc10aa9a97", func := "gridiron/gridironlaw18.RimTells", spec := "rimTells", inPlace := ["sync/atomic.LoadUint32", "(*internal/sync.Mutex).Lock", "internal/race.Disable", "sync/atomic.CompareAndSwapInt32", "internal/race.Enable", "internal/race.Acquire", "(*internal/sync.Mutex).lockSlow", "internal/sync.runtime_canSpin", "internal/sync.runtime_doSpin", "internal/sync.throw", "internal/sync.runtime_nanotime", "internal/sync.runtime_SemacquireMutex", "sync/atomic.AddInt32", "(*internal/sync.Mutex).Unlock", "internal/race.ReleaseMerge", "(*internal/sync.Mutex).unlockSlow", "internal/sync.fatal", "internal/sync.runtime_Semrelease", "sync/atomic.StoreUint32", "math/bits.Add64"], unfollowed := true, recurses := true, plainKeys := false, apart := false, narrowed := true }
def RimTellsUptoSaid : Prop := rimTellsUptoRow.holds Tryz.pinned (OpenSpec.upto rimTellsSpec)

/-- 'gridironlaw18.RimMoved', WHERE WHAT IT READS IS OF BULK AT MOST 1048576: true; the input reads as it did. -/
def rimMovedUptoRow : OpenClaim := { program := "ytokpdocabmaagaagreat", sum := "0a7487c3e1d396842cc83568203920b5d5f1a076b4db5f35e4054cbc10aa9a97", func := "gridiron/gridironlaw18.RimMoved", spec := "rimMoved", inPlace := ["sync/atomic.LoadUint32", "(*internal/sync.Mutex).Lock", "internal/race.Disable", "sync/atomic.CompareAndSwapInt32", "internal/race.Enable", "internal/race.Acquire", "(*internal/sync.Mutex).lockSlow", "internal/sync.runtime_canSpin", "internal/sync.runtime_doSpin", "internal/sync.throw", "internal/sync.runtime_nanotime", "internal/sync.runtime_SemacquireMutex", "sync/atomic.AddInt32", "(*internal/sync.Mutex).Unlock", "internal/race.ReleaseMerge", "(*internal/sync.Mutex).unlockSlow", "internal/sync.fatal", "internal/sync.runtime_Semrelease", "sync/atomic.StoreUint32", "math/bits.Add64"], unfollowed := true, recurses := true, plainKeys := false, apart := false, narrowed := true }
def RimMovedUptoSaid : Prop := rimMovedUptoRow.holds Tryz.pinned (OpenSpec.upto rimMovedSpec)

/-- 'gridironlaw18.RimApart', WHERE WHAT IT READS IS OF BULK AT MOST 1048576: true; the input reads as it did. -/
def rimApartUptoRow : OpenClaim := { program := "ytokpdocabmaagaagreat", sum := "0a7487c3e1d396842cc83568203920b5d5f1a076b4db5f35e4054cbc10aa9a97", func := "gridiron/gridironlaw18.RimApart", spec := "rimApart", inPlace := ["sync/atomic.LoadUint32", "(*internal/sync.Mutex).Lock", "internal/race.Disable", "sync/atomic.CompareAndSwapInt32", "internal/race.Enable", "internal/race.Acquire", "(*internal/sync.Mutex).lockSlow", "internal/sync.runtime_canSpin", "internal/sync.runtime_doSpin", "internal/sync.throw", "internal/sync.runtime_nanotime", "internal/sync.runtime_SemacquireMutex", "sync/atomic.AddInt32", "(*internal/sync.Mutex).Unlock", "internal/race.ReleaseMerge", "(*internal/sync.Mutex).unlockSlow", "internal/sync.fatal", "internal/sync.runtime_Semrelease", "sync/atomic.StoreUint32", "math/bits.Add64"], unfollowed := true, recurses := true, plainKeys := false, apart := false, narrowed := true }
def RimApartUptoSaid : Prop := rimApartUptoRow.holds Tryz.pinned (OpenSpec.upto rimApartSpec)

/-- 'gridironlaw17.AreaBoth', WHERE WHAT IT READS IS OF BULK AT MOST 1048576: true; the input reads as it did. -/
def areaBothUptoRow : OpenClaim := { program := "ytokpdocabmaagaagreat", sum := "0a7487c3e1d396842cc83568203920b5d5f1a076b4db5f35e4054cbc10aa9a97", func := "gridiron/gridironlaw17.AreaBoth", spec := "areaBoth", inPlace := ["sync/atomic.LoadUint32", "(*internal/sync.Mutex).Lock", "internal/race.Disable", "sync/atomic.CompareAndSwapInt32", "internal/race.Enable", "internal/race.Acquire", "(*internal/sync.Mutex).lockSlow", "internal/sync.runtime_canSpin", "internal/sync.runtime_doSpin", "internal/sync.throw", "internal/sync.runtime_nanotime", "internal/sync.runtime_SemacquireMutex", "sync/atomic.AddInt32", "(*internal/sync.Mutex).Unlock", "internal/race.ReleaseMerge", "(*internal/sync.Mutex).unlockSlow", "internal/sync.fatal", "internal/sync.runtime_Semrelease", "sync/atomic.StoreUint32", "math/bits.Add64", "math/bits.Sub64"], unfollowed := true, recurses := true, plainKeys := false, apart := false, narrowed := true }
def AreaBothUptoSaid : Prop := areaBothUptoRow.holds Tryz.pinned (OpenSpec.upto areaBothSpec)

/-- 'gridironlaw18.RimParts', WHERE WHAT IT READS IS OF BULK AT MOST 1048576: true; the input reads as it did. -/
def rimPartsUptoRow : OpenClaim := { program := "ytokpdocabmaagaagreat", sum := "0a7487c3e1d396842cc83568203920b5d5f1a076b4db5f35e4054cbc10aa9a97", func := "gridiron/gridironlaw18.RimParts", spec := "rimParts", inPlace := ["sync/atomic.LoadUint32", "(*internal/sync.Mutex).Lock", "internal/race.Disable", "sync/atomic.CompareAndSwapInt32", "internal/race.Enable", "internal/race.Acquire", "(*internal/sync.Mutex).lockSlow", "internal/sync.runtime_canSpin", "internal/sync.runtime_doSpin", "internal/sync.throw", "internal/sync.runtime_nanotime", "internal/sync.runtime_SemacquireMutex", "sync/atomic.AddInt32", "(*internal/sync.Mutex).Unlock", "internal/race.ReleaseMerge", "(*internal/sync.Mutex).unlockSlow", "internal/sync.fatal", "internal/sync.runtime_Semrelease", "sync/atomic.StoreUint32", "math/bits.Add64"], unfollowed := true, recurses := true, plainKeys := false, apart := false, narrowed := true }
def RimPartsUptoSaid : Prop := rimPartsUptoRow.holds Tryz.pinned (OpenSpec.upto rimPartsSpec)

/-- 'gridironlaw18.RimSides', WHERE WHAT IT READS IS OF BULK AT MOST 1048576: true; the input reads as it did. -/
def rimSidesUptoRow : OpenClaim := { program := "ytokpdocabmaagaagreat", sum := "0a7487c3e1d396842cc83568203920b5d5f1a076b4db5f35e4054cbc10aa9a97", func := "gridiron/gridironlaw18.RimSides", spec := "rimSides", inPlace := ["sync/atomic.LoadUint32", "(*internal/sync.Mutex).Lock", "internal/race.Disable", "sync/atomic.CompareAndSwapInt32", "internal/race.Enable", "internal/race.Acquire", "(*internal/sync.Mutex).lockSlow", "internal/sync.runtime_canSpin", "internal/sync.runtime_doSpin", "internal/sync.throw", "internal/sync.runtime_nanotime", "internal/sync.runtime_SemacquireMutex", "sync/atomic.AddInt32", "(*internal/sync.Mutex).Unlock", "internal/race.ReleaseMerge", "(*internal/sync.Mutex).unlockSlow", "internal/sync.fatal", "internal/sync.runtime_Semrelease", "sync/atomic.StoreUint32", "math/bits.Add64"], unfollowed := true, recurses := true, plainKeys := false, apart := false, narrowed := true }
def RimSidesUptoSaid : Prop := rimSidesUptoRow.holds Tryz.pinned (OpenSpec.upto rimSidesSpec)

/-- 'gridironlaw19.CellsSame', WHERE WHAT IT READS IS OF BULK AT MOST 1048576: true; the input reads as it did. -/
def cellsSameUptoRow : OpenClaim := { program := "ytokpdocabmaagaagreat", sum := "0a7487c3e1d396842cc83568203920b5d5f1a076b4db5f35e4054cbc10aa9a97", func := "gridiron/gridironlaw19.CellsSame", spec := "cellsSame", inPlace := ["math/bits.Add64", "sync/atomic.LoadUint32", "(*internal/sync.Mutex).Lock", "internal/race.Disable", "sync/atomic.CompareAndSwapInt32", "internal/race.Enable", "internal/race.Acquire", "(*internal/sync.Mutex).lockSlow", "internal/sync.runtime_canSpin", "internal/sync.runtime_doSpin", "internal/sync.throw", "internal/sync.runtime_nanotime", "internal/sync.runtime_SemacquireMutex", "sync/atomic.AddInt32", "(*internal/sync.Mutex).Unlock", "internal/race.ReleaseMerge", "(*internal/sync.Mutex).unlockSlow", "internal/sync.fatal", "internal/sync.runtime_Semrelease", "sync/atomic.StoreUint32"], unfollowed := true, recurses := true, plainKeys := false, apart := false, narrowed := true }
def CellsSameUptoSaid : Prop := cellsSameUptoRow.holds Tryz.pinned (OpenSpec.upto cellsSameSpec)

end Rows
end Go.Proofs.YtokpdocabmaagaaGreat
