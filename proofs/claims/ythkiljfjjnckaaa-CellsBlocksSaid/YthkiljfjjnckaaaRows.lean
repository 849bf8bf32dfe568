/-
  No cell of these rows narrows 'for every input' (looked for: loops, veiled, ifaces, maps, wideKeys, modest, calm, conditions, laid).
  DERIVED. THE GIVEN ROWS OF THIS SEAT. 11 by the template 'for every input the law returns true; each argument reads behind the call as it read before'; 0 by the template 'total and deterministic' (their statements: YthkiljfjjnckaaaTotals.lean).
  GIVEN WITH THE SEED: the statements are not yours to turn. If you find one false, say at which input.
  Laid BY PROGRAM, IN A SANDBOX (cutbox-rows.mjs): the forced cells as the released guide's own fill.sh prints them over the translation 782258267fb9f397… (all of the seat's roots in one cut). By AI agents, Wed Nov 11 2026. No macro, syntax, notation, axiom, sorry.
-/
import Derived.Test.YthkiljfjjnckaaaChecked
import GoSem.Claim
import GoSem.ClaimJoined
import GoSem.ClaimMapViews
import Derived.JoinedTies
import Derived.KernelRfl
namespace Go.Proofs.Ythkiljfjjnckaaa
/- THE CELL 'sum', in the pinned program and in every row, IS THE sha256 OF THE DUMP (.gsa) THAT YthkiljfjjnckaaaProg.lean LOADS. Nothing in Lean hashes anything: it is a label: what it is worth is what the hold of that sum in a sandbox is worth. -/
noncomputable def Try.pinned : Pinned := { name := "ythkiljfjjnckaaa", sum := "782258267fb9f397a641f80d7846c181a33f4e3747f8e7e291f2f836ae840ce8", checked := Try.checked }
namespace Rows
def none {H : Type} : Left H := { results := [], args := [] }

/-- 'gridironlaw16.CoverTells': WHATEVER THE INPUT: true; the input reads as it did. -/
def coverTellsSpec : ChangeSpec := { name := "coverTells", fn := fun _ => fun
  | [d1, d2] => { results := [.lit (.bool true)], args := [d1, d2] }
  | _ => none }
def coverTellsRow : OpenClaim := { program := "ythkiljfjjnckaaa", sum := "782258267fb9f397a641f80d7846c181a33f4e3747f8e7e291f2f836ae840ce8", func := "gridiron/gridironlaw16.CoverTells", spec := "coverTells", inPlace := ["sync/atomic.LoadUint32", "(*internal/sync.Mutex).Lock", "internal/race.Disable", "sync/atomic.CompareAndSwapInt32", "internal/race.Enable", "internal/race.Acquire", "(*internal/sync.Mutex).lockSlow", "internal/sync.runtime_canSpin", "internal/sync.runtime_doSpin", "internal/sync.throw", "internal/sync.runtime_nanotime", "internal/sync.runtime_SemacquireMutex", "sync/atomic.AddInt32", "(*internal/sync.Mutex).Unlock", "internal/race.ReleaseMerge", "(*internal/sync.Mutex).unlockSlow", "internal/sync.fatal", "internal/sync.runtime_Semrelease", "sync/atomic.StoreUint32"], unfollowed := true, recurses := true, plainKeys := false, apart := false }
def CoverTellsSaid : Prop := coverTellsRow.holds Try.pinned (OpenSpec.ofChange coverTellsSpec)

/-- ITS FALSE NEIGHBOUR: 'it returns false'. Refute it at one input. -/
def coverTellsWrong : ChangeSpec := { name := "coverTells", fn := fun _ => fun
  | [d1, d2] => { results := [.lit (.bool false)], args := [d1, d2] }
  | _ => none }
def CoverTellsWrongFalsely : Prop := coverTellsRow.holds Try.pinned (OpenSpec.ofChange coverTellsWrong)

/-- 'gridironlaw16.CoverNone': WHATEVER THE INPUT: true; the input reads as it did. -/
def coverNoneSpec : ChangeSpec := { name := "coverNone", fn := fun _ => fun
  | [d1, d2] => { results := [.lit (.bool true)], args := [d1, d2] }
  | _ => none }
def coverNoneRow : OpenClaim := { program := "ythkiljfjjnckaaa", sum := "782258267fb9f397a641f80d7846c181a33f4e3747f8e7e291f2f836ae840ce8", func := "gridiron/gridironlaw16.CoverNone", spec := "coverNone", inPlace := ["sync/atomic.LoadUint32", "(*internal/sync.Mutex).Lock", "internal/race.Disable", "sync/atomic.CompareAndSwapInt32", "internal/race.Enable", "internal/race.Acquire", "(*internal/sync.Mutex).lockSlow", "internal/sync.runtime_canSpin", "internal/sync.runtime_doSpin", "internal/sync.throw", "internal/sync.runtime_nanotime", "internal/sync.runtime_SemacquireMutex", "sync/atomic.AddInt32", "(*internal/sync.Mutex).Unlock", "internal/race.ReleaseMerge", "(*internal/sync.Mutex).unlockSlow", "internal/sync.fatal", "internal/sync.runtime_Semrelease", "sync/atomic.StoreUint32"], unfollowed := true, recurses := true, plainKeys := false, apart := false }
def CoverNoneSaid : Prop := coverNoneRow.holds Try.pinned (OpenSpec.ofChange coverNoneSpec)

/-- ITS FALSE NEIGHBOUR: 'it returns false'. Refute it at one input. -/
def coverNoneWrong : ChangeSpec := { name := "coverNone", fn := fun _ => fun
  | [d1, d2] => { results := [.lit (.bool false)], args := [d1, d2] }
  | _ => none }
def CoverNoneWrongFalsely : Prop := coverNoneRow.holds Try.pinned (OpenSpec.ofChange coverNoneWrong)

/-- 'gridironlaw16.CoverCost': WHATEVER THE INPUT: true; the input reads as it did. -/
def coverCostSpec : ChangeSpec := { name := "coverCost", fn := fun _ => fun
  | [d1, d2] => { results := [.lit (.bool true)], args := [d1, d2] }
  | _ => none }
def coverCostRow : OpenClaim := { program := "ythkiljfjjnckaaa", sum := "782258267fb9f397a641f80d7846c181a33f4e3747f8e7e291f2f836ae840ce8", func := "gridiron/gridironlaw16.CoverCost", spec := "coverCost", inPlace := ["sync/atomic.LoadUint32", "(*internal/sync.Mutex).Lock", "internal/race.Disable", "sync/atomic.CompareAndSwapInt32", "internal/race.Enable", "internal/race.Acquire", "(*internal/sync.Mutex).lockSlow", "internal/sync.runtime_canSpin", "internal/sync.runtime_doSpin", "internal/sync.throw", "internal/sync.runtime_nanotime", "internal/sync.runtime_SemacquireMutex", "sync/atomic.AddInt32", "(*internal/sync.Mutex).Unlock", "internal/race.ReleaseMerge", "(*internal/sync.Mutex).unlockSlow", "internal/sync.fatal", "internal/sync.runtime_Semrelease", "sync/atomic.StoreUint32"], unfollowed := true, recurses := true, plainKeys := false, apart := false }
def CoverCostSaid : Prop := coverCostRow.holds Try.pinned (OpenSpec.ofChange coverCostSpec)

/-- ITS FALSE NEIGHBOUR: 'it returns false'. Refute it at one input. -/
def coverCostWrong : ChangeSpec := { name := "coverCost", fn := fun _ => fun
  | [d1, d2] => { results := [.lit (.bool false)], args := [d1, d2] }
  | _ => none }
def CoverCostWrongFalsely : Prop := coverCostRow.holds Try.pinned (OpenSpec.ofChange coverCostWrong)

/-- 'gridironlaw19.CellsTells': WHATEVER THE INPUT: true; the input reads as it did. -/
def cellsTellsSpec : ChangeSpec := { name := "cellsTells", fn := fun _ => fun
  | [d1, d2, d3] => { results := [.lit (.bool true)], args := [d1, d2, d3] }
  | _ => none }
def cellsTellsRow : OpenClaim := { program := "ythkiljfjjnckaaa", sum := "782258267fb9f397a641f80d7846c181a33f4e3747f8e7e291f2f836ae840ce8", func := "gridiron/gridironlaw19.CellsTells", spec := "cellsTells", inPlace := ["math/bits.Add64"], unfollowed := true, recurses := true, plainKeys := false, apart := false }
def CellsTellsSaid : Prop := cellsTellsRow.holds Try.pinned (OpenSpec.ofChange cellsTellsSpec)

/-- ITS FALSE NEIGHBOUR: 'it returns false'. Refute it at one input. -/
def cellsTellsWrong : ChangeSpec := { name := "cellsTells", fn := fun _ => fun
  | [d1, d2, d3] => { results := [.lit (.bool false)], args := [d1, d2, d3] }
  | _ => none }
def CellsTellsWrongFalsely : Prop := cellsTellsRow.holds Try.pinned (OpenSpec.ofChange cellsTellsWrong)

/-- 'gridironlaw19.CellsMore': WHATEVER THE INPUT: true; the input reads as it did. -/
def cellsMoreSpec : ChangeSpec := { name := "cellsMore", fn := fun _ => fun
  | [d1, d2] => { results := [.lit (.bool true)], args := [d1, d2] }
  | _ => none }
def cellsMoreRow : OpenClaim := { program := "ythkiljfjjnckaaa", sum := "782258267fb9f397a641f80d7846c181a33f4e3747f8e7e291f2f836ae840ce8", func := "gridiron/gridironlaw19.CellsMore", spec := "cellsMore", inPlace := ["math/bits.Add64"], unfollowed := true, recurses := true, plainKeys := false, apart := false }
def CellsMoreSaid : Prop := cellsMoreRow.holds Try.pinned (OpenSpec.ofChange cellsMoreSpec)

/-- ITS FALSE NEIGHBOUR: 'it returns false'. Refute it at one input. -/
def cellsMoreWrong : ChangeSpec := { name := "cellsMore", fn := fun _ => fun
  | [d1, d2] => { results := [.lit (.bool false)], args := [d1, d2] }
  | _ => none }
def CellsMoreWrongFalsely : Prop := cellsMoreRow.holds Try.pinned (OpenSpec.ofChange cellsMoreWrong)

/-- 'gridironlaw19.CellsHeld': WHATEVER THE INPUT: true; the input reads as it did. -/
def cellsHeldSpec : ChangeSpec := { name := "cellsHeld", fn := fun _ => fun
  | [d1, d2, d3] => { results := [.lit (.bool true)], args := [d1, d2, d3] }
  | _ => none }
def cellsHeldRow : OpenClaim := { program := "ythkiljfjjnckaaa", sum := "782258267fb9f397a641f80d7846c181a33f4e3747f8e7e291f2f836ae840ce8", func := "gridiron/gridironlaw19.CellsHeld", spec := "cellsHeld", inPlace := ["math/bits.Add64"], unfollowed := true, recurses := true, plainKeys := false, apart := false }
def CellsHeldSaid : Prop := cellsHeldRow.holds Try.pinned (OpenSpec.ofChange cellsHeldSpec)

/-- ITS FALSE NEIGHBOUR: 'it returns false'. Refute it at one input. -/
def cellsHeldWrong : ChangeSpec := { name := "cellsHeld", fn := fun _ => fun
  | [d1, d2, d3] => { results := [.lit (.bool false)], args := [d1, d2, d3] }
  | _ => none }
def CellsHeldWrongFalsely : Prop := cellsHeldRow.holds Try.pinned (OpenSpec.ofChange cellsHeldWrong)

/-- 'gridironlaw19.CellsBlocks': WHATEVER THE INPUT: true; the input reads as it did. -/
def cellsBlocksSpec : ChangeSpec := { name := "cellsBlocks", fn := fun _ => fun
  | [d] => { results := [.lit (.bool true)], args := [d] }
  | _ => none }
def cellsBlocksRow : OpenClaim := { program := "ythkiljfjjnckaaa", sum := "782258267fb9f397a641f80d7846c181a33f4e3747f8e7e291f2f836ae840ce8", func := "gridiron/gridironlaw19.CellsBlocks", spec := "cellsBlocks", inPlace := ["math/bits.Add64"], unfollowed := true, recurses := true, plainKeys := false, apart := false }
def CellsBlocksSaid : Prop := cellsBlocksRow.holds Try.pinned (OpenSpec.ofChange cellsBlocksSpec)

/-- ITS FALSE NEIGHBOUR: 'it returns false'. Refute it at one input. -/
def cellsBlocksWrong : ChangeSpec := { name := "cellsBlocks", fn := fun _ => fun
  | [d] => { results := [.lit (.bool false)], args := [d] }
  | _ => none }
def CellsBlocksWrongFalsely : Prop := cellsBlocksRow.holds Try.pinned (OpenSpec.ofChange cellsBlocksWrong)

/-- 'gridironlaw16.CoverLong': WHATEVER THE INPUT: true; the input reads as it did. -/
def coverLongSpec : ChangeSpec := { name := "coverLong", fn := fun _ => fun
  | [d1, d2] => { results := [.lit (.bool true)], args := [d1, d2] }
  | _ => none }
def coverLongRow : OpenClaim := { program := "ythkiljfjjnckaaa", sum := "782258267fb9f397a641f80d7846c181a33f4e3747f8e7e291f2f836ae840ce8", func := "gridiron/gridironlaw16.CoverLong", spec := "coverLong", inPlace := ["sync/atomic.LoadUint32", "(*internal/sync.Mutex).Lock", "internal/race.Disable", "sync/atomic.CompareAndSwapInt32", "internal/race.Enable", "internal/race.Acquire", "(*internal/sync.Mutex).lockSlow", "internal/sync.runtime_canSpin", "internal/sync.runtime_doSpin", "internal/sync.throw", "internal/sync.runtime_nanotime", "internal/sync.runtime_SemacquireMutex", "sync/atomic.AddInt32", "(*internal/sync.Mutex).Unlock", "internal/race.ReleaseMerge", "(*internal/sync.Mutex).unlockSlow", "internal/sync.fatal", "internal/sync.runtime_Semrelease", "sync/atomic.StoreUint32"], unfollowed := true, recurses := true, plainKeys := false, apart := false }
def CoverLongSaid : Prop := coverLongRow.holds Try.pinned (OpenSpec.ofChange coverLongSpec)

/-- ITS FALSE NEIGHBOUR: 'it returns false'. Refute it at one input. -/
def coverLongWrong : ChangeSpec := { name := "coverLong", fn := fun _ => fun
  | [d1, d2] => { results := [.lit (.bool false)], args := [d1, d2] }
  | _ => none }
def CoverLongWrongFalsely : Prop := coverLongRow.holds Try.pinned (OpenSpec.ofChange coverLongWrong)

/-- 'gridironlaw16.CoverBack': WHATEVER THE INPUT: true; the input reads as it did. -/
def coverBackSpec : ChangeSpec := { name := "coverBack", fn := fun _ => fun
  | [d1, d2, d3] => { results := [.lit (.bool true)], args := [d1, d2, d3] }
  | _ => none }
def coverBackRow : OpenClaim := { program := "ythkiljfjjnckaaa", sum := "782258267fb9f397a641f80d7846c181a33f4e3747f8e7e291f2f836ae840ce8", func := "gridiron/gridironlaw16.CoverBack", spec := "coverBack", inPlace := ["sync/atomic.LoadUint32", "(*internal/sync.Mutex).Lock", "internal/race.Disable", "sync/atomic.CompareAndSwapInt32", "internal/race.Enable", "internal/race.Acquire", "(*internal/sync.Mutex).lockSlow", "internal/sync.runtime_canSpin", "internal/sync.runtime_doSpin", "internal/sync.throw", "internal/sync.runtime_nanotime", "internal/sync.runtime_SemacquireMutex", "sync/atomic.AddInt32", "(*internal/sync.Mutex).Unlock", "internal/race.ReleaseMerge", "(*internal/sync.Mutex).unlockSlow", "internal/sync.fatal", "internal/sync.runtime_Semrelease", "sync/atomic.StoreUint32"], unfollowed := true, recurses := true, plainKeys := false, apart := false }
def CoverBackSaid : Prop := coverBackRow.holds Try.pinned (OpenSpec.ofChange coverBackSpec)

/-- ITS FALSE NEIGHBOUR: 'it returns false'. Refute it at one input. -/
def coverBackWrong : ChangeSpec := { name := "coverBack", fn := fun _ => fun
  | [d1, d2, d3] => { results := [.lit (.bool false)], args := [d1, d2, d3] }
  | _ => none }
def CoverBackWrongFalsely : Prop := coverBackRow.holds Try.pinned (OpenSpec.ofChange coverBackWrong)

/-- 'gridironlaw16.CoverParts': WHATEVER THE INPUT: true; the input reads as it did. -/
def coverPartsSpec : ChangeSpec := { name := "coverParts", fn := fun _ => fun
  | [d1, d2, d3, d4] => { results := [.lit (.bool true)], args := [d1, d2, d3, d4] }
  | _ => none }
def coverPartsRow : OpenClaim := { program := "ythkiljfjjnckaaa", sum := "782258267fb9f397a641f80d7846c181a33f4e3747f8e7e291f2f836ae840ce8", func := "gridiron/gridironlaw16.CoverParts", spec := "coverParts", inPlace := ["sync/atomic.LoadUint32", "(*internal/sync.Mutex).Lock", "internal/race.Disable", "sync/atomic.CompareAndSwapInt32", "internal/race.Enable", "internal/race.Acquire", "(*internal/sync.Mutex).lockSlow", "internal/sync.runtime_canSpin", "internal/sync.runtime_doSpin", "internal/sync.throw", "internal/sync.runtime_nanotime", "internal/sync.runtime_SemacquireMutex", "sync/atomic.AddInt32", "(*internal/sync.Mutex).Unlock", "internal/race.ReleaseMerge", "(*internal/sync.Mutex).unlockSlow", "internal/sync.fatal", "internal/sync.runtime_Semrelease", "sync/atomic.StoreUint32"], unfollowed := true, recurses := true, plainKeys := false, apart := false }
def CoverPartsSaid : Prop := coverPartsRow.holds Try.pinned (OpenSpec.ofChange coverPartsSpec)

/-- ITS FALSE NEIGHBOUR: 'it returns false'. Refute it at one input. -/
def coverPartsWrong : ChangeSpec := { name := "coverParts", fn := fun _ => fun
  | [d1, d2, d3, d4] => { results := [.lit (.bool false)], args := [d1, d2, d3, d4] }
  | _ => none }
def CoverPartsWrongFalsely : Prop := coverPartsRow.holds Try.pinned (OpenSpec.ofChange coverPartsWrong)

/-- 'gridironlaw16.CoverAll': WHATEVER THE INPUT: true; the input reads as it did. -/
def coverAllSpec : ChangeSpec := { name := "coverAll", fn := fun _ => fun
  | [d] => { results := [.lit (.bool true)], args := [d] }
  | _ => none }
def coverAllRow : OpenClaim := { program := "ythkiljfjjnckaaa", sum := "782258267fb9f397a641f80d7846c181a33f4e3747f8e7e291f2f836ae840ce8", func := "gridiron/gridironlaw16.CoverAll", spec := "coverAll", inPlace := ["sync/atomic.LoadUint32", "(*internal/sync.Mutex).Lock", "internal/race.Disable", "sync/atomic.CompareAndSwapInt32", "internal/race.Enable", "internal/race.Acquire", "(*internal/sync.Mutex).lockSlow", "internal/sync.runtime_canSpin", "internal/sync.runtime_doSpin", "internal/sync.throw", "internal/sync.runtime_nanotime", "internal/sync.runtime_SemacquireMutex", "sync/atomic.AddInt32", "(*internal/sync.Mutex).Unlock", "internal/race.ReleaseMerge", "(*internal/sync.Mutex).unlockSlow", "internal/sync.fatal", "internal/sync.runtime_Semrelease", "sync/atomic.StoreUint32"], unfollowed := true, recurses := true, plainKeys := false, apart := false }
def CoverAllSaid : Prop := coverAllRow.holds Try.pinned (OpenSpec.ofChange coverAllSpec)

/-- ITS FALSE NEIGHBOUR: 'it returns false'. Refute it at one input. -/
def coverAllWrong : ChangeSpec := { name := "coverAll", fn := fun _ => fun
  | [d] => { results := [.lit (.bool false)], args := [d] }
  | _ => none }
def CoverAllWrongFalsely : Prop := coverAllRow.holds Try.pinned (OpenSpec.ofChange coverAllWrong)

/- THE SECOND FORM. 'bulk': how many values and letters a reading holds, each counted each time it is reached (what is shared counts as often as it is met; a slice's spare places count too). A statement '..UptoSaid' is the law's where the arguments, and the package variables that the reading takes, are together of bulk at most 1048576: NARROWER than '..Said'. Prove '..Said' where nothing that the law and all that it calls make is longer than what came in: it says more and counts as full. Else prove '..UptoSaid'. A law counts once. -/
mutual
def uptoBulk {H : Type} : DataW H → Nat
  | .lit (.string bytes) => bytes.length + 1
  | .lit _ => 1
  | .nil => 1
  | .ptr d => uptoBulk d + 1
  | .slice elems spare => uptoBulkAll elems + uptoBulkAll spare + 1
  | .agg parts => uptoBulkAll parts + 1
  | .iface _ d => uptoBulk d + 1
  | .map entries => uptoBulkEntries entries + 1
  | .held _ => 1
def uptoBulkAll {H : Type} : List (DataW H) → Nat
  | [] => 0
  | d :: r => uptoBulk d + uptoBulkAll r
def uptoBulkEntries {H : Type} : List (Lit × DataW H) → Nat
  | [] => 0
  | x :: r => uptoBulkEntry x + uptoBulkEntries r
def uptoBulkEntry {H : Type} : Lit × DataW H → Nat
  | (.string bytes, d) => bytes.length + uptoBulk d + 1
  | (_, d) => uptoBulk d + 1
 end
def uptoSmall : (H : Type) → List (DataW H) → Bool := fun _ ds => decide (uptoBulkAll ds ≤ 1048576)
def OpenSpec.upto (s : _root_.Go.ChangeSpec) : _root_.Go.OpenSpec := { _root_.Go.OpenSpec.ofChange s with cond := some uptoSmall }

/-- 'gridironlaw16.CoverTells', WHERE WHAT IT READS IS OF BULK AT MOST 1048576: true; the input reads as it did. -/
def coverTellsUptoRow : OpenClaim := { program := "ythkiljfjjnckaaa", sum := "782258267fb9f397a641f80d7846c181a33f4e3747f8e7e291f2f836ae840ce8", func := "gridiron/gridironlaw16.CoverTells", spec := "coverTells", inPlace := ["sync/atomic.LoadUint32", "(*internal/sync.Mutex).Lock", "internal/race.Disable", "sync/atomic.CompareAndSwapInt32", "internal/race.Enable", "internal/race.Acquire", "(*internal/sync.Mutex).lockSlow", "internal/sync.runtime_canSpin", "internal/sync.runtime_doSpin", "internal/sync.throw", "internal/sync.runtime_nanotime", "internal/sync.runtime_SemacquireMutex", "sync/atomic.AddInt32", "(*internal/sync.Mutex).Unlock", "internal/race.ReleaseMerge", "(*internal/sync.Mutex).unlockSlow", "internal/sync.fatal", "internal/sync.runtime_Semrelease", "sync/atomic.StoreUint32"], unfollowed := true, recurses := true, plainKeys := false, apart := false, narrowed := true }
def CoverTellsUptoSaid : Prop := coverTellsUptoRow.holds Try.pinned (OpenSpec.upto coverTellsSpec)

/-- 'gridironlaw16.CoverNone', WHERE WHAT IT READS IS OF BULK AT MOST 1048576: true; the input reads as it did. -/
def coverNoneUptoRow : OpenClaim := { program := "ythkiljfjjnckaaa", sum := "782258267fb9f397a641f80d7846c181a33f4e3747f8e7e291f2f836ae840ce8", func := "gridiron/gridironlaw16.CoverNone", spec := "coverNone", inPlace := ["sync/atomic.LoadUint32", "(*internal/sync.Mutex).Lock", "internal/race.Disable", "sync/atomic.CompareAndSwapInt32", "internal/race.Enable", "internal/race.Acquire", "(*internal/sync.Mutex).lockSlow", "internal/sync.runtime_canSpin", "internal/sync.runtime_doSpin", "internal/sync.throw", "internal/sync.runtime_nanotime", "internal/sync.runtime_SemacquireMutex", "sync/atomic.AddInt32", "(*internal/sync.Mutex).Unlock", "internal/race.ReleaseMerge", "(*internal/sync.Mutex).unlockSlow", "internal/sync.fatal", "internal/sync.runtime_Semrelease", "sync/atomic.StoreUint32"], unfollowed := true, recurses := true, plainKeys := false, apart := false, narrowed := true }
def CoverNoneUptoSaid : Prop := coverNoneUptoRow.holds Try.pinned (OpenSpec.upto coverNoneSpec)

/-- 'gridironlaw16.CoverCost', WHERE WHAT IT READS IS OF BULK AT MOST 1048576: true; the input reads as it did. -/
def coverCostUptoRow : OpenClaim := { program := "ythkiljfjjnckaaa", sum := "782258267fb9f397a641f80d7846c181a33f4e3747f8e7e291f2f836ae840ce8", func := "gridiron/gridironlaw16.CoverCost", spec := "coverCost", inPlace := ["sync/atomic.LoadUint32", "(*internal/sync.Mutex).Lock", "internal/race.Disable", "sync/atomic.CompareAndSwapInt32", "internal/race.Enable", "internal/race.Acquire", "(*internal/sync.Mutex).lockSlow", "internal/sync.runtime_canSpin", "internal/sync.runtime_doSpin", "internal/sync.throw", "internal/sync.runtime_nanotime", "internal/sync.runtime_SemacquireMutex", "sync/atomic.AddInt32", "(*internal/sync.Mutex).Unlock", "internal/race.ReleaseMerge", "(*internal/sync.Mutex).unlockSlow", "internal/sync.fatal", "internal/sync.runtime_Semrelease", "sync/atomic.StoreUint32"], unfollowed := true, recurses := true, plainKeys := false, apart := false, narrowed := true }
def CoverCostUptoSaid : Prop := coverCostUptoRow.holds Try.pinned (OpenSpec.upto coverCostSpec)

/-- 'gridironlaw19.CellsTells', WHERE WHAT IT READS IS OF BULK AT MOST 1048576: true; the input reads as it did. -/
def cellsTellsUptoRow : OpenClaim := { program := "ythkiljfjjnckaaa", sum := "782258267fb9f397a641f80d7846c181a33f4e3747f8e7e291f2f836ae840ce8", func := "gridiron/gridironlaw19.CellsTells", spec := "cellsTells", inPlace := ["math/bits.Add64"], unfollowed := true, recurses := true, plainKeys := false, apart := false, narrowed := true }
def CellsTellsUptoSaid : Prop := cellsTellsUptoRow.holds Try.pinned (OpenSpec.upto cellsTellsSpec)

/-- 'gridironlaw19.CellsMore', WHERE WHAT IT READS IS OF BULK AT MOST 1048576: true; the input reads as it did. -/
def cellsMoreUptoRow : OpenClaim := { program := "ythkiljfjjnckaaa", sum := "782258267fb9f397a641f80d7846c181a33f4e3747f8e7e291f2f836ae840ce8", func := "gridiron/gridironlaw19.CellsMore", spec := "cellsMore", inPlace := ["math/bits.Add64"], unfollowed := true, recurses := true, plainKeys := false, apart := false, narrowed := true }
def CellsMoreUptoSaid : Prop := cellsMoreUptoRow.holds Try.pinned (OpenSpec.upto cellsMoreSpec)

/-- 'gridironlaw19.CellsHeld', WHERE WHAT IT READS IS OF BULK AT MOST 1048576: true; the input reads as it did. -/
def cellsHeldUptoRow : OpenClaim := { program := "ythkiljfjjnckaaa", sum := "782258267fb9f397a641f80d7846c181a33f4e3747f8e7e291f2f836ae840ce8", func := "gridiron/gridironlaw19.CellsHeld", spec := "cellsHeld", inPlace := ["math/bits.Add64"], unfollowed := true, recurses := true, plainKeys := false, apart := false, narrowed := true }
def CellsHeldUptoSaid : Prop := cellsHeldUptoRow.holds Try.pinned (OpenSpec.upto cellsHeldSpec)

/-- 'gridironlaw19.CellsBlocks', WHERE WHAT IT READS IS OF BULK AT MOST 1048576: true; the input reads as it did. -/
def cellsBlocksUptoRow : OpenClaim := { program := "ythkiljfjjnckaaa", sum := "782258267fb9f397a641f80d7846c181a33f4e3747f8e7e291f2f836ae840ce8", func := "gridiron/gridironlaw19.CellsBlocks", spec := "cellsBlocks", inPlace := ["math/bits.Add64"], unfollowed := true, recurses := true, plainKeys := false, apart := false, narrowed := true }
def CellsBlocksUptoSaid : Prop := cellsBlocksUptoRow.holds Try.pinned (OpenSpec.upto cellsBlocksSpec)

/-- 'gridironlaw16.CoverLong', WHERE WHAT IT READS IS OF BULK AT MOST 1048576: true; the input reads as it did. -/
def coverLongUptoRow : OpenClaim := { program := "ythkiljfjjnckaaa", sum := "782258267fb9f397a641f80d7846c181a33f4e3747f8e7e291f2f836ae840ce8", func := "gridiron/gridironlaw16.CoverLong", spec := "coverLong", inPlace := ["sync/atomic.LoadUint32", "(*internal/sync.Mutex).Lock", "internal/race.Disable", "sync/atomic.CompareAndSwapInt32", "internal/race.Enable", "internal/race.Acquire", "(*internal/sync.Mutex).lockSlow", "internal/sync.runtime_canSpin", "internal/sync.runtime_doSpin", "internal/sync.throw", "internal/sync.runtime_nanotime", "internal/sync.runtime_SemacquireMutex", "sync/atomic.AddInt32", "(*internal/sync.Mutex).Unlock", "internal/race.ReleaseMerge", "(*internal/sync.Mutex).unlockSlow", "internal/sync.fatal", "internal/sync.runtime_Semrelease", "sync/atomic.StoreUint32"], unfollowed := true, recurses := true, plainKeys := false, apart := false, narrowed := true }
def CoverLongUptoSaid : Prop := coverLongUptoRow.holds Try.pinned (OpenSpec.upto coverLongSpec)

/-- 'gridironlaw16.CoverBack', WHERE WHAT IT READS IS OF BULK AT MOST 1048576: true; the input reads as it did. -/
def coverBackUptoRow : OpenClaim := { program := "ythkiljfjjnckaaa", sum := "782258267fb9f397a641f80d7846c181a33f4e3747f8e7e291f2f836ae840ce8", func := "gridiron/gridironlaw16.CoverBack", spec := "coverBack", inPlace := ["sync/atomic.LoadUint32", "(*internal/sync.Mutex).Lock", "internal/race.Disable", "sync/atomic.CompareAndSwapInt32", "internal/race.Enable", "internal/race.Acquire", "(*internal/sync.Mutex).lockSlow", "internal/sync.runtime_canSpin", "internal/sync.runtime_doSpin", "internal/sync.throw", "internal/sync.runtime_nanotime", "internal/sync.runtime_SemacquireMutex", "sync/atomic.AddInt32", "(*internal/sync.Mutex).Unlock", "internal/race.ReleaseMerge", "(*internal/sync.Mutex).unlockSlow", "internal/sync.fatal", "internal/sync.runtime_Semrelease", "sync/atomic.StoreUint32"], unfollowed := true, recurses := true, plainKeys := false, apart := false, narrowed := true }
def CoverBackUptoSaid : Prop := coverBackUptoRow.holds Try.pinned (OpenSpec.upto coverBackSpec)

/-- 'gridironlaw16.CoverParts', WHERE WHAT IT READS IS OF BULK AT MOST 1048576: true; the input reads as it did. -/
def coverPartsUptoRow : OpenClaim := { program := "ythkiljfjjnckaaa", sum := "782258267fb9f397a641f80d7846c181a33f4e3747f8e7e291f2f836ae840ce8", func := "gridiron/gridironlaw16.CoverParts", spec := "coverParts", inPlace := ["sync/atomic.LoadUint32", "(*internal/sync.Mutex).Lock", "internal/race.Disable", "sync/atomic.CompareAndSwapInt32", "internal/race.Enable", "internal/race.Acquire", "(*internal/sync.Mutex).lockSlow", "internal/sync.runtime_canSpin", "internal/sync.runtime_doSpin", "internal/sync.throw", "internal/sync.runtime_nanotime", "internal/sync.runtime_SemacquireMutex", "sync/atomic.AddInt32", "(*internal/sync.Mutex).Unlock", "internal/race.ReleaseMerge", "(*internal/sync.Mutex).unlockSlow", "internal/sync.fatal", "internal/sync.runtime_Semrelease", "sync/atomic.StoreUint32"], unfollowed := true, recurses := true, plainKeys := false, apart := false, narrowed := true }
def CoverPartsUptoSaid : Prop := coverPartsUptoRow.holds Try.pinned (OpenSpec.upto coverPartsSpec)

/-- 'gridironlaw16.CoverAll', WHERE WHAT IT READS IS OF BULK AT MOST 1048576: true; the input reads as it did. -/
def coverAllUptoRow : OpenClaim := { program := "ythkiljfjjnckaaa", sum := "782258267fb9f397a641f80d7846c181a33f4e3747f8e7e291f2f836ae840ce8", func := "gridiron/gridironlaw16.CoverAll", spec := "coverAll", inPlace := ["sync/atomic.LoadUint32", "(*internal/sync.Mutex).Lock", "internal/race.Disable", "sync/atomic.CompareAndSwapInt32", "internal/race.Enable", "internal/race.Acquire", "(*internal/sync.Mutex).lockSlow", "internal/sync.runtime_canSpin", "internal/sync.runtime_doSpin", "internal/sync.throw", "internal/sync.runtime_nanotime", "internal/sync.runtime_SemacquireMutex", "sync/atomic.AddInt32", "(*internal/sync.Mutex).Unlock", "internal/race.ReleaseMerge", "(*internal/sync.Mutex).unlockSlow", "internal/sync.fatal", "internal/sync.runtime_Semrelease", "sync/atomic.StoreUint32"], unfollowed := true, recurses := true, plainKeys := false, apart := false, narrowed := true }
def CoverAllUptoSaid : Prop := coverAllUptoRow.holds Try.pinned (OpenSpec.upto coverAllSpec)

end Rows
end Go.Proofs.Ythkiljfjjnckaaa
