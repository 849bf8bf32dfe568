/-
  No cell of these rows narrows 'for every input' (looked for: loops, veiled, ifaces, maps, wideKeys, modest, calm, conditions, laid).
  DERIVED. THE GIVEN ROWS OF THIS SEAT. 8 by the template 'for every input the law returns true; each argument reads behind the call as it read before'; 0 by the template 'total and deterministic' (their statements: YthnbgfnclpkdjaaGreatTotals.lean).
  GIVEN WITH THE SEED: the statements are not yours to turn. If you find one false, say at which input.
  Laid BY PROGRAM, IN A SANDBOX (cutbox-rows.mjs): the forced cells as the released guide's own fill.sh prints them over the translation 1f2a413740b3db49… (all of the seat's roots in one cut). By AI agents, Wed Nov 11 2026. No macro, syntax, notation, axiom, sorry.
-/
import Derived.Test.YthnbgfnclpkdjaaGreatChecked
import GoSem.Claim
import GoSem.ClaimJoined
import GoSem.ClaimMapViews
import Derived.JoinedTies
import Derived.KernelRfl
namespace Go.Proofs.YthnbgfnclpkdjaaGreat
/- THE CELL 'sum', in the pinned program and in every row, IS THE sha256 OF THE DUMP (.gsa) THAT YthnbgfnclpkdjaaGreatProg.lean LOADS. Nothing in Lean hashes anything: it is a label: what it is worth is what the hold of that sum in a sandbox is worth. -/
noncomputable def Tryz.pinned : Pinned := { name := "ythnbgfnclpkdjaagreat", sum := "1f2a413740b3db49af6da9233711861afcca0765c930ea7afa0390abb7015399", checked := Tryz.checked }
namespace Rows
def none {H : Type} : Left H := { results := [], args := [] }

/-- 'gridironlaw26.ModelCounts': WHATEVER THE INPUT: true; the input reads as it did. -/
def modelCountsSpec : ChangeSpec := { name := "modelCounts", fn := fun _ => fun
  | [d1, d2] => { results := [.lit (.bool true)], args := [d1, d2] }
  | _ => none }
def modelCountsRow : OpenClaim := { program := "ythnbgfnclpkdjaagreat", sum := "1f2a413740b3db49af6da9233711861afcca0765c930ea7afa0390abb7015399", func := "gridiron/gridironlaw26.ModelCounts", spec := "modelCounts", inPlace := ["math/bits.Add64"], unfollowed := true, recurses := true, plainKeys := false, apart := false }
def ModelCountsSaid : Prop := modelCountsRow.holds Tryz.pinned (OpenSpec.ofChange modelCountsSpec)

/-- ITS FALSE NEIGHBOUR: 'it returns false'. Refute it at one input. -/
def modelCountsWrong : ChangeSpec := { name := "modelCounts", fn := fun _ => fun
  | [d1, d2] => { results := [.lit (.bool false)], args := [d1, d2] }
  | _ => none }
def ModelCountsWrongFalsely : Prop := modelCountsRow.holds Tryz.pinned (OpenSpec.ofChange modelCountsWrong)

/-- 'gridironlaw26.ModelPoints': WHATEVER THE INPUT: true; the input reads as it did. -/
def modelPointsSpec : ChangeSpec := { name := "modelPoints", fn := fun _ => fun
  | [d1, d2] => { results := [.lit (.bool true)], args := [d1, d2] }
  | _ => none }
def modelPointsRow : OpenClaim := { program := "ythnbgfnclpkdjaagreat", sum := "1f2a413740b3db49af6da9233711861afcca0765c930ea7afa0390abb7015399", func := "gridiron/gridironlaw26.ModelPoints", spec := "modelPoints", inPlace := ["math/bits.Add64"], unfollowed := true, recurses := true, plainKeys := false, apart := false }
def ModelPointsSaid : Prop := modelPointsRow.holds Tryz.pinned (OpenSpec.ofChange modelPointsSpec)

/-- ITS FALSE NEIGHBOUR: 'it returns false'. Refute it at one input. -/
def modelPointsWrong : ChangeSpec := { name := "modelPoints", fn := fun _ => fun
  | [d1, d2] => { results := [.lit (.bool false)], args := [d1, d2] }
  | _ => none }
def ModelPointsWrongFalsely : Prop := modelPointsRow.holds Tryz.pinned (OpenSpec.ofChange modelPointsWrong)

/-- 'gridironlaw26.ModelSky': WHATEVER THE INPUT: true; the input reads as it did. -/
def modelSkySpec : ChangeSpec := { name := "modelSky", fn := fun _ => fun
  | [d] => { results := [.lit (.bool true)], args := [d] }
  | _ => none }
def modelSkyRow : OpenClaim := { program := "ythnbgfnclpkdjaagreat", sum := "1f2a413740b3db49af6da9233711861afcca0765c930ea7afa0390abb7015399", func := "gridiron/gridironlaw26.ModelSky", spec := "modelSky", inPlace := ["math/bits.Add64"], unfollowed := true, recurses := true, plainKeys := false, apart := false }
def ModelSkySaid : Prop := modelSkyRow.holds Tryz.pinned (OpenSpec.ofChange modelSkySpec)

/-- ITS FALSE NEIGHBOUR: 'it returns false'. Refute it at one input. -/
def modelSkyWrong : ChangeSpec := { name := "modelSky", fn := fun _ => fun
  | [d] => { results := [.lit (.bool false)], args := [d] }
  | _ => none }
def ModelSkyWrongFalsely : Prop := modelSkyRow.holds Tryz.pinned (OpenSpec.ofChange modelSkyWrong)

/-- 'gridironlaw26.ModelTells': WHATEVER THE INPUT: true; the input reads as it did. -/
def modelTellsSpec : ChangeSpec := { name := "modelTells", fn := fun _ => fun
  | [d1, d2] => { results := [.lit (.bool true)], args := [d1, d2] }
  | _ => none }
def modelTellsRow : OpenClaim := { program := "ythnbgfnclpkdjaagreat", sum := "1f2a413740b3db49af6da9233711861afcca0765c930ea7afa0390abb7015399", func := "gridiron/gridironlaw26.ModelTells", spec := "modelTells", inPlace := ["math/bits.Add64"], unfollowed := true, recurses := true, plainKeys := false, apart := false }
def ModelTellsSaid : Prop := modelTellsRow.holds Tryz.pinned (OpenSpec.ofChange modelTellsSpec)

/-- ITS FALSE NEIGHBOUR: 'it returns false'. Refute it at one input. -/
def modelTellsWrong : ChangeSpec := { name := "modelTells", fn := fun _ => fun
  | [d1, d2] => { results := [.lit (.bool false)], args := [d1, d2] }
  | _ => none }
def ModelTellsWrongFalsely : Prop := modelTellsRow.holds Tryz.pinned (OpenSpec.ofChange modelTellsWrong)

/-- 'gridironlaw26.ModelRefused': WHATEVER THE INPUT: true; the input reads as it did. -/
def modelRefusedSpec : ChangeSpec := { name := "modelRefused", fn := fun _ => fun
  | [d1, d2, d3] => { results := [.lit (.bool true)], args := [d1, d2, d3] }
  | _ => none }
def modelRefusedRow : OpenClaim := { program := "ythnbgfnclpkdjaagreat", sum := "1f2a413740b3db49af6da9233711861afcca0765c930ea7afa0390abb7015399", func := "gridiron/gridironlaw26.ModelRefused", spec := "modelRefused", inPlace := ["math/bits.Add64"], unfollowed := true, recurses := true, plainKeys := false, apart := false }
def ModelRefusedSaid : Prop := modelRefusedRow.holds Tryz.pinned (OpenSpec.ofChange modelRefusedSpec)

/-- ITS FALSE NEIGHBOUR: 'it returns false'. Refute it at one input. -/
def modelRefusedWrong : ChangeSpec := { name := "modelRefused", fn := fun _ => fun
  | [d1, d2, d3] => { results := [.lit (.bool false)], args := [d1, d2, d3] }
  | _ => none }
def ModelRefusedWrongFalsely : Prop := modelRefusedRow.holds Tryz.pinned (OpenSpec.ofChange modelRefusedWrong)

/-- 'gridironlaw26.ModelTable': WHATEVER THE INPUT: true; the input reads as it did. -/
def modelTableSpec : ChangeSpec := { name := "modelTable", fn := fun _ => fun
  | [d1, d2, d3] => { results := [.lit (.bool true)], args := [d1, d2, d3] }
  | _ => none }
def modelTableRow : OpenClaim := { program := "ythnbgfnclpkdjaagreat", sum := "1f2a413740b3db49af6da9233711861afcca0765c930ea7afa0390abb7015399", func := "gridiron/gridironlaw26.ModelTable", spec := "modelTable", inPlace := ["math/bits.Add64"], unfollowed := true, recurses := true, plainKeys := false, apart := false }
def ModelTableSaid : Prop := modelTableRow.holds Tryz.pinned (OpenSpec.ofChange modelTableSpec)

/-- ITS FALSE NEIGHBOUR: 'it returns false'. Refute it at one input. -/
def modelTableWrong : ChangeSpec := { name := "modelTable", fn := fun _ => fun
  | [d1, d2, d3] => { results := [.lit (.bool false)], args := [d1, d2, d3] }
  | _ => none }
def ModelTableWrongFalsely : Prop := modelTableRow.holds Tryz.pinned (OpenSpec.ofChange modelTableWrong)

/-- 'gridironlaw26.ModelNone': WHATEVER THE INPUT: true; the input reads as it did. -/
def modelNoneSpec : ChangeSpec := { name := "modelNone", fn := fun _ => fun
  | [d1, d2] => { results := [.lit (.bool true)], args := [d1, d2] }
  | _ => none }
def modelNoneRow : OpenClaim := { program := "ythnbgfnclpkdjaagreat", sum := "1f2a413740b3db49af6da9233711861afcca0765c930ea7afa0390abb7015399", func := "gridiron/gridironlaw26.ModelNone", spec := "modelNone", inPlace := ["math/bits.Add64"], unfollowed := true, recurses := true, plainKeys := false, apart := false }
def ModelNoneSaid : Prop := modelNoneRow.holds Tryz.pinned (OpenSpec.ofChange modelNoneSpec)

/-- ITS FALSE NEIGHBOUR: 'it returns false'. Refute it at one input. -/
def modelNoneWrong : ChangeSpec := { name := "modelNone", fn := fun _ => fun
  | [d1, d2] => { results := [.lit (.bool false)], args := [d1, d2] }
  | _ => none }
def ModelNoneWrongFalsely : Prop := modelNoneRow.holds Tryz.pinned (OpenSpec.ofChange modelNoneWrong)

/-- 'gridironlaw26.ModelOthers': WHATEVER THE INPUT: true; the input reads as it did. -/
def modelOthersSpec : ChangeSpec := { name := "modelOthers", fn := fun _ => fun
  | [d1, d2] => { results := [.lit (.bool true)], args := [d1, d2] }
  | _ => none }
def modelOthersRow : OpenClaim := { program := "ythnbgfnclpkdjaagreat", sum := "1f2a413740b3db49af6da9233711861afcca0765c930ea7afa0390abb7015399", func := "gridiron/gridironlaw26.ModelOthers", spec := "modelOthers", inPlace := ["math/bits.Add64", "sync/atomic.LoadUint32", "(*internal/sync.Mutex).Lock", "internal/race.Disable", "sync/atomic.CompareAndSwapInt32", "internal/race.Enable", "internal/race.Acquire", "(*internal/sync.Mutex).lockSlow", "internal/sync.runtime_canSpin", "internal/sync.runtime_doSpin", "internal/sync.throw", "internal/sync.runtime_nanotime", "internal/sync.runtime_SemacquireMutex", "sync/atomic.AddInt32", "(*internal/sync.Mutex).Unlock", "internal/race.ReleaseMerge", "(*internal/sync.Mutex).unlockSlow", "internal/sync.fatal", "internal/sync.runtime_Semrelease", "sync/atomic.StoreUint32"], unfollowed := true, recurses := true, plainKeys := false, apart := false }
def ModelOthersSaid : Prop := modelOthersRow.holds Tryz.pinned (OpenSpec.ofChange modelOthersSpec)

/-- ITS FALSE NEIGHBOUR: 'it returns false'. Refute it at one input. -/
def modelOthersWrong : ChangeSpec := { name := "modelOthers", fn := fun _ => fun
  | [d1, d2] => { results := [.lit (.bool false)], args := [d1, d2] }
  | _ => none }
def ModelOthersWrongFalsely : Prop := modelOthersRow.holds Tryz.pinned (OpenSpec.ofChange modelOthersWrong)

/- THE SECOND FORM. 'bulk': how many values and letters a reading holds, each counted each time it is reached (what is shared counts as often as it is met; a slice's spare places count too). A statement '..UptoSaid' is the law's where the arguments, and the package variables that the reading takes, are together of bulk at most 1048576: NARROWER than '..Said'. Prove '..Said' where nothing that the law and all that it calls make is longer than what came in: it says more and counts as full. Else prove '..UptoSaid'. A law counts once. -/
mutual
def uptoBulk {H : Type} : DataW H → Nat
  | .lit (.string bytes) => bytes.length + 1
  | .lit _ => 1
  | .nil => 1
  | .ptr d => uptoBulk d + 1
  | .slice elems spare => uptoBulkAll elems + uptoBulkAll spare + 1
  | .agg parts => uptoBulkAll parts + 1
  | .iface _ d => uptoBulk d + 1
  | .map entries => uptoBulkEntries entries + 1
  | .held _ => 1
def uptoBulkAll {H : Type} : List (DataW H) → Nat
  | [] => 0
  | d :: r => uptoBulk d + uptoBulkAll r
def uptoBulkEntries {H : Type} : List (Lit × DataW H) → Nat
  | [] => 0
  | x :: r => uptoBulkEntry x + uptoBulkEntries r
def uptoBulkEntry {H : Type} : Lit × DataW H → Nat
  | (.string bytes, d) => bytes.length + uptoBulk d + 1
  | (_, d) => uptoBulk d + 1
 end
def uptoSmall : (H : Type) → List (DataW H) → Bool := fun _ ds => decide (uptoBulkAll ds ≤ 1048576)
def OpenSpec.upto (s : _root_.Go.ChangeSpec) : _root_.Go.OpenSpec := { _root_.Go.OpenSpec.ofChange s with cond := some uptoSmall }

/-- 'gridironlaw26.ModelCounts', WHERE WHAT IT READS IS OF BULK AT MOST 1048576: true; the input reads as it did. -/
def modelCountsUptoRow : OpenClaim := { program := "ythnbgfnclpkdjaagreat", sum := "1f2a413740b3db49af6da9233711861afcca0765c930ea7afa0390abb7015399", func := "gridiron/gridironlaw26.ModelCounts", spec := "modelCounts", inPlace := ["math/bits.Add64"], unfollowed := true, recurses := true, plainKeys := false, apart := false, narrowed := true }
def ModelCountsUptoSaid : Prop := modelCountsUptoRow.holds Tryz.pinned (OpenSpec.upto modelCountsSpec)

/-- 'gridironlaw26.ModelPoints', WHERE WHAT IT READS IS OF BULK AT MOST 1048576: true; the input reads as it did. -/
def modelPointsUptoRow : OpenClaim := { program := "ythnbgfnclpkdjaagreat", sum := "1f2a413740b3db49af6da9233711861afcca0765c930ea7afa0390abb7015399", func := "gridiron/gridironlaw26.ModelPoints", spec := "modelPoints", inPlace := ["math/bits.Add64"], unfollowed := true, recurses := true, plainKeys := false, apart := false, narrowed := true }
def ModelPointsUptoSaid : Prop := modelPointsUptoRow.holds Tryz.pinned (OpenSpec.upto modelPointsSpec)

/-- 'gridironlaw26.ModelSky', WHERE WHAT IT READS IS OF BULK AT MOST 1048576: true; the input reads as it did. -/
def modelSkyUptoRow : OpenClaim := { program := "ythnbgfnclpkdjaagreat", sum := "1f2a413740b3db49af6da9233711861afcca0765c930ea7afa0390abb7015399", func := "gridiron/gridironlaw26.ModelSky", spec := "modelSky", inPlace := ["math/bits.Add64"], unfollowed := true, recurses := true, plainKeys := false, apart := false, narrowed := true }
def ModelSkyUptoSaid : Prop := modelSkyUptoRow.holds Tryz.pinned (OpenSpec.upto modelSkySpec)

/-- 'gridironlaw26.ModelTells', WHERE WHAT IT READS IS OF BULK AT MOST 1048576: true; the input reads as it did. -/
def modelTellsUptoRow : OpenClaim := { program := "ythnbgfnclpkdjaagreat", sum := "1f2a413740b3db49af6da9233711861afcca0765c930ea7afa0390abb7015399", func := "gridiron/gridironlaw26.ModelTells", spec := "modelTells", inPlace := ["math/bits.Add64"], unfollowed := true, recurses := true, plainKeys := false, apart := false, narrowed := true }
def ModelTellsUptoSaid : Prop := modelTellsUptoRow.holds Tryz.pinned (OpenSpec.upto modelTellsSpec)

/-- 'gridironlaw26.ModelRefused', WHERE WHAT IT READS IS OF BULK AT MOST 1048576: true; the input reads as it did. -/
def modelRefusedUptoRow : OpenClaim := { program := "ythnbgfnclpkdjaagreat", sum := "1f2a413740b3db49af6da9233711861afcca0765c930ea7afa0390abb7015399", func := "gridiron/gridironlaw26.ModelRefused", spec := "modelRefused", inPlace := ["math/bits.Add64"], unfollowed := true, recurses := true, plainKeys := false, apart := false, narrowed := true }
def ModelRefusedUptoSaid : Prop := modelRefusedUptoRow.holds Tryz.pinned (OpenSpec.upto modelRefusedSpec)

/-- 'gridironlaw26.ModelTable', WHERE WHAT IT READS IS OF BULK AT MOST 1048576: true; the input reads as it did. -/
def modelTableUptoRow : OpenClaim := { program := "ythnbgfnclpkdjaagreat", sum := "1f2a413740b3db49af6da9233711861afcca0765c930ea7afa0390abb7015399", func := "gridiron/gridironlaw26.ModelTable", spec := "modelTable", inPlace := ["math/bits.Add64"], unfollowed := true, recurses := true, plainKeys := false, apart := false, narrowed := true }
def ModelTableUptoSaid : Prop := modelTableUptoRow.holds Tryz.pinned (OpenSpec.upto modelTableSpec)

/-- 'gridironlaw26.ModelNone', WHERE WHAT IT READS IS OF BULK AT MOST 1048576: true; the input reads as it did. -/
def modelNoneUptoRow : OpenClaim := { program := "ythnbgfnclpkdjaagreat", sum := "1f2a413740b3db49af6da9233711861afcca0765c930ea7afa0390abb7015399", func := "gridiron/gridironlaw26.ModelNone", spec := "modelNone", inPlace := ["math/bits.Add64"], unfollowed := true, recurses := true, plainKeys := false, apart := false, narrowed := true }
def ModelNoneUptoSaid : Prop := modelNoneUptoRow.holds Tryz.pinned (OpenSpec.upto modelNoneSpec)

/-- 'gridironlaw26.ModelOthers', WHERE WHAT IT READS IS OF BULK AT MOST 1048576: true; the input reads as it did. -/
def modelOthersUptoRow : OpenClaim := { program := "ythnbgfnclpkdjaagreat", sum := "1f2a413740b3db49af6da9233711861afcca0765c930ea7afa0390abb7015399", func := "gridiron/gridironlaw26.ModelOthers", spec := "modelOthers", inPlace := ["math/bits.Add64", "sync/atomic.LoadUint32", "(*internal/sync.Mutex).Lock", "internal/race.Disable", "sync/atomic.CompareAndSwapInt32", "internal/race.Enable", "internal/race.Acquire", "(*internal/sync.Mutex).lockSlow", "internal/sync.runtime_canSpin", "internal/sync.runtime_doSpin", "internal/sync.throw", "internal/sync.runtime_nanotime", "internal/sync.runtime_SemacquireMutex", "sync/atomic.AddInt32", "(*internal/sync.Mutex).Unlock", "internal/race.ReleaseMerge", "(*internal/sync.Mutex).unlockSlow", "internal/sync.fatal", "internal/sync.runtime_Semrelease", "sync/atomic.StoreUint32"], unfollowed := true, recurses := true, plainKeys := false, apart := false, narrowed := true }
def ModelOthersUptoSaid : Prop := modelOthersUptoRow.holds Tryz.pinned (OpenSpec.upto modelOthersSpec)

end Rows
end Go.Proofs.YthnbgfnclpkdjaaGreat
