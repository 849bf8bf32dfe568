/-
  No cell of these rows narrows 'for every input' (looked for: loops, veiled, ifaces, maps, wideKeys, modest, calm, conditions, laid).
  DERIVED. THE GIVEN ROWS OF THIS SEAT. 10 by the template 'for every input the law returns true; each argument reads behind the call as it read before'; 0 by the template 'total and deterministic' (their statements: YtkhgglafnjfiaaaTotals.lean).
  GIVEN WITH THE SEED: the statements are not yours to turn. If you find one false, say at which input.
  Laid BY PROGRAM, IN A SANDBOX (cutbox-rows.mjs): the forced cells as the released guide's own fill.sh prints them over the translation bdbb5f6c38b3529c… (all of the seat's roots in one cut). By AI agents, Wed Nov 11 2026. No macro, syntax, notation, axiom, sorry.
-/
import Derived.Test.YtkhgglafnjfiaaaChecked
import GoSem.Claim
import GoSem.ClaimJoined
import GoSem.ClaimMapViews
import Derived.JoinedTies
import Derived.KernelRfl
namespace Go.Proofs.Ytkhgglafnjfiaaa
/- THE CELL 'sum', in the pinned program and in every row, IS THE sha256 OF THE DUMP (.gsa) THAT YtkhgglafnjfiaaaProg.lean LOADS. Nothing in Lean hashes anything: it is a label: what it is worth is what the hold of that sum in a sandbox is worth. -/
noncomputable def Try.pinned : Pinned := { name := "ytkhgglafnjfiaaa", sum := "bdbb5f6c38b3529ced4993a79f1e8f55a03fb85166ec878420c850bf2bffabf2", checked := Try.checked }
namespace Rows
def none {H : Type} : Left H := { results := [], args := [] }

/-- 'gridironlaw20.CarryTells': WHATEVER THE INPUT: true; the input reads as it did. -/
def carryTellsSpec : ChangeSpec := { name := "carryTells", fn := fun _ => fun
  | [d1, d2, d3] => { results := [.lit (.bool true)], args := [d1, d2, d3] }
  | _ => none }
def carryTellsRow : OpenClaim := { program := "ytkhgglafnjfiaaa", sum := "bdbb5f6c38b3529ced4993a79f1e8f55a03fb85166ec878420c850bf2bffabf2", func := "gridiron/gridironlaw20.CarryTells", spec := "carryTells", apart := false }
def CarryTellsSaid : Prop := carryTellsRow.holds Try.pinned (OpenSpec.ofChange carryTellsSpec)

/-- ITS FALSE NEIGHBOUR: 'it returns false'. Refute it at one input. -/
def carryTellsWrong : ChangeSpec := { name := "carryTells", fn := fun _ => fun
  | [d1, d2, d3] => { results := [.lit (.bool false)], args := [d1, d2, d3] }
  | _ => none }
def CarryTellsWrongFalsely : Prop := carryTellsRow.holds Try.pinned (OpenSpec.ofChange carryTellsWrong)

/-- 'gridironlaw20.CarrySet': WHATEVER THE INPUT: true; the input reads as it did. -/
def carrySetSpec : ChangeSpec := { name := "carrySet", fn := fun _ => fun
  | [d1, d2, d3] => { results := [.lit (.bool true)], args := [d1, d2, d3] }
  | _ => none }
def carrySetRow : OpenClaim := { program := "ytkhgglafnjfiaaa", sum := "bdbb5f6c38b3529ced4993a79f1e8f55a03fb85166ec878420c850bf2bffabf2", func := "gridiron/gridironlaw20.CarrySet", spec := "carrySet", apart := false }
def CarrySetSaid : Prop := carrySetRow.holds Try.pinned (OpenSpec.ofChange carrySetSpec)

/-- ITS FALSE NEIGHBOUR: 'it returns false'. Refute it at one input. -/
def carrySetWrong : ChangeSpec := { name := "carrySet", fn := fun _ => fun
  | [d1, d2, d3] => { results := [.lit (.bool false)], args := [d1, d2, d3] }
  | _ => none }
def CarrySetWrongFalsely : Prop := carrySetRow.holds Try.pinned (OpenSpec.ofChange carrySetWrong)

/-- 'gridironlaw20.CarryOwn': WHATEVER THE INPUT: true; the input reads as it did. -/
def carryOwnSpec : ChangeSpec := { name := "carryOwn", fn := fun _ => fun
  | [d] => { results := [.lit (.bool true)], args := [d] }
  | _ => none }
def carryOwnRow : OpenClaim := { program := "ytkhgglafnjfiaaa", sum := "bdbb5f6c38b3529ced4993a79f1e8f55a03fb85166ec878420c850bf2bffabf2", func := "gridiron/gridironlaw20.CarryOwn", spec := "carryOwn", apart := false }
def CarryOwnSaid : Prop := carryOwnRow.holds Try.pinned (OpenSpec.ofChange carryOwnSpec)

/-- ITS FALSE NEIGHBOUR: 'it returns false'. Refute it at one input. -/
def carryOwnWrong : ChangeSpec := { name := "carryOwn", fn := fun _ => fun
  | [d] => { results := [.lit (.bool false)], args := [d] }
  | _ => none }
def CarryOwnWrongFalsely : Prop := carryOwnRow.holds Try.pinned (OpenSpec.ofChange carryOwnWrong)

/-- 'gridironlaw20.CarryKinds': WHATEVER THE INPUT: true; the input reads as it did. -/
def carryKindsSpec : ChangeSpec := { name := "carryKinds", fn := fun _ => fun
  | [d] => { results := [.lit (.bool true)], args := [d] }
  | _ => none }
def carryKindsRow : OpenClaim := { program := "ytkhgglafnjfiaaa", sum := "bdbb5f6c38b3529ced4993a79f1e8f55a03fb85166ec878420c850bf2bffabf2", func := "gridiron/gridironlaw20.CarryKinds", spec := "carryKinds", apart := false }
def CarryKindsSaid : Prop := carryKindsRow.holds Try.pinned (OpenSpec.ofChange carryKindsSpec)

/-- ITS FALSE NEIGHBOUR: 'it returns false'. Refute it at one input. -/
def carryKindsWrong : ChangeSpec := { name := "carryKinds", fn := fun _ => fun
  | [d] => { results := [.lit (.bool false)], args := [d] }
  | _ => none }
def CarryKindsWrongFalsely : Prop := carryKindsRow.holds Try.pinned (OpenSpec.ofChange carryKindsWrong)

/-- 'gridironlaw20.CarryOrder': WHATEVER THE INPUT: true; the input reads as it did. -/
def carryOrderSpec : ChangeSpec := { name := "carryOrder", fn := fun _ => fun
  | [d] => { results := [.lit (.bool true)], args := [d] }
  | _ => none }
def carryOrderRow : OpenClaim := { program := "ytkhgglafnjfiaaa", sum := "bdbb5f6c38b3529ced4993a79f1e8f55a03fb85166ec878420c850bf2bffabf2", func := "gridiron/gridironlaw20.CarryOrder", spec := "carryOrder", apart := false }
def CarryOrderSaid : Prop := carryOrderRow.holds Try.pinned (OpenSpec.ofChange carryOrderSpec)

/-- ITS FALSE NEIGHBOUR: 'it returns false'. Refute it at one input. -/
def carryOrderWrong : ChangeSpec := { name := "carryOrder", fn := fun _ => fun
  | [d] => { results := [.lit (.bool false)], args := [d] }
  | _ => none }
def CarryOrderWrongFalsely : Prop := carryOrderRow.holds Try.pinned (OpenSpec.ofChange carryOrderWrong)

/-- 'gridironlaw22.HalfParts': WHATEVER THE INPUT: true; the input reads as it did. -/
def halfPartsSpec : ChangeSpec := { name := "halfParts", fn := fun _ => fun
  | [d] => { results := [.lit (.bool true)], args := [d] }
  | _ => none }
def halfPartsRow : OpenClaim := { program := "ytkhgglafnjfiaaa", sum := "bdbb5f6c38b3529ced4993a79f1e8f55a03fb85166ec878420c850bf2bffabf2", func := "gridiron/gridironlaw22.HalfParts", spec := "halfParts", unfollowed := true, recurses := true, apart := false }
def HalfPartsSaid : Prop := halfPartsRow.holds Try.pinned (OpenSpec.ofChange halfPartsSpec)

/-- ITS FALSE NEIGHBOUR: 'it returns false'. Refute it at one input. -/
def halfPartsWrong : ChangeSpec := { name := "halfParts", fn := fun _ => fun
  | [d] => { results := [.lit (.bool false)], args := [d] }
  | _ => none }
def HalfPartsWrongFalsely : Prop := halfPartsRow.holds Try.pinned (OpenSpec.ofChange halfPartsWrong)

/-- 'gridironlaw22.HalfTells': WHATEVER THE INPUT: true; the input reads as it did. -/
def halfTellsSpec : ChangeSpec := { name := "halfTells", fn := fun _ => fun
  | [d] => { results := [.lit (.bool true)], args := [d] }
  | _ => none }
def halfTellsRow : OpenClaim := { program := "ytkhgglafnjfiaaa", sum := "bdbb5f6c38b3529ced4993a79f1e8f55a03fb85166ec878420c850bf2bffabf2", func := "gridiron/gridironlaw22.HalfTells", spec := "halfTells", unfollowed := true, recurses := true, apart := false }
def HalfTellsSaid : Prop := halfTellsRow.holds Try.pinned (OpenSpec.ofChange halfTellsSpec)

/-- ITS FALSE NEIGHBOUR: 'it returns false'. Refute it at one input. -/
def halfTellsWrong : ChangeSpec := { name := "halfTells", fn := fun _ => fun
  | [d] => { results := [.lit (.bool false)], args := [d] }
  | _ => none }
def HalfTellsWrongFalsely : Prop := halfTellsRow.holds Try.pinned (OpenSpec.ofChange halfTellsWrong)

/-- 'gridironlaw22.HalfOrder': WHATEVER THE INPUT: true; the input reads as it did. -/
def halfOrderSpec : ChangeSpec := { name := "halfOrder", fn := fun _ => fun
  | [d] => { results := [.lit (.bool true)], args := [d] }
  | _ => none }
def halfOrderRow : OpenClaim := { program := "ytkhgglafnjfiaaa", sum := "bdbb5f6c38b3529ced4993a79f1e8f55a03fb85166ec878420c850bf2bffabf2", func := "gridiron/gridironlaw22.HalfOrder", spec := "halfOrder", unfollowed := true, recurses := true, apart := false }
def HalfOrderSaid : Prop := halfOrderRow.holds Try.pinned (OpenSpec.ofChange halfOrderSpec)

/-- ITS FALSE NEIGHBOUR: 'it returns false'. Refute it at one input. -/
def halfOrderWrong : ChangeSpec := { name := "halfOrder", fn := fun _ => fun
  | [d] => { results := [.lit (.bool false)], args := [d] }
  | _ => none }
def HalfOrderWrongFalsely : Prop := halfOrderRow.holds Try.pinned (OpenSpec.ofChange halfOrderWrong)

/-- 'gridironlaw22.HalfNone': WHATEVER THE INPUT: true; the input reads as it did. -/
def halfNoneSpec : ChangeSpec := { name := "halfNone", fn := fun _ => fun
  | [d] => { results := [.lit (.bool true)], args := [d] }
  | _ => none }
def halfNoneRow : OpenClaim := { program := "ytkhgglafnjfiaaa", sum := "bdbb5f6c38b3529ced4993a79f1e8f55a03fb85166ec878420c850bf2bffabf2", func := "gridiron/gridironlaw22.HalfNone", spec := "halfNone", unfollowed := true, recurses := true, apart := false }
def HalfNoneSaid : Prop := halfNoneRow.holds Try.pinned (OpenSpec.ofChange halfNoneSpec)

/-- ITS FALSE NEIGHBOUR: 'it returns false'. Refute it at one input. -/
def halfNoneWrong : ChangeSpec := { name := "halfNone", fn := fun _ => fun
  | [d] => { results := [.lit (.bool false)], args := [d] }
  | _ => none }
def HalfNoneWrongFalsely : Prop := halfNoneRow.holds Try.pinned (OpenSpec.ofChange halfNoneWrong)

/-- 'gridironlaw22.HalfBound': WHATEVER THE INPUT: true; the input reads as it did. -/
def halfBoundSpec : ChangeSpec := { name := "halfBound", fn := fun _ => fun
  | [d] => { results := [.lit (.bool true)], args := [d] }
  | _ => none }
def halfBoundRow : OpenClaim := { program := "ytkhgglafnjfiaaa", sum := "bdbb5f6c38b3529ced4993a79f1e8f55a03fb85166ec878420c850bf2bffabf2", func := "gridiron/gridironlaw22.HalfBound", spec := "halfBound", unfollowed := true, recurses := true, apart := false }
def HalfBoundSaid : Prop := halfBoundRow.holds Try.pinned (OpenSpec.ofChange halfBoundSpec)

/-- ITS FALSE NEIGHBOUR: 'it returns false'. Refute it at one input. -/
def halfBoundWrong : ChangeSpec := { name := "halfBound", fn := fun _ => fun
  | [d] => { results := [.lit (.bool false)], args := [d] }
  | _ => none }
def HalfBoundWrongFalsely : Prop := halfBoundRow.holds Try.pinned (OpenSpec.ofChange halfBoundWrong)

/- THE SECOND FORM. 'bulk': how many values and letters a reading holds, each counted each time it is reached (what is shared counts as often as it is met; a slice's spare places count too). A statement '..UptoSaid' is the law's where the arguments, and the package variables that the reading takes, are together of bulk at most 1048576: NARROWER than '..Said'. Prove '..Said' where nothing that the law and all that it calls make is longer than what came in: it says more and counts as full. Else prove '..UptoSaid'. A law counts once. -/
mutual
def uptoBulk {H : Type} : DataW H → Nat
  | .lit (.string bytes) => bytes.length + 1
  | .lit _ => 1
  | .nil => 1
  | .ptr d => uptoBulk d + 1
  | .slice elems spare => uptoBulkAll elems + uptoBulkAll spare + 1
  | .agg parts => uptoBulkAll parts + 1
  | .iface _ d => uptoBulk d + 1
  | .map entries => uptoBulkEntries entries + 1
  | .held _ => 1
def uptoBulkAll {H : Type} : List (DataW H) → Nat
  | [] => 0
  | d :: r => uptoBulk d + uptoBulkAll r
def uptoBulkEntries {H : Type} : List (Lit × DataW H) → Nat
  | [] => 0
  | x :: r => uptoBulkEntry x + uptoBulkEntries r
def uptoBulkEntry {H : Type} : Lit × DataW H → Nat
  | (.string bytes, d) => bytes.length + uptoBulk d + 1
  | (_, d) => uptoBulk d + 1
 end
def uptoSmall : (H : Type) → List (DataW H) → Bool := fun _ ds => decide (uptoBulkAll ds ≤ 1048576)
def OpenSpec.upto (s : _root_.Go.ChangeSpec) : _root_.Go.OpenSpec := { _root_.Go.OpenSpec.ofChange s with cond := some uptoSmall }

/-- 'gridironlaw20.CarryTells', WHERE WHAT IT READS IS OF BULK AT MOST 1048576: true; the input reads as it did. -/
def carryTellsUptoRow : OpenClaim := { program := "ytkhgglafnjfiaaa", sum := "bdbb5f6c38b3529ced4993a79f1e8f55a03fb85166ec878420c850bf2bffabf2", func := "gridiron/gridironlaw20.CarryTells", spec := "carryTells", apart := false, narrowed := true }
def CarryTellsUptoSaid : Prop := carryTellsUptoRow.holds Try.pinned (OpenSpec.upto carryTellsSpec)

/-- 'gridironlaw20.CarrySet', WHERE WHAT IT READS IS OF BULK AT MOST 1048576: true; the input reads as it did. -/
def carrySetUptoRow : OpenClaim := { program := "ytkhgglafnjfiaaa", sum := "bdbb5f6c38b3529ced4993a79f1e8f55a03fb85166ec878420c850bf2bffabf2", func := "gridiron/gridironlaw20.CarrySet", spec := "carrySet", apart := false, narrowed := true }
def CarrySetUptoSaid : Prop := carrySetUptoRow.holds Try.pinned (OpenSpec.upto carrySetSpec)

/-- 'gridironlaw20.CarryOwn', WHERE WHAT IT READS IS OF BULK AT MOST 1048576: true; the input reads as it did. -/
def carryOwnUptoRow : OpenClaim := { program := "ytkhgglafnjfiaaa", sum := "bdbb5f6c38b3529ced4993a79f1e8f55a03fb85166ec878420c850bf2bffabf2", func := "gridiron/gridironlaw20.CarryOwn", spec := "carryOwn", apart := false, narrowed := true }
def CarryOwnUptoSaid : Prop := carryOwnUptoRow.holds Try.pinned (OpenSpec.upto carryOwnSpec)

/-- 'gridironlaw20.CarryKinds', WHERE WHAT IT READS IS OF BULK AT MOST 1048576: true; the input reads as it did. -/
def carryKindsUptoRow : OpenClaim := { program := "ytkhgglafnjfiaaa", sum := "bdbb5f6c38b3529ced4993a79f1e8f55a03fb85166ec878420c850bf2bffabf2", func := "gridiron/gridironlaw20.CarryKinds", spec := "carryKinds", apart := false, narrowed := true }
def CarryKindsUptoSaid : Prop := carryKindsUptoRow.holds Try.pinned (OpenSpec.upto carryKindsSpec)

/-- 'gridironlaw20.CarryOrder', WHERE WHAT IT READS IS OF BULK AT MOST 1048576: true; the input reads as it did. -/
def carryOrderUptoRow : OpenClaim := { program := "ytkhgglafnjfiaaa", sum := "bdbb5f6c38b3529ced4993a79f1e8f55a03fb85166ec878420c850bf2bffabf2", func := "gridiron/gridironlaw20.CarryOrder", spec := "carryOrder", apart := false, narrowed := true }
def CarryOrderUptoSaid : Prop := carryOrderUptoRow.holds Try.pinned (OpenSpec.upto carryOrderSpec)

/-- 'gridironlaw22.HalfParts', WHERE WHAT IT READS IS OF BULK AT MOST 1048576: true; the input reads as it did. -/
def halfPartsUptoRow : OpenClaim := { program := "ytkhgglafnjfiaaa", sum := "bdbb5f6c38b3529ced4993a79f1e8f55a03fb85166ec878420c850bf2bffabf2", func := "gridiron/gridironlaw22.HalfParts", spec := "halfParts", unfollowed := true, recurses := true, apart := false, narrowed := true }
def HalfPartsUptoSaid : Prop := halfPartsUptoRow.holds Try.pinned (OpenSpec.upto halfPartsSpec)

/-- 'gridironlaw22.HalfTells', WHERE WHAT IT READS IS OF BULK AT MOST 1048576: true; the input reads as it did. -/
def halfTellsUptoRow : OpenClaim := { program := "ytkhgglafnjfiaaa", sum := "bdbb5f6c38b3529ced4993a79f1e8f55a03fb85166ec878420c850bf2bffabf2", func := "gridiron/gridironlaw22.HalfTells", spec := "halfTells", unfollowed := true, recurses := true, apart := false, narrowed := true }
def HalfTellsUptoSaid : Prop := halfTellsUptoRow.holds Try.pinned (OpenSpec.upto halfTellsSpec)

/-- 'gridironlaw22.HalfOrder', WHERE WHAT IT READS IS OF BULK AT MOST 1048576: true; the input reads as it did. -/
def halfOrderUptoRow : OpenClaim := { program := "ytkhgglafnjfiaaa", sum := "bdbb5f6c38b3529ced4993a79f1e8f55a03fb85166ec878420c850bf2bffabf2", func := "gridiron/gridironlaw22.HalfOrder", spec := "halfOrder", unfollowed := true, recurses := true, apart := false, narrowed := true }
def HalfOrderUptoSaid : Prop := halfOrderUptoRow.holds Try.pinned (OpenSpec.upto halfOrderSpec)

/-- 'gridironlaw22.HalfNone', WHERE WHAT IT READS IS OF BULK AT MOST 1048576: true; the input reads as it did. -/
def halfNoneUptoRow : OpenClaim := { program := "ytkhgglafnjfiaaa", sum := "bdbb5f6c38b3529ced4993a79f1e8f55a03fb85166ec878420c850bf2bffabf2", func := "gridiron/gridironlaw22.HalfNone", spec := "halfNone", unfollowed := true, recurses := true, apart := false, narrowed := true }
def HalfNoneUptoSaid : Prop := halfNoneUptoRow.holds Try.pinned (OpenSpec.upto halfNoneSpec)

/-- 'gridironlaw22.HalfBound', WHERE WHAT IT READS IS OF BULK AT MOST 1048576: true; the input reads as it did. -/
def halfBoundUptoRow : OpenClaim := { program := "ytkhgglafnjfiaaa", sum := "bdbb5f6c38b3529ced4993a79f1e8f55a03fb85166ec878420c850bf2bffabf2", func := "gridiron/gridironlaw22.HalfBound", spec := "halfBound", unfollowed := true, recurses := true, apart := false, narrowed := true }
def HalfBoundUptoSaid : Prop := halfBoundUptoRow.holds Try.pinned (OpenSpec.upto halfBoundSpec)

end Rows
end Go.Proofs.Ytkhgglafnjfiaaa
