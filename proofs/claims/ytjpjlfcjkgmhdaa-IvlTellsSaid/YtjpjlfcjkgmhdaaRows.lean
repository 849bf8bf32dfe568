/-
  No cell of these rows narrows 'for every input' (looked for: loops, veiled, ifaces, maps, wideKeys, modest, calm, conditions, laid).
  DERIVED. THE GIVEN ROWS OF THIS SEAT. 5 by the template 'for every input the law returns true; each argument reads behind the call as it read before'; 0 by the template 'total and deterministic' (their statements: YtjpjlfcjkgmhdaaTotals.lean).
  GIVEN WITH THE SEED: the statements are not yours to turn. If you find one false, say at which input.
  Laid BY PROGRAM, IN A SANDBOX (cutbox-rows.mjs): the forced cells as the released guide's own fill.sh prints them over the translation b178762b68aae072… (all of the seat's roots in one cut). By AI agents, Wed Nov 11 2026. No macro, syntax, notation, axiom, sorry.
-/
import Derived.Test.YtjpjlfcjkgmhdaaChecked
import GoSem.Claim
import GoSem.ClaimJoined
import GoSem.ClaimMapViews
import Derived.JoinedTies
import Derived.KernelRfl
namespace Go.Proofs.Ytjpjlfcjkgmhdaa
/- THE CELL 'sum', in the pinned program and in every row, IS THE sha256 OF THE DUMP (.gsa) THAT YtjpjlfcjkgmhdaaProg.lean LOADS. Nothing in Lean hashes anything: it is a label: what it is worth is what the hold of that sum in a sandbox is worth. -/
noncomputable def Try.pinned : Pinned := { name := "ytjpjlfcjkgmhdaa", sum := "b178762b68aae072b10c8bb43c8628e1ec0aff1436327d63f260c9290e914302", checked := Try.checked }
namespace Rows
def none {H : Type} : Left H := { results := [], args := [] }

/-- 'gridironlaw09.IvlTurned': WHATEVER THE INPUT: true; the input reads as it did. -/
def ivlTurnedSpec : ChangeSpec := { name := "ivlTurned", fn := fun _ => fun
  | [d1, d2, d3] => { results := [.lit (.bool true)], args := [d1, d2, d3] }
  | _ => none }
def ivlTurnedRow : OpenClaim := { program := "ytjpjlfcjkgmhdaa", sum := "b178762b68aae072b10c8bb43c8628e1ec0aff1436327d63f260c9290e914302", func := "gridiron/gridironlaw09.IvlTurned", spec := "ivlTurned", unfollowed := true, recurses := true, apart := false }
def IvlTurnedSaid : Prop := ivlTurnedRow.holds Try.pinned (OpenSpec.ofChange ivlTurnedSpec)

/-- ITS FALSE NEIGHBOUR: 'it returns false'. Refute it at one input. -/
def ivlTurnedWrong : ChangeSpec := { name := "ivlTurned", fn := fun _ => fun
  | [d1, d2, d3] => { results := [.lit (.bool false)], args := [d1, d2, d3] }
  | _ => none }
def IvlTurnedWrongFalsely : Prop := ivlTurnedRow.holds Try.pinned (OpenSpec.ofChange ivlTurnedWrong)

/-- 'gridironlaw09.IvlWide': WHATEVER THE INPUT: true; the input reads as it did. -/
def ivlWideSpec : ChangeSpec := { name := "ivlWide", fn := fun _ => fun
  | [d1, d2, d3, d4, d5] => { results := [.lit (.bool true)], args := [d1, d2, d3, d4, d5] }
  | _ => none }
def ivlWideRow : OpenClaim := { program := "ytjpjlfcjkgmhdaa", sum := "b178762b68aae072b10c8bb43c8628e1ec0aff1436327d63f260c9290e914302", func := "gridiron/gridironlaw09.IvlWide", spec := "ivlWide", unfollowed := true, recurses := true, apart := false }
def IvlWideSaid : Prop := ivlWideRow.holds Try.pinned (OpenSpec.ofChange ivlWideSpec)

/-- ITS FALSE NEIGHBOUR: 'it returns false'. Refute it at one input. -/
def ivlWideWrong : ChangeSpec := { name := "ivlWide", fn := fun _ => fun
  | [d1, d2, d3, d4, d5] => { results := [.lit (.bool false)], args := [d1, d2, d3, d4, d5] }
  | _ => none }
def IvlWideWrongFalsely : Prop := ivlWideRow.holds Try.pinned (OpenSpec.ofChange ivlWideWrong)

/-- 'gridironlaw09.IvlTells': WHATEVER THE INPUT: true; the input reads as it did. -/
def ivlTellsSpec : ChangeSpec := { name := "ivlTells", fn := fun _ => fun
  | [d1, d2, d3] => { results := [.lit (.bool true)], args := [d1, d2, d3] }
  | _ => none }
def ivlTellsRow : OpenClaim := { program := "ytjpjlfcjkgmhdaa", sum := "b178762b68aae072b10c8bb43c8628e1ec0aff1436327d63f260c9290e914302", func := "gridiron/gridironlaw09.IvlTells", spec := "ivlTells", unfollowed := true, recurses := true, apart := false }
def IvlTellsSaid : Prop := ivlTellsRow.holds Try.pinned (OpenSpec.ofChange ivlTellsSpec)

/-- ITS FALSE NEIGHBOUR: 'it returns false'. Refute it at one input. -/
def ivlTellsWrong : ChangeSpec := { name := "ivlTells", fn := fun _ => fun
  | [d1, d2, d3] => { results := [.lit (.bool false)], args := [d1, d2, d3] }
  | _ => none }
def IvlTellsWrongFalsely : Prop := ivlTellsRow.holds Try.pinned (OpenSpec.ofChange ivlTellsWrong)

/-- 'gridironlaw09.IvlBound': WHATEVER THE INPUT: true; the input reads as it did. -/
def ivlBoundSpec : ChangeSpec := { name := "ivlBound", fn := fun _ => fun
  | [d1, d2, d3] => { results := [.lit (.bool true)], args := [d1, d2, d3] }
  | _ => none }
def ivlBoundRow : OpenClaim := { program := "ytjpjlfcjkgmhdaa", sum := "b178762b68aae072b10c8bb43c8628e1ec0aff1436327d63f260c9290e914302", func := "gridiron/gridironlaw09.IvlBound", spec := "ivlBound", unfollowed := true, recurses := true, apart := false }
def IvlBoundSaid : Prop := ivlBoundRow.holds Try.pinned (OpenSpec.ofChange ivlBoundSpec)

/-- ITS FALSE NEIGHBOUR: 'it returns false'. Refute it at one input. -/
def ivlBoundWrong : ChangeSpec := { name := "ivlBound", fn := fun _ => fun
  | [d1, d2, d3] => { results := [.lit (.bool false)], args := [d1, d2, d3] }
  | _ => none }
def IvlBoundWrongFalsely : Prop := ivlBoundRow.holds Try.pinned (OpenSpec.ofChange ivlBoundWrong)

/-- 'gridironlaw09.IvlWeak': WHATEVER THE INPUT: true; the input reads as it did. -/
def ivlWeakSpec : ChangeSpec := { name := "ivlWeak", fn := fun _ => fun
  | [d1, d2, d3] => { results := [.lit (.bool true)], args := [d1, d2, d3] }
  | _ => none }
def ivlWeakRow : OpenClaim := { program := "ytjpjlfcjkgmhdaa", sum := "b178762b68aae072b10c8bb43c8628e1ec0aff1436327d63f260c9290e914302", func := "gridiron/gridironlaw09.IvlWeak", spec := "ivlWeak", unfollowed := true, recurses := true, apart := false }
def IvlWeakSaid : Prop := ivlWeakRow.holds Try.pinned (OpenSpec.ofChange ivlWeakSpec)

/-- ITS FALSE NEIGHBOUR: 'it returns false'. Refute it at one input. -/
def ivlWeakWrong : ChangeSpec := { name := "ivlWeak", fn := fun _ => fun
  | [d1, d2, d3] => { results := [.lit (.bool false)], args := [d1, d2, d3] }
  | _ => none }
def IvlWeakWrongFalsely : Prop := ivlWeakRow.holds Try.pinned (OpenSpec.ofChange ivlWeakWrong)

/- THE SECOND FORM. 'bulk': how many values and letters a reading holds, each counted each time it is reached (what is shared counts as often as it is met; a slice's spare places count too). A statement '..UptoSaid' is the law's where the arguments, and the package variables that the reading takes, are together of bulk at most 1048576: NARROWER than '..Said'. Prove '..Said' where nothing that the law and all that it calls make is longer than what came in: it says more and counts as full. Else prove '..UptoSaid'. A law counts once. -/
mutual
def uptoBulk {H : Type} : DataW H → Nat
  | .lit (.string bytes) => bytes.length + 1
  | .lit _ => 1
  | .nil => 1
  | .ptr d => uptoBulk d + 1
  | .slice elems spare => uptoBulkAll elems + uptoBulkAll spare + 1
  | .agg parts => uptoBulkAll parts + 1
  | .iface _ d => uptoBulk d + 1
  | .map entries => uptoBulkEntries entries + 1
  | .held _ => 1
def uptoBulkAll {H : Type} : List (DataW H) → Nat
  | [] => 0
  | d :: r => uptoBulk d + uptoBulkAll r
def uptoBulkEntries {H : Type} : List (Lit × DataW H) → Nat
  | [] => 0
  | x :: r => uptoBulkEntry x + uptoBulkEntries r
def uptoBulkEntry {H : Type} : Lit × DataW H → Nat
  | (.string bytes, d) => bytes.length + uptoBulk d + 1
  | (_, d) => uptoBulk d + 1
 end
def uptoSmall : (H : Type) → List (DataW H) → Bool := fun _ ds => decide (uptoBulkAll ds ≤ 1048576)
def OpenSpec.upto (s : _root_.Go.ChangeSpec) : _root_.Go.OpenSpec := { _root_.Go.OpenSpec.ofChange s with cond := some uptoSmall }

/-- 'gridironlaw09.IvlTurned', WHERE WHAT IT READS IS OF BULK AT MOST 1048576: true; the input reads as it did. -/
def ivlTurnedUptoRow : OpenClaim := { program := "ytjpjlfcjkgmhdaa", sum := "b178762b68aae072b10c8bb43c8628e1ec0aff1436327d63f260c9290e914302", func := "gridiron/gridironlaw09.IvlTurned", spec := "ivlTurned", unfollowed := true, recurses := true, apart := false, narrowed := true }
def IvlTurnedUptoSaid : Prop := ivlTurnedUptoRow.holds Try.pinned (OpenSpec.upto ivlTurnedSpec)

/-- 'gridironlaw09.IvlWide', WHERE WHAT IT READS IS OF BULK AT MOST 1048576: true; the input reads as it did. -/
def ivlWideUptoRow : OpenClaim := { program := "ytjpjlfcjkgmhdaa", sum := "b178762b68aae072b10c8bb43c8628e1ec0aff1436327d63f260c9290e914302", func := "gridiron/gridironlaw09.IvlWide", spec := "ivlWide", unfollowed := true, recurses := true, apart := false, narrowed := true }
def IvlWideUptoSaid : Prop := ivlWideUptoRow.holds Try.pinned (OpenSpec.upto ivlWideSpec)

/-- 'gridironlaw09.IvlTells', WHERE WHAT IT READS IS OF BULK AT MOST 1048576: true; the input reads as it did. -/
def ivlTellsUptoRow : OpenClaim := { program := "ytjpjlfcjkgmhdaa", sum := "b178762b68aae072b10c8bb43c8628e1ec0aff1436327d63f260c9290e914302", func := "gridiron/gridironlaw09.IvlTells", spec := "ivlTells", unfollowed := true, recurses := true, apart := false, narrowed := true }
def IvlTellsUptoSaid : Prop := ivlTellsUptoRow.holds Try.pinned (OpenSpec.upto ivlTellsSpec)

/-- 'gridironlaw09.IvlBound', WHERE WHAT IT READS IS OF BULK AT MOST 1048576: true; the input reads as it did. -/
def ivlBoundUptoRow : OpenClaim := { program := "ytjpjlfcjkgmhdaa", sum := "b178762b68aae072b10c8bb43c8628e1ec0aff1436327d63f260c9290e914302", func := "gridiron/gridironlaw09.IvlBound", spec := "ivlBound", unfollowed := true, recurses := true, apart := false, narrowed := true }
def IvlBoundUptoSaid : Prop := ivlBoundUptoRow.holds Try.pinned (OpenSpec.upto ivlBoundSpec)

/-- 'gridironlaw09.IvlWeak', WHERE WHAT IT READS IS OF BULK AT MOST 1048576: true; the input reads as it did. -/
def ivlWeakUptoRow : OpenClaim := { program := "ytjpjlfcjkgmhdaa", sum := "b178762b68aae072b10c8bb43c8628e1ec0aff1436327d63f260c9290e914302", func := "gridiron/gridironlaw09.IvlWeak", spec := "ivlWeak", unfollowed := true, recurses := true, apart := false, narrowed := true }
def IvlWeakUptoSaid : Prop := ivlWeakUptoRow.holds Try.pinned (OpenSpec.upto ivlWeakSpec)

end Rows
end Go.Proofs.Ytjpjlfcjkgmhdaa
