/- Rows of numbers: by their places, made, stored into, read. No program but for the numbers of types. -/
import Derived.Test.YtcpompbiohaomaaLits
import Derived.Test.YtcpompbiohaomaaProg
import Derived.Test.YtcpompbiohaomaaRows
import Derived.Test.YtcpompbiohaomaaRegT
import Derived.Test.YtcpompbiohaomaaQuietU
import Derived.IntWalk
import Derived.LoopTactic
import Derived.Deep.LoopGhost
import Derived.Deep.Light
import Derived.Deep.QuietTactic
import Derived.Deep.Cut
import Derived.Deep.CutBlock
import Derived.Deep.DeepCutAuto
import Derived.BigQuiet
import Derived.Lib.SmallJoins
namespace Go.Proofs.Ytcpompbiohaomaa
open Go.RowKit

theorem kn_all (l : List Nat) : KN.all l = l.map fun (x : Nat) => (.int .i64 (x : Int) : Value) := by
  induction l with
  | nil => rfl
  | cons x l ih => rw [List.map_cons, ← ih]; rfl

theorem kn_at {w : World} {A : Option Addr} {n C : Nat} {l : List Nat} (h : See KN w (.slice A n C) l) {k : Nat} {x : Nat} (hx : l[k]? = some x) :
    ∃ b o, A = some ⟨b, o, none⟩ ∧ n ≤ C ∧ C ≤ maxLen ∧ w.cell? ⟨b, o + k, none⟩ = some (.int .i64 (x : Int)) := by
  obtain ⟨b, o, h1, h2, h3, h4⟩ := h.at hx
  have := h4 0 _ rfl
  exact ⟨b, o, h1, h2, h3, by simpa [KN] using this⟩

/-- A cell of an owned row of numbers. -/
theorem kn_row {w : World} {base : Nat} {A : Option Addr} {n C : Nat} {l : List Nat} (h : KN.row w base (.slice A n C) l) {k x : Nat} (hx : l[k]? = some x) :
    ∃ g, A = some ⟨g, 0, none⟩ ∧ base ≤ g ∧ w.cell? ⟨g, k, none⟩ = some (.int .i64 (x : Int)) ∧ w.frozen? ⟨g, k, none⟩ = false := by
  obtain ⟨g, h1, h2, h3, h4⟩ := rowAt h hx
  have := h3 0 _ rfl
  exact ⟨g, h1, h2, by simpa [KN] using this, h4 k⟩

theorem kn_made {w' : World} {base g n : Nat} (h : w'.ownsRow base 3 1 (.slice (some ⟨g, 0, none⟩) n n) n (madeCells #[.int .i64 0] (n * 1)).toList) : KN.row w' base (.slice (some ⟨g, 0, none⟩) n n) (List.replicate n 0) := by
  unfold Kind.row
  rw [List.length_replicate, kn_all, List.map_replicate]
  rw [Nat.mul_one, toList_madeCells_one] at h
  exact h

theorem kn_set {w : World} {base g n C : Nat} {l : List Nat} (hn : l.length = n) (h : KN.row w base (.slice (some ⟨g, 0, none⟩) n C) l) (k b : Nat) :
    KN.row (w.setCell ⟨g, k, none⟩ (.int .i64 (b : Int))) base (.slice (some ⟨g, 0, none⟩) n C) (l.set k b) := by
  subst hn
  have h' : w.ownsRow base KN.eT KN.sz (.slice (some ⟨g, 0, none⟩) l.length C) l.length (KN.all l) := h
  have := (World.ownsRow.stored h' k (.int .i64 (b : Int))).1
  unfold Kind.row
  rw [List.length_set, kn_all, List.map_set, ← kn_all]
  exact this

theorem kn_info : (Try.prog.info? 3).map (fun i => (i.zero, i.size, i.bytes)) = some (some (.int .i64 0), 1, 8) := by kernel_rfl

/-- A row of n numbers is made. -/
theorem kn_make (W : World) (N : Nat) (hN : N < 1000000) : (Instr.makeSlice 67 (.int .i64 (N : Int)) (.int .i64 (N : Int))).run Try.prog W = .ok (.slice (some ⟨W.heap.size, 0, none⟩) N N) (W.alloc (.cells (madeCells #[.int .i64 0] (N * 1)) 3)) ∧
    KN.row (W.alloc (.cells (madeCells #[.int .i64 0] (N * 1)) 3)) W.heap.size (.slice (some ⟨W.heap.size, 0, none⟩) N N) (List.replicate N 0) := by
  obtain ⟨i0, hi, hy0, hy1, hy2⟩ := info_parts kn_info
  have := run_make (P := Try.prog) W 67 3 i0 (.int .i64 0) Try.underlying67 hi hy0 .i64 .i64 N N (by omega) (by omega) (by rw [hy2]; omega) (by omega)
  rw [hy1] at this
  refine ⟨this, ?_⟩
  have h2 := World.ownsRow_lit (e := 3) (size := 1) (base := W.heap.size) W (madeCells #[.int .i64 0] (N * 1)) N (Nat.le_refl _) (by unfold maxLen; omega) (size_madeCells _ _)
  exact kn_made h2
end Go.Proofs.Ytcpompbiohaomaa
