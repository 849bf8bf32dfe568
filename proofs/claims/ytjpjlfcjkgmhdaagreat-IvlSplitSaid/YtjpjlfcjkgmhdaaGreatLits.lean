/- Literals of numbers and of truth values, seen; rows that are made and stored into. No program but for the numbers of types. -/
import Derived.Test.YtjpjlfcjkgmhdaaGreatKinds
import Derived.Laws.OwnMore
namespace Go.Proofs.YtjpjlfcjkgmhdaaGreat
open Go.RowKit

theorem KL_all (cs : List Int) : KL.all cs = cs.map fun x => (.int .i64 x : Value) := by
  induction cs with
  | nil => rfl
  | cons x cs ih =>
    rw [List.map_cons, ← ih]
    rfl

theorem ints_new (w : World) (cs : List Int) (n : Nat) (hn : n = cs.length) (hm : n ≤ maxLen) :
    See KL (w.alloc (.cells (cs.map fun x => (.int .i64 x : Value)).toArray 2)) (.slice (some ⟨w.heap.size, 0, none⟩) n n) cs := by
  subst hn
  have := sees_lit w (cs.map fun x => (.int .i64 x : Value)).toArray 2 1 cs.length (by simp) hm
  unfold See
  rw [KL_all]
  exact this

theorem KB_all (cs : List Bool) : KB.all cs = cs.map fun x => (.bool x : Value) := by
  induction cs with
  | nil => rfl
  | cons x cs ih =>
    rw [List.map_cons, ← ih]
    rfl

theorem bools_new (w : World) (cs : List Bool) (n : Nat) (hn : n = cs.length) (hm : n ≤ maxLen) :
    See KB (w.alloc (.cells (cs.map fun x => (.bool x : Value)).toArray 4)) (.slice (some ⟨w.heap.size, 0, none⟩) n n) cs := by
  subst hn
  have := sees_lit w (cs.map fun x => (.bool x : Value)).toArray 4 1 cs.length (by simp) hm
  unfold See
  rw [KB_all]
  exact this

/-- Row k, as it lies there. -/
theorem rowAt {α : Type} {K : Kind α} {w : World} {base : Nat} {A : Option Addr} {n C : Nat} {l : List α} (h : K.row w base (.slice A n C) l) {k : Nat} {x : α} (hx : l[k]? = some x) :
    ∃ g, A = some ⟨g, 0, none⟩ ∧ base ≤ g ∧ (∀ j u, (K.enc x)[j]? = some u → w.cell? ⟨g, k * K.sz + j, none⟩ = some u) ∧ ∀ j, w.frozen? ⟨g, j, none⟩ = false := by
  obtain ⟨hk, he⟩ := List.getElem?_eq_some_iff.1 hx
  have h' : w.ownsRow base K.eT K.sz (.slice A n C) l.length (K.all l) := h
  obtain ⟨g, cap, hA, hg, _⟩ := h'.form (by omega)
  cases hA
  refine ⟨g, rfl, hg, fun j u hu => ?_, fun j => World.ownsRow.frozenAt h' j⟩
  rw [← he] at hu
  have h2 := K.all_get l k j hk u hu
  have := World.ownsRow.cells h' (g := g) rfl _ u h2
  rwa [addr_add, Nat.zero_add] at this

/-- The truths of p below n. -/
def rowL (n : Nat) (p : Nat → Bool) : List Bool := (List.range n).map p

theorem rowL_len (n : Nat) (p : Nat → Bool) : (rowL n p).length = n := by simp [rowL]

theorem rowL_get {n : Nat} {p : Nat → Bool} {i : Nat} (h : i < n) : (rowL n p)[i]? = some (p i) := by
  unfold rowL; rw [List.getElem?_map, List.getElem?_range h]; rfl

theorem rowL_congr {n : Nat} {p q : Nat → Bool} (h : ∀ i, i < n → p i = q i) : rowL n p = rowL n q := by
  unfold rowL
  exact List.map_congr_left fun i hi => h i (List.mem_range.1 hi)

theorem rowL_set (n : Nat) (p : Nat → Bool) (k : Nat) (b : Bool) : (rowL n p).set k b = rowL n (fun i => if i = k then b else p i) := by
  refine List.ext_getElem? fun i => ?_
  rw [List.getElem?_set]
  by_cases hk : k = i
  · subst hk
    rw [if_pos rfl]
    by_cases hn : k < n
    · rw [if_pos (by rw [rowL_len]; exact hn), rowL_get hn, if_pos rfl]
    · rw [if_neg (by rw [rowL_len]; exact hn), List.getElem?_eq_none (by rw [rowL_len]; omega)]
  · rw [if_neg hk]
    by_cases hn : i < n
    · rw [rowL_get hn, rowL_get hn, if_neg (Ne.symm hk)]
    · rw [List.getElem?_eq_none (by rw [rowL_len]; omega), List.getElem?_eq_none (by rw [rowL_len]; omega)]

theorem KB_row_made {w' : World} {base g n : Nat} (h : w'.ownsRow base 4 1 (.slice (some ⟨g, 0, none⟩) n n) n (madeCells #[.bool false] (n * 1)).toList) : KB.row w' base (.slice (some ⟨g, 0, none⟩) n n) (rowL n (fun _ => false)) := by
  unfold Kind.row
  rw [rowL_len, KB_all]
  rw [Nat.mul_one, toList_madeCells_one] at h
  have e : (rowL n fun _ => false).map Value.bool = List.replicate n (.bool false) := by
    refine List.ext_getElem? fun i => ?_
    rw [List.getElem?_map, List.getElem?_replicate]
    by_cases hi : i < n
    · rw [rowL_get hi, if_pos hi]; rfl
    · rw [List.getElem?_eq_none (by rw [rowL_len]; omega), if_neg hi]; rfl
  rw [e]
  exact h

theorem KB_row_stored {w : World} {base g n : Nat} {p : Nat → Bool} (h : KB.row w base (.slice (some ⟨g, 0, none⟩) n n) (rowL n p)) (k : Nat) (b : Bool) :
    KB.row (w.setCell ⟨g, k, none⟩ (.bool b)) base (.slice (some ⟨g, 0, none⟩) n n) (rowL n (fun i => if i = k then b else p i)) := by
  have hl := rowL_len n p
  have h' : w.ownsRow base 4 1 (.slice (some ⟨g, 0, none⟩) n n) n (KB.all (rowL n p)) := by
    have h2 := h
    unfold Kind.row at h2
    rw [hl] at h2
    exact h2
  have := (World.ownsRow.stored h' k (.bool b)).1
  unfold Kind.row
  rw [rowL_len, ← rowL_set, KB_all, List.map_set, ← KB_all]
  exact this
end Go.Proofs.YtjpjlfcjkgmhdaaGreat
