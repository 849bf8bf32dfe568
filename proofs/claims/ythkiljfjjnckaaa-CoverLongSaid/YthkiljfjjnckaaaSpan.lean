/- cover.place, cover.span. -/
import Derived.Test.YthkiljfjjnckaaaMove
import Derived.Deep.QuietTactic
namespace Go.Proofs.Ythkiljfjjnckaaa
open Go.RowKit

theorem MarksOk.le {M : List Int} (h : MarksOk M) : M.Pairwise (· ≤ ·) := h.rise.imp fun h => Int.le_of_lt h

/-- A mark lies where it is searched. -/
theorem mem_below {M : List Int} (h : M.Pairwise (· < ·)) (x : Int) : x ∈ M ↔ M[below M x]? = some x := by
  constructor
  · intro hx
    obtain ⟨i, hi⟩ := List.mem_iff_getElem?.1 hx
    have hat := below_at (h.imp fun h => Int.le_of_lt h) x
    have h1 : i ≤ below M x ∨ below M x < i := by omega
    have h2 := hat i x hi
    have h3 : ¬ i < below M x := fun hc => by have := h2.2 hc; omega
    rcases Nat.lt_or_ge (below M x) i with h4 | h4
    · have hil := (List.getElem?_eq_some_iff.1 hi).1
      have hb : M[below M x]? = some (M[below M x]'(by omega)) := List.getElem?_eq_getElem _
      have h5 := hat (below M x) _ hb
      have h6 := List.pairwise_iff_getElem.1 h (below M x) i (by omega) hil h4
      have h7 := (List.getElem?_eq_some_iff.1 hi).2
      rw [h7] at h6
      have := h5.1 h6
      omega
    · have : i = below M x := by omega
      rw [← this]; exact hi
  · intro hx
    exact List.mem_of_getElem? hx

theorem isB_true {M : List Int} {x : Int} (h : x ∈ M) : decide (x ∈ M) = true := decide_eq_true h

set_option maxRecDepth 100000 in
set_option maxHeartbeats 2000000 in
theorem placeC (b : Nat) (mv nv ov pv : Value) (hb : Nat) (M : List Int) (L : List Nd) (O : List Int) (P : List Part) (root en : Int) (w : World) (x : Int) (h : CovM w b mv nv ov pv hb M L O P root en) (hM : MarksOk M) :
    Calls Try.prog 86 #[.pointer (some ⟨b, 0, none⟩), .int .i64 x] w fun e w' => e = .returned (.tuple #[.int .i64 (below M x : Nat), .bool (decide (x ∈ M))]) ∧ Upd [] w w' := by
  have hf := firstC mv M x w hM.le (See.of_row h.marks) (by have := hM.len; omega)
  have hmem := mem_below hM.rise x
  have hbl := below_le M x
  have c0 := h.cells.1
  obtain ⟨Am, Cm, rfl⟩ := own_form h.marks
  have HF := Lib.hid hf
  have H := Lib.hid h
  have HME := Lib.hid hmem
  have b0 : (0 : Int) ≤ ((below M x : Nat) : Int) := Int.natCast_nonneg _
  obtain ⟨p, hp⟩ : ∃ p, below M x = p := ⟨_, rfl⟩
  rw [hp] at HF HME hbl b0 ⊢
  have HLN := Lib.hid hM.len
  have HBL := Lib.hid hbl
  clear hf h hmem hp hbl hM
  go_enter Try.func86, Try.ntmps86
  go_wp2_with fail
  (with_reducible refine HF.out.mono ?_)
  rintro e w1 ⟨⟨k, rfl, hk⟩, hu⟩
  have HU := Lib.hid hu
  have h1 := H.out.upd0 hu
  have d0 := h1.cells.1
  have H1 := Lib.hid h1
  clear hu hk h1 c0
  by_cases hlt : p < M.length
  · obtain ⟨y, hy⟩ : ∃ y, M[p]? = some y := ⟨_, List.getElem?_eq_getElem hlt⟩
    obtain ⟨gm, Cm', hmm, em, -⟩ := row_at H1.out.marks hy
    cases hmm
    have m0 : w1.cell? ⟨gm, p, none⟩ = some (.int .i64 y) := by
      have := em 0 _ rfl
      simpa [KL] using this
    have b1 : (p : Int) < (M.length : Int) := by omega
    have HY := Lib.hid hy
    clear hy em
    by_cases hyx : y = x
    · have hin : x ∈ M := HME.out.2 (by rw [HY.out, hyx])
      have HIN := Lib.hid (isB_true hin)
      have hd : (y == x) = true := by simp [hyx]
      clear hyx hin
      go_wp2_with fail
      go_quiet (fail)
      go_wp2_with fail
      go_ret2
      exact ⟨by rw [HIN.out]; rfl, HU.out.drewN _⟩
    · have hin : decide (x ∈ M) = false := decide_eq_false (fun hc => hyx (by have := HME.out.1 hc; rw [HY.out] at this; exact Option.some.inj this))
      have HIN := Lib.hid hin
      have hd : (y == x) = false := by simp [hyx]
      clear hyx hin
      go_wp2_with fail
      go_quiet (fail)
      go_wp2_with fail
      go_ret2
      exact ⟨by rw [HIN.out]; rfl, HU.out.drewN _⟩
  · have hin : decide (x ∈ M) = false := decide_eq_false (fun hc => by have := (List.getElem?_eq_some_iff.1 (HME.out.1 hc)).1; omega)
    have HIN := Lib.hid hin
    have hd : decide ((p : Int) < (M.length : Int)) = false := decide_eq_false (by omega)
    have hd2 : decide (p < M.length) = false := decide_eq_false hlt
    clear hin
    go_wp2_with fail
    go_quiet (fail)
    go_wp2_with fail
    go_ret2
    exact ⟨by rw [HIN.out]; rfl, HU.out.drewN _⟩

/-- Is it a span between marks? -/
def spanOk (M : List Int) (lo hi : Int) : Bool := decide (lo ∈ M) && decide (hi ∈ M) && decide (below M lo ≤ below M hi)

def SpanPost (M : List Int) (lo hi : Int) (w : World) (e : Ending) (w' : World) : Prop :=
  e = .returned (.tuple #[.agg #[.int .i64 (below M lo : Nat), .int .i64 (below M hi : Nat)], .bool (spanOk M lo hi)]) ∧ Upd [] w w'

set_option maxRecDepth 100000 in
set_option maxHeartbeats 2000000 in
theorem spanC (b : Nat) (mv nv ov pv : Value) (hb : Nat) (M : List Int) (L : List Nd) (O : List Int) (P : List Part) (root en : Int) (w : World) (lo hi : Int) (h : CovM w b mv nv ov pv hb M L O P root en) (hM : MarksOk M) :
    Calls Try.prog 56 #[.pointer (some ⟨b, 0, none⟩), .int .i64 lo, .int .i64 hi] w (SpanPost M lo hi w) := by
  have hu0 : Upd [] w (w.alloc (.cells #[.int .i64 0, .int .i64 0] 96)) := (Upd.refl _ _).alloc _
  have hp1 := placeC b mv nv ov pv hb M L O P root en _ lo (h.upd0 hu0) hM
  have hp2 := fun w1 (hu : Upd [] w w1) => placeC b mv nv ov pv hb M L O P root en w1 hi (h.upd0 hu) hM
  have hr0 : (w.alloc (.cells #[.int .i64 0, .int .i64 0] 96)).heap[w.heap.size]? = some (.cells #[.int .i64 0, .int .i64 0] 96 (0, 0)) := heap_alloc_new w _
  unfold SpanPost spanOk
  obtain ⟨p, hp⟩ : ∃ p, below M lo = p := ⟨_, rfl⟩
  obtain ⟨q, hq⟩ : ∃ q, below M hi = q := ⟨_, rfl⟩
  obtain ⟨b1, hb1⟩ : ∃ b1, decide (lo ∈ M) = b1 := ⟨_, rfl⟩
  obtain ⟨b2, hb2⟩ : ∃ b2, decide (hi ∈ M) = b2 := ⟨_, rfl⟩
  obtain ⟨b3, hb3⟩ : ∃ b3, decide (p ≤ q) = b3 := ⟨_, rfl⟩
  rw [hp, hb1] at hp1 ⊢
  rw [hq, hb2] at hp2 ⊢
  rw [hb3]
  have H1 := Lib.hid hp1
  have H2 := Lib.hid hp2
  have HU0 := Lib.hid hu0
  have HR0 := Lib.hid hr0
  have HN := Lib.hid (show w.heap.size < (w.alloc (.cells #[.int .i64 0, .int .i64 0] 96)).heap.size by simp)
  have bp : (0 : Int) ≤ (p : Int) := Int.natCast_nonneg _
  have bq : (0 : Int) ≤ (q : Int) := Int.natCast_nonneg _
  clear hp1 hp2 hu0 hr0 h hM hp hq hb1 hb2
  go_enter Try.func56, Try.ntmps56
  go_wp2_with fail
  (with_reducible refine H1.out.mono ?_)
  rintro e w1 ⟨rfl, hu1⟩
  have HH2 := Lib.hid (H2.out w1 (HU0.out.trans hu1))
  have HU1 := Lib.hid hu1
  clear hu1
  go_wp2_with fail
  (with_reducible refine HH2.out.mono ?_)
  rintro e w2 ⟨rfl, hu2⟩
  have hh := (hu2.block w.heap.size (Nat.lt_of_lt_of_le HN.out HU1.out.size) (by simp)).trans ((HU1.out.block w.heap.size HN.out (by simp)).trans HR0.out)
  have e0 : w2.cell? ⟨w.heap.size, 0, none⟩ = some (.int .i64 0) := by simp [World.cell?, hh]
  have e1 : w2.cell? ⟨w.heap.size, 1, none⟩ = some (.int .i64 0) := by simp [World.cell?, hh]
  have f0 : w2.frozen? ⟨w.heap.size, 0, none⟩ = false := by simp [World.frozen?, hh]
  have f1 : w2.frozen? ⟨w.heap.size, 1, none⟩ = false := by simp [World.frozen?, hh]
  have HU2 := Lib.hid ((((HU0.out.trans HU1.out).trans hu2).setCell (p := ⟨w.heap.size, 0, none⟩) (.inr (Nat.le_refl _)) (.int .i64 (p : Int))).setCell (p := ⟨w.heap.size, 1, none⟩) (.inr (Nat.le_refl _)) (.int .i64 (q : Int)))
  clear hh hu2
  cases b1
  · go_wp2_with fail
    refine bodyPost_ret (v := .tuple #[.agg #[.int .i64 (p : Int), .int .i64 (q : Int)], .bool false]) (by simp [results, Try.results56, go_sem, e0, e1]) rfl ⟨rfl, HU2.out⟩
  · cases b2
    · go_wp2_with fail
      refine bodyPost_ret (v := .tuple #[.agg #[.int .i64 (p : Int), .int .i64 (q : Int)], .bool false]) (by simp [results, Try.results56, go_sem, e0, e1]) rfl ⟨rfl, HU2.out⟩
    · go_wp2_with fail
      refine bodyPost_ret (v := .tuple #[.agg #[.int .i64 (p : Int), .int .i64 (q : Int)], .bool b3]) (by simp [results, Try.results56, go_sem, e0, e1]) rfl ⟨rfl, HU2.out⟩
end Go.Proofs.Ythkiljfjjnckaaa
