/- carry.Carry[gridiron/half.cell[int64]]: New, Bucket, Levels, Len, Work. -/
import Derived.Test.YtkhgglafnjfiaaaCarryICel
namespace Go.Proofs.Ytkhgglafnjfiaaa.Cel
open Go.RowKit

set_option maxRecDepth 100000 in
set_option maxHeartbeats 400000 in
theorem newI (w : World) :
    Calls Try.prog 61 #[] w fun e w' => ∃ b, e = .returned (.pointer (some ⟨b, 0, none⟩)) ∧ IsCarry KI w' b [b] [] 0 0 ∧ w.heap.size ≤ b ∧ Upd [] w w' := by
  go_enter Try.func61, Try.ntmps61
  go_wp2
  go_ret
  refine ⟨w.heap.size, rfl, ⟨.slice none 0 0, [], ⟨heap_alloc_new w _, World.ownsRow_nil _ _ _ _, rfl, by simp, by simp [blk], by simp, by simp⟩, rfl⟩, Nat.le_refl _, (Upd.refl _ _).alloc _⟩

set_option maxRecDepth 100000 in
set_option maxHeartbeats 400000 in
theorem lenI (b : Nat) (F : List Nat) (bs : List (List (Int × Nat))) (n work : Nat) (w : World) (h : IsCarry KI w b F bs n work) :
    Calls Try.prog 63 #[.pointer (some ⟨b, 0, none⟩)] w fun e w' => e = .returned (.int .i64 n) ∧ w = w' := by
  obtain ⟨vb, vs, h, rfl⟩ := h
  obtain ⟨hc0, hc1, hc2, hc3, _⟩ := h.cell
  clear h
  go_enter Try.func63, Try.ntmps63
  go_wp2_with (go_at_call 74; refine (noneI _ _ hc0).mono ?_; rintro e w' ⟨rfl, rfl⟩)
  go_ret
  exact ⟨rfl, rfl⟩

set_option maxRecDepth 100000 in
set_option maxHeartbeats 400000 in
theorem workI (b : Nat) (F : List Nat) (bs : List (List (Int × Nat))) (n work : Nat) (w : World) (h : IsCarry KI w b F bs n work) :
    Calls Try.prog 71 #[.pointer (some ⟨b, 0, none⟩)] w fun e w' => e = .returned (.int .i64 work) ∧ w = w' := by
  obtain ⟨vb, vs, h, rfl⟩ := h
  obtain ⟨hc0, hc1, hc2, hc3, _⟩ := h.cell
  clear h
  go_enter Try.func71, Try.ntmps71
  go_wp2_with (go_at_call 74; refine (noneI _ _ hc0).mono ?_; rintro e w' ⟨rfl, rfl⟩)
  go_ret
  exact ⟨rfl, rfl⟩

set_option maxRecDepth 100000 in
set_option maxHeartbeats 400000 in
theorem levelsI (b : Nat) (F : List Nat) (bs : List (List (Int × Nat))) (n work : Nat) (w : World) (h : IsCarry KI w b F bs n work) :
    Calls Try.prog 68 #[.pointer (some ⟨b, 0, none⟩)] w fun e w' => e = .returned (.int .i64 bs.length) ∧ w = w' := by
  obtain ⟨vb, vs, h, rfl⟩ := h
  obtain ⟨A, C, rfl⟩ := own_form h.list
  obtain ⟨hc0, hc1, hc2, hc3, _⟩ := h.cell
  have hl := h.len
  rw [hl] at hc1
  clear h
  have HL := Lib.hid hl
  clear hl
  go_enter Try.func68, Try.ntmps68
  go_wp2_with (go_at_call 74; refine (noneI _ _ hc0).mono ?_; rintro e w' ⟨rfl, rfl⟩)
  go_ret
  exact ⟨rfl, rfl⟩

set_option maxRecDepth 100000 in
set_option maxHeartbeats 400000 in
theorem bucketI_out (b : Nat) (F : List Nat) (i : Int) (bs : List (List (Int × Nat))) (n work : Nat) (w : World) (h : IsCarry KI w b F bs n work) (hi : i < 0 ∨ (bs.length : Int) ≤ i) :
    Calls Try.prog 69 #[.pointer (some ⟨b, 0, none⟩), .int .i64 i] w fun e w' => e = .returned (.slice none 0 0) ∧ w = w' := by
  obtain ⟨vb, vs, h, rfl⟩ := h
  obtain ⟨A, C, rfl⟩ := own_form h.list
  obtain ⟨hc0, hc1, hc2, hc3, _⟩ := h.cell
  have hl := h.len
  rw [hl] at hc1
  clear h
  have HL := Lib.hid hl
  clear hl
  by_cases h0 : i < 0
  · go_enter Try.func69, Try.ntmps69
    go_wp2_with (go_at_call 74; refine (noneI _ _ hc0).mono ?_; rintro e w' ⟨rfl, rfl⟩)
    go_ret
    exact ⟨rfl, rfl⟩
  · have h1 : (bs.length : Int) ≤ i := by omega
    clear hi
    go_enter Try.func69, Try.ntmps69
    go_wp2_with (go_at_call 74; refine (noneI _ _ hc0).mono ?_; rintro e w' ⟨rfl, rfl⟩)
    go_ret
    exact ⟨rfl, rfl⟩

set_option maxRecDepth 100000 in
set_option maxHeartbeats 400000 in
theorem bucketI_in (b : Nat) (F : List Nat) (i : Nat) (l : List (Int × Nat)) (bs : List (List (Int × Nat))) (n work : Nat) (w : World) (h : IsCarry KI w b F bs n work) (hi : bs[i]? = some l) (hb : l.length < 1000000) :
    Calls Try.prog 69 #[.pointer (some ⟨b, 0, none⟩), .int .i64 i] w fun e w' => ∃ A C, e = .returned (.slice A l.length C) ∧ KI.row w' w.heap.size (.slice A l.length C) l ∧ Upd [] w w' := by
  obtain ⟨vb, vs, h, rfl⟩ := h
  obtain ⟨A, C, rfl⟩ := own_form h.list
  obtain ⟨hc0, hc1, hc2, hc3, _⟩ := h.cell
  have hl := h.len
  have hlt : i < bs.length := by
    rcases Nat.lt_or_ge i bs.length with h' | h'
    · exact h'
    · rw [List.getElem?_eq_none h'] at hi; cases hi
  obtain ⟨g, Ak, Ck, l', hA, hbk, _, hcell, _, _, hrow⟩ := h.at (k := i) (by omega)
  subst hA
  rw [hi] at hbk
  cases hbk
  rw [hl] at hc1
  clear h
  have HL := Lib.hid hl
  have HI := Lib.hid hi
  have HR := Lib.hid hrow
  clear hl hi hrow
  have h0 : (0 : Int) ≤ (i : Int) := Int.natCast_nonneg _
  have h1 : (i : Int) < (bs.length : Int) := by omega
  go_enter Try.func69, Try.ntmps69
  go_wp2_with (first | (go_at_call 74; refine (noneI _ _ hc0).mono ?_; rintro e w' ⟨rfl, rfl⟩) | (go_at_call 76; refine (clone_int64 _ _ _ _ (sees_of_own HR.out) (KI.all_one _) (by omega)).mono ?_; rintro e w' ⟨A6, C6, rfl, hown6, hbel⟩))
  go_ret
  exact ⟨A6, C6, rfl, hown6, Upd.of_below hbel⟩
end Go.Proofs.Ytkhgglafnjfiaaa.Cel
