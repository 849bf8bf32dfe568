/- carry.Carry[string]: New, Bucket, Levels, Len, Work. -/
import Derived.Test.YtkhgglafnjfiaaaCarryIStr
namespace Go.Proofs.Ytkhgglafnjfiaaa.Str
open Go.RowKit

set_option maxRecDepth 100000 in
set_option maxHeartbeats 400000 in
theorem newI (w : World) :
    Calls Try.prog 26 #[] w fun e w' => ∃ b, e = .returned (.pointer (some ⟨b, 0, none⟩)) ∧ IsCarry KI w' b [b] [] 0 0 ∧ w.heap.size ≤ b ∧ Upd [] w w' := by
  go_enter Try.func26, Try.ntmps26
  go_wp2
  go_ret
  refine ⟨w.heap.size, rfl, ⟨.slice none 0 0, [], ⟨heap_alloc_new w _, World.ownsRow_nil _ _ _ _, rfl, by simp, by simp [blk], by simp, by simp⟩, rfl⟩, Nat.le_refl _, (Upd.refl _ _).alloc _⟩

set_option maxRecDepth 100000 in
set_option maxHeartbeats 400000 in
theorem workI (b : Nat) (F : List Nat) (bs : List (List ByteArray)) (n work : Nat) (w : World) (h : IsCarry KI w b F bs n work) :
    Calls Try.prog 30 #[.pointer (some ⟨b, 0, none⟩)] w fun e w' => e = .returned (.int .i64 work) ∧ w = w' := by
  obtain ⟨vb, vs, h, rfl⟩ := h
  obtain ⟨hc0, hc1, hc2, hc3, _⟩ := h.cell
  clear h
  go_enter Try.func30, Try.ntmps30
  go_wp2_with (go_at_call 58; refine (noneI _ _ hc0).mono ?_; rintro e w' ⟨rfl, rfl⟩)
  go_ret
  exact ⟨rfl, rfl⟩

end Go.Proofs.Ytkhgglafnjfiaaa.Str
