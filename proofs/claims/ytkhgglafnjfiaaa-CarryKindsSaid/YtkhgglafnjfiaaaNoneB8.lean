/- A carry of bytes that New did not answer: each call tells nothing. -/
import Derived.Test.YtkhgglafnjfiaaaCarryGB8
namespace Go.Proofs.Ytkhgglafnjfiaaa.B8
open Go.RowKit

/-- No carry: nil, or one that is not made. -/
def NoCarry (w : World) (v : Value) : Prop := v = .pointer none ∨ ∃ b, v = .pointer (some ⟨b, 0, none⟩) ∧ w.cell? ⟨b, 0, none⟩ = some (.bool false)

set_option maxRecDepth 100000 in
set_option maxHeartbeats 400000 in
theorem noneN (v : Value) (w : World) (h : NoCarry w v) :
    Calls Try.prog 56 #[v] w fun e w' => e = .returned (.bool true) ∧ w = w' := by
  rcases h with rfl | ⟨b, rfl, hc⟩
  · go_enter Try.func56, Try.ntmps56
    go_wp2
    go_ret
    exact ⟨rfl, rfl⟩
  · go_enter Try.func56, Try.ntmps56
    go_wp2
    go_ret
    exact ⟨rfl, rfl⟩

set_option maxRecDepth 100000 in
set_option maxHeartbeats 400000 in
theorem addN (v x : Value) (w : World) (h : NoCarry w v) :
    Calls Try.prog 27 #[v, x] w fun e w' => e = .returned (.tuple #[.int .i64 (-1), .slice none 0 0]) ∧ w = w' := by
  go_enter Try.func27, Try.ntmps27
  go_wp2_with (go_at_call 56; refine (noneN _ _ h).mono ?_; rintro e w' ⟨rfl, rfl⟩)
  go_ret2
  exact ⟨rfl, rfl⟩

set_option maxRecDepth 100000 in
set_option maxHeartbeats 400000 in
theorem setN (v s : Value) (w : World) (h : NoCarry w v) :
    Calls Try.prog 31 #[v, s] w fun e w' => e = .returned (.int .i64 0) ∧ w = w' := by
  go_enter Try.func31, Try.ntmps31
  go_wp2_with (go_at_call 56; refine (noneN _ _ h).mono ?_; rintro e w' ⟨rfl, rfl⟩)
  go_ret
  exact ⟨rfl, rfl⟩

set_option maxRecDepth 100000 in
set_option maxHeartbeats 400000 in
theorem lenN (v : Value) (w : World) (h : NoCarry w v) :
    Calls Try.prog 32 #[v] w fun e w' => e = .returned (.int .i64 0) ∧ w = w' := by
  go_enter Try.func32, Try.ntmps32
  go_wp2_with (go_at_call 56; refine (noneN _ _ h).mono ?_; rintro e w' ⟨rfl, rfl⟩)
  go_ret
  exact ⟨rfl, rfl⟩

set_option maxRecDepth 100000 in
set_option maxHeartbeats 400000 in
theorem workN (v : Value) (w : World) (h : NoCarry w v) :
    Calls Try.prog 29 #[v] w fun e w' => e = .returned (.int .i64 0) ∧ w = w' := by
  go_enter Try.func29, Try.ntmps29
  go_wp2_with (go_at_call 56; refine (noneN _ _ h).mono ?_; rintro e w' ⟨rfl, rfl⟩)
  go_ret
  exact ⟨rfl, rfl⟩

set_option maxRecDepth 100000 in
set_option maxHeartbeats 400000 in
theorem levelsN (v : Value) (w : World) (h : NoCarry w v) :
    Calls Try.prog 33 #[v] w fun e w' => e = .returned (.int .i64 0) ∧ w = w' := by
  go_enter Try.func33, Try.ntmps33
  go_wp2_with (go_at_call 56; refine (noneN _ _ h).mono ?_; rintro e w' ⟨rfl, rfl⟩)
  go_ret
  exact ⟨rfl, rfl⟩

set_option maxRecDepth 100000 in
set_option maxHeartbeats 400000 in
theorem bucketN (v i : Value) (w : World) (h : NoCarry w v) :
    Calls Try.prog 34 #[v, i] w fun e w' => e = .returned (.slice none 0 0) ∧ w = w' := by
  go_enter Try.func34, Try.ntmps34
  go_wp2_with (go_at_call 56; refine (noneN _ _ h).mono ?_; rintro e w' ⟨rfl, rfl⟩)
  go_ret
  exact ⟨rfl, rfl⟩
end Go.Proofs.Ytkhgglafnjfiaaa.B8
