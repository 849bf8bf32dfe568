/- wide.Diff. -/
import Derived.Test.YtokpdocabmaagaaGreatKinds
import Derived.IntWalk
namespace Go.Proofs.YtokpdocabmaagaaGreat
open Go.RowKit

/-- How much b is above a. -/
def diffN (a b : Int) : Int := if b ≤ a then 0 else b - a

theorem u64_wrap (x : Int) : IntKind.u64.wrap x = x % 18446744073709551616 := by simp [IntKind.wrap, IntKind.signed, IntKind.bits]

theorem u64_sub (a b : Int) (h : a ≤ b) (hd : b - a < 18446744073709551616) : IntKind.u64.wrap (IntKind.u64.wrap b - IntKind.u64.wrap a) = b - a := by
  rw [u64_wrap, u64_wrap, u64_wrap]
  omega

set_option maxRecDepth 100000 in
set_option maxHeartbeats 400000 in
theorem diffC (a b : Int) (w : World) (ha : -9223372036854775808 ≤ a ∧ a ≤ 9223372036854775807) (hb : -9223372036854775808 ≤ b ∧ b ≤ 9223372036854775807) :
    Calls Tryz.prog 25 #[.int .i64 a, .int .i64 b] w fun e w' => e = .returned (.int .u64 (diffN a b)) ∧ w = w' := by
  obtain ⟨ha1, ha2⟩ := ha
  obtain ⟨hb1, hb2⟩ := hb
  by_cases h : b ≤ a
  · go_enter Tryz.func25, Tryz.ntmps25
    go_wp2_with fail
    go_ret
    exact ⟨by unfold diffN; rw [if_pos h]; rfl, rfl⟩
  · go_enter Tryz.func25, Tryz.ntmps25
    go_wp2_with fail
    go_ret
    exact ⟨by unfold diffN; rw [if_neg (by omega), ← u64_sub a b (by omega) (by omega)]; rfl, rfl⟩
end Go.Proofs.YtokpdocabmaagaaGreat
