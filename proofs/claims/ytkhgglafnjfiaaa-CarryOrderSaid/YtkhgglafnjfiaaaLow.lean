/- The plain facts of gridironlaw20.CarryOrder: how much is placed by n Adds; which buckets are filled. -/
import Derived.Test.YtkhgglafnjfiaaaAll20
namespace Go.Proofs.Ytkhgglafnjfiaaa

/-- What n Adds place together. -/
def lowS : Nat → Nat
  | 0 => 0
  | n + 1 => lowS n + Nat.gcd (n + 1) 512

/-- May the bucket t be the one that is filled? -/
def filled (n t : Nat) : Bool := !((n + 1) % 2 ^ t == 0 && (n + 1) % 2 ^ (t + 1) != 0) ||
  (2 ^ t == Nat.gcd (n + 1) 512 && (n + 1).testBit t && decide (t < bitsN (n + 1)) && (List.range t).all fun j => !(n + 1).testBit j)

theorem low_dec : ∀ n < 300, ∀ t < 9, filled n t = true := by decide +kernel

theorem low_is (n t : Nat) (hn : n < 300) (h2 : 2 ^ t ≤ n + 1) (h3 : (n + 1) % 2 ^ t = 0) (h4 : (n + 1) % 2 ^ (t + 1) ≠ 0) : 2 ^ t = Nat.gcd (n + 1) 512 ∧ (n + 1).testBit t = true ∧ t < bitsN (n + 1) ∧ ∀ j < t, (n + 1).testBit j = false := by
  have h := low_dec n hn t (by
    apply Nat.lt_of_not_le
    intro hge
    have : 2 ^ 9 ≤ 2 ^ t := Nat.pow_le_pow_right (by omega) hge
    omega)
  unfold filled at h
  simp only [h3, beq_self_eq_true, bne, Bool.or_eq_true, Bool.and_eq_true, Bool.not_eq_true', decide_eq_true_eq, List.all_eq_true, List.mem_range, beq_iff_eq] at h
  rcases h with h | h
  · simp [h4] at h
  · exact ⟨h.1.1.1, h.1.1.2, h.1.2, h.2⟩

theorem lowS_dec : ∀ n < 301, lowS n ≤ 10000 ∧ lowS n ≤ n * (logN n + 1) := by decide +kernel

theorem top_dec : ∀ n < 301, n = 0 ∨ n.testBit (bitsN n - 1) = true := by decide +kernel
end Go.Proofs.Ytkhgglafnjfiaaa
