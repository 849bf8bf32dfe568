/- Sums from 0 on. No program. -/
import Derived.Test.YtcpompbiohaomaaGreatMeasP
namespace Go.Proofs.YtcpompbiohaomaaGreat

def sumK (f : Nat → Nat) : Nat → Nat
  | 0 => 0
  | n + 1 => sumK f n + f n

theorem sumK_cons (f : Nat → Nat) : ∀ n, sumK f (n + 1) = f 0 + sumK (fun i => f (i + 1)) n
  | 0 => by simp [sumK]
  | n + 1 => by rw [sumK, sumK_cons f n, sumK, Nat.add_assoc]

theorem sumK_mono (f : Nat → Nat) {m n : Nat} (h : m ≤ n) : sumK f m ≤ sumK f n := by
  induction n with
  | zero => obtain rfl : m = 0 := by omega
            exact Nat.le_refl _
  | succ n ih =>
    rcases Nat.lt_or_ge m (n + 1) with h1 | h1
    · have := ih (by omega); rw [sumK]; omega
    · obtain rfl : m = n + 1 := by omega
      exact Nat.le_refl _

theorem sumK_congr {f g : Nat → Nat} : ∀ n, (∀ i, i < n → f i = g i) → sumK f n = sumK g n
  | 0, _ => rfl
  | n + 1, h => by rw [sumK, sumK, sumK_congr n (fun i hi => h i (by omega)), h n (by omega)]
end Go.Proofs.YtcpompbiohaomaaGreat
