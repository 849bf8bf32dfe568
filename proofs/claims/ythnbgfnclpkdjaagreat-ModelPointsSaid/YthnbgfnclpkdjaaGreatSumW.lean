/- Sums from 0 on. No program. A number of 128 bits in a variable. -/
import Derived.Test.YthnbgfnclpkdjaaGreatBoxP
import Derived.Test.YthnbgfnclpkdjaaGreatWideC
import Derived.Test.YthnbgfnclpkdjaaGreatCarryB
namespace Go.Proofs.YthnbgfnclpkdjaaGreat

def sumK (f : Nat → Nat) : Nat → Nat
  | 0 => 0
  | n + 1 => sumK f n + f n

theorem sumK_cons (f : Nat → Nat) : ∀ n, sumK f (n + 1) = f 0 + sumK (fun i => f (i + 1)) n
  | 0 => by simp [sumK]
  | n + 1 => by rw [sumK, sumK_cons f n, sumK, Nat.add_assoc]

theorem sumK_mono (f : Nat → Nat) {m n : Nat} (h : m ≤ n) : sumK f m ≤ sumK f n := by
  induction n with
  | zero => obtain rfl : m = 0 := by omega
            exact Nat.le_refl _
  | succ n ih =>
    rcases Nat.lt_or_ge m (n + 1) with h1 | h1
    · have := ih (by omega); rw [sumK]; omega
    · obtain rfl : m = n + 1 := by omega
      exact Nat.le_refl _

theorem sumK_congr {f g : Nat → Nat} : ∀ n, (∀ i, i < n → f i = g i) → sumK f n = sumK g n
  | 0, _ => rfl
  | n + 1, h => by rw [sumK, sumK, sumK_congr n (fun i hi => h i (by omega)), h n (by omega)]
end Go.Proofs.YthnbgfnclpkdjaaGreat

namespace Go.Proofs.YthnbgfnclpkdjaaGreat
open Go.RowKit

/-- A number of 128 bits, in a variable. -/
def SumAt (w : World) (p n : Nat) : Prop := w.heap[p]? = some (.cells #[.int .u64 ((n / 18446744073709551616 : Nat) : Int), .int .u64 ((n % 18446744073709551616 : Nat) : Int)] 32 (0, 0))

theorem SumAt.upd {F : List Nat} {w w' : World} {p n : Nat} (h : SumAt w p n) (hu : Upd F w w') (hp : p ∉ F) : SumAt w' p n := by
  unfold SumAt at h ⊢
  rw [hu.block p (lt_of_block h) hp]; exact h
theorem SumAt.upd0 {w w' : World} {p n : Nat} (h : SumAt w p n) (hu : Upd [] w w') : SumAt w' p n := h.upd hu (by simp)
theorem SumAt.lt {w : World} {p n : Nat} (h : SumAt w p n) : p < w.heap.size := lt_of_block h
theorem SumAt.cells {w : World} {p n : Nat} (h : SumAt w p n) : w.cell? ⟨p, 0, none⟩ = some (.int .u64 ((n / 18446744073709551616 : Nat) : Int)) ∧ w.cell? ⟨p, 1, none⟩ = some (.int .u64 ((n % 18446744073709551616 : Nat) : Int)) ∧ ∀ j, w.frozen? ⟨p, j, none⟩ = false := by
  have h' : w.heap[p]? = some (.cells #[.int .u64 ((n / 18446744073709551616 : Nat) : Int), .int .u64 ((n % 18446744073709551616 : Nat) : Int)] 32 (0, 0)) := h
  refine ⟨?_, ?_, fun j => ?_⟩ <;> simp [World.cell?, World.frozen?, h']
theorem SumAt.set {w : World} {p n n2 h2 l2 : Nat} (h : SumAt w p n) (e1 : h2 = n2 / 18446744073709551616) (e2 : l2 = n2 % 18446744073709551616) : SumAt ((w.setCell ⟨p, 0, none⟩ (.int .u64 (h2 : Int))).setCell ⟨p, 1, none⟩ (.int .u64 (l2 : Int))) p n2 := by
  unfold SumAt at h ⊢
  subst e1 e2
  have h1 := heap_set h 0 (.int .u64 ((n2 / 18446744073709551616 : Nat) : Int))
  have h2 := heap_set h1 1 (.int .u64 ((n2 % 18446744073709551616 : Nat) : Int))
  rw [h2]
  rfl

theorem keep6 {w w' : World} {a1 a2 a3 a4 a5 a6 : Addr} {v1 v2 v3 v4 v5 v6 : Value} (h : w.cell? a1 = some v1 ∧ w.cell? a2 = some v2 ∧ w.cell? a3 = some v3 ∧ w.cell? a4 = some v4 ∧ w.cell? a5 = some v5 ∧ w.cell? a6 = some v6) (hu : Upd [] w w') :
    w'.cell? a1 = some v1 ∧ w'.cell? a2 = some v2 ∧ w'.cell? a3 = some v3 ∧ w'.cell? a4 = some v4 ∧ w'.cell? a5 = some v5 ∧ w'.cell? a6 = some v6 := by
  have e : ∀ {a : Addr} {v : Value}, w.cell? a = some v → w'.cell? a = some v := fun {a v} ha => (hu.cell (World.block_lt_of_cell? w _ ha) (by simp)).trans ha
  exact ⟨e h.1, e h.2.1, e h.2.2.1, e h.2.2.2.1, e h.2.2.2.2.1, e h.2.2.2.2.2⟩
end Go.Proofs.YthnbgfnclpkdjaaGreat
