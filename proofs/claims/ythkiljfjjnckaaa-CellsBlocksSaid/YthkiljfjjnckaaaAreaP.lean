/- What cells.Area reckons, plainly. -/
import Derived.Test.YthkiljfjjnckaaaBlocks
import Derived.Test.YthkiljfjjnckaaaWideC
namespace Go.Proofs.Ythkiljfjjnckaaa

def sumK (f : Nat → Nat) : Nat → Nat
  | 0 => 0
  | n + 1 => sumK f n + f n

theorem sumK_cons (f : Nat → Nat) : ∀ n, sumK f (n + 1) = f 0 + sumK (fun i => f (i + 1)) n
  | 0 => by simp [sumK]
  | n + 1 => by rw [sumK, sumK_cons f n, sumK, Nat.add_assoc]

theorem sumK_mono (f : Nat → Nat) {m n : Nat} (h : m ≤ n) : sumK f m ≤ sumK f n := by
  induction n with
  | zero => obtain rfl : m = 0 := by omega
            exact Nat.le_refl _
  | succ n ih =>
    rcases Nat.lt_or_ge m (n + 1) with h1 | h1
    · have := ih (by omega); rw [sumK]; omega
    · obtain rfl : m = n + 1 := by omega
      exact Nat.le_refl _

theorem sumK_congr {f g : Nat → Nat} : ∀ n, (∀ i, i < n → f i = g i) → sumK f n = sumK g n
  | 0, _ => rfl
  | n + 1, h => by rw [sumK, sumK, sumK_congr n (fun i hi => h i (by omega)), h n (by omega)]

/-- Column i, up to place t. -/
def colK (l : List Bx) (X Y : List Int) (i t : Nat) : Nat := sumK (fun k => if covB l (nth X i) (nth Y k) = true then (nth X (i + 1) - nth X i).toNat * (nth Y (k + 1) - nth Y k).toNat else 0) t
def areaK (l : List Bx) (X Y : List Int) (n : Nat) : Nat := sumK (fun i => colK l X Y i (Y.length - 1)) n
/-- How many cells are covered. -/
def areaN (l : List Bx) : Nat := areaK l (sqz (linX l)) (sqz (linY l)) ((sqz (linX l)).length - 1)

theorem colK_succ (l : List Bx) (X Y : List Int) (i t : Nat) : colK l X Y i (t + 1) = colK l X Y i t + (if covB l (nth X i) (nth Y t) = true then (nth X (i + 1) - nth X i).toNat * (nth Y (t + 1) - nth Y t).toNat else 0) := rfl
theorem areaK_succ (l : List Bx) (X Y : List Int) (k : Nat) : areaK l X Y (k + 1) = areaK l X Y k + colK l X Y k (Y.length - 1) := rfl

theorem rise_step {l : List Int} (h : l.Pairwise (· < ·)) {i : Nat} {a b : Int} (ha : l[i]? = some a) (hb : l[i + 1]? = some b) : a < b := by
  obtain ⟨h1, rfl⟩ := List.getElem?_eq_some_iff.1 ha
  obtain ⟨h2, rfl⟩ := List.getElem?_eq_some_iff.1 hb
  exact List.pairwise_iff_getElem.1 h i (i + 1) h1 h2 (by omega)

theorem linX_in {l : List Bx} (hb : ∀ b ∈ l, b.in64) (x : Int) (hx : x ∈ linX l) : -9223372036854775808 ≤ x ∧ x ≤ 9223372036854775807 := by
  unfold linX at hx
  obtain ⟨b, h1, h2⟩ := List.mem_flatMap.1 hx
  have h3 := hb b (List.mem_filter.1 h1).1
  unfold Bx.in64 at h3
  simp at h2
  rcases h2 with rfl | rfl
  · exact h3.1
  · exact h3.2.1

theorem linY_in {l : List Bx} (hb : ∀ b ∈ l, b.in64) (x : Int) (hx : x ∈ linY l) : -9223372036854775808 ≤ x ∧ x ≤ 9223372036854775807 := by
  unfold linY at hx
  obtain ⟨b, h1, h2⟩ := List.mem_flatMap.1 hx
  have h3 := hb b (List.mem_filter.1 h1).1
  unfold Bx.in64 at h3
  simp at h2
  rcases h2 with rfl | rfl
  · exact h3.2.2.1
  · exact h3.2.2.2

theorem nth_cons (a : Int) (l : List Int) (i : Nat) : nth (a :: l) (i + 1) = nth l i := by unfold nth; rw [List.getElem?_cons_succ]

theorem stepSum_sumK (f : Int → Int) : ∀ (l : List Int) (g : Nat → Nat), (∀ i, i < l.length - 1 → (g i : Int) = f (nth l i) * (nth l (i + 1) - nth l i)) → (sumK g (l.length - 1) : Int) = stepSum f l
  | [], g, _ => rfl
  | [_], g, _ => rfl
  | x :: y :: r, g, h => by
    have e : (x :: y :: r).length - 1 = ((y :: r).length - 1) + 1 := by simp
    rw [e, sumK_cons, stepSum]
    have h0 := h 0 (by simp)
    have e0 : nth (x :: y :: r) 0 = x := rfl
    have e1 : nth (x :: y :: r) (0 + 1) = y := rfl
    rw [e0, e1] at h0
    have ih := stepSum_sumK f (y :: r) (fun i => g (i + 1)) (fun i hi => by
      have := h (i + 1) (by simp at hi ⊢; omega)
      rw [nth_cons, nth_cons] at this
      exact this)
    rw [Int.natCast_add, h0, ih]

theorem colK_eq {l : List Bx} {X Y : List Int} (hX : X.Pairwise (· < ·)) (hY : Y.Pairwise (· < ·)) {i : Nat} (hi : i < X.length - 1) :
    (colK l X Y i (Y.length - 1) : Int) = stepSum (fun y => ind (covB l (nth X i) y)) Y * (nth X (i + 1) - nth X i) := by
  have hx := rise_step hX (nth_get (l := X) (i := i) (by omega)) (nth_get (l := X) (i := i + 1) (by omega))
  have h1 := stepSum_sumK (fun y => ind (covB l (nth X i) y)) Y (fun k => if covB l (nth X i) (nth Y k) = true then (nth Y (k + 1) - nth Y k).toNat else 0) (fun k hk => by
    have hy := rise_step hY (nth_get (l := Y) (i := k) (by omega)) (nth_get (l := Y) (i := k + 1) (by omega))
    cases hc : covB l (nth X i) (nth Y k)
    · simp [ind]
    · simp [ind]; omega)
  rw [← h1]
  have h2 : ∀ (g : Nat → Nat) (d : Nat) (n : Nat), sumK (fun k => d * g k) n = d * sumK g n := by
    intro g d n
    induction n with
    | zero => simp [sumK]
    | succ n ih => rw [sumK, sumK, ih, Nat.mul_add]
  have h3 : colK l X Y i (Y.length - 1) = (nth X (i + 1) - nth X i).toNat * sumK (fun k => if covB l (nth X i) (nth Y k) = true then (nth Y (k + 1) - nth Y k).toNat else 0) (Y.length - 1) := by
    rw [← h2]
    unfold colK
    exact sumK_congr _ fun k _ => by split <;> simp
  rw [h3, Int.natCast_mul, Int.toNat_of_nonneg (by omega), Int.mul_comm]

theorem areaK_eq {l : List Bx} {X Y : List Int} (hX : X.Pairwise (· < ·)) (hY : Y.Pairwise (· < ·)) : (areaK l X Y (X.length - 1) : Int) = areaS l X Y := by
  unfold areaK areaS
  exact stepSum_sumK _ X _ fun i hi => colK_eq hX hY hi

theorem areaN_eq (l : List Bx) {lo hi : Int} (hx : ∀ v ∈ linX l, lo ≤ v ∧ v ≤ hi) (hy : ∀ v ∈ linY l, lo ≤ v ∧ v ≤ hi) : (areaN l : Int) = areaR l lo hi := by
  unfold areaN
  rw [areaK_eq (sqz_rise _) (sqz_rise _), areaR_eq (sqz_rise _) (sqz_rise _) (fun v => ⟨sqz_mem, mem_sqz⟩) (fun v => ⟨sqz_mem, mem_sqz⟩) (fun v hv => hx v (sqz_mem hv)) (fun v hv => hy v (sqz_mem hv))]

/-- All of 64 bits. -/
theorem areaN_R {l : List Bx} (hb : ∀ b ∈ l, b.in64) : (areaN l : Int) = areaR l (-9223372036854775808) 9223372036854775807 := areaN_eq l (linX_in hb) (linY_in hb)

theorem areaN_W {l : List Bx} (hb : ∀ b ∈ l, b.in64) : W128 (areaN l) := by
  have h1 := areaN_R hb
  have h2 := areaR_le l (lo := -9223372036854775808) (hi := 9223372036854775807) (by omega)
  rw [← h1] at h2
  have e : ((9223372036854775807 : Int) - -9223372036854775808) * (9223372036854775807 - -9223372036854775808) = 340282366920938463426481119284349108225 := by decide
  rw [e] at h2
  unfold W128
  omega

theorem areaK_part (l : List Bx) (hb : ∀ b ∈ l, b.in64) : ∀ k t, k < (sqz (linX l)).length - 1 → t < (sqz (linY l)).length - 1 → W128 (areaK l (sqz (linX l)) (sqz (linY l)) k + colK l (sqz (linX l)) (sqz (linY l)) k (t + 1)) := by
  intro k t hk ht
  refine (areaN_W hb).mono ?_
  have h1 : colK l (sqz (linX l)) (sqz (linY l)) k (t + 1) ≤ colK l (sqz (linX l)) (sqz (linY l)) k ((sqz (linY l)).length - 1) := sumK_mono _ (by omega)
  have h2 : areaK l (sqz (linX l)) (sqz (linY l)) (k + 1) ≤ areaN l := sumK_mono _ (by omega)
  rw [areaK_succ] at h2
  omega
end Go.Proofs.Ythkiljfjjnckaaa
