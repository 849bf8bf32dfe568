/- A box more: what is covered, plainly. -/
import Derived.Test.YthkiljfjjnckaaaRimP
import Derived.Test.YthkiljfjjnckaaaRiseP
namespace Go.Proofs.Ythkiljfjjnckaaa

theorem cov_app (l m : List Bx) (x y : Int) : covB (l ++ m) x y = (covB l x y || covB m x y) := by
  unfold covB; rw [List.any_append]

theorem cov_one (b : Bx) (x y : Int) : covB [b] x y = b.cell x y := by simp [covB]

theorem not_counts {b : Bx} (h : b.counts = false) (x y : Int) : b.cell x y = false := by
  cases hc : b.cell x y with
  | false => rfl
  | true => rw [cov_counts hc] at h; cases h

theorem lin_app (l m : List Bx) : linX (l ++ m) = linX l ++ linX m ∧ linY (l ++ m) = linY l ++ linY m := by
  unfold linX linY
  rw [List.filter_append, List.flatMap_append, List.flatMap_append]
  exact ⟨rfl, rfl⟩

theorem lin_flat {b : Bx} (h : b.counts = false) : linX [b] = [] ∧ linY [b] = [] := by
  unfold linX linY
  simp [h]

theorem cols_congr {l m : List Bx} (h : ∀ x y, covB l x y = covB m x y) (X Y : List Int) : colsB l X Y = colsB m X Y := by
  unfold colsB colB
  simp only [h]

theorem rim_congr {l m : List Bx} (h : ∀ x y, covB l x y = covB m x y) (hx : ∀ x, x ∈ linX l ↔ x ∈ linX m) (hy : ∀ x, x ∈ linY l ↔ x ∈ linY m) : rimN l = rimN m := by
  unfold rimN
  rw [sqz_congr hx, sqz_congr hy]
  unfold rimK rimC sideV sideH
  simp only [cols_congr h]

theorem area_pos {b : Bx} (h : b.counts = true) : areaN [b] = (b.x2 - b.x1).toNat * (b.y2 - b.y1).toNat ∧ 0 < areaN [b] := by
  have hc : b.x1 < b.x2 ∧ b.y1 < b.y2 := by unfold Bx.counts at h; simpa using h
  have eX : sqz (linX [b]) = [b.x1, b.x2] := sqz_eq (by simp; omega) fun x => by unfold linX; simp [h]
  have eY : sqz (linY [b]) = [b.y1, b.y2] := sqz_eq (by simp; omega) fun x => by unfold linY; simp [h]
  have hcell : b.cell b.x1 b.y1 = true := by unfold Bx.cell; simp; omega
  have e : areaN [b] = (b.x2 - b.x1).toNat * (b.y2 - b.y1).toNat := by
    unfold areaN
    rw [eX, eY]
    simp [areaK, colK, sumK, nth, cov_one, hcell]
  refine ⟨e, ?_⟩
  rw [e]
  exact Nat.mul_pos (by omega) (by omega)

theorem area_le {l m : List Bx} (hl : ∀ b ∈ l, b.in64) (hm : ∀ b ∈ m, b.in64) (h : ∀ x y, covB l x y = true → covB m x y = true) : areaN l ≤ areaN m := by
  have h1 := areaN_R hl
  have h2 := areaN_R hm
  have h3 := areaR_mono (lo := -9223372036854775808) (hi := 9223372036854775807) h
  omega

theorem area_same {l m : List Bx} (hl : ∀ b ∈ l, b.in64) (hm : ∀ b ∈ m, b.in64) (h : ∀ x y, covB l x y = covB m x y) : areaN l = areaN m := by
  have h1 := areaN_R hl
  have h2 := areaN_R hm
  have h3 := areaR_congr (lo := -9223372036854775808) (hi := 9223372036854775807) h
  omega

theorem more_facts (l : List Bx) (b : Bx) (hb : ∀ b ∈ l, b.in64) (hbb : b.in64) : areaN l ≤ areaN (l ++ [b]) ∧ areaN [b] ≤ areaN (l ++ [b]) ∧ (b.counts = false → areaN (l ++ [b]) = areaN l ∧ areaN [b] = 0 ∧ rimN (l ++ [b]) = rimN l) ∧ (b.counts = true → 0 < areaN [b]) := by
  have h2 : ∀ x ∈ l ++ [b], x.in64 := fun x hx => by
    rcases List.mem_append.1 hx with h | h
    · exact hb x h
    · simp at h; subst h; exact hbb
  have h3 : ∀ x ∈ [b], x.in64 := fun x hx => by simp at hx; subst hx; exact hbb
  refine ⟨area_le hb h2 fun x y h => by rw [cov_app, h]; rfl, area_le h3 h2 fun x y h => by rw [cov_app, h]; simp, fun hc => ⟨area_same h2 hb fun x y => ?_, ?_, rim_congr (fun x y => ?_) (fun x => ?_) (fun x => ?_)⟩, fun hc => (area_pos hc).2⟩
  · rw [cov_app, cov_one, not_counts hc]; simp
  · unfold areaN
    rw [(lin_flat hc).1, (lin_flat hc).2, sqz_nil]
    rfl
  · rw [cov_app, cov_one, not_counts hc]; simp
  · rw [(lin_app l [b]).1, (lin_flat hc).1, List.append_nil]
  · rw [(lin_app l [b]).2, (lin_flat hc).2, List.append_nil]

theorem halves {a b : Nat} (h : a ≤ b) : ((a / 18446744073709551616 : Nat) : Int) ≤ ((b / 18446744073709551616 : Nat) : Int) ∧ (((a / 18446744073709551616 : Nat) : Int) = ((b / 18446744073709551616 : Nat) : Int) → ((a % 18446744073709551616 : Nat) : Int) ≤ ((b % 18446744073709551616 : Nat) : Int)) := by
  omega
end Go.Proofs.Ythkiljfjjnckaaa
