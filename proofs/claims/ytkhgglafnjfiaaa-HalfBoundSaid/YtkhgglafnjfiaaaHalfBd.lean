/- Half, plainly: few things are placed (P22.3). -/
import Derived.Test.YtkhgglafnjfiaaaHalfS
import Derived.Test.YtkhgglafnjfiaaaAll20
namespace Go.Proofs.Ytkhgglafnjfiaaa

/-- How many are placed as the first n come, by the greatest power of two in each number. -/
def wN : Nat → Nat
  | 0 => 0
  | n + 1 => wN n + Nat.gcd (n + 1) 512

def wG (n : Nat) : Nat → Nat
  | 0 => 0
  | t + 1 => wG n t + 2 ^ t * ((n + 2 ^ t) / (2 * 2 ^ t))

theorem wN_dec : ∀ n < 402, wN n = wG n 9 := by decide +kernel

def gcdOk (n t : Nat) : Bool := !((n + 1) % 2 ^ t == 0 && (n + 1) % 2 ^ (t + 1) != 0) || Nat.gcd (n + 1) 512 == 2 ^ t
theorem gcd_dec : ∀ n < 402, ∀ t < 9, gcdOk n t = true := by decide +kernel

theorem put_gcd (n : Nat) (hn : n < 402) {α : Type} (l : List α) (hl : l.length = n) (x : α) : 2 ^ firstE (setB l) = Nat.gcd (n + 1) 512 := by
  obtain ⟨_, h1, h2, h3⟩ := gath_last l x
  rw [hl] at h1 h2 h3
  have ht : firstE (setB l) < 9 := by
    refine Nat.lt_of_not_le fun h => ?_
    have := Nat.pow_le_pow_right (n := 2) (by omega) h
    omega
  have := gcd_dec n hn _ ht
  unfold gcdOk at this
  simp [h2, h3] at this
  exact this.symm

theorem dterm (n k p : Nat) (hk : k ≤ n) (hp : 0 < p) : 2 * (p * ((n + p) / (2 * p))) ≤ 2 * (p * ((k + p) / (2 * p))) + (n - k) + 2 * p := by
  have h1 : 2 * p * ((n + p) / (2 * p)) ≤ n + p := Nat.mul_div_le _ _
  have h2 := Nat.div_add_mod (k + p) (2 * p)
  have h3 := Nat.mod_lt (k + p) (show 2 * p > 0 by omega)
  rw [← Nat.mul_assoc, ← Nat.mul_assoc]
  omega

theorem dzero (n p : Nat) (h : n < p) : (n + p) / (2 * p) = 0 := Nat.div_eq_of_lt (by omega)

theorem pow_le_of (n T T0 : Nat) (h1 : n < 2 ^ (T + 1)) (h2 : 2 ^ T0 ≤ n) : T0 ≤ T := by
  refine Nat.le_of_not_lt fun h => ?_
  have := Nat.pow_le_pow_right (n := 2) (by omega) (show T + 1 ≤ T0 from h)
  omega

theorem wG_diff (n k : Nat) (hk : k ≤ n) : ∀ t, 2 * wG n t + 2 ≤ 2 * wG k t + (n - k) * t + 2 * 2 ^ t
  | 0 => by simp [wG]
  | t + 1 => by
    have ih := wG_diff n k hk t
    have h := dterm n k (2 ^ t) hk (Nat.pow_pos (by omega))
    simp only [wG]
    rw [Nat.mul_add, Nat.mul_add, Nat.mul_add (n - k), Nat.mul_one, Nat.pow_succ]
    omega

theorem wG_over (n s : Nat) (h : n < 2 ^ s) : ∀ t, wG n (s + t) = wG n s
  | 0 => rfl
  | t + 1 => by
    have h1 : 2 ^ s ≤ 2 ^ (s + t) := Nat.pow_le_pow_right (by omega) (by omega)
    show wG n (s + t) + 2 ^ (s + t) * ((n + 2 ^ (s + t)) / (2 * 2 ^ (s + t))) = wG n s
    rw [dzero n _ (by omega), wG_over n s h t]
    omega

theorem wdiff (T n k : Nat) (hk : k ≤ n) (hn : n < 402) (hT : n < 2 ^ (T + 1)) : 2 * wN n ≤ 2 * wN k + (n - k) * (T + 1) + 4 * n := by
  rw [wN_dec n hn, wN_dec k (by omega)]
  by_cases h0 : n = 0
  · have : k = 0 := by omega
    subst h0 this
    omega
  · have h1 := Nat.log2_self_le h0
    have h2 := Nat.lt_log2_self (n := n)
    have h3 := pow_le_of n T _ hT h1
    obtain ⟨L, hL⟩ : ∃ L, Nat.log2 n = L := ⟨_, rfl⟩
    rw [hL] at h1 h2 h3
    have h8 : L ≤ 8 := by
      refine Nat.le_of_not_lt fun h => ?_
      have := Nat.pow_le_pow_right (n := 2) (by omega) (show 9 ≤ L from h)
      omega
    have e1 := wG_over n (L + 1) h2 (8 - L)
    have e2 := wG_over k (L + 1) (by omega) (8 - L)
    rw [show L + 1 + (8 - L) = 9 by omega] at e1 e2
    have h5 := wG_diff n k hk (L + 1)
    have h6 : (n - k) * (L + 1) ≤ (n - k) * (T + 1) := Nat.mul_le_mul_left _ (by omega)
    rw [e1, e2]
    rw [Nat.pow_succ] at h5
    omega

/-- How much was placed: n are stored, v alive, wk placed, by A Adds and D Drops. -/
def BdN (n v wk A D : Nat) : Prop := ∃ k R a d, n = k + a ∧ v + d = n ∧ a ≤ A ∧ d ≤ D ∧ n ≤ A ∧ n ≤ 2 * v ∧ wk + wN k ≤ wN n + R ∧
  ∀ T, A + D < 2 ^ (T + 1) → 2 * R + 4 * k ≤ (A - a) * (T + 1) + 4 * (A - a) + 6 * (D - d)

theorem bd0 : BdN 0 0 0 0 0 := ⟨0, 0, 0, 0, rfl, rfl, by omega, by omega, by omega, by omega, by simp [wN], fun _ _ => by omega⟩

theorem bd_put {n v wk A D : Nat} (h : BdN n v wk A D) : BdN (n + 1) (v + 1) (wk + Nat.gcd (n + 1) 512) (A + 1) D := by
  obtain ⟨k, R, a, d, h1, h2, h3, h4, h5, h6, h7, h8⟩ := h
  refine ⟨k, R, a + 1, d, by omega, by omega, by omega, h4, by omega, by omega, ?_, fun T hT => ?_⟩
  · show wk + Nat.gcd (n + 1) 512 + wN k ≤ wN n + Nat.gcd (n + 1) 512 + R
    omega
  · have := h8 T (by omega)
    rw [show A + 1 - (a + 1) = A - a by omega]
    exact this

theorem bd_keep {n v wk A D : Nat} (h : BdN n (v + 1) wk A D) (hn : ¬ 2 * v < n) : BdN n v wk A (D + 1) := by
  obtain ⟨k, R, a, d, h1, h2, h3, h4, h5, h6, h7, h8⟩ := h
  refine ⟨k, R, a, d + 1, h1, by omega, h3, by omega, h5, by omega, h7, fun T hT => ?_⟩
  have := h8 T (by omega)
  rw [show D + 1 - (d + 1) = D - d by omega]
  exact this

theorem bd_anew {n v wk A D : Nat} (h : BdN n (v + 1) wk A D) (hn : 2 * v < n) (hl : n < 402) : BdN v v (wk + v) A (D + 1) := by
  obtain ⟨k, R, a, d, h1, h2, h3, h4, h5, h6, h7, h8⟩ := h
  refine ⟨v, wk + v, 0, 0, rfl, by omega, by omega, by omega, by omega, by omega, by omega, fun T hT => ?_⟩
  have e1 := h8 T (by omega)
  have e2 := wdiff T n k (by omega) hl (by omega)
  rw [show n - k = a by omega] at e2
  have e3 : a * (T + 1) + (A - a) * (T + 1) = A * (T + 1) := by rw [← Nat.add_mul]; congr 1; omega
  rw [Nat.sub_zero, Nat.sub_zero]
  generalize a * (T + 1) = p at *
  generalize (A - a) * (T + 1) = q at *
  omega

theorem bd_end {n v wk A D : Nat} (h : BdN n v wk A D) (hl : n < 402) : wk ≤ (A + D) * (bitsN (A + D) + 2) := by
  obtain ⟨k, R, a, d, h1, h2, h3, h4, h5, h6, h7, h8⟩ := h
  have hb := bitsN_lt (A + D)
  obtain ⟨b, hbb⟩ : ∃ b, bitsN (A + D) = b := ⟨_, rfl⟩
  rw [hbb] at hb ⊢
  by_cases h0 : b = 0
  · subst h0
    have : A + D = 0 := by simp at hb; omega
    have hA : A = 0 := by omega
    have hD : D = 0 := by omega
    subst hA hD
    have e1 := h8 0 (by simp)
    have ha : a = 0 := by omega
    have hk : k = 0 := by omega
    subst ha hk
    have hn : n = 0 := by omega
    subst hn
    simp [wN] at h7
    omega
  · obtain ⟨T, rfl⟩ : ∃ T, b = T + 1 := ⟨b - 1, by omega⟩
    have e1 := h8 T hb
    have e2 := wdiff T n k (by omega) hl (by omega)
    rw [show n - k = a by omega] at e2
    have e3 : a * (T + 1) + (A - a) * (T + 1) = A * (T + 1) := by rw [← Nat.add_mul]; congr 1; omega
    have e4 : D ≤ D * (T + 1) := Nat.le_mul_of_pos_right _ (by omega)
    have e5 : (A + D) * (T + 1 + 2) = A * (T + 1) + D * (T + 1) + 2 * A + 2 * D := by rw [Nat.mul_add, Nat.add_mul]; omega
    rw [e5]
    generalize a * (T + 1) = p at *
    generalize (A - a) * (T + 1) = q at *
    generalize A * (T + 1) = r at *
    generalize D * (T + 1) = t at *
    omega

theorem bd_two {n v wk A D : Nat} (h : BdN n v wk A D) : v ≤ n ∧ n ≤ 2 * v := by
  obtain ⟨k, R, a, d, h1, h2, h3, h4, h5, h6, h7, h8⟩ := h
  omega

/-- What a state says of it. -/
def Bd (S : HS) (A D : Nat) : Prop := BdN S.cs.length (vAll (view S)).length S.wk A D

theorem Bd.start : Bd S00 0 0 := bd0

theorem Bd.put {S : HS} {A D m : Nat} (h : Bd S A D) (O : HOk S m) (hm : m < 401) (x : Int) : Bd (putS S x) (if has S x then A else A + 1) D ∧ (putS S x).wk = S.wk + putN S x := by
  have hc := O.cs
  by_cases hx : has S x = true
  · unfold putS putN
    rw [if_pos hx, if_pos hx, if_pos hx]
    exact ⟨h, rfl⟩
  · have e1 : (vAll (view (putS S x))).length = (vAll (view S)).length + 1 := by
      rw [O.vput, vAll_put, if_neg, List.length_append]
      · rfl
      · rw [mem_vAll]; intro hc; exact hx (by rw [O.has]; simpa using hc)
    have e2 := put_gcd S.cs.length (by omega) S.cs rfl (x, S.al.length)
    unfold Bd
    rw [e1]
    unfold putS putN
    rw [if_neg hx, if_neg hx, if_neg hx]
    refine ⟨?_, rfl⟩
    show BdN (S.cs ++ [(x, S.al.length)]).length ((vAll (view S)).length + 1) (S.wk + 2 ^ firstE (setB S.cs)) (A + 1) D
    rw [List.length_append, e2]
    exact bd_put h

theorem Bd.less {S : HS} {A D m : Nat} (h : Bd S A D) (O : HOk S m) (hm : m < 402) (x : Int) : Bd (lessS S x) A (if has S x then D + 1 else D) ∧ (lessS S x).wk = S.wk + lessN S x := by
  have hc := O.cs
  by_cases hx : has S x = true
  · obtain ⟨k, hk⟩ := O.look hx
    have hm : x ∈ vAll (view S) := mem_vAll.2 (by rw [O.has] at hx; simpa using hx)
    have hnd := O.nodup
    have e0 : (vAll (vKill (view S) x)).length + 1 = (vAll (view S)).length := by
      rw [vAll_kill, ← hnd.erase_eq_filter x, List.length_erase_of_mem hm]
      have := List.length_pos_of_mem hm
      omega
    have e1 : (mdel S.mp x).length = (vAll (vKill (view S) x)).length := by
      have := (O.inv.core.drop1 hk).mp_len
      rw [view_drop1 O.inv.core hk] at this
      exact this
    have e2 := wk_drop O.inv hk
    have e3 := view_drop O.inv hk
    have hl : lessS S x = dropS S x k := by unfold lessS; rw [if_pos hx, hk]; rfl
    have hN : lessN S x = if 2 * (mdel S.mp x).length < S.cs.length then (mdel S.mp x).length else 0 := by unfold lessN; rw [if_pos hx]
    rw [if_pos hx, hl, hN]
    unfold Bd
    rw [← view_len, e2, e3]
    unfold Bd at h
    rw [← e0] at h
    rw [e1, ← view_len]
    have hcl : (view S).length < 402 := by rw [view_len]; omega
    rw [← view_len] at h
    have e4 : (vAll (vDrop (view S) x)).length = (vAll (vKill (view S) x)).length := by rw [vAll_drop, vAll_kill]
    have e5 : (vDrop (view S) x).length = if 2 * (vAll (vKill (view S) x)).length < (view S).length then (vAll (vKill (view S) x)).length else (view S).length := by
      unfold vDrop
      split
      · rw [List.length_map]
      · rw [vKill_len]
    rw [e4, e5]
    generalize (vAll (vKill (view S) x)).length = v at *
    by_cases hv : 2 * v < (view S).length
    · rw [if_pos hv, if_pos hv]
      exact ⟨bd_anew h hv hcl, rfl⟩
    · rw [if_neg hv, if_neg hv]
      exact ⟨bd_keep h hv, rfl⟩
  · unfold lessS lessN
    rw [if_neg hx, if_neg hx, if_neg hx]
    exact ⟨h, rfl⟩
end Go.Proofs.Ytkhgglafnjfiaaa
