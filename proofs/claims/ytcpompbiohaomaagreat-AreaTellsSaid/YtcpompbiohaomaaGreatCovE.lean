/- A cover, plainly: how many nodes are entered, at most. No program. -/
import Derived.Test.YtcpompbiohaomaaGreatCovP
import Derived.Test.YtcpompbiohaomaaGreatSetB
namespace Go.Proofs.YtcpompbiohaomaaGreat

/-- How often n can be halved. -/
def lg (n : Nat) : Nat := bitsN (n - 1)

theorem bits_halfL (d e : Nat) (hd : 0 < d) (he : e ≤ d / 2) : bitsN e + 1 ≤ bitsN d := by
  have h1 := bitsN_lt d
  have hb : bitsN d ≠ 0 := fun h => by rw [h] at h1; omega
  obtain ⟨b, hbb⟩ : ∃ b, bitsN d = b + 1 := ⟨bitsN d - 1, by omega⟩
  rw [hbb] at h1 ⊢
  have : bitsN e ≤ b := bitsN_le e b (by rw [Nat.pow_succ] at h1; omega)
  omega

theorem lg_left {f t : Nat} (h : f + 1 < t) : lg (mid f t - f) + 1 ≤ lg (t - f) := bits_halfL _ _ (by omega) (by unfold mid; omega)
theorem lg_right {f t : Nat} (h : f + 1 < t) : lg (t - mid f t) + 1 ≤ lg (t - f) := bits_halfL _ _ (by omega) (by unfold mid; omega)

theorem ent_pos (a b f t : Nat) : 0 < ent a b f t := by
  rw [ent]; split
  · omega
  · split
    · omega
    · split <;> omega

theorem ent_leaf {a b f t : Nat} (h : ¬ f + 1 < t) : ent a b f t = 1 := by
  rw [ent]
  by_cases h0 : t ≤ a ∨ b ≤ f
  · rw [if_pos h0]
  · rw [if_neg h0]
    by_cases h1 : a ≤ f ∧ t ≤ b
    · rw [if_pos h1]
    · rw [if_neg h1, dif_neg h]

theorem ent_pre {a b : Nat} : ∀ (d f t : Nat), t - f ≤ d → a ≤ f → ent a b f t ≤ 2 * lg (t - f) + 1 := by
  intro d
  induction d with
  | zero => intro f t hd ha; rw [ent_leaf (by omega)]; omega
  | succ d ih =>
    intro f t hd ha
    by_cases h1 : t ≤ a ∨ b ≤ f
    · rw [ent_out h1]; omega
    · by_cases h2 : a ≤ f ∧ t ≤ b
      · rw [ent_in h2]; omega
      · by_cases h : f + 1 < t
        · have hm := mid_in h
          have g1 := lg_left h
          have g2 := lg_right h
          rw [ent_node h1 h2 h]
          by_cases hb : mid f t ≤ b
          · rw [ent_in (t := mid f t) ⟨ha, hb⟩]
            have := ih (mid f t) t (by omega) (by omega)
            omega
          · rw [ent_out (f := mid f t) (.inr (by omega))]
            have := ih f (mid f t) (by omega) ha
            omega
        · rw [ent_leaf h]; omega

theorem ent_suf {a b : Nat} : ∀ (d f t : Nat), t - f ≤ d → t ≤ b → ent a b f t ≤ 2 * lg (t - f) + 1 := by
  intro d
  induction d with
  | zero => intro f t hd ha; rw [ent_leaf (by omega)]; omega
  | succ d ih =>
    intro f t hd ha
    by_cases h1 : t ≤ a ∨ b ≤ f
    · rw [ent_out h1]; omega
    · by_cases h2 : a ≤ f ∧ t ≤ b
      · rw [ent_in h2]; omega
      · by_cases h : f + 1 < t
        · have hm := mid_in h
          have g1 := lg_left h
          have g2 := lg_right h
          rw [ent_node h1 h2 h]
          by_cases hb : a ≤ mid f t
          · rw [ent_in (f := mid f t) ⟨hb, ha⟩]
            have := ih f (mid f t) (by omega) (by omega)
            omega
          · rw [ent_out (t := mid f t) (.inl (by omega))]
            have := ih (mid f t) t (by omega) ha
            omega
        · rw [ent_leaf h]; omega

theorem ent_any {a b : Nat} : ∀ (d f t : Nat), t - f ≤ d → ent a b f t ≤ 4 * lg (t - f) + 1 := by
  intro d
  induction d with
  | zero => intro f t hd; rw [ent_leaf (by omega)]; omega
  | succ d ih =>
    intro f t hd
    by_cases h1 : t ≤ a ∨ b ≤ f
    · rw [ent_out h1]; omega
    · by_cases h2 : a ≤ f ∧ t ≤ b
      · rw [ent_in h2]; omega
      · by_cases h : f + 1 < t
        · have hm := mid_in h
          have g1 := lg_left h
          have g2 := lg_right h
          rw [ent_node h1 h2 h]
          by_cases hb : b ≤ mid f t
          · rw [ent_out (f := mid f t) (.inr hb)]
            have := ih f (mid f t) (by omega)
            omega
          · by_cases hb2 : mid f t ≤ a
            · rw [ent_out (t := mid f t) (.inl hb2)]
              have := ih (mid f t) t (by omega)
              omega
            · have e1 := ent_suf (a := a) (b := b) (mid f t - f) f (mid f t) (Nat.le_refl _) (by omega)
              have e2 := ent_pre (a := a) (b := b) (t - mid f t) (mid f t) t (Nat.le_refl _) (by omega)
              omega
        · rw [ent_leaf h]; omega
end Go.Proofs.YtcpompbiohaomaaGreat
