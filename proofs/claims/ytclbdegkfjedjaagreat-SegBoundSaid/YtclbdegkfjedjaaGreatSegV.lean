/- Chapter 8 plainly: how many nodes a span stands at; how much a stab touches. No program but for the tree's own functions. -/
import Derived.Test.YtclbdegkfjedjaaGreatSegM
namespace Go.Proofs.YtclbdegkfjedjaaGreat
open Go.RowKit

theorem bitsN_mono {a b : Nat} (h : a ≤ b) : bitsN a ≤ bitsN b := bitsN_le a _ (Nat.lt_of_le_of_lt h (bitsN_lt b))
theorem lg_mono {a b : Nat} (h : a ≤ b) : lg a ≤ lg b := bitsN_mono (by omega)

theorem lg_pos {n : Nat} (h : 2 ≤ n) : 1 ≤ lg n := by
  have h1 := bitsN_lt (n - 1)
  refine Nat.pos_of_ne_zero fun hc => ?_
  unfold lg at hc
  rw [hc] at h1
  omega

/-- Of a range that begins, or ends, with the node: few. -/
theorem canonL_pre : ∀ (d a b f t o : Nat), t - f ≤ d → f < t → a ≤ f → (canonL a b f t o).length ≤ lg (t - f) + 1
  | 0, _, _, _, _, _, hd, hft, _ => by omega
  | d + 1, a, b, f, t, o, hd, hft, ha => by
    by_cases h : t ≤ a ∨ b ≤ f
    · rw [canonL_out h]; simp
    · by_cases h1 : a ≤ f ∧ t ≤ b
      · rw [canonL_in h h1]; simp
      · have h2 : f + 1 < t := by omega
        have hm := mid_in h2
        rw [canonL_node h h1 h2, List.length_append]
        have l1 := lg_left h2
        have l2 := lg_right h2
        by_cases hb : mid f t ≤ b
        · have e1 : (canonL a b f (mid f t) o).length ≤ 1 := by rw [canonL_in (by omega) ⟨ha, hb⟩]; simp
          have e2 := canonL_pre d a b (mid f t) t (o + 2 * (mid f t - f) - 1) (by omega) hm.2 (by omega)
          omega
        · have e1 := canonL_pre d a b f (mid f t) o (by omega) hm.1 ha
          have e2 : canonL a b (mid f t) t (o + 2 * (mid f t - f) - 1) = [] := canonL_out (.inr (by omega))
          rw [e2, List.length_nil]
          omega

theorem canonL_suf : ∀ (d a b f t o : Nat), t - f ≤ d → f < t → t ≤ b → (canonL a b f t o).length ≤ lg (t - f) + 1
  | 0, _, _, _, _, _, hd, hft, _ => by omega
  | d + 1, a, b, f, t, o, hd, hft, hb => by
    by_cases h : t ≤ a ∨ b ≤ f
    · rw [canonL_out h]; simp
    · by_cases h1 : a ≤ f ∧ t ≤ b
      · rw [canonL_in h h1]; simp
      · have h2 : f + 1 < t := by omega
        have hm := mid_in h2
        rw [canonL_node h h1 h2, List.length_append]
        have l1 := lg_left h2
        have l2 := lg_right h2
        by_cases ha : a ≤ mid f t
        · have e1 : (canonL a b (mid f t) t (o + 2 * (mid f t - f) - 1)).length ≤ 1 := by rw [canonL_in (by omega) ⟨ha, hb⟩]; simp
          have e2 := canonL_suf d a b f (mid f t) o (by omega) hm.1 (by omega)
          omega
        · have e1 := canonL_suf d a b (mid f t) t (o + 2 * (mid f t - f) - 1) (by omega) hm.2 hb
          have e2 : canonL a b f (mid f t) o = [] := canonL_out (.inl (by omega))
          rw [e2, List.length_nil]
          omega

theorem canonL_two : ∀ (d a b f t o : Nat), t - f ≤ d → f + 1 < t → (canonL a b f t o).length ≤ 2 * lg (t - f)
  | 0, _, _, _, _, _, hd, hft => by omega
  | d + 1, a, b, f, t, o, hd, h2 => by
    have lp := lg_pos (n := t - f) (by omega)
    by_cases h : t ≤ a ∨ b ≤ f
    · rw [canonL_out h]; simp
    · by_cases h1 : a ≤ f ∧ t ≤ b
      · rw [canonL_in h h1]; simp; omega
      · have hm := mid_in h2
        rw [canonL_node h h1 h2, List.length_append]
        have l1 := lg_left h2
        have l2 := lg_right h2
        by_cases ha : mid f t ≤ a
        · have e2 : canonL a b f (mid f t) o = [] := canonL_out (.inl ha)
          rw [e2, List.length_nil]
          by_cases h3 : mid f t + 1 < t
          · have := canonL_two d a b (mid f t) t (o + 2 * (mid f t - f) - 1) (by omega) h3
            omega
          · have := canonL_len (t - mid f t) a b (mid f t) t (o + 2 * (mid f t - f) - 1) (Nat.le_refl _) hm.2
            omega
        · by_cases hb : b ≤ mid f t
          · have e2 : canonL a b (mid f t) t (o + 2 * (mid f t - f) - 1) = [] := canonL_out (.inr hb)
            rw [e2, List.length_nil]
            by_cases h3 : f + 1 < mid f t
            · have := canonL_two d a b f (mid f t) o (by omega) h3
              omega
            · have := canonL_len (mid f t - f) a b f (mid f t) o (Nat.le_refl _) hm.1
              omega
          · have e1 := canonL_suf (mid f t - f) a b f (mid f t) o (Nat.le_refl _) hm.1 (by omega)
            have e2 := canonL_pre (t - mid f t) a b (mid f t) t (o + 2 * (mid f t - f) - 1) (Nat.le_refl _) hm.2 (by omega)
            omega

/-- At how many nodes one span stands. -/
theorem nodesS_many {E : List Int} {N : Nat} (h : E.Pairwise (· < ·)) (hl : E.length ≤ 2 * N) {x : Sp} (hx : SpOk E x) : 1 ≤ (nodesS E x).length ∧ (nodesS E x).length ≤ 2 * lg (4 * N + 4) := by
  have h1 := nodesS_pos h (spInS_ok h hx)
  refine ⟨h1.2.2, ?_⟩
  have hp := lg_pos (n := 4 * N + 4) (by omega)
  have h0 : 0 < E.length := List.length_pos_of_mem hx.1
  unfold nodesS
  by_cases hn : 1 < nSl E
  · have h2 := canonL_two (nSl E) (2 * below E x.lo) (2 * below E x.hi + 1) 0 (nSl E) 0 (by omega) (by omega)
    have h3 : lg (nSl E - 0) ≤ lg (4 * N + 4) := lg_mono (by unfold nSl; omega)
    omega
  · have h2 := canonL_len (nSl E) (2 * below E x.lo) (2 * below E x.hi + 1) 0 (nSl E) 0 (by omega) (by unfold nSl at *; omega)
    omega

theorem filter_range (K : Nat) {L : List Nat} (hn : L.Nodup) (hl : ∀ k ∈ L, k < K) : ((List.range K).filter fun k => decide (k ∈ L)).length = L.length := by
  refine List.Perm.length_eq ((List.perm_ext_iff_of_nodup (List.Nodup.sublist List.filter_sublist List.nodup_range) hn).2 fun k => ?_)
  rw [List.mem_filter, List.mem_range]
  constructor
  · rintro ⟨-, h⟩; simpa using h
  · intro h; exact ⟨hl k h, by simpa using h⟩

theorem sum_filter (q : Nat → Sp → Bool) (R : List Nat) : ∀ S : List Sp, (R.map fun k => (S.filter (q k)).length).sum = (S.map fun s => (R.filter fun k => q k s).length).sum
  | [] => by induction R with
    | nil => rfl
    | cons k R ih => simpa using ih
  | s :: S => by
    rw [List.map_cons, List.sum_cons, ← sum_filter q R S]
    clear sum_filter
    induction R with
    | nil => rfl
    | cons k R ih =>
      rw [List.map_cons, List.sum_cons, ih, List.map_cons, List.sum_cons, List.filter_cons, List.filter_cons]
      by_cases hq : q k s = true
      · rw [if_pos hq, if_pos hq, List.length_cons, List.length_cons]; omega
      · rw [if_neg hq, if_neg hq]; omega

/-- The weight of a tree. -/
theorem weightS_many {E : List Int} {N : Nat} (h : E.Pairwise (· < ·)) (hl : E.length ≤ 2 * N) {S : List Sp} (hS : ∀ s ∈ S, SpOk E s) : S.length ≤ weightS E S ∧ weightS E S ≤ S.length * (2 * lg (4 * N + 4)) := by
  have e : weightS E S = (S.map fun s => (nodesS E s).length).sum := by
    unfold weightS atS
    rw [List.map_map]
    have := sum_filter (fun k s => decide (k ∈ nodesS E s)) (List.range (2 * nSl E - 1)) S
    refine Eq.trans ?_ (this.trans ?_)
    · rfl
    · congr 1
      refine List.map_congr_left fun s hs => ?_
      obtain ⟨h1, h2⟩ := nodesS_lt h (hS s hs)
      exact filter_range _ h1 h2
  rw [e]
  clear e
  induction S with
  | nil => simp
  | cons s S ih =>
    have h1 := nodesS_many h hl (hS s (by simp))
    have h2 := ih fun t ht => hS t (List.mem_cons_of_mem _ ht)
    rw [List.map_cons, List.sum_cons, List.length_cons, Nat.succ_mul]
    omega

/-- How much is touched on the way. -/
theorem touchV_many {E : List Int} {N : Nat} (h : E.Pairwise (· < ·)) (hl : E.length ≤ 2 * N) (x : Int) : touchV E x ≤ 2 * lg (4 * N + 4) + 2 := by
  unfold touchV
  split
  · rename_i hb
    obtain ⟨a, z, h1, h2, h3⟩ := betwS_true hb
    have hs := (slot_facts h h1 h2 h3).1
    have g1 := lookN_le E.length 0 E.length (below E x) (by omega)
    have g2 := pathL_len (nSl E) (slotX E x) 0 (nSl E) 0 (by omega) (Nat.zero_le _) hs
    have g3 : bitsN (E.length - 0) ≤ lg (4 * N + 4) := bitsN_mono (by omega)
    have g4 : lg (nSl E - 0) ≤ lg (4 * N + 4) := lg_mono (by unfold nSl; omega)
    unfold touchS pathS
    omega
  · omega
end Go.Proofs.YtclbdegkfjedjaaGreat
