/- rank.First: the place, and just how many places are looked at. -/
import Derived.Test.YtclbdegkfjedjaaGreatFst
namespace Go.Proofs.YtclbdegkfjedjaaGreat
open Go.RowKit

/-- How many places are looked at from f to t, where the place sought is p. -/
def lookN (f t p : Nat) : Nat := if f < t then 1 + (if f + (t - f) / 2 < p then lookN (f + (t - f) / 2 + 1) t p else lookN f (f + (t - f) / 2) p) else 0
termination_by t - f
decreasing_by
  all_goals omega

theorem lookN_step {f t p c : Nat} (h : f < t) (hc : f + (t - f) / 2 = c) : lookN f t p = 1 + (if c < p then lookN (c + 1) t p else lookN f c p) := by
  rw [lookN, if_pos h, hc]
theorem lookN_end {f t p : Nat} (h : ¬ f < t) : lookN f t p = 0 := by rw [lookN, if_neg h]

theorem lookN_le : ∀ (d f t p : Nat), t - f ≤ d → lookN f t p ≤ bitsN (t - f)
  | 0, f, t, p, hd => by rw [lookN_end (by omega)]; exact Nat.zero_le _
  | d + 1, f, t, p, hd => by
    by_cases h : f < t
    · obtain ⟨c, hc⟩ : ∃ c, f + (t - f) / 2 = c := ⟨_, rfl⟩
      rw [lookN_step h hc]
      split
      · have h1 := lookN_le d (c + 1) t p (by omega)
        have h2 := bits_half (t - f) (t - (c + 1)) (by omega) (by omega)
        omega
      · have h1 := lookN_le d f c p (by omega)
        have h2 := bits_half (t - f) (c - f) (by omega) (by omega)
        omega
    · rw [lookN_end h]; exact Nat.zero_le _

set_option maxRecDepth 100000 in
set_option maxHeartbeats 1000000 in
theorem begins_firstS (bl bx : Nat) (v : Value) (L : List Int) (x : Int) (w : World) (hs : L.Pairwise (· ≤ ·)) (hc1 : w.cell? ⟨bl, 0, none⟩ = some v) (hc2 : w.cell? ⟨bx, 0, none⟩ = some (.int .i64 x)) (h : See KL w v L) (hl : L.length < 4611686018427387904) :
    Calls Tryz.prog 52 #[.int .i64 (L.length : Int), .func (.func 53) #[] #[.pointer (some ⟨bl, 0, none⟩), .pointer (some ⟨bx, 0, none⟩)]] w fun e w' =>
      e = .returned (.tuple #[.int .i64 (below L x : Nat), .int .i64 (lookN 0 L.length (below L x) : Nat)]) ∧ ∃ n, w' = w.drewN n := by
  obtain ⟨n, hn⟩ : ∃ n, L.length = n := ⟨_, rfl⟩
  obtain ⟨p, hp⟩ : ∃ p, below L x = p := ⟨_, rfl⟩
  have hpn := below_le L x
  have hat := below_at hs x
  rw [hp] at hpn hat ⊢
  rw [hn] at hl hpn ⊢
  have hb62 : bitsN n ≤ 62 := bitsN_le n 62 (by omega)
  have HC1 := Lib.hid hc1
  have HC2 := Lib.hid hc2
  have HH := Lib.hid h
  have HN := Lib.hid hn
  have HAT := Lib.hid hat
  clear hc1 hc2 h hn hat hs hp
  go_enter Tryz.func52, Tryz.ntmps52
  go_wp2_with fail
  go_loopg [6, 7, 8] n (fun m s6 s7 s8 wr => ∃ (f t k q : Nat), m = t - f ∧ f ≤ p ∧ p ≤ t ∧ t ≤ n ∧ s6 = .int .i64 (f : Int) ∧ s7 = .int .i64 (t : Int) ∧ s8 = .int .i64 (k : Int) ∧ k + lookN f t p = lookN 0 n p ∧ wr = w.drewN q)
  case atStart => exact ⟨0, n, 0, 0, rfl, Nat.zero_le _, hpn, Nat.le_refl _, rfl, rfl, rfl, by simp, rfl⟩
  case round =>
    obtain ⟨f, t, k, q, hm, hfp, hpt, htn, rfl, rfl, rfl, hk, rfl⟩ := hrel
    by_cases hft : f < t
    · obtain ⟨c, hc⟩ : ∃ c, f + (t - f) / 2 = c := ⟨_, rfl⟩
      have hcv : Value.int .i64 ((f : Int) + ((t : Int) - (f : Int)) / 2) = Value.int .i64 (c : Int) := by congr 1; omega
      have hct : c < t := by omega
      have hfc : f ≤ c := by omega
      obtain ⟨y, hy⟩ : ∃ y, L[c]? = some y := ⟨L[c]'(by rw [HN.out]; omega), List.getElem?_eq_getElem _⟩
      have hiff := HAT.out c y hy
      have hd1 : c - f ≤ (t - f) / 2 := by omega
      have hd2 : t - (c + 1) ≤ (t - f) / 2 := by omega
      have hk1 : p ≤ c → k + 1 + lookN f c p = lookN 0 n p := fun hh => by rw [lookN_step hft hc, if_neg (by omega)] at hk; omega
      have hk2 : c < p → k + 1 + lookN (c + 1) t p = lookN 0 n p := fun hh => by rw [lookN_step hft hc, if_pos hh] at hk; omega
      have hkb : k ≤ 62 := by
        have := lookN_le n 0 n p (by omega)
        rw [Nat.sub_zero] at this
        omega
      have HM := Lib.hid hm
      have HK1 := Lib.hid hk1
      have HK2 := Lib.hid hk2
      have HY := Lib.hid hy
      have HIFF := Lib.hid hiff
      have HCC := Lib.hid hc
      clear hm hk hk1 hk2 hy hiff hc hd1 hd2
      go_wp2_with fail
      refine (first_so bl bx v L x y c (w.drewN q) HC1.out HC2.out (HH.out.upd0 ((Upd.refl [] w).drewN q)) HY.out).mono ?_
      rintro e w' ⟨rfl, q2, rfl⟩
      obtain ⟨bb, hbb⟩ : ∃ bb, decide (x ≤ y) = bb := ⟨_, rfl⟩
      rw [hbb]
      have HBB := Lib.hid hbb
      clear hbb
      cases bb
      · have hlt : c < p := by
          have h1 := of_decide_eq_false HBB.out
          exact HIFF.out.1 (by omega)
        go_wp2_with fail
        go_roundg (t - (c + 1))
        case measure => have := HM.out; omega
        case rel => exact ⟨c + 1, t, k + 1, q + q2, rfl, by omega, hpt, htn, by go_num, rfl, by go_num, HK2.out hlt, rfl⟩
      · have hge : p ≤ c := by
          have h1 := of_decide_eq_true HBB.out
          refine Nat.le_of_not_lt fun h => ?_
          have := HIFF.out.2 h
          omega
        go_wp2_with fail
        go_roundg (c - f)
        case measure => have := HM.out; have := HCC.out; omega
        case rel => exact ⟨f, c, k + 1, q + q2, rfl, hfp, hge, by omega, rfl, rfl, by go_num, HK1.out hge, rfl⟩
    · have hfe : f = p := by omega
      have HFE := Lib.hid hfe
      have HKK := Lib.hid (show k = lookN 0 n p by rw [lookN_end hft] at hk; omega)
      clear hfe hk hm
      go_wp2_with fail
      go_ret2
      exact ⟨by rw [← HKK.out, ← HFE.out]; rfl, q, rfl⟩

set_option maxRecDepth 100000 in
set_option maxHeartbeats 400000 in
theorem firstS (v : Value) (L : List Int) (x : Int) (w : World) (hs : L.Pairwise (· ≤ ·)) (h : See KL w v L) (hl : L.length < 4611686018427387904) :
    Calls Tryz.prog 39 #[v, .int .i64 x] w fun e w' => e = .returned (.tuple #[.int .i64 (below L x : Nat), .int .i64 (lookN 0 L.length (below L x) : Nat)]) ∧ Upd [] w w' := by
  obtain ⟨A, C, rfl⟩ := h.form
  have hu : Upd [] w ((w.alloc (.cells #[.slice A L.length C] 23)).alloc (.cells #[.int .i64 x] 2)) := ((Upd.refl _ _).alloc _).alloc _
  have hc1 : ((w.alloc (.cells #[.slice A L.length C] 23)).alloc (.cells #[.int .i64 x] 2)).cell? ⟨w.heap.size, 0, none⟩ = some (.slice A L.length C) := by
    rw [World.cell?_alloc_past _ _ _ (by simp), World.cell?_alloc_at _ _ _ _ rfl]; rfl
  have hc2 : ((w.alloc (.cells #[.slice A L.length C] 23)).alloc (.cells #[.int .i64 x] 2)).cell? ⟨w.heap.size + 1, 0, none⟩ = some (.int .i64 x) := by
    rw [World.cell?_alloc_at _ _ _ _ (by simp)]; rfl
  have hb := begins_firstS w.heap.size (w.heap.size + 1) _ L x _ hs hc1 hc2 (h.upd0 hu) hl
  have HB := Lib.hid hb
  have HU := Lib.hid hu
  clear hb hu h hc1 hc2 hs
  go_enter Tryz.func39, Tryz.ntmps39
  go_wp2_with fail
  refine HB.out.mono ?_
  rintro e w' ⟨rfl, q, rfl⟩
  go_wp2_with fail
  go_ret2
  exact ⟨rfl, HU.out.drewN q⟩
end Go.Proofs.YtclbdegkfjedjaaGreat
