/- CoverParts: the walk. -/
import Derived.Test.YthkiljfjjnckaaaCovd
import Derived.Test.YthkiljfjjnckaaaSqz
namespace Go.Proofs.Ythkiljfjjnckaaa
open Go.RowKit
attribute [local go_sem ↓] Go.wp_at_zero Go.wp_at_succ

theorem mf_mono {M : List Int} (h : M.Pairwise (· < ·)) {i j : Nat} (hij : i ≤ j) (hj : j < M.length) : mf M i ≤ mf M j := by
  rcases Nat.lt_or_ge i j with h1 | h1
  · exact Int.le_of_lt (mf_rise h h1 hj)
  · have : i = j := by omega
    rw [this]; exact Int.le_refl _

theorem mf_max {M : List Int} (h : M.Pairwise (· < ·)) {x a : Nat} (hx : x < M.length) (ha : a < M.length) : max (mf M x) (mf M a) = mf M (max x a) := by
  rcases Nat.lt_or_ge x a with h1 | h1
  · have := mf_mono h (Nat.le_of_lt h1) ha
    rw [Nat.max_eq_right (by omega)]; omega
  · have := mf_mono h h1 hx
    rw [Nat.max_eq_left h1]; omega

theorem mf_min {M : List Int} (h : M.Pairwise (· < ·)) {z b : Nat} (hz : z < M.length) (hb : b < M.length) : min (mf M z) (mf M b) = mf M (min z b) := by
  rcases Nat.lt_or_ge b z with h1 | h1
  · have := mf_mono h (Nat.le_of_lt h1) hz
    rw [Nat.min_eq_right (by omega)]; omega
  · have := mf_mono h h1 hb
    rw [Nat.min_eq_left h1]; omega

theorem parts_gaps (M : List Int) (H : List (Nat × Nat)) {a m b : Nat} (h1 : a ≤ m) (h2 : m ≤ b) : gapsH M ((a, b) :: H) = gapsH M ((m, b) :: (a, m) :: H) := by
  unfold gapsH
  apply List.map_congr_left
  intro i _
  unfold holdsG
  simp only [List.any_cons]
  rw [← Bool.or_assoc]
  congr 1
  rw [Bool.eq_iff_iff]
  simp only [Bool.and_eq_true, Bool.or_eq_true, decide_eq_true_eq]
  omega

theorem sqz_ok {l : List Int} (hl : (sqz l).length < 400000) (hwf : ∀ x ∈ l, -9223372036854775808 ≤ x ∧ x ≤ 9223372036854775807) : MarksOk (sqz l) := ⟨sqz_rise _, fun x hx => hwf x (sqz_mem hx), hl⟩

set_option maxRecDepth 100000 in
set_option maxHeartbeats 8000000 in
theorem coverParts_walk (v vl : Value) (l : List Int) (L : List (Nat × Nat)) (pa pb t : Nat) (w : World) (hs : See KL w v l) (hwf : ∀ x ∈ l, -9223372036854775808 ≤ x ∧ x ≤ 9223372036854775807) (hlb : l.length * 8 ≤ 140737488355328)
    (hL : See KPr w vl L) (hLw : ∀ p ∈ L, p.1 < 65536 ∧ p.2 < 65536) (hpa : pa < 65536) (hpb : pb < 65536) (ht : t < 65536) :
    Calls Try.prog 12 #[v, vl, .agg #[.int .u16 (pa : Int), .int .u16 (pb : Int)], .int .u16 (t : Int)] w fun e w' => e = .returned (.bool true) ∧ Below w.heap.size w w' := by
  obtain ⟨Av, Cv, rfl⟩ := hs.form
  obtain ⟨Al, Cl, rfl⟩ := hL.form
  have hu0 : Upd [] w (w.alloc (.cells #[.int .u16 (pa : Int), .int .u16 (pb : Int)] 57)) := (Upd.refl _ _).alloc _
  have hsq := squeezeC _ l _ (hs.upd0 hu0) hlb
  unfold SqzPost at hsq
  obtain ⟨M, hM⟩ : ∃ M, sqz l = M := ⟨_, rfl⟩
  obtain ⟨n, hn⟩ : ∃ n, M.length = n := ⟨_, rfl⟩
  have hle := sqz_len l
  rw [hM, hn] at hle
  rw [hM, hn] at hsq
  have hcc : ∀ k, k < 2 → (w.alloc (.cells #[.int .u16 (pa : Int), .int .u16 (pb : Int)] 57)).cell? ⟨w.heap.size, k, none⟩ = #[Value.int .u16 (pa : Int), .int .u16 (pb : Int)][k]? := fun k _ => World.cell?_alloc_at _ _ _ _ rfl
  have c0 := hcc 0 (by omega)
  have c1 := hcc 1 (by omega)
  simp only [List.getElem?_toArray, List.getElem?_cons_zero, List.getElem?_cons_succ] at c0 c1
  have hs0 : w.heap.size < (w.alloc (.cells #[.int .u16 (pa : Int), .int .u16 (pb : Int)] 57)).heap.size := by simp
  have HSQ := Lib.hid hsq
  have HU0 := Lib.hid hu0
  have HC0 := Lib.hid (And.intro c0 (And.intro c1 hs0))
  have HM := Lib.hid (And.intro hM (And.intro hn hle))
  have HL := Lib.hid hL
  have HLW := Lib.hid hLw
  have HWF := Lib.hid hwf
  have HP := Lib.hid (And.intro hpa (And.intro hpb ht))
  clear hcc c0 c1 hs0 hsq hu0 hM hn hle hL hLw hwf hpa hpb ht hs hlb
  by_cases hgo : 200 < l.length ∨ n < 2 ∨ 30 < L.length
  · have HGO := Lib.hid hgo
    clear hgo
    by_cases e1 : 200 < l.length
    · have d1 : decide ((200 : Int) < (l.length : Int)) = true := decide_eq_true (by omega)
      clear e1
      go_enter Try.func12, Try.ntmps12
      go_wp2_with fail
      (with_reducible refine HSQ.out.mono ?_)
      rintro e w1 ⟨A, C, rfl, hrow, hu1⟩
      have HU1 := Lib.hid (HU0.out.trans hu1)
      clear hrow hu1
      go_wp2_with fail
      (with_reducible refine (awake16 _).mono ?_)
      rintro e w2 ⟨rfl, hu⟩
      have HU2 := Lib.hid (HU1.out.trans hu)
      clear hu
      go_wp2_with fail
      go_ret
      exact ⟨rfl, HU2.out.below⟩
    · have d1 : decide ((200 : Int) < (l.length : Int)) = false := decide_eq_false (by omega)
      clear e1
      by_cases e2 : n < 2
      · have d2 : decide (n < 2) = true := decide_eq_true e2
        have d2' : decide ((n : Int) < 2) = true := decide_eq_true (by omega)
        clear e2
        go_enter Try.func12, Try.ntmps12
        go_wp2_with fail
        (with_reducible refine HSQ.out.mono ?_)
        rintro e w1 ⟨A, C, rfl, hrow, hu1⟩
        have HU1 := Lib.hid (HU0.out.trans hu1)
        clear hrow hu1
        go_wp2_with fail
        (with_reducible refine (awake16 _).mono ?_)
        rintro e w2 ⟨rfl, hu⟩
        have HU2 := Lib.hid (HU1.out.trans hu)
        clear hu
        go_wp2_with fail
        go_ret
        exact ⟨rfl, HU2.out.below⟩
      · have d2 : decide (n < 2) = false := decide_eq_false e2
        have d2' : decide ((n : Int) < 2) = false := decide_eq_false (by omega)
        have d3 : decide ((30 : Int) < (L.length : Int)) = true := decide_eq_true (by
          rcases HGO.out with h | h | h
          · have := of_decide_eq_false d1; omega
          · omega
          · omega)
        clear e2
        go_enter Try.func12, Try.ntmps12
        go_wp2_with fail
        (with_reducible refine HSQ.out.mono ?_)
        rintro e w1 ⟨A, C, rfl, hrow, hu1⟩
        have HU1 := Lib.hid (HU0.out.trans hu1)
        clear hrow hu1
        go_wp2_with fail
        (with_reducible refine (awake16 _).mono ?_)
        rintro e w2 ⟨rfl, hu⟩
        have HU2 := Lib.hid (HU1.out.trans hu)
        clear hu
        go_wp2_with fail
        go_ret
        exact ⟨rfl, HU2.out.below⟩
  · have hg1 : l.length ≤ 200 := by omega
    have hg2 : 2 ≤ n := by omega
    have hg3 : L.length ≤ 30 := by omega
    have d1 : decide ((200 : Int) < (l.length : Int)) = false := decide_eq_false (by omega)
    have d2 : decide (n < 2) = false := decide_eq_false (by omega)
    have d2' : decide ((n : Int) < 2) = false := decide_eq_false (by omega)
    have d3 : decide ((30 : Int) < (L.length : Int)) = false := decide_eq_false (by omega)
    have hok : MarksOk M := by have h := HM.out; rw [← h.1]; refine sqz_ok ?_ HWF.out; rw [h.1, h.2.1]; have := h.2.2; omega
    have HG := Lib.hid (And.intro hg1 (And.intro hg2 hg3))
    have HOK := Lib.hid hok
    clear hgo hg1 hg2 hg3 hok
    go_enter Try.func12, Try.ntmps12
    go_wp2_with fail
    (with_reducible refine HSQ.out.mono ?_)
    rintro e w1 ⟨A, C, rfl, hrow, hu1⟩
    have hsee : See KL w1 (.slice A n C) M := by have := See.of_row hrow; exact this
    have HSEE := Lib.hid hsee
    have HU1 := Lib.hid hu1
    have hca := coveredC _ _ M L w1 hsee HOK.out (by rw [HM.out.2.1]; have := HG.out; omega) (HL.out.upd0 (HU0.out.trans hu1)) (by have := HG.out; omega) HLW.out
    have HCA := Lib.hid hca
    clear hca hsee hrow hu1
    go_wp2_with fail
    (with_reducible refine HCA.out.mono ?_)
    rintro e w2 ⟨ba, FA, NA, rfl, hcA, hNA, hu2, hFA⟩
    have hcb := coveredC _ _ M L w2 (HSEE.out.upd0 hu2) HOK.out (by rw [HM.out.2.1]; have := HG.out; omega) (HL.out.upd0 ((HU0.out.trans HU1.out).trans hu2)) (by have := HG.out; omega) HLW.out
    have HCB := Lib.hid hcb
    have HA2 := Lib.hid (And.intro hcA (And.intro hNA hFA))
    have HU2 := Lib.hid (HU1.out.trans hu2)
    have HU2b := Lib.hid hu2
    clear hcb hcA hNA hu2 hFA
    go_wp2_with fail
    (with_reducible refine HCB.out.mono ?_)
    rintro e w3 ⟨bb, FB, NB, rfl, hcB, hNB, hu3, hFB⟩
    have hU3 := HU2.out.trans hu3
    have hAB : ∀ y ∈ FB, y ∉ FA := fun y hy hc => by have := hFB y hy; have := HA2.out.1.lt y hc; omega
    have c0 := (hU3.cell (p := ⟨w.heap.size, 0, none⟩) HC0.out.2.2 (by simp)).trans HC0.out.1
    have c1 := (hU3.cell (p := ⟨w.heap.size, 1, none⟩) HC0.out.2.2 (by simp)).trans HC0.out.2.1
    have hsee3 : See KL w3 (.slice A n C) M := (HSEE.out.upd0 HU2b.out).upd0 hu3
    have hn := HM.out.2.1
    have hn2 := HG.out.2.1
    have hpo := pairOf _ M pa pb w3 hsee3 (by omega) (by have := HOK.out.len; omega) HP.out.1 HP.out.2.1
    have hin := pairP_in (M := M) pa pb (by omega)
    obtain ⟨s, hs⟩ : ∃ s, pairP M pa pb = s := ⟨_, rfl⟩
    rw [hs] at hpo hin
    obtain ⟨a, b⟩ := s
    unfold ofPost at hpo
    dsimp only at hpo hin
    obtain ⟨x, hx⟩ : ∃ x, t % n = x := ⟨_, rfl⟩
    have hxn : x < M.length := by rw [← hx, hn]; exact Nat.mod_lt _ (by omega)
    obtain ⟨gm, om, hA, -, -, q1⟩ := KL.at hsee3 (mf_get hxn)
    subst hA
    obtain ⟨z, hz⟩ : ∃ z, max x a = z := ⟨_, rfl⟩
    have hzn : z < M.length := by omega
    obtain ⟨m, hm⟩ : ∃ m, min z b = m := ⟨_, rfl⟩
    have hma : a ≤ m := by omega
    have hmb : m ≤ b := by omega
    have hmx := mf_max HOK.out.rise hxn (show a < M.length by omega)
    have hmn := mf_min HOK.out.rise hzn hin.2
    rw [hz] at hmx
    rw [hm] at hmn
    have p1 := pair_add HOK.out.rise (covH M L) (s := (a, b)) hin
    have p2 := pair_add HOK.out.rise (covH M L) (s := (a, m)) ⟨hma, by dsimp only; omega⟩
    have p3 := pair_add HOK.out.rise ((a, m) :: covH M L) (s := (m, b)) ⟨hmb, hin.2⟩
    have hg := parts_gaps M (covH M L) hma hmb
    have ok0 := covH_ok L (show 0 < M.length by omega)
    have okA : HOkC M ((a, b) :: covH M L) := by
      intro u hu
      rcases List.mem_cons.1 hu with rfl | hu
      · exact hin
      · exact ok0 u hu
    have okB : HOkC M ((m, b) :: (a, m) :: covH M L) := by
      intro u hu
      rcases List.mem_cons.1 hu with rfl | hu
      · exact ⟨hmb, hin.2⟩
      · rcases List.mem_cons.1 hu with rfl | hu
        · exact ⟨hma, by dsimp only; omega⟩
        · exact ok0 u hu
    dsimp only at p1 p2 p3
    obtain ⟨lo, hlo⟩ : ∃ lo, mf M a = lo := ⟨_, rfl⟩
    obtain ⟨hi, hhi⟩ : ∃ hi, mf M b = hi := ⟨_, rfl⟩
    obtain ⟨X, hX⟩ : ∃ X, mf M x = X := ⟨_, rfl⟩
    obtain ⟨Z, hZ⟩ : ∃ Z, mf M z = Z := ⟨_, rfl⟩
    obtain ⟨D, hD⟩ : ∃ D, mf M m = D := ⟨_, rfl⟩
    rw [hlo, hhi] at hpo p1
    rw [hlo, hD] at p2
    rw [hD, hhi] at p3
    rw [hX] at q1
    rw [hX, hlo, hZ] at hmx
    rw [hhi, hZ, hD] at hmn
    have ht := HP.out.2.2
    have tt : ((t : Int)).tmod (n : Int) = (x : Int) := by rw [← hx]; rfl
    have nz3 : ¬ n = 0 := by omega
    have x0 : (0 : Int) ≤ (x : Int) := Int.natCast_nonneg _
    have x1 : (x : Int) < (n : Int) := by omega
    have t0 : (0 : Int) ≤ (t : Int) := Int.natCast_nonneg _
    have t1 : (t : Int) < 65536 := by omega
    have wt : IntKind.i64.wrap (t : Int) = (t : Int) := IntWalk.i64_in _ ⟨by omega, by omega⟩
    obtain ⟨E1, hE1⟩ : ∃ E, entN (a, b) (M.length - 1) = E := ⟨_, rfl⟩
    obtain ⟨E2, hE2⟩ : ∃ E, entN (a, m) (M.length - 1) = E := ⟨_, rfl⟩
    obtain ⟨E3, hE3⟩ : ∃ E, entN (m, b) (M.length - 1) = E := ⟨_, rfl⟩
    rw [hE1] at p1
    rw [hE2] at p2
    rw [hE3] at p3
    have HPO := Lib.hid hpo
    have P1 := Lib.hid p1
    have P2 := Lib.hid p2
    have P3 := Lib.hid p3
    have HGE := Lib.hid (And.intro hg (And.intro okA okB))
    have HB3 := Lib.hid (And.intro hcB (And.intro hNB hFB))
    have HAB := Lib.hid hAB
    have HA3 := Lib.hid (HA2.out.1.upd0 hu3)
    have HU3 := Lib.hid hU3
    have HFZ := Lib.hid (And.intro (fun y hy => Nat.le_trans HU1.out.size (HA2.out.2.2 y hy)) (fun y hy => Nat.le_trans HU2.out.size (hFB y hy)))
    have hcl : (covH M L).length < 1000 := by simp [covH]; have := HG.out; omega
    have HCL := Lib.hid hcl
    clear hcl hpo p1 p2 p3 hg ok0 okA okB hcB hNB hFB hAB hu3 hU3 hsee3 hE1 hE2 hE3 hlo hhi hX hZ hD hs hin hx hxn hz hzn hm hma hmb hn hn2 ht t0
    go_wp2_with fail
    (with_reducible refine HPO.out.mono ?_)
    rintro e w4 ⟨rfl, hu4⟩
    have q4 := (hu4.cell (p := ⟨gm, om + x, none⟩) (World.block_lt_of_cell? _ _ q1) (by simp)).trans q1
    have ha := addC ba FA M (covH M L) NA w4 lo hi (HA3.out.upd0 hu4) HOK.out (by have := HA2.out.2.1; omega) (by have := HCL.out; omega)
    rw [P1.out.1, P1.out.2.1, P1.out.2.2] at ha
    have HA := Lib.hid ha
    have HB4 := Lib.hid (HB3.out.1.upd0 hu4)
    have HU4 := Lib.hid (HU3.out.trans hu4)
    clear ha hu4 q1 c0 c1
    go_wp2_with fail
    (with_reducible refine HA.out.mono ?_)
    rintro e w5 ⟨rfl, ⟨N5, hN5, hc5⟩, hu5⟩
    have ha := addC bb FB M (covH M L) NB w5 lo D (HB4.out.upd hu5 HAB.out) HOK.out (by have := HB3.out.2.1; omega) (by have := HCL.out; omega)
    rw [P2.out.1, P2.out.2.1, P2.out.2.2] at ha
    have HB5 := Lib.hid ha
    have HA5 := Lib.hid hc5
    have HU5 := Lib.hid (HU4.out.trans' hu5 (fun x hx => .inr (HFZ.out.1 x hx)))
    clear ha hN5 hc5 hu5 q4 hmx hmn tt wt x0 x1 t1 nz3
    go_wp2_with fail
    (with_reducible refine HB5.out.mono ?_)
    rintro e w6 ⟨rfl, ⟨N6, hN6, hc6⟩, hu6⟩
    have ha := addC bb FB M ((a, m) :: covH M L) N6 w6 D hi hc6 HOK.out (by have := HB3.out.2.1; omega) (by have := HCL.out; simp; omega)
    rw [P3.out.1, P3.out.2.1, P3.out.2.2] at ha
    have HB6 := Lib.hid ha
    have HA6 := Lib.hid (HA5.out.upd hu6 (fun y hy hc => HAB.out y hc hy))
    have HU6 := Lib.hid (HU5.out.trans' hu6 (fun x hx => .inr (HFZ.out.2 x hx)))
    clear ha hN6 hc6 hu6
    go_wp2_with fail
    (with_reducible refine HB6.out.mono ?_)
    rintro e w7 ⟨rfl, ⟨N7, hN7, hc7⟩, hu7⟩
    have hal := alikeC ba bb FA FB M _ _ _ _ w7 (HA6.out.upd hu7 (fun y hy hc => HAB.out y hc hy)) hc7 HOK.out.len HGE.out.2.1 HGE.out.2.2 HGE.out.1
    have HAL := Lib.hid hal
    have HU7 := Lib.hid (HU6.out.trans' hu7 (fun x hx => .inr (HFZ.out.2 x hx)))
    clear hal hN7 hc7 hu7
    go_wp2_with fail
    (with_reducible refine HAL.out.mono ?_)
    rintro e w8 ⟨rfl, hu8⟩
    have HU8 := Lib.hid (HU7.out.trans hu8)
    clear hu8
    go_wp2_with fail
    (with_reducible refine (awake16 _).mono ?_)
    rintro e w9 ⟨rfl, hu9⟩
    have HU9 := Lib.hid (HU8.out.trans hu9)
    clear hu9
    go_wp2_with fail
    go_ret
    exact ⟨rfl, (HU0.out.trans HU9.out).below⟩
end Go.Proofs.Ythkiljfjjnckaaa
