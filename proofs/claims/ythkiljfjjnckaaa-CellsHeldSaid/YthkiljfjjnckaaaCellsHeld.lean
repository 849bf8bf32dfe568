/- CellsHeld: the walk. -/
import Derived.Test.YthkiljfjjnckaaaAw19
import Derived.Test.YthkiljfjjnckaaaAbove
namespace Go.Proofs.Ythkiljfjjnckaaa
open Go.RowKit

section
variable {l : List Bx}

theorem upto_zero {L : List Int} (h : L.Pairwise (· < ·)) {x : Int} (hz : upto L x = 0) : ∀ v ∈ L, x < v := by
  intro v hv
  obtain ⟨k, hk, rfl⟩ := List.getElem_of_mem hv
  have := upto_at (h.imp Int.le_of_lt) x k _ (List.getElem?_eq_getElem hk)
  omega

theorem upto_all {L : List Int} (h : L.Pairwise (· < ·)) {x : Int} (hz : L.length ≤ upto L x) : ∀ v ∈ L, v ≤ x := by
  intro v hv
  obtain ⟨k, hk, rfl⟩ := List.getElem_of_mem hv
  have := upto_at (h.imp Int.le_of_lt) x k _ (List.getElem?_eq_getElem hk)
  omega

theorem cov_left {x y : Int} (h : ∀ v ∈ sqz (linX l), x < v) : covB l x y = false := by
  rw [Bool.eq_false_iff]
  intro hc
  unfold covB at hc
  rw [List.any_eq_true] at hc
  obtain ⟨b, hb, hc⟩ := hc
  have h1 := h _ (mem_sqz (mem_linX hb (cov_counts hc)).1)
  unfold Bx.cell at hc
  simp only [decide_eq_true_eq] at hc
  omega
theorem cov_right {x y : Int} (h : ∀ v ∈ sqz (linX l), v ≤ x) : covB l x y = false := by
  rw [Bool.eq_false_iff]
  intro hc
  unfold covB at hc
  rw [List.any_eq_true] at hc
  obtain ⟨b, hb, hc⟩ := hc
  have h1 := h _ (mem_sqz (mem_linX hb (cov_counts hc)).2)
  unfold Bx.cell at hc
  simp only [decide_eq_true_eq] at hc
  omega
theorem cov_low {x y : Int} (h : ∀ v ∈ sqz (linY l), y < v) : covB l x y = false := by
  rw [Bool.eq_false_iff]
  intro hc
  unfold covB at hc
  rw [List.any_eq_true] at hc
  obtain ⟨b, hb, hc⟩ := hc
  have h1 := h _ (mem_sqz (mem_linY hb (cov_counts hc)).1)
  unfold Bx.cell at hc
  simp only [decide_eq_true_eq] at hc
  omega
theorem cov_high {x y : Int} (h : ∀ v ∈ sqz (linY l), v ≤ y) : covB l x y = false := by
  rw [Bool.eq_false_iff]
  intro hc
  unfold covB at hc
  rw [List.any_eq_true] at hc
  obtain ⟨b, hb, hc⟩ := hc
  have h1 := h _ (mem_sqz (mem_linY hb (cov_counts hc)).2)
  unfold Bx.cell at hc
  simp only [decide_eq_true_eq] at hc
  omega

/-- The block that has the cell. -/
theorem cov_block {x y : Int} {i k : Nat} (hi : upto (sqz (linX l)) x = i + 1) (hk : upto (sqz (linY l)) y = k + 1) (hi' : i + 1 < (sqz (linX l)).length) (hk' : k + 1 < (sqz (linY l)).length) :
    covB l (nth (sqz (linX l)) i) (nth (sqz (linY l)) k) = covB l x y := by
  have hX := sqz_rise (linX l)
  have hY := sqz_rise (linY l)
  have a1 := nth_get (l := sqz (linX l)) (i := i) (by omega)
  have a2 := nth_get (l := sqz (linX l)) (i := i + 1) hi'
  have b1 := nth_get (l := sqz (linY l)) (i := k) (by omega)
  have b2 := nth_get (l := sqz (linY l)) (i := k + 1) hk'
  have c1 := upto_at (hX.imp Int.le_of_lt) x i _ a1
  have c2 := upto_at (hX.imp Int.le_of_lt) x (i + 1) _ a2
  have d1 := upto_at (hY.imp Int.le_of_lt) y k _ b1
  have d2 := upto_at (hY.imp Int.le_of_lt) y (k + 1) _ b2
  rw [← cov_x (l := l) hX (fun v hv => mem_sqz hv) a1 a2 (z := x) (by omega) (by omega), ← cov_y (l := l) hY (fun v hv => mem_sqz hv) b1 b2 (z := y) (by omega) (by omega)]
end

set_option maxRecDepth 100000 in
set_option maxHeartbeats 8000000 in
theorem cellsHeld_walk (v : Value) (l : List Bx) (x y : Int) (w : World) (hs : See KBx w v l) :
    Calls Try.prog 8 #[v, .int .i64 x, .int .i64 y] w fun e w' => e = .returned (.bool true) ∧ Below w.heap.size w w' := by
  obtain ⟨A, C, rfl⟩ := hs.form
  by_cases h25 : 25 < l.length
  · have h25' : (25 : Int) < (l.length : Int) := by omega
    clear hs
    go_enter Try.func8, Try.ntmps8
    go_wp2_with fail
    (with_reducible refine (awake19 _).mono ?_)
    rintro e w6 ⟨rfl, hu6⟩
    have HU6 := Lib.hid hu6
    clear hu6
    go_wp2_with fail
    go_ret
    exact ⟨rfl, HU6.out.below⟩
  · have h25' : (l.length : Int) ≤ 25 := by omega
    have HL := Lib.hid (show l.length ≤ 25 by omega)
    have hnl : ¬ (25 : Int) < (l.length : Int) := by omega
    have HS := Lib.hid hs
    clear hs h25
    go_enter Try.func8, Try.ntmps8
    go_wp2_with fail
    go_loopg [7, 23] l.length (fun m s7 s23 wr => ∃ k c, m + k = l.length ∧ s7 = .bool c ∧ c = covB (l.take k) x y ∧ s23 = .int .i64 (k : Int) ∧ Upd [] w wr)
    case atStart => exact ⟨0, _, rfl, rfl, rfl, rfl, Upd.refl _ _⟩
    case round =>
      obtain ⟨k, c, hk, rfl, hc, rfl, hu⟩ := hrel
      have b0 : (0 : Int) ≤ (k : Int) := Int.natCast_nonneg _
      by_cases hlt : k < l.length
      · obtain ⟨b, hb⟩ : ∃ b, l[k]? = some b := ⟨_, List.getElem?_eq_getElem hlt⟩
        obtain ⟨bl, ol, hA, -, -, l0, l1, l2, l3, l4⟩ := KBx.at (HS.out.upd0 hu) hb
        subst hA
        have htk := covB_take l x y hb
        rw [← hc] at htk
        have hcl := fun w => cellC b x y w
        obtain ⟨d, hd⟩ : ∃ d, b.cell x y = d := ⟨_, rfl⟩
        rw [hd] at htk
        simp only [hd] at hcl
        unfold bxV at hcl
        have b1 : (k : Int) < (l.length : Int) := by omega
        have HCL := Lib.hid hcl
        have HTK := Lib.hid htk
        have HU := Lib.hid hu
        have HK := Lib.hid hk
        have HLT := Lib.hid hlt
        clear hcl htk hu hk hlt hc hd hb
        cases c
        · go_wp2_with fail
          (with_reducible refine (HCL.out _).mono ?_)
          rintro e w1 ⟨rfl, hu1⟩
          have HU1 := Lib.hid ((HU.out.alloc (.cells #[.int .i64 b.x1, .int .i64 b.x2, .int .i64 b.y1, .int .i64 b.y2, .int .u32 (b.id : Int)] 76)).trans hu1)
          clear hu1
          go_wp2_with fail
          go_roundg (l.length - (k + 1))
          case measure => have := HK.out; have := HLT.out; omega
          case rel => exact ⟨k + 1, _, by have := HK.out; have := HLT.out; omega, rfl, by rw [HTK.out]; simp, by go_num, HU1.out⟩
        · go_wp2_with fail
          go_roundg (l.length - (k + 1))
          case measure => have := HK.out; have := HLT.out; omega
          case rel => exact ⟨k + 1, _, by have := HK.out; have := HLT.out; omega, rfl, by rw [HTK.out]; simp, by go_num, HU.out.alloc _⟩
      · have hke : l.take k = l := List.take_of_length_le (by omega)
        rw [hke] at hc
        have hheld := heldC (.slice A l.length C) l x y wr (HS.out.upd0 hu) (by have := HL.out; omega)
        rw [← hc] at hheld
        have hblk := fun w' (hu' : Upd [] wr w') => blocksC (.slice A l.length C) l w' ((HS.out.upd0 hu).upd0 hu') (by have := HL.out; omega)
        have hcc : (c == c) = true := by simp
        have hXr := sqz_rise (linX l)
        have hYr := sqz_rise (linY l)
        have hXl : (sqz (linX l)).length ≤ 50 := Nat.le_trans (sqz_len _) (by have := linX_len l; have := HL.out; omega)
        have hYl : (sqz (linY l)).length ≤ 50 := Nat.le_trans (sqz_len _) (by have := linY_len l; have := HL.out; omega)
        have hcv : ∀ i k : Nat, upto (sqz (linX l)) x = i + 1 → upto (sqz (linY l)) y = k + 1 → i + 1 < (sqz (linX l)).length → k + 1 < (sqz (linY l)).length → covB l (nth (sqz (linX l)) i) (nth (sqz (linY l)) k) = c := fun i k a1 a2 a3 a4 => by rw [cov_block a1 a2 a3 a4, hc]
        have hz1 : upto (sqz (linX l)) x = 0 → c = false := fun e => by rw [hc]; exact cov_left (upto_zero hXr e)
        have hz2 : upto (sqz (linY l)) y = 0 → c = false := fun e => by rw [hc]; exact cov_low (upto_zero hYr e)
        have hz3 : (sqz (linX l)).length ≤ upto (sqz (linX l)) x → c = false := fun e => by rw [hc]; exact cov_right (upto_all hXr e)
        have hz4 : (sqz (linY l)).length ≤ upto (sqz (linY l)) y → c = false := fun e => by rw [hc]; exact cov_high (upto_all hYr e)
        obtain ⟨X, hX⟩ : ∃ X, sqz (linX l) = X := ⟨_, rfl⟩
        obtain ⟨Y, hY⟩ : ∃ Y, sqz (linY l) = Y := ⟨_, rfl⟩
        simp only [hX, hY] at hblk hcv hz1 hz2 hz3 hz4 hXr hYr hXl hYl
        have HH := Lib.hid hheld
        have HBLK := Lib.hid hblk
        have HP := Lib.hid (And.intro hcv (And.intro hz1 (And.intro hz2 (And.intro hz3 hz4))))
        have HR := Lib.hid (And.intro hXr (And.intro hYr (And.intro hXl hYl)))
        have HU := Lib.hid hu
        clear hheld hblk hcv hz1 hz2 hz3 hz4 hXr hYr hXl hYl hX hY hu hc hke hk
        go_wp2_with fail
        (with_reducible refine HH.out.mono ?_)
        rintro e w1 ⟨rfl, hu1⟩
        have HB1 := Lib.hid (HBLK.out w1 hu1)
        have HU1 := Lib.hid (HU.out.trans hu1)
        clear hu1
        go_wp2_with fail
        (with_reducible refine HB1.out.mono ?_)
        rintro e w2 ⟨A1, C1, A2, C2, A3, C3, rfl, sx, sy, sr, hu2⟩
        have hab := aboveC (.slice A1 X.length C1) X x w2 (HR.out.1.imp Int.le_of_lt) sx (by have := HR.out.2.2.1; omega)
        have hab2 := fun w' (hu' : Upd [] w2 w') => aboveC (.slice A2 Y.length C2) Y y w' (HR.out.2.1.imp Int.le_of_lt) (sy.upd0 hu') (by have := HR.out.2.2.2; omega)
        have hil := upto_le X x
        have hkl := upto_le Y y
        obtain ⟨i, hi⟩ : ∃ i, upto X x = i := ⟨_, rfl⟩
        obtain ⟨j, hj⟩ : ∃ j, upto Y y = j := ⟨_, rfl⟩
        rw [hi] at hab hil HP
        rw [hj] at hkl HP
        simp only [hj] at hab2
        have HAB := Lib.hid hab
        have HAB2 := Lib.hid hab2
        have HSR := Lib.hid sr
        have HU2 := Lib.hid (HU1.out.trans hu2)
        have HIL := Lib.hid (And.intro hil hkl)
        clear hab hab2 sx sy sr hu2 hil hkl hi hj
        go_wp2_with fail
        (with_reducible refine HAB.out.mono ?_)
        rintro e w3 ⟨⟨ki, rfl, -⟩, hu3⟩
        have H3 := Lib.hid (HAB2.out w3 hu3)
        have HSR3 := Lib.hid (HSR.out.upd0 hu3)
        have HU3 := Lib.hid (HU2.out.trans hu3)
        clear hu3
        go_wp2_with fail
        (with_reducible refine H3.out.mono ?_)
        rintro e w4 ⟨⟨kj, rfl, -⟩, hu4⟩
        have hsr4 := HSR3.out.upd0 hu4
        have HU5 := Lib.hid (HU3.out.trans hu4)
        clear hu4
        by_cases e1 : i = 0
        · obtain rfl := HP.out.2.1 e1
          subst e1
          go_wp2_with fail
          (with_reducible refine (awake19 _).mono ?_)
          rintro e w6 ⟨rfl, hu6⟩
          have HU6 := Lib.hid (HU5.out.trans hu6)
          clear hu6
          go_wp2_with fail
          go_ret
          exact ⟨rfl, HU6.out.below⟩
        by_cases e2 : j = 0
        · obtain rfl := HP.out.2.2.1 e2
          subst e2
          have i1 : ¬ (i : Int) = 0 := by omega
          have i2 : ((i : Int) == 0) = false := by simp; omega
          go_wp2_with fail
          (with_reducible refine (awake19 _).mono ?_)
          rintro e w6 ⟨rfl, hu6⟩
          have HU6 := Lib.hid (HU5.out.trans hu6)
          clear hu6
          go_wp2_with fail
          go_ret
          exact ⟨rfl, HU6.out.below⟩
        have i1 : ¬ (i : Int) = 0 := by omega
        have i2 : ((i : Int) == 0) = false := by simp; omega
        have j1 : ¬ (j : Int) = 0 := by omega
        have j2 : ((j : Int) == 0) = false := by simp; omega
        by_cases e3 : X.length ≤ i
        · obtain rfl := HP.out.2.2.2.1 e3
          have d3 : (X.length : Int) ≤ (i : Int) := by omega
          have d3' : decide (X.length ≤ i) = true := decide_eq_true e3
          go_wp2_with fail
          (with_reducible refine (awake19 _).mono ?_)
          rintro e w6 ⟨rfl, hu6⟩
          have HU6 := Lib.hid (HU5.out.trans hu6)
          clear hu6
          go_wp2_with fail
          go_ret
          exact ⟨rfl, HU6.out.below⟩
        have d3 : ¬ (X.length : Int) ≤ (i : Int) := by omega
        have d3' : decide (X.length ≤ i) = false := decide_eq_false e3
        by_cases e4 : Y.length ≤ j
        · obtain rfl := HP.out.2.2.2.2 e4
          have d4 : (Y.length : Int) ≤ (j : Int) := by omega
          have d4' : decide (Y.length ≤ j) = true := decide_eq_true e4
          go_wp2_with fail
          (with_reducible refine (awake19 _).mono ?_)
          rintro e w6 ⟨rfl, hu6⟩
          have HU6 := Lib.hid (HU5.out.trans hu6)
          clear hu6
          go_wp2_with fail
          go_ret
          exact ⟨rfl, HU6.out.below⟩
        obtain ⟨i', rfl⟩ : ∃ i', i = i' + 1 := ⟨i - 1, by omega⟩
        obtain ⟨j', rfl⟩ : ∃ j', j = j' + 1 := ⟨j - 1, by omega⟩
        have hval := HP.out.1 i' j' rfl rfl (by omega) (by omega)
        obtain ⟨gr, gro, Ak, Ck, hA3, crow, hrow⟩ := hsr4.at (colsB_get (l := l) (X := X) (Y := Y) (i := i') (by omega))
        have hlen : (colB l X Y i').length = Y.length - 1 := by unfold colB; rw [rowL_len]
        obtain ⟨gk2, gko, hAk, cb⟩ := KBat hrow (k := j') (x := c) (by unfold colB; rw [rowL_get (by omega), hval])
        subst hA3 hAk
        rw [hlen] at crow
        obtain ⟨n1, hn1⟩ : ∃ n, X.length - 1 = n := ⟨_, rfl⟩
        obtain ⟨m1, hm1⟩ : ∃ n, Y.length - 1 = n := ⟨_, rfl⟩
        rw [hm1] at crow
        rw [hn1]
        have f1 : decide (i' + 1 ≤ n1) = true := decide_eq_true (by omega)
        have f2 : decide (j' + 1 ≤ m1) = true := decide_eq_true (by omega)
        have f1' : (i' : Int) + 1 ≤ (n1 : Int) := by omega
        have f2' : (j' : Int) + 1 ≤ (m1 : Int) := by omega
        have g1 : decide (X.length ≤ i' + 1) = false := decide_eq_false (by omega)
        have g2 : decide (Y.length ≤ j' + 1) = false := decide_eq_false (by omega)
        have g1' : ¬ (X.length : Int) ≤ (i' : Int) + 1 := by omega
        have g2' : ¬ (Y.length : Int) ≤ (j' : Int) + 1 := by omega
        have g3 : (0 : Int) ≤ (i' : Int) := Int.natCast_nonneg _
        have g4 : (0 : Int) ≤ (j' : Int) := Int.natCast_nonneg _
        have g5 : (i' : Int) < (n1 : Int) := by omega
        have g6 : (j' : Int) < (m1 : Int) := by omega
        have g7 : (i' : Int) < 100 := by have := HR.out.2.2.1; omega
        have g8 : (j' : Int) < 100 := by have := HR.out.2.2.2; omega
        have g9 : ((i' : Int) + 1 == 0) = false := by simp; omega
        have g10 : ((j' : Int) + 1 == 0) = false := by simp; omega
        have g11 : ¬ (i' : Int) + 1 = 0 := by omega
        have g12 : ¬ (j' : Int) + 1 = 0 := by omega
        clear hval hlen hrow hsr4 hn1 hm1 e1 e2 e3 e4 i1 i2 j1 j2 d3 d3' HP
        go_wp2_with fail
        (with_reducible refine (awake19 _).mono ?_)
        rintro e w6 ⟨rfl, hu6⟩
        have HU6 := Lib.hid (HU5.out.trans hu6)
        clear hu6
        go_wp2_with fail
        go_ret
        exact ⟨rfl, HU6.out.below⟩
end Go.Proofs.Ythkiljfjjnckaaa

