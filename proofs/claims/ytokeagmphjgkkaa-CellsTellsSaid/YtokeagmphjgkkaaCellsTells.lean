/- CellsTells: the walk. -/
import Derived.Test.YtokeagmphjgkkaaRefCm
import Derived.Test.YtokeagmphjgkkaaHorP
import Derived.Test.YtokeagmphjgkkaaAw19
import Derived.Test.YtokeagmphjgkkaaCopyB
import Derived.Test.YtokeagmphjgkkaaOpenBx
namespace Go.Proofs.Ytokeagmphjgkkaa
open Go.RowKit

theorem area_alike {l : List Bx} (hb : ∀ b ∈ l, b.in64) : wideZ (cellsI 0 0 l allB) = wideV (areaN l) := by
  rw [cells_area, ← areaN_R hb]
  exact wideZ_nat (areaN_W hb)
theorem rimN_W {l : List Bx} (hb : ∀ b ∈ l, b.in64) (hl : l.length < 1000) : W128 (rimN l) := by
  have hX : ∀ x ∈ sqz (linX l), -9223372036854775808 ≤ x ∧ x ≤ 9223372036854775807 := fun x hx => linX_in hb x (sqz_mem hx)
  have hY : ∀ x ∈ sqz (linY l), -9223372036854775808 ≤ x ∧ x ≤ 9223372036854775807 := fun x hx => linY_in hb x (sqz_mem hx)
  have h1 : (sqz (linX l)).length ≤ 2000000 := Nat.le_trans (sqz_len _) (by have := linX_len l; omega)
  have h2 : (sqz (linY l)).length ≤ 2000000 := Nat.le_trans (sqz_len _) (by have := linY_len l; omega)
  have := rim_W (l := l) hX hY h1 h2 (sqz (linX l)).length 0 (Nat.le_refl _) (Nat.zero_le _)
  exact this.mono (Nat.le_add_right _ _)
theorem rim_alike {l : List Bx} (hb : ∀ b ∈ l, b.in64) (hl : l.length < 1000) : wideZ (rimD l + rimD l) = wideV (rimN l) := by
  have h := rimN_D hb
  rw [← wideZ_nat (rimN_W hb hl), h]
  unfold rimD
  congr 1
  omega

set_option maxRecDepth 100000 in
set_option maxHeartbeats 16000000 in
theorem cellsTells_walk (v : Value) (l : List Bx) (x y : Int) (w : World) (hs : IsBxs w v l) (hin : ∀ b ∈ l, b.in64) :
    Calls Try.prog 4 #[v, .int .i64 x, .int .i64 y] w fun e w' => e = .returned (.bool true) ∧ Below w.heap.size w w' := by
  obtain ⟨A, C, rfl⟩ := hs.form
  by_cases h7 : l.length ≤ 7
  · have hcp := copyBoxes (.slice A l.length C) l w hs (by omega)
    unfold CpPost at hcp
    have hlx : (sqz (linX l)).length ≤ 14 := Nat.le_trans (sqz_len _) (by have := linX_len l; omega)
    have hly : (sqz (linY l)).length ≤ 14 := Nat.le_trans (sqz_len _) (by have := linY_len l; omega)
    have h2l : (sqz (linX l)).length ≠ 0 → 2 ≤ (sqz (linY l)).length := fun h => two_lines (fun e => h (by rw [e]; rfl))
    have hbk := fun W v h => blocksC v l W h (by omega)
    unfold BlkPost at hbk
    have hl1 := fun W (h : See KBx W (.slice A l.length C) l) => rlinesC false _ l W h (by omega)
    have hl2 := fun W (h : See KBx W (.slice A l.length C) l) => rlinesC true _ l W h (by omega)
    unfold RSqPost at hl1 hl2
    have hb1 := fun (i k : Nat) W (h : See KBx W (.slice A l.length C) l) (hi : i + 1 < (sqz (linX l)).length) (hk : k + 1 < (sqz (linY l)).length) => rblockC _ l i k W h (by omega) hi hk
    have hh1 := fun W v (h : See KBx W v l) => heldC v l x y W h (by omega)
    have hh2 := fun W (h : See KBx W (.slice A l.length C) l) => rheldC _ l x y W h (by omega)
    have ha1 := fun W v (h : See KBx W v l) => areaC v l W h (by omega) hin
    have hr1 := fun W v (h : See KBx W v l) => rimCC v l W h (by omega) hin
    obtain ⟨E, hE⟩ : ∃ E : Nat, entE l = E := ⟨_, rfl⟩
    obtain ⟨E2, hE2⟩ : ∃ E : Int, (entE l : Int) + (entE (l.map tuI) : Int) = E := ⟨_, rfl⟩
    obtain ⟨ah, al, hav⟩ : ∃ h lo : Int, wideV (areaN l) = .agg #[.int .u64 h, .int .u64 lo] := ⟨_, _, rfl⟩
    obtain ⟨rh, rl, hrv⟩ : ∃ h lo : Int, wideV (rimN l) = .agg #[.int .u64 h, .int .u64 lo] := ⟨_, _, rfl⟩
    have ha2 := fun W (h : See KBx W (.slice A l.length C) l) => rarea19 (.slice A l.length C) W ah al E (fun W2 hu => by
      have := rareaC (.slice A l.length C) l W2 (h.upd0 hu) (by omega) hin
      rw [area_alike hin, hav, hE] at this
      exact this)
    have hr2 := fun W (h : See KBx W (.slice A l.length C) l) => rrim19 (.slice A l.length C) W rh rl E2 (fun W2 hu => by
      have := rrimC (.slice A l.length C) l W2 (h.upd0 hu) (by omega) hin
      rw [rim_alike hin (by omega), hrv, hE2] at this
      exact this)
    have hbo : ∀ W v u, See KBx W v l → See KBx W u l → Calls Try.prog 37 #[v, u] W fun e w' => e = .returned (.bool true) ∧ Upd [] W w' := fun W v u h h' => boxesSame v u l W h h' (by omega)
    simp only [hav] at ha1
    simp only [hrv] at hr1
    obtain ⟨Hb, hHb⟩ : ∃ c, covB l x y = c := ⟨_, rfl⟩
    simp only [hHb] at hh1 hh2
    obtain ⟨X, hX⟩ : ∃ X, sqz (linX l) = X := ⟨_, rfl⟩
    obtain ⟨Y, hY⟩ : ∃ Y, sqz (linY l) = Y := ⟨_, rfl⟩
    simp only [linU, hX, hY] at hbk hl1 hl2 hb1 hlx hly h2l
    obtain ⟨nX, hnX⟩ : ∃ n, X.length = n := ⟨_, rfl⟩
    obtain ⟨nY, hnY⟩ : ∃ n, Y.length = n := ⟨_, rfl⟩
    have hll1 := fun W a b (h : See KL W a X) (h' : See KL W b X) => longsC a b X X W h h' (by omega) (by omega)
    have hll2 := fun W a b (h : See KL W a Y) (h' : See KL W b Y) => longsC a b Y Y W h h' (by omega) (by omega)
    simp only [decide_true] at hll1 hll2
    simp only [hnX, hnY] at hbk hl1 hl2 hb1 hlx hly h2l
    obtain ⟨m, hm⟩ : ∃ m, nX - 1 = m := ⟨_, rfl⟩
    simp only [hm] at hbk
    obtain ⟨n, hn⟩ : ∃ n, l.length = n := ⟨_, rfl⟩
    have hs0 : See KBx w (.slice A l.length C) l := hs
    rw [hn] at hcp hl1 hl2 hb1 hh2 ha2 hr2 hs0 ⊢
    have d7 : decide ((7 : Int) < (n : Int)) = false := decide_eq_false (by omega)
    have HC := Lib.hid hcp
    have HBK := Lib.hid hbk
    have HL1 := Lib.hid hl1
    have HL2 := Lib.hid hl2
    have HB1 := Lib.hid hb1
    have HH1 := Lib.hid hh1
    have HH2 := Lib.hid hh2
    have HA1 := Lib.hid ha1
    have HA2 := Lib.hid ha2
    have HR1 := Lib.hid hr1
    have HR2 := Lib.hid hr2
    have HBO := Lib.hid hbo
    have HLL1 := Lib.hid hll1
    have HLL2 := Lib.hid hll2
    have HS := Lib.hid hs0
    have HM := Lib.hid (And.intro hm (And.intro hlx (And.intro hly (And.intro h2l (And.intro hnX hnY)))))
    have HWA := fun w => bwide_same ah al w
    have HWR := fun w => bwide_same rh rl w
    have dH : (Hb == Hb) = true := by simp
    have dn : ((m : Int) == (m : Int)) = true := by rw [beq_iff_eq]
    have dn2 : ((m : Int) != (m : Int)) = false := by simp
    have x0 : (nX : Int) < 20 := by omega
    have y0 : (nY : Int) < 20 := by omega
    have m0 : (m : Int) < 20 := by omega
    have hmax : max ((nX : Int) - 1) 0 = (m : Int) := by omega
    clear hcp hbk hl1 hl2 hb1 hh1 hh2 ha1 ha2 hr1 hr2 hbo hll1 hll2 hs0 hs hm hlx hly h2l hnX hnY hn hX hY hE hE2 hav hrv hHb hin h7
    go_enter Try.func4, Try.ntmps4
    go_wp2_with fail
    (with_reducible refine (HC.out).mono ?_)
    rintro e w1 ⟨A1, C1, rfl, hr1, hu1⟩
    have HS1 := Lib.hid (See.of_row hr1)
    have HU1 := Lib.hid hu1
    clear hr1 hu1
    go_wp2_with fail
    (with_reducible refine (HBK.out _ _ HS1.out).mono ?_)
    rintro e w2 ⟨A2, C2, A3, C3, A4, C4, rfl, sx, sy, sb, hu2⟩
    have HB2 := Lib.hid (And.intro sx (And.intro sy sb))
    have HU2 := Lib.hid hu2
    clear sx sy sb hu2
    go_wp2_with fail
    (with_reducible refine (HL1.out _ (HS.out.upd0 (HU1.out.trans HU2.out))).mono ?_)
    rintro e w3 ⟨A5, C5, rfl, hr3, hu3⟩
    have HS3 := Lib.hid (See.of_row hr3)
    have HU3 := Lib.hid (HU2.out.trans hu3)
    have HB3 := Lib.hid hu3
    clear hr3 hu3
    go_wp2_with fail
    (with_reducible refine (HLL1.out _ _ _ (HB2.out.1.upd0 HB3.out) HS3.out).mono ?_)
    rintro e w4 ⟨rfl, hu4⟩
    have HU4 := Lib.hid (HU3.out.trans hu4)
    have HB4 := Lib.hid (HB3.out.trans hu4)
    clear hu4
    go_wp2_with fail
    (with_reducible refine (HL2.out _ (HS.out.upd0 (HU1.out.trans HU4.out))).mono ?_)
    rintro e w5 ⟨A6, C6, rfl, hr5, hu5⟩
    have HS5 := Lib.hid (See.of_row hr5)
    have HU5 := Lib.hid (HU4.out.trans hu5)
    have HB5 := Lib.hid (HB4.out.trans hu5)
    clear hr5 hu5
    go_wp2_with fail
    (with_reducible refine (HLL2.out _ _ _ (HB2.out.2.1.upd0 HB5.out) HS5.out).mono ?_)
    rintro e w6 ⟨rfl, hu6⟩
    have HU6 := Lib.hid (HU5.out.trans hu6)
    have HB6 := Lib.hid (show SeeRows w6 (.slice A4 m C4) (colsB l X Y) from HB2.out.2.2.upd0 (HB5.out.trans hu6))
    clear hu6
    go_wp2_with fail
    go_loopg [48] m (fun q s48 wr => ∃ i, q + i = m ∧ s48 = .int .i64 (i : Int) ∧ Upd [] w6 wr)
    case atStart => exact ⟨0, rfl, rfl, Upd.refl _ _⟩
    case round =>
      obtain ⟨i, hi, rfl, hu⟩ := hrel
      obtain ⟨W7, rfl⟩ : ∃ W : World, W = wr := ⟨_, rfl⟩
      have HI := Lib.hid hi
      have HU7 := Lib.hid hu
      have i0 : (0 : Int) ≤ (i : Int) := Int.natCast_nonneg _
      have i2 : (i : Int) < 30 := by omega
      by_cases hlt : i < m
      · have hz : (i : Int) < (m : Int) := by omega
        have hiX : i + 1 < nX := by have := HM.out; omega
        have hnY : 2 ≤ nY := HM.out.2.2.2.1 (by omega)
        obtain ⟨gr, gro, Ak, Ck, hA3, crow, hrow⟩ := (HB6.out.upd0 hu).at (colsB_get (l := l) (X := X) (Y := Y) (i := i) (by have := HM.out; omega))
        subst hA3
        have hlen : (colB l X Y i).length = nY - 1 := by unfold colB; rw [rowL_len]; have := HM.out; omega
        obtain ⟨ny, hny⟩ : ∃ n, nY - 1 = n := ⟨_, rfl⟩
        rw [hlen, hny] at crow
        have ey : (nY : Int) - 1 = (ny : Int) := by omega
        have dq : ((ny : Int) == (ny : Int)) = true := by rw [beq_iff_eq]
        have y1 : (ny : Int) < 20 := by omega
        have HRW := Lib.hid (show See KB W7 (.slice Ak ny Ck) (colB l X Y i) by rw [← hny, ← hlen]; exact hrow)
        have HLI := Lib.hid (And.intro hlt (And.intro hiX (And.intro hnY hny)))
        have HCR := Lib.hid crow
        clear hi hu hlt hiX hnY hny hlen hrow
        go_wp2_with fail
        go_loopg [65] ny (fun q s65 wr2 => ∃ k, q + k = ny ∧ s65 = .int .i64 (k : Int) ∧ Upd [] W7 wr2)
        case atStart => exact ⟨0, rfl, rfl, Upd.refl _ _⟩
        case round =>
          obtain ⟨k, hk, rfl, hu2⟩ := hrel
          obtain ⟨W8, rfl⟩ : ∃ W : World, W = wr := ⟨_, rfl⟩
          have HK := Lib.hid hk
          have HU8 := Lib.hid hu2
          have k0 : (0 : Int) ≤ (k : Int) := Int.natCast_nonneg _
          have k2 : (k : Int) < 30 := by omega
          by_cases hlk : k < ny
          · have hz2 : (k : Int) < (ny : Int) := by omega
            obtain ⟨cv, hcv⟩ : ∃ c, covB l (nth X i) (nth Y k) = c := ⟨_, rfl⟩
            obtain ⟨gk2, gko, hAk, cb⟩ := KBat (HRW.out.upd0 hu2) (k := k) (x := cv) (by unfold colB; rw [rowL_get (by have := HM.out; have := HLI.out; omega), hcv])
            subst hAk
            have crow2 := (hu2.cell (World.block_lt_of_cell? _ _ HCR.out) (by simp)).trans HCR.out
            have hbl := fun W (h : See KBx W (.slice A n C) l) => HB1.out i k W h HLI.out.2.1 (by have := HLI.out; omega)
            simp only [hcv] at hbl
            have dcv : (cv == cv) = true := by simp
            have q1 : ∀ z : QW W8, z.w.cell? ⟨gr, gro + i, none⟩ = some (.slice (some ⟨gk2, gko, none⟩) ny Ck) := fun z => (z.up.cell (p := ⟨gr, gro + i, none⟩) (World.block_lt_of_cell? _ _ crow2) (by simp)).trans crow2
            have q2 : ∀ z : QW W8, z.w.cell? ⟨gk2, gko + k, none⟩ = some (.bool cv) := fun z => (z.up.cell (p := ⟨gk2, gko + k, none⟩) (World.block_lt_of_cell? _ _ cb) (by simp)).trans cb
            have H5 := Lib.hid (fun z : QW W8 => hbl z.w (HS.out.upd0 (HU1.out.trans (HU6.out.trans (HU7.out.trans (HU8.out.trans z.up))))))
            have HLK := Lib.hid hlk
            clear hk hu2 hlk hcv hbl cb crow2
            go_upto_region 15 with fail
            refine wp_region_quietU (by kernel_rfl) (by kernel_rfl) ?_
            repeat (go_big_quiet_step (first | (with_reducible exact Calls.quietU (H5.out _))))
            refine wpQuiet_nil ?_
            intro wq hw'
            obtain ⟨⟨wy, hwq⟩, hw''⟩ := hw'
            dsimp only at hw''
            subst hw''
            clear q1 q2
            go_wp2_with fail
            go_roundg (ny - (k + 1))
            case measure => have := HK.out; have := HLK.out; omega
            case rel => exact ⟨k + 1, by have := HK.out; have := HLK.out; omega, by go_num, HU8.out.trans hwq⟩
          · have hz2 : ¬ (k : Int) < (ny : Int) := by omega
            clear hk hu2 hlk
            go_wp2_with fail
            go_roundg (m - (i + 1))
            case measure => have := HI.out; have := HLI.out; omega
            case rel => exact ⟨i + 1, by have := HI.out; have := HLI.out; omega, by go_num, HU7.out.trans HU8.out⟩
      · have hz : ¬ (i : Int) < (m : Int) := by omega
        clear hi hu hlt
        go_wp2_with fail
        have HT := Lib.hid (HU6.out.trans HU7.out)
        (with_reducible refine (HH1.out _ _ (HS1.out.upd0 HT.out)).mono ?_)
        rintro e v1 ⟨rfl, hv1⟩
        have HT1 := Lib.hid (HT.out.trans hv1)
        clear hv1
        go_wp2_with fail
        (with_reducible refine (HH2.out _ (HS.out.upd0 (HU1.out.trans HT1.out))).mono ?_)
        rintro e v2 ⟨rfl, hv2⟩
        have HT2 := Lib.hid (HT1.out.trans hv2)
        clear hv2
        go_wp2_with fail
        (with_reducible refine (HA1.out _ _ (HS1.out.upd0 HT2.out)).mono ?_)
        rintro e v3 ⟨rfl, hv3⟩
        have HT3 := Lib.hid (HT2.out.trans hv3)
        clear hv3
        go_wp2_with fail
        (with_reducible refine (HA2.out _ (HS.out.upd0 (HU1.out.trans HT3.out))).mono ?_)
        rintro e v4 ⟨rfl, hv4⟩
        have HT4 := Lib.hid (HT3.out.trans hv4)
        clear hv4
        go_wp2_with fail
        (with_reducible refine (HR1.out _ _ (HS1.out.upd0 HT4.out)).mono ?_)
        rintro e v5 ⟨rfl, hv5⟩
        have HT5 := Lib.hid (HT4.out.trans hv5)
        clear hv5
        go_wp2_with fail
        (with_reducible refine (HR2.out _ (HS.out.upd0 (HU1.out.trans HT5.out))).mono ?_)
        rintro e v6 ⟨rfl, hv6⟩
        have HT6 := Lib.hid (HT5.out.trans hv6)
        clear hv6
        go_wp2_with fail
        (with_reducible refine (HBO.out _ _ _ (HS1.out.upd0 HT6.out) (HS.out.upd0 (HU1.out.trans HT6.out))).mono ?_)
        rintro e v7 ⟨rfl, hv7⟩
        have HT7 := Lib.hid (HT6.out.trans hv7)
        clear hv7
        go_wp2_with fail
        (with_reducible refine (awake19 _).mono ?_)
        rintro e v8 ⟨rfl, hv8⟩
        have HT8 := Lib.hid (HU1.out.trans (HT7.out.trans hv8))
        clear hv8
        go_wp2_with fail
        go_ret
        exact ⟨rfl, HT8.out.below⟩
  · have d7 : decide ((7 : Int) < (l.length : Int)) = true := decide_eq_true (by omega)
    clear hs hin h7
    go_enter Try.func4, Try.ntmps4
    go_wp2_with fail
    (with_reducible refine (awake19 _).mono ?_)
    rintro e w1 ⟨rfl, hu1⟩
    have HU1 := Lib.hid hu1
    clear hu1
    go_wp2_with fail
    go_ret
    exact ⟨rfl, HU1.out.below⟩
end Go.Proofs.Ytokeagmphjgkkaa
