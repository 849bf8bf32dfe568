/- CoverLong: the walk. -/
import Derived.Test.YthkiljfjjnckaaaLongP
import Derived.Test.YthkiljfjjnckaaaWide
namespace Go.Proofs.Ythkiljfjjnckaaa
open Go.RowKit
attribute [local go_sem ↓] Go.wp_at_zero Go.wp_at_succ

set_option maxRecDepth 100000 in
set_option maxHeartbeats 8000000 in
theorem coverLong_walk (v vs : Value) (l : List Int) (L : List (Nat × Nat)) (w : World) (hs : See KL w v l) (hwf : ∀ x ∈ l, -9223372036854775808 ≤ x ∧ x ≤ 9223372036854775807) (hlb : l.length * 8 ≤ 140737488355328)
    (hS : See KPr w vs L) (hSw : ∀ p ∈ L, p.1 < 65536 ∧ p.2 < 65536) :
    Calls Try.prog 10 #[v, vs] w fun e w' => e = .returned (.bool true) ∧ Below w.heap.size w w' := by
  obtain ⟨Av, Cv, rfl⟩ := hs.form
  obtain ⟨As, Cs, rfl⟩ := hS.form
  have hsq := squeezeC _ l _ hs hlb
  unfold SqzPost at hsq
  obtain ⟨M, hM⟩ : ∃ M, sqz l = M := ⟨_, rfl⟩
  obtain ⟨n, hn⟩ : ∃ n, M.length = n := ⟨_, rfl⟩
  have hle := sqz_len l
  rw [hM, hn] at hle
  rw [hM, hn] at hsq
  have HSQ := Lib.hid hsq
  have HM := Lib.hid (And.intro hM (And.intro hn hle))
  have HS := Lib.hid (And.intro hS hSw)
  have HWF := Lib.hid hwf
  clear hsq hM hn hle hS hSw hwf hs hlb
  by_cases e1 : 300 < l.length
  · have d1 : decide ((300 : Int) < (l.length : Int)) = true := decide_eq_true (by omega)
    clear e1
    go_enter Try.func10, Try.ntmps10
    go_wp2_with fail
    (with_reducible refine HSQ.out.mono ?_)
    rintro e w1 ⟨A, C, rfl, hrow, hu1⟩
    have HU1 := Lib.hid hu1
    clear hrow hu1
    go_wp2_with fail
    (with_reducible refine (awake16 _).mono ?_)
    rintro e w2 ⟨rfl, hu⟩
    have HU2 := Lib.hid (HU1.out.trans hu)
    clear hu
    go_wp2_with fail
    go_ret
    exact ⟨rfl, HU2.out.below⟩
  have HE1 := Lib.hid e1
  have d1 : decide ((300 : Int) < (l.length : Int)) = false := decide_eq_false (by omega)
  clear e1
  by_cases e2 : n < 2
  · have d2 : decide (n < 2) = true := decide_eq_true e2
    have d2' : decide ((n : Int) < 2) = true := decide_eq_true (by omega)
    clear e2
    go_enter Try.func10, Try.ntmps10
    go_wp2_with fail
    (with_reducible refine HSQ.out.mono ?_)
    rintro e w1 ⟨A, C, rfl, hrow, hu1⟩
    have HU1 := Lib.hid hu1
    clear hrow hu1
    go_wp2_with fail
    (with_reducible refine (awake16 _).mono ?_)
    rintro e w2 ⟨rfl, hu⟩
    have HU2 := Lib.hid (HU1.out.trans hu)
    clear hu
    go_wp2_with fail
    go_ret
    exact ⟨rfl, HU2.out.below⟩
  have HE2 := Lib.hid e2
  have d2 : decide (n < 2) = false := decide_eq_false e2
  have d2' : decide ((n : Int) < 2) = false := decide_eq_false (by omega)
  clear e2
  by_cases e3 : 60 < L.length
  · have d3 : decide ((60 : Int) < (L.length : Int)) = true := decide_eq_true (by omega)
    clear e3
    go_enter Try.func10, Try.ntmps10
    go_wp2_with fail
    (with_reducible refine HSQ.out.mono ?_)
    rintro e w1 ⟨A, C, rfl, hrow, hu1⟩
    have HU1 := Lib.hid hu1
    clear hrow hu1
    go_wp2_with fail
    (with_reducible refine (awake16 _).mono ?_)
    rintro e w2 ⟨rfl, hu⟩
    have HU2 := Lib.hid (HU1.out.trans hu)
    clear hu
    go_wp2_with fail
    go_ret
    exact ⟨rfl, HU2.out.below⟩
  have d3 : decide ((60 : Int) < (L.length : Int)) = false := decide_eq_false (by omega)
  have hg : l.length ≤ 300 ∧ 2 ≤ n ∧ L.length ≤ 60 := by have h1 := HE1.out; have h2 := HE2.out; omega
  have hok : MarksOk M := by have h := HM.out; rw [← h.1]; refine sqz_ok ?_ HWF.out; rw [h.1, h.2.1]; have := h.2.2; omega
  have hm0 : 0 < M.length := by rw [HM.out.2.1]; omega
  obtain ⟨g, hgn⟩ : ∃ g, n = g + 1 := ⟨n - 1, by omega⟩
  have HG := Lib.hid hg
  have HGN := Lib.hid hgn
  have HOK := Lib.hid (And.intro hok hm0)
  have g0 : (0 : Int) ≤ (g : Int) := Int.natCast_nonneg _
  have hsub1 : wrap64 ((n : Int) - 1) = (g : Int) := by have := HM.out; rw [IntWalk.wrap64_in _ ⟨by omega, by omega⟩]; omega
  have hsub2 : (n : Int) - 1 = (g : Int) := by omega
  clear hg hok hm0 e3 hgn
  go_enter Try.func10, Try.ntmps10
  go_wp2_with fail
  (with_reducible refine HSQ.out.mono ?_)
  rintro e w1 ⟨A, C, rfl, hrow, hu1⟩
  have hsee : See KL w1 (.slice A n C) M := by have := See.of_row hrow; exact this
  have HSEE := Lib.hid hsee
  have HU1 := Lib.hid hu1
  have hca := coveredC _ _ M L w1 hsee HOK.out.1 HOK.out.2 (HS.out.1.upd0 hu1) (by have := HG.out; omega) HS.out.2
  have HCA := Lib.hid hca
  clear hca hsee hrow hu1
  go_wp2_with fail
  (with_reducible refine HCA.out.mono ?_)
  rintro e w2 ⟨ba, FA, NA, rfl, hcA, hNA, hu2, -⟩
  have hgc := gapsC ba FA M _ NA w2 hcA HOK.out.1.len
  rw [gapsM_eq (covH_ok L HOK.out.2)] at hgc
  obtain ⟨G, hG⟩ : ∃ G, gapsH M (covH M L) = G := ⟨_, rfl⟩
  have hGl := gapsH_len M (covH M L)
  rw [hG] at hgc hGl
  have hGg : G.length = g := by rw [hGl]; have h1 := HM.out; have h2 := HGN.out; omega
  unfold GapsPost at hgc
  rw [hGg] at hgc
  have HGC := Lib.hid hgc
  have HA2 := Lib.hid hcA
  have HGG := Lib.hid (And.intro hG hGg)
  have HU2 := Lib.hid hu2
  clear hcA hNA hu2 hgc hGl hG hGg
  go_wp2_with fail
  (with_reducible refine HGC.out.mono ?_)
  rintro e w3 ⟨A3, C3, rfl, hrow, hu3⟩
  have hsee3 : See KB w3 (.slice A3 g C3) G := by
    have := See.of_row hrow
    exact this
  have HGS := Lib.hid hsee3
  have HU3 := Lib.hid (HU2.out.trans hu3)
  have HU3x := Lib.hid hu3
  clear hrow hu3 hsee3
  have hgl : (g : Int) < 1000 := by have h1 := HGN.out; have h2 := HG.out; have h3 := HM.out; omega
  go_wp2_with fail
  clear hsub1 hsub2
  go_loopg [8, 9, 47] g (fun m s8 s9 s47 wr => ∃ k, m + k = g ∧ s47 = .int .i64 (k : Int) ∧ s8 = .int .u64 (longG (mf M) 0 (G.take k)) ∧ s9 = .int .i64 ((runsG false (G.take k) : Nat) : Int) ∧ Upd [] w3 wr)
  case atStart => exact ⟨0, by omega, rfl, rfl, rfl, Upd.refl _ _⟩
  case round =>
    obtain ⟨k, hk, rfl, rfl, rfl, hu⟩ := hrel
    obtain ⟨LG, hLG⟩ : ∃ LG, longG (mf M) 0 (G.take k) = LG := ⟨_, rfl⟩
    obtain ⟨RN, hRN⟩ : ∃ RN, runsG false (G.take k) = RN := ⟨_, rfl⟩
    rw [hLG, hRN]
    have hRk : RN ≤ k := by rw [← hRN]; have := runsG_leN (G.take k) false; rw [List.length_take] at this; omega
    have HK := Lib.hid hk
    have HU := Lib.hid hu
    have HLR := Lib.hid (And.intro hLG (And.intro hRN hRk))
    have b0 : (0 : Int) ≤ (k : Int) := Int.natCast_nonneg _
    have hkg : k ≤ g := by omega
    clear hk hu hLG hRN hRk
    by_cases hlt : k < g
    · have b1 : (k : Int) < (g : Int) := by omega
      have HKG := Lib.hid hlt
      clear hlt hkg
      go_wp2_with fail
      obtain ⟨wl, rfl⟩ : ∃ wl : World, wl = wr := ⟨_, rfl⟩
      obtain ⟨gO, rfl⟩ : ∃ gO : Nat, gO = gk := ⟨_, rfl⟩
      go_loopg [11, 52] L.length (fun m s11 s52 wr => ∃ j, m + j = L.length ∧ s52 = .int .i64 (j : Int) ∧ s11 = .bool (isG M L j k) ∧ Upd [] w3 wr)
      case atStart => exact ⟨0, by omega, rfl, rfl, HU.out⟩
      case round =>
        obtain ⟨j, hj, rfl, rfl, hu⟩ := hrel
        have HJ := Lib.hid hj
        have HV := Lib.hid hu
        have hjL : j ≤ L.length := by omega
        have j0 : (0 : Int) ≤ (j : Int) := Int.natCast_nonneg _
        clear hj hu
        by_cases hjt : j < L.length
        · obtain ⟨p, hp⟩ : ∃ p, L[j]? = some p := ⟨_, List.getElem?_eq_getElem hjt⟩
          have hpw := HS.out.2 p (List.mem_of_getElem? hp)
          have his := isG_step (M := M) (i := k) hp
          have hWw : Upd [] w wr := (HU1.out.trans HU3.out).trans HV.out
          have hW1 : Upd [] w1 wr := HU3.out.trans HV.out
          obtain ⟨bl, ol, hA, -, -, l0, l1⟩ := KPr.at (HS.out.1.upd0 hWw) hp
          subst hA
          obtain ⟨pa, pb⟩ := p
          dsimp only at l0 l1 hpw his
          have hu2 : Upd [] wr (wr.alloc (.cells #[.int .u16 (pa : Int), .int .u16 (pb : Int)] 57)) := (Upd.refl _ _).alloc _
          have hpo := pairOf _ M pa pb _ ((HSEE.out.upd0 hW1).upd0 hu2) HOK.out.2 HOK.out.1.len hpw.1 hpw.2
          have hin := pairP_in (M := M) pa pb HOK.out.2
          obtain ⟨s, hs⟩ : ∃ s, pairP M pa pb = s := ⟨_, rfl⟩
          rw [hs] at hpo hin his
          have hk1 : k + 1 < M.length := by have h1 := HM.out.2.1; have h2 := HGN.out; have h3 := HKG.out; omega
          have hci := covers_iff HOK.out.1.rise hin hk1
          obtain ⟨gm, om, hA, -, -, q1⟩ := KL.at (HSEE.out.upd0 hW1) (mf_get (M := M) (i := k) (by omega))
          obtain ⟨gm', om', hA', -, -, q2⟩ := KL.at (HSEE.out.upd0 hW1) (mf_get hk1)
          subst hA
          cases hA'
          unfold ofPost at hpo
          obtain ⟨lo, hlo⟩ : ∃ lo, mf M s.1 = lo := ⟨_, rfl⟩
          obtain ⟨hi, hhi⟩ : ∃ hi, mf M s.2 = hi := ⟨_, rfl⟩
          obtain ⟨X, hX⟩ : ∃ X, mf M k = X := ⟨_, rfl⟩
          obtain ⟨Y, hY⟩ : ∃ Y, mf M (k + 1) = Y := ⟨_, rfl⟩
          rw [hlo, hhi] at hpo
          rw [hlo, hhi, hX, hY] at hci
          rw [hX] at q1
          rw [hY] at q2
          obtain ⟨c1, hc1⟩ : ∃ c, decide (s.1 ≤ k) = c := ⟨_, rfl⟩
          obtain ⟨c2, hc2⟩ : ∃ c, decide (k < s.2) = c := ⟨_, rfl⟩
          obtain ⟨c0, hc0⟩ : ∃ c, isG M L j k = c := ⟨_, rfl⟩
          rw [hc1, hc2, hc0] at his
          rw [hc0]
          have t1 : decide (lo ≤ X) = c1 := by rw [← hc1]; exact decide_eq_decide.2 hci.1
          have t2 : decide (Y ≤ hi) = c2 := by rw [← hc2]; exact decide_eq_decide.2 hci.2
          have hgm : gm < wr.heap.size := World.block_lt_of_cell? _ _ q1
          have HPO := Lib.hid hpo
          have HJT := Lib.hid hjt
          have HIS := Lib.hid his
          have HX := Lib.hid hu2
          have j1 : (j : Int) < (L.length : Int) := by omega
          have n1 : (k : Int) < (n : Int) := by have h2 := HGN.out; omega
          have n2 : (k : Int) + 1 < (n : Int) := by have h2 := HGN.out; omega
          have n3 : k < n := by omega
          have n4 : k + 1 < n := by omega
          clear hpo hin hs hlo hhi hX hY hc1 hc2 hc0 hci his hk1 hu2 hpw hp hWw hW1 hjt hjL
          go_wp2_with fail
          (with_reducible refine HPO.out.mono ?_)
          rintro e w7 ⟨rfl, hu7⟩
          have r1 := (hu7.cell (p := ⟨gm, om + k, none⟩) (Nat.lt_of_lt_of_le hgm HX.out.size) (by simp)).trans ((HX.out.cell (p := ⟨gm, om + k, none⟩) hgm (by simp)).trans q1)
          have r2 := (hu7.cell (p := ⟨gm, om + (k + 1), none⟩) (Nat.lt_of_lt_of_le hgm HX.out.size) (by simp)).trans ((HX.out.cell (p := ⟨gm, om + (k + 1), none⟩) hgm (by simp)).trans q2)
          have HV7 := Lib.hid (HV.out.trans (HX.out.trans hu7))
          clear hu7 q1 q2 l0 l1
          cases c0 <;> cases c1 <;> cases c2 <;>
          · go_wp2_with fail
            go_roundg (gk - 1)
            case measure => have := HJ.out; have := HJT.out; omega
            case rel => exact ⟨j + 1, by have := HJ.out; have := HJT.out; omega, by have := HG.out; have := HJT.out; rw [IntWalk.wrap64_in _ ⟨by omega, by omega⟩]; rfl, by rw [HIS.out]; rfl, HV7.out⟩
        · have hje : j = L.length := by omega
          subst hje
          obtain ⟨x, hx0⟩ : ∃ x, holdsG (covH M L) k = x := ⟨_, rfl⟩
          have hk1 : k + 1 < M.length := by have h1 := HM.out.2.1; have h2 := HGN.out; have h3 := HKG.out; omega
          have hx : G[k]? = some x := by
            rw [← HGG.out.1]
            unfold gapsH
            rw [List.getElem?_map, List.getElem?_range (by omega), Option.map_some, hx0]
          rw [isG_all, hx0]
          have hW1 : Upd [] w1 wr := HU3.out.trans HV.out
          obtain ⟨gb, ob, hA, -, -, q0⟩ := KB.at (HGS.out.upd0 HV.out) hx
          subst hA
          obtain ⟨gm, om, hA, -, -, q1⟩ := KL.at (HSEE.out.upd0 hW1) (mf_get (M := M) (i := k) (by omega))
          obtain ⟨gm', om', hA', -, -, q2⟩ := KL.at (HSEE.out.upd0 hW1) (mf_get hk1)
          subst hA
          cases hA'
          have hls := long_step (M := mf M) hx
          have hrs := runs_step hx
          rw [HLR.out.1] at hls
          rw [HLR.out.2.1] at hrs
          have hlb := longG_bounds HOK.out.1.rise (G.take (k + 1)) 0 (by rw [List.length_take]; omega)
          have hwm := HOK.out.1.wf _ (List.mem_of_getElem? (mf_get (M := M) (i := 0) (by omega)))
          have hwk := HOK.out.1.wf _ (List.mem_of_getElem? (mf_get (M := M) (i := k) (by omega)))
          have hwy := HOK.out.1.wf _ (List.mem_of_getElem? (mf_get hk1))
          have hlt := mf_rise HOK.out.1.rise (Nat.lt_succ_self k) hk1
          have hlk := longG_bounds HOK.out.1.rise (G.take k) 0 (by rw [List.length_take]; omega)
          have HGB := Lib.hid (show g < 1000 by omega)
          have hVV := HV.out
          rcases x with _ | _
          · have HST := Lib.hid (show longG (mf M) 0 (G.take (k + 1)) = LG ∧ runsG false (G.take (k + 1)) = RN from ⟨by rw [hls]; simp, by rw [hrs]; simp⟩)
            clear hls hrs hlb hwm hwk hwy hlt hlk hx hx0 hk1 hjL q1 q2 hVV hW1
            go_wp2_with fail
            go_roundg (gO - 1)
            case measure => have := HK.out; have := HKG.out; omega
            case rel => exact ⟨k + 1, by have := HK.out; have := HKG.out; omega, by first | rfl | (have := HGB.out; have := HKG.out; rw [IntWalk.wrap64_in _ ⟨by omega, by omega⟩]; rfl), by rw [HST.out.1], by rw [HST.out.2], HV.out⟩
          · obtain ⟨X, hX⟩ : ∃ X, mf M k = X := ⟨_, rfl⟩
            obtain ⟨Y, hY⟩ : ∃ Y, mf M (k + 1) = Y := ⟨_, rfl⟩
            simp only [Nat.zero_add] at hlb hlk
            have hgl2 := HGG.out.2
            have hkg2 := HKG.out
            rw [List.length_take, Nat.min_eq_left (by omega)] at hlb hlk
            rw [hX] at q1 hls hwk hlt hlk
            rw [hY] at q2 hls hwy hlt hlb
            rw [HLR.out.1] at hlk
            rw [if_pos rfl] at hls
            rw [hls] at hlb
            obtain ⟨D, hD⟩ : ∃ D, Y - X = D := ⟨_, rfl⟩
            have hdn : diffN X Y = D := by unfold diffN; rw [if_neg (by omega)]; exact hD
            have hdf : ∀ x : QW wr, Calls Try.prog 49 #[.int .i64 X, .int .i64 Y] x.w fun e w' => e = .returned (.int .u64 D) ∧ Upd [] x.w w' := fun x => (diffC X Y x.w hwk hwy).mono fun e w' ⟨he, hw⟩ => ⟨by rw [he, hdn], by rw [← hw]; exact Upd.refl _ _⟩
            have hgm := World.block_lt_of_cell? _ _ q1
            have r1 : ∀ x : QW wr, x.w.cell? ⟨gm, om + k, none⟩ = some (.int .i64 X) := fun x => (x.up.cell (p := ⟨gm, om + k, none⟩) hgm (by simp)).trans q1
            have r2 : ∀ x : QW wr, x.w.cell? ⟨gm, om + (k + 1), none⟩ = some (.int .i64 Y) := fun x => (x.up.cell (p := ⟨gm, om + (k + 1), none⟩) hgm (by simp)).trans q2
            rw [hD] at hls hlb
            have hsum : IntKind.u64.wrap (LG + D) = LG + D := IntWalk.u64_in _ ⟨by omega, by omega⟩
            have n1 : (k : Int) < (n : Int) := by have h2 := HGN.out; omega
            have n2 : (k : Int) + 1 < (n : Int) := by have h2 := HGN.out; have := HKG.out; omega
            have n3 : k < n := by have h2 := HGN.out; omega
            have n4 : k + 1 < n := by have h2 := HGN.out; have := HKG.out; omega
            have m1 : IntKind.i64.wrap ((k : Int) + 1) = (k : Int) + 1 := by have := HGB.out; have := HKG.out; exact IntWalk.i64_in _ ⟨by omega, by omega⟩
            have HDF := Lib.hid hdf
            have HLS := Lib.hid hls
            have hwr1 : wrap64 ((RN : Int) + 1) = (RN : Int) + 1 := by have := HLR.out.2.2; have := HGB.out; have := HKG.out; exact IntWalk.wrap64_in _ ⟨by omega, by omega⟩
            clear hls hlb hwm hwk hwy hlt hlk hx0 hk1 hjL q1 q2 hX hY hD hdn hdf hVV hW1
            by_cases h0 : k = 0
            · have hz : (G.take k).getLastD false = false := by rw [h0]; rfl
              have d0 : ((k : Int) == 0) = true := by simp [h0]
              have d0' : (k == 0) = true := by simp [h0]
              have HST := Lib.hid (show longG (mf M) 0 (G.take (k + 1)) = LG + D ∧ runsG false (G.take (k + 1)) = RN + 1 from ⟨HLS.out, by rw [hrs, hz]; simp⟩)
              clear hrs hx hz h0
              go_wp2_with fail
              refine wp_region_quietU (by kernel_rfl) (by kernel_rfl) ?_
              repeat (go_big_quiet_step (first | exact Calls.quietU (HDF.out _)))
              refine wpQuiet_nil ?_
              intro _ hw'
              obtain ⟨⟨wq, hwq⟩, hw''⟩ := hw'
              dsimp only at hw''
              subst hw''
              go_wp2_with fail
              go_roundg (gO - 1)
              case measure => have := HK.out; have := HKG.out; omega
              case rel => exact ⟨k + 1, by have := HK.out; have := HKG.out; omega, by first | rfl | (have := HGB.out; have := HKG.out; rw [IntWalk.wrap64_in _ ⟨by omega, by omega⟩]; rfl), by rw [HST.out.1], by rw [HST.out.2]; first | rfl | (rw [hwr1]; rfl), HV.out.trans hwq⟩
            · obtain ⟨i, hki⟩ : ∃ i, k = i + 1 := ⟨k - 1, by omega⟩
              obtain ⟨y, hy⟩ : ∃ y, G[i]? = some y := ⟨_, List.getElem?_eq_getElem (by have := HGG.out.2; have := HKG.out; omega)⟩
              have hla := last_succ hy
              rw [← hki] at hla
              rw [hla] at hrs
              obtain ⟨gb', ob', hA', -, -, qy⟩ := KB.at (HGS.out.upd0 HV.out) hy
              cases hA'
              have hgb := World.block_lt_of_cell? _ _ qy
              have ry : ∀ x : QW wr, x.w.cell? ⟨gb, ob + i, none⟩ = some (.bool y) := fun x => (x.up.cell (p := ⟨gb, ob + i, none⟩) hgb (by simp)).trans qy
              have hbk := HGB.out
              have hbg := HKG.out
              have d0 : ((k : Int) == 0) = false := by simp [h0]
              have d0' : (k == 0) = false := by simp [h0]
              have w1s : wrap64 ((k : Int) - 1) = (i : Int) := by rw [IntWalk.wrap64_in _ ⟨by omega, by omega⟩]; omega
              have w2s : (k : Int) - 1 = (i : Int) := by omega
              have i0 : (0 : Int) ≤ (i : Int) := Int.natCast_nonneg _
              have i1 : (i : Int) < (g : Int) := by omega
              have i2 : i < g := by omega
              clear hki hla hy qy hgb hbk hbg h0 hx
              go_wp2_with fail
              refine wp_region_quietU (by kernel_rfl) (by kernel_rfl) ?_
              repeat (go_big_quiet_step (first | exact Calls.quietU (HDF.out _)))
              refine wpQuiet_nil ?_
              intro _ hw'
              obtain ⟨⟨wq, hwq⟩, hw''⟩ := hw'
              dsimp only at hw''
              subst hw''
              have qy := ry ⟨_, hwq⟩
              dsimp only at qy
              clear ry r1 r2 q0
              cases y
              · have HST := Lib.hid (show longG (mf M) 0 (G.take (k + 1)) = LG + D ∧ runsG false (G.take (k + 1)) = RN + 1 from ⟨HLS.out, by rw [hrs]; simp⟩)
                clear hrs
                go_wp2_with fail
                go_roundg (gO - 1)
                case measure => have := HK.out; have := HKG.out; omega
                case rel => exact ⟨k + 1, by have := HK.out; have := HKG.out; omega, by first | rfl | (have := HGB.out; have := HKG.out; rw [IntWalk.wrap64_in _ ⟨by omega, by omega⟩]; rfl), by rw [HST.out.1], by rw [HST.out.2]; first | rfl | (rw [hwr1]; rfl), HV.out.trans hwq⟩
              · have HST := Lib.hid (show longG (mf M) 0 (G.take (k + 1)) = LG + D ∧ runsG false (G.take (k + 1)) = RN from ⟨HLS.out, by rw [hrs]; simp⟩)
                clear hrs
                go_wp2_with fail
                go_roundg (gO - 1)
                case measure => have := HK.out; have := HKG.out; omega
                case rel => exact ⟨k + 1, by have := HK.out; have := HKG.out; omega, by first | rfl | (have := HGB.out; have := HKG.out; rw [IntWalk.wrap64_in _ ⟨by omega, by omega⟩]; rfl), by rw [HST.out.1], by rw [HST.out.2], HV.out.trans hwq⟩
    · have hkg2 : k = g := by omega
      subst hkg2
      have hgt : G.take k = G := List.take_of_length_le (by rw [HGG.out.2]; exact Nat.le_refl _)
      have h1 := HLR.out.1
      have h2 := HLR.out.2.1
      rw [hgt] at h1 h2
      have hco := HA2.out.upd0 (HU3x.out.trans HU.out)
      have hwe := wholeP_eq (covH_ok (M := M) L HOK.out.2)
      have hl1 : (wholeP M (covH M L)).long = LG := by rw [hwe]; unfold wholeG; rw [HGG.out.1]; exact h1
      have hr1 : (wholeP M (covH M L)).runs = (RN : Int) := by rw [hwe]; unfold wholeG; rw [HGG.out.1]; show ((runsG false G : Nat) : Int) = _; rw [h2]
      have hlg := longC ba FA M _ _ wr hco
      rw [hl1] at hlg
      have HLG := Lib.hid hlg
      have HCO := Lib.hid hco
      have HR1 := Lib.hid hr1
      clear hgt h1 h2 hco hwe hl1 hr1 hlg hkg
      go_wp2_with fail
      (with_reducible refine HLG.out.mono ?_)
      rintro e w8 ⟨rfl, hu8⟩
      have hrg := runsC ba FA M _ _ w8 (HCO.out.upd0 hu8)
      rw [HR1.out] at hrg
      have HRG := Lib.hid hrg
      have HU8 := Lib.hid ((HU1.out.trans HU3.out).trans (HU.out.trans hu8))
      clear hrg hu8
      go_wp2_with fail
      (with_reducible refine HRG.out.mono ?_)
      rintro e w9 ⟨rfl, hu9⟩
      have HU9 := Lib.hid (HU8.out.trans hu9)
      clear hu9
      go_wp2_with fail
      (with_reducible refine (awake16 _).mono ?_)
      rintro e w10 ⟨rfl, hu10⟩
      have HU10 := Lib.hid (HU9.out.trans hu10)
      clear hu10
      go_wp2_with fail
      go_ret
      exact ⟨rfl, HU10.out.below⟩
end Go.Proofs.Ythkiljfjjnckaaa
