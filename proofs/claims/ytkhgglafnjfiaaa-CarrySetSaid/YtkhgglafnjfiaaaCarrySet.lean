/- gridironlaw20.CarrySet: whatever is set, and added, the law answers true, and writes nothing that was there. -/
import Derived.Test.YtkhgglafnjfiaaaLaw20b
import Derived.Test.YtkhgglafnjfiaaaPair
namespace Go.Proofs.Ytkhgglafnjfiaaa
open Go.RowKit

set_option maxRecDepth 100000 in
set_option maxHeartbeats 400000 in
theorem set_walk (sa sl sb : Value) (la ll lb : List Int) (w : World) (ha : Ints w sa la) (hl : Ints w sl ll) (hb : Ints w sb lb) (hma : la.length ≤ 9223372036854775807) (hml : ll.length ≤ 9223372036854775807) (hmb : lb.length ≤ 9223372036854775807) :
    Calls Try.prog 4 #[sa, sl, sb] w fun e w' => e = .returned (.bool true) ∧ Below w.heap.size w w' := by
  obtain ⟨A0, C0, rfl⟩ := ha.form
  obtain ⟨A1, C1, rfl⟩ := hl.form
  obtain ⟨A2, C2, rfl⟩ := hb.form
  obtain ⟨B0, D0, m0, l0, hl0, hm0, hn0, hr0, hv0, hi0⟩ := head_of ha 50 50 rfl
  obtain ⟨B1, D1, m1, l1, hl1, hm1, hn1, hr1, hv1, hi1⟩ := head_of hl 200 200 rfl
  obtain ⟨B2, D2, m2, l2, hl2, hm2, hn2, hr2, hv2, hi2⟩ := head_of hb 60 60 rfl
  have q0 : m0 ≤ 50 := by omega
  have q1 : m1 ≤ 200 := by omega
  have q2 : m2 ≤ 60 := by omega
  have HI0 := Lib.hid hi0
  have HI1 := Lib.hid hi1
  have HI2 := Lib.hid hi2
  have HM0 := Lib.hid hm0
  have HM1 := Lib.hid hm1
  have HM2 := Lib.hid hm2
  clear ha hl hb hl0 hl1 hl2 hm0 hm1 hm2 hn0 hn1 hn2 hi0 hi1 hi2
  go_enter Try.func4, Try.ntmps4
  go_wp2_with fail
  go_region
  go_wp2_with fail
  refine (newI _).mono ?_
  rintro e w1 ⟨b, rfl, hc1, hb0, hu1⟩
  have HC1 := Lib.hid hc1
  have HU1 := Lib.hid (show Upd [] w w1 from ((Upd.refl [] w).drew).trans hu1)
  clear hc1 hu1
  go_wp2_with fail
  refine (newI _).mono ?_
  rintro e w2 ⟨d, rfl, hc2, hd0, hu2⟩
  have hp : Pair w2 w2 b [] 0 d [] 0 [] := ⟨[b], [d], by rw [setB_nil]; exact HC1.out.upd hu2 (by simp), by rw [setB_nil]; exact hc2, by have := HC1.out.lt b (by simp); simp; omega, Upd.refl _ _, by simp, by simp, by simp⟩
  have hbw : w.heap.size ≤ b := by simpa using hb0
  have hdw : w.heap.size ≤ d := Nat.le_trans HU1.out.size hd0
  have HP := Lib.hid hp
  have HU2 := Lib.hid (HU1.out.trans hu2)
  clear hp hu2 hc2 hb0 hd0
  have up : ∀ wr, Upd [b, d] w2 wr → Upd [] w wr := fun wr h => HU2.out.trans' h (fun x hx => .inr (by simp at hx; rcases hx with h | h <;> omega))
  have UP := Lib.hid up
  clear up
  go_wp2_with fail
  go_loopg [39] m0 (fun m i wr => ∃ k wk, m + k = m0 ∧ i = .int .i64 (k : Int) ∧ Pair w2 wr b (l0.take k) wk d [] 0 [] ∧ wk ≤ 100 * k)
  case atStart => exact ⟨0, 0, rfl, rfl, HP.out, by simp⟩
  case round =>
    obtain ⟨k, wk, hk, rfl, hp, hwk⟩ := hrel
    have hkm : k ≤ m0 := by omega
    have HK := Lib.hid hk
    have HQ := Lib.hid hp
    clear hk hp
    by_cases hlt : k < m0
    · obtain ⟨bb, oo, hB, hcell⟩ := (HI0.out.upd0 (UP.out _ HQ.out.upd)).cell (k := k) (by rw [HM0.out]; exact hlt)
      subst hB
      obtain ⟨x, hx⟩ : ∃ x, l0[k]'(by rw [HM0.out]; exact hlt) = x := ⟨_, rfl⟩
      rw [hx] at hcell
      have HX := Lib.hid hx
      clear hx
      have b0 : (0 : Int) ≤ (k : Int) := Int.natCast_nonneg _
      have b1 : (k : Int) < (m0 : Int) := by omega
      have hlen : (l0.take k).length ≤ k := by rw [List.length_take]; omega
      have h2p := (gath_last (l0.take k) x).2.1
      go_wp2_with fail
      refine (addP w2 wr b x _ wk d _ _ _ HQ.out (by omega) (by omega)).mono ?_
      rintro e w3 ⟨A3, C3, rfl, hp3⟩
      have HP3 := Lib.hid hp3
      clear hp3
      go_wp2_with fail
      go_roundg (gk - 1)
      case measure => have := HK.out; omega
      case rel =>
        refine ⟨k + 1, wk + 2 ^ firstE (setB (l0.take k)), by have := HK.out; omega, by go_num, ?_, ?_⟩
        · rw [List.take_succ_eq_append_getElem (by rw [HM0.out]; exact hlt), HX.out]
          exact HP3.out.none
        · omega
    · skip
      go_wp2_with fail
      refine (workP w2 wr b _ wk d _ _ _ HQ.out).mono ?_
      rintro e w' ⟨rfl, rfl⟩
      go_wp2_with fail
      have hpa := HQ.out
      have hku : Upd [] w wr := UP.out _ HQ.out.upd
      have hz := HU2.out.size
      refine (setP w2 wr b _ _ l1 wk d _ _ _ HQ.out (by unfold Ints; rw [HM1.out]; have := HI1.out.upd0 hku; unfold Ints at this; rw [HM1.out] at this; exact this) (fun h0 x hx => by have := HI1.out.lt h0 x hx; omega) (by rw [HM1.out]; omega) (by omega)).mono ?_
      rintro e w3 ⟨rfl, hp3⟩
      rw [HM1.out] at hp3 ⊢
      have HP3 := Lib.hid hp3
      clear hp3 hpa hku hz
      go_wp2_with fail
      refine (workP w2 w3 b _ _ d _ _ _ HP3.out).mono ?_
      rintro e w' ⟨rfl, rfl⟩
      rw [show (((wk + m1 : Nat)) : Int) = (wk : Int) + (m1 : Int) from by omega]
      obtain ⟨W, hW⟩ : ∃ W, wk + m1 = W := ⟨_, rfl⟩
      have hWb : W < 100000 := by
        have := HK.out
        omega
      have hp4 := HP3.out
      rw [hW] at hp4
      have HP4 := Lib.hid hp4
      clear hp4 hW
      go_wp2_with fail
      go_loopg [66] m1 (fun m i wr => ∃ k wk, m + k = m1 ∧ i = .int .i64 (k : Int) ∧ Pair w2 wr b l1 W d (l1.take k) wk [] ∧ wk ≤ 300 * k)
      case atStart => exact ⟨0, 0, rfl, rfl, HP4.out, by simp⟩
      case round =>
        clear hwk
        obtain ⟨k, wk, hk, rfl, hp, hwk⟩ := hrel
        have hkm : k ≤ m1 := by omega
        have HK := Lib.hid hk
        have HQ := Lib.hid hp
        clear hk hp
        by_cases hlt : k < m1
        · obtain ⟨bb, oo, hB, hcell⟩ := (HI1.out.upd0 (UP.out _ HQ.out.upd)).cell (k := k) (by rw [HM1.out]; exact hlt)
          subst hB
          obtain ⟨x, hx⟩ : ∃ x, l1[k]'(by rw [HM1.out]; exact hlt) = x := ⟨_, rfl⟩
          rw [hx] at hcell
          have HX := Lib.hid hx
          clear hx
          have b0 : (0 : Int) ≤ (k : Int) := Int.natCast_nonneg _
          have b1 : (k : Int) < (m1 : Int) := by omega
          have hlen : (l1.take k).length ≤ k := by rw [List.length_take]; omega
          have h2p := (gath_last (l1.take k) x).2.1
          go_wp2_with fail
          refine (addP w2 _ d x _ wk b _ _ _ HQ.out.symm (by omega) (by omega)).mono ?_
          rintro e w3 ⟨A3, C3, rfl, hp3⟩
          have HP5 := Lib.hid hp3
          clear hp3
          go_wp2_with fail
          go_roundg (gk - 1)
          case measure => have := HK.out; omega
          case rel =>
            refine ⟨k + 1, wk + 2 ^ firstE (setB (l1.take k)), by have := HK.out; omega, by go_num, ?_, ?_⟩
            · rw [List.take_succ_eq_append_getElem (by rw [HM1.out]; exact hlt), HX.out]
              exact HP5.out.symm.none
            · omega
        · have hfull : l1.take k = l1 := List.take_of_length_le (by rw [HM1.out]; omega)
          have hp5 := HQ.out
          rw [hfull] at hp5
          have HP5 := Lib.hid hp5
          have hw5 : wk ≤ 60000 := by omega
          clear hfull hp5 hwk
          go_wp2_with fail
          go_loopg [76] m2 (fun m i wr => ∃ k wk wd, m + k = m2 ∧ i = .int .i64 (k : Int) ∧ Pair w2 wr b (l1 ++ l2.take k) wk d (l1 ++ l2.take k) wd [] ∧ wk ≤ 100000 + 300 * k ∧ wd ≤ 60000 + 300 * k)
          case atStart => exact ⟨0, W, wk, rfl, rfl, by simpa using HP5.out, by omega, by omega⟩
          case round =>
            obtain ⟨k, wk, wd, hk, rfl, hp, hwk, hwd⟩ := hrel
            have hkm : k ≤ m2 := by omega
            have HK := Lib.hid hk
            have HQ := Lib.hid hp
            clear hk hp
            by_cases hlt : k < m2
            · obtain ⟨bb, oo, hB, hcell⟩ := (HI2.out.upd0 (UP.out _ HQ.out.upd)).cell (k := k) (by rw [HM2.out]; exact hlt)
              subst hB
              obtain ⟨x, hx⟩ : ∃ x, l2[k]'(by rw [HM2.out]; exact hlt) = x := ⟨_, rfl⟩
              rw [hx] at hcell
              have HX := Lib.hid hx
              clear hx
              have b0 : (0 : Int) ≤ (k : Int) := Int.natCast_nonneg _
              have b1 : (k : Int) < (m2 : Int) := by omega
              obtain ⟨L, hL⟩ : ∃ L, l1 ++ l2.take k = L := ⟨_, rfl⟩
              have hlen : L.length ≤ m1 + k := by rw [← hL, List.length_append, HM1.out, List.length_take]; omega
              have hq := HQ.out
              rw [hL] at hq
              have HQL := Lib.hid hq
              have HL := Lib.hid hL
              clear hq hL
              have h2p := (gath_last L x).2.1
              have hg := (gath_set L x).2
              go_wp2_with fail
              refine (addP w2 _ b x _ wk d _ _ _ HQL.out (by omega) (by omega)).mono ?_
              rintro e w3 ⟨A3, C3, rfl, hp3⟩
              have HP3 := Lib.hid hp3
              clear hp3
              go_wp2_with fail
              refine (addP w2 _ d x _ wd b _ _ _ HP3.out.symm (by omega) (by omega)).mono ?_
              rintro e w4 ⟨A4, C4, rfl, hp4⟩
              have HP4 := Lib.hid hp4.symm
              clear hp4
              obtain ⟨t, ht⟩ : ∃ t, firstE (setB L) = t := ⟨_, rfl⟩
              obtain ⟨G, hG⟩ : ∃ G, gath (setB L) x = G := ⟨_, rfl⟩
              rw [hG] at hg
              have hp4' := HP4.out
              have h2p' := h2p
              rw [ht] at hp4' hg h2p' ⊢
              rw [hG] at hp4'
              obtain ⟨p, hp⟩ : ∃ p, 2 ^ t = p := ⟨_, rfl⟩
              rw [hp] at hp4' hg h2p' ⊢
              have HH := Lib.hid hp4'
              have HG := Lib.hid hg
              clear hp4' hg hG hp ht h2p HP4 HP3
              go_wp2_with fail
              refine (same20 _ _ G G _ (Ints.of_row (HH.out.row (by simp))) (Ints.of_row (HH.out.row (by simp))) (by rw [HG.out]; omega) (by rw [HG.out]; omega)).mono ?_
              rintro e w5 ⟨rfl, hu5⟩
              rw [decide_eq_true rfl]
              have HH5 := Lib.hid (HH.out.quiet hu5).none
              clear hu5
              go_wp2_with fail
              go_roundg (gk - 1)
              case measure => have := HK.out; omega
              case rel =>
                refine ⟨k + 1, wk + p, wd + p, by have := HK.out; omega, by go_num, ?_, by omega, by omega⟩
                rw [List.take_succ_eq_append_getElem (by rw [HM2.out]; exact hlt), HX.out, ← List.append_assoc, HL.out]
                exact HH5.out
            · obtain ⟨L, hL⟩ : ∃ L, l1 ++ l2.take k = L := ⟨_, rfl⟩
              have hlen : L.length < 300 := by rw [← hL, List.length_append, HM1.out, List.length_take]; omega
              have hq := HQ.out
              rw [hL] at hq
              have HQL := Lib.hid hq
              clear hq hL
              have hbt := bitsN_le L.length 20 (by omega)
              obtain ⟨B, hB⟩ : ∃ B, bitsN L.length = B := ⟨_, rfl⟩
              rw [hB] at hbt
              have HB := Lib.hid hB
              clear hB
              go_wp2_with fail
              refine (levelsP w2 wr b _ _ d _ _ _ HQL.out).mono ?_
              rintro e w' ⟨rfl, rfl⟩
              rw [HB.out]
              go_wp2_with fail
              refine (levelsP w2 wr d _ _ b _ _ _ HQL.out.symm).mono ?_
              rintro e w' ⟨rfl, rfl⟩
              rw [HB.out]
              go_wp2_with fail
              refine (lenP w2 wr b _ _ d _ _ _ HQL.out).mono ?_
              rintro e w' ⟨rfl, rfl⟩
              go_wp2_with fail
              refine (lenP w2 wr d _ _ b _ _ _ HQL.out.symm).mono ?_
              rintro e w' ⟨rfl, rfl⟩
              go_wp2_with fail
              refine (levelsP w2 wr b _ _ d _ _ _ HQL.out).mono ?_
              rintro e w' ⟨rfl, rfl⟩
              rw [HB.out]
              go_wp2_with fail
              clear HQ
              go_loopg [116] B (fun m i wq => ∃ k, m + k = B ∧ i = .int .i64 (k : Int) ∧ Pair w2 wq b L wk d L wd [])
              case atStart => exact ⟨0, rfl, rfl, HQL.out⟩
              case round =>
                clear hlt hkm HK
                obtain ⟨k, hk, rfl, hq⟩ := hrel
                have hkB : k ≤ B := by omega
                have HK := Lib.hid hk
                have HQ := Lib.hid hq
                clear hk hq
                by_cases hlt : k < B
                · have hbl : (bucketOf L k).length < 1000000 := by
                    rw [bucketOf_len]
                    split
                    · rename_i hb
                      have := Nat.ge_two_pow_of_testBit hb
                      omega
                    · omega
                  obtain ⟨G, hG⟩ : ∃ G, bucketOf L k = G := ⟨_, rfl⟩
                  rw [hG] at hbl
                  have HG := Lib.hid hG
                  clear hG
                  go_wp2_with fail
                  refine (bucketP w2 _ b k _ _ d _ _ _ HQ.out (by rw [HB.out]; exact hlt) (by omega)).mono ?_
                  rintro e w3 ⟨A3, C3, rfl, hp3⟩
                  rw [HG.out] at hp3 ⊢
                  have HP3 := Lib.hid hp3
                  clear hp3
                  go_wp2_with fail
                  refine (bucketP w2 _ d k _ _ b _ _ _ HP3.out.symm (by rw [HB.out]; exact hlt) (by omega)).mono ?_
                  rintro e w4 ⟨A4, C4, rfl, hp4⟩
                  rw [HG.out] at hp4 ⊢
                  have HP4 := Lib.hid hp4
                  clear hp4
                  go_wp2_with fail
                  refine (same20 _ _ G G _ (Ints.of_row (HP4.out.row (by simp))) (Ints.of_row (HP4.out.row (by simp))) (by omega) (by omega)).mono ?_
                  rintro e w5 ⟨rfl, hu5⟩
                  rw [decide_eq_true rfl]
                  have HH5 := Lib.hid (HP4.out.symm.quiet hu5).none
                  clear hu5
                  go_wp2_with fail
                  go_roundg (gk - 1)
                  case measure => have := HK.out; omega
                  case rel => exact ⟨k + 1, by have := HK.out; omega, by go_num, HH5.out⟩
                · have HUP := Lib.hid (UP.out _ HQ.out.upd)
                  go_wp2_with fail
                  refine (awake_true _).mono ?_
                  rintro e w' ⟨rfl, hu⟩
                  have HU9 := Lib.hid (HUP.out.trans hu)
                  clear hu
                  go_wp2_with fail
                  go_ret
                  exact ⟨rfl, HU9.out.below⟩
end Go.Proofs.Ytkhgglafnjfiaaa
