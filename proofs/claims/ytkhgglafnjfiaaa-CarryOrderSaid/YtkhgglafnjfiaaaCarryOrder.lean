/- gridironlaw20.CarryOrder: whatever is added, the law answers true, and writes nothing that was there. -/
import Derived.Test.YtkhgglafnjfiaaaLaw20b
import Derived.Test.YtkhgglafnjfiaaaLow
import Derived.Test.YtkhgglafnjfiaaaCarryOwn
namespace Go.Proofs.Ytkhgglafnjfiaaa
open Go.RowKit

set_option maxRecDepth 100000 in
set_option maxHeartbeats 2000000 in
theorem order_walk (s : Value) (l : List Int) (w : World) (hs : Ints w s l) (hm : l.length ≤ 9223372036854775807) :
    Calls Try.prog 7 #[s] w fun e w' => e = .returned (.bool true) ∧ Below w.heap.size w w' := by
  obtain ⟨A, C, rfl⟩ := hs.form
  obtain ⟨B0, D0, m0, l0, hl0, hm0, hn0, hr0, hv0, hi0⟩ := head_of hs 300 300 rfl
  have q0 : m0 ≤ 300 := by omega
  have hv1 : Value.int .i64 (min (l.length : Int) 300) = Value.int .i64 (m0 : Int) := by
    rw [show min (l.length : Int) 300 = (m0 : Int) from by omega]
  have HI0 := Lib.hid hi0
  have HM0 := Lib.hid hm0
  clear hs hl0 hm0 hn0 hi0
  go_enter Try.func7, Try.ntmps7
  go_wp2_with fail
  refine (newI w).mono ?_
  rintro e w1 ⟨b, rfl, hH, hb0, hu1⟩
  have hst : One w w1 b [] 0 [] := ⟨[b], by rw [setB_nil]; exact hH, hu1.mono (by simp), by simp, by simp, by simp⟩
  have H1 := Lib.hid hst
  clear hH hu1 hst
  have up : ∀ wr l wl R, One w wr b l wl R → Upd [] w wr := fun _ _ _ _ h => (Upd.refl [] w).trans' h.upd (fun x hx => .inr (by simp at hx; omega))
  have UP := Lib.hid up
  clear up
  go_wp2_with fail
  go_loopg [19] m0 (fun m i wr => ∃ k, m + k = m0 ∧ i = .int .i64 (k : Int) ∧ One w wr b (l0.take k) (lowS k) [])
  case atStart => exact ⟨0, rfl, rfl, H1.out⟩
  case round =>
    obtain ⟨k, hk, rfl, ho⟩ := hrel
    have hkm : k ≤ m0 := by omega
    have HK := Lib.hid hk
    have HO := Lib.hid ho
    clear hk ho
    by_cases hlt : k < m0
    · obtain ⟨bb, oo, hB, hcell⟩ := (HI0.out.upd0 (UP.out _ _ _ _ HO.out)).cell (k := k) (by rw [HM0.out]; exact hlt)
      subst hB
      obtain ⟨x, hx⟩ : ∃ x, l0[k]'(by rw [HM0.out]; exact hlt) = x := ⟨_, rfl⟩
      rw [hx] at hcell
      have hnext : l0.take (k + 1) = l0.take k ++ [x] := by rw [List.take_succ_eq_append_getElem (by rw [HM0.out]; exact hlt), hx]
      have hlen : (l0.take k).length = k := by rw [List.length_take, HM0.out]; omega
      obtain ⟨L, hL⟩ : ∃ L, l0.take k = L := ⟨_, rfl⟩
      have ho := HO.out
      rw [hL] at ho hlen hnext
      have HOL := Lib.hid ho
      have HLen := Lib.hid hlen
      have HNext := Lib.hid hnext
      clear hx hL ho hlen hnext HO
      have b0 : (0 : Int) ≤ (k : Int) := Int.natCast_nonneg _
      have b1 : (k : Int) < (m0 : Int) := by omega
      obtain ⟨hS1, _⟩ := lowS_dec k (by omega)
      obtain ⟨hS2, hS3⟩ := lowS_dec (k + 1) (by omega)
      obtain ⟨g1, g2, g3, g4⟩ := gath_last L x
      have g5 := (gath_set L x).2
      rw [HLen.out] at g2 g3 g4
      obtain ⟨f1, f2, f3, f4⟩ := low_is k _ (by omega) g2 g3 g4
      clear g1 g3 g4
      have hS : lowS (k + 1) = lowS k + 2 ^ firstE (setB L) := by rw [f1]; rfl
      obtain ⟨t, ht⟩ : ∃ t, firstE (setB L) = t := ⟨_, rfl⟩
      obtain ⟨G, hG⟩ : ∃ G, gath (setB L) x = G := ⟨_, rfl⟩
      obtain ⟨W, hW⟩ : ∃ W, lowS k = W := ⟨_, rfl⟩
      have ha := addO w wr b x L W [] (by rw [← hW]; exact HOL.out) (by rw [HLen.out]; omega) (by omega)
      rw [ht, hG] at ha
      rw [ht] at f1 f2 f3 f4 g2 hS g5
      rw [hG] at g5
      obtain ⟨p, hp⟩ : ∃ p, 2 ^ t = p := ⟨_, rfl⟩
      rw [hp] at g2 hS g5 ha
      rw [hS, hW] at hS2 hS3
      rw [hW] at hS1
      obtain ⟨lg, hlg⟩ : ∃ lg, logN (k + 1) = lg := ⟨_, rfl⟩
      rw [hlg] at hS3
      have hlg9 : lg ≤ 20 := by rw [← hlg]; exact bitsN_le _ _ (by omega)
      obtain ⟨M, hM⟩ : ∃ M, (k + 1) * (lg + 1) = M := ⟨_, rfl⟩
      rw [hM] at hS3
      have hM2 : M ≤ 300 * 21 := by rw [← hM]; exact Nat.mul_le_mul (by omega) (by omega)
      have hmul : Value.int .i64 (wrap64 (((k : Int) + 1) * ((lg : Int) + 1))) = Value.int .i64 (M : Int) := by
        rw [← hM]
        have : ((k : Int) + 1) * ((lg : Int) + 1) = (((k + 1) * (lg + 1) : Nat) : Int) := by simp
        rw [this]
        congr 1
        unfold wrap64
        omega
      have hbl : (bucketOf (L ++ [x]) t).length = p := by
        rw [bucketOf_len, List.length_append, HLen.out]
        show (if (k + 1).testBit t = true then 2 ^ t else 0) = p
        rw [if_pos f2, hp]
      have HW := Lib.hid hW
      have HA := Lib.hid ha
      have HG5 := Lib.hid g5
      have HF2 := Lib.hid f2
      have HF4 := Lib.hid f4
      have HS := Lib.hid hS
      have HP := Lib.hid hp
      have HLG := Lib.hid hlg
      have HBL := Lib.hid hbl
      have hL1 : (L ++ [x]).length = k + 1 := by rw [List.length_append, HLen.out]; rfl
      obtain ⟨L1, hL2⟩ : ∃ L1, L ++ [x] = L1 := ⟨_, rfl⟩
      rw [hL2] at hL1
      have HL1 := Lib.hid hL1
      have HL2 := Lib.hid hL2
      clear hW ha g5 f1 f2 f4 hS hp hlg hbl hM hL1 hL2 hG ht
      go_wp2_with fail
      refine (workO w wr b _ _ _ HOL.out).mono ?_
      rintro e w' ⟨rfl, rfl⟩
      rw [HW.out]
      go_wp2_with fail
      refine HA.out.mono ?_
      rintro e w3 ⟨A3, C3, rfl, ho3⟩
      rw [HL2.out] at ho3
      have HO3 := Lib.hid (ho3.sub (R' := []) (by simp))
      clear ho3
      go_wp2_with fail
      refine (bucketO w w3 b t L1 _ _ HO3.out (by rw [HL1.out]; exact f3) (by rw [HL1.out]; omega)).mono ?_
      rintro e w4 ⟨A4, C4, rfl, ho4⟩
      have HO4 := Lib.hid (ho4.sub (R' := []) (by simp))
      clear ho4
      have hbl := HBL.out
      rw [HL2.out] at hbl
      rw [hbl]
      clear hbl
      go_wp2_with fail
      refine (workO w w4 b _ _ _ HO4.out).mono ?_
      rintro e w' ⟨rfl, rfl⟩
      rw [show (((W + p : Nat)) : Int) = (W : Int) + (p : Int) from by omega]
      go_wp2_with fail
      refine (workO w w4 b _ _ _ HO4.out).mono ?_
      rintro e w' ⟨rfl, rfl⟩
      rw [show (((W + p : Nat)) : Int) = (W : Int) + (p : Int) from by omega]
      go_wp2_with fail
      rw [show ((k : Int) + 1) = ((k + 1 : Nat) : Int) from by omega]
      refine (logRef (k + 1) w4 (by omega)).mono ?_
      rintro e w' ⟨rfl, rfl⟩
      rw [HLG.out, show ((k + 1 : Nat) : Int) = ((k : Int) + 1) from by omega]
      go_wp2_with fail
      go_wp2_with fail
      refine (levelsO w w4 b _ _ _ HO4.out).mono ?_
      rintro e w' ⟨rfl, rfl⟩
      have hbt := bitsN_le L1.length 20 (by rw [HL1.out]; omega)
      obtain ⟨B, hB⟩ : ∃ B, bitsN L1.length = B := ⟨_, rfl⟩
      rw [hB] at hbt ⊢
      have HB := Lib.hid hB
      clear hB HOL
      go_wp2_with fail
      go_loopg [66] B (fun m i wr => ∃ j, m + j = B ∧ i = .int .i64 (j : Int) ∧ One w wr b L1 (W + p) [])
      case atStart => exact ⟨0, rfl, rfl, HO4.out⟩
      case round =>
        obtain ⟨j, hj, rfl, ho⟩ := hrel
        have hjB : j ≤ B := by omega
        have HJ := Lib.hid hj
        have HQ := Lib.hid ho
        clear hj ho
        by_cases hlt2 : j < B
        · obtain ⟨q, hq⟩ : ∃ q, 2 ^ j = q := ⟨_, rfl⟩
          have hq0 : 0 < q := by rw [← hq]; exact Nat.pow_pos (by omega)
          have hshl : Value.int .i64 (wrap64 ((2 : Int) ^ j)) = Value.int .i64 (q : Int) := by rw [shl_spelt j q (by omega) hq]
          obtain ⟨n, hn⟩ : ∃ n, (bucketOf L1 j).length = n := ⟨_, rfl⟩
          have hnn : (n = q ∧ t ≤ j) ∨ (n = 0 ∧ j ≠ B - 1) := by
            rw [bucketOf_len, HL1.out] at hn
            by_cases hb : (k + 1).testBit j = true
            · rw [if_pos hb, hq] at hn
              left
              refine ⟨hn.symm, Nat.le_of_not_lt fun hc => ?_⟩
              rw [HF4.out j hc] at hb
              simp at hb
            · rw [if_neg hb] at hn
              right
              refine ⟨hn.symm, fun hc => hb ?_⟩
              rcases top_dec (k + 1) (by omega) with h0 | h0
              · omega
              · rw [hc, ← HB.out, HL1.out]; exact h0
          have hql : n ≤ 301 := by rw [← hn]; have := bucket_le L1 j; rw [HL1.out] at this; omega
          have HN := Lib.hid hn
          have HSH := Lib.hid hshl
          clear hq hn hshl
          go_wp2_with fail
          refine (bucketO w _ b j L1 _ _ HQ.out (by rw [HB.out]; exact hlt2) (by rw [HL1.out]; omega)).mono ?_
          rintro e w6 ⟨A6, C6, rfl, ho6⟩
          rw [HN.out] at ho6 ⊢
          have HO6 := Lib.hid (ho6.sub (R' := []) (by simp))
          clear ho6
          rcases hnn with ⟨rfl, htj⟩ | ⟨rfl, hjb⟩
          · have hshl := HSH.out
            by_cases hjb : (j : Int) = (B : Int) - 1
            · have q1 : ((j : Int) == (B : Int) - 1) = true := by simp [hjb]
              clear hjb
              go_wp2_with fail
              refine (levelsO w w6 b _ _ _ HO6.out).mono ?_
              rintro e w' ⟨rfl, rfl⟩
              rw [HB.out]
              go_wp2_with fail
              go_roundg (B - (j + 1))
              case measure => have := HJ.out; omega
              case rel => exact ⟨j + 1, by have := HJ.out; omega, by go_num, HO6.out⟩
            · have q1 : ((j : Int) == (B : Int) - 1) = false := by simp [hjb]
              clear hjb
              go_wp2_with fail
              refine (levelsO w w6 b _ _ _ HO6.out).mono ?_
              rintro e w' ⟨rfl, rfl⟩
              rw [HB.out]
              go_wp2_with fail
              go_roundg (B - (j + 1))
              case measure => have := HJ.out; omega
              case rel => exact ⟨j + 1, by have := HJ.out; omega, by go_num, HO6.out⟩
          · by_cases htj : j < t
            · go_wp2_with fail
              refine (levelsO w w6 b _ _ _ HO6.out).mono ?_
              rintro e w' ⟨rfl, rfl⟩
              rw [HB.out]
              go_wp2_with fail
              go_roundg (B - (j + 1))
              case measure => have := HJ.out; omega
              case rel => exact ⟨j + 1, by have := HJ.out; omega, by go_num, HO6.out⟩
            · go_wp2_with fail
              refine (levelsO w w6 b _ _ _ HO6.out).mono ?_
              rintro e w' ⟨rfl, rfl⟩
              rw [HB.out]
              go_wp2_with fail
              go_roundg (B - (j + 1))
              case measure => have := HJ.out; omega
              case rel => exact ⟨j + 1, by have := HJ.out; omega, by go_num, HO6.out⟩
        · go_wp2_with fail
          go_roundg (m0 - (k + 1))
          case measure => have := HK.out; omega
          case rel =>
            refine ⟨k + 1, by have := HK.out; omega, by go_num, ?_⟩
            rw [HNext.out, HL2.out, HS.out, HW.out]
            exact HQ.out
    · have hfull : l0.take k = l0 := List.take_of_length_le (by rw [HM0.out]; omega)
      have ho := HO.out
      rw [hfull] at ho
      have HOL := Lib.hid ho
      clear hfull ho HO
      go_wp2_with fail
      refine (all20 w wr b l0 _ _ HOL.out (by rw [HM0.out]; omega)).mono ?_
      rintro e w8 ⟨A8, C8, rfl, h8⟩
      have H9 := Lib.hid h8
      clear h8
      go_wp2_with fail
      refine (same20 _ _ l0 l0 _ (H9.out.ints (v := .slice A8 l0.length C8) (g := l0) (by simp)) (HI0.out.upd0 (UP.out _ _ _ _ H9.out)) (by rw [HM0.out]; omega) (by rw [HM0.out]; omega)).mono ?_
      rintro e w9 ⟨rfl, hu9⟩
      rw [decide_eq_true rfl]
      have H10 := Lib.hid (H9.out.quiet hu9)
      clear hu9
      go_wp2_with fail
      refine (lenO w w9 b _ _ _ H10.out).mono ?_
      rintro e w' ⟨rfl, rfl⟩
      rw [HM0.out]
      go_wp2_with fail
      refine (awake_true _).mono ?_
      rintro e w10 ⟨rfl, hu⟩
      have H11 := Lib.hid (H10.out.quiet hu)
      clear hu
      go_wp2_with fail
      go_ret
      refine ⟨rfl, (UP.out _ _ _ _ H11.out).below⟩
end Go.Proofs.Ytkhgglafnjfiaaa
