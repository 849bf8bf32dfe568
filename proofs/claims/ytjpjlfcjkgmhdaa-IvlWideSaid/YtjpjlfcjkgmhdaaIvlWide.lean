/- gridironlaw09.IvlWide: the walk. -/
import Derived.Test.YtjpjlfcjkgmhdaaIvlW
import Derived.Test.YtjpjlfcjkgmhdaaIvlP
namespace Go.Proofs.Ytjpjlfcjkgmhdaa
open Go.RowKit

theorem min4 {P : Program} (ts : Array TypeId) (t : TypeId) (a b c d : Int) (w : World) : (Builtin.min_ ts t #[.int .i64 a, .int .i64 b, .int .i64 c, .int .i64 d]).run P w = .ok (.int .i64 (min a (min b (min c d)))) w := by
  have h : ∀ x y : Int, (if y < x then y else x) = min x y := fun x y => by omega
  simp [Builtin.min_, Builtin.min2, h, Int.min_assoc]

theorem max4 {P : Program} (ts : Array TypeId) (t : TypeId) (a b c d : Int) (w : World) : (Builtin.max_ ts t #[.int .i64 a, .int .i64 b, .int .i64 c, .int .i64 d]).run P w = .ok (.int .i64 (max a (max b (max c d)))) w := by
  have h : ∀ x y : Int, (if x < y then y else x) = max x y := fun x y => by omega
  simp [Builtin.max_, Builtin.max2, h, Int.max_assoc]

set_option maxRecDepth 100000 in
set_option maxHeartbeats 8000000 in
theorem ivlWide_walk (v : Value) (l : List Sp) (a b c d : Int) (w : World) (h : IsSps w v l) (hid : ∀ s ∈ l, s.in64) (hl : l.length ≤ maxLen) :
    Calls Try.prog 4 #[v, .int .i64 a, .int .i64 b, .int .i64 c, .int .i64 d] w fun e w' => e = .returned (.bool true) ∧ Upd [] w w' := by
  obtain ⟨A, C, rfl⟩ := h.form
  obtain ⟨N, hN⟩ : ∃ N, l.length = N := ⟨_, rfl⟩
  rw [hN] at h hl ⊢
  unfold maxLen at hl
  have n0 : (0 : Int) ≤ (N : Int) := Int.natCast_nonneg _
  have hid2 : ∀ s ∈ l, s.id < 4294967296 := fun s hs => (hid s hs).2.2
  by_cases hbig : 80 < N
  · have hb : decide ((80 : Int) < (N : Int)) = true := decide_eq_true (by omega)
    have HAW := Lib.hid (awake09 w)
    clear h hid hid2 hbig
    go_enter Try.func4, Try.ntmps4
    go_wp2_with fail
    (with_reducible refine HAW.out.mono ?_)
    rintro e w1 ⟨rfl, u1⟩
    go_wp2_with fail
    go_ret
    exact ⟨rfl, u1⟩
  · have hb : decide ((80 : Int) < (N : Int)) = false := decide_eq_false (by omega)
    have hN80 : N ≤ 80 := by omega
    have hbd := ivlBuild _ l w (by rw [← hN] at h; exact h) hid2 (by omega)
    rw [hN] at hbd
    have HB := Lib.hid hbd
    have HN := Lib.hid (And.intro hN hid)
    have HAW := Lib.hid (fun w' => awake09 w')
    clear h hid hid2 hbig hN hbd
    go_enter Try.func4, Try.ntmps4
    go_wp2_with fail
    (with_reducible refine HB.out.mono ?_)
    rintro e w1 ⟨u1, (⟨hr, rfl⟩ | ⟨hr, q, F, rfl, hs, hF⟩)⟩
    · have HAW1 := Lib.hid (HAW.out w1)
      have HU1 := Lib.hid u1
      clear hr u1
      go_wp2_with fail
      (with_reducible refine HAW1.out.mono ?_)
      rintro e w2 ⟨rfl, u2⟩
      have HU2 := Lib.hid (HU1.out.trans u2)
      clear u2
      go_wp2_with fail
      go_ret
      exact ⟨rfl, HU2.out⟩
    · have hm1 := vMeet hs (min a (min b (min c d))) (max a (max b (max c d)))
      have hm2 := fun w' (hu : Upd [] w1 w') => vMeet (hs.upd0 hu) (min a b) (max a b)
      have hm3 := fun w' (hu : Upd [] w1 w') => vMeet (hs.upd0 hu) (-9223372036854775808) 9223372036854775807
      have hsub : (meetL l (min a b) (max a b)).Sublist (meetL l (min a (min b (min c d))) (max a (max b (max c d)))) := meetL_wide hs.names (by omega) (by omega) (by omega)
      have hl3 := meetL_all HN.out.2
      have hl1 := meetL_len l (min a (min b (min c d))) (max a (max b (max c d)))
      have hl2 := meetL_len l (min a b) (max a b)
      rw [HN.out.1] at hl1 hl2 hl3
      obtain ⟨K1, hK1⟩ : ∃ L, meetL l (min a (min b (min c d))) (max a (max b (max c d))) = L := ⟨_, rfl⟩
      obtain ⟨K2, hK2⟩ : ∃ L, meetL l (min a b) (max a b) = L := ⟨_, rfl⟩
      obtain ⟨K3, hK3⟩ : ∃ L, meetL l (-9223372036854775808) 9223372036854775807 = L := ⟨_, rfl⟩
      rw [hK1] at hm1 hsub hl1
      rw [hK2] at hsub hl2
      rw [hK3] at hl3
      simp only [hK2] at hm2
      simp only [hK3] at hm3
      obtain ⟨n1, hn1⟩ : ∃ n, K1.length = n := ⟨_, rfl⟩
      obtain ⟨n2, hn2⟩ : ∃ n, K2.length = n := ⟨_, rfl⟩
      rw [hn1] at hl1
      rw [hn2] at hl2
      have HM1 := Lib.hid hm1
      have HM2 := Lib.hid hm2
      have HM3 := Lib.hid hm3
      have HK := Lib.hid (And.intro hsub (And.intro hn1 (And.intro hn2 hl3)))
      have HU1 := Lib.hid u1
      have hmn := fun ts t w => min4 (P := Try.prog) ts t a b c d w
      have hmx := fun ts t w => max4 (P := Try.prog) ts t a b c d w
      clear hr u1 hs hF hm1 hm2 hm3 hsub hl3 hK1 hK2 hK3 hn1 hn2
      go_wp2_with fail
      (with_reducible refine HM1.out.mono ?_)
      rintro e w2 ⟨z, ⟨A5, C5, rfl, r1, u2⟩, -, -⟩
      have HM2' := Lib.hid (HM2.out w2 u2)
      have HR := Lib.hid (And.intro r1 u2)
      clear r1 u2
      go_wp2_with fail
      (with_reducible refine HM2'.out.mono ?_)
      rintro e w3 ⟨z2, ⟨A6, C6, rfl, r3, u3⟩, -, -⟩
      have HM3' := Lib.hid (HM3.out w3 (HR.out.2.trans u3))
      have HR2 := Lib.hid (And.intro r3 u3)
      clear r3 u3
      go_wp2_with fail
      (with_reducible refine HM3'.out.mono ?_)
      rintro e w4 ⟨z3, ⟨A7, C7, rfl, r4, u4⟩, -, -⟩
      have hr1 := own_upd (own_upd HR.out.1 HR2.out.2 (by simp)) u4 (by simp)
      have hr2 := own_upd HR2.out.1 u4 (by simp)
      have HW := Lib.hid (And.intro (show See KU w4 (.slice A5 K1.length C5) K1 from See.of_row (K := KU) hr1) (And.intro (show See KU w4 (.slice A6 K2.length C6) K2 from See.of_row (K := KU) hr2) (HU1.out.trans (HR.out.2.trans (HR2.out.2.trans u4)))))
      rw [HK.out.2.1, HK.out.2.2.1, HK.out.2.2.2]
      have a0 : (0 : Int) ≤ (n1 : Int) := Int.natCast_nonneg _
      have a1 : (n1 : Int) ≤ 80 := by omega
      have c0 : (0 : Int) ≤ (n2 : Int) := Int.natCast_nonneg _
      clear r4 u4 hr1 hr2
      go_wp2_with fail
      go_loopg [21, 71] n1 (fun m s21 s71 wr => ∃ j k : Nat, m + j = n1 ∧ gF K2 (K1.take j) 0 = k ∧ s21 = .int .i64 (k : Int) ∧ s71 = .int .i64 (j : Int) ∧ Upd [] w4 wr)
      case atStart => exact ⟨0, 0, rfl, rfl, rfl, rfl, Upd.refl _ _⟩
      case round =>
        obtain ⟨j, k, hj, hk, rfl, rfl, hup⟩ := hrel
        have hkl := gF_le K2 (K1.take j) 0 (Nat.zero_le _)
        rw [hk, HK.out.2.2.1] at hkl
        have j0 : (0 : Int) ≤ (j : Int) := Int.natCast_nonneg _
        have k0 : (0 : Int) ≤ (k : Int) := Int.natCast_nonneg _
        have hjn : j ≤ n1 := by omega
        have HJ := Lib.hid (And.intro hj (And.intro hk hup))
        clear hj hk
        by_cases hlt : j < n1
        · obtain ⟨x, hx⟩ : ∃ x, K1[j]? = some x := ⟨_, List.getElem?_eq_getElem (by rw [HK.out.2.1]; exact hlt)⟩
          have hnx : gF K2 (K1.take (j + 1)) 0 = if K2[k]? = some x then k + 1 else k := by
            obtain ⟨h1, h2⟩ := List.getElem?_eq_some_iff.1 hx
            rw [List.take_succ_eq_append_getElem h1, h2, gF_app, HJ.out.2.1]
            rfl
          have hse1 : See KU wr (.slice A5 K1.length C5) K1 := HW.out.1.upd0 hup
          have hse2 : See KU wr (.slice A6 K2.length C6) K2 := HW.out.2.1.upd0 hup
          rw [HK.out.2.1] at hse1
          rw [HK.out.2.2.1] at hse2
          obtain ⟨g1, o1, rfl, -, -, ex⟩ := KU.atS hse1 hx
          have b1 : (j : Int) < (n1 : Int) := by omega
          by_cases hkn : k < n2
          · obtain ⟨y, hy⟩ : ∃ x, K2[k]? = some x := ⟨_, List.getElem?_eq_getElem (by rw [HK.out.2.2.1]; exact hkn)⟩
            obtain ⟨g2, o2, rfl, -, -, ey⟩ := KU.atS hse2 hy
            have b2 : decide ((k : Int) < (n2 : Int)) = true := decide_eq_true (by omega)
            have b3 : (k : Int) < (n2 : Int) := by omega
            rw [hy] at hnx
            by_cases hxy : y = x
            · have hq : ((y : Int) == (x : Int)) = true := by simp [hxy]
              rw [if_pos (by rw [hxy])] at hnx
              have HX := Lib.hid hnx
              clear hx hse1 hse2 hy hnx hup hxy
              go_wp2_with fail
              go_roundg (n1 - (j + 1))
              case measure => have := HJ.out.1; omega
              case rel => exact ⟨j + 1, k + 1, by have := HJ.out.1; omega, HX.out, by go_num, by go_num, HJ.out.2.2⟩
            · have hq : ((y : Int) == (x : Int)) = false := by simp; omega
              rw [if_neg (by simpa using hxy)] at hnx
              have HX := Lib.hid hnx
              clear hx hse1 hse2 hy hnx hup hxy
              go_wp2_with fail
              go_roundg (n1 - (j + 1))
              case measure => have := HJ.out.1; omega
              case rel => exact ⟨j + 1, k, by have := HJ.out.1; omega, HX.out, by go_num, by go_num, HJ.out.2.2⟩
          · have b2 : decide ((k : Int) < (n2 : Int)) = false := decide_eq_false (by omega)
            rw [List.getElem?_eq_none (by rw [HK.out.2.2.1]; omega), if_neg (by simp)] at hnx
            have HX := Lib.hid hnx
            clear hx hse1 hse2 hnx hup
            go_wp2_with fail
            go_roundg (n1 - (j + 1))
            case measure => have := HJ.out.1; omega
            case rel => exact ⟨j + 1, k, by have := HJ.out.1; omega, HX.out, by go_num, by go_num, HJ.out.2.2⟩
        · have hall : K1.take j = K1 := by rw [show j = K1.length by rw [HK.out.2.1]; omega]; exact List.take_length
          have hkk := gF_all K2 K1 0 (Nat.zero_le _) (by rw [List.drop_zero]; exact HK.out.1)
          have hk := HJ.out.2.1
          rw [hall, hkk, HK.out.2.2.1] at hk
          subst hk
          have HAW2 := Lib.hid (HAW.out wr)
          have k1 : ((n2 : Int) == (n2 : Int)) = true := by simp
          have k2 : ((N : Int) == (N : Int)) = true := by simp
          have k3 : decide (n1 ≤ N) = true := decide_eq_true (by omega)
          clear hup hall hkk
          go_wp2_with fail
          (with_reducible refine HAW2.out.mono ?_)
          rintro e w5 ⟨rfl, u5⟩
          have HU5 := Lib.hid ((HW.out.2.2.trans HJ.out.2.2).trans u5)
          clear u5
          go_wp2_with fail
          go_ret
          exact ⟨rfl, HU5.out⟩
end Go.Proofs.Ytjpjlfcjkgmhdaa
