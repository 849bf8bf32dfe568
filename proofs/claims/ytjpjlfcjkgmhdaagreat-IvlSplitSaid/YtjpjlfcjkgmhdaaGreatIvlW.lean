/- Chapter 9's law: sameIDs, meets, awake. -/
import Derived.Test.YtjpjlfcjkgmhdaaGreatIvlK
import Derived.BigQuiet
import Derived.Deep.QuietTactic
import Derived.ProofKit
namespace Go.Proofs.YtjpjlfcjkgmhdaaGreat
open Go.RowKit

set_option maxRecDepth 100000 in
set_option maxHeartbeats 4000000 in
theorem sameVC (va vb : Value) (la lb : List Nat) (w : World) (ha : See KU w va la) (hb : See KU w vb lb) (hl : la.length < 1000000000000) (hl2 : lb.length < 1000000000000) :
    Calls Tryz.prog 10 #[va, vb] w fun e w' => e = .returned (.bool (decide (la = lb))) ∧ Upd [] w w' := by
  obtain ⟨A, C, rfl⟩ := ha.form
  obtain ⟨B, D, rfl⟩ := hb.form
  obtain ⟨r, hr⟩ : ∃ r, decide (la = lb) = r := ⟨_, rfl⟩
  obtain ⟨n, hn⟩ : ∃ n, la.length = n := ⟨_, rfl⟩
  obtain ⟨m, hm⟩ : ∃ m, lb.length = m := ⟨_, rfl⟩
  rw [hn] at ha hl
  rw [hm] at hb hl2
  rw [hr, hn, hm]
  have HA := Lib.hid (And.intro ha hb)
  have HN := Lib.hid (And.intro hn (And.intro hm hr))
  have n0 : (0 : Int) ≤ (n : Int) := Int.natCast_nonneg _
  have m0 : (0 : Int) ≤ (m : Int) := Int.natCast_nonneg _
  have n1 : (n : Int) < 1000000000000 := by omega
  clear ha hb hr hn hm
  by_cases hnm : n = m
  · subst hnm
    have hne : ((n : Int) != (n : Int)) = false := by simp
    go_enter Tryz.func10, Tryz.ntmps10
    go_wp2_with fail
    go_loopg [13] n (fun m s13 wr => ∃ k : Nat, m + k = n ∧ s13 = .int .i64 (k : Int) ∧ la.take k = lb.take k ∧ Upd [] w wr)
    case atStart => exact ⟨0, rfl, rfl, by simp, Upd.refl _ _⟩
    case round =>
      obtain ⟨k, hk, rfl, htk, hup⟩ := hrel
      have k0 : (0 : Int) ≤ (k : Int) := Int.natCast_nonneg _
      have hkn : k ≤ n := by omega
      have HK := Lib.hid (And.intro hk (And.intro htk hup))
      clear hk htk hup
      by_cases hlt : k < n
      · obtain ⟨x, hx⟩ : ∃ x, la[k]? = some x := ⟨_, List.getElem?_eq_getElem (by rw [HN.out.1]; exact hlt)⟩
        obtain ⟨y, hy⟩ : ∃ y, lb[k]? = some y := ⟨_, List.getElem?_eq_getElem (by rw [HN.out.2.1]; exact hlt)⟩
        obtain ⟨g1, o1, hA, -, -, hc1⟩ := KU.atS (HA.out.1.upd0 HK.out.2.2) hx
        obtain ⟨g2, o2, hB, -, -, hc2⟩ := KU.atS (HA.out.2.upd0 HK.out.2.2) hy
        subst hA hB
        have HX := Lib.hid (And.intro hx hy)
        have b1 : (k : Int) < (n : Int) := by omega
        clear hx hy
        by_cases hxy : x = y
        · have hq : ((x : Int) != (y : Int)) = false := by simp [hxy]
          have HXY := Lib.hid hxy
          clear hxy
          go_wp2_with fail
          go_quiet (fail)
          go_wp2_with fail
          go_roundg (n - (k + 1))
          case measure => have := HK.out.1; omega
          case rel =>
            refine ⟨k + 1, by have := HK.out.1; omega, by go_num, ?_, HK.out.2.2.drewN _⟩
            obtain ⟨h1, h2⟩ := List.getElem?_eq_some_iff.1 HX.out.1
            obtain ⟨h3, h4⟩ := List.getElem?_eq_some_iff.1 HX.out.2
            rw [List.take_succ_eq_append_getElem h1, List.take_succ_eq_append_getElem h3, HK.out.2.1, h2, h4, HXY.out]
        · have hq : ((x : Int) != (y : Int)) = true := by simp; omega
          have hd : r = false := by
            rw [← HN.out.2.2, decide_eq_false_iff_not]
            intro e
            have h1 := HX.out.1
            rw [e, HX.out.2] at h1
            injection h1 with h1
            exact hxy h1.symm
          have HD := Lib.hid hd
          clear hxy hd
          go_wp2_with fail
          go_quiet (fail)
          go_wp2_with fail
          go_ret
          exact ⟨by rw [HD.out]; rfl, HK.out.2.2.drewN _⟩
      · have hkn2 : k = n := by omega
        have hd : r = true := by
          rw [← HN.out.2.2, decide_eq_true_iff]
          have h1 := HK.out.2.1
          rw [hkn2, List.take_of_length_le (by rw [HN.out.1]; exact Nat.le_refl _), List.take_of_length_le (by rw [HN.out.2.1]; exact Nat.le_refl _)] at h1
          exact h1
        have HD := Lib.hid hd
        clear hd hkn2
        go_wp2_with fail
        go_ret
        exact ⟨by rw [HD.out]; rfl, HK.out.2.2⟩
  · have hne : ((n : Int) != (m : Int)) = true := by simp; omega
    have hd : r = false := by
      rw [← HN.out.2.2, decide_eq_false_iff_not]
      intro e
      exact hnm (by rw [← HN.out.1, ← HN.out.2.1, e])
    have HD := Lib.hid hd
    clear hnm hd
    go_enter Tryz.func10, Tryz.ntmps10
    go_wp2_with fail
    go_ret
    exact ⟨by rw [HD.out]; rfl, Upd.refl _ _⟩


set_option maxRecDepth 100000 in
set_option maxHeartbeats 2000000 in
theorem meetsV {w : World} {p : Value} {F : List Nat} {S : List Sp} {N : Nat} (h : MayV w p F S N) (lo hi : Int) (v : Value) (l : List Nat) (hs : See KU w v l) (hl : l.length < 1000000000000) (hS : S.length < 1000000000000) :
    Calls Tryz.prog 11 #[p, .int .i64 lo, .int .i64 hi, v] w fun e w' => e = .returned (.bool (decide (meetL S lo hi = l))) ∧ Upd [] w w' := by
  have HM := Lib.hid (mayVMeet h lo hi)
  have hml := meetL_len S lo hi
  obtain ⟨L, hL⟩ : ∃ L, meetL S lo hi = L := ⟨_, rfl⟩
  rw [hL] at HM hml ⊢
  have HS := Lib.hid hs
  have HSA := Lib.hid (fun (va : Value) (w' : World) (h1 : See KU w' va L) (h2 : See KU w' v l) => sameVC va _ L l w' h1 h2 (by omega) hl)
  obtain ⟨A, C, rfl⟩ := hs.form
  obtain ⟨r, hr⟩ : ∃ r, decide (L = l) = r := ⟨_, rfl⟩
  rw [hr] at HSA ⊢
  clear h hml hL hs hl hS hr
  go_enter Tryz.func11, Tryz.ntmps11
  go_wp2_with fail
  (with_reducible refine HM.out.mono ?_)
  rintro e w1 ⟨t, ⟨A1, C1, rfl, r1, u1⟩, -, -⟩
  have HC := Lib.hid (HSA.out _ w1 (See.of_row r1) (HS.out.upd0 u1))
  have HU := Lib.hid u1
  clear r1 u1
  go_wp2_with fail
  (with_reducible refine HC.out.mono ?_)
  rintro e w2 ⟨rfl, u2⟩
  have HU2 := Lib.hid (HU.out.trans u2)
  clear u2
  go_wp2_with fail
  go_ret
  exact ⟨rfl, HU2.out⟩

theorem meetL_lit {S : List Sp} {lo hi : Int} {L : List Nat} (hle : ¬ hi < lo) (h : ((S.filter fun s => decide (lo ≤ s.hi) && decide (s.lo ≤ hi)).map Sp.id) = L) (hs : L.Pairwise (· ≤ ·)) : decide (meetL S lo hi = L) = true := by
  rw [decide_eq_true_iff]
  unfold meetL
  rw [if_neg hle, h]
  exact (sortN_eq (List.Perm.refl _) hs).symm

theorem stabL_lit2 {S : List Sp} {x : Int} {L : List Nat} (h : ((S.filter fun s => stabBM s.lo s.hi x).map Sp.id) = L) (hs : L.Pairwise (· ≤ ·)) : stabL S x = L := by
  have := stabL_lit h hs
  simpa using this

set_option maxRecDepth 100000 in
set_option maxHeartbeats 8000000 in
theorem awake09 (w : World) : Calls Tryz.prog 4 #[] w fun e w' => e = .returned (.bool true) ∧ Upd [] w w' := by
  have hb := mayVBuild _ spans3 _ (see_spans3 w) (by decide) (by decide)
  have hes : errS spans3 = 0 := by decide
  have hks : keptS spans3 = spans3 := by decide
  unfold MayVPost at hb
  rw [hes, hks] at hb
  have HB := Lib.hid hb
  have HW0 := Lib.hid ((Upd.refl [] w).alloc (.cells #[.int .i64 0, .int .i64 4, .int .u32 1, .int .i64 4, .int .i64 9, .int .u32 2, .int .i64 6, .int .i64 6, .int .u32 3] 39))
  clear hb hes hks
  go_enter Tryz.func4, Tryz.ntmps4
  go_wp2_with fail
  (with_reducible refine HB.out.mono ?_)
  rintro e w1 ⟨u1, p, F, rfl, hv, -, -⟩
  have h4 := mayVStab hv 4
  rw [stabL_lit2 (S := spans3) (x := 4) (L := [1, 2]) (by decide) (by decide)] at h4
  have HV := Lib.hid (And.intro hv (HW0.out.trans u1))
  have H4 := Lib.hid h4
  clear hv u1 h4
  go_wp2_with fail
  (with_reducible refine H4.out.mono ?_)
  rintro e w2 ⟨t2, ⟨A2, C2, rfl, r2, u2⟩, -, -⟩
  have h7 := mayVStab (HV.out.1.upd0 u2) 7
  rw [stabL_lit2 (S := spans3) (x := 7) (L := [2]) (by decide) (by decide)] at h7
  have H7 := Lib.hid h7
  have HR2 := Lib.hid (And.intro r2 u2)
  clear r2 u2 h7
  go_wp2_with fail
  (with_reducible refine H7.out.mono ?_)
  rintro e w3 ⟨t3, ⟨A3, C3, rfl, r3, u3⟩, -, -⟩
  have HR3 := Lib.hid (And.intro r3 u3)
  have HV3 := Lib.hid (And.intro (HV.out.1.upd0 (HR2.out.2.trans u3)) (HV.out.2.trans (HR2.out.2.trans u3)))
  have hc1 := sameVC (.slice A2 2 C2) _ [1, 2] [1, 2] (w3.alloc (.cells #[.int .u32 1, .int .u32 2] 37)) ((See.of_row (own_upd HR2.out.1 u3 (by simp))).upd0 ((Upd.refl [] w3).alloc _)) (sees_lit w3 #[.int .u32 1, .int .u32 2] 37 1 2 rfl (by decide)) (by decide) (by decide)
  have HC1 := Lib.hid hc1
  clear r3 u3 hc1
  go_wp2_with fail
  (with_reducible refine HC1.out.mono ?_)
  rintro e w4 ⟨rfl, u4⟩
  have hu4 : Upd [] w3 w4 := ((Upd.refl [] w3).alloc _).trans u4
  have hc2 := sameVC (.slice A3 1 C3) _ [2] [2] (w4.alloc (.cells #[.int .u32 2] 37)) ((See.of_row (own_upd HR3.out.1 hu4 (by simp))).upd0 ((Upd.refl [] w4).alloc _)) (sees_lit w4 #[.int .u32 2] 37 1 1 rfl (by decide)) (by decide) (by decide)
  have HC2 := Lib.hid hc2
  have HV4 := Lib.hid (And.intro (HV3.out.1.upd0 hu4) (HV3.out.2.trans hu4))
  clear u4 hu4 hc2
  go_wp2_with fail
  (with_reducible refine HC2.out.mono ?_)
  rintro e w5 ⟨rfl, u5⟩
  have hu5 : Upd [] w4 w5 := ((Upd.refl [] w4).alloc _).trans u5
  have ha5 : Upd [] w5 (w5.alloc (.cells #[.int .u32 2, .int .u32 3] 37)) := (Upd.refl [] w5).alloc _
  have hv5 := (HV4.out.1.upd0 hu5).upd0 ha5
  have hm := meetsV hv5 5 6 _ [2, 3] (sees_lit w5 #[.int .u32 2, .int .u32 3] 37 1 2 rfl (by decide)) (by decide) (by decide)
  rw [meetL_lit (by decide) (by decide) (by decide)] at hm
  have HM := Lib.hid hm
  have HV5 := Lib.hid (And.intro hv5 ((HV4.out.2.trans hu5).trans ha5))
  clear u5 hu5 ha5 hv5 hm
  go_wp2_with fail
  (with_reducible refine HM.out.mono ?_)
  rintro e w6 ⟨rfl, u6⟩
  have hv6 := HV5.out.1.upd0 u6
  have hm := meetsV hv6 10 12 (.slice none 0 0) [] ⟨rfl, .inl ⟨rfl, rfl⟩⟩ (by decide) (by decide)
  rw [meetL_lit (by decide) (by decide) (by decide)] at hm
  have HM := Lib.hid hm
  have HV6 := Lib.hid (And.intro hv6 (HV5.out.2.trans u6))
  clear u6 hv6 hm
  go_wp2_with fail
  (with_reducible refine HM.out.mono ?_)
  rintro e w7 ⟨rfl, u7⟩
  have hv7 := HV6.out.1.upd0 u7
  have hm := meetsV hv7 6 5 (.slice none 0 0) [] ⟨rfl, .inl ⟨rfl, rfl⟩⟩ (by decide) (by decide)
  rw [show decide (meetL spans3 6 5 = []) = true from by unfold meetL; rw [if_pos (by decide)]; rfl] at hm
  have HM := Lib.hid hm
  have HV7 := Lib.hid (And.intro hv7 (HV6.out.2.trans u7))
  clear u7 hv7 hm
  go_wp2_with fail
  (with_reducible refine HM.out.mono ?_)
  rintro e w8 ⟨rfl, u8⟩
  have ha8 : Upd [] w8 (w8.alloc (.cells #[.int .u32 1] 37)) := (Upd.refl [] w8).alloc _
  have hv8 := (HV7.out.1.upd0 u8).upd0 ha8
  have hm := meetsV hv8 (-3) 0 _ [1] (sees_lit w8 #[.int .u32 1] 37 1 1 rfl (by decide)) (by decide) (by decide)
  rw [meetL_lit (by decide) (by decide) (by decide)] at hm
  have HM := Lib.hid hm
  have HV8 := Lib.hid (And.intro hv8 ((HV7.out.2.trans u8).trans ha8))
  clear u8 ha8 hv8 hm
  go_wp2_with fail
  (with_reducible refine HM.out.mono ?_)
  rintro e w9 ⟨rfl, u9⟩
  have HV9 := Lib.hid (HV8.out.2.trans u9)
  clear u9
  go_wp2_with fail
  go_ret
  exact ⟨rfl, HV9.out⟩
end Go.Proofs.YtjpjlfcjkgmhdaaGreat
