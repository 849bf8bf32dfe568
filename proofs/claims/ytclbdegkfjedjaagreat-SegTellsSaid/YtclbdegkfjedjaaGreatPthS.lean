/- frame.Path: from the root to a leaf. -/
import Derived.Test.YtclbdegkfjedjaaGreatCanS
namespace Go.Proofs.YtclbdegkfjedjaaGreat
open Go.RowKit
attribute [local go_sem ↓] Go.wp_at_zero Go.wp_at_succ

theorem pathL_bound : ∀ (d s f t o : Nat), t - f ≤ d → f < t → (pathL s f t o).length ≤ 2 * (t - f) - 1
  | 0, _, _, _, _, hd, hft => by omega
  | d + 1, s, f, t, o, hd, hft => by
    by_cases h2 : f + 1 < t
    · have hm := mid_in h2
      by_cases hs : s < mid f t
      · rw [pathL_left h2 hs, List.length_cons]
        have := pathL_bound d s f (mid f t) o (by omega) hm.1
        omega
      · rw [pathL_right h2 hs, List.length_cons]
        have := pathL_bound d s (mid f t) t (o + 2 * (mid f t - f) - 1) (by omega) hm.2
        omega
    · rw [pathL_leaf h2, List.length_singleton]; omega

set_option maxRecDepth 100000 in
set_option maxHeartbeats 4000000 in
theorem pathC (b_ : Nat) (vn : Value) (n s : Nat) (w : World) (hn : n < 400000) (hsn : s < n) (h : FrmD w b_ vn n) :
    Calls Tryz.prog 41 #[.pointer (some ⟨b_, 0, none⟩), .int .i64 (s : Int)] w fun e w' =>
      ∃ (A : Option Addr) (C : Nat), e = .returned (.tuple #[.slice A (pathL s 0 n 0).length C, .int .i64 0]) ∧ KN.row w' w.heap.size (.slice A (pathL s 0 n 0).length C) (pathL s 0 n 0) ∧ Upd [] w w' := by
  obtain ⟨i0, hi, hz0, hz1, hz2⟩ := info_parts infoIntS
  have hbw := lt_of_block h.head
  have c4 : w.cell? ⟨b_, 4, none⟩ = some (.int .i64 (n : Int)) := (six_cells h.head).1.2.2.2.2.1
  have s0 : (0 : Int) ≤ (s : Int) := Int.natCast_nonneg _
  have hd1 : decide ((s : Int) < 0) = false := decide_eq_false (by omega)
  have hd2 : decide ((n : Int) ≤ (s : Int)) = false := decide_eq_false (by omega)
  have HN := Lib.hid (frameNoneD b_ n vn w h)
  have HA := Lib.hid (frameAllE b_ n vn w h)
  have H0 := Lib.hid h
  obtain ⟨An, Cn, rfl⟩ := own_form h.row
  clear h
  go_enter Tryz.func41, Tryz.ntmps41
  go_wp2_with fail
  (with_reducible refine HN.out.mono ?_)
  rintro e w' ⟨rfl, rfl⟩
  go_wp2_with fail
  (with_reducible refine HA.out.mono ?_)
  rintro e w1 ⟨rfl, hu1⟩
  have hr := frameRootD b_ n _ w1 (by omega) (by omega) (H0.out.upd hu1 (by simp) (by simp))
  have HR := Lib.hid hr
  have HU1 := Lib.hid hu1
  clear hr hu1 hd1 hd2 c4
  go_wp2_with fail
  (with_reducible refine HR.out.mono ?_)
  rintro e w' ⟨rfl, rfl⟩
  go_wp2_with fail
  have hst : KN.row (w1.alloc (.cells #[.int .i64 ((2 * n - 2 : Nat) : Int)] 3)) w.heap.size (.slice (some ⟨w1.heap.size, 0, none⟩) 1 1) [2 * n - 2] := by
    have := World.ownsRow_lit (base := w.heap.size) (e := 3) (size := 1) w1 #[.int .i64 ((2 * n - 2 : Nat) : Int)] 1 HU1.out.size (by decide) rfl
    simpa [Kind.row, KN, Kind.all] using this
  have HST := Lib.hid (And.intro hst (HU1.out.alloc (.cells #[.int .i64 ((2 * n - 2 : Nat) : Int)] 3)))
  clear hst
  go_loopg [7, 8] n (fun m s7 s8 wr => ∃ (vu : Value) (f t o : Nat) (V : List Nat) (p : Nat) (U : List Nat), t - f = m ∧ s7 = .int .i64 (p : Int) ∧ topP (f, t, o) = p ∧ s8 = vu ∧ U = V ++ [p] ∧ SubN n f t o ∧ (f ≤ s ∧ s < t) ∧ V ++ pathL s f t o = pathL s 0 n 0 ∧ Upd [] w wr ∧ KN.row wr w.heap.size vu U)
  case atStart => exact ⟨_, 0, n, 0, [], 2 * n - 2, [2 * n - 2], by omega, rfl, by simp [topP], rfl, rfl, sub_all (by omega), ⟨Nat.zero_le _, hsn⟩, rfl, HST.out.2, HST.out.1⟩
  case round =>
    obtain ⟨vu, f, t, o, V, p, U, hm, rfl, hp, rfl, hUV, hsub, hfs, hall, hup, hru⟩ := hrel
    obtain ⟨gu, Cu, rfl⟩ := own_form hru
    have hpe : o + 2 * (t - f) - 2 = p := hp
    have hpl := sub_lt hsub
    rw [hpe] at hpl
    have hUl : U.length < 1000000 := by
      have h1 := congrArg List.length hall
      have h2 := pathL_bound n s 0 n 0 (by omega) (by omega)
      have h3 : 0 < (pathL s f t o).length := by
        rw [pathL]
        simp
      rw [List.length_append] at h1
      rw [hUV, List.length_append, List.length_singleton]
      omega
    have hNL := nodesN_len n
    have p0 : (0 : Int) ≤ (p : Int) := Int.natCast_nonneg _
    have p1 : (p : Int) < ((nodesN n).length : Int) := by omega
    have hN1 := own_upd H0.out.row hup (by simp)
    have hwz : w.heap.size ≤ wr.heap.size := hup.size
    have HS := Lib.hid (And.intro hm (And.intro hfs (And.intro hall (And.intro hup hru))))
    have HUV := Lib.hid hUV
    clear hm hall hup hru hUV hp
    by_cases hf1 : f + 1 < t
    · have hmi := mid_in hf1
      obtain ⟨ks1, ks2, ks3⟩ := sub_kids hsub hf1
      rw [hpe] at ks3
      obtain ⟨L, hL⟩ : ∃ L, o + 2 * (mid f t - f) - 2 = L := ⟨_, rfl⟩
      obtain ⟨R, hR⟩ : ∃ R, o + 2 * (mid f t - f) - 1 + 2 * (t - mid f t) - 2 = R := ⟨_, rfl⟩
      obtain ⟨yk, yl, yr, yi, hnl⟩ := sub_root ks1
      have hLl := sub_lt ks1
      rw [hL] at hnl hLl
      rw [hL, hR] at ks3
      obtain ⟨gn, Cn', hgn, en1, -⟩ := row_at (K := KD) hN1 ks3
      injection hgn with hgn1 _ hgn3
      subst hgn1 hgn3
      obtain ⟨gn2, Cn2, hgn2, en2, -⟩ := row_at (K := KD) hN1 hnl
      injection hgn2 with hgn21 _ hgn22
      injection hgn21 with hgn21
      injection hgn21 with hgn21
      subst hgn21 hgn22
      have n0 : wr.cell? ⟨gn, p * 7, none⟩ = some (.int .u8 2) := en1 0 _ rfl
      have n1 : wr.cell? ⟨gn, p * 7 + 1, none⟩ = some (.int .i64 (L : Int)) := en1 1 _ rfl
      have n2 : wr.cell? ⟨gn, p * 7 + 2, none⟩ = some (.int .i64 (R : Int)) := en1 2 _ rfl
      have c4 : wr.cell? ⟨gn, L * 7 + 4, none⟩ = some (.int .i64 ((mid f t : Nat) : Int)) := en2 4 _ rfl
      have L0 : (0 : Int) ≤ (L : Int) := Int.natCast_nonneg _
      have L1 : (L : Int) < ((nodesN n).length : Int) := by omega
      have HKS := Lib.hid (And.intro ks1 (And.intro ks2 (And.intro hL (And.intro hR (And.intro hf1 hmi)))))
      have HPE := Lib.hid hpe
      clear hN1 en1 en2 hnl ks1 ks2 ks3 hL hR hpe hNL hpl hLl hsub
      obtain ⟨wl, hwl⟩ : ∃ wl : World, wl = wr := ⟨_, rfl⟩
      subst hwl
      by_cases hsm : s < mid f t
      · have hd : decide ((s : Int) < ((mid f t : Nat) : Int)) = true := decide_eq_true (by omega)
        go_wp2_with (at_builtin; refine wpList_app _ rfl _ _ 63 rfl w.heap.size 3 i0 (.int .i64 0) 1 8 Tryz.underlying63 hi hz0 hz1 hz2 rfl (by decide) _ _ _ rfl (own_upd (by have h := HS.out.2.2.2.2; unfold Kind.row at h; exact h) ((Upd.refl [] wl).alloc _) (by simp)) _ 1 [.int .i64 (L : Int)] rfl (sees_lit wl #[.int .i64 (L : Int)] 3 1 1 rfl (by decide)) (by simp [Value.oneCell']) (by have := hUl; unfold maxLen; omega) (by have := hUl; omega) (by simp; omega) ?_)
        intro A2 C2 W3 HP3
        have HP4 := Lib.hid HP3
        clear HP3 n0 n1 n2 c4
        go_wp2_with fail
        obtain ⟨hm, hfs, hall, hup, hru⟩ := HS.out
        obtain ⟨ks1, ks2, hL, hR, hf1, hmi⟩ := HKS.out
        go_roundg (mid f t - (f))
        case measure => omega
        case rel =>
          have hu3 : Upd (blk (.slice gu U.length Cu)) wl W3 := ((Upd.refl _ wl).alloc _).trans HP4.out.upd
          refine ⟨.slice A2 (U ++ [L]).length C2, f, mid f t, o, U, L, U ++ [L], rfl, rfl, hL, by rw [List.length_append]; rfl, rfl, ks1, by omega, ?_, ?_, ?_⟩
          · rw [pathL_left hf1 (by omega)] at hall
            rw [HPE.out] at hall
            rw [HUV.out, List.append_assoc]
            exact hall
          · exact hup.trans' hu3 (fun y hy => .inr (by have := own_ge hru y hy; exact this))
          · have h1 := HP4.out.own
            unfold Kind.row
            rw [KN.all_app, List.length_append]
            exact h1
      · have hd : decide ((s : Int) < ((mid f t : Nat) : Int)) = false := decide_eq_false (by omega)
        go_wp2_with (at_builtin; refine wpList_app _ rfl _ _ 63 rfl w.heap.size 3 i0 (.int .i64 0) 1 8 Tryz.underlying63 hi hz0 hz1 hz2 rfl (by decide) _ _ _ rfl (own_upd (by have h := HS.out.2.2.2.2; unfold Kind.row at h; exact h) ((Upd.refl [] wl).alloc _) (by simp)) _ 1 [.int .i64 (R : Int)] rfl (sees_lit wl #[.int .i64 (R : Int)] 3 1 1 rfl (by decide)) (by simp [Value.oneCell']) (by have := hUl; unfold maxLen; omega) (by have := hUl; omega) (by simp; omega) ?_)
        intro A2 C2 W3 HP3
        have HP4 := Lib.hid HP3
        clear HP3 n0 n1 n2 c4
        go_wp2_with fail
        obtain ⟨hm, hfs, hall, hup, hru⟩ := HS.out
        obtain ⟨ks1, ks2, hL, hR, hf1, hmi⟩ := HKS.out
        go_roundg (t - (mid f t))
        case measure => omega
        case rel =>
          have hu3 : Upd (blk (.slice gu U.length Cu)) wl W3 := ((Upd.refl _ wl).alloc _).trans HP4.out.upd
          refine ⟨.slice A2 (U ++ [R]).length C2, mid f t, t, o + 2 * (mid f t - f) - 1, U, R, U ++ [R], rfl, rfl, hR, by rw [List.length_append]; rfl, rfl, ks2, by omega, ?_, ?_, ?_⟩
          · rw [pathL_right hf1 (by omega)] at hall
            rw [HPE.out] at hall
            rw [HUV.out, List.append_assoc]
            exact hall
          · exact hup.trans' hu3 (fun y hy => .inr (by have := own_ge hru y hy; exact this))
          · have h1 := HP4.out.own
            unfold Kind.row
            rw [KN.all_app, List.length_append]
            exact h1
    · have hnd := sub_leaf hsub hf1
      rw [hpe] at hnd
      obtain ⟨gn, Cn', hgn, en1, -⟩ := row_at (K := KD) hN1 hnd
      injection hgn with hgn1 _ hgn3
      subst hgn1 hgn3
      have n0 : wr.cell? ⟨gn, p * 7, none⟩ = some (.int .u8 1) := en1 0 _ rfl
      have HE := Lib.hid (show U = pathL s 0 n 0 by
        have := HS.out.2.2.1
        rw [pathL_leaf hf1, hpe] at this
        rw [HUV.out]; exact this)
      clear hN1 en1 hnd hpe hsub
      go_wp2_with fail
      go_ret2
      refine ⟨gu, Cu, by rw [← HE.out]; rfl, ?_, HS.out.2.2.2.1⟩
      rw [← HE.out]
      exact HS.out.2.2.2.2
end Go.Proofs.YtclbdegkfjedjaaGreat
