/- gridironlaw08.SegTells: the walk. -/
import Derived.Test.YtclbdegkfjedjaaGreatRefZ
namespace Go.Proofs.YtclbdegkfjedjaaGreat
open Go.RowKit
attribute [local go_sem ↓] Go.wp_at_zero Go.wp_at_succ

set_option maxRecDepth 100000 in
set_option maxHeartbeats 4000000 in
theorem askedC {w : World} {b : Nat} {F : List Nat} {E : List Int} {S : List Sp} (h : IsSeg w b F E S) (v v2 : Value) (lx : List Int) (hs : See KSp w v S) (hx : See KL w v2 lx) (hl : lx.length < 1000000) :
    Calls Tryz.prog 17 #[.pointer (some ⟨b, 0, none⟩), v, v2] w fun e w' => e = .returned (.bool true) ∧ Upd [] w w' := by
  obtain ⟨A, C, rfl⟩ := hs.form
  obtain ⟨A2, C2, rfl⟩ := hx.form
  obtain ⟨n, hn⟩ : ∃ n, S.length = n := ⟨_, rfl⟩
  obtain ⟨M, hM⟩ : ∃ n, lx.length = n := ⟨_, rfl⟩
  have hmany := h.many
  rw [hn] at hmany
  have hlen := isLen h
  rw [hn] at hlen
  have hx' : See KL w (.slice A2 M C2) lx := by rw [← hM]; exact hx
  have hs' : ∀ w', Upd [] w w' → See KSp w' (.slice A n C) S := fun w' hu => by have := hs.upd0 hu; rw [hn] at this; exact this
  rw [hn, hM]
  rw [hM] at hl
  have H := Lib.hid h
  have HS := Lib.hid hs'
  have HX := Lib.hid hx'
  have HL := Lib.hid hlen
  have HN := Lib.hid (And.intro hn hM)
  have m0 : (0 : Int) ≤ (M : Int) := Int.natCast_nonneg _
  have hnn : ((n : Int) != (n : Int)) = false := by simp
  clear h hs hx hx' hs' hlen hn hM
  go_enter Tryz.func17, Tryz.ntmps17
  go_wp2_with fail
  (with_reducible refine HL.out.mono ?_)
  rintro e w1 ⟨rfl, rfl⟩
  go_wp2_with fail
  go_loopg [17] M (fun m s17 wr => ∃ k : Nat, m + k = M ∧ s17 = .int .i64 (k : Int) ∧ Upd [] w wr)
  case atStart => exact ⟨0, rfl, rfl, Upd.refl _ _⟩
  case round =>
    obtain ⟨k, hk, rfl, hup⟩ := hrel
    have k0 : (0 : Int) ≤ (k : Int) := Int.natCast_nonneg _
    have hkM : k ≤ M := by omega
    have HK := Lib.hid (And.intro hk hup)
    by_cases hlt : k < M
    · obtain ⟨x, hx⟩ : ∃ x, lx[k]? = some x := ⟨_, List.getElem?_eq_getElem (by rw [HN.out.2]; exact hlt)⟩
      obtain ⟨g, o, rfl, -, -, ex⟩ := KL.at (HX.out.upd0 hup) hx
      have hst := refStab _ S x wr (HS.out wr hup) (by rw [HN.out.1]; omega)
      have hsl := stabL_len S x
      rw [HN.out.1] at hsl
      obtain ⟨L, hL⟩ : ∃ L, stabL S x = L := ⟨_, rfl⟩
      rw [hL] at hst hsl
      have hsb : ∀ w' (_ : Upd [] wr w') (v : Value) (_ : See KU w' v L), Calls Tryz.prog 21 #[.pointer (some ⟨b, 0, none⟩), .int .i64 x, v] w' fun e w'' => e = .returned (.bool true) ∧ Upd [] w' w'' := fun w' hu v hv => by
        have h1 := stabsC ((H.out.upd0 hup).upd0 hu) x v L hv (by omega)
        rw [hL, decide_eq_true rfl] at h1
        exact h1
      have HST := Lib.hid hst
      have HSB := Lib.hid hsb
      have b1 : (k : Int) < (M : Int) := by omega
      clear hx hst hsl hL hsb hk hup
      go_wp2_with fail
      (with_reducible refine HST.out.mono ?_)
      rintro e w3 ⟨A3, C3, rfl, r1, r2⟩
      have HC := Lib.hid (HSB.out w3 r2 _ (See.of_row r1))
      have HR := Lib.hid r2
      clear r1 r2
      go_wp2_with fail
      (with_reducible refine HC.out.mono ?_)
      rintro e w4 ⟨rfl, u4⟩
      have HU4 := Lib.hid (HR.out.trans u4)
      clear u4
      go_wp2_with fail
      go_roundg (M - (k + 1))
      case measure => have := HK.out.1; omega
      case rel => exact ⟨k + 1, by have := HK.out.1; omega, by go_num, HK.out.2.trans HU4.out⟩
    · clear hk hup
      go_wp2_with fail
      go_ret
      exact ⟨rfl, HK.out.2⟩

set_option maxRecDepth 100000 in
set_option maxHeartbeats 8000000 in
theorem segTells_walk (v v2 v3 : Value) (l : List Sp) (lx : List Int) (ld : List Sp) (w : World) (h : IsSps w v l) (hid : ∀ s ∈ l, s.in64) (hl : l.length ≤ maxLen) (h2 : See KL w v2 lx) (hl2 : lx.length ≤ maxLen) (h3 : IsSps w v3 ld) (hl3 : ld.length ≤ maxLen) :
    Calls Tryz.prog 7 #[v, v2, v3] w fun e w' => e = .returned (.bool true) ∧ Upd [] w w' := by
  obtain ⟨A, C, rfl⟩ := h.form
  obtain ⟨A2, C2, rfl⟩ := h2.form
  obtain ⟨Ad, Cd, rfl⟩ := h3.form
  obtain ⟨i1, hi1, hy0, hy1, hy2⟩ := info_parts infoSpanS
  obtain ⟨i0, hi0, hz0, hz1, hz2⟩ := info_parts infoLongS
  obtain ⟨N, hN⟩ : ∃ N, l.length = N := ⟨_, rfl⟩
  obtain ⟨M, hM⟩ : ∃ N, lx.length = N := ⟨_, rfl⟩
  obtain ⟨D, hD⟩ : ∃ N, ld.length = N := ⟨_, rfl⟩
  rw [hN] at h hl ⊢
  rw [hM] at h2 hl2 ⊢
  rw [hD] at h3 hl3 ⊢
  unfold maxLen at hl hl2 hl3
  have n0 : (0 : Int) ≤ (N : Int) := Int.natCast_nonneg _
  have m0 : (0 : Int) ≤ (M : Int) := Int.natCast_nonneg _
  have d0 : (0 : Int) ≤ (D : Int) := Int.natCast_nonneg _
  have hid2 : ∀ s ∈ l, s.id < 4294967296 := fun s hs => (hid s hs).2.2
  by_cases hbig : 60 < N
  · have hb : decide ((60 : Int) < (N : Int)) = true := decide_eq_true (by omega)
    have HAW := Lib.hid (awake08 w)
    clear h h2 h3 hid hid2 hbig
    go_enter Tryz.func7, Tryz.ntmps7
    go_wp2_with fail
    (with_reducible refine HAW.out.mono ?_)
    rintro e w1 ⟨rfl, u1⟩
    go_wp2_with fail
    go_ret
    exact ⟨rfl, u1⟩
  · have hb : decide ((60 : Int) < (N : Int)) = false := decide_eq_false (by omega)
    have hN60 : N ≤ 60 := by omega
    obtain ⟨Q, hQ⟩ : ∃ Q : Nat, min M 20 = Q := ⟨_, rfl⟩
    have hQm : Value.int .i64 (min (M : Int) 20) = Value.int .i64 (Q : Int) := by
      have : min (M : Int) 20 = (Q : Int) := by omega
      rw [this]
    have hQb : Q ≤ M ∧ Q ≤ 20 := by omega
    obtain ⟨P, hP⟩ : ∃ P : Nat, min D 20 = P := ⟨_, rfl⟩
    have hPm : Value.int .i64 (min (D : Int) 20) = Value.int .i64 (P : Int) := by
      have : min (D : Int) 20 = (P : Int) := by omega
      rw [this]
    have hPb : P ≤ D ∧ P ≤ 20 := by omega
    obtain ⟨A4, C4, cut4, cs4, -⟩ := cut_to (P := Tryz.prog) (t := 23) Tryz.underlying23 hi0 hz1 (show Sees w 1 (.slice A2 M C2) M (KL.all lx) by have h4 := h2; unfold See at h4; rw [hM] at h4; exact h4) Q hQb.1
    obtain ⟨A5, C5, cut5, cs5, -⟩ := cut_to (P := Tryz.prog) (t := 22) Tryz.underlying22 hi1 hy1 (show Sees w 3 (.slice Ad D Cd) D (KSp.all ld) by have h4 := h3; unfold IsSps See at h4; rw [hD] at h4; exact h4) P hPb.1
    have hseeX : ∀ w', Upd [] w w' → See KL w' (.slice A4 Q C4) (lx.take Q) := fun w' hu => by
      have h4 := cs4 w' (by have h4 := h2.upd0 hu; unfold See at h4; rw [hM] at h4; exact h4)
      unfold See
      rw [KL.all_take, List.length_take, hM, Nat.min_eq_left hQb.1]
      exact h4
    have hQl : (lx.take Q).length = Q := by rw [List.length_take, hM, Nat.min_eq_left hQb.1]
    have hseeD : ∀ w', Upd [] w w' → See KSp w' (.slice A5 P C5) (ld.take P) := fun w' hu => by
      have h4 := cs5 w' (by have h4 := h3.upd0 hu; unfold See at h4; rw [hD] at h4; exact h4)
      unfold See
      rw [KSp.all_take, List.length_take, hD, Nat.min_eq_left hPb.1]
      exact h4
    have hPl : (ld.take P).length = P := by rw [List.length_take, hD, Nat.min_eq_left hPb.1]
    have hbd := fun w' (hu : Upd [] w w') => segBuild (.slice A N C) l w' (by have h4 := h.upd0 hu; exact h4) hid2 (by omega)
    have hrg := fun w' (hu : Upd [] w w') => refRight (.slice A N C) l w' (by have h4 := h.upd0 hu; exact h4) (by omega)
    have HB := Lib.hid hbd
    have HRG := Lib.hid hrg
    have H := Lib.hid h
    have HSX := Lib.hid (And.intro hseeX hQl)
    have HSD := Lib.hid (And.intro hseeD hPl)
    have HN := Lib.hid hN
    have HAW := Lib.hid (fun w' => awake08 w')
    have hQ20 := hQb.2
    have hP20 := hPb.2
    clear h h2 h3 hid hid2 hbig hN hM hD hbd hrg hseeX hseeD hQl hPl cs4 cs5 hQ hP hQb hPb
    go_enter Tryz.func7, Tryz.ntmps7
    go_upto_region 3 with fail
    go_quiet (fail)
    have HB1 := Lib.hid (HB.out _ ((Upd.refl [] w).drewN nq))
    have HD0 := Lib.hid ((Upd.refl [] w).drewN nq)
    generalize w.drewN nq = w0 at HB1 HD0 ⊢
    go_wp2_with fail
    (with_reducible refine HB1.out.mono ?_)
    rintro e w1 ⟨u1, hq⟩
    have hu1 := HD0.out.trans u1
    have HRG1 := Lib.hid (HRG.out w1 hu1)
    rcases hq with ⟨hr, rfl⟩ | ⟨hr, b, F, rfl, hs, hF⟩
    · rw [hr] at HRG1
      have HU1 := Lib.hid hu1
      clear hr u1 hu1
      go_wp2_with fail
      (with_reducible refine HRG1.out.mono ?_)
      rintro e w2 ⟨rfl, u2⟩
      have HL2 := Lib.hid (segLenNil w2)
      have HW2 := Lib.hid (segWeightNil w2)
      have HAW2 := Lib.hid (HAW.out w2)
      have HU2 := Lib.hid (HU1.out.trans u2)
      clear u2
      go_wp2_with fail
      (with_reducible refine HL2.out.mono ?_)
      rintro e w3 ⟨rfl, rfl⟩
      go_wp2_with fail
      (with_reducible refine HW2.out.mono ?_)
      rintro e w3 ⟨rfl, rfl⟩
      go_wp2_with fail
      (with_reducible refine HAW2.out.mono ?_)
      rintro e w4 ⟨rfl, u4⟩
      have HU4 := Lib.hid (HU2.out.trans u4)
      clear u4
      go_wp2_with fail
      go_ret
      exact ⟨rfl, HU4.out⟩
    · rw [hr] at HRG1
      have HU1 := Lib.hid hu1
      have hFw : ∀ y ∈ F, w.heap.size ≤ y := fun y hy => by have h1 := hF y hy; have h2 := HD0.out.size; omega
      have HS := Lib.hid (And.intro hs hFw)
      clear hr u1 hu1 hs hF hFw
      go_wp2_with fail
      (with_reducible refine HRG1.out.mono ?_)
      rintro e w2 ⟨rfl, u2⟩
      have hu2 := HU1.out.trans u2
      have HAS := Lib.hid (askedC (HS.out.1.upd0 u2) (.slice A N C) (.slice A4 Q C4) _ (by have h4 := H.out.upd0 hu2; exact h4) (HSX.out.1 w2 hu2) (by rw [HSX.out.2]; omega))
      have HU2 := Lib.hid (And.intro u2 hu2)
      clear u2 hu2
      go_wp2_with fail
      (with_reducible refine HAS.out.mono ?_)
      rintro e w3 ⟨rfl, u3⟩
      have hu3 := HU2.out.2.trans u3
      have HS3 := Lib.hid ((HS.out.1.upd0 HU2.out.1).upd0 u3)
      have HL3 := Lib.hid (show Sees (w3.alloc (.cells #[] 32)) 3 (.slice A N C) N (KSp.all l) by have h4 := H.out.upd0 (hu3.alloc (.cells #[] 32)); unfold IsSps See at h4; rw [HN.out] at h4; exact h4)
      have HU3 := Lib.hid hu3
      clear u3 hu3
      go_wp2_with (at_builtin; refine wpList_app _ rfl _ _ 22 rfl w3.heap.size 32 i1 (.agg #[.int .i64 0, .int .i64 0, .int .u32 0]) 3 24 Tryz.underlying22 hi1 hy0 hy1 hy2 rfl (by decide) _ 0 [] rfl (World.ownsRow_made w3 #[] 0 (Nat.le_refl _) (by decide) rfl) _ N (KSp.all l) rfl HL3.out (KSp.all_one _) (by unfold maxLen; omega) (by omega) (by simp) ?_)
      intro A6 C6 W6 HP6
      have hr6 : KSp.row W6 w3.heap.size (.slice A6 N C6) l := by
        have := HP6.own
        rw [Nat.zero_add, List.nil_append] at this
        unfold Kind.row
        rw [HN.out]
        exact this
      have hu6 : Upd [] w3 W6 := ((Upd.refl [] w3).alloc _).trans' HP6.upd (fun y hy => .inr (by simp [blk] at hy; omega))
      have H6 := Lib.hid (And.intro hr6 hu6)
      clear HP6 hr6 hu6
      try rw [Nat.zero_add]
      have HFl := Lib.hid (show ∀ y ∈ F, y < w3.heap.size from HS3.out.flt)
      go_wp2_with fail
      go_loopg [9, 63] P (fun m s9 s63 wr => ∃ (k : Nat) (S : List Sp) (A7 : Option Addr) (C7 : Nat), m + k = P ∧ s9 = .slice A7 S.length C7 ∧ s63 = .int .i64 (k : Int) ∧ KSp.row wr w3.heap.size (.slice A7 S.length C7) S ∧ IsSeg wr b F (endsS l) S ∧ Upd [] w wr ∧ S.length ≤ N ∧ w3.heap.size ≤ wr.heap.size)
      case atStart => exact ⟨0, l, A6, C6, rfl, by rw [HN.out], rfl, by rw [HN.out]; exact H6.out.1, HS3.out.upd0 H6.out.2, HU3.out.trans H6.out.2, by rw [HN.out]; exact Nat.le_refl _, H6.out.2.size⟩
      case round =>
        obtain ⟨k, S, A7, C7, hk, rfl, rfl, hrow, hsg, hup, hSN, hwz⟩ := hrel
        have k0 : (0 : Int) ≤ (k : Int) := Int.natCast_nonneg _
        have hkP : k ≤ P := by omega
        have HK := Lib.hid (And.intro hk (And.intro hrow (And.intro hsg hup)))
        by_cases hlt : k < P
        · obtain ⟨d, hd⟩ : ∃ d, (ld.take P)[k]? = some d := ⟨_, List.getElem?_eq_getElem (by rw [HSD.out.2]; exact hlt)⟩
          obtain ⟨g, o, rfl, -, -, ey⟩ := (HSD.out.1 wr hup).at hd
          have y0 : wr.cell? ⟨g, o + k * 3, none⟩ = some (.int .i64 d.lo) := ey 0 _ rfl
          have y1 : wr.cell? ⟨g, o + k * 3 + 1, none⟩ = some (.int .i64 d.hi) := ey 1 _ rfl
          have y2 : wr.cell? ⟨g, o + k * 3 + 2, none⟩ = some (.int .u32 (d.id : Int)) := ey 2 _ rfl
          have b1 : (k : Int) < (P : Int) := by omega
          obtain ⟨n, hn⟩ : ∃ n, S.length = n := ⟨_, rfl⟩
          have HNS := Lib.hid hn
          rw [hn] at hSN ⊢
          clear hd ey hk hrow hsg hup hn
          obtain ⟨wl, hwl⟩ : ∃ wl : World, wl = wr := ⟨_, rfl⟩
          subst hwl
          go_upto_region 13 with fail
          have hu2 : Upd [] wl (wl.alloc (.cells #[.int .i64 d.lo, .int .i64 d.hi, .int .u32 (d.id : Int)] 32)) := (Upd.refl _ _).alloc _
          have d0' : (wl.alloc (.cells #[.int .i64 d.lo, .int .i64 d.hi, .int .u32 (d.id : Int)] 32)).cell? ⟨wl.heap.size, 0, none⟩ = some (.int .i64 d.lo) := by rw [World.cell?_alloc_at _ _ _ _ rfl]; rfl
          have d1' : (wl.alloc (.cells #[.int .i64 d.lo, .int .i64 d.hi, .int .u32 (d.id : Int)] 32)).cell? ⟨wl.heap.size, 1, none⟩ = some (.int .i64 d.hi) := by rw [World.cell?_alloc_at _ _ _ _ rfl]; rfl
          have d2' : (wl.alloc (.cells #[.int .i64 d.lo, .int .i64 d.hi, .int .u32 (d.id : Int)] 32)).cell? ⟨wl.heap.size, 2, none⟩ = some (.int .u32 (d.id : Int)) := by rw [World.cell?_alloc_at _ _ _ _ rfl]; rfl
          have hz2 : wl.heap.size < (wl.alloc (.cells #[.int .i64 d.lo, .int .i64 d.hi, .int .u32 (d.id : Int)] 32)).heap.size := by simp
          generalize (wl.alloc (.cells #[.int .i64 d.lo, .int .i64 d.hi, .int .u32 (d.id : Int)] 32)) = W2 at hu2 d0' d1' d2' hz2 ⊢
          have hdr := refDrop (.slice A7 n C7) S d W2 ((by have h4 := (See.of_row HK.out.2.1).upd0 hu2; rw [HNS.out] at h4; exact h4)) (by rw [HNS.out]; omega)
          unfold spV at hdr
          have HDR := Lib.hid hdr
          have HU2 := Lib.hid hu2
          clear hu2 hdr y0 y1 y2
          go_wp2_with fail
          (with_reducible refine HDR.out.mono ?_)
          rintro e w4 ⟨A8, C8, rfl, r1, r2⟩
          have e0 := (r2.cell (p := ⟨wl.heap.size, 0, none⟩) hz2 (by simp)).trans d0'
          have e1 := (r2.cell (p := ⟨wl.heap.size, 1, none⟩) hz2 (by simp)).trans d1'
          have e2 := (r2.cell (p := ⟨wl.heap.size, 2, none⟩) hz2 (by simp)).trans d2'
          have hid := isDrop ((HK.out.2.2.1.upd0 HU2.out).upd0 r2) d
          unfold IsDrop spV at hid
          obtain ⟨c, hc⟩ : ∃ c, decide (d ∈ S) = c := ⟨_, rfl⟩
          rw [hc] at hid ⊢
          have hcc : (c != c) = false := by simp
          have hwl2 : (without S d).length ≤ n := by rw [← HNS.out]; exact List.length_filter_le _ _
          have HID := Lib.hid hid
          have HR := Lib.hid (And.intro r1 r2)
          obtain ⟨S2, hS2⟩ : ∃ S2, without S d = S2 := ⟨_, rfl⟩
          rw [hS2] at HID HR hwl2 ⊢
          clear hid r1 r2 d0' d1' d2' hc
          go_wp2_with fail
          (with_reducible refine HID.out.mono ?_)
          rintro e w5 ⟨rfl, t5, u5⟩
          have hrow5 : KSp.row w5 W2.heap.size (.slice A8 S2.length C8) S2 := own_upd HR.out.1 u5 (fun y hy hc => by have h1 := own_ge HR.out.1 y hy; have h2 := HFl.out y hc; omega)
          have hup5 : Upd [] w w5 := ((HK.out.2.2.2.trans HU2.out).trans HR.out.2).trans' u5 (fun y hy => .inr (HS.out.2 y hy))
          have HAS5 := Lib.hid (askedC t5 (.slice A8 S2.length C8) (.slice A4 Q C4) _ (See.of_row hrow5) (HSX.out.1 w5 hup5) (by rw [HSX.out.2]; omega))
          have H5 := Lib.hid (And.intro t5 (And.intro hrow5 (And.intro hup5 (Nat.le_trans hwz (Nat.le_trans HU2.out.size (Nat.le_trans HR.out.2.size u5.size))))))
          clear t5 u5 hrow5 hup5 e0 e1 e2
          go_wp2_with fail
          (with_reducible refine HAS5.out.mono ?_)
          rintro e w6 ⟨rfl, u6⟩
          have HU6 := Lib.hid u6
          clear u6
          go_wp2_with fail
          go_roundg (P - (k + 1))
          case measure => have := HK.out.1; omega
          case rel => exact ⟨k + 1, S2, A8, C8, by have := HK.out.1; omega, rfl, by go_num, own_base (own_upd H5.out.2.1 HU6.out (by simp)) (Nat.le_trans hwz HU2.out.size), H5.out.1.upd0 HU6.out, H5.out.2.2.1.trans HU6.out, by omega, Nat.le_trans H5.out.2.2.2 HU6.out.size⟩
        · have HAW2 := Lib.hid (HAW.out wr)
          clear hk hrow hsg hup
          go_wp2_with fail
          (with_reducible refine HAW2.out.mono ?_)
          rintro e w5 ⟨rfl, u5⟩
          have HU5 := Lib.hid (HK.out.2.2.2.trans u5)
          clear u5
          go_wp2_with fail
          go_ret
          exact ⟨rfl, HU5.out⟩
end Go.Proofs.YtclbdegkfjedjaaGreat
