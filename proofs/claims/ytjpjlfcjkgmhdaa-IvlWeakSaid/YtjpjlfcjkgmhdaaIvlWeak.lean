/- gridironlaw09.IvlWeak: the walk. -/
import Derived.Test.YtjpjlfcjkgmhdaaIvlW
import Derived.Test.YtjpjlfcjkgmhdaaLeftB
import Derived.Deep.Grids
namespace Go.Proofs.Ytjpjlfcjkgmhdaa
open Go.RowKit

set_option maxRecDepth 100000 in
set_option maxHeartbeats 8000000 in
theorem ivlWeak_walk (v v2 v3 : Value) (l : List Sp) (lx : List Int) (ld : List Bool) (w : World) (h : IsSps w v l) (hid : ∀ s ∈ l, s.in64) (hl : l.length ≤ maxLen) (h2 : See KL w v2 lx) (hl2 : lx.length ≤ maxLen) (h3 : See KB w v3 ld) :
    Calls Try.prog 7 #[v, v2, v3] w fun e w' => e = .returned (.bool true) ∧ Upd [] w w' := by
  obtain ⟨A, C, rfl⟩ := h.form
  obtain ⟨A2, C2, rfl⟩ := h2.form
  obtain ⟨Ad, Cd, rfl⟩ := h3.form
  obtain ⟨i1, hi1, hy0, hy1, hy2⟩ := info_parts infoSpanD
  obtain ⟨i0, hi0, hz0, hz1, hz2⟩ := info_parts info_int64
  obtain ⟨N, hN⟩ : ∃ N, l.length = N := ⟨_, rfl⟩
  obtain ⟨M, hM⟩ : ∃ N, lx.length = N := ⟨_, rfl⟩
  obtain ⟨D, hD⟩ : ∃ N, ld.length = N := ⟨_, rfl⟩
  rw [hN] at h hl ⊢
  rw [hM] at h2 hl2 ⊢
  rw [hD] at h3 ⊢
  unfold maxLen at hl hl2
  have n0 : (0 : Int) ≤ (N : Int) := Int.natCast_nonneg _
  have m0 : (0 : Int) ≤ (M : Int) := Int.natCast_nonneg _
  have d0 : (0 : Int) ≤ (D : Int) := Int.natCast_nonneg _
  have hid2 : ∀ s ∈ l, s.id < 4294967296 := fun s hs => (hid s hs).2.2
  by_cases hbig : 80 < N
  · have hb : decide ((80 : Int) < (N : Int)) = true := decide_eq_true (by omega)
    have HAW := Lib.hid (awake09 w)
    clear h h2 h3 hid hid2 hbig
    go_enter Try.func7, Try.ntmps7
    go_wp2_with fail
    (with_reducible refine HAW.out.mono ?_)
    rintro e w1 ⟨rfl, u1⟩
    go_wp2_with fail
    go_ret
    exact ⟨rfl, u1⟩
  · have hb : decide ((80 : Int) < (N : Int)) = false := decide_eq_false (by omega)
    have hN80 : N ≤ 80 := by omega
    have hbd := ivlBuild _ l w (by rw [← hN] at h; exact h) hid2 (by omega)
    rw [hN] at hbd
    have HB := Lib.hid hbd
    have H := Lib.hid h
    have H2 := Lib.hid h2
    have H3 := Lib.hid h3
    have HN := Lib.hid (And.intro hN (And.intro hM (And.intro hD hid2)))
    have HAW := Lib.hid (fun w' => awake09 w')
    clear h h2 h3 hid hid2 hbig hN hM hD hbd
    go_enter Try.func7, Try.ntmps7
    go_wp2_with fail
    (with_reducible refine HB.out.mono ?_)
    rintro e w1 ⟨u1, (⟨hr, rfl⟩ | ⟨hr, b, F, rfl, hs, hF⟩)⟩
    · have HAW1 := Lib.hid (HAW.out w1)
      have HU1 := Lib.hid u1
      clear hr u1
      go_wp2_with fail
      (with_reducible refine HAW1.out.mono ?_)
      rintro e w2 ⟨rfl, u2⟩
      have HU2 := Lib.hid (HU1.out.trans u2)
      clear u2
      go_wp2_with fail
      go_ret
      exact ⟨rfl, HU2.out⟩
    · have hnd := nodup_of_names (rightS_iff.1 hr).2
      have HS := Lib.hid (And.intro hs (And.intro hF (And.intro hr hnd)))
      have HU1 := Lib.hid u1
      clear hr u1 hs hF hnd
      go_wp2_with fail
      go_loopg [9, 38] N (fun m s9 s34 wr => ∃ (k : Nat) (vo : Value), m + k = N ∧ s9 = vo ∧ s34 = .int .i64 (k : Int) ∧ KSp.row wr w1.heap.size vo (leftB ld 0 (l.take k)).reverse ∧ IsIvl wr b F (nowB ld l k) N ∧ Upd [] w wr ∧ w1.heap.size ≤ wr.heap.size ∧ ∀ k ∈ F, k < w1.heap.size)
      case atStart => exact ⟨0, _, rfl, rfl, rfl, World.ownsRow_nil _ _ _ _, HS.out.1, HU1.out, Nat.le_refl _, HS.out.1.flt⟩
      case round =>
        obtain ⟨k, vo, hk, rfl, rfl, hrow, hsg, hup, hwz, hFl⟩ := hrel
        have k0 : (0 : Int) ≤ (k : Int) := Int.natCast_nonneg _
        have hkN : k ≤ N := by omega
        have HK := Lib.hid (And.intro hk (And.intro hrow (And.intro hsg (And.intro hup hFl))))
        clear hk hrow hsg hup hFl
        by_cases hlt : k < N
        · obtain ⟨s, hs⟩ : ∃ s, l[k]? = some s := ⟨_, List.getElem?_eq_getElem (by rw [HN.out.1]; exact hlt)⟩
          have hse : See KSp wr (.slice A l.length C) l := by
            have := H.out.upd0 HK.out.2.2.2.1
            rw [HN.out.1]; exact this
          obtain ⟨g, o, rfl, -, -, ey⟩ := hse.at hs
          have y0 : wr.cell? ⟨g, o + k * 3, none⟩ = some (.int .i64 s.lo) := ey 0 _ rfl
          have y1 : wr.cell? ⟨g, o + k * 3 + 1, none⟩ = some (.int .i64 s.hi) := ey 1 _ rfl
          have y2 : wr.cell? ⟨g, o + k * 3 + 2, none⟩ = some (.int .u32 (s.id : Int)) := ey 2 _ rfl
          have b1 : (k : Int) < (N : Int) := by omega
          have HX := Lib.hid hs
          clear hs hse ey
          obtain ⟨wl, hwl⟩ : ∃ wl : World, wl = wr := ⟨_, rfl⟩
          subst hwl
          go_upto_region 10 with fail
          have hu2 : Upd [] wl (wl.alloc (.cells #[.int .i64 s.lo, .int .i64 s.hi, .int .u32 (s.id : Int)] 42)) := (Upd.refl _ _).alloc _
          have d0 : (wl.alloc (.cells #[.int .i64 s.lo, .int .i64 s.hi, .int .u32 (s.id : Int)] 42)).cell? ⟨wl.heap.size, 0, none⟩ = some (.int .i64 s.lo) := by rw [World.cell?_alloc_at _ _ _ _ rfl]; rfl
          have d1 : (wl.alloc (.cells #[.int .i64 s.lo, .int .i64 s.hi, .int .u32 (s.id : Int)] 42)).cell? ⟨wl.heap.size, 1, none⟩ = some (.int .i64 s.hi) := by rw [World.cell?_alloc_at _ _ _ _ rfl]; rfl
          have d2 : (wl.alloc (.cells #[.int .i64 s.lo, .int .i64 s.hi, .int .u32 (s.id : Int)] 42)).cell? ⟨wl.heap.size, 2, none⟩ = some (.int .u32 (s.id : Int)) := by rw [World.cell?_alloc_at _ _ _ _ rfl]; rfl
          have hz2 : wl.heap.size < (wl.alloc (.cells #[.int .i64 s.lo, .int .i64 s.hi, .int .u32 (s.id : Int)] 42)).heap.size := by simp
          generalize (wl.alloc (.cells #[.int .i64 s.lo, .int .i64 s.hi, .int .u32 (s.id : Int)] 42)) = W2 at hu2 d0 d1 d2 hz2 ⊢
          have HU2 := Lib.hid hu2
          clear hu2 y0 y1 y2
          by_cases hkD : D ≤ k
          · have hge : decide ((D : Int) ≤ (k : Int)) = true := decide_eq_true (by omega)
            have hno : ¬ ld[k]? = some true := by
              rw [List.getElem?_eq_none (by rw [HN.out.2.2.1]; exact hkD)]
              simp
            have hst := leftB_step (ld := ld) HX.out
            rw [if_neg hno] at hst
            have hnk := nowB_keep HX.out hno
            have hrow := HK.out.2.1
            obtain ⟨r, hr⟩ : ∃ r, (leftB ld 0 (l.take k)).length = r := ⟨_, rfl⟩
            have hrb : r ≤ 80 := by
              have h1 := (leftB_sub ld (l.take k) 0).length_le
              rw [List.length_take] at h1
              omega
            have hrow2 := hrow
            unfold Kind.row at hrow2
            rw [List.length_reverse, hr] at hrow2
            have hst2 : (leftB ld 0 (l.take (k + 1))).reverse = s :: (leftB ld 0 (l.take k)).reverse := by rw [hst, List.reverse_append]; rfl
            rw [← List.length_reverse] at hr
            obtain ⟨L, hL⟩ : ∃ L, (leftB ld 0 (l.take k)).reverse = L := ⟨_, rfl⟩
            rw [hL] at hrow2 hr hst2
            have HST := Lib.hid (And.intro hst2 (And.intro hnk (And.intro hr (own_upd hrow2 HU2.out (by simp)))))
            have hw2 : w1.heap.size ≤ W2.heap.size := Nat.le_trans hwz HU2.out.size
            clear hst hst2 hnk hrow hr hrow2 hL
            go_wp2_with (at_builtin; refine wpList_app _ rfl _ _ 22 rfl W2.heap.size 42 i1 (.agg #[.int .i64 0, .int .i64 0, .int .u32 0]) 3 24 Try.underlying22 hi1 hy0 hy1 hy2 rfl (by decide) _ 1 (KSp.enc s) rfl (World.ownsRow_lit W2 #[.int .i64 s.lo, .int .i64 s.hi, .int .u32 (s.id : Int)] 1 (Nat.le_refl _) (by decide) rfl) _ r (KSp.all L) rfl (sees_upd (sees_of_own HST.out.2.2.2) ((Upd.refl [] _).alloc _) (by simp)) (KSp.all_one L) (by unfold maxLen; omega) (by omega) (by simp) ?_)
            intro A3 C3 W3 HP3
            have HP4 := Lib.hid HP3
            clear HP3 d0 d1 d2
            go_wp2_with fail
            go_roundg (N - (k + 1))
            case measure => have := HK.out.1; omega
            case rel =>
              have hu3 : Upd [] W2 W3 := ((Upd.refl [] W2).alloc (.cells #[.int .i64 s.lo, .int .i64 s.hi, .int .u32 (s.id : Int)] 42)).trans' HP4.out.upd (fun y hy => .inr (by simp [blk] at hy; omega))
              refine ⟨k + 1, .slice A3 (1 + r) C3, by have := HK.out.1; omega, rfl, by go_num, ?_, ?_, ((HK.out.2.2.2.1.trans HU2.out).trans hu3), Nat.le_trans hw2 hu3.size, HK.out.2.2.2.2⟩
              · rw [HST.out.1]
                unfold Kind.row
                have h7 := own_base HP4.out.own hw2
                rw [Nat.add_comm] at h7 ⊢
                rw [List.length_cons, HST.out.2.2.1]
                exact h7
              · rw [HST.out.2.1]
                exact (HK.out.2.2.1.upd0 HU2.out).upd0 hu3
          · have hge : decide ((D : Int) ≤ (k : Int)) = false := decide_eq_false (by omega)
            obtain ⟨y, hy⟩ : ∃ y, ld[k]? = some y := ⟨_, List.getElem?_eq_getElem (by rw [HN.out.2.2.1]; omega)⟩
            have h3w : See KB W2 (.slice Ad ld.length Cd) ld := by
              have := H3.out.upd0 HK.out.2.2.2.1
              rw [HN.out.2.2.1]; exact this.upd0 HU2.out
            obtain ⟨gd, od, rfl, -, -, ed⟩ := KB.atS h3w hy
            have bD : (k : Int) < (D : Int) := by omega
            clear h3w
            cases y with
            | false =>
              have hno : ¬ ld[k]? = some true := by rw [hy]; simp
              clear hy
              have hst := leftB_step (ld := ld) HX.out
              rw [if_neg hno] at hst
              have hnk := nowB_keep HX.out hno
              have hrow := HK.out.2.1
              obtain ⟨r, hr⟩ : ∃ r, (leftB ld 0 (l.take k)).length = r := ⟨_, rfl⟩
              have hrb : r ≤ 80 := by
                have h1 := (leftB_sub ld (l.take k) 0).length_le
                rw [List.length_take] at h1
                omega
              have hrow2 := hrow
              unfold Kind.row at hrow2
              rw [List.length_reverse, hr] at hrow2
              have hst2 : (leftB ld 0 (l.take (k + 1))).reverse = s :: (leftB ld 0 (l.take k)).reverse := by rw [hst, List.reverse_append]; rfl
              rw [← List.length_reverse] at hr
              obtain ⟨L, hL⟩ : ∃ L, (leftB ld 0 (l.take k)).reverse = L := ⟨_, rfl⟩
              rw [hL] at hrow2 hr hst2
              have HST := Lib.hid (And.intro hst2 (And.intro hnk (And.intro hr (own_upd hrow2 HU2.out (by simp)))))
              have hw2 : w1.heap.size ≤ W2.heap.size := Nat.le_trans hwz HU2.out.size
              clear hst hst2 hnk hrow hr hrow2 hL
              go_wp2_with (at_builtin; refine wpList_app _ rfl _ _ 22 rfl W2.heap.size 42 i1 (.agg #[.int .i64 0, .int .i64 0, .int .u32 0]) 3 24 Try.underlying22 hi1 hy0 hy1 hy2 rfl (by decide) _ 1 (KSp.enc s) rfl (World.ownsRow_lit W2 #[.int .i64 s.lo, .int .i64 s.hi, .int .u32 (s.id : Int)] 1 (Nat.le_refl _) (by decide) rfl) _ r (KSp.all L) rfl (sees_upd (sees_of_own HST.out.2.2.2) ((Upd.refl [] _).alloc _) (by simp)) (KSp.all_one L) (by unfold maxLen; omega) (by omega) (by simp) ?_)
              intro A3 C3 W3 HP3
              have HP4 := Lib.hid HP3
              clear HP3 d0 d1 d2
              go_wp2_with fail
              go_roundg (N - (k + 1))
              case measure => have := HK.out.1; omega
              case rel =>
                have hu3 : Upd [] W2 W3 := ((Upd.refl [] W2).alloc (.cells #[.int .i64 s.lo, .int .i64 s.hi, .int .u32 (s.id : Int)] 42)).trans' HP4.out.upd (fun y hy => .inr (by simp [blk] at hy; omega))
                refine ⟨k + 1, .slice A3 (1 + r) C3, by have := HK.out.1; omega, rfl, by go_num, ?_, ?_, ((HK.out.2.2.2.1.trans HU2.out).trans hu3), Nat.le_trans hw2 hu3.size, HK.out.2.2.2.2⟩
                · rw [HST.out.1]
                  unfold Kind.row
                  have h7 := own_base HP4.out.own hw2
                  rw [Nat.add_comm] at h7 ⊢
                  rw [List.length_cons, HST.out.2.2.1]
                  exact h7
                · rw [HST.out.2.1]
                  exact (HK.out.2.2.1.upd0 HU2.out).upd0 hu3
            | true =>
              have hd := vDrop (HK.out.2.2.1.upd0 HU2.out) s
              unfold VDrop at hd
              rw [decide_eq_true (nowB_mem HX.out)] at hd
              unfold spV at hd
              have hnd := nowB_drop HS.out.2.2.2 HX.out hy
              have hno : s ∉ without (nowB ld l k) s := fun hc => by
                have := (List.mem_filter.1 hc).2
                simp at this
              have hst := leftB_step (ld := ld) HX.out
              rw [if_pos hy, List.append_nil] at hst
              have HD := Lib.hid hd
              have HND := Lib.hid (And.intro hnd (And.intro hno hst))
              have hqF : wl.heap.size ∉ F := fun hc => by have := HK.out.2.2.2.2 _ hc; omega
              clear hd hnd hno hst hy
              go_wp2_with fail
              (with_reducible refine HD.out.mono ?_)
              rintro e w5 ⟨rfl, t5, u5⟩
              have e0 := (u5.cell (p := ⟨wl.heap.size, 0, none⟩) hz2 hqF).trans d0
              have e1 := (u5.cell (p := ⟨wl.heap.size, 1, none⟩) hz2 hqF).trans d1
              have e2 := (u5.cell (p := ⟨wl.heap.size, 2, none⟩) hz2 hqF).trans d2
              have hd := vDrop t5 s
              unfold VDrop at hd
              rw [decide_eq_false HND.out.2.1, without_not HND.out.2.1] at hd
              unfold spV at hd
              have HD2 := Lib.hid hd
              have HU5 := Lib.hid u5
              clear hd t5 u5 d0 d1 d2
              go_wp2_with fail
              (with_reducible refine HD2.out.mono ?_)
              rintro e w6 ⟨rfl, t6, u6⟩
              have HT6 := Lib.hid (And.intro t6 u6)
              clear t6 u6 e0 e1 e2
              go_wp2_with fail
              go_roundg (N - (k + 1))
              case measure => have := HK.out.1; omega
              case rel =>
                have hu6 := (HU5.out.trans HT6.out.2)
                have hFw : ∀ y ∈ F, w.heap.size ≤ y := fun y hy => by have := HS.out.2.1 y hy; omega
                refine ⟨k + 1, _, by have := HK.out.1; omega, rfl, by go_num, ?_, ?_, (HK.out.2.2.2.1.trans HU2.out).trans' hu6 (fun y hy => .inr (hFw y hy)), Nat.le_trans hwz (Nat.le_trans HU2.out.size hu6.size), HK.out.2.2.2.2⟩
                · rw [HND.out.2.2]
                  exact own_upd (own_upd HK.out.2.1 HU2.out (by simp)) hu6 (fun y hy hc => by have h1 := own_ge HK.out.2.1 y hy; have h2 := HK.out.2.2.2.2 y hc; omega)
                · rw [HND.out.1]
                  exact HT6.out.1
        · have hkN2 : k = N := by omega
          have hall : l.take k = l := by rw [hkN2, ← HN.out.1]; exact List.take_length
          have hnow : nowB ld l k = leftB ld 0 l := by
            unfold nowB
            rw [hall, hkN2, ← HN.out.1, List.drop_length, List.append_nil]
          have hrow := HK.out.2.1
          have hsg := HK.out.2.2.1
          rw [hall] at hrow
          rw [hnow] at hsg
          have hsub := leftB_sub ld l 0
          have hri := rightS_sub hsub HS.out.2.2.1
          have hidl : ∀ s ∈ leftB ld 0 l, s.id < 4294967296 := fun s hs => HN.out.2.2.2 s (hsub.subset hs)
          have hll : (leftB ld 0 l).length ≤ 80 := by have := hsub.length_le; rw [HN.out.1] at this; omega
          generalize leftB ld 0 l = LB0 at hrow hsg hri hidl hll
          obtain ⟨LB, hLB⟩ : ∃ LB, LB0.reverse = LB := ⟨_, rfl⟩
          obtain rfl : LB.reverse = LB0 := by rw [← hLB, List.reverse_reverse]
          rw [List.length_reverse] at hll
          rw [List.reverse_reverse] at hrow
          have hri2 : rightS LB = true := by rw [rightS_perm LB.reverse_perm.symm]; exact hri
          have hbd := ivlBuild _ LB wr (See.of_row hrow) (fun s hs => hidl s (List.mem_reverse.2 hs)) (by omega)
          obtain ⟨Ab, Cb, rfl⟩ := own_form hrow
          obtain ⟨nl, hnl⟩ : ∃ n, LB.length = n := ⟨_, rfl⟩
          rw [hnl] at hbd hll
          rw [hnl]
          have HBD := Lib.hid hbd
          have HUP := Lib.hid HK.out.2.2.2.1
          have HZ := Lib.hid (And.intro hsg (And.intro hri2 hnl))
          clear hrow hsg hri hri2 hidl hbd hnl hsub hall hnow hkN2 hLB
          go_wp2_with fail
          (with_reducible refine HBD.out.mono ?_)
          rintro e w2 ⟨u2, (⟨hr2, -⟩ | ⟨-, b2, F2, rfl, t2, f2⟩)⟩
          · rw [HZ.out.2.1] at hr2; cases hr2
          have hl1 := vLen (HZ.out.1.upd0 u2)
          have hl2' := vLen t2
          rw [List.length_reverse, HZ.out.2.2] at hl1
          rw [HZ.out.2.2] at hl2'
          have hnn : ((nl : Int) != (nl : Int)) = false := by simp
          have HL1 := Lib.hid hl1
          have HL2 := Lib.hid hl2'
          have HM1 := Lib.hid (HZ.out.1.upd0 u2)
          have HM2 := Lib.hid t2
          have HU2 := Lib.hid (HUP.out.trans u2)
          clear hl1 hl2' u2 t2 f2
          go_wp2_with fail
          (with_reducible refine HL1.out.mono ?_)
          rintro e w3 ⟨rfl, rfl⟩
          go_wp2_with fail
          (with_reducible refine HL2.out.mono ?_)
          rintro e w3 ⟨rfl, rfl⟩
          obtain ⟨Q, hQ⟩ : ∃ Q : Nat, min M 14 = Q := ⟨_, rfl⟩
          have hQm : Value.int .i64 (min (M : Int) 14) = Value.int .i64 (Q : Int) := by
            have : min (M : Int) 14 = (Q : Int) := by omega
            rw [this]
          have hQb : Q ≤ M ∧ Q ≤ 14 := by omega
          obtain ⟨A4, C4, cut, cs, -⟩ := cut_to (P := Try.prog) (t := 37) Try.underlying37 hi0 hz1 (show Sees w 1 (.slice A2 M C2) M (KL.all lx) by have h3 := H2.out; unfold See at h3; rw [HN.out.2.1] at h3; exact h3) Q hQb.1
          have hsee : ∀ w', Upd [] w w' → See KL w' (.slice A4 Q C4) (lx.take Q) := fun w' hu => by
            have h3 := cs w' (by have h3 := H2.out.upd0 hu; unfold See at h3; rw [HN.out.2.1] at h3; exact h3)
            unfold See
            rw [KL.all_take, List.length_take, HN.out.2.1, Nat.min_eq_left hQb.1]
            exact h3
          have hQl : (lx.take Q).length = Q := by rw [List.length_take, HN.out.2.1, Nat.min_eq_left hQb.1]
          have HSEE := Lib.hid (And.intro hsee hQl)
          have hQ20 := hQb.2
          clear cs hsee hQl hQ hQb
          go_wp2_with fail
          go_loopg [89] Q (fun m s84 wr => ∃ k : Nat, m + k = Q ∧ s84 = .int .i64 (k : Int) ∧ Upd [] w2 wr)
          case atStart => exact ⟨0, rfl, rfl, Upd.refl _ _⟩
          case round =>
            obtain ⟨k, hk, rfl, hup⟩ := hrel
            have k0 : (0 : Int) ≤ (k : Int) := Int.natCast_nonneg _
            have hkQ : k ≤ Q := by omega
            have HK := Lib.hid (And.intro hk hup)
            by_cases hlt : k < Q
            · obtain ⟨x, hx⟩ : ∃ x, (lx.take Q)[k]? = some x := ⟨_, List.getElem?_eq_getElem (by rw [HSEE.out.2]; exact hlt)⟩
              obtain ⟨g, o, rfl, -, -, ex⟩ := KL.at (HSEE.out.1 wr (HU2.out.trans hup)) hx
              obtain ⟨p, hp⟩ : ∃ p, (k + 1) % Q = p := ⟨_, rfl⟩
              have hpQ : p < Q := by rw [← hp]; exact Nat.mod_lt _ (by omega)
              have hpt : ((k : Int) + 1).tmod (Q : Int) = (p : Int) := by rw [← hp]; rfl
              have hpe : ((k : Int) + 1) % (Q : Int) = (p : Int) := by rw [← hp, Int.natCast_emod]; rfl
              obtain ⟨y, hy⟩ : ∃ x, (lx.take Q)[p]? = some x := ⟨_, List.getElem?_eq_getElem (by rw [HSEE.out.2]; exact hpQ)⟩
              obtain ⟨g3, o3, hA3, -, -, ey⟩ := KL.at (HSEE.out.1 wr (HU2.out.trans hup)) hy
              injection hA3 with hA3
              injection hA3 with hA3 hA4
              subst hA3 hA4
              have hm1 := fun w' (hu : Upd [] wr w') => vMeet ((HM1.out.upd0 hup).upd0 hu) x y
              have hm2 := fun w' (hu : Upd [] wr w') => vMeet ((HM2.out.upd0 hup).upd0 hu) x y
              have hs1 := fun w' (hu : Upd [] wr w') => vStab ((HM1.out.upd0 hup).upd0 hu) x
              have hs2 := fun w' (hu : Upd [] wr w') => vStab ((HM2.out.upd0 hup).upd0 hu) x
              have hbl := stabL_len LB x
              have hbm := meetL_len LB x y
              rw [HZ.out.2.2] at hbl hbm
              simp only [stabL_perm LB.reverse_perm, meetL_perm LB.reverse_perm] at hm1 hs1
              obtain ⟨L, hL⟩ : ∃ L, stabL LB x = L := ⟨_, rfl⟩
              obtain ⟨K, hK⟩ : ∃ L, meetL LB x y = L := ⟨_, rfl⟩
              simp only [hL] at hs1 hs2
              simp only [hK] at hm1 hm2
              rw [hL] at hbl
              rw [hK] at hbm
              have HM3 := Lib.hid (hm1 wr (Upd.refl _ _))
              have HM4 := Lib.hid hm2
              have HS3 := Lib.hid hs1
              have HS4 := Lib.hid hs2
              have b1 : (k : Int) < (Q : Int) := by omega
              have p0 : (0 : Int) ≤ (p : Int) := Int.natCast_nonneg _
              have p1 : (p : Int) < (Q : Int) := by omega
              clear hx hy hs1 hs2 hm1 hm2 hL hK hk hup hp hpQ
              go_wp2_with fail
              (with_reducible refine HM3.out.mono ?_)
              rintro e w5 ⟨z, ⟨A5, C5, rfl, r1, r2⟩, -, -⟩
              have HM5 := Lib.hid (HM4.out w5 r2)
              have ex5 := (r2.cell (World.block_lt_of_cell? _ _ ex) (by simp)).trans ex
              have ey5 := (r2.cell (World.block_lt_of_cell? _ _ ey) (by simp)).trans ey
              have HR := Lib.hid (And.intro r1 r2)
              clear r1 r2 ex ey
              go_wp2_with fail
              (with_reducible refine HM5.out.mono ?_)
              rintro e w6 ⟨z2, ⟨A6, C6, rfl, r3, r4⟩, -, -⟩
              have HS5 := Lib.hid (HS3.out w6 (HR.out.2.trans r4))
              have HR2 := Lib.hid (And.intro r3 (And.intro r4 (HR.out.2.trans r4)))
              clear r3 r4 ex5 ey5
              go_wp2_with fail
              (with_reducible refine HS5.out.mono ?_)
              rintro e w7 ⟨z3, ⟨A7, C7, rfl, r5, r6⟩, -, -⟩
              have HS6 := Lib.hid (HS4.out w7 (HR2.out.2.2.trans r6))
              have HR3 := Lib.hid (And.intro r5 (And.intro r6 (HR2.out.2.2.trans r6)))
              clear r5 r6
              go_wp2_with fail
              (with_reducible refine HS6.out.mono ?_)
              rintro e w8 ⟨z4, ⟨A8, C8, rfl, r7, r8⟩, -, -⟩
              have hsm := sameVC _ _ K K w8 (See.of_row (own_upd (own_upd (own_upd HR.out.1 HR2.out.2.1 (by simp)) HR3.out.2.1 (by simp)) r8 (by simp))) (See.of_row (own_upd (own_upd HR2.out.1 HR3.out.2.1 (by simp)) r8 (by simp))) (by omega) (by omega)
              rw [decide_eq_true rfl] at hsm
              have HSM := Lib.hid hsm
              have HR4 := Lib.hid (And.intro r7 (And.intro r8 (HR3.out.2.2.trans r8)))
              clear hsm r7 r8
              go_wp2_with fail
              (with_reducible refine HSM.out.mono ?_)
              rintro e w9 ⟨rfl, u9⟩
              have hsm := sameVC _ _ L L w9 (See.of_row (own_upd (own_upd HR3.out.1 HR4.out.2.1 (by simp)) u9 (by simp))) (See.of_row (own_upd HR4.out.1 u9 (by simp))) (by omega) (by omega)
              rw [decide_eq_true rfl] at hsm
              have HSM2 := Lib.hid hsm
              have HR5 := Lib.hid (HR4.out.2.2.trans u9)
              clear hsm u9
              go_wp2_with fail
              (with_reducible refine HSM2.out.mono ?_)
              rintro e w10 ⟨rfl, u10⟩
              have HU7 := Lib.hid (HK.out.2.trans (HR5.out.trans u10))
              clear u10
              go_wp2_with fail
              go_roundg (Q - (k + 1))
              case measure => have := HK.out.1; omega
              case rel => exact ⟨k + 1, by have := HK.out.1; omega, by go_num, HU7.out⟩
            · have HAW2 := Lib.hid (HAW.out wr)
              clear hk hup
              go_wp2_with fail
              (with_reducible refine HAW2.out.mono ?_)
              rintro e w5 ⟨rfl, u5⟩
              have HU5 := Lib.hid ((HU2.out.trans HK.out.2).trans u5)
              clear u5
              go_wp2_with fail
              go_ret
              exact ⟨rfl, HU5.out⟩
end Go.Proofs.Ytjpjlfcjkgmhdaa
