/- cells.Blocks: the walk. -/
import Derived.Test.YthkiljfjjnckaaaBlocks
namespace Go.Proofs.Ythkiljfjjnckaaa
open Go.RowKit

/-- What Blocks leaves. -/
def BlkPost (w : World) (l : List Bx) (X Y : List Int) (e : Ending) (w' : World) : Prop :=
  ∃ A C A' C' A'' C'', e = .returned (.tuple #[.slice A X.length C, .slice A' Y.length C', .slice A'' (X.length - 1) C'']) ∧ See KL w' (.slice A X.length C) X ∧ See KL w' (.slice A' Y.length C') Y ∧ SeeRows w' (.slice A'' (X.length - 1) C'') (colsB l X Y) ∧ Upd [] w w'

theorem two_lines {l : List Bx} (h : sqz (linX l) ≠ []) : 2 ≤ (sqz (linY l)).length := by
  have h1 : linX l ≠ [] := fun e => h (by rw [e]; exact sqz_nil)
  have h2 : ∃ b ∈ l, b.counts = true := by
    refine Classical.byContradiction fun hc => h1 ?_
    unfold linX
    rw [List.flatMap_eq_nil_iff]
    intro b hb
    have hb' := List.mem_filter.1 hb
    exact absurd ⟨b, hb'.1, hb'.2⟩ hc
  obtain ⟨b, hb, hc⟩ := h2
  have m1 := mem_sqz (mem_linY hb hc).1
  have m2 := mem_sqz (mem_linY hb hc).2
  have hlt : b.y1 < b.y2 := by
    unfold Bx.counts at hc
    simp only [decide_eq_true_eq] at hc
    exact hc.2
  rcases hL : sqz (linY l) with _ | ⟨a, _ | ⟨c, r⟩⟩
  · rw [hL] at m1; simp at m1
  · rw [hL] at m1 m2; simp at m1 m2; omega
  · simp

set_option maxRecDepth 100000 in
set_option maxHeartbeats 4000000 in
theorem blocksC (v : Value) (l : List Bx) (w : World) (hs : See KBx w v l) (hl : l.length < 1000000) :
    Calls Try.prog 34 #[v] w (BlkPost w l (sqz (linX l)) (sqz (linY l))) := by
  obtain ⟨i0, hi0, hz0, hz1, hz2⟩ := info_parts info_bools
  obtain ⟨i1, hi1, hy0, hy1, hy2⟩ := info_parts info_boolE
  obtain ⟨A, C, rfl⟩ := hs.form
  unfold BlkPost
  have hu0 : Upd [] w (w.alloc (.cells #[.slice A l.length C] 62)) := (Upd.refl _ _).alloc _
  have hlin := linesC (.slice A l.length C) l _ (hs.upd0 hu0) hl
  have htw := two_lines (l := l)
  have hlx : (sqz (linX l)).length ≤ 2000000 := Nat.le_trans (sqz_len _) (by have := linX_len l; omega)
  have hly : (sqz (linY l)).length ≤ 2000000 := Nat.le_trans (sqz_len _) (by have := linY_len l; omega)
  obtain ⟨X, hX⟩ : ∃ X, sqz (linX l) = X := ⟨_, rfl⟩
  obtain ⟨Y, hY⟩ : ∃ Y, sqz (linY l) = Y := ⟨_, rfl⟩
  rw [hX] at hlin htw hlx ⊢
  rw [hY] at hlin htw hly ⊢
  have c1 : (w.alloc (.cells #[.slice A l.length C] 62)).cell? ⟨w.heap.size, 0, none⟩ = some (.slice A l.length C) := by rw [World.cell?_alloc_at _ _ _ _ rfl]; rfl
  have HLIN := Lib.hid hlin
  have HTW := Lib.hid htw
  have HL := Lib.hid hl
  have HS := Lib.hid hs
  have HU0 := Lib.hid hu0
  have HC1 := Lib.hid (And.intro c1 (show w.heap.size < (w.alloc (.cells #[.slice A l.length C] 62)).heap.size by simp))
  have HLX := Lib.hid hlx
  have HLY := Lib.hid hly
  clear hlin htw hl hs hu0 c1 hlx hly hX hY
  go_enter Try.func34, Try.ntmps34
  go_wp2_with fail
  (with_reducible refine HLIN.out.mono ?_)
  rintro e w1 ⟨A1, C1, A2, C2, rfl, htwo, hu1⟩
  have hw1 : Upd [] w ((w1.alloc (.cells #[.slice A1 X.length C1] 22)).alloc (.cells #[.slice A2 Y.length C2] 22)) := ((HU0.out.trans hu1).alloc _).alloc _
  have hup : Upd [] w1 ((w1.alloc (.cells #[.slice A1 X.length C1] 22)).alloc (.cells #[.slice A2 Y.length C2] 22)) := ((Upd.refl _ _).alloc _).alloc _
  have k1 := (hup.cell (p := ⟨w.heap.size, 0, none⟩) (Nat.lt_of_lt_of_le HC1.out.2 hu1.size) (by simp)).trans ((hu1.cell (p := ⟨w.heap.size, 0, none⟩) HC1.out.2 (by simp)).trans HC1.out.1)
  have k2 : ((w1.alloc (.cells #[.slice A1 X.length C1] 22)).alloc (.cells #[.slice A2 Y.length C2] 22)).cell? ⟨w1.heap.size, 0, none⟩ = some (.slice A1 X.length C1) := by
    rw [World.cell?_alloc_past _ _ _ (by simp), World.cell?_alloc_at _ _ _ _ rfl]; rfl
  have k3 : ((w1.alloc (.cells #[.slice A1 X.length C1] 22)).alloc (.cells #[.slice A2 Y.length C2] 22)).cell? ⟨w1.heap.size + 1, 0, none⟩ = some (.slice A2 Y.length C2) := by
    rw [World.cell?_alloc_at _ _ _ _ (by simp)]; rfl
  have kz : w1.heap.size + 1 < ((w1.alloc (.cells #[.slice A1 X.length C1] 22)).alloc (.cells #[.slice A2 Y.length C2] 22)).heap.size ∧ w.heap.size < ((w1.alloc (.cells #[.slice A1 X.length C1] 22)).alloc (.cells #[.slice A2 Y.length C2] 22)).heap.size := by
    have h1 := hu1.size
    have h2 := HC1.out.2
    simp at h1 h2 ⊢
    omega
  have htwo' := htwo.upd0 hup
  have HK := Lib.hid (And.intro k1 (And.intro k2 (And.intro k3 kz)))
  have HX := Lib.hid (And.intro (See.of_row htwo'.rx) (See.of_row htwo'.ry))
  have HW1 := Lib.hid hw1
  clear k1 k2 k3 kz htwo htwo' hup hw1 hu1
  obtain ⟨W0, hW0⟩ : ∃ W0, ((w1.alloc (.cells #[.slice A1 X.length C1] 22)).alloc (.cells #[.slice A2 Y.length C2] 22)) = W0 := ⟨_, rfl⟩
  rw [hW0] at HK HX HW1
  have g2 := HK.out.2.1
  have hxl : (X.length : Int) ≤ 2000000 := by have := HLX.out; omega
  have hx0 : (0 : Int) ≤ (X.length : Int) := Int.natCast_nonneg _
  obtain ⟨n, hn⟩ : ∃ n : Nat, X.length - 1 = n := ⟨_, rfl⟩
  have hmx : Value.int .i64 (max ((X.length : Int) - 1) 0) = Value.int .i64 (n : Int) := by congr 1; omega
  have HN := Lib.hid hn
  have HNB := Lib.hid (show n ≤ 2000000 by have := HLX.out; omega)
  clear hn
  obtain ⟨p1, hp1⟩ : ∃ p, w.heap.size = p := ⟨_, rfl⟩
  obtain ⟨p2, hp2⟩ : ∃ p, w1.heap.size = p := ⟨_, rfl⟩
  rw [hp1, hp2] at HK
  rw [hp2] at g2
  go_upto_block 0 with fail
  clear hW0 hp1 hp2
  go_wp2_with fail
  clear hmx
  go_loopg [7, 21] n (fun m s7 s21 wr => ∃ k v vs, m + k = n ∧ s7 = v ∧ s21 = .int .i64 (k : Int) ∧ ColsAt W0.heap.size wr v vs ((colsB l X Y).take k) ∧ Upd [] W0 wr)
  case atStart => exact ⟨0, _, [], by omega, rfl, rfl, ColsAt.nil _ _, Upd.refl _ _⟩
  case round =>
    obtain ⟨k, v, vs, hk, hv7, rfl, hcs, hu⟩ := hrel
    obtain ⟨Av, Cv, rfl⟩ := own_form hcs.own
    subst hv7
    have b0 : (0 : Int) ≤ (k : Int) := Int.natCast_nonneg _
    by_cases hlt : k < n
    · have b1 : (k : Int) < (n : Int) := by omega
      have b2 : (k : Int) < 2000000 := by have := HNB.out; omega
      obtain ⟨wo, rfl⟩ : ∃ wo : World, wo = wr := ⟨_, rfl⟩
      obtain ⟨W1, hW1⟩ : ∃ W1, wo.alloc (.cells #[.int .i64 (k : Int)] 3) = W1 := ⟨_, rfl⟩
      have huo : Upd [] wo W1 := by rw [← hW1]; exact (Upd.refl _ _).alloc _
      have hu1 : Upd [] W0 W1 := hu.trans huo
      have e0 : W1.cell? ⟨wo.heap.size, 0, none⟩ = some (.int .i64 (k : Int)) := by rw [← hW1, World.cell?_alloc_at _ _ _ _ rfl]; rfl
      have ez : wo.heap.size < W1.heap.size := by rw [← hW1]; simp
      have e1 := (hu1.cell (p := ⟨p1, 0, none⟩) HK.out.2.2.2.2 (by simp)).trans HK.out.1
      have e2 := (hu1.cell (p := ⟨p2, 0, none⟩) (Nat.lt_of_succ_lt HK.out.2.2.2.1) (by simp)).trans HK.out.2.1
      have e3 := (hu1.cell (p := ⟨p2 + 1, 0, none⟩) HK.out.2.2.2.1 (by simp)).trans HK.out.2.2.1
      have hy2' : 2 ≤ Y.length := HTW.out (by intro e; have := HN.out; rw [e] at this; simp at this; omega)
      obtain ⟨m, hm⟩ : ∃ m : Nat, Y.length - 1 = m := ⟨_, rfl⟩
      have hmY : (Y.length : Int) - 1 = (m : Int) := by omega
      have hmb : m ≤ 2000000 := by have := HLY.out; omega
      obtain ⟨w3, hmk, ho, hg⟩ := run_make_full (P := Try.prog) W1 W1.heap.size 44 4 i1 (.bool false) 1 Try.underlying44 hi1 hy0 hy1 .i64 .i64 m (by rw [hy2]; omega) (by unfold maxLen; omega) (Nat.le_refl _)
      have hmk' : (Instr.makeSlice 44 (.int .i64 ((Y.length : Int) - 1)) (.int .i64 ((Y.length : Int) - 1))).run Try.prog W1 = .ok (.slice (some ⟨W1.heap.size, 0, none⟩) m m) w3 := by
        rw [hmY]; exact hmk
      have hrow := KB_row_made ho
      have hu3 : Upd [] W1 w3 := (Upd.refl _ _).grown hg (by simp)
      have hz3 : W1.heap.size < w3.heap.size := own_lt ho W1.heap.size (by simp [blk])
      have hy0' : (0 : Int) ≤ (Y.length : Int) := Int.natCast_nonneg _
      have hyl : (Y.length : Int) ≤ 2000000 := by have := HLY.out; omega
      have HCS := Lib.hid (hcs.upd0 huo)
      have HR3 := Lib.hid (And.intro hrow (And.intro hu3 hz3))
      have HU1 := Lib.hid hu1
      have HM := Lib.hid (And.intro hm (And.intro hy2' hmb))
      have HKK := Lib.hid hk
      have HLT := Lib.hid hlt
      have HE := Lib.hid (And.intro e0 (And.intro e1 (And.intro e2 (And.intro e3 (And.intro ez (And.intro (Nat.lt_of_lt_of_le HK.out.2.2.2.2 hu1.size) (Nat.lt_of_lt_of_le HK.out.2.2.2.1 hu1.size)))))))
      have HOLD := Lib.hid (show ∀ u ∈ blk (.slice Av vs.length Cv), u < wo.heap.size from fun u hu' => own_lt hcs.own u hu')
      clear hrow hu3 hz3 hu1 hm hy2' hmb hk hlt hmk ho hg huo hcs hu hmY
      obtain ⟨q, hq⟩ : ∃ q, wo.heap.size = q := ⟨_, rfl⟩
      obtain ⟨c, hc⟩ : ∃ c, W1.heap.size = c := ⟨_, rfl⟩
      rw [hq] at e0 HE ez HOLD
      rw [hc] at hmk' HR3 ez HE
      have HCW := Lib.hid hc
      go_upto_block 2 with fail
      clear hW1 hq hmk' hc
      go_wp2_with fail
      clear e0 e1 e2 e3
      go_loopg [31] m (fun j s31 wr => ∃ t, j + t = m ∧ s31 = .int .i64 (t : Int) ∧ KB.row wr c (.slice (some ⟨c, 0, none⟩) m m) (rowL m fun i => if i < t then covB l (nth X k) (nth Y i) else false) ∧ Upd [] W1 wr)
      case atStart => exact ⟨0, by omega, rfl, by have := HR3.out.1; simpa using this, HR3.out.2.1⟩
      case round =>
        obtain ⟨t, ht, rfl, hrw, hu⟩ := hrel
        have t0 : (0 : Int) ≤ (t : Int) := Int.natCast_nonneg _
        have HT := Lib.hid ht
        by_cases hlt2 : t < m
        · have huw : Upd [] w wr := (HW1.out.trans HU1.out).trans hu
          have f1 := (hu.cell (p := ⟨p1, 0, none⟩) (by rw [HCW.out]; exact HE.out.2.2.2.2.2.1) (by simp)).trans HE.out.2.1
          have f2 := (hu.cell (p := ⟨p2, 0, none⟩) (by rw [HCW.out]; exact Nat.lt_of_succ_lt HE.out.2.2.2.2.2.2) (by simp)).trans HE.out.2.2.1
          have f3 := (hu.cell (p := ⟨p2 + 1, 0, none⟩) (by rw [HCW.out]; exact HE.out.2.2.2.2.2.2) (by simp)).trans HE.out.2.2.2.1
          have f0 := (hu.cell (p := ⟨q, 0, none⟩) (by rw [← HCW.out] at ez; exact ez) (by simp)).trans HE.out.1
          have hfn := blockFn (.slice A l.length C) (.slice A1 X.length C1) (.slice A2 Y.length C2) l X Y p1 p2 q (p2 + 1) k t wr (HS.out.upd0 huw) (HX.out.1.upd0 (HU1.out.trans hu)) (HX.out.2.upd0 (HU1.out.trans hu)) (by have := HL.out; omega) f1 f2 f0 f3 (by have := HLT.out; have := HN.out; omega) (by have := HM.out.1; omega)
          obtain ⟨b, hb⟩ : ∃ b, covB l (nth X k) (nth Y t) = b := ⟨_, rfl⟩
          rw [hb] at hfn
          have t1 : (t : Int) < (m : Int) := by omega
          have t2 : (t : Int) < 2000000 := by have := HM.out.2.2; omega
          have HFN := Lib.hid hfn
          have HB := Lib.hid hb
          have HU := Lib.hid hu
          have HRW := Lib.hid hrw
          have HLT2 := Lib.hid hlt2
          clear hfn hb hu hrw hlt2 ht huw f0 f1 f2 f3
          go_wp2_with fail
          (with_reducible refine HFN.out.mono ?_)
          rintro e w5 ⟨rfl, hu5⟩
          have hr5 : KB.row w5 c (.slice (some ⟨c, 0, none⟩) m m) (rowL m fun i => if i < t then covB l (nth X k) (nth Y i) else false) := own_upd HRW.out hu5 (by simp)
          obtain ⟨gq, hgq, -, eq1, eqf⟩ := rowAt (K := KB) hr5 (rowL_get (p := fun i => if i < t then covB l (nth X k) (nth Y i) else false) HLT2.out)
          obtain ⟨bb, hbb⟩ : ∃ bb, (if t < t then covB l (nth X k) (nth Y t) else false) = bb := ⟨_, rfl⟩
          rw [hbb] at eq1
          cases hgq
          have q0 : w5.cell? ⟨c, t, none⟩ = some (.bool bb) := by
            have := eq1 0 _ rfl
            simpa [KB] using this
          have qf := eqf t
          have hst := KB_row_stored hr5 t b
          have e : (rowL m fun i => if i = t then b else if i < t then covB l (nth X k) (nth Y i) else false) = rowL m fun i => if i < t + 1 then covB l (nth X k) (nth Y i) else false := rowL_congr fun i _ => by
            by_cases h1 : i = t
            · rw [if_pos h1, if_pos (by omega), h1, HB.out]
            · rw [if_neg h1]
              by_cases h2 : i < t
              · rw [if_pos h2, if_pos (by omega)]
              · rw [if_neg h2, if_neg (by omega)]
          rw [e] at hst
          have HST := Lib.hid hst
          have HU5 := Lib.hid ((HU.out.trans hu5).setCell (p := ⟨c, t, none⟩) (.inr (by rw [HCW.out]; exact Nat.le_refl _)) (.bool b))
          clear hst e hr5 hu5 eq1 eqf hbb
          go_wp2_with fail
          go_roundg (m - (t + 1))
          case measure => have := HT.out; omega
          case rel => exact ⟨t + 1, by have := HT.out; have := HLT2.out; omega, by go_num, HST.out, HU5.out⟩
        · have htm : t = m := by omega
          have e : (rowL m fun i => if i < t then covB l (nth X k) (nth Y i) else false) = colB l X Y k := by
            unfold colB
            rw [HM.out.1]
            exact rowL_congr fun i hi => by rw [if_pos (by omega)]
          rw [e] at hrw
          have hlen : (colB l X Y k).length = m := by unfold colB; rw [rowL_len, HM.out.1]
          have hsee : See KB wr (.slice (some ⟨c, 0, none⟩) m m) (colB l X Y k) := by
            have := See.of_row hrw
            exact this
          have hcsr := HCS.out.upd0 hu
          have hvl : vs.length = k := by
            have := hcsr.len
            rw [List.length_take, colsB_len, HN.out] at this
            have := HLT.out
            omega
          have HSEE := Lib.hid hsee
          have HCSR := Lib.hid hcsr
          have HU := Lib.hid (HU1.out.trans hu)
          have HBK := Lib.hid (show c < wr.heap.size from own_lt hrw c (by simp [blk]))
          have HVL := Lib.hid hvl
          have hbase : W0.heap.size ≤ wr.heap.size := (HU1.out.trans hu).size
          clear hrw e hlen hsee hcsr hu htm ht hvl
          go_wp2_with (at_builtin; refine wpList_app _ rfl _ _ 64 rfl W0.heap.size 44 i0 (.slice none 0 0) 1 24 Try.underlying64 hi0 hz0 hz1 hz2 rfl (by decide) _ _ vs rfl (own_upd HCSR.out.own ((Upd.refl [] _).alloc _) (by simp)) _ 1 [.slice (some ⟨c, 0, none⟩) m m] rfl (sees_lit wr #[.slice (some ⟨c, 0, none⟩) m m] 44 1 1 rfl (by decide)) (by simp [Value.oneCell']) (by unfold maxLen; have := HVL.out; have := HNB.out; have := HLT.out; omega) (by have := HVL.out; have := HNB.out; have := HLT.out; omega) (by simp; omega) ?_)
          intro A6 C6 w6 HP
          have hnew := (HCSR.out.upd0 ((Upd.refl [] wr).alloc (.cells #[.slice (some ⟨c, 0, none⟩) m m] 44))).push (HSEE.out.upd0 ((Upd.refl [] wr).alloc _)) (fun j hj => by
            simp [blk] at hj
            subst hj
            refine ⟨fun hc => ?_, by have := HBK.out; simp; omega⟩
            have h1 := HOLD.out _ hc
            have h2 := HE.out.2.2.2.2.1
            omega) HP
          rw [← colsB_take (l := l) (X := X) (Y := Y) (i := k) (by have := HN.out; have := HLT.out; omega)] at hnew
          have hun : Upd [] W0 w6 := (HU.out.alloc (.cells #[.slice (some ⟨c, 0, none⟩) m m] 44)).trans' HP.upd (fun j hj => .inr (own_ge HCSR.out.own j hj))
          have HNEW := Lib.hid (And.intro hnew hun)
          clear hnew hun HP
          go_wp2_with fail
          go_roundg (n - (k + 1))
          case measure => have := HKK.out; omega
          case rel => exact ⟨k + 1, _, _, by have := HKK.out; have := HLT.out; omega, rfl, by go_num, HNEW.out.1, HNEW.out.2⟩
    · have hkn : k = n := by omega
      have e : (colsB l X Y).take k = colsB l X Y := List.take_of_length_le (by rw [colsB_len]; have := HN.out; omega)
      rw [e] at hcs
      have hvl : vs.length = X.length - 1 := by have := hcs.len; rw [colsB_len] at this; exact this
      have hsr := hcs.see
      have h2 := (hu.cell (p := ⟨p2, 0, none⟩) (Nat.lt_of_succ_lt HK.out.2.2.2.1) (by simp)).trans HK.out.2.1
      have h3 := (hu.cell (p := ⟨p2 + 1, 0, none⟩) HK.out.2.2.2.1 (by simp)).trans HK.out.2.2.1
      have HSR := Lib.hid (And.intro hsr (And.intro hvl hu))
      clear hsr hvl hu hcs hkn hk e
      go_wp2_with fail
      go_quiet (fail)
      go_wp2_with fail
      go_ret3
      refine ⟨A1, C1, A2, C2, Av, Cv, ?_, HX.out.1.upd0 (HSR.out.2.2.drewN _), HX.out.2.upd0 (HSR.out.2.2.drewN _), ?_, (HW1.out.trans HSR.out.2.2).drewN _⟩
      · rw [← HSR.out.2.1]; rfl
      · have := HSR.out.1.upd0 ((Upd.refl [] _).drewN nq)
        rw [HSR.out.2.1] at this
        exact this
end Go.Proofs.Ythkiljfjjnckaaa
