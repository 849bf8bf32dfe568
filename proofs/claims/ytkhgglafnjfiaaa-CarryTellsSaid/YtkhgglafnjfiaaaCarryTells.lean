/- gridironlaw20.CarryTells: whatever is added, and set, the law answers true, and writes nothing that was there. -/
import Derived.Test.YtkhgglafnjfiaaaLaw20b
import Derived.Test.YtkhgglafnjfiaaaTwo
namespace Go.Proofs.Ytkhgglafnjfiaaa
open Go.RowKit

theorem is_trueT (w0 w : World) (b : Nat) (now : List Int) (work : Nat) (v : Value) (h : Two w0 w b now work v now) (hl : now.length < 1000000) :
    Calls Try.prog 15 #[.pointer (some ⟨b, 0, none⟩), v] w fun e w' => e = .returned (.bool true) ∧ Two w0 w' b now work v now := by
  have hh := h
  obtain ⟨F, h1, h2, h3, h4, h5⟩ := h
  refine (is_true b F v now work w h1 (Ints.of_row h2) hl).mono ?_
  rintro e w' ⟨rfl, hu⟩
  exact ⟨rfl, hh.quiet hu⟩

set_option maxRecDepth 100000 in
set_option maxHeartbeats 400000 in
theorem tells_walk (s so : Value) (l o : List Int) (a : Int) (w : World) (hs : Ints w s l) (ho : Ints w so o) (ha0 : 0 ≤ a) (ha1 : a < 256) (hm1 : l.length ≤ 9223372036854775807) (hm2 : o.length ≤ 9223372036854775807) :
    Calls Try.prog 3 #[s, .int .u8 a, so] w fun e w' => e = .returned (.bool true) ∧ Below w.heap.size w w' := by
  obtain ⟨As, Cs, rfl⟩ := hs.form
  obtain ⟨Ao, Co, rfl⟩ := ho.form
  obtain ⟨i1, hi1, hy0, hy1, hy2⟩ := info_parts info_int64
  obtain ⟨m, hm⟩ : ∃ m, min o.length 40 = m := ⟨_, rfl⟩
  have hmn := min_spelt o.length m 40 (by rw [← hm]; split <;> omega)
  obtain ⟨A1, C1, hrun1, hsee1, hblk1⟩ := cut_to (P := Try.prog) Try.underlying22 hi1 hy1 ho m (by omega)
  obtain ⟨k, hk⟩ : ∃ k, min l.length 70 = k := ⟨_, rfl⟩
  have hkn := min_spelt l.length k 70 (by rw [← hk]; split <;> omega)
  obtain ⟨A2, C2, hrun2, hsee2, hblk2⟩ := cut_to (P := Try.prog) Try.underlying22 hi1 hy1 hs k (by omega)
  have hs2 : Ints w (.slice A2 k C2) (l.take k) := by
    have := hsee2 w hs
    unfold Ints
    rw [Kind.all_take, List.length_take, Nat.min_eq_left (by omega)]
    exact this
  have ho2 : Ints w (.slice A1 m C1) (o.take m) := by
    have := hsee1 w ho
    unfold Ints
    rw [Kind.all_take, List.length_take, Nat.min_eq_left (by omega)]
    exact this
  have hlk : (l.take k).length = k := by rw [List.length_take]; omega
  have hom : (o.take m).length = m := by rw [List.length_take]; omega
  have hk70 : k ≤ 70 := by omega
  have hm40 : m ≤ 40 := by omega
  generalize l.take k = lk at *
  generalize o.take m = om at *
  have HS := Lib.hid hs2
  have HO := Lib.hid ho2
  have HLK := Lib.hid hlk
  have HOM := Lib.hid hom
  clear hs ho hs2 ho2 hlk hom hsee1 hsee2 hblk1 hblk2 hk hm
  go_enter Try.func3, Try.ntmps3
  go_wp2_with fail
  refine (newI w).mono ?_
  rintro e w1 ⟨b, rfl, hH, hb0, hu1⟩
  have HH := Lib.hid hH
  have HU1 := Lib.hid hu1
  clear hH hu1
  go_wp2_with fail
  have hT : Two w1 w1 b [] 0 (.slice none 0 0) [] := Two.start HH.out
  have HT := Lib.hid hT
  clear hT
  go_loopg [8, 9, 27] k (fun mm now wo i wr => ∃ j, mm + j = k ∧ i = .int .i64 (j : Int) ∧ ∃ A C L wk, now = .slice A L.length C ∧ wo = .int .i64 ((wk : Nat) : Int) ∧
    Two w1 wr b L wk (.slice A L.length C) L ∧ L.length ≤ 40 + j ∧ wk ≤ 200 * j)
  case atStart => exact ⟨0, rfl, rfl, none, 0, [], 0, rfl, rfl, HT.out, by simp, by simp⟩
  case round =>
    obtain ⟨j, hj, rfl, A, C, L, wk, rfl, rfl, h2, hLl, hwk⟩ := hrel
    have hjk : j ≤ k := by omega
    have HJ := Lib.hid hj
    have H2 := Lib.hid h2
    clear hj h2
    by_cases hlt : j < k
    · have hup := H2.out.upd
      have hsw : Ints wr (.slice A2 k C2) lk := HS.out.upd0 (HU1.out.trans' hup (fun x hx => .inr (by simp at hx; omega)))
      obtain ⟨b1, o1, hA2, hcell⟩ := hsw.cell (k := j) (by rw [HLK.out]; exact hlt)
      subst hA2
      obtain ⟨x, hx⟩ : ∃ x, lk[j]'(by rw [HLK.out]; exact hlt) = x := ⟨_, rfl⟩
      rw [hx] at hcell
      clear hx hup hsw
      have b0 : (0 : Int) ≤ (j : Int) := Int.natCast_nonneg _
      have b1 : (j : Int) < (k : Int) := by omega
      go_upto_if 35 with fail
      go_cut [8, 9] (fun now wo wx => ∃ A C L wk, now = .slice A L.length C ∧ wo = .int .i64 ((wk : Nat) : Int) ∧ Two w1 wx b L wk (.slice A L.length C) L ∧ L.length ≤ 40 + j ∧ wk ≤ 200 * j + 40)
      case first =>
        by_cases hja : (j : Int) = a
        · have q1 : ((j : Int) == a) = true := by simp [hja]
          have HJA := Lib.hid hja
          clear hja
          go_wp2_with fail
          refine (setT w1 wr b _ L L om wk _ H2.out (HO.out.upd0 (HU1.out.trans' H2.out.upd (fun x hx => .inr (by simp at hx; omega)))) (fun h0 x hx => by have := HO.out.lt h0 x hx; have := HU1.out.size; omega) (by rw [HOM.out]; omega) (by omega)).mono ?_
          rintro e w2 ⟨rfl, h3⟩
          rw [HOM.out] at h3 ⊢
          have H3 := Lib.hid h3
          clear h3
          have hup3 := H3.out.upd
          have hso : Ints w2 (.slice A1 m C1) om := HO.out.upd0 (HU1.out.trans' hup3 (fun x hx => .inr (by simp at hx; omega)))
          have HSO := Lib.hid hso
          have hsz := hup3.size
          clear hso hup3
          go_wp2_with (at_builtin; refine wpList_app _ rfl _ _ 22 rfl w2.heap.size 2 i1 (.int .i64 0) 1 8 Try.underlying22 hi1 hy0 hy1 hy2 rfl (by decide) _ 0 [] rfl (World.ownsRow_made w2 #[] 0 (Nat.le_refl _) (by decide) rfl) _ m (KI.all om) rfl (by have := (HSO.out).upd0 (((Upd.refl [] w2).alloc (.cells #[] 2))); unfold Ints at this; rw [HOM.out] at this; exact this) (KI.all_one om) (by unfold maxLen; omega) (by omega) (by simp) ?_)
          intro A4 C4 w3 HP
          have hup4 : Upd [] w2 w3 := ((Upd.refl _ _).alloc _).trans' HP.upd (fun x hx => by simp [blk] at hx; omega)
          have hrow4 : KI.row w3 w2.heap.size (.slice A4 m C4) om := by
            have := HP.own
            rw [Nat.zero_add, List.nil_append] at this
            unfold Kind.row
            rw [HOM.out]
            exact this
          have H4 := Lib.hid (Two.other H3.out hup4 hrow4)
          clear hup4 hrow4
          go_wp2_with fail
          have hom2 : m = om.length := HOM.out.symm
          have HOM2 := Lib.hid hom2
          clear hom2
          refine (is_trueT w1 w3 b om _ _ H4.out (by rw [HOM.out]; omega)).mono ?_
          rintro e w4 ⟨rfl, h5⟩
          have H5 := Lib.hid h5
          clear h5
          go_wp2_with fail
          go_meet
          case rel =>
            refine ⟨A4, C4, om, wk + m, by rw [HOM.out], by go_num, ?_, by rw [HOM.out]; omega, by omega⟩
            have := H5.out
            rw [HOM.out]
            exact this
        · have q1 : ((j : Int) == a) = false := by simp [hja]
          clear hja
          go_wp2_with fail
          go_meet
          case rel => exact ⟨A, C, L, wk, rfl, rfl, H2.out, hLl, by omega⟩
      case rest =>
        clear H2 hLl hwk
        obtain ⟨A, C, L, wk, rfl, rfl, h2, hLl, hwk⟩ := hcut
        have H2 := Lib.hid h2
        clear h2
        go_wp2_with (at_builtin; refine wpList_app _ rfl _ _ 22 rfl w1.heap.size 2 i1 (.int .i64 0) 1 8 Try.underlying22 hi1 hy0 hy1 hy2 rfl (by decide) _ _ _ rfl (H2.out.row.alloc _) _ 1 [.int .i64 x] rfl (sees_lit wc #[.int .i64 x] 2 1 1 rfl (by decide)) (by simp [Value.oneCell']) (by unfold maxLen; omega) (by omega) (by have := H2.out.upd.size; simp; omega) ?_)
        intro A4 C4 w3 HP
        have H3 := Lib.hid (Two.append H2.out (news := [x]) rfl HP)
        clear HP
        obtain ⟨hg1, hg2, hg3, hg4⟩ := gath_last L x
        have hg5 := (gath_set L x).2
        go_wp2_with fail
        refine (addT w1 w3 b x L (L ++ [x]) wk _ H3.out (by omega) (by omega)).mono ?_
        rintro e w4 ⟨A5, C5, rfl, h4, hrow5⟩
        obtain ⟨t, ht⟩ : ∃ t, firstE (setB L) = t := ⟨_, rfl⟩
        rw [ht] at hg1 hg2 hg3 hg4 hg5 h4 hrow5 ⊢
        have ht20 : t < 20 := by
          apply Nat.lt_of_not_le
          intro hge
          have : 2 ^ 20 ≤ 2 ^ t := Nat.pow_le_pow_right (by omega) hge
          omega
        obtain ⟨p, hp⟩ : ∃ p, 2 ^ t = p := ⟨_, rfl⟩
        have hshl : Value.int .i64 (wrap64 ((2 : Int) ^ t)) = Value.int .i64 (p : Int) := by rw [shl_spelt t p (by omega) hp]
        rw [hp] at hg1 hg2 hg5 h4 hrow5 ⊢
        have HP := Lib.hid hp
        have H4 := Lib.hid h4
        have HR5 := Lib.hid hrow5
        have HG1 := Lib.hid hg1
        have HG3 := Lib.hid hg3
        have HG4 := Lib.hid hg4
        have HG5 := Lib.hid hg5
        have HTT := Lib.hid ht
        clear hp h4 hrow5 hg1 hg3 hg4 hg5 ht
        go_wp2_with fail
        rw [show ((L.length : Int) + 1) = ((L.length + 1 : Nat) : Int) from by omega]
        refine (placedRef (L.length + 1) t _ HG3.out HG4.out (by omega)).mono ?_
        rintro e w' ⟨rfl, rfl⟩
        rw [HP.out]
        have hrowl := H4.out.row
        obtain ⟨A6, C6, hrun6, hsee6, hblk6⟩ := cut_from (P := Try.prog) (w := w4) (v := .slice A4 (L.length + 1) C4) (n := L.length + 1) (xs := KI.all (L ++ [x])) (size := 1) Try.underlying22 hi1 hy1 (by have := sees_of_own hrowl; rw [List.length_append] at this; exact this) (L.length + 1 - p) (by omega)
        have e6 : L.length + 1 - (L.length + 1 - p) = p := by omega
        rw [e6] at hrun6 hsee6
        have e7 : ((L.length + 1 - p : Nat) : Int) = (L.length : Int) + 1 - (p : Int) := by omega
        rw [e7] at hrun6
        have hs6 := hsee6 w4 (by have := sees_of_own hrowl; rw [List.length_append] at this; exact this)
        have HS6 := Lib.hid hs6
        clear hrowl hblk6 hs6 hsee6 e6 e7
        go_wp2_with fail
        refine (same20 _ _ (gath (setB L) x) (gath (setB L) x) _ (Ints.of_row (base := w3.heap.size) (by have := HR5.out; unfold Kind.row at this ⊢; rw [HG5.out] at this ⊢; exact this)) (by
          unfold Ints
          rw [HG5.out, HG1.out, Kind.all_drop]
          exact HS6.out) (by rw [HG5.out]; omega) (by rw [HG5.out]; omega)).mono ?_
        rintro e w5 ⟨rfl, hu5⟩
        rw [decide_eq_true rfl]
        have H5 := Lib.hid (H4.out.quiet hu5)
        clear hu5
        go_wp2_with fail
        refine (is_trueT w1 w5 b (L ++ [x]) _ _ H5.out (by rw [List.length_append]; simp; omega)).mono ?_
        rintro e w6 ⟨rfl, h6⟩
        have H6 := Lib.hid h6
        clear h6
        go_wp2_with fail
        refine (workT w1 w6 b _ _ _ _ H6.out).mono ?_
        rintro e w' ⟨rfl, rfl⟩
        rw [show (((wk + p : Nat)) : Int) = (wk : Int) + (p : Int) from by omega]
        go_wp2_with fail
        go_roundg (gk - 1)
        case measure => have := HJ.out; omega
        case rel =>
          refine ⟨j + 1, by have := HJ.out; omega, by go_num, A4, C4, L ++ [x], wk + p, ?_, by go_num, ?_, ?_, by omega⟩
          · rw [List.length_append]; rfl
          · have := H6.out
            rw [List.length_append]
            exact this
          · rw [List.length_append]; simp; omega
    · have hup := H2.out.upd
      have HU := Lib.hid hup
      clear hup
      go_wp2_with fail
      refine (awake_true wr).mono ?_
      rintro e w' ⟨rfl, hu⟩
      have HU2 := Lib.hid hu
      clear hu
      go_wp2_with fail
      go_ret
      refine ⟨rfl, ((HU1.out.trans' HU.out (fun x hx => .inr (by simp at hx; omega))).trans HU2.out).below⟩
end Go.Proofs.Ytkhgglafnjfiaaa
