/- gridironlaw08.SegOrder: the walk. -/
import Derived.Test.YtclbdegkfjedjaaGreatSegM
namespace Go.Proofs.YtclbdegkfjedjaaGreat
open Go.RowKit
attribute [local go_sem ↓] Go.wp_at_zero Go.wp_at_succ

set_option maxRecDepth 100000 in
set_option maxHeartbeats 8000000 in
theorem segOrder_walk (v v2 : Value) (l : List Sp) (lx : List Int) (w : World) (h : IsSps w v l) (hid : ∀ s ∈ l, s.in64) (hl : l.length ≤ maxLen) (h2 : See KL w v2 lx) (hl2 : lx.length ≤ maxLen) :
    Calls Tryz.prog 4 #[v, v2] w fun e w' => e = .returned (.bool true) ∧ Upd [] w w' := by
  obtain ⟨A, C, rfl⟩ := h.form
  obtain ⟨A2, C2, rfl⟩ := h2.form
  obtain ⟨i1, hi1, hy0, hy1, hy2⟩ := info_parts infoSpanS
  obtain ⟨i0, hi0, hz0, hz1, hz2⟩ := info_parts infoLongS
  obtain ⟨N, hN⟩ : ∃ N, l.length = N := ⟨_, rfl⟩
  obtain ⟨M, hM⟩ : ∃ N, lx.length = N := ⟨_, rfl⟩
  rw [hN] at h hl ⊢
  rw [hM] at h2 hl2 ⊢
  unfold maxLen at hl hl2
  have n0 : (0 : Int) ≤ (N : Int) := Int.natCast_nonneg _
  have m0 : (0 : Int) ≤ (M : Int) := Int.natCast_nonneg _
  have hid2 : ∀ s ∈ l, s.id < 4294967296 := fun s hs => (hid s hs).2.2
  by_cases hbig : 80 < N
  · have hb : decide ((80 : Int) < (N : Int)) = true := decide_eq_true (by omega)
    have HAW := Lib.hid (awake08 w)
    clear h h2 hid hid2 hbig
    go_enter Tryz.func4, Tryz.ntmps4
    go_wp2_with fail
    (with_reducible refine HAW.out.mono ?_)
    rintro e w1 ⟨rfl, u1⟩
    go_wp2_with fail
    go_ret
    exact ⟨rfl, u1⟩
  · have hb : decide ((80 : Int) < (N : Int)) = false := decide_eq_false (by omega)
    have hN80 : N ≤ 80 := by omega
    have H := Lib.hid h
    have H2 := Lib.hid h2
    have HN := Lib.hid (And.intro hN (And.intro hM hid2))
    clear h h2 hid hid2 hbig hN hM
    go_enter Tryz.func4, Tryz.ntmps4
    go_wp2_with fail
    go_loopg [5, 6] N (fun m s5 s6 wr => ∃ (k : Nat) (z : Int) (vo : Value), m = k ∧ (k : Int) = z + 1 ∧ k ≤ N ∧ s5 = vo ∧ s6 = .int .i64 z ∧ KSp.row wr w.heap.size vo (l.drop k).reverse ∧ Upd [] w wr)
    case atStart => exact ⟨N, _, _, rfl, by omega, Nat.le_refl _, rfl, rfl, by rw [List.drop_of_length_le (by rw [HN.out.1]; exact Nat.le_refl _)]; exact World.ownsRow_nil _ _ _ _, Upd.refl _ _⟩
    case round =>
      obtain ⟨k, z, vo, hk, hz, hkN, rfl, rfl, hrow, hup⟩ := hrel
      have HK := Lib.hid hk
      clear hk
      by_cases h0 : 0 < k
      · obtain ⟨j, rfl⟩ : ∃ j : Nat, z = (j : Int) := ⟨z.toNat, by omega⟩
        have hkj : k = j + 1 := by omega
        obtain ⟨s, hs⟩ : ∃ s, l[j]? = some s := ⟨_, List.getElem?_eq_getElem (by rw [HN.out.1]; omega)⟩
        have hse : See KSp wr (.slice A l.length C) l := by
          have := H.out.upd0 hup
          rw [HN.out.1]; exact this
        obtain ⟨g, o, rfl, -, -, ey⟩ := hse.at hs
        have y0 : wr.cell? ⟨g, o + j * 3, none⟩ = some (.int .i64 s.lo) := ey 0 _ rfl
        have y1 : wr.cell? ⟨g, o + j * 3 + 1, none⟩ = some (.int .i64 s.hi) := ey 1 _ rfl
        have y2 : wr.cell? ⟨g, o + j * 3 + 2, none⟩ = some (.int .u32 (s.id : Int)) := ey 2 _ rfl
        have hlen : (l.drop k).reverse.length = N - k := by rw [List.length_reverse, List.length_drop, HN.out.1]
        have hnext : (l.drop j).reverse = (l.drop k).reverse ++ [s] := by
          obtain ⟨h1, h2⟩ := List.getElem?_eq_some_iff.1 hs
          rw [List.drop_eq_getElem_cons h1, List.reverse_cons, h2, hkj]
        have hrow2 := hrow
        unfold Kind.row at hrow2
        rw [hlen] at hrow2
        obtain ⟨r, hr⟩ : ∃ r, N - k = r := ⟨_, rfl⟩
        rw [hr] at hrow2 hlen
        have j0 : (0 : Int) ≤ (j : Int) := Int.natCast_nonneg _
        have j1 : (j : Int) < (N : Int) := by omega
        have hrb : r ≤ 80 := by omega
        have HR := Lib.hid (And.intro hrow (And.intro hup (And.intro hlen (And.intro hnext (And.intro hrow2 (And.intro hr hkj))))))
        have hwz := hup.size
        obtain ⟨L, hL⟩ : ∃ L, (l.drop k).reverse = L := ⟨_, rfl⟩
        rw [hL] at HR hrow2
        clear hs hse ey hrow hup hlen hnext hL hz hkj hr h0 hkN
        go_wp2_with (at_builtin; refine wpList_app _ rfl _ _ 22 rfl w.heap.size 32 i1 (.agg #[.int .i64 0, .int .i64 0, .int .u32 0]) 3 24 Tryz.underlying22 hi1 hy0 hy1 hy2 rfl (by decide) _ r (KSp.all L) rfl (own_upd HR.out.2.2.2.2.1 ((Upd.refl [] _).alloc _) (by simp)) _ 1 (KSp.enc s) rfl (sees_lit wr #[.int .i64 s.lo, .int .i64 s.hi, .int .u32 (s.id : Int)] 32 3 1 rfl (by decide)) (KSp.one s) (by unfold maxLen; omega) (by omega) (by simp; omega) ?_)
        intro A3 C3 W3 HP3
        have HP4 := Lib.hid HP3
        clear HP3 y0 y1 y2 hrow2
        go_wp2_with fail
        go_roundg j
        case measure => have := HR.out.2.2.2.2.2.2; have := HK.out; omega
        case rel =>
          have hu3 := ((Upd.refl _ wr).alloc (.cells #[.int .i64 s.lo, .int .i64 s.hi, .int .u32 (s.id : Int)] 32)).trans HP4.out.upd
          refine ⟨j, _, _, rfl, by omega, by omega, rfl, rfl, ?_, HR.out.2.1.trans' hu3 (fun y hy => .inr (own_ge HR.out.1 y hy))⟩
          rw [HR.out.2.2.2.1]
          unfold Kind.row
          rw [List.length_append, HR.out.2.2.1, KSp.all_app]
          exact HP4.out.own
      · have hk0 : k = 0 := by omega
        have hzd : decide ((0 : Int) ≤ z) = false := decide_eq_false (by omega)
        have hdr : (l.drop k).reverse = l.reverse := by rw [hk0, List.drop_zero]
        rw [hdr] at hrow
        obtain ⟨Ab, Cb, rfl⟩ := own_form hrow
        have hb1 := mayBuild _ l wr (by have := H.out.upd0 hup; unfold IsSps at this; rw [← HN.out.1] at this; exact this) HN.out.2.2 (by rw [HN.out.1]; omega)
        have hb2 := fun w' (hu : Upd [] wr w') => mayBuild _ l.reverse w' ((See.of_row hrow).upd0 hu) (fun s hs => HN.out.2.2 s (List.mem_reverse.1 hs)) (by rw [List.length_reverse, HN.out.1]; omega)
        rw [HN.out.1] at hb1
        rw [List.length_reverse, HN.out.1] at hb2 ⊢
        have HB1 := Lib.hid hb1
        have HB2 := Lib.hid hb2
        have HUP := Lib.hid hup
        clear hb1 hb2 hrow hup hdr hk0 hz h0 hkN
        go_wp2_with fail
        (with_reducible refine HB1.out.mono ?_)
        rintro e w1 ⟨u1, p1, F1, rfl, t1, f1⟩
        have HB3 := Lib.hid (HB2.out w1 u1)
        have HT1 := Lib.hid (And.intro u1 (And.intro t1 f1))
        clear u1 t1 f1
        go_wp2_with fail
        (with_reducible refine HB3.out.mono ?_)
        rintro e w2 ⟨u2, p2, F2, rfl, t2, f2⟩
        have heq : errS l.reverse = errS l := errS_perm l.reverse_perm
        have hke := keptS_perm l.reverse_perm
        have hlen : (keptS l.reverse).length = (keptS l).length := hke.length_eq
        rw [heq]
        have HST := Lib.hid (fun x => stabL_perm hke x)
        have HL1 := Lib.hid (mayLen (HT1.out.2.1.upd0 u2))
        have hl2' := mayLen t2
        rw [hlen] at hl2'
        have HL2 := Lib.hid hl2'
        obtain ⟨nl, hnl⟩ : ∃ n, (keptS l).length = n := ⟨_, rfl⟩
        rw [hnl] at HL1 HL2
        have hcc : (errS l != errS l) = false := by simp
        have hnn : ((nl : Int) != (nl : Int)) = false := by simp
        obtain ⟨c, hc⟩ : ∃ c, errS l = c := ⟨_, rfl⟩
        rw [hc] at hcc ⊢
        have HM1 := Lib.hid (HT1.out.2.1.upd0 u2)
        have HM2 := Lib.hid t2
        have HU2 := Lib.hid ((HUP.out.trans HT1.out.1).trans u2)
        clear heq hke hlen hl2' hnl hc u2 t2 f2
        go_wp2_with fail
        (with_reducible refine HL1.out.mono ?_)
        rintro e w3 ⟨rfl, rfl⟩
        go_wp2_with fail
        (with_reducible refine HL2.out.mono ?_)
        rintro e w3 ⟨rfl, rfl⟩
        obtain ⟨Q, hQ⟩ : ∃ Q : Nat, min M 20 = Q := ⟨_, rfl⟩
        have hQm : Value.int .i64 (min (M : Int) 20) = Value.int .i64 (Q : Int) := by
          have : min (M : Int) 20 = (Q : Int) := by omega
          rw [this]
        have hQb : Q ≤ M ∧ Q ≤ 20 := by omega
        obtain ⟨A4, C4, cut, cs, -⟩ := cut_to (P := Tryz.prog) (t := 23) Tryz.underlying23 hi0 hz1 (show Sees w 1 (.slice A2 M C2) M (KL.all lx) by have h3 := H2.out; unfold See at h3; rw [HN.out.2.1] at h3; exact h3) Q hQb.1
        have hsee : ∀ w', Upd [] w w' → See KL w' (.slice A4 Q C4) (lx.take Q) := fun w' hu => by
          have h3 := cs w' (by have h3 := H2.out.upd0 hu; unfold See at h3; rw [HN.out.2.1] at h3; exact h3)
          unfold See
          rw [KL.all_take, List.length_take, HN.out.2.1, Nat.min_eq_left hQb.1]
          exact h3
        have hQl : (lx.take Q).length = Q := by rw [List.length_take, HN.out.2.1, Nat.min_eq_left hQb.1]
        have HSEE := Lib.hid (And.intro hsee hQl)
        have hQ20 := hQb.2
        have HAW := Lib.hid (fun w' => awake08 w')
        clear cs hsee hQl hQ hQb
        go_wp2_with fail
        go_loopg [61] Q (fun m s61 wr => ∃ k : Nat, m + k = Q ∧ s61 = .int .i64 (k : Int) ∧ Upd [] w2 wr)
        case atStart => exact ⟨0, rfl, rfl, Upd.refl _ _⟩
        case round =>
          obtain ⟨k, hk, rfl, hup⟩ := hrel
          have k0 : (0 : Int) ≤ (k : Int) := Int.natCast_nonneg _
          have hkQ : k ≤ Q := by omega
          have HK := Lib.hid (And.intro hk hup)
          by_cases hlt : k < Q
          · obtain ⟨x, hx⟩ : ∃ x, (lx.take Q)[k]? = some x := ⟨_, List.getElem?_eq_getElem (by rw [HSEE.out.2]; exact hlt)⟩
            obtain ⟨g, o, rfl, -, -, ex⟩ := KL.at (HSEE.out.1 wr (HU2.out.trans hup)) hx
            obtain ⟨T1, hs1⟩ := mayStab (HM1.out.upd0 hup) x
            have hs2 := fun w' (hu : Upd [] wr w') => mayStab ((HM2.out.upd0 hup).upd0 hu) x
            have hbl : (stabL (keptS l) x).length ≤ 80 := by
              have h1 := stabL_len (keptS l) x
              have h2 := keptS_le l
              rw [HN.out.1] at h2
              omega
            have hseq := HST.out x
            obtain ⟨L, hL⟩ : ∃ L, stabL (keptS l) x = L := ⟨_, rfl⟩
            rw [hL] at hs1 hbl hseq
            simp only [hseq] at hs2
            have HS1 := Lib.hid hs1
            have HS2 := Lib.hid hs2
            have b1 : (k : Int) < (Q : Int) := by omega
            clear hx hs1 hs2 hL hseq hk hup
            go_wp2_with fail
            (with_reducible refine HS1.out.mono ?_)
            rintro e w5 ⟨A5, C5, rfl, r1, r2⟩
            obtain ⟨T2, hs2⟩ := HS2.out w5 r2
            have HS3 := Lib.hid hs2
            have HR := Lib.hid (And.intro r1 r2)
            clear hs2 r1 r2
            go_wp2_with fail
            (with_reducible refine HS3.out.mono ?_)
            rintro e w6 ⟨A6, C6, rfl, r3, r4⟩
            have hsm := sameIDsC _ _ L L w6 (See.of_row (own_upd HR.out.1 r4 (by simp))) (See.of_row r3) (by omega) (by omega)
            rw [decide_eq_true rfl] at hsm
            have HSM := Lib.hid hsm
            have HR2 := Lib.hid (HR.out.2.trans r4)
            clear hsm r3 r4
            go_wp2_with fail
            (with_reducible refine HSM.out.mono ?_)
            rintro e w7 ⟨rfl, u7⟩
            have HU7 := Lib.hid (HK.out.2.trans (HR2.out.trans u7))
            clear u7
            go_wp2_with fail
            go_roundg (Q - (k + 1))
            case measure => have := HK.out.1; omega
            case rel => exact ⟨k + 1, by have := HK.out.1; omega, by go_num, HU7.out⟩
          · have HAW2 := Lib.hid (HAW.out wr)
            clear hk hup
            go_wp2_with fail
            (with_reducible refine HAW2.out.mono ?_)
            rintro e w5 ⟨rfl, u5⟩
            have HU5 := Lib.hid ((HU2.out.trans HK.out.2).trans u5)
            clear u5
            go_wp2_with fail
            go_ret
            exact ⟨rfl, HU5.out⟩
end Go.Proofs.YtclbdegkfjedjaaGreat
