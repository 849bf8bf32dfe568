/- gridironlaw09.IvlTurned: the walk. -/
import Derived.Test.YtjpjlfcjkgmhdaaIvlW
import Derived.Test.YtjpjlfcjkgmhdaaIvlP
namespace Go.Proofs.Ytjpjlfcjkgmhdaa
open Go.RowKit

set_option maxRecDepth 100000 in
set_option maxHeartbeats 4000000 in
theorem turnedC (v : Value) (l : List Sp) (w : World) (h : IsSps w v l) (hid : ∀ s ∈ l, s.in64) (hl : l.length ≤ 1000) :
    Calls Try.prog 10 #[v] w fun e w' => ∃ A C, e = .returned (.slice A l.length C) ∧ KSp.row w' w.heap.size (.slice A l.length C) (l.map turnS) ∧ Upd [] w w' := by
  obtain ⟨A, C, rfl⟩ := h.form
  obtain ⟨i1, hi1, hy0, hy1, hy2⟩ := info_parts infoSpanD
  obtain ⟨N, hN⟩ : ∃ N, l.length = N := ⟨_, rfl⟩
  rw [hN] at h hl ⊢
  have n0 : (0 : Int) ≤ (N : Int) := Int.natCast_nonneg _
  have n1 : (N : Int) ≤ 1000 := by omega
  have H := Lib.hid h
  have HN := Lib.hid (And.intro hN hid)
  clear h hid hN
  go_enter Try.func10, Try.ntmps10
  go_wp2_with fail
  go_loopg [3, 8] N (fun m s3 s8 wr => ∃ (k : Nat) (vo : Value), m + k = N ∧ s3 = vo ∧ s8 = .int .i64 (k : Int) ∧ KSp.row wr w.heap.size vo ((l.take k).map turnS) ∧ Upd [] w wr)
  case atStart => exact ⟨0, _, rfl, rfl, rfl, World.ownsRow_nil _ _ _ _, Upd.refl _ _⟩
  case round =>
    obtain ⟨k, vo, hk, rfl, rfl, hrow, hup⟩ := hrel
    have k0 : (0 : Int) ≤ (k : Int) := Int.natCast_nonneg _
    have hkN : k ≤ N := by omega
    have hlk : ((l.take k).map turnS).length = k := by rw [List.length_map, List.length_take, HN.out.1]; omega
    have HK := Lib.hid (And.intro hk (And.intro hrow (And.intro hup hlk)))
    clear hk
    by_cases hlt : k < N
    · obtain ⟨s, hs⟩ : ∃ s, l[k]? = some s := ⟨_, List.getElem?_eq_getElem (by rw [HN.out.1]; exact hlt)⟩
      have hse : See KSp wr (.slice A l.length C) l := by
        have := H.out.upd0 hup
        rw [HN.out.1]; exact this
      obtain ⟨g, o, rfl, -, -, ey⟩ := hse.at hs
      have y0 : wr.cell? ⟨g, o + k * 3, none⟩ = some (.int .i64 s.lo) := ey 0 _ rfl
      have y1 : wr.cell? ⟨g, o + k * 3 + 1, none⟩ = some (.int .i64 s.hi) := ey 1 _ rfl
      have y2 : wr.cell? ⟨g, o + k * 3 + 2, none⟩ = some (.int .u32 (s.id : Int)) := ey 2 _ rfl
      have b1 : (k : Int) < (N : Int) := by omega
      have hin := HN.out.2 s (List.mem_of_getElem? hs)
      unfold Sp.in64 at hin
      obtain ⟨⟨c0, c1⟩, ⟨c2, c3⟩, -⟩ := hin
      have hrow2 := hrow
      unfold Kind.row at hrow2
      rw [hlk] at hrow2
      have hnx : (l.take (k + 1)).map turnS = (l.take k).map turnS ++ [turnS s] := by
        obtain ⟨h1, h2⟩ := List.getElem?_eq_some_iff.1 hs
        rw [List.take_succ_eq_append_getElem h1, h2, List.map_append]
        rfl
      have hwz := hup.size
      obtain ⟨L, hL⟩ : ∃ L, (l.take k).map turnS = L := ⟨_, rfl⟩
      rw [hL] at hrow2 hnx hlk
      have HST := Lib.hid (And.intro hrow2 (And.intro hnx (And.intro hlk hup)))
      clear hs hse ey hrow hup hlk hnx hL hrow2
      obtain ⟨wl, hwl⟩ : ∃ wl : World, wl = wr := ⟨_, rfl⟩
      subst hwl
      go_upto_region 5 with fail
      have hu2 : Upd [] wl (wl.alloc (.cells #[.int .i64 s.lo, .int .i64 s.hi, .int .u32 (s.id : Int)] 42)) := (Upd.refl _ _).alloc _
      have d0 : (wl.alloc (.cells #[.int .i64 s.lo, .int .i64 s.hi, .int .u32 (s.id : Int)] 42)).cell? ⟨wl.heap.size, 0, none⟩ = some (.int .i64 s.lo) := by rw [World.cell?_alloc_at _ _ _ _ rfl]; rfl
      have d1 : (wl.alloc (.cells #[.int .i64 s.lo, .int .i64 s.hi, .int .u32 (s.id : Int)] 42)).cell? ⟨wl.heap.size, 1, none⟩ = some (.int .i64 s.hi) := by rw [World.cell?_alloc_at _ _ _ _ rfl]; rfl
      have d2 : (wl.alloc (.cells #[.int .i64 s.lo, .int .i64 s.hi, .int .u32 (s.id : Int)] 42)).cell? ⟨wl.heap.size, 2, none⟩ = some (.int .u32 (s.id : Int)) := by rw [World.cell?_alloc_at _ _ _ _ rfl]; rfl
      generalize wl.alloc (.cells #[.int .i64 s.lo, .int .i64 s.hi, .int .u32 (s.id : Int)] 42) = W2 at hu2 d0 d1 d2 ⊢
      have hrow2 := own_upd HST.out.1 hu2 (by simp)
      have HU2 := Lib.hid (And.intro hrow2 hu2)
      have hwz2 : w.heap.size ≤ W2.heap.size := Nat.le_trans hwz hu2.size
      clear hrow2 hu2 y0 y1 y2
      go_wp2_with (at_builtin; refine wpList_app _ rfl _ _ 22 rfl w.heap.size 42 i1 (.agg #[.int .i64 0, .int .i64 0, .int .u32 0]) 3 24 Try.underlying22 hi1 hy0 hy1 hy2 rfl (by decide) _ k (KSp.all L) rfl (own_upd HU2.out.1 ((Upd.refl [] _).alloc _) (by simp)) _ 1 (KSp.enc (turnS s)) rfl (sees_lit W2 #[.int .i64 (-1 - s.hi), .int .i64 (-1 - s.lo), .int .u32 (s.id : Int)] 42 3 1 rfl (by decide)) (KSp.one (turnS s)) (by unfold maxLen; omega) (by omega) (by simp; omega) ?_)
      intro A3 C3 W3 HP3
      have HP4 := Lib.hid HP3
      clear HP3 d0 d1 d2 c0 c1 c2 c3
      go_wp2_with fail
      go_roundg (N - (k + 1))
      case measure => have := HK.out.1; omega
      case rel =>
        have hu3 := ((Upd.refl _ W2).alloc (.cells #[.int .i64 (-1 - s.hi), .int .i64 (-1 - s.lo), .int .u32 (s.id : Int)] 42)).trans HP4.out.upd
        refine ⟨k + 1, .slice A3 (k + 1) C3, by have := HK.out.1; omega, rfl, by go_num, ?_, (HST.out.2.2.2.trans HU2.out.2).trans' hu3 (fun y hy => .inr (own_ge HST.out.1 y hy))⟩
        rw [HST.out.2.1]
        unfold Kind.row
        rw [List.length_append, HST.out.2.2.1, KSp.all_app]
        exact HP4.out.own
    · have hkN2 : k = N := by omega
      have hall : l.take k = l := by rw [hkN2, ← HN.out.1]; exact List.take_length
      rw [hall] at hrow
      rw [hall] at hlk
      obtain ⟨Ab, Cb, rfl⟩ := own_form hrow
      rw [List.length_map, HN.out.1] at hrow ⊢
      have HF := Lib.hid (And.intro hrow hup)
      clear hrow hup hkN2 hall hlk
      go_wp2_with fail
      go_ret
      exact ⟨Ab, Cb, rfl, HF.out.1, HF.out.2⟩

set_option maxRecDepth 100000 in
set_option maxHeartbeats 8000000 in
theorem ivlTurned_walk (v : Value) (l : List Sp) (lo hi : Int) (w : World) (h : IsSps w v l) (hid : ∀ s ∈ l, s.in64) (hl : l.length ≤ maxLen) (g1 : -9223372036854775808 ≤ lo ∧ lo ≤ 9223372036854775807) (g2 : -9223372036854775808 ≤ hi ∧ hi ≤ 9223372036854775807) :
    Calls Try.prog 3 #[v, .int .i64 lo, .int .i64 hi] w fun e w' => e = .returned (.bool true) ∧ Upd [] w w' := by
  obtain ⟨A, C, rfl⟩ := h.form
  obtain ⟨N, hN⟩ : ∃ N, l.length = N := ⟨_, rfl⟩
  rw [hN] at h hl ⊢
  unfold maxLen at hl
  have n0 : (0 : Int) ≤ (N : Int) := Int.natCast_nonneg _
  have hid2 : ∀ s ∈ l, s.id < 4294967296 := fun s hs => (hid s hs).2.2
  by_cases hbig : 80 < N
  · have hb : decide ((80 : Int) < (N : Int)) = true := decide_eq_true (by omega)
    have HAW := Lib.hid (awake09 w)
    clear h hid hid2 hbig g1 g2
    go_enter Try.func3, Try.ntmps3
    go_wp2_with fail
    (with_reducible refine HAW.out.mono ?_)
    rintro e w1 ⟨rfl, u1⟩
    go_wp2_with fail
    go_ret
    exact ⟨rfl, u1⟩
  · have hb : decide ((80 : Int) < (N : Int)) = false := decide_eq_false (by omega)
    have hN80 : N ≤ 80 := by omega
    have hbd := mayVBuild _ l w (by rw [← hN] at h; exact h) hid2 (by omega)
    have htu := fun w' (hu : Upd [] w w') => turnedC (.slice A N C) l w' (h.upd0 hu) hid (by omega)
    have hids : ∀ s ∈ l.map turnS, s.id < 4294967296 := fun s hs => by
      obtain ⟨t, ht, rfl⟩ := List.mem_map.1 hs
      exact hid2 t ht
    have hbt := fun v w' (hs : See KSp w' v (l.map turnS)) => mayVBuild v _ w' hs hids (by rw [List.length_map]; omega)
    unfold MayVPost at hbd hbt
    simp only [errS_turn, keptS_turn, List.length_map] at hbt
    simp only [hN] at hbd hbt htu
    obtain ⟨cE, hcE⟩ : ∃ c, errS l = c := ⟨_, rfl⟩
    simp only [hcE] at hbd hbt
    have hkl := keptS_le l
    rw [hN] at hkl
    obtain ⟨S, hS⟩ : ∃ S, keptS l = S := ⟨_, rfl⟩
    simp only [hS] at hbd hbt hkl
    have hnn : (cE != cE) = false := by simp
    have hm1 := meetL_len S lo hi
    have hm2 := stabL_len S lo
    have HB := Lib.hid hbd
    have HT := Lib.hid htu
    have HBT := Lib.hid hbt
    have HAW := Lib.hid (fun w' => awake09 w')
    have HL := Lib.hid (And.intro hm1 (And.intro hm2 hkl))
    obtain ⟨q1, q2⟩ := g1
    obtain ⟨q3, q4⟩ := g2
    clear h hid hid2 hbig hN hbd htu hids hbt hcE hkl hS hm1 hm2
    go_enter Try.func3, Try.ntmps3
    go_wp2_with fail
    (with_reducible refine HB.out.mono ?_)
    rintro e w1 ⟨u1, p1, F1, rfl, t1, -, -⟩
    have HT1 := Lib.hid (HT.out w1 u1)
    have HV1 := Lib.hid (And.intro t1 u1)
    clear u1 t1
    go_wp2_with fail
    (with_reducible refine HT1.out.mono ?_)
    rintro e w2 ⟨A2, C2, rfl, r2, u2⟩
    have HBT2 := Lib.hid (HBT.out _ w2 (by have := See.of_row r2; exact this))
    have HU2 := Lib.hid u2
    clear r2 u2
    go_wp2_with fail
    (with_reducible refine HBT2.out.mono ?_)
    rintro e w3 ⟨u3, p3, F3, rfl, t3, -, -⟩
    have hu3 := HU2.out.trans u3
    have hv1 := HV1.out.1.upd0 hu3
    have HU3 := Lib.hid (HV1.out.2.trans hu3)
    have hm1 := mayVMeet hv1 lo hi
    have hm2 := fun w' (hu : Upd [] w3 w') => mayVMeet (t3.upd0 hu) (-1 - hi) (-1 - lo)
    have hs1 := fun w' (hu : Upd [] w3 w') => mayVStab (hv1.upd0 hu) lo
    have hs2 := fun w' (hu : Upd [] w3 w') => mayVStab (t3.upd0 hu) (-1 - lo)
    simp only [meetL_turn, stabL_turn] at hm2 hs2
    obtain ⟨K, hK⟩ : ∃ L, meetL S lo hi = L := ⟨_, rfl⟩
    obtain ⟨L, hL⟩ : ∃ L, stabL S lo = L := ⟨_, rfl⟩
    simp only [hK] at hm1 hm2
    simp only [hL] at hs1 hs2
    have hKl : K.length ≤ 1000 := by have := HL.out; rw [hK] at this; omega
    have hLl : L.length ≤ 1000 := by have := HL.out; rw [hL] at this; omega
    have HM1 := Lib.hid hm1
    have HM2 := Lib.hid hm2
    have HS1 := Lib.hid hs1
    have HS2 := Lib.hid hs2
    have HLL := Lib.hid (And.intro hKl hLl)
    clear hu3 hv1 u3 t3 hm1 hm2 hs1 hs2 hK hL hKl hLl
    go_wp2_with fail
    (with_reducible refine HM1.out.mono ?_)
    rintro e w5 ⟨z, ⟨A5, C5, rfl, r1, r2⟩, -, -⟩
    have HM5 := Lib.hid (HM2.out w5 r2)
    have HR := Lib.hid (And.intro r1 r2)
    clear r1 r2
    go_wp2_with fail
    (with_reducible refine HM5.out.mono ?_)
    rintro e w6 ⟨z2, ⟨A6, C6, rfl, r3, r4⟩, -, -⟩
    have HS5 := Lib.hid (HS1.out w6 (HR.out.2.trans r4))
    have HR2 := Lib.hid (And.intro r3 (And.intro r4 (HR.out.2.trans r4)))
    clear r3 r4
    go_wp2_with fail
    (with_reducible refine HS5.out.mono ?_)
    rintro e w7 ⟨z3, ⟨A7, C7, rfl, r5, r6⟩, -, -⟩
    have HS6 := Lib.hid (HS2.out w7 (HR2.out.2.2.trans r6))
    have HR3 := Lib.hid (And.intro r5 (And.intro r6 (HR2.out.2.2.trans r6)))
    clear r5 r6
    go_wp2_with fail
    (with_reducible refine HS6.out.mono ?_)
    rintro e w8 ⟨z4, ⟨A8, C8, rfl, r7, r8⟩, -, -⟩
    have hsm := sameVC _ _ K K w8 (See.of_row (own_upd (own_upd (own_upd HR.out.1 HR2.out.2.1 (by simp)) HR3.out.2.1 (by simp)) r8 (by simp))) (See.of_row (own_upd (own_upd HR2.out.1 HR3.out.2.1 (by simp)) r8 (by simp))) (by have := HLL.out; omega) (by have := HLL.out; omega)
    rw [decide_eq_true rfl] at hsm
    have HSM := Lib.hid hsm
    have HR4 := Lib.hid (And.intro r7 (And.intro r8 (HR3.out.2.2.trans r8)))
    clear hsm r7 r8
    go_wp2_with fail
    (with_reducible refine HSM.out.mono ?_)
    rintro e w9 ⟨rfl, u9⟩
    have hsm := sameVC _ _ L L w9 (See.of_row (own_upd (own_upd HR3.out.1 HR4.out.2.1 (by simp)) u9 (by simp))) (See.of_row (own_upd HR4.out.1 u9 (by simp))) (by have := HLL.out; omega) (by have := HLL.out; omega)
    rw [decide_eq_true rfl] at hsm
    have HSM2 := Lib.hid hsm
    have HR5 := Lib.hid (HU3.out.trans (HR4.out.2.2.trans u9))
    clear hsm u9
    go_wp2_with fail
    (with_reducible refine HSM2.out.mono ?_)
    rintro e w10 ⟨rfl, u10⟩
    have HAW2 := Lib.hid (HAW.out w10)
    have HU10 := Lib.hid (HR5.out.trans u10)
    clear u10
    go_wp2_with fail
    (with_reducible refine HAW2.out.mono ?_)
    rintro e w11 ⟨rfl, u11⟩
    have HU11 := Lib.hid (HU10.out.trans u11)
    clear u11
    go_wp2_with fail
    go_ret
    exact ⟨rfl, HU11.out⟩
end Go.Proofs.Ytjpjlfcjkgmhdaa
