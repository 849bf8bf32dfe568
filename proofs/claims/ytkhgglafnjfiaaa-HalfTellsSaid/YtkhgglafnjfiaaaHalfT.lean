/- Half: All, Trees. -/
import Derived.Test.YtkhgglafnjfiaaaHalfG
namespace Go.Proofs.Ytkhgglafnjfiaaa
open Go.RowKit

set_option maxRecDepth 100000 in
set_option maxHeartbeats 1000000 in
theorem all22 (hv : Value) (F : List Nat) (S : HS) (w : World) (H : IsHalf w hv F S) (hn : ∀ y ∈ S.cs, y.2 < S.al.length) (hl : S.cs.length < 100000) :
    Calls Try.prog 42 #[hv] w fun e w' => ∃ A C, e = .returned (.slice A (live S.al S.cs).length C) ∧ KI.row w' w.heap.size (.slice A (live S.al S.cs).length C) (live S.al S.cs) ∧ Upd [] w w' := by
  obtain ⟨i1, hi1, hy0, hy1, hy2⟩ := info_parts info_int64
  have HH := Lib.hid H
  have HN := Lib.hid hn
  clear H hn
  go_enter Try.func42, Try.ntmps42
  go_wp2_with fail
  refine (none22 _ _ _ _ HH.out).mono ?_
  rintro e w' ⟨rfl, rfl⟩
  go_wp2_with fail
  refine (cells22 _ _ _ _ HH.out HN.out hl).mono ?_
  rintro e w1 ⟨A1, C1, rfl, hr1, hu1⟩
  have hDl := liv_len S.al S.cs
  have hlive : live S.al S.cs = (liv S.al S.cs).map (·.1) := rfl
  obtain ⟨D, hD⟩ : ∃ D, liv S.al S.cs = D := ⟨_, rfl⟩
  rw [hD] at hr1 hDl hlive ⊢
  have HLV := Lib.hid hlive
  obtain ⟨n, hn⟩ : ∃ n, D.length = n := ⟨_, rfl⟩
  rw [hn] at hr1 hDl ⊢
  have hn0 : n < 100000 := by omega
  have HD := Lib.hid hn
  have HR1 := Lib.hid hr1
  have HU1 := Lib.hid hu1
  clear hD hlive hn hr1 hu1 hDl
  go_wp2_with fail
  go_loopg [3, 11] n (fun q o i wx => ∃ k A3 C3, q + k = n ∧ i = .int .i64 (k : Int) ∧ o = .slice A3 ((D.take k).map (·.1)).length C3 ∧ KI.row wx w.heap.size (.slice A3 ((D.take k).map (·.1)).length C3) ((D.take k).map (·.1)) ∧ Cel.KI.row wx w.heap.size (.slice A1 n C1) D ∧ Upd [] w wx)
  case atStart => exact ⟨0, none, 0, rfl, rfl, rfl, World.ownsRow_nil _ _ _ _, by have := HR1.out; unfold Kind.row at this ⊢; exact this, HU1.out⟩
  case round =>
    obtain ⟨k, A3, C3, hk, rfl, rfl, hr3, hc3, hu3⟩ := hrel
    have hkm : k ≤ n := by omega
    obtain ⟨L, hL⟩ : ∃ L, (D.take k).map (·.1) = L := ⟨_, rfl⟩
    have hLl : L.length = k := by rw [← hL, List.length_map, List.length_take, HD.out]; omega
    rw [hL] at hr3 ⊢
    have hLb : L.length ≤ 100000 := by omega
    have HK := Lib.hid hk
    have HL := Lib.hid hL
    have HLl := Lib.hid hLl
    have HR3 := Lib.hid hr3
    have HC3 := Lib.hid hc3
    have HU3 := Lib.hid hu3
    clear hk hL hLl hr3 hc3 hu3
    by_cases hlt : k < n
    · have hin : Cel.Ints wr (.slice A1 n C1) D := by
        have := Cel.Ints.of_row HC3.out
        exact this
      obtain ⟨bb, oo, hA, hy1', hy2'⟩ := hin.cell (k := k) (by rw [HD.out]; exact hlt)
      subst hA
      have hkD : k < D.length := by rw [HD.out]; exact hlt
      obtain ⟨y, hy⟩ : ∃ y, D[k] = y := ⟨_, rfl⟩
      rw [hy] at hy1' hy2'
      obtain ⟨y1, y2⟩ := y
      dsimp only at hy1' hy2'
      have hnext : (D.take (k + 1)).map (·.1) = L ++ [y1] := by
        rw [List.take_succ_eq_append_getElem hkD, hy, List.map_append, HL.out]; rfl
      have HNX := Lib.hid hnext
      have b0 : (0 : Int) ≤ (k : Int) := Int.natCast_nonneg _
      have b1 : (k : Int) < (n : Int) := by omega
      clear hy hnext hin
      go_upto_region 7 with fail
      have hua : Upd [] wr (wr.alloc (.cells #[.int .i64 y1, .int .i64 (y2 : Int)] 99)) := (Upd.refl _ _).alloc _
      have hp0 : (wr.alloc (.cells #[.int .i64 y1, .int .i64 (y2 : Int)] 99)).cell? ⟨wr.heap.size, 0, none⟩ = some (.int .i64 y1) := by rw [World.cell?_alloc_at _ _ _ _ rfl]; rfl
      generalize (wr.alloc (.cells #[.int .i64 y1, .int .i64 (y2 : Int)] 99)) = w4 at *
      obtain ⟨p, hp⟩ : ∃ p, wr.heap.size = p := ⟨_, rfl⟩
      rw [hp] at hp0 ⊢
      have HUA := Lib.hid (HU3.out.trans hua)
      have HR4 := Lib.hid (own_upd HR3.out hua (by simp))
      have HC4 := Lib.hid (own_upd HC3.out hua (by simp))
      have HWS := Lib.hid ((HU3.out.trans hua).size)
      clear hp hua
      go_wp2_with (at_builtin; refine wpList_app _ rfl _ _ 22 rfl w.heap.size 2 i1 (.int .i64 0) 1 8 Try.underlying22 hi1 hy0 hy1 hy2 rfl (by decide) _ _ _ rfl ((HR4.out).alloc _) _ 1 [.int .i64 y1] rfl (sees_lit w4 #[.int .i64 y1] 2 1 1 rfl (by decide)) (by simp [Value.oneCell']) (by unfold maxLen; omega) (by omega) (by have := HWS.out; simp; omega) ?_)
      intro A9 C9 w9 HP9
      have hu49 : Upd (blk (.slice A3 L.length C3)) w4 w9 := ((Upd.refl _ _).alloc _).trans HP9.upd
      have hup9 : Upd [] w w9 := HUA.out.trans' hu49 (fun x hx => .inr (own_ge HR4.out x hx))
      have hc9 := own_upd HC4.out hu49 (own_apart HC4.out HR4.out (by decide))
      have hrow9 : KI.row w9 w.heap.size (.slice A9 (L.length + 1) C9) (L ++ [y1]) := by
        unfold Kind.row
        rw [Kind.all_app, List.length_append]
        exact HP9.own
      have HU9 := Lib.hid hup9
      have HR9 := Lib.hid hrow9
      have HC9 := Lib.hid hc9
      clear hup9 hrow9 HP9 hu49 hc9
      go_wp2_with fail
      go_roundg (n - (k + 1))
      case measure => have := HK.out; omega
      case rel =>
        refine ⟨k + 1, A9, C9, by have := HK.out; omega, by go_num, by rw [HNX.out, List.length_append]; rfl, ?_, HC9.out, HU9.out⟩
        rw [HNX.out, List.length_append]
        exact HR9.out
    · have hfull : L = D.map (·.1) := by rw [← HL.out, List.take_of_length_le (by rw [HD.out]; omega)]
      have HF := Lib.hid hfull
      clear hfull
      go_wp2_with fail
      go_ret
      rw [HLV.out, ← HF.out]
      exact ⟨A3, C3, rfl, HR3.out, HU3.out⟩
end Go.Proofs.Ytkhgglafnjfiaaa
