/- Half: none, Len, Stored, Work, cells. -/
import Derived.Test.YtkhgglafnjfiaaaHalfF
import Derived.Test.YtkhgglafnjfiaaaAll20
namespace Go.Proofs.Ytkhgglafnjfiaaa
open Go.RowKit

set_option maxRecDepth 100000 in
set_option maxHeartbeats 400000 in
theorem none22 (hv : Value) (F : List Nat) (S : HS) (w : World) (H : IsHalf w hv F S) :
    Calls Try.prog 62 #[hv] w fun e w' => e = .returned (.bool false) ∧ w = w' := by
  obtain ⟨h, cb, mb, tv, av, lvv, ps, Fc, Fs, rfl, H, rfl⟩ := H
  obtain ⟨_, _, hc2, _⟩ := H.cell
  clear H
  go_enter Try.func62, Try.ntmps62
  go_wp2
  go_ret
  exact ⟨rfl, rfl⟩

set_option maxRecDepth 100000 in
set_option maxHeartbeats 400000 in
theorem len22 (hv : Value) (F : List Nat) (S : HS) (w : World) (H : IsHalf w hv F S) :
    Calls Try.prog 48 #[hv] w fun e w' => e = .returned (.int .i64 S.mp.length) ∧ w = w' := by
  have HH := Lib.hid H
  obtain ⟨h, cb, mb, tv, av, lvv, ps, Fc, Fs, rfl, H, rfl⟩ := H
  obtain ⟨_, _, _, _, _, _, hc6, _⟩ := H.cell
  have hml := fun ty => H.mapp.len ty
  clear H
  go_enter Try.func48, Try.ntmps48
  go_wp2_with fail
  refine (none22 _ _ _ _ HH.out).mono ?_
  rintro e w' ⟨rfl, rfl⟩
  go_wp2_with fail
  go_ret
  exact ⟨rfl, rfl⟩

set_option maxRecDepth 100000 in
set_option maxHeartbeats 400000 in
theorem stored22 (hv : Value) (F : List Nat) (S : HS) (w : World) (H : IsHalf w hv F S) :
    Calls Try.prog 49 #[hv] w fun e w' => e = .returned (.int .i64 S.cs.length) ∧ w = w' := by
  have HH := Lib.hid H
  obtain ⟨h, cb, mb, tv, av, lvv, ps, Fc, Fs, rfl, H, rfl⟩ := H
  obtain ⟨_, _, hc2, _⟩ := H.cell
  have HC := Lib.hid H.car
  clear H
  go_enter Try.func49, Try.ntmps49
  go_wp2_with fail
  refine (none22 _ _ _ _ HH.out).mono ?_
  rintro e w' ⟨rfl, rfl⟩
  go_wp2_with fail
  refine (Cel.lenI _ _ _ _ _ _ HC.out).mono ?_
  rintro e w' ⟨rfl, rfl⟩
  go_wp2_with fail
  go_ret
  exact ⟨rfl, rfl⟩

set_option maxRecDepth 100000 in
set_option maxHeartbeats 400000 in
theorem work22 (hv : Value) (F : List Nat) (S : HS) (w : World) (H : IsHalf w hv F S) :
    Calls Try.prog 50 #[hv] w fun e w' => e = .returned (.int .i64 S.wk) ∧ w = w' := by
  have HH := Lib.hid H
  obtain ⟨h, cb, mb, tv, av, lvv, ps, Fc, Fs, rfl, H, rfl⟩ := H
  obtain ⟨_, _, hc2, _⟩ := H.cell
  have HC := Lib.hid H.car
  clear H
  go_enter Try.func50, Try.ntmps50
  go_wp2_with fail
  refine (none22 _ _ _ _ HH.out).mono ?_
  rintro e w' ⟨rfl, rfl⟩
  go_wp2_with fail
  refine (Cel.workI _ _ _ _ _ _ HC.out).mono ?_
  rintro e w' ⟨rfl, rfl⟩
  go_wp2_with fail
  go_ret
  exact ⟨rfl, rfl⟩

theorem liv_len (al : List Bool) (b : List (Int × Nat)) : (liv al b).length ≤ b.length := List.length_filter_le _ _

theorem liv_step (al : List Bool) (b : List (Int × Nat)) (k : Nat) (hk : k < b.length) : liv al (b.take (k + 1)) = if al.getD b[k].2 false then liv al (b.take k) ++ [b[k]] else liv al (b.take k) := by
  rw [List.take_succ_eq_append_getElem hk, liv_app]
  unfold liv
  rw [List.filter_cons, List.filter_nil]
  split
  · rfl
  · rw [List.append_nil]

/-- The carry of a Half, one bucket. -/
theorem bucket22 (w wr : World) (h cb mb : Nat) (tv av lvv : Value) (ps : List Value) (Fc : List Nat) (Fs : List (List Nat)) (S : HS) (H : HalfAt w h cb mb tv av lvv ps Fc Fs S) (hu : Upd [] w wr) (i : Nat) (hi : i < bitsN S.cs.length) (hl : S.cs.length < 1000000) :
    Calls Try.prog 69 #[.pointer (some ⟨cb, 0, none⟩), .int .i64 i] wr fun e w' => ∃ A C, e = .returned (.slice A (bucketOf S.cs i).length C) ∧ Cel.KI.row w' wr.heap.size (.slice A (bucketOf S.cs i).length C) (bucketOf S.cs i) ∧ Upd [] wr w' :=
  Cel.bucketI_in cb Fc i _ _ _ _ wr (H.car.upd hu (by simp)) (setB_get _ _ hi) (by
    rw [bucketOf_len]
    split
    · rename_i hb
      have := Nat.ge_two_pow_of_testBit hb
      omega
    · omega)

theorem levels22 (w wr : World) (h cb mb : Nat) (tv av lvv : Value) (ps : List Value) (Fc : List Nat) (Fs : List (List Nat)) (S : HS) (H : HalfAt w h cb mb tv av lvv ps Fc Fs S) (hu : Upd [] w wr) :
    Calls Try.prog 68 #[.pointer (some ⟨cb, 0, none⟩)] wr fun e w' => e = .returned (.int .i64 (bitsN S.cs.length)) ∧ wr = w' := by
  have := Cel.levelsI cb Fc _ _ _ wr (H.car.upd hu (by simp))
  rw [setB_len] at this
  exact this

set_option maxRecDepth 100000 in
set_option maxHeartbeats 1000000 in
theorem cells22 (hv : Value) (F : List Nat) (S : HS) (w : World) (H : IsHalf w hv F S) (hn : ∀ y ∈ S.cs, y.2 < S.al.length) (hl : S.cs.length < 100000) :
    Calls Try.prog 67 #[hv] w fun e w' => ∃ A C, e = .returned (.slice A (liv S.al S.cs).length C) ∧ Cel.KI.row w' w.heap.size (.slice A (liv S.al S.cs).length C) (liv S.al S.cs) ∧ Upd [] w w' := by
  obtain ⟨h, cb, mb, tv, av, lvv, ps, Fc, Fs, rfl, H, rfl⟩ := H
  obtain ⟨i1, hi1, hy0, hy1, hy2⟩ := info_parts Cel.info_int64
  obtain ⟨_, _, hc2, _, hc4, _⟩ := H.cell
  obtain ⟨Aa, Ca, hav⟩ : ∃ A C, av = .slice A S.al.length C := own_form H.arow
  subst hav
  have hhw : h < w.heap.size := lt_of_block H.head
  have hbt := bitsN_le S.cs.length 20 (by omega)
  obtain ⟨B, hB⟩ : ∃ B, bitsN S.cs.length = B := ⟨_, rfl⟩
  rw [hB] at hbt
  have HB := Lib.hid hB
  have HH := Lib.hid H
  have HN := Lib.hid hn
  clear hB H hn
  go_enter Try.func67, Try.ntmps67
  go_wp2_with fail
  refine (levels22 w w h cb mb _ _ _ _ _ _ S HH.out (Upd.refl _ _)).mono ?_
  rintro e w' ⟨rfl, rfl⟩
  rw [HB.out]
  go_wp2_with fail
  go_loopg [3, 4] B (fun m o i wr => m ≤ B ∧ i = .int .i64 ((m : Int) - 1) ∧ ∃ A C, o = .slice A (liv S.al (S.cs.take (S.cs.length / 2 ^ m * 2 ^ m))).length C ∧ Cel.KI.row wr w.heap.size (.slice A (liv S.al (S.cs.take (S.cs.length / 2 ^ m * 2 ^ m))).length C) (liv S.al (S.cs.take (S.cs.length / 2 ^ m * 2 ^ m))) ∧ Upd [] w wr)
  case atStart =>
    have h2 : S.cs.length / 2 ^ B * 2 ^ B = 0 := by rw [← HB.out, Nat.div_eq_of_lt (bitsN_lt S.cs.length), Nat.zero_mul]
    refine ⟨Nat.le_refl _, rfl, none, 0, by rw [h2]; rfl, ?_, Upd.refl _ _⟩
    rw [h2, List.take_zero]
    exact World.ownsRow_nil _ _ _ _
  case round =>
    obtain ⟨hm, rfl, A, C, rfl, hrow, hu⟩ := hrel
    obtain ⟨T, hT⟩ : ∃ T, liv S.al (S.cs.take (S.cs.length / 2 ^ gk * 2 ^ gk)) = T := ⟨_, rfl⟩
    have hTl : T.length ≤ S.cs.length := by
      rw [← hT]
      exact Nat.le_trans (liv_len _ _) (by rw [List.length_take]; omega)
    rw [hT] at hrow ⊢
    have HR := Lib.hid hrow
    have HU := Lib.hid hu
    have HT := Lib.hid hT
    clear hT hrow hu
    by_cases h0 : gk = 0
    · subst h0
      go_wp2_with fail
      go_ret
      have hTT : T = liv S.al S.cs := by rw [← HT.out]; simp
      subst hTT
      exact ⟨A, C, rfl, HR.out, HU.out⟩
    · obtain ⟨m, rfl⟩ : ∃ m, gk = m + 1 := ⟨gk - 1, by omega⟩
      have e8 : (((m + 1 : Nat) : Int) - 1) = (m : Int) := by omega
      rw [e8]
      clear e8
      have hc2' := (HU.out.cell (p := ⟨h, 2, none⟩) hhw (by simp)).trans hc2
      go_wp2_with fail
      refine (bucket22 w wr h cb mb _ _ _ _ _ _ S HH.out HU.out m (by rw [HB.out]; omega) (by omega)).mono ?_
      rintro e w2 ⟨A2, C2, rfl, hr2, hu2⟩
      obtain ⟨G, hG⟩ : ∃ G, bucketOf S.cs m = G := ⟨_, rfl⟩
      have hGl : G.length ≤ S.cs.length := by
        rw [← hG, bucketOf_len]
        split
        · rename_i hb
          exact Nat.ge_two_pow_of_testBit hb
        · omega
      have hGn : ∀ y ∈ G, y.2 < S.al.length := fun y hy => HN.out y (bucket_mem (by rw [hG]; exact hy))
      rw [hG] at hr2 ⊢
      obtain ⟨ng, hng⟩ : ∃ ng, G.length = ng := ⟨_, rfl⟩
      rw [hng] at hr2 hGl ⊢
      have HG := Lib.hid hG
      have HNG := Lib.hid hng
      have HGN := Lib.hid hGn
      have hrl := own_lt HR.out
      have hdis : ∀ x ∈ blk (.slice A T.length C), x ∉ blk (.slice A2 ng C2) := fun x hx hc => by
        have h1 := hrl x hx
        have h2 := own_ge hr2 x hc
        omega
      have hblt := own_lt hr2
      have HBLT := Lib.hid hblt
      have HDIS := Lib.hid hdis
      have HR2 := Lib.hid (Cel.Ints.of_row hr2)
      have HRT := Lib.hid (own_upd HR.out hu2 (by simp))
      have HU2 := Lib.hid (HU.out.trans hu2)
      clear hG hng hGn hr2 hu2 hc2' hrl hdis hblt
      go_wp2_with fail
      go_loopg [3, 24] ng (fun q o i wx => ∃ k A3 C3, q + k = ng ∧ i = .int .i64 (k : Int) ∧ o = .slice A3 (T ++ liv S.al (G.take k)).length C3 ∧ Cel.KI.row wx w.heap.size (.slice A3 (T ++ liv S.al (G.take k)).length C3) (T ++ liv S.al (G.take k)) ∧ Cel.Ints wx (.slice A2 ng C2) G ∧ (∀ x ∈ blk (.slice A3 (T ++ liv S.al (G.take k)).length C3), x ∉ blk (.slice A2 ng C2)) ∧ Upd [] w wx ∧ w2.heap.size ≤ wx.heap.size)
      case atStart =>
        have e : T ++ liv S.al (G.take 0) = T := by simp [liv]
        refine ⟨0, A, C, rfl, rfl, by rw [e], ?_, HR2.out, ?_, HU2.out, Nat.le_refl _⟩
        · rw [e]
          exact HRT.out
        · rw [e]
          exact HDIS.out
      case round =>
        obtain ⟨k, A3, C3, hk, rfl, rfl, hr3, hin3, hds3, hu3, hsz3⟩ := hrel
        have hkm : k ≤ ng := by omega
        obtain ⟨L, hL⟩ : ∃ L, T ++ liv S.al (G.take k) = L := ⟨_, rfl⟩
        have hLl : L.length ≤ S.cs.length + k := by
          rw [← hL, List.length_append]
          have := liv_len S.al (G.take k)
          rw [List.length_take] at this
          omega
        rw [hL] at hr3 hds3 ⊢
        have HI3 := Lib.hid hin3
        have HD3 := Lib.hid hds3
        have HS3 := Lib.hid hsz3
        have HK := Lib.hid hk
        have HL := Lib.hid hL
        have HR3 := Lib.hid hr3
        have HU3 := Lib.hid hu3
        clear hk hL hr3 hu3 hin3 hds3 hsz3
        by_cases hlt : k < ng
        · obtain ⟨bb, oo, hA, hy1', hy2'⟩ := HI3.out.cell (k := k) (by rw [HNG.out]; exact hlt)
          subst hA
          have hkG : k < G.length := by rw [HNG.out]; exact hlt
          have hst := liv_step S.al G k hkG
          obtain ⟨y, hy⟩ : ∃ y, G[k] = y := ⟨_, rfl⟩
          have hyn := HGN.out G[k] (List.getElem_mem _)
          rw [hy] at hy1' hy2' hyn hst
          obtain ⟨y1, y2⟩ := y
          dsimp only at hy1' hy2' hyn hst
          obtain ⟨qa, hAa, hqa1, _, _, hqas⟩ := own_at HH.out.arow hyn (u := .bool (S.al[y2])) (by simp [hyn])
          subst hAa
          have hcond : S.al.getD y2 false = S.al[y2] := by simp [List.getD, hyn]
          obtain ⟨c, hc⟩ : ∃ c, S.al[y2] = c := ⟨_, rfl⟩
          rw [hc] at hqa1 hcond
          rw [hcond] at hst
          have huw := HU3.out
          have hc4' := (huw.cell (p := ⟨h, 4, none⟩) hhw (by simp)).trans hc4
          have hqa1' := (huw.cell (p := ⟨qa, y2, none⟩) hqas (by simp)).trans hqa1
          have hhx : h < wr.heap.size := Nat.lt_of_lt_of_le hhw huw.size
          have hqx : qa < wr.heap.size := Nat.lt_of_lt_of_le hqas huw.size
          have HST := Lib.hid hst
          have HUW := Lib.hid huw
          clear hy hcond hc hst huw hc4 hqa1
          have b0 : (0 : Int) ≤ (k : Int) := Int.natCast_nonneg _
          have b1 : (k : Int) < (ng : Int) := by omega
          have b2 : (0 : Int) ≤ (y2 : Int) := Int.natCast_nonneg _
          have b3 : (y2 : Int) < (S.al.length : Int) := by omega
          go_upto_region 8 with fail
          obtain ⟨p, hp⟩ : ∃ p, wr.heap.size = p := ⟨_, rfl⟩
          have hua : Upd [] wr (wr.alloc (.cells #[.int .i64 y1, .int .i64 (y2 : Int)] 99)) := (Upd.refl _ _).alloc _
          have hp0 : (wr.alloc (.cells #[.int .i64 y1, .int .i64 (y2 : Int)] 99)).cell? ⟨wr.heap.size, 0, none⟩ = some (.int .i64 y1) := by rw [World.cell?_alloc_at _ _ _ _ rfl]; rfl
          have hp1 : (wr.alloc (.cells #[.int .i64 y1, .int .i64 (y2 : Int)] 99)).cell? ⟨wr.heap.size, 1, none⟩ = some (.int .i64 (y2 : Int)) := by rw [World.cell?_alloc_at _ _ _ _ rfl]; rfl
          generalize (wr.alloc (.cells #[.int .i64 y1, .int .i64 (y2 : Int)] 99)) = w4 at *
          have hc4'' := (hua.cell (p := ⟨h, 4, none⟩) hhx (by simp)).trans hc4'
          have hqa1'' := (hua.cell (p := ⟨qa, y2, none⟩) hqx (by simp)).trans hqa1'
          rw [hp] at hp0 hp1 ⊢
          have HUA := Lib.hid (HU3.out.trans hua)
          have HR4 := Lib.hid (own_upd HR3.out hua (by simp))
          have HWS := Lib.hid ((HU3.out.trans hua).size)
          have HI4 := Lib.hid (HI3.out.upd0 hua)
          have HS4 := Lib.hid (Nat.le_trans HS3.out hua.size)
          clear hp hua hc4' hqa1'
          cases c
          · go_quiet (fail)
            go_wp2_with fail
            go_roundg (ng - (k + 1))
            case measure => have := HK.out; omega
            case rel =>
              have h9 := HST.out
              rw [if_neg (by simp)] at h9
              refine ⟨k + 1, A3, C3, by have := HK.out; omega, by go_num, by rw [h9, HL.out], ?_, HI4.out, ?_, HUA.out.drewN _, HS4.out⟩
              · rw [h9, HL.out]
                exact HR4.out
              · rw [h9, HL.out]
                exact HD3.out
          · go_quiet (fail)
            go_wp2_with (at_builtin; refine wpList_app _ rfl _ _ 100 rfl w.heap.size 99 i1 (.agg #[.int .i64 0, .int .i64 0]) 2 16 Try.underlying100 hi1 hy0 hy1 hy2 rfl (by decide) _ _ _ rfl ((own_upd (HR4.out) ((Upd.refl [] w4).drewN nq) (by simp)).alloc _) _ 1 [.int .i64 y1, .int .i64 (y2 : Int)] rfl (sees_lit (w4.drewN nq) #[.int .i64 y1, .int .i64 (y2 : Int)] 99 2 1 rfl (by decide)) (by simp [Value.oneCell']) (by unfold maxLen; omega) (by omega) (by have := HWS.out; simp; omega) ?_)
            intro A9 C9 w9 HP9
            have hu49 : Upd (blk (.slice A3 L.length C3)) w4 w9 := ((Upd.refl _ _).drewN nq).trans' (((Upd.refl _ _).alloc _).trans HP9.upd) (fun x hx => .inl hx)
            have hup9 : Upd [] w w9 := HUA.out.trans' hu49 (fun x hx => .inr (own_ge HR4.out x hx))
            have hin9 : Cel.Ints w9 (.slice (some ⟨bb, oo, none⟩) ng C2) G := HI4.out.upd hu49 (fun _ x hx _ hc => HD3.out x hc hx)
            have hds9 : ∀ x ∈ blk (.slice A9 (L.length + 1) C9), x ∉ blk (.slice (some ⟨bb, oo, none⟩) ng C2) := by
              intro x hx hc
              rcases HP9.at with h' | h'
              · rw [h'] at hx; exact HD3.out x hx hc
              · rw [h'] at hx
                simp at hx
                have h1 := HBLT.out x hc
                have h2 := HS4.out
                omega
            have HI9 := Lib.hid hin9
            have HD9 := Lib.hid hds9
            have HS9 := Lib.hid (Nat.le_trans HS4.out hu49.size)
            have hrow9 : Cel.KI.row w9 w.heap.size (.slice A9 (L.length + 1) C9) (L ++ [(y1, y2)]) := by
              unfold Kind.row
              rw [Kind.all_app, List.length_append]
              exact HP9.own
            have HU9 := Lib.hid hup9
            have HR9 := Lib.hid hrow9
            clear hup9 hrow9 HP9 hu49 hin9 hds9
            go_wp2_with fail
            go_roundg (ng - (k + 1))
            case measure => have := HK.out; omega
            case rel =>
              have h9 := HST.out
              rw [if_pos (by simp)] at h9
              refine ⟨k + 1, A9, C9, by have := HK.out; omega, by go_num, by rw [h9, ← List.append_assoc, HL.out, List.length_append]; rfl, ?_, HI9.out, ?_, HU9.out, HS9.out⟩
              · rw [h9, ← List.append_assoc, HL.out, List.length_append]
                exact HR9.out
              · rw [h9, ← List.append_assoc, HL.out, List.length_append]
                exact HD9.out
        · have hst : T ++ liv S.al (G.take k) = liv S.al (S.cs.take (S.cs.length / 2 ^ m * 2 ^ m)) := by
            rw [List.take_of_length_le (by rw [HNG.out]; omega), ← HT.out, ← HG.out, ← liv_app, take_step]
          have HST := Lib.hid hst
          clear hst
          go_wp2_with fail
          go_roundg m
          case measure => omega
          case rel =>
            rw [← HST.out, HL.out]
            exact ⟨by omega, by go_num, A3, C3, rfl, HR3.out, HU3.out⟩
end Go.Proofs.Ytkhgglafnjfiaaa
