/- Half.Trees. -/
import Derived.Test.YtkhgglafnjfiaaaHalfT
namespace Go.Proofs.Ytkhgglafnjfiaaa
open Go.RowKit

/-- The numbers of the buckets from m on that have any thing, the greatest first. -/
def idxF (cs : List (Int × Nat)) (m : Nat) : List Nat := ((List.range' m (bitsN cs.length - m)).reverse).filter fun i => !(bucketOf cs i).isEmpty
def idxA (cs : List (Int × Nat)) : List Nat := idxF cs 0

theorem idxF_top (cs : List (Int × Nat)) : idxF cs (bitsN cs.length) = [] := by simp [idxF]

theorem idxF_step (cs : List (Int × Nat)) (m : Nat) (h : m < bitsN cs.length) : idxF cs m = if (bucketOf cs m).isEmpty then idxF cs (m + 1) else idxF cs (m + 1) ++ [m] := by
  unfold idxF
  rw [show bitsN cs.length - m = (bitsN cs.length - (m + 1)) + 1 by omega, List.range'_succ, List.reverse_cons, List.filter_append]
  by_cases he : (bucketOf cs m).isEmpty = true
  · rw [if_pos he]; simp [he]
  · rw [if_neg he]; simp [he]

theorem idxF_mem {cs : List (Int × Nat)} {m i : Nat} (h : i ∈ idxF cs m) : i < bitsN cs.length ∧ bucketOf cs i ≠ [] := by
  unfold idxF at h
  rw [List.mem_filter, List.mem_reverse, List.mem_range'_1] at h
  refine ⟨by omega, fun e => ?_⟩
  rw [e] at h
  simp at h

theorem idxF_len (cs : List (Int × Nat)) (m : Nat) : (idxF cs m).length ≤ bitsN cs.length := by
  unfold idxF
  refine Nat.le_trans (List.length_filter_le _ _) ?_
  simp

set_option maxRecDepth 100000 in
set_option maxHeartbeats 1000000 in
theorem trees22 (hv : Value) (F : List Nat) (S : HS) (w : World) (H : IsHalf w hv F S) (I : HInv S) (hl : S.cs.length < 100000) :
    Calls Try.prog 43 #[hv] w fun e w' => ∃ A C ts, e = .returned (.slice A (idxA S.cs).length C) ∧ w'.ownsRow w.heap.size 58 1 (.slice A (idxA S.cs).length C) (idxA S.cs).length ts ∧ Upd [] w w' ∧
      ∀ (j i : Nat), (idxA S.cs)[j]? = some i → ∃ p G, ts[j]? = some p ∧ IsBag w' p (sortI (live S.al (bucketOf S.cs i))) G ∧ ∀ x ∈ G, x ∈ F := by
  obtain ⟨i0, hi0, hz0, hz1, hz2⟩ := info_parts info_ptr
  have HO := Lib.hid H
  obtain ⟨h, cb, mb, tv, av, lvv, ps, Fc, Fs, rfl, H, hF⟩ := H
  obtain ⟨_, _, hc2, hc3, _⟩ := H.cell
  obtain ⟨At, Ct, htv⟩ : ∃ A C, tv = .slice A ps.length C := own_form H.trow
  subst htv
  have hhw : h < w.heap.size := lt_of_block H.head
  have hbt := bitsN_le S.cs.length 20 (by omega)
  have hpl : ps.length ≤ 20 := by rw [H.plen]; exact I.trl
  obtain ⟨B, hB⟩ : ∃ B, bitsN S.cs.length = B := ⟨_, rfl⟩
  obtain ⟨np, hnp⟩ : ∃ np, ps.length = np := ⟨_, rfl⟩
  rw [hB] at hbt
  rw [hnp] at hc3 hpl
  have HB := Lib.hid hB
  have HNP := Lib.hid hnp
  have HH := Lib.hid H
  have HI := Lib.hid I
  have HF := Lib.hid hF
  have hbag : ∀ i, i < B → bucketOf S.cs i ≠ [] → i < np ∧ ∃ p G, ps[i]? = some p ∧ IsBag w p (sortI (live S.al (bucketOf S.cs i))) G ∧ ∀ x ∈ G, x ∈ F := by
    intro i hi hne
    have ht := I.trees i (by rw [hB]; exact hi) hne
    obtain ⟨p, G, h1, h2, h3⟩ := H.yes i _ ht
    refine ⟨by rw [← hnp]; exact (List.getElem?_eq_some_iff.1 h1).1, p, G, h1, h3, fun x hx => ?_⟩
    rw [hF]
    exact mem_part (i := i + 6) (by simpa [parts] using h2) hx
  have HBAG := Lib.hid hbag
  clear hB H I hF hbag hnp
  go_enter Try.func43, Try.ntmps43
  go_wp2_with fail
  refine (none22 _ _ _ _ HO.out).mono ?_
  rintro e w' ⟨rfl, rfl⟩
  go_wp2_with fail
  refine (levels22 w w h cb mb _ _ _ _ _ _ S HH.out (Upd.refl _ _)).mono ?_
  rintro e w' ⟨rfl, rfl⟩
  rw [HB.out]
  go_wp2_with fail
  go_loopg [3, 4] B (fun m o i wr => m ≤ B ∧ i = .int .i64 ((m : Int) - 1) ∧ ∃ A C ts, o = .slice A (idxF S.cs m).length C ∧ wr.ownsRow w.heap.size 58 1 (.slice A (idxF S.cs m).length C) (idxF S.cs m).length ts ∧ Upd [] w wr ∧
    ∀ (j i : Nat), (idxF S.cs m)[j]? = some i → ∃ p G, ts[j]? = some p ∧ IsBag w p (sortI (live S.al (bucketOf S.cs i))) G ∧ ∀ x ∈ G, x ∈ F)
  case atStart =>
    have e := idxF_top S.cs
    rw [HB.out] at e
    refine ⟨Nat.le_refl _, rfl, none, 0, [], by rw [e]; rfl, by rw [e]; exact World.ownsRow_nil _ _ _ _, Upd.refl _ _, ?_⟩
    rw [e]; simp
  case round =>
    obtain ⟨hm, rfl, A, C, ts, rfl, hrow, hu, hts⟩ := hrel
    have hix := idxF_len S.cs gk
    rw [HB.out] at hix
    obtain ⟨T, hT⟩ : ∃ T, idxF S.cs gk = T := ⟨_, rfl⟩
    rw [hT] at hrow hts hix ⊢
    obtain ⟨nt, hnt⟩ : ∃ nt, T.length = nt := ⟨_, rfl⟩
    rw [hnt] at hrow hix ⊢
    have HR := Lib.hid hrow
    have HU := Lib.hid hu
    have HT := Lib.hid hT
    have HNT := Lib.hid hnt
    have HTS := Lib.hid hts
    clear hT hrow hu hts hnt
    by_cases h0 : gk = 0
    · subst h0
      go_wp2_with fail
      go_ret
      have hTT : T = idxA S.cs := HT.out.symm
      subst hTT
      rw [HNT.out]
      refine ⟨A, C, ts, rfl, HR.out, HU.out, fun j i hj => ?_⟩
      obtain ⟨p, G, h1, h2, h3⟩ := HTS.out j i hj
      exact ⟨p, G, h1, h2.upd HU.out (by simp), h3⟩
    · obtain ⟨m, rfl⟩ : ∃ m, gk = m + 1 := ⟨gk - 1, by omega⟩
      have e8 : (((m + 1 : Nat) : Int) - 1) = (m : Int) := by omega
      rw [e8]
      clear e8
      have hc2' := (HU.out.cell (p := ⟨h, 2, none⟩) hhw (by simp)).trans hc2
      go_wp2_with fail
      refine (bucket22 w wr h cb mb _ _ _ _ _ _ S HH.out HU.out m (by rw [HB.out]; omega) (by omega)).mono ?_
      rintro e w2 ⟨A2, C2, rfl, hr2, hu2⟩
      have hst := idxF_step S.cs m (by rw [HB.out]; omega)
      have hbg := HBAG.out m (by omega)
      obtain ⟨G, hG⟩ : ∃ G, bucketOf S.cs m = G := ⟨_, rfl⟩
      have hGl : G.length ≤ S.cs.length := by
        rw [← hG, bucketOf_len]
        split
        · rename_i hb
          exact Nat.ge_two_pow_of_testBit hb
        · omega
      rw [hG] at hr2 hst hbg ⊢
      obtain ⟨ng, hng⟩ : ∃ ng, G.length = ng := ⟨_, rfl⟩
      rw [hng] at hr2 hGl ⊢
      have HG := Lib.hid hG
      have HNG := Lib.hid hng
      have HU2 := Lib.hid (HU.out.trans hu2)
      have HR2 := Lib.hid (own_upd HR.out hu2 (by simp))
      have HST := Lib.hid hst
      have HBG := Lib.hid hbg
      clear hG hng hr2 hu2 hc2' hst hbg
      by_cases hpos : 0 < ng
      · have hne : G ≠ [] := fun e => by have := HNG.out; rw [e] at this; simp at this; omega
        obtain ⟨hmn, p, Gp, hp1, hp2, hp3⟩ := HBG.out hne
        obtain ⟨q, hA, hq1, _, _, hqs⟩ := own_at HH.out.trow (k := m) (by rw [HNP.out]; exact hmn) hp1
        subst hA
        have hc3' := (HU2.out.cell (p := ⟨h, 3, none⟩) hhw (by simp)).trans hc3
        have hq1' := (HU2.out.cell (p := ⟨q, m, none⟩) hqs (by simp)).trans hq1
        obtain ⟨tb, vb, rfl, hbg, rfl⟩ := hp2
        have b0 : (0 : Int) ≤ (m : Int) := Int.natCast_nonneg _
        have b1 : (m : Int) < (np : Int) := by omega
        have HP1 := Lib.hid hp1
        have HBB := Lib.hid hbg
        have HP3 := Lib.hid hp3
        have HWS := Lib.hid HU2.out.size
        clear hp1 hq1 hbg hp3
        go_wp2_with (at_builtin; refine wpList_app _ rfl _ _ 67 rfl w.heap.size 58 i0 (.pointer none) 1 8 Try.underlying67 hi0 hz0 hz1 hz2 rfl (by decide) _ _ _ rfl ((HR2.out).alloc _) _ 1 [.pointer (some ⟨tb, 0, none⟩)] rfl (sees_lit w2 #[.pointer (some ⟨tb, 0, none⟩)] 58 1 1 rfl (by decide)) (by simp [Value.oneCell']) (by unfold maxLen; omega) (by omega) (by have := HWS.out; simp; omega) ?_)
        intro A9 C9 w9 HP9
        have hu9 : Upd [] w w9 := HU2.out.trans' (((Upd.refl _ _).alloc _).trans HP9.upd) (fun x hx => .inr (own_ge HR2.out x hx))
        have hr9 := HP9.own
        have hnew : idxF S.cs m = T ++ [m] := by
          rw [HST.out, if_neg (by simpa using hne), HT.out]
        have HU9 := Lib.hid hu9
        have HR9 := Lib.hid hr9
        have HNEW := Lib.hid hnew
        clear hu9 hr9 hnew HP9
        go_wp2_with fail
        go_roundg m
        case measure => omega
        case rel =>
          refine ⟨by omega, by go_num, A9, C9, ts ++ [.pointer (some ⟨tb, 0, none⟩)], by rw [HNEW.out, List.length_append, HNT.out]; rfl, ?_, HU9.out, ?_⟩
          · rw [HNEW.out, List.length_append, HNT.out]; exact HR9.out
          · intro j i hj
            rw [HNEW.out] at hj
            have htl : ts.length = T.length := by have := HR.out.1; rw [this, HNT.out]; simp
            rcases Nat.lt_or_ge j T.length with g | g
            · rw [List.getElem?_append_left g] at hj
              rw [List.getElem?_append_left (by rw [htl]; exact g)]
              exact HTS.out j i hj
            · rw [List.getElem?_append_right g] at hj
              rw [List.getElem?_append_right (by rw [htl]; exact g), htl]
              rcases Nat.eq_zero_or_pos (j - T.length) with g0 | g0
              · rw [g0] at hj ⊢
                simp at hj
                subst hj
                rw [HG.out]
                exact ⟨_, _, rfl, ⟨tb, vb, rfl, HBB.out, rfl⟩, HP3.out⟩
              · rw [List.getElem?_eq_none (by simp; omega)] at hj; cases hj
      · have hnew : idxF S.cs m = T := by
          have : G = [] := List.eq_nil_of_length_eq_zero (by rw [HNG.out]; omega)
          rw [HST.out, this, HT.out]; simp
        have HNEW := Lib.hid hnew
        clear hnew
        go_wp2_with fail
        go_roundg m
        case measure => omega
        case rel =>
          refine ⟨by omega, by go_num, A, C, ts, by rw [HNEW.out, HNT.out], ?_, HU2.out, ?_⟩
          · rw [HNEW.out, HNT.out]; exact HR2.out
          · rw [HNEW.out]; exact HTS.out
end Go.Proofs.Ytkhgglafnjfiaaa
