/- Half.anew. -/
import Derived.Test.YtkhgglafnjfiaaaHalfT
namespace Go.Proofs.Ytkhgglafnjfiaaa
open Go.RowKit

/-- The trees are gone. -/
theorem HalfAt.noTrees {w : World} {h cb mb : Nat} {tv av lvv : Value} {ps : List Value} {Fc : List Nat} {Fs : List (List Nat)} {S : HS} (H : HalfAt w h cb mb tv av lvv ps Fc Fs S) :
    HalfAt (w.setCell ⟨h, 3, none⟩ (.slice none 0 0)) h cb mb (.slice none 0 0) av lvv [] Fc [] { S with tr := [] } ∧ Upd [h] w (w.setCell ⟨h, 3, none⟩ (.slice none 0 0)) := by
  have hu : Upd [h] w (w.setCell ⟨h, 3, none⟩ (.slice none 0 0)) := (Upd.refl _ _).setCell (p := ⟨h, 3, none⟩) (.inl (by simp)) _
  refine ⟨H.trees (hu.mono (by simp)) ?_ (World.ownsRow_nil _ _ _ _) (by simp [blk]) rfl rfl (by simp) (by simp) (by simp) ?_ (by simp), hu⟩
  · have := heap_setCell_same w h 3 _ _ (.slice none 0 0) H.head
    simpa using this
  · have h0 : (parts h Fc tv av lvv mb Fs).Pairwise Disj := H.apart
    exact h0.sublist (by simp [parts])

set_option maxRecDepth 100000 in
set_option maxHeartbeats 1000000 in
theorem anew22 (hv : Value) (F : List Nat) (S : HS) (w : World) (H : IsHalf w hv F S) (I : HCore S) (hl : S.cs.length < 100000) (hw : S.wk < 1099511627776) :
    Calls Try.prog 64 #[hv] w fun e w' => e = .returned (.int .i64 (liv S.al S.cs).length) ∧ HStep w w' hv F (anewS S) := by
  have HO := Lib.hid H
  obtain ⟨h, cb, mb, tv, av, lvv, ps, Fc, Fs, rfl, H, hF⟩ := H
  obtain ⟨_, _, hc2, _⟩ := H.cell
  have hhw : h < w.heap.size := lt_of_block H.head
  have HH := Lib.hid H
  have HI := Lib.hid I
  have HF := Lib.hid hF
  have hhF : h ∉ Fc := fun hc => HH.out.dis (i := 0) (j := 1) rfl rfl (by omega) h (by simp) hc
  have hd2 : w.drew.cell? ⟨h, 2, none⟩ = some (.pointer (some ⟨cb, 0, none⟩)) := hc2
  clear H I hF
  go_enter Try.func64, Try.ntmps64
  go_upto_region 1 with fail
  go_region_held3 (fun w' => w'.cell? ⟨h, 2, none⟩ = some (.pointer (some ⟨cb, 0, none⟩)))
    (first
      | go_keep
      | (exact hd2)
      | (exact (hu1.cell (p := ⟨h, 2, none⟩) hhw (by simp)).trans hc2)
      | (obtain ⟨Fc', g1, g2, g3⟩ := hst; exact (g2.cell (p := ⟨h, 2, none⟩) (Nat.lt_of_lt_of_le hhw hu1.size) hhF).trans ((hu1.cell (p := ⟨h, 2, none⟩) hhw (by simp)).trans hc2)))
    (first
      | (go_at_call 67; refine (cells22 _ _ S _ (HO.out.upd ((Upd.refl [] w).drew) (by simp)) HI.out.lt hl).mono ?_; rintro e w1 ⟨A1, C1, rfl, hr1, hu1⟩)
      | (go_at_call 75; refine (Cel.setI cb Fc _ (liv S.al S.cs) _ _ _ _ (HH.out.car.upd ((Upd.refl [] w).drew.trans hu1) (by simp)) (Cel.Ints.of_row hr1) (fun _ x hx hc => by have h1 := own_ge hr1 x hx; have h2 := HH.out.car.lt x hc; simp at h1; omega) (by have := liv_len S.al S.cs; omega) hw).mono ?_; rintro e w2 ⟨rfl, hst⟩))
  obtain ⟨Fc', g1, g2, g3⟩ := hst
  have hup1 : Upd [] w w1 := (Upd.refl [] w).drew.trans hu1
  have h1 := (HH.out.upd hup1 (by intro P hP x hx; simp)).carry g1 g2 g3
  obtain ⟨h2, hu2⟩ := h1.noTrees
  obtain ⟨_, _, _, hc3, _, _, _, hfr⟩ := h1.cell
  have hf3 := hfr 3
  have hF : F = (parts h Fc tv av lvv mb Fs).flatten := HF.out
  have hstep : HStep w (w2.setCell ⟨h, 3, none⟩ (.slice none 0 0)) (.pointer (some ⟨h, 0, none⟩)) F (anewS0 S) := by
    refine ⟨_, ⟨h, cb, mb, _, _, _, _, _, _, rfl, h2, rfl⟩, ?_, fun x hx => ?_⟩
    · have hhin : h ∈ F := by rw [hF]; exact mem_part (i := 0) (P := [h]) rfl (by simp)
      refine ((hup1.mono (G := F) (by simp)).trans' g2 fun x hx => .inl ?_).trans' hu2 fun x hx => .inl ?_
      · rw [hF]; exact mem_part (i := 1) rfl hx
      · simp at hx; rw [hx]; exact hhin
    · obtain ⟨P, hP, hxP⟩ := List.mem_flatten.1 hx
      simp only [parts, List.mem_cons] at hP
      rw [hF]
      rcases hP with rfl | rfl | rfl | rfl | rfl | rfl | hP
      · exact .inl (mem_part (i := 0) (P := [h]) rfl hxP)
      · rcases g3 x hxP with g | g
        · exact .inl (mem_part (i := 1) rfl g)
        · exact .inr (Nat.le_trans hup1.size g)
      · simp [blk] at hxP
      · exact .inl (mem_part (i := 3) rfl hxP)
      · exact .inl (mem_part (i := 4) rfl hxP)
      · exact .inl (mem_part (i := 5) (P := [mb]) rfl hxP)
      · simp at hP
  have HST := Lib.hid hstep
  have H2 := Lib.hid h2
  clear h1 h2 hu2 hfr g1 g2 g3 hstep hr1 hu1 hup1 hF
  have hlv := liv_len S.al S.cs
  have hbt := bitsN_le (liv S.al S.cs).length 20 (by omega)
  go_wp2_with fail
  refine (levels22 _ _ h cb mb _ _ _ _ _ _ (anewS0 S) H2.out (Upd.refl _ _)).mono ?_
  rintro e w' ⟨rfl, rfl⟩
  have hcs0 : (anewS0 S).cs = liv S.al S.cs := rfl
  have hal0 : (anewS0 S).al = S.al := rfl
  rw [hcs0]
  have hB : bitsN (liv S.al S.cs).length = bitsN (anewS0 S).cs.length := rfl
  obtain ⟨B, hBB⟩ : ∃ B, bitsN (liv S.al S.cs).length = B := ⟨_, rfl⟩
  rw [hBB] at hbt hB ⊢
  have HBB := Lib.hid hBB
  have HB := Lib.hid hB
  have hcore := HI.out.anew0
  have HC := Lib.hid hcore
  clear hcs0 hal0 hB hBB hcore hc3 hf3 hc2 hd2
  go_wp2_with fail
  go_loopg [21] B (fun m i wr => ∃ k, m + k = B ∧ i = .int .i64 (k : Int) ∧ HStep w wr (.pointer (some ⟨h, 0, none⟩)) F (anewTo (anewS0 S) k))
  case atStart => exact ⟨0, rfl, rfl, HST.out⟩
  case round =>
    obtain ⟨k, hk, rfl, F1, ⟨h1, cb1, mb1, tv1, av1, lv1, ps1, Fc1, Fs1, he, H1, hF1e⟩, hu1, hF1⟩ := hrel
    cases he
    have hkB : k ≤ B := by omega
    obtain ⟨k1, k2, k3, k4, k5⟩ := anewTo_keep (anewS0 S) k
    obtain ⟨_, _, htl⟩ := anewTo_trees HC.out rfl k (by rw [← HB.out]; exact hkB)
    obtain ⟨_, _, hc2, _⟩ := H1.cell
    have hcsl : (anewTo (anewS0 S) k).cs.length ≤ S.cs.length := by rw [k1]; exact liv_len _ _
    have HK := Lib.hid hk
    have HH1 := Lib.hid H1
    have HF1E := Lib.hid hF1e
    have HU1 := Lib.hid hu1
    have HF1 := Lib.hid hF1
    have K1 := Lib.hid k1
    have K2 := Lib.hid k2
    have K5 := Lib.hid k5
    clear hk H1 hF1e hu1 hF1 k1 k2 k3 k4 k5
    by_cases hlt : k < B
    · go_wp2_with fail
      refine (bucket22 _ _ h cb1 mb1 _ _ _ _ _ _ _ HH1.out (Upd.refl _ _) k (by rw [K1.out, ← HB.out]; exact hlt) (by omega)).mono ?_
      rintro e w3 ⟨A3, C3, rfl, hr3, hu3⟩
      have hst := anewTo_succ (anewS0 S) k
      unfold anewStep at hst
      have hbm : ∀ y ∈ bucketOf (anewTo (anewS0 S) k).cs k, y.2 < (anewTo (anewS0 S) k).al.length := fun y hy => by
        rw [K2.out]
        exact HC.out.lt y (by rw [← K1.out]; exact bucket_mem hy)
      have hbl : (bucketOf (anewTo (anewS0 S) k).cs k).length ≤ (anewTo (anewS0 S) k).cs.length := by
        rw [bucketOf_len]
        split
        · rename_i hb
          exact Nat.ge_two_pow_of_testBit hb
        · omega
      obtain ⟨G, hG⟩ : ∃ G, bucketOf (anewTo (anewS0 S) k).cs k = G := ⟨_, rfl⟩
      rw [hG] at hr3 hst hbm hbl ⊢
      obtain ⟨ng, hng⟩ : ∃ ng, G.length = ng := ⟨_, rfl⟩
      rw [hng] at hr3 hbl ⊢
      have HNG := Lib.hid hng
      have HSTT := Lib.hid hst
      have HBM := Lib.hid hbm
      have hH3 : HStep w w3 (.pointer (some ⟨h, 0, none⟩)) F (anewTo (anewS0 S) k) := (HStep.quiet ⟨F1, ⟨h, cb1, mb1, tv1, av1, lv1, ps1, Fc1, Fs1, rfl, HH1.out, HF1E.out⟩, HU1.out, HF1.out⟩ hu3)
      have hI3 : IsHalf w3 (.pointer (some ⟨h, 0, none⟩)) F1 (anewTo (anewS0 S) k) := IsHalf.upd ⟨h, cb1, mb1, tv1, av1, lv1, ps1, Fc1, Fs1, rfl, HH1.out, HF1E.out⟩ hu3 (by simp)
      have hdis : ∀ x ∈ blk (.slice A3 ng C3), x ∉ F1 := fun x hx hc => by
        have g1 := own_ge hr3 x hx
        have g2 := IsHalf.lt (w := wr) (hv := .pointer (some ⟨h, 0, none⟩)) ⟨h, cb1, mb1, tv1, av1, lv1, ps1, Fc1, Fs1, rfl, HH1.out, HF1E.out⟩ x hc
        omega
      have HH3 := Lib.hid hH3
      have HI3 := Lib.hid hI3
      have HR3 := Lib.hid hr3
      have HD := Lib.hid hdis
      have HU3 := Lib.hid (HU1.out.trans' hu3 (by simp))
      have HSZ := Lib.hid hu3.size
      clear hng hst hbm hH3 hI3 hr3 hdis hu3 hG hc2
      by_cases hpos : 0 < ng
      · go_wp2_with fail
        refine (fillH _ F1 _ k (.slice A3 ng C3) G w3 HI3.out (by have := Cel.Ints.of_row HR3.out; exact this) (fun _ x hx => HD.out x hx) (by omega) (by omega) HBM.out (by rw [K5.out, K2.out]; exact HC.out.lvl) (by rw [HNG.out]; omega)).mono ?_
        rintro e w4 ⟨rfl, hst4⟩
        have h4 : HStep w w4 (.pointer (some ⟨h, 0, none⟩)) F (anewTo (anewS0 S) (k + 1)) := by
          have e : (if G.isEmpty then anewTo (anewS0 S) k else fillS (anewTo (anewS0 S) k) k G) = fillS (anewTo (anewS0 S) k) k G := by
            rw [if_neg]
            intro hc
            have : G = [] := by simpa using hc
            have := HNG.out
            simp_all
          rw [HSTT.out, e]
          exact HStep.next HU3.out (fun x hx => (HF1.out x hx)) hst4
        have HH4 := Lib.hid h4
        clear h4 hst4
        go_wp2_with fail
        go_roundg (B - (k + 1))
        case measure => have := HK.out; omega
        case rel => exact ⟨k + 1, by have := HK.out; omega, by go_num, HH4.out⟩
      · go_wp2_with fail
        go_roundg (B - (k + 1))
        case measure => have := HK.out; omega
        case rel =>
          refine ⟨k + 1, by have := HK.out; omega, by go_num, ?_⟩
          have : G = [] := List.eq_nil_of_length_eq_zero (by rw [HNG.out]; omega)
          rw [HSTT.out, this]
          exact HH3.out
    · have hkB' : k = B := by omega
      have HKB := Lib.hid hkB'
      clear hkB'
      go_wp2_with fail
      go_ret
      refine ⟨rfl, F1, ⟨h, cb1, mb1, tv1, av1, lv1, ps1, Fc1, Fs1, rfl, ?_, HF1E.out⟩, HU1.out, HF1.out⟩
      have := HH1.out
      unfold anewS
      rw [HBB.out, ← HKB.out]
      exact this
end Go.Proofs.Ytkhgglafnjfiaaa
