/- gridironlaw20.CarryKinds: whatever is added, the law answers true, and writes nothing that was there. -/
import Derived.Test.YtkhgglafnjfiaaaLaw20b
import Derived.Test.YtkhgglafnjfiaaaBoth
import Derived.Test.YtkhgglafnjfiaaaNoneB8
import Derived.Laws.BytesArg
import Derived.Deep.RegionLaw
namespace Go.Proofs.Ytkhgglafnjfiaaa
open Go.RowKit

/-- The text of one byte. -/
def st (x : Int) : ByteArray := strOfNums [x]

theorem st_run (w : World) (x : Int) : Sem.run Try.prog (convert 38 9 (.slice (some ⟨w.heap.size, 0, none⟩) 1 1)) (w.alloc (.cells #[.int .u8 x] 5)) = .ok (.string (st x)) (w.alloc (.cells #[.int .u8 x] 5)) := by
  refine run_convert_bytes_arg _ _ 5 Try.underlying38 Try.underlying5 _ 0 1 1 [x] rfl ?_ _ Try.underlying9
  intro i hi
  obtain rfl : i = 0 := by omega
  rw [World.cell?_alloc_at _ _ _ _ rfl]
  rfl

theorem st_drew (w : World) (x : Int) : Sem.run Try.prog (convert 38 9 (.slice (some ⟨w.heap.size, 0, none⟩) 1 1)) (w.alloc (.cells #[.int .u8 x] 5)).drew = .ok (.string (st x)) (w.alloc (.cells #[.int .u8 x] 5)).drew := by
  refine run_convert_bytes_arg _ _ 5 Try.underlying38 Try.underlying5 _ 0 1 1 [x] rfl ?_ _ Try.underlying9
  intro i hi
  obtain rfl : i = 0 := by omega
  show (w.alloc (.cells #[.int .u8 x] 5)).cell? _ = _
  rw [World.cell?_alloc_at _ _ _ _ rfl]
  rfl

set_option maxRecDepth 100000 in
set_option maxHeartbeats 2000000 in
theorem kinds_walk (s : Value) (l : List Int) (w : World) (hs : B8.Ints w s l) (hm : l.length ≤ 9223372036854775807) :
    Calls Try.prog 6 #[s] w fun e w' => e = .returned (.bool true) ∧ Below w.heap.size w w' := by
  obtain ⟨A, C, rfl⟩ := hs.form
  obtain ⟨B0, D0, m0, l0, hl0, hm0, hn0, hr0, hv0, hi0⟩ := B8.head_of hs 100 100 rfl
  have q0 : m0 ≤ 100 := by omega
  have hv1 : Value.int .i64 (min (l.length : Int) 100) = Value.int .i64 (m0 : Int) := by
    rw [show min (l.length : Int) 100 = (m0 : Int) from by omega]
  have HI0 := Lib.hid hi0
  have HM0 := Lib.hid hm0
  have HSV := Lib.hid hs
  clear hs hl0 hm0 hn0 hi0
  have hcv := fun w' x => st_run w' x
  go_enter Try.func6, Try.ntmps6
  go_wp2_with fail
  refine (B8.newI w).mono ?_
  rintro e w1 ⟨b, rfl, hH, hb0, hu1⟩
  have HH := Lib.hid hH
  have HU1 := Lib.hid hu1
  clear hH hu1
  go_wp2_with fail
  refine (Str.newI w1).mono ?_
  rintro e w2 ⟨d, rfl, hK, hd0, hu2⟩
  have hst : Both w w2 b [] 0 d [] 0 [] [] := by
    refine ⟨[b], [d], by rw [setB_nil]; exact HH.out.upd hu2 (by simp), by rw [setB_nil]; exact hK, ?_, HU1.out.trans hu2, by simp; exact hb0, ?_, by simp, by simp⟩
    · have := HH.out.lt b (by simp)
      simp; omega
    · have := HU1.out.size
      simp; omega
  have H1 := Lib.hid hst
  clear hK hu2 hst HH HU1
  go_wp2_with fail
  go_loopg [26] m0 (fun m i wr => ∃ k wk, m + k = m0 ∧ i = .int .i64 (k : Int) ∧ Both w wr b (l0.take k) wk d ((l0.take k).map st) wk [] [] ∧ wk ≤ 101 * k)
  case atStart => exact ⟨0, 0, rfl, rfl, H1.out, by omega⟩
  case round =>
    obtain ⟨k, wk, hk, rfl, ho, hwk⟩ := hrel
    have hkm : k ≤ m0 := by omega
    have HK := Lib.hid hk
    have HO := Lib.hid ho
    clear hk ho
    by_cases hlt : k < m0
    · obtain ⟨bb, oo, hB, hcell⟩ := (HI0.out.upd0 HO.out.upd).cell (k := k) (by rw [HM0.out]; exact hlt)
      subst hB
      obtain ⟨x, hx⟩ : ∃ x, l0[k]'(by rw [HM0.out]; exact hlt) = x := ⟨_, rfl⟩
      rw [hx] at hcell
      have hnext : l0.take (k + 1) = l0.take k ++ [x] := by rw [List.take_succ_eq_append_getElem (by rw [HM0.out]; exact hlt), hx]
      have hlen : (l0.take k).length = k := by rw [List.length_take, HM0.out]; omega
      obtain ⟨L, hL⟩ : ∃ L, l0.take k = L := ⟨_, rfl⟩
      have ho := HO.out
      rw [hL] at ho hlen hnext
      have hgm : gath (setB (L.map st)) (st x) = (gath (setB L) x).map st := by rw [setB_map, gath_map st (setB L) x]
      have hfm : firstE (setB (L.map st)) = firstE (setB L) := by rw [setB_map, firstE_map]
      have HOL := Lib.hid ho
      have HLen := Lib.hid hlen
      have HNext := Lib.hid hnext
      have HGM := Lib.hid hgm
      have HFM := Lib.hid hfm
      clear hx hL ho hlen hnext HO hgm hfm
      have b0 : (0 : Int) ≤ (k : Int) := Int.natCast_nonneg _
      have b1 : (k : Int) < (m0 : Int) := by omega
      have g2 := (gath_last L x).2.1
      have g5 := (gath_set L x).2
      rw [HLen.out] at g2
      have ha := addBoth1 x HOL.out (by rw [HLen.out]; omega) (by omega)
      obtain ⟨G, hG⟩ : ∃ G, gath (setB L) x = G := ⟨_, rfl⟩
      obtain ⟨t, ht⟩ : ∃ t, firstE (setB L) = t := ⟨_, rfl⟩
      rw [ht, hG] at ha
      rw [ht] at g2
      rw [hG, ht] at g5
      obtain ⟨p, hp⟩ : ∃ p, 2 ^ t = p := ⟨_, rfl⟩
      rw [hp] at ha g2 g5
      have HA := Lib.hid ha
      have HG5 := Lib.hid g5
      have HG := Lib.hid hG
      have HT := Lib.hid ht
      have HP := Lib.hid hp
      clear ha g5 hG ht hp
      go_wp2_with fail
      refine HA.out.mono ?_
      rintro e w3 ⟨A3, C3, rfl, ho3⟩
      have HO3 := Lib.hid ho3
      clear ho3
      go_wp2_with fail
      have ha2 := addBoth2 (st x) (HO3.out.quiet ((Upd.refl [] w3).alloc (.cells #[.int .u8 x] 5))) (by rw [List.length_map, HLen.out]; omega) (by omega)
      rw [HFM.out, HGM.out, HT.out, HP.out, HG.out] at ha2
      refine ha2.mono ?_
      clear ha2
      rintro e w4 ⟨A4, C4, rfl, ho4⟩
      have hst : L.map st ++ [st x] = (L ++ [x]).map st := by simp
      rw [hst] at ho4
      have HO4 := Lib.hid ho4
      clear ho4 hst
      go_wp2_with fail
      refine (workBoth1 HO4.out).mono ?_
      rintro e w' ⟨rfl, rfl⟩
      go_wp2_with fail
      refine (workBoth2 HO4.out).mono ?_
      rintro e w' ⟨rfl, rfl⟩
      go_wp2_with fail
      go_loopg [63] p (fun m i wr => ∃ j, m + j = p ∧ i = .int .i64 (j : Int) ∧ Both w wr b (L ++ [x]) (wk + p) d ((L ++ [x]).map st) (wk + p) [(.slice A3 p C3, G)] [(.slice A4 p C4, G.map st)])
      case atStart => exact ⟨0, rfl, rfl, HO4.out⟩
      case round =>
        obtain ⟨j, hj, rfl, ho⟩ := hrel
        have hjp : j ≤ p := by omega
        have HJ := Lib.hid hj
        have HQ := Lib.hid ho
        clear hj ho
        by_cases hlt2 : j < p
        · obtain ⟨b3, o3, hA3, hcell3⟩ := (HQ.out.rowB (v := .slice A3 p C3) (g := G) (by simp)).cell (k := j) (by rw [HG5.out]; exact hlt2)
          subst hA3
          obtain ⟨b4, o4, hA4, hcell4⟩ := (HQ.out.rowS (v := .slice A4 p C4) (g := G.map st) (by simp)).cell (k := j) (by rw [List.length_map, HG5.out]; exact hlt2)
          subst hA4
          rw [List.getElem_map] at hcell4
          obtain ⟨y, hy⟩ : ∃ y, G[j]'(by rw [HG5.out]; exact hlt2) = y := ⟨_, rfl⟩
          rw [hy] at hcell3 hcell4
          clear hy
          have c0 : (0 : Int) ≤ (j : Int) := Int.natCast_nonneg _
          have c1 : (j : Int) < (p : Int) := by omega
          have hcw := fun w' x => st_drew w' x
          have hb4 : b4 < wr.heap.size := World.block_lt_of_cell? wr _ hcell4
          have hcell4' : ((wr.alloc (.cells #[.int .u8 y] 5)).drew).cell? ⟨b4, o4 + j, none⟩ = some (.string (st y)) := by
            show (wr.alloc (.cells #[.int .u8 y] 5)).cell? _ = _
            rw [World.cell?_alloc_past _ _ _ hb4]; exact hcell4
          go_upto_region 12 with fail
          go_region
          go_wp2_with fail
          go_roundg (gk - 1)
          case measure => have := HJ.out; omega
          case rel => exact ⟨j + 1, by have := HJ.out; omega, by go_num, HQ.out.quiet (((Upd.refl [] wr).alloc (.cells #[.int .u8 y] 5)).drew)⟩
        · go_wp2_with fail
          go_roundg (m0 - (k + 1))
          case measure => have := HK.out; omega
          case rel =>
            refine ⟨k + 1, wk + p, by have := HK.out; omega, by go_num, ?_, by omega⟩
            rw [HNext.out]
            exact HQ.out.none
    · go_upto_block 4 with fail
      obtain ⟨z, hz⟩ : ∃ z, wr.heap.size = z := ⟨_, rfl⟩
      have hu9 : Upd [] w ((wr.alloc (.cells #[.bool false, .slice none 0 0, .int .i64 0, .int .i64 0] 50)).alloc (.cells #[.pointer none, .pointer (some ⟨wr.heap.size, 0, none⟩)] 39)) := HO.out.upd.trans (((Upd.refl [] wr).alloc _).alloc _)
      have hc0 : ((wr.alloc (.cells #[.bool false, .slice none 0 0, .int .i64 0, .int .i64 0] 50)).alloc (.cells #[.pointer none, .pointer (some ⟨wr.heap.size, 0, none⟩)] 39)).cell? ⟨z + 1, 0, none⟩ = some (.pointer none) := by
        rw [World.cell?_alloc_at _ _ _ _ (by simp [hz])]; rfl
      have hc1 : ((wr.alloc (.cells #[.bool false, .slice none 0 0, .int .i64 0, .int .i64 0] 50)).alloc (.cells #[.pointer none, .pointer (some ⟨wr.heap.size, 0, none⟩)] 39)).cell? ⟨z + 1, 1, none⟩ = some (.pointer (some ⟨z, 0, none⟩)) := by
        rw [World.cell?_alloc_at _ _ _ _ (by simp [hz])]; rw [hz]; rfl
      have hc2 : ((wr.alloc (.cells #[.bool false, .slice none 0 0, .int .i64 0, .int .i64 0] 50)).alloc (.cells #[.pointer none, .pointer (some ⟨wr.heap.size, 0, none⟩)] 39)).cell? ⟨z, 0, none⟩ = some (.bool false) := by
        rw [World.cell?_alloc_past _ _ _ (by simp [hz]), World.cell?_alloc_at _ _ _ _ (by simp [hz])]; rfl
      rw [hz] at hu9 hc0 hc1 hc2 ⊢
      have hz1 : (wr.alloc (.cells #[.bool false, .slice none 0 0, .int .i64 0, .int .i64 0] 50)).heap.size = z + 1 := by simp [hz]
      generalize ((wr.alloc (.cells #[.bool false, .slice none 0 0, .int .i64 0, .int .i64 0] 50)).alloc (.cells #[.pointer none, .pointer (some ⟨z, 0, none⟩)] 39)) = w9 at *
      have HU9 := Lib.hid hu9
      have hno : ∃ v0 v1, w9.cell? ⟨z + 1, 0, none⟩ = some v0 ∧ w9.cell? ⟨z + 1, 1, none⟩ = some v1 ∧ B8.NoCarry w9 v0 ∧ B8.NoCarry w9 v1 := ⟨_, _, hc0, hc1, .inl rfl, .inr ⟨z, rfl, hc2⟩⟩
      clear hu9 hc0 hc1 hc2 hz HO hlt hwk HK
      obtain ⟨v0, v1, hc0, hc1, hn0, hn1⟩ := hno
      have HN0 := Lib.hid hn0
      have HN1 := Lib.hid hn1
      clear hn0 hn1
      go_wp2_with fail
      go_loopg [85] 2 (fun m i wr => ∃ j, m + j = 2 ∧ i = .int .i64 (j : Int) ∧ wr = w9)
      case atStart => exact ⟨0, rfl, rfl, rfl⟩
      case round =>
        obtain ⟨j, hj, rfl, rfl⟩ := hrel
        by_cases hlt : j < 2
        · obtain ⟨v, hcv9, hnv⟩ : ∃ v, wr.cell? ⟨z + 1, j, none⟩ = some v ∧ B8.NoCarry wr v := by
            rcases (by omega : j = 0 ∨ j = 1) with rfl | rfl
            · exact ⟨_, hc0, HN0.out⟩
            · exact ⟨_, hc1, HN1.out⟩
          have HNV := Lib.hid hnv
          clear hnv hc0 hc1
          have HJ := Lib.hid hj
          clear hj
          have c0 : (0 : Int) ≤ (j : Int) := Int.natCast_nonneg _
          have c1 : (j : Int) < 2 := by omega
          go_wp2_with (first
            | (go_at_call 27; refine (B8.addN _ _ _ HNV.out).mono ?_; rintro e w' ⟨rfl, rfl⟩)
            | (go_at_call 31; refine (B8.setN _ _ _ HNV.out).mono ?_; rintro e w' ⟨rfl, rfl⟩)
            | (go_at_call 32; refine (B8.lenN _ _ HNV.out).mono ?_; rintro e w' ⟨rfl, rfl⟩)
            | (go_at_call 33; refine (B8.levelsN _ _ HNV.out).mono ?_; rintro e w' ⟨rfl, rfl⟩)
            | (go_at_call 29; refine (B8.workN _ _ HNV.out).mono ?_; rintro e w' ⟨rfl, rfl⟩)
            | (go_at_call 34; refine (B8.bucketN _ _ _ HNV.out).mono ?_; rintro e w' ⟨rfl, rfl⟩))
          go_roundg (gk - 1)
          case measure => have := HJ.out; omega
          case rel => exact ⟨j + 1, by have := HJ.out; omega, by go_num, rfl⟩
        · go_wp2_with fail
          refine (awake_true _).mono ?_
          rintro e w10 ⟨rfl, hu⟩
          have HU10 := Lib.hid hu
          clear hu
          go_wp2_with fail
          go_ret
          exact ⟨rfl, (HU9.out.trans HU10.out).below⟩
end Go.Proofs.Ytkhgglafnjfiaaa
