/- 'trees' of layer 22's statements: has a Half just these trees? -/
import Derived.Test.YtkhgglafnjfiaaaHalfTr
import Derived.Test.YtkhgglafnjfiaaaSame22
import Derived.Deep.RegionHeld3
import Derived.Deep.DrawnRows
namespace Go.Proofs.Ytkhgglafnjfiaaa
open Go.RowKit
attribute [local go_sem ↓] Go.wp_at_zero Go.wp_at_succ

/-- The trees, as lists. -/
def treesL (S : HS) : List (List Int) := (idxA S.cs).map fun i => sortI (live S.al (bucketOf S.cs i))

/-- Rows of numbers, seen. -/
def RowsSee (w : World) (v : Value) (ll : List (List Int)) : Prop :=
  ∃ us : List Value, Sees w 1 v ll.length us ∧ ∀ (k : Nat) (u : Value) (l : List Int), us[k]? = some u → ll[k]? = some l → Ints w u l

theorem RowsSee.form {w : World} {v : Value} {ll : List (List Int)} (h : RowsSee w v ll) : ∃ A C, v = .slice A ll.length C := by
  obtain ⟨us, h1, _⟩ := h
  exact sees_form h1

theorem RowsSee.at {w : World} {A : Option Addr} {n C : Nat} {ll : List (List Int)} (h : RowsSee w (.slice A n C) ll) {k : Nat} {l : List Int} (hl : ll[k]? = some l) :
    ∃ b o Au Cu, A = some ⟨b, o, none⟩ ∧ n ≤ C ∧ C ≤ maxLen ∧ w.cell? ⟨b, o + k, none⟩ = some (.slice Au l.length Cu) ∧ Ints w (.slice Au l.length Cu) l := by
  obtain ⟨us, ⟨h0, h1⟩, h2⟩ := h
  have hk := (List.getElem?_eq_some_iff.1 hl).1
  obtain ⟨u, hu⟩ : ∃ u, us[k]? = some u := ⟨us[k]'(by omega), List.getElem?_eq_getElem _⟩
  have hi := h2 k u l hu hl
  obtain ⟨Au, Cu, rfl⟩ := hi.form
  rcases h1 with ⟨g, g'⟩ | ⟨b, o, s, cap, g1, g2, g3, g4, g5⟩
  · omega
  · cases g1
    have := g2 (by omega)
    subst this
    exact ⟨b, o, Au, Cu, rfl, g3, g4, g5 k _ hu, hi⟩

theorem RowsSee.upd {w w' : World} {v : Value} {ll : List (List Int)} (h : RowsSee w v ll) (hu : Upd [] w w') : RowsSee w' v ll := by
  obtain ⟨us, h1, h2⟩ := h
  exact ⟨us, sees_upd h1 hu (by simp), fun k u l hk hl => (h2 k u l hk hl).upd0 hu⟩

theorem decide_at {α : Type} [DecidableEq α] (a b : List α) (n : Nat) (ha : a.length = n) (hb : b.length = n) (h : ∀ j, j < n → a[j]? = b[j]?) : decide (a = b) = true := by
  rw [decide_eq_true_iff]
  apply List.ext_getElem?
  intro j
  by_cases hj : j < n
  · exact h j hj
  · rw [List.getElem?_eq_none (by omega), List.getElem?_eq_none (by omega)]

theorem decide_off {α : Type} [DecidableEq α] (a b : List α) (j : Nat) (x y : α) (ha : a[j]? = some x) (hb : b[j]? = some y) (h : x ≠ y) : decide (a = b) = false := by
  rw [decide_eq_false_iff_not]
  rintro rfl
  rw [ha] at hb
  exact h (by simpa using hb)

set_option maxRecDepth 100000 in
set_option maxHeartbeats 1000000 in
theorem treesEq (hv : Value) (F : List Nat) (S : HS) (v : Value) (ww : List (List Int)) (w : World) (H : IsHalf w hv F S) (I : HInv S) (hl : S.cs.length < 100000) (hw : RowsSee w v ww) (hwl : ww.length < 1000000) (hww : ∀ l ∈ ww, l.length < 1000000) :
    Calls Try.prog 51 #[hv, v] w fun e w' => e = .returned (.bool (decide (treesL S = ww))) ∧ Upd [] w w' := by
  obtain ⟨Aw, Cw, rfl⟩ := hw.form
  have HO := Lib.hid H
  have HI := Lib.hid I
  have HW := Lib.hid hw
  have HWW := Lib.hid hww
  clear H I hw hww
  go_enter Try.func51, Try.ntmps51
  go_wp2_with fail
  refine (trees22 _ F S w HO.out HI.out hl).mono ?_
  rintro e w1 ⟨A, C, ts, rfl, hrow, hu1, hts⟩
  have hblen : bitsN S.cs.length ≤ 17 := bitsN_le _ _ (by omega)
  have hil := idxF_len S.cs 0
  have hil' : (idxA S.cs).length ≤ 17 := Nat.le_trans hil hblen
  obtain ⟨n, hn⟩ : ∃ n, (idxA S.cs).length = n := ⟨_, rfl⟩
  rw [hn] at hrow hil' ⊢
  obtain ⟨nw, hnw⟩ : ∃ nw, ww.length = nw := ⟨_, rfl⟩
  rw [hnw] at HW hwl ⊢
  have HROW := Lib.hid hrow
  have HTS := Lib.hid hts
  have HU1 := Lib.hid hu1
  have HN := Lib.hid hn
  have HNW := Lib.hid hnw
  have HTL := Lib.hid (show (treesL S).length = n by unfold treesL; rw [List.length_map, hn])
  clear hrow hts hu1 hn hnw hil
  by_cases hlen : n = nw
  · subst hlen
    have q1 : ((n : Int) != (n : Int)) = false := by simp
    go_wp2_with fail
    go_loopg [16] n (fun g i wr => ∃ k, g + k = n ∧ i = .int .i64 (k : Int) ∧ Upd [] w1 wr ∧ ∀ j, j < k → (treesL S)[j]? = ww[j]?)
    case atStart => exact ⟨0, rfl, rfl, Upd.refl _ _, by intro j hj; omega⟩
    case round =>
      obtain ⟨k, hk, rfl, hu, hj⟩ := hrel
      have hkn : k ≤ n := by omega
      have HJ := Lib.hid hj
      have HK := Lib.hid hk
      have HU := Lib.hid hu
      clear hj hk hu
      by_cases hlt : k < n
      · obtain ⟨i, hi⟩ : ∃ i, (idxA S.cs)[k]? = some i := ⟨(idxA S.cs)[k]'(by rw [HN.out]; exact hlt), List.getElem?_eq_getElem _⟩
        obtain ⟨p, G, hp, hbag, hG⟩ := HTS.out k i hi
        have htk : (treesL S)[k]? = some (sortI (live S.al (bucketOf S.cs i))) := by unfold treesL; rw [List.getElem?_map, hi]; rfl
        have hLL : (sortI (live S.al (bucketOf S.cs i))).length < 1099511627776 := by
          have e1 := sortI_len (live S.al (bucketOf S.cs i))
          have e2 := liv_len S.al (bucketOf S.cs i)
          have e3 : (bucketOf S.cs i).length ≤ S.cs.length := by
            rw [bucketOf_len]
            split
            · rename_i hb; exact Nat.ge_two_pow_of_testBit hb
            · omega
          unfold live at e1 ⊢
          rw [List.length_map] at e1
          omega
        obtain ⟨L, hL⟩ : ∃ L, sortI (live S.al (bucketOf S.cs i)) = L := ⟨_, rfl⟩
        rw [hL] at hbag htk hLL
        obtain ⟨M, hM⟩ : ∃ M, ww[k]? = some M := ⟨ww[k]'(by rw [HNW.out]; exact hlt), List.getElem?_eq_getElem _⟩
        have hMl : M.length < 1099511627776 := by have := HWW.out M (List.mem_of_getElem? hM); omega
        obtain ⟨q, hqA, hq1, _, hq3, hq4⟩ := own_at HROW.out hlt hp
        subst hqA
        obtain ⟨pt, pv, rfl, hpb, rfl⟩ := hbag
        obtain ⟨Ap, Cp, rfl⟩ := hpb.form
        have hpi := Ints.of_row hpb.row
        have hpc := hpb.cell.1
        obtain ⟨bw, ow, Au, Cu, hAw, hw3, hw4, hwc, hwi⟩ := (HW.out.upd (HU1.out.trans HU.out)).at hM
        subst hAw
        have hq1' := (HU.out.cell (p := ⟨q, k, none⟩) hq4 (by simp)).trans hq1
        have hpc' := (HU.out.cell (p := ⟨pt, 0, none⟩) (lt_of_block hpb.head) (by simp)).trans hpc
        have hpi' := hpi.upd0 HU.out
        unfold maxLen at hw4
        have hq1d : wr.drew.cell? ⟨q, k, none⟩ = some (.pointer (some ⟨pt, 0, none⟩)) := hq1'
        have hpcd : wr.drew.cell? ⟨pt, 0, none⟩ = some (.slice Ap L.length Cp) := hpc'
        have hwcd : wr.drew.cell? ⟨bw, ow + k, none⟩ = some (.slice Au M.length Cu) := hwc
        have HPI := Lib.hid hpi'
        have HWI := Lib.hid hwi
        have HTK := Lib.hid htk
        have HM := Lib.hid hM
        clear hpi hpc hpi' hwi htk hM hpb hi hp hG hL hq1
        have b0 : (0 : Int) ≤ (k : Int) := Int.natCast_nonneg _
        have b1 : (k : Int) < (n : Int) := by omega
        obtain ⟨c, hc⟩ : ∃ c, decide (L = M) = c := ⟨_, rfl⟩
        have HC := Lib.hid hc
        clear hc
        cases c
        all_goals
          go_upto_region 7 with fail
          go_region_held3 (fun w' => w'.cell? ⟨q, k, none⟩ = some (.pointer (some ⟨pt, 0, none⟩)) ∧ w'.cell? ⟨pt, 0, none⟩ = some (.slice Ap L.length Cp) ∧ w'.cell? ⟨bw, ow + k, none⟩ = some (.slice Au M.length Cu))
            (first | go_keep | exact ⟨hq1d, hpcd, hwcd⟩ | exact ⟨(hu9.cell (p := ⟨q, k, none⟩) (Nat.lt_of_lt_of_le hq4 (by have := HU.out.size; simpa using this)) (by simp)).trans hq1d, (hu9.cell (p := ⟨pt, 0, none⟩) (World.block_lt_of_cell? _ _ hpcd) (by simp)).trans hpcd, (hu9.cell (p := ⟨bw, ow + k, none⟩) (World.block_lt_of_cell? _ _ hwcd) (by simp)).trans hwcd⟩)
            ((go_at_call 41; refine (same22 _ _ L M _ (HPI.out.upd0 ((Upd.refl _ _).drew)) (HWI.out.upd0 ((Upd.refl _ _).drew)) hLL hMl).mono ?_; rintro e w9 ⟨rfl, hu9⟩; rw [HC.out]))
        · have hUU : Upd [] w w9 := ((HU1.out.trans HU.out).drew).trans hu9
          have HUU := Lib.hid hUU
          have hne : decide (treesL S = ww) = false := decide_off _ _ k L M HTK.out HM.out (by simpa using HC.out)
          have HNE := Lib.hid hne
          clear hUU hne hu9
          go_wp2_with fail
          go_ret
          exact ⟨by rw [HNE.out]; rfl, HUU.out⟩
        · have hUU : Upd [] w1 w9 := (HU.out.drew).trans hu9
          have HUU := Lib.hid hUU
          have hj2 : ∀ j, j < k + 1 → (treesL S)[j]? = ww[j]? := by
            intro j hj
            by_cases e : j = k
            · subst e
              have := of_decide_eq_true HC.out
              rw [HTK.out, HM.out, this]
            · exact HJ.out j (by omega)
          have HJ2 := Lib.hid hj2
          clear hUU hj2 hu9
          go_wp2_with fail
          go_roundg (gk - 1)
          case measure => have := HK.out; omega
          case rel => exact ⟨k + 1, by have := HK.out; omega, by go_num, HUU.out, HJ2.out⟩
      · have hkn' : k = n := by omega
        have hd : decide (treesL S = ww) = true := decide_at _ _ n HTL.out HNW.out (by rw [← hkn']; exact HJ.out)
        have HDD := Lib.hid hd
        clear hkn' hd
        go_wp2_with fail
        go_ret
        exact ⟨by rw [HDD.out]; rfl, HU1.out.trans HU.out⟩
  · have hd : decide (treesL S = ww) = false := by
      rw [decide_eq_false_iff_not]
      rintro rfl
      exact hlen (HTL.out.symm.trans HNW.out)
    have q1 : ((n : Int) != (nw : Int)) = true := by rw [bne_iff_ne]; omega
    have HDD := Lib.hid hd
    clear hd
    go_wp2_with fail
    go_ret
    exact ⟨by rw [HDD.out]; rfl, HU1.out⟩
end Go.Proofs.Ytkhgglafnjfiaaa
