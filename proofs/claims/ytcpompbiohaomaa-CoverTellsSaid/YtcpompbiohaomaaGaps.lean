/- cover.Gaps. -/
import Derived.Test.YtcpompbiohaomaaCovD
import Derived.Test.YtcpompbiohaomaaGapP
import Derived.Deep.LoopGhost
import Derived.Laws.OwnMore
import Derived.Deep.DeepCutAuto
import Derived.Deep.CutBlock
namespace Go.Proofs.Ytcpompbiohaomaa
open Go.RowKit
attribute [local go_sem ↓] Go.wp_at_zero Go.wp_at_succ

/-- Which gaps are covered. -/
def gapsM (M : List Int) (H : List (Nat × Nat)) : List Bool := if M.length - 1 = 0 then [] else gapsL (cntH H) 0 (M.length - 1) 0 (M.length - 1 + 1)

/-- What Gaps leaves: a new row. -/
def GapsPost (w : World) (G : List Bool) (e : Ending) (w' : World) : Prop := ∃ A C, e = .returned (.slice A G.length C) ∧ KB.row w' w.heap.size (.slice A G.length C) G ∧ Upd [] w w'

theorem KB_stored {w : World} {base g n : Nat} {p : Nat → Bool} (h : KB.row w base (.slice (some ⟨g, 0, none⟩) n n) (outL n p)) (k : Nat) :
    KB.row (w.setCell ⟨g, k, none⟩ (.bool true)) base (.slice (some ⟨g, 0, none⟩) n n) (outL n (fun i => p i || i == k)) := by
  have hl := outL_len n p
  have h' : w.ownsRow base 4 1 (.slice (some ⟨g, 0, none⟩) n n) n (KB.all (outL n p)) := by
    have h2 := h
    unfold Kind.row at h2
    rw [hl] at h2
    exact h2
  have := (World.ownsRow.stored h' k (.bool true)).1
  unfold Kind.row
  rw [outL_len, ← outL_set, KB.all_eq, List.map_set, ← KB.all_eq]
  exact this

theorem KB_made {w' : World} {base g n : Nat} (h : w'.ownsRow base 4 1 (.slice (some ⟨g, 0, none⟩) n n) n (madeCells #[.bool false] (n * 1)).toList) : KB.row w' base (.slice (some ⟨g, 0, none⟩) n n) (outL n (fun _ => false)) := by
  unfold Kind.row
  rw [outL_len, KB.all_eq]
  rw [Nat.mul_one, toList_madeCells_one] at h
  have e : (outL n fun _ => false).map Value.bool = List.replicate n (.bool false) := by
    refine List.ext_getElem? fun i => ?_
    rw [List.getElem?_map, List.getElem?_replicate]
    unfold outL
    by_cases hi : i < n
    · rw [List.getElem?_map, List.getElem?_range hi, if_pos hi]; rfl
    · rw [List.getElem?_eq_none (by simp; omega), if_neg hi]; rfl
  rw [e]
  exact h

set_option maxRecDepth 100000 in
set_option maxHeartbeats 4000000 in
theorem gapsC (b : Nat) (F : List Nat) (M : List Int) (H : List (Nat × Nat)) (N : Nat) (w : World) (h : IsCov w b F M H N) (hl : M.length < 400000) :
    Calls Try.prog 19 #[.pointer (some ⟨b, 0, none⟩)] w (GapsPost w (gapsM M H)) := by
  have hnn := covNone b F M H N _ h
  obtain ⟨mv, nv, ov, pv, hb, en, rfl, h1, h2⟩ := h
  obtain ⟨n, hn⟩ : ∃ n, M.length - 1 = n := ⟨_, rfl⟩
  unfold gapsM
  rw [hn] at h1 ⊢
  have c1 := h1.cells.2.1
  have HN := Lib.hid hnn
  clear hnn h2
  by_cases hn0 : n = 0
  · have e1 : rootI n = -1 := by unfold rootI; rw [if_pos hn0]
    rw [e1] at c1
    rw [if_pos hn0]
    clear h1 hn0 hn e1
    go_enter Try.func19, Try.ntmps19
    go_wp2_with fail
    (with_reducible refine HN.out.mono ?_)
    rintro e w' ⟨rfl, rfl⟩
    go_wp2_with fail
    go_ret
    exact ⟨_, _, rfl, World.ownsRow_nil _ _ _ _, Upd.refl _ _⟩
  · rw [if_neg hn0]
    obtain ⟨i0, hi, hy0, hy1, hy2⟩ := info_parts info_boolC
    have hn1 : 0 < n := by omega
    have e1 : rootI n = ((2 * n - 2 : Nat) : Int) := by unfold rootI; rw [if_neg hn0]
    have hd : decide (((2 * n - 2 : Nat) : Int) < 0) = false := decide_eq_false (by omega)
    rw [e1] at c1
    obtain ⟨r, hr⟩ : ∃ r : Nat, 2 * n - 2 = r := ⟨_, rfl⟩
    rw [hr] at c1 hd
    have eL : nodesN n = nodesL 0 n 0 := by unfold nodesN; rw [if_neg hn0]
    have eO : oN (cntH H) n = oL (cntH H) 0 n 0 (n + 1) := by unfold oN; rw [if_neg hn0]
    rw [eL, eO] at h1
    have hat := zL_at (cntH H) n hn1
    have hG := gaps_out (H := H) (n := n) hn1
    obtain ⟨Z, hZ⟩ : ∃ Z, zL (cntH H) 0 n 0 (n + 1) = Z := ⟨_, rfl⟩
    rw [hZ] at hat hG
    have hLl : (nodesL 0 n 0).length = 2 * n - 1 := by rw [nodesL_length _ hn1]; omega
    have hOl : (oL (cntH H) 0 n 0 (n + 1)).length = 2 * n - 1 := by rw [oL_len _ _ _ hn1]; omega
    obtain ⟨L, hL⟩ : ∃ L, nodesL 0 n 0 = L := ⟨_, rfl⟩
    obtain ⟨O, hO⟩ : ∃ O, oL (cntH H) 0 n 0 (n + 1) = O := ⟨_, rfl⟩
    rw [hL] at h1 hLl hat
    rw [hO] at h1 hOl hat
    rw [← hG]
    obtain ⟨K, hK⟩ : ∃ K, 2 * n - 1 = K := ⟨_, rfl⟩
    rw [hK] at hat hLl hOl ⊢
    obtain ⟨-, -, c2, c3, -, -, -, -⟩ := h1.cells
    have c0 := h1.cells.1
    obtain ⟨An, Cn, rfl⟩ := own_form h1.nodes
    obtain ⟨Ao, Co, rfl⟩ := own_form h1.often
    obtain ⟨Am, Cm, rfl⟩ := own_form h1.marks
    have hMn : M.length = n + 1 := by omega
    obtain ⟨w1, hmk, ho, hg⟩ := run_make_full (P := Try.prog) w w.heap.size 44 4 i0 (.bool false) 1 Try.underlying44 hi hy0 hy1 .i64 .i64 n (by rw [hy2]; omega) (by unfold maxLen; omega) (Nat.le_refl _)
    have hmk' : (Instr.makeSlice 44 (.int .i64 ((M.length : Int) - 1)) (.int .i64 ((M.length : Int) - 1))).run Try.prog w = .ok (.slice (some ⟨w.heap.size, 0, none⟩) n n) w1 := by
      have e : (M.length : Int) - 1 = (n : Int) := by omega
      rw [e]; exact hmk
    have hu1 : Upd [] w w1 := (Upd.refl _ _).grown hg (by simp)
    have hrow := KB_made ho
    have m0 : (0 : Int) ≤ (M.length : Int) := Int.natCast_nonneg _
    have m1 : (M.length : Int) ≤ 400000 := by omega
    have hbw : b < w.heap.size := lt_of_block h1.head
    have hk0 : (0 : Int) ≤ (K : Int) := Int.natCast_nonneg _
    have d2 : w1.cell? ⟨b, 2, none⟩ = some (.slice An L.length Cn) := (hu1.cell (p := ⟨b, 2, none⟩) hbw (by simp)).trans c2
    have H1 := Lib.hid h1
    have HROW := Lib.hid hrow
    have HU1 := Lib.hid hu1
    have HAT := Lib.hid hat
    have HOL := Lib.hid hOl
    have HLL := Lib.hid hLl
    have HC3 := Lib.hid c3
    have HKB := Lib.hid (show K < 1000000 by omega)
    have HGL := Lib.hid (outL_len n (pAt Z K))
    have HNB := Lib.hid (show n < 400000 by omega)
    have hz1 : w.heap.size < w1.heap.size := by
      have := own_lt ho w.heap.size (by simp [blk])
      exact this
    have HZ1 := Lib.hid hz1
    clear hn hn0 hn1 e1 hr eL eO hat hG hZ hLl hOl hL hO hK h1 hMn hmk ho hg hu1 hrow hl c2 c3
    go_enter Try.func19, Try.ntmps19
    go_wp2_with fail
    (with_reducible refine HN.out.mono ?_)
    rintro e w' ⟨rfl, rfl⟩
    go_wp2_with fail
    go_loopg [28] K (fun m s28 wr => ∃ k, m + k = K ∧ s28 = .int .i64 (k : Int) ∧ Upd [] w wr ∧ w.heap.size < wr.heap.size ∧ KB.row wr w.heap.size (.slice (some ⟨w.heap.size, 0, none⟩) n n) (outL n (pAt Z k)))
    case atStart => exact ⟨0, rfl, rfl, HU1.out, HZ1.out, HROW.out⟩
    case round =>
      obtain ⟨k, hk, rfl, hu, hz, hrow⟩ := hrel
      have hkn : k ≤ K := by omega
      have HK := Lib.hid hk
      have HU := Lib.hid hu
      have HZ := Lib.hid hz
      have HROW2 := Lib.hid hrow
      clear hk hu hz hrow
      by_cases hlt : k < K
      · obtain ⟨f, t, cc, hzz, hO, hft, htn, x, hx, hxf, hxt⟩ := HAT.out k hlt
        obtain ⟨xk, xl, xr, xf, xt, xa, xi⟩ := x
        dsimp only at hxf hxt
        subst hxf hxt
        have hN1 := own_upd H1.out.nodes HU.out (by simp)
        have hO1 := own_upd H1.out.often HU.out (by simp)
        obtain ⟨gn, Cn', hgn, en1, -⟩ := row_at (K := KD) hN1 hx
        cases hgn
        obtain ⟨go, Co', hgo, eo1, -⟩ := row_at (K := KC) hO1 hO
        cases hgo
        have c3 := (HU.out.cell (p := ⟨b, 3, none⟩) hbw (by simp)).trans HC3.out
        have n0 : wr.cell? ⟨gn, k * 7, none⟩ = some (.int .u8 xk) := en1 0 _ rfl
        have n1 : wr.cell? ⟨gn, k * 7 + 1, none⟩ = some (.int .i64 xl) := en1 1 _ rfl
        have n2 : wr.cell? ⟨gn, k * 7 + 2, none⟩ = some (.int .i64 xr) := en1 2 _ rfl
        have n3 : wr.cell? ⟨gn, k * 7 + 3, none⟩ = some (.int .i64 (f : Int)) := en1 3 _ rfl
        have n4 : wr.cell? ⟨gn, k * 7 + 4, none⟩ = some (.int .i64 (t : Int)) := en1 4 _ rfl
        have n5 : wr.cell? ⟨gn, k * 7 + 5, none⟩ = some (.int .i64 xa) := en1 5 _ rfl
        have n6 : wr.cell? ⟨gn, k * 7 + 6, none⟩ = some (.int .i64 xi) := en1 6 _ rfl
        have o0 : wr.cell? ⟨go, k, none⟩ = some (.int .i64 cc) := by
          have := eo1 0 _ rfl
          simpa [KC] using this
        have b0 : (0 : Int) ≤ (k : Int) := Int.natCast_nonneg _
        have b1 : (k : Int) < (K : Int) := by omega
        have b1l : (k : Int) < (L.length : Int) := by have := HLL.out; omega
        have b1o : (k : Int) < (O.length : Int) := by have := HOL.out; omega
        have hkb : k < 1000000 := by have := HKB.out; omega
        have HZZ := Lib.hid hzz
        have hbr : b < wr.heap.size := Nat.lt_of_lt_of_le hbw HU.out.size
        have hgor : go < wr.heap.size := World.block_lt_of_cell? wr _ o0
        have HOK := Lib.hid hO
        have hft' : f ≤ t := by omega
        clear hN1 hO1 en1 eo1 hzz hO hx
        obtain ⟨wl, hwl⟩ : ∃ wl : World, wl = wr := ⟨_, rfl⟩
        subst hwl
        go_upto_region 8 with fail
        have hW2 : Upd [] w (wl.alloc (.cells #[.int .u8 xk, .int .i64 xl, .int .i64 xr, .int .i64 (f : Int), .int .i64 (t : Int), .int .i64 xa, .int .i64 xi] 82)) := HU.out.alloc _
        have hw4 : (wl.alloc (.cells #[.int .u8 xk, .int .i64 xl, .int .i64 xr, .int .i64 (f : Int), .int .i64 (t : Int), .int .i64 xa, .int .i64 xi] 82)).cell? ⟨wl.heap.size, 4, none⟩ = some (.int .i64 (t : Int)) := by rw [World.cell?_alloc_at _ _ _ _ rfl]; rfl
        have hwr : KB.row (wl.alloc (.cells #[.int .u8 xk, .int .i64 xl, .int .i64 xr, .int .i64 (f : Int), .int .i64 (t : Int), .int .i64 xa, .int .i64 xi] 82)) w.heap.size (.slice (some ⟨w.heap.size, 0, none⟩) n n) (outL n (fun i => pAt Z k i || (decide (f ≤ i) && decide (i < f)))) := by
          have e : outL n (fun i => pAt Z k i || (decide (f ≤ i) && decide (i < f))) = outL n (pAt Z k) := outL_congr fun i _ => by
            by_cases h1 : f ≤ i
            · have : decide (i < f) = false := decide_eq_false (by omega)
              simp [this]
            · simp [h1]
          rw [e]
          exact own_upd HROW2.out ((Upd.refl [] _).alloc _) (by simp)
        have hwz : wl.heap.size < (wl.alloc (.cells #[.int .u8 xk, .int .i64 xl, .int .i64 xr, .int .i64 (f : Int), .int .i64 (t : Int), .int .i64 xa, .int .i64 xi] 82)).heap.size := by simp
        have HW2 := Lib.hid (And.intro hW2 (And.intro hw4 (And.intro hwr hwz)))
        have HWZ := Lib.hid hz1
        clear hW2 hw4 hwr hwz n0 n1 n2 n3 n4 n5 n6
        generalize (wl.alloc (.cells #[.int .u8 xk, .int .i64 xl, .int .i64 xr, .int .i64 (f : Int), .int .i64 (t : Int), .int .i64 xa, .int .i64 xi] 82)) = W2 at HW2 ⊢
        clear c3 o0
        go_loopg [6] (t - f) (fun m s6 wr => ∃ cur, m + cur = t ∧ f ≤ cur ∧ (0 < cc ∨ cur = f) ∧ s6 = .int .i64 (cur : Int) ∧ Upd [] w wr ∧ wl.heap.size < wr.heap.size ∧ wr.cell? ⟨wl.heap.size, 4, none⟩ = some (.int .i64 (t : Int)) ∧ KB.row wr w.heap.size (.slice (some ⟨w.heap.size, 0, none⟩) n n) (outL n (fun i => pAt Z k i || (decide (f ≤ i) && decide (i < cur)))))
        case atStart => exact ⟨f, by omega, Nat.le_refl _, .inr rfl, rfl, HW2.out.1, HW2.out.2.2.2, HW2.out.2.1, HW2.out.2.2.1⟩
        case round =>
          obtain ⟨cur, hcu, hfc, hcc, rfl, hu3, hz3, ht4, hr3⟩ := hrel
          have hct : cur ≤ t := by omega
          have HCU := Lib.hid hcu
          have HCC := Lib.hid hcc
          have c3 := (hu3.cell (p := ⟨b, 3, none⟩) hbw (by simp)).trans HC3.out
          have hoo : (oL (cntH H) 0 n 0 (n + 1)) = (oL (cntH H) 0 n 0 (n + 1)) := rfl
          have hO3 : KC.row wr 0 (.slice (some ⟨go, 0, none⟩) O.length Co) O := own_upd H1.out.often hu3 (by simp)
          obtain ⟨go2, Co2, hgo2, eo2, -⟩ := row_at (K := KC) hO3 HOK.out
          cases hgo2
          have o0 : wr.cell? ⟨go, k, none⟩ = some (.int .i64 cc) := by
            have := eo2 0 _ rfl
            simpa [KC] using this
          have HU3 := Lib.hid hu3
          have HR3 := Lib.hid hr3
          have HZ3 := Lib.hid (show w.heap.size < wr.heap.size by have := HZ.out; omega)
          have hc0 : (0 : Int) ≤ (cur : Int) := Int.natCast_nonneg _
          have hc1 : (cur : Int) ≤ 1000000 := by have := HNB.out; omega
          clear hcu hcc hu3 hr3 hO3 eo2 hoo
          by_cases hlt2 : cur < t
          · by_cases hpos : 0 < cc
            · have hd2 : decide (0 < cc) = true := decide_eq_true hpos
              have hcn : (cur : Int) < (n : Int) := by omega
              have hcl : (outL n (fun i => pAt Z k i || (decide (f ≤ i) && decide (i < cur)))).length = n := outL_len _ _
              obtain ⟨bb, hbb⟩ : ∃ bb, (outL n (fun i => pAt Z k i || (decide (f ≤ i) && decide (i < cur))))[cur]? = some bb := ⟨_, List.getElem?_eq_getElem (by rw [hcl]; omega)⟩
              obtain ⟨gq, Cq, hgq, eq1, eqf⟩ := row_at (K := KB) HR3.out hbb
              have hgq' : gq = w.heap.size := by injection hgq with hgq _ _; injection hgq with hgq; injection hgq with hgq; exact hgq.symm
              subst hgq'
              have q0 : wr.cell? ⟨w.heap.size, cur, none⟩ = some (.bool bb) := by
                have := eq1 0 _ rfl
                simpa [KB] using this
              have qf := eqf cur
              have HPOS := Lib.hid hpos
              clear hpos hcl hbb hgq eq1 eqf
              go_wp2_with fail
              go_roundg (t - (cur + 1))
              case measure => have := HCU.out; omega
              case rel =>
                refine ⟨cur + 1, by have := HCU.out; omega, by omega, .inl HPOS.out, by go_num, HU3.out.setCell (.inr (Nat.le_refl _)) _, by simpa [World.setCell] using hz3, ?_, ?_⟩
                · exact (World.cell?_setCell_other _ _ _ _ (fun e => by injection e with e _ _; have := HZ.out; omega)).trans ht4
                · have := KB_stored HR3.out cur
                  have e : outL n (fun i => pAt Z k i || (decide (f ≤ i) && decide (i < cur + 1))) = outL n (fun i => (pAt Z k i || (decide (f ≤ i) && decide (i < cur))) || i == cur) := outL_congr fun i _ => by
                    rw [Bool.or_assoc]
                    congr 1
                    rw [Bool.eq_iff_iff]
                    simp only [Bool.and_eq_true, Bool.or_eq_true, decide_eq_true_eq, beq_iff_eq]
                    omega
                  rw [e]
                  exact this
            · have hd2 : decide (0 < cc) = false := decide_eq_false hpos
              have hcf : cur = f := by rcases HCC.out with h | h; exact (hpos h).elim; exact h
              have HPOS := Lib.hid hpos
              have HCF := Lib.hid hcf
              clear hpos hcf
              have hrow4 : KB.row wr w.heap.size (.slice (some ⟨w.heap.size, 0, none⟩) n n) (outL n (pAt Z (k + 1))) := by
                have e : outL n (pAt Z (k + 1)) = outL n (fun i => pAt Z k i || (decide (f ≤ i) && decide (i < cur))) := outL_congr fun i _ => by
                  rw [pAt_succ Z k i _ HZZ.out]
                  unfold zAt
                  have : decide (0 < cc) = false := decide_eq_false HPOS.out
                  rw [this, HCF.out]
                  by_cases h1 : f ≤ i
                  · have h2 : decide (i < f) = false := decide_eq_false (by omega)
                    simp [h2]
                  · simp [h1]
                rw [e]
                exact HR3.out
              have HR4 := Lib.hid hrow4
              clear hrow4
              go_wp2_with fail
              go_roundg (K - (k + 1))
              case measure => have := HK.out; omega
              case rel => exact ⟨k + 1, by have := HK.out; omega, by go_num, HU3.out, HZ3.out, HR4.out⟩
          · have hpos : 0 < cc := by
              rcases HCC.out with h | h
              · exact h
              · omega
            have hct2 : cur = t := by omega
            have HPOS := Lib.hid hpos
            have HCF := Lib.hid hct2
            clear hpos hct2
            have hrow4 : KB.row wr w.heap.size (.slice (some ⟨w.heap.size, 0, none⟩) n n) (outL n (pAt Z (k + 1))) := by
              have e : outL n (pAt Z (k + 1)) = outL n (fun i => pAt Z k i || (decide (f ≤ i) && decide (i < cur))) := outL_congr fun i _ => by
                rw [pAt_succ Z k i _ HZZ.out]
                unfold zAt
                have : decide (0 < cc) = true := decide_eq_true HPOS.out
                rw [this, HCF.out]
                simp
              rw [e]
              exact HR3.out
            have HR4 := Lib.hid hrow4
            clear hrow4
            go_wp2_with fail
            go_roundg (K - (k + 1))
            case measure => have := HK.out; omega
            case rel => exact ⟨k + 1, by have := HK.out; omega, by go_num, HU3.out, HZ3.out, HR4.out⟩
      · have hkK : k = K := by omega
        have hrow5 := HROW2.out
        rw [hkK] at hrow5
        have HR5 := Lib.hid hrow5
        have hll : ¬ k < L.length := by have := HLL.out; omega
        clear hkK hrow5
        go_wp2_with fail
        go_ret
        exact ⟨_, n, by rw [HGL.out]; rfl, by rw [HGL.out]; exact HR5.out, HU.out⟩
end Go.Proofs.Ytcpompbiohaomaa
