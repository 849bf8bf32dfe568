/- gridironlaw16.awake: the chapter's examples are met. -/
import Derived.Test.YtcpompbiohaomaaWhole
import Derived.Test.YtcpompbiohaomaaNew
import Derived.Test.YtcpompbiohaomaaLits
namespace Go.Proofs.Ytcpompbiohaomaa
open Go.RowKit
attribute [local go_sem ↓] Go.wp_at_zero Go.wp_at_succ

def litC : Array Value := #[.bool false, .int .i64 0, .int .i64 5, .int .i64 0, .int .u64 5, .int .i64 1, .bool false, .int .i64 2, .int .i64 9, .int .i64 0, .int .u64 9, .int .i64 1, .bool true, .int .i64 0, .int .i64 5, .int .i64 0, .int .u64 7, .int .i64 1, .bool true, .int .i64 0, .int .i64 5, .int .i64 160, .int .u64 7, .int .i64 1, .bool false, .int .i64 0, .int .i64 2, .int .i64 0, .int .u64 9, .int .i64 1, .bool true, .int .i64 2, .int .i64 9, .int .i64 0, .int .u64 2, .int .i64 1, .bool false, .int .i64 5, .int .i64 9, .int .i64 0, .int .u64 6, .int .i64 2, .bool false, .int .i64 0, .int .i64 3, .int .i64 2, .int .u64 6, .int .i64 2, .bool false, .int .i64 2, .int .i64 2, .int .i64 0, .int .u64 6, .int .i64 2]

/-- A line of the table, in memory. -/
def lineC (w : World) (q k : Nat) (r : Rw) : Prop :=
  w.cell? ⟨q, k * 6, none⟩ = some (.bool r.d) ∧ w.cell? ⟨q, k * 6 + 1, none⟩ = some (.int .i64 r.lo) ∧ w.cell? ⟨q, k * 6 + 2, none⟩ = some (.int .i64 r.hi) ∧ w.cell? ⟨q, k * 6 + 3, none⟩ = some (.int .i64 r.e) ∧ w.cell? ⟨q, k * 6 + 4, none⟩ = some (.int .u64 r.lg) ∧ w.cell? ⟨q, k * 6 + 5, none⟩ = some (.int .i64 r.rn)

theorem lines_lit (w : World) (t : TypeId) (k : Nat) (hk : k < 9) : lineC (w.alloc (.cells litC t)) w.heap.size k (rw9 k) := by
  unfold lineC
  simp only [World.cell?_alloc_at _ _ _ _ rfl]
  rcases nine hk with rfl | rfl | rfl | rfl | rfl | rfl | rfl | rfl | rfl <;> exact ⟨rfl, rfl, rfl, rfl, rfl, rfl⟩

theorem lineC.upd {F : List Nat} {w w' : World} {q k : Nat} {r : Rw} (h : lineC w q k r) (hu : Upd F w w') (hq : q < w.heap.size) (hF : q ∉ F) : lineC w' q k r := by
  unfold lineC at *
  have e : ∀ j, w'.cell? ⟨q, j, none⟩ = w.cell? ⟨q, j, none⟩ := fun j => hu.cell (p := ⟨q, j, none⟩) hq hF
  simp only [e]
  exact h

theorem sixR {w : World} {n : Nat} {x0 x1 x2 x3 x4 x5 : Value} {T : TypeId} (h : w.heap[n]? = some (.cells #[x0, x1, x2, x3, x4, x5] T (0, 0))) :
    w.cell? ⟨n, 0, none⟩ = some x0 ∧ w.cell? ⟨n, 1, none⟩ = some x1 ∧ w.cell? ⟨n, 2, none⟩ = some x2 ∧ w.cell? ⟨n, 3, none⟩ = some x3 ∧ w.cell? ⟨n, 4, none⟩ = some x4 ∧ w.cell? ⟨n, 5, none⟩ = some x5 := by
  refine ⟨?_, ?_, ?_, ?_, ?_, ?_⟩ <;> simp [World.cell?, h]

/-- Add, or Drop. -/
theorem stepC (b : Nat) (F : List Nat) (M : List Int) (H : List (Nat × Nat)) (N : Nat) (w : World) (d : Bool) (lo hi : Int) (h : IsCov w b F M H N) (hM : MarksOk M) (hN : N < 1000000) (hH : H.length ≤ 1000000) :
    Calls Try.prog (bif d then 10 else 12) #[.pointer (some ⟨b, 0, none⟩), .int .i64 lo, .int .i64 hi] w (AdPost w b F M (stepH M H d lo hi) N (stepK M H d lo hi) (stepX M H d lo hi)) := by
  cases d
  · exact addC b F M H N w lo hi h hM hN hH
  · exact dropC b F M H N w lo hi h hM hN hH

set_option maxRecDepth 100000 in
set_option maxHeartbeats 8000000 in
theorem awake16 (w : World) :
    Calls Try.prog 5 #[] w fun e w' => e = .returned (.bool true) ∧ Upd [] w w' := by
  have hnew := newC _ M4 _ (ints_new w M4 4 rfl (by decide)) M4_ok
  have HNEW := Lib.hid hnew
  clear hnew
  unfold M4 at HNEW
  simp only [List.map_cons, List.map_nil] at HNEW
  go_enter Try.func5, Try.ntmps5
  go_wp2_with fail
  (with_reducible refine HNEW.out.mono ?_)
  rintro e w1 ⟨b, F, rfl, hC, hu1, hF⟩
  have hbad := newBad _ [1, 1] _ (ints_new w1 [1, 1] 2 rfl (by decide)) (by decide) (by decide)
  have HBAD := Lib.hid hbad
  simp only [List.map_cons, List.map_nil] at HBAD
  have hlt := hC.lt
  have HC := Lib.hid (show IsCov w1 b F M4 [] 0 from hC)
  have HU1 := Lib.hid ((Upd.refl [] _).alloc _ |>.trans hu1)
  have HF := Lib.hid (And.intro (fun y hy => Nat.le_trans ((Upd.refl [] w).alloc _).size (hF y hy)) hlt)
  clear hbad hC hu1 hF hlt
  go_wp2_with fail
  (with_reducible refine HBAD.out.mono ?_)
  rintro e w2 ⟨rfl, hu2⟩
  have HU2 := Lib.hid ((Upd.refl [] _).alloc _ |>.trans hu2)
  clear hu2 HBAD HNEW
  go_wp2_with fail
  have hlin := lines_lit w2 59
  have hq : w2.heap.size < (w2.alloc (.cells litC 59)).heap.size := by simp
  have hu3 : Upd [] w2 (w2.alloc (.cells litC 59)) := (Upd.refl _ _).alloc _
  unfold litC at hlin hq hu3
  generalize (w2.alloc (.cells #[.bool false, .int .i64 0, .int .i64 5, .int .i64 0, .int .u64 5, .int .i64 1, .bool false, .int .i64 2, .int .i64 9, .int .i64 0, .int .u64 9, .int .i64 1, .bool true, .int .i64 0, .int .i64 5, .int .i64 0, .int .u64 7, .int .i64 1, .bool true, .int .i64 0, .int .i64 5, .int .i64 160, .int .u64 7, .int .i64 1, .bool false, .int .i64 0, .int .i64 2, .int .i64 0, .int .u64 9, .int .i64 1, .bool true, .int .i64 2, .int .i64 9, .int .i64 0, .int .u64 2, .int .i64 1, .bool false, .int .i64 5, .int .i64 9, .int .i64 0, .int .u64 6, .int .i64 2, .bool false, .int .i64 0, .int .i64 3, .int .i64 2, .int .u64 6, .int .i64 2, .bool false, .int .i64 2, .int .i64 2, .int .i64 0, .int .u64 6, .int .i64 2] 59)) = W0 at hlin hq hu3 ⊢
  have HLIN := Lib.hid hlin
  have HU3 := Lib.hid hu3
  have HU3a := HU3
  have HQ := Lib.hid (show w2.heap.size < W0.heap.size ∧ w2.heap.size ∉ F from ⟨hq, fun h => by have := HF.out.2 _ h; have := HU2.out.size; omega⟩)
  have HC0 := Lib.hid ((HC.out.upd0 HU2.out).upd0 HU3.out)
  obtain ⟨q, hqq⟩ : ∃ q, w2.heap.size = q := ⟨_, rfl⟩
  rw [hqq] at HLIN HQ ⊢
  clear hqq hlin hq hu3
  go_loopg [41] 9 (fun m s wr => ∃ k, m + k = 9 ∧ s = .int .i64 (k : Int) ∧ (∃ N, N ≤ k ∧ IsCov wr b F M4 (stH k) N) ∧ Upd F W0 wr)
  case atStart => exact ⟨0, rfl, rfl, ⟨0, Nat.le_refl _, HC0.out⟩, Upd.refl _ _⟩
  case round =>
    obtain ⟨k, hk, rfl, ⟨N, hN, hc⟩, hu⟩ := hrel
    have hk9 : k ≤ 9 := by omega
    have b0 : (0 : Int) ≤ (k : Int) := Int.natCast_nonneg _
    have HK := Lib.hid hk
    have HN := Lib.hid hN
    have HC := Lib.hid hc
    have HU := Lib.hid hu
    clear hk hN hc hu
    by_cases hlt : k < 9
    · have hd9 : decide (k < 9) = true := decide_eq_true hlt
      have hln := (HLIN.out k hlt).upd HU.out HQ.out.1 HQ.out.2
      have hH1 := stH_succ k hlt
      have hX1 := stX k hlt
      have hW1 := stWhole k hlt
      obtain ⟨r, hr⟩ : ∃ r, rw9 k = r := ⟨_, rfl⟩
      rw [hr] at hln hH1 hX1 hW1
      obtain ⟨d, lo, hi, er, lg, rn⟩ := r
      dsimp only at hH1 hX1 hW1
      have b1 : (k : Int) < 9 := by omega
      have HLT := Lib.hid hlt
      have HH1 := Lib.hid hH1
      have HX1 := Lib.hid hX1
      have HW1 := Lib.hid hW1
      have ha := fun w1 (hu : Upd [] wr w1) => stepC b F M4 (stH k) N w1 d lo hi (HC.out.upd0 hu) M4_ok (by have := HN.out; omega) (stLen k (by omega))
      obtain ⟨K, hK⟩ : ∃ K, stepK M4 (stH k) d lo hi = K := ⟨_, rfl⟩
      rw [hH1, hX1, hK] at ha
      have HA := Lib.hid ha
      unfold lineC at hln
      dsimp only at hln
      obtain ⟨l0, l1, l2, l3, l4, l5⟩ := hln
      clear ha hK hr hH1 hX1 hW1 hlt
      rcases d with _ | _
      · have hb := HA.out _ ((Upd.refl [] wr).alloc (.cells #[.bool false, .int .i64 lo, .int .i64 hi, .int .i64 er, .int .u64 lg, .int .i64 rn] 59))
        simp only [cond_false] at hb
        have HB := Lib.hid hb
        clear hb
        go_wp2_with fail
        (with_reducible refine HB.out.mono ?_)
        rintro e w3 ⟨rfl, ⟨N', hN', hc'⟩, hu3⟩
        have h6 := (hu3.block wr.heap.size (by simp) (fun h => by have := HF.out.2 _ h; have := HU2.out.size; have := HU3.out.size; have := HU.out.size; omega)).trans (heap_alloc_new wr _)
        have h6l := lt_of_block h6
        obtain ⟨-, -, -, c3, c4, c5⟩ := sixR h6
        have d3 : ∀ x : QW w3, x.w.cell? ⟨wr.heap.size, 3, none⟩ = some (.int .i64 er) := fun x => (x.up.cell (p := ⟨wr.heap.size, 3, none⟩) h6l (by simp)).trans c3
        have d4 : ∀ x : QW w3, x.w.cell? ⟨wr.heap.size, 4, none⟩ = some (.int .u64 lg) := fun x => (x.up.cell (p := ⟨wr.heap.size, 4, none⟩) h6l (by simp)).trans c4
        have d5 : ∀ x : QW w3, x.w.cell? ⟨wr.heap.size, 5, none⟩ = some (.int .i64 rn) := fun x => (x.up.cell (p := ⟨wr.heap.size, 5, none⟩) h6l (by simp)).trans c5
        have hlong : ∀ x : QW w3, Calls Try.prog 14 #[.pointer (some ⟨b, 0, none⟩)] x.w fun e w' => e = .returned (.int .u64 lg) ∧ Upd [] x.w w' := fun x => by
          have := longC b F M4 (stH (k + 1)) N' x.w (hc'.upd0 x.up)
          rw [HW1.out.1] at this
          exact this
        have hruns : ∀ x : QW w3, Calls Try.prog 16 #[.pointer (some ⟨b, 0, none⟩)] x.w fun e w' => e = .returned (.int .i64 rn) ∧ Upd [] x.w w' := fun x => by
          have := runsC b F M4 (stH (k + 1)) N' x.w (hc'.upd0 x.up)
          rw [HW1.out.2] at this
          exact this
        have HLONG := Lib.hid hlong
        have HRUNS := Lib.hid hruns
        have HC3 := Lib.hid (And.intro hc' (And.intro hN' ((HU.out.alloc _).trans hu3)))
        clear h6 h6l c3 c4 c5 hlong hruns hc' hN' hu3
        go_wp2_with fail
        refine wp_region_quietU (by kernel_rfl) (by kernel_rfl) ?_
        repeat (go_big_quiet_step (first | exact Calls.quietU (HLONG.out _) | exact Calls.quietU (HRUNS.out _)))
        refine wpQuiet_nil ?_
        intro _ hw'
        obtain ⟨⟨wq, hwq⟩, hw''⟩ := hw'
        dsimp only at hw''
        subst hw''
        go_wp2_with fail
        go_roundg (gk - 1)
        case measure => have := HK.out; have := HLT.out; omega
        case rel => exact ⟨k + 1, by have := HK.out; have := HLT.out; omega, by go_num, ⟨N', by have := HC3.out.2.1; have := HN.out; omega, HC3.out.1.upd0 hwq⟩, HC3.out.2.2.trans (hwq.mono (by simp))⟩
      · have hb := HA.out _ ((Upd.refl [] wr).alloc (.cells #[.bool true, .int .i64 lo, .int .i64 hi, .int .i64 er, .int .u64 lg, .int .i64 rn] 59))
        simp only [cond_true] at hb
        have HB := Lib.hid hb
        clear hb
        go_wp2_with fail
        (with_reducible refine HB.out.mono ?_)
        rintro e w3 ⟨rfl, ⟨N', hN', hc'⟩, hu3⟩
        have h6 := (hu3.block wr.heap.size (by simp) (fun h => by have := HF.out.2 _ h; have := HU2.out.size; have := HU3.out.size; have := HU.out.size; omega)).trans (heap_alloc_new wr _)
        have h6l := lt_of_block h6
        obtain ⟨-, -, -, c3, c4, c5⟩ := sixR h6
        have d3 : ∀ x : QW w3, x.w.cell? ⟨wr.heap.size, 3, none⟩ = some (.int .i64 er) := fun x => (x.up.cell (p := ⟨wr.heap.size, 3, none⟩) h6l (by simp)).trans c3
        have d4 : ∀ x : QW w3, x.w.cell? ⟨wr.heap.size, 4, none⟩ = some (.int .u64 lg) := fun x => (x.up.cell (p := ⟨wr.heap.size, 4, none⟩) h6l (by simp)).trans c4
        have d5 : ∀ x : QW w3, x.w.cell? ⟨wr.heap.size, 5, none⟩ = some (.int .i64 rn) := fun x => (x.up.cell (p := ⟨wr.heap.size, 5, none⟩) h6l (by simp)).trans c5
        have hlong : ∀ x : QW w3, Calls Try.prog 14 #[.pointer (some ⟨b, 0, none⟩)] x.w fun e w' => e = .returned (.int .u64 lg) ∧ Upd [] x.w w' := fun x => by
          have := longC b F M4 (stH (k + 1)) N' x.w (hc'.upd0 x.up)
          rw [HW1.out.1] at this
          exact this
        have hruns : ∀ x : QW w3, Calls Try.prog 16 #[.pointer (some ⟨b, 0, none⟩)] x.w fun e w' => e = .returned (.int .i64 rn) ∧ Upd [] x.w w' := fun x => by
          have := runsC b F M4 (stH (k + 1)) N' x.w (hc'.upd0 x.up)
          rw [HW1.out.2] at this
          exact this
        have HLONG := Lib.hid hlong
        have HRUNS := Lib.hid hruns
        have HC3 := Lib.hid (And.intro hc' (And.intro hN' ((HU.out.alloc _).trans hu3)))
        clear h6 h6l c3 c4 c5 hlong hruns hc' hN' hu3
        go_wp2_with fail
        refine wp_region_quietU (by kernel_rfl) (by kernel_rfl) ?_
        repeat (go_big_quiet_step (first | exact Calls.quietU (HLONG.out _) | exact Calls.quietU (HRUNS.out _)))
        refine wpQuiet_nil ?_
        intro _ hw'
        obtain ⟨⟨wq, hwq⟩, hw''⟩ := hw'
        dsimp only at hw''
        subst hw''
        go_wp2_with fail
        go_roundg (gk - 1)
        case measure => have := HK.out; have := HLT.out; omega
        case rel => exact ⟨k + 1, by have := HK.out; have := HLT.out; omega, by go_num, ⟨N', by have := HC3.out.2.1; have := HN.out; omega, HC3.out.1.upd0 hwq⟩, HC3.out.2.2.trans (hwq.mono (by simp))⟩
    · have hk : k = 9 := by omega
      subst hk
      have HG := Lib.hid (gapsC b F M4 (stH 9) N wr HC.out (by decide))
      rw [stGaps] at HG
      clear hlt hk9
      go_wp2_with fail
      (with_reducible refine HG.out.mono ?_)
      rintro e w3 ⟨A, C, rfl, hrow, hu3⟩
      have hs3 := See.of_row hrow
      have hlit := bools_new w3 [true, false, true] 3 rfl (by decide)
      have hsm := same16 _ _ _ _ _ (hs3.upd0 ((Upd.refl [] w3).alloc _)) hlit (by decide) (by decide)
      simp only [List.map_cons, List.map_nil, decide_true, List.length_cons, List.length_nil] at hsm
      have HSM := Lib.hid hsm
      have HU3 := Lib.hid (hu3.alloc (.cells #[.bool true, .bool false, .bool true] 4))
      clear hs3 hlit hsm hrow hu3
      go_wp2_with fail
      (with_reducible refine HSM.out.mono ?_)
      rintro e w4 ⟨rfl, hu4⟩
      have HU4 := Lib.hid hu4
      clear hu4
      go_wp2_with fail
      go_ret
      exact ⟨rfl, ((((HU1.out.trans HU2.out).trans HU3a.out).trans' HU.out (fun x hx => .inr (HF.out.1 x hx))).trans HU3.out).trans HU4.out⟩
end Go.Proofs.Ytcpompbiohaomaa
