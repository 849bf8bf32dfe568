/- gridironlaw22.awake: the chapter's examples are met. -/
import Derived.Test.YtkhgglafnjfiaaaHalfW
import Derived.Test.YtkhgglafnjfiaaaLaw20b
namespace Go.Proofs.Ytkhgglafnjfiaaa
open Go.RowKit
attribute [local go_sem ↓] Go.wp_at_zero Go.wp_at_succ

theorem HStep.up {w w' : World} {hv : Value} {F : List Nat} {S : HS} (h : HStep w w' hv F S) : Upd F w w' := by
  obtain ⟨_, _, h2, _⟩ := h
  exact h2

def LX : List Int := [5, 3, 9]
def st (k : Nat) : HS := (LX.take k).foldl putS S00
def st4 : HS := lessS (st 3) 5
def st5 : HS := lessS st4 9

theorem st_succ (k : Nat) (hk : k < 3) : putS (st k) (LX.getD k 0) = st (k + 1) := by
  rcases (by omega : k = 0 ∨ k = 1 ∨ k = 2) with rfl | rfl | rfl <;> rfl

theorem st_put (k : Nat) (hk : k < 3) : putN (st k) (LX.getD k 0) = 1 + k % 2 ∧ has (st k) (LX.getD k 0) = false := by
  rcases (by omega : k = 0 ∨ k = 1 ∨ k = 2) with rfl | rfl | rfl <;> decide +kernel

theorem st_tr3 : treesL (st 3) = [[3, 5], [9]] := by decide +kernel
theorem st_n4 : lessN (st 3) 5 = 0 ∧ has (st 3) 5 = true := by decide +kernel
theorem st_tr4 : treesL st4 = [[3], [9]] := by decide +kernel
theorem st_v4 : (view st4).length = 3 := by decide +kernel
theorem st_n5 : lessN st4 9 = 1 ∧ has st4 9 = true := by decide +kernel
theorem st_tr5 : treesL st5 = [[3]] := by decide +kernel
theorem st_v5 : (view st5).length = 1 := by decide +kernel
theorem st_n6 : putN st5 3 = 0 ∧ has st5 3 = true := by decide +kernel
theorem st_p6 : putS st5 3 = st5 := by unfold putS; rw [if_pos st_n6.2]

theorem st_ok (k : Nat) (hk : k ≤ 3) : HOk (st k) k := by
  induction k with
  | zero => exact ok00
  | succ k ih => rw [← st_succ k (by omega)]; exact (ih (by omega)).put (by omega) _
theorem st4_ok : HOk st4 4 := (st_ok 3 (Nat.le_refl _)).less (by omega) _
theorem st5_ok : HOk st5 5 := st4_ok.less (by omega) _

theorem rows_two (w : World) (t t' : TypeId) (a b : List Int) (na nb : Nat) (ha : na = a.length) (hb : nb = b.length) (hna : na ≤ maxLen) (hnb : nb ≤ maxLen) :
    RowsSee (((w.alloc (.cells (a.map fun x => (.int .i64 x : Value)).toArray t)).alloc (.cells (b.map fun x => (.int .i64 x : Value)).toArray t)).alloc (.cells #[.slice (some ⟨w.heap.size, 0, none⟩) na na, .slice (some ⟨w.heap.size + 1, 0, none⟩) nb nb] t'))
      (.slice (some ⟨w.heap.size + 1 + 1, 0, none⟩) 2 2) [a, b] := by
  have q1 := ((ints_lit w t a na ha hna).upd0 ((Upd.refl [] _).alloc (.cells (b.map fun x => (.int .i64 x : Value)).toArray t))).upd0 ((Upd.refl [] _).alloc (.cells #[.slice (some ⟨w.heap.size, 0, none⟩) na na, .slice (some ⟨w.heap.size + 1, 0, none⟩) nb nb] t'))
  have q2 := (ints_lit (w.alloc (.cells (a.map fun x => (.int .i64 x : Value)).toArray t)) t b nb hb hnb).upd0 ((Upd.refl [] _).alloc (.cells #[.slice (some ⟨w.heap.size, 0, none⟩) na na, .slice (some ⟨w.heap.size + 1, 0, none⟩) nb nb] t'))
  have q3 := sees_lit ((w.alloc (.cells (a.map fun x => (.int .i64 x : Value)).toArray t)).alloc (.cells (b.map fun x => (.int .i64 x : Value)).toArray t)) #[.slice (some ⟨w.heap.size, 0, none⟩) na na, .slice (some ⟨w.heap.size + 1, 0, none⟩) nb nb] t' 1 2 rfl (by decide)
  simp only [World.size_alloc] at q1 q2 q3
  refine ⟨_, q3, fun k u l hk hl => ?_⟩
  rcases k with _ | _ | k
  · cases hk; cases hl; exact q1
  · cases hk; cases hl; exact q2
  · simp at hl

theorem rows_one (w : World) (t t' : TypeId) (a : List Int) (na : Nat) (ha : na = a.length) (hna : na ≤ maxLen) :
    RowsSee ((w.alloc (.cells (a.map fun x => (.int .i64 x : Value)).toArray t)).alloc (.cells #[.slice (some ⟨w.heap.size, 0, none⟩) na na] t'))
      (.slice (some ⟨w.heap.size + 1, 0, none⟩) 1 1) [a] := by
  have q1 := (ints_lit w t a na ha hna).upd0 ((Upd.refl [] _).alloc (.cells #[.slice (some ⟨w.heap.size, 0, none⟩) na na] t'))
  have q3 := sees_lit (w.alloc (.cells (a.map fun x => (.int .i64 x : Value)).toArray t)) #[.slice (some ⟨w.heap.size, 0, none⟩) na na] t' 1 1 rfl (by decide)
  simp only [World.size_alloc] at q1 q3
  refine ⟨_, q3, fun k u l hk hl => ?_⟩
  rcases k with _ | k
  · cases hk; cases hl; exact q1
  · simp at hl

set_option maxRecDepth 100000 in
set_option maxHeartbeats 1000000 in
theorem awake22 (w : World) :
    Calls Try.prog 44 #[] w fun e w' => e = .returned (.bool true) ∧ Upd [] w w' := by
  have hnew := newW w
  unfold fnBuild fnDrop at hnew
  have HNEW := Lib.hid hnew
  clear hnew
  go_enter Try.func44, Try.ntmps44
  go_wp2_with fail
  refine HNEW.out.mono ?_
  rintro e w1 ⟨b, F, rfl, hH, hu1, hF⟩
  have hlit := sees_lit w1 #[.int .i64 5, .int .i64 3, .int .i64 9] 2 1 3 rfl (by decide)
  have hH' := HStep.refl (hH.upd ((Upd.refl [] w1).alloc (.cells #[.int .i64 5, .int .i64 3, .int .i64 9] 2)) (by simp))
  have hb1 : ∀ x ∈ F, x < w1.heap.size := fun x hx => (hF x hx).2
  have hc : ∀ k, k < 3 → (w1.alloc (.cells #[.int .i64 5, .int .i64 3, .int .i64 9] 2)).cell? ⟨w1.heap.size, k, none⟩ = some (.int .i64 (LX.getD k 0)) := by
    intro k hk
    rw [World.cell?_alloc_at _ _ _ _ rfl]
    rcases (by omega : k = 0 ∨ k = 1 ∨ k = 2) with rfl | rfl | rfl <;> rfl
  have huW : Upd [] w (w1.alloc (.cells #[.int .i64 5, .int .i64 3, .int .i64 9] 2)) := hu1.alloc _
  have hsz : w1.heap.size < (w1.alloc (.cells #[.int .i64 5, .int .i64 3, .int .i64 9] 2)).heap.size := by simp
  have HH := Lib.hid hH'
  have HB := Lib.hid hb1
  have HC := Lib.hid hc
  have HUW := Lib.hid huW
  have HU1 := Lib.hid hu1
  have HF := Lib.hid hF
  clear hlit hH hH' hb1 hc huW hu1 hF
  go_upto_block 0 with fail
  obtain ⟨q, hq⟩ : ∃ q, w1.heap.size = q := ⟨_, rfl⟩
  rw [hq] at HC HB hsz ⊢
  have HQ := Lib.hid hq
  clear hq
  generalize (w1.alloc (.cells #[.int .i64 5, .int .i64 3, .int .i64 9] 2)) = W at *
  go_cut [] (fun wc => HStep W wc (.pointer (some ⟨b, 0, none⟩)) F (st 3))
  case first =>
    go_wp2_with fail
    go_loopg [14] 3 (fun m i wr => ∃ k, m + k = 3 ∧ i = .int .i64 (k : Int) ∧ HStep W wr (.pointer (some ⟨b, 0, none⟩)) F (st k))
    case atStart => exact ⟨0, rfl, rfl, HH.out⟩
    case round =>
      obtain ⟨k, hk, rfl, hst⟩ := hrel
      have hu := hst.up
      have hk3 : k ≤ 3 := by omega
      have HK := Lib.hid hk
      have HS := Lib.hid hst
      have HU := Lib.hid hu
      clear hk hst hu
      by_cases hlt : k < 3
      · have hc' := (HU.out.cell (p := ⟨q, k, none⟩) hsz (fun hc => by have := HB.out q hc; omega)).trans (HC.out k hlt)
        have b0 : (0 : Int) ≤ (k : Int) := Int.natCast_nonneg _
        have b1 : (k : Int) < 3 := by omega
        obtain ⟨x, hx⟩ : ∃ x, LX.getD k 0 = x := ⟨_, rfl⟩
        have hs1 := st_succ k hlt
        obtain ⟨hs2, hs3⟩ := st_put k hlt
        have hwf : (Lit.int .i64 x).wf = true := by
          rw [← hx]
          rcases (by omega : k = 0 ∨ k = 1 ∨ k = 2) with rfl | rfl | rfl <;> decide
        rw [hx] at hc' hs1 hs2 hs3
        have HS1 := Lib.hid hs1
        have HS2 := Lib.hid hs2
        have HS3 := Lib.hid hs3
        have HX := Lib.hid hx
        clear hs1 hs2 hs3 hx
        go_wp2_with fail
        refine (addW HS.out (st_ok k (by omega)) (by omega) x hwf).mono ?_
        rintro e w2 ⟨rfl, hst2⟩
        rw [HS1.out] at hst2
        rw [HS2.out, HS3.out]
        have HS4 := Lib.hid hst2
        clear hst2
        go_wp2_with fail
        go_roundg (gk - 1)
        case measure => have := HK.out; omega
        case rel => exact ⟨k + 1, by have := HK.out; omega, by go_num, HS4.out⟩
      · have h3 : k = 3 := by omega
        subst h3
        go_wp2_with fail
        go_meet
        case rel => exact HS.out
  case rest =>
    have HS := Lib.hid hcut
    clear hcut
    have R3 := Lib.hid st_tr3
    have R4 := Lib.hid st_tr4
    have R5 := Lib.hid st_tr5
    have N4 := Lib.hid st_n4
    have N5 := Lib.hid st_n5
    have N6 := Lib.hid st_n6
    go_wp2_with fail
    refine (treesEqW (HS.out.quiet ((((Upd.refl [] wc).alloc _).alloc _).alloc _)) (st_ok 3 (Nat.le_refl _)) (by omega) _ [[3, 5], [9]] (rows_two wc 2 22 [3, 5] [9] 2 1 rfl rfl (by decide) (by decide)) (by decide) (by simp)).mono ?_
    rintro e w2 ⟨rfl, hu2⟩
    rw [decide_eq_true R3.out]
    have HS2 := Lib.hid (HS.out.quiet (((((Upd.refl [] wc).alloc _).alloc _).alloc _).trans hu2))
    clear hu2
    go_wp2_with fail
    refine (dropW HS2.out (st_ok 3 (Nat.le_refl _)) (by omega) 5 (by decide)).mono ?_
    rintro e w3 ⟨rfl, hst3⟩
    rw [N4.out.1, N4.out.2]
    change HStep _ _ _ _ st4 at hst3
    have HS3 := Lib.hid hst3
    clear hst3
    go_wp2_with fail
    refine (treesEqW (HS3.out.quiet ((((Upd.refl [] w3).alloc _).alloc _).alloc _)) st4_ok (by omega) _ [[3], [9]] (rows_two w3 2 22 [3] [9] 1 1 rfl rfl (by decide) (by decide)) (by decide) (by simp)).mono ?_
    rintro e w4 ⟨rfl, hu4⟩
    rw [decide_eq_true R4.out]
    have HS4 := Lib.hid (HS3.out.quiet (((((Upd.refl [] w3).alloc _).alloc _).alloc _).trans hu4))
    clear hu4
    go_wp2_with fail
    refine (storedW HS4.out).mono ?_
    rintro e w' ⟨rfl, rfl⟩
    rw [st_v4]
    go_wp2_with fail
    refine (dropW HS4.out st4_ok (by omega) 9 (by decide)).mono ?_
    rintro e w5 ⟨rfl, hst5⟩
    rw [N5.out.1, N5.out.2]
    change HStep _ _ _ _ st5 at hst5
    have HS5 := Lib.hid hst5
    clear hst5
    go_wp2_with fail
    refine (addW HS5.out st5_ok (by omega) 3 (by decide)).mono ?_
    rintro e w6 ⟨rfl, hst6⟩
    rw [N6.out.1, N6.out.2]
    rw [st_p6] at hst6
    have HS6 := Lib.hid hst6
    clear hst6
    go_wp2_with fail
    refine (treesEqW (HS6.out.quiet (((Upd.refl [] w6).alloc _).alloc _)) st5_ok (by omega) _ [[3]] (rows_one w6 2 22 [3] 1 rfl (by decide)) (by decide) (by simp)).mono ?_
    rintro e w7 ⟨rfl, hu7⟩
    rw [decide_eq_true R5.out]
    have HS7 := Lib.hid (HS6.out.quiet ((((Upd.refl [] w6).alloc _).alloc _).trans hu7))
    clear hu7
    go_wp2_with fail
    refine (storedW HS7.out).mono ?_
    rintro e w' ⟨rfl, rfl⟩
    rw [st_v5]
    go_wp2_with fail
    go_ret
    exact ⟨rfl, HUW.out.trans' HS7.out.up (fun x hx => .inr (HF.out x hx).1)⟩
end Go.Proofs.Ytkhgglafnjfiaaa
