/- gridironlaw22.awake: the chapter's examples are met. The state of the statements' loops: a Half that was made since W, and blocks of the statement's own beside it. Half, plainly: the trees have together just what is alive. Two Halves beside each other; what is alive and stored as unlike things come, and go. -/
import Derived.Test.YtkhgglafnjfiaaaHalfW
import Derived.Test.YtkhgglafnjfiaaaLaw20b
import Derived.Test.YtkhgglafnjfiaaaOpA
namespace Go.Proofs.Ytkhgglafnjfiaaa
open Go.RowKit
attribute [local go_sem ↓] Go.wp_at_zero Go.wp_at_succ

theorem HStep.up {w w' : World} {hv : Value} {F : List Nat} {S : HS} (h : HStep w w' hv F S) : Upd F w w' := by
  obtain ⟨_, _, h2, _⟩ := h
  exact h2

def LX : List Int := [5, 3, 9]
def st (k : Nat) : HS := (LX.take k).foldl putS S00
def st4 : HS := lessS (st 3) 5
def st5 : HS := lessS st4 9

theorem st_succ (k : Nat) (hk : k < 3) : putS (st k) (LX.getD k 0) = st (k + 1) := by
  rcases (by omega : k = 0 ∨ k = 1 ∨ k = 2) with rfl | rfl | rfl <;> rfl

theorem st_put (k : Nat) (hk : k < 3) : putN (st k) (LX.getD k 0) = 1 + k % 2 ∧ has (st k) (LX.getD k 0) = false := by
  rcases (by omega : k = 0 ∨ k = 1 ∨ k = 2) with rfl | rfl | rfl <;> decide +kernel

theorem st_tr3 : treesL (st 3) = [[3, 5], [9]] := by decide +kernel
theorem st_n4 : lessN (st 3) 5 = 0 ∧ has (st 3) 5 = true := by decide +kernel
theorem st_tr4 : treesL st4 = [[3], [9]] := by decide +kernel
theorem st_v4 : (view st4).length = 3 := by decide +kernel
theorem st_n5 : lessN st4 9 = 1 ∧ has st4 9 = true := by decide +kernel
theorem st_tr5 : treesL st5 = [[3]] := by decide +kernel
theorem st_v5 : (view st5).length = 1 := by decide +kernel
theorem st_n6 : putN st5 3 = 0 ∧ has st5 3 = true := by decide +kernel
theorem st_p6 : putS st5 3 = st5 := by unfold putS; rw [if_pos st_n6.2]

theorem st_ok (k : Nat) (hk : k ≤ 3) : HOk (st k) k := by
  induction k with
  | zero => exact ok00
  | succ k ih => rw [← st_succ k (by omega)]; exact (ih (by omega)).put (by omega) _
theorem st4_ok : HOk st4 4 := (st_ok 3 (Nat.le_refl _)).less (by omega) _
theorem st5_ok : HOk st5 5 := st4_ok.less (by omega) _

theorem rows_two (w : World) (t t' : TypeId) (a b : List Int) (na nb : Nat) (ha : na = a.length) (hb : nb = b.length) (hna : na ≤ maxLen) (hnb : nb ≤ maxLen) :
    RowsSee (((w.alloc (.cells (a.map fun x => (.int .i64 x : Value)).toArray t)).alloc (.cells (b.map fun x => (.int .i64 x : Value)).toArray t)).alloc (.cells #[.slice (some ⟨w.heap.size, 0, none⟩) na na, .slice (some ⟨w.heap.size + 1, 0, none⟩) nb nb] t'))
      (.slice (some ⟨w.heap.size + 1 + 1, 0, none⟩) 2 2) [a, b] := by
  have q1 := ((ints_lit w t a na ha hna).upd0 ((Upd.refl [] _).alloc (.cells (b.map fun x => (.int .i64 x : Value)).toArray t))).upd0 ((Upd.refl [] _).alloc (.cells #[.slice (some ⟨w.heap.size, 0, none⟩) na na, .slice (some ⟨w.heap.size + 1, 0, none⟩) nb nb] t'))
  have q2 := (ints_lit (w.alloc (.cells (a.map fun x => (.int .i64 x : Value)).toArray t)) t b nb hb hnb).upd0 ((Upd.refl [] _).alloc (.cells #[.slice (some ⟨w.heap.size, 0, none⟩) na na, .slice (some ⟨w.heap.size + 1, 0, none⟩) nb nb] t'))
  have q3 := sees_lit ((w.alloc (.cells (a.map fun x => (.int .i64 x : Value)).toArray t)).alloc (.cells (b.map fun x => (.int .i64 x : Value)).toArray t)) #[.slice (some ⟨w.heap.size, 0, none⟩) na na, .slice (some ⟨w.heap.size + 1, 0, none⟩) nb nb] t' 1 2 rfl (by decide)
  simp only [World.size_alloc] at q1 q2 q3
  refine ⟨_, q3, fun k u l hk hl => ?_⟩
  rcases k with _ | _ | k
  · cases hk; cases hl; exact q1
  · cases hk; cases hl; exact q2
  · simp at hl

theorem rows_one (w : World) (t t' : TypeId) (a : List Int) (na : Nat) (ha : na = a.length) (hna : na ≤ maxLen) :
    RowsSee ((w.alloc (.cells (a.map fun x => (.int .i64 x : Value)).toArray t)).alloc (.cells #[.slice (some ⟨w.heap.size, 0, none⟩) na na] t'))
      (.slice (some ⟨w.heap.size + 1, 0, none⟩) 1 1) [a] := by
  have q1 := (ints_lit w t a na ha hna).upd0 ((Upd.refl [] _).alloc (.cells #[.slice (some ⟨w.heap.size, 0, none⟩) na na] t'))
  have q3 := sees_lit (w.alloc (.cells (a.map fun x => (.int .i64 x : Value)).toArray t)) #[.slice (some ⟨w.heap.size, 0, none⟩) na na] t' 1 1 rfl (by decide)
  simp only [World.size_alloc] at q1 q3
  refine ⟨_, q3, fun k u l hk hl => ?_⟩
  rcases k with _ | k
  · cases hk; cases hl; exact q1
  · simp at hl

set_option maxRecDepth 100000 in
set_option maxHeartbeats 1000000 in
theorem awake22 (w : World) :
    Calls Try.prog 44 #[] w fun e w' => e = .returned (.bool true) ∧ Upd [] w w' := by
  have hnew := newW w
  unfold fnBuild fnDrop at hnew
  have HNEW := Lib.hid hnew
  clear hnew
  go_enter Try.func44, Try.ntmps44
  go_wp2_with fail
  refine HNEW.out.mono ?_
  rintro e w1 ⟨b, F, rfl, hH, hu1, hF⟩
  have hlit := sees_lit w1 #[.int .i64 5, .int .i64 3, .int .i64 9] 2 1 3 rfl (by decide)
  have hH' := HStep.refl (hH.upd ((Upd.refl [] w1).alloc (.cells #[.int .i64 5, .int .i64 3, .int .i64 9] 2)) (by simp))
  have hb1 : ∀ x ∈ F, x < w1.heap.size := fun x hx => (hF x hx).2
  have hc : ∀ k, k < 3 → (w1.alloc (.cells #[.int .i64 5, .int .i64 3, .int .i64 9] 2)).cell? ⟨w1.heap.size, k, none⟩ = some (.int .i64 (LX.getD k 0)) := by
    intro k hk
    rw [World.cell?_alloc_at _ _ _ _ rfl]
    rcases (by omega : k = 0 ∨ k = 1 ∨ k = 2) with rfl | rfl | rfl <;> rfl
  have huW : Upd [] w (w1.alloc (.cells #[.int .i64 5, .int .i64 3, .int .i64 9] 2)) := hu1.alloc _
  have hsz : w1.heap.size < (w1.alloc (.cells #[.int .i64 5, .int .i64 3, .int .i64 9] 2)).heap.size := by simp
  have HH := Lib.hid hH'
  have HB := Lib.hid hb1
  have HC := Lib.hid hc
  have HUW := Lib.hid huW
  have HU1 := Lib.hid hu1
  have HF := Lib.hid hF
  clear hlit hH hH' hb1 hc huW hu1 hF
  go_upto_block 0 with fail
  obtain ⟨q, hq⟩ : ∃ q, w1.heap.size = q := ⟨_, rfl⟩
  rw [hq] at HC HB hsz ⊢
  have HQ := Lib.hid hq
  clear hq
  generalize (w1.alloc (.cells #[.int .i64 5, .int .i64 3, .int .i64 9] 2)) = W at *
  go_cut [] (fun wc => HStep W wc (.pointer (some ⟨b, 0, none⟩)) F (st 3))
  case first =>
    go_wp2_with fail
    go_loopg [14] 3 (fun m i wr => ∃ k, m + k = 3 ∧ i = .int .i64 (k : Int) ∧ HStep W wr (.pointer (some ⟨b, 0, none⟩)) F (st k))
    case atStart => exact ⟨0, rfl, rfl, HH.out⟩
    case round =>
      obtain ⟨k, hk, rfl, hst⟩ := hrel
      have hu := hst.up
      have hk3 : k ≤ 3 := by omega
      have HK := Lib.hid hk
      have HS := Lib.hid hst
      have HU := Lib.hid hu
      clear hk hst hu
      by_cases hlt : k < 3
      · have hc' := (HU.out.cell (p := ⟨q, k, none⟩) hsz (fun hc => by have := HB.out q hc; omega)).trans (HC.out k hlt)
        have b0 : (0 : Int) ≤ (k : Int) := Int.natCast_nonneg _
        have b1 : (k : Int) < 3 := by omega
        obtain ⟨x, hx⟩ : ∃ x, LX.getD k 0 = x := ⟨_, rfl⟩
        have hs1 := st_succ k hlt
        obtain ⟨hs2, hs3⟩ := st_put k hlt
        have hwf : (Lit.int .i64 x).wf = true := by
          rw [← hx]
          rcases (by omega : k = 0 ∨ k = 1 ∨ k = 2) with rfl | rfl | rfl <;> decide
        rw [hx] at hc' hs1 hs2 hs3
        have HS1 := Lib.hid hs1
        have HS2 := Lib.hid hs2
        have HS3 := Lib.hid hs3
        have HX := Lib.hid hx
        clear hs1 hs2 hs3 hx
        go_wp2_with fail
        refine (addW HS.out (st_ok k (by omega)) (by omega) x hwf).mono ?_
        rintro e w2 ⟨rfl, hst2⟩
        rw [HS1.out] at hst2
        rw [HS2.out, HS3.out]
        have HS4 := Lib.hid hst2
        clear hst2
        go_wp2_with fail
        go_roundg (gk - 1)
        case measure => have := HK.out; omega
        case rel => exact ⟨k + 1, by have := HK.out; omega, by go_num, HS4.out⟩
      · have h3 : k = 3 := by omega
        subst h3
        go_wp2_with fail
        go_meet
        case rel => exact HS.out
  case rest =>
    have HS := Lib.hid hcut
    clear hcut
    have R3 := Lib.hid st_tr3
    have R4 := Lib.hid st_tr4
    have R5 := Lib.hid st_tr5
    have N4 := Lib.hid st_n4
    have N5 := Lib.hid st_n5
    have N6 := Lib.hid st_n6
    go_wp2_with fail
    refine (treesEqW (HS.out.quiet ((((Upd.refl [] wc).alloc _).alloc _).alloc _)) (st_ok 3 (Nat.le_refl _)) (by omega) _ [[3, 5], [9]] (rows_two wc 2 22 [3, 5] [9] 2 1 rfl rfl (by decide) (by decide)) (by decide) (by simp)).mono ?_
    rintro e w2 ⟨rfl, hu2⟩
    rw [decide_eq_true R3.out]
    have HS2 := Lib.hid (HS.out.quiet (((((Upd.refl [] wc).alloc _).alloc _).alloc _).trans hu2))
    clear hu2
    go_wp2_with fail
    refine (dropW HS2.out (st_ok 3 (Nat.le_refl _)) (by omega) 5 (by decide)).mono ?_
    rintro e w3 ⟨rfl, hst3⟩
    rw [N4.out.1, N4.out.2]
    change HStep _ _ _ _ st4 at hst3
    have HS3 := Lib.hid hst3
    clear hst3
    go_wp2_with fail
    refine (treesEqW (HS3.out.quiet ((((Upd.refl [] w3).alloc _).alloc _).alloc _)) st4_ok (by omega) _ [[3], [9]] (rows_two w3 2 22 [3] [9] 1 1 rfl rfl (by decide) (by decide)) (by decide) (by simp)).mono ?_
    rintro e w4 ⟨rfl, hu4⟩
    rw [decide_eq_true R4.out]
    have HS4 := Lib.hid (HS3.out.quiet (((((Upd.refl [] w3).alloc _).alloc _).alloc _).trans hu4))
    clear hu4
    go_wp2_with fail
    refine (storedW HS4.out).mono ?_
    rintro e w' ⟨rfl, rfl⟩
    rw [st_v4]
    go_wp2_with fail
    refine (dropW HS4.out st4_ok (by omega) 9 (by decide)).mono ?_
    rintro e w5 ⟨rfl, hst5⟩
    rw [N5.out.1, N5.out.2]
    change HStep _ _ _ _ st5 at hst5
    have HS5 := Lib.hid hst5
    clear hst5
    go_wp2_with fail
    refine (addW HS5.out st5_ok (by omega) 3 (by decide)).mono ?_
    rintro e w6 ⟨rfl, hst6⟩
    rw [N6.out.1, N6.out.2]
    rw [st_p6] at hst6
    have HS6 := Lib.hid hst6
    clear hst6
    go_wp2_with fail
    refine (treesEqW (HS6.out.quiet (((Upd.refl [] w6).alloc _).alloc _)) st5_ok (by omega) _ [[3]] (rows_one w6 2 22 [3] 1 rfl (by decide)) (by decide) (by simp)).mono ?_
    rintro e w7 ⟨rfl, hu7⟩
    rw [decide_eq_true R5.out]
    have HS7 := Lib.hid (HS6.out.quiet ((((Upd.refl [] w6).alloc _).alloc _).trans hu7))
    clear hu7
    go_wp2_with fail
    refine (storedW HS7.out).mono ?_
    rintro e w' ⟨rfl, rfl⟩
    rw [st_v5]
    go_wp2_with fail
    go_ret
    exact ⟨rfl, HUW.out.trans' HS7.out.up (fun x hx => .inr (HF.out x hx).1)⟩
end Go.Proofs.Ytkhgglafnjfiaaa

namespace Go.Proofs.Ytkhgglafnjfiaaa
open Go.RowKit

/-- Since W: a Half that has what S says; the blocks G are not its own. -/
def HG (W wr : World) (hv : Value) (S : HS) (G : List Nat) : Prop :=
  ∃ F, IsHalf wr hv F S ∧ Upd [] W wr ∧ (∀ x ∈ F, W.heap.size ≤ x) ∧ ∀ x ∈ G, W.heap.size ≤ x ∧ x < wr.heap.size ∧ x ∉ F

/-- The blocks G are as they were. -/
def Kept (G : List Nat) (w w' : World) : Prop := w.heap.size ≤ w'.heap.size ∧ ∀ x ∈ G, w'.heap[x]? = w.heap[x]?

theorem Kept.cell {G : List Nat} {w w' : World} (h : Kept G w w') {p : Addr} (hp : p.block ∈ G) : w'.cell? p = w.cell? p := World.cell?_of_block (w := w) (h.2 p.block hp)
theorem Kept.frozen {G : List Nat} {w w' : World} (h : Kept G w w') {p : Addr} (hp : p.block ∈ G) : w'.frozen? p = w.frozen? p := World.frozen?_of_block (w := w) (h.2 p.block hp)
theorem Kept.row {G : List Nat} {w w' : World} (h : Kept G w w') {base : Nat} {v : Value} {l : List Int} (hr : KI.row w base v l) (hb : ∀ x ∈ blk v, x ∈ G) : KI.row w' base v l := own_same hr fun x hx => h.2 x (hb x hx)

variable {W wr w' : World} {hv : Value} {S : HS} {G G' : List Nat}

theorem HG.up (h : HG W wr hv S G) : Upd [] W wr := by
  obtain ⟨_, _, h2, _⟩ := h
  exact h2

theorem HG.start {F : List Nat} (h : IsHalf wr hv F S) (hu : Upd [] W wr) (hF : ∀ x ∈ F, W.heap.size ≤ x) : HG W wr hv S [] := ⟨F, h, hu, hF, by simp⟩

/-- The statement writes its own blocks, or makes new ones. -/
theorem HG.write (h : HG W wr hv S G) {P : List Nat} (hu : Upd P wr w') (hP : ∀ x ∈ P, x ∈ G) (hG : ∀ x ∈ G', x ∈ G ∨ (wr.heap.size ≤ x ∧ x < w'.heap.size)) : HG W w' hv S G' := by
  obtain ⟨F, h1, h2, h3, h4⟩ := h
  refine ⟨F, h1.upd hu (fun x hx hc => (h4 x (hP x hc)).2.2 hx), h2.trans' hu (fun x hx => .inr (h4 x (hP x hx)).1), h3, fun x hx => ?_⟩
  rcases hG x hx with g | ⟨g1, g2⟩
  · obtain ⟨e1, e2, e3⟩ := h4 x g
    exact ⟨e1, Nat.lt_of_lt_of_le e2 hu.size, e3⟩
  · exact ⟨Nat.le_trans h2.size g1, g2, fun hc => by have := h1.lt x hc; omega⟩

theorem HG.quiet (h : HG W wr hv S G) (hu : Upd [] wr w') : HG W w' hv S G := h.write hu (by simp) (fun x hx => .inl hx)

theorem HG.step (h : HG W wr hv S G) : ∃ F, HStep wr wr hv F S ∧ ∀ (w' : World) (S' : HS), HStep wr w' hv F S' → HG W w' hv S' G ∧ Kept G wr w' := by
  obtain ⟨F, h1, h2, h3, h4⟩ := h
  refine ⟨F, HStep.refl h1, fun w' S' ⟨F', g1, g2, g3⟩ => ⟨⟨F', g1, h2.trans' g2 fun x hx => .inr (h3 x hx), fun x hx => ?_, fun x hx => ?_⟩, g2.size, fun x hx => ?_⟩⟩
  · rcases g3 x hx with g | g
    · exact h3 x g
    · exact Nat.le_trans h2.size g
  · obtain ⟨e1, e2, e3⟩ := h4 x hx
    refine ⟨e1, Nat.lt_of_lt_of_le e2 g2.size, fun hc => ?_⟩
    rcases g3 x hc with g | g
    · exact e3 g
    · omega
  · obtain ⟨e1, e2, e3⟩ := h4 x hx
    exact g2.block x e2 e3

theorem HG.at (h : HG W wr hv S G) : ∃ F, HStep wr wr hv F S := by
  obtain ⟨F, h1, _⟩ := h.step
  exact ⟨F, h1⟩

theorem addG (h : HG W wr hv S G) {m : Nat} (O : HOk S m) (hm : m < 1000) (x : Int) (hx : (Lit.int .i64 x).wf = true) :
    Calls Try.prog 40 #[hv, .int .i64 x] wr fun e w' => e = .returned (.tuple #[.int .i64 (putN S x : Nat), .bool (!has S x)]) ∧ HG W w' hv (putS S x) G ∧ Kept G wr w' := by
  obtain ⟨F, h1, h2⟩ := h.step
  refine (addW h1 O hm x hx).mono ?_
  rintro e w' ⟨rfl, h3⟩
  exact ⟨rfl, h2 _ _ h3⟩

theorem dropG (h : HG W wr hv S G) {m : Nat} (O : HOk S m) (hm : m < 1000) (x : Int) (hx : (Lit.int .i64 x).wf = true) :
    Calls Try.prog 39 #[hv, .int .i64 x] wr fun e w' => e = .returned (.tuple #[.int .i64 (lessN S x : Nat), .bool (has S x)]) ∧ HG W w' hv (lessS S x) G ∧ Kept G wr w' := by
  obtain ⟨F, h1, h2⟩ := h.step
  refine (dropW h1 O hm x hx).mono ?_
  rintro e w' ⟨rfl, h3⟩
  exact ⟨rfl, h2 _ _ h3⟩

theorem lenG (h : HG W wr hv S G) {m : Nat} (O : HOk S m) :
    Calls Try.prog 48 #[hv] wr fun e w' => e = .returned (.int .i64 (vAll (view S)).length) ∧ wr = w' := by
  obtain ⟨F, h1⟩ := h.at
  exact lenW h1 O

theorem storedG (h : HG W wr hv S G) :
    Calls Try.prog 49 #[hv] wr fun e w' => e = .returned (.int .i64 (view S).length) ∧ wr = w' := by
  obtain ⟨F, h1⟩ := h.at
  exact storedW h1

theorem workG (h : HG W wr hv S G) :
    Calls Try.prog 50 #[hv] wr fun e w' => e = .returned (.int .i64 S.wk) ∧ wr = w' := by
  obtain ⟨F, h1⟩ := h.at
  exact workW h1

theorem allG (h : HG W wr hv S G) {m : Nat} (O : HOk S m) (hm : m < 10000) :
    Calls Try.prog 42 #[hv] wr fun e w' => ∃ A C, e = .returned (.slice A (vAll (view S)).length C) ∧ KI.row w' wr.heap.size (.slice A (vAll (view S)).length C) (vAll (view S)) ∧ Upd [] wr w' := by
  obtain ⟨F, h1⟩ := h.at
  exact allW h1 O hm

theorem treesEqG (h : HG W wr hv S G) {m : Nat} (O : HOk S m) (hm : m < 10000) (v : Value) (ww : List (List Int)) (hw : RowsSee wr v ww) (hwl : ww.length < 1000000) (hww : ∀ l ∈ ww, l.length < 1000000) :
    Calls Try.prog 51 #[hv, v] wr fun e w' => e = .returned (.bool (decide (treesL S = ww))) ∧ Upd [] wr w' := by
  obtain ⟨F, h1⟩ := h.at
  exact treesEqW h1 O hm v ww hw hwl hww

theorem row_n {w : World} {b : Nat} {v : Value} {l : List Int} {n : Nat} (h : KI.row w b v l) (hn : l.length = n) : w.ownsRow b 2 1 v n (KI.all l) := by
  subst hn; exact h

theorem app_at {w wb w4 : World} {base e n m A C : _} {xs news : List Value} {v : Value} (hb : Upd [] w wb) (HP : AppPost wb w4 base e 1 v n xs m news A C) :
    Upd (blk v) w w4 ∧ w4.ownsRow base e 1 (.slice A (n + m) C) (n + m) (xs ++ news) ∧ ∀ x ∈ blk (.slice A (n + m) C), x ∈ blk v ∨ w.heap.size ≤ x := by
  refine ⟨(hb.mono (by simp)).trans HP.upd, HP.own, fun x hx => ?_⟩
  rcases HP.at with h | h
  · rw [h] at hx; exact .inl hx
  · rw [h] at hx; simp at hx; rw [hx]; exact .inr hb.size

/-- An empty literal. -/
theorem own_empty (w : World) (base : Nat) (e : TypeId) (hb : base ≤ w.heap.size) : (w.alloc (.cells #[] e)).ownsRow base e 1 (.slice (some ⟨w.heap.size, 0, none⟩) 0 0) 0 [] := by
  refine ⟨rfl, .inr ⟨w.heap.size, 0, #[], rfl, hb, heap_alloc_new w _, Nat.le_refl _, Nat.zero_le _, rfl, rfl⟩⟩

/-- The trees: bags that lie in memory. -/
theorem treesG (h : HG W wr hv S G) {m : Nat} (O : HOk S m) (hm : m < 10000) :
    Calls Try.prog 43 #[hv] wr fun e w' => ∃ A C ts, e = .returned (.slice A (treesL S).length C) ∧ w'.ownsRow wr.heap.size 58 1 (.slice A (treesL S).length C) (treesL S).length ts ∧ Upd [] wr w' ∧
      ∀ (j : Nat) (L : List Int), (treesL S)[j]? = some L → ∃ p B, ts[j]? = some p ∧ IsBag w' p L B ∧ ∀ x ∈ B, x ∉ G := by
  obtain ⟨F, h1, _, _, h5⟩ := h
  refine (trees22 hv F S wr h1 O.inv (by have := O.cs; omega)).mono ?_
  rintro e w' ⟨A, C, ts, rfl, h2, h3, h4⟩
  have hl : (treesL S).length = (idxA S.cs).length := by simp [treesL]
  rw [hl]
  refine ⟨A, C, ts, rfl, h2, h3, fun j L hj => ?_⟩
  unfold treesL at hj
  rw [List.getElem?_map] at hj
  obtain ⟨i, hi, rfl⟩ := Option.map_eq_some_iff.1 hj
  obtain ⟨p, B, g1, g2, g3⟩ := h4 j i hi
  exact ⟨p, B, g1, g2, fun x hx hc => (h5 x hc).2.2 (g3 x hx)⟩
end Go.Proofs.Ytkhgglafnjfiaaa

namespace Go.Proofs.Ytkhgglafnjfiaaa

theorem flat_sort (al : List Bool) (b : Nat → List (Int × Nat)) (l : List Nat) : ((l.map fun i => sortI (live al (b i))).flatten).Perm ((l.map fun i => live al (b i)).flatten) := by
  induction l with
  | nil => exact List.Perm.refl _
  | cons a l ih =>
    rw [List.map_cons, List.map_cons, List.flatten_cons, List.flatten_cons]
    exact (sortI_perm _).append ih

theorem flat_filter {α : Type} (p : Nat → Bool) (f : Nat → List α) (l : List Nat) (h : ∀ i ∈ l, p i = false → f i = []) : ((l.filter p).map f).flatten = (l.map f).flatten := by
  induction l with
  | nil => rfl
  | cons a l ih =>
    have ih' := ih fun i hi => h i (by simp [hi])
    rw [List.filter_cons, List.map_cons, List.flatten_cons]
    by_cases hp : p a = true
    · rw [if_pos hp, List.map_cons, List.flatten_cons, ih']
    · rw [if_neg hp, ih', h a (by simp) (by simpa using hp), List.nil_append]

theorem live_flat (al : List Bool) (b : Nat → List (Int × Nat)) (l : List Nat) : (l.map fun i => live al (b i)).flatten = live al (l.map b).flatten := by
  induction l with
  | nil => rfl
  | cons a l ih =>
    rw [List.map_cons, List.map_cons, List.flatten_cons, List.flatten_cons, ih]
    unfold live
    rw [liv_app, List.map_append]

theorem trees_perm (S : HS) : (treesL S).flatten.Perm (vAll (view S)) := by
  rw [view_all]
  unfold treesL
  refine (flat_sort S.al (bucketOf S.cs) (idxA S.cs)).trans ?_
  unfold idxA idxF
  rw [flat_filter _ _ _ (fun i _ hi => by
    have : bucketOf S.cs i = [] := by simpa using hi
    rw [this]; rfl), live_flat]
  have : ((List.range' 0 (bitsN S.cs.length - 0)).reverse.map (bucketOf S.cs)) = (setB S.cs).reverse := by
    rw [Nat.sub_zero, ← List.range_eq_range', List.map_reverse]
    rfl
  rw [this, setB_all]

/-- Each number once. -/
def onesM (P : List Int) : List (Int × Int) := P.foldl (fun m x => mput m x 1) []

theorem onesM_snoc (P : List Int) (x : Int) : onesM (P ++ [x]) = mput (onesM P) x 1 := by simp [onesM, List.foldl_append]

theorem onesM_rev (P : List Int) (Q : List Int → Prop) (h0 : Q []) (h1 : ∀ P x, Q P → Q (P ++ [x])) : Q P := by
  have : ∀ n (P : List Int), P.length = n → Q P := by
    intro n
    induction n with
    | zero => intro P hP; rw [List.length_eq_zero_iff.1 hP]; exact h0
    | succ n ih =>
      intro P hP
      have hne : P ≠ [] := by rintro rfl; simp at hP
      rw [← List.dropLast_concat_getLast hne]
      exact h1 _ _ (ih _ (by simp [hP]))
  exact this _ P rfl

theorem onesM_lookup (P : List Int) (x : Int) : (onesM P).lookup x = if x ∈ P then some 1 else none := by
  refine onesM_rev P (fun P => (onesM P).lookup x = if x ∈ P then some 1 else none) rfl (fun P y ih => ?_)
  rw [onesM_snoc, lookup_mput, ih]
  by_cases e : x = y
  · simp [e]
  · simp [e]

theorem onesM_nodup (P : List Int) : ((onesM P).map (·.1)).Nodup := by
  refine onesM_rev P (fun P => ((onesM P).map (·.1)).Nodup) (by simp [onesM]) (fun P y ih => ?_)
  rw [onesM_snoc]
  exact nodup_mput ih y 1

theorem onesM_len (P : List Int) (h : P.Nodup) : (onesM P).length = P.length := by
  have : ∀ P : List Int, P.Nodup → (onesM P).length = P.length := by
    intro P
    refine onesM_rev P (fun P => P.Nodup → (onesM P).length = P.length) (by simp [onesM]) (fun P y ih hn => ?_)
    rw [List.nodup_append] at hn
    obtain ⟨n1, _, n3⟩ := hn
    have hy : y ∉ P := fun hy => n3 y hy y (by simp) rfl
    rw [onesM_snoc, length_mput (onesM_nodup P), onesM_lookup, if_neg hy, ih n1]
    simp
  exact this P h
end Go.Proofs.Ytkhgglafnjfiaaa

namespace Go.Proofs.Ytkhgglafnjfiaaa
open Go.RowKit

/-- Since W: two Halves; the blocks G are not theirs. -/
def H2 (W wr : World) (ha hb : Value) (Sa Sb : HS) (G : List Nat) : Prop :=
  ∃ Fa Fb, IsHalf wr ha Fa Sa ∧ IsHalf wr hb Fb Sb ∧ Upd [] W wr ∧ (∀ x ∈ Fa, W.heap.size ≤ x) ∧ (∀ x ∈ Fb, W.heap.size ≤ x) ∧ (∀ x ∈ Fa, x ∉ Fb) ∧ ∀ x ∈ G, W.heap.size ≤ x ∧ x < wr.heap.size ∧ x ∉ Fa ∧ x ∉ Fb

variable {W wr w' : World} {ha hb : Value} {Sa Sb : HS} {G G' : List Nat}

theorem H2.up (h : H2 W wr ha hb Sa Sb G) : Upd [] W wr := by
  obtain ⟨_, _, _, _, h2, _⟩ := h
  exact h2

theorem H2.swap (h : H2 W wr ha hb Sa Sb G) : H2 W wr hb ha Sb Sa G := by
  obtain ⟨Fa, Fb, h1, h2, h3, h4, h5, h6, h7⟩ := h
  exact ⟨Fb, Fa, h2, h1, h3, h5, h4, fun x hx hc => h6 x hc hx, fun x hx => by obtain ⟨a, b, c, d⟩ := h7 x hx; exact ⟨a, b, d, c⟩⟩

theorem H2.write (h : H2 W wr ha hb Sa Sb G) {P : List Nat} (hu : Upd P wr w') (hP : ∀ x ∈ P, x ∈ G) (hG : ∀ x ∈ G', x ∈ G ∨ (wr.heap.size ≤ x ∧ x < w'.heap.size)) : H2 W w' ha hb Sa Sb G' := by
  obtain ⟨Fa, Fb, h1, h2, h3, h4, h5, h6, h7⟩ := h
  refine ⟨Fa, Fb, h1.upd hu (fun x hx hc => (h7 x (hP x hc)).2.2.1 hx), h2.upd hu (fun x hx hc => (h7 x (hP x hc)).2.2.2 hx), h3.trans' hu (fun x hx => .inr (h7 x (hP x hx)).1), h4, h5, h6, fun x hx => ?_⟩
  rcases hG x hx with g | ⟨g1, g2⟩
  · obtain ⟨a, b, c, d⟩ := h7 x g
    exact ⟨a, Nat.lt_of_lt_of_le b hu.size, c, d⟩
  · exact ⟨Nat.le_trans h3.size g1, g2, fun hc => by have := h1.lt x hc; omega, fun hc => by have := h2.lt x hc; omega⟩

theorem H2.quiet (h : H2 W wr ha hb Sa Sb G) (hu : Upd [] wr w') : H2 W w' ha hb Sa Sb G := h.write hu (by simp) (fun x hx => .inl hx)

theorem H2.step (h : H2 W wr ha hb Sa Sb G) : ∃ Fa, HStep wr wr ha Fa Sa ∧ ∀ (w' : World) (S' : HS), HStep wr w' ha Fa S' → H2 W w' ha hb S' Sb G ∧ Kept G wr w' := by
  obtain ⟨Fa, Fb, h1, h2, h3, h4, h5, h6, h7⟩ := h
  refine ⟨Fa, HStep.refl h1, fun w' S' ⟨F', g1, g2, g3⟩ => ⟨⟨F', Fb, g1, h2.upd g2 (fun x hx hc => h6 x hc hx), h3.trans' g2 fun x hx => .inr (h4 x hx), fun x hx => ?_, h5, fun x hx hc => ?_, fun x hx => ?_⟩, g2.size, fun x hx => ?_⟩⟩
  · rcases g3 x hx with g | g
    · exact h4 x g
    · exact Nat.le_trans h3.size g
  · rcases g3 x hx with g | g
    · exact h6 x g hc
    · have := h2.lt x hc; omega
  · obtain ⟨a, b, c, d⟩ := h7 x hx
    refine ⟨a, Nat.lt_of_lt_of_le b g2.size, fun hc => ?_, d⟩
    rcases g3 x hc with g | g
    · exact c g
    · omega
  · obtain ⟨a, b, c, d⟩ := h7 x hx
    exact g2.block x b c

theorem H2.hg (h : H2 W wr ha hb Sa Sb G) : HG W wr ha Sa G := by
  obtain ⟨Fa, Fb, h1, h2, h3, h4, h5, h6, h7⟩ := h
  exact ⟨Fa, h1, h3, h4, fun x hx => by obtain ⟨a, b, c, _⟩ := h7 x hx; exact ⟨a, b, c⟩⟩

theorem add2 (h : H2 W wr ha hb Sa Sb G) {m : Nat} (O : HOk Sa m) (hm : m < 1000) (x : Int) (hx : (Lit.int .i64 x).wf = true) :
    Calls Try.prog 40 #[ha, .int .i64 x] wr fun e w' => e = .returned (.tuple #[.int .i64 (putN Sa x : Nat), .bool (!has Sa x)]) ∧ H2 W w' ha hb (putS Sa x) Sb G ∧ Kept G wr w' := by
  obtain ⟨F, h1, h2⟩ := h.step
  refine (addW h1 O hm x hx).mono ?_
  rintro e w' ⟨rfl, h3⟩
  exact ⟨rfl, h2 _ _ h3⟩

theorem drop2 (h : H2 W wr ha hb Sa Sb G) {m : Nat} (O : HOk Sa m) (hm : m < 1000) (x : Int) (hx : (Lit.int .i64 x).wf = true) :
    Calls Try.prog 39 #[ha, .int .i64 x] wr fun e w' => e = .returned (.tuple #[.int .i64 (lessN Sa x : Nat), .bool (has Sa x)]) ∧ H2 W w' ha hb (lessS Sa x) Sb G ∧ Kept G wr w' := by
  obtain ⟨F, h1, h2⟩ := h.step
  refine (dropW h1 O hm x hx).mono ?_
  rintro e w' ⟨rfl, h3⟩
  exact ⟨rfl, h2 _ _ h3⟩

theorem Kept.trans {w w1 w2 : World} (h : Kept G w w1) (k : Kept G w1 w2) : Kept G w w2 := ⟨Nat.le_trans h.1 k.1, fun x hx => (k.2 x hx).trans (h.2 x hx)⟩

/-! ### plain -/

theorem setB_unit {α : Type} (l : List α) : (setB l).map List.isEmpty = (setB (List.replicate l.length ())).map List.isEmpty := by
  unfold setB
  rw [List.length_replicate, List.map_map, List.map_map]
  refine List.map_congr_left fun i _ => ?_
  show (bucketOf l i).isEmpty = (bucketOf (List.replicate l.length ()) i).isEmpty
  rw [Bool.eq_iff_iff, List.isEmpty_iff_length_eq_zero, List.isEmpty_iff_length_eq_zero, bucketOf_len, bucketOf_len, List.length_replicate]

theorem firstE_alike {α β : Type} : ∀ (a : List (List α)) (b : List (List β)), a.map List.isEmpty = b.map List.isEmpty → firstE a = firstE b
  | [], [], _ => rfl
  | [], _ :: _, h => by simp at h
  | _ :: _, [], h => by simp at h
  | x :: a, y :: b, h => by
    simp only [List.map_cons, List.cons.injEq] at h
    simp only [firstE, h.1, firstE_alike a b h.2]

theorem firstE_len {α : Type} (l : List α) : firstE (setB l) = firstE (setB (List.replicate l.length ())) := firstE_alike _ _ (setB_unit l)

/-- How many are placed as the first n come. -/
def wkN : Nat → Nat
  | 0 => 0
  | n + 1 => wkN n + 2 ^ firstE (setB (List.replicate n ()))

structure Came (S : HS) (P : List Int) : Prop where
  all : vAll (view S) = P
  len : S.cs.length = P.length
  wk : S.wk = wkN P.length

theorem came00 : Came S00 [] := ⟨rfl, rfl, rfl⟩

theorem Came.put {S : HS} {P : List Int} {m : Nat} (h : Came S P) (O : HOk S m) (x : Int) (hx : x ∉ P) : Came (putS S x) (P ++ [x]) := by
  have hh : has S x = false := by
    rw [O.has]
    simp only [decide_eq_false_iff_not]
    intro hc
    exact hx (by rw [← h.all]; exact mem_vAll.2 hc)
  refine ⟨?_, ?_, ?_⟩
  · rw [O.vput, vAll_put, h.all, if_neg hx]
  · unfold putS
    rw [hh]
    show (S.cs ++ [(x, S.al.length)]).length = _
    rw [List.length_append, List.length_append, h.len]
    rfl
  · unfold putS
    rw [hh]
    show S.wk + 2 ^ firstE (setB S.cs) = _
    rw [firstE_len, h.len, h.wk, List.length_append]
    rfl

/-- How many are stored as all go, one by one. -/
def stN (n : Nat) : Nat → Nat
  | 0 => n
  | k + 1 => if 2 * (n - (k + 1)) < stN n k then n - (k + 1) else stN n k

theorem stN_end (n : Nat) : stN n n = 0 := by
  cases n with
  | zero => rfl
  | succ n => show (if 2 * (n + 1 - (n + 1)) < stN (n + 1) n then n + 1 - (n + 1) else stN (n + 1) n) = 0; split <;> omega

structure Gone (S : HS) (n k : Nat) (P : List Int) : Prop where
  all : vAll (view S) = P
  alive : P.length = n - k
  nodup : P.Nodup
  len : (view S).length = stN n k

theorem Gone.has {S : HS} {n k m : Nat} {P : List Int} (h : Gone S n k P) (O : HOk S m) (x : Int) : has S x = decide (x ∈ P) := by
  rw [O.has, ← h.all, Bool.eq_iff_iff, decide_eq_true_iff, decide_eq_true_iff, mem_vAll]

theorem Gone.less {S : HS} {n k m : Nat} {P : List Int} (h : Gone S n k P) (O : HOk S m) (x : Int) (hx : x ∈ P) : Gone (lessS S x) n (k + 1) (P.filter fun y => y != x) := by
  have hf : (P.filter fun y => y != x).length = n - (k + 1) := by
    have e := h.nodup.erase_eq_filter x
    rw [← e, List.length_erase_of_mem hx, h.alive]
    omega
  refine ⟨?_, hf, h.nodup.filter _, ?_⟩
  · rw [O.vless, vAll_less, h.all]
  · rw [O.vless]
    unfold vLess
    have hm : (x, true) ∈ view S := mem_vAll.1 (by rw [h.all]; exact hx)
    rw [if_pos hm]
    unfold vDrop
    rw [vAll_kill, h.all, hf, h.len]
    show _ = if 2 * (n - (k + 1)) < stN n k then n - (k + 1) else stN n k
    split
    · rw [List.length_map, hf]
    · rw [vKill_len, h.len]

theorem Gone.not {S : HS} {n k m : Nat} {P : List Int} (h : Gone S n k P) (O : HOk S m) (x : Int) (hx : x ∉ P) : lessS S x = S := by
  unfold lessS
  rw [h.has O]
  simp [hx]

theorem came_gone {S : HS} {P : List Int} (h : Came S P) (hn : P.Nodup) : Gone S P.length 0 P := ⟨h.all, rfl, hn, by rw [view_len, h.len]; rfl⟩
end Go.Proofs.Ytkhgglafnjfiaaa
