/- RimParts: plainly; the walk. -/
import Derived.Test.YtokpdocabmaagaaGreatAw18
import Derived.Test.YtokpdocabmaagaaGreatVarB
import Derived.Test.YtokpdocabmaagaaGreatRegP
namespace Go.Proofs.YtokpdocabmaagaaGreat
open Go.RowKit

theorem cov_more (l m : List Bx) (x y : Int) : covB (l ++ m) x y = (covB l x y || m.any fun b => b.cell x y) := by
  unfold covB; rw [List.any_append]

/-- The pieces. -/
def cutX (b : Bx) (m : Int) : Bx × Bx := (⟨b.x1, m, b.y1, b.y2, b.id⟩, ⟨m, b.x2, b.y1, b.y2, b.id⟩)
def cutY (b : Bx) (m : Int) : Bx × Bx := (⟨b.x1, b.x2, b.y1, m, b.id⟩, ⟨b.x1, b.x2, m, b.y2, b.id⟩)

theorem rim_more {l m : List Bx} {b : Bx} (h : ∀ x y, (m.any fun c => c.cell x y) = b.cell x y) : rimA (l ++ m) = rimA (l ++ [b]) := rimA_congr fun x y => by
  rw [cov_more, cov_more, h]; simp
theorem rim_none {l : List Bx} {b : Bx} (h : ∀ x y, b.cell x y = false) : rimA (l ++ [b]) = rimA (l ++ []) := rimA_congr fun x y => by
  rw [cov_more, cov_more]; simp [h]

theorem rim_parts {b : Bx} {m1 m2 : Int} (h1 : b.x1 ≤ m1 ∧ m1 ≤ b.x2) (h2 : b.y1 ≤ m2 ∧ m2 ≤ b.y2) (l : List Bx) :
    rimA (l ++ [(cutX b m1).1, (cutX b m1).2]) = rimA (l ++ [b]) ∧ rimA (l ++ [(cutY b m2).1, (cutY b m2).2]) = rimA (l ++ [b]) ∧ rimA (l ++ [b, b]) = rimA (l ++ [b]) ∧ rimA (l ++ [(cutX b m1).1, b, (cutY b m2).2]) = rimA (l ++ [b]) := by
  refine ⟨rim_more fun x y => ?_, rim_more fun x y => ?_, rim_more fun x y => ?_, rim_more fun x y => ?_⟩ <;>
  · simp only [List.any_cons, List.any_nil, Bool.or_false]
    try unfold cutX
    try unfold cutY
    unfold Bx.cell
    rw [Bool.eq_iff_iff]
    simp only [Bool.or_eq_true, decide_eq_true_eq]
    omega

/-- Cells that hold. -/
def cellsAt (w : World) : List (Addr × Value) → Prop
  | [] => True
  | (a, v) :: r => w.cell? a = some v ∧ cellsAt w r
theorem keepL {w w' : World} (hu : Upd [] w w') : ∀ {L : List (Addr × Value)}, cellsAt w L → cellsAt w' L
  | [], _ => trivial
  | (_, _) :: _, h => ⟨(hu.cell (World.block_lt_of_cell? w _ h.1) (by simp)).trans h.1, keepL hu h.2⟩

set_option maxRecDepth 100000 in
set_option maxHeartbeats 4000000 in
theorem withC (l m : List Bx) (A A' : Option Addr) (n k C C' p : Nat) (W : World) (hp : W.cell? ⟨p, 0, none⟩ = some (.slice A n C)) (hl : See KBx W (.slice A n C) l) (hln : l.length = n) (hm : See KBx W (.slice A' k C') m) (hmn : m.length = k) (hb : n + k ≤ 100) (h64 : ∀ b ∈ l ++ m, b.in64) :
    Calls Tryz.prog 37 #[.slice A' k C', .pointer (some ⟨p, 0, none⟩)] W fun e w' => e = .returned (wideV (rimA (l ++ m)).toNat) ∧ Upd [] W w' := by
  obtain ⟨iB, hiB, hB0, hB1, hB2⟩ := info_parts info_box
  obtain ⟨h, lo, hv, -, -⟩ := wideV_open (rimA (l ++ m)).toNat
  rw [hv]
  have hu0 : Upd [] W (W.alloc (.cells #[.int .u64 0, .int .u64 0] 27)) := (Upd.refl _ _).alloc _
  have hc0 := (hu0.cell (p := ⟨p, 0, none⟩) (World.block_lt_of_cell? W _ hp) (by simp)).trans hp
  have h2 : (W.alloc (.cells #[.int .u64 0, .int .u64 0] 27)).heap[W.heap.size]? = some (.cells #[.int .u64 0, .int .u64 0] 27 (0, 0)) := heap_alloc_new _ _
  have hcp : Calls Tryz.prog 16 #[.slice A n C] (W.alloc (.cells #[.int .u64 0, .int .u64 0] 27)) fun e w' => ∃ A C, e = .returned (.slice A n C) ∧ KBx.row w' (W.alloc (.cells #[.int .u64 0, .int .u64 0] 27)).heap.size (.slice A n C) l ∧ Upd [] (W.alloc (.cells #[.int .u64 0, .int .u64 0] 27)) w' := by
    have := copyBoxes (.slice A n C) l _ (hl.upd0 hu0) (by omega)
    unfold CpPost at this
    rw [hln] at this
    exact this
  have hsb : ∀ W A7 C7, See KBx W (.slice A7 (n + k) C7) (l ++ m) → Calls Tryz.prog 33 #[.slice A7 (n + k) C7] W fun e w' => e = .returned (.agg #[.int .u64 (h : Int), .int .u64 (lo : Int)]) ∧ Upd [] W w' := fun W A7 C7 hS => by
    have := sidesC (.slice A7 (n + k) C7) (l ++ m) W hS (by rw [List.length_append]; omega) h64
    rw [hv] at this
    exact this
  have HCP := Lib.hid hcp
  have HSB := Lib.hid hsb
  have HM := Lib.hid (hm.upd0 hu0)
  have HLN := Lib.hid (And.intro hln (And.intro hmn hb))
  have H2 := Lib.hid (And.intro h2 hu0)
  clear hp hl hln hm hmn hb h64 hv hu0 h2 hcp hsb
  go_enter Tryz.func37, Tryz.ntmps37
  go_wp2_with fail
  clear hc0
  (with_reducible refine HCP.out.mono ?_)
  rintro e w8 ⟨A8, C8, rfl, hr8, hu8⟩
  have HR8 := Lib.hid (And.intro (show w8.ownsRow (W.alloc (.cells #[.int .u64 0, .int .u64 0] 27)).heap.size 34 5 (.slice A8 n C8) n (KBx.all l) by have := hr8; unfold Kind.row at this; rw [HLN.out.1] at this; exact this) hu8)
  have HMS := Lib.hid (show Sees w8 5 (.slice A' k C') k (KBx.all m) by have := HM.out.upd0 hu8; unfold See at this; rw [HLN.out.2.1] at this; exact this)
  clear hr8 hu8
  go_wp2_with (at_builtin; refine wpList_app _ rfl _ _ 22 rfl (W.alloc (.cells #[.int .u64 0, .int .u64 0] 27)).heap.size 34 iB (.agg #[.int .i64 0, .int .i64 0, .int .i64 0, .int .i64 0, .int .u32 0]) 5 40 Tryz.underlying22 hiB hB0 hB1 hB2 rfl (by decide) _ _ _ rfl HR8.out.1 _ k (KBx.all m) rfl HMS.out (KBx.all_one m) (by have := HLN.out.2.2; unfold maxLen; omega) (by have := HLN.out.2.2; omega) HR8.out.2.size ?_)
  intro A9 C9 w9 HP
  have HU9 := Lib.hid (show Upd [] (W.alloc (.cells #[.int .u64 0, .int .u64 0] 27)) w9 from HR8.out.2.trans' HP.upd (fun j hj => .inr (own_ge HR8.out.1 j hj)))
  have HSE := Lib.hid (show See KBx w9 (.slice A9 (n + k) C9) (l ++ m) from See.of_row (show KBx.row w9 (W.heap.size + 1) (.slice A9 (n + k) C9) (l ++ m) by have := HP.own; unfold Kind.row; rw [Kind.all_app, List.length_append, HLN.out.1, HLN.out.2.1]; exact this))
  clear HP
  go_wp2_with fail
  (with_reducible refine (HSB.out _ _ _ HSE.out).mono ?_)
  rintro e w10 ⟨rfl, hu10⟩
  have hq := (hu10.block W.heap.size (lt_of_block ((HU9.out.block W.heap.size (lt_of_block H2.out.1) (by simp)).trans H2.out.1)) (by simp)).trans ((HU9.out.block W.heap.size (lt_of_block H2.out.1) (by simp)).trans H2.out.1)
  have HQ := Lib.hid (And.intro hq (H2.out.2.trans (HU9.out.trans hu10)))
  clear hq hu10
  generalize hps : W.heap.size = q at HQ ⊢
  have HPS := Lib.hid hps
  clear hps
  have z0 : w10.cell? ⟨q, 0, none⟩ = some (.int .u64 0) := by simp [World.cell?, HQ.out.1]
  have z1 : w10.cell? ⟨q, 1, none⟩ = some (.int .u64 0) := by simp [World.cell?, HQ.out.1]
  have zf0 : w10.frozen? ⟨q, 0, none⟩ = false := by simp [World.frozen?, HQ.out.1]
  have zf1 : w10.frozen? ⟨q, 1, none⟩ = false := by simp [World.frozen?, HQ.out.1]
  have hr := heap_set (heap_set HQ.out.1 0 (.int .u64 (h : Int))) 1 (.int .u64 (lo : Int))
  have HZ := Lib.hid (And.intro hr (show Upd [] W ((w10.setCell ⟨q, 0, none⟩ (.int .u64 (h : Int))).setCell ⟨q, 1, none⟩ (.int .u64 (lo : Int))) from ((HQ.out.2.setCell (.inr (by rw [HPS.out]; exact Nat.le_refl _)) _).setCell (.inr (by rw [HPS.out]; exact Nat.le_refl _)) _)))
  clear hr
  go_wp2_with fail
  clear z0 z1 zf0 zf1
  generalize ((w10.setCell ⟨q, 0, none⟩ (.int .u64 (h : Int))).setCell ⟨q, 1, none⟩ (.int .u64 (lo : Int))) = Wz at HZ ⊢
  have x0 : Wz.cell? ⟨q, 0, none⟩ = some (.int .u64 (h : Int)) := by simp [World.cell?, HZ.out.1]
  have x1 : Wz.cell? ⟨q, 1, none⟩ = some (.int .u64 (lo : Int)) := by simp [World.cell?, HZ.out.1]
  exact bodyPost_ret (v := .agg #[.int .u64 (h : Int), .int .u64 (lo : Int)]) (by simp [results, Tryz.results37, go_sem, x0, x1]) rfl ⟨rfl, HZ.out.2⟩

theorem wide_sameP (a b : Int) (w : World) : (binOp .eql 27 (.agg #[.int .u64 a, .int .u64 b]) (.agg #[.int .u64 a, .int .u64 b])).run Tryz.prog w = .ok (.bool true) w := by
  rw [run_eql_struct, run_equalIn_agg _ _ _ _ _ (by kernel_rfl) (by kernel_rfl)]
  go_simp
theorem wide_nsameP (a b : Int) (w : World) : (binOp .neq 27 (.agg #[.int .u64 a, .int .u64 b]) (.agg #[.int .u64 a, .int .u64 b])).run Tryz.prog w = .ok (.bool false) w := by
  rw [run_neq_struct, run_equalIn_agg _ _ _ _ _ (by kernel_rfl) (by kernel_rfl)]
  go_simp

def S16 (w : World) (pa pb pc pd q p13 : Nat) (b : Bx) (m1 m2 : Int) (bh bl : Nat) : Prop :=
  BAt w pa (cutX b m1).1 ∧ BAt w pb (cutX b m1).2 ∧ BAt w pc (cutY b m2).1 ∧ BAt w pd (cutY b m2).2 ∧ BAt w q b ∧ WAt w p13 bh bl
theorem S16.keep {w w' : World} {pa pb pc pd q p13 : Nat} {b : Bx} {m1 m2 : Int} {bh bl : Nat} (h : S16 w pa pb pc pd q p13 b m1 m2 bh bl) (hu : Upd [] w w') : S16 w' pa pb pc pd q p13 b m1 m2 bh bl :=
  ⟨h.1.upd0 hu, h.2.1.upd0 hu, h.2.2.1.upd0 hu, h.2.2.2.1.upd0 hu, h.2.2.2.2.1.upd0 hu, h.2.2.2.2.2.upd0 hu⟩

set_option maxRecDepth 100000 in
set_option maxHeartbeats 8000000 in
theorem rimParts_walk (v : Value) (l : List Bx) (b : Bx) (cut : Int) (w : World) (hs : See KBx w v l) (hb : ∀ b ∈ l, b.in64) (h64 : b.in64) (hcut : -9223372036854775808 ≤ cut ∧ cut ≤ 9223372036854775807) :
    Calls Tryz.prog 12 #[v, bxV b, .int .i64 cut] w fun e w' => e = .returned (.bool true) ∧ Below w.heap.size w w' := by
  obtain ⟨A, C, rfl⟩ := hs.form
  unfold bxV
  by_cases hout : 20 < l.length
  · have d1 : decide ((20 : Int) < (l.length : Int)) = true := decide_eq_true (by omega)
    clear hs hb hout h64 hcut
    go_enter Tryz.func12, Tryz.ntmps12
    go_wp2_with fail
    (with_reducible refine (awake18 _).mono ?_)
    rintro e w6 ⟨rfl, hu6⟩
    have HU6 := Lib.hid ((((Upd.refl [] w).alloc _).alloc _).trans hu6)
    clear hu6
    go_wp2_with fail
    go_ret
    exact ⟨rfl, HU6.out.below⟩
  · have d1 : decide ((20 : Int) < (l.length : Int)) = false := decide_eq_false (by omega)
    obtain ⟨n, hn⟩ : ∃ n, l.length = n := ⟨_, rfl⟩
    have hs' : See KBx w (.slice A n C) l := by rw [← hn]; exact hs
    rw [hn] at d1 ⊢
    obtain ⟨p3, hp3⟩ : ∃ p, w.heap.size = p := ⟨_, rfl⟩
    have HWITH := Lib.hid (show ∀ (W : World) (m : List Bx) (A' : Option Addr) (k C' : Nat), W.cell? ⟨p3, 0, none⟩ = some (.slice A n C) → Upd [] w W → See KBx W (.slice A' k C') m → m.length = k → k ≤ 3 → (∀ c ∈ m, c.in64) →
        Calls Tryz.prog 37 #[.slice A' k C', .pointer (some ⟨p3, 0, none⟩)] W fun e w' => e = .returned (wideV (rimA (l ++ m)).toNat) ∧ Upd [] W w' from fun W m A' k C' hc hu hm hmk hk hm64 =>
      withC l m A A' n k C C' p3 W hc (hs'.upd0 hu) hn hm hmk (by omega) (fun c hc => (List.mem_append.1 hc).elim (hb c) (hm64 c)))
    obtain ⟨w3, hw3⟩ : ∃ w3, (w.alloc (.cells #[.slice A n C] 22)).alloc (.cells #[.int .i64 b.x1, .int .i64 b.x2, .int .i64 b.y1, .int .i64 b.y2, .int .u32 (b.id : Int)] 34) = w3 := ⟨_, rfl⟩
    have hu3 : Upd [] w w3 := by rw [← hw3]; exact ((Upd.refl _ _).alloc _).alloc _
    have hz3 : w3.heap.size = p3 + 1 + 1 := by rw [← hw3, ← hp3]; simp
    have h3 : w3.heap[p3]? = some (.cells #[.slice A n C] 22 (0, 0)) := by
      rw [← hw3, ← hp3]
      exact (Below.heap_alloc _ _ _ (by simp)).trans (heap_alloc_new _ _)
    have h4 : BAt w3 (p3 + 1) b := by
      have := heap_alloc_new (w.alloc (.cells #[.slice A n C] 22)) (.cells #[.int .i64 b.x1, .int .i64 b.x2, .int .i64 b.y1, .int .i64 b.y2, .int .u32 (b.id : Int)] 34)
      rw [World.size_alloc, hp3] at this
      rw [← hw3]
      exact this
    have H3 := Lib.hid (And.intro hu3 (And.intro hz3 (And.intro h3 h4)))
    have H64 := Lib.hid (And.intro h64 hcut)
    have HW3 := Lib.hid hw3
    clear hs hb hout h64 hcut hn hs' hu3 hz3 h3 h4 hw3
    go_enter Tryz.func12, Tryz.ntmps12
    go_upto_region 1 with fail
    rw [HW3.out]
    have hc3 : w3.cell? ⟨p3, 0, none⟩ = some (.slice A n C) := by simp [World.cell?, H3.out.2.2.1]
    go_upto_region 4 with fail
    clear d1 hc3
    obtain ⟨c0, c1, c2, c3, c4⟩ := H3.out.2.2.2.cells
    go_upto_region 5 with fail
    have hub : Upd [] w3 (w3.alloc (.cells #[.int .i64 b.x1, .int .i64 b.x2, .int .i64 b.y1, .int .i64 b.y2, .int .u32 (b.id : Int)] 34)) := (Upd.refl _ _).alloc _
    have hnb := BAt.new w3 b
    rw [H3.out.2.1] at hnb
    rw [H3.out.2.1]
    have HB5 := Lib.hid (And.intro (H3.out.1.trans hub) (And.intro ((hub.block p3 (lt_of_block H3.out.2.2.1) (by simp)).trans H3.out.2.2.1) (And.intro (H3.out.2.2.2.upd0 hub) hnb)))
    clear c0 c1 c2 c3 c4 hub hnb
    generalize (w3.alloc (.cells #[.int .i64 b.x1, .int .i64 b.x2, .int .i64 b.y1, .int .i64 b.y2, .int .u32 (b.id : Int)] 34)) = W5 at HB5 ⊢
    obtain ⟨c0, c1, c2, c3, c4⟩ := HB5.out.2.2.2.cells
    have f3 := HB5.out.2.2.2.free 3
    go_upto_region 6 with fail
    clear c0 c1 c2 c3 c4 f3
    have hus : Upd [p3 + 1 + 1] W5 (W5.setCell ⟨p3 + 1 + 1, 3, none⟩ (.int .i64 b.y1)) := (Upd.refl _ _).setCell (.inl (by simp)) _
    have HB6 := Lib.hid (And.intro (HB5.out.1.trans' hus (fun j hj => .inr (by simp at hj; omega))) (And.intro ((hus.block p3 (lt_of_block HB5.out.2.1) (by simp; omega)).trans HB5.out.2.1) (And.intro (HB5.out.2.2.1.upd hus (by simp))
      (show BAt (W5.setCell ⟨p3 + 1 + 1, 3, none⟩ (.int .i64 b.y1)) (p3 + 1 + 1) ⟨b.x1, b.x2, b.y1, b.y1, b.id⟩ from heap_set HB5.out.2.2.2 3 _))))
    clear hus
    generalize (W5.setCell ⟨p3 + 1 + 1, 3, none⟩ (.int .i64 b.y1)) = W6 at HB6 ⊢
    obtain ⟨c0, c1, c2, c3, c4⟩ := HB6.out.2.2.2.cells
    dsimp only at c0 c1 c2 c3 c4
    have hc6 : ∀ W, Upd [] W6 W → W.cell? ⟨p3, 0, none⟩ = some (.slice A n C) := fun W hW => by
      have := (hW.block p3 (lt_of_block HB6.out.2.1) (by simp)).trans HB6.out.2.1
      simp [World.cell?, this]
    have HC6 := Lib.hid hc6
    obtain ⟨nh, nl, nv, -, -⟩ := wideV_open (rimA (l ++ [])).toNat
    have hwn : ∀ W, Upd [] W6 W → Calls Tryz.prog 37 #[.slice none 0 0, .pointer (some ⟨p3, 0, none⟩)] W fun e w' => e = .returned (.agg #[.int .u64 (nh : Int), .int .u64 (nl : Int)]) ∧ Upd [] W w' := fun W hW => by
      have := HWITH.out W [] none 0 0 (HC6.out W hW) (HB6.out.1.trans hW) ⟨rfl, .inl ⟨rfl, rfl⟩⟩ rfl (by omega) (by simp)
      rw [nv] at this
      exact this
    have hwb : ∀ (W : World) (c : Bx), Upd [] W6 W → c.in64 → Calls Tryz.prog 37 #[.slice (some ⟨W.heap.size, 0, none⟩) 1 1, .pointer (some ⟨p3, 0, none⟩)] (W.alloc (.cells #[.int .i64 c.x1, .int .i64 c.x2, .int .i64 c.y1, .int .i64 c.y2, .int .u32 (c.id : Int)] 34)) fun e w' => e = .returned (wideV (rimA (l ++ [c])).toNat) ∧ Upd [] (W.alloc (.cells #[.int .i64 c.x1, .int .i64 c.x2, .int .i64 c.y1, .int .i64 c.y2, .int .u32 (c.id : Int)] 34)) w' := fun W c hW hc =>
      HWITH.out _ [c] _ 1 1 (HC6.out _ (hW.alloc _)) (HB6.out.1.trans (hW.alloc _)) (see_one W c) rfl (by omega) (fun d hd => by rw [List.mem_singleton.1 hd]; exact hc)
    have hfl := hwb W6 ⟨b.x1, b.x2, b.y1, b.y1, b.id⟩ (Upd.refl _ _) (by have := H64.out.1; unfold Bx.in64 at this ⊢; dsimp only; omega)
    rw [rim_none fun x y => by unfold Bx.cell; rw [decide_eq_false_iff_not]; dsimp only; omega, nv] at hfl
    have HWN := Lib.hid hwn
    have HWB := Lib.hid hwb
    have HFL := Lib.hid hfl
    have HNV := Lib.hid nv
    have HNS := fun W => wide_nsameP (nh : Int) (nl : Int) W
    clear hc6 hwn hwb hfl nv
    go_wp2_with fail
    clear c0 c1 c2 c3 c4
    (with_reducible refine HFL.out.mono ?_)
    rintro e w7 ⟨rfl, hu7⟩
    have HU7 := Lib.hid (show Upd [] W6 w7 from ((Upd.refl _ _).alloc _).trans hu7)
    clear hu7
    go_wp2_with fail
    (with_reducible refine (HWN.out _ HU7.out).mono ?_)
    rintro e w8 ⟨rfl, hu8⟩
    have HU8 := Lib.hid (HU7.out.trans hu8)
    clear hu8
    go_upto_region 8 with fail
    obtain ⟨r, hr⟩ : ∃ r, rightB b = r := ⟨_, rfl⟩
    have hrb := rightBoxC b
    unfold bxV at hrb
    rw [hr] at hrb
    have HRB := Lib.hid hrb
    have HR := Lib.hid hr
    clear HNS hrb hr
    obtain ⟨c0, c1, c2, c3, c4⟩ := (HB6.out.2.2.1.upd0 HU8.out).cells
    go_wp2_with fail
    (with_reducible refine (HRB.out w8).mono ?_)
    rintro e w9 ⟨rfl, hu9⟩
    have HU9 := Lib.hid (HU8.out.trans hu9)
    clear hu9 c0 c1 c2 c3 c4
    cases r with
    | false =>
      obtain ⟨c0, c1, c2, c3, c4⟩ := (HB6.out.2.2.1.upd0 HU9.out).cells
      have hwb := HWB.out w9 b HU9.out H64.out.1
      rw [rim_none fun x y => by have := HR.out; unfold rightB at this; simp only [Bool.and_eq_false_iff, decide_eq_false_iff_not] at this; unfold Bx.cell; rw [decide_eq_false_iff_not]; omega, HNV.out] at hwb
      have HW9 := Lib.hid hwb
      have HSS := fun W => wide_sameP (nh : Int) (nl : Int) W
      clear hwb
      go_upto_region 9 with fail
      go_wp2_with fail
      clear c0 c1 c2 c3 c4
      (with_reducible refine HW9.out.mono ?_)
      rintro e w10 ⟨rfl, hu10⟩
      have HU10 := Lib.hid (show Upd [] W6 w10 from (HU9.out.alloc _).trans hu10)
      clear hu10
      go_wp2_with fail
      (with_reducible refine (HWN.out _ HU10.out).mono ?_)
      rintro e w11 ⟨rfl, hu11⟩
      have HU11 := Lib.hid (HU10.out.trans hu11)
      clear hu11
      go_wp2_with fail
      (with_reducible refine (awake18 _).mono ?_)
      rintro e w12 ⟨rfl, hu12⟩
      have HU12 := Lib.hid (HU11.out.trans hu12)
      clear hu12
      go_wp2_with fail
      go_ret
      exact ⟨rfl, (HB6.out.1.trans HU12.out).below⟩
    | true =>
      go_upto_region 10 with fail
      obtain ⟨Wd, hWd⟩ : ∃ Wd, Wd = w9.drew := ⟨_, rfl⟩
      have HUd := Lib.hid (show Upd [] W6 Wd by rw [hWd]; exact HU9.out.drew)
      -- region 10: T waits for all loads; fuel 1
      refine GoT.start [] (fun w' => BAt w' (p3 + 1) b) (by kernel_rfl) ?_ fun hS => ?_
      · rw [← hWd]; exact HB6.out.2.2.1.upd0 HUd.out
      rw [← hWd] at hS ⊢
      clear hWd
      refine' GoT.take 1 (i := 0) (oi := ⟨some 43, _, _, _, _, _⟩) (v := _) rfl (by kernel_rfl) (by kernel_rfl) (by kernel_rfl) (by kernel_rfl) (fun _ _ _ h => h) (Or.inl ⟨by rfl, ?y10_0⟩) (by assumption) ?r10_0
      case y10_0 => intro w hSw; obtain ⟨c0, c1, c2, c3, c4⟩ := BAt.cells hSw; go_simp <;> with_reducible rfl
      simp only [Act.put, List.setIfInBounds_toArray, List.set_cons_zero, List.set_cons_succ]
      refine' GoT.take 1 (i := 1) (oi := ⟨some 44, _, _, _, _, _⟩) (v := _) rfl (by kernel_rfl) (by kernel_rfl) (by kernel_rfl) (by kernel_rfl) (fun _ _ _ h => h) (Or.inl ⟨by rfl, ?y10_1⟩) (by assumption) ?r10_1
      case y10_1 => intro w hSw; obtain ⟨c0, c1, c2, c3, c4⟩ := BAt.cells hSw; go_simp <;> with_reducible rfl
      simp only [Act.put, List.setIfInBounds_toArray, List.set_cons_zero, List.set_cons_succ]
      refine' GoT.take 1 (i := 2) (oi := ⟨some 45, _, _, _, _, _⟩) (v := _) rfl (by kernel_rfl) (by kernel_rfl) (by kernel_rfl) (by kernel_rfl) (fun _ _ _ h => h) (Or.inl ⟨by rfl, ?y10_2⟩) (by assumption) ?r10_2
      case y10_2 => intro w hSw; obtain ⟨c0, c1, c2, c3, c4⟩ := BAt.cells hSw; go_simp <;> with_reducible rfl
      simp only [Act.put, List.setIfInBounds_toArray, List.set_cons_zero, List.set_cons_succ]
      refine' GoT.take 1 (i := 3) (oi := ⟨some 46, _, _, _, _, _⟩) (v := _) rfl (by kernel_rfl) (by kernel_rfl) (by kernel_rfl) (by kernel_rfl) (fun _ _ _ h => h) (Or.inl ⟨by rfl, ?y10_3⟩) (by assumption) ?r10_3
      case y10_3 => intro w hSw; obtain ⟨c0, c1, c2, c3, c4⟩ := BAt.cells hSw; go_simp <;> with_reducible rfl
      simp only [Act.put, List.setIfInBounds_toArray, List.set_cons_zero, List.set_cons_succ]
      refine GoT.phase [4, 5, 6, 7] 4 (L1 := #[true, true, true, true, true, true, true, true, false, false, false, false]) (m := 4)
        (fun a0 D a w' => ∃ (pa pb pc pd : Nat), a = putIf D 4 9 (.pointer (some ⟨pa, 0, none⟩)) (putIf D 5 10 (.pointer (some ⟨pb, 0, none⟩)) (putIf D 6 11 (.pointer (some ⟨pc, 0, none⟩)) (putIf D 7 12 (.pointer (some ⟨pd, 0, none⟩)) a0))) ∧ Upd [] Wd w' ∧ (D 4 = true → BAt w' pa ⟨0, 0, 0, 0, 0⟩ ∧ Wd.heap.size ≤ pa) ∧ (D 5 = true → BAt w' pb ⟨0, 0, 0, 0, 0⟩ ∧ Wd.heap.size ≤ pb) ∧ (D 6 = true → BAt w' pc ⟨0, 0, 0, 0, 0⟩ ∧ Wd.heap.size ≤ pc) ∧ (D 7 = true → BAt w' pd ⟨0, 0, 0, 0, 0⟩ ∧ Wd.heap.size ≤ pd) ∧ (D 4 = true → D 5 = true → pa ≠ pb) ∧ (D 4 = true → D 6 = true → pa ≠ pc) ∧ (D 4 = true → D 7 = true → pa ≠ pd) ∧ (D 5 = true → D 6 = true → pb ≠ pc) ∧ (D 5 = true → D 7 = true → pb ≠ pd) ∧ (D 6 = true → D 7 = true → pc ≠ pd))
        (by kernel_rfl) (by decide) (by kernel_rfl) (by kernel_rfl) (by kernel_rfl) (by kernel_rfl) (by kernel_rfl) (by kernel_rfl) (by kernel_rfl) ?_ ?_ ?_
      · exact ⟨0, 0, 0, 0, by simp [putIf], Upd.refl _ _, fun h => by simp at h, fun h => by simp at h, fun h => by simp at h, fun h => by simp at h, fun h => by simp at h, fun h => by simp at h, fun h => by simp at h, fun h => by simp at h, fun h => by simp at h, fun h => by simp at h⟩
      · intro i hi D a' w' hJ hout hDi hdep
        obtain ⟨pa, pb, pc, pd, rfl, hu, fa, fb, fc, fd, g01, g02, g03, g12, g13, g23⟩ := hJ
        simp only [List.mem_cons, List.not_mem_nil, or_false] at hi
        rcases hi with rfl | rfl | rfl | rfl
        · refine wpOp_hid (o := ⟨some 9, _, _, _, _, _⟩) rfl fun K hK => ?_
          simp only [putIf, Array.getD_eq_getD_getElem?, List.setIfInBounds_toArray, List.set_cons_zero, List.set_cons_succ, List.getElem?_toArray, List.getElem?_cons_zero, List.getElem?_cons_succ, Option.getD_some]
          go_simp
          have hu2 : Upd [] w' (w'.alloc (.cells #[.int .i64 0, .int .i64 0, .int .i64 0, .int .i64 0, .int .u32 0] 34)) := (Upd.refl _ _).alloc _
          have hnew : BAt (w'.alloc (.cells #[.int .i64 0, .int .i64 0, .int .i64 0, .int .i64 0, .int .u32 0] 34)) w'.heap.size ⟨0, 0, 0, 0, 0⟩ := heap_alloc_new _ _
          have hge := hu.size
          refine hK.out _ _ ⟨fun h => BAt.upd0 h hu2, w'.heap.size, pb, pc, pd, by simp [putIf, updD], hu.trans hu2, fun h => ?_, fun h => ?_, fun h => ?_, fun h => ?_, fun h h2 => ?_, fun h h2 => ?_, fun h h2 => ?_, fun h h2 => ?_, fun h h2 => ?_, fun h h2 => ?_⟩
          · exact ⟨hnew, hge⟩
          · exact ⟨(fb (by simpa [updD] using h)).1.upd0 hu2, (fb (by simpa [updD] using h)).2⟩
          · exact ⟨(fc (by simpa [updD] using h)).1.upd0 hu2, (fc (by simpa [updD] using h)).2⟩
          · exact ⟨(fd (by simpa [updD] using h)).1.upd0 hu2, (fd (by simpa [updD] using h)).2⟩
          · have := (fb (by simpa [updD] using h2)).1.lt; omega
          · have := (fc (by simpa [updD] using h2)).1.lt; omega
          · have := (fd (by simpa [updD] using h2)).1.lt; omega
          · exact g12 (by simpa [updD] using h) (by simpa [updD] using h2)
          · exact g13 (by simpa [updD] using h) (by simpa [updD] using h2)
          · exact g23 (by simpa [updD] using h) (by simpa [updD] using h2)
        · refine wpOp_hid (o := ⟨some 10, _, _, _, _, _⟩) rfl fun K hK => ?_
          simp only [putIf, Array.getD_eq_getD_getElem?, List.setIfInBounds_toArray, List.set_cons_zero, List.set_cons_succ, List.getElem?_toArray, List.getElem?_cons_zero, List.getElem?_cons_succ, Option.getD_some]
          go_simp
          have hu2 : Upd [] w' (w'.alloc (.cells #[.int .i64 0, .int .i64 0, .int .i64 0, .int .i64 0, .int .u32 0] 34)) := (Upd.refl _ _).alloc _
          have hnew : BAt (w'.alloc (.cells #[.int .i64 0, .int .i64 0, .int .i64 0, .int .i64 0, .int .u32 0] 34)) w'.heap.size ⟨0, 0, 0, 0, 0⟩ := heap_alloc_new _ _
          have hge := hu.size
          refine hK.out _ _ ⟨fun h => BAt.upd0 h hu2, pa, w'.heap.size, pc, pd, by simp [putIf, updD], hu.trans hu2, fun h => ?_, fun h => ?_, fun h => ?_, fun h => ?_, fun h h2 => ?_, fun h h2 => ?_, fun h h2 => ?_, fun h h2 => ?_, fun h h2 => ?_, fun h h2 => ?_⟩
          · exact ⟨(fa (by simpa [updD] using h)).1.upd0 hu2, (fa (by simpa [updD] using h)).2⟩
          · exact ⟨hnew, hge⟩
          · exact ⟨(fc (by simpa [updD] using h)).1.upd0 hu2, (fc (by simpa [updD] using h)).2⟩
          · exact ⟨(fd (by simpa [updD] using h)).1.upd0 hu2, (fd (by simpa [updD] using h)).2⟩
          · have := (fa (by simpa [updD] using h)).1.lt; omega
          · exact g02 (by simpa [updD] using h) (by simpa [updD] using h2)
          · exact g03 (by simpa [updD] using h) (by simpa [updD] using h2)
          · have := (fc (by simpa [updD] using h2)).1.lt; omega
          · have := (fd (by simpa [updD] using h2)).1.lt; omega
          · exact g23 (by simpa [updD] using h) (by simpa [updD] using h2)
        · refine wpOp_hid (o := ⟨some 11, _, _, _, _, _⟩) rfl fun K hK => ?_
          simp only [putIf, Array.getD_eq_getD_getElem?, List.setIfInBounds_toArray, List.set_cons_zero, List.set_cons_succ, List.getElem?_toArray, List.getElem?_cons_zero, List.getElem?_cons_succ, Option.getD_some]
          go_simp
          have hu2 : Upd [] w' (w'.alloc (.cells #[.int .i64 0, .int .i64 0, .int .i64 0, .int .i64 0, .int .u32 0] 34)) := (Upd.refl _ _).alloc _
          have hnew : BAt (w'.alloc (.cells #[.int .i64 0, .int .i64 0, .int .i64 0, .int .i64 0, .int .u32 0] 34)) w'.heap.size ⟨0, 0, 0, 0, 0⟩ := heap_alloc_new _ _
          have hge := hu.size
          refine hK.out _ _ ⟨fun h => BAt.upd0 h hu2, pa, pb, w'.heap.size, pd, by simp [putIf, updD], hu.trans hu2, fun h => ?_, fun h => ?_, fun h => ?_, fun h => ?_, fun h h2 => ?_, fun h h2 => ?_, fun h h2 => ?_, fun h h2 => ?_, fun h h2 => ?_, fun h h2 => ?_⟩
          · exact ⟨(fa (by simpa [updD] using h)).1.upd0 hu2, (fa (by simpa [updD] using h)).2⟩
          · exact ⟨(fb (by simpa [updD] using h)).1.upd0 hu2, (fb (by simpa [updD] using h)).2⟩
          · exact ⟨hnew, hge⟩
          · exact ⟨(fd (by simpa [updD] using h)).1.upd0 hu2, (fd (by simpa [updD] using h)).2⟩
          · exact g01 (by simpa [updD] using h) (by simpa [updD] using h2)
          · have := (fa (by simpa [updD] using h)).1.lt; omega
          · exact g03 (by simpa [updD] using h) (by simpa [updD] using h2)
          · have := (fb (by simpa [updD] using h)).1.lt; omega
          · exact g13 (by simpa [updD] using h) (by simpa [updD] using h2)
          · have := (fd (by simpa [updD] using h2)).1.lt; omega
        · refine wpOp_hid (o := ⟨some 12, _, _, _, _, _⟩) rfl fun K hK => ?_
          simp only [putIf, Array.getD_eq_getD_getElem?, List.setIfInBounds_toArray, List.set_cons_zero, List.set_cons_succ, List.getElem?_toArray, List.getElem?_cons_zero, List.getElem?_cons_succ, Option.getD_some]
          go_simp
          have hu2 : Upd [] w' (w'.alloc (.cells #[.int .i64 0, .int .i64 0, .int .i64 0, .int .i64 0, .int .u32 0] 34)) := (Upd.refl _ _).alloc _
          have hnew : BAt (w'.alloc (.cells #[.int .i64 0, .int .i64 0, .int .i64 0, .int .i64 0, .int .u32 0] 34)) w'.heap.size ⟨0, 0, 0, 0, 0⟩ := heap_alloc_new _ _
          have hge := hu.size
          refine hK.out _ _ ⟨fun h => BAt.upd0 h hu2, pa, pb, pc, w'.heap.size, by simp [putIf, updD], hu.trans hu2, fun h => ?_, fun h => ?_, fun h => ?_, fun h => ?_, fun h h2 => ?_, fun h h2 => ?_, fun h h2 => ?_, fun h h2 => ?_, fun h h2 => ?_, fun h h2 => ?_⟩
          · exact ⟨(fa (by simpa [updD] using h)).1.upd0 hu2, (fa (by simpa [updD] using h)).2⟩
          · exact ⟨(fb (by simpa [updD] using h)).1.upd0 hu2, (fb (by simpa [updD] using h)).2⟩
          · exact ⟨(fc (by simpa [updD] using h)).1.upd0 hu2, (fc (by simpa [updD] using h)).2⟩
          · exact ⟨hnew, hge⟩
          · exact g01 (by simpa [updD] using h) (by simpa [updD] using h2)
          · exact g02 (by simpa [updD] using h) (by simpa [updD] using h2)
          · have := (fa (by simpa [updD] using h)).1.lt; omega
          · exact g12 (by simpa [updD] using h) (by simpa [updD] using h2)
          · have := (fb (by simpa [updD] using h)).1.lt; omega
          · have := (fc (by simpa [updD] using h)).1.lt; omega
      · intro a' w' hJ
        obtain ⟨pa, pb, pc, pd, rfl, hu, fa, fb, fc, fd, g01, g02, g03, g12, g13, g23⟩ := hJ
        have kpa := fa (by rfl)
        have kpb := fb (by rfl)
        have kpc := fc (by rfl)
        have kpd := fd (by rfl)
        have e01 := g01 (by rfl) (by rfl)
        have e02 := g02 (by rfl) (by rfl)
        have e03 := g03 (by rfl) (by rfl)
        have e12 := g12 (by rfl) (by rfl)
        have e13 := g13 (by rfl) (by rfl)
        have e23 := g23 (by rfl) (by rfl)
        clear fa fb fc fd g01 g02 g03 g12 g13 g23
        simp [putIf]
        obtain ⟨kpa, bpa⟩ := kpa
        obtain ⟨kpb, bpb⟩ := kpb
        obtain ⟨kpc, bpc⟩ := kpc
        obtain ⟨kpd, bpd⟩ := kpd
        obtain ⟨z0, z1, z2, z3, z4⟩ := kpa.cells
        have zf0 := kpa.free 0
        have zf1 := kpa.free 1
        have zf2 := kpa.free 2
        have zf3 := kpa.free 3
        have zf4 := kpa.free 4
        have hst : Upd [pa] w' (w'.setCells pa 0 [.int .i64 b.x1, .int .i64 b.x2, .int .i64 b.y1, .int .i64 b.y2, .int .u32 (b.id : Int)]) := upd_puts pa _ 0 _
        have hub := hu.size
        have nk : BAt (w'.setCells pa 0 [.int .i64 b.x1, .int .i64 b.x2, .int .i64 b.y1, .int .i64 b.y2, .int .u32 (b.id : Int)]) pa b := kpa.puts b
        have hu := hu.trans' hst (fun j hj => .inr (by simp at hj; omega))
        have kpb := kpb.upd hst (by simp; exact Ne.symm e01)
        have kpc := kpc.upd hst (by simp; exact Ne.symm e02)
        have kpd := kpd.upd hst (by simp; exact Ne.symm e03)
        refine GoT.one (i := 8) (o := ⟨none, _, _, _, _, _⟩) rfl (by kernel_rfl) fun K hK => ?_
        go_simp
        refine hK.out _ _ (fun _ h => BAt.upd h hst (by have := (HB6.out.2.2.1.upd0 HUd.out).lt; simp; omega)) ?_
        clear hK K
        try simp only [List.setIfInBounds_toArray, List.set_cons_zero, List.set_cons_succ]
        clear z0 z1 z2 z3 z4 zf0 zf1 zf2 zf3 zf4 kpa hst hub
        change GoT _ _ _ _ _ _ _ _ (w'.setCells pa 0 [.int .i64 b.x1, .int .i64 b.x2, .int .i64 b.y1, .int .i64 b.y2, .int .u32 (b.id : Int)])
        have kpa := nk
        clear nk
        generalize (w'.setCells pa 0 [.int .i64 b.x1, .int .i64 b.x2, .int .i64 b.y1, .int .i64 b.y2, .int .u32 (b.id : Int)]) = v1 at *
        obtain ⟨z0, z1, z2, z3, z4⟩ := kpb.cells
        have zf0 := kpb.free 0
        have zf1 := kpb.free 1
        have zf2 := kpb.free 2
        have zf3 := kpb.free 3
        have zf4 := kpb.free 4
        have hst : Upd [pb] v1 (v1.setCells pb 0 [.int .i64 b.x1, .int .i64 b.x2, .int .i64 b.y1, .int .i64 b.y2, .int .u32 (b.id : Int)]) := upd_puts pb _ 0 _
        have hub := hu.size
        have nk : BAt (v1.setCells pb 0 [.int .i64 b.x1, .int .i64 b.x2, .int .i64 b.y1, .int .i64 b.y2, .int .u32 (b.id : Int)]) pb b := kpb.puts b
        have hu := hu.trans' hst (fun j hj => .inr (by simp at hj; omega))
        have kpa := kpa.upd hst (by simp; exact e01)
        have kpc := kpc.upd hst (by simp; exact Ne.symm e12)
        have kpd := kpd.upd hst (by simp; exact Ne.symm e13)
        refine GoT.one (i := 9) (o := ⟨none, _, _, _, _, _⟩) rfl (by kernel_rfl) fun K hK => ?_
        go_simp
        refine hK.out _ _ (fun _ h => BAt.upd h hst (by have := (HB6.out.2.2.1.upd0 HUd.out).lt; simp; omega)) ?_
        clear hK K
        try simp only [List.setIfInBounds_toArray, List.set_cons_zero, List.set_cons_succ]
        clear z0 z1 z2 z3 z4 zf0 zf1 zf2 zf3 zf4 kpb hst hub
        change GoT _ _ _ _ _ _ _ _ (v1.setCells pb 0 [.int .i64 b.x1, .int .i64 b.x2, .int .i64 b.y1, .int .i64 b.y2, .int .u32 (b.id : Int)])
        have kpb := nk
        clear nk
        generalize (v1.setCells pb 0 [.int .i64 b.x1, .int .i64 b.x2, .int .i64 b.y1, .int .i64 b.y2, .int .u32 (b.id : Int)]) = v2 at *
        obtain ⟨z0, z1, z2, z3, z4⟩ := kpc.cells
        have zf0 := kpc.free 0
        have zf1 := kpc.free 1
        have zf2 := kpc.free 2
        have zf3 := kpc.free 3
        have zf4 := kpc.free 4
        have hst : Upd [pc] v2 (v2.setCells pc 0 [.int .i64 b.x1, .int .i64 b.x2, .int .i64 b.y1, .int .i64 b.y2, .int .u32 (b.id : Int)]) := upd_puts pc _ 0 _
        have hub := hu.size
        have nk : BAt (v2.setCells pc 0 [.int .i64 b.x1, .int .i64 b.x2, .int .i64 b.y1, .int .i64 b.y2, .int .u32 (b.id : Int)]) pc b := kpc.puts b
        have hu := hu.trans' hst (fun j hj => .inr (by simp at hj; omega))
        have kpa := kpa.upd hst (by simp; exact e02)
        have kpb := kpb.upd hst (by simp; exact e12)
        have kpd := kpd.upd hst (by simp; exact Ne.symm e23)
        refine GoT.one (i := 10) (o := ⟨none, _, _, _, _, _⟩) rfl (by kernel_rfl) fun K hK => ?_
        go_simp
        refine hK.out _ _ (fun _ h => BAt.upd h hst (by have := (HB6.out.2.2.1.upd0 HUd.out).lt; simp; omega)) ?_
        clear hK K
        try simp only [List.setIfInBounds_toArray, List.set_cons_zero, List.set_cons_succ]
        clear z0 z1 z2 z3 z4 zf0 zf1 zf2 zf3 zf4 kpc hst hub
        change GoT _ _ _ _ _ _ _ _ (v2.setCells pc 0 [.int .i64 b.x1, .int .i64 b.x2, .int .i64 b.y1, .int .i64 b.y2, .int .u32 (b.id : Int)])
        have kpc := nk
        clear nk
        generalize (v2.setCells pc 0 [.int .i64 b.x1, .int .i64 b.x2, .int .i64 b.y1, .int .i64 b.y2, .int .u32 (b.id : Int)]) = v3 at *
        obtain ⟨z0, z1, z2, z3, z4⟩ := kpd.cells
        have zf0 := kpd.free 0
        have zf1 := kpd.free 1
        have zf2 := kpd.free 2
        have zf3 := kpd.free 3
        have zf4 := kpd.free 4
        have hst : Upd [pd] v3 (v3.setCells pd 0 [.int .i64 b.x1, .int .i64 b.x2, .int .i64 b.y1, .int .i64 b.y2, .int .u32 (b.id : Int)]) := upd_puts pd _ 0 _
        have hub := hu.size
        have nk : BAt (v3.setCells pd 0 [.int .i64 b.x1, .int .i64 b.x2, .int .i64 b.y1, .int .i64 b.y2, .int .u32 (b.id : Int)]) pd b := kpd.puts b
        have hu := hu.trans' hst (fun j hj => .inr (by simp at hj; omega))
        have kpa := kpa.upd hst (by simp; exact e03)
        have kpb := kpb.upd hst (by simp; exact e13)
        have kpc := kpc.upd hst (by simp; exact e23)
        refine GoT.one (i := 11) (o := ⟨none, _, _, _, _, _⟩) rfl (by kernel_rfl) fun K hK => ?_
        go_simp
        refine hK.out _ _ (fun _ h => BAt.upd h hst (by have := (HB6.out.2.2.1.upd0 HUd.out).lt; simp; omega)) ?_
        clear hK K
        try simp only [List.setIfInBounds_toArray, List.set_cons_zero, List.set_cons_succ]
        clear z0 z1 z2 z3 z4 zf0 zf1 zf2 zf3 zf4 kpd hst hub
        change GoT _ _ _ _ _ _ _ _ (v3.setCells pd 0 [.int .i64 b.x1, .int .i64 b.x2, .int .i64 b.y1, .int .i64 b.y2, .int .u32 (b.id : Int)])
        have kpd := nk
        clear nk
        generalize (v3.setCells pd 0 [.int .i64 b.x1, .int .i64 b.x2, .int .i64 b.y1, .int .i64 b.y2, .int .u32 (b.id : Int)]) = v4 at *
        refine GoT.done (by kernel_rfl) ?_
        have HV4 := Lib.hid (And.intro (HUd.out.trans hu) (And.intro kpa (And.intro kpb (And.intro kpc (And.intro kpd (HB6.out.2.2.1.upd0 (HUd.out.trans hu)))))))
        have HGE := Lib.hid (And.intro bpa (And.intro bpb (And.intro bpc (And.intro bpd (And.intro e01 (And.intro e02 (And.intro e03 (And.intro e12 (And.intro e13 e23)))))))))
        have HSZ := Lib.hid (show W6.heap.size ≤ Wd.heap.size ∧ p3 + 1 < W6.heap.size from ⟨HUd.out.size, HB6.out.2.2.1.lt⟩)
        clear hu kpa kpb kpc kpd bpa bpb bpc bpd e01 e02 e03 e12 e13 e23
        try clear hS
        have HRR := Lib.hid (show b.x1 ≤ b.x2 ∧ b.y1 ≤ b.y2 by have := HR.out; unfold rightB at this; simpa using this)
        obtain ⟨m1, hm1⟩ : ∃ m, min (max cut b.x1) b.x2 = m := ⟨_, rfl⟩
        obtain ⟨m2, hm2⟩ : ∃ m, min (max cut b.y1) b.y2 = m := ⟨_, rfl⟩
        have HM1 := Lib.hid hm1
        have HM2 := Lib.hid hm2
        have HMB := Lib.hid (show (b.x1 ≤ m1 ∧ m1 ≤ b.x2) ∧ (b.y1 ≤ m2 ∧ m2 ≤ b.y2) by have := HRR.out; rw [← hm1, ← hm2]; omega)
        clear hm1 hm2
        obtain ⟨c00, c01, c02, c03, c04⟩ := HV4.out.2.2.2.2.2.cells
        try dsimp only [cutX, cutY] at c00 c01 c02 c03 c04
        have ff := HV4.out.2.1.free 1
        obtain ⟨e0, e1, e2, e3, e4⟩ := HV4.out.2.1.cells
        try dsimp only [cutX, cutY] at e0 e1 e2 e3 e4
        go_upto_region 12 with fail
        rw [HM1.out]
        have hst : Upd [pa] v4 (v4.setCell ⟨pa, 1, none⟩ (.int .i64 m1)) := (Upd.refl _ _).setCell (.inl (by simp)) _
        have HV5 := Lib.hid (And.intro (HV4.out.1.trans' hst (fun j hj => .inr (by simp at hj; have := HGE.out; have := HSZ.out; omega))) (And.intro (show BAt (v4.setCell ⟨pa, 1, none⟩ (.int .i64 m1)) pa (cutX b m1).1 from heap_set HV4.out.2.1 1 _) (And.intro (HV4.out.2.2.1.upd hst (by simp; have := HGE.out; have := HSZ.out; omega)) (And.intro (HV4.out.2.2.2.1.upd hst (by simp; have := HGE.out; have := HSZ.out; omega)) (And.intro (HV4.out.2.2.2.2.1.upd hst (by simp; have := HGE.out; have := HSZ.out; omega)) (HV4.out.2.2.2.2.2.upd hst (by simp; have := HGE.out; have := HSZ.out; omega)))))))
        clear c00 c01 c02 c03 c04 e0 e1 e2 e3 e4 ff hst
        generalize (v4.setCell ⟨pa, 1, none⟩ (.int .i64 m1)) = v5 at HV5 ⊢
        obtain ⟨c00, c01, c02, c03, c04⟩ := HV5.out.2.1.cells
        try dsimp only [cutX, cutY] at c00 c01 c02 c03 c04
        have ff := HV5.out.2.2.1.free 0
        obtain ⟨e0, e1, e2, e3, e4⟩ := HV5.out.2.2.1.cells
        try dsimp only [cutX, cutY] at e0 e1 e2 e3 e4
        go_upto_region 13 with fail
        have hst : Upd [pb] v5 (v5.setCell ⟨pb, 0, none⟩ (.int .i64 m1)) := (Upd.refl _ _).setCell (.inl (by simp)) _
        have HV6 := Lib.hid (And.intro (HV5.out.1.trans' hst (fun j hj => .inr (by simp at hj; have := HGE.out; have := HSZ.out; omega))) (And.intro (HV5.out.2.1.upd hst (by simp; have := HGE.out; have := HSZ.out; omega)) (And.intro (show BAt (v5.setCell ⟨pb, 0, none⟩ (.int .i64 m1)) pb (cutX b m1).2 from heap_set HV5.out.2.2.1 0 _) (And.intro (HV5.out.2.2.2.1.upd hst (by simp; have := HGE.out; have := HSZ.out; omega)) (And.intro (HV5.out.2.2.2.2.1.upd hst (by simp; have := HGE.out; have := HSZ.out; omega)) (HV5.out.2.2.2.2.2.upd hst (by simp; have := HGE.out; have := HSZ.out; omega)))))))
        clear c00 c01 c02 c03 c04 e0 e1 e2 e3 e4 ff hst
        generalize (v5.setCell ⟨pb, 0, none⟩ (.int .i64 m1)) = v6 at HV6 ⊢
        obtain ⟨c00, c01, c02, c03, c04⟩ := HV6.out.2.2.2.2.2.cells
        try dsimp only [cutX, cutY] at c00 c01 c02 c03 c04
        have ff := HV6.out.2.2.2.1.free 3
        obtain ⟨e0, e1, e2, e3, e4⟩ := HV6.out.2.2.2.1.cells
        try dsimp only [cutX, cutY] at e0 e1 e2 e3 e4
        go_upto_region 14 with fail
        rw [HM2.out]
        have hst : Upd [pc] v6 (v6.setCell ⟨pc, 3, none⟩ (.int .i64 m2)) := (Upd.refl _ _).setCell (.inl (by simp)) _
        have HV7 := Lib.hid (And.intro (HV6.out.1.trans' hst (fun j hj => .inr (by simp at hj; have := HGE.out; have := HSZ.out; omega))) (And.intro (HV6.out.2.1.upd hst (by simp; have := HGE.out; have := HSZ.out; omega)) (And.intro (HV6.out.2.2.1.upd hst (by simp; have := HGE.out; have := HSZ.out; omega)) (And.intro (show BAt (v6.setCell ⟨pc, 3, none⟩ (.int .i64 m2)) pc (cutY b m2).1 from heap_set HV6.out.2.2.2.1 3 _) (And.intro (HV6.out.2.2.2.2.1.upd hst (by simp; have := HGE.out; have := HSZ.out; omega)) (HV6.out.2.2.2.2.2.upd hst (by simp; have := HGE.out; have := HSZ.out; omega)))))))
        clear c00 c01 c02 c03 c04 e0 e1 e2 e3 e4 ff hst
        generalize (v6.setCell ⟨pc, 3, none⟩ (.int .i64 m2)) = v7 at HV7 ⊢
        obtain ⟨c00, c01, c02, c03, c04⟩ := HV7.out.2.2.2.1.cells
        try dsimp only [cutX, cutY] at c00 c01 c02 c03 c04
        have ff := HV7.out.2.2.2.2.1.free 2
        obtain ⟨e0, e1, e2, e3, e4⟩ := HV7.out.2.2.2.2.1.cells
        try dsimp only [cutX, cutY] at e0 e1 e2 e3 e4
        go_upto_region 15 with fail
        have hst : Upd [pd] v7 (v7.setCell ⟨pd, 2, none⟩ (.int .i64 m2)) := (Upd.refl _ _).setCell (.inl (by simp)) _
        have HV8 := Lib.hid (And.intro (HV7.out.1.trans' hst (fun j hj => .inr (by simp at hj; have := HGE.out; have := HSZ.out; omega))) (And.intro (HV7.out.2.1.upd hst (by simp; have := HGE.out; have := HSZ.out; omega)) (And.intro (HV7.out.2.2.1.upd hst (by simp; have := HGE.out; have := HSZ.out; omega)) (And.intro (HV7.out.2.2.2.1.upd hst (by simp; have := HGE.out; have := HSZ.out; omega)) (And.intro (show BAt (v7.setCell ⟨pd, 2, none⟩ (.int .i64 m2)) pd (cutY b m2).2 from heap_set HV7.out.2.2.2.2.1 2 _) (HV7.out.2.2.2.2.2.upd hst (by simp; have := HGE.out; have := HSZ.out; omega)))))))
        clear c00 c01 c02 c03 c04 e0 e1 e2 e3 e4 ff hst
        generalize (v7.setCell ⟨pd, 2, none⟩ (.int .i64 m2)) = v8 at HV8 ⊢
        obtain ⟨bh, bl, hbv, -, -⟩ := wideV_open (rimA (l ++ [b])).toNat
        have hq := rim_parts HMB.out.1 HMB.out.2 l
        have hp1 : ∀ W : World, Upd [] W6 W → Calls Tryz.prog 37 #[.slice (some ⟨W.heap.size, 0, none⟩) 1 1, .pointer (some ⟨p3, 0, none⟩)] (W.alloc (.cells #[.int .i64 b.x1, .int .i64 b.x2, .int .i64 b.y1, .int .i64 b.y2, .int .u32 (b.id : Int)] 34)) fun e w' => e = .returned (.agg #[.int .u64 (bh : Int), .int .u64 (bl : Int)]) ∧ Upd [] (W.alloc (.cells #[.int .i64 b.x1, .int .i64 b.x2, .int .i64 b.y1, .int .i64 b.y2, .int .u32 (b.id : Int)] 34)) w' := fun W hW => by
          have := HWITH.out _ [b] _ 1 1 (HC6.out _ (hW.alloc _)) (HB6.out.1.trans (hW.alloc _)) (show See KBx (W.alloc (.cells #[.int .i64 b.x1, .int .i64 b.x2, .int .i64 b.y1, .int .i64 b.y2, .int .u32 (b.id : Int)] 34)) (.slice (some ⟨W.heap.size, 0, none⟩) 1 1) [b] from sees_lit W #[.int .i64 b.x1, .int .i64 b.x2, .int .i64 b.y1, .int .i64 b.y2, .int .u32 (b.id : Int)] 34 5 1 rfl (by decide)) rfl (by omega) (fun c hc => by have h64 := H64.out.1; have hmb := HMB.out; unfold Bx.in64 at h64 ⊢; simp only [List.mem_cons, List.not_mem_nil, or_false] at hc; rcases hc with rfl <;> first | omega | (unfold cutX; dsimp only; omega) | (unfold cutY; dsimp only; omega))
          rw [show rimA (l ++ [b]) = rimA (l ++ [b]) from rfl, hbv] at this
          exact this
        have hp2 : ∀ W : World, Upd [] W6 W → Calls Tryz.prog 37 #[.slice (some ⟨W.heap.size, 0, none⟩) 2 2, .pointer (some ⟨p3, 0, none⟩)] (W.alloc (.cells #[.int .i64 b.x1, .int .i64 m1, .int .i64 b.y1, .int .i64 b.y2, .int .u32 (b.id : Int), .int .i64 m1, .int .i64 b.x2, .int .i64 b.y1, .int .i64 b.y2, .int .u32 (b.id : Int)] 34)) fun e w' => e = .returned (.agg #[.int .u64 (bh : Int), .int .u64 (bl : Int)]) ∧ Upd [] (W.alloc (.cells #[.int .i64 b.x1, .int .i64 m1, .int .i64 b.y1, .int .i64 b.y2, .int .u32 (b.id : Int), .int .i64 m1, .int .i64 b.x2, .int .i64 b.y1, .int .i64 b.y2, .int .u32 (b.id : Int)] 34)) w' := fun W hW => by
          have := HWITH.out _ [(cutX b m1).1, (cutX b m1).2] _ 2 2 (HC6.out _ (hW.alloc _)) (HB6.out.1.trans (hW.alloc _)) (show See KBx (W.alloc (.cells #[.int .i64 b.x1, .int .i64 m1, .int .i64 b.y1, .int .i64 b.y2, .int .u32 (b.id : Int), .int .i64 m1, .int .i64 b.x2, .int .i64 b.y1, .int .i64 b.y2, .int .u32 (b.id : Int)] 34)) (.slice (some ⟨W.heap.size, 0, none⟩) 2 2) [(cutX b m1).1, (cutX b m1).2] from sees_lit W #[.int .i64 b.x1, .int .i64 m1, .int .i64 b.y1, .int .i64 b.y2, .int .u32 (b.id : Int), .int .i64 m1, .int .i64 b.x2, .int .i64 b.y1, .int .i64 b.y2, .int .u32 (b.id : Int)] 34 5 2 rfl (by decide)) rfl (by omega) (fun c hc => by have h64 := H64.out.1; have hmb := HMB.out; unfold Bx.in64 at h64 ⊢; simp only [List.mem_cons, List.not_mem_nil, or_false] at hc; rcases hc with rfl | rfl <;> first | omega | (unfold cutX; dsimp only; omega) | (unfold cutY; dsimp only; omega))
          rw [hq.1, hbv] at this
          exact this
        have hp3 : ∀ W : World, Upd [] W6 W → Calls Tryz.prog 37 #[.slice (some ⟨W.heap.size, 0, none⟩) 2 2, .pointer (some ⟨p3, 0, none⟩)] (W.alloc (.cells #[.int .i64 b.x1, .int .i64 b.x2, .int .i64 b.y1, .int .i64 m2, .int .u32 (b.id : Int), .int .i64 b.x1, .int .i64 b.x2, .int .i64 m2, .int .i64 b.y2, .int .u32 (b.id : Int)] 34)) fun e w' => e = .returned (.agg #[.int .u64 (bh : Int), .int .u64 (bl : Int)]) ∧ Upd [] (W.alloc (.cells #[.int .i64 b.x1, .int .i64 b.x2, .int .i64 b.y1, .int .i64 m2, .int .u32 (b.id : Int), .int .i64 b.x1, .int .i64 b.x2, .int .i64 m2, .int .i64 b.y2, .int .u32 (b.id : Int)] 34)) w' := fun W hW => by
          have := HWITH.out _ [(cutY b m2).1, (cutY b m2).2] _ 2 2 (HC6.out _ (hW.alloc _)) (HB6.out.1.trans (hW.alloc _)) (show See KBx (W.alloc (.cells #[.int .i64 b.x1, .int .i64 b.x2, .int .i64 b.y1, .int .i64 m2, .int .u32 (b.id : Int), .int .i64 b.x1, .int .i64 b.x2, .int .i64 m2, .int .i64 b.y2, .int .u32 (b.id : Int)] 34)) (.slice (some ⟨W.heap.size, 0, none⟩) 2 2) [(cutY b m2).1, (cutY b m2).2] from sees_lit W #[.int .i64 b.x1, .int .i64 b.x2, .int .i64 b.y1, .int .i64 m2, .int .u32 (b.id : Int), .int .i64 b.x1, .int .i64 b.x2, .int .i64 m2, .int .i64 b.y2, .int .u32 (b.id : Int)] 34 5 2 rfl (by decide)) rfl (by omega) (fun c hc => by have h64 := H64.out.1; have hmb := HMB.out; unfold Bx.in64 at h64 ⊢; simp only [List.mem_cons, List.not_mem_nil, or_false] at hc; rcases hc with rfl | rfl <;> first | omega | (unfold cutX; dsimp only; omega) | (unfold cutY; dsimp only; omega))
          rw [hq.2.1, hbv] at this
          exact this
        have hp4 : ∀ W : World, Upd [] W6 W → Calls Tryz.prog 37 #[.slice (some ⟨W.heap.size, 0, none⟩) 2 2, .pointer (some ⟨p3, 0, none⟩)] (W.alloc (.cells #[.int .i64 b.x1, .int .i64 b.x2, .int .i64 b.y1, .int .i64 b.y2, .int .u32 (b.id : Int), .int .i64 b.x1, .int .i64 b.x2, .int .i64 b.y1, .int .i64 b.y2, .int .u32 (b.id : Int)] 34)) fun e w' => e = .returned (.agg #[.int .u64 (bh : Int), .int .u64 (bl : Int)]) ∧ Upd [] (W.alloc (.cells #[.int .i64 b.x1, .int .i64 b.x2, .int .i64 b.y1, .int .i64 b.y2, .int .u32 (b.id : Int), .int .i64 b.x1, .int .i64 b.x2, .int .i64 b.y1, .int .i64 b.y2, .int .u32 (b.id : Int)] 34)) w' := fun W hW => by
          have := HWITH.out _ [b, b] _ 2 2 (HC6.out _ (hW.alloc _)) (HB6.out.1.trans (hW.alloc _)) (show See KBx (W.alloc (.cells #[.int .i64 b.x1, .int .i64 b.x2, .int .i64 b.y1, .int .i64 b.y2, .int .u32 (b.id : Int), .int .i64 b.x1, .int .i64 b.x2, .int .i64 b.y1, .int .i64 b.y2, .int .u32 (b.id : Int)] 34)) (.slice (some ⟨W.heap.size, 0, none⟩) 2 2) [b, b] from sees_lit W #[.int .i64 b.x1, .int .i64 b.x2, .int .i64 b.y1, .int .i64 b.y2, .int .u32 (b.id : Int), .int .i64 b.x1, .int .i64 b.x2, .int .i64 b.y1, .int .i64 b.y2, .int .u32 (b.id : Int)] 34 5 2 rfl (by decide)) rfl (by omega) (fun c hc => by have h64 := H64.out.1; have hmb := HMB.out; unfold Bx.in64 at h64 ⊢; simp only [List.mem_cons, List.not_mem_nil, or_false] at hc; rcases hc with rfl | rfl <;> first | omega | (unfold cutX; dsimp only; omega) | (unfold cutY; dsimp only; omega))
          rw [hq.2.2.1, hbv] at this
          exact this
        have hp5 : ∀ W : World, Upd [] W6 W → Calls Tryz.prog 37 #[.slice (some ⟨W.heap.size, 0, none⟩) 3 3, .pointer (some ⟨p3, 0, none⟩)] (W.alloc (.cells #[.int .i64 b.x1, .int .i64 m1, .int .i64 b.y1, .int .i64 b.y2, .int .u32 (b.id : Int), .int .i64 b.x1, .int .i64 b.x2, .int .i64 b.y1, .int .i64 b.y2, .int .u32 (b.id : Int), .int .i64 b.x1, .int .i64 b.x2, .int .i64 m2, .int .i64 b.y2, .int .u32 (b.id : Int)] 34)) fun e w' => e = .returned (.agg #[.int .u64 (bh : Int), .int .u64 (bl : Int)]) ∧ Upd [] (W.alloc (.cells #[.int .i64 b.x1, .int .i64 m1, .int .i64 b.y1, .int .i64 b.y2, .int .u32 (b.id : Int), .int .i64 b.x1, .int .i64 b.x2, .int .i64 b.y1, .int .i64 b.y2, .int .u32 (b.id : Int), .int .i64 b.x1, .int .i64 b.x2, .int .i64 m2, .int .i64 b.y2, .int .u32 (b.id : Int)] 34)) w' := fun W hW => by
          have := HWITH.out _ [(cutX b m1).1, b, (cutY b m2).2] _ 3 3 (HC6.out _ (hW.alloc _)) (HB6.out.1.trans (hW.alloc _)) (show See KBx (W.alloc (.cells #[.int .i64 b.x1, .int .i64 m1, .int .i64 b.y1, .int .i64 b.y2, .int .u32 (b.id : Int), .int .i64 b.x1, .int .i64 b.x2, .int .i64 b.y1, .int .i64 b.y2, .int .u32 (b.id : Int), .int .i64 b.x1, .int .i64 b.x2, .int .i64 m2, .int .i64 b.y2, .int .u32 (b.id : Int)] 34)) (.slice (some ⟨W.heap.size, 0, none⟩) 3 3) [(cutX b m1).1, b, (cutY b m2).2] from sees_lit W #[.int .i64 b.x1, .int .i64 m1, .int .i64 b.y1, .int .i64 b.y2, .int .u32 (b.id : Int), .int .i64 b.x1, .int .i64 b.x2, .int .i64 b.y1, .int .i64 b.y2, .int .u32 (b.id : Int), .int .i64 b.x1, .int .i64 b.x2, .int .i64 m2, .int .i64 b.y2, .int .u32 (b.id : Int)] 34 5 3 rfl (by decide)) rfl (by omega) (fun c hc => by have h64 := H64.out.1; have hmb := HMB.out; unfold Bx.in64 at h64 ⊢; simp only [List.mem_cons, List.not_mem_nil, or_false] at hc; rcases hc with rfl | rfl | rfl <;> first | omega | (unfold cutX; dsimp only; omega) | (unfold cutY; dsimp only; omega))
          rw [hq.2.2.2, hbv] at this
          exact this
        have HP1 := Lib.hid hp1
        have HP2 := Lib.hid hp2
        have HP3 := Lib.hid hp3
        have HP4 := Lib.hid hp4
        have HP5 := Lib.hid hp5
        have HSS := fun W => wide_sameP (bh : Int) (bl : Int) W
        clear hp1 hp2 hp3 hp4 hp5 hq hbv
        obtain ⟨c0, c1, c2, c3, c4⟩ := HV8.out.2.2.2.2.2.cells
        go_wp2_with fail
        clear c0 c1 c2 c3 c4
        (with_reducible refine (HP1.out _ HV8.out.1).mono ?_)
        rintro e w10 ⟨rfl, hu10⟩
        have hua : Upd [] v8 (w10.alloc (.cells #[.int .u64 0, .int .u64 0] 27)) := (((Upd.refl _ _).alloc _).trans hu10).alloc _
        have hw : WAt (w10.alloc (.cells #[.int .u64 0, .int .u64 0] 27)) w10.heap.size 0 0 := WAt.new _ _ _
        obtain ⟨z0, z1⟩ := hw.cells
        have zf0 := hw.free 0
        have zf1 := hw.free 1
        go_upto_region 16 with fail
        clear z0 z1 zf0 zf1 hw hua
        have hua : Upd [] v8 (w10.alloc (.cells #[.int .u64 (bh : Int), .int .u64 (bl : Int)] 27)) := (((Upd.refl _ _).alloc _).trans hu10).alloc _
        have HQ := Lib.hid (And.intro (HV8.out.1.trans hua) (show S16 (w10.alloc (.cells #[.int .u64 (bh : Int), .int .u64 (bl : Int)] 27)) pa pb pc pd (p3 + 1) w10.heap.size b m1 m2 bh bl from ⟨HV8.out.2.1.upd0 hua, HV8.out.2.2.1.upd0 hua, HV8.out.2.2.2.1.upd0 hua, HV8.out.2.2.2.2.1.upd0 hua, HV8.out.2.2.2.2.2.upd0 hua, WAt.new _ _ _⟩))
        clear hua hu10
        generalize (w10.alloc (.cells #[.int .u64 (bh : Int), .int .u64 (bl : Int)] 27)) = W16 at HQ ⊢
        generalize w10.heap.size = p13 at HQ ⊢
        obtain ⟨We, hWe⟩ : ∃ We, We = W16.drew := ⟨_, rfl⟩
        have HU20 := Lib.hid (show Upd [] W6 We by rw [hWe]; exact HQ.out.1.drew)
        have HS20 := Lib.hid (show S16 We pa pb pc pd (p3 + 1) p13 b m1 m2 bh bl by rw [hWe]; exact HQ.out.2.keep (Upd.refl _ _).drew)
        -- region 16: T waits for all loads; fuel 1
        refine GoT.start [] (fun w' => S16 w' pa pb pc pd (p3 + 1) p13 b m1 m2 bh bl) (by kernel_rfl) ?_ fun hS => ?_
        · exact by rw [← hWe]; exact HS20.out
        rw [← hWe] at hS ⊢
        clear hWe
        refine' GoT.move (i := 0) (oi := ⟨some 73, _, _, _, _, _⟩) (v := _) rfl (by kernel_rfl) (by kernel_rfl) (by kernel_rfl) (fun _ _ _ h => h) (Or.inl ⟨by rfl, ?y16_0⟩) ?r16_0
        case y16_0 => intro w; go_simp <;> with_reducible rfl
        simp only [Act.put, List.setIfInBounds_toArray, List.set_cons_zero, List.set_cons_succ]
        refine' GoT.take 1 (i := 1) (oi := ⟨some 74, _, _, _, _, _⟩) (v := _) rfl (by kernel_rfl) (by kernel_rfl) (by kernel_rfl) (by kernel_rfl) (fun _ _ _ h => h) (Or.inl ⟨by rfl, ?y16_1⟩) (by assumption) ?r16_1
        case y16_1 => intro w hSw; obtain ⟨s1, s2, s3, s4, s5, s6⟩ := hSw; obtain ⟨c0, c1, c2, c3, c4⟩ := s1.cells; dsimp only [cutX] at c0 c1 c2 c3 c4; clear s1 s2 s3 s4 s5 s6; go_simp <;> with_reducible rfl
        simp only [Act.put, List.setIfInBounds_toArray, List.set_cons_zero, List.set_cons_succ]
        refine' GoT.take 1 (i := 2) (oi := ⟨some 75, _, _, _, _, _⟩) (v := _) rfl (by kernel_rfl) (by kernel_rfl) (by kernel_rfl) (by kernel_rfl) (fun _ _ _ h => h) (Or.inl ⟨by rfl, ?y16_2⟩) (by assumption) ?r16_2
        case y16_2 => intro w hSw; obtain ⟨s1, s2, s3, s4, s5, s6⟩ := hSw; obtain ⟨c0, c1, c2, c3, c4⟩ := s2.cells; dsimp only [cutX] at c0 c1 c2 c3 c4; clear s1 s2 s3 s4 s5 s6; go_simp <;> with_reducible rfl
        simp only [Act.put, List.setIfInBounds_toArray, List.set_cons_zero, List.set_cons_succ]
        refine' GoT.take 1 (i := 5) (oi := ⟨some 78, _, _, _, _, _⟩) (v := _) rfl (by kernel_rfl) (by kernel_rfl) (by kernel_rfl) (by kernel_rfl) (fun _ _ _ h => h) (Or.inl ⟨by rfl, ?y16_5⟩) (by assumption) ?r16_5
        case y16_5 => intro w hSw; obtain ⟨s1, s2, s3, s4, s5, s6⟩ := hSw; obtain ⟨c0, c1⟩ := s6.cells; clear s1 s2 s3 s4 s5 s6; go_simp <;> with_reducible rfl
        simp only [Act.put, List.setIfInBounds_toArray, List.set_cons_zero, List.set_cons_succ]
        -- 3: Go.Op.buildSlice 22 2 #[(0, Go.Operand.tmp 74), (1, Go.Operand.tmp 75)]
        refine GoT.one (i := 3) (o := ⟨some 76, _, _, _, _, _⟩) rfl (by kernel_rfl) fun K hK => ?_
        go_simp
        refine hK.out _ _ (fun _ h => ?_) ?_
        · exact S16.keep h ((Upd.refl _ _).alloc _)
        clear hK K
        try simp only [Act.put, List.setIfInBounds_toArray, List.set_cons_zero, List.set_cons_succ]
        -- 4: Go.Op.call { callee := Go.Callee.value (Go.Operand.tmp 73), args := #[Go.Operand.tmp 76], argTypes := #[22] }
        refine GoT.one (i := 4) (o := ⟨some 77, _, _, _, _, _⟩) rfl (by kernel_rfl) fun K hK => ?_
        go_simp
        go_at_call 37
        (with_reducible refine (HP2.out _ HU20.out).mono ?_)
        rintro e w21 ⟨rfl, hu21⟩
        refine hK.out _ _ (fun _ h => ?_) ?_
        · exact S16.keep h hu21
        clear hK K
        try simp only [Act.put, List.setIfInBounds_toArray, List.set_cons_zero, List.set_cons_succ]
        have HU21 := Lib.hid (HU20.out.trans (((Upd.refl _ _).alloc _).trans hu21))
        have HS21 := Lib.hid (HS20.out.keep (((Upd.refl _ _).alloc _).trans hu21))
        clear hu21
        have hSS := HS21.out
        refine' GoT.move (i := 6) (oi := ⟨some 79, _, _, _, _, _⟩) (v := _) rfl (by kernel_rfl) (by kernel_rfl) (by kernel_rfl) (fun _ _ _ h => h) (Or.inl ⟨by rfl, ?y16_6⟩) ?r16_6
        case y16_6 => intro w; go_simp <;> with_reducible rfl
        simp only [Act.put, List.setIfInBounds_toArray, List.set_cons_zero, List.set_cons_succ]
        refine' GoT.move (i := 7) (oi := ⟨some 80, _, _, _, _, _⟩) (v := _) rfl (by kernel_rfl) (by kernel_rfl) (by kernel_rfl) (fun _ _ _ h => h) (Or.inl ⟨by rfl, ?y16_7⟩) ?r16_7
        case y16_7 => intro w; go_simp <;> with_reducible rfl
        simp only [Act.put, List.setIfInBounds_toArray, List.set_cons_zero, List.set_cons_succ]
        refine' GoT.move (i := 8) (oi := ⟨some 81, _, _, _, _, _⟩) (v := _) rfl (by kernel_rfl) (by kernel_rfl) (by kernel_rfl) (fun _ _ _ h => h) (Or.inl ⟨by rfl, ?y16_8⟩) ?r16_8
        case y16_8 => intro w; go_simp <;> with_reducible rfl
        simp only [Act.put, List.setIfInBounds_toArray, List.set_cons_zero, List.set_cons_succ]
        refine' GoT.take 1 (i := 9) (oi := ⟨some 82, _, _, _, _, _⟩) (v := _) rfl (by kernel_rfl) (by kernel_rfl) (by kernel_rfl) (by kernel_rfl) (fun _ _ _ h => h) (Or.inl ⟨by rfl, ?y16_9⟩) (by assumption) ?r16_9
        case y16_9 => intro w hSw; obtain ⟨s1, s2, s3, s4, s5, s6⟩ := hSw; obtain ⟨c0, c1, c2, c3, c4⟩ := s3.cells; dsimp only [cutY] at c0 c1 c2 c3 c4; clear s1 s2 s3 s4 s5 s6; go_simp <;> with_reducible rfl
        simp only [Act.put, List.setIfInBounds_toArray, List.set_cons_zero, List.set_cons_succ]
        refine' GoT.take 1 (i := 10) (oi := ⟨some 83, _, _, _, _, _⟩) (v := _) rfl (by kernel_rfl) (by kernel_rfl) (by kernel_rfl) (by kernel_rfl) (fun _ _ _ h => h) (Or.inl ⟨by rfl, ?y16_10⟩) (by assumption) ?r16_10
        case y16_10 => intro w hSw; obtain ⟨s1, s2, s3, s4, s5, s6⟩ := hSw; obtain ⟨c0, c1, c2, c3, c4⟩ := s4.cells; dsimp only [cutY] at c0 c1 c2 c3 c4; clear s1 s2 s3 s4 s5 s6; go_simp <;> with_reducible rfl
        simp only [Act.put, List.setIfInBounds_toArray, List.set_cons_zero, List.set_cons_succ]
        refine' GoT.take 1 (i := 13) (oi := ⟨some 86, _, _, _, _, _⟩) (v := _) rfl (by kernel_rfl) (by kernel_rfl) (by kernel_rfl) (by kernel_rfl) (fun _ _ _ h => h) (Or.inl ⟨by rfl, ?y16_13⟩) (by assumption) ?r16_13
        case y16_13 => intro w hSw; obtain ⟨s1, s2, s3, s4, s5, s6⟩ := hSw; obtain ⟨c0, c1⟩ := s6.cells; clear s1 s2 s3 s4 s5 s6; go_simp <;> with_reducible rfl
        simp only [Act.put, List.setIfInBounds_toArray, List.set_cons_zero, List.set_cons_succ]
        -- 11: Go.Op.buildSlice 22 2 #[(0, Go.Operand.tmp 82), (1, Go.Operand.tmp 83)]
        refine GoT.one (i := 11) (o := ⟨some 84, _, _, _, _, _⟩) rfl (by kernel_rfl) fun K hK => ?_
        go_simp
        refine hK.out _ _ (fun _ h => ?_) ?_
        · exact S16.keep h ((Upd.refl _ _).alloc _)
        clear hK K
        try simp only [Act.put, List.setIfInBounds_toArray, List.set_cons_zero, List.set_cons_succ]
        -- 12: Go.Op.call { callee := Go.Callee.value (Go.Operand.tmp 81), args := #[Go.Operand.tmp 84], argTypes := #[22] }
        refine GoT.one (i := 12) (o := ⟨some 85, _, _, _, _, _⟩) rfl (by kernel_rfl) fun K hK => ?_
        go_simp
        go_at_call 37
        (with_reducible refine (HP3.out _ HU21.out).mono ?_)
        rintro e w22 ⟨rfl, hu22⟩
        refine hK.out _ _ (fun _ h => ?_) ?_
        · exact S16.keep h hu22
        clear hK K
        try simp only [Act.put, List.setIfInBounds_toArray, List.set_cons_zero, List.set_cons_succ]
        have HU22 := Lib.hid (HU21.out.trans (((Upd.refl _ _).alloc _).trans hu22))
        have HS22 := Lib.hid (HS21.out.keep (((Upd.refl _ _).alloc _).trans hu22))
        clear hu22
        have hSS := HS22.out
        refine' GoT.move (i := 14) (oi := ⟨some 87, _, _, _, _, _⟩) (v := _) rfl (by kernel_rfl) (by kernel_rfl) (by kernel_rfl) (fun _ _ _ h => h) (Or.inl ⟨by rfl, ?y16_14⟩) ?r16_14
        case y16_14 => intro w; go_simp <;> with_reducible rfl
        simp only [Act.put, List.setIfInBounds_toArray, List.set_cons_zero, List.set_cons_succ]
        refine' GoT.move (i := 15) (oi := ⟨some 88, _, _, _, _, _⟩) (v := _) rfl (by kernel_rfl) (by kernel_rfl) (by kernel_rfl) (fun _ _ _ h => h) (Or.inl ⟨by rfl, ?y16_15⟩) ?r16_15
        case y16_15 => intro w; go_simp <;> with_reducible rfl
        simp only [Act.put, List.setIfInBounds_toArray, List.set_cons_zero, List.set_cons_succ]
        refine' GoT.move (i := 16) (oi := ⟨some 89, _, _, _, _, _⟩) (v := _) rfl (by kernel_rfl) (by kernel_rfl) (by kernel_rfl) (fun _ _ _ h => h) (Or.inl ⟨by rfl, ?y16_16⟩) ?r16_16
        case y16_16 => intro w; go_simp <;> with_reducible rfl
        simp only [Act.put, List.setIfInBounds_toArray, List.set_cons_zero, List.set_cons_succ]
        refine' GoT.move (i := 17) (oi := ⟨some 90, _, _, _, _, _⟩) (v := _) rfl (by kernel_rfl) (by kernel_rfl) (by kernel_rfl) (fun _ _ _ h => h) (Or.inl ⟨by rfl, ?y16_17⟩) ?r16_17
        case y16_17 => intro w; go_simp <;> with_reducible rfl
        simp only [Act.put, List.setIfInBounds_toArray, List.set_cons_zero, List.set_cons_succ]
        refine' GoT.take 1 (i := 18) (oi := ⟨some 91, _, _, _, _, _⟩) (v := _) rfl (by kernel_rfl) (by kernel_rfl) (by kernel_rfl) (by kernel_rfl) (fun _ _ _ h => h) (Or.inl ⟨by rfl, ?y16_18⟩) (by assumption) ?r16_18
        case y16_18 => intro w hSw; obtain ⟨s1, s2, s3, s4, s5, s6⟩ := hSw; obtain ⟨c0, c1, c2, c3, c4⟩ := s5.cells; clear s1 s2 s3 s4 s5 s6; go_simp <;> with_reducible rfl
        simp only [Act.put, List.setIfInBounds_toArray, List.set_cons_zero, List.set_cons_succ]
        refine' GoT.take 1 (i := 19) (oi := ⟨some 92, _, _, _, _, _⟩) (v := _) rfl (by kernel_rfl) (by kernel_rfl) (by kernel_rfl) (by kernel_rfl) (fun _ _ _ h => h) (Or.inl ⟨by rfl, ?y16_19⟩) (by assumption) ?r16_19
        case y16_19 => intro w hSw; obtain ⟨s1, s2, s3, s4, s5, s6⟩ := hSw; obtain ⟨c0, c1, c2, c3, c4⟩ := s5.cells; clear s1 s2 s3 s4 s5 s6; go_simp <;> with_reducible rfl
        simp only [Act.put, List.setIfInBounds_toArray, List.set_cons_zero, List.set_cons_succ]
        refine' GoT.take 1 (i := 22) (oi := ⟨some 95, _, _, _, _, _⟩) (v := _) rfl (by kernel_rfl) (by kernel_rfl) (by kernel_rfl) (by kernel_rfl) (fun _ _ _ h => h) (Or.inl ⟨by rfl, ?y16_22⟩) (by assumption) ?r16_22
        case y16_22 => intro w hSw; obtain ⟨s1, s2, s3, s4, s5, s6⟩ := hSw; obtain ⟨c0, c1⟩ := s6.cells; clear s1 s2 s3 s4 s5 s6; go_simp <;> with_reducible rfl
        simp only [Act.put, List.setIfInBounds_toArray, List.set_cons_zero, List.set_cons_succ]
        -- 20: Go.Op.buildSlice 22 2 #[(0, Go.Operand.tmp 91), (1, Go.Operand.tmp 92)]
        refine GoT.one (i := 20) (o := ⟨some 93, _, _, _, _, _⟩) rfl (by kernel_rfl) fun K hK => ?_
        go_simp
        refine hK.out _ _ (fun _ h => ?_) ?_
        · exact S16.keep h ((Upd.refl _ _).alloc _)
        clear hK K
        try simp only [Act.put, List.setIfInBounds_toArray, List.set_cons_zero, List.set_cons_succ]
        -- 21: Go.Op.call { callee := Go.Callee.value (Go.Operand.tmp 90), args := #[Go.Operand.tmp 93], argTypes := #[22] }
        refine GoT.one (i := 21) (o := ⟨some 94, _, _, _, _, _⟩) rfl (by kernel_rfl) fun K hK => ?_
        go_simp
        go_at_call 37
        (with_reducible refine (HP4.out _ HU22.out).mono ?_)
        rintro e w23 ⟨rfl, hu23⟩
        refine hK.out _ _ (fun _ h => ?_) ?_
        · exact S16.keep h hu23
        clear hK K
        try simp only [Act.put, List.setIfInBounds_toArray, List.set_cons_zero, List.set_cons_succ]
        have HU23 := Lib.hid (HU22.out.trans (((Upd.refl _ _).alloc _).trans hu23))
        have HS23 := Lib.hid (HS22.out.keep (((Upd.refl _ _).alloc _).trans hu23))
        clear hu23
        have hSS := HS23.out
        refine' GoT.move (i := 23) (oi := ⟨some 96, _, _, _, _, _⟩) (v := _) rfl (by kernel_rfl) (by kernel_rfl) (by kernel_rfl) (fun _ _ _ h => h) (Or.inl ⟨by rfl, ?y16_23⟩) ?r16_23
        case y16_23 => intro w; go_simp <;> with_reducible rfl
        simp only [Act.put, List.setIfInBounds_toArray, List.set_cons_zero, List.set_cons_succ]
        refine' GoT.move (i := 24) (oi := ⟨some 97, _, _, _, _, _⟩) (v := _) rfl (by kernel_rfl) (by kernel_rfl) (by kernel_rfl) (fun _ _ _ h => h) (Or.inl ⟨by rfl, ?y16_24⟩) ?r16_24
        case y16_24 => intro w; go_simp <;> with_reducible rfl
        simp only [Act.put, List.setIfInBounds_toArray, List.set_cons_zero, List.set_cons_succ]
        refine' GoT.move (i := 25) (oi := ⟨some 98, _, _, _, _, _⟩) (v := _) rfl (by kernel_rfl) (by kernel_rfl) (by kernel_rfl) (fun _ _ _ h => h) (Or.inl ⟨by rfl, ?y16_25⟩) ?r16_25
        case y16_25 => intro w; go_simp <;> with_reducible rfl
        simp only [Act.put, List.setIfInBounds_toArray, List.set_cons_zero, List.set_cons_succ]
        refine' GoT.move (i := 26) (oi := ⟨some 99, _, _, _, _, _⟩) (v := _) rfl (by kernel_rfl) (by kernel_rfl) (by kernel_rfl) (fun _ _ _ h => h) (Or.inl ⟨by rfl, ?y16_26⟩) ?r16_26
        case y16_26 => intro w; go_simp <;> with_reducible rfl
        simp only [Act.put, List.setIfInBounds_toArray, List.set_cons_zero, List.set_cons_succ]
        refine' GoT.take 1 (i := 27) (oi := ⟨some 100, _, _, _, _, _⟩) (v := _) rfl (by kernel_rfl) (by kernel_rfl) (by kernel_rfl) (by kernel_rfl) (fun _ _ _ h => h) (Or.inl ⟨by rfl, ?y16_27⟩) (by assumption) ?r16_27
        case y16_27 => intro w hSw; obtain ⟨s1, s2, s3, s4, s5, s6⟩ := hSw; obtain ⟨c0, c1, c2, c3, c4⟩ := s1.cells; dsimp only [cutX] at c0 c1 c2 c3 c4; clear s1 s2 s3 s4 s5 s6; go_simp <;> with_reducible rfl
        simp only [Act.put, List.setIfInBounds_toArray, List.set_cons_zero, List.set_cons_succ]
        refine' GoT.take 1 (i := 28) (oi := ⟨some 101, _, _, _, _, _⟩) (v := _) rfl (by kernel_rfl) (by kernel_rfl) (by kernel_rfl) (by kernel_rfl) (fun _ _ _ h => h) (Or.inl ⟨by rfl, ?y16_28⟩) (by assumption) ?r16_28
        case y16_28 => intro w hSw; obtain ⟨s1, s2, s3, s4, s5, s6⟩ := hSw; obtain ⟨c0, c1, c2, c3, c4⟩ := s5.cells; clear s1 s2 s3 s4 s5 s6; go_simp <;> with_reducible rfl
        simp only [Act.put, List.setIfInBounds_toArray, List.set_cons_zero, List.set_cons_succ]
        refine' GoT.take 1 (i := 29) (oi := ⟨some 102, _, _, _, _, _⟩) (v := _) rfl (by kernel_rfl) (by kernel_rfl) (by kernel_rfl) (by kernel_rfl) (fun _ _ _ h => h) (Or.inl ⟨by rfl, ?y16_29⟩) (by assumption) ?r16_29
        case y16_29 => intro w hSw; obtain ⟨s1, s2, s3, s4, s5, s6⟩ := hSw; obtain ⟨c0, c1, c2, c3, c4⟩ := s4.cells; dsimp only [cutY] at c0 c1 c2 c3 c4; clear s1 s2 s3 s4 s5 s6; go_simp <;> with_reducible rfl
        simp only [Act.put, List.setIfInBounds_toArray, List.set_cons_zero, List.set_cons_succ]
        refine' GoT.take 1 (i := 32) (oi := ⟨some 105, _, _, _, _, _⟩) (v := _) rfl (by kernel_rfl) (by kernel_rfl) (by kernel_rfl) (by kernel_rfl) (fun _ _ _ h => h) (Or.inl ⟨by rfl, ?y16_32⟩) (by assumption) ?r16_32
        case y16_32 => intro w hSw; obtain ⟨s1, s2, s3, s4, s5, s6⟩ := hSw; obtain ⟨c0, c1⟩ := s6.cells; clear s1 s2 s3 s4 s5 s6; go_simp <;> with_reducible rfl
        simp only [Act.put, List.setIfInBounds_toArray, List.set_cons_zero, List.set_cons_succ]
        -- 30: Go.Op.buildSlice 22 3 #[(0, Go.Operand.tmp 100), (1, Go.Operand.tmp 101), (2, Go.Operand.tmp 102)]
        refine GoT.one (i := 30) (o := ⟨some 103, _, _, _, _, _⟩) rfl (by kernel_rfl) fun K hK => ?_
        go_simp
        refine hK.out _ _ (fun _ h => ?_) ?_
        · exact S16.keep h ((Upd.refl _ _).alloc _)
        clear hK K
        try simp only [Act.put, List.setIfInBounds_toArray, List.set_cons_zero, List.set_cons_succ]
        -- 31: Go.Op.call { callee := Go.Callee.value (Go.Operand.tmp 99), args := #[Go.Operand.tmp 103], argTypes := #[22] }
        refine GoT.one (i := 31) (o := ⟨some 104, _, _, _, _, _⟩) rfl (by kernel_rfl) fun K hK => ?_
        go_simp
        go_at_call 37
        (with_reducible refine (HP5.out _ HU23.out).mono ?_)
        rintro e w24 ⟨rfl, hu24⟩
        refine hK.out _ _ (fun _ h => ?_) ?_
        · exact S16.keep h hu24
        clear hK K
        try simp only [Act.put, List.setIfInBounds_toArray, List.set_cons_zero, List.set_cons_succ]
        have HU24 := Lib.hid (HU23.out.trans (((Upd.refl _ _).alloc _).trans hu24))
        have HS24 := Lib.hid (HS23.out.keep (((Upd.refl _ _).alloc _).trans hu24))
        clear hu24
        have hSS := HS24.out
        refine' GoT.move (i := 33) (oi := ⟨some 106, _, _, _, _, _⟩) (v := _) rfl (by kernel_rfl) (by kernel_rfl) (by kernel_rfl) (fun _ _ _ h => h) (Or.inl ⟨by rfl, ?y16_33⟩) ?r16_33
        case y16_33 => intro w; go_simp <;> with_reducible rfl
        simp only [Act.put, List.setIfInBounds_toArray, List.set_cons_zero, List.set_cons_succ]
        refine' GoT.move (i := 34) (oi := ⟨some 107, _, _, _, _, _⟩) (v := _) rfl (by kernel_rfl) (by kernel_rfl) (by kernel_rfl) (fun _ _ _ h => h) (Or.inl ⟨by rfl, ?y16_34⟩) ?r16_34
        case y16_34 => intro w; go_simp <;> with_reducible rfl
        simp only [Act.put, List.setIfInBounds_toArray, List.set_cons_zero, List.set_cons_succ]
        refine' GoT.move (i := 35) (oi := ⟨some 108, _, _, _, _, _⟩) (v := _) rfl (by kernel_rfl) (by kernel_rfl) (by kernel_rfl) (fun _ _ _ h => h) (Or.inl ⟨by rfl, ?y16_35⟩) ?r16_35
        case y16_35 => intro w; go_simp <;> with_reducible rfl
        simp only [Act.put, List.setIfInBounds_toArray, List.set_cons_zero, List.set_cons_succ]
        -- 36: Go.Op.call { callee := Go.Callee.value (Go.Operand.func 29), args := #[], argTypes := #[] }
        refine GoT.one (i := 36) (o := ⟨some 109, _, _, _, _, _⟩) rfl (by kernel_rfl) fun K hK => ?_
        go_simp
        go_at_call 29
        (with_reducible refine (awake18 _).mono ?_)
        rintro e w25 ⟨rfl, hu25⟩
        refine hK.out _ _ (fun _ h => ?_) ?_
        · exact S16.keep h hu25
        clear hK K
        try simp only [Act.put, List.setIfInBounds_toArray, List.set_cons_zero, List.set_cons_succ]
        have HU25 := Lib.hid (HU24.out.trans hu25)
        clear hu25
        refine' GoT.move (i := 37) (oi := ⟨some 110, _, _, _, _, _⟩) (v := _) rfl (by kernel_rfl) (by kernel_rfl) (by kernel_rfl) (fun _ _ _ h => h) (Or.inl ⟨by rfl, ?y16_37⟩) ?r16_37
        case y16_37 => intro w; go_simp <;> with_reducible rfl
        simp only [Act.put, List.setIfInBounds_toArray, List.set_cons_zero, List.set_cons_succ]
        refine' GoT.move (i := 38) (oi := ⟨some 6, _, _, _, _, _⟩) (v := _) rfl (by kernel_rfl) (by kernel_rfl) (by kernel_rfl) (fun _ _ _ h => h) (Or.inl ⟨by rfl, ?y16_38⟩) ?r16_38
        case y16_38 => intro w; go_simp <;> with_reducible rfl
        simp only [Act.put, List.setIfInBounds_toArray, List.set_cons_zero, List.set_cons_succ]
        refine GoT.done (by kernel_rfl) ?_
        go_wp2_with fail
        go_ret
        exact ⟨rfl, (HB6.out.1.trans HU25.out).below⟩
end Go.Proofs.YtokpdocabmaagaaGreat
