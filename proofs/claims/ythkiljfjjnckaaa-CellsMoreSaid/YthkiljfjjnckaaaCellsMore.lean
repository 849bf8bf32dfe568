/- CellsMore: the walk. -/
import Derived.Test.YthkiljfjjnckaaaAw19
import Derived.Test.YthkiljfjjnckaaaRegP
import Derived.Test.YthkiljfjjnckaaaMoreP
namespace Go.Proofs.Ythkiljfjjnckaaa
open Go.RowKit

theorem info_box : (Try.prog.info? 76).map (fun i => (i.zero, i.size, i.bytes)) = some (some (.agg #[.int .i64 0, .int .i64 0, .int .i64 0, .int .i64 0, .int .u32 0]), 5, 40) := by kernel_rfl

/-- What CopyBoxes leaves. -/
def CpPost (w : World) (l : List Bx) (e : Ending) (w' : World) : Prop := ∃ A C, e = .returned (.slice A l.length C) ∧ KBx.row w' w.heap.size (.slice A l.length C) l ∧ Upd [] w w'

set_option maxRecDepth 100000 in
set_option maxHeartbeats 2000000 in
theorem copyBoxes (s : Value) (l : List Bx) (w : World) (hs : See KBx w s l) (hb : l.length < 1000000) :
    Calls Try.prog 33 #[s] w (CpPost w l) := by
  obtain ⟨i0, hi, hz0, hz1, hz2⟩ := info_parts info_box
  unfold CpPost
  have H1 := Lib.hid (KBx.all_one l)
  have HS := Lib.hid hs
  have HB := Lib.hid hb
  clear hs hb
  go_enter Try.func33, Try.ntmps33
  go_wp2_with (at_builtin; refine wpList_app _ rfl _ _ 62 rfl w.heap.size 76 i0 (.agg #[.int .i64 0, .int .i64 0, .int .i64 0, .int .i64 0, .int .u32 0]) 5 40 Try.underlying62 hi hz0 hz1 hz2 rfl (by decide) _ 0 [] rfl (World.ownsRow_made w #[] 0 (Nat.le_refl _) (by decide) rfl) _ l.length (KBx.all l) rfl (sees_upd HS.out ((Upd.refl [] w).alloc _) (by simp)) H1.out (by have := HB.out; unfold maxLen; omega) (by have := HB.out; omega) (by simp) ?_)
  intro A C w1 HP
  have HU := HP.upd
  have hb1 : Upd [] w w1 := ((Upd.refl [] w).alloc _).trans' HU (fun k hk => .inr (by simp [blk] at hk; omega))
  have hown : KBx.row w1 w.heap.size (.slice A l.length C) l := by
    have : w1.ownsRow w.heap.size 76 5 (.slice A l.length C) l.length (KBx.all l) := by simpa using HP.own
    exact this
  have HO := Lib.hid (And.intro hown hb1)
  clear HP HU hb1 hown
  go_wp2_with fail
  go_ret
  exact ⟨_, _, rfl, HO.out.1, HO.out.2⟩

theorem more_own {B : Nat} {w w' : World} {v : Value} {l : List Bx} {b : Bx} {A : Option Addr} {C : Nat} (h : AppPost w w' B 76 5 v l.length (KBx.all l) 1 [.int .i64 b.x1, .int .i64 b.x2, .int .i64 b.y1, .int .i64 b.y2, .int .u32 (b.id : Int)] A C) :
    See KBx w' (.slice A (l.length + 1) C) (l ++ [b]) := by
  have := h.own
  unfold See
  rw [Kind.all_app, List.length_append]
  exact sees_of_own this

theorem keep5 {w w' : World} {a1 a2 a3 a4 a5 : Addr} {v1 v2 v3 v4 v5 : Value} (h : w.cell? a1 = some v1 ∧ w.cell? a2 = some v2 ∧ w.cell? a3 = some v3 ∧ w.cell? a4 = some v4 ∧ w.cell? a5 = some v5) (hu : Upd [] w w') :
    w'.cell? a1 = some v1 ∧ w'.cell? a2 = some v2 ∧ w'.cell? a3 = some v3 ∧ w'.cell? a4 = some v4 ∧ w'.cell? a5 = some v5 := by
  have e : ∀ {a : Addr} {v : Value}, w.cell? a = some v → w'.cell? a = some v := fun {a v} ha => (hu.cell (World.block_lt_of_cell? w _ ha) (by simp)).trans ha
  exact ⟨e h.1, e h.2.1, e h.2.2.1, e h.2.2.2.1, e h.2.2.2.2⟩

/-- A number of 128 bits in a variable, by its halves. -/
def WAt (w : World) (p : Nat) (h l : Int) : Prop := w.heap[p]? = some (.cells #[.int .u64 h, .int .u64 l] 71 (0, 0))
theorem WAt.cells {w : World} {p : Nat} {a b : Int} (h : WAt w p a b) : w.cell? ⟨p, 0, none⟩ = some (.int .u64 a) ∧ w.cell? ⟨p, 1, none⟩ = some (.int .u64 b) ∧ ∀ j, w.frozen? ⟨p, j, none⟩ = false := by
  have h' : w.heap[p]? = some (.cells #[.int .u64 a, .int .u64 b] 71 (0, 0)) := h
  refine ⟨?_, ?_, fun j => ?_⟩ <;> simp [World.cell?, World.frozen?, h']
theorem WAt.upd0 {w w' : World} {p : Nat} {a b : Int} (h : WAt w p a b) (hu : Upd [] w w') : WAt w' p a b := by
  unfold WAt at h ⊢
  rw [hu.block p (lt_of_block h) (by simp)]; exact h
theorem WAt.put {w : World} {p : Nat} {a b : Int} (h : WAt w p a b) (c d : Int) : WAt ((w.setCell ⟨p, 0, none⟩ (.int .u64 c)).setCell ⟨p, 1, none⟩ (.int .u64 d)) p c d :=
  heap_set (heap_set h 0 (.int .u64 c)) 1 (.int .u64 d)
theorem WAt.other {w : World} {p q : Nat} {a b : Int} (h : WAt w p a b) (hne : q ≠ p) (i : Nat) (v : Value) : WAt (w.setCell ⟨q, i, none⟩ v) p a b := by
  unfold WAt at h ⊢
  rw [Below.heap_setCell _ _ _ _ (Ne.symm hne)]; exact h

set_option maxRecDepth 100000 in
set_option maxHeartbeats 16000000 in
theorem cellsMore_walk (v : Value) (l : List Bx) (b : Bx) (w : World) (hs : See KBx w v l) (hb : ∀ b ∈ l, b.in64) (hbb : b.in64) :
    Calls Try.prog 7 #[v, bxV b] w fun e w' => e = .returned (.bool true) ∧ Below w.heap.size w w' := by
  obtain ⟨A, C, rfl⟩ := hs.form
  by_cases h15 : 15 < l.length
  · have h15' : (15 : Int) < (l.length : Int) := by omega
    clear hs hb hbb
    unfold bxV
    go_enter Try.func7, Try.ntmps7
    go_wp2_with fail
    (with_reducible refine (awake19 _).mono ?_)
    rintro e w6 ⟨rfl, hu6⟩
    have HU6 := Lib.hid (((Upd.refl [] w).alloc (.cells #[.int .i64 b.x1, .int .i64 b.x2, .int .i64 b.y1, .int .i64 b.y2, .int .u32 (b.id : Int)] 76)).trans hu6)
    clear hu6
    go_wp2_with fail
    go_ret
    exact ⟨rfl, HU6.out.below⟩
  · have h15' : (l.length : Int) ≤ 15 := by omega
    have hnl : ¬ (15 : Int) < (l.length : Int) := by omega
    obtain ⟨i1, hi1, hz0, hz1, hz2⟩ := info_parts info_box
    have hin2 : ∀ x ∈ l ++ [b], x.in64 := fun x hx => by
      rcases List.mem_append.1 hx with h | h
      · exact hb x h
      · simp at h; subst h; exact hbb
    have hin3 : ∀ x ∈ [b], x.in64 := fun x hx => by simp at hx; subst hx; exact hbb
    have hfacts := more_facts l b hb hbb
    obtain ⟨x1, x2, y1, y2, bi⟩ := b
    unfold bxV
    dsimp only
    have hu0 : Upd [] w (w.alloc (.cells #[.int .i64 x1, .int .i64 x2, .int .i64 y1, .int .i64 y2, .int .u32 (bi : Int)] 76)) := (Upd.refl _ _).alloc _
    have hh0 : (w.alloc (.cells #[.int .i64 x1, .int .i64 x2, .int .i64 y1, .int .i64 y2, .int .u32 (bi : Int)] 76)).heap[w.heap.size]? = some (.cells #[.int .i64 x1, .int .i64 x2, .int .i64 y1, .int .i64 y2, .int .u32 (bi : Int)] 76 (0, 0)) := heap_alloc_new _ _
    obtain ⟨W0, hW0⟩ : ∃ W0, w.alloc (.cells #[.int .i64 x1, .int .i64 x2, .int .i64 y1, .int .i64 y2, .int .u32 (bi : Int)] 76) = W0 := ⟨_, rfl⟩
    rw [hW0] at hu0 hh0
    obtain ⟨q, hq⟩ : ∃ q, w.heap.size = q := ⟨_, rfl⟩
    rw [hq] at hh0
    have hc5 : W0.cell? ⟨q, 0, none⟩ = some (.int .i64 x1) ∧ W0.cell? ⟨q, 1, none⟩ = some (.int .i64 x2) ∧ W0.cell? ⟨q, 2, none⟩ = some (.int .i64 y1) ∧ W0.cell? ⟨q, 3, none⟩ = some (.int .i64 y2) ∧ W0.cell? ⟨q, 4, none⟩ = some (.int .u32 (bi : Int)) := by
      refine ⟨?_, ?_, ?_, ?_, ?_⟩ <;> simp [World.cell?, hh0]
    have HS := Lib.hid hs
    have HL := Lib.hid (show l.length ≤ 15 by omega)
    have HU0 := Lib.hid hu0
    have HFACTS := Lib.hid hfacts
    have HIN := Lib.hid (And.intro hb (And.intro hin2 hin3))
    have HC50 := Lib.hid hc5
    have HHQ := Lib.hid hq
    have HWW := Lib.hid hW0
    clear hs hu0 hb hbb hin2 hin3 hfacts hc5 hh0 h15 hq hW0
    go_enter Try.func7, Try.ntmps7
    go_upto_region 3 with fail
    rw [HWW.out, HHQ.out]
    obtain ⟨Wd, hWd⟩ : ∃ Wd, Wd = W0.drew := ⟨_, rfl⟩
    have HC5 := Lib.hid (keep5 HC50.out (show Upd [] W0 Wd by rw [hWd]; exact (Upd.refl _ _).drew))
    have HUd := Lib.hid (show Upd [] w Wd by rw [hWd]; exact HU0.out.drew)
    obtain ⟨B, hB⟩ : ∃ B, Wd.heap.size = B := ⟨_, rfl⟩
    have HB := Lib.hid hB
    have HCP := Lib.hid (show ∀ w1, Upd [] Wd w1 → Calls Try.prog 33 #[.slice A l.length C] w1 fun e w' => ∃ A C, e = .returned (.slice A l.length C) ∧ w'.ownsRow B 76 5 (.slice A l.length C) l.length (KBx.all l) ∧ Upd [] w1 w' from fun w1 hu1 => (copyBoxes _ l w1 ((HS.out.upd0 HUd.out).upd0 hu1) (by have := HL.out; omega)).mono fun e w' ⟨A, C, h1, h2, h3⟩ => ⟨A, C, h1, own_base h2 (by rw [← hB]; exact hu1.size), h3⟩)
    clear hB
    go_cut [5] (fun s5 wc => ∃ A3 C3, s5 = .slice A3 (l.length + 1) C3 ∧ See KBx wc (.slice A3 (l.length + 1) C3) (l ++ [⟨x1, x2, y1, y2, bi⟩]) ∧ Upd [] Wd wc)
    case first =>
      -- region 3: T waits for all loads; fuel 2
      refine GoT.start [3, 4, 5] (fun w' => w'.cell? ⟨q, 0, none⟩ = some (.int .i64 x1) ∧ w'.cell? ⟨q, 1, none⟩ = some (.int .i64 x2) ∧ w'.cell? ⟨q, 2, none⟩ = some (.int .i64 y1) ∧ w'.cell? ⟨q, 3, none⟩ = some (.int .i64 y2) ∧ w'.cell? ⟨q, 4, none⟩ = some (.int .u32 (bi : Int))) (by kernel_rfl) ?_ fun hS => ?_
      · exact by rw [← hWd]; exact HC5.out
      rw [← hWd] at hS ⊢
      clear hWd
      refine' GoT.move (i := 0) (oi := ⟨some 13, _, _, _, _, _⟩) (v := _) rfl (by kernel_rfl) (by kernel_rfl) (by kernel_rfl) (fun _ _ _ h => h) (Or.inl ⟨by rfl, ?y3_0⟩) ?r3_0
      case y3_0 => intro w; go_simp <;> with_reducible rfl
      simp only [Act.put, List.setIfInBounds_toArray, List.set_cons_zero, List.set_cons_succ]
      refine' GoT.take 2 (i := 2) (oi := ⟨some 15, _, _, _, _, _⟩) (v := _) rfl (by kernel_rfl) (by kernel_rfl) (by kernel_rfl) (by kernel_rfl) (fun _ _ _ h => h) (Or.inl ⟨by rfl, ?y3_2⟩) (by assumption) ?r3_2
      case y3_2 => intro w hSw; go_simp <;> with_reducible rfl
      simp only [Act.put, List.setIfInBounds_toArray, List.set_cons_zero, List.set_cons_succ]
      -- 1: Go.Op.call { callee := Go.Callee.value (Go.Operand.func 33), args := #[Go.Operand.tmp 13], argTypes  | 3: Go.Op.buildSlice 62 1 #[(0, Go.Operand.tmp 15)]
      refine GoT.pair (i := 1) (o := ⟨some 14, _, _, _, _, _⟩) (k := 3) (o' := ⟨some 16, _, _, _, _, _⟩) rfl rfl (by kernel_rfl) (fun K hK => ?_) (fun K hK => ?_)
      · skip
        go_simp
        go_at_call 33
        (with_reducible refine (HCP.out _ (Upd.refl _ _)).mono ?_)
        rintro e w1 ⟨A, C, rfl, hown, hu1⟩
        refine hK.out _ _ (fun _ h => ?_) ?_
        · exact keep5 h hu1
        clear hK K
        try simp only [Act.put, List.setIfInBounds_toArray, List.set_cons_zero, List.set_cons_succ]
        have HO1 := Lib.hid (And.intro hown hu1)
        clear hown hu1
        -- 3: Go.Op.buildSlice 62 1 #[(0, Go.Operand.tmp 15)]
        refine GoT.one (i := 3) (o := ⟨some 16, _, _, _, _, _⟩) rfl (by kernel_rfl) fun K hK => ?_
        go_simp
        refine hK.out _ _ (fun h => (by cases h)) ?_
        clear hK K
        try simp only [Act.put, List.setIfInBounds_toArray, List.set_cons_zero, List.set_cons_succ]
        -- 4: Go.Op.call { callee := Go.Callee.builtin Go.Builtin.append, args := #[Go.Operand.tmp 14, Go.Operand.tmp 16], argTypes := #[62, 62] }
        refine GoT.one (i := 4) (o := ⟨some 17, _, _, _, _, _⟩) rfl (by kernel_rfl) fun K hK => ?_
        refine step_app _ (by rfl) _ _ 62 (by rfl) B 76 i1 (.agg #[.int .i64 0, .int .i64 0, .int .i64 0, .int .i64 0, .int .u32 0]) 5 40 Try.underlying62 hi1 hz0 hz1 hz2 rfl (by decide) _ _ _ (by rfl) (own_upd HO1.out.1 ((Upd.refl [] _).alloc _) (by simp)) _ 1 [.int .i64 x1, .int .i64 x2, .int .i64 y1, .int .i64 y2, .int .u32 (bi : Int)] (by rfl) (sees_lit _ #[.int .i64 x1, .int .i64 x2, .int .i64 y1, .int .i64 y2, .int .u32 (bi : Int)] 76 5 1 rfl (by decide)) (by simp [Value.oneCell']) (by have := HL.out; unfold maxLen; omega) (by have := HL.out; omega) (by have h1 := HO1.out.2.size; have h2 := HB.out; simp; omega) ?_
        intro A3 C3 w3 HP
        refine hK.out _ _ (fun h => (by cases h)) ?_
        clear hK K
        try simp only [Act.put, List.setIfInBounds_toArray, List.set_cons_zero, List.set_cons_succ]
        have HMORE := Lib.hid (more_own (b := ⟨x1, x2, y1, y2, bi⟩) HP)
        have HU3 := Lib.hid (((HO1.out.2.alloc _)).trans' HP.upd (fun k hk => .inr (by rw [HB.out]; exact own_ge HO1.out.1 k hk)))
        clear HP
        refine' GoT.move (i := 5) (oi := ⟨some 5, _, _, _, _, _⟩) (v := _) rfl (by kernel_rfl) (by kernel_rfl) (by kernel_rfl) (fun _ _ _ h => h) (Or.inl ⟨by rfl, ?y3a_5⟩) ?r3a_5
        case y3a_5 => intro w; go_simp <;> with_reducible rfl
        simp only [Act.put, List.setIfInBounds_toArray, List.set_cons_zero, List.set_cons_succ]
        refine GoT.done (by kernel_rfl) ?_
        go_wp2_with fail
        go_meet
        case rel => exact ⟨A3, C3, rfl, HMORE.out, HU3.out⟩
      · skip
        go_simp
        refine hK.out _ _ (fun h => (by cases h)) ?_
        clear hK K
        try simp only [Act.put, List.setIfInBounds_toArray, List.set_cons_zero, List.set_cons_succ]
        -- 1: Go.Op.call { callee := Go.Callee.value (Go.Operand.func 33), args := #[Go.Operand.tmp 13], argTypes := #[62] }
        refine GoT.one (i := 1) (o := ⟨some 14, _, _, _, _, _⟩) rfl (by kernel_rfl) fun K hK => ?_
        go_simp
        go_at_call 33
        (with_reducible refine (HCP.out _ ((Upd.refl _ _).alloc _)).mono ?_)
        rintro e w1 ⟨A, C, rfl, hown, hu1⟩
        refine hK.out _ _ (fun _ h => ?_) ?_
        · exact keep5 h hu1
        clear hK K
        try simp only [Act.put, List.setIfInBounds_toArray, List.set_cons_zero, List.set_cons_succ]
        have HO1 := Lib.hid (And.intro hown hu1)
        have hse := sees_upd (sees_lit Wd #[.int .i64 x1, .int .i64 x2, .int .i64 y1, .int .i64 y2, .int .u32 (bi : Int)] 76 5 1 rfl (by decide)) hu1 (by simp)
        clear hown hu1
        -- 4: Go.Op.call { callee := Go.Callee.builtin Go.Builtin.append, args := #[Go.Operand.tmp 14, Go.Operand.tmp 16], argTypes := #[62, 62] }
        refine GoT.one (i := 4) (o := ⟨some 17, _, _, _, _, _⟩) rfl (by kernel_rfl) fun K hK => ?_
        refine step_app _ (by rfl) _ _ 62 (by rfl) B 76 i1 (.agg #[.int .i64 0, .int .i64 0, .int .i64 0, .int .i64 0, .int .u32 0]) 5 40 Try.underlying62 hi1 hz0 hz1 hz2 rfl (by decide) _ _ _ (by rfl) HO1.out.1 _ 1 [.int .i64 x1, .int .i64 x2, .int .i64 y1, .int .i64 y2, .int .u32 (bi : Int)] (by rfl) hse (by simp [Value.oneCell']) (by have := HL.out; unfold maxLen; omega) (by have := HL.out; omega) (by have h1 := HO1.out.2.size; have h2 := HB.out; simp at h1; omega) ?_
        intro A3 C3 w3 HP
        refine hK.out _ _ (fun h => (by cases h)) ?_
        clear hK K
        try simp only [Act.put, List.setIfInBounds_toArray, List.set_cons_zero, List.set_cons_succ]
        have HMORE := Lib.hid (more_own (b := ⟨x1, x2, y1, y2, bi⟩) HP)
        have HU3 := Lib.hid ((((Upd.refl [] Wd).alloc _).trans HO1.out.2).trans' HP.upd (fun k hk => .inr (by have := own_ge HO1.out.1 k hk; rw [HB.out]; exact this)))
        clear HP hse
        refine' GoT.move (i := 5) (oi := ⟨some 5, _, _, _, _, _⟩) (v := _) rfl (by kernel_rfl) (by kernel_rfl) (by kernel_rfl) (fun _ _ _ h => h) (Or.inl ⟨by rfl, ?y3b_5⟩) ?r3b_5
        case y3b_5 => intro w; go_simp <;> with_reducible rfl
        simp only [Act.put, List.setIfInBounds_toArray, List.set_cons_zero, List.set_cons_succ]
        refine GoT.done (by kernel_rfl) ?_
        go_wp2_with fail
        go_meet
        case rel => exact ⟨A3, C3, rfl, HMORE.out, HU3.out⟩

    case rest =>
      clear hWd HB HCP
      obtain ⟨A3, C3, rfl, hsee, hu⟩ := hcut
      have HSM := Lib.hid hsee
      have HUW := Lib.hid (HUd.out.trans hu)
      have HC5b := Lib.hid (keep5 HC5.out hu)
      clear hsee hu HC5 HUd
      have haw := fun w' (hu : Upd [] wc.drew w') => areaC (.slice A l.length C) l w' ((HS.out.upd0 HUW.out).upd0 ((Upd.refl [] wc).drew.trans hu)) (by have := HL.out; omega) HIN.out.1
      have han := fun w' (hu : Upd [] wc.drew w') => areaC (.slice A3 (l.length + 1) C3) (l ++ [⟨x1, x2, y1, y2, bi⟩]) w' (HSM.out.upd0 ((Upd.refl [] wc).drew.trans hu)) (by have := HL.out; simp; omega) HIN.out.2.1
      have hao := fun w' v5 (hv : See KBx w' v5 [⟨x1, x2, y1, y2, bi⟩]) => areaC v5 [⟨x1, x2, y1, y2, bi⟩] w' hv (by simp) HIN.out.2.2
      have hrw := fun w' (hu : Upd [] wc.drew w') => rimCC (.slice A l.length C) l w' ((HS.out.upd0 HUW.out).upd0 ((Upd.refl [] wc).drew.trans hu)) (by have := HL.out; omega) HIN.out.1
      have hrn := fun w' (hu : Upd [] wc.drew w') => rimCC (.slice A3 (l.length + 1) C3) (l ++ [⟨x1, x2, y1, y2, bi⟩]) w' (HSM.out.upd0 ((Upd.refl [] wc).drew.trans hu)) (by have := HL.out; simp; omega) HIN.out.2.1
      unfold wideV at haw han hao hrw hrn
      have hf1 := halves HFACTS.out.1
      have hf2 := halves HFACTS.out.2.1
      have hf3 := HFACTS.out.2.2
      obtain ⟨nW, hnW⟩ : ∃ n, areaN l = n := ⟨_, rfl⟩
      obtain ⟨nN, hnN⟩ : ∃ n, areaN (l ++ [⟨x1, x2, y1, y2, bi⟩]) = n := ⟨_, rfl⟩
      obtain ⟨nO, hnO⟩ : ∃ n, areaN [⟨x1, x2, y1, y2, bi⟩] = n := ⟨_, rfl⟩
      simp only [hnW, hnN, hnO] at haw han hao hf1 hf2 hf3
      obtain ⟨hw, ehw⟩ : ∃ h : Int, ((nW / 18446744073709551616 : Nat) : Int) = h := ⟨_, rfl⟩
      obtain ⟨lw, elw⟩ : ∃ h : Int, ((nW % 18446744073709551616 : Nat) : Int) = h := ⟨_, rfl⟩
      obtain ⟨hn, ehn⟩ : ∃ h : Int, ((nN / 18446744073709551616 : Nat) : Int) = h := ⟨_, rfl⟩
      obtain ⟨ln, eln⟩ : ∃ h : Int, ((nN % 18446744073709551616 : Nat) : Int) = h := ⟨_, rfl⟩
      obtain ⟨ho, eho⟩ : ∃ h : Int, ((nO / 18446744073709551616 : Nat) : Int) = h := ⟨_, rfl⟩
      obtain ⟨lo, elo⟩ : ∃ h : Int, ((nO % 18446744073709551616 : Nat) : Int) = h := ⟨_, rfl⟩
      rw [ehw, elw] at haw hf1
      rw [ehn, eln] at han hf1 hf2
      rw [eho, elo] at hao hf2
      have hf4 : (⟨x1, x2, y1, y2, bi⟩ : Bx).counts = false → hn = hw ∧ ln = lw ∧ ho = 0 ∧ lo = 0 ∧ rimN (l ++ [⟨x1, x2, y1, y2, bi⟩]) = rimN l := fun h => by
        obtain ⟨g1, g2, g3⟩ := hf3.1 h
        subst g1 g2
        refine ⟨by omega, by omega, by omega, by omega, g3⟩
      have hf5 : (⟨x1, x2, y1, y2, bi⟩ : Bx).counts = true → ¬ (ho = 0 ∧ lo = 0) := fun h => by
        have := hf3.2 h
        omega
      have HAW := Lib.hid haw
      have HAN := Lib.hid han
      have HAO := Lib.hid hao
      have HRW := Lib.hid hrw
      have HRN := Lib.hid hrn
      have HF := Lib.hid (And.intro hf1 (And.intro hf2 (And.intro hf4 hf5)))
      clear haw han hao hrw hrn hf1 hf2 hf3 hf4 hf5 hnW hnN hnO ehw elw ehn eln eho elo
      go_upto_region 4 with fail
      obtain ⟨Wd, hWd⟩ : ∃ Wd, Wd = wc.drew := ⟨_, rfl⟩
      have HC5 := Lib.hid (show _ from keep5 HC5b.out (show Upd [] wc Wd by rw [hWd]; exact (Upd.refl _ _).drew))
      rw [← hWd] at HAW HAN HRW HRN
      have HUd := Lib.hid (show Upd [] w Wd by rw [hWd]; exact HUW.out.drew)
      -- region 4: T waits for all loads; fuel 4
      refine GoT.start [5, 6, 10, 11, 12] (fun w' => w'.cell? ⟨q, 0, none⟩ = some (.int .i64 x1) ∧ w'.cell? ⟨q, 1, none⟩ = some (.int .i64 x2) ∧ w'.cell? ⟨q, 2, none⟩ = some (.int .i64 y1) ∧ w'.cell? ⟨q, 3, none⟩ = some (.int .i64 y2) ∧ w'.cell? ⟨q, 4, none⟩ = some (.int .u32 (bi : Int))) (by kernel_rfl) ?_ fun hS => ?_
      · rw [← hWd]; exact HC5.out
      rw [← hWd] at hS ⊢
      clear hWd
      refine' GoT.move (i := 0) (oi := ⟨some 18, _, _, _, _, _⟩) (v := _) rfl (by kernel_rfl) (by kernel_rfl) (by kernel_rfl) (fun _ _ _ h => h) (Or.inl ⟨by rfl, ?y4_0⟩) ?r4_0
      case y4_0 => intro w; go_simp <;> with_reducible rfl
      simp only [Act.put, List.setIfInBounds_toArray, List.set_cons_zero, List.set_cons_succ]
      refine' GoT.move (i := 2) (oi := ⟨some 20, _, _, _, _, _⟩) (v := _) rfl (by kernel_rfl) (by kernel_rfl) (by kernel_rfl) (fun _ _ _ h => h) (Or.inl ⟨by rfl, ?y4_2⟩) ?r4_2
      case y4_2 => intro w; go_simp <;> with_reducible rfl
      simp only [Act.put, List.setIfInBounds_toArray, List.set_cons_zero, List.set_cons_succ]
      refine' GoT.take 4 (i := 4) (oi := ⟨some 22, _, _, _, _, _⟩) (v := _) rfl (by kernel_rfl) (by kernel_rfl) (by kernel_rfl) (by kernel_rfl) (fun _ _ _ h => h) (Or.inl ⟨by rfl, ?y4_4⟩) (by assumption) ?r4_4
      case y4_4 => intro w hSw; go_simp <;> with_reducible rfl
      simp only [Act.put, List.setIfInBounds_toArray, List.set_cons_zero, List.set_cons_succ]
      refine GoT.phase [1, 3, 5, 6, 7, 8, 9] 4 (L1 := #[true, true, true, true, true, true, true, true, true, true, false, false, false]) (m := 3)
        (fun a0 D a w' => ∃ (v5 : Value) (p6 p7 p8 : Nat), a = putIf D 1 19 (.agg #[.int .u64 hw, .int .u64 lw]) (putIf D 3 21 (.agg #[.int .u64 hn, .int .u64 ln]) (putIf D 5 23 v5 (putIf D 6 24 (.agg #[.int .u64 ho, .int .u64 lo]) (putIf D 7 6 (.pointer (some ⟨p6, 0, none⟩)) (putIf D 8 7 (.pointer (some ⟨p7, 0, none⟩)) (putIf D 9 8 (.pointer (some ⟨p8, 0, none⟩)) a0)))))) ∧ Upd [] Wd w' ∧ (D 5 = true → See KBx w' v5 [⟨x1, x2, y1, y2, bi⟩]) ∧ (D 7 = true → SumAt w' p6 0 ∧ Wd.heap.size ≤ p6) ∧ (D 8 = true → SumAt w' p7 0 ∧ Wd.heap.size ≤ p7) ∧ (D 9 = true → SumAt w' p8 0 ∧ Wd.heap.size ≤ p8) ∧ (D 7 = true → D 8 = true → p6 ≠ p7) ∧ (D 7 = true → D 9 = true → p6 ≠ p8) ∧ (D 8 = true → D 9 = true → p7 ≠ p8))
        (by kernel_rfl) (by decide) (by kernel_rfl) (by kernel_rfl) (by kernel_rfl) (by kernel_rfl) (by kernel_rfl) (by kernel_rfl) (by kernel_rfl) ?_ ?_ ?_
      · exact ⟨undef, 0, 0, 0, by simp [putIf], Upd.refl _ _, fun h => by simp at h, fun h => by simp at h, fun h => by simp at h, fun h => by simp at h, fun h => by simp at h, fun h => by simp at h, fun h => by simp at h⟩
      · intro i hi D a' w' hJ hout hDi hdep
        obtain ⟨v5, p6, p7, p8, rfl, hu, f5, f7, f8, f9, g78, g79, g89⟩ := hJ
        simp only [List.mem_cons, List.not_mem_nil, or_false] at hi
        rcases hi with rfl | rfl | rfl | rfl | rfl | rfl | rfl
        · -- 1
          refine wpOp_hid (o := ⟨some 19, _, _, _, _, _⟩) rfl fun K hK => ?_
          simp only [putIf, Array.getD_eq_getD_getElem?, List.setIfInBounds_toArray, List.set_cons_zero, List.set_cons_succ, List.getElem?_toArray, List.getElem?_cons_zero, List.getElem?_cons_succ, Option.getD_some]
          go_simp
          go_at_call 39
          (with_reducible refine (HAW.out _ hu).mono ?_)
          rintro e w'' ⟨rfl, hu2⟩
          refine hK.out _ _ ⟨fun h => keep5 h hu2, v5, p6, p7, p8, by simp [putIf, updD], hu.trans hu2, fun h => (f5 (by simpa [updD] using h)).upd0 hu2, fun h => ?_, fun h => ?_, fun h => ?_, fun h h' => g78 (by simpa [updD] using h) (by simpa [updD] using h'), fun h h' => g79 (by simpa [updD] using h) (by simpa [updD] using h'), fun h h' => g89 (by simpa [updD] using h) (by simpa [updD] using h')⟩
          · exact ⟨(f7 (by simpa [updD] using h)).1.upd0 hu2, (f7 (by simpa [updD] using h)).2⟩
          · exact ⟨(f8 (by simpa [updD] using h)).1.upd0 hu2, (f8 (by simpa [updD] using h)).2⟩
          · exact ⟨(f9 (by simpa [updD] using h)).1.upd0 hu2, (f9 (by simpa [updD] using h)).2⟩
        · -- 3
          refine wpOp_hid (o := ⟨some 21, _, _, _, _, _⟩) rfl fun K hK => ?_
          simp only [putIf, Array.getD_eq_getD_getElem?, List.setIfInBounds_toArray, List.set_cons_zero, List.set_cons_succ, List.getElem?_toArray, List.getElem?_cons_zero, List.getElem?_cons_succ, Option.getD_some]
          go_simp
          go_at_call 39
          (with_reducible refine (HAN.out _ hu).mono ?_)
          rintro e w'' ⟨rfl, hu2⟩
          refine hK.out _ _ ⟨fun h => keep5 h hu2, v5, p6, p7, p8, by simp [putIf, updD], hu.trans hu2, fun h => (f5 (by simpa [updD] using h)).upd0 hu2, fun h => ?_, fun h => ?_, fun h => ?_, fun h h' => g78 (by simpa [updD] using h) (by simpa [updD] using h'), fun h h' => g79 (by simpa [updD] using h) (by simpa [updD] using h'), fun h h' => g89 (by simpa [updD] using h) (by simpa [updD] using h')⟩
          · exact ⟨(f7 (by simpa [updD] using h)).1.upd0 hu2, (f7 (by simpa [updD] using h)).2⟩
          · exact ⟨(f8 (by simpa [updD] using h)).1.upd0 hu2, (f8 (by simpa [updD] using h)).2⟩
          · exact ⟨(f9 (by simpa [updD] using h)).1.upd0 hu2, (f9 (by simpa [updD] using h)).2⟩
        · -- 5
          refine wpOp_hid (o := ⟨some 23, _, _, _, _, _⟩) rfl fun K hK => ?_
          simp only [putIf, Array.getD_eq_getD_getElem?, List.setIfInBounds_toArray, List.set_cons_zero, List.set_cons_succ, List.getElem?_toArray, List.getElem?_cons_zero, List.getElem?_cons_succ, Option.getD_some]
          go_simp
          have hu2 : Upd [] w' (w'.alloc (.cells #[.int .i64 x1, .int .i64 x2, .int .i64 y1, .int .i64 y2, .int .u32 (bi : Int)] 76)) := (Upd.refl _ _).alloc _
          have hse : See KBx (w'.alloc (.cells #[.int .i64 x1, .int .i64 x2, .int .i64 y1, .int .i64 y2, .int .u32 (bi : Int)] 76)) (.slice (some ⟨w'.heap.size, 0, none⟩) 1 1) [⟨x1, x2, y1, y2, bi⟩] := sees_lit w' #[.int .i64 x1, .int .i64 x2, .int .i64 y1, .int .i64 y2, .int .u32 (bi : Int)] 76 5 1 rfl (by decide)
          refine hK.out _ _ ⟨fun h => keep5 h hu2, .slice (some ⟨w'.heap.size, 0, none⟩) 1 1, p6, p7, p8, by simp [putIf, updD], hu.trans hu2, fun _ => hse, fun h => ?_, fun h => ?_, fun h => ?_, fun h h' => g78 (by simpa [updD] using h) (by simpa [updD] using h'), fun h h' => g79 (by simpa [updD] using h) (by simpa [updD] using h'), fun h h' => g89 (by simpa [updD] using h) (by simpa [updD] using h')⟩
          · exact ⟨(f7 (by simpa [updD] using h)).1.upd0 hu2, (f7 (by simpa [updD] using h)).2⟩
          · exact ⟨(f8 (by simpa [updD] using h)).1.upd0 hu2, (f8 (by simpa [updD] using h)).2⟩
          · exact ⟨(f9 (by simpa [updD] using h)).1.upd0 hu2, (f9 (by simpa [updD] using h)).2⟩
        · -- 6
          refine wpOp_hid (o := ⟨some 24, _, _, _, _, _⟩) rfl fun K hK => ?_
          simp only [putIf, Array.getD_eq_getD_getElem?, List.setIfInBounds_toArray, List.set_cons_zero, List.set_cons_succ, List.getElem?_toArray, List.getElem?_cons_zero, List.getElem?_cons_succ, Option.getD_some]
          have hd0 := hdep 3 (by kernel_rfl)
          have hd1 := hdep 5 (by kernel_rfl)
          simp only [hd0, hd1, cond_true]
          go_simp
          go_at_call 39
          (with_reducible refine (HAO.out _ v5 (f5 hd1)).mono ?_)
          rintro e w'' ⟨rfl, hu2⟩
          refine hK.out _ _ ⟨fun h => keep5 h hu2, v5, p6, p7, p8, by simp [putIf, updD, hd0, hd1], hu.trans hu2, fun h => (f5 (by simpa [updD] using h)).upd0 hu2, fun h => ?_, fun h => ?_, fun h => ?_, fun h h' => g78 (by simpa [updD] using h) (by simpa [updD] using h'), fun h h' => g79 (by simpa [updD] using h) (by simpa [updD] using h'), fun h h' => g89 (by simpa [updD] using h) (by simpa [updD] using h')⟩
          · exact ⟨(f7 (by simpa [updD] using h)).1.upd0 hu2, (f7 (by simpa [updD] using h)).2⟩
          · exact ⟨(f8 (by simpa [updD] using h)).1.upd0 hu2, (f8 (by simpa [updD] using h)).2⟩
          · exact ⟨(f9 (by simpa [updD] using h)).1.upd0 hu2, (f9 (by simpa [updD] using h)).2⟩
        · -- 7
          refine wpOp_hid (o := ⟨some 6, _, _, _, _, _⟩) rfl fun K hK => ?_
          simp only [putIf, Array.getD_eq_getD_getElem?, List.setIfInBounds_toArray, List.set_cons_zero, List.set_cons_succ, List.getElem?_toArray, List.getElem?_cons_zero, List.getElem?_cons_succ, Option.getD_some]
          go_simp
          have hu2 : Upd [] w' (w'.alloc (.cells #[.int .u64 0, .int .u64 0] 71)) := (Upd.refl _ _).alloc _
          have hnew : SumAt (w'.alloc (.cells #[.int .u64 0, .int .u64 0] 71)) w'.heap.size 0 := heap_alloc_new _ _
          have hge := hu.size
          refine hK.out _ _ ⟨fun h => keep5 h hu2, v5, w'.heap.size, p7, p8, by simp [putIf, updD], hu.trans hu2, fun h => (f5 (by simpa [updD] using h)).upd0 hu2, fun h => ?_, fun h => ?_, fun h => ?_, fun h h' => ?_, fun h h' => ?_, fun h h' => ?_⟩
          · exact ⟨hnew, hge⟩
          · exact ⟨(f8 (by simpa [updD] using h)).1.upd0 hu2, (f8 (by simpa [updD] using h)).2⟩
          · exact ⟨(f9 (by simpa [updD] using h)).1.upd0 hu2, (f9 (by simpa [updD] using h)).2⟩
          · have := (f8 (by simpa [updD] using h')).1.lt; omega
          · have := (f9 (by simpa [updD] using h')).1.lt; omega
          · exact g89 (by simpa [updD] using h) (by simpa [updD] using h')
        · -- 8
          refine wpOp_hid (o := ⟨some 7, _, _, _, _, _⟩) rfl fun K hK => ?_
          simp only [putIf, Array.getD_eq_getD_getElem?, List.setIfInBounds_toArray, List.set_cons_zero, List.set_cons_succ, List.getElem?_toArray, List.getElem?_cons_zero, List.getElem?_cons_succ, Option.getD_some]
          go_simp
          have hu2 : Upd [] w' (w'.alloc (.cells #[.int .u64 0, .int .u64 0] 71)) := (Upd.refl _ _).alloc _
          have hnew : SumAt (w'.alloc (.cells #[.int .u64 0, .int .u64 0] 71)) w'.heap.size 0 := heap_alloc_new _ _
          have hge := hu.size
          refine hK.out _ _ ⟨fun h => keep5 h hu2, v5, p6, w'.heap.size, p8, by simp [putIf, updD], hu.trans hu2, fun h => (f5 (by simpa [updD] using h)).upd0 hu2, fun h => ?_, fun h => ?_, fun h => ?_, fun h h' => ?_, fun h h' => ?_, fun h h' => ?_⟩
          · exact ⟨(f7 (by simpa [updD] using h)).1.upd0 hu2, (f7 (by simpa [updD] using h)).2⟩
          · exact ⟨hnew, hge⟩
          · exact ⟨(f9 (by simpa [updD] using h)).1.upd0 hu2, (f9 (by simpa [updD] using h)).2⟩
          · have := (f7 (by simpa [updD] using h)).1.lt; omega
          · exact g79 (by simpa [updD] using h) (by simpa [updD] using h')
          · have := (f9 (by simpa [updD] using h')).1.lt; omega
        · -- 9
          refine wpOp_hid (o := ⟨some 8, _, _, _, _, _⟩) rfl fun K hK => ?_
          simp only [putIf, Array.getD_eq_getD_getElem?, List.setIfInBounds_toArray, List.set_cons_zero, List.set_cons_succ, List.getElem?_toArray, List.getElem?_cons_zero, List.getElem?_cons_succ, Option.getD_some]
          go_simp
          have hu2 : Upd [] w' (w'.alloc (.cells #[.int .u64 0, .int .u64 0] 71)) := (Upd.refl _ _).alloc _
          have hnew : SumAt (w'.alloc (.cells #[.int .u64 0, .int .u64 0] 71)) w'.heap.size 0 := heap_alloc_new _ _
          have hge := hu.size
          refine hK.out _ _ ⟨fun h => keep5 h hu2, v5, p6, p7, w'.heap.size, by simp [putIf, updD], hu.trans hu2, fun h => (f5 (by simpa [updD] using h)).upd0 hu2, fun h => ?_, fun h => ?_, fun h => ?_, fun h h' => ?_, fun h h' => ?_, fun h h' => ?_⟩
          · exact ⟨(f7 (by simpa [updD] using h)).1.upd0 hu2, (f7 (by simpa [updD] using h)).2⟩
          · exact ⟨(f8 (by simpa [updD] using h)).1.upd0 hu2, (f8 (by simpa [updD] using h)).2⟩
          · exact ⟨hnew, hge⟩
          · exact g78 (by simpa [updD] using h) (by simpa [updD] using h')
          · have := (f7 (by simpa [updD] using h)).1.lt; omega
          · have := (f8 (by simpa [updD] using h)).1.lt; omega
      · intro a' w' hJ
        obtain ⟨v5, p6, p7, p8, rfl, hu, f5, f7, f8, f9, g78, g79, g89⟩ := hJ
        have h7 := f7 (by rfl)
        have h8 := f8 (by rfl)
        have h9 := f9 (by rfl)
        have e78 := g78 (by rfl) (by rfl)
        have e79 := g79 (by rfl) (by rfl)
        have e89 := g89 (by rfl) (by rfl)
        clear f5 f7 f8 f9 g78 g79 g89
        simp [putIf]
        have u0 := HUd.out.trans hu
        have k6 : WAt w' p6 0 0 := h7.1
        have k7 : WAt w' p7 0 0 := h8.1
        have k8 : WAt w' p8 0 0 := h9.1
        have b6 : w.heap.size ≤ p6 := Nat.le_trans HUd.out.size h7.2
        have b7 : w.heap.size ≤ p7 := Nat.le_trans HUd.out.size h8.2
        have b8 : w.heap.size ≤ p8 := Nat.le_trans HUd.out.size h9.2
        have c6 : Wd.heap.size ≤ p6 := h7.2
        have c7 : Wd.heap.size ≤ p7 := h8.2
        have c8 : Wd.heap.size ≤ p8 := h9.2
        clear h7 h8 h9
        obtain ⟨z0, z1, zf⟩ := k6.cells
        have zf0 := zf 0
        have zf1 := zf 1
        clear zf
        refine GoT.one (i := 10) (o := ⟨none, _, _, _, _, _⟩) rfl (by kernel_rfl) fun K hK => ?_
        go_simp
        refine hK.out _ _ (fun h => (by cases h)) ?_
        clear hK K
        try simp only [List.setIfInBounds_toArray, List.set_cons_zero, List.set_cons_succ]
        have n6 := k6.put hw lw
        have hu := (hu.setCell (p := ⟨p6, 0, none⟩) (.inr c6) (.int .u64 hw)).setCell (p := ⟨p6, 1, none⟩) (.inr c6) (.int .u64 lw)
        have k7 := (k7.other (q := p6) e78 0 (.int .u64 hw)).other (q := p6) e78 1 (.int .u64 lw)
        have k8 := (k8.other (q := p6) e79 0 (.int .u64 hw)).other (q := p6) e79 1 (.int .u64 lw)
        generalize ((w'.setCell ⟨p6, 0, none⟩ (.int .u64 hw)).setCell ⟨p6, 1, none⟩ (.int .u64 lw)) = w11 at n6 hu k7 k8 ⊢
        have k6 := n6
        clear n6 z0 z1 zf0 zf1
        obtain ⟨z0, z1, zf⟩ := k7.cells
        have zf0 := zf 0
        have zf1 := zf 1
        clear zf
        refine GoT.one (i := 11) (o := ⟨none, _, _, _, _, _⟩) rfl (by kernel_rfl) fun K hK => ?_
        go_simp
        refine hK.out _ _ (fun h => (by cases h)) ?_
        clear hK K
        try simp only [List.setIfInBounds_toArray, List.set_cons_zero, List.set_cons_succ]
        have n7 := k7.put hn ln
        have hu := (hu.setCell (p := ⟨p7, 0, none⟩) (.inr c7) (.int .u64 hn)).setCell (p := ⟨p7, 1, none⟩) (.inr c7) (.int .u64 ln)
        have k6 := (k6.other (q := p7) (Ne.symm e78) 0 (.int .u64 hn)).other (q := p7) (Ne.symm e78) 1 (.int .u64 ln)
        have k8 := (k8.other (q := p7) e89 0 (.int .u64 hn)).other (q := p7) e89 1 (.int .u64 ln)
        generalize ((w11.setCell ⟨p7, 0, none⟩ (.int .u64 hn)).setCell ⟨p7, 1, none⟩ (.int .u64 ln)) = w12 at n7 hu k6 k8 ⊢
        have k7 := n7
        clear n7 z0 z1 zf0 zf1
        obtain ⟨z0, z1, zf⟩ := k8.cells
        have zf0 := zf 0
        have zf1 := zf 1
        clear zf
        refine GoT.one (i := 12) (o := ⟨none, _, _, _, _, _⟩) rfl (by kernel_rfl) fun K hK => ?_
        go_simp
        refine hK.out _ _ (fun h => (by cases h)) ?_
        clear hK K
        try simp only [List.setIfInBounds_toArray, List.set_cons_zero, List.set_cons_succ]
        have n8 := k8.put ho lo
        have hu := (hu.setCell (p := ⟨p8, 0, none⟩) (.inr c8) (.int .u64 ho)).setCell (p := ⟨p8, 1, none⟩) (.inr c8) (.int .u64 lo)
        have k6 := (k6.other (q := p8) (Ne.symm e79) 0 (.int .u64 ho)).other (q := p8) (Ne.symm e79) 1 (.int .u64 lo)
        have k7 := (k7.other (q := p8) (Ne.symm e89) 0 (.int .u64 ho)).other (q := p8) (Ne.symm e89) 1 (.int .u64 lo)
        generalize ((w12.setCell ⟨p8, 0, none⟩ (.int .u64 ho)).setCell ⟨p8, 1, none⟩ (.int .u64 lo)) = w13 at n8 hu k6 k7 ⊢
        have k8 := n8
        clear n8 z0 z1 zf0 zf1
        refine GoT.done (by kernel_rfl) ?_
        have HUS := Lib.hid hu
        obtain ⟨a0, a1, -⟩ := k6.cells
        obtain ⟨a2, a3, -⟩ := k7.cells
        obtain ⟨a4, a5, -⟩ := k8.cells
        obtain ⟨b0, b1, b2, b3, b4⟩ := keep5 HC5.out hu
        have HWP := Lib.hid h15'
        clear u0 k6 k7 k8 b6 b7 b8 c6 c7 c8 e78 e79 e89 hS hu
        by_cases hx : x2 ≤ x1
        · have HCNT : (⟨x1, x2, y1, y2, bi⟩ : Bx).counts = false := by unfold Bx.counts; simp; omega
          have g1 : decide (x2 ≤ x1) = true := decide_eq_true hx
          clear hx
          obtain ⟨rfl, rfl, rfl, rfl, e5⟩ := HF.out.2.2.1 HCNT
          have hrn := HRN.out
          have hrw := HRW.out
          simp only [e5] at hrn
          obtain ⟨hr, ehr⟩ : ∃ h : Int, ((rimN l / 18446744073709551616 : Nat) : Int) = h := ⟨_, rfl⟩
          obtain ⟨lr, elr⟩ : ∃ h : Int, ((rimN l % 18446744073709551616 : Nat) : Int) = h := ⟨_, rfl⟩
          rw [ehr, elr] at hrn hrw
          have HN2 := Lib.hid hrn
          have HW2 := Lib.hid hrw
          have d1 := HF.out.2.1
          have d2 : decide (hn < 0) = false := decide_eq_false (by omega)
          have d3 : decide (hn < hn) = false := decide_eq_false (by omega)
          have d4 : decide (ln < ln) = false := decide_eq_false (by omega)
          have HD1 := Lib.hid d1
          clear e5 hrn hrw ehr elr d1
          by_cases E2 : hn = 0
          · have d5 : (hn == 0) = true := by simpa using E2
            have d6 : decide (ln < 0) = false := decide_eq_false (by have := HD1.out.2 E2.symm; omega)
            clear E2
            go_wp2_with fail
            (with_reducible refine (HN2.out _ HUS.out).mono ?_)
            rintro e w20 ⟨rfl, hu20⟩
            have HU20 := Lib.hid (HUS.out.trans hu20)
            have e1 := (hu20.cell (p := ⟨p8, 0, none⟩) (World.block_lt_of_cell? w13 _ a4) (by simp)).trans a4
            have e2 := (hu20.cell (p := ⟨p8, 1, none⟩) (World.block_lt_of_cell? w13 _ a5) (by simp)).trans a5
            clear hu20
            go_wp2_with fail
            (with_reducible refine (HW2.out _ HU20.out).mono ?_)
            rintro e w21 ⟨rfl, hu21⟩
            have HU21 := Lib.hid (HU20.out.trans hu21)
            have e3 := (hu21.cell (p := ⟨p8, 0, none⟩) (World.block_lt_of_cell? w20 _ e1) (by simp)).trans e1
            have e4 := (hu21.cell (p := ⟨p8, 1, none⟩) (World.block_lt_of_cell? w20 _ e2) (by simp)).trans e2
            clear hu21
            go_wp2_with fail
            (with_reducible refine (awake19 _).mono ?_)
            rintro e w22 ⟨rfl, hu22⟩
            have HU22 := Lib.hid (HUd.out.trans (HU21.out.trans hu22))
            clear hu22
            go_wp2_with fail
            go_ret
            exact ⟨rfl, HU22.out.below⟩
          · have d5 : (hn == 0) = false := by simpa using E2
            clear E2
            go_wp2_with fail
            (with_reducible refine (HN2.out _ HUS.out).mono ?_)
            rintro e w20 ⟨rfl, hu20⟩
            have HU20 := Lib.hid (HUS.out.trans hu20)
            have e1 := (hu20.cell (p := ⟨p8, 0, none⟩) (World.block_lt_of_cell? w13 _ a4) (by simp)).trans a4
            have e2 := (hu20.cell (p := ⟨p8, 1, none⟩) (World.block_lt_of_cell? w13 _ a5) (by simp)).trans a5
            clear hu20
            go_wp2_with fail
            (with_reducible refine (HW2.out _ HU20.out).mono ?_)
            rintro e w21 ⟨rfl, hu21⟩
            have HU21 := Lib.hid (HU20.out.trans hu21)
            have e3 := (hu21.cell (p := ⟨p8, 0, none⟩) (World.block_lt_of_cell? w20 _ e1) (by simp)).trans e1
            have e4 := (hu21.cell (p := ⟨p8, 1, none⟩) (World.block_lt_of_cell? w20 _ e2) (by simp)).trans e2
            clear hu21
            go_wp2_with fail
            (with_reducible refine (awake19 _).mono ?_)
            rintro e w22 ⟨rfl, hu22⟩
            have HU22 := Lib.hid (HUd.out.trans (HU21.out.trans hu22))
            clear hu22
            go_wp2_with fail
            go_ret
            exact ⟨rfl, HU22.out.below⟩
        · have g1 : decide (x2 ≤ x1) = false := decide_eq_false hx
          by_cases hy : y2 ≤ y1
          · have HCNT : (⟨x1, x2, y1, y2, bi⟩ : Bx).counts = false := by unfold Bx.counts; simp; omega
            have g2 : decide (y2 ≤ y1) = true := decide_eq_true hy
            clear hx hy
            obtain ⟨rfl, rfl, rfl, rfl, e5⟩ := HF.out.2.2.1 HCNT
            have hrn := HRN.out
            have hrw := HRW.out
            simp only [e5] at hrn
            obtain ⟨hr, ehr⟩ : ∃ h : Int, ((rimN l / 18446744073709551616 : Nat) : Int) = h := ⟨_, rfl⟩
            obtain ⟨lr, elr⟩ : ∃ h : Int, ((rimN l % 18446744073709551616 : Nat) : Int) = h := ⟨_, rfl⟩
            rw [ehr, elr] at hrn hrw
            have HN2 := Lib.hid hrn
            have HW2 := Lib.hid hrw
            have d1 := HF.out.2.1
            have d2 : decide (hn < 0) = false := decide_eq_false (by omega)
            have d3 : decide (hn < hn) = false := decide_eq_false (by omega)
            have d4 : decide (ln < ln) = false := decide_eq_false (by omega)
            have HD1 := Lib.hid d1
            clear e5 hrn hrw ehr elr d1
            by_cases E2 : hn = 0
            · have d5 : (hn == 0) = true := by simpa using E2
              have d6 : decide (ln < 0) = false := decide_eq_false (by have := HD1.out.2 E2.symm; omega)
              clear E2
              go_wp2_with fail
              (with_reducible refine (HN2.out _ HUS.out).mono ?_)
              rintro e w20 ⟨rfl, hu20⟩
              have HU20 := Lib.hid (HUS.out.trans hu20)
              have e1 := (hu20.cell (p := ⟨p8, 0, none⟩) (World.block_lt_of_cell? w13 _ a4) (by simp)).trans a4
              have e2 := (hu20.cell (p := ⟨p8, 1, none⟩) (World.block_lt_of_cell? w13 _ a5) (by simp)).trans a5
              clear hu20
              go_wp2_with fail
              (with_reducible refine (HW2.out _ HU20.out).mono ?_)
              rintro e w21 ⟨rfl, hu21⟩
              have HU21 := Lib.hid (HU20.out.trans hu21)
              have e3 := (hu21.cell (p := ⟨p8, 0, none⟩) (World.block_lt_of_cell? w20 _ e1) (by simp)).trans e1
              have e4 := (hu21.cell (p := ⟨p8, 1, none⟩) (World.block_lt_of_cell? w20 _ e2) (by simp)).trans e2
              clear hu21
              go_wp2_with fail
              (with_reducible refine (awake19 _).mono ?_)
              rintro e w22 ⟨rfl, hu22⟩
              have HU22 := Lib.hid (HUd.out.trans (HU21.out.trans hu22))
              clear hu22
              go_wp2_with fail
              go_ret
              exact ⟨rfl, HU22.out.below⟩
            · have d5 : (hn == 0) = false := by simpa using E2
              clear E2
              go_wp2_with fail
              (with_reducible refine (HN2.out _ HUS.out).mono ?_)
              rintro e w20 ⟨rfl, hu20⟩
              have HU20 := Lib.hid (HUS.out.trans hu20)
              have e1 := (hu20.cell (p := ⟨p8, 0, none⟩) (World.block_lt_of_cell? w13 _ a4) (by simp)).trans a4
              have e2 := (hu20.cell (p := ⟨p8, 1, none⟩) (World.block_lt_of_cell? w13 _ a5) (by simp)).trans a5
              clear hu20
              go_wp2_with fail
              (with_reducible refine (HW2.out _ HU20.out).mono ?_)
              rintro e w21 ⟨rfl, hu21⟩
              have HU21 := Lib.hid (HU20.out.trans hu21)
              have e3 := (hu21.cell (p := ⟨p8, 0, none⟩) (World.block_lt_of_cell? w20 _ e1) (by simp)).trans e1
              have e4 := (hu21.cell (p := ⟨p8, 1, none⟩) (World.block_lt_of_cell? w20 _ e2) (by simp)).trans e2
              clear hu21
              go_wp2_with fail
              (with_reducible refine (awake19 _).mono ?_)
              rintro e w22 ⟨rfl, hu22⟩
              have HU22 := Lib.hid (HUd.out.trans (HU21.out.trans hu22))
              clear hu22
              go_wp2_with fail
              go_ret
              exact ⟨rfl, HU22.out.below⟩
          · have HCNT : (⟨x1, x2, y1, y2, bi⟩ : Bx).counts = true := by unfold Bx.counts; simp; omega
            have g2 : decide (y2 ≤ y1) = false := decide_eq_false hy
            clear hx hy
            have d1 : decide (hn < hw) = false := decide_eq_false (by have := HF.out.1.1; omega)
            have d4 : decide (hn < ho) = false := decide_eq_false (by have := HF.out.2.1.1; omega)
            by_cases E1 : hn = hw
            · by_cases E2 : hn = ho
              · by_cases E3 : ho = 0
                · have d2 : (hn == hw) = true := by simpa using E1
                  have d3 : decide (ln < lw) = false := decide_eq_false (by have := HF.out.1.2 E1.symm; omega)
                  have d5 : (hn == ho) = true := by simpa using E2
                  have d6 : decide (ln < lo) = false := decide_eq_false (by have := HF.out.2.1.2 E2.symm; omega)
                  have d7 : (ho == 0) = true := by simpa using E3
                  have d8 : (lo == 0) = false := by simpa using fun h => HF.out.2.2.2 HCNT ⟨E3, h⟩
                  clear E1 E2 E3 HCNT
                  go_wp2_with fail
                  (with_reducible refine (awake19 _).mono ?_)
                  rintro e w22 ⟨rfl, hu22⟩
                  have HU22 := Lib.hid (HUd.out.trans (HUS.out.trans hu22))
                  clear hu22
                  go_wp2_with fail
                  go_ret
                  exact ⟨rfl, HU22.out.below⟩
                · have d2 : (hn == hw) = true := by simpa using E1
                  have d3 : decide (ln < lw) = false := decide_eq_false (by have := HF.out.1.2 E1.symm; omega)
                  have d5 : (hn == ho) = true := by simpa using E2
                  have d6 : decide (ln < lo) = false := decide_eq_false (by have := HF.out.2.1.2 E2.symm; omega)
                  have d7 : (ho == 0) = false := by simpa using E3
                  clear E1 E2 E3 HCNT
                  go_wp2_with fail
                  (with_reducible refine (awake19 _).mono ?_)
                  rintro e w22 ⟨rfl, hu22⟩
                  have HU22 := Lib.hid (HUd.out.trans (HUS.out.trans hu22))
                  clear hu22
                  go_wp2_with fail
                  go_ret
                  exact ⟨rfl, HU22.out.below⟩
              · by_cases E3 : ho = 0
                · have d2 : (hn == hw) = true := by simpa using E1
                  have d3 : decide (ln < lw) = false := decide_eq_false (by have := HF.out.1.2 E1.symm; omega)
                  have d5 : (hn == ho) = false := by simpa using E2
                  have d7 : (ho == 0) = true := by simpa using E3
                  have d8 : (lo == 0) = false := by simpa using fun h => HF.out.2.2.2 HCNT ⟨E3, h⟩
                  clear E1 E2 E3 HCNT
                  go_wp2_with fail
                  (with_reducible refine (awake19 _).mono ?_)
                  rintro e w22 ⟨rfl, hu22⟩
                  have HU22 := Lib.hid (HUd.out.trans (HUS.out.trans hu22))
                  clear hu22
                  go_wp2_with fail
                  go_ret
                  exact ⟨rfl, HU22.out.below⟩
                · have d2 : (hn == hw) = true := by simpa using E1
                  have d3 : decide (ln < lw) = false := decide_eq_false (by have := HF.out.1.2 E1.symm; omega)
                  have d5 : (hn == ho) = false := by simpa using E2
                  have d7 : (ho == 0) = false := by simpa using E3
                  clear E1 E2 E3 HCNT
                  go_wp2_with fail
                  (with_reducible refine (awake19 _).mono ?_)
                  rintro e w22 ⟨rfl, hu22⟩
                  have HU22 := Lib.hid (HUd.out.trans (HUS.out.trans hu22))
                  clear hu22
                  go_wp2_with fail
                  go_ret
                  exact ⟨rfl, HU22.out.below⟩
            · by_cases E2 : hn = ho
              · by_cases E3 : ho = 0
                · have d2 : (hn == hw) = false := by simpa using E1
                  have d5 : (hn == ho) = true := by simpa using E2
                  have d6 : decide (ln < lo) = false := decide_eq_false (by have := HF.out.2.1.2 E2.symm; omega)
                  have d7 : (ho == 0) = true := by simpa using E3
                  have d8 : (lo == 0) = false := by simpa using fun h => HF.out.2.2.2 HCNT ⟨E3, h⟩
                  clear E1 E2 E3 HCNT
                  go_wp2_with fail
                  (with_reducible refine (awake19 _).mono ?_)
                  rintro e w22 ⟨rfl, hu22⟩
                  have HU22 := Lib.hid (HUd.out.trans (HUS.out.trans hu22))
                  clear hu22
                  go_wp2_with fail
                  go_ret
                  exact ⟨rfl, HU22.out.below⟩
                · have d2 : (hn == hw) = false := by simpa using E1
                  have d5 : (hn == ho) = true := by simpa using E2
                  have d6 : decide (ln < lo) = false := decide_eq_false (by have := HF.out.2.1.2 E2.symm; omega)
                  have d7 : (ho == 0) = false := by simpa using E3
                  clear E1 E2 E3 HCNT
                  go_wp2_with fail
                  (with_reducible refine (awake19 _).mono ?_)
                  rintro e w22 ⟨rfl, hu22⟩
                  have HU22 := Lib.hid (HUd.out.trans (HUS.out.trans hu22))
                  clear hu22
                  go_wp2_with fail
                  go_ret
                  exact ⟨rfl, HU22.out.below⟩
              · by_cases E3 : ho = 0
                · have d2 : (hn == hw) = false := by simpa using E1
                  have d5 : (hn == ho) = false := by simpa using E2
                  have d7 : (ho == 0) = true := by simpa using E3
                  have d8 : (lo == 0) = false := by simpa using fun h => HF.out.2.2.2 HCNT ⟨E3, h⟩
                  clear E1 E2 E3 HCNT
                  go_wp2_with fail
                  (with_reducible refine (awake19 _).mono ?_)
                  rintro e w22 ⟨rfl, hu22⟩
                  have HU22 := Lib.hid (HUd.out.trans (HUS.out.trans hu22))
                  clear hu22
                  go_wp2_with fail
                  go_ret
                  exact ⟨rfl, HU22.out.below⟩
                · have d2 : (hn == hw) = false := by simpa using E1
                  have d5 : (hn == ho) = false := by simpa using E2
                  have d7 : (ho == 0) = false := by simpa using E3
                  clear E1 E2 E3 HCNT
                  go_wp2_with fail
                  (with_reducible refine (awake19 _).mono ?_)
                  rintro e w22 ⟨rfl, hu22⟩
                  have HU22 := Lib.hid (HUd.out.trans (HUS.out.trans hu22))
                  clear hu22
                  go_wp2_with fail
                  go_ret
                  exact ⟨rfl, HU22.out.below⟩
end Go.Proofs.Ythkiljfjjnckaaa

