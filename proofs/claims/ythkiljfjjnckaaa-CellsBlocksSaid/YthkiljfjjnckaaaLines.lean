/- cells.lines: the lines of the boxes that count, each once, rising. -/
import Derived.Test.YthkiljfjjnckaaaHeld
import Derived.Test.YthkiljfjjnckaaaSqz
import Derived.Test.YthkiljfjjnckaaaRegT
namespace Go.Proofs.Ythkiljfjjnckaaa
open Go.RowKit

/-- Two rows of numbers, apart. -/
structure Two (B : Nat) (w : World) (vx : Value) (X : List Int) (vy : Value) (Y : List Int) : Prop where
  rx : KL.row w B vx X
  ry : KL.row w B vy Y
  ap : ∀ k ∈ blk vx, k ∉ blk vy

section
variable {B : Nat} {w w' : World} {vx vy : Value} {X Y : List Int}

theorem Two.upd {F : List Nat} (h : Two B w vx X vy Y) (hu : Upd F w w') (hx : ∀ k ∈ blk vx, k ∉ F) (hy : ∀ k ∈ blk vy, k ∉ F) : Two B w' vx X vy Y := ⟨own_upd h.rx hu hx, own_upd h.ry hu hy, h.ap⟩
theorem Two.upd0 (h : Two B w vx X vy Y) (hu : Upd [] w w') : Two B w' vx X vy Y := h.upd hu (by simp) (by simp)
theorem Two.alloc (h : Two B w vx X vy Y) (o : Obj) : Two B (w.alloc o) vx X vy Y := h.upd0 ((Upd.refl _ _).alloc o)
theorem Two.ltx (h : Two B w vx X vy Y) : ∀ k ∈ blk vx, k < w.heap.size := own_lt h.rx
theorem Two.lty (h : Two B w vx X vy Y) : ∀ k ∈ blk vy, k < w.heap.size := own_lt h.ry
theorem Two.gex (h : Two B w vx X vy Y) : ∀ k ∈ blk vx, B ≤ k := own_ge h.rx
theorem Two.gey (h : Two B w vx X vy Y) : ∀ k ∈ blk vy, B ≤ k := own_ge h.ry

theorem Two.appX (h : Two B w vx X vy Y) {a b : Int} {A : Option Addr} {C : Nat} (HP : AppPost w w' B 2 1 vx X.length (KL.all X) 2 [.int .i64 a, .int .i64 b] A C) (_hB : B ≤ w.heap.size) :
    Two B w' (.slice A (X.length + 2) C) (X ++ [a, b]) vy Y := by
  refine ⟨?_, own_upd h.ry HP.upd (fun k hk hc => h.ap k hc hk), ?_⟩
  · have := HP.own
    unfold Kind.row
    rw [Kind.all_app, List.length_append]
    exact this
  · intro k hk hc
    rcases HP.at with h1 | h1
    · rw [h1] at hk; exact h.ap k hk hc
    · rw [h1] at hk; have := h.lty k hc; simp at hk; omega

theorem Two.appY (h : Two B w vx X vy Y) {a b : Int} {A : Option Addr} {C : Nat} (HP : AppPost w w' B 2 1 vy Y.length (KL.all Y) 2 [.int .i64 a, .int .i64 b] A C) (_hB : B ≤ w.heap.size) :
    Two B w' vx X (.slice A (Y.length + 2) C) (Y ++ [a, b]) := by
  refine ⟨own_upd h.rx HP.upd (fun k hk hc => h.ap k hk hc), ?_, ?_⟩
  · have := HP.own
    unfold Kind.row
    rw [Kind.all_app, List.length_append]
    exact this
  · intro k hk hc
    rcases HP.at with h1 | h1
    · rw [h1] at hc; exact h.ap k hk hc
    · rw [h1] at hc; have := h.ltx k hk; simp at hc; omega
end

theorem keepBx {F : List Nat} {w w' : World} {q : Nat} {v0 v1 v2 v3 : Value} (h : w.cell? ⟨q, 0, none⟩ = some v0 ∧ w.cell? ⟨q, 1, none⟩ = some v1 ∧ w.cell? ⟨q, 2, none⟩ = some v2 ∧ w.cell? ⟨q, 3, none⟩ = some v3) (hu : Upd F w w') (hq : q ∉ F) :
    w'.cell? ⟨q, 0, none⟩ = some v0 ∧ w'.cell? ⟨q, 1, none⟩ = some v1 ∧ w'.cell? ⟨q, 2, none⟩ = some v2 ∧ w'.cell? ⟨q, 3, none⟩ = some v3 := by
  have hl := World.block_lt_of_cell? w _ h.1
  have e : ∀ j, w'.cell? ⟨q, j, none⟩ = w.cell? ⟨q, j, none⟩ := fun j => hu.cell (p := ⟨q, j, none⟩) hl hq
  rw [e, e, e, e]
  exact h

theorem counts_cell (b : Bx) : b.cell b.x1 b.y1 = b.counts := by
  unfold Bx.cell Bx.counts
  rw [Bool.eq_iff_iff]
  simp only [decide_eq_true_eq]
  omega

theorem linX_len (l : List Bx) : (linX l).length ≤ 2 * l.length := by
  unfold linX
  induction l with
  | nil => simp
  | cons b l ih =>
    rw [List.filter_cons]
    split
    · simp only [List.flatMap_cons, List.length_append, List.length_cons, List.length_nil] at *; omega
    · simp only [List.length_cons]; omega

theorem linY_len (l : List Bx) : (linY l).length ≤ 2 * l.length := by
  unfold linY
  induction l with
  | nil => simp
  | cons b l ih =>
    rw [List.filter_cons]
    split
    · simp only [List.flatMap_cons, List.length_append, List.length_cons, List.length_nil] at *; omega
    · simp only [List.length_cons]; omega

theorem lin_take (l : List Bx) {k : Nat} {b : Bx} (hb : l[k]? = some b) : linX (l.take (k + 1)) = linX (l.take k) ++ (if b.counts = true then [b.x1, b.x2] else []) ∧ linY (l.take (k + 1)) = linY (l.take k) ++ (if b.counts = true then [b.y1, b.y2] else []) := by
  unfold linX linY
  rw [List.take_add_one, hb]
  by_cases h : b.counts = true <;> simp [List.filter_append, h]

theorem info_int64E : (Try.prog.info? 2).map (fun i => (i.zero, i.size, i.bytes)) = some (some (.int .i64 0), 1, 8) := by kernel_rfl

/-- What lines leaves. -/
def LinPost (w : World) (X Y : List Int) (e : Ending) (w' : World) : Prop :=
  ∃ A C A' C', e = .returned (.tuple #[.slice A X.length C, .slice A' Y.length C']) ∧ Two w.heap.size w' (.slice A X.length C) X (.slice A' Y.length C') Y ∧ Upd [] w w'

set_option maxRecDepth 100000 in
set_option maxHeartbeats 4000000 in
theorem linesC (v : Value) (l : List Bx) (w : World) (hs : See KBx w v l) (hl : l.length < 1000000) :
    Calls Try.prog 64 #[v] w (LinPost w (sqz (linX l)) (sqz (linY l))) := by
  obtain ⟨A, C, rfl⟩ := hs.form
  obtain ⟨i1, hi1, hy0, hy1, hy2⟩ := info_parts info_int64E
  unfold LinPost
  obtain ⟨B, hB⟩ : ∃ B, w.heap.size = B := ⟨_, rfl⟩
  have HS := Lib.hid hs
  have HL := Lib.hid hl
  have HBB := Lib.hid hB
  have hll : (l.length : Int) < 1000000 := by omega
  clear hs hl
  rw [hB]
  clear hB
  go_enter Try.func64, Try.ntmps64
  go_wp2_with fail
  go_loopg [4, 5, 10] l.length (fun m s4 s5 s10 wr => ∃ k vx vy, m + k = l.length ∧ s4 = vx ∧ s5 = vy ∧ s10 = .int .i64 (k : Int) ∧ Two B wr vx (linX (l.take k)) vy (linY (l.take k)) ∧ Upd [] w wr)
  case atStart => exact ⟨0, _, _, rfl, rfl, rfl, rfl, ⟨World.ownsRow_nil _ _ _ _, World.ownsRow_nil _ _ _ _, by simp [blk]⟩, Upd.refl _ _⟩
  case round =>
    obtain ⟨k, vx, vy, hk, rfl, rfl, rfl, ht, hu⟩ := hrel
    have b0 : (0 : Int) ≤ (k : Int) := Int.natCast_nonneg _
    by_cases hlt : k < l.length
    · obtain ⟨b, hb⟩ : ∃ b, l[k]? = some b := ⟨_, List.getElem?_eq_getElem hlt⟩
      obtain ⟨bl, ol, hA, -, -, l0, l1, l2, l3, l4⟩ := KBx.at (HS.out.upd0 hu) hb
      subst hA
      have hlk := lin_take l hb
      have hcc := fun w => cellC b b.x1 b.y1 w
      simp only [counts_cell] at hcc
      have hlx := linX_len (l.take k)
      have hly := linY_len (l.take k)
      have htl : (l.take k).length ≤ l.length := by rw [List.length_take]; omega
      obtain ⟨c, hc⟩ : ∃ c, b.counts = c := ⟨_, rfl⟩
      rw [hc] at hlk
      simp only [hc] at hcc
      obtain ⟨x1, x2, y1, y2, bi⟩ := b
      unfold bxV at hcc
      dsimp only at hcc hlk l0 l1 l2 l3 l4
      obtain ⟨X, hX⟩ : ∃ X, linX (l.take k) = X := ⟨_, rfl⟩
      obtain ⟨Y, hY⟩ : ∃ Y, linY (l.take k) = Y := ⟨_, rfl⟩
      rw [hX] at hlk ht hlx
      rw [hY] at hlk ht hly
      obtain ⟨Ax, Cx, rfl⟩ := own_form ht.rx
      obtain ⟨Ay, Cy, rfl⟩ := own_form ht.ry
      have b1 : (k : Int) < (l.length : Int) := by omega
      have HLX := Lib.hid (show X.length ≤ 2000000 by have := HL.out; omega)
      have HLY := Lib.hid (show Y.length ≤ 2000000 by have := HL.out; omega)
      have HLL := Lib.hid hlk
      have HCC := Lib.hid hcc
      have HT := Lib.hid ht
      have HU := Lib.hid hu
      have HK := Lib.hid hk
      have HLT := Lib.hid hlt
      have hql : wr.heap.size < (wr.alloc (.cells #[.int .i64 x1, .int .i64 x2, .int .i64 y1, .int .i64 y2, .int .u32 (bi : Int)] 76)).heap.size := by simp
      have hbx : (wr.alloc (.cells #[.int .i64 x1, .int .i64 x2, .int .i64 y1, .int .i64 y2, .int .u32 (bi : Int)] 76)).heap[wr.heap.size]? = some (.cells #[.int .i64 x1, .int .i64 x2, .int .i64 y1, .int .i64 y2, .int .u32 (bi : Int)] 76 (0, 0)) := heap_alloc_new _ _
      have HBX := Lib.hid hbx
      have HQL := Lib.hid hql
      clear hlk hcc ht hu hk hlt hX hY hlx hly htl hc hb hbx hql
      go_wp2_with fail
      (with_reducible refine (HCC.out _).mono ?_)
      rintro e W ⟨rfl, hu1⟩
      have h6 := (hu1.block wr.heap.size HQL.out (by simp)).trans HBX.out
      obtain ⟨c0, c1, c2, c3⟩ : W.cell? ⟨wr.heap.size, 0, none⟩ = some (.int .i64 x1) ∧ W.cell? ⟨wr.heap.size, 1, none⟩ = some (.int .i64 x2) ∧ W.cell? ⟨wr.heap.size, 2, none⟩ = some (.int .i64 y1) ∧ W.cell? ⟨wr.heap.size, 3, none⟩ = some (.int .i64 y2) := by
        refine ⟨?_, ?_, ?_, ?_⟩ <;> simp [World.cell?, h6]
      have hu2 : Upd [] wr W := ((Upd.refl _ _).alloc _).trans hu1
      have HT00 := Lib.hid (HT.out.upd0 hu2)
      have HU40 := Lib.hid (HU.out.trans hu2)
      obtain ⟨W2, hW2⟩ : ∃ W2, W2 = W.drew := ⟨_, rfl⟩
      have HT0 := Lib.hid (show Two B W2 _ _ _ _ by rw [hW2]; exact HT00.out.upd0 ((Upd.refl [] W).drew))
      have HU4 := Lib.hid (show Upd [] w W2 by rw [hW2]; exact HU40.out.drew)
      have HC4 := Lib.hid (show W2.cell? ⟨wr.heap.size, 0, none⟩ = some (.int .i64 x1) ∧ W2.cell? ⟨wr.heap.size, 1, none⟩ = some (.int .i64 x2) ∧ W2.cell? ⟨wr.heap.size, 2, none⟩ = some (.int .i64 y1) ∧ W2.cell? ⟨wr.heap.size, 3, none⟩ = some (.int .i64 y2) by rw [hW2]; exact ⟨c0, c1, c2, c3⟩)
      have HQ := Lib.hid (show wr.heap.size < W2.heap.size ∧ (∀ j ∈ blk (.slice Ax X.length Cx), j < wr.heap.size) from ⟨by rw [hW2]; exact Nat.lt_of_lt_of_le HQL.out hu1.size, HT.out.ltx⟩)
      have HB := Lib.hid (show B ≤ W2.heap.size ∧ B ≤ wr.heap.size from ⟨by have := HU4.out.size; rw [HBB.out] at this; exact this, by have := HU.out.size; rw [HBB.out] at this; exact this⟩)
      obtain ⟨q, hq⟩ : ∃ q, wr.heap.size = q := ⟨_, rfl⟩
      rw [hq] at HC4 HQ ⊢
      clear hu1 hu2 h6 c0 c1 c2 c3 l0 l1 l2 l3 l4 hq
      cases c
      · have e1 : X ++ (if (false : Bool) = true then [x1, x2] else []) = X := by simp
        have e2 : Y ++ (if (false : Bool) = true then [y1, y2] else []) = Y := by simp
        rw [e1, e2] at HLL
        clear e1 e2
        go_wp2_with fail
        go_roundg (gk - 1)
        case measure => have := HK.out; have := HLT.out; omega
        case rel => exact ⟨k + 1, _, _, by have := HK.out; have := HLT.out; omega, rfl, rfl, by go_num, by rw [HLL.out.1, HLL.out.2]; exact HT00.out, HU40.out⟩
      · have e1 : X ++ (if (true : Bool) = true then [x1, x2] else []) = X ++ [x1, x2] := by simp
        have e2 : Y ++ (if (true : Bool) = true then [y1, y2] else []) = Y ++ [y1, y2] := by simp
        rw [e1, e2] at HLL
        clear e1 e2
        go_upto_region 6 with fail
        -- region 6: T waits for all loads; fuel 3
        refine GoT.start [13, 14, 15] (fun w' => w'.cell? ⟨q, 0, none⟩ = some (.int .i64 x1) ∧ w'.cell? ⟨q, 1, none⟩ = some (.int .i64 x2) ∧ w'.cell? ⟨q, 2, none⟩ = some (.int .i64 y1) ∧ w'.cell? ⟨q, 3, none⟩ = some (.int .i64 y2)) (by kernel_rfl) ?_ fun hS => ?_
        · rw [← hW2]; exact HC4.out
        rw [← hW2] at hS ⊢
        clear hW2
        refine' GoT.move (i := 0) (oi := ⟨some 20, _, _, _, _, _⟩) (v := _) rfl (by kernel_rfl) (by kernel_rfl) (by kernel_rfl) (fun _ _ _ h => h) (Or.inl ⟨by rfl, ?y6_0⟩) ?r6_0
        case y6_0 => intro w; go_simp <;> with_reducible rfl
        simp only [Act.put, List.setIfInBounds_toArray, List.set_cons_zero, List.set_cons_succ]
        refine' GoT.move (i := 1) (oi := ⟨some 21, _, _, _, _, _⟩) (v := _) rfl (by kernel_rfl) (by kernel_rfl) (by kernel_rfl) (fun _ _ _ h => h) (Or.inl ⟨by rfl, ?y6_1⟩) ?r6_1
        case y6_1 => intro w; go_simp <;> with_reducible rfl
        simp only [Act.put, List.setIfInBounds_toArray, List.set_cons_zero, List.set_cons_succ]
        refine' GoT.take 3 (i := 2) (oi := ⟨some 22, _, _, _, _, _⟩) (v := _) rfl (by kernel_rfl) (by kernel_rfl) (by kernel_rfl) (by kernel_rfl) (fun _ _ _ h => h) (Or.inl ⟨by rfl, ?y6_2⟩) (by assumption) ?r6_2
        case y6_2 => intro w hSw; go_simp <;> with_reducible rfl
        simp only [Act.put, List.setIfInBounds_toArray, List.set_cons_zero, List.set_cons_succ]
        refine' GoT.move (i := 3) (oi := ⟨some 23, _, _, _, _, _⟩) (v := _) rfl (by kernel_rfl) (by kernel_rfl) (by kernel_rfl) (fun _ _ _ h => h) (Or.inl ⟨by rfl, ?y6_3⟩) ?r6_3
        case y6_3 => intro w; go_simp <;> with_reducible rfl
        simp only [Act.put, List.setIfInBounds_toArray, List.set_cons_zero, List.set_cons_succ]
        refine' GoT.take 3 (i := 4) (oi := ⟨some 24, _, _, _, _, _⟩) (v := _) rfl (by kernel_rfl) (by kernel_rfl) (by kernel_rfl) (by kernel_rfl) (fun _ _ _ h => h) (Or.inl ⟨by rfl, ?y6_4⟩) (by assumption) ?r6_4
        case y6_4 => intro w hSw; go_simp <;> with_reducible rfl
        simp only [Act.put, List.setIfInBounds_toArray, List.set_cons_zero, List.set_cons_succ]
        refine' GoT.move (i := 7) (oi := ⟨some 27, _, _, _, _, _⟩) (v := _) rfl (by kernel_rfl) (by kernel_rfl) (by kernel_rfl) (fun _ _ _ h => h) (Or.inl ⟨by rfl, ?y6_7⟩) ?r6_7
        case y6_7 => intro w; go_simp <;> with_reducible rfl
        simp only [Act.put, List.setIfInBounds_toArray, List.set_cons_zero, List.set_cons_succ]
        refine' GoT.move (i := 8) (oi := ⟨some 28, _, _, _, _, _⟩) (v := _) rfl (by kernel_rfl) (by kernel_rfl) (by kernel_rfl) (fun _ _ _ h => h) (Or.inl ⟨by rfl, ?y6_8⟩) ?r6_8
        case y6_8 => intro w; go_simp <;> with_reducible rfl
        simp only [Act.put, List.setIfInBounds_toArray, List.set_cons_zero, List.set_cons_succ]
        refine' GoT.take 3 (i := 9) (oi := ⟨some 29, _, _, _, _, _⟩) (v := _) rfl (by kernel_rfl) (by kernel_rfl) (by kernel_rfl) (by kernel_rfl) (fun _ _ _ h => h) (Or.inl ⟨by rfl, ?y6_9⟩) (by assumption) ?r6_9
        case y6_9 => intro w hSw; go_simp <;> with_reducible rfl
        simp only [Act.put, List.setIfInBounds_toArray, List.set_cons_zero, List.set_cons_succ]
        refine' GoT.move (i := 10) (oi := ⟨some 30, _, _, _, _, _⟩) (v := _) rfl (by kernel_rfl) (by kernel_rfl) (by kernel_rfl) (fun _ _ _ h => h) (Or.inl ⟨by rfl, ?y6_10⟩) ?r6_10
        case y6_10 => intro w; go_simp <;> with_reducible rfl
        simp only [Act.put, List.setIfInBounds_toArray, List.set_cons_zero, List.set_cons_succ]
        refine' GoT.take 3 (i := 11) (oi := ⟨some 31, _, _, _, _, _⟩) (v := _) rfl (by kernel_rfl) (by kernel_rfl) (by kernel_rfl) (by kernel_rfl) (fun _ _ _ h => h) (Or.inl ⟨by rfl, ?y6_11⟩) (by assumption) ?r6_11
        case y6_11 => intro w hSw; go_simp <;> with_reducible rfl
        simp only [Act.put, List.setIfInBounds_toArray, List.set_cons_zero, List.set_cons_succ]
        -- 5: Go.Op.buildSlice 22 2 #[(0, Go.Operand.tmp 22), (1, Go.Operand.tmp 24)] | 12: Go.Op.buildSlice 22 2 #[(0, Go.Operand.tmp 29), (1, Go.Operand.tmp 31)]
        refine GoT.pair (i := 5) (o := ⟨some 25, _, _, _, _, _⟩) (k := 12) (o' := ⟨some 32, _, _, _, _, _⟩) rfl rfl (by kernel_rfl) (fun K hK => ?_) (fun K hK => ?_)
        · skip
          go_simp
          refine hK.out _ _ (fun _ h => ?_) ?_
          · exact keepBx h ((Upd.refl [] _).alloc _) (by simp)
          clear hK K
          try simp only [Act.put, List.setIfInBounds_toArray, List.set_cons_zero, List.set_cons_succ]
          -- 6: Go.Op.call { callee := Go.Callee.builtin Go.Builtin.append, args := #[Go.Operand.tmp 20, Go.Operand. | 12: Go.Op.buildSlice 22 2 #[(0, Go.Operand.tmp 29), (1, Go.Operand.tmp 31)]
          refine GoT.pair (i := 6) (o := ⟨some 26, _, _, _, _, _⟩) (k := 12) (o' := ⟨some 32, _, _, _, _, _⟩) rfl rfl (by kernel_rfl) (fun K hK => ?_) (fun K hK => ?_)
          · skip
            refine step_app _ (by rfl) _ _ 22 (by rfl) B 2 i1 (.int .i64 0) 1 8 Try.underlying22 hi1 hy0 hy1 hy2 rfl (by decide) _ _ _ (by rfl) (HT0.out.alloc _).rx _ 2 [.int .i64 x1, .int .i64 x2] (by rfl) (sees_lit _ #[.int .i64 x1, .int .i64 x2] 2 1 2 rfl (by decide)) (by simp [Value.oneCell']) (by have := HLX.out; unfold maxLen; omega) (by have := HLX.out; omega) (by have := HB.out.1; simp; omega) ?_
            intro A1 C1 w1 HP1
            refine hK.out _ _ (fun _ h => ?_) ?_
            · exact keepBx h HP1.upd (fun hq => by have := HQ.out.2 _ hq; omega)
            clear hK K
            try simp only [Act.put, List.setIfInBounds_toArray, List.set_cons_zero, List.set_cons_succ]
            have T1 := Lib.hid ((HT0.out.alloc _).appX HP1 (by have := HB.out.1; simp; omega))
            have U1 := Lib.hid ((HU4.out.alloc _).trans' HP1.upd (fun k hk => .inr (by rw [HBB.out]; exact HT0.out.gex k hk)))
            -- 12: Go.Op.buildSlice 22 2 #[(0, Go.Operand.tmp 29), (1, Go.Operand.tmp 31)]
            refine GoT.one (i := 12) (o := ⟨some 32, _, _, _, _, _⟩) rfl (by kernel_rfl) fun K hK => ?_
            go_simp
            refine hK.out _ _ (fun _ h => ?_) ?_
            · exact keepBx h ((Upd.refl [] _).alloc _) (by simp)
            clear hK K
            try simp only [Act.put, List.setIfInBounds_toArray, List.set_cons_zero, List.set_cons_succ]
            -- 13: Go.Op.call { callee := Go.Callee.builtin Go.Builtin.append, args := #[Go.Operand.tmp 27, Go.Operand.tmp 32], argTypes := #[22, 22] }
            refine GoT.one (i := 13) (o := ⟨some 33, _, _, _, _, _⟩) rfl (by kernel_rfl) fun K hK => ?_
            refine step_app _ (by rfl) _ _ 22 (by rfl) B 2 i1 (.int .i64 0) 1 8 Try.underlying22 hi1 hy0 hy1 hy2 rfl (by decide) _ _ _ (by rfl) (T1.out.alloc _).ry _ 2 [.int .i64 y1, .int .i64 y2] (by rfl) (sees_lit _ #[.int .i64 y1, .int .i64 y2] 2 1 2 rfl (by decide)) (by simp [Value.oneCell']) (by have := HLY.out; unfold maxLen; omega) (by have := HLY.out; omega) (by have h1 := U1.out.size; have h2 := HBB.out; simp; omega) ?_
            intro A2 C2 w2 HP2
            refine hK.out _ _ (fun h => (by cases h)) ?_
            clear hK K
            try simp only [Act.put, List.setIfInBounds_toArray, List.set_cons_zero, List.set_cons_succ]
            have T2 := Lib.hid ((T1.out.alloc _).appY HP2 (by have h1 := U1.out.size; have h2 := HBB.out; simp; omega))
            have U2 := Lib.hid ((U1.out.alloc _).trans' HP2.upd (fun k hk => .inr (by rw [HBB.out]; exact HT0.out.gey k hk)))
            refine' GoT.move (i := 14) (oi := ⟨some 4, _, _, _, _, _⟩) (v := _) rfl (by kernel_rfl) (by kernel_rfl) (by kernel_rfl) (fun _ _ _ h => h) (Or.inl ⟨by rfl, ?y6aa_14⟩) ?r6aa_14
            case y6aa_14 => intro w; go_simp <;> with_reducible rfl
            simp only [Act.put, List.setIfInBounds_toArray, List.set_cons_zero, List.set_cons_succ]
            refine' GoT.move (i := 15) (oi := ⟨some 5, _, _, _, _, _⟩) (v := _) rfl (by kernel_rfl) (by kernel_rfl) (by kernel_rfl) (fun _ _ _ h => h) (Or.inl ⟨by rfl, ?y6aa_15⟩) ?r6aa_15
            case y6aa_15 => intro w; go_simp <;> with_reducible rfl
            simp only [Act.put, List.setIfInBounds_toArray, List.set_cons_zero, List.set_cons_succ]
            refine GoT.done (by kernel_rfl) ?_
            have HT2 := Lib.hid (T2.out)
            have HU2 := Lib.hid U2.out
            clear T2 U2 T1 U1 HP1 HP2
            go_wp2_with fail
            go_roundg (gk - 1)
            case measure => have := HK.out; have := HLT.out; omega
            case rel => exact ⟨k + 1, _, _, by have := HK.out; have := HLT.out; omega, rfl, rfl, by go_num, by rw [HLL.out.1, HLL.out.2]; exact HT2.out, HU2.out⟩
          · skip
            go_simp
            refine hK.out _ _ (fun _ h => ?_) ?_
            · exact keepBx h ((Upd.refl [] _).alloc _) (by simp)
            clear hK K
            try simp only [Act.put, List.setIfInBounds_toArray, List.set_cons_zero, List.set_cons_succ]
            -- 6: Go.Op.call { callee := Go.Callee.builtin Go.Builtin.append, args := #[Go.Operand.tmp 20, Go.Operand.tmp 25], argTypes := #[22, 22] }
            refine GoT.one (i := 6) (o := ⟨some 26, _, _, _, _, _⟩) rfl (by kernel_rfl) fun K hK => ?_
            refine step_app _ (by rfl) _ _ 22 (by rfl) B 2 i1 (.int .i64 0) 1 8 Try.underlying22 hi1 hy0 hy1 hy2 rfl (by decide) _ _ _ (by rfl) ((HT0.out.alloc _).alloc _).rx _ 2 [.int .i64 x1, .int .i64 x2] (by rfl) (sees_upd ((sees_lit _ #[.int .i64 x1, .int .i64 x2] 2 1 2 rfl (by decide))) ((Upd.refl [] _).alloc _) (by simp)) (by simp [Value.oneCell']) (by have := HLX.out; unfold maxLen; omega) (by have := HLX.out; omega) (by have := HB.out.1; simp; omega) ?_
            intro A1 C1 w1 HP1
            refine hK.out _ _ (fun _ h => ?_) ?_
            · exact keepBx h HP1.upd (fun hq => by have := HQ.out.2 _ hq; omega)
            clear hK K
            try simp only [Act.put, List.setIfInBounds_toArray, List.set_cons_zero, List.set_cons_succ]
            have T1 := Lib.hid (((HT0.out.alloc _).alloc _).appX HP1 (by have := HB.out.1; simp; omega))
            have U1 := Lib.hid (((HU4.out.alloc _).alloc _).trans' HP1.upd (fun k hk => .inr (by rw [HBB.out]; exact HT0.out.gex k hk)))
            have hsy := sees_upd (sees_lit (W2.alloc (.cells #[.int .i64 x1, .int .i64 x2] 2)) #[.int .i64 y1, .int .i64 y2] 2 1 2 rfl (by decide)) HP1.upd (fun _ k hk _ hc => by have := HT0.out.ltx _ hc; simp [blk] at hk; omega)
            simp only [World.size_alloc] at hsy
            -- 13: Go.Op.call { callee := Go.Callee.builtin Go.Builtin.append, args := #[Go.Operand.tmp 27, Go.Operand.tmp 32], argTypes := #[22, 22] }
            refine GoT.one (i := 13) (o := ⟨some 33, _, _, _, _, _⟩) rfl (by kernel_rfl) fun K hK => ?_
            refine step_app _ (by rfl) _ _ 22 (by rfl) B 2 i1 (.int .i64 0) 1 8 Try.underlying22 hi1 hy0 hy1 hy2 rfl (by decide) _ _ _ (by rfl) T1.out.ry _ 2 [.int .i64 y1, .int .i64 y2] (by rfl) hsy (by simp [Value.oneCell']) (by have := HLY.out; unfold maxLen; omega) (by have := HLY.out; omega) (by have h1 := U1.out.size; have h2 := HBB.out; simp; omega) ?_
            intro A2 C2 w2 HP2
            refine hK.out _ _ (fun h => (by cases h)) ?_
            clear hK K
            try simp only [Act.put, List.setIfInBounds_toArray, List.set_cons_zero, List.set_cons_succ]
            have T2 := Lib.hid (T1.out.appY HP2 (by have h1 := U1.out.size; have h2 := HBB.out; simp; omega))
            have U2 := Lib.hid (U1.out.trans' HP2.upd (fun k hk => .inr (by rw [HBB.out]; exact HT0.out.gey k hk)))
            refine' GoT.move (i := 14) (oi := ⟨some 4, _, _, _, _, _⟩) (v := _) rfl (by kernel_rfl) (by kernel_rfl) (by kernel_rfl) (fun _ _ _ h => h) (Or.inl ⟨by rfl, ?y6ab_14⟩) ?r6ab_14
            case y6ab_14 => intro w; go_simp <;> with_reducible rfl
            simp only [Act.put, List.setIfInBounds_toArray, List.set_cons_zero, List.set_cons_succ]
            refine' GoT.move (i := 15) (oi := ⟨some 5, _, _, _, _, _⟩) (v := _) rfl (by kernel_rfl) (by kernel_rfl) (by kernel_rfl) (fun _ _ _ h => h) (Or.inl ⟨by rfl, ?y6ab_15⟩) ?r6ab_15
            case y6ab_15 => intro w; go_simp <;> with_reducible rfl
            simp only [Act.put, List.setIfInBounds_toArray, List.set_cons_zero, List.set_cons_succ]
            refine GoT.done (by kernel_rfl) ?_
            have HT2 := Lib.hid (T2.out)
            have HU2 := Lib.hid U2.out
            clear T2 U2 T1 U1 HP1 HP2
            go_wp2_with fail
            go_roundg (gk - 1)
            case measure => have := HK.out; have := HLT.out; omega
            case rel => exact ⟨k + 1, _, _, by have := HK.out; have := HLT.out; omega, rfl, rfl, by go_num, by rw [HLL.out.1, HLL.out.2]; exact HT2.out, HU2.out⟩
        · skip
          go_simp
          refine hK.out _ _ (fun _ h => ?_) ?_
          · exact keepBx h ((Upd.refl [] _).alloc _) (by simp)
          clear hK K
          try simp only [Act.put, List.setIfInBounds_toArray, List.set_cons_zero, List.set_cons_succ]
          -- 5: Go.Op.buildSlice 22 2 #[(0, Go.Operand.tmp 22), (1, Go.Operand.tmp 24)]
          refine GoT.one (i := 5) (o := ⟨some 25, _, _, _, _, _⟩) rfl (by kernel_rfl) fun K hK => ?_
          go_simp
          refine hK.out _ _ (fun _ h => ?_) ?_
          · exact keepBx h ((Upd.refl [] _).alloc _) (by simp)
          clear hK K
          try simp only [Act.put, List.setIfInBounds_toArray, List.set_cons_zero, List.set_cons_succ]
          have hsx := sees_lit (W2.alloc (.cells #[.int .i64 y1, .int .i64 y2] 2)) #[.int .i64 x1, .int .i64 x2] 2 1 2 rfl (by decide)
          simp only [World.size_alloc] at hsx
          -- 6: Go.Op.call { callee := Go.Callee.builtin Go.Builtin.append, args := #[Go.Operand.tmp 20, Go.Operand.tmp 25], argTypes := #[22, 22] }
          refine GoT.one (i := 6) (o := ⟨some 26, _, _, _, _, _⟩) rfl (by kernel_rfl) fun K hK => ?_
          refine step_app _ (by rfl) _ _ 22 (by rfl) B 2 i1 (.int .i64 0) 1 8 Try.underlying22 hi1 hy0 hy1 hy2 rfl (by decide) _ _ _ (by rfl) ((HT0.out.alloc _).alloc _).rx _ 2 [.int .i64 x1, .int .i64 x2] (by rfl) hsx (by simp [Value.oneCell']) (by have := HLX.out; unfold maxLen; omega) (by have := HLX.out; omega) (by have := HB.out.1; simp; omega) ?_
          intro A1 C1 w1 HP1
          refine hK.out _ _ (fun _ h => ?_) ?_
          · exact keepBx h HP1.upd (fun hq => by have := HQ.out.2 _ hq; omega)
          clear hK K
          try simp only [Act.put, List.setIfInBounds_toArray, List.set_cons_zero, List.set_cons_succ]
          have T1 := Lib.hid (((HT0.out.alloc _).alloc _).appX HP1 (by have := HB.out.1; simp; omega))
          have U1 := Lib.hid (((HU4.out.alloc _).alloc _).trans' HP1.upd (fun k hk => .inr (by rw [HBB.out]; exact HT0.out.gex k hk)))
          have hsy := sees_upd (sees_upd (sees_lit W2 #[.int .i64 y1, .int .i64 y2] 2 1 2 rfl (by decide)) ((Upd.refl [] _).alloc (.cells #[.int .i64 x1, .int .i64 x2] 2)) (by simp)) HP1.upd (fun _ k hk _ hc => by have := HT0.out.ltx _ hc; simp [blk] at hk; omega)
          -- 13: Go.Op.call { callee := Go.Callee.builtin Go.Builtin.append, args := #[Go.Operand.tmp 27, Go.Operand.tmp 32], argTypes := #[22, 22] }
          refine GoT.one (i := 13) (o := ⟨some 33, _, _, _, _, _⟩) rfl (by kernel_rfl) fun K hK => ?_
          refine step_app _ (by rfl) _ _ 22 (by rfl) B 2 i1 (.int .i64 0) 1 8 Try.underlying22 hi1 hy0 hy1 hy2 rfl (by decide) _ _ _ (by rfl) T1.out.ry _ 2 [.int .i64 y1, .int .i64 y2] (by rfl) hsy (by simp [Value.oneCell']) (by have := HLY.out; unfold maxLen; omega) (by have := HLY.out; omega) (by have h1 := U1.out.size; have h2 := HBB.out; simp; omega) ?_
          intro A2 C2 w2 HP2
          refine hK.out _ _ (fun h => (by cases h)) ?_
          clear hK K
          try simp only [Act.put, List.setIfInBounds_toArray, List.set_cons_zero, List.set_cons_succ]
          have T2 := Lib.hid (T1.out.appY HP2 (by have h1 := U1.out.size; have h2 := HBB.out; simp; omega))
          have U2 := Lib.hid (U1.out.trans' HP2.upd (fun k hk => .inr (by rw [HBB.out]; exact HT0.out.gey k hk)))
          refine' GoT.move (i := 14) (oi := ⟨some 4, _, _, _, _, _⟩) (v := _) rfl (by kernel_rfl) (by kernel_rfl) (by kernel_rfl) (fun _ _ _ h => h) (Or.inl ⟨by rfl, ?y6b_14⟩) ?r6b_14
          case y6b_14 => intro w; go_simp <;> with_reducible rfl
          simp only [Act.put, List.setIfInBounds_toArray, List.set_cons_zero, List.set_cons_succ]
          refine' GoT.move (i := 15) (oi := ⟨some 5, _, _, _, _, _⟩) (v := _) rfl (by kernel_rfl) (by kernel_rfl) (by kernel_rfl) (fun _ _ _ h => h) (Or.inl ⟨by rfl, ?y6b_15⟩) ?r6b_15
          case y6b_15 => intro w; go_simp <;> with_reducible rfl
          simp only [Act.put, List.setIfInBounds_toArray, List.set_cons_zero, List.set_cons_succ]
          refine GoT.done (by kernel_rfl) ?_
          have HT2 := Lib.hid (T2.out)
          have HU2 := Lib.hid U2.out
          clear T2 U2 T1 U1 HP1 HP2
          go_wp2_with fail
          go_roundg (gk - 1)
          case measure => have := HK.out; have := HLT.out; omega
          case rel => exact ⟨k + 1, _, _, by have := HK.out; have := HLT.out; omega, rfl, rfl, by go_num, by rw [HLL.out.1, HLL.out.2]; exact HT2.out, HU2.out⟩

    · have hX : linX (l.take k) = linX l := by rw [List.take_of_length_le (by omega)]
      have hY : linY (l.take k) = linY l := by rw [List.take_of_length_le (by omega)]
      rw [hX, hY] at ht
      have hlx := linX_len l
      have hly := linY_len l
      obtain ⟨X, hX⟩ : ∃ X, linX l = X := ⟨_, rfl⟩
      obtain ⟨Y, hY⟩ : ∃ Y, linY l = Y := ⟨_, rfl⟩
      rw [hX] at ht hlx
      rw [hY] at ht hly
      have HXY := Lib.hid (And.intro hX hY)
      have hsq := squeezeC _ X wr (See.of_row ht.rx) (by have := HL.out; omega)
      have hsq2 := fun w2 (hu2 : Upd [] wr w2) => squeezeC _ Y w2 (See.of_row (ht.upd0 hu2).ry) (by have := HL.out; omega)
      have HSQ := Lib.hid hsq
      have HSQ2 := Lib.hid hsq2
      have HU := Lib.hid hu
      clear hsq hsq2 hu hX hY hlx hly ht hk
      go_wp2_with fail
      (with_reducible refine HSQ.out.mono ?_)
      rintro e w1 ⟨A1, C1, rfl, hr1, hu1⟩
      have H1 := Lib.hid (HSQ2.out w1 hu1)
      have HR1 := Lib.hid hr1
      have HU1 := Lib.hid (HU.out.trans hu1)
      clear hr1 hu1
      go_wp2_with fail
      (with_reducible refine H1.out.mono ?_)
      rintro e w2 ⟨A2, C2, rfl, hr2, hu2⟩
      have hsz := HU1.out.size
      have hsz0 := HU.out.size
      rw [HBB.out] at hsz hsz0
      have HT2 := Lib.hid (show Two B w2 (.slice A1 (sqz X).length C1) (sqz X) (.slice A2 (sqz Y).length C2) (sqz Y) from ⟨own_base (own_upd HR1.out hu2 (by simp)) hsz0, own_base hr2 hsz, fun j hj hc => by have h1 := own_lt HR1.out j hj; have h2 := own_ge hr2 j hc; omega⟩)
      have HU2 := Lib.hid (HU1.out.trans hu2)
      clear hr2 hu2 hsz hsz0
      go_wp2_with fail
      go_ret2
      rw [HXY.out.1, HXY.out.2]
      exact ⟨A1, C1, A2, C2, rfl, HT2.out, HU2.out⟩
end Go.Proofs.Ythkiljfjjnckaaa

