/- pool.put at an inner node. -/
import Derived.Test.YthkiljfjjnckaaaKidsC
namespace Go.Proofs.Ythkiljfjjnckaaa
open Go.RowKit Go.Shelf
attribute [local go_sem] Oper.semAt_some

def setAll (L R : Nat) (xs : List Value) (pre : List Bool) : List Value := pre.foldl (fun s b => s.set (cond b R L) (.bool true)) xs
theorem setAll_len (L R : Nat) (xs : List Value) (pre : List Bool) : (setAll L R xs pre).length = xs.length := by
  unfold setAll
  induction pre generalizing xs with
  | nil => rfl
  | cons b p ih => rw [List.foldl_cons, ih, List.length_set]
theorem setAll_snoc (L R : Nat) (xs : List Value) (pre : List Bool) (b : Bool) : setAll L R xs (pre ++ [b]) = (setAll L R xs pre).set (cond b R L) (.bool true) := by simp [setAll]

set_option maxRecDepth 100000 in
set_option maxHeartbeats 1000000 in
theorem put_both (L R n : Nat) (hL : L < n) (hR : R < n) (fr to at_ it : Int) (v : Value) (xs : List Value) (base : Nat) (w : World) (hown : w.ownsRow base 4 1 v n xs) (hn : n < 2 ^ 40) :
    Calls Try.prog 147 #[.agg #[.int .u8 2, .int .i64 (L : Int), .int .i64 (R : Int), .int .i64 fr, .int .i64 to, .int .i64 at_, .int .i64 it], v] w fun e w' => ∃ A C, e = .returned (.slice A (n + 1) C) ∧ w'.ownsRow base 4 1 (.slice A (n + 1) C) (n + 1) ((xs.set L (.bool true)).set R (.bool true) ++ [.bool false]) ∧ Upd (blk v) w w' ∧ ∀ y ∈ blk (.slice A (n + 1) C), y ∈ blk v ∨ w.heap.size ≤ y := by
  obtain ⟨g, C0, rfl, _, hgw0⟩ := World.ownsRow.form hown (by omega)
  have hxl : xs.length = n := by have := hown.1; simpa using this
  have hv := own_lt hown
  obtain ⟨i0, hi, hy0, hy1, hy2⟩ := info_parts info_boolC
  refine (callsIn_wide (n := 9)).1 ?_
  refine callsIn_of_wp_marks Try.func147 rfl trivial ?_ rfl
  simp only [Try.ntmps147, List.size_toArray, List.length_cons, List.length_nil, Nat.reduceAdd, Nat.reduceSub, Array.replicate_succ, Array.replicate_zero, List.push_toArray, List.append_toArray, List.nil_append, List.cons_append]
  gi_wp2_with (refine ⟨trivial, ?_⟩; gi_at_call 154; refine (callsIn_wide.2 (kids_call _ _)).mono ?_; rintro e w' ⟨rfl, rfl⟩)
  generalize hW0 : ((w.alloc (Obj.cells #[Value.int .u8 2, Value.int .i64 (L : Int), Value.int .i64 (R : Int), Value.int .i64 fr, Value.int .i64 to, Value.int .i64 at_, Value.int .i64 it] 106)).alloc (Obj.cells #[Value.slice (some ⟨g, 0, none⟩) n C0] 44)) = W0
  have hz0 : W0.heap.size = w.heap.size + 1 + 1 := by rw [← hW0]; simp
  have hu : Upd (blk (.slice (some ⟨g, 0, none⟩) n C0)) w W0 := by rw [← hW0]; exact ((Upd.refl _ _).alloc _).alloc _
  have c3 : W0.cell? ⟨w.heap.size + 1, 0, none⟩ = some (.slice (some ⟨g, 0, none⟩) n C0) := by rw [← hW0, World.cell?_alloc_at _ _ _ _ (by simp)]; rfl
  have ho : W0.ownsRow base 4 1 (.slice (some ⟨g, 0, none⟩) n C0) n xs := own_same hown fun k hk => by
    rw [← hW0, Below.heap_alloc _ _ _ (by have := hv k hk; simp; omega), Below.heap_alloc _ _ _ (hv k hk)]
  have hu0 : Upd [] W0 (W0.alloc (Obj.cells #[Value.int .u8 2, Value.int .i64 (L : Int), Value.int .i64 (R : Int), Value.int .i64 fr, Value.int .i64 to, Value.int .i64 at_, Value.int .i64 it] 106)) := (Upd.refl _ _).alloc _
  clear hW0
  refine wpIn_rangeFunc_ownG rfl (by omega) (gf := 164) (lb := #[.pointer (some ⟨w.heap.size + 1 + 1, 0, none⟩)]) rfl trivial (enters_of Try.func164 (by kernel_rfl) rfl)
    (kids_both Fence.wide 8 trivial rfl (by omega) (w.heap.size + 1 + 1) L R _ (by simp; omega) (by rw [World.cell?_alloc_at _ _ _ _ hz0.symm]; rfl) (by rw [World.cell?_alloc_at _ _ _ _ hz0.symm]; rfl)) kidsK_t (kidsK_b (by simp; omega)) (Below.refl _ _) (fun _ => rfl)
    (fun (pre : List Bool) W => PutI w base n (.slice (some ⟨g, 0, none⟩) n C0) (setAll L R xs pre) W)
    (fun _ _ _ => False)
    (putI_own w base n _ hv (setAll L R xs) _ (by simp; omega))
    (fun _ _ _ _ _ hs _ _ => hs)
    ⟨own_same ho fun k hk => hu0.block k (by have := hv k hk; omega) (by simp), (hu0.cell (p := ⟨w.heap.size + 1, 0, none⟩) (show w.heap.size + 1 < _ by omega) (by simp)).trans c3, hu.alloc _⟩
    (fun x : Bool => { tmps := #[.agg #[.int .u8 2, .int .i64 (L : Int), .int .i64 (R : Int), .int .i64 fr, .int .i64 to, .int .i64 at_, .int .i64 it], .slice (some ⟨g, 0, none⟩) n C0, .pointer (some ⟨w.heap.size, 0, none⟩), .pointer (some ⟨w.heap.size + 1, 0, none⟩), .slice none 0 0, .int .i64 ((cond x R L : Nat) : Int), .agg #[.int .u8 2, .int .i64 (L : Int), .int .i64 (R : Int), .int .i64 fr, .int .i64 to, .int .i64 at_, .int .i64 it], .func (.func 164) #[] #[.pointer (some ⟨w.heap.size + 1 + 1, 0, none⟩)], .int .i64 ((cond x R L : Nat) : Int), undef, undef, undef, undef, undef, undef], defers := [] }) ?assign ?body ?done ?stop
  case assign =>
    intro l x W K hK
    gi_wp2
    exact hK
  case body =>
    rintro l pre x W ⟨d1, d2, d3⟩ hl
    obtain ⟨k, hkk, hk⟩ : ∃ k : Nat, cond x R L = k ∧ k < n := by
      cases x
      · exact ⟨L, rfl, hL⟩
      · exact ⟨R, rfl, hR⟩
    rw [hkk]
    have hlen : (setAll L R xs pre).length = n := by rw [setAll_len]; exact hxl
    have e1 : W.cell? ⟨g, k, none⟩ = some ((setAll L R xs pre)[k]'(by omega)) := by rw [World.ownsRow.cellAt d1 k (by omega)]; exact List.getElem?_eq_getElem _
    have e2 := World.ownsRow.frozenAt d1 k
    have hgv : g ∈ blk (.slice (some ⟨g, 0, none⟩) n C0) := by simp [blk]
    have hgw := hv g hgv
    gi_wp2
    refine ⟨(KeepsOthers.setCell _ _ _).from _, World.cell?_setCell_other _ _ _ _ (fun h => by injection h with h _ _; omega), ?_, (World.cell?_setCell_other _ _ _ _ (fun h => by injection h with h _ _; omega)).trans d2, d3.setCell (.inl hgv) _⟩
    rw [setAll_snoc, hkk]
    exact (World.ownsRow.stored d1 k (.bool true)).1
  case done =>
    rintro D ys W hD rfl ⟨d1, d2, d3⟩ hK
    have hD2 : w.heap.size + 1 < D := by simp at hD; omega
    have hO : (W.alloc (.cells #[.bool false] 4)).ownsRow base 4 1 (.slice (some ⟨g, 0, none⟩) n C0) n ((xs.set L (.bool true)).set R (.bool true)) := own_same d1 fun k hk => Below.heap_alloc _ _ _ (Nat.lt_of_lt_of_le (hv k hk) d3.size)
    have hS : Sees (W.alloc (.cells #[.bool false] 4)) 1 (.slice (some ⟨W.heap.size, 0, none⟩) 1 1) 1 [.bool false] := sees_lit W #[.bool false] 4 1 1 rfl (by decide)
    have hM : n + 1 ≤ maxLen := by unfold maxLen; omega
    have hZ : base ≤ (W.alloc (.cells #[.bool false] 4)).heap.size := by have := d3.size; simp; omega
    have h1 : ∀ u ∈ [Value.bool false], u.oneCell' = true := by simp [Value.oneCell']
    gi_wp2_with (gi_at_builtin; refine wpListIn_app rfl _ _ 44 rfl base 4 i0 (.bool false) 1 1 Try.underlying44 hi hy0 hy1 hy2 rfl (by decide) _ n _ rfl hO _ 1 [.bool false] rfl hS h1 hM (by omega) hZ ?_; intro A C w1 HP)
    have hDW : D < W.heap.size := (Array.getElem?_eq_some_iff.1 hK).1
    have hDv : D ∉ blk (.slice (some ⟨g, 0, none⟩) n C0) := fun h => by have := hv D h; omega
    have hK2 : w1.heap[D]? = some (.deferred (some [])) := (HP.upd.block D (by simp; omega) hDv).trans ((Below.heap_alloc _ _ _ hDW).trans hK)
    have hg := grownBy_putObj' w1 D (.deferred none)
    have hU : Upd (blk (.slice (some ⟨g, 0, none⟩) n C0)) w w1 := (d3.alloc _).trans HP.upd
    refine ⟨by simp, .inl ⟨_, _, rfl, run_takeDeferred hK2, ?_⟩⟩
    refine ⟨.slice A (n + 1) C, ?_, A, C, rfl, own_same HP.own fun k hk => ?_, hU.grown hg (fun k e => .inr ?_), fun y hy => ?_⟩
    · simp [results, Try.results147, go_sem]
    · refine World.putObj_heap_other fun e => ?_
      rcases HP.at with h | h
      · rw [h] at hk
        have hk' := hv k hk
        omega
      · rw [h] at hk
        simp at hk; omega
    · cases e; omega
    · rcases HP.at with h | h
      · rw [h] at hy
        exact .inl hy
      · rw [h] at hy
        have := d3.size
        simp at hy
        exact .inr (by omega)
  case stop =>
    rintro D c pre W _ hf
    exact fun h => h.elim
end Go.Proofs.Ythkiljfjjnckaaa
