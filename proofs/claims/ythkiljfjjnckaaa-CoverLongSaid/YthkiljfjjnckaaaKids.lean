/- pool.kids: the iterator over a node's kids. -/
import Derived.RangeFuncNested
import Derived.RangeFuncBound
import Derived.RangeFuncCalls
import Derived.RangeFuncLeaves
import Derived.Shelf.Abstract
import Derived.Shelf.RegionOpen
import Derived.WalkKit
import Derived.OwnWalkIn
import Derived.TacticsInMore
import Derived.LoopNIn
import Derived.LoopIn
import Derived.Test.YthkiljfjjnckaaaBase
import Derived.Test.YthkiljfjjnckaaaRows
namespace Go.Proofs.Ythkiljfjjnckaaa
open Go.RowKit Go.Shelf
attribute [local go_sem] Oper.semAt_some

/-- The kids that there are. -/
def kidL (L R : Int) : List Int := (if L = -1 then [] else [L]) ++ (if R = -1 then [] else [R])

/-- What the iterator needs kept: the node's second kid. -/
def KidsK (bk : Nat) (A B : World) : Prop := B.cell? ⟨bk, 2, none⟩ = A.cell? ⟨bk, 2, none⟩
theorem kidsK_t {bk : Nat} {A B C : World} (h : KidsK bk A B) (k : KidsK bk B C) : KidsK bk A C := Eq.trans k h
theorem kidsK_b {bk : Nat} {w : World} (hb : bk < w.heap.size) (W : World) (l : Nat) (o o' : Obj) (hl : w.heap.size ≤ l) (h : W.heap[l]? = some o) (h1 : o.isCells = false) (h2 : o.isWalk = false) : KidsK bk W (W.putObj l o') :=
  (belowK_b (w := w) (Nat.le_refl _) W l o o' hl h h1 h2).cell (p := ⟨bk, 2, none⟩) hb

set_option maxRecDepth 100000 in
set_option maxHeartbeats 1000000 in
theorem kids_none (F : Fence) (n : Nat) (hF : F.fn 164) (hro : F.round = none) (bk : Nat) (w : World) (hb : bk < w.heap.size) (h1 : w.cell? ⟨bk, 1, none⟩ = some (.int .i64 (-1))) (h2 : w.cell? ⟨bk, 2, none⟩ = some (.int .i64 (-1))) :
    SeqStopsK F n Try.prog 164 #[.pointer (some ⟨bk, 0, none⟩)] (fun x : Int => #[Value.int .i64 x]) (KidsK bk) (fun xs => xs = []) (fun _ => False) 0 w := fun l J Jx W hW hJ hJx hY h0 => by
  have g1 := (hW.cell (p := ⟨bk, 1, none⟩) hb).trans h1
  have g2 := (hW.cell (p := ⟨bk, 2, none⟩) hb).trans h2
  refine callsIn_of_wp Try.func164 rfl hF ?_ hro
  simp only [Try.ntmps164, List.size_toArray, List.length_cons, List.length_nil, Nat.reduceAdd, Nat.reduceSub, Array.replicate_succ, Array.replicate_zero, List.push_toArray, List.append_toArray, List.nil_append, List.cons_append]
  gi_wp2
  refine ⟨fun _ h => (by cases h), ?_⟩
  gi_wp2
  go_end0
  exact ⟨⟨_, rfl⟩, .inl ⟨[], rfl, h0⟩⟩

set_option maxRecDepth 100000 in
set_option maxHeartbeats 1000000 in
theorem kids_both (F : Fence) (n : Nat) (hF : F.fn 164) (hro : F.round = none) (hn : 1 ≤ n) (bk : Nat) (L R : Nat) (w : World) (hb : bk < w.heap.size) (h1 : w.cell? ⟨bk, 1, none⟩ = some (.int .i64 (L : Int))) (h2 : w.cell? ⟨bk, 2, none⟩ = some (.int .i64 (R : Int))) :
    SeqStopsK F n Try.prog 164 #[.pointer (some ⟨bk, 0, none⟩)] (fun x : Bool => #[Value.int .i64 ((cond x R L : Nat) : Int)]) (KidsK bk) (fun xs => xs = [false, true]) (fun pre => pre = [false] ∨ pre = [false, true]) 2 w := fun l J Jx W hW hJ hJx hY h0 => by
  have g1 := (hW.cell (p := ⟨bk, 1, none⟩) hb).trans h1
  have g2 := (hW.cell (p := ⟨bk, 2, none⟩) hb).trans h2
  have e1 : ((L : Int) != -1) = true := by rw [bne_iff_ne]; omega
  have e2 : ((R : Int) != -1) = true := by rw [bne_iff_ne]; omega
  have hbW : bk < W.heap.size := Nat.lt_of_lt_of_le hb hW.size
  refine callsIn_of_wp Try.func164 rfl hF ?_ hro
  simp only [Try.ntmps164, List.size_toArray, List.length_cons, List.length_nil, Nat.reduceAdd, Nat.reduceSub, Array.replicate_succ, Array.replicate_zero, List.push_toArray, List.append_toArray, List.nil_append, List.cons_append]
  obtain ⟨f1, t1, a1, b1, hy1, hR1⟩ := hY [] false W h0 (by simp)
  dsimp only [cond] at hy1
  gi_wp2
  refine hR1.mono ?_
  rintro e W1 (⟨rfl, hJ1, hk1⟩ | ⟨rfl, hx1⟩)
  · have g3 := hk1.trans g2
    obtain ⟨f2, t2, a2, b2, hy2, hR2⟩ := hY [false] true W1 hJ1 (by simp)
    dsimp only [cond] at hy2
    gi_wp2
    refine hR2.mono ?_
    rintro e W2 (⟨rfl, hJ2, _⟩ | ⟨rfl, hx2⟩)
    · gi_wp2
      go_end0
      exact ⟨⟨_, rfl⟩, .inl ⟨_, rfl, hJ2⟩⟩
    · gi_wp2
      go_end0
      exact ⟨⟨_, rfl⟩, .inr ⟨_, .inr rfl, hx2⟩⟩
  · gi_wp2
    refine bodyPost_ret (results_none rfl _ _ _) rfl ?_
    exact ⟨⟨_, rfl⟩, .inr ⟨_, .inl rfl, hx1⟩⟩

theorem kids_call (nd : Array Value) (w : World) : Calls Try.prog 154 #[.agg nd] w fun e w' => e = .returned (.func (.func 164) #[] #[.pointer (some ⟨w.heap.size, 0, none⟩)]) ∧ w' = w.alloc (.cells nd 106) := by
  go_enter Try.func154, Try.ntmps154
  go_wp2
  go_ret
  exact ⟨rfl, rfl⟩

set_option maxRecDepth 100000 in
set_option maxHeartbeats 1000000 in
theorem may_leaf (fr : Int) (Ak : Option Addr) (nk Ck : Nat) (to at_ it : Int) (w : World) :
    Calls Try.prog 146 #[.agg #[.int .u8 1, .int .i64 (-1), .int .i64 (-1), .int .i64 fr, .int .i64 to, .int .i64 at_, .int .i64 it], .slice Ak nk Ck] w fun e w' => e = .returned (.bool true) ∧ Below w.heap.size w w' := by
  refine (callsIn_wide (n := 5)).1 ?_
  refine callsIn_of_wp_marks Try.func146 rfl trivial ?_ rfl
  simp only [Try.ntmps146, List.size_toArray, List.length_cons, List.length_nil, Nat.reduceAdd, Nat.reduceSub, Array.replicate_succ, Array.replicate_zero, List.push_toArray, List.append_toArray, List.nil_append, List.cons_append]
  gi_wp2_with (refine ⟨trivial, ?_⟩; gi_at_call 154; refine (callsIn_wide.2 (kids_call _ _)).mono ?_; rintro e w' ⟨rfl, rfl⟩)
  generalize hW0 : ((((w.alloc (Obj.cells #[Value.int .u8 1, Value.int .i64 (-1), Value.int .i64 (-1), Value.int .i64 fr, Value.int .i64 to, Value.int .i64 at_, Value.int .i64 it] 106)).alloc (Obj.cells #[Value.slice Ak nk Ck] 44)).alloc (Obj.cells #[Value.bool false] 4)).alloc (Obj.cells #[Value.int .i64 0] 3)) = W0
  have hz0 : W0.heap.size = w.heap.size + 1 + 1 + 1 + 1 := by rw [← hW0]; simp
  have hB0 : Below w.heap.size w W0 := by rw [← hW0]; exact ((((Below.refl _ _).alloc (Nat.le_refl _) _).alloc (by simp) _).alloc (by simp; omega) _).alloc (by simp; omega) _
  have c2 : W0.cell? ⟨w.heap.size, 0, none⟩ = some (.int .u8 1) := by rw [← hW0, World.cell?_alloc_past _ _ _ (by simp; omega), World.cell?_alloc_past _ _ _ (by simp; omega), World.cell?_alloc_past _ _ _ (by simp), World.cell?_alloc_at _ _ _ _ rfl]; rfl
  have c4 : W0.cell? ⟨w.heap.size + 1 + 1, 0, none⟩ = some (.bool false) := by rw [← hW0, World.cell?_alloc_past _ _ _ (by simp), World.cell?_alloc_at _ _ _ _ (by simp)]; rfl
  have c5 : W0.cell? ⟨w.heap.size + 1 + 1 + 1, 0, none⟩ = some (.int .i64 0) := by rw [← hW0, World.cell?_alloc_at _ _ _ _ (by simp)]; rfl
  have f4 : W0.frozen? ⟨w.heap.size + 1 + 1, 0, none⟩ = false := by
    have h4 : W0.heap[w.heap.size + 1 + 1]? = some (.cells #[Value.bool false] 4 (0, 0)) := by
      rw [← hW0]
      have := heap_alloc_new ((w.alloc (Obj.cells #[Value.int .u8 1, Value.int .i64 (-1), Value.int .i64 (-1), Value.int .i64 fr, Value.int .i64 to, Value.int .i64 at_, Value.int .i64 it] 106)).alloc (Obj.cells #[Value.slice Ak nk Ck] 44)) (Obj.cells #[Value.bool false] 4)
      rw [Below.heap_alloc _ _ _ (by simp)]
      simpa using this
    exact frozen_of_row W0 _ 0 _ _ h4
  have hu0 : Upd [] W0 (W0.alloc (Obj.cells #[Value.int .u8 1, Value.int .i64 (-1), Value.int .i64 (-1), Value.int .i64 fr, Value.int .i64 to, Value.int .i64 at_, Value.int .i64 it] 106)) := (Upd.refl _ _).alloc _
  clear hW0
  refine wpIn_rangeFunc_ownG rfl (by omega) (gf := 164) (lb := #[.pointer (some ⟨w.heap.size + 1 + 1 + 1 + 1, 0, none⟩)]) rfl trivial (enters_of Try.func164 (by kernel_rfl) rfl)
    (kids_none Fence.wide 4 trivial rfl (w.heap.size + 1 + 1 + 1 + 1) _ (by simp; omega) (by rw [World.cell?_alloc_at _ _ _ _ hz0.symm]; rfl) (by rw [World.cell?_alloc_at _ _ _ _ hz0.symm]; rfl)) kidsK_t (kidsK_b (by simp; omega)) (Below.refl _ _) (fun _ => rfl)
    (fun pre W => (pre = ([] : List Int) ∧ W.cell? ⟨w.heap.size, 0, none⟩ = some (.int .u8 1) ∧ W.cell? ⟨w.heap.size + 1 + 1, 0, none⟩ = some (.bool false) ∧ W.frozen? ⟨w.heap.size + 1 + 1, 0, none⟩ = false ∧ W.cell? ⟨w.heap.size + 1 + 1 + 1, 0, none⟩ = some (.int .i64 0)) ∧ Below w.heap.size w W)
    (fun _ _ _ => False)
    (OwnFrom.and (Own.from (fun s A B row hs hg hr => ⟨hs.1, cell_kept hs.2.1 hg hr, cell_kept hs.2.2.1 hg hr, (frozen_kept hs.2.2.1 hg hr).trans hs.2.2.2.1, cell_kept hs.2.2.2.2 hg hr⟩) _) (ownFrom_below (Nat.le_refl _) (by simp; omega)))
    (fun _ _ _ _ _ hs _ _ => hs)
    ⟨⟨rfl, (hu0.cell (p := ⟨w.heap.size, 0, none⟩) (show w.heap.size < _ by omega) (by simp)).trans c2, (hu0.cell (p := ⟨w.heap.size + 1 + 1, 0, none⟩) (show w.heap.size + 1 + 1 < _ by omega) (by simp)).trans c4, (hu0.frozen (p := ⟨w.heap.size + 1 + 1, 0, none⟩) (show w.heap.size + 1 + 1 < _ by omega) (by simp)).trans f4, (hu0.cell (p := ⟨w.heap.size + 1 + 1 + 1, 0, none⟩) (show w.heap.size + 1 + 1 + 1 < _ by omega) (by simp)).trans c5⟩, hB0.alloc (by omega) _⟩
    (fun x => { tmps := #[.agg #[.int .u8 1, .int .i64 (-1), .int .i64 (-1), .int .i64 fr, .int .i64 to, .int .i64 at_, .int .i64 it], .slice Ak nk Ck, .pointer (some ⟨w.heap.size, 0, none⟩), .pointer (some ⟨w.heap.size + 1, 0, none⟩), .pointer (some ⟨w.heap.size + 1 + 1, 0, none⟩), .pointer (some ⟨w.heap.size + 1 + 1 + 1, 0, none⟩), .int .i64 x, .agg #[.int .u8 1, .int .i64 (-1), .int .i64 (-1), .int .i64 fr, .int .i64 to, .int .i64 at_, .int .i64 it], .func (.func 164) #[] #[.pointer (some ⟨w.heap.size + 1 + 1 + 1 + 1, 0, none⟩)], .int .i64 x, undef, undef, undef, undef, undef, undef, undef, undef, undef, undef, undef, undef, undef, undef, undef, undef, undef, undef, undef, undef, undef, undef, undef, undef, undef, undef, undef, undef, undef, undef, undef, undef, undef], defers := [] }) ?assign ?body ?done ?stop
  case assign =>
    intro l x W K hK
    gi_wp2
    exact hK
  case body =>
    intro l pre x W _ hl
    simp at hl
  case done =>
    rintro D ys W hD rfl ⟨⟨_, d2, d4, g4, d5⟩, hB⟩ hK
    gi_wp2
    have hK2 := (KeepsOthers.setCell W ⟨w.heap.size + 1 + 1, 0, none⟩ (.bool true)).same D _ hK rfl
    refine ⟨by simp, .inl ⟨_, _, rfl, run_takeDeferred hK2, ?_⟩⟩
    have hr := World.cell?_setCell_same' W ⟨w.heap.size + 1 + 1, 0, none⟩ (.bool true) (by rw [d4]; rfl)
    have hr2 : ((W.setCell ⟨w.heap.size + 1 + 1, 0, none⟩ (.bool true)).putObj D (Obj.deferred none)).cell? ⟨w.heap.size + 1 + 1, 0, none⟩ = some (.bool true) := cell_kept hr (grownBy_putObj' _ D (.deferred none)) (fun r e => by cases e; exact ⟨_, hK2, rfl⟩)
    refine ⟨.bool true, ?_, rfl, ?_⟩
    · simp [results, Try.results146, go_sem, hr2]
    · exact (hB.setCell (p := ⟨w.heap.size + 1 + 1, 0, none⟩) (by show w.heap.size ≤ w.heap.size + 1 + 1; omega) _).trans (belowK_b (w := w) (Nat.le_refl _) _ D _ _ (by simp at hD; omega) hK2 rfl rfl)
  case stop =>
    rintro D c pre W _ hf
    exact hf.elim
end Go.Proofs.Ythkiljfjjnckaaa
