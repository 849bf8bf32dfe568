/- cover.New: what lies in memory behind its last statement. -/
import Derived.Test.YtcpompbiohaomaaGreatCovD
import Derived.Deep.LoopGhost
import Derived.Deep.DeepCutAuto
import Derived.Deep.CutBlock
import Derived.Laws.OwnMore
namespace Go.Proofs.YtcpompbiohaomaaGreat
open Go.RowKit

theorem zeroCells (N : Nat) : (madeCells #[.int .u64 0, .int .i64 0, .bool false, .bool false] (N * 4)).toList = KP.all (List.replicate N ⟨0, 0, false, false⟩) := by
  apply List.ext_getElem?
  intro j
  by_cases hj : j < N * 4
  · have h1 : (madeCells #[.int .u64 0, .int .i64 0, .bool false, .bool false] (N * 4)).toList[j]? = #[Value.int .u64 0, .int .i64 0, .bool false, .bool false][j % 4]? := by
      have h4 : j % 4 < 4 := Nat.mod_lt _ (by omega)
      simp [madeCells, hj]
      rcases (by omega : j % 4 = 0 ∨ j % 4 = 1 ∨ j % 4 = 2 ∨ j % 4 = 3) with h | h | h | h <;> simp [h]
    have hk : j / 4 < (List.replicate N (⟨0, 0, false, false⟩ : Part)).length := by rw [List.length_replicate]; omega
    have h4 : j % 4 < 4 := Nat.mod_lt _ (by omega)
    obtain ⟨u, hu⟩ : ∃ u, (KP.enc ((List.replicate N (⟨0, 0, false, false⟩ : Part))[j / 4]'hk))[j % 4]? = some u := by
      rw [List.getElem_replicate]
      rcases (by omega : j % 4 = 0 ∨ j % 4 = 1 ∨ j % 4 = 2 ∨ j % 4 = 3) with h | h | h | h <;> rw [h] <;> exact ⟨_, rfl⟩
    have h2 := KP.all_get _ (j / 4) (j % 4) hk u hu
    rw [show j / 4 * KP.sz + j % 4 = j by show j / 4 * 4 + j % 4 = j; omega] at h2
    rw [h1, h2, ← hu, List.getElem_replicate]
    rcases (by omega : j % 4 = 0 ∨ j % 4 = 1 ∨ j % 4 = 2 ∨ j % 4 = 3) with h | h | h | h <;> rw [h] <;> rfl
  · rw [List.getElem?_eq_none (by simp [madeCells]; omega), List.getElem?_eq_none (by rw [KP.all_len, List.length_replicate]; show N * 4 ≤ j; omega)]

theorem rowO (W : World) (N : Nat) (hN : N < 1000000) : KC.row (W.alloc (.cells (madeCells #[.int .i64 0] (N * 1)) 3)) W.heap.size (.slice (some ⟨W.heap.size, 0, none⟩) N N) (List.replicate N 0) := by
  have := World.ownsRow_lit (e := 3) (size := 1) (base := W.heap.size) W (madeCells #[.int .i64 0] (N * 1)) N (Nat.le_refl _) (by unfold maxLen; omega) (size_madeCells _ _)
  unfold Kind.row
  rw [List.length_replicate, KC.all_eq, List.map_replicate]
  rw [Nat.mul_one, toList_madeCells_one] at this
  rw [Nat.mul_one]
  exact this

theorem rowP (W : World) (N : Nat) (hN : N < 1000000) : KP.row (W.alloc (.cells (madeCells #[.int .u64 0, .int .i64 0, .bool false, .bool false] (N * 4)) 92)) W.heap.size (.slice (some ⟨W.heap.size, 0, none⟩) N N) (List.replicate N ⟨0, 0, false, false⟩) := by
  have := World.ownsRow_lit (e := 92) (size := 4) (base := W.heap.size) W (madeCells #[.int .u64 0, .int .i64 0, .bool false, .bool false] (N * 4)) N (Nat.le_refl _) (by unfold maxLen; omega) (size_madeCells _ _)
  unfold Kind.row
  rw [List.length_replicate, ← zeroCells]
  exact this

/-- What lies there. -/
structure Fin7 (W0 W' : World) (b N : Nat) (mv nv : Value) (R : Int) (hb g1 g2 : Nat) : Prop where
  upd : Upd [b] W0 W'
  head : W'.heap[b]? = some (.cells #[mv, .int .i64 R, nv, .slice (some ⟨g1, 0, none⟩) N N, .slice (some ⟨g2, 0, none⟩) N N, .map (some hb), .int .i64 0] 85 (0, 0))
  ro : KC.row W' W0.heap.size (.slice (some ⟨g1, 0, none⟩) N N) (List.replicate N 0)
  rp : KP.row W' W0.heap.size (.slice (some ⟨g2, 0, none⟩) N N) (List.replicate N ⟨0, 0, false, false⟩)
  ne : g1 ≠ g2

section
variable {W0 : World} {b N : Nat} {mv nv : Value} {R : Int} {hb : Nat} (hN : N < 1000000) (h : W0.heap[b]? = some (.cells #[mv, .int .i64 R, nv, .slice none 0 0, .slice none 0 0, .map (some hb), .int .i64 0] 85 (0, 0)))
include hN h

theorem endA : Fin7 W0 ((((W0.alloc (.cells (madeCells #[.int .i64 0] (N * 1)) 3)).alloc (.cells (madeCells #[.int .u64 0, .int .i64 0, .bool false, .bool false] (N * 4)) 92)).setCell ⟨b, 3, none⟩ (.slice (some ⟨W0.heap.size, 0, none⟩) N N)).setCell ⟨b, 4, none⟩ (.slice (some ⟨W0.heap.size + 1, 0, none⟩) N N)).drew b N mv nv R hb W0.heap.size (W0.heap.size + 1) := by
  have hbw := lt_of_block h
  have e1 : (W0.alloc (.cells (madeCells #[.int .i64 0] (N * 1)) 3)).heap.size = W0.heap.size + 1 := by simp
  have r1 := rowO W0 N hN
  have r2 := rowP (W0.alloc (.cells (madeCells #[.int .i64 0] (N * 1)) 3)) N hN
  rw [e1] at r2
  have r1' := own_upd r1 ((Upd.refl [] _).alloc (.cells (madeCells #[.int .u64 0, .int .i64 0, .bool false, .bool false] (N * 4)) 92)) (by simp)
  refine ⟨((((Upd.refl [b] W0).alloc _).alloc _).setCell (.inl (by simp)) _).setCell (.inl (by simp)) _ |>.drew, ?_, ?_, ?_, by omega⟩
  · have hh : ((W0.alloc (.cells (madeCells #[.int .i64 0] (N * 1)) 3)).alloc (.cells (madeCells #[.int .u64 0, .int .i64 0, .bool false, .bool false] (N * 4)) 92)).heap[b]? = some (.cells #[mv, .int .i64 R, nv, .slice none 0 0, .slice none 0 0, .map (some hb), .int .i64 0] 85 (0, 0)) := by
      rw [Below.heap_alloc _ _ _ (by rw [e1]; omega), Below.heap_alloc _ _ _ hbw]
      exact h
    exact heap_set (heap_set hh 3 _) 4 _
  · exact row_set_other (row_set_other r1' (by simp [blk]; omega) _) (by simp [blk]; omega) _
  · exact own_base (row_set_other (row_set_other r2 (by simp [blk]; omega) _) (by simp [blk]; omega) _) (by omega)

theorem endC : Fin7 W0 ((((W0.alloc (.cells (madeCells #[.int .u64 0, .int .i64 0, .bool false, .bool false] (N * 4)) 92)).alloc (.cells (madeCells #[.int .i64 0] (N * 1)) 3)).setCell ⟨b, 3, none⟩ (.slice (some ⟨W0.heap.size + 1, 0, none⟩) N N)).setCell ⟨b, 4, none⟩ (.slice (some ⟨W0.heap.size, 0, none⟩) N N)).drew b N mv nv R hb (W0.heap.size + 1) W0.heap.size := by
  have hbw := lt_of_block h
  have e1 : (W0.alloc (.cells (madeCells #[.int .u64 0, .int .i64 0, .bool false, .bool false] (N * 4)) 92)).heap.size = W0.heap.size + 1 := by simp
  have r1 := rowP W0 N hN
  have r2 := rowO (W0.alloc (.cells (madeCells #[.int .u64 0, .int .i64 0, .bool false, .bool false] (N * 4)) 92)) N hN
  rw [e1] at r2
  have r1' := own_upd r1 ((Upd.refl [] _).alloc (.cells (madeCells #[.int .i64 0] (N * 1)) 3)) (by simp)
  refine ⟨((((Upd.refl [b] W0).alloc _).alloc _).setCell (.inl (by simp)) _).setCell (.inl (by simp)) _ |>.drew, ?_, ?_, ?_, by omega⟩
  · have hh : ((W0.alloc (.cells (madeCells #[.int .u64 0, .int .i64 0, .bool false, .bool false] (N * 4)) 92)).alloc (.cells (madeCells #[.int .i64 0] (N * 1)) 3)).heap[b]? = some (.cells #[mv, .int .i64 R, nv, .slice none 0 0, .slice none 0 0, .map (some hb), .int .i64 0] 85 (0, 0)) := by
      rw [Below.heap_alloc _ _ _ (by rw [e1]; omega), Below.heap_alloc _ _ _ hbw]
      exact h
    exact heap_set (heap_set hh 3 _) 4 _
  · exact own_base (row_set_other (row_set_other r2 (by simp [blk]; omega) _) (by simp [blk]; omega) _) (by omega)
  · exact row_set_other (row_set_other r1' (by simp [blk]; omega) _) (by simp [blk]; omega) _

theorem endB : Fin7 W0 ((((W0.setCell ⟨b, 3, none⟩ (.slice (some ⟨W0.heap.size, 0, none⟩) N N)).alloc (.cells (madeCells #[.int .i64 0] (N * 1)) 3)).alloc (.cells (madeCells #[.int .u64 0, .int .i64 0, .bool false, .bool false] (N * 4)) 92)).setCell ⟨b, 4, none⟩ (.slice (some ⟨W0.heap.size + 1, 0, none⟩) N N)).drew b N mv nv R hb W0.heap.size (W0.heap.size + 1) := by
  have hbw := lt_of_block h
  have e0 : (W0.setCell ⟨b, 3, none⟩ (.slice (some ⟨W0.heap.size, 0, none⟩) N N)).heap.size = W0.heap.size := by simp [World.setCell]
  have e1 : ((W0.setCell ⟨b, 3, none⟩ (.slice (some ⟨W0.heap.size, 0, none⟩) N N)).alloc (.cells (madeCells #[.int .i64 0] (N * 1)) 3)).heap.size = W0.heap.size + 1 := by rw [World.size_alloc, e0]
  have r1 := rowO (W0.setCell ⟨b, 3, none⟩ (.slice (some ⟨W0.heap.size, 0, none⟩) N N)) N hN
  have r2 := rowP ((W0.setCell ⟨b, 3, none⟩ (.slice (some ⟨W0.heap.size, 0, none⟩) N N)).alloc (.cells (madeCells #[.int .i64 0] (N * 1)) 3)) N hN
  rw [e0] at r1
  rw [e1] at r2
  have r1' := own_upd r1 ((Upd.refl [] _).alloc (.cells (madeCells #[.int .u64 0, .int .i64 0, .bool false, .bool false] (N * 4)) 92)) (by simp)
  refine ⟨((((Upd.refl [b] W0).setCell (.inl (by simp)) _).alloc _).alloc _).setCell (.inl (by simp)) _ |>.drew, ?_, ?_, ?_, by omega⟩
  · have h3 := heap_set h 3 (.slice (some ⟨W0.heap.size, 0, none⟩) N N)
    have hh := (Below.heap_alloc ((W0.setCell ⟨b, 3, none⟩ (.slice (some ⟨W0.heap.size, 0, none⟩) N N)).alloc (.cells (madeCells #[.int .i64 0] (N * 1)) 3)) (.cells (madeCells #[.int .u64 0, .int .i64 0, .bool false, .bool false] (N * 4)) 92) b (by rw [e1]; omega)).trans ((Below.heap_alloc (W0.setCell ⟨b, 3, none⟩ (.slice (some ⟨W0.heap.size, 0, none⟩) N N)) (.cells (madeCells #[.int .i64 0] (N * 1)) 3) b (by rw [e0]; exact hbw)).trans h3)
    exact heap_set hh 4 _
  · exact row_set_other r1' (by simp [blk]; omega) _
  · exact own_base (row_set_other r2 (by simp [blk]; omega) _) (by omega)
end

theorem postL_const {α : Type} (a : α) : ∀ (d f t pf pt o : Nat), t - f ≤ d → f < t → postL (fun _ _ _ _ _ => a) f t pf pt o = List.replicate (2 * (t - f) - 1) a := by
  intro d
  induction d with
  | zero => intro f t pf pt o h1 h2; omega
  | succ d ih =>
    intro f t pf pt o h1 h2
    by_cases h : f + 1 < t
    · have hm := mid_in h
      rw [postL_node _ pf pt o h, ih _ _ _ _ _ (by omega) hm.1, ih _ _ _ _ _ (by omega) hm.2]
      rw [show ([a] : List α) = List.replicate 1 a from rfl, List.replicate_append_replicate, List.replicate_append_replicate]
      congr 1; omega
    · rw [postL_leaf _ pf pt o h, show 2 * (t - f) - 1 = 1 by omega]; rfl

theorem part_nil (M : Nat → Int) : ∀ (d f t pf pt : Nat), t - f ≤ d → partV (cntH []) M f t pf pt = ⟨0, 0, false, false⟩ := by
  intro d
  induction d with
  | zero => intro f t pf pt h1; rw [partV_leaf (by simp [cntH]) (by omega)]
  | succ d ih =>
    intro f t pf pt h1
    by_cases h : f + 1 < t
    · have hm := mid_in h
      rw [partV_node (by simp [cntH]) h, ih _ _ _ _ (by omega), ih _ _ _ _ (by omega)]
      rfl
    · rw [partV_leaf (by simp [cntH]) h]

theorem oN_nil (n : Nat) : oN (cntH []) n = List.replicate (2 * n - 1) 0 := by
  unfold oN
  split
  · rename_i h; subst h; rfl
  · unfold oL
    have := postL_const (0 : Int) n 0 n 0 (n + 1) 0 (by omega) (by omega)
    rw [Nat.sub_zero] at this
    rw [← this]
    rfl

theorem pN_nil (M : List Int) (n : Nat) : pN (cntH []) M n = List.replicate (2 * n - 1) ⟨0, 0, false, false⟩ := by
  unfold pN
  split
  · rename_i h; subst h; rfl
  · unfold pL
    have := postL_const (⟨0, 0, false, false⟩ : Part) n 0 n 0 (n + 1) 0 (by omega) (by omega)
    rw [Nat.sub_zero] at this
    rw [← this]
    exact postL_congr _ _ n 0 n 0 (n + 1) 0 (by omega) (by omega) (fun _ => part_nil _ n _ _ _ _ (by omega)) (fun f' t' pf' pt' _ _ _ _ _ _ => part_nil _ (t' - f') _ _ _ _ (by omega))

/-- What New leaves of marks that rise: a cover that holds nothing. -/
def NewPost (w : World) (M : List Int) (e : Ending) (w' : World) : Prop :=
  ∃ b F, e = .returned (.tuple #[.pointer (some ⟨b, 0, none⟩), .int .i64 0]) ∧ IsCov w' b F M [] 0 ∧ Upd [] w w' ∧ ∀ y ∈ F, w.heap.size ≤ y

theorem newEnd {w w1 w2 w3 W0 W' : World} {M : List Int} {n N : Nat} {mv nv : Value} {R : Int} {fb g1 g2 : Nat} (hn : n = M.length - 1) (hR : rootI n = R) (hN : (nodesN n).length = N)
    (h1 : w.heap.size ≤ fb) (h2 : fb < w1.heap.size) (h3 : w1.heap.size ≤ w2.heap.size) (hmr : KL.row w2 w1.heap.size mv M) (hu2 : Upd [] w w2) (hnr : KD.row w3 w2.heap.size nv (nodesN n)) (hu3 : Upd [fb] w2 w3)
    (hW : Upd [] w3 W0) (hq : HeldAt W0 w3.heap.size 0 (fun _ => 0)) (hs : W0.heap.size = w3.heap.size + 2) (hf : Fin7 W0 W' (w3.heap.size + 1) N mv nv R w3.heap.size g1 g2) :
    NewPost w M (.returned (.tuple #[.pointer (some ⟨w3.heap.size + 1, 0, none⟩), .int .i64 0])) W' := by
  have hz3 := hu3.size
  have hU3 : Upd [] w w3 := hu2.trans' hu3 (fun x hx => by simp at hx; subst hx; exact .inr h1)
  have hU : Upd [] w W' := (hU3.trans hW).trans' hf.upd (fun x hx => by simp at hx; subst hx; exact .inr (by have := hU3.size; omega))
  have m3 : KL.row w3 w1.heap.size mv M := own_upd hmr hu3 (fun k hk => by have := own_ge hmr k hk; simp; omega)
  have m0 := own_upd m3 hW (by simp)
  have ml := own_lt hmr
  have mg := own_ge hmr
  have nl := own_lt hnr
  have ng := own_ge hnr
  have m' : KL.row W' w1.heap.size mv M := own_upd m0 hf.upd (fun k hk => by have := ml k hk; simp; omega)
  have n0 := own_upd hnr hW (by simp)
  have n' : KD.row W' w2.heap.size nv (nodesN n) := own_upd n0 hf.upd (fun k hk => by have := nl k hk; simp; omega)
  have gg1 : W0.heap.size ≤ g1 := own_ge hf.ro g1 (by simp [blk])
  have gg2 : W0.heap.size ≤ g2 := own_ge hf.rp g2 (by simp [blk])
  have hne := hf.ne
  have hNn : N = 2 * n - 1 := by rw [← hN]; exact nodesN_len n
  have eo : oN (cntH []) n = List.replicate N 0 := by rw [oN_nil, hNn]
  have ep : pN (cntH []) M n = List.replicate N ⟨0, 0, false, false⟩ := by rw [pN_nil, hNn]
  have b1 : blk (.slice (some ⟨g1, 0, none⟩) N N) = [g1] := by simp [blk]
  have b2 : blk (.slice (some ⟨g2, 0, none⟩) N N) = [g2] := by simp [blk]
  refine ⟨w3.heap.size + 1, _, rfl, ⟨mv, nv, .slice (some ⟨g1, 0, none⟩) N N, .slice (some ⟨g2, 0, none⟩) N N, w3.heap.size, 0, rfl, ⟨?_, ?_, ?_, ?_, ?_, ?_, ?_, ?_, ?_, ?_, ?_, ?_, ?_, ?_, ?_, ?_, ?_, ?_, ?_⟩, ?_⟩, hU, ?_⟩
  · rw [← hn, hR]; exact hf.head
  · exact own_base m' (Nat.zero_le _)
  · rw [← hn]; exact own_base n' (Nat.zero_le _)
  · rw [← hn, eo]; exact own_base hf.ro (Nat.zero_le _)
  · rw [← hn, ep]; exact own_base hf.rp (Nat.zero_le _)
  · intro h; have := ml _ h; omega
  · intro h; have := nl _ h; omega
  · rw [b1]; simp; omega
  · rw [b2]; simp; omega
  · omega
  · rw [b1]; intro y hy h; simp at hy; have := ml _ h; omega
  · rw [b1]; intro y hy h; simp at hy; have := nl _ h; omega
  · rw [b1, b2]; intro y hy h; simp at hy h; omega
  · rw [b2]; intro y hy h; simp at hy; have := ml _ h; omega
  · rw [b2]; intro y hy h; simp at hy; have := nl _ h; omega
  · intro h; have := ml _ h; omega
  · intro h; have := nl _ h; omega
  · rw [b1]; simp; omega
  · rw [b2]; simp; omega
  · have hq' := hq.upd hf.upd (by simp)
    simpa using hq'
  · intro y hy
    have hz := hU3.size
    rw [b1, b2] at hy
    simp only [List.mem_cons, List.mem_append, List.not_mem_nil, or_false] at hy
    rcases hy with rfl | rfl | hy | hy | rfl | rfl
    · omega
    · omega
    · have := mg y hy; omega
    · have := ng y hy; omega
    · omega
    · omega
end Go.Proofs.YtcpompbiohaomaaGreat
