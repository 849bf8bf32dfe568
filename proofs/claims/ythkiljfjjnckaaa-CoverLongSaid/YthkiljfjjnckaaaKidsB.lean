/- pool.may at an inner node. -/
import Derived.Test.YthkiljfjjnckaaaKids
namespace Go.Proofs.Ythkiljfjjnckaaa
open Go.RowKit Go.Shelf
attribute [local go_sem] Oper.semAt_some

/-- The state of may's range: the node's block, the list's slot, the answer, how many, and the list's two cells. -/
def MayI (h bK oK nk Ck L R : Nat) (m : Nat) (W : World) : Prop :=
  W.cell? ⟨h, 0, none⟩ = some (.int .u8 2) ∧ W.cell? ⟨h + 1 + 1, 0, none⟩ = some (.bool false) ∧ W.frozen? ⟨h + 1 + 1, 0, none⟩ = false ∧ W.cell? ⟨h + 1 + 1 + 1, 0, none⟩ = some (.int .i64 (m : Int)) ∧ W.frozen? ⟨h + 1 + 1 + 1, 0, none⟩ = false ∧ W.cell? ⟨bK, oK + L, none⟩ = some (.bool false) ∧ W.cell? ⟨bK, oK + R, none⟩ = some (.bool false) ∧ W.cell? ⟨h, 1, none⟩ = some (.int .i64 (L : Int)) ∧ W.cell? ⟨h, 2, none⟩ = some (.int .i64 (R : Int)) ∧ W.cell? ⟨h + 1, 0, none⟩ = some (.slice (some ⟨bK, oK, none⟩) nk Ck)

theorem mayI_own (h bK oK nk Ck L R : Nat) : Own (fun (pre : List Bool) W => MayI h bK oK nk Ck L R pre.length W) := by
  rintro s A B row ⟨h1, h2, h3, h4, h5, h6, h7, h8, h9, h10⟩ hg hr
  exact ⟨cell_kept h1 hg hr, cell_kept h2 hg hr, (frozen_kept h2 hg hr).trans h3, cell_kept h4 hg hr, (frozen_kept h4 hg hr).trans h5, cell_kept h6 hg hr, cell_kept h7 hg hr, cell_kept h8 hg hr, cell_kept h9 hg hr, cell_kept h10 hg hr⟩

set_option maxRecDepth 100000 in
set_option maxHeartbeats 1000000 in
theorem may_both (L R : Nat) (fr : Int) (bK oK : Nat) (nk Ck : Nat) (to at_ it : Int) (w : World) (hLn : L < nk) (hRn : R < nk) (hne : L ≠ R) (hbK : bK < w.heap.size) (hkL : w.cell? ⟨bK, oK + L, none⟩ = some (.bool false)) (hkR : w.cell? ⟨bK, oK + R, none⟩ = some (.bool false)) :
    Calls Try.prog 146 #[.agg #[.int .u8 2, .int .i64 (L : Int), .int .i64 (R : Int), .int .i64 fr, .int .i64 to, .int .i64 at_, .int .i64 it], .slice (some ⟨bK, oK, none⟩) nk Ck] w fun e w' => e = .returned (.bool true) ∧ Below w.heap.size w w' := by
  refine (callsIn_wide (n := 9)).1 ?_
  refine callsIn_of_wp_marks Try.func146 rfl trivial ?_ rfl
  simp only [Try.ntmps146, List.size_toArray, List.length_cons, List.length_nil, Nat.reduceAdd, Nat.reduceSub, Array.replicate_succ, Array.replicate_zero, List.push_toArray, List.append_toArray, List.nil_append, List.cons_append]
  gi_wp2_with (refine ⟨trivial, ?_⟩; gi_at_call 154; refine (callsIn_wide.2 (kids_call _ _)).mono ?_; rintro e w' ⟨rfl, rfl⟩)
  generalize hW0 : ((((w.alloc (Obj.cells #[Value.int .u8 2, Value.int .i64 (L : Int), Value.int .i64 (R : Int), Value.int .i64 fr, Value.int .i64 to, Value.int .i64 at_, Value.int .i64 it] 106)).alloc (Obj.cells #[Value.slice (some ⟨bK, oK, none⟩) nk Ck] 44)).alloc (Obj.cells #[Value.bool false] 4)).alloc (Obj.cells #[Value.int .i64 0] 3)) = W0
  have hz0 : W0.heap.size = w.heap.size + 1 + 1 + 1 + 1 := by rw [← hW0]; simp
  have hB0 : Below w.heap.size w W0 := by rw [← hW0]; exact ((((Below.refl _ _).alloc (Nat.le_refl _) _).alloc (by simp) _).alloc (by simp; omega) _).alloc (by simp; omega) _
  have c2 : W0.cell? ⟨w.heap.size, 0, none⟩ = some (.int .u8 2) := by rw [← hW0, World.cell?_alloc_past _ _ _ (by simp; omega), World.cell?_alloc_past _ _ _ (by simp; omega), World.cell?_alloc_past _ _ _ (by simp), World.cell?_alloc_at _ _ _ _ rfl]; rfl
  have c21 : W0.cell? ⟨w.heap.size, 1, none⟩ = some (.int .i64 (L : Int)) := by rw [← hW0, World.cell?_alloc_past _ _ _ (by simp; omega), World.cell?_alloc_past _ _ _ (by simp; omega), World.cell?_alloc_past _ _ _ (by simp), World.cell?_alloc_at _ _ _ _ rfl]; rfl
  have c22 : W0.cell? ⟨w.heap.size, 2, none⟩ = some (.int .i64 (R : Int)) := by rw [← hW0, World.cell?_alloc_past _ _ _ (by simp; omega), World.cell?_alloc_past _ _ _ (by simp; omega), World.cell?_alloc_past _ _ _ (by simp), World.cell?_alloc_at _ _ _ _ rfl]; rfl
  have c3 : W0.cell? ⟨w.heap.size + 1, 0, none⟩ = some (.slice (some ⟨bK, oK, none⟩) nk Ck) := by rw [← hW0, World.cell?_alloc_past _ _ _ (by simp), World.cell?_alloc_past _ _ _ (by simp), World.cell?_alloc_at _ _ _ _ (by simp)]; rfl
  have cL : W0.cell? ⟨bK, oK + L, none⟩ = some (.bool false) := by rw [← hW0, World.cell?_alloc_past _ _ _ (by first | exact hbK | (simp; omega)), World.cell?_alloc_past _ _ _ (by first | exact hbK | (simp; omega)), World.cell?_alloc_past _ _ _ (by first | exact hbK | (simp; omega)), World.cell?_alloc_past _ _ _ (by first | exact hbK | (simp; omega))]; exact hkL
  have cR : W0.cell? ⟨bK, oK + R, none⟩ = some (.bool false) := by rw [← hW0, World.cell?_alloc_past _ _ _ (by first | exact hbK | (simp; omega)), World.cell?_alloc_past _ _ _ (by first | exact hbK | (simp; omega)), World.cell?_alloc_past _ _ _ (by first | exact hbK | (simp; omega)), World.cell?_alloc_past _ _ _ (by first | exact hbK | (simp; omega))]; exact hkR
  have c4 : W0.cell? ⟨w.heap.size + 1 + 1, 0, none⟩ = some (.bool false) := by rw [← hW0, World.cell?_alloc_past _ _ _ (by simp), World.cell?_alloc_at _ _ _ _ (by simp)]; rfl
  have c5 : W0.cell? ⟨w.heap.size + 1 + 1 + 1, 0, none⟩ = some (.int .i64 0) := by rw [← hW0, World.cell?_alloc_at _ _ _ _ (by simp)]; rfl
  have f5 : W0.frozen? ⟨w.heap.size + 1 + 1 + 1, 0, none⟩ = false := by
    have h5 : W0.heap[w.heap.size + 1 + 1 + 1]? = some (.cells #[Value.int .i64 0] 3 (0, 0)) := by
      rw [← hW0]
      have := heap_alloc_new (((w.alloc (Obj.cells #[Value.int .u8 2, Value.int .i64 (L : Int), Value.int .i64 (R : Int), Value.int .i64 fr, Value.int .i64 to, Value.int .i64 at_, Value.int .i64 it] 106)).alloc (Obj.cells #[Value.slice (some ⟨bK, oK, none⟩) nk Ck] 44)).alloc (Obj.cells #[Value.bool false] 4)) (Obj.cells #[Value.int .i64 0] 3)
      simpa using this
    exact frozen_of_row W0 _ 0 _ _ h5
  have f4 : W0.frozen? ⟨w.heap.size + 1 + 1, 0, none⟩ = false := by
    have h4 : W0.heap[w.heap.size + 1 + 1]? = some (.cells #[Value.bool false] 4 (0, 0)) := by
      rw [← hW0]
      have := heap_alloc_new ((w.alloc (Obj.cells #[Value.int .u8 2, Value.int .i64 (L : Int), Value.int .i64 (R : Int), Value.int .i64 fr, Value.int .i64 to, Value.int .i64 at_, Value.int .i64 it] 106)).alloc (Obj.cells #[Value.slice (some ⟨bK, oK, none⟩) nk Ck] 44)) (Obj.cells #[Value.bool false] 4)
      rw [Below.heap_alloc _ _ _ (by simp)]
      simpa using this
    exact frozen_of_row W0 _ 0 _ _ h4
  have hu0 : Upd [] W0 (W0.alloc (Obj.cells #[Value.int .u8 2, Value.int .i64 (L : Int), Value.int .i64 (R : Int), Value.int .i64 fr, Value.int .i64 to, Value.int .i64 at_, Value.int .i64 it] 106)) := (Upd.refl _ _).alloc _
  clear hW0
  refine wpIn_rangeFunc_ownG rfl (by omega) (gf := 164) (lb := #[.pointer (some ⟨w.heap.size + 1 + 1 + 1 + 1, 0, none⟩)]) rfl trivial (enters_of Try.func164 (by kernel_rfl) rfl)
    (kids_both Fence.wide 8 trivial rfl (by omega) (w.heap.size + 1 + 1 + 1 + 1) L R _ (by simp; omega) (by rw [World.cell?_alloc_at _ _ _ _ hz0.symm]; rfl) (by rw [World.cell?_alloc_at _ _ _ _ hz0.symm]; rfl)) kidsK_t (kidsK_b (by simp; omega)) (Below.refl _ _) (fun _ => rfl)
    (fun (pre : List Bool) W => MayI w.heap.size bK oK nk Ck L R pre.length W ∧ Below w.heap.size w W)
    (fun _ _ _ => False)
    (OwnFrom.and (Own.from (mayI_own _ _ _ _ _ _ _) _) (ownFrom_below (Nat.le_refl _) (by simp; omega)))
    (fun _ _ _ _ _ hs _ _ => hs)
    ⟨⟨(hu0.cell (p := ⟨w.heap.size, 0, none⟩) (show w.heap.size < _ by omega) (by simp)).trans c2, (hu0.cell (p := ⟨w.heap.size + 1 + 1, 0, none⟩) (show w.heap.size + 1 + 1 < _ by omega) (by simp)).trans c4, (hu0.frozen (p := ⟨w.heap.size + 1 + 1, 0, none⟩) (show w.heap.size + 1 + 1 < _ by omega) (by simp)).trans f4, (hu0.cell (p := ⟨w.heap.size + 1 + 1 + 1, 0, none⟩) (show w.heap.size + 1 + 1 + 1 < _ by omega) (by simp)).trans c5, (hu0.frozen (p := ⟨w.heap.size + 1 + 1 + 1, 0, none⟩) (show w.heap.size + 1 + 1 + 1 < _ by omega) (by simp)).trans f5, (hu0.cell (p := ⟨bK, oK + L, none⟩) (show bK < _ by omega) (by simp)).trans cL, (hu0.cell (p := ⟨bK, oK + R, none⟩) (show bK < _ by omega) (by simp)).trans cR, (hu0.cell (p := ⟨w.heap.size, 1, none⟩) (show w.heap.size < _ by omega) (by simp)).trans c21, (hu0.cell (p := ⟨w.heap.size, 2, none⟩) (show w.heap.size < _ by omega) (by simp)).trans c22, (hu0.cell (p := ⟨w.heap.size + 1, 0, none⟩) (show w.heap.size + 1 < _ by omega) (by simp)).trans c3⟩, hB0.alloc (by omega) _⟩
    (fun x : Bool => { tmps := #[.agg #[.int .u8 2, .int .i64 (L : Int), .int .i64 (R : Int), .int .i64 fr, .int .i64 to, .int .i64 at_, .int .i64 it], .slice (some ⟨bK, oK, none⟩) nk Ck, .pointer (some ⟨w.heap.size, 0, none⟩), .pointer (some ⟨w.heap.size + 1, 0, none⟩), .pointer (some ⟨w.heap.size + 1 + 1, 0, none⟩), .pointer (some ⟨w.heap.size + 1 + 1 + 1, 0, none⟩), .int .i64 ((cond x R L : Nat) : Int), .agg #[.int .u8 2, .int .i64 (L : Int), .int .i64 (R : Int), .int .i64 fr, .int .i64 to, .int .i64 at_, .int .i64 it], .func (.func 164) #[] #[.pointer (some ⟨w.heap.size + 1 + 1 + 1 + 1, 0, none⟩)], .int .i64 ((cond x R L : Nat) : Int), undef, undef, undef, undef, undef, undef, undef, undef, undef, undef, undef, undef, undef, undef, undef, undef, undef, undef, undef, undef, undef, undef, undef, undef, undef, undef, undef, undef, undef, undef, undef, undef, undef], defers := [] }) ?assign ?body ?done ?stop
  case assign =>
    intro l x W K hK
    gi_wp2
    exact hK
  case body =>
    rintro l pre x W ⟨hI, hB⟩ hl
    obtain ⟨k, hkk, hk, e3⟩ : ∃ k : Nat, cond x R L = k ∧ k < nk ∧ W.cell? ⟨bK, oK + k, none⟩ = some (.bool false) := by
      cases x
      · exact ⟨L, rfl, hLn, hI.2.2.2.2.2.1⟩
      · exact ⟨R, rfl, hRn, hI.2.2.2.2.2.2.1⟩
    dsimp only
    rw [hkk]
    have hp : pre.length < 3 := by omega
    obtain ⟨d2, d4, g4, d5, g5, dL, dR, d21, d22, d3⟩ := hI
    generalize hm : pre.length = m at *
    have b1 : ((k : Int) < 0) = False := by simp
    gi_wp2
    have hr := World.cell?_setCell_same' W ⟨w.heap.size + 1 + 1 + 1, 0, none⟩ (.int .i64 ((m : Int) + 1)) (by rw [d5]; rfl)
    have ho : ∀ p : Addr, p ≠ ⟨w.heap.size + 1 + 1 + 1, 0, none⟩ → (W.setCell ⟨w.heap.size + 1 + 1 + 1, 0, none⟩ (.int .i64 ((m : Int) + 1))).cell? p = W.cell? p := fun p hp => World.cell?_setCell_other _ _ _ _ (Ne.symm hp)
    refine ⟨(KeepsOthers.setCell _ _ _).from _, ho _ (by simp), ⟨(ho _ (by simp)).trans d2, (ho _ (by simp)).trans d4, (World.frozen?_setCell _ _ _ _).trans g4, ?_, (World.frozen?_setCell _ _ _ _).trans g5, (ho _ (fun h => by injection h with h _ _; omega)).trans dL, (ho _ (fun h => by injection h with h _ _; omega)).trans dR, (ho _ (by simp)).trans d21, (ho _ (by simp)).trans d22, (ho _ (by simp)).trans d3⟩, hB.setCell (p := ⟨w.heap.size + 1 + 1 + 1, 0, none⟩) (by show w.heap.size ≤ w.heap.size + 1 + 1 + 1; omega) _⟩
    rw [hr, List.length_append, hm]; rfl
  case done =>
    rintro D ys W hD rfl ⟨⟨d2, d4, g4, d5, g5, dL, dR, d21, d22, d3⟩, hB⟩ hK
    have hb : ((L : Int) != (R : Int)) = true := by rw [bne_iff_ne]; omega
    gi_wp2
    have hK2 := (KeepsOthers.setCell W ⟨w.heap.size + 1 + 1, 0, none⟩ (.bool true)).same D _ hK rfl
    refine ⟨by simp, .inl ⟨_, _, rfl, run_takeDeferred hK2, ?_⟩⟩
    have hr := World.cell?_setCell_same' W ⟨w.heap.size + 1 + 1, 0, none⟩ (.bool true) (by rw [d4]; rfl)
    have hr2 : ((W.setCell ⟨w.heap.size + 1 + 1, 0, none⟩ (.bool true)).putObj D (Obj.deferred none)).cell? ⟨w.heap.size + 1 + 1, 0, none⟩ = some (.bool true) := cell_kept hr (grownBy_putObj' _ D (.deferred none)) (fun r e => by cases e; exact ⟨_, hK2, rfl⟩)
    refine ⟨.bool true, ?_, rfl, ?_⟩
    · simp [results, Try.results146, go_sem, hr2]
    · exact (hB.setCell (p := ⟨w.heap.size + 1 + 1, 0, none⟩) (by show w.heap.size ≤ w.heap.size + 1 + 1; omega) _).trans (belowK_b (w := w) (Nat.le_refl _) _ D _ _ (by simp at hD; omega) hK2 rfl rfl)
  case stop =>
    rintro D c pre W _ hf
    exact fun h => h.elim
end Go.Proofs.Ythkiljfjjnckaaa
