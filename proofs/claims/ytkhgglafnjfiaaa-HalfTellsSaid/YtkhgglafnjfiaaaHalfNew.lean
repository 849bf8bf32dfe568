/- half.New. -/
import Derived.Test.YtkhgglafnjfiaaaHalfN
namespace Go.Proofs.Ytkhgglafnjfiaaa
open Go.RowKit

def S00 : HS := { cs := [], al := [], lv := [], tr := [], mp := [], wk := 0 }

theorem inv00 : HInv S00 where
  nums := by simp [S00]
  lt := by simp [S00]
  lvl := rfl
  mpp := by simp [S00, liv]
  keys := by simp [S00]
  trees := by
    intro i hi
    have : bitsN ([] : List (Int × Nat)).length = 0 := by decide
    rw [show S00.cs = [] from rfl, this] at hi
    omega
  levs := by
    intro i hi
    have : bitsN ([] : List (Int × Nat)).length = 0 := by decide
    rw [show S00.cs = [] from rfl, this] at hi
    omega
  trl := by simp [S00]

theorem half_made {w w1 : World} {cb : Nat} {Fc : List Nat} (h1 : IsCarry Cel.KI w1 cb Fc [] 0 0) (hu : Upd [] w w1) (hF : ∀ x ∈ Fc, w.heap.size ≤ x) :
    ∃ F, IsHalf ((w1.alloc (.map #[] 0)).alloc (.cells #[fnBuild, fnDrop, .pointer (some ⟨cb, 0, none⟩), .slice none 0 0, .slice none 0 0, .slice none 0 0, .map (some w1.heap.size)] 83)) (.pointer (some ⟨w1.heap.size + 1, 0, none⟩)) F S00 ∧
      Upd [] w ((w1.alloc (.map #[] 0)).alloc (.cells #[fnBuild, fnDrop, .pointer (some ⟨cb, 0, none⟩), .slice none 0 0, .slice none 0 0, .slice none 0 0, .map (some w1.heap.size)] 83)) ∧ ∀ x ∈ F, w.heap.size ≤ x := by
  have hcl := h1.lt
  have hu2 : Upd [] w1 ((w1.alloc (.map #[] 0)).alloc (.cells #[fnBuild, fnDrop, .pointer (some ⟨cb, 0, none⟩), .slice none 0 0, .slice none 0 0, .slice none 0 0, .map (some w1.heap.size)] 83)) := ((Upd.refl _ _).alloc _).alloc _
  refine ⟨_, ⟨w1.heap.size + 1, cb, w1.heap.size, .slice none 0 0, .slice none 0 0, .slice none 0 0, [], Fc, [], rfl, ?_, rfl⟩, hu.trans hu2, ?_⟩
  · refine ⟨?_, ?_, World.ownsRow_nil _ _ _ _, World.ownsRow_nil _ _ _ _, World.ownsRow_nil _ _ _ _, ?_, rfl, rfl, by simp, by simp [S00], by simp [S00], ?_⟩
    · have := heap_alloc_new (w1.alloc (.map #[] 0)) (.cells #[fnBuild, fnDrop, .pointer (some ⟨cb, 0, none⟩), .slice none 0 0, .slice none 0 0, .slice none 0 0, .map (some w1.heap.size)] 83)
      simpa using this
    · have := h1.upd hu2 (by simp)
      exact this
    · exact (MapAt.made w1).upd ((Upd.refl [] _).alloc _) (by simp)
    · simp only [parts, blk, List.pairwise_cons, List.mem_cons, List.not_mem_nil, or_false, List.Pairwise.nil, and_true]
      refine ⟨?_, ?_, ?_, ?_, ?_, by simp⟩
      · rintro P (rfl | rfl | rfl | rfl | rfl) x hx hc
        · simp at hx; subst hx; have := hcl _ hc; omega
        · simp at hc
        · simp at hc
        · simp at hc
        · simp at hx hc; omega
      · rintro P (rfl | rfl | rfl | rfl) x hx hc
        · simp at hc
        · simp at hc
        · simp at hc
        · simp at hc; have := hcl _ hx; omega
      · intro P _ x hx; simp at hx
      · intro P _ x hx; simp at hx
      · intro P _ x hx; simp at hx
  · intro x hx
    have hs := hu.size
    simp [parts, blk] at hx
    rcases hx with rfl | hx | rfl
    · omega
    · exact hF x hx
    · omega

set_option maxRecDepth 100000 in
set_option maxHeartbeats 400000 in
theorem new22 (w : World) :
    Calls Try.prog 36 #[fnBuild, fnDrop] w fun e w' => ∃ b F, e = .returned (.pointer (some ⟨b, 0, none⟩)) ∧ IsHalf w' (.pointer (some ⟨b, 0, none⟩)) F S00 ∧ Upd [] w w' ∧ ∀ x ∈ F, w.heap.size ≤ x := by
  unfold fnBuild fnDrop
  have hmm := @run_makeMap Try.prog
  have e1 : ∀ w, (binOp .eql 59 (.func (.func 37) #[] #[]) .nilFunc).run Try.prog w = .ok (.bool false) w := fun w => rfl
  have e2 : ∀ w, (binOp .eql 60 (.func (.func 38) #[] #[]) .nilFunc).run Try.prog w = .ok (.bool false) w := fun w => rfl
  go_enter Try.func36, Try.ntmps36
  go_wp2_with fail
  refine (Cel.newI w).mono ?_
  rintro e w1 ⟨cb, rfl, hc, hb, hu⟩
  have hm := half_made hc hu (by simp; exact hb)
  obtain ⟨F, hF1, hF2, hF3⟩ := hm
  have HF1 := Lib.hid hF1
  have HF2 := Lib.hid hF2
  have HF3 := Lib.hid hF3
  clear hF1 hF2 hF3 hc hu
  go_wp2_with fail
  go_ret
  exact ⟨_, F, rfl, HF1.out, HF2.out, HF3.out⟩
end Go.Proofs.Ytkhgglafnjfiaaa
