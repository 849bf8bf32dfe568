/- seg, of no tree: Stab. A seg tree and what it tells: Len, Stab, Count, Drop, Weight. -/
import Derived.Test.YtjpjlfcjkgmhdaaGreatSegT
import Derived.Test.YtjpjlfcjkgmhdaaGreatSegB
namespace Go.Proofs.YtjpjlfcjkgmhdaaGreat
open Go.RowKit

set_option maxRecDepth 100000 in
set_option maxHeartbeats 2000000 in
theorem segStabNil (x : Int) (w : World) : Calls Tryz.prog 9 #[.pointer none, .int .i64 x] w (StabPost w [] 0) := by
  have HP := Lib.hid (segPathNil x w)
  go_enter Tryz.func9, Tryz.ntmps9
  go_wp2_with fail
  (with_reducible refine HP.out.mono ?_)
  rintro e w1 ⟨A, C, rfl, r1, r2⟩
  have HR := Lib.hid r2
  have HSO := Lib.hid (sortU w1.heap.size (.slice none 0 0) [] w1 (World.ownsRow_nil _ _ _ _) (by simp))
  clear r1 r2
  go_wp2_with fail
  go_loopg [8, 21] 0 (fun m s8 s21 wr => m = 0 ∧ s8 = .slice none 0 0 ∧ s21 = .int .i64 0 ∧ wr = w1)
  case atStart => exact ⟨rfl, rfl, rfl, rfl⟩
  case round =>
    obtain ⟨-, rfl, rfl, rfl⟩ := hrel
    go_wp2_with fail
    (with_reducible refine HSO.out.mono ?_)
    rintro e w3 ⟨rfl, t1, t2⟩
    have HT := Lib.hid t2
    clear t1 t2
    go_wp2_with fail
    go_ret2
    exact ⟨none, 0, rfl, World.ownsRow_nil _ _ _ _, HR.out.trans HT.out⟩

end Go.Proofs.YtjpjlfcjkgmhdaaGreat

namespace Go.Proofs.YtjpjlfcjkgmhdaaGreat
open Go.RowKit
attribute [local go_sem ↓] Go.wp_at_zero Go.wp_at_succ

theorem IsSeg.upd {w w' : World} {b : Nat} {F : List Nat} {E : List Int} {S : List Sp} (h : IsSeg w b F E S) {G : List Nat} (hu : Upd G w w') (hd : ∀ k ∈ F, k ∉ G) : IsSeg w' b F E S := by
  obtain ⟨fb, ve, vn, va, vs, h1, h2⟩ := h.at_
  exact ⟨⟨fb, ve, vn, va, vs, h1.upd hu (hd _ (h2 _ (.inl rfl))) (hd _ (h2 _ (.inr (.inl rfl)))) (fun y hy => hd _ (h2 _ (.inr (.inr (.inl hy))))) (fun y hy => hd _ (h2 _ (.inr (.inr (.inr (.inl hy)))))) (fun y hy => hd _ (h2 _ (.inr (.inr (.inr (.inr hy)))))), h2⟩, h.rise, h.len, h.ok, h.names, h.many, fun k hk => Nat.lt_of_lt_of_le (h.flt k hk) hu.size⟩
theorem IsSeg.upd0 {w w' : World} {b : Nat} {F : List Nat} {E : List Int} {S : List Sp} (h : IsSeg w b F E S) (hu : Upd [] w w') : IsSeg w' b F E S := h.upd hu (by simp)

theorem flatMap_congrS {α β : Type} {f g : α → List β} : ∀ {l : List α}, (∀ a ∈ l, f a = g a) → l.flatMap f = l.flatMap g
  | [], _ => rfl
  | a :: l, h => by rw [List.flatMap_cons, List.flatMap_cons, h a (by simp), flatMap_congrS fun b hb => h b (List.mem_cons_of_mem _ hb)]

theorem ids_perm {E : List Int} {S : List Sp} (hE : E.Pairwise (· < ·)) (hS : ∀ s ∈ S, SpOk E s) (x : Int) : (idsS (atS E S) (pathV E x)).Perm ((S.filter fun s => stabBM s.lo s.hi x).map Sp.id) := by
  unfold idsS pathV
  by_cases hb : betwS E x = true
  · rw [if_pos hb]
    obtain ⟨a, z, h1, h2, h3⟩ := betwS_true hb
    have hp := (stab_perm hE h1 h2 h3 hS).map Sp.id
    refine List.Perm.trans (List.Perm.of_eq ?_) hp
    rw [List.map_flatMap]
    have hlt := pathL_range (nSl E) (slotX E x) 0 (nSl E) 0 (by omega) (by have := (slot_facts hE h1 h2 h3).1; omega)
    have : ∀ k ∈ pathS E x, ((atS E S)[k]?.getD []).map Sp.id = (S.filter fun s => decide (k ∈ nodesS E s)).map Sp.id := fun k hk => by
      rw [atS_at (by have := hlt k hk; omega)]
      rfl
    exact flatMap_congrS this
  · rw [if_neg hb, stab_out hE hS (betwS_false hb)]
    simp

theorem ids_sort {E : List Int} {S : List Sp} (hE : E.Pairwise (· < ·)) (hS : ∀ s ∈ S, SpOk E s) (x : Int) : sortN (idsS (atS E S) (pathV E x)) = stabL S x := sortN_congr (ids_perm hE hS x)
theorem ids_count {E : List Int} {S : List Sp} (hE : E.Pairwise (· < ·)) (hS : ∀ s ∈ S, SpOk E s) (x : Int) : cntS (atS E S) (pathV E x) = (stabL S x).length := by
  rw [← idsS_len, ← ids_sort hE hS, sortN_len]

theorem touchV_small {E : List Int} (hE : E.Pairwise (· < ·)) (hEl : E.length < 100000) (x : Int) : touchV E x < 1000000 := by
  unfold touchV
  split
  · rename_i hb
    have h1 := pathV_len hE hEl x
    unfold pathV at h1
    rw [if_pos hb] at h1
    have h2 := lookN_le E.length 0 E.length (below E x) (by omega)
    have h3 : bitsN (E.length - 0) ≤ 62 := bitsN_le _ 62 (by omega)
    unfold touchS
    omega
  · omega

theorem isStab {w : World} {b : Nat} {F : List Nat} {E : List Int} {S : List Sp} (h : IsSeg w b F E S) (x : Int) :
    Calls Tryz.prog 9 #[.pointer (some ⟨b, 0, none⟩), .int .i64 x] w (StabPost w (stabL S x) (touchV E x + (stabL S x).length)) := by
  obtain ⟨fb, ve, vn, va, vs, h1, -⟩ := h.at_
  have hl := h.len
  have h2 := segStab h1 x h.rise (by omega) (atS_len E S) (by rw [ids_count h.rise h.ok]; have := stabL_len S x; have := h.many; omega) (by have := touchV_small h.rise (by omega) x; omega)
  rw [ids_sort h.rise h.ok, ids_count h.rise h.ok] at h2
  exact h2

end Go.Proofs.YtjpjlfcjkgmhdaaGreat
