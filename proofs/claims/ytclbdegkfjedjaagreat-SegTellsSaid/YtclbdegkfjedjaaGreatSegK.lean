/- seg, of no tree: Stab. A seg tree and what it tells: Len, Stab, Count, Drop, Weight. -/
import Derived.Test.YtclbdegkfjedjaaGreatSegT
import Derived.Test.YtclbdegkfjedjaaGreatSegH
namespace Go.Proofs.YtclbdegkfjedjaaGreat
open Go.RowKit

set_option maxRecDepth 100000 in
set_option maxHeartbeats 2000000 in
theorem segStabNil (x : Int) (w : World) : Calls Tryz.prog 13 #[.pointer none, .int .i64 x] w (StabPost w [] 0) := by
  have HP := Lib.hid (segPathNil x w)
  go_enter Tryz.func13, Tryz.ntmps13
  go_wp2_with fail
  (with_reducible refine HP.out.mono ?_)
  rintro e w1 ⟨A, C, rfl, r1, r2⟩
  have HR := Lib.hid r2
  have HSO := Lib.hid (sortU w1.heap.size (.slice none 0 0) [] w1 (World.ownsRow_nil _ _ _ _) (by simp))
  clear r1 r2
  go_wp2_with fail
  go_loopg [8, 21] 0 (fun m s8 s21 wr => m = 0 ∧ s8 = .slice none 0 0 ∧ s21 = .int .i64 0 ∧ wr = w1)
  case atStart => exact ⟨rfl, rfl, rfl, rfl⟩
  case round =>
    obtain ⟨-, rfl, rfl, rfl⟩ := hrel
    go_wp2_with fail
    (with_reducible refine HSO.out.mono ?_)
    rintro e w3 ⟨rfl, t1, t2⟩
    have HT := Lib.hid t2
    clear t1 t2
    go_wp2_with fail
    go_ret2
    exact ⟨none, 0, rfl, World.ownsRow_nil _ _ _ _, HR.out.trans HT.out⟩

set_option maxRecDepth 100000 in
set_option maxHeartbeats 400000 in
theorem segWeightNil (w : World) : Calls Tryz.prog 16 #[.pointer none] w fun e w' => e = .returned (.int .i64 0) ∧ w = w' := by
  have HN := Lib.hid (segNoneNil w)
  go_enter Tryz.func16, Tryz.ntmps16
  go_wp2_with fail
  (with_reducible refine HN.out.mono ?_)
  rintro e w' ⟨rfl, rfl⟩
  go_wp2_with fail
  go_ret
  exact ⟨rfl, rfl⟩
end Go.Proofs.YtclbdegkfjedjaaGreat

namespace Go.Proofs.YtclbdegkfjedjaaGreat
open Go.RowKit
attribute [local go_sem ↓] Go.wp_at_zero Go.wp_at_succ

theorem IsSeg.upd {w w' : World} {b : Nat} {F : List Nat} {E : List Int} {S : List Sp} (h : IsSeg w b F E S) {G : List Nat} (hu : Upd G w w') (hd : ∀ k ∈ F, k ∉ G) : IsSeg w' b F E S := by
  obtain ⟨fb, ve, vn, va, vs, h1, h2⟩ := h.at_
  exact ⟨⟨fb, ve, vn, va, vs, h1.upd hu (hd _ (h2 _ (.inl rfl))) (hd _ (h2 _ (.inr (.inl rfl)))) (fun y hy => hd _ (h2 _ (.inr (.inr (.inl hy))))) (fun y hy => hd _ (h2 _ (.inr (.inr (.inr (.inl hy)))))) (fun y hy => hd _ (h2 _ (.inr (.inr (.inr (.inr hy)))))), h2⟩, h.rise, h.len, h.ok, h.names, h.many, fun k hk => Nat.lt_of_lt_of_le (h.flt k hk) hu.size⟩
theorem IsSeg.upd0 {w w' : World} {b : Nat} {F : List Nat} {E : List Int} {S : List Sp} (h : IsSeg w b F E S) (hu : Upd [] w w') : IsSeg w' b F E S := h.upd hu (by simp)

theorem sortN_congr {l m : List Nat} (h : l.Perm m) : sortN l = sortN m := sortN_eq ((sortN_perm l).trans h) (sortN_le l)

/-- The names of the spans that a number stabs, rising. -/
def stabL (S : List Sp) (x : Int) : List Nat := sortN ((S.filter fun s => stabBM s.lo s.hi x).map Sp.id)

theorem stabL_len (S : List Sp) (x : Int) : (stabL S x).length ≤ S.length := by
  unfold stabL
  rw [sortN_len, List.length_map]
  exact List.length_filter_le _ _

theorem flatMap_congrS {α β : Type} {f g : α → List β} : ∀ {l : List α}, (∀ a ∈ l, f a = g a) → l.flatMap f = l.flatMap g
  | [], _ => rfl
  | a :: l, h => by rw [List.flatMap_cons, List.flatMap_cons, h a (by simp), flatMap_congrS fun b hb => h b (List.mem_cons_of_mem _ hb)]

theorem ids_perm {E : List Int} {S : List Sp} (hE : E.Pairwise (· < ·)) (hS : ∀ s ∈ S, SpOk E s) (x : Int) : (idsS (atS E S) (pathV E x)).Perm ((S.filter fun s => stabBM s.lo s.hi x).map Sp.id) := by
  unfold idsS pathV
  by_cases hb : betwS E x = true
  · rw [if_pos hb]
    obtain ⟨a, z, h1, h2, h3⟩ := betwS_true hb
    have hp := (stab_perm hE h1 h2 h3 hS).map Sp.id
    refine List.Perm.trans (List.Perm.of_eq ?_) hp
    rw [List.map_flatMap]
    have hlt := pathL_range (nSl E) (slotX E x) 0 (nSl E) 0 (by omega) (by have := (slot_facts hE h1 h2 h3).1; omega)
    have : ∀ k ∈ pathS E x, ((atS E S)[k]?.getD []).map Sp.id = (S.filter fun s => decide (k ∈ nodesS E s)).map Sp.id := fun k hk => by
      rw [atS_at (by have := hlt k hk; omega)]
      rfl
    exact flatMap_congrS this
  · rw [if_neg hb, stab_out hE hS (betwS_false hb)]
    simp

theorem ids_sort {E : List Int} {S : List Sp} (hE : E.Pairwise (· < ·)) (hS : ∀ s ∈ S, SpOk E s) (x : Int) : sortN (idsS (atS E S) (pathV E x)) = stabL S x := sortN_congr (ids_perm hE hS x)
theorem ids_count {E : List Int} {S : List Sp} (hE : E.Pairwise (· < ·)) (hS : ∀ s ∈ S, SpOk E s) (x : Int) : cntS (atS E S) (pathV E x) = (stabL S x).length := by
  rw [← idsS_len, ← ids_sort hE hS, sortN_len]

theorem touchV_small {E : List Int} (hE : E.Pairwise (· < ·)) (hEl : E.length < 100000) (x : Int) : touchV E x < 1000000 := by
  unfold touchV
  split
  · rename_i hb
    have h1 := pathV_len hE hEl x
    unfold pathV at h1
    rw [if_pos hb] at h1
    have h2 := lookN_le E.length 0 E.length (below E x) (by omega)
    have h3 : bitsN (E.length - 0) ≤ 62 := bitsN_le _ 62 (by omega)
    unfold touchS
    omega
  · omega

theorem isLen {w : World} {b : Nat} {F : List Nat} {E : List Int} {S : List Sp} (h : IsSeg w b F E S) :
    Calls Tryz.prog 12 #[.pointer (some ⟨b, 0, none⟩)] w fun e w' => e = .returned (.int .i64 (S.length : Int)) ∧ w = w' := by
  obtain ⟨fb, ve, vn, va, vs, h1, -⟩ := h.at_
  exact segLen h1

theorem isStab {w : World} {b : Nat} {F : List Nat} {E : List Int} {S : List Sp} (h : IsSeg w b F E S) (x : Int) :
    Calls Tryz.prog 13 #[.pointer (some ⟨b, 0, none⟩), .int .i64 x] w (StabPost w (stabL S x) (touchV E x + (stabL S x).length)) := by
  obtain ⟨fb, ve, vn, va, vs, h1, -⟩ := h.at_
  have hl := h.len
  have h2 := segStab h1 x h.rise (by omega) (atS_len E S) (by rw [ids_count h.rise h.ok]; have := stabL_len S x; have := h.many; omega) (by have := touchV_small h.rise (by omega) x; omega)
  rw [ids_sort h.rise h.ok, ids_count h.rise h.ok] at h2
  exact h2

theorem isCount {w : World} {b : Nat} {F : List Nat} {E : List Int} {S : List Sp} (h : IsSeg w b F E S) (x : Int) :
    Calls Tryz.prog 20 #[.pointer (some ⟨b, 0, none⟩), .int .i64 x] w fun e w' => e = .returned (.tuple #[.int .i64 ((stabL S x).length : Int), .int .i64 (touchV E x : Nat)]) ∧ Upd [] w w' := by
  obtain ⟨fb, ve, vn, va, vs, h1, -⟩ := h.at_
  have hl := h.len
  have h2 := segCount h1 x h.rise (by omega) (atS_len E S) (fun l hl' => by
    unfold atS at hl'
    obtain ⟨k, -, rfl⟩ := List.mem_map.1 hl'
    exact Nat.le_trans (List.length_filter_le _ _) h.many)
  rw [ids_count h.rise h.ok] at h2
  exact h2

/-- What Drop leaves. -/
def IsDrop (w : World) (b : Nat) (F : List Nat) (E : List Int) (S : List Sp) (x : Sp) (e : Ending) (w' : World) : Prop :=
  e = .returned (.bool (decide (x ∈ S))) ∧ IsSeg w' b F E (without S x) ∧ Upd F w w'

theorem isDrop {w : World} {b : Nat} {F : List Nat} {E : List Int} {S : List Sp} (h : IsSeg w b F E S) (x : Sp) :
    Calls Tryz.prog 11 #[.pointer (some ⟨b, 0, none⟩), spV x] w (IsDrop w b F E S x) := by
  obtain ⟨fb, ve, vn, va, vs, h1, h2⟩ := h.at_
  have hl := h.len
  have hm := h.many
  have hno : x ∉ S → ∀ e w', e = Ending.returned (.bool false) ∧ Upd [] w w' → IsDrop w b F E S x e w' := fun hx e w' hh =>
    ⟨by rw [decide_eq_false hx]; exact hh.1, by rw [without_not hx]; exact h.upd0 hh.2, hh.2.mono (by simp)⟩
  by_cases hx : x ∈ S
  · refine (segDropYes h1 x (by omega) h.rise (spInS_ok h.rise (h.ok x hx)) hx (nodup_of_names h.names) (h.ok x hx) hm (Int.natCast_nonneg _) (by omega)).mono ?_
    rintro e w' ⟨rfl, ⟨vs', g1, g2⟩, g3⟩
    have hwl := without_len (nodup_of_names h.names) hx
    refine ⟨by rw [decide_eq_true hx], ⟨⟨fb, ve, vn, va, vs', ?_, fun k hk => ?_⟩, h.rise, hl, fun s hs => h.ok s (List.mem_filter.1 hs).1, ?_, by omega, fun k hk => Nat.lt_of_lt_of_le (h.flt k hk) g3.size⟩, g3.mono (fun y hy => .inl ?_)⟩
    · have e : ((without S x).length : Int) = (S.length : Int) - 1 := by omega
      rw [e]; exact g1
    · rcases hk with hk | hk | hk | hk | hk
      · exact h2 k (.inl hk)
      · exact h2 k (.inr (.inl hk))
      · exact h2 k (.inr (.inr (.inl hk)))
      · exact h2 k (.inr (.inr (.inr (.inl hk))))
      · exact h2 k (.inr (.inr (.inr (.inr (g2 k hk)))))
    · exact List.Nodup.sublist (List.Sublist.map _ List.filter_sublist) h.names
    · rcases List.mem_cons.1 hy with hy | hy
      · exact h2 y (.inl hy)
      · exact h2 y (.inr (.inr (.inr (.inr hy))))
  · by_cases hin : spInS E x = true
    · exact (segDropNo h1 x (by omega) h.rise hin hx hm).mono fun e w' hh => hno hx e w' hh
    · by_cases hne : E.length = 0
      · exact (segDropNone h1 x hne).mono fun e w' hh => hno hx e w' hh
      · exact (segDropOut h1 x (by omega) hin hne).mono fun e w' hh => hno hx e w' hh

/-- At how many nodes the spans stand. -/
def weightS (E : List Int) (S : List Sp) : Nat := ((atS E S).map List.length).sum

set_option maxRecDepth 100000 in
set_option maxHeartbeats 4000000 in
theorem segWeight {w : World} {b fb : Nat} {ve vn va : Value} {vs : List Value} {E : List Int} {R : List (List Sp)} {c : Int} (h : SegAt w b fb ve vn va vs E R c) (hR : R.length ≤ 1000000) (hM : ∀ l ∈ R, l.length ≤ 1000) :
    Calls Tryz.prog 16 #[.pointer (some ⟨b, 0, none⟩)] w fun e w' => e = .returned (.int .i64 (((R.map List.length).sum : Nat) : Int)) ∧ w = w' := by
  obtain ⟨Aa, Ca, rfl⟩ := own_form h.rows.list
  have HN := Lib.hid (segNone h)
  have c2 := h.cells.2.2.1
  have hl := h.rows.len
  obtain ⟨N, hN⟩ : ∃ N, R.length = N := ⟨_, rfl⟩
  rw [hl, hN] at c2
  have H := Lib.hid h
  have HL := Lib.hid (And.intro hN (And.intro hl hM))
  rw [hN] at hR
  have n0 : (0 : Int) ≤ (N : Int) := Int.natCast_nonneg _
  clear h hl hN hM
  go_enter Tryz.func16, Tryz.ntmps16
  go_wp2_with fail
  (with_reducible refine HN.out.mono ?_)
  rintro e w' ⟨rfl, rfl⟩
  go_wp2_with fail
  go_loopg [3, 14] N (fun m s3 s14 wr => ∃ k n : Nat, m + k = N ∧ n = ((R.take k).map List.length).sum ∧ n ≤ k * 1000 ∧ s3 = .int .i64 (n : Int) ∧ s14 = .int .i64 (k : Int) ∧ wr = w)
  case atStart => exact ⟨0, 0, rfl, rfl, by omega, rfl, rfl, rfl⟩
  case round =>
    obtain ⟨k, n, hk, hn, hnb, rfl, rfl, rfl⟩ := hrel
    have k0 : (0 : Int) ≤ (k : Int) := Int.natCast_nonneg _
    have m0 : (0 : Int) ≤ (n : Int) := Int.natCast_nonneg _
    have HK := Lib.hid (And.intro hk hn)
    have hkN : k ≤ N := by omega
    clear hk hn
    by_cases hlt : k < N
    · have hkl : k < R.length := by rw [HL.out.1]; exact hlt
      obtain ⟨ga, Ak, Ck, rfl, -, rc, -, -⟩ := H.out.rows.at hkl
      have hRb : (R[k]).length ≤ 1000 := HL.out.2.2 _ (List.getElem_mem hkl)
      have hsum : ((R.take (k + 1)).map List.length).sum = ((R.take k).map List.length).sum + (R[k]).length := by rw [List.take_succ_eq_append_getElem hkl, List.map_append, List.sum_append, List.map_singleton, List.sum_singleton]
      obtain ⟨rl, hrl⟩ : ∃ l, (R[k]).length = l := ⟨_, rfl⟩
      rw [hrl] at rc hRb hsum
      have b1 : (k : Int) < (N : Int) := by omega
      have rl0 : (0 : Int) ≤ (rl : Int) := Int.natCast_nonneg _
      have HS := Lib.hid hsum
      have hn2 : n ≤ 1000000000 := by omega
      clear hsum hrl hkl
      go_wp2_with fail
      go_roundg (N - (k + 1))
      case measure => have := HK.out.1; omega
      case rel => exact ⟨k + 1, n + rl, by have := HK.out.1; omega, by rw [HS.out, ← HK.out.2], by omega, by go_num, by go_num, rfl⟩
    · have hkN2 : k = N := by omega
      have hfin : ((R.map List.length).sum : Nat) = n := by rw [HK.out.2, hkN2, ← HL.out.1, List.take_length]
      have HF := Lib.hid hfin
      clear hfin hkN2
      go_wp2_with fail
      go_ret
      exact ⟨by rw [HF.out]; rfl, rfl⟩

theorem isWeight {w : World} {b : Nat} {F : List Nat} {E : List Int} {S : List Sp} (h : IsSeg w b F E S) :
    Calls Tryz.prog 16 #[.pointer (some ⟨b, 0, none⟩)] w fun e w' => e = .returned (.int .i64 (weightS E S : Int)) ∧ w = w' := by
  obtain ⟨fb, ve, vn, va, vs, h1, -⟩ := h.at_
  have hl := h.len
  exact segWeight h1 (by rw [atS_len]; unfold nSl; omega) (fun l hl' => by
    unfold atS at hl'
    obtain ⟨k, -, rfl⟩ := List.mem_map.1 hl'
    exact Nat.le_trans (List.length_filter_le _ _) h.many)
end Go.Proofs.YtclbdegkfjedjaaGreat
