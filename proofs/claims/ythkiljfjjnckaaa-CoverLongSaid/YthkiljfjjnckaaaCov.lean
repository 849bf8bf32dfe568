/- A cover: what it holds; Add, Drop. -/
import Derived.Test.YthkiljfjjnckaaaSpan
namespace Go.Proofs.Ythkiljfjjnckaaa
open Go.RowKit

/-- At block b lies a cover of marks M that holds the spans H (places of marks), its blocks are F; it was moved N times. -/
def IsCov (w : World) (b : Nat) (F : List Nat) (M : List Int) (H : List (Nat × Nat)) (N : Nat) : Prop :=
  ∃ mv nv ov pv hb en, F = b :: hb :: (blk mv ++ (blk nv ++ (blk ov ++ blk pv))) ∧ CovM w b mv nv ov pv hb M (nodesN (M.length - 1)) (oN (cntH H) (M.length - 1)) (pN (cntH H) M (M.length - 1)) (rootI (M.length - 1)) en ∧ HeldAt w hb N (fun s => (H.count s : Int))

theorem IsCov.upd {w w' : World} {b : Nat} {F : List Nat} {M : List Int} {H : List (Nat × Nat)} {N : Nat} (h : IsCov w b F M H N) {G : List Nat} (hu : Upd G w w') (hd : ∀ y ∈ F, y ∉ G) : IsCov w' b F M H N := by
  obtain ⟨mv, nv, ov, pv, hb, en, rfl, h1, h2⟩ := h
  exact ⟨mv, nv, ov, pv, hb, en, rfl, h1.upd hu (hd b (by simp)) (fun y hy => hd y (by simp [hy])) (fun y hy => hd y (by simp [hy])) (fun y hy => hd y (by simp [hy])) (fun y hy => hd y (by simp [hy])), h2.upd hu (hd hb (by simp))⟩

theorem IsCov.upd0 {w w' : World} {b : Nat} {F : List Nat} {M : List Int} {H : List (Nat × Nat)} {N : Nat} (h : IsCov w b F M H N) (hu : Upd [] w w') : IsCov w' b F M H N := h.upd hu (by simp)

theorem IsCov.lt {w : World} {b : Nat} {F : List Nat} {M : List Int} {H : List (Nat × Nat)} {N : Nat} (h : IsCov w b F M H N) : ∀ y ∈ F, y < w.heap.size := by
  obtain ⟨mv, nv, ov, pv, hb, en, rfl, h1, h2⟩ := h
  intro y hy
  simp only [List.mem_cons, List.mem_append] at hy
  rcases hy with rfl | rfl | hy | hy | hy | hy
  · exact lt_of_block h1.head
  · exact h2.lt
  · exact own_lt h1.marks y hy
  · exact own_lt h1.nodes y hy
  · exact own_lt h1.often y hy
  · exact own_lt h1.parts y hy

/-- The spans are between marks. -/
def HOkC (M : List Int) (H : List (Nat × Nat)) : Prop := ∀ s ∈ H, s.1 ≤ s.2 ∧ s.2 < M.length

theorem nodesN_at (n : Nat) (h : n ≠ 0) : NodesAt (nodesN n) 0 n 0 := ⟨[], [], by unfold nodesN; rw [if_neg h]; simp, rfl⟩

theorem lg_small {n : Nat} (h : n < 1000000) : lg n ≤ 20 := bitsN_le (n - 1) 20 (by omega)

theorem same_empty {c c' : Cnt} {s : Nat × Nat} {y : Int} (h : Step c c' s y) (he : s.1 = s.2) {f t : Nat} (pf pt : Nat) (hf : f < t) : SameOn c c' f t pf pt := by
  have hz : ∀ f' t' pf' pt', f' < t' → can s f' t' pf' pt' = 0 := fun f' t' pf' pt' hlt => by unfold can; rw [if_neg (by omega)]
  exact ⟨by rw [h, hz _ _ _ _ hf]; omega, fun f' t' pf' pt' _ a2 _ _ _ => by rw [h, hz _ _ _ _ a2]; omega⟩

theorem cntH_le (H : List (Nat × Nat)) (f t pf pt : Nat) : cntH H f t pf pt ≤ H.length := by
  induction H with
  | nil => simp [cntH]
  | cons s H ih =>
    rw [cntH_cons, List.length_cons]
    have : can s f t pf pt ≤ 1 := by unfold can; split <;> simp
    omega

/-- What move leaves of a cover. -/
def MvPost (w : World) (b : Nat) (F : List Nat) (M : List Int) (H : List (Nat × Nat)) (N k : Nat) (e : Ending) (w' : World) : Prop :=
  e = .returned (.int .i64 (k : Int)) ∧ IsCov w' b F M H N ∧ Upd F w w'

theorem moveC (b : Nat) (F : List Nat) (M : List Int) (H H' : List (Nat × Nat)) (N : Nat) (w : World) (s : Nat × Nat) (y : Int) (h : IsCov w b F M H N) (hM : MarksOk M) (hN : N < 1000000) (hH : H.length ≤ 1000000) (hs : s.1 ≤ s.2 ∧ s.2 < M.length)
    (hst : Step (cntH H) (cntH H') s y) (hct : ∀ u, (H'.count u : Int) = if u = s then (H.count s : Int) + y else (H.count u : Int)) (hy0 : -1 ≤ y) (hy1 : y ≤ 1) :
    Calls Try.prog 57 #[.pointer (some ⟨b, 0, none⟩), .agg #[.int .i64 (s.1 : Int), .int .i64 (s.2 : Int)], .int .i64 y] w (MvPost w b F M H' (N + 1) (entN s (M.length - 1))) := by
  obtain ⟨mv, nv, ov, pv, hb, en, rfl, h1, h2⟩ := h
  obtain ⟨s1, s2⟩ := s
  dsimp only at hs ⊢
  have hl := hM.len
  have hcl := List.count_le_length (a := (s1, s2)) (l := H)
  obtain ⟨n, hn⟩ : ∃ n, M.length - 1 = n := ⟨_, rfl⟩
  rw [hn] at h1 ⊢
  have hmv := moveHeld b mv nv ov pv hb N M (nodesN n) (oN (cntH H) n) (oN (cntH H') n) (pN (cntH H) M n) (pN (cntH H') M n) (rootI n) en w _ s1 s2 y (entN (s1, s2) n) h1 h2 hN (by omega) (by omega) hy0 hy1 (by omega) (by omega)
    (fun w2 hw2 hne => by
      have hn0 : n ≠ 0 := by omega
      have hep := ent_any (a := s1) (b := s2) n 0 n (by omega)
      have hlg := lg_small (n := n) (by omega)
      have e1 : entN (s1, s2) n = ent s1 s2 0 n := by unfold entN; rw [if_neg hne]
      have e2 : rootI n = ((0 + 2 * (n - 0) - 2 : Nat) : Int) := by unfold rootI; rw [if_neg hn0]; omega
      unfold oN pN at hw2 ⊢
      rw [if_neg hn0, if_neg hn0] at hw2
      rw [if_neg hn0, if_neg hn0, e1]
      have := changeC b mv nv ov pv hb M (nodesN n) (rootI n) (cntH H) (cntH H') s1 s2 y hM hst hy0 hy1 (fun f t pf pt => ⟨cntH_nonneg _ _ _ _ _, by have := cntH_le H f t pf pt; omega⟩)
        n 0 n 0 (n + 1) 0 [] [] [] [] 0 w2 (by omega) (by omega) (by omega) rfl rfl (nodesN_at n hn0) (by omega) (by omega) (by rw [Nat.sub_zero] at hep; omega) (by simpa using hw2)
      rw [← e2] at this
      simpa using this)
    (fun he => by
      refine ⟨by unfold entN; rw [if_pos he], ?_, ?_⟩
      · unfold oN
        by_cases hn0 : n = 0
        · rw [if_pos hn0, if_pos hn0]
        · rw [if_neg hn0, if_neg hn0, oL_same (by omega) (same_empty hst he 0 (n + 1) (by omega))]
      · unfold pN
        by_cases hn0 : n = 0
        · rw [if_pos hn0, if_pos hn0]
        · rw [if_neg hn0, if_neg hn0, pL_same (by omega) (same_empty hst he 0 (n + 1) (by omega))])
  refine hmv.mono ?_
  rintro e w' ⟨rfl, ⟨en', g1⟩, g2, g3⟩
  refine ⟨rfl, ⟨mv, nv, ov, pv, hb, en', rfl, by rw [hn]; exact g1, ?_⟩, g3.mono fun x hx => ?_⟩
  · have e : (fun s => (H'.count s : Int)) = fun u => if u = (s1, s2) then (H.count (s1, s2) : Int) + y else (H.count u : Int) := funext hct
    rw [e]; exact g2
  · simp only [covF, List.mem_cons, List.mem_append] at hx
    refine .inl ?_
    simp only [List.mem_cons, List.mem_append]
    rcases hx with rfl | rfl | hx | hx <;> simp [*]
end Go.Proofs.Ythkiljfjjnckaaa
