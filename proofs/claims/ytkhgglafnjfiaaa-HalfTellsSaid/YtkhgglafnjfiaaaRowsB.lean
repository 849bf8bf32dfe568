/- A list of lists in memory that a call has made. -/
import Derived.Test.YtkhgglafnjfiaaaCarryB
namespace Go.Proofs.Ytkhgglafnjfiaaa
open Go.RowKit

section
variable {α : Type}

/-- v is a row of rows, vs; they have ll. -/
structure RowsAt (K : Kind α) (w : World) (v : Value) (vs : List Value) (ll : List (List α)) : Prop where
  list : w.ownsRow 0 K.sT 1 v vs.length vs
  len : vs.length = ll.length
  rows : ∀ (i : Nat) (u : Value) (l : List α), vs[i]? = some u → ll[i]? = some l → K.row w 0 u l
  away : ∀ (i : Nat) (u : Value) (k : Nat), vs[i]? = some u → k ∈ blk u → k ∉ blk v
  apart : ∀ (i j : Nat) (u t : Value) (k : Nat), vs[i]? = some u → vs[j]? = some t → k ∈ blk u → k ∈ blk t → i = j

def rfoot (v : Value) (vs : List Value) : List Nat := blk v ++ vs.flatMap blk

theorem mem_rfoot {v : Value} {vs : List Value} {k : Nat} : k ∈ rfoot v vs ↔ k ∈ blk v ∨ ∃ (i : Nat) (u : Value), vs[i]? = some u ∧ k ∈ blk u := by
  simp only [rfoot, List.mem_append, List.mem_flatMap]
  constructor
  · rintro (h | ⟨v, hv, hk⟩)
    · exact .inl h
    · obtain ⟨i, hi⟩ := List.mem_iff_getElem?.1 hv
      exact .inr ⟨i, v, hi, hk⟩
  · rintro (h | ⟨i, v, hv, hk⟩)
    · exact .inl h
    · exact .inr ⟨v, List.mem_of_getElem? hv, hk⟩

theorem get_lt {β : Type} {l : List β} {i : Nat} {x : β} (h : l[i]? = some x) : i < l.length := by
  rcases Nat.lt_or_ge i l.length with h' | h'
  · exact h'
  · rw [List.getElem?_eq_none h'] at h; cases h

theorem RowsAt.lt {K : Kind α} {w : World} {v : Value} {vs : List Value} {ll : List (List α)} (h : RowsAt K w v vs ll) : ∀ k ∈ rfoot v vs, k < w.heap.size := by
  intro k hk
  rw [mem_rfoot] at hk
  rcases hk with hk | ⟨i, u, hu, hk⟩
  · exact own_lt h.list k hk
  · have hl := get_lt hu
    exact own_lt (h.rows i u (ll[i]'(by rw [← h.len]; exact hl)) hu (by simp)) k hk

theorem RowsAt.upd {K : Kind α} {w w' : World} {v : Value} {vs : List Value} {ll : List (List α)} (h : RowsAt K w v vs ll) {F : List Nat} (hu : Upd F w w') (hd : ∀ k ∈ rfoot v vs, k ∉ F) : RowsAt K w' v vs ll where
  list := own_upd h.list hu fun k hk => hd k (mem_rfoot.2 (.inl hk))
  len := h.len
  rows := fun i u l hv hl => own_upd (h.rows i u l hv hl) hu fun k hk => hd k (mem_rfoot.2 (.inr ⟨i, u, hv, hk⟩))
  away := h.away
  apart := h.apart

theorem RowsAt.nil {K : Kind α} {w : World} : RowsAt K w (.slice none 0 0) [] [] := ⟨World.ownsRow_nil _ _ _ _, rfl, by simp, by simp, by simp⟩

/-- Row k, as it lies in the list. -/
theorem RowsAt.at {K : Kind α} {w : World} {A : Option Addr} {N C : Nat} {vs : List Value} {ll : List (List α)} (h0 : RowsAt K w (.slice A N C) vs ll) {k : Nat} (hk : k < ll.length) :
    ∃ (g : Nat) (Ak : Option Addr) (Ck : Nat), A = some ⟨g, 0, none⟩ ∧ vs[k]? = some (.slice Ak ll[k].length Ck) ∧
      w.cell? ⟨g, k, none⟩ = some (.slice Ak ll[k].length Ck) ∧ w.frozen? ⟨g, k, none⟩ = false ∧ K.row w 0 (.slice Ak ll[k].length Ck) ll[k] := by
  have hk' : k < vs.length := by rw [h0.len]; exact hk
  obtain ⟨g, cap, hA, _, _⟩ := h0.list.form (by omega)
  cases hA
  have hv : vs[k]? = some vs[k] := by simp
  obtain ⟨Ak, Ck, he⟩ := own_form (h0.rows k _ _ hv (by simp [hk]; rfl))
  refine ⟨g, Ak, Ck, rfl, by rw [hv, he], ?_, World.ownsRow.frozenAt h0.list k, by rw [← he]; exact h0.rows k _ _ hv (by simp [hk])⟩
  rw [World.ownsRow.cellAt h0.list k (by omega), hv, he]

/-- One empty row more. -/
theorem RowsAt.snoc {K : Kind α} {w w1 : World} {v : Value} {vs : List Value} {ll : List (List α)} (h : RowsAt K w v vs ll) {o : Obj} {A : Option Addr} {C : Nat}
    (HP : AppPost (w.alloc o) w1 0 K.sT 1 v vs.length vs 1 [.slice none 0 0] A C) :
    RowsAt K w1 (.slice A (vs.length + 1) C) (vs ++ [.slice none 0 0]) (ll ++ [[]]) ∧ ∀ k ∈ rfoot (.slice A (vs.length + 1) C) (vs ++ [.slice none 0 0]), k ∈ rfoot v vs ∨ w.heap.size ≤ k := by
  have hu : Upd (blk v) w w1 := ((Upd.refl _ _).alloc _).trans HP.upd
  have hget : ∀ (i : Nat) (u : Value), (vs ++ [.slice none 0 0])[i]? = some u → vs[i]? = some u ∨ u = .slice none 0 0 := by
    intro i u hv
    rw [List.getElem?_append] at hv
    split at hv
    · exact .inl hv
    · right
      have := List.mem_of_getElem? hv
      simpa using this
  have hnew : ∀ k, k ∈ blk (.slice A (vs.length + 1) C) → k ∈ blk v ∨ w.heap.size < k := by
    intro k hk
    rcases HP.at with hb | hb
    · rw [hb] at hk; exact .inl hk
    · rw [hb] at hk; simp at hk; right; omega
  have hlt := h.lt
  refine ⟨⟨by simpa using HP.own, by simp [h.len], ?_, ?_, ?_⟩, ?_⟩
  · intro i u l hv hl
    rcases hget i u hv with hv' | rfl
    · have hi := get_lt hv'
      rw [List.getElem?_append_left (by rw [← h.len]; exact hi)] at hl
      exact own_upd (h.rows i u l hv' hl) hu fun k hk => h.away i u k hv' hk
    · have hi := get_lt hl
      rcases Nat.lt_or_ge i vs.length with h1 | h1
      · rw [List.getElem?_append_left h1] at hv
        rw [List.getElem?_append_left (by rw [← h.len]; exact h1)] at hl
        exact own_upd (h.rows i _ l hv hl) hu fun k hk => h.away i _ k hv hk
      · rw [List.getElem?_append_right (by rw [← h.len]; exact h1)] at hl
        have := List.mem_of_getElem? hl
        simp at this
        subst this
        exact World.ownsRow_nil _ _ _ _
  · intro i u k hv hk hc
    rcases hget i u hv with hv | rfl
    · rcases hnew k hc with h1 | h1
      · exact h.away i u k hv hk h1
      · have := hlt k (mem_rfoot.2 (.inr ⟨i, u, hv, hk⟩)); omega
    · simp [blk] at hk
  · intro i j u t k hv ht hk hk'
    rcases hget i u hv with hv | rfl
    · rcases hget j t ht with ht | rfl
      · exact h.apart i j u t k hv ht hk hk'
      · simp [blk] at hk'
    · simp [blk] at hk
  · intro k hk
    rw [mem_rfoot] at hk
    rcases hk with hk | ⟨i, u, hv, hk⟩
    · rcases hnew k hk with h1 | h1
      · exact .inl (mem_rfoot.2 (.inl h1))
      · right; omega
    · rcases hget i u hv with hv | rfl
      · exact .inl (mem_rfoot.2 (.inr ⟨i, u, hv, hk⟩))
      · simp [blk] at hk

/-- Row i is another one now: none, or one that lies apart. -/
theorem RowsAt.put {K : Kind α} {w : World} {g N C : Nat} {vs : List Value} {ll : List (List α)} (h : RowsAt K w (.slice (some ⟨g, 0, none⟩) N C) vs ll) (hN : N = vs.length)
    (i : Nat) (v : Value) (l : List α) (hrow : K.row w 0 v l) (hap : ∀ k ∈ blk v, k ≠ g ∧ ∀ (j : Nat) (u : Value), j ≠ i → vs[j]? = some u → k ∉ blk u) :
    RowsAt K (w.setCell ⟨g, i, none⟩ v) (.slice (some ⟨g, 0, none⟩) N C) (vs.set i v) (ll.set i l) := by
  subst hN
  have hget : ∀ (j : Nat) (u : Value), (vs.set i v)[j]? = some u → (i = j ∧ u = v) ∨ (i ≠ j ∧ vs[j]? = some u) := by
    intro j u hu
    rw [List.getElem?_set] at hu
    split at hu
    · rename_i he
      split at hu
      · simp at hu; exact .inl ⟨he, hu.symm⟩
      · cases hu
    · rename_i he
      exact .inr ⟨he, hu⟩
  refine ⟨?_, by simp [h.len], ?_, ?_, ?_⟩
  · have := (World.ownsRow.stored h.list i v).1
    rw [show (vs.set i v).length = vs.length from by simp]
    exact this
  · intro j u m hu hm
    rcases hget j u hu with ⟨e1, e2⟩ | ⟨hne, hu⟩
    · subst e1 e2
      rw [List.getElem?_set] at hm
      simp only [if_true] at hm
      split at hm
      · simp at hm; subst hm
        exact row_set_other hrow (fun hk => (hap g hk).1 rfl) _
      · cases hm
    · rw [List.getElem?_set_ne hne] at hm
      exact row_set_other (h.rows j u m hu hm) (fun hk => h.away j u g hu hk (by simp [blk])) _
  · intro j u k hu hk
    rcases hget j u hu with ⟨e1, e2⟩ | ⟨hne, hu⟩
    · subst e2
      simp [blk]; exact (hap k hk).1
    · exact h.away j u k hu hk
  · intro j m u t k hu ht hk hk'
    rcases hget j u hu with ⟨e1, e2⟩ | ⟨hne, hu2⟩
    · rcases hget m t ht with ⟨e3, e4⟩ | ⟨hne', ht2⟩
      · rw [← e1, ← e3]
      · rw [e2] at hk
        exact ((hap k hk).2 m t (Ne.symm hne') ht2 hk').elim
    · rcases hget m t ht with ⟨e3, e4⟩ | ⟨hne', ht2⟩
      · rw [e4] at hk'
        exact ((hap k hk').2 j u (Ne.symm hne) hu2 hk).elim
      · exact h.apart j m u t k hu2 ht2 hk hk'

/-- Row i has been appended to, and stored. -/
theorem RowsAt.extend {K : Kind α} {w w2 : World} {g N C : Nat} {vs : List Value} {ll : List (List α)} (h : RowsAt K w (.slice (some ⟨g, 0, none⟩) N C) vs ll) (hN : N = vs.length)
    {i : Nat} {u v : Value} {l : List α} (hv : vs[i]? = some u) (hu : Upd (blk u) w w2) (hrow : K.row w2 0 v l) (hb : blk v = blk u ∨ blk v = [w.heap.size]) :
    RowsAt K (w2.setCell ⟨g, i, none⟩ v) (.slice (some ⟨g, 0, none⟩) N C) (vs.set i v) (ll.set i l) ∧ Upd (rfoot (.slice (some ⟨g, 0, none⟩) N C) vs) w (w2.setCell ⟨g, i, none⟩ v) ∧
      ∀ k ∈ rfoot (.slice (some ⟨g, 0, none⟩) N C) (vs.set i v), k ∈ rfoot (.slice (some ⟨g, 0, none⟩) N C) vs ∨ w.heap.size ≤ k := by
  subst hN
  have hlt := h.lt
  have hgu : g ∉ blk u := fun hk => h.away i u g hv hk (by simp [blk])
  have hgl : g < w.heap.size := hlt g (mem_rfoot.2 (.inl (by simp [blk])))
  have hbv : ∀ k ∈ blk v, k ∈ blk u ∨ k = w.heap.size := by
    intro k hk
    rcases hb with hb | hb
    · rw [hb] at hk; exact .inl hk
    · rw [hb] at hk; simp at hk; exact .inr hk
  have hgv : g ∉ blk v := fun hk => by
    rcases hbv g hk with h1 | h1
    · exact hgu h1
    · omega
  have hget : ∀ (j : Nat) (t : Value), (vs.set i v)[j]? = some t → (i = j ∧ t = v) ∨ (i ≠ j ∧ vs[j]? = some t) := by
    intro j t ht
    rw [List.getElem?_set] at ht
    split at ht
    · rename_i he
      split at ht
      · simp at ht; exact .inl ⟨he, ht.symm⟩
      · cases ht
    · rename_i he
      exact .inr ⟨he, ht⟩
  have hoth : ∀ (j : Nat) (t : Value) (k : Nat), i ≠ j → vs[j]? = some t → k ∈ blk t → k ∉ blk v := by
    intro j t k hne ht hk hc
    rcases hbv k hc with h1 | h1
    · exact hne (h.apart i j u t k hv ht h1 hk)
    · have := hlt k (mem_rfoot.2 (.inr ⟨j, t, ht, hk⟩)); omega
  refine ⟨⟨?_, by simp [h.len], ?_, ?_, ?_⟩, ?_, ?_⟩
  · have h1 := own_upd h.list hu (fun k hk => by simp [blk] at hk; subst hk; exact hgu)
    have := (World.ownsRow.stored h1 i v).1
    rw [show (vs.set i v).length = vs.length from by simp]
    exact this
  · intro j t m ht hm
    rcases hget j t ht with ⟨e1, e2⟩ | ⟨hne, ht⟩
    · subst e1 e2
      rw [List.getElem?_set] at hm
      simp only [if_true] at hm
      split at hm
      · simp at hm; subst hm
        exact row_set_other hrow hgv _
      · cases hm
    · rw [List.getElem?_set_ne hne] at hm
      have h1 := own_upd (h.rows j t m ht hm) hu (fun k hk hc => hne (h.apart i j u t k hv ht hc hk))
      exact row_set_other h1 (fun hk => h.away j t g ht hk (by simp [blk])) _
  · intro j t k ht hk
    rcases hget j t ht with ⟨e1, e2⟩ | ⟨hne, ht⟩
    · subst e2
      simp [blk]
      intro e; subst e; exact hgv hk
    · exact h.away j t k ht hk
  · intro j m t t' k ht ht' hk hk'
    rcases hget j t ht with ⟨e1, e2⟩ | ⟨hne, ht2⟩
    · rcases hget m t' ht' with ⟨e3, e4⟩ | ⟨hne', ht2'⟩
      · rw [← e1, ← e3]
      · rw [e2] at hk
        exact (hoth m t' k hne' ht2' hk' hk).elim
    · rcases hget m t' ht' with ⟨e3, e4⟩ | ⟨hne', ht2'⟩
      · rw [e4] at hk'
        exact (hoth j t k hne ht2 hk hk').elim
      · exact h.apart j m t t' k ht2 ht2' hk hk'
  · exact (hu.mono (G := rfoot (.slice (some ⟨g, 0, none⟩) vs.length C) vs) fun k hk => .inl (mem_rfoot.2 (.inr ⟨i, u, hv, hk⟩))).setCell (p := ⟨g, i, none⟩) (.inl (mem_rfoot.2 (.inl (by simp [blk])))) _
  · intro k hk
    rw [mem_rfoot] at hk
    rcases hk with hk | ⟨j, t, ht, hk⟩
    · exact .inl (mem_rfoot.2 (.inl hk))
    · rcases hget j t ht with ⟨e1, e2⟩ | ⟨hne, ht2⟩
      · subst e2
        rcases hbv k hk with h1 | h1
        · exact .inl (mem_rfoot.2 (.inr ⟨i, u, hv, h1⟩))
        · right; omega
      · exact .inl (mem_rfoot.2 (.inr ⟨j, t, ht2, hk⟩))

end
end Go.Proofs.Ytkhgglafnjfiaaa
