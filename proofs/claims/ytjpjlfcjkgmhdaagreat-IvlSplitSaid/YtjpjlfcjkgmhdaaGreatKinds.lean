/- Lists of things of any number of cells, seen; the kinds of this seat. -/
import Derived.Test.YtjpjlfcjkgmhdaaGreatOps
import Derived.Test.YtjpjlfcjkgmhdaaGreatCarryB
import Derived.Test.YtjpjlfcjkgmhdaaGreatRows
namespace Go.Proofs.YtjpjlfcjkgmhdaaGreat
open Go.RowKit

section
variable {α : Type}

/-- The list l is what v is seen to have. -/
def See (K : Kind α) (w : World) (v : Value) (l : List α) : Prop := Sees w K.sz v l.length (K.all l)

theorem See.form {K : Kind α} {w : World} {v : Value} {l : List α} (h : See K w v l) : ∃ A C, v = .slice A l.length C := sees_form h

theorem Kind.all_get (K : Kind α) (l : List α) : ∀ (k j : Nat) (hk : k < l.length) (u : Value), (K.enc l[k])[j]? = some u → (K.all l)[k * K.sz + j]? = some u := by
  induction l with
  | nil => intro k j hk; simp at hk
  | cons a l ih =>
    intro k j hk u hu
    have e : K.all (a :: l) = K.enc a ++ K.all l := by simp [Kind.all]
    rw [e]
    rcases k with _ | k
    · have hj := (List.getElem?_eq_some_iff.1 hu).1
      rw [Nat.zero_mul, Nat.zero_add]
      exact (List.getElem?_append_left (l₁ := K.enc a) hj).trans hu
    · have hl := K.len a
      rw [List.getElem?_append_right (by rw [hl, Nat.add_mul, Nat.one_mul]; omega), hl]
      rw [show (k + 1) * K.sz + j - K.sz = k * K.sz + j by rw [Nat.add_mul, Nat.one_mul]; omega]
      exact ih k j (by simpa using hk) u (by simpa using hu)

theorem See.at {K : Kind α} {w : World} {A : Option Addr} {n C : Nat} {l : List α} (h : See K w (.slice A n C) l) {k : Nat} {x : α} (hx : l[k]? = some x) :
    ∃ b o, A = some ⟨b, o, none⟩ ∧ n ≤ C ∧ C ≤ maxLen ∧ ∀ j u, (K.enc x)[j]? = some u → w.cell? ⟨b, o + k * K.sz + j, none⟩ = some u := by
  obtain ⟨hk, hx⟩ := List.getElem?_eq_some_iff.1 hx
  rcases h.2 with ⟨h1, h2⟩ | ⟨b, o, s, cap, h1, h2, h3, h4, h5⟩
  · omega
  · cases h1
    have := h2 (by omega)
    subst this
    refine ⟨b, o, rfl, h3, h4, fun j u hu => ?_⟩
    rw [← hx] at hu
    have := h5 _ _ (K.all_get l k j hk u hu)
    rwa [← Nat.add_assoc] at this

theorem See.upd {K : Kind α} {F : List Nat} {w w' : World} {v : Value} {l : List α} (h : See K w v l) (hu : Upd F w w') (hd : 0 < l.length → ∀ k ∈ blk v, k < w.heap.size → k ∉ F) : See K w' v l := sees_upd h hu hd
theorem See.upd0 {K : Kind α} {w w' : World} {v : Value} {l : List α} (h : See K w v l) (hu : Upd [] w w') : See K w' v l := sees_upd h hu (by simp)
theorem See.of_row {K : Kind α} {w : World} {base : Nat} {v : Value} {l : List α} (h : K.row w base v l) : See K w v l := sees_of_own h

theorem See.take {K : Kind α} {P : Program} {i : TypeInfo} (ht : P.underlying K.sT = some (.slice K.eT)) (hi : P.info? K.eT = some i) (hsize : i.size = K.sz) {w : World} {v : Value} {l : List α} (h : See K w v l) (k : Nat) (hk : k ≤ l.length) :
    ∃ A C, (∀ w', (Instr.slice K.sT v none (some (.int .i64 (k : Int))) none).run P w' = .ok (.slice A k C) w') ∧ (∀ w', See K w' v l → See K w' (.slice A k C) (l.take k)) ∧ blk (.slice A k C) = blk v := by
  obtain ⟨A, C, h1, h2, h3⟩ := cut_to (P := P) ht hi hsize h k hk
  refine ⟨A, C, h1, fun w' hw => ?_, h3⟩
  have := h2 w' hw
  unfold See
  rw [Kind.all_take, List.length_take, Nat.min_eq_left hk]
  exact this
end

theorem own_take {w : World} {base : Nat} {e : TypeId} {size g n C : Nat} {xs : List Value} (h : w.ownsRow base e size (.slice (some ⟨g, 0, none⟩) n C) n xs) (k : Nat) (hk : k ≤ n) :
    w.ownsRow base e size (.slice (some ⟨g, 0, none⟩) k C) k (xs.take (k * size)) := by
  obtain ⟨h1, h2⟩ := h
  have hks : k * size ≤ n * size := Nat.mul_le_mul_right _ hk
  refine ⟨by rw [List.length_take, h1]; exact Nat.min_eq_left hks, ?_⟩
  rcases h2 with ⟨h2, _⟩ | ⟨g', cap, cur, h2, h3, h4, h5, h6, h7, h8⟩
  · cases h2
  · cases h2
    exact .inr ⟨g, C, cur, rfl, h3, h4, Nat.le_trans hk h5, h6, h7, by rw [← h8, List.take_take, Nat.min_eq_left hks]⟩

theorem own_cap {w : World} {base : Nat} {e : TypeId} {size g n C : Nat} {xs : List Value} (h : w.ownsRow base e size (.slice (some ⟨g, 0, none⟩) n C) n xs) : n ≤ C := by
  rcases h.2 with ⟨h2, _⟩ | ⟨g', cap, cur, h2, h3, h4, h5, h6, h7, h8⟩
  · cases h2
  · cases h2; exact h5

theorem cut_head {P : Program} {t e : TypeId} {i : TypeInfo} (ht : P.underlying t = some (.slice e)) (hi : P.info? e = some i) (q n C k : Nat) (hk : k ≤ C) (w : World) :
    (Instr.slice t (.slice (some ⟨q, 0, none⟩) n C) none (some (.int .i64 (k : Int))) none).run P w = .ok (.slice (some ⟨q, 0, none⟩) k C) w := by
  have hel : P.elem t = e := by simp [Program.elem, ht]
  rw [run_slice_h w t _ n C (elem_of ht) .i64 _ (by omega) (by omega)]
  simp [hel, sizeOf, typeInfo, hi, sliced, Addr.add]

/-- Numbers of 64 bits; numbers; truth values. -/
def KL : Kind Int := { T := 0, sT := 46, eT := 2, sz := 1, enc := fun x => [.int .i64 x], len := fun _ => rfl, one := fun x u hu => by simp at hu; subst hu; rfl }
def KN : Kind Nat := { T := 0, sT := 60, eT := 3, sz := 1, enc := fun x => [.int .i64 (x : Int)], len := fun _ => rfl, one := fun x u hu => by simp at hu; subst hu; rfl }
def KB : Kind Bool := { T := 0, sT := 144, eT := 4, sz := 1, enc := fun x => [.bool x], len := fun _ => rfl, one := fun x u hu => by simp at hu; subst hu; rfl }

theorem KL.at {w : World} {A : Option Addr} {n C : Nat} {l : List Int} (h : See KL w (.slice A n C) l) {k : Nat} {x : Int} (hx : l[k]? = some x) :
    ∃ b o, A = some ⟨b, o, none⟩ ∧ n ≤ C ∧ C ≤ maxLen ∧ w.cell? ⟨b, o + k, none⟩ = some (.int .i64 x) := by
  obtain ⟨b, o, h1, h2, h3, h4⟩ := h.at hx
  have := h4 0 _ rfl
  exact ⟨b, o, h1, h2, h3, by simpa [KL] using this⟩
end Go.Proofs.YtjpjlfcjkgmhdaaGreat
