/- What a slice is seen to have. -/
import Derived.Test.YtkhgglafnjfiaaaOps
import Derived.Test.YtkhgglafnjfiaaaCloneCel
namespace Go.Proofs.Ytkhgglafnjfiaaa.Cel
open Go.RowKit

theorem KI_get (l : List (Int × Nat)) (k : Nat) (hk : k < l.length) : (KI.all l)[k * 2]? = some (.int .i64 l[k].1) ∧ (KI.all l)[k * 2 + 1]? = some (.int .i64 l[k].2) := by
  induction l generalizing k with
  | nil => simp at hk
  | cons a l ih =>
    cases k with
    | zero => exact ⟨rfl, rfl⟩
    | succ k =>
      have := ih k (by simpa using hk)
      have e : KI.all (a :: l) = .int .i64 a.1 :: .int .i64 a.2 :: KI.all l := rfl
      rw [e, show (k + 1) * 2 = k * 2 + 1 + 1 by omega, show k * 2 + 1 + 1 + 1 = (k * 2 + 1) + 1 + 1 by omega]
      simpa using this

/-- The list l is what v is seen to have. -/
def Ints (w : World) (v : Value) (l : List (Int × Nat)) : Prop := Sees w 2 v l.length (KI.all l)

theorem Ints.form {w : World} {v : Value} {l : List (Int × Nat)} (h : Ints w v l) : ∃ A C, v = .slice A l.length C := sees_form h

theorem Ints.cell {w : World} {A : Option Addr} {n C : Nat} {l : List (Int × Nat)} (h : Ints w (.slice A n C) l) {k : Nat} (hk : k < l.length) :
    ∃ b o, A = some ⟨b, o, none⟩ ∧ w.cell? ⟨b, o + k * 2, none⟩ = some (.int .i64 l[k].1) ∧ w.cell? ⟨b, o + k * 2 + 1, none⟩ = some (.int .i64 l[k].2) := by
  rcases h.2 with ⟨h1, h2⟩ | ⟨b, o, s, cap, h1, h2, h3, h4, h5⟩
  · omega
  · cases h1
    have hs := h2 (by omega)
    subst hs
    exact ⟨b, o, rfl, h5 _ _ (KI_get l k hk).1, by rw [Nat.add_assoc]; exact h5 _ _ (KI_get l k hk).2⟩

theorem Ints.lt {w : World} {v : Value} {l : List (Int × Nat)} (h : Ints w v l) (h0 : 0 < l.length) : ∀ k ∈ blk v, k < w.heap.size := by
  obtain ⟨A, C, rfl⟩ := h.form
  obtain ⟨b, o, rfl, hc, _⟩ := h.cell h0
  intro k hk
  simp [blk] at hk
  subst hk
  exact World.block_lt_of_cell? w _ hc

theorem Ints.upd {F : List Nat} {w w' : World} {v : Value} {l : List (Int × Nat)} (h : Ints w v l) (hu : Upd F w w') (hd : 0 < l.length → ∀ k ∈ blk v, k < w.heap.size → k ∉ F) : Ints w' v l := sees_upd h hu hd

theorem Ints.upd0 {w w' : World} {v : Value} {l : List (Int × Nat)} (h : Ints w v l) (hu : Upd [] w w') : Ints w' v l := sees_upd h hu (by simp)

theorem Ints.of_row {w : World} {base : Nat} {v : Value} {l : List (Int × Nat)} (h : KI.row w base v l) : Ints w v l := sees_of_own h

end Go.Proofs.Ytkhgglafnjfiaaa.Cel
