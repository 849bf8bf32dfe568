/- What a slice is seen to have. -/
import Derived.Test.YtkhgglafnjfiaaaOps
import Derived.Test.YtkhgglafnjfiaaaCloneStr
namespace Go.Proofs.Ytkhgglafnjfiaaa.Str
open Go.RowKit

theorem KI_all (l : List ByteArray) : KI.all l = l.map fun x => .string x := by
  induction l with
  | nil => rfl
  | cons a l ih => simp only [Kind.all, List.flatMap_cons, List.map_cons] at *; rw [ih]; rfl

/-- The list l is what v is seen to have. -/
def Ints (w : World) (v : Value) (l : List ByteArray) : Prop := Sees w 1 v l.length (KI.all l)

theorem Ints.form {w : World} {v : Value} {l : List ByteArray} (h : Ints w v l) : ∃ A C, v = .slice A l.length C := sees_form h

theorem Ints.cell {w : World} {A : Option Addr} {n C : Nat} {l : List ByteArray} (h : Ints w (.slice A n C) l) {k : Nat} (hk : k < l.length) :
    ∃ b o, A = some ⟨b, o, none⟩ ∧ w.cell? ⟨b, o + k, none⟩ = some (.string l[k]) := by
  rcases h.2 with ⟨h1, h2⟩ | ⟨b, o, s, cap, h1, h2, h3, h4, h5⟩
  · omega
  · cases h1
    have hs := h2 (by omega)
    subst hs
    refine ⟨b, o, rfl, h5 k _ ?_⟩
    rw [KI_all]
    simp [hk]

theorem Ints.lt {w : World} {v : Value} {l : List ByteArray} (h : Ints w v l) (h0 : 0 < l.length) : ∀ k ∈ blk v, k < w.heap.size := by
  obtain ⟨A, C, rfl⟩ := h.form
  obtain ⟨b, o, rfl, hc⟩ := h.cell h0
  intro k hk
  simp [blk] at hk
  subst hk
  exact World.block_lt_of_cell? w _ hc

theorem Ints.upd {F : List Nat} {w w' : World} {v : Value} {l : List ByteArray} (h : Ints w v l) (hu : Upd F w w') (hd : 0 < l.length → ∀ k ∈ blk v, k < w.heap.size → k ∉ F) : Ints w' v l := sees_upd h hu hd

theorem Ints.upd0 {w w' : World} {v : Value} {l : List ByteArray} (h : Ints w v l) (hu : Upd [] w w') : Ints w' v l := sees_upd h hu (by simp)

theorem Ints.of_row {w : World} {base : Nat} {v : Value} {l : List ByteArray} (h : KI.row w base v l) : Ints w v l := sees_of_own h

end Go.Proofs.Ytkhgglafnjfiaaa.Str
