/- Spans that come and go, as the form of the statements tells them. -/
import Derived.Test.YtcpompbiohaomaaArgS
import Derived.Test.YtcpompbiohaomaaArgL
import Derived.Test.YtcpompbiohaomaaKn
import Derived.ProofKit
namespace Go.Proofs.Ytcpompbiohaomaa
open Go.RowKit

structure Op16 where
  d : Bool
  lo : Int
  hi : Int

def KO : Kind Op16 := { T := 0, sT := 23, eT := 37, sz := 3, enc := fun x => [.bool x.d, .int .i64 x.lo, .int .i64 x.hi], len := fun _ => rfl, one := fun x u hu => by simp at hu; rcases hu with rfl | rfl | rfl <;> rfl }

theorem KO.at {w : World} {A : Option Addr} {n C : Nat} {l : List Op16} (h : See KO w (.slice A n C) l) {k : Nat} {x : Op16} (hx : l[k]? = some x) :
    ∃ b o, A = some ⟨b, o, none⟩ ∧ n ≤ C ∧ C ≤ maxLen ∧ w.cell? ⟨b, o + k * 3, none⟩ = some (.bool x.d) ∧ w.cell? ⟨b, o + k * 3 + 1, none⟩ = some (.int .i64 x.lo) ∧ w.cell? ⟨b, o + k * 3 + 2, none⟩ = some (.int .i64 x.hi) := by
  obtain ⟨b, o, h1, h2, h3, h4⟩ := h.at hx
  exact ⟨b, o, h1, h2, h3, h4 0 _ rfl, h4 1 _ rfl, h4 2 _ rfl⟩

def IsO (w : World) (v : Value) (l : List Op16) : Prop := See KO w v l

theorem o_of_rows {w : World} {v : Value} {rows : List (List Value)} (h : SeesRows w 3 v rows) (hr : ∀ r ∈ rows, ∃ (d : Bool) (a b : Int), r = [.bool d, .int .i64 a, .int .i64 b]) :
    ∃ l : List Op16, l.length = rows.length ∧ IsO w v l := by
  have : ∃ l : List Op16, rows = l.map KO.enc := by
    clear h
    induction rows with
    | nil => exact ⟨[], rfl⟩
    | cons a rows ih =>
      obtain ⟨l, e⟩ := ih fun r h => hr r (by simp [h])
      obtain ⟨d, x, y, e1⟩ := hr a (by simp)
      exact ⟨⟨d, x, y⟩ :: l, by rw [e, e1]; rfl⟩
  obtain ⟨l, rfl⟩ := this
  refine ⟨l, by simp, ?_⟩
  have := h.2
  rw [List.length_map] at this
  unfold IsO See Kind.all
  rw [List.flatMap]
  exact this
end Go.Proofs.Ytcpompbiohaomaa

namespace Go.Proofs.Ytcpompbiohaomaa
open Go.ChangeShapes Go.WideShapes Go.Deep Go.RowKit

theorem o_opened {H : Type} {enc : TypeId × Value → H} {w : World} {base : Nat} {held : Bool} {fuel : Nat} {v : Value} {x : DataW H × List MemPlace}
    (h : DataW.trod enc Try.prog w base (fun _ => true) held fuel 23 [v] = some x) :
    ∃ l : List Op16, IsO w v l ∧ True ∧ l.length ≤ maxLen := by
  obtain ⟨rows, h1, h2, h3⟩ := structs_of_arg Try.underlying23 Try.underlying37 (by kernel_rfl) (by kernel_rfl) (by decide) (fun _ => rfl) h
  obtain ⟨l, e, h4⟩ := o_of_rows (rows := rows) h1 (fun r hr => by
    obtain ⟨i, hi⟩ := List.mem_iff_getElem?.1 hr
    obtain ⟨u0, y0, n0, g0, t0⟩ := h3 i r hi 0 _ rfl
    obtain ⟨u1, y1, n1, g1, t1⟩ := h3 i r hi 1 _ rfl
    obtain ⟨u2, y2, n2, g2, t2⟩ := h3 i r hi 2 _ rfl
    obtain ⟨b, e0, _⟩ := DataW.trod_bool Try.underlying4 t0
    obtain ⟨z, e1, _, -⟩ := DataW.trod_int Try.underlying2 t1
    obtain ⟨y, e2, _, -⟩ := DataW.trod_int Try.underlying2 t2
    have hl : r.length = 3 := h1.1 r hr
    injection e0 with e0 _
    injection e1 with e1 _
    injection e2 with e2 _
    subst e0 e1 e2
    refine ⟨b, z, y, ?_⟩
    match r, hl with
    | [a, c, d], _ =>
      simp at g0 g1 g2
      rw [g0, g1, g2])
  exact ⟨l, h4, trivial, by rw [e]; exact h2⟩
end Go.Proofs.Ytcpompbiohaomaa
