/- Boxes that came in, as the form of the statements tells them. -/
import Derived.Test.YthnbgfnclpkdjaaGreatArgS
import Derived.Test.YthnbgfnclpkdjaaGreatItemK
import Derived.ProofKit
namespace Go.Proofs.YthnbgfnclpkdjaaGreat
open Go.RowKit

def IsBxs (w : World) (v : Value) (l : List Bx) : Prop := See KBx w v l

theorem u32_nat {x : Int} (h : (Lit.int .u32 x).wf = true) : ∃ n : Nat, x = (n : Int) ∧ n < 4294967296 := by
  simp [Lit.wf, IntKind.min, IntKind.max, IntKind.signed, IntKind.bits] at h
  exact ⟨x.toNat, by omega, by omega⟩

theorem i64_in {x : Int} (h : (Lit.int .i64 x).wf = true) : -9223372036854775808 ≤ x ∧ x ≤ 9223372036854775807 := by
  simp [Lit.wf, IntKind.min, IntKind.max, IntKind.signed, IntKind.bits] at h
  omega

theorem bxs_of_rows {w : World} {v : Value} {rows : List (List Value)} (h : SeesRows w 5 v rows) (hr : ∀ r ∈ rows, ∃ b : Bx, r = KBx.enc b ∧ b.in64) :
    ∃ l : List Bx, l.length = rows.length ∧ IsBxs w v l ∧ ∀ b ∈ l, b.in64 := by
  have : ∃ l : List Bx, rows = l.map KBx.enc ∧ ∀ b ∈ l, b.in64 := by
    clear h
    induction rows with
    | nil => exact ⟨[], rfl, by simp⟩
    | cons a rows ih =>
      obtain ⟨l, e, hl⟩ := ih fun r h => hr r (by simp [h])
      obtain ⟨b, e1, e2⟩ := hr a (by simp)
      refine ⟨b :: l, by rw [e, e1]; rfl, fun o ho => ?_⟩
      rcases List.mem_cons.1 ho with rfl | ho
      · exact e2
      · exact hl o ho
  obtain ⟨l, rfl, hl⟩ := this
  refine ⟨l, by simp, ?_, hl⟩
  have := h.2
  rw [List.length_map] at this
  unfold IsBxs See Kind.all
  rw [List.flatMap]
  exact this
end Go.Proofs.YthnbgfnclpkdjaaGreat

namespace Go.Proofs.YthnbgfnclpkdjaaGreat
open Go.ChangeShapes Go.WideShapes Go.Deep Go.RowKit

theorem bxs_opened {H : Type} {enc : TypeId × Value → H} {w : World} {base : Nat} {held : Bool} {fuel : Nat} {v : Value} {x : DataW H × List MemPlace}
    (h : DataW.trod enc Tryz.prog w base (fun _ => true) held fuel 60 [v] = some x) :
    ∃ l : List Bx, IsBxs w v l ∧ (∀ b ∈ l, b.in64) ∧ l.length ≤ maxLen := by
  obtain ⟨rows, h1, h2, h3⟩ := structs_of_arg Tryz.underlying60 Tryz.underlying43 (by kernel_rfl) (by kernel_rfl) (by decide) (fun _ => rfl) h
  obtain ⟨l, e, h4, h5⟩ := bxs_of_rows (rows := rows) h1 (fun r hr => by
    obtain ⟨i, hi⟩ := List.mem_iff_getElem?.1 hr
    obtain ⟨u0, y0, n0, g0, t0⟩ := h3 i r hi 0 _ rfl
    obtain ⟨u1, y1, n1, g1, t1⟩ := h3 i r hi 1 _ rfl
    obtain ⟨u2, y2, n2, g2, t2⟩ := h3 i r hi 2 _ rfl
    obtain ⟨u3, y3, n3, g3, t3⟩ := h3 i r hi 3 _ rfl
    obtain ⟨u4, y4, n4, g4, t4⟩ := h3 i r hi 4 _ rfl
    obtain ⟨a0, e0, _, w0⟩ := DataW.trod_int Tryz.underlying2 t0
    obtain ⟨a1, e1, _, w1⟩ := DataW.trod_int Tryz.underlying2 t1
    obtain ⟨a2, e2, _, w2⟩ := DataW.trod_int Tryz.underlying2 t2
    obtain ⟨a3, e3, _, w3⟩ := DataW.trod_int Tryz.underlying2 t3
    obtain ⟨a4, e4, _, w4⟩ := DataW.trod_int Tryz.underlying23 t4
    have hl : r.length = 5 := h1.1 r hr
    injection e0 with e0 _
    injection e1 with e1 _
    injection e2 with e2 _
    injection e3 with e3 _
    injection e4 with e4 _
    subst e0 e1 e2 e3 e4
    obtain ⟨n, rfl, _⟩ := u32_nat w4
    refine ⟨⟨a0, a1, a2, a3, n⟩, ?_, i64_in w0, i64_in w1, i64_in w2, i64_in w3⟩
    match r, hl with
    | [c0, c1, c2, c3, c4], _ =>
      simp at g0 g1 g2 g3 g4
      rw [g0, g1, g2, g3, g4]
      rfl)
  exact ⟨l, h4, h5, by rw [e]; exact h2⟩
/-- A struct of one-cell fields that came in by value: its fields' readings. -/
theorem fields_opened {H : Type} {enc : TypeId × Value → H} {P : Program} {w : World} {base : Nat} {spare : Nat → Bool} {held : Bool} {r : Reach} {b0 : Nat} {t : TypeId} {fs : Array Field} {v : Value} {d : DataW H} {p : List MemPlace}
    (ht : P.underlying t = some (.struct fs)) (hone : oneCellFields P fs = true) (hC : P.cellsOf t = fs.size) (hv : Value.okWide P w r b0 t v) (h : DataW.Trod enc P w base spare held t v d p) :
    ∃ cs : List Value, v = .agg cs.toArray ∧ cs.length = fs.size ∧ ∀ (j : Nat) (f : Field), fs[j]? = some f → ∃ (u : Value) (y : DataW H × List MemPlace) (n : Nat), cs[j]? = some u ∧ DataW.trod enc P w base spare held n f.type [u] = some y := by
  obtain ⟨cs, rfl, hsz⟩ := okWide_struct ht hv
  obtain ⟨fuel, hf⟩ := h
  obtain ⟨xs, n, _, _, _, hlen, hg⟩ := DataW.trod_struct ht hf
  obtain ⟨l⟩ := cs
  have hl : l.length = fs.size := hsz.trans hC
  refine ⟨l, rfl, hl, fun j f hj => ?_⟩
  have hjl : j < fs.size := (Array.getElem?_eq_some_iff.1 hj).1
  obtain ⟨ho, hk⟩ := hone_of hone j f hj
  have h1 := hg j f hj
  rw [ho, hk] at h1
  have e : ((Value.agg ⟨l⟩).cells.toList.drop j).take 1 = [l[j]'(by omega)] := by
    show (l.drop j).take 1 = _
    rw [List.drop_eq_getElem_cons (by omega)]
    rfl
  rw [e] at h1
  exact ⟨_, _, n, List.getElem?_eq_getElem (by omega), h1.trans (List.getElem?_eq_getElem (by omega))⟩

set_option maxRecDepth 100000 in
theorem box_opened {H : Type} {enc : TypeId × Value → H} {w : World} {base : Nat} {spare : Nat → Bool} {held : Bool} {r : Reach} {b0 : Nat} {v : Value} {d : DataW H} {p : List MemPlace}
    (hv : Value.okWide Tryz.prog w r b0 43 v) (h : DataW.Trod enc Tryz.prog w base spare held 43 v d p) : ∃ b : Bx, v = bxV b ∧ b.in64 := by
  obtain ⟨cs, rfl, hl, hf⟩ := fields_opened Tryz.underlying43 (by kernel_rfl) (by kernel_rfl) hv h
  obtain ⟨u0, y0, n0, g0, t0⟩ := hf 0 _ rfl
  obtain ⟨u1, y1, n1, g1, t1⟩ := hf 1 _ rfl
  obtain ⟨u2, y2, n2, g2, t2⟩ := hf 2 _ rfl
  obtain ⟨u3, y3, n3, g3, t3⟩ := hf 3 _ rfl
  obtain ⟨u4, y4, n4, g4, t4⟩ := hf 4 _ rfl
  obtain ⟨a0, e0, _, w0⟩ := DataW.trod_int Tryz.underlying2 t0
  obtain ⟨a1, e1, _, w1⟩ := DataW.trod_int Tryz.underlying2 t1
  obtain ⟨a2, e2, _, w2⟩ := DataW.trod_int Tryz.underlying2 t2
  obtain ⟨a3, e3, _, w3⟩ := DataW.trod_int Tryz.underlying2 t3
  obtain ⟨a4, e4, _, w4⟩ := DataW.trod_int Tryz.underlying23 t4
  injection e0 with e0 _
  injection e1 with e1 _
  injection e2 with e2 _
  injection e3 with e3 _
  injection e4 with e4 _
  subst e0 e1 e2 e3 e4
  obtain ⟨n, rfl, _⟩ := u32_nat w4
  refine ⟨⟨a0, a1, a2, a3, n⟩, ?_, i64_in w0, i64_in w1, i64_in w2, i64_in w3⟩
  have hl5 : cs.length = 5 := hl
  match cs, hl5 with
  | [c0, c1, c2, c3, c4], _ =>
    simp at g0 g1 g2 g3 g4
    rw [g0, g1, g2, g3, g4]
    rfl
end Go.Proofs.YthnbgfnclpkdjaaGreat
