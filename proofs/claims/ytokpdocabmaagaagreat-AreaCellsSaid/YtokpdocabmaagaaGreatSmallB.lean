/- Small boxes: as they come in; as boxes. -/
import Derived.Test.YtokpdocabmaagaaGreatOpenBx
import Derived.Test.YtokpdocabmaagaaGreatVarB
import Derived.WalkKit
import Derived.LoopTactic
import Derived.Deep.Cut
import Derived.Deep.LoopGhost
import Derived.IntWalk
namespace Go.Proofs.YtokpdocabmaagaaGreat
open Go.RowKit

/-- A small box: four numbers of 8 bits. -/
structure Sm where
  x1 : Nat
  x2 : Nat
  y1 : Nat
  y2 : Nat
def Sm.ok (s : Sm) : Prop := s.x1 < 256 ∧ s.x2 < 256 ∧ s.y1 < 256 ∧ s.y2 < 256
def smB (s : Sm) : Bx := ⟨(s.x1 : Int) % 16, (s.x2 : Int) % 16, (s.y1 : Int) % 16, (s.y2 : Int) % 16, 0⟩

def KSm : Kind Sm := { T := 0, sT := 46, eT := 83, sz := 4, enc := fun s => [.int .u8 (s.x1 : Int), .int .u8 (s.x2 : Int), .int .u8 (s.y1 : Int), .int .u8 (s.y2 : Int)], len := fun _ => rfl, one := fun x u hu => by simp at hu; rcases hu with rfl | rfl | rfl | rfl <;> rfl }

theorem KSm.at {w : World} {A : Option Addr} {n C : Nat} {l : List Sm} (h : See KSm w (.slice A n C) l) {k : Nat} {s : Sm} (hx : l[k]? = some s) :
    ∃ b o, A = some ⟨b, o, none⟩ ∧ w.cell? ⟨b, o + k * 4, none⟩ = some (.int .u8 (s.x1 : Int)) ∧ w.cell? ⟨b, o + k * 4 + 1, none⟩ = some (.int .u8 (s.x2 : Int)) ∧ w.cell? ⟨b, o + k * 4 + 2, none⟩ = some (.int .u8 (s.y1 : Int)) ∧ w.cell? ⟨b, o + k * 4 + 3, none⟩ = some (.int .u8 (s.y2 : Int)) := by
  obtain ⟨b, o, h1, h2, h3, h4⟩ := h.at hx
  exact ⟨b, o, h1, h4 0 _ rfl, h4 1 _ rfl, h4 2 _ rfl, h4 3 _ rfl⟩

def IsSms (w : World) (v : Value) (l : List Sm) : Prop := See KSm w v l

theorem u8_nat {x : Int} (h : (Lit.int .u8 x).wf = true) : ∃ n : Nat, x = (n : Int) ∧ n < 256 := by
  simp [Lit.wf, IntKind.min, IntKind.max, IntKind.signed, IntKind.bits] at h
  exact ⟨x.toNat, by omega, by omega⟩

theorem sms_of_rows {w : World} {v : Value} {rows : List (List Value)} (h : SeesRows w 4 v rows) (hr : ∀ r ∈ rows, ∃ s : Sm, r = KSm.enc s ∧ s.ok) :
    ∃ l : List Sm, l.length = rows.length ∧ IsSms w v l ∧ ∀ s ∈ l, s.ok := by
  have : ∃ l : List Sm, rows = l.map KSm.enc ∧ ∀ s ∈ l, s.ok := by
    clear h
    induction rows with
    | nil => exact ⟨[], rfl, by simp⟩
    | cons a rows ih =>
      obtain ⟨l, e, hl⟩ := ih fun r h => hr r (by simp [h])
      obtain ⟨b, e1, e2⟩ := hr a (by simp)
      refine ⟨b :: l, by rw [e, e1]; rfl, fun o ho => ?_⟩
      rcases List.mem_cons.1 ho with rfl | ho
      · exact e2
      · exact hl o ho
  obtain ⟨l, rfl, hl⟩ := this
  refine ⟨l, by simp, ?_, hl⟩
  have := h.2
  rw [List.length_map] at this
  unfold IsSms See Kind.all
  rw [List.flatMap]
  exact this

/-- What Boxes leaves. -/
def BoxesPost (w : World) (l : List Sm) (e : Ending) (w' : World) : Prop := ∃ A C, e = .returned (.slice A l.length C) ∧ KBx.row w' w.heap.size (.slice A l.length C) (l.map smB) ∧ Upd [] w w'

theorem info_bxS : (Tryz.prog.info? 34).map (fun i => (i.zero, i.size, i.bytes)) = some (some (.agg #[.int .i64 0, .int .i64 0, .int .i64 0, .int .i64 0, .int .u32 0]), 5, 40) := by kernel_rfl
end Go.Proofs.YtokpdocabmaagaaGreat

namespace Go.Proofs.YtokpdocabmaagaaGreat
open Go.ChangeShapes Go.WideShapes Go.Deep Go.RowKit

theorem sms_opened {H : Type} {enc : TypeId × Value → H} {w : World} {base : Nat} {held : Bool} {fuel : Nat} {v : Value} {x : DataW H × List MemPlace}
    (h : DataW.trod enc Tryz.prog w base (fun _ => true) held fuel 46 [v] = some x) :
    ∃ l : List Sm, IsSms w v l ∧ (∀ s ∈ l, s.ok) ∧ l.length ≤ maxLen := by
  obtain ⟨rows, h1, h2, h3⟩ := structs_of_arg Tryz.underlying46 Tryz.underlying83 (by kernel_rfl) (by kernel_rfl) (by decide) (fun _ => rfl) h
  obtain ⟨l, e, h4, h5⟩ := sms_of_rows (rows := rows) h1 (fun r hr => by
    obtain ⟨i, hi⟩ := List.mem_iff_getElem?.1 hr
    obtain ⟨u0, y0, n0, g0, t0⟩ := h3 i r hi 0 _ rfl
    obtain ⟨u1, y1, n1, g1, t1⟩ := h3 i r hi 1 _ rfl
    obtain ⟨u2, y2, n2, g2, t2⟩ := h3 i r hi 2 _ rfl
    obtain ⟨u3, y3, n3, g3, t3⟩ := h3 i r hi 3 _ rfl
    obtain ⟨a0, e0, _, w0⟩ := DataW.trod_int Tryz.underlying5 t0
    obtain ⟨a1, e1, _, w1⟩ := DataW.trod_int Tryz.underlying5 t1
    obtain ⟨a2, e2, _, w2⟩ := DataW.trod_int Tryz.underlying5 t2
    obtain ⟨a3, e3, _, w3⟩ := DataW.trod_int Tryz.underlying5 t3
    have hl : r.length = 4 := h1.1 r hr
    injection e0 with e0 _
    injection e1 with e1 _
    injection e2 with e2 _
    injection e3 with e3 _
    subst e0 e1 e2 e3
    obtain ⟨m0, rfl, k0⟩ := u8_nat w0
    obtain ⟨m1, rfl, k1⟩ := u8_nat w1
    obtain ⟨m2, rfl, k2⟩ := u8_nat w2
    obtain ⟨m3, rfl, k3⟩ := u8_nat w3
    refine ⟨⟨m0, m1, m2, m3⟩, ?_, k0, k1, k2, k3⟩
    match r, hl with
    | [c0, c1, c2, c3], _ =>
      simp at g0 g1 g2 g3
      rw [g0, g1, g2, g3]
      rfl)
  exact ⟨l, h4, h5, by rw [e]; exact h2⟩
end Go.Proofs.YtokpdocabmaagaaGreat
