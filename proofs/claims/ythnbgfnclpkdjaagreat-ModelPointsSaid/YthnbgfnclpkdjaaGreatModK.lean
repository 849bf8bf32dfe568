/- Kinds of items (points, spans, boxes): as values, in lists, in maps; where a model lies. -/
import Derived.Test.YthnbgfnclpkdjaaGreatMapU
import Derived.Test.YthnbgfnclpkdjaaGreatModL
import Derived.Test.YthnbgfnclpkdjaaGreatItemK
import Derived.Test.YthnbgfnclpkdjaaGreatSrtK
namespace Go.Proofs.YthnbgfnclpkdjaaGreat
open Go.RowKit

def ptV (p : Pt) : Value := .agg #[.int .i64 p.x, .int .i64 p.y, .int .u32 (p.id : Int)]
def spV (s : Sp) : Value := .agg #[.int .i64 s.lo, .int .i64 s.hi, .int .u32 (s.id : Int)]

def KPt : Kind Pt := { T := 0, sT := 44, eT := 47, sz := 3, enc := fun p => [.int .i64 p.x, .int .i64 p.y, .int .u32 (p.id : Int)], len := fun _ => rfl, one := fun b u hu => by simp at hu; rcases hu with rfl | rfl | rfl <;> rfl }
def KSp : Kind Sp := { T := 0, sT := 59, eT := 52, sz := 3, enc := fun p => [.int .i64 p.lo, .int .i64 p.hi, .int .u32 (p.id : Int)], len := fun _ => rfl, one := fun b u hu => by simp at hu; rcases hu with rfl | rfl | rfl <;> rfl }

theorem info_point : (Tryz.prog.info? 47).map (fun i => (i.zero, i.size, i.bytes)) = some (some (.agg #[.int .i64 0, .int .i64 0, .int .u32 0]), 3, 24) := by kernel_rfl
theorem info_span : (Tryz.prog.info? 52).map (fun i => (i.zero, i.size, i.bytes)) = some (some (.agg #[.int .i64 0, .int .i64 0, .int .u32 0]), 3, 24) := by kernel_rfl
theorem info_boxK : (Tryz.prog.info? 43).map (fun i => (i.zero, i.size, i.bytes)) = some (some (.agg #[.int .i64 0, .int .i64 0, .int .i64 0, .int .i64 0, .int .u32 0]), 5, 40) := by kernel_rfl
theorem info_u32 : (Tryz.prog.info? 23).map (fun i => (i.zero, i.size, i.bytes)) = some (some (.int .u32 0), 1, 4) := by kernel_rfl

theorem ptV_inj (x y : Pt) (h : ptV x = ptV y) : x = y := by
    obtain ⟨a, b, c⟩ := x; obtain ⟨a', b', c'⟩ := y
    simp [ptV] at h
    obtain ⟨rfl, rfl, h⟩ := h
    have : c = c' := by omega
    subst this; rfl
def MKP : MK Pt := { T := 72, k := 23, e := 47, enc := ptV, zero := ⟨0, 0, 0⟩, hT := Tryz.underlying72, hk := Tryz.underlying23, hz := fun w => (by kernel_rfl), inj := ptV_inj }
theorem spV_inj (x y : Sp) (h : spV x = spV y) : x = y := by
    obtain ⟨a, b, c⟩ := x; obtain ⟨a', b', c'⟩ := y
    simp [spV] at h
    obtain ⟨rfl, rfl, h⟩ := h
    have : c = c' := by omega
    subst this; rfl
def MKS : MK Sp := { T := 73, k := 23, e := 52, enc := spV, zero := ⟨0, 0, 0⟩, hT := Tryz.underlying73, hk := Tryz.underlying23, hz := fun w => (by kernel_rfl), inj := spV_inj }
theorem bxV_inj (x y : Bx) (h : bxV x = bxV y) : x = y := by
    obtain ⟨a, b, c, d, e⟩ := x; obtain ⟨a', b', c', d', e'⟩ := y
    simp [bxV] at h
    obtain ⟨rfl, rfl, rfl, rfl, h⟩ := h
    have : e = e' := by omega
    subst this; rfl
def MKB : MK Bx := { T := 74, k := 23, e := 43, enc := bxV, zero := ⟨0, 0, 0, 0, 0⟩, hT := Tryz.underlying74, hk := Tryz.underlying23, hz := fun w => (by kernel_rfl), inj := bxV_inj }

/-- An operation by value. -/
def opV (o : OpP) : Value := .agg #[.int .u8 (o.code : Int), .int .i64 o.a, .int .i64 o.b, .int .i64 o.c, .int .i64 o.d, .int .u32 (o.id : Int)]

/-- A model at block h: its maps are at p, s, x. -/
structure MdAt (w : World) (h p s x : Nat) (m : Md) : Prop where
  head : w.heap[h]? = some (.cells #[.int .i64 (m.room : Int), .map (some p), .map (some s), .map (some x)] 76 (0, 0))
  ps : MapU MKP w p (findK Pt.id m.ps) m.ps.length
  ss : MapU MKS w s (findK Sp.id m.ss) m.ss.length
  bs : MapU MKB w x (findK Bx.id m.bs) m.bs.length
  ok : m.ok
  ne : p ≠ s ∧ p ≠ x ∧ s ≠ x


theorem MapU.not_cells {α : Type} {K : MK α} {w : World} {b n : Nat} {f : Nat → Option α} (hm : MapU K w b f n) {h : Nat} {l : Array Value} {t : TypeId} {c : Nat × Nat} (hh : w.heap[h]? = some (.cells l t c)) : h ≠ b := by
  rintro rfl
  obtain ⟨D, ⟨es, clock, hb, _⟩, _⟩ := hm
  rw [hh] at hb; cases hb

theorem MdAt.upd {F : List Nat} {w w' : World} {h p s x : Nat} {m : Md} (g : MdAt w h p s x m) (hu : Upd F w w') (h0 : h ∉ F) (h1 : p ∉ F) (h2 : s ∉ F) (h3 : x ∉ F) : MdAt w' h p s x m :=
  ⟨(hu.block h (lt_of_block g.head) h0).trans g.head, g.ps.upd hu h1, g.ss.upd hu h2, g.bs.upd hu h3, g.ok, g.ne⟩
theorem MdAt.upd0 {w w' : World} {h p s x : Nat} {m : Md} (g : MdAt w h p s x m) (hu : Upd [] w w') : MdAt w' h p s x m := g.upd hu (by simp) (by simp) (by simp) (by simp)
end Go.Proofs.YthnbgfnclpkdjaaGreat
