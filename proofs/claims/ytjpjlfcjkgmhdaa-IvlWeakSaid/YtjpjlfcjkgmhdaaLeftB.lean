/- What is left of spans of which some are dropped; slices of truths that came in. -/
import Derived.Test.YtjpjlfcjkgmhdaaSpanO
import Derived.Deep.Grids
namespace Go.Proofs.Ytjpjlfcjkgmhdaa
open Go.RowKit

/-- What is not dropped, from place k on. -/
def leftB (ld : List Bool) : Nat → List Sp → List Sp
  | _, [] => []
  | k, s :: r => if ld[k]? = some true then leftB ld (k + 1) r else s :: leftB ld (k + 1) r

theorem leftB_app (ld : List Bool) : ∀ (a b : List Sp) (k : Nat), leftB ld k (a ++ b) = leftB ld k a ++ leftB ld (k + a.length) b
  | [], b, k => by simp [leftB]
  | s :: a, b, k => by
    rw [List.cons_append, leftB, leftB, leftB_app ld a b (k + 1), List.length_cons, show k + 1 + a.length = k + (a.length + 1) by omega]
    split <;> rfl

theorem leftB_sub (ld : List Bool) : ∀ (a : List Sp) (k : Nat), (leftB ld k a).Sublist a
  | [], _ => List.Sublist.refl _
  | s :: a, k => by
    rw [leftB]
    split
    · exact (leftB_sub ld a (k + 1)).cons s
    · exact (leftB_sub ld a (k + 1)).cons_cons s

theorem leftB_step {ld : List Bool} {l : List Sp} {k : Nat} {s : Sp} (hs : l[k]? = some s) : leftB ld 0 (l.take (k + 1)) = leftB ld 0 (l.take k) ++ (if ld[k]? = some true then [] else [s]) := by
  obtain ⟨h1, h2⟩ := List.getElem?_eq_some_iff.1 hs
  rw [List.take_succ_eq_append_getElem h1, h2, leftB_app, List.length_take, Nat.min_eq_left (by omega), Nat.zero_add]
  congr 1

/-- What the tree has when the first k were looked at. -/
def nowB (ld : List Bool) (l : List Sp) (k : Nat) : List Sp := leftB ld 0 (l.take k) ++ l.drop k

theorem nowB_mem {ld : List Bool} {l : List Sp} {k : Nat} {s : Sp} (hs : l[k]? = some s) : s ∈ nowB ld l k := by
  obtain ⟨h1, h2⟩ := List.getElem?_eq_some_iff.1 hs
  unfold nowB
  rw [List.mem_append, List.drop_eq_getElem_cons h1, h2]
  exact .inr (by simp)

theorem nowB_sub (ld : List Bool) (l : List Sp) (k : Nat) : (nowB ld l k).Sublist l := by
  have h := List.Sublist.append (leftB_sub ld (l.take k) 0) (List.Sublist.refl (l.drop k))
  rw [List.take_append_drop] at h
  exact h

theorem nowB_keep {ld : List Bool} {l : List Sp} {k : Nat} {s : Sp} (hs : l[k]? = some s) (h : ¬ ld[k]? = some true) : nowB ld l (k + 1) = nowB ld l k := by
  obtain ⟨h1, h2⟩ := List.getElem?_eq_some_iff.1 hs
  unfold nowB
  rw [leftB_step hs, if_neg h, List.drop_eq_getElem_cons h1, h2, List.append_assoc]
  rfl

theorem nowB_drop {ld : List Bool} {l : List Sp} (hn : l.Nodup) {k : Nat} {s : Sp} (hs : l[k]? = some s) (h : ld[k]? = some true) : nowB ld l (k + 1) = without (nowB ld l k) s := by
  obtain ⟨h1, h2⟩ := List.getElem?_eq_some_iff.1 hs
  have hnd := List.Nodup.sublist (nowB_sub ld l k) hn
  unfold nowB at hnd ⊢
  rw [leftB_step hs, if_pos h, List.append_nil]
  rw [List.drop_eq_getElem_cons h1, h2] at hnd ⊢
  unfold without
  rw [List.filter_append, List.filter_cons, if_neg (by simp)]
  rw [List.nodup_append] at hnd
  obtain ⟨-, g2, g3⟩ := hnd
  rw [List.nodup_cons] at g2
  congr 1
  · symm
    rw [List.filter_eq_self]
    intro y hy
    simp only [decide_eq_true_eq]
    exact g3 y hy s (by simp)
  · symm
    rw [List.filter_eq_self]
    intro y hy
    simp only [decide_eq_true_eq]
    rintro rfl
    exact g2.1 hy

theorem rightS_sub {l m : List Sp} (h : m.Sublist l) (hr : rightS l = true) : rightS m = true := by
  rw [rightS_iff] at hr ⊢
  exact ⟨fun s hs => hr.1 s (h.subset hs), List.Nodup.sublist (h.map Sp.id) hr.2⟩

theorem KB.atS {w : World} {A : Option Addr} {n C : Nat} {l : List Bool} (h : See KB w (.slice A n C) l) {k : Nat} {x : Bool} (hx : l[k]? = some x) :
    ∃ b o, A = some ⟨b, o, none⟩ ∧ n ≤ C ∧ C ≤ maxLen ∧ w.cell? ⟨b, o + k, none⟩ = some (.bool x) := by
  obtain ⟨b, o, h1, h2, h3, h4⟩ := h.at hx
  have := h4 0 _ rfl
  exact ⟨b, o, h1, h2, h3, by simpa [KB] using this⟩

def IsBls (w : World) (v : Value) (l : List Bool) : Prop := See KB w v l
end Go.Proofs.Ytjpjlfcjkgmhdaa

namespace Go.Proofs.Ytjpjlfcjkgmhdaa
open Go.ChangeShapes Go.WideShapes Go.Deep Go.RowKit

theorem bools_opened {H : Type} {enc : TypeId × Value → H} {w : World} {base : Nat} {held : Bool} {fuel : Nat} {v : Value} {x : DataW H × List MemPlace}
    (h : DataW.trod enc Try.prog w base (fun _ => true) held fuel 50 [v] = some x) :
    ∃ l : List Bool, IsBls w v l ∧ True ∧ l.length ≤ maxLen := by
  rcases open_bools Try.underlying50 Try.underlying4 (by kernel_rfl) h with ⟨h0, -⟩ | ⟨a, len, cap, B, h0, -, hl, hm, -, hc⟩
  · injection h0 with h0 _
    subst h0
    exact ⟨[], ⟨rfl, .inl ⟨rfl, rfl⟩⟩, trivial, Nat.zero_le _⟩
  · injection h0 with h0 _
    subst h0
    have hsp : 0 < cap → a.spot = none := fun h1 => spot_none (hc 0 h1)
    refine ⟨(List.range len).map B, ?_, trivial, by simp; omega⟩
    unfold IsBls See
    refine ⟨by rw [KB_all]; simp; exact (Nat.mul_one _).symm, .inr ⟨a.block, a.off, a.spot, cap, by simp, hsp, by simpa using hl, hm, fun j u hu => ?_⟩⟩
    rw [KB_all, List.getElem?_map, List.getElem?_map] at hu
    by_cases hj : j < len
    · rw [List.getElem?_range hj] at hu
      simp at hu
      have h1 := hc j (by omega)
      have h2 := hsp (by omega)
      obtain ⟨b, o, s⟩ := a
      simp only at h2
      subst h2
      rw [addr_add] at h1
      rw [h1, hu]
    · rw [List.getElem?_eq_none (by simp; omega)] at hu
      simp at hu
end Go.Proofs.Ytjpjlfcjkgmhdaa
