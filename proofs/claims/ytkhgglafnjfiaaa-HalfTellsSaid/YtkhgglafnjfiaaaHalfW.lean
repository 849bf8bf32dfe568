/- Half, plainly: what one operation makes, and how much it may be after so many. What the statements' walks take of a Half: Add, Drop, and what it tells, from a world in which it lay on. -/
import Derived.Test.YtkhgglafnjfiaaaHalfV
import Derived.Test.YtkhgglafnjfiaaaHalfNew
import Derived.Test.YtkhgglafnjfiaaaHalfAdd
import Derived.Test.YtkhgglafnjfiaaaHalfDrop
import Derived.Test.YtkhgglafnjfiaaaHalfEq
namespace Go.Proofs.Ytkhgglafnjfiaaa

def has (S : HS) (x : Int) : Bool := (S.mp.lookup x).isSome
def putS (S : HS) (x : Int) : HS := if has S x then S else addS S x
def putN (S : HS) (x : Int) : Nat := if has S x then 0 else 2 ^ firstE (setB S.cs)
def lessS (S : HS) (x : Int) : HS := if has S x then dropS S x ((S.mp.lookup x).getD 0).toNat else S
def lessN (S : HS) (x : Int) : Nat := if has S x then (if 2 * (mdel S.mp x).length < S.cs.length then (mdel S.mp x).length else 0) else 0

structure HOk (S : HS) (m : Nat) : Prop where
  inv : HInv S
  cs : S.cs.length ≤ m
  al : S.al.length ≤ m
  wk : S.wk ≤ 1001 * m

theorem HOk.mono {S : HS} {m n : Nat} (h : HOk S m) (hm : m ≤ n) : HOk S n := ⟨h.inv, Nat.le_trans h.cs hm, Nat.le_trans h.al hm, by have := h.wk; omega⟩

theorem HOk.look {S : HS} {m : Nat} (h : HOk S m) {x : Int} (hx : has S x = true) : ∃ k : Nat, S.mp.lookup x = some (k : Int) := by
  unfold has at hx
  obtain ⟨k, hk⟩ := Option.isSome_iff_exists.1 hx
  obtain ⟨n, rfl, _⟩ := h.inv.core.num hk
  exact ⟨n, hk⟩

theorem has_none {S : HS} {x : Int} (hx : has S x = false) : S.mp.lookup x = none := by
  unfold has at hx
  cases h : S.mp.lookup x with
  | none => rfl
  | some k => rw [h] at hx; cases hx

theorem HOk.put {S : HS} {m : Nat} (h : HOk S m) (hm : m < 1000) (x : Int) : HOk (putS S x) (m + 1) := by
  unfold putS
  by_cases hx : has S x = true
  · rw [if_pos hx]; exact h.mono (by omega)
  · rw [if_neg hx]
    have hx' : has S x = false := by simpa using hx
    have hc := h.cs
    have ha := h.al
    have hw := h.wk
    refine ⟨h.inv.add x (has_none hx') (by omega), ?_, ?_, ?_⟩
    · show (S.cs ++ [(x, S.al.length)]).length ≤ m + 1
      rw [List.length_append]; simp; omega
    · show (S.al ++ [true]).length ≤ m + 1
      rw [List.length_append]; simp; omega
    · show S.wk + 2 ^ firstE (setB S.cs) ≤ 1001 * (m + 1)
      have e1 := (gath_set S.cs (x, S.al.length)).2
      have e2 : (gath (setB S.cs) (x, S.al.length)).length ≤ S.cs.length + 1 := by
        rw [(gath_set S.cs (x, S.al.length)).1, List.length_append, List.length_drop]; simp
      omega

theorem anewTo_al (S : HS) (n : Nat) : (anewTo S n).al = S.al := (anewTo_keep S n).2.1

theorem vAll_len (V : List (Int × Bool)) : (vAll V).length ≤ V.length := by
  unfold vAll
  rw [List.length_map]
  exact List.length_filter_le _ _

theorem vKill_len (V : List (Int × Bool)) (x : Int) : (vKill V x).length = V.length := by simp [vKill]

theorem vDrop_len (V : List (Int × Bool)) (x : Int) : (vDrop V x).length ≤ V.length := by
  unfold vDrop
  split
  · rw [List.length_map]
    have := vAll_len (vKill V x)
    rw [vKill_len] at this
    exact this
  · rw [vKill_len]; exact Nat.le_refl _

theorem HOk.less {S : HS} {m : Nat} (h : HOk S m) (hm : m < 1000) (x : Int) : HOk (lessS S x) (m + 1) := by
  unfold lessS
  by_cases hx : has S x = true
  · rw [if_pos hx]
    obtain ⟨k, hk⟩ := h.look hx
    rw [hk]
    show HOk (dropS S x ((k : Int)).toNat) (m + 1)
    rw [Int.toNat_natCast]
    have hc := h.cs
    have ha := h.al
    have hw := h.wk
    refine ⟨h.inv.drop hk (by omega), ?_, ?_, ?_⟩
    · have e1 := view_drop h.inv hk
      have e2 := vDrop_len (view S) x
      rw [← e1, view_len, view_len] at e2
      omega
    · unfold dropS
      split
      · unfold anewS
        rw [anewTo_al]
        show (S.al.set k false).length ≤ m + 1
        rw [List.length_set]; omega
      · show (S.al.set k false).length ≤ m + 1
        rw [List.length_set]; omega
    · rw [wk_drop h.inv hk]
      have e1 := vAll_len (vKill (view S) x)
      rw [vKill_len, view_len] at e1
      split <;> omega
  · rw [if_neg hx]; exact h.mono (by omega)

def vPut (V : List (Int × Bool)) (x : Int) : List (Int × Bool) := if (x, true) ∈ V then V else V ++ [(x, true)]
def vLess (V : List (Int × Bool)) (x : Int) : List (Int × Bool) := if (x, true) ∈ V then vDrop V x else V

theorem HOk.has {S : HS} {m : Nat} (h : HOk S m) (x : Int) : has S x = decide ((x, true) ∈ view S) := h.inv.core.there x

theorem HOk.vput {S : HS} {m : Nat} (h : HOk S m) (x : Int) : view (putS S x) = vPut (view S) x := by
  unfold putS vPut
  rw [h.has]
  by_cases hx : (x, true) ∈ view S
  · simp [hx]
  · simp [hx]
    exact view_add h.inv x

theorem HOk.vless {S : HS} {m : Nat} (h : HOk S m) (x : Int) : view (lessS S x) = vLess (view S) x := by
  by_cases hx : Go.Proofs.Ytkhgglafnjfiaaa.has S x = true
  · obtain ⟨k, hk⟩ := h.look hx
    have hv : (x, true) ∈ view S := by rw [h.has] at hx; simpa using hx
    unfold lessS vLess
    rw [if_pos hx, if_pos hv, hk]
    exact view_drop h.inv hk
  · have hv : (x, true) ∉ view S := by rw [h.has] at hx; simpa using hx
    unfold lessS vLess
    rw [if_neg hx, if_neg hv]

theorem mem_vAll {V : List (Int × Bool)} {x : Int} : x ∈ vAll V ↔ (x, true) ∈ V := by
  unfold vAll
  rw [List.mem_map]
  constructor
  · rintro ⟨⟨a, b⟩, h, rfl⟩
    rw [List.mem_filter] at h
    obtain ⟨h1, h2⟩ := h
    simp at h2
    subst h2
    exact h1
  · intro h
    exact ⟨(x, true), List.mem_filter.2 ⟨h, rfl⟩, rfl⟩

/-- Behind an Add. -/
theorem vAll_put (V : List (Int × Bool)) (x : Int) : vAll (vPut V x) = if x ∈ vAll V then vAll V else vAll V ++ [x] := by
  unfold vPut
  by_cases h : (x, true) ∈ V
  · rw [if_pos h, if_pos (mem_vAll.2 h)]
  · rw [if_neg h, if_neg (fun hc => h (mem_vAll.1 hc))]
    simp [vAll]

theorem vAll_kill (V : List (Int × Bool)) (x : Int) : vAll (vKill V x) = (vAll V).filter fun y => y != x := by
  unfold vAll vKill
  induction V with
  | nil => rfl
  | cons a V ih =>
    rcases a with ⟨y, b⟩
    by_cases hy : y = x <;> cases b <;> simp_all

theorem vAll_drop (V : List (Int × Bool)) (x : Int) : vAll (vDrop V x) = (vAll V).filter fun y => y != x := by
  unfold vDrop
  split
  · rw [← vAll_kill]
    simp [vAll, List.filter_map]
  · exact vAll_kill V x

theorem vAll_less (V : List (Int × Bool)) (x : Int) : vAll (vLess V x) = (vAll V).filter fun y => y != x := by
  unfold vLess
  by_cases h : (x, true) ∈ V
  · rw [if_pos h]; exact vAll_drop V x
  · rw [if_neg h, List.filter_eq_self.2]
    intro y hy
    have : y ≠ x := by rintro rfl; exact h (mem_vAll.1 hy)
    simpa using this

/-- What is alive is alive once. -/
theorem HOk.nodup {S : HS} {m : Nat} (h : HOk S m) : (vAll (view S)).Nodup := by
  rw [view_all]
  have hk := h.inv.keys
  have hp := h.inv.mpp.map (fun p : Int × Int => p.1)
  rw [List.map_map] at hp
  have := hp.nodup_iff.1 hk
  exact this

/-- One operation: a Drop, or an Add. -/
def opS (S : HS) (d : Bool) (x : Int) : HS := if d then lessS S x else putS S x

theorem HOk.op {S : HS} {m : Nat} (h : HOk S m) (hm : m < 1000) (d : Bool) (x : Int) : HOk (opS S d x) (m + 1) := by
  cases d
  · exact h.put hm x
  · exact h.less hm x

theorem HOk.op_all {S : HS} {m : Nat} (h : HOk S m) (d : Bool) (x : Int) :
    vAll (view (opS S d x)) = if d then (vAll (view S)).filter (fun y => y != x) else if x ∈ vAll (view S) then vAll (view S) else vAll (view S) ++ [x] := by
  cases d
  · show vAll (view (putS S x)) = _
    rw [h.vput, vAll_put]; rfl
  · show vAll (view (lessS S x)) = _
    rw [h.vless, vAll_less]; rfl
end Go.Proofs.Ytkhgglafnjfiaaa

namespace Go.Proofs.Ytkhgglafnjfiaaa
open Go.RowKit

variable {W w : World} {hv : Value} {F : List Nat} {S : HS} {m : Nat}

theorem addW (H : HStep W w hv F S) (O : HOk S m) (hm : m < 1000) (x : Int) (hx : (Lit.int .i64 x).wf = true) :
    Calls Try.prog 40 #[hv, .int .i64 x] w fun e w' => e = .returned (.tuple #[.int .i64 (putN S x : Nat), .bool (!has S x)]) ∧ HStep W w' hv F (putS S x) := by
  obtain ⟨F', h1, h2, h3⟩ := H
  have hc := O.cs
  have ha := O.al
  have hw := O.wk
  by_cases hh : has S x = true
  · obtain ⟨k, hk⟩ := O.look hh
    refine (add_there hv F' S x k w h1 hx hk).mono ?_
    rintro e w' ⟨rfl, rfl⟩
    unfold putN putS
    rw [if_pos hh, if_pos hh, hh]
    exact ⟨rfl, F', h1, h2, h3⟩
  · have hh' : has S x = false := by simpa using hh
    refine (add22 hv F' S x w h1 O.inv hx (has_none hh') (by omega) (by omega) (by omega)).mono ?_
    rintro e w' ⟨rfl, hst⟩
    unfold putN putS
    rw [if_neg hh, if_neg hh, hh']
    exact ⟨rfl, HStep.next h2 h3 hst⟩

theorem dropW (H : HStep W w hv F S) (O : HOk S m) (hm : m < 1000) (x : Int) (hx : (Lit.int .i64 x).wf = true) :
    Calls Try.prog 39 #[hv, .int .i64 x] w fun e w' => e = .returned (.tuple #[.int .i64 (lessN S x : Nat), .bool (has S x)]) ∧ HStep W w' hv F (lessS S x) := by
  obtain ⟨F', h1, h2, h3⟩ := H
  have hc := O.cs
  have hw := O.wk
  by_cases hh : has S x = true
  · obtain ⟨k, hk⟩ := O.look hh
    refine (drop_there hv F' S x k w h1 O.inv hx hk (by omega) (by omega)).mono ?_
    rintro e w' ⟨rfl, hst⟩
    unfold lessN lessS
    rw [if_pos hh, if_pos hh, hh, hk]
    exact ⟨rfl, HStep.next h2 h3 hst⟩
  · have hh' : has S x = false := by simpa using hh
    refine (drop_none hv F' S x w h1 hx (has_none hh')).mono ?_
    rintro e w' ⟨rfl, rfl⟩
    unfold lessN lessS
    rw [if_neg hh, if_neg hh, hh']
    exact ⟨rfl, F', h1, h2, h3⟩

theorem lenW (H : HStep W w hv F S) (O : HOk S m) :
    Calls Try.prog 48 #[hv] w fun e w' => e = .returned (.int .i64 (vAll (view S)).length) ∧ w = w' := by
  obtain ⟨F', h1, h2, h3⟩ := H
  rw [← O.inv.core.mp_len]
  exact len22 hv F' S w h1

theorem storedW (H : HStep W w hv F S) :
    Calls Try.prog 49 #[hv] w fun e w' => e = .returned (.int .i64 (view S).length) ∧ w = w' := by
  obtain ⟨F', h1, h2, h3⟩ := H
  rw [view_len]
  exact stored22 hv F' S w h1

theorem workW (H : HStep W w hv F S) :
    Calls Try.prog 50 #[hv] w fun e w' => e = .returned (.int .i64 S.wk) ∧ w = w' := by
  obtain ⟨F', h1, h2, h3⟩ := H
  exact work22 hv F' S w h1

theorem allW (H : HStep W w hv F S) (O : HOk S m) (hm : m < 10000) :
    Calls Try.prog 42 #[hv] w fun e w' => ∃ A C, e = .returned (.slice A (vAll (view S)).length C) ∧ KI.row w' w.heap.size (.slice A (vAll (view S)).length C) (vAll (view S)) ∧ Upd [] w w' := by
  obtain ⟨F', h1, h2, h3⟩ := H
  rw [view_all]
  exact all22 hv F' S w h1 O.inv.lt (by have := O.cs; omega)

theorem treesEqW (H : HStep W w hv F S) (O : HOk S m) (hm : m < 10000) (v : Value) (ww : List (List Int)) (hw : RowsSee w v ww) (hwl : ww.length < 1000000) (hww : ∀ l ∈ ww, l.length < 1000000) :
    Calls Try.prog 51 #[hv, v] w fun e w' => e = .returned (.bool (decide (treesL S = ww))) ∧ Upd [] w w' := by
  obtain ⟨F', h1, h2, h3⟩ := H
  exact treesEq hv F' S v ww w h1 O.inv (by have := O.cs; omega) hw hwl hww

theorem newW (w : World) :
    Calls Try.prog 36 #[fnBuild, fnDrop] w fun e w' => ∃ b F, e = .returned (.pointer (some ⟨b, 0, none⟩)) ∧ IsHalf w' (.pointer (some ⟨b, 0, none⟩)) F S00 ∧ Upd [] w w' ∧ ∀ x ∈ F, w.heap.size ≤ x ∧ x < w'.heap.size := by
  refine (new22 w).mono ?_
  rintro e w' ⟨b, F, rfl, h1, h2, h3⟩
  exact ⟨b, F, rfl, h1, h2, fun x hx => ⟨h3 x hx, h1.lt x hx⟩⟩

theorem ok00 : HOk S00 0 := ⟨inv00, Nat.le_refl _, Nat.le_refl _, Nat.le_refl _⟩
theorem view00 : view S00 = [] := rfl
end Go.Proofs.Ytkhgglafnjfiaaa
