/- What the document's Half says, plainly: where a thing is found, what Drop leaves, which trees there are. No program. The document's Half (gridironref22): Add. Printed by mkrefad.py. The document's Half (gridironref22): Trees. -/
import Derived.Test.YtkhgglafnjfiaaaRef22
import Derived.Test.YtkhgglafnjfiaaaRegR
namespace Go.Proofs.Ytkhgglafnjfiaaa

theorem vFind_cases (V : List (Int × Bool)) (x : Int) : (vFind V x = -1 ∧ (x, true) ∉ V) ∨ ∃ i : Nat, vFind V x = (i : Int) ∧ V[i]? = some (x, true) := by
  unfold vFind
  cases h : V.findIdx? (fun p => p == (x, true)) with
  | none =>
    refine .inl ⟨rfl, fun hm => ?_⟩
    rw [List.findIdx?_eq_none_iff] at h
    have := h _ hm
    simp at this
  | some i =>
    refine .inr ⟨i, rfl, ?_⟩
    rw [List.findIdx?_eq_some_iff_getElem] at h
    obtain ⟨h1, h2, -⟩ := h
    have e : V[i] = (x, true) := by simpa using h2
    rw [List.getElem?_eq_getElem h1, e]

theorem vAll_cons (p : Int × Bool) (V : List (Int × Bool)) : vAll (p :: V) = (if p.2 then [p.1] else []) ++ vAll V := by
  unfold vAll
  rw [List.filter_cons]
  split <;> rfl

theorem alive_one : ∀ {V : List (Int × Bool)} {x : Int} {i j : Nat}, (vAll V).Nodup → V[i]? = some (x, true) → V[j]? = some (x, true) → i = j
  | [], _, _, _, _, h, _ => by simp at h
  | p :: V, x, i, j, hn, hi, hj => by
    rw [vAll_cons, List.nodup_append] at hn
    obtain ⟨-, h2, h3⟩ := hn
    cases i with
    | zero =>
      cases j with
      | zero => rfl
      | succ j =>
        have hp : p = (x, true) := by simpa using hi
        have hm : x ∈ vAll V := mem_vAll.2 (List.mem_of_getElem? (by simpa using hj))
        rw [hp] at h3
        exact absurd rfl (h3 x (by simp) x hm)
    | succ i =>
      cases j with
      | zero =>
        have hp : p = (x, true) := by simpa using hj
        have hm : x ∈ vAll V := mem_vAll.2 (List.mem_of_getElem? (by simpa using hi))
        rw [hp] at h3
        exact absurd rfl (h3 x (by simp) x hm)
      | succ j => exact congrArg Nat.succ (alive_one h2 (by simpa using hi) (by simpa using hj))

theorem kill_set {V : List (Int × Bool)} {x : Int} {i : Nat} (hn : (vAll V).Nodup) (hi : V[i]? = some (x, true)) : V.set i (x, false) = vKill V x := by
  have hl := (List.getElem?_eq_some_iff.1 hi).1
  apply List.ext_getElem?
  intro j
  unfold vKill
  rw [List.getElem?_map]
  by_cases hj : i = j
  · subst hj
    rw [List.getElem?_set_self hl, hi]
    simp
  · rw [List.getElem?_set_ne hj]
    cases hv : V[j]? with
    | none => rfl
    | some p =>
      obtain ⟨y, c⟩ := p
      simp only [Option.map_some]
      by_cases hy : y = x
      · subst hy
        cases c with
        | false => simp
        | true => exact absurd (alive_one hn hi hv) hj
      · simp [hy]

theorem bucket_map {α β : Type} (f : α → β) (l : List α) (i : Nat) : bucketOf (l.map f) i = (bucketOf l i).map f := by
  unfold bucketOf
  rw [List.length_map]
  split
  · rw [← List.map_drop, ← List.map_take]
  · rfl

/-- The numbers of the buckets from m on that have any thing, the greatest first. -/
def idxV {α : Type} (V : List α) (m : Nat) : List Nat := ((List.range' m (bitsN V.length - m)).reverse).filter fun i => !(bucketOf V i).isEmpty

theorem idxV_top {α : Type} (V : List α) : idxV V (bitsN V.length) = [] := by simp [idxV]

theorem idxV_step {α : Type} (V : List α) (m : Nat) (h : m < bitsN V.length) : idxV V m = if (bucketOf V m).isEmpty then idxV V (m + 1) else idxV V (m + 1) ++ [m] := by
  unfold idxV
  rw [show bitsN V.length - m = (bitsN V.length - (m + 1)) + 1 by omega, List.range'_succ, List.reverse_cons, List.filter_append]
  by_cases he : (bucketOf V m).isEmpty = true
  · rw [if_pos he]; simp [he]
  · rw [if_neg he]; simp [he]

theorem idxV_len {α : Type} (V : List α) (m : Nat) : (idxV V m).length ≤ bitsN V.length := by
  unfold idxV
  refine Nat.le_trans (List.length_filter_le _ _) ?_
  simp

def vTreesFrom (V : List (Int × Bool)) (m : Nat) : List (List Int) := (idxV V m).map fun i => sortI (vAll (bucketOf V i))
def vTrees (V : List (Int × Bool)) : List (List Int) := vTreesFrom V 0

theorem vTrees_view (S : HS) : vTrees (view S) = treesL S := by
  unfold vTrees vTreesFrom treesL idxA idxF idxV
  rw [view_len]
  have hb : ∀ i, bucketOf (view S) i = (bucketOf S.cs i).map fun y => (y.1, S.al.getD y.2 false) := fun i => bucket_map _ _ _
  have hf : ∀ i, sortI (vAll (bucketOf (view S) i)) = sortI (live S.al (bucketOf S.cs i)) := fun i => by
    rw [hb]
    congr 1
    unfold vAll live liv
    induction bucketOf S.cs i with
    | nil => rfl
    | cons a l ih =>
      rw [List.map_cons, List.filter_cons, List.filter_cons]
      dsimp only
      cases hq : S.al.getD a.2 false with
      | true => rw [if_pos rfl, if_pos rfl, List.map_cons, List.map_cons, ih]
      | false => rw [if_neg (by simp), if_neg (by simp), ih]
  have he : ∀ i, (bucketOf (view S) i).isEmpty = (bucketOf S.cs i).isEmpty := fun i => by rw [hb]; cases bucketOf S.cs i <;> rfl
  rw [show (fun i => !(bucketOf (view S) i).isEmpty) = (fun i => !(bucketOf S.cs i).isEmpty) from funext fun i => by rw [he]]
  exact List.map_congr_left fun i _ => hf i

theorem vTreesFrom_step (V : List (Int × Bool)) (m : Nat) (h : m < bitsN V.length) : vTreesFrom V m = vTreesFrom V (m + 1) ++ (if (bucketOf V m).isEmpty then [] else [sortI (vAll (bucketOf V m))]) := by
  unfold vTreesFrom
  rw [idxV_step V m h]
  split
  · simp
  · rw [List.map_append]; rfl

theorem vTreesFrom_len (V : List (Int × Bool)) (m : Nat) : (vTreesFrom V m).length ≤ bitsN V.length := by
  unfold vTreesFrom
  rw [List.length_map]
  exact idxV_len V m

/-- The new one goes down one place. -/
theorem insI_step {M : List Int} {a : Nat} {y z : Int} (hz : M[a]? = some z) : (M.take (a + 1) ++ y :: M.drop (a + 1)).set (a + 1) z = M.take a ++ z :: M.drop a := by
  obtain ⟨h1, h2⟩ := List.getElem?_eq_some_iff.1 hz
  have hl : (M.take (a + 1)).length = a + 1 := by rw [List.length_take]; omega
  rw [List.set_append_right _ _ (by omega), hl, Nat.sub_self, List.set_cons_zero, List.drop_eq_getElem_cons h1, h2, List.take_succ_eq_append_getElem h1, h2, List.append_assoc]
  rfl

theorem insI_at {M : List Int} {a : Nat} {z y : Int} (hz : M[a]? = some z) : (M.take (a + 1) ++ y :: M.drop (a + 1))[a]? = some z := by
  obtain ⟨h1, h2⟩ := List.getElem?_eq_some_iff.1 hz
  rw [List.getElem?_append_left (by rw [List.length_take]; omega), List.getElem?_take, if_pos (by omega)]
  exact hz

theorem insI_done {M : List Int} {a : Nat} {x y : Int} (ha : a ≤ M.length) (hlo : ∀ z, 0 < a → M[a - 1]? = some z → z ≤ x) (hhi : ∀ z ∈ M.drop a, x < z) :
    (M.take a ++ y :: M.drop a).set a x = ins M x := by
  have hl : (M.take a).length = a := by rw [List.length_take]; omega
  rw [List.set_append_right _ _ (by omega), hl, Nat.sub_self, List.set_cons_zero]
  symm
  exact ins_at M x a ha hhi fun h => hlo _ h (List.getElem?_eq_getElem (by omega))

theorem ins_len (M : List Int) (x : Int) : (ins M x).length = M.length + 1 := by rw [(ins_perm M x).length_eq]; rfl

/-- The places of a list. -/
def placesI (n : Nat) : List Int := (List.range n).map fun (i : Nat) => (i : Int)
theorem placesI_len (n : Nat) : (placesI n).length = n := by simp [placesI]

theorem places_step {n k : Nat} (h : k < n) : ((placesI n).take k ++ List.replicate (n - k) (0 : Int)).set k (k : Int) = (placesI n).take (k + 1) ++ List.replicate (n - (k + 1)) 0 := by
  have hl : ((placesI n).take k).length = k := by rw [List.length_take, placesI_len]; omega
  have hk : (placesI n)[k]? = some (k : Int) := by unfold placesI; rw [List.getElem?_map, List.getElem?_range h]; rfl
  obtain ⟨h1, h2⟩ := List.getElem?_eq_some_iff.1 hk
  rw [List.set_append_right _ _ (by omega), hl, Nat.sub_self, show n - k = (n - (k + 1)) + 1 by omega, List.replicate_succ, List.set_cons_zero, List.take_succ_eq_append_getElem h1, h2, List.append_assoc]
  rfl

theorem places_at {n k : Nat} (h : k < n) : ((placesI n).take k ++ List.replicate (n - k) (0 : Int))[k]? = some 0 := by
  have hl : ((placesI n).take k).length = k := by rw [List.length_take, placesI_len]; omega
  rw [List.getElem?_append_right (by omega), hl, Nat.sub_self, List.getElem?_replicate, if_pos (by omega)]

theorem places_len {n k : Nat} (h : k ≤ n) : ((placesI n).take k ++ List.replicate (n - k) (0 : Int)).length = n := by
  rw [List.length_append, List.length_take, List.length_replicate, placesI_len]; omega

theorem bucket_places {V : List (Int × Bool)} {i k : Nat} {z : Int} (h : (bucketOf (placesI V.length) i)[k]? = some z) : ∃ j : Nat, z = (j : Int) ∧ j < V.length ∧ ∃ p, V[j]? = some p ∧ (bucketOf V i)[k]? = some p := by
  have e : V = (List.range V.length).map fun j => V[j]?.getD (0, false) := by
    apply List.ext_getElem?
    intro j
    rw [List.getElem?_map]
    by_cases hj : j < V.length
    · rw [List.getElem?_range hj, List.getElem?_eq_getElem hj]; simp [List.getElem?_eq_getElem hj]
    · rw [List.getElem?_eq_none (by omega), List.getElem?_eq_none (by simp; omega)]; rfl
  unfold placesI at h
  rw [bucket_map, List.getElem?_map] at h
  cases hq : (bucketOf (List.range V.length) i)[k]? with
  | none => rw [hq] at h; simp at h
  | some j =>
    rw [hq] at h
    have hz : (j : Int) = z := by simpa using h
    have hjl : j < V.length := by
      have hm : j ∈ List.range V.length := by
        have := List.mem_of_getElem? hq
        unfold bucketOf at this
        split at this
        · exact List.mem_of_mem_drop (List.mem_of_mem_take this)
        · simp at this
      exact List.mem_range.1 hm
    refine ⟨j, hz.symm, hjl, V[j], List.getElem?_eq_getElem hjl, ?_⟩
    have h2 : (bucketOf V i)[k]? = (bucketOf ((List.range V.length).map fun j => V[j]?.getD (0, false)) i)[k]? := by rw [← e]
    rw [h2, bucket_map, List.getElem?_map, hq]
    simp [List.getElem?_eq_getElem hjl]

theorem bucket_leV {α : Type} (V : List α) (i : Nat) : (bucketOf V i).length ≤ V.length := by
  unfold bucketOf
  split
  · rw [List.length_take, List.length_drop]; omega
  · simp

theorem bucket_places_len (V : List (Int × Bool)) (i : Nat) : (bucketOf (placesI V.length) i).length = (bucketOf V i).length := by
  rw [bucketOf_len, bucketOf_len, placesI_len]
end Go.Proofs.Ytkhgglafnjfiaaa

namespace Go.Proofs.Ytkhgglafnjfiaaa
open Go.RowKit

/-- The blocks of a value, or of those of a struct. -/
def blkA : Value → List Nat
  | .agg cs => cs.toList.flatMap blk
  | v => blk v
/-- The blocks of a value, or of a struct's second. -/
def blkB : Value → List Nat
  | .agg cs => blk (cs.getD 1 undef)
  | v => blk v
theorem blkA_agg (a b : Value) (k : IntKind) (z : Int) : blkA (.agg #[a, b, .int k z]) = blk a ++ blk b := by simp [blkA, blk]

/-- A block of three cells that is a Half of the document's. -/
def CelH (w : World) (q : Nat) (a b c : Value) : Prop := w.heap[q]? = some (.cells #[a, b, c] 74 (0, 0))

theorem CelH.cells {w : World} {q : Nat} {a b c : Value} (h : CelH w q a b c) : w.cell? ⟨q, 0, none⟩ = some a ∧ w.cell? ⟨q, 1, none⟩ = some b ∧ w.cell? ⟨q, 2, none⟩ = some c ∧ ∀ j, w.frozen? ⟨q, j, none⟩ = false := by
  unfold CelH at h
  refine ⟨?_, ?_, ?_, fun j => ?_⟩ <;> simp [World.cell?, World.frozen?, h]

theorem CelH.lt {w : World} {q : Nat} {a b c : Value} (h : CelH w q a b c) : q < w.heap.size := lt_of_block h
theorem CelH.upd {w w' : World} {q : Nat} {a b c : Value} (h : CelH w q a b c) {F : List Nat} (hu : Upd F w w') (hq : q ∉ F) : CelH w' q a b c := (hu.block q h.lt hq).trans h
theorem CelH.upd0 {w w' : World} {q : Nat} {a b c : Value} (h : CelH w q a b c) (hu : Upd [] w w') : CelH w' q a b c := h.upd hu (by simp)
theorem CelH.new (w : World) (a b c : Value) : CelH (w.alloc (.cells #[a, b, c] 74)) w.heap.size a b c := heap_alloc_new w _
theorem CelH.put {w : World} {q : Nat} {a b c : Value} (h : CelH w q a b c) (a' b' c' : Value) : CelH (((w.setCell ⟨q, 0, none⟩ a').setCell ⟨q, 1, none⟩ b').setCell ⟨q, 2, none⟩ c') q a' b' c' :=
  heap_setCell_same _ q 2 _ _ c' (heap_setCell_same _ q 1 _ _ b' (heap_setCell_same _ q 0 _ _ a' h))
theorem CelH.put2 {w : World} {q : Nat} {a b c : Value} (h : CelH w q a b c) (c' : Value) : CelH (w.setCell ⟨q, 2, none⟩ c') q a b c' := heap_setCell_same _ q 2 _ _ c' h
theorem CelH.put1 {w : World} {q : Nat} {a b c : Value} (h : CelH w q a b c) (b' : Value) : CelH (w.setCell ⟨q, 1, none⟩ b') q a b' c := heap_setCell_same _ q 1 _ _ b' h

theorem celH_put {w w' : World} {q : Nat} {F : List Nat} (hu : Upd F w w') (hq : q ∈ F ∨ w.heap.size ≤ q) (a b c : Value) : Upd F w (((w'.setCell ⟨q, 0, none⟩ a).setCell ⟨q, 1, none⟩ b).setCell ⟨q, 2, none⟩ c) :=
  ((hu.setCell (p := ⟨q, 0, none⟩) hq a).setCell (p := ⟨q, 1, none⟩) hq b).setCell (p := ⟨q, 2, none⟩) hq c

theorem own_form' {w : World} {base : Nat} {e : TypeId} {size : Nat} {v : Value} {n : Nat} {xs : List Value} (h : w.ownsRow base e size v n xs) : ∃ A C, v = .slice A n C := own_form h

/-- The blocks of a value are those of another's, or new. -/
def NewB (w w' : World) (v v' : Value) : Prop := ∀ k ∈ blk v', k ∈ blk v ∨ (w.heap.size ≤ k ∧ k < w'.heap.size)
theorem NewB.refl (w w' : World) (v : Value) : NewB w w' v v := fun _ hk => .inl hk
theorem NewB.of_own {w w' w1 : World} {base : Nat} {e : TypeId} {size : Nat} {v v' : Value} {n : Nat} {xs : List Value} (h : w1.ownsRow base e size v' n xs) (hb : w.heap.size ≤ base) (hs : w1.heap.size ≤ w'.heap.size) : NewB w w' v v' :=
  fun k hk => .inr ⟨Nat.le_trans hb (own_ge h k hk), Nat.lt_of_lt_of_le (own_lt h k hk) hs⟩

theorem info_boolH : (Try.prog.info? 4).map (fun i => (i.zero, i.size, i.bytes)) = some (some (.bool false), 1, 1) := by kernel_rfl

/-- What Add leaves: of a Half that has V. -/
def RefAddPost (w : World) (vL vA : Value) (V : List (Int × Bool)) (wk : Nat) (x : Int) (P : Nat) (e : Ending) (w' : World) : Prop :=
  Upd [] w w' ∧ ∃ vL' vA', RefAt w' vL' vA' (vPut V x) ∧ NewB w w' vL vL' ∧ NewB w w' vA vA' ∧ e = .returned (.tuple #[.agg #[vL', vA', .int .i64 ((wk + (if (x, true) ∈ V then 0 else P) : Nat) : Int)], .int .i64 ((if (x, true) ∈ V then 0 else P : Nat) : Int), .bool (!decide ((x, true) ∈ V))])

set_option maxRecDepth 100000 in
set_option maxHeartbeats 16000000 in
theorem addRefNew (vL vA : Value) (V : List (Int × Bool)) (wk k : Nat) (x : Int) (w : World) (h : RefAt w vL vA V) (hl : V.length < 10000) (hwk : wk < 10000000) (hf : vFind V x = -1) (h1 : (V.length + 1) % 2 ^ k = 0) (h2 : (V.length + 1) % 2 ^ (k + 1) ≠ 0) (h3 : 2 ^ k ≤ V.length + 1) :
    Calls Try.prog 46 #[.agg #[vL, vA, .int .i64 (wk : Int)], .int .i64 x] w fun e w' => Upd [] w w' ∧ ∃ vL' vA', RefAt w' vL' vA' (V ++ [(x, true)]) ∧ NewB w w' vL vL' ∧ NewB w w' vA vA' ∧ e = .returned (.tuple #[.agg #[vL', vA', .int .i64 ((wk + 2 ^ k : Nat) : Int)], .int .i64 ((2 ^ k : Nat) : Int), .bool true]) := by
  obtain ⟨AL, CL, AA, CA, rfl, rfl⟩ := h.form
  obtain ⟨i1, hi1, hy0, hy1, hy2⟩ := info_parts info_int64
  obtain ⟨i4, hi4, hw0, hw1, hw2⟩ := info_parts info_boolH
  obtain ⟨n, hn⟩ : ∃ n, V.length = n := ⟨_, rfl⟩
  have hfd := fun w' (hu : Upd [] w w') => find_ref _ _ V wk x w' (h.upd hu) (by omega)
  rw [hf] at hfd
  have hpl := fun w' => placedRef (V.length + 1) k w' h1 h2 (by omega)
  rw [hn] at h1 h2 h3 hl hpl
  simp only [hn] at hfd
  obtain ⟨P, hP⟩ : ∃ P, 2 ^ k = P := ⟨_, rfl⟩
  simp only [hP] at hpl h3
  rw [hP, hn]
  rw [show ((n + 1 : Nat) : Int) = (n : Int) + 1 from rfl] at hpl
  have hxl : Sees w 1 (.slice AL n CL) n (KI.all (V.map (·.1))) := by have := h.1; unfold Ints at this; rw [List.length_map, hn] at this; exact this
  have hxa : Sees w 1 (.slice AA n CA) n (V.map fun p => .bool p.2) := by have := h.2; rw [hn] at this; exact this
  obtain ⟨XL, hXL⟩ : ∃ XL, KI.all (V.map (·.1)) = XL := ⟨_, rfl⟩
  obtain ⟨XA, hXA⟩ : ∃ XA : List Value, (V.map fun p => (.bool p.2 : Value)) = XA := ⟨_, rfl⟩
  have hx1 : ∀ u ∈ XL, u.oneCell' = true := by rw [← hXL]; exact KI.all_one _
  have ha1 : ∀ u ∈ XA, u.oneCell' = true := by rw [← hXA]; intro u hu; obtain ⟨p, -, rfl⟩ := List.mem_map.1 hu; rfl
  rw [hXL] at hxl
  rw [hXA] at hxa
  have n0 : (0 : Int) ≤ (n : Int) := Int.natCast_nonneg _
  have n1 : (n : Int) < 10000 := by omega
  have k0 : (0 : Int) ≤ (wk : Int) := Int.natCast_nonneg _
  have k1 : (wk : Int) < 10000000 := by omega
  have p0 : (0 : Int) ≤ (P : Int) := Int.natCast_nonneg _
  have p1 : (P : Int) ≤ 10000 := by omega
  have HFD := Lib.hid hfd
  have HPL := Lib.hid hpl
  have HN := Lib.hid (And.intro hn (And.intro hXL (And.intro hXA hP)))
  have hb0 := CelH.new w (.slice AL n CL) (.slice AA n CA) (.int .i64 (wk : Int))
  have hu0 : Upd [] w (w.alloc (.cells #[.slice AL n CL, .slice AA n CA, .int .i64 (wk : Int)] 74)) := (Upd.refl _ _).alloc _
  have hr0 := CelH.new (w.alloc (.cells #[.slice AL n CL, .slice AA n CA, .int .i64 (wk : Int)] 74)) (.slice none 0 0) (.slice none 0 0) (.int .i64 0)
  have hu1 := hu0.alloc (.cells #[.slice none 0 0, .slice none 0 0, .int .i64 0] 74)
  have hb1 := hb0.upd0 ((Upd.refl [] _).alloc (.cells #[.slice none 0 0, .slice none 0 0, .int .i64 0] 74))
  have HE := Lib.hid (And.intro hb1 (And.intro hr0 (And.intro hu1 (And.intro (sees_upd hxl hu1 (by simp)) (sees_upd hxa hu1 (by simp))))))
  clear h hn hf hfd hpl hP h1 h2 h3 hl hwk hxl hxa hXL hXA hb0 hu0 hr0 hu1 hb1
  go_enter Try.func46, Try.ntmps46
  go_upto_region 1 with fail
  generalize hW1 : (w.alloc (.cells #[.slice AL n CL, .slice AA n CA, .int .i64 (wk : Int)] 74)).alloc (.cells #[.slice none 0 0, .slice none 0 0, .int .i64 0] 74) = W1 at HE ⊢
  clear hW1
  have hsz : (w.alloc (.cells #[.slice AL n CL, .slice AA n CA, .int .i64 (wk : Int)] 74)).heap.size = w.heap.size + 1 := by simp
  rw [hsz] at HE
  obtain ⟨hb, hhb⟩ : ∃ hb, w.heap.size = hb := ⟨_, rfl⟩
  rw [hhb] at HE ⊢
  have HHB := Lib.hid hhb
  clear hhb hsz
  obtain ⟨c0, c1, c2, f0⟩ := HE.out.1.cells
  have HFD1 := Lib.hid (HFD.out W1 HE.out.2.2.1)
  clear f0
  go_wp2_with fail
  (with_reducible refine HFD1.out.mono ?_)
  rintro e w2 ⟨rfl, u2⟩
  clear c0 c1 c2
  go_upto_region 3 with fail
  have HB0 := Lib.hid (HE.out.1.upd0 u2)
  have HB4 := Lib.hid (HE.out.2.1.upd0 u2)
  obtain ⟨Wd, hWd⟩ : ∃ Wd, Wd = w2.drew := ⟨_, rfl⟩
  have HD0 := Lib.hid (show Upd [] w2 Wd by rw [hWd]; exact (Upd.refl _ _).drew)
  have HX := Lib.hid (And.intro (sees_upd (sees_upd HE.out.2.2.2.1 u2 (by simp)) HD0.out (by simp)) (sees_upd (sees_upd HE.out.2.2.2.2 u2 (by simp)) HD0.out (by simp)))
  have HU2 := Lib.hid (And.intro (HE.out.2.2.1.trans u2) (HE.out.2.2.1.trans (u2.trans HD0.out)))
  have HLT := Lib.hid (show hb < Wd.heap.size ∧ hb + 1 < Wd.heap.size from ⟨Nat.lt_of_lt_of_le HB0.out.lt HD0.out.size, Nat.lt_of_lt_of_le HB4.out.lt HD0.out.size⟩)
  clear u2
  -- region 3: T waits for all loads; fuel 1
  refine GoT.start [] (fun w' => CelH w' hb (.slice AL n CL) (.slice AA n CA) (.int .i64 (wk : Int))) (by kernel_rfl) ?_ fun hS => ?_
  · rw [← hWd]; exact HB0.out.upd0 HD0.out
  rw [← hWd] at hS ⊢
  clear hWd
  refine' GoT.move (i := 1) (oi := ⟨some 15, _, _, _, _, _⟩) (v := _) rfl (by kernel_rfl) (by kernel_rfl) (by kernel_rfl) (fun _ _ _ h => h) (Or.inl ⟨by rfl, ?y3_1⟩) ?r3_1
  case y3_1 => intro w; go_simp <;> with_reducible rfl
  simp only [Act.put, List.setIfInBounds_toArray, List.set_cons_zero, List.set_cons_succ]
  refine' GoT.take 1 (i := 2) (oi := ⟨some 16, _, _, _, _, _⟩) (v := _) rfl (by kernel_rfl) (by kernel_rfl) (by kernel_rfl) (by kernel_rfl) (fun _ _ _ h => h) (Or.inl ⟨by rfl, ?y3_2⟩) (by assumption) ?r3_2
  case y3_2 => intro w hSw; obtain ⟨c0, c1, c2, f0⟩ := hSw.cells; go_simp <;> with_reducible rfl
  simp only [Act.put, List.setIfInBounds_toArray, List.set_cons_zero, List.set_cons_succ]
  refine' GoT.move (i := 4) (oi := ⟨some 18, _, _, _, _, _⟩) (v := _) rfl (by kernel_rfl) (by kernel_rfl) (by kernel_rfl) (fun _ _ _ h => h) (Or.inl ⟨by rfl, ?y3_4⟩) ?r3_4
  case y3_4 => intro w; go_simp <;> with_reducible rfl
  simp only [Act.put, List.setIfInBounds_toArray, List.set_cons_zero, List.set_cons_succ]
  refine' GoT.move (i := 8) (oi := ⟨some 22, _, _, _, _, _⟩) (v := _) rfl (by kernel_rfl) (by kernel_rfl) (by kernel_rfl) (fun _ _ _ h => h) (Or.inl ⟨by rfl, ?y3_8⟩) ?r3_8
  case y3_8 => intro w; go_simp <;> with_reducible rfl
  simp only [Act.put, List.setIfInBounds_toArray, List.set_cons_zero, List.set_cons_succ]
  refine' GoT.take 1 (i := 9) (oi := ⟨some 23, _, _, _, _, _⟩) (v := _) rfl (by kernel_rfl) (by kernel_rfl) (by kernel_rfl) (by kernel_rfl) (fun _ _ _ h => h) (Or.inl ⟨by rfl, ?y3_9⟩) (by assumption) ?r3_9
  case y3_9 => intro w hSw; obtain ⟨c0, c1, c2, f0⟩ := hSw.cells; go_simp <;> with_reducible rfl
  simp only [Act.put, List.setIfInBounds_toArray, List.set_cons_zero, List.set_cons_succ]
  refine GoT.own [(0, 14), (3, 17), (5, 19), (6, 20), (7, 21), (10, 24), (11, 25), (12, 26), (13, 27), (14, 7)] 1 (fun i j => (i == 3 && j == 0) || (i == 6 && j == 3) || (i == 10 && j == 7) || (i == 12 && j == 10) || (i == 13 && (j == 6 || j == 12))) (fun _ v => blkA v) (fun i v w => (i = 0 → w.ownsRow Wd.heap.size 2 1 v 0 []) ∧ (i = 3 → w.ownsRow Wd.heap.size 2 1 v n XL) ∧ (i = 5 → w.ownsRow Wd.heap.size 2 1 v 1 [.int .i64 x]) ∧ (i = 6 → w.ownsRow Wd.heap.size 2 1 v (n + 1) (XL ++ [.int .i64 x])) ∧ (i = 7 → w.ownsRow Wd.heap.size 4 1 v 0 []) ∧ (i = 10 → w.ownsRow Wd.heap.size 4 1 v n XA) ∧ (i = 11 → w.ownsRow Wd.heap.size 4 1 v 1 [.bool true]) ∧ (i = 12 → w.ownsRow Wd.heap.size 4 1 v (n + 1) (XA ++ [.bool true])) ∧ (i = 13 → (∃ a b, v = .agg #[a, b, .int .i64 0] ∧ w.ownsRow Wd.heap.size 2 1 a (n + 1) (XL ++ [.int .i64 x]) ∧ w.ownsRow Wd.heap.size 4 1 b (n + 1) (XA ++ [.bool true]))) ∧ (i = 14 → (∃ q, v = .pointer (some ⟨q, 0, none⟩) ∧ CelH w q (.slice none 0 0) (.slice none 0 0) (.int .i64 0)))) (L1 := #[true, true, true, true, true, true, true, true, true, true, true, true, true, true, true, false]) (m := 1)
    (by kernel_rfl) (by decide) (by decide) (by kernel_rfl) (by kernel_rfl) (by kernel_rfl) (by kernel_rfl) (by kernel_rfl) (by kernel_rfl) (by kernel_rfl)
    (fun b hb => HB0.out.upd0 (HD0.out.trans hb)) (fun _ _ _ _ _ hF hu hd => ⟨fun e => own_upd (hF.1 e) hu (fun k hk => hd k (by obtain ⟨A8, C8, e8⟩ := own_form' (hF.1 e); rw [e8] at hk ⊢; exact hk)), fun e => own_upd (hF.2.1 e) hu (fun k hk => hd k (by obtain ⟨A8, C8, e8⟩ := own_form' (hF.2.1 e); rw [e8] at hk ⊢; exact hk)), fun e => own_upd (hF.2.2.1 e) hu (fun k hk => hd k (by obtain ⟨A8, C8, e8⟩ := own_form' (hF.2.2.1 e); rw [e8] at hk ⊢; exact hk)), fun e => own_upd (hF.2.2.2.1 e) hu (fun k hk => hd k (by obtain ⟨A8, C8, e8⟩ := own_form' (hF.2.2.2.1 e); rw [e8] at hk ⊢; exact hk)), fun e => own_upd (hF.2.2.2.2.1 e) hu (fun k hk => hd k (by obtain ⟨A8, C8, e8⟩ := own_form' (hF.2.2.2.2.1 e); rw [e8] at hk ⊢; exact hk)), fun e => own_upd (hF.2.2.2.2.2.1 e) hu (fun k hk => hd k (by obtain ⟨A8, C8, e8⟩ := own_form' (hF.2.2.2.2.2.1 e); rw [e8] at hk ⊢; exact hk)), fun e => own_upd (hF.2.2.2.2.2.2.1 e) hu (fun k hk => hd k (by obtain ⟨A8, C8, e8⟩ := own_form' (hF.2.2.2.2.2.2.1 e); rw [e8] at hk ⊢; exact hk)), fun e => own_upd (hF.2.2.2.2.2.2.2.1 e) hu (fun k hk => hd k (by obtain ⟨A8, C8, e8⟩ := own_form' (hF.2.2.2.2.2.2.2.1 e); rw [e8] at hk ⊢; exact hk)), fun e => by obtain ⟨p, q, rfl, g1, g2⟩ := hF.2.2.2.2.2.2.2.2.1 e; exact ⟨p, q, rfl, own_upd g1 hu (fun k hk => hd k (by rw [blkA_agg]; exact List.mem_append_left _ hk)), own_upd g2 hu (fun k hk => hd k (by rw [blkA_agg]; exact List.mem_append_right _ hk))⟩, fun e => by obtain ⟨q, rfl, g1⟩ := hF.2.2.2.2.2.2.2.2.2 e; exact ⟨q, rfl, g1.upd hu (hd q (by simp [blkA, blk]))⟩⟩) ?_ (by kernel_rfl) ?_
  · intro e he D v w' hO hD hdep hlv
    have hlive : ∀ k, k ∈ [5, 11] → k ∈ [0, 3, 5, 6, 7, 10, 11, 12, 13, 14] → D k = true → liveO [(0, 14), (3, 17), (5, 19), (6, 20), (7, 21), (10, 24), (11, 25), (12, 26), (13, 27), (14, 7)] (fun i j => (i == 3 && j == 0) || (i == 6 && j == 3) || (i == 10 && j == 7) || (i == 12 && j == 10) || (i == 13 && (j == 6 || j == 12))) D k = true := fun k hk _ hd => by
      simp only [List.mem_cons, List.not_mem_nil, or_false] at hk
      rcases hk with rfl | rfl <;> (unfold liveO; rw [hd]; rfl)
    simp only [List.mem_cons, List.not_mem_nil, or_false] at he
    rcases he with rfl | rfl | rfl | rfl | rfl | rfl | rfl | rfl | rfl | rfl
    · refine wpOp_hid (o := ⟨some 14, _, _, _, _, _⟩) rfl fun K hK => ?_
      simp only [fills, putIf, Array.getD_eq_getD_getElem?, List.setIfInBounds_toArray, List.set_cons_zero, List.set_cons_succ, List.getElem?_toArray, List.getElem?_cons_zero, List.getElem?_cons_succ, Option.getD_some]
      have hz := hO.up.size
      have hown : (w'.alloc (.cells #[] 2)).ownsRow Wd.heap.size 2 1 (.slice (some ⟨w'.heap.size, 0, none⟩) 0 0) 0 [] := World.ownsRow_lit w' #[] 0 hz (by decide) rfl
      have HF := Lib.hid hown
      clear hO hdep hlv hz hown hD
      go_simp
      refine hK.out _ _ ⟨.slice (some ⟨w'.heap.size, 0, none⟩) 0 0, [], by simp [fills, putIf, Act.put], (Upd.refl _ _).alloc _, ⟨fun _ => HF.out, fun hc => (by cases hc), fun hc => (by cases hc), fun hc => (by cases hc), fun hc => (by cases hc), fun hc => (by cases hc), fun hc => (by cases hc), fun hc => (by cases hc), fun hc => (by cases hc), fun hc => (by cases hc)⟩, by simp, fun k hk => .inl (by simp [blkA, blk] at hk; subst hk; simp)⟩
    · refine wpOp_hid (o := ⟨some 17, _, _, _, _, _⟩) rfl fun K hK => ?_
      simp only [fills, putIf, Array.getD_eq_getD_getElem?, List.setIfInBounds_toArray, List.set_cons_zero, List.set_cons_succ, List.getElem?_toArray, List.getElem?_cons_zero, List.getElem?_cons_succ, Option.getD_some]
      have hr0 := hdep 0 (by kernel_rfl) (by decide)
      have hown := (hO.said (0, 14) (by simp) (hlv 0 (by decide) hr0 (by decide))).1 rfl
      have hsee : Sees w' 1 (.slice AL n CL) n XL := sees_upd HX.out.1 hO.up (by simp)
      simp only [hr0, cond_true]
      rw [if_pos (by simp [Region.wanted])]
      refine wp_app _ _ _ 22 (by rfl) Wd.heap.size 2 i1 (.int .i64 0) 1 8 Try.underlying22 hi1 hy0 hy1 hy2 rfl (by decide) _ _ _ (by rfl) hown _ n XL (by rfl) hsee hx1 (by unfold maxLen; omega) (by omega) hO.up.size ?_
      intro A9 C9 w9 HP
      have hle := HP.upd.size
      have hpo : w9.ownsRow Wd.heap.size 2 1 (.slice A9 (0 + n) C9) n XL := by have := HP.own; rw [Nat.zero_add] at this ⊢; exact this
      refine hK.out _ _ ⟨.slice A9 (0 + n) C9, blk (v 0), by simp [fills, putIf, Act.put, hr0], HP.upd, ⟨fun hc => (by cases hc), fun _ => hpo, fun hc => (by cases hc), fun hc => (by cases hc), fun hc => (by cases hc), fun hc => (by cases hc), fun hc => (by cases hc), fun hc => (by cases hc), fun hc => (by cases hc), fun hc => (by cases hc)⟩, fun k hk => ⟨0, by simp, by decide, hr0, ?_⟩, fun k hk => ?_⟩
      · obtain ⟨A8, C8, e8⟩ := own_form' hown
        rw [e8] at hk ⊢
        exact hk
      · rw [show blkA (.slice A9 _ C9) = blk (.slice A9 _ C9) from rfl] at hk
        rcases HP.at with h9 | h9
        · rw [h9] at hk
          refine .inr ⟨0, by simp, by decide, hr0, ?_⟩
          obtain ⟨A8, C8, e8⟩ := own_form' hown
          rw [e8] at hk ⊢
          exact hk
        · rw [h9] at hk
          simp at hk
          subst hk
          exact .inl ⟨Nat.le_refl _, by have := (own_lt HP.own) w'.heap.size (by rw [h9]; simp); exact this⟩
    · refine wpOp_hid (o := ⟨some 19, _, _, _, _, _⟩) rfl fun K hK => ?_
      simp only [fills, putIf, Array.getD_eq_getD_getElem?, List.setIfInBounds_toArray, List.set_cons_zero, List.set_cons_succ, List.getElem?_toArray, List.getElem?_cons_zero, List.getElem?_cons_succ, Option.getD_some]
      have hz := hO.up.size
      have hown : (w'.alloc (.cells #[.int .i64 x] 2)).ownsRow Wd.heap.size 2 1 (.slice (some ⟨w'.heap.size, 0, none⟩) 1 1) 1 [.int .i64 x] := World.ownsRow_lit w' #[.int .i64 x] 1 hz (by decide) rfl
      have HF := Lib.hid hown
      clear hO hdep hlv hz hown hD
      go_simp
      refine hK.out _ _ ⟨.slice (some ⟨w'.heap.size, 0, none⟩) 1 1, [], by simp [fills, putIf, Act.put], (Upd.refl _ _).alloc _, ⟨fun hc => (by cases hc), fun hc => (by cases hc), fun _ => HF.out, fun hc => (by cases hc), fun hc => (by cases hc), fun hc => (by cases hc), fun hc => (by cases hc), fun hc => (by cases hc), fun hc => (by cases hc), fun hc => (by cases hc)⟩, by simp, fun k hk => .inl (by simp [blkA, blk] at hk; subst hk; simp)⟩
    · refine wpOp_hid (o := ⟨some 20, _, _, _, _, _⟩) rfl fun K hK => ?_
      simp only [fills, putIf, Array.getD_eq_getD_getElem?, List.setIfInBounds_toArray, List.set_cons_zero, List.set_cons_succ, List.getElem?_toArray, List.getElem?_cons_zero, List.getElem?_cons_succ, Option.getD_some]
      have hr3 := hdep 3 (by kernel_rfl) (by decide)
      have hr5 := hdep 5 (by kernel_rfl) (by decide)
      have hown := (hO.said (3, 17) (by simp) (hlv 3 (by decide) hr3 (by decide))).2.1 rfl
      have hsee : Sees w' 1 (v 5) 1 [.int .i64 x] := sees_of_own ((hO.said (5, 19) (by simp) (hlive 5 (by simp) (by simp) hr5)).2.2.1 rfl)
      simp only [hr3, hr5, cond_true]
      rw [if_pos (by simp [Region.wanted])]
      refine wp_app _ _ _ 22 (by rfl) Wd.heap.size 2 i1 (.int .i64 0) 1 8 Try.underlying22 hi1 hy0 hy1 hy2 rfl (by decide) _ _ _ (by rfl) hown _ 1 [.int .i64 x] (by rfl) hsee (by simp [Value.oneCell']) (by unfold maxLen; omega) (by omega) hO.up.size ?_
      intro A9 C9 w9 HP
      have hle := HP.upd.size
      have hpo : w9.ownsRow Wd.heap.size 2 1 (.slice A9 (n + 1) C9) (n + 1) (XL ++ [.int .i64 x]) := by exact HP.own
      refine hK.out _ _ ⟨.slice A9 (n + 1) C9, blk (v 3), by simp [fills, putIf, Act.put, hr3, hr5], HP.upd, ⟨fun hc => (by cases hc), fun hc => (by cases hc), fun hc => (by cases hc), fun _ => hpo, fun hc => (by cases hc), fun hc => (by cases hc), fun hc => (by cases hc), fun hc => (by cases hc), fun hc => (by cases hc), fun hc => (by cases hc)⟩, fun k hk => ⟨3, by simp, by decide, hr3, ?_⟩, fun k hk => ?_⟩
      · obtain ⟨A8, C8, e8⟩ := own_form' hown
        rw [e8] at hk ⊢
        exact hk
      · rw [show blkA (.slice A9 _ C9) = blk (.slice A9 _ C9) from rfl] at hk
        rcases HP.at with h9 | h9
        · rw [h9] at hk
          refine .inr ⟨3, by simp, by decide, hr3, ?_⟩
          obtain ⟨A8, C8, e8⟩ := own_form' hown
          rw [e8] at hk ⊢
          exact hk
        · rw [h9] at hk
          simp at hk
          subst hk
          exact .inl ⟨Nat.le_refl _, by have := (own_lt HP.own) w'.heap.size (by rw [h9]; simp); exact this⟩
    · refine wpOp_hid (o := ⟨some 21, _, _, _, _, _⟩) rfl fun K hK => ?_
      simp only [fills, putIf, Array.getD_eq_getD_getElem?, List.setIfInBounds_toArray, List.set_cons_zero, List.set_cons_succ, List.getElem?_toArray, List.getElem?_cons_zero, List.getElem?_cons_succ, Option.getD_some]
      have hz := hO.up.size
      have hown : (w'.alloc (.cells #[] 4)).ownsRow Wd.heap.size 4 1 (.slice (some ⟨w'.heap.size, 0, none⟩) 0 0) 0 [] := World.ownsRow_lit w' #[] 0 hz (by decide) rfl
      have HF := Lib.hid hown
      clear hO hdep hlv hz hown hD
      go_simp
      refine hK.out _ _ ⟨.slice (some ⟨w'.heap.size, 0, none⟩) 0 0, [], by simp [fills, putIf, Act.put], (Upd.refl _ _).alloc _, ⟨fun hc => (by cases hc), fun hc => (by cases hc), fun hc => (by cases hc), fun hc => (by cases hc), fun _ => HF.out, fun hc => (by cases hc), fun hc => (by cases hc), fun hc => (by cases hc), fun hc => (by cases hc), fun hc => (by cases hc)⟩, by simp, fun k hk => .inl (by simp [blkA, blk] at hk; subst hk; simp)⟩
    · refine wpOp_hid (o := ⟨some 24, _, _, _, _, _⟩) rfl fun K hK => ?_
      simp only [fills, putIf, Array.getD_eq_getD_getElem?, List.setIfInBounds_toArray, List.set_cons_zero, List.set_cons_succ, List.getElem?_toArray, List.getElem?_cons_zero, List.getElem?_cons_succ, Option.getD_some]
      have hr7 := hdep 7 (by kernel_rfl) (by decide)
      have hown := (hO.said (7, 21) (by simp) (hlv 7 (by decide) hr7 (by decide))).2.2.2.2.1 rfl
      have hsee : Sees w' 1 (.slice AA n CA) n XA := sees_upd HX.out.2 hO.up (by simp)
      simp only [hr7, cond_true]
      rw [if_pos (by simp [Region.wanted])]
      refine wp_app _ _ _ 72 (by rfl) Wd.heap.size 4 i4 (.bool false) 1 1 Try.underlying72 hi4 hw0 hw1 hw2 rfl (by decide) _ _ _ (by rfl) hown _ n XA (by rfl) hsee ha1 (by unfold maxLen; omega) (by omega) hO.up.size ?_
      intro A9 C9 w9 HP
      have hle := HP.upd.size
      have hpo : w9.ownsRow Wd.heap.size 4 1 (.slice A9 (0 + n) C9) n XA := by have := HP.own; rw [Nat.zero_add] at this ⊢; exact this
      refine hK.out _ _ ⟨.slice A9 (0 + n) C9, blk (v 7), by simp [fills, putIf, Act.put, hr7], HP.upd, ⟨fun hc => (by cases hc), fun hc => (by cases hc), fun hc => (by cases hc), fun hc => (by cases hc), fun hc => (by cases hc), fun _ => hpo, fun hc => (by cases hc), fun hc => (by cases hc), fun hc => (by cases hc), fun hc => (by cases hc)⟩, fun k hk => ⟨7, by simp, by decide, hr7, ?_⟩, fun k hk => ?_⟩
      · obtain ⟨A8, C8, e8⟩ := own_form' hown
        rw [e8] at hk ⊢
        exact hk
      · rw [show blkA (.slice A9 _ C9) = blk (.slice A9 _ C9) from rfl] at hk
        rcases HP.at with h9 | h9
        · rw [h9] at hk
          refine .inr ⟨7, by simp, by decide, hr7, ?_⟩
          obtain ⟨A8, C8, e8⟩ := own_form' hown
          rw [e8] at hk ⊢
          exact hk
        · rw [h9] at hk
          simp at hk
          subst hk
          exact .inl ⟨Nat.le_refl _, by have := (own_lt HP.own) w'.heap.size (by rw [h9]; simp); exact this⟩
    · refine wpOp_hid (o := ⟨some 25, _, _, _, _, _⟩) rfl fun K hK => ?_
      simp only [fills, putIf, Array.getD_eq_getD_getElem?, List.setIfInBounds_toArray, List.set_cons_zero, List.set_cons_succ, List.getElem?_toArray, List.getElem?_cons_zero, List.getElem?_cons_succ, Option.getD_some]
      have hz := hO.up.size
      have hown : (w'.alloc (.cells #[.bool true] 4)).ownsRow Wd.heap.size 4 1 (.slice (some ⟨w'.heap.size, 0, none⟩) 1 1) 1 [.bool true] := World.ownsRow_lit w' #[.bool true] 1 hz (by decide) rfl
      have HF := Lib.hid hown
      clear hO hdep hlv hz hown hD
      go_simp
      refine hK.out _ _ ⟨.slice (some ⟨w'.heap.size, 0, none⟩) 1 1, [], by simp [fills, putIf, Act.put], (Upd.refl _ _).alloc _, ⟨fun hc => (by cases hc), fun hc => (by cases hc), fun hc => (by cases hc), fun hc => (by cases hc), fun hc => (by cases hc), fun hc => (by cases hc), fun _ => HF.out, fun hc => (by cases hc), fun hc => (by cases hc), fun hc => (by cases hc)⟩, by simp, fun k hk => .inl (by simp [blkA, blk] at hk; subst hk; simp)⟩
    · refine wpOp_hid (o := ⟨some 26, _, _, _, _, _⟩) rfl fun K hK => ?_
      simp only [fills, putIf, Array.getD_eq_getD_getElem?, List.setIfInBounds_toArray, List.set_cons_zero, List.set_cons_succ, List.getElem?_toArray, List.getElem?_cons_zero, List.getElem?_cons_succ, Option.getD_some]
      have hr10 := hdep 10 (by kernel_rfl) (by decide)
      have hr11 := hdep 11 (by kernel_rfl) (by decide)
      have hown := (hO.said (10, 24) (by simp) (hlv 10 (by decide) hr10 (by decide))).2.2.2.2.2.1 rfl
      have hsee : Sees w' 1 (v 11) 1 [.bool true] := sees_of_own ((hO.said (11, 25) (by simp) (hlive 11 (by simp) (by simp) hr11)).2.2.2.2.2.2.1 rfl)
      simp only [hr10, hr11, cond_true]
      rw [if_pos (by simp [Region.wanted])]
      refine wp_app _ _ _ 72 (by rfl) Wd.heap.size 4 i4 (.bool false) 1 1 Try.underlying72 hi4 hw0 hw1 hw2 rfl (by decide) _ _ _ (by rfl) hown _ 1 [.bool true] (by rfl) hsee (by simp [Value.oneCell']) (by unfold maxLen; omega) (by omega) hO.up.size ?_
      intro A9 C9 w9 HP
      have hle := HP.upd.size
      have hpo : w9.ownsRow Wd.heap.size 4 1 (.slice A9 (n + 1) C9) (n + 1) (XA ++ [.bool true]) := by exact HP.own
      refine hK.out _ _ ⟨.slice A9 (n + 1) C9, blk (v 10), by simp [fills, putIf, Act.put, hr10, hr11], HP.upd, ⟨fun hc => (by cases hc), fun hc => (by cases hc), fun hc => (by cases hc), fun hc => (by cases hc), fun hc => (by cases hc), fun hc => (by cases hc), fun hc => (by cases hc), fun _ => hpo, fun hc => (by cases hc), fun hc => (by cases hc)⟩, fun k hk => ⟨10, by simp, by decide, hr10, ?_⟩, fun k hk => ?_⟩
      · obtain ⟨A8, C8, e8⟩ := own_form' hown
        rw [e8] at hk ⊢
        exact hk
      · rw [show blkA (.slice A9 _ C9) = blk (.slice A9 _ C9) from rfl] at hk
        rcases HP.at with h9 | h9
        · rw [h9] at hk
          refine .inr ⟨10, by simp, by decide, hr10, ?_⟩
          obtain ⟨A8, C8, e8⟩ := own_form' hown
          rw [e8] at hk ⊢
          exact hk
        · rw [h9] at hk
          simp at hk
          subst hk
          exact .inl ⟨Nat.le_refl _, by have := (own_lt HP.own) w'.heap.size (by rw [h9]; simp); exact this⟩
    · refine wpOp_hid (o := ⟨some 27, _, _, _, _, _⟩) rfl fun K hK => ?_
      simp only [fills, putIf, Array.getD_eq_getD_getElem?, List.setIfInBounds_toArray, List.set_cons_zero, List.set_cons_succ, List.getElem?_toArray, List.getElem?_cons_zero, List.getElem?_cons_succ, Option.getD_some]
      have hr6 := hdep 6 (by kernel_rfl) (by decide)
      have hr12 := hdep 12 (by kernel_rfl) (by decide)
      have ho6 := (hO.said (6, 20) (by simp) (hlv 6 (by decide) hr6 (by decide))).2.2.2.1 rfl
      have ho12 := (hO.said (12, 26) (by simp) (hlv 12 (by decide) hr12 (by decide))).2.2.2.2.2.2.2.1 rfl
      obtain ⟨A6, C6, e6⟩ := own_form' ho6
      obtain ⟨A12, C12, e12⟩ := own_form' ho12
      simp only [hr6, hr12, cond_true, e6, e12]
      rw [e6] at ho6
      rw [e12] at ho12
      have HF := Lib.hid (And.intro ho6 (And.intro ho12 (And.intro hr6 (And.intro hr12 (And.intro e6 e12)))))
      clear hO hdep hlv hlive ho6 ho12 hr6 hr12 e6 e12 hD
      go_simp
      refine hK.out _ _ ⟨.agg #[.slice A6 (n + 1) C6, .slice A12 (n + 1) C12, .int .i64 0], [], by simp [fills, putIf, Act.put, HF.out.2.2.1, HF.out.2.2.2.1, HF.out.2.2.2.2.1, HF.out.2.2.2.2.2], Upd.refl _ _, ⟨fun hc => (by cases hc), fun hc => (by cases hc), fun hc => (by cases hc), fun hc => (by cases hc), fun hc => (by cases hc), fun hc => (by cases hc), fun hc => (by cases hc), fun hc => (by cases hc), fun _ => ⟨_, _, rfl, HF.out.1, HF.out.2.1⟩, fun hc => (by cases hc)⟩, by simp, fun k hk => ?_⟩
      rw [blkA_agg] at hk
      rcases List.mem_append.1 hk with hk | hk
      · exact .inr ⟨6, by simp, by decide, HF.out.2.2.1, by rw [HF.out.2.2.2.2.1]; exact hk⟩
      · exact .inr ⟨12, by simp, by decide, HF.out.2.2.2.1, by rw [HF.out.2.2.2.2.2]; exact hk⟩
    · refine wpOp_hid (o := ⟨some 7, _, _, _, _, _⟩) rfl fun K hK => ?_
      simp only [fills, putIf, Array.getD_eq_getD_getElem?, List.setIfInBounds_toArray, List.set_cons_zero, List.set_cons_succ, List.getElem?_toArray, List.getElem?_cons_zero, List.getElem?_cons_succ, Option.getD_some]
      clear hO hdep hlv hlive hD
      go_simp
      refine hK.out _ _ ⟨.pointer (some ⟨w'.heap.size, 0, none⟩), [], by simp [fills, putIf, Act.put], (Upd.refl _ _).alloc _, ⟨fun hc => (by cases hc), fun hc => (by cases hc), fun hc => (by cases hc), fun hc => (by cases hc), fun hc => (by cases hc), fun hc => (by cases hc), fun hc => (by cases hc), fun hc => (by cases hc), fun hc => (by cases hc), fun _ => ⟨_, rfl, CelH.new _ _ _ _⟩⟩, by simp, fun k hk => .inl (by simp [blkA, blk] at hk; subst hk; simp)⟩
  intro v w' hO
  have hlv : ∀ k, k ∈ [13, 14] → liveO [(0, 14), (3, 17), (5, 19), (6, 20), (7, 21), (10, 24), (11, 25), (12, 26), (13, 27), (14, 7)] (fun i j => (i == 3 && j == 0) || (i == 6 && j == 3) || (i == 10 && j == 7) || (i == 12 && j == 10) || (i == 13 && (j == 6 || j == 12))) (fun _ => true) k = true := fun k hk => by
    simp only [List.mem_cons, List.not_mem_nil, or_false] at hk
    rcases hk with rfl | rfl <;> rfl
  obtain ⟨a, b, e13, ho6, ho12⟩ := (hO.said (13, 27) (by simp) (hlv 13 (by simp))).2.2.2.2.2.2.2.2.1 rfl
  obtain ⟨q, e14, hq⟩ := (hO.said (14, 7) (by simp) (hlv 14 (by simp))).2.2.2.2.2.2.2.2.2 rfl
  have hfar := hO.far (14, 7) (by simp) (13, 27) (by simp) (by decide) (hlv 14 (by simp)) (hlv 13 (by simp)) q (by dsimp only; rw [e14]; simp [blkA, blk])
  have hnew := (hO.news (14, 7) (by simp) (hlv 14 (by simp)) q (by dsimp only; rw [e14]; simp [blkA, blk])).1
  dsimp only at hfar
  rw [e13, blkA_agg] at hfar
  have hq6 : q ∉ blk a := fun hc => hfar (List.mem_append_left _ hc)
  have hq12 : q ∉ blk b := fun hc => hfar (List.mem_append_right _ hc)
  obtain ⟨A6, C6, rfl⟩ := own_form' ho6
  obtain ⟨A12, C12, rfl⟩ := own_form' ho12
  simp only [fills, putIf, cond_true, e13, e14, List.setIfInBounds_toArray, List.set_cons_zero, List.set_cons_succ]
  have HR := Lib.hid (And.intro ho6 (And.intro ho12 (And.intro hq (And.intro hq6 (And.intro hq12 (And.intro hnew hO.up))))))
  obtain ⟨c0, c1, c2, f0⟩ := hq.cells
  clear hO hlv e13 e14 hfar ho6 ho12 hq hq6 hq12 hnew hS
  refine GoT.one (i := 15) (o := ⟨none, _, _, _, _, _⟩) rfl (by kernel_rfl) fun K hK => ?_
  have f1 := f0 1
  have f2 := f0 2
  have f0 := f0 0
  go_simp
  refine hK.out _ _ (fun _ hc => hc.upd (celH_put (q := q) (Upd.refl [q] w') (.inl (by simp)) _ _ _) (by have := HR.out.2.2.2.2.2.1; have := HLT.out; simp only [List.mem_singleton]; omega)) ?_
  clear hK K c0 c1 c2 f0 f1 f2
  simp only [List.setIfInBounds_toArray, List.set_cons_zero, List.set_cons_succ]
  have hq := HR.out.2.2.1.put (.slice A6 (n + 1) C6) (.slice A12 (n + 1) C12) (.int .i64 0)
  have hup := celH_put (q := q) (Upd.refl [q] w') (.inl (by simp)) (.slice A6 (n + 1) C6) (.slice A12 (n + 1) C12) (.int .i64 0)
  have ho6 := own_upd HR.out.1 hup (fun k hk hc => HR.out.2.2.2.1 (by simp at hc; rw [← hc]; exact hk))
  have ho12 := own_upd HR.out.2.1 hup (fun k hk hc => HR.out.2.2.2.2.1 (by simp at hc; rw [← hc]; exact hk))
  have hupd : Upd [] Wd ((((w'.setCell ⟨q, 0, none⟩ (.slice A6 (n + 1) C6)).setCell ⟨q, 1, none⟩ (.slice A12 (n + 1) C12)).setCell ⟨q, 2, none⟩ (.int .i64 0))) := HR.out.2.2.2.2.2.2.trans' hup (fun y hy => .inr (by simp at hy; rw [hy]; exact HR.out.2.2.2.2.2.1))
  have HR2 := Lib.hid (And.intro ho6 (And.intro ho12 (And.intro hq (And.intro HR.out.2.2.2.1 (And.intro HR.out.2.2.2.2.1 (And.intro HR.out.2.2.2.2.2.1 hupd))))))
  clear hq hup ho6 ho12 hupd HR
  generalize ((w'.setCell ⟨q, 0, none⟩ (.slice A6 (n + 1) C6)).setCell ⟨q, 1, none⟩ (.slice A12 (n + 1) C12)).setCell ⟨q, 2, none⟩ (.int .i64 0) = W3 at HR2 ⊢
  refine GoT.done (by kernel_rfl) ?_
  obtain ⟨c0, c1, c2, f0⟩ := HR2.out.2.2.1.cells
  have HPL3 := Lib.hid (HPL.out W3)
  have hb3 := (HB0.out.upd0 (HD0.out.trans HR2.out.2.2.2.2.2.2)).cells.2.2.1
  have f2 := f0 2
  clear f0
  go_wp2_with fail
  (with_reducible refine HPL3.out.mono ?_)
  rintro e w4 ⟨rfl, rfl⟩
  have hq4 := HR2.out.2.2.1.put2 (.int .i64 ((wk : Int) + (P : Int)))
  have hu4 : Upd [q] W3 (W3.setCell ⟨q, 2, none⟩ (.int .i64 ((wk : Int) + (P : Int)))) := (Upd.refl [q] W3).setCell (p := ⟨q, 2, none⟩) (.inl (by simp)) _
  have ho6 := own_upd HR2.out.1 hu4 (fun k hk hc => HR2.out.2.2.2.1 (by simp at hc; rw [← hc]; exact hk))
  have ho12 := own_upd HR2.out.2.1 hu4 (fun k hk hc => HR2.out.2.2.2.2.1 (by simp at hc; rw [← hc]; exact hk))
  have hqd := HR2.out.2.2.2.2.2.1
  have hup4 : Upd [] w2 (W3.setCell ⟨q, 2, none⟩ (.int .i64 ((wk : Int) + (P : Int)))) := (HD0.out.trans HR2.out.2.2.2.2.2.2).trans' hu4 (fun y hy => .inr (by simp at hy; rw [hy]; exact Nat.le_trans HD0.out.size hqd))
  have h44 := HB4.out.upd0 hup4
  have H4 := Lib.hid (And.intro hq4 (And.intro ho6 (And.intro ho12 (And.intro h44 hup4))))
  clear hq4 hu4 ho6 ho12 hup4 h44
  go_upto_region 6 with fail
  clear c0 c1 c2 f2 hb3
  generalize W3.setCell ⟨q, 2, none⟩ (.int .i64 ((wk : Int) + (P : Int))) = W4 at H4 ⊢
  obtain ⟨c0, c1, c2, -⟩ := H4.out.1.cells
  obtain ⟨r0, r1, r2, g0⟩ := H4.out.2.2.2.1.cells
  have g1 := g0 1
  have g2 := g0 2
  have g0 := g0 0
  have hne : q ≠ hb + 1 := by have := HLT.out.2; omega
  have hrp := H4.out.2.2.2.1.put (.slice A6 (n + 1) C6) (.slice A12 (n + 1) C12) (.int .i64 ((wk : Int) + (P : Int)))
  have hup := celH_put (q := hb + 1) (Upd.refl [hb + 1] W4) (.inl (by simp)) (.slice A6 (n + 1) C6) (.slice A12 (n + 1) C12) (.int .i64 ((wk : Int) + (P : Int)))
  have hs6 := sees_upd (sees_of_own H4.out.2.1) hup (fun _ k hk _ hc => by have h9 := own_ge H4.out.2.1 k hk; have := HLT.out.2; simp at hc; omega)
  have hs12 := sees_upd (sees_of_own H4.out.2.2.1) hup (fun _ k hk _ hc => by have h9 := own_ge H4.out.2.2.1 k hk; have := HLT.out.2; simp at hc; omega)
  have HF := Lib.hid (And.intro hrp (And.intro hs6 (And.intro hs12 hup)))
  clear hrp hup hs6 hs12
  clear g0 g1 g2
  obtain ⟨r9, g9⟩ : ∃ r, (((W4.setCell ⟨hb + 1, 0, none⟩ (.slice A6 (n + 1) C6)).setCell ⟨hb + 1, 1, none⟩ (.slice A12 (n + 1) C12)).setCell ⟨hb + 1, 2, none⟩ (.int .i64 ((wk : Int) + (P : Int)))) = r := ⟨_, rfl⟩
  have G9 := Lib.hid g9
  clear g9
  obtain ⟨-, -, -, g0⟩ := H4.out.2.2.2.1.cells
  have g1 := g0 1
  have g2 := g0 2
  have g0 := g0 0
  go_wp2_with fail
  have hcell := HF.out.1.cells
  obtain ⟨z0, z1, z2, -⟩ := hcell
  (try simp only [Exit.inBlock, Exit.then])
  refine bodyPost_ret (v := .tuple #[.agg #[.slice A6 (n + 1) C6, .slice A12 (n + 1) C12, .int .i64 ((wk : Int) + (P : Int))], .int .i64 (P : Int), .bool true]) (by simp [results, Try.results46, go_sem, z0, z1, z2]) rfl ⟨?_, .slice A6 (n + 1) C6, .slice A12 (n + 1) C12, ⟨?_, ?_⟩, NewB.of_own H4.out.2.1 HU2.out.2.size HF.out.2.2.2.size, NewB.of_own H4.out.2.2.1 HU2.out.2.size HF.out.2.2.2.size, ?_⟩
  · exact (HU2.out.1.trans H4.out.2.2.2.2).trans' HF.out.2.2.2 (fun y hy => .inr (by simp at hy; have := HHB.out; omega))
  · have h9 := HF.out.2.1
    unfold Ints
    rw [List.length_map, List.length_append, HN.out.1, List.map_append, Kind.all_app, HN.out.2.1]
    exact h9
  · have h9 := HF.out.2.2.1
    rw [List.length_append, HN.out.1, List.map_append, HN.out.2.2.1]
    exact h9
  · rfl
end Go.Proofs.Ytkhgglafnjfiaaa

namespace Go.Proofs.Ytkhgglafnjfiaaa
open Go.RowKit

/-- A number of an owned row. -/
theorem rowI_at {w : World} {base : Nat} {A : Option Addr} {n C : Nat} {L : List Int} (h : KI.row w base (.slice A n C) L) {k : Nat} {x : Int} (hx : L[k]? = some x) : ∃ g, A = some ⟨g, 0, none⟩ ∧ w.cell? ⟨g, k, none⟩ = some (.int .i64 x) ∧ ∀ j, w.frozen? ⟨g, j, none⟩ = false := by
  obtain ⟨hk, he⟩ := List.getElem?_eq_some_iff.1 hx
  obtain ⟨q, cap, e, _, _⟩ := World.ownsRow.form h (by omega)
  cases e
  obtain ⟨b', o', he', hc'⟩ := (Ints.of_row h).cell hk
  cases he'
  rw [Nat.zero_add, he] at hc'
  exact ⟨q, rfl, hc', World.ownsRow.frozenAt h⟩

theorem KI_stored {w : World} {base g n C : Nat} {L : List Int} (h : KI.row w base (.slice (some ⟨g, 0, none⟩) n C) L) (hn : L.length = n) (k : Nat) (x : Int) : KI.row (w.setCell ⟨g, k, none⟩ (.int .i64 x)) base (.slice (some ⟨g, 0, none⟩) n C) (L.set k x) := by
  unfold Kind.row at h ⊢
  rw [hn] at h
  have hst := (World.ownsRow.stored h k (.int .i64 x)).1
  rw [List.length_set, hn, KI_all, List.map_set, ← KI_all]
  exact hst

/-- A row of rows, made since: each row stands in a block of its own, none in the list's. -/
structure RowsN (base : Nat) (w : World) (v : Value) (vs : List Value) (ll : List (List Int)) : Prop where
  list : w.ownsRow base 22 1 v vs.length vs
  len : vs.length = ll.length
  rows : ∀ (i : Nat) (u : Value) (l : List Int), vs[i]? = some u → ll[i]? = some l → KI.row w base u l
  away : ∀ (i : Nat) (u : Value) (k : Nat), vs[i]? = some u → k ∈ blk u → k ∉ blk v

theorem RowsN.nil (base : Nat) (w : World) : RowsN base w (.slice none 0 0) [] [] := ⟨World.ownsRow_nil _ _ _ _, rfl, by simp, by simp⟩

theorem RowsN.upd {base : Nat} {w w' : World} {v : Value} {vs : List Value} {ll : List (List Int)} (h : RowsN base w v vs ll) (hu : Upd [] w w') : RowsN base w' v vs ll :=
  ⟨own_upd h.list hu (by simp), h.len, fun i u l h1 h2 => own_upd (h.rows i u l h1 h2) hu (by simp), h.away⟩

theorem RowsN.snoc {base : Nat} {w w1 : World} {v u : Value} {vs : List Value} {ll : List (List Int)} {l : List Int} (h : RowsN base w v vs ll) (hu : KI.row w base u l) (hd : ∀ k ∈ blk u, k ∉ blk v) {o : Obj} {A : Option Addr} {C : Nat}
    (HP : AppPost (w.alloc o) w1 base 22 1 v vs.length vs 1 [u] A C) : RowsN base w1 (.slice A (vs.length + 1) C) (vs ++ [u]) (ll ++ [l]) := by
  have hup : Upd (blk v) w w1 := ((Upd.refl _ _).alloc _).trans HP.upd
  have hget : ∀ {i : Nat} {t : Value}, (vs ++ [u])[i]? = some t → vs[i]? = some t ∨ (i = vs.length ∧ t = u) := by
    intro i t ht
    rw [List.getElem?_append] at ht
    split at ht
    · exact .inl ht
    · rename_i hlt
      right
      have hi : i - vs.length = 0 := by
        rcases Nat.eq_zero_or_pos (i - vs.length) with h0 | h0
        · exact h0
        · rw [List.getElem?_eq_none (by simp; omega)] at ht; cases ht
      rw [hi] at ht
      simp at ht
      exact ⟨by omega, ht.symm⟩
  have hdis : ∀ {i : Nat} {t : Value}, vs[i]? = some t → ∀ k ∈ blk t, k ∉ blk v := fun ht k hk => h.away _ _ k ht hk
  have hlt : ∀ {i : Nat} {t : Value}, vs[i]? = some t → ∀ k ∈ blk t, k < w.heap.size := by
    intro i t ht k hk
    have hi := (List.getElem?_eq_some_iff.1 ht).1
    obtain ⟨l', hl'⟩ : ∃ l', ll[i]? = some l' := ⟨_, List.getElem?_eq_getElem (by rw [← h.len]; exact hi)⟩
    exact own_lt (h.rows i t l' ht hl') k hk
  refine ⟨?_, by rw [List.length_append, List.length_append, h.len]; rfl, fun i t m ht hm => ?_, fun i t k ht hk => ?_⟩
  · have := HP.own
    rw [List.length_append]
    exact this
  · rcases hget ht with h1 | ⟨rfl, rfl⟩
    · have hi := (List.getElem?_eq_some_iff.1 h1).1
      rw [List.getElem?_append_left (by rw [← h.len]; exact hi)] at hm
      exact own_upd (h.rows i t m h1 hm) hup (hdis h1)
    · rw [h.len, List.getElem?_append_right (Nat.le_refl _), Nat.sub_self] at hm
      simp at hm
      subst hm
      exact own_upd hu hup hd
  · rcases HP.at with h9 | h9
    · rw [h9]
      rcases hget ht with h1 | ⟨-, rfl⟩
      · exact h.away i t k h1 hk
      · exact hd k hk
    · rw [h9]
      simp
      have : k < w.heap.size := by
        rcases hget ht with h1 | ⟨-, rfl⟩
        · exact hlt h1 k hk
        · exact own_lt hu k hk
      omega

theorem RowsN.see {base : Nat} {w : World} {v : Value} {vs : List Value} {ll : List (List Int)} (h : RowsN base w v vs ll) : RowsSee w v ll :=
  ⟨vs, by have := sees_of_own h.list; rw [h.len] at this; exact this, fun k u l h1 h2 => Ints.of_row (h.rows k u l h1 h2)⟩

theorem vAll_step' (V : List (Int × Bool)) (t : Nat) (p : Int × Bool) (h : V[t]? = some p) : vAll (V.take (t + 1)) = vAll (V.take t) ++ (if p.2 then [p.1] else []) := by
  obtain ⟨y, c⟩ := p
  rw [vAll_step V t y c h]
  cases c <;> simp

set_option maxRecDepth 100000 in
set_option maxHeartbeats 16000000 in
theorem treesRef (vL vA : Value) (V : List (Int × Bool)) (wk : Int) (w : World) (h : RefAt w vL vA V) (hl : V.length < 10000) :
    Calls Try.prog 52 #[.agg #[vL, vA, .int .i64 wk]] w fun e w' => ∃ A C, e = .returned (.slice A (vTrees V).length C) ∧ RowsSee w' (.slice A (vTrees V).length C) (vTrees V) ∧ Upd [] w w' := by
  obtain ⟨AL, CL, AA, CA, rfl, rfl⟩ := h.form
  obtain ⟨i1, hi1, hy0, hy1, hy2⟩ := info_parts info_int64
  obtain ⟨i0, hi0, hz0, hz1, hz2⟩ := info_parts info_rows64
  obtain ⟨n, hn⟩ : ∃ n, V.length = n := ⟨_, rfl⟩
  have n0 : (0 : Int) ≤ (n : Int) := Int.natCast_nonneg _
  have n1 : (n : Int) < 10000 := by omega
  have hb0 := CelH.new w (.slice AL n CL) (.slice AA n CA) (.int .i64 wk)
  have hu0 : Upd [] w (w.alloc (.cells #[.slice AL n CL, .slice AA n CA, .int .i64 wk] 74)) := (Upd.refl _ _).alloc _
  obtain ⟨W1, hmk, hown, hgr⟩ := run_make_full (P := Try.prog) (w := w.alloc (.cells #[.slice AL n CL, .slice AA n CA, .int .i64 wk] 74)) (w.alloc (.cells #[.slice AL n CL, .slice AA n CA, .int .i64 wk] 74)).heap.size 22 2 i1 (.int .i64 0) 1 Try.underlying22 hi1 hy0 hy1 .i64 .i64 n (by rw [hy2]; omega) (by unfold maxLen; omega) (Nat.le_refl _)
  have hu1 : Upd [] (w.alloc (.cells #[.slice AL n CL, .slice AA n CA, .int .i64 wk] 74)) W1 := (Upd.refl _ _).grown hgr (by simp)
  have hrow0 : KI.row W1 (w.heap.size + 1) (.slice (some ⟨w.heap.size + 1, 0, none⟩) n n) (List.replicate n 0) := by
    have e : (w.alloc (.cells #[.slice AL n CL, .slice AA n CA, .int .i64 wk] 74)).heap.size = w.heap.size + 1 := by simp
    rw [e] at hown
    unfold Kind.row
    rw [List.length_replicate, KI_all, List.map_replicate]
    have e2 : (madeCells (Value.int .i64 0).cells (n * 1)).toList = List.replicate n (.int .i64 0) := by rw [Nat.mul_one]; exact toList_madeCells_one _ n
    rw [e2] at hown
    exact hown
  have hmk2 : (Instr.makeSlice 22 (.int .i64 (n : Int)) (.int .i64 (n : Int))).run Try.prog (w.alloc (.cells #[.slice AL n CL, .slice AA n CA, .int .i64 wk] 74)) = .ok (.slice (some ⟨w.heap.size + 1, 0, none⟩) n n) W1 := by
    have e : (w.alloc (.cells #[.slice AL n CL, .slice AA n CA, .int .i64 wk] 74)).heap.size = w.heap.size + 1 := by simp
    rw [e] at hmk
    exact hmk
  have HE := Lib.hid (And.intro h (And.intro (hb0.upd0 hu1) (And.intro hrow0 (And.intro (hu0.trans hu1) hn))))
  have hbl : w.heap.size + 1 < W1.heap.size := own_lt hrow0 _ (by simp [blk])
  obtain ⟨c0, c1, c2, -⟩ := hb0.cells
  rw [hn] at hl ⊢
  clear h hn hmk hown hgr hu0 hu1 hrow0 hb0
  go_enter Try.func52, Try.ntmps52
  go_upto_region 2 with fail
  clear c0 c1 c2 hmk2
  obtain ⟨hb, hhb⟩ : ∃ hb, w.heap.size = hb := ⟨_, rfl⟩
  rw [hhb] at HE hbl ⊢
  obtain ⟨gp, hgp⟩ : ∃ g, hb + 1 = g := ⟨_, rfl⟩
  rw [hgp] at HE hbl ⊢
  have HG := Lib.hid (And.intro hgp hhb)
  clear hgp hhb
  go_wp2_with fail
  go_loopg [4] n (fun m s4 wr => ∃ k : Nat, m + k = n ∧ s4 = .int .i64 (k : Int) ∧ KI.row wr gp (.slice (some ⟨gp, 0, none⟩) n n) ((placesI n).take k ++ List.replicate (n - k) 0) ∧ Upd [gp] W1 wr)
  case atStart => exact ⟨0, rfl, rfl, by rw [List.take_zero, List.nil_append, Nat.sub_zero]; exact HE.out.2.2.1, Upd.refl _ _⟩
  case round =>
    obtain ⟨k, hk, rfl, hrow, hup⟩ := hrel
    have k0 : (0 : Int) ≤ (k : Int) := Int.natCast_nonneg _
    have hkn : k ≤ n := by omega
    by_cases hlt : k < n
    · obtain ⟨g', hg', ck, fk⟩ := rowI_at hrow (places_at hlt)
      injection hg' with hg'
      injection hg' with hg' _ _
      subst hg'
      have fk := fk k
      have b1 : (k : Int) < (n : Int) := by omega
      have HK := Lib.hid (And.intro hk (And.intro hrow (And.intro hup hlt)))
      clear hk hrow hup hlt
      go_wp2_with fail
      go_roundg (n - (k + 1))
      case measure => have := HK.out.1; have := HK.out.2.2.2; omega
      case rel =>
        have hst := KI_stored HK.out.2.1 (places_len (Nat.le_of_lt HK.out.2.2.2)) k (k : Int)
        rw [places_step HK.out.2.2.2] at hst
        exact ⟨k + 1, by have := HK.out.1; omega, by go_num, hst, HK.out.2.2.1.setCell (p := ⟨gp, k, none⟩) (.inl (by simp)) _⟩
    · have hkn2 : k = n := by omega
      have hfull : (placesI n).take k ++ List.replicate (n - k) 0 = placesI n := by rw [hkn2, Nat.sub_self, List.replicate_zero, List.append_nil, List.take_of_length_le (by rw [placesI_len]; exact Nat.le_refl _)]
      rw [hfull] at hrow
      have hbk := bucketsRef _ _ wr (Ints.of_row hrow) (by rw [placesI_len]; omega)
      have hN : (setB (placesI n)).length = bitsN n := by rw [setB_len, placesI_len]
      rw [hN] at hbk
      obtain ⟨N, hNN⟩ : ∃ N, bitsN n = N := ⟨_, rfl⟩
      rw [hNN] at hbk
      have hN20 : N ≤ 20 := by rw [← hNN]; exact bitsN_le _ 20 (by omega)
      have N0 : (0 : Int) ≤ (N : Int) := Int.natCast_nonneg _
      have HB := Lib.hid hbk
      have hup1 : Upd [] w wr := HE.out.2.2.2.1.trans' hup (fun y hy => .inr (by simp at hy; have := HG.out; omega))
      have hcel : CelH wr hb (.slice AL n CL) (.slice AA n CA) (.int .i64 wk) := HE.out.2.1.upd hup (by have := HG.out; simp; omega)
      have HW := Lib.hid (And.intro hup1 (And.intro hcel (And.intro hNN HE.out.2.2.2.2)))
      clear hk hrow hup hfull hbk hN hNN hup1 hcel hkn2
      go_wp2_with fail
      (with_reducible refine HB.out.mono ?_)
      rintro e wB ⟨Ab, Cb, rfl, hst⟩
      have hstu : Upd [] wr wB := by obtain ⟨_, -, -, h9, -⟩ := hst; exact h9
      have HS := Lib.hid (And.intro hst (And.intro hstu (And.intro (HW.out.2.1.upd0 hstu) (HW.out.1.trans hstu))))
      clear hst hstu
      go_wp2_with fail
      go_loopg [6, 7] N (fun m s6 s7 wr => ∃ (q : Nat) (z : Int) (A6 : Option Addr) (C6 : Nat) (vs : List Value), m = q ∧ (q : Int) = z + 1 ∧ q ≤ N ∧ s6 = .slice A6 (vTreesFrom V q).length C6 ∧ s7 = .int .i64 z ∧ RowsN wB.heap.size wr (.slice A6 (vTreesFrom V q).length C6) vs (vTreesFrom V q) ∧ Upd [] wB wr)
      case atStart =>
        have e : vTreesFrom V N = [] := by unfold vTreesFrom; rw [show N = bitsN V.length by rw [HW.out.2.2.2, HW.out.2.2.1], idxV_top]; rfl
        exact ⟨N, _, none, 0, [], rfl, by omega, Nat.le_refl _, by rw [e]; rfl, rfl, by rw [e]; exact RowsN.nil _ _, Upd.refl _ _⟩
      case round =>
        obtain ⟨q, z, A6, C6, vs, hq, hz, hqN, rfl, rfl, hrn, hup⟩ := hrel
        by_cases h0 : 0 < q
        · obtain ⟨j, rfl⟩ : ∃ j : Nat, z = (j : Int) := ⟨z.toNat, by omega⟩
          have hqj : q = j + 1 := by omega
          subst hqj
          have j0 : (0 : Int) ≤ (j : Int) := Int.natCast_nonneg _
          have j1 : (j : Int) < (N : Int) := by omega
          have hjb : j < bitsN V.length := by rw [HW.out.2.2.2, HW.out.2.2.1]; omega
          have hget : (setB (placesI n))[j]? = some (bucketOf (placesI n) j) := setB_get _ _ (by rw [placesI_len, HW.out.2.2.1]; omega)
          have hstep := vTreesFrom_step V j hjb
          have hplen := bucket_places_len V j
          rw [HW.out.2.2.2] at hplen
          obtain ⟨nb, hnb⟩ : ∃ nb, (bucketOf (placesI n) j).length = nb := ⟨_, rfl⟩
          rw [hnb] at hplen
          have hnbk : nb ≤ n := by rw [hplen]; have := bucket_leV V j; rw [HW.out.2.2.2] at this; exact this
          have hlen6 := vTreesFrom_len V (j + 1)
          rw [HW.out.2.2.2, HW.out.2.2.1] at hlen6
          obtain ⟨T, hT⟩ : ∃ T, vTreesFrom V (j + 1) = T := ⟨_, rfl⟩
          rw [hT] at hrn hstep hlen6 ⊢
          obtain ⟨nT, hnT⟩ : ∃ n, T.length = n := ⟨_, rfl⟩
          rw [hnT] at hrn hlen6 ⊢
          have HR := Lib.hid (And.intro hrn (And.intro hup (And.intro hget (And.intro hstep (And.intro hplen (And.intro hnb (And.intro hnT hq)))))))
          obtain ⟨gb, Aj, Cj, rfl, cj, ij⟩ := (HS.out.1.later hup).at hget
          rw [hnb] at cj ij
          have n0b : (0 : Int) ≤ (nb : Int) := Int.natCast_nonneg _
          clear hrn hup hget hstep hplen hnb hT hnT hq hz h0 hqN hjb
          obtain ⟨wo, hwo⟩ : ∃ wo : World, wo = wr := ⟨_, rfl⟩
          subst hwo
          by_cases hb0 : nb = 0
          · have hq0 : ((nb : Int) == 0) = true := by simp [hb0]
            have hse : vTreesFrom V j = T := by
              have h1 := HR.out.2.2.2.1
              have h2 : (bucketOf V j).isEmpty = true := by
                rw [List.isEmpty_iff_length_eq_zero, ← HR.out.2.2.2.2.1]; exact hb0
              rw [if_pos h2, List.append_nil] at h1
              exact h1
            have HSE := Lib.hid (And.intro hse ij)
            clear hse ij hb0
            go_wp2_with fail
            go_roundg j
            case measure => have := HR.out.2.2.2.2.2.2.2; omega
            case rel => exact ⟨j, _, A6, C6, vs, rfl, by omega, by have := HW.out; omega, by rw [HSE.out.1, HR.out.2.2.2.2.2.2.1], rfl, by rw [HSE.out.1, HR.out.2.2.2.2.2.2.1]; exact HR.out.1, HR.out.2.1⟩
          · have hq0 : ((nb : Int) == 0) = false := by simp [hb0]
            have HIJ := Lib.hid ij
            have hnb1 : (nb : Int) ≤ (n : Int) := by omega
            have gbl : gb < wo.heap.size := World.block_lt_of_cell? wo _ cj
            clear ij hb0
            go_wp2_with fail
            go_loopg [8, 9] nb (fun m s8 s9 wr => ∃ (t : Nat) (A8 : Option Addr) (C8 : Nat), m + t = nb ∧ s8 = .slice A8 (sortI (vAll ((bucketOf V j).take t))).length C8 ∧ s9 = .int .i64 (t : Int) ∧ KI.row wr wo.heap.size (.slice A8 (sortI (vAll ((bucketOf V j).take t))).length C8) (sortI (vAll ((bucketOf V j).take t))) ∧ Upd [] wo wr)
            case atStart => exact ⟨0, none, 0, rfl, rfl, rfl, World.ownsRow_nil _ _ _ _, Upd.refl _ _⟩
            case round =>
              obtain ⟨t, A8, C8, ht, rfl, rfl, hrow, hup⟩ := hrel
              have t0 : (0 : Int) ≤ (t : Int) := Int.natCast_nonneg _
              have htn : t ≤ nb := by omega
              have cj' := (hup.cell (p := ⟨gb, j, none⟩) gbl (by simp)).trans cj
              have hupB := HR.out.2.1.trans hup
              have hcb := (HS.out.2.2.1.upd0 hupB).cells
              have hMl : (sortI (vAll ((bucketOf V j).take t))).length ≤ t := by
                rw [sortI_len]
                have h1 := vAll_len ((bucketOf V j).take t)
                rw [List.length_take] at h1
                omega
              have hMd : (sortI (vAll ((bucketOf V j).take t))).length = (vAll ((bucketOf V j).take t)).length := sortI_len _
              obtain ⟨e0, e1, -, -⟩ := hcb
              by_cases hlt : t < nb
              · obtain ⟨zz, hzz⟩ : ∃ z, (bucketOf (placesI n) j)[t]? = some z := ⟨_, List.getElem?_eq_getElem (by rw [HR.out.2.2.2.2.2.1]; exact hlt)⟩
                have hbp := hzz
                rw [← HW.out.2.2.2] at hbp
                obtain ⟨x', rfl, hxl, p, hp, hpb⟩ := bucket_places hbp
                have hij := HIJ.out.upd0 hup
                obtain ⟨hz1', hz2'⟩ := List.getElem?_eq_some_iff.1 hzz
                obtain ⟨g1, o1, rfl, ce⟩ := hij.cell (k := t) hz1'
                rw [hz2'] at ce
                have href := HE.out.1.upd (HS.out.2.2.2.trans hupB)
                rw [HW.out.2.2.2] at href hxl
                obtain ⟨g2, o2, g3, o3, rfl, rfl, cL, cA⟩ := href.at hp
                obtain ⟨y, c⟩ := p
                dsimp only at cL cA
                have hst := vAll_step' (bucketOf V j) t (y, c) hpb
                dsimp only at hst
                have x0 : (0 : Int) ≤ (x' : Int) := Int.natCast_nonneg _
                have x1 : (x' : Int) < (n : Int) := by omega
                have b1 : (t : Int) < (nb : Int) := by omega
                obtain ⟨M, hM⟩ : ∃ M, sortI (vAll ((bucketOf V j).take t)) = M := ⟨_, rfl⟩
                have hMx : ∀ x, c = true → y = x → sortI (vAll ((bucketOf V j).take (t + 1))) = ins M x := fun x hc hx => by
                  rw [hst, hc, if_pos rfl, sortI_snoc, hM, hx]
                have hMo : c = false → sortI (vAll ((bucketOf V j).take (t + 1))) = M := fun hc => by
                  rw [hst, hc, if_neg (by simp), List.append_nil, hM]
                rw [hM] at hrow hMl ⊢
                obtain ⟨r, hr⟩ : ∃ r, M.length = r := ⟨_, rfl⟩
                rw [hr] at hrow hMl ⊢
                have hrow2 := hrow
                unfold Kind.row at hrow2
                rw [hr] at hrow2
                have HT := Lib.hid (And.intro ht (And.intro hup (And.intro hrow (And.intro hr (And.intro hMx hMo)))))
                have r0 : (0 : Int) ≤ (r : Int) := Int.natCast_nonneg _
                have r1 : (r : Int) ≤ 10000 := by omega
                have hwz := hup.size
                clear ht hup hrow hMd hzz hbp hxl hp hpb hij hz1' hz2' href hst hM hr hMx hMo hupB
                obtain ⟨wi, hwi⟩ : ∃ wi : World, wi = wr := ⟨_, rfl⟩
                subst hwi
                cases c with
                | false =>
                  go_wp2_with fail
                  go_quiet (fail)
                  go_wp2_with fail
                  go_roundg (nb - (t + 1))
                  case measure => have := HT.out.1; omega
                  case rel =>
                    have e := HT.out.2.2.2.2.2 (by simp)
                    exact ⟨t + 1, A8, C8, by have := HT.out.1; omega, by rw [e, HT.out.2.2.2.1], by go_num, by rw [e, HT.out.2.2.2.1]; exact own_upd HT.out.2.2.1 ((Upd.refl [] _).drewN _) (by simp), HT.out.2.1.drewN _⟩
                | true =>
                  go_wp2_with fail
                  go_quiet (fail)
                  go_upto_region 17 with fail
                  have hq1 : Upd [] wi (wi.drewN nq) := (Upd.refl _ _).drewN _
                  have ce := (hq1.cell (World.block_lt_of_cell? _ _ ce) (by simp)).trans ce
                  have cL := (hq1.cell (World.block_lt_of_cell? _ _ cL) (by simp)).trans cL
                  have cj' := (hq1.cell (World.block_lt_of_cell? _ _ cj') (by simp)).trans cj'
                  have e0 := (hq1.cell (World.block_lt_of_cell? _ _ e0) (by simp)).trans e0
                  have hrow2 := own_upd hrow2 hq1 (by simp)
                  have hwz := Nat.le_trans hwz hq1.size
                  generalize wi.drewN nq = wq at ce cL cj' e0 hrow2 hwz hq1 ⊢
                  have HQ1 := Lib.hid hq1
                  clear cA e1 hq1
                  go_quiet (fail)
                  go_wp2_with (at_builtin; refine wpList_app _ rfl _ _ 22 rfl wo.heap.size 2 i1 (.int .i64 0) 1 8 Try.underlying22 hi1 hy0 hy1 hy2 rfl (by decide) _ r (KI.all M) rfl (own_upd hrow2 (((Upd.refl [] wq).drewN nq).alloc _) (by simp)) _ 1 [.int .i64 y] rfl (sees_lit (wq.drewN nq) #[.int .i64 y] 2 1 1 rfl (by decide)) (by simp [Value.oneCell']) (by unfold maxLen; omega) (by omega) (by simp; omega) ?_)
                  intro A3 C3 W3 HP3
                  have hrow3 : KI.row W3 wo.heap.size (.slice A3 (r + 1) C3) (M ++ [y]) := by
                    unfold Kind.row
                    rw [List.length_append, HT.out.2.2.2.1, Kind.all_app]
                    exact HP3.own
                  have hu3 : Upd [] wo W3 := (((HT.out.2.1.trans HQ1.out).drewN nq).alloc _).trans' HP3.upd (fun y hy => .inr (own_ge hrow2 y hy))
                  obtain ⟨g4, rfl, -, -⟩ := rowI_at hrow3 (k := r) (x := y) (by rw [List.getElem?_append_right (by rw [HT.out.2.2.2.1]; exact Nat.le_refl _), HT.out.2.2.2.1, Nat.sub_self]; rfl)
                  have hg4 : wo.heap.size ≤ g4 := own_ge hrow3 g4 (by simp [blk])
                  have H3 := Lib.hid (And.intro hrow3 hu3)
                  clear hrow3 hu3 HP3 hrow2 ce cL cj' e0
                  go_wp2_with fail
                  go_loopg [11] r (fun m s11 wr => ∃ (a : Nat) (y' : Int), m = a ∧ a ≤ r ∧ s11 = .int .i64 (a : Int) ∧ KI.row wr wo.heap.size (.slice (some ⟨g4, 0, none⟩) (r + 1) C3) (M.take a ++ y' :: M.drop a) ∧ (∀ z ∈ M.drop a, y < z) ∧ Upd [] wo wr)
                  case atStart => exact ⟨r, y, rfl, Nat.le_refl _, rfl, by rw [List.take_of_length_le (by rw [HT.out.2.2.2.1]; exact Nat.le_refl _), List.drop_of_length_le (by rw [HT.out.2.2.2.1]; exact Nat.le_refl _)]; exact H3.out.1, by rw [List.drop_of_length_le (by rw [HT.out.2.2.2.1]; exact Nat.le_refl _)]; simp, H3.out.2⟩
                  case round =>
                    obtain ⟨a, y', hm, hai, rfl, hrw, hhi, hup⟩ := hrel
                    have a0 : (0 : Int) ≤ (a : Int) := Int.natCast_nonneg _
                    have a1 : (a : Int) < (r : Int) + 1 := by omega
                    have hrl : (M.take a ++ y' :: M.drop a).length = r + 1 := by
                      rw [List.length_append, List.length_take, List.length_cons, List.length_drop, HT.out.2.2.2.1]
                      omega
                    obtain ⟨g', hg', ca, fa⟩ := rowI_at hrw (k := a) (x := y') (by rw [List.getElem?_append_right (by rw [List.length_take]; omega), List.length_take, HT.out.2.2.2.1, Nat.min_eq_left hai, Nat.sub_self]; rfl)
                    injection hg' with hg'
                    injection hg' with hg' _ _
                    subst hg'
                    have fa1 := fa a
                    clear fa
                    by_cases hap : 0 < a
                    · have hgt : decide (0 < a) = true := decide_eq_true hap
                      obtain ⟨p, hp⟩ : ∃ p, a = p + 1 := ⟨a - 1, by omega⟩
                      have hpa : (a : Int) - 1 = (p : Int) := by omega
                      obtain ⟨z, hz⟩ : ∃ z, M[p]? = some z := ⟨_, List.getElem?_eq_getElem (by rw [HT.out.2.2.2.1]; omega)⟩
                      obtain ⟨g5, hg5, cp, -⟩ := rowI_at hrw (k := p) (x := z) (by rw [hp]; exact insI_at hz)
                      injection hg5 with hg5
                      injection hg5 with hg5 _ _
                      subst hg5
                      have p0 : (0 : Int) ≤ (p : Int) := Int.natCast_nonneg _
                      have p1 : (p : Int) < (r : Int) + 1 := by omega
                      by_cases hxz : y < z
                      · have hg : decide (y < z) = true := decide_eq_true hxz
                        have HZ := Lib.hid (And.intro hrw (And.intro hrl (And.intro hhi (And.intro hup (And.intro hp (And.intro hz (And.intro hxz hm)))))))
                        clear hrw hrl hhi hup hp hz hxz hm hap
                        go_wp2_with fail
                        go_roundg p
                        case measure => have h1 := HZ.out.2.2.2.2.1; have h2 := HZ.out.2.2.2.2.2.2.2; omega
                        case rel =>
                          have hst := KI_stored HZ.out.1 HZ.out.2.1 a z
                          have e := insI_step (y := y') HZ.out.2.2.2.2.2.1
                          rw [← HZ.out.2.2.2.2.1] at e
                          rw [e] at hst
                          refine ⟨p, z, rfl, by have := HZ.out.2.2.2.2.1; omega, by go_num, hst, ?_, HZ.out.2.2.2.1.setCell (p := ⟨g4, a, none⟩) (.inr hg4) _⟩
                          obtain ⟨h1, h2⟩ := List.getElem?_eq_some_iff.1 HZ.out.2.2.2.2.2.1
                          rw [List.drop_eq_getElem_cons h1, h2, ← HZ.out.2.2.2.2.1]
                          intro u hu
                          rcases List.mem_cons.1 hu with rfl | hu
                          · exact HZ.out.2.2.2.2.2.2.1
                          · exact HZ.out.2.2.1 u hu
                      · have hg : decide (y < z) = false := decide_eq_false hxz
                        have hlo : ∀ u, 0 < a → M[a - 1]? = some u → u ≤ y := fun u _ hu => by
                          rw [hp, Nat.add_sub_cancel, hz] at hu
                          injection hu with hu
                          omega
                        have HZ := Lib.hid (And.intro hrw (And.intro hrl (And.intro hhi (And.intro hup (And.intro hlo hai)))))
                        clear hrw hrl hhi hup hp hz hxz hm hap hlo
                        go_wp2_with fail
                        go_roundg (nb - (t + 1))
                        case measure => have := HT.out.1; omega
                        case rel =>
                          have hst := KI_stored HZ.out.1 HZ.out.2.1 a y
                          rw [insI_done (y := y') (by rw [HT.out.2.2.2.1]; exact HZ.out.2.2.2.2.2) HZ.out.2.2.2.2.1 HZ.out.2.2.1] at hst
                          have e := HT.out.2.2.2.2.1 y (by simp) rfl
                          have hle : (ins M y).length = r + 1 := by rw [ins_len, HT.out.2.2.2.1]
                          exact ⟨t + 1, _, _, by have := HT.out.1; omega, by rw [e, hle], by go_num, by rw [e, hle]; exact hst, HZ.out.2.2.2.1.setCell (p := ⟨g4, a, none⟩) (.inr hg4) _⟩
                    · have ha0 : a = 0 := by omega
                      have hgt : decide (0 < a) = false := decide_eq_false hap
                      have hlo : ∀ u, 0 < a → M[a - 1]? = some u → u ≤ y := fun u h0 => by omega
                      have HZ := Lib.hid (And.intro hrw (And.intro hrl (And.intro hhi (And.intro hup (And.intro hlo hai)))))
                      clear hrw hrl hhi hup hm hap hlo ha0
                      go_wp2_with fail
                      go_roundg (nb - (t + 1))
                      case measure => have := HT.out.1; omega
                      case rel =>
                        have hst := KI_stored HZ.out.1 HZ.out.2.1 a y
                        rw [insI_done (y := y') (by rw [HT.out.2.2.2.1]; exact HZ.out.2.2.2.2.2) HZ.out.2.2.2.2.1 HZ.out.2.2.1] at hst
                        have e := HT.out.2.2.2.2.1 y (by simp) rfl
                        have hle : (ins M y).length = r + 1 := by rw [ins_len, HT.out.2.2.2.1]
                        exact ⟨t + 1, _, _, by have := HT.out.1; omega, by rw [e, hle], by go_num, by rw [e, hle]; exact hst, HZ.out.2.2.2.1.setCell (p := ⟨g4, a, none⟩) (.inr hg4) _⟩
              · have hfull : (bucketOf V j).take t = bucketOf V j := by rw [List.take_of_length_le]; rw [← HR.out.2.2.2.2.1]; omega
                rw [hfull] at hrow ⊢
                have hse : vTreesFrom V j = T ++ [sortI (vAll (bucketOf V j))] := by
                  have h1 := HR.out.2.2.2.1
                  have h2 : ¬ (bucketOf V j).isEmpty = true := by
                    rw [List.isEmpty_iff_length_eq_zero, ← HR.out.2.2.2.2.1]
                    intro hc
                    rw [hc] at hq0
                    simp at hq0
                  rw [if_neg h2] at h1
                  exact h1
                obtain ⟨M, hM⟩ : ∃ M, sortI (vAll (bucketOf V j)) = M := ⟨_, rfl⟩
                rw [hM] at hrow hse ⊢
                obtain ⟨r, hr⟩ : ∃ r, M.length = r := ⟨_, rfl⟩
                rw [hr] at hrow ⊢
                have hrn := HR.out.1.upd hup
                have hnv : vs.length = nT := by rw [hrn.len]; exact HR.out.2.2.2.2.2.2.1
                have hlist := hrn.list
                rw [hnv] at hlist
                have hbz : wB.heap.size ≤ wr.heap.size := Nat.le_trans HR.out.2.1.size hup.size
                have HX := Lib.hid (And.intro hrow (And.intro hse (And.intro hrn (And.intro hnv (And.intro hup hlist)))))
                have hdis : ∀ k ∈ blk (.slice A8 r C8), k ∉ blk (.slice A6 nT C6) := fun k hk hc => by
                  have h1 := own_ge hrow k hk
                  have h2 := own_lt HR.out.1.list k hc
                  omega
                have HDI := Lib.hid hdis
                clear hrow hfull hse hM hr hrn hnv hup hlist hdis ht hMl hMd hupB e0 e1
                go_wp2_with (at_builtin; refine wpList_app _ rfl _ _ 78 rfl wB.heap.size 22 i0 (.slice none 0 0) 1 24 Try.underlying78 hi0 hz0 hz1 hz2 rfl (by decide) _ nT vs rfl (own_upd HX.out.2.2.2.2.2 ((Upd.refl [] _).alloc _) (by simp)) _ 1 [.slice A8 r C8] rfl (sees_lit wr #[.slice A8 r C8] 22 1 1 rfl (by decide)) (by simp [Value.oneCell']) (by unfold maxLen; omega) (by omega) (by simp; omega) ?_)
                intro A3 C3 W3 HP3
                have hup3 : Upd [] wB W3 := ((HR.out.2.1.trans HX.out.2.2.2.2.1).alloc _).trans' HP3.upd (fun y hy => .inr (own_ge HX.out.2.2.2.2.2 y hy))
                have hsn := HX.out.2.2.1.snoc (own_base HX.out.1 HR.out.2.1.size) HDI.out (o := .cells #[.slice A8 r C8] 22) (A := A3) (C := C3) (by rw [HX.out.2.2.2.1]; exact HP3)
                rw [HX.out.2.2.2.1] at hsn
                have H3 := Lib.hid (And.intro hup3 hsn)
                clear hup3 hsn HP3
                go_wp2_with fail
                go_roundg j
                case measure => have := HR.out.2.2.2.2.2.2.2; omega
                case rel =>
                  have e := HX.out.2.1
                  have hle : (vTreesFrom V j).length = nT + 1 := by rw [e, List.length_append, HR.out.2.2.2.2.2.2.1]; rfl
                  exact ⟨j, _, A3, C3, _, rfl, by omega, by omega, by rw [hle], rfl, by rw [hle, e]; exact H3.out.2, H3.out.1⟩
        · have hq0 : q = 0 := by omega
          subst hq0
          have hz1' : decide ((0 : Int) ≤ z) = false := decide_eq_false (by omega)
          have HF := Lib.hid (And.intro hrn hup)
          have e : vTreesFrom V 0 = vTrees V := rfl
          rw [e] at HF ⊢
          obtain ⟨nv, hnv⟩ : ∃ n, (vTrees V).length = n := ⟨_, rfl⟩
          rw [hnv] at HF ⊢
          have HNV := Lib.hid hnv
          clear hrn hup e hnv hq hz h0 hqN
          go_wp2_with fail
          go_ret
          exact ⟨A6, C6, by rw [HNV.out]; rfl, by rw [HNV.out]; exact HF.out.1.see, HS.out.2.2.2.trans HF.out.2⟩
end Go.Proofs.Ytkhgglafnjfiaaa
