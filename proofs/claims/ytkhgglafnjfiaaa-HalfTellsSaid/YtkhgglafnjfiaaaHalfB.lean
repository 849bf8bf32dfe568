/- Half in memory. -/
import Derived.Test.YtkhgglafnjfiaaaHalfV
import Derived.Test.YtkhgglafnjfiaaaBagD
import Derived.Test.YtkhgglafnjfiaaaCarryGCel
import Derived.Test.YtkhgglafnjfiaaaCarrySCel
import Derived.Test.YtkhgglafnjfiaaaSameCel
namespace Go.Proofs.Ytkhgglafnjfiaaa
open Go.RowKit

def Disj (A B : List Nat) : Prop := ∀ x ∈ A, x ∉ B

theorem Disj.symm {A B : List Nat} (h : Disj A B) : Disj B A := fun x hx hc => h x hc hx

theorem pw_at {Ps : List (List Nat)} (h : Ps.Pairwise Disj) {i j : Nat} {G H : List Nat} (hi : Ps[i]? = some G) (hj : Ps[j]? = some H) (hne : i ≠ j) : Disj G H := by
  rw [List.pairwise_iff_getElem] at h
  obtain ⟨li, ei⟩ := List.getElem?_eq_some_iff.1 hi
  obtain ⟨lj, ej⟩ := List.getElem?_eq_some_iff.1 hj
  rcases Nat.lt_or_gt_of_ne hne with h3 | h3
  · have := h i j li lj h3
    rwa [ei, ej] at this
  · have := h j i lj li h3
    rw [ei, ej] at this
    exact this.symm

theorem pw_set {Ps : List (List Nat)} (h : Ps.Pairwise Disj) {N : Nat} (hlt : ∀ P ∈ Ps, ∀ x ∈ P, x < N) {i : Nat} {G G' : List Nat} (hi : Ps[i]? = some G) (hG : ∀ x ∈ G', x ∈ G ∨ N ≤ x) : (Ps.set i G').Pairwise Disj := by
  have key : ∀ j, j < Ps.length → j ≠ i → ∀ (hj : j < Ps.length), Disj G' Ps[j] := by
    intro j hj hne hj' x hx hc
    rcases hG x hx with h1 | h1
    · exact pw_at h hi (List.getElem?_eq_getElem hj') (Ne.symm hne) x h1 hc
    · have := hlt _ (List.getElem_mem hj') x hc; omega
  rw [List.pairwise_iff_getElem] at h ⊢
  intro a b ha hb hab
  rw [List.length_set] at ha hb
  rw [List.getElem_set, List.getElem_set]
  split
  · rename_i e1
    split
    · omega
    · exact key b hb (by omega) hb
  · rename_i e1
    split
    · exact (key a ha (by omega) ha).symm
    · exact h a b ha hb hab

theorem pw_snoc {Ps : List (List Nat)} (h : Ps.Pairwise Disj) : (Ps ++ [[]]).Pairwise Disj := by
  rw [List.pairwise_append]
  refine ⟨h, by simp, fun a _ b hb => ?_⟩
  simp at hb
  subst hb
  intro x _
  simp

def fnBuild : Value := .func (.func 37) #[] #[]
def fnDrop : Value := .func (.func 38) #[] #[]

/-- Rows of truth values, of places, of bags. -/
def boolRow (w : World) (v : Value) (l : List Bool) : Prop := w.ownsRow 0 4 1 v l.length (l.map .bool)
def natRow (w : World) (v : Value) (l : List Nat) : Prop := w.ownsRow 0 3 1 v l.length (l.map fun (n : Nat) => .int .i64 (n : Int))
def ptrRow (w : World) (v : Value) (ps : List Value) : Prop := w.ownsRow 0 58 1 v ps.length ps

/-- The blocks of a Half, part by part. -/
def parts (h : Nat) (Fc : List Nat) (tv av lvv : Value) (mb : Nat) (Fs : List (List Nat)) : List (List Nat) := [h] :: Fc :: blk tv :: blk av :: blk lvv :: [mb] :: Fs

/-- Block h is a Half that has what S says. -/
structure HalfAt (w : World) (h cb mb : Nat) (tv av lvv : Value) (ps : List Value) (Fc : List Nat) (Fs : List (List Nat)) (S : HS) : Prop where
  head : w.heap[h]? = some (.cells #[fnBuild, fnDrop, .pointer (some ⟨cb, 0, none⟩), tv, av, lvv, .map (some mb)] 83 (0, 0))
  car : IsCarry Cel.KI w cb Fc (setB S.cs) S.cs.length S.wk
  trow : ptrRow w tv ps
  arow : boolRow w av S.al
  lrow : natRow w lvv S.lv
  mapp : MapAt w mb S.mp
  plen : ps.length = S.tr.length
  flen : Fs.length = S.tr.length
  one : ∀ p ∈ ps, p.oneCell' = true
  no : ∀ i : Nat, S.tr[i]? = some none → Fs[i]? = some []
  yes : ∀ (i : Nat) (l : List Int), S.tr[i]? = some (some l) → ∃ p F, ps[i]? = some p ∧ Fs[i]? = some F ∧ IsBag w p l F
  apart : (parts h Fc tv av lvv mb Fs).Pairwise Disj

def IsHalf (w : World) (hv : Value) (F : List Nat) (S : HS) : Prop :=
  ∃ h cb mb tv av lvv ps Fc Fs, hv = .pointer (some ⟨h, 0, none⟩) ∧ HalfAt w h cb mb tv av lvv ps Fc Fs S ∧ F = (parts h Fc tv av lvv mb Fs).flatten

variable {w w' : World} {h cb mb : Nat} {tv av lvv : Value} {ps : List Value} {Fc : List Nat} {Fs : List (List Nat)} {S : HS}

theorem HalfAt.ltF (H : HalfAt w h cb mb tv av lvv ps Fc Fs S) : ∀ F ∈ Fs, ∀ x ∈ F, x < w.heap.size := by
  intro F hF x hx
  obtain ⟨i, hi⟩ := List.mem_iff_getElem?.1 hF
  have hl : i < S.tr.length := by rw [← H.flen]; exact (List.getElem?_eq_some_iff.1 hi).1
  cases ht : S.tr[i]? with
  | none => rw [List.getElem?_eq_none_iff] at ht; omega
  | some o =>
    cases o with
    | none =>
      have := H.no i ht
      rw [hi] at this
      cases this
      simp at hx
    | some l =>
      obtain ⟨p, F', _, hF', hb⟩ := H.yes i l ht
      rw [hi] at hF'
      cases hF'
      exact hb.lt x hx

theorem HalfAt.lt (H : HalfAt w h cb mb tv av lvv ps Fc Fs S) : ∀ P ∈ parts h Fc tv av lvv mb Fs, ∀ x ∈ P, x < w.heap.size := by
  intro P hP x hx
  simp only [parts, List.mem_cons] at hP
  rcases hP with rfl | rfl | rfl | rfl | rfl | rfl | hP
  · simp at hx; subst hx; exact lt_of_block H.head
  · exact H.car.lt x hx
  · exact own_lt H.trow x hx
  · exact own_lt H.arow x hx
  · exact own_lt H.lrow x hx
  · simp at hx; subst hx; exact H.mapp.lt
  · exact H.ltF P hP x hx

theorem HalfAt.cell (H : HalfAt w h cb mb tv av lvv ps Fc Fs S) : w.cell? ⟨h, 0, none⟩ = some fnBuild ∧ w.cell? ⟨h, 1, none⟩ = some fnDrop ∧ w.cell? ⟨h, 2, none⟩ = some (.pointer (some ⟨cb, 0, none⟩)) ∧ w.cell? ⟨h, 3, none⟩ = some tv ∧ w.cell? ⟨h, 4, none⟩ = some av ∧
    w.cell? ⟨h, 5, none⟩ = some lvv ∧ w.cell? ⟨h, 6, none⟩ = some (.map (some mb)) ∧ ∀ j, w.frozen? ⟨h, j, none⟩ = false := by
  refine ⟨?_, ?_, ?_, ?_, ?_, ?_, ?_, fun j => frozen_of_row w h j _ _ H.head⟩ <;> simp [World.cell?, H.head]

/-- Bags that are not written. -/
theorem HalfAt.bags (H : HalfAt w h cb mb tv av lvv ps Fc Fs S) {G : List Nat} (hu : Upd G w w') (hd : ∀ F ∈ Fs, Disj F G) : ∀ (i : Nat) (l : List Int), S.tr[i]? = some (some l) → ∃ p F, ps[i]? = some p ∧ Fs[i]? = some F ∧ IsBag w' p l F := by
  intro i l ht
  obtain ⟨p, F, h1, h2, h3⟩ := H.yes i l ht
  exact ⟨p, F, h1, h2, h3.upd hu (hd F (List.mem_of_getElem? h2))⟩

theorem HalfAt.upd (H : HalfAt w h cb mb tv av lvv ps Fc Fs S) {G : List Nat} (hu : Upd G w w') (hd : ∀ P ∈ parts h Fc tv av lvv mb Fs, Disj P G) : HalfAt w' h cb mb tv av lvv ps Fc Fs S := by
  have hp : ∀ P, P ∈ parts h Fc tv av lvv mb Fs → Disj P G := hd
  simp only [parts, List.mem_cons] at hp
  refine ⟨(hu.block h (lt_of_block H.head) (hp [h] (by simp) h (by simp))).trans H.head, H.car.upd hu (hp Fc (by simp)), own_upd H.trow hu (hp _ (by simp)), own_upd H.arow hu (hp _ (by simp)), own_upd H.lrow hu (hp _ (by simp)),
    H.mapp.upd hu (hp [mb] (by simp) mb (by simp)), H.plen, H.flen, H.one, H.no, H.bags hu fun F hF => hp F (by simp [hF]), H.apart⟩

/-- Another part's writing leaves this part. -/
theorem HalfAt.dis (H : HalfAt w h cb mb tv av lvv ps Fc Fs S) {i j : Nat} {P Q : List Nat} (hi : (parts h Fc tv av lvv mb Fs)[i]? = some P) (hj : (parts h Fc tv av lvv mb Fs)[j]? = some Q) (hne : i ≠ j) : Disj P Q := pw_at H.apart hi hj hne

theorem HalfAt.disF (H : HalfAt w h cb mb tv av lvv ps Fc Fs S) {i : Nat} {P : List Nat} (hi : i < 6) (hP : (parts h Fc tv av lvv mb Fs)[i]? = some P) : ∀ F ∈ Fs, Disj F P := by
  intro F hF
  obtain ⟨j, hj⟩ := List.mem_iff_getElem?.1 hF
  exact H.dis (i := j + 6) (j := i) (by simpa [parts] using hj) hP (by omega)

/-- The carry has turned. -/
theorem HalfAt.carry (H : HalfAt w h cb mb tv av lvv ps Fc Fs S) {Fc' : List Nat} {cs : List (Int × Nat)} {wk : Nat} (hc : IsCarry Cel.KI w' cb Fc' (setB cs) cs.length wk) (hu : Upd Fc w w') (hF : ∀ x ∈ Fc', x ∈ Fc ∨ w.heap.size ≤ x) :
    HalfAt w' h cb mb tv av lvv ps Fc' Fs { S with cs := cs, wk := wk } := by
  have d : ∀ (j : Nat) (Q : List Nat), j ≠ 1 → (parts h Fc tv av lvv mb Fs)[j]? = some Q → Disj Q Fc := fun j Q hne hj => H.dis hj (j := 1) rfl hne
  refine ⟨(hu.block h (lt_of_block H.head) (d 0 [h] (by omega) rfl h (by simp))).trans H.head, hc, own_upd H.trow hu (d 2 _ (by omega) rfl), own_upd H.arow hu (d 3 _ (by omega) rfl), own_upd H.lrow hu (d 4 _ (by omega) rfl),
    H.mapp.upd hu (d 5 [mb] (by omega) rfl mb (by simp)), H.plen, H.flen, H.one, H.no, H.bags hu (H.disF (i := 1) (by omega) rfl), ?_⟩
  exact pw_set (i := 1) H.apart H.lt rfl hF

/-- The map has turned. -/
theorem HalfAt.map (H : HalfAt w h cb mb tv av lvv ps Fc Fs S) {m : List (Int × Int)} (hm : MapAt w' mb m) (hu : Upd [mb] w w') : HalfAt w' h cb mb tv av lvv ps Fc Fs { S with mp := m } := by
  have d : ∀ (j : Nat) (Q : List Nat), j ≠ 5 → (parts h Fc tv av lvv mb Fs)[j]? = some Q → Disj Q [mb] := fun j Q hne hj => H.dis hj (j := 5) rfl hne
  refine ⟨(hu.block h (lt_of_block H.head) (d 0 [h] (by omega) rfl h (by simp))).trans H.head, H.car.upd hu (d 1 _ (by omega) rfl), own_upd H.trow hu (d 2 _ (by omega) rfl), own_upd H.arow hu (d 3 _ (by omega) rfl), own_upd H.lrow hu (d 4 _ (by omega) rfl),
    hm, H.plen, H.flen, H.one, H.no, H.bags hu (H.disF (i := 5) (by omega) rfl), H.apart⟩

/-- A truth value has turned. -/
theorem HalfAt.dead (H : HalfAt w h cb mb tv av lvv ps Fc Fs S) {q n C : Nat} (ha : av = .slice (some ⟨q, 0, none⟩) n C) (k : Nat) (b : Bool) : HalfAt (w.setCell ⟨q, k, none⟩ (.bool b)) h cb mb tv av lvv ps Fc Fs { S with al := S.al.set k b } := by
  subst ha
  have hu : Upd [q] w (w.setCell ⟨q, k, none⟩ (.bool b)) := (Upd.refl _ _).setCell (p := ⟨q, k, none⟩) (.inl (by simp)) _
  have d : ∀ (j : Nat) (Q : List Nat), j ≠ 3 → (parts h Fc tv (.slice (some ⟨q, 0, none⟩) n C) lvv mb Fs)[j]? = some Q → Disj Q [q] := fun j Q hne hj => H.dis hj (j := 3) rfl hne
  have hn : n = S.al.length := by
    obtain ⟨A', C', he⟩ := own_form H.arow
    cases he; rfl
  subst hn
  refine ⟨(hu.block h (lt_of_block H.head) (d 0 [h] (by omega) rfl h (by simp))).trans H.head, H.car.upd hu (d 1 _ (by omega) rfl), own_upd H.trow hu (d 2 _ (by omega) rfl), ?_, own_upd H.lrow hu (d 4 _ (by omega) rfl),
    H.mapp.upd hu (d 5 [mb] (by omega) rfl mb (by simp)), H.plen, H.flen, H.one, H.no, H.bags hu (H.disF (i := 3) (by omega) rfl), H.apart⟩
  have := (World.ownsRow.stored H.arow k (.bool b)).1
  unfold boolRow
  rw [List.length_set, List.map_set]
  exact this

/-- A level has turned. -/
theorem HalfAt.lev (H : HalfAt w h cb mb tv av lvv ps Fc Fs S) {q n C : Nat} (ha : lvv = .slice (some ⟨q, 0, none⟩) n C) (k t : Nat) : HalfAt (w.setCell ⟨q, k, none⟩ (.int .i64 (t : Int))) h cb mb tv av lvv ps Fc Fs { S with lv := S.lv.set k t } := by
  subst ha
  have hu : Upd [q] w (w.setCell ⟨q, k, none⟩ (.int .i64 (t : Int))) := (Upd.refl _ _).setCell (p := ⟨q, k, none⟩) (.inl (by simp)) _
  have d : ∀ (j : Nat) (Q : List Nat), j ≠ 4 → (parts h Fc tv av (.slice (some ⟨q, 0, none⟩) n C) mb Fs)[j]? = some Q → Disj Q [q] := fun j Q hne hj => H.dis hj (j := 4) rfl hne
  have hn : n = S.lv.length := by
    obtain ⟨A', C', he⟩ := own_form H.lrow
    cases he; rfl
  subst hn
  refine ⟨(hu.block h (lt_of_block H.head) (d 0 [h] (by omega) rfl h (by simp))).trans H.head, H.car.upd hu (d 1 _ (by omega) rfl), own_upd H.trow hu (d 2 _ (by omega) rfl), own_upd H.arow hu (d 3 _ (by omega) rfl), ?_,
    H.mapp.upd hu (d 5 [mb] (by omega) rfl mb (by simp)), H.plen, H.flen, H.one, H.no, H.bags hu (H.disF (i := 4) (by omega) rfl), H.apart⟩
  have := (World.ownsRow.stored H.lrow k (.int .i64 (t : Int))).1
  unfold natRow
  rw [List.length_set, List.map_set]
  exact this

/-- A bag has turned. -/
theorem HalfAt.bag (H : HalfAt w h cb mb tv av lvv ps Fc Fs S) {i : Nat} {p : Value} {l' : List Int} {F F' : List Nat} (hp : ps[i]? = some p) (hF : Fs[i]? = some F) (hb : IsBag w' p l' F') (hu : Upd F w w') (hn : ∀ x ∈ F', x ∈ F ∨ w.heap.size ≤ x) :
    HalfAt w' h cb mb tv av lvv ps Fc (Fs.set i F') { S with tr := S.tr.set i (some l') } := by
  have hi : (parts h Fc tv av lvv mb Fs)[i + 6]? = some F := by simpa [parts] using hF
  have d : ∀ (j : Nat) (Q : List Nat), j < 6 → (parts h Fc tv av lvv mb Fs)[j]? = some Q → Disj Q F := fun j Q hne hj => H.dis hj hi (by omega)
  have hli : i < S.tr.length := by rw [← H.flen]; exact (List.getElem?_eq_some_iff.1 hF).1
  refine ⟨(hu.block h (lt_of_block H.head) (d 0 [h] (by omega) rfl h (by simp))).trans H.head, H.car.upd hu (d 1 _ (by omega) rfl), own_upd H.trow hu (d 2 _ (by omega) rfl), own_upd H.arow hu (d 3 _ (by omega) rfl), own_upd H.lrow hu (d 4 _ (by omega) rfl),
    H.mapp.upd hu (d 5 [mb] (by omega) rfl mb (by simp)), by rw [H.plen, List.length_set], by rw [List.length_set, H.flen, List.length_set], H.one, ?_, ?_, ?_⟩
  · intro j hj
    by_cases e : i = j
    · subst e
      rw [List.getElem?_set_self hli] at hj
      cases hj
    · rw [List.getElem?_set_ne e] at hj ⊢
      exact H.no j hj
  · intro j l hj
    by_cases e : i = j
    · subst e
      rw [List.getElem?_set_self hli] at hj
      cases hj
      exact ⟨p, F', hp, by rw [List.getElem?_set_self (by rw [H.flen]; exact hli)], hb⟩
    · rw [List.getElem?_set_ne e] at hj ⊢
      obtain ⟨p', F'', h1, h2, h3⟩ := H.yes j l hj
      exact ⟨p', F'', h1, h2, h3.upd hu (H.dis (i := j + 6) (by simpa [parts] using h2) hi (by omega))⟩
  · have := pw_set (i := i + 6) H.apart H.lt hi hn
    simpa [parts] using this

/-- A tree is put into its place. -/
theorem HalfAt.tree (H : HalfAt w h cb mb tv av lvv ps Fc Fs S) {q n C : Nat} (ht : tv = .slice (some ⟨q, 0, none⟩) n C) {i : Nat} (hi : i < S.tr.length) {p : Value} {F : List Nat} (ol : Option (List Int)) (hone : p.oneCell' = true)
    (hp : (ol = none ∧ F = []) ∨ ∃ l, ol = some l ∧ IsBag w p l F) (hF : ∀ P ∈ parts h Fc tv av lvv mb Fs, Disj F P) :
    HalfAt (w.setCell ⟨q, i, none⟩ p) h cb mb tv av lvv (ps.set i p) Fc (Fs.set i F) { S with tr := S.tr.set i ol } := by
  subst ht
  have hu : Upd [q] w (w.setCell ⟨q, i, none⟩ p) := (Upd.refl _ _).setCell (p := ⟨q, i, none⟩) (.inl (by simp)) _
  have d : ∀ (j : Nat) (Q : List Nat), j ≠ 2 → (parts h Fc (.slice (some ⟨q, 0, none⟩) n C) av lvv mb Fs)[j]? = some Q → Disj Q [q] := fun j Q hne hj => H.dis hj (j := 2) rfl hne
  have hn : n = ps.length := by
    obtain ⟨A', C', he⟩ := own_form H.trow
    cases he; rfl
  subst hn
  have hF2 : Disj F [q] := by
    have := hF (blk (.slice (some ⟨q, 0, none⟩) ps.length C)) (by simp [parts])
    simpa [blk] using this
  refine ⟨(hu.block h (lt_of_block H.head) (d 0 [h] (by omega) rfl h (by simp))).trans H.head, H.car.upd hu (d 1 _ (by omega) rfl), ?_, own_upd H.arow hu (d 3 _ (by omega) rfl), own_upd H.lrow hu (d 4 _ (by omega) rfl),
    H.mapp.upd hu (d 5 [mb] (by omega) rfl mb (by simp)), by rw [List.length_set, H.plen, List.length_set], by rw [List.length_set, H.flen, List.length_set], ?_, ?_, ?_, ?_⟩
  · have := (World.ownsRow.stored H.trow i p).1
    unfold ptrRow
    rw [List.length_set]
    exact this
  · intro u hu'
    rcases List.mem_or_eq_of_mem_set hu' with h1 | h1
    · exact H.one u h1
    · rw [h1]; exact hone
  · intro j hj
    by_cases e : i = j
    · subst e
      rw [List.getElem?_set_self hi] at hj
      rw [List.getElem?_set_self (by rw [H.flen]; exact hi)]
      rcases hp with ⟨_, h2⟩ | ⟨l, h2, _⟩
      · rw [h2]
      · rw [h2] at hj; cases hj
    · rw [List.getElem?_set_ne e] at hj ⊢
      exact H.no j hj
  · intro j l hj
    by_cases e : i = j
    · subst e
      rw [List.getElem?_set_self hi] at hj
      rcases hp with ⟨h2, _⟩ | ⟨l', h2, h3⟩
      · rw [h2] at hj; cases hj
      · rw [h2] at hj
        cases hj
        exact ⟨p, F, by rw [List.getElem?_set_self (by rw [H.plen]; exact hi)], by rw [List.getElem?_set_self (by rw [H.flen]; exact hi)], h3.upd hu hF2⟩
    · rw [List.getElem?_set_ne e] at hj ⊢
      rw [List.getElem?_set_ne e]
      obtain ⟨p', F'', h1, h2, h3⟩ := H.yes j l hj
      exact ⟨p', F'', h1, h2, h3.upd hu (d (j + 6) _ (by omega) (by simpa [parts] using h2))⟩
  · have h0 := H.apart
    have key : ∀ j (hj : j < (parts h Fc (.slice (some ⟨q, 0, none⟩) ps.length C) av lvv mb Fs).length), Disj F (parts h Fc (.slice (some ⟨q, 0, none⟩) ps.length C) av lvv mb Fs)[j] := fun j hj => hF _ (List.getElem_mem hj)
    have hset : parts h Fc (.slice (some ⟨q, 0, none⟩) ps.length C) av lvv mb (Fs.set i F) = (parts h Fc (.slice (some ⟨q, 0, none⟩) ps.length C) av lvv mb Fs).set (i + 6) F := by simp [parts]
    rw [hset]
    rw [List.pairwise_iff_getElem] at h0 ⊢
    intro a b ha hb hab
    rw [List.length_set] at ha hb
    rw [List.getElem_set, List.getElem_set]
    split
    · split
      · omega
      · exact key b hb
    · split
      · exact (key a ha).symm
      · exact h0 a b ha hb hab
end Go.Proofs.Ytkhgglafnjfiaaa
