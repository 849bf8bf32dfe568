/- Half in memory: its rows turn. -/
import Derived.Test.YtkhgglafnjfiaaaHalfB
namespace Go.Proofs.Ytkhgglafnjfiaaa
open Go.RowKit

theorem pw_put {Ps : List (List Nat)} (h : Ps.Pairwise Disj) {i : Nat} {G' : List Nat} (hG : ∀ j (hj : j < Ps.length), j ≠ i → Disj G' Ps[j]) : (Ps.set i G').Pairwise Disj := by
  rw [List.pairwise_iff_getElem] at h ⊢
  intro a b ha hb hab
  rw [List.length_set] at ha hb
  rw [List.getElem_set, List.getElem_set]
  split
  · split
    · omega
    · exact hG b hb (by omega)
  · split
    · exact (hG a ha (by omega)).symm
    · exact h a b ha hb hab

/-- Rows of unlike things lie apart. -/
theorem own_apart {w : World} {b1 b2 : Nat} {e1 e2 : TypeId} {s1 s2 : Nat} {v1 v2 : Value} {n1 n2 : Nat} {x1 x2 : List Value} (h1 : w.ownsRow b1 e1 s1 v1 n1 x1) (h2 : w.ownsRow b2 e2 s2 v2 n2 x2) (hne : e1 ≠ e2) : Disj (blk v1) (blk v2) := by
  intro x hx hc
  rcases h1.2 with ⟨rfl, _⟩ | ⟨g1, c1, k1, rfl, _, g, _⟩
  · simp [blk] at hx
  · rcases h2.2 with ⟨rfl, _⟩ | ⟨g2, c2, k2, rfl, _, g', _⟩
    · simp [blk] at hc
    · simp [blk] at hx hc
      subst hx
      rw [hc] at g
      rw [g] at g'
      injection g' with g'
      injection g' with g1 g2
      exact hne g2

variable {w w' : World} {h cb mb : Nat} {tv av lvv : Value} {ps : List Value} {Fc : List Nat} {Fs : List (List Nat)} {S : HS}

/-- A cell of an own row. -/
theorem own_at {w : World} {b : Nat} {e : TypeId} {A : Option Addr} {n m C : Nat} {xs : List Value} (h : w.ownsRow b e 1 (.slice A m C) n xs) {k : Nat} (hk : k < n) {u : Value} (hu : xs[k]? = some u) :
    ∃ q, A = some ⟨q, 0, none⟩ ∧ w.cell? ⟨q, k, none⟩ = some u ∧ w.frozen? ⟨q, k, none⟩ = false ∧ n ≤ C ∧ q < w.heap.size := by
  obtain ⟨q, cap, he, _, hlt⟩ := World.ownsRow.form h (by omega)
  cases he
  refine ⟨q, rfl, ?_, World.ownsRow.frozenAt h k, ?_, hlt⟩
  · have := World.ownsRow.cells h (g := q) rfl k u hu
    rwa [addr_add, Nat.zero_add] at this
  · rcases h.2 with ⟨h0, _⟩ | ⟨g', cap, cur, h0, _, _, h5, _⟩
    · cases h0
    · cases h0; exact h5

/-- The list of trees is another one. -/
theorem HalfAt.trees (H : HalfAt w h cb mb tv av lvv ps Fc Fs S) {tv' : Value} {ps' : List Value} {Fs' : List (List Nat)} {tr' : List (Option (List Int))} (hu : Upd (h :: blk tv) w w')
    (hh : w'.heap[h]? = some (.cells #[fnBuild, fnDrop, .pointer (some ⟨cb, 0, none⟩), tv', av, lvv, .map (some mb)] 83 (0, 0)))
    (ht : ptrRow w' tv' ps') (hb : ∀ x ∈ blk tv', x ∈ blk tv ∨ w.heap.size ≤ x) (hp : ps'.length = tr'.length) (hf : Fs'.length = tr'.length) (h1 : ∀ p ∈ ps', p.oneCell' = true) (h0 : ∀ i : Nat, tr'[i]? = some none → Fs'[i]? = some [])
    (hy : ∀ (i : Nat) (l : List Int), tr'[i]? = some (some l) → S.tr[i]? = some (some l) ∧ ps'[i]? = ps[i]? ∧ Fs'[i]? = Fs[i]?) (ha : (parts h Fc tv av lvv mb Fs').Pairwise Disj) (hs : ∀ F ∈ Fs', ∀ x ∈ F, x < w.heap.size) :
    HalfAt w' h cb mb tv' av lvv ps' Fc Fs' { S with tr := tr' } := by
  have d : ∀ (j : Nat) (Q : List Nat), j ≠ 0 → j ≠ 2 → (parts h Fc tv av lvv mb Fs)[j]? = some Q → Disj Q (h :: blk tv) := by
    intro j Q h0 h2 hj x hx hc
    rcases List.mem_cons.1 hc with rfl | hc
    · exact H.dis hj (j := 0) rfl h0 x hx (by simp)
    · exact H.dis hj (j := 2) rfl h2 x hx hc
  have ltp : ∀ P ∈ parts h Fc tv av lvv mb Fs', ∀ x ∈ P, x < w.heap.size := by
    intro P hP x hx
    simp only [parts, List.mem_cons] at hP
    rcases hP with e | e | e | e | e | e | hP
    · exact H.lt P (by simp [parts, e]) x hx
    · exact H.lt P (by simp [parts, e]) x hx
    · exact H.lt P (by simp [parts, e]) x hx
    · exact H.lt P (by simp [parts, e]) x hx
    · exact H.lt P (by simp [parts, e]) x hx
    · exact H.lt P (by simp [parts, e]) x hx
    · exact hs P hP x hx
  refine ⟨hh, H.car.upd hu (d 1 _ (by omega) (by omega) rfl), ht, own_upd H.arow hu (d 3 _ (by omega) (by omega) rfl), own_upd H.lrow hu (d 4 _ (by omega) (by omega) rfl),
    H.mapp.upd hu (d 5 [mb] (by omega) (by omega) rfl mb (by simp)), hp, hf, h1, h0, ?_, pw_set (i := 2) ha ltp rfl hb⟩
  intro i l hi
  obtain ⟨e1, e2, e3⟩ := hy i l hi
  obtain ⟨p, F, f1, f2, f3⟩ := H.yes i l e1
  exact ⟨p, F, by rw [e2]; exact f1, by rw [e3]; exact f2, f3.upd hu (d (i + 6) _ (by omega) (by omega) (by simpa [parts] using f2))⟩

/-- What is alive, and the levels, are other rows. -/
theorem HalfAt.rows (H : HalfAt w h cb mb tv av lvv ps Fc Fs S) {av' lv' : Value} {al : List Bool} {lv : List Nat} (hu : Upd (h :: (blk av ++ blk lvv)) w w')
    (hh : w'.heap[h]? = some (.cells #[fnBuild, fnDrop, .pointer (some ⟨cb, 0, none⟩), tv, av', lv', .map (some mb)] 83 (0, 0)))
    (ha : boolRow w' av' al) (hl : natRow w' lv' lv) (hba : ∀ x ∈ blk av', x ∈ blk av ∨ w.heap.size ≤ x) (hbl : ∀ x ∈ blk lv', x ∈ blk lvv ∨ w.heap.size ≤ x) :
    HalfAt w' h cb mb tv av' lv' ps Fc Fs { S with al := al, lv := lv } := by
  have d : ∀ (j : Nat) (Q : List Nat), j ≠ 0 → j ≠ 3 → j ≠ 4 → (parts h Fc tv av lvv mb Fs)[j]? = some Q → Disj Q (h :: (blk av ++ blk lvv)) := by
    intro j Q h0 h3 h4 hj x hx hc
    rcases List.mem_cons.1 hc with rfl | hc
    · exact H.dis hj (j := 0) rfl h0 x hx (by simp)
    · rcases List.mem_append.1 hc with hc | hc
      · exact H.dis hj (j := 3) rfl h3 x hx hc
      · exact H.dis hj (j := 4) rfl h4 x hx hc
  refine ⟨hh, H.car.upd hu (d 1 _ (by omega) (by omega) (by omega) rfl), own_upd H.trow hu (d 2 _ (by omega) (by omega) (by omega) rfl), ha, hl, H.mapp.upd hu (d 5 [mb] (by omega) (by omega) (by omega) rfl mb (by simp)), H.plen, H.flen, H.one, H.no, ?_, ?_⟩
  · intro i l hi
    obtain ⟨p, F, f1, f2, f3⟩ := H.yes i l hi
    exact ⟨p, F, f1, f2, f3.upd hu (d (i + 6) _ (by omega) (by omega) (by omega) (by simpa [parts] using f2))⟩
  · have h1 : ((parts h Fc tv av lvv mb Fs).set 3 (blk av')).Pairwise Disj := pw_set H.apart H.lt rfl hba
    have h2 : (((parts h Fc tv av lvv mb Fs).set 3 (blk av')).set 4 (blk lv')).Pairwise Disj := by
      refine pw_put h1 fun j hj hne x hx hc => ?_
      rw [List.getElem_set] at hc
      split at hc
      · exact own_apart hl ha (by decide) x hx hc
      · rw [List.length_set] at hj
        rcases hbl x hx with g | g
        · exact H.dis (i := 4) (j := j) rfl (List.getElem?_eq_getElem hj) (Ne.symm hne) x g hc
        · have := H.lt _ (List.getElem_mem hj) x hc; omega
    simpa [parts] using h2

/-- What a call leaves. -/
def HStep (w w' : World) (hv : Value) (F : List Nat) (S : HS) : Prop := ∃ F', IsHalf w' hv F' S ∧ Upd F w w' ∧ ∀ x ∈ F', x ∈ F ∨ w.heap.size ≤ x

theorem IsHalf.lt {hv : Value} {F : List Nat} (H : IsHalf w hv F S) : ∀ x ∈ F, x < w.heap.size := by
  obtain ⟨h, cb, mb, tv, av, lvv, ps, Fc, Fs, rfl, H, rfl⟩ := H
  intro x hx
  obtain ⟨P, hP, hx⟩ := List.mem_flatten.1 hx
  exact H.lt P hP x hx

theorem IsHalf.upd {hv : Value} {F G : List Nat} (H : IsHalf w hv F S) (hu : Upd G w w') (hd : ∀ x ∈ F, x ∉ G) : IsHalf w' hv F S := by
  obtain ⟨h, cb, mb, tv, av, lvv, ps, Fc, Fs, rfl, H, rfl⟩ := H
  exact ⟨h, cb, mb, tv, av, lvv, ps, Fc, Fs, rfl, H.upd hu fun P hP x hx => hd x (List.mem_flatten.2 ⟨P, hP, hx⟩), rfl⟩

theorem HStep.refl {hv : Value} {F : List Nat} (H : IsHalf w hv F S) : HStep w w hv F S := ⟨F, H, Upd.refl _ _, fun _ hx => .inl hx⟩

theorem HStep.trans {w'' : World} {hv : Value} {F : List Nat} {S' : HS} (H : HStep w w' hv F S) (K : ∀ F', IsHalf w' hv F' S → HStep w' w'' hv F' S') : HStep w w'' hv F S' := by
  obtain ⟨F', h1, h2, h3⟩ := H
  obtain ⟨F'', g1, g2, g3⟩ := K F' h1
  refine ⟨F'', g1, h2.trans' g2 h3, fun x hx => ?_⟩
  rcases g3 x hx with g | g
  · exact h3 x g
  · exact .inr (Nat.le_trans h2.size g)

theorem HStep.next {w'' : World} {hv : Value} {F F1 : List Nat} {S' : HS} (hu : Upd F w w') (hF : ∀ x ∈ F1, x ∈ F ∨ w.heap.size ≤ x) (K : HStep w' w'' hv F1 S') : HStep w w'' hv F S' := by
  obtain ⟨F'', g1, g2, g3⟩ := K
  refine ⟨F'', g1, hu.trans' g2 hF, fun x hx => ?_⟩
  rcases g3 x hx with g | g
  · exact hF x g
  · exact .inr (Nat.le_trans hu.size g)

theorem flat_set {Ps : List (List Nat)} {i : Nat} {G' : List Nat} {x : Nat} (h : x ∈ (Ps.set i G').flatten) : x ∈ Ps.flatten ∨ x ∈ G' := by
  obtain ⟨P, hP, hx⟩ := List.mem_flatten.1 h
  rcases List.mem_or_eq_of_mem_set hP with h1 | h1
  · exact .inl (List.mem_flatten.2 ⟨P, h1, hx⟩)
  · rw [h1] at hx; exact .inr hx

theorem mem_part {Ps : List (List Nat)} {i : Nat} {P : List Nat} {x : Nat} (hi : Ps[i]? = some P) (hx : x ∈ P) : x ∈ Ps.flatten := List.mem_flatten.2 ⟨P, List.mem_of_getElem? hi, hx⟩

theorem HStep.quiet {w'' : World} {hv : Value} {F : List Nat} (H : HStep w w' hv F S) (hu : Upd [] w' w'') : HStep w w'' hv F S :=
  H.trans fun F' h => ⟨F', h.upd hu (by simp), hu.mono (by simp), fun x hx => .inl hx⟩
end Go.Proofs.Ytkhgglafnjfiaaa
