/- Half, plainly: the trees have together just what is alive. -/
import Derived.Test.YtkhgglafnjfiaaaHalfS
namespace Go.Proofs.Ytkhgglafnjfiaaa

theorem flat_sort (al : List Bool) (b : Nat → List (Int × Nat)) (l : List Nat) : ((l.map fun i => sortI (live al (b i))).flatten).Perm ((l.map fun i => live al (b i)).flatten) := by
  induction l with
  | nil => exact List.Perm.refl _
  | cons a l ih =>
    rw [List.map_cons, List.map_cons, List.flatten_cons, List.flatten_cons]
    exact (sortI_perm _).append ih

theorem flat_filter {α : Type} (p : Nat → Bool) (f : Nat → List α) (l : List Nat) (h : ∀ i ∈ l, p i = false → f i = []) : ((l.filter p).map f).flatten = (l.map f).flatten := by
  induction l with
  | nil => rfl
  | cons a l ih =>
    have ih' := ih fun i hi => h i (by simp [hi])
    rw [List.filter_cons, List.map_cons, List.flatten_cons]
    by_cases hp : p a = true
    · rw [if_pos hp, List.map_cons, List.flatten_cons, ih']
    · rw [if_neg hp, ih', h a (by simp) (by simpa using hp), List.nil_append]

theorem live_flat (al : List Bool) (b : Nat → List (Int × Nat)) (l : List Nat) : (l.map fun i => live al (b i)).flatten = live al (l.map b).flatten := by
  induction l with
  | nil => rfl
  | cons a l ih =>
    rw [List.map_cons, List.map_cons, List.flatten_cons, List.flatten_cons, ih]
    unfold live
    rw [liv_app, List.map_append]

theorem trees_perm (S : HS) : (treesL S).flatten.Perm (vAll (view S)) := by
  rw [view_all]
  unfold treesL
  refine (flat_sort S.al (bucketOf S.cs) (idxA S.cs)).trans ?_
  unfold idxA idxF
  rw [flat_filter _ _ _ (fun i _ hi => by
    have : bucketOf S.cs i = [] := by simpa using hi
    rw [this]; rfl), live_flat]
  have : ((List.range' 0 (bitsN S.cs.length - 0)).reverse.map (bucketOf S.cs)) = (setB S.cs).reverse := by
    rw [Nat.sub_zero, ← List.range_eq_range', List.map_reverse]
    rfl
  rw [this, setB_all]

/-- Each number once. -/
def onesM (P : List Int) : List (Int × Int) := P.foldl (fun m x => mput m x 1) []

theorem onesM_snoc (P : List Int) (x : Int) : onesM (P ++ [x]) = mput (onesM P) x 1 := by simp [onesM, List.foldl_append]

theorem onesM_rev (P : List Int) (Q : List Int → Prop) (h0 : Q []) (h1 : ∀ P x, Q P → Q (P ++ [x])) : Q P := by
  have : ∀ n (P : List Int), P.length = n → Q P := by
    intro n
    induction n with
    | zero => intro P hP; rw [List.length_eq_zero_iff.1 hP]; exact h0
    | succ n ih =>
      intro P hP
      have hne : P ≠ [] := by rintro rfl; simp at hP
      rw [← List.dropLast_concat_getLast hne]
      exact h1 _ _ (ih _ (by simp [hP]))
  exact this _ P rfl

theorem onesM_lookup (P : List Int) (x : Int) : (onesM P).lookup x = if x ∈ P then some 1 else none := by
  refine onesM_rev P (fun P => (onesM P).lookup x = if x ∈ P then some 1 else none) rfl (fun P y ih => ?_)
  rw [onesM_snoc, lookup_mput, ih]
  by_cases e : x = y
  · simp [e]
  · simp [e]

theorem onesM_nodup (P : List Int) : ((onesM P).map (·.1)).Nodup := by
  refine onesM_rev P (fun P => ((onesM P).map (·.1)).Nodup) (by simp [onesM]) (fun P y ih => ?_)
  rw [onesM_snoc]
  exact nodup_mput ih y 1

theorem onesM_len (P : List Int) (h : P.Nodup) : (onesM P).length = P.length := by
  have : ∀ P : List Int, P.Nodup → (onesM P).length = P.length := by
    intro P
    refine onesM_rev P (fun P => P.Nodup → (onesM P).length = P.length) (by simp [onesM]) (fun P y ih hn => ?_)
    rw [List.nodup_append] at hn
    obtain ⟨n1, _, n3⟩ := hn
    have hy : y ∉ P := fun hy => n3 y hy y (by simp) rfl
    rw [onesM_snoc, length_mput (onesM_nodup P), onesM_lookup, if_neg hy, ih n1]
    simp
  exact this P h
end Go.Proofs.Ytkhgglafnjfiaaa
