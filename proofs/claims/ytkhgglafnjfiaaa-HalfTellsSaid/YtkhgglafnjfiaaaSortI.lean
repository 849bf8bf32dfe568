/- Putting numbers in order by insertion from behind. -/
import Derived.Test.YtkhgglafnjfiaaaRows
namespace Go.Proofs.Ytkhgglafnjfiaaa

/-- x comes behind all that are not above it. -/
def ins (s : List Int) (x : Int) : List Int := (s.reverse.dropWhile fun y => decide (x < y)).reverse ++ x :: (s.reverse.takeWhile fun y => decide (x < y)).reverse

theorem ins_at (s : List Int) (x : Int) (a : Nat) (ha : a ≤ s.length) (h1 : ∀ y ∈ s.drop a, x < y) (h2 : ∀ h : 0 < a, s[a - 1]'(by omega) ≤ x) : ins s x = s.take a ++ x :: s.drop a := by
  have e : s.reverse = (s.drop a).reverse ++ (s.take a).reverse := by rw [← List.reverse_append, List.take_append_drop]
  have h3 : ∀ y ∈ (s.drop a).reverse, decide (x < y) = true := fun y hy => by simpa using h1 y (by simpa using hy)
  have h4 : (s.take a).reverse.takeWhile (fun y => decide (x < y)) = [] ∧ (s.take a).reverse.dropWhile (fun y => decide (x < y)) = (s.take a).reverse := by
    rcases Nat.eq_zero_or_pos a with h0 | h0
    · subst h0; simp
    · have hl : (s.take a).reverse = s[a - 1]'(by omega) :: (s.take (a - 1)).reverse := by
        have : s.take a = s.take (a - 1) ++ [s[a - 1]'(by omega)] := by
          have h := List.take_succ_eq_append_getElem (l := s) (i := a - 1) (by omega)
          rwa [show a - 1 + 1 = a by omega] at h
        rw [this]; simp
      have hx : decide (x < s[a - 1]'(by omega)) = false := by simpa using h2 h0
      rw [hl]
      simp [hx]
  unfold ins
  rw [e, List.takeWhile_append_of_pos h3, List.dropWhile_append_of_pos h3, h4.1, h4.2]
  simp

def sortI (l : List Int) : List Int := l.foldl ins []

theorem sortI_snoc (l : List Int) (x : Int) : sortI (l ++ [x]) = ins (sortI l) x := by simp [sortI]

theorem ins_perm (s : List Int) (x : Int) : (ins s x).Perm (x :: s) := by
  have h : s.Perm ((s.reverse.takeWhile fun y => decide (x < y)).reverse ++ (s.reverse.dropWhile fun y => decide (x < y)).reverse) := by
    have h1 : (s.reverse.takeWhile fun y => decide (x < y)) ++ (s.reverse.dropWhile fun y => decide (x < y)) = s.reverse := List.takeWhile_append_dropWhile
    have h2 := (List.reverse_perm s).symm
    rw [← h1] at h2
    exact h2.trans ((List.reverse_perm _).symm.append (List.reverse_perm _).symm)
  unfold ins
  refine List.perm_middle.trans (List.Perm.cons _ ?_)
  exact List.perm_append_comm.trans h.symm

theorem sortI_perm (l : List Int) : (sortI l).Perm l := by
  have h : ∀ (l s : List Int), (l.foldl ins s).Perm (s ++ l) := by
    intro l
    induction l with
    | nil => intro s; simp
    | cons a l ih =>
      intro s
      rw [List.foldl_cons]
      refine (ih (ins s a)).trans ?_
      refine ((ins_perm s a).append_right l).trans ?_
      exact List.perm_middle.symm
  simpa [sortI] using h l []

theorem sortI_len (l : List Int) : (sortI l).length = l.length := (sortI_perm l).length_eq

theorem ins_sorted (s : List Int) (x : Int) (h : s.Pairwise (· ≤ ·)) : (ins s x).Pairwise (· ≤ ·) := by
  obtain ⟨p, hp⟩ : ∃ p, (s.reverse.dropWhile fun y => decide (x < y)).reverse = p := ⟨_, rfl⟩
  obtain ⟨q, hq⟩ : ∃ q, (s.reverse.takeWhile fun y => decide (x < y)).reverse = q := ⟨_, rfl⟩
  have hs : s = p ++ q := by
    have h1 : (s.reverse.takeWhile fun y => decide (x < y)) ++ (s.reverse.dropWhile fun y => decide (x < y)) = s.reverse := List.takeWhile_append_dropWhile
    have h2 := congrArg List.reverse h1
    rw [List.reverse_append, List.reverse_reverse, hp, hq] at h2
    exact h2.symm
  have hq1 : ∀ y ∈ q, x < y := by
    intro y hy
    rw [← hq, List.mem_reverse] at hy
    have := List.all_eq_true.1 (List.all_takeWhile (l := s.reverse) (p := fun y => decide (x < y))) y hy
    simpa using this
  rw [hs, List.pairwise_append] at h
  obtain ⟨h1, h2, h3⟩ := h
  have hp1 : ∀ y ∈ p, y ≤ x := by
    rcases List.eq_nil_or_concat p with h0 | ⟨p', z, h0⟩
    · subst h0; simp
    · have hz : z ≤ x := by
        have h4 : (s.reverse.dropWhile fun y => decide (x < y)) = z :: p'.reverse := by
          have := congrArg List.reverse hp
          rw [List.reverse_reverse, h0] at this
          simpa using this
        have h5 := List.head_dropWhile_not (fun y => decide (x < y)) (l := s.reverse) (by rw [h4]; simp)
        simp only [h4, List.head_cons] at h5
        simpa using h5
      intro y hy
      rw [h0] at hy h1
      simp only [List.concat_eq_append, List.mem_append, List.mem_singleton, List.pairwise_append] at hy h1
      rcases hy with hy | rfl
      · exact Int.le_trans (h1.2.2 y hy z rfl) hz
      · exact hz
  unfold ins
  rw [hp, hq, List.pairwise_append, List.pairwise_cons]
  refine ⟨h1, ⟨fun y hy => Int.le_of_lt (hq1 y hy), h2⟩, fun y hy z hz => ?_⟩
  rcases List.mem_cons.1 hz with rfl | hz
  · exact hp1 y hy
  · exact h3 y hy z hz

theorem sortI_sorted (l : List Int) : (sortI l).Pairwise (· ≤ ·) := by
  have h : ∀ (l s : List Int), s.Pairwise (· ≤ ·) → (l.foldl ins s).Pairwise (· ≤ ·) := by
    intro l
    induction l with
    | nil => intro s hs; exact hs
    | cons a l ih => intro s hs; exact ih _ (ins_sorted s a hs)
  exact h l [] List.Pairwise.nil

theorem sortI_eq {a b : List Int} (h : a.Perm b) : sortI a = sortI b :=
  ((sortI_perm a).trans (h.trans (sortI_perm b).symm)).eq_of_pairwise (fun _ _ _ _ h1 h2 => Int.le_antisymm h1 h2) (sortI_sorted a) (sortI_sorted b)

/-- What is struck from the ordered list is struck from the list. -/
theorem sortI_erase (l : List Int) (x : Int) : (sortI l).erase x = sortI (l.erase x) := by
  have h1 : ((sortI l).erase x).Perm (sortI (l.erase x)) := ((sortI_perm l).erase x).trans (sortI_perm _).symm
  exact h1.eq_of_pairwise (fun _ _ _ _ h1 h2 => Int.le_antisymm h1 h2) ((sortI_sorted l).sublist List.erase_sublist) (sortI_sorted _)
end Go.Proofs.Ytkhgglafnjfiaaa
