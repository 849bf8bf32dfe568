/- An interval tree, plainly: what it tells of a number, what it touches, what a drop leaves. No program. -/
import Derived.Test.YtjpjlfcjkgmhdaaGreatSpanK
import Derived.Test.YtjpjlfcjkgmhdaaGreatSetB
namespace Go.Proofs.YtjpjlfcjkgmhdaaGreat

/-- A tree of knots. -/
inductive Kn where
  | nil : Kn
  | node (m : Int) (lows highs : List Sp) (l r : Kn) : Kn

def lessS (m : Int) (S : List Sp) : List Sp := S.filter fun s => decide (s.hi < m)
def moreS (m : Int) (S : List Sp) : List Sp := S.filter fun s => !decide (s.hi < m) && decide (m < s.lo)
def midS (m : Int) (S : List Sp) : List Sp := S.filter fun s => !decide (s.hi < m) && !decide (m < s.lo)

def Kn.depth : Kn → Nat
  | .nil => 0
  | .node _ _ _ l r => 1 + max l.depth r.depth

/-- A tree over spans. -/
def Kn.ok : Kn → List Sp → Prop
  | .nil, S => S = []
  | .node m lo hi l r, S => (lo.Perm (midS m S) ∧ lo.Pairwise (fun a b => a.lo ≤ b.lo)) ∧ (hi.Perm (midS m S) ∧ hi.Pairwise (fun a b => b.hi ≤ a.hi)) ∧ l.ok (lessS m S) ∧ r.ok (moreS m S)

/-- The row of a knot that is looked at; as far as it is taken. -/
def rowK (x m : Int) (lo hi : List Sp) : List Sp := if m < x then hi else lo
def hasK (x m : Int) (s : Sp) : Bool := if m < x then decide (x ≤ s.hi) else decide (s.lo ≤ x)
def partK (x m : Int) (lo hi : List Sp) : List Sp := (rowK x m lo hi).takeWhile (hasK x m)

def Kn.stab (x : Int) : Kn → List Sp
  | .nil => []
  | .node m lo hi l r => partK x m lo hi ++ (if x < m then l.stab x else if m < x then r.stab x else [])

def lookK (x m : Int) (lo hi : List Sp) : Nat := (partK x m lo hi).length + (if (partK x m lo hi).length < (rowK x m lo hi).length then 1 else 0)

def Kn.touch (x : Int) : Kn → Nat
  | .nil => 0
  | .node m lo hi l r => 1 + lookK x m lo hi + (if x < m then l.touch x else if m < x then r.touch x else 0)

def Kn.drop (x : Sp) : Kn → Kn
  | .nil => .nil
  | .node m lo hi l r => if x.hi < m then .node m lo hi (l.drop x) r else if m < x.lo then .node m lo hi l (r.drop x) else .node m (without lo x) (without hi x) l r

theorem split3 {α : Type} (p q : α → Bool) : ∀ S : List α, ((S.filter fun s => !p s && !q s) ++ (S.filter p ++ S.filter fun s => !p s && q s)).Perm S
  | [] => by simp
  | a :: S => by
    have ih := split3 p q S
    cases hp : p a <;> cases hq : q a
    · simp only [List.filter_cons, hp, hq, Bool.not_false, Bool.and_self, if_true, Bool.false_eq_true, if_false, Bool.and_false]
      exact List.Perm.cons a ih
    · simp only [List.filter_cons, hp, hq, Bool.not_false, Bool.not_true, Bool.and_self, if_true, Bool.false_eq_true, if_false, Bool.and_false]
      rw [← List.append_assoc]
      refine List.perm_middle.trans ?_
      rw [List.append_assoc]
      exact List.Perm.cons a ih
    · simp only [List.filter_cons, hp, hq, Bool.not_false, Bool.not_true, Bool.and_self, if_true, Bool.false_eq_true, if_false, Bool.false_and]
      rw [List.cons_append]
      refine List.perm_middle.trans ?_
      exact List.Perm.cons a ih
    · simp only [List.filter_cons, hp, hq, Bool.not_true, Bool.and_self, if_true, Bool.false_eq_true, if_false, Bool.and_true]
      rw [List.cons_append]
      refine List.perm_middle.trans ?_
      exact List.Perm.cons a ih

theorem parts_perm (m : Int) (S : List Sp) : (midS m S ++ (lessS m S ++ moreS m S)).Perm S := split3 (fun s : Sp => decide (s.hi < m)) (fun s : Sp => decide (m < s.lo)) S

theorem takeWhile_filter {α : Type} {p : α → Bool} : ∀ {l : List α}, l.Pairwise (fun a b => p b = true → p a = true) → l.takeWhile p = l.filter p
  | [], _ => rfl
  | a :: l, h => by
    rw [List.pairwise_cons] at h
    by_cases hp : p a = true
    · rw [List.takeWhile_cons_of_pos hp, List.filter_cons_of_pos hp, takeWhile_filter h.2]
    · rw [List.takeWhile_cons_of_neg hp, List.filter_cons_of_neg hp]
      symm
      rw [List.filter_eq_nil_iff]
      intro b hb hc
      exact hp (h.1 b hb hc)

theorem partK_perm {x m : Int} {lo hi S : List Sp} (h1 : lo.Perm (midS m S)) (h2 : lo.Pairwise (fun a b => a.lo ≤ b.lo)) (h3 : hi.Perm (midS m S)) (h4 : hi.Pairwise (fun a b => b.hi ≤ a.hi)) :
    (partK x m lo hi).Perm ((midS m S).filter fun s => stabBM s.lo s.hi x) := by
  have hin : ∀ s ∈ midS m S, m ≤ s.hi ∧ s.lo ≤ m := fun s hs => by
    unfold midS at hs
    simp at hs
    exact hs.2
  have e : ∀ s ∈ midS m S, hasK x m s = stabBM s.lo s.hi x := fun s hs => by
    have := hin s hs
    unfold hasK stabBM
    split
    · have h5 : s.lo ≤ x := by omega
      simp [h5]
    · have h5 : x ≤ s.hi := by omega
      simp [h5]
  unfold partK rowK
  split
  · rename_i hx
    rw [takeWhile_filter (h4.imp (by intro a b hab hb; unfold hasK at hb ⊢; rw [if_pos hx] at hb ⊢; simp at hb ⊢; omega))]
    refine (h3.filter _).trans (List.Perm.of_eq (List.filter_congr e))
  · rename_i hx
    rw [takeWhile_filter (h2.imp (by intro a b hab hb; unfold hasK at hb ⊢; rw [if_neg hx] at hb ⊢; simp at hb ⊢; omega))]
    exact (h1.filter _).trans (List.Perm.of_eq (List.filter_congr e))

theorem knStab_perm {x : Int} : ∀ {T : Kn} {S : List Sp}, T.ok S → (∀ s ∈ S, s.lo ≤ s.hi) → (T.stab x).Perm (S.filter fun s => stabBM s.lo s.hi x)
  | .nil, S, h, _ => by
    have : S = [] := h
    subst this
    exact List.Perm.refl _
  | .node m lo hi l r, S, h, hr => by
    obtain ⟨⟨h1, h2⟩, ⟨h3, h4⟩, h5, h6⟩ := h
    have ihl := knStab_perm (x := x) h5 (fun s hs => hr s (List.mem_filter.1 hs).1)
    have ihr := knStab_perm (x := x) h6 (fun s hs => hr s (List.mem_filter.1 hs).1)
    have hp := partK_perm (x := x) h1 h2 h3 h4
    have hS := ((parts_perm m S).filter fun s => stabBM s.lo s.hi x).symm
    rw [List.filter_append, List.filter_append] at hS
    refine List.Perm.trans ?_ hS.symm
    have nl : ¬ x < m → (lessS m S).filter (fun s => stabBM s.lo s.hi x) = [] := fun hx => by
      rw [List.filter_eq_nil_iff]
      intro s hs hc
      unfold lessS at hs
      unfold stabBM at hc
      simp at hs hc
      omega
    have nr : ¬ m < x → (moreS m S).filter (fun s => stabBM s.lo s.hi x) = [] := fun hx => by
      rw [List.filter_eq_nil_iff]
      intro s hs hc
      unfold moreS at hs
      unfold stabBM at hc
      simp at hs hc
      omega
    show (partK x m lo hi ++ (if x < m then l.stab x else if m < x then r.stab x else [])).Perm _
    refine List.Perm.append hp ?_
    by_cases c1 : x < m
    · rw [if_pos c1, nr (by omega), List.append_nil]; exact ihl
    · rw [if_neg c1, nl c1, List.nil_append]
      by_cases c2 : m < x
      · rw [if_pos c2]; exact ihr
      · rw [if_neg c2, nr c2]

theorem touch_many (x : Int) : ∀ T : Kn, (T.stab x).length ≤ T.touch x ∧ T.touch x ≤ 2 * T.depth + (T.stab x).length
  | .nil => by simp [Kn.stab, Kn.touch, Kn.depth]
  | .node m lo hi l r => by
    have hl := touch_many x l
    have hr := touch_many x r
    simp only [Kn.stab, Kn.touch, Kn.depth, List.length_append]
    unfold lookK
    have e : (if (partK x m lo hi).length < (rowK x m lo hi).length then 1 else 0) ≤ 1 := by split <;> omega
    split
    · omega
    · split
      · omega
      · simp only [List.length_nil]; omega

theorem mid_without (m : Int) (S : List Sp) (x : Sp) : midS m (without S x) = without (midS m S) x := by
  unfold midS without
  rw [List.filter_filter, List.filter_filter]
  exact List.filter_congr fun s _ => Bool.and_comm _ _
theorem less_without (m : Int) (S : List Sp) (x : Sp) : lessS m (without S x) = without (lessS m S) x := by
  unfold lessS without
  rw [List.filter_filter, List.filter_filter]
  exact List.filter_congr fun s _ => Bool.and_comm _ _
theorem more_without (m : Int) (S : List Sp) (x : Sp) : moreS m (without S x) = without (moreS m S) x := by
  unfold moreS without
  rw [List.filter_filter, List.filter_filter]
  exact List.filter_congr fun s _ => Bool.and_comm _ _

theorem without_perm {l m : List Sp} (h : l.Perm m) (x : Sp) : (without l x).Perm (without m x) := h.filter _

theorem drop_ok {x : Sp} (hx : x.lo ≤ x.hi) : ∀ {T : Kn} {S : List Sp}, T.ok S → (T.drop x).ok (without S x)
  | .nil, S, h => by
    have : S = [] := h
    subst this
    exact rfl
  | .node m lo hi l r, S, h => by
    obtain ⟨⟨h1, h2⟩, ⟨h3, h4⟩, h5, h6⟩ := h
    have nm : x.hi < m ∨ m < x.lo → without (midS m S) x = midS m S := fun hc => without_not (by unfold midS; simp; omega)
    have nl : ¬ x.hi < m → without (lessS m S) x = lessS m S := fun hc => without_not (by unfold lessS; simp; omega)
    have nr : ¬ m < x.lo → without (moreS m S) x = moreS m S := fun hc => without_not (by unfold moreS; simp; omega)
    unfold Kn.drop
    by_cases c1 : x.hi < m
    · rw [if_pos c1]
      unfold Kn.ok
      rw [mid_without, nm (.inl c1), less_without, more_without, nr (by omega)]
      exact ⟨⟨h1, h2⟩, ⟨h3, h4⟩, drop_ok hx h5, h6⟩
    · rw [if_neg c1]
      by_cases c2 : m < x.lo
      · rw [if_pos c2]
        unfold Kn.ok
        rw [mid_without, nm (.inr c2), less_without, more_without, nl c1]
        exact ⟨⟨h1, h2⟩, ⟨h3, h4⟩, h5, drop_ok hx h6⟩
      · rw [if_neg c2]
        unfold Kn.ok
        rw [mid_without, less_without, more_without, nl c1, nr c2]
        exact ⟨⟨without_perm h1 x, h2.filter _⟩, ⟨without_perm h3 x, h4.filter _⟩, h5, h6⟩

theorem drop_depth (x : Sp) : ∀ T : Kn, (T.drop x).depth = T.depth
  | .nil => rfl
  | .node m lo hi l r => by
    unfold Kn.drop
    split
    · simp only [Kn.depth, drop_depth x l]
    · split
      · simp only [Kn.depth, drop_depth x r]
      · rfl

theorem bitsN_half {n : Nat} (h : 0 < n) {k : Nat} (hk : 2 * k ≤ n) : bitsN k + 1 ≤ bitsN n := by
  have h1 := bitsN_lt n
  have hb : 0 < bitsN n := by unfold bitsN; rw [if_neg (by omega)]; omega
  have h2 : 2 ^ bitsN n = 2 * 2 ^ (bitsN n - 1) := by rw [← Nat.pow_succ']; congr 1; omega
  have := bitsN_le k (bitsN n - 1) (by omega)
  omega
end Go.Proofs.YtjpjlfcjkgmhdaaGreat
