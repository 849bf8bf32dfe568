/- Sums over whole numbers from one to another, and over blocks between lines. No program. -/
namespace Go.Proofs.YtcpompbiohaomaaGreat

/-- The sum of f at n numbers from a on. -/
def sumN (f : Int → Int) (a : Int) : Nat → Int
  | 0 => 0
  | n + 1 => sumN f a n + f (a + n)

/-- The sum of f at all numbers from a on, below b. -/
def sumR (f : Int → Int) (a b : Int) : Int := sumN f a (b - a).toNat

theorem sumN_congr {f g : Int → Int} {a : Int} : ∀ (n : Nat), (∀ x, a ≤ x → x < a + n → f x = g x) → sumN f a n = sumN g a n
  | 0, _ => rfl
  | n + 1, h => by
    rw [sumN, sumN, sumN_congr n (fun x h1 h2 => h x h1 (by omega)), h (a + n) (by omega) (by omega)]

theorem sumN_append (f : Int → Int) (a : Int) (m : Nat) : ∀ (n : Nat), sumN f a (m + n) = sumN f a m + sumN f (a + m) n
  | 0 => by simp [sumN]
  | n + 1 => by
    rw [← Nat.add_assoc, sumN, sumN_append f a m n, sumN]
    have e : a + ((m + n : Nat) : Int) = a + m + n := by omega
    rw [e]; omega

theorem sumN_add (f g : Int → Int) (a : Int) : ∀ (n : Nat), sumN (fun x => f x + g x) a n = sumN f a n + sumN g a n
  | 0 => rfl
  | n + 1 => by simp only [sumN]; rw [sumN_add f g a n]; omega

theorem sumN_mul (f : Int → Int) (k a : Int) : ∀ (n : Nat), sumN (fun x => k * f x) a n = k * sumN f a n
  | 0 => by simp [sumN]
  | n + 1 => by simp only [sumN]; rw [sumN_mul f k a n, Int.mul_add]

theorem sumN_const (k a : Int) : ∀ (n : Nat), sumN (fun _ => k) a n = k * n
  | 0 => by simp [sumN]
  | n + 1 => by simp only [sumN]; rw [sumN_const k a n, Int.natCast_add, Int.mul_add]; simp

theorem sumN_mono {f g : Int → Int} {a : Int} : ∀ (n : Nat), (∀ x, a ≤ x → x < a + n → f x ≤ g x) → sumN f a n ≤ sumN g a n
  | 0, _ => Int.le_refl _
  | n + 1, h => by
    have h1 := sumN_mono n (fun x h1 h2 => h x h1 (by omega))
    have h2 := h (a + n) (by omega) (by omega)
    simp only [sumN]; omega

theorem sumN_shift (f : Int → Int) (d a : Int) : ∀ (n : Nat), sumN (fun x => f (x + d)) a n = sumN f (a + d) n
  | 0 => rfl
  | n + 1 => by
    simp only [sumN]; rw [sumN_shift f d a n]
    have e : a + (n : Int) + d = a + d + n := by omega
    rw [e]

theorem sumN_cons (f : Int → Int) (a : Int) (n : Nat) : sumN f a (n + 1) = f a + sumN f (a + 1) n := by
  rw [Nat.add_comm n 1, sumN_append f a 1 n]
  simp [sumN]

theorem sumN_turn (f : Int → Int) (a : Int) : ∀ (n : Nat), sumN (fun x => f (-x)) a n = sumN f (1 - a - n) n
  | 0 => rfl
  | n + 1 => by
    rw [sumN, sumN_turn f a n, sumN_cons]
    have e1 : 1 - a - ((n + 1 : Nat) : Int) + 1 = 1 - a - n := by omega
    have e2 : 1 - a - ((n + 1 : Nat) : Int) = -(a + n) := by omega
    rw [e1, e2]; omega

theorem sumN_swap (f : Int → Int → Int) (a b : Int) (m : Nat) : ∀ (n : Nat), sumN (fun x => sumN (fun y => f x y) b m) a n = sumN (fun y => sumN (fun x => f x y) a n) b m
  | 0 => by
    have : ∀ m : Nat, sumN (fun _ => (0 : Int)) b m = 0 := fun m => by rw [sumN_const]; simp
    simp only [sumN]; exact (this m).symm
  | n + 1 => by
    simp only [sumN]
    rw [sumN_swap f a b m n, ← sumN_add]

section
variable {f g : Int → Int} {a b c : Int}

theorem sumR_none (h : b ≤ a) : sumR f a b = 0 := by
  unfold sumR
  rw [show (b - a).toNat = 0 by omega]; rfl

theorem sumR_split (h1 : a ≤ b) (h2 : b ≤ c) : sumR f a c = sumR f a b + sumR f b c := by
  unfold sumR
  rw [show (c - a).toNat = (b - a).toNat + (c - b).toNat by omega, sumN_append]
  rw [show a + ((b - a).toNat : Int) = b by omega]

theorem sumR_congr (h : ∀ x, a ≤ x → x < b → f x = g x) : sumR f a b = sumR g a b := sumN_congr _ fun x h1 h2 => h x h1 (by omega)

theorem sumR_mono (h : ∀ x, a ≤ x → x < b → f x ≤ g x) : sumR f a b ≤ sumR g a b := sumN_mono _ fun x h1 h2 => h x h1 (by omega)

theorem sumR_const (k : Int) (hab : a ≤ b) : sumR (fun _ => k) a b = k * (b - a) := by
  unfold sumR
  rw [sumN_const, Int.toNat_of_nonneg (by omega)]

theorem sumR_zero : sumR (fun _ => 0) a b = 0 := by
  unfold sumR
  rw [sumN_const]; simp

theorem sumR_of_zero (h : ∀ x, a ≤ x → x < b → f x = 0) : sumR f a b = 0 := by
  rw [sumR_congr (g := fun _ => 0) h, sumR_zero]

theorem sumR_const' (k : Int) (hab : a ≤ b) (h : ∀ x, a ≤ x → x < b → f x = k) : sumR f a b = k * (b - a) := by
  rw [sumR_congr h, sumR_const k hab]

theorem sumR_nonneg (h : ∀ x, a ≤ x → x < b → 0 ≤ f x) : 0 ≤ sumR f a b := by
  have := sumR_mono (f := fun _ => 0) (g := f) (a := a) (b := b) h
  rwa [sumR_zero] at this

theorem sumR_le (k : Int) (hab : a ≤ b) (h : ∀ x, a ≤ x → x < b → f x ≤ k) : sumR f a b ≤ k * (b - a) := by
  have := sumR_mono (f := f) (g := fun _ => k) (a := a) (b := b) h
  rwa [sumR_const k hab] at this

theorem sumR_add : sumR (fun x => f x + g x) a b = sumR f a b + sumR g a b := sumN_add f g a _
theorem sumR_mul (k : Int) : sumR (fun x => k * f x) a b = k * sumR f a b := sumN_mul f k a _
theorem sumR_sub : sumR (fun x => f x - g x) a b = sumR f a b - sumR g a b := by
  have h1 := sumR_add (f := fun x => f x - g x) (g := g) (a := a) (b := b)
  have h2 : sumR (fun x => f x - g x + g x) a b = sumR f a b := sumR_congr fun x _ _ => by omega
  omega
theorem sumR_shift (d : Int) : sumR (fun x => f (x + d)) a b = sumR f (a + d) (b + d) := by
  unfold sumR
  rw [sumN_shift, show (b + d - (a + d)).toNat = (b - a).toNat by omega]
theorem sumR_turn : sumR (fun x => f (-x)) a b = sumR f (1 - b) (1 - a) := by
  unfold sumR
  by_cases h : a ≤ b
  · rw [sumN_turn, show (1 - a - (1 - b)).toNat = (b - a).toNat by omega, show 1 - a - ((b - a).toNat : Int) = 1 - b by omega]
  · rw [show (b - a).toNat = 0 by omega, show (1 - a - (1 - b)).toNat = 0 by omega]; rfl
end

theorem sumR_swap (f : Int → Int → Int) (a b c d : Int) : sumR (fun x => sumR (fun y => f x y) c d) a b = sumR (fun y => sumR (fun x => f x y) a b) c d := sumN_swap f a c _ _

/-- Only from p to q there is anything. -/
theorem sumR_within {f : Int → Int} {a b p q : Int} (h1 : a ≤ p) (h2 : p ≤ q) (h3 : q ≤ b) (hz : ∀ x, x < p ∨ q ≤ x → f x = 0) : sumR f a b = sumR f p q := by
  rw [sumR_split h1 (Int.le_trans h2 h3), sumR_split h2 h3, sumR_of_zero (b := p) (fun x _ hx => hz x (.inl hx)), sumR_of_zero (a := q) (fun x hx _ => hz x (.inr hx))]
  omega

/-- f is alike from each line on up to the next: what lies between the first line and the last one. -/
def stepSum (f : Int → Int) : List Int → Int
  | x :: y :: r => f x * (y - x) + stepSum f (y :: r)
  | _ => 0

theorem stepSum_eq (f : Int → Int) : ∀ (l : List Int), l.Pairwise (· < ·) → (∀ (i : Nat) (x y z : Int), l[i]? = some x → l[i + 1]? = some y → x ≤ z → z < y → f z = f x) →
    ∀ p q, l.head? = some p → l.getLast? = some q → sumR f p q = stepSum f l ∧ p ≤ q := by
  intro l
  induction l with
  | nil => intro _ _ p q hp; simp at hp
  | cons x r ih =>
    intro hl hf p q hp hq
    simp at hp; subst hp
    rcases r with _ | ⟨y, r⟩
    · simp at hq; subst hq
      exact ⟨by rw [sumR_none (Int.le_refl _)]; rfl, Int.le_refl _⟩
    · have hxy : x < y := by
        have := List.rel_of_pairwise_cons hl (a' := y) (by simp)
        exact this
      rw [List.getLast?_cons_cons] at hq
      obtain ⟨h1, h2⟩ := ih (List.Pairwise.of_cons hl) (fun i u v z hu hv h1 h2 => hf (i + 1) u v z (by simpa using hu) (by simpa using hv) h1 h2) y q rfl hq
      refine ⟨?_, by omega⟩
      rw [sumR_split (Int.le_of_lt hxy) h2, h1, stepSum, sumR_const' (f x) (Int.le_of_lt hxy) (fun z h1 h2 => hf 0 x y z rfl rfl h1 h2)]
end Go.Proofs.YtcpompbiohaomaaGreat
