/- Cells that boxes cover, counted by what each covers, less what is covered behind it, too; plainly. No program. -/
import Derived.Test.YtokeagmphjgkkaaBoxP
namespace Go.Proofs.Ytokeagmphjgkkaa

/-- A cell of a box whose sides are longer by mX and mY. -/
def cellM (mX mY : Int) (b : Bx) (x y : Int) : Bool := b.counts && decide (b.x1 ≤ x ∧ x < b.x2 + mX ∧ b.y1 ≤ y ∧ y < b.y2 + mY)
def covM' (mX mY : Int) (l : List Bx) (x y : Int) : Bool := l.any fun b => cellM mX mY b x y

/-- What two boxes hold. -/
def bothB (b i : Bx) : Bx := ⟨max b.x1 i.x1, min b.x2 i.x2, max b.y1 i.y1, min b.y2 i.y2, 0⟩
def okI (b i : Bx) : Bool := b.counts && (decide ((bothB b i).x1 ≤ (bothB b i).x2) && decide ((bothB b i).y1 ≤ (bothB b i).y2))
def oneI (mX mY : Int) (b : Bx) : Int := (b.x2 - b.x1 + mX) * (b.y2 - b.y1 + mY)

def cellsI (mX mY : Int) : List Bx → Bx → Int
  | [], _ => 0
  | b :: l, i => (if okI b i = true then oneI mX mY (bothB b i) - cellsI mX mY l (bothB b i) else 0) + cellsI mX mY l i

/-- The sum over a box. -/
def overI (mX mY : Int) (i : Bx) (f : Int → Int → Int) : Int := sumR (fun x => sumR (fun y => f x y) i.y1 (i.y2 + mY)) i.x1 (i.x2 + mX)

theorem sumR_in {f : Int → Int} {a b p q : Int} (h1 : a ≤ p) (h2 : p ≤ q) (h3 : q ≤ b) (hz : ∀ x, a ≤ x → x < b → (x < p ∨ q ≤ x) → f x = 0) : sumR f a b = sumR f p q := by
  rw [sumR_split h1 (show p ≤ b by omega), sumR_split h2 h3, sumR_of_zero fun x h4 h5 => hz x h4 (by omega) (.inl h5), sumR_of_zero (a := q) fun x h4 h5 => hz x (by omega) h5 (.inr h4)]
  omega

theorem overI_zero {mX mY : Int} {i : Bx} {f : Int → Int → Int} (h : ∀ x y, i.x1 ≤ x → x < i.x2 + mX → i.y1 ≤ y → y < i.y2 + mY → f x y = 0) : overI mX mY i f = 0 :=
  sumR_of_zero fun x h1 h2 => sumR_of_zero fun y h3 h4 => h x y h1 h2 h3 h4

theorem overI_congr {mX mY : Int} {i : Bx} {f g : Int → Int → Int} (h : ∀ x y, i.x1 ≤ x → x < i.x2 + mX → i.y1 ≤ y → y < i.y2 + mY → f x y = g x y) : overI mX mY i f = overI mX mY i g :=
  sumR_congr fun x h1 h2 => sumR_congr fun y h3 h4 => h x y h1 h2 h3 h4

theorem overI_add (mX mY : Int) (i : Bx) (f g : Int → Int → Int) : overI mX mY i (fun x y => f x y + g x y) = overI mX mY i f + overI mX mY i g := by
  unfold overI
  rw [← sumR_add]
  exact sumR_congr fun x _ _ => sumR_add

theorem overI_sub (mX mY : Int) (i : Bx) (f g : Int → Int → Int) : overI mX mY i (fun x y => f x y - g x y) = overI mX mY i f - overI mX mY i g := by
  unfold overI
  rw [← sumR_sub]
  exact sumR_congr fun x _ _ => sumR_sub

/-- Where all that counts lies in a part of a box, the sum over the part is the sum over the box. -/
theorem overI_part {mX mY : Int} {i p : Bx} {f : Int → Int → Int} (hx1 : i.x1 ≤ p.x1) (hx : p.x1 ≤ p.x2 + mX) (hx2 : p.x2 ≤ i.x2) (hy1 : i.y1 ≤ p.y1) (hy : p.y1 ≤ p.y2 + mY) (hy2 : p.y2 ≤ i.y2)
    (h : ∀ x y, i.x1 ≤ x → x < i.x2 + mX → i.y1 ≤ y → y < i.y2 + mY → ¬ (p.x1 ≤ x ∧ x < p.x2 + mX ∧ p.y1 ≤ y ∧ y < p.y2 + mY) → f x y = 0) : overI mX mY i f = overI mX mY p f := by
  unfold overI
  rw [sumR_in hx1 hx (show p.x2 + mX ≤ i.x2 + mX by omega) fun x h1 h2 h3 => sumR_of_zero fun y h4 h5 => h x y h1 h2 h4 h5 (by omega)]
  exact sumR_congr fun x h1 h2 => sumR_in hy1 hy (by omega) fun y h4 h5 h6 => h x y (by omega) (by omega) h4 h5 (by omega)

theorem overI_one {mX mY : Int} {i : Bx} (hx : i.x1 ≤ i.x2 + mX) (hy : i.y1 ≤ i.y2 + mY) : overI mX mY i (fun _ _ => 1) = oneI mX mY i := by
  unfold overI oneI
  rw [sumR_congr (g := fun _ => 1 * (i.y2 + mY - i.y1)) fun x _ _ => sumR_const 1 hy, sumR_const _ hx]
  rw [Int.one_mul, Int.mul_comm]
  congr 1 <;> omega

theorem cellsI_eq {mX mY : Int} (mx : 0 ≤ mX ∧ mX ≤ 1) (my : 0 ≤ mY ∧ mY ≤ 1) : ∀ (l : List Bx) (i : Bx), i.x1 ≤ i.x2 → i.y1 ≤ i.y2 → cellsI mX mY l i = overI mX mY i (fun x y => ind (covM' mX mY l x y))
  | [], i, _, _ => by unfold cellsI; exact (overI_zero fun x y _ _ _ _ => rfl).symm
  | b :: l, i, h1, h2 => by
    have ih := cellsI_eq mx my l i h1 h2
    unfold cellsI
    rw [ih]
    have e : overI mX mY i (fun x y => ind (covM' mX mY (b :: l) x y)) = overI mX mY i (fun x y => (ind (cellM mX mY b x y) - ind (cellM mX mY b x y && covM' mX mY l x y)) + ind (covM' mX mY l x y)) := by
      refine overI_congr fun x y _ _ _ _ => ?_
      unfold covM'
      rw [List.any_cons]
      cases cellM mX mY b x y <;> cases (l.any fun b => cellM mX mY b x y) <;> rfl
    rw [e, overI_add, overI_sub]
    congr 1
    by_cases hok : okI b i = true
    · rw [if_pos hok]
      have hok' := hok
      unfold okI at hok'
      simp only [Bool.and_eq_true, decide_eq_true_eq] at hok'
      obtain ⟨hc, g1, g2⟩ := hok'
      have ih2 := cellsI_eq mx my l (bothB b i) g1 g2
      have q1 : i.x1 ≤ (bothB b i).x1 := by unfold bothB; dsimp only; omega
      have q2 : (bothB b i).x2 ≤ i.x2 := by unfold bothB; dsimp only; omega
      have q3 : i.y1 ≤ (bothB b i).y1 := by unfold bothB; dsimp only; omega
      have q4 : (bothB b i).y2 ≤ i.y2 := by unfold bothB; dsimp only; omega
      have hin : ∀ x y, i.x1 ≤ x → x < i.x2 + mX → i.y1 ≤ y → y < i.y2 + mY → cellM mX mY b x y = decide ((bothB b i).x1 ≤ x ∧ x < (bothB b i).x2 + mX ∧ (bothB b i).y1 ≤ y ∧ y < (bothB b i).y2 + mY) := fun x y a1 a2 a3 a4 => by
        unfold cellM
        rw [hc, Bool.true_and]
        refine decide_eq_decide.2 ?_
        unfold bothB
        dsimp only
        omega
      rw [ih2, ← overI_one (mX := mX) (mY := mY) (i := bothB b i) (by omega) (by omega)]
      congr 1
      · rw [overI_part (i := i) (p := bothB b i) q1 (by omega) q2 q3 (by omega) q4 fun x y a1 a2 a3 a4 hn => by rw [hin x y a1 a2 a3 a4, decide_eq_false hn]; rfl]
        refine (overI_congr fun x y a1 a2 a3 a4 => ?_).symm
        rw [hin x y (by omega) (by omega) (by omega) (by omega), decide_eq_true ⟨a1, a2, a3, a4⟩]; rfl
      · rw [overI_part (i := i) (p := bothB b i) q1 (by omega) q2 q3 (by omega) q4 fun x y a1 a2 a3 a4 hn => by rw [hin x y a1 a2 a3 a4, decide_eq_false hn]; rfl]
        refine (overI_congr fun x y a1 a2 a3 a4 => ?_).symm
        rw [hin x y (by omega) (by omega) (by omega) (by omega), decide_eq_true ⟨a1, a2, a3, a4⟩, Bool.true_and]
    · rw [if_neg hok]
      have hz : ∀ x y, i.x1 ≤ x → x < i.x2 + mX → i.y1 ≤ y → y < i.y2 + mY → cellM mX mY b x y = false := fun x y a1 a2 a3 a4 => by
        cases hcm : cellM mX mY b x y with
        | false => rfl
        | true =>
          exfalso
          apply hok
          unfold cellM at hcm
          unfold okI bothB
          dsimp only
          simp only [Bool.and_eq_true, decide_eq_true_eq] at hcm ⊢
          refine ⟨hcm.1, ?_, ?_⟩ <;> omega
      rw [overI_zero fun x y a1 a2 a3 a4 => by rw [hz x y a1 a2 a3 a4]; rfl, overI_zero (f := fun x y => ind (cellM mX mY b x y && covM' mX mY l x y)) fun x y a1 a2 a3 a4 => by rw [hz x y a1 a2 a3 a4]; rfl]
      rfl

/-- The box that has all. -/
def allB : Bx := ⟨-9223372036854775808, 9223372036854775807, -9223372036854775808, 9223372036854775807, 0⟩

theorem covM_00 (l : List Bx) (x y : Int) : covM' 0 0 l x y = covB l x y := by
  unfold covM' covB
  refine any_congr fun b _ => ?_
  unfold cellM Bx.counts Bx.cell
  rw [Bool.eq_iff_iff]
  simp only [Bool.and_eq_true, decide_eq_true_eq]
  omega

theorem cells_area (l : List Bx) : cellsI 0 0 l allB = areaR l (-9223372036854775808) 9223372036854775807 := by
  rw [cellsI_eq ⟨by decide, by decide⟩ ⟨by decide, by decide⟩ l allB (by decide) (by decide)]
  unfold overI areaR allB
  dsimp only
  rw [Int.add_zero]
  exact sumR_congr fun x _ _ => sumR_congr fun y _ _ => by rw [covM_00]

theorem covM_01 (l : List Bx) (x y : Int) : covM' 0 1 l x y = (covB l x y || covB l x (y - 1)) := by
  have e : ∀ b : Bx, cellM 0 1 b x y = (b.cell x y || b.cell x (y - 1)) := fun b => by
    unfold cellM Bx.counts Bx.cell
    rw [Bool.eq_iff_iff]
    simp only [Bool.and_eq_true, Bool.or_eq_true, decide_eq_true_eq]
    omega
  unfold covM' covB
  rw [any_congr (q := fun b : Bx => b.cell x y || b.cell x (y - 1)) fun b _ => e b]
  clear e
  induction l with
  | nil => rfl
  | cons b l ih =>
    rw [List.any_cons, List.any_cons, List.any_cons, ih]
    cases b.cell x y <;> cases b.cell x (y - 1) <;> simp
end Go.Proofs.Ytokeagmphjgkkaa
