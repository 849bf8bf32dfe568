/- Lists that rise: two with the same members are the same. -/
import Derived.Test.YtokeagmphjgkkaaSqz
namespace Go.Proofs.Ytokeagmphjgkkaa

theorem rise_ext : ∀ {a b : List Int}, a.Pairwise (· < ·) → b.Pairwise (· < ·) → (∀ x, x ∈ a ↔ x ∈ b) → a = b
  | [], [], _, _, _ => rfl
  | [], y :: b, _, _, h => by have := (h y).2 (by simp); simp at this
  | x :: a, [], _, _, h => by have := (h x).1 (by simp); simp at this
  | x :: a, y :: b, ha, hb, h => by
    rw [List.pairwise_cons] at ha hb
    have e : x = y := by
      rcases List.mem_cons.1 ((h x).1 (by simp)) with e | h1
      · exact e
      · rcases List.mem_cons.1 ((h y).2 (by simp)) with e | h2
        · exact e.symm
        · have := ha.1 y h2
          have := hb.1 x h1
          omega
    subst e
    rw [rise_ext ha.2 hb.2 fun z => ?_]
    constructor
    · intro hz
      have h1 := ha.1 z hz
      rcases List.mem_cons.1 ((h z).1 (List.mem_cons_of_mem _ hz)) with e | h2
      · omega
      · exact h2
    · intro hz
      have h1 := hb.1 z hz
      rcases List.mem_cons.1 ((h z).2 (List.mem_cons_of_mem _ hz)) with e | h2
      · omega
      · exact h2

theorem sqz_eq {l L : List Int} (hL : L.Pairwise (· < ·)) (h : ∀ x, x ∈ L ↔ x ∈ l) : sqz l = L :=
  rise_ext (sqz_rise l) hL fun x => ⟨fun hx => (h x).2 (sqz_mem hx), fun hx => mem_sqz ((h x).1 hx)⟩

theorem sqz_congr {l m : List Int} (h : ∀ x, x ∈ l ↔ x ∈ m) : sqz l = sqz m :=
  sqz_eq (sqz_rise m) fun x => ⟨fun hx => (h x).2 (sqz_mem hx), fun hx => mem_sqz ((h x).1 hx)⟩
end Go.Proofs.Ytokeagmphjgkkaa
