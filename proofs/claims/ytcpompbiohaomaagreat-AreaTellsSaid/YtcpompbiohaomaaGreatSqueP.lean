/- The document's Squeeze, plainly: the least one that is more than all that were taken, again and again. No program. -/
import Derived.Test.YtcpompbiohaomaaGreatRiseP
namespace Go.Proofs.YtcpompbiohaomaaGreat

/-- What has been taken stands at the front of all. -/
structure SqAt (l out : List Int) : Prop where
  rise : out.Pairwise (· < ·)
  mem : ∀ x ∈ out, x ∈ l
  all : ∀ x ∈ l, x ∈ out ∨ ∀ y ∈ out, y < x

def isNext (out : List Int) (x : Int) : Bool := out.all fun y => decide (y < x)
def leftQ (l out : List Int) : Nat := l.countP (isNext out)

theorem isNext_nil (x : Int) : isNext [] x = true := rfl
theorem isNext_iff {out : List Int} {x : Int} : isNext out x = true ↔ ∀ y ∈ out, y < x := by
  unfold isNext
  rw [List.all_eq_true]
  exact ⟨fun h y hy => by simpa using h y hy, fun h y hy => by simpa using h y hy⟩

theorem isNext_last {out : List Int} {q x : Int} (hr : out.Pairwise (· < ·)) {k : Nat} (hk : out.length = k + 1) (hq : out[k]? = some q) : isNext out x = decide (q < x) := by
  obtain ⟨hkl, hq⟩ := List.getElem?_eq_some_iff.1 hq
  rw [Bool.eq_iff_iff, isNext_iff, decide_eq_true_eq]
  constructor
  · intro h; rw [← hq]; exact h _ (List.getElem_mem hkl)
  · intro h y hy
    obtain ⟨j, hj, rfl⟩ := List.getElem_of_mem hy
    rcases Nat.lt_or_ge j k with h1 | h1
    · have := List.pairwise_iff_getElem.1 hr j k hj hkl h1
      omega
    · have : j = k := by omega
      subst this; omega

theorem SqAt.start (l : List Int) : SqAt l [] := ⟨List.Pairwise.nil, by simp, fun x _ => .inr (by simp)⟩

theorem SqAt.step {l out : List Int} (h : SqAt l out) {m : Int} (hm : m ∈ l) (hn : isNext out m = true) (hl : ∀ x ∈ l, isNext out x = true → m ≤ x) : SqAt l (out ++ [m]) ∧ leftQ l (out ++ [m]) < leftQ l out := by
  have hn' := isNext_iff.1 hn
  refine ⟨⟨?_, ?_, ?_⟩, ?_⟩
  · rw [List.pairwise_append]
    exact ⟨h.rise, by simp, fun a ha b hb => by simp at hb; rw [hb]; exact hn' a ha⟩
  · intro x hx
    rcases List.mem_append.1 hx with h1 | h1
    · exact h.mem x h1
    · simp at h1; rw [h1]; exact hm
  · intro x hx
    rcases h.all x hx with h1 | h1
    · exact .inl (by simp [h1])
    · have := hl x hx (isNext_iff.2 h1)
      by_cases e : x = m
      · exact .inl (by simp [e])
      · refine .inr fun y hy => ?_
        rcases List.mem_append.1 hy with h2 | h2
        · exact h1 y h2
        · simp at h2; omega
  · unfold leftQ
    have hle : ∀ (L : List Int), m ∈ L → L.countP (isNext (out ++ [m])) < L.countP (isNext out) := by
      have h1 : ∀ x, isNext (out ++ [m]) x = true → isNext out x = true := fun x hx => isNext_iff.2 fun y hy => isNext_iff.1 hx y (by simp [hy])
      have h2 : isNext (out ++ [m]) m = false := by
        cases e : isNext (out ++ [m]) m with
        | false => rfl
        | true => have := isNext_iff.1 e m (by simp); omega
      intro L
      induction L with
      | nil => intro h; simp at h
      | cons a L ih =>
        intro ha
        rw [List.countP_cons, List.countP_cons]
        have h3 : L.countP (isNext (out ++ [m])) ≤ L.countP (isNext out) := List.countP_mono_left fun x _ hx => h1 x hx
        by_cases e : a = m
        · subst e
          rw [h2, hn]; simp; omega
        · have := ih (by rcases List.mem_cons.1 ha with h4 | h4; exact absurd h4.symm e; exact h4)
          cases e1 : isNext (out ++ [m]) a with
          | true => rw [h1 a e1]; simp; omega
          | false => simp; split <;> omega
    exact hle l hm

theorem SqAt.done {l out : List Int} (h : SqAt l out) (hn : ∀ x ∈ l, isNext out x = false) : out = sqz l :=
  rise_ext h.rise (sqz_rise l) fun x => ⟨fun hx => mem_sqz (h.mem x hx), fun hx => by
    rcases h.all x (sqz_mem hx) with h1 | h1
    · exact h1
    · have := hn x (sqz_mem hx)
      rw [isNext_iff.2 h1] at this; cases this⟩

theorem leftQ_le (l : List Int) : leftQ l [] ≤ l.length := List.countP_le_length

/-- The search: the place of the least of those that come next, among the first j; -1: there is none. -/
def BestAt (l out : List Int) (j : Nat) (z : Int) : Prop :=
  (z = -1 ∧ ∀ i x, i < j → l[i]? = some x → isNext out x = false) ∨ ∃ (a : Nat) (m : Int), z = (a : Int) ∧ a < j ∧ l[a]? = some m ∧ isNext out m = true ∧ ∀ i x, i < j → l[i]? = some x → isNext out x = true → m ≤ x

theorem BestAt.start (l out : List Int) : BestAt l out 0 (-1) := .inl ⟨rfl, fun i x hi => by omega⟩

theorem BestAt.keep {l out : List Int} {j : Nat} {z x : Int} (h : BestAt l out j z) (hx : l[j]? = some x) (hn : isNext out x = false) : BestAt l out (j + 1) z := by
  rcases h with ⟨h1, h2⟩ | ⟨a, m, h1, h2, h3, h4, h5⟩
  · refine .inl ⟨h1, fun i y hi hy => ?_⟩
    rcases Nat.lt_or_ge i j with h | h
    · exact h2 i y h hy
    · have : i = j := by omega
      subst this; rw [hx] at hy; cases hy; exact hn
  · refine .inr ⟨a, m, h1, by omega, h3, h4, fun i y hi hy hi' => ?_⟩
    rcases Nat.lt_or_ge i j with h | h
    · exact h5 i y h hy hi'
    · have : i = j := by omega
      subst this; rw [hx] at hy; cases hy; rw [hn] at hi'; cases hi'

theorem BestAt.stay {l out : List Int} {j a : Nat} {x m : Int} (h : BestAt l out j (a : Int)) (hx : l[j]? = some x) (hm : l[a]? = some m) (hle : m ≤ x) : BestAt l out (j + 1) (a : Int) := by
  rcases h with ⟨h1, h2⟩ | ⟨a', m', h1, h2, h3, h4, h5⟩
  · omega
  · have : a' = a := by omega
    subst this
    rw [hm] at h3; cases h3
    refine .inr ⟨a', m, rfl, by omega, hm, h4, fun i y hi hy hi' => ?_⟩
    rcases Nat.lt_or_ge i j with h | h
    · exact h5 i y h hy hi'
    · have : i = j := by omega
      subst this; rw [hx] at hy; cases hy; exact hle

theorem BestAt.take {l out : List Int} {j : Nat} {z x : Int} (h : BestAt l out j z) (hx : l[j]? = some x) (hn : isNext out x = true) (hb : z = -1 ∨ ∃ (a : Nat) (m : Int), z = (a : Int) ∧ l[a]? = some m ∧ x < m) : BestAt l out (j + 1) (j : Int) := by
  refine .inr ⟨j, x, rfl, by omega, hx, hn, fun i y hi hy hi' => ?_⟩
  rcases Nat.lt_or_ge i j with h' | h'
  · rcases h with ⟨h1, h2⟩ | ⟨a', m', h1, h2, h3, h4, h5⟩
    · have := h2 i y h' hy
      rw [hi'] at this; cases this
    · rcases hb with hb | ⟨a, m, hb, hm, hlt⟩
      · omega
      · have : a' = a := by omega
        subst this
        rw [hm] at h3; cases h3
        have := h5 i y h' hy hi'
        omega
  · have : i = j := by omega
    subst this; rw [hx] at hy; cases hy; exact Int.le_refl _
end Go.Proofs.YtcpompbiohaomaaGreat
