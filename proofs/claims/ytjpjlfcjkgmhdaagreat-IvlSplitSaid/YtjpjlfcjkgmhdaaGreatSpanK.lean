/- Spans: how they lie in memory; are they right; the names of those that a number stabs. -/
import Derived.Test.YtjpjlfcjkgmhdaaGreatModL
import Derived.Test.YtjpjlfcjkgmhdaaGreatKinds
import Derived.Test.YtjpjlfcjkgmhdaaGreatRowsB
import Derived.Test.YtjpjlfcjkgmhdaaGreatMapU
import Derived.Test.YtjpjlfcjkgmhdaaGreatSqz
import Derived.Test.YtjpjlfcjkgmhdaaGreatSrtK
import Derived.Laws.OwnMore
import Derived.Laws.StructEq
namespace Go.Proofs.YtjpjlfcjkgmhdaaGreat
open Go.RowKit

def spV (s : Sp) : Value := .agg #[.int .i64 s.lo, .int .i64 s.hi, .int .u32 (s.id : Int)]
def KSp : Kind Sp := { T := 0, sT := 22, eT := 39, sz := 3, enc := fun p => [.int .i64 p.lo, .int .i64 p.hi, .int .u32 (p.id : Int)], len := fun _ => rfl, one := fun b u hu => by simp at hu; rcases hu with rfl | rfl | rfl <;> rfl }

def MKI : MK Nat := { T := 36, k := 37, e := 3, enc := fun n => .int .i64 (n : Int), zero := 0, hT := Tryz.underlying36, hk := Tryz.underlying37, hz := fun w => (by kernel_rfl), inj := fun x y h => by simp at h; omega }

/-- Right spans, of unlike names. -/
def rightS (l : List Sp) : Bool := l.all (fun s => decide (s.lo ≤ s.hi)) && decide ((l.map Sp.id).Nodup)

theorem rightS_iff {l : List Sp} : rightS l = true ↔ (∀ s ∈ l, s.lo ≤ s.hi) ∧ (l.map Sp.id).Nodup := by
  unfold rightS
  simp

/-- How many unlike names there are among the first, against how many there are. -/
structure CntR (l : List Sp) (k : Nat) (f : Nat → Option Nat) (n : Nat) : Prop where
  has : ∀ x : Nat, (f x).isSome = true ↔ x ∈ (l.take k).map Sp.id
  le : n ≤ k
  eq : n = k ↔ ((l.take k).map Sp.id).Nodup

theorem CntR.start (l : List Sp) : CntR l 0 (fun _ => none) 0 := ⟨by simp, Nat.le_refl _, by simp⟩

theorem CntR.step {l : List Sp} {k : Nat} {f : Nat → Option Nat} {n : Nat} (h : CntR l k f n) {s : Sp} (hs : l[k]? = some s) (v : Nat) :
    CntR l (k + 1) (fun y => if y = s.id then some v else f y) (if (f s.id).isSome then n else n + 1) := by
  obtain ⟨h1, h2⟩ := List.getElem?_eq_some_iff.1 hs
  have e : (l.take (k + 1)).map Sp.id = (l.take k).map Sp.id ++ [s.id] := by rw [List.take_succ_eq_append_getElem h1, h2, List.map_append]; rfl
  have hle := h.le
  have heq := h.eq
  have hin := h.has s.id
  refine ⟨fun x => ?_, ?_, ?_⟩
  · rw [e, List.mem_append]
    by_cases hx : x = s.id
    · simp [hx]
    · have := h.has x
      simp [hx] at this ⊢
      exact this
  · split <;> omega
  · rw [e, List.nodup_append]
    by_cases hf : (f s.id).isSome = true
    · rw [if_pos hf]
      have := hin.1 hf
      constructor
      · intro hc; omega
      · rintro ⟨-, -, hc⟩
        exact absurd rfl (hc _ this _ (by simp))
    · rw [if_neg hf]
      have hni : s.id ∉ (l.take k).map Sp.id := fun hc => hf (hin.2 hc)
      constructor
      · intro hc
        refine ⟨heq.1 (by omega), by simp, ?_⟩
        intro a ha b hb hab
        simp at hb
        subst hb
        exact hni (hab ▸ ha)
      · rintro ⟨hc, -, -⟩
        have := heq.2 hc
        omega

set_option maxRecDepth 100000 in
theorem rightSpanC (s : Sp) (w : World) : Calls Tryz.prog 26 #[spV s] w fun e w' => e = .returned (.bool (decide (s.lo ≤ s.hi))) ∧ Upd [] w w' := by
  unfold spV
  go_enter Tryz.func26, Tryz.ntmps26
  go_wp2_with fail
  go_ret
  exact ⟨rfl, (Upd.refl _ _).alloc _⟩


/-- The ends of spans, one behind the other; those that a tree is over. -/
def endsL (l : List Sp) : List Int := l.flatMap fun s => [s.lo, s.hi]
def endsS (l : List Sp) : List Int := sqz (endsL l)

theorem endsL_len (l : List Sp) : (endsL l).length = 2 * l.length := by
  induction l with
  | nil => rfl
  | cons s l ih => have e : endsL (s :: l) = [s.lo, s.hi] ++ endsL l := by simp [endsL]
                   rw [e, List.length_append, ih, List.length_cons]; simp; omega

theorem endsL_app (a b : List Sp) : endsL (a ++ b) = endsL a ++ endsL b := by simp [endsL]
theorem endsS_len (l : List Sp) : (endsS l).length ≤ 2 * l.length := by
  have := sqz_len (endsL l)
  rw [endsL_len] at this
  exact this
theorem endsS_rise (l : List Sp) : (endsS l).Pairwise (· < ·) := sqz_rise _

instance decSp : DecidableEq Sp := fun a b => if h : a.lo = b.lo ∧ a.hi = b.hi ∧ a.id = b.id then isTrue (by cases a; cases b; simp_all) else isFalse (fun e => h (by rw [e]; exact ⟨rfl, rfl, rfl⟩))

theorem sp_eq_iff {a b : Sp} : a = b ↔ a.lo = b.lo ∧ a.hi = b.hi ∧ a.id = b.id := by
  constructor
  · rintro rfl; exact ⟨rfl, rfl, rfl⟩
  · cases a; cases b; simp

/-- Spans without one. -/
def without (S : List Sp) (x : Sp) : List Sp := S.filter fun s => decide (s ≠ x)

theorem without_not {S : List Sp} {x : Sp} (h : x ∉ S) : without S x = S := by
  unfold without
  rw [List.filter_eq_self]
  intro s hs
  simp only [decide_eq_true_eq]
  rintro rfl
  exact h hs

theorem nodup_of_names {S : List Sp} (h : (S.map Sp.id).Nodup) : S.Nodup := by
  induction S with
  | nil => exact List.nodup_nil
  | cons s S ih =>
    rw [List.map_cons, List.nodup_cons] at h
    exact List.nodup_cons.2 ⟨fun hc => h.1 (List.mem_map_of_mem hc), ih h.2⟩

theorem eraseIdx_filter {l : List Sp} (h : l.Nodup) : ∀ {i : Nat} {x : Sp}, l[i]? = some x → l.eraseIdx i = l.filter fun s => decide (s ≠ x) := by
  induction l with
  | nil => intro i x hx; simp at hx
  | cons a l ih =>
    intro i x hx
    rw [List.nodup_cons] at h
    cases i with
    | zero =>
      simp at hx; subst hx
      rw [List.eraseIdx_zero, List.tail_cons, List.filter_cons, if_neg (by simp)]
      symm
      rw [List.filter_eq_self]
      intro s hs
      simp only [decide_eq_true_eq]
      rintro rfl
      exact h.1 hs
    | succ i =>
      have hx' : l[i]? = some x := by simpa using hx
      have hne : a ≠ x := fun e => h.1 (by rw [e]; exact List.mem_of_getElem? hx')
      rw [List.eraseIdx_cons_succ, ih h.2 hx', List.filter_cons, if_pos (by simpa using hne)]

theorem without_len {S : List Sp} (h : S.Nodup) {x : Sp} (hx : x ∈ S) : (without S x).length + 1 = S.length := by
  obtain ⟨i, hi⟩ := List.mem_iff_getElem?.1 hx
  have hl := (List.getElem?_eq_some_iff.1 hi).1
  unfold without
  rw [← eraseIdx_filter h hi, List.length_eraseIdx_of_lt hl]
  omega

/-- What '==' says of spans. -/
theorem eqSp (a b : Sp) (w : World) : (binOp .eql 39 (spV a) (spV b)).run Tryz.prog w = .ok (.bool (decide (a = b))) w := by
  unfold spV
  rw [run_eql_struct, run_equalIn_agg _ _ _ _ _ (by kernel_rfl) (by kernel_rfl)]
  go_simp
  obtain ⟨a1, a2, a3⟩ := a
  obtain ⟨b1, b2, b3⟩ := b
  by_cases h1 : a1 = b1 <;> by_cases h2 : a2 = b2 <;> by_cases h3 : a3 = b3 <;> simp_all <;> omega

theorem sortN_congr {l m : List Nat} (h : l.Perm m) : sortN l = sortN m := sortN_eq ((sortN_perm l).trans h) (sortN_le l)

/-- The names of the spans that a number stabs, rising. -/
def stabL (S : List Sp) (x : Int) : List Nat := sortN ((S.filter fun s => stabBM s.lo s.hi x).map Sp.id)

theorem stabL_len (S : List Sp) (x : Int) : (stabL S x).length ≤ S.length := by
  unfold stabL
  rw [sortN_len, List.length_map]
  exact List.length_filter_le _ _

theorem KU.atS {w : World} {A : Option Addr} {n C : Nat} {l : List Nat} (h : See KU w (.slice A n C) l) {k : Nat} {x : Nat} (hx : l[k]? = some x) :
    ∃ b o, A = some ⟨b, o, none⟩ ∧ n ≤ C ∧ C ≤ maxLen ∧ w.cell? ⟨b, o + k, none⟩ = some (.int .u32 (x : Int)) := by
  obtain ⟨b, o, h1, h2, h3, h4⟩ := h.at hx
  have := h4 0 _ rfl
  exact ⟨b, o, h1, h2, h3, by simpa [KU] using this⟩

/-- The error of Build, and what its tree has. -/
def errS (l : List Sp) : Int := if rightS l = true then 0 else 2
def keptS (l : List Sp) : List Sp := if rightS l = true then l else []

theorem keptS_le (l : List Sp) : (keptS l).length ≤ l.length := by unfold keptS; split <;> simp

theorem rightS_perm {l m : List Sp} (h : l.Perm m) : rightS l = rightS m := by
  rw [Bool.eq_iff_iff, rightS_iff, rightS_iff]
  constructor
  · rintro ⟨h1, h2⟩
    exact ⟨fun s hs => h1 s (h.mem_iff.2 hs), (h.map Sp.id).nodup_iff.1 h2⟩
  · rintro ⟨h1, h2⟩
    exact ⟨fun s hs => h1 s (h.mem_iff.1 hs), (h.map Sp.id).nodup_iff.2 h2⟩

theorem errS_perm {l m : List Sp} (h : l.Perm m) : errS l = errS m := by unfold errS; rw [rightS_perm h]
theorem keptS_perm {l m : List Sp} (h : l.Perm m) : (keptS l).Perm (keptS m) := by
  unfold keptS
  rw [rightS_perm h]
  split
  · exact h
  · exact List.Perm.refl _
theorem stabL_perm {l m : List Sp} (h : l.Perm m) (x : Int) : stabL l x = stabL m x := sortN_congr ((h.filter _).map Sp.id)

theorem stabL_nil (x : Int) : stabL [] x = [] := by simp [stabL, sortN]

theorem stabL_lit {S : List Sp} {x : Int} {L : List Nat} (h : ((S.filter fun s => stabBM s.lo s.hi x).map Sp.id) = L) (hs : L.Pairwise (· ≤ ·)) : decide (stabL S x = L) = true := by
  rw [decide_eq_true_iff]
  unfold stabL
  rw [h]
  exact (sortN_eq (List.Perm.refl _) hs).symm

def spans3 : List Sp := [⟨0, 4, 1⟩, ⟨4, 9, 2⟩, ⟨6, 6, 3⟩]

theorem see_spans3 (w : World) : See KSp (w.alloc (.cells #[.int .i64 0, .int .i64 4, .int .u32 1, .int .i64 4, .int .i64 9, .int .u32 2, .int .i64 6, .int .i64 6, .int .u32 3] 39)) (.slice (some ⟨w.heap.size, 0, none⟩) 3 3) spans3 :=
  sees_lit w #[.int .i64 0, .int .i64 4, .int .u32 1, .int .i64 4, .int .i64 9, .int .u32 2, .int .i64 6, .int .i64 6, .int .u32 3] 39 3 3 rfl (by decide)

theorem spV_lit (lo hi : Int) (id : Nat) (i : Int) (h : (id : Int) = i) : spV ⟨lo, hi, id⟩ = .agg #[.int .i64 lo, .int .i64 hi, .int .u32 i] := by subst h; rfl

theorem infoU32S : (Tryz.prog.info? 37).map (fun i => (i.zero, i.size, i.bytes)) = some (some (.int .u32 0), 1, 4) := by kernel_rfl

/-- What Stab leaves. -/
def StabPost (w : World) (L : List Nat) (t : Nat) (e : Ending) (w' : World) : Prop := ∃ A C, e = .returned (.tuple #[.slice A L.length C, .int .i64 (t : Int)]) ∧ KU.row w' w.heap.size (.slice A L.length C) L ∧ Upd [] w w'

end Go.Proofs.YtjpjlfcjkgmhdaaGreat
