/- Lists of things in the order of their names; plainly. No program. Chapter 26 plainly: what a model has, what each operation does and tells. No program. What chapter 26's laws lean on, plainly: which items lie in 64 bits, which points lie over others, which is the lowest. No program. -/
import Derived.Test.YtjpjlfcjkgmhdaaGreatBase
import Derived.Test.YtjpjlfcjkgmhdaaGreatBoxP
namespace Go.Proofs.YtjpjlfcjkgmhdaaGreat

section
variable {α : Type} (key : α → Nat)

/-- The names rise. -/
def Asc (l : List α) : Prop := (l.map key).Pairwise (· < ·)
/-- The thing of a name. -/
def findK (l : List α) (k : Nat) : Option α := l.find? fun x => key x == k
/-- A thing more, at its place. -/
def insA (x : α) (l : List α) : List α := (l.filter fun y => decide (key y < key x)) ++ x :: l.filter fun y => decide (key x < key y)
/-- A name less. -/
def delA (k : Nat) (l : List α) : List α := l.filter fun y => key y != k

variable {key} {l : List α}

theorem Asc.nil : Asc key ([] : List α) := List.Pairwise.nil

theorem findK_some {k : Nat} {x : α} (h : findK key l k = some x) : x ∈ l ∧ key x = k := by
  unfold findK at h
  exact ⟨List.mem_of_find?_eq_some h, by have := List.find?_some h; simpa using this⟩

theorem Asc.inj (h : Asc key l) {x y : α} (hx : x ∈ l) (hy : y ∈ l) (e : key x = key y) : x = y := by
  unfold Asc at h
  obtain ⟨i, hi, rfl⟩ := List.getElem_of_mem hx
  obtain ⟨j, hj, rfl⟩ := List.getElem_of_mem hy
  rw [List.pairwise_map, List.pairwise_iff_getElem] at h
  rcases Nat.lt_trichotomy i j with h1 | h1 | h1
  · have := h i j hi hj h1; omega
  · subst h1; rfl
  · have := h j i hj hi h1; omega

theorem Asc.find (h : Asc key l) {x : α} (hx : x ∈ l) : findK key l (key x) = some x := by
  cases e : findK key l (key x) with
  | none =>
    unfold findK at e
    rw [List.find?_eq_none] at e
    exact absurd (by simp) (e x hx)
  | some y =>
    obtain ⟨h1, h2⟩ := findK_some e
    rw [h.inj h1 hx h2]

theorem findK_none {k : Nat} : findK key l k = none ↔ ∀ x ∈ l, key x ≠ k := by
  unfold findK
  rw [List.find?_eq_none]
  simp

theorem Asc.filter (h : Asc key l) (p : α → Bool) : Asc key (l.filter p) := by
  unfold Asc at h ⊢
  rw [List.pairwise_map] at h ⊢
  exact h.filter p

theorem mem_insA {x y : α} (hn : ∀ z ∈ l, key z ≠ key x) : y ∈ insA key x l ↔ y = x ∨ y ∈ l := by
  unfold insA
  simp only [List.mem_append, List.mem_filter, List.mem_cons, decide_eq_true_eq]
  constructor
  · rintro (h | h | h)
    · exact .inr h.1
    · exact .inl h
    · exact .inr h.1
  · rintro (h | h)
    · exact .inr (.inl h)
    · have := hn y h
      rcases Nat.lt_or_gt_of_ne this with h1 | h1
      · exact .inl ⟨h, h1⟩
      · exact .inr (.inr ⟨h, h1⟩)

theorem Asc.ins (h : Asc key l) (x : α) : Asc key (insA key x l) := by
  unfold Asc insA at *
  rw [List.pairwise_map] at *
  rw [List.pairwise_append]
  refine ⟨h.filter _, ?_, ?_⟩
  · rw [List.pairwise_cons]
    refine ⟨fun y hy => ?_, h.filter _⟩
    have := (List.mem_filter.1 hy).2
    simpa using this
  · intro a ha b hb
    have h1 := (List.mem_filter.1 ha).2
    simp at h1
    rcases List.mem_cons.1 hb with rfl | hb
    · exact h1
    · have h2 := (List.mem_filter.1 hb).2
      simp at h2
      omega

theorem Asc.del (h : Asc key l) (k : Nat) : Asc key (delA key k l) := h.filter _

theorem findK_ins (h : Asc key l) {x : α} (hn : findK key l (key x) = none) (k : Nat) : findK key (insA key x l) k = if k = key x then some x else findK key l k := by
  have hn' := findK_none.1 hn
  by_cases e : k = key x
  · rw [if_pos e, e]
    exact (h.ins x).find ((mem_insA hn').2 (.inl rfl))
  · rw [if_neg e]
    cases e2 : findK key l k with
    | none =>
      rw [findK_none] at e2 ⊢
      intro y hy
      rcases (mem_insA hn').1 hy with rfl | hy
      · exact Ne.symm e
      · exact e2 y hy
    | some y =>
      obtain ⟨h1, rfl⟩ := findK_some e2
      exact (h.ins x).find ((mem_insA hn').2 (.inr h1))

theorem findK_del (h : Asc key l) (k j : Nat) : findK key (delA key k l) j = if j = k then none else findK key l j := by
  by_cases e : j = k
  · subst e
    rw [if_pos rfl, findK_none]
    intro y hy
    have := (List.mem_filter.1 hy).2
    simpa using this
  · rw [if_neg e]
    cases e2 : findK key l j with
    | none =>
      rw [findK_none] at e2 ⊢
      exact fun y hy => e2 y (List.mem_filter.1 hy).1
    | some y =>
      obtain ⟨h1, rfl⟩ := findK_some e2
      exact (h.del k).find (List.mem_filter.2 ⟨h1, by simpa using e⟩)

theorem filter_split (h : Asc key l) (k : Nat) : (l.filter fun y => decide (key y < k)) ++ (l.filter fun y => decide (k ≤ key y)) = l := by
  induction l with
  | nil => rfl
  | cons a l ih =>
    have h' : Asc key l := by unfold Asc at *; exact (List.pairwise_cons.1 h).2
    have hall : ∀ y ∈ l, key a < key y := by
      unfold Asc at h
      rw [List.map_cons, List.pairwise_cons] at h
      exact fun y hy => h.1 _ (List.mem_map.2 ⟨y, hy, rfl⟩)
    by_cases e : key a < k
    · rw [List.filter_cons, List.filter_cons, if_pos (by simpa using e), if_neg (by simpa using e), List.cons_append, ih h']
    · have e1 : (l.filter fun y => decide (key y < k)) = [] := by
        rw [List.filter_eq_nil_iff]
        intro y hy
        have := hall y hy
        simp; omega
      have e2 : (l.filter fun y => decide (k ≤ key y)) = l := by
        rw [List.filter_eq_self]
        intro y hy
        have := hall y hy
        simp; omega
      rw [List.filter_cons, List.filter_cons, if_neg (by simpa using e), if_pos (by simp; omega), e1, e2]; rfl

theorem ins_len (h : Asc key l) {x : α} (hn : findK key l (key x) = none) : (insA key x l).length = l.length + 1 := by
  have hn' := findK_none.1 hn
  unfold insA
  have e : (l.filter fun y => decide (key x < key y)) = l.filter fun y => decide (key x ≤ key y) := by
    refine List.filter_congr fun y hy => ?_
    have := hn' y hy
    rw [decide_eq_decide]; omega
  have := congrArg List.length (filter_split h (key x))
  rw [List.length_append] at this
  rw [List.length_append, List.length_cons, e]
  omega

theorem del_len (h : Asc key l) {x : α} {k : Nat} (hs : findK key l k = some x) : (delA key k l).length + 1 = l.length := by
  obtain ⟨h1, rfl⟩ := findK_some hs
  unfold delA
  clear hs
  induction l with
  | nil => cases h1
  | cons a l ih =>
    have h' : Asc key l := by unfold Asc at *; exact (List.pairwise_cons.1 h).2
    have hall : ∀ y ∈ l, key a < key y := by
      unfold Asc at h
      rw [List.map_cons, List.pairwise_cons] at h
      exact fun y hy => h.1 _ (List.mem_map.2 ⟨y, hy, rfl⟩)
    rcases List.mem_cons.1 h1 with rfl | h1
    · rw [List.filter_cons, if_neg (by simp), List.filter_eq_self.2 fun y hy => by have := hall y hy; simp; omega]; rfl
    · have := hall x h1
      rw [List.filter_cons, if_pos (by simp; omega), List.length_cons, List.length_cons, ih h' h1]

/-- Names that rise, and have the same members, are one list. -/
theorem rise_ext {a b : List Nat} (ha : a.Pairwise (· < ·)) (hb : b.Pairwise (· < ·)) (h : ∀ x, x ∈ a ↔ x ∈ b) : a = b := by
  refine List.Perm.eq_of_pairwise (le := (· < ·)) (fun x y _ _ h1 h2 => by omega) ha hb ?_
  exact (List.perm_ext_iff_of_nodup (ha.imp fun h => Nat.ne_of_lt h) (hb.imp fun h => Nat.ne_of_lt h)).2 h
end
end Go.Proofs.YtjpjlfcjkgmhdaaGreat

namespace Go.Proofs.YtjpjlfcjkgmhdaaGreat

structure Pt where
  x : Int
  y : Int
  id : Nat
structure Sp where
  lo : Int
  hi : Int
  id : Nat
/-- An operation. -/
structure OpP where
  code : Nat
  a : Int
  b : Int
  c : Int
  d : Int
  id : Nat
/-- A reply. -/
structure RepP where
  err : Nat
  ids : List Nat
  cnt : Nat
  yes : Bool
  wide : Nat
/-- A model: how many there may be, and its items by rising names. -/
structure Md where
  room : Nat
  ps : List Pt
  ss : List Sp
  bs : List Bx

/-- A number is from lo to hi. -/
def stabBM (lo hi x : Int) : Bool := decide (lo ≤ x) && decide (x ≤ hi)
/-- A box holds a point. -/
def inBM (b : Bx) (x y : Int) : Bool := stabBM b.x1 b.x2 x && stabBM b.y1 b.y2 y
/-- A point is over another one. -/
def overB (p q : Pt) : Bool := decide (q.x ≤ p.x) && (decide (q.y ≤ p.y) && (!decide (p.x = q.x) || !decide (p.y = q.y)))
/-- A point comes ahead of another one, by Y. -/
def lowB (p q : Pt) : Bool := decide (p.y < q.y) || (decide (p.y = q.y) && decide (p.id < q.id))
/-- A span has a number of these. -/
def meetB (s : Sp) (lo hi : Int) : Bool := decide (max s.lo lo ≤ min s.hi hi)
/-- A point is in a corner. -/
def cornB (p : Pt) (a b c : Int) : Bool :=
  if c = 0 then decide (p.x ≤ a) && decide (p.y ≤ b) else
  if c = 1 then decide (a ≤ p.x) && decide (p.y ≤ b) else
  if c = 2 then decide (p.x ≤ a) && decide (b ≤ p.y) else
  if c = 3 then decide (a ≤ p.x) && decide (b ≤ p.y) else false

def err (e : Nat) : RepP := ⟨e, [], 0, false, 0⟩
def cntR (n : Nat) : RepP := ⟨0, [], n, false, 0⟩
def idsR (l : List Nat) : RepP := ⟨0, l, 0, false, 0⟩
def yesR (b : Bool) : RepP := ⟨0, [], 0, b, 0⟩
def wideR (n : Nat) : RepP := ⟨0, [], 0, false, n⟩

section
variable {α : Type} (key : α → Nat)
/-- Something comes. -/
def comeM (room : Nat) (l : List α) (x : α) : List α × RepP :=
  if (findK key l (key x)).isSome then (l, err 262) else if room ≤ l.length then (l, err 5) else (insA key x l, cntR (l.length + 1))
/-- Something goes. -/
def loseM (l : List α) (k : Nat) : List α × RepP :=
  if (findK key l k).isSome then (delA key k l, cntR (l.length - 1)) else (l, err 263)
/-- The names of those that are so. -/
def namesM (l : List α) (p : α → Bool) : List Nat := (l.filter p).map key
end

def OpP.pt (o : OpP) : Pt := ⟨o.a, o.b, o.id⟩
def OpP.sp (o : OpP) : Sp := ⟨o.a, o.b, o.id⟩
def OpP.bx (o : OpP) : Bx := ⟨o.a, o.b, o.c, o.d, o.id⟩

/-- The changes. -/
def changeM (m : Md) (o : OpP) : Md × RepP :=
  if o.code = 1 then ((({ m with ps := (comeM Pt.id m.room m.ps o.pt).1 }) : Md), (comeM Pt.id m.room m.ps o.pt).2) else
  if o.code = 2 then (if o.a ≤ o.b then ((({ m with ss := (comeM Sp.id m.room m.ss o.sp).1 }) : Md), (comeM Sp.id m.room m.ss o.sp).2) else (m, err 261)) else
  if o.code = 3 then (if o.a ≤ o.b ∧ o.c ≤ o.d then ((({ m with bs := (comeM Bx.id m.room m.bs o.bx).1 }) : Md), (comeM Bx.id m.room m.bs o.bx).2) else (m, err 261)) else
  if o.code = 4 then ((({ m with ps := (loseM Pt.id m.ps o.id).1 }) : Md), (loseM Pt.id m.ps o.id).2) else
  if o.code = 5 then ((({ m with ss := (loseM Sp.id m.ss o.id).1 }) : Md), (loseM Sp.id m.ss o.id).2) else
  ((({ m with bs := (loseM Bx.id m.bs o.id).1 }) : Md), (loseM Bx.id m.bs o.id).2)

/-- Which points an operation asks for. -/
def askP (l : List Pt) (o : OpP) (p : Pt) : Bool :=
  if o.code = 7 ∨ o.code = 8 then inBM ⟨o.a, o.b, o.c, o.d, 0⟩ p.x p.y else
  if o.code = 9 ∨ o.code = 10 then inBM ⟨o.a, o.b, -9223372036854775808, o.c, 0⟩ p.x p.y else
  if o.code = 11 ∨ o.code = 12 then cornB p o.a o.b o.c else
  if o.code = 13 then (inBM ⟨o.a, o.b, -9223372036854775808, 9223372036854775807, 0⟩ p.x p.y && (namesM Pt.id l fun q => inBM ⟨o.a, o.b, -9223372036854775808, 9223372036854775807, 0⟩ q.x q.y && lowB q p).isEmpty) else
  (namesM Pt.id l fun q => overB q p).isEmpty

/-- What is asked of points. -/
def pointM (m : Md) (o : OpP) : RepP :=
  let ids := namesM Pt.id m.ps (askP m.ps o)
  if o.code = 8 ∨ o.code = 12 then cntR ids.length else if o.code = 10 then yesR (decide (0 < ids.length)) else idsR ids

/-- What is asked of spans and boxes; A, R: how many cells boxes cover, how long their rim is. -/
def otherM (A R : List Bx → Nat) (m : Md) (o : OpP) : RepP :=
  if o.code = 15 then idsR (namesM Sp.id m.ss fun s => stabBM s.lo s.hi o.a) else
  if o.code = 16 then cntR (namesM Sp.id m.ss fun s => stabBM s.lo s.hi o.a).length else
  if o.code = 17 then idsR (namesM Sp.id m.ss fun s => meetB s o.a o.b) else
  if o.code = 18 then wideR (A m.bs) else
  if o.code = 19 then wideR (R m.bs) else
  idsR (namesM Bx.id m.bs fun b => inBM b o.a o.b)

/-- An operation. -/
def doM (A R : List Bx → Nat) (m : Md) (o : OpP) : Md × RepP :=
  if o.code < 1 ∨ 20 < o.code then (m, err 260) else
  if o.code ≤ 6 then changeM m o else
  if o.code ≤ 14 then (m, pointM m o) else (m, otherM A R m o)

/-- A model as it may be. -/
structure Md.ok (m : Md) : Prop where
  ps : Asc Pt.id m.ps
  ss : Asc Sp.id m.ss
  bs : Asc Bx.id m.bs
  pi : ∀ x ∈ m.ps, x.id < 4294967296
  si : ∀ x ∈ m.ss, x.id < 4294967296
  bi : ∀ x ∈ m.bs, x.id < 4294967296

theorem map_find {α : Type} {key : α → Nat} {l : List α} (h : Asc key l) (z : α) : (l.map key).map (fun k => (findK key l k).getD z) = l := by
  rw [List.map_map]
  refine (List.map_congr_left (g := id) fun x hx => ?_).trans (List.map_id l)
  simp [h.find hx]

theorem names_rise {α : Type} {key : α → Nat} {l : List α} (h : Asc key l) (p : α → Bool) : (namesM key l p).Pairwise (· < ·) := h.filter p
theorem mem_names {α : Type} {key : α → Nat} {l : List α} (h : Asc key l) (p : α → Bool) (k : Nat) : k ∈ namesM key l p ↔ ∃ x, findK key l k = some x ∧ p x = true := by
  unfold namesM
  simp only [List.mem_map, List.mem_filter]
  constructor
  · rintro ⟨x, ⟨h1, h2⟩, rfl⟩
    exact ⟨x, h.find h1, h2⟩
  · rintro ⟨x, h1, h2⟩
    obtain ⟨h3, rfl⟩ := findK_some h1
    exact ⟨x, ⟨h3, h2⟩, rfl⟩

section
variable {α : Type} {key : α → Nat} {l : List α}
theorem comeM_asc (h : Asc key l) (room : Nat) (x : α) : Asc key (comeM key room l x).1 := by
  unfold comeM; split
  · exact h
  · split
    · exact h
    · exact h.ins x
theorem loseM_asc (h : Asc key l) (k : Nat) : Asc key (loseM key l k).1 := by
  unfold loseM; split
  · exact h.del k
  · exact h
theorem comeM_mem (room : Nat) (x : α) {y : α} (hy : y ∈ (comeM key room l x).1) : y = x ∨ y ∈ l := by
  unfold comeM at hy; split at hy
  · exact .inr hy
  · rename_i hn
    split at hy
    · exact .inr hy
    · exact (mem_insA (findK_none.1 (by simpa using hn))).1 hy
theorem loseM_mem (k : Nat) {y : α} (hy : y ∈ (loseM key l k).1) : y ∈ l := by
  unfold loseM at hy; split at hy
  · exact (List.mem_filter.1 hy).1
  · exact hy
theorem comeM_len (h : Asc key l) (room : Nat) (x : α) : (comeM key room l x).1.length ≤ l.length + 1 := by
  unfold comeM; split
  · simp
  · rename_i hn
    split
    · simp
    · rw [ins_len h (by simpa using hn)]; exact Nat.le_refl _
theorem loseM_len (k : Nat) : (loseM key l k).1.length ≤ l.length := by
  unfold loseM; split
  · exact List.length_filter_le _ _
  · exact Nat.le_refl _
end

theorem doM_ok {A R : List Bx → Nat} {m : Md} (h : m.ok) {o : OpP} (ho : o.id < 4294967296) : (doM A R m o).1.ok := by
  have k1 : ∀ x ∈ (comeM Pt.id m.room m.ps o.pt).1, x.id < 4294967296 := fun x hx => by
    rcases comeM_mem _ _ hx with e | hx
    · rw [e]; exact ho
    · exact h.pi x hx
  have k2 : ∀ x ∈ (comeM Sp.id m.room m.ss o.sp).1, x.id < 4294967296 := fun x hx => by
    rcases comeM_mem _ _ hx with e | hx
    · rw [e]; exact ho
    · exact h.si x hx
  have k3 : ∀ x ∈ (comeM Bx.id m.room m.bs o.bx).1, x.id < 4294967296 := fun x hx => by
    rcases comeM_mem _ _ hx with e | hx
    · rw [e]; exact ho
    · exact h.bi x hx
  obtain ⟨r, hr⟩ : ∃ r, doM A R m o = r := ⟨_, rfl⟩
  rw [hr]
  unfold doM changeM at hr
  split at hr
  · subst hr; exact h
  split at hr
  · split at hr
    · subst hr; exact ⟨comeM_asc h.ps _ _, h.ss, h.bs, k1, h.si, h.bi⟩
    split at hr
    · split at hr
      · subst hr; exact ⟨h.ps, comeM_asc h.ss _ _, h.bs, h.pi, k2, h.bi⟩
      · subst hr; exact h
    split at hr
    · split at hr
      · subst hr; exact ⟨h.ps, h.ss, comeM_asc h.bs _ _, h.pi, h.si, k3⟩
      · subst hr; exact h
    split at hr
    · subst hr; exact ⟨loseM_asc h.ps _, h.ss, h.bs, fun x hx => h.pi x (loseM_mem _ hx), h.si, h.bi⟩
    split at hr
    · subst hr; exact ⟨h.ps, loseM_asc h.ss _, h.bs, h.pi, fun x hx => h.si x (loseM_mem _ hx), h.bi⟩
    · subst hr; exact ⟨h.ps, h.ss, loseM_asc h.bs _, h.pi, h.si, fun x hx => h.bi x (loseM_mem _ hx)⟩
  split at hr <;> (subst hr; exact h)

theorem doM_len {A R : List Bx → Nat} {m : Md} (h : m.ok) {o : OpP} {N : Nat} (h1 : m.ps.length ≤ N) (h2 : m.ss.length ≤ N) (h3 : m.bs.length ≤ N) :
    (doM A R m o).1.ps.length ≤ N + 1 ∧ (doM A R m o).1.ss.length ≤ N + 1 ∧ (doM A R m o).1.bs.length ≤ N + 1 := by
  have k1 : (comeM Pt.id m.room m.ps o.pt).1.length ≤ m.ps.length + 1 := comeM_len h.ps _ _
  have k2 : (comeM Sp.id m.room m.ss o.sp).1.length ≤ m.ss.length + 1 := comeM_len h.ss _ _
  have k3 : (comeM Bx.id m.room m.bs o.bx).1.length ≤ m.bs.length + 1 := comeM_len h.bs _ _
  have k4 : (loseM Pt.id m.ps o.id).1.length ≤ m.ps.length := loseM_len _
  have k5 : (loseM Sp.id m.ss o.id).1.length ≤ m.ss.length := loseM_len _
  have k6 : (loseM Bx.id m.bs o.id).1.length ≤ m.bs.length := loseM_len _
  obtain ⟨r, hr⟩ : ∃ r, doM A R m o = r := ⟨_, rfl⟩
  rw [hr]
  unfold doM changeM at hr
  split at hr
  · subst hr; exact ⟨by dsimp only; omega, by dsimp only; omega, by dsimp only; omega⟩
  split at hr
  · split at hr
    · subst hr; exact ⟨by dsimp only; omega, by dsimp only; omega, by dsimp only; omega⟩
    split at hr
    · split at hr <;> (subst hr; exact ⟨by dsimp only; omega, by dsimp only; omega, by dsimp only; omega⟩)
    split at hr
    · split at hr <;> (subst hr; exact ⟨by dsimp only; omega, by dsimp only; omega, by dsimp only; omega⟩)
    split at hr
    · subst hr; exact ⟨by dsimp only; omega, by dsimp only; omega, by dsimp only; omega⟩
    split at hr
    · subst hr; exact ⟨by dsimp only; omega, by dsimp only; omega, by dsimp only; omega⟩
    · subst hr; exact ⟨by dsimp only; omega, by dsimp only; omega, by dsimp only; omega⟩
  split at hr <;> (subst hr; exact ⟨by dsimp only; omega, by dsimp only; omega, by dsimp only; omega⟩)

theorem doM_room {A R : List Bx → Nat} {m : Md} {o : OpP} : (doM A R m o).1.room = m.room := by
  unfold doM changeM
  repeat' split
  all_goals rfl
end Go.Proofs.YtjpjlfcjkgmhdaaGreat

namespace Go.Proofs.YtjpjlfcjkgmhdaaGreat

def z64 (x : Int) : Prop := -9223372036854775808 ≤ x ∧ x ≤ 9223372036854775807

/-- The items' numbers are of 64 bits. -/
structure Md.in64 (m : Md) : Prop where
  ps : ∀ p ∈ m.ps, z64 p.x ∧ z64 p.y
  ss : ∀ s ∈ m.ss, z64 s.lo ∧ z64 s.hi
  bs : ∀ b ∈ m.bs, b.in64

def OpP.in64 (o : OpP) : Prop := (z64 o.a ∧ z64 o.b ∧ z64 o.c ∧ z64 o.d) ∧ o.id < 4294967296 ∧ o.code < 256

theorem in64_nil (room : Nat) : Md.in64 ⟨room, [], [], []⟩ := ⟨by simp, by simp, by simp⟩

theorem doM_in64 {A R : List Bx → Nat} {m : Md} (h : m.in64) {o : OpP} (ho : o.in64) : (doM A R m o).1.in64 := by
  obtain ⟨⟨oa, ob, oc, od⟩, _, _⟩ := ho
  have k1 : ∀ x ∈ (comeM Pt.id m.room m.ps o.pt).1, z64 x.x ∧ z64 x.y := fun x hx => by
    rcases comeM_mem _ _ hx with e | hx
    · rw [e]; exact ⟨oa, ob⟩
    · exact h.ps x hx
  have k2 : ∀ x ∈ (comeM Sp.id m.room m.ss o.sp).1, z64 x.lo ∧ z64 x.hi := fun x hx => by
    rcases comeM_mem _ _ hx with e | hx
    · rw [e]; exact ⟨oa, ob⟩
    · exact h.ss x hx
  have k3 : ∀ x ∈ (comeM Bx.id m.room m.bs o.bx).1, x.in64 := fun x hx => by
    rcases comeM_mem _ _ hx with e | hx
    · rw [e]; exact ⟨oa, ob, oc, od⟩
    · exact h.bs x hx
  obtain ⟨r, hr⟩ : ∃ r, doM A R m o = r := ⟨_, rfl⟩
  rw [hr]
  unfold doM changeM at hr
  split at hr
  · subst hr; exact h
  split at hr
  · split at hr
    · subst hr; exact ⟨k1, h.ss, h.bs⟩
    split at hr
    · split at hr
      · subst hr; exact ⟨h.ps, k2, h.bs⟩
      · subst hr; exact h
    split at hr
    · split at hr
      · subst hr; exact ⟨h.ps, h.ss, k3⟩
      · subst hr; exact h
    split at hr
    · subst hr; exact ⟨fun x hx => h.ps x (loseM_mem _ hx), h.ss, h.bs⟩
    split at hr
    · subst hr; exact ⟨h.ps, fun x hx => h.ss x (loseM_mem _ hx), h.bs⟩
    · subst hr; exact ⟨h.ps, h.ss, fun x hx => h.bs x (loseM_mem _ hx)⟩
  split at hr <;> (subst hr; exact h)

/-- Of some numbers one is the greatest. -/
theorem max_of {α : Type} (f : α → Int) : ∀ (l : List α), l ≠ [] → ∃ x ∈ l, ∀ y ∈ l, f y ≤ f x
  | [], h => absurd rfl h
  | a :: l, _ => by
    rcases l with _ | ⟨b, l⟩
    · exact ⟨a, by simp, by simp⟩
    · obtain ⟨x, hx, hm⟩ := max_of f (b :: l) (by simp)
      by_cases h : f x ≤ f a
      · refine ⟨a, by simp, fun y hy => ?_⟩
        rcases List.mem_cons.1 hy with rfl | hy
        · exact Int.le_refl _
        · exact Int.le_trans (hm y hy) h
      · refine ⟨x, List.mem_cons_of_mem _ hx, fun y hy => ?_⟩
        rcases List.mem_cons.1 hy with rfl | hy
        · omega
        · exact hm y hy

theorem overB_iff (p q : Pt) : overB p q = true ↔ q.x ≤ p.x ∧ q.y ≤ p.y ∧ (p.x ≠ q.x ∨ p.y ≠ q.y) := by
  unfold overB
  simp only [Bool.and_eq_true, Bool.or_eq_true, Bool.not_eq_true', decide_eq_true_eq, decide_eq_false_iff_not]
theorem overB_sum {p q : Pt} (h : overB p q = true) : q.x + q.y < p.x + p.y := by
  obtain ⟨h1, h2, h3⟩ := (overB_iff p q).1 h
  rcases h3 with h3 | h3 <;> omega
theorem overB_trans {p q r : Pt} (h : overB p q = true) (k : overB q r = true) : overB p r = true := by
  have h4 := overB_sum h
  have h5 := overB_sum k
  obtain ⟨h1, h2, _⟩ := (overB_iff p q).1 h
  obtain ⟨k1, k2, _⟩ := (overB_iff q r).1 k
  refine (overB_iff p r).2 ⟨by omega, by omega, ?_⟩
  by_cases e : p.x = r.x
  · right; intro e2; omega
  · exact .inl e

/-- The names of the points over which none lies. -/
def skyM (l : List Pt) : List Nat := namesM Pt.id l fun p => (namesM Pt.id l fun q => overB q p).isEmpty

theorem names_empty {α : Type} {key : α → Nat} {l : List α} {p : α → Bool} : (namesM key l p).isEmpty = true ↔ ∀ x ∈ l, p x = false := by
  unfold namesM
  simp [List.filter_eq_nil_iff]

theorem mem_namesM {α : Type} {key : α → Nat} {l : List α} (h : Asc key l) (p : α → Bool) {x : α} (hx : x ∈ l) : key x ∈ namesM key l p ↔ p x = true := by
  rw [mem_names h]
  constructor
  · rintro ⟨y, hy, hp⟩
    rw [h.find hx] at hy
    cases hy; exact hp
  · intro hp; exact ⟨x, h.find hx, hp⟩

theorem sky_no {l : List Pt} (h : Asc Pt.id l) {p q : Pt} (hp : p ∈ l) (hq : q ∈ l) (ho : overB q p = true) : p.id ∉ skyM l := by
  unfold skyM
  rw [mem_namesM h _ hp, names_empty]
  intro hc
  rw [hc q hq] at ho
  cases ho

theorem sky_yes {l : List Pt} (h : Asc Pt.id l) {p : Pt} (hp : p ∈ l) : p.id ∈ skyM l ∨ ∃ q ∈ l, overB q p = true ∧ q.id ∈ skyM l := by
  by_cases hc : (l.filter fun q => overB q p) = []
  · left
    unfold skyM
    rw [mem_namesM h _ hp, names_empty]
    intro x hx
    rw [List.filter_eq_nil_iff] at hc
    simpa using hc x hx
  · right
    obtain ⟨q, hq, hm⟩ := max_of (fun q : Pt => q.x + q.y) _ hc
    obtain ⟨hq1, hq2⟩ := List.mem_filter.1 hq
    refine ⟨q, hq1, hq2, ?_⟩
    unfold skyM
    rw [mem_namesM h _ hq1, names_empty]
    intro x hx
    cases hb : overB x q with
    | false => rfl
    | true =>
      have h1 := hm x (List.mem_filter.2 ⟨hx, overB_trans hb hq2⟩)
      have h2 := overB_sum hb
      omega

theorem sky_some {l : List Pt} (h : Asc Pt.id l) : decide (0 < (skyM l).length) = decide (0 < l.length) := by
  rcases l with _ | ⟨a, l⟩
  · rfl
  · have : 0 < (skyM (a :: l)).length := by
      rcases sky_yes h (p := a) (by simp) with h1 | ⟨q, _, _, h1⟩
      · exact List.length_pos_of_mem h1
      · exact List.length_pos_of_mem h1
    simp [this]

theorem lowB_iff' (p q : Pt) : lowB p q = true ↔ p.y < q.y ∨ (p.y = q.y ∧ p.id < q.id) := by
  unfold lowB
  simp only [Bool.and_eq_true, Bool.or_eq_true, decide_eq_true_eq]

/-- The names of the lowest of some points. -/
def lowM (l : List Pt) (s : Pt → Bool) : List Nat := namesM Pt.id l fun p => s p && (namesM Pt.id l fun q => s q && lowB q p).isEmpty

theorem low_uniq {l : List Pt} {s : Pt → Bool} {p q : Pt} (h : Asc Pt.id l) (hp : p ∈ l) (hq : q ∈ l) (h1 : p.id ∈ lowM l s) (h2 : q.id ∈ lowM l s) : p = q := by
  unfold lowM at h1 h2
  rw [mem_namesM h _ hp, Bool.and_eq_true, names_empty] at h1
  rw [mem_namesM h _ hq, Bool.and_eq_true, names_empty] at h2
  refine h.inj hp hq ?_
  have h3 := h1.2 q hq
  have h4 := h2.2 p hp
  rw [h2.1, Bool.true_and] at h3
  rw [h1.1, Bool.true_and] at h4
  have h5 : ¬ (q.y < p.y ∨ (q.y = p.y ∧ q.id < p.id)) := fun c => by rw [(lowB_iff' q p).2 c] at h3; cases h3
  have h6 : ¬ (p.y < q.y ∨ (p.y = q.y ∧ p.id < q.id)) := fun c => by rw [(lowB_iff' p q).2 c] at h4; cases h4
  have e1 : ¬ q.y < p.y := fun c => h5 (.inl c)
  have e2 : ¬ p.y < q.y := fun c => h6 (.inl c)
  have e3 : p.y = q.y := by omega
  have e4 : ¬ q.id < p.id := fun c => h5 (.inr ⟨e3.symm, c⟩)
  have e5 : ¬ p.id < q.id := fun c => h6 (.inr ⟨e3, c⟩)
  show p.id = q.id
  omega

theorem low_le {l : List Pt} {s : Pt → Bool} (h : Asc Pt.id l) : (lowM l s).length ≤ 1 := by
  have hr := names_rise h (fun p => s p && (namesM Pt.id l fun q => s q && lowB q p).isEmpty)
  have hu : ∀ k ∈ lowM l s, ∃ p ∈ l, p.id = k := fun k hk => by
    unfold lowM at hk
    obtain ⟨x, hx, _⟩ := (mem_names h _ k).1 hk
    exact ⟨x, findK_some hx⟩
  have key : ∀ L : List Nat, lowM l s = L → L.length ≤ 1 := by
    intro L hL
    rcases L with _ | ⟨a, _ | ⟨b, r⟩⟩
    · simp
    · simp
    · exfalso
      have ha : a ∈ lowM l s := by rw [hL]; simp
      have hb : b ∈ lowM l s := by rw [hL]; simp
      obtain ⟨p, hp, rfl⟩ := hu a ha
      obtain ⟨q, hq, rfl⟩ := hu b hb
      have := low_uniq h hp hq ha hb
      subst this
      change (lowM l s).Pairwise (· < ·) at hr
      rw [hL, List.pairwise_cons] at hr
      have := hr.1 p.id (by simp)
      omega
  exact key _ rfl

theorem lowB_total {p q : Pt} (h : lowB p q = false) (hne : p.id ≠ q.id) : lowB q p = true := by
  rw [lowB_iff']
  have : ¬ (p.y < q.y ∨ (p.y = q.y ∧ p.id < q.id)) := fun c => by rw [(lowB_iff' p q).2 c] at h; cases h
  have e1 : ¬ p.y < q.y := fun c => this (.inl c)
  by_cases e2 : q.y < p.y
  · exact .inl e2
  · have e3 : q.y = p.y := by omega
    refine .inr ⟨e3, ?_⟩
    have : ¬ p.id < q.id := fun c => this (.inr ⟨e3.symm, c⟩)
    omega

theorem lowB_trans {p q r : Pt} (h : lowB p q = true) (k : lowB q r = true) : lowB p r = true := by
  rw [lowB_iff'] at h k ⊢
  rcases h with h | ⟨h, h'⟩ <;> rcases k with k | ⟨k, k'⟩
  · left; omega
  · left; omega
  · left; omega
  · right; exact ⟨by omega, by omega⟩

/-- Of some points one is the lowest. -/
theorem min_low : ∀ (l : List Pt), l ≠ [] → (∀ x ∈ l, ∀ y ∈ l, x.id = y.id → x = y) → ∃ x ∈ l, ∀ y ∈ l, lowB y x = false
  | [], h, _ => absurd rfl h
  | a :: l, _, hid => by
    have irr : ∀ x, lowB x x = false := fun x => by
      cases h : lowB x x with
      | false => rfl
      | true => rw [lowB_iff'] at h; rcases h with h | ⟨_, h⟩ <;> omega
    rcases l with _ | ⟨b, l⟩
    · exact ⟨a, by simp, fun y hy => by simp at hy; subst hy; exact irr y⟩
    · obtain ⟨x, hx, hm⟩ := min_low (b :: l) (by simp) (fun x hx y hy => hid x (List.mem_cons_of_mem _ hx) y (List.mem_cons_of_mem _ hy))
      cases h : lowB a x with
      | true =>
        refine ⟨a, by simp, fun y hy => ?_⟩
        rcases List.mem_cons.1 hy with rfl | hy
        · exact irr y
        · cases hc : lowB y a with
          | false => rfl
          | true =>
            have := lowB_trans hc h
            rw [hm y hy] at this
            cases this
      | false =>
        refine ⟨x, List.mem_cons_of_mem _ hx, fun y hy => ?_⟩
        rcases List.mem_cons.1 hy with rfl | hy
        · exact h
        · exact hm y hy

theorem low_some {l : List Pt} (h : Asc Pt.id l) {s : Pt → Bool} (hs : ∀ p ∈ l, s p = true) : decide ((lowM l s).length = 1) = decide (0 < l.length) := by
  rcases hl : l with _ | ⟨a, r⟩
  · rfl
  · rw [← hl]
    obtain ⟨x, hx, hm⟩ := min_low l (by rw [hl]; simp) (fun x hx y hy e => h.inj hx hy e)
    have h1 : x.id ∈ lowM l s := by
      unfold lowM
      rw [mem_namesM h _ hx, Bool.and_eq_true, names_empty]
      refine ⟨hs x hx, fun y hy => ?_⟩
      rw [hm y hy, Bool.and_false]
    have h2 := List.length_pos_of_mem h1
    have h3 := low_le (s := s) h
    have h4 : (lowM l s).length = 1 := by omega
    rw [h4, hl]
    simp

theorem low_min {l : List Pt} (h : Asc Pt.id l) {s : Pt → Bool} (hs : ∀ p ∈ l, s p = true) {p q : Pt} (hp : p ∈ l) (hq : q ∈ l) (h1 : p.id ∈ lowM l s) : lowB q p = false := by
  unfold lowM at h1
  rw [mem_namesM h _ hp, Bool.and_eq_true, names_empty] at h1
  have := h1.2 q hq
  rw [hs q hq, Bool.true_and] at this
  exact this

/-- What Do tells of the questions for points. -/
theorem do_point {A R : List Bx → Nat} {m : Md} {o : OpP} (h : 7 ≤ o.code ∧ o.code ≤ 14) : doM A R m o = (m, pointM m o) := by
  unfold doM
  rw [if_neg (by omega), if_neg (by omega), if_pos (by omega)]
theorem do_other {A R : List Bx → Nat} {m : Md} {o : OpP} (h : 15 ≤ o.code ∧ o.code ≤ 20) : doM A R m o = (m, otherM A R m o) := by
  unfold doM
  rw [if_neg (by omega), if_neg (by omega), if_neg (by omega)]
theorem do_same {A R : List Bx → Nat} {m : Md} {o : OpP} (h : 7 ≤ o.code) : (doM A R m o).1 = m := by
  unfold doM
  split
  · rfl
  · rw [if_neg (by omega)]; split <;> rfl
theorem do_ids {A R : List Bx → Nat} {m : Md} (h : m.ok) {o : OpP} (ho : 7 ≤ o.code) : (doM A R m o).2.ids.Pairwise (· < ·) := by
  unfold doM
  split
  · exact List.Pairwise.nil
  · rw [if_neg (by omega)]
    split
    · unfold pointM
      dsimp only
      split
      · exact List.Pairwise.nil
      · split
        · exact List.Pairwise.nil
        · exact names_rise h.ps _
    · unfold otherM
      split
      · exact names_rise h.ss _
      · split
        · exact List.Pairwise.nil
        · split
          · exact names_rise h.ss _
          · split
            · exact List.Pairwise.nil
            · split
              · exact List.Pairwise.nil
              · exact names_rise h.bs _
end Go.Proofs.YtjpjlfcjkgmhdaaGreat
