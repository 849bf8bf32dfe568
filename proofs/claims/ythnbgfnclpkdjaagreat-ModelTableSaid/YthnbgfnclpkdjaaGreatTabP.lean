/- What ModelTable asks for, plainly. No program. -/
import Derived.Test.YthnbgfnclpkdjaaGreatAftM
namespace Go.Proofs.YthnbgfnclpkdjaaGreat

/-- No more of each kind than there is room for. -/
def Md.fits (m : Md) : Prop := m.ps.length ≤ m.room ∧ m.ss.length ≤ m.room ∧ m.bs.length ≤ m.room

theorem come_fits {α : Type} {key : α → Nat} {l : List α} (h : Asc key l) {room : Nat} {x : α} (hl : l.length ≤ room) : (comeM key room l x).1.length ≤ room := by
  unfold comeM
  split
  · exact hl
  · rename_i hn
    split
    · exact hl
    · rw [ins_len h (by simpa using hn)]; omega

theorem do_fits {A R : List Bx → Nat} {m : Md} (h : m.ok) (hf : m.fits) {o : OpP} : (doM A R m o).1.fits := by
  have k1 : (comeM Pt.id m.room m.ps o.pt).1.length ≤ m.room := come_fits h.ps hf.1
  have k2 : (comeM Sp.id m.room m.ss o.sp).1.length ≤ m.room := come_fits h.ss hf.2.1
  have k3 : (comeM Bx.id m.room m.bs o.bx).1.length ≤ m.room := come_fits h.bs hf.2.2
  have k4 : (loseM Pt.id m.ps o.id).1.length ≤ m.room := Nat.le_trans (loseM_len _) hf.1
  have k5 : (loseM Sp.id m.ss o.id).1.length ≤ m.room := Nat.le_trans (loseM_len _) hf.2.1
  have k6 : (loseM Bx.id m.bs o.id).1.length ≤ m.room := Nat.le_trans (loseM_len _) hf.2.2
  obtain ⟨r, hr⟩ : ∃ r, doM A R m o = r := ⟨_, rfl⟩
  rw [hr]
  unfold doM changeM at hr
  repeat' split at hr
  all_goals subst hr
  all_goals first | exact hf | exact ⟨k1, hf.2.1, hf.2.2⟩ | exact ⟨hf.1, k2, hf.2.2⟩ | exact ⟨hf.1, hf.2.1, k3⟩ | exact ⟨k4, hf.2.1, hf.2.2⟩ | exact ⟨hf.1, k5, hf.2.2⟩ | exact ⟨hf.1, hf.2.1, k6⟩

theorem run_ok {A R : List Bx → Nat} : ∀ (l : List OpP) (m : Md), m.ok → m.fits → (∀ o ∈ l, o.in64) → (runM A R m l).ok ∧ (runM A R m l).fits
  | [], _, h, hf, _ => ⟨h, hf⟩
  | o :: l, m, h, hf, hl => run_ok l (doM A R m o).1 (doM_ok h (hl o (by simp)).2.1) (do_fits h hf) (fun x hx => hl x (List.mem_cons_of_mem _ hx))

/-- Whether the name is there, and how many of its kind there are. -/
def thereM (m : Md) (o : OpP) : Bool :=
  if o.code = 1 ∨ o.code = 4 then (findK Pt.id m.ps o.id).isSome else if o.code = 2 ∨ o.code = 5 then (findK Sp.id m.ss o.id).isSome else if o.code = 3 ∨ o.code = 6 then (findK Bx.id m.bs o.id).isSome else false
def manyM (m : Md) (o : OpP) : Nat :=
  if o.code = 1 ∨ o.code = 4 then m.ps.length else if o.code = 2 ∨ o.code = 5 then m.ss.length else if o.code = 3 ∨ o.code = 6 then m.bs.length else 0

/-- The error that is wanted. -/
def wantM (m : Md) (o : OpP) : Nat :=
  if o.code = 0 ∨ 20 < o.code then 260 else
  if (o.code = 2 ∧ o.b < o.a) ∨ (o.code = 3 ∧ (o.b < o.a ∨ o.d < o.c)) then 261 else
  if o.code ≤ 3 ∧ thereM m o = true then 262 else
  if o.code ≤ 3 ∧ manyM m o = m.room then 5 else
  if (3 < o.code ∧ o.code ≤ 6) ∧ thereM m o = false then 263 else 0

theorem come_err {α : Type} {key : α → Nat} {l : List α} {room : Nat} {x : α} (hl : l.length ≤ room) :
    (comeM key room l x).2.err = (if (findK key l (key x)).isSome = true then 262 else if l.length = room then 5 else 0) ∧ ((comeM key room l x).2.err = 0 → (comeM key room l x).2.cnt = l.length + 1) := by
  unfold comeM
  split
  · exact ⟨rfl, fun h => by cases h⟩
  · by_cases h : room ≤ l.length
    · rw [if_pos h, if_pos (by omega)]
      exact ⟨rfl, fun h => by cases h⟩
    · rw [if_neg h, if_neg (by omega)]
      exact ⟨rfl, fun _ => rfl⟩
theorem lose_err {α : Type} {key : α → Nat} {l : List α} {k : Nat} :
    (loseM key l k).2.err = (if (findK key l k).isSome = true then 0 else 263) ∧ ((loseM key l k).2.err = 0 → (loseM key l k).2.cnt = l.length - 1 ∧ 0 < l.length) := by
  unfold loseM
  split
  · rename_i hs
    refine ⟨rfl, fun _ => ⟨rfl, ?_⟩⟩
    obtain ⟨x, hx⟩ := Option.isSome_iff_exists.1 hs
    exact List.length_pos_of_mem (findK_some hx).1
  · exact ⟨rfl, fun h => by cases h⟩

theorem want_do {A R : List Bx → Nat} {m : Md} (hf : m.fits) (o : OpP) : (doM A R m o).2.err = wantM m o ∧ (wantM m o = 0 → o.code ≤ 3 → (doM A R m o).2.cnt = manyM m o + 1) ∧ (wantM m o = 0 → 3 < o.code → o.code ≤ 6 → (doM A R m o).2.cnt = manyM m o - 1 ∧ 0 < manyM m o) := by
  obtain ⟨f1, f2, f3⟩ := hf
  by_cases h0 : o.code < 1 ∨ 20 < o.code
  · have e1 : doM A R m o = (m, err 260) := by unfold doM; rw [if_pos h0]
    have e2 : wantM m o = 260 := by unfold wantM; rw [if_pos (show o.code = 0 ∨ 20 < o.code by omega)]
    rw [e1, e2]
    exact ⟨rfl, fun h => by omega, fun h => by omega⟩
  by_cases h6 : o.code ≤ 6
  · have e0 : doM A R m o = changeM m o := by unfold doM; rw [if_neg h0, if_pos h6]
    rw [e0]
    have hk : o.code = 1 ∨ o.code = 2 ∨ o.code = 3 ∨ o.code = 4 ∨ o.code = 5 ∨ o.code = 6 := by omega
    have turned : (o.code = 2 ∧ o.b < o.a) ∨ (o.code = 3 ∧ (o.b < o.a ∨ o.d < o.c)) → wantM m o = 261 := fun h => by
      unfold wantM
      rw [if_neg (show ¬ (o.code = 0 ∨ 20 < o.code) by omega), if_pos h]
    rcases hk with h | h | h | h | h | h
    · have h1 := come_err (key := Pt.id) (x := o.pt) f1
      have e1 : changeM m o = ((({ m with ps := (comeM Pt.id m.room m.ps o.pt).1 }) : Md), (comeM Pt.id m.room m.ps o.pt).2) := by unfold changeM; rw [if_pos h]
      have e3 : manyM m o = m.ps.length := by unfold manyM; simp [h]
      have e2 : wantM m o = (if (findK Pt.id m.ps o.pt.id).isSome = true then 262 else if m.ps.length = m.room then 5 else 0) := by
        unfold wantM thereM manyM OpP.pt
        simp [h]
      rw [e1, e3]
      exact ⟨h1.1.trans e2.symm, fun x _ => h1.2 (h1.1.trans (e2.symm.trans x)), fun _ x => by omega⟩
    · by_cases ht : o.a ≤ o.b
      · have h1 := come_err (key := Sp.id) (x := o.sp) f2
        have e1 : changeM m o = ((({ m with ss := (comeM Sp.id m.room m.ss o.sp).1 }) : Md), (comeM Sp.id m.room m.ss o.sp).2) := by unfold changeM; rw [if_neg (by omega), if_pos h, if_pos ht]
        have e3 : manyM m o = m.ss.length := by unfold manyM; simp [h]
        have ht' : ¬ o.b < o.a := by omega
        have e2 : wantM m o = (if (findK Sp.id m.ss o.sp.id).isSome = true then 262 else if m.ss.length = m.room then 5 else 0) := by
          unfold wantM thereM manyM OpP.sp
          simp [h, ht']
        rw [e1, e3]
        exact ⟨h1.1.trans e2.symm, fun x _ => h1.2 (h1.1.trans (e2.symm.trans x)), fun _ x => by omega⟩
      · have e1 : changeM m o = (m, err 261) := by unfold changeM; rw [if_neg (by omega), if_pos h, if_neg ht]
        rw [e1, turned (.inl ⟨h, by omega⟩)]
        exact ⟨rfl, fun x => by omega, fun x => by omega⟩
    · by_cases ht : o.a ≤ o.b ∧ o.c ≤ o.d
      · have h1 := come_err (key := Bx.id) (x := o.bx) f3
        have e1 : changeM m o = ((({ m with bs := (comeM Bx.id m.room m.bs o.bx).1 }) : Md), (comeM Bx.id m.room m.bs o.bx).2) := by unfold changeM; rw [if_neg (by omega), if_neg (by omega), if_pos h, if_pos ht]
        have e3 : manyM m o = m.bs.length := by unfold manyM; simp [h]
        have ht1 : ¬ o.b < o.a := by omega
        have ht2 : ¬ o.d < o.c := by omega
        have e2 : wantM m o = (if (findK Bx.id m.bs o.bx.id).isSome = true then 262 else if m.bs.length = m.room then 5 else 0) := by
          unfold wantM thereM manyM OpP.bx
          simp [h, ht1, ht2]
        rw [e1, e3]
        exact ⟨h1.1.trans e2.symm, fun x _ => h1.2 (h1.1.trans (e2.symm.trans x)), fun _ x => by omega⟩
      · have e1 : changeM m o = (m, err 261) := by unfold changeM; rw [if_neg (by omega), if_neg (by omega), if_pos h, if_neg ht]
        rw [e1, turned (.inr ⟨h, by omega⟩)]
        exact ⟨rfl, fun x => by omega, fun x => by omega⟩
    · have h1 := lose_err (key := Pt.id) (l := m.ps) (k := o.id)
      have e1 : changeM m o = ((({ m with ps := (loseM Pt.id m.ps o.id).1 }) : Md), (loseM Pt.id m.ps o.id).2) := by unfold changeM; rw [if_neg (by omega), if_neg (by omega), if_neg (by omega), if_pos h]
      have e3 : manyM m o = m.ps.length := by unfold manyM; simp [h]
      have e2 : wantM m o = (if (findK Pt.id m.ps o.id).isSome = true then 0 else 263) := by
        unfold wantM thereM manyM
        cases (findK Pt.id m.ps o.id).isSome <;> simp [h]
      rw [e1, e3]
      exact ⟨h1.1.trans e2.symm, fun _ x => by omega, fun x _ _ => h1.2 (h1.1.trans (e2.symm.trans x))⟩
    · have h1 := lose_err (key := Sp.id) (l := m.ss) (k := o.id)
      have e1 : changeM m o = ((({ m with ss := (loseM Sp.id m.ss o.id).1 }) : Md), (loseM Sp.id m.ss o.id).2) := by unfold changeM; rw [if_neg (by omega), if_neg (by omega), if_neg (by omega), if_neg (by omega), if_pos h]
      have e3 : manyM m o = m.ss.length := by unfold manyM; simp [h]
      have e2 : wantM m o = (if (findK Sp.id m.ss o.id).isSome = true then 0 else 263) := by
        unfold wantM thereM manyM
        cases (findK Sp.id m.ss o.id).isSome <;> simp [h]
      rw [e1, e3]
      exact ⟨h1.1.trans e2.symm, fun _ x => by omega, fun x _ _ => h1.2 (h1.1.trans (e2.symm.trans x))⟩
    · have h1 := lose_err (key := Bx.id) (l := m.bs) (k := o.id)
      have e1 : changeM m o = ((({ m with bs := (loseM Bx.id m.bs o.id).1 }) : Md), (loseM Bx.id m.bs o.id).2) := by unfold changeM; rw [if_neg (by omega), if_neg (by omega), if_neg (by omega), if_neg (by omega), if_neg (by omega)]
      have e3 : manyM m o = m.bs.length := by unfold manyM; simp [h]
      have e2 : wantM m o = (if (findK Bx.id m.bs o.id).isSome = true then 0 else 263) := by
        unfold wantM thereM manyM
        cases (findK Bx.id m.bs o.id).isSome <;> simp [h]
      rw [e1, e3]
      exact ⟨h1.1.trans e2.symm, fun _ x => by omega, fun x _ _ => h1.2 (h1.1.trans (e2.symm.trans x))⟩
  · have e2 : wantM m o = 0 := by
      unfold wantM
      rw [if_neg (show ¬ (o.code = 0 ∨ 20 < o.code) by omega), if_neg (show ¬ ((o.code = 2 ∧ o.b < o.a) ∨ (o.code = 3 ∧ (o.b < o.a ∨ o.d < o.c))) by omega), if_neg (fun h => by omega), if_neg (fun h => by omega), if_neg (fun h => by omega)]
    have e1 : (doM A R m o).2.err = 0 := by
      unfold doM
      rw [if_neg h0, if_neg h6]
      split
      · unfold pointM
        dsimp only
        split
        · rfl
        · split <;> rfl
      · unfold otherM
        repeat' split
        all_goals rfl
    exact ⟨e1.trans e2.symm, fun _ h => by omega, fun _ _ h => by omega⟩
end Go.Proofs.YthnbgfnclpkdjaaGreat
