/- gridironlow.Names, Points, Spans, Boxes: are two lists the same? Printed by mklow.py. -/
import Derived.Test.YthnbgfnclpkdjaaGreatAllM
import Derived.ChangeKeysEq
import Derived.Deep.QuietTactic
import Derived.BigQuiet
namespace Go.Proofs.YthnbgfnclpkdjaaGreat
open Go.RowKit

theorem KPt.at {w : World} {A : Option Addr} {n C : Nat} {l : List Pt} (h : See KPt w (.slice A n C) l) {k : Nat} {x : Pt} (hx : l[k]? = some x) :
    ∃ b o, A = some ⟨b, o, none⟩ ∧ n ≤ C ∧ C ≤ maxLen ∧ w.cell? ⟨b, o + k * 3, none⟩ = some (.int .i64 x.x) ∧ w.cell? ⟨b, o + k * 3 + 1, none⟩ = some (.int .i64 x.y) ∧ w.cell? ⟨b, o + k * 3 + 2, none⟩ = some (.int .u32 (x.id : Int)) := by
  obtain ⟨b, o, h1, h2, h3, h4⟩ := See.at h hx
  exact ⟨b, o, h1, h2, h3, h4 0 _ rfl, h4 1 _ rfl, h4 2 _ rfl⟩
theorem KSp.at {w : World} {A : Option Addr} {n C : Nat} {l : List Sp} (h : See KSp w (.slice A n C) l) {k : Nat} {x : Sp} (hx : l[k]? = some x) :
    ∃ b o, A = some ⟨b, o, none⟩ ∧ n ≤ C ∧ C ≤ maxLen ∧ w.cell? ⟨b, o + k * 3, none⟩ = some (.int .i64 x.lo) ∧ w.cell? ⟨b, o + k * 3 + 1, none⟩ = some (.int .i64 x.hi) ∧ w.cell? ⟨b, o + k * 3 + 2, none⟩ = some (.int .u32 (x.id : Int)) := by
  obtain ⟨b, o, h1, h2, h3, h4⟩ := See.at h hx
  exact ⟨b, o, h1, h2, h3, h4 0 _ rfl, h4 1 _ rfl, h4 2 _ rfl⟩

theorem pt_ne {a b a' b' : Int} {c c' : Nat} (h : (⟨a, b, c⟩ : Pt) ≠ ⟨a', b', c'⟩) (w : World) : (binOp .neq 47 (.agg #[.int .i64 a, .int .i64 b, .int .u32 (c : Int)]) (.agg #[.int .i64 a', .int .i64 b', .int .u32 (c' : Int)])).run Tryz.prog w = .ok (.bool true) w := by
  have HH := Lib.hid h
  clear h
  rw [run_neq_struct, run_equalIn_agg _ _ _ _ _ (by kernel_rfl) (by kernel_rfl)]
  go_simp
  rintro rfl rfl q
  have : c = c' := by omega
  subst this
  exact HH.out rfl
theorem pt_same (a b : Int) (c : Nat) (w : World) : (binOp .neq 47 (.agg #[.int .i64 a, .int .i64 b, .int .u32 (c : Int)]) (.agg #[.int .i64 a, .int .i64 b, .int .u32 (c : Int)])).run Tryz.prog w = .ok (.bool false) w := by
  rw [run_neq_struct, run_equalIn_agg _ _ _ _ _ (by kernel_rfl) (by kernel_rfl)]
  go_simp
theorem sp_ne {a b a' b' : Int} {c c' : Nat} (h : (⟨a, b, c⟩ : Sp) ≠ ⟨a', b', c'⟩) (w : World) : (binOp .neq 52 (.agg #[.int .i64 a, .int .i64 b, .int .u32 (c : Int)]) (.agg #[.int .i64 a', .int .i64 b', .int .u32 (c' : Int)])).run Tryz.prog w = .ok (.bool true) w := by
  have HH := Lib.hid h
  clear h
  rw [run_neq_struct, run_equalIn_agg _ _ _ _ _ (by kernel_rfl) (by kernel_rfl)]
  go_simp
  rintro rfl rfl q
  have : c = c' := by omega
  subst this
  exact HH.out rfl
theorem sp_same (a b : Int) (c : Nat) (w : World) : (binOp .neq 52 (.agg #[.int .i64 a, .int .i64 b, .int .u32 (c : Int)]) (.agg #[.int .i64 a, .int .i64 b, .int .u32 (c : Int)])).run Tryz.prog w = .ok (.bool false) w := by
  rw [run_neq_struct, run_equalIn_agg _ _ _ _ _ (by kernel_rfl) (by kernel_rfl)]
  go_simp
theorem bx_ne {a b c d a' b' c' d' : Int} {e e' : Nat} (h : (⟨a, b, c, d, e⟩ : Bx) ≠ ⟨a', b', c', d', e'⟩) (w : World) : (binOp .neq 43 (.agg #[.int .i64 a, .int .i64 b, .int .i64 c, .int .i64 d, .int .u32 (e : Int)]) (.agg #[.int .i64 a', .int .i64 b', .int .i64 c', .int .i64 d', .int .u32 (e' : Int)])).run Tryz.prog w = .ok (.bool true) w := by
  have HH := Lib.hid h
  clear h
  rw [run_neq_struct, run_equalIn_agg _ _ _ _ _ (by kernel_rfl) (by kernel_rfl)]
  go_simp
  rintro rfl rfl rfl rfl q
  have : e = e' := by omega
  subst this
  exact HH.out rfl
theorem bx_same (a b c d : Int) (e : Nat) (w : World) : (binOp .neq 43 (.agg #[.int .i64 a, .int .i64 b, .int .i64 c, .int .i64 d, .int .u32 (e : Int)]) (.agg #[.int .i64 a, .int .i64 b, .int .i64 c, .int .i64 d, .int .u32 (e : Int)])).run Tryz.prog w = .ok (.bool false) w := by
  rw [run_neq_struct, run_equalIn_agg _ _ _ _ _ (by kernel_rfl) (by kernel_rfl)]
  go_simp

/-- b says whether two lists are the same. -/
def SameL {α : Type} (l l' : List α) (b : Bool) : Prop := b = true ↔ l = l'

theorem same_end {α : Type} {l l' : List α} {n n' i : Nat} (hn : l.length = n) (hn' : l'.length = n') (hp : ∀ k, k < i → l[k]? = l'[k]?) (hi : i = n ∨ i = n') (hle : i ≤ n ∧ i ≤ n') : SameL l l' ((n : Int) == (n' : Int)) := by
  unfold SameL
  constructor
  · intro h
    have e1 : (n : Int) = (n' : Int) := by simpa using h
    have e : n = n' := by omega
    refine List.ext_getElem? fun k => ?_
    by_cases hk : k < i
    · exact hp k hk
    · rw [List.getElem?_eq_none (by omega), List.getElem?_eq_none (by omega)]
  · rintro rfl
    rw [hn] at hn'; subst hn'; simp
theorem same_step {α : Type} {l l' : List α} {i : Nat} {b : α} (hp : ∀ k, k < i → l[k]? = l'[k]?) (h : l[i]? = some b) (h' : l'[i]? = some b) : ∀ k, k < i + 1 → l[k]? = l'[k]? := fun k hk => by
  by_cases e : k = i
  · subst e; rw [h, h']
  · exact hp k (by omega)
theorem same_no {α : Type} {l l' : List α} {i : Nat} {b b' : α} (h : l[i]? = some b) (h' : l'[i]? = some b') (hne : b ≠ b') : SameL l l' false := by
  unfold SameL
  simp only [Bool.false_eq_true, false_iff]
  rintro rfl
  rw [h] at h'; cases h'; exact hne rfl

set_option maxRecDepth 100000 in
set_option maxHeartbeats 4000000 in
theorem lowNC (v u : Value) (l l' : List Nat) (w : World) (hv : See KU w v l) (hu : See KU w u l') (hl : l.length < 1000000) (_ : l'.length < 1000000) :
    Calls Tryz.prog 48 #[v, u] w fun e w' => ∃ b, e = .returned (.bool b) ∧ SameL l l' b ∧ Upd [] w w' := by
  obtain ⟨A, C, rfl⟩ := hv.form
  obtain ⟨A', C', rfl⟩ := hu.form
  obtain ⟨n, hn⟩ : ∃ n, l.length = n := ⟨_, rfl⟩
  obtain ⟨n', hn'⟩ : ∃ n, l'.length = n := ⟨_, rfl⟩
  rw [hn] at hv hl ⊢
  rw [hn'] at hu ⊢
  have HV := Lib.hid (And.intro hv hu)
  have HN := Lib.hid (And.intro hn hn')
  have n1 : (n : Int) < 1000000 := by omega
  have n0 : (0 : Int) ≤ (n : Int) := Int.natCast_nonneg _
  clear hv hu hn hn' hl
  go_enter Tryz.func48, Tryz.ntmps48
  go_wp2_with fail
  go_loopg [5] n (fun m s5 wr => ∃ i, m + i = n ∧ i ≤ n' ∧ s5 = .int .i64 (i : Int) ∧ Upd [] w wr ∧ ∀ k, k < i → l[k]? = l'[k]?)
  case atStart => exact ⟨0, rfl, Nat.zero_le _, rfl, Upd.refl _ _, by intro k hk; omega⟩
  case round =>
    obtain ⟨i, hi, hi', rfl, hu, hp⟩ := hrel
    have HI := Lib.hid (And.intro hi hi')
    have HU := Lib.hid hu
    have HP := Lib.hid hp
    have i0 : (0 : Int) ≤ (i : Int) := Int.natCast_nonneg _
    have i3 : (i : Int) < 2000000 := by omega
    clear hp
    by_cases hlt : i < n
    · have i1 : (i : Int) < (n : Int) := by omega
      by_cases hlt' : i < n'
      · have i2 : (i : Int) < (n' : Int) := by omega
        obtain ⟨b, hb⟩ : ∃ b, l[i]? = some b := ⟨_, List.getElem?_eq_getElem (by rw [HN.out.1]; exact hlt)⟩
        obtain ⟨b', hb'⟩ : ∃ b, l'[i]? = some b := ⟨_, List.getElem?_eq_getElem (by rw [HN.out.2]; exact hlt')⟩
        obtain ⟨g, o, hA, -, -, c0⟩ := KU.at (HV.out.1.upd0 hu) hb
        obtain ⟨g', o', hA', -, -, d0⟩ := KU.at (HV.out.2.upd0 hu) hb'
        subst hA hA'
        have HLT := Lib.hid (And.intro hlt (And.intro hlt' (And.intro hb hb')))
        clear hb hb' hlt hlt' hi hi' hu
        by_cases hne : b = b'
        · subst hne
          have e1 : ((b : Int) != (b : Int)) = false := by simp
          clear HV
          go_upto_region 4 with fail
          go_quiet (fail)
          clear c0 d0
          go_wp2_with fail
          go_roundg (n - (i + 1))
          case measure => have := HI.out; have := HLT.out; omega
          case rel => exact ⟨i + 1, by have := HI.out; have := HLT.out; omega, by have := HLT.out; omega, by go_num, HU.out.drewN _, same_step HP.out HLT.out.2.2.1 HLT.out.2.2.2⟩
        · have HNE := Lib.hid (same_no HLT.out.2.2.1 HLT.out.2.2.2 hne)
          have e1 : ((b : Int) != (b' : Int)) = true := bne_iff_ne.2 (by omega)
          clear hne
          clear HV
          go_upto_region 4 with fail
          go_quiet (fail)
          clear c0 d0
          go_wp2_with fail
          go_ret
          exact ⟨_, rfl, HNE.out, HU.out.drewN _⟩
      · have HS := Lib.hid (same_end HN.out.1 HN.out.2 HP.out (.inr (by omega)) ⟨by omega, hi'⟩)
        obtain ⟨q, hq⟩ : ∃ q, ((n : Int) == (n' : Int)) = q := ⟨_, rfl⟩
        rw [hq] at HS
        clear hi hi' hu
        go_wp2_with fail
        go_ret
        exact ⟨_, rfl, HS.out, HU.out⟩
    · have HS := Lib.hid (same_end HN.out.1 HN.out.2 HP.out (.inl (by omega)) ⟨by omega, hi'⟩)
      obtain ⟨q, hq⟩ : ∃ q, ((n : Int) == (n' : Int)) = q := ⟨_, rfl⟩
      rw [hq] at HS
      clear hi hi' hu
      go_wp2_with fail
      go_ret
      exact ⟨_, rfl, HS.out, HU.out⟩

set_option maxRecDepth 100000 in
set_option maxHeartbeats 4000000 in
theorem lowPC (v u : Value) (l l' : List Pt) (w : World) (hv : See KPt w v l) (hu : See KPt w u l') (hl : l.length < 1000000) (_ : l'.length < 1000000) :
    Calls Tryz.prog 24 #[v, u] w fun e w' => ∃ b, e = .returned (.bool b) ∧ SameL l l' b ∧ Upd [] w w' := by
  obtain ⟨A, C, rfl⟩ := hv.form
  obtain ⟨A', C', rfl⟩ := hu.form
  obtain ⟨n, hn⟩ : ∃ n, l.length = n := ⟨_, rfl⟩
  obtain ⟨n', hn'⟩ : ∃ n, l'.length = n := ⟨_, rfl⟩
  rw [hn] at hv hl ⊢
  rw [hn'] at hu ⊢
  have HV := Lib.hid (And.intro hv hu)
  have HN := Lib.hid (And.intro hn hn')
  have n1 : (n : Int) < 1000000 := by omega
  have n0 : (0 : Int) ≤ (n : Int) := Int.natCast_nonneg _
  clear hv hu hn hn' hl
  go_enter Tryz.func24, Tryz.ntmps24
  go_wp2_with fail
  go_loopg [5] n (fun m s5 wr => ∃ i, m + i = n ∧ i ≤ n' ∧ s5 = .int .i64 (i : Int) ∧ Upd [] w wr ∧ ∀ k, k < i → l[k]? = l'[k]?)
  case atStart => exact ⟨0, rfl, Nat.zero_le _, rfl, Upd.refl _ _, by intro k hk; omega⟩
  case round =>
    obtain ⟨i, hi, hi', rfl, hu, hp⟩ := hrel
    have HI := Lib.hid (And.intro hi hi')
    have HU := Lib.hid hu
    have HP := Lib.hid hp
    have i0 : (0 : Int) ≤ (i : Int) := Int.natCast_nonneg _
    have i3 : (i : Int) < 2000000 := by omega
    clear hp
    by_cases hlt : i < n
    · have i1 : (i : Int) < (n : Int) := by omega
      by_cases hlt' : i < n'
      · have i2 : (i : Int) < (n' : Int) := by omega
        obtain ⟨b, hb⟩ : ∃ b, l[i]? = some b := ⟨_, List.getElem?_eq_getElem (by rw [HN.out.1]; exact hlt)⟩
        obtain ⟨b', hb'⟩ : ∃ b, l'[i]? = some b := ⟨_, List.getElem?_eq_getElem (by rw [HN.out.2]; exact hlt')⟩
        obtain ⟨g, o, hA, -, -, c0, c1, c2⟩ := KPt.at (HV.out.1.upd0 hu) hb
        obtain ⟨g', o', hA', -, -, d0, d1, d2⟩ := KPt.at (HV.out.2.upd0 hu) hb'
        subst hA hA'
        have HLT := Lib.hid (And.intro hlt (And.intro hlt' (And.intro hb hb')))
        clear hb hb' hlt hlt' hi hi' hu
        by_cases hne : b = b'
        · subst hne
          have hsame := fun w => pt_same b.x b.y b.id w
          clear HV
          go_upto_region 4 with fail
          go_quiet (fail)
          clear c0 c1 c2 d0 d1 d2
          go_wp2_with fail
          go_roundg (n - (i + 1))
          case measure => have := HI.out; have := HLT.out; omega
          case rel => exact ⟨i + 1, by have := HI.out; have := HLT.out; omega, by have := HLT.out; omega, by go_num, HU.out.drewN _, same_step HP.out HLT.out.2.2.1 HLT.out.2.2.2⟩
        · have HNE := Lib.hid (same_no HLT.out.2.2.1 HLT.out.2.2.2 hne)
          have hdiff := fun w => pt_ne (h := show (⟨b.x, b.y, b.id⟩ : Pt) ≠ ⟨b'.x, b'.y, b'.id⟩ from hne) w
          clear hne
          clear HV
          go_upto_region 4 with fail
          go_quiet (fail)
          clear c0 c1 c2 d0 d1 d2
          go_wp2_with fail
          go_ret
          exact ⟨_, rfl, HNE.out, HU.out.drewN _⟩
      · have HS := Lib.hid (same_end HN.out.1 HN.out.2 HP.out (.inr (by omega)) ⟨by omega, hi'⟩)
        obtain ⟨q, hq⟩ : ∃ q, ((n : Int) == (n' : Int)) = q := ⟨_, rfl⟩
        rw [hq] at HS
        clear hi hi' hu
        go_wp2_with fail
        go_ret
        exact ⟨_, rfl, HS.out, HU.out⟩
    · have HS := Lib.hid (same_end HN.out.1 HN.out.2 HP.out (.inl (by omega)) ⟨by omega, hi'⟩)
      obtain ⟨q, hq⟩ : ∃ q, ((n : Int) == (n' : Int)) = q := ⟨_, rfl⟩
      rw [hq] at HS
      clear hi hi' hu
      go_wp2_with fail
      go_ret
      exact ⟨_, rfl, HS.out, HU.out⟩

set_option maxRecDepth 100000 in
set_option maxHeartbeats 4000000 in
theorem lowSC (v u : Value) (l l' : List Sp) (w : World) (hv : See KSp w v l) (hu : See KSp w u l') (hl : l.length < 1000000) (_ : l'.length < 1000000) :
    Calls Tryz.prog 25 #[v, u] w fun e w' => ∃ b, e = .returned (.bool b) ∧ SameL l l' b ∧ Upd [] w w' := by
  obtain ⟨A, C, rfl⟩ := hv.form
  obtain ⟨A', C', rfl⟩ := hu.form
  obtain ⟨n, hn⟩ : ∃ n, l.length = n := ⟨_, rfl⟩
  obtain ⟨n', hn'⟩ : ∃ n, l'.length = n := ⟨_, rfl⟩
  rw [hn] at hv hl ⊢
  rw [hn'] at hu ⊢
  have HV := Lib.hid (And.intro hv hu)
  have HN := Lib.hid (And.intro hn hn')
  have n1 : (n : Int) < 1000000 := by omega
  have n0 : (0 : Int) ≤ (n : Int) := Int.natCast_nonneg _
  clear hv hu hn hn' hl
  go_enter Tryz.func25, Tryz.ntmps25
  go_wp2_with fail
  go_loopg [5] n (fun m s5 wr => ∃ i, m + i = n ∧ i ≤ n' ∧ s5 = .int .i64 (i : Int) ∧ Upd [] w wr ∧ ∀ k, k < i → l[k]? = l'[k]?)
  case atStart => exact ⟨0, rfl, Nat.zero_le _, rfl, Upd.refl _ _, by intro k hk; omega⟩
  case round =>
    obtain ⟨i, hi, hi', rfl, hu, hp⟩ := hrel
    have HI := Lib.hid (And.intro hi hi')
    have HU := Lib.hid hu
    have HP := Lib.hid hp
    have i0 : (0 : Int) ≤ (i : Int) := Int.natCast_nonneg _
    have i3 : (i : Int) < 2000000 := by omega
    clear hp
    by_cases hlt : i < n
    · have i1 : (i : Int) < (n : Int) := by omega
      by_cases hlt' : i < n'
      · have i2 : (i : Int) < (n' : Int) := by omega
        obtain ⟨b, hb⟩ : ∃ b, l[i]? = some b := ⟨_, List.getElem?_eq_getElem (by rw [HN.out.1]; exact hlt)⟩
        obtain ⟨b', hb'⟩ : ∃ b, l'[i]? = some b := ⟨_, List.getElem?_eq_getElem (by rw [HN.out.2]; exact hlt')⟩
        obtain ⟨g, o, hA, -, -, c0, c1, c2⟩ := KSp.at (HV.out.1.upd0 hu) hb
        obtain ⟨g', o', hA', -, -, d0, d1, d2⟩ := KSp.at (HV.out.2.upd0 hu) hb'
        subst hA hA'
        have HLT := Lib.hid (And.intro hlt (And.intro hlt' (And.intro hb hb')))
        clear hb hb' hlt hlt' hi hi' hu
        by_cases hne : b = b'
        · subst hne
          have hsame := fun w => sp_same b.lo b.hi b.id w
          clear HV
          go_upto_region 4 with fail
          go_quiet (fail)
          clear c0 c1 c2 d0 d1 d2
          go_wp2_with fail
          go_roundg (n - (i + 1))
          case measure => have := HI.out; have := HLT.out; omega
          case rel => exact ⟨i + 1, by have := HI.out; have := HLT.out; omega, by have := HLT.out; omega, by go_num, HU.out.drewN _, same_step HP.out HLT.out.2.2.1 HLT.out.2.2.2⟩
        · have HNE := Lib.hid (same_no HLT.out.2.2.1 HLT.out.2.2.2 hne)
          have hdiff := fun w => sp_ne (h := show (⟨b.lo, b.hi, b.id⟩ : Sp) ≠ ⟨b'.lo, b'.hi, b'.id⟩ from hne) w
          clear hne
          clear HV
          go_upto_region 4 with fail
          go_quiet (fail)
          clear c0 c1 c2 d0 d1 d2
          go_wp2_with fail
          go_ret
          exact ⟨_, rfl, HNE.out, HU.out.drewN _⟩
      · have HS := Lib.hid (same_end HN.out.1 HN.out.2 HP.out (.inr (by omega)) ⟨by omega, hi'⟩)
        obtain ⟨q, hq⟩ : ∃ q, ((n : Int) == (n' : Int)) = q := ⟨_, rfl⟩
        rw [hq] at HS
        clear hi hi' hu
        go_wp2_with fail
        go_ret
        exact ⟨_, rfl, HS.out, HU.out⟩
    · have HS := Lib.hid (same_end HN.out.1 HN.out.2 HP.out (.inl (by omega)) ⟨by omega, hi'⟩)
      obtain ⟨q, hq⟩ : ∃ q, ((n : Int) == (n' : Int)) = q := ⟨_, rfl⟩
      rw [hq] at HS
      clear hi hi' hu
      go_wp2_with fail
      go_ret
      exact ⟨_, rfl, HS.out, HU.out⟩

set_option maxRecDepth 100000 in
set_option maxHeartbeats 4000000 in
theorem lowBC (v u : Value) (l l' : List Bx) (w : World) (hv : See KBx w v l) (hu : See KBx w u l') (hl : l.length < 1000000) (_ : l'.length < 1000000) :
    Calls Tryz.prog 27 #[v, u] w fun e w' => ∃ b, e = .returned (.bool b) ∧ SameL l l' b ∧ Upd [] w w' := by
  obtain ⟨A, C, rfl⟩ := hv.form
  obtain ⟨A', C', rfl⟩ := hu.form
  obtain ⟨n, hn⟩ : ∃ n, l.length = n := ⟨_, rfl⟩
  obtain ⟨n', hn'⟩ : ∃ n, l'.length = n := ⟨_, rfl⟩
  rw [hn] at hv hl ⊢
  rw [hn'] at hu ⊢
  have HV := Lib.hid (And.intro hv hu)
  have HN := Lib.hid (And.intro hn hn')
  have n1 : (n : Int) < 1000000 := by omega
  have n0 : (0 : Int) ≤ (n : Int) := Int.natCast_nonneg _
  clear hv hu hn hn' hl
  go_enter Tryz.func27, Tryz.ntmps27
  go_wp2_with fail
  go_loopg [5] n (fun m s5 wr => ∃ i, m + i = n ∧ i ≤ n' ∧ s5 = .int .i64 (i : Int) ∧ Upd [] w wr ∧ ∀ k, k < i → l[k]? = l'[k]?)
  case atStart => exact ⟨0, rfl, Nat.zero_le _, rfl, Upd.refl _ _, by intro k hk; omega⟩
  case round =>
    obtain ⟨i, hi, hi', rfl, hu, hp⟩ := hrel
    have HI := Lib.hid (And.intro hi hi')
    have HU := Lib.hid hu
    have HP := Lib.hid hp
    have i0 : (0 : Int) ≤ (i : Int) := Int.natCast_nonneg _
    have i3 : (i : Int) < 2000000 := by omega
    clear hp
    by_cases hlt : i < n
    · have i1 : (i : Int) < (n : Int) := by omega
      by_cases hlt' : i < n'
      · have i2 : (i : Int) < (n' : Int) := by omega
        obtain ⟨b, hb⟩ : ∃ b, l[i]? = some b := ⟨_, List.getElem?_eq_getElem (by rw [HN.out.1]; exact hlt)⟩
        obtain ⟨b', hb'⟩ : ∃ b, l'[i]? = some b := ⟨_, List.getElem?_eq_getElem (by rw [HN.out.2]; exact hlt')⟩
        obtain ⟨g, o, hA, -, -, c0, c1, c2, c3, c4⟩ := KBx.at (HV.out.1.upd0 hu) hb
        obtain ⟨g', o', hA', -, -, d0, d1, d2, d3, d4⟩ := KBx.at (HV.out.2.upd0 hu) hb'
        subst hA hA'
        have HLT := Lib.hid (And.intro hlt (And.intro hlt' (And.intro hb hb')))
        clear hb hb' hlt hlt' hi hi' hu
        by_cases hne : b = b'
        · subst hne
          have hsame := fun w => bx_same b.x1 b.x2 b.y1 b.y2 b.id w
          clear HV
          go_upto_region 4 with fail
          go_quiet (fail)
          clear c0 c1 c2 c3 c4 d0 d1 d2 d3 d4
          go_wp2_with fail
          go_roundg (n - (i + 1))
          case measure => have := HI.out; have := HLT.out; omega
          case rel => exact ⟨i + 1, by have := HI.out; have := HLT.out; omega, by have := HLT.out; omega, by go_num, HU.out.drewN _, same_step HP.out HLT.out.2.2.1 HLT.out.2.2.2⟩
        · have HNE := Lib.hid (same_no HLT.out.2.2.1 HLT.out.2.2.2 hne)
          have hdiff := fun w => bx_ne (h := show (⟨b.x1, b.x2, b.y1, b.y2, b.id⟩ : Bx) ≠ ⟨b'.x1, b'.x2, b'.y1, b'.y2, b'.id⟩ from hne) w
          clear hne
          clear HV
          go_upto_region 4 with fail
          go_quiet (fail)
          clear c0 c1 c2 c3 c4 d0 d1 d2 d3 d4
          go_wp2_with fail
          go_ret
          exact ⟨_, rfl, HNE.out, HU.out.drewN _⟩
      · have HS := Lib.hid (same_end HN.out.1 HN.out.2 HP.out (.inr (by omega)) ⟨by omega, hi'⟩)
        obtain ⟨q, hq⟩ : ∃ q, ((n : Int) == (n' : Int)) = q := ⟨_, rfl⟩
        rw [hq] at HS
        clear hi hi' hu
        go_wp2_with fail
        go_ret
        exact ⟨_, rfl, HS.out, HU.out⟩
    · have HS := Lib.hid (same_end HN.out.1 HN.out.2 HP.out (.inl (by omega)) ⟨by omega, hi'⟩)
      obtain ⟨q, hq⟩ : ∃ q, ((n : Int) == (n' : Int)) = q := ⟨_, rfl⟩
      rw [hq] at HS
      clear hi hi' hu
      go_wp2_with fail
      go_ret
      exact ⟨_, rfl, HS.out, HU.out⟩
end Go.Proofs.YthnbgfnclpkdjaaGreat
