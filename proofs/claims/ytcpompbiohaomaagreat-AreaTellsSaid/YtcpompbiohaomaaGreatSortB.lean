/- sort.merged: two lists of places as one. -/
import Derived.Test.YtcpompbiohaomaaGreatSortA
import Derived.Laws.MakeOwn
namespace Go.Proofs.YtcpompbiohaomaaGreat
open Go.RowKit

theorem keepTwo {w w' : World} {a1 a2 : Addr} {v1 v2 : Value} (h : w.cell? a1 = some v1 ∧ w.cell? a2 = some v2) (hu : Upd [] w w') : w'.cell? a1 = some v1 ∧ w'.cell? a2 = some v2 := by
  have e : ∀ {a : Addr} {v : Value}, w.cell? a = some v → w'.cell? a = some v := fun {a v} ha => (hu.cell (World.block_lt_of_cell? w _ ha) (by simp)).trans ha
  exact ⟨e h.1, e h.2⟩

/-- The key of a place. -/
def kf (K : List (Int × Nat)) (i : Nat) : Int × Nat := K[i]?.getD (0, 0)
/-- The key of the one place is not behind the other's. -/
def leP (K : List (Int × Nat)) (i j : Nat) : Bool := !ahead (kf K j) (kf K i)

theorem kf_get {K : List (Int × Nat)} {i : Nat} (h : i < K.length) : K[i]? = some (kf K i) := by
  unfold kf
  rw [List.getElem?_eq_getElem h]; rfl

theorem leP_trans (K : List (Int × Nat)) (a b c : Nat) : leP K a b = true → leP K b c = true → leP K a c = true := by
  unfold leP
  simp only [Bool.not_eq_true', ← Bool.not_eq_true, ahead_iff]
  omega
theorem leP_total (K : List (Int × Nat)) (a b : Nat) : (leP K a b || leP K b a) = true := by
  unfold leP
  rw [Bool.or_eq_true]
  simp only [Bool.not_eq_true', ← Bool.not_eq_true, ahead_iff]
  omega

theorem KN.at {w : World} {A : Option Addr} {n C : Nat} {l : List Nat} (h : See KN w (.slice A n C) l) {k : Nat} {x : Nat} (hx : l[k]? = some x) :
    ∃ b o, A = some ⟨b, o, none⟩ ∧ n ≤ C ∧ C ≤ maxLen ∧ w.cell? ⟨b, o + k, none⟩ = some (.int .i64 (x : Int)) := by
  obtain ⟨b, o, h1, h2, h3, h4⟩ := h.at hx
  have := h4 0 _ rfl
  exact ⟨b, o, h1, h2, h3, by simpa [KN] using this⟩

theorem KK.at {w : World} {A : Option Addr} {n C : Nat} {l : List (Int × Nat)} (h : See KK w (.slice A n C) l) {k : Nat} {x : Int × Nat} (hx : l[k]? = some x) :
    ∃ b o, A = some ⟨b, o, none⟩ ∧ n ≤ C ∧ C ≤ maxLen ∧ w.cell? ⟨b, o + k * 2, none⟩ = some (.int .i64 x.1) ∧ w.cell? ⟨b, o + k * 2 + 1, none⟩ = some (.int .u32 (x.2 : Int)) := by
  obtain ⟨b, o, h1, h2, h3, h4⟩ := h.at hx
  exact ⟨b, o, h1, h2, h3, h4 0 _ rfl, h4 1 _ rfl⟩

set_option maxRecDepth 100000 in
set_option maxHeartbeats 400000 in
theorem keyFn (vk : Value) (K : List (Int × Nat)) (pk i : Nat) (w : World) (hc : w.cell? ⟨pk, 0, none⟩ = some vk) (hs : See KK w vk K) (hi : i < K.length) :
    Calls Tryz.prog 56 #[.int .i64 (i : Int), .pointer (some ⟨pk, 0, none⟩)] w fun e w' => e = .returned (keyV (kf K i)) ∧ Upd [] w w' := by
  obtain ⟨A, C, rfl⟩ := hs.form
  obtain ⟨g, o, hA, -, -, c0, c1⟩ := KK.at hs (kf_get hi)
  subst hA
  obtain ⟨x, hx⟩ : ∃ x, kf K i = x := ⟨_, rfl⟩
  rw [hx] at c0 c1 ⊢
  obtain ⟨a, j⟩ := x
  unfold keyV
  dsimp only at c0 c1 ⊢
  have b0 : (0 : Int) ≤ (i : Int) := Int.natCast_nonneg _
  have b1 : (i : Int) < (K.length : Int) := by omega
  have hu1 : Upd [] w (w.alloc (.cells #[.int .i64 0, .int .u32 0] 71)) := (Upd.refl _ _).alloc _
  have d0 := (hu1.cell (p := ⟨pk, 0, none⟩) (World.block_lt_of_cell? w _ hc) (by simp)).trans hc
  have d1 := (hu1.cell (p := ⟨g, o + i * 2, none⟩) (World.block_lt_of_cell? w _ c0) (by simp)).trans c0
  have d2 := (hu1.cell (p := ⟨g, o + i * 2 + 1, none⟩) (World.block_lt_of_cell? w _ c1) (by simp)).trans c1
  clear hu1
  clear hs hi hx
  go_enter Tryz.func56, Tryz.ntmps56
  go_wp2_with fail
  exact bodyPost_ret (v := .agg #[.int .i64 a, .int .u32 (j : Int)]) (by simp [results, Tryz.results56, go_sem]) rfl ⟨rfl, (Upd.refl _ _).alloc _⟩

/-- A slice's rest behind its first. -/
theorem KN_tail {w : World} {A : Option Addr} {n C : Nat} {x : Nat} {l : List Nat} (h : See KN w (.slice A n C) (x :: l)) :
    ∃ A' C', (∀ w', (Instr.slice 72 (.slice A n C) (some (.int .i64 1)) none none).run Tryz.prog w' = .ok (.slice A' l.length C') w') ∧ See KN w (.slice A' l.length C') l ∧ n = l.length + 1 := by
  obtain ⟨A0, C0, e⟩ := h.form
  injection e with e1 e2 e3
  subst e1 e3
  have e2' : n = l.length + 1 := by simpa using e2
  obtain ⟨i1, hi1, hy0, hy1, hy2⟩ := info_parts (show (Tryz.prog.info? 3).map (fun i => (i.zero, i.size, i.bytes)) = some (some (.int .i64 0), 1, 8) by kernel_rfl)
  have h' : Sees w 1 (.slice A n C) n (KN.all (x :: l)) := by
    have h2 := h
    unfold See at h2
    rw [List.length_cons, ← e2'] at h2
    exact h2
  obtain ⟨A', C', r1, r2, r3⟩ := cut_from (P := Tryz.prog) Tryz.underlying72 hi1 hy1 h' 1 (by omega)
  rw [e2', Nat.add_sub_cancel] at r1 r2
  refine ⟨A', C', fun w' => by rw [e2']; exact r1 w', ?_, e2'⟩
  have := r2 w (by rw [← e2']; exact h')
  exact this

/-- What merged leaves. -/
def MrgPost (w : World) (M : List Nat) (n : Nat) (e : Ending) (w' : World) : Prop := ∃ A C, e = .returned (.tuple #[.slice A n C, .int .i64 (n : Int)]) ∧ See KN w' (.slice A n C) M ∧ Upd [] w w' ∧ ∀ k ∈ blk (.slice A n C), w.heap.size ≤ k

theorem info_intS : (Tryz.prog.info? 3).map (fun i => (i.zero, i.size, i.bytes)) = some (some (.int .i64 0), 1, 8) := by kernel_rfl

set_option maxRecDepth 100000 in
set_option maxHeartbeats 8000000 in
theorem mergedC (vk va0 vb0 : Value) (K : List (Int × Nat)) (pk : Nat) (a b : List Nat) (w : World) (hc : w.cell? ⟨pk, 0, none⟩ = some vk) (hK : See KK w vk K) (ha : See KN w va0 a) (hb : See KN w vb0 b)
    (ia : ∀ i ∈ a, i < K.length) (ib : ∀ i ∈ b, i < K.length) (hn : a.length + b.length < 10000000) :
    Calls Tryz.prog 70 #[.func (.func 56) #[] #[.pointer (some ⟨pk, 0, none⟩)], va0, vb0] w (MrgPost w (List.merge a b (leP K)) (a.length + b.length)) := by
  obtain ⟨i1, hi1, hy0, hy1, hy2⟩ := info_parts info_intS
  obtain ⟨Aa, Ca, rfl⟩ := ha.form
  obtain ⟨Ab, Cb, rfl⟩ := hb.form
  unfold MrgPost
  obtain ⟨n, hnn⟩ : ∃ n, a.length + b.length = n := ⟨_, rfl⟩
  rw [hnn] at hn ⊢
  obtain ⟨W0, hW0⟩ : ∃ W0, ((w.alloc (.cells #[.slice Aa a.length Ca] 72)).alloc (.cells #[.slice Ab b.length Cb] 72)) = W0 := ⟨_, rfl⟩
  have hu0 : Upd [] w W0 := by rw [← hW0]; exact ((Upd.refl _ _).alloc _).alloc _
  have h4 : W0.heap[w.heap.size]? = some (.cells #[.slice Aa a.length Ca] 72 (0, 0)) := by rw [← hW0, Below.heap_alloc _ _ _ (by simp), heap_alloc_new]
  have h5 : W0.heap[w.heap.size + 1]? = some (.cells #[.slice Ab b.length Cb] 72 (0, 0)) := by
    rw [← hW0]
    have := heap_alloc_new (w.alloc (.cells #[.slice Aa a.length Ca] 72)) (.cells #[.slice Ab b.length Cb] 72)
    simpa using this
  obtain ⟨p, hp⟩ : ∃ p, w.heap.size = p := ⟨_, rfl⟩
  rw [hp] at h4 h5
  obtain ⟨B, hB⟩ : ∃ B, W0.heap.size = B := ⟨_, rfl⟩
  have hpB : p + 1 < B := by rw [← hB]; exact lt_of_block h5
  obtain ⟨w1, hmk, hrow, hg⟩ := run_make_own (P := Tryz.prog) W0 B 72 3 i1 (.int .i64 0) 1 Tryz.underlying72 hi1 hy0 hy1 .i64 .i64 n (by rw [hy2]; omega) (by unfold maxLen; omega) (by omega)
  have hmk' : (Instr.makeSlice 72 (.int .i64 0) (.int .i64 ((a.length : Int) + (b.length : Int)))).run Tryz.prog W0 = .ok (.slice (some ⟨W0.heap.size, 0, none⟩) 0 n) w1 := by
    have e : (a.length : Int) + (b.length : Int) = (n : Int) := by omega
    rw [e]; exact hmk
  have hu1 : Upd [] W0 w1 := (Upd.refl _ _).grown hg (by simp)
  have c4 : W0.cell? ⟨p, 0, none⟩ = some (.slice Aa a.length Ca) := by simp [World.cell?, h4]
  have c5 : W0.cell? ⟨p + 1, 0, none⟩ = some (.slice Ab b.length Cb) := by simp [World.cell?, h5]
  have la : (a.length : Int) ≤ 10000000 := by omega
  have lb : (b.length : Int) ≤ 10000000 := by omega
  have k4 := (hu1.block p (lt_of_block h4) (by simp)).trans h4
  have k5 := (hu1.block (p + 1) (lt_of_block h5) (by simp)).trans h5
  have hpk : pk < w.heap.size := World.block_lt_of_cell? w _ hc
  have HKF := Lib.hid (show ∀ (wz : World), Upd [] w wz → ∀ i, i < K.length → Calls Tryz.prog 56 #[.int .i64 (i : Int), .pointer (some ⟨pk, 0, none⟩)] wz fun e w' => e = .returned (keyV (kf K i)) ∧ Upd [] wz w' from fun wz hu i hi => keyFn vk K pk i wz ((hu.cell (p := ⟨pk, 0, none⟩) hpk (by simp)).trans hc) (hK.upd0 hu) hi)
  have HST := Lib.hid (show KN.row w1 B (.slice (some ⟨W0.heap.size, 0, none⟩) 0 n) [] from hrow)
  have HU1 := Lib.hid (hu0.trans hu1)
  have HK45 := Lib.hid (And.intro k4 k5)
  have HBB := Lib.hid (show w.heap.size ≤ B ∧ B ≤ w1.heap.size ∧ p + 1 < B ∧ w.heap.size = p from ⟨by rw [← hB]; exact hu0.size, by rw [← hB]; exact hu1.size, hpB, hp⟩)
  have HAB := Lib.hid (And.intro ha hb)
  have HII := Lib.hid (And.intro ia ib)
  have HN := Lib.hid (And.intro hnn hn)
  have HWE := Lib.hid (And.intro hW0 hp)
  have HMK := Lib.hid hmk'
  have HCC := Lib.hid (And.intro c4 c5)
  clear hmk hrow hg hu0 hu1 h4 h5 k4 k5 hpk hpB ha hb ia ib hK hc hn hmk' c4 c5 hnn hB hp hW0
  go_enter Tryz.func70, Tryz.ntmps70
  go_upto_region 1 with fail
  rw [HWE.out.1, HWE.out.2]
  have hmk' := HMK.out
  obtain ⟨c4, c5⟩ := HCC.out
  go_wp2_with fail
  clear hmk' c4 c5
  go_loopg [8] n (fun m s8 wr => ∃ (xs ys ps : List Nat) (A C : _) (Ax Cx Ay Cy : _), m = xs.length + ys.length ∧ s8 = .slice A ps.length C ∧ KN.row wr B (.slice A ps.length C) ps ∧ List.merge a b (leP K) = ps ++ List.merge xs ys (leP K) ∧ ps.length + xs.length + ys.length = n ∧
    wr.heap[p]? = some (.cells #[.slice Ax xs.length Cx] 72 (0, 0)) ∧ wr.heap[p + 1]? = some (.cells #[.slice Ay ys.length Cy] 72 (0, 0)) ∧ See KN w (.slice Ax xs.length Cx) xs ∧ See KN w (.slice Ay ys.length Cy) ys ∧ (∀ i ∈ xs, i < K.length) ∧ (∀ i ∈ ys, i < K.length) ∧ Upd [] w wr ∧ B ≤ wr.heap.size)
  case atStart => exact ⟨a, b, [], _, _, Aa, Ca, Ab, Cb, HN.out.1.symm, rfl, HST.out, rfl, by have := HN.out.1; simp; omega, HK45.out.1, HK45.out.2, HAB.out.1, HAB.out.2, HII.out.1, HII.out.2, HU1.out, HBB.out.2.1⟩
  case round =>
    obtain ⟨xs, ys, ps, A, C, Ax, Cx, Ay, Cy, hm, rfl, hrow, hmg, hln, h4, h5, hsa, hsb, ia, ib, hu, hbs⟩ := hrel
    have c4 : wr.cell? ⟨p, 0, none⟩ = some (.slice Ax xs.length Cx) := by simp [World.cell?, h4]
    have c5 : wr.cell? ⟨p + 1, 0, none⟩ = some (.slice Ay ys.length Cy) := by simp [World.cell?, h5]
    have HLEN2 := Lib.hid hln
    have HLEN := Lib.hid (show ps.length + xs.length + ys.length < 10000000 by have := HN.out; omega)
    have HSA := Lib.hid hsa
    have HSB := Lib.hid hsb
    have HU := Lib.hid hu
    have HROW0 := Lib.hid hrow
    have HMG0 := Lib.hid hmg
    have H45 := Lib.hid (And.intro h4 h5)
    have HIX := Lib.hid (And.intro ia ib)
    have HM := Lib.hid hm
    have HBS0 := Lib.hid hbs
    clear hln hsa hsb hu hrow hmg h4 h5 ia ib hm hbs
    by_cases h1 : 0 < xs.length
    · have g1 : decide (0 < xs.length) = true := decide_eq_true h1
      have g1' : (0 : Int) < (xs.length : Int) := by omega
      by_cases h2 : 0 < ys.length
      · have g2 : decide (0 < ys.length) = true := decide_eq_true h2
        have g2' : (0 : Int) < (ys.length : Int) := by omega
        obtain ⟨x, xs', rfl⟩ : ∃ x xs', xs = x :: xs' := by cases xs with | nil => simp at h1 | cons x xs => exact ⟨x, xs, rfl⟩
        obtain ⟨y, ys', rfl⟩ : ∃ y ys', ys = y :: ys' := by cases ys with | nil => simp at h2 | cons y ys => exact ⟨y, ys, rfl⟩
        obtain ⟨gx, ox, hAx, -, -, fx⟩ := KN.at (HSA.out.upd0 HU.out) (k := 0) (x := x) rfl
        obtain ⟨gy, oy, hAy, -, -, fy⟩ := KN.at (HSB.out.upd0 HU.out) (k := 0) (x := y) rfl
        rw [Nat.add_zero] at fx fy
        subst hAx hAy
        obtain ⟨Ax', Cx', tx, sx, -⟩ := KN_tail HSA.out
        obtain ⟨Ay', Cy', ty, sy, -⟩ := KN_tail HSB.out
        have HTX := Lib.hid (And.intro tx sx)
        have HTY := Lib.hid (And.intro ty sy)
        obtain ⟨nx, hnx⟩ : ∃ m, (x :: xs').length = m := ⟨_, rfl⟩
        obtain ⟨ny, hny⟩ : ∃ m, (y :: ys').length = m := ⟨_, rfl⟩
        rw [hnx] at c4 g1 g1' H45 HTX
        rw [hny] at c5 g2 g2' H45 HTY
        have HNX := Lib.hid (And.intro hnx hny)
        clear tx sx ty sy h1 h2 hnx hny
        have q4 : ∀ z : QW wr, z.w.cell? ⟨p, 0, none⟩ = some (.slice (some ⟨gx, ox, none⟩) nx Cx) := fun z => (z.up.cell (p := ⟨p, 0, none⟩) (World.block_lt_of_cell? wr _ c4) (by simp)).trans c4
        have q5 : ∀ z : QW wr, z.w.cell? ⟨p + 1, 0, none⟩ = some (.slice (some ⟨gy, oy, none⟩) ny Cy) := fun z => (z.up.cell (p := ⟨p + 1, 0, none⟩) (World.block_lt_of_cell? wr _ c5) (by simp)).trans c5
        have q6 : ∀ z : QW wr, z.w.cell? ⟨gx, ox, none⟩ = some (.int .i64 (x : Int)) := fun z => (z.up.cell (p := ⟨gx, ox, none⟩) (World.block_lt_of_cell? wr _ fx) (by simp)).trans fx
        have q7 : ∀ z : QW wr, z.w.cell? ⟨gy, oy, none⟩ = some (.int .i64 (y : Int)) := fun z => (z.up.cell (p := ⟨gy, oy, none⟩) (World.block_lt_of_cell? wr _ fy) (by simp)).trans fy
        have k1 := fun (z : QW wr) => HKF.out z.w (HU.out.trans z.up) y (HIX.out.2 y (by simp))
        have k2 := fun (z : QW wr) => HKF.out z.w (HU.out.trans z.up) x (HIX.out.1 x (by simp))
        have k3 := fun (z : QW wr) => orderC (kf K y) (kf K x) z.w
        have hle : leP K x y = !ahead (kf K y) (kf K x) := rfl
        unfold ahead at hle
        unfold keyV at k1 k2 k3
        obtain ⟨ry, hry⟩ : ∃ r, kf K y = r := ⟨_, rfl⟩
        obtain ⟨rx, hrx⟩ : ∃ r, kf K x = r := ⟨_, rfl⟩
        simp only [hry, hrx] at k1 k2 k3 hle
        obtain ⟨od, hod⟩ : ∃ r, ordZ ry rx = r := ⟨_, rfl⟩
        simp only [hod] at k3
        rw [hod] at hle
        obtain ⟨c, hc⟩ : ∃ c, decide (od < 0) = c := ⟨_, rfl⟩
        rw [hc] at hle
        have HK1 := Lib.hid k1
        have HK2 := Lib.hid k2
        have HK3 := Lib.hid k3
        have HLE := Lib.hid hle
        clear k1 k2 k3 hle hry hrx hod fx fy
        cases c
        · go_upto_region 4 with fail
          clear c4 c5
          refine wp_region_quietU (by kernel_rfl) (by kernel_rfl) ?_
          repeat (go_big_quiet_step (first | (with_reducible exact Calls.quietU (HK1.out _)) | (with_reducible exact Calls.quietU (HK2.out _)) | (with_reducible exact Calls.quietU (HK3.out _))))
          refine wpQuiet_nil ?_
          intro wq hw'
          obtain ⟨⟨wy, hwq⟩, hw''⟩ := hw'
          dsimp only at hw''
          subst hw''
          have HUQ := Lib.hid hwq
          have e4 := q4 ⟨wq, hwq⟩
          have e5 := q5 ⟨wq, hwq⟩
          have e6 := q6 ⟨wq, hwq⟩
          have e7 := q7 ⟨wq, hwq⟩
          dsimp only at e4 e5 e6 e7
          have HEQ := Lib.hid (And.intro e4 e5)
          have hrq : KN.row wq B (.slice A ps.length C) ps := own_upd HROW0.out hwq (by simp)
          have HRQ := Lib.hid hrq
          have HBQ := Lib.hid (show B ≤ wq.heap.size from Nat.le_trans HBS0.out hwq.size)
          have g1 : (0 : Int) < (nx : Int) := by assumption
          clear q4 q5 q6 q7 hwq hrq
          go_wp2_with (at_builtin; refine wpList_app _ rfl _ _ 72 rfl B 3 i1 (.int .i64 0) 1 8 Tryz.underlying72 hi1 hy0 hy1 hy2 rfl (by decide) _ _ _ rfl (own_upd HRQ.out ((Upd.refl [] _).alloc _) (by simp)) _ 1 [.int .i64 (x : Int)] rfl (sees_lit wq #[.int .i64 (x : Int)] 3 1 1 rfl (by decide)) (by simp [Value.oneCell']) (by have := HLEN.out; unfold maxLen; omega) (by have := HLEN.out; omega) (by have := HBQ.out; simp; omega) ?_)
          intro A6 C6 w6 HP
          have hrow6 : KN.row w6 B (.slice A6 (ps.length + 1) C6) (ps ++ [x]) := by
            have := HP.own
            unfold Kind.row
            rw [Kind.all_app, List.length_append]
            exact this
          have hu6 : Upd (blk (.slice A ps.length C)) wq w6 := ((Upd.refl _ _).alloc _).trans HP.upd
          have hpn : p ∉ blk (.slice A ps.length C) ∧ p + 1 ∉ blk (.slice A ps.length C) := ⟨fun h => by have := own_ge HROW0.out _ h; have := HBB.out; omega, fun h => by have := own_ge HROW0.out _ h; have := HBB.out; omega⟩
          have b4 := (hu6.block p (World.block_lt_of_cell? wq _ HEQ.out.1) hpn.1).trans ((HUQ.out.block p (lt_of_block H45.out.1) (by simp)).trans H45.out.1)
          have b5 := (hu6.block (p + 1) (World.block_lt_of_cell? wq _ HEQ.out.2) hpn.2).trans ((HUQ.out.block (p + 1) (lt_of_block H45.out.2) (by simp)).trans H45.out.2)
          have f4 : w6.cell? ⟨p, 0, none⟩ = some (.slice (some ⟨gx, ox, none⟩) nx Cx) := by simp [World.cell?, b4]
          have f5 : w6.cell? ⟨p + 1, 0, none⟩ = some (.slice (some ⟨gy, oy, none⟩) ny Cy) := by simp [World.cell?, b5]
          have f6 : w6.frozen? ⟨p, 0, none⟩ = false := by simp [World.frozen?, b4]
          have f7 : w6.frozen? ⟨p + 1, 0, none⟩ = false := by simp [World.frozen?, b5]
          have tt := HTX.out.1
          have HR6 := Lib.hid hrow6
          have HU6 := Lib.hid (show Upd [] w w6 from (HU.out.trans HUQ.out).trans' hu6 (fun k hk => .inr (by have := own_ge HROW0.out k hk; have := HBB.out; omega)))
          have HB6 := Lib.hid (show B ≤ w6.heap.size from Nat.le_trans HBQ.out hu6.size)
          have HBK := Lib.hid (And.intro b4 b5)
          clear e4 e5 e6 e7 HP hrow6 hu6 hpn b4 b5
          go_wp2_with fail
          have HRS := Lib.hid (show KN.row (w6.setCell ⟨p, 0, none⟩ (.slice Ax' xs'.length Cx')) B (.slice A6 (ps.length + 1) C6) (ps ++ [x]) from own_same HR6.out fun k hk => Below.heap_setCell _ _ _ _ (fun e => by have h1 := own_ge HR6.out k hk; have h2 := HBB.out; dsimp only at e; omega))
          go_roundg (xs'.length + ys'.length + 1)
          case measure => have h1 := HM.out; have h2 := HNX.out; simp at h1; omega
          case rel => exact ⟨xs', y :: ys', ps ++ [x], A6, C6, Ax', Cx', some ⟨gy, oy, none⟩, Cy, by simp; omega, by simp, by rw [List.length_append]; exact HRS.out, by rw [HMG0.out, List.cons_merge_cons, HLE.out]; simp, by have := HLEN2.out; simp at this ⊢; omega, heap_set HBK.out.1 0 _, by rw [Below.heap_setCell _ _ _ _ (by dsimp only; omega), HNX.out.2]; exact HBK.out.2, HTX.out.2, HSB.out, fun i hi => HIX.out.1 i (List.mem_cons_of_mem _ hi), fun i hi => HIX.out.2 i hi, HU6.out.setCell (.inr (by have := HBB.out; dsimp only; omega)) _, by simpa [World.setCell] using HB6.out⟩
        · go_upto_region 4 with fail
          clear c4 c5
          refine wp_region_quietU (by kernel_rfl) (by kernel_rfl) ?_
          repeat (go_big_quiet_step (first | (with_reducible exact Calls.quietU (HK1.out _)) | (with_reducible exact Calls.quietU (HK2.out _)) | (with_reducible exact Calls.quietU (HK3.out _))))
          refine wpQuiet_nil ?_
          intro wq hw'
          obtain ⟨⟨wy, hwq⟩, hw''⟩ := hw'
          dsimp only at hw''
          subst hw''
          have HUQ := Lib.hid hwq
          have e4 := q4 ⟨wq, hwq⟩
          have e5 := q5 ⟨wq, hwq⟩
          have e6 := q6 ⟨wq, hwq⟩
          have e7 := q7 ⟨wq, hwq⟩
          dsimp only at e4 e5 e6 e7
          have HEQ := Lib.hid (And.intro e4 e5)
          have hrq : KN.row wq B (.slice A ps.length C) ps := own_upd HROW0.out hwq (by simp)
          have HRQ := Lib.hid hrq
          have HBQ := Lib.hid (show B ≤ wq.heap.size from Nat.le_trans HBS0.out hwq.size)
          have g1 : (0 : Int) < (ny : Int) := by assumption
          clear q4 q5 q6 q7 hwq hrq
          go_wp2_with (at_builtin; refine wpList_app _ rfl _ _ 72 rfl B 3 i1 (.int .i64 0) 1 8 Tryz.underlying72 hi1 hy0 hy1 hy2 rfl (by decide) _ _ _ rfl (own_upd HRQ.out ((Upd.refl [] _).alloc _) (by simp)) _ 1 [.int .i64 (y : Int)] rfl (sees_lit wq #[.int .i64 (y : Int)] 3 1 1 rfl (by decide)) (by simp [Value.oneCell']) (by have := HLEN.out; unfold maxLen; omega) (by have := HLEN.out; omega) (by have := HBQ.out; simp; omega) ?_)
          intro A6 C6 w6 HP
          have hrow6 : KN.row w6 B (.slice A6 (ps.length + 1) C6) (ps ++ [y]) := by
            have := HP.own
            unfold Kind.row
            rw [Kind.all_app, List.length_append]
            exact this
          have hu6 : Upd (blk (.slice A ps.length C)) wq w6 := ((Upd.refl _ _).alloc _).trans HP.upd
          have hpn : p ∉ blk (.slice A ps.length C) ∧ p + 1 ∉ blk (.slice A ps.length C) := ⟨fun h => by have := own_ge HROW0.out _ h; have := HBB.out; omega, fun h => by have := own_ge HROW0.out _ h; have := HBB.out; omega⟩
          have b4 := (hu6.block p (World.block_lt_of_cell? wq _ HEQ.out.1) hpn.1).trans ((HUQ.out.block p (lt_of_block H45.out.1) (by simp)).trans H45.out.1)
          have b5 := (hu6.block (p + 1) (World.block_lt_of_cell? wq _ HEQ.out.2) hpn.2).trans ((HUQ.out.block (p + 1) (lt_of_block H45.out.2) (by simp)).trans H45.out.2)
          have f4 : w6.cell? ⟨p, 0, none⟩ = some (.slice (some ⟨gx, ox, none⟩) nx Cx) := by simp [World.cell?, b4]
          have f5 : w6.cell? ⟨p + 1, 0, none⟩ = some (.slice (some ⟨gy, oy, none⟩) ny Cy) := by simp [World.cell?, b5]
          have f6 : w6.frozen? ⟨p, 0, none⟩ = false := by simp [World.frozen?, b4]
          have f7 : w6.frozen? ⟨p + 1, 0, none⟩ = false := by simp [World.frozen?, b5]
          have tt := HTY.out.1
          have HR6 := Lib.hid hrow6
          have HU6 := Lib.hid (show Upd [] w w6 from (HU.out.trans HUQ.out).trans' hu6 (fun k hk => .inr (by have := own_ge HROW0.out k hk; have := HBB.out; omega)))
          have HB6 := Lib.hid (show B ≤ w6.heap.size from Nat.le_trans HBQ.out hu6.size)
          have HBK := Lib.hid (And.intro b4 b5)
          clear e4 e5 e6 e7 HP hrow6 hu6 hpn b4 b5
          go_wp2_with fail
          have HRS := Lib.hid (show KN.row (w6.setCell ⟨p + 1, 0, none⟩ (.slice Ay' ys'.length Cy')) B (.slice A6 (ps.length + 1) C6) (ps ++ [y]) from own_same HR6.out fun k hk => Below.heap_setCell _ _ _ _ (fun e => by have h1 := own_ge HR6.out k hk; have h2 := HBB.out; dsimp only at e; omega))
          go_roundg (xs'.length + ys'.length + 1)
          case measure => have h1 := HM.out; have h2 := HNX.out; simp at h1; omega
          case rel => exact ⟨x :: xs', ys', ps ++ [y], A6, C6, some ⟨gx, ox, none⟩, Cx, Ay', Cy', by simp; omega, by simp, by rw [List.length_append]; exact HRS.out, by rw [HMG0.out, List.cons_merge_cons, HLE.out]; simp, by have := HLEN2.out; simp at this ⊢; omega, by rw [Below.heap_setCell _ _ _ _ (by dsimp only; omega), HNX.out.1]; exact HBK.out.1, heap_set HBK.out.2 0 _, HSA.out, HTY.out.2, fun i hi => HIX.out.1 i hi, fun i hi => HIX.out.2 i (List.mem_cons_of_mem _ hi), HU6.out.setCell (.inr (by have := HBB.out; dsimp only; omega)) _, by simpa [World.setCell] using HB6.out⟩
      · have g2 : decide (0 < ys.length) = false := decide_eq_false h2
        have g2' : ¬ (0 : Int) < (ys.length : Int) := by omega
        have HMG := Lib.hid (show List.merge a b (leP K) = ps ++ xs ++ ys by
          have : ys = [] := List.length_eq_zero_iff.1 (by omega)
          rw [HMG0.out, this, List.append_assoc]; congr 1; cases xs <;> simp)
        clear h1 h2
        go_upto_region 8 with fail
        obtain ⟨Wd, hWd⟩ : ∃ Wd, Wd = wr.drew := ⟨_, rfl⟩
        have hD0 : Upd [] wr Wd := by rw [hWd]; exact (Upd.refl _ _).drew
        have HC2 := Lib.hid (keepTwo (And.intro c4 c5) hD0)
        have HUD := Lib.hid (HU.out.trans hD0)
        have HROW := Lib.hid (show KN.row Wd B (.slice A ps.length C) ps from own_upd HROW0.out hD0 (by simp))
        have HBS := Lib.hid (show B ≤ Wd.heap.size from Nat.le_trans HBS0.out hD0.size)
        have HPN := Lib.hid (show p ∉ blk (.slice A ps.length C) ∧ p + 1 ∉ blk (.slice A ps.length C) from ⟨fun h => by have := own_ge HROW0.out _ h; have := HBB.out; omega, fun h => by have := own_ge HROW0.out _ h; have := HBB.out; omega⟩)
        clear c4 c5 hD0
        -- region 8: T waits for all loads; fuel 2
        refine GoT.start [4, 5] (fun w' => w'.cell? ⟨p, 0, none⟩ = some (.slice Ax xs.length Cx) ∧ w'.cell? ⟨p + 1, 0, none⟩ = some (.slice Ay ys.length Cy)) (by kernel_rfl) ?_ fun hS => ?_
        · exact by rw [← hWd]; exact HC2.out
        rw [← hWd] at hS ⊢
        clear hWd
        refine' GoT.move (i := 0) (oi := ⟨some 50, _, _, _, _, _⟩) (v := _) rfl (by kernel_rfl) (by kernel_rfl) (by kernel_rfl) (fun _ _ _ h => h) (Or.inl ⟨by rfl, ?yt1n8_0⟩) ?rt1n_0
        case yt1n8_0 => intro w; go_simp <;> with_reducible rfl
        simp only [Act.put, List.setIfInBounds_toArray, List.set_cons_zero, List.set_cons_succ]
        refine' GoT.take 2 (i := 1) (oi := ⟨some 51, _, _, _, _, _⟩) (v := _) rfl (by kernel_rfl) (by kernel_rfl) (by kernel_rfl) (by kernel_rfl) (fun _ _ _ h => h) (Or.inl ⟨by rfl, ?yt1n8_1⟩) (by assumption) ?rt1n_1
        case yt1n8_1 => intro w hSw; go_simp <;> with_reducible rfl
        simp only [Act.put, List.setIfInBounds_toArray, List.set_cons_zero, List.set_cons_succ]
        refine' GoT.take 2 (i := 3) (oi := ⟨some 53, _, _, _, _, _⟩) (v := _) rfl (by kernel_rfl) (by kernel_rfl) (by kernel_rfl) (by kernel_rfl) (fun _ _ _ h => h) (Or.inl ⟨by rfl, ?yt1n8_3⟩) (by assumption) ?rt1n_3
        case yt1n8_3 => intro w hSw; go_simp <;> with_reducible rfl
        simp only [Act.put, List.setIfInBounds_toArray, List.set_cons_zero, List.set_cons_succ]
        -- 2: Go.Op.call { callee := Go.Callee.builtin Go.Builtin.append, args := #[Go.Operand.tmp 50, Go.Operand.tmp 51], argTypes := #[110, 110] }
        refine GoT.one (i := 2) (o := ⟨some 52, _, _, _, _, _⟩) rfl (by kernel_rfl) fun K hK => ?_
        refine step_app _ (by rfl) _ _ 72 (by rfl) B 3 i1 (.int .i64 0) 1 8 Tryz.underlying72 hi1 hy0 hy1 hy2 rfl (by decide) _ _ _ (by rfl) HROW.out _ xs.length (KN.all xs) (by rfl) (HSA.out.upd0 HUD.out) (KN.all_one xs) (by have := HLEN.out; unfold maxLen; omega) (by have := HLEN.out; omega) HBS.out ?_
        intro A5 C5 w5 HP
        refine hK.out _ _ (fun _ h => ?_) ?_
        · exact ⟨(HP.upd.cell (p := ⟨p, 0, none⟩) (World.block_lt_of_cell? Wd _ h.1) HPN.out.1).trans h.1, (HP.upd.cell (p := ⟨p + 1, 0, none⟩) (World.block_lt_of_cell? Wd _ h.2) HPN.out.2).trans h.2⟩
        clear hK K
        try simp only [Act.put, List.setIfInBounds_toArray, List.set_cons_zero, List.set_cons_succ]
        have hrow5 : KN.row w5 B (.slice A5 (ps.length + xs.length) C5) (ps ++ xs) := by
          have := HP.own
          unfold Kind.row
          rw [Kind.all_app, List.length_append]
          exact this
        have HU5 := Lib.hid (HUD.out.trans' HP.upd (fun k hk => .inr (by have := own_ge HROW.out k hk; have := HBB.out; omega)))
        have HR5 := Lib.hid hrow5
        have HB5 := Lib.hid (Nat.le_trans HBS.out HP.upd.size)
        clear HP hrow5
        -- 4: Go.Op.call { callee := Go.Callee.builtin Go.Builtin.append, args := #[Go.Operand.tmp 52, Go.Operand.tmp 53], argTypes := #[110, 110] }
        refine GoT.one (i := 4) (o := ⟨some 54, _, _, _, _, _⟩) rfl (by kernel_rfl) fun K hK => ?_
        refine step_app _ (by rfl) _ _ 72 (by rfl) B 3 i1 (.int .i64 0) 1 8 Tryz.underlying72 hi1 hy0 hy1 hy2 rfl (by decide) _ _ _ (by rfl) (show w5.ownsRow B 3 1 (.slice A5 (ps.length + xs.length) C5) (ps.length + xs.length) (KN.all (ps ++ xs)) by have := HR5.out; unfold Kind.row at this; rw [List.length_append] at this; exact this) _ ys.length (KN.all ys) (by rfl) (HSB.out.upd0 HU5.out) (KN.all_one ys) (by have := HLEN.out; unfold maxLen; omega) (by have := HLEN.out; omega) HB5.out ?_
        intro A6 C6 w6 HP
        refine hK.out _ _ (fun h => (by cases h)) ?_
        clear hK K
        try simp only [Act.put, List.setIfInBounds_toArray, List.set_cons_zero, List.set_cons_succ]
        have hrow6 : KN.row w6 B (.slice A6 (ps.length + xs.length + ys.length) C6) (ps ++ xs ++ ys) := by
          have := HP.own
          unfold Kind.row
          rw [Kind.all_app, List.length_append, List.length_append]
          exact this
        have HU6 := Lib.hid (HU5.out.trans' HP.upd (fun k hk => .inr (by have := own_ge HR5.out k hk; have := HBB.out; omega)))
        have HR6 := Lib.hid hrow6
        clear HP hrow6
        refine' GoT.move (i := 5) (oi := ⟨some 8, _, _, _, _, _⟩) (v := _) rfl (by kernel_rfl) (by kernel_rfl) (by kernel_rfl) (fun _ _ _ h => h) (Or.inl ⟨by rfl, ?yt1n8_5⟩) ?rt1n_5
        case yt1n8_5 => intro w; go_simp <;> with_reducible rfl
        simp only [Act.put, List.setIfInBounds_toArray, List.set_cons_zero, List.set_cons_succ]
        refine GoT.done (by kernel_rfl) ?_
        have hln : ((ps.length : Int) + (xs.length : Int) + (ys.length : Int)) = (n : Int) := by have := HLEN2.out; omega
        have HLN := Lib.hid hln
        clear hln
        go_wp2_with fail
        go_ret2
        exact ⟨A6, C6, by rw [← HLEN2.out]; rfl, by rw [HMG.out, ← HLEN2.out]; exact See.of_row HR6.out, HU6.out, fun k hk => by have := own_ge HR6.out k (by cases A6 <;> exact hk); have := HBB.out; omega⟩
    · have g1 : decide (0 < xs.length) = false := decide_eq_false h1
      have g1' : ¬ (0 : Int) < (xs.length : Int) := by omega
      have HMG := Lib.hid (show List.merge a b (leP K) = ps ++ xs ++ ys by
        have : xs = [] := List.length_eq_zero_iff.1 (by omega)
        rw [HMG0.out, this, List.append_assoc]; congr 1; simp)
      clear h1
      go_upto_region 8 with fail
      obtain ⟨Wd, hWd⟩ : ∃ Wd, Wd = wr.drew := ⟨_, rfl⟩
      have hD0 : Upd [] wr Wd := by rw [hWd]; exact (Upd.refl _ _).drew
      have HC2 := Lib.hid (keepTwo (And.intro c4 c5) hD0)
      have HUD := Lib.hid (HU.out.trans hD0)
      have HROW := Lib.hid (show KN.row Wd B (.slice A ps.length C) ps from own_upd HROW0.out hD0 (by simp))
      have HBS := Lib.hid (show B ≤ Wd.heap.size from Nat.le_trans HBS0.out hD0.size)
      have HPN := Lib.hid (show p ∉ blk (.slice A ps.length C) ∧ p + 1 ∉ blk (.slice A ps.length C) from ⟨fun h => by have := own_ge HROW0.out _ h; have := HBB.out; omega, fun h => by have := own_ge HROW0.out _ h; have := HBB.out; omega⟩)
      clear c4 c5 hD0
      -- region 8: T waits for all loads; fuel 2
      refine GoT.start [4, 5] (fun w' => w'.cell? ⟨p, 0, none⟩ = some (.slice Ax xs.length Cx) ∧ w'.cell? ⟨p + 1, 0, none⟩ = some (.slice Ay ys.length Cy)) (by kernel_rfl) ?_ fun hS => ?_
      · exact by rw [← hWd]; exact HC2.out
      rw [← hWd] at hS ⊢
      clear hWd
      refine' GoT.move (i := 0) (oi := ⟨some 50, _, _, _, _, _⟩) (v := _) rfl (by kernel_rfl) (by kernel_rfl) (by kernel_rfl) (fun _ _ _ h => h) (Or.inl ⟨by rfl, ?yt2n8_0⟩) ?rt2n_0
      case yt2n8_0 => intro w; go_simp <;> with_reducible rfl
      simp only [Act.put, List.setIfInBounds_toArray, List.set_cons_zero, List.set_cons_succ]
      refine' GoT.take 2 (i := 1) (oi := ⟨some 51, _, _, _, _, _⟩) (v := _) rfl (by kernel_rfl) (by kernel_rfl) (by kernel_rfl) (by kernel_rfl) (fun _ _ _ h => h) (Or.inl ⟨by rfl, ?yt2n8_1⟩) (by assumption) ?rt2n_1
      case yt2n8_1 => intro w hSw; go_simp <;> with_reducible rfl
      simp only [Act.put, List.setIfInBounds_toArray, List.set_cons_zero, List.set_cons_succ]
      refine' GoT.take 2 (i := 3) (oi := ⟨some 53, _, _, _, _, _⟩) (v := _) rfl (by kernel_rfl) (by kernel_rfl) (by kernel_rfl) (by kernel_rfl) (fun _ _ _ h => h) (Or.inl ⟨by rfl, ?yt2n8_3⟩) (by assumption) ?rt2n_3
      case yt2n8_3 => intro w hSw; go_simp <;> with_reducible rfl
      simp only [Act.put, List.setIfInBounds_toArray, List.set_cons_zero, List.set_cons_succ]
      -- 2: Go.Op.call { callee := Go.Callee.builtin Go.Builtin.append, args := #[Go.Operand.tmp 50, Go.Operand.tmp 51], argTypes := #[110, 110] }
      refine GoT.one (i := 2) (o := ⟨some 52, _, _, _, _, _⟩) rfl (by kernel_rfl) fun K hK => ?_
      refine step_app _ (by rfl) _ _ 72 (by rfl) B 3 i1 (.int .i64 0) 1 8 Tryz.underlying72 hi1 hy0 hy1 hy2 rfl (by decide) _ _ _ (by rfl) HROW.out _ xs.length (KN.all xs) (by rfl) (HSA.out.upd0 HUD.out) (KN.all_one xs) (by have := HLEN.out; unfold maxLen; omega) (by have := HLEN.out; omega) HBS.out ?_
      intro A5 C5 w5 HP
      refine hK.out _ _ (fun _ h => ?_) ?_
      · exact ⟨(HP.upd.cell (p := ⟨p, 0, none⟩) (World.block_lt_of_cell? Wd _ h.1) HPN.out.1).trans h.1, (HP.upd.cell (p := ⟨p + 1, 0, none⟩) (World.block_lt_of_cell? Wd _ h.2) HPN.out.2).trans h.2⟩
      clear hK K
      try simp only [Act.put, List.setIfInBounds_toArray, List.set_cons_zero, List.set_cons_succ]
      have hrow5 : KN.row w5 B (.slice A5 (ps.length + xs.length) C5) (ps ++ xs) := by
        have := HP.own
        unfold Kind.row
        rw [Kind.all_app, List.length_append]
        exact this
      have HU5 := Lib.hid (HUD.out.trans' HP.upd (fun k hk => .inr (by have := own_ge HROW.out k hk; have := HBB.out; omega)))
      have HR5 := Lib.hid hrow5
      have HB5 := Lib.hid (Nat.le_trans HBS.out HP.upd.size)
      clear HP hrow5
      -- 4: Go.Op.call { callee := Go.Callee.builtin Go.Builtin.append, args := #[Go.Operand.tmp 52, Go.Operand.tmp 53], argTypes := #[110, 110] }
      refine GoT.one (i := 4) (o := ⟨some 54, _, _, _, _, _⟩) rfl (by kernel_rfl) fun K hK => ?_
      refine step_app _ (by rfl) _ _ 72 (by rfl) B 3 i1 (.int .i64 0) 1 8 Tryz.underlying72 hi1 hy0 hy1 hy2 rfl (by decide) _ _ _ (by rfl) (show w5.ownsRow B 3 1 (.slice A5 (ps.length + xs.length) C5) (ps.length + xs.length) (KN.all (ps ++ xs)) by have := HR5.out; unfold Kind.row at this; rw [List.length_append] at this; exact this) _ ys.length (KN.all ys) (by rfl) (HSB.out.upd0 HU5.out) (KN.all_one ys) (by have := HLEN.out; unfold maxLen; omega) (by have := HLEN.out; omega) HB5.out ?_
      intro A6 C6 w6 HP
      refine hK.out _ _ (fun h => (by cases h)) ?_
      clear hK K
      try simp only [Act.put, List.setIfInBounds_toArray, List.set_cons_zero, List.set_cons_succ]
      have hrow6 : KN.row w6 B (.slice A6 (ps.length + xs.length + ys.length) C6) (ps ++ xs ++ ys) := by
        have := HP.own
        unfold Kind.row
        rw [Kind.all_app, List.length_append, List.length_append]
        exact this
      have HU6 := Lib.hid (HU5.out.trans' HP.upd (fun k hk => .inr (by have := own_ge HR5.out k hk; have := HBB.out; omega)))
      have HR6 := Lib.hid hrow6
      clear HP hrow6
      refine' GoT.move (i := 5) (oi := ⟨some 8, _, _, _, _, _⟩) (v := _) rfl (by kernel_rfl) (by kernel_rfl) (by kernel_rfl) (fun _ _ _ h => h) (Or.inl ⟨by rfl, ?yt2n8_5⟩) ?rt2n_5
      case yt2n8_5 => intro w; go_simp <;> with_reducible rfl
      simp only [Act.put, List.setIfInBounds_toArray, List.set_cons_zero, List.set_cons_succ]
      refine GoT.done (by kernel_rfl) ?_
      have hln : ((ps.length : Int) + (xs.length : Int) + (ys.length : Int)) = (n : Int) := by have := HLEN2.out; omega
      have HLN := Lib.hid hln
      clear hln
      go_wp2_with fail
      go_ret2
      exact ⟨A6, C6, by rw [← HLEN2.out]; rfl, by rw [HMG.out, ← HLEN2.out]; exact See.of_row HR6.out, HU6.out, fun k hk => by have := own_ge HR6.out k (by cases A6 <;> exact hk); have := HBB.out; omega⟩
end Go.Proofs.YtcpompbiohaomaaGreat

