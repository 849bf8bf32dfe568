/- ivl.behind: how many spans begin at a number at most; slices.BinarySearchFunc at spans, with a count. -/
import Derived.Test.YtjpjlfcjkgmhdaaIvlS
namespace Go.Proofs.Ytjpjlfcjkgmhdaa
open Go.RowKit

/-- How many spans begin at a number at most. -/
def bhd (R : List Sp) (x : Int) : Nat := (R.filter fun s => decide (s.lo ≤ x)).length

theorem bhd_at {R : List Sp} {x : Int} {i : Nat} (hi : i ≤ R.length) (h1 : ∀ s ∈ R.take i, s.lo ≤ x) (h2 : ∀ s ∈ R.drop i, x < s.lo) : bhd R x = i := by
  unfold bhd
  conv => lhs; rw [← List.take_append_drop i R]
  rw [List.filter_append, List.filter_eq_self.2 (by simpa using h1), List.filter_eq_nil_iff.2 (by intro s hs hc; have := h2 s hs; simp at hc; omega), List.append_nil, List.length_take]
  omega

theorem bhd_le (R : List Sp) (x : Int) : bhd R x ≤ R.length := List.length_filter_le _ _

/-- A count in a cell. -/
structure CntC (w : World) (q c : Nat) : Prop where
  cell : w.cell? ⟨q, 0, none⟩ = some (.int .i64 (c : Int))
  soft : w.frozen? ⟨q, 0, none⟩ = false

theorem CntC.upd {w w' : World} {q c : Nat} (h : CntC w q c) {F : List Nat} (hu : Upd F w w') (hq : q ∉ F) : CntC w' q c :=
  ⟨(hu.cell (World.block_lt_of_cell? w _ h.cell) hq).trans h.cell, (hu.frozen (World.block_lt_of_cell? w _ h.cell) hq).trans h.soft⟩

theorem CntC.set {w : World} {q c : Nat} (h : CntC w q c) (d : Nat) : CntC (w.setCell ⟨q, 0, none⟩ (.int .i64 (d : Int))) q d :=
  ⟨World.cell?_setCell_same' _ _ _ (by rw [h.cell]; rfl), by rw [World.frozen?_setCell]; exact h.soft⟩

def sideV (s : Sp) (x : Int) : Int := if s.lo ≤ x then -1 else 1

set_option maxRecDepth 100000 in
set_option maxHeartbeats 1000000 in
theorem sideC (s : Sp) (x : Int) (q c : Nat) (w : World) (h : CntC w q c) (hc : c < 1000000) :
    Calls Try.prog 49 #[spV s, .int .i64 x, .pointer (some ⟨q, 0, none⟩)] w fun e w' => e = .returned (.int .i64 (sideV s x)) ∧ CntC w' q (c + 1) ∧ Upd [q] w w' := by
  obtain ⟨lo, hi, id⟩ := s
  have hu : Upd [] w (w.alloc (.cells #[.int .i64 lo, .int .i64 hi, .int .u32 (id : Int)] 42)) := (Upd.refl _ _).alloc _
  have h1 := h.upd hu (by simp)
  have hql : q < w.heap.size := World.block_lt_of_cell? w _ h.cell
  have d0 : (w.alloc (.cells #[.int .i64 lo, .int .i64 hi, .int .u32 (id : Int)] 42)).cell? ⟨w.heap.size, 0, none⟩ = some (.int .i64 lo) := by rw [World.cell?_alloc_at _ _ _ _ rfl]; rfl
  unfold spV sideV
  dsimp only
  obtain ⟨z, hz⟩ : ∃ z : Int, (if lo ≤ x then (-1 : Int) else 1) = z := ⟨_, rfl⟩
  rw [hz]
  have HZ := Lib.hid hz
  go_enter Try.func49, Try.ntmps49
  go_upto_region 1 with fail
  generalize (w.alloc (.cells #[.int .i64 lo, .int .i64 hi, .int .u32 (id : Int)] 42)) = W at hu h1 d0 ⊢
  have c1 := h1.cell
  have c2 := h1.soft
  have c0 : (0 : Int) ≤ (c : Int) := Int.natCast_nonneg _
  have c3 : (c : Int) < 1000000 := by omega
  have hs := h1.set (c + 1)
  have he : Value.int .i64 ((c + 1 : Nat) : Int) = Value.int .i64 ((c : Int) + 1) := by congr 1
  rw [he] at hs
  have hup : Upd [q] w (W.setCell ⟨q, 0, none⟩ (.int .i64 ((c : Int) + 1))) := (hu.mono (G := [q]) (by simp)).setCell (p := ⟨q, 0, none⟩) (.inl (by simp)) _
  have hqq : (⟨w.heap.size, 0, none⟩ : Addr).block ∉ [q] := by simp; omega
  have e0 := (((Upd.refl [q] W).setCell (p := ⟨q, 0, none⟩) (.inl (by simp)) (.int .i64 ((c : Int) + 1))).cell (p := ⟨w.heap.size, 0, none⟩) (World.block_lt_of_cell? _ _ d0) hqq).trans d0
  have HF := Lib.hid (And.intro hs hup)
  clear he hz h hu h1 hs hup hqq hql
  go_upto_region 2 with fail
  clear c1 c2 d0
  generalize (W.setCell ⟨q, 0, none⟩ (.int .i64 ((c : Int) + 1))) = W2 at e0 HF ⊢
  by_cases hx : lo ≤ x
  · have h9 : z = -1 := by rw [← HZ.out, if_pos hx]
    subst h9
    go_wp2_with fail
    go_ret
    exact ⟨rfl, HF.out⟩
  · have h9 : z = 1 := by rw [← HZ.out, if_neg hx]
    subst h9
    go_wp2_with fail
    go_ret
    exact ⟨rfl, HF.out⟩

theorem take_side {R : List Sp} {x : Int} {p : Nat} {s : Sp} (h : R.Pairwise fun a b => a.lo ≤ b.lo) (hs : R[p]? = some s) (hx : s.lo ≤ x) : ∀ y ∈ R.take (p + 1), y.lo ≤ x := by
  intro y hy
  obtain ⟨h1, h2⟩ := List.getElem?_eq_some_iff.1 hs
  rw [List.take_succ_eq_append_getElem h1, h2, List.mem_append] at hy
  rcases hy with hy | hy
  · obtain ⟨i, hi, rfl⟩ := List.mem_iff_getElem.1 hy
    rw [List.length_take] at hi
    rw [List.getElem_take]
    have := List.pairwise_iff_getElem.1 h i p (by omega) h1 (by omega)
    rw [h2] at this
    omega
  · simp at hy; subst hy; exact hx

theorem drop_side {R : List Sp} {x : Int} {p : Nat} {s : Sp} (h : R.Pairwise fun a b => a.lo ≤ b.lo) (hs : R[p]? = some s) (hx : x < s.lo) : ∀ y ∈ R.drop p, x < y.lo := by
  intro y hy
  obtain ⟨h1, h2⟩ := List.getElem?_eq_some_iff.1 hs
  obtain ⟨i, hi, rfl⟩ := List.mem_iff_getElem.1 hy
  rw [List.length_drop] at hi
  rw [List.getElem_drop]
  rcases Nat.eq_zero_or_pos i with h0 | h0
  · subst h0
    simp only [Nat.add_zero]
    rw [h2]; exact hx
  · have := List.pairwise_iff_getElem.1 h p (p + i) h1 (by omega) (by omega)
    rw [h2] at this
    omega

/-- What the search leaves. -/
def SearchPost (w : World) (q c : Nat) (R : List Sp) (x : Int) (e : Ending) (w' : World) : Prop :=
  ∃ t : Nat, e = .returned (.tuple #[.int .i64 ((bhd R x : Nat) : Int), .bool false]) ∧ CntC w' q (c + t) ∧ t ≤ bitsN R.length + 1 ∧ Upd [q] w w'

set_option maxRecDepth 100000 in
set_option maxHeartbeats 8000000 in
theorem searchC (v : Value) (R : List Sp) (x : Int) (q c : Nat) (w : World) (hs : See KSp w v R) (hb : R.length < 100000) (hq : CntC w q c) (hc : c < 100000) (hv : 0 < R.length → q ∉ blk v) (hsr : R.Pairwise fun a b => a.lo ≤ b.lo) :
    Calls Try.prog 48 #[v, .int .i64 x, .func (.func 49) #[] #[.pointer (some ⟨q, 0, none⟩)]] w (SearchPost w q c R x) := by
  obtain ⟨A, C, rfl⟩ := hs.form
  obtain ⟨n, hn⟩ : ∃ n, R.length = n := ⟨_, rfl⟩
  rw [hn] at hs hb ⊢
  have hbn : bitsN n ≤ 17 := bitsN_le n 17 (by omega)
  have H := Lib.hid hs
  have HN := Lib.hid (And.intro hn (And.intro hsr hbn))
  have HQ := Lib.hid hq
  have HV := Lib.hid hv
  have n0 : (0 : Int) ≤ (n : Int) := Int.natCast_nonneg _
  have n1 : (n : Int) < 100000 := by omega
  have hse : ∀ w', Upd [q] w w' → See KSp w' (.slice A n C) R := fun w' hu => H.out.upd hu (fun h0 k hk hkl hc => by simp at hc; subst hc; exact HV.out h0 (by rw [HN.out.1]; exact hk))
  have HSE := Lib.hid hse
  unfold SearchPost
  clear hs hn hq hv hsr hbn hse
  go_enter Try.func48, Try.ntmps48
  go_wp2_with fail
  go_loopg [9, 10] n (fun m s9 s10 wr => ∃ (i j t : Nat), m + i = j ∧ j ≤ n ∧ s9 = .int .i64 (i : Int) ∧ s10 = .int .i64 (j : Int) ∧ (∀ s ∈ R.take i, s.lo ≤ x) ∧ (∀ s ∈ R.drop j, x < s.lo) ∧ CntC wr q (c + t) ∧ t + bitsN (j - i) ≤ bitsN n ∧ Upd [q] w wr)
  case atStart => exact ⟨0, n, 0, by omega, Nat.le_refl _, rfl, rfl, by simp, by rw [← HN.out.1]; simp, HQ.out, by simp, Upd.refl _ _⟩
  case round =>
    obtain ⟨i, j, t, hij, hjn, rfl, rfl, hlo, hhi, hcn, htb, hup⟩ := hrel
    have i0 : (0 : Int) ≤ (i : Int) := Int.natCast_nonneg _
    have j0 : (0 : Int) ≤ (j : Int) := Int.natCast_nonneg _
    have hi1 : i ≤ j := by omega
    have hi2 : (i : Int) ≤ (j : Int) := by omega
    have hj2 : (j : Int) ≤ (n : Int) := by omega
    by_cases hlt : i < j
    · obtain ⟨p, hp⟩ : ∃ p, (i + j) / 2 = p := ⟨_, rfl⟩
      have hip : i ≤ p ∧ p < j := by omega
      obtain ⟨s, hs⟩ : ∃ s, R[p]? = some s := ⟨_, List.getElem?_eq_getElem (by rw [HN.out.1]; omega)⟩
      obtain ⟨g, og, hA, -, -, ey⟩ := (HSE.out wr hup).at hs
      subst hA
      have y0 : wr.cell? ⟨g, og + p * 3, none⟩ = some (.int .i64 s.lo) := ey 0 _ rfl
      have y1 : wr.cell? ⟨g, og + p * 3 + 1, none⟩ = some (.int .i64 s.hi) := ey 1 _ rfl
      have y2 : wr.cell? ⟨g, og + p * 3 + 2, none⟩ = some (.int .u32 (s.id : Int)) := ey 2 _ rfl
      have hct : c + t < 1000000 := by have := HN.out.2.2; omega
      have hsd := sideC s x q (c + t) wr hcn hct
      unfold spV at hsd
      have b1 : (i : Int) < (j : Int) := by omega
      have p0 : (0 : Int) ≤ (p : Int) := Int.natCast_nonneg _
      have p1 : (p : Int) < (n : Int) := by omega
      have HK := Lib.hid (And.intro hij (And.intro hjn (And.intro hlo (And.intro hhi (And.intro htb hup)))))
      have HS := Lib.hid hs
      have HP := Lib.hid (And.intro hip hp)
      have HCT := Lib.hid (And.intro hcn hct)
      clear hij hjn hlo hhi hcn htb hup hs ey hp hip hct hi1
      go_upto_region 5 with fail
      have hcv : Value.int .i64 (((i : Int) + (j : Int)) / 2) = Value.int .i64 (p : Int) := by have := HP.out.2; congr 1; omega
      simp only [hcv]
      clear hcv
      by_cases hx : s.lo ≤ x
      · have hsv : sideV s x = -1 := by unfold sideV; rw [if_pos hx]
        rw [hsv] at hsd
        have HSD := Lib.hid hsd
        have HX := Lib.hid (take_side HN.out.2.1 HS.out hx)
        clear hsd hsv hx
        go_wp2_with fail
        (with_reducible refine HSD.out.mono ?_)
        rintro e w3 ⟨rfl, h3, u3⟩
        have HE := Lib.hid (And.intro h3 u3)
        clear h3 u3 y0 y1 y2
        go_wp2_with fail
        go_roundg (j - (p + 1))
        case measure => have h1 := HK.out.1; have h2 := HP.out; omega
        case rel =>
          obtain ⟨k1, k2, k3, k4, k5, k6⟩ := HK.out
          have h2 := HP.out
          have h5 := bitsN_half (n := j - i) (by omega) (k := j - (p + 1)) (by omega)
          exact ⟨p + 1, j, t + 1, by omega, k2, by go_num, rfl, HX.out, k4, HE.out.1, by omega, k6.trans HE.out.2⟩
      · have hsv : sideV s x = 1 := by unfold sideV; rw [if_neg hx]
        rw [hsv] at hsd
        have HSD := Lib.hid hsd
        have HX := Lib.hid (drop_side HN.out.2.1 HS.out (show x < s.lo by omega))
        clear hsd hsv hx
        go_wp2_with fail
        (with_reducible refine HSD.out.mono ?_)
        rintro e w3 ⟨rfl, h3, u3⟩
        have HE := Lib.hid (And.intro h3 u3)
        clear h3 u3 y0 y1 y2
        go_wp2_with fail
        go_roundg (p - i)
        case measure => have h1 := HK.out.1; have h2 := HP.out; omega
        case rel =>
          obtain ⟨k1, k2, k3, k4, k5, k6⟩ := HK.out
          have h2 := HP.out
          have h5 := bitsN_half (n := j - i) (by omega) (k := p - i) (by omega)
          exact ⟨i, p, t + 1, by omega, by omega, rfl, rfl, k3, HX.out, HE.out.1, by omega, k6.trans HE.out.2⟩
    · have hij2 : i = j := by omega
      subst hij2
      have hb := bhd_at (R := R) (x := x) (by rw [HN.out.1]; exact hjn) hlo hhi
      have HB := Lib.hid hb
      have htb2 : t ≤ bitsN n := by omega
      have HK := Lib.hid (And.intro htb2 hup)
      by_cases hin : i < n
      · obtain ⟨s, hs⟩ : ∃ s, R[i]? = some s := ⟨_, List.getElem?_eq_getElem (by rw [HN.out.1]; omega)⟩
        obtain ⟨g, og, hA, -, -, ey⟩ := (HSE.out wr hup).at hs
        subst hA
        have y0 : wr.cell? ⟨g, og + i * 3, none⟩ = some (.int .i64 s.lo) := ey 0 _ rfl
        have y1 : wr.cell? ⟨g, og + i * 3 + 1, none⟩ = some (.int .i64 s.hi) := ey 1 _ rfl
        have y2 : wr.cell? ⟨g, og + i * 3 + 2, none⟩ = some (.int .u32 (s.id : Int)) := ey 2 _ rfl
        have hct : c + t < 1000000 := by have := HN.out.2.2; omega
        have hsd := sideC s x q (c + t) wr hcn hct
        have hxs : x < s.lo := hhi s (by
          obtain ⟨h1, h2⟩ := List.getElem?_eq_some_iff.1 hs
          rw [List.drop_eq_getElem_cons h1, h2]
          simp)
        have hsv : sideV s x = 1 := by unfold sideV; rw [if_neg (by omega)]
        rw [hsv] at hsd
        unfold spV at hsd
        have b1 : (i : Int) < (n : Int) := by omega
        have HSD := Lib.hid hsd
        clear hsd hsv hxs hs ey hct hlo hhi hcn htb hup hij hjn hi1 htb2 hb hlt
        go_wp2_with fail
        (with_reducible refine HSD.out.mono ?_)
        rintro e w3 ⟨rfl, h3, u3⟩
        have HE := Lib.hid (And.intro h3 u3)
        clear h3 u3 y0 y1 y2
        go_wp2_with fail
        go_ret2
        exact ⟨t + 1, by rw [HB.out]; rfl, HE.out.1, by rw [HN.out.1]; have := HK.out.1; omega, HK.out.2.trans HE.out.2⟩
      · have hin2 : i = n := by omega
        subst hin2
        have HC := Lib.hid hcn
        clear hlo hhi hcn htb hup hij hjn hi1 htb2 hb hlt
        go_wp2_with fail
        go_ret2
        exact ⟨t, by rw [HB.out]; rfl, HC.out, by rw [HN.out.1]; have := HK.out.1; omega, HK.out.2⟩

/-- What behind tells. -/
def BehindPost (w : World) (R : List Sp) (x : Int) (e : Ending) (w' : World) : Prop :=
  ∃ t : Nat, e = .returned (.tuple #[.int .i64 ((bhd R x : Nat) : Int), .int .i64 (t : Int)]) ∧ t ≤ bitsN R.length + 1 ∧ Upd [] w w'

set_option maxRecDepth 100000 in
set_option maxHeartbeats 2000000 in
theorem behindC {w : World} {b : Nat} {p vr : Value} {R : List Sp} {T : Kn} {Fk : List Nat} (h : IvlAt w b p vr R T Fk) (x : Int) (hb : R.length < 100000) (hsr : R.Pairwise fun a b => a.lo ≤ b.lo) :
    Calls Try.prog 28 #[.pointer (some ⟨b, 0, none⟩), .int .i64 x] w (BehindPost w R x) := by
  have c2 := h.cells.2.2.1
  have hbl := lt_of_block h.head
  have hu : Upd [] w (w.alloc (.cells #[.int .i64 0] 3)) := (Upd.refl _ _).alloc _
  have c2' : (w.alloc (.cells #[.int .i64 0] 3)).cell? ⟨b, 2, none⟩ = some vr := (hu.cell (p := ⟨b, 2, none⟩) hbl (by simp)).trans c2
  have hq : CntC (w.alloc (.cells #[.int .i64 0] 3)) w.heap.size 0 := ⟨by rw [World.cell?_alloc_at _ _ _ _ rfl]; rfl, by simp⟩
  have hse : See KSp (w.alloc (.cells #[.int .i64 0] 3)) vr R := See.of_row (own_upd h.row hu (by simp))
  have hlt := own_lt h.row
  have HS := Lib.hid (searchC vr R x w.heap.size 0 _ hse hb hq (by decide) (fun _ hc => by have := hlt _ hc; omega) hsr)
  have HU := Lib.hid hu
  obtain ⟨A, C, rfl⟩ := hse.form
  unfold BehindPost
  clear h c2 hbl hq hse hlt hu hsr
  go_enter Try.func28, Try.ntmps28
  go_upto_region 2 with fail
  generalize (w.alloc (.cells #[.int .i64 0] 3)) = W at HS HU c2' ⊢
  go_wp2_with fail
  (with_reducible refine HS.out.mono ?_)
  rintro e w3 ⟨t, rfl, h3, h4, u3⟩
  have c3 := h3.cell
  rw [Nat.zero_add] at c3
  have HE := Lib.hid (And.intro h4 u3)
  clear h3 h4 u3 c2'
  go_wp2_with fail
  go_quiet (fail)
  go_wp2_with fail
  go_ret2
  exact ⟨t, rfl, HE.out.1, (HU.out.trans' HE.out.2 (fun y hy => .inr (by simp at hy; omega))).drewN _⟩
end Go.Proofs.Ytjpjlfcjkgmhdaa
