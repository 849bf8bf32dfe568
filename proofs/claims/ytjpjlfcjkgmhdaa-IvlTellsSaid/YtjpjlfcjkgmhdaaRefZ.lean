/- The document's answers of chapter 8: Stab, Drop. -/
import Derived.Test.YtjpjlfcjkgmhdaaRefW
import Derived.Test.YtjpjlfcjkgmhdaaDelS
namespace Go.Proofs.Ytjpjlfcjkgmhdaa
open Go.RowKit

set_option maxRecDepth 100000 in
set_option maxHeartbeats 8000000 in
theorem refStab (v : Value) (l : List Sp) (x : Int) (w : World) (h : See KSp w v l) (hl : l.length < 1000000) :
    Calls Try.prog 30 #[v, .int .i64 x] w (RowPostU w (stabL l x)) := by
  obtain ⟨A, C, rfl⟩ := h.form
  obtain ⟨i3, hi3, hv0, hv1, hv2⟩ := info_parts infoU32S
  obtain ⟨N, hN⟩ : ∃ N, l.length = N := ⟨_, rfl⟩
  have h' : See KSp w (.slice A N C) l := by rw [← hN]; exact h
  rw [hN] at hl ⊢
  have n0 : (0 : Int) ≤ (N : Int) := Int.natCast_nonneg _
  have H := Lib.hid h'
  have HN := Lib.hid hN
  clear h h' hN
  go_enter Try.func30, Try.ntmps30
  go_wp2_with fail
  go_loopg [5, 6] N (fun m s5 s6 wr => ∃ (i : Nat) (vo : Value), m + i = N ∧ s5 = vo ∧ s6 = .int .i64 (i : Int) ∧ KU.row wr w.heap.size vo (((l.take i).filter fun s => stabBM s.lo s.hi x).map Sp.id) ∧ Upd [] w wr)
  case atStart => exact ⟨0, _, rfl, rfl, rfl, World.ownsRow_nil _ _ _ _, Upd.refl _ _⟩
  case round =>
    obtain ⟨i, vo, hi, rfl, rfl, hrow, hup⟩ := hrel
    have i0 : (0 : Int) ≤ (i : Int) := Int.natCast_nonneg _
    have hiN : i ≤ N := by omega
    have hwz := hup.size
    by_cases hlt : i < N
    · obtain ⟨s, hs⟩ : ∃ s, l[i]? = some s := ⟨_, List.getElem?_eq_getElem (by rw [HN.out]; exact hlt)⟩
      obtain ⟨g, o, rfl, -, -, ey⟩ := (H.out.upd0 hup).at hs
      have y0 : wr.cell? ⟨g, o + i * 3, none⟩ = some (.int .i64 s.lo) := ey 0 _ rfl
      have y1 : wr.cell? ⟨g, o + i * 3 + 1, none⟩ = some (.int .i64 s.hi) := ey 1 _ rfl
      have y2 : wr.cell? ⟨g, o + i * 3 + 2, none⟩ = some (.int .u32 (s.id : Int)) := ey 2 _ rfl
      have b1 : (i : Int) < (N : Int) := by omega
      have hnext : ((l.take (i + 1)).filter fun s => stabBM s.lo s.hi x).map Sp.id = ((l.take i).filter fun s => stabBM s.lo s.hi x).map Sp.id ++ (if stabBM s.lo s.hi x = true then [s.id] else []) := by
        obtain ⟨g1, g2⟩ := List.getElem?_eq_some_iff.1 hs
        rw [List.take_succ_eq_append_getElem g1, g2, List.filter_append, List.map_append, List.filter_cons, List.filter_nil]
        split <;> rfl
      have hlen : (((l.take i).filter fun s => stabBM s.lo s.hi x).map Sp.id).length ≤ i := by
        rw [List.length_map]
        refine Nat.le_trans (List.length_filter_le _ _) ?_
        rw [List.length_take]; omega
      generalize ((l.take i).filter fun s => stabBM s.lo s.hi x).map Sp.id = L at hrow hnext hlen
      obtain ⟨r, hr⟩ : ∃ r, L.length = r := ⟨_, rfl⟩
      rw [hr] at hlen
      have hrow2 := hrow
      unfold Kind.row at hrow2
      rw [hr] at hrow2
      have HI := Lib.hid (And.intro hi (And.intro hrow (And.intro hup (And.intro hnext (And.intro hr hrow2)))))
      clear hi hrow hup hnext hr hrow2 hs ey
      by_cases c1 : s.lo ≤ x
      · have g1 : decide (s.lo ≤ x) = true := decide_eq_true c1
        by_cases c2 : x ≤ s.hi
        · have g2 : decide (x ≤ s.hi) = true := decide_eq_true c2
          have hst : stabBM s.lo s.hi x = true := by unfold stabBM; rw [g1, g2]; rfl
          have HST := Lib.hid hst
          clear hst c1 c2
          go_wp2_with (at_builtin; refine wpList_app _ rfl _ _ 29 rfl w.heap.size 35 i3 (.int .u32 0) 1 4 Try.underlying29 hi3 hv0 hv1 hv2 rfl (by decide) _ r (KU.all L) rfl (own_upd HI.out.2.2.2.2.2 ((Upd.refl [] _).alloc _) (by simp)) _ 1 [.int .u32 (s.id : Int)] rfl (sees_lit wr #[.int .u32 (s.id : Int)] 35 1 1 rfl (by decide)) (by simp [Value.oneCell']) (by unfold maxLen; omega) (by omega) (by simp; omega) ?_)
          intro A3 C3 W3 HP3
          have HP4 := Lib.hid HP3
          clear HP3 y0 y1 y2
          go_wp2_with fail
          go_roundg (N - (i + 1))
          case measure => have := HI.out.1; omega
          case rel =>
            refine ⟨i + 1, .slice A3 (r + 1) C3, by have := HI.out.1; omega, rfl, by go_num, ?_, (HI.out.2.2.1.alloc _).trans' HP4.out.upd (fun y hy => .inr (own_ge HI.out.2.1 y hy))⟩
            rw [HI.out.2.2.2.1, if_pos HST.out]
            unfold Kind.row
            rw [List.length_append, HI.out.2.2.2.2.1, KU.all_app]
            exact HP4.out.own
        · have g2 : decide (x ≤ s.hi) = false := decide_eq_false c2
          have hst : ¬ stabBM s.lo s.hi x = true := by unfold stabBM; rw [g1, g2]; decide
          have HST := Lib.hid hst
          clear hst c1 c2
          go_wp2_with fail
          go_roundg (N - (i + 1))
          case measure => have := HI.out.1; omega
          case rel => exact ⟨i + 1, _, by have := HI.out.1; omega, rfl, by go_num, by rw [HI.out.2.2.2.1, if_neg HST.out, List.append_nil]; exact HI.out.2.1, HI.out.2.2.1⟩
      · have g1 : decide (s.lo ≤ x) = false := decide_eq_false c1
        have hst : ¬ stabBM s.lo s.hi x = true := by unfold stabBM; rw [g1]; simp
        have HST := Lib.hid hst
        clear hst c1
        go_wp2_with fail
        go_roundg (N - (i + 1))
        case measure => have := HI.out.1; omega
        case rel => exact ⟨i + 1, _, by have := HI.out.1; omega, rfl, by go_num, by rw [HI.out.2.2.2.1, if_neg HST.out, List.append_nil]; exact HI.out.2.1, HI.out.2.2.1⟩
    · have hfin : l.take i = l := by rw [List.take_of_length_le]; rw [HN.out]; omega
      rw [hfin] at hrow
      have hlen : ((l.filter fun s => stabBM s.lo s.hi x).map Sp.id).length < 1000000 := by
        rw [List.length_map]
        refine Nat.lt_of_le_of_lt (List.length_filter_le _ _) ?_
        rw [HN.out]; exact hl
      obtain ⟨Ab, Cb, rfl⟩ := own_form hrow
      have hso := refSorted _ _ wr (See.of_row hrow) hlen
      have e : sortN ((l.filter fun s => stabBM s.lo s.hi x).map Sp.id) = stabL l x := rfl
      rw [e] at hso
      generalize (l.filter fun s => stabBM s.lo s.hi x).map Sp.id = L at hrow hso
      have HSO := Lib.hid hso
      have HUP := Lib.hid hup
      clear hso hrow hup hfin hlen e hi
      go_wp2_with fail
      (with_reducible refine HSO.out.mono ?_)
      rintro e w3 ⟨A4, C4, rfl, t1, t2⟩
      have HT := Lib.hid (And.intro t1 t2)
      clear t1 t2
      go_wp2_with fail
      go_ret
      exact ⟨A4, C4, rfl, own_base HT.out.1 HUP.out.size, HUP.out.trans HT.out.2⟩

theorem neSp (a b : Sp) (w : World) : (binOp .neq 42 (spV a) (spV b)).run Try.prog w = .ok (.bool (!decide (a = b))) w := by
  unfold spV
  rw [run_neq_struct, run_equalIn_agg _ _ _ _ _ (by kernel_rfl) (by kernel_rfl)]
  go_simp
  obtain ⟨a1, a2, a3⟩ := a
  obtain ⟨b1, b2, b3⟩ := b
  by_cases h1 : a1 = b1 <;> by_cases h2 : a2 = b2 <;> by_cases h3 : a3 = b3 <;> simp_all <;> omega

/-- What the document's Drop leaves. -/
def RefDropPost (w : World) (l : List Sp) (x : Sp) (e : Ending) (w' : World) : Prop :=
  ∃ A C, e = .returned (.tuple #[.slice A (without l x).length C, .bool (decide (x ∈ l))]) ∧ KSp.row w' w.heap.size (.slice A (without l x).length C) (without l x) ∧ Upd [] w w'

theorem without_lt {l : List Sp} {x : Sp} : decide ((without l x).length < l.length) = decide (x ∈ l) := by
  rw [Bool.eq_iff_iff, decide_eq_true_iff, decide_eq_true_iff]
  constructor
  · intro h
    refine Classical.byContradiction fun hc => ?_
    rw [without_not hc] at h
    exact Nat.lt_irrefl _ h
  · intro h
    unfold without
    rw [List.length_filter_lt_length_iff_exists]
    exact ⟨x, h, by simp⟩

set_option maxRecDepth 100000 in
set_option maxHeartbeats 8000000 in
theorem refDrop (v : Value) (l : List Sp) (x : Sp) (w : World) (h : See KSp w v l) (hl : l.length < 1000000) :
    Calls Try.prog 17 #[v, spV x] w (RefDropPost w l x) := by
  obtain ⟨A, C, rfl⟩ := h.form
  obtain ⟨i1, hi1, hy0, hy1, hy2⟩ := info_parts infoSpanD
  obtain ⟨N, hN⟩ : ∃ N, l.length = N := ⟨_, rfl⟩
  have hne := fun y w => neSp y x w
  have h' : See KSp w (.slice A N C) l := by rw [← hN]; exact h
  rw [hN] at hl ⊢
  have n0 : (0 : Int) ≤ (N : Int) := Int.natCast_nonneg _
  unfold spV at hne ⊢
  have hu0 : Upd [] w (w.alloc (.cells #[.int .i64 x.lo, .int .i64 x.hi, .int .u32 (x.id : Int)] 42)) := (Upd.refl _ _).alloc _
  have hq0 : w.heap.size < (w.alloc (.cells #[.int .i64 x.lo, .int .i64 x.hi, .int .u32 (x.id : Int)] 42)).heap.size := by simp
  have x0 : (w.alloc (.cells #[.int .i64 x.lo, .int .i64 x.hi, .int .u32 (x.id : Int)] 42)).cell? ⟨w.heap.size, 0, none⟩ = some (.int .i64 x.lo) := by rw [World.cell?_alloc_at _ _ _ _ rfl]; rfl
  have x1 : (w.alloc (.cells #[.int .i64 x.lo, .int .i64 x.hi, .int .u32 (x.id : Int)] 42)).cell? ⟨w.heap.size, 1, none⟩ = some (.int .i64 x.hi) := by rw [World.cell?_alloc_at _ _ _ _ rfl]; rfl
  have x2 : (w.alloc (.cells #[.int .i64 x.lo, .int .i64 x.hi, .int .u32 (x.id : Int)] 42)).cell? ⟨w.heap.size, 2, none⟩ = some (.int .u32 (x.id : Int)) := by rw [World.cell?_alloc_at _ _ _ _ rfl]; rfl
  have H := Lib.hid (h'.upd0 hu0)
  have HN := Lib.hid (And.intro hN hne)
  have HU0 := Lib.hid hu0
  clear h h' hN hne hu0
  go_enter Try.func17, Try.ntmps17
  go_upto_region 1 with fail
  generalize hW0 : w.alloc (.cells #[.int .i64 x.lo, .int .i64 x.hi, .int .u32 (x.id : Int)] 42) = W0 at H HU0 hq0 x0 x1 x2 ⊢
  clear hW0
  obtain ⟨q, hq⟩ : ∃ q, w.heap.size = q := ⟨_, rfl⟩
  rw [hq] at hq0 x0 x1 x2 ⊢
  have HX := Lib.hid (And.intro x0 (And.intro x1 (And.intro x2 hq)))
  clear x0 x1 x2 hq
  go_wp2_with fail
  go_loopg [6, 7] N (fun m s6 s7 wr => ∃ (i : Nat) (vo : Value), m + i = N ∧ s6 = vo ∧ s7 = .int .i64 (i : Int) ∧ KSp.row wr W0.heap.size vo (without (l.take i) x) ∧ Upd [] W0 wr)
  case atStart => exact ⟨0, _, rfl, rfl, rfl, World.ownsRow_nil _ _ _ _, Upd.refl _ _⟩
  case round =>
    obtain ⟨i, vo, hi, rfl, rfl, hrow, hup⟩ := hrel
    have i0 : (0 : Int) ≤ (i : Int) := Int.natCast_nonneg _
    have hiN : i ≤ N := by omega
    have hwz : W0.heap.size ≤ wr.heap.size := hup.size
    by_cases hlt : i < N
    · obtain ⟨s, hs⟩ : ∃ s, l[i]? = some s := ⟨_, List.getElem?_eq_getElem (by rw [HN.out.1]; exact hlt)⟩
      obtain ⟨g, o, rfl, -, -, ey⟩ := (H.out.upd0 hup).at hs
      have y0 : wr.cell? ⟨g, o + i * 3, none⟩ = some (.int .i64 s.lo) := ey 0 _ rfl
      have y1 : wr.cell? ⟨g, o + i * 3 + 1, none⟩ = some (.int .i64 s.hi) := ey 1 _ rfl
      have y2 : wr.cell? ⟨g, o + i * 3 + 2, none⟩ = some (.int .u32 (s.id : Int)) := ey 2 _ rfl
      have x0 := (hup.cell (p := ⟨q, 0, none⟩) hq0 (by simp)).trans HX.out.1
      have x1 := (hup.cell (p := ⟨q, 1, none⟩) hq0 (by simp)).trans HX.out.2.1
      have x2 := (hup.cell (p := ⟨q, 2, none⟩) hq0 (by simp)).trans HX.out.2.2.1
      have b1 : (i : Int) < (N : Int) := by omega
      have hnext : without (l.take (i + 1)) x = without (l.take i) x ++ (if s = x then [] else [s]) := by
        obtain ⟨g1, g2⟩ := List.getElem?_eq_some_iff.1 hs
        unfold without
        rw [List.take_succ_eq_append_getElem g1, g2, List.filter_append, List.filter_cons, List.filter_nil]
        by_cases e : s = x
        · rw [if_pos e, if_neg (by simp [e])]
        · rw [if_neg e, if_pos (by simp [e])]
      have hlen : (without (l.take i) x).length ≤ i := by
        refine Nat.le_trans (List.length_filter_le _ _) ?_
        rw [List.length_take]; omega
      generalize without (l.take i) x = L at hrow hnext hlen
      obtain ⟨r, hr⟩ : ∃ r, L.length = r := ⟨_, rfl⟩
      rw [hr] at hlen
      have hrow2 := hrow
      unfold Kind.row at hrow2
      rw [hr] at hrow2
      have HI := Lib.hid (And.intro hi (And.intro hrow (And.intro hup (And.intro hnext (And.intro hr hrow2)))))
      have hcmp := fun w => HN.out.2 s w
      clear hi hrow hup hnext hr hrow2 hs ey
      by_cases c : s = x
      · rw [decide_eq_true c] at hcmp
        have HC := Lib.hid c
        clear c
        go_wp2_with fail
        go_quiet (fail)
        go_wp2_with fail
        go_roundg (N - (i + 1))
        case measure => have := HI.out.1; omega
        case rel => exact ⟨i + 1, _, by have := HI.out.1; omega, rfl, by go_num, by rw [HI.out.2.2.2.1, if_pos HC.out, List.append_nil]; exact HI.out.2.1, HI.out.2.2.1.drewN _⟩
      · rw [decide_eq_false c] at hcmp
        have HC := Lib.hid c
        clear c
        go_wp2_with fail
        go_quiet (fail)
        go_wp2_with (at_builtin; refine wpList_app _ rfl _ _ 22 rfl W0.heap.size 42 i1 (.agg #[.int .i64 0, .int .i64 0, .int .u32 0]) 3 24 Try.underlying22 hi1 hy0 hy1 hy2 rfl (by decide) _ r (KSp.all L) rfl (own_upd HI.out.2.2.2.2.2 (((Upd.refl [] wr).drewN nq).alloc _) (by simp)) _ 1 (KSp.enc s) rfl (sees_lit (wr.drewN nq) #[.int .i64 s.lo, .int .i64 s.hi, .int .u32 (s.id : Int)] 42 3 1 rfl (by decide)) (KSp.one s) (by unfold maxLen; omega) (by omega) (by simp; omega) ?_)
        intro A3 C3 W3 HP3
        have HP4 := Lib.hid HP3
        clear HP3 y0 y1 y2 x0 x1 x2
        go_wp2_with fail
        go_roundg (N - (i + 1))
        case measure => have := HI.out.1; omega
        case rel =>
          refine ⟨i + 1, .slice A3 (r + 1) C3, by have := HI.out.1; omega, rfl, by go_num, ?_, ((HI.out.2.2.1.drewN nq).alloc _).trans' HP4.out.upd (fun y hy => .inr (own_ge HI.out.2.1 y hy))⟩
          rw [HI.out.2.2.2.1, if_neg HC.out]
          unfold Kind.row
          rw [List.length_append, HI.out.2.2.2.2.1, KSp.all_app]
          exact HP4.out.own
    · have hfin : l.take i = l := by rw [List.take_of_length_le]; rw [HN.out.1]; omega
      rw [hfin] at hrow
      have hlt3 := without_lt (l := l) (x := x)
      rw [HN.out.1] at hlt3
      obtain ⟨Ab, Cb, rfl⟩ := own_form hrow
      have HF := Lib.hid (And.intro hrow hup)
      obtain ⟨n, hn⟩ : ∃ n, (without l x).length = n := ⟨_, rfl⟩
      rw [hn] at hlt3
      rw [hn]
      have HNN := Lib.hid hn
      clear hrow hup hfin hi hn
      go_wp2_with fail
      go_ret2
      exact ⟨Ab, Cb, by rw [HNN.out]; rfl, own_base HF.out.1 HU0.out.size, HU0.out.trans HF.out.2⟩
end Go.Proofs.Ytjpjlfcjkgmhdaa
