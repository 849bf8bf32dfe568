/- gridironlaw08.SegEnds: the walk. -/
import Derived.Test.YtclbdegkfjedjaaGreatSegM
namespace Go.Proofs.YtclbdegkfjedjaaGreat
open Go.RowKit
attribute [local go_sem ↓] Go.wp_at_zero Go.wp_at_succ

/-- The three spans at the ends of all numbers, and others of names above 3. -/
def ends3 : List Sp := [⟨-9223372036854775808, 9223372036854775807, 1⟩, ⟨-9223372036854775808, -9223372036854775808, 2⟩, ⟨9223372036854775807, 9223372036854775807, 3⟩]
def allE (l : List Sp) : List Sp := ends3 ++ l.filter fun s => decide (3 < s.id)

/-- The names of those that end at a number. -/
def midE (x : Int) : List Nat := if x = -9223372036854775808 then [2] else if x = 9223372036854775807 then [3] else []

theorem stab_ends (l : List Sp) {x : Int} (hx : -9223372036854775808 ≤ x ∧ x ≤ 9223372036854775807) : ∃ R, stabL (allE l) x = 1 :: (midE x ++ R) ∧ ∀ y ∈ R, 3 < y := by
  obtain ⟨m, hm⟩ : ∃ m, ((l.filter fun s => decide (3 < s.id)).filter fun s => stabBM s.lo s.hi x).map Sp.id = m := ⟨_, rfl⟩
  have hgt : ∀ y ∈ m, 3 < y := by
    rw [← hm]
    intro y hy
    obtain ⟨s, hs, rfl⟩ := List.mem_map.1 hy
    have := (List.mem_filter.1 (List.mem_filter.1 hs).1).2
    simpa using this
  have hmid : (ends3.filter fun s => stabBM s.lo s.hi x).map Sp.id = 1 :: midE x := by
    have h1 : stabBM (-9223372036854775808) 9223372036854775807 x = true := by unfold stabBM; simp; omega
    unfold ends3 midE
    rw [List.filter_cons, List.filter_cons, List.filter_cons, List.filter_nil]
    dsimp only
    rw [if_pos h1]
    by_cases e1 : x = -9223372036854775808
    · subst e1; decide
    · by_cases e2 : x = 9223372036854775807
      · subst e2; decide
      · have h2 : ¬ stabBM (-9223372036854775808) (-9223372036854775808) x = true := by unfold stabBM; simp; omega
        have h3 : ¬ stabBM 9223372036854775807 9223372036854775807 x = true := by unfold stabBM; simp; omega
        rw [if_neg h2, if_neg h3, if_neg e1, if_neg e2]
        rfl
  refine ⟨sortN m, ?_, fun y hy => hgt y ((sortN_perm m).mem_iff.1 hy)⟩
  unfold stabL allE
  rw [List.filter_append, List.map_append, hmid, hm]
  symm
  refine sortN_eq ?_ ?_
  · exact ((sortN_perm m).append_left (midE x)).cons 1
  · have hmb : ∀ y ∈ midE x, 2 ≤ y ∧ y ≤ 3 := by
      unfold midE
      intro y hy
      split at hy
      · simp at hy; omega
      · split at hy
        · simp at hy; omega
        · simp at hy
    have hms : (midE x).Pairwise (· ≤ ·) := by
      unfold midE
      split
      · simp
      · split <;> simp
    rw [List.pairwise_cons, List.pairwise_append]
    refine ⟨fun y hy => ?_, hms, sortN_le m, fun a ha b hb => ?_⟩
    · rcases List.mem_append.1 hy with hy | hy
      · have := hmb y hy; omega
      · have := hgt y ((sortN_perm m).mem_iff.1 hy); omega
    · have h1 := hmb a ha
      have h2 := hgt b ((sortN_perm m).mem_iff.1 hb)
      omega

/-- Name k of a row of names. -/
theorem rowU_at {w : World} {base : Nat} {A : Option Addr} {n C : Nat} {L : List Nat} (h : KU.row w base (.slice A n C) L) {k : Nat} {x : Nat} (hx : L[k]? = some x) : ∃ g, A = some ⟨g, 0, none⟩ ∧ w.cell? ⟨g, k, none⟩ = some (.int .u32 (x : Int)) := by
  obtain ⟨g, C', hg, ec, -⟩ := row_at h hx
  injection hg with hg _ _
  have := ec 0 _ rfl
  exact ⟨g, hg, by simpa [KU] using this⟩

set_option maxRecDepth 100000 in
set_option maxHeartbeats 8000000 in
theorem segEnds_walk (v v2 : Value) (l : List Sp) (lx : List Int) (w : World) (h : IsSps w v l) (hid : ∀ s ∈ l, s.in64) (hl : l.length ≤ maxLen) (h2 : See KL w v2 lx) (hx64 : ∀ x ∈ lx, -9223372036854775808 ≤ x ∧ x ≤ 9223372036854775807) (hl2 : lx.length ≤ maxLen) :
    Calls Tryz.prog 6 #[v, v2] w fun e w' => e = .returned (.bool true) ∧ Upd [] w w' := by
  obtain ⟨A, C, rfl⟩ := h.form
  obtain ⟨A2, C2, rfl⟩ := h2.form
  obtain ⟨i1, hi1, hy0, hy1, hy2⟩ := info_parts infoSpanS
  obtain ⟨i0, hi0, hz0, hz1, hz2⟩ := info_parts infoLongS
  obtain ⟨N, hN⟩ : ∃ N, l.length = N := ⟨_, rfl⟩
  obtain ⟨M, hM⟩ : ∃ N, lx.length = N := ⟨_, rfl⟩
  rw [hN] at h hl ⊢
  rw [hM] at h2 hl2 ⊢
  unfold maxLen at hl hl2
  have n0 : (0 : Int) ≤ (N : Int) := Int.natCast_nonneg _
  have m0 : (0 : Int) ≤ (M : Int) := Int.natCast_nonneg _
  obtain ⟨P, hP⟩ : ∃ P : Nat, min N 40 = P := ⟨_, rfl⟩
  have hPm : Value.int .i64 (min (N : Int) 40) = Value.int .i64 (P : Int) := by
    have : min (N : Int) 40 = (P : Int) := by omega
    rw [this]
  have hPb : P ≤ N ∧ P ≤ 40 := by omega
  have hP40 := hPb.2
  have p0 : (0 : Int) ≤ (P : Int) := Int.natCast_nonneg _
  obtain ⟨A4, C4, cut, cs, -⟩ := cut_to (P := Tryz.prog) (t := 22) Tryz.underlying22 hi1 hy1 (show Sees w 3 (.slice A N C) N (KSp.all l) by have h3 := h; unfold IsSps See at h3; rw [hN] at h3; exact h3) P hPb.1
  have hsee : ∀ w', Upd [] w w' → See KSp w' (.slice A4 P C4) (l.take P) := fun w' hu => by
    have h3 := cs w' (by have h3 := h.upd0 hu; unfold See at h3; rw [hN] at h3; exact h3)
    unfold See
    rw [KSp.all_take, List.length_take, hN, Nat.min_eq_left hPb.1]
    exact h3
  have hlt : (l.take P).length = P := by rw [List.length_take, hN, Nat.min_eq_left hPb.1]
  have hidt : ∀ s ∈ l.take P, s.in64 := fun s hs => hid s (List.mem_of_mem_take hs)
  have hu0 : Upd [] w (w.alloc (.cells #[.int .i64 (-9223372036854775808), .int .i64 9223372036854775807, .int .u32 1, .int .i64 (-9223372036854775808), .int .i64 (-9223372036854775808), .int .u32 2, .int .i64 9223372036854775807, .int .i64 9223372036854775807, .int .u32 3] 32)) := (Upd.refl _ _).alloc _
  have hr0 : KSp.row (w.alloc (.cells #[.int .i64 (-9223372036854775808), .int .i64 9223372036854775807, .int .u32 1, .int .i64 (-9223372036854775808), .int .i64 (-9223372036854775808), .int .u32 2, .int .i64 9223372036854775807, .int .i64 9223372036854775807, .int .u32 3] 32)) w.heap.size (.slice (some ⟨w.heap.size, 0, none⟩) 3 3) (allE []) := by
    have := World.ownsRow_lit (e := 32) (size := 3) (base := w.heap.size) w #[.int .i64 (-9223372036854775808), .int .i64 9223372036854775807, .int .u32 1, .int .i64 (-9223372036854775808), .int .i64 (-9223372036854775808), .int .u32 2, .int .i64 9223372036854775807, .int .i64 9223372036854775807, .int .u32 3] 3 (Nat.le_refl _) (by decide) rfl
    exact this
  generalize l.take P = lt at hsee hlt hidt
  have H2 := Lib.hid h2
  have HN := Lib.hid (And.intro hN (And.intro hM (And.intro hlt (And.intro hidt hx64))))
  have HSEE := Lib.hid hsee
  have HR0 := Lib.hid hr0
  have HU0 := Lib.hid hu0
  have HAW := Lib.hid (fun w' => awake08 w')
  clear h h2 hid hN hM hlt hidt hx64 hsee cs hP hPb hr0 hu0
  go_enter Tryz.func6, Tryz.ntmps6
  go_upto_region 3 with fail
  generalize (w.alloc (.cells #[.int .i64 (-9223372036854775808), .int .i64 9223372036854775807, .int .u32 1, .int .i64 (-9223372036854775808), .int .i64 (-9223372036854775808), .int .u32 2, .int .i64 9223372036854775807, .int .i64 9223372036854775807, .int .u32 3] 32)) = W0 at HR0 HU0 ⊢
  go_wp2_with fail
  go_loopg [7, 35] P (fun m s7 s35 wr => ∃ (k : Nat) (vo : Value), m + k = P ∧ s7 = vo ∧ s35 = .int .i64 (k : Int) ∧ KSp.row wr w.heap.size vo (allE (lt.take k)) ∧ Upd [] w wr)
  case atStart => exact ⟨0, _, rfl, rfl, rfl, HR0.out, HU0.out⟩
  case round =>
    obtain ⟨k, vo, hk, rfl, rfl, hrow, hup⟩ := hrel
    have k0 : (0 : Int) ≤ (k : Int) := Int.natCast_nonneg _
    have hkP : k ≤ P := by omega
    have hwz := hup.size
    have HK := Lib.hid (And.intro hk (And.intro hrow hup))
    clear hk hrow hup
    by_cases hlt : k < P
    · obtain ⟨s, hs⟩ : ∃ s, lt[k]? = some s := ⟨_, List.getElem?_eq_getElem (by rw [HN.out.2.2.1]; exact hlt)⟩
      obtain ⟨g, o, rfl, -, -, ey⟩ := (HSEE.out wr HK.out.2.2).at hs
      have y0 : wr.cell? ⟨g, o + k * 3, none⟩ = some (.int .i64 s.lo) := ey 0 _ rfl
      have y1 : wr.cell? ⟨g, o + k * 3 + 1, none⟩ = some (.int .i64 s.hi) := ey 1 _ rfl
      have y2 : wr.cell? ⟨g, o + k * 3 + 2, none⟩ = some (.int .u32 (s.id : Int)) := ey 2 _ rfl
      have b1 : (k : Int) < (P : Int) := by omega
      have hst : allE (lt.take (k + 1)) = allE (lt.take k) ++ (if 3 < s.id then [s] else []) := by
        obtain ⟨h1, h2⟩ := List.getElem?_eq_some_iff.1 hs
        unfold allE
        rw [List.take_succ_eq_append_getElem h1, h2, List.filter_append, ← List.append_assoc, List.filter_cons, List.filter_nil]
        by_cases h3 : 3 < s.id
        · rw [if_pos h3, if_pos (by simpa using h3)]
        · rw [if_neg h3, if_neg (by simpa using h3)]
      obtain ⟨r, hr⟩ : ∃ r, (allE (lt.take k)).length = r := ⟨_, rfl⟩
      have hrb : r ≤ 100 := by
        rw [← hr]
        unfold allE
        rw [List.length_append]
        have h1 := List.length_filter_le (fun s : Sp => decide (3 < s.id)) (lt.take k)
        rw [List.length_take] at h1
        have h2 : ends3.length = 3 := rfl
        omega
      obtain ⟨L, hL⟩ : ∃ L, allE (lt.take k) = L := ⟨_, rfl⟩
      have hrow2 := HK.out.2.1
      unfold Kind.row at hrow2
      rw [hr, hL] at hrow2
      rw [hL] at hst hr
      have HX := Lib.hid (And.intro hst (And.intro hr (And.intro hrow2 hL)))
      clear hs ey hst hr hrow2 hL
      obtain ⟨wl, hwl⟩ : ∃ wl : World, wl = wr := ⟨_, rfl⟩
      subst hwl
      go_upto_region 6 with fail
      have hu2 : Upd [] wl (wl.alloc (.cells #[.int .i64 s.lo, .int .i64 s.hi, .int .u32 (s.id : Int)] 32)) := (Upd.refl _ _).alloc _
      have d0 : (wl.alloc (.cells #[.int .i64 s.lo, .int .i64 s.hi, .int .u32 (s.id : Int)] 32)).cell? ⟨wl.heap.size, 0, none⟩ = some (.int .i64 s.lo) := by rw [World.cell?_alloc_at _ _ _ _ rfl]; rfl
      have d1 : (wl.alloc (.cells #[.int .i64 s.lo, .int .i64 s.hi, .int .u32 (s.id : Int)] 32)).cell? ⟨wl.heap.size, 1, none⟩ = some (.int .i64 s.hi) := by rw [World.cell?_alloc_at _ _ _ _ rfl]; rfl
      have d2 : (wl.alloc (.cells #[.int .i64 s.lo, .int .i64 s.hi, .int .u32 (s.id : Int)] 32)).cell? ⟨wl.heap.size, 2, none⟩ = some (.int .u32 (s.id : Int)) := by rw [World.cell?_alloc_at _ _ _ _ rfl]; rfl
      generalize (wl.alloc (.cells #[.int .i64 s.lo, .int .i64 s.hi, .int .u32 (s.id : Int)] 32)) = W2 at hu2 d0 d1 d2 ⊢
      have HU2 := Lib.hid hu2
      have hw2 : w.heap.size ≤ W2.heap.size := Nat.le_trans hwz hu2.size
      clear hu2 y0 y1 y2
      by_cases h3 : 3 < s.id
      · have hg : decide ((3 : Int) < (s.id : Int)) = true := decide_eq_true (by omega)
        have H3 := Lib.hid h3
        clear h3
        go_wp2_with (at_builtin; refine wpList_app _ rfl _ _ 22 rfl w.heap.size 32 i1 (.agg #[.int .i64 0, .int .i64 0, .int .u32 0]) 3 24 Tryz.underlying22 hi1 hy0 hy1 hy2 rfl (by decide) _ r (KSp.all L) rfl (own_upd HX.out.2.2.1 (HU2.out.alloc _) (by simp)) _ 1 (KSp.enc s) rfl (sees_lit W2 #[.int .i64 s.lo, .int .i64 s.hi, .int .u32 (s.id : Int)] 32 3 1 rfl (by decide)) (KSp.one s) (by unfold maxLen; omega) (by omega) (by simp; omega) ?_)
        intro A5 C5 W3 HP3
        have HP4 := Lib.hid HP3
        clear HP3 d0 d1 d2
        go_wp2_with fail
        go_roundg (P - (k + 1))
        case measure => have := HK.out.1; omega
        case rel =>
          have hu3 := ((Upd.refl _ W2).alloc (.cells #[.int .i64 s.lo, .int .i64 s.hi, .int .u32 (s.id : Int)] 32)).trans HP4.out.upd
          refine ⟨k + 1, .slice A5 (r + 1) C5, by have := HK.out.1; omega, rfl, by go_num, ?_, (HK.out.2.2.trans HU2.out).trans' hu3 (fun y hy => .inr (own_ge HX.out.2.2.1 y hy))⟩
          rw [HX.out.1, if_pos H3.out]
          unfold Kind.row
          rw [List.length_append, HX.out.2.1, KSp.all_app]
          exact HP4.out.own
      · have hg : decide ((3 : Int) < (s.id : Int)) = false := decide_eq_false (by omega)
        have H3 := Lib.hid h3
        clear h3
        go_wp2_with fail
        go_roundg (P - (k + 1))
        case measure => have := HK.out.1; omega
        case rel =>
          refine ⟨k + 1, _, by have := HK.out.1; omega, rfl, by go_num, ?_, HK.out.2.2.trans HU2.out⟩
          rw [HX.out.1, if_neg H3.out, List.append_nil, ← HX.out.2.2.2]
          exact own_upd HK.out.2.1 HU2.out (by simp)
    · have hkP2 : k = P := by omega
      have hall : lt.take k = lt := by rw [hkP2, ← HN.out.2.2.1]; exact List.take_length
      have hrow := HK.out.2.1
      rw [hall] at hrow
      obtain ⟨Ab, Cb, rfl⟩ := own_form hrow
      have hal : (allE lt).length ≤ 100 := by
        unfold allE
        rw [List.length_append]
        have h1 := List.length_filter_le (fun s : Sp => decide (3 < s.id)) lt
        have h2 : ends3.length = 3 := rfl
        have h3 := HN.out.2.2.1
        omega
      have hai : ∀ s ∈ allE lt, s.id < 4294967296 := by
        intro s hs
        rcases List.mem_append.1 hs with hs | hs
        · have : ∀ s ∈ ends3, s.id < 4294967296 := by decide
          exact this s hs
        · exact (HN.out.2.2.2.1 s (List.mem_filter.1 hs).1).2.2
      have hends := fun x hx => stab_ends lt (x := x) hx
      generalize allE lt = S at hrow hal hai hends
      have hbd := segBuild _ S wr (See.of_row hrow) hai (by omega)
      obtain ⟨nl, hnl⟩ : ∃ n, S.length = n := ⟨_, rfl⟩
      rw [hnl] at hbd ⊢
      have HBD := Lib.hid hbd
      have HEN := Lib.hid hends
      have HSL := Lib.hid hal
      clear hrow hbd hnl hal hai hends hall hkP2
      go_wp2_with fail
      (with_reducible refine HBD.out.mono ?_)
      rintro e w1 ⟨u1, (⟨hr, rfl⟩ | ⟨hr, b, F, rfl, hs, hF⟩)⟩
      · have HAW1 := Lib.hid (HAW.out w1)
        have HU1 := Lib.hid (HK.out.2.2.trans u1)
        clear hr u1
        go_wp2_with fail
        (with_reducible refine HAW1.out.mono ?_)
        rintro e w2 ⟨rfl, u2⟩
        have HU2 := Lib.hid (HU1.out.trans u2)
        clear u2
        go_wp2_with fail
        go_ret
        exact ⟨rfl, HU2.out⟩
      · have HS := Lib.hid hs
        have HU1 := Lib.hid (HK.out.2.2.trans u1)
        clear hr u1 hs hF
        obtain ⟨Q, hQ⟩ : ∃ Q : Nat, min M 10 = Q := ⟨_, rfl⟩
        have hQm : Value.int .i64 (min (M : Int) 10) = Value.int .i64 (Q : Int) := by
          have : min (M : Int) 10 = (Q : Int) := by omega
          rw [this]
        have hQb : Q ≤ M ∧ Q ≤ 10 := by omega
        obtain ⟨A6, C6, cut6, cs6, -⟩ := cut_to (P := Tryz.prog) (t := 23) Tryz.underlying23 hi0 hz1 (show Sees w 1 (.slice A2 M C2) M (KL.all lx) by have h3 := H2.out; unfold See at h3; rw [HN.out.2.1] at h3; exact h3) Q hQb.1
        have hsee6 : ∀ w', Upd [] w w' → Sees w' 1 (.slice A6 Q C6) Q (KL.all (lx.take Q)) := fun w' hu => by
          have h3 := cs6 w' (by have h3 := H2.out.upd0 hu; unfold See at h3; rw [HN.out.2.1] at h3; exact h3)
          rw [KL.all_take]
          exact h3
        have hQl : (lx.take Q).length = Q := by rw [List.length_take, HN.out.2.1, Nat.min_eq_left hQb.1]
        have hq64 : ∀ x ∈ lx.take Q, -9223372036854775808 ≤ x ∧ x ≤ 9223372036854775807 := fun x hx => HN.out.2.2.2.2 x (List.mem_of_mem_take hx)
        have HSEE6 := Lib.hid (And.intro hsee6 (And.intro hQl hq64))
        have hQ10 := hQb.2
        have hr6 : (w1.alloc (.cells #[.int .i64 (-9223372036854775808), .int .i64 9223372036854775807] 2)).ownsRow w1.heap.size 2 1 (.slice (some ⟨w1.heap.size, 0, none⟩) 2 2) 2 (KL.all [-9223372036854775808, 9223372036854775807]) := World.ownsRow_lit (e := 2) (size := 1) (base := w1.heap.size) w1 #[.int .i64 (-9223372036854775808), .int .i64 9223372036854775807] 2 (Nat.le_refl _) (by decide) rfl
        have HR6 := Lib.hid hr6
        clear cs6 hsee6 hQl hq64 hQ hQb hr6
        go_wp2_with (at_builtin; refine wpList_app _ rfl _ _ 23 rfl w1.heap.size 2 i0 (.int .i64 0) 1 8 Tryz.underlying23 hi0 hz0 hz1 hz2 rfl (by decide) _ 2 (KL.all [-9223372036854775808, 9223372036854775807]) rfl HR6.out _ Q (KL.all (lx.take Q)) rfl (HSEE6.out.1 _ (HU1.out.alloc _)) (KL.all_one _) (by unfold maxLen; omega) (by omega) (by simp) ?_)
        intro A7 C7 W7 HP7
        obtain ⟨T, hT⟩ : ∃ T, 2 + Q = T := ⟨_, rfl⟩
        have hrow7 : KL.row W7 w1.heap.size (.slice A7 T C7) ([-9223372036854775808, 9223372036854775807] ++ lx.take Q) := by
          have := HP7.own
          rw [hT] at this
          unfold Kind.row
          rw [List.length_append, HSEE6.out.2.1, show [-9223372036854775808, (9223372036854775807 : Int)].length + Q = T from hT, KL.all_app]
          exact this
        have hl7 : ([-9223372036854775808, 9223372036854775807] ++ lx.take Q).length = T := by rw [List.length_append, HSEE6.out.2.1]; exact hT
        have hx7 : ∀ x ∈ ([-9223372036854775808, 9223372036854775807] ++ lx.take Q), -9223372036854775808 ≤ x ∧ x ≤ 9223372036854775807 := by
          intro x hx
          rcases List.mem_append.1 hx with hx | hx
          · simp at hx; omega
          · exact HSEE6.out.2.2 x hx
        have hu7 : Upd [] w1 W7 := ((Upd.refl [] w1).alloc _).trans' HP7.upd (fun y hy => .inr (by simp [blk] at hy; omega))
        rw [hT]
        have hTb : T ≤ 12 := by omega
        generalize [-9223372036854775808, (9223372036854775807 : Int)] ++ lx.take Q = X at hrow7 hl7 hx7
        have H7 := Lib.hid (And.intro hrow7 (And.intro hl7 hx7))
        have HU7 := Lib.hid hu7
        clear HP7 hrow7 hl7 hx7 hu7 hT
        go_wp2_with fail
        go_loopg [65] T (fun m s65 wr => ∃ k : Nat, m + k = T ∧ s65 = .int .i64 (k : Int) ∧ Upd [] W7 wr)
        case atStart => exact ⟨0, rfl, rfl, Upd.refl _ _⟩
        case round =>
          obtain ⟨k, hk, rfl, hup⟩ := hrel
          have k0 : (0 : Int) ≤ (k : Int) := Int.natCast_nonneg _
          have hkT : k ≤ T := by omega
          have HK2 := Lib.hid (And.intro hk hup)
          clear hk hup
          by_cases hlt2 : k < T
          · obtain ⟨x, hx⟩ : ∃ x, X[k]? = some x := ⟨_, List.getElem?_eq_getElem (by rw [H7.out.2.1]; exact hlt2)⟩
            have hx64 := H7.out.2.2 x (List.mem_of_getElem? hx)
            obtain ⟨g7, rfl, ex⟩ := rowL_at (own_upd H7.out.1 HK2.out.2 (by simp)) hx
            have b2 : (k : Int) < (T : Int) := by omega
            have hst := isStab ((HS.out.upd0 HU7.out).upd0 HK2.out.2) x
            have hsl := stabL_len S x
            have hS1 := HSL.out
            by_cases e1 : x = -9223372036854775808
            · have e2 : x ≠ 9223372036854775807 := by omega
              have hb1 : ((x : Int) == -9223372036854775808) = true := by simp; omega
              have hb2 : ((x : Int) == 9223372036854775807) = false := by simp; omega
              have hmid : midE x = [2] := by unfold midE; rw [if_pos e1]
              obtain ⟨R, hLR, hR⟩ := HEN.out x hx64
              rw [hmid] at hLR
              rw [hLR] at hst hsl
              obtain ⟨nr, hnr⟩ : ∃ n, R.length = n := ⟨_, rfl⟩
              have hnl : (1 :: ([2] ++ R)).length = nr + 2 := by rw [← hnr]; simp
              rw [hnl] at hst hsl
              obtain ⟨L, hL⟩ : ∃ L, (1 :: ([2] ++ R)) = L := ⟨_, rfl⟩
              rw [hL] at hst hnl
              have HST := Lib.hid hst
              have HL := Lib.hid (And.intro hL (And.intro hnl (And.intro hR hnr)))
              have r0 : (0 : Int) ≤ (nr : Int) := Int.natCast_nonneg _
              have hz : ((nr : Int) + 2 == 0) = false := by simp; omega
              have hz2 : decide ((nr : Int) + 2 < 2) = false := decide_eq_false (by omega)
              clear hst hL hnl hR hnr hLR hmid hx64 hx e1 e2
              go_wp2_with fail
              (with_reducible refine HST.out.mono ?_)
              rintro e w5 ⟨A5, C5, rfl, r1, r2⟩
              rw [HL.out.2.1] at r1 ⊢
              have HR := Lib.hid (And.intro r1 r2)
              obtain ⟨gn, rfl, c0⟩ := rowU_at r1 (k := 0) (x := 1) (by rw [← HL.out.1]; rfl)
              obtain ⟨gn2, hg2, c1⟩ := rowU_at r1 (k := 1) (x := 2) (by rw [← HL.out.1]; rfl)
              injection hg2 with hg2
              injection hg2 with hg2 _ _
              subst hg2
              have hsee5 : Sees w5 1 (.slice (some ⟨gn, 0, none⟩) (nr + 2) C5) (nr + 2) (KU.all L) := by
                have := See.of_row r1
                unfold See at this
                rw [HL.out.2.1] at this
                exact this
              obtain ⟨i3, hi3, hv0, hv1, hv2⟩ := info_parts infoU32S
              obtain ⟨A8, C8, cut8, cs8, -⟩ := cut_from (P := Tryz.prog) (t := 35) Tryz.underlying35 hi3 hv1 hsee5 2 (by omega)
              rw [show nr + 2 - 2 = nr by omega] at cut8 cs8
              have cut8' : ∀ w', (Instr.slice 35 (.slice (some ⟨gn, 0, none⟩) (nr + 2) C5) (some (.int .i64 2)) none none).run Tryz.prog w' = .ok (.slice A8 nr C8) w' := cut8
              have hse8 : See KU w5 (.slice A8 nr C8) R := by
                have h3 := cs8 w5 hsee5
                unfold See
                have h4 : (KU.all L).drop (2 * 1) = KU.all R := by rw [← (show KU.all (L.drop 2) = (KU.all L).drop (2 * 1) from KU.all_drop L 2), ← HL.out.1]; rfl
                rw [h4] at h3
                rw [HL.out.2.2.2]
                exact h3
              have HSE8 := Lib.hid hse8
              clear r1 r2 hsee5 cs8 cut8 hse8
              go_wp2_with fail
              go_loopg [116] nr (fun m s116 wr => ∃ j : Nat, m + j = nr ∧ s116 = .int .i64 (j : Int) ∧ wr = w5)
              case atStart => exact ⟨0, rfl, rfl, rfl⟩
              case round =>
                obtain ⟨j, hj, rfl, rfl⟩ := hrel
                have j0 : (0 : Int) ≤ (j : Int) := Int.natCast_nonneg _
                have hjn : j ≤ nr := by omega
                have HJ := Lib.hid hj
                clear hj
                by_cases hlt3 : j < nr
                · obtain ⟨y, hy⟩ : ∃ y, R[j]? = some y := ⟨_, List.getElem?_eq_getElem (by rw [HL.out.2.2.2]; exact hlt3)⟩
                  have hy3 := HL.out.2.2.1 y (List.mem_of_getElem? hy)
                  obtain ⟨g8, o8, rfl, -, -, ey⟩ := KU.atS HSE8.out hy
                  have hle : decide ((y : Int) ≤ 3) = false := decide_eq_false (by omega)
                  have j1 : (j : Int) < (nr : Int) := by omega
                  clear hy hy3
                  go_wp2_with fail
                  go_roundg (nr - (j + 1))
                  case measure => have := HJ.out; omega
                  case rel => exact ⟨j + 1, by have := HJ.out; omega, by go_num, rfl⟩
                · go_wp2_with fail
                  go_roundg (T - (k + 1))
                  case measure => have := HK2.out.1; omega
                  case rel => exact ⟨k + 1, by have := HK2.out.1; omega, by go_num, HK2.out.2.trans HR.out.2⟩
            · by_cases e2 : x = 9223372036854775807
              · skip
                have hb1 : ((x : Int) == -9223372036854775808) = false := by simp; omega
                have hb2 : ((x : Int) == 9223372036854775807) = true := by simp; omega
                have hmid : midE x = [3] := by unfold midE; rw [if_neg e1, if_pos e2]
                obtain ⟨R, hLR, hR⟩ := HEN.out x hx64
                rw [hmid] at hLR
                rw [hLR] at hst hsl
                obtain ⟨nr, hnr⟩ : ∃ n, R.length = n := ⟨_, rfl⟩
                have hnl : (1 :: ([3] ++ R)).length = nr + 2 := by rw [← hnr]; simp
                rw [hnl] at hst hsl
                obtain ⟨L, hL⟩ : ∃ L, (1 :: ([3] ++ R)) = L := ⟨_, rfl⟩
                rw [hL] at hst hnl
                have HST := Lib.hid hst
                have HL := Lib.hid (And.intro hL (And.intro hnl (And.intro hR hnr)))
                have r0 : (0 : Int) ≤ (nr : Int) := Int.natCast_nonneg _
                have hz : ((nr : Int) + 2 == 0) = false := by simp; omega
                have hz2 : decide ((nr : Int) + 2 < 2) = false := decide_eq_false (by omega)
                clear hst hL hnl hR hnr hLR hmid hx64 hx e1 e2
                go_wp2_with fail
                (with_reducible refine HST.out.mono ?_)
                rintro e w5 ⟨A5, C5, rfl, r1, r2⟩
                rw [HL.out.2.1] at r1 ⊢
                have HR := Lib.hid (And.intro r1 r2)
                obtain ⟨gn, rfl, c0⟩ := rowU_at r1 (k := 0) (x := 1) (by rw [← HL.out.1]; rfl)
                obtain ⟨gn2, hg2, c1⟩ := rowU_at r1 (k := 1) (x := 3) (by rw [← HL.out.1]; rfl)
                injection hg2 with hg2
                injection hg2 with hg2 _ _
                subst hg2
                have hsee5 : Sees w5 1 (.slice (some ⟨gn, 0, none⟩) (nr + 2) C5) (nr + 2) (KU.all L) := by
                  have := See.of_row r1
                  unfold See at this
                  rw [HL.out.2.1] at this
                  exact this
                obtain ⟨i3, hi3, hv0, hv1, hv2⟩ := info_parts infoU32S
                obtain ⟨A8, C8, cut8, cs8, -⟩ := cut_from (P := Tryz.prog) (t := 35) Tryz.underlying35 hi3 hv1 hsee5 2 (by omega)
                rw [show nr + 2 - 2 = nr by omega] at cut8 cs8
                have cut8' : ∀ w', (Instr.slice 35 (.slice (some ⟨gn, 0, none⟩) (nr + 2) C5) (some (.int .i64 2)) none none).run Tryz.prog w' = .ok (.slice A8 nr C8) w' := cut8
                have hse8 : See KU w5 (.slice A8 nr C8) R := by
                  have h3 := cs8 w5 hsee5
                  unfold See
                  have h4 : (KU.all L).drop (2 * 1) = KU.all R := by rw [← (show KU.all (L.drop 2) = (KU.all L).drop (2 * 1) from KU.all_drop L 2), ← HL.out.1]; rfl
                  rw [h4] at h3
                  rw [HL.out.2.2.2]
                  exact h3
                have HSE8 := Lib.hid hse8
                clear r1 r2 hsee5 cs8 cut8 hse8
                go_wp2_with fail
                go_loopg [116] nr (fun m s116 wr => ∃ j : Nat, m + j = nr ∧ s116 = .int .i64 (j : Int) ∧ wr = w5)
                case atStart => exact ⟨0, rfl, rfl, rfl⟩
                case round =>
                  obtain ⟨j, hj, rfl, rfl⟩ := hrel
                  have j0 : (0 : Int) ≤ (j : Int) := Int.natCast_nonneg _
                  have hjn : j ≤ nr := by omega
                  have HJ := Lib.hid hj
                  clear hj
                  by_cases hlt3 : j < nr
                  · obtain ⟨y, hy⟩ : ∃ y, R[j]? = some y := ⟨_, List.getElem?_eq_getElem (by rw [HL.out.2.2.2]; exact hlt3)⟩
                    have hy3 := HL.out.2.2.1 y (List.mem_of_getElem? hy)
                    obtain ⟨g8, o8, rfl, -, -, ey⟩ := KU.atS HSE8.out hy
                    have hle : decide ((y : Int) ≤ 3) = false := decide_eq_false (by omega)
                    have j1 : (j : Int) < (nr : Int) := by omega
                    clear hy hy3
                    go_wp2_with fail
                    go_roundg (nr - (j + 1))
                    case measure => have := HJ.out; omega
                    case rel => exact ⟨j + 1, by have := HJ.out; omega, by go_num, rfl⟩
                  · go_wp2_with fail
                    go_roundg (T - (k + 1))
                    case measure => have := HK2.out.1; omega
                    case rel => exact ⟨k + 1, by have := HK2.out.1; omega, by go_num, HK2.out.2.trans HR.out.2⟩
              · skip
                have hb1 : ((x : Int) == -9223372036854775808) = false := by simp; omega
                have hb2 : ((x : Int) == 9223372036854775807) = false := by simp; omega
                have hmid : midE x = ([] : List Nat) := by unfold midE; rw [if_neg e1, if_neg e2]
                obtain ⟨R, hLR, hR⟩ := HEN.out x hx64
                rw [hmid] at hLR
                rw [hLR] at hst hsl
                obtain ⟨nr, hnr⟩ : ∃ n, R.length = n := ⟨_, rfl⟩
                have hnl : (1 :: (([] : List Nat) ++ R)).length = nr + 1 := by rw [← hnr]; simp
                rw [hnl] at hst hsl
                obtain ⟨L, hL⟩ : ∃ L, (1 :: (([] : List Nat) ++ R)) = L := ⟨_, rfl⟩
                rw [hL] at hst hnl
                have HST := Lib.hid hst
                have HL := Lib.hid (And.intro hL (And.intro hnl (And.intro hR hnr)))
                have r0 : (0 : Int) ≤ (nr : Int) := Int.natCast_nonneg _
                have hz : ((nr : Int) + 1 == 0) = false := by simp; omega
                clear hst hL hnl hR hnr hLR hmid hx64 hx e1 e2
                go_wp2_with fail
                (with_reducible refine HST.out.mono ?_)
                rintro e w5 ⟨A5, C5, rfl, r1, r2⟩
                rw [HL.out.2.1] at r1 ⊢
                have HR := Lib.hid (And.intro r1 r2)
                obtain ⟨gn, rfl, c0⟩ := rowU_at r1 (k := 0) (x := 1) (by rw [← HL.out.1]; rfl)
                have hsee5 : Sees w5 1 (.slice (some ⟨gn, 0, none⟩) (nr + 1) C5) (nr + 1) (KU.all L) := by
                  have := See.of_row r1
                  unfold See at this
                  rw [HL.out.2.1] at this
                  exact this
                obtain ⟨i3, hi3, hv0, hv1, hv2⟩ := info_parts infoU32S
                obtain ⟨A8, C8, cut8, cs8, -⟩ := cut_from (P := Tryz.prog) (t := 35) Tryz.underlying35 hi3 hv1 hsee5 1 (by omega)
                rw [show nr + 1 - 1 = nr by omega] at cut8 cs8
                have cut8' : ∀ w', (Instr.slice 35 (.slice (some ⟨gn, 0, none⟩) (nr + 1) C5) (some (.int .i64 1)) none none).run Tryz.prog w' = .ok (.slice A8 nr C8) w' := cut8
                have hse8 : See KU w5 (.slice A8 nr C8) R := by
                  have h3 := cs8 w5 hsee5
                  unfold See
                  have h4 : (KU.all L).drop (1 * 1) = KU.all R := by rw [← (show KU.all (L.drop 1) = (KU.all L).drop (1 * 1) from KU.all_drop L 1), ← HL.out.1]; rfl
                  rw [h4] at h3
                  rw [HL.out.2.2.2]
                  exact h3
                have HSE8 := Lib.hid hse8
                clear r1 r2 hsee5 cs8 cut8 hse8
                go_wp2_with fail
                go_loopg [116] nr (fun m s116 wr => ∃ j : Nat, m + j = nr ∧ s116 = .int .i64 (j : Int) ∧ wr = w5)
                case atStart => exact ⟨0, rfl, rfl, rfl⟩
                case round =>
                  obtain ⟨j, hj, rfl, rfl⟩ := hrel
                  have j0 : (0 : Int) ≤ (j : Int) := Int.natCast_nonneg _
                  have hjn : j ≤ nr := by omega
                  have HJ := Lib.hid hj
                  clear hj
                  by_cases hlt3 : j < nr
                  · obtain ⟨y, hy⟩ : ∃ y, R[j]? = some y := ⟨_, List.getElem?_eq_getElem (by rw [HL.out.2.2.2]; exact hlt3)⟩
                    have hy3 := HL.out.2.2.1 y (List.mem_of_getElem? hy)
                    obtain ⟨g8, o8, rfl, -, -, ey⟩ := KU.atS HSE8.out hy
                    have hle : decide ((y : Int) ≤ 3) = false := decide_eq_false (by omega)
                    have j1 : (j : Int) < (nr : Int) := by omega
                    clear hy hy3
                    go_wp2_with fail
                    go_roundg (nr - (j + 1))
                    case measure => have := HJ.out; omega
                    case rel => exact ⟨j + 1, by have := HJ.out; omega, by go_num, rfl⟩
                  · go_wp2_with fail
                    go_roundg (T - (k + 1))
                    case measure => have := HK2.out.1; omega
                    case rel => exact ⟨k + 1, by have := HK2.out.1; omega, by go_num, HK2.out.2.trans HR.out.2⟩
          · have HAW2 := Lib.hid (HAW.out wr)
            go_wp2_with fail
            (with_reducible refine HAW2.out.mono ?_)
            rintro e w5 ⟨rfl, u5⟩
            have HU5 := Lib.hid (((HU1.out.trans HU7.out).trans HK2.out.2).trans u5)
            clear u5
            go_wp2_with fail
            go_ret
            exact ⟨rfl, HU5.out⟩
end Go.Proofs.YtclbdegkfjedjaaGreat
