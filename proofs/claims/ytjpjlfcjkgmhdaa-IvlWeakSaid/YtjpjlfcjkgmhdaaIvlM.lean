/- ivl's Len, Stab, Meet. -/
import Derived.Test.YtjpjlfcjkgmhdaaIvlQ
namespace Go.Proofs.Ytjpjlfcjkgmhdaa
open Go.RowKit

set_option maxRecDepth 100000 in
set_option maxHeartbeats 400000 in
theorem ivlLenNil (w : World) : Calls Try.prog 15 #[.pointer none] w fun e w' => e = .returned (.int .i64 0) ∧ w = w' := by
  go_enter Try.func15, Try.ntmps15
  go_wp2_with fail
  go_ret
  exact ⟨rfl, rfl⟩

set_option maxRecDepth 100000 in
set_option maxHeartbeats 400000 in
theorem ivlLen {w : World} {b : Nat} {p vr : Value} {R : List Sp} {T : Kn} {Fk : List Nat} (h : IvlAt w b p vr R T Fk) :
    Calls Try.prog 15 #[.pointer (some ⟨b, 0, none⟩)] w fun e w' => e = .returned (.int .i64 (R.length : Int)) ∧ w = w' := by
  have c2 := h.cells.2.2.1
  obtain ⟨A, C, rfl⟩ := own_form h.row
  clear h
  go_enter Try.func15, Try.ntmps15
  go_wp2_with fail
  go_ret
  exact ⟨rfl, rfl⟩

set_option maxRecDepth 100000 in
set_option maxHeartbeats 400000 in
theorem ivlStabNil (x : Int) (w : World) : Calls Try.prog 12 #[.pointer none, .int .i64 x] w (StabPost w [] 0) := by
  go_enter Try.func12, Try.ntmps12
  go_wp2_with fail
  go_ret2
  exact ⟨none, 0, rfl, World.ownsRow_nil _ _ _ _, Upd.refl _ _⟩

set_option maxRecDepth 100000 in
set_option maxHeartbeats 400000 in
theorem ivlMeetNil (x y : Int) (w : World) : Calls Try.prog 11 #[.pointer none, .int .i64 x, .int .i64 y] w (StabPost w [] 0) := by
  go_enter Try.func11, Try.ntmps11
  go_wp2_with fail
  go_ret2
  exact ⟨none, 0, rfl, World.ownsRow_nil _ _ _ _, Upd.refl _ _⟩

set_option maxRecDepth 100000 in
set_option maxHeartbeats 2000000 in
theorem ivlStab {w : World} {b : Nat} {p vr : Value} {R : List Sp} {T : Kn} {Fk : List Nat} (h : IvlAt w b p vr R T Fk) (x : Int) (hsml : T.small) (hT : T.touch x < 1000000) (hL : (T.stab x).length < 1000000) :
    Calls Try.prog 12 #[.pointer (some ⟨b, 0, none⟩), .int .i64 x] w (StabPost w (sortN (idsK (T.stab x))) (T.touch x)) := by
  have c0 := h.cells.1
  have HS := Lib.hid (stabKC h x hsml hT hL)
  have hlen : (idsK (T.stab x)).length < 1000000 := by rw [idsK_len]; exact hL
  obtain ⟨L, hLL⟩ : ∃ L, idsK (T.stab x) = L := ⟨_, rfl⟩
  rw [hLL] at HS hlen ⊢
  have HL := Lib.hid hlen
  clear h hsml hT hL hLL hlen
  go_enter Try.func12, Try.ntmps12
  go_wp2_with fail
  (with_reducible refine HS.out.mono ?_)
  rintro e w1 ⟨A, C, rfl, r1, u1⟩
  have HSO := Lib.hid (sortU w.heap.size _ L w1 r1 HL.out)
  have HU := Lib.hid (And.intro r1 u1)
  clear r1 u1
  go_wp2_with fail
  (with_reducible refine HSO.out.mono ?_)
  rintro e w3 ⟨rfl, t1, t2⟩
  have HT := Lib.hid (And.intro t1 t2)
  clear t1 t2
  go_wp2_with fail
  go_ret2
  refine ⟨A, C, ?_, ?_, HU.out.2.trans' HT.out.2 (fun y hy => .inr (own_ge HU.out.1 y hy))⟩
  · rw [sortN_len]; rfl
  · rw [sortN_len]; exact HT.out.1

/-- The names of the spans that meet some numbers, rising. -/
def meetL (S : List Sp) (lo hi : Int) : List Nat := if hi < lo then [] else sortN ((S.filter fun s => decide (lo ≤ s.hi) && decide (s.lo ≤ hi)).map Sp.id)

theorem meetL_len (S : List Sp) (lo hi : Int) : (meetL S lo hi).length ≤ S.length := by
  unfold meetL
  split
  · simp
  · rw [sortN_len, List.length_map]
    exact List.length_filter_le _ _

theorem meetL_perm {l m : List Sp} (h : l.Perm m) (lo hi : Int) : meetL l lo hi = meetL m lo hi := by
  unfold meetL
  split
  · rfl
  · exact sortN_congr ((h.filter _).map Sp.id)

theorem bhd_mono (R : List Sp) {x y : Int} (h : x ≤ y) : bhd R x ≤ bhd R y := by
  unfold bhd
  have : (R.filter fun s => decide (s.lo ≤ x)) = (R.filter fun s => decide (s.lo ≤ y)).filter fun s => decide (s.lo ≤ x) := by
    rw [List.filter_filter]
    refine List.filter_congr fun s _ => ?_
    by_cases h1 : s.lo ≤ x
    · have h2 : s.lo ≤ y := by omega
      simp [h1, h2]
    · simp [h1]
  rw [this]
  exact List.length_filter_le _ _

theorem bhd_take {R : List Sp} (h : R.Pairwise fun a b => a.lo ≤ b.lo) (x : Int) : R.take (bhd R x) = R.filter (fun s => decide (s.lo ≤ x)) := by
  unfold bhd
  induction R with
  | nil => rfl
  | cons a R ih =>
    rw [List.pairwise_cons] at h
    by_cases hx : a.lo ≤ x
    · rw [List.filter_cons_of_pos (by simpa using hx), List.length_cons, List.take_succ_cons, ih h.2]
    · have : R.filter (fun s => decide (s.lo ≤ x)) = [] := by
        rw [List.filter_eq_nil_iff]
        intro s hs hc
        have := h.1 s hs
        simp at hc
        omega
      rw [List.filter_cons_of_neg (by simpa using hx), this]
      rfl

theorem bhd_drop {R : List Sp} (h : R.Pairwise fun a b => a.lo ≤ b.lo) (x : Int) : R.drop (bhd R x) = R.filter (fun s => decide (x < s.lo)) := by
  unfold bhd
  induction R with
  | nil => rfl
  | cons a R ih =>
    rw [List.pairwise_cons] at h
    by_cases hx : a.lo ≤ x
    · rw [List.filter_cons_of_pos (by simpa using hx), List.length_cons, List.drop_succ_cons, ih h.2, List.filter_cons_of_neg (by simpa using hx)]
    · have h1 : R.filter (fun s => decide (s.lo ≤ x)) = [] := by
        rw [List.filter_eq_nil_iff]
        intro s hs hc
        have := h.1 s hs
        simp at hc
        omega
      have h2 : (a :: R).filter (fun s => decide (x < s.lo)) = a :: R := by
        rw [List.filter_eq_self]
        intro s hs
        simp only [decide_eq_true_eq]
        rcases List.mem_cons.1 hs with rfl | hs
        · omega
        · have := h.1 s hs; omega
      rw [List.filter_cons_of_neg (by simpa using hx), h1, h2]
      rfl

/-- The part of the row that Meet reads. -/
def partM (R : List Sp) (lo hi : Int) : List Sp := (R.drop (bhd R lo)).take (bhd R hi - bhd R lo)

theorem partM_eq {R : List Sp} (h : R.Pairwise fun a b => a.lo ≤ b.lo) {lo hi : Int} (hl : lo ≤ hi) : partM R lo hi = R.filter fun s => decide (lo < s.lo) && decide (s.lo ≤ hi) := by
  unfold partM
  rw [← List.drop_take, bhd_take h]
  have h2 : bhd R lo = bhd (R.filter fun s => decide (s.lo ≤ hi)) lo := by
    unfold bhd
    rw [List.filter_filter]
    congr 1
    refine List.filter_congr fun s _ => ?_
    by_cases h1 : s.lo ≤ lo
    · have h2 : s.lo ≤ hi := by omega
      simp [h1, h2]
    · simp [h1]
  rw [h2, bhd_drop (h.filter _), List.filter_filter]

theorem partM_len (R : List Sp) (lo hi : Int) : (partM R lo hi).length = bhd R hi - bhd R lo := by
  unfold partM
  have := bhd_le R hi
  rw [List.length_take, List.length_drop]
  omega

theorem meet_perm {R : List Sp} {T : Kn} {lo hi : Int} (ht : T.ok R) (hr : ∀ s ∈ R, s.lo ≤ s.hi) (h : R.Pairwise fun a b => a.lo ≤ b.lo) (hl : lo ≤ hi) :
    (T.stab lo ++ partM R lo hi).Perm (R.filter fun s => decide (lo ≤ s.hi) && decide (s.lo ≤ hi)) := by
  rw [partM_eq h hl]
  have h1 := stab_perm (x := lo) ht hr
  refine (h1.append_right _).trans ?_
  have e1 : (R.filter fun s => stabBM s.lo s.hi lo) = (R.filter fun s => decide (lo ≤ s.hi) && decide (s.lo ≤ hi)).filter fun s => decide (s.lo ≤ lo) := by
    rw [List.filter_filter]
    refine List.filter_congr fun s hs => ?_
    unfold stabBM
    by_cases c : s.lo ≤ lo
    · have c2 : s.lo ≤ hi := by omega
      simp [c, c2]
    · simp [c]
  have e2 : (R.filter fun s => decide (lo < s.lo) && decide (s.lo ≤ hi)) = (R.filter fun s => decide (lo ≤ s.hi) && decide (s.lo ≤ hi)).filter fun s => !decide (s.lo ≤ lo) := by
    rw [List.filter_filter]
    refine List.filter_congr fun s hs => ?_
    by_cases c : s.lo ≤ lo
    · have c2 : ¬ lo < s.lo := by omega
      simp [c, c2]
    · have c2 : lo < s.lo := by omega
      have c3 : lo ≤ s.hi := by have := hr s hs; omega
      simp [c2, c3, c]
  rw [e1, e2]
  exact List.filter_append_perm _ _

set_option maxRecDepth 100000 in
set_option maxHeartbeats 4000000 in
theorem ivlMeetOut {w : World} {b : Nat} {p vr : Value} {R : List Sp} {T : Kn} {Fk : List Nat} (h : IvlAt w b p vr R T Fk) (lo hi : Int) (hl : hi < lo) :
    Calls Try.prog 11 #[.pointer (some ⟨b, 0, none⟩), .int .i64 lo, .int .i64 hi] w (StabPost w [] 0) := by
  have c0 := h.cells.1
  clear h
  go_enter Try.func11, Try.ntmps11
  go_wp2_with fail
  go_ret2
  exact ⟨none, 0, rfl, World.ownsRow_nil _ _ _ _, Upd.refl _ _⟩

/-- What Meet leaves: the names, and what was touched. -/
def MeetPost (w : World) (L : List Nat) (B : Nat) (e : Ending) (w' : World) : Prop := ∃ t, StabPost w L t e w' ∧ L.length ≤ t ∧ t ≤ B + L.length

set_option maxRecDepth 100000 in
set_option maxHeartbeats 8000000 in
theorem ivlMeetIn {w : World} {b : Nat} {p vr : Value} {R : List Sp} {T : Kn} {Fk : List Nat} (h : IvlAt w b p vr R T Fk) (lo hi : Int) (hl : lo ≤ hi) (hsr : R.Pairwise fun a b => a.lo ≤ b.lo) (hb : R.length ≤ 1000) (hsml : T.small) (hd : T.depth < 10000) (hL : (T.stab lo).length ≤ 1000) :
    Calls Try.prog 11 #[.pointer (some ⟨b, 0, none⟩), .int .i64 lo, .int .i64 hi] w (MeetPost w (sortN (idsK (T.stab lo ++ partM R lo hi))) (2 * T.depth + 2 * (bitsN R.length + 1))) := by
  obtain ⟨i0, hi0, hz0, hz1, hz2⟩ := info_parts infoU32S
  obtain ⟨i1, hi1, hy0, hy1, hy2⟩ := info_parts infoSpanD
  have c0 := h.cells.1
  have c2 := h.cells.2.2.1
  have htm := touch_many lo T
  have hbn : bitsN R.length ≤ 10 := bitsN_le R.length 10 (by omega)
  have HS := Lib.hid (stabKC h lo hsml (by omega) (by omega))
  obtain ⟨tt, htt⟩ : ∃ t, T.touch lo = t := ⟨_, rfl⟩
  obtain ⟨G, hG⟩ : ∃ G, T.stab lo = G := ⟨_, rfl⟩
  rw [htt, hG] at HS htm
  rw [hG] at hL ⊢
  obtain ⟨N, hN⟩ : ∃ N, R.length = N := ⟨_, rfl⟩
  obtain ⟨bl, hbl⟩ : ∃ k, bhd R lo = k := ⟨_, rfl⟩
  obtain ⟨bh, hbh⟩ : ∃ k, bhd R hi = k := ⟨_, rfl⟩
  have hm1 : bl ≤ bh := by rw [← hbl, ← hbh]; exact bhd_mono R hl
  have hm2 : bh ≤ N := by rw [← hbh, ← hN]; exact bhd_le R hi
  have hpm := partM_len R lo hi
  rw [hbl, hbh] at hpm
  have H := Lib.hid h
  have HF := Lib.hid (And.intro htm (And.intro hbn (And.intro hN (And.intro hbl (And.intro hbh (And.intro hsr (And.intro hpm (And.intro hL hd))))))))
  have hgt : ¬ hi < lo := by omega
  have n0 : (0 : Int) ≤ (bl : Int) := Int.natCast_nonneg _
  have n1 : (bl : Int) ≤ (bh : Int) := by omega
  have n2 : (bh : Int) ≤ (N : Int) := by omega
  have n3 : (N : Int) ≤ 1000 := by omega
  have t0 : (0 : Int) ≤ (tt : Int) := Int.natCast_nonneg _
  have t1 : (tt : Int) ≤ 100000 := by omega
  obtain ⟨A, C, rfl⟩ := own_form h.row
  clear h htm htt hG hN hbl hbh hpm hsr hl hb hsml hd hL
  go_enter Try.func11, Try.ntmps11
  go_wp2_with fail
  (with_reducible refine HS.out.mono ?_)
  rintro e w1 ⟨A1, C1, rfl, r1, u1⟩
  have hb1 := behindC (H.out.upd0 u1) lo (by have := HF.out.2.2.1; omega) HF.out.2.2.2.2.2.1
  unfold BehindPost at hb1
  rw [HF.out.2.2.2.1] at hb1
  have HB1 := Lib.hid hb1
  have HU1 := Lib.hid (And.intro r1 u1)
  clear r1 u1 hb1 hgt
  go_wp2_with fail
  (with_reducible refine HB1.out.mono ?_)
  rintro e w2 ⟨ta, rfl, ha, u2⟩
  have hu2 := HU1.out.2.trans u2
  have hb2 := behindC (H.out.upd0 hu2) hi (by have := HF.out.2.2.1; omega) HF.out.2.2.2.2.2.1
  unfold BehindPost at hb2
  rw [HF.out.2.2.2.2.1] at hb2
  have HB2 := Lib.hid hb2
  have HU2 := Lib.hid (And.intro u2 hu2)
  have ta0 : (0 : Int) ≤ (ta : Int) := Int.natCast_nonneg _
  have ta1 : (ta : Int) ≤ 11 := by have := HF.out.2.1; omega
  have HA := Lib.hid ha
  clear u2 hu2 hb2 ha
  go_wp2_with fail
  (with_reducible refine HB2.out.mono ?_)
  rintro e w3 ⟨tb, rfl, hb, u3⟩
  have tb0 : (0 : Int) ≤ (tb : Int) := Int.natCast_nonneg _
  have tb1 : (tb : Int) ≤ 11 := by have := HF.out.2.1; omega
  have HB := Lib.hid hb
  have hu3 := HU2.out.2.trans u3
  have hr3 := own_upd HU1.out.1 (HU2.out.1.trans u3) (by simp)
  have hH3 := H.out.upd0 hu3
  have c23 := hH3.cells.2.2.1
  have hse3 : Sees w3 3 (.slice A R.length C) R.length (KSp.all R) := sees_of_own hH3.row
  obtain ⟨X, Y, cut, see, -⟩ := cut_mid (P := Try.prog) (t := 22) Try.underlying22 hi1 hy1 hse3 bl bh hm1 (by have := HF.out.2.2.1; omega)
  have cut' : ∀ w', (Instr.slice 22 (.slice A R.length C) (some (.int .i64 (bl : Int))) (some (.int .i64 (bh : Int))) none).run Try.prog w' = .ok (.slice X (bh - bl) Y) w' := cut
  obtain ⟨d, hd⟩ : ∃ d, bh - bl = d := ⟨_, rfl⟩
  obtain ⟨P, hP⟩ : ∃ P, partM R lo hi = P := ⟨_, rfl⟩
  have hsee : ∀ w', Upd [] w w' → See KSp w' (.slice X d Y) P := fun w' hu => by
    have h1 := see w' (sees_of_own (H.out.upd0 hu).row)
    rw [hd] at h1
    have h2 : P.length = d := by rw [← hP, HF.out.2.2.2.2.2.2.1, hd]
    unfold See
    rw [h2, ← hP]
    unfold partM
    rw [HF.out.2.2.2.1, HF.out.2.2.2.2.1, hd, Kind.all_take, Kind.all_drop]
    exact h1
  rw [hd] at cut'
  have HSEE := Lib.hid hsee
  have HP := Lib.hid (And.intro hP (And.intro hd (show P.length = d by rw [← hP, HF.out.2.2.2.2.2.2.1, hd])))
  have HR3 := Lib.hid (And.intro hr3 hu3)
  have hdN : d ≤ 1000 := by omega
  clear hb u3 hu3 hr3 hH3 hse3 cut see hsee hP hd
  go_wp2_with fail
  clear cut' c23
  go_loopg [8, 56] d (fun m s8 s56 wr => ∃ (k : Nat) (vo : Value), m + k = d ∧ s8 = vo ∧ s56 = .int .i64 (k : Int) ∧ KU.row wr w.heap.size vo (idsK (G ++ P.take k)) ∧ Upd [] w wr)
  case atStart => exact ⟨0, _, rfl, rfl, rfl, by rw [List.take_zero, List.append_nil]; exact HR3.out.1, HR3.out.2⟩
  case round =>
    obtain ⟨k, vo, hk, rfl, rfl, hro, hup⟩ := hrel
    have k0 : (0 : Int) ≤ (k : Int) := Int.natCast_nonneg _
    have hkd : k ≤ d := by omega
    by_cases hlt : k < d
    · obtain ⟨s, hs⟩ : ∃ s, P[k]? = some s := ⟨_, List.getElem?_eq_getElem (by rw [HP.out.2.2]; exact hlt)⟩
      obtain ⟨g, og, hX, -, -, ey⟩ := (HSEE.out wr hup).at hs
      subst hX
      have y0 : wr.cell? ⟨g, og + k * 3, none⟩ = some (.int .i64 s.lo) := ey 0 _ rfl
      have y1 : wr.cell? ⟨g, og + k * 3 + 1, none⟩ = some (.int .i64 s.hi) := ey 1 _ rfl
      have y2 : wr.cell? ⟨g, og + k * 3 + 2, none⟩ = some (.int .u32 (s.id : Int)) := ey 2 _ rfl
      have b1 : (k : Int) < (d : Int) := by omega
      have hlen : (idsK (G ++ P.take k)).length + 1 ≤ 1000000 := by
        rw [idsK_len, List.length_append, List.length_take]
        have := HF.out.2.2.2.2.2.2.2.1
        omega
      have htk : idsK (G ++ P.take (k + 1)) = idsK (G ++ P.take k) ++ [s.id] := by
        obtain ⟨g1, g2⟩ := List.getElem?_eq_some_iff.1 hs
        rw [List.take_succ_eq_append_getElem g1, g2, ← List.append_assoc, idsK_app (G ++ P.take k) [s]]
        rfl
      have HK := Lib.hid (And.intro hk (And.intro hlen (And.intro htk (And.intro hro hup))))
      clear hs ey hlen htk hro hup hk
      obtain ⟨wl, hwl⟩ : ∃ wl : World, wl = wr := ⟨_, rfl⟩
      subst hwl
      go_upto_region 9 with fail
      have hu2 : Upd [] wl (wl.alloc (.cells #[.int .i64 s.lo, .int .i64 s.hi, .int .u32 (s.id : Int)] 42)) := (Upd.refl _ _).alloc _
      have d2 : (wl.alloc (.cells #[.int .i64 s.lo, .int .i64 s.hi, .int .u32 (s.id : Int)] 42)).cell? ⟨wl.heap.size, 2, none⟩ = some (.int .u32 (s.id : Int)) := by rw [World.cell?_alloc_at _ _ _ _ rfl]; rfl
      generalize (wl.alloc (.cells #[.int .i64 s.lo, .int .i64 s.hi, .int .u32 (s.id : Int)] 42)) = W2 at hu2 d2 ⊢
      have HU4 := Lib.hid (And.intro (own_upd HK.out.2.2.2.1 hu2 (by simp)) (HK.out.2.2.2.2.trans hu2))
      have HZ := Lib.hid HU4.out.2.size
      clear hu2 y0 y1 y2
      (go_wp2_with (at_builtin; refine wpList_app _ rfl _ _ 29 rfl w.heap.size 35 i0 (.int .u32 0) 1 4 Try.underlying29 hi0 hz0 hz1 hz2 rfl (by decide) _ _ _ rfl (own_upd HU4.out.1 ((Upd.refl [] W2).alloc _) (by simp)) _ 1 [.int .u32 (s.id : Int)] rfl (sees_lit W2 #[.int .u32 (s.id : Int)] 35 1 1 rfl (by decide)) (by simp [Value.oneCell']) (by have := HK.out.2.1; unfold maxLen; omega) (by have := HK.out.2.1; omega) (by have := HZ.out; simp; omega) ?_))
      intro A4 C4 w4 HPP
      have hr4 : KU.row w4 w.heap.size (.slice A4 ((idsK (G ++ P.take k)).length + 1) C4) (idsK (G ++ P.take (k + 1))) := by
        rw [HK.out.2.2.1]
        unfold Kind.row
        rw [List.length_append, KU.all_app]
        exact HPP.own
      have hu4 := (HU4.out.2.alloc (.cells #[.int .u32 (s.id : Int)] 35)).trans' HPP.upd (fun y hy => .inr (own_ge HU4.out.1 y hy))
      have HE := Lib.hid (And.intro hr4 hu4)
      clear hr4 hu4 HPP d2
      go_wp2_with fail
      go_roundg (d - (k + 1))
      case measure => have := HK.out.1; omega
      case rel => exact ⟨k + 1, _, by have := HK.out.1; omega, rfl, by go_num, HE.out.1, HE.out.2⟩
    · have hkd2 : k = d := by omega
      have hLL : P.take k = P := by rw [hkd2, ← HP.out.2.2]; exact List.take_length
      rw [hLL] at hro
      have hlen : (idsK (G ++ P)).length = G.length + d := by rw [idsK_len, List.length_append, HP.out.2.2]
      have hG := HF.out.2.2.2.2.2.2.2.1
      obtain ⟨A5, C5, rfl⟩ := own_form hro
      have HSO := Lib.hid (sortU w.heap.size _ (idsK (G ++ P)) wr hro (by omega))
      have HK := Lib.hid (And.intro hro (And.intro hup hlen))
      clear hLL hkd2 hro hup hk hlen hG
      go_wp2_with fail
      (with_reducible refine HSO.out.mono ?_)
      rintro e w6 ⟨rfl, t6, u6⟩
      have HT := Lib.hid (And.intro t6 u6)
      clear t6 u6
      go_wp2_with fail
      go_ret2
      obtain ⟨f1, f2, f3, f4, f5, f6, f7, f8, f9⟩ := HF.out
      have hA := HA.out
      have hB := HB.out
      have hd := HP.out.2.1
      have e9 : ((tt + ta + tb + (bh - bl) : Nat) : Int) = (tt : Int) + (ta : Int) + (tb : Int) + (bh : Int) - (bl : Int) := by omega
      refine ⟨tt + ta + tb + (bh - bl), ⟨A5, C5, ?_, ?_, HK.out.2.1.trans' HT.out.2 (fun y hy => .inr (own_ge HK.out.1 y hy))⟩, ?_, ?_⟩
      · rw [HP.out.1, sortN_len, e9]; rfl
      · rw [HP.out.1, sortN_len]; exact HT.out.1
      · rw [HP.out.1, sortN_len, HK.out.2.2]; omega
      · rw [HP.out.1, sortN_len, HK.out.2.2, f3]; rw [f3] at hA hB; omega
end Go.Proofs.Ytjpjlfcjkgmhdaa
