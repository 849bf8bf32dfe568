/- gridironlaw08.SegTwo: the walk. -/
import Derived.Test.YtclbdegkfjedjaaGreatSegM
namespace Go.Proofs.YtclbdegkfjedjaaGreat
open Go.RowKit
attribute [local go_sem ↓] Go.wp_at_zero Go.wp_at_succ

theorem rightS_subT {l m : List Sp} (h : m.Sublist l) (hr : rightS l = true) : rightS m = true := by
  rw [rightS_iff] at hr ⊢
  exact ⟨fun s hs => hr.1 s (h.subset hs), List.Nodup.sublist (h.map Sp.id) hr.2⟩

/-- What a number stabs of a list, and of its two parts. -/
theorem two_facts {l : List Sp} (hr : rightS l = true) (k : Nat) (x : Int) :
    (stabL l x).Perm (stabL (l.take k) x ++ stabL (l.drop k) x) ∧ (stabL (l.take k) x ++ stabL (l.drop k) x).Nodup ∧ (stabL l x).Pairwise (· < ·) := by
  have hp : (stabL l x).Perm (stabL (l.take k) x ++ stabL (l.drop k) x) := by
    refine (sortN_perm _).trans ?_
    have e : (l.filter fun s => stabBM s.lo s.hi x).map Sp.id = ((l.take k).filter fun s => stabBM s.lo s.hi x).map Sp.id ++ ((l.drop k).filter fun s => stabBM s.lo s.hi x).map Sp.id := by
      rw [← List.map_append, ← List.filter_append, List.take_append_drop]
    rw [e]
    exact ((sortN_perm _).symm).append ((sortN_perm _).symm)
  have hn : (stabL l x).Nodup := by
    unfold stabL
    rw [(sortN_perm _).nodup_iff]
    exact List.Nodup.sublist (List.Sublist.map _ List.filter_sublist) (rightS_iff.1 hr).2
  refine ⟨hp, hp.nodup_iff.1 hn, ?_⟩
  have hs : (stabL l x).Pairwise (· ≤ ·) := sortN_le _
  exact List.Pairwise.imp₂ (fun a b h1 h2 => Nat.lt_of_le_of_ne h1 h2) hs hn

/-- The map that counts the first names, each once. -/
def cntF (B : List Nat) (j : Nat) : Nat → Option Nat := fun y => if y ∈ B.take j then some 1 else none

theorem cntF_step {B : List Nat} (hn : B.Nodup) {j : Nat} {y : Nat} (hy : B[j]? = some y) : cntF B j y = none ∧ cntF B (j + 1) = fun z => if z = y then some 1 else cntF B j z := by
  obtain ⟨h1, h2⟩ := List.getElem?_eq_some_iff.1 hy
  have hni : y ∉ B.take j := by
    intro hc
    obtain ⟨i, hi1, hi2⟩ := List.mem_iff_getElem.1 hc
    rw [List.length_take] at hi1
    rw [List.getElem_take] at hi2
    have := List.pairwise_iff_getElem.1 hn i j (by omega) h1 (by omega)
    rw [hi2, h2] at this
    exact this rfl
  refine ⟨by unfold cntF; rw [if_neg hni], funext fun z => ?_⟩
  unfold cntF
  rw [List.take_succ_eq_append_getElem h1, h2]
  by_cases hz : z = y
  · subst hz; simp
  · simp [hz]

theorem rowU_atT {w : World} {base : Nat} {A : Option Addr} {n C : Nat} {L : List Nat} (h : KU.row w base (.slice A n C) L) {k : Nat} {x : Nat} (hx : L[k]? = some x) : ∃ g, A = some ⟨g, 0, none⟩ ∧ w.cell? ⟨g, k, none⟩ = some (.int .u32 (x : Int)) := by
  obtain ⟨g, C', hg, ec, -⟩ := row_at h hx
  injection hg with hg _ _
  have := ec 0 _ rfl
  exact ⟨g, hg, by simpa [KU] using this⟩

set_option maxRecDepth 100000 in
set_option maxHeartbeats 8000000 in
theorem segTwo_walk (v v2 : Value) (l : List Sp) (ci : Nat) (lx : List Int) (w : World) (h : IsSps w v l) (hid : ∀ s ∈ l, s.in64) (hl : l.length ≤ maxLen) (hci : ci < 256) (h2 : See KL w v2 lx) (hl2 : lx.length ≤ maxLen) :
    Calls Tryz.prog 5 #[v, .int .u8 (ci : Int), v2] w fun e w' => e = .returned (.bool true) ∧ Upd [] w w' := by
  obtain ⟨A, C, rfl⟩ := h.form
  obtain ⟨A2, C2, rfl⟩ := h2.form
  obtain ⟨i1, hi1, hy0, hy1, hy2⟩ := info_parts infoSpanS
  obtain ⟨i0, hi0, hz0, hz1, hz2⟩ := info_parts infoLongS
  obtain ⟨i3, hi3, hv0, hv1, hv2⟩ := info_parts infoU32S
  obtain ⟨N, hN⟩ : ∃ N, l.length = N := ⟨_, rfl⟩
  obtain ⟨M, hM⟩ : ∃ N, lx.length = N := ⟨_, rfl⟩
  rw [hN] at h hl ⊢
  rw [hM] at h2 hl2 ⊢
  unfold maxLen at hl hl2
  have n0 : (0 : Int) ≤ (N : Int) := Int.natCast_nonneg _
  have m0 : (0 : Int) ≤ (M : Int) := Int.natCast_nonneg _
  have hid2 : ∀ s ∈ l, s.id < 4294967296 := fun s hs => (hid s hs).2.2
  by_cases hbig : 80 < N
  · have hb : decide ((80 : Int) < (N : Int)) = true := decide_eq_true (by omega)
    have HAW := Lib.hid (awake08 w)
    clear h h2 hid hid2 hbig
    go_enter Tryz.func5, Tryz.ntmps5
    go_wp2_with fail
    (with_reducible refine HAW.out.mono ?_)
    rintro e w1 ⟨rfl, u1⟩
    go_wp2_with fail
    go_ret
    exact ⟨rfl, u1⟩
  · have hb : decide ((80 : Int) < (N : Int)) = false := decide_eq_false (by omega)
    have hN80 : N ≤ 80 := by omega
    obtain ⟨k, hk⟩ : ∃ k, ci % (N + 1) = k := ⟨_, rfl⟩
    have hkN : k ≤ N := by rw [← hk]; have := Nat.mod_lt ci (show 0 < N + 1 by omega); omega
    have hke : (ci : Int) % ((N : Int) + 1) = (k : Int) := by rw [← hk, Int.natCast_emod]; rfl
    have c0 : (0 : Int) ≤ (ci : Int) := Int.natCast_nonneg _
    have c1 : (ci : Int) < 256 := by omega
    have hseA : Sees w 3 (.slice A N C) N (KSp.all l) := by have h3 := h; unfold IsSps See at h3; rw [hN] at h3; exact h3
    obtain ⟨A4, C4, cut4, cs4, -⟩ := cut_to (P := Tryz.prog) (t := 22) Tryz.underlying22 hi1 hy1 hseA k hkN
    obtain ⟨A5, C5, cut5, cs5, -⟩ := cut_from (P := Tryz.prog) (t := 22) Tryz.underlying22 hi1 hy1 hseA k hkN
    have hlt : (l.take k).length = k := by rw [List.length_take, hN, Nat.min_eq_left hkN]
    have hld : (l.drop k).length = N - k := by rw [List.length_drop, hN]
    have hb1 := fun w' (hu : Upd [] w w') => segBuild (.slice A N C) l w' (by have h3 := h.upd0 hu; exact h3) hid2 (by omega)
    have hb2 := fun w' (hu : Upd [] w w') => segBuild (.slice A4 k C4) (l.take k) w' (by have h3 := cs4 w' (sees_upd hseA hu (by simp)); unfold See; rw [hlt, KSp.all_take]; exact h3) (fun s hs => hid2 s (List.mem_of_mem_take hs)) (by omega)
    have hb3 := fun w' (hu : Upd [] w w') => segBuild (.slice A5 (N - k) C5) (l.drop k) w' (by have h3 := cs5 w' (sees_upd hseA hu (by simp)); unfold See; rw [hld, KSp.all_drop]; exact h3) (fun s hs => hid2 s (List.mem_of_mem_drop hs)) (by omega)
    have HB1 := Lib.hid (hb1 w (Upd.refl _ _))
    have HB2 := Lib.hid hb2
    have HB3 := Lib.hid hb3
    have H2 := Lib.hid h2
    have HN := Lib.hid (And.intro hN (And.intro hM hid2))
    have HAW := Lib.hid (fun w' => awake08 w')
    clear h h2 hid hid2 hbig hN hM hseA cs4 cs5 hlt hld hb1 hb2 hb3
    go_enter Tryz.func5, Tryz.ntmps5
    clear hk
    go_wp2_with fail
    (with_reducible refine HB1.out.mono ?_)
    rintro e w1 ⟨u1, hq⟩
    have HB2' := Lib.hid (HB2.out w1 u1)
    rcases hq with ⟨hr, rfl⟩ | ⟨hr, b1, F1, rfl, hs1, hF1⟩
    · have HU1 := Lib.hid u1
      clear hr u1
      go_wp2_with fail
      (with_reducible refine HB2'.out.mono ?_)
      rintro e w2 ⟨u2, hq2⟩
      have HB3' := Lib.hid (HB3.out w2 (HU1.out.trans u2))
      obtain ⟨p2, e2, rfl⟩ : ∃ p2 e2, e = .returned (.tuple #[p2, .int .i64 e2]) := by
        rcases hq2 with ⟨-, h2⟩ | ⟨-, b, F, h2, -⟩
        · exact ⟨_, _, h2⟩
        · exact ⟨_, _, h2⟩
      have HU2 := Lib.hid (HU1.out.trans u2)
      clear hq2 u2
      go_wp2_with fail
      (with_reducible refine HB3'.out.mono ?_)
      rintro e w3 ⟨u3, hq3⟩
      obtain ⟨p3, e3, rfl⟩ : ∃ p2 e2, e = .returned (.tuple #[p2, .int .i64 e2]) := by
        rcases hq3 with ⟨-, h2⟩ | ⟨-, b, F, h2, -⟩
        · exact ⟨_, _, h2⟩
        · exact ⟨_, _, h2⟩
      have HU3 := Lib.hid (HU2.out.trans u3)
      have HAW3 := Lib.hid (HAW.out w3)
      clear hq3 u3
      go_wp2_with fail
      (with_reducible refine HAW3.out.mono ?_)
      rintro e w4 ⟨rfl, u4⟩
      have HU4 := Lib.hid (HU3.out.trans u4)
      clear u4
      go_wp2_with fail
      go_ret
      exact ⟨rfl, HU4.out⟩
    · have HR := Lib.hid hr
      have HS1 := Lib.hid hs1
      have HU1 := Lib.hid u1
      clear hr u1 hs1 hF1
      go_wp2_with fail
      (with_reducible refine HB2'.out.mono ?_)
      rintro e w2 ⟨u2, (⟨hr2, -⟩ | ⟨-, b2, F2, rfl, hs2, hF2⟩)⟩
      · rw [rightS_subT (List.take_sublist k l) HR.out] at hr2; cases hr2
      have HB3' := Lib.hid (HB3.out w2 (HU1.out.trans u2))
      have HS1' := Lib.hid (HS1.out.upd0 u2)
      have HS2 := Lib.hid hs2
      have HU2 := Lib.hid (HU1.out.trans u2)
      clear u2 hs2 hF2
      go_wp2_with fail
      (with_reducible refine HB3'.out.mono ?_)
      rintro e w3 ⟨u3, (⟨hr3, -⟩ | ⟨-, b3, F3, rfl, hs3, hF3⟩)⟩
      · rw [rightS_subT (List.drop_sublist k l) HR.out] at hr3; cases hr3
      have HT := Lib.hid (And.intro (HS1'.out.upd0 u3) (And.intro (HS2.out.upd0 u3) hs3))
      have HU3 := Lib.hid (HU2.out.trans u3)
      clear u3 hs3 hF3
      obtain ⟨Q, hQ⟩ : ∃ Q : Nat, min M 20 = Q := ⟨_, rfl⟩
      have hQm : Value.int .i64 (min (M : Int) 20) = Value.int .i64 (Q : Int) := by
        have : min (M : Int) 20 = (Q : Int) := by omega
        rw [this]
      have hQb : Q ≤ M ∧ Q ≤ 20 := by omega
      obtain ⟨A6, C6, cut6, cs6, -⟩ := cut_to (P := Tryz.prog) (t := 23) Tryz.underlying23 hi0 hz1 (show Sees w 1 (.slice A2 M C2) M (KL.all lx) by have h3 := H2.out; unfold See at h3; rw [HN.out.2.1] at h3; exact h3) Q hQb.1
      have hsee : ∀ w', Upd [] w w' → See KL w' (.slice A6 Q C6) (lx.take Q) := fun w' hu => by
        have h3 := cs6 w' (by have h3 := H2.out.upd0 hu; unfold See at h3; rw [HN.out.2.1] at h3; exact h3)
        unfold See
        rw [KL.all_take, List.length_take, HN.out.2.1, Nat.min_eq_left hQb.1]
        exact h3
      have hQl : (lx.take Q).length = Q := by rw [List.length_take, HN.out.2.1, Nat.min_eq_left hQb.1]
      have HSEE := Lib.hid (And.intro hsee hQl)
      have hQ20 := hQb.2
      clear cs6 hsee hQl hQ hQb
      go_wp2_with fail
      go_loopg [71] Q (fun m s71 wr => ∃ j : Nat, m + j = Q ∧ s71 = .int .i64 (j : Int) ∧ Upd [] w3 wr)
      case atStart => exact ⟨0, rfl, rfl, Upd.refl _ _⟩
      case round =>
        obtain ⟨j, hj, rfl, hup⟩ := hrel
        have j0 : (0 : Int) ≤ (j : Int) := Int.natCast_nonneg _
        have hjQ : j ≤ Q := by omega
        have HJ := Lib.hid (And.intro hj hup)
        clear hj hup
        by_cases hlt : j < Q
        · obtain ⟨x, hx⟩ : ∃ x, (lx.take Q)[j]? = some x := ⟨_, List.getElem?_eq_getElem (by rw [HSEE.out.2]; exact hlt)⟩
          obtain ⟨g, o, rfl, -, -, ex⟩ := KL.at (HSEE.out.1 wr (HU3.out.trans HJ.out.2)) hx
          have hs1 := isStab (HT.out.1.upd0 HJ.out.2) x
          have hs2 := fun w' (hu : Upd [] wr w') => isStab ((HT.out.2.1.upd0 HJ.out.2).upd0 hu) x
          have hs3 := fun w' (hu : Upd [] wr w') => isStab ((HT.out.2.2.upd0 HJ.out.2).upd0 hu) x
          obtain ⟨tp, tn, tr⟩ := two_facts HR.out k x
          have hla := stabL_len l x
          have hla2 := HT.out.1.many
          have hlen := tp.length_eq
          rw [List.length_append] at hlen
          obtain ⟨La, hLa⟩ : ∃ L, stabL l x = L := ⟨_, rfl⟩
          obtain ⟨Lb, hLb⟩ : ∃ L, stabL (l.take k) x = L := ⟨_, rfl⟩
          obtain ⟨Lc, hLc⟩ : ∃ L, stabL (l.drop k) x = L := ⟨_, rfl⟩
          rw [hLa] at hs1 tp tr hla hlen
          rw [hLb] at tp tn hlen
          rw [hLc] at tp tn hlen
          simp only [hLb] at hs2
          simp only [hLc] at hs3
          obtain ⟨na, hna⟩ : ∃ n, La.length = n := ⟨_, rfl⟩
          obtain ⟨nb, hnb⟩ : ∃ n, Lb.length = n := ⟨_, rfl⟩
          obtain ⟨nc, hnc⟩ : ∃ n, Lc.length = n := ⟨_, rfl⟩
          rw [hna] at hs1 hlen hla
          rw [hnb] at hlen
          rw [hnc] at hlen
          simp only [hnb] at hs2
          simp only [hnc] at hs3
          have hids : ∀ y ∈ La, y < 4294967296 := by
            intro y hy
            rw [← hLa] at hy
            obtain ⟨s, hs, rfl⟩ := List.mem_map.1 ((sortN_perm _).mem_iff.1 hy)
            exact HN.out.2.2 s (List.mem_filter.1 hs).1
          have HS1 := Lib.hid hs1
          have HS2 := Lib.hid hs2
          have HS3 := Lib.hid hs3
          have HP := Lib.hid (And.intro tp (And.intro tn (And.intro tr (And.intro hna (And.intro hnb (And.intro hnc (And.intro hids hlen)))))))
          have b1 : (j : Int) < (Q : Int) := by omega
          have hlb : nb ≤ 1000 ∧ nc ≤ 1000 ∧ na ≤ 1000 := by omega
          obtain ⟨hlb1, hlb2, hlb3⟩ := hlb
          clear hx hs1 hs2 hs3 tp tn tr hna hnb hnc hLa hLb hLc hids hlen hla hla2
          go_wp2_with fail
          (with_reducible refine HS1.out.mono ?_)
          rintro e w5 ⟨Aa, Ca, rfl, ra, ua⟩
          have HS2' := Lib.hid (HS2.out w5 ua)
          rw [HP.out.2.2.2.1] at ra ⊢
          have HRA := Lib.hid (And.intro ra ua)
          clear ra ua
          go_wp2_with fail
          (with_reducible refine HS2'.out.mono ?_)
          rintro e w6 ⟨Ab, Cb, rfl, rb, ub⟩
          have HS3' := Lib.hid (HS3.out w6 (HRA.out.2.trans ub))
          rw [HP.out.2.2.2.2.1] at rb ⊢
          have HRB := Lib.hid (And.intro rb ub)
          clear rb ub
          go_wp2_with fail
          (with_reducible refine HS3'.out.mono ?_)
          rintro e w7 ⟨Ac, Cc, rfl, rc, uc⟩
          rw [HP.out.2.2.2.2.2.1] at rc ⊢
          have HRC := Lib.hid (And.intro rc uc)
          clear rc uc
          have hmm := @run_makeMap Tryz.prog
          go_upto_region 18 with fail
          clear hmm
          have hm0 := MapU.made MKI w7
          have hu8 : Upd [] w7 (w7.alloc (.map #[] 0)) := (Upd.refl _ _).alloc _
          have hmz : w7.heap.size < (w7.alloc (.map #[] 0)).heap.size := by simp
          have huc := HRA.out.2.trans (HRB.out.2.trans (HRC.out.2.trans hu8))
          have hsb : ∀ w', Upd [] (w7.alloc (.map #[] 0)) w' → Sees w' 1 (.slice Ab nb Cb) nb (KU.all Lb) := fun w' hu => by
            have h3 := See.of_row (own_upd (own_upd (own_upd HRB.out.1 HRC.out.2 (by simp)) hu8 (by simp)) hu (by simp))
            unfold See at h3
            rw [HP.out.2.2.2.2.1] at h3
            exact h3
          have hsc : ∀ w', Upd [] (w7.alloc (.map #[] 0)) w' → Sees w' 1 (.slice Ac nc Cc) nc (KU.all Lc) := fun w' hu => by
            have h3 := See.of_row (own_upd (own_upd HRC.out.1 hu8 (by simp)) hu (by simp))
            unfold See at h3
            rw [HP.out.2.2.2.2.2.1] at h3
            exact h3
          have hrA : KU.row (w7.alloc (.map #[] 0)) wr.heap.size (.slice Aa na Ca) La := own_upd (own_upd (own_upd HRA.out.1 HRB.out.2 (by simp)) HRC.out.2 (by simp)) hu8 (by simp)
          obtain ⟨mb, hmb⟩ : ∃ mb, w7.heap.size = mb := ⟨_, rfl⟩
          have HMB := Lib.hid hmb
          rw [hmb] at hm0 hmz ⊢
          generalize w7.alloc (.map #[] 0) = W0 at hm0 hmz huc hsb hsc hrA ⊢
          have HM0 := Lib.hid hm0
          have HUC := Lib.hid (HJ.out.2.trans huc)
          have HSB := Lib.hid (And.intro hsb hsc)
          have HRA2 := Lib.hid hrA
          have hmw : wr.heap.size ≤ mb := by rw [← hmb]; exact Nat.le_trans HRA.out.2.size (Nat.le_trans HRB.out.2.size HRC.out.2.size)
          have hw3 : w3.heap.size ≤ mb := Nat.le_trans HJ.out.2.size hmw
          clear hm0 hu8 huc hsb hsc hrA hmb
          go_wp2_with (at_builtin; refine wpList_app _ rfl _ _ 35 rfl W0.heap.size 30 i3 (.int .u32 0) 1 4 Tryz.underlying35 hi3 hv0 hv1 hv2 rfl (by decide) _ 0 [] rfl (World.ownsRow_made W0 #[] 0 (Nat.le_refl _) (by decide) rfl) _ nb (KU.all Lb) rfl (HSB.out.1 _ ((Upd.refl [] W0).alloc _)) (KU.all_one _) (by unfold maxLen; omega) (by omega) (by simp) ?_)
          intro A8 C8 W8 HP8
          try rw [Nat.zero_add]
          have ho8 : W8.ownsRow W0.heap.size 30 1 (.slice A8 nb C8) nb (KU.all Lb) := by simpa using HP8.own
          have hu8 : Upd [] W0 W8 := ((Upd.refl [] W0).alloc _).trans' HP8.upd (fun y hy => .inr (by simp [blk] at hy; omega))
          have HO8 := Lib.hid (And.intro ho8 hu8)
          clear ho8 hu8 HP8
          go_wp2_with (at_builtin; refine wpList_app _ rfl _ _ 35 rfl W0.heap.size 30 i3 (.int .u32 0) 1 4 Tryz.underlying35 hi3 hv0 hv1 hv2 rfl (by decide) _ nb (KU.all Lb) rfl HO8.out.1 _ nc (KU.all Lc) rfl (HSB.out.2 _ HO8.out.2) (KU.all_one _) (by unfold maxLen; omega) (by omega) HO8.out.2.size ?_)
          intro A9 C9 W9 HP9
          obtain ⟨nt, hnt⟩ : ∃ nt, nb + nc = nt := ⟨_, rfl⟩
          have hr9 : KU.row W9 W0.heap.size (.slice A9 nt C9) (Lb ++ Lc) := by
            have := HP9.own
            rw [hnt] at this
            unfold Kind.row
            rw [List.length_append, HP.out.2.2.2.2.1, HP.out.2.2.2.2.2.1, hnt, KU.all_app]
            exact this
          have hu9 : Upd [] W0 W9 := HO8.out.2.trans' HP9.upd (fun y hy => .inr (own_ge HO8.out.1 y hy))
          rw [hnt]
          have hBl : (Lb ++ Lc).length = nt := by rw [List.length_append, HP.out.2.2.2.2.1, HP.out.2.2.2.2.2.1, hnt]
          have hBu : ∀ y ∈ Lb ++ Lc, y < 4294967296 := fun y hy => HP.out.2.2.2.2.2.2.1 y (HP.out.1.mem_iff.2 hy)
          have H9 := Lib.hid (And.intro hr9 (And.intro hu9 (And.intro hBl (And.intro HP.out.2.1 hBu))))
          have hlen := HP.out.2.2.2.2.2.2.2
          have hntb : nt ≤ 2000 := by omega
          have hnat : (na : Int) = (nb : Int) + (nc : Int) := by omega
          have hnatt : na = nt := by omega
          have HNT := Lib.hid (And.intro hnt (And.intro hnatt hnat))
          clear HP9 hr9 hu9 hBl hBu hnt hnatt hnat hlen
          go_wp2_with fail
          go_loopg [100] nt (fun m s100 wr => ∃ i : Nat, m + i = nt ∧ s100 = .int .i64 (i : Int) ∧ MapU MKI wr mb (cntF (Lb ++ Lc) i) i ∧ Upd [mb] W9 wr)
          case atStart =>
            have e : cntF (Lb ++ Lc) 0 = fun _ => none := by funext z; simp [cntF]
            exact ⟨0, rfl, rfl, by rw [e]; exact HM0.out.upd H9.out.2.1 (by simp), Upd.refl _ _⟩
          case round =>
            obtain ⟨i, hi, rfl, hmp, hup2⟩ := hrel
            have i0 : (0 : Int) ≤ (i : Int) := Int.natCast_nonneg _
            have hint : i ≤ nt := by omega
            have HI := Lib.hid (And.intro hi (And.intro hmp hup2))
            clear hi
            by_cases hlti : i < nt
            · obtain ⟨y, hy⟩ : ∃ y, (Lb ++ Lc)[i]? = some y := ⟨_, List.getElem?_eq_getElem (by rw [H9.out.2.2.1]; exact hlti)⟩
              have hyw := H9.out.2.2.2.2 y (List.mem_of_getElem? hy)
              have hmbn : mb ∉ blk (.slice A9 nt C9) := fun hc => by have := own_ge H9.out.1 mb hc; omega
              obtain ⟨g9, rfl, ey⟩ := rowU_atT (own_upd H9.out.1 hup2 (by intro z hz hc; simp at hc; subst hc; exact hmbn hz)) hy
              obtain ⟨hno, hnx⟩ := cntF_step H9.out.2.2.2.1 hy
              have hlook := hmp.look1 hyw
              rw [hno] at hlook
              have hlook2 : (Instr.lookup 41 (.map (some mb)) (.int .u32 (y : Int)) false).run Tryz.prog wr = .ok (.int .i64 0) wr := hlook
              obtain ⟨w10, hput, hm10, hu10, -⟩ := hmp.put hyw 1 (by unfold maxLen; omega)
              rw [hno, ← hnx] at hm10
              have hput2 : (Instr.mapUpdate 41 (.map (some mb)) (.int .u32 (y : Int)) (.int .i64 1)).run Tryz.prog wr = .ok () w10 := hput
              have HM10 := Lib.hid (And.intro hm10 hu10)
              have i1 : (i : Int) < (nt : Int) := by omega
              clear hy hno hnx hlook hput hm10 hu10 hmp hup2
              go_wp2_with fail
              go_roundg (nt - (i + 1))
              case measure => have := HI.out.1; omega
              case rel => exact ⟨i + 1, by have := HI.out.1; omega, by go_num, HM10.out.1, HI.out.2.2.trans HM10.out.2⟩
            · have hint2 : i = nt := by omega
              have hfin : ∀ y ∈ La, cntF (Lb ++ Lc) i y = some 1 := fun y hy => by
                unfold cntF
                rw [hint2, List.take_of_length_le (by rw [H9.out.2.2.1]; exact Nat.le_refl _), if_pos (HP.out.1.mem_iff.1 hy)]
              have hi3 : (i : Int) = (na : Int) := by have := HNT.out.2.1; omega
              have hlen := hmp.len 3
              have hlen2 : (Builtin.len_ #[41] 3 #[.map (some mb)]).run Tryz.prog wr = .ok (.int .i64 (i : Int)) wr := hlen
              rw [hi3] at hlen2
              have hq1 : ((na : Int) != ((nb : Int) + (nc : Int))) = false := by have := HNT.out.2.2; simp; omega
              have hq2 : ((na : Int) != (na : Int)) = false := by simp
              have hrA := own_upd (own_upd HRA2.out H9.out.2.1 (by simp)) hup2 (by intro z hz hc; simp at hc; subst hc; have h1 := own_lt HRA2.out z hz; have h2 := own_lt HRA.out.1 z hz; have h3 := HRB.out.2.size; have h4 := HRC.out.2.size; have h5 := HMB.out; omega)
              have HF := Lib.hid (And.intro hfin (And.intro hmp hrA))
              have nb0 : (0 : Int) ≤ (nb : Int) := Int.natCast_nonneg _
              have nc0 : (0 : Int) ≤ (nc : Int) := Int.natCast_nonneg _
              have na0 : (0 : Int) ≤ (na : Int) := Int.natCast_nonneg _
              clear hfin hi3 hlen hint2 hmp hup2 hrA
              go_wp2_with fail
              obtain ⟨wo, hwo⟩ : ∃ wo : World, wo = wr := ⟨_, rfl⟩
              subst hwo
              go_loopg [126] na (fun m s126 wr => ∃ i : Nat, m + i = na ∧ s126 = .int .i64 (i : Int) ∧ wr = wo)
              case atStart => exact ⟨0, rfl, rfl, rfl⟩
              case round =>
                obtain ⟨q, hq, rfl, rfl⟩ := hrel
                have q0 : (0 : Int) ≤ (q : Int) := Int.natCast_nonneg _
                have hqn : q ≤ na := by omega
                have HQ := Lib.hid hq
                clear hq
                by_cases hltq : q < na
                · obtain ⟨y, hy⟩ : ∃ y, La[q]? = some y := ⟨_, List.getElem?_eq_getElem (by rw [HP.out.2.2.2.1]; exact hltq)⟩
                  have hyl := HP.out.2.2.2.2.2.2.1 y (List.mem_of_getElem? hy)
                  obtain ⟨ga, rfl, ey⟩ := rowU_atT HF.out.2.2 hy
                  have hlook := HF.out.2.1.look1 hyl
                  rw [HF.out.1 y (List.mem_of_getElem? hy)] at hlook
                  have hlook2 : (Instr.lookup 41 (.map (some mb)) (.int .u32 (y : Int)) false).run Tryz.prog wr = .ok (.int .i64 1) wr := hlook
                  have q1 : (q : Int) < (na : Int) := by omega
                  by_cases hq0 : 0 < q
                  · have hgt : decide (0 < q) = true := decide_eq_true hq0
                    obtain ⟨p, hp⟩ : ∃ p : Nat, q = p + 1 := ⟨q - 1, by omega⟩
                    have hqp : (q : Int) - 1 = (p : Int) := by omega
                    obtain ⟨z, hz⟩ : ∃ z, La[p]? = some z := ⟨_, List.getElem?_eq_getElem (by rw [HP.out.2.2.2.1]; omega)⟩
                    obtain ⟨ga', hga, ez⟩ := rowU_atT HF.out.2.2 hz
                    injection hga with hga
                    injection hga with hga _ _
                    subst hga
                    have hlz : z < y := by
                      obtain ⟨h1, h2⟩ := List.getElem?_eq_some_iff.1 hy
                      obtain ⟨h3, h4⟩ := List.getElem?_eq_some_iff.1 hz
                      have := List.pairwise_iff_getElem.1 HP.out.2.2.1 p q h3 h1 (by omega)
                      rwa [h2, h4] at this
                    have hle : decide (y ≤ z) = false := decide_eq_false (by omega)
                    have p0 : (0 : Int) ≤ (p : Int) := Int.natCast_nonneg _
                    have p1 : (p : Int) < (na : Int) := by omega
                    clear hy hyl hlook hz hlz hp hq0
                    go_wp2_with fail
                    go_roundg (na - (q + 1))
                    case measure => have := HQ.out; omega
                    case rel => exact ⟨q + 1, by have := HQ.out; omega, by go_num, rfl⟩
                  · have hgt : decide (0 < q) = false := decide_eq_false hq0
                    clear hy hyl hlook hq0
                    go_wp2_with fail
                    go_roundg (na - (q + 1))
                    case measure => have := HQ.out; omega
                    case rel => exact ⟨q + 1, by have := HQ.out; omega, by go_num, rfl⟩
                · go_wp2_with fail
                  go_roundg (Q - (j + 1))
                  case measure => have := HJ.out.1; omega
                  case rel =>
                    refine ⟨j + 1, by have := HJ.out.1; omega, by go_num, ?_⟩
                    exact (HUC.out.trans H9.out.2.1).trans' HI.out.2.2 (fun y hy => .inr (by simp at hy; omega))
        · have HAW2 := Lib.hid (HAW.out wr)
          go_wp2_with fail
          (with_reducible refine HAW2.out.mono ?_)
          rintro e w5 ⟨rfl, u5⟩
          have HU5 := Lib.hid ((HU3.out.trans HJ.out.2).trans u5)
          clear u5
          go_wp2_with fail
          go_ret
          exact ⟨rfl, HU5.out⟩
end Go.Proofs.YtclbdegkfjedjaaGreat
