/- gridironlaw09.IvlSplit: the walk. -/
import Derived.Test.YtjpjlfcjkgmhdaaGreatIvlW
import Derived.Test.YtjpjlfcjkgmhdaaGreatIvlP
import Derived.Test.YtjpjlfcjkgmhdaaGreatSegK
namespace Go.Proofs.YtjpjlfcjkgmhdaaGreat
open Go.RowKit

/-- The names of what begins behind a number, up to another. -/
def secL (l : List Sp) (lo hi : Int) : List Nat := (l.filter fun s => decide (lo < s.lo) && decide (s.lo ≤ hi)).map Sp.id

theorem own_stab (l : List Sp) (x : Int) : meetL l x x = stabL l x := by
  unfold meetL stabL
  rw [if_neg (by omega)]
  congr 2
  refine List.filter_congr fun s _ => ?_
  unfold stabBM
  exact Bool.and_comm _ _

theorem meet_split {l : List Sp} (hr : ∀ s ∈ l, s.lo ≤ s.hi) {lo hi : Int} (h : lo ≤ hi) : (stabL l lo ++ secL l lo hi).Perm (meetL l lo hi) := by
  unfold stabL secL meetL
  rw [if_neg (by omega)]
  refine ((sortN_perm _).append_right _).trans (List.Perm.trans ?_ (sortN_perm _).symm)
  rw [← List.map_append]
  refine List.Perm.map _ ?_
  have h1 := List.filter_append_perm (fun s : Sp => decide (s.lo ≤ lo)) (l.filter fun s => decide (lo ≤ s.hi) && decide (s.lo ≤ hi))
  rw [List.filter_filter, List.filter_filter] at h1
  refine List.Perm.trans (List.Perm.of_eq ?_) h1
  congr 1
  · refine List.filter_congr fun s hs => ?_
    unfold stabBM
    by_cases c1 : s.lo ≤ lo
    · have c2 : s.lo ≤ hi := by omega
      simp [c1, c2]
    · simp [c1]
  · refine List.filter_congr fun s hs => ?_
    have := hr s hs
    by_cases c1 : s.lo ≤ lo
    · have c2 : ¬ lo < s.lo := by omega
      simp [c1, c2]
    · have c2 : lo < s.lo := by omega
      have c3 : lo ≤ s.hi := by omega
      simp [c1, c2, c3]

/-- A map that counts each of some names once. -/
structure Ones (w : World) (b : Nat) (D : List Nat) : Prop where
  map : ∃ f, MapU MKI w b f D.length ∧ ∀ x, f x = if x ∈ D then some 1 else none

theorem Ones.upd {w w' : World} {b : Nat} {D : List Nat} (h : Ones w b D) {F : List Nat} (hu : Upd F w w') (hb : b ∉ F) : Ones w' b D := by
  obtain ⟨f, h1, h2⟩ := h.map
  exact ⟨f, h1.upd hu hb, h2⟩

theorem Ones.look {w : World} {b : Nat} {D : List Nat} (h : Ones w b D) {x : Nat} (hx : x < 4294967296) :
    (Instr.lookup 36 (.map (some b)) (.int .u32 (x : Int)) false).run Tryz.prog w = .ok (.int .i64 (if x ∈ D then 1 else 0)) w := by
  obtain ⟨f, h1, h2⟩ := h.map
  have := h1.look1 hx
  rw [h2 x] at this
  refine this.trans ?_
  split <;> rfl

theorem Ones.put {w : World} {b : Nat} {D : List Nat} (h : Ones w b D) {x : Nat} (hx : x < 4294967296) (hD : x ∉ D) (hl : D.length < 100000) :
    ∃ w', (Instr.mapUpdate 36 (.map (some b)) (.int .u32 (x : Int)) (.int .i64 1)).run Tryz.prog w = .ok () w' ∧ Ones w' b (D ++ [x]) ∧ Upd [b] w w' ∧ w'.heap.size = w.heap.size := by
  obtain ⟨f, h1, h2⟩ := h.map
  obtain ⟨w', g1, g2, g3, g4⟩ := h1.put hx 1 (by unfold maxLen; omega)
  refine ⟨w', g1, ⟨fun y => if y = x then some 1 else f y, ?_, fun y => ?_⟩, g3, g4⟩
  · rw [h2 x, if_neg hD] at g2
    rw [List.length_append]
    exact g2
  · dsimp only
    by_cases hy : y = x
    · rw [if_pos hy, if_pos (by rw [hy]; simp)]
    · rw [if_neg hy, h2 y]
      by_cases hd : y ∈ D
      · rw [if_pos hd, if_pos (by simp [hd])]
      · rw [if_neg hd, if_neg (by simp [hd, hy])]

theorem Ones.len {w : World} {b : Nat} {D : List Nat} (h : Ones w b D) (ty : TypeId) : (Builtin.len_ #[36] ty #[.map (some b)]).run Tryz.prog w = .ok (.int .i64 (D.length : Int)) w := by
  obtain ⟨f, h1, -⟩ := h.map
  exact h1.len ty

theorem stabL_mem {l : List Sp} {x : Int} {n : Nat} (h : n ∈ stabL l x) : ∃ s ∈ l, s.id = n := by
  unfold stabL at h
  rw [(sortN_perm _).mem_iff, List.mem_map] at h
  obtain ⟨s, hs, e⟩ := h
  exact ⟨s, (List.mem_filter.1 hs).1, e⟩

set_option maxRecDepth 100000 in
set_option maxHeartbeats 16000000 in
theorem ivlSplit_walk (v : Value) (l : List Sp) (lo hi : Int) (w : World) (h : IsSps w v l) (hid : ∀ s ∈ l, s.in64) (hl : l.length ≤ maxLen) :
    Calls Tryz.prog 3 #[v, .int .i64 lo, .int .i64 hi] w fun e w' => e = .returned (.bool true) ∧ Upd [] w w' := by
  obtain ⟨A, C, rfl⟩ := h.form
  obtain ⟨N, hN⟩ : ∃ N, l.length = N := ⟨_, rfl⟩
  rw [hN] at h hl ⊢
  unfold maxLen at hl
  have n0 : (0 : Int) ≤ (N : Int) := Int.natCast_nonneg _
  have hid2 : ∀ s ∈ l, s.id < 4294967296 := fun s hs => (hid s hs).2.2
  by_cases hbig : 80 < N
  · have hb : decide ((80 : Int) < (N : Int)) = true := decide_eq_true (by omega)
    have HAW := Lib.hid (awake09 w)
    clear h hid hid2 hbig
    go_enter Tryz.func3, Tryz.ntmps3
    go_wp2_with fail
    (with_reducible refine HAW.out.mono ?_)
    rintro e w1 ⟨rfl, u1⟩
    go_wp2_with fail
    go_ret
    exact ⟨rfl, u1⟩
  · have hb : decide ((80 : Int) < (N : Int)) = false := decide_eq_false (by omega)
    have hN80 : N ≤ 80 := by omega
    have hbd := ivlBuild _ l w (by rw [← hN] at h; exact h) hid2 (by omega)
    have hbs := fun w' (hu : Upd [] w w') => segBuild (.slice A N C) l w' (by have := h.upd0 hu; exact this) hid2 (by omega)
    rw [hN] at hbd
    have HB := Lib.hid hbd
    have HBS := Lib.hid hbs
    have H := Lib.hid h
    have HN := Lib.hid (And.intro hN hid2)
    have HAW := Lib.hid (fun w' => awake09 w')
    clear h hid hid2 hbig hN hbd hbs
    go_enter Tryz.func3, Tryz.ntmps3
    go_wp2_with fail
    (with_reducible refine HB.out.mono ?_)
    rintro e w1 ⟨u1, hq⟩
    have HBS1 := Lib.hid (HBS.out w1 u1)
    rcases hq with ⟨hr, rfl⟩ | ⟨hr, q, F, rfl, hs, hF⟩
    · have HU1 := Lib.hid u1
      have HR := Lib.hid hr
      clear hr u1
      go_wp2_with fail
      (with_reducible refine HBS1.out.mono ?_)
      rintro e w2 ⟨u2, (⟨-, rfl⟩ | ⟨hr2, -⟩)⟩
      rotate_left 1
      · rw [HR.out] at hr2; cases hr2
      have HAW1 := Lib.hid (HAW.out w2)
      have HU2 := Lib.hid (HU1.out.trans u2)
      clear u2
      go_wp2_with fail
      (with_reducible refine HAW1.out.mono ?_)
      rintro e w3 ⟨rfl, u3⟩
      have HU3 := Lib.hid (HU2.out.trans u3)
      clear u3
      go_wp2_with fail
      go_ret
      exact ⟨rfl, HU3.out⟩
    · have HU1 := Lib.hid u1
      have HR := Lib.hid hr
      have HS := Lib.hid hs
      clear hr u1 hs hF
      go_wp2_with fail
      (with_reducible refine HBS1.out.mono ?_)
      rintro e w2 ⟨u2, (⟨hr2, -⟩ | ⟨-, q2, F2, rfl, hs2, hF2⟩)⟩
      · rw [HR.out] at hr2; cases hr2
      have hs := HS.out.upd0 u2
      obtain ⟨hri, hnm⟩ := rightS_iff.1 HR.out
      have hm1 := vMeet hs lo hi
      have hm2 := fun w' (hu : Upd [] w2 w') => vMeet (hs.upd0 hu) lo lo
      have hs1 := fun w' (hu : Upd [] w2 w') => vStab (hs.upd0 hu) lo
      have hs3 := fun w' (hu : Upd [] w2 w') => isStab (hs2.upd0 hu) lo
      simp only [own_stab] at hm2
      have hl1 := meetL_len l lo hi
      have hl2 := stabL_len l lo
      rw [HN.out.1] at hl1 hl2
      have hrise := meetL_rise hnm lo hi
      have hsp : lo ≤ hi → (stabL l lo ++ secL l lo hi).Perm (meetL l lo hi) := fun hh => meet_split hri hh
      have hemp : ¬ lo ≤ hi → meetL l lo hi = [] := fun hh => by unfold meetL; rw [if_pos (by omega)]
      have hnds : (stabL l lo).Nodup := by unfold stabL; exact (sortN_perm _).nodup_iff.2 (names_filter hnm _)
      have hids : ∀ n ∈ stabL l lo, n < 4294967296 := fun n hn => by
        obtain ⟨s, hs, rfl⟩ := stabL_mem hn
        exact HN.out.2 s hs
      have hidm : ∀ n ∈ meetL l lo hi, n < 4294967296 := fun n hn => by
        obtain ⟨-, s, hs, rfl, -⟩ := meetL_mem.1 hn
        exact HN.out.2 s hs
      obtain ⟨K, hK⟩ : ∃ K, meetL l lo hi = K := ⟨_, rfl⟩
      obtain ⟨L, hL⟩ : ∃ L, stabL l lo = L := ⟨_, rfl⟩
      rw [hK] at hm1 hl1 hrise hsp hemp hidm
      rw [hL] at hl2 hsp hnds hids
      simp only [hL] at hm2 hs1 hs3
      have HM1 := Lib.hid hm1
      have HM2 := Lib.hid hm2
      have HS1 := Lib.hid hs1
      have HS3 := Lib.hid hs3
      have HP := Lib.hid (And.intro hrise (And.intro hsp (And.intro hemp (And.intro hnds (And.intro hids hidm)))))
      have HU2 := Lib.hid (HU1.out.trans u2)
      clear u2 hs2 hF2 hs hri hnm hm1 hm2 hs1 hs3 hrise hsp hemp hnds hids hidm hK hL
      go_wp2_with fail
      (with_reducible refine HM1.out.mono ?_)
      rintro e w5 ⟨z, ⟨A5, C5, rfl, r1, r2⟩, -, -⟩
      have HS1' := Lib.hid (HS1.out w5 r2)
      have HR1 := Lib.hid (And.intro r1 r2)
      clear r1 r2
      go_wp2_with fail
      (with_reducible refine HS1'.out.mono ?_)
      rintro e w6 ⟨z2, ⟨A6, C6, rfl, r3, r4⟩, -, -⟩
      have HM2' := Lib.hid (HM2.out w6 (HR1.out.2.trans r4))
      have HR2 := Lib.hid (And.intro r3 (And.intro r4 (HR1.out.2.trans r4)))
      clear r3 r4
      go_wp2_with fail
      (with_reducible refine HM2'.out.mono ?_)
      rintro e w7 ⟨z3, ⟨A7, C7, rfl, r5, r6⟩, -, -⟩
      have HS3' := Lib.hid (HS3.out w7 (HR2.out.2.2.trans r6))
      have HR3 := Lib.hid (And.intro r5 (And.intro r6 (HR2.out.2.2.trans r6)))
      clear r5 r6
      go_wp2_with fail
      (with_reducible refine HS3'.out.mono ?_)
      rintro e w8 ⟨A8, C8, rfl, r7, r8⟩
      have hr2 := own_upd (own_upd HR2.out.1 HR3.out.2.1 (by simp)) r8 (by simp)
      have hsm := sameVC _ _ L L w8 (See.of_row (own_upd HR3.out.1 r8 (by simp))) (See.of_row hr2) (by omega) (by omega)
      rw [decide_eq_true rfl] at hsm
      have HSM := Lib.hid hsm
      have HR4 := Lib.hid (And.intro r7 (And.intro hr2 (And.intro (own_upd (own_upd (own_upd HR1.out.1 HR2.out.2.1 (by simp)) HR3.out.2.1 (by simp)) r8 (by simp)) (HR3.out.2.2.trans r8))))
      clear hsm r7 r8 hr2
      go_wp2_with fail
      (with_reducible refine HSM.out.mono ?_)
      rintro e w9 ⟨rfl, u9⟩
      have hsm := sameVC _ _ L L w9 (See.of_row (own_upd HR4.out.1 u9 (by simp))) (See.of_row (own_upd HR4.out.2.1 u9 (by simp))) (by omega) (by omega)
      rw [decide_eq_true rfl] at hsm
      have HSM2 := Lib.hid hsm
      have HU9 := Lib.hid u9
      clear hsm u9
      have hmm := @run_makeMap Tryz.prog
      go_wp2_with fail
      (with_reducible refine HSM2.out.mono ?_)
      rintro e w10 ⟨rfl, u10⟩
      have hu := HU9.out.trans u10
      have HG := Lib.hid (And.intro (See.of_row (own_upd HR4.out.2.1 hu (by simp))) (And.intro (See.of_row (own_upd HR4.out.2.2.1 hu (by simp))) (HU2.out.trans (HR4.out.2.2.2.trans hu))))
      clear u10 hu
      obtain ⟨nK, hnK⟩ : ∃ n, K.length = n := ⟨_, rfl⟩
      obtain ⟨nL, hnL⟩ : ∃ n, L.length = n := ⟨_, rfl⟩
      rw [hnK] at hl1
      rw [hnL] at hl2
      rw [hnK, hnL]
      have HNN := Lib.hid (And.intro hnK hnL)
      have hu0 : Upd [] w10 (w10.alloc (.map #[] 0)) := (Upd.refl _ _).alloc _
      have hsz : w10.heap.size < (w10.alloc (.map #[] 0)).heap.size := by simp
      have hones : Ones (w10.alloc (.map #[] 0)) w10.heap.size [] := ⟨fun _ => none, MapU.made MKI w10, fun x => by simp⟩
      have HO := Lib.hid (And.intro hones hu0)
      have nK0 : (0 : Int) ≤ (nK : Int) := Int.natCast_nonneg _
      have nL0 : (0 : Int) ≤ (nL : Int) := Int.natCast_nonneg _
      clear hnK hnL hu0 hones
      go_upto_region 16 with fail
      clear hmm
      generalize w10.alloc (.map #[] 0) = W0 at HO hsz ⊢
      obtain ⟨b, hb0⟩ : ∃ b, w10.heap.size = b := ⟨_, rfl⟩
      rw [hb0] at HO hsz ⊢
      have HBB := Lib.hid hb0
      clear hb0
      by_cases hlh : lo ≤ hi
      · have hlhd : decide (lo ≤ hi) = true := decide_eq_true hlh
        have hperm := HP.out.2.1 hlh
        have hndall : (L ++ secL l lo hi).Nodup := hperm.nodup_iff.2 (HP.out.1.imp (by intro a b h; omega))
        have hlenall := hperm.length_eq
        rw [HNN.out.1] at hlenall
        have HPP := Lib.hid (And.intro hperm (And.intro hndall hlenall))
        clear hperm hndall hlenall hlh
        go_wp2_with fail
        go_loopg [88] nL (fun m s88 wr => ∃ j : Nat, m + j = nL ∧ s88 = .int .i64 (j : Int) ∧ Ones wr b (L.take j) ∧ Upd [b] W0 wr)
        case atStart => exact ⟨0, rfl, rfl, by rw [List.take_zero]; exact HO.out.1, Upd.refl _ _⟩
        case round =>
          obtain ⟨j, hj, rfl, hon, hup⟩ := hrel
          have j0 : (0 : Int) ≤ (j : Int) := Int.natCast_nonneg _
          have hjn : j ≤ nL := by omega
          have hwz := hup.size
          have hupw : Upd [] w10 wr := HO.out.2.trans' hup (fun y hy => .inr (by simp at hy; rw [hy, HBB.out]; exact Nat.le_refl _))
          have HJ := Lib.hid (And.intro hj (And.intro hon (And.intro hup hupw)))
          clear hj hup
          by_cases hlt : j < nL
          · obtain ⟨x, hx⟩ : ∃ x, L[j]? = some x := ⟨_, List.getElem?_eq_getElem (by rw [HNN.out.2]; exact hlt)⟩
            have hseL : See KU wr (.slice A6 L.length C6) L := HG.out.1.upd0 hupw
            rw [HNN.out.2] at hseL
            obtain ⟨g, o, rfl, -, -, ex⟩ := KU.atS hseL hx
            obtain ⟨g1, g2⟩ := List.getElem?_eq_some_iff.1 hx
            have hnx : L.take (j + 1) = L.take j ++ [x] := by rw [List.take_succ_eq_append_getElem g1, g2]
            have hx32 := HP.out.2.2.2.2.1 x (List.mem_of_getElem? hx)
            have hnot : x ∉ L.take j := by
              have hnd := HP.out.2.2.2.1
              have h5 : (L.take (j + 1)).Nodup := List.Nodup.sublist (List.take_sublist _ _) hnd
              rw [hnx, List.nodup_append] at h5
              exact fun hc => h5.2.2 x hc x (by simp) rfl
            have hlk := hon.look hx32
            rw [if_neg hnot] at hlk
            obtain ⟨w11, hput, hon2, hu2, -⟩ := hon.put hx32 hnot (by rw [List.length_take]; omega)
            rw [← hnx] at hon2
            have H2 := Lib.hid (And.intro hon2 hu2)
            have b1 : (j : Int) < (nL : Int) := by omega
            clear hx hseL g1 g2 hnx hnot hon hon2 hu2 hupw
            go_wp2_with fail
            go_roundg (nL - (j + 1))
            case measure => have := HJ.out.1; omega
            case rel => exact ⟨j + 1, by have := HJ.out.1; omega, by go_num, H2.out.1, HJ.out.2.2.1.trans H2.out.2⟩
          · have hall : L.take j = L := by rw [show j = L.length by rw [HNN.out.2]; omega]; exact List.take_length
            rw [hall] at hon
            have HON := Lib.hid (And.intro hon (And.intro HJ.out.2.2.1 hupw))
            obtain ⟨W1, hW1⟩ : ∃ W1 : World, W1 = wr := ⟨_, rfl⟩
            subst hW1
            clear hon hall hupw HJ
            go_wp2_with fail
            go_loopg [99] N (fun m s99 wr => ∃ k : Nat, m + k = N ∧ s99 = .int .i64 (k : Int) ∧ Ones wr b (L ++ secL (l.take k) lo hi) ∧ Upd [b] W1 wr)
            case atStart => exact ⟨0, rfl, rfl, by rw [List.take_zero]; exact (by rw [show secL [] lo hi = [] from rfl, List.append_nil]; exact HON.out.1), Upd.refl _ _⟩
            case round =>
              obtain ⟨k, hk, rfl, hon, hup⟩ := hrel
              have k0 : (0 : Int) ≤ (k : Int) := Int.natCast_nonneg _
              have hkN : k ≤ N := by omega
              have hwz2 := hup.size
              have hupw : Upd [] w10 wr := HON.out.2.2.trans' hup (fun y hy => .inr (by simp at hy; rw [hy, HBB.out]; exact Nat.le_refl _))
              have HK := Lib.hid (And.intro hk (And.intro hon (And.intro hup hupw)))
              clear hk hup
              by_cases hlt2 : k < N
              · obtain ⟨s, hs⟩ : ∃ s, l[k]? = some s := ⟨_, List.getElem?_eq_getElem (by rw [HN.out.1]; exact hlt2)⟩
                have hse : See KSp wr (.slice A l.length C) l := by
                  have := H.out.upd0 (HG.out.2.2.trans hupw)
                  rw [HN.out.1]; exact this
                obtain ⟨g, o, rfl, -, -, ey⟩ := hse.at hs
                have y0 : wr.cell? ⟨g, o + k * 3, none⟩ = some (.int .i64 s.lo) := ey 0 _ rfl
                have y1 : wr.cell? ⟨g, o + k * 3 + 1, none⟩ = some (.int .i64 s.hi) := ey 1 _ rfl
                have y2 : wr.cell? ⟨g, o + k * 3 + 2, none⟩ = some (.int .u32 (s.id : Int)) := ey 2 _ rfl
                have hx32 := HN.out.2 s (List.mem_of_getElem? hs)
                obtain ⟨g1, g2⟩ := List.getElem?_eq_some_iff.1 hs
                have hnx : secL (l.take (k + 1)) lo hi = secL (l.take k) lo hi ++ (if (decide (lo < s.lo) && decide (s.lo ≤ hi)) = true then [s.id] else []) := by
                  unfold secL
                  rw [List.take_succ_eq_append_getElem g1, g2, List.filter_append, List.map_append, List.filter_cons, List.filter_nil]
                  congr 1
                  split <;> rfl
                have hsubl : (L ++ secL (l.take (k + 1)) lo hi).Sublist (L ++ secL l lo hi) := List.Sublist.append (List.Sublist.refl _) (((List.take_sublist _ _).filter _).map _)
                have hnd := List.Nodup.sublist hsubl HPP.out.2.1
                have hlen := hsubl.length_le
                rw [HPP.out.2.2] at hlen
                have b1 : (k : Int) < (N : Int) := by omega
                obtain ⟨wl, hwl⟩ : ∃ wl : World, wl = wr := ⟨_, rfl⟩
                subst hwl
                have HX := Lib.hid (And.intro hnx (And.intro hnd hlen))
                clear hs hse ey g1 g2 hnx hsubl hnd hlen hupw hon
                go_upto_region 25 with fail
                have hu2 : Upd [] wl (wl.alloc (.cells #[.int .i64 s.lo, .int .i64 s.hi, .int .u32 (s.id : Int)] 39)) := (Upd.refl _ _).alloc _
                have d0 : (wl.alloc (.cells #[.int .i64 s.lo, .int .i64 s.hi, .int .u32 (s.id : Int)] 39)).cell? ⟨wl.heap.size, 0, none⟩ = some (.int .i64 s.lo) := by rw [World.cell?_alloc_at _ _ _ _ rfl]; rfl
                have d2 : (wl.alloc (.cells #[.int .i64 s.lo, .int .i64 s.hi, .int .u32 (s.id : Int)] 39)).cell? ⟨wl.heap.size, 2, none⟩ = some (.int .u32 (s.id : Int)) := by rw [World.cell?_alloc_at _ _ _ _ rfl]; rfl
                generalize (wl.alloc (.cells #[.int .i64 s.lo, .int .i64 s.hi, .int .u32 (s.id : Int)] 39)) = W2 at hu2 d0 d2 ⊢
                have HU2' := Lib.hid hu2
                clear hu2 y0 y1 y2
                by_cases c1 : lo < s.lo
                · have e1 : decide (lo < s.lo) = true := decide_eq_true c1
                  by_cases c2 : s.lo ≤ hi
                  · have e2 : decide (s.lo ≤ hi) = true := decide_eq_true c2
                    have hnx := HX.out.1
                    rw [if_pos (by rw [e1, e2]; rfl)] at hnx
                    have hnd := HX.out.2.1
                    have hlen := HX.out.2.2
                    rw [hnx, ← List.append_assoc] at hnd hlen
                    rw [List.nodup_append] at hnd
                    have hnot : s.id ∉ L ++ secL (l.take k) lo hi := fun hc => hnd.2.2 s.id hc s.id (by simp) rfl
                    have hon := HK.out.2.1.upd HU2'.out (by simp)
                    have hlk := hon.look hx32
                    rw [if_neg hnot] at hlk
                    rw [List.length_append] at hlen
                    simp only [List.length_singleton] at hlen
                    obtain ⟨w11, hput, hon2, hu2, -⟩ := hon.put hx32 hnot (by omega)
                    rw [List.append_assoc, ← hnx] at hon2
                    have H2 := Lib.hid (And.intro hon2 hu2)
                    clear hnx hnd hlen hnot hon hon2 hu2 c1 c2
                    go_wp2_with fail
                    go_roundg (N - (k + 1))
                    case measure => have := HK.out.1; omega
                    case rel => exact ⟨k + 1, by have := HK.out.1; omega, by go_num, H2.out.1, (HK.out.2.2.1.trans (HU2'.out.mono (by simp))).trans H2.out.2⟩
                  · have e2 : decide (s.lo ≤ hi) = false := decide_eq_false c2
                    have hnx := HX.out.1
                    rw [if_neg (by rw [e1, e2]; decide), List.append_nil] at hnx
                    have HNX := Lib.hid hnx
                    clear hnx c1 c2
                    go_wp2_with fail
                    go_roundg (N - (k + 1))
                    case measure => have := HK.out.1; omega
                    case rel => exact ⟨k + 1, by have := HK.out.1; omega, by go_num, by rw [HNX.out]; exact HK.out.2.1.upd HU2'.out (by simp), HK.out.2.2.1.trans (HU2'.out.mono (by simp))⟩
                · have e1 : decide (lo < s.lo) = false := decide_eq_false c1
                  have hnx := HX.out.1
                  rw [if_neg (by rw [e1]; simp), List.append_nil] at hnx
                  have HNX := Lib.hid hnx
                  clear hnx c1
                  go_wp2_with fail
                  go_roundg (N - (k + 1))
                  case measure => have := HK.out.1; omega
                  case rel => exact ⟨k + 1, by have := HK.out.1; omega, by go_num, by rw [HNX.out]; exact HK.out.2.1.upd HU2'.out (by simp), HK.out.2.2.1.trans (HU2'.out.mono (by simp))⟩
              · have hall : l.take k = l := by rw [show k = l.length by rw [HN.out.1]; omega]; exact List.take_length
                rw [hall] at hon
                have HON2 := Lib.hid (And.intro hon hupw)
                have hmemK : ∀ n ∈ K, n ∈ L ++ secL l lo hi := fun n hn => HPP.out.1.mem_iff.2 hn
                obtain ⟨D, hD⟩ : ∃ D, L ++ secL l lo hi = D := ⟨_, rfl⟩
                have hlD := HPP.out.2.2
                rw [hD] at hmemK HON2 hlD
                obtain ⟨W2, hW2⟩ : ∃ W2 : World, W2 = wr := ⟨_, rfl⟩
                subst hW2
                have HMK := Lib.hid hmemK
                have HLD := Lib.hid hlD
                clear hon hall hupw HK hmemK hD hlD HPP
                go_wp2_with fail
                go_loopg [121] nK (fun m s121 wr => ∃ i : Nat, m + i = nK ∧ s121 = .int .i64 (i : Int) ∧ wr = W2)
                case atStart => exact ⟨0, rfl, rfl, rfl⟩
                case round =>
                  obtain ⟨i, hi', rfl, rfl⟩ := hrel
                  have i0 : (0 : Int) ≤ (i : Int) := Int.natCast_nonneg _
                  have HI := Lib.hid hi'
                  have hseK : See KU wr (.slice A5 K.length C5) K := HG.out.2.1.upd0 HON2.out.2
                  rw [HNN.out.1] at hseK
                  by_cases hlt3 : i < nK
                  · obtain ⟨x, hx⟩ : ∃ x, K[i]? = some x := ⟨_, List.getElem?_eq_getElem (by rw [HNN.out.1]; exact hlt3)⟩
                    obtain ⟨g, o, rfl, -, -, ex⟩ := KU.atS hseK hx
                    have hx32 := HP.out.2.2.2.2.2 x (List.mem_of_getElem? hx)
                    have hlk := HON2.out.1.look hx32
                    rw [if_pos (HMK.out x (List.mem_of_getElem? hx))] at hlk
                    have b1 : (i : Int) < (nK : Int) := by omega
                    by_cases h0 : 0 < i
                    · have e0 : decide (0 < i) = true := decide_eq_true h0
                      obtain ⟨p, hp⟩ : ∃ p, i = p + 1 := ⟨i - 1, by omega⟩
                      have hpa : (i : Int) - 1 = (p : Int) := by omega
                      obtain ⟨y, hy⟩ : ∃ z, K[p]? = some z := ⟨_, List.getElem?_eq_getElem (by rw [HNN.out.1]; omega)⟩
                      obtain ⟨g', o', hA, -, -, ey⟩ := KU.atS hseK hy
                      injection hA with hA
                      injection hA with hA hA2
                      subst hA hA2
                      have hyx : y < x := by
                        obtain ⟨q1, q2⟩ := List.getElem?_eq_some_iff.1 hx
                        obtain ⟨q3, q4⟩ := List.getElem?_eq_some_iff.1 hy
                        have := List.pairwise_iff_getElem.1 HP.out.1 p i q3 q1 (by omega)
                        rw [q2, q4] at this
                        exact this
                      have e1 : decide (x ≤ y) = false := decide_eq_false (by omega)
                      have p0 : (0 : Int) ≤ (p : Int) := Int.natCast_nonneg _
                      have p1 : (p : Int) < (nK : Int) := by omega
                      clear hx hy hseK hi' h0 hyx hp
                      go_wp2_with fail
                      go_roundg (nK - (i + 1))
                      case measure => have := HI.out; omega
                      case rel => exact ⟨i + 1, by have := HI.out; omega, by go_num, rfl⟩
                    · have e0 : decide (0 < i) = false := decide_eq_false h0
                      clear hx hseK hi' h0
                      go_wp2_with fail
                      go_roundg (nK - (i + 1))
                      case measure => have := HI.out; omega
                      case rel => exact ⟨i + 1, by have := HI.out; omega, by go_num, rfl⟩
                  · have hlen := HON2.out.1.len 3
                    rw [HLD.out] at hlen
                    have HAW2 := Lib.hid (HAW.out wr)
                    have hnn : ((nK : Int) == (nK : Int)) = true := by simp
                    clear hi' hseK
                    go_wp2_with fail
                    (with_reducible refine HAW2.out.mono ?_)
                    rintro e w12 ⟨rfl, u12⟩
                    have HU12 := Lib.hid ((HG.out.2.2.trans HON2.out.2).trans u12)
                    clear u12
                    go_wp2_with fail
                    go_ret
                    exact ⟨rfl, HU12.out⟩
      · have hlhd : decide (lo ≤ hi) = false := decide_eq_false hlh
        have hK0 := HP.out.2.2.1 (by omega)
        have hnK0 : nK = 0 := by have := HNN.out.1; rw [hK0] at this; exact this.symm
        subst hnK0
        have hlen := HO.out.1.len 3
        have HAW2 := Lib.hid (HAW.out W0)
        clear hlh hK0
        go_wp2_with fail
        go_loopg [121] 0 (fun m s121 wr => s121 = .int .i64 0 ∧ wr = W0)
        case atStart => exact ⟨rfl, rfl⟩
        case round =>
          obtain ⟨rfl, rfl⟩ := hrel
          go_wp2_with fail
          (with_reducible refine HAW2.out.mono ?_)
          rintro e w12 ⟨rfl, u12⟩
          have HU12 := Lib.hid ((HG.out.2.2.trans HO.out.2).trans u12)
          clear u12
          go_wp2_with fail
          go_ret
          exact ⟨rfl, HU12.out⟩
end Go.Proofs.YtjpjlfcjkgmhdaaGreat
