/- CoverTells: the walk. -/
import Derived.Test.YtcpompbiohaomaaRefM
import Derived.Test.YtcpompbiohaomaaLongsC
import Derived.Test.YtcpompbiohaomaaOpenO
import Derived.Test.YtcpompbiohaomaaAw16
namespace Go.Proofs.Ytcpompbiohaomaa
open Go.RowKit

theorem IsCov.permT {w : World} {b : Nat} {F : List Nat} {M : List Int} {H H' : List (Nat × Nat)} {N : Nat} (h : IsCov w b F M H N) (hp : H.Perm H') : IsCov w b F M H' N := by
  obtain ⟨mv, nv, ov, pv, hb, en, hF, h1, h2⟩ := h
  have e : (fun s => (H.count s : Int)) = fun s => (H'.count s : Int) := by funext s; rw [hp.count_eq]
  rw [cntH_perm hp] at h1
  rw [e] at h2
  exact ⟨mv, nv, ov, pv, hb, en, hF, h1, h2⟩

theorem gapsH_perm {M : List Int} {H H' : List (Nat × Nat)} (h : H.Perm H') : gapsH M H = gapsH M H' := by
  unfold gapsH
  refine List.map_congr_left fun i _ => ?_
  unfold holdsG
  rw [Bool.eq_iff_iff, List.any_eq_true, List.any_eq_true]
  exact ⟨fun ⟨x, h1, h2⟩ => ⟨x, h.mem_iff.1 h1, h2⟩, fun ⟨x, h1, h2⟩ => ⟨x, h.mem_iff.2 h1, h2⟩⟩
theorem wholeG_perm {M : List Int} {H H' : List (Nat × Nat)} (h : H.Perm H') : wholeG M H = wholeG M H' := by unfold wholeG; rw [gapsH_perm h]

theorem addH_perm {M : List Int} {H Hr : List (Nat × Nat)} (lo hi : Int) (h : Hr.Perm H) : (raddH M Hr lo hi).Perm (addH M H lo hi) := by
  unfold raddH addH
  split
  · exact List.perm_append_comm.trans ((List.Perm.cons _ h))
  · exact h
theorem dropH_perm {M : List Int} {H Hr : List (Nat × Nat)} (lo hi : Int) (h : Hr.Perm H) : (dropH M Hr lo hi).Perm (dropH M H lo hi) := by
  unfold dropH
  split
  · exact h.erase _
  · exact h
theorem dropK_perm {M : List Int} {H Hr : List (Nat × Nat)} (lo hi : Int) (h : Hr.Perm H) : dropK M Hr lo hi = dropK M H lo hi := by
  unfold dropK
  simp only [h.mem_iff]
theorem dropX_perm {M : List Int} {H Hr : List (Nat × Nat)} (lo hi : Int) (h : Hr.Perm H) : dropX M Hr lo hi = dropX M H lo hi := by
  unfold dropX
  simp only [h.mem_iff]
theorem addH_len (M : List Int) (H : List (Nat × Nat)) (lo hi : Int) : (addH M H lo hi).length ≤ H.length + 1 := by
  unfold addH; split <;> simp
theorem dropH_len (M : List Int) (H : List (Nat × Nat)) (lo hi : Int) : (dropH M H lo hi).length ≤ H.length + 1 := by
  unfold dropH
  split
  · have := List.length_erase_le (a := spanP M lo hi) (l := H); omega
  · omega

theorem kl_set {w : World} {base g n C : Nat} {l : List Int} (hn : l.length = n) (h : KL.row w base (.slice (some ⟨g, 0, none⟩) n C) l) (k : Nat) (x : Int) :
    KL.row (w.setCell ⟨g, k, none⟩ (.int .i64 x)) base (.slice (some ⟨g, 0, none⟩) n C) (l.set k x) := by
  subst hn
  have h' : w.ownsRow base KL.eT KL.sz (.slice (some ⟨g, 0, none⟩) l.length C) l.length (KL.all l) := h
  have := (World.ownsRow.stored h' k (.int .i64 x)).1
  unfold Kind.row
  rw [List.length_set, KL_all, List.map_set, ← KL_all]
  exact this

theorem three_cells {w : World} {n : Nat} {x0 x1 x2 : Value} {T : TypeId} (h : w.heap[n]? = some (.cells #[x0, x1, x2] T (0, 0))) :
    w.cell? ⟨n, 0, none⟩ = some x0 ∧ w.cell? ⟨n, 1, none⟩ = some x1 ∧ w.cell? ⟨n, 2, none⟩ = some x2 := by
  refine ⟨?_, ?_, ?_⟩ <;> simp [World.cell?, h]

set_option maxRecDepth 100000 in
set_option maxHeartbeats 8000000 in
theorem coverTells_walk (v vl : Value) (M : List Int) (L : List Op16) (w : World) (hs : See KL w v M) (hwf : ∀ x ∈ M, -9223372036854775808 ≤ x ∧ x ≤ 9223372036854775807) (hL : See KO w vl L) :
    Calls Try.prog 3 #[v, vl] w fun e w' => e = .returned (.bool true) ∧ Below w.heap.size w w' := by
  obtain ⟨Av, Cv, rfl⟩ := hs.form
  obtain ⟨Al, Cl, rfl⟩ := hL.form
  obtain ⟨n, hn⟩ : ∃ n, M.length = n := ⟨_, rfl⟩
  obtain ⟨nl, hnl⟩ : ∃ n, L.length = n := ⟨_, rfl⟩
  rw [hn] at hs ⊢
  rw [hnl] at hL ⊢
  by_cases e1 : 40 < n
  · have d1 : decide ((40 : Int) < (n : Int)) = true := decide_eq_true (by omega)
    clear e1 hs hL
    go_enter Try.func3, Try.ntmps3
    go_wp2_with fail
    (with_reducible refine (awake16 _).mono ?_)
    rintro e w1 ⟨rfl, hu⟩
    have HU := Lib.hid hu
    clear hu
    go_wp2_with fail
    go_ret
    exact ⟨rfl, HU.out.below⟩
  have d1 : decide ((40 : Int) < (n : Int)) = false := decide_eq_false (by omega)
  by_cases e2 : 40 < nl
  · have d2 : decide ((40 : Int) < (nl : Int)) = true := decide_eq_true (by omega)
    clear e1 e2 hs hL
    go_enter Try.func3, Try.ntmps3
    go_wp2_with fail
    (with_reducible refine (awake16 _).mono ?_)
    rintro e w1 ⟨rfl, hu⟩
    have HU := Lib.hid hu
    clear hu
    go_wp2_with fail
    go_ret
    exact ⟨rfl, HU.out.below⟩
  have d2 : decide ((40 : Int) < (nl : Int)) = false := decide_eq_false (by omega)
  have hcp := copyLongs (.slice Av n Cv) n (KL.all M) w (by have := hs; unfold See at this; rw [hn] at this; exact this) (KL.all_one M) (by omega)
  have HS := Lib.hid hs
  have HL := Lib.hid hL
  have HN := Lib.hid (And.intro hn (And.intro hnl (And.intro (show n ≤ 40 by omega) (And.intro (show nl ≤ 40 by omega) hwf))))
  have HCP := Lib.hid hcp
  have n1 : (n : Int) ≤ 40 := by omega
  have nl1 : (nl : Int) ≤ 40 := by omega
  clear e1 e2 hs hL hcp hn hnl hwf
  by_cases hr : M.Pairwise (· < ·)
  rotate_left
  · have hrise := fun w hs => risesC (.slice Av n Cv) M w hs (by have := HN.out; omega)
    rw [decide_eq_false hr] at hrise
    have HRI := Lib.hid hrise
    have HNR := Lib.hid hr
    clear hrise hr
    go_enter Try.func3, Try.ntmps3
    go_wp2_with fail
    (with_reducible refine HCP.out.mono ?_)
    rintro e w1 ⟨A, C, rfl, hrow, hu1⟩
    have hse : See KL w1 (.slice A n C) M := by have h := sees_of_own hrow; unfold See; rw [HN.out.1]; exact h
    have HNB := Lib.hid (newBad _ M w1 hse (by have := HN.out; omega) HNR.out)
    have HU1 := Lib.hid hu1
    clear hrow hu1 hse
    go_wp2_with fail
    (with_reducible refine HNB.out.mono ?_)
    rintro e w2 ⟨rfl, hu2⟩
    have HU2 := Lib.hid (HU1.out.trans hu2)
    clear hu2
    go_wp2_with fail
    (with_reducible refine (HRI.out _ (HS.out.upd0 HU2.out)).mono ?_)
    rintro e w3 ⟨rfl, hu3⟩
    have HU3 := Lib.hid (HU2.out.trans hu3)
    clear hu3
    go_wp2_with fail
    (with_reducible refine (awake16 _).mono ?_)
    rintro e w4 ⟨rfl, hu4⟩
    have HU4 := Lib.hid (HU3.out.trans hu4)
    clear hu4
    go_wp2_with fail
    go_ret
    exact ⟨rfl, HU4.out.below⟩
  have hrise := fun w hs => risesC (.slice Av n Cv) M w hs (by have := HN.out; omega)
  rw [decide_eq_true hr] at hrise
  have hok : MarksOk M := ⟨hr, HN.out.2.2.2.2, by have := HN.out; omega⟩
  have hlo := fun a w h1 h2 => longsC a (.slice Av n Cv) M M w h1 h2 (by have := HN.out; omega) (by have := HN.out; omega)
  rw [decide_eq_true rfl] at hlo
  have HRI := Lib.hid hrise
  have HOK := Lib.hid hok
  have HLO := Lib.hid hlo
  clear hrise hr hok hlo
  go_enter Try.func3, Try.ntmps3
  go_wp2_with fail
  (with_reducible refine HCP.out.mono ?_)
  rintro e w1 ⟨A, C, rfl, hrow, hu1⟩
  have hse : See KL w1 (.slice A n C) M := by have h := sees_of_own hrow; unfold See; rw [HN.out.1]; exact h
  have hkr : KL.row w1 w.heap.size (.slice A n C) M := by unfold Kind.row; rw [HN.out.1]; exact hrow
  have HNC := Lib.hid (newC _ M w1 hse HOK.out)
  have HU1 := Lib.hid hu1
  have HKR := Lib.hid (And.intro hse hkr)
  clear hrow hu1 hse hkr
  go_wp2_with fail
  (with_reducible refine HNC.out.mono ?_)
  rintro e w2 ⟨b, F, rfl, hcov, hu2, hF⟩
  have HU2 := Lib.hid (HU1.out.trans hu2)
  have HC2 := Lib.hid (And.intro hcov (And.intro hF hu2))
  clear hcov hu2 hF
  go_wp2_with fail
  (with_reducible refine (HRI.out _ (HS.out.upd0 HU2.out)).mono ?_)
  rintro e w3 ⟨rfl, hu3⟩
  have HU3 := Lib.hid (HU2.out.trans hu3)
  have HU3b := Lib.hid (HC2.out.2.2.trans hu3)
  have HU3c := Lib.hid hu3
  clear hu3
  go_wp2_with fail
  (with_reducible refine (HLO.out _ _ (HKR.out.1.upd0 HU3b.out) (HS.out.upd0 HU3.out)).mono ?_)
  rintro e w4 ⟨rfl, hu4⟩
  have HU4 := Lib.hid (HU3.out.trans hu4)
  have hc4 := (HC2.out.1.upd0 HU3c.out).upd0 hu4
  have hk4 : KL.row w4 w.heap.size (.slice A n C) M := own_upd HKR.out.2 (HU3b.out.trans hu4) (by simp)
  have HC4 := Lib.hid (And.intro hc4 hk4)
  have hFI : ∀ y ∈ F, y ∉ blk (.slice A n C) := fun y hy hc => by have h1 := HC2.out.2.1 y hy; have h2 := own_lt HKR.out.2 y hc; omega
  have HFI := Lib.hid hFI
  clear hu4 hc4 hk4 hFI
  go_wp2_with fail
  go_loopg [8, 58] n (fun m s8 s58 wr => ∃ (i : Nat) (l : List Int), m + i = n ∧ s58 = .int .i64 (i : Int) ∧ l.length = n ∧ KL.row wr w.heap.size (.slice A n C) l ∧ Upd (blk (.slice A n C)) w4 wr)
  case atStart => exact ⟨0, M, rfl, rfl, HN.out.1, HC4.out.2, Upd.refl _ _⟩
  case round =>
    obtain ⟨i, l, hi, rfl, hl, hrow, hu⟩ := hrel
    have HI := Lib.hid (And.intro hi hl)
    have HR := Lib.hid (And.intro hrow hu)
    have i0 : (0 : Int) ≤ (i : Int) := Int.natCast_nonneg _
    by_cases hlt : i < n
    · have i1 : (i : Int) < (n : Int) := by omega
      obtain ⟨x, hx⟩ : ∃ x, l[i]? = some x := ⟨_, List.getElem?_eq_getElem (show i < l.length by omega)⟩
      obtain ⟨g, hA, -, x0, xf⟩ := rowAt hrow hx
      subst hA
      have x0' := x0 0 _ rfl
      have e0 : i * KL.sz + 0 = i := by simp [KL]
      rw [e0] at x0'
      have xf' := xf i
      have hset := kl_set hl hrow i 0
      have HSET := Lib.hid (And.intro hset ((hu.setCell (p := ⟨g, i, none⟩) (.inl (by simp [blk])) (.int .i64 0))))
      clear hi hl hrow hu x0 xf hset e0 hx
      go_wp2_with fail
      go_roundg (n - (i + 1))
      case measure => have := HI.out.1; omega
      case rel => exact ⟨i + 1, _, by have := HI.out.1; omega, by go_num, by rw [List.length_set]; exact HI.out.2, HSET.out.1, HSET.out.2⟩
    · have hwr : Upd [] w wr := HU4.out.trans' hu (fun y hy => .inr (own_ge HC4.out.2 y hy))
      have hcr : IsCov wr b F M [] 0 := HC4.out.1.upd hu HFI.out
      have HW := Lib.hid (And.intro hwr hcr)
      clear hi hl hrow hu hwr hcr
      go_upto_region 15 with fail
      obtain ⟨w5, hw5⟩ : ∃ W, wr.alloc (.cells #[.slice Av n Cv, .slice none 0 0] 35) = W := ⟨_, rfl⟩
      have hn5 := heap_alloc_new wr (.cells #[.slice Av n Cv, .slice none 0 0] 35)
      have hu5 : Upd [] wr w5 := by rw [← hw5]; exact (Upd.refl _ _).alloc _
      have hs5 : wr.heap.size < w5.heap.size := by rw [← hw5]; simp
      rw [hw5] at hn5 ⊢
      obtain ⟨r, hr⟩ : ∃ r, wr.heap.size = r := ⟨_, rfl⟩
      rw [hr] at hn5 hs5 ⊢
      have hsv : See KL w5 (.slice Av n Cv) M := HS.out.upd0 (HW.out.1.trans hu5)
      have hrc : RcAt w5 r (.slice Av n Cv) (.slice none 0 0) M [] := ⟨hn5, hsv, World.ownsRow_nil _ _ _ _, by simp [blk], fun h0 k hk => ⟨by have h1 := see_lt HS.out h0 k hk; have h2 := HW.out.1.size; omega, by simp [blk]⟩⟩
      have hc5 := HW.out.2.upd0 hu5
      have hFr : ∀ y ∈ F, y ≠ r ∧ w.heap.size ≤ y := fun y hy => by have h1 := HW.out.2.lt y hy; have h2 := HC2.out.2.1 y hy; have h3 := HU1.out.size; omega
      have H5 := Lib.hid (And.intro hrc (And.intro hc5 (And.intro hFr (And.intro hs5 (And.intro (HW.out.1.trans hu5) (show w.heap.size ≤ r by rw [← hr]; exact HW.out.1.size))))))
      clear hw5 hn5 hu5 hs5 hr hsv hrc hc5 hFr hlt i0
      go_wp2_with fail
      go_loopg [11, 12, 13, 14, 15, 70] nl (fun m _ _ _ _ _ s70 wr => ∃ (k : Nat) (H Hr : List (Nat × Nat)) (N : Nat) (hv : Value), m + k = nl ∧ s70 = .int .i64 (k : Int) ∧ IsCov wr b F M H N ∧ N ≤ k ∧ H.length ≤ k ∧ HOkC M H ∧ RcAt wr r (.slice Av n Cv) hv M Hr ∧ Hr.Perm H ∧ (∀ y ∈ blk hv, w5.heap.size ≤ y) ∧ Upd (r :: F) w5 wr)
      case atStart => exact ⟨0, [], [], 0, _, rfl, rfl, H5.out.2.1, Nat.le_refl _, Nat.le_refl _, by intro u hu; simp at hu, H5.out.1, List.Perm.refl _, by simp [blk], Upd.refl _ _⟩
      case round =>
        obtain ⟨k, H, Hr, N, hv, hk, rfl, hcov, hNk, hHk, hhok, hrc, hperm, hhv, hu⟩ := hrel
        obtain ⟨wl, rfl⟩ : ∃ wl : World, wl = wr := ⟨_, rfl⟩
        have hwl : Upd [] w wl := H5.out.2.2.2.2.1.trans' hu (fun y hy => by
          rcases List.mem_cons.1 hy with rfl | hy
          · exact .inr H5.out.2.2.2.2.2
          · exact .inr (H5.out.2.2.1 y hy).2)
        have HK := Lib.hid (And.intro hk (And.intro hNk hHk))
        have HX := Lib.hid (And.intro hcov (And.intro hhok (And.intro hrc (And.intro hperm (And.intro hhv hu)))))
        have HWL := Lib.hid hwl
        have k0 : (0 : Int) ≤ (k : Int) := Int.natCast_nonneg _
        by_cases hlt : k < nl
        · have k1 : (k : Int) < (nl : Int) := by omega
          obtain ⟨x, hx⟩ : ∃ x, L[k]? = some x := ⟨_, List.getElem?_eq_getElem (by rw [HN.out.2.1]; exact hlt)⟩
          obtain ⟨gl, ol, hA, -, -, x0, x1, x2⟩ := KO.at (HL.out.upd0 hwl) hx
          subst hA
          obtain ⟨xd, lo, hi⟩ := x
          dsimp only at x0 x1 x2
          have HLT := Lib.hid hlt
          clear hk hcov hNk hHk hhok hrc hperm hhv hu hwl hx hlt
          go_upto_region 18 with fail
          obtain ⟨q, hq⟩ : ∃ q, wl.heap.size = q := ⟨_, rfl⟩
          obtain ⟨W, hW⟩ : ∃ W, wl.alloc (.cells #[.bool xd, .int .i64 lo, .int .i64 hi] 37) = W := ⟨_, rfl⟩
          have hnq := heap_alloc_new wl (.cells #[.bool xd, .int .i64 lo, .int .i64 hi] 37)
          have huW : Upd [] wl W := by rw [← hW]; exact (Upd.refl _ _).alloc _
          rw [hW, hq] at hnq
          rw [hW, hq]
          have hcW := HX.out.1.upd0 huW
          have hrW := HX.out.2.2.1.upd0 huW
          have hqF : q ∉ F := fun hc => by have := HX.out.1.lt q hc; omega
          have hqr : q ≠ r := by have := lt_of_block HX.out.2.2.1.head; omega
          obtain ⟨q0, q1, q2⟩ := three_cells hnq
          have HQ := Lib.hid (And.intro hqF (And.intro hqr (And.intro q1 (And.intro q2 huW))))
          cases xd
          · have hst := addC b F M H N W lo hi hcW HOK.out (by have := HK.out; have := HN.out; omega) (by have := HK.out; have := HN.out; omega)
            have hrs := fun w1 h => raddC r (.slice Av n Cv) hv M Hr lo hi w1 h HOK.out.rise (by have := HN.out; omega) (by have := HX.out.2.2.2.1.length_eq; have := HK.out; have := HN.out; omega)
            have hp' := addH_perm lo hi HX.out.2.2.2.1 (M := M)
            have hok' := add_hok (lo := lo) (hi := hi) HOK.out HX.out.2.1
            have hlen' := addH_len M H lo hi
            have hg1 := gapsM_eq hok'
            have hg2 := wholeP_eq hok'
            have hg3 := gapsH_perm (M := M) hp'
            have hg4 := wholeG_perm (M := M) hp'
            obtain ⟨H', hH'⟩ : ∃ H', addH M H lo hi = H' := ⟨_, rfl⟩
            obtain ⟨Hr', hHr'⟩ : ∃ H', raddH M Hr lo hi = H' := ⟨_, rfl⟩
            obtain ⟨K, hK'⟩ : ∃ K, addK M lo hi = K := ⟨_, rfl⟩
            obtain ⟨X, hX'⟩ : ∃ K, addX M lo hi = K := ⟨_, rfl⟩
            rw [hH', hK', hX'] at hst
            rw [hHr', hK', hX'] at hrs
            rw [hH'] at hp' hok' hlen' hg1 hg2 hg3 hg4
            rw [hHr'] at hp' hg3 hg4
            obtain ⟨G, hG⟩ : ∃ G, gapsH M H' = G := ⟨_, rfl⟩
            obtain ⟨V, hV⟩ : ∃ V, wholeG M H' = V := ⟨_, rfl⟩
            have hGl : G.length < 1000000 := by rw [← hG]; unfold gapsH; rw [List.length_map, List.length_range]; have := HN.out; omega
            rw [hG] at hg1 hg3
            rw [hV] at hg2 hg4
            have hlg := fun N' w1 h => longC b F M H' N' w1 h
            have hrn := fun N' w1 h => runsC b F M H' N' w1 h
            have hgp := fun N' w1 h => gapsC b F M H' N' w1 h HOK.out.len
            have hHr'n : Hr'.length < 100000 := by have := hp'.length_eq; have := HK.out; have := HN.out; omega
            have hrlg := fun hv' w1 h => rlongC r (.slice Av n Cv) hv' M Hr' w1 h HOK.out.rise HOK.out.wf (by have := HN.out; omega) hHr'n
            have hrrn := fun hv' w1 h => rrunsC r (.slice Av n Cv) hv' M Hr' w1 h (by have := HN.out; omega) hHr'n
            have hrgp := fun hv' w1 h => rgapsC r (.slice Av n Cv) hv' M Hr' w1 h (by have := HN.out; omega) hHr'n
            rw [hg2] at hlg hrn
            rw [hg1] at hgp
            rw [hg4] at hrlg hrrn
            rw [hg3] at hrgp
            unfold GapsPost at hgp hrgp
            have hsm := fun a b w1 ha hb => same16 a b G G w1 ha hb hGl hGl
            rw [decide_eq_true rfl] at hsm
            have HST := Lib.hid hst
            have HRS := Lib.hid hrs
            have HPP := Lib.hid (And.intro hp' (And.intro hok' hlen'))
            have HC1 := Lib.hid (And.intro hlg (And.intro hrn hgp))
            have HR1 := Lib.hid (And.intro hrlg (And.intro hrrn hrgp))
            have HSM := Lib.hid hsm
            clear hst hrs hp' hok' hlen' hg1 hg2 hg3 hg4 hH' hHr' hK' hX' hG hV hGl hlg hrn hgp hrlg hrrn hrgp hsm hHr'n hcW hqF hqr hnq huW hW hq x0 x1 x2
            have HRW := Lib.hid hrW
            clear hrW
            go_wp2_with fail
            (with_reducible refine HST.out.mono ?_)
            rintro e w6 ⟨rfl, ⟨N', hN', hc6⟩, hu6⟩
            have hr6 : RcAt w6 r (.slice Av n Cv) hv M Hr := HRW.out.upd hu6 (fun hc => (H5.out.2.2.1 r hc).1 rfl) (fun y hy hc => by have h1 := HX.out.2.2.2.2.1 y hy; have h2 := H5.out.2.1.lt y hc; omega) (fun h0 y hy hc => by have h1 := see_lt HS.out h0 y hy; have h2 := (H5.out.2.2.1 y hc).2; omega)
            have q1' := (hu6.cell (p := ⟨q, 1, none⟩) (World.block_lt_of_cell? _ _ HQ.out.2.2.1) HQ.out.1).trans HQ.out.2.2.1
            have q2' := (hu6.cell (p := ⟨q, 2, none⟩) (World.block_lt_of_cell? _ _ HQ.out.2.2.2.1) HQ.out.1).trans HQ.out.2.2.2.1
            have HC6 := Lib.hid (And.intro hc6 (And.intro hN' (And.intro hr6 hu6)))
            have HRS6 := Lib.hid (HRS.out w6 hr6)
            clear hc6 hN' hr6 hu6 q0 q1 q2
            go_wp2_with fail
            (with_reducible refine HRS6.out.mono ?_)
            rintro e w7 ⟨rfl, hv', hr7, hu7, hb7⟩
            have hc7 : IsCov w7 b F M H' N' := HC6.out.1.upd hu7 (fun y hy hc => by simp at hc; exact (H5.out.2.2.1 y hy).1 hc)
            have hb7' : ∀ y ∈ blk hv', w5.heap.size ≤ y := fun y hy => by
              rcases hb7 y hy with h | h
              · exact HX.out.2.2.2.2.1 y h
              · have h1 := HX.out.2.2.2.2.2.size; have h2 := HQ.out.2.2.2.2.size; have h3 := HC6.out.2.2.2.size; omega
            have huT : Upd (r :: F) w5 w7 := (((HX.out.2.2.2.2.2).trans (HQ.out.2.2.2.2.mono (by simp))).trans (HC6.out.2.2.2.mono (fun y hy => .inl (by simp [hy])))).trans (hu7.mono (fun y hy => .inl (by simp at hy; simp [hy])))
            have H7 := Lib.hid (And.intro hc7 (And.intro hr7 (And.intro hb7' huT)))
            clear hc7 hr7 hu7 hb7 hb7' huT q1' q2'
            go_wp2_with fail
            (with_reducible refine (HC1.out.1 _ _ H7.out.1).mono ?_)
            rintro e w8 ⟨rfl, hu8⟩
            have HU8 := Lib.hid hu8
            clear hu8
            go_wp2_with fail
            (with_reducible refine (HR1.out.1 _ _ (H7.out.2.1.upd0 HU8.out)).mono ?_)
            rintro e w9 ⟨rfl, hu9⟩
            have HU9 := Lib.hid (HU8.out.trans hu9)
            clear hu9
            go_wp2_with fail
            (with_reducible refine (HC1.out.2.1 _ _ (H7.out.1.upd0 HU9.out)).mono ?_)
            rintro e w10 ⟨rfl, hu10⟩
            have HU10 := Lib.hid (HU9.out.trans hu10)
            clear hu10
            go_wp2_with fail
            (with_reducible refine (HR1.out.2.1 _ _ (H7.out.2.1.upd0 HU10.out)).mono ?_)
            rintro e w11 ⟨rfl, hu11⟩
            have HU11 := Lib.hid (HU10.out.trans hu11)
            clear hu11
            go_wp2_with fail
            (with_reducible refine (HC1.out.2.2 _ _ (H7.out.1.upd0 HU11.out)).mono ?_)
            rintro e w12 ⟨Ag, Cg, rfl, hg12, hu12⟩
            have HU12 := Lib.hid (And.intro (HU11.out.trans hu12) (See.of_row hg12))
            clear hu12 hg12
            go_wp2_with fail
            (with_reducible refine (HR1.out.2.2 _ _ (H7.out.2.1.upd0 HU12.out.1)).mono ?_)
            rintro e w13 ⟨Ah, Ch, rfl, hg13, hu13⟩
            have HU13 := Lib.hid (And.intro (HU12.out.1.trans hu13) (And.intro (HU12.out.2.upd0 hu13) (See.of_row hg13)))
            clear hu13 hg13
            go_wp2_with fail
            (with_reducible refine (HSM.out _ _ _ HU13.out.2.1 HU13.out.2.2).mono ?_)
            rintro e w14 ⟨rfl, hu14⟩
            have HU14 := Lib.hid (HU13.out.1.trans hu14)
            clear hu14
            go_wp2_with fail
            go_roundg (nl - (k + 1))
            case measure => have := HK.out; have := HLT.out; omega
            case rel => exact ⟨k + 1, H', Hr', N', hv', by have := HK.out; have := HLT.out; omega, by go_num, H7.out.1.upd0 HU14.out, by have := HK.out; have := HC6.out.2.1; omega, by have := HPP.out.2.2; have := HK.out; omega, HPP.out.2.1, H7.out.2.1.upd0 HU14.out, HPP.out.1, H7.out.2.2.1, H7.out.2.2.2.trans (HU14.out.mono (by simp))⟩
          · have hst := dropC b F M H N W lo hi hcW HOK.out (by have := HK.out; have := HN.out; omega) (by have := HK.out; have := HN.out; omega)
            have hrs := fun w1 h => rdropC r (.slice Av n Cv) hv M Hr lo hi w1 h HOK.out.rise (by have := HN.out; omega) (by have := HX.out.2.2.2.1.length_eq; have := HK.out; have := HN.out; omega)
            rw [dropK_perm lo hi HX.out.2.2.2.1, dropX_perm lo hi HX.out.2.2.2.1] at hrs
            have hp' := dropH_perm lo hi HX.out.2.2.2.1 (M := M)
            have hok' := drop_hok (lo := lo) (hi := hi) HX.out.2.1
            have hlen' := dropH_len M H lo hi
            have hg1 := gapsM_eq hok'
            have hg2 := wholeP_eq hok'
            have hg3 := gapsH_perm (M := M) hp'
            have hg4 := wholeG_perm (M := M) hp'
            obtain ⟨H', hH'⟩ : ∃ H', dropH M H lo hi = H' := ⟨_, rfl⟩
            obtain ⟨Hr', hHr'⟩ : ∃ H', dropH M Hr lo hi = H' := ⟨_, rfl⟩
            obtain ⟨K, hK'⟩ : ∃ K, dropK M H lo hi = K := ⟨_, rfl⟩
            obtain ⟨X, hX'⟩ : ∃ K, dropX M H lo hi = K := ⟨_, rfl⟩
            rw [hH', hK', hX'] at hst
            rw [hHr', hK', hX'] at hrs
            rw [hH'] at hp' hok' hlen' hg1 hg2 hg3 hg4
            rw [hHr'] at hp' hg3 hg4
            obtain ⟨G, hG⟩ : ∃ G, gapsH M H' = G := ⟨_, rfl⟩
            obtain ⟨V, hV⟩ : ∃ V, wholeG M H' = V := ⟨_, rfl⟩
            have hGl : G.length < 1000000 := by rw [← hG]; unfold gapsH; rw [List.length_map, List.length_range]; have := HN.out; omega
            rw [hG] at hg1 hg3
            rw [hV] at hg2 hg4
            have hlg := fun N' w1 h => longC b F M H' N' w1 h
            have hrn := fun N' w1 h => runsC b F M H' N' w1 h
            have hgp := fun N' w1 h => gapsC b F M H' N' w1 h HOK.out.len
            have hHr'n : Hr'.length < 100000 := by have := hp'.length_eq; have := HK.out; have := HN.out; omega
            have hrlg := fun hv' w1 h => rlongC r (.slice Av n Cv) hv' M Hr' w1 h HOK.out.rise HOK.out.wf (by have := HN.out; omega) hHr'n
            have hrrn := fun hv' w1 h => rrunsC r (.slice Av n Cv) hv' M Hr' w1 h (by have := HN.out; omega) hHr'n
            have hrgp := fun hv' w1 h => rgapsC r (.slice Av n Cv) hv' M Hr' w1 h (by have := HN.out; omega) hHr'n
            rw [hg2] at hlg hrn
            rw [hg1] at hgp
            rw [hg4] at hrlg hrrn
            rw [hg3] at hrgp
            unfold GapsPost at hgp hrgp
            have hsm := fun a b w1 ha hb => same16 a b G G w1 ha hb hGl hGl
            rw [decide_eq_true rfl] at hsm
            have HST := Lib.hid hst
            have HRS := Lib.hid hrs
            have HPP := Lib.hid (And.intro hp' (And.intro hok' hlen'))
            have HC1 := Lib.hid (And.intro hlg (And.intro hrn hgp))
            have HR1 := Lib.hid (And.intro hrlg (And.intro hrrn hrgp))
            have HSM := Lib.hid hsm
            clear hst hrs hp' hok' hlen' hg1 hg2 hg3 hg4 hH' hHr' hK' hX' hG hV hGl hlg hrn hgp hrlg hrrn hrgp hsm hHr'n hcW hqF hqr hnq huW hW hq x0 x1 x2
            have HRW := Lib.hid hrW
            clear hrW
            go_wp2_with fail
            (with_reducible refine HST.out.mono ?_)
            rintro e w6 ⟨rfl, ⟨N', hN', hc6⟩, hu6⟩
            have hr6 : RcAt w6 r (.slice Av n Cv) hv M Hr := HRW.out.upd hu6 (fun hc => (H5.out.2.2.1 r hc).1 rfl) (fun y hy hc => by have h1 := HX.out.2.2.2.2.1 y hy; have h2 := H5.out.2.1.lt y hc; omega) (fun h0 y hy hc => by have h1 := see_lt HS.out h0 y hy; have h2 := (H5.out.2.2.1 y hc).2; omega)
            have q1' := (hu6.cell (p := ⟨q, 1, none⟩) (World.block_lt_of_cell? _ _ HQ.out.2.2.1) HQ.out.1).trans HQ.out.2.2.1
            have q2' := (hu6.cell (p := ⟨q, 2, none⟩) (World.block_lt_of_cell? _ _ HQ.out.2.2.2.1) HQ.out.1).trans HQ.out.2.2.2.1
            have HC6 := Lib.hid (And.intro hc6 (And.intro hN' (And.intro hr6 hu6)))
            have HRS6 := Lib.hid (HRS.out w6 hr6)
            clear hc6 hN' hr6 hu6 q0 q1 q2
            go_wp2_with fail
            (with_reducible refine HRS6.out.mono ?_)
            rintro e w7 ⟨rfl, hv', hr7, hu7, hb7⟩
            have hc7 : IsCov w7 b F M H' N' := HC6.out.1.upd hu7 (fun y hy hc => by simp at hc; exact (H5.out.2.2.1 y hy).1 hc)
            have hb7' : ∀ y ∈ blk hv', w5.heap.size ≤ y := fun y hy => by
              rcases hb7 y hy with h | h
              · exact HX.out.2.2.2.2.1 y h
              · have h1 := HX.out.2.2.2.2.2.size; have h2 := HQ.out.2.2.2.2.size; have h3 := HC6.out.2.2.2.size; omega
            have huT : Upd (r :: F) w5 w7 := (((HX.out.2.2.2.2.2).trans (HQ.out.2.2.2.2.mono (by simp))).trans (HC6.out.2.2.2.mono (fun y hy => .inl (by simp [hy])))).trans (hu7.mono (fun y hy => .inl (by simp at hy; simp [hy])))
            have H7 := Lib.hid (And.intro hc7 (And.intro hr7 (And.intro hb7' huT)))
            clear hc7 hr7 hu7 hb7 hb7' huT q1' q2'
            go_wp2_with fail
            (with_reducible refine (HC1.out.1 _ _ H7.out.1).mono ?_)
            rintro e w8 ⟨rfl, hu8⟩
            have HU8 := Lib.hid hu8
            clear hu8
            go_wp2_with fail
            (with_reducible refine (HR1.out.1 _ _ (H7.out.2.1.upd0 HU8.out)).mono ?_)
            rintro e w9 ⟨rfl, hu9⟩
            have HU9 := Lib.hid (HU8.out.trans hu9)
            clear hu9
            go_wp2_with fail
            (with_reducible refine (HC1.out.2.1 _ _ (H7.out.1.upd0 HU9.out)).mono ?_)
            rintro e w10 ⟨rfl, hu10⟩
            have HU10 := Lib.hid (HU9.out.trans hu10)
            clear hu10
            go_wp2_with fail
            (with_reducible refine (HR1.out.2.1 _ _ (H7.out.2.1.upd0 HU10.out)).mono ?_)
            rintro e w11 ⟨rfl, hu11⟩
            have HU11 := Lib.hid (HU10.out.trans hu11)
            clear hu11
            go_wp2_with fail
            (with_reducible refine (HC1.out.2.2 _ _ (H7.out.1.upd0 HU11.out)).mono ?_)
            rintro e w12 ⟨Ag, Cg, rfl, hg12, hu12⟩
            have HU12 := Lib.hid (And.intro (HU11.out.trans hu12) (See.of_row hg12))
            clear hu12 hg12
            go_wp2_with fail
            (with_reducible refine (HR1.out.2.2 _ _ (H7.out.2.1.upd0 HU12.out.1)).mono ?_)
            rintro e w13 ⟨Ah, Ch, rfl, hg13, hu13⟩
            have HU13 := Lib.hid (And.intro (HU12.out.1.trans hu13) (And.intro (HU12.out.2.upd0 hu13) (See.of_row hg13)))
            clear hu13 hg13
            go_wp2_with fail
            (with_reducible refine (HSM.out _ _ _ HU13.out.2.1 HU13.out.2.2).mono ?_)
            rintro e w14 ⟨rfl, hu14⟩
            have HU14 := Lib.hid (HU13.out.1.trans hu14)
            clear hu14
            go_wp2_with fail
            go_roundg (nl - (k + 1))
            case measure => have := HK.out; have := HLT.out; omega
            case rel => exact ⟨k + 1, H', Hr', N', hv', by have := HK.out; have := HLT.out; omega, by go_num, H7.out.1.upd0 HU14.out, by have := HK.out; have := HC6.out.2.1; omega, by have := HPP.out.2.2; have := HK.out; omega, HPP.out.2.1, H7.out.2.1.upd0 HU14.out, HPP.out.1, H7.out.2.2.1, H7.out.2.2.2.trans (HU14.out.mono (by simp))⟩
        · have hd : decide ((k : Int) < (nl : Int)) = false := decide_eq_false (by omega)
          clear hk hcov hNk hHk hhok hrc hperm hhv hu hwl
          go_wp2_with fail
          (with_reducible refine (awake16 _).mono ?_)
          rintro e w6 ⟨rfl, hu6⟩
          have HU6 := Lib.hid (HWL.out.trans hu6)
          clear hu6
          go_wp2_with fail
          go_ret
          exact ⟨rfl, HU6.out.below⟩
end Go.Proofs.Ytcpompbiohaomaa
