/- CoverBack: the walk. -/
import Derived.Test.YthkiljfjjnckaaaCoverParts
namespace Go.Proofs.Ythkiljfjjnckaaa
open Go.RowKit
attribute [local go_sem ↓] Go.wp_at_zero Go.wp_at_succ

theorem IsCov.perm {w : World} {b : Nat} {F : List Nat} {M : List Int} {H H' : List (Nat × Nat)} {N : Nat} (h : IsCov w b F M H N) (hp : H.Perm H') : IsCov w b F M H' N := by
  obtain ⟨mv, nv, ov, pv, hb, en, hF, h1, h2⟩ := h
  have e : (fun s => (H.count s : Int)) = fun s => (H'.count s : Int) := by funext s; rw [hp.count_eq]
  rw [cntH_perm hp] at h1
  rw [e] at h2
  exact ⟨mv, nv, ov, pv, hb, en, hF, h1, h2⟩

/-- What is left behind the first k have gone. -/
def leftH (M : List Int) (stay pass : List (Nat × Nat)) (k : Nat) : List (Nat × Nat) := (pass.drop k).map (fun p => pairP M p.1 p.2) ++ covH M stay

theorem leftH_cons {M : List Int} {stay pass : List (Nat × Nat)} {k : Nat} {p : Nat × Nat} (h : pass[k]? = some p) : leftH M stay pass k = pairP M p.1 p.2 :: leftH M stay pass (k + 1) := by
  unfold leftH
  obtain ⟨hk, he⟩ := List.getElem?_eq_some_iff.1 h
  rw [List.drop_eq_getElem_cons hk, he]
  rfl

theorem leftH_zero (M : List Int) (stay pass : List (Nat × Nat)) : (covH M (pass ++ stay)).Perm (leftH M stay pass 0) := by
  unfold leftH covH
  rw [List.map_append, List.reverse_append, List.drop_zero]
  exact (List.perm_append_comm).trans ((List.reverse_perm _).append_right _)

theorem leftH_end (M : List Int) (stay pass : List (Nat × Nat)) : leftH M stay pass pass.length = covH M stay := by
  unfold leftH; rw [List.drop_length]; rfl

theorem leftH_len (M : List Int) (stay pass : List (Nat × Nat)) (k : Nat) : (leftH M stay pass k).length ≤ pass.length + stay.length := by
  unfold leftH covH; simp

theorem covH_succ {M : List Int} {L : List (Nat × Nat)} {k : Nat} {p : Nat × Nat} (h : L[k]? = some p) : covH M (L.take (k + 1)) = pairP M p.1 p.2 :: covH M (L.take k) := by
  unfold covH
  rw [List.take_add_one, h]
  simp

theorem runs_none (M : List Int) : (wholeP M []).runs = 0 := by
  rw [wholeP_eq (by intro u hu; simp at hu)]
  unfold wholeG gapsH partG
  dsimp only
  rw [holds_nil]
  have : ∀ n, runsG false (List.replicate n false) = 0 := by
    intro n
    induction n with
    | zero => rfl
    | succ n ih => rw [List.replicate_succ, runsG, ih]; rfl
  rw [this]
  rfl

theorem info_pr : (Try.prog.info? 57).map (fun i => (i.zero, i.size, i.bytes)) = some (some (.agg #[.int .u16 0, .int .u16 0]), 2, 4) := by kernel_rfl

set_option maxRecDepth 100000 in
set_option maxHeartbeats 8000000 in
theorem coverBack_walk (v vs vp : Value) (l : List Int) (stay pass : List (Nat × Nat)) (w : World) (hs : See KL w v l) (hwf : ∀ x ∈ l, -9223372036854775808 ≤ x ∧ x ≤ 9223372036854775807) (hlb : l.length * 8 ≤ 140737488355328)
    (hS : See KPr w vs stay) (hSw : ∀ p ∈ stay, p.1 < 65536 ∧ p.2 < 65536) (hP : See KPr w vp pass) (hPw : ∀ p ∈ pass, p.1 < 65536 ∧ p.2 < 65536) :
    Calls Try.prog 11 #[v, vs, vp] w fun e w' => e = .returned (.bool true) ∧ Below w.heap.size w w' := by
  obtain ⟨i0, hi, hz0, hz1, hz2⟩ := info_parts info_pr
  obtain ⟨Av, Cv, rfl⟩ := hs.form
  obtain ⟨As, Cs, rfl⟩ := hS.form
  obtain ⟨Ap, Cp, rfl⟩ := hP.form
  have hsq := squeezeC _ l _ hs hlb
  unfold SqzPost at hsq
  obtain ⟨M, hM⟩ : ∃ M, sqz l = M := ⟨_, rfl⟩
  obtain ⟨n, hn⟩ : ∃ n, M.length = n := ⟨_, rfl⟩
  have hle := sqz_len l
  rw [hM, hn] at hle
  rw [hM, hn] at hsq
  have HSQ := Lib.hid hsq
  have HM := Lib.hid (And.intro hM (And.intro hn hle))
  have HS := Lib.hid (And.intro hS hSw)
  have HP := Lib.hid (And.intro hP hPw)
  have HWF := Lib.hid hwf
  clear hsq hM hn hle hS hSw hP hPw hwf hs hlb
  by_cases e1 : 200 < l.length
  · have d1 : decide ((200 : Int) < (l.length : Int)) = true := decide_eq_true (by omega)
    clear e1
    go_enter Try.func11, Try.ntmps11
    go_wp2_with fail
    (with_reducible refine HSQ.out.mono ?_)
    rintro e w1 ⟨A, C, rfl, hrow, hu1⟩
    have HU1 := Lib.hid hu1
    clear hrow hu1
    go_wp2_with fail
    (with_reducible refine (awake16 _).mono ?_)
    rintro e w2 ⟨rfl, hu⟩
    have HU2 := Lib.hid (HU1.out.trans hu)
    clear hu
    go_wp2_with fail
    go_ret
    exact ⟨rfl, HU2.out.below⟩
  have HE1 := Lib.hid e1
  have d1 : decide ((200 : Int) < (l.length : Int)) = false := decide_eq_false (by omega)
  clear e1
  by_cases e2 : n < 2
  · have d2 : decide (n < 2) = true := decide_eq_true e2
    have d2' : decide ((n : Int) < 2) = true := decide_eq_true (by omega)
    clear e2
    go_enter Try.func11, Try.ntmps11
    go_wp2_with fail
    (with_reducible refine HSQ.out.mono ?_)
    rintro e w1 ⟨A, C, rfl, hrow, hu1⟩
    have HU1 := Lib.hid hu1
    clear hrow hu1
    go_wp2_with fail
    (with_reducible refine (awake16 _).mono ?_)
    rintro e w2 ⟨rfl, hu⟩
    have HU2 := Lib.hid (HU1.out.trans hu)
    clear hu
    go_wp2_with fail
    go_ret
    exact ⟨rfl, HU2.out.below⟩
  have HE2 := Lib.hid e2
  have d2 : decide (n < 2) = false := decide_eq_false e2
  have d2' : decide ((n : Int) < 2) = false := decide_eq_false (by omega)
  clear e2
  by_cases e3 : 30 < stay.length
  · have d3 : decide ((30 : Int) < (stay.length : Int)) = true := decide_eq_true (by omega)
    clear e3
    go_enter Try.func11, Try.ntmps11
    go_wp2_with fail
    (with_reducible refine HSQ.out.mono ?_)
    rintro e w1 ⟨A, C, rfl, hrow, hu1⟩
    have HU1 := Lib.hid hu1
    clear hrow hu1
    go_wp2_with fail
    (with_reducible refine (awake16 _).mono ?_)
    rintro e w2 ⟨rfl, hu⟩
    have HU2 := Lib.hid (HU1.out.trans hu)
    clear hu
    go_wp2_with fail
    go_ret
    exact ⟨rfl, HU2.out.below⟩
  have HE3 := Lib.hid e3
  have d3 : decide ((30 : Int) < (stay.length : Int)) = false := decide_eq_false (by omega)
  clear e3
  by_cases e4 : 30 < pass.length
  · have d4 : decide ((30 : Int) < (pass.length : Int)) = true := decide_eq_true (by omega)
    clear e4
    go_enter Try.func11, Try.ntmps11
    go_wp2_with fail
    (with_reducible refine HSQ.out.mono ?_)
    rintro e w1 ⟨A, C, rfl, hrow, hu1⟩
    have HU1 := Lib.hid hu1
    clear hrow hu1
    go_wp2_with fail
    (with_reducible refine (awake16 _).mono ?_)
    rintro e w2 ⟨rfl, hu⟩
    have HU2 := Lib.hid (HU1.out.trans hu)
    clear hu
    go_wp2_with fail
    go_ret
    exact ⟨rfl, HU2.out.below⟩
  have d4 : decide ((30 : Int) < (pass.length : Int)) = false := decide_eq_false (by omega)
  have hg : l.length ≤ 200 ∧ 2 ≤ n ∧ stay.length ≤ 30 ∧ pass.length ≤ 30 := by have h1 := HE1.out; have h2 := HE2.out; have h3 := HE3.out; omega
  have hok : MarksOk M := by have h := HM.out; rw [← h.1]; refine sqz_ok ?_ HWF.out; rw [h.1, h.2.1]; have := h.2.2; omega
  have hm0 : 0 < M.length := by rw [HM.out.2.1]; omega
  have HG := Lib.hid hg
  have HOK := Lib.hid (And.intro hok hm0)
  clear hg hok hm0 e4
  go_enter Try.func11, Try.ntmps11
  go_wp2_with fail
  (with_reducible refine HSQ.out.mono ?_)
  rintro e w1 ⟨A, C, rfl, hrow, hu1⟩
  have hsee : See KL w1 (.slice A n C) M := by have := See.of_row hrow; exact this
  have HSEE := Lib.hid hsee
  have HU1 := Lib.hid hu1
  have hca := coveredC _ _ M stay w1 hsee HOK.out.1 HOK.out.2 (HS.out.1.upd0 hu1) (by have := HG.out; omega) HS.out.2
  have HCA := Lib.hid hca
  clear hca hsee hrow hu1
  go_wp2_with fail
  (with_reducible refine HCA.out.mono ?_)
  rintro e w2 ⟨ba, FA, NA, rfl, hcA, hNA, hu2, hFA⟩
  have HA2 := Lib.hid (And.intro hcA (And.intro hNA hFA))
  have HU2 := Lib.hid (HU1.out.trans hu2)
  have HU2b := Lib.hid hu2
  clear hcA hNA hu2 hFA
  go_wp2_with (at_builtin; refine wpList_app _ rfl _ _ 83 rfl w2.heap.size 57 i0 (.agg #[.int .u16 0, .int .u16 0]) 2 4 Try.underlying83 hi hz0 hz1 hz2 rfl (by decide) _ 0 [] rfl (World.ownsRow_made w2 #[] 0 (Nat.le_refl _) (by decide) rfl) _ pass.length (KPr.all pass) rfl ((HP.out.1.upd0 HU2.out).upd0 ((Upd.refl [] w2).alloc _)) (KPr.all_one pass) (by have := HG.out; unfold maxLen; omega) (by have := HG.out; omega) (by simp) ?_)
  intro A1 C1 w3 HP1
  have hu3 : Upd [] w2 w3 := ((Upd.refl [] w2).alloc _).trans' HP1.upd (fun k hk => .inr (by simp [blk] at hk; omega))
  have ho3 : w3.ownsRow w2.heap.size 57 2 (.slice A1 pass.length C1) pass.length (KPr.all pass) := by simpa using HP1.own
  have HO3 := Lib.hid (And.intro ho3 hu3)
  clear HP1 hu3 ho3
  go_wp2_with (at_builtin; refine wpList_app _ rfl _ _ 83 rfl w2.heap.size 57 i0 (.agg #[.int .u16 0, .int .u16 0]) 2 4 Try.underlying83 hi hz0 hz1 hz2 rfl (by decide) _ pass.length (KPr.all pass) rfl HO3.out.1 _ stay.length (KPr.all stay) rfl (HS.out.1.upd0 (HU2.out.trans HO3.out.2)) (KPr.all_one stay) (by have := HG.out; unfold maxLen; omega) (by have := HG.out; omega) HO3.out.2.size ?_)
  intro A2 C2 w4 HP2
  have hu4 : Upd [] w2 w4 := HO3.out.2.trans' HP2.upd (fun k hk => .inr (own_ge HO3.out.1 k hk))
  have hs4 : See KPr w4 (.slice A2 (pass.length + stay.length) C2) (pass ++ stay) := by
    have := sees_of_own HP2.own
    unfold See
    rw [show KPr.all (pass ++ stay) = KPr.all pass ++ KPr.all stay by unfold Kind.all; rw [List.flatMap_append], List.length_append]
    exact this
  have hcb := coveredC _ _ M (pass ++ stay) w4 (HSEE.out.upd0 (HU2b.out.trans hu4)) HOK.out.1 HOK.out.2 hs4 (by have := HG.out; simp; omega) (by
    intro p hp
    rcases List.mem_append.1 hp with h | h
    · exact HP.out.2 p h
    · exact HS.out.2 p h)
  have HCB := Lib.hid hcb
  have HU4 := Lib.hid hu4
  clear HP2 hu4 hs4 hcb
  go_wp2_with fail
  (with_reducible refine HCB.out.mono ?_)
  rintro e w5 ⟨bb, FB, NB, rfl, hcB, hNB, hu5, hFB⟩
  have hAB : ∀ y ∈ FB, y ∉ FA := fun y hy hc => by have h1 := hFB y hy; have h2 := HA2.out.1.lt y hc; have h3 := HU4.out.size; omega
  have HB5 := Lib.hid (And.intro (hcB.perm (leftH_zero M stay pass)) hNB)
  have HAB := Lib.hid hAB
  have HU5 := Lib.hid (HU4.out.trans hu5)
  have HA5 := Lib.hid (HA2.out.1.upd0 (HU4.out.trans hu5))
  have HFZ := Lib.hid (And.intro (fun y hy => Nat.le_trans HU1.out.size (HA2.out.2.2 y hy)) (And.intro HA2.out.2.2 (And.intro (fun y hy => Nat.le_trans HU2.out.size (Nat.le_trans HU4.out.size (hFB y hy))) (fun y hy => Nat.le_trans (Nat.le_trans HU2b.out.size HU4.out.size) (hFB y hy)))))
  clear hcB hNB hu5 hFB hAB
  have hpl : (pass.length : Int) < 1000 := by have := HG.out; omega
  go_wp2_with fail
  go_loopg [62] pass.length (fun m s wr => ∃ k, m + k = pass.length ∧ s = .int .i64 (k : Int) ∧ (∃ N, N ≤ NB + k ∧ IsCov wr bb FB M (leftH M stay pass k) N) ∧ Upd FB w5 wr)
  case atStart => exact ⟨0, rfl, rfl, ⟨NB, Nat.le_refl _, HB5.out.1⟩, Upd.refl _ _⟩
  case round =>
    obtain ⟨k, hk, rfl, ⟨N, hN, hc⟩, hu⟩ := hrel
    have HK := Lib.hid hk
    have HN := Lib.hid hN
    have HC := Lib.hid hc
    have HU := Lib.hid hu
    have hkL : k ≤ pass.length := by omega
    have b0 : (0 : Int) ≤ (k : Int) := Int.natCast_nonneg _
    have HUa := Lib.hid (show Upd [] w wr from (HU2.out.trans HU5.out).trans' hu (fun x hx => .inr (HFZ.out.2.2.1 x hx)))
    have HUb := Lib.hid (show Upd [] w1 wr from (HU2b.out.trans HU5.out).trans' hu (fun x hx => .inr (HFZ.out.2.2.2 x hx)))
    clear hk hN hc hu
    by_cases hlt : k < pass.length
    · obtain ⟨p, hp⟩ : ∃ p, pass[k]? = some p := ⟨_, List.getElem?_eq_getElem hlt⟩
      have hpw := HP.out.2 p (List.mem_of_getElem? hp)
      have hlc := leftH_cons (M := M) (stay := stay) hp
      obtain ⟨bl, ol, hA, -, -, l0, l1⟩ := KPr.at (HP.out.1.upd0 HUa.out) hp
      subst hA
      obtain ⟨pa, pb⟩ := p
      dsimp only at l0 l1 hpw hlc
      have hu2 : Upd [] wr (wr.alloc (.cells #[.int .u16 (pa : Int), .int .u16 (pb : Int)] 57)) := (Upd.refl _ _).alloc _
      have hpo := pairOf _ M pa pb _ ((HSEE.out.upd0 HUb.out).upd0 hu2) HOK.out.2 HOK.out.1.len hpw.1 hpw.2
      have hin := pairP_in (M := M) pa pb HOK.out.2
      obtain ⟨s, hs⟩ : ∃ s, pairP M pa pb = s := ⟨_, rfl⟩
      rw [hs] at hpo hin hlc
      have hdr := pair_drop HOK.out.1.rise (H := leftH M stay pass k) hin (by rw [hlc]; exact List.mem_cons_self)
      unfold ofPost at hpo
      obtain ⟨lo, hlo⟩ : ∃ lo, mf M s.1 = lo := ⟨_, rfl⟩
      obtain ⟨hi', hhi⟩ : ∃ hi, mf M s.2 = hi := ⟨_, rfl⟩
      rw [hlo, hhi] at hpo hdr
      have hac := fun w2 (hu : Upd [] wr w2) => dropC bb FB M (leftH M stay pass k) N w2 lo hi' (HC.out.upd0 hu) HOK.out.1 (by have := HN.out; have := HB5.out.2; have := HG.out; omega) (by have := leftH_len M stay pass k; have := HG.out; omega)
      rw [hdr.1, hdr.2.1, hdr.2.2, hlc, List.erase_cons_head] at hac
      obtain ⟨E, hE⟩ : ∃ E, entN s (M.length - 1) = E := ⟨_, rfl⟩
      rw [hE] at hac
      have b1 : (k : Int) < (pass.length : Int) := by omega
      have HPO := Lib.hid hpo
      have HAC := Lib.hid hac
      have HLT := Lib.hid hlt
      have HU2x := Lib.hid hu2
      clear hpo hin hs hdr hlo hhi hac hE hlt hpw hp hu2 hkL hlc
      go_wp2_with fail
      (with_reducible refine HPO.out.mono ?_)
      rintro e w6 ⟨rfl, hu6⟩
      have HA := Lib.hid (HAC.out _ (HU2x.out.trans hu6))
      have HU6 := Lib.hid (HU.out.trans ((HU2x.out.trans hu6).mono (by simp)))
      clear hu6
      go_wp2_with fail
      (with_reducible refine HA.out.mono ?_)
      rintro e w7 ⟨rfl, ⟨N', hN', hc'⟩, hu7⟩
      have HC7 := Lib.hid (And.intro hN' hc')
      have HU7 := Lib.hid (HU6.out.trans hu7)
      clear hN' hc' hu7
      go_wp2_with fail
      go_roundg (gk - 1)
      case measure => have := HK.out; have := HLT.out; omega
      case rel => exact ⟨k + 1, by have := HK.out; have := HLT.out; omega, by go_num, ⟨N', by have := HC7.out.1; have := HN.out; omega, HC7.out.2⟩, HU7.out⟩
    · have hke : k = pass.length := by omega
      subst hke
      have hcB : IsCov wr bb FB M (covH M stay) N := by have := HC.out; rw [leftH_end] at this; exact this
      have hcA : IsCov wr ba FA M (covH M stay) NA := HA5.out.upd HU.out (fun y hy hc => HAB.out y hc hy)
      have ok0 := covH_ok stay HOK.out.2
      have hal := alikeC ba bb FA FB M _ _ _ _ wr hcA hcB HOK.out.1.len ok0 ok0 rfl
      have HAL := Lib.hid hal
      have HCA := Lib.hid hcA
      have HCB := Lib.hid hcB
      have HNN := Lib.hid (show NA + stay.length ≤ 1500 ∧ N + stay.length ≤ 1500 by have h1 := HN.out; have h2 := HB5.out.2; have h3 := HG.out; have h4 := HA2.out.2.1; omega)
      clear hcB hcA ok0 hal hkL
      go_wp2_with fail
      (with_reducible refine HAL.out.mono ?_)
      rintro e w6 ⟨rfl, hu6⟩
      have HCA6 := Lib.hid (HCA.out.upd0 hu6)
      have HCB6 := Lib.hid (HCB.out.upd0 hu6)
      have HW6 := Lib.hid (show Upd [] w w6 ∧ Upd [] w1 w6 from ⟨HUa.out.trans hu6, HUb.out.trans hu6⟩)
      have hsl : (stay.length : Int) < 1000 := by have := HG.out; omega
      clear hu6
      go_wp2_with fail
      go_loopg [14] stay.length (fun m s14 wr => ∃ k z, m = k ∧ s14 = .int .i64 z ∧ z = (k : Int) - 1 ∧ k ≤ stay.length ∧ (∃ N', N' + k ≤ 1500 ∧ IsCov wr ba FA M (covH M (stay.take k)) N') ∧ (∃ N', N' + k ≤ 1500 ∧ IsCov wr bb FB M (covH M (stay.take k)) N') ∧ Upd (FA ++ FB) w6 wr)
      case atStart => exact ⟨stay.length, _, rfl, rfl, by first | rfl | go_num, Nat.le_refl _, ⟨NA, HNN.out.1, by rw [List.take_length]; exact HCA6.out⟩, ⟨N, HNN.out.2, by rw [List.take_length]; exact HCB6.out⟩, Upd.refl _ _⟩
      case round =>
        obtain ⟨k, z, hm, rfl, hz, hkL, ⟨Na, hNa, hca⟩, ⟨Nb, hNb, hcb⟩, hu⟩ := hrel
        have hfz : ∀ x ∈ FA ++ FB, w.heap.size ≤ x ∧ w1.heap.size ≤ x := fun x hx => by
          rcases List.mem_append.1 hx with h | h
          · exact ⟨HFZ.out.1 x h, HFZ.out.2.1 x h⟩
          · exact ⟨HFZ.out.2.2.1 x h, HFZ.out.2.2.2 x h⟩
        have HWa := Lib.hid (show Upd [] w wr from HW6.out.1.trans' hu (fun x hx => .inr (hfz x hx).1))
        have HWb := Lib.hid (show Upd [] w1 wr from HW6.out.2.trans' hu (fun x hx => .inr (hfz x hx).2))
        have HV := Lib.hid hu
        have HMK := Lib.hid hm
        have HKL := Lib.hid hkL
        clear hu hfz hm hkL
        rcases k with _ | j
        · obtain rfl : z = -1 := by omega
          have hca0 : IsCov wr ba FA M [] Na := by have := hca; rw [List.take_zero] at this; exact this
          have hseeR := HSEE.out.upd0 HWb.out
          have hn := HM.out.2.1
          have hn2 := HG.out.2.1
          obtain ⟨gm, om, hA, -, -, q1⟩ := KL.at hseeR (mf_get (M := M) (i := 0) (by omega))
          obtain ⟨gm', om', hA', -, -, q2⟩ := KL.at hseeR (mf_get (M := M) (i := 1) (by omega))
          subst hA
          cases hA'
          rw [Nat.add_zero] at q1
          have hsp := span_pair HOK.out.1.rise (s := (0, 1)) ⟨by decide, by dsimp only; omega⟩
          dsimp only at hsp
          have hdr := dropC ba FA M [] Na wr.drew (mf M 0) (mf M 1) (hca0.upd0 (Upd.refl _ _).drew) HOK.out.1 (by omega) (by decide)
          have hx1 : dropX M [] (mf M 0) (mf M 1) = 160 := by unfold dropX; rw [if_pos hsp.1, if_neg (by simp)]
          have hx2 : dropH M [] (mf M 0) (mf M 1) = [] := by unfold dropH; rw [if_pos hsp.1]; rfl
          rw [hx1, hx2] at hdr
          obtain ⟨E, hE⟩ : ∃ E, dropK M [] (mf M 0) (mf M 1) = E := ⟨_, rfl⟩
          rw [hE] at hdr
          obtain ⟨m0, hm0⟩ : ∃ m0, mf M 0 = m0 := ⟨_, rfl⟩
          obtain ⟨m1, hm1⟩ : ∃ m1, mf M 1 = m1 := ⟨_, rfl⟩
          rw [hm0] at q1 hdr
          rw [hm1] at q2 hdr
          have i2 : 0 < n := by omega
          have i3 : 1 < n := by omega
          have i0 : (0 : Int) < (n : Int) := by omega
          have i1 : (1 : Int) < (n : Int) := by omega
          have HDR := Lib.hid hdr
          clear hca hcb hca0 hz hNa hNb hseeR hsp hdr hx1 hx2 hE hm0 hm1 hn hn2
          go_upto_region 25 with fail
          -- region 25: T waits for all loads; fuel 3
          refine GoT.start [7, 8, 9, 10, 11, 12] (fun w' => w'.cell? ⟨gm, om, none⟩ = some (.int .i64 m0) ∧ w'.cell? ⟨gm, om + 1, none⟩ = some (.int .i64 m1)) (by kernel_rfl) ?_ fun hS => ?_
          · exact ⟨q1, q2⟩
          refine' GoT.move (i := 0) (oi := ⟨some 126, _, _, _, _, _⟩) (v := _) rfl (by kernel_rfl) (by kernel_rfl) (by kernel_rfl) (fun _ _ _ h => h) (Or.inl ⟨by rfl, ?y25_0⟩) ?r25_0
          case y25_0 => intro w; go_simp <;> with_reducible rfl
          simp only [Act.put, List.setIfInBounds_toArray, List.set_cons_zero, List.set_cons_succ]
          refine' GoT.move (i := 1) (oi := ⟨some 127, _, _, _, _, _⟩) (v := _) rfl (by kernel_rfl) (by kernel_rfl) (by kernel_rfl) (fun _ _ _ h => h) (Or.inl ⟨by rfl, ?y25_1⟩) ?r25_1
          case y25_1 => intro w; go_simp <;> with_reducible rfl
          simp only [Act.put, List.setIfInBounds_toArray, List.set_cons_zero, List.set_cons_succ]
          refine' GoT.move (i := 2) (oi := ⟨some 128, _, _, _, _, _⟩) (v := _) rfl (by kernel_rfl) (by kernel_rfl) (by kernel_rfl) (fun _ _ _ h => h) (Or.inl ⟨by rfl, ?y25_2⟩) ?r25_2
          case y25_2 => intro w; go_simp <;> with_reducible rfl
          simp only [Act.put, List.setIfInBounds_toArray, List.set_cons_zero, List.set_cons_succ]
          refine' GoT.take 3 (i := 3) (oi := ⟨some 129, _, _, _, _, _⟩) (v := _) rfl (by kernel_rfl) (by kernel_rfl) (by kernel_rfl) (by kernel_rfl) (fun _ _ _ h => h) (Or.inl ⟨by rfl, ?y25_3⟩) (by assumption) ?r25_3
          case y25_3 => intro w hSw; go_simp <;> with_reducible rfl
          simp only [Act.put, List.setIfInBounds_toArray, List.set_cons_zero, List.set_cons_succ]
          refine' GoT.move (i := 4) (oi := ⟨some 130, _, _, _, _, _⟩) (v := _) rfl (by kernel_rfl) (by kernel_rfl) (by kernel_rfl) (fun _ _ _ h => h) (Or.inl ⟨by rfl, ?y25_4⟩) ?r25_4
          case y25_4 => intro w; go_simp <;> with_reducible rfl
          simp only [Act.put, List.setIfInBounds_toArray, List.set_cons_zero, List.set_cons_succ]
          refine' GoT.move (i := 5) (oi := ⟨some 131, _, _, _, _, _⟩) (v := _) rfl (by kernel_rfl) (by kernel_rfl) (by kernel_rfl) (fun _ _ _ h => h) (Or.inl ⟨by rfl, ?y25_5⟩) ?r25_5
          case y25_5 => intro w; go_simp <;> with_reducible rfl
          simp only [Act.put, List.setIfInBounds_toArray, List.set_cons_zero, List.set_cons_succ]
          refine' GoT.take 3 (i := 6) (oi := ⟨some 132, _, _, _, _, _⟩) (v := _) rfl (by kernel_rfl) (by kernel_rfl) (by kernel_rfl) (by kernel_rfl) (fun _ _ _ h => h) (Or.inl ⟨by rfl, ?y25_6⟩) (by assumption) ?r25_6
          case y25_6 => intro w hSw; go_simp <;> with_reducible rfl
          simp only [Act.put, List.setIfInBounds_toArray, List.set_cons_zero, List.set_cons_succ]
          -- 7: Go.Op.call { callee := Go.Callee.value (Go.Operand.func 19), args := #[Go.Operand.tmp 126, Go.Operand.tmp 129, Go.Operand.tmp 132], argTypes := #[26, 
          refine GoT.one (i := 7) (o := ⟨some 133, _, _, _, _, _⟩) rfl (by kernel_rfl) fun K hK => ?_
          go_simp
          go_at_call 19
          (with_reducible refine HDR.out.mono ?_)
          rintro e w7 ⟨rfl, ⟨N7, hN7, hc7⟩, hu7⟩
          have HC7 := Lib.hid (And.intro hc7 hu7)
          clear hN7 hc7 hu7
          refine hK.out _ _ (fun h => (by cases h)) ?_
          clear hK K
          try simp only [Act.put, List.setIfInBounds_toArray, List.set_cons_zero, List.set_cons_succ]
          refine' GoT.move (i := 8) (oi := ⟨some 125, _, _, _, _, _⟩) (v := _) rfl (by kernel_rfl) (by kernel_rfl) (by kernel_rfl) (fun _ _ _ h => h) (Or.inl ⟨by rfl, ?y25_8⟩) ?r25_8
          case y25_8 => intro w; go_simp <;> with_reducible rfl
          simp only [Act.put, List.setIfInBounds_toArray, List.set_cons_zero, List.set_cons_succ]
          refine' GoT.move (i := 9) (oi := ⟨some 134, _, _, _, _, _⟩) (v := _) rfl (by kernel_rfl) (by kernel_rfl) (by kernel_rfl) (fun _ _ _ h => h) (Or.inl ⟨by rfl, ?y25_9⟩) ?r25_9
          case y25_9 => intro w; go_simp <;> with_reducible rfl
          simp only [Act.put, List.setIfInBounds_toArray, List.set_cons_zero, List.set_cons_succ]
          refine' GoT.move (i := 10) (oi := ⟨some 135, _, _, _, _, _⟩) (v := _) rfl (by kernel_rfl) (by kernel_rfl) (by kernel_rfl) (fun _ _ _ h => h) (Or.inl ⟨by rfl, ?y25_10⟩) ?r25_10
          case y25_10 => intro w; go_simp <;> with_reducible rfl
          simp only [Act.put, List.setIfInBounds_toArray, List.set_cons_zero, List.set_cons_succ]
          refine' GoT.move (i := 11) (oi := ⟨some 21, _, _, _, _, _⟩) (v := _) rfl (by kernel_rfl) (by kernel_rfl) (by kernel_rfl) (fun _ _ _ h => h) (Or.inl ⟨by rfl, ?y25_11⟩) ?r25_11
          case y25_11 => intro w; go_simp <;> with_reducible rfl
          simp only [Act.put, List.setIfInBounds_toArray, List.set_cons_zero, List.set_cons_succ]
          refine' GoT.move (i := 12) (oi := ⟨some 22, _, _, _, _, _⟩) (v := _) rfl (by kernel_rfl) (by kernel_rfl) (by kernel_rfl) (fun _ _ _ h => h) (Or.inl ⟨by rfl, ?y25_12⟩) ?r25_12
          case y25_12 => intro w; go_simp <;> with_reducible rfl
          simp only [Act.put, List.setIfInBounds_toArray, List.set_cons_zero, List.set_cons_succ]
          refine GoT.done (by kernel_rfl) ?_
          have hlg := longC ba FA M [] N7 w7 HC7.out.1
          rw [long_none] at hlg
          have HLG := Lib.hid hlg
          have HX7 := Lib.hid (show Upd [] w w7 from HWa.out.drew.trans' HC7.out.2 (fun x hx => .inr (HFZ.out.1 x hx)))
          clear hlg
          go_wp2_with fail
          (with_reducible refine HLG.out.mono ?_)
          rintro e w8 ⟨rfl, hu8⟩
          have hrg := runsC ba FA M [] N7 w8 (HC7.out.1.upd0 hu8)
          rw [runs_none] at hrg
          have HRG := Lib.hid hrg
          have HX8 := Lib.hid (HX7.out.trans hu8)
          clear hrg hu8
          go_wp2_with fail
          (with_reducible refine HRG.out.mono ?_)
          rintro e w9 ⟨rfl, hu9⟩
          have HX9 := Lib.hid (HX8.out.trans hu9)
          clear hu9
          go_wp2_with fail
          (with_reducible refine (awake16 _).mono ?_)
          rintro e w10 ⟨rfl, hu10⟩
          have HX10 := Lib.hid (HX9.out.trans hu10)
          clear hu10
          go_wp2_with fail
          go_ret
          exact ⟨rfl, HX10.out.below⟩
        · obtain rfl : z = (j : Int) := by omega
          have hjl : j < stay.length := by have := HKL.out; omega
          obtain ⟨p, hp⟩ : ∃ p, stay[j]? = some p := ⟨_, List.getElem?_eq_getElem hjl⟩
          have hpw := HS.out.2 p (List.mem_of_getElem? hp)
          have hcs := covH_succ (M := M) hp
          obtain ⟨bl, ol, hA, -, -, l0, l1⟩ := KPr.at (HS.out.1.upd0 HWa.out) hp
          subst hA
          obtain ⟨pa, pb⟩ := p
          dsimp only at l0 l1 hpw hcs
          have hpo := pairOf _ M pa pb _ (HSEE.out.upd0 HWb.out) HOK.out.2 HOK.out.1.len hpw.1 hpw.2
          have hin := pairP_in (M := M) pa pb HOK.out.2
          obtain ⟨s, hs⟩ : ∃ s, pairP M pa pb = s := ⟨_, rfl⟩
          rw [hs] at hpo hin hcs
          have hdr := pair_drop HOK.out.1.rise (H := covH M (stay.take (j + 1))) hin (by rw [hcs]; exact List.mem_cons_self)
          unfold ofPost at hpo
          obtain ⟨lo, hlo⟩ : ∃ lo, mf M s.1 = lo := ⟨_, rfl⟩
          obtain ⟨hi', hhi⟩ : ∃ hi, mf M s.2 = hi := ⟨_, rfl⟩
          rw [hlo, hhi] at hpo hdr
          have hlen : (covH M (stay.take (j + 1))).length ≤ 1000000 := by have := HG.out; simp [covH]; omega
          have haA := fun w2 (hu : Upd [] wr w2) => dropC ba FA M (covH M (stay.take (j + 1))) Na w2 lo hi' (hca.upd0 hu) HOK.out.1 (by omega) hlen
          have haB := fun w2 (hu : Upd FA wr w2) => dropC bb FB M (covH M (stay.take (j + 1))) Nb w2 lo hi' (hcb.upd hu HAB.out) HOK.out.1 (by omega) hlen
          rw [hdr.1, hdr.2.1, hdr.2.2, hcs, List.erase_cons_head] at haA haB
          obtain ⟨E, hE⟩ : ∃ E, entN s (M.length - 1) = E := ⟨_, rfl⟩
          rw [hE] at haA haB
          have b0 : (0 : Int) ≤ (j : Int) := Int.natCast_nonneg _
          have b1 : (j : Int) < (stay.length : Int) := by omega
          have HPO := Lib.hid hpo
          have HAA := Lib.hid haA
          have HAB2 := Lib.hid haB
          have HNN2 := Lib.hid (And.intro hNa (And.intro hNb hjl))
          clear hca hcb hz hNa hNb hjl hpw hcs hpo hin hs hdr hlo hhi hlen haA haB hE hp
          go_wp2_with fail
          (with_reducible refine HPO.out.mono ?_)
          rintro e w7 ⟨rfl, hu7⟩
          have H7 := Lib.hid (HAA.out _ hu7)
          have HU7 := Lib.hid hu7
          clear hu7
          go_wp2_with fail
          (with_reducible refine H7.out.mono ?_)
          rintro e w8 ⟨rfl, ⟨N8, hN8, hc8⟩, hu8⟩
          have H8 := Lib.hid (HAB2.out w8 ((HU7.out.mono (by simp)).trans hu8))
          have HA8 := Lib.hid (And.intro hN8 hc8)
          have HU8 := Lib.hid (show Upd (FA ++ FB) wr w8 from (HU7.out.mono (by simp)).trans (hu8.mono (fun x hx => .inl (List.mem_append_left _ hx))))
          clear hN8 hc8 hu8
          go_wp2_with fail
          (with_reducible refine H8.out.mono ?_)
          rintro e w9 ⟨rfl, ⟨N9, hN9, hc9⟩, hu9⟩
          have hcA9 := HA8.out.2.upd hu9 (fun y hy hc => HAB.out y hc hy)
          have ok9 := covH_ok (M := M) (stay.take j) HOK.out.2
          have hal := alikeC ba bb FA FB M _ _ _ _ w9 hcA9 hc9 HOK.out.1.len ok9 ok9 rfl
          have HAL9 := Lib.hid hal
          have HC9 := Lib.hid (And.intro hN9 (And.intro hcA9 hc9))
          have HU9 := Lib.hid (HU8.out.trans (hu9.mono (fun x hx => .inl (List.mem_append_right _ hx))))
          clear hN9 hcA9 hc9 hu9 ok9 hal
          go_wp2_with fail
          (with_reducible refine HAL9.out.mono ?_)
          rintro e w10 ⟨rfl, hu10⟩
          have HU10 := Lib.hid hu10
          clear hu10
          go_wp2_with fail
          go_roundg j
          case measure => have := HMK.out; omega
          case rel => exact ⟨j, _, rfl, rfl, by first | rfl | go_num, by have := HNN2.out; omega, ⟨N8, by have h1 := HA8.out.1; have h2 := HNN2.out; omega, HC9.out.2.1.upd0 HU10.out⟩, ⟨N9, by have h1 := HC9.out.1; have h2 := HNN2.out; omega, HC9.out.2.2.upd0 HU10.out⟩, (HV.out.trans HU9.out).trans (HU10.out.mono (by simp))⟩
end Go.Proofs.Ythkiljfjjnckaaa
