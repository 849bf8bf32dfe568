/- CoverCost: the walk. -/
import Derived.Test.YthkiljfjjnckaaaPairOf
import Derived.Test.YthkiljfjjnckaaaCostP
import Derived.Test.YthkiljfjjnckaaaLogC
import Derived.Test.YthkiljfjjnckaaaAw16
namespace Go.Proofs.Ythkiljfjjnckaaa
open Go.RowKit
attribute [local go_sem ↓] Go.wp_at_zero Go.wp_at_succ

theorem info_int64C : (Try.prog.info? 2).map (fun i => (i.zero, i.size, i.bytes)) = some (some (.int .i64 0), 1, 8) := by kernel_rfl

theorem KL_M3 (k : Nat) : KL.all (M3 (k + 1)) = KL.all (M3 k) ++ [.int .i64 ((k : Int) * 3)] := by
  rw [M3_succ, KL_all, KL_all, List.map_append]
  rfl

set_option maxRecDepth 100000 in
set_option maxHeartbeats 8000000 in
theorem coverCost_walk (n a b : Nat) (w : World) (hn : n < 65536) (ha : a < 65536) (hb : b < 65536) :
    Calls Try.prog 5 #[.int .u16 (n : Int), .agg #[.int .u16 (a : Int), .int .u16 (b : Int)]] w fun e w' => e = .returned (.bool true) ∧ Below w.heap.size w w' := by
  obtain ⟨i1, hi1, hy0, hy1, hy2⟩ := info_parts info_int64C
  obtain ⟨r, hr⟩ : ∃ r, n % 999 = r := ⟨_, rfl⟩
  have hr9 : r < 999 := by rw [← hr]; exact Nat.mod_lt _ (by omega)
  have ta : ((n : Int)).tmod 999 = (r : Int) := by rw [← hr]; rfl
  have wn : IntKind.i64.wrap (n : Int) = (n : Int) := IntWalk.i64_in _ ⟨by omega, by omega⟩
  have HR := Lib.hid hr9
  have HAB := Lib.hid (And.intro ha hb)
  have n0 : (0 : Int) ≤ (n : Int) := Int.natCast_nonneg _
  have n1 : (n : Int) < 65536 := by omega
  have r0 : (0 : Int) ≤ (r : Int) := Int.natCast_nonneg _
  have r1 : (r : Int) < 999 := by omega
  clear hr ha hb hn hr9
  go_enter Try.func5, Try.ntmps5
  go_wp2_with fail
  obtain ⟨m, hm⟩ : ∃ m : Nat, 2 + (r : Int) = (m : Int) := ⟨r + 2, by omega⟩
  rw [hm]
  have hm1 : m < 1002 := by omega
  have hm2 : 2 ≤ m := by omega
  have HM := Lib.hid (And.intro hm1 hm2)
  have hcc : ∀ k, k < 2 → (w.alloc (.cells #[.int .u16 (a : Int), .int .u16 (b : Int)] 57)).cell? ⟨w.heap.size, k, none⟩ = #[Value.int .u16 (a : Int), .int .u16 (b : Int)][k]? := fun k _ => World.cell?_alloc_at _ _ _ _ rfl
  have c0 := hcc 0 (by omega)
  have c1 := hcc 1 (by omega)
  simp only [List.getElem?_toArray, List.getElem?_cons_zero, List.getElem?_cons_succ] at c0 c1
  have hu0 : Upd [] w (w.alloc (.cells #[.int .u16 (a : Int), .int .u16 (b : Int)] 57)) := (Upd.refl _ _).alloc _
  have hs0 : w.heap.size < (w.alloc (.cells #[.int .u16 (a : Int), .int .u16 (b : Int)] 57)).heap.size := by simp
  generalize (w.alloc (.cells #[.int .u16 (a : Int), .int .u16 (b : Int)] 57)) = W0 at c0 c1 hu0 hs0 ⊢
  have HC0 := Lib.hid (And.intro c0 (And.intro c1 hs0))
  have HU0 := Lib.hid hu0
  have n1m : (m : Int) < 1002 := by omega
  clear hm hm1 hm2 hcc c0 c1 hu0 hs0 ta wn n0 n1 r0 r1
  go_loopg [6, 21] m (fun g s6 s21 wr => ∃ k A C, g + k = m ∧ s21 = .int .i64 (k : Int) ∧ s6 = .slice A k C ∧ wr.ownsRow W0.heap.size 2 1 (.slice A k C) k (KL.all (M3 k)) ∧ Upd [] W0 wr)
  case atStart => exact ⟨0, none, 0, rfl, rfl, rfl, World.ownsRow_nil _ _ _ _, Upd.refl _ _⟩
  case round =>
    obtain ⟨k, A, C, hk, rfl, rfl, hrow, hu⟩ := hrel
    have HK := Lib.hid hk
    have HRW := Lib.hid hrow
    have HU := Lib.hid hu
    have hkm : k ≤ m := by omega
    have k0 : (0 : Int) ≤ (k : Int) := Int.natCast_nonneg _
    clear hk hrow hu
    by_cases hlt : k < m
    · have k1 : (k : Int) < (m : Int) := by omega
      have k2 : k < 1002 := by omega
      have hr1 := own_upd HRW.out ((Upd.refl [] wr).alloc (.cells #[.int .i64 ((k : Int) * 3)] 2)) (by simp)
      have hse := sees_lit wr #[.int .i64 ((k : Int) * 3)] 2 1 1 rfl (by decide)
      have hsz : W0.heap.size ≤ (wr.alloc (.cells #[.int .i64 ((k : Int) * 3)] 2)).heap.size := by
        have h1 := HU.out.size
        simp
        omega
      have HR1 := Lib.hid hr1
      have HSE := Lib.hid hse
      have HSZ := Lib.hid hsz
      have HLT := Lib.hid hlt
      have HK2 := Lib.hid k2
      clear hr1 hse hsz hlt k2 hkm
      go_wp2_with (at_builtin; refine wpList_app _ rfl _ _ 22 rfl W0.heap.size 2 i1 (.int .i64 0) 1 8 Try.underlying22 hi1 hy0 hy1 hy2 rfl (by decide) _ k (KL.all (M3 k)) rfl HR1.out _ 1 [.int .i64 ((k : Int) * 3)] rfl HSE.out (by simp [Value.oneCell']) (by have := HK2.out; unfold maxLen; omega) (by have := HK2.out; omega) HSZ.out ?_)
      intro A2 C2 w2 HP
      have HP2 := Lib.hid HP
      clear HP
      go_wp2_with fail
      go_roundg (gk - 1)
      case measure => have := HK.out; have := HLT.out; omega
      case rel =>
        refine ⟨k + 1, A2, C2, by have := HK.out; have := HLT.out; omega, by go_num, rfl, ?_, ?_⟩
        · rw [KL_M3]; exact HP2.out.own
        · exact ((HU.out.alloc _).mono (by simp)).trans' HP2.out.upd (fun x hx => .inr (own_ge HRW.out x hx))
    · have hke : k = m := by omega
      subst hke
      obtain ⟨M, hMM⟩ : ∃ M, M3 k = M := ⟨_, rfl⟩
      have hok : MarksOk M := by rw [← hMM]; exact M3_ok k (by have := HM.out; omega)
      have hlen : M.length = k := by rw [← hMM]; exact M3_len k
      have hrow : KL.row wr W0.heap.size (.slice A k C) M := by
        unfold Kind.row
        rw [hlen, ← hMM]
        exact HRW.out
      have hsee : See KL wr (.slice A k C) M := See.of_row hrow
      obtain ⟨s, hs⟩ : ∃ s, pairP M a b = s := ⟨_, rfl⟩
      have hsin : s.1 ≤ s.2 ∧ s.2 < M.length := by rw [← hs]; exact pairP_in a b (by have := HM.out; omega)
      have hlo : mf M s.1 = (s.1 : Int) * 3 := by rw [← hMM]; exact M3_mf k _ (by omega)
      have hhi : mf M s.2 = (s.2 : Int) * 3 := by rw [← hMM]; exact M3_mf k _ (by omega)
      obtain ⟨n, hn⟩ : ∃ n, M.length - 1 = n := ⟨_, rfl⟩
      have hkn : k = n + 1 := by have := HM.out; omega
      have hadd := pair_add hok.rise [] hsin
      have hdrop := pair_drop hok.rise (H := [s]) hsin (List.mem_singleton.2 rfl)
      have hlong := long_one hsin
      rw [hn] at hadd hdrop
      obtain ⟨E, hE⟩ : ∃ E, entN s n = E := ⟨_, rfl⟩
      rw [hE] at hadd hdrop
      have hE4 : E ≤ 4 * lg n + 1 := by
        rw [← hE]; unfold entN; split
        · omega
        · have := ent_any (a := s.1) (b := s.2) n 0 n (by omega); rw [Nat.sub_zero] at this; exact this
      have hE0 : E = 0 ↔ s.1 = s.2 := by
        rw [← hE]; unfold entN; split
        · rename_i h; simp [h]
        · rename_i h; have := ent_pos s.1 s.2 0 n; constructor
          · intro h2; omega
          · intro h2; exact absurd h2 h
      obtain ⟨lo, hlo2⟩ : ∃ lo, mf M s.1 = lo := ⟨_, rfl⟩
      obtain ⟨hi, hhi2⟩ : ∃ hi, mf M s.2 = hi := ⟨_, rfl⟩
      rw [hlo2] at hlo hadd hdrop hlong
      rw [hhi2] at hhi hadd hdrop hlong
      obtain ⟨D, hD⟩ : ∃ D, hi - lo = D := ⟨_, rfl⟩
      rw [hD] at hlong
      have hM2 := HM.out
      have d0 : 0 ≤ D := by omega
      have d1 : D < 10000 := by omega
      have hl1 : 0 ≤ lo := by omega
      have hh1 : hi < 10000 := by omega
      obtain ⟨L, hL⟩ : ∃ L, lg n = L := ⟨_, rfl⟩
      have hL20 : L ≤ 20 := by rw [← hL]; exact lg_small (by omega)
      rw [hL] at hE4
      obtain ⟨q, hq⟩ : ∃ q, (lo == hi) = q := ⟨_, rfl⟩
      have hq1 : ((E : Int) == 0) = q := by
        rw [← hq]
        by_cases h : s.1 = s.2
        · have e1 : E = 0 := hE0.2 h
          have e2 : lo = hi := by rw [hlo, hhi, h]
          rw [e1, e2]; simp
        · have e1 : E ≠ 0 := fun h2 => h (hE0.1 h2)
          have e2 : lo ≠ hi := by omega
          have e3 : ((E : Int) == 0) = false := by simp [e1]
          rw [e3]; simp [e2]
      have hq2 : (E == 0) = q := by
        rw [← hq1]
        by_cases h : E = 0
        · rw [h]; rfl
        · have e3 : ((E : Int) == 0) = false := by simp [h]
          rw [e3]; simp [h]
      have hnew := newC _ M wr hsee hok
      have HNEW := Lib.hid hnew
      have HOK := Lib.hid hok
      have HLEN := Lib.hid (And.intro hlen hkn)
      have HROW := Lib.hid hrow
      have HS := Lib.hid hs
      have HLO := Lib.hid (And.intro hlo2 hhi2)
      have HADD := Lib.hid hadd
      have HDROP := Lib.hid hdrop
      have HLONG := Lib.hid hlong
      have HQ := Lib.hid (And.intro hq (And.intro hq1 hq2))
      have HD := Lib.hid (And.intro hD (And.intro d0 (And.intro d1 (And.intro hl1 hh1))))
      have HL := Lib.hid (And.intro hL hL20)
      have HE := Lib.hid hE4
      have hlt0 : ¬ k < k := Nat.lt_irrefl k
      clear hMM hok hlen hrow hsee hs hsin hlo hhi hn hkn hadd hdrop hlong hE hE4 hE0 hlo2 hhi2 hD hM2 d0 d1 hl1 hh1 hL hL20 hq hq1 hq2 hnew hkm hlt
      go_wp2_with fail
      (with_reducible refine HNEW.out.mono ?_)
      rintro e w1 ⟨bc, F, rfl, hc, hu1, hF⟩
      have hU1 := HU.out.trans hu1
      have c0 := (hU1.cell (p := ⟨w.heap.size, 0, none⟩) HC0.out.2.2 (by simp)).trans HC0.out.1
      have c1 := (hU1.cell (p := ⟨w.heap.size, 1, none⟩) HC0.out.2.2 (by simp)).trans HC0.out.2.1
      have hpo := pairOf (.slice A k C) M a b w1 ((See.of_row HROW.out).upd0 hu1) (by have := HLEN.out.1; have := HM.out; omega) (by have := HLEN.out.1; have := HM.out; omega) HAB.out.1 HAB.out.2
      unfold ofPost at hpo
      rw [HS.out, HLO.out.1, HLO.out.2] at hpo
      have HPO := Lib.hid hpo
      have HCV := Lib.hid hc
      have HF := Lib.hid (fun y hy => Nat.le_trans (HU0.out.trans HU.out).size (hF y hy))
      have HU1 := Lib.hid ((HU0.out.trans hU1))
      clear hpo hc hF hU1 hu1
      go_wp2_with fail
      (with_reducible refine HPO.out.mono ?_)
      rintro e w2 ⟨rfl, hu2⟩
      have ha := addC bc F M [] 0 w2 lo hi (HCV.out.upd0 hu2) HOK.out (by decide) (by decide)
      rw [HADD.out.1, HADD.out.2.1, HADD.out.2.2] at ha
      have HA := Lib.hid ha
      have HU2 := Lib.hid (HU1.out.trans hu2)
      clear ha hu2 c0 c1
      go_wp2_with fail
      (with_reducible refine HA.out.mono ?_)
      rintro e w3 ⟨rfl, ⟨N3, hN3, hc3⟩, hu3⟩
      have hg := longC bc F M [s] N3 w3 hc3
      rw [HLONG.out] at hg
      have HG := Lib.hid hg
      have HC3 := Lib.hid (And.intro hN3 hc3)
      have HU3 := Lib.hid (HU2.out.trans' hu3 (fun x hx => .inr (HF.out x hx)))
      clear hg hN3 hc3 hu3
      go_wp2_with fail
      (with_reducible refine HG.out.mono ?_)
      rintro e w4 ⟨rfl, hu4⟩
      have ha := dropC bc F M [s] N3 w4 lo hi (HC3.out.2.upd0 hu4) HOK.out (by have := HC3.out.1; omega) (by simp)
      rw [HDROP.out.1, HDROP.out.2.1, HDROP.out.2.2, List.erase_cons_head] at ha
      have HA4 := Lib.hid ha
      have HU4 := Lib.hid (HU3.out.trans hu4)
      clear ha hu4
      go_wp2_with fail
      (with_reducible refine HA4.out.mono ?_)
      rintro e w5 ⟨rfl, ⟨N5, hN5, hc5⟩, hu5⟩
      have hlc := logC n w5 (by have := HLEN.out.2; have := HM.out; omega)
      rw [HL.out.1] at hlc
      have HLC := Lib.hid hlc
      have hg := longC bc F M [] N5 w5 hc5
      rw [long_none] at hg
      have HG5 := Lib.hid hg
      have HU5 := Lib.hid (HU4.out.trans' hu5 (fun x hx => .inr (HF.out x hx)))
      have hsub : wrap64 ((k : Int) - 1) = (n : Int) := by rw [IntWalk.wrap64_in _ ⟨by have := HM.out; omega, by have := HM.out; omega⟩]; have := HLEN.out.2; omega
      have hsub2 : (k : Int) - 1 = (n : Int) := by have := HLEN.out.2; omega
      have L0 : (0 : Int) ≤ (L : Int) := Int.natCast_nonneg _
      have L1 : (L : Int) < 100 := by have := HL.out.2; omega
      have hleI : decide ((E : Int) ≤ 4 * (L : Int) + 1) = true := by have := HE.out; rw [decide_eq_true_iff]; omega
      have hleN : decide (E ≤ 4 * L + 1) = true := by have := HE.out; rw [decide_eq_true_iff]; omega
      have q1 := HQ.out.1
      have q2 := HQ.out.2.1
      have q3 := HQ.out.2.2
      have s1 : wrap64 (hi - lo) = D := by have := HD.out; rw [IntWalk.wrap64_in _ ⟨by omega, by omega⟩]; omega
      have s2 : hi - lo = D := HD.out.1
      have s3 : IntKind.u64.wrap D = D := by have := HD.out; exact IntWalk.u64_in _ ⟨by omega, by omega⟩
      clear hlc hg hN5 hc5 hu5 L0 L1
      go_wp2_with fail
      (with_reducible refine HLC.out.mono ?_)
      rintro e w' ⟨rfl, rfl⟩
      clear hsub hsub2
      have L0 : (0 : Int) ≤ (L : Int) := Int.natCast_nonneg _
      have L1 : (L : Int) < 100 := by have := HL.out.2; omega
      have w4 : wrap64 (4 * (L : Int)) = 4 * (L : Int) := IntWalk.wrap64_in _ ⟨by omega, by omega⟩
      have w5 : wrap64 (4 * (L : Int) + 1) = 4 * (L : Int) + 1 := IntWalk.wrap64_in _ ⟨by omega, by omega⟩
      clear L0 L1 s2 hleN q3
      go_wp2_with fail
      (with_reducible refine HG5.out.mono ?_)
      rintro e w6 ⟨rfl, hu6⟩
      have HU6 := Lib.hid (HU5.out.trans hu6)
      clear hu6
      go_wp2_with fail
      (with_reducible refine (awake16 _).mono ?_)
      rintro e w7 ⟨rfl, hu7⟩
      have HU7 := Lib.hid (HU6.out.trans hu7)
      clear hu7
      go_wp2_with fail
      go_ret
      exact ⟨rfl, HU7.out.below⟩
end Go.Proofs.Ythkiljfjjnckaaa
