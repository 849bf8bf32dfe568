/- The walk of HalfBound. -/
import Derived.Test.YtkhgglafnjfiaaaHalfBd
import Derived.IntWalk
namespace Go.Proofs.Ytkhgglafnjfiaaa
open Go.RowKit
attribute [local go_sem ↓] Go.wp_at_zero Go.wp_at_succ

theorem wrap64_nat (p : Nat) (h : p < 1000000) : wrap64 (p : Int) = (p : Int) := by unfold wrap64; omega

set_option maxRecDepth 100000 in
set_option maxHeartbeats 2000000 in
theorem bound22 (v : Value) (l : List (Bool × Int)) (w : World) (h : IsOps w v l) (hwf : ∀ o ∈ l, (Lit.int .i64 o.2).wf = true) (hl : l.length ≤ 9223372036854775807) :
    Calls Try.prog 12 #[v] w fun e w' => e = .returned (.bool true) ∧ Below w.heap.size w w' := by
  obtain ⟨Ao, Co, rfl⟩ := h.form
  obtain ⟨i1, hi1, hy0, hy1, hy2⟩ := info_parts info_op
  obtain ⟨n, hn⟩ : ∃ n, min l.length 400 = n := ⟨_, rfl⟩
  have hmn : Value.int .i64 (min (l.length : Int) 400) = Value.int .i64 (n : Int) := by rw [← hn]; congr 1; omega
  obtain ⟨A1, C1, hrun1, hsee1, hblk1⟩ := cut_to (P := Try.prog) Try.underlying55 hi1 hy1 h n (by omega)
  have hs1 : IsOps w (.slice A1 n C1) (l.take n) := by
    have := hsee1 w h
    unfold IsOps
    rw [opEnc_take, List.length_take, Nat.min_eq_left (by omega)]
    exact this
  have hwf1 : ∀ o ∈ l.take n, (Lit.int .i64 o.2).wf = true := fun o ho => hwf o (List.mem_of_mem_take ho)
  have hln : (l.take n).length = n := by rw [List.length_take]; omega
  have hn400 : n ≤ 400 := by omega
  generalize l.take n = os at *
  have HS1 := Lib.hid hs1
  have HWF := Lib.hid hwf1
  have HLN := Lib.hid hln
  have hnew := newW w
  unfold fnBuild fnDrop at hnew
  have HNEW := Lib.hid hnew
  clear hnew h hwf hs1 hwf1 hln hsee1 hblk1 hn
  go_enter Try.func12, Try.ntmps12
  go_wp2_with fail
  refine HNEW.out.mono ?_
  rintro e w1 ⟨b, F, rfl, hH, hu1, hF⟩
  have hL := HG.start hH hu1 (fun x hx => (hF x hx).1)
  have HLL := Lib.hid hL
  clear hL hH hu1 hF
  go_wp2_with fail
  go_loopg [4, 18] n (fun g m4 i wr => ∃ (k : Nat) (S : HS) (A D m : Nat), g + k = n ∧ i = .int .i64 (k : Int) ∧ m4 = .int .i64 (m : Int) ∧ A + D = m ∧ m ≤ k ∧ HG w wr (.pointer (some ⟨b, 0, none⟩)) S [] ∧ HOk S k ∧ Bd S A D)
  case atStart => exact ⟨0, S00, 0, 0, 0, rfl, rfl, rfl, rfl, Nat.le_refl _, HLL.out, ok00, Bd.start⟩
  case round =>
    obtain ⟨k, S, A, D, m, hk, rfl, rfl, hAD, hmk, hL, hO, hB⟩ := hrel
    have hkn : k ≤ n := by omega
    have HK := Lib.hid hk
    have HL0 := Lib.hid hL
    have HO := Lib.hid hO
    have HB := Lib.hid hB
    have HAD := Lib.hid hAD
    clear hk hL hO hB hAD
    by_cases hlt : k < n
    · have hop := HS1.out.upd HL0.out.up
      obtain ⟨q, oq, hA1, hcell1, hcell2⟩ := hop.at (k := k) (by rw [HLN.out]; exact hlt)
      subst hA1
      obtain ⟨o, ho⟩ : ∃ o, os[k]'(by rw [HLN.out]; exact hlt) = o := ⟨_, rfl⟩
      have hx : (Lit.int .i64 o.2).wf = true := HWF.out o (by rw [← ho]; exact List.getElem_mem _)
      rw [ho] at hcell1 hcell2
      obtain ⟨d, x⟩ := o
      simp only at hcell1 hcell2 hx
      have b0 : (0 : Int) ≤ (k : Int) := Int.natCast_nonneg _
      have b1 : (k : Int) < (n : Int) := by omega
      have HX := Lib.hid hx
      have hoc0 : (wr.alloc (.cells #[.bool d, .int .i64 x] 62)).cell? ⟨wr.heap.size, 0, none⟩ = some (.bool d) := by rw [World.cell?_alloc_at _ _ _ _ rfl]; rfl
      have hoc1 : (wr.alloc (.cells #[.bool d, .int .i64 x] 62)).cell? ⟨wr.heap.size, 1, none⟩ = some (.int .i64 x) := by rw [World.cell?_alloc_at _ _ _ _ rfl]; rfl
      have hgq : HG w (wr.alloc (.cells #[.bool d, .int .i64 x] 62)) (.pointer (some ⟨b, 0, none⟩)) S [] := HL0.out.quiet ((Upd.refl _ _).alloc _)
      clear hop ho hx
      go_upto_region 6 with fail
      generalize wr.alloc (.cells #[.bool d, .int .i64 x] 62) = wq at *
      generalize wr.heap.size = ob at *
      have HGQ := Lib.hid hgq
      clear hgq
      go_upto_if 25 with (go_at_call 50; refine (workG HGQ.out).mono ?_; rintro e w' ⟨rfl, rfl⟩)
      go_cut [8, 9] (fun s8 s9 wc => ∃ (nn : Nat) (did : Bool) (A' D' : Nat), s8 = .int .i64 (nn : Int) ∧ s9 = .bool did ∧ (did = false → nn = 0) ∧ A' + D' = (if did then m + 1 else m) ∧ HG w wc (.pointer (some ⟨b, 0, none⟩)) (opS S d x) [] ∧ Bd (opS S d x) A' D' ∧ (opS S d x).wk = S.wk + nn)
      case first =>
        have had := HAD.out
        cases d
        · obtain ⟨e1, e2⟩ := HB.out.put HO.out (by omega) x
          have E1 := Lib.hid e1
          have E2 := Lib.hid e2
          have HAD2 := Lib.hid had
          clear e1 e2 had
          go_wp2_with fail
          refine (addG HGQ.out HO.out (by omega) x HX.out).mono ?_
          rintro e w2 ⟨rfl, hg2, hk2⟩
          have HG2 := Lib.hid hg2
          clear hg2 hk2
          go_wp2_with fail
          go_meet
          case rel =>
            refine ⟨putN S x, !has S x, _, _, rfl, rfl, ?_, ?_, HG2.out, E1.out, E2.out⟩
            · intro hh
              unfold putN
              rw [if_pos (by simpa using hh)]
            · have := HAD2.out
              cases has S x <;> simp <;> omega
        · obtain ⟨e1, e2⟩ := HB.out.less HO.out (by omega) x
          have E1 := Lib.hid e1
          have E2 := Lib.hid e2
          have HAD2 := Lib.hid had
          clear e1 e2 had
          go_wp2_with fail
          refine (dropG HGQ.out HO.out (by omega) x HX.out).mono ?_
          rintro e w2 ⟨rfl, hg2, hk2⟩
          have HG2 := Lib.hid hg2
          clear hg2 hk2
          go_wp2_with fail
          go_meet
          case rel =>
            refine ⟨lessN S x, has S x, _, _, rfl, rfl, ?_, ?_, HG2.out, E1.out, E2.out⟩
            · intro hh
              unfold lessN
              rw [if_neg (by simp [hh])]
            · have := HAD2.out
              cases has S x <;> simp <;> omega
      case rest =>
        obtain ⟨nn, did, A', D', rfl, rfl, hnn, hAD3, hg3, hB3, hwk3⟩ := hcut
        have hO3 := HO.out.op (by omega) d x
        generalize opS S d x = S3 at *
        obtain ⟨m3, hm3e⟩ : ∃ m3, A' + D' = m3 := ⟨_, rfl⟩
        have hm3 : m3 ≤ k + 1 := by cases did <;> simp at hAD3 <;> omega
        have hm3d : (if did then m + 1 else m) = m3 := by rw [← hAD3]; exact hm3e
        obtain ⟨was, hwas⟩ : ∃ was, S.wk = was := ⟨_, rfl⟩
        rw [hwas] at hwk3
        obtain ⟨wk3, hw3⟩ : ∃ wk3, was + nn = wk3 := ⟨_, rfl⟩
        rw [hw3] at hwk3
        obtain ⟨v3, hv3⟩ : ∃ v3, (vAll (view S3)).length = v3 := ⟨_, rfl⟩
        obtain ⟨s3, hs3⟩ : ∃ s3, (view S3).length = s3 := ⟨_, rfl⟩
        obtain ⟨t3, ht3⟩ : ∃ t3, (treesL S3).length = t3 := ⟨_, rfl⟩
        have hs3' : S3.cs.length = s3 := by rw [← view_len]; exact hs3
        have hcs := hO3.cs
        rw [hs3'] at hcs
        have hbd := hB3
        unfold Bd at hbd
        rw [hs3', hv3, hwk3] at hbd
        obtain ⟨hv1, hv2⟩ := bd_two hbd
        have hbe := bd_end hbd (by omega)
        rw [hm3e] at hbe
        obtain ⟨n1, hn1⟩ : ∃ n1, m3 + 1 = n1 := ⟨_, rfl⟩
        obtain ⟨n2, hn2⟩ : ∃ n2, 2 * v3 + 1 = n2 := ⟨_, rfl⟩
        obtain ⟨lg1, hlg1⟩ : ∃ lg1, logN n1 = lg1 := ⟨_, rfl⟩
        obtain ⟨lg2, hlg2⟩ : ∃ lg2, logN n2 = lg2 := ⟨_, rfl⟩
        have hlb : bitsN m3 = lg1 := by rw [← hlg1, ← hn1]; rfl
        rw [hlb] at hbe
        have hlg9 : lg1 ≤ 9 := by rw [← hlb]; exact bitsN_le _ _ (by omega)
        have htl : t3 ≤ lg2 := by
          rw [← ht3, ← hlg2, ← hn2]
          unfold treesL
          rw [List.length_map]
          have e1 := idxF_len S3.cs 0
          rw [hs3'] at e1
          refine Nat.le_trans e1 ?_
          show bitsN s3 ≤ bitsN (2 * v3 + 1 - 1)
          rw [Nat.add_sub_cancel]
          exact bitsN_le _ _ (Nat.lt_of_le_of_lt hv2 (bitsN_lt _))
        have hlg2b : lg2 ≤ 20 := by
          rw [← hlg2, ← hn2]
          show bitsN (2 * v3 + 1 - 1) ≤ 20
          rw [Nat.add_sub_cancel]
          exact bitsN_le _ _ (by omega)
        obtain ⟨pm, hpm⟩ : ∃ pm, m3 * (lg1 + 2) = pm := ⟨_, rfl⟩
        rw [hpm] at hbe
        have hpb : pm ≤ 401 * 11 := by rw [← hpm]; exact Nat.mul_le_mul (by omega) (by omega)
        have hpv : Value.int .i64 (wrap64 ((m3 : Int) * ((lg1 : Int) + 2))) = Value.int .i64 (pm : Int) := by
          have e : ((m3 : Int) * ((lg1 : Int) + 2)) = (pm : Int) := by rw [← hpm]; push_cast; rfl
          rw [e, wrap64_nat pm (by omega)]
        have hn1v : Value.int .i64 ((m3 : Int) + 1) = Value.int .i64 (n1 : Int) := by congr 1; omega
        have hn2v : Value.int .i64 (2 * (v3 : Int) + 1) = Value.int .i64 (n2 : Int) := by congr 1; omega
        have hwv : Value.int .i64 ((was : Int) + (nn : Int)) = Value.int .i64 (wk3 : Int) := by congr 1; omega
        have hwq : ((wk3 : Int) != (wk3 : Int)) = false := by simp
        have hw0 : did = false → wk3 = was := fun h => by have := hnn h; omega
        have hwb : wk3 ≤ 5000 := by omega
        have hwb2 : was ≤ 5000 := by omega
        have hnb : nn ≤ 5000 := by omega
        have hn1b : n1 ≤ 402 := by omega
        have hn2b : n2 ≤ 1000 := by omega
        have hv3b : v3 ≤ 401 := by omega
        have HG3 := Lib.hid hg3
        have HO3 := Lib.hid hO3
        have HB3 := Lib.hid hB3
        have HWK := Lib.hid hwk3
        have HV := Lib.hid hv3
        have HST := Lib.hid hs3
        have HTL := Lib.hid ht3
        have HLG1 := Lib.hid hlg1
        have HLG2 := Lib.hid hlg2
        have HAD3 := Lib.hid hm3e
        have HWAS := Lib.hid hwas
        clear hg3 hO3 hB3 hwk3 hv3 hs3 hs3' ht3 hlg1 hlg2 hm3e hwas hAD3 hbd hw3 hn1 hn2 hlb hpm hoc0 hoc1 hcell1 hcell2
        rw [HWAS.out]
        cases did
        · have hn0 := hnn rfl
          simp at hm3d
          have hw1 := hw0 rfl
          subst hm3d hn0 hw1
          clear hnn hw0 hwv

          go_wp2_with fail
          refine (lenG HG3.out HO3.out).mono ?_
          rintro e w' ⟨rfl, rfl⟩
          rw [HV.out]
          go_wp2_with fail
          refine (workG HG3.out).mono ?_
          rintro e w' ⟨rfl, rfl⟩
          rw [HWK.out]
          go_wp2_with fail
          refine (workG HG3.out).mono ?_
          rintro e w' ⟨rfl, rfl⟩
          rw [HWK.out]
          go_wp2_with fail
          refine (logRef n1 wc (by omega)).mono ?_
          rintro e w' ⟨rfl, rfl⟩
          rw [HLG1.out]
          go_wp2_with fail
          refine (storedG HG3.out).mono ?_
          rintro e w' ⟨rfl, rfl⟩
          rw [HST.out]
          go_wp2_with fail
          refine (storedG HG3.out).mono ?_
          rintro e w' ⟨rfl, rfl⟩
          rw [HST.out]
          go_wp2_with fail
          refine (treesG HG3.out HO3.out (by omega)).mono ?_
          rintro e w5 ⟨A5, C5, ts, rfl, _, hu5, _⟩
          rw [HTL.out]
          have HG5 := Lib.hid (HG3.out.quiet hu5)
          clear hu5
          go_wp2_with fail
          refine (logRef n2 w5 (by omega)).mono ?_
          rintro e w' ⟨rfl, rfl⟩
          rw [HLG2.out]
          go_wp2_with fail
          go_roundg (n - (k + 1))
          case measure => have := HK.out; omega
          case rel => exact ⟨k + 1, S3, A', D', _, by have := HK.out; omega, by go_num, rfl, HAD3.out, hm3, HG5.out, HO3.out, HB3.out⟩
        · simp at hm3d
          have hmv : Value.int .i64 ((m : Int) + 1) = Value.int .i64 (m3 : Int) := by congr 1; omega
          clear hnn hm3d hw0

          go_wp2_with fail
          refine (lenG HG3.out HO3.out).mono ?_
          rintro e w' ⟨rfl, rfl⟩
          rw [HV.out]
          go_wp2_with fail
          refine (workG HG3.out).mono ?_
          rintro e w' ⟨rfl, rfl⟩
          rw [HWK.out]
          go_wp2_with fail
          refine (workG HG3.out).mono ?_
          rintro e w' ⟨rfl, rfl⟩
          rw [HWK.out]
          go_wp2_with fail
          refine (logRef n1 wc (by omega)).mono ?_
          rintro e w' ⟨rfl, rfl⟩
          rw [HLG1.out]
          go_wp2_with fail
          refine (storedG HG3.out).mono ?_
          rintro e w' ⟨rfl, rfl⟩
          rw [HST.out]
          go_wp2_with fail
          refine (storedG HG3.out).mono ?_
          rintro e w' ⟨rfl, rfl⟩
          rw [HST.out]
          go_wp2_with fail
          refine (treesG HG3.out HO3.out (by omega)).mono ?_
          rintro e w5 ⟨A5, C5, ts, rfl, _, hu5, _⟩
          rw [HTL.out]
          have HG5 := Lib.hid (HG3.out.quiet hu5)
          clear hu5
          go_wp2_with fail
          refine (logRef n2 w5 (by omega)).mono ?_
          rintro e w' ⟨rfl, rfl⟩
          rw [HLG2.out]
          go_wp2_with fail
          go_roundg (n - (k + 1))
          case measure => have := HK.out; omega
          case rel => exact ⟨k + 1, S3, A', D', _, by have := HK.out; omega, by go_num, rfl, HAD3.out, hm3, HG5.out, HO3.out, HB3.out⟩
    · go_wp2_with fail
      refine (awake22 _).mono ?_
      rintro e w' ⟨rfl, hu⟩
      have HF := Lib.hid (HL0.out.up.trans hu)
      clear hu
      go_wp2_with fail
      go_ret
      exact ⟨rfl, HF.out.below⟩
end Go.Proofs.Ytkhgglafnjfiaaa
