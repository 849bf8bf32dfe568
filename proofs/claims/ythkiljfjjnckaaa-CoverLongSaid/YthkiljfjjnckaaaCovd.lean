/- 'covered' and 'alike' of chapter 16. -/
import Derived.Test.YthkiljfjjnckaaaPairOf
import Derived.Test.YthkiljfjjnckaaaCostP
import Derived.Test.YthkiljfjjnckaaaAw16
namespace Go.Proofs.Ythkiljfjjnckaaa
open Go.RowKit
attribute [local go_sem ↓] Go.wp_at_zero Go.wp_at_succ

/-- Pairs of numbers. -/
def KPr : Kind (Nat × Nat) := { T := 0, sT := 83, eT := 57, sz := 2, enc := fun x => [.int .u16 (x.1 : Int), .int .u16 (x.2 : Int)], len := fun _ => rfl, one := fun x u hu => by simp at hu; rcases hu with rfl | rfl <;> rfl }

theorem KPr.at {w : World} {A : Option Addr} {n C : Nat} {l : List (Nat × Nat)} (h : See KPr w (.slice A n C) l) {k : Nat} {x : Nat × Nat} (hx : l[k]? = some x) :
    ∃ b o, A = some ⟨b, o, none⟩ ∧ n ≤ C ∧ C ≤ maxLen ∧ w.cell? ⟨b, o + k * 2, none⟩ = some (.int .u16 (x.1 : Int)) ∧ w.cell? ⟨b, o + k * 2 + 1, none⟩ = some (.int .u16 (x.2 : Int)) := by
  obtain ⟨b, o, h1, h2, h3, h4⟩ := h.at hx
  have e0 := h4 0 _ rfl
  have e1 := h4 1 _ rfl
  refine ⟨b, o, h1, h2, h3, by simpa [KPr] using e0, ?_⟩
  simpa [KPr, Nat.add_assoc] using e1

/-- What is held behind all of them. -/
def covH (M : List Int) (L : List (Nat × Nat)) : List (Nat × Nat) := (L.map fun p => pairP M p.1 p.2).reverse

theorem covH_ok {M : List Int} (L : List (Nat × Nat)) (h : 0 < M.length) : HOkC M (covH M L) := by
  intro s hs
  simp only [covH, List.mem_reverse, List.mem_map] at hs
  obtain ⟨p, _, rfl⟩ := hs
  exact pairP_in _ _ h

def CovdPost (w : World) (M : List Int) (H : List (Nat × Nat)) (e : Ending) (w' : World) : Prop :=
  ∃ b F N, e = .returned (.pointer (some ⟨b, 0, none⟩)) ∧ IsCov w' b F M H N ∧ N < 1000 ∧ Upd [] w w' ∧ ∀ y ∈ F, w.heap.size ≤ y

set_option maxRecDepth 100000 in
set_option maxHeartbeats 4000000 in
theorem coveredC (v vl : Value) (M : List Int) (L : List (Nat × Nat)) (w : World) (hs : See KL w v M) (hM : MarksOk M) (h0 : 0 < M.length) (hL : See KPr w vl L) (hLn : L.length < 1000) (hwf : ∀ p ∈ L, p.1 < 65536 ∧ p.2 < 65536) :
    Calls Try.prog 48 #[v, vl] w (CovdPost w M (covH M L)) := by
  obtain ⟨Am, Cm, rfl⟩ := hs.form
  obtain ⟨Al, Cl, rfl⟩ := hL.form
  have HNEW := Lib.hid (newC _ M w hs hM)
  have HS := Lib.hid hs
  have HL := Lib.hid hL
  have HM := Lib.hid (And.intro hM h0)
  have HWF := Lib.hid (And.intro hwf hLn)
  have hl' : (L.length : Int) < 1000 := by omega
  clear hs hL hM h0 hwf hLn
  go_enter Try.func48, Try.ntmps48
  go_wp2_with fail
  (with_reducible refine HNEW.out.mono ?_)
  rintro e w1 ⟨b, F, rfl, hc, hu1, hF⟩
  have HC1 := Lib.hid hc
  have HU1 := Lib.hid hu1
  have HF := Lib.hid hF
  clear hc hu1 hF
  go_wp2_with fail
  go_loopg [20] L.length (fun m s20 wr => ∃ k, m + k = L.length ∧ s20 = .int .i64 (k : Int) ∧ (∃ N, N ≤ k ∧ IsCov wr b F M (covH M (L.take k)) N) ∧ Upd [] w wr)
  case atStart => exact ⟨0, rfl, rfl, ⟨0, Nat.le_refl _, HC1.out⟩, HU1.out⟩
  case round =>
    obtain ⟨k, hk, rfl, ⟨N, hN, hc⟩, hu⟩ := hrel
    have HK := Lib.hid hk
    have HN := Lib.hid hN
    have HC := Lib.hid hc
    have HU := Lib.hid hu
    have hkL : k ≤ L.length := by omega
    have b0 : (0 : Int) ≤ (k : Int) := Int.natCast_nonneg _
    clear hk hN hc hu
    by_cases hlt : k < L.length
    · obtain ⟨p, hp⟩ : ∃ p, L[k]? = some p := ⟨_, List.getElem?_eq_getElem hlt⟩
      have hpm : p ∈ L := List.mem_of_getElem? hp
      have hpw := HWF.out.1 p hpm
      obtain ⟨bl, ol, hA, -, -, l0, l1⟩ := KPr.at (HL.out.upd0 HU.out) hp
      subst hA
      obtain ⟨pa, pb⟩ := p
      dsimp only at l0 l1 hpw
      have hu2 : Upd [] wr (wr.alloc (.cells #[.int .u16 (pa : Int), .int .u16 (pb : Int)] 57)) := (Upd.refl _ _).alloc _
      have hpo := pairOf _ M pa pb _ ((HS.out.upd0 HU.out).upd0 hu2) HM.out.2 HM.out.1.len hpw.1 hpw.2
      have hin := pairP_in (M := M) pa pb HM.out.2
      have htk : covH M (L.take (k + 1)) = pairP M pa pb :: covH M (L.take k) := by
        unfold covH
        rw [List.take_add_one, hp]
        simp
      obtain ⟨s, hs⟩ : ∃ s, pairP M pa pb = s := ⟨_, rfl⟩
      rw [hs] at hpo hin htk
      have hadd := pair_add HM.out.1.rise (covH M (L.take k)) hin
      unfold ofPost at hpo
      obtain ⟨lo, hlo⟩ : ∃ lo, mf M s.1 = lo := ⟨_, rfl⟩
      obtain ⟨hi, hhi⟩ : ∃ hi, mf M s.2 = hi := ⟨_, rfl⟩
      rw [hlo, hhi] at hpo hadd
      have hac := fun w2 (hu : Upd [] wr w2) => addC b F M (covH M (L.take k)) N w2 lo hi (HC.out.upd0 hu) HM.out.1 (by have := HN.out; have := HWF.out.2; omega) (by simp [covH]; have := HWF.out.2; omega)
      rw [hadd.1, hadd.2.1, hadd.2.2] at hac
      obtain ⟨E, hE⟩ : ∃ E, entN s (M.length - 1) = E := ⟨_, rfl⟩
      rw [hE] at hac
      have b1 : (k : Int) < (L.length : Int) := by omega
      have HPO := Lib.hid hpo
      have HAC := Lib.hid hac
      have HTK := Lib.hid htk
      have HLT := Lib.hid hlt
      have HU2 := Lib.hid hu2
      clear hpo hin htk hs hadd hlo hhi hac hE hlt hpm hpw hp hu2 hkL
      go_wp2_with fail
      (with_reducible refine HPO.out.mono ?_)
      rintro e w3 ⟨rfl, hu3⟩
      have HA := Lib.hid (HAC.out _ (HU2.out.trans hu3))
      have HU3 := Lib.hid (HU.out.trans (HU2.out.trans hu3))
      clear hu3
      go_wp2_with fail
      (with_reducible refine HA.out.mono ?_)
      rintro e w4 ⟨rfl, ⟨N', hN', hc'⟩, hu4⟩
      have HC4 := Lib.hid (And.intro hN' hc')
      have HU4 := Lib.hid (HU3.out.trans' hu4 (fun x hx => .inr (HF.out x hx)))
      clear hN' hc' hu4
      go_wp2_with fail
      go_roundg (gk - 1)
      case measure => have := HK.out; have := HLT.out; omega
      case rel =>
        refine ⟨k + 1, by have := HK.out; have := HLT.out; omega, by go_num, ⟨N', by have := HC4.out.1; have := HN.out; omega, ?_⟩, HU4.out⟩
        rw [HTK.out]
        exact HC4.out.2
    · go_wp2_with fail
      go_ret
      refine ⟨b, F, N, rfl, ?_, by have := HN.out; have := HWF.out.2; omega, HU.out, HF.out⟩
      have := HC.out
      rwa [List.take_of_length_le (by omega)] at this

theorem whole_same {M : List Int} {H H' : List (Nat × Nat)} (h : HOkC M H) (h' : HOkC M H') (hg : gapsH M H = gapsH M H') : wholeP M H = wholeP M H' ∧ gapsM M H = gapsM M H' := by
  rw [wholeP_eq h, wholeP_eq h', gapsM_eq h, gapsM_eq h']
  unfold wholeG
  rw [hg]
  exact ⟨rfl, rfl⟩

theorem gapsH_len (M : List Int) (H : List (Nat × Nat)) : (gapsH M H).length = M.length - 1 := by simp [gapsH]

set_option maxRecDepth 100000 in
set_option maxHeartbeats 4000000 in
theorem alikeC (a b : Nat) (F G : List Nat) (M : List Int) (H H' : List (Nat × Nat)) (N N' : Nat) (w : World) (ha : IsCov w a F M H N) (hb : IsCov w b G M H' N') (hl : M.length < 400000)
    (h : HOkC M H) (h' : HOkC M H') (hg : gapsH M H = gapsH M H') :
    Calls Try.prog 50 #[.pointer (some ⟨a, 0, none⟩), .pointer (some ⟨b, 0, none⟩)] w fun e w' => e = .returned (.bool true) ∧ Upd [] w w' := by
  obtain ⟨hw, hgm⟩ := whole_same h h' hg
  have hgl : (gapsM M H).length < 1000000 := by rw [gapsM_eq h, gapsH_len]; omega
  obtain ⟨X, hX⟩ : ∃ X, (wholeP M H).long = X := ⟨_, rfl⟩
  obtain ⟨Y, hY⟩ : ∃ Y, (wholeP M H).runs = Y := ⟨_, rfl⟩
  obtain ⟨G0, hG0⟩ : ∃ G0, gapsM M H = G0 := ⟨_, rfl⟩
  have c1 := fun w2 (hu : Upd [] w w2) => longC a F M H N w2 (ha.upd0 hu)
  have c2 := fun w2 (hu : Upd [] w w2) => longC b G M H' N' w2 (hb.upd0 hu)
  have c3 := fun w2 (hu : Upd [] w w2) => runsC a F M H N w2 (ha.upd0 hu)
  have c4 := fun w2 (hu : Upd [] w w2) => runsC b G M H' N' w2 (hb.upd0 hu)
  have c5 := fun w2 (hu : Upd [] w w2) => gapsC a F M H N w2 (ha.upd0 hu) hl
  have c6 := fun w2 (hu : Upd [] w w2) => gapsC b G M H' N' w2 (hb.upd0 hu) hl
  simp only [← hw, hX, hY, ← hgm, hG0] at c1 c2 c3 c4 c5 c6
  rw [hG0] at hgl
  have C1 := Lib.hid c1
  have C2 := Lib.hid c2
  have C3 := Lib.hid c3
  have C4 := Lib.hid c4
  have C5 := Lib.hid c5
  have C6 := Lib.hid c6
  have HGL := Lib.hid hgl
  clear hw hgm hgl hX hY hG0 c1 c2 c3 c4 c5 c6 ha hb hl h h' hg
  go_enter Try.func50, Try.ntmps50
  go_wp2_with fail
  (with_reducible refine (C1.out _ (Upd.refl _ _)).mono ?_)
  rintro e w1 ⟨rfl, hu⟩
  have U1 := Lib.hid hu
  clear hu
  go_wp2_with fail
  (with_reducible refine (C2.out _ U1.out).mono ?_)
  rintro e w2 ⟨rfl, hu⟩
  have U2 := Lib.hid (U1.out.trans hu)
  clear hu
  go_wp2_with fail
  (with_reducible refine (C3.out _ U2.out).mono ?_)
  rintro e w3 ⟨rfl, hu⟩
  have U3 := Lib.hid (U2.out.trans hu)
  clear hu
  go_wp2_with fail
  (with_reducible refine (C4.out _ U3.out).mono ?_)
  rintro e w4 ⟨rfl, hu⟩
  have U4 := Lib.hid (U3.out.trans hu)
  clear hu
  go_wp2_with fail
  (with_reducible refine (C5.out _ U4.out).mono ?_)
  rintro e w5 ⟨A5, B5, rfl, hr5, hu⟩
  have U5 := Lib.hid (U4.out.trans hu)
  have R5 := Lib.hid (See.of_row hr5)
  clear hu hr5
  go_wp2_with fail
  (with_reducible refine (C6.out _ U5.out).mono ?_)
  rintro e w6 ⟨A6, B6, rfl, hr6, hu⟩
  have hsm := same16 _ _ _ _ w6 (R5.out.upd0 hu) (See.of_row hr6) HGL.out HGL.out
  rw [decide_eq_true rfl] at hsm
  have U6 := Lib.hid (U5.out.trans hu)
  have HSM := Lib.hid hsm
  clear hu hr6 hsm
  go_wp2_with fail
  (with_reducible refine HSM.out.mono ?_)
  rintro e w7 ⟨rfl, hu⟩
  have U7 := Lib.hid (U6.out.trans hu)
  clear hu
  go_wp2_with fail
  go_ret
  exact ⟨rfl, U7.out⟩
end Go.Proofs.Ythkiljfjjnckaaa
