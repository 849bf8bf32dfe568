/- CoverAll: the walk. -/
import Derived.Test.YthkiljfjjnckaaaCovd
import Derived.Test.YthkiljfjjnckaaaSqz
namespace Go.Proofs.Ythkiljfjjnckaaa
open Go.RowKit
attribute [local go_sem ↓] Go.wp_at_zero Go.wp_at_succ

def mnI : Int := -9223372036854775808
def mxI : Int := 9223372036854775807

theorem ends_ok (l : List Int) (hl : l.length < 1000) (hwf : ∀ x ∈ l, mnI ≤ x ∧ x ≤ mxI) : MarksOk (sqz (l ++ [mnI, mxI])) := by
  refine ⟨sqz_rise _, fun x hx => ?_, ?_⟩
  · have := sqz_mem hx
    simp only [List.mem_append, List.mem_cons, List.not_mem_nil, or_false] at this
    rcases this with h | rfl | rfl
    · have := hwf x h; unfold mnI mxI at this; exact this
    · unfold mnI; decide
    · unfold mxI; decide
  · have := sqz_len (l ++ [mnI, mxI]); simp at this; omega

theorem ends_at (l : List Int) (hl : l.length < 1000) (hwf : ∀ x ∈ l, mnI ≤ x ∧ x ≤ mxI) :
    ∃ n, (sqz (l ++ [mnI, mxI])).length = n + 1 ∧ 1 ≤ n ∧ n < 1100 ∧ mf (sqz (l ++ [mnI, mxI])) 0 = mnI ∧ mf (sqz (l ++ [mnI, mxI])) n = mxI := by
  have hok := ends_ok l hl hwf
  have hle := sqz_len (l ++ [mnI, mxI])
  have h1 : mnI ∈ sqz (l ++ [mnI, mxI]) := mem_sqz (by simp)
  have h2 : mxI ∈ sqz (l ++ [mnI, mxI]) := mem_sqz (by simp)
  obtain ⟨M, hM⟩ : ∃ M, sqz (l ++ [mnI, mxI]) = M := ⟨_, rfl⟩
  rw [hM] at hok hle h1 h2 ⊢
  simp at hle
  obtain ⟨i, hi, hi2⟩ := List.getElem_of_mem h1
  obtain ⟨j, hj, hj2⟩ := List.getElem_of_mem h2
  have ei : mf M i = mnI := by have := mf_get hi; rw [List.getElem?_eq_getElem hi, hi2] at this; exact (Option.some.inj this).symm
  have ej : mf M j = mxI := by have := mf_get hj; rw [List.getElem?_eq_getElem hj, hj2] at this; exact (Option.some.inj this).symm
  have hi0 : i = 0 := by
    rcases Nat.eq_zero_or_pos i with h | h
    · exact h
    · have h3 := mf_rise hok.rise h hi
      have h4 := (hok.wf (mf M 0) (List.mem_of_getElem? (mf_get (M := M) (i := 0) (by omega)))).1
      rw [ei] at h3; unfold mnI at h3; omega
  have hjn : j = M.length - 1 := by
    rcases Nat.lt_or_ge j (M.length - 1) with h | h
    · have h3 := mf_rise hok.rise h (by omega)
      have h4 := (hok.wf (mf M (M.length - 1)) (List.mem_of_getElem? (mf_get (M := M) (i := M.length - 1) (by omega)))).2
      rw [ej] at h3; unfold mxI at h3; omega
    · omega
  have hne : i ≠ j := by
    intro e; rw [e, ej] at ei; unfold mnI mxI at ei; omega
  refine ⟨M.length - 1, by omega, by omega, by omega, ?_, ?_⟩
  · rw [← hi0]; exact ei
  · rw [← hjn]; exact ej

/-- Each gap by itself. -/
def allH : Nat → List (Nat × Nat)
  | 0 => []
  | k + 1 => (k, k + 1) :: allH k

theorem allH_len (k : Nat) : (allH k).length = k := by induction k with
  | zero => rfl
  | succ k ih => simp [allH, ih]
theorem allH_mem {k i : Nat} (h : i < k) : (i, i + 1) ∈ allH k := by
  induction k with
  | zero => omega
  | succ k ih =>
    rcases (by omega : i < k ∨ i = k) with h1 | rfl
    · exact List.mem_cons_of_mem _ (ih h1)
    · exact List.mem_cons_self
theorem allH_ok {M : List Int} (k : Nat) (h : k < M.length) : HOkC M (allH k) := by
  induction k with
  | zero => intro s hs; simp [allH] at hs
  | succ k ih =>
    intro s hs
    rcases List.mem_cons.1 hs with rfl | hs
    · exact ⟨Nat.le_succ _, h⟩
    · exact ih (by omega) s hs
theorem gaps_true {M : List Int} {H : List (Nat × Nat)} (h : ∀ i, i < M.length - 1 → holdsG H i = true) : gapsH M H = List.replicate (M.length - 1) true := by
  unfold gapsH
  apply List.ext_getElem?
  intro i
  by_cases hi : i < M.length - 1
  · simp [hi, h i hi]
  · simp [hi]
theorem all_gaps (M : List Int) : gapsH M (allH (M.length - 1)) = List.replicate (M.length - 1) true := gaps_true fun i hi => by
  unfold holdsG
  rw [List.any_eq_true]
  exact ⟨(i, i + 1), allH_mem hi, by simp⟩
theorem one_gapsH (M : List Int) : gapsH M [(0, M.length - 1)] = List.replicate (M.length - 1) true := gaps_true fun i hi => by simp [holdsG, hi]

theorem one_runs {M : List Int} (h : 1 ≤ M.length - 1) : (wholeP M [(0, M.length - 1)]).runs = 1 := by
  rw [wholeP_eq (by intro u hu; simp at hu; rw [hu]; exact ⟨Nat.zero_le _, by omega⟩)]
  unfold wholeG
  rw [one_gapsH]
  unfold partG
  dsimp only
  rw [runsG_ones, if_pos ⟨by omega, rfl⟩]
  rfl

theorem see_nilP (w : World) : See KPr w (.slice none 0 0) [] := ⟨rfl, .inl ⟨rfl, rfl⟩⟩

theorem info_int64D : (Try.prog.info? 2).map (fun i => (i.zero, i.size, i.bytes)) = some (some (.int .i64 0), 1, 8) := by kernel_rfl

set_option maxRecDepth 100000 in
set_option maxHeartbeats 2000000 in
theorem copyLongs (s : Value) (n : Nat) (xs : List Value) (w : World) (hs : Sees w 1 s n xs) (h1 : ∀ u ∈ xs, u.oneCell' = true) (hb : n < 1000000) :
    Calls Try.prog 15 #[s] w fun e w' => ∃ A C, e = .returned (.slice A n C) ∧ w'.ownsRow w.heap.size 2 1 (.slice A n C) n xs ∧ Upd [] w w' := by
  obtain ⟨i0, hi, hz0, hz1, hz2⟩ := info_parts info_int64D
  have HS := Lib.hid hs
  have H1 := Lib.hid h1
  have HB := Lib.hid hb
  clear hs h1 hb
  go_enter Try.func15, Try.ntmps15
  go_wp2_with (at_builtin; refine wpList_app _ rfl _ _ 22 rfl w.heap.size 2 i0 (.int .i64 0) 1 8 Try.underlying22 hi hz0 hz1 hz2 rfl (by decide) _ 0 [] rfl (World.ownsRow_made w #[] 0 (Nat.le_refl _) (by decide) rfl) _ n xs rfl (sees_upd HS.out ((Upd.refl [] w).alloc _) (by simp)) H1.out (by have := HB.out; unfold maxLen; omega) (by have := HB.out; omega) (by simp) ?_)
  intro A C w1 HP
  have HU := HP.upd
  have hb1 : Upd [] w w1 := ((Upd.refl [] w).alloc _).trans' HU (fun k hk => .inr (by simp [blk] at hk; omega))
  have hown : w1.ownsRow w.heap.size 2 1 (.slice A n C) n xs := by simpa using HP.own
  have HO := Lib.hid (And.intro hown hb1)
  clear HP HU hb1 hown
  go_wp2_with fail
  go_ret
  exact ⟨_, _, rfl, HO.out.1, HO.out.2⟩

set_option maxRecDepth 100000 in
set_option maxHeartbeats 8000000 in
theorem coverAll_walk (v : Value) (l : List Int) (w : World) (hs : See KL w v l) (hwf : ∀ x ∈ l, mnI ≤ x ∧ x ≤ mxI) :
    Calls Try.prog 13 #[v] w fun e w' => e = .returned (.bool true) ∧ Below w.heap.size w w' := by
  obtain ⟨i1, hi1, hy0, hy1, hy2⟩ := info_parts info_int64D
  obtain ⟨Av, Cv, rfl⟩ := hs.form
  by_cases h100 : 100 < l.length
  · have hd : decide ((100 : Int) < (l.length : Int)) = true := decide_eq_true (by omega)
    have HX := Lib.hid h100
    clear h100 hs
    go_enter Try.func13, Try.ntmps13
    go_wp2_with fail
    (with_reducible refine (awake16 _).mono ?_)
    rintro e w1 ⟨rfl, hu⟩
    have HU := Lib.hid hu
    clear hu
    go_wp2_with fail
    go_ret
    exact ⟨rfl, HU.out.below⟩
  · have hd : decide ((100 : Int) < (l.length : Int)) = false := decide_eq_false (by omega)
    have hl : l.length < 1000 := by omega
    have hok := ends_ok l hl hwf
    obtain ⟨n, hn1, hn2, hn3, hn4, hn5⟩ := ends_at l hl hwf
    have hcp := copyLongs _ l.length (KL.all l) w hs (KL.all_one l) (by omega)
    have HCP := Lib.hid hcp
    have HL := Lib.hid hl
    obtain ⟨M, hM⟩ : ∃ M, sqz (l ++ [mnI, mxI]) = M := ⟨_, rfl⟩
    rw [hM] at hok hn1 hn4 hn5
    have HMM := Lib.hid hM
    have HOK := Lib.hid hok
    have HN1 := Lib.hid hn1
    have HNN := Lib.hid (And.intro hn2 hn3)
    have HE := Lib.hid (And.intro hn4 hn5)
    clear h100 hl hok hn1 hn2 hn3 hn4 hn5 hcp hs hM hwf
    go_enter Try.func13, Try.ntmps13
    go_wp2_with fail
    (with_reducible refine HCP.out.mono ?_)
    rintro e w1 ⟨A, C, rfl, hown, hu1⟩
    have hr1 := own_upd hown ((Upd.refl [] w1).alloc (.cells #[.int .i64 mnI, .int .i64 mxI] 2)) (by simp)
    have hse := sees_lit w1 #[.int .i64 mnI, .int .i64 mxI] 2 1 2 rfl (by decide)
    have hsz : w.heap.size ≤ (w1.alloc (.cells #[.int .i64 mnI, .int .i64 mxI] 2)).heap.size := by have := hu1.size; simp; omega
    unfold mnI mxI at hr1 hse hsz
    have HO := Lib.hid hown
    have HU1 := Lib.hid hu1
    have HR1 := Lib.hid hr1
    have HSE := Lib.hid hse
    have HSZ := Lib.hid hsz
    clear hown hu1 hr1 hse hsz
    go_wp2_with (at_builtin; refine wpList_app _ rfl _ _ 22 rfl w.heap.size 2 i1 (.int .i64 0) 1 8 Try.underlying22 hi1 hy0 hy1 hy2 rfl (by decide) _ l.length (KL.all l) rfl HR1.out _ 2 [.int .i64 (-9223372036854775808), .int .i64 9223372036854775807] rfl HSE.out (by simp [Value.oneCell']) (by have := HL.out; unfold maxLen; omega) (by have := HL.out; omega) HSZ.out ?_)
    intro A2 C2 w2 HP
    have hrow2 := HP.own
    have hu2 : Upd [] w w2 := (HU1.out.alloc _).trans' HP.upd (fun x hx => .inr (own_ge HO.out x hx))
    have hsee2 : See KL w2 (.slice A2 (l.length + 2) C2) (l ++ [mnI, mxI]) := by
      have := sees_of_own hrow2
      unfold See
      rw [KL_all, List.map_append, ← KL_all]
      have e : (l ++ [mnI, mxI]).length = l.length + 2 := by simp
      rw [e]
      exact this
    have hsq := squeezeC _ _ w2 hsee2 (by simp; have := HL.out; omega)
    unfold SqzPost at hsq
    rw [HMM.out] at hsq
    have HSQ := Lib.hid hsq
    have HU2 := Lib.hid hu2
    clear HP hrow2 hu2 hsee2 hsq
    go_wp2_with fail
    (with_reducible refine HSQ.out.mono ?_)
    rintro e w3 ⟨A3, C3, rfl, hrow, hu3⟩
    have hm0 : 0 < M.length := by rw [HN1.out]; omega
    have hca := coveredC _ _ M [] w3 (See.of_row hrow) HOK.out hm0 (see_nilP w3) (by decide) (by simp)
    have HCA := Lib.hid hca
    have HROW := Lib.hid hrow
    have HU3 := Lib.hid (HU2.out.trans hu3)
    clear hca hrow hu3 hm0
    go_wp2_with fail
    (with_reducible refine HCA.out.mono ?_)
    rintro e w4 ⟨ba, FA, NA, rfl, hcA, hNA, hu4, hFA⟩
    have hm0 : 0 < M.length := by rw [HN1.out]; omega
    have hcb := coveredC _ _ M [] w4 ((See.of_row HROW.out).upd0 hu4) HOK.out hm0 (see_nilP w4) (by decide) (by simp)
    have HCB := Lib.hid hcb
    have HA4 := Lib.hid (And.intro hcA (And.intro hNA hFA))
    have HU4 := Lib.hid hu4
    clear hcb hcA hNA hu4 hFA hm0
    go_wp2_with fail
    (with_reducible refine HCB.out.mono ?_)
    rintro e w5 ⟨bb, FB, NB, rfl, hcB, hNB, hu5, hFB⟩
    have hcA5 := HA4.out.1.upd0 hu5
    have hAB : ∀ y ∈ FB, y ∉ FA := fun y hy hc => by have := hFB y hy; have := HA4.out.1.lt y hc; omega
    have hpa := pair_add HOK.out.rise [] (s := (0, n)) ⟨Nat.zero_le _, by rw [HN1.out]; exact Nat.lt_succ_self _⟩
    dsimp only at hpa
    rw [HE.out.1, HE.out.2] at hpa
    have had := addC ba FA M [] NA w5 mnI mxI hcA5 HOK.out (by have := HA4.out.2.1; omega) (by decide)
    rw [hpa.1, hpa.2.1, hpa.2.2] at had
    obtain ⟨E, hE⟩ : ∃ E, entN (0, n) (M.length - 1) = E := ⟨_, rfl⟩
    rw [hE] at had
    unfold mnI mxI at had
    have HAD := Lib.hid had
    have HB5 := Lib.hid (And.intro hcB (And.intro hNB hFB))
    have HAB := Lib.hid hAB
    have HU5 := Lib.hid (HU4.out.trans hu5)
    clear had hcB hNB hFB hAB hu5 hcA5 hpa hE
    go_wp2_with fail
    (with_reducible refine HAD.out.mono ?_)
    rintro e w6 ⟨rfl, ⟨N6, hN6, hcA⟩, hu6⟩
    have hcB := HB5.out.1.upd hu6 HAB.out
    have HA6 := Lib.hid (And.intro hN6 hcA)
    have HB6 := Lib.hid hcB
    have HFZ := Lib.hid (And.intro HA4.out.2.2 (fun y hy => Nat.le_trans HU4.out.size (HB5.out.2.2 y hy)))
    have HU6 := Lib.hid (HU5.out.trans' hu6 (fun x hx => .inr (HA4.out.2.2 x hx)))
    clear hN6 hcA hcB hu6
    have hM1 : 1 ≤ M.length := by rw [HN1.out]; omega
    have HM1 := Lib.hid hM1
    clear hM1
    go_wp2_with fail
    go_loopg [8] (M.length - 1) (fun m s8 wr => ∃ i j, m + i = M.length ∧ i = j + 1 ∧ s8 = .int .i64 (i : Int) ∧ (∃ N, N ≤ NB + j ∧ IsCov wr bb FB M (allH j) N) ∧ Upd FB w6 wr)
    case atStart => exact ⟨1, 0, by have := HM1.out; omega, rfl, rfl, ⟨NB, Nat.le_refl _, HB6.out⟩, Upd.refl _ _⟩
    case round =>
      obtain ⟨i, j, hk, hij, rfl, ⟨N, hN, hc⟩, hu⟩ := hrel
      have HK := Lib.hid hk
      have HIJ := Lib.hid hij
      have HN := Lib.hid hN
      have HC := Lib.hid hc
      have HU := Lib.hid hu
      have hiM : i ≤ M.length := by omega
      have b0 : (0 : Int) ≤ (i : Int) := Int.natCast_nonneg _
      clear hk hN hc hu
      by_cases hlt : i < M.length
      · have hj0 : j < M.length := by omega
        have hseeR : See KL wr (.slice A3 M.length C3) M := sees_upd ((See.of_row HROW.out).upd0 HU6.out) HU.out (fun _ k hk _ hc => by
          have := own_lt HROW.out k hk
          have := HFZ.out.2 k hc
          omega)
        obtain ⟨gm, om, hA, -, -, q1⟩ := KL.at hseeR (mf_get hj0)
        obtain ⟨gm', om', hA', -, -, q2⟩ := KL.at hseeR (mf_get hlt)
        subst hA
        cases hA'
        have hpa := pair_add HOK.out.rise (allH j) (s := (j, i)) ⟨by dsimp only; omega, hlt⟩
        dsimp only at hpa
        have had := addC bb FB M (allH j) N wr.drew (mf M j) (mf M i) (HC.out.upd0 (Upd.refl _ _).drew) HOK.out (by have := HN.out; have := HB5.out.2.1; have := HN1.out; have := HNN.out; omega) (by rw [allH_len]; have := HN1.out; have := HNN.out; omega)
        rw [hpa.1, hpa.2.1, hpa.2.2] at had
        obtain ⟨E, hE⟩ : ∃ E, entN (j, i) (M.length - 1) = E := ⟨_, rfl⟩
        have hcons : (j, i) :: allH j = allH (j + 1) := by rw [HIJ.out]; rfl
        rw [hE, hcons] at had
        obtain ⟨lo, hlo⟩ : ∃ lo, mf M j = lo := ⟨_, rfl⟩
        obtain ⟨hi, hhi⟩ : ∃ hi, mf M i = hi := ⟨_, rfl⟩
        rw [hlo] at q1 had
        rw [hhi] at q2 had
        have hMs : M.length < 2000 := by have := HN1.out; have := HNN.out; omega
        have hsub1 : wrap64 ((i : Int) - 1) = (j : Int) := by rw [IntWalk.wrap64_in _ ⟨by omega, by omega⟩]; have := HIJ.out; omega
        have hsub2 : IntKind.i64.wrap ((i : Int) - 1) = (j : Int) := by rw [IntWalk.i64_in _ ⟨by omega, by omega⟩]; have := HIJ.out; omega
        have b1 : (i : Int) < (M.length : Int) := by omega
        have j0 : (0 : Int) ≤ (j : Int) := Int.natCast_nonneg _
        have j1 : (j : Int) < (M.length : Int) := by omega
        have HAD := Lib.hid had
        have HLT := Lib.hid hlt
        clear had hpa hE hcons hlo hhi hMs hlt hij hiM hj0 hseeR
        go_upto_region 11 with fail
        -- region 11: T waits for all loads; fuel 3
        refine GoT.start [10, 11, 12, 13, 14, 15] (fun w' => w'.cell? ⟨gm, om + j, none⟩ = some (.int .i64 lo) ∧ w'.cell? ⟨gm, om + i, none⟩ = some (.int .i64 hi)) (by kernel_rfl) ?_ fun hS => ?_
        · exact ⟨q1, q2⟩
        refine' GoT.move (i := 0) (oi := ⟨some 42, _, _, _, _, _⟩) (v := _) rfl (by kernel_rfl) (by kernel_rfl) (by kernel_rfl) (fun _ _ _ h => h) (Or.inl ⟨by rfl, ?y11_0⟩) ?r11_0
        case y11_0 => intro w; go_simp <;> with_reducible rfl
        simp only [Act.put, List.setIfInBounds_toArray, List.set_cons_zero, List.set_cons_succ]
        refine' GoT.move (i := 1) (oi := ⟨some 43, _, _, _, _, _⟩) (v := _) rfl (by kernel_rfl) (by kernel_rfl) (by kernel_rfl) (fun _ _ _ h => h) (Or.inl ⟨by rfl, ?y11_1⟩) ?r11_1
        case y11_1 => intro w; go_simp <;> with_reducible rfl
        simp only [Act.put, List.setIfInBounds_toArray, List.set_cons_zero, List.set_cons_succ]
        refine' GoT.move (i := 2) (oi := ⟨some 44, _, _, _, _, _⟩) (v := _) rfl (by kernel_rfl) (by kernel_rfl) (by kernel_rfl) (fun _ _ _ h => h) (Or.inl ⟨by rfl, ?y11_2⟩) ?r11_2
        case y11_2 => intro w; go_simp <;> with_reducible rfl
        simp only [Act.put, List.setIfInBounds_toArray, List.set_cons_zero, List.set_cons_succ]
        refine' GoT.move (i := 3) (oi := ⟨some 45, _, _, _, _, _⟩) (v := _) rfl (by kernel_rfl) (by kernel_rfl) (by kernel_rfl) (fun _ _ _ h => h) (Or.inl ⟨by rfl, ?y11_3⟩) ?r11_3
        case y11_3 => intro w; go_simp <;> with_reducible rfl
        simp only [Act.put, List.setIfInBounds_toArray, List.set_cons_zero, List.set_cons_succ]
        refine' GoT.move (i := 4) (oi := ⟨some 46, _, _, _, _, _⟩) (v := _) rfl (by kernel_rfl) (by kernel_rfl) (by kernel_rfl) (fun _ _ _ h => h) (Or.inl ⟨by rfl, ?y11_4⟩) ?r11_4
        case y11_4 => intro w; go_simp <;> with_reducible rfl
        simp only [Act.put, List.setIfInBounds_toArray, List.set_cons_zero, List.set_cons_succ]
        refine' GoT.take 3 (i := 5) (oi := ⟨some 47, _, _, _, _, _⟩) (v := _) rfl (by kernel_rfl) (by kernel_rfl) (by kernel_rfl) (by kernel_rfl) (fun _ _ _ h => h) (Or.inl ⟨by rfl, ?y11_5⟩) (by assumption) ?r11_5
        case y11_5 => intro w hSw; go_simp <;> with_reducible rfl
        simp only [Act.put, List.setIfInBounds_toArray, List.set_cons_zero, List.set_cons_succ]
        refine' GoT.move (i := 6) (oi := ⟨some 48, _, _, _, _, _⟩) (v := _) rfl (by kernel_rfl) (by kernel_rfl) (by kernel_rfl) (fun _ _ _ h => h) (Or.inl ⟨by rfl, ?y11_6⟩) ?r11_6
        case y11_6 => intro w; go_simp <;> with_reducible rfl
        simp only [Act.put, List.setIfInBounds_toArray, List.set_cons_zero, List.set_cons_succ]
        refine' GoT.move (i := 7) (oi := ⟨some 49, _, _, _, _, _⟩) (v := _) rfl (by kernel_rfl) (by kernel_rfl) (by kernel_rfl) (fun _ _ _ h => h) (Or.inl ⟨by rfl, ?y11_7⟩) ?r11_7
        case y11_7 => intro w; go_simp <;> with_reducible rfl
        simp only [Act.put, List.setIfInBounds_toArray, List.set_cons_zero, List.set_cons_succ]
        refine' GoT.move (i := 8) (oi := ⟨some 50, _, _, _, _, _⟩) (v := _) rfl (by kernel_rfl) (by kernel_rfl) (by kernel_rfl) (fun _ _ _ h => h) (Or.inl ⟨by rfl, ?y11_8⟩) ?r11_8
        case y11_8 => intro w; go_simp <;> with_reducible rfl
        simp only [Act.put, List.setIfInBounds_toArray, List.set_cons_zero, List.set_cons_succ]
        refine' GoT.take 3 (i := 9) (oi := ⟨some 51, _, _, _, _, _⟩) (v := _) rfl (by kernel_rfl) (by kernel_rfl) (by kernel_rfl) (by kernel_rfl) (fun _ _ _ h => h) (Or.inl ⟨by rfl, ?y11_9⟩) (by assumption) ?r11_9
        case y11_9 => intro w hSw; go_simp <;> with_reducible rfl
        simp only [Act.put, List.setIfInBounds_toArray, List.set_cons_zero, List.set_cons_succ]
        -- 10: Go.Op.call { callee := Go.Callee.value (Go.Operand.func 21), args := #[Go.Operand.tmp 42, Go.Operand.tmp 47, Go.Operand.tmp 51], argTypes := #[26, 2, 
        refine GoT.one (i := 10) (o := ⟨some 52, _, _, _, _, _⟩) rfl (by kernel_rfl) fun K hK => ?_
        go_simp
        go_at_call 21
        (with_reducible refine HAD.out.mono ?_)
        rintro e w4 ⟨rfl, ⟨N', hN', hc'⟩, hu4⟩
        have HC4 := Lib.hid (And.intro hN' (And.intro hc' hu4))
        clear hN' hc' hu4
        refine hK.out _ _ (fun h => (by cases h)) ?_
        clear hK K
        try simp only [Act.put, List.setIfInBounds_toArray, List.set_cons_zero, List.set_cons_succ]
        refine' GoT.move (i := 11) (oi := ⟨some 41, _, _, _, _, _⟩) (v := _) rfl (by kernel_rfl) (by kernel_rfl) (by kernel_rfl) (fun _ _ _ h => h) (Or.inl ⟨by rfl, ?y11_11⟩) ?r11_11
        case y11_11 => intro w; go_simp <;> with_reducible rfl
        simp only [Act.put, List.setIfInBounds_toArray, List.set_cons_zero, List.set_cons_succ]
        refine' GoT.move (i := 12) (oi := ⟨some 53, _, _, _, _, _⟩) (v := _) rfl (by kernel_rfl) (by kernel_rfl) (by kernel_rfl) (fun _ _ _ h => h) (Or.inl ⟨by rfl, ?y11_12⟩) ?r11_12
        case y11_12 => intro w; go_simp <;> with_reducible rfl
        simp only [Act.put, List.setIfInBounds_toArray, List.set_cons_zero, List.set_cons_succ]
        refine' GoT.move (i := 13) (oi := ⟨some 54, _, _, _, _, _⟩) (v := _) rfl (by kernel_rfl) (by kernel_rfl) (by kernel_rfl) (fun _ _ _ h => h) (Or.inl ⟨by rfl, ?y11_13⟩) ?r11_13
        case y11_13 => intro w; go_simp <;> with_reducible rfl
        simp only [Act.put, List.setIfInBounds_toArray, List.set_cons_zero, List.set_cons_succ]
        refine' GoT.move (i := 14) (oi := ⟨some 9, _, _, _, _, _⟩) (v := _) rfl (by kernel_rfl) (by kernel_rfl) (by kernel_rfl) (fun _ _ _ h => h) (Or.inl ⟨by rfl, ?y11_14⟩) ?r11_14
        case y11_14 => intro w; go_simp <;> with_reducible rfl
        simp only [Act.put, List.setIfInBounds_toArray, List.set_cons_zero, List.set_cons_succ]
        refine' GoT.move (i := 15) (oi := ⟨some 10, _, _, _, _, _⟩) (v := _) rfl (by kernel_rfl) (by kernel_rfl) (by kernel_rfl) (fun _ _ _ h => h) (Or.inl ⟨by rfl, ?y11_15⟩) ?r11_15
        case y11_15 => intro w; go_simp <;> with_reducible rfl
        simp only [Act.put, List.setIfInBounds_toArray, List.set_cons_zero, List.set_cons_succ]
        refine GoT.done (by kernel_rfl) ?_
        go_wp2_with fail
        go_roundg (gk - 1)
        case measure => have := HK.out; have := HLT.out; omega
        case rel =>
          refine ⟨i + 1, j + 1, by have := HK.out; have := HLT.out; omega, by have := HIJ.out; omega, by have := HN1.out; have := HNN.out; rw [IntWalk.wrap64_in _ ⟨by omega, by omega⟩]; rfl, ⟨N', by have := HC4.out.1; have := HN.out; omega, HC4.out.2.1⟩, ((HU.out.drew).trans HC4.out.2.2)⟩
      · have hje : M.length - 1 = n := by have := HN1.out; omega
        have hjn : j = M.length - 1 := by have := HIJ.out; omega
        subst hjn
        have hcA := HA6.out.2.upd HU.out (fun y hy hc => HAB.out y hc hy)
        have hlo := long_one (M := M) (s := (0, n)) ⟨Nat.zero_le _, by rw [HN1.out]; exact Nat.lt_succ_self _⟩
        dsimp only at hlo
        rw [HE.out.1, HE.out.2] at hlo
        rw [← hje] at hlo hcA
        have hru := one_runs (M := M) (by have := HNN.out; omega)
        have ok1 : HOkC M [(0, M.length - 1)] := by intro u hu; simp at hu; rw [hu]; exact ⟨Nat.zero_le _, by have := HM1.out; omega⟩
        have ok2 : HOkC M (allH (M.length - 1)) := allH_ok _ (by have := HM1.out; omega)
        have hal := alikeC ba bb FA FB M _ _ _ _ wr hcA HC.out (by have := HN1.out; have := HNN.out; omega) ok1 ok2 (by rw [one_gapsH, all_gaps])
        have HAL := Lib.hid hal
        have HCA := Lib.hid hcA
        have HLO := Lib.hid (show (wholeP M [(0, M.length - 1)]).long = 18446744073709551615 by rw [hlo]; rfl)
        have HRU := Lib.hid hru
        have HU7 := Lib.hid (HU6.out.trans' HU.out (fun x hx => .inr (HFZ.out.2 x hx)))
        clear hal hcA hlo hru ok1 ok2 hje hiM hij
        go_wp2_with fail
        (with_reducible refine HAL.out.mono ?_)
        rintro e w7 ⟨rfl, hu7⟩
        have hlg := longC ba FA M _ _ w7 (HCA.out.upd0 hu7)
        rw [HLO.out] at hlg
        have HLG := Lib.hid hlg
        have HU8 := Lib.hid hu7
        clear hlg hu7
        go_wp2_with fail
        (with_reducible refine HLG.out.mono ?_)
        rintro e w8 ⟨rfl, hu8⟩
        have hrg := runsC ba FA M _ _ w8 (HCA.out.upd0 (HU8.out.trans hu8))
        rw [HRU.out] at hrg
        have HRG := Lib.hid hrg
        have HU9 := Lib.hid (HU8.out.trans hu8)
        clear hrg hu8
        go_wp2_with fail
        (with_reducible refine HRG.out.mono ?_)
        rintro e w9 ⟨rfl, hu9⟩
        have HU10 := Lib.hid (HU9.out.trans hu9)
        clear hu9
        go_wp2_with fail
        (with_reducible refine (awake16 _).mono ?_)
        rintro e w10 ⟨rfl, hu10⟩
        have HU11 := Lib.hid (HU10.out.trans hu10)
        clear hu10
        go_wp2_with fail
        go_ret
        exact ⟨rfl, (HU3.out.trans (HU7.out.trans HU11.out)).below⟩
end Go.Proofs.Ythkiljfjjnckaaa
