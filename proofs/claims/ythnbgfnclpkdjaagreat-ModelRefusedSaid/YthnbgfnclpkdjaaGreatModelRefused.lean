/- gridironlaw26.ModelRefused: the walk. Printed by mkmref.py. -/
import Derived.Test.YthnbgfnclpkdjaaGreatOpnM
import Derived.Test.YthnbgfnclpkdjaaGreatAliM
import Derived.Test.YthnbgfnclpkdjaaGreatAwkM
namespace Go.Proofs.YthnbgfnclpkdjaaGreat
open Go.RowKit

theorem err_repAt (w : World) (e : Nat) : RepAt w (.agg #[.int .i64 (e : Int), .slice none 0 0, .int .i64 0, .bool false, .int .u64 0, .int .u64 0]) (err e) := repAt_err w e

set_option maxRecDepth 100000 in
set_option maxHeartbeats 8000000 in
theorem modelRefused_walk {A R : List Bx → Nat} (ar : AR A R) (room : Nat) (hroom : room < 256) (v : Value) (L : List OpP) (o : OpP) (w : World) (hs : See KOp w v L) (hl : L.length < 9223372036854775808) (hin : ∀ o ∈ L, o.in64) (ho : o.in64) :
    Calls Tryz.prog 7 #[.int .u8 (room : Int), v, opV o] w fun e w' => e = .returned (.bool true) ∧ Upd [] w w' := by
  obtain ⟨A', C', rfl⟩ := hs.form
  obtain ⟨n, hn⟩ : ∃ n, L.length = n := ⟨_, rfl⟩
  have haf := fun (w9 : World) (hu : Upd [] w w9) => afterC ar room hroom (.slice A' L.length C') L w9 (hs.upd0 hu) hl hin
  rw [hn] at haf ⊢
  obtain ⟨M, hM⟩ : ∃ M, runM A R ⟨1 + room, [], [], []⟩ (L.take 60) = M := ⟨_, rfl⟩
  simp only [hM] at haf
  have HAF := Lib.hid haf
  have HO := Lib.hid ho
  clear hs hl hin hroom haf hn hM ho
  obtain ⟨⟨M2, z⟩, hz⟩ : ∃ r, doM A R M o = r := ⟨_, rfl⟩
  have HZ := Lib.hid hz
  clear hz
  obtain ⟨oc, oa, ob, occ, od, oi⟩ := o
  unfold opV
  dsimp only
  have HU0 := Lib.hid (show Upd [] w (w.alloc (.cells #[.int .u8 (oc : Int), .int .i64 oa, .int .i64 ob, .int .i64 occ, .int .i64 od, .int .u32 (oi : Int)] 25)) from (Upd.refl _ _).alloc _)
  have HC0 := Lib.hid (op_new w #[.int .u8 (oc : Int), .int .i64 oa, .int .i64 ob, .int .i64 occ, .int .i64 od, .int .u32 (oi : Int)])
  go_enter Tryz.func7, Tryz.ntmps7
  go_upto_region 1 with fail
  generalize (w.alloc (.cells #[.int .u8 (oc : Int), .int .i64 oa, .int .i64 ob, .int .i64 occ, .int .i64 od, .int .u32 (oi : Int)] 25)) = W0 at HU0 HC0 ⊢
  obtain ⟨qo, hqo⟩ : ∃ q, w.heap.size = q := ⟨_, rfl⟩
  rw [hqo] at HC0 ⊢
  have HQ := Lib.hid hqo
  clear hqo
  go_wp2_with fail
  (with_reducible refine (HAF.out _ HU0.out).mono ?_)
  rintro e w1 ⟨h, p, s, x, rfl, hm1, hu1, g1, g2, g3, g4⟩
  have HM1 := Lib.hid (And.intro hm1 (And.intro hu1 (And.intro (HU0.out.trans hu1) (HC0.out.upd0 hu1))))
  have HG1 := Lib.hid (And.intro g1 (And.intro g2 (And.intro g3 g4)))
  clear hm1 hu1 g1 g2 g3 g4
  go_wp2_with fail
  (with_reducible refine (HAF.out _ HM1.out.2.2.1).mono ?_)
  rintro e w2 ⟨h', p', s', x', rfl, hm2, hu2, g1, g2, g3, g4⟩
  have HM2 := Lib.hid (And.intro (HM1.out.1.upd0 hu2) (And.intro hm2 (And.intro (HM1.out.2.2.1.trans hu2) (HM1.out.2.2.2.upd0 hu2))))
  have hq1 : qo < W0.heap.size := (HC0.out).lt rfl
  have HB := Lib.hid (show qo ∉ [p, s, x] ∧ h' ∉ [p, s, x] ∧ p' ∉ [p, s, x] ∧ s' ∉ [p, s, x] ∧ x' ∉ [p, s, x] by
    have := HG1.out
    have h1 := HM1.out.1.at'.ps.lt
    have h2 := HM1.out.1.at'.ss.lt
    have h3 := HM1.out.1.at'.bs.lt
    simp only [List.mem_cons, List.not_mem_nil, or_false]
    omega)
  have HF := Lib.hid (show w.heap.size ≤ p ∧ w.heap.size ≤ s ∧ w.heap.size ≤ x by have := HG1.out; have := HU0.out.size; omega)
  clear hu2 hm2 g1 g2 g3 g4 hq1
  have hdo := doMM ar HM2.out.1 (by decide) ⟨oc, oa, ob, occ, od, oi⟩ HO.out
  rw [HZ.out] at hdo
  unfold opV at hdo
  dsimp only at hdo
  have HDO := Lib.hid hdo
  clear hdo
  have o0 := HM2.out.2.2.2 0 _ rfl
  have o1 := HM2.out.2.2.2 1 _ rfl
  have o2 := HM2.out.2.2.2 2 _ rfl
  have o3 := HM2.out.2.2.2 3 _ rfl
  have o4 := HM2.out.2.2.2 4 _ rfl
  have o5 := HM2.out.2.2.2 5 _ rfl
  go_wp2_with fail
  (with_reducible refine HDO.out.mono ?_)
  rintro e w3 ⟨⟨u, rfl, hre⟩, hmm, hup⟩
  have HR3 := Lib.hid (And.intro hre (And.intro hmm hup))
  clear hre hmm hup o0 o1 o2 o3 o4 o5 HDO
  obtain ⟨Az, Cz, hz, lz, hve, -⟩ := HR3.out.1
  unfold repV at hve
  subst hve
  have HMb := Lib.hid (HM2.out.2.1.upd HR3.out.2.2 HB.out.2.1 HB.out.2.2.1 HB.out.2.2.2.1 HB.out.2.2.2.2)
  have HCo := Lib.hid (HM2.out.2.2.2.upd HR3.out.2.2 HB.out.1)
  have HUw := Lib.hid (HM2.out.2.2.1.trans' HR3.out.2.2 (fun y hy => .inr (by have := HF.out; simp only [List.mem_cons, List.not_mem_nil, or_false] at hy; omega)))
  go_upto_region 5 with fail
  have ha : Upd [] w3 (w3.alloc (.cells #[.int .i64 (z.err : Int), .slice Az z.ids.length Cz, .int .i64 (z.cnt : Int), .bool z.yes, .int .u64 (hz : Int), .int .u64 (lz : Int)] 34)) := (Upd.refl _ _).alloc _
  have HRP := Lib.hid (show RpAt (w3.alloc (.cells #[.int .i64 (z.err : Int), .slice Az z.ids.length Cz, .int .i64 (z.cnt : Int), .bool z.yes, .int .u64 (hz : Int), .int .u64 (lz : Int)] 34)) w3.heap.size #[.int .i64 (z.err : Int), .slice Az z.ids.length Cz, .int .i64 (z.cnt : Int), .bool z.yes, .int .u64 (hz : Int), .int .u64 (lz : Int)] from heap_alloc_new w3 _)
  have HMa := Lib.hid (HR3.out.2.1.upd0 ha)
  have HMb4 := Lib.hid (HMb.out.upd0 ha)
  have HCo4 := Lib.hid (HCo.out.upd0 ha)
  have HU4 := Lib.hid (HUw.out.trans ha)
  have HRz := Lib.hid (HR3.out.1.upd0 ha)
  have HSH := Lib.hid (do_short (A := A) (R := R) (o := ⟨oc, oa, ob, occ, od, oi⟩) HM2.out.1.small)
  clear ha HMb HCo HUw HR3 HM1 HM2 HAF HC0
  generalize (w3.alloc (.cells #[.int .i64 (z.err : Int), .slice Az z.ids.length Cz, .int .i64 (z.cnt : Int), .bool z.yes, .int .u64 (hz : Int), .int .u64 (lz : Int)] 34)) = W4 at HRP HMa HMb4 HCo4 HU4 HRz ⊢
  generalize w3.heap.size = q at HRP ⊢
  have hshort : z.ids.length < 1000000 := by
    have := HSH.out
    rw [HZ.out] at this
    dsimp only at this
    omega
  have HSHZ := Lib.hid hshort
  clear hshort HSH
  go_cut [36] (fun s36 wc => s36 = .bool false ∧ Upd [] W4 wc)
  case first =>
    have r0 := HRP.out.cell 0
    have r1 := HRP.out.cell 1
    have r2 := HRP.out.cell 2
    have r3 := HRP.out.cell 3
    have r4 := HRP.out.cell 4
    have r5 := HRP.out.cell 5
    simp only [List.getElem?_toArray, List.getElem?_cons_zero, List.getElem?_cons_succ] at r0 r1 r2 r3 r4 r5
    by_cases he : z.err = 0
    · have d : ((z.err : Int) != 0) = false := by rw [he]; rfl
      clear he
      go_wp2_with fail
      go_meet
      case rel => exact ⟨rfl, Upd.refl _ _⟩
    · have d : ((z.err : Int) != 0) = true := bne_iff_ne.2 (by omega)
      have hz1 := (do_err (A := A) (R := R) (m := M) (o := ⟨oc, oa, ob, occ, od, oi⟩) (by rw [HZ.out]; exact he)).2
      rw [HZ.out] at hz1
      dsimp only at hz1
      have HE := Lib.hid hz1
      clear he hz1
      go_wp2_with fail
      (with_reducible refine (sameC _ _ z (err z.err) W4 HRz.out (err_repAt _ _) HSHZ.out (by simp [err])).mono ?_)
      rintro e w5 ⟨b, rfl, hb, hu5⟩
      have e5 : b = true := hb.2 HE.out
      subst e5
      have HU5 := Lib.hid hu5
      clear hb hu5 r0 r1 r2 r3 r4 r5
      go_wp2_with fail
      go_meet
      case rel => exact ⟨rfl, HU5.out⟩
  obtain ⟨rfl, hu5⟩ := hcut
  have HRP5 := Lib.hid (HRP.out.upd hu5 (by simp))
  have HMa5 := Lib.hid (HMa.out.upd0 hu5)
  have HMb5 := Lib.hid (HMb4.out.upd0 hu5)
  have HCo5 := Lib.hid (HCo4.out.upd0 hu5)
  have HU5 := Lib.hid (HU4.out.trans hu5)
  have HRz5 := Lib.hid (HRz.out.upd0 hu5)
  clear hu5 HRP HMa HMb4 HCo4 HU4 HRz
  go_upto_region 7 with fail
  obtain ⟨ch, hch⟩ : ∃ ch : Bool, decide (1 ≤ oc ∧ oc ≤ 6 ∧ z.err = 0) = ch := ⟨_, rfl⟩
  go_cut [10] (fun s10 wd => s10 = .bool ch ∧ wc = wd)
  case first =>
    have r0 := HRP5.out.cell 0
    have o0 := HCo5.out 0 _ rfl
    simp only [List.getElem?_toArray, List.getElem?_cons_zero] at r0
    obtain ⟨c, hc⟩ : ∃ c : Int, (oc : Int) = c := ⟨_, rfl⟩
    obtain ⟨ez, hez⟩ : ∃ c : Int, (z.err : Int) = c := ⟨_, rfl⟩
    rw [hc] at o0
    rw [hez] at r0
    have HCH := Lib.hid (And.intro hch (And.intro hc hez))
    clear hch hc hez
    by_cases h1 : 1 ≤ c
    · have d1 : decide (1 ≤ c) = true := decide_eq_true h1
      by_cases h6 : c ≤ 6
      · have d6 : decide (c ≤ 6) = true := decide_eq_true h6
        by_cases h0 : ez = 0
        · have d0 : (ez == 0) = true := by simpa using h0
          have hh : ch = true := by rw [← HCH.out.1]; have := HCH.out.2; exact decide_eq_true ⟨by omega, by omega, by omega⟩
          clear h1 h6 h0
          subst hh
          go_wp2_with fail
          go_meet
          case rel => exact ⟨rfl, rfl⟩
        · have d0 : (ez == 0) = false := by simpa using h0
          have hh : ch = false := by rw [← HCH.out.1]; have := HCH.out.2; exact decide_eq_false (by omega)
          clear h1 h6 h0
          subst hh
          go_wp2_with fail
          go_meet
          case rel => exact ⟨rfl, rfl⟩
      · have d6 : decide (c ≤ 6) = false := decide_eq_false h6
        have hh : ch = false := by rw [← HCH.out.1]; have := HCH.out.2; exact decide_eq_false (by omega)
        clear h1 h6
        subst hh
        go_wp2_with fail
        go_meet
        case rel => exact ⟨rfl, rfl⟩
    · have d1 : decide (1 ≤ c) = false := decide_eq_false h1
      have hh : ch = false := by rw [← HCH.out.1]; have := HCH.out.2; exact decide_eq_false (by omega)
      clear h1
      subst hh
      go_wp2_with fail
      go_meet
      case rel => exact ⟨rfl, rfl⟩
  obtain ⟨rfl, rfl⟩ := hcut
  have hok : M.ok := HMb5.out.at'.ok
  cases ch with
  | true =>
    have hno : ¬ (M2.ps = M.ps ∧ M2.ss = M.ss ∧ M2.bs = M.bs) := by
      have h1 := of_decide_eq_true hch
      have := do_changes (A := A) (R := R) hok (o := ⟨oc, oa, ob, occ, od, oi⟩) ⟨h1.1, h1.2.1⟩ (by rw [HZ.out]; exact h1.2.2)
      rw [HZ.out] at this
      exact this
    have HNO := Lib.hid hno
    clear hch hno hok
    go_wp2_with fail
    (with_reducible refine (alikeC HMa5.out HMb5.out (by decide) (by decide)).mono ?_)
    rintro e w6 ⟨b, rfl, hb, hu6⟩
    have e6 : b = false := by
      cases b with
      | false => rfl
      | true => exact absurd (hb.1 rfl) HNO.out
    subst e6
    have HU6 := Lib.hid hu6
    clear hb hu6
    go_wp2_with fail
    (with_reducible refine (awake26 ar w6).mono ?_)
    rintro e w7 ⟨rfl, hu7⟩
    have HU7 := Lib.hid hu7
    clear hu7
    go_wp2_with fail
    go_ret
    exact ⟨rfl, (HU5.out.trans HU6.out).trans HU7.out⟩
  | false =>
    have hsame : M2 = M := by
      by_cases he : z.err = 0
      · by_cases h7 : oc < 1
        · have := do_wrong (A := A) (R := R) (m := M) (o := ⟨oc, oa, ob, occ, od, oi⟩) h7
          rw [HZ.out] at this
          dsimp only at this
          omega
        · have h8 := of_decide_eq_false hch
          have := do_same (A := A) (R := R) (m := M) (o := ⟨oc, oa, ob, occ, od, oi⟩) (show 7 ≤ oc by omega)
          rw [HZ.out] at this
          exact this
      · have := (do_err (A := A) (R := R) (m := M) (o := ⟨oc, oa, ob, occ, od, oi⟩) (by rw [HZ.out]; exact he)).1
        rw [HZ.out] at this
        exact this
    subst hsame
    have hsim := fun (w9 : World) (hu : Upd [] wc w9) => doMM ar (HMa5.out.upd0 hu) (by decide) ⟨oc, oa, ob, occ, od, oi⟩ HO.out
    rw [HZ.out] at hsim
    unfold opV at hsim
    dsimp only at hsim
    have HSIM := Lib.hid hsim
    have HNN := Lib.hid (show q ∉ [p, s, x] ∧ qo ∉ [p, s, x] from ⟨by
      have h1 := HRP5.out
      have := fun (b n : Nat) (f : Nat → Option Pt) (g : MapU MKP wc b f n) => g.not_cells h1
      have g1 := HMa5.out.at'.ps.not_cells h1
      have g2 := HMa5.out.at'.ss.not_cells h1
      have g3 := HMa5.out.at'.bs.not_cells h1
      simp only [List.mem_cons, List.not_mem_nil, or_false]
      omega, HB.out.1⟩)
    clear hch hsim hok
    go_upto_region 10 with fail
    -- region 10: T waits for all loads; fuel 1
    refine GoT.start [] (fun w' => RpAt w' q #[.int .i64 (z.err : Int), .slice Az z.ids.length Cz, .int .i64 (z.cnt : Int), .bool z.yes, .int .u64 (hz : Int), .int .u64 (lz : Int)] ∧ CelB w' qo [.int .u8 (oc : Int), .int .i64 oa, .int .i64 ob, .int .i64 occ, .int .i64 od, .int .u32 (oi : Int)]) (by kernel_rfl) ?_ fun hS => ?_
    · exact ⟨HRP5.out.upd (Upd.refl [] _).drew (by simp), HCo5.out.upd0 (Upd.refl [] _).drew⟩
    refine' GoT.move (i := 0) (oi := ⟨some 58, _, _, _, _, _⟩) (v := _) rfl (by kernel_rfl) (by kernel_rfl) (by kernel_rfl) (fun _ _ _ h => h) (Or.inl ⟨by rfl, ?y10_0⟩) ?r10_0
    case y10_0 => intro w; go_simp <;> with_reducible rfl
    simp only [Act.put, List.setIfInBounds_toArray, List.set_cons_zero, List.set_cons_succ]
    refine' GoT.move (i := 1) (oi := ⟨some 59, _, _, _, _, _⟩) (v := _) rfl (by kernel_rfl) (by kernel_rfl) (by kernel_rfl) (fun _ _ _ h => h) (Or.inl ⟨by rfl, ?y10_1⟩) ?r10_1
    case y10_1 => intro w; go_simp <;> with_reducible rfl
    simp only [Act.put, List.setIfInBounds_toArray, List.set_cons_zero, List.set_cons_succ]
    -- 2: Go.Op.call { callee := Go.Callee.value (Go.Operand.func 29), args := #[Go.Operand.tmp 58, Go.Operand.tmp 59], argTypes := #[26, 26] }
    refine GoT.one (i := 2) (o := ⟨some 60, _, _, _, _, _⟩) rfl (by kernel_rfl) fun K hK => ?_
    go_simp
    (with_reducible refine (alikeC (HMa5.out.upd0 (Upd.refl [] _).drew) (HMb5.out.upd0 (Upd.refl [] _).drew) (by decide) (by decide)).mono ?_)
    rintro e w6 ⟨b, rfl, hb, hu6⟩
    have e6 : b = true := hb.2 ⟨rfl, rfl, rfl⟩
    subst e6
    clear hb
    refine hK.out _ _ (fun _ h => ?_) ?_
    · exact ⟨h.1.upd hu6 (by simp), h.2.upd0 hu6⟩
    clear hK K
    have HU6 := Lib.hid (show Upd [] wc w6 from ((Upd.refl [] wc).drew).trans hu6)
    have HRz6 := Lib.hid HRz5.out
    have hS6 := And.intro (HRP5.out.upd HU6.out (by simp)) (HCo5.out.upd0 HU6.out)
    clear hu6 hS
    try simp only [Act.put, List.setIfInBounds_toArray, List.set_cons_zero, List.set_cons_succ]
    refine' GoT.move (i := 3) (oi := ⟨some 61, _, _, _, _, _⟩) (v := _) rfl (by kernel_rfl) (by kernel_rfl) (by kernel_rfl) (fun _ _ _ h => h) (Or.inl ⟨by rfl, ?y10_3⟩) ?r10_3
    case y10_3 => intro w; go_simp <;> with_reducible rfl
    simp only [Act.put, List.setIfInBounds_toArray, List.set_cons_zero, List.set_cons_succ]
    refine' GoT.move (i := 4) (oi := ⟨some 62, _, _, _, _, _⟩) (v := _) rfl (by kernel_rfl) (by kernel_rfl) (by kernel_rfl) (fun _ _ _ h => h) (Or.inl ⟨by rfl, ?y10_4⟩) ?r10_4
    case y10_4 => intro w; go_simp <;> with_reducible rfl
    simp only [Act.put, List.setIfInBounds_toArray, List.set_cons_zero, List.set_cons_succ]
    refine' GoT.take 1 (i := 5) (oi := ⟨some 63, _, _, _, _, _⟩) (v := _) rfl (by kernel_rfl) (by kernel_rfl) (by kernel_rfl) (by kernel_rfl) (fun _ _ _ h => h) (Or.inl ⟨by rfl, ?y10_5⟩) (by assumption) ?r10_5
    case y10_5 => intro w hSw; have o0 := hSw.2 0 _ rfl; have o1 := hSw.2 1 _ rfl; have o2 := hSw.2 2 _ rfl; have o3 := hSw.2 3 _ rfl; have o4 := hSw.2 4 _ rfl; have o5 := hSw.2 5 _ rfl; have r0 := hSw.1.cell 0; have r1 := hSw.1.cell 1; have r2 := hSw.1.cell 2; have r3 := hSw.1.cell 3; have r4 := hSw.1.cell 4; have r5 := hSw.1.cell 5; simp only [List.getElem?_toArray, List.getElem?_cons_zero, List.getElem?_cons_succ] at r0 r1 r2 r3 r4 r5; clear hSw; go_simp <;> with_reducible rfl
    simp only [Act.put, List.setIfInBounds_toArray, List.set_cons_zero, List.set_cons_succ]
    refine' GoT.take 1 (i := 7) (oi := ⟨some 65, _, _, _, _, _⟩) (v := _) rfl (by kernel_rfl) (by kernel_rfl) (by kernel_rfl) (by kernel_rfl) (fun _ _ _ h => h) (Or.inl ⟨by rfl, ?y10_7⟩) (by assumption) ?r10_7
    case y10_7 => intro w hSw; have o0 := hSw.2 0 _ rfl; have o1 := hSw.2 1 _ rfl; have o2 := hSw.2 2 _ rfl; have o3 := hSw.2 3 _ rfl; have o4 := hSw.2 4 _ rfl; have o5 := hSw.2 5 _ rfl; have r0 := hSw.1.cell 0; have r1 := hSw.1.cell 1; have r2 := hSw.1.cell 2; have r3 := hSw.1.cell 3; have r4 := hSw.1.cell 4; have r5 := hSw.1.cell 5; simp only [List.getElem?_toArray, List.getElem?_cons_zero, List.getElem?_cons_succ] at r0 r1 r2 r3 r4 r5; clear hSw; go_simp <;> with_reducible rfl
    simp only [Act.put, List.setIfInBounds_toArray, List.set_cons_zero, List.set_cons_succ]
    -- 6: Go.Op.call { callee := Go.Callee.value (Go.Operand.func 13), args := #[Go.Operand.tmp 62, Go.Operand.tmp 63], argTypes := #[26, 25] }
    refine GoT.one (i := 6) (o := ⟨some 64, _, _, _, _, _⟩) rfl (by kernel_rfl) fun K hK => ?_
    go_simp
    (with_reducible refine (HSIM.out _ HU6.out).mono ?_)
    rintro e w7 ⟨⟨u, rfl, hre⟩, hmm, hu7⟩
    have HR7 := Lib.hid (And.intro hre hmm)
    obtain ⟨A7, C7, h7, l7, hve, -⟩ := hre
    unfold repV at hve
    subst hve
    clear hmm
    refine hK.out _ _ (fun _ h => ?_) ?_
    · exact ⟨h.1.upd hu7 HNN.out.1, h.2.upd hu7 HNN.out.2⟩
    clear hK K
    have HU7 := Lib.hid (show Upd [p, s, x] wc w7 from (HU6.out.mono (by simp)).trans hu7)
    clear hu7
    try simp only [Act.put, List.setIfInBounds_toArray, List.set_cons_zero, List.set_cons_succ]
    -- 8: Go.Op.call { callee := Go.Callee.value (Go.Operand.func 23), args := #[Go.Operand.tmp 64, Go.Operand.tmp 65], argTypes := #[34, 34] }
    refine GoT.one (i := 8) (o := ⟨some 66, _, _, _, _, _⟩) rfl (by kernel_rfl) fun K hK => ?_
    go_simp
    (with_reducible refine (sameC _ _ z z _ HR7.out.1 (RepAt.updM HRz6.out HMa5.out.at' HU7.out) HSHZ.out HSHZ.out).mono ?_)
    rintro e w8 ⟨b, rfl, hb, hu8⟩
    have e8 : b = true := hb.2 rfl
    subst e8
    clear hb
    refine hK.out _ _ (fun _ h => ?_) ?_
    · exact ⟨h.1.upd hu8 (by simp), h.2.upd0 hu8⟩
    clear hK K
    have HU8a := Lib.hid (HU7.out.trans (hu8.mono (by simp)))
    clear hu8
    try simp only [Act.put, List.setIfInBounds_toArray, List.set_cons_zero, List.set_cons_succ]
    refine' GoT.move (i := 9) (oi := ⟨some 67, _, _, _, _, _⟩) (v := _) rfl (by kernel_rfl) (by kernel_rfl) (by kernel_rfl) (fun _ _ _ h => h) (Or.inl ⟨by rfl, ?y10_9⟩) ?r10_9
    case y10_9 => intro w; go_simp <;> with_reducible rfl
    simp only [Act.put, List.setIfInBounds_toArray, List.set_cons_zero, List.set_cons_succ]
    refine' GoT.move (i := 10) (oi := ⟨some 68, _, _, _, _, _⟩) (v := _) rfl (by kernel_rfl) (by kernel_rfl) (by kernel_rfl) (fun _ _ _ h => h) (Or.inl ⟨by rfl, ?y10_10⟩) ?r10_10
    case y10_10 => intro w; go_simp <;> with_reducible rfl
    simp only [Act.put, List.setIfInBounds_toArray, List.set_cons_zero, List.set_cons_succ]
    -- 11: Go.Op.call { callee := Go.Callee.value (Go.Operand.func 14), args := #[], argTypes := #[] }
    refine GoT.one (i := 11) (o := ⟨some 69, _, _, _, _, _⟩) rfl (by kernel_rfl) fun K hK => ?_
    go_simp
    (with_reducible refine (awake26 ar _).mono ?_)
    rintro e w9 ⟨rfl, hu9⟩
    refine hK.out _ _ (fun _ h => ?_) ?_
    · exact ⟨h.1.upd hu9 (by simp), h.2.upd0 hu9⟩
    clear hK K
    have HU8 := Lib.hid (HU5.out.trans' (HU8a.out.trans (hu9.mono (by simp))) (fun y hy => .inr (by have := HF.out; simp only [List.mem_cons, List.not_mem_nil, or_false] at hy; omega)))
    clear hu9
    try simp only [Act.put, List.setIfInBounds_toArray, List.set_cons_zero, List.set_cons_succ]
    refine' GoT.move (i := 12) (oi := ⟨some 70, _, _, _, _, _⟩) (v := _) rfl (by kernel_rfl) (by kernel_rfl) (by kernel_rfl) (fun _ _ _ h => h) (Or.inl ⟨by rfl, ?y10_12⟩) ?r10_12
    case y10_12 => intro w; go_simp <;> with_reducible rfl
    simp only [Act.put, List.setIfInBounds_toArray, List.set_cons_zero, List.set_cons_succ]
    refine' GoT.move (i := 13) (oi := ⟨some 6, _, _, _, _, _⟩) (v := _) rfl (by kernel_rfl) (by kernel_rfl) (by kernel_rfl) (fun _ _ _ h => h) (Or.inl ⟨by rfl, ?y10_13⟩) ?r10_13
    case y10_13 => intro w; go_simp <;> with_reducible rfl
    simp only [Act.put, List.setIfInBounds_toArray, List.set_cons_zero, List.set_cons_succ]
    refine GoT.done (by kernel_rfl) ?_
    go_wp2_with fail
    go_ret
    exact ⟨rfl, HU8.out⟩
end Go.Proofs.YthnbgfnclpkdjaaGreat
