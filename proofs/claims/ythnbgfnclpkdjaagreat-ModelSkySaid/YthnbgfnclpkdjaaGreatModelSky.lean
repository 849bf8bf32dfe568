/- gridironlaw26.ModelSky: the walk. Printed by mkmsky.py. -/
import Derived.Test.YthnbgfnclpkdjaaGreatOpnM
import Derived.Test.YthnbgfnclpkdjaaGreatWithM
import Derived.Test.YthnbgfnclpkdjaaGreatAwkM
namespace Go.Proofs.YthnbgfnclpkdjaaGreat
open Go.RowKit

/-- Whether one of the first k points lies over p, and is told. -/
def overK (l : List Pt) (p : Pt) (S : List Nat) (k : Nat) : Bool := (l.take k).any fun q => overB q p && decide (q.id ∈ S)
theorem overK_step {l : List Pt} {p q : Pt} {S : List Nat} {k : Nat} (h : l[k]? = some q) : overK l p S (k + 1) = (overK l p S k || (overB q p && decide (q.id ∈ S))) := by
  obtain ⟨h1, h2⟩ := List.getElem?_eq_some_iff.1 h
  unfold overK
  rw [List.take_succ_eq_append_getElem h1, h2, List.any_append]
  simp

theorem do_sky {A R : List Bx → Nat} (m : Md) : (doM A R m ⟨14, 0, 0, 0, 0, 0⟩).2 = idsR (skyM m.ps) := by
  rw [do_point ⟨by decide, by decide⟩]
  rfl
/-- All points, along the whole strip. -/
def stripM (p : Pt) : Bool := inBM ⟨-9223372036854775808, 9223372036854775807, -9223372036854775808, 9223372036854775807, 0⟩ p.x p.y
theorem do_low {A R : List Bx → Nat} (m : Md) : (doM A R m ⟨13, -9223372036854775808, 9223372036854775807, 0, 0, 0⟩).2 = idsR (lowM m.ps stripM) := by
  rw [do_point ⟨by decide, by decide⟩]
  rfl
theorem strip_all {p : Pt} (h : z64 p.x ∧ z64 p.y) : stripM p = true := by
  unfold stripM inBM stabBM
  obtain ⟨⟨h1, h2⟩, h3, h4⟩ := h
  simp [h1, h2, h3, h4]

/-- What Do tells of names, taken apart. -/
theorem repAt_idsR {w : World} {v : Value} {l : List Nat} (h : RepAt w v (idsR l)) : ∃ A C, v = .agg #[.int .i64 0, .slice A l.length C, .int .i64 0, .bool false, .int .u64 0, .int .u64 0] ∧ See KU w (.slice A l.length C) l := by
  obtain ⟨A, C, hi, lo, h1, h2, _, _, h5⟩ := h
  have e : hi = 0 ∧ lo = 0 := by
    have : (0 : Nat) = hi * 18446744073709551616 + lo := h5
    omega
  obtain ⟨rfl, rfl⟩ := e
  exact ⟨A, C, h1, h2⟩

set_option maxRecDepth 100000 in
set_option maxHeartbeats 8000000 in
theorem modelSky_walk {A R : List Bx → Nat} (ar : AR A R) (v : Value) (L : List OpP) (w : World) (hs : See KOp w v L) (hl : L.length < 9223372036854775808) (hin : ∀ o ∈ L, o.in64) :
    Calls Tryz.prog 5 #[v] w fun e w' => e = .returned (.bool true) ∧ Upd [] w w' := by
  obtain ⟨A', C', rfl⟩ := hs.form
  obtain ⟨n, hn⟩ : ∃ n, L.length = n := ⟨_, rfl⟩
  have haf := afterC ar 255 (by decide) (.slice A' L.length C') L w hs hl hin
  rw [hn, show ((255 : Nat) : Int) = 255 from rfl] at haf
  rw [hn]
  obtain ⟨M, hM⟩ : ∃ M, runM A R ⟨1 + 255, [], [], []⟩ (L.take 60) = M := ⟨_, rfl⟩
  rw [hM] at haf
  have HAF := Lib.hid haf
  clear hs hl hin haf hn hM
  go_enter Tryz.func5, Tryz.ntmps5
  go_wp2_with fail
  (with_reducible refine HAF.out.mono ?_)
  rintro e w1 ⟨h, p, s, x, rfl, hm1, hu1, g1, g2, g3, g4⟩
  have HM1 := Lib.hid (And.intro hm1 hu1)
  have HB := Lib.hid (show w.heap.size ≤ p ∧ w.heap.size ≤ s ∧ w.heap.size ≤ x from ⟨g2, g3, g4⟩)
  clear hm1 hu1 g1 g2 g3 g4 HAF
  have hd1 := doAsk ar HM1.out.1 (by decide) ⟨14, 0, 0, 0, 0, 0⟩ ⟨⟨by decide, by decide, by decide, by decide⟩, by decide, by decide⟩ (by decide)
  rw [do_sky] at hd1
  have HD1 := Lib.hid (show Calls Tryz.prog 13 #[.pointer (some ⟨h, 0, none⟩), .agg #[.int .u8 14, .int .i64 0, .int .i64 0, .int .i64 0, .int .i64 0, .int .u32 0]] w1 _ from hd1)
  clear hd1
  go_wp2_with fail
  (with_reducible refine HD1.out.mono ?_)
  rintro e w2 ⟨⟨u, rfl, hre⟩, hmm, hup⟩
  obtain ⟨As, Cs, rfl, hsky⟩ := repAt_idsR hre
  have HR2 := Lib.hid (And.intro hmm (And.intro hup hsky))
  clear hre hmm hup hsky HD1
  have hd1 := doAsk ar HR2.out.1 (by decide) ⟨13, -9223372036854775808, 9223372036854775807, 0, 0, 0⟩ ⟨⟨by decide, by decide, by decide, by decide⟩, by decide, by decide⟩ (by decide)
  rw [do_low] at hd1
  have HD1 := Lib.hid (show Calls Tryz.prog 13 #[.pointer (some ⟨h, 0, none⟩), .agg #[.int .u8 13, .int .i64 (-9223372036854775808), .int .i64 9223372036854775807, .int .i64 0, .int .i64 0, .int .u32 0]] w2 _ from hd1)
  clear hd1
  obtain ⟨ns, hns⟩ : ∃ k, (skyM M.ps).length = k := ⟨_, rfl⟩
  rw [hns] at HR2 ⊢
  have hfd := fun w => rep_field1 0 As ns Cs 0 false 0 0 w
  go_wp2_with fail
  (with_reducible refine HD1.out.mono ?_)
  rintro e w3 ⟨⟨u, rfl, hre⟩, hmm, hup⟩
  obtain ⟨Al, Cl, rfl, hlow⟩ := repAt_idsR hre
  have HR3 := Lib.hid (And.intro hmm (And.intro hup hlow))
  clear hre hmm hup hlow HD1
  obtain ⟨nl, hnl⟩ : ∃ k, (lowM M.ps stripM).length = k := ⟨_, rfl⟩
  rw [hnl] at HR3 ⊢
  clear hfd
  have hfd := fun w => rep_field1 0 Al nl Cl 0 false 0 0 w
  have hlen : M.ps.length < 1000000 := by have := HM1.out.1.small; omega
  have hpt := thePoints HR3.out.1.at' hlen
  have HF := Lib.hid (And.intro HM1.out.1.at'.ok.ps (fun q hq => strip_all (HM1.out.1.in64.ps q hq)))
  obtain ⟨l, hlM⟩ : ∃ l, M.ps = l := ⟨_, rfl⟩
  rw [hlM] at hlen hpt HF
  rw [hlM] at hns hnl
  have hsk : See KU w3 (.slice As ns Cs) (skyM l) := by
    have := (HR2.out.2.2).updM (by decide) HR2.out.1.at' HR3.out.2.1
    rw [hlM] at this
    exact this
  have hlo : See KU w3 (.slice Al nl Cl) (lowM l stripM) := by
    have := HR3.out.2.2
    rw [hlM] at this
    exact this
  obtain ⟨n1, hn1⟩ : ∃ n, l.length = n := ⟨_, rfl⟩
  rw [hn1] at hlen hpt
  have hw3 : Upd [] w w3 := (HM1.out.2.trans' HR2.out.2.1 (fun y hy => .inr (by have := HB.out; simp only [List.mem_cons, List.not_mem_nil, or_false] at hy; omega))).trans' HR3.out.2.1 (fun y hy => .inr (by have := HB.out; simp only [List.mem_cons, List.not_mem_nil, or_false] at hy; omega))
  have HPT := Lib.hid hpt
  have hsl : ns < 1000000 := by have := names_len Pt.id l fun p => (namesM Pt.id l fun q => overB q p).isEmpty; unfold skyM at hns; omega
  have HX := Lib.hid (And.intro hsk (And.intro hlo (And.intro hw3 (And.intro hns (And.intro hnl (And.intro hn1 hsl))))))
  have n0 : (0 : Int) ≤ (n1 : Int) := Int.natCast_nonneg _
  have n1' : (n1 : Int) < 1000000 := by omega
  clear hpt hsk hlo hw3 hns hnl hn1 hlM hlen hsl HM1 HR2 HR3 HB
  go_wp2_with fail
  (with_reducible refine HPT.out.mono ?_)
  rintro e w4 ⟨Ap, Cp, rfl, hrow, hu4⟩
  have HP := Lib.hid (And.intro (See.of_row hrow) (And.intro (HX.out.2.2.1.trans hu4) (And.intro (HX.out.1.upd0 hu4) (HX.out.2.1.upd0 hu4))))
  clear hrow hu4
  go_upto_region 7 with fail
  go_cut [41] (fun s41 wc => s41 = .bool false ∧ w4 = wc)
  case first =>
    have e1 : ((nl : Int) == 1) = decide (0 < n1) := by
      have := low_some (s := stripM) HF.out.1 HF.out.2
      rw [HX.out.2.2.2.2.1, HX.out.2.2.2.2.2.1] at this
      rw [← this]
      by_cases e : nl = 1
      · simp [e]
      · have e' : ¬ ((nl : Int) = 1) := by omega
        simp [e, e']
    have e2 : decide (0 < ns) = decide (0 < n1) := by
      have := sky_some HF.out.1
      rw [HX.out.2.2.2.1, HX.out.2.2.2.2.2.1] at this
      exact this
    obtain ⟨b, hb⟩ : ∃ b, decide (0 < n1) = b := ⟨_, rfl⟩
    rw [hb] at e1 e2
    have e3 : (b == b) = true := by simp
    clear n0 n1'
    cases b with
    | true =>
      go_wp2_with fail
      go_meet
      case rel => exact ⟨rfl, rfl⟩
    | false =>
      go_wp2_with fail
      go_meet
      case rel => exact ⟨rfl, rfl⟩
  obtain ⟨rfl, rfl⟩ := hcut
  go_wp2_with fail
  go_loopg [44] n1 (fun m s44 wr => ∃ i, m + i = n1 ∧ s44 = .int .i64 (i : Int) ∧ Upd [] w4 wr)
  case atStart => exact ⟨0, rfl, rfl, Upd.refl _ _⟩
  case round =>
    obtain ⟨i, hi, rfl, hu⟩ := hrel
    have HI := Lib.hid (And.intro hi hu)
    have i0 : (0 : Int) ≤ (i : Int) := Int.natCast_nonneg _
    have i3 : (i : Int) < 2000000 := by omega
    by_cases hlt : i < n1
    · have i1 : (i : Int) < (n1 : Int) := by omega
      obtain ⟨pp, hpp⟩ : ∃ y, l[i]? = some y := ⟨_, List.getElem?_eq_getElem (by rw [HX.out.2.2.2.2.2.1]; exact hlt)⟩
      obtain ⟨gp, op, hA, -, -, c0, c1, c2⟩ := KPt.at (HP.out.1.upd0 hu) hpp
      have HAp := Lib.hid hA
      subst hA
      have HLT := Lib.hid (And.intro hlt (And.intro hpp (List.mem_of_getElem? hpp)))
      clear hi hu hlt hpp
      go_upto_region 12 with fail
      have HE := Lib.hid (show HpC (wr.alloc (.cells #[.int .i64 pp.x, .int .i64 pp.y, .int .u32 (pp.id : Int)] 47)) wr.heap.size #[.int .i64 pp.x, .int .i64 pp.y, .int .u32 (pp.id : Int)] 47 from heap_alloc_new wr _)
      have HU := Lib.hid (HI.out.2.alloc (.cells #[.int .i64 pp.x, .int .i64 pp.y, .int .u32 (pp.id : Int)] 47))
      clear c0 c1 c2
      generalize (wr.alloc (.cells #[.int .i64 pp.x, .int .i64 pp.y, .int .u32 (pp.id : Int)] 47)) = wa at HE HU ⊢
      generalize wr.heap.size = qp at HE ⊢
      go_wp2_with fail
      obtain ⟨wl, rfl⟩ : ∃ wl : World, wl = wr := ⟨_, rfl⟩
      obtain ⟨gO, rfl⟩ : ∃ gO : Nat, gO = gk := ⟨_, rfl⟩
      go_loopg [9, 50] n1 (fun m s9 s50 wi => ∃ k, m + k = n1 ∧ s50 = .int .i64 (k : Int) ∧ s9 = .bool (overK l pp (skyM l) k) ∧ Upd [] wa wi)
      case atStart => exact ⟨0, rfl, rfl, rfl, Upd.refl _ _⟩
      case round =>
        obtain ⟨k, hk, rfl, rfl, hu⟩ := hrel
        have HK := Lib.hid (And.intro hk hu)
        have k0 : (0 : Int) ≤ (k : Int) := Int.natCast_nonneg _
        have k3 : (k : Int) < 2000000 := by omega
        by_cases hlt : k < n1
        · have k1 : (k : Int) < (n1 : Int) := by omega
          obtain ⟨qq, hqq⟩ : ∃ y, l[k]? = some y := ⟨_, List.getElem?_eq_getElem (by rw [HX.out.2.2.2.2.2.1]; exact hlt)⟩
          obtain ⟨gq, oq, hA, -, -, c0, c1, c2⟩ := KPt.at (HP.out.1.upd0 (HU.out.trans hu)) hqq
          cases hA
          have hst := overK_step (p := pp) (S := skyM l) hqq
          obtain ⟨b, hb⟩ : ∃ b, overK l pp (skyM l) k = b := ⟨_, rfl⟩
          rw [hb] at hst ⊢
          have HLK := Lib.hid (And.intro hlt (And.intro hst (List.mem_of_getElem? hqq)))
          clear hk hu hlt hqq hst hb
          go_upto_region 16 with fail
          have HQ := Lib.hid (show HpC (wr.alloc (.cells #[.int .i64 qq.x, .int .i64 qq.y, .int .u32 (qq.id : Int)] 47)) wr.heap.size #[.int .i64 qq.x, .int .i64 qq.y, .int .u32 (qq.id : Int)] 47 from heap_alloc_new wr _)
          have HV := Lib.hid (HK.out.2.alloc (.cells #[.int .i64 qq.x, .int .i64 qq.y, .int .u32 (qq.id : Int)] 47))
          clear c0 c1 c2
          generalize (wr.alloc (.cells #[.int .i64 qq.x, .int .i64 qq.y, .int .u32 (qq.id : Int)] 47)) = wb at HQ HV ⊢
          generalize wr.heap.size = qq1 at HQ ⊢
          have HPq := Lib.hid (HE.out.upd HV.out (by simp))
          have hsee := HP.out.2.2.1.upd0 (HU.out.trans HV.out)
          have HSEE := Lib.hid (And.intro hsee (HP.out.2.2.2.upd0 (HU.out.trans HV.out)))
          clear hsee
          have hov := fun w9 => overC qq pp w9
          obtain ⟨ob, hob⟩ : ∃ b, overB qq pp = b := ⟨_, rfl⟩
          simp only [hob] at hov
          unfold ptV at hov
          have HOV := Lib.hid hov
          have HOB := Lib.hid hob
          clear hov hob
          have hwp := fun w9 (hu : Upd [] wb w9) => withC (.slice As ns Cs) (skyM l) pp.id w9 (HSEE.out.1.upd0 hu) (by rw [HX.out.2.2.2.1]; exact HX.out.2.2.2.2.2.2)
          have hwq := fun w9 (hu : Upd [] wb w9) => withC (.slice As ns Cs) (skyM l) qq.id w9 (HSEE.out.1.upd0 hu) (by rw [HX.out.2.2.2.1]; exact HX.out.2.2.2.2.2.2)
          obtain ⟨iq, hiq⟩ : ∃ b, decide (qq.id ∈ skyM l) = b := ⟨_, rfl⟩
          simp only [hiq] at hwq
          have HWQ := Lib.hid hwq
          have HIQ := Lib.hid hiq
          clear hwq hiq
          have p0 := HPq.out.cell 0
          have p1 := HPq.out.cell 1
          have p2 := HPq.out.cell 2
          have q0 := HQ.out.cell 0
          have q1 := HQ.out.cell 1
          have q2 := HQ.out.cell 2
          simp only [List.getElem?_toArray, List.getElem?_cons_zero, List.getElem?_cons_succ] at p0 p1 p2 q0 q1 q2
          have HWP := Lib.hid hwp
          clear hwp
          go_cut [62] (fun s62 wc => s62 = .bool false ∧ Upd [] wb wc)
          case first =>
            cases ob with
            | false =>
              go_wp2_with fail
              (with_reducible refine (HOV.out _).mono ?_)
              rintro e w9 ⟨rfl, hu9⟩
              have HU9 := Lib.hid hu9
              clear hu9 p0 p1 p2 q0 q1 q2
              go_wp2_with fail
              go_meet
              case rel => exact ⟨rfl, HU9.out⟩
            | true =>
              have hd : decide (pp.id ∈ skyM l) = false := decide_eq_false (sky_no HF.out.1 HLT.out.2.2 HLK.out.2.2 HOB.out)
              have hwp := HWP.out
              simp only [hd] at hwp
              have HWP2 := Lib.hid hwp
              clear hwp hd
              go_wp2_with fail
              (with_reducible refine (HOV.out _).mono ?_)
              rintro e w9 ⟨rfl, hu9⟩
              have HU9 := Lib.hid hu9
              have p2 := (HPq.out.upd hu9 (by simp)).cell 2
              simp only [List.getElem?_toArray, List.getElem?_cons_zero, List.getElem?_cons_succ] at p2
              clear hu9 p0 p1 q0 q1 q2
              go_wp2_with fail
              (with_reducible refine (HWP2.out _ HU9.out).mono ?_)
              rintro e w10 ⟨rfl, rfl⟩
              go_wp2_with fail
              go_meet
              case rel => exact ⟨rfl, HU9.out⟩
          obtain ⟨rfl, huc⟩ := hcut
          obtain ⟨wc1, rfl⟩ : ∃ W : World, W = wc := ⟨_, rfl⟩
          have HPc := Lib.hid (HPq.out.upd huc (by simp))
          have HQc := Lib.hid (HQ.out.upd huc (by simp))
          have HUc := Lib.hid huc
          clear huc p0 p1 p2 q0 q1 q2
          have p0 := HPc.out.cell 0
          have p1 := HPc.out.cell 1
          have p2 := HPc.out.cell 2
          have q0 := HQc.out.cell 0
          have q1 := HQc.out.cell 1
          have q2 := HQc.out.cell 2
          simp only [List.getElem?_toArray, List.getElem?_cons_zero, List.getElem?_cons_succ] at p0 p1 p2 q0 q1 q2
          go_upto_region 18 with fail
          go_cut [9] (fun s9 wd => s9 = .bool (b || (ob && iq)) ∧ Upd [] wc1 wd)
          case first =>
            cases b with
            | true =>
              go_wp2_with fail
              go_meet
              case rel => exact ⟨rfl, Upd.refl _ _⟩
            | false =>
              cases ob with
              | false =>
                go_wp2_with fail
                (with_reducible refine (HOV.out _).mono ?_)
                rintro e w9 ⟨rfl, hu9⟩
                have HU9 := Lib.hid hu9
                clear hu9 p0 p1 p2 q0 q1 q2
                go_wp2_with fail
                go_meet
                case rel => exact ⟨rfl, HU9.out⟩
              | true =>
                go_wp2_with fail
                (with_reducible refine (HOV.out _).mono ?_)
                rintro e w9 ⟨rfl, hu9⟩
                have HU9 := Lib.hid hu9
                have q2 := (HQc.out.upd hu9 (by simp)).cell 2
                simp only [List.getElem?_toArray, List.getElem?_cons_zero, List.getElem?_cons_succ] at q2
                clear hu9 p0 p1 p2 q0 q1
                go_wp2_with fail
                (with_reducible refine (HWQ.out _ (HUc.out.trans HU9.out)).mono ?_)
                rintro e w10 ⟨rfl, rfl⟩
                go_wp2_with fail
                go_meet
                case rel => exact ⟨rfl, HU9.out⟩
          obtain ⟨rfl, hud⟩ := hcut
          obtain ⟨wd, rfl⟩ : ∃ W : World, W = wc := ⟨_, rfl⟩
          have HPd := Lib.hid (HPc.out.upd hud (by simp))
          have HQd := Lib.hid (HQc.out.upd hud (by simp))
          have HUd := Lib.hid (HUc.out.trans hud)
          clear hud p0 p1 p2 q0 q1 q2
          go_upto_region 19 with fail
          go_cut [86] (fun s86 we => s86 = .bool false ∧ Upd [] wd we)
          case first =>
            obtain ⟨xl, hxl⟩ : ∃ x, lowM l stripM = [x] := by
              have h1 := low_some (s := stripM) HF.out.1 HF.out.2
              have h2 : 0 < l.length := List.length_pos_of_mem HLT.out.2.2
              rw [decide_eq_true h2] at h1
              exact List.length_eq_one_iff.1 (of_decide_eq_true h1)
            have hn1l : nl = 1 := by have := HX.out.2.2.2.2.1; rw [hxl] at this; simpa using this.symm
            subst hn1l
            have hlowc := HSEE.out.2.upd0 HUd.out
            rw [hxl] at hlowc
            obtain ⟨gl, ol, hAl, -, -, l0⟩ := KU.at hlowc (k := 0) (x := xl) rfl
            subst hAl
            rw [Nat.add_zero] at l0
            have HXL := Lib.hid hxl
            clear hlowc hxl
            have p0 := HPd.out.cell 0
            have p1 := HPd.out.cell 1
            have p2 := HPd.out.cell 2
            have q0 := HQd.out.cell 0
            have q1 := HQd.out.cell 1
            have q2 := HQd.out.cell 2
            simp only [List.getElem?_toArray, List.getElem?_cons_zero, List.getElem?_cons_succ] at p0 p1 p2 q0 q1 q2
            by_cases hx : pp.id = xl
            · have hlo : lowB qq pp = false := low_min HF.out.1 HF.out.2 HLT.out.2.2 HLK.out.2.2 (by rw [HXL.out, hx]; simp)
              have hby := fun w9 => byYC qq pp w9
              have hlz : decide (orZ (cmpZ qq.y pp.y) (cmpZ (qq.id : Int) (pp.id : Int)) < 0) = false := (lowB_iff qq pp).trans hlo
              obtain ⟨z, hz⟩ : ∃ z, orZ (cmpZ qq.y pp.y) (cmpZ (qq.id : Int) (pp.id : Int)) = z := ⟨_, rfl⟩
              rw [hz] at hlz
              simp only [hz] at hby
              unfold ptV at hby
              have HBY := Lib.hid hby
              have dx : ((xl : Int) == (xl : Int)) = true := by simp
              have HPX := Lib.hid hx
              rw [hx] at p2 HBY
              clear hby hz hlo hx
              have cp0 : ∀ z : QW wd, z.w.cell? ⟨qp, 0, none⟩ = some (.int .i64 pp.x) := fun z => (z.up.cell (p := ⟨qp, 0, none⟩) (World.block_lt_of_cell? _ _ p0) (by simp)).trans p0
              have cp1 : ∀ z : QW wd, z.w.cell? ⟨qp, 1, none⟩ = some (.int .i64 pp.y) := fun z => (z.up.cell (p := ⟨qp, 1, none⟩) (World.block_lt_of_cell? _ _ p1) (by simp)).trans p1
              have cp2 : ∀ z : QW wd, z.w.cell? ⟨qp, 2, none⟩ = some (.int .u32 (xl : Int)) := fun z => (z.up.cell (p := ⟨qp, 2, none⟩) (World.block_lt_of_cell? _ _ p2) (by simp)).trans p2
              have cq0 : ∀ z : QW wd, z.w.cell? ⟨qq1, 0, none⟩ = some (.int .i64 qq.x) := fun z => (z.up.cell (p := ⟨qq1, 0, none⟩) (World.block_lt_of_cell? _ _ q0) (by simp)).trans q0
              have cq1 : ∀ z : QW wd, z.w.cell? ⟨qq1, 1, none⟩ = some (.int .i64 qq.y) := fun z => (z.up.cell (p := ⟨qq1, 1, none⟩) (World.block_lt_of_cell? _ _ q1) (by simp)).trans q1
              have cq2 : ∀ z : QW wd, z.w.cell? ⟨qq1, 2, none⟩ = some (.int .u32 (qq.id : Int)) := fun z => (z.up.cell (p := ⟨qq1, 2, none⟩) (World.block_lt_of_cell? _ _ q2) (by simp)).trans q2
              have cl0 : ∀ z : QW wd, z.w.cell? ⟨gl, ol, none⟩ = some (.int .u32 (xl : Int)) := fun z => (z.up.cell (p := ⟨gl, ol, none⟩) (World.block_lt_of_cell? _ _ l0) (by simp)).trans l0
              clear p0 p1 p2 q0 q1 q2 l0
              refine wp_region_quietU (by kernel_rfl) (by kernel_rfl) ?_
              repeat (go_big_quiet_step (with_reducible exact Calls.quietU (HBY.out _)))
              refine wpQuiet_nil ?_
              intro _ hw'
              obtain ⟨⟨wq, hwq⟩, hw''⟩ := hw'
              dsimp only at hw''
              subst hw''
              clear cp0 cp1 cp2 cq0 cq1 cq2 cl0
              go_wp2_with fail
              go_meet
              case rel => exact ⟨rfl, hwq⟩
            · have dx : ((pp.id : Int) == (xl : Int)) = false := by rw [beq_eq_false_iff_ne]; omega
              clear hx q0 q1 q2 p0 p1
              go_quiet (fail)
              clear p2 l0
              go_wp2_with fail
              go_meet
              case rel => exact ⟨rfl, (Upd.refl [] _).drewN _⟩
          obtain ⟨rfl, hue⟩ := hcut
          have HUe := Lib.hid ((HV.out.trans HUd.out).trans hue)
          have hfin : (b || (ob && iq)) = overK l pp (skyM l) (k + 1) := by rw [HLK.out.2.1, HOB.out, HIQ.out]
          have HFIN := Lib.hid hfin
          clear hue hfin
          go_wp2_with fail
          go_roundg (n1 - (k + 1))
          case measure => have := HK.out.1; have := HLK.out.1; omega
          case rel => exact ⟨k + 1, by have := HK.out.1; have := HLK.out.1; omega, by go_num, by rw [HFIN.out], HUe.out⟩
        · have ek : k = n1 := by omega
          subst ek
          have HUk := Lib.hid (HU.out.trans hu)
          obtain ⟨b, hb⟩ : ∃ b, overK l pp (skyM l) k = b := ⟨_, rfl⟩
          have hov : b = false → pp.id ∈ skyM l := fun hbf => by
            rcases sky_yes HF.out.1 HLT.out.2.2 with h1 | ⟨q', h1, h2, h3⟩
            · exact h1
            · exfalso
              rw [hbf] at hb
              unfold overK at hb
              rw [List.take_of_length_le (by rw [HX.out.2.2.2.2.2.1]; exact Nat.le_refl _), List.any_eq_false] at hb
              have := hb q' h1
              simp [h2, h3] at this
          have HOV := Lib.hid hov
          have HPx := Lib.hid (HE.out.upd hu (by simp))
          have e2 := HPx.out.cell 2
          simp only [List.getElem?_toArray, List.getElem?_cons_zero, List.getElem?_cons_succ] at e2
          rw [hb]
          clear hk hu hlt hov hb
          cases b with
          | true =>
            go_wp2_with fail
            go_roundg (k - (i + 1))
            case measure => have := HI.out.1; have := HLT.out.1; omega
            case rel => exact ⟨i + 1, by have := HI.out.1; have := HLT.out.1; omega, by go_num, HUk.out⟩
          | false =>
            have hd : decide (pp.id ∈ skyM l) = true := decide_eq_true (HOV.out rfl)
            have hwi := withC (.slice As ns Cs) (skyM l) pp.id wr (HP.out.2.2.1.upd0 HUk.out) (by rw [HX.out.2.2.2.1]; exact HX.out.2.2.2.2.2.2)
            rw [hd] at hwi
            have HWI := Lib.hid hwi
            clear hwi hd
            go_wp2_with fail
            (with_reducible refine HWI.out.mono ?_)
            rintro e w9 ⟨rfl, rfl⟩
            go_wp2_with fail
            go_roundg (k - (i + 1))
            case measure => have := HI.out.1; have := HLT.out.1; omega
            case rel => exact ⟨i + 1, by have := HI.out.1; have := HLT.out.1; omega, by go_num, HUk.out⟩
    · have ei : i = n1 := by omega
      subst ei
      clear hi hu hlt
      go_wp2_with fail
      (with_reducible refine (awake26 ar _).mono ?_)
      rintro e w7 ⟨rfl, hu7⟩
      have HU7 := Lib.hid hu7
      clear hu7
      go_wp2_with fail
      go_ret
      exact ⟨rfl, (HP.out.2.1.trans HI.out.2).trans HU7.out⟩
end Go.Proofs.YthnbgfnclpkdjaaGreat
