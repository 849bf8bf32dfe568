/- gridironlaw26.ModelTable: the walk. Printed by mkmtab.py. -/
import Derived.Test.YthnbgfnclpkdjaaGreatOpnM
import Derived.Test.YthnbgfnclpkdjaaGreatTabP
import Derived.Test.YthnbgfnclpkdjaaGreatAwkM
namespace Go.Proofs.YthnbgfnclpkdjaaGreat
open Go.RowKit

theorem find_step {α : Type} {key : α → Nat} {l : List α} {k : Nat} {y : α} (h : l[k]? = some y) (id : Nat) : (findK key (l.take (k + 1)) id).isSome = ((findK key (l.take k) id).isSome || (key y == id)) := by
  obtain ⟨h1, h2⟩ := List.getElem?_eq_some_iff.1 h
  unfold findK
  rw [List.take_succ_eq_append_getElem h1, h2, List.find?_append]
  cases hf : List.find? (fun x => key x == id) (l.take k) with
  | some z => simp
  | none => cases hk : key y == id <;> simp [List.find?, hk]

/-- The error that is wanted, by its parts. -/
def wantV (oc : Nat) (a b c d : Int) (T : Bool) (Y room : Nat) : Nat :=
  if oc = 0 ∨ 20 < oc then 260 else
  if (oc = 2 ∧ b < a) ∨ (oc = 3 ∧ (b < a ∨ d < c)) then 261 else
  if oc ≤ 3 ∧ T = true then 262 else
  if oc ≤ 3 ∧ Y = room then 5 else
  if (3 < oc ∧ oc ≤ 6) ∧ T = false then 263 else 0
theorem wantV_eq (m : Md) (o : OpP) : wantM m o = wantV o.code o.a o.b o.c o.d (thereM m o) (manyM m o) m.room := rfl

theorem wantV_bif (oc : Nat) (a b c d : Int) (T : Bool) (Y room : Nat) : wantV oc a b c d T Y room =
    bif decide (oc = 0 ∨ 20 < oc) then 260 else bif decide ((oc = 2 ∧ b < a) ∨ (oc = 3 ∧ (b < a ∨ d < c))) then 261 else bif decide (oc ≤ 3) && T then 262 else bif decide (oc ≤ 3 ∧ Y = room) then 5 else bif decide (3 < oc ∧ oc ≤ 6) && !T then 263 else 0 := by
  unfold wantV
  simp only [Bool.cond_eq_ite, Bool.and_eq_true, Bool.not_eq_true', decide_eq_true_eq]

set_option maxRecDepth 100000 in
set_option maxHeartbeats 8000000 in
theorem modelTable_walk {A R : List Bx → Nat} (ar : AR A R) (room : Nat) (hroom : room < 256) (v : Value) (L : List OpP) (o : OpP) (w : World) (hs : See KOp w v L) (hl : L.length < 9223372036854775808) (hin : ∀ o ∈ L, o.in64) (ho : o.in64) :
    Calls Tryz.prog 8 #[.int .u8 (room : Int), v, opV o] w fun e w' => e = .returned (.bool true) ∧ Upd [] w w' := by
  obtain ⟨A', C', rfl⟩ := hs.form
  obtain ⟨n, hn⟩ : ∃ n, L.length = n := ⟨_, rfl⟩
  have haf := fun (w9 : World) (hu : Upd [] w w9) => afterC ar room hroom (.slice A' L.length C') L w9 (hs.upd0 hu) hl hin
  rw [hn] at haf ⊢
  have hrun := run_ok (A := A) (R := R) (L.take 60) ⟨1 + room, [], [], []⟩ (ok_nil _) ⟨Nat.zero_le _, Nat.zero_le _, Nat.zero_le _⟩ (fun o ho => hin o (List.mem_of_mem_take ho))
  have hrm := runM_room (A := A) (R := R) (L.take 60) ⟨1 + room, [], [], []⟩
  obtain ⟨M, hM⟩ : ∃ M, runM A R ⟨1 + room, [], [], []⟩ (L.take 60) = M := ⟨_, rfl⟩
  simp only [hM] at haf
  rw [hM] at hrun hrm
  dsimp only at hrm
  have hwant := want_do (A := A) (R := R) hrun.2 o
  rw [wantV_eq, hrm] at hwant
  have HAF := Lib.hid haf
  have HO := Lib.hid ho
  have r0 : (0 : Int) ≤ (room : Int) := Int.natCast_nonneg _
  have r1 : (room : Int) < 256 := by omega
  clear hs hl hin hroom haf hn hM ho hrun hrm
  obtain ⟨⟨M2, z⟩, hz⟩ : ∃ r, doM A R M o = r := ⟨_, rfl⟩
  rw [hz] at hwant
  have HZ := Lib.hid hz
  clear hz
  have hTY : thereM M o = thereM M o ∧ manyM M o = manyM M o := ⟨rfl, rfl⟩
  obtain ⟨T, hT⟩ : ∃ T, thereM M o = T := ⟨_, rfl⟩
  obtain ⟨Y, hY⟩ : ∃ Y, manyM M o = Y := ⟨_, rfl⟩
  rw [hT, hY] at hwant
  obtain ⟨oc, oa, ob, occ, od, oi⟩ := o
  unfold opV
  dsimp only at hwant ⊢
  obtain ⟨W, hW⟩ : ∃ W, wantV oc oa ob occ od T Y (1 + room) = W := ⟨_, rfl⟩
  rw [hW] at hwant
  have HW := Lib.hid hW
  have HWANT := Lib.hid hwant
  have HT := Lib.hid (And.intro hT hY)
  clear hT hY hW hwant hTY
  have HU0 := Lib.hid (show Upd [] w (w.alloc (.cells #[.int .u8 (oc : Int), .int .i64 oa, .int .i64 ob, .int .i64 occ, .int .i64 od, .int .u32 (oi : Int)] 25)) from (Upd.refl _ _).alloc _)
  have HC0 := Lib.hid (op_new w #[.int .u8 (oc : Int), .int .i64 oa, .int .i64 ob, .int .i64 occ, .int .i64 od, .int .u32 (oi : Int)])
  go_enter Tryz.func8, Tryz.ntmps8
  go_upto_region 1 with fail
  generalize (w.alloc (.cells #[.int .u8 (oc : Int), .int .i64 oa, .int .i64 ob, .int .i64 occ, .int .i64 od, .int .u32 (oi : Int)] 25)) = W0 at HU0 HC0 ⊢
  obtain ⟨qo, hqo⟩ : ∃ q, w.heap.size = q := ⟨_, rfl⟩
  rw [hqo] at HC0 ⊢
  have HQ := Lib.hid hqo
  clear hqo
  go_wp2_with fail
  (with_reducible refine (HAF.out _ HU0.out).mono ?_)
  rintro e w1 ⟨h, p, s, x, rfl, hm1, hu1, g1, g2, g3, g4⟩
  have HM1 := Lib.hid (And.intro hm1 (And.intro (HU0.out.trans hu1) (HC0.out.upd0 hu1)))
  have hq1 : qo < W0.heap.size := (HC0.out).lt rfl
  have HB := Lib.hid (show (qo ∉ [p, s, x]) ∧ w.heap.size ≤ p ∧ w.heap.size ≤ s ∧ w.heap.size ≤ x by
    have h4 := HU0.out.size
    simp only [List.mem_cons, List.not_mem_nil, or_false]
    omega)
  clear hm1 hu1 g1 g2 g3 g4 hq1 HC0 HU0 HAF
  have o0 := HM1.out.2.2 0 _ rfl
  go_upto_block 0 with fail
  obtain ⟨c, hc⟩ : ∃ c : Int, (oc : Int) = c := ⟨_, rfl⟩
  rw [hc] at o0 ⊢
  have HCC := Lib.hid hc
  have hc0 : 0 ≤ c := by omega
  have HC9 := Lib.hid hc0
  clear hc hc0 o0
  go_cut [8, 9] (fun s8 s9 wc => s8 = .bool T ∧ s9 = .int .i64 (Y : Int) ∧ Upd [] w1 wc)
  case first =>
    go_step
    go_step
    obtain ⟨q, hq⟩ : ∃ q, decide (oc = 1 ∨ oc = 4) = q := ⟨_, rfl⟩
    go_cut [25] (fun s25 we => s25 = .bool q ∧ w1 = we)
    case first =>
      obtain ⟨qa, hqa⟩ : ∃ q, (c == 1) = q := ⟨_, rfl⟩
      obtain ⟨qb, hqb⟩ : ∃ q, (c == 4) = q := ⟨_, rfl⟩
      have e : q = (qa || qb) := by
        rw [← hq, ← hqa, ← hqb]
        have := HCC.out
        by_cases h1 : c = 1
        · rw [beq_iff_eq.2 h1, Bool.true_or]; exact decide_eq_true (by omega)
        · rw [beq_eq_false_iff_ne.2 h1, Bool.false_or]
          by_cases h2 : c = 4
          · rw [beq_iff_eq.2 h2]; exact decide_eq_true (by omega)
          · rw [beq_eq_false_iff_ne.2 h2]; exact decide_eq_false (by omega)
      clear hq
      subst e
      cases qa with
      | true =>
        go_wp2_with fail
        go_meet
        case rel => exact ⟨rfl, rfl⟩
      | false =>
        go_wp2_with fail
        go_meet
        case rel => exact ⟨rfl, rfl⟩
    obtain ⟨rfl, rfl⟩ := hcut
    cases q with
    | true =>
      have hoc : oc = 1 ∨ oc = 4 := of_decide_eq_true hq
      have HOC := Lib.hid hoc
      clear hq hoc
      as_aux_lemma =>
        have hoc := HOC.out
        have hlen : M.ps.length < 1000000 := by have := HM1.out.1.small; omega
        have hps := thePoints HM1.out.1.at' hlen
        have hT := HT.out
        unfold thereM manyM at hT
        dsimp only at hT
        simp only [hoc, if_true] at hT
        obtain ⟨l, hl⟩ : ∃ l, M.ps = l := ⟨_, rfl⟩
        rw [hl] at hT hlen hps
        obtain ⟨n1, hn1⟩ : ∃ n, l.length = n := ⟨_, rfl⟩
        rw [hn1] at hT hlen hps
        have HPS := Lib.hid hps
        have HTT := Lib.hid (And.intro hT hn1)
        have n0 : (0 : Int) ≤ (n1 : Int) := Int.natCast_nonneg _
        have n1' : (n1 : Int) < 1000000 := by omega
        clear hps hT hoc hl hn1 hlen
        go_wp2_with fail
        (with_reducible refine HPS.out.mono ?_)
        rintro e wl ⟨Ap, Cp, rfl, hrow, hup⟩
        have HL := Lib.hid (And.intro (See.of_row hrow) (And.intro hup (HM1.out.2.2.upd0 hup)))
        clear hrow hup
        go_wp2_with fail
        go_loopg [8, 9, 31] n1 (fun m s8 s9 s31 wr => ∃ (k : Nat) (b : Bool), m + k = n1 ∧ s31 = .int .i64 (k : Int) ∧ s9 = .int .i64 (k : Int) ∧ s8 = .bool b ∧ b = (findK Pt.id (l.take k) oi).isSome ∧ Upd [] wl wr)
        case atStart => exact ⟨0, false, rfl, rfl, rfl, rfl, rfl, Upd.refl _ _⟩
        case round =>
          obtain ⟨k, b, hk, rfl, rfl, rfl, hb, hu⟩ := hrel
          have HK := Lib.hid (And.intro hk (And.intro hb hu))
          have k0 : (0 : Int) ≤ (k : Int) := Int.natCast_nonneg _
          have k3 : (k : Int) < 2000000 := by omega
          by_cases hlt : k < n1
          · have i1 : (k : Int) < (n1 : Int) := by omega
            obtain ⟨y, hy⟩ : ∃ y, l[k]? = some y := ⟨_, List.getElem?_eq_getElem (by rw [HTT.out.2]; exact hlt)⟩
            obtain ⟨g, og, hA, -, -, c0, c1, c2⟩ := KPt.at (HL.out.1.upd0 hu) hy
            subst hA
            have HLT := Lib.hid (And.intro hlt (And.intro (find_step (key := Pt.id) hy oi) (HL.out.2.2.upd0 hu)))
            clear hk hb hu hlt hy
            go_upto_region 12 with fail
            have HE := Lib.hid (show HpC (wr.alloc (.cells #[.int .i64 y.x, .int .i64 y.y, .int .u32 (y.id : Int)] 47)) wr.heap.size #[.int .i64 y.x, .int .i64 y.y, .int .u32 (y.id : Int)] 47 from heap_alloc_new wr _)
            have HU := Lib.hid (HK.out.2.2.alloc (.cells #[.int .i64 y.x, .int .i64 y.y, .int .u32 (y.id : Int)] 47))
            have HCo := Lib.hid (HLT.out.2.2.upd0 ((Upd.refl [] wr).alloc (.cells #[.int .i64 y.x, .int .i64 y.y, .int .u32 (y.id : Int)] 47)))
            clear c0 c1 c2
            generalize (wr.alloc (.cells #[.int .i64 y.x, .int .i64 y.y, .int .u32 (y.id : Int)] 47)) = wa at HE HU HCo ⊢
            generalize wr.heap.size = qa at HE ⊢
            have e5 := HE.out.cell 2
            simp only [List.getElem?_toArray, List.getElem?_cons_zero, List.getElem?_cons_succ] at e5
            have o5 := HCo.out 5 _ rfl
            cases b with
            | true =>
              have hb2 : true = (findK Pt.id (l.take (k + 1)) oi).isSome := by rw [HLT.out.2.1, ← HK.out.2.1]; rfl
              have HB2 := Lib.hid hb2
              clear hb2
              go_wp2_with fail
              go_roundg (n1 - (k + 1))
              case measure => have := HK.out.1; have := HLT.out.1; omega
              case rel => exact ⟨k + 1, true, by have := HK.out.1; have := HLT.out.1; omega, by go_num, by go_num, rfl, HB2.out, HU.out⟩
            | false =>
              obtain ⟨q, hq⟩ : ∃ q, ((y.id : Int) == (oi : Int)) = q := ⟨_, rfl⟩
              have hb2 : q = (findK Pt.id (l.take (k + 1)) oi).isSome := by
                rw [HLT.out.2.1, ← HK.out.2.1, Bool.false_or, ← hq]
                by_cases e : y.id = oi
                · rw [e]
                  rw [beq_self_eq_true, beq_self_eq_true]
                · have e' : ¬ ((y.id : Int) = (oi : Int)) := by omega
                  rw [beq_eq_false_iff_ne.2 e, beq_eq_false_iff_ne.2 e']
              have HB2 := Lib.hid hb2
              clear hb2
              go_wp2_with fail
              go_roundg (n1 - (k + 1))
              case measure => have := HK.out.1; have := HLT.out.1; omega
              case rel => exact ⟨k + 1, q, by have := HK.out.1; have := HLT.out.1; omega, by go_num, by go_num, rfl, HB2.out, HU.out⟩
          · have ek : k = n1 := by omega
            subst ek
            have hTb : b = T := by rw [hb, ← HTT.out.1.1, List.take_of_length_le (by rw [HTT.out.2]; exact Nat.le_refl _)]
            have hYk : k = Y := HTT.out.1.2
            have HE := Lib.hid (And.intro hTb (And.intro hYk (HL.out.2.1.trans hu)))
            clear hk hb hu hlt hTb hYk
            go_wp2_with fail
            go_meet
            case rel => exact ⟨by rw [HE.out.1], by rw [HE.out.2.1], HE.out.2.2⟩
    | false =>
      have HNOP := Lib.hid (of_decide_eq_false hq)
      clear hq
      go_upto_if 25 with fail
      go_step
      go_step
      obtain ⟨q, hq⟩ : ∃ q, decide (oc = 2 ∨ oc = 5) = q := ⟨_, rfl⟩
      go_cut [46] (fun s25 we => s25 = .bool q ∧ w1 = we)
      case first =>
        obtain ⟨qa, hqa⟩ : ∃ q, (c == 2) = q := ⟨_, rfl⟩
        obtain ⟨qb, hqb⟩ : ∃ q, (c == 5) = q := ⟨_, rfl⟩
        have e : q = (qa || qb) := by
          rw [← hq, ← hqa, ← hqb]
          have := HCC.out
          by_cases h1 : c = 2
          · rw [beq_iff_eq.2 h1, Bool.true_or]; exact decide_eq_true (by omega)
          · rw [beq_eq_false_iff_ne.2 h1, Bool.false_or]
            by_cases h2 : c = 5
            · rw [beq_iff_eq.2 h2]; exact decide_eq_true (by omega)
            · rw [beq_eq_false_iff_ne.2 h2]; exact decide_eq_false (by omega)
        clear hq
        subst e
        cases qa with
        | true =>
          go_wp2_with fail
          go_meet
          case rel => exact ⟨rfl, rfl⟩
        | false =>
          go_wp2_with fail
          go_meet
          case rel => exact ⟨rfl, rfl⟩
      obtain ⟨rfl, rfl⟩ := hcut
      cases q with
      | true =>
        have hoc : oc = 2 ∨ oc = 5 := of_decide_eq_true hq
        have HOC := Lib.hid hoc
        clear hq hoc
        as_aux_lemma =>
          have hoc := HOC.out
          have hlen : M.ss.length < 1000000 := by have := HM1.out.1.small; omega
          have hps := theSpans HM1.out.1.at' hlen
          have hT := HT.out
          unfold thereM manyM at hT
          dsimp only at hT
          simp only [hoc, if_true, if_false, show ¬ (oc = 1 ∨ oc = 4) by omega] at hT
          obtain ⟨l, hl⟩ : ∃ l, M.ss = l := ⟨_, rfl⟩
          rw [hl] at hT hlen hps
          obtain ⟨n1, hn1⟩ : ∃ n, l.length = n := ⟨_, rfl⟩
          rw [hn1] at hT hlen hps
          have HPS := Lib.hid hps
          have HTT := Lib.hid (And.intro hT hn1)
          have n0 : (0 : Int) ≤ (n1 : Int) := Int.natCast_nonneg _
          have n1' : (n1 : Int) < 1000000 := by omega
          clear hps hT hoc hl hn1 hlen
          go_wp2_with fail
          (with_reducible refine HPS.out.mono ?_)
          rintro e wl ⟨Ap, Cp, rfl, hrow, hup⟩
          have HL := Lib.hid (And.intro (See.of_row hrow) (And.intro hup (HM1.out.2.2.upd0 hup)))
          clear hrow hup
          go_wp2_with fail
          go_loopg [8, 9, 52] n1 (fun m s8 s9 s31 wr => ∃ (k : Nat) (b : Bool), m + k = n1 ∧ s31 = .int .i64 (k : Int) ∧ s9 = .int .i64 (k : Int) ∧ s8 = .bool b ∧ b = (findK Sp.id (l.take k) oi).isSome ∧ Upd [] wl wr)
          case atStart => exact ⟨0, false, rfl, rfl, rfl, rfl, rfl, Upd.refl _ _⟩
          case round =>
            obtain ⟨k, b, hk, rfl, rfl, rfl, hb, hu⟩ := hrel
            have HK := Lib.hid (And.intro hk (And.intro hb hu))
            have k0 : (0 : Int) ≤ (k : Int) := Int.natCast_nonneg _
            have k3 : (k : Int) < 2000000 := by omega
            by_cases hlt : k < n1
            · have i1 : (k : Int) < (n1 : Int) := by omega
              obtain ⟨y, hy⟩ : ∃ y, l[k]? = some y := ⟨_, List.getElem?_eq_getElem (by rw [HTT.out.2]; exact hlt)⟩
              obtain ⟨g, og, hA, -, -, c0, c1, c2⟩ := KSp.at (HL.out.1.upd0 hu) hy
              subst hA
              have HLT := Lib.hid (And.intro hlt (And.intro (find_step (key := Sp.id) hy oi) (HL.out.2.2.upd0 hu)))
              clear hk hb hu hlt hy
              go_upto_region 20 with fail
              have HE := Lib.hid (show HpC (wr.alloc (.cells #[.int .i64 y.lo, .int .i64 y.hi, .int .u32 (y.id : Int)] 52)) wr.heap.size #[.int .i64 y.lo, .int .i64 y.hi, .int .u32 (y.id : Int)] 52 from heap_alloc_new wr _)
              have HU := Lib.hid (HK.out.2.2.alloc (.cells #[.int .i64 y.lo, .int .i64 y.hi, .int .u32 (y.id : Int)] 52))
              have HCo := Lib.hid (HLT.out.2.2.upd0 ((Upd.refl [] wr).alloc (.cells #[.int .i64 y.lo, .int .i64 y.hi, .int .u32 (y.id : Int)] 52)))
              clear c0 c1 c2
              generalize (wr.alloc (.cells #[.int .i64 y.lo, .int .i64 y.hi, .int .u32 (y.id : Int)] 52)) = wa at HE HU HCo ⊢
              generalize wr.heap.size = qa at HE ⊢
              have e5 := HE.out.cell 2
              simp only [List.getElem?_toArray, List.getElem?_cons_zero, List.getElem?_cons_succ] at e5
              have o5 := HCo.out 5 _ rfl
              cases b with
              | true =>
                have hb2 : true = (findK Sp.id (l.take (k + 1)) oi).isSome := by rw [HLT.out.2.1, ← HK.out.2.1]; rfl
                have HB2 := Lib.hid hb2
                clear hb2
                go_wp2_with fail
                go_roundg (n1 - (k + 1))
                case measure => have := HK.out.1; have := HLT.out.1; omega
                case rel => exact ⟨k + 1, true, by have := HK.out.1; have := HLT.out.1; omega, by go_num, by go_num, rfl, HB2.out, HU.out⟩
              | false =>
                obtain ⟨q, hq⟩ : ∃ q, ((y.id : Int) == (oi : Int)) = q := ⟨_, rfl⟩
                have hb2 : q = (findK Sp.id (l.take (k + 1)) oi).isSome := by
                  rw [HLT.out.2.1, ← HK.out.2.1, Bool.false_or, ← hq]
                  by_cases e : y.id = oi
                  · rw [e]
                    rw [beq_self_eq_true, beq_self_eq_true]
                  · have e' : ¬ ((y.id : Int) = (oi : Int)) := by omega
                    rw [beq_eq_false_iff_ne.2 e, beq_eq_false_iff_ne.2 e']
                have HB2 := Lib.hid hb2
                clear hb2
                go_wp2_with fail
                go_roundg (n1 - (k + 1))
                case measure => have := HK.out.1; have := HLT.out.1; omega
                case rel => exact ⟨k + 1, q, by have := HK.out.1; have := HLT.out.1; omega, by go_num, by go_num, rfl, HB2.out, HU.out⟩
            · have ek : k = n1 := by omega
              subst ek
              have hTb : b = T := by rw [hb, ← HTT.out.1.1, List.take_of_length_le (by rw [HTT.out.2]; exact Nat.le_refl _)]
              have hYk : k = Y := HTT.out.1.2
              have HE := Lib.hid (And.intro hTb (And.intro hYk (HL.out.2.1.trans hu)))
              clear hk hb hu hlt hTb hYk
              go_wp2_with fail
              go_meet
              case rel => exact ⟨by rw [HE.out.1], by rw [HE.out.2.1], HE.out.2.2⟩
      | false =>
        have HNOS := Lib.hid (of_decide_eq_false hq)
        clear hq
        go_upto_if 46 with fail
        go_step
        go_step
        obtain ⟨q, hq⟩ : ∃ q, decide (oc = 3 ∨ oc = 6) = q := ⟨_, rfl⟩
        go_cut [67] (fun s25 we => s25 = .bool q ∧ w1 = we)
        case first =>
          obtain ⟨qa, hqa⟩ : ∃ q, (c == 3) = q := ⟨_, rfl⟩
          obtain ⟨qb, hqb⟩ : ∃ q, (c == 6) = q := ⟨_, rfl⟩
          have e : q = (qa || qb) := by
            rw [← hq, ← hqa, ← hqb]
            have := HCC.out
            by_cases h1 : c = 3
            · rw [beq_iff_eq.2 h1, Bool.true_or]; exact decide_eq_true (by omega)
            · rw [beq_eq_false_iff_ne.2 h1, Bool.false_or]
              by_cases h2 : c = 6
              · rw [beq_iff_eq.2 h2]; exact decide_eq_true (by omega)
              · rw [beq_eq_false_iff_ne.2 h2]; exact decide_eq_false (by omega)
          clear hq
          subst e
          cases qa with
          | true =>
            go_wp2_with fail
            go_meet
            case rel => exact ⟨rfl, rfl⟩
          | false =>
            go_wp2_with fail
            go_meet
            case rel => exact ⟨rfl, rfl⟩
        obtain ⟨rfl, rfl⟩ := hcut
        cases q with
        | true =>
          have hoc : oc = 3 ∨ oc = 6 := of_decide_eq_true hq
          have HOC := Lib.hid hoc
          clear hq hoc
          as_aux_lemma =>
            have hoc := HOC.out
            have hlen : M.bs.length < 1000000 := by have := HM1.out.1.small; omega
            have hps := theBoxes HM1.out.1.at' hlen
            have hT := HT.out
            unfold thereM manyM at hT
            dsimp only at hT
            simp only [hoc, if_true, if_false, show ¬ (oc = 1 ∨ oc = 4) by omega, show ¬ (oc = 2 ∨ oc = 5) by omega] at hT
            obtain ⟨l, hl⟩ : ∃ l, M.bs = l := ⟨_, rfl⟩
            rw [hl] at hT hlen hps
            obtain ⟨n1, hn1⟩ : ∃ n, l.length = n := ⟨_, rfl⟩
            rw [hn1] at hT hlen hps
            have HPS := Lib.hid hps
            have HTT := Lib.hid (And.intro hT hn1)
            have n0 : (0 : Int) ≤ (n1 : Int) := Int.natCast_nonneg _
            have n1' : (n1 : Int) < 1000000 := by omega
            clear hps hT hoc hl hn1 hlen
            go_wp2_with fail
            (with_reducible refine HPS.out.mono ?_)
            rintro e wl ⟨Ap, Cp, rfl, hrow, hup⟩
            have HL := Lib.hid (And.intro (See.of_row hrow) (And.intro hup (HM1.out.2.2.upd0 hup)))
            clear hrow hup
            go_wp2_with fail
            go_loopg [8, 9, 73] n1 (fun m s8 s9 s31 wr => ∃ (k : Nat) (b : Bool), m + k = n1 ∧ s31 = .int .i64 (k : Int) ∧ s9 = .int .i64 (k : Int) ∧ s8 = .bool b ∧ b = (findK Bx.id (l.take k) oi).isSome ∧ Upd [] wl wr)
            case atStart => exact ⟨0, false, rfl, rfl, rfl, rfl, rfl, Upd.refl _ _⟩
            case round =>
              obtain ⟨k, b, hk, rfl, rfl, rfl, hb, hu⟩ := hrel
              have HK := Lib.hid (And.intro hk (And.intro hb hu))
              have k0 : (0 : Int) ≤ (k : Int) := Int.natCast_nonneg _
              have k3 : (k : Int) < 2000000 := by omega
              by_cases hlt : k < n1
              · have i1 : (k : Int) < (n1 : Int) := by omega
                obtain ⟨y, hy⟩ : ∃ y, l[k]? = some y := ⟨_, List.getElem?_eq_getElem (by rw [HTT.out.2]; exact hlt)⟩
                obtain ⟨g, og, hA, -, -, c0, c1, c2, c3, c4⟩ := KBx.at (HL.out.1.upd0 hu) hy
                subst hA
                have HLT := Lib.hid (And.intro hlt (And.intro (find_step (key := Bx.id) hy oi) (HL.out.2.2.upd0 hu)))
                clear hk hb hu hlt hy
                go_upto_region 28 with fail
                have HE := Lib.hid (show HpC (wr.alloc (.cells #[.int .i64 y.x1, .int .i64 y.x2, .int .i64 y.y1, .int .i64 y.y2, .int .u32 (y.id : Int)] 43)) wr.heap.size #[.int .i64 y.x1, .int .i64 y.x2, .int .i64 y.y1, .int .i64 y.y2, .int .u32 (y.id : Int)] 43 from heap_alloc_new wr _)
                have HU := Lib.hid (HK.out.2.2.alloc (.cells #[.int .i64 y.x1, .int .i64 y.x2, .int .i64 y.y1, .int .i64 y.y2, .int .u32 (y.id : Int)] 43))
                have HCo := Lib.hid (HLT.out.2.2.upd0 ((Upd.refl [] wr).alloc (.cells #[.int .i64 y.x1, .int .i64 y.x2, .int .i64 y.y1, .int .i64 y.y2, .int .u32 (y.id : Int)] 43)))
                clear c0 c1 c2 c3 c4
                generalize (wr.alloc (.cells #[.int .i64 y.x1, .int .i64 y.x2, .int .i64 y.y1, .int .i64 y.y2, .int .u32 (y.id : Int)] 43)) = wa at HE HU HCo ⊢
                generalize wr.heap.size = qa at HE ⊢
                have e5 := HE.out.cell 4
                simp only [List.getElem?_toArray, List.getElem?_cons_zero, List.getElem?_cons_succ] at e5
                have o5 := HCo.out 5 _ rfl
                cases b with
                | true =>
                  have hb2 : true = (findK Bx.id (l.take (k + 1)) oi).isSome := by rw [HLT.out.2.1, ← HK.out.2.1]; rfl
                  have HB2 := Lib.hid hb2
                  clear hb2
                  go_wp2_with fail
                  go_roundg (n1 - (k + 1))
                  case measure => have := HK.out.1; have := HLT.out.1; omega
                  case rel => exact ⟨k + 1, true, by have := HK.out.1; have := HLT.out.1; omega, by go_num, by go_num, rfl, HB2.out, HU.out⟩
                | false =>
                  obtain ⟨q, hq⟩ : ∃ q, ((y.id : Int) == (oi : Int)) = q := ⟨_, rfl⟩
                  have hb2 : q = (findK Bx.id (l.take (k + 1)) oi).isSome := by
                    rw [HLT.out.2.1, ← HK.out.2.1, Bool.false_or, ← hq]
                    by_cases e : y.id = oi
                    · rw [e]
                      rw [beq_self_eq_true, beq_self_eq_true]
                    · have e' : ¬ ((y.id : Int) = (oi : Int)) := by omega
                      rw [beq_eq_false_iff_ne.2 e, beq_eq_false_iff_ne.2 e']
                  have HB2 := Lib.hid hb2
                  clear hb2
                  go_wp2_with fail
                  go_roundg (n1 - (k + 1))
                  case measure => have := HK.out.1; have := HLT.out.1; omega
                  case rel => exact ⟨k + 1, q, by have := HK.out.1; have := HLT.out.1; omega, by go_num, by go_num, rfl, HB2.out, HU.out⟩
              · have ek : k = n1 := by omega
                subst ek
                have hTb : b = T := by rw [hb, ← HTT.out.1.1, List.take_of_length_le (by rw [HTT.out.2]; exact Nat.le_refl _)]
                have hYk : k = Y := HTT.out.1.2
                have HE := Lib.hid (And.intro hTb (And.intro hYk (HL.out.2.1.trans hu)))
                clear hk hb hu hlt hTb hYk
                go_wp2_with fail
                go_meet
                case rel => exact ⟨by rw [HE.out.1], by rw [HE.out.2.1], HE.out.2.2⟩
        | false =>
          have HNOB := Lib.hid (of_decide_eq_false hq)
          clear hq
          have hT := HT.out
          unfold thereM manyM at hT
          dsimp only at hT
          rw [if_neg HNOP.out, if_neg HNOS.out, if_neg HNOB.out, if_neg HNOP.out, if_neg HNOS.out, if_neg HNOB.out] at hT
          have HTT := Lib.hid hT
          clear hT
          go_wp2_with fail
          go_meet
          case rel => exact ⟨by rw [← HTT.out.1], by rw [← HTT.out.2]; rfl, Upd.refl _ _⟩
  obtain ⟨rfl, rfl, huc⟩ := hcut
  have HC := Lib.hid (And.intro (HM1.out.1.upd0 huc) (And.intro (HM1.out.2.1.trans huc) (HM1.out.2.2.upd0 huc)))
  clear huc
  go_upto_block 7 with fail
  go_cut [16] (fun s16 wd => s16 = .int .i64 (W : Int) ∧ wc = wd)
  case first =>
    have o0 := HC.out.2.2 0 _ rfl
    have o1 := HC.out.2.2 1 _ rfl
    have o2 := HC.out.2.2 2 _ rfl
    have o3 := HC.out.2.2 3 _ rfl
    have o4 := HC.out.2.2 4 _ rfl
    rw [HCC.out] at o0
    have hw1 : Value.int .i64 (wrap64 (1 + (room : Int))) = Value.int .i64 (1 + (room : Int)) := by rw [IntWalk.wrap64_in _ ⟨by omega, by omega⟩]
    obtain ⟨d0, hd0⟩ : ∃ d, decide (oc = 0 ∨ 20 < oc) = d := ⟨_, rfl⟩
    obtain ⟨d1, hd1⟩ : ∃ d, decide ((oc = 2 ∧ ob < oa) ∨ (oc = 3 ∧ (ob < oa ∨ od < occ))) = d := ⟨_, rfl⟩
    obtain ⟨d2, hd2⟩ : ∃ d, (decide (oc ≤ 3) && T) = d := ⟨_, rfl⟩
    obtain ⟨d3, hd3⟩ : ∃ d, decide (oc ≤ 3 ∧ Y = 1 + room) = d := ⟨_, rfl⟩
    obtain ⟨d4, hd4⟩ : ∃ d, (decide (3 < oc ∧ oc ≤ 6) && !T) = d := ⟨_, rfl⟩
    have HWD := Lib.hid (show (bif d0 then 260 else bif d1 then 261 else bif d2 then 262 else bif d3 then 5 else bif d4 then 263 else 0) = W by rw [← HW.out, ← hd0, ← hd1, ← hd2, ← hd3, ← hd4]; exact (wantV_bif oc oa ob occ od T Y (1 + room)).symm)
    clear HW
    have HD0 := Lib.hid hd0
    clear hd0
    by_cases h0 : c = 0
    · have e : (c == 0) = true := beq_iff_eq.2 h0
      have hh0 : d0 = true := by rw [← HD0.out]; have := HCC.out; exact decide_eq_true (by omega)
      subst hh0
      clear h0 hd1 hd2 hd3 hd4
      as_aux_lemma =>
        have HWW := Lib.hid (show 260 = W from HWD.out)
        clear HWD 
        go_wp2_with fail
        go_meet
        case rel => exact ⟨by rw [← HWW.out]; rfl, rfl⟩
    · have e : (c == 0) = false := beq_eq_false_iff_ne.2 h0
      by_cases h20 : 20 < c
      · have e2 : decide (20 < c) = true := decide_eq_true h20
        have hh0 : d0 = true := by rw [← HD0.out]; have := HCC.out; exact decide_eq_true (by omega)
        subst hh0
        clear h0 h20 hd1 hd2 hd3 hd4
        as_aux_lemma =>
          have HWW := Lib.hid (show 260 = W from HWD.out)
          clear HWD 
          go_wp2_with fail
          go_meet
          case rel => exact ⟨by rw [← HWW.out]; rfl, rfl⟩
      · have e2 : decide (20 < c) = false := decide_eq_false h20
        have hh0 : d0 = false := by rw [← HD0.out]; have := HCC.out; exact decide_eq_false (by omega)
        subst hh0
        clear h0 h20
        go_upto_region 33 with fail
        go_cut [97] (fun sk we => sk = .bool d1 ∧ wc = we)
        case first =>
          have HD := Lib.hid hd1
          clear hd1 hd2 hd3 hd4
          by_cases h2 : c = 2
          · have e : (c == 2) = true := beq_iff_eq.2 h2
            have e3 : (c == 3) = false := beq_eq_false_iff_ne.2 (by omega)
            by_cases hab : ob < oa
            · have dab : decide (ob < oa) = true := decide_eq_true hab
              have hh : d1 = true := by rw [← HD.out]; have := HCC.out; exact decide_eq_true (by omega)
              subst hh
              clear h2 hab
              as_aux_lemma =>
                go_wp2_with fail
                go_meet
                case rel => exact ⟨rfl, rfl⟩
            · have dab : decide (ob < oa) = false := decide_eq_false hab
              have hh : d1 = false := by rw [← HD.out]; have := HCC.out; exact decide_eq_false (by omega)
              subst hh
              clear h2 hab
              as_aux_lemma =>
                go_wp2_with fail
                go_meet
                case rel => exact ⟨rfl, rfl⟩
          · have e : (c == 2) = false := beq_eq_false_iff_ne.2 h2
            by_cases h3 : c = 3
            · have e3 : (c == 3) = true := beq_iff_eq.2 h3
              by_cases hab : ob < oa
              · have dab : decide (ob < oa) = true := decide_eq_true hab
                have hh : d1 = true := by rw [← HD.out]; have := HCC.out; exact decide_eq_true (by omega)
                subst hh
                clear h2 h3 hab
                as_aux_lemma =>
                  go_wp2_with fail
                  go_meet
                  case rel => exact ⟨rfl, rfl⟩
              · have dab : decide (ob < oa) = false := decide_eq_false hab
                by_cases hcd : od < occ
                · have dcd : decide (od < occ) = true := decide_eq_true hcd
                  have hh : d1 = true := by rw [← HD.out]; have := HCC.out; exact decide_eq_true (by omega)
                  subst hh
                  clear h2 h3 hab hcd
                  as_aux_lemma =>
                    go_wp2_with fail
                    go_meet
                    case rel => exact ⟨rfl, rfl⟩
                · have dcd : decide (od < occ) = false := decide_eq_false hcd
                  have hh : d1 = false := by rw [← HD.out]; have := HCC.out; exact decide_eq_false (by omega)
                  subst hh
                  clear h2 h3 hab hcd
                  as_aux_lemma =>
                    go_wp2_with fail
                    go_meet
                    case rel => exact ⟨rfl, rfl⟩
            · have e3 : (c == 3) = false := beq_eq_false_iff_ne.2 h3
              have hh : d1 = false := by rw [← HD.out]; have := HCC.out; exact decide_eq_false (by omega)
              subst hh
              clear h2 h3
              as_aux_lemma =>
                go_wp2_with fail
                go_meet
                case rel => exact ⟨rfl, rfl⟩
        obtain ⟨rfl, rfl⟩ := hcut
        clear hd1
        cases d1 with
        | true =>
          as_aux_lemma =>
            have HWW := Lib.hid (show 261 = W from HWD.out)
            clear HWD hd2 hd3 hd4
            go_wp2_with fail
            go_meet
            case rel => exact ⟨by rw [← HWW.out]; rfl, rfl⟩
        | false =>
          have HD2 := Lib.hid hd2
          have HD3 := Lib.hid hd3
          have HD4 := Lib.hid hd4
          clear hd2 hd3 hd4
          by_cases h3 : c ≤ 3
          · have e : decide (c ≤ 3) = true := decide_eq_true h3
            have e3 : decide (3 < c) = false := decide_eq_false (by omega)
            have hh : d2 = T := by rw [← HD2.out, decide_eq_true (show oc ≤ 3 by have := HCC.out; omega), Bool.true_and]
            subst hh
            have hh4 : d4 = false := by rw [← HD4.out, decide_eq_false (show ¬ (3 < oc ∧ oc ≤ 6) by have := HCC.out; omega), Bool.false_and]
            subst hh4
            obtain ⟨qr, hqr⟩ : ∃ q, ((Y : Int) == 1 + (room : Int)) = q := ⟨_, rfl⟩
            have hh3 : d3 = qr := by
              rw [← HD3.out, ← hqr]
              have := HCC.out
              by_cases hy : (Y : Int) = 1 + (room : Int)
              · rw [beq_iff_eq.2 hy]; exact decide_eq_true ⟨by omega, by omega⟩
              · rw [beq_eq_false_iff_ne.2 hy]; exact decide_eq_false (by omega)
            subst hh3
            clear h3
            cases d2 with
            | true =>
              as_aux_lemma =>
                have HWW := Lib.hid (show 262 = W from HWD.out)
                clear HWD 
                go_wp2_with fail
                go_meet
                case rel => exact ⟨by rw [← HWW.out]; rfl, rfl⟩
            | false =>
              cases d3 with
              | true =>
                as_aux_lemma =>
                  have HWW := Lib.hid (show 5 = W from HWD.out)
                  clear HWD 
                  go_wp2_with fail
                  go_meet
                  case rel => exact ⟨by rw [← HWW.out]; rfl, rfl⟩
              | false =>
                as_aux_lemma =>
                  have HWW := Lib.hid (show 0 = W from HWD.out)
                  clear HWD 
                  go_wp2_with fail
                  go_meet
                  case rel => exact ⟨by rw [← HWW.out]; rfl, rfl⟩
          · have e : decide (c ≤ 3) = false := decide_eq_false h3
            have hh : d2 = false := by rw [← HD2.out, decide_eq_false (show ¬ oc ≤ 3 by have := HCC.out; omega), Bool.false_and]
            subst hh
            have hh3 : d3 = false := by rw [← HD3.out]; have := HCC.out; exact decide_eq_false (by omega)
            subst hh3
            have e3 : decide (3 < c) = true := decide_eq_true (by omega)
            by_cases h6 : c ≤ 6
            · have e6 : decide (c ≤ 6) = true := decide_eq_true h6
              have hh4 : d4 = !T := by rw [← HD4.out, decide_eq_true (show 3 < oc ∧ oc ≤ 6 by have := HCC.out; omega), Bool.true_and]
              subst hh4
              clear h3 h6
              cases T with
              | true =>
                as_aux_lemma =>
                  have HWW := Lib.hid (show 0 = W from HWD.out)
                  clear HWD 
                  go_wp2_with fail
                  go_meet
                  case rel => exact ⟨by rw [← HWW.out]; rfl, rfl⟩
              | false =>
                as_aux_lemma =>
                  have HWW := Lib.hid (show 263 = W from HWD.out)
                  clear HWD 
                  go_wp2_with fail
                  go_meet
                  case rel => exact ⟨by rw [← HWW.out]; rfl, rfl⟩
            · have e6 : decide (c ≤ 6) = false := decide_eq_false h6
              have hh4 : d4 = false := by rw [← HD4.out, decide_eq_false (show ¬ (3 < oc ∧ oc ≤ 6) by have := HCC.out; omega), Bool.false_and]
              subst hh4
              clear h3 h6
              as_aux_lemma =>
                have HWW := Lib.hid (show 0 = W from HWD.out)
                clear HWD 
                go_wp2_with fail
                go_meet
                case rel => exact ⟨by rw [← HWW.out]; rfl, rfl⟩
  obtain ⟨rfl, rfl⟩ := hcut
  have o0 := HC.out.2.2 0 _ rfl
  have o1 := HC.out.2.2 1 _ rfl
  have o2 := HC.out.2.2 2 _ rfl
  have o3 := HC.out.2.2 3 _ rfl
  have o4 := HC.out.2.2 4 _ rfl
  have o5 := HC.out.2.2 5 _ rfl
  have hdo := doMM ar HC.out.1 (by decide) ⟨oc, oa, ob, occ, od, oi⟩ HO.out
  rw [HZ.out] at hdo
  unfold opV at hdo
  dsimp only at hdo
  have HDO := Lib.hid hdo
  clear hdo r0 r1
  go_wp2_with fail
  (with_reducible refine HDO.out.mono ?_)
  rintro e w3 ⟨⟨u, rfl, hre⟩, hmm, hup⟩
  have HR3 := Lib.hid (And.intro hre (And.intro hmm hup))
  clear hre hmm hup o0 o1 o2 o3 o4 o5 HDO
  obtain ⟨Az, Cz, hz, lz, hve, -⟩ := HR3.out.1
  unfold repV at hve
  subst hve
  go_upto_region 42 with fail
  have HRP := Lib.hid (show RpAt (w3.alloc (.cells #[.int .i64 (z.err : Int), .slice Az z.ids.length Cz, .int .i64 (z.cnt : Int), .bool z.yes, .int .u64 (hz : Int), .int .u64 (lz : Int)] 34)) w3.heap.size #[.int .i64 (z.err : Int), .slice Az z.ids.length Cz, .int .i64 (z.cnt : Int), .bool z.yes, .int .u64 (hz : Int), .int .u64 (lz : Int)] from heap_alloc_new w3 _)
  have HCo4 := Lib.hid (((HC.out.2.2.upd HR3.out.2.2 HB.out.1)).upd0 ((Upd.refl [] w3).alloc (.cells #[.int .i64 (z.err : Int), .slice Az z.ids.length Cz, .int .i64 (z.cnt : Int), .bool z.yes, .int .u64 (hz : Int), .int .u64 (lz : Int)] 34)))
  have HU4 := Lib.hid ((HC.out.2.1.trans' HR3.out.2.2 (fun y hy => .inr (by have := HB.out; simp only [List.mem_cons, List.not_mem_nil, or_false] at hy; omega))).alloc (.cells #[.int .i64 (z.err : Int), .slice Az z.ids.length Cz, .int .i64 (z.cnt : Int), .bool z.yes, .int .u64 (hz : Int), .int .u64 (lz : Int)] 34))
  clear HC HR3
  generalize (w3.alloc (.cells #[.int .i64 (z.err : Int), .slice Az z.ids.length Cz, .int .i64 (z.cnt : Int), .bool z.yes, .int .u64 (hz : Int), .int .u64 (lz : Int)] 34)) = W4 at HRP HCo4 HU4 ⊢
  generalize w3.heap.size = q at HRP ⊢
  have r0 := HRP.out.cell 0
  have r2 := HRP.out.cell 2
  simp only [List.getElem?_toArray, List.getElem?_cons_zero, List.getElem?_cons_succ] at r0 r2
  have o0 := HCo4.out 0 _ rfl
  rw [HCC.out] at o0
  have e1 := HWANT.out.1
  rw [e1] at r0
  clear e1
  have dW : ((W : Int) != (W : Int)) = false := by simp
  have yb : Y < 1000 := by
    have h1 := HT.out.2
    have h2 := HM1.out.1.small
    unfold manyM at h1
    dsimp only at h1
    repeat' split at h1
    all_goals omega
  have y0 : (0 : Int) ≤ (Y : Int) := Int.natCast_nonneg _
  have y1 : (Y : Int) < 1000 := by omega
  have HY := Lib.hid yb
  clear yb
  by_cases hW0 : W = 0
  · subst hW0
    have d0 : (((0 : Nat) : Int) != 0) = false := rfl
    by_cases h6 : 6 < c
    · have d6 : decide (6 < c) = true := decide_eq_true h6
      clear h6
      as_aux_lemma =>
        go_wp2_with fail
        (with_reducible refine (awake26 ar _).mono ?_)
        rintro e w7 ⟨rfl, hu7⟩
        have HU7 := Lib.hid hu7
        clear hu7
        go_wp2_with fail
        go_ret
        exact ⟨rfl, HU4.out.trans HU7.out⟩
    · have d6 : decide (6 < c) = false := decide_eq_false h6
      by_cases h3 : c ≤ 3
      · have d3 : decide (c ≤ 3) = true := decide_eq_true h3
        have e2 := HWANT.out.2.1 rfl (by have := HCC.out; omega)
        rw [e2] at r2
        rw [show ((Y + 1 : Nat) : Int) = (Y : Int) + 1 from rfl] at r2
        clear h6 h3 e2
        as_aux_lemma =>
          go_wp2_with fail
          (with_reducible refine (awake26 ar _).mono ?_)
          rintro e w7 ⟨rfl, hu7⟩
          have HU7 := Lib.hid hu7
          clear hu7
          go_wp2_with fail
          go_ret
          exact ⟨rfl, HU4.out.trans HU7.out⟩
      · have d3 : decide (c ≤ 3) = false := decide_eq_false h3
        have e2 := HWANT.out.2.2 rfl (by have := HCC.out; omega) (by have := HCC.out; omega)
        rw [e2.1] at r2
        rw [show ((Y - 1 : Nat) : Int) = (Y : Int) - 1 by have := e2.2; omega] at r2
        clear h6 h3 e2
        as_aux_lemma =>
          go_wp2_with fail
          (with_reducible refine (awake26 ar _).mono ?_)
          rintro e w7 ⟨rfl, hu7⟩
          have HU7 := Lib.hid hu7
          clear hu7
          go_wp2_with fail
          go_ret
          exact ⟨rfl, HU4.out.trans HU7.out⟩
  · have d0 : ((W : Int) != 0) = true := bne_iff_ne.2 (by omega)
    clear hW0
    as_aux_lemma =>
      go_wp2_with fail
      (with_reducible refine (awake26 ar _).mono ?_)
      rintro e w7 ⟨rfl, hu7⟩
      have HU7 := Lib.hid hu7
      clear hu7
      go_wp2_with fail
      go_ret
      exact ⟨rfl, HU4.out.trans HU7.out⟩
end Go.Proofs.YthnbgfnclpkdjaaGreat
