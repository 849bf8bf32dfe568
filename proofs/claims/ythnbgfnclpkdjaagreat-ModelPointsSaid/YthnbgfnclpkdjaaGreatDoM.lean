/- model.Do: an operation. Printed by mkdom.py. -/
import Derived.Test.YthnbgfnclpkdjaaGreatOthM
namespace Go.Proofs.YthnbgfnclpkdjaaGreat
open Go.RowKit

/-- A reply stands, though another reply's block is written. -/
theorem RepAt.updQ {w w' : World} {v : Value} {r : RepP} {q : Nat} (h : RepAt w v r) (hq : RpAt w q repZ) (hu : Upd [q] w w') : RepAt w' v r := by
  obtain ⟨A, C, hi, lo, h1, h2, h3⟩ := h
  refine ⟨A, C, hi, lo, h1, h2.upd hu (fun hn k hk _ hc => ?_), h3⟩
  rcases hl : r.ids with _ | ⟨x, l⟩
  · rw [hl] at hn; simp at hn
  · have hx : r.ids[0]? = some x := by rw [hl]; rfl
    obtain ⟨b, o, rfl, _, _, hcell⟩ := See.at h2 hx
    simp only [blk, List.mem_singleton] at hk hc
    subst hk
    subst hc
    have := hcell 0 (.int .u32 (x : Int)) rfl
    rw [hq.cell] at this
    generalize o + 0 * KU.sz + 0 = j at this
    rcases j with _ | _ | _ | _ | _ | _ | j <;> simp [repZ] at this

theorem ChgPost.updQ {w w1 w2 : World} {h p s x q : Nat} {r : Md × RepP} {v : Value} {e : Ending} (g : ChgPost w h p s x r e w1) (he : e = .returned v) (hqw : w.heap.size ≤ q) (hq : RpAt w1 q repZ) (hu : Upd [q] w1 w2) (hh : h < w.heap.size) (hp : p < w.heap.size) (hs : s < w.heap.size) (hx : x < w.heap.size) : ChgPost w h p s x r (.returned v) w2 := by
  obtain ⟨⟨v', e', hr⟩, hm, hup⟩ := g
  rw [he] at e'
  cases e'
  exact ⟨⟨v, rfl, hr.updQ hq hu⟩, hm.upd hu (by simp; omega) (by simp; omega) (by simp; omega) (by simp; omega), hup.trans' hu (fun k hk => .inr (by simp at hk; omega))⟩

set_option maxRecDepth 100000 in
set_option maxHeartbeats 8000000 in
theorem doC {A R : List Bx → Nat} (hA : WideOf 83 A) (hR : WideOf 84 R) {w : World} {h p s x : Nat} {m : Md} (g : MdAt w h p s x m) (g64 : m.in64) (o : OpP) (hid : o.id < 4294967296) (hp : m.ps.length < 1000000) (hs : m.ss.length < 1000000) (hb : m.bs.length < 1000000) :
    Calls Tryz.prog 13 #[.pointer (some ⟨h, 0, none⟩), opV o] w (ChgPost w h p s x (doM A R m o)) := by
  have hch := fun (w' : World) (hu : Upd [] w w') (ho : 1 ≤ o.code ∧ o.code ≤ 6) => changeC (g.upd0 hu) o hid hp hs hb ho
  have hpt := fun (w' : World) (hu : Upd [] w w') (ho : 7 ≤ o.code ∧ o.code ≤ 14) => pointC (g.upd0 hu) o hp ho
  have hot := fun (w' : World) (hu : Upd [] w w') (ho : 15 ≤ o.code ∧ o.code ≤ 20) => otherC hA hR (g.upd0 hu) g64 o hs hb ho
  have HL := Lib.hid (And.intro (lt_of_block g.head) (And.intro g.ps.lt (And.intro g.ss.lt g.bs.lt)))
  have HG := Lib.hid g
  clear g hid hp hs hb hA hR g64
  obtain ⟨⟨m2, z⟩, hr⟩ : ∃ r, doM A R m o = r := ⟨_, rfl⟩
  rw [hr]
  have HR := Lib.hid hr
  clear hr
  obtain ⟨oc, oa, ob, occ, od, oi⟩ := o
  unfold opV at hch hpt hot ⊢
  dsimp only at hch hpt hot ⊢
  obtain ⟨c, hc⟩ : ∃ c : Int, (oc : Int) = c := ⟨_, rfl⟩
  rw [hc] at hch hpt hot ⊢
  have HCC := Lib.hid hc
  have HCH := Lib.hid hch
  have HPT := Lib.hid hpt
  have HOT := Lib.hid hot
  clear hc hch hpt hot
  go_enter Tryz.func13, Tryz.ntmps13
  go_upto_block 0 with fail
  have hcl : CelB ((w.alloc (.cells #[.int .u8 c, .int .i64 oa, .int .i64 ob, .int .i64 occ, .int .i64 od, .int .u32 (oi : Int)] 25)).alloc (.cells repZ 34)) w.heap.size [.int .u8 c, .int .i64 oa, .int .i64 ob, .int .i64 occ, .int .i64 od, .int .u32 (oi : Int)] := (CelB.of_heap (heap_alloc_new w (.cells #[.int .u8 c, .int .i64 oa, .int .i64 ob, .int .i64 occ, .int .i64 od, .int .u32 (oi : Int)] 25))).upd0 ((Upd.refl [] _).alloc _)
  have hrp : RpAt ((w.alloc (.cells #[.int .u8 c, .int .i64 oa, .int .i64 ob, .int .i64 occ, .int .i64 od, .int .u32 (oi : Int)] 25)).alloc (.cells repZ 34)) (w.heap.size + 1) repZ := by have := heap_alloc_new (w.alloc (.cells #[.int .u8 c, .int .i64 oa, .int .i64 ob, .int .i64 occ, .int .i64 od, .int .u32 (oi : Int)] 25)) (.cells repZ 34); unfold RpAt; simpa using this
  have hu : Upd [] w ((w.alloc (.cells #[.int .u8 c, .int .i64 oa, .int .i64 ob, .int .i64 occ, .int .i64 od, .int .u32 (oi : Int)] 25)).alloc (.cells repZ 34)) := ((Upd.refl [] _).alloc _).alloc _
  generalize ((w.alloc (.cells #[.int .u8 c, .int .i64 oa, .int .i64 ob, .int .i64 occ, .int .i64 od, .int .u32 (oi : Int)] 25)).alloc (.cells repZ 34)) = W at hcl hrp hu ⊢
  have hmd := HG.out.upd0 hu
  have HF := Lib.hid (And.intro hcl (And.intro hrp (And.intro hu hmd)))
  have o0 := hcl 0 _ rfl
  have o1 := hcl 1 _ rfl
  have o2 := hcl 2 _ rfl
  have o3 := hcl 3 _ rfl
  have o4 := hcl 4 _ rfl
  have o5 := hcl 5 _ rfl
  have hno := noneMC hmd
  have HNO := Lib.hid hno
  clear hcl hrp hu hmd hno
  have hc0 : 0 ≤ c := by have := HCC.out; omega
  by_cases h1 : c < 1
  · have d1 : decide (c < 1) = true := decide_eq_true h1
    have hr := HR.out
    unfold doM at hr
    have hcc := HCC.out
    rw [if_pos (by dsimp only; omega)] at hr
    have HRR := Lib.hid hr
    clear hr hc0 hcc
    go_upto_region 4 with (go_at_call 34; refine HNO.out.mono ?_; rintro e w' ⟨rfl, rfl⟩)
    clear o0 o1 o2 o3 o4 o5
    have HRP := Lib.hid HF.out.2.1
    have f0 : (W).frozen? ⟨w.heap.size + 1, 0, none⟩ = false := HRP.out.frozen 0
    have f1 : (W).frozen? ⟨w.heap.size + 1, 1, none⟩ = false := HRP.out.frozen 1
    have f2 : (W).frozen? ⟨w.heap.size + 1, 2, none⟩ = false := HRP.out.frozen 2
    have f3 : (W).frozen? ⟨w.heap.size + 1, 3, none⟩ = false := HRP.out.frozen 3
    have f4 : (W).frozen? ⟨w.heap.size + 1, 4, none⟩ = false := HRP.out.frozen 4
    have f5 : (W).frozen? ⟨w.heap.size + 1, 5, none⟩ = false := HRP.out.frozen 5
    have c0 : (W).cell? ⟨w.heap.size + 1, 0, none⟩ = some (.int .i64 0) := HRP.out.cell 0
    have c1 : (W).cell? ⟨w.heap.size + 1, 1, none⟩ = some (.slice none 0 0) := HRP.out.cell 1
    have c2 : (W).cell? ⟨w.heap.size + 1, 2, none⟩ = some (.int .i64 0) := HRP.out.cell 2
    have c3 : (W).cell? ⟨w.heap.size + 1, 3, none⟩ = some (.bool false) := HRP.out.cell 3
    have c4 : (W).cell? ⟨w.heap.size + 1, 4, none⟩ = some (.int .u64 0) := HRP.out.cell 4
    have c5 : (W).cell? ⟨w.heap.size + 1, 5, none⟩ = some (.int .u64 0) := HRP.out.cell 5
    have HP := Lib.hid (And.intro (HRP.out.put (.int .i64 260) (.slice none 0 0) (.int .i64 0) (.bool false) (.int .u64 0) (.int .u64 0)) (upd_put (q := w.heap.size + 1) (Upd.refl [w.heap.size + 1] (W)) (.inl (by simp)) (.int .i64 260) (.slice none 0 0) (.int .i64 0) (.bool false) (.int .u64 0) (.int .u64 0)))
    go_wp2_with fail
    have y0 := HP.out.1.cell 0
    have y1 := HP.out.1.cell 1
    have y2 := HP.out.1.cell 2
    have y3 := HP.out.1.cell 3
    have y4 := HP.out.1.cell 4
    have y5 := HP.out.1.cell 5
    simp only [List.getElem?_toArray, List.getElem?_cons_zero, List.getElem?_cons_succ] at y0 y1 y2 y3 y4 y5
    refine bodyPost_ret (v := repV 260 0 false (.slice none 0 0) 0 0) ?_ rfl ?_
    · simp [repV, results, Tryz.results13, go_sem, y0, y1, y2, y3, y4, y5]
    · rw [← HRR.out]
      exact ⟨⟨_, rfl, repAt_err _ 260⟩, HF.out.2.2.2.upd HP.out.2 (by have := HL.out; simp; omega) (by have := HL.out; simp; omega) (by have := HL.out; simp; omega) (by have := HL.out; simp; omega), (HF.out.2.2.1.trans' HP.out.2 (fun k hk => .inr (by simp at hk; omega))).mono (by simp)⟩
  · have d1 : decide (c < 1) = false := decide_eq_false h1
    by_cases h2 : 20 < c
    · have d2 : decide (20 < c) = true := decide_eq_true h2
      have hr := HR.out
      unfold doM at hr
      have hcc := HCC.out
      rw [if_pos (by dsimp only; omega)] at hr
      have HRR := Lib.hid hr
      clear hr hc0 hcc
      go_upto_region 4 with (go_at_call 34; refine HNO.out.mono ?_; rintro e w' ⟨rfl, rfl⟩)
      clear o0 o1 o2 o3 o4 o5
      have HRP := Lib.hid HF.out.2.1
      have f0 : (W).frozen? ⟨w.heap.size + 1, 0, none⟩ = false := HRP.out.frozen 0
      have f1 : (W).frozen? ⟨w.heap.size + 1, 1, none⟩ = false := HRP.out.frozen 1
      have f2 : (W).frozen? ⟨w.heap.size + 1, 2, none⟩ = false := HRP.out.frozen 2
      have f3 : (W).frozen? ⟨w.heap.size + 1, 3, none⟩ = false := HRP.out.frozen 3
      have f4 : (W).frozen? ⟨w.heap.size + 1, 4, none⟩ = false := HRP.out.frozen 4
      have f5 : (W).frozen? ⟨w.heap.size + 1, 5, none⟩ = false := HRP.out.frozen 5
      have c0 : (W).cell? ⟨w.heap.size + 1, 0, none⟩ = some (.int .i64 0) := HRP.out.cell 0
      have c1 : (W).cell? ⟨w.heap.size + 1, 1, none⟩ = some (.slice none 0 0) := HRP.out.cell 1
      have c2 : (W).cell? ⟨w.heap.size + 1, 2, none⟩ = some (.int .i64 0) := HRP.out.cell 2
      have c3 : (W).cell? ⟨w.heap.size + 1, 3, none⟩ = some (.bool false) := HRP.out.cell 3
      have c4 : (W).cell? ⟨w.heap.size + 1, 4, none⟩ = some (.int .u64 0) := HRP.out.cell 4
      have c5 : (W).cell? ⟨w.heap.size + 1, 5, none⟩ = some (.int .u64 0) := HRP.out.cell 5
      have HP := Lib.hid (And.intro (HRP.out.put (.int .i64 260) (.slice none 0 0) (.int .i64 0) (.bool false) (.int .u64 0) (.int .u64 0)) (upd_put (q := w.heap.size + 1) (Upd.refl [w.heap.size + 1] (W)) (.inl (by simp)) (.int .i64 260) (.slice none 0 0) (.int .i64 0) (.bool false) (.int .u64 0) (.int .u64 0)))
      go_wp2_with fail
      have y0 := HP.out.1.cell 0
      have y1 := HP.out.1.cell 1
      have y2 := HP.out.1.cell 2
      have y3 := HP.out.1.cell 3
      have y4 := HP.out.1.cell 4
      have y5 := HP.out.1.cell 5
      simp only [List.getElem?_toArray, List.getElem?_cons_zero, List.getElem?_cons_succ] at y0 y1 y2 y3 y4 y5
      refine bodyPost_ret (v := repV 260 0 false (.slice none 0 0) 0 0) ?_ rfl ?_
      · simp [repV, results, Tryz.results13, go_sem, y0, y1, y2, y3, y4, y5]
      · rw [← HRR.out]
        exact ⟨⟨_, rfl, repAt_err _ 260⟩, HF.out.2.2.2.upd HP.out.2 (by have := HL.out; simp; omega) (by have := HL.out; simp; omega) (by have := HL.out; simp; omega) (by have := HL.out; simp; omega), (HF.out.2.2.1.trans' HP.out.2 (fun k hk => .inr (by simp at hk; omega))).mono (by simp)⟩
    · have d2 : decide (20 < c) = false := decide_eq_false h2
      by_cases h3 : c ≤ 6
      · have d3 : decide (c ≤ 6) = true := decide_eq_true h3
        have hr := HR.out
        unfold doM at hr
        have hcc := HCC.out
        rw [if_neg (by dsimp only; omega), if_pos (by dsimp only; omega)] at hr
        skip
        have hcall := HCH.out _ HF.out.2.2.1 (by omega)
        unfold ChgPost at hcall
        rw [hr] at hcall
        dsimp only at hcall
        have HCALL := Lib.hid hcall
        clear hr
        clear hcall hc0 hcc
        go_upto_region 6 with (go_at_call 34; refine HNO.out.mono ?_; rintro e w' ⟨rfl, rfl⟩)
        go_wp2_with fail
        (with_reducible refine HCALL.out.mono ?_)
        rintro e w8 ⟨⟨v, rfl, hre⟩, hmp, hup⟩
        have HV := Lib.hid (And.intro hre (And.intro hmp hup))
        clear hre hmp hup
        clear o0 o1 o2 o3 o4 o5
        obtain ⟨Av, Cv, hv, lv, hve, hrest⟩ := HV.out.1
        clear hrest
        unfold repV at hve
        subst hve
        have HRP := Lib.hid (RpAt.upd HF.out.2.1 HV.out.2.2 (by have := HL.out; simp; omega))
        have f0 : (w8).frozen? ⟨w.heap.size + 1, 0, none⟩ = false := HRP.out.frozen 0
        have f1 : (w8).frozen? ⟨w.heap.size + 1, 1, none⟩ = false := HRP.out.frozen 1
        have f2 : (w8).frozen? ⟨w.heap.size + 1, 2, none⟩ = false := HRP.out.frozen 2
        have f3 : (w8).frozen? ⟨w.heap.size + 1, 3, none⟩ = false := HRP.out.frozen 3
        have f4 : (w8).frozen? ⟨w.heap.size + 1, 4, none⟩ = false := HRP.out.frozen 4
        have f5 : (w8).frozen? ⟨w.heap.size + 1, 5, none⟩ = false := HRP.out.frozen 5
        have c0 : (w8).cell? ⟨w.heap.size + 1, 0, none⟩ = some (.int .i64 0) := HRP.out.cell 0
        have c1 : (w8).cell? ⟨w.heap.size + 1, 1, none⟩ = some (.slice none 0 0) := HRP.out.cell 1
        have c2 : (w8).cell? ⟨w.heap.size + 1, 2, none⟩ = some (.int .i64 0) := HRP.out.cell 2
        have c3 : (w8).cell? ⟨w.heap.size + 1, 3, none⟩ = some (.bool false) := HRP.out.cell 3
        have c4 : (w8).cell? ⟨w.heap.size + 1, 4, none⟩ = some (.int .u64 0) := HRP.out.cell 4
        have c5 : (w8).cell? ⟨w.heap.size + 1, 5, none⟩ = some (.int .u64 0) := HRP.out.cell 5
        have HP := Lib.hid (And.intro (HRP.out.put (.int .i64 (z.err : Int)) (.slice Av z.ids.length Cv) (.int .i64 (z.cnt : Int)) (.bool z.yes) (.int .u64 (hv : Int)) (.int .u64 (lv : Int))) (upd_put (q := w.heap.size + 1) (Upd.refl [w.heap.size + 1] (w8)) (.inl (by simp)) (.int .i64 (z.err : Int)) (.slice Av z.ids.length Cv) (.int .i64 (z.cnt : Int)) (.bool z.yes) (.int .u64 (hv : Int)) (.int .u64 (lv : Int))))
        go_wp2_with fail
        have y0 := HP.out.1.cell 0
        have y1 := HP.out.1.cell 1
        have y2 := HP.out.1.cell 2
        have y3 := HP.out.1.cell 3
        have y4 := HP.out.1.cell 4
        have y5 := HP.out.1.cell 5
        simp only [List.getElem?_toArray, List.getElem?_cons_zero, List.getElem?_cons_succ] at y0 y1 y2 y3 y4 y5
        refine bodyPost_ret (v := repV z.err z.cnt z.yes (.slice Av z.ids.length Cv) hv lv) ?_ rfl ?_
        · simp [repV, results, Tryz.results13, go_sem, y0, y1, y2, y3, y4, y5]
        · exact ChgPost.updQ (v := _) (w1 := w8) ⟨⟨_, rfl, HV.out.1⟩, HV.out.2.1, (HF.out.2.2.1.mono (by simp)).trans HV.out.2.2⟩ rfl (by omega) HRP.out HP.out.2 HL.out.1 HL.out.2.1 HL.out.2.2.1 HL.out.2.2.2
      · have d3 : decide (c ≤ 6) = false := decide_eq_false h3
        by_cases h4 : c ≤ 14
        · have d4 : decide (c ≤ 14) = true := decide_eq_true h4
          have hr := HR.out
          unfold doM at hr
          have hcc := HCC.out
          rw [if_neg (by dsimp only; omega), if_neg (by dsimp only; omega), if_pos (by dsimp only; omega)] at hr
          have e1 := congrArg Prod.fst hr
          have e2 := congrArg Prod.snd hr
          dsimp only at e1 e2
          subst e1
          clear hr
          have hcall := HPT.out _ HF.out.2.2.1 (by omega)

          rw [e2] at hcall

          have HCALL := Lib.hid hcall
          clear e2
          clear hcall hc0 hcc
          go_upto_region 8 with (go_at_call 34; refine HNO.out.mono ?_; rintro e w' ⟨rfl, rfl⟩)
          go_wp2_with fail
          (with_reducible refine HCALL.out.mono ?_)
          rintro e w8 ⟨v, rfl, hre, hup⟩
          have HV := Lib.hid (And.intro hre hup)
          clear hre hup
          clear o0 o1 o2 o3 o4 o5
          obtain ⟨Av, Cv, hv, lv, hve, hrest⟩ := HV.out.1
          clear hrest
          unfold repV at hve
          subst hve
          have HRP := Lib.hid (RpAt.upd HF.out.2.1 HV.out.2 (by have := HL.out; simp))
          have f0 : (w8).frozen? ⟨w.heap.size + 1, 0, none⟩ = false := HRP.out.frozen 0
          have f1 : (w8).frozen? ⟨w.heap.size + 1, 1, none⟩ = false := HRP.out.frozen 1
          have f2 : (w8).frozen? ⟨w.heap.size + 1, 2, none⟩ = false := HRP.out.frozen 2
          have f3 : (w8).frozen? ⟨w.heap.size + 1, 3, none⟩ = false := HRP.out.frozen 3
          have f4 : (w8).frozen? ⟨w.heap.size + 1, 4, none⟩ = false := HRP.out.frozen 4
          have f5 : (w8).frozen? ⟨w.heap.size + 1, 5, none⟩ = false := HRP.out.frozen 5
          have c0 : (w8).cell? ⟨w.heap.size + 1, 0, none⟩ = some (.int .i64 0) := HRP.out.cell 0
          have c1 : (w8).cell? ⟨w.heap.size + 1, 1, none⟩ = some (.slice none 0 0) := HRP.out.cell 1
          have c2 : (w8).cell? ⟨w.heap.size + 1, 2, none⟩ = some (.int .i64 0) := HRP.out.cell 2
          have c3 : (w8).cell? ⟨w.heap.size + 1, 3, none⟩ = some (.bool false) := HRP.out.cell 3
          have c4 : (w8).cell? ⟨w.heap.size + 1, 4, none⟩ = some (.int .u64 0) := HRP.out.cell 4
          have c5 : (w8).cell? ⟨w.heap.size + 1, 5, none⟩ = some (.int .u64 0) := HRP.out.cell 5
          have HP := Lib.hid (And.intro (HRP.out.put (.int .i64 (z.err : Int)) (.slice Av z.ids.length Cv) (.int .i64 (z.cnt : Int)) (.bool z.yes) (.int .u64 (hv : Int)) (.int .u64 (lv : Int))) (upd_put (q := w.heap.size + 1) (Upd.refl [w.heap.size + 1] (w8)) (.inl (by simp)) (.int .i64 (z.err : Int)) (.slice Av z.ids.length Cv) (.int .i64 (z.cnt : Int)) (.bool z.yes) (.int .u64 (hv : Int)) (.int .u64 (lv : Int))))
          go_wp2_with fail
          have y0 := HP.out.1.cell 0
          have y1 := HP.out.1.cell 1
          have y2 := HP.out.1.cell 2
          have y3 := HP.out.1.cell 3
          have y4 := HP.out.1.cell 4
          have y5 := HP.out.1.cell 5
          simp only [List.getElem?_toArray, List.getElem?_cons_zero, List.getElem?_cons_succ] at y0 y1 y2 y3 y4 y5
          refine bodyPost_ret (v := repV z.err z.cnt z.yes (.slice Av z.ids.length Cv) hv lv) ?_ rfl ?_
          · simp [repV, results, Tryz.results13, go_sem, y0, y1, y2, y3, y4, y5]
          · exact ChgPost.updQ (v := _) (w1 := w8) ⟨⟨_, rfl, HV.out.1⟩, HF.out.2.2.2.upd0 HV.out.2, (HF.out.2.2.1.trans HV.out.2).mono (by simp)⟩ rfl (by omega) HRP.out HP.out.2 HL.out.1 HL.out.2.1 HL.out.2.2.1 HL.out.2.2.2
        · have d4 : decide (c ≤ 14) = false := decide_eq_false h4
          have hr := HR.out
          unfold doM at hr
          have hcc := HCC.out
          rw [if_neg (by dsimp only; omega), if_neg (by dsimp only; omega), if_neg (by dsimp only; omega)] at hr
          have e1 := congrArg Prod.fst hr
          have e2 := congrArg Prod.snd hr
          dsimp only at e1 e2
          subst e1
          clear hr
          have hcall := HOT.out _ HF.out.2.2.1 (by omega)

          rw [e2] at hcall

          have HCALL := Lib.hid hcall
          clear e2
          clear hcall hc0 hcc
          go_upto_region 9 with (go_at_call 34; refine HNO.out.mono ?_; rintro e w' ⟨rfl, rfl⟩)
          go_wp2_with fail
          (with_reducible refine HCALL.out.mono ?_)
          rintro e w8 ⟨v, rfl, hre, hup⟩
          have HV := Lib.hid (And.intro hre hup)
          clear hre hup
          clear o0 o1 o2 o3 o4 o5
          obtain ⟨Av, Cv, hv, lv, hve, hrest⟩ := HV.out.1
          clear hrest
          unfold repV at hve
          subst hve
          have HRP := Lib.hid (RpAt.upd HF.out.2.1 HV.out.2 (by have := HL.out; simp))
          have f0 : (w8).frozen? ⟨w.heap.size + 1, 0, none⟩ = false := HRP.out.frozen 0
          have f1 : (w8).frozen? ⟨w.heap.size + 1, 1, none⟩ = false := HRP.out.frozen 1
          have f2 : (w8).frozen? ⟨w.heap.size + 1, 2, none⟩ = false := HRP.out.frozen 2
          have f3 : (w8).frozen? ⟨w.heap.size + 1, 3, none⟩ = false := HRP.out.frozen 3
          have f4 : (w8).frozen? ⟨w.heap.size + 1, 4, none⟩ = false := HRP.out.frozen 4
          have f5 : (w8).frozen? ⟨w.heap.size + 1, 5, none⟩ = false := HRP.out.frozen 5
          have c0 : (w8).cell? ⟨w.heap.size + 1, 0, none⟩ = some (.int .i64 0) := HRP.out.cell 0
          have c1 : (w8).cell? ⟨w.heap.size + 1, 1, none⟩ = some (.slice none 0 0) := HRP.out.cell 1
          have c2 : (w8).cell? ⟨w.heap.size + 1, 2, none⟩ = some (.int .i64 0) := HRP.out.cell 2
          have c3 : (w8).cell? ⟨w.heap.size + 1, 3, none⟩ = some (.bool false) := HRP.out.cell 3
          have c4 : (w8).cell? ⟨w.heap.size + 1, 4, none⟩ = some (.int .u64 0) := HRP.out.cell 4
          have c5 : (w8).cell? ⟨w.heap.size + 1, 5, none⟩ = some (.int .u64 0) := HRP.out.cell 5
          have HP := Lib.hid (And.intro (HRP.out.put (.int .i64 (z.err : Int)) (.slice Av z.ids.length Cv) (.int .i64 (z.cnt : Int)) (.bool z.yes) (.int .u64 (hv : Int)) (.int .u64 (lv : Int))) (upd_put (q := w.heap.size + 1) (Upd.refl [w.heap.size + 1] (w8)) (.inl (by simp)) (.int .i64 (z.err : Int)) (.slice Av z.ids.length Cv) (.int .i64 (z.cnt : Int)) (.bool z.yes) (.int .u64 (hv : Int)) (.int .u64 (lv : Int))))
          go_wp2_with fail
          have y0 := HP.out.1.cell 0
          have y1 := HP.out.1.cell 1
          have y2 := HP.out.1.cell 2
          have y3 := HP.out.1.cell 3
          have y4 := HP.out.1.cell 4
          have y5 := HP.out.1.cell 5
          simp only [List.getElem?_toArray, List.getElem?_cons_zero, List.getElem?_cons_succ] at y0 y1 y2 y3 y4 y5
          refine bodyPost_ret (v := repV z.err z.cnt z.yes (.slice Av z.ids.length Cv) hv lv) ?_ rfl ?_
          · simp [repV, results, Tryz.results13, go_sem, y0, y1, y2, y3, y4, y5]
          · exact ChgPost.updQ (v := _) (w1 := w8) ⟨⟨_, rfl, HV.out.1⟩, HF.out.2.2.2.upd0 HV.out.2, (HF.out.2.2.1.trans HV.out.2).mono (by simp)⟩ rfl (by omega) HRP.out HP.out.2 HL.out.1 HL.out.2.1 HL.out.2.2.1 HL.out.2.2.2
end Go.Proofs.YthnbgfnclpkdjaaGreat
