/- gridironlaw26.ModelCounts: the walk. Printed by mkmcnt.py. -/
import Derived.Test.YthnbgfnclpkdjaaGreatAskM
namespace Go.Proofs.YthnbgfnclpkdjaaGreat
open Go.RowKit

theorem PtrTo.updM {l : Array Value} {t : TypeId} {v : Value} {w w' : World} {h p s x : Nat} {m : Md} (hp : PtrTo l t v w) (g : MdAt w h p s x m) (hu : Upd [p, s, x] w w') : PtrTo l t v w' := by
  obtain ⟨q, e, hq⟩ := hp
  refine ⟨q, e, hq.upd hu ?_⟩
  have h1 := g.ps.not_cells hq
  have h2 := g.ss.not_cells hq
  have h3 := g.bs.not_cells hq
  simp only [List.mem_cons, List.not_mem_nil, or_false]
  omega

/-- Which, and how many: the three pairs of codes. -/
theorem pair_codes {A R : List Bx → Nat} (M : Md) (a b c d : Int) (id : Nat) (kz : Int) (hk : kz = 0 ∨ kz = 1 ∨ kz = 2) : ∃ (ca cb : Nat) (L : List Nat), (∀ w, (Instr.index 38 (.agg #[.int .u8 7, .int .u8 8, .int .u8 11, .int .u8 12, .int .u8 15, .int .u8 16]) (.int .i64 kz)).run Tryz.prog w = .ok (.agg #[.int .u8 (ca : Int), .int .u8 (cb : Int)]) w) ∧
    (7 ≤ ca ∧ ca ≤ 20) ∧ (7 ≤ cb ∧ cb ≤ 20) ∧ (doM A R M ⟨ca, a, b, c, d, id⟩).2 = idsR L ∧ (doM A R M ⟨cb, a, b, c, d, id⟩).2 = cntR L.length := by
  rcases hk with rfl | rfl | rfl
  · refine ⟨7, 8, namesM Pt.id M.ps (askP M.ps ⟨7, a, b, c, d, id⟩), fun w => by kernel_rfl, by decide, by decide, ?_, ?_⟩
    · rw [do_point ⟨by simp, by simp⟩]; rfl
    · rw [do_point ⟨by simp, by simp⟩]; rfl
  · refine ⟨11, 12, namesM Pt.id M.ps (askP M.ps ⟨11, a, b, c, d, id⟩), fun w => by kernel_rfl, by decide, by decide, ?_, ?_⟩
    · rw [do_point ⟨by simp, by simp⟩]; rfl
    · rw [do_point ⟨by simp, by simp⟩]; rfl
  · refine ⟨15, 16, namesM Sp.id M.ss (fun s => stabBM s.lo s.hi a), fun w => by kernel_rfl, by decide, by decide, ?_, ?_⟩
    · rw [do_other ⟨by simp, by simp⟩]; rfl
    · rw [do_other ⟨by simp, by simp⟩]; rfl

/-- One of three sides; one of the lowest. -/
theorem any_codes {A R : List Bx → Nat} (M : Md) (h : Asc Pt.id M.ps) (a b c d : Int) (id : Nat) : ∃ (L K : List Nat), (doM A R M ⟨9, a, b, c, d, id⟩).2 = idsR L ∧ (doM A R M ⟨10, a, b, c, d, id⟩).2 = yesR (decide (0 < L.length)) ∧ (doM A R M ⟨13, a, b, c, d, id⟩).2 = idsR K ∧ K.length ≤ 1 := by
  refine ⟨namesM Pt.id M.ps (askP M.ps ⟨9, a, b, c, d, id⟩), lowM M.ps (fun p => inBM ⟨a, b, -9223372036854775808, 9223372036854775807, 0⟩ p.x p.y), ?_, ?_, ?_, low_le h⟩
  · rw [do_point ⟨by simp, by simp⟩]; rfl
  · rw [do_point ⟨by simp, by simp⟩]; rfl
  · rw [do_point ⟨by simp, by simp⟩]; rfl

theorem repAt_yesR {w : World} {v : Value} {b : Bool} (h : RepAt w v (yesR b)) : ∃ A C, v = .agg #[.int .i64 0, .slice A 0 C, .int .i64 0, .bool b, .int .u64 0, .int .u64 0] := by
  obtain ⟨A, C, hi, lo, h1, h2, _, _, h5⟩ := h
  have e : hi = 0 ∧ lo = 0 := by
    have : (0 : Nat) = hi * 18446744073709551616 + lo := h5
    omega
  obtain ⟨rfl, rfl⟩ := e
  exact ⟨A, C, h1⟩

theorem repAt_idsL {w : World} {v : Value} {l : List Nat} (h : RepAt w v (idsR l)) : ∃ A C, v = .agg #[.int .i64 0, .slice A l.length C, .int .i64 0, .bool false, .int .u64 0, .int .u64 0] := by
  obtain ⟨A, C, hi, lo, h1, h2, _, _, h5⟩ := h
  have e : hi = 0 ∧ lo = 0 := by
    have : (0 : Nat) = hi * 18446744073709551616 + lo := h5
    omega
  obtain ⟨rfl, rfl⟩ := e
  exact ⟨A, C, h1⟩

set_option maxRecDepth 100000 in
set_option maxHeartbeats 16000000 in
theorem modelCounts_walk {A R : List Bx → Nat} (ar : AR A R) (v : Value) (L : List OpP) (o : OpP) (w : World) (hs : See KOp w v L) (hl : L.length < 9223372036854775808) (hin : ∀ o ∈ L, o.in64) (ho : o.in64) :
    Calls Tryz.prog 3 #[v, opV o] w fun e w' => e = .returned (.bool true) ∧ Upd [] w w' := by
  obtain ⟨A', C', rfl⟩ := hs.form
  obtain ⟨n, hn⟩ : ∃ n, L.length = n := ⟨_, rfl⟩
  have haf := fun (w9 : World) (hu : Upd [] w w9) => afterC ar 255 (by decide) (.slice A' L.length C') L w9 (hs.upd0 hu) hl hin
  rw [hn, show ((255 : Nat) : Int) = 255 from rfl] at haf
  rw [hn]
  obtain ⟨M, hM⟩ : ∃ M, runM A R ⟨1 + 255, [], [], []⟩ (L.take 60) = M := ⟨_, rfl⟩
  simp only [hM] at haf
  have HAF := Lib.hid haf
  have HO := Lib.hid ho
  clear hs hl hin haf hn hM ho
  obtain ⟨oc, oa, ob, occ, od, oi⟩ := o
  unfold opV
  dsimp only
  have HU0 := Lib.hid (show Upd [] w (w.alloc (.cells #[.int .u8 (oc : Int), .int .i64 oa, .int .i64 ob, .int .i64 occ, .int .i64 od, .int .u32 (oi : Int)] 25)) from (Upd.refl _ _).alloc _)
  have HC0 := Lib.hid (op_new w #[.int .u8 (oc : Int), .int .i64 oa, .int .i64 ob, .int .i64 occ, .int .i64 od, .int .u32 (oi : Int)])
  go_enter Tryz.func3, Tryz.ntmps3
  go_upto_region 1 with fail
  generalize (w.alloc (.cells #[.int .u8 (oc : Int), .int .i64 oa, .int .i64 ob, .int .i64 occ, .int .i64 od, .int .u32 (oi : Int)] 25)) = W0 at HU0 HC0 ⊢
  obtain ⟨qo, hqo⟩ : ∃ q, w.heap.size = q := ⟨_, rfl⟩
  rw [hqo] at HC0 ⊢
  have HQ := Lib.hid hqo
  clear hqo
  go_wp2_with fail
  (with_reducible refine (HAF.out _ HU0.out).mono ?_)
  rintro e w1 ⟨h, p, s, x, rfl, hm1, hu1, g1, g2, g3, g4⟩
  have hq1 : qo < W0.heap.size := (HC0.out).lt rfl
  have hms := And.intro hm1.at'.ps.lt (And.intro hm1.at'.ss.lt hm1.at'.bs.lt)
  have hh := lt_of_block hm1.at'.head
  have HB := Lib.hid (show (qo ∉ [p, s, x]) ∧ w.heap.size ≤ p ∧ w.heap.size ≤ s ∧ w.heap.size ≤ x ∧ w1.heap.size ∉ [p, s, x] by
    have h4 := HU0.out.size
    simp only [List.mem_cons, List.not_mem_nil, or_false]
    omega)
  go_upto_region 2 with fail
  have ha : Upd [] w1 (w1.alloc (.cells #[.pointer (some ⟨h, 0, none⟩)] 26)) := (Upd.refl _ _).alloc _
  have HBM := Lib.hid (show CelB (w1.alloc (.cells #[.pointer (some ⟨h, 0, none⟩)] 26)) w1.heap.size [.pointer (some ⟨h, 0, none⟩)] from CelB.of_heap (heap_alloc_new w1 _))
  have HMM := Lib.hid (hm1.upd0 ha)
  have HCo := Lib.hid ((HC0.out.upd0 hu1).upd0 ha)
  have HU1 := Lib.hid ((HU0.out.trans hu1).trans ha)
  have HLT := Lib.hid (show h < (w1.alloc (.cells #[.pointer (some ⟨h, 0, none⟩)] 26)).heap.size ∧ p < (w1.alloc (.cells #[.pointer (some ⟨h, 0, none⟩)] 26)).heap.size ∧ s < (w1.alloc (.cells #[.pointer (some ⟨h, 0, none⟩)] 26)).heap.size ∧ x < (w1.alloc (.cells #[.pointer (some ⟨h, 0, none⟩)] 26)).heap.size by simp; omega)
  clear ha hm1 hu1 g1 g2 g3 g4 hq1 hms hh HC0 HU0 HAF
  generalize (w1.alloc (.cells #[.pointer (some ⟨h, 0, none⟩)] 26)) = W1 at HBM HMM HCo HU1 HLT ⊢
  obtain ⟨qm, hqm⟩ : ∃ q, w1.heap.size = q := ⟨_, rfl⟩
  rw [hqm] at HBM HB ⊢
  have HQM := Lib.hid hqm
  clear hqm
  have b0 := HBM.out 0 _ rfl
  have hask := fun (w9 : World) (k : Nat) (hu : Upd [p, s, x] W1 w9) (hm : MM w9 h p s x M 60) (hk : 7 ≤ k ∧ k ≤ 20) => askC ar hm (by decide) qo qm ⟨oc, oa, ob, occ, od, oi⟩ (HCo.out.upd hu HB.out.1) (HBM.out.upd hu HB.out.2.2.2.2) k hk HO.out
  dsimp only at hask
  have HASKM := Lib.hid hask
  clear hask
  go_wp2_with fail
  clear b0
  go_loopg [23] 3 (fun m s23 wr => ∃ kz : Int, 0 ≤ kz ∧ (m : Int) + kz = 3 ∧ s23 = .int .i64 kz ∧ Upd [p, s, x] W1 wr ∧ MM wr h p s x M 60)
  case atStart => exact ⟨0, by decide, by decide, rfl, Upd.refl _ _, HMM.out⟩
  case round =>
    obtain ⟨kz, hk0, hk, rfl, hu, hm⟩ := hrel
    have HK := Lib.hid (And.intro hk0 (And.intro hk (And.intro hu hm)))
    clear HMM
    by_cases hlt : kz < 3
    · have d3 : decide (kz < 3) = true := decide_eq_true hlt
      obtain ⟨ca, cb, Lk, hidx, hca, hcb, hra, hrb⟩ := pair_codes (A := A) (R := R) M oa ob occ od oi kz (by omega)
      have HPAIR := Lib.hid (And.intro hca (And.intro hcb (And.intro hra hrb)))
      have HLTk := Lib.hid hlt
      clear hk hu hm hca hcb hra hrb
      go_upto_region 8 with fail
      have HQ8 := Lib.hid (show HpC (wr.alloc (.cells #[.int .u8 (ca : Int), .int .u8 (cb : Int)] 37)) wr.heap.size #[.int .u8 (ca : Int), .int .u8 (cb : Int)] 37 from heap_alloc_new wr _)
      have HMM := Lib.hid (HK.out.2.2.2.upd0 ((Upd.refl [] wr).alloc (.cells #[.int .u8 (ca : Int), .int .u8 (cb : Int)] 37)))
      have HUr := Lib.hid (HK.out.2.2.1.alloc (.cells #[.int .u8 (ca : Int), .int .u8 (cb : Int)] 37))
      have HB8 := Lib.hid (show wr.heap.size ∉ [p, s, x] by
        have h1 := HK.out.2.2.2.at'.ps.lt
        have h2 := HK.out.2.2.2.at'.ss.lt
        have h3 := HK.out.2.2.2.at'.bs.lt
        simp only [List.mem_cons, List.not_mem_nil, or_false]
        omega)
      generalize (wr.alloc (.cells #[.int .u8 (ca : Int), .int .u8 (cb : Int)] 37)) = W8 at HQ8 HMM HUr ⊢
      generalize wr.heap.size = q8 at HQ8 HB8 ⊢
      have hask := fun (w9 : World) (k : Nat) (hu : Upd [p, s, x] W8 w9) (hm : MM w9 h p s x M 60) (hk : 7 ≤ k ∧ k ≤ 20) => HASKM.out w9 k (HUr.out.trans hu) hm hk
      have HASK := Lib.hid hask
      have HMD := Lib.hid (HMM.out.upd0 ((Upd.refl [] W8).drew))
      have HLT := Lib.hid (show h < W8.heap.size ∧ p < W8.heap.size ∧ s < W8.heap.size ∧ x < W8.heap.size by have := HLT.out; have := HUr.out.size; omega)
      clear hask
      -- region 8: T waits for all loads; fuel 1
      refine GoT.start [] (fun w' => HpC w' q8 #[.int .u8 (ca : Int), .int .u8 (cb : Int)] 37) (by kernel_rfl) ?_ fun hS => ?_
      · exact HQ8.out.upd (Upd.refl [] _).drew (by simp)
      refine' GoT.move (i := 0) (oi := ⟨some 26, _, _, _, _, _⟩) (v := _) rfl (by kernel_rfl) (by kernel_rfl) (by kernel_rfl) (fun _ _ _ h => h) (Or.inl ⟨by rfl, ?y8_0⟩) ?r8_0
      case y8_0 => intro w; go_simp <;> with_reducible rfl
      simp only [Act.put, List.setIfInBounds_toArray, List.set_cons_zero, List.set_cons_succ]
      refine' GoT.move (i := 1) (oi := ⟨some 27, _, _, _, _, _⟩) (v := _) rfl (by kernel_rfl) (by kernel_rfl) (by kernel_rfl) (fun _ _ _ h => h) (Or.inl ⟨by rfl, ?y8_1⟩) ?r8_1
      case y8_1 => intro w; go_simp <;> with_reducible rfl
      simp only [Act.put, List.setIfInBounds_toArray, List.set_cons_zero, List.set_cons_succ]
      refine' GoT.take 1 (i := 2) (oi := ⟨some 28, _, _, _, _, _⟩) (v := _) rfl (by kernel_rfl) (by kernel_rfl) (by kernel_rfl) (by kernel_rfl) (fun _ _ _ h => h) (Or.inl ⟨by rfl, ?y8_2⟩) (by assumption) ?r8_2
      case y8_2 => intro w hSw; have s0 := hSw.cell 0; have s1 := hSw.cell 1; simp only [List.getElem?_toArray, List.getElem?_cons_zero, List.getElem?_cons_succ] at s0 s1; go_simp <;> with_reducible rfl
      simp only [Act.put, List.setIfInBounds_toArray, List.set_cons_zero, List.set_cons_succ]
      refine' GoT.move (i := 4) (oi := ⟨some 30, _, _, _, _, _⟩) (v := _) rfl (by kernel_rfl) (by kernel_rfl) (by kernel_rfl) (fun _ _ _ h => h) (Or.inl ⟨by rfl, ?y8_4⟩) ?r8_4
      case y8_4 => intro w; go_simp <;> with_reducible rfl
      simp only [Act.put, List.setIfInBounds_toArray, List.set_cons_zero, List.set_cons_succ]
      refine' GoT.move (i := 5) (oi := ⟨some 31, _, _, _, _, _⟩) (v := _) rfl (by kernel_rfl) (by kernel_rfl) (by kernel_rfl) (fun _ _ _ h => h) (Or.inl ⟨by rfl, ?y8_5⟩) ?r8_5
      case y8_5 => intro w; go_simp <;> with_reducible rfl
      simp only [Act.put, List.setIfInBounds_toArray, List.set_cons_zero, List.set_cons_succ]
      refine' GoT.take 1 (i := 6) (oi := ⟨some 32, _, _, _, _, _⟩) (v := _) rfl (by kernel_rfl) (by kernel_rfl) (by kernel_rfl) (by kernel_rfl) (fun _ _ _ h => h) (Or.inl ⟨by rfl, ?y8_6⟩) (by assumption) ?r8_6
      case y8_6 => intro w hSw; have s0 := hSw.cell 0; have s1 := hSw.cell 1; simp only [List.getElem?_toArray, List.getElem?_cons_zero, List.getElem?_cons_succ] at s0 s1; go_simp <;> with_reducible rfl
      simp only [Act.put, List.setIfInBounds_toArray, List.set_cons_zero, List.set_cons_succ]
      refine GoT.rely [(3, 29), (7, 33), (8, 9), (9, 10)] 3 (fun a b => Upd [p, s, x] a b ∧ (MM a h p s x M 60 → MM b h p s x M 60)) (fun i v w' => MM w' h p s x M 60 ∧ (i = 3 → RepAt w' v (idsR Lk)) ∧ (i = 7 → RepAt w' v (cntR Lk.length)) ∧ (i = 8 → PtrTo repZ 34 v w') ∧ (i = 9 → PtrTo repZ 34 v w')) [8, 9] (L1 := #[true, true, true, true, true, true, true, true, true, true, false, false]) (m := 2)
        (by kernel_rfl) (by decide) (by decide) (by kernel_rfl) (by kernel_rfl) (by kernel_rfl) (by kernel_rfl) (by kernel_rfl) (by kernel_rfl) (by kernel_rfl) (by decide)
        (fun _ => ⟨Upd.refl _ _, fun h => h⟩) (fun _ _ _ a b => ⟨a.1.trans b.1, fun h => b.2 (a.2 h)⟩) (fun _ _ a => a.1.size) (fun _ _ a hS => hS.upd a.1 HB8.out) (fun _ _ _ _ hF a => ⟨a.2 hF.1, fun e => (hF.2.1 e).updM hF.1.at' a.1, fun e => (hF.2.2.1 e).updM hF.1.at' a.1, fun e => (hF.2.2.2.1 e).updM hF.1.at' a.1, fun e => (hF.2.2.2.2 e).updM hF.1.at' a.1⟩) ?_ ?_
      · intro e he D v w' hR hD hdep
        simp only [List.mem_cons, List.not_mem_nil, or_false] at he
        rcases he with rfl | rfl | rfl | rfl
        · refine wpOp_hid (o := ⟨some 29, _, _, _, _, _⟩) rfl fun K hK => ?_
          simp only [fills, putIf, Array.getD_eq_getD_getElem?, List.setIfInBounds_toArray, List.set_cons_zero, List.set_cons_succ, List.getElem?_toArray, List.getElem?_cons_zero, List.getElem?_cons_succ, Option.getD_some]
          have hcall := HASK.out w' ca (((Upd.refl _ W8).drew).trans hR.up.1) (hR.up.2 HMD.out) HPAIR.out.1
          simp only [HPAIR.out.2.2.1] at hcall
          have HCALL := Lib.hid hcall
          clear hcall hR hdep
          go_simp
          go_at_call 12
          (with_reducible refine HCALL.out.mono ?_)
          rintro e w'' ⟨⟨u, rfl, hre⟩, hmm, hup⟩
          refine hK.out _ _ ⟨u, by simp [fills, putIf, Act.put], ⟨hup, fun _ => hmm⟩, ⟨hmm, fun _ => hre, fun hc => (by cases hc), fun hc => (by cases hc), fun hc => (by cases hc)⟩, fun hc => (by simp at hc)⟩
        · refine wpOp_hid (o := ⟨some 33, _, _, _, _, _⟩) rfl fun K hK => ?_
          simp only [fills, putIf, Array.getD_eq_getD_getElem?, List.setIfInBounds_toArray, List.set_cons_zero, List.set_cons_succ, List.getElem?_toArray, List.getElem?_cons_zero, List.getElem?_cons_succ, Option.getD_some]
          have hcall := HASK.out w' cb (((Upd.refl _ W8).drew).trans hR.up.1) (hR.up.2 HMD.out) HPAIR.out.2.1
          simp only [HPAIR.out.2.2.2] at hcall
          have HCALL := Lib.hid hcall
          clear hcall hR hdep
          go_simp
          go_at_call 12
          (with_reducible refine HCALL.out.mono ?_)
          rintro e w'' ⟨⟨u, rfl, hre⟩, hmm, hup⟩
          refine hK.out _ _ ⟨u, by simp [fills, putIf, Act.put], ⟨hup, fun _ => hmm⟩, ⟨hmm, fun hc => (by cases hc), fun _ => hre, fun hc => (by cases hc), fun hc => (by cases hc)⟩, fun hc => (by simp at hc)⟩
        · refine wpOp_hid (o := ⟨some 9, _, _, _, _, _⟩) rfl fun K hK => ?_
          simp only [fills, putIf, Array.getD_eq_getD_getElem?, List.setIfInBounds_toArray, List.set_cons_zero, List.set_cons_succ, List.getElem?_toArray, List.getElem?_cons_zero, List.getElem?_cons_succ, Option.getD_some]
          have HWM := Lib.hid (hR.up.2 HMD.out)
          clear hR hdep
          go_simp
          refine hK.out _ _ ⟨.pointer (some ⟨w'.heap.size, 0, none⟩), by simp [fills, putIf, Act.put], ⟨(Upd.refl _ _).alloc _, fun hc => hc.upd0 ((Upd.refl _ _).alloc _)⟩, ⟨HWM.out.upd0 ((Upd.refl _ _).alloc _), fun hc => (by cases hc), fun hc => (by cases hc), fun _ => PtrTo.new _ _ _, fun hc => (by cases hc)⟩, fun _ k hk => ?_⟩
          simp [blk] at hk
          subst hk
          simp
        · refine wpOp_hid (o := ⟨some 10, _, _, _, _, _⟩) rfl fun K hK => ?_
          simp only [fills, putIf, Array.getD_eq_getD_getElem?, List.setIfInBounds_toArray, List.set_cons_zero, List.set_cons_succ, List.getElem?_toArray, List.getElem?_cons_zero, List.getElem?_cons_succ, Option.getD_some]
          have HWM := Lib.hid (hR.up.2 HMD.out)
          clear hR hdep
          go_simp
          refine hK.out _ _ ⟨.pointer (some ⟨w'.heap.size, 0, none⟩), by simp [fills, putIf, Act.put], ⟨(Upd.refl _ _).alloc _, fun hc => hc.upd0 ((Upd.refl _ _).alloc _)⟩, ⟨HWM.out.upd0 ((Upd.refl _ _).alloc _), fun hc => (by cases hc), fun hc => (by cases hc), fun hc => (by cases hc), fun _ => PtrTo.new _ _ _⟩, fun _ k hk => ?_⟩
          simp [blk] at hk
          subst hk
          simp
      intro v w' hR
      have h3 := (hR.said (3, 29) (by simp) rfl).2.1 rfl
      have h7 := (hR.said (7, 33) (by simp) rfl).2.2.1 rfl
      obtain ⟨p8, e8, h8⟩ := (hR.said (8, 9) (by simp) rfl).2.2.2.1 rfl
      obtain ⟨p9, e9, h9⟩ := (hR.said (9, 10) (by simp) rfl).2.2.2.2 rfl
      have ne := hR.far 8 (by simp) 9 (by simp) (by decide) rfl rfl p8 (by rw [e8]; simp [blk])
      have n8 : W8.heap.size ≤ p8 := (hR.news 8 (by simp) rfl p8 (by rw [e8]; simp [blk])).1
      have n9 : W8.heap.size ≤ p9 := (hR.news 9 (by simp) rfl p9 (by rw [e9]; simp [blk])).1
      rw [e9] at ne
      simp only [blk, List.mem_singleton] at ne
      have hmm := hR.up.2 HMD.out
      have hua : Upd [p, s, x] W8 w' := ((Upd.refl _ W8).drew).trans hR.up.1
      obtain ⟨A3, C3, i3, l3, e3, s3, -, -, x3⟩ := h3
      have z3 : i3 = 0 ∧ l3 = 0 := by have : (0 : Nat) = i3 * 18446744073709551616 + l3 := x3; omega
      obtain ⟨A7, C7, i7, l7, e7, s7, -, -, x7⟩ := h7
      have z7 : i7 = 0 ∧ l7 = 0 := by have : (0 : Nat) = i7 * 18446744073709551616 + l7 := x7; omega
      obtain ⟨rfl, rfl⟩ := z3
      obtain ⟨rfl, rfl⟩ := z7
      unfold repV idsR at e3
      unfold repV cntR at e7
      dsimp only [List.length_nil] at e3 e7
      obtain ⟨nk, hnk⟩ : ∃ k, Lk.length = k := ⟨_, rfl⟩
      rw [hnk] at e3 e7
      simp only [fills, putIf, cond_true, e3, e7, e8, e9, List.setIfInBounds_toArray, List.set_cons_zero, List.set_cons_succ]
      have h8 : RpAt w' p8 repZ := h8
      have h9 : RpAt w' p9 repZ := h9
      have HN := Lib.hid (And.intro n8 (And.intro n9 (And.intro ne hua)))
      have HMk := Lib.hid hmm
      clear hR e3 e7 e8 e9 hS s3 s7 x3 x7 n8 n9 ne hua hmm hnk
      refine GoT.one (i := 10) (o := ⟨none, _, _, _, _, _⟩) rfl (by kernel_rfl) fun K hK => ?_
      have f0 : w'.frozen? ⟨p8, 0, none⟩ = false := h8.frozen 0
      have f1 : w'.frozen? ⟨p8, 1, none⟩ = false := h8.frozen 1
      have f2 : w'.frozen? ⟨p8, 2, none⟩ = false := h8.frozen 2
      have f3 : w'.frozen? ⟨p8, 3, none⟩ = false := h8.frozen 3
      have f4 : w'.frozen? ⟨p8, 4, none⟩ = false := h8.frozen 4
      have f5 : w'.frozen? ⟨p8, 5, none⟩ = false := h8.frozen 5
      have c0 : w'.cell? ⟨p8, 0, none⟩ = some (.int .i64 0) := h8.cell 0
      have c1 : w'.cell? ⟨p8, 1, none⟩ = some (.slice none 0 0) := h8.cell 1
      have c2 : w'.cell? ⟨p8, 2, none⟩ = some (.int .i64 0) := h8.cell 2
      have c3 : w'.cell? ⟨p8, 3, none⟩ = some (.bool false) := h8.cell 3
      have c4 : w'.cell? ⟨p8, 4, none⟩ = some (.int .u64 0) := h8.cell 4
      have c5 : w'.cell? ⟨p8, 5, none⟩ = some (.int .u64 0) := h8.cell 5
      have HS := Lib.hid (And.intro (h8.put (.int .i64 0) (.slice A3 nk C3) (.int .i64 0) (.bool false) (.int .u64 0) (.int .u64 0)) (And.intro (upd_put (q := p8) (Upd.refl [p8] w') (.inl (by simp)) (.int .i64 0) (.slice A3 nk C3) (.int .i64 0) (.bool false) (.int .u64 0) (.int .u64 0)) h9))
      clear h8 h9
      go_simp
      refine hK.out _ _ (fun _ hc => hc.upd HS.out.2.1 (by have := HN.out.1; have := lt_of_block HQ8.out; simp only [List.mem_singleton]; omega)) ?_
      clear hK K c0 c1 c2 c3 c4 c5 f0 f1 f2 f3 f4 f5
      simp only [List.setIfInBounds_toArray, List.set_cons_zero, List.set_cons_succ]
      obtain ⟨h8, hup, h9⟩ := HS.out
      have h9 := RpAt.upd h9 hup (by have := HN.out.2.2.1; simp only [List.mem_singleton]; omega)
      have HM8 := Lib.hid (HMk.out.upd hup (by have := HN.out.1; have := HLT.out; simp only [List.mem_singleton]; omega) (by have := HN.out.1; have := HLT.out; simp only [List.mem_singleton]; omega) (by have := HN.out.1; have := HLT.out; simp only [List.mem_singleton]; omega) (by have := HN.out.1; have := HLT.out; simp only [List.mem_singleton]; omega))
      have HUb := Lib.hid (HN.out.2.2.2.trans' hup (fun y hy => .inr (by have := HN.out.1; simp only [List.mem_singleton] at hy; omega)))
      clear HS hup
      generalize ((((((w'.setCell ⟨p8, 0, none⟩ (.int .i64 0)).setCell ⟨p8, 1, none⟩ (.slice A3 nk C3)).setCell ⟨p8, 2, none⟩ (.int .i64 0)).setCell ⟨p8, 3, none⟩ (.bool false)).setCell ⟨p8, 4, none⟩ (.int .u64 0)).setCell ⟨p8, 5, none⟩ (.int .u64 0)) = Wd at h8 h9 HM8 HUb ⊢
      refine GoT.one (i := 11) (o := ⟨none, _, _, _, _, _⟩) rfl (by kernel_rfl) fun K hK => ?_
      have f0 : Wd.frozen? ⟨p9, 0, none⟩ = false := h9.frozen 0
      have f1 : Wd.frozen? ⟨p9, 1, none⟩ = false := h9.frozen 1
      have f2 : Wd.frozen? ⟨p9, 2, none⟩ = false := h9.frozen 2
      have f3 : Wd.frozen? ⟨p9, 3, none⟩ = false := h9.frozen 3
      have f4 : Wd.frozen? ⟨p9, 4, none⟩ = false := h9.frozen 4
      have f5 : Wd.frozen? ⟨p9, 5, none⟩ = false := h9.frozen 5
      have c0 : Wd.cell? ⟨p9, 0, none⟩ = some (.int .i64 0) := h9.cell 0
      have c1 : Wd.cell? ⟨p9, 1, none⟩ = some (.slice none 0 0) := h9.cell 1
      have c2 : Wd.cell? ⟨p9, 2, none⟩ = some (.int .i64 0) := h9.cell 2
      have c3 : Wd.cell? ⟨p9, 3, none⟩ = some (.bool false) := h9.cell 3
      have c4 : Wd.cell? ⟨p9, 4, none⟩ = some (.int .u64 0) := h9.cell 4
      have c5 : Wd.cell? ⟨p9, 5, none⟩ = some (.int .u64 0) := h9.cell 5
      have HS := Lib.hid (And.intro (h9.put (.int .i64 0) (.slice A7 0 C7) (.int .i64 (nk : Int)) (.bool false) (.int .u64 0) (.int .u64 0)) (And.intro (upd_put (q := p9) (Upd.refl [p9] Wd) (.inl (by simp)) (.int .i64 0) (.slice A7 0 C7) (.int .i64 (nk : Int)) (.bool false) (.int .u64 0) (.int .u64 0)) h8))
      clear h8 h9
      go_simp
      refine hK.out _ _ (fun _ hc => hc.upd HS.out.2.1 (by have := HN.out.2.1; have := lt_of_block HQ8.out; simp only [List.mem_singleton]; omega)) ?_
      clear hK K c0 c1 c2 c3 c4 c5 f0 f1 f2 f3 f4 f5
      simp only [List.setIfInBounds_toArray, List.set_cons_zero, List.set_cons_succ]
      obtain ⟨h9, hup, h8⟩ := HS.out
      have h8 := RpAt.upd h8 hup (by have := HN.out.2.2.1; simp only [List.mem_singleton]; omega)
      have HM9 := Lib.hid (HM8.out.upd hup (by have := HN.out.2.1; have := HLT.out; simp only [List.mem_singleton]; omega) (by have := HN.out.2.1; have := HLT.out; simp only [List.mem_singleton]; omega) (by have := HN.out.2.1; have := HLT.out; simp only [List.mem_singleton]; omega) (by have := HN.out.2.1; have := HLT.out; simp only [List.mem_singleton]; omega))
      have HUc := Lib.hid (HUb.out.trans' hup (fun y hy => .inr (by have := HN.out.2.1; simp only [List.mem_singleton] at hy; omega)))
      clear HS hup
      generalize ((((((Wd.setCell ⟨p9, 0, none⟩ (.int .i64 0)).setCell ⟨p9, 1, none⟩ (.slice A7 0 C7)).setCell ⟨p9, 2, none⟩ (.int .i64 (nk : Int))).setCell ⟨p9, 3, none⟩ (.bool false)).setCell ⟨p9, 4, none⟩ (.int .u64 0)).setCell ⟨p9, 5, none⟩ (.int .u64 0)) = We at h8 h9 HM9 HUc ⊢
      refine GoT.done (by kernel_rfl) ?_
      have a0 := h8.cell 0
      have a1 := h8.cell 1
      have a2 := h8.cell 2
      have b0 := h9.cell 0
      have b1 := h9.cell 1
      have b2 := h9.cell 2
      simp only [List.getElem?_toArray, List.getElem?_cons_zero, List.getElem?_cons_succ] at a0 a1 a2 b0 b1 b2
      have dn : ((nk : Int) != (nk : Int)) = false := by simp
      clear h8 h9
      go_wp2_with fail
      go_roundg ((gk : Nat) - 1)
      case measure => have := HK.out.2.1; have := HLTk.out; omega
      case rel => exact ⟨kz + 1, by have := HK.out.1; omega, by have := HK.out.2.1; have := HLTk.out; omega, by go_num, HUr.out.trans HUc.out, HM9.out⟩
    · have e : kz = 3 := by omega
      subst e
      clear hk0 hk hu hm hlt
      obtain ⟨L9, K9, hr9, hr10, hr13, hk13⟩ := any_codes (A := A) (R := R) M HK.out.2.2.2.at'.ok.ps oa ob occ od oi
      have q10 := HASKM.out wr 10 HK.out.2.2.1 HK.out.2.2.2 (by decide)
      rw [hr10, show ((10 : Nat) : Int) = 10 from rfl] at q10
      obtain ⟨n9, hn9⟩ : ∃ k, L9.length = k := ⟨_, rfl⟩
      rw [hn9] at q10
      obtain ⟨y9, hy9⟩ : ∃ y, decide (0 < n9) = y := ⟨_, rfl⟩
      rw [hy9] at q10
      have Q10 := Lib.hid q10
      have HR9 := Lib.hid (And.intro hr9 (And.intro hn9 (And.intro hr13 hk13)))
      have hyy : (y9 == y9) = true := by simp
      clear q10 hr9 hr10 hr13 hk13 hn9
      go_upto_region 12 with fail
      go_wp2_with fail
      (with_reducible refine Q10.out.mono ?_)
      rintro e w2 ⟨⟨u, rfl, hre⟩, hmm, hup⟩
      obtain ⟨Ay, Cy, rfl⟩ := repAt_yesR hre
      have H2 := Lib.hid (And.intro (HK.out.2.2.1.trans hup) hmm)
      clear hre hmm hup
      have hfd := fun w => rep_field3 0 Ay 0 Cy 0 y9 0 0 w
      have q9 := HASKM.out w2 9 H2.out.1 H2.out.2 (by decide)
      rw [HR9.out.1, show ((9 : Nat) : Int) = 9 from rfl] at q9
      have Q9 := Lib.hid q9
      clear q9
      go_wp2_with fail
      (with_reducible refine Q9.out.mono ?_)
      rintro e w3 ⟨⟨u, rfl, hre⟩, hmm, hup⟩
      obtain ⟨A9, C9, rfl⟩ := repAt_idsL hre
      rw [HR9.out.2.1]
      have H3 := Lib.hid (And.intro (H2.out.1.trans hup) hmm)
      clear hre hmm hup hfd
      have hfd := fun w => rep_field1 0 A9 n9 C9 0 false 0 0 w
      have q13 := HASKM.out w3 13 H3.out.1 H3.out.2 (by decide)
      rw [HR9.out.2.2.1, show ((13 : Nat) : Int) = 13 from rfl] at q13
      obtain ⟨n13, hn13⟩ : ∃ k, K9.length = k := ⟨_, rfl⟩
      have hle : decide ((1 : Int) < (n13 : Int)) = false := by have := HR9.out.2.2.2; exact decide_eq_false (by omega)
      have Q13 := Lib.hid q13
      clear q13
      go_wp2_with fail
      (with_reducible refine Q13.out.mono ?_)
      rintro e w4 ⟨⟨u, rfl, hre⟩, hmm, hup⟩
      obtain ⟨A13, C13, rfl⟩ := repAt_idsL hre
      rw [hn13]
      have H4 := Lib.hid (And.intro (H3.out.1.trans hup) hmm)
      clear hre hmm hup hfd hn13 hy9 hyy
      have hfd := fun w => rep_field1 0 A13 n13 C13 0 false 0 0 w
      go_upto_region 14 with fail
      clear hfd hle
      go_wp2_with fail
      obtain ⟨wl, rfl⟩ : ∃ wl : World, wl = wr := ⟨_, rfl⟩
      obtain ⟨gO, rfl⟩ : ∃ gO : Nat, gO = gk := ⟨_, rfl⟩
      go_loopg [11] 14 (fun m s11 wr => ∃ c : Nat, m + c = 21 ∧ 7 ≤ c ∧ s11 = .int .u8 (c : Int) ∧ Upd [p, s, x] W1 wr ∧ MM wr h p s x M 60)
      case atStart => exact ⟨7, by decide, by decide, rfl, H4.out.1, H4.out.2⟩
      case round =>
        obtain ⟨c, hc, hc7, rfl, hu, hm⟩ := hrel
        have HCk := Lib.hid (And.intro hc (And.intro hc7 (And.intro hu hm)))
        have c0 : (0 : Int) ≤ (c : Int) := Int.natCast_nonneg _
        have c1 : (c : Int) < 30 := by omega
        by_cases hlt : c ≤ 20
        · have d20 : decide ((c : Int) ≤ 20) = true := decide_eq_true (by omega)
          have hcle : (c : Int) ≤ 20 := by omega
          have qc := HASKM.out wr c hu hm ⟨hc7, hlt⟩
          have hrise := do_ids (A := A) (R := R) hm.at'.ok (o := ⟨c, oa, ob, occ, od, oi⟩) hc7
          obtain ⟨zc, hzc⟩ : ∃ z, (doM A R M ⟨c, oa, ob, occ, od, oi⟩).2 = z := ⟨_, rfl⟩
          have hshort := do_short (A := A) (R := R) (o := ⟨c, oa, ob, occ, od, oi⟩) hm.small
          rw [hzc] at qc hrise hshort
          have QC := Lib.hid qc
          have HRI := Lib.hid (And.intro hrise hshort)
          have HLc := Lib.hid hlt
          clear qc hrise hzc hc hc7 hu hm hlt hshort
          go_wp2_with fail
          (with_reducible refine QC.out.mono ?_)
          rintro e w5 ⟨⟨u, rfl, hre⟩, hmm, hup⟩
          obtain ⟨Az, Cz, iz, lz, hve, hsee, -⟩ := hre
          unfold repV at hve
          subst hve
          have H5 := Lib.hid (And.intro (HCk.out.2.2.1.trans hup) (And.intro hmm hsee))
          clear hmm hup hsee
          obtain ⟨zi, hzi⟩ : ∃ l, zc.ids = l := ⟨_, rfl⟩
          rw [hzi] at HRI H5 ⊢
          obtain ⟨nz, hnz⟩ : ∃ k, zi.length = k := ⟨_, rfl⟩
          rw [hnz] at HRI H5 ⊢
          have hfd := fun w => rep_field1 (zc.err : Int) Az nz Cz (zc.cnt : Int) zc.yes (iz : Int) (lz : Int) w
          have HNZ := Lib.hid hnz
          have nz1 : (nz : Int) < 1000 := by have := HRI.out.2; omega
          have nz0 : (0 : Int) ≤ (nz : Int) := Int.natCast_nonneg _
          clear hzi hnz
          go_upto_region 18 with fail
          clear hfd
          go_wp2_with fail
          obtain ⟨wq, rfl⟩ : ∃ wl : World, wl = wr := ⟨_, rfl⟩
          obtain ⟨gP, rfl⟩ : ∃ gO : Nat, gO = gk := ⟨_, rfl⟩
          go_loopg [13] (nz - 1) (fun m s13 wr => ∃ i : Nat, (1 ≤ i ∧ i ≤ nz + 1) ∧ m = nz - i ∧ s13 = .int .i64 (i : Int) ∧ Upd [] w5 wr)
          case atStart => exact ⟨1, ⟨Nat.le_refl _, by omega⟩, rfl, rfl, Upd.refl _ _⟩
          case round =>
            obtain ⟨i, hi1, hi, rfl, hu⟩ := hrel
            have HI := Lib.hid (And.intro hi1 (And.intro hi hu))
            have i0 : (1 : Int) ≤ (i : Int) := by omega
            have i3 : (i : Int) < 3000 := by omega
            by_cases hlt : i < nz
            · have i1 : (i : Int) < (nz : Int) := by omega
              obtain ⟨k, hk⟩ : ∃ k, i = k + 1 := ⟨i - 1, by omega⟩
              have hk1 : (i : Int) - 1 = (k : Int) := by omega
              have k0 : (0 : Int) ≤ (k : Int) := Int.natCast_nonneg _
              have k1 : (k : Int) < (nz : Int) := by omega
              obtain ⟨a, haa⟩ : ∃ y, zi[k]? = some y := ⟨_, List.getElem?_eq_getElem (by rw [HNZ.out]; omega)⟩
              obtain ⟨b, hbb⟩ : ∃ y, zi[i]? = some y := ⟨_, List.getElem?_eq_getElem (by rw [HNZ.out]; omega)⟩
              obtain ⟨g1, o1, hA1, -, -, ca1⟩ := KU.at (H5.out.2.2.upd0 hu) haa
              subst hA1
              obtain ⟨g2, o2, hA2, -, -, cb1⟩ := KU.at (H5.out.2.2.upd0 hu) hbb
              cases hA2
              have hab : a < b := by
                obtain ⟨p1, q1⟩ := List.getElem?_eq_some_iff.1 haa
                obtain ⟨p2, q2⟩ := List.getElem?_eq_some_iff.1 hbb
                have := List.pairwise_iff_getElem.1 HRI.out.1 k i p1 p2 (by omega)
                rw [q1, q2] at this
                exact this
              have da : decide (b ≤ a) = false := decide_eq_false (by omega)
              have HLi := Lib.hid hlt
              clear hab haa hbb hk hi hi1 hu hlt
              go_upto_region 21 with fail
              go_quiet (fail)
              clear ca1 cb1
              go_wp2_with fail
              go_roundg (nz - (i + 1))
              case measure => have := HI.out; have := HLi.out; omega
              case rel => exact ⟨i + 1, ⟨by omega, by have := HLi.out; omega⟩, by omega, by go_num, HI.out.2.2.drewN _⟩
            · have hu9 := HI.out.2.2
              have H6 := Lib.hid (And.intro (H5.out.1.trans (hu9.mono (by simp))) (H5.out.2.1.upd0 hu9))
              clear hu9 hi hi1 hu
              have ei : (nz : Int) ≤ (i : Int) := by omega
              go_wp2_with fail
              go_roundg (gP - 1)
              case measure => have := HCk.out.1; have := HLc.out; omega
              case rel => exact ⟨c + 1, by have := HCk.out.1; have := HLc.out; omega, by have := HCk.out.2.1; omega, by go_num, H6.out.1, H6.out.2⟩
        · have ec : (c : Int) = 21 := by omega
          obtain ⟨cz, hcz⟩ : ∃ z : Int, (c : Int) = z := ⟨_, rfl⟩
          rw [hcz] at ec ⊢
          clear hc hc7 hu hm hlt c0 c1 hcz
          subst ec
          go_wp2_with fail
          (with_reducible refine (awake26 ar _).mono ?_)
          rintro e w7 ⟨rfl, hu7⟩
          have HU7 := Lib.hid hu7
          clear hu7
          go_wp2_with fail
          go_ret
          exact ⟨rfl, (HU1.out.trans' HCk.out.2.2.1 (fun y hy => .inr (by have := HB.out; simp only [List.mem_cons, List.not_mem_nil, or_false] at hy; omega))).trans HU7.out⟩
end Go.Proofs.YthnbgfnclpkdjaaGreat
