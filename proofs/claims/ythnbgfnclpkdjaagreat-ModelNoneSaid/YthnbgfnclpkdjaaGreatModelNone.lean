/- gridironlaw26.ModelNone: the walk. -/
import Derived.Test.YthnbgfnclpkdjaaGreatOpnM
import Derived.Test.YthnbgfnclpkdjaaGreatWithM
import Derived.Test.YthnbgfnclpkdjaaGreatAwkM
namespace Go.Proofs.YthnbgfnclpkdjaaGreat
open Go.RowKit

set_option maxRecDepth 100000 in
set_option maxHeartbeats 4000000 in
/-- Do of none. -/
theorem doNone (o : OpP) (v : Value) (w : World) (hn : ∀ w9, Upd [] w w9 → Calls Tryz.prog 34 #[v] w9 fun e w' => e = .returned (.bool true) ∧ w9 = w') :
    Calls Tryz.prog 13 #[v, opV o] w fun e w' => e = .returned (repV 1 0 false (.slice none 0 0) 0 0) ∧ Upd [] w w' := by
  have HN := Lib.hid hn
  clear hn
  obtain ⟨oc, oa, ob, occ, od, oi⟩ := o
  unfold opV
  dsimp only
  have hu : Upd [] w ((w.alloc (.cells #[.int .u8 (oc : Int), .int .i64 oa, .int .i64 ob, .int .i64 occ, .int .i64 od, .int .u32 (oi : Int)] 25)).alloc (.cells repZ 34)) := ((Upd.refl _ _).alloc _).alloc _
  have hrp : RpAt ((w.alloc (.cells #[.int .u8 (oc : Int), .int .i64 oa, .int .i64 ob, .int .i64 occ, .int .i64 od, .int .u32 (oi : Int)] 25)).alloc (.cells repZ 34)) (w.heap.size + 1) repZ := by
    have := heap_alloc_new (w.alloc (.cells #[.int .u8 (oc : Int), .int .i64 oa, .int .i64 ob, .int .i64 occ, .int .i64 od, .int .u32 (oi : Int)] 25)) (.cells repZ 34)
    unfold RpAt
    simpa using this
  go_enter Tryz.func13, Tryz.ntmps13
  go_upto_block 0 with fail
  generalize ((w.alloc (.cells #[.int .u8 (oc : Int), .int .i64 oa, .int .i64 ob, .int .i64 occ, .int .i64 od, .int .u32 (oi : Int)] 25)).alloc (.cells repZ 34)) = W at hrp hu ⊢
  have HF := Lib.hid (And.intro hrp hu)
  clear hrp hu
  go_upto_region 2 with (go_at_call 34; refine (HN.out _ HF.out.2).mono ?_; rintro e w' ⟨rfl, rfl⟩)
  have f0 : W.frozen? ⟨w.heap.size + 1, 0, none⟩ = false := HF.out.1.frozen 0
  have f1 : W.frozen? ⟨w.heap.size + 1, 1, none⟩ = false := HF.out.1.frozen 1
  have f2 : W.frozen? ⟨w.heap.size + 1, 2, none⟩ = false := HF.out.1.frozen 2
  have f3 : W.frozen? ⟨w.heap.size + 1, 3, none⟩ = false := HF.out.1.frozen 3
  have f4 : W.frozen? ⟨w.heap.size + 1, 4, none⟩ = false := HF.out.1.frozen 4
  have f5 : W.frozen? ⟨w.heap.size + 1, 5, none⟩ = false := HF.out.1.frozen 5
  have c0 : W.cell? ⟨w.heap.size + 1, 0, none⟩ = some (.int .i64 0) := HF.out.1.cell 0
  have c1 : W.cell? ⟨w.heap.size + 1, 1, none⟩ = some (.slice none 0 0) := HF.out.1.cell 1
  have c2 : W.cell? ⟨w.heap.size + 1, 2, none⟩ = some (.int .i64 0) := HF.out.1.cell 2
  have c3 : W.cell? ⟨w.heap.size + 1, 3, none⟩ = some (.bool false) := HF.out.1.cell 3
  have c4 : W.cell? ⟨w.heap.size + 1, 4, none⟩ = some (.int .u64 0) := HF.out.1.cell 4
  have c5 : W.cell? ⟨w.heap.size + 1, 5, none⟩ = some (.int .u64 0) := HF.out.1.cell 5
  have HP := Lib.hid (And.intro (HF.out.1.put (.int .i64 1) (.slice none 0 0) (.int .i64 0) (.bool false) (.int .u64 0) (.int .u64 0)) (upd_put (q := w.heap.size + 1) (Upd.refl [w.heap.size + 1] W) (.inl (by simp)) (.int .i64 1) (.slice none 0 0) (.int .i64 0) (.bool false) (.int .u64 0) (.int .u64 0)))
  go_wp2_with fail
  have y0 := HP.out.1.cell 0
  have y1 := HP.out.1.cell 1
  have y2 := HP.out.1.cell 2
  have y3 := HP.out.1.cell 3
  have y4 := HP.out.1.cell 4
  have y5 := HP.out.1.cell 5
  simp only [List.getElem?_toArray, List.getElem?_cons_zero, List.getElem?_cons_succ] at y0 y1 y2 y3 y4 y5
  refine bodyPost_ret (v := repV 1 0 false (.slice none 0 0) 0 0) ?_ rfl ⟨rfl, ?_⟩
  · simp [repV, results, Tryz.results13, go_sem, y0, y1, y2, y3, y4, y5]
  · exact HF.out.2.trans' HP.out.2 (fun y hy => .inr (by simp at hy; omega))

set_option maxRecDepth 100000 in
set_option maxHeartbeats 8000000 in
theorem modelNone_walk {A R : List Bx → Nat} (ar : AR A R) (o : OpP) (room : Int) (w : World) :
    Calls Tryz.prog 9 #[opV o, .int .i64 room] w fun e w' => e = .returned (.bool true) ∧ Upd [] w w' := by
  obtain ⟨oc, oa, ob, occ, od, oi⟩ := o
  have hdn := doNone ⟨oc, oa, ob, occ, od, oi⟩
  unfold opV at hdn ⊢
  dsimp only at hdn ⊢
  have HDN := Lib.hid hdn
  clear hdn
  have HU0 := Lib.hid (show Upd [] w (w.alloc (.cells #[.int .u8 (oc : Int), .int .i64 oa, .int .i64 ob, .int .i64 occ, .int .i64 od, .int .u32 (oi : Int)] 25)) from (Upd.refl _ _).alloc _)
  have HC0 := Lib.hid (op_new w #[.int .u8 (oc : Int), .int .i64 oa, .int .i64 ob, .int .i64 occ, .int .i64 od, .int .u32 (oi : Int)])
  go_enter Tryz.func9, Tryz.ntmps9
  go_upto_region 1 with fail
  generalize (w.alloc (.cells #[.int .u8 (oc : Int), .int .i64 oa, .int .i64 ob, .int .i64 occ, .int .i64 od, .int .u32 (oi : Int)] 25)) = W0 at HU0 HC0 ⊢
  obtain ⟨qo, hqo⟩ : ∃ q, w.heap.size = q := ⟨_, rfl⟩
  rw [hqo] at HC0 ⊢
  clear hqo
  go_wp2_with fail
  have hz : HpC ((W0.alloc (.cells #[.int .i64 0, .map none, .map none, .map none] 76)).alloc (.cells #[.pointer none, .pointer (some ⟨W0.heap.size, 0, none⟩)] 26)) W0.heap.size #[.int .i64 0, .map none, .map none, .map none] 76 := HpC.upd (heap_alloc_new W0 _) ((Upd.refl [] _).alloc _) (by simp)
  have hsl : HpC ((W0.alloc (.cells #[.int .i64 0, .map none, .map none, .map none] 76)).alloc (.cells #[.pointer none, .pointer (some ⟨W0.heap.size, 0, none⟩)] 26)) (W0.heap.size + 1) #[.pointer none, .pointer (some ⟨W0.heap.size, 0, none⟩)] 26 := by
    have := heap_alloc_new (W0.alloc (.cells #[.int .i64 0, .map none, .map none, .map none] 76)) (.cells #[.pointer none, .pointer (some ⟨W0.heap.size, 0, none⟩)] 26)
    unfold HpC
    simpa using this
  have hu : Upd [] W0 ((W0.alloc (.cells #[.int .i64 0, .map none, .map none, .map none] 76)).alloc (.cells #[.pointer none, .pointer (some ⟨W0.heap.size, 0, none⟩)] 26)) := ((Upd.refl _ _).alloc _).alloc _
  have HC1 := Lib.hid (HC0.out.upd0 hu)
  have HU1 := Lib.hid (HU0.out.trans hu)
  clear hu
  generalize ((W0.alloc (.cells #[.int .i64 0, .map none, .map none, .map none] 76)).alloc (.cells #[.pointer none, .pointer (some ⟨W0.heap.size, 0, none⟩)] 26)) = W1 at hz hsl HC1 HU1 ⊢
  obtain ⟨qs, hqs⟩ : ∃ q, W0.heap.size + 1 = q := ⟨_, rfl⟩
  obtain ⟨qz, hqz⟩ : ∃ q, W0.heap.size = q := ⟨_, rfl⟩
  rw [hqs] at hsl ⊢
  rw [hqz] at hsl hz ⊢
  have hpick : ∀ k : Nat, k < 2 → ∃ pv, W1.cell? ⟨qs, k, none⟩ = some pv ∧ ∀ w9, Upd [] W1 w9 → Calls Tryz.prog 34 #[pv] w9 fun e w' => e = .returned (.bool true) ∧ w9 = w' := fun k hk => by
    rcases (show k = 0 ∨ k = 1 by omega) with rfl | rfl
    · exact ⟨_, hsl.cell 0, fun w9 _ => noneMnil w9⟩
    · refine ⟨_, hsl.cell 1, fun w9 hu => noneMzero w9 qz ?_⟩
      exact (hz.upd hu (by simp)).cell 1
  have HPI := Lib.hid hpick
  have HSl := Lib.hid hsl
  clear hpick hz hsl hqs hqz HC0 HU0
  go_loopg [16] 2 (fun m s16 wr => ∃ k : Nat, m + k = 2 ∧ s16 = .int .i64 (k : Int) ∧ Upd [] W1 wr)
  case atStart => exact ⟨0, rfl, rfl, Upd.refl _ _⟩
  case round =>
    obtain ⟨k, hk, rfl, hu⟩ := hrel
    have HK := Lib.hid (And.intro hk hu)
    have k0 : (0 : Int) ≤ (k : Int) := Int.natCast_nonneg _
    have k3 : (k : Int) < 3 := by omega
    by_cases hlt : k < 2
    · have k2 : (k : Int) < 2 := by omega
      obtain ⟨pv, hpv, hno⟩ := HPI.out k hlt
      have hpv := (hu.cell (World.block_lt_of_cell? _ _ hpv) (by simp)).trans hpv
      have HNO := Lib.hid hno
      have HLT := Lib.hid hlt
      have hcl := HC1.out.upd0 hu
      have o0 := hcl 0 _ rfl
      have o1 := hcl 1 _ rfl
      have o2 := hcl 2 _ rfl
      have o3 := hcl 3 _ rfl
      have o4 := hcl 4 _ rfl
      have o5 := hcl 5 _ rfl
      have hd := HDN.out pv wr (fun w9 h9 => hno w9 (hu.trans h9))
      have HD := Lib.hid hd
      clear hno hcl hd hk hu hlt
      go_wp2_with fail
      (with_reducible refine HD.out.mono ?_)
      rintro e w2 ⟨rfl, hu2⟩
      have HU2 := Lib.hid (HK.out.2.trans hu2)
      clear hu2 o0 o1 o2 o3 o4 o5 hpv
      unfold repV
      go_wp2_with fail
      have hr1 : RepAt w2 (.agg #[.int .i64 1, .slice none 0 0, .int .i64 0, .bool false, .int .u64 0, .int .u64 0]) (err 1) := repAt_err w2 1
      have hsm := sameC _ _ (err 1) (err 1) w2 hr1 hr1 (by simp [err]) (by simp [err])
      (with_reducible refine hsm.mono ?_)
      clear hsm hr1
      rintro e w3 ⟨b, rfl, hb, hu3⟩
      have eb : b = true := hb.2 rfl
      subst eb
      have HU3 := Lib.hid (HU2.out.trans hu3)
      clear hb hu3
      go_wp2_with fail
      (with_reducible refine (noPoints w3 pv (HNO.out w3 HU3.out)).mono ?_)
      rintro e w4 ⟨rfl, rfl⟩
      go_wp2_with fail
      (with_reducible refine (noSpans w3 pv (HNO.out w3 HU3.out)).mono ?_)
      rintro e w4 ⟨rfl, rfl⟩
      go_wp2_with fail
      (with_reducible refine (noBoxes w3 pv (HNO.out w3 HU3.out)).mono ?_)
      rintro e w4 ⟨rfl, rfl⟩
      go_wp2_with fail
      go_roundg (2 - (k + 1))
      case measure => have := HK.out.1; have := HLT.out; omega
      case rel => exact ⟨k + 1, by have := HK.out.1; have := HLT.out; omega, by go_num, HU3.out⟩
    · have ek : (k : Int) = 2 := by omega
      obtain ⟨kz, hkz⟩ : ∃ z : Int, (k : Int) = z := ⟨_, rfl⟩
      rw [hkz] at ek ⊢
      clear hk hu hlt k0 k3 hkz
      subst ek
      go_wp2_with fail
      (with_reducible refine (newMC room _).mono ?_)
      rintro e w2 ⟨hu2, hnew⟩
      have HU2 := Lib.hid ((HU1.out.trans HK.out.2).trans hu2)
      clear hu2
      by_cases hr : 1 ≤ room ∧ room ≤ 2147483648
      · rw [if_pos hr] at hnew
        obtain ⟨h, p, s, x, rfl, -⟩ := hnew
        have d1 : decide (1 ≤ room) = true := decide_eq_true hr.1
        have d2 : decide (room ≤ 2147483648) = true := decide_eq_true hr.2
        clear hr
        go_wp2_with fail
        (with_reducible refine (awake26 ar _).mono ?_)
        rintro e w7 ⟨rfl, hu7⟩
        have HU7 := Lib.hid hu7
        clear hu7
        go_wp2_with fail
        go_ret
        exact ⟨rfl, HU2.out.trans HU7.out⟩
      · rw [if_neg hr] at hnew
        subst hnew
        by_cases h1 : 1 ≤ room
        · have d1 : decide (1 ≤ room) = true := decide_eq_true h1
          have d2 : decide (room ≤ 2147483648) = false := decide_eq_false (by omega)
          clear hr h1
          go_wp2_with fail
          (with_reducible refine (awake26 ar _).mono ?_)
          rintro e w7 ⟨rfl, hu7⟩
          have HU7 := Lib.hid hu7
          clear hu7
          go_wp2_with fail
          go_ret
          exact ⟨rfl, HU2.out.trans HU7.out⟩
        · have d1 : decide (1 ≤ room) = false := decide_eq_false h1
          clear hr h1
          go_wp2_with fail
          (with_reducible refine (awake26 ar _).mono ?_)
          rintro e w7 ⟨rfl, hu7⟩
          have HU7 := Lib.hid hu7
          clear hu7
          go_wp2_with fail
          go_ret
          exact ⟨rfl, HU2.out.trans HU7.out⟩
end Go.Proofs.YthnbgfnclpkdjaaGreat
