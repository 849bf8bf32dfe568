/- AreaParts: plainly; the walk. -/
import Derived.Test.YtokpdocabmaagaaGreatLaw17
import Derived.Test.YtokpdocabmaagaaGreatWideD
import Derived.Test.YtokpdocabmaagaaGreatOneP
import Derived.Test.YtokpdocabmaagaaGreatVarB
import Derived.Test.YtokpdocabmaagaaGreatRegP
namespace Go.Proofs.YtokpdocabmaagaaGreat
open Go.RowKit

theorem cov_more (l m : List Bx) (x y : Int) : covB (l ++ m) x y = (covB l x y || m.any fun b => b.cell x y) := by
  unfold covB; rw [List.any_append]

/-- The pieces. -/
def cutX (b : Bx) (m : Int) : Bx × Bx := (⟨b.x1, m, b.y1, b.y2, b.id⟩, ⟨m, b.x2, b.y1, b.y2, b.id⟩)
def cutY (b : Bx) (m : Int) : Bx × Bx := (⟨b.x1, b.x2, b.y1, m, b.id⟩, ⟨b.x1, b.x2, m, b.y2, b.id⟩)

theorem area_more {l m : List Bx} {b : Bx} (h : ∀ x y, (m.any fun c => c.cell x y) = b.cell x y) : areaA (l ++ m) = areaA (l ++ [b]) := areaA_congr fun x y => by
  rw [cov_more, cov_more, h]; simp
theorem area_none {l : List Bx} {b : Bx} (h : ∀ x y, b.cell x y = false) : areaA (l ++ [b]) = areaA (l ++ []) := areaA_congr fun x y => by
  rw [cov_more, cov_more]; simp [h]

theorem area_parts {b : Bx} {m1 m2 : Int} (h1 : b.x1 ≤ m1 ∧ m1 ≤ b.x2) (h2 : b.y1 ≤ m2 ∧ m2 ≤ b.y2) (l : List Bx) :
    areaA (l ++ [(cutX b m1).1, (cutX b m1).2]) = areaA (l ++ [b]) ∧ areaA (l ++ [(cutY b m2).1, (cutY b m2).2]) = areaA (l ++ [b]) ∧ areaA (l ++ [b, b]) = areaA (l ++ [b]) ∧ areaA (l ++ [(cutX b m1).1, b, (cutY b m2).2]) = areaA (l ++ [b]) := by
  refine ⟨area_more fun x y => ?_, area_more fun x y => ?_, area_more fun x y => ?_, area_more fun x y => ?_⟩ <;>
  · simp only [List.any_cons, List.any_nil, Bool.or_false]
    try unfold cutX
    try unfold cutY
    unfold Bx.cell
    rw [Bool.eq_iff_iff]
    simp only [Bool.or_eq_true, decide_eq_true_eq]
    omega

/-- Cells that hold. -/
def cellsAt (w : World) : List (Addr × Value) → Prop
  | [] => True
  | (a, v) :: r => w.cell? a = some v ∧ cellsAt w r
theorem keepL {w w' : World} (hu : Upd [] w w') : ∀ {L : List (Addr × Value)}, cellsAt w L → cellsAt w' L
  | [], _ => trivial
  | (_, _) :: _, h => ⟨(hu.cell (World.block_lt_of_cell? w _ h.1) (by simp)).trans h.1, keepL hu h.2⟩


theorem wide_sameP (a b : Int) (w : World) : (binOp .eql 27 (.agg #[.int .u64 a, .int .u64 b]) (.agg #[.int .u64 a, .int .u64 b])).run Tryz.prog w = .ok (.bool true) w := by
  rw [run_eql_struct, run_equalIn_agg _ _ _ _ _ (by kernel_rfl) (by kernel_rfl)]
  go_simp
theorem wide_nsameP (a b : Int) (w : World) : (binOp .neq 27 (.agg #[.int .u64 a, .int .u64 b]) (.agg #[.int .u64 a, .int .u64 b])).run Tryz.prog w = .ok (.bool false) w := by
  rw [run_neq_struct, run_equalIn_agg _ _ _ _ _ (by kernel_rfl) (by kernel_rfl)]
  go_simp

def S16 (w : World) (pa pb pc pd q p13 : Nat) (b : Bx) (m1 m2 : Int) (bh bl : Nat) : Prop :=
  BAt w pa (cutX b m1).1 ∧ BAt w pb (cutX b m1).2 ∧ BAt w pc (cutY b m2).1 ∧ BAt w pd (cutY b m2).2 ∧ BAt w q b ∧ WAt w p13 bh bl
theorem S16.keep {w w' : World} {pa pb pc pd q p13 : Nat} {b : Bx} {m1 m2 : Int} {bh bl : Nat} (h : S16 w pa pb pc pd q p13 b m1 m2 bh bl) (hu : Upd [] w w') : S16 w' pa pb pc pd q p13 b m1 m2 bh bl :=
  ⟨h.1.upd0 hu, h.2.1.upd0 hu, h.2.2.1.upd0 hu, h.2.2.2.1.upd0 hu, h.2.2.2.2.1.upd0 hu, h.2.2.2.2.2.upd0 hu⟩

def G9 (w : World) (pa pb pc pd q pf : Nat) (b : Bx) (m1 m2 : Int) : Prop :=
  BAt w pa (cutX b m1).1 ∧ BAt w pb (cutX b m1).2 ∧ BAt w pc (cutY b m2).1 ∧ BAt w pd (cutY b m2).2 ∧ BAt w q b ∧ BAt w pf ⟨b.x1, b.x1, b.y1, b.y2, b.id⟩
theorem G9.upd {F : List Nat} {w w' : World} {pa pb pc pd q pf : Nat} {b : Bx} {m1 m2 : Int} (h : G9 w pa pb pc pd q pf b m1 m2) (hu : Upd F w w') (hd : ∀ j ∈ F, j ≠ pa ∧ j ≠ pb ∧ j ≠ pc ∧ j ≠ pd ∧ j ≠ q ∧ j ≠ pf) : G9 w' pa pb pc pd q pf b m1 m2 :=
  ⟨h.1.upd hu fun x => (hd _ x).1 rfl, h.2.1.upd hu fun x => (hd _ x).2.1 rfl, h.2.2.1.upd hu fun x => (hd _ x).2.2.1 rfl, h.2.2.2.1.upd hu fun x => (hd _ x).2.2.2.1 rfl, h.2.2.2.2.1.upd hu fun x => (hd _ x).2.2.2.2.1 rfl, h.2.2.2.2.2.upd hu fun x => (hd _ x).2.2.2.2.2 rfl⟩
theorem G9.keep {w w' : World} {pa pb pc pd q pf : Nat} {b : Bx} {m1 m2 : Int} (h : G9 w pa pb pc pd q pf b m1 m2) (hu : Upd [] w w') : G9 w' pa pb pc pd q pf b m1 m2 := h.upd hu (by simp)
theorem G9.lt {w : World} {pa pb pc pd q pf : Nat} {b : Bx} {m1 m2 : Int} (h : G9 w pa pb pc pd q pf b m1 m2) : pa < w.heap.size ∧ pb < w.heap.size ∧ pc < w.heap.size ∧ pd < w.heap.size ∧ q < w.heap.size ∧ pf < w.heap.size :=
  ⟨h.1.lt, h.2.1.lt, h.2.2.1.lt, h.2.2.2.1.lt, h.2.2.2.2.1.lt, h.2.2.2.2.2.lt⟩

set_option maxRecDepth 100000 in
set_option maxHeartbeats 8000000 in
theorem areaParts_walk (v : Value) (l : List Bx) (b : Bx) (cut : Int) (w : World) (hs : See KBx w v l) (hb : ∀ b ∈ l, b.in64) (h64 : b.in64) (hcut : -9223372036854775808 ≤ cut ∧ cut ≤ 9223372036854775807) :
    Calls Tryz.prog 5 #[v, bxV b, .int .i64 cut] w fun e w' => e = .returned (.bool true) ∧ Below w.heap.size w w' := by
  obtain ⟨A, C, rfl⟩ := hs.form
  unfold bxV
  by_cases hout : 20 < l.length
  · have d1 : decide ((20 : Int) < (l.length : Int)) = true := decide_eq_true (by omega)
    clear hs hb hout h64 hcut
    go_enter Tryz.func5, Tryz.ntmps5
    go_wp2_with fail
    (with_reducible refine (awake17 _).mono ?_)
    rintro e w6 ⟨rfl, hu6⟩
    have HU6 := Lib.hid (((Upd.refl [] w).alloc _).trans hu6)
    clear hu6
    go_wp2_with fail
    go_ret
    exact ⟨rfl, HU6.out.below⟩
  · have d1 : decide ((20 : Int) < (l.length : Int)) = false := decide_eq_false (by omega)
    obtain ⟨iB, hiB, hB0, hB1, hB2⟩ := info_parts info_box
    obtain ⟨n, hn⟩ : ∃ n, l.length = n := ⟨_, rfl⟩
    have hs' : See KBx w (.slice A n C) l := by rw [← hn]; exact hs
    rw [hn] at d1 ⊢
    have HN := Lib.hid (show l.length = n ∧ n ≤ 20 from ⟨hn, by omega⟩)
    have HS := Lib.hid hs'
    have HLB := Lib.hid hb
    have hnb := BAt.new w b
    have hub : Upd [] w (w.alloc (.cells #[.int .i64 b.x1, .int .i64 b.x2, .int .i64 b.y1, .int .i64 b.y2, .int .u32 (b.id : Int)] 34)) := (Upd.refl _ _).alloc _
    have HB6 := Lib.hid (And.intro hub hnb)
    have H64 := Lib.hid (And.intro h64 hcut)
    clear hs hb hout h64 hcut hn hs' hnb hub
    go_enter Tryz.func5, Tryz.ntmps5
    go_upto_region 1 with fail
    generalize (w.alloc (.cells #[.int .i64 b.x1, .int .i64 b.x2, .int .i64 b.y1, .int .i64 b.y2, .int .u32 (b.id : Int)] 34)) = W6 at HB6 ⊢
    generalize w.heap.size = p3 at HB6 ⊢
    go_upto_region 3 with fail
    clear d1
    obtain ⟨Wd, hWd⟩ : ∃ Wd, Wd = W6.drew := ⟨_, rfl⟩
    have HUd := Lib.hid (show Upd [] W6 Wd by rw [hWd]; exact (Upd.refl _ _).drew)
    -- region 3: T waits for all loads; fuel 1
    refine GoT.start [] (fun w' => BAt w' p3 b) (by kernel_rfl) ?_ fun hS => ?_
    · rw [← hWd]; exact HB6.out.2.upd0 HUd.out
    rw [← hWd] at hS ⊢
    clear hWd
    refine' GoT.take 1 (i := 0) (oi := ⟨some 19, _, _, _, _, _⟩) (v := _) rfl (by kernel_rfl) (by kernel_rfl) (by kernel_rfl) (by kernel_rfl) (fun _ _ _ h => h) (Or.inl ⟨by rfl, ?y3_0⟩) (by assumption) ?r3_0
    case y3_0 => intro w hSw; obtain ⟨c0, c1, c2, c3, c4⟩ := BAt.cells hSw; go_simp <;> with_reducible rfl
    simp only [Act.put, List.setIfInBounds_toArray, List.set_cons_zero, List.set_cons_succ]
    refine' GoT.take 1 (i := 1) (oi := ⟨some 20, _, _, _, _, _⟩) (v := _) rfl (by kernel_rfl) (by kernel_rfl) (by kernel_rfl) (by kernel_rfl) (fun _ _ _ h => h) (Or.inl ⟨by rfl, ?y3_1⟩) (by assumption) ?r3_1
    case y3_1 => intro w hSw; obtain ⟨c0, c1, c2, c3, c4⟩ := BAt.cells hSw; go_simp <;> with_reducible rfl
    simp only [Act.put, List.setIfInBounds_toArray, List.set_cons_zero, List.set_cons_succ]
    refine' GoT.take 1 (i := 2) (oi := ⟨some 21, _, _, _, _, _⟩) (v := _) rfl (by kernel_rfl) (by kernel_rfl) (by kernel_rfl) (by kernel_rfl) (fun _ _ _ h => h) (Or.inl ⟨by rfl, ?y3_2⟩) (by assumption) ?r3_2
    case y3_2 => intro w hSw; obtain ⟨c0, c1, c2, c3, c4⟩ := BAt.cells hSw; go_simp <;> with_reducible rfl
    simp only [Act.put, List.setIfInBounds_toArray, List.set_cons_zero, List.set_cons_succ]
    refine' GoT.take 1 (i := 3) (oi := ⟨some 22, _, _, _, _, _⟩) (v := _) rfl (by kernel_rfl) (by kernel_rfl) (by kernel_rfl) (by kernel_rfl) (fun _ _ _ h => h) (Or.inl ⟨by rfl, ?y3_3⟩) (by assumption) ?r3_3
    case y3_3 => intro w hSw; obtain ⟨c0, c1, c2, c3, c4⟩ := BAt.cells hSw; go_simp <;> with_reducible rfl
    simp only [Act.put, List.setIfInBounds_toArray, List.set_cons_zero, List.set_cons_succ]
    refine GoT.phase [4, 5, 6, 7] 4 (L1 := #[true, true, true, true, true, true, true, true, false, false, false, false]) (m := 4)
      (fun a0 D a w' => ∃ (pa pb pc pd : Nat), a = putIf D 4 7 (.pointer (some ⟨pa, 0, none⟩)) (putIf D 5 8 (.pointer (some ⟨pb, 0, none⟩)) (putIf D 6 9 (.pointer (some ⟨pc, 0, none⟩)) (putIf D 7 10 (.pointer (some ⟨pd, 0, none⟩)) a0))) ∧ Upd [] Wd w' ∧ (D 4 = true → BAt w' pa ⟨0, 0, 0, 0, 0⟩ ∧ Wd.heap.size ≤ pa) ∧ (D 5 = true → BAt w' pb ⟨0, 0, 0, 0, 0⟩ ∧ Wd.heap.size ≤ pb) ∧ (D 6 = true → BAt w' pc ⟨0, 0, 0, 0, 0⟩ ∧ Wd.heap.size ≤ pc) ∧ (D 7 = true → BAt w' pd ⟨0, 0, 0, 0, 0⟩ ∧ Wd.heap.size ≤ pd) ∧ (D 4 = true → D 5 = true → pa ≠ pb) ∧ (D 4 = true → D 6 = true → pa ≠ pc) ∧ (D 4 = true → D 7 = true → pa ≠ pd) ∧ (D 5 = true → D 6 = true → pb ≠ pc) ∧ (D 5 = true → D 7 = true → pb ≠ pd) ∧ (D 6 = true → D 7 = true → pc ≠ pd))
      (by kernel_rfl) (by decide) (by kernel_rfl) (by kernel_rfl) (by kernel_rfl) (by kernel_rfl) (by kernel_rfl) (by kernel_rfl) (by kernel_rfl) ?_ ?_ ?_
    · exact ⟨0, 0, 0, 0, by simp [putIf], Upd.refl _ _, fun h => by simp at h, fun h => by simp at h, fun h => by simp at h, fun h => by simp at h, fun h => by simp at h, fun h => by simp at h, fun h => by simp at h, fun h => by simp at h, fun h => by simp at h, fun h => by simp at h⟩
    · intro i hi D a' w' hJ hout hDi hdep
      obtain ⟨pa, pb, pc, pd, rfl, hu, fa, fb, fc, fd, g01, g02, g03, g12, g13, g23⟩ := hJ
      simp only [List.mem_cons, List.not_mem_nil, or_false] at hi
      rcases hi with rfl | rfl | rfl | rfl
      · refine wpOp_hid (o := ⟨some 7, _, _, _, _, _⟩) rfl fun K hK => ?_
        simp only [putIf, Array.getD_eq_getD_getElem?, List.setIfInBounds_toArray, List.set_cons_zero, List.set_cons_succ, List.getElem?_toArray, List.getElem?_cons_zero, List.getElem?_cons_succ, Option.getD_some]
        go_simp
        have hu2 : Upd [] w' (w'.alloc (.cells #[.int .i64 0, .int .i64 0, .int .i64 0, .int .i64 0, .int .u32 0] 34)) := (Upd.refl _ _).alloc _
        have hnew : BAt (w'.alloc (.cells #[.int .i64 0, .int .i64 0, .int .i64 0, .int .i64 0, .int .u32 0] 34)) w'.heap.size ⟨0, 0, 0, 0, 0⟩ := heap_alloc_new _ _
        have hge := hu.size
        refine hK.out _ _ ⟨fun h => BAt.upd0 h hu2, w'.heap.size, pb, pc, pd, by simp [putIf, updD], hu.trans hu2, fun h => ?_, fun h => ?_, fun h => ?_, fun h => ?_, fun h h2 => ?_, fun h h2 => ?_, fun h h2 => ?_, fun h h2 => ?_, fun h h2 => ?_, fun h h2 => ?_⟩
        · exact ⟨hnew, hge⟩
        · exact ⟨(fb (by simpa [updD] using h)).1.upd0 hu2, (fb (by simpa [updD] using h)).2⟩
        · exact ⟨(fc (by simpa [updD] using h)).1.upd0 hu2, (fc (by simpa [updD] using h)).2⟩
        · exact ⟨(fd (by simpa [updD] using h)).1.upd0 hu2, (fd (by simpa [updD] using h)).2⟩
        · have := (fb (by simpa [updD] using h2)).1.lt; omega
        · have := (fc (by simpa [updD] using h2)).1.lt; omega
        · have := (fd (by simpa [updD] using h2)).1.lt; omega
        · exact g12 (by simpa [updD] using h) (by simpa [updD] using h2)
        · exact g13 (by simpa [updD] using h) (by simpa [updD] using h2)
        · exact g23 (by simpa [updD] using h) (by simpa [updD] using h2)
      · refine wpOp_hid (o := ⟨some 8, _, _, _, _, _⟩) rfl fun K hK => ?_
        simp only [putIf, Array.getD_eq_getD_getElem?, List.setIfInBounds_toArray, List.set_cons_zero, List.set_cons_succ, List.getElem?_toArray, List.getElem?_cons_zero, List.getElem?_cons_succ, Option.getD_some]
        go_simp
        have hu2 : Upd [] w' (w'.alloc (.cells #[.int .i64 0, .int .i64 0, .int .i64 0, .int .i64 0, .int .u32 0] 34)) := (Upd.refl _ _).alloc _
        have hnew : BAt (w'.alloc (.cells #[.int .i64 0, .int .i64 0, .int .i64 0, .int .i64 0, .int .u32 0] 34)) w'.heap.size ⟨0, 0, 0, 0, 0⟩ := heap_alloc_new _ _
        have hge := hu.size
        refine hK.out _ _ ⟨fun h => BAt.upd0 h hu2, pa, w'.heap.size, pc, pd, by simp [putIf, updD], hu.trans hu2, fun h => ?_, fun h => ?_, fun h => ?_, fun h => ?_, fun h h2 => ?_, fun h h2 => ?_, fun h h2 => ?_, fun h h2 => ?_, fun h h2 => ?_, fun h h2 => ?_⟩
        · exact ⟨(fa (by simpa [updD] using h)).1.upd0 hu2, (fa (by simpa [updD] using h)).2⟩
        · exact ⟨hnew, hge⟩
        · exact ⟨(fc (by simpa [updD] using h)).1.upd0 hu2, (fc (by simpa [updD] using h)).2⟩
        · exact ⟨(fd (by simpa [updD] using h)).1.upd0 hu2, (fd (by simpa [updD] using h)).2⟩
        · have := (fa (by simpa [updD] using h)).1.lt; omega
        · exact g02 (by simpa [updD] using h) (by simpa [updD] using h2)
        · exact g03 (by simpa [updD] using h) (by simpa [updD] using h2)
        · have := (fc (by simpa [updD] using h2)).1.lt; omega
        · have := (fd (by simpa [updD] using h2)).1.lt; omega
        · exact g23 (by simpa [updD] using h) (by simpa [updD] using h2)
      · refine wpOp_hid (o := ⟨some 9, _, _, _, _, _⟩) rfl fun K hK => ?_
        simp only [putIf, Array.getD_eq_getD_getElem?, List.setIfInBounds_toArray, List.set_cons_zero, List.set_cons_succ, List.getElem?_toArray, List.getElem?_cons_zero, List.getElem?_cons_succ, Option.getD_some]
        go_simp
        have hu2 : Upd [] w' (w'.alloc (.cells #[.int .i64 0, .int .i64 0, .int .i64 0, .int .i64 0, .int .u32 0] 34)) := (Upd.refl _ _).alloc _
        have hnew : BAt (w'.alloc (.cells #[.int .i64 0, .int .i64 0, .int .i64 0, .int .i64 0, .int .u32 0] 34)) w'.heap.size ⟨0, 0, 0, 0, 0⟩ := heap_alloc_new _ _
        have hge := hu.size
        refine hK.out _ _ ⟨fun h => BAt.upd0 h hu2, pa, pb, w'.heap.size, pd, by simp [putIf, updD], hu.trans hu2, fun h => ?_, fun h => ?_, fun h => ?_, fun h => ?_, fun h h2 => ?_, fun h h2 => ?_, fun h h2 => ?_, fun h h2 => ?_, fun h h2 => ?_, fun h h2 => ?_⟩
        · exact ⟨(fa (by simpa [updD] using h)).1.upd0 hu2, (fa (by simpa [updD] using h)).2⟩
        · exact ⟨(fb (by simpa [updD] using h)).1.upd0 hu2, (fb (by simpa [updD] using h)).2⟩
        · exact ⟨hnew, hge⟩
        · exact ⟨(fd (by simpa [updD] using h)).1.upd0 hu2, (fd (by simpa [updD] using h)).2⟩
        · exact g01 (by simpa [updD] using h) (by simpa [updD] using h2)
        · have := (fa (by simpa [updD] using h)).1.lt; omega
        · exact g03 (by simpa [updD] using h) (by simpa [updD] using h2)
        · have := (fb (by simpa [updD] using h)).1.lt; omega
        · exact g13 (by simpa [updD] using h) (by simpa [updD] using h2)
        · have := (fd (by simpa [updD] using h2)).1.lt; omega
      · refine wpOp_hid (o := ⟨some 10, _, _, _, _, _⟩) rfl fun K hK => ?_
        simp only [putIf, Array.getD_eq_getD_getElem?, List.setIfInBounds_toArray, List.set_cons_zero, List.set_cons_succ, List.getElem?_toArray, List.getElem?_cons_zero, List.getElem?_cons_succ, Option.getD_some]
        go_simp
        have hu2 : Upd [] w' (w'.alloc (.cells #[.int .i64 0, .int .i64 0, .int .i64 0, .int .i64 0, .int .u32 0] 34)) := (Upd.refl _ _).alloc _
        have hnew : BAt (w'.alloc (.cells #[.int .i64 0, .int .i64 0, .int .i64 0, .int .i64 0, .int .u32 0] 34)) w'.heap.size ⟨0, 0, 0, 0, 0⟩ := heap_alloc_new _ _
        have hge := hu.size
        refine hK.out _ _ ⟨fun h => BAt.upd0 h hu2, pa, pb, pc, w'.heap.size, by simp [putIf, updD], hu.trans hu2, fun h => ?_, fun h => ?_, fun h => ?_, fun h => ?_, fun h h2 => ?_, fun h h2 => ?_, fun h h2 => ?_, fun h h2 => ?_, fun h h2 => ?_, fun h h2 => ?_⟩
        · exact ⟨(fa (by simpa [updD] using h)).1.upd0 hu2, (fa (by simpa [updD] using h)).2⟩
        · exact ⟨(fb (by simpa [updD] using h)).1.upd0 hu2, (fb (by simpa [updD] using h)).2⟩
        · exact ⟨(fc (by simpa [updD] using h)).1.upd0 hu2, (fc (by simpa [updD] using h)).2⟩
        · exact ⟨hnew, hge⟩
        · exact g01 (by simpa [updD] using h) (by simpa [updD] using h2)
        · exact g02 (by simpa [updD] using h) (by simpa [updD] using h2)
        · have := (fa (by simpa [updD] using h)).1.lt; omega
        · exact g12 (by simpa [updD] using h) (by simpa [updD] using h2)
        · have := (fb (by simpa [updD] using h)).1.lt; omega
        · have := (fc (by simpa [updD] using h)).1.lt; omega
    · intro a' w' hJ
      obtain ⟨pa, pb, pc, pd, rfl, hu, fa, fb, fc, fd, g01, g02, g03, g12, g13, g23⟩ := hJ
      have kpa := fa (by rfl)
      have kpb := fb (by rfl)
      have kpc := fc (by rfl)
      have kpd := fd (by rfl)
      have e01 := g01 (by rfl) (by rfl)
      have e02 := g02 (by rfl) (by rfl)
      have e03 := g03 (by rfl) (by rfl)
      have e12 := g12 (by rfl) (by rfl)
      have e13 := g13 (by rfl) (by rfl)
      have e23 := g23 (by rfl) (by rfl)
      clear fa fb fc fd g01 g02 g03 g12 g13 g23
      simp [putIf]
      obtain ⟨kpa, bpa⟩ := kpa
      obtain ⟨kpb, bpb⟩ := kpb
      obtain ⟨kpc, bpc⟩ := kpc
      obtain ⟨kpd, bpd⟩ := kpd
      obtain ⟨z0, z1, z2, z3, z4⟩ := kpa.cells
      have zf0 := kpa.free 0
      have zf1 := kpa.free 1
      have zf2 := kpa.free 2
      have zf3 := kpa.free 3
      have zf4 := kpa.free 4
      have hst : Upd [pa] w' (w'.setCells pa 0 [.int .i64 b.x1, .int .i64 b.x2, .int .i64 b.y1, .int .i64 b.y2, .int .u32 (b.id : Int)]) := upd_puts pa _ 0 _
      have hub := hu.size
      have nk : BAt (w'.setCells pa 0 [.int .i64 b.x1, .int .i64 b.x2, .int .i64 b.y1, .int .i64 b.y2, .int .u32 (b.id : Int)]) pa b := kpa.puts b
      have hu := hu.trans' hst (fun j hj => .inr (by simp at hj; omega))
      have kpb := kpb.upd hst (by simp; exact Ne.symm e01)
      have kpc := kpc.upd hst (by simp; exact Ne.symm e02)
      have kpd := kpd.upd hst (by simp; exact Ne.symm e03)
      refine GoT.one (i := 8) (o := ⟨none, _, _, _, _, _⟩) rfl (by kernel_rfl) fun K hK => ?_
      go_simp
      refine hK.out _ _ (fun _ h => BAt.upd h hst (by have := (HB6.out.2.upd0 HUd.out).lt; simp; omega)) ?_
      clear hK K
      try simp only [List.setIfInBounds_toArray, List.set_cons_zero, List.set_cons_succ]
      clear z0 z1 z2 z3 z4 zf0 zf1 zf2 zf3 zf4 kpa hst hub
      change GoT _ _ _ _ _ _ _ _ (w'.setCells pa 0 [.int .i64 b.x1, .int .i64 b.x2, .int .i64 b.y1, .int .i64 b.y2, .int .u32 (b.id : Int)])
      have kpa := nk
      clear nk
      generalize (w'.setCells pa 0 [.int .i64 b.x1, .int .i64 b.x2, .int .i64 b.y1, .int .i64 b.y2, .int .u32 (b.id : Int)]) = v1 at *
      obtain ⟨z0, z1, z2, z3, z4⟩ := kpb.cells
      have zf0 := kpb.free 0
      have zf1 := kpb.free 1
      have zf2 := kpb.free 2
      have zf3 := kpb.free 3
      have zf4 := kpb.free 4
      have hst : Upd [pb] v1 (v1.setCells pb 0 [.int .i64 b.x1, .int .i64 b.x2, .int .i64 b.y1, .int .i64 b.y2, .int .u32 (b.id : Int)]) := upd_puts pb _ 0 _
      have hub := hu.size
      have nk : BAt (v1.setCells pb 0 [.int .i64 b.x1, .int .i64 b.x2, .int .i64 b.y1, .int .i64 b.y2, .int .u32 (b.id : Int)]) pb b := kpb.puts b
      have hu := hu.trans' hst (fun j hj => .inr (by simp at hj; omega))
      have kpa := kpa.upd hst (by simp; exact e01)
      have kpc := kpc.upd hst (by simp; exact Ne.symm e12)
      have kpd := kpd.upd hst (by simp; exact Ne.symm e13)
      refine GoT.one (i := 9) (o := ⟨none, _, _, _, _, _⟩) rfl (by kernel_rfl) fun K hK => ?_
      go_simp
      refine hK.out _ _ (fun _ h => BAt.upd h hst (by have := (HB6.out.2.upd0 HUd.out).lt; simp; omega)) ?_
      clear hK K
      try simp only [List.setIfInBounds_toArray, List.set_cons_zero, List.set_cons_succ]
      clear z0 z1 z2 z3 z4 zf0 zf1 zf2 zf3 zf4 kpb hst hub
      change GoT _ _ _ _ _ _ _ _ (v1.setCells pb 0 [.int .i64 b.x1, .int .i64 b.x2, .int .i64 b.y1, .int .i64 b.y2, .int .u32 (b.id : Int)])
      have kpb := nk
      clear nk
      generalize (v1.setCells pb 0 [.int .i64 b.x1, .int .i64 b.x2, .int .i64 b.y1, .int .i64 b.y2, .int .u32 (b.id : Int)]) = v2 at *
      obtain ⟨z0, z1, z2, z3, z4⟩ := kpc.cells
      have zf0 := kpc.free 0
      have zf1 := kpc.free 1
      have zf2 := kpc.free 2
      have zf3 := kpc.free 3
      have zf4 := kpc.free 4
      have hst : Upd [pc] v2 (v2.setCells pc 0 [.int .i64 b.x1, .int .i64 b.x2, .int .i64 b.y1, .int .i64 b.y2, .int .u32 (b.id : Int)]) := upd_puts pc _ 0 _
      have hub := hu.size
      have nk : BAt (v2.setCells pc 0 [.int .i64 b.x1, .int .i64 b.x2, .int .i64 b.y1, .int .i64 b.y2, .int .u32 (b.id : Int)]) pc b := kpc.puts b
      have hu := hu.trans' hst (fun j hj => .inr (by simp at hj; omega))
      have kpa := kpa.upd hst (by simp; exact e02)
      have kpb := kpb.upd hst (by simp; exact e12)
      have kpd := kpd.upd hst (by simp; exact Ne.symm e23)
      refine GoT.one (i := 10) (o := ⟨none, _, _, _, _, _⟩) rfl (by kernel_rfl) fun K hK => ?_
      go_simp
      refine hK.out _ _ (fun _ h => BAt.upd h hst (by have := (HB6.out.2.upd0 HUd.out).lt; simp; omega)) ?_
      clear hK K
      try simp only [List.setIfInBounds_toArray, List.set_cons_zero, List.set_cons_succ]
      clear z0 z1 z2 z3 z4 zf0 zf1 zf2 zf3 zf4 kpc hst hub
      change GoT _ _ _ _ _ _ _ _ (v2.setCells pc 0 [.int .i64 b.x1, .int .i64 b.x2, .int .i64 b.y1, .int .i64 b.y2, .int .u32 (b.id : Int)])
      have kpc := nk
      clear nk
      generalize (v2.setCells pc 0 [.int .i64 b.x1, .int .i64 b.x2, .int .i64 b.y1, .int .i64 b.y2, .int .u32 (b.id : Int)]) = v3 at *
      obtain ⟨z0, z1, z2, z3, z4⟩ := kpd.cells
      have zf0 := kpd.free 0
      have zf1 := kpd.free 1
      have zf2 := kpd.free 2
      have zf3 := kpd.free 3
      have zf4 := kpd.free 4
      have hst : Upd [pd] v3 (v3.setCells pd 0 [.int .i64 b.x1, .int .i64 b.x2, .int .i64 b.y1, .int .i64 b.y2, .int .u32 (b.id : Int)]) := upd_puts pd _ 0 _
      have hub := hu.size
      have nk : BAt (v3.setCells pd 0 [.int .i64 b.x1, .int .i64 b.x2, .int .i64 b.y1, .int .i64 b.y2, .int .u32 (b.id : Int)]) pd b := kpd.puts b
      have hu := hu.trans' hst (fun j hj => .inr (by simp at hj; omega))
      have kpa := kpa.upd hst (by simp; exact e03)
      have kpb := kpb.upd hst (by simp; exact e13)
      have kpc := kpc.upd hst (by simp; exact e23)
      refine GoT.one (i := 11) (o := ⟨none, _, _, _, _, _⟩) rfl (by kernel_rfl) fun K hK => ?_
      go_simp
      refine hK.out _ _ (fun _ h => BAt.upd h hst (by have := (HB6.out.2.upd0 HUd.out).lt; simp; omega)) ?_
      clear hK K
      try simp only [List.setIfInBounds_toArray, List.set_cons_zero, List.set_cons_succ]
      clear z0 z1 z2 z3 z4 zf0 zf1 zf2 zf3 zf4 kpd hst hub
      change GoT _ _ _ _ _ _ _ _ (v3.setCells pd 0 [.int .i64 b.x1, .int .i64 b.x2, .int .i64 b.y1, .int .i64 b.y2, .int .u32 (b.id : Int)])
      have kpd := nk
      clear nk
      generalize (v3.setCells pd 0 [.int .i64 b.x1, .int .i64 b.x2, .int .i64 b.y1, .int .i64 b.y2, .int .u32 (b.id : Int)]) = v4 at *
      refine GoT.done (by kernel_rfl) ?_
      have HV4 := Lib.hid (And.intro (HUd.out.trans hu) (And.intro kpa (And.intro kpb (And.intro kpc (And.intro kpd (HB6.out.2.upd0 (HUd.out.trans hu)))))))
      have HGE := Lib.hid (And.intro bpa (And.intro bpb (And.intro bpc (And.intro bpd (And.intro e01 (And.intro e02 (And.intro e03 (And.intro e12 (And.intro e13 e23)))))))))
      have HSZ := Lib.hid (show W6.heap.size ≤ Wd.heap.size ∧ p3 < W6.heap.size from ⟨HUd.out.size, HB6.out.2.lt⟩)
      clear hu kpa kpb kpc kpd bpa bpb bpc bpd e01 e02 e03 e12 e13 e23
      try clear hS
      obtain ⟨m1, hm1⟩ : ∃ m, min (max cut b.x1) b.x2 = m := ⟨_, rfl⟩
      obtain ⟨m2, hm2⟩ : ∃ m, min (max cut b.y1) b.y2 = m := ⟨_, rfl⟩
      have HM1 := Lib.hid hm1
      have HM2 := Lib.hid hm2
      clear hm1 hm2
      obtain ⟨c00, c01, c02, c03, c04⟩ := HV4.out.2.2.2.2.2.cells
      try dsimp only [cutX, cutY] at c00 c01 c02 c03 c04
      have ff := HV4.out.2.1.free 1
      obtain ⟨e0, e1, e2, e3, e4⟩ := HV4.out.2.1.cells
      try dsimp only [cutX, cutY] at e0 e1 e2 e3 e4
      go_upto_region 5 with fail
      rw [HM1.out]
      have hst : Upd [pa] v4 (v4.setCell ⟨pa, 1, none⟩ (.int .i64 m1)) := (Upd.refl _ _).setCell (.inl (by simp)) _
      have HV5 := Lib.hid (And.intro (HV4.out.1.trans' hst (fun j hj => .inr (by simp at hj; have := HGE.out; have := HSZ.out; omega))) (And.intro (show BAt (v4.setCell ⟨pa, 1, none⟩ (.int .i64 m1)) pa (cutX b m1).1 from heap_set HV4.out.2.1 1 _) (And.intro (HV4.out.2.2.1.upd hst (by simp; have := HGE.out; have := HSZ.out; omega)) (And.intro (HV4.out.2.2.2.1.upd hst (by simp; have := HGE.out; have := HSZ.out; omega)) (And.intro (HV4.out.2.2.2.2.1.upd hst (by simp; have := HGE.out; have := HSZ.out; omega)) (HV4.out.2.2.2.2.2.upd hst (by simp; have := HGE.out; have := HSZ.out; omega)))))))
      clear c00 c01 c02 c03 c04 e0 e1 e2 e3 e4 ff hst
      generalize (v4.setCell ⟨pa, 1, none⟩ (.int .i64 m1)) = v5 at HV5 ⊢
      obtain ⟨c00, c01, c02, c03, c04⟩ := HV5.out.2.1.cells
      try dsimp only [cutX, cutY] at c00 c01 c02 c03 c04
      have ff := HV5.out.2.2.1.free 0
      obtain ⟨e0, e1, e2, e3, e4⟩ := HV5.out.2.2.1.cells
      try dsimp only [cutX, cutY] at e0 e1 e2 e3 e4
      go_upto_region 6 with fail
      have hst : Upd [pb] v5 (v5.setCell ⟨pb, 0, none⟩ (.int .i64 m1)) := (Upd.refl _ _).setCell (.inl (by simp)) _
      have HV6 := Lib.hid (And.intro (HV5.out.1.trans' hst (fun j hj => .inr (by simp at hj; have := HGE.out; have := HSZ.out; omega))) (And.intro (HV5.out.2.1.upd hst (by simp; have := HGE.out; have := HSZ.out; omega)) (And.intro (show BAt (v5.setCell ⟨pb, 0, none⟩ (.int .i64 m1)) pb (cutX b m1).2 from heap_set HV5.out.2.2.1 0 _) (And.intro (HV5.out.2.2.2.1.upd hst (by simp; have := HGE.out; have := HSZ.out; omega)) (And.intro (HV5.out.2.2.2.2.1.upd hst (by simp; have := HGE.out; have := HSZ.out; omega)) (HV5.out.2.2.2.2.2.upd hst (by simp; have := HGE.out; have := HSZ.out; omega)))))))
      clear c00 c01 c02 c03 c04 e0 e1 e2 e3 e4 ff hst
      generalize (v5.setCell ⟨pb, 0, none⟩ (.int .i64 m1)) = v6 at HV6 ⊢
      obtain ⟨c00, c01, c02, c03, c04⟩ := HV6.out.2.2.2.2.2.cells
      try dsimp only [cutX, cutY] at c00 c01 c02 c03 c04
      have ff := HV6.out.2.2.2.1.free 3
      obtain ⟨e0, e1, e2, e3, e4⟩ := HV6.out.2.2.2.1.cells
      try dsimp only [cutX, cutY] at e0 e1 e2 e3 e4
      go_upto_region 7 with fail
      rw [HM2.out]
      have hst : Upd [pc] v6 (v6.setCell ⟨pc, 3, none⟩ (.int .i64 m2)) := (Upd.refl _ _).setCell (.inl (by simp)) _
      have HV7 := Lib.hid (And.intro (HV6.out.1.trans' hst (fun j hj => .inr (by simp at hj; have := HGE.out; have := HSZ.out; omega))) (And.intro (HV6.out.2.1.upd hst (by simp; have := HGE.out; have := HSZ.out; omega)) (And.intro (HV6.out.2.2.1.upd hst (by simp; have := HGE.out; have := HSZ.out; omega)) (And.intro (show BAt (v6.setCell ⟨pc, 3, none⟩ (.int .i64 m2)) pc (cutY b m2).1 from heap_set HV6.out.2.2.2.1 3 _) (And.intro (HV6.out.2.2.2.2.1.upd hst (by simp; have := HGE.out; have := HSZ.out; omega)) (HV6.out.2.2.2.2.2.upd hst (by simp; have := HGE.out; have := HSZ.out; omega)))))))
      clear c00 c01 c02 c03 c04 e0 e1 e2 e3 e4 ff hst
      generalize (v6.setCell ⟨pc, 3, none⟩ (.int .i64 m2)) = v7 at HV7 ⊢
      obtain ⟨c00, c01, c02, c03, c04⟩ := HV7.out.2.2.2.1.cells
      try dsimp only [cutX, cutY] at c00 c01 c02 c03 c04
      have ff := HV7.out.2.2.2.2.1.free 2
      obtain ⟨e0, e1, e2, e3, e4⟩ := HV7.out.2.2.2.2.1.cells
      try dsimp only [cutX, cutY] at e0 e1 e2 e3 e4
      go_upto_region 8 with fail
      have hst : Upd [pd] v7 (v7.setCell ⟨pd, 2, none⟩ (.int .i64 m2)) := (Upd.refl _ _).setCell (.inl (by simp)) _
      have HV8 := Lib.hid (And.intro (HV7.out.1.trans' hst (fun j hj => .inr (by simp at hj; have := HGE.out; have := HSZ.out; omega))) (And.intro (HV7.out.2.1.upd hst (by simp; have := HGE.out; have := HSZ.out; omega)) (And.intro (HV7.out.2.2.1.upd hst (by simp; have := HGE.out; have := HSZ.out; omega)) (And.intro (HV7.out.2.2.2.1.upd hst (by simp; have := HGE.out; have := HSZ.out; omega)) (And.intro (show BAt (v7.setCell ⟨pd, 2, none⟩ (.int .i64 m2)) pd (cutY b m2).2 from heap_set HV7.out.2.2.2.2.1 2 _) (HV7.out.2.2.2.2.2.upd hst (by simp; have := HGE.out; have := HSZ.out; omega)))))))
      clear c00 c01 c02 c03 c04 e0 e1 e2 e3 e4 ff hst
      generalize (v7.setCell ⟨pd, 2, none⟩ (.int .i64 m2)) = v8 at HV8 ⊢
      obtain ⟨c0, c1, c2, c3, c4⟩ := HV8.out.2.2.2.2.2.cells
      go_upto_region 9 with fail
      clear c0 c1 c2 c3 c4
      have hun : Upd [] v8 (v8.alloc (.cells #[.int .i64 b.x1, .int .i64 b.x2, .int .i64 b.y1, .int .i64 b.y2, .int .u32 (b.id : Int)] 34)) := (Upd.refl _ _).alloc _
      have HV9 := Lib.hid (show Upd [] w (v8.alloc (.cells #[.int .i64 b.x1, .int .i64 b.x2, .int .i64 b.y1, .int .i64 b.y2, .int .u32 (b.id : Int)] 34)) ∧ (BAt (v8.alloc (.cells #[.int .i64 b.x1, .int .i64 b.x2, .int .i64 b.y1, .int .i64 b.y2, .int .u32 (b.id : Int)] 34)) pa (cutX b m1).1 ∧ BAt (v8.alloc (.cells #[.int .i64 b.x1, .int .i64 b.x2, .int .i64 b.y1, .int .i64 b.y2, .int .u32 (b.id : Int)] 34)) pb (cutX b m1).2 ∧ BAt (v8.alloc (.cells #[.int .i64 b.x1, .int .i64 b.x2, .int .i64 b.y1, .int .i64 b.y2, .int .u32 (b.id : Int)] 34)) pc (cutY b m2).1 ∧ BAt (v8.alloc (.cells #[.int .i64 b.x1, .int .i64 b.x2, .int .i64 b.y1, .int .i64 b.y2, .int .u32 (b.id : Int)] 34)) pd (cutY b m2).2 ∧ BAt (v8.alloc (.cells #[.int .i64 b.x1, .int .i64 b.x2, .int .i64 b.y1, .int .i64 b.y2, .int .u32 (b.id : Int)] 34)) p3 b) ∧ BAt (v8.alloc (.cells #[.int .i64 b.x1, .int .i64 b.x2, .int .i64 b.y1, .int .i64 b.y2, .int .u32 (b.id : Int)] 34)) v8.heap.size b ∧ (pa < v8.heap.size ∧ pb < v8.heap.size ∧ pc < v8.heap.size ∧ pd < v8.heap.size ∧ p3 < v8.heap.size) ∧ w.heap.size ≤ v8.heap.size from
        ⟨HB6.out.1.trans (HV8.out.1.trans hun), ⟨HV8.out.2.1.upd0 hun, HV8.out.2.2.1.upd0 hun, HV8.out.2.2.2.1.upd0 hun, HV8.out.2.2.2.2.1.upd0 hun, HV8.out.2.2.2.2.2.upd0 hun⟩, BAt.new _ _, ⟨HV8.out.2.1.lt, HV8.out.2.2.1.lt, HV8.out.2.2.2.1.lt, HV8.out.2.2.2.2.1.lt, HV8.out.2.2.2.2.2.lt⟩, Nat.le_trans HB6.out.1.size HV8.out.1.size⟩)
      clear hun
      generalize (v8.alloc (.cells #[.int .i64 b.x1, .int .i64 b.x2, .int .i64 b.y1, .int .i64 b.y2, .int .u32 (b.id : Int)] 34)) = v9 at HV9 ⊢
      generalize v8.heap.size = pf at HV9 ⊢
      obtain ⟨c0, c1, c2, c3, c4⟩ := HV9.out.2.2.1.cells
      have ff := HV9.out.2.2.1.free 1
      go_upto_region 10 with fail
      clear c0 c1 c2 c3 c4 ff
      have hst : Upd [pf] v9 (v9.setCell ⟨pf, 1, none⟩ (.int .i64 b.x1)) := (Upd.refl _ _).setCell (.inl (by simp)) _
      have hne := HV9.out.2.2.2.1
      have HVA := Lib.hid (show Upd [] w (v9.setCell ⟨pf, 1, none⟩ (.int .i64 b.x1)) ∧ G9 (v9.setCell ⟨pf, 1, none⟩ (.int .i64 b.x1)) pa pb pc pd p3 pf b m1 m2 from
        ⟨HV9.out.1.trans' hst (fun j hj => .inr (by simp at hj; have := HV9.out.2.2.2.2; omega)), HV9.out.2.1.1.upd hst (by simp; omega), HV9.out.2.1.2.1.upd hst (by simp; omega), HV9.out.2.1.2.2.1.upd hst (by simp; omega), HV9.out.2.1.2.2.2.1.upd hst (by simp; omega), HV9.out.2.1.2.2.2.2.upd hst (by simp; omega), heap_set HV9.out.2.2.1 1 _⟩)
      clear hst hne
      generalize (v9.setCell ⟨pf, 1, none⟩ (.int .i64 b.x1)) = vA at HVA ⊢
      obtain ⟨We, hWe⟩ : ∃ We, We = vA.drew := ⟨_, rfl⟩
      have HE := Lib.hid (show Upd [] w We ∧ G9 We pa pb pc pd p3 pf b m1 m2 from ⟨by rw [hWe]; exact HVA.out.1.drew, by rw [hWe]; exact HVA.out.2.keep (Upd.refl _ _).drew⟩)
      have HLT := Lib.hid HE.out.2.lt
      obtain ⟨lh, ll, hvl, -, -⟩ := wideV_open (areaA l).toNat
      obtain ⟨uh, ul, hvu, -, -⟩ := wideV_open (areaA (l ++ [b])).toNat
      have hin1 : ∀ c ∈ l ++ [b], c.in64 := fun c hc => (List.mem_append.1 hc).elim (HLB.out c) (fun h => by rw [List.mem_singleton.1 h]; exact H64.out.1)
      have hcl : ∀ W, Upd [] w W → Calls Tryz.prog 21 #[.slice A n C] W fun e w' => e = .returned (.agg #[.int .u64 (lh : Int), .int .u64 (ll : Int)]) ∧ Upd [] W w' := fun W hW => by
        have := cells17 (.slice A n C) l W (HS.out.upd0 hW) (by have := HN.out; omega) HLB.out
        rw [hvl] at this
        exact this
      have hcu : ∀ W A2 C2, See KBx W (.slice A2 (n + 1) C2) (l ++ [b]) → Calls Tryz.prog 21 #[.slice A2 (n + 1) C2] W fun e w' => e = .returned (.agg #[.int .u64 (uh : Int), .int .u64 (ul : Int)]) ∧ Upd [] W w' := fun W A2 C2 h => by
        have := cells17 (.slice A2 (n + 1) C2) (l ++ [b]) W h (by rw [List.length_append, HN.out.1]; have := HN.out.2; simp; omega) hin1
        rw [hvu] at this
        exact this
      have hcp : ∀ W, Upd [] w W → Calls Tryz.prog 16 #[.slice A n C] W fun e w' => ∃ A C, e = .returned (.slice A n C) ∧ w'.ownsRow W.heap.size 34 5 (.slice A n C) n (KBx.all l) ∧ Upd [] W w' := fun W hW => by
        have := copyBoxes (.slice A n C) l W (HS.out.upd0 hW) (by have := HN.out; omega)
        unfold CpPost at this
        rw [HN.out.1] at this
        refine this.mono ?_
        rintro e w' ⟨A, C, rfl, h2, h3⟩
        unfold Kind.row at h2
        rw [HN.out.1] at h2
        exact ⟨A, C, rfl, h2, h3⟩
      have HCL := Lib.hid hcl
      have HCU := Lib.hid hcu
      have HCP := Lib.hid hcp
      have HVL := Lib.hid hvl
      have HVU := Lib.hid hvu
      clear hcl hcu hcp hvl hvu hin1
      -- region 10: T waits for all loads; fuel 1
      refine GoT.start [] (fun w' => G9 w' pa pb pc pd p3 pf b m1 m2) (by kernel_rfl) ?_ fun hS => ?_
      · rw [← hWe]; exact HE.out.2
      rw [← hWe] at hS ⊢
      clear hWe
      refine' GoT.move (i := 0) (oi := ⟨some 49, _, _, _, _, _⟩) (v := _) rfl (by kernel_rfl) (by kernel_rfl) (by kernel_rfl) (fun _ _ _ h => h) (Or.inl ⟨by rfl, ?y10_0⟩) ?r10_0
      case y10_0 => intro w; go_simp <;> with_reducible rfl
      simp only [Act.put, List.setIfInBounds_toArray, List.set_cons_zero, List.set_cons_succ]
      refine' GoT.take 1 (i := 2) (oi := ⟨some 51, _, _, _, _, _⟩) (v := _) rfl (by kernel_rfl) (by kernel_rfl) (by kernel_rfl) (by kernel_rfl) (fun _ _ _ h => h) (Or.inl ⟨by rfl, ?y10_2⟩) (by assumption) ?r10_2
      case y10_2 => intro w hSw; obtain ⟨c0, c1, c2, c3, c4⟩ := BAt.cells hSw.2.2.2.2.1; go_simp <;> with_reducible rfl
      simp only [Act.put, List.setIfInBounds_toArray, List.set_cons_zero, List.set_cons_succ]
      refine GoT.phase [1, 3, 4, 5, 6] 5 (L1 := #[true, true, true, true, true, true, true, false]) (m := 1)
        (fun a0 D a w' => ∃ (A1 : Option Addr) (C1 : Nat) (v3 : Value) (A2 : Option Addr) (C2 pw : Nat), a = putIf D 1 50 (.slice A1 n C1) (putIf D 3 52 v3 (putIf D 4 53 (.slice A2 (n + 1) C2) (putIf D 5 54 (.agg #[.int .u64 (uh : Int), .int .u64 (ul : Int)]) (putIf D 6 12 (.pointer (some ⟨pw, 0, none⟩)) a0)))) ∧ Upd [] We w' ∧ (D 1 = true → D 4 = false → w'.ownsRow We.heap.size 34 5 (.slice A1 n C1) n (KBx.all l)) ∧ (D 3 = true → D 4 = false → Sees w' 5 v3 1 [.int .i64 b.x1, .int .i64 b.x2, .int .i64 b.y1, .int .i64 b.y2, .int .u32 (b.id : Int)]) ∧ (D 4 = true → See KBx w' (.slice A2 (n + 1) C2) (l ++ [b])) ∧ (D 6 = true → WAt w' pw 0 0 ∧ We.heap.size ≤ pw) ∧ (D 1 = true → D 6 = true → D 4 = false → pw ∉ blk (.slice A1 n C1)))
        (by kernel_rfl) (by decide) (by kernel_rfl) (by kernel_rfl) (by kernel_rfl) (by kernel_rfl) (by kernel_rfl) (by kernel_rfl) (by kernel_rfl) ?_ ?_ ?_
      · exact ⟨none, 0, undef, none, 0, 0, by simp [putIf], Upd.refl _ _, fun h => by simp at h, fun h => by simp at h, fun h => by simp at h, fun h => by simp at h, fun h => by simp at h⟩
      · intro i hi D a' w' hJ hout hDi hdep
        obtain ⟨A1, C1, v3, A2, C2, pw, rfl, hu, f1, f3, f4, f6, f7⟩ := hJ
        simp only [List.mem_cons, List.not_mem_nil, or_false] at hi
        rcases hi with rfl | rfl | rfl | rfl | rfl
        · refine wpOp_hid (o := ⟨some 50, _, _, _, _, _⟩) rfl fun K hK => ?_
          simp only [putIf, Array.getD_eq_getD_getElem?, List.setIfInBounds_toArray, List.set_cons_zero, List.set_cons_succ, List.getElem?_toArray, List.getElem?_cons_zero, List.getElem?_cons_succ, Option.getD_some]
          go_simp
          go_at_call 16
          (with_reducible refine (HCP.out _ (HE.out.1.trans hu)).mono ?_)
          rintro e w'' ⟨A1', C1', rfl, hrow, hu2⟩
          refine hK.out _ _ ⟨fun h => G9.keep h hu2, A1', C1', v3, A2, C2, pw, by simp [putIf, updD], hu.trans hu2, fun h h' => ?_, fun h h' => ?_, fun h => ?_, fun h => ?_, fun h h' h'' => ?_⟩
          · exact own_base hrow hu.size
          · exact sees_upd (f3 (by simpa [updD] using h) (by simpa [updD] using h')) hu2 (by simp)
          · exact (f4 (by simpa [updD] using h)).upd0 hu2
          · exact ⟨(f6 (by simpa [updD] using h)).1.upd0 hu2, (f6 (by simpa [updD] using h)).2⟩
          · intro hm; have := own_ge hrow _ hm; have := (f6 (by simpa [updD] using h')).1.lt; omega
        · refine wpOp_hid (o := ⟨some 52, _, _, _, _, _⟩) rfl fun K hK => ?_
          simp only [putIf, Array.getD_eq_getD_getElem?, List.setIfInBounds_toArray, List.set_cons_zero, List.set_cons_succ, List.getElem?_toArray, List.getElem?_cons_zero, List.getElem?_cons_succ, Option.getD_some]
          go_simp
          have hu2 : Upd [] w' (w'.alloc (.cells #[.int .i64 b.x1, .int .i64 b.x2, .int .i64 b.y1, .int .i64 b.y2, .int .u32 (b.id : Int)] 34)) := (Upd.refl _ _).alloc _
          have hse : Sees (w'.alloc (.cells #[.int .i64 b.x1, .int .i64 b.x2, .int .i64 b.y1, .int .i64 b.y2, .int .u32 (b.id : Int)] 34)) 5 (.slice (some ⟨w'.heap.size, 0, none⟩) 1 1) 1 [.int .i64 b.x1, .int .i64 b.x2, .int .i64 b.y1, .int .i64 b.y2, .int .u32 (b.id : Int)] := sees_lit w' #[.int .i64 b.x1, .int .i64 b.x2, .int .i64 b.y1, .int .i64 b.y2, .int .u32 (b.id : Int)] 34 5 1 rfl (by decide)
          refine hK.out _ _ ⟨fun h => G9.keep h hu2, A1, C1, .slice (some ⟨w'.heap.size, 0, none⟩) 1 1, A2, C2, pw, by simp [putIf, updD], hu.trans hu2, fun h h' => ?_, fun h h' => ?_, fun h => ?_, fun h => ?_, fun h h' h'' => ?_⟩
          · exact own_upd (f1 (by simpa [updD] using h) (by simpa [updD] using h')) hu2 (by simp)
          · exact hse
          · exact (f4 (by simpa [updD] using h)).upd0 hu2
          · exact ⟨(f6 (by simpa [updD] using h)).1.upd0 hu2, (f6 (by simpa [updD] using h)).2⟩
          · exact f7 (by simpa [updD] using h) (by simpa [updD] using h') (by simpa [updD] using h'')
        · refine wpOp_hid (o := ⟨some 53, _, _, _, _, _⟩) rfl fun K hK => ?_
          simp only [putIf, Array.getD_eq_getD_getElem?, List.setIfInBounds_toArray, List.set_cons_zero, List.set_cons_succ, List.getElem?_toArray, List.getElem?_cons_zero, List.getElem?_cons_succ, Option.getD_some]
          have hd1 := hdep 1 (by kernel_rfl)
          have hd3 := hdep 3 (by kernel_rfl)
          have hr1 := f1 hd1 hDi
          have hr3 := f3 hd3 hDi
          simp only [hd1, hd3, cond_true]
          rw [if_pos (by simp [Region.wanted])]
          refine wp_app _ _ _ 22 (by rfl) We.heap.size 34 iB (.agg #[.int .i64 0, .int .i64 0, .int .i64 0, .int .i64 0, .int .u32 0]) 5 40 Tryz.underlying22 hiB hB0 hB1 hB2 rfl (by decide) _ _ _ (by rfl) hr1 _ 1 [.int .i64 b.x1, .int .i64 b.x2, .int .i64 b.y1, .int .i64 b.y2, .int .u32 (b.id : Int)] (by rfl) hr3 (by simp [Value.oneCell']) (by have := HN.out; unfold maxLen; omega) (by have := HN.out; omega) hu.size ?_
          intro A2' C2' w'' HP
          refine hK.out _ _ ⟨fun h => G9.upd h HP.upd (fun j hj => by have := own_ge hr1 j hj; have := HLT.out; omega), A1, C1, v3, A2', C2', pw, by simp [Act.put, putIf, updD, hd1, hd3], hu.trans' HP.upd (fun j hj => .inr (own_ge hr1 j hj)), fun h h' => ?_, fun h h' => ?_, fun h => ?_, fun h => ?_, fun h h' h'' => ?_⟩
          · simp [updD] at h'
          · simp [updD] at h'
          · unfold See; rw [Kind.all_app, List.length_append, HN.out.1]; exact sees_of_own HP.own
          · exact ⟨(f6 (by simpa [updD] using h)).1.upd HP.upd (f7 hd1 (by simpa [updD] using h) hDi), (f6 (by simpa [updD] using h)).2⟩
          · simp [updD] at h''
        · refine wpOp_hid (o := ⟨some 54, _, _, _, _, _⟩) rfl fun K hK => ?_
          simp only [putIf, Array.getD_eq_getD_getElem?, List.setIfInBounds_toArray, List.set_cons_zero, List.set_cons_succ, List.getElem?_toArray, List.getElem?_cons_zero, List.getElem?_cons_succ, Option.getD_some]
          have hd4 := hdep 4 (by kernel_rfl)
          simp only [hd4, cond_true]
          go_simp
          go_at_call 21
          (with_reducible refine (HCU.out _ _ _ (f4 hd4)).mono ?_)
          rintro e w'' ⟨rfl, hu2⟩
          refine hK.out _ _ ⟨fun h => G9.keep h hu2, A1, C1, v3, A2, C2, pw, by simp [putIf, updD, hd4], hu.trans hu2, fun h h' => ?_, fun h h' => ?_, fun h => ?_, fun h => ?_, fun h h' h'' => ?_⟩
          · exact own_upd (f1 (by simpa [updD] using h) (by simpa [updD] using h')) hu2 (by simp)
          · exact sees_upd (f3 (by simpa [updD] using h) (by simpa [updD] using h')) hu2 (by simp)
          · exact (f4 (by simpa [updD] using h)).upd0 hu2
          · exact ⟨(f6 (by simpa [updD] using h)).1.upd0 hu2, (f6 (by simpa [updD] using h)).2⟩
          · exact f7 (by simpa [updD] using h) (by simpa [updD] using h') (by simpa [updD] using h'')
        · refine wpOp_hid (o := ⟨some 12, _, _, _, _, _⟩) rfl fun K hK => ?_
          simp only [putIf, Array.getD_eq_getD_getElem?, List.setIfInBounds_toArray, List.set_cons_zero, List.set_cons_succ, List.getElem?_toArray, List.getElem?_cons_zero, List.getElem?_cons_succ, Option.getD_some]
          go_simp
          have hu2 : Upd [] w' (w'.alloc (.cells #[.int .u64 0, .int .u64 0] 27)) := (Upd.refl _ _).alloc _
          have hge := hu.size
          refine hK.out _ _ ⟨fun h => G9.keep h hu2, A1, C1, v3, A2, C2, w'.heap.size, by simp [putIf, updD], hu.trans hu2, fun h h' => ?_, fun h h' => ?_, fun h => ?_, fun h => ?_, fun h h' h'' => ?_⟩
          · exact own_upd (f1 (by simpa [updD] using h) (by simpa [updD] using h')) hu2 (by simp)
          · exact sees_upd (f3 (by simpa [updD] using h) (by simpa [updD] using h')) hu2 (by simp)
          · exact (f4 (by simpa [updD] using h)).upd0 hu2
          · exact ⟨WAt.new _ _ _, hge⟩
          · intro hm; have := own_lt (f1 (by simpa [updD] using h) (by simpa [updD] using h'')) _ hm; omega
      · intro a' w' hJ
        obtain ⟨A1, C1, v3, A2, C2, pw, rfl, hu, f1, f3, f4, f6, f7⟩ := hJ
        have kw := f6 (by rfl)
        clear f1 f3 f4 f6 f7
        simp [putIf]
        obtain ⟨z0, z1⟩ := kw.1.cells
        have zf0 := kw.1.free 0
        have zf1 := kw.1.free 1
        have hst : Upd [pw] w' ((w'.setCell ⟨pw, 0, none⟩ (.int .u64 (uh : Int))).setCell ⟨pw, 1, none⟩ (.int .u64 (ul : Int))) := ((Upd.refl _ _).setCell (.inl (by simp)) _).setCell (.inl (by simp)) _
        have hne : ∀ j ∈ [pw], j ≠ pa ∧ j ≠ pb ∧ j ≠ pc ∧ j ≠ pd ∧ j ≠ p3 ∧ j ≠ pf := fun j hj => by have h1 := HLT.out; have h2 := kw.2; simp at hj; omega
        have HVB := Lib.hid (show Upd [] w _ ∧ G9 _ pa pb pc pd p3 pf b m1 m2 ∧ WAt _ pw (uh : Int) (ul : Int) from ⟨HE.out.1.trans (hu.trans' hst (fun j hj => .inr (by have h2 := kw.2; simp at hj; omega))), (HE.out.2.keep hu).upd hst hne, heap_set (heap_set kw.1 0 _) 1 _⟩)
        refine GoT.one (i := 7) (o := ⟨none, _, _, _, _, _⟩) rfl (by kernel_rfl) fun K hK => ?_
        go_simp
        refine hK.out _ _ (fun _ h => G9.upd h hst hne) ?_
        clear hK K
        try simp only [List.setIfInBounds_toArray, List.set_cons_zero, List.set_cons_succ]
        refine GoT.done (by kernel_rfl) ?_
        clear z0 z1 zf0 zf1 hst hne kw hu hS
        generalize ((w'.setCell ⟨pw, 0, none⟩ (.int .u64 (uh : Int))).setCell ⟨pw, 1, none⟩ (.int .u64 (ul : Int))) = wB at HVB ⊢
        go_upto_region 11 with fail
        obtain ⟨Wf, hWf⟩ : ∃ Wf, Wf = wB.drew := ⟨_, rfl⟩
        have HF := Lib.hid (show Upd [] w Wf ∧ G9 Wf pa pb pc pd p3 pf b m1 m2 ∧ WAt Wf pw (uh : Int) (ul : Int) from ⟨by rw [hWf]; exact HVB.out.1.drew, by rw [hWf]; exact HVB.out.2.1.keep (Upd.refl _ _).drew, by rw [hWf]; exact HVB.out.2.2.upd0 (Upd.refl _ _).drew⟩)
        have HLT2 := Lib.hid HF.out.2.1.lt
        have hcf : ∀ W A2 C2, See KBx W (.slice A2 (n + 1) C2) (l ++ [(⟨b.x1, b.x1, b.y1, b.y2, b.id⟩ : Bx)]) → Calls Tryz.prog 21 #[.slice A2 (n + 1) C2] W fun e w' => e = .returned (.agg #[.int .u64 (lh : Int), .int .u64 (ll : Int)]) ∧ Upd [] W w' := fun W A2 C2 h => by
          have := cells17 (.slice A2 (n + 1) C2) (l ++ [(⟨b.x1, b.x1, b.y1, b.y2, b.id⟩ : Bx)]) W h (by rw [List.length_append, HN.out.1]; have := HN.out.2; simp; omega) (fun c hc => (List.mem_append.1 hc).elim (HLB.out c) (fun h => by rw [List.mem_singleton.1 h]; have := H64.out.1; unfold Bx.in64 at this ⊢; dsimp only; omega))
          rw [area_none fun x y => by unfold Bx.cell; rw [decide_eq_false_iff_not]; dsimp only; omega, List.append_nil, HVL.out] at this
          exact this
        have HCF := Lib.hid hcf
        have HNS := fun W => wide_nsameP (lh : Int) (ll : Int) W
        clear hcf
        go_cut [63] (fun s63 wc => s63 = .bool false ∧ Upd [] Wf wc)
        case first =>
          -- region 11: T waits for all loads; fuel 1
          refine GoT.start [] (fun w' => G9 w' pa pb pc pd p3 pf b m1 m2) (by kernel_rfl) ?_ fun hS => ?_
          · exact by rw [← hWf]; exact HF.out.2.1
          rw [← hWf] at hS ⊢
          clear hWf
          refine' GoT.move (i := 0) (oi := ⟨some 55, _, _, _, _, _⟩) (v := _) rfl (by kernel_rfl) (by kernel_rfl) (by kernel_rfl) (fun _ _ _ h => h) (Or.inl ⟨by rfl, ?y11_0⟩) ?r11_0
          case y11_0 => intro w; go_simp <;> with_reducible rfl
          simp only [Act.put, List.setIfInBounds_toArray, List.set_cons_zero, List.set_cons_succ]
          refine' GoT.take 1 (i := 2) (oi := ⟨some 57, _, _, _, _, _⟩) (v := _) rfl (by kernel_rfl) (by kernel_rfl) (by kernel_rfl) (by kernel_rfl) (fun _ _ _ h => h) (Or.inl ⟨by rfl, ?y11_2⟩) (by assumption) ?r11_2
          case y11_2 => intro w hSw; obtain ⟨c0, c1, c2, c3, c4⟩ := BAt.cells hSw.2.2.2.2.2; dsimp only at c0 c1 c2 c3 c4; go_simp <;> with_reducible rfl
          simp only [Act.put, List.setIfInBounds_toArray, List.set_cons_zero, List.set_cons_succ]
          refine' GoT.move (i := 6) (oi := ⟨some 61, _, _, _, _, _⟩) (v := _) rfl (by kernel_rfl) (by kernel_rfl) (by kernel_rfl) (fun _ _ _ h => h) (Or.inl ⟨by rfl, ?y11_6⟩) ?r11_6
          case y11_6 => intro w; go_simp <;> with_reducible rfl
          simp only [Act.put, List.setIfInBounds_toArray, List.set_cons_zero, List.set_cons_succ]
          -- 1: Go.Op.call { callee := Go.Callee.value (Go.Operand.func 16), args := #[Go.Operand.tmp 55], argTypes  | 3: Go.Op.buildSlice 22 1 #[(0, Go.Operand.tmp 57)]
          refine GoT.pair (i := 1) (o := ⟨some 56, _, _, _, _, _⟩) (k := 3) (o' := ⟨some 58, _, _, _, _, _⟩) rfl rfl (by kernel_rfl) (fun K hK => ?_) (fun K hK => ?_)
          · skip
            go_simp
            go_at_call 16
            (with_reducible refine (HCP.out _ HF.out.1).mono ?_)
            rintro e w1 ⟨A1', C1', rfl, hown, hu1⟩
            refine hK.out _ _ (fun _ h => ?_) ?_
            · exact G9.keep h hu1
            clear hK K
            try simp only [Act.put, List.setIfInBounds_toArray, List.set_cons_zero, List.set_cons_succ]
            have HO1 := Lib.hid (And.intro hown hu1)
            clear hown hu1
            -- 3: Go.Op.buildSlice 22 1 #[(0, Go.Operand.tmp 57)]
            refine GoT.one (i := 3) (o := ⟨some 58, _, _, _, _, _⟩) rfl (by kernel_rfl) fun K hK => ?_
            go_simp
            refine hK.out _ _ (fun _ h => ?_) ?_
            · exact G9.keep h ((Upd.refl _ _).alloc _)
            clear hK K
            try simp only [Act.put, List.setIfInBounds_toArray, List.set_cons_zero, List.set_cons_succ]
            -- 4: Go.Op.call { callee := Go.Callee.builtin Go.Builtin.append, args := #[Go.Operand.tmp 56, Go.Operand.tmp 58], argTypes := #[22, 22] }
            refine GoT.one (i := 4) (o := ⟨some 59, _, _, _, _, _⟩) rfl (by kernel_rfl) fun K hK => ?_
            refine step_app _ (by rfl) _ _ 22 (by rfl) Wf.heap.size 34 iB (.agg #[.int .i64 0, .int .i64 0, .int .i64 0, .int .i64 0, .int .u32 0]) 5 40 Tryz.underlying22 hiB hB0 hB1 hB2 rfl (by decide) _ _ _ (by rfl) (own_upd HO1.out.1 ((Upd.refl [] _).alloc _) (by simp)) _ 1 [.int .i64 b.x1, .int .i64 b.x1, .int .i64 b.y1, .int .i64 b.y2, .int .u32 (b.id : Int)] (by rfl) (sees_lit _ #[.int .i64 b.x1, .int .i64 b.x1, .int .i64 b.y1, .int .i64 b.y2, .int .u32 (b.id : Int)] 34 5 1 rfl (by decide)) (by simp [Value.oneCell']) (by have := HN.out; unfold maxLen; omega) (by have := HN.out; omega) (HO1.out.2.alloc _).size ?_
            intro A3 C3 w3 HP
            refine hK.out _ _ (fun _ h => ?_) ?_
            · exact G9.upd h HP.upd (fun j hj => by have := own_ge HO1.out.1 j hj; have := HLT2.out; omega)
            clear hK K
            try simp only [Act.put, List.setIfInBounds_toArray, List.set_cons_zero, List.set_cons_succ]
            have hsee : See KBx w3 (.slice A3 (n + 1) C3) (l ++ [(⟨b.x1, b.x1, b.y1, b.y2, b.id⟩ : Bx)]) := by unfold See; rw [Kind.all_app, List.length_append, HN.out.1]; exact sees_of_own HP.own
            have HSE := Lib.hid hsee
            have HU3 := Lib.hid (show Upd [] Wf w3 from (HO1.out.2.alloc _).trans' HP.upd (fun j hj => .inr (own_ge HO1.out.1 j hj)))
            clear HP hsee
            -- 5: Go.Op.call { callee := Go.Callee.value (Go.Operand.func 21), args := #[Go.Operand.tmp 59], argTypes := #[22] }
            refine GoT.one (i := 5) (o := ⟨some 60, _, _, _, _, _⟩) rfl (by kernel_rfl) fun K hK => ?_
            go_simp
            go_at_call 21
            (with_reducible refine (HCF.out _ _ _ HSE.out).mono ?_)
            rintro e w4 ⟨rfl, hu4⟩
            refine hK.out _ _ (fun _ h => ?_) ?_
            · exact G9.keep h hu4
            clear hK K
            try simp only [Act.put, List.setIfInBounds_toArray, List.set_cons_zero, List.set_cons_succ]
            have HU4 := Lib.hid (HU3.out.trans hu4)
            clear hu4
            -- 7: Go.Op.call { callee := Go.Callee.value (Go.Operand.func 21), args := #[Go.Operand.tmp 61], argTypes := #[22] }
            refine GoT.one (i := 7) (o := ⟨some 62, _, _, _, _, _⟩) rfl (by kernel_rfl) fun K hK => ?_
            go_simp
            go_at_call 21
            (with_reducible refine (HCL.out _ (HF.out.1.trans HU4.out)).mono ?_)
            rintro e w5 ⟨rfl, hu5⟩
            refine hK.out _ _ (fun _ h => ?_) ?_
            · exact G9.keep h hu5
            clear hK K
            try simp only [Act.put, List.setIfInBounds_toArray, List.set_cons_zero, List.set_cons_succ]
            have HU5 := Lib.hid (HU4.out.trans hu5)
            clear hu5
            refine' GoT.move (i := 8) (oi := ⟨some 63, _, _, _, _, _⟩) (v := _) rfl (by kernel_rfl) (by kernel_rfl) (by kernel_rfl) (fun _ _ _ h => h) (Or.inl ⟨by rfl, ?y11a_8⟩) ?r11a_8
            case y11a_8 => intro w; go_simp <;> with_reducible rfl
            simp only [Act.put, List.setIfInBounds_toArray, List.set_cons_zero, List.set_cons_succ]
            refine GoT.done (by kernel_rfl) ?_
            go_wp2_with fail
            go_meet
            case rel => exact ⟨rfl, HU5.out⟩
          · skip
            go_simp
            refine hK.out _ _ (fun _ h => ?_) ?_
            · exact G9.keep h ((Upd.refl _ _).alloc _)
            clear hK K
            try simp only [Act.put, List.setIfInBounds_toArray, List.set_cons_zero, List.set_cons_succ]
            -- 1: Go.Op.call { callee := Go.Callee.value (Go.Operand.func 16), args := #[Go.Operand.tmp 55], argTypes := #[22] }
            refine GoT.one (i := 1) (o := ⟨some 56, _, _, _, _, _⟩) rfl (by kernel_rfl) fun K hK => ?_
            go_simp
            go_at_call 16
            (with_reducible refine (HCP.out _ (HF.out.1.alloc _)).mono ?_)
            rintro e w1 ⟨A1', C1', rfl, hown, hu1⟩
            refine hK.out _ _ (fun _ h => ?_) ?_
            · exact G9.keep h hu1
            clear hK K
            try simp only [Act.put, List.setIfInBounds_toArray, List.set_cons_zero, List.set_cons_succ]
            have HO1 := Lib.hid (And.intro (own_base hown (((Upd.refl [] Wf).alloc (.cells #[.int .i64 b.x1, .int .i64 b.x1, .int .i64 b.y1, .int .i64 b.y2, .int .u32 (b.id : Int)] 34)).size)) (((Upd.refl [] Wf).alloc (.cells #[.int .i64 b.x1, .int .i64 b.x1, .int .i64 b.y1, .int .i64 b.y2, .int .u32 (b.id : Int)] 34)).trans hu1))
            have hse := sees_upd (sees_lit Wf #[.int .i64 b.x1, .int .i64 b.x1, .int .i64 b.y1, .int .i64 b.y2, .int .u32 (b.id : Int)] 34 5 1 rfl (by decide)) hu1 (by simp)
            clear hown hu1
            -- 4: Go.Op.call { callee := Go.Callee.builtin Go.Builtin.append, args := #[Go.Operand.tmp 56, Go.Operand.tmp 58], argTypes := #[22, 22] }
            refine GoT.one (i := 4) (o := ⟨some 59, _, _, _, _, _⟩) rfl (by kernel_rfl) fun K hK => ?_
            refine step_app _ (by rfl) _ _ 22 (by rfl) Wf.heap.size 34 iB (.agg #[.int .i64 0, .int .i64 0, .int .i64 0, .int .i64 0, .int .u32 0]) 5 40 Tryz.underlying22 hiB hB0 hB1 hB2 rfl (by decide) _ _ _ (by rfl) HO1.out.1 _ 1 [.int .i64 b.x1, .int .i64 b.x1, .int .i64 b.y1, .int .i64 b.y2, .int .u32 (b.id : Int)] (by rfl) hse (by simp [Value.oneCell']) (by have := HN.out; unfold maxLen; omega) (by have := HN.out; omega) HO1.out.2.size ?_
            intro A3 C3 w3 HP
            refine hK.out _ _ (fun _ h => ?_) ?_
            · exact G9.upd h HP.upd (fun j hj => by have := own_ge HO1.out.1 j hj; have := HLT2.out; omega)
            clear hK K
            try simp only [Act.put, List.setIfInBounds_toArray, List.set_cons_zero, List.set_cons_succ]
            have hsee : See KBx w3 (.slice A3 (n + 1) C3) (l ++ [(⟨b.x1, b.x1, b.y1, b.y2, b.id⟩ : Bx)]) := by unfold See; rw [Kind.all_app, List.length_append, HN.out.1]; exact sees_of_own HP.own
            have HSE := Lib.hid hsee
            have HU3 := Lib.hid (show Upd [] Wf w3 from HO1.out.2.trans' HP.upd (fun j hj => .inr (own_ge HO1.out.1 j hj)))
            clear HP hsee
            -- 5: Go.Op.call { callee := Go.Callee.value (Go.Operand.func 21), args := #[Go.Operand.tmp 59], argTypes := #[22] }
            refine GoT.one (i := 5) (o := ⟨some 60, _, _, _, _, _⟩) rfl (by kernel_rfl) fun K hK => ?_
            go_simp
            go_at_call 21
            (with_reducible refine (HCF.out _ _ _ HSE.out).mono ?_)
            rintro e w4 ⟨rfl, hu4⟩
            refine hK.out _ _ (fun _ h => ?_) ?_
            · exact G9.keep h hu4
            clear hK K
            try simp only [Act.put, List.setIfInBounds_toArray, List.set_cons_zero, List.set_cons_succ]
            have HU4 := Lib.hid (HU3.out.trans hu4)
            clear hu4
            -- 7: Go.Op.call { callee := Go.Callee.value (Go.Operand.func 21), args := #[Go.Operand.tmp 61], argTypes := #[22] }
            refine GoT.one (i := 7) (o := ⟨some 62, _, _, _, _, _⟩) rfl (by kernel_rfl) fun K hK => ?_
            go_simp
            go_at_call 21
            (with_reducible refine (HCL.out _ (HF.out.1.trans HU4.out)).mono ?_)
            rintro e w5 ⟨rfl, hu5⟩
            refine hK.out _ _ (fun _ h => ?_) ?_
            · exact G9.keep h hu5
            clear hK K
            try simp only [Act.put, List.setIfInBounds_toArray, List.set_cons_zero, List.set_cons_succ]
            have HU5 := Lib.hid (HU4.out.trans hu5)
            clear hu5
            refine' GoT.move (i := 8) (oi := ⟨some 63, _, _, _, _, _⟩) (v := _) rfl (by kernel_rfl) (by kernel_rfl) (by kernel_rfl) (fun _ _ _ h => h) (Or.inl ⟨by rfl, ?y11b_8⟩) ?r11b_8
            case y11b_8 => intro w; go_simp <;> with_reducible rfl
            simp only [Act.put, List.setIfInBounds_toArray, List.set_cons_zero, List.set_cons_succ]
            refine GoT.done (by kernel_rfl) ?_
            go_wp2_with fail
            go_meet
            case rel => exact ⟨rfl, HU5.out⟩
        case rest =>
          obtain ⟨rfl, hu⟩ := hcut
          have HC := Lib.hid (show Upd [] w wc ∧ G9 wc pa pb pc pd p3 pf b m1 m2 ∧ WAt wc pw (uh : Int) (ul : Int) from ⟨HF.out.1.trans hu, HF.out.2.1.keep hu, HF.out.2.2.upd0 hu⟩)
          clear hu hWf HNS
          obtain ⟨r, hr⟩ : ∃ r, rightB b = r := ⟨_, rfl⟩
          have hrb := rightBoxC b
          unfold bxV at hrb
          rw [hr] at hrb
          have HRB := Lib.hid hrb
          have HR := Lib.hid hr
          clear hrb hr
          obtain ⟨c0, c1, c2, c3, c4⟩ := HC.out.2.1.2.2.2.2.1.cells
          go_wp2_with fail
          clear c0 c1 c2 c3 c4
          (with_reducible refine (HRB.out _).mono ?_)
          rintro e w9 ⟨rfl, hu9⟩
          have HD := Lib.hid (show Upd [] w w9 ∧ G9 w9 pa pb pc pd p3 pf b m1 m2 ∧ WAt w9 pw (uh : Int) (ul : Int) from ⟨HC.out.1.trans hu9, HC.out.2.1.keep hu9, HC.out.2.2.upd0 hu9⟩)
          clear hu9
          cases r with
          | false =>
            have he : areaA (l ++ [b]) = areaA l := by
              rw [area_none fun x y => by have := HR.out; unfold rightB at this; simp only [Bool.and_eq_false_iff, decide_eq_false_iff_not] at this; unfold Bx.cell; rw [decide_eq_false_iff_not]; omega, List.append_nil]
            obtain ⟨e1, e2⟩ : uh = lh ∧ ul = ll := by
              have h1 := HVU.out
              rw [he, HVL.out] at h1
              simp at h1
              omega
            subst e1 e2
            have HSS := fun W => wide_sameP (uh : Int) (ul : Int) W
            clear he
            go_upto_region 14 with fail
            obtain ⟨Wg, hWg⟩ : ∃ Wg, Wg = w9.drew := ⟨_, rfl⟩
            have HU30 := Lib.hid (show Upd [] w Wg by rw [hWg]; exact HD.out.1.drew)
            have HW30 := Lib.hid (show WAt Wg pw (uh : Int) (ul : Int) by rw [hWg]; exact HD.out.2.2.upd0 (Upd.refl _ _).drew)
            -- region 14: T waits for all loads; fuel 1
            refine GoT.start [] (fun w' => WAt w' pw (uh : Int) (ul : Int)) (by kernel_rfl) ?_ fun hS => ?_
            · exact by rw [← hWg]; exact HW30.out
            rw [← hWg] at hS ⊢
            clear hWg
            refine' GoT.take 1 (i := 0) (oi := ⟨some 67, _, _, _, _, _⟩) (v := _) rfl (by kernel_rfl) (by kernel_rfl) (by kernel_rfl) (by kernel_rfl) (fun _ _ _ h => h) (Or.inl ⟨by rfl, ?y14_0⟩) (by assumption) ?r14_0
            case y14_0 => intro w hSw; obtain ⟨c0, c1⟩ := WAt.cells hSw; go_simp <;> with_reducible rfl
            simp only [Act.put, List.setIfInBounds_toArray, List.set_cons_zero, List.set_cons_succ]
            refine' GoT.move (i := 1) (oi := ⟨some 68, _, _, _, _, _⟩) (v := _) rfl (by kernel_rfl) (by kernel_rfl) (by kernel_rfl) (fun _ _ _ h => h) (Or.inl ⟨by rfl, ?y14_1⟩) ?r14_1
            case y14_1 => intro w; go_simp <;> with_reducible rfl
            simp only [Act.put, List.setIfInBounds_toArray, List.set_cons_zero, List.set_cons_succ]
            -- 2: Go.Op.call { callee := Go.Callee.value (Go.Operand.func 21), args := #[Go.Operand.tmp 68], argTypes := #[22] }
            refine GoT.one (i := 2) (o := ⟨some 69, _, _, _, _, _⟩) rfl (by kernel_rfl) fun K hK => ?_
            go_simp
            go_at_call 21
            (with_reducible refine (HCL.out _ HU30.out).mono ?_)
            rintro e w31 ⟨rfl, hu31⟩
            refine hK.out _ _ (fun _ h => ?_) ?_
            · exact WAt.upd0 h hu31
            clear hK K
            try simp only [Act.put, List.setIfInBounds_toArray, List.set_cons_zero, List.set_cons_succ]
            have HU31 := Lib.hid (HU30.out.trans hu31)
            clear hu31
            refine' GoT.move (i := 3) (oi := ⟨some 70, _, _, _, _, _⟩) (v := _) rfl (by kernel_rfl) (by kernel_rfl) (by kernel_rfl) (fun _ _ _ h => h) (Or.inl ⟨by rfl, ?y14_3⟩) ?r14_3
            case y14_3 => intro w; go_simp <;> with_reducible rfl
            simp only [Act.put, List.setIfInBounds_toArray, List.set_cons_zero, List.set_cons_succ]
            refine' GoT.move (i := 4) (oi := ⟨some 71, _, _, _, _, _⟩) (v := _) rfl (by kernel_rfl) (by kernel_rfl) (by kernel_rfl) (fun _ _ _ h => h) (Or.inl ⟨by rfl, ?y14_4⟩) ?r14_4
            case y14_4 => intro w; go_simp <;> with_reducible rfl
            simp only [Act.put, List.setIfInBounds_toArray, List.set_cons_zero, List.set_cons_succ]
            -- 5: Go.Op.call { callee := Go.Callee.value (Go.Operand.func 15), args := #[], argTypes := #[] }
            refine GoT.one (i := 5) (o := ⟨some 72, _, _, _, _, _⟩) rfl (by kernel_rfl) fun K hK => ?_
            go_simp
            go_at_call 15
            (with_reducible refine (awake17 _).mono ?_)
            rintro e w32 ⟨rfl, hu32⟩
            refine hK.out _ _ (fun _ h => ?_) ?_
            · exact WAt.upd0 h hu32
            clear hK K
            try simp only [Act.put, List.setIfInBounds_toArray, List.set_cons_zero, List.set_cons_succ]
            have HU32 := Lib.hid (HU31.out.trans hu32)
            clear hu32
            refine' GoT.move (i := 6) (oi := ⟨some 73, _, _, _, _, _⟩) (v := _) rfl (by kernel_rfl) (by kernel_rfl) (by kernel_rfl) (fun _ _ _ h => h) (Or.inl ⟨by rfl, ?y14_6⟩) ?r14_6
            case y14_6 => intro w; go_simp <;> with_reducible rfl
            simp only [Act.put, List.setIfInBounds_toArray, List.set_cons_zero, List.set_cons_succ]
            refine' GoT.move (i := 7) (oi := ⟨some 6, _, _, _, _, _⟩) (v := _) rfl (by kernel_rfl) (by kernel_rfl) (by kernel_rfl) (fun _ _ _ h => h) (Or.inl ⟨by rfl, ?y14_7⟩) ?r14_7
            case y14_7 => intro w; go_simp <;> with_reducible rfl
            simp only [Act.put, List.setIfInBounds_toArray, List.set_cons_zero, List.set_cons_succ]
            refine GoT.done (by kernel_rfl) ?_
            go_wp2_with fail
            go_ret
            exact ⟨rfl, HU32.out.below⟩
          | true =>
            obtain ⟨W1, hW1⟩ : ∃ W1, w9.alloc (.cells #[.int .i64 b.x1, .int .i64 m1, .int .i64 b.y1, .int .i64 b.y2, .int .u32 (b.id : Int), .int .i64 m1, .int .i64 b.x2, .int .i64 b.y1, .int .i64 b.y2, .int .u32 (b.id : Int)] 34) = W1 := ⟨_, rfl⟩
            obtain ⟨W2, hW2⟩ : ∃ W2, W1.alloc (.cells #[.int .i64 b.x1, .int .i64 b.x2, .int .i64 b.y1, .int .i64 m2, .int .u32 (b.id : Int), .int .i64 b.x1, .int .i64 b.x2, .int .i64 m2, .int .i64 b.y2, .int .u32 (b.id : Int)] 34) = W2 := ⟨_, rfl⟩
            obtain ⟨W3, hW3⟩ : ∃ W3, W2.alloc (.cells #[.int .i64 b.x1, .int .i64 b.x2, .int .i64 b.y1, .int .i64 b.y2, .int .u32 (b.id : Int), .int .i64 b.x1, .int .i64 b.x2, .int .i64 b.y1, .int .i64 b.y2, .int .u32 (b.id : Int)] 34) = W3 := ⟨_, rfl⟩
            obtain ⟨W4, hW4⟩ : ∃ W4, W3.alloc (.cells #[.int .i64 b.x1, .int .i64 m1, .int .i64 b.y1, .int .i64 b.y2, .int .u32 (b.id : Int), .int .i64 b.x1, .int .i64 b.x2, .int .i64 b.y1, .int .i64 b.y2, .int .u32 (b.id : Int), .int .i64 b.x1, .int .i64 b.x2, .int .i64 m2, .int .i64 b.y2, .int .u32 (b.id : Int)] 34) = W4 := ⟨_, rfl⟩
            obtain ⟨W5, hW5⟩ : ∃ W5, W4.alloc (.cells #[.slice (some ⟨w9.heap.size, 0, none⟩) 2 2, .slice (some ⟨W1.heap.size, 0, none⟩) 2 2, .slice (some ⟨W2.heap.size, 0, none⟩) 2 2, .slice (some ⟨W3.heap.size, 0, none⟩) 3 3] 22) = W5 := ⟨_, rfl⟩
            have hmb : (b.x1 ≤ m1 ∧ m1 ≤ b.x2) ∧ (b.y1 ≤ m2 ∧ m2 ≤ b.y2) := by
              have h1 := HM1.out
              have h2 := HM2.out
              have h3 : b.x1 ≤ b.x2 ∧ b.y1 ≤ b.y2 := by have := HR.out; unfold rightB at this; simpa using this
              rw [← h1, ← h2]
              omega
            have hq := area_parts hmb.1 hmb.2 l
            have hu12 : Upd [] W1 W2 := by rw [← hW2]; exact (Upd.refl _ _).alloc _
            have hu23 : Upd [] W2 W3 := by rw [← hW3]; exact (Upd.refl _ _).alloc _
            have hu34 : Upd [] W3 W4 := by rw [← hW4]; exact (Upd.refl _ _).alloc _
            have hu45 : Upd [] W4 W5 := by rw [← hW5]; exact (Upd.refl _ _).alloc _
            have s1 : See KBx W1 (.slice (some ⟨w9.heap.size, 0, none⟩) 2 2) [(cutX b m1).1, (cutX b m1).2] := by rw [← hW1]; exact sees_lit w9 #[.int .i64 b.x1, .int .i64 m1, .int .i64 b.y1, .int .i64 b.y2, .int .u32 (b.id : Int), .int .i64 m1, .int .i64 b.x2, .int .i64 b.y1, .int .i64 b.y2, .int .u32 (b.id : Int)] 34 5 2 rfl (by decide)
            have s2 : See KBx W2 (.slice (some ⟨W1.heap.size, 0, none⟩) 2 2) [(cutY b m2).1, (cutY b m2).2] := by rw [← hW2]; exact sees_lit W1 #[.int .i64 b.x1, .int .i64 b.x2, .int .i64 b.y1, .int .i64 m2, .int .u32 (b.id : Int), .int .i64 b.x1, .int .i64 b.x2, .int .i64 m2, .int .i64 b.y2, .int .u32 (b.id : Int)] 34 5 2 rfl (by decide)
            have s3 : See KBx W3 (.slice (some ⟨W2.heap.size, 0, none⟩) 2 2) [b, b] := by rw [← hW3]; exact sees_lit W2 #[.int .i64 b.x1, .int .i64 b.x2, .int .i64 b.y1, .int .i64 b.y2, .int .u32 (b.id : Int), .int .i64 b.x1, .int .i64 b.x2, .int .i64 b.y1, .int .i64 b.y2, .int .u32 (b.id : Int)] 34 5 2 rfl (by decide)
            have s4 : See KBx W4 (.slice (some ⟨W3.heap.size, 0, none⟩) 3 3) [(cutX b m1).1, b, (cutY b m2).2] := by rw [← hW4]; exact sees_lit W3 #[.int .i64 b.x1, .int .i64 m1, .int .i64 b.y1, .int .i64 b.y2, .int .u32 (b.id : Int), .int .i64 b.x1, .int .i64 b.x2, .int .i64 b.y1, .int .i64 b.y2, .int .u32 (b.id : Int), .int .i64 b.x1, .int .i64 b.x2, .int .i64 m2, .int .i64 b.y2, .int .u32 (b.id : Int)] 34 5 3 rfl (by decide)
            have hblk : W5.heap[W4.heap.size]? = some (.cells #[.slice (some ⟨w9.heap.size, 0, none⟩) 2 2, .slice (some ⟨W1.heap.size, 0, none⟩) 2 2, .slice (some ⟨W2.heap.size, 0, none⟩) 2 2, .slice (some ⟨W3.heap.size, 0, none⟩) 3 3] 22 (0, 0)) := by rw [← hW5]; exact heap_alloc_new _ _
            have h6 := H64.out.1
            have in1 : (cutX b m1).1.in64 ∧ (cutX b m1).2.in64 ∧ (cutY b m2).1.in64 ∧ (cutY b m2).2.in64 := by
              unfold Bx.in64 at h6 ⊢
              unfold cutX cutY
              dsimp only
              omega
            have hj : ∀ i, i < 4 → ∃ p k m, W5.cell? ⟨W4.heap.size, i, none⟩ = some (.slice (some ⟨p, 0, none⟩) k k) ∧ See KBx W5 (.slice (some ⟨p, 0, none⟩) k k) m ∧ m.length = k ∧ k ≤ 3 ∧ areaA (l ++ m) = areaA (l ++ [b]) ∧ ∀ c ∈ m, c.in64 := by
              intro i hi
              rcases (by omega : i = 0 ∨ i = 1 ∨ i = 2 ∨ i = 3) with rfl | rfl | rfl | rfl
              · exact ⟨_, 2, _, by simp [World.cell?, hblk], s1.upd0 (hu12.trans (hu23.trans (hu34.trans hu45))), rfl, by omega, hq.1, by simp [in1.1, in1.2.1]⟩
              · exact ⟨_, 2, _, by simp [World.cell?, hblk], s2.upd0 (hu23.trans (hu34.trans hu45)), rfl, by omega, hq.2.1, by simp [in1.2.2.1, in1.2.2.2]⟩
              · exact ⟨_, 2, _, by simp [World.cell?, hblk], s3.upd0 (hu34.trans hu45), rfl, by omega, hq.2.2.1, by simp [h6]⟩
              · exact ⟨_, 3, _, by simp [World.cell?, hblk], s4.upd0 hu45, rfl, by omega, hq.2.2.2, by simp [in1.1, in1.2.2.2, h6]⟩
            have HJ := Lib.hid hj
            have hv1 : Upd [] w9 W1 := by rw [← hW1]; exact (Upd.refl _ _).alloc _
            have hv2 : Upd [] w9 W2 := by rw [← hW2]; exact hv1.alloc _
            have hv3 : Upd [] w9 W3 := by rw [← hW3]; exact hv2.alloc _
            obtain ⟨a0, a1, a2, a3, a4⟩ := HD.out.2.1.1.cells
            obtain ⟨b0, b1, b2, b3, b4⟩ := HD.out.2.1.2.1.cells
            obtain ⟨c0, c1, c2, c3, c4⟩ := (HD.out.2.1.keep hv1).2.2.1.cells
            obtain ⟨d0, d1, d2, d3, d4⟩ := (HD.out.2.1.keep hv1).2.2.2.1.cells
            obtain ⟨e0, e1, e2, e3, e4⟩ := (HD.out.2.1.keep hv2).2.2.2.2.1.cells
            obtain ⟨f0, f1, f2, f3, f4⟩ := (HD.out.2.1.keep hv3).1.cells
            obtain ⟨g0, g1, g2, g3, g4⟩ := (HD.out.2.1.keep hv3).2.2.2.2.1.cells
            obtain ⟨i0, i1, i2, i3, i4⟩ := (HD.out.2.1.keep hv3).2.2.2.1.cells
            dsimp only [cutX, cutY] at a0 a1 a2 a3 a4 b0 b1 b2 b3 b4 c0 c1 c2 c3 c4 d0 d1 d2 d3 d4 f0 f1 f2 f3 f4 i0 i1 i2 i3 i4
            have HV := Lib.hid (show Upd [] w W5 ∧ WAt W5 pw (uh : Int) (ul : Int) from ⟨HD.out.1.trans (hv3.trans (hu34.trans hu45)), HD.out.2.2.upd0 (hv3.trans (hu34.trans hu45))⟩)
            clear hv1 hv2 hv3 hmb hq hu12 hu23 hu34 hu45 s1 s2 s3 s4 hblk h6 in1 hj
            go_wp2_with fail
            clear hW1 hW2 hW3 hW4 hW5 a0 a1 a2 a3 a4 b0 b1 b2 b3 b4 c0 c1 c2 c3 c4 d0 d1 d2 d3 d4 e0 e1 e2 e3 e4 f0 f1 f2 f3 f4 g0 g1 g2 g3 g4 i0 i1 i2 i3 i4
            generalize W4.heap.size = q4 at HJ ⊢
            go_loopg [89] 4 (fun mm s89 wr => ∃ i, mm + i = 4 ∧ s89 = .int .i64 (i : Int) ∧ Upd [] W5 wr)
            case atStart => exact ⟨0, rfl, rfl, Upd.refl _ _⟩
            case round =>
              obtain ⟨i, hi, rfl, hu⟩ := hrel
              have i0 : (0 : Int) ≤ (i : Int) := Int.natCast_nonneg _
              by_cases hlt : i < 4
              · have g1 : decide ((i : Int) < 4) = true := decide_eq_true (by omega)
                have g2 : (i : Int) < 4 := by omega
                obtain ⟨p, k, m, hc, hse, hmk, hk3, hq, hm64⟩ := HJ.out i hlt
                have hc' := (hu.cell (World.block_lt_of_cell? W5 _ hc) (by simp)).trans hc
                have hcm : ∀ W A2 C2, See KBx W (.slice A2 (n + k) C2) (l ++ m) → Calls Tryz.prog 21 #[.slice A2 (n + k) C2] W fun e w' => e = .returned (.agg #[.int .u64 (uh : Int), .int .u64 (ul : Int)]) ∧ Upd [] W w' := fun W A2 C2 h => by
                  have := cells17 (.slice A2 (n + k) C2) (l ++ m) W h (by rw [List.length_append, HN.out.1, hmk]; have := HN.out.2; omega) (fun c hc => (List.mem_append.1 hc).elim (HLB.out c) (hm64 c))
                  rw [hq, HVU.out] at this
                  exact this
                have hsm : ∀ W, Upd [] W5 W → Sees W 5 (.slice (some ⟨p, 0, none⟩) k k) k (KBx.all m) := fun W hW => by
                  have := hse.upd0 hW
                  unfold See at this
                  rw [hmk] at this
                  exact this
                have HCM := Lib.hid hcm
                have HSM := Lib.hid hsm
                have HK := Lib.hid (And.intro hmk (And.intro hk3 (And.intro hi hlt)))
                have HNS := fun W => wide_nsameP (uh : Int) (ul : Int) W
                have HUR := Lib.hid hu
                clear hc hse hmk hk3 hq hm64 hcm hsm hi hlt hu
                go_upto_region 18 with fail
                clear hc' g1 g2
                obtain ⟨Wg, hWg⟩ : ∃ Wg, Wg = wr.drew := ⟨_, rfl⟩
                have HG := Lib.hid (show Upd [] W5 Wg ∧ WAt Wg pw (uh : Int) (ul : Int) from ⟨by rw [hWg]; exact HUR.out.drew, by rw [hWg]; exact HV.out.2.upd0 HUR.out.drew⟩)
                -- region 18: T waits for all loads; fuel 1
                refine GoT.start [] (fun w' => WAt w' pw (uh : Int) (ul : Int)) (by kernel_rfl) ?_ fun hS => ?_
                · exact by rw [← hWg]; exact HG.out.2
                rw [← hWg] at hS ⊢
                clear hWg
                refine' GoT.move (i := 0) (oi := ⟨some 93, _, _, _, _, _⟩) (v := _) rfl (by kernel_rfl) (by kernel_rfl) (by kernel_rfl) (fun _ _ _ h => h) (Or.inl ⟨by rfl, ?y18_0⟩) ?r18_0
                case y18_0 => intro w; go_simp <;> with_reducible rfl
                simp only [Act.put, List.setIfInBounds_toArray, List.set_cons_zero, List.set_cons_succ]
                refine' GoT.move (i := 2) (oi := ⟨some 95, _, _, _, _, _⟩) (v := _) rfl (by kernel_rfl) (by kernel_rfl) (by kernel_rfl) (fun _ _ _ h => h) (Or.inl ⟨by rfl, ?y18_2⟩) ?r18_2
                case y18_2 => intro w; go_simp <;> with_reducible rfl
                simp only [Act.put, List.setIfInBounds_toArray, List.set_cons_zero, List.set_cons_succ]
                refine' GoT.take 1 (i := 5) (oi := ⟨some 98, _, _, _, _, _⟩) (v := _) rfl (by kernel_rfl) (by kernel_rfl) (by kernel_rfl) (by kernel_rfl) (fun _ _ _ h => h) (Or.inl ⟨by rfl, ?y18_5⟩) (by assumption) ?r18_5
                case y18_5 => intro w hSw; obtain ⟨c0, c1⟩ := WAt.cells hSw; go_simp <;> with_reducible rfl
                simp only [Act.put, List.setIfInBounds_toArray, List.set_cons_zero, List.set_cons_succ]
                -- 1: Go.Op.call { callee := Go.Callee.value (Go.Operand.func 16), args := #[Go.Operand.tmp 93], argTypes := #[22] }
                refine GoT.one (i := 1) (o := ⟨some 94, _, _, _, _, _⟩) rfl (by kernel_rfl) fun K hK => ?_
                go_simp
                go_at_call 16
                (with_reducible refine (HCP.out _ (HV.out.1.trans HG.out.1)).mono ?_)
                rintro e w1 ⟨A1', C1', rfl, hown, hu1⟩
                refine hK.out _ _ (fun _ h => ?_) ?_
                · exact WAt.upd0 h hu1
                clear hK K
                try simp only [Act.put, List.setIfInBounds_toArray, List.set_cons_zero, List.set_cons_succ]
                have HO1 := Lib.hid (And.intro hown hu1)
                clear hown hu1
                -- 3: Go.Op.call { callee := Go.Callee.builtin Go.Builtin.append, args := #[Go.Operand.tmp 94, Go.Operand.tmp 95], argTypes := #[22, 22] }
                refine GoT.one (i := 3) (o := ⟨some 96, _, _, _, _, _⟩) rfl (by kernel_rfl) fun K hK => ?_
                refine step_app _ (by rfl) _ _ 22 (by rfl) Wg.heap.size 34 iB (.agg #[.int .i64 0, .int .i64 0, .int .i64 0, .int .i64 0, .int .u32 0]) 5 40 Tryz.underlying22 hiB hB0 hB1 hB2 rfl (by decide) _ _ _ (by rfl) HO1.out.1 _ k (KBx.all m) (by rfl) (HSM.out _ (HG.out.1.trans HO1.out.2)) (KBx.all_one m) (by have := HN.out; have := HK.out; unfold maxLen; omega) (by have := HN.out; have := HK.out; omega) HO1.out.2.size ?_
                intro A3 C3 w3 HP
                refine hK.out _ _ (fun _ h => ?_) ?_
                · exact WAt.upd h HP.upd (fun hm => by have := own_ge HO1.out.1 _ hm; have := HG.out.2.lt; omega)
                clear hK K
                try simp only [Act.put, List.setIfInBounds_toArray, List.set_cons_zero, List.set_cons_succ]
                have hsee : See KBx w3 (.slice A3 (n + k) C3) (l ++ m) := by unfold See; rw [Kind.all_app, List.length_append, HN.out.1, HK.out.1]; exact sees_of_own HP.own
                have HSE := Lib.hid hsee
                have HU3 := Lib.hid (show Upd [] Wg w3 from HO1.out.2.trans' HP.upd (fun j hj => .inr (own_ge HO1.out.1 j hj)))
                clear HP hsee
                -- 4: Go.Op.call { callee := Go.Callee.value (Go.Operand.func 21), args := #[Go.Operand.tmp 96], argTypes := #[22] }
                refine GoT.one (i := 4) (o := ⟨some 97, _, _, _, _, _⟩) rfl (by kernel_rfl) fun K hK => ?_
                go_simp
                go_at_call 21
                (with_reducible refine (HCM.out _ _ _ HSE.out).mono ?_)
                rintro e w4 ⟨rfl, hu4⟩
                refine hK.out _ _ (fun _ h => ?_) ?_
                · exact WAt.upd0 h hu4
                clear hK K
                try simp only [Act.put, List.setIfInBounds_toArray, List.set_cons_zero, List.set_cons_succ]
                have HU4 := Lib.hid (HU3.out.trans hu4)
                clear hu4
                have hSS := HG.out.2.upd0 HU4.out
                refine' GoT.move (i := 6) (oi := ⟨some 99, _, _, _, _, _⟩) (v := _) rfl (by kernel_rfl) (by kernel_rfl) (by kernel_rfl) (fun _ _ _ h => h) (Or.inl ⟨by rfl, ?y18_6⟩) ?r18_6
                case y18_6 => intro w; go_simp <;> with_reducible rfl
                simp only [Act.put, List.setIfInBounds_toArray, List.set_cons_zero, List.set_cons_succ]
                refine GoT.done (by kernel_rfl) ?_
                go_wp2_with fail
                go_roundg (4 - (i + 1))
                case measure => have := HK.out; omega
                case rel => exact ⟨i + 1, by have := HK.out; omega, by have h4 := HK.out.2.2.2; rw [IntWalk.wrap64_in _ ⟨by omega, by omega⟩]; rfl, HG.out.1.trans HU4.out⟩
              · have g1 : decide ((i : Int) < 4) = false := decide_eq_false (by omega)
                have HUR := Lib.hid (HV.out.1.trans hu)
                clear hu
                go_wp2_with fail
                (with_reducible refine (awake17 _).mono ?_)
                rintro e w40 ⟨rfl, hu40⟩
                have HU40 := Lib.hid (HUR.out.trans hu40)
                clear hu40
                go_wp2_with fail
                go_ret
                exact ⟨rfl, HU40.out.below⟩
end Go.Proofs.YtokpdocabmaagaaGreat
