/- The closures of model.point and model.other. Printed by mkclo.py. The closures of model.point that ask the model again; those of model.other. Printed by mkclp.py. -/
import Derived.Test.YthnbgfnclpkdjaaGreatItmN
import Derived.Test.YthnbgfnclpkdjaaGreatChosM
namespace Go.Proofs.YthnbgfnclpkdjaaGreat
open Go.RowKit

/-- Block B begins with these. -/
def CelB (w : World) (B : Nat) (l : List Value) : Prop := ∀ k v, l[k]? = some v → w.cell? ⟨B, k, none⟩ = some v
theorem CelB.upd0 {w w' : World} {B : Nat} {l : List Value} (h : CelB w B l) (hu : Upd [] w w') : CelB w' B l := fun k v hk => (hu.cell (World.block_lt_of_cell? w _ (h k v hk)) (by simp)).trans (h k v hk)
theorem CelB.lt {w : World} {B : Nat} {l : List Value} (h : CelB w B l) {v : Value} (hv : l[0]? = some v) : B < w.heap.size := World.block_lt_of_cell? w _ (h 0 v hv)
theorem CelB.of_heap {w : World} {B : Nat} {l : List Value} {t : TypeId} {c : Nat × Nat} (h : w.heap[B]? = some (.cells l.toArray t c)) : CelB w B l := fun k v hk => by
  simp only [World.cell?, h]
  simpa using hk

abbrev bxL (b : Bx) : List Value := [.int .i64 b.x1, .int .i64 b.x2, .int .i64 b.y1, .int .i64 b.y2, .int .u32 (b.id : Int)]
abbrev ptL (p : Pt) : List Value := [.int .i64 p.x, .int .i64 p.y, .int .u32 (p.id : Int)]
abbrev opL (o : OpP) : List Value := [.int .u8 (o.code : Int), .int .i64 o.a, .int .i64 o.b, .int .i64 o.c, .int .i64 o.d, .int .u32 (o.id : Int)]

set_option maxRecDepth 100000 in
set_option maxHeartbeats 1000000 in
theorem clo1C (B : Nat) (b : Bx) (px py pi : Int) (w : World) (h : CelB w B (bxL b)) :
    Calls Tryz.prog 71 #[.agg #[.int .i64 px, .int .i64 py, .int .u32 pi], .pointer (some ⟨B, 0, none⟩)] w fun e w' => e = .returned (.bool (inBM b px py)) ∧ Upd [] w w' := by
  have hB := h.lt rfl
  have hin := fun w => inCM b px py pi w
  obtain ⟨r, hr⟩ : ∃ r, inBM b px py = r := ⟨_, rfl⟩
  rw [hr] at hin ⊢
  clear hr
  obtain ⟨x1, x2, y1, y2, bi⟩ := b
  unfold bxV at hin
  have c0 := h 0 _ rfl
  have c1 := h 1 _ rfl
  have c2 := h 2 _ rfl
  have c3 := h 3 _ rfl
  have c4 := h 4 _ rfl
  dsimp only at c0 c1 c2 c3 c4 hin
  have HI := Lib.hid hin
  clear h hin
  go_enter Tryz.func71, Tryz.ntmps71
  go_wp2_with (go_at_call 17; refine (HI.out _).mono ?_; rintro e w1 ⟨rfl, hu⟩; have HU := Lib.hid hu; clear hu)
  go_ret
  exact ⟨rfl, ((Upd.refl [] w).alloc _).trans HU.out⟩

set_option maxRecDepth 100000 in
set_option maxHeartbeats 1000000 in
theorem clo2C (B : Nat) (b : Bx) (px py pi : Int) (w : World) (h : CelB w B (bxL b)) :
    Calls Tryz.prog 72 #[.agg #[.int .i64 px, .int .i64 py, .int .u32 pi], .pointer (some ⟨B, 0, none⟩)] w fun e w' => e = .returned (.bool (inBM b px py)) ∧ Upd [] w w' := by
  have hB := h.lt rfl
  have hin := fun w => inCM b px py pi w
  obtain ⟨r, hr⟩ : ∃ r, inBM b px py = r := ⟨_, rfl⟩
  rw [hr] at hin ⊢
  clear hr
  obtain ⟨x1, x2, y1, y2, bi⟩ := b
  unfold bxV at hin
  have c0 := h 0 _ rfl
  have c1 := h 1 _ rfl
  have c2 := h 2 _ rfl
  have c3 := h 3 _ rfl
  have c4 := h 4 _ rfl
  dsimp only at c0 c1 c2 c3 c4 hin
  have HI := Lib.hid hin
  clear h hin
  go_enter Tryz.func72, Tryz.ntmps72
  go_wp2_with (go_at_call 17; refine (HI.out _).mono ?_; rintro e w1 ⟨rfl, hu⟩; have HU := Lib.hid hu; clear hu)
  go_ret
  exact ⟨rfl, ((Upd.refl [] w).alloc _).trans HU.out⟩

set_option maxRecDepth 100000 in
set_option maxHeartbeats 1000000 in
theorem clo3C (B : Nat) (o : OpP) (px py pi : Int) (w : World) (h : CelB w B (opL o)) :
    Calls Tryz.prog 73 #[.agg #[.int .i64 px, .int .i64 py, .int .u32 pi], .pointer (some ⟨B, 0, none⟩)] w fun e w' => e = .returned (.bool (cornB ⟨px, py, 0⟩ o.a o.b o.c)) ∧ Upd [] w w' := by
  have hB := h.lt rfl
  obtain ⟨oc, oa, ob, occ, od, oi⟩ := o
  have hin := fun w => cornerC px py pi (oc : Int) oa ob occ od (oi : Int) w
  obtain ⟨r, hr⟩ : ∃ r, cornB ⟨px, py, 0⟩ oa ob occ = r := ⟨_, rfl⟩
  have hr' := hr
  unfold cornB at hr'
  dsimp only at hr' ⊢
  rw [hr]
  rw [hr'] at hin
  clear hr hr'
  have c0 := h 0 _ rfl
  have c1 := h 1 _ rfl
  have c2 := h 2 _ rfl
  have c3 := h 3 _ rfl
  have c4 := h 4 _ rfl
  have c5 := h 5 _ rfl
  dsimp only at c0 c1 c2 c3 c4 c5
  have HI := Lib.hid hin
  clear h hin
  go_enter Tryz.func73, Tryz.ntmps73
  go_wp2_with (go_at_call 74; refine (HI.out _).mono ?_; rintro e w1 ⟨rfl, hu⟩; have HU := Lib.hid hu; clear hu)
  go_ret
  exact ⟨rfl, ((Upd.refl [] w).alloc _).trans HU.out⟩

set_option maxRecDepth 100000 in
set_option maxHeartbeats 1000000 in
theorem clo41C (B Q : Nat) (b : Bx) (q : Pt) (px py : Int) (pi : Nat) (w : World) (h : CelB w B (bxL b)) (hq : CelB w Q (ptL q)) :
    Calls Tryz.prog 76 #[.agg #[.int .i64 px, .int .i64 py, .int .u32 (pi : Int)], .pointer (some ⟨B, 0, none⟩), .pointer (some ⟨Q, 0, none⟩)] w fun e w' => e = .returned (.bool (inBM b px py && lowB ⟨px, py, pi⟩ q)) ∧ Upd [] w w' := by
  have hB := h.lt rfl
  have hQ := hq.lt rfl
  have hin := fun w => inCM b px py (pi : Int) w
  have hby := fun w => byYC ⟨px, py, pi⟩ q w
  rw [← lowB_iff]
  obtain ⟨r, hr⟩ : ∃ r, inBM b px py = r := ⟨_, rfl⟩
  rw [hr] at hin ⊢
  obtain ⟨c, hc⟩ : ∃ c, orZ (cmpZ (⟨px, py, pi⟩ : Pt).y q.y) (cmpZ (((⟨px, py, pi⟩ : Pt).id : Nat) : Int) (q.id : Int)) = c := ⟨_, rfl⟩
  simp only [hc] at hby
  rw [hc]
  clear hr hc
  obtain ⟨x1, x2, y1, y2, bi⟩ := b
  obtain ⟨qx, qy, qi⟩ := q
  unfold bxV at hin
  unfold ptV at hby
  have c0 := h 0 _ rfl
  have c1 := h 1 _ rfl
  have c2 := h 2 _ rfl
  have c3 := h 3 _ rfl
  have c4 := h 4 _ rfl
  have q0 := hq 0 _ rfl
  have q1 := hq 1 _ rfl
  have q2 := hq 2 _ rfl
  dsimp only at c0 c1 c2 c3 c4 q0 q1 q2 hin hby
  have HI := Lib.hid hin
  have HY := Lib.hid hby
  have a0 : ∀ k, (w.alloc (.cells #[.int .i64 px, .int .i64 py, .int .u32 (pi : Int)] 47)).cell? ⟨w.heap.size, k, none⟩ = (#[.int .i64 px, .int .i64 py, .int .u32 (pi : Int)] : Array Value)[k]? := fun k => World.cell?_alloc_at _ _ _ _ rfl
  have a1 : ∀ {v : Value} k, w.cell? ⟨Q, k, none⟩ = some v → (w.alloc (.cells #[.int .i64 px, .int .i64 py, .int .u32 (pi : Int)] 47)).cell? ⟨Q, k, none⟩ = some v := fun k hv => by rw [World.cell?_alloc_past _ _ _ hQ]; exact hv
  have HC := Lib.hid (And.intro (a0 0) (And.intro (a0 1) (And.intro (a0 2) (And.intro (a1 0 q0) (And.intro (a1 1 q1) (a1 2 q2))))))
  clear h hin hby hq a0 a1
  go_enter Tryz.func76, Tryz.ntmps76
  go_wp2_with fail
  refine (HI.out _).mono ?_
  rintro e w1 ⟨rfl, hu⟩
  have HU := Lib.hid hu
  obtain ⟨p0, p1, p2, k0, k1, k2⟩ := HC.out
  have hz : w.heap.size < (w.alloc (.cells #[.int .i64 px, .int .i64 py, .int .u32 (pi : Int)] 47)).heap.size := by simp
  have hzq : Q < (w.alloc (.cells #[.int .i64 px, .int .i64 py, .int .u32 (pi : Int)] 47)).heap.size := by simp; omega
  have p0 := (hu.cell (p := ⟨w.heap.size, 0, none⟩) hz (by simp)).trans p0
  have p1 := (hu.cell (p := ⟨w.heap.size, 1, none⟩) hz (by simp)).trans p1
  have p2 := (hu.cell (p := ⟨w.heap.size, 2, none⟩) hz (by simp)).trans p2
  have k0 := (hu.cell (p := ⟨Q, 0, none⟩) hzq (by simp)).trans k0
  have k1 := (hu.cell (p := ⟨Q, 1, none⟩) hzq (by simp)).trans k1
  have k2 := (hu.cell (p := ⟨Q, 2, none⟩) hzq (by simp)).trans k2
  simp only [List.getElem?_toArray, List.getElem?_cons_zero, List.getElem?_cons_succ] at p0 p1 p2
  clear hu hz hzq c0 c1 c2 c3 c4 q0 q1 q2
  cases r with
  | false =>
    go_wp2_with fail
    go_ret
    exact ⟨rfl, ((Upd.refl [] w).alloc _).trans HU.out⟩
  | true =>
    go_wp2_with (go_at_call 20; refine (HY.out _).mono ?_; rintro e w2 ⟨rfl, hu⟩; have HU2 := Lib.hid hu; clear hu)
    go_ret
    exact ⟨rfl, (((Upd.refl [] w).alloc _).trans HU.out).trans HU2.out⟩

set_option maxRecDepth 100000 in
set_option maxHeartbeats 1000000 in
theorem clo51C (Q : Nat) (q : Pt) (px py : Int) (pi : Nat) (w : World) (hq : CelB w Q (ptL q)) :
    Calls Tryz.prog 78 #[.agg #[.int .i64 px, .int .i64 py, .int .u32 (pi : Int)], .pointer (some ⟨Q, 0, none⟩)] w fun e w' => e = .returned (.bool (overB ⟨px, py, pi⟩ q)) ∧ Upd [] w w' := by
  have hQ := hq.lt rfl
  have hov := fun w => overC ⟨px, py, pi⟩ q w
  obtain ⟨r, hr⟩ : ∃ r, overB ⟨px, py, pi⟩ q = r := ⟨_, rfl⟩
  simp only [hr] at hov
  rw [hr]
  clear hr
  obtain ⟨qx, qy, qi⟩ := q
  unfold ptV at hov
  have q0 := hq 0 _ rfl
  have q1 := hq 1 _ rfl
  have q2 := hq 2 _ rfl
  dsimp only at q0 q1 q2 hov
  have HO := Lib.hid hov
  clear hq hov
  go_enter Tryz.func78, Tryz.ntmps78
  go_wp2_with (go_at_call 19; refine (HO.out _).mono ?_; rintro e w1 ⟨rfl, hu⟩; have HU := Lib.hid hu; clear hu)
  go_ret
  exact ⟨rfl, ((Upd.refl [] w).alloc _).trans HU.out⟩
end Go.Proofs.YthnbgfnclpkdjaaGreat

namespace Go.Proofs.YthnbgfnclpkdjaaGreat
open Go.RowKit

theorem len_zero {α : Type} (l : List α) : ((l.length : Int) == 0) = l.isEmpty := by
  cases l with
  | nil => rfl
  | cons a l => simp only [List.length_cons, List.isEmpty_cons, beq_eq_false_iff_ne]; omega

set_option maxRecDepth 100000 in
set_option maxHeartbeats 1000000 in
theorem clo5C (Q h p : Nat) (M : List Pt) (px py : Int) (pi : Nat) (w : World) (hq : CelB w Q [.pointer (some ⟨h, 0, none⟩)]) (hc : w.cell? ⟨h, 1, none⟩ = some (.map (some p))) (hm : MapU MKP w p (findK Pt.id M) M.length) (ha : Asc Pt.id M) (hl : M.length < 1000000) :
    Calls Tryz.prog 77 #[.agg #[.int .i64 px, .int .i64 py, .int .u32 (pi : Int)], .pointer (some ⟨Q, 0, none⟩)] w fun e w' => e = .returned (.bool (namesM Pt.id M fun q => overB q ⟨px, py, pi⟩).isEmpty) ∧ Upd [] w w' := by
  have hQ := hq.lt rfl
  have hh := World.block_lt_of_cell? w _ hc
  have hu0 : Upd [] w (w.alloc (.cells #[.int .i64 px, .int .i64 py, .int .u32 (pi : Int)] 47)) := (Upd.refl _ _).alloc _
  have hpt : CelB (w.alloc (.cells #[.int .i64 px, .int .i64 py, .int .u32 (pi : Int)] 47)) w.heap.size (ptL ⟨px, py, pi⟩) := CelB.of_heap (heap_alloc_new w _)
  have hch := chosenPC p M (fun q => overB q ⟨px, py, pi⟩) 78 #[.pointer (some ⟨w.heap.size, 0, none⟩)] (enters_of Tryz.func78 (by kernel_rfl) rfl) _ (hm.upd hu0 (by simp)) ha hl
    (fun W qx qy qi _ hW => clo51C w.heap.size ⟨px, py, pi⟩ qx qy qi W (hpt.upd0 hW))
  obtain ⟨n, hn⟩ : ∃ n, (namesM Pt.id M fun q => overB q ⟨px, py, pi⟩).length = n := ⟨_, rfl⟩
  have hz := len_zero (namesM Pt.id M fun q => overB q ⟨px, py, pi⟩)
  obtain ⟨r, hr⟩ : ∃ r, (namesM Pt.id M fun q => overB q ⟨px, py, pi⟩).isEmpty = r := ⟨_, rfl⟩
  rw [hr]
  rw [hn, hr] at hz
  rw [hn] at hch
  have q0 := hq 0 _ rfl
  have HC := Lib.hid hch
  clear hch hq hm ha hl hpt hu0 hr hn
  go_enter Tryz.func77, Tryz.ntmps77
  go_wp2_with (go_at_call 70; refine HC.out.mono ?_; rintro e w1 ⟨A, C, rfl, -, hu⟩; have HU := Lib.hid hu; clear hu)
  go_ret
  exact ⟨rfl, ((Upd.refl [] w).alloc _).trans HU.out⟩

set_option maxRecDepth 100000 in
set_option maxHeartbeats 1000000 in
theorem clo4C (B Q h p : Nat) (b : Bx) (M : List Pt) (px py : Int) (pi : Nat) (w : World) (hb : CelB w B (bxL b)) (hq : CelB w Q [.pointer (some ⟨h, 0, none⟩)]) (hc : w.cell? ⟨h, 1, none⟩ = some (.map (some p))) (hm : MapU MKP w p (findK Pt.id M) M.length) (ha : Asc Pt.id M) (hl : M.length < 1000000) :
    Calls Tryz.prog 75 #[.agg #[.int .i64 px, .int .i64 py, .int .u32 (pi : Int)], .pointer (some ⟨B, 0, none⟩), .pointer (some ⟨Q, 0, none⟩)] w fun e w' => e = .returned (.bool (inBM b px py && (namesM Pt.id M fun q => inBM b q.x q.y && lowB q ⟨px, py, pi⟩).isEmpty)) ∧ Upd [] w w' := by
  have hQ := hq.lt rfl
  have hB := hb.lt rfl
  have hh := World.block_lt_of_cell? w _ hc
  have hu0 : Upd [] w (w.alloc (.cells #[.int .i64 px, .int .i64 py, .int .u32 (pi : Int)] 47)) := (Upd.refl _ _).alloc _
  have hpt : CelB (w.alloc (.cells #[.int .i64 px, .int .i64 py, .int .u32 (pi : Int)] 47)) w.heap.size (ptL ⟨px, py, pi⟩) := CelB.of_heap (heap_alloc_new w _)
  have hch := fun w1 (hw1 : Upd [] (w.alloc (.cells #[.int .i64 px, .int .i64 py, .int .u32 (pi : Int)] 47)) w1) => chosenPC p M (fun q => inBM b q.x q.y && lowB q ⟨px, py, pi⟩) 76 #[.pointer (some ⟨B, 0, none⟩), .pointer (some ⟨w.heap.size, 0, none⟩)] (enters_of Tryz.func76 (by kernel_rfl) rfl) w1 (hm.upd (hu0.trans hw1) (by simp)) ha hl
    (fun W qx qy qi _ hW => clo41C B w.heap.size b ⟨px, py, pi⟩ qx qy qi W (hb.upd0 ((hu0.trans hw1).trans hW)) (hpt.upd0 (hw1.trans hW)))
  obtain ⟨n, hn⟩ : ∃ n, (namesM Pt.id M fun q => inBM b q.x q.y && lowB q ⟨px, py, pi⟩).length = n := ⟨_, rfl⟩
  have hz := len_zero (namesM Pt.id M fun q => inBM b q.x q.y && lowB q ⟨px, py, pi⟩)
  obtain ⟨r, hr⟩ : ∃ r, (namesM Pt.id M fun q => inBM b q.x q.y && lowB q ⟨px, py, pi⟩).isEmpty = r := ⟨_, rfl⟩
  rw [hr]
  rw [hn, hr] at hz
  simp only [hn] at hch
  have hin := fun w => inCM b px py (pi : Int) w
  obtain ⟨s, hs⟩ : ∃ r, inBM b px py = r := ⟨_, rfl⟩
  rw [hs] at hin ⊢
  clear hs hr hn
  obtain ⟨x1, x2, y1, y2, bi⟩ := b
  unfold bxV at hin
  have c0 := hb 0 _ rfl
  have c1 := hb 1 _ rfl
  have c2 := hb 2 _ rfl
  have c3 := hb 3 _ rfl
  have c4 := hb 4 _ rfl
  have q0 := hq 0 _ rfl
  dsimp only at c0 c1 c2 c3 c4 hin
  have HI := Lib.hid hin
  have HC := Lib.hid hch
  have HK := Lib.hid (And.intro (hq.upd0 hu0) ((hu0.cell (p := ⟨h, 1, none⟩) hh (by simp)).trans hc))
  clear hin hch hb hq hm ha hl hpt hu0
  go_enter Tryz.func75, Tryz.ntmps75
  go_wp2_with fail
  refine (HI.out _).mono ?_
  rintro e w1 ⟨rfl, hu⟩
  have k0 := (HK.out.1.upd0 hu) 0 _ rfl
  have k1 := (hu.cell (p := ⟨h, 1, none⟩) (World.block_lt_of_cell? _ _ HK.out.2) (by simp)).trans HK.out.2
  have HU := Lib.hid hu
  clear hu c0 c1 c2 c3 c4 q0 hc
  cases s with
  | false =>
    go_wp2_with fail
    go_ret
    exact ⟨rfl, ((Upd.refl [] w).alloc _).trans HU.out⟩
  | true =>
    go_wp2_with (go_at_call 70; refine (HC.out _ HU.out).mono ?_; rintro e w2 ⟨A, C, rfl, -, hu⟩; have HU2 := Lib.hid hu; clear hu)
    go_ret
    exact ⟨rfl, (((Upd.refl [] w).alloc _).trans HU.out).trans HU2.out⟩

set_option maxRecDepth 100000 in
set_option maxHeartbeats 1000000 in
theorem oclo1C (B : Nat) (o : OpP) (plo phi pi : Int) (w : World) (h : CelB w B (opL o)) :
    Calls Tryz.prog 80 #[.agg #[.int .i64 plo, .int .i64 phi, .int .u32 pi], .pointer (some ⟨B, 0, none⟩)] w fun e w' => e = .returned (.bool (stabBM plo phi o.a)) ∧ Upd [] w w' := by
  have hB := h.lt rfl
  obtain ⟨oc, oa, ob, occ, od, oi⟩ := o
  have hin := fun w => stabCM plo phi oa pi w
  obtain ⟨r, hr⟩ : ∃ r, stabBM plo phi oa = r := ⟨_, rfl⟩
  simp only [hr] at hin
  dsimp only
  rw [hr]
  clear hr
  have c1 := h 1 _ rfl
  dsimp only at c1
  have HI := Lib.hid hin
  clear h hin
  go_enter Tryz.func80, Tryz.ntmps80
  go_wp2_with (go_at_call 18; refine (HI.out _).mono ?_; rintro e w1 ⟨rfl, hu⟩; have HU := Lib.hid hu; clear hu)
  go_ret
  exact ⟨rfl, ((Upd.refl [] w).alloc _).trans HU.out⟩

set_option maxRecDepth 100000 in
set_option maxHeartbeats 1000000 in
theorem oclo2C (B : Nat) (o : OpP) (plo phi pi : Int) (w : World) (h : CelB w B (opL o)) :
    Calls Tryz.prog 81 #[.agg #[.int .i64 plo, .int .i64 phi, .int .u32 pi], .pointer (some ⟨B, 0, none⟩)] w fun e w' => e = .returned (.bool (stabBM plo phi o.a)) ∧ Upd [] w w' := by
  have hB := h.lt rfl
  obtain ⟨oc, oa, ob, occ, od, oi⟩ := o
  have hin := fun w => stabCM plo phi oa pi w
  obtain ⟨r, hr⟩ : ∃ r, stabBM plo phi oa = r := ⟨_, rfl⟩
  simp only [hr] at hin
  dsimp only
  rw [hr]
  clear hr
  have c1 := h 1 _ rfl
  dsimp only at c1
  have HI := Lib.hid hin
  clear h hin
  go_enter Tryz.func81, Tryz.ntmps81
  go_wp2_with (go_at_call 18; refine (HI.out _).mono ?_; rintro e w1 ⟨rfl, hu⟩; have HU := Lib.hid hu; clear hu)
  go_ret
  exact ⟨rfl, ((Upd.refl [] w).alloc _).trans HU.out⟩

set_option maxRecDepth 100000 in
set_option maxHeartbeats 1000000 in
theorem oclo3C (B : Nat) (o : OpP) (plo phi : Int) (pi : Nat) (w : World) (h : CelB w B (opL o)) :
    Calls Tryz.prog 82 #[.agg #[.int .i64 plo, .int .i64 phi, .int .u32 (pi : Int)], .pointer (some ⟨B, 0, none⟩)] w fun e w' => e = .returned (.bool (meetB ⟨plo, phi, pi⟩ o.a o.b)) ∧ Upd [] w w' := by
  have hB := h.lt rfl
  obtain ⟨oc, oa, ob, occ, od, oi⟩ := o
  have hin := fun w => meetC plo phi (pi : Int) oa ob w
  unfold meetB
  dsimp only
  obtain ⟨r, hr⟩ : ∃ r, decide (max plo oa ≤ min phi ob) = r := ⟨_, rfl⟩
  simp only [hr] at hin
  rw [hr]
  clear hr
  have c1 := h 1 _ rfl
  have c2 := h 2 _ rfl
  dsimp only at c1 c2
  have HI := Lib.hid hin
  clear h hin
  go_enter Tryz.func82, Tryz.ntmps82
  go_wp2_with (go_at_call 30; refine (HI.out _).mono ?_; rintro e w1 ⟨rfl, hu⟩; have HU := Lib.hid hu; clear hu)
  go_ret
  exact ⟨rfl, ((Upd.refl [] w).alloc _).trans HU.out⟩

set_option maxRecDepth 100000 in
set_option maxHeartbeats 1000000 in
theorem oclo4C (B : Nat) (ax ay : Int) (px1 px2 py1 py2 : Int) (pi : Nat) (w : World) (h : CelB w B [.int .i64 ax, .int .i64 ay, .int .u32 0]) :
    Calls Tryz.prog 86 #[.agg #[.int .i64 px1, .int .i64 px2, .int .i64 py1, .int .i64 py2, .int .u32 (pi : Int)], .pointer (some ⟨B, 0, none⟩)] w fun e w' => e = .returned (.bool (inBM ⟨px1, px2, py1, py2, pi⟩ ax ay)) ∧ Upd [] w w' := by
  have hB := h.lt rfl
  have hin := fun w => inCM ⟨px1, px2, py1, py2, pi⟩ ax ay 0 w
  obtain ⟨r, hr⟩ : ∃ r, inBM ⟨px1, px2, py1, py2, pi⟩ ax ay = r := ⟨_, rfl⟩
  simp only [hr] at hin
  rw [hr]
  clear hr
  unfold bxV at hin
  dsimp only at hin
  have c0 := h 0 _ rfl
  have c1 := h 1 _ rfl
  have c2 := h 2 _ rfl
  have HI := Lib.hid hin
  clear h hin
  go_enter Tryz.func86, Tryz.ntmps86
  go_wp2_with (go_at_call 17; refine (HI.out _).mono ?_; rintro e w1 ⟨rfl, hu⟩; have HU := Lib.hid hu; clear hu)
  go_ret
  exact ⟨rfl, ((Upd.refl [] w).alloc _).trans HU.out⟩
end Go.Proofs.YthnbgfnclpkdjaaGreat
