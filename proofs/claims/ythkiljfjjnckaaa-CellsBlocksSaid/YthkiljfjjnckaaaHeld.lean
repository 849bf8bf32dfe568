/- cells.Held: some box covers the cell. -/
import Derived.Test.YthkiljfjjnckaaaItem
namespace Go.Proofs.Ythkiljfjjnckaaa
open Go.RowKit

set_option maxRecDepth 100000 in
theorem heldFn (b : Bx) (px py : Nat) (x y : Int) (w : World) (cx : w.cell? ⟨px, 0, none⟩ = some (.int .i64 x)) (cy : w.cell? ⟨py, 0, none⟩ = some (.int .i64 y)) :
    Calls Try.prog 69 #[bxV b, .pointer (some ⟨px, 0, none⟩), .pointer (some ⟨py, 0, none⟩)] w fun e w' => e = .returned (.bool (b.cell x y)) ∧ Upd [] w w' := by
  have hcell := fun w => cellC b x y w
  obtain ⟨s, hs⟩ : ∃ s, b.cell x y = s := ⟨_, rfl⟩
  rw [hs]
  simp only [hs] at hcell
  obtain ⟨x1, x2, y1, y2, bi⟩ := b
  unfold bxV at hcell ⊢
  dsimp only at hcell ⊢
  have HC := Lib.hid hcell
  have lx : px < w.heap.size := World.block_lt_of_cell? w _ cx
  have ly : py < w.heap.size := World.block_lt_of_cell? w _ cy
  have ex : px ≠ w.heap.size := by omega
  have ey : py ≠ w.heap.size := by omega
  clear hcell hs
  have hu : Upd [] w (w.alloc (.cells #[.int .i64 x1, .int .i64 x2, .int .i64 y1, .int .i64 y2, .int .u32 (bi : Int)] 76)) := (Upd.refl _ _).alloc _
  have cx' := (hu.cell (p := ⟨px, 0, none⟩) lx (by simp)).trans cx
  have cy' := (hu.cell (p := ⟨py, 0, none⟩) ly (by simp)).trans cy
  have HU := Lib.hid hu
  clear hu lx ly
  go_enter Try.func69, Try.ntmps69
  go_wp2_with fail
  (with_reducible refine (HC.out _).mono ?_)
  rintro e w1 ⟨rfl, hu1⟩
  have HU1 := Lib.hid (HU.out.trans hu1)
  clear hu1
  go_wp2_with fail
  go_ret
  exact ⟨rfl, HU1.out⟩

/-- What IndexFunc tells: a number that is not below 0 just if there is one. -/
def IdxPost (s : Bool) (w : World) (e : Ending) (w' : World) : Prop := ∃ z : Int, e = .returned (.int .i64 z) ∧ decide (0 ≤ z) = s ∧ Upd [] w w'

theorem covB_take (l : List Bx) (x y : Int) {k : Nat} {b : Bx} (hb : l[k]? = some b) : covB (l.take (k + 1)) x y = (covB (l.take k) x y || b.cell x y) := by
  unfold covB
  rw [List.take_add_one, hb]
  simp

theorem cov_hit {l : List Bx} {x y : Int} {k : Nat} {b : Bx} (hb : l[k]? = some b) (hc : b.cell x y = true) : covB l x y = true := by
  unfold covB
  rw [List.any_eq_true]
  exact ⟨b, List.mem_of_getElem? hb, hc⟩

set_option maxRecDepth 100000 in
set_option maxHeartbeats 1000000 in
theorem indexHeld (v : Value) (l : List Bx) (px py : Nat) (x y : Int) (w : World) (hs : See KBx w v l) (cx : w.cell? ⟨px, 0, none⟩ = some (.int .i64 x)) (cy : w.cell? ⟨py, 0, none⟩ = some (.int .i64 y)) (hl : l.length < 1000000000) :
    Calls Try.prog 93 #[v, .func (.func 69) #[] #[.pointer (some ⟨px, 0, none⟩), .pointer (some ⟨py, 0, none⟩)]] w (IdxPost (covB l x y) w) := by
  obtain ⟨A, C, rfl⟩ := hs.form
  unfold IdxPost
  have lx : px < w.heap.size := World.block_lt_of_cell? w _ cx
  have ly : py < w.heap.size := World.block_lt_of_cell? w _ cy
  obtain ⟨s, hss⟩ : ∃ s, covB l x y = s := ⟨_, rfl⟩
  rw [hss]
  have HSS := Lib.hid hss
  have HS := Lib.hid hs
  have HXY := Lib.hid (And.intro (And.intro lx cx) (And.intro ly cy))
  clear hs hss cx cy lx ly
  go_enter Try.func93, Try.ntmps93
  go_wp2_with fail
  go_loopg [8] l.length (fun m i wr => ∃ k, m + k = l.length ∧ i = .int .i64 (k : Int) ∧ covB (l.take k) x y = false ∧ Upd [] w wr)
  case atStart => exact ⟨0, rfl, rfl, rfl, Upd.refl _ _⟩
  case round =>
    obtain ⟨k, hk, rfl, hcv, hu⟩ := hrel
    have b0 : (0 : Int) ≤ (k : Int) := Int.natCast_nonneg _
    by_cases hlt : k < l.length
    · obtain ⟨b, hb⟩ : ∃ b, l[k]? = some b := ⟨_, List.getElem?_eq_getElem hlt⟩
      obtain ⟨bl, ol, hA, -, -, l0, l1, l2, l3, l4⟩ := KBx.at (HS.out.upd0 hu) hb
      subst hA
      have hfn := heldFn b px py x y wr ((hu.cell (p := ⟨px, 0, none⟩) HXY.out.1.1 (by simp)).trans HXY.out.1.2) ((hu.cell (p := ⟨py, 0, none⟩) HXY.out.2.1 (by simp)).trans HXY.out.2.2)
      have htk := covB_take l x y hb
      rw [hcv, Bool.false_or] at htk
      have hhit := fun h => cov_hit (x := x) (y := y) hb h
      obtain ⟨c, hc⟩ : ∃ c, b.cell x y = c := ⟨_, rfl⟩
      rw [hc] at hfn htk hhit
      unfold bxV at hfn
      have b1 : (k : Int) < (l.length : Int) := by omega
      have b2 : (k : Int) < 1000000000 := by omega
      have HFN := Lib.hid hfn
      have HTK := Lib.hid htk
      have HHIT := Lib.hid hhit
      have HU := Lib.hid hu
      have HK := Lib.hid hk
      have HLT := Lib.hid hlt
      clear hfn htk hhit hu hk hlt hcv hc hb hl
      go_wp2_with fail
      (with_reducible refine HFN.out.mono ?_)
      rintro e w1 ⟨rfl, hu1⟩
      have HU1 := Lib.hid (HU.out.trans hu1)
      clear hu1
      cases c
      · go_wp2_with fail
        go_roundg (gk - 1)
        case measure => have := HK.out; have := HLT.out; omega
        case rel => exact ⟨k + 1, by have := HK.out; have := HLT.out; omega, by go_num, HTK.out, HU1.out⟩
      · go_wp2_with fail
        go_ret
        exact ⟨(k : Int), rfl, by rw [← HSS.out, HHIT.out trivial]; simp, HU1.out⟩
    · have hcl : covB l x y = false := by rw [List.take_of_length_le (by omega)] at hcv; exact hcv
      have HU := Lib.hid hu
      have HCL := Lib.hid hcl
      clear hu hcl hcv hk hl
      go_wp2_with fail
      go_ret
      exact ⟨-1, rfl, by rw [← HSS.out, HCL.out]; rfl, HU.out⟩

set_option maxRecDepth 100000 in
set_option maxHeartbeats 1000000 in
theorem heldC (v : Value) (l : List Bx) (x y : Int) (w : World) (hs : See KBx w v l) (hl : l.length < 1000000000) :
    Calls Try.prog 37 #[v, .int .i64 x, .int .i64 y] w fun e w' => e = .returned (.bool (covB l x y)) ∧ Upd [] w w' := by
  have hu : Upd [] w ((w.alloc (.cells #[.int .i64 x] 2)).alloc (.cells #[.int .i64 y] 2)) := ((Upd.refl _ _).alloc _).alloc _
  have c1 : ((w.alloc (.cells #[.int .i64 x] 2)).alloc (.cells #[.int .i64 y] 2)).cell? ⟨w.heap.size, 0, none⟩ = some (.int .i64 x) := by
    rw [World.cell?_alloc_past _ _ _ (by simp), World.cell?_alloc_at _ _ _ _ rfl]; rfl
  have c2 : ((w.alloc (.cells #[.int .i64 x] 2)).alloc (.cells #[.int .i64 y] 2)).cell? ⟨w.heap.size + 1, 0, none⟩ = some (.int .i64 y) := by
    rw [World.cell?_alloc_at _ _ _ _ (by simp)]; rfl
  have hx := indexHeld v l w.heap.size (w.heap.size + 1) x y _ (hs.upd0 hu) c1 c2 hl
  obtain ⟨A, C, rfl⟩ := hs.form
  have HX := Lib.hid hx
  have HU := Lib.hid hu
  clear hx hu c1 c2 hs hl
  have hcf : Calls Try.prog 68 #[.slice A l.length C, .func (.func 69) #[] #[.pointer (some ⟨w.heap.size, 0, none⟩), .pointer (some ⟨w.heap.size + 1, 0, none⟩)]]
      ((w.alloc (.cells #[.int .i64 x] 2)).alloc (.cells #[.int .i64 y] 2)) fun e w' => e = .returned (.bool (covB l x y)) ∧ Upd [] w w' := by
    obtain ⟨s, hss⟩ : ∃ s, covB l x y = s := ⟨_, rfl⟩
    rw [hss] at HX ⊢
    go_enter Try.func68, Try.ntmps68
    go_wp2_with fail
    (with_reducible refine HX.out.mono ?_)
    rintro e w1 ⟨z, rfl, hz, hu1⟩
    have HU1 := Lib.hid (HU.out.trans hu1)
    clear hu1
    go_wp2_with fail
    go_ret
    exact ⟨rfl, HU1.out⟩
  obtain ⟨s, hss⟩ : ∃ s, covB l x y = s := ⟨_, rfl⟩
  rw [hss] at hcf ⊢
  have HCF := Lib.hid hcf
  clear hcf hss
  go_enter Try.func37, Try.ntmps37
  go_wp2_with fail
  (with_reducible refine HCF.out.mono ?_)
  rintro e w1 ⟨rfl, hu1⟩
  have HU1 := Lib.hid hu1
  clear hu1
  go_wp2_with fail
  go_ret
  exact ⟨rfl, HU1.out⟩
end Go.Proofs.Ythkiljfjjnckaaa
