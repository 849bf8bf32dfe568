/- frame: its nodes once made; the nodes that make up a range; the way down to a leaf. -/
import Derived.Test.YtjpjlfcjkgmhdaaGreatFrameB
import Derived.Test.YtjpjlfcjkgmhdaaGreatSegQ
import Derived.BigQuiet
import Derived.Deep.QuietTactic
import Derived.Deep.LoopGhost
import Derived.Deep.Light
namespace Go.Proofs.YtjpjlfcjkgmhdaaGreat
open Go.RowKit Go.Shelf
attribute [local go_sem ↓] Go.wp_at_zero Go.wp_at_succ

/-- A frame whose nodes were made. -/
structure FrmD (w : World) (b : Nat) (vn : Value) (n : Nat) : Prop where
  head : w.heap[b]? = some (.cells #[.int .u32 1, .int .i32 0, .int .u32 0, vn, .int .i64 (n : Int), .bool true] 89 (0, 0))
  row : KD.row w 0 vn (nodesN n)
  out : b ∉ blk vn

theorem FrmD.upd {w w' : World} {b : Nat} {vn : Value} {n : Nat} (h : FrmD w b vn n) {F : List Nat} (hu : Upd F w w') (h1 : b ∉ F) (h2 : ∀ y ∈ blk vn, y ∉ F) : FrmD w' b vn n :=
  ⟨(hu.block b (lt_of_block h.head) h1).trans h.head, own_upd h.row hu h2, h.out⟩

/-- What the nodes are asked for leaves, the first time. -/
def AllPost (w : World) (b n : Nat) (e : Ending) (w' : World) : Prop :=
  ∃ A C, e = .returned (.slice A (nodesN n).length C) ∧ KD.row w' w.heap.size (.slice A (nodesN n).length C) (nodesN n) ∧ Upd [b] w w' ∧ FrmD w' b (.slice A (nodesN n).length C) n
def NodesPostD (w : World) (b n : Nat) (e : Ending) (w' : World) : Prop :=
  ∃ A C, e = .returned (.slice A (nodesN n).length C) ∧ KD.row w' w.heap.size (.slice A (nodesN n).length C) (nodesN n) ∧ Upd [b] w w' ∧ ∃ vn, FrmD w' b vn n ∧ ∀ y ∈ blk vn, w.heap.size ≤ y

set_option maxRecDepth 100000 in
set_option maxHeartbeats 2000000 in
theorem frameAllD (b n : Nat) (w : World) (hn : n < 400000) (h : FrameAt w b n) :
    Calls Tryz.prog 36 #[.pointer (some ⟨b, 0, none⟩)] w (AllPost w b n) := by
  have hbw := lt_of_block h
  have hmf : ∀ (fn : Fn) (first cap : Array Value) (w : World), (Instr.makeFunc fn first cap).run Tryz.prog w = .ok (.func fn first cap) w := fun _ _ _ _ => rfl
  have hu0 : Upd [] w (w.alloc (.cells #[.pointer (some ⟨b, 0, none⟩)] 52)) := (Upd.refl _ _).alloc _
  have hl0 : (w.alloc (.cells #[.pointer (some ⟨b, 0, none⟩)] 52)).cell? ⟨w.heap.size, 0, none⟩ = some (.pointer (some ⟨b, 0, none⟩)) := by rw [World.cell?_alloc_at _ _ _ _ rfl]; rfl
  have h0 := (hu0.block b hbw (by simp)).trans h
  have hs0 : w.heap.size < (w.alloc (.cells #[.pointer (some ⟨b, 0, none⟩)] 52)).heap.size := by simp
  generalize hW0 : w.alloc (.cells #[.pointer (some ⟨b, 0, none⟩)] 52) = W0 at hu0 hl0 h0 hs0
  have hbl : (⟨b, 1, none⟩ : Addr) ≠ ⟨w.heap.size, 0, none⟩ := fun e => by injection e with e _ _; omega
  have h1 : (W0.setCell ⟨b, 1, none⟩ (.int .i32 1)).heap[b]? = some (.cells #[.int .u32 0, .int .i32 1, .int .u32 0, .slice none 0 0, .int .i64 (n : Int), .bool true] 89 (0, 0)) := heap_set h0 1 _
  have hl1 : (W0.setCell ⟨b, 1, none⟩ (.int .i32 1)).cell? ⟨w.heap.size, 0, none⟩ = some (.pointer (some ⟨b, 0, none⟩)) := (World.cell?_setCell_other _ _ _ _ hbl).trans hl0
  have hu1 : Upd [b] W0 (W0.setCell ⟨b, 1, none⟩ (.int .i32 1)) := (Upd.refl _ _).setCell (.inl (by simp)) _
  obtain ⟨⟨c0, c1, _⟩, cf⟩ := six_cells h0
  have hcl : Calls Tryz.prog 61 #[.pointer (some ⟨w.heap.size, 0, none⟩)] (W0.setCell ⟨b, 1, none⟩ (.int .i32 1)) fun e w' => e = .returned (.tuple #[]) ∧ MadeR (W0.setCell ⟨b, 1, none⟩ (.int .i32 1)) b n w' := by
    rcases Nat.eq_zero_or_pos n with rfl | hp
    · exact allIn_zero b _ _ hl1 h1
    · exact allIn_pos b _ n _ hp hn hl1 h1
  have hdo := do_first b _ _ W0 hcl (fun w' hr => by
    obtain ⟨vn, g1, _, _⟩ := hr
    obtain ⟨⟨e0, e1, _⟩, ef⟩ := six_cells g1
    exact ⟨e0, e1, ef 0, ef 1⟩) c0 c1 (cf 1)
  have HDO := Lib.hid hdo
  have HU := Lib.hid (And.intro hu0 hu1)
  have HL := Lib.hid hl1
  have HW := Lib.hid hW0
  have HS := Lib.hid hs0
  clear hdo hcl hu0 hu1 hl1 h1 h0 c0 c1 cf h hbl hW0
  go_enter Tryz.func36, Tryz.ntmps36
  go_upto_region 1 with fail
  rw [HW.out]
  go_wp2_with fail
  (with_reducible refine HDO.out.mono ?_)
  rintro e w' ⟨rfl, w2, ⟨vn, g1, g2, g3⟩, rfl⟩
  obtain ⟨A, C, rfl⟩ := own_form g2
  have k1 := heap_set (heap_set g1 0 (.int .u32 1)) 1 (.int .i32 0)
  have k2 : Upd [b] w2 ((w2.setCell ⟨b, 0, none⟩ (.int .u32 1)).setCell ⟨b, 1, none⟩ (.int .i32 0)).drew := (((Upd.refl [b] w2).setCell (p := ⟨b, 0, none⟩) (.inl (by simp)) _).setCell (p := ⟨b, 1, none⟩) (.inl (by simp)) _).drew
  have hs1 : W0.heap.size = (W0.setCell ⟨b, 1, none⟩ (.int .i32 1)).heap.size := by simp [World.setCell]
  have hbv : b ∉ blk (.slice A (nodesN n).length C) := fun hc => by
    have := own_ge g2 b hc
    rw [← hs1] at this
    omega
  have k3 : KD.row ((w2.setCell ⟨b, 0, none⟩ (.int .u32 1)).setCell ⟨b, 1, none⟩ (.int .i32 0)).drew W0.heap.size (.slice A (nodesN n).length C) (nodesN n) := by
    rw [hs1]
    exact own_upd g2 k2 (fun y hy hc => hbv (by simp at hc; rw [← hc]; exact hy))
  have hlb2 : w.heap.size ≠ b := by omega
  have k4 : ((w2.setCell ⟨b, 0, none⟩ (.int .u32 1)).setCell ⟨b, 1, none⟩ (.int .i32 0)).drew.cell? ⟨w.heap.size, 0, none⟩ = some (.pointer (some ⟨b, 0, none⟩)) :=
    ((g3.trans k2).cell (p := ⟨w.heap.size, 0, none⟩) (by rw [← hs1]; exact HS.out) (by simpa using hlb2)).trans HL.out
  have k5 : ((w2.setCell ⟨b, 0, none⟩ (.int .u32 1)).setCell ⟨b, 1, none⟩ (.int .i32 0)).drew.cell? ⟨b, 3, none⟩ = some (.slice A (nodesN n).length C) := by
    rw [World.cell?_drew]
    unfold World.cell?
    rw [k1]
    rfl
  have k6 : FrmD ((w2.setCell ⟨b, 0, none⟩ (.int .u32 1)).setCell ⟨b, 1, none⟩ (.int .i32 0)).drew b (.slice A (nodesN n).length C) n := ⟨k1, own_base k3 (Nat.zero_le _), hbv⟩
  have HF6 := Lib.hid k6
  have HE := Lib.hid (And.intro k3 (HU.out.1.mono (G := [b]) (by simp) |>.trans (HU.out.2.trans (g3.trans k2))))
  have HSZ : w.heap.size ≤ W0.heap.size := Nat.le_of_lt HS.out
  clear k1 k2 k3 k6 g1 g2 g3 hs1 hbv hlb2
  generalize ((w2.setCell ⟨b, 0, none⟩ (.int .u32 1)).setCell ⟨b, 1, none⟩ (.int .i32 0)).drew = W3 at *
  go_wp2_with fail
  go_ret
  exact ⟨A, C, rfl, own_base HE.out.1 HSZ, HE.out.2, HF6.out⟩

set_option maxRecDepth 100000 in
set_option maxHeartbeats 2000000 in
theorem frameNodesD (b n : Nat) (w : World) (hn : n < 400000) (h : FrameAt w b n) :
    Calls Tryz.prog 20 #[.pointer (some ⟨b, 0, none⟩)] w (NodesPostD w b n) := by
  obtain ⟨i0, hi, hz0, hz1, hz2⟩ := info_parts info_nd
  have hbw := lt_of_block h
  have hu0 : Upd [] w (w.alloc (.cells #[] 122)) := (Upd.refl _ _).alloc _
  have hr0 : (w.alloc (.cells #[] 122)).ownsRow w.heap.size 122 7 (.slice (some ⟨w.heap.size, 0, none⟩) 0 0) 0 [] := ⟨rfl, .inr ⟨w.heap.size, 0, #[], rfl, Nat.le_refl _, heap_alloc_new w _, Nat.le_refl _, Nat.zero_le _, rfl, rfl⟩⟩
  have hs0 : w.heap.size < (w.alloc (.cells #[] 122)).heap.size := by simp
  have hnn := frameNone b n w h
  have hal := frameAllD b n (w.alloc (.cells #[] 122)) hn ((hu0.block b hbw (by simp)).trans h)
  have hl := nodesN_len n
  obtain ⟨N, hN⟩ : ∃ N, (nodesN n).length = N := ⟨_, rfl⟩
  have HN := Lib.hid hnn
  have HA := Lib.hid hal
  have HU := Lib.hid hu0
  have HR := Lib.hid hr0
  have HNE := Lib.hid hN
  have hNb : N < 1000000 := by omega
  clear hnn hal hu0 hr0 h hl hN
  go_enter Tryz.func20, Tryz.ntmps20
  go_wp2_with fail
  (with_reducible refine HN.out.mono ?_)
  rintro e w' ⟨rfl, rfl⟩
  go_wp2_with fail
  (with_reducible refine HA.out.mono ?_)
  rintro e w' ⟨A, C, rfl, g1, g2, g3⟩
  have HF := Lib.hid g3
  have HGE := Lib.hid (fun y hy => own_ge g1 y hy)
  clear g3
  have k1 : w'.ownsRow w.heap.size 122 7 (.slice (some ⟨w.heap.size, 0, none⟩) 0 0) 0 [] := own_upd HR.out g2 (by simp [blk]; omega)
  have k2 := sees_of_own g1
  rw [HNE.out] at k2 ⊢
  have k3 : w.heap.size ≤ w'.heap.size := by have := g2.size; omega
  have HK := Lib.hid (And.intro k1 k2)
  have HG := Lib.hid g2
  clear k1 k2 g1 g2
  go_wp2_with (at_builtin; refine wpList_app _ rfl _ _ 56 rfl w.heap.size 122 i0 (.agg #[.int .u8 0, .int .i64 0, .int .i64 0, .int .i64 0, .int .i64 0, .int .i64 0, .int .i64 0]) 7 56 Tryz.underlying56 hi hz0 hz1 hz2 rfl (by decide) _ 0 [] rfl HK.out.1 _ N (KD.all (nodesN n)) rfl HK.out.2 (KD.all_one _) (by unfold maxLen; omega) (by omega) k3 ?_)
  intro A2 C2 w2 HP
  have HP2 := Lib.hid HP
  clear HP
  go_wp2_with fail
  go_ret
  have e1 := HP2.out.own
  have e2 := HP2.out.upd
  refine ⟨A2, C2, ?_, ?_, ?_, ?_⟩
  · rw [HNE.out]; rfl
  · rw [HNE.out]
    unfold Kind.row
    rw [HNE.out]
    have e1' : w2.ownsRow w.heap.size 122 7 (.slice A2 N C2) N (KD.all (nodesN n)) := by simpa using e1
    exact e1'
  · exact ((HU.out.mono (by simp)).trans HG.out).trans' e2 (fun y hy => .inr (by simp [blk] at hy; omega))
  · have hs := HF.out
    have hb := lt_of_block hs.head
    refine ⟨_, hs.upd e2 ?_ ?_, fun y hy => by have := HGE.out y hy; simp at this; omega⟩
    · intro hc; simp [blk] at hc; omega
    · intro y hy hc
      have := HGE.out y hy
      simp [blk] at hc this
      omega
end Go.Proofs.YtjpjlfcjkgmhdaaGreat

namespace Go.Proofs.YtjpjlfcjkgmhdaaGreat
open Go.RowKit Go.Shelf

set_option maxRecDepth 100000 in
set_option maxHeartbeats 1600000 in
/-- '(*sync.Once).Do', done. -/
theorem do_done (b : Nat) (f : Value) (w : World) (h0 : w.cell? ⟨b, 0, none⟩ = some (.int .u32 1)) :
    Calls Tryz.prog 60 #[.pointer (some ⟨b, 0, none⟩), f] w fun e w' => e = .returned (.tuple #[]) ∧ Upd [] w w' := by
  have hl := run_call_load (P := Tryz.prog) Tryz.func105 (by kernel_rfl) (by kernel_rfl) (by kernel_rfl) .u32 (by kernel_rfl) h0
  have hnot : ∀ (x : Bool) (w : World), (Op.unary .not (.bool x)).run Tryz.prog w = .ok (.bool (!x)) w := fun _ _ => rfl
  go_enter Tryz.func60, Tryz.ntmps60
  go_wp2_with (go_at_call 93; go_in)
  go_end0
  exact ⟨rfl, Upd.refl _ _⟩

set_option maxRecDepth 100000 in
set_option maxHeartbeats 400000 in
theorem frameNoneD (b n : Nat) (vn : Value) (w : World) (h : FrmD w b vn n) :
    Calls Tryz.prog 35 #[.pointer (some ⟨b, 0, none⟩)] w fun e w' => e = .returned (.bool false) ∧ w = w' := by
  have c5 : w.cell? ⟨b, 5, none⟩ = some (.bool true) := by have := h.head; simp [World.cell?, this]
  clear h
  go_enter Tryz.func35, Tryz.ntmps35
  go_wp2_with fail
  go_ret
  exact ⟨rfl, rfl⟩

set_option maxRecDepth 100000 in
set_option maxHeartbeats 400000 in
theorem frameLeavesD (b n : Nat) (vn : Value) (w : World) (h : FrmD w b vn n) :
    Calls Tryz.prog 97 #[.pointer (some ⟨b, 0, none⟩)] w fun e w' => e = .returned (.int .i64 (n : Int)) ∧ w = w' := by
  have c4 : w.cell? ⟨b, 4, none⟩ = some (.int .i64 (n : Int)) := by have := h.head; simp [World.cell?, this]
  have HN := Lib.hid (frameNoneD b n vn w h)
  clear h
  go_enter Tryz.func97, Tryz.ntmps97
  go_wp2_with fail
  (with_reducible refine HN.out.mono ?_)
  rintro e w' ⟨rfl, rfl⟩
  go_wp2_with fail
  go_ret
  exact ⟨rfl, rfl⟩

set_option maxRecDepth 100000 in
set_option maxHeartbeats 400000 in
theorem frameRootD (b n : Nat) (vn : Value) (w : World) (hn : n < 1000000) (h0 : 0 < n) (h : FrmD w b vn n) :
    Calls Tryz.prog 67 #[.pointer (some ⟨b, 0, none⟩)] w fun e w' => e = .returned (.int .i64 ((2 * n - 2 : Nat) : Int)) ∧ w = w' := by
  have c4 : w.cell? ⟨b, 4, none⟩ = some (.int .i64 (n : Int)) := by have := h.head; simp [World.cell?, this]
  have HN := Lib.hid (frameLeavesD b n vn w h)
  clear h
  have hd : ((n : Int) == 0) = false := by simp; omega
  have b0 : (0 : Int) ≤ (n : Int) := Int.natCast_nonneg _
  have b1 : (n : Int) < 1000000 := by omega
  have hr : ((2 * n - 2 : Nat) : Int) = 2 * (n : Int) - 2 := by omega
  have HRR := Lib.hid hr
  clear hr
  go_enter Tryz.func67, Tryz.ntmps67
  go_wp2_with fail
  (with_reducible refine HN.out.mono ?_)
  rintro e w' ⟨rfl, rfl⟩
  go_wp2_with fail
  go_ret
  exact ⟨by rw [HRR.out]; rfl, rfl⟩

set_option maxRecDepth 100000 in
set_option maxHeartbeats 2000000 in
theorem frameAllE (b n : Nat) (vn : Value) (w : World) (h : FrmD w b vn n) :
    Calls Tryz.prog 36 #[.pointer (some ⟨b, 0, none⟩)] w fun e w' => e = .returned vn ∧ Upd [] w w' := by
  have hbw := lt_of_block h.head
  have hmf : ∀ (fn : Fn) (first cap : Array Value) (w : World), (Instr.makeFunc fn first cap).run Tryz.prog w = .ok (.func fn first cap) w := fun _ _ _ _ => rfl
  have hu0 : Upd [] w (w.alloc (.cells #[.pointer (some ⟨b, 0, none⟩)] 52)) := (Upd.refl _ _).alloc _
  have hl0 : (w.alloc (.cells #[.pointer (some ⟨b, 0, none⟩)] 52)).cell? ⟨w.heap.size, 0, none⟩ = some (.pointer (some ⟨b, 0, none⟩)) := by rw [World.cell?_alloc_at _ _ _ _ rfl]; rfl
  have h0 := h.upd hu0 (by simp) (by simp)
  have hs0 : w.heap.size < (w.alloc (.cells #[.pointer (some ⟨b, 0, none⟩)] 52)).heap.size := by simp
  generalize hW0 : w.alloc (.cells #[.pointer (some ⟨b, 0, none⟩)] 52) = W0 at hu0 hl0 h0 hs0
  have hdo := do_done b (.func (.func 61) #[] #[.pointer (some ⟨w.heap.size, 0, none⟩)]) W0 (six_cells h0.head).1.1
  have HDO := Lib.hid hdo
  have HU := Lib.hid hu0
  have HL := Lib.hid hl0
  have HW := Lib.hid hW0
  have HS := Lib.hid hs0
  have H0 := Lib.hid h0
  clear hdo hu0 h h0 hW0
  go_enter Tryz.func36, Tryz.ntmps36
  go_upto_region 1 with fail
  rw [HW.out]
  go_wp2_with fail
  (with_reducible refine HDO.out.mono ?_)
  rintro e w' ⟨rfl, hu⟩
  have k4 : w'.cell? ⟨w.heap.size, 0, none⟩ = some (.pointer (some ⟨b, 0, none⟩)) := (hu.cell (p := ⟨w.heap.size, 0, none⟩) HS.out (by simp)).trans HL.out
  have k5 := (six_cells (H0.out.upd hu (by simp) (by simp)).head).1.2.2.2.1
  have HU2 := Lib.hid (HU.out.trans hu)
  clear hu
  go_wp2_with fail
  go_ret
  exact ⟨rfl, HU2.out⟩
end Go.Proofs.YtjpjlfcjkgmhdaaGreat
