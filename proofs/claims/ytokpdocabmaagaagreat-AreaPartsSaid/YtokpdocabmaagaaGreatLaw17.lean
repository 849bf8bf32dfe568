/- gridironlaw17.cells. -/
import Derived.Test.YtokpdocabmaagaaGreatAw17
import Derived.Test.YtokpdocabmaagaaGreatOpenBx
namespace Go.Proofs.YtokpdocabmaagaaGreat
open Go.RowKit

/-- A number of 128 bits, opened. -/
theorem wideV_open (n : Nat) : ∃ h lo : Nat, wideV n = .agg #[.int .u64 (h : Int), .int .u64 (lo : Int)] ∧ h = n / 18446744073709551616 ∧ lo = n % 18446744073709551616 := ⟨_, _, rfl, rfl, rfl⟩

set_option maxRecDepth 100000 in
set_option maxHeartbeats 4000000 in
theorem cells17 (v : Value) (l : List Bx) (w : World) (hs : See KBx w v l) (hl : l.length < 100000) (hb : ∀ b ∈ l, b.in64) :
    Calls Tryz.prog 21 #[v] w fun e w' => e = .returned (wideV (areaA l).toNat) ∧ Upd [] w w' := by
  obtain ⟨A, C, rfl⟩ := hs.form
  have hu0 : Upd [] w (w.alloc (.cells #[.int .u64 0, .int .u64 0] 27)) := (Upd.refl _ _).alloc _
  have ha := areaAll (.slice A l.length C) l _ (hs.upd0 hu0) hl hb
  unfold AreaPost at ha
  obtain ⟨E, hE⟩ : ∃ E : Nat, areaE l = E := ⟨_, rfl⟩
  obtain ⟨h, lo, hv, -, -⟩ := wideV_open (areaA l).toNat
  rw [hE, hv] at ha
  rw [hv]
  have h20 : (w.alloc (.cells #[.int .u64 0, .int .u64 0] 27)).heap[w.heap.size]? = some (.cells #[.int .u64 0, .int .u64 0] 27 (0, 0)) := heap_alloc_new _ _
  have HA := Lib.hid ha
  have HU0 := Lib.hid hu0
  have H20 := Lib.hid h20
  clear hs hl hb hu0 ha hE hv h20
  go_enter Tryz.func21, Tryz.ntmps21
  go_wp2_with fail
  (with_reducible refine HA.out.mono ?_)
  rintro e w1 ⟨rfl, hu1⟩
  have hn := heap_alloc_new w1 (.cells #[.int .u64 (h : Int), .int .u64 (lo : Int)] 27)
  have hua : Upd [] w1 (w1.alloc (.cells #[.int .u64 (h : Int), .int .u64 (lo : Int)] 27)) := (Upd.refl _ _).alloc _
  have hz := ((hu1.trans hua).block w.heap.size (lt_of_block H20.out) (by simp)).trans H20.out
  have hU := HU0.out.trans (hu1.trans hua)
  have HN := Lib.hid hn
  have HZ := Lib.hid (And.intro hz hU)
  clear hn hua hz hU hu1
  go_upto_region 2 with fail
  generalize w1.heap.size = q at HN ⊢
  generalize w1.alloc (.cells #[.int .u64 (h : Int), .int .u64 (lo : Int)] 27) = W at HN HZ ⊢
  have c0 : W.cell? ⟨q, 0, none⟩ = some (.int .u64 (h : Int)) := by have := HN.out; simp [World.cell?, this]
  have c1 : W.cell? ⟨q, 1, none⟩ = some (.int .u64 (lo : Int)) := by have := HN.out; simp [World.cell?, this]
  have r0 : W.cell? ⟨w.heap.size, 0, none⟩ = some (.int .u64 0) := by have := HZ.out.1; simp [World.cell?, this]
  have r1 : W.cell? ⟨w.heap.size, 1, none⟩ = some (.int .u64 0) := by have := HZ.out.1; simp [World.cell?, this]
  have f0 : W.frozen? ⟨w.heap.size, 0, none⟩ = false := by have := HZ.out.1; simp [World.frozen?, this]
  have f1 : W.frozen? ⟨w.heap.size, 1, none⟩ = false := by have := HZ.out.1; simp [World.frozen?, this]
  have hf := heap_set (heap_set HZ.out.1 0 (.int .u64 (h : Int))) 1 (.int .u64 (lo : Int))
  have HF := Lib.hid hf
  have HUE := Lib.hid (show Upd [] w ((W.setCell ⟨w.heap.size, 0, none⟩ (.int .u64 (h : Int))).setCell ⟨w.heap.size, 1, none⟩ (.int .u64 (lo : Int))) from ((HZ.out.2.setCell (.inr (Nat.le_refl _)) _).setCell (.inr (Nat.le_refl _)) _))
  clear hf
  go_wp2_with fail
  have e0 : ((W.setCell ⟨w.heap.size, 0, none⟩ (.int .u64 (h : Int))).setCell ⟨w.heap.size, 1, none⟩ (.int .u64 (lo : Int))).cell? ⟨w.heap.size, 0, none⟩ = some (.int .u64 (h : Int)) := by have := HF.out; simp [World.cell?, this]
  have e1 : ((W.setCell ⟨w.heap.size, 0, none⟩ (.int .u64 (h : Int))).setCell ⟨w.heap.size, 1, none⟩ (.int .u64 (lo : Int))).cell? ⟨w.heap.size, 1, none⟩ = some (.int .u64 (lo : Int)) := by have := HF.out; simp [World.cell?, this]
  exact bodyPost_ret (v := .agg #[.int .u64 (h : Int), .int .u64 (lo : Int)]) (by simp [results, Tryz.results21, go_sem, e0, e1]) rfl ⟨rfl, HUE.out⟩
end Go.Proofs.YtokpdocabmaagaaGreat
