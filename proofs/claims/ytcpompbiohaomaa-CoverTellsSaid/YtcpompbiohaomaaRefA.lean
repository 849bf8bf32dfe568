/- The document's numbers as bits: Bits, Number, Cmp, Sub, Diff. -/
import Derived.Test.YtcpompbiohaomaaKn
import Derived.Test.YtcpompbiohaomaaBitsP
import Derived.Test.YtcpompbiohaomaaWideC
import Derived.WalkSmall
namespace Go.Proofs.Ytcpompbiohaomaa
open Go.RowKit

/-- The bits that have been written when i have been. -/
def bitsF (N i : Nat) : List Nat := (List.range 128).map fun j => if j < i ∨ (64 ≤ j ∧ j < 64 + i) then N / 2 ^ j % 2 else 0

theorem bitsF_zero (N : Nat) : bitsF N 0 = List.replicate 128 0 := by
  unfold bitsF
  refine List.ext_getElem? fun j => ?_
  rw [List.getElem?_map, List.getElem?_replicate]
  by_cases h : j < 128
  · rw [List.getElem?_range h, if_pos h]
    simp; omega
  · rw [List.getElem?_eq_none (by simp; omega), if_neg h]; rfl

theorem bitsF_end (N : Nat) : bitsF N 64 = bitsL N 128 := by
  unfold bitsF bitsL
  refine List.map_congr_left fun j hj => ?_
  rw [List.mem_range] at hj
  rw [if_pos (by omega)]

theorem bitsF_len (N i : Nat) : (bitsF N i).length = 128 := by simp [bitsF]

theorem bitsF_step (N i : Nat) (hi : i < 64) : ((bitsF N i).set i (N / 2 ^ i % 2)).set (64 + i) (N / 2 ^ (64 + i) % 2) = bitsF N (i + 1) := by
  refine List.ext_getElem? fun j => ?_
  rw [List.getElem?_set, List.getElem?_set]
  simp only [List.length_set, bitsF_len]
  by_cases h : j < 128
  · have e : ∀ k, (bitsF N k)[j]? = some (if j < k ∨ (64 ≤ j ∧ j < 64 + k) then N / 2 ^ j % 2 else 0) := fun k => by unfold bitsF; rw [List.getElem?_map, List.getElem?_range h]; rfl
    rw [e, e]
    by_cases h1 : 64 + i = j
    · subst h1
      rw [if_pos rfl, if_pos h, if_pos (by omega)]
    · rw [if_neg h1]
      by_cases h2 : i = j
      · subst h2
        rw [if_pos rfl, if_pos h, if_pos (by omega)]
      · rw [if_neg h2]
        have e2 : (j < i ∨ (64 ≤ j ∧ j < 64 + i)) ↔ (j < i + 1 ∨ (64 ≤ j ∧ j < 64 + (i + 1))) := by omega
        simp only [e2]
  · rw [if_neg (by omega), if_neg (by omega), List.getElem?_eq_none (by rw [bitsF_len]; omega), List.getElem?_eq_none (by rw [bitsF_len]; omega)]

theorem bitsF_at (N i : Nat) {j : Nat} (h : j < 128) : (bitsF N i)[j]? = some (if j < i ∨ (64 ≤ j ∧ j < 64 + i) then N / 2 ^ j % 2 else 0) := by
  unfold bitsF; rw [List.getElem?_map, List.getElem?_range h]; rfl

theorem bit_low {N lo i : Nat} (h : N % 18446744073709551616 = lo) (hi : i < 64) : lo / 2 ^ i % 2 = N / 2 ^ i % 2 := by
  have h1 : lo.testBit i = N.testBit i := by
    rw [← h, show (18446744073709551616 : Nat) = 2 ^ 64 from rfl, Nat.testBit_mod_two_pow]
    simp [hi]
  rw [Nat.testBit_eq_decide_div_mod_eq, Nat.testBit_eq_decide_div_mod_eq, decide_eq_decide] at h1
  omega

theorem bit_high {N hi i : Nat} (h : N / 18446744073709551616 = hi) : hi / 2 ^ i % 2 = N / 2 ^ (64 + i) % 2 := by
  rw [← h, Nat.div_div_eq_div_mul, Nat.pow_add]

theorem bit_val (x i : Nat) (hx : x < 18446744073709551616) : Value.int .i64 (wrap64 (bits .and .u64 ((x : Int) / 2 ^ i) 1)) = Value.int .i64 ((x / 2 ^ i % 2 : Nat) : Int) := by
  have e : (x : Int) / 2 ^ i = ((x / 2 ^ i : Nat) : Int) := by simp
  have h1 : x / 2 ^ i ≤ x := Nat.div_le_self _ _
  obtain ⟨y, hy⟩ : ∃ y, x / 2 ^ i = y := ⟨_, rfl⟩
  rw [e, hy]
  rw [hy] at h1
  rw [and_one_u64 _ (by omega) (by omega)]
  congr 1
  rw [IntWalk.wrap64_in _ (by omega)]
  omega

def BitsPost (w : World) (N : Nat) (e : Ending) (w' : World) : Prop :=
  ∃ g, e = .returned (.slice (some ⟨g, 0, none⟩) 128 128) ∧ w.heap.size ≤ g ∧ KN.row w' w.heap.size (.slice (some ⟨g, 0, none⟩) 128 128) (bitsL N 128) ∧ Upd [] w w'

set_option maxRecDepth 100000 in
set_option maxHeartbeats 2000000 in
theorem bitsC (N : Nat) (hN : W128 N) (w : World) : Calls Try.prog 90 #[wideV N] w (BitsPost w N) := by
  obtain ⟨hi, hhi⟩ : ∃ h, N / 18446744073709551616 = h := ⟨_, rfl⟩
  obtain ⟨lo, hlo⟩ : ∃ h, N % 18446744073709551616 = h := ⟨_, rfl⟩
  unfold wideV
  rw [hhi, hlo]
  obtain ⟨W, hW⟩ : ∃ W, w.alloc (.cells #[.int .u64 (hi : Int), .int .u64 (lo : Int)] 56) = W := ⟨_, rfl⟩
  have hmk := kn_make W 128 (by decide)
  obtain ⟨W2, hW2⟩ : ∃ W2, W.alloc (.cells (madeCells #[.int .i64 0] (128 * 1)) 3) = W2 := ⟨_, rfl⟩
  rw [hW2] at hmk
  have hmk1 : (Instr.makeSlice 67 (.int .i64 128) (.int .i64 128)).run Try.prog W = .ok (.slice (some ⟨W.heap.size, 0, none⟩) 128 128) W2 := hmk.1
  have hWs : w.heap.size < W.heap.size := by rw [← hW]; simp
  have hu1 : Upd [] w W := by rw [← hW]; exact (Upd.refl _ _).alloc _
  have hu2 : Upd [] w W2 := by rw [← hW2]; exact hu1.alloc _
  have c0 : W2.cell? ⟨w.heap.size, 0, none⟩ = some (.int .u64 (hi : Int)) := by
    rw [← hW2, World.cell?_alloc_past _ _ _ hWs, ← hW, World.cell?_alloc_at _ _ _ _ rfl]; rfl
  have c1 : W2.cell? ⟨w.heap.size, 1, none⟩ = some (.int .u64 (lo : Int)) := by
    rw [← hW2, World.cell?_alloc_past _ _ _ hWs, ← hW, World.cell?_alloc_at _ _ _ _ rfl]; rfl
  have HR := Lib.hid (And.intro hmk.2 (And.intro hu2 (And.intro c0 c1)))
  have HW := Lib.hid hW
  have hhb : hi < 18446744073709551616 := by rw [← hhi]; exact hN
  have hlb : lo < 18446744073709551616 := by omega
  have HH := Lib.hid (And.intro hhi hhb)
  have HL := Lib.hid (And.intro hlo hlb)
  clear hW hW2 hmk hu1 hu2 c0 c1 hhi hlo hhb hlb hN
  obtain ⟨q, hq⟩ : ∃ q, W.heap.size = q := ⟨_, rfl⟩
  rw [hq] at hmk1 hWs HR
  have HQ := Lib.hid hq
  clear hq
  go_enter Try.func90, Try.ntmps90
  go_upto_region 1 with fail
  rw [HW.out]
  go_wp2_with fail
  go_loopg [4] 64 (fun m s4 wr => ∃ i, m + i = 64 ∧ s4 = .int .i64 (i : Int) ∧ KN.row wr q (.slice (some ⟨q, 0, none⟩) 128 128) (bitsF N i) ∧ Upd [q] W2 wr ∧ Upd [] w wr)
  case atStart => exact ⟨0, rfl, rfl, by rw [bitsF_zero]; exact HR.out.1, Upd.refl _ _, HR.out.2.1⟩
  case round =>
    obtain ⟨i, hi', rfl, hrow, hu, hu0⟩ := hrel
    have HI := Lib.hid hi'
    have hqs : w.heap.size ≠ q := by omega
    have x0 := (hu.cell (p := ⟨w.heap.size, 0, none⟩) (World.block_lt_of_cell? _ _ HR.out.2.2.1) (by simpa using hqs)).trans HR.out.2.2.1
    have x1 := (hu.cell (p := ⟨w.heap.size, 1, none⟩) (World.block_lt_of_cell? _ _ HR.out.2.2.2) (by simpa using hqs)).trans HR.out.2.2.2
    by_cases hlt : i < 64
    · have b0 : (0 : Int) ≤ (i : Int) := Int.natCast_nonneg _
      have b1 : (i : Int) < 64 := by omega
      obtain ⟨g1, hg1, -, d1, f1⟩ := kn_row hrow (bitsF_at N i (j := i) (by omega))
      obtain ⟨g2, hg2, -, d2, f2⟩ := kn_row hrow (bitsF_at N i (j := 64 + i) (by omega))
      cases hg1
      cases hg2
      have v1 := bit_val lo i HL.out.2
      rw [bit_low HL.out.1 (by omega)] at v1
      have v2 := bit_val hi i HH.out.2
      rw [bit_high HH.out.1] at v2
      have hst := kn_set (by rw [List.length_set, bitsF_len]) (kn_set (bitsF_len N i) hrow i (N / 2 ^ i % 2)) (64 + i) (N / 2 ^ (64 + i) % 2)
      rw [bitsF_step N i (by omega)] at hst
      have hus : ∀ (F : List Nat) (W0 : World), (q ∈ F ∨ W0.heap.size ≤ q) → Upd F W0 wr → Upd F W0 ((wr.setCell ⟨q, i, none⟩ (.int .i64 ((N / 2 ^ i % 2 : Nat) : Int))).setCell ⟨q, 64 + i, none⟩ (.int .i64 ((N / 2 ^ (64 + i) % 2 : Nat) : Int))) := fun F W0 h h' => (h'.setCell (p := ⟨q, i, none⟩) h _).setCell (p := ⟨q, 64 + i, none⟩) h _
      have HE := Lib.hid (And.intro hst (And.intro (hus _ _ (.inl (by simp)) hu) (hus _ _ (.inr (Nat.le_of_lt hWs)) hu0)))
      obtain ⟨y1, hy1⟩ : ∃ y, N / 2 ^ i % 2 = y := ⟨_, rfl⟩
      obtain ⟨y2, hy2⟩ : ∃ y, N / 2 ^ (64 + i) % 2 = y := ⟨_, rfl⟩
      rw [hy1] at v1 HE
      rw [hy2] at v2 HE
      have HV1 := Lib.hid v1
      have HV2 := Lib.hid v2
      clear hi' hrow hu hu0 hst hus hy1 hy2 v1 v2
      go_upto_region 6 with fail
      rw [HV1.out]
      go_wp2_with fail
      rw [HV2.out]
      go_roundg (64 - (i + 1))
      case measure => have := HI.out; omega
      case rel => exact ⟨i + 1, by have := HI.out; omega, by go_num, HE.out.1, HE.out.2.1, HE.out.2.2⟩
    · have hi64 : i = 64 := by omega
      subst hi64
      rw [bitsF_end] at hrow
      have HE := Lib.hid (And.intro hrow hu0)
      clear hi' hrow hu hu0
      go_wp2_with fail
      go_ret
      exact ⟨q, rfl, Nat.le_of_lt hWs, own_base HE.out.1 (Nat.le_of_lt hWs), HE.out.2⟩

theorem high_bd {l : List Nat} (hb : Bits01 l) (hW : W128 (valL l)) (i : Nat) : highN l i < 18446744073709551616 := by
  have h1 := highN_le l i
  have h2 := (wide_parts hb).1
  unfold W128 at hW
  omega

/-- Two words, as they lie. -/
def WdAt (w : World) (p h l : Nat) : Prop := w.heap[p]? = some (.cells #[.int .u64 (h : Int), .int .u64 (l : Int)] 56 (0, 0))

theorem WdAt.cells {w : World} {p h l : Nat} (H : WdAt w p h l) : w.cell? ⟨p, 0, none⟩ = some (.int .u64 (h : Int)) ∧ w.cell? ⟨p, 1, none⟩ = some (.int .u64 (l : Int)) ∧ ∀ j, w.frozen? ⟨p, j, none⟩ = false := by
  have h' : w.heap[p]? = some (.cells #[.int .u64 (h : Int), .int .u64 (l : Int)] 56 (0, 0)) := H
  refine ⟨?_, ?_, fun j => ?_⟩ <;> simp [World.cell?, World.frozen?, h']

theorem WdAt.set0 {w : World} {p h l : Nat} (H : WdAt w p h l) (x : Nat) : WdAt (w.setCell ⟨p, 0, none⟩ (.int .u64 (x : Int))) p x l := heap_set H 0 _
theorem WdAt.set1 {w : World} {p h l : Nat} (H : WdAt w p h l) (x : Nat) : WdAt (w.setCell ⟨p, 1, none⟩ (.int .u64 (x : Int))) p h x := heap_set H 1 _
theorem WdAt.upd {F : List Nat} {w w' : World} {p h l : Nat} (H : WdAt w p h l) (hu : Upd F w w') (hp : p ∉ F) : WdAt w' p h l := by
  unfold WdAt at H ⊢
  rw [hu.block p (lt_of_block H) hp]; exact H

theorem shl_val (a i b : Nat) (h : a + 2 ^ i = b) (hb : b < 18446744073709551616) : Value.int .u64 (IntKind.u64.wrap ((a : Int) + IntKind.u64.wrap (2 ^ i))) = Value.int .u64 (b : Int) := by
  have e : (2 : Int) ^ i = ((2 ^ i : Nat) : Int) := by simp
  obtain ⟨y, hy⟩ : ∃ y, 2 ^ i = y := ⟨_, rfl⟩
  rw [e, hy]
  rw [hy] at h
  congr 1
  rw [IntWalk.u64_in (y : Int) (by omega), IntWalk.u64_in _ (by omega)]
  omega

set_option maxRecDepth 100000 in
set_option maxHeartbeats 4000000 in
theorem numberC (v : Value) (l : List Nat) (w : World) (hs : See KN w v l) (hl : l.length < 1000) (hb : Bits01 l) (hW : W128 (valL l)) :
    Calls Try.prog 91 #[v] w fun e w' => e = .returned (.tuple #[wideV (valL l), .bool true]) ∧ Upd [] w w' := by
  obtain ⟨A, C, rfl⟩ := hs.form
  obtain ⟨n, hn⟩ : ∃ n, l.length = n := ⟨_, rfl⟩
  obtain ⟨V, hV⟩ : ∃ V, valL l = V := ⟨_, rfl⟩
  have HS := Lib.hid hs
  have HN := Lib.hid hn
  have HB := Lib.hid (And.intro hb (And.intro hW hV))
  rw [hn] at hl ⊢
  rw [hV]
  clear hs hn hb hW hV
  go_enter Try.func91, Try.ntmps91
  go_wp2_with fail
  go_loopg [5] n (fun m s5 wr => ∃ i, m + i = n ∧ s5 = .int .i64 (i : Int) ∧ WdAt wr (w.heap.size + 1) (highN l i) (lowN l i) ∧ WdAt wr w.heap.size 0 0 ∧ Upd [] w wr)
  case atStart =>
    refine ⟨0, rfl, rfl, ?_, ((Upd.refl [] _).alloc _).block _ (by simp) (by simp) |>.trans (heap_alloc_new w _), ((Upd.refl _ _).alloc _).alloc _⟩
    rw [highN_zero, lowN_zero]
    have := heap_alloc_new (w.alloc (.cells #[.int .u64 0, .int .u64 0] 56)) (.cells #[.int .u64 0, .int .u64 0] 56)
    rw [show (w.alloc (.cells #[.int .u64 0, .int .u64 0] 56)).heap.size = w.heap.size + 1 by simp] at this
    exact this
  case round =>
    obtain ⟨i, hi, rfl, hw, hr, hu⟩ := hrel
    have HR := Lib.hid hr
    obtain ⟨r0, r1, hrf⟩ := hr.cells
    have rf0 := hrf 0
    have rf1 := hrf 1
    have HI := Lib.hid hi
    have HU := Lib.hid hu
    have HW := Lib.hid hw
    obtain ⟨c0, c1, hf⟩ := hw.cells
    have f0 := hf 0
    have f1 := hf 1
    have b0 : (0 : Int) ≤ (i : Int) := Int.natCast_nonneg _
    clear hf hw hr hrf
    by_cases hlt : i < n
    · obtain ⟨x, hx⟩ : ∃ x, l[i]? = some x := ⟨_, List.getElem?_eq_getElem (by rw [HN.out]; exact hlt)⟩
      obtain ⟨g, o, hA, -, -, cx⟩ := kn_at (HS.out.upd0 hu) hx
      subst hA
      have hx1 := HB.out.1.at hx
      have hls := lowN_step hx
      have hhs := highN_step hx
      have hlate := fun h => bit_late hx h
      have b1 : (i : Int) < (n : Int) := by omega
      have b2 : (n : Int) < 1000 := by omega
      have hlow := lowN_lt HB.out.1 (i + 1)
      have hhigh := high_bd HB.out.1 HB.out.2.1 (i + 1)
      rcases (by omega : x = 0 ∨ x = 1) with rfl | rfl
      · have e1 : lowN l (i + 1) = lowN l i := by rw [hls]; split <;> simp
        have e2 : highN l (i + 1) = highN l i := by rw [hhs]; split; rw [highN_early (by omega)]; simp
        have HE := Lib.hid (And.intro e1 e2)
        clear hx hu hi hls hhs hlate hlow hhigh e1 e2
        go_wp2_with fail
        go_roundg (n - (i + 1))
        case measure => have := HI.out; omega
        case rel => exact ⟨i + 1, by have := HI.out; omega, by go_num, by rw [HE.out.1, HE.out.2]; exact HW.out, HR.out, HU.out⟩
      · by_cases h64 : i < 64
        · have hv := shl_val (lowN l i) i (lowN l (i + 1)) (by rw [hls, if_pos h64]; simp) hlow
          have e2 : highN l (i + 1) = highN l i := by rw [hhs, if_pos h64, highN_early (by omega)]
          have HV := Lib.hid hv
          have HE := Lib.hid e2
          clear hx hu hi hls hhs hlate hlow hhigh e2 hv
          go_wp2_with fail
          rw [HV.out]
          go_roundg (n - (i + 1))
          case measure => have := HI.out; omega
          case rel => exact ⟨i + 1, by have := HI.out; omega, by go_num, by rw [HE.out]; exact HW.out.set1 _, HR.out.upd ((Upd.refl [w.heap.size + 1] _).setCell (.inl (by simp)) _) (by simp), HU.out.setCell (p := ⟨w.heap.size + 1, 1, none⟩) (.inr (Nat.le_succ _)) _⟩
        · have hi128 : i < 128 := by
            rcases Nat.lt_or_ge i 128 with h | h
            · exact h
            · have := hlate h (by rw [HB.out.2.2]; have := HB.out.2.1; rw [HB.out.2.2] at this; unfold W128 at this; omega)
              omega
          have hv := shl_val (highN l i) (i - 64) (highN l (i + 1)) (by rw [hhs, if_neg h64]; simp) hhigh
          have e2 : lowN l (i + 1) = lowN l i := by rw [hls, if_neg h64]
          have HV := Lib.hid hv
          have HE := Lib.hid e2
          clear hx hu hi hls hhs hlate hlow hhigh e2 hv
          go_wp2_with fail
          rw [HV.out]
          go_roundg (n - (i + 1))
          case measure => have := HI.out; omega
          case rel => exact ⟨i + 1, by have := HI.out; omega, by go_num, by rw [HE.out]; exact HW.out.set0 _, HR.out.upd ((Upd.refl [w.heap.size + 1] _).setCell (.inl (by simp)) _) (by simp), HU.out.setCell (p := ⟨w.heap.size + 1, 0, none⟩) (.inr (Nat.le_succ _)) _⟩
    · have hin : i = n := by omega
      subst hin
      have hp := wide_parts HB.out.1
      rw [HB.out.2.2, HN.out] at hp
      rw [hp.1] at c0
      rw [hp.2] at c1
      obtain ⟨vh, hvh⟩ : ∃ x, V / 18446744073709551616 = x := ⟨_, rfl⟩
      obtain ⟨vl, hvl⟩ : ∃ x, V % 18446744073709551616 = x := ⟨_, rfl⟩
      rw [hvh] at c0
      rw [hvl] at c1
      have hwv : wideV V = .agg #[.int .u64 (vh : Int), .int .u64 (vl : Int)] := by unfold wideV; rw [hvh, hvl]
      have HWV := Lib.hid hwv
      clear hu hi hp hvh hvl hwv
      go_wp2_with fail
      obtain ⟨g0, g1, -⟩ := ((HR.out.set0 vh).set1 vl).cells
      have HUE := Lib.hid ((HU.out.setCell (p := ⟨w.heap.size, 0, none⟩) (.inr (Nat.le_refl _)) (.int .u64 (vh : Int))).setCell (p := ⟨w.heap.size, 1, none⟩) (.inr (Nat.le_refl _)) (.int .u64 (vl : Int)))
      generalize (wr.setCell ⟨w.heap.size, 0, none⟩ (.int .u64 (vh : Int))).setCell ⟨w.heap.size, 1, none⟩ (.int .u64 (vl : Int)) = W2 at g0 g1 HUE ⊢
      exact bodyPost_ret (v := .tuple #[wideV V, .bool true]) (by rw [HWV.out]; simp [results, Try.results91, go_sem, g0, g1]) rfl ⟨rfl, HUE.out⟩
end Go.Proofs.Ytcpompbiohaomaa
