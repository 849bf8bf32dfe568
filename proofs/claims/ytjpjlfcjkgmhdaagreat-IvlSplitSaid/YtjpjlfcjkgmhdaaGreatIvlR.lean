/- ivl.right: are these spans, of unlike names? -/
import Derived.Test.YtjpjlfcjkgmhdaaGreatSpanK
import Derived.Laws.OwnMore
namespace Go.Proofs.YtjpjlfcjkgmhdaaGreat
open Go.RowKit

set_option maxRecDepth 100000 in
set_option maxHeartbeats 4000000 in
theorem ivlRight (v : Value) (l : List Sp) (w : World) (h : See KSp w v l) (hid : ∀ s ∈ l, s.id < 4294967296) (hl : l.length < 1000000) :
    Calls Tryz.prog 12 #[v] w fun e w' => e = .returned (.bool (rightS l)) ∧ Upd [] w w' := by
  obtain ⟨A, C, rfl⟩ := h.form
  obtain ⟨N, hN⟩ : ∃ N, l.length = N := ⟨_, rfl⟩
  have hm0 := MapU.made MKI w
  have hu0 : Upd [] w (w.alloc (.map #[] 0)) := (Upd.refl _ _).alloc _
  have hsz : w.heap.size < (w.alloc (.map #[] 0)).heap.size := by simp
  have H := Lib.hid h
  have HN := Lib.hid hN
  have HI := Lib.hid hid
  have HM0 := Lib.hid hm0
  have HU0 := Lib.hid hu0
  rw [hN] at hl ⊢
  clear h hN hid hm0 hu0
  have hmm := @run_makeMap Tryz.prog
  go_enter Tryz.func12, Tryz.ntmps12
  go_upto_region 2 with fail
  clear hmm
  generalize w.alloc (.map #[] 0) = W0 at HM0 HU0 hsz ⊢
  go_wp2_with fail
  go_loopg [9] N (fun m s9 wr => ∃ (k n : Nat) (f : Nat → Option Nat), m + k = N ∧ s9 = .int .i64 (k : Int) ∧ MapU MKI wr w.heap.size f n ∧ CntR l k f n ∧ (∀ s ∈ l.take k, s.lo ≤ s.hi) ∧ Upd [w.heap.size] W0 wr)
  case atStart => exact ⟨0, 0, _, rfl, rfl, HM0.out, CntR.start l, by simp, Upd.refl _ _⟩
  case round =>
    obtain ⟨k, n, f, hk, rfl, hm, hc, hri, hup⟩ := hrel
    have k0 : (0 : Int) ≤ (k : Int) := Int.natCast_nonneg _
    have hkN : k ≤ N := by omega
    have HK := Lib.hid hk
    have HM := Lib.hid hm
    have HC := Lib.hid hc
    have HR := Lib.hid hri
    have HU := Lib.hid hup
    clear hk hm hc hri hup
    by_cases hlt : k < N
    · obtain ⟨s, hs⟩ : ∃ s, l[k]? = some s := ⟨_, List.getElem?_eq_getElem (by rw [HN.out]; exact hlt)⟩
      have hw1 : Upd [] w wr := HU0.out.trans' HU.out (fun x hx => .inr (by simp at hx; omega))
      have hse : See KSp wr (.slice A l.length C) l := H.out.upd0 hw1
      have hidb := HI.out s (List.mem_of_getElem? hs)
      have hcs := HC.out.step hs k
      obtain ⟨lo, hi, id⟩ := s
      obtain ⟨g, o, rfl, -, -, ey⟩ := hse.at hs
      have y0 : wr.cell? ⟨g, o + k * 3, none⟩ = some (.int .i64 lo) := ey 0 _ rfl
      have y1 : wr.cell? ⟨g, o + k * 3 + 1, none⟩ = some (.int .i64 hi) := ey 1 _ rfl
      have y2 : wr.cell? ⟨g, o + k * 3 + 2, none⟩ = some (.int .u32 (id : Int)) := ey 2 _ rfl
      have b1 : (k : Int) < (N : Int) := by omega
      have hnb : n ≤ k := HC.out.le
      have hwz := HU.out.size
      have HS := Lib.hid (And.intro hs (And.intro hcs hw1))
      clear hs hcs hw1 hse ey
      dsimp only at hidb
      obtain ⟨wl, hwl⟩ : ∃ wl : World, wl = wr := ⟨_, rfl⟩
      subst hwl
      go_upto_region 5 with fail
      have hu2 : Upd [] wl (wl.alloc (.cells #[.int .i64 lo, .int .i64 hi, .int .u32 (id : Int)] 39)) := (Upd.refl _ _).alloc _
      have hz2 : wl.heap.size < (wl.alloc (.cells #[.int .i64 lo, .int .i64 hi, .int .u32 (id : Int)] 39)).heap.size := by simp
      have d0 : (wl.alloc (.cells #[.int .i64 lo, .int .i64 hi, .int .u32 (id : Int)] 39)).cell? ⟨wl.heap.size, 0, none⟩ = some (.int .i64 lo) := by rw [World.cell?_alloc_at _ _ _ _ rfl]; rfl
      have d1 : (wl.alloc (.cells #[.int .i64 lo, .int .i64 hi, .int .u32 (id : Int)] 39)).cell? ⟨wl.heap.size, 1, none⟩ = some (.int .i64 hi) := by rw [World.cell?_alloc_at _ _ _ _ rfl]; rfl
      have d2 : (wl.alloc (.cells #[.int .i64 lo, .int .i64 hi, .int .u32 (id : Int)] 39)).cell? ⟨wl.heap.size, 2, none⟩ = some (.int .u32 (id : Int)) := by rw [World.cell?_alloc_at _ _ _ _ rfl]; rfl
      have hm2 := HM.out.upd hu2 (by simp)
      generalize (wl.alloc (.cells #[.int .i64 lo, .int .i64 hi, .int .u32 (id : Int)] 39)) = W2 at hu2 hz2 d0 d1 d2 hm2 ⊢
      obtain ⟨w5, hput, hm5, hu5, hz5⟩ := hm2.put hidb k (by unfold maxLen; omega)
      have hne : (wl.heap.size : Nat) ∉ [w.heap.size] := by simp; omega
      have e0 := (hu5.cell (p := ⟨wl.heap.size, 0, none⟩) hz2 hne).trans d0
      have e1 := (hu5.cell (p := ⟨wl.heap.size, 1, none⟩) hz2 hne).trans d1
      have e2 := (hu5.cell (p := ⟨wl.heap.size, 2, none⟩) hz2 hne).trans d2
      have hput2 : (Instr.mapUpdate 36 (.map (some w.heap.size)) (.int .u32 (id : Int)) (.int .i64 (k : Int))).run Tryz.prog W2 = .ok () w5 := hput
      have HRS := Lib.hid (rightSpanC ⟨lo, hi, id⟩ w5)
      unfold spV at HRS
      dsimp only at HRS
      have H5 := Lib.hid (And.intro hm5 ((HU.out.trans (hu2.mono (G := [w.heap.size]) (by simp))).trans hu5))
      clear hput hm5 hu5 hu2 hm2 y0 y1 y2 d0 d1
      have hwz5 : W0.heap.size ≤ w5.heap.size := H5.out.2.size
      by_cases hb : lo ≤ hi
      · have hbd : decide (lo ≤ hi) = true := decide_eq_true hb
        rw [hbd] at HRS
        go_wp2_with fail
        (with_reducible refine HRS.out.mono ?_)
        rintro e w6 ⟨rfl, u6⟩
        have HU6 := Lib.hid u6
        clear u6
        go_wp2_with fail
        go_roundg (N - (k + 1))
        case measure => have := HK.out; omega
        case rel =>
          refine ⟨k + 1, _, _, by have := HK.out; omega, by go_num, H5.out.1.upd HU6.out (by simp), HS.out.2.1, fun s hs => ?_, H5.out.2.trans (HU6.out.mono (by simp))⟩
          obtain ⟨g1, g2⟩ := List.getElem?_eq_some_iff.1 HS.out.1
          rw [List.take_succ_eq_append_getElem g1, g2, List.mem_append] at hs
          rcases hs with hs | hs
          · exact HR.out s hs
          · simp at hs; subst hs; exact hb
      · have hbd : decide (lo ≤ hi) = false := decide_eq_false hb
        rw [hbd] at HRS
        go_wp2_with fail
        (with_reducible refine HRS.out.mono ?_)
        rintro e w6 ⟨rfl, u6⟩
        have HU6 := Lib.hid u6
        clear u6
        go_wp2_with fail
        go_ret
        refine ⟨?_, (HU0.out.trans' H5.out.2 (fun x hx => .inr (by simp at hx; omega))).trans HU6.out⟩
        have : rightS l = false := by
          rw [Bool.eq_false_iff]
          intro hc
          have h7 : lo ≤ hi := (rightS_iff.1 hc).1 _ (List.mem_of_getElem? HS.out.1)
          exact absurd h7 (by omega)
        rw [this]
        rfl
    · have hkN' : k = N := by omega
      have hL' : l.take k = l := by rw [hkN', ← HN.out]; exact List.take_length
      have hri := HR.out
      have hcn := HC.out.eq
      rw [hL'] at hri hcn
      have hfin : ((n : Int) == (N : Int)) = rightS l := by
        rw [Bool.eq_iff_iff, rightS_iff]
        simp
        constructor
        · intro hc; exact ⟨hri, hcn.1 (by omega)⟩
        · rintro ⟨-, hc⟩; have := hcn.2 hc; omega
      have hlen := HM.out.len 3
      have hlen2 : (Builtin.len_ #[36] 3 #[.map (some w.heap.size)]).run Tryz.prog wr = .ok (.int .i64 (n : Int)) wr := hlen
      have HF := Lib.hid hfin
      clear hL' hri hcn hfin hlen
      go_wp2_with fail
      go_ret
      exact ⟨by rw [← HF.out]; rfl, HU0.out.trans' HU.out (fun x hx => .inr (by simp at hx; omega))⟩
end Go.Proofs.YtjpjlfcjkgmhdaaGreat
