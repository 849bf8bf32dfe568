/- CoverNone: the walk. -/
import Derived.Test.YthkiljfjjnckaaaNilC
import Derived.Test.YthkiljfjjnckaaaAw16
namespace Go.Proofs.Ythkiljfjjnckaaa
open Go.RowKit
attribute [local go_sem ↓] Go.wp_at_zero Go.wp_at_succ

theorem below_self (lo : Int) : below [lo] lo = 0 := by simp [below]
theorem span_one (lo : Int) : spanOk [lo] lo lo = true := by simp [spanOk]
theorem one_add (lo : Int) : addH [lo] [] lo lo = [(0, 0)] ∧ addK [lo] lo lo = 0 ∧ addX [lo] lo lo = 0 := by
  unfold addH addK addX spanP
  rw [if_pos (span_one lo), if_pos (span_one lo), if_pos (span_one lo), below_self]
  exact ⟨rfl, rfl, rfl⟩
theorem one_drop (lo : Int) : dropH [lo] [(0, 0)] lo lo = [] ∧ dropX [lo] [(0, 0)] lo lo = 0 := by
  unfold dropH dropX spanP
  rw [if_pos (span_one lo), if_pos (span_one lo), below_self]
  exact ⟨rfl, rfl⟩
theorem one_drop2 (lo : Int) : dropH [lo] [] lo lo = [] ∧ dropX [lo] [] lo lo = 160 := by
  unfold dropH dropX spanP
  rw [if_pos (span_one lo), if_pos (span_one lo), below_self]
  exact ⟨rfl, rfl⟩
theorem none_add (lo : Int) : addX [] lo lo = 2 := by simp [addX, spanOk]
theorem one_whole (lo : Int) (H : List (Nat × Nat)) : (wholeP [lo] H).long = 0 := by simp [wholeP]
theorem one_gaps (lo : Int) (H : List (Nat × Nat)) : gapsM [lo] H = [] := by simp [gapsM]
theorem none_gaps (H : List (Nat × Nat)) : gapsM [] H = [] := by simp [gapsM]

theorem marks_one {lo : Int} (h : (Lit.int .i64 lo).wf = true) : MarksOk [lo] := by
  refine ⟨by simp, ?_, by simp⟩
  intro x hx
  simp at hx
  subst hx
  simpa [Lit.wf, IntKind.min, IntKind.max, IntKind.signed, IntKind.bits] using h

theorem marks_none : MarksOk [] := ⟨by simp, by simp, by simp⟩

theorem see_nil (w : World) : See KL w (.slice none 0 0) [] := ⟨rfl, .inl ⟨rfl, rfl⟩⟩

set_option maxRecDepth 100000 in
set_option maxHeartbeats 8000000 in
theorem coverNone_walk (lo hi : Int) (w : World) (hwf : (Lit.int .i64 lo).wf = true) :
    Calls Try.prog 4 #[.int .i64 lo, .int .i64 hi] w fun e w' => e = .returned (.bool true) ∧ Below w.heap.size w w' := by
  have HWF := Lib.hid hwf
  clear hwf
  go_enter Try.func4, Try.ntmps4
  go_wp2_with fail
  have hc0 : ((w.alloc (.cells #[.slice none 0 0, .int .i64 0, .slice none 0 0, .slice none 0 0, .slice none 0 0, .map none, .int .i64 0] 52)).alloc (.cells #[.pointer none, .pointer (some ⟨w.heap.size, 0, none⟩)] 26)).cell? ⟨w.heap.size + 1, 0, none⟩ = some (.pointer none) := by rw [World.cell?_alloc_at _ _ _ _ (by simp)]; rfl
  have hc1 : ((w.alloc (.cells #[.slice none 0 0, .int .i64 0, .slice none 0 0, .slice none 0 0, .slice none 0 0, .map none, .int .i64 0] 52)).alloc (.cells #[.pointer none, .pointer (some ⟨w.heap.size, 0, none⟩)] 26)).cell? ⟨w.heap.size + 1, 1, none⟩ = some (.pointer (some ⟨w.heap.size, 0, none⟩)) := by rw [World.cell?_alloc_at _ _ _ _ (by simp)]; rfl
  have hc5 : ((w.alloc (.cells #[.slice none 0 0, .int .i64 0, .slice none 0 0, .slice none 0 0, .slice none 0 0, .map none, .int .i64 0] 52)).alloc (.cells #[.pointer none, .pointer (some ⟨w.heap.size, 0, none⟩)] 26)).cell? ⟨w.heap.size, 5, none⟩ = some (.map none) := by
    rw [World.cell?_alloc_past _ _ _ (by simp), World.cell?_alloc_at _ _ _ _ rfl]; rfl
  have hsz : ((w.alloc (.cells #[.slice none 0 0, .int .i64 0, .slice none 0 0, .slice none 0 0, .slice none 0 0, .map none, .int .i64 0] 52)).alloc (.cells #[.pointer none, .pointer (some ⟨w.heap.size, 0, none⟩)] 26)).heap.size = w.heap.size + 2 := by simp
  have hu0 : Upd [] w ((w.alloc (.cells #[.slice none 0 0, .int .i64 0, .slice none 0 0, .slice none 0 0, .slice none 0 0, .map none, .int .i64 0] 52)).alloc (.cells #[.pointer none, .pointer (some ⟨w.heap.size, 0, none⟩)] 26)) := ((Upd.refl _ _).alloc _).alloc _
  generalize ((w.alloc (.cells #[.slice none 0 0, .int .i64 0, .slice none 0 0, .slice none 0 0, .slice none 0 0, .map none, .int .i64 0] 52)).alloc (.cells #[.pointer none, .pointer (some ⟨w.heap.size, 0, none⟩)] 26)) = W0 at hc0 hc1 hc5 hsz hu0 ⊢
  obtain ⟨q, hq⟩ : ∃ q, w.heap.size = q := ⟨_, rfl⟩
  rw [hq] at hc0 hc1 hc5 hsz ⊢
  have HU0 := Lib.hid hu0
  have H0 := Lib.hid (And.intro hc0 (And.intro hc1 (And.intro hc5 hsz)))
  clear hq hu0 hc0 hc1 hc5 hsz
  go_loopg [29] 2 (fun m s wr => ∃ k, m + k = 2 ∧ s = .int .i64 (k : Int) ∧ Upd [] W0 wr)
  case atStart => exact ⟨0, rfl, rfl, Upd.refl _ _⟩
  case round =>
    obtain ⟨k, hk, rfl, hu⟩ := hrel
    have HK := Lib.hid hk
    have HU := Lib.hid hu
    have hk2 : k = 0 ∨ k = 1 ∨ k = 2 := by omega
    clear hk hu
    rcases hk2 with rfl | rfl | rfl
    · have l0 : wr.cell? ⟨q + 1, 0, none⟩ = some (.pointer none) := (HU.out.cell (p := ⟨q + 1, 0, none⟩) (by have := H0.out.2.2.2; show q + 1 < _; omega) (by simp)).trans H0.out.1
      have HNP := Lib.hid (show NilP wr (.pointer none) from  .inl rfl)
      go_wp2_with fail
      (with_reducible refine (addN _ lo hi _ HNP.out).mono ?_)
      rintro e wa ⟨rfl, hua⟩
      have HA := Lib.hid (HNP.out.upd hua)
      have HUA := Lib.hid (HU.out.trans hua)
      clear hua
      go_wp2_with fail
      (with_reducible refine (dropN _ lo hi _ HA.out).mono ?_)
      rintro e wb ⟨rfl, hub⟩
      have HB := Lib.hid (HA.out.upd hub)
      have HUB := Lib.hid (HUA.out.trans hub)
      clear hub
      go_wp2_with fail
      (with_reducible refine (longN _ _ HB.out).mono ?_)
      rintro e wc ⟨rfl, huc⟩
      have HC := Lib.hid (HB.out.upd huc)
      have HUC := Lib.hid (HUB.out.trans huc)
      clear huc
      go_wp2_with fail
      (with_reducible refine (runsN _ _ HC.out).mono ?_)
      rintro e wd ⟨rfl, hud⟩
      have HD := Lib.hid (HC.out.upd hud)
      have HUD := Lib.hid (HUC.out.trans hud)
      clear hud
      go_wp2_with fail
      (with_reducible refine (gapsN _ _ HD.out).mono ?_)
      rintro e we ⟨rfl, hue⟩
      have HUE := Lib.hid (HUD.out.trans hue)
      clear hue
      go_wp2_with fail
      go_roundg (gk - 1)
      case measure => have := HK.out; omega
      case rel => exact ⟨1, by have := HK.out; omega, by first | rfl | go_num, HUE.out⟩
    · have l1 : wr.cell? ⟨q + 1, 1, none⟩ = some (.pointer (some ⟨q, 0, none⟩)) := (HU.out.cell (p := ⟨q + 1, 1, none⟩) (by have := H0.out.2.2.2; show q + 1 < _; omega) (by simp)).trans H0.out.2.1
      have l5 : wr.cell? ⟨q, 5, none⟩ = some (.map none) := (HU.out.cell (p := ⟨q, 5, none⟩) (by have := H0.out.2.2.2; show q < _; omega) (by simp)).trans H0.out.2.2.1
      have HNQ := Lib.hid (show NilP wr (.pointer (some ⟨q, 0, none⟩)) from  .inr ⟨q, rfl, l5⟩)
      go_wp2_with fail
      (with_reducible refine (addN _ lo hi _ HNQ.out).mono ?_)
      rintro e wa ⟨rfl, hua⟩
      have HA := Lib.hid (HNQ.out.upd hua)
      have HUA := Lib.hid (HU.out.trans hua)
      clear hua
      go_wp2_with fail
      (with_reducible refine (dropN _ lo hi _ HA.out).mono ?_)
      rintro e wb ⟨rfl, hub⟩
      have HB := Lib.hid (HA.out.upd hub)
      have HUB := Lib.hid (HUA.out.trans hub)
      clear hub
      go_wp2_with fail
      (with_reducible refine (longN _ _ HB.out).mono ?_)
      rintro e wc ⟨rfl, huc⟩
      have HC := Lib.hid (HB.out.upd huc)
      have HUC := Lib.hid (HUB.out.trans huc)
      clear huc
      go_wp2_with fail
      (with_reducible refine (runsN _ _ HC.out).mono ?_)
      rintro e wd ⟨rfl, hud⟩
      have HD := Lib.hid (HC.out.upd hud)
      have HUD := Lib.hid (HUC.out.trans hud)
      clear hud
      go_wp2_with fail
      (with_reducible refine (gapsN _ _ HD.out).mono ?_)
      rintro e we ⟨rfl, hue⟩
      have HUE := Lib.hid (HUD.out.trans hue)
      clear hue
      go_wp2_with fail
      go_roundg (gk - 1)
      case measure => have := HK.out; omega
      case rel => exact ⟨2, by have := HK.out; omega, by first | rfl | go_num, HUE.out⟩
    · have hnc := newC _ [lo] _ (ints_new wr [lo] 1 rfl (by decide)) (marks_one HWF.out)
      simp only [List.map_cons, List.map_nil] at hnc
      have HNC := Lib.hid hnc
      have HUL := Lib.hid ((HU0.out.trans HU.out).alloc (.cells #[.int .i64 lo] 2))
      clear hnc
      go_wp2_with fail
      (with_reducible refine HNC.out.mono ?_)
      rintro e w1 ⟨b, F, rfl, hc, hu1, hF⟩
      have hnd := newC _ [] _ (see_nil w1) marks_none
      have HND := Lib.hid hnd
      have HC1 := Lib.hid (And.intro hc (And.intro (hc.lt) hF))
      have HU1 := Lib.hid (HUL.out.trans hu1)
      clear hnd hc hu1 hF
      go_wp2_with fail
      (with_reducible refine HND.out.mono ?_)
      rintro e w2 ⟨d, G, rfl, hd, hu2, hG⟩
      have hc2 := HC1.out.1.upd0 hu2
      have hFG : ∀ y ∈ G, y ∉ F := fun y hy hc => by have := hG y hy; have := HC1.out.2.1 y hc; omega
      have hFz : ∀ y ∈ F, w.heap.size ≤ y := fun y hy => Nat.le_trans HUL.out.size (HC1.out.2.2 y hy)
      have hGz : ∀ y ∈ G, w.heap.size ≤ y := fun y hy => Nat.le_trans HU1.out.size (hG y hy)
      have HD2 := Lib.hid hd
      have HU2 := Lib.hid (HU1.out.trans hu2)
      have HFG := Lib.hid (And.intro hFG (And.intro hFz hGz))
      have ha := addC b F [lo] [] 0 w2 lo lo hc2 (marks_one HWF.out) (by decide) (by decide)
      rw [(one_add lo).1, (one_add lo).2.1, (one_add lo).2.2] at ha
      have HA := Lib.hid ha
      clear ha hc2 hFG hFz hGz hd hu2 hG
      go_wp2_with fail
      (with_reducible refine HA.out.mono ?_)
      rintro e w3 ⟨rfl, ⟨N3, hN3, hc3⟩, hu3⟩
      have ha := dropC b F [lo] [(0, 0)] N3 w3 lo lo hc3 (marks_one HWF.out) (by omega) (by decide)
      rw [(one_drop lo).1, (one_drop lo).2] at ha
      obtain ⟨K3, hK3⟩ : ∃ K, dropK [lo] [(0, 0)] lo lo = K := ⟨_, rfl⟩
      rw [hK3] at ha
      have HA3 := Lib.hid ha
      have HN3 := Lib.hid hN3
      have HU3 := Lib.hid hu3
      clear ha hK3 hN3 hu3 hc3
      go_wp2_with fail
      (with_reducible refine HA3.out.mono ?_)
      rintro e w4 ⟨rfl, ⟨N4, hN4, hc4⟩, hu4⟩
      have ha := dropC b F [lo] [] N4 w4 lo lo hc4 (marks_one HWF.out) (by have := HN3.out; omega) (by decide)
      rw [(one_drop2 lo).1, (one_drop2 lo).2] at ha
      obtain ⟨K4, hK4⟩ : ∃ K, dropK [lo] [] lo lo = K := ⟨_, rfl⟩
      rw [hK4] at ha
      have HA4 := Lib.hid ha
      have HU4 := Lib.hid (HU3.out.trans hu4)
      clear ha hK4 hN4 hu4 hc4
      go_wp2_with fail
      (with_reducible refine HA4.out.mono ?_)
      rintro e w5 ⟨rfl, ⟨N5, hN5, hc5⟩, hu5⟩
      have hu5' := HU4.out.trans hu5
      have ha := addC d G [] [] 0 w5 lo lo (HD2.out.upd hu5' HFG.out.1) marks_none (by decide) (by decide)
      rw [none_add] at ha
      obtain ⟨K5, hK5⟩ : ∃ K, addK [] lo lo = K := ⟨_, rfl⟩
      obtain ⟨H5, hH5⟩ : ∃ H, addH [] [] lo lo = H := ⟨_, rfl⟩
      rw [hK5, hH5] at ha
      have HA5 := Lib.hid ha
      have HC5 := Lib.hid hc5
      have HU5 := Lib.hid ((HU2.out.trans' hu5' (fun x hx => .inr (HFG.out.2.1 x hx))))
      clear ha hK5 hN5 hu5 hc5 hu5' hH5
      go_wp2_with fail
      (with_reducible refine HA5.out.mono ?_)
      rintro e w6 ⟨rfl, ⟨N6, hN6, hd6⟩, hu6⟩
      have hc6 := HC5.out.upd hu6 (fun y hy hc => HFG.out.1 y hc hy)
      have hlg := longC b F [lo] [] N5 w6 hc6
      rw [one_whole] at hlg
      have HC6 := Lib.hid hc6
      have HD6 := Lib.hid hd6
      have HLG := Lib.hid hlg
      have HU6 := Lib.hid (HU5.out.trans' hu6 (fun x hx => .inr (HFG.out.2.2 x hx)))
      clear hlg hc6 hN6 hu6 hd6
      go_wp2_with fail
      (with_reducible refine HLG.out.mono ?_)
      rintro e w7 ⟨rfl, hu7⟩
      have hgc := gapsC b F [lo] [] N5 w7 (HC6.out.upd0 hu7) (by simp)
      rw [one_gaps] at hgc
      have HGC := Lib.hid hgc
      have HU7 := Lib.hid hu7
      clear hgc hu7
      go_wp2_with fail
      (with_reducible refine HGC.out.mono ?_)
      rintro e w8 ⟨A8, C8, rfl, -, hu8⟩
      have hgc := gapsC d G [] H5 N6 w8 (HD6.out.upd0 (HU7.out.trans hu8)) (by simp)
      rw [none_gaps] at hgc
      have HGD := Lib.hid hgc
      have HU8 := Lib.hid (HU7.out.trans hu8)
      clear hgc hu8
      go_wp2_with fail
      (with_reducible refine HGD.out.mono ?_)
      rintro e w9 ⟨A9, C9, rfl, -, hu9⟩
      have HU9 := Lib.hid (HU6.out.trans (HU8.out.trans hu9))
      clear hu9
      go_wp2_with fail
      (with_reducible refine (awake16 _).mono ?_)
      rintro e w10 ⟨rfl, hu10⟩
      have HU10 := Lib.hid (HU9.out.trans hu10)
      clear hu10
      go_wp2_with fail
      go_ret
      exact ⟨rfl, HU10.out.below⟩
end Go.Proofs.Ythkiljfjjnckaaa
