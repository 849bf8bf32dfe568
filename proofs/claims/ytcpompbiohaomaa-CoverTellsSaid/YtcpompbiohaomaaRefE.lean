/- The document's nodes over leaves: within, apart, Entered. -/
import Derived.Test.YtcpompbiohaomaaRefN
namespace Go.Proofs.Ytcpompbiohaomaa
open Go.RowKit

def withinB (x : Nd) (a b : Nat) : Bool := decide ((a : Int) ≤ x.fr) && decide (x.to ≤ (b : Int))
def apartB (x : Nd) (a b : Nat) : Bool := decide (x.to ≤ (a : Int)) || decide ((b : Int) ≤ x.fr)

set_option maxRecDepth 100000 in
set_option maxHeartbeats 2000000 in
theorem withinC (x : Nd) (a b : Nat) (w : World) : Calls Try.prog 87 #[ndV x, .int .i64 (a : Int), .int .i64 (b : Int)] w fun e w' => e = .returned (.bool (withinB x a b)) ∧ Upd [] w w' := by
  obtain ⟨xk, xl, xr, xf, xt, xa, xi⟩ := x
  unfold ndV
  dsimp only
  by_cases h1 : (a : Int) ≤ xf
  · have d1 : decide ((a : Int) ≤ xf) = true := decide_eq_true h1
    have hv : withinB ⟨xk, xl, xr, xf, xt, xa, xi⟩ a b = decide (xt ≤ (b : Int)) := by unfold withinB; dsimp only; rw [d1, Bool.true_and]
    rw [hv]
    clear hv h1
    go_enter Try.func87, Try.ntmps87
    go_wp2_with fail
    go_ret
    exact ⟨rfl, (Upd.refl _ _).alloc _⟩
  · have d1 : decide ((a : Int) ≤ xf) = false := decide_eq_false h1
    have hv : withinB ⟨xk, xl, xr, xf, xt, xa, xi⟩ a b = false := by unfold withinB; dsimp only; rw [d1, Bool.false_and]
    rw [hv]
    clear hv h1
    go_enter Try.func87, Try.ntmps87
    go_wp2_with fail
    go_ret
    exact ⟨rfl, (Upd.refl _ _).alloc _⟩

set_option maxRecDepth 100000 in
set_option maxHeartbeats 2000000 in
theorem apartC (x : Nd) (a b : Nat) (w : World) : Calls Try.prog 106 #[ndV x, .int .i64 (a : Int), .int .i64 (b : Int)] w fun e w' => e = .returned (.bool (apartB x a b)) ∧ Upd [] w w' := by
  obtain ⟨xk, xl, xr, xf, xt, xa, xi⟩ := x
  unfold ndV
  dsimp only
  by_cases h1 : xt ≤ (a : Int)
  · have d1 : decide (xt ≤ (a : Int)) = true := decide_eq_true h1
    have hv : apartB ⟨xk, xl, xr, xf, xt, xa, xi⟩ a b = true := by unfold apartB; dsimp only; rw [d1, Bool.true_or]
    rw [hv]
    clear hv h1
    go_enter Try.func106, Try.ntmps106
    go_wp2_with fail
    go_ret
    exact ⟨rfl, (Upd.refl _ _).alloc _⟩
  · have d1 : decide (xt ≤ (a : Int)) = false := decide_eq_false h1
    have hv : apartB ⟨xk, xl, xr, xf, xt, xa, xi⟩ a b = decide ((b : Int) ≤ xf) := by unfold apartB; dsimp only; rw [d1, Bool.false_or]
    rw [hv]
    clear hv h1
    go_enter Try.func106, Try.ntmps106
    go_wp2_with fail
    go_ret
    exact ⟨rfl, (Upd.refl _ _).alloc _⟩

/-- A node's cells. -/
def NdC (w : World) (g p : Nat) (xk xl xr xf xt xa xi : Int) : Prop :=
  w.cell? ⟨g, p, none⟩ = some (.int .u8 xk) ∧ w.cell? ⟨g, p + 1, none⟩ = some (.int .i64 xl) ∧ w.cell? ⟨g, p + 2, none⟩ = some (.int .i64 xr) ∧ w.cell? ⟨g, p + 3, none⟩ = some (.int .i64 xf) ∧
    w.cell? ⟨g, p + 4, none⟩ = some (.int .i64 xt) ∧ w.cell? ⟨g, p + 5, none⟩ = some (.int .i64 xa) ∧ w.cell? ⟨g, p + 6, none⟩ = some (.int .i64 xi)

theorem NdC.upd0 {w w' : World} {g p : Nat} {xk xl xr xf xt xa xi : Int} (h : NdC w g p xk xl xr xf xt xa xi) (hu : Upd [] w w') : NdC w' g p xk xl xr xf xt xa xi := by
  have e : ∀ {a : Addr} {v : Value}, w.cell? a = some v → w'.cell? a = some v := fun {a v} ha => (hu.cell (World.block_lt_of_cell? w _ ha) (by simp)).trans ha
  exact ⟨e h.1, e h.2.1, e h.2.2.1, e h.2.2.2.1, e h.2.2.2.2.1, e h.2.2.2.2.2.1, e h.2.2.2.2.2.2⟩

set_option maxRecDepth 100000 in
set_option maxHeartbeats 4000000 in
theorem enteredC (v : Value) (L : List Nd) (a b : Nat) (hL : L.length < 1000000) : ∀ (d f t o : Nat) (w : World), t - f ≤ d → f < t → NodesAt L f t o → See KD w v L →
    Calls Try.prog 88 #[v, .int .i64 ((o + 2 * (t - f) - 2 : Nat) : Int), .int .i64 (a : Int), .int .i64 (b : Int)] w fun e w' => e = .returned (.int .i64 (ent a b f t : Nat)) ∧ Upd [] w w' := by
  intro d
  induction d with
  | zero => intro f t o w hd hf; omega
  | succ d ih =>
    intro f t o w hd hf hN hs
    have hroot := hN.root hf
    obtain ⟨A, C, rfl⟩ := hs.form
    obtain ⟨k, hk⟩ : ∃ k, o + 2 * (t - f) - 2 = k := ⟨_, rfl⟩
    rw [hk] at hroot ⊢
    obtain ⟨g, q, rfl, -, -, c0, c1, c2, c3, c4, c5, c6⟩ := KD.at hs hroot
    have hkl := (List.getElem?_eq_some_iff.1 hroot).1
    have hfr := ndG_fr f t k
    have hto := ndG_to f t k
    obtain ⟨n, hn⟩ : ∃ n, L.length = n := ⟨_, rfl⟩
    have k0 : (0 : Int) ≤ (k : Int) := Int.natCast_nonneg _
    have k1 : (k : Int) < (n : Int) := by omega
    have kn : k < n := by omega
    have hgt : f + 1 < t → ndG f t k = ⟨2, ((o + 2 * (mid f t - f) - 2 : Nat) : Int), ((o + 2 * (mid f t - f) - 1 + 2 * (t - mid f t) - 2 : Nat) : Int), f, t, 0, 0⟩ := fun hft => by
      have hm := mid_in hft
      unfold ndG
      rw [if_pos hft, ← hk]
      have e : o + 2 * (t - f) - 2 - 2 * (t - mid f t) = o + 2 * (mid f t - f) - 2 := by omega
      have e' : o + 2 * (t - f) - 2 - 1 = o + 2 * (mid f t - f) - 1 + 2 * (t - mid f t) - 2 := by omega
      rw [e, e']
    obtain ⟨x, hx⟩ : ∃ x, ndG f t k = x := ⟨_, rfl⟩
    rw [hx] at hroot hfr hto hgt c0 c1 c2 c3 c4 c5 c6
    have hwc := fun w => withinC x a b w
    have hac := fun w => apartC x a b w
    have hwb : withinB x a b = (decide (a ≤ f) && decide (t ≤ b)) := by unfold withinB; rw [hfr, hto]; simp
    have hab : apartB x a b = (decide (t ≤ a) || decide (b ≤ f)) := by unfold apartB; rw [hfr, hto]; simp
    unfold ndV at hwc hac
    obtain ⟨xk, xl, xr, xf, xt, xa, xi⟩ := x
    dsimp only at hwc hac c0 c1 c2 c3 c4 c5 c6
    have HX := Lib.hid (And.intro hx (And.intro hgt hf))
    have HS := Lib.hid (And.intro hs (And.intro hN hd))
    have HK := Lib.hid hk
    rw [hn] at hs ⊢
    have HSN := Lib.hid hs
    have hn1 : (n : Int) < 1000000 := by omega
    clear hroot hkl hfr hto hgt hx hf hN hd hk
    cases hwv : withinB ⟨xk, xl, xr, xf, xt, xa, xi⟩ a b with
    | true =>
      have he : ent a b f t = 1 := ent_in (by rw [hwv] at hwb; simpa using hwb.symm)
      rw [he]
      rw [hwv] at hwc
      have HC := Lib.hid hwc
      clear hwb hab he hwv hwc hac hs hn ih
      go_enter Try.func88, Try.ntmps88
      go_wp2_with fail
      (with_reducible refine (HC.out _).mono ?_)
      rintro e w1 ⟨rfl, hu⟩
      have HU := Lib.hid hu
      clear hu
      go_wp2_with fail
      go_ret
      exact ⟨rfl, HU.out⟩
    | false =>
      rw [hwv] at hwc
      cases hav : apartB ⟨xk, xl, xr, xf, xt, xa, xi⟩ a b with
      | true =>
        have he : ent a b f t = 1 := ent_out (by rw [hav] at hab; simpa using hab.symm)
        rw [he]
        rw [hav] at hac
        have HC := Lib.hid hwc
        have HA := Lib.hid hac
        clear hwb hab he hwv hav hwc hac hs hn ih
        have d0 : ∀ w1, Upd [] w w1 → w1.cell? ⟨g, q + k * 7, none⟩ = some (.int .u8 xk) := fun w1 h => (h.cell (World.block_lt_of_cell? _ _ c0) (by simp)).trans c0
        have d1 : ∀ w1, Upd [] w w1 → w1.cell? ⟨g, q + k * 7 + 1, none⟩ = some (.int .i64 xl) := fun w1 h => (h.cell (World.block_lt_of_cell? _ _ c1) (by simp)).trans c1
        have d2 : ∀ w1, Upd [] w w1 → w1.cell? ⟨g, q + k * 7 + 2, none⟩ = some (.int .i64 xr) := fun w1 h => (h.cell (World.block_lt_of_cell? _ _ c2) (by simp)).trans c2
        have d3 : ∀ w1, Upd [] w w1 → w1.cell? ⟨g, q + k * 7 + 3, none⟩ = some (.int .i64 xf) := fun w1 h => (h.cell (World.block_lt_of_cell? _ _ c3) (by simp)).trans c3
        have d4 : ∀ w1, Upd [] w w1 → w1.cell? ⟨g, q + k * 7 + 4, none⟩ = some (.int .i64 xt) := fun w1 h => (h.cell (World.block_lt_of_cell? _ _ c4) (by simp)).trans c4
        have d5 : ∀ w1, Upd [] w w1 → w1.cell? ⟨g, q + k * 7 + 5, none⟩ = some (.int .i64 xa) := fun w1 h => (h.cell (World.block_lt_of_cell? _ _ c5) (by simp)).trans c5
        have d6 : ∀ w1, Upd [] w w1 → w1.cell? ⟨g, q + k * 7 + 6, none⟩ = some (.int .i64 xi) := fun w1 h => (h.cell (World.block_lt_of_cell? _ _ c6) (by simp)).trans c6
        have HD := Lib.hid (And.intro d0 (And.intro d1 (And.intro d2 (And.intro d3 (And.intro d4 (And.intro d5 d6))))))
        clear d0 d1 d2 d3 d4 d5 d6
        go_enter Try.func88, Try.ntmps88
        go_wp2_with fail
        (with_reducible refine (HC.out _).mono ?_)
        rintro e w1 ⟨rfl, hu⟩
        obtain ⟨d0, d1, d2, d3, d4, d5, d6⟩ := HD.out
        replace d0 := d0 _ hu
        replace d1 := d1 _ hu
        replace d2 := d2 _ hu
        replace d3 := d3 _ hu
        replace d4 := d4 _ hu
        replace d5 := d5 _ hu
        replace d6 := d6 _ hu
        have HU := Lib.hid hu
        clear hu
        go_wp2_with fail
        (with_reducible refine (HA.out _).mono ?_)
        rintro e w2 ⟨rfl, hu⟩
        have HU2 := Lib.hid (HU.out.trans hu)
        clear hu
        go_wp2_with fail
        go_ret
        exact ⟨rfl, HU2.out⟩
      | false =>
        have hft : f + 1 < t := by
          rw [hwv] at hwb
          rw [hav] at hab
          have h1 := hwb.symm
          have h2 := hab.symm
          have h3 := HX.out.2.2
          simp at h1 h2
          omega
        have hx := HX.out.2.1 hft
        have hno : ¬ (t ≤ a ∨ b ≤ f) := by rw [hav] at hab; have h2 := hab.symm; simp at h2; omega
        have hni : ¬ (a ≤ f ∧ t ≤ b) := by rw [hwv] at hwb; have h1 := hwb.symm; simp at h1; omega
        have hnl : 2 * (t - f) - 1 ≤ L.length := by
          obtain ⟨Na, Nb, e, -⟩ := HS.out.2.1
          rw [e, List.length_append, List.length_append, nodesL_length _ (by omega)]; omega
        have he := ent_node hno hni hft
        obtain ⟨m, hm⟩ : ∃ m, mid f t = m := ⟨_, rfl⟩
        have hmi := mid_in hft
        have ih1 := fun w => ih f (mid f t) o w (by have := HS.out.2.2; omega) hmi.1 (HS.out.2.1.left hft)
        have ih2 := fun w => ih (mid f t) t (o + 2 * (mid f t - f) - 1) w (by have := HS.out.2.2; omega) hmi.2 (HS.out.2.1.right hft)
        have g1 := ent_any (a := a) (b := b) (mid f t - f) f (mid f t) (Nat.le_refl _)
        have g2 := ent_any (a := a) (b := b) (t - mid f t) (mid f t) t (Nat.le_refl _)
        have g3 : lg (mid f t - f) ≤ 20 := bitsN_le _ 20 (by omega)
        have g4 : lg (t - mid f t) ≤ 20 := bitsN_le _ 20 (by omega)
        rw [hm] at he ih1 ih2 hx g1 g2 g3 g4
        rw [hn] at ih1 ih2
        obtain ⟨E1, hE1⟩ : ∃ E, ent a b f m = E := ⟨_, rfl⟩
        obtain ⟨E2, hE2⟩ : ∃ E, ent a b m t = E := ⟨_, rfl⟩
        obtain ⟨l, hl⟩ : ∃ l, o + 2 * (m - f) - 2 = l := ⟨_, rfl⟩
        obtain ⟨r, hr⟩ : ∃ l, o + 2 * (m - f) - 1 + 2 * (t - m) - 2 = l := ⟨_, rfl⟩
        rw [hE1, hE2] at he
        rw [hE1] at ih1 g1
        rw [hE2] at ih2 g2
        rw [hl] at ih1 hx
        rw [hr] at ih2 hx
        rw [he]
        injection hx with e1 e2 e3 e4 e5 e6 e7
        subst e1 e2 e3 e4 e5 e6 e7
        rw [hav] at hac
        have HC := Lib.hid hwc
        have HA := Lib.hid hac
        have HI1 := Lib.hid ih1
        have HI2 := Lib.hid ih2
        have hv : Value.int .i64 (1 + (E1 : Int) + (E2 : Int)) = Value.int .i64 ((1 + (E1 + E2) : Nat) : Int) := by congr 1; omega
        have y1 : IntKind.i64.wrap (1 + (E1 : Int)) = 1 + (E1 : Int) := IntWalk.i64_in _ (by omega)
        have y2 : IntKind.i64.wrap (1 + (E1 : Int) + (E2 : Int)) = 1 + (E1 : Int) + (E2 : Int) := IntWalk.i64_in _ (by omega)
        have HV := Lib.hid hv
        have HY := Lib.hid (And.intro y1 y2)
        have HND := Lib.hid (show NdC w g (q + k * 7) 2 (l : Int) (r : Int) (f : Int) (t : Int) 0 0 from ⟨c0, c1, c2, c3, c4, c5, c6⟩)
        clear hwb hab he hwv hav hwc hac hs hn ih ih1 ih2 hm hmi g1 g2 g3 g4 hE1 hE2 hl hr hno hni hnl hv y1 y2 hft HX
        go_enter Try.func88, Try.ntmps88
        go_wp2_with fail
        (with_reducible refine (HC.out _).mono ?_)
        rintro e w1 ⟨rfl, hu⟩
        obtain ⟨d0, d1, d2, d3, d4, d5, d6⟩ := HND.out.upd0 hu
        have HU := Lib.hid hu
        clear hu c0 c1 c2 c3 c4 c5 c6
        go_wp2_with fail
        (with_reducible refine (HA.out _).mono ?_)
        rintro e w2 ⟨rfl, hu⟩
        have HU2 := Lib.hid (HU.out.trans hu)
        clear hu d0 d1 d2 d3 d4 d5 d6
        go_upto_region 3 with fail
        have z1 : ∀ x : QW w2, x.w.cell? ⟨g, q + k * 7 + 1, none⟩ = some (.int .i64 (l : Int)) := fun x => (HND.out.upd0 (HU2.out.trans x.up)).2.1
        have z2 : ∀ x : QW w2, x.w.cell? ⟨g, q + k * 7 + 2, none⟩ = some (.int .i64 (r : Int)) := fun x => (HND.out.upd0 (HU2.out.trans x.up)).2.2.1
        have H1 := Lib.hid (fun x : QW w2 => HI1.out x.w (HSN.out.upd0 (HU2.out.trans x.up)))
        have H2 := Lib.hid (fun x : QW w2 => HI2.out x.w (HSN.out.upd0 (HU2.out.trans x.up)))
        obtain ⟨y1, y2⟩ := HY.out
        refine wp_region_quietU (by kernel_rfl) (by kernel_rfl) ?_
        repeat (go_big_quiet_step (first | (with_reducible exact Calls.quietU (H1.out _)) | (with_reducible exact Calls.quietU (H2.out _))))
        refine wpQuiet_nil ?_
        intro wq hw'
        obtain ⟨⟨wy, hwq⟩, hw''⟩ := hw'
        dsimp only at hw''
        subst hw''
        go_wp2_with fail
        go_ret
        exact ⟨by rw [← HV.out]; rfl, HU2.out.trans hwq⟩
end Go.Proofs.Ytcpompbiohaomaa
