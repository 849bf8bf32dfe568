/- 'same' of layer 20's statements: are two lists of numbers the same? -/
import Derived.Test.YtkhgglafnjfiaaaRows
import Derived.Test.YtkhgglafnjfiaaaCarryB
import Derived.BigQuiet
import Derived.Deep.QuietTactic
import Derived.Deep.LoopGhost
import Derived.Deep.DeepCutAuto
import Derived.Deep.CutBlock
import Derived.Deep.Light
namespace Go.Proofs.Ytkhgglafnjfiaaa
open Go.RowKit

/-- Numbers, as things. -/
def KI : Kind Int := { T := 87, sT := 22, eT := 2, sz := 1, enc := fun x => [.int .i64 x], len := fun _ => rfl, one := fun x u hu => by simp at hu; subst hu; rfl }

theorem KI_all (l : List Int) : KI.all l = l.map fun x => .int .i64 x := by
  induction l with
  | nil => rfl
  | cons a l ih => simp only [Kind.all, List.flatMap_cons, List.map_cons] at *; rw [ih]; rfl

/-- The list l is what v is seen to have. -/
def Ints (w : World) (v : Value) (l : List Int) : Prop := Sees w 1 v l.length (KI.all l)

theorem Ints.form {w : World} {v : Value} {l : List Int} (h : Ints w v l) : ∃ A C, v = .slice A l.length C := sees_form h

theorem Ints.cell {w : World} {A : Option Addr} {n C : Nat} {l : List Int} (h : Ints w (.slice A n C) l) {k : Nat} (hk : k < l.length) :
    ∃ b o, A = some ⟨b, o, none⟩ ∧ w.cell? ⟨b, o + k, none⟩ = some (.int .i64 l[k]) := by
  rcases h.2 with ⟨h1, h2⟩ | ⟨b, o, s, cap, h1, h2, h3, h4, h5⟩
  · omega
  · cases h1
    have hs := h2 (by omega)
    subst hs
    refine ⟨b, o, rfl, h5 k _ ?_⟩
    rw [KI_all]
    simp [hk]

theorem Ints.lt {w : World} {v : Value} {l : List Int} (h : Ints w v l) (h0 : 0 < l.length) : ∀ k ∈ blk v, k < w.heap.size := by
  obtain ⟨A, C, rfl⟩ := h.form
  obtain ⟨b, o, rfl, hc⟩ := h.cell h0
  intro k hk
  simp [blk] at hk
  subst hk
  exact World.block_lt_of_cell? w _ hc

theorem Ints.upd {F : List Nat} {w w' : World} {v : Value} {l : List Int} (h : Ints w v l) (hu : Upd F w w') (hd : 0 < l.length → ∀ k ∈ blk v, k < w.heap.size → k ∉ F) : Ints w' v l := sees_upd h hu hd

theorem Ints.upd0 {w w' : World} {v : Value} {l : List Int} (h : Ints w v l) (hu : Upd [] w w') : Ints w' v l := sees_upd h hu (by simp)

theorem Ints.of_row {w : World} {base : Nat} {v : Value} {l : List Int} (h : KI.row w base v l) : Ints w v l := sees_of_own h

set_option maxRecDepth 100000 in
set_option maxHeartbeats 400000 in
theorem same20 (a b : Value) (la lb : List Int) (w : World) (ha : Ints w a la) (hb : Ints w b lb) (hl : la.length < 1099511627776) (hl' : lb.length < 1099511627776) :
    Calls Try.prog 18 #[a, b] w fun e w' => e = .returned (.bool (decide (la = lb))) ∧ Upd [] w w' := by
  obtain ⟨A, C, rfl⟩ := ha.form
  obtain ⟨B, D, rfl⟩ := hb.form
  by_cases hlen : la.length = lb.length
  · have hne : ((la.length : Int) != (lb.length : Int)) = false := by simp [hlen]
    have HA := Lib.hid ha
    have HB := Lib.hid hb
    have HL := Lib.hid hlen
    clear ha hb hlen
    go_enter Try.func18, Try.ntmps18
    go_upto_block 0 with fail
    go_cut [] (fun wc => la = lb ∧ Upd [] w wc)
    case first =>
      go_wp2_with fail
      go_loopg [13] (la.length) (fun m i wr => ∃ k, m + k = la.length ∧ i = .int .i64 (k : Int) ∧ la.take k = lb.take k ∧ Upd [] w wr)
      case atStart => exact ⟨0, rfl, rfl, rfl, Upd.refl _ _⟩
      case round =>
        obtain ⟨k, hk, rfl, htk, hu⟩ := hrel
        have HU := Lib.hid hu
        have HT := Lib.hid htk
        have HK := Lib.hid hk
        have h1 : k ≤ la.length := by omega
        clear hu htk hk
        by_cases hlt : k < la.length
        · have hlt' : k < lb.length := by rw [← HL.out]; exact hlt
          obtain ⟨b1, o1, hA, hc1⟩ := (HA.out.upd0 HU.out).cell hlt
          obtain ⟨b2, o2, hB, hc2⟩ := (HB.out.upd0 HU.out).cell hlt'
          subst hA hB
          obtain ⟨x, hx⟩ : ∃ x, la[k] = x := ⟨_, rfl⟩
          obtain ⟨y, hy⟩ : ∃ y, lb[k] = y := ⟨_, rfl⟩
          rw [hx] at hc1
          rw [hy] at hc2
          have HX := Lib.hid hx
          have HY := Lib.hid hy
          clear hx hy
          have b0 : (0 : Int) ≤ (k : Int) := Int.natCast_nonneg _
          have b1 : (k : Int) < (la.length : Int) := by omega
          have b2 : (k : Int) < (lb.length : Int) := by omega
          by_cases hxy : x = y
          · have hq : (x != y) = false := by simp [hxy]
            have HXY := Lib.hid hxy
            clear hxy
            go_wp2
            go_quiet (fail)
            go_wp2
            go_roundg (gk - 1)
            case measure => have := HK.out; omega
            case rel =>
              refine ⟨k + 1, by have := HK.out; omega, by go_num, ?_, HU.out.drewN _⟩
              rw [List.take_succ_eq_append_getElem hlt, List.take_succ_eq_append_getElem hlt', HT.out, HX.out, HY.out, HXY.out]
          · have hq : (x != y) = true := by simp [hxy]
            have hd : decide (la = lb) = false := by
              rw [decide_eq_false_iff_not]
              intro e; subst e; exact hxy (by rw [← HX.out, ← HY.out])
            have HD := Lib.hid hd
            clear hxy hd
            go_wp2
            go_quiet (fail)
            go_wp2
            go_ret
            exact ⟨by rw [HD.out]; rfl, HU.out.drewN _⟩
        · go_wp2
          go_meet
          case rel =>
            refine ⟨?_, HU.out⟩
            have := HT.out
            rwa [List.take_of_length_le (by omega), List.take_of_length_le (by have := HL.out; omega)] at this
    case rest =>
      obtain ⟨rfl, hu⟩ := hcut
      go_wp2
      go_ret
      exact ⟨by simp, hu⟩
  · have hne : ((la.length : Int) != (lb.length : Int)) = true := by simp; omega
    have hd : decide (la = lb) = false := by
      rw [decide_eq_false_iff_not]
      intro e; exact hlen (by rw [e])
    rw [hd]
    clear ha hb hd
    have HL := Lib.hid hlen
    clear hlen
    go_enter Try.func18, Try.ntmps18
    go_wp2
    go_ret
    exact ⟨rfl, Upd.refl _ _⟩
end Go.Proofs.Ytkhgglafnjfiaaa
