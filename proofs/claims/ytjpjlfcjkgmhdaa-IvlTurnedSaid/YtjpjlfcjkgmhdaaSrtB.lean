/- Rows of names that are sorted: the words for the walks of slices.Sort. No program. slices.Sort of names: insertion sort, the heap. The library's own text is walked. -/
import Derived.Test.YtjpjlfcjkgmhdaaCarryB
import Derived.Sort.AssemblyPlain
import Derived.Test.YtjpjlfcjkgmhdaaProg
import Derived.WalkKit
import Derived.BigQuiet
import Derived.Deep.QuietTactic
import Derived.Deep.LoopGhost
import Derived.Deep.Light
import Derived.IntWalk
namespace Go.Proofs.Ytjpjlfcjkgmhdaa
open Go.RowKit Go.Sort

abbrev encU : Int → Value := fun x => .int .u32 x

/-- Block p holds d, then what else it held. -/
def RB (w : World) (p : Nat) (d : Array Int) (rest : List Value) (e : TypeId) : Prop := w.heap[p]? = some (.cells (d.toList.map encU ++ rest).toArray e (0, 0))

section
variable {w w' : World} {p : Nat} {d : Array Int} {rest : List Value} {e : TypeId}

theorem RB.lt (h : RB w p d rest e) : p < w.heap.size := lt_of_block h
theorem RB.cell (h : RB w p d rest e) {t : Nat} (ht : t < d.size) : w.cell? ⟨p, t, none⟩ = some (.int .u32 d[t]!) := by
  unfold RB at h
  have : ((d.toList.map encU ++ rest).toArray)[t]? = some (encU d[t]!) := by
    rw [List.getElem?_toArray, List.getElem?_append_left (by simpa using ht), List.getElem?_map, List.getElem?_eq_getElem (by simpa using ht)]
    simp [getElem!_pos d t ht]
  simp only [World.cell?, h, this]; rfl
theorem RB.frozen (h : RB w p d rest e) (t : Nat) : w.frozen? ⟨p, t, none⟩ = false := by
  unfold RB at h
  simp [World.frozen?, h]
theorem RB.upd {F : List Nat} (h : RB w p d rest e) (hu : Upd F w w') (hp : p ∉ F) : RB w' p d rest e := by
  unfold RB at h ⊢
  rw [hu.block p (lt_of_block h) hp, h]
theorem RB.drew (h : RB w p d rest e) : RB w.drew p d rest e := h
theorem RB.drewN (h : RB w p d rest e) (n : Nat) : RB (w.drewN n) p d rest e := h
theorem RB.set (h : RB w p d rest e) {t : Nat} (ht : t < d.size) (x : Int) : RB (w.setCell ⟨p, t, none⟩ (.int .u32 x)) p (d.setIfInBounds t x) rest e := by
  unfold RB at h ⊢
  rw [heap_setCell_same w p t _ _ _ h]
  congr 1
  congr 1
  apply Array.ext'
  simp only [List.setIfInBounds_toArray, Array.toList_setIfInBounds]
  rw [List.set_append_left _ _ (by simpa using ht), List.map_set]
theorem RB.swp (h : RB w p d rest e) {i j : Nat} (hi : i < d.size) (hj : j < d.size) : RB ((w.setCell ⟨p, i, none⟩ (.int .u32 d[j]!)).setCell ⟨p, j, none⟩ (.int .u32 d[i]!)) p (Sort.swp d i j) rest e := by
  unfold Sort.swp
  exact (h.set hi _).set (by simpa using hj) _
theorem swp_comm (d : Array Int) (i j : Nat) (hi : i < d.size) (hj : j < d.size) : Sort.swp d i j = Sort.swp d j i := by
  apply Array.ext_getElem?
  intro k
  unfold Sort.swp
  rw [Array.getElem?_setIfInBounds, Array.getElem?_setIfInBounds, Array.getElem?_setIfInBounds, Array.getElem?_setIfInBounds]
  by_cases h1 : i = k <;> by_cases h2 : j = k <;> simp_all
theorem Upd.swp {F : List Nat} {a : World} (h : Upd F a w) (hp : p ∈ F ∨ a.heap.size ≤ p) (i j : Nat) (x y : Value) : Upd F a ((w.setCell ⟨p, i, none⟩ x).setCell ⟨p, j, none⟩ y) := (h.setCell hp _).setCell hp _
end

/-- Whatever sorts the rest sorts all. -/
def Rest (a b : Nat) (d0 : Array Int) (a' b' : Nat) (d : Array Int) : Prop := ∀ R, PermIn a' b' d R → SortedIn ltInt a' b' R → PermIn a b d0 R ∧ SortedIn ltInt a b R

theorem Rest.refl (a b : Nat) (d : Array Int) : Rest a b d a b d := fun _ h1 h2 => ⟨h1, h2⟩
theorem Rest.perm {a b a' b' : Nat} {d0 d d' : Array Int} (h : Rest a b d0 a' b' d) (hp : PermIn a' b' d d') : Rest a b d0 a' b' d' := fun R h1 h2 => h R (permIn_trans _ _ _ _ _ hp h1) h2
theorem Rest.equal {a b a' b' pivot mid : Nat} {d0 d d' : Array Int} (h : Rest a b d0 a' b' d) (ha0 : 0 < a') (hp1 : a' ≤ pivot) (hp2 : pivot < b') (hb : b' ≤ d.size) (hB : Sort.Below ltInt a' b' d)
    (hnl : ltInt d[a' - 1]! d[pivot]! = false) (hx : partitionEqual ltInt d a' b' pivot = (mid, d')) : a' < mid ∧ mid ≤ b' ∧ d'.size = d.size ∧ Sort.Below ltInt mid b' d' ∧ Rest a b d0 mid b' d' := by
  obtain ⟨h1, h2, h3, h4, h5⟩ := round_eq swo_ltInt (partitionEqual_holds _) ha0 hp1 hp2 hb hB hnl hx
  exact ⟨h1, h2, h3, h4, fun R g1 g2 => by obtain ⟨g3, g4⟩ := h5 R g1 g2; exact h R g3 g4⟩
theorem Rest.part {a b a' b' pivot mid : Nat} {ap : Bool} {d0 d d' : Array Int} (h : Rest a b d0 a' b' d) (hp1 : a' ≤ pivot) (hp2 : pivot < b') (hb : b' ≤ d.size) (hB : Sort.Below ltInt a' b' d)
    (hx : partition ltInt d a' b' pivot = (mid, ap, d')) : a' ≤ mid ∧ mid < b' ∧ d'.size = d.size ∧ Sort.Below ltInt a' mid d' ∧ Sort.Below ltInt (mid + 1) b' d' ∧
    (∀ L, PermIn a' mid d' L → SortedIn ltInt a' mid L → Sort.Below ltInt (mid + 1) b' L ∧ Rest a b d0 (mid + 1) b' L) ∧
    (∀ L, PermIn (mid + 1) b' d' L → SortedIn ltInt (mid + 1) b' L → Sort.Below ltInt a' mid L ∧ Rest a b d0 a' mid L) := by
  obtain ⟨h1, h2, h3, h4, h5, h6, h7⟩ := round_part swo_ltInt (partition_holds _) hp1 hp2 hb hB hx
  refine ⟨h1, h2, h3, h4, h5, fun L g1 g2 => ?_, fun L g1 g2 => ?_⟩
  · obtain ⟨g3, g4⟩ := h6 L g1 g2
    exact ⟨g3, fun R k1 k2 => by obtain ⟨k3, k4⟩ := g4 R k1 k2; exact h R k3 k4⟩
  · obtain ⟨g3, g4⟩ := h7 L g1 g2
    exact ⟨g3, fun R k1 k2 => by obtain ⟨k3, k4⟩ := g4 R k1 k2; exact h R k3 k4⟩
end Go.Proofs.Ytjpjlfcjkgmhdaa

namespace Go.Proofs.Ytjpjlfcjkgmhdaa
open Go.RowKit Go.Sort

theorem nanU (x : Int) (w : World) : Calls Try.prog 81 #[.int .u32 x] w fun e w' => e = .returned (.bool false) ∧ w' = w := by
  go_enter Try.func81, Try.ntmps81
  go_wp2_with fail
  go_ret
  exact ⟨by simp, rfl⟩

theorem lessU (x y : Int) (w : World) : Calls Try.prog 73 #[.int .u32 x, .int .u32 y] w fun e w' => e = .returned (.bool (ltInt x y)) ∧ w' = w := by
  have HN := fun x w => nanU x w
  go_enter Try.func73, Try.ntmps73
  go_wp2_with (first | (go_at_call 81; (with_reducible refine (HN _ _).mono ?_); rintro e w' ⟨rfl, rfl⟩))
  go_ret
  exact ⟨rfl, rfl⟩

/-- What a part of the sort leaves. -/
def SrtPost (w : World) (p : Nat) (rest : List Value) (et : TypeId) (d' : Array Int) (e : Ending) (w' : World) : Prop := e = .returned (.tuple #[]) ∧ RB w' p d' rest et ∧ Upd [p] w w'

set_option maxRecDepth 100000 in
set_option maxHeartbeats 4000000 in
theorem insertU (p C a b : Nat) (d : Array Int) (rest : List Value) (et : TypeId) (w : World) (h : RB w p d rest et) (hab : a ≤ b) (hb : b ≤ d.size) (hsz : d.size < 1000000) :
    Calls Try.prog 67 #[.slice (some ⟨p, 0, none⟩) d.size C, .int .i64 (a : Int), .int .i64 (b : Int)] w (SrtPost w p rest et (insertionSort ltInt d a b)) := by
  unfold SrtPost
  obtain ⟨n, hn⟩ : ∃ n, d.size = n := ⟨_, rfl⟩
  obtain ⟨R, hR⟩ : ∃ R, insertionSort ltInt d a b = R := ⟨_, rfl⟩
  rw [hn] at hb hsz ⊢
  rw [hR]
  have b0 : (b : Int) < 1000000 := by omega
  have a0 : (a : Int) ≤ (b : Int) := by omega
  have HH := Lib.hid h
  have HR := Lib.hid hR
  have HN := Lib.hid hn
  have HB := Lib.hid (And.intro hab hb)
  clear h hR hn hab hb hsz
  go_enter Try.func67, Try.ntmps67
  go_wp2_with fail
  go_loopg [6] (b - (a + 1)) (fun m s6 wr => ∃ (i : Nat) (dk : Array Int), m = b - i ∧ s6 = .int .i64 (i : Int) ∧ a < i ∧ dk.size = n ∧ RB wr p dk rest et ∧ Upd [p] w wr ∧ insOuter ltInt a b i dk = R)
  case atStart => exact ⟨a + 1, d, rfl, by go_num, by omega, HN.out, HH.out, Upd.refl _ _, HR.out⟩
  case round =>
    obtain ⟨i, dk, hm, rfl, hai, hdn, hrb, hu, heq⟩ := hrel
    have HI := Lib.hid (And.intro hm hai)
    have HD := Lib.hid hdn
    have HU := Lib.hid hu
    have HRB := Lib.hid hrb
    clear hm hdn hu hrb
    have i0 : (a : Int) < (i : Int) := by omega
    by_cases hlt : i < b
    · have i1 : (i : Int) < (b : Int) := by omega
      have he : insOuter ltInt a b (i + 1) (insInner ltInt a i dk) = R := by rw [← heq]; conv => rhs; rw [insOuter, if_pos hlt]
      have HE := Lib.hid he
      have HLT := Lib.hid hlt
      clear heq he hlt hai
      go_wp2_with fail
      go_loopg [7] (i) (fun m s7 wr => ∃ (j : Nat) (dj : Array Int), m = j ∧ s7 = .int .i64 (j : Int) ∧ a ≤ j ∧ j ≤ i ∧ dj.size = n ∧ RB wr p dj rest et ∧ Upd [p] w wr ∧ insInner ltInt a j dj = insInner ltInt a i dk)
      case atStart => exact ⟨i, dk, rfl, rfl, by have := HI.out; omega, Nat.le_refl _, HD.out, HRB.out, HU.out, rfl⟩
      case round =>
        obtain ⟨j, dj, hm, rfl, haj, hji, hdn, hrb, hu, heq⟩ := hrel
        obtain ⟨wl, rfl⟩ : ∃ wl : World, wl = wr := ⟨_, rfl⟩
        have j1 : (j : Int) ≤ (i : Int) := by omega
        have j0 : (a : Int) ≤ (j : Int) := by omega
        by_cases hja : a < j
        · have hja' : (a : Int) < (j : Int) := by omega
          obtain ⟨k, hk⟩ : ∃ k : Nat, j = k + 1 := ⟨j - 1, by omega⟩
          have hkz : (j : Int) - 1 = (k : Int) := by omega
          have c1 := hrb.cell (t := j) (by have := HLT.out; have := HB.out; omega)
          have c2 := hrb.cell (t := k) (by have := HLT.out; have := HB.out; omega)
          have f1 := hrb.frozen j
          have f2 := hrb.frozen k
          obtain ⟨x, hx⟩ : ∃ x, dj[j]! = x := ⟨_, rfl⟩
          obtain ⟨y, hy⟩ : ∃ y, dj[k]! = y := ⟨_, rfl⟩
          obtain ⟨c, hc⟩ : ∃ c, ltInt x y = c := ⟨_, rfl⟩
          have HLS := fun w => lessU x y w
          simp only [hc] at HLS
          rw [hx] at c1
          rw [hy] at c2
          have HK := Lib.hid hk
          have HM := Lib.hid hm
          have HJ := Lib.hid (And.intro hja hji)
          have HDN := Lib.hid hdn
          have HRJ := Lib.hid hrb
          have HUJ := Lib.hid hu
          have HQ := Lib.hid heq
          have HX := Lib.hid (And.intro hx (And.intro hy hc))
          have j2 : (j : Int) < 1000000 := by omega
          have j3 : (j : Int) < (n : Int) := by have := HLT.out; have := HB.out; omega
          clear hk hm hja hji hdn hrb hu heq hx hy hc haj
          cases c
          · go_wp2_with fail
            go_quiet (first | (go_at_call 73; refine Calls.quiet_of_same (HLS _)))
            go_wp2_with fail
            go_roundg (b - (i + 1))
            case measure => have := HI.out; have := HLT.out; omega
            case rel =>
              refine ⟨i + 1, dj, rfl, by go_num, by have := HI.out; omega, HDN.out, HRJ.out.drewN _, HUJ.out.drewN _, ?_⟩
              rw [← HE.out, ← HQ.out, HK.out, insInner, ← HK.out, HX.out.1, HX.out.2.1, HX.out.2.2, Bool.and_false]
              rfl
          · go_wp2_with fail
            go_quiet (first | (go_at_call 73; refine Calls.quiet_of_same (HLS _)))
            go_wp2_with fail
            have HRW := Lib.hid (HRJ.out.drewN nq)
            have HUW := Lib.hid (HUJ.out.drewN nq)
            clear c1 c2 f1 f2
            generalize wl.drewN nq = W at HRW HUW ⊢
            have c1 := HRW.out.cell (t := j) (by have := HDN.out; have := HLT.out; have := HB.out; have := HJ.out; omega)
            have c2 := HRW.out.cell (t := k) (by have := HDN.out; have := HLT.out; have := HB.out; have := HJ.out; have := HK.out; omega)
            have f1 := HRW.out.frozen j
            have f2 := HRW.out.frozen k
            rw [HX.out.1] at c1
            rw [HX.out.2.1] at c2
            have HS := Lib.hid (And.intro (HRW.out.swp (i := j) (j := k) (by have := HDN.out; have := HLT.out; have := HB.out; have := HJ.out; omega) (by have := HDN.out; have := HLT.out; have := HB.out; have := HJ.out; have := HK.out; omega)) (HUW.out.swp (p := p) (.inl (by simp)) j k (.int .u32 dj[k]!) (.int .u32 dj[j]!)))
            rw [HX.out.1, HX.out.2.1] at HS
            go_region
            generalize (W.setCell ⟨p, j, none⟩ (.int .u32 y)).setCell ⟨p, k, none⟩ (.int .u32 x) = W2 at HS ⊢
            go_wp2_with fail
            go_roundg k
            case measure => have := HK.out; have := HM.out; omega
            case rel =>
              refine ⟨k, Sort.swp dj j k, rfl, rfl, by have := HK.out; have := HJ.out; omega, by have := HK.out; have := HJ.out; omega, by rw [size_swp]; exact HDN.out, HS.out.1, HS.out.2.drew, ?_⟩
              rw [← HQ.out, HK.out, insInner, ← HK.out, HX.out.1, HX.out.2.1, HX.out.2.2, decide_eq_true HJ.out.1]
              rfl
        · have hja' : ¬ (a : Int) < (j : Int) := by omega
          have hjd : decide (a < j) = false := decide_eq_false hja
          have hje : j = a := by omega
          have HRJ := Lib.hid hrb
          have HUJ := Lib.hid hu
          have HDN := Lib.hid hdn
          have he : dj = insInner ltInt a i dk := by
            rw [← heq, hje]
            cases a with
            | zero => rfl
            | succ a => rw [insInner, decide_eq_false (by omega), Bool.false_and]; rfl
          have HQ := Lib.hid he
          clear heq hje he hrb hu hdn hja hji haj hm hja' j0 j1
          go_wp2_with fail
          go_quiet (fail)
          go_wp2_with fail
          go_roundg (b - (i + 1))
          case measure => have := HI.out; have := HLT.out; omega
          case rel => exact ⟨i + 1, dj, rfl, by go_num, by have := HI.out; omega, HDN.out, HRJ.out.drewN _, HUJ.out.drewN _, by rw [HQ.out]; exact HE.out⟩
    · have i1 : ¬ (i : Int) < (b : Int) := by omega
      rw [insOuter, if_neg hlt] at heq
      have HE := Lib.hid heq
      clear heq hlt hai
      go_wp2_with fail
      go_end0
      exact ⟨rfl, by rw [← HE.out]; exact HRB.out, HU.out⟩
end Go.Proofs.Ytjpjlfcjkgmhdaa
