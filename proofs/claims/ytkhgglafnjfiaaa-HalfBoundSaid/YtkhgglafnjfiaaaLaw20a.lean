/- gridironlaw20: is, awake: they answer true. -/
import Derived.Test.YtkhgglafnjfiaaaCarryG
import Derived.Test.YtkhgglafnjfiaaaRef20
namespace Go.Proofs.Ytkhgglafnjfiaaa
open Go.RowKit

theorem RowsSt.later {w w1 w2 : World} {A : Option Addr} {N C : Nat} {ll : List (List Int)} (h : RowsSt w w1 A N C ll) (hu : Upd [] w1 w2) : RowsSt w w2 A N C ll := by
  obtain ⟨vs, h1, h2, h3, h4⟩ := h
  exact ⟨vs, h1.upd hu (by simp), h2, h3.trans hu, h4⟩

theorem RowsSt.at {w wr : World} {A : Option Addr} {N C : Nat} {ll : List (List Int)} (h : RowsSt w wr A N C ll) {j : Nat} {x : List Int} (hx : ll[j]? = some x) :
    ∃ (g : Nat) (Aj : Option Addr) (Cj : Nat), A = some ⟨g, 0, none⟩ ∧ wr.cell? ⟨g, j, none⟩ = some (.slice Aj x.length Cj) ∧ Ints wr (.slice Aj x.length Cj) x := by
  obtain ⟨vs, h1, h2, h3, h4⟩ := h
  obtain ⟨hj, he⟩ := List.getElem?_eq_some_iff.1 hx
  obtain ⟨g, Aj, Cj, hA, _, hcell, _, hrow⟩ := h1.at hj
  rw [he] at hcell hrow
  exact ⟨g, Aj, Cj, hA, hcell, Ints.of_row hrow⟩

theorem bucket_small (l : List Int) (hl : l.length < 1000000) (j : Nat) : (bucketOf l j).length < 1000000 := by
  rw [bucketOf_len]
  split
  · rename_i hb
    have := Nat.ge_two_pow_of_testBit hb
    omega
  · omega

set_option maxRecDepth 100000 in
set_option maxHeartbeats 400000 in
theorem is_true (b : Nat) (F : List Nat) (s : Value) (l : List Int) (work : Nat) (w : World) (hc : IsCarry KI w b F (setB l) l.length work) (hs : Ints w s l) (hl : l.length < 1000000) :
    Calls Try.prog 15 #[.pointer (some ⟨b, 0, none⟩), s] w fun e w' => e = .returned (.bool true) ∧ Upd [] w w' := by
  obtain ⟨As, Cs, rfl⟩ := hs.form
  have HS := Lib.hid hs
  have HC := Lib.hid hc
  clear hs hc
  have hb20 : bitsN l.length ≤ 20 := bitsN_le _ _ (by omega)
  have q1 : ((l.length : Int) != (l.length : Int)) = false := by simp
  have q2 : ((bitsN l.length : Int) != (bitsN l.length : Int)) = false := by simp
  go_enter Try.func15, Try.ntmps15
  go_wp2_with fail
  refine (bucketsRef _ l _ HS.out hl).mono ?_
  rintro e w1 ⟨A, C, rfl, hst⟩
  rw [setB_len] at hst ⊢
  have hu1 : Upd [] w w1 := by obtain ⟨_, _, _, h3, _⟩ := hst; exact h3
  have hc1 := HC.out.upd hu1 (by simp)
  have HST := Lib.hid hst
  have HU := Lib.hid hu1
  have HC1 := Lib.hid hc1
  clear hst hu1 hc1
  go_wp2_with fail
  refine (lenI _ _ _ _ _ _ HC1.out).mono ?_
  rintro e w' ⟨rfl, rfl⟩
  go_wp2_with fail
  refine (levelsI _ _ _ _ _ _ HC1.out).mono ?_
  rintro e w' ⟨rfl, rfl⟩
  rw [setB_len]
  go_wp2_with fail
  go_loopg [6] (bitsN l.length + 2) (fun m i wr => ∃ k, m + k = bitsN l.length + 2 ∧ i = .int .i64 ((k : Int) - 1) ∧ Upd [] w1 wr)
  case atStart => exact ⟨0, rfl, rfl, Upd.refl _ _⟩
  case round =>
    obtain ⟨k, hk, rfl, hu⟩ := hrel
    have hk1 : k ≤ 22 := by omega
    have hst := HST.out.later hu
    have hc2 := HC1.out.upd hu (by simp)
    by_cases h0 : k = 0
    · have HH := Lib.hid hc2
      have HX := Lib.hid hu
      have HK := Lib.hid hk
      clear hst hc2 hu hk
      subst h0
      go_wp2_with fail
      refine (bucketI_out _ _ _ _ _ _ _ HH.out (.inl (by omega))).mono ?_
      rintro e w' ⟨rfl, rfl⟩
      go_wp2_with fail
      go_roundg (gk - 1)
      case measure => have := HK.out; omega
      case rel => exact ⟨1, by have := HK.out; omega, by go_num, HX.out⟩
    · obtain ⟨j, rfl⟩ : ∃ j, k = j + 1 := ⟨k - 1, by omega⟩
      have e8 : (((j + 1 : Nat) : Int) - 1) = (j : Int) := by omega
      rw [e8]
      clear e8
      by_cases h1 : j = bitsN l.length
      · have HH := Lib.hid hc2
        have HX := Lib.hid hu
        have HK := Lib.hid hk
        clear hst hc2 hu hk
        subst h1
        go_wp2_with fail
        refine (bucketI_out _ _ _ _ _ _ _ HH.out (.inr (by rw [setB_len]; omega))).mono ?_
        rintro e w' ⟨rfl, rfl⟩
        go_wp2_with fail
        go_roundg (gk - 1)
        case measure => have := HK.out; omega
        case rel => exact ⟨bitsN l.length + 2, by have := HK.out; omega, by go_num, HX.out⟩
      · by_cases h2 : j < bitsN l.length
        · have hgl := setB_get l j h2
          have hbl := bucket_small l hl j
          obtain ⟨x, hx⟩ : ∃ x, bucketOf l j = x := ⟨_, rfl⟩
          rw [hx] at hgl hbl
          obtain ⟨g, Aj, Cj, hA, hcell, hrow⟩ := hst.at hgl
          subst hA
          have q3 : ((j : Int) == (bitsN l.length : Int)) = false := by simp; omega
          have HH := Lib.hid hc2
          have HX := Lib.hid hu
          have HK := Lib.hid hk
          have HR := Lib.hid hrow
          have HG := Lib.hid hgl
          have HXX := Lib.hid hx
          clear hst hc2 hu hk hrow hgl hx h1
          have b0 : (0 : Int) ≤ (j : Int) := Int.natCast_nonneg _
          have b1 : (j : Int) < (bitsN l.length : Int) := by omega
          have hgw := World.block_lt_of_cell? wr _ hcell
          simp only at hgw
          go_upto_region 10 with fail
          go_region_held3 (fun w' => w'.cell? ⟨g, j, none⟩ = some (.slice Aj x.length Cj))
            (first
              | go_keep
              | (exact (hupb.cell (p := ⟨g, j, none⟩) (by simp; omega) (by simp)).trans hcell)
              | (exact (hups.cell (p := ⟨g, j, none⟩) (by have := hupb.size; simp at this; simp; omega) (by simp)).trans ((hupb.cell (p := ⟨g, j, none⟩) (by simp; omega) (by simp)).trans hcell)))
            (first
              | (go_at_call 23; refine (bucketI_in _ _ _ _ _ _ _ _ (HH.out.upd ((Upd.refl [] wr).drew) (by simp)) HG.out hbl).mono ?_; rintro e w2 ⟨A6, C6, rfl, hrowb, hupb⟩)
              | (go_at_call 18; refine (same20 _ _ x x _ (Ints.of_row hrowb) (HR.out.upd0 (((Upd.refl [] wr).drew).trans hupb)) (by omega) (by omega)).mono ?_; rintro e w3 ⟨rfl, hups⟩; simp only [decide_true]))
          go_wp2_with fail
          go_roundg (gk - 1)
          case measure => have := HK.out; omega
          case rel => exact ⟨j + 2, by have := HK.out; omega, by go_num, ((HX.out.drew).trans hupb).trans hups⟩
        · have HH := Lib.hid (HU.out.trans hu)
          have h3 : (bitsN l.length : Int) < (j : Int) := by omega
          clear hst hc2 hu hk h1 h2
          go_wp2_with fail
          go_ret
          exact ⟨rfl, HH.out⟩
end Go.Proofs.Ytkhgglafnjfiaaa
