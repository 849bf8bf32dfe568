/- gridironlaw20: is, awake: they answer true. gridironlaw20.awake: the chapter's examples are met. -/
import Derived.Test.YtkhgglafnjfiaaaCarryG
import Derived.Test.YtkhgglafnjfiaaaRef20
import Derived.Test.YtkhgglafnjfiaaaCarryH
namespace Go.Proofs.Ytkhgglafnjfiaaa
open Go.RowKit

theorem RowsSt.later {w w1 w2 : World} {A : Option Addr} {N C : Nat} {ll : List (List Int)} (h : RowsSt w w1 A N C ll) (hu : Upd [] w1 w2) : RowsSt w w2 A N C ll := by
  obtain ⟨vs, h1, h2, h3, h4⟩ := h
  exact ⟨vs, h1.upd hu (by simp), h2, h3.trans hu, h4⟩

theorem RowsSt.at {w wr : World} {A : Option Addr} {N C : Nat} {ll : List (List Int)} (h : RowsSt w wr A N C ll) {j : Nat} {x : List Int} (hx : ll[j]? = some x) :
    ∃ (g : Nat) (Aj : Option Addr) (Cj : Nat), A = some ⟨g, 0, none⟩ ∧ wr.cell? ⟨g, j, none⟩ = some (.slice Aj x.length Cj) ∧ Ints wr (.slice Aj x.length Cj) x := by
  obtain ⟨vs, h1, h2, h3, h4⟩ := h
  obtain ⟨hj, he⟩ := List.getElem?_eq_some_iff.1 hx
  obtain ⟨g, Aj, Cj, hA, _, hcell, _, hrow⟩ := h1.at hj
  rw [he] at hcell hrow
  exact ⟨g, Aj, Cj, hA, hcell, Ints.of_row hrow⟩

theorem bucket_small (l : List Int) (hl : l.length < 1000000) (j : Nat) : (bucketOf l j).length < 1000000 := by
  rw [bucketOf_len]
  split
  · rename_i hb
    have := Nat.ge_two_pow_of_testBit hb
    omega
  · omega

set_option maxRecDepth 100000 in
set_option maxHeartbeats 400000 in
theorem is_true (b : Nat) (F : List Nat) (s : Value) (l : List Int) (work : Nat) (w : World) (hc : IsCarry KI w b F (setB l) l.length work) (hs : Ints w s l) (hl : l.length < 1000000) :
    Calls Try.prog 15 #[.pointer (some ⟨b, 0, none⟩), s] w fun e w' => e = .returned (.bool true) ∧ Upd [] w w' := by
  obtain ⟨As, Cs, rfl⟩ := hs.form
  have HS := Lib.hid hs
  have HC := Lib.hid hc
  clear hs hc
  have hb20 : bitsN l.length ≤ 20 := bitsN_le _ _ (by omega)
  have q1 : ((l.length : Int) != (l.length : Int)) = false := by simp
  have q2 : ((bitsN l.length : Int) != (bitsN l.length : Int)) = false := by simp
  go_enter Try.func15, Try.ntmps15
  go_wp2_with fail
  refine (bucketsRef _ l _ HS.out hl).mono ?_
  rintro e w1 ⟨A, C, rfl, hst⟩
  rw [setB_len] at hst ⊢
  have hu1 : Upd [] w w1 := by obtain ⟨_, _, _, h3, _⟩ := hst; exact h3
  have hc1 := HC.out.upd hu1 (by simp)
  have HST := Lib.hid hst
  have HU := Lib.hid hu1
  have HC1 := Lib.hid hc1
  clear hst hu1 hc1
  go_wp2_with fail
  refine (lenI _ _ _ _ _ _ HC1.out).mono ?_
  rintro e w' ⟨rfl, rfl⟩
  go_wp2_with fail
  refine (levelsI _ _ _ _ _ _ HC1.out).mono ?_
  rintro e w' ⟨rfl, rfl⟩
  rw [setB_len]
  go_wp2_with fail
  go_loopg [6] (bitsN l.length + 2) (fun m i wr => ∃ k, m + k = bitsN l.length + 2 ∧ i = .int .i64 ((k : Int) - 1) ∧ Upd [] w1 wr)
  case atStart => exact ⟨0, rfl, rfl, Upd.refl _ _⟩
  case round =>
    obtain ⟨k, hk, rfl, hu⟩ := hrel
    have hk1 : k ≤ 22 := by omega
    have hst := HST.out.later hu
    have hc2 := HC1.out.upd hu (by simp)
    by_cases h0 : k = 0
    · have HH := Lib.hid hc2
      have HX := Lib.hid hu
      have HK := Lib.hid hk
      clear hst hc2 hu hk
      subst h0
      go_wp2_with fail
      refine (bucketI_out _ _ _ _ _ _ _ HH.out (.inl (by omega))).mono ?_
      rintro e w' ⟨rfl, rfl⟩
      go_wp2_with fail
      go_roundg (gk - 1)
      case measure => have := HK.out; omega
      case rel => exact ⟨1, by have := HK.out; omega, by go_num, HX.out⟩
    · obtain ⟨j, rfl⟩ : ∃ j, k = j + 1 := ⟨k - 1, by omega⟩
      have e8 : (((j + 1 : Nat) : Int) - 1) = (j : Int) := by omega
      rw [e8]
      clear e8
      by_cases h1 : j = bitsN l.length
      · have HH := Lib.hid hc2
        have HX := Lib.hid hu
        have HK := Lib.hid hk
        clear hst hc2 hu hk
        subst h1
        go_wp2_with fail
        refine (bucketI_out _ _ _ _ _ _ _ HH.out (.inr (by rw [setB_len]; omega))).mono ?_
        rintro e w' ⟨rfl, rfl⟩
        go_wp2_with fail
        go_roundg (gk - 1)
        case measure => have := HK.out; omega
        case rel => exact ⟨bitsN l.length + 2, by have := HK.out; omega, by go_num, HX.out⟩
      · by_cases h2 : j < bitsN l.length
        · have hgl := setB_get l j h2
          have hbl := bucket_small l hl j
          obtain ⟨x, hx⟩ : ∃ x, bucketOf l j = x := ⟨_, rfl⟩
          rw [hx] at hgl hbl
          obtain ⟨g, Aj, Cj, hA, hcell, hrow⟩ := hst.at hgl
          subst hA
          have q3 : ((j : Int) == (bitsN l.length : Int)) = false := by simp; omega
          have HH := Lib.hid hc2
          have HX := Lib.hid hu
          have HK := Lib.hid hk
          have HR := Lib.hid hrow
          have HG := Lib.hid hgl
          have HXX := Lib.hid hx
          clear hst hc2 hu hk hrow hgl hx h1
          have b0 : (0 : Int) ≤ (j : Int) := Int.natCast_nonneg _
          have b1 : (j : Int) < (bitsN l.length : Int) := by omega
          have hgw := World.block_lt_of_cell? wr _ hcell
          simp only at hgw
          go_upto_region 10 with fail
          go_region_held3 (fun w' => w'.cell? ⟨g, j, none⟩ = some (.slice Aj x.length Cj))
            (first
              | go_keep
              | (exact (hupb.cell (p := ⟨g, j, none⟩) (by simp; omega) (by simp)).trans hcell)
              | (exact (hups.cell (p := ⟨g, j, none⟩) (by have := hupb.size; simp at this; simp; omega) (by simp)).trans ((hupb.cell (p := ⟨g, j, none⟩) (by simp; omega) (by simp)).trans hcell)))
            (first
              | (go_at_call 23; refine (bucketI_in _ _ _ _ _ _ _ _ (HH.out.upd ((Upd.refl [] wr).drew) (by simp)) HG.out hbl).mono ?_; rintro e w2 ⟨A6, C6, rfl, hrowb, hupb⟩)
              | (go_at_call 18; refine (same20 _ _ x x _ (Ints.of_row hrowb) (HR.out.upd0 (((Upd.refl [] wr).drew).trans hupb)) (by omega) (by omega)).mono ?_; rintro e w3 ⟨rfl, hups⟩; simp only [decide_true]))
          go_wp2_with fail
          go_roundg (gk - 1)
          case measure => have := HK.out; omega
          case rel => exact ⟨j + 2, by have := HK.out; omega, by go_num, ((HX.out.drew).trans hupb).trans hups⟩
        · have HH := Lib.hid (HU.out.trans hu)
          have h3 : (bitsN l.length : Int) < (j : Int) := by omega
          clear hst hc2 hu hk h1 h2
          go_wp2_with fail
          go_ret
          exact ⟨rfl, HH.out⟩
end Go.Proofs.Ytkhgglafnjfiaaa

namespace Go.Proofs.Ytkhgglafnjfiaaa
open Go.RowKit

theorem ints_lit (w : World) (t : TypeId) (l : List Int) (n : Nat) (hn : n = l.length) (hm : n ≤ maxLen) :
    Ints (w.alloc (.cells (l.map fun x => (.int .i64 x : Value)).toArray t)) (.slice (some ⟨w.heap.size, 0, none⟩) n n) l := by
  subst hn
  unfold Ints
  rw [KI_all]
  exact sees_lit w _ t 1 l.length (by simp) hm

def LL : List Int := [7, 8, 9, 10]

/-- What lies in memory as the loop begins. -/
structure AwakeLits (W : World) (b h4 h5 : Nat) : Prop where
  want : ∀ k, k < 4 → ∃ g, W.cell? ⟨h4, k, none⟩ = some (.slice (some ⟨g, 0, none⟩) (2 ^ firstE (setB (LL.take k))) (2 ^ firstE (setB (LL.take k)))) ∧
    Ints W (.slice (some ⟨g, 0, none⟩) (2 ^ firstE (setB (LL.take k))) (2 ^ firstE (setB (LL.take k)))) (gath (setB (LL.take k)) (7 + k)) ∧ g ≠ b
  level : ∀ k, k < 4 → W.cell? ⟨h5, k, none⟩ = some (.int .i64 (firstE (setB (LL.take k)) : Nat))
  ne4 : h4 ≠ b
  ne5 : h5 ≠ b

theorem fe0 : firstE (setB (LL.take 0)) = 0 ∧ gath (setB (LL.take 0)) (7 + ((0 : Nat) : Int)) = [7] := by decide
theorem fe1 : firstE (setB (LL.take 1)) = 1 ∧ gath (setB (LL.take 1)) (7 + ((1 : Nat) : Int)) = [7, 8] := by decide
theorem fe2 : firstE (setB (LL.take 2)) = 0 ∧ gath (setB (LL.take 2)) (7 + ((2 : Nat) : Int)) = [9] := by decide
theorem fe3 : firstE (setB (LL.take 3)) = 2 ∧ gath (setB (LL.take 3)) (7 + ((3 : Nat) : Int)) = [7, 8, 9, 10] := by decide

theorem awake_lits (w1 : World) (b : Nat) (hb : b < w1.heap.size) :
    AwakeLits ((((((w1.alloc (Obj.cells #[Value.int IntKind.i64 7] 2)).alloc (Obj.cells #[Value.int IntKind.i64 7, Value.int IntKind.i64 8] 2)).alloc (Obj.cells #[Value.int IntKind.i64 9] 2)).alloc
              (Obj.cells #[Value.int IntKind.i64 7, Value.int IntKind.i64 8, Value.int IntKind.i64 9, Value.int IntKind.i64 10] 2)).alloc
          (Obj.cells #[Value.slice (some ⟨w1.heap.size, 0, none⟩) 1 1, Value.slice (some ⟨w1.heap.size + 1, 0, none⟩) 2 2, Value.slice (some ⟨w1.heap.size + 1 + 1, 0, none⟩) 1 1, Value.slice (some ⟨w1.heap.size + 1 + 1 + 1, 0, none⟩) 4 4] 22)).alloc
      (Obj.cells #[Value.int IntKind.i64 0, Value.int IntKind.i64 1, Value.int IntKind.i64 0, Value.int IntKind.i64 2] 3)) b (w1.heap.size + 1 + 1 + 1 + 1) (w1.heap.size + 1 + 1 + 1 + 1 + 1) := by
  have q0 := ints_lit w1 2 [7] 1 rfl (by decide)
  have q1 := fun o => ints_lit (w1.alloc o) 2 [7, 8] 2 rfl (by decide)
  have q2 := fun o o' => ints_lit ((w1.alloc o).alloc o') 2 [9] 1 rfl (by decide)
  have q3 := fun o o' o'' => ints_lit (((w1.alloc o).alloc o').alloc o'') 2 [7, 8, 9, 10] 4 rfl (by decide)
  simp only [World.size_alloc] at q1 q2 q3
  have up : ∀ (W : World) (o : Obj), Upd [] W (W.alloc o) := fun W o => (Upd.refl _ _).alloc _
  constructor
  · intro k hk
    rcases (by omega : k = 0 ∨ k = 1 ∨ k = 2 ∨ k = 3) with rfl | rfl | rfl | rfl
    · refine ⟨w1.heap.size, ?_, ?_, by omega⟩
      · rw [fe0.1]
        rw [World.cell?_alloc_past _ _ _ (by simp), World.cell?_alloc_at _ _ _ _ (by simp)]
        rfl
      · rw [fe0.1, fe0.2]
        exact ((((q0.upd0 (up _ _)).upd0 (up _ _)).upd0 (up _ _)).upd0 (up _ _)).upd0 (up _ _)
    · refine ⟨w1.heap.size + 1, ?_, ?_, by omega⟩
      · rw [fe1.1]
        rw [World.cell?_alloc_past _ _ _ (by simp), World.cell?_alloc_at _ _ _ _ (by simp)]
        rfl
      · rw [fe1.1, fe1.2]
        exact ((((q1 _).upd0 (up _ _)).upd0 (up _ _)).upd0 (up _ _)).upd0 (up _ _)
    · refine ⟨w1.heap.size + 1 + 1, ?_, ?_, by omega⟩
      · rw [fe2.1]
        rw [World.cell?_alloc_past _ _ _ (by simp), World.cell?_alloc_at _ _ _ _ (by simp)]
        rfl
      · rw [fe2.1, fe2.2]
        exact (((q2 _ _).upd0 (up _ _)).upd0 (up _ _)).upd0 (up _ _)
    · refine ⟨w1.heap.size + 1 + 1 + 1, ?_, ?_, by omega⟩
      · rw [fe3.1]
        rw [World.cell?_alloc_past _ _ _ (by simp), World.cell?_alloc_at _ _ _ _ (by simp)]
        rfl
      · rw [fe3.1, fe3.2]
        exact ((q3 _ _ _).upd0 (up _ _)).upd0 (up _ _)
  · intro k hk
    rcases (by omega : k = 0 ∨ k = 1 ∨ k = 2 ∨ k = 3) with rfl | rfl | rfl | rfl
    · rw [fe0.1, World.cell?_alloc_at _ _ _ _ (by simp)]; rfl
    · rw [fe1.1, World.cell?_alloc_at _ _ _ _ (by simp)]; rfl
    · rw [fe2.1, World.cell?_alloc_at _ _ _ _ (by simp)]; rfl
    · rw [fe3.1, World.cell?_alloc_at _ _ _ _ (by simp)]; rfl
  · omega
  · omega

/-- How many were placed by the first k. -/
def wk (k : Nat) : Nat := ((List.range k).map fun j => 2 ^ firstE (setB (LL.take j))).sum

theorem wk_succ (k : Nat) : wk (k + 1) = wk k + 2 ^ firstE (setB (LL.take k)) := by simp [wk, List.range_succ]

theorem LL_take (k : Nat) (h : k < 4) : LL.take k ++ [7 + (k : Int)] = LL.take (k + 1) := by
  rcases (by omega : k = 0 ∨ k = 1 ∨ k = 2 ∨ k = 3) with rfl | rfl | rfl | rfl <;> decide

set_option maxRecDepth 100000 in
set_option maxHeartbeats 400000 in
theorem awake_true (w : World) :
    Calls Try.prog 20 #[] w fun e w' => e = .returned (.bool true) ∧ Upd [] w w' := by
  go_enter Try.func20, Try.ntmps20
  go_wp2_with fail
  refine (newH w).mono ?_
  rintro e w1 ⟨b, rfl, hH, hb0, hb1, hu1⟩
  have HH := Lib.hid hH
  have HU1 := Lib.hid hu1
  clear hH hu1
  go_upto_block 0 with fail
  have hL := awake_lits w1 b hb1
  have huW : Upd [] w1 _ := (((((((Upd.refl [] w1).alloc (Obj.cells #[Value.int IntKind.i64 7] 2)).alloc (Obj.cells #[Value.int IntKind.i64 7, Value.int IntKind.i64 8] 2)).alloc (Obj.cells #[Value.int IntKind.i64 9] 2)).alloc
              (Obj.cells #[Value.int IntKind.i64 7, Value.int IntKind.i64 8, Value.int IntKind.i64 9, Value.int IntKind.i64 10] 2)).alloc
          (Obj.cells #[Value.slice (some ⟨w1.heap.size, 0, none⟩) 1 1, Value.slice (some ⟨w1.heap.size + 1, 0, none⟩) 2 2, Value.slice (some ⟨w1.heap.size + 1 + 1, 0, none⟩) 1 1, Value.slice (some ⟨w1.heap.size + 1 + 1 + 1, 0, none⟩) 4 4] 22)).alloc
      (Obj.cells #[Value.int IntKind.i64 0, Value.int IntKind.i64 1, Value.int IntKind.i64 0, Value.int IntKind.i64 2] 3))
  generalize (w1.heap.size + 1 + 1 + 1 + 1 + 1) = h5 at *
  generalize (w1.heap.size + 1 + 1 + 1 + 1) = h4 at *
  generalize ((((((w1.alloc (Obj.cells #[Value.int IntKind.i64 7] 2)).alloc (Obj.cells #[Value.int IntKind.i64 7, Value.int IntKind.i64 8] 2)).alloc (Obj.cells #[Value.int IntKind.i64 9] 2)).alloc
              (Obj.cells #[Value.int IntKind.i64 7, Value.int IntKind.i64 8, Value.int IntKind.i64 9, Value.int IntKind.i64 10] 2)).alloc
          _).alloc
      (Obj.cells #[Value.int IntKind.i64 0, Value.int IntKind.i64 1, Value.int IntKind.i64 0, Value.int IntKind.i64 2] 3)) = W at *
  have HL := Lib.hid hL
  have HW := Lib.hid huW
  have HK0 := Lib.hid (HH.out W huW)
  clear hL huW
  go_cut [] (fun wc => Held KI W wc b LL 8)
  case first =>
    go_wp2_with fail
    go_loopg [15] 4 (fun m i wr => ∃ k, m + k = 4 ∧ i = .int .i64 (k : Int) ∧ Held KI W wr b (LL.take k) (wk k))
    case atStart => exact ⟨0, rfl, rfl, HK0.out⟩
    case round =>
      obtain ⟨k, hk, rfl, hc⟩ := hrel
      have hk4 : k ≤ 4 := by omega
      have HC := Lib.hid hc
      have HK := Lib.hid hk
      clear hc hk
      by_cases hlt : k < 4
      · obtain ⟨g, hw1, hw2, hgb⟩ := HL.out.want k hlt
        have hw3 := HL.out.level k hlt
        have hup := HC.out.upd
        have hl4 := World.block_lt_of_cell? W _ hw1
        have hl5 := World.block_lt_of_cell? W _ hw3
        have hw3' : wr.cell? ⟨h5, k, none⟩ = some (.int .i64 (firstE (setB (LL.take k)) : Nat)) := (hup.cell (p := ⟨h5, k, none⟩) hl5 (by simp [HL.out.ne5])).trans hw3
        have b0 : (0 : Int) ≤ (k : Int) := Int.natCast_nonneg _
        have b1 : (k : Int) < 4 := by omega
        have hlen : (LL.take k).length < 500000 := by simp [LL]; omega
        have hwk : wk k < 1099511627776 := by
          rcases (by omega : k = 0 ∨ k = 1 ∨ k = 2 ∨ k = 3) with rfl | rfl | rfl | rfl <;> decide
        have HUP := Lib.hid hup
        have HW1 := Lib.hid hw1
        have HW2 := Lib.hid hw2
        clear hup hw1 hw2 hw3
        go_wp2_with fail
        refine (addH W wr b _ _ _ HC.out hlen hwk).mono ?_
        rintro e w2 ⟨A, C, rfl, hc2, hrow⟩
        rw [LL_take k hlt, ← wk_succ] at hc2
        have hup2 := hc2.upd
        have hw4 := (hup2.cell (p := ⟨h4, k, none⟩) hl4 (by simp [HL.out.ne4])).trans HW1.out
        have hw5 := HW2.out.upd hup2 (fun _ x hx _ => by simp [blk] at hx; subst hx; simpa using hgb)
        obtain ⟨t, ht⟩ : ∃ t, firstE (setB (LL.take k)) = t := ⟨_, rfl⟩
        obtain ⟨G, hG⟩ : ∃ G, gath (setB (LL.take k)) (7 + (k : Int)) = G := ⟨_, rfl⟩
        have hGl : G.length < 1099511627776 := by
          rw [← hG, (gath_set _ _).2]
          have h1 := (gath_last (LL.take k) (7 + (k : Int))).2.1
          omega
        rw [ht] at hrow hw4 hw5 hw3' ⊢
        rw [hG] at hrow hw5
        obtain ⟨p, hp⟩ : ∃ p, 2 ^ t = p := ⟨_, rfl⟩
        rw [hp] at hrow hw4 hw5 ⊢
        have HC2 := Lib.hid hc2
        have HR := Lib.hid hrow
        have HW5 := Lib.hid hw5
        clear hc2 hrow hw5 hup2 ht hG hp hwk hlen
        go_wp2_with fail
        refine (same20 _ _ G G _ (Ints.of_row HR.out) HW5.out hGl hGl).mono ?_
        rintro e w3 ⟨rfl, hu3⟩
        rw [decide_eq_true rfl]
        have HC3 := Lib.hid (HC2.out.quiet hu3)
        clear hu3
        go_wp2_with fail
        go_roundg (gk - 1)
        case measure => have := HK.out; omega
        case rel => exact ⟨k + 1, by have := HK.out; omega, by go_num, HC3.out⟩
      · have h4 : k = 4 := by omega
        subst h4
        go_wp2_with fail
        go_meet
        case rel => exact HC.out
  case rest =>
    have HC := Lib.hid hcut
    clear hcut
    go_wp2_with fail
    refine (workH W _ b _ _ HC.out).mono ?_
    rintro e w' ⟨rfl, rfl⟩
    go_wp2_with fail
    refine (lenH W _ b _ _ HC.out).mono ?_
    rintro e w' ⟨rfl, rfl⟩
    rw [show LL.length = 4 from rfl]
    go_wp2_with fail
    refine (setH_new W wc _ b _ _ [1, 2, 3] _ HC.out ((Upd.refl _ _).alloc _) (ints_lit wc 2 [1, 2, 3] 3 rfl (by decide)) (by simp [blk]) (by decide) (by decide)).mono ?_
    rintro e w2 ⟨rfl, hc2⟩
    have HC2 := Lib.hid hc2
    clear hc2
    rw [show ([1, 2, 3] : List Int).length = 3 from rfl]
    have hb1' : bucketOf ([1, 2, 3] : List Int) 1 = [1, 2] := by decide
    have hb0' : bucketOf ([1, 2, 3] : List Int) 0 = [3] := by decide
    have hbits : bitsN ([1, 2, 3] : List Int).length = 2 := by decide
    have hu1 := HU1.out.trans HW.out
    have HB1 := Lib.hid hb1'
    have HB0 := Lib.hid hb0'
    have HBI := Lib.hid hbits
    have HUU := Lib.hid hu1
    clear hb1' hb0' hbits hu1
    go_wp2_with fail
    refine (bucketH W w2 b 1 _ _ HC2.out (by rw [HBI.out]; omega) (by decide)).mono ?_
    rintro e w3 ⟨A3, C3, rfl, hrow3, hu3⟩
    rw [HB1.out] at hrow3 ⊢
    rw [show ([1, 2] : List Int).length = 2 from rfl]
    have HC3 := Lib.hid (HC2.out.quiet hu3)
    have HR3 := Lib.hid hrow3
    clear hrow3 hu3
    go_wp2_with fail
    refine (same20 _ _ [1, 2] [1, 2] _ ((Ints.of_row HR3.out).upd0 ((Upd.refl _ _).alloc _)) (ints_lit w3 2 [1, 2] 2 rfl (by decide)) (by decide) (by decide)).mono ?_
    rintro e w4 ⟨rfl, hu4⟩
    rw [decide_eq_true rfl]
    have HC4 := Lib.hid (HC3.out.quiet (((Upd.refl _ _).alloc _).trans hu4))
    clear hu4
    go_wp2_with fail
    refine (bucketH W w4 b 0 _ _ HC4.out (by rw [HBI.out]; omega) (by decide)).mono ?_
    rintro e w5 ⟨A5, C5, rfl, hrow5, hu5⟩
    rw [HB0.out] at hrow5 ⊢
    rw [show ([3] : List Int).length = 1 from rfl]
    have HC5 := Lib.hid (HC4.out.quiet hu5)
    have HR5 := Lib.hid hrow5
    clear hrow5 hu5
    go_wp2_with fail
    refine (same20 _ _ [3] [3] _ ((Ints.of_row HR5.out).upd0 ((Upd.refl _ _).alloc _)) (ints_lit w5 2 [3] 1 rfl (by decide)) (by decide) (by decide)).mono ?_
    rintro e w6 ⟨rfl, hu6⟩
    rw [decide_eq_true rfl]
    have HC6 := Lib.hid (HC5.out.quiet (((Upd.refl _ _).alloc _).trans hu6))
    clear hu6
    go_wp2_with fail
    refine (levelsH W w6 b _ _ HC6.out).mono ?_
    rintro e w' ⟨rfl, rfl⟩
    rw [HBI.out]
    go_wp2_with fail
    go_ret
    exact ⟨rfl, HUU.out.trans' HC6.out.upd (fun x hx => .inr (by simp at hx; omega))⟩
end Go.Proofs.Ytkhgglafnjfiaaa
