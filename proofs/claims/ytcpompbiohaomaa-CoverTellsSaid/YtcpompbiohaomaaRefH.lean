/- The document's cover: place, entered, Add. -/
import Derived.Test.YtcpompbiohaomaaRefC
import Derived.Test.YtcpompbiohaomaaCovD
namespace Go.Proofs.Ytcpompbiohaomaa
open Go.RowKit

def KH : Kind (Nat × Nat) := { T := 0, sT := 33, eT := 71, sz := 2, enc := fun x => [.int .i64 (x.1 : Int), .int .i64 (x.2 : Int)], len := fun _ => rfl, one := fun x u hu => by simp at hu; rcases hu with rfl | rfl <;> rfl }

theorem KH.at {w : World} {A : Option Addr} {n C : Nat} {l : List (Nat × Nat)} (h : See KH w (.slice A n C) l) {k : Nat} {x : Nat × Nat} (hx : l[k]? = some x) :
    ∃ b o, A = some ⟨b, o, none⟩ ∧ n ≤ C ∧ C ≤ maxLen ∧ w.cell? ⟨b, o + k * 2, none⟩ = some (.int .i64 (x.1 : Int)) ∧ w.cell? ⟨b, o + k * 2 + 1, none⟩ = some (.int .i64 (x.2 : Int)) := by
  obtain ⟨b, o, h1, h2, h3, h4⟩ := h.at hx
  exact ⟨b, o, h1, h2, h3, h4 0 _ rfl, h4 1 _ rfl⟩

theorem kh_info : (Try.prog.info? 71).map (fun i => (i.zero, i.size, i.bytes)) = some (some (.agg #[.int .i64 0, .int .i64 0]), 2, 16) := by kernel_rfl

/-- The document's cover at block r: its marks M, what is held H. -/
structure RcAt (w : World) (r : Nat) (mv hv : Value) (M : List Int) (H : List (Nat × Nat)) : Prop where
  head : w.heap[r]? = some (.cells #[mv, hv] 35 (0, 0))
  marks : See KL w mv M
  held : KH.row w 0 hv H
  self : r ∉ blk hv
  away : 0 < M.length → ∀ k ∈ blk mv, k ≠ r ∧ k ∉ blk hv

theorem RcAt.cells {w : World} {r : Nat} {mv hv : Value} {M : List Int} {H : List (Nat × Nat)} (h : RcAt w r mv hv M H) : w.cell? ⟨r, 0, none⟩ = some mv ∧ w.cell? ⟨r, 1, none⟩ = some hv ∧ ∀ j, w.frozen? ⟨r, j, none⟩ = false := by
  have h' := h.head
  refine ⟨?_, ?_, fun j => ?_⟩ <;> simp [World.cell?, World.frozen?, h']

theorem RcAt.upd {w w' : World} {r : Nat} {mv hv : Value} {M : List Int} {H : List (Nat × Nat)} (h : RcAt w r mv hv M H) {F : List Nat} (hu : Upd F w w') (h1 : r ∉ F) (h2 : ∀ k ∈ blk hv, k ∉ F) (h3 : 0 < M.length → ∀ k ∈ blk mv, k ∉ F) : RcAt w' r mv hv M H :=
  ⟨(hu.block r (lt_of_block h.head) h1).trans h.head, h.marks.upd hu (fun h0 k hk _ => h3 h0 k hk), own_upd h.held hu h2, h.self, h.away⟩

theorem RcAt.upd0 {w w' : World} {r : Nat} {mv hv : Value} {M : List Int} {H : List (Nat × Nat)} (h : RcAt w r mv hv M H) (hu : Upd [] w w') : RcAt w' r mv hv M H := h.upd hu (by simp) (by simp) (by simp)

theorem see_lt {w : World} {v : Value} {M : List Int} (h : See KL w v M) (h0 : 0 < M.length) : ∀ k ∈ blk v, k < w.heap.size := by
  intro k hk
  obtain ⟨A, C, rfl⟩ := h.form
  obtain ⟨b, o, rfl, -, -, hc⟩ := KL.at h (List.getElem?_eq_getElem h0)
  simp [blk] at hk
  subst hk
  exact World.block_lt_of_cell? _ _ hc

/-- Another list is held. -/
theorem RcAt.put {w : World} {r : Nat} {mv hv hv' : Value} {M : List Int} {H H' : List (Nat × Nat)} (h : RcAt w r mv hv M H) {base : Nat} (hr : KH.row w base hv' H') (h1 : r ∉ blk hv') (h2 : 0 < M.length → ∀ k ∈ blk mv, k ∉ blk hv') : RcAt (w.setCell ⟨r, 1, none⟩ hv') r mv hv' M H' :=
  ⟨heap_set h.head 1 hv', h.marks.upd ((Upd.refl [r] w).setCell (.inl (by simp)) _) (fun h0 k hk _ => by simp; exact (h.away h0 k hk).1),
    own_upd (own_base hr (Nat.zero_le _)) ((Upd.refl [r] w).setCell (.inl (by simp)) _) (fun k hk hc => h1 (by simp at hc; rw [← hc]; exact hk)), h1, fun h0 k hk => ⟨(h.away h0 k hk).1, h2 h0 k hk⟩⟩

def placeZ (M : List Int) (x : Int) : Int := if x ∈ M then (below M x : Int) else -1

set_option maxRecDepth 100000 in
set_option maxHeartbeats 2000000 in
theorem rplaceC (r : Nat) (mv hv : Value) (M : List Int) (H : List (Nat × Nat)) (x : Int) (w : World) (h : RcAt w r mv hv M H) (hM : M.Pairwise (· < ·)) (hl : M.length < 100000) :
    Calls Try.prog 40 #[.pointer (some ⟨r, 0, none⟩), .int .i64 x] w fun e w' => e = .returned (.int .i64 (placeZ M x)) ∧ w' = w := by
  obtain ⟨Am, Cm, rfl⟩ := h.marks.form
  obtain ⟨n, hn⟩ : ∃ n, M.length = n := ⟨_, rfl⟩
  obtain ⟨p0, -, -⟩ := h.cells
  have hm := h.marks
  rw [hn] at p0 hm hl
  have HM := Lib.hid hm
  have HN := Lib.hid (And.intro hn hM)
  have n1 : (n : Int) < 100000 := by omega
  clear h hn hM hm hl
  go_enter Try.func40, Try.ntmps40
  go_wp2_with fail
  go_loopg [5] n (fun m s5 wr => ∃ i, m + i = n ∧ s5 = .int .i64 (i : Int) ∧ (∀ j y, j < i → M[j]? = some y → y ≠ x) ∧ wr = w)
  case atStart => exact ⟨0, rfl, rfl, fun j y hj => by omega, rfl⟩
  case round =>
    obtain ⟨i, hi, rfl, hno, rfl⟩ := hrel
    have HI := Lib.hid hi
    have HNO := Lib.hid hno
    have i0 : (0 : Int) ≤ (i : Int) := Int.natCast_nonneg _
    clear hno
    by_cases hlt : i < n
    · obtain ⟨y, hy⟩ : ∃ y, M[i]? = some y := ⟨_, List.getElem?_eq_getElem (by rw [HN.out.1]; exact hlt)⟩
      obtain ⟨g, q, hA, -, -, c0⟩ := KL.at HM.out hy
      subst hA
      have i1 : (i : Int) < (n : Int) := by omega
      have HY := Lib.hid hy
      clear hy hi
      by_cases h1 : y = x
      · have d1 : (y == x) = true := by rw [beq_iff_eq]; exact h1
        have HYX := Lib.hid h1
        clear h1
        go_wp2_with fail
        go_ret
        have hz : placeZ M x = (i : Int) := by
          have hmem : x ∈ M := by rw [← HYX.out]; exact List.mem_of_getElem? HY.out
          unfold placeZ
          rw [if_pos hmem]
          have h2 := (mem_below HN.out.2 x).1 hmem
          have h3 := HY.out
          rw [HYX.out] at h3
          obtain ⟨l2, e2⟩ := List.getElem?_eq_some_iff.1 h2
          obtain ⟨l3, e3⟩ := List.getElem?_eq_some_iff.1 h3
          have h4 := fun a b ha hb hab => List.pairwise_iff_getElem.1 HN.out.2 a b ha hb hab
          rcases Nat.lt_trichotomy (below M x) i with h5 | h5 | h5
          · have := h4 _ _ l2 l3 h5; omega
          · rw [h5]
          · have := h4 _ _ l3 l2 h5; omega
        exact ⟨by rw [hz]; rfl, rfl⟩
      · have d1 : (y == x) = false := by rw [beq_eq_false_iff_ne]; exact h1
        have HYX := Lib.hid h1
        clear h1
        go_wp2_with fail
        go_roundg (n - (i + 1))
        case measure => have := HI.out; omega
        case rel =>
          refine ⟨i + 1, by have := HI.out; omega, by go_num, fun j z hj hz => ?_, rfl⟩
          rcases Nat.lt_or_ge j i with h3 | h3
          · exact HNO.out j z h3 hz
          · have : j = i := by omega
            rw [this, HY.out] at hz
            cases hz
            exact HYX.out
    · have hd : decide ((i : Int) < (n : Int)) = false := decide_eq_false (by omega)
      have HIN := Lib.hid (show i = n by omega)
      clear hi
      go_wp2_with fail
      go_ret
      have hz : placeZ M x = -1 := by
        unfold placeZ
        rw [if_neg fun hm => ?_]
        obtain ⟨j, hj⟩ := List.mem_iff_getElem?.1 hm
        have hjl := (List.getElem?_eq_some_iff.1 hj).1
        exact HNO.out j x (by rw [HIN.out, ← HN.out.1]; exact hjl) hj rfl
      exact ⟨by rw [hz]; rfl, rfl⟩

def REntPost (w : World) (E : Nat) (e : Ending) (w' : World) : Prop := e = .returned (.int .i64 (E : Int)) ∧ Upd [] w w'

theorem rcanonC (v : Value) (N a b : Nat) (hN : N < 1000) (hab : a ≤ b) (hb : b ≤ N) (w : World) (hs : See KD w v (nodesN N)) :
    Calls Try.prog 65 #[v, .int .i64 (a : Int), .int .i64 (b : Int)] w (CanPost w (entN (a, b) N)) := by
  unfold entN
  dsimp only
  by_cases h : a = b
  · rw [if_pos h]
    exact canon_none v a b h w
  · rw [if_neg h]
    have hN0 : 0 < N := by omega
    have e : nodesN N = nodesL 0 N 0 := by unfold nodesN; rw [if_neg (by omega)]
    rw [e] at hs
    exact canon_some v _ N a b _ rfl rfl hN0 hN (by omega) hb w hs

/-- All nodes over n leaves. -/
theorem rnodes_all (n : Nat) (hn : n < 1000) (w : World) : Calls Try.prog 66 #[.int .i64 0, .int .i64 (n : Int), .int .i64 0] w fun e w' =>
    ∃ A C, e = .returned (.slice A (nodesN n).length C) ∧ See KD w' (.slice A (nodesN n).length C) (nodesN n) ∧ Upd [] w w' := by
  by_cases h : n = 0
  · subst h
    have := rnodes_none 0 0 0 w (Nat.le_refl _) (by omega)
    refine Calls.mono (this : Calls _ _ #[.int .i64 0, .int .i64 ((0 : Nat) : Int), .int .i64 0] w _) ?_
    rintro e w' ⟨rfl, rfl⟩
    exact ⟨none, 0, rfl, ⟨rfl, .inl ⟨rfl, rfl⟩⟩, Upd.refl _ _⟩
  · have := rnodesC n 0 n 0 w (by omega) (by omega) (by omega) (by omega)
    refine Calls.mono (this : Calls _ _ #[.int .i64 0, .int .i64 (n : Int), .int .i64 0] w _) ?_
    rintro e w' ⟨A, C, rfl, hr, hu⟩
    have e2 : nodesN n = nodesL 0 n 0 := by unfold nodesN; rw [if_neg h]
    rw [e2]
    exact ⟨A, C, rfl, See.of_row hr, hu⟩

set_option maxRecDepth 100000 in
set_option maxHeartbeats 2000000 in
theorem renteredC (r : Nat) (mv hv : Value) (M : List Int) (H : List (Nat × Nat)) (a b : Nat) (w : World) (h : RcAt w r mv hv M H) (hl : M.length < 1000) (hab : a ≤ b) (hb : b < M.length) :
    Calls Try.prog 41 #[.pointer (some ⟨r, 0, none⟩), .int .i64 (a : Int), .int .i64 (b : Int)] w (REntPost w (entN (a, b) (M.length - 1))) := by
  obtain ⟨Am, Cm, rfl⟩ := h.marks.form
  obtain ⟨n, hn⟩ : ∃ n, M.length = n := ⟨_, rfl⟩
  obtain ⟨p0, -, -⟩ := h.cells
  rw [hn] at p0 hl hb ⊢
  have hv1 : Value.int .i64 ((n : Int) - 1) = Value.int .i64 ((n - 1 : Nat) : Int) := by congr 1; omega
  have hno := fun w => rnodes_all (n - 1) (by omega) w
  have hca := fun A C w => rcanonC (.slice A (nodesN (n - 1)).length C) (n - 1) a b (by omega) hab (by omega) w
  obtain ⟨E, hE⟩ : ∃ E, entN (a, b) (n - 1) = E := ⟨_, rfl⟩
  rw [hE] at hca ⊢
  have HV := Lib.hid hv1
  have HNO := Lib.hid hno
  have HCA := Lib.hid hca
  have n0 : (0 : Int) < (n : Int) := by omega
  have n1 : (n : Int) < 1000 := by omega
  clear h hn hl hv1 hno hca hE hab hb
  go_enter Try.func41, Try.ntmps41
  go_wp2_with fail
  rw [HV.out]
  (with_reducible refine (HNO.out _).mono ?_)
  rintro e w1 ⟨A1, C1, rfl, hs1, hu1⟩
  have HC1 := Lib.hid (HCA.out A1 C1 w1 hs1)
  have HU1 := Lib.hid hu1
  clear hs1 hu1
  go_wp2_with fail
  (with_reducible refine HC1.out.mono ?_)
  rintro e w2 ⟨v, rfl, hu2⟩
  have HU2 := Lib.hid (HU1.out.trans hu2)
  clear hu2
  go_wp2_with fail
  go_ret
  exact ⟨rfl, HU2.out⟩
end Go.Proofs.Ytcpompbiohaomaa
