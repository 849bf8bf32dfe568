/- frame.lay: the nodes over some leaves are put. -/
import Derived.Test.YthkiljfjjnckaaaPoolC
import Derived.Test.YthkiljfjjnckaaaPost
namespace Go.Proofs.Ythkiljfjjnckaaa
open Go.RowKit Go.Shelf
attribute [local go_sem ↓] Go.wp_at_zero Go.wp_at_succ

/-- The node over the leaves f to t, at a place. -/
def ndG (f t at_ : Nat) : Nd := if f + 1 < t then ⟨2, ((at_ - 2 * (t - mid f t) : Nat) : Int), ((at_ - 1 : Nat) : Int), f, t, 0, 0⟩ else ⟨1, -1, -1, f, t, 0, f⟩

/-- The nodes over the leaves f to t, from place o on. -/
def nodesL (f t o : Nat) : List Nd := postL (fun f t _ _ at_ => ndG f t at_) f t 0 0 o

theorem postL_par {α : Type} (g : Nat → Nat → Nat → α) : ∀ (d f t pf pt pf' pt' o : Nat), t - f ≤ d → f < t → postL (fun f t _ _ a => g f t a) f t pf pt o = postL (fun f t _ _ a => g f t a) f t pf' pt' o := by
  intro d f t pf pt pf' pt' o hd hf
  by_cases h : f + 1 < t
  · rw [postL_node _ pf pt o h, postL_node _ pf' pt' o h]
  · rw [postL_leaf _ pf pt o h, postL_leaf _ pf' pt' o h]

theorem nodesL_node {f t : Nat} (o : Nat) (h : f + 1 < t) : nodesL f t o = nodesL f (mid f t) o ++ (nodesL (mid f t) t (o + 2 * (mid f t - f) - 1) ++ [⟨2, ((o + 2 * (mid f t - f) - 2 : Nat) : Int), ((o + 2 * (mid f t - f) - 1 + 2 * (t - mid f t) - 2 : Nat) : Int), f, t, 0, 0⟩]) := by
  have hm := mid_in h
  unfold nodesL
  rw [postL_node _ 0 0 o h, postL_par (fun f t a => ndG f t a) (t - f) f (mid f t) f t 0 0 o (by omega) (by omega), postL_par (fun f t a => ndG f t a) (t - f) (mid f t) t f t 0 0 _ (by omega) (by omega)]
  have e : o + 2 * (t - f) - 2 - 2 * (t - mid f t) = o + 2 * (mid f t - f) - 2 := by omega
  have e' : o + 2 * (t - f) - 2 - 1 = o + 2 * (mid f t - f) - 1 + 2 * (t - mid f t) - 2 := by omega
  have e2 : ndG f t (o + 2 * (t - f) - 2) = ⟨2, ((o + 2 * (mid f t - f) - 2 : Nat) : Int), ((o + 2 * (mid f t - f) - 1 + 2 * (t - mid f t) - 2 : Nat) : Int), f, t, 0, 0⟩ := by
    unfold ndG
    rw [if_pos h, e, e']
  rw [e2]

theorem nodesL_leaf {f t : Nat} (o : Nat) (h : ¬ f + 1 < t) : nodesL f t o = [⟨1, -1, -1, f, t, 0, f⟩] := by
  unfold nodesL
  rw [postL_leaf _ 0 0 o h]
  unfold ndG
  rw [if_neg h]

theorem nodesL_length {f t : Nat} (o : Nat) (h : f < t) : (nodesL f t o).length = 2 * (t - f) - 1 := postL_length _ 0 0 o h

theorem PoolAt.lt {w : World} {b : Nat} {most : Int} {vn vk : Value} {ns : List Nd} {ks : List Bool} (h : PoolAt w b most vn vk ns ks) : ∀ y ∈ b :: (blk vn ++ blk vk), y < w.heap.size := by
  intro y hy
  rcases List.mem_cons.1 hy with rfl | hy
  · exact lt_of_block h.head
  · rcases List.mem_append.1 hy with hy | hy
    · exact own_lt h.nodes y hy
    · exact own_lt h.kids y hy

theorem PoolAt.upd {w w' : World} {b : Nat} {most : Int} {vn vk : Value} {ns : List Nd} {ks : List Bool} (h : PoolAt w b most vn vk ns ks) {F : List Nat} (hu : Upd F w w') (hd : ∀ y ∈ b :: (blk vn ++ blk vk), y ∉ F) : PoolAt w' b most vn vk ns ks :=
  ⟨(hu.block b (lt_of_block h.head) (hd b (by simp))).trans h.head, own_upd h.nodes hu (fun y hy => hd y (by simp [hy])), own_upd h.kids hu (fun y hy => hd y (by simp [hy])), h.len, h.bn, h.bk, h.nk⟩

/-- What lay leaves: the nodes more, the last of them at place n. -/
def LayPost (w : World) (b : Nat) (most : Int) (vn vk : Value) (ns : List Nd) (ks : List Bool) (n : Nat) (e : Ending) (w' : World) : Prop :=
  e = .returned (.int .i64 (n : Int)) ∧ ∃ vn' vk', PoolAt w' b most vn' vk' ns ks ∧ Upd (b :: (blk vn ++ blk vk)) w w' ∧ (∀ y ∈ blk vn' ++ blk vk', y ∈ blk vn ++ blk vk ∨ w.heap.size ≤ y)

theorem kids_set (ks : List Bool) (a b : Nat) : (((ks ++ (List.replicate a true ++ [false])) ++ (List.replicate b true ++ [false])).set (ks.length + a) true).set (ks.length + a + 1 + b) true = ks ++ List.replicate (a + 1 + b + 1) true := by
  apply List.ext_getElem?
  intro i
  rw [List.getElem?_set, List.getElem?_set]
  simp only [List.length_set, List.length_append, List.length_replicate, List.length_singleton]
  by_cases h1 : ks.length + a + 1 + b = i
  · rw [if_pos h1, if_pos (by omega), List.getElem?_append_right (by omega), List.getElem?_replicate, if_pos (by omega)]
  · rw [if_neg h1]
    by_cases h2 : ks.length + a = i
    · rw [if_pos h2, if_pos (by omega), List.getElem?_append_right (by omega), List.getElem?_replicate, if_pos (by omega)]
    · rw [if_neg h2, List.append_assoc]
      rcases Nat.lt_or_ge i ks.length with h3 | h3
      · rw [List.getElem?_append_left h3, List.getElem?_append_left h3]
      · rw [List.getElem?_append_right h3, List.getElem?_append_right h3]
        rcases Nat.lt_or_ge (i - ks.length) a with h4 | h4
        · rw [List.append_assoc, List.getElem?_append_left (by simpa using h4), List.getElem?_replicate, List.getElem?_replicate, if_pos h4, if_pos (by omega)]
        · rw [List.append_assoc, List.getElem?_append_right (by simpa using h4), List.length_replicate, List.getElem?_append_right (by simp; omega), List.length_singleton]
          rcases Nat.lt_or_ge (i - ks.length - a - 1) b with h5 | h5
          · rw [List.getElem?_append_left (by simpa using h5), List.getElem?_replicate, List.getElem?_replicate, if_pos h5, if_pos (by omega)]
          · rw [List.getElem?_append_right (by simpa using h5), List.length_replicate, List.getElem?_replicate, if_neg (by omega), List.getElem?_eq_none (by simp; omega)]

theorem kids_get (ks : List Bool) (a b : Nat) : ((ks ++ (List.replicate a true ++ [false])) ++ (List.replicate b true ++ [false]))[ks.length + a]? = some false ∧ ((ks ++ (List.replicate a true ++ [false])) ++ (List.replicate b true ++ [false]))[ks.length + a + 1 + b]? = some false := by
  constructor
  · rw [List.getElem?_append_left (by simp), List.getElem?_append_right (by omega), List.getElem?_append_right (by simp)]
    simp
  · rw [List.getElem?_append_right (by simp; omega), List.getElem?_append_right (by simp; omega)]
    have e : ks.length + a + 1 + b - (ks ++ (List.replicate a true ++ [false])).length - (List.replicate b true).length = 0 := by simp; omega
    rw [e]
    rfl

theorem seven_cells {w : World} {n : Nat} {x0 x1 x2 x3 x4 x5 x6 : Value} {T : TypeId} (h : w.heap[n]? = some (.cells #[x0, x1, x2, x3, x4, x5, x6] T (0, 0))) :
    (w.cell? ⟨n, 0, none⟩ = some x0 ∧ w.cell? ⟨n, 1, none⟩ = some x1 ∧ w.cell? ⟨n, 2, none⟩ = some x2 ∧ w.cell? ⟨n, 3, none⟩ = some x3 ∧ w.cell? ⟨n, 4, none⟩ = some x4 ∧ w.cell? ⟨n, 5, none⟩ = some x5 ∧ w.cell? ⟨n, 6, none⟩ = some x6) ∧ ∀ j, w.frozen? ⟨n, j, none⟩ = false := by
  refine ⟨⟨?_, ?_, ?_, ?_, ?_, ?_, ?_⟩, ?_⟩ <;> simp [World.cell?, World.frozen?, h]

set_option maxRecDepth 100000 in
set_option maxHeartbeats 2000000 in
theorem lay_leaf (f b : Nat) (most : Nat) (vn vk : Value) (ns : List Nd) (ks : List Bool) (w : World) (hf : f < 1000000) (h : PoolAt w b most vn vk ns ks) (hmost : ns.length < most) (hn : ns.length < 1000000) :
    Calls Try.prog 108 #[.pointer (some ⟨b, 0, none⟩), .int .i64 (f : Int), .int .i64 ((f + 1 : Nat) : Int)] w (LayPost w b most vn vk (ns ++ [⟨1, -1, -1, f, (f + 1 : Nat), 0, f⟩]) (ks ++ [false]) ns.length) := by
  obtain ⟨t, ht⟩ : ∃ t, f + 1 = t := ⟨_, rfl⟩
  rw [ht]
  have HT := Lib.hid ht
  have b0 : (0 : Int) ≤ (f : Int) := Int.natCast_nonneg _
  have b1 : (f : Int) < 1000000 := by omega
  have b2 : (0 : Int) ≤ (t : Int) := Int.natCast_nonneg _
  have b3 : (t : Int) ≤ 1000000 := by omega
  have hd : decide ((1 : Int) < (t : Int) - (f : Int)) = false := decide_eq_false (by omega)
  clear ht
  have hbl := h.len
  have hu0 : Upd [] w (w.alloc (.cells #[.int .u8 1, .int .i64 (-1), .int .i64 (-1), .int .i64 (f : Int), .int .i64 (t : Int), .int .i64 0, .int .i64 (f : Int)] 106)) := (Upd.refl _ _).alloc _
  have hp := poolPut ⟨1, -1, -1, f, t, 0, f⟩ b most vn vk ns ks ks _ (h.upd hu0 (by simp)) (mayPut_leaf f t 0 f ks (by omega)) rfl hmost hn
  have HP := Lib.hid hp
  have HU0 := Lib.hid hu0
  clear hp hu0 h hbl
  unfold ndV at HP
  dsimp only at HP
  go_enter Try.func108, Try.ntmps108
  go_wp2_with fail
  (with_reducible refine HP.out.mono ?_)
  rintro e w' ⟨rfl, vn', vk', r1, r2, r3⟩
  have HR := Lib.hid (And.intro r1 (And.intro ((HU0.out.mono (by simp)).trans r2) r3))
  clear r1 r2 r3
  go_wp2_with fail
  go_ret
  obtain ⟨r1, r2, r3⟩ := HR.out
  refine ⟨rfl, vn', vk', r1, r2, fun y hy => ?_⟩
  rcases r3 y hy with h | h
  · exact .inl h
  · have := HU0.out.size; exact .inr (by omega)

set_option maxRecDepth 100000 in
set_option maxHeartbeats 4000000 in
theorem lay_node (f t m b : Nat) (most : Nat) (vn vk : Value) (ns : List Nd) (ks : List Bool) (w : World) (hm : mid f t = m) (ht : t < 1000000) (hft : f + 1 < t) (h : PoolAt w b most vn vk ns ks) (hmost : ns.length + 2 * (t - f) ≤ most + 1) (hn : ns.length + 2 * (t - f) < 1000000)
    (ih : ∀ (f' t' : Nat) (vn vk : Value) (ns : List Nd) (ks : List Bool) (w : World), f' < t' → t' - f' < t - f → t' < 1000000 → PoolAt w b most vn vk ns ks → ns.length + 2 * (t' - f') ≤ most + 1 → ns.length + 2 * (t' - f') < 1000000 →
      Calls Try.prog 108 #[.pointer (some ⟨b, 0, none⟩), .int .i64 (f' : Int), .int .i64 (t' : Int)] w (LayPost w b most vn vk (ns ++ nodesL f' t' ns.length) (ks ++ (List.replicate (2 * (t' - f') - 2) true ++ [false])) (ns.length + 2 * (t' - f') - 2))) :
    Calls Try.prog 108 #[.pointer (some ⟨b, 0, none⟩), .int .i64 (f : Int), .int .i64 (t : Int)] w (LayPost w b most vn vk (ns ++ nodesL f t ns.length) (ks ++ (List.replicate (2 * (t - f) - 2) true ++ [false])) (ns.length + 2 * (t - f) - 2)) := by
  have hmi := mid_in hft
  have hnl := nodesL_node ns.length hft
  rw [hm] at hmi hnl
  have hbl := h.len
  have hbw := lt_of_block h.head
  have b0 : (0 : Int) ≤ (f : Int) := Int.natCast_nonneg _
  have b1 : (f : Int) < 1000000 := by omega
  have b2 : (0 : Int) ≤ (t : Int) := Int.natCast_nonneg _
  have b3 : (t : Int) ≤ 1000000 := by omega
  have hd : decide ((1 : Int) < (t : Int) - (f : Int)) = true := decide_eq_true (by omega)
  have hv : Value.int .i64 ((t : Int) - ((t : Int) - (f : Int)) / 2) = Value.int .i64 (m : Int) := by
    congr 1
    rw [← hm]; unfold mid; omega
  have hu0 : Upd [] w (w.alloc (.cells #[.int .u8 2, .int .i64 (-1), .int .i64 (-1), .int .i64 (f : Int), .int .i64 (t : Int), .int .i64 0, .int .i64 0] 106)) := (Upd.refl _ _).alloc _
  obtain ⟨L, hL⟩ : ∃ L, ns.length + 2 * (m - f) - 2 = L := ⟨_, rfl⟩
  obtain ⟨R, hR⟩ : ∃ R, ns.length + 2 * (m - f) - 1 + 2 * (t - m) - 2 = R := ⟨_, rfl⟩
  obtain ⟨N1, hN1⟩ : ∃ N1, nodesL f m ns.length = N1 := ⟨_, rfl⟩
  have hl1 : (ns ++ N1).length = ns.length + 2 * (m - f) - 1 := by rw [List.length_append, ← hN1, nodesL_length _ hmi.1]; omega
  obtain ⟨N2, hN2⟩ : ∃ N2, nodesL m t (ns ++ N1).length = N2 := ⟨_, rfl⟩
  have hl2 : ((ns ++ N1) ++ N2).length = ns.length + 2 * (t - f) - 2 := by rw [List.length_append, hl1, ← hN2, nodesL_length _ hmi.2]; omega
  have hp := ih f m vn vk ns ks _ hmi.1 (by omega) (by omega) (h.upd hu0 (by simp)) (by omega) (by omega)
  rw [hL, hN1] at hp
  have hih : ∀ (vn vk : Value) (w : World), PoolAt w b most vn vk (ns ++ N1) (ks ++ (List.replicate (2 * (m - f) - 2) true ++ [false])) →
      Calls Try.prog 108 #[.pointer (some ⟨b, 0, none⟩), .int .i64 (m : Int), .int .i64 (t : Int)] w (LayPost w b most vn vk ((ns ++ N1) ++ N2) ((ks ++ (List.replicate (2 * (m - f) - 2) true ++ [false])) ++ (List.replicate (2 * (t - m) - 2) true ++ [false])) R) := fun vn vk w hq => by
    have := ih m t vn vk (ns ++ N1) _ w hmi.2 (by omega) (by omega) hq (by omega) (by omega)
    rw [hN2, hl1, hR] at this
    exact this
  have hend : ns ++ nodesL f t ns.length = ((ns ++ N1) ++ N2) ++ [⟨2, (L : Int), (R : Int), f, t, 0, 0⟩] := by
    rw [hl1] at hN2
    rw [hnl, hN1, hN2, hL, hR]
    simp
  have hks := kids_set ks (2 * (m - f) - 2) (2 * (t - m) - 2)
  have hkg := kids_get ks (2 * (m - f) - 2) (2 * (t - m) - 2)
  have eL : ks.length + (2 * (m - f) - 2) = L := by omega
  have eR : ks.length + (2 * (m - f) - 2) + 1 + (2 * (t - m) - 2) = R := by omega
  have eK : 2 * (m - f) - 2 + 1 + (2 * (t - m) - 2) + 1 = 2 * (t - f) - 2 := by omega
  rw [eR, eL, eK] at hks
  rw [eR, eL] at hkg
  have hmay : MayPut ⟨2, (L : Int), (R : Int), f, t, 0, 0⟩ ((ks ++ (List.replicate (2 * (m - f) - 2) true ++ [false])) ++ (List.replicate (2 * (t - m) - 2) true ++ [false])) (ks ++ List.replicate (2 * (t - f) - 2) true) := by
    rw [← hks]
    exact mayPut_both L R f t 0 0 _ (by simp; omega) hkg.1 hkg.2 (by omega)
  have hput : ∀ (vn vk : Value) (w : World), PoolAt w b most vn vk ((ns ++ N1) ++ N2) ((ks ++ (List.replicate (2 * (m - f) - 2) true ++ [false])) ++ (List.replicate (2 * (t - m) - 2) true ++ [false])) →
      Calls Try.prog 131 #[.pointer (some ⟨b, 0, none⟩), .agg #[.int .u8 2, .int .i64 (L : Int), .int .i64 (R : Int), .int .i64 (f : Int), .int .i64 (t : Int), .int .i64 0, .int .i64 0]] w (PutPost w b most vn vk (ns ++ nodesL f t ns.length) (ks ++ (List.replicate (2 * (t - f) - 2) true ++ [false])) (ns.length + 2 * (t - f) - 2)) := fun vn vk w hq => by
    have := poolPut ⟨2, (L : Int), (R : Int), f, t, 0, 0⟩ b most vn vk _ _ _ w hq hmay (by simp; omega) (by omega) (by omega)
    rw [← hend, hl2, List.append_assoc] at this
    exact this
  have hhn : (w.alloc (.cells #[.int .u8 2, .int .i64 (-1), .int .i64 (-1), .int .i64 (f : Int), .int .i64 (t : Int), .int .i64 0, .int .i64 0] 106)).heap[w.heap.size]? = some (.cells #[.int .u8 2, .int .i64 (-1), .int .i64 (-1), .int .i64 (f : Int), .int .i64 (t : Int), .int .i64 0, .int .i64 0] 106 (0, 0)) := heap_alloc_new w _
  obtain ⟨at_, hat⟩ : ∃ a, ns.length + 2 * (t - f) - 2 = a := ⟨_, rfl⟩
  rw [hat] at hput ⊢
  have HP := Lib.hid hp
  have HU0 := Lib.hid hu0
  have HIH := Lib.hid hih
  have HPUT := Lib.hid hput
  have HLT := Lib.hid h.lt
  have HV := Lib.hid hv
  have HHN := Lib.hid hhn
  clear hp hu0 h ih hih hnl hbl hm hmi hv hL hR hN1 hN2 hl1 hl2 hend hks hkg eL eR eK hmay hput hhn hat
  go_enter Try.func108, Try.ntmps108
  go_upto_region 5 with fail
  rw [HV.out]
  go_wp2_with fail
  (with_reducible refine HP.out.mono ?_)
  rintro e w1 ⟨rfl, vn1, vk1, r1, r2, r3⟩
  have hn1 : w.heap.size ∉ b :: (blk vn ++ blk vk) := fun hc => Nat.lt_irrefl _ (HLT.out _ hc)
  have hh1 := (r2.block w.heap.size (by simp) hn1).trans HHN.out
  obtain ⟨⟨_, c1, _⟩, cf⟩ := seven_cells hh1
  have f1 := cf 1
  have hs1 : w.heap.size < w1.heap.size := by have := r2.size; simp at this; omega
  have hn2 : w.heap.size ∉ b :: (blk vn1 ++ blk vk1) := fun hc => by
    rcases List.mem_cons.1 hc with h1 | h1
    · omega
    · rcases r3 _ h1 with h2 | h2
      · exact hn1 (List.mem_cons_of_mem _ h2)
      · simp at h2; omega
  have hp2 : PoolAt (w1.setCell ⟨w.heap.size, 1, none⟩ (.int .i64 (L : Int))) b most vn1 vk1 (ns ++ N1) (ks ++ (List.replicate (2 * (m - f) - 2) true ++ [false])) :=
    r1.upd ((Upd.refl [w.heap.size] w1).setCell (.inl (by simp)) _) (fun y hy hc => hn2 (by simp at hc; rw [← hc]; exact hy))
  have hh2 : (w1.setCell ⟨w.heap.size, 1, none⟩ (.int .i64 (L : Int))).heap[w.heap.size]? = some (.cells #[.int .u8 2, .int .i64 (L : Int), .int .i64 (-1), .int .i64 (f : Int), .int .i64 (t : Int), .int .i64 0, .int .i64 0] 106 (0, 0)) := heap_set hh1 1 _
  have HC2 := Lib.hid (HIH.out _ _ _ hp2)
  have HN2 := Lib.hid (And.intro hn1 hn2)
  have HH2 := Lib.hid hh2
  have HR1 := Lib.hid (And.intro r1 (And.intro r2 r3))
  clear r1 r2 r3 hh1 cf hn1 hn2 hp2 hh2
  go_wp2_with fail
  (with_reducible refine HC2.out.mono ?_)
  rintro e w2 ⟨rfl, vn2, vk2, r1, r2, r3⟩
  have hh3 := (r2.block w.heap.size (by simpa [World.setCell] using hs1) HN2.out.2).trans HH2.out
  obtain ⟨⟨_, _, c2, _⟩, cf⟩ := seven_cells hh3
  have f2 := cf 2
  have hs2 : w.heap.size < w2.heap.size := by have := r2.size; simp [World.setCell] at this; omega
  have hn3 : w.heap.size ∉ b :: (blk vn2 ++ blk vk2) := fun hc => by
    rcases List.mem_cons.1 hc with h1 | h1
    · omega
    · rcases r3 _ h1 with h2 | h2
      · exact HN2.out.2 (List.mem_cons_of_mem _ h2)
      · simp [World.setCell] at h2; omega
  have hp3 := r1.upd ((Upd.refl [w.heap.size] w2).setCell (p := ⟨w.heap.size, 2, none⟩) (.inl (by simp)) (.int .i64 (R : Int))) (fun y hy hc => hn3 (by simp at hc; rw [← hc]; exact hy))
  have hh4 : (w2.setCell ⟨w.heap.size, 2, none⟩ (.int .i64 (R : Int))).heap[w.heap.size]? = some (.cells #[.int .u8 2, .int .i64 (L : Int), .int .i64 (R : Int), .int .i64 (f : Int), .int .i64 (t : Int), .int .i64 0, .int .i64 0] 106 (0, 0)) := heap_set hh3 2 _
  obtain ⟨⟨d0, d1, d2, d3, d4, d5, d6⟩, _⟩ := seven_cells hh4
  have HC3 := Lib.hid (HPUT.out _ _ _ hp3)
  have HR2 := Lib.hid (And.intro r1 (And.intro r2 r3))
  have HN3 := Lib.hid hn3
  clear r1 r2 r3 hh3 cf hn3 hp3 hh4
  go_wp2_with fail
  (with_reducible refine HC3.out.mono ?_)
  rintro e w3 ⟨rfl, vn3, vk3, r1, r2, r3⟩
  have HR3 := Lib.hid (And.intro r1 (And.intro r2 r3))
  clear r1 r2 r3
  go_wp2_with fail
  go_ret
  obtain ⟨p1, q1, s1⟩ := HR1.out
  obtain ⟨p2, q2, s2⟩ := HR2.out
  obtain ⟨p3, q3, s3⟩ := HR3.out
  have t1 : ∀ y ∈ b :: (blk vn1 ++ blk vk1), y ∈ b :: (blk vn ++ blk vk) ∨ w.heap.size ≤ y := fun y hy => by
    rcases List.mem_cons.1 hy with h | h
    · exact .inl (by simp [h])
    · rcases s1 y h with h | h
      · exact .inl (List.mem_cons_of_mem _ h)
      · exact .inr (by simp at h; omega)
  have t2 : ∀ y ∈ b :: (blk vn2 ++ blk vk2), y ∈ b :: (blk vn ++ blk vk) ∨ w.heap.size ≤ y := fun y hy => by
    rcases List.mem_cons.1 hy with h | h
    · exact .inl (by simp [h])
    · rcases s2 y h with h | h
      · exact t1 y (List.mem_cons_of_mem _ h)
      · exact .inr (by simp [World.setCell] at h; omega)
  have u1 : Upd (b :: (blk vn ++ blk vk)) w w1 := (HU0.out.mono (by simp)).trans q1
  have u3 := (u1.setCell (p := ⟨w.heap.size, 1, none⟩) (.inr (Nat.le_refl _)) (.int .i64 (L : Int))).trans' q2 t1
  have u5 := (u3.setCell (p := ⟨w.heap.size, 2, none⟩) (.inr (Nat.le_refl _)) (.int .i64 (R : Int))).trans' q3 t2
  refine ⟨rfl, vn3, vk3, p3, u5, fun y hy => ?_⟩
  rcases s3 y hy with h | h
  · rcases t2 y (List.mem_cons_of_mem _ h) with g | g
    · rcases List.mem_cons.1 g with g | g
      · rw [g] at hy
        rcases List.mem_append.1 hy with g2 | g2
        · exact (p3.bn g2).elim
        · exact (p3.bk g2).elim
      · exact .inl g
    · exact .inr g
  · exact .inr (by simp [World.setCell] at h; omega)

/-- frame.lay. -/
theorem layC (b : Nat) (most : Nat) : ∀ (d f t : Nat) (vn vk : Value) (ns : List Nd) (ks : List Bool) (w : World), t - f ≤ d → f < t → t < 1000000 → PoolAt w b most vn vk ns ks → ns.length + 2 * (t - f) ≤ most + 1 → ns.length + 2 * (t - f) < 1000000 →
    Calls Try.prog 108 #[.pointer (some ⟨b, 0, none⟩), .int .i64 (f : Int), .int .i64 (t : Int)] w (LayPost w b most vn vk (ns ++ nodesL f t ns.length) (ks ++ (List.replicate (2 * (t - f) - 2) true ++ [false])) (ns.length + 2 * (t - f) - 2)) := by
  intro d
  induction d with
  | zero => intro f t vn vk ns ks w hd hf; omega
  | succ d ih =>
    intro f t vn vk ns ks w hd hf ht h hm hn
    by_cases hft : f + 1 < t
    · exact lay_node f t _ b most vn vk ns ks w rfl ht hft h hm hn fun f' t' vn vk ns ks w h1 h2 h3 h4 h5 h6 => ih f' t' vn vk ns ks w (by omega) h1 h3 h4 h5 h6
    · obtain rfl : t = f + 1 := by omega
      have e : f + 1 - f = 1 := by omega
      have := lay_leaf f b most vn vk ns ks w (by omega) h (by omega) (by omega)
      rw [nodesL_leaf _ hft, e]
      simpa using this
end Go.Proofs.Ythkiljfjjnckaaa
