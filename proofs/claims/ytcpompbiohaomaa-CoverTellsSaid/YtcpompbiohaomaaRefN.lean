/- The document's nodes over leaves: Nodes, within, apart, Entered, parent, Canon. -/
import Derived.Test.YtcpompbiohaomaaKn
import Derived.Test.YtcpompbiohaomaaChangeC
import Derived.Test.YtcpompbiohaomaaCovE
namespace Go.Proofs.Ytcpompbiohaomaa
open Go.RowKit

theorem KD.at {w : World} {A : Option Addr} {n C : Nat} {l : List Nd} (h : See KD w (.slice A n C) l) {k : Nat} {x : Nd} (hx : l[k]? = some x) :
    ∃ b o, A = some ⟨b, o, none⟩ ∧ n ≤ C ∧ C ≤ maxLen ∧ w.cell? ⟨b, o + k * 7, none⟩ = some (.int .u8 x.k) ∧ w.cell? ⟨b, o + k * 7 + 1, none⟩ = some (.int .i64 x.l) ∧ w.cell? ⟨b, o + k * 7 + 2, none⟩ = some (.int .i64 x.r) ∧
      w.cell? ⟨b, o + k * 7 + 3, none⟩ = some (.int .i64 x.fr) ∧ w.cell? ⟨b, o + k * 7 + 4, none⟩ = some (.int .i64 x.to) ∧ w.cell? ⟨b, o + k * 7 + 5, none⟩ = some (.int .i64 x.at_) ∧ w.cell? ⟨b, o + k * 7 + 6, none⟩ = some (.int .i64 x.it) := by
  obtain ⟨b, o, h1, h2, h3, h4⟩ := h.at hx
  exact ⟨b, o, h1, h2, h3, h4 0 _ rfl, h4 1 _ rfl, h4 2 _ rfl, h4 3 _ rfl, h4 4 _ rfl, h4 5 _ rfl, h4 6 _ rfl⟩

def RNPost (w : World) (L : List Nd) (e : Ending) (w' : World) : Prop :=
  ∃ A C, e = .returned (.slice A L.length C) ∧ KD.row w' w.heap.size (.slice A L.length C) L ∧ Upd [] w w'

set_option maxRecDepth 100000 in
set_option maxHeartbeats 4000000 in
theorem rnodes_none (f t o : Nat) (w : World) (h : t ≤ f) (hf : f < 100000) : Calls Try.prog 66 #[.int .i64 (f : Int), .int .i64 (t : Int), .int .i64 (o : Int)] w fun e w' => e = .returned (.slice none 0 0) ∧ w = w' := by
  have d : decide ((t : Int) - (f : Int) < 1) = true := decide_eq_true (by omega)
  have b0 : (0 : Int) ≤ (f : Int) := Int.natCast_nonneg _
  have b1 : (f : Int) < 100000 := by omega
  have b2 : (0 : Int) ≤ (t : Int) := Int.natCast_nonneg _
  have b3 : (t : Int) < 100000 := by omega
  clear h hf
  go_enter Try.func66, Try.ntmps66
  go_wp2_with fail
  go_ret
  exact ⟨rfl, rfl⟩

set_option maxRecDepth 100000 in
set_option maxHeartbeats 4000000 in
theorem rnodes_leaf (f o : Nat) (w : World) (hf : f < 100000) : Calls Try.prog 66 #[.int .i64 (f : Int), .int .i64 ((f + 1 : Nat) : Int), .int .i64 (o : Int)] w (RNPost w [⟨1, -1, -1, f, (f + 1 : Nat), 0, f⟩]) := by
  obtain ⟨t, ht⟩ : ∃ t, f + 1 = t := ⟨_, rfl⟩
  rw [ht]
  have d : decide ((t : Int) - (f : Int) < 1) = false := decide_eq_false (by omega)
  have d2 : ((t : Int) - (f : Int) == 1) = true := by rw [beq_iff_eq]; omega
  have b0 : (0 : Int) ≤ (f : Int) := Int.natCast_nonneg _
  have b1 : (f : Int) < 100000 := by omega
  have b2 : (0 : Int) ≤ (t : Int) := Int.natCast_nonneg _
  have b3 : (t : Int) < 100001 := by omega
  clear ht hf
  go_enter Try.func66, Try.ntmps66
  go_wp2_with fail
  go_ret
  refine ⟨_, _, rfl, ?_, (Upd.refl _ _).alloc _⟩
  exact World.ownsRow_lit (e := 82) (size := 7) (base := w.heap.size) w #[.int .u8 1, .int .i64 (-1), .int .i64 (-1), .int .i64 (f : Int), .int .i64 (t : Int), .int .i64 0, .int .i64 (f : Int)] 1 (Nat.le_refl _) (by decide) rfl

set_option maxRecDepth 100000 in
set_option maxHeartbeats 4000000 in
theorem rnodes_node (f t o m : Nat) (w : World) (hm : mid f t = m) (hft : f + 1 < t) (ht : t < 100000) (ho : o < 1000000)
    (ih : ∀ (f' t' o' : Nat) (w : World), f' < t' → t' - f' < t - f → t' < 100000 → o' + 2 * (t' - f') ≤ o + 2 * (t - f) → Calls Try.prog 66 #[.int .i64 (f' : Int), .int .i64 (t' : Int), .int .i64 (o' : Int)] w (RNPost w (nodesL f' t' o'))) (ho2 : o + 2 * (t - f) < 1000000) :
    Calls Try.prog 66 #[.int .i64 (f : Int), .int .i64 (t : Int), .int .i64 (o : Int)] w (RNPost w (nodesL f t o)) := by
  obtain ⟨i0, hi, hz0, hz1, hz2⟩ := info_parts info_nd
  have hmi := mid_in hft
  have hnl := nodesL_node o hft
  rw [hm] at hmi hnl
  have d : decide ((t : Int) - (f : Int) < 1) = false := decide_eq_false (by omega)
  have d2 : ((t : Int) - (f : Int) == 1) = false := by rw [beq_eq_false_iff_ne]; omega
  have b0 : (0 : Int) ≤ (f : Int) := Int.natCast_nonneg _
  have b1 : (f : Int) < 100000 := by omega
  have b2 : (0 : Int) ≤ (t : Int) := Int.natCast_nonneg _
  have b3 : (t : Int) < 100001 := by omega
  have b4 : (0 : Int) ≤ (o : Int) := Int.natCast_nonneg _
  have b5 : (o : Int) < 1000000 := by omega
  have hv : Value.int .i64 (wrap64 ((f : Int) + ((t : Int) - (f : Int) + 1).tdiv 2)) = Value.int .i64 (m : Int) := by
    congr 1
    rw [Int.tdiv_eq_ediv_of_nonneg (by omega), IntWalk.wrap64_in _ (by omega), ← hm]
    unfold mid; omega
  obtain ⟨L1, hL1⟩ : ∃ L, nodesL f m o = L := ⟨_, rfl⟩
  obtain ⟨n1, hn1⟩ : ∃ n, L1.length = n := ⟨_, rfl⟩
  have e1 : n1 = 2 * (m - f) - 1 := by rw [← hn1, ← hL1, nodesL_length o hmi.1]
  obtain ⟨L2, hL2⟩ : ∃ L, nodesL m t (o + n1) = L := ⟨_, rfl⟩
  obtain ⟨n2, hn2⟩ : ∃ n, L2.length = n := ⟨_, rfl⟩
  have e2 : n2 = 2 * (t - m) - 1 := by rw [← hn2, ← hL2, nodesL_length _ hmi.2]
  have ih1 := fun w => ih f m o w hmi.1 (by omega) (by omega) (by omega)
  have ih2 := fun w => ih m t (o + n1) w hmi.2 (by omega) ht (by omega)
  rw [hL1] at ih1
  rw [hL2] at ih2
  simp only [Int.natCast_add] at ih2
  unfold RNPost at ih1 ih2
  rw [hn1] at ih1
  rw [hn2] at ih2
  have hend0 : nodesL f t o = (L1 ++ L2) ++ [⟨2, ((o + n1 - 1 : Nat) : Int), ((o + (n1 + n2) - 1 : Nat) : Int), f, t, 0, 0⟩] := by
    rw [hnl, hL1, show o + 2 * (m - f) - 1 = o + n1 by omega, hL2, show o + 2 * (m - f) - 2 = o + n1 - 1 by omega, show o + n1 + 2 * (t - m) - 2 = o + (n1 + n2) - 1 by omega, List.append_assoc]
  have hend := hend0
  have n1p : 0 < n1 := by omega
  have n2p : 0 < n2 := by omega
  have n1b : n1 < 200000 := by omega
  have n2b : n2 < 200000 := by omega
  have H1 := Lib.hid ih1
  have H2 := Lib.hid ih2
  have NB := Lib.hid (And.intro n1p (And.intro n2p (And.intro n1b n2b)))
  obtain ⟨N, hNN⟩ : ∃ N, n1 + n2 = N := ⟨_, rfl⟩
  have q0 : (0 : Int) ≤ (n1 : Int) := Int.natCast_nonneg _
  have q1 : (n1 : Int) < 200000 := by omega
  have q2 : (0 : Int) < (N : Int) := by omega
  have q3 : (N : Int) < 400000 := by omega
  rw [hNN] at hend
  rw [hend]
  have HNN := Lib.hid hNN
  have HV := Lib.hid hv
  have HN := Lib.hid (And.intro hn1 hn2)
  have hx1 : Value.int .i64 ((o : Int) + (n1 : Int) - 1) = Value.int .i64 ((o + n1 - 1 : Nat) : Int) := by congr 1; omega
  have hx2 : Value.int .i64 ((o : Int) + (N : Int) - 1) = Value.int .i64 ((o + N - 1 : Nat) : Int) := by congr 1; omega
  have HX := Lib.hid (And.intro hx1 hx2)
  clear hend0 hNN n1p n2p n1b n2b ih ih1 ih2 hm hft ho2 hmi hnl hv hL1 hL2 hn1 hn2 e1 e2 hend hx1 hx2 ht ho
  go_enter Try.func66, Try.ntmps66
  go_upto_region 6 with fail
  rw [HV.out]
  go_wp2_with fail
  (with_reducible refine (H1.out _).mono ?_)
  rintro e w1 ⟨A1, C1, rfl, hr1, hu1⟩
  have HR1 := Lib.hid (And.intro hr1 hu1)
  clear hr1 hu1
  go_wp2_with fail
  (with_reducible refine (H2.out _).mono ?_)
  rintro e w2 ⟨A2, C2, rfl, hr2, hu2⟩
  have hr1 : w2.ownsRow w.heap.size 82 7 (.slice A1 n1 C1) n1 (KD.all L1) := by
    have h := own_upd HR1.out.1 hu2 (by simp)
    unfold Kind.row at h
    rw [HN.out.1] at h
    exact h
  have hs2 : Sees w2 7 (.slice A2 n2 C2) n2 (KD.all L2) := by
    have h := sees_of_own hr2
    rw [HN.out.2] at h
    exact h
  have HR := Lib.hid (And.intro hr1 (And.intro hs2 (HR1.out.2.trans hu2)))
  clear hr1 hs2 hr2 hu2 HR1
  go_wp2_with (at_builtin; refine wpList_app _ rfl _ _ 64 rfl w.heap.size 82 i0 (.agg #[.int .u8 0, .int .i64 0, .int .i64 0, .int .i64 0, .int .i64 0, .int .i64 0, .int .i64 0]) 7 56 Try.underlying64 hi hz0 hz1 hz2 rfl (by decide) _ n1 (KD.all L1) rfl HR.out.1 _ n2 (KD.all L2) rfl HR.out.2.1 (KD.all_one _) (by have := NB.out; unfold maxLen; omega) (by have := NB.out; omega) HR.out.2.2.size ?_)
  intro A3 C3 w3 HP
  have hu3 : Upd [] w w3 := HR.out.2.2.trans' HP.upd (fun k hk => .inr (own_ge HR.out.1 k hk))
  have ho3 := HP.own
  rw [HNN.out] at ho3 ⊢
  have HQ := Lib.hid (And.intro ho3 hu3)
  clear HP hu3 ho3
  clear d d2 b0 b1 b2 b3
  have x1 : wrap64 ((o : Int) + (n1 : Int)) = (o : Int) + (n1 : Int) := IntWalk.wrap64_in _ (by omega)
  have x2 : wrap64 ((o : Int) + (n1 : Int) - 1) = (o : Int) + (n1 : Int) - 1 := IntWalk.wrap64_in _ (by omega)
  have x3 : wrap64 ((o : Int) + (N : Int)) = (o : Int) + (N : Int) := IntWalk.wrap64_in _ (by omega)
  have x4 : wrap64 ((o : Int) + (N : Int) - 1) = (o : Int) + (N : Int) - 1 := IntWalk.wrap64_in _ (by omega)
  have QB := Lib.hid (And.intro q3 b5)
  clear b4 b5 q0 q1 q2 q3
  go_upto_region 9 with fail
  go_wp2_with (at_builtin; refine wpList_app _ rfl _ _ 64 rfl w.heap.size 82 i0 (.agg #[.int .u8 0, .int .i64 0, .int .i64 0, .int .i64 0, .int .i64 0, .int .i64 0, .int .i64 0]) 7 56 Try.underlying64 hi hz0 hz1 hz2 rfl (by decide) _ N (KD.all L1 ++ KD.all L2) rfl (own_upd HQ.out.1 ((Upd.refl [] w3).alloc _) (by simp)) _ 1 [.int .u8 2, .int .i64 ((o : Int) + (n1 : Int) - 1), .int .i64 ((o : Int) + (N : Int) - 1), .int .i64 (f : Int), .int .i64 (t : Int), .int .i64 0, .int .i64 0] rfl (sees_lit w3 #[.int .u8 2, .int .i64 ((o : Int) + (n1 : Int) - 1), .int .i64 ((o : Int) + (N : Int) - 1), .int .i64 (f : Int), .int .i64 (t : Int), .int .i64 0, .int .i64 0] 82 7 1 rfl (by decide)) (by simp [Value.oneCell']) (by have := QB.out; unfold maxLen; omega) (by have := QB.out; omega) (by have := HQ.out.2.size; simp; omega) ?_)
  intro A4 C4 w4 HP
  have hu4 : Upd [] w w4 := (HQ.out.2.alloc _).trans' HP.upd (fun k hk => .inr (own_ge HQ.out.1 k hk))
  have ho4 := HP.own
  rw [HX.out.1, HX.out.2] at ho4
  have HQ4 := Lib.hid (And.intro ho4 hu4)
  clear HP hu4 ho4
  go_wp2_with fail
  go_ret
  have hlen : (L1 ++ L2 ++ [(⟨2, ((o + n1 - 1 : Nat) : Int), ((o + N - 1 : Nat) : Int), f, t, 0, 0⟩ : Nd)]).length = N + 1 := by
    rw [List.length_append, List.length_append, HN.out.1, HN.out.2, HNN.out]; rfl
  refine ⟨A4, C4, by rw [hlen]; rfl, ?_, HQ4.out.2⟩
  unfold Kind.row
  rw [hlen, Kind.all_app, Kind.all_app]
  exact HQ4.out.1

theorem rnodesC : ∀ (d f t o : Nat) (w : World), t - f ≤ d → f < t → t < 100000 → o + 2 * (t - f) < 1000000 →
    Calls Try.prog 66 #[.int .i64 (f : Int), .int .i64 (t : Int), .int .i64 (o : Int)] w (RNPost w (nodesL f t o)) := by
  intro d
  induction d with
  | zero => intro f t o w hd hf; omega
  | succ d ih =>
    intro f t o w hd hf ht ho
    by_cases h : f + 1 < t
    · refine rnodes_node f t o _ w rfl h ht (by omega) (fun f' t' o' w h1 h2 h3 h4 => ?_) ho
      exact ih f' t' o' w (by omega) h1 h3 (by omega)
    · have : t = f + 1 := by omega
      subst this
      rw [nodesL_leaf o h]
      exact rnodes_leaf f o w (by omega)
end Go.Proofs.Ytcpompbiohaomaa
