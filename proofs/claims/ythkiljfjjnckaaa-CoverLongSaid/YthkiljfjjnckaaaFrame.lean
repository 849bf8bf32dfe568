/- frame: New, Root, the nodes that are made once. -/
import Derived.Test.YthkiljfjjnckaaaLay
import Derived.Test.YthkiljfjjnckaaaOnce
namespace Go.Proofs.Ythkiljfjjnckaaa
open Go.RowKit Go.Shelf

set_option maxRecDepth 100000 in
set_option maxHeartbeats 400000 in
theorem poolNewC (n : Nat) (hn : n < 10000000) (w : World) :
    Calls Try.prog 107 #[.int .i64 (n : Int)] w fun e w' => e = .returned (.tuple #[.pointer (some ⟨w.heap.size, 0, none⟩), .int .i64 0]) ∧ w' = w.alloc (.cells #[.int .i64 (n : Int), .slice none 0 0, .slice none 0 0, .bool true] 189) := by
  have h1 : decide ((n : Int) < 0) = false := decide_eq_false (by omega)
  have h2 : decide ((68719476736 : Int) < (n : Int)) = false := decide_eq_false (by omega)
  go_enter Try.func107, Try.ntmps107
  go_wp2_with fail
  go_ret2
  exact ⟨rfl, rfl⟩

set_option maxRecDepth 100000 in
set_option maxHeartbeats 400000 in
theorem cloneNd (s : Value) (n : Nat) (xs : List Value) (w : World) (hs : Sees w 7 s n xs) (h1 : ∀ u ∈ xs, u.oneCell' = true) (hb : n * 56 ≤ 140737488355328) :
    Calls Try.prog 132 #[s] w fun e w' => ∃ A C, e = .returned (.slice A n C) ∧ w'.ownsRow w.heap.size 106 7 (.slice A n C) n xs ∧ Below w.heap.size w w' := by
  obtain ⟨i0, hi, hz0, hz1, hz2⟩ := info_parts info_nd
  have HS := Lib.hid hs
  have H1 := Lib.hid h1; clear h1
  have HB := Lib.hid hb; clear hb
  rcases hs.2 with ⟨rfl, rfl⟩ | ⟨b, o, sp, cap, rfl, _⟩
  · clear hs
    have he := fun w => Lib.run_eql_slice_nil (P := Try.prog) (w := w) 47 106 none 0 0 0 0 Try.underlying47
    go_enter Try.func132, Try.ntmps132
    go_wp2
    go_ret
    have hx : xs = [] := List.eq_nil_of_length_eq_zero (by simpa using HS.out.1)
    subst hx
    exact ⟨_, _, rfl, World.ownsRow_nil _ _ _ _, Below.refl _ _⟩
  · clear hs
    have he := fun w => Lib.run_eql_slice_nil (P := Try.prog) (w := w) 47 106 (some ⟨b, o, sp⟩) n cap 0 0 Try.underlying47
    go_enter Try.func132, Try.ntmps132
    go_wp2_with (at_builtin; refine wpList_app _ rfl _ _ 47 rfl w.heap.size 106 i0 (.agg #[.int .u8 0, .int .i64 0, .int .i64 0, .int .i64 0, .int .i64 0, .int .i64 0, .int .i64 0]) 7 56 Try.underlying47 hi hz0 hz1 hz2 rfl (by decide) _ 0 [] rfl (World.ownsRow_made w #[] 0 (Nat.le_refl _) (by decide) rfl) _ n xs rfl (sees_upd HS.out ((Upd.refl [] w).alloc _) (by simp)) H1.out (by have := HB.out; unfold maxLen; omega) (by have := HB.out; omega) (by simp) ?_)
    intro A C w1 HP
    have HU := HP.upd
    have hb1 : Below w.heap.size w w1 := (((Upd.refl [] w).alloc _).trans' HU (fun k hk => by simp [blk] at hk; omega)).below
    have hown : w1.ownsRow w.heap.size 106 7 (.slice A n C) n xs := by simpa using HP.own
    clear he
    go_wp2
    go_ret
    exact ⟨_, _, rfl, hown, hb1⟩

set_option maxRecDepth 100000 in
set_option maxHeartbeats 400000 in
theorem poolNodesC (b : Nat) (most : Int) (vn vk : Value) (ns : List Nd) (ks : List Bool) (w : World) (h : PoolAt w b most vn vk ns ks) (hn : ns.length < 10000000) :
    Calls Try.prog 109 #[.pointer (some ⟨b, 0, none⟩)] w fun e w' => ∃ A C, e = .returned (.slice A ns.length C) ∧ KD.row w' w.heap.size (.slice A ns.length C) ns ∧ Below w.heap.size w w' := by
  obtain ⟨An, Cn, rfl⟩ := own_form h.nodes
  have c1 : w.cell? ⟨b, 1, none⟩ = some (.slice An ns.length Cn) := by simp [World.cell?, h.head]
  have hc := cloneNd _ ns.length (KD.all ns) w (sees_of_own h.nodes) (KD.all_one ns) (by omega)
  have HC := Lib.hid hc
  clear hc h
  go_enter Try.func109, Try.ntmps109
  go_wp2_with fail
  (with_reducible refine HC.out.mono ?_)
  rintro e w' ⟨A, C, rfl, h1, h2⟩
  have HH := Lib.hid (And.intro h1 h2)
  clear h1 h2
  go_wp2_with fail
  go_ret
  exact ⟨A, C, rfl, HH.out.1, HH.out.2⟩

/-- A frame that was made, its nodes not yet. -/
def FrameAt (w : World) (b n : Nat) : Prop := w.heap[b]? = some (.cells #[.int .u32 0, .int .i32 0, .int .u32 0, .slice none 0 0, .int .i64 (n : Int), .bool true] 143 (0, 0))

set_option maxRecDepth 100000 in
set_option maxHeartbeats 400000 in
theorem frameNewC (n : Nat) (hn : n < 1000000) (w : World) :
    Calls Try.prog 51 #[.int .i64 (n : Int)] w fun e w' => e = .returned (.tuple #[.pointer (some ⟨w.heap.size, 0, none⟩), .int .i64 0]) ∧ w' = w.alloc (.cells #[.int .u32 0, .int .i32 0, .int .u32 0, .slice none 0 0, .int .i64 (n : Int), .bool true] 143) := by
  have h1 : decide ((n : Int) < 0) = false := decide_eq_false (by omega)
  have h2 : decide ((17179869184 : Int) < (n : Int)) = false := decide_eq_false (by omega)
  go_enter Try.func51, Try.ntmps51
  go_wp2_with fail
  go_ret2
  exact ⟨rfl, rfl⟩

set_option maxRecDepth 100000 in
set_option maxHeartbeats 400000 in
theorem frameNone (b n : Nat) (w : World) (h : FrameAt w b n) :
    Calls Try.prog 84 #[.pointer (some ⟨b, 0, none⟩)] w fun e w' => e = .returned (.bool false) ∧ w = w' := by
  have c5 : w.cell? ⟨b, 5, none⟩ = some (.bool true) := by unfold FrameAt at h; simp [World.cell?, h]
  clear h
  go_enter Try.func84, Try.ntmps84
  go_wp2_with fail
  go_ret
  exact ⟨rfl, rfl⟩

set_option maxRecDepth 100000 in
set_option maxHeartbeats 400000 in
theorem frameLeaves (b n : Nat) (w : World) (h : FrameAt w b n) :
    Calls Try.prog 83 #[.pointer (some ⟨b, 0, none⟩)] w fun e w' => e = .returned (.int .i64 (n : Int)) ∧ w = w' := by
  have c4 : w.cell? ⟨b, 4, none⟩ = some (.int .i64 (n : Int)) := by unfold FrameAt at h; simp [World.cell?, h]
  have HN := Lib.hid (frameNone b n w h)
  clear h
  go_enter Try.func83, Try.ntmps83
  go_wp2_with fail
  (with_reducible refine HN.out.mono ?_)
  rintro e w' ⟨rfl, rfl⟩
  go_wp2_with fail
  go_ret
  exact ⟨rfl, rfl⟩

/-- The root's place. -/
def rootI (n : Nat) : Int := if n = 0 then -1 else ((2 * n - 2 : Nat) : Int)

set_option maxRecDepth 100000 in
set_option maxHeartbeats 400000 in
theorem frameRoot (b n : Nat) (w : World) (hn : n < 1000000) (h : FrameAt w b n) :
    Calls Try.prog 53 #[.pointer (some ⟨b, 0, none⟩)] w fun e w' => e = .returned (.int .i64 (rootI n)) ∧ w = w' := by
  have c4 : w.cell? ⟨b, 4, none⟩ = some (.int .i64 (n : Int)) := by unfold FrameAt at h; simp [World.cell?, h]
  have HN := Lib.hid (frameLeaves b n w h)
  clear h
  rcases Nat.eq_zero_or_pos n with rfl | h0
  · go_enter Try.func53, Try.ntmps53
    go_wp2_with fail
    (with_reducible refine HN.out.mono ?_)
    rintro e w' ⟨rfl, rfl⟩
    go_wp2_with fail
    go_ret
    exact ⟨rfl, rfl⟩
  · have hd : ((n : Int) == 0) = false := by simp; omega
    have b0 : (0 : Int) ≤ (n : Int) := Int.natCast_nonneg _
    have b1 : (n : Int) < 1000000 := by omega
    have hr : rootI n = 2 * (n : Int) - 2 := by unfold rootI; rw [if_neg (by omega)]; omega
    have HRR := Lib.hid hr
    clear hr
    go_enter Try.func53, Try.ntmps53
    go_wp2_with fail
    (with_reducible refine HN.out.mono ?_)
    rintro e w' ⟨rfl, rfl⟩
    go_wp2_with fail
    go_ret
    exact ⟨by rw [HRR.out]; rfl, rfl⟩
end Go.Proofs.Ythkiljfjjnckaaa
