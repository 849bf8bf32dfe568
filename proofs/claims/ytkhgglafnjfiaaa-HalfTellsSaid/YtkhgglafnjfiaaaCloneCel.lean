/- slices.Clone at []int64: a new row that holds the same. -/
import Derived.Test.YtkhgglafnjfiaaaRows
import Derived.Test.YtkhgglafnjfiaaaCarryB
namespace Go.Proofs.Ytkhgglafnjfiaaa.Cel
open Go.RowKit

/-- These things. -/
def KI : Kind (Int × Nat) := { T := 113, sT := 100, eT := 99, sz := 2, enc := fun x => [.int .i64 x.1, .int .i64 x.2], len := fun _ => rfl, one := fun x u hu => by simp at hu; rcases hu with rfl | rfl <;> rfl }

theorem info_int64 : (Try.prog.info? 99).map (fun i => (i.zero, i.size, i.bytes)) = some (some (.agg #[.int .i64 0, .int .i64 0]), 2, 16) := by kernel_rfl

set_option maxRecDepth 100000 in
set_option maxHeartbeats 400000 in
theorem clone_int64 (s : Value) (n : Nat) (xs : List Value) (w : World) (hs : Sees w 2 s n xs) (h1 : ∀ u ∈ xs, u.oneCell' = true) (hb : n * 16 ≤ 140737488355328) :
    Calls Try.prog 76 #[s] w fun e w' => ∃ A C, e = .returned (.slice A n C) ∧ w'.ownsRow w.heap.size 99 2 (.slice A n C) n xs ∧ Below w.heap.size w w' := by
  obtain ⟨i0, hi, hz0, hz1, hz2⟩ := info_parts info_int64
  have HS := Lib.hid hs
  have H1 := Lib.hid h1; clear h1
  have HB := Lib.hid hb; clear hb
  rcases hs.2 with ⟨rfl, rfl⟩ | ⟨b, o, sp, cap, rfl, _⟩
  · clear hs
    have he := fun w => Lib.run_eql_slice_nil (P := Try.prog) (w := w) 100 99 none 0 0 0 0 Try.underlying100
    go_enter Try.func76, Try.ntmps76
    go_wp2
    go_ret
    have hx : xs = [] := List.eq_nil_of_length_eq_zero (by simpa using HS.out.1)
    subst hx
    exact ⟨_, _, rfl, World.ownsRow_nil _ _ _ _, Below.refl _ _⟩
  · clear hs
    have he := fun w => Lib.run_eql_slice_nil (P := Try.prog) (w := w) 100 99 (some ⟨b, o, sp⟩) n cap 0 0 Try.underlying100
    go_enter Try.func76, Try.ntmps76
    go_wp2_with (at_builtin; refine wpList_app _ rfl _ _ 100 rfl w.heap.size 99 i0 (.agg #[.int .i64 0, .int .i64 0]) 2 16 Try.underlying100 hi hz0 hz1 hz2 rfl (by decide) _ 0 [] rfl (World.ownsRow_made w #[] 0 (Nat.le_refl _) (by decide) rfl) _ n xs rfl (sees_upd HS.out ((Upd.refl [] w).alloc _) (by simp)) H1.out (by have := HB.out; unfold maxLen; omega) (by have := HB.out; omega) (by simp) ?_)
    intro A C w1 HP
    have HU := HP.upd
    have hb1 : Below w.heap.size w w1 := (((Upd.refl [] w).alloc _).trans' HU (fun k hk => by simp [blk] at hk; omega)).below
    have hown : w1.ownsRow w.heap.size 99 2 (.slice A n C) n xs := by simpa using HP.own
    clear he
    go_wp2
    go_ret
    exact ⟨_, _, rfl, hown, hb1⟩
end Go.Proofs.Ytkhgglafnjfiaaa.Cel
