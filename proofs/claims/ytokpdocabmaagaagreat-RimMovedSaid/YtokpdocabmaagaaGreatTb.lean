/- Three rows of boxes, apart. -/
import Derived.Test.YtokpdocabmaagaaGreatTurns
namespace Go.Proofs.YtokpdocabmaagaaGreat
open Go.RowKit

theorem info_bx : (Tryz.prog.info? 34).map (fun i => (i.zero, i.size, i.bytes)) = some (some (.agg #[.int .i64 0, .int .i64 0, .int .i64 0, .int .i64 0, .int .u32 0]), 5, 40) := by kernel_rfl

structure Tb (B : Nat) (w : World) (av : Value) (a : List Bx) (bv : Value) (b : List Bx) (cv : Value) (c : List Bx) : Prop where
  ra : KBx.row w B av a
  rb : KBx.row w B bv b
  rc : KBx.row w B cv c
  ab : ∀ k ∈ blk av, k ∉ blk bv
  ac : ∀ k ∈ blk av, k ∉ blk cv
  bc : ∀ k ∈ blk bv, k ∉ blk cv

theorem Tb.rot {B : Nat} {w : World} {av bv cv : Value} {a b c : List Bx} (h : Tb B w av a bv b cv c) : Tb B w bv b cv c av a :=
  ⟨h.rb, h.rc, h.ra, h.bc, fun k h1 h2 => h.ab k h2 h1, fun k h1 h2 => h.ac k h2 h1⟩

theorem Tb.upd0 {B : Nat} {w w' : World} {av bv cv : Value} {a b c : List Bx} (h : Tb B w av a bv b cv c) (hu : Upd [] w w') : Tb B w' av a bv b cv c :=
  ⟨own_upd h.ra hu (by simp), own_upd h.rb hu (by simp), own_upd h.rc hu (by simp), h.ab, h.ac, h.bc⟩

theorem Tb.none (B : Nat) (w : World) : Tb B w (.slice none 0 0) [] (.slice none 0 0) [] (.slice none 0 0) [] :=
  ⟨World.ownsRow_nil _ _ _ _, World.ownsRow_nil _ _ _ _, World.ownsRow_nil _ _ _ _, by simp [blk], by simp [blk], by simp [blk]⟩

theorem Tb.push {B : Nat} {w0 w1 : World} {av bv cv : Value} {a b c : List Bx} {x : Bx} {A : Option Addr} {C : Nat} (h : Tb B w0 av a bv b cv c)
    (HP : AppPost w0 w1 B 34 5 av a.length (KBx.all a) 1 (KBx.enc x) A C) : Tb B w1 (.slice A (a.length + 1) C) (a ++ [x]) bv b cv c := by
  have u := HP.upd
  refine ⟨?_, own_upd h.rb u (fun j hj hc => h.ab j hc hj), own_upd h.rc u (fun j hj hc => h.ac j hc hj), ?_, ?_, h.bc⟩
  · have := HP.own
    unfold Kind.row
    rw [Kind.all_app, List.length_append]
    exact this
  · exact apart_of HP (u := bv) (own_lt h.rb) h.ab
  · exact apart_of HP (u := cv) (own_lt h.rc) h.ac
end Go.Proofs.YtokpdocabmaagaaGreat
