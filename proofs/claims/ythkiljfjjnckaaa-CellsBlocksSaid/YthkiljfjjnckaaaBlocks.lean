/- cells.Blocks: the lines, and which blocks are covered. -/
import Derived.Test.YthkiljfjjnckaaaLines
import Derived.Test.YthkiljfjjnckaaaLits
import Derived.Deep.LoopGhost
import Derived.Deep.DeepCutAuto
import Derived.Deep.CutBlock
namespace Go.Proofs.Ythkiljfjjnckaaa
open Go.RowKit

/-- The line of a number. -/
def nth (l : List Int) (i : Nat) : Int := l[i]?.getD 0

theorem nth_get {l : List Int} {i : Nat} (h : i < l.length) : l[i]? = some (nth l i) := by
  unfold nth
  rw [List.getElem?_eq_getElem h]; rfl

/-- The blocks of column i that are covered. -/
def colB (l : List Bx) (X Y : List Int) (i : Nat) : List Bool := rowL (Y.length - 1) fun k => covB l (nth X i) (nth Y k)
def colsB (l : List Bx) (X Y : List Int) : List (List Bool) := (List.range (X.length - 1)).map (colB l X Y)

theorem colsB_len (l : List Bx) (X Y : List Int) : (colsB l X Y).length = X.length - 1 := by simp [colsB]
theorem colsB_get {l : List Bx} {X Y : List Int} {i : Nat} (h : i < X.length - 1) : (colsB l X Y)[i]? = some (colB l X Y i) := by
  unfold colsB; rw [List.getElem?_map, List.getElem?_range h]; rfl
theorem colsB_take {l : List Bx} {X Y : List Int} {i : Nat} (h : i < X.length - 1) : (colsB l X Y).take (i + 1) = (colsB l X Y).take i ++ [colB l X Y i] := by
  rw [List.take_add_one, colsB_get h]; rfl

/-- A list of rows of truths, seen. -/
def SeeRows (w : World) (v : Value) (ll : List (List Bool)) : Prop :=
  ∃ vs : List Value, Sees w 1 v ll.length vs ∧ ∀ (i : Nat) (u : Value) (l : List Bool), vs[i]? = some u → ll[i]? = some l → See KB w u l

theorem SeeRows.upd0 {w w' : World} {v : Value} {ll : List (List Bool)} (h : SeeRows w v ll) (hu : Upd [] w w') : SeeRows w' v ll := by
  obtain ⟨vs, h1, h2⟩ := h
  exact ⟨vs, sees_upd h1 hu (by simp), fun i u l hv hl => (h2 i u l hv hl).upd0 hu⟩

theorem SeeRows.form {w : World} {v : Value} {ll : List (List Bool)} (h : SeeRows w v ll) : ∃ A C, v = .slice A ll.length C := by
  obtain ⟨vs, h1, -⟩ := h
  exact sees_form h1

theorem SeeRows.at {w : World} {A : Option Addr} {n C : Nat} {ll : List (List Bool)} (h : SeeRows w (.slice A n C) ll) {k : Nat} {l : List Bool} (hl : ll[k]? = some l) :
    ∃ b o Ak Ck, A = some ⟨b, o, none⟩ ∧ w.cell? ⟨b, o + k, none⟩ = some (.slice Ak l.length Ck) ∧ See KB w (.slice Ak l.length Ck) l := by
  obtain ⟨vs, h1, h2⟩ := h
  obtain ⟨hk, -⟩ := List.getElem?_eq_some_iff.1 hl
  have hlen := h1.1
  rw [Nat.mul_one] at hlen
  have hv : vs[k]? = some (vs[k]'(by rw [hlen]; exact hk)) := List.getElem?_eq_getElem _
  have hs := h2 k _ l hv hl
  obtain ⟨Ak, Ck, hf⟩ := hs.form
  rcases h1.2 with ⟨e1, e2⟩ | ⟨b, o, s, cap, e1, e2, e3, e4, e5⟩
  · omega
  · cases e1
    have := e2 (by omega)
    subst this
    refine ⟨b, o, Ak, Ck, rfl, ?_, by rw [← hf]; exact hs⟩
    rw [e5 k _ hv, hf]

/-- Columns that are being made. -/
structure ColsAt (B : Nat) (w : World) (v : Value) (vs : List Value) (ll : List (List Bool)) : Prop where
  own : w.ownsRow B 44 1 v vs.length vs
  len : vs.length = ll.length
  rows : ∀ (i : Nat) (u : Value) (l : List Bool), vs[i]? = some u → ll[i]? = some l → See KB w u l
  away : ∀ u ∈ vs, ∀ k ∈ blk u, k ∉ blk v ∧ k < w.heap.size

theorem ColsAt.upd0 {B : Nat} {w w' : World} {v : Value} {vs : List Value} {ll : List (List Bool)} (h : ColsAt B w v vs ll) (hu : Upd [] w w') : ColsAt B w' v vs ll :=
  ⟨own_upd h.own hu (by simp), h.len, fun i u l a b => (h.rows i u l a b).upd0 hu, fun u hu' k hk => ⟨(h.away u hu' k hk).1, Nat.lt_of_lt_of_le (h.away u hu' k hk).2 hu.size⟩⟩

theorem ColsAt.nil (B : Nat) (w : World) : ColsAt B w (.slice none 0 0) [] [] := ⟨World.ownsRow_nil _ _ _ _, rfl, by simp, by simp⟩

theorem ColsAt.push {B : Nat} {w w' : World} {v : Value} {vs : List Value} {ll : List (List Bool)} (h : ColsAt B w v vs ll) {u : Value} {l : List Bool} (hs : See KB w u l) (hn : ∀ k ∈ blk u, k ∉ blk v ∧ k < w.heap.size)
    {A : Option Addr} {C : Nat} (HP : AppPost w w' B 44 1 v vs.length vs 1 [u] A C) : ColsAt B w' (.slice A (vs.length + 1) C) (vs ++ [u]) (ll ++ [l]) := by
  have hup := HP.upd
  refine ⟨by simpa using HP.own, by simp [h.len], ?_, ?_⟩
  · intro i t m ht hm
    rcases Nat.lt_or_ge i vs.length with hi | hi
    · rw [List.getElem?_append_left hi] at ht
      rw [List.getElem?_append_left (by rw [← h.len]; exact hi)] at hm
      exact (h.rows i t m ht hm).upd hup fun _ k hk _ hc => (h.away t (List.mem_of_getElem? ht) k hk).1 hc
    · rw [List.getElem?_append_right hi] at ht
      rw [List.getElem?_append_right (by rw [← h.len]; exact hi), ← h.len] at hm
      have h1 := List.mem_of_getElem? ht
      have h2 := List.mem_of_getElem? hm
      simp at h1 h2
      subst h1 h2
      exact hs.upd hup fun _ k hk _ hc => (hn k hk).1 hc
  · intro t ht k hk
    have hold : k ∉ blk v ∧ k < w.heap.size := by
      rcases List.mem_append.1 ht with ht | ht
      · exact h.away t ht k hk
      · simp at ht; subst ht; exact hn k hk
    refine ⟨fun hc => ?_, Nat.lt_of_lt_of_le hold.2 hup.size⟩
    rcases HP.at with h1 | h1
    · rw [h1] at hc; exact hold.1 hc
    · rw [h1] at hc; simp at hc; omega

theorem ColsAt.see {B : Nat} {w : World} {v : Value} {vs : List Value} {ll : List (List Bool)} (h : ColsAt B w v vs ll) : SeeRows w v ll := by
  refine ⟨vs, ?_, h.rows⟩
  rw [← h.len]
  exact sees_of_own h.own

theorem info_bools : (Try.prog.info? 44).map (fun i => (i.zero, i.size, i.bytes)) = some (some (.slice none 0 0), 1, 24) := by kernel_rfl
theorem info_boolE : (Try.prog.info? 4).map (fun i => (i.zero, i.size, i.bytes)) = some (some (.bool false), 1, 1) := by kernel_rfl

set_option maxRecDepth 100000 in
set_option maxHeartbeats 1000000 in
theorem blockFn (vl vx vy : Value) (l : List Bx) (X Y : List Int) (pl px pi py i k : Nat) (w : World) (hl : See KBx w vl l) (hX : See KL w vx X) (hY : See KL w vy Y) (hll : l.length < 1000000000)
    (cl : w.cell? ⟨pl, 0, none⟩ = some vl) (cx : w.cell? ⟨px, 0, none⟩ = some vx) (ci : w.cell? ⟨pi, 0, none⟩ = some (.int .i64 (i : Int))) (cy : w.cell? ⟨py, 0, none⟩ = some vy) (hi : i < X.length) (hk : k < Y.length) :
    Calls Try.prog 65 #[.int .i64 (k : Int), .pointer (some ⟨pl, 0, none⟩), .pointer (some ⟨px, 0, none⟩), .pointer (some ⟨pi, 0, none⟩), .pointer (some ⟨py, 0, none⟩)] w fun e w' => e = .returned (.bool (covB l (nth X i) (nth Y k))) ∧ Upd [] w w' := by
  obtain ⟨Al, Cl, rfl⟩ := hl.form
  obtain ⟨Ax, Cx, rfl⟩ := hX.form
  obtain ⟨Ay, Cy, rfl⟩ := hY.form
  obtain ⟨bx, ox, rfl, -, -, lx⟩ := KL.at hX (nth_get hi)
  obtain ⟨by', oy, rfl, -, -, ly⟩ := KL.at hY (nth_get hk)
  have hh := fun (z : QW w) => heldC (.slice Al l.length Cl) l (nth X i) (nth Y k) z.w (hl.upd0 z.up) hll
  obtain ⟨x, hx⟩ : ∃ x, nth X i = x := ⟨_, rfl⟩
  obtain ⟨y, hy⟩ : ∃ y, nth Y k = y := ⟨_, rfl⟩
  rw [hx] at lx
  rw [hy] at ly
  simp only [hx, hy] at hh
  rw [hx, hy]
  obtain ⟨c, hc⟩ : ∃ c, covB l x y = c := ⟨_, rfl⟩
  simp only [hc] at hh
  rw [hc]
  have q1 : ∀ z : QW w, z.w.cell? ⟨pl, 0, none⟩ = some (.slice Al l.length Cl) := fun z => (z.up.cell (p := ⟨pl, 0, none⟩) (World.block_lt_of_cell? w _ cl) (by simp)).trans cl
  have q2 : ∀ z : QW w, z.w.cell? ⟨px, 0, none⟩ = some (.slice (some ⟨bx, ox, none⟩) X.length Cx) := fun z => (z.up.cell (p := ⟨px, 0, none⟩) (World.block_lt_of_cell? w _ cx) (by simp)).trans cx
  have q3 : ∀ z : QW w, z.w.cell? ⟨pi, 0, none⟩ = some (.int .i64 (i : Int)) := fun z => (z.up.cell (p := ⟨pi, 0, none⟩) (World.block_lt_of_cell? w _ ci) (by simp)).trans ci
  have q4 : ∀ z : QW w, z.w.cell? ⟨py, 0, none⟩ = some (.slice (some ⟨by', oy, none⟩) Y.length Cy) := fun z => (z.up.cell (p := ⟨py, 0, none⟩) (World.block_lt_of_cell? w _ cy) (by simp)).trans cy
  have q5 : ∀ z : QW w, z.w.cell? ⟨bx, ox + i, none⟩ = some (.int .i64 x) := fun z => (z.up.cell (p := ⟨bx, ox + i, none⟩) (World.block_lt_of_cell? w _ lx) (by simp)).trans lx
  have q6 : ∀ z : QW w, z.w.cell? ⟨by', oy + k, none⟩ = some (.int .i64 y) := fun z => (z.up.cell (p := ⟨by', oy + k, none⟩) (World.block_lt_of_cell? w _ ly) (by simp)).trans ly
  have i0 : (0 : Int) ≤ (i : Int) := Int.natCast_nonneg _
  have i1 : (i : Int) < (X.length : Int) := by omega
  have k0 : (0 : Int) ≤ (k : Int) := Int.natCast_nonneg _
  have k1 : (k : Int) < (Y.length : Int) := by omega
  have HH := Lib.hid hh
  clear hh hl hX hY hll cl cx ci cy hx hy hc lx ly hi hk
  go_enter Try.func65, Try.ntmps65
  go_wp2_with fail
  refine wp_region_quietU (by kernel_rfl) (by kernel_rfl) ?_
  repeat (go_big_quiet_step ((with_reducible exact Calls.quietU (HH.out _))))
  refine wpQuiet_nil ?_
  intro _ hw'
  obtain ⟨⟨wq, hwq⟩, hw''⟩ := hw'
  dsimp only at hw''
  subst hw''
  go_wp2_with fail
  go_ret
  exact ⟨rfl, hwq⟩
end Go.Proofs.Ythkiljfjjnckaaa
