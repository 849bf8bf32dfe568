/- A range over a function that keeps state of its own in cells: whatever it has laid since it was called is its own; the caller's round writes to what lay before. And: a plain walk of operations serves in a round. No number of the program. -/
import Derived.RangeFuncNested
import Derived.RangeFuncBound
import Derived.RangeFuncCalls
import Derived.RangeFuncLeaves
import Derived.WalkKit
import Derived.OrdersIn
import Derived.TacticsInMore
import Derived.LoopNIn
import Derived.Test.YtokpdocabmaagaaGreatBase
import Derived.Test.YtokpdocabmaagaaGreatRegT
namespace Go.Proofs.YtokpdocabmaagaaGreat
open Go.RowKit

/-- What lies from B on stays. -/
def Beyond (B : Nat) (w w' : World) : Prop := ∃ G, Upd G w w' ∧ ∀ g ∈ G, g < B

theorem Beyond.size {B : Nat} {a b : World} (h : Beyond B a b) : a.heap.size ≤ b.heap.size := by obtain ⟨G, h, -⟩ := h; exact h.size
theorem Beyond.block {B : Nat} {a b : World} (h : Beyond B a b) (k : Nat) (h1 : B ≤ k) (h2 : k < a.heap.size) : b.heap[k]? = a.heap[k]? := by
  obtain ⟨G, h, hG⟩ := h
  exact h.block k h2 fun hk => by have := hG k hk; omega
theorem Beyond.refl (B : Nat) (w : World) : Beyond B w w := ⟨[], Upd.refl _ _, by simp⟩
theorem Beyond.of {B : Nat} {a b : World} (h : Upd [] a b) : Beyond B a b := ⟨[], h, by simp⟩
theorem Beyond.trans {B : Nat} {a b c : World} (h : Beyond B a b) (k : Beyond B b c) : Beyond B a c := by
  obtain ⟨G, h, hG⟩ := h
  obtain ⟨G', k, hG'⟩ := k
  refine ⟨G ++ G', (h.mono fun x hx => .inl (by simp [hx])).trans (k.mono fun x hx => .inl (by simp [hx])), fun g hg => ?_⟩
  rcases List.mem_append.1 hg with hg | hg
  · exact hG g hg
  · exact hG' g hg
theorem Beyond.upd {B : Nat} {a b c : World} {F : List Nat} (h : Beyond B a b) (k : Upd F b c) (hF : ∀ i ∈ F, i < B) : Beyond B a c := h.trans ⟨F, k, hF⟩

theorem below_put {B l : Nat} (w : World) (o : Obj) (hl : B ≤ l) : Below B w (w.putObj l o) :=
  ⟨rfl, rfl, rfl, by simp [World.putObj], fun i hi => World.putObj_heap_other (by omega)⟩
theorem upd_put {l : Nat} (w : World) (o : Obj) : Upd [l] w (w.putObj l o) :=
  ⟨rfl, rfl, rfl, by simp [World.putObj], fun i _ hi => World.putObj_heap_other (fun e => hi (by simp [e]))⟩

/-- What a round keeps: all from B on, but the loop's own record. -/
def KeepU (B l : Nat) (w w' : World) : Prop := ∃ G, Upd G w w' ∧ ∀ g ∈ G, g < B ∨ g = l

theorem KeepU.trans {B l : Nat} {a b c : World} (h : KeepU B l a b) (k : KeepU B l b c) : KeepU B l a c := by
  obtain ⟨G, h, hG⟩ := h
  obtain ⟨G', k, hG'⟩ := k
  refine ⟨G ++ G', (h.mono fun x hx => .inl (by simp [hx])).trans (k.mono fun x hx => .inl (by simp [hx])), fun g hg => ?_⟩
  rcases List.mem_append.1 hg with hg | hg
  · exact hG g hg
  · exact hG' g hg
theorem Beyond.keep {B l : Nat} {a b : World} (h : Beyond B a b) : KeepU B l a b := by obtain ⟨G, h, hG⟩ := h; exact ⟨G, h, fun g hg => .inl (hG g hg)⟩
theorem keep_put (B l : Nat) (w : World) (o : Obj) : KeepU B l w (w.putObj l o) := ⟨[l], upd_put w o, fun g hg => .inr (by simpa using hg)⟩

/-- What an iterator gives, one after the other, that leaves alone what lay ahead of its call, and that needs kept what lies from B on. -/
def SeqOwn {α : Type} (P : Program) (g : Nat) (lb : Array Value) (encs : α → Array Value) (S Pre : List α → Prop) (B : Nat) (w : World) : Prop :=
  ∀ (n l : Nat) (J : List α → World → Prop) (W : World), Upd [] w W → w.heap.size ≤ l → l < W.heap.size → (∀ s C D, J s C → Below W.heap.size C D → J s D) →
    (∀ pre x W1, J pre W1 → Pre (pre ++ [x]) → W.heap.size ≤ W1.heap.size → YieldAt Fence.wide n P l (encs x) W1 fun e W' => e = .returned (.bool true) ∧ J (pre ++ [x]) W' ∧ KeepU B l W1 W') →
    J [] W →
    CallsIn Fence.wide (n + 1) P g (#[.func (.yield l) #[] #[]] ++ lb) W fun e W' => (∃ v, e = .returned v) ∧ ∃ xs, S xs ∧ J xs W'

/-- How a round's body ends. -/
def postU {α : Type} (B : Nat) (I : List α → World → Prop) (xs : List α) (W : World) : Exit → Act → World → Prop
  | .normal, _, W' => Beyond B W W' ∧ I xs W'
  | _, _, _ => False

theorem wpIn_rangeFuncU {α : Type} {P : Program} {n : Nat} {g : Operand} {ps : Array Tmp} {assign body : Code} {Q : Exit → Act → World → Prop} {a : Act} {w : World}
    {gf : Nat} {lb : Array Value} (hg : a.eval g = .func (.func gf) #[] lb) (eg : ∀ args w, (callFunc gf args).run P w = .ok (.enter gf args) w)
    {encs : α → Array Value} {S Pre : List α → Prop} {B : Nat} (hB : B ≤ w.heap.size) (hseq : SeqOwn P gf lb encs S Pre B w) (hps : ∀ x, (encs x).size = ps.size)
    (I : List α → World → Prop) (hI : ∀ s C D, I s C → Below w.heap.size C D → I s D) (h0 : I [] w)
    (hround : ∀ (l : Nat) (pre : List α) (x : α) (W : World), I pre W → Pre (pre ++ [x]) → w.heap.size + 1 < W.heap.size →
      assign.wpIn (Fence.wide.inRound l) n P (Exit.then (fun a₁ W₁ => Beyond B W W₁ ∧
        ∀ W₂, (∃ o, W₂ = W₁.putObj (w.heap.size + 1) o) → body.wpIn (Fence.wide.inRound l) n P (postU B I (pre ++ [x]) W₂) a₁ W₂) (fun _ _ _ => False))
        { tmps := (ps.zip (encs x)).foldl (fun t (p, v) => t.setIfInBounds p v) a.tmps, defers := [] } W)
    (hdone : ∀ (D : Nat) (xs : List α) (W : World), w.heap.size ≤ D → S xs → I xs W → W.heap[D]? = some (.deferred (some [])) → Q .normal { a with defers := { target := .collected D, args := #[] } :: a.defers } W) :
    (Code.rangeFunc g ps assign body).wpIn Fence.wide (n + 2) P Q a w := by
  refine wpIn_rangeFunc ?_
  intro fn hfn
  obtain ⟨rec, hrec⟩ : ∃ rec : LoopState → Option Code → Loop, rec = fun st pe => { state := st, pending := pe, fn, tmps := a.tmps, params := ps, assign, body, defers := w.heap.size } := ⟨_, rfl⟩
  obtain ⟨W1, hW1⟩ : ∃ W1, (w.alloc (.deferred (some []))).alloc (.loop (rec .ready none)) = W1 := ⟨_, rfl⟩
  have hL1 : W1.heap[w.heap.size + 1]? = some (.loop (rec .ready none)) := by
    rw [← hW1]; have := World.alloc_heap_new (w.alloc (.deferred (some []))) (.loop (rec .ready none)); rwa [World.size_alloc] at this
  have hK1 : W1.heap[w.heap.size]? = some (.deferred (some [])) := by
    rw [← hW1]; exact (Below.heap_alloc _ _ _ (by simp)).trans (World.alloc_heap_new w _)
  have hu1 : Upd [] w W1 := by rw [← hW1]; exact ((Upd.refl _ _).alloc _).alloc _
  have hz1 : W1.heap.size = w.heap.size + 2 := by rw [← hW1]; simp
  refine ⟨w.heap.size + 1, [{ target := .collected w.heap.size, args := #[] }], W1, { target := .fn (.func gf) lb, args := #[.func (.yield (w.heap.size + 1)) #[] #[]] }, W1, gf,
    #[.func (.yield (w.heap.size + 1)) #[] #[]] ++ lb, W1, ?_, ?_, fun _ _ => trivial, ?_, fun h => by simp [Fence.wide] at h, ?_⟩
  · rw [← hW1, hrec]; exact run_enterLoop_outer _ _ _ _ _
  · simp only [resolve, hg]
    simp [go_sem]
  · simp [invoke, go_sem, eg]
  · refine (hseq n (w.heap.size + 1) (fun pre W => I pre W ∧ W.heap[w.heap.size + 1]? = some (.loop (rec .ready none)) ∧ W.heap[w.heap.size]? = some (.deferred (some []))) W1 hu1 (by omega) (by omega)
      (fun s C D hs hb => ⟨hI s C D hs.1 (hb.mono (by omega)), (hb.block _ (by omega)).trans hs.2.1, (hb.block _ (by omega)).trans hs.2.2⟩) ?_ ⟨hI [] _ _ h0 hu1.below, hL1, hK1⟩).mono ?_
    · rintro pre x W ⟨hi, hl, hk⟩ hlen hsz
      have hlt : w.heap.size + 1 < W.heap.size := (Array.getElem?_eq_some_iff.1 hl).1
      have hy := run_yield (P := P) (args := encs x) hl (by rw [hrec]; exact hps x)
      rw [hrec] at hy
      refine ⟨fn, _, assign, body, hy, roundIn_of_wpIn hfn (wpIn_mono (hround (w.heap.size + 1) pre x W hi hlen hlt) ?_)⟩
      intro e a₁ W₁ hp
      cases e with
      | normal =>
        obtain ⟨hb, hbody⟩ := hp
        have hl1 := (hb.block _ (by omega) hlt).trans hl
        have hk1 := (hb.block _ hB (by omega)).trans hk
        refine ⟨W₁.putObj (w.heap.size + 1) (.loop { rec .ready none with state := .busy }), run_beginRound hl1 (by rw [hrec]), ?_⟩
        have hl2 : (W₁.putObj (w.heap.size + 1) (.loop { rec .ready none with state := .busy })).heap[w.heap.size + 1]? = some (.loop { rec .ready none with state := .busy }) := World.putObj_heap_same (by have := hb.size; omega)
        have hk2 : (W₁.putObj (w.heap.size + 1) (.loop { rec .ready none with state := .busy })).heap[w.heap.size]? = some (.deferred (some [])) := (World.putObj_heap_other (by omega)).trans hk1
        have hb2 : KeepU B (w.heap.size + 1) W (W₁.putObj (w.heap.size + 1) (.loop { rec .ready none with state := .busy })) := hb.keep.trans (keep_put _ _ _ _)
        have hz2 : (W₁.putObj (w.heap.size + 1) (.loop { rec .ready none with state := .busy })).heap.size = W₁.heap.size := by simp [World.putObj]
        refine wpIn_mono (hbody _ ⟨_, rfl⟩) ?_
        intro e a3 W3 hp
        cases e with
        | normal =>
          obtain ⟨hk3, hi3⟩ := hp
          have hl3 := (hk3.block _ (by omega) (by have := hb.size; omega)).trans hl2
          have hk4 := (hk3.block _ hB (by have := hb.size; omega)).trans hk2
          have hz3 := hk3.size
          have hr := run_endRound (P := P) none hl3
          refine ⟨_, _, hr, rfl, ⟨hI _ _ _ hi3 (below_put _ _ (by omega)), ?_, ?_⟩, (hb2.trans hk3.keep).trans (keep_put _ _ _ _)⟩
          · rw [World.putObj_heap_same (by have := hb.size; omega)]; rw [hrec]; rfl
          · exact (World.putObj_heap_other (by omega)).trans hk4
        | _ => exact hp.elim
      | _ => exact hp.elim
    · rintro e W2 ⟨⟨v, rfl⟩, xs, hS, hi, hl, hk⟩
      exact ⟨none, _, by have := run_endLoop (P := P) hl (by rw [hrec]; simp); rw [hrec] at this; exact this, hdone _ xs _ (Nat.le_refl _) hS (hI _ _ _ hi (below_put _ _ (by omega))) ((World.putObj_heap_other (by omega)).trans hk)⟩

/-! ### A plain walk in a round -/

theorem rowsIn_of {l m : Nat} {P : Program} {row : String} {args : Array Value} {w : World} {R : Value → World → Prop} (h : Rows P row args w R) : RowsIn (Fence.wide.inRound l) m P row args w R := fun c cs _ => by
  obtain ⟨v, w', r, s⟩ := h c cs
  exact ⟨v, w', r, stepsIn_wide.2 s⟩

theorem opIn_of_op {P : Program} {l m : Nat} {o : Oper} {a : Act} {w : World} {K : Act → World → Prop} {Q : Exit → Act → World → Prop} (hd : ∀ c, o.op ≠ .defer c) (h : o.wp P a w K Q) :
    o.wpIn (Fence.wide.inRound l) m P a w K Q := by
  have e : o.semAt (some l) a.eval = execOp a.eval o := Oper.semAt_some l _ _ hd
  refine ⟨fun _ _ => trivial, ?_⟩
  show o.uponIn _ m P a K Q ((o.semAt (some l) a.eval).run P w)
  rw [e]
  unfold Oper.wp at h
  generalize (execOp a.eval o).run P w = r at h ⊢
  cases r with
  | ok x w' =>
    cases x with
    | enter f args => exact ⟨fun h => by simp [Fence.wide, Fence.inRound] at h, CallsIn.inRound l (callsIn_wide.2 h)⟩
    | row row args => exact ⟨fun h => by simp [Fence.wide, Fence.inRound] at h, rowsIn_of h⟩
    | value v => exact h
    | skip => exact h
    | defer d => exact h
    | _ => exact h.elim
  | halt x w' => cases x <;> exact h

/-- No operation defers a call. -/
def noDefer (ops : Array Oper) : Bool := ops.toList.all fun o => match o.op with | .defer _ => false | _ => true

theorem noDefer_spec {ops : Array Oper} (h : noDefer ops = true) {i : Nat} {o : Oper} (ho : ops[i]? = some o) : ∀ c, o.op ≠ .defer c := by
  intro c e
  unfold noDefer at h
  rw [List.all_eq_true] at h
  have := h o (by rw [Array.mem_toList_iff]; exact Array.mem_of_getElem? ho)
  rw [e] at this
  cases this

theorem wpAnyIn_of {P : Program} {md : Region.Mode} {ops : Array Oper} {Q : Exit → Act → World → Prop} {l m : Nat} (hd : noDefer ops = true) (hq : ¬ LetsOut Q) : ∀ (n : Nat) (L : Array Bool) (a : Act) (w : World), wpAny P md ops Q n L a w → wpAnyIn (Fence.wide.inRound l) m P md ops Q n L a w
  | 0, _, _, _, h => h
  | n + 1, L, a, w, h => ⟨h.1, fun i hi => by
      have h2 := h.2 i hi
      unfold wpOp at h2
      unfold wpOpIn
      cases ho : ops[i]? with
      | none => rw [ho] at h2; exact wpAnyIn_of hd hq n _ _ _ h2
      | some o =>
        rw [ho] at h2
        dsimp only at h2 ⊢
        split
        · rename_i hw
          rw [if_pos hw] at h2
          exact Oper.wpIn_mono (fun a w hh => wpAnyIn_of hd hq n _ a w hh) (opIn_of_op (noDefer_spec hd ho) (h2.resolve_right fun h => hq h.2))
        · rename_i hw
          rw [if_neg hw] at h2
          exact ⟨fun _ _ => trivial, wpAnyIn_of hd hq n _ _ _ h2⟩⟩

theorem wpListIn_of {P : Program} {ops : Array Oper} {Q : Exit → Act → World → Prop} {l m : Nat} (hq : ¬ LetsOut Q) : ∀ (rest : List Oper), noDefer rest.toArray = true → ∀ (a : Act) (w : World), wpList P ops Q rest a w → wpListIn (Fence.wide.inRound l) m P ops Q rest a w
  | [], _, _, _, h => h
  | o :: rest, hd, a, w, h => by
    unfold wpList at h
    unfold wpListIn
    have hr : noDefer rest.toArray = true := by
      unfold noDefer at hd ⊢
      simp only [List.all_cons, Bool.and_eq_true] at hd
      exact hd.2
    split
    · rename_i hw
      rw [if_pos hw] at h
      exact Oper.wpIn_mono (fun a w hh => wpListIn_of hq rest hr a w hh) (opIn_of_op (noDefer_spec hd (i := 0) rfl) (h.resolve_right fun h => hq h.2))
    · rename_i hw
      rw [if_neg hw] at h
      exact ⟨fun _ _ => trivial, wpListIn_of hq rest hr _ _ h⟩

/-- A drawn region in a round, walked as a plain one. -/
theorem GoT.startIn {P : Program} {ops : Array Oper} {Q : Exit → Act → World → Prop} {l m id : Nat} {a : Act} {w : World} (T : List Nat) (S : World → Prop) (hm : P.follows .mixedOrders = true) (hd : noDefer ops = true) (hq : ¬ LetsOut Q) (hS : S w.drew)
    (h : S w.drew → GoT P ops Q S T ops.size (Array.replicate ops.size false) a w.drew) : (Code.region id ops true).wpIn (Fence.wide.inRound l) m P Q a w :=
  wpIn_region_any hm (wpAnyIn_of hd hq _ _ _ _ (wpAny_of_T _ _ _ _ (h hS (Down.start _))))

/-- A region without a draw, likewise. -/
theorem region_in {P : Program} {ops : List Oper} {Q : Exit → Act → World → Prop} {l m id : Nat} {a : Act} {w : World} (hd : noDefer ops.toArray = true) (hq : ¬ LetsOut Q) (h : wpList P ops.toArray Q ops a w) :
    (Code.region id ops.toArray false).wpIn (Fence.wide.inRound l) m P Q a w := wpIn_region_lit (wpListIn_of hq ops hd a w h)
end Go.Proofs.YtokpdocabmaagaaGreat
