/- Maps from numbers to places: what a block of such a map has, as a list of pairs. -/
import Derived.Test.YtkhgglafnjfiaaaRows
import Derived.Test.YtkhgglafnjfiaaaBase
import Derived.Maps.OwnSet
namespace Go.Proofs.Ytkhgglafnjfiaaa
open Go.RowKit
open Go.Maps (Keyed Tidy IsMap)

def mput (m : List (Int × Int)) (x v : Int) : List (Int × Int) := (x, v) :: m.filter fun p => p.1 != x
def mdel (m : List (Int × Int)) (x : Int) : List (Int × Int) := m.filter fun p => p.1 != x

theorem lookup_mdel (m : List (Int × Int)) (x y : Int) : (mdel m x).lookup y = if y = x then none else m.lookup y := by
  unfold mdel
  induction m with
  | nil => simp
  | cons a m ih =>
    rcases a with ⟨k, v⟩
    by_cases hk : k = x
    · subst hk
      simp only [List.filter_cons, bne_self_eq_false, Bool.false_eq_true, if_false, ih, List.lookup_cons]
      by_cases hy : y = k
      · simp [hy]
      · have : (y == k) = false := by simpa using hy
        simp [hy, this]
    · have h1 : (k != x) = true := by simpa using hk
      simp only [List.filter_cons, h1, if_true, List.lookup_cons, ih]
      by_cases hy : y = x
      · subst hy
        have : (y == k) = false := by simpa using Ne.symm hk
        simp [this]
      · simp [hy]

theorem lookup_mput (m : List (Int × Int)) (x v y : Int) : (mput m x v).lookup y = if y = x then some v else m.lookup y := by
  unfold mput
  rw [List.lookup_cons]
  by_cases hy : y = x
  · simp [hy]
  · have h : (y == x) = false := by simpa using hy
    rw [h]
    have := lookup_mdel m x y
    unfold mdel at this
    simp [this, hy]

theorem nodup_mdel {m : List (Int × Int)} (h : (m.map (·.1)).Nodup) (x : Int) : ((mdel m x).map (·.1)).Nodup := by
  unfold mdel
  exact h.sublist (List.filter_sublist.map _)

theorem nodup_mput {m : List (Int × Int)} (h : (m.map (·.1)).Nodup) (x v : Int) : ((mput m x v).map (·.1)).Nodup := by
  unfold mput
  rw [List.map_cons, List.nodup_cons]
  refine ⟨?_, nodup_mdel h x⟩
  simp

theorem length_mdel {m : List (Int × Int)} (h : (m.map (·.1)).Nodup) (x : Int) : (mdel m x).length + (if (m.lookup x).isSome then 1 else 0) = m.length := by
  unfold mdel
  induction m with
  | nil => simp
  | cons a m ih =>
    rcases a with ⟨k, v⟩
    rw [List.map_cons, List.nodup_cons] at h
    have ih := ih h.2
    by_cases hk : k = x
    · subst hk
      have hn : m.lookup k = none := by
        rw [List.lookup_eq_none_iff]
        intro p hp
        have : p.1 ≠ k := fun e => h.1 (List.mem_map.2 ⟨p, hp, e⟩)
        simpa using Ne.symm this
      rw [hn] at ih
      simp only [List.filter_cons, bne_self_eq_false, Bool.false_eq_true, if_false, List.lookup_cons, beq_self_eq_true, Option.isSome_some, if_true, List.length_cons]
      simpa using ih
    · have h1 : (k != x) = true := by simpa using hk
      have h2 : (x == k) = false := by simpa using Ne.symm hk
      simp only [List.filter_cons, h1, if_true, List.lookup_cons, h2, List.length_cons]
      omega

theorem length_mput {m : List (Int × Int)} (h : (m.map (·.1)).Nodup) (x v : Int) : (mput m x v).length = if (m.lookup x).isSome then m.length else m.length + 1 := by
  have := length_mdel h x
  unfold mput
  rw [List.length_cons]
  unfold mdel at this
  by_cases hh : (m.lookup x).isSome = true
  · rw [if_pos hh] at this ⊢
    omega
  · rw [if_neg hh] at this ⊢
    omega

/-- Block b is a map that has just the pairs m. -/
def MapAt (w : World) (b : Nat) (m : List (Int × Int)) : Prop :=
  (m.map (·.1)).Nodup ∧ ∃ D : DataW Nat, w.ownsMap Try.prog 2 (plainElem Try.prog 3) b m.length D ∧ Tidy D ∧ Maps.size D = m.length ∧
    (∀ x, Maps.has D (.int .i64 x) = (m.lookup x).isSome) ∧ ∀ x, D.atKey (.int .i64 x) (.lit (.int .i64 0)) = .lit (.int .i64 ((m.lookup x).getD 0))

theorem mapKeyed : Keyed Try.prog 2 := Maps.int_keyed Try.underlying2

theorem MapAt.lt {w : World} {b : Nat} {m : List (Int × Int)} (h : MapAt w b m) : b < w.heap.size := by
  obtain ⟨_, D, h1, _⟩ := h
  exact h1.lt

theorem MapAt.upd {F : List Nat} {w w' : World} {b : Nat} {m : List (Int × Int)} (h : MapAt w b m) (hu : Upd F w w') (hb : b ∉ F) : MapAt w' b m := by
  obtain ⟨h0, D, h1, h2⟩ := h
  have hlt := h1.lt
  obtain ⟨es, clock, hb', hr⟩ := h1
  exact ⟨h0, D, ⟨es, clock, (hu.block b hlt hb).trans hb', hr⟩, h2⟩

theorem MapAt.made (w : World) : MapAt (w.alloc (.map #[] 0)) w.heap.size [] :=
  ⟨List.nodup_nil, .map [], World.ownsMap_made _ _ _ _, Maps.tidy_empty, rfl, fun x => by simp [Maps.has], fun x => by simp [DataW.atKey]⟩

theorem MapAt.drew {w : World} {b : Nat} {m : List (Int × Int)} (h : MapAt w b m) : MapAt w.drew b m := h

theorem MapAt.look {w : World} {b : Nat} {m : List (Int × Int)} (h : MapAt w b m) {x : Int} (hx : (Lit.int .i64 x).wf = true) :
    (Instr.lookup 66 (.map (some b)) (.int .i64 x) true).run Try.prog w = .ok (.tuple #[.int .i64 ((m.lookup x).getD 0), .bool (m.lookup x).isSome]) w := by
  obtain ⟨_, D, h1, h2, h3, h4, h5⟩ := h
  obtain ⟨v, ps, hrun, hv⟩ := h1.look_ok mapKeyed Try.underlying66 (z := .int .i64 0) (by kernel_rfl) (plainElem_int (H := Nat) Try.underlying3 (by decide)) (Maps.keyOf_int_mk Try.underlying2 hx)
  rw [h5] at hv
  obtain ⟨a, rfl, hz, _⟩ := plainElem_int_inv Try.underlying3 hv
  simp only [Prod.mk.injEq, DataW.lit.injEq, Lit.int.injEq, true_and] at hz
  rw [hrun, h4, hz.1]

theorem MapAt.look1 {w : World} {b : Nat} {m : List (Int × Int)} (h : MapAt w b m) {x : Int} (hx : (Lit.int .i64 x).wf = true) :
    (Instr.lookup 66 (.map (some b)) (.int .i64 x) false).run Try.prog w = .ok (.int .i64 ((m.lookup x).getD 0)) w := by
  obtain ⟨_, D, h1, h2, h3, h4, h5⟩ := h
  obtain ⟨v, ps, hrun, hv⟩ := h1.lookup mapKeyed Try.underlying66 (z := .int .i64 0) (by kernel_rfl) (plainElem_int (H := Nat) Try.underlying3 (by decide)) (Maps.keyOf_int_mk Try.underlying2 hx)
  rw [h5] at hv
  obtain ⟨a, rfl, hz, _⟩ := plainElem_int_inv Try.underlying3 hv
  simp only [Prod.mk.injEq, DataW.lit.injEq, Lit.int.injEq, true_and] at hz
  rw [hrun, hz.1]

theorem MapAt.len {w : World} {b : Nat} {m : List (Int × Int)} (h : MapAt w b m) (ty : TypeId) : (Builtin.len_ #[66] ty #[.map (some b)]).run Try.prog w = .ok (.int .i64 m.length) w := by
  obtain ⟨_, D, h1, h2, h3, h4, h5⟩ := h
  rw [h1.len Try.underlying66 ty, h3]

theorem grown_upd {w w' : World} {b : Nat} (h : w.grownBy w' (some b)) : Upd [b] w w' := (Upd.refl _ _).grown h fun k hk => .inl (by simpa using hk.symm)

theorem key_lit (x : Int) : WideAt.IsKeyLit (.int .i64 x) := by simp [WideAt.IsKeyLit]

theorem lit_ne {x y : Int} (h : y ≠ x) : (Lit.int .i64 y) ≠ (Lit.int .i64 x) := by
  intro e; simp at e; exact h e

theorem MapAt.put {w : World} {b : Nat} {m : List (Int × Int)} (h : MapAt w b m) {x v : Int} (hx : (Lit.int .i64 x).wf = true) (hv : (Lit.int .i64 v).wf = true) (hn : m.length < maxLen) :
    ∃ w', (Instr.mapUpdate 66 (.map (some b)) (.int .i64 x) (.int .i64 v)).run Try.prog w = .ok () w' ∧ MapAt w' b (mput m x v) ∧ Upd [b] w w' := by
  obtain ⟨h0, D, h1, h2, h3, h4, h5⟩ := h
  obtain ⟨w', hrun, ho, ht⟩ := h1.store mapKeyed Try.underlying66 hn (Maps.keyOf_int_mk Try.underlying2 hx) (plainElem_int (H := Nat) Try.underlying3 hv)
  have hsz : Maps.size (D.put (.int .i64 x) (.lit (.int .i64 v))) = (mput m x v).length := by
    rw [Maps.size_put h2, h4, h3, length_mput h0]
  refine ⟨w', hrun, ⟨nodup_mput h0 x v, _, ?_, h2.put (key_lit x) _, hsz, ?_, ?_⟩, grown_upd ht.grown⟩
  · obtain ⟨es, clock, hb, F, _, hD⟩ := ho
    refine ⟨es, clock, hb, F, ?_, hD⟩
    rw [← hsz, hD]
    simp [Maps.size, length_sorted]
  · intro y
    by_cases hy : y = x
    · subst hy
      rw [Maps.has_put_same h2.isMap (key_lit y), lookup_mput, if_pos rfl]; rfl
    · rw [Maps.has_put_other (lit_ne hy), h4, lookup_mput, if_neg hy]
  · intro y
    by_cases hy : y = x
    · subst hy
      rw [Maps.atKey_put_same h2.isMap (key_lit y), lookup_mput, if_pos rfl]; rfl
    · rw [Maps.atKey_put_other (lit_ne hy), h5, lookup_mput, if_neg hy]

theorem MapAt.del {w : World} {b : Nat} {m : List (Int × Int)} (h : MapAt w b m) {x : Int} (hx : (Lit.int .i64 x).wf = true) (ty : TypeId) :
    ∃ w', (Builtin.delete_ #[66, 2] ty #[.map (some b), .int .i64 x]).run Try.prog w = .ok (.tuple #[]) w' ∧ MapAt w' b (mdel m x) ∧ Upd [b] w w' := by
  obtain ⟨h0, D, h1, h2, h3, h4, h5⟩ := h
  obtain ⟨w', hrun, ho, ht⟩ := h1.drop mapKeyed Try.underlying66 (Maps.keyOf_int_mk Try.underlying2 hx) ty
  have hsz : Maps.size (D.del (.int .i64 x)) = (mdel m x).length := by
    have e1 := Maps.size_del (k := .int .i64 x) h2
    have e2 := length_mdel h0 x
    rw [h4, h3] at e1
    omega
  refine ⟨w', hrun, ⟨nodup_mdel h0 x, _, ?_, h2.del _, hsz, ?_, ?_⟩, grown_upd ht.grown⟩
  · obtain ⟨es, clock, hb, F, _, hD⟩ := ho
    refine ⟨es, clock, hb, F, ?_, hD⟩
    rw [← hsz, hD]
    simp [Maps.size, length_sorted]
  · intro y
    by_cases hy : y = x
    · subst hy
      rw [Maps.has_del_same, lookup_mdel, if_pos rfl]; rfl
    · rw [Maps.has_del_other (lit_ne hy), h4, lookup_mdel, if_neg hy]
  · intro y
    by_cases hy : y = x
    · subst hy
      rw [Maps.atKey_del_same, lookup_mdel, if_pos rfl]; rfl
    · rw [Maps.atKey_del_other (lit_ne hy), h5, lookup_mdel, if_neg hy]

section
variable (w : World)

theorem wp_mput {o : Oper} {a : Act} {K : Act → World → Prop} {Q : Exit → Act → World → Prop} (m x v : Operand) (hop : o.op = Op.mapUpdate 66 m x v) (b : Nat) (M : List (Int × Int)) (kx kv : Int)
    (hm : a.eval m = .map (some b)) (hx : a.eval x = .int .i64 kx) (hv : a.eval v = .int .i64 kv) (hM : MapAt w b M) (wx : (Lit.int .i64 kx).wf = true) (wv : (Lit.int .i64 kv).wf = true) (hn : M.length < maxLen)
    (h : ∀ w', MapAt w' b (mput M kx kv) → Upd [b] w w' → K (a.put o.dst undef) w') : o.wp Try.prog a w K Q := by
  obtain ⟨w', hrun, r1, r2⟩ := hM.put wx wv hn
  unfold Oper.wp
  simp [execOp, hop, hm, hx, hv, hrun, Result.andThen]
  exact h w' r1 r2

theorem wpList_mput {ops : Array Oper} {rest : List Oper} {o : Oper} {a : Act} {Q : Exit → Act → World → Prop} (hg : o.guard = none) (m x v : Operand) (hop : o.op = Op.mapUpdate 66 m x v) (b : Nat) (M : List (Int × Int)) (kx kv : Int)
    (hm : a.eval m = .map (some b)) (hx : a.eval x = .int .i64 kx) (hv : a.eval v = .int .i64 kv) (hM : MapAt w b M) (wx : (Lit.int .i64 kx).wf = true) (wv : (Lit.int .i64 kv).wf = true) (hn : M.length < maxLen)
    (h : ∀ w', MapAt w' b (mput M kx kv) → Upd [b] w w' → wpList Try.prog ops Q rest (a.put o.dst undef) w') : wpList Try.prog ops Q (o :: rest) a w :=
  wpList_plain hg fun _ hK => wp_mput w m x v hop b M kx kv hm hx hv hM wx wv hn fun w' r1 r2 => hK _ _ (h w' r1 r2)

theorem step_mput {ops : Array Oper} {o : Oper} {a : Act} {K : Act → World → Prop} {Q : Exit → Act → World → Prop} {E : Prop} (hg : o.guard = none) (m x v : Operand) (hop : o.op = Op.mapUpdate 66 m x v) (b : Nat) (M : List (Int × Int)) (kx kv : Int)
    (hm : a.eval m = .map (some b)) (hx : a.eval x = .int .i64 kx) (hv : a.eval v = .int .i64 kv) (hM : MapAt w b M) (wx : (Lit.int .i64 kx).wf = true) (wv : (Lit.int .i64 kv).wf = true) (hn : M.length < maxLen)
    (h : ∀ w', MapAt w' b (mput M kx kv) → Upd [b] w w' → K (a.put o.dst undef) w') : if Region.wanted o (yielded ops a.tmps) = true then Oper.wp Try.prog o a w K Q else E := by
  have hw : Region.wanted o (yielded ops a.tmps) = true := by simp [Region.wanted, hg]
  rw [if_pos hw]
  exact wp_mput w m x v hop b M kx kv hm hx hv hM wx wv hn h

theorem wpList_mdel {ops : Array Oper} {rest : List Oper} {o : Oper} {a : Act} {Q : Exit → Act → World → Prop} (hg : o.guard = none) (m x : Operand) (hop : o.op = Op.call { callee := Callee.builtin Builtin.delete, args := #[m, x], argTypes := #[66, 2] }) (b : Nat) (M : List (Int × Int)) (kx : Int)
    (hm : a.eval m = .map (some b)) (hx : a.eval x = .int .i64 kx) (hM : MapAt w b M) (wx : (Lit.int .i64 kx).wf = true)
    (h : ∀ w', MapAt w' b (mdel M kx) → Upd [b] w w' → wpList Try.prog ops Q rest (a.put o.dst (.tuple #[])) w') : wpList Try.prog ops Q (o :: rest) a w := by
  refine wpList_plain hg fun K' hK' => ?_
  obtain ⟨w', hrun, r1, r2⟩ := hM.del wx o.type
  unfold Oper.wp
  simp [execOp, hop, resolve, invoke, builtin, hm, hx, hrun, Result.andThen]
  exact hK' _ _ (h w' r1 r2)
end
end Go.Proofs.Ytkhgglafnjfiaaa
