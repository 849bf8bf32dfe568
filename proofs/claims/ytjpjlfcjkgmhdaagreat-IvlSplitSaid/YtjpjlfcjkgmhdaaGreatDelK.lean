/- What slices.Delete and its like need: an append within the room of an owned row, 'clear' on a slice of structs, stores behind a row's end. No program. slices.Delete of one span. -/
import Derived.Test.YtjpjlfcjkgmhdaaGreatOps
import Derived.Laws.OwnMore
import Derived.Test.YtjpjlfcjkgmhdaaGreatSpanK
import Derived.Deep.RegionLaw
namespace Go.Proofs.YtjpjlfcjkgmhdaaGreat
open Go.RowKit

section
variable {P : Program} (w : World)

/-- append within the room of an owned row: in place. -/
theorem run_app_spare (base : Nat) (t ty e : TypeId) (i : TypeInfo) (size : Nat) (ht : P.underlying t = some (.slice e)) (hi : P.info? e = some i) (hsize : i.size = size)
    (g n cap : Nat) (xs : List Value) (hown : w.ownsRow base e size (.slice (some ⟨g, 0, none⟩) n cap) n xs)
    (x : Value) (m : Nat) (news : List Value) (hx : Sees w size x m news) (h1 : ∀ u ∈ news, u.oneCell' = true) (hroom : n + m ≤ cap) :
    ∃ w', (Builtin.append_ #[t, t] ty #[.slice (some ⟨g, 0, none⟩) n cap, x]).run P w = .ok (.slice (some ⟨g, 0, none⟩) (n + m) cap) w' ∧
      w'.ownsRow base e size (.slice (some ⟨g, 0, none⟩) (n + m) cap) (n + m) (xs ++ news) ∧ w.grownBy w' (some g) := by
  rcases hx.2 with ⟨rfl, rfl⟩ | ⟨b, o, s, c, rfl, h3, h4, h5, h6⟩
  · have hn : news = [] := List.eq_nil_of_length_eq_zero (by simpa using hx.1)
    subst hn
    subst hsize
    have hr := run_append_owned_none (P := P) (w := w) base t ty e i i.size ht hi _ n xs hown
    exact ⟨w, by simpa using hr, by simpa using hown, ⟨rfl, rfl, rfl, Nat.le_refl _, fun _ _ _ => rfl⟩⟩
  · refine run_append_fits (P := P) w base t ty e i size ht hi hsize g n cap xs hown ⟨b, o, s⟩ m c news hx.1 (fun j u hu => ?_) h1 hroom
    have hm : 0 < m := by
      rcases Nat.eq_zero_or_pos m with h0 | h0
      · subst h0
        have hx0 : news = [] := List.eq_nil_of_length_eq_zero (by simpa using hx.1)
        subst hx0; simp at hu
      · exact h0
    have hs := h3 (by omega)
    subst hs
    rw [addr_add]; exact h6 j u hu

theorem step_app_spare {ops : Array Oper} {o : Oper} {a : Act} {K : Act → World → Prop} {Q : Exit → Act → World → Prop} {E : Prop} (hgd : o.guard = none) (s x : Operand) (t : TypeId)
    (ho : o.op = .call { callee := .builtin .append, args := #[s, x], argTypes := #[t, t] })
    (base : Nat) (e : TypeId) (i : TypeInfo) (size : Nat) (ht : P.underlying t = some (.slice e)) (hi : P.info? e = some i) (hsize : i.size = size)
    (g n cap : Nat) (xs : List Value) (hs : a.eval s = .slice (some ⟨g, 0, none⟩) n cap) (hown : w.ownsRow base e size (.slice (some ⟨g, 0, none⟩) n cap) n xs)
    (vx : Value) (m : Nat) (news : List Value) (hx : a.eval x = vx) (hsee : Sees w size vx m news) (h1 : ∀ u ∈ news, u.oneCell' = true) (hroom : n + m ≤ cap)
    (h : ∀ w', w'.ownsRow base e size (.slice (some ⟨g, 0, none⟩) (n + m) cap) (n + m) (xs ++ news) → Upd [g] w w' → K (a.put o.dst (.slice (some ⟨g, 0, none⟩) (n + m) cap)) w') :
    if Region.wanted o (yielded ops a.tmps) = true then Oper.wp P o a w K Q else E := by
  have hw : Region.wanted o (yielded ops a.tmps) = true := by simp [Region.wanted, hgd]
  rw [if_pos hw]
  obtain ⟨w', hr, h2, h3⟩ := run_app_spare (P := P) w base t o.type e i size ht hi hsize g n cap xs hown vx m news hsee h1 hroom
  unfold Oper.wp execOp
  simp only [ho, resolve, invoke, builtin, Sem.run_bind, Sem.run_pure, Result.andThen_ok, List.map_toArray, List.map_cons, List.map_nil, hs, hx, hr]
  exact h w' h2 ((Upd.refl _ _).grown h3 fun k hk => .inl (by simpa using hk.symm))
end

section
variable {P : Program} {w : World} {base : Nat} {e : TypeId} {size g n C : Nat} {xs : List Value}

/-- A store behind the end of an owned row. -/
theorem own_set_behind (h : w.ownsRow base e size (.slice (some ⟨g, 0, none⟩) n C) n xs) (j : Nat) (u : Value) (hj : n * size ≤ j) : (w.setCell ⟨g, j, none⟩ u).ownsRow base e size (.slice (some ⟨g, 0, none⟩) n C) n xs := by
  have := (World.ownsRow.stored h j u).1
  rwa [List.set_eq_of_length_le (by rw [h.1]; exact hj)] at this

theorem own_sets_behind : ∀ (l : List Value) (w : World) (j : Nat), w.ownsRow base e size (.slice (some ⟨g, 0, none⟩) n C) n xs → n * size ≤ j → (w.setCells g j l).ownsRow base e size (.slice (some ⟨g, 0, none⟩) n C) n xs
  | [], _, _, h, _ => h
  | v :: l, w, j, h, hj => own_sets_behind l (w.setCell ⟨g, j, none⟩ v) (j + 1) (own_set_behind h j v hj) (by omega)

theorem upd_sets : ∀ (l : List Value) (w : World) (j : Nat), Upd [g] w (w.setCells g j l)
  | [], _, _ => Upd.refl _ _
  | v :: l, w, j => ((Upd.refl [g] w).setCell (p := ⟨g, j, none⟩) (.inl (by simp)) v).trans (upd_sets l _ (j + 1))

/-- 'clear' on a slice of n > 0 structs. -/
theorem run_clear_any (w : World) (t e ty : TypeId) (z : Value) (ht : P.underlying t = some (.slice e)) (hv : ∀ w, (zeroValue e).run P w = .ok z w) (hk : z.cells.size = size) (h1 : ∀ u ∈ z.cells.toList, u.oneCell' = true) (hsz : 0 < size) (b o n c : Nat) (hn : 0 < n)
    (hc : ∀ j, j < n * size → (w.cell? ⟨b, o + j, none⟩).isSome = true) (hf : ∀ j, j < n * size → w.frozen? ⟨b, o + j, none⟩ = false) :
    (Builtin.clear_ #[t] ty #[.slice (some ⟨b, o, none⟩) n c]).run P w = .ok (.tuple #[]) (w.setCells b o (Builtin.zeroCells z.cells n).toList) := by
  have hlen : (Builtin.zeroCells z.cells n).toList.length = n * size := by simp [Builtin.zeroCells, hk]
  have hone : ∀ v ∈ (Builtin.zeroCells z.cells n).toList, v.oneCell' = true := by
    intro v hv'
    simp only [Builtin.zeroCells, Array.toList_map, List.mem_map] at hv'
    obtain ⟨i, _, rfl⟩ := hv'
    refine h1 _ ?_
    have : i % z.cells.size < z.cells.size := Nat.mod_lt _ (by omega)
    rw [getElem!_pos z.cells (i % z.cells.size) this]
    exact Array.getElem_mem_toList this
  have hst := run_storeCells_cells (P := P) b o (Builtin.zeroCells z.cells n).toList 0 w (by rw [hlen]; simpa using hc) (by rw [hlen]; simpa using hf) hone
  simp only [Nat.add_zero] at hst
  obtain ⟨m, rfl⟩ : ∃ m, n = m + 1 := ⟨n - 1, by omega⟩
  simp [Builtin.clear_, run_underlying ht, hv, hst]

/-- The cells of an owned row's block, as far as its room goes. -/
theorem own_room (h : w.ownsRow base e size (.slice (some ⟨g, 0, none⟩) n C) n xs) (j : Nat) (hj : j < C * size) : (w.cell? ⟨g, j, none⟩).isSome = true ∧ w.frozen? ⟨g, j, none⟩ = false := by
  rcases h.2 with ⟨h2, _⟩ | ⟨g', cap, cur, h2, h3, h4, h5, h6, h7, h8⟩
  · cases h2
  · cases h2
    refine ⟨?_, World.ownsRow.frozenAt h j⟩
    have hlt : j < cur.size := by omega
    simp [World.cell?, h4, hlt]

/-- A slice cut at both ends, and its room. -/
theorem cut_three {t e : TypeId} {i : TypeInfo} (ht : P.underlying t = some (.slice e)) (hi : P.info? e = some i) (g n C k : Nat) (hk : k + 1 ≤ n) (hn : n ≤ C) :
    ∃ v, ∀ w, (Instr.slice t (.slice (some ⟨g, 0, none⟩) n C) (some (.int .i64 (k : Int))) (some (.int .i64 ((k : Int) + 1))) (some (.int .i64 (n : Int)))).run P w = .ok v w := by
  have hel : P.elem t = e := by simp [Program.elem, ht]
  refine ⟨sliced (some ⟨g, 0, none⟩) k (k + 1) n i.size, fun w => ?_⟩
  rw [run_slice_lhm w t (some ⟨g, 0, none⟩) n C (elem_of ht) .i64 .i64 .i64 _ _ _ (by omega) (by omega) (by omega) (by omega)]
  simp [hel, sizeOf, typeInfo, hi]

/-- What lies behind a row's end, as far as k. -/
theorem cut_behind {t e : TypeId} {i : TypeInfo} (ht : P.underlying t = some (.slice e)) (hi : P.info? e = some i) (hsize : i.size = size) (g n C k : Nat) (hk : n < k) (hn : k ≤ C) (w : World) :
    (Instr.slice t (.slice (some ⟨g, 0, none⟩) n C) (some (.int .i64 (n : Int))) (some (.int .i64 (k : Int))) none).run P w = .ok (.slice (some ⟨g, n * size, none⟩) (k - n) (C - n)) w := by
  subst hsize
  have hel : P.elem t = e := by simp [Program.elem, ht]
  rw [run_slice_lh w t (some ⟨g, 0, none⟩) n C (elem_of ht) .i64 .i64 _ _ (by omega) (by omega) (by omega)]
  have hne : ¬ C = n := by omega
  simp [hel, sizeOf, typeInfo, hi, sliced, addr_add, hne]
end
end Go.Proofs.YtjpjlfcjkgmhdaaGreat

namespace Go.Proofs.YtjpjlfcjkgmhdaaGreat
open Go.RowKit

theorem infoSpanD : (Tryz.prog.info? 39).map (fun i => (i.zero, i.size, i.bytes)) = some (some (.agg #[.int .i64 0, .int .i64 0, .int .u32 0]), 3, 24) := by kernel_rfl
theorem zeroSpanD : ∀ w, (zeroValue 39).run Tryz.prog w = .ok (.agg #[.int .i64 0, .int .i64 0, .int .u32 0]) w := fun w => (by kernel_rfl)

theorem kh_dropS (l : List Sp) (k : Nat) : KSp.all (l.drop k) = (KSp.all l).drop (k * 3) := KSp.all_drop l k

end Go.Proofs.YtjpjlfcjkgmhdaaGreat
