/- ivl.Drop: down the tree, to the knot that has the span. -/
import Derived.Test.YtjpjlfcjkgmhdaaIvlB
import Derived.Test.YtjpjlfcjkgmhdaaDelF
import Derived.Test.YtjpjlfcjkgmhdaaQuietU
namespace Go.Proofs.Ytjpjlfcjkgmhdaa
open Go.RowKit

/-- The way down to a part of a tree: what a drop in the part leaves is the tree after the drop. -/
structure HoleK (w : World) (x : Sp) (T : Kn) (p : Value) (F : List Nat) (T' : Kn) (p' : Value) (F' : List Nat) (S' : List Sp) : Prop where
  here : KnAt w T' p' F'
  sub : ∀ k ∈ F', k ∈ F
  ok : T'.ok S'
  has : x ∈ S'
  nodup : S'.Nodup
  few : S'.length ≤ 1000
  plug : ∀ w'', Upd F' w w'' → KnAt w'' (T'.drop x) p' F' → KnAt w'' (T.drop x) p F

theorem HoleK.start {w : World} {x : Sp} {T : Kn} {p : Value} {F : List Nat} {S : List Sp} (h : KnAt w T p F) (ho : T.ok S) (hx : x ∈ S) (hn : S.Nodup) (hf : S.length ≤ 1000) : HoleK w x T p F T p F S :=
  ⟨h, fun _ hk => hk, ho, hx, hn, hf, fun _ _ hk => hk⟩

theorem HoleK.node {w : World} {x : Sp} {T : Kn} {p : Value} {F : List Nat} {T' : Kn} {p' : Value} {F' : List Nat} {S' : List Sp} (h : HoleK w x T p F T' p' F' S') :
    ∃ m lo hi l r, T' = .node m lo hi l r := by
  cases T' with
  | nil => have h1 := h.ok; have h2 := h.has; rw [show S' = [] from h1] at h2; simp at h2
  | node m lo hi l r => exact ⟨m, lo, hi, l, r, rfl⟩

theorem knat_parts {b : Nat} {vlo vhi : Value} {Fl Fr : List Nat} (hn : (b :: (blk vlo ++ (blk vhi ++ (Fl ++ Fr)))).Nodup) :
    (b ∉ blk vlo ∧ b ∉ blk vhi ∧ b ∉ Fl ∧ b ∉ Fr) ∧ (∀ k ∈ blk vlo, k ∉ blk vhi ∧ k ∉ Fl ∧ k ∉ Fr) ∧ (∀ k ∈ blk vhi, k ∉ Fl ∧ k ∉ Fr) ∧ ∀ k ∈ Fl, k ∉ Fr := by
  rw [List.nodup_cons, List.nodup_append, List.nodup_append, List.nodup_append] at hn
  obtain ⟨h1, -, ⟨-, ⟨-, -, h4⟩, h3⟩, h2⟩ := hn
  simp only [List.mem_append] at h1 h2 h3
  refine ⟨⟨fun hc => h1 (.inl hc), fun hc => h1 (.inr (.inl hc)), fun hc => h1 (.inr (.inr (.inl hc))), fun hc => h1 (.inr (.inr (.inr hc)))⟩, fun k hk => ⟨fun hc => h2 k hk k (.inl hc) rfl, fun hc => h2 k hk k (.inr (.inl hc)) rfl, fun hc => h2 k hk k (.inr (.inr hc)) rfl⟩,
    fun k hk => ⟨fun hc => h3 k hk k (.inl hc) rfl, fun hc => h3 k hk k (.inr hc) rfl⟩, fun k hk hc => h4 k hk k hc rfl⟩

/-- A knot on the way. -/
structure KnotOn (w : World) (x : Sp) (T : Kn) (p : Value) (F : List Nat) (m : Int) (lo hi : List Sp) (l r : Kn) (S' : List Sp) (b : Nat) (vlo vhi pl pr : Value) (Fl Fr : List Nat) : Prop where
  head : w.heap[b]? = some (.cells #[.int .i64 m, vlo, vhi, pl, pr] 68 (0, 0))
  rlo : KSp.row w 0 vlo lo
  rhi : KSp.row w 0 vhi hi
  left : x.hi < m → HoleK w x T p F l pl Fl (lessS m S')
  right : ¬ x.hi < m → m < x.lo → HoleK w x T p F r pr Fr (moreS m S')
  inF : ∀ k, k = b ∨ k ∈ blk vlo ∨ k ∈ blk vhi → k ∈ F
  blo : b ∉ blk vlo
  bhi : b ∉ blk vhi
  lh : ∀ k ∈ blk vlo, k ∉ blk vhi
  flo : lo.length ≤ 1000
  fhi : hi.length ≤ 1000
  nlo : lo.Nodup
  nhi : hi.Nodup
  xlo : ¬ x.hi < m → ¬ m < x.lo → x ∈ lo
  xhi : ¬ x.hi < m → ¬ m < x.lo → x ∈ hi
  hit : ¬ x.hi < m → ¬ m < x.lo → ∀ (w'' : World) (vn1 vn2 : Value), Upd (b :: (blk vlo ++ blk vhi)) w w'' → w''.heap[b]? = some (.cells #[.int .i64 m, vn1, vn2, pl, pr] 68 (0, 0)) → KSp.row w'' 0 vn1 (without lo x) → KSp.row w'' 0 vn2 (without hi x) →
    blk vn1 = blk vlo → blk vn2 = blk vhi → KnAt w'' (T.drop x) p F

theorem HoleK.open {w : World} {x : Sp} {T : Kn} {p : Value} {F : List Nat} {m : Int} {lo hi : List Sp} {l r : Kn} {p' : Value} {F' : List Nat} {S' : List Sp} (h : HoleK w x T p F (.node m lo hi l r) p' F' S') :
    ∃ (b : Nat) (vlo vhi pl pr : Value) (Fl Fr : List Nat), p' = .pointer (some ⟨b, 0, none⟩) ∧ KnotOn w x T p F m lo hi l r S' b vlo vhi pl pr Fl Fr := by
  obtain ⟨b, vlo, vhi, pl, pr, Fl, Fr, rfl, h1, ⟨h2, h3⟩, h4, h5, rfl, h6⟩ := h.here
  obtain ⟨⟨o1, o2⟩, ⟨o3, o4⟩, o5, o6⟩ := h.ok
  obtain ⟨⟨a1, a2, a3, a4⟩, a5, a6, a7⟩ := knat_parts h6
  have hsub := h.sub
  have hplug := h.plug
  have hhas := h.has
  have hnod := h.nodup
  simp only [List.mem_cons, List.mem_append] at hsub
  have hmid : ¬ x.hi < m → ¬ m < x.lo → x ∈ midS m S' := fun c1 c2 => by unfold midS; rw [List.mem_filter]; exact ⟨hhas, by simp; omega⟩
  refine ⟨b, vlo, vhi, pl, pr, Fl, Fr, rfl, ⟨h1, h2, h3, fun c1 => ?_, fun c1 c2 => ?_, fun k hk => ?_, a1, a2, fun k hk => (a5 k hk).1, by rw [o1.length_eq]; exact Nat.le_trans (List.length_filter_le _ _) h.few, by rw [o3.length_eq]; exact Nat.le_trans (List.length_filter_le _ _) h.few, o1.nodup_iff.2 (hnod.filter _), o3.nodup_iff.2 (hnod.filter _),
    fun c1 c2 => o1.mem_iff.2 (hmid c1 c2), fun c1 c2 => o3.mem_iff.2 (hmid c1 c2), fun c1 c2 w'' vn1 vn2 hu hh r1 r2 e1 e2 => ?_⟩⟩
  · refine ⟨h4, fun k hk => hsub k (.inr (.inr (.inr (.inl hk)))), o5, by unfold lessS; rw [List.mem_filter]; exact ⟨hhas, by simpa using c1⟩, hnod.filter _, Nat.le_trans (List.length_filter_le _ _) h.few, fun w'' hu hk => hplug w'' (hu.mono fun y hy => .inl (by simp only [List.mem_cons, List.mem_append]; exact .inr (.inr (.inr (.inl hy))))) ?_⟩
    unfold Kn.drop
    rw [if_pos c1]
    exact ⟨b, vlo, vhi, pl, pr, Fl, Fr, rfl, (hu.block b (lt_of_block h1) a3).trans h1, ⟨own_upd h2 hu (fun k hk => (a5 k hk).2.1), own_upd h3 hu (fun k hk => (a6 k hk).1)⟩, hk, h5.upd hu (fun k hk hc => a7 k hc hk), rfl, h6⟩
  · refine ⟨h5, fun k hk => hsub k (.inr (.inr (.inr (.inr hk)))), o6, by unfold moreS; rw [List.mem_filter]; exact ⟨hhas, by simp; omega⟩, hnod.filter _, Nat.le_trans (List.length_filter_le _ _) h.few, fun w'' hu hk => hplug w'' (hu.mono fun y hy => .inl (by simp only [List.mem_cons, List.mem_append]; exact .inr (.inr (.inr (.inr hy))))) ?_⟩
    unfold Kn.drop
    rw [if_neg c1, if_pos c2]
    exact ⟨b, vlo, vhi, pl, pr, Fl, Fr, rfl, (hu.block b (lt_of_block h1) a4).trans h1, ⟨own_upd h2 hu (fun k hk => (a5 k hk).2.2), own_upd h3 hu (fun k hk => (a6 k hk).2)⟩, h4.upd hu (fun k hk => a7 k hk), hk, rfl, h6⟩
  · rcases hk with hk | hk | hk
    · exact hsub k (.inl hk)
    · exact hsub k (.inr (.inl hk))
    · exact hsub k (.inr (.inr (.inl hk)))
  · have hnu : ∀ {k : Nat}, (k ∈ Fl ∨ k ∈ Fr) → k ∉ b :: (blk vlo ++ blk vhi) := fun hk hc => by
      simp only [List.mem_cons, List.mem_append] at hc
      rcases hk with hk | hk <;> rcases hc with rfl | hc | hc
      · exact a3 hk
      · exact (a5 _ hc).2.1 hk
      · exact (a6 _ hc).1 hk
      · exact a4 hk
      · exact (a5 _ hc).2.2 hk
      · exact (a6 _ hc).2 hk
    refine hplug w'' (hu.mono fun y hy => .inl (by simp only [List.mem_cons, List.mem_append] at hy ⊢; rcases hy with hy | hy | hy; exact .inl hy; exact .inr (.inl hy); exact .inr (.inr (.inl hy)))) ?_
    unfold Kn.drop
    rw [if_neg c1, if_neg c2]
    exact ⟨b, vn1, vn2, pl, pr, Fl, Fr, rfl, hh, ⟨r1, r2⟩, h4.upd hu (fun k hk => hnu (.inl hk)), h5.upd hu (fun k hk => hnu (.inr hk)), by rw [e1, e2], h6⟩
end Go.Proofs.Ytjpjlfcjkgmhdaa
