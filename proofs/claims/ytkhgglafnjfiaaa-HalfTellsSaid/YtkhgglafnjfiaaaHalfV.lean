/- Half, plainly: Drop's last part; and what is seen of a Half from without. -/
import Derived.Test.YtkhgglafnjfiaaaHalfR
namespace Go.Proofs.Ytkhgglafnjfiaaa

theorem erase_num : ∀ (L : List (Int × Nat)) (x : Int) (k : Nat), L.Pairwise (fun a b => a.2 ≠ b.2) → (∀ y ∈ L, y.1 = x ↔ y.2 = k) → (L.map (·.1)).erase x = (L.filter fun y => y.2 != k).map (·.1)
  | [], _, _, _, _ => rfl
  | y :: L, x, k, hp, h => by
    rw [List.pairwise_cons] at hp
    by_cases e : y.1 = x
    · have hk := (h y (by simp)).1 e
      have hf : (L.filter fun y => y.2 != k) = L := by
        rw [List.filter_eq_self]
        intro z hz
        rw [bne_iff_ne]
        exact fun e2 => hp.1 z hz (by rw [hk, e2])
      rw [List.map_cons, e, List.erase_cons_head, List.filter_cons, if_neg (by simp [hk]), hf]
    · have hk : y.2 ≠ k := fun e2 => e ((h y (by simp)).2 e2)
      rw [List.map_cons, List.erase_cons_tail (by simpa using e), List.filter_cons, if_pos (by simpa using hk), List.map_cons, erase_num L x k hp.2 fun z hz => h z (by simp [hz])]

theorem HInv.at {S : HS} (h : HInv S) {x : Int} {k : Nat} (hk : S.mp.lookup x = some (k : Int)) :
    ∃ i, i < bitsN S.cs.length ∧ (x, k) ∈ bucketOf S.cs i ∧ S.lv[k]? = some i ∧ S.al.getD k false = true ∧ S.tr[i]? = some (some (sortI (live S.al (bucketOf S.cs i)))) := by
  obtain ⟨y, hy, h1, h2, h3⟩ := h.core.look.1 hk
  have e2 : y.2 = k := by omega
  obtain ⟨i, hi, hb⟩ := mem_bucket hy
  have e : y = (x, k) := by rw [← h1, ← e2]
  rw [e] at hb h3
  have hl := h.levs i hi _ hb
  exact ⟨i, hi, hb, hl, h3, h.trees i hi (fun e0 => by rw [e0] at hb; simp at hb)⟩

theorem HInv.drop {S : HS} (h : HInv S) {x : Int} {k : Nat} (hk : S.mp.lookup x = some (k : Int)) (hl : S.cs.length < 100000) : HInv (dropS S x k) := by
  have hc := h.core.drop1 hk
  unfold dropS
  split
  · exact hc.anew hl
  · obtain ⟨i0, hi0, hb0, hlv, hal, htr⟩ := h.at hk
    have hgl : S.lv.getD k 0 = i0 := by rw [List.getD_eq_getElem?_getD, hlv]; rfl
    have hti : i0 < S.tr.length := (List.getElem?_eq_some_iff.1 htr).1
    refine ⟨hc.nums, hc.lt, hc.lvl, hc.mpp, hc.keys, ?_, h.levs, ?_⟩
    · intro i hi hne
      change i < bitsN S.cs.length at hi
      change bucketOf S.cs i ≠ [] at hne
      show (S.tr.set (S.lv.getD k 0) ((S.tr.getD (S.lv.getD k 0) none).map fun l => l.erase x))[i]? = some (some (sortI (live (S.al.set k false) (bucketOf S.cs i))))
      rw [hgl]
      by_cases e : i = i0
      · subst e
        rw [List.getElem?_set_self hti, List.getD_eq_getElem?_getD, htr]
        show some (some ((sortI (live S.al (bucketOf S.cs i))).erase x)) = _
        rw [sortI_erase]
        unfold live
        rw [liv_set, erase_num]
        · have h1 : S.cs.Pairwise fun a b => a.2 ≠ b.2 := (List.pairwise_map.1 h.nums).imp fun h => Nat.ne_of_lt h
          have h2 : (bucketOf S.cs i).Sublist S.cs := by
            unfold bucketOf
            split
            · exact (List.take_sublist _ _).trans (List.drop_sublist _ _)
            · exact List.nil_sublist _
          exact h1.sublist (List.filter_sublist.trans h2)
        · intro y hy
          unfold liv at hy
          rw [List.mem_filter] at hy
          have hyc := bucket_mem hy.1
          have h0c := bucket_mem hb0
          constructor
          · intro e; exact h.core.one hyc h0c hy.2 hal e
          · intro e; rw [h.core.same hyc h0c e]
      · rw [List.getElem?_set_ne (Ne.symm e), h.trees i hi hne]
        congr 3
        unfold live
        rw [liv_set]
        congr 1
        rw [eq_comm, List.filter_eq_self]
        intro y hy
        unfold liv at hy
        rw [List.mem_filter] at hy
        rw [bne_iff_ne]
        exact buckets_apart h.nums hi hi0 e hy.1 hb0
    · show (S.tr.set _ _).length ≤ 20
      rw [List.length_set]; exact h.trl

/-- What is stored, in order, and whether it is alive. -/
def view (S : HS) : List (Int × Bool) := S.cs.map fun y => (y.1, S.al.getD y.2 false)

def vAll (V : List (Int × Bool)) : List Int := (V.filter (·.2)).map (·.1)
def vKill (V : List (Int × Bool)) (x : Int) : List (Int × Bool) := V.map fun p => if p.1 = x then (p.1, false) else p
def vDrop (V : List (Int × Bool)) (x : Int) : List (Int × Bool) := if 2 * (vAll (vKill V x)).length < V.length then (vAll (vKill V x)).map fun y => (y, true) else vKill V x

theorem view_len (S : HS) : (view S).length = S.cs.length := by simp [view]

theorem view_all (S : HS) : vAll (view S) = live S.al S.cs := by
  unfold vAll view live liv
  rw [List.filter_map, List.map_map]
  rfl

theorem HCore.mp_len {S : HS} (h : HCore S) : S.mp.length = (vAll (view S)).length := by
  rw [view_all, h.mpp.length_eq]
  simp [live]

theorem HCore.there {S : HS} (h : HCore S) (x : Int) : (S.mp.lookup x).isSome = decide ((x, true) ∈ view S) := by
  have h1 : (x, true) ∈ view S ↔ ∃ k, S.mp.lookup x = some k := by
    unfold view
    rw [List.mem_map]
    constructor
    · rintro ⟨y, hy, e⟩
      simp only [Prod.mk.injEq] at e
      exact ⟨_, h.look.2 ⟨y, hy, e.1, rfl, e.2⟩⟩
    · rintro ⟨k, hk⟩
      obtain ⟨y, hy, h1, h2, h3⟩ := h.look.1 hk
      exact ⟨y, hy, by rw [h1, h3]⟩
  rw [Bool.eq_iff_iff, decide_eq_true_iff, h1, Option.isSome_iff_exists]

theorem HCore.num {S : HS} (h : HCore S) {x k : Int} (hk : S.mp.lookup x = some k) : ∃ n : Nat, k = n ∧ n < S.al.length := by
  obtain ⟨y, hy, h1, h2, h3⟩ := h.look.1 hk
  exact ⟨y.2, h2.symm, h.lt y hy⟩

theorem view_add {S : HS} (h : HInv S) (x : Int) : view (addS S x) = view S ++ [(x, true)] := by
  show (S.cs ++ [(x, S.al.length)]).map (fun y => (y.1, (S.al ++ [true]).getD y.2 false)) = _
  rw [List.map_append]
  unfold view
  congr 1
  · exact List.map_congr_left fun y hy => by rw [getD_snoc _ _ _ (h.lt y hy)]
  · rw [List.map_cons, List.map_nil, getD_last]

theorem view_drop1 {S : HS} (h : HCore S) {x : Int} {k : Nat} (hk : S.mp.lookup x = some (k : Int)) : view (dropS1 S x k) = vKill (view S) x := by
  obtain ⟨z, hz, hz1, hz2, hz3⟩ := h.look.1 hk
  show S.cs.map (fun y => (y.1, (S.al.set k false).getD y.2 false)) = _
  unfold vKill view
  rw [List.map_map]
  refine List.map_congr_left fun y hy => ?_
  show (y.1, (S.al.set k false).getD y.2 false) = if y.1 = x then (y.1, false) else (y.1, S.al.getD y.2 false)
  rw [getD_set]
  by_cases e : y.1 = x
  · rw [if_pos e]
    by_cases ha : S.al.getD y.2 false = true
    · have := h.one hy hz ha hz3 (by rw [e, hz1])
      rw [show y.2 = k by omega]; simp
    · simp at ha
      simp [ha]
  · rw [if_neg e]
    have : y.2 ≠ k := by
      intro e2
      have := h.same hy hz (by omega)
      exact e (by rw [this, hz1])
    rw [bne_iff_ne.2 this, Bool.and_true]

theorem view_anew {S : HS} : view (anewS S) = (vAll (view S)).map fun y => (y, true) := by
  obtain ⟨k1, k2, k3, k4, k5⟩ := anewTo_keep (anewS0 S) (bitsN (liv S.al S.cs).length)
  unfold anewS view
  rw [k1, k2]
  have := view_all S
  unfold view at this
  rw [this]
  unfold live
  rw [List.map_map]
  refine List.map_congr_left fun y hy => ?_
  have hy' : y ∈ liv S.al S.cs := hy
  unfold liv at hy'
  rw [List.mem_filter] at hy'
  show (y.1, S.al.getD y.2 false) = (y.1, true)
  rw [hy'.2]

theorem view_drop {S : HS} (h : HInv S) {x : Int} {k : Nat} (hk : S.mp.lookup x = some (k : Int)) : view (dropS S x k) = vDrop (view S) x := by
  have h1 := view_drop1 h.core hk
  have hc := (h.core.drop1 hk).mp_len
  rw [h1] at hc
  unfold dropS vDrop
  rw [← hc, view_len]
  show view (if 2 * (mdel S.mp x).length < S.cs.length then _ else _) = if 2 * (mdel S.mp x).length < S.cs.length then _ else _
  split
  · rw [view_anew, h1]
  · exact h1

/-- How many are placed. -/
theorem wk_drop {S : HS} (h : HInv S) {x : Int} {k : Nat} (hk : S.mp.lookup x = some (k : Int)) :
    (dropS S x k).wk = S.wk + (if 2 * (vAll (vKill (view S) x)).length < (view S).length then (vAll (vKill (view S) x)).length else 0) := by
  have h1 := view_drop1 h.core hk
  have hc := (h.core.drop1 hk).mp_len
  rw [h1] at hc
  unfold dropS
  rw [← hc, view_len]
  show (if 2 * (mdel S.mp x).length < S.cs.length then _ else _ : HS).wk = S.wk + if 2 * (mdel S.mp x).length < S.cs.length then (mdel S.mp x).length else 0
  split
  · obtain ⟨_, _, _, k4, _⟩ := anewTo_keep (anewS0 (dropS1 S x k)) (bitsN (liv (dropS1 S x k).al (dropS1 S x k).cs).length)
    unfold anewS
    rw [k4]
    show S.wk + (liv (dropS1 S x k).al (dropS1 S x k).cs).length = _
    have := (h.core.drop1 hk).mpp.length_eq
    rw [List.length_map] at this
    rw [← this]
    rfl
  · rfl
end Go.Proofs.Ytkhgglafnjfiaaa
