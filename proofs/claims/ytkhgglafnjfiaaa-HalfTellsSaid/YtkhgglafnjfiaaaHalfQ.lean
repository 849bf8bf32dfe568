/- Half, plainly: Add keeps what holds of it. -/
import Derived.Test.YtkhgglafnjfiaaaHalfP
namespace Go.Proofs.Ytkhgglafnjfiaaa

variable {α : Type}

/-- The first t places of the trees are emptied. -/
def clearTr (tr : List (Option (List Int))) (t : Nat) : List (Option (List Int)) := List.replicate (min t tr.length) none ++ tr.drop t

def addS1 (S : HS) (x : Int) : HS :=
  { cs := S.cs ++ [(x, S.al.length)], al := S.al ++ [true], lv := S.lv ++ [firstE (setB S.cs)], tr := clearTr S.tr (firstE (setB S.cs)), mp := mput S.mp x S.al.length, wk := S.wk + 2 ^ firstE (setB S.cs) }

def addS (S : HS) (x : Int) : HS := fillS (addS1 S x) (firstE (setB S.cs)) (gath (setB S.cs) (x, S.al.length))

theorem clear_get (tr : List (Option (List Int))) (t i : Nat) (h : t ≤ i) : (clearTr tr t)[i]? = tr[i]? := by
  unfold clearTr
  rcases Nat.lt_or_ge t tr.length with h1 | h1
  · rw [List.getElem?_append_right (by rw [List.length_replicate]; omega), List.length_replicate, List.getElem?_drop]
    congr 1
    omega
  · rw [List.drop_eq_nil_of_le h1, List.append_nil, List.getElem?_eq_none (by rw [List.length_replicate]; omega), List.getElem?_eq_none (by omega)]

theorem clear_len (tr : List (Option (List Int))) (t : Nat) : (clearTr tr t).length = tr.length := by
  unfold clearTr
  rw [List.length_append, List.length_replicate, List.length_drop]
  omega

theorem mdel_none {m : List (Int × Int)} {x : Int} (h : m.lookup x = none) : (m.filter fun p => p.1 != x) = m := by
  rw [List.filter_eq_self]
  intro p hp
  rw [List.lookup_eq_none_iff] at h
  have := h p hp
  simp at this ⊢
  exact fun e => this e.symm

theorem addB_lt {bs : List (List α)} {x : α} {i : Nat} (h : i < firstE bs) : (addB bs x)[i]? = some [] := by
  unfold addB
  rw [List.getElem?_append_left (by simpa using h), List.getElem?_replicate, if_pos h]

theorem addB_at' {bs : List (List α)} {x : α} : (addB bs x)[firstE bs]? = some (gath bs x) := by
  unfold addB
  rw [List.getElem?_append_right (by simp)]
  simp

theorem addB_gt {bs : List (List α)} {x : α} {i : Nat} (h : firstE bs < i) : (addB bs x)[i]? = bs[i]? := by
  unfold addB
  rw [List.getElem?_append_right (by simp; omega), List.length_replicate, show i - firstE bs = (i - firstE bs - 1) + 1 by omega, List.getElem?_cons_succ, List.getElem?_drop]
  congr 1
  omega

/-- The buckets behind an Add. -/
theorem bucket_add {cs : List α} {x : α} {i : Nat} (hi : i < bitsN (cs ++ [x]).length) :
    (i < firstE (setB cs) ∧ bucketOf (cs ++ [x]) i = []) ∨ (i = firstE (setB cs) ∧ bucketOf (cs ++ [x]) i = gath (setB cs) x) ∨ (firstE (setB cs) < i ∧ i < bitsN cs.length ∧ bucketOf (cs ++ [x]) i = bucketOf cs i) := by
  have h := setB_get (cs ++ [x]) i hi
  rw [← add_set] at h
  rcases Nat.lt_trichotomy i (firstE (setB cs)) with h1 | h1 | h1
  · rw [addB_lt h1] at h
    exact .inl ⟨h1, (Option.some.inj h).symm⟩
  · subst h1
    rw [addB_at'] at h
    exact .inr (.inl ⟨rfl, (Option.some.inj h).symm⟩)
  · rw [addB_gt h1] at h
    have hlt : i < bitsN cs.length := by
      have := (List.getElem?_eq_some_iff.1 h).1
      rwa [setB_len] at this
    rw [setB_get cs i hlt] at h
    exact .inr (.inr ⟨h1, hlt, (Option.some.inj h).symm⟩)

theorem HInv.add {S : HS} (h : HInv S) (x : Int) (hx : S.mp.lookup x = none) (hl : S.cs.length < 100000) : HInv (addS S x) := by
  have hnums : ((S.cs ++ [(x, S.al.length)]).map (·.2)).Pairwise (· < ·) := by
    rw [List.map_append, List.pairwise_append]
    refine ⟨h.nums, by simp, fun a ha b hb => ?_⟩
    obtain ⟨y, hy, rfl⟩ := List.mem_map.1 ha
    simp at hb
    subst hb
    exact h.lt y hy
  have hcong : ∀ b, (∀ y ∈ b, y ∈ S.cs) → liv (S.al ++ [true]) b = liv S.al b := fun b hb => liv_congr fun y hy => getD_snoc _ _ _ (h.lt y (hb y hy))
  have hliv : liv (S.al ++ [true]) (S.cs ++ [(x, S.al.length)]) = liv S.al S.cs ++ [(x, S.al.length)] := by
    rw [liv_app, hcong S.cs fun y hy => hy]
    have : liv (S.al ++ [true]) [(x, S.al.length)] = [(x, S.al.length)] := by
      unfold liv
      rw [List.filter_cons, if_pos (getD_last S.al true), List.filter_nil]
    rw [this]
  have hlt : ∀ y ∈ S.cs ++ [(x, S.al.length)], y.2 < (S.al ++ [true]).length := by
    intro y hy
    rw [List.length_append]
    rcases List.mem_append.1 hy with hy | hy
    · have := h.lt y hy; simp; omega
    · simp at hy; subst hy; simp
  have hb20 : firstE (setB S.cs) ≤ 17 := by
    have h1 := firstE_le (setB S.cs)
    rw [setB_len] at h1
    have h2 := bitsN_le S.cs.length 17 (by omega)
    omega
  refine ⟨hnums, hlt, ?_, ?_, nodup_mput h.keys x _, ?_, ?_, ?_⟩
  · show (lvSet (S.lv ++ [firstE (setB S.cs)]) (firstE (setB S.cs)) (gath (setB S.cs) (x, S.al.length))).length = (S.al ++ [true]).length
    rw [lvSet_len, List.length_append, List.length_append, h.lvl]
    rfl
  · show (mput S.mp x S.al.length).Perm _
    unfold mput
    rw [mdel_none hx]
    show ((x, (S.al.length : Int)) :: S.mp).Perm ((liv (S.al ++ [true]) (S.cs ++ [(x, S.al.length)])).map fun y => (y.1, (y.2 : Int)))
    rw [hliv, List.map_append]
    exact (List.Perm.cons _ h.mpp).trans (List.perm_append_singleton _ _).symm
  · intro i hi hne
    show (addS S x).tr[i]? = some (some (sortI (live (S.al ++ [true]) (bucketOf (S.cs ++ [(x, S.al.length)]) i))))
    change bucketOf (S.cs ++ [(x, S.al.length)]) i ≠ [] at hne
    rcases bucket_add hi with ⟨h1, h2⟩ | ⟨h1, h2⟩ | ⟨h1, h2, h3⟩
    · exact absurd h2 hne
    · rw [h2, h1]
      exact fill_at _ _ _
    · rw [h3] at hne ⊢
      refine fill_other _ _ _ _ _ (by omega) ?_
      show (clearTr S.tr (firstE (setB S.cs)))[i]? = _
      rw [clear_get _ _ _ (by omega), h.trees i h2 hne]
      unfold live
      rw [hcong _ fun y hy => bucket_mem hy]
  · intro i hi y hy
    change y ∈ bucketOf (S.cs ++ [(x, S.al.length)]) i at hy
    show (lvSet (S.lv ++ [firstE (setB S.cs)]) (firstE (setB S.cs)) (gath (setB S.cs) (x, S.al.length)))[y.2]? = some i
    have hyl := hlt y (bucket_mem hy)
    rw [List.length_append] at hyl
    rcases bucket_add hi with ⟨h1, h2⟩ | ⟨h1, h2⟩ | ⟨h1, h2, h3⟩
    · rw [h2] at hy; simp at hy
    · rw [h2] at hy
      rw [lvSet_same _ _ _ _ ⟨y, hy, rfl⟩ (by rw [List.length_append, h.lvl]; exact hyl), h1]
    · have hb : firstE (setB S.cs) < bitsN (S.cs ++ [(x, S.al.length)]).length := by
        change i < bitsN (S.cs ++ [(x, S.al.length)]).length at hi
        omega
      have hg : bucketOf (S.cs ++ [(x, S.al.length)]) (firstE (setB S.cs)) = gath (setB S.cs) (x, S.al.length) := by
        rcases bucket_add hb with ⟨g1, _⟩ | ⟨_, g2⟩ | ⟨g1, _⟩
        · omega
        · exact g2
        · omega
      rw [lvSet_other _ _ _ _ fun z hz e => buckets_apart hnums hb hi (by omega) (by rw [hg]; exact hz) hy e]
      rw [h3] at hy
      have hyc := h.lt y (bucket_mem hy)
      rw [List.getElem?_append_left (by rw [h.lvl]; exact hyc)]
      exact h.levs i h2 y hy
  · show (fillS (addS1 S x) _ _).tr.length ≤ 20
    rw [fill_len]
    show max (clearTr S.tr (firstE (setB S.cs))).length _ ≤ 20
    rw [clear_len]
    have := h.trl
    omega
end Go.Proofs.Ytkhgglafnjfiaaa
