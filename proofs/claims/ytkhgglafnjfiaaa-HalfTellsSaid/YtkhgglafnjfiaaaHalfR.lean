/- Half, plainly: Drop keeps what holds of it. -/
import Derived.Test.YtkhgglafnjfiaaaHalfQ
namespace Go.Proofs.Ytkhgglafnjfiaaa

def dropS1 (S : HS) (x : Int) (k : Nat) : HS := { S with al := S.al.set k false, mp := mdel S.mp x }
def strike (S : HS) (k : Nat) (x : Int) : HS := { S with tr := S.tr.set (S.lv.getD k 0) ((S.tr.getD (S.lv.getD k 0) none).map fun l => l.erase x) }
def anewS0 (S : HS) : HS := { S with cs := liv S.al S.cs, wk := S.wk + (liv S.al S.cs).length, tr := [] }
def anewStep (S : HS) (i : Nat) : HS := if (bucketOf S.cs i).isEmpty then S else fillS S i (bucketOf S.cs i)
def anewTo (S : HS) (n : Nat) : HS := (List.range n).foldl anewStep S
def anewS (S : HS) : HS := anewTo (anewS0 S) (bitsN (liv S.al S.cs).length)
def dropS (S : HS) (x : Int) (k : Nat) : HS := if 2 * (mdel S.mp x).length < S.cs.length then anewS (dropS1 S x k) else strike (dropS1 S x k) k x

/-- What holds of a Half whose trees may be wrong. -/
structure HCore (S : HS) : Prop where
  nums : (S.cs.map (·.2)).Pairwise (· < ·)
  lt : ∀ y ∈ S.cs, y.2 < S.al.length
  lvl : S.lv.length = S.al.length
  mpp : S.mp.Perm ((liv S.al S.cs).map fun y => (y.1, (y.2 : Int)))
  keys : (S.mp.map (·.1)).Nodup

theorem HInv.core {S : HS} (h : HInv S) : HCore S := ⟨h.nums, h.lt, h.lvl, h.mpp, h.keys⟩

theorem mem_lookup {m : List (Int × Int)} (h : (m.map (·.1)).Nodup) {x k : Int} : m.lookup x = some k ↔ (x, k) ∈ m := by
  induction m with
  | nil => simp
  | cons a m ih =>
    rcases a with ⟨y, v⟩
    rw [List.map_cons, List.nodup_cons] at h
    have ih := ih h.2
    rw [List.lookup_cons, List.mem_cons]
    by_cases hy : x = y
    · subst hy
      simp only [beq_self_eq_true, Prod.mk.injEq, true_and]
      constructor
      · intro e; exact .inl (Option.some.inj e).symm
      · rintro (e | e)
        · rw [e]
        · exact absurd (List.mem_map.2 ⟨_, e, rfl⟩) h.1
    · have : (x == y) = false := by simpa using hy
      rw [this]
      simp only [Prod.mk.injEq, hy, false_and, false_or]
      exact ih

/-- What is alive, and its number. -/
theorem HCore.look {S : HS} (h : HCore S) {x k : Int} : S.mp.lookup x = some k ↔ ∃ y ∈ S.cs, y.1 = x ∧ (y.2 : Int) = k ∧ S.al.getD y.2 false = true := by
  rw [mem_lookup h.keys, h.mpp.mem_iff, List.mem_map]
  unfold liv
  constructor
  · rintro ⟨y, hy, e⟩
    rw [List.mem_filter] at hy
    cases e
    exact ⟨y, hy.1, rfl, rfl, hy.2⟩
  · rintro ⟨y, hy, rfl, rfl, ha⟩
    exact ⟨y, List.mem_filter.2 ⟨hy, ha⟩, rfl⟩

theorem HCore.one {S : HS} (h : HCore S) {y z : Int × Nat} (hy : y ∈ S.cs) (hz : z ∈ S.cs) (ha : S.al.getD y.2 false = true) (hb : S.al.getD z.2 false = true) (e : y.1 = z.1) : y.2 = z.2 := by
  have h1 := h.look.2 ⟨y, hy, rfl, rfl, ha⟩
  have h2 := h.look.2 ⟨z, hz, rfl, rfl, hb⟩
  rw [e, h2] at h1
  have := Option.some.inj h1
  omega

theorem HCore.same {S : HS} (h : HCore S) {y z : Int × Nat} (hy : y ∈ S.cs) (hz : z ∈ S.cs) (e : y.2 = z.2) : y = z := by
  have h1 : S.cs.Pairwise fun a b => a.2 < b.2 := List.pairwise_map.1 h.nums
  rw [List.pairwise_iff_getElem] at h1
  obtain ⟨i, hi, rfl⟩ := List.mem_iff_getElem.1 hy
  obtain ⟨j, hj, rfl⟩ := List.mem_iff_getElem.1 hz
  rcases Nat.lt_trichotomy i j with h2 | h2 | h2
  · have := h1 i j hi hj h2; omega
  · subst h2; rfl
  · have := h1 j i hj hi h2; omega

theorem getD_set (al : List Bool) (k j : Nat) : (al.set k false).getD j false = (al.getD j false && j != k) := by
  rw [List.getD_eq_getElem?_getD, List.getD_eq_getElem?_getD]
  by_cases h : j = k
  · subst h
    rcases Nat.lt_or_ge j al.length with h1 | h1
    · rw [List.getElem?_set_self h1]; simp
    · rw [List.getElem?_eq_none (by rw [List.length_set]; exact h1)]; simp
  · rw [List.getElem?_set_ne (Ne.symm h)]
    simp [h]

theorem liv_set (al : List Bool) (k : Nat) (b : List (Int × Nat)) : liv (al.set k false) b = (liv al b).filter fun y => y.2 != k := by
  unfold liv
  rw [List.filter_filter]
  exact List.filter_congr fun y _ => by rw [getD_set, Bool.and_comm]

theorem HCore.drop1 {S : HS} (h : HCore S) {x : Int} {k : Nat} (hk : S.mp.lookup x = some (k : Int)) : HCore (dropS1 S x k) := by
  refine ⟨h.nums, fun y hy => ?_, ?_, ?_, nodup_mdel h.keys x⟩
  · show y.2 < (S.al.set k false).length
    rw [List.length_set]; exact h.lt y hy
  · show S.lv.length = (S.al.set k false).length
    rw [List.length_set]; exact h.lvl
  · show (mdel S.mp x).Perm ((liv (S.al.set k false) S.cs).map fun y => (y.1, (y.2 : Int)))
    have h1 : ((liv S.al S.cs).map fun y => (y.1, (y.2 : Int))).filter (fun p => p.1 != x) = (liv (S.al.set k false) S.cs).map fun y => (y.1, (y.2 : Int)) := by
      rw [liv_set, List.filter_map]
      congr 1
      refine List.filter_congr fun y hy => ?_
      unfold liv at hy
      rw [List.mem_filter] at hy
      obtain ⟨z, hz, hz1, hz2, hz3⟩ := h.look.1 hk
      show (y.1 != x) = (y.2 != k)
      by_cases e : y.1 = x
      · have := h.one hy.1 hz hy.2 hz3 (by rw [e, hz1])
        rw [e, show y.2 = k by omega]; simp
      · have : y.2 ≠ k := by
          intro e2
          have := h.same hy.1 hz (by omega)
          exact e (by rw [this, hz1])
        rw [bne_iff_ne.2 e, bne_iff_ne.2 this]
    rw [← h1]
    exact h.mpp.filter _

theorem HCore.anew0 {S : HS} (h : HCore S) : HCore (anewS0 S) := by
  have hsub : (liv S.al S.cs).Sublist S.cs := List.filter_sublist
  refine ⟨h.nums.sublist (hsub.map _), fun y hy => h.lt y (hsub.subset hy), h.lvl, ?_, h.keys⟩
  show S.mp.Perm ((liv S.al (liv S.al S.cs)).map fun y => (y.1, (y.2 : Int)))
  have : liv S.al (liv S.al S.cs) = liv S.al S.cs := by unfold liv; rw [List.filter_filter]; simp
  rw [this]
  exact h.mpp

theorem anewTo_succ (S : HS) (n : Nat) : anewTo S (n + 1) = anewStep (anewTo S n) n := by unfold anewTo; rw [List.range_succ, List.foldl_append]; rfl

theorem anewTo_keep (S : HS) (n : Nat) : (anewTo S n).cs = S.cs ∧ (anewTo S n).al = S.al ∧ (anewTo S n).mp = S.mp ∧ (anewTo S n).wk = S.wk ∧ (anewTo S n).lv.length = S.lv.length := by
  induction n with
  | zero => exact ⟨rfl, rfl, rfl, rfl, rfl⟩
  | succ n ih =>
    rw [anewTo_succ]
    unfold anewStep
    split
    · exact ih
    · obtain ⟨h1, h2, h3, h4, h5⟩ := ih
      exact ⟨h1, h2, h3, h4, by unfold fillS; simp only [lvSet_len]; exact h5⟩

theorem anewTo_trees {S : HS} (h : HCore S) (h0 : S.tr = []) (n : Nat) (hn : n ≤ bitsN S.cs.length) :
    (∀ i, i < n → bucketOf S.cs i ≠ [] → (anewTo S n).tr[i]? = some (some (sortI (live S.al (bucketOf S.cs i))))) ∧ (∀ i, i < n → ∀ y ∈ bucketOf S.cs i, (anewTo S n).lv[y.2]? = some i) ∧ (anewTo S n).tr.length ≤ n := by
  induction n with
  | zero => exact ⟨fun i hi => by omega, fun i hi => by omega, by show S.tr.length ≤ 0; rw [h0]; simp⟩
  | succ n ih =>
    obtain ⟨i1, i2, i3⟩ := ih (by omega)
    obtain ⟨k1, k2, k3, k4, k5⟩ := anewTo_keep S n
    rw [anewTo_succ]
    unfold anewStep
    rw [k1]
    by_cases he : (bucketOf S.cs n).isEmpty = true
    · rw [if_pos he]
      have he' : bucketOf S.cs n = [] := by simpa using he
      refine ⟨fun i hi hne => ?_, fun i hi y hy => ?_, by omega⟩
      · rcases Nat.lt_or_ge i n with h1 | h1
        · exact i1 i h1 hne
        · have : i = n := by omega
          subst this
          exact absurd he' hne
      · rcases Nat.lt_or_ge i n with h1 | h1
        · exact i2 i h1 y hy
        · have : i = n := by omega
          subst this
          rw [he'] at hy; simp at hy
    · rw [if_neg he]
      refine ⟨fun i hi hne => ?_, fun i hi y hy => ?_, ?_⟩
      · rcases Nat.lt_or_ge i n with h1 | h1
        · exact fill_other _ _ _ _ _ (by omega) (i1 i h1 hne)
        · have : i = n := by omega
          subst this
          rw [fill_at, k2]
      · show (lvSet (anewTo S n).lv n (bucketOf S.cs n))[y.2]? = some i
        have hyl : y.2 < (anewTo S n).lv.length := by rw [k5, h.lvl]; exact h.lt y (bucket_mem hy)
        rcases Nat.lt_or_ge i n with h1 | h1
        · rw [lvSet_other _ _ _ _ fun z hz e => buckets_apart h.nums (by omega) (by omega) (by omega) hz hy e]
          exact i2 i h1 y hy
        · have : i = n := by omega
          subst this
          exact lvSet_same _ _ _ _ ⟨y, hy, rfl⟩ hyl
      · rw [fill_len]; omega

theorem HCore.anew {S : HS} (h : HCore S) (hl : S.cs.length < 100000) : HInv (anewS S) := by
  have h0 := h.anew0
  have hlen : (liv S.al S.cs).length ≤ S.cs.length := List.length_filter_le _ _
  have hb := bitsN_le (liv S.al S.cs).length 17 (by omega)
  obtain ⟨k1, k2, k3, k4, k5⟩ := anewTo_keep (anewS0 S) (bitsN (liv S.al S.cs).length)
  obtain ⟨i1, i2, i3⟩ := anewTo_trees h0 rfl (bitsN (liv S.al S.cs).length) (Nat.le_refl _)
  unfold anewS
  refine ⟨by rw [k1]; exact h0.nums, by rw [k1, k2]; exact h0.lt, by rw [k5, k2]; exact h0.lvl, by rw [k1, k2, k3]; exact h0.mpp, by rw [k3]; exact h0.keys, ?_, ?_, by omega⟩
  · rw [k1, k2]; exact i1
  · rw [k1]; exact i2
end Go.Proofs.Ytkhgglafnjfiaaa
