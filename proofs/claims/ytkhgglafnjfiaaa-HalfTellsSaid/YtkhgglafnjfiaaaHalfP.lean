/- Half, plainly: things with numbers in buckets, which are alive, each bucket's ordered list; what Add and Drop make of it. -/
import Derived.Test.YtkhgglafnjfiaaaSortI
import Derived.Test.YtkhgglafnjfiaaaMapI
import Derived.Test.YtkhgglafnjfiaaaCarryH
import Derived.Test.YtkhgglafnjfiaaaSetL
namespace Go.Proofs.Ytkhgglafnjfiaaa

structure HS where
  cs : List (Int × Nat)
  al : List Bool
  lv : List Nat
  tr : List (Option (List Int))
  mp : List (Int × Int)
  wk : Nat

def liv (al : List Bool) (b : List (Int × Nat)) : List (Int × Nat) := b.filter fun y => al.getD y.2 false
def live (al : List Bool) (b : List (Int × Nat)) : List Int := (liv al b).map (·.1)

structure HInv (S : HS) : Prop where
  nums : (S.cs.map (·.2)).Pairwise (· < ·)
  lt : ∀ y ∈ S.cs, y.2 < S.al.length
  lvl : S.lv.length = S.al.length
  mpp : S.mp.Perm ((liv S.al S.cs).map fun y => (y.1, (y.2 : Int)))
  keys : (S.mp.map (·.1)).Nodup
  trees : ∀ i, i < bitsN S.cs.length → bucketOf S.cs i ≠ [] → S.tr[i]? = some (some (sortI (live S.al (bucketOf S.cs i))))
  levs : ∀ i, i < bitsN S.cs.length → ∀ y ∈ bucketOf S.cs i, S.lv[y.2]? = some i
  trl : S.tr.length ≤ 20

def pad (tr : List (Option (List Int))) (n : Nat) : List (Option (List Int)) := tr ++ List.replicate (n - tr.length) none

def lvSet (lv : List Nat) (t : Nat) (l : List (Int × Nat)) : List Nat := l.foldl (fun lv y => lv.set y.2 t) lv

def fillS (S : HS) (t : Nat) (l : List (Int × Nat)) : HS := { S with lv := lvSet S.lv t l, tr := (pad S.tr (t + 1)).set t (some (sortI (live S.al l))) }

theorem lvSet_len (t : Nat) : ∀ (l : List (Int × Nat)) (lv : List Nat), (lvSet lv t l).length = lv.length
  | [], _ => rfl
  | y :: l, lv => by
    have := lvSet_len t l (lv.set y.2 t)
    unfold lvSet at *
    rw [List.foldl_cons, this, List.length_set]

theorem lvSet_other (t k : Nat) : ∀ (l : List (Int × Nat)) (lv : List Nat), (∀ y ∈ l, y.2 ≠ k) → (lvSet lv t l)[k]? = lv[k]?
  | [], _, _ => rfl
  | y :: l, lv, h => by
    have := lvSet_other t k l (lv.set y.2 t) (fun z hz => h z (by simp [hz]))
    unfold lvSet at *
    rw [List.foldl_cons, this, List.getElem?_set_ne (h y (by simp))]

theorem lvSet_same (t k : Nat) : ∀ (l : List (Int × Nat)) (lv : List Nat), (∃ y ∈ l, y.2 = k) → k < lv.length → (lvSet lv t l)[k]? = some t
  | [], _, h, _ => by simp at h
  | y :: l, lv, h, hk => by
    by_cases hin : ∃ z ∈ l, z.2 = k
    · have := lvSet_same t k l (lv.set y.2 t) hin (by rw [List.length_set]; exact hk)
      unfold lvSet at *
      rw [List.foldl_cons, this]
    · have hy : y.2 = k := by
        obtain ⟨z, hz, hk'⟩ := h
        rcases List.mem_cons.1 hz with rfl | hz
        · exact hk'
        · exact absurd ⟨z, hz, hk'⟩ hin
      have := lvSet_other t k l (lv.set y.2 t) (fun z hz e => hin ⟨z, hz, e⟩)
      unfold lvSet at *
      rw [List.foldl_cons, this, hy, List.getElem?_set_self hk]

theorem lvSet_snoc (lv : List Nat) (t : Nat) (l : List (Int × Nat)) (y : Int × Nat) : lvSet lv t (l ++ [y]) = (lvSet lv t l).set y.2 t := by simp [lvSet, List.foldl_append]

theorem pad_get (tr : List (Option (List Int))) (n i : Nat) (v : Option (List Int)) (h : tr[i]? = some v) : (pad tr n)[i]? = some v := by
  unfold pad
  rw [List.getElem?_append_left, h]
  exact (List.getElem?_eq_some_iff.1 h).1

theorem pad_len (tr : List (Option (List Int))) (n : Nat) : (pad tr n).length = max tr.length n := by unfold pad; rw [List.length_append, List.length_replicate]; omega

theorem fill_at (S : HS) (t : Nat) (l : List (Int × Nat)) : (fillS S t l).tr[t]? = some (some (sortI (live S.al l))) := by
  unfold fillS
  rw [List.getElem?_set_self (by rw [pad_len]; omega)]

theorem fill_other (S : HS) (t : Nat) (l : List (Int × Nat)) (i : Nat) (v : Option (List Int)) (hi : i ≠ t) (h : S.tr[i]? = some v) : (fillS S t l).tr[i]? = some v := by
  unfold fillS
  rw [List.getElem?_set_ne (Ne.symm hi)]
  exact pad_get _ _ _ _ h

theorem fill_len (S : HS) (t : Nat) (l : List (Int × Nat)) : (fillS S t l).tr.length = max S.tr.length (t + 1) := by
  unfold fillS
  rw [List.length_set, pad_len]

/-- The buckets' numbers lie apart. -/
theorem buckets_apart {cs : List (Int × Nat)} (h : (cs.map (·.2)).Pairwise (· < ·)) {i j : Nat} (hi : i < bitsN cs.length) (hj : j < bitsN cs.length) (hij : i ≠ j) {y z : Int × Nat} (hy : y ∈ bucketOf cs i) (hz : z ∈ bucketOf cs j) : y.2 ≠ z.2 := by
  have h1 : cs.Pairwise fun a b => a.2 ≠ b.2 := (List.pairwise_map.1 h).imp fun h => Nat.ne_of_lt h
  rw [← setB_all cs, List.pairwise_flatten] at h1
  have h2 := List.pairwise_reverse.1 h1.2
  rw [List.pairwise_iff_getElem] at h2
  have gi := setB_get cs i hi
  have gj := setB_get cs j hj
  obtain ⟨li, ei⟩ := List.getElem?_eq_some_iff.1 gi
  obtain ⟨lj, ej⟩ := List.getElem?_eq_some_iff.1 gj
  rcases Nat.lt_or_gt_of_ne hij with h3 | h3
  · have := h2 i j li lj h3
    rw [ei, ej] at this
    exact Ne.symm (this z hz y hy)
  · have := h2 j i lj li h3
    rw [ei, ej] at this
    exact this y hy z hz

theorem bucket_mem {cs : List (Int × Nat)} {i : Nat} {y : Int × Nat} (h : y ∈ bucketOf cs i) : y ∈ cs := by
  unfold bucketOf at h
  split at h
  · exact List.mem_of_mem_drop (List.mem_of_mem_take h)
  · simp at h

theorem mem_bucket {cs : List (Int × Nat)} {y : Int × Nat} (h : y ∈ cs) : ∃ i, i < bitsN cs.length ∧ y ∈ bucketOf cs i := by
  rw [← setB_all cs, List.mem_flatten] at h
  obtain ⟨b, hb, hy⟩ := h
  rw [List.mem_reverse] at hb
  obtain ⟨i, hi⟩ := List.mem_iff_getElem?.1 hb
  have hlt : i < bitsN cs.length := by
    have := (List.getElem?_eq_some_iff.1 hi).1
    rwa [setB_len] at this
  rw [setB_get cs i hlt] at hi
  cases hi
  exact ⟨i, hlt, hy⟩

theorem liv_app (al : List Bool) (a b : List (Int × Nat)) : liv al (a ++ b) = liv al a ++ liv al b := by simp [liv]

theorem liv_congr {al al' : List Bool} {b : List (Int × Nat)} (h : ∀ y ∈ b, al'.getD y.2 false = al.getD y.2 false) : liv al' b = liv al b := by
  unfold liv
  exact List.filter_congr fun y hy => by rw [h y hy]

theorem getD_snoc (al : List Bool) (c : Bool) (k : Nat) (h : k < al.length) : (al ++ [c]).getD k false = al.getD k false := by
  simp [List.getD, List.getElem?_append_left h]

theorem getD_last (al : List Bool) (c : Bool) : (al ++ [c]).getD al.length false = c := by
  simp [List.getD]
end Go.Proofs.Ytkhgglafnjfiaaa
