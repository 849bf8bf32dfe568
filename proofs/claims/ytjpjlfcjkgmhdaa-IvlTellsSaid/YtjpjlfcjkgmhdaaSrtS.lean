/- slices.SortFunc at spans, at a comparison that writes nothing that was there. -/
import Derived.Test.YtjpjlfcjkgmhdaaCmpS
import Derived.Test.YtjpjlfcjkgmhdaaDelS
import Derived.Test.YtjpjlfcjkgmhdaaShelfQ
namespace Go.Proofs.Ytjpjlfcjkgmhdaa
open Go.RowKit Go.Shelf Go.Sort Go.Lib

instance : Inhabited Sp := ⟨⟨0, 0, 0⟩⟩

theorem spAll_len (l : List Sp) : (KSp.all l).length = l.length * 3 := by
  induction l with
  | nil => rfl
  | cons a l ih => have e : KSp.all (a :: l) = KSp.enc a ++ KSp.all l := by simp [Kind.all]
                   rw [e, List.length_append, ih, List.length_cons, KSp.len]
                   show 3 + l.length * 3 = (l.length + 1) * 3
                   omega

theorem flat_spans (l : List Sp) : flatK KSp.enc 3 l.toArray = (KSp.all l).toArray := by
  refine ext_get! (by simp [spAll_len]) fun t ht => ?_
  have ht' : t < l.length * 3 := by simpa using ht
  rw [get_flatK _ _ _ t (by simpa using ht')]
  have h1 : t / 3 < l.length := by omega
  have h2 : t % 3 < (KSp.enc l[t / 3]).length := by rw [KSp.len]; show t % 3 < 3; omega
  have h := KSp.all_get l (t / 3) (t % 3) h1 (KSp.enc l[t / 3])[t % 3] (by rw [List.getElem?_eq_getElem h2])
  have e3 : t / 3 * KSp.sz + t % 3 = t := by show t / 3 * 3 + t % 3 = t; omega
  rw [e3] at h
  obtain ⟨h4, h5⟩ := List.getElem?_eq_some_iff.1 h
  rw [getElem!_pos l.toArray (t / 3) (by simpa using h1), getElem!_pos (KSp.enc l.toArray[t / 3]) (t % 3) (by simpa using h2), getElem!_pos (KSp.all l).toArray t (by simpa using h4)]
  simpa using h5.symm

theorem holds_spans {w : World} {base g n C : Nat} {l : List Sp} (h : KSp.row w base (.slice (some ⟨g, 0, none⟩) n C) l) (hn : l.length = n) : HoldsK KSp.enc 3 w g 0 l.toArray := by
  unfold HoldsK
  rw [flat_spans]
  have hown : w.ownsRow base 42 3 (.slice (some ⟨g, 0, none⟩) n C) n (KSp.all l) := by
    have := h
    unfold Kind.row at this
    rwa [hn] at this
  have hnC := own_cap hown
  intro j hj
  have hj' : j < (KSp.all l).length := by simpa using hj
  have hj3 : j < l.length * 3 := by rw [← spAll_len]; exact hj'
  rw [Nat.zero_add]
  refine ⟨?_, (own_room hown j (by omega)).2⟩
  rcases hown.2 with ⟨h2, _⟩ | ⟨g', cap, cur, h2, h3, h4, h5, h6, h7, h8⟩
  · cases h2
  · cases h2
    have hx : cur.toList[j]? = some (KSp.all l)[j] := by
      have := congrArg (·[j]?) h8
      simp only [List.getElem?_take] at this
      rw [if_pos (by omega), List.getElem?_eq_getElem hj'] at this
      exact this
    simp only [id_eq]
    rw [getElem!_pos (KSp.all l).toArray j (by simpa using hj')]
    simp only [World.cell?, h4]
    simpa using hx

theorem put_spans {w : World} {base g n C m : Nat} {l l' : List Sp} {os : Array Obj} (h : KSp.row w base (.slice (some ⟨g, 0, none⟩) n C) l) (hn : l.length = n) (hn' : l'.length = n) :
    KSp.row (sortWorldK KSp.enc 3 w g 0 m l'.toArray os) base (.slice (some ⟨g, 0, none⟩) n C) l' ∧ Upd [g] w (sortWorldK KSp.enc 3 w g 0 m l'.toArray os) := by
  unfold sortWorldK putRowK
  rw [flat_spans]
  have hup : Upd [g] w (Sort.grow (Sort.putRow id (Sort.ahead w m) g 0 (KSp.all l').toArray) os) := by
    refine ⟨rfl, rfl, rfl, by simp [Sort.grow, Sort.putRow, Sort.mapBlock, Sort.ahead], fun k hk hf => ?_⟩
    have hk2 : g ≠ k := fun e => hf (by simp [e])
    have : (Sort.putRow id (Sort.ahead w m) g 0 (KSp.all l').toArray).heap[k]? = w.heap[k]? := by
      simp only [Sort.putRow, Sort.mapBlock, Sort.ahead, Array.getElem?_modify]
      rw [if_neg hk2]
    rw [heap_grow_old _ _ (by simpa [Sort.putRow, Sort.mapBlock, Sort.ahead] using hk), this]
  refine ⟨?_, hup⟩
  unfold Kind.row at h ⊢
  rw [hn] at h
  rw [hn']
  have h' : w.ownsRow base 42 3 (.slice (some ⟨g, 0, none⟩) n C) n (KSp.all l) := h
  show World.ownsRow _ base 42 3 _ n (KSp.all l')
  refine ⟨by rw [spAll_len, hn'], ?_⟩
  rcases h'.2 with ⟨h2, _⟩ | ⟨g', cap, cur, h2, h3, h4, h5, h6, h7, h8⟩
  · cases h2
  · cases h2
    have hg : g < w.heap.size := (Array.getElem?_eq_some_iff.1 h4).1
    refine .inr ⟨g, C, Sort.putCells id 0 (KSp.all l').toArray cur, rfl, h3, ?_, h5, h6, by simp [Sort.putCells, h7], ?_⟩
    · rw [heap_grow_old _ _ (by simpa [Sort.putRow, Sort.mapBlock, Sort.ahead] using hg)]
      simp only [Sort.putRow, Sort.mapBlock, Sort.ahead, Array.getElem?_modify, if_true]
      rw [h4]
      rfl
    · have hl : (KSp.all l').length = n * 3 := by rw [spAll_len, hn']
      refine List.ext_getElem? fun j => ?_
      rw [List.getElem?_take]
      by_cases hj : j < n * 3
      · have hjc : j < cur.size := by rw [h7]; have := Nat.mul_le_mul_right 3 h5; omega
        have hj' : j < (KSp.all l').length := by omega
        rw [if_pos hj, List.getElem?_eq_getElem hj', Array.getElem?_toList]
        unfold Sort.putCells
        rw [Array.getElem?_mapIdx, Array.getElem?_eq_getElem hjc, Option.map_some, if_pos (by simp; omega), Nat.sub_zero]
        rw [getElem!_pos (KSp.all l').toArray j (by simpa using hj')]
        rfl
      · rw [if_neg hj, List.getElem?_eq_none (by omega)]

/-- What SortFunc leaves. -/
def SortFPost (w : World) (base g n C : Nat) (l : List Sp) (cf : Sp → Sp → Int) (e : Ending) (w' : World) : Prop :=
  e = .returned (.tuple #[]) ∧ Upd [g] w w' ∧ ∃ l' : List Sp, l'.Perm l ∧ l'.Pairwise (fun a b => ¬ cf b a < 0) ∧ KSp.row w' base (.slice (some ⟨g, 0, none⟩) n C) l'

theorem sortFuncC (f : Nat) (cf : Sp → Sp → Int) (hO : SWO (ltOf cf)) (eg : ∀ args w, (callFunc f args).run Try.prog w = .ok (.enter f args) w)
    (hc : ∀ s t w, Calls Try.prog f #[spV s, spV t] w fun e w' => e = .returned (.int .i64 (cf s t)) ∧ ∃ os, w' = grow w os)
    (base g n C : Nat) (l : List Sp) (w : World) (h : KSp.row w base (.slice (some ⟨g, 0, none⟩) n C) l) (hn : l.length = n) (hb : n < 1000000) :
    Calls Try.prog 23 #[.slice (some ⟨g, 0, none⟩) n C, .func (.func f) #[] #[]] w (SortFPost w base g n C l cf) := by
  have hg : g < w.heap.size := own_lt h g (by simp [blk])
  have hcmp : CmpLays Try.prog f #[] KSp.enc 3 cf g 0 l.toArray.size w := fun m os dk _ x y => by
    refine (hc x y _).mono ?_
    rintro e w' ⟨rfl, os', rfl⟩
    exact ⟨rfl, 0, os', rfl⟩
  have := AnyQ.slices_SortFunc Try.sortQ 3 Try.isAgg42 Try.sizeOf42 KSp.enc KSp.len KSp.one cf hO f #[] g 0 C l.toArray w eg hcmp (holds_spans h hn) hg (by simp; omega)
  have e0 : l.toArray.size = n := by simp [hn]
  rw [e0] at this
  refine Calls.mono this ?_
  rintro e w' ⟨rfl, d', m, os, hp, hs, rfl⟩
  have hsz : d'.size = n := by have := hp.1; rw [e0] at this; exact this
  obtain ⟨l', rfl⟩ : ∃ l' : List Sp, d' = l'.toArray := ⟨d'.toList, rfl⟩
  have hl' : l'.length = n := by simpa using hsz
  obtain ⟨h1, h2⟩ := put_spans (m := m) (os := os) h hn hl'
  refine ⟨rfl, h2, l', ?_, ?_, h1⟩
  · have := hp.2.2
    rw [Array.extract_eq_self_of_le (by omega), Array.extract_eq_self_of_le (by omega)] at this
    exact this
  · rw [List.pairwise_iff_getElem]
    intro i j hi hj hij hc
    have := hs i j (Nat.zero_le _) hij (by omega)
    rw [getElem!_pos l'.toArray j (by simpa using hj), getElem!_pos l'.toArray i (by simpa using hi)] at this
    unfold ltOf at this
    simp at this
    omega

theorem sortFuncNone (f : Nat) (C : Nat) (A : Option Addr) (w : World) :
    Calls Try.prog 23 #[.slice A 0 C, .func (.func f) #[] #[]] w fun e w' => e = .returned (.tuple #[]) ∧ w' = w :=
  AnyF.slices_SortFunc_none Try.sortQ A C _ w

theorem byI_lt (a b x y : Int) : byI a b x y < 0 ↔ a < b ∨ (a = b ∧ x < y) := by
  unfold byI cmpI
  by_cases h1 : a < b
  · simp [h1]
  · by_cases h2 : b < a
    · simp [h1, h2]; omega
    · have h3 : a = b := by omega
      subst h3
      by_cases h4 : x < y
      · simp [h4]
      · by_cases h5 : y < x
        · simp [h4, h5]
        · simp [h4, h5]

theorem swoLo : SWO (ltOf cmpLo) where
  irrefl x := by unfold ltOf cmpLo; simp [byI_lt]
  trans x y z h1 h2 := by unfold ltOf cmpLo at *; simp [byI_lt] at *; omega
  ntrans x y z h1 h2 := by unfold ltOf cmpLo at *; simp [byI_lt] at *; omega
theorem swoHi : SWO (ltOf fun s t => cmpHi t s) where
  irrefl x := by unfold ltOf cmpHi; simp [byI_lt]
  trans x y z h1 h2 := by unfold ltOf cmpHi at *; simp [byI_lt] at *; omega
  ntrans x y z h1 h2 := by unfold ltOf cmpHi at *; simp [byI_lt] at *; omega

/-- By Lo; by Hi, falling. -/
theorem sortLoC (base g n C : Nat) (l : List Sp) (w : World) (h : KSp.row w base (.slice (some ⟨g, 0, none⟩) n C) l) (hn : l.length = n) (hb : n < 1000000) :
    Calls Try.prog 23 #[.slice (some ⟨g, 0, none⟩) n C, .func (.func 24) #[] #[]] w (SortFPost w base g n C l cmpLo) :=
  sortFuncC _ cmpLo swoLo (enters_of Try.func24 (by kernel_rfl) rfl) (fun s t w => (byLoC s t w).mono (by
    rintro e w' ⟨rfl, a, b, c, rfl⟩
    exact ⟨rfl, _, by rw [alloc_eq_grow, alloc_eq_grow, alloc_eq_grow, grow_grow, grow_grow]⟩)) base g n C l w h hn hb
theorem sortHiC (base g n C : Nat) (l : List Sp) (w : World) (h : KSp.row w base (.slice (some ⟨g, 0, none⟩) n C) l) (hn : l.length = n) (hb : n < 1000000) :
    Calls Try.prog 23 #[.slice (some ⟨g, 0, none⟩) n C, .func (.func 40) #[] #[]] w (SortFPost w base g n C l fun s t => cmpHi t s) :=
  sortFuncC _ (fun s t => cmpHi t s) swoHi (enters_of Try.func40 (by kernel_rfl) rfl) (fun s t w => (fallHiC s t w).mono (by
    rintro e w' ⟨rfl, a, b, c, d, f, rfl⟩
    exact ⟨rfl, _, by rw [alloc_eq_grow, alloc_eq_grow, alloc_eq_grow, alloc_eq_grow, alloc_eq_grow, grow_grow, grow_grow, grow_grow, grow_grow]⟩)) base g n C l w h hn hb
end Go.Proofs.Ytjpjlfcjkgmhdaa
