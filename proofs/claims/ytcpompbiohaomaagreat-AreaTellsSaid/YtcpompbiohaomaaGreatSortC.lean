/- sort.places, sort.ordered, sort.Order. -/
import Derived.Test.YtcpompbiohaomaaGreatSortB
import Derived.Test.YtcpompbiohaomaaGreatLits
namespace Go.Proofs.YtcpompbiohaomaaGreat
open Go.RowKit

/-- Numbers by their places. -/
def rowF (n : Nat) (f : Nat → Nat) : List Nat := (List.range n).map f

theorem rowF_len (n : Nat) (f : Nat → Nat) : (rowF n f).length = n := by simp [rowF]
theorem rowF_get {n : Nat} {f : Nat → Nat} {i : Nat} (h : i < n) : (rowF n f)[i]? = some (f i) := by
  unfold rowF; rw [List.getElem?_map, List.getElem?_range h]; rfl
theorem rowF_congr {n : Nat} {f g : Nat → Nat} (h : ∀ i, i < n → f i = g i) : rowF n f = rowF n g := by
  unfold rowF
  exact List.map_congr_left fun i hi => h i (List.mem_range.1 hi)

theorem rowF_set (n : Nat) (f : Nat → Nat) (k b : Nat) : (rowF n f).set k b = rowF n (fun i => if i = k then b else f i) := by
  refine List.ext_getElem? fun i => ?_
  rw [List.getElem?_set]
  by_cases hk : k = i
  · subst hk
    rw [if_pos rfl]
    by_cases hn : k < n
    · rw [if_pos (by rw [rowF_len]; exact hn), rowF_get hn, if_pos rfl]
    · rw [if_neg (by rw [rowF_len]; exact hn), List.getElem?_eq_none (by rw [rowF_len]; omega)]
  · rw [if_neg hk]
    by_cases hn : i < n
    · rw [rowF_get hn, rowF_get hn, if_neg (Ne.symm hk)]
    · rw [List.getElem?_eq_none (by rw [rowF_len]; omega), List.getElem?_eq_none (by rw [rowF_len]; omega)]

theorem KN_all (l : List Nat) : KN.all l = l.map fun (x : Nat) => (.int .i64 (x : Int) : Value) := by
  induction l with
  | nil => rfl
  | cons x l ih => rw [List.map_cons, ← ih]; rfl

theorem KN_made {w' : World} {base g n : Nat} (h : w'.ownsRow base 3 1 (.slice (some ⟨g, 0, none⟩) n n) n (madeCells #[.int .i64 0] (n * 1)).toList) : KN.row w' base (.slice (some ⟨g, 0, none⟩) n n) (rowF n (fun _ => 0)) := by
  unfold Kind.row
  rw [rowF_len, KN_all]
  rw [Nat.mul_one, toList_madeCells_one] at h
  have e : ((rowF n fun _ => 0).map fun (x : Nat) => (.int .i64 (x : Int) : Value)) = List.replicate n (.int .i64 0) := by
    refine List.ext_getElem? fun i => ?_
    rw [List.getElem?_map, List.getElem?_replicate]
    by_cases hi : i < n
    · rw [rowF_get hi, if_pos hi]; rfl
    · rw [List.getElem?_eq_none (by rw [rowF_len]; omega), if_neg hi]; rfl
  rw [e]
  exact h

theorem KN_stored {w : World} {base g n : Nat} {f : Nat → Nat} (h : KN.row w base (.slice (some ⟨g, 0, none⟩) n n) (rowF n f)) (k b : Nat) :
    KN.row (w.setCell ⟨g, k, none⟩ (.int .i64 (b : Int))) base (.slice (some ⟨g, 0, none⟩) n n) (rowF n (fun i => if i = k then b else f i)) := by
  have hl := rowF_len n f
  have h' : w.ownsRow base 3 1 (.slice (some ⟨g, 0, none⟩) n n) n (KN.all (rowF n f)) := by
    have h2 := h
    unfold Kind.row at h2
    rw [hl] at h2
    exact h2
  have := (World.ownsRow.stored h' k (.int .i64 (b : Int))).1
  unfold Kind.row
  rw [rowF_len, ← rowF_set, KN_all, List.map_set, ← KN_all]
  exact this

def PlPost (w : World) (n : Nat) (e : Ending) (w' : World) : Prop := ∃ A C, e = .returned (.slice A n C) ∧ See KN w' (.slice A n C) (List.range n) ∧ Upd [] w w' ∧ ∀ k ∈ blk (.slice A n C), w.heap.size ≤ k

set_option maxRecDepth 100000 in
set_option maxHeartbeats 2000000 in
theorem placesC (n : Nat) (w : World) (hn : n < 10000000) : Calls Tryz.prog 57 #[.int .i64 0, .int .i64 (n : Int)] w (PlPost w n) := by
  obtain ⟨i1, hi1, hy0, hy1, hy2⟩ := info_parts info_intS
  unfold PlPost
  obtain ⟨w1, hmk, ho, hg⟩ := run_make_full (P := Tryz.prog) w w.heap.size 72 3 i1 (.int .i64 0) 1 Tryz.underlying72 hi1 hy0 hy1 .i64 .i64 n (by rw [hy2]; omega) (by unfold maxLen; omega) (Nat.le_refl _)
  have hrow := KN_made ho
  have hu1 : Upd [] w w1 := (Upd.refl _ _).grown hg (by simp)
  have hz1 : w.heap.size < w1.heap.size := own_lt ho w.heap.size (by simp [blk])
  have hnb : (n : Int) < 10000000 := by omega
  have HR := Lib.hid (And.intro hrow (And.intro hu1 hz1))
  clear hrow hu1 hz1 ho hg hn
  go_enter Tryz.func57, Tryz.ntmps57
  go_wp2_with fail
  go_loopg [11] n (fun m s11 wr => ∃ k, m + k = n ∧ s11 = .int .i64 (k : Int) ∧ KN.row wr w.heap.size (.slice (some ⟨w.heap.size, 0, none⟩) n n) (rowF n fun i => if i < k then i else 0) ∧ Upd [] w wr)
  case atStart => exact ⟨0, rfl, rfl, by have := HR.out.1; simpa using this, HR.out.2.1⟩
  case round =>
    obtain ⟨k, hk, rfl, hrw, hu⟩ := hrel
    have b0 : (0 : Int) ≤ (k : Int) := Int.natCast_nonneg _
    have HK := Lib.hid hk
    by_cases hlt : k < n
    · have b1 : (k : Int) < (n : Int) := by omega
      obtain ⟨gq, hgq, -, eq1, eqf⟩ := rowAt (K := KN) hrw (rowF_get (f := fun i => if i < k then i else 0) hlt)
      rw [if_neg (by omega)] at eq1
      cases hgq
      have q0 : wr.cell? ⟨w.heap.size, k, none⟩ = some (.int .i64 0) := by
        have := eq1 0 _ rfl
        simpa [KN] using this
      have qf := eqf k
      have hst := KN_stored hrw k k
      have e : (rowF n fun i => if i = k then k else if i < k then i else 0) = rowF n fun i => if i < k + 1 then i else 0 := rowF_congr fun i _ => by
        by_cases h1 : i = k
        · rw [if_pos h1, if_pos (by omega), h1]
        · rw [if_neg h1]
          by_cases h2 : i < k
          · rw [if_pos h2, if_pos (by omega)]
          · rw [if_neg h2, if_neg (by omega)]
      rw [e] at hst
      have HST := Lib.hid hst
      have HU := Lib.hid (hu.setCell (p := ⟨w.heap.size, k, none⟩) (.inr (Nat.le_refl _)) (.int .i64 (k : Int)))
      have HLT := Lib.hid hlt
      clear hst e hrw hu eq1 eqf hlt hk
      go_wp2_with fail
      go_roundg (n - (k + 1))
      case measure => have := HK.out; have := HLT.out; omega
      case rel => exact ⟨k + 1, by have := HK.out; have := HLT.out; omega, by go_num, HST.out, HU.out⟩
    · have e : (rowF n fun i => if i < k then i else 0) = List.range n := by
        have : (rowF n fun i => if i < k then i else 0) = rowF n id := rowF_congr fun i hi => by rw [if_pos (by omega)]; rfl
        rw [this]; unfold rowF; simp
      rw [e] at hrw
      have hs : See KN wr (.slice (some ⟨w.heap.size, 0, none⟩) n n) (List.range n) := See.of_row hrw
      have HS := Lib.hid (And.intro hs hu)
      clear hrw hs hu e hk
      go_wp2_with fail
      go_ret
      exact ⟨_, _, rfl, HS.out.1, HS.out.2, fun k hk => by simp [blk] at hk; omega⟩

/-- A slice's head, no room behind it. -/
theorem KN_head {w : World} {A : Option Addr} {n C : Nat} {l : List Nat} (h : See KN w (.slice A n C) l) (k : Nat) (hk : k ≤ l.length) :
    ∃ A' C', (∀ w', (Instr.slice 72 (.slice A n C) none (some (.int .i64 (k : Int))) (some (.int .i64 (k : Int)))).run Tryz.prog w' = .ok (.slice A' k C') w') ∧ See KN w (.slice A' k C') (l.take k) := by
  obtain ⟨i1, hi1, hy0, hy1, hy2⟩ := info_parts info_intS
  have hel : Tryz.prog.elem 72 = 3 := by simp [Program.elem, Tryz.underlying72]
  have hlen : (l.take k).length = k := by rw [List.length_take]; omega
  rcases h.2 with ⟨e1, e2⟩ | ⟨b, o, s, cap, e1, e2, e3, e4, e5⟩
  · cases e1
    have hk0 : k = 0 := by omega
    subst hk0
    refine ⟨none, 0, fun w' => ?_, ?_⟩
    · rw [run_slice_hm w' 72 none 0 0 (elem_of Tryz.underlying72) .i64 .i64 _ _ (by omega) (by omega) (by omega)]
      simp [hel, sizeOf, typeInfo, hi1, sliced]
    · exact ⟨by simp [Kind.all], .inl ⟨rfl, by simp⟩⟩
  · cases e1
    refine ⟨some ⟨b, o, s⟩, k, fun w' => ?_, ?_⟩
    · rw [run_slice_hm w' 72 _ l.length C (elem_of Tryz.underlying72) .i64 .i64 _ _ (by omega) (by omega) (by omega)]
      simp [hel, sizeOf, typeInfo, hi1, sliced, Addr.add]
    · unfold See
      rw [hlen]
      refine ⟨by rw [KN.all_len, hlen], .inr ⟨b, o, s, k, rfl, fun hp => e2 (by omega), Nat.le_refl _, by omega, fun j u hu => ?_⟩⟩
      rw [Kind.all_take, List.getElem?_take] at hu
      split at hu
      · exact e5 j u hu
      · cases hu

/-- A slice's rest. -/
theorem KN_rest {w : World} {A : Option Addr} {n C : Nat} {l : List Nat} (h : See KN w (.slice A n C) l) (k : Nat) (hk : k ≤ l.length) :
    ∃ A' C', (∀ w', (Instr.slice 72 (.slice A n C) (some (.int .i64 (k : Int))) none none).run Tryz.prog w' = .ok (.slice A' (l.length - k) C') w') ∧ See KN w (.slice A' (l.length - k) C') (l.drop k) := by
  obtain ⟨A0, C0, e⟩ := h.form
  injection e with e1 e2 e3
  subst e1 e2 e3
  obtain ⟨i1, hi1, hy0, hy1, hy2⟩ := info_parts info_intS
  obtain ⟨A', C', r1, r2, -⟩ := cut_from (P := Tryz.prog) Tryz.underlying72 hi1 hy1 h k hk
  refine ⟨A', C', r1, ?_⟩
  have := r2 w h
  unfold See
  rw [Kind.all_drop, List.length_drop]
  exact this

/-- What ordered leaves. -/
def OrdPost (v : Value) (w : World) (K : List (Int × Nat)) (l : List Nat) (e : Ending) (w' : World) : Prop :=
  ∃ A C M, ∃ wr : Nat, e = .returned (.tuple #[.slice A l.length C, .int .i64 (wr : Int)]) ∧ See KN w' (.slice A l.length C) M ∧ M.Perm l ∧ M.Pairwise (fun i j => leP K i j = true) ∧ wr ≤ l.length * l.length ∧ Upd [] w w' ∧ ∀ k ∈ blk (.slice A l.length C), k ∈ blk v ∨ w.heap.size ≤ k

theorem square_sum {h m : Nat} (hh : 1 ≤ h) (hm : 1 ≤ m) : h * h + m * m + (h + m) ≤ (h + m) * (h + m) := by
  have e : (h + m) * (h + m) = h * h + m * m + (h * m + h * m) := by
    rw [Nat.add_mul, Nat.mul_add, Nat.mul_add, Nat.mul_comm m h]; omega
  have h1 : h ≤ h * m := Nat.le_mul_of_pos_right h hm
  have h2 : m ≤ h * m := Nat.le_mul_of_pos_left m hh
  omega

set_option maxRecDepth 100000 in
set_option maxHeartbeats 2000000 in
theorem orderedC (vk : Value) (K : List (Int × Nat)) (pk : Nat) : ∀ (d : Nat) (l : List Nat) (v : Value) (w : World), l.length ≤ d → w.cell? ⟨pk, 0, none⟩ = some vk → See KK w vk K → See KN w v l → (∀ i ∈ l, i < K.length) → l.length < 1000000 →
    Calls Tryz.prog 55 #[.func (.func 56) #[] #[.pointer (some ⟨pk, 0, none⟩)], v] w (OrdPost v w K l) := by
  intro d
  induction d with
  | zero =>
    intro l v w hd hc hK hl hi hn
    have e : l = [] := List.length_eq_zero_iff.1 (by omega)
    subst e
    obtain ⟨A, C, rfl⟩ := hl.form
    unfold OrdPost
    have HL := Lib.hid hl
    clear hc hK hl hi hn hd
    go_enter Tryz.func55, Tryz.ntmps55
    go_wp2_with fail
    go_ret2
    exact ⟨A, C, [], 0, rfl, HL.out, List.Perm.refl _, List.Pairwise.nil, by simp, Upd.refl _ _, fun k hk => .inl hk⟩
  | succ d ih =>
    intro l v w hd hc hK hl hi hn
    obtain ⟨A, C, rfl⟩ := hl.form
    unfold OrdPost
    obtain ⟨n, hn'⟩ : ∃ n, l.length = n := ⟨_, rfl⟩
    obtain ⟨h, hh⟩ : ∃ h, n / 2 = h := ⟨_, rfl⟩
    have HHV := Lib.hid (show (n : Int) / 2 = (h : Int) by omega)
    have n0 : (0 : Int) ≤ (n : Int) := Int.natCast_nonneg _
    have HN1 := Lib.hid (show (n : Int) < 1000000 by omega)
    have h0 : (0 : Int) ≤ (h : Int) := Int.natCast_nonneg _
    by_cases hz : h = 0
    · subst hz
      have hs : l.Pairwise (fun i j => leP K i j = true) := by
        match l, hn' with
        | [], _ => exact List.Pairwise.nil
        | [x], _ => exact List.pairwise_singleton _ _
        | x :: y :: r, e => simp at e; omega
      have HL := Lib.hid (And.intro hl hs)
      rw [hn'] at HL ⊢
      clear hc hK hl hi hn hd hs hn' hh
      have n1 := HN1.out
      go_enter Tryz.func55, Tryz.ntmps55
      go_upto_region 2 with fail
      rw [HHV.out]
      clear n1
      go_wp2_with fail
      go_ret2
      exact ⟨A, C, l, 0, rfl, HL.out.1, List.Perm.refl _, HL.out.2, by simp, Upd.refl _ _, fun k hk => .inl hk⟩
    · have hz1 : ((h : Int) == 0) = false := by simp; omega
      have hz2 : ¬ (h : Int) = 0 := by omega
      have hz3 : ¬ h = 0 := hz
      obtain ⟨A1, C1, t1, s1⟩ := KN_head hl h (by omega)
      obtain ⟨A2, C2, t2, s2⟩ := KN_rest hl h (by omega)
      have l1 : (l.take h).length = h := by rw [List.length_take]; omega
      have l2 : (l.drop h).length = l.length - h := by rw [List.length_drop]
      have i1 : ∀ i ∈ l.take h, i < K.length := fun i hi' => hi i (List.mem_of_mem_take hi')
      have i2 : ∀ i ∈ l.drop h, i < K.length := fun i hi' => hi i (List.mem_of_mem_drop hi')
      have hpk : pk < w.heap.size := World.block_lt_of_cell? w _ hc
      have o1 := fun w1 (hu : Upd [] w w1) => ih (l.take h) (.slice A1 h C1) w1 (by omega) ((hu.cell (p := ⟨pk, 0, none⟩) hpk (by simp)).trans hc) (hK.upd0 hu) (s1.upd0 hu) i1 (by omega)
      have o2 := fun w1 (hu : Upd [] w w1) => ih (l.drop h) (.slice A2 (l.length - h) C2) w1 (by omega) ((hu.cell (p := ⟨pk, 0, none⟩) hpk (by simp)).trans hc) (hK.upd0 hu) (s2.upd0 hu) i2 (by omega)
      unfold OrdPost at o1 o2
      rw [l1] at o1
      rw [l2] at o2
      have HM := Lib.hid (show ∀ (a b : List Nat) (va vb : Value) (w1 : World), Upd [] w w1 → See KN w1 va a → See KN w1 vb b → a.Perm (l.take h) → b.Perm (l.drop h) → Calls Tryz.prog 70 #[.func (.func 56) #[] #[.pointer (some ⟨pk, 0, none⟩)], va, vb] w1 (MrgPost w1 (List.merge a b (leP K)) (a.length + b.length)) from fun a b va vb w1 hu ha hb pa pb =>
        mergedC vk va vb K pk a b w1 ((hu.cell (p := ⟨pk, 0, none⟩) hpk (by simp)).trans hc) (hK.upd0 hu) ha hb (fun i hi' => i1 i (pa.mem_iff.1 hi')) (fun i hi' => i2 i (pb.mem_iff.1 hi')) (by have := pa.length_eq; have := pb.length_eq; omega))
      rw [hn'] at t1 t2 o2 l2 ⊢
      obtain ⟨m, hm⟩ : ∃ m, n - h = m := ⟨_, rfl⟩
      rw [hm] at t2 o2 l2
      have hs := square_sum (h := h) (m := m) (by omega) (by omega)
      have b1 : h * h ≤ 1000000 * 1000000 := Nat.mul_le_mul (by omega) (by omega)
      have b2 : m * m ≤ 1000000 * 1000000 := Nat.mul_le_mul (by omega) (by omega)
      have HO1 := Lib.hid o1
      have HO2 := Lib.hid o2
      have HS := Lib.hid (And.intro hs (And.intro b1 (And.intro b2 (show h + m = n by omega))))
      have HLL := Lib.hid (And.intro l1 l2)
      clear o1 o2 hs b1 b2 hc hK hl hi hn hd s1 s2 i1 i2 hpk l1 l2 hh hm hn' hz ih
      have n1 := HN1.out
      go_enter Tryz.func55, Tryz.ntmps55
      go_upto_region 2 with fail
      rw [HHV.out]
      clear n1
      go_wp2_with fail
      (with_reducible refine (HO1.out _ (Upd.refl _ _)).mono ?_)
      rintro e w1 ⟨Aa, Ca, Ma, wa, rfl, sa, pa, qa, ba, hu1, -⟩
      have H1 := Lib.hid (And.intro sa (And.intro pa (And.intro qa (And.intro ba hu1))))
      have c1 : (wa : Int) ≤ 1000000000000 := by have := HS.out.2.1; omega
      have c0 : (0 : Int) ≤ (wa : Int) := Int.natCast_nonneg _
      clear sa pa qa ba hu1
      go_wp2_with fail
      (with_reducible refine (HO2.out _ H1.out.2.2.2.2).mono ?_)
      rintro e w2 ⟨Ab, Cb, Mb, wb, rfl, sb, pb, qb, bb, hu2, -⟩
      have hmg := HM.out Ma Mb (.slice Aa h Ca) (.slice Ab m Cb) w2 (H1.out.2.2.2.2.trans hu2) (H1.out.1.upd0 hu2) sb H1.out.2.1 pb
      have e1 : Ma.length = h := H1.out.2.1.length_eq.trans HLL.out.1
      have e2 : Mb.length = m := pb.length_eq.trans HLL.out.2
      unfold MrgPost at hmg
      rw [e1, e2, HS.out.2.2.2] at hmg
      have HMG := Lib.hid hmg
      have H2 := Lib.hid (And.intro pb (And.intro qb (And.intro bb (H1.out.2.2.2.2.trans hu2))))
      have c2 : (wb : Int) ≤ 1000000000000 := by have := HS.out.2.2.1; omega
      have c3 : (0 : Int) ≤ (wb : Int) := Int.natCast_nonneg _
      have n1 := HN1.out
      clear sb pb qb bb hu2 hmg e1 e2
      go_wp2_with fail
      (with_reducible refine HMG.out.mono ?_)
      rintro e w3 ⟨A3, C3, rfl, s3, hu3, hk3⟩
      have H3 := Lib.hid (And.intro s3 (And.intro (H2.out.2.2.2.trans hu3) (show ∀ k ∈ blk (.slice A3 n C3), w.heap.size ≤ k from fun k hk => Nat.le_trans H2.out.2.2.2.size (hk3 k hk))))
      clear s3 hu3 hk3
      go_wp2_with fail
      go_ret2
      refine ⟨A3, C3, List.merge Ma Mb (leP K), wa + wb + n, rfl, H3.out.1, ?_, ?_, ?_, H3.out.2.1, fun k hk => .inr (H3.out.2.2 k hk)⟩
      · have h1 : (List.merge Ma Mb (leP K)).Perm (Ma ++ Mb) := List.merge_perm_append _
        have h2 := h1.trans (H1.out.2.1.append H2.out.1)
        rw [List.take_append_drop] at h2
        exact h2
      · exact List.pairwise_merge (leP_trans K) (leP_total K) _ _ H1.out.2.2.1 H2.out.2.1
      · have h1 := H1.out.2.2.2.1
        have h2 := H2.out.2.2.1
        have h3 := HS.out.1
        rw [HS.out.2.2.2] at h3
        omega

/-- What Order leaves: the places, in order. -/
def SortPost (w : World) (K : List (Int × Nat)) (e : Ending) (w' : World) : Prop :=
  ∃ A C M, ∃ wr : Nat, e = .returned (.tuple #[.slice A K.length C, .int .i64 (wr : Int), .int .i64 0]) ∧ See KN w' (.slice A K.length C) M ∧ M.Perm (List.range K.length) ∧ M.Pairwise (fun i j => leP K i j = true) ∧ Upd [] w w' ∧ ∀ k ∈ blk (.slice A K.length C), w.heap.size ≤ k

set_option maxRecDepth 100000 in
set_option maxHeartbeats 2000000 in
theorem sortOrder (vk : Value) (K : List (Int × Nat)) (w : World) (hK : See KK w vk K) (hn : K.length < 1000000) :
    Calls Tryz.prog 35 #[vk] w (SortPost w K) := by
  obtain ⟨A, C, rfl⟩ := hK.form
  unfold SortPost
  have hu0 : Upd [] w (w.alloc (.cells #[.slice A K.length C] 69)) := (Upd.refl _ _).alloc _
  have hc0 : (w.alloc (.cells #[.slice A K.length C] 69)).cell? ⟨w.heap.size, 0, none⟩ = some (.slice A K.length C) := by rw [World.cell?_alloc_at _ _ _ _ rfl]; rfl
  have hpl := placesC K.length (w.alloc (.cells #[.slice A K.length C] 69)) (by omega)
  have hz : w.heap.size < (w.alloc (.cells #[.slice A K.length C] 69)).heap.size := by simp
  have HO := Lib.hid (show ∀ (v : Value) (w1 : World), Upd [] (w.alloc (.cells #[.slice A K.length C] 69)) w1 → See KN w1 v (List.range K.length) → Calls Tryz.prog 55 #[.func (.func 56) #[] #[.pointer (some ⟨w.heap.size, 0, none⟩)], v] w1 (OrdPost v w1 K (List.range K.length)) from fun v w1 hu hs =>
    orderedC (.slice A K.length C) K w.heap.size K.length (List.range K.length) v w1 (by simp) ((hu.cell (p := ⟨w.heap.size, 0, none⟩) hz (by simp)).trans hc0) (hK.upd0 (hu0.trans hu)) hs (fun i hi => List.mem_range.1 hi) (by simpa using hn))
  have n0 : decide ((17179869184 : Int) < (K.length : Int)) = false := decide_eq_false (by omega)
  have n1 : ¬ (17179869184 : Int) < (K.length : Int) := by omega
  have HPL := Lib.hid hpl
  have HU0 := Lib.hid hu0
  clear hpl hu0 hc0 hz hK hn
  go_enter Tryz.func35, Tryz.ntmps35
  go_wp2_with fail
  (with_reducible refine HPL.out.mono ?_)
  rintro e w1 ⟨A1, C1, rfl, s1, hu1, hk1⟩
  have ho := HO.out (.slice A1 K.length C1) w1 hu1 s1
  unfold OrdPost at ho
  rw [List.length_range] at ho
  have HOO := Lib.hid ho
  have HU1 := Lib.hid (HU0.out.trans hu1)
  have HK1 := Lib.hid (show ∀ k ∈ blk (.slice A1 K.length C1), w.heap.size ≤ k from fun k hk => Nat.le_trans HU0.out.size (hk1 k hk))
  clear ho s1 hu1 hk1
  go_wp2_with fail
  (with_reducible refine HOO.out.mono ?_)
  rintro e w2 ⟨A2, C2, M, wr, rfl, s2, p2, q2, -, hu2, hk2⟩
  have H2 := Lib.hid (And.intro s2 (And.intro p2 (And.intro q2 (And.intro (HU1.out.trans hu2) (show ∀ k ∈ blk (.slice A2 K.length C2), w.heap.size ≤ k from fun k hk => (hk2 k hk).elim (HK1.out k) (Nat.le_trans HU1.out.size))))))
  clear s2 p2 q2 hu2 hk2
  go_wp2_with fail
  go_ret3
  exact ⟨A2, C2, M, wr, rfl, H2.out.1, H2.out.2.1, H2.out.2.2.1, H2.out.2.2.2.1, H2.out.2.2.2.2⟩
end Go.Proofs.YtcpompbiohaomaaGreat
