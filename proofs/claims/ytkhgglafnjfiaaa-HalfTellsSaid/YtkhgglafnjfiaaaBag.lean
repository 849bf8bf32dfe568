/- gridironlaw22's bag: numbers, rising: build and drop. -/
import Derived.Test.YtkhgglafnjfiaaaSortI
import Derived.Test.YtkhgglafnjfiaaaOps
import Derived.Test.YtkhgglafnjfiaaaSame
import Derived.Test.YtkhgglafnjfiaaaRowsB
import Derived.Test.YtkhgglafnjfiaaaClone
import Derived.Deep.RegionHeld3
import Derived.Deep.RegionLaw
namespace Go.Proofs.Ytkhgglafnjfiaaa
open Go.RowKit

/-- Block t is a bag, its list is v, which has l. -/
structure BagAt (w : World) (t : Nat) (v : Value) (l : List Int) : Prop where
  head : w.heap[t]? = some (.cells #[v] 70 (0, 0))
  row : KI.row w 0 v l
  away : t ∉ blk v

/-- p points to a bag that has l, in the blocks F. -/
def IsBag (w : World) (p : Value) (l : List Int) (F : List Nat) : Prop := ∃ t v, p = .pointer (some ⟨t, 0, none⟩) ∧ BagAt w t v l ∧ F = t :: blk v

theorem BagAt.cell {w : World} {t : Nat} {v : Value} {l : List Int} (h : BagAt w t v l) : w.cell? ⟨t, 0, none⟩ = some v ∧ w.frozen? ⟨t, 0, none⟩ = false := by
  constructor
  · simp [World.cell?, h.head]
  · exact frozen_of_row w t 0 _ _ h.head

theorem BagAt.drewN {w : World} {t : Nat} {v : Value} {l : List Int} (h : BagAt w t v l) (n : Nat) : BagAt (w.drewN n) t v l := ⟨h.head, h.row, h.away⟩

theorem BagAt.lt {w : World} {t : Nat} {v : Value} {l : List Int} (h : BagAt w t v l) : ∀ k ∈ t :: blk v, k < w.heap.size := by
  intro k hk
  rcases List.mem_cons.1 hk with rfl | hk
  · exact lt_of_block h.head
  · exact own_lt h.row k hk

theorem BagAt.upd {w w' : World} {t : Nat} {v : Value} {l : List Int} {F : List Nat} (h : BagAt w t v l) (hu : Upd F w w') (hd : ∀ k ∈ t :: blk v, k ∉ F) : BagAt w' t v l :=
  ⟨(hu.block t (lt_of_block h.head) (hd t (by simp))).trans h.head, own_upd h.row hu (fun k hk => hd k (by simp [hk])), h.away⟩

theorem IsBag.upd {w w' : World} {p : Value} {l : List Int} {F G : List Nat} (h : IsBag w p l F) (hu : Upd G w w') (hd : ∀ k ∈ F, k ∉ G) : IsBag w' p l F := by
  obtain ⟨t, v, rfl, h, rfl⟩ := h
  exact ⟨t, v, rfl, h.upd hu hd, rfl⟩

theorem IsBag.lt {w : World} {p : Value} {l : List Int} {F : List Nat} (h : IsBag w p l F) : ∀ k ∈ F, k < w.heap.size := by
  obtain ⟨t, v, rfl, h, rfl⟩ := h
  exact h.lt

/-- A number of a bag's list. -/
theorem BagAt.at {w : World} {t : Nat} {A : Option Addr} {n C : Nat} {l : List Int} (h : BagAt w t (.slice A n C) l) {k : Nat} (hk : k < l.length) :
    ∃ q, A = some ⟨q, 0, none⟩ ∧ w.cell? ⟨q, k, none⟩ = some (.int .i64 l[k]) ∧ w.frozen? ⟨q, k, none⟩ = false ∧ q ≠ t := by
  obtain ⟨q, cap, he, _, _⟩ := World.ownsRow.form h.row (by omega)
  cases he
  obtain ⟨b', o', he', hc'⟩ := (Ints.of_row h.row).cell hk
  cases he'
  rw [Nat.zero_add] at hc'
  exact ⟨q, rfl, hc', World.ownsRow.frozenAt h.row k, fun e => h.away (by simp [blk, e])⟩

theorem BagAt.form {w : World} {t : Nat} {v : Value} {l : List Int} (h : BagAt w t v l) : ∃ A C, v = .slice A l.length C := own_form h.row

theorem BagAt.store {w : World} {t q n C : Nat} {l : List Int} (h : BagAt w t (.slice (some ⟨q, 0, none⟩) n C) l) (i : Nat) (x : Int) : BagAt (w.setCell ⟨q, i, none⟩ (.int .i64 x)) t (.slice (some ⟨q, 0, none⟩) n C) (l.set i x) := by
  have hq : t ≠ q := fun e => h.away (by simp [blk, e])
  have hn : n = l.length := by
    obtain ⟨A', C', he⟩ := own_form h.row
    cases he; rfl
  subst hn
  refine ⟨?_, ?_, h.away⟩
  · rw [Below.heap_setCell _ _ _ _ hq]; exact h.head
  · have hst := (World.ownsRow.stored h.row i (.int .i64 x)).1
    unfold Kind.row
    rw [List.length_set, KI_all, List.map_set, ← KI_all]
    exact hst

set_option maxRecDepth 100000 in
set_option maxHeartbeats 1000000 in
theorem build22 (s : Value) (l : List Int) (w : World) (hs : Ints w s l) (hl : l.length < 1000000) :
    Calls Try.prog 37 #[s] w fun e w' => ∃ p F, e = .returned p ∧ IsBag w' p (sortI l) F ∧ (∀ k ∈ F, w.heap.size ≤ k) ∧ Upd [] w w' := by
  obtain ⟨A, C, rfl⟩ := hs.form
  obtain ⟨i1, hi1, hy0, hy1, hy2⟩ := info_parts info_int64
  have HS := Lib.hid hs
  clear hs
  go_enter Try.func37, Try.ntmps37
  go_wp2_with fail
  go_loopg [11] l.length (fun m i wr => ∃ k v, m + k = l.length ∧ i = .int .i64 (k : Int) ∧ BagAt wr w.heap.size v (sortI (l.take k)) ∧ (∀ x ∈ blk v, w.heap.size ≤ x) ∧ Upd [] w wr)
  case atStart =>
    exact ⟨0, .slice none 0 0, rfl, rfl, ⟨heap_alloc_new w _, World.ownsRow_nil _ _ _ _, by simp [blk]⟩, by simp [blk], (Upd.refl _ _).alloc _⟩
  case round =>
    obtain ⟨k, v, hk, rfl, hb, hbv, hu⟩ := hrel
    have hkm : k ≤ l.length := by omega
    have HK := Lib.hid hk
    have HU := Lib.hid hu
    have HBV := Lib.hid hbv
    clear hk hu hbv
    by_cases hlt : k < l.length
    · obtain ⟨bb, oo, hB, hcell⟩ := (HS.out.upd0 HU.out).cell hlt
      subst hB
      obtain ⟨x, hx⟩ : ∃ x, l[k] = x := ⟨_, rfl⟩
      rw [hx] at hcell
      have hnext : sortI (l.take (k + 1)) = ins (sortI (l.take k)) x := by rw [List.take_succ_eq_append_getElem hlt, hx, sortI_snoc]
      have hlen : (sortI (l.take k)).length = k := by rw [sortI_len, List.length_take]; omega
      obtain ⟨S, hS⟩ : ∃ S, sortI (l.take k) = S := ⟨_, rfl⟩
      rw [hS] at hb hnext hlen
      obtain ⟨A0, C0, rfl⟩ := hb.form
      rw [hlen] at hb
      obtain ⟨hc0, hf0⟩ := hb.cell
      have HB := Lib.hid hb
      have HNext := Lib.hid hnext
      have HLen := Lib.hid hlen
      clear hx hS hb hnext hlen
      obtain ⟨t, ht⟩ : ∃ t, w.heap.size = t := ⟨_, rfl⟩
      have hb0 := HB.out
      rw [ht] at hc0 hf0 hb0 ⊢
      have HT := Lib.hid ht
      have HB0 := Lib.hid hb0
      clear ht hb0
      have b0 : (0 : Int) ≤ (k : Int) := Int.natCast_nonneg _
      have b1 : (k : Int) < (l.length : Int) := by omega
      go_wp2_with (at_builtin; refine wpList_app _ rfl _ _ 22 rfl 0 2 i1 (.int .i64 0) 1 8 Try.underlying22 hi1 hy0 hy1 hy2 rfl (by decide) _ _ _ rfl (HB0.out.row.alloc _) _ 1 [.int .i64 x] rfl (sees_lit wr #[.int .i64 x] 2 1 1 rfl (by decide)) (by simp [Value.oneCell']) (by unfold maxLen; rw [HLen.out]; omega) (by rw [HLen.out]; omega) (Nat.zero_le _) ?_)
      intro A1 C1 w1 HP
      have hup1 : Upd (blk (.slice A0 k C0)) wr w1 := ((Upd.refl _ _).alloc _).trans HP.upd
      have hta : t ∉ blk (.slice A0 k C0) := HB0.out.away
      have htl : t < wr.heap.size := lt_of_block HB0.out.head
      have hc1 := (hup1.cell (p := ⟨t, 0, none⟩) htl hta).trans hc0
      have hf1 := (hup1.frozen (p := ⟨t, 0, none⟩) htl hta).trans hf0
      have hh1 := (hup1.block t htl hta).trans HB0.out.head
      have hbl : ∀ z ∈ blk (.slice A1 (k + 1) C1), t ≤ z ∧ z ≠ t := by
        intro z hz
        have hHB := HBV.out
        rw [HT.out, HLen.out] at hHB
        rcases HP.at with h' | h'
        · rw [HLen.out] at h'
          rw [h'] at hz
          exact ⟨hHB z hz, fun e => hta (by rw [← e]; exact hz)⟩
        · rw [HLen.out] at h'
          rw [h'] at hz
          simp at hz
          omega
      have hbag : BagAt (w1.setCell ⟨t, 0, none⟩ (.slice A1 (k + 1) C1)) t (.slice A1 (k + 1) C1) (S ++ [x]) := by
        refine ⟨?_, ?_, fun hc => (hbl t hc).2 rfl⟩
        · have := heap_setCell_same w1 t 0 _ _ (.slice A1 (k + 1) C1) hh1
          simpa using this
        · have ho := HP.own
          rw [HLen.out] at ho
          unfold Kind.row
          rw [List.length_append, Kind.all_app, HLen.out]
          exact own_upd ho ((Upd.refl [t] w1).setCell (p := ⟨t, 0, none⟩) (.inl (by simp)) _) (fun z hz => by simp; exact (hbl z hz).2)
      have hu2 : Upd [] w (w1.setCell ⟨t, 0, none⟩ (.slice A1 (k + 1) C1)) := by
        refine Upd.setCell (HU.out.trans' hup1 (fun z hz => ?_)) (p := ⟨t, 0, none⟩) (.inr (by rw [HT.out]; exact Nat.le_refl _)) _
        right
        have hHB := HBV.out
        rw [HLen.out] at hHB
        exact hHB z hz
      rw [HLen.out]
      have HBAG := Lib.hid hbag
      have HU2 := Lib.hid hu2
      have HBL := Lib.hid hbl
      clear hbag hu2 hbl hup1 hh1 HP HB0 hc0 hf0
      go_upto_block 2 with fail
      go_cut [6] (fun s6 wz => ∃ a c, a ≤ k ∧ s6 = .int .i64 (a : Int) ∧ c.length = k + 1 ∧ c.set a x = ins S x ∧ BagAt wz t (.slice A1 (k + 1) C1) c ∧ Upd [] w wz)
      case first =>
        generalize (w1.setCell ⟨t, 0, none⟩ (.slice A1 (k + 1) C1)) = w2 at *
        go_wp2_with fail
        go_loopg [6] k (fun a i wz => ∃ c, a ≤ k ∧ i = .int .i64 (a : Int) ∧ c.length = k + 1 ∧ c.take a = S.take a ∧ c.drop (a + 1) = S.drop a ∧ (∀ y ∈ S.drop a, x < y) ∧ BagAt wz t (.slice A1 (k + 1) C1) c ∧ Upd [] w wz)
        case atStart =>
          refine ⟨S ++ [x], Nat.le_refl _, rfl, by rw [List.length_append, HLen.out]; rfl, ?_, ?_, ?_, HBAG.out, HU2.out⟩
          · rw [List.take_append_of_le_length (by rw [HLen.out]; exact Nat.le_refl _)]
          · rw [List.drop_of_length_le (by rw [List.length_append, HLen.out]; simp), List.drop_of_length_le (by rw [HLen.out]; exact Nat.le_refl _)]
          · rw [List.drop_of_length_le (by rw [HLen.out]; exact Nat.le_refl _)]; simp
        case round =>
          clear hc1 hf1 HBAG HU2
          obtain ⟨c, hgk, rfl, hcl, htk, hdr, hab, hbag, hu⟩ := hrel
          obtain ⟨hc0, hf0⟩ := hbag.cell
          have hfin : (gk = 0 ∨ ∃ h : gk - 1 < S.length, S[gk - 1] ≤ x) → c.set gk x = ins S x := by
            intro h
            rw [ins_at S x gk (by rw [HLen.out]; exact hgk) hab (fun h0 => by
              rcases h with h | ⟨_, h⟩
              · omega
              · exact h)]
            rw [List.set_eq_take_append_cons_drop, if_pos (by omega), htk, hdr]
          have HFIN := Lib.hid hfin
          have HCL := Lib.hid hcl
          have HTK := Lib.hid htk
          have HDR := Lib.hid hdr
          have HAB := Lib.hid hab
          have HBG := Lib.hid hbag
          have HUZ := Lib.hid hu
          clear hfin hcl htk hdr hab hbag hu
          rcases Nat.eq_zero_or_pos gk with h0 | h0
          · subst h0
            go_wp2_with fail
            go_meet
            case rel => exact ⟨0, c, Nat.zero_le _, rfl, HCL.out, HFIN.out (.inl (by simp)), HBG.out, HUZ.out⟩
          · obtain ⟨a, rfl⟩ : ∃ a, gk = a + 1 := ⟨gk - 1, by omega⟩
            obtain ⟨q, hA1, hcq, hfq, hqt⟩ := HBG.out.at (k := a) (by rw [HCL.out]; omega)
            subst hA1
            obtain ⟨q', hA1, hcq2, hfq2, _⟩ := HBG.out.at (k := a + 1) (by rw [HCL.out]; omega)
            cases hA1
            have hSa : c[a]'(by rw [HCL.out]; omega) = S[a]'(by rw [HLen.out]; omega) := by
              have h1 : (c.take (a + 1))[a]? = (S.take (a + 1))[a]? := by rw [HTK.out]
              rw [List.getElem?_take, List.getElem?_take, if_pos (by omega), if_pos (by omega), List.getElem?_eq_getElem (by rw [HCL.out]; omega), List.getElem?_eq_getElem (by rw [HLen.out]; omega)] at h1
              exact Option.some.inj h1
            rw [hSa] at hcq
            obtain ⟨y, hy⟩ : ∃ y, S[a]'(by rw [HLen.out]; omega) = y := ⟨_, rfl⟩
            rw [hy] at hcq
            obtain ⟨z, hz⟩ : ∃ z, c[a + 1]'(by rw [HCL.out]; omega) = z := ⟨_, rfl⟩
            rw [hz] at hcq2
            have HY := Lib.hid hy
            clear hSa hy hz
            have e8 : (((a + 1 : Nat) : Int) - 1) = (a : Int) := by omega
            have e9 : (((a + 1 : Nat) : Int)) = (a : Int) + 1 := by omega
            have c0 : (0 : Int) ≤ (a : Int) := Int.natCast_nonneg _
            have c1 : (a : Int) < (k : Int) + 1 := by omega
            have c2 : (a : Int) + 1 < (k : Int) + 1 := by omega
            by_cases hxy : x < y
            · go_wp2_with fail
              go_region
              go_wp2_with fail
              go_roundg a
              case measure => omega
              case rel =>
                refine ⟨c.set (a + 1) y, by omega, by go_num, by rw [List.length_set]; exact HCL.out, ?_, ?_, ?_, (HBG.out.store (a + 1) y).drewN _, (HUZ.out.setCell (p := ⟨q, a + 1, none⟩) (.inr (by rw [HT.out]; exact (HBL.out q (by simp [blk])).1)) _).drewN _⟩
                · rw [List.take_set_of_le (by omega)]
                  have := congrArg (List.take a) HTK.out
                  rwa [List.take_take, List.take_take, Nat.min_eq_left (by omega)] at this
                · rw [List.drop_eq_getElem_cons (by rw [List.length_set, HCL.out]; omega), List.drop_eq_getElem_cons (l := S) (by rw [HLen.out]; omega), List.drop_set_of_lt (by omega), HDR.out, HY.out]
                  simp
                · intro u hu
                  rw [List.drop_eq_getElem_cons (l := S) (by rw [HLen.out]; omega), HY.out] at hu
                  rcases List.mem_cons.1 hu with rfl | hu
                  · exact hxy
                  · exact HAB.out u hu
            · go_wp2_with fail
              go_meet
              case rel => exact ⟨a + 1, c, hgk, by go_num, HCL.out, HFIN.out (.inr ⟨by rw [HLen.out]; omega, by have := HY.out; show S[a]'(by rw [HLen.out]; omega) ≤ x; omega⟩), HBG.out, HUZ.out⟩
      case rest =>
        clear hc1 hf1 HBAG HU2
        obtain ⟨a, c, hak, rfl, hcl, hset, hbag, hu⟩ := hcut
        obtain ⟨hc0, hf0⟩ := hbag.cell
        obtain ⟨q, hA1, hcq, hfq, hqt⟩ := hbag.at (k := a) (by rw [hcl]; omega)
        subst hA1
        obtain ⟨z, hz⟩ : ∃ z, c[a]'(by rw [hcl]; omega) = z := ⟨_, rfl⟩
        rw [hz] at hcq
        have HCL := Lib.hid hcl
        have HSET := Lib.hid hset
        have HBG := Lib.hid hbag
        have HUZ := Lib.hid hu
        clear hz hcl hset hbag hu
        have c0 : (0 : Int) ≤ (a : Int) := Int.natCast_nonneg _
        have c1 : (a : Int) < (k : Int) + 1 := by omega
        go_wp2_with fail
        have ht := HT.out
        subst ht
        go_roundg (l.length - (k + 1))
        case measure => have := HK.out; omega
        case rel =>
          refine ⟨k + 1, _, by have := HK.out; omega, by go_num, ?_, fun u hu => (HBL.out u hu).1, HUZ.out.setCell (p := ⟨q, a, none⟩) (.inr (HBL.out q (by simp [blk])).1) _⟩
          rw [HNext.out, ← HSET.out]
          exact HBG.out.store a x
    · have hfull : l.take k = l := List.take_of_length_le (by omega)
      rw [hfull] at hb
      have HB := Lib.hid hb
      clear hb hfull
      go_wp2_with fail
      go_ret
      exact ⟨_, _, rfl, ⟨_, v, rfl, HB.out, rfl⟩, by intro z hz; rcases List.mem_cons.1 hz with rfl | hz; exact Nat.le_refl _; exact HBV.out z hz, HU.out⟩
end Go.Proofs.Ytkhgglafnjfiaaa
