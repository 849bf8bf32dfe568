/- gridironlaw22's drop: a number is struck from a bag. -/
import Derived.Test.YtkhgglafnjfiaaaBag
namespace Go.Proofs.Ytkhgglafnjfiaaa
open Go.RowKit

theorem own_take {w : World} {base : Nat} {e : TypeId} {size g n C : Nat} {xs : List Value} (h : w.ownsRow base e size (.slice (some ⟨g, 0, none⟩) n C) n xs) (k : Nat) (hk : k ≤ n) :
    w.ownsRow base e size (.slice (some ⟨g, 0, none⟩) k C) k (xs.take (k * size)) := by
  obtain ⟨h1, h2⟩ := h
  have hks : k * size ≤ n * size := Nat.mul_le_mul_right _ hk
  refine ⟨by rw [List.length_take, h1]; exact Nat.min_eq_left hks, ?_⟩
  rcases h2 with ⟨h2, _⟩ | ⟨g', cap, cur, h2, h3, h4, h5, h6, h7, h8⟩
  · cases h2
  · cases h2
    exact .inr ⟨g, C, cur, rfl, h3, h4, Nat.le_trans hk h5, h6, h7, by rw [← h8, List.take_take, Nat.min_eq_left hks]⟩

theorem cut_head {P : Program} {t e : TypeId} {i : TypeInfo} (ht : P.underlying t = some (.slice e)) (hi : P.info? e = some i) (q n C k : Nat) (hk : k ≤ C) (w : World) :
    (Instr.slice t (.slice (some ⟨q, 0, none⟩) n C) none (some (.int .i64 (k : Int))) none).run P w = .ok (.slice (some ⟨q, 0, none⟩) k C) w := by
  have hel : P.elem t = e := by simp [Program.elem, ht]
  rw [run_slice_h w t _ n C (elem_of ht) .i64 _ (by omega) (by omega)]
  simp [hel, sizeOf, typeInfo, hi, sliced, Addr.add]

theorem erase_at (l : List Int) (k : Nat) (hk : k < l.length) (h : ∀ y ∈ l.take k, y ≠ l[k]) : l.erase l[k] = l.take k ++ l.drop (k + 1) := by
  have e : l = l.take k ++ l[k] :: l.drop (k + 1) := by rw [← List.drop_eq_getElem_cons hk, List.take_append_drop]
  obtain ⟨x, hx⟩ : ∃ x, l[k] = x := ⟨_, rfl⟩
  rw [hx] at h ⊢ e
  obtain ⟨a, ha⟩ : ∃ a, l.take k = a := ⟨_, rfl⟩
  obtain ⟨b, hb⟩ : ∃ b, l.drop (k + 1) = b := ⟨_, rfl⟩
  rw [ha] at h ⊢ e
  rw [hb] at e ⊢
  rw [e, List.erase_append_right _ (fun hc => h x hc rfl), List.erase_cons_head]

set_option maxRecDepth 100000 in
set_option maxHeartbeats 1000000 in
theorem drop22 (p : Value) (x : Int) (l : List Int) (F : List Nat) (w : World) (h : IsBag w p l F) (hl : l.length < 1000000) :
    Calls Try.prog 38 #[p, .int .i64 x] w fun e w' => ∃ F', e = .returned (.bool (decide (x ∈ l))) ∧ IsBag w' p (l.erase x) F' ∧ Upd F w w' ∧ ∀ k ∈ F', k ∈ F ∨ w.heap.size ≤ k := by
  obtain ⟨t, v, rfl, hb, rfl⟩ := h
  obtain ⟨A, C, rfl⟩ := hb.form
  obtain ⟨i1, hi1, hy0, hy1, hy2⟩ := info_parts info_int64
  obtain ⟨hc0, hf0⟩ := hb.cell
  obtain ⟨n, hn⟩ : ∃ n, l.length = n := ⟨_, rfl⟩
  rw [hn] at hb hc0 hl ⊢
  have HB := Lib.hid hb
  have HN := Lib.hid hn
  clear hb hn
  go_enter Try.func38, Try.ntmps38
  go_wp2_with fail
  go_loopg [11] n (fun m i wr => ∃ k, m + k = n ∧ i = .int .i64 (k : Int) ∧ (∀ y ∈ l.take k, y ≠ x) ∧ wr = w)
  case atStart => exact ⟨0, rfl, rfl, by simp, rfl⟩
  case round =>
    obtain ⟨k, hk, rfl, hno, rfl⟩ := hrel
    have hkm : k ≤ n := by omega
    have HK := Lib.hid hk
    have HNO := Lib.hid hno
    clear hk hno
    by_cases hlt : k < n
    · obtain ⟨q, hA, hcell, hfro, hqt⟩ := HB.out.at (k := k) (by rw [HN.out]; exact hlt)
      subst hA
      obtain ⟨y, hy⟩ : ∃ y, l[k]'(by rw [HN.out]; exact hlt) = y := ⟨_, rfl⟩
      rw [hy] at hcell
      have HY := Lib.hid hy
      clear hy
      have b0 : (0 : Int) ≤ (k : Int) := Int.natCast_nonneg _
      have b1 : (k : Int) < (n : Int) := by omega
      by_cases hxy : y = x
      · subst hxy
        have hcap : n ≤ C := by
          rcases HB.out.row.2 with ⟨h0, _⟩ | ⟨g', cap, cur, h0, _, _, h5, _⟩
          · cases h0
          · cases h0; rw [HN.out] at h5; exact h5
        have hr1 := fun w' => cut_head (P := Try.prog) Try.underlying22 hi1 q n C k (by omega) w'
        have hse : Sees wr 1 (.slice (some ⟨q, 0, none⟩) n C) n (KI.all l) := by have := sees_of_own HB.out.row; rw [HN.out] at this; exact this
        obtain ⟨A4, C4, hrun4, hsee4, _⟩ := cut_from (P := Try.prog) Try.underlying22 hi1 hy1 hse (k + 1) (by omega)
        rw [show ((k + 1 : Nat) : Int) = (k : Int) + 1 from by omega] at hrun4
        have hsum : Value.int .i64 (IntKind.i64.wrap ((k : Int) + 1)) = Value.int .i64 ((k : Int) + 1) := by rw [IntWalk.i64_in _ (by omega)]
        have hs4 := hsee4 wr hse
        have hown := own_take (w := wr) (g := q) (C := C) (xs := KI.all l) (n := n) (by have := HB.out.row; unfold Kind.row at this; rw [HN.out] at this; exact this) k (by omega)
        have HS4 := Lib.hid hs4
        have HOWN := Lib.hid hown
        have htq : t ≠ q := Ne.symm hqt
        have htw : t < wr.heap.size := lt_of_block HB.out.head
        clear hse hsee4 hs4 hown
        go_upto_region 5 with fail
        go_region_law ((refine step_app _ (by rfl) _ _ 22 (by rfl) 0 2 i1 (.int .i64 0) 1 8 Try.underlying22 hi1 hy0 hy1 hy2 rfl (by decide) _ _ _ (by rfl) (owns_drew HOWN.out) _ (n - (k + 1)) _ (by rfl) (HS4.out.drew) (fun u hu => KI.all_one l u (List.mem_of_mem_drop hu)) (by unfold maxLen; omega) (by omega) (Nat.zero_le _) ?_; intro A5 C5 w2 HP2; have hst1 := ((HP2.upd).cell (p := ⟨t, 0, none⟩) (by simp; omega) (by simp [blk]; exact htq)).trans hc0; have hst2 := ((HP2.upd).frozen (p := ⟨t, 0, none⟩) (by simp; omega) (by simp [blk]; exact htq)).trans hf0))
        all_goals
          have hlen : (l.take k ++ l.drop (k + 1)).length = k + (n - (k + 1)) := by rw [List.length_append, List.length_take, List.length_drop, HN.out]; omega
          have her : l.erase y = l.take k ++ l.drop (k + 1) := by
            have := erase_at l k (by rw [HN.out]; exact hlt) (by rw [HY.out]; exact HNO.out)
            rwa [HY.out] at this
          have hmem : y ∈ l := by rw [← HY.out]; exact List.getElem_mem _
          have hup := HP2.upd
          have hta : t ∉ blk (.slice (some ⟨q, 0, none⟩) k C) := by simp [blk]; exact htq
          have hh1 := (hup.block t (by simp; omega) hta).trans HB.out.head
          have hbl : ∀ z ∈ blk (.slice A5 (k + (n - (k + 1))) C5), (z = q ∨ wr.heap.size ≤ z) ∧ z ≠ t := by
            intro z hz
            rcases HP2.at with h' | h'
            · rw [h'] at hz
              simp [blk] at hz
              subst hz
              exact ⟨.inl rfl, hqt⟩
            · rw [h'] at hz
              simp at hz
              omega
          have hbag : BagAt (w2.setCell ⟨t, 0, none⟩ (.slice A5 (k + (n - (k + 1))) C5)) t (.slice A5 (k + (n - (k + 1))) C5) (l.erase y) := by
            refine ⟨?_, ?_, fun hc => (hbl t hc).2 rfl⟩
            · have := heap_setCell_same w2 t 0 _ _ (.slice A5 (k + (n - (k + 1))) C5) hh1
              simpa using this
            · have ho := HP2.own
              unfold Kind.row
              rw [her, hlen, Kind.all_app, Kind.all_take, Kind.all_drop]
              exact own_upd ho ((Upd.refl [t] w2).setCell (p := ⟨t, 0, none⟩) (.inl (by simp)) _) (fun z hz => by simp; exact (hbl z hz).2)
          have hu2 : Upd (t :: blk (.slice (some ⟨q, 0, none⟩) n C)) wr (w2.setCell ⟨t, 0, none⟩ (.slice A5 (k + (n - (k + 1))) C5)) := by
            refine Upd.setCell (((Upd.refl _ wr).drew).trans' hup (fun z hz => .inl ?_)) (p := ⟨t, 0, none⟩) (.inl (by simp)) _
            simp [blk] at hz ⊢
            exact .inr hz
          have HBAG := Lib.hid hbag
          have HU2 := Lib.hid hu2
          have HBL := Lib.hid hbl
          have HMEM := Lib.hid hmem
          clear hbag hu2 hbl hmem her hlen hup hh1 hst1 hst2
          go_wp2_with fail
          go_ret
          refine ⟨_, by rw [decide_eq_true HMEM.out]; rfl, ⟨t, _, rfl, HBAG.out, rfl⟩, HU2.out, fun z hz => ?_⟩
          rcases List.mem_cons.1 hz with rfl | hz
          · exact .inl (by simp)
          · rcases (HBL.out z hz).1 with rfl | h
            · exact .inl (by simp [blk])
            · exact .inr h
      · have hq : (y == x) = false := by simpa using hxy
        go_wp2_with fail
        go_roundg (n - (k + 1))
        case measure => have := HK.out; omega
        case rel =>
          refine ⟨k + 1, by have := HK.out; omega, by go_num, ?_, rfl⟩
          intro z hz
          rw [List.take_succ_eq_append_getElem (by rw [HN.out]; exact hlt), HY.out] at hz
          rcases List.mem_append.1 hz with hz | hz
          · exact HNO.out z hz
          · simp at hz; subst hz; exact hxy
    · have hno : x ∉ l := by
        intro hc
        have h := HNO.out x
        rw [List.take_of_length_le (by rw [HN.out]; omega)] at h
        exact h hc rfl
      go_wp2_with fail
      go_ret
      rw [decide_eq_false hno, List.erase_of_not_mem hno]
      exact ⟨_, rfl, ⟨t, _, rfl, HB.out, rfl⟩, Upd.refl _ _, fun z hz => .inl hz⟩
end Go.Proofs.Ytkhgglafnjfiaaa
