/- The document's answers of chapter 8: Right, Sorted. -/
import Derived.Test.YtjpjlfcjkgmhdaaSpanO
namespace Go.Proofs.Ytjpjlfcjkgmhdaa
open Go.RowKit

theorem rightS_take {l : List Sp} {i : Nat} {s : Sp} (hs : l[i]? = some s) (h : rightS (l.take i) = true) (h1 : s.lo ≤ s.hi) (h2 : ∀ t ∈ l.take i, t.id ≠ s.id) : rightS (l.take (i + 1)) = true := by
  obtain ⟨g1, g2⟩ := List.getElem?_eq_some_iff.1 hs
  rw [rightS_iff] at h ⊢
  rw [List.take_succ_eq_append_getElem g1, g2, List.map_append, List.nodup_append]
  refine ⟨fun t ht => ?_, h.2, by simp, fun a ha b hb hab => ?_⟩
  · rcases List.mem_append.1 ht with ht | ht
    · exact h.1 t ht
    · simp at ht; subst ht; exact h1
  · simp at hb
    subst hb
    obtain ⟨t, ht, rfl⟩ := List.mem_map.1 ha
    exact h2 t ht hab

theorem rightS_no {l : List Sp} {i : Nat} {s : Sp} (hs : l[i]? = some s) (h : ¬ s.lo ≤ s.hi) : rightS l = false := by
  rw [Bool.eq_false_iff]
  intro hc
  exact h ((rightS_iff.1 hc).1 s (List.mem_of_getElem? hs))

theorem rightS_twice {l : List Sp} {i k : Nat} {s t : Sp} (hs : l[i]? = some s) (ht : l[k]? = some t) (hki : k < i) (h : t.id = s.id) : rightS l = false := by
  rw [Bool.eq_false_iff]
  intro hc
  have h1 := (rightS_iff.1 hc).2
  obtain ⟨g1, g2⟩ := List.getElem?_eq_some_iff.1 hs
  obtain ⟨g3, g4⟩ := List.getElem?_eq_some_iff.1 ht
  have := List.pairwise_iff_getElem.1 h1 k i (by simpa using g3) (by simpa using g1) hki
  rw [List.getElem_map, List.getElem_map, g2, g4] at this
  exact this h

set_option maxRecDepth 100000 in
set_option maxHeartbeats 4000000 in
theorem refRight (v : Value) (l : List Sp) (w : World) (h : See KSp w v l) (hl : l.length < 1000000) :
    Calls Try.prog 14 #[v] w fun e w' => e = .returned (.bool (rightS l)) ∧ Upd [] w w' := by
  obtain ⟨A, C, rfl⟩ := h.form
  obtain ⟨N, hN⟩ : ∃ N, l.length = N := ⟨_, rfl⟩
  have h' : See KSp w (.slice A N C) l := by rw [← hN]; exact h
  rw [hN] at hl ⊢
  have n0 : (0 : Int) ≤ (N : Int) := Int.natCast_nonneg _
  have H := Lib.hid h'
  have HN := Lib.hid hN
  clear h h' hN
  go_enter Try.func14, Try.ntmps14
  go_wp2_with fail
  go_loopg [3] N (fun m s3 wr => ∃ i : Nat, m + i = N ∧ s3 = .int .i64 (i : Int) ∧ rightS (l.take i) = true ∧ Upd [] w wr)
  case atStart => exact ⟨0, rfl, rfl, by simp [rightS], Upd.refl _ _⟩
  case round =>
    obtain ⟨i, hi, rfl, hri, hup⟩ := hrel
    have i0 : (0 : Int) ≤ (i : Int) := Int.natCast_nonneg _
    have hiN : i ≤ N := by omega
    have HI := Lib.hid (And.intro hi (And.intro hri hup))
    clear hi hri
    by_cases hlt : i < N
    · obtain ⟨s, hs⟩ : ∃ s, l[i]? = some s := ⟨_, List.getElem?_eq_getElem (by rw [HN.out]; exact hlt)⟩
      obtain ⟨g, o, rfl, -, -, ey⟩ := (H.out.upd0 hup).at hs
      have y0 : wr.cell? ⟨g, o + i * 3, none⟩ = some (.int .i64 s.lo) := ey 0 _ rfl
      have y1 : wr.cell? ⟨g, o + i * 3 + 1, none⟩ = some (.int .i64 s.hi) := ey 1 _ rfl
      have b1 : (i : Int) < (N : Int) := by omega
      have HX := Lib.hid hs
      clear hs ey hup
      by_cases hb : s.lo ≤ s.hi
      · have hg : decide (s.hi < s.lo) = false := decide_eq_false (by omega)
        have HB := Lib.hid hb
        clear hb
        go_wp2_with fail
        go_quiet (fail)
        go_wp2_with fail
        clear y0 y1
        obtain ⟨wo, hwo⟩ : ∃ wo : World, wo = wr := ⟨_, rfl⟩
        subst hwo
        go_loopg [4] i (fun m s4 wr => ∃ k : Nat, m + k = i ∧ s4 = .int .i64 (k : Int) ∧ (∀ t ∈ (l.take i).take k, t.id ≠ s.id) ∧ Upd [] w wr)
        case atStart => exact ⟨0, rfl, rfl, by simp, HI.out.2.2.drewN _⟩
        case round =>
          obtain ⟨k, hk, rfl, hne, hup⟩ := hrel
          have k0 : (0 : Int) ≤ (k : Int) := Int.natCast_nonneg _
          have hki : k ≤ i := by omega
          have HK := Lib.hid (And.intro hk (And.intro hne hup))
          clear hk hne
          by_cases hlt2 : k < i
          · obtain ⟨t, ht⟩ : ∃ t, l[k]? = some t := ⟨_, List.getElem?_eq_getElem (by rw [HN.out]; omega)⟩
            have hse := H.out.upd0 hup
            obtain ⟨g2, o2, hg2, -, -, ez⟩ := hse.at ht
            obtain ⟨g3, o3, hg3, -, -, ey⟩ := hse.at HX.out
            injection hg2 with hg2
            injection hg2 with hg2 ho2 _
            injection hg3 with hg3
            injection hg3 with hg3 ho3 _
            subst hg2 ho2 hg3 ho3
            have z2 : wr.cell? ⟨g, o + k * 3 + 2, none⟩ = some (.int .u32 (t.id : Int)) := ez 2 _ rfl
            have z3 : wr.cell? ⟨g, o + i * 3 + 2, none⟩ = some (.int .u32 (s.id : Int)) := ey 2 _ rfl
            have k1 : (k : Int) < (i : Int) := by omega
            have k2 : (k : Int) < (N : Int) := by omega
            have HT := Lib.hid ht
            clear ht hse ez ey hup
            by_cases he : t.id = s.id
            · have hq : ((t.id : Int) == (s.id : Int)) = true := by simp [he]
              have HE := Lib.hid (rightS_twice HX.out HT.out hlt2 he)
              clear he
              go_wp2_with fail
              go_quiet (fail)
              go_wp2_with fail
              go_ret
              exact ⟨by rw [HE.out]; rfl, HK.out.2.2.drewN _⟩
            · have hq : ((t.id : Int) == (s.id : Int)) = false := by rw [beq_eq_false_iff_ne]; omega
              have HE := Lib.hid he
              clear he
              go_wp2_with fail
              go_quiet (fail)
              go_wp2_with fail
              go_roundg (i - (k + 1))
              case measure => have := HK.out.1; omega
              case rel =>
                refine ⟨k + 1, by have := HK.out.1; omega, by go_num, ?_, HK.out.2.2.drewN _⟩
                obtain ⟨g1, g2⟩ := List.getElem?_eq_some_iff.1 HT.out
                have e : (l.take i).take (k + 1) = (l.take i).take k ++ [t] := by
                  rw [List.take_succ_eq_append_getElem (by rw [List.length_take]; omega), List.getElem_take, g2]
                rw [e]
                intro u hu
                rcases List.mem_append.1 hu with hu | hu
                · exact HK.out.2.1 u hu
                · simp at hu; subst hu; exact HE.out
          · have hkk : k = i := by omega
            have hall := HK.out.2.1
            rw [hkk, List.take_of_length_le (by rw [List.length_take]; omega)] at hall
            have HALL := Lib.hid (rightS_take HX.out HI.out.2.1 HB.out hall)
            clear hall hkk hup
            go_wp2_with fail
            go_roundg (N - (i + 1))
            case measure => have := HI.out.1; omega
            case rel => exact ⟨i + 1, by have := HI.out.1; omega, by go_num, HALL.out, HK.out.2.2⟩
      · have hg : decide (s.hi < s.lo) = true := decide_eq_true (by omega)
        have HB := Lib.hid (rightS_no HX.out hb)
        clear hb
        go_wp2_with fail
        go_quiet (fail)
        go_wp2_with fail
        go_ret
        exact ⟨by rw [HB.out]; rfl, HI.out.2.2.drewN _⟩
    · have hfin : rightS l = true := by
        have := HI.out.2.1
        rwa [List.take_of_length_le (by rw [HN.out]; omega)] at this
      have HF := Lib.hid hfin
      clear hfin hup
      go_wp2_with fail
      go_ret
      exact ⟨by rw [HF.out]; rfl, HI.out.2.2⟩
end Go.Proofs.Ytjpjlfcjkgmhdaa
