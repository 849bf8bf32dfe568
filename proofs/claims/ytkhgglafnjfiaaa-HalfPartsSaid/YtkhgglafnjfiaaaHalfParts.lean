/- The walk of HalfParts. -/
import Derived.Test.YtkhgglafnjfiaaaTreesP
import Derived.Deep.RegionLaw
import Derived.IntWalk
namespace Go.Proofs.Ytkhgglafnjfiaaa
open Go.RowKit
attribute [local go_sem ↓] Go.wp_at_zero Go.wp_at_succ

theorem filter_at (L : List Int) (i : Nat) (x : Int) (hn : L.Nodup) (hi : L[i]? = some x) : L.filter (fun y => y != x) = L.take i ++ L.drop (i + 1) := by
  obtain ⟨h1, h2⟩ := List.getElem?_eq_some_iff.1 hi
  have e : L = L.take i ++ x :: L.drop (i + 1) := by
    rw [← h2, ← List.drop_eq_getElem_cons h1, List.take_append_drop]
  generalize L.take i = a at *
  generalize L.drop (i + 1) = c at *
  subst e
  rw [List.nodup_append, List.nodup_cons] at hn
  obtain ⟨n1, ⟨n2, n3⟩, n4⟩ := hn
  rw [List.filter_append, List.filter_cons, if_neg (by simp), List.filter_eq_self.2, List.filter_eq_self.2]
  · intro y hy
    have : y ≠ x := by rintro rfl; exact n2 hy
    simpa using this
  · intro y hy
    have : y ≠ x := by rintro rfl; exact n4 _ hy _ (by simp) rfl
    simpa using this

def fnd (L : List Int) (x : Int) : Nat → Int
  | 0 => -1
  | k + 1 => if L.getD k 0 = x then (k : Int) else fnd L x k

theorem fnd_no (L : List Int) (x : Int) (hx : x ∉ L) : ∀ k, k ≤ L.length → fnd L x k = -1
  | 0, _ => rfl
  | k + 1, hk => by
    unfold fnd
    rw [if_neg, fnd_no L x hx k (by omega)]
    intro e
    rw [List.getD_eq_getElem?_getD, List.getElem?_eq_getElem (by omega)] at e
    exact hx (by rw [← e]; exact List.getElem_mem _)

theorem fnd_yes (L : List Int) (x : Int) : ∀ k, k ≤ L.length → x ∈ L.take k → ∃ i, i < k ∧ fnd L x k = (i : Int) ∧ L[i]? = some x
  | 0, _, h => by simp at h
  | k + 1, hk, h => by
    unfold fnd
    rw [List.getD_eq_getElem?_getD, List.getElem?_eq_getElem (by omega)]
    by_cases e : L[k] = x
    · exact ⟨k, by omega, by simp [e], by rw [List.getElem?_eq_getElem (by omega), e]⟩
    · have : x ∈ L.take k := by
        rw [List.take_succ_eq_append_getElem (by omega)] at h
        rcases List.mem_append.1 h with h | h
        · exact h
        · simp at h; exact absurd h.symm e
      obtain ⟨i, h1, h2, h3⟩ := fnd_yes L x k (by omega) this
      exact ⟨i, by omega, by simp [e, h2], h3⟩

set_option maxRecDepth 100000 in
set_option maxHeartbeats 2000000 in
theorem parts_walk (v : Value) (l : List (Bool × Int)) (w : World) (h : IsOps w v l) (hwf : ∀ o ∈ l, (Lit.int .i64 o.2).wf = true) (hl : l.length ≤ 9223372036854775807) :
    Calls Try.prog 8 #[v] w fun e w' => e = .returned (.bool true) ∧ Below w.heap.size w w' := by
  obtain ⟨Ao, Co, rfl⟩ := h.form
  obtain ⟨i1, hi1, hy0, hy1, hy2⟩ := info_parts info_op
  obtain ⟨n, hn⟩ : ∃ n, min l.length 120 = n := ⟨_, rfl⟩
  have hmn : Value.int .i64 (min (l.length : Int) 120) = Value.int .i64 (n : Int) := by rw [← hn]; congr 1; omega
  obtain ⟨A1, C1, hrun1, hsee1, hblk1⟩ := cut_to (P := Try.prog) Try.underlying55 hi1 hy1 h n (by omega)
  have hs1 : IsOps w (.slice A1 n C1) (l.take n) := by
    have := hsee1 w h
    unfold IsOps
    rw [opEnc_take, List.length_take, Nat.min_eq_left (by omega)]
    exact this
  have hwf1 : ∀ o ∈ l.take n, (Lit.int .i64 o.2).wf = true := fun o ho => hwf o (List.mem_of_mem_take ho)
  have hln : (l.take n).length = n := by rw [List.length_take]; omega
  have hn120 : n ≤ 120 := by omega
  generalize l.take n = os at *
  have HS1 := Lib.hid hs1
  have HWF := Lib.hid hwf1
  have HLN := Lib.hid hln
  have hnew := newW w
  unfold fnBuild fnDrop at hnew
  have HNEW := Lib.hid hnew
  clear hnew h hwf hs1 hwf1 hln hsee1 hblk1 hn
  have hmm := @run_makeMap Try.prog
  go_enter Try.func8, Try.ntmps8
  go_wp2_with fail
  refine HNEW.out.mono ?_
  rintro e w1 ⟨b, F, rfl, hH, hu1, hF⟩
  have hL := HG.start hH hu1 (fun x hx => (hF x hx).1)
  have HLL := Lib.hid hL
  have HS2 := Lib.hid (HS1.out.upd hu1)
  clear hL hH hu1 hF
  go_wp2_with fail


  go_loopg [4, 28] n (fun m want i wr => ∃ k, m + k = n ∧ i = .int .i64 (k : Int) ∧ ∃ S A C, want = .slice A (vAll (view S)).length C ∧ HG w wr (.pointer (some ⟨b, 0, none⟩)) S (blk (.slice A (vAll (view S)).length C)) ∧ KI.row wr w.heap.size (.slice A (vAll (view S)).length C) (vAll (view S)) ∧ HOk S k ∧ ∀ y ∈ vAll (view S), (Lit.int .i64 y).wf = true)
  case atStart => exact ⟨0, rfl, rfl, S00, none, 0, rfl, HLL.out, World.ownsRow_nil _ _ _ _, ok00, by simp [view00, vAll]⟩
  case round =>
    obtain ⟨k, hk, rfl, S, A, C, rfl, hL, hR, hO, hwl⟩ := hrel
    have hkn : k ≤ n := by omega
    have HK := Lib.hid hk
    have HL0 := Lib.hid hL
    have HO := Lib.hid hO
    have HR0 := Lib.hid hR
    have HWL := Lib.hid hwl
    clear hk hL hO hR hwl
    by_cases hlt : k < n
    · have hop := HS1.out.upd HL0.out.up
      obtain ⟨q, oq, hA1, hcell1, hcell2⟩ := hop.at (k := k) (by rw [HLN.out]; exact hlt)
      subst hA1
      obtain ⟨o, ho⟩ : ∃ o, os[k]'(by rw [HLN.out]; exact hlt) = o := ⟨_, rfl⟩
      have hx : (Lit.int .i64 o.2).wf = true := HWF.out o (by rw [← ho]; exact List.getElem_mem _)
      rw [ho] at hcell1 hcell2
      obtain ⟨d, x⟩ := o
      simp only at hcell1 hcell2 hx
      have b0 : (0 : Int) ≤ (k : Int) := Int.natCast_nonneg _
      have b1 : (k : Int) < (n : Int) := by omega
      have HX := Lib.hid hx
      clear hop ho hx
      obtain ⟨L, hL⟩ : ∃ L, vAll (view S) = L := ⟨_, rfl⟩
      rw [hL] at HL0 HR0 ⊢
      have hnd : L.Nodup := by rw [← hL]; exact HO.out.nodup
      have hll : L.length ≤ k := by
        rw [← hL]
        have e1 := vAll_len (view S)
        rw [view_len] at e1
        exact Nat.le_trans e1 HO.out.cs
      have hhas : has S x = decide (x ∈ L) := by
        rw [HO.out.has, ← hL, Bool.eq_iff_iff, decide_eq_true_iff, decide_eq_true_iff, mem_vAll]
      have hbox := heap_alloc_new wr (.cells #[.bool d, .int .i64 x] 62)
      have hoc0 : (wr.alloc (.cells #[.bool d, .int .i64 x] 62)).cell? ⟨wr.heap.size, 0, none⟩ = some (.bool d) := by rw [World.cell?_alloc_at _ _ _ _ rfl]; rfl
      have hoc1 : (wr.alloc (.cells #[.bool d, .int .i64 x] 62)).cell? ⟨wr.heap.size, 1, none⟩ = some (.int .i64 x) := by rw [World.cell?_alloc_at _ _ _ _ rfl]; rfl
      have hgq : HG w (wr.alloc (.cells #[.bool d, .int .i64 x] 62)) (.pointer (some ⟨b, 0, none⟩)) S (wr.heap.size :: blk (.slice A L.length C)) := HL0.out.write (P := []) ((Upd.refl _ _).alloc _) (by simp) (fun y hy => by
        rcases List.mem_cons.1 hy with rfl | hy
        · exact .inr ⟨Nat.le_refl _, by simp⟩
        · exact .inl hy)
      have hrq : KI.row (wr.alloc (.cells #[.bool d, .int .i64 x] 62)) w.heap.size (.slice A L.length C) L := own_upd HR0.out ((Upd.refl [] wr).alloc _) (by simp)
      have HLE := Lib.hid hL
      have HND := Lib.hid hnd
      have HHAS := Lib.hid hhas
      clear hL hnd hhas hbox
      go_upto_region 7 with fail
      generalize wr.alloc (.cells #[.bool d, .int .i64 x] 62) = wq at *
      generalize wr.heap.size = ob at *
      have HGQ := Lib.hid hgq
      have HRQ := Lib.hid hrq
      clear hgq hrq
      obtain ⟨nl, hnl⟩ : ∃ nl, L.length = nl := ⟨_, rfl⟩
      rw [hnl] at HGQ HRQ hll ⊢
      have HNL := Lib.hid hnl
      clear hnl HL0 HR0
      go_wp2_with fail
      go_loopg [7, 34] nl (fun m at_ i wl => ∃ j, m + j = nl ∧ i = .int .i64 (j : Int) ∧ at_ = .int .i64 (fnd L x j) ∧ wq = wl)
      case atStart => exact ⟨0, rfl, rfl, rfl, rfl⟩
      case round =>
        obtain ⟨j, hj, rfl, rfl, rfl⟩ := hrel
        have hjn : j ≤ nl := by omega
        have HJ := Lib.hid hj
        clear hj
        by_cases hjl : j < nl
        · obtain ⟨y, hy⟩ : ∃ y, L[j]? = some y := ⟨L[j]'(by rw [HNL.out]; exact hjl), List.getElem?_eq_getElem _⟩
          obtain ⟨qr, hqA, hqc, _, hqn, _⟩ := own_at HRQ.out (k := j) (by rw [HNL.out]; exact hjl) (u := .int .i64 y) (by rw [KI_all, List.getElem?_map, hy]; rfl)
          subst hqA
          rw [HNL.out] at hqn
          have c0 : (0 : Int) ≤ (j : Int) := Int.natCast_nonneg _
          have c1 : (j : Int) < (nl : Int) := by omega
          have hf : fnd L x (j + 1) = if y = x then (j : Int) else fnd L x j := by
            show (if L.getD j 0 = x then _ else _) = _
            rw [List.getD_eq_getElem?_getD, hy]; rfl
          have HF := Lib.hid hf
          clear hf hy
          by_cases hyx : y = x
          · subst hyx
            have hf2 := HF.out
            rw [if_pos rfl] at hf2
            have HF2 := Lib.hid hf2
            clear hf2
            go_wp2_with fail
            go_roundg (nl - (j + 1))
            case measure => have := HJ.out; omega
            case rel => exact ⟨j + 1, by have := HJ.out; omega, by go_num, by rw [HF2.out], rfl⟩
          · have hf2 := HF.out
            rw [if_neg hyx] at hf2
            have HF2 := Lib.hid hf2
            clear hf2
            go_wp2_with fail
            go_roundg (nl - (j + 1))
            case measure => have := HJ.out; omega
            case rel => exact ⟨j + 1, by have := HJ.out; omega, by go_num, by rw [HF2.out], rfl⟩
        · have hjn' : j = nl := by omega
          subst hjn'
          obtain ⟨fa, hfa⟩ : ∃ fa, fnd L x j = fa := ⟨_, rfl⟩
          rw [hfa]
          have HFA := Lib.hid hfa
          clear hfa HJ
          have hall := HO.out.op_all d x
          rw [HLE.out] at hall
          obtain ⟨M, hM⟩ : ∃ M, vAll (view (opS S d x)) = M := ⟨_, rfl⟩
          rw [hM] at hall
          have HM := Lib.hid hM
          have HALL := Lib.hid hall
          clear hM hall
          have hobb : ob ∈ ob :: blk (.slice A j C) := by simp
          go_upto_if 46 with fail
          go_cut [4] (fun s4 wc => ∃ A' C', s4 = .slice A' M.length C' ∧ HG w wc (.pointer (some ⟨b, 0, none⟩)) (opS S d x) (blk (.slice A' M.length C')) ∧ KI.row wc w.heap.size (.slice A' M.length C') M)
          case first =>
            cases d
            · by_cases hxl : x ∈ L
              · have hM2 : M = L := by rw [HALL.out]; simp [hxl]
                obtain ⟨i, hij, hfi, hLi⟩ := fnd_yes L x j (by rw [HNL.out]; omega) (by rw [List.take_of_length_le (by rw [HNL.out]; omega)]; exact hxl)
                rw [HFA.out] at hfi
                subst hfi
                have hh : (!has S x) = false := by rw [HHAS.out]; simp [hxl]
                have hdec : decide ((i : Int) < 0) = false := by simp
                have HH := Lib.hid hh
                have HM2 := Lib.hid hM2
                clear hh hM2 hLi hxl
                go_wp2_with fail
                refine (addG HGQ.out HO.out (by omega) x HX.out).mono ?_
                rintro e w2 ⟨rfl, hg2, hk2⟩
                rw [HH.out]
                have hr2 := hk2.row HRQ.out (fun y hy => by simp [hy])
                have HG2 := Lib.hid hg2
                have HR2 := Lib.hid hr2
                clear hg2 hk2 hr2
                go_wp2_with fail
                go_meet
                case rel =>
                  refine ⟨A, C, by rw [HM2.out, HNL.out], ?_, ?_⟩
                  · rw [HM2.out, HNL.out]
                    exact HG2.out.write (P := []) (Upd.refl _ _) (by simp) (fun y hy => .inl (by simp [hy]))
                  · rw [HM2.out, HNL.out]; exact HR2.out
              · have hM2 : M = L ++ [x] := by rw [HALL.out]; simp [hxl]
                have hfi := fnd_no L x hxl j (by rw [HNL.out]; omega)
                rw [HFA.out] at hfi
                subst hfi
                have hh : (!has S x) = true := by rw [HHAS.out]; simp [hxl]
                have HH := Lib.hid hh
                have HM2 := Lib.hid hM2
                obtain ⟨i2, hi2, hz0, hz1, hz2⟩ := info_parts info_int64
                clear hh hM2 hxl
                go_wp2_with fail
                refine (addG HGQ.out HO.out (by omega) x HX.out).mono ?_
                rintro e w2 ⟨rfl, hg2, hk2⟩
                rw [HH.out]
                have hr2 := hk2.row HRQ.out (fun y hy => by simp [hy])
                have ho2 := (hk2.cell (p := ⟨ob, 1, none⟩) hobb).trans hoc1
                have HG2 := Lib.hid hg2
                have HR2 := Lib.hid hr2
                clear hg2 hk2 hr2
                have hown2 := row_n HR2.out HNL.out
                have hbase := HG2.out.up.size
                have HOW := Lib.hid hown2
                clear hown2
                go_wp2_with (at_builtin; refine wpList_app _ rfl _ _ 22 rfl w.heap.size 2 i2 (.int .i64 0) 1 8 Try.underlying22 hi2 hz0 hz1 hz2 rfl (by decide) _ j (KI.all L) rfl (HOW.out.alloc _) _ 1 [.int .i64 x] rfl (sees_lit w2 #[.int .i64 x] 2 1 1 rfl (by decide)) (by simp [Value.oneCell']) (by unfold maxLen; omega) (by omega) (by simp; omega) ?_)
                intro A9 C9 w9 HP9
                obtain ⟨hup9, ho9, hb9⟩ := app_at (w := w2) (v := .slice A j C) ((Upd.refl _ w2).alloc (.cells #[.int .i64 x] 2)) HP9
                have HP := Lib.hid HP9
                have HU9 := Lib.hid hup9
                have HO9 := Lib.hid ho9
                have HB9 := Lib.hid hb9
                clear HP9 hup9 ho9 hb9
                go_wp2_with fail
                go_meet
                case rel =>
                  have hml : M.length = j + 1 := by rw [HM2.out, List.length_append, HNL.out]; rfl
                  refine ⟨A9, C9, by rw [hml], ?_, ?_⟩
                  · rw [hml]
                    refine HG2.out.write HU9.out (fun y hy => by simp [hy]) (fun y hy => ?_)
                    rcases HB9.out y hy with g | g
                    · exact .inl (by simp [g])
                    · exact .inr ⟨g, own_lt HO9.out y hy⟩
                  · rw [hml, HM2.out]
                    unfold Kind.row
                    rw [Kind.all_app, List.length_append, HNL.out]
                    exact HO9.out
            · by_cases hxl : x ∈ L
              · have hM2 : M = L.filter fun y => y != x := by rw [HALL.out]; simp
                obtain ⟨i, hij, hfi, hLi⟩ := fnd_yes L x j (by rw [HNL.out]; omega) (by rw [List.take_of_length_le (by rw [HNL.out]; omega)]; exact hxl)
                rw [HFA.out] at hfi
                subst hfi
                have hh : has S x = true := by rw [HHAS.out]; simp [hxl]
                have hM3 : M = L.take i ++ L.drop (i + 1) := by rw [hM2]; exact filter_at L i x HND.out hLi
                have hdec : decide ((0 : Int) ≤ (i : Int)) = true := by simp
                have HH := Lib.hid hh
                have HM3 := Lib.hid hM3
                obtain ⟨i2, hi2, hz0, hz1, hz2⟩ := info_parts info_int64
                clear hh hM2 hM3 hLi hxl
                go_wp2_with fail
                refine (dropG HGQ.out HO.out (by omega) x HX.out).mono ?_
                rintro e w2 ⟨rfl, hg2, hk2⟩
                rw [HH.out]
                have hr2 := hk2.row HRQ.out (fun y hy => by simp [hy])
                have hsee := sees_of_own (row_n hr2 HNL.out)
                obtain ⟨At, Ct, hrt, hst, _⟩ := cut_to (P := Try.prog) Try.underlying22 hi2 hz1 hsee i (by omega)
                obtain ⟨Af, Cf, hrf, hsf, hbf⟩ := cut_from (P := Try.prog) Try.underlying22 hi2 hz1 hsee (i + 1) (by omega)
                have hwi : IntKind.i64.wrap ((i : Int) + 1) = (i : Int) + 1 := IntWalk.i64_in _ (by omega)
                rw [show ((i + 1 : Nat) : Int) = (i : Int) + 1 by omega] at hrf
                have HG2 := Lib.hid hg2
                have HR2 := Lib.hid hr2
                have HSEE := Lib.hid hsee
                have HST := Lib.hid hst
                have HSF := Lib.hid hsf
                clear hg2 hk2 hr2 hsee hst hsf
                go_upto_region 18 with fail
                go_region_law (first
                  | (refine step_app _ (by rfl) _ _ 22 (by rfl) w2.heap.size 2 i2 (.int .i64 0) 1 8 Try.underlying22 hi2 hz0 hz1 hz2 rfl (by decide) (.slice (some ⟨w2.heap.size, 0, none⟩) 0 0) 0 [] (by rfl) (owns_drew (own_empty w2 _ _ (Nat.le_refl _))) _ i ((KI.all L).take (i * 1)) (by rfl) (HST.out _ (sees_upd HSEE.out ((Upd.refl [] w2).alloc _) (by simp)).drew) (by intro u hu; rw [KI_all] at hu; have := List.mem_of_mem_take hu; simp at this; obtain ⟨_, _, rfl⟩ := this; rfl) (by unfold maxLen; omega) (by omega) (by simp) ?_; intro A4 C4 w4 HP4
                     obtain ⟨hup4, ho4, hb4⟩ := app_at (w := w2) (v := .slice (some ⟨w2.heap.size, 0, none⟩) 0 0) (((Upd.refl [] w2).alloc (.cells #[] 2)).drew) HP4
                     rw [Nat.zero_add, List.nil_append] at ho4
                     rw [Nat.zero_add] at hb4
                     have HU4 := Lib.hid hup4
                     have HO4 := Lib.hid ho4
                     have HB4 := Lib.hid hb4
                     clear HP4 hup4 ho4 hb4)
                  | (refine step_app _ (by rfl) _ _ 22 (by rfl) w2.heap.size 2 i2 (.int .i64 0) 1 8 Try.underlying22 hi2 hz0 hz1 hz2 rfl (by decide) (.slice A4 i C4) i ((KI.all L).take (i * 1)) (by rfl) HO4.out _ (j - (i + 1)) ((KI.all L).drop ((i + 1) * 1)) (by rfl) (HSF.out _ (sees_upd HSEE.out HU4.out (fun _ y _ hlt hc => by simp [blk] at hc; omega))) (by intro u hu; rw [KI_all] at hu; have := List.mem_of_mem_drop hu; simp at this; obtain ⟨_, _, rfl⟩ := this; rfl) (by unfold maxLen; omega) (by omega) (by have := HU4.out.size; omega) ?_; intro A5 C5 w5 HP5
                     obtain ⟨hup5, ho5, hb5⟩ := app_at (w := w4) (v := .slice A4 i C4) (Upd.refl [] w4) HP5
                     have HU5 := Lib.hid hup5
                     have HO5 := Lib.hid ho5
                     have HB5 := Lib.hid hb5
                     clear HP5 hup5 ho5 hb5))
                have hu25 : Upd [] w2 w5 := (HU4.out.mono (G := []) (fun y hy => .inr (by simp [blk] at hy; omega))).trans' HU5.out (fun y hy => .inr (by
                  rcases HB4.out y hy with g | g
                  · simp [blk] at g; omega
                  · exact g))
                have HU25 := Lib.hid hu25
                clear hu25
                go_wp2_with fail
                go_meet
                case rel =>
                  have hml : M.length = i + (j - (i + 1)) := by
                    rw [HM3.out, List.length_append, List.length_take, List.length_drop, HNL.out]
                    omega
                  refine ⟨A5, C5, by rw [hml], ?_, ?_⟩
                  · rw [hml]
                    refine HG2.out.write HU25.out (by simp) (fun y hy => .inr ?_)
                    refine ⟨?_, own_lt HO5.out y hy⟩
                    rcases HB5.out y hy with g | g
                    · rcases HB4.out y g with g | g
                      · simp [blk] at g; omega
                      · exact g
                    · exact Nat.le_trans HU4.out.size g
                  · rw [hml, HM3.out]
                    unfold Kind.row
                    rw [Kind.all_app, List.length_append, List.length_take, List.length_drop, HNL.out, Nat.min_eq_left (by omega)]
                    have := own_base HO5.out HG2.out.up.size
                    rw [Nat.mul_one, Nat.mul_one] at this
                    rw [Kind.all_take, Kind.all_drop]
                    simpa [KI] using this
              · have hM2 : M = L := by
                  rw [HALL.out]; simp
                  intro y hy e
                  exact hxl (by rw [← e]; exact hy)
                have hfi := fnd_no L x hxl j (by rw [HNL.out]; omega)
                rw [HFA.out] at hfi
                subst hfi
                have hh : has S x = false := by rw [HHAS.out]; simp [hxl]
                have HH := Lib.hid hh
                have HM2 := Lib.hid hM2
                clear hh hM2 hxl
                go_wp2_with fail
                refine (dropG HGQ.out HO.out (by omega) x HX.out).mono ?_
                rintro e w2 ⟨rfl, hg2, hk2⟩
                rw [HH.out]
                have hr2 := hk2.row HRQ.out (fun y hy => by simp [hy])
                have HG2 := Lib.hid hg2
                have HR2 := Lib.hid hr2
                clear hg2 hk2 hr2
                go_wp2_with fail
                go_meet
                case rel =>
                  refine ⟨A, C, by rw [HM2.out, HNL.out], ?_, ?_⟩
                  · rw [HM2.out, HNL.out]
                    exact HG2.out.write (P := []) (Upd.refl _ _) (by simp) (fun y hy => .inl (by simp [hy]))
                  · rw [HM2.out, HNL.out]; exact HR2.out
          case rest =>
            obtain ⟨A3, C3, rfl, hg3, hr3⟩ := hcut
            have hO3 := HO.out.op (by omega) d x
            have hwm : ∀ y ∈ M, (Lit.int .i64 y).wf = true := by
              intro y hy
              rw [HALL.out] at hy
              have hwl := HWL.out
              rw [HLE.out] at hwl
              split at hy
              · exact hwl y (List.mem_filter.1 hy).1
              · split at hy
                · exact hwl y hy
                · rcases List.mem_append.1 hy with hy | hy
                  · exact hwl y hy
                  · simp at hy; subst hy; exact HX.out
            have hndm : M.Nodup := by rw [← HM.out]; exact hO3.nodup
            have hml : M.length ≤ k + 1 := by
              rw [← HM.out]
              have e1 := vAll_len (view (opS S d x))
              rw [view_len] at e1
              exact Nat.le_trans e1 hO3.cs
            have hpm : (treesL (opS S d x)).flatten.Perm M := by rw [← HM.out]; exact trees_perm _
            generalize opS S d x = S3 at *
            have HG3 := Lib.hid hg3
            have HR3 := Lib.hid hr3
            have HO3 := Lib.hid hO3
            have HWM := Lib.hid hwm
            have HNDM := Lib.hid hndm
            have HPM := Lib.hid hpm
            obtain ⟨nM, hnM⟩ : ∃ nM, M.length = nM := ⟨_, rfl⟩
            rw [hnM] at hml HR3 HG3 ⊢
            have HNM := Lib.hid hnM
            clear hg3 hr3 hO3 hwm hndm hpm hnM hoc0 hoc1 hcell1 hcell2
            go_wp2_with fail
            refine (allG HG3.out HO3.out (by omega)).mono ?_
            rintro e w4 ⟨A4, C4, rfl, hrow4, hu4⟩
            rw [HM.out] at hrow4 ⊢
            rw [HNM.out] at hrow4 ⊢
            have HR4 := Lib.hid hrow4
            have HU4 := Lib.hid hu4
            clear hrow4 hu4
            go_wp2_with fail
            refine (same22 _ _ M M w4 (Ints.of_row HR4.out) ((Ints.of_row HR3.out).upd0 HU4.out) (by rw [HNM.out]; omega) (by rw [HNM.out]; omega)).mono ?_
            rintro e w5 ⟨rfl, hu5⟩
            rw [decide_eq_true rfl]
            have hg5 := HG3.out.quiet (HU4.out.trans hu5)
            have hr5 := own_upd HR3.out (HU4.out.trans hu5) (by simp)
            have hgm : HG w (w5.alloc (.map #[] 0)) (.pointer (some ⟨b, 0, none⟩)) S3 (w5.heap.size :: blk (.slice A3 nM C3)) := hg5.write (P := []) ((Upd.refl _ _).alloc _) (by simp) (fun y hy => by
              rcases List.mem_cons.1 hy with rfl | hy
              · exact .inr ⟨Nat.le_refl _, by simp⟩
              · exact .inl hy)
            have hrm := own_upd hr5 ((Upd.refl [] w5).alloc (.map #[] 0)) (by simp)
            have hmd := MapAt.made w5
            have hmw : ∀ y ∈ blk (.slice A3 nM C3), y ≠ w5.heap.size := fun y hy => by have := own_lt hr5 y hy; omega
            have HGM := Lib.hid hgm
            have HRM := Lib.hid hrm
            have HMD := Lib.hid hmd
            have HMW := Lib.hid hmw
            clear hu5 hg5 hr5 hgm hrm hmd hmw
            go_wp2_with fail
            refine (treesG HGM.out HO3.out (by omega)).mono ?_
            rintro e w6 ⟨A6, C6, ts, rfl, hrow6, hu6, hts⟩
            have hmd6 := HMD.out.upd hu6 (by simp)
            have hrm6 := own_upd HRM.out hu6 (by simp)
            have hm6 : ∀ y ∈ blk (.slice A6 (treesL S3).length C6), y ≠ w5.heap.size := fun y hy => by have := own_ge hrow6 y hy; simp at this; omega
            have hg6 := HGM.out.quiet hu6
            generalize w5.heap.size = mb at *
            obtain ⟨T, hT⟩ : ∃ T, treesL S3 = T := ⟨_, rfl⟩
            rw [hT] at hrow6 hm6 hts ⊢
            have hTl : T.length ≤ 20 := by
              rw [← hT]
              unfold treesL
              rw [List.length_map]
              have e1 := idxF_len S3.cs 0
              have e2 := bitsN_le S3.cs.length 20 (by have := HO3.out.cs; omega)
              exact Nat.le_trans e1 e2
            rw [hT] at HPM
            have hTm : ∀ y ∈ T.flatten, y ∈ M := fun y hy => HPM.out.mem_iff.1 hy
            have hTn : T.flatten.Nodup := HPM.out.nodup_iff.2 HNDM.out
            obtain ⟨nt, hnt⟩ : ∃ nt, T.length = nt := ⟨_, rfl⟩
            rw [hnt] at hrow6 hTl hm6 ⊢
            have HROW6 := Lib.hid hrow6
            have HTS := Lib.hid hts
            have HMD6 := Lib.hid hmd6
            have HRM6 := Lib.hid hrm6
            have HM6 := Lib.hid hm6
            have HG6 := Lib.hid hg6
            have HT := Lib.hid hT
            have HTM := Lib.hid hTm
            have HTN := Lib.hid hTn
            have HNT := Lib.hid hnt
            clear hrow6 hts hmd6 hrm6 hm6 hg6 hT hTm hTn hnt hu6
            go_wp2_with fail
            go_loopg [95] nt (fun m i wl => ∃ j, m + j = nt ∧ i = .int .i64 (j : Int) ∧ MapAt wl mb (onesM (T.take j).flatten) ∧ Upd [mb] w6 wl)
            case atStart => exact ⟨0, rfl, rfl, HMD6.out, Upd.refl _ _⟩
            case round =>
              obtain ⟨wl, rfl⟩ : ∃ wl : World, wl = wr := ⟨_, rfl⟩
              obtain ⟨j2, hj2, rfl, hmap, hup⟩ := hrel
              have hjn2 : j2 ≤ nt := by omega
              have HJ2 := Lib.hid hj2
              have HMAP := Lib.hid hmap
              have HUP := Lib.hid hup
              clear hj2 hmap hup
              by_cases hlt2 : j2 < nt
              · obtain ⟨LL, hLL⟩ : ∃ LL, T[j2]? = some LL := ⟨T[j2]'(by rw [HNT.out]; exact hlt2), List.getElem?_eq_getElem _⟩
                obtain ⟨pp, B, hpp, hbag, hB⟩ := HTS.out j2 LL hLL
                obtain ⟨q6, hqA, hq1, _, hq3, hq4⟩ := own_at HROW6.out hlt2 hpp
                subst hqA
                have hq6 := (HUP.out.cell (p := ⟨q6, j2, none⟩) hq4 (by simp; exact HM6.out q6 (by simp [blk]))).trans hq1
                have hbag' := hbag.upd HUP.out (fun y hy => by simp; rintro rfl; exact hB y hy (by simp))
                obtain ⟨pt, pv, rfl, hpb, rfl⟩ := hbag'
                obtain ⟨Ap, Cp, rfl⟩ := hpb.form
                have hpc := hpb.cell.1
                have hptm : ∀ y ∈ pt :: blk (.slice Ap LL.length Cp), y ≠ mb := fun y hy => by rintro rfl; exact hB y hy (by simp)
                obtain ⟨Pj, hPj⟩ : ∃ Pj, (T.take j2).flatten = Pj := ⟨_, rfl⟩
                rw [hPj] at HMAP
                have hnext : (T.take (j2 + 1)).flatten = Pj ++ LL := by
                  have := List.take_succ_eq_append_getElem (l := T) (i := j2) (by rw [HNT.out]; exact hlt2)
                  rw [this, List.flatten_append, hPj]
                  have e : T[j2]'(by rw [HNT.out]; exact hlt2) = LL := by
                    have := List.getElem?_eq_getElem (l := T) (i := j2) (by rw [HNT.out]; exact hlt2)
                    rw [this] at hLL; simpa using hLL
                  rw [e]; simp
                have hpre : (Pj ++ LL).Nodup := by
                  rw [← hnext]
                  have e : T.flatten = (T.take (j2 + 1)).flatten ++ (T.drop (j2 + 1)).flatten := by rw [← List.flatten_append, List.take_append_drop]
                  have := HTN.out
                  rw [e] at this
                  exact (List.nodup_append.1 this).1
                have hLM : ∀ y ∈ LL, (Lit.int .i64 y).wf = true := fun y hy => HWM.out y (HTM.out y (List.mem_flatten.2 ⟨LL, List.mem_of_getElem? hLL, hy⟩))
                have hPL : (Pj ++ LL).length ≤ nM := by
                  rw [← hnext, ← HNM.out, ← HPM.out.length_eq]
                  have e : T.flatten = (T.take (j2 + 1)).flatten ++ (T.drop (j2 + 1)).flatten := by rw [← List.flatten_append, List.take_append_drop]
                  rw [e, List.length_append]; omega
                have hpbI := Ints.of_row hpb.row
                obtain ⟨nL, hnL⟩ : ∃ nL, LL.length = nL := ⟨_, rfl⟩
                rw [List.length_append, hnL] at hPL
                rw [hnL] at hpc hptm hpbI
                have HPB := Lib.hid hpbI
                have HPTM := Lib.hid hptm
                have HNEXT := Lib.hid hnext
                have HPRE := Lib.hid hpre
                have HLM := Lib.hid hLM
                have HPJ := Lib.hid hPj
                have HNL2 := Lib.hid hnL
                have c0 : (0 : Int) ≤ (j2 : Int) := Int.natCast_nonneg _
                have c1 : (j2 : Int) < (nt : Int) := by omega
                clear hpbI hptm hnext hpre hLM hPj hnL hpb hbag hB hLL hpp hq1
                go_wp2_with fail
                go_loopg [104] nL (fun m i wi => ∃ c, m + c = nL ∧ i = .int .i64 (c : Int) ∧ MapAt wi mb (onesM (Pj ++ LL.take c)) ∧ Upd [mb] w6 wi ∧ Upd [mb] wl wi)
                case atStart => exact ⟨0, rfl, rfl, by simpa using HMAP.out, HUP.out, Upd.refl _ _⟩
                case round =>
                  obtain ⟨c, hc, rfl, hmapc, hupc, hupw⟩ := hrel
                  have hcn : c ≤ nL := by omega
                  have HC := Lib.hid hc
                  have HMC := Lib.hid hmapc
                  have HUC := Lib.hid hupc
                  have HUW := Lib.hid hupw
                  clear hc hmapc hupc hupw
                  by_cases hcl : c < nL
                  · have hcl' : c < LL.length := by rw [HNL2.out]; exact hcl
                    have hpbw := HPB.out.upd HUW.out (fun _ y hy _ => by simp; exact HPTM.out y (by simp [hy]))
                    obtain ⟨qb, qo, hqA, hqc⟩ := hpbw.cell (k := c) hcl'
                    subst hqA
                    obtain ⟨y, hy⟩ : ∃ y, LL[c]'hcl' = y := ⟨_, rfl⟩
                    rw [hy] at hqc
                    have hyw : (Lit.int .i64 y).wf = true := HLM.out y (by rw [← hy]; exact List.getElem_mem _)
                    have hsnoc : Pj ++ LL.take (c + 1) = (Pj ++ LL.take c) ++ [y] := by
                      rw [List.take_succ_eq_append_getElem hcl', hy, List.append_assoc]
                    have hynot : y ∉ Pj ++ LL.take c := by
                      have h1 := HPRE.out
                      have e : Pj ++ LL = (Pj ++ LL.take c) ++ (y :: LL.drop (c + 1)) := by
                        rw [← hy, ← List.drop_eq_getElem_cons hcl', List.append_assoc, List.take_append_drop]
                      rw [e] at h1
                      intro hc
                      exact (List.nodup_append.1 h1).2.2 y hc y (by simp) rfl
                    have hlen0 : (onesM (Pj ++ LL.take c)).length < 1000 := by
                      rw [onesM_len _ (by
                        have h1 := HPRE.out
                        have e : Pj ++ LL = (Pj ++ LL.take c) ++ LL.drop c := by rw [List.append_assoc, List.take_append_drop]
                        rw [e] at h1
                        exact (List.nodup_append.1 h1).1), List.length_append, List.length_take]
                      omega
                    have hlook := HMC.out.look1 hyw
                    rw [onesM_lookup, if_neg hynot] at hlook
                    simp only [Option.getD_none] at hlook
                    obtain ⟨w8, hput, hm8, hu8⟩ := HMC.out.put hyw (v := 1) (by decide) (by unfold maxLen; omega)
                    rw [← onesM_snoc, ← hsnoc] at hm8
                    have b2 : (0 : Int) ≤ (c : Int) := Int.natCast_nonneg _
                    have b3 : (c : Int) < (nL : Int) := by omega
                    have HM8 := Lib.hid hm8
                    have HU8 := Lib.hid hu8
                    clear hm8 hu8 hynot hlen0 hsnoc hyw hy hcl'
                    go_wp2_with fail
                    go_roundg (nL - (c + 1))
                    case measure => have := HC.out; omega
                    case rel => exact ⟨c + 1, by have := HC.out; omega, by go_num, HM8.out, HUC.out.trans HU8.out, HUW.out.trans HU8.out⟩
                  · have hcn' : c = nL := by omega
                    have hmf : MapAt wr mb (onesM (T.take (j2 + 1)).flatten) := by
                      have := HMC.out
                      rw [hcn', List.take_of_length_le (by rw [HNL2.out]; exact Nat.le_refl _), ← HNEXT.out] at this
                      exact this
                    have HMF := Lib.hid hmf
                    clear hmf hcn'
                    go_wp2_with fail
                    go_roundg (nt - (j2 + 1))
                    case measure => have := HJ2.out; omega
                    case rel => exact ⟨j2 + 1, by have := HJ2.out; omega, by go_num, HMF.out, HUC.out⟩
              · have hjt : j2 = nt := by omega
                have hmf : MapAt wl mb (onesM T.flatten) := by
                  have := HMAP.out
                  rw [hjt, List.take_of_length_le (by rw [HNT.out]; exact Nat.le_refl _)] at this
                  exact this
                have hml2 : (onesM T.flatten).length = nM := by rw [onesM_len _ HTN.out, HPM.out.length_eq, HNM.out]
                have hmlen := fun ty => hmf.len ty
                rw [hml2] at hmlen
                have hrw : wl.ownsRow w.heap.size 2 1 (.slice A3 nM C3) nM (KI.all M) := row_n (own_upd HRM6.out HUP.out (fun y hy => by simp; exact HMW.out y hy)) HNM.out
                have HMF := Lib.hid hmf
                have HRW := Lib.hid hrw
                clear hmf hml2 hrw hjt
                go_wp2_with fail
                go_loopg [116] nM (fun m i wi => ∃ c, m + c = nM ∧ i = .int .i64 (c : Int) ∧ wl = wi)
                case atStart => exact ⟨0, rfl, rfl, rfl⟩
                case round =>
                  obtain ⟨c, hc, rfl, rfl⟩ := hrel
                  have hcn : c ≤ nM := by omega
                  have HC := Lib.hid hc
                  clear hc
                  by_cases hcl : c < nM
                  · have hcl' : c < M.length := by rw [HNM.out]; exact hcl
                    obtain ⟨y, hy⟩ : ∃ y, M[c]'hcl' = y := ⟨_, rfl⟩
                    obtain ⟨qw, hqA, hqc, _, hqn, _⟩ := own_at HRW.out hcl (u := .int .i64 y) (by rw [KI_all, List.getElem?_map, List.getElem?_eq_getElem hcl', hy]; rfl)
                    subst hqA
                    have hyM : y ∈ M := by rw [← hy]; exact List.getElem_mem _
                    have hlook := HMF.out.look1 (HWM.out y hyM)
                    rw [onesM_lookup, if_pos (HPM.out.mem_iff.2 hyM)] at hlook
                    simp only [Option.getD_some] at hlook
                    have b2 : (0 : Int) ≤ (c : Int) := Int.natCast_nonneg _
                    have b3 : (c : Int) < (nM : Int) := by omega
                    clear hy hyM hcl'
                    go_wp2_with fail
                    go_roundg (nM - (c + 1))
                    case measure => have := HC.out; omega
                    case rel => exact ⟨c + 1, by have := HC.out; omega, by go_num, rfl⟩
                  · have hq : ((nM : Int) != (nM : Int)) = false := by simp
                    have hgf : HG w wl (.pointer (some ⟨b, 0, none⟩)) S3 (blk (.slice A3 nM C3)) := HG6.out.write HUP.out (by simp) (fun y hy => .inl (by simp [hy]))
                    have HGF := Lib.hid hgf
                    clear hgf
                    go_wp2_with fail
                    go_roundg (n - (k + 1))
                    case measure => have := HK.out; omega
                    case rel =>
                      refine ⟨k + 1, by have := HK.out; omega, by go_num, S3, A3, C3, ?_, ?_, ?_, HO3.out, ?_⟩
                      · rw [HM.out, HNM.out]
                      · rw [HM.out, HNM.out]; exact HGF.out
                      · rw [HM.out]
                        unfold Kind.row
                        rw [HNM.out]; exact HRW.out
                      · rw [HM.out]; exact HWM.out
    · go_wp2_with fail
      refine (awake22 _).mono ?_
      rintro e w' ⟨rfl, hu⟩
      have HF := Lib.hid (HL0.out.up.trans hu)
      clear hu
      go_wp2_with fail
      go_ret
      exact ⟨rfl, HF.out.below⟩
end Go.Proofs.Ytkhgglafnjfiaaa
