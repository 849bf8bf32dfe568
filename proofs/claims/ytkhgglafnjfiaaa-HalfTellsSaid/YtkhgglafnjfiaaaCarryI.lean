/- carry.Carry[int64]: what each call does to the buckets in memory. -/
import Derived.Test.YtkhgglafnjfiaaaRows
import Derived.Test.YtkhgglafnjfiaaaCarryB
import Derived.Test.YtkhgglafnjfiaaaClone
import Derived.Test.YtkhgglafnjfiaaaSame
import Derived.Deep.RegionHeld3
import Derived.Deep.DeepCutAuto
import Derived.Deep.CutBlock
import Derived.Deep.Light
import Derived.Deep.LoopGhost
namespace Go.Proofs.Ytkhgglafnjfiaaa
open Go.RowKit


theorem info_rows64 : (Try.prog.info? 22).map (fun i => (i.zero, i.size, i.bytes)) = some (some (.slice none 0 0), 1, 24) := by kernel_rfl

set_option maxRecDepth 100000 in
set_option maxHeartbeats 400000 in
theorem noneI (b : Nat) (w : World) (h : w.cell? ⟨b, 0, none⟩ = some (.bool true)) :
    Calls Try.prog 53 #[.pointer (some ⟨b, 0, none⟩)] w fun e w' => e = .returned (.bool false) ∧ w = w' := by
  go_enter Try.func53, Try.ntmps53
  go_wp2
  go_ret
  exact ⟨rfl, rfl⟩

set_option maxRecDepth 100000 in
set_option maxHeartbeats 400000 in
theorem addI (b : Nat) (F : List Nat) (x : Int) (bs : List (List Int)) (n work : Nat) (w : World) (h' : IsCarry KI w b F bs n work) (hn : bs.length < 1000000) (htot : bs.flatten.length < 1000000) (hnn : n < 1000000) (hwk : work < 1099511627776) :
    Calls Try.prog 16 #[.pointer (some ⟨b, 0, none⟩), .int .i64 x] w fun e w' => ∃ A C, e = .returned (.tuple #[.int .i64 (firstE bs), .slice A (gath bs x).length C]) ∧
      CarryTold KI w w' b F (addB bs x) (n + 1) (work + (gath bs x).length) (.slice A (gath bs x).length C) (gath bs x) := by
  obtain ⟨vb, vs, h, rfl⟩ := h'
  obtain ⟨A, C, rfl⟩ := own_form h.list
  obtain ⟨hc0, hc1, hc2, hc3, hfr⟩ := h.cell
  have hlen := Lib.hid h.len
  have hn' : vs.length < 1000000 := by rw [h.len]; exact hn
  have hfb : firstE bs < 1000000 := Nat.lt_of_le_of_lt (firstE_le bs) hn
  have HTOT := Lib.hid htot
  have H := Lib.hid h; clear h hfr hn htot
  go_enter Try.func16, Try.ntmps16
  go_upto_block 0 with (go_at_call 53; refine (noneI _ _ hc0).mono ?_; rintro e w' ⟨rfl, rfl⟩)
  go_cut [6] (fun s6 wc => s6 = .int .i64 (firstE bs) ∧ w = wc)
  case first =>
    go_wp2_with fail
    go_loopg [6] vs.length (fun m i wr => ∃ k : Nat, k ≤ firstE bs ∧ i = .int .i64 k ∧ m + k = vs.length ∧ wr = w)
    case atStart => exact ⟨0, Nat.zero_le _, rfl, rfl, rfl⟩
    case round =>
      obtain ⟨k, hk, rfl, hmk, rfl⟩ := hrel
      have hfl := firstE_le bs
      by_cases hlt : k < vs.length
      · obtain ⟨g, Ak, Ck, l, hA, hbk, hvk, hcell, hfro, hgb, hrow⟩ := H.out.at hlt
        subst hA
        have HR := Lib.hid hrow; clear hrow hvk hfro
        have HB := Lib.hid hbk; clear hbk
        have HM := Lib.hid hmk; clear hmk
        by_cases hl : 0 < l.length
        · go_wp2
          go_roundg (gk - 1)
          case measure => have := HM.out; omega
          case rel =>
            have hne : k ≠ firstE bs := fun e => by
              have := firstE_empty bs l (by rw [← e]; exact HB.out)
              subst this; simp at hl
            exact ⟨k + 1, by omega, by go_num, by have := HM.out; omega, rfl⟩
        · go_wp2
          go_meet
          case rel =>
            have hne : firstE bs = k := by
              refine Nat.le_antisymm ?_ hk
              refine Nat.le_of_not_lt fun hh => ?_
              exact firstE_full bs k l hh HB.out (List.eq_nil_of_length_eq_zero (by omega))
            exact ⟨by rw [hne], rfl⟩
      · go_wp2
        go_meet
        case rel =>
          have := hlen.out
          exact ⟨by rw [show k = firstE bs from by omega], rfl⟩
  case rest =>
    obtain ⟨rfl, rfl⟩ := hcut
    obtain ⟨i0, hi0, hz0, hz1, hz2⟩ := info_parts info_rows64
    obtain ⟨i1, hi1, hy0, hy1, hy2⟩ := info_parts info_int64
    have hfl := firstE_le bs
    go_upto_if 37 with fail
    go_cut [] (fun wc => ∃ bs' : List (List Int), AddSt KI w wc (foot b (.slice A vs.length C) vs) b bs' n work (firstE bs) (firstE bs) (.slice none 0 0) ∧ bs'.take (firstE bs) = bs.take (firstE bs) ∧ bs'.drop (firstE bs + 1) = bs.drop (firstE bs + 1) ∧ bs'.length ≤ bs.length + 1)
    case first =>
      by_cases hi : firstE bs < vs.length
      · have hlt : ((firstE bs : Int) == (vs.length : Int)) = false := by simp; omega
        go_wp2
        go_meet
        case rel =>
          have := hlen.out
          exact ⟨bs, AddSt.start H.out (Upd.refl _ _) (fun k hk => .inl hk) (by omega), rfl, rfl, by omega⟩
      · have hle : firstE bs ≤ vs.length := by rw [hlen.out]; exact hfl
        have hlt : ((firstE bs : Int) == (vs.length : Int)) = true := by simp; omega
        go_wp2_with (at_builtin; refine wpList_app _ rfl _ _ 78 rfl 0 22 i0 (.slice none 0 0) 1 24 Try.underlying78 hi0 hz0 hz1 hz2 rfl (by decide) _ _ vs rfl (H.out.list.alloc _) _ 1 [.slice none 0 0] rfl (sees_lit w #[.slice none 0 0] 22 1 1 rfl (by decide)) (by simp [Value.oneCell']) (by unfold maxLen; omega) (by omega) (by simp) ?_)
        intro A' C' w1 HP
        have hup : Upd (blk (.slice A vs.length C)) w w1 := ((Upd.refl _ _).alloc _).trans HP.upd
        have hb1 := hup.block b (lt_of_block H.out.head) H.out.self
        have hc1' : w1.cell? ⟨b, 1, none⟩ = some (.slice A vs.length C) := (World.cell?_of_block hb1).trans hc1
        have hf1' : w1.frozen? ⟨b, 1, none⟩ = false := (World.frozen?_of_block hb1).trans (H.out.cell.2.2.2.2 1)
        have HG := Lib.hid hup
        clear hup hb1
        go_wp2
        go_meet
        case rel =>
          have hs := H.out.snoc HP.own HG.out (by rcases HP.at with h' | h'; exact .inl h'; exact .inr ⟨_, h', by simp⟩)
          have e1 := hlen.out
          refine ⟨bs ++ [[]], AddSt.start hs ?_ ?_ (by simp; omega), ?_, ?_, by simp⟩
          · exact (HG.out.mono (G := foot b (.slice A vs.length C) vs) fun k hk => .inl (mem_foot.2 (.inr (.inl hk)))).setCell (p := ⟨b, 1, none⟩) (.inl (mem_foot.2 (.inl rfl))) _
          · intro k hk
            rw [mem_foot] at hk
            rcases hk with rfl | hk | ⟨j, v, hv, hk⟩
            · exact .inl (mem_foot.2 (.inl rfl))
            · rcases HP.at with h' | h'
              · rw [h'] at hk; exact .inl (mem_foot.2 (.inr (.inl hk)))
              · rw [h'] at hk; simp at hk; right; omega
            · rw [List.getElem?_append] at hv
              split at hv
              · exact .inl (mem_foot.2 (.inr (.inr ⟨j, v, hv, hk⟩)))
              · have : v = .slice none 0 0 := by
                  have := List.mem_of_getElem? hv
                  simpa using this
                subst this; simp [blk] at hk
          · rw [List.take_append_of_le_length (by omega)]
          · rw [List.drop_eq_nil_of_le (by simp; omega), List.drop_eq_nil_of_le (by omega)]
    case rest =>
      obtain ⟨bs', HS, htk, hdp, hbl⟩ := hcut
      have hbl' : bs'.length < 1000001 := by have := hlen.out; omega
      clear hbl
      have HT := Lib.hid htk; clear htk
      have HD := Lib.hid hdp; clear hdp
      have HA := Lib.hid HS; clear HS
      clear hc0 hc1 hc2 hc3
      go_upto_block 2 with fail
      go_cut [7] (fun s7 wc => ∃ Al Cl, s7 = .slice Al ((bs.take (firstE bs)).reverse.flatten).length Cl ∧ AddSt KI w wc (foot b (.slice A vs.length C) vs) b bs' n work (firstE bs) 0 (.slice Al ((bs.take (firstE bs)).reverse.flatten).length Cl))
      case first =>
        go_wp2_with fail
        go_loopg [7, 8] (firstE bs) (fun m all k wr => ∃ Al Cl, all = .slice Al (((bs.take (firstE bs)).drop m).reverse.flatten).length Cl ∧ k = .int .i64 ((m : Int) - 1) ∧
          AddSt KI w wr (foot b (.slice A vs.length C) vs) b bs' n work (firstE bs) m (.slice Al (((bs.take (firstE bs)).drop m).reverse.flatten).length Cl))
        case atStart =>
          refine ⟨none, 0, ?_, rfl, ?_⟩
          · rw [List.drop_eq_nil_of_le (by simp; omega)]; rfl
          · rw [List.drop_eq_nil_of_le (by simp; omega)]; exact HA.out
        case round =>
          obtain ⟨Al, Cl, rfl, rfl, vb, vs', hc, hrow, hal, hup, hF, hmi, hib, hsz⟩ := hrel
          have hlen' := hc.len
          by_cases hm : gk = 0
          · subst hm
            go_wp2
            go_meet
            case rel => exact ⟨Al, Cl, by simp, vb, vs', hc, hrow, hal, hup, hF, hmi, hib, hsz⟩
          · obtain ⟨m, rfl⟩ : ∃ m, gk = m + 1 := ⟨gk - 1, by omega⟩
            obtain ⟨A1, C1, rfl⟩ := own_form hc.list
            obtain ⟨g, Am, Cm, l, hA, hbk, hvk, hcell, hfro, hgb, hrowm⟩ := hc.at (k := m) (by rw [hlen']; simp; omega)
            subst hA
            have hbk' : bs'[m]? = some l := by
              rw [List.append_assoc, List.getElem?_append_left (by simp; omega), List.getElem?_take, if_pos (by omega)] at hbk
              exact hbk
            have hstep := gath_step bs' (firstE bs) m l (by omega) hbk'
            rw [HT.out] at hstep
            have hbd := gath_len bs (firstE bs) m
            rw [hstep, List.length_append] at hbd
            have hcc := hc.cell.2.1
            have hmn : m < vs'.length := by rw [hlen']; simp; omega
            have hbn : vs'.length < 1000001 := by rw [hlen']; simp; omega
            have e8 : (((m + 1 : Nat) : Int) - 1) = (m : Int) := by omega
            rw [e8]
            rw [HT.out] at hrow
            obtain ⟨L, hL⟩ : ∃ L, L = ((bs.take (firstE bs)).drop (m + 1)).reverse.flatten := ⟨_, rfl⟩
            rw [← hL] at hrow hal hstep hbd ⊢
            have HLL := Lib.hid hL; clear hL
            have HL := Lib.hid hlen'; clear hlen'
            have HX := Lib.hid hstep; clear hstep
            have HB := Lib.hid hbd; clear hbd
            have HK := Lib.hid hbk'; clear hbk' hbk hvk
            have HC := Lib.hid hc; clear hc
            have HAL := Lib.hid hal; clear hal
            have HF := Lib.hid hF; clear hF
            have HR := Lib.hid hrow; clear hrow
            have HRM := Lib.hid hrowm; clear hrowm
            clear e8
            go_wp2_with (at_builtin; refine wpList_app _ rfl _ _ 22 rfl 0 2 i1 (.int .i64 0) 1 8 Try.underlying22 hi1 hy0 hy1 hy2 rfl (by decide) _ _ _ rfl HR.out _ l.length (KI.all l) rfl (sees_of_own HRM.out) (KI.all_one l) (by have := HB.out; have := HTOT.out; unfold maxLen; omega) (by have := HB.out; have := HTOT.out; omega) (Nat.zero_le _) ?_)
            intro A2 C2 w1 HP
            have hc1 := HC.out.upd HP.upd fun k hk hc => (HAL.out k hc).2 hk
            have hcc1 := hc1.cell.2.1
            obtain ⟨g', _, _, l', hA', _, _, hcell1, hfro1, _, _⟩ := hc1.at hmn
            cases hA'
            have HC1 := Lib.hid hc1; clear hc1
            go_wp2
            go_roundg m
            case measure => omega
            case rel =>
              have hst := AddSt.step HC.out HAL.out hup HF.out hmi hib hsz HK.out (all' := .slice A2 (L.length + l.length) C2) (by
                rw [HT.out, ← HLL.out]
                unfold Kind.row
                rw [Kind.all_app, List.length_append]
                exact HP.own) HP.2.1 HP.at
              refine ⟨A2, C2, ?_, rfl, ?_⟩
              · rw [HX.out, List.length_append]
              · rw [HX.out, List.length_append]; exact hst
      case rest =>
        obtain ⟨Al, Cl, rfl, vb, vs', hc, hrow, hal, hup, hF, _, hib, hsz⟩ := hcut
        have hlen' := hc.len
        obtain ⟨A1, C1, rfl⟩ := own_form hc.list
        obtain ⟨g, Am, Cm, l, hA, hbk, hvk, hcell, hfro, hgb, hrowm⟩ := hc.at (k := firstE bs) (by rw [hlen']; simp; omega)
        subst hA
        have hcc := hc.cell.2.1
        have hmn : firstE bs < vs'.length := by rw [hlen']; simp; omega
        have hbn : vs'.length < 1000001 := by rw [hlen']; simp; omega
        rw [List.drop_zero, HT.out] at hrow
        have hbd := gath_len bs (firstE bs) 0
        rw [List.drop_zero] at hbd
        obtain ⟨L, hL⟩ : ∃ L, L = (bs.take (firstE bs)).reverse.flatten := ⟨_, rfl⟩
        rw [← hL] at hrow hal hbd ⊢
        have HLL := Lib.hid hL; clear hL
        have HL := Lib.hid hlen'; clear hlen' hbk hvk
        have HB := Lib.hid hbd; clear hbd
        have HC := Lib.hid hc; clear hc
        have HAL := Lib.hid hal; clear hal
        have HF := Lib.hid hF; clear hF
        have HR := Lib.hid hrow; clear hrow
        have HRM := Lib.hid hrowm; clear hrowm
        have hi0' : (0 : Int) ≤ (firstE bs : Int) := Int.natCast_nonneg _
        have hi1' : (firstE bs : Int) < (vs'.length : Int) := by omega
        have hgl : g ∉ blk (.slice Al L.length Cl) := fun hk => (HAL.out g hk).2 (mem_foot.2 (.inr (.inl (by simp [blk]))))
        have hbl2 : b ∉ blk (.slice Al L.length Cl) := fun hk => (HAL.out b hk).2 (mem_foot.2 (.inl rfl))
        have hgs : g < wc.heap.size := World.block_lt_of_cell? wc _ hcell
        have hbs' : b < wc.heap.size := World.block_lt_of_cell? wc _ hcc
        have hfa : ∀ o, (wc.alloc o).frozen? ⟨g, firstE bs, none⟩ = false := fun o => by rw [World.frozen?_alloc_past _ _ _ hgs]; exact hfro
        have hca : ∀ o, (wc.alloc o).cell? ⟨g, firstE bs, none⟩ = some (.slice Am l.length Cm) := fun o => by rw [World.cell?_alloc_past _ _ _ hgs]; exact hcell
        have hda : ∀ o, (wc.alloc o).cell? ⟨b, 1, none⟩ = some (.slice (some ⟨g, 0, none⟩) vs'.length C1) := fun o => by rw [World.cell?_alloc_past _ _ _ hbs']; exact hcc
        go_upto_region 14 with fail
        go_region_held3 (fun w' => w'.cell? ⟨b, 1, none⟩ = some (.slice (some ⟨g, 0, none⟩) vs'.length C1))
          (first
            | go_keep
            | (have hu := HP2.upd; exact (hu.cell (p := ⟨b, 1, none⟩) (by simp; omega) hbl2).trans (hda _)))
          ((refine step_app _ (by rfl) _ _ 22 (by rfl) 0 2 i1 (.int .i64 0) 1 8 Try.underlying22 hi1 hy0 hy1 hy2 rfl (by decide) _ _ _ (by rfl) (owns_drew (HR.out.alloc _)) _ 1 [.int .i64 x] (by rfl) (sees_lit wc #[.int .i64 x] 2 1 1 rfl (by decide)).drew (by simp [Value.oneCell']) (by have := HB.out; have := HTOT.out; unfold maxLen; omega) (by have := HB.out; have := HTOT.out; omega) (Nat.zero_le _) ?_; intro A3 C3 w2 HP2; have hst1 := ((HP2.upd).cell (p := ⟨g, firstE bs, none⟩) (by simp; omega) hgl).trans (hca _); have hst2 := ((HP2.upd).frozen (p := ⟨g, firstE bs, none⟩) (by simp; omega) hgl).trans (hfa _)))
        have hG : ∀ k ∈ blk (.slice A3 (L.length + 1) C3), w.heap.size ≤ k ∧ k ∉ foot b (.slice (some ⟨g, 0, none⟩) vs'.length C1) vs' := by
          intro k hk
          rcases HP2.at with h' | h'
          · rw [h'] at hk; exact HAL.out k hk
          · rw [h'] at hk; simp at hk; subst hk
            exact ⟨by omega, fun hc => by have := HC.out.lt _ hc; omega⟩
        obtain ⟨hc3, hu3, hF3, hgx⟩ := AddSt.fill (w0 := w) (w2 := w2) (x := x) (v := .slice A3 (L.length + 1) C3) rfl HC.out hib HD.out HLL.out (((Upd.refl _ _).alloc _).drew.trans HP2.upd) HAL.out hup HF.out (by
          unfold Kind.row
          rw [Kind.all_app, List.length_append]
          exact HP2.own) hG
        clear hst1 hst2 hfa hca hda hcell hfro hcc
        generalize w2.setCell ⟨g, firstE bs, none⟩ (.slice A3 (L.length + 1) C3) = w3 at *
        obtain ⟨_, hd1, hd2, hd3, hfr⟩ := hc3.cell
        obtain ⟨g', A4, C4, l4, hA', hb4, _, hcell4, _, _, hrow4⟩ := hc3.at (k := firstE bs) (by rw [List.length_set]; omega)
        cases hA'
        rw [addB_at] at hb4
        cases hb4
        have hglen : (gath bs x).length < 1000001 := by rw [hgx, List.length_append]; have := HB.out; have := HTOT.out; simp; omega
        have HC3 := Lib.hid hc3
        have HR4 := Lib.hid hrow4
        have HGX := Lib.hid hgx
        have HU3 := Lib.hid hu3
        have HF3 := Lib.hid hF3
        clear hc3 hrow4 hgx hu3 hF3 hG
        have hd2' := hfr 2
        have hd3' := hfr 3
        clear hfr hgl hbl2
        go_upto_region 16 with fail
        go_region
        have e1 : ((n : Int) + 1) = ((n + 1 : Nat) : Int) := by omega
        have e2 : ((work : Int) + ((gath bs x).length : Int)) = ((work + (gath bs x).length : Nat) : Int) := by omega
        rw [e1, e2]
        have hc5 := ((HC3.out.count (n + 1)).worked (work + (gath bs x).length)).drew
        have hu5 := ((HU3.out.setCell (p := ⟨b, 2, none⟩) (.inl (mem_foot.2 (.inl rfl))) (.int .i64 ((n + 1 : Nat) : Int))).setCell (p := ⟨b, 3, none⟩) (.inl (mem_foot.2 (.inl rfl))) (.int .i64 ((work + (gath bs x).length : Nat) : Int))).drew
        generalize (((w3.setCell ⟨b, 2, none⟩ (.int .i64 ((n + 1 : Nat) : Int))).setCell ⟨b, 3, none⟩ (.int .i64 ((work + (gath bs x).length : Nat) : Int))).drew) = w5 at *
        clear e1 e2 hd1 hd2 hd3 hd2' hd3' hcell4
        obtain ⟨_, hd1, _, _, _⟩ := hc5.cell
        obtain ⟨g', A5, C5, l5, hA', hb5, _, hcell5, _, _, hrow5⟩ := hc5.at (k := firstE bs) (by rw [List.length_set]; omega)
        cases hA'
        rw [addB_at] at hb5
        cases hb5
        have HC5 := Lib.hid hc5
        have HU5 := Lib.hid hu5
        have HR5 := Lib.hid hrow5
        clear hc5 hu5 hrow5
        go_wp2_with (go_at_call 54; refine (clone_int64 _ _ _ _ (sees_of_own HR5.out) (KI.all_one _) (by omega)).mono ?_; rintro e w' ⟨A6, C6, rfl, hown6, hbel⟩)
        go_ret2
        have hup6 := Upd.of_below hbel
        refine ⟨A6, C6, rfl, _, ⟨_, _, HC5.out.upd hup6 (by simp), rfl⟩, HU5.out.trans' hup6 (by simp), HF3.out, ?_, ?_⟩
        · exact own_base hown6 HU5.out.size
        · intro k hk hc
          have h1 := HC5.out.lt k hc
          have h2 := own_ge hown6 k hk
          omega
end Go.Proofs.Ytkhgglafnjfiaaa
