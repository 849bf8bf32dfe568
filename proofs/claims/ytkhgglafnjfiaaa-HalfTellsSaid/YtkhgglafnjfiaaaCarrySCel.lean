/- carry.Carry[gridiron/half.cell[int64]].Set: what the call does to the buckets in memory. -/
import Derived.Test.YtkhgglafnjfiaaaCarryICel
import Derived.Test.YtkhgglafnjfiaaaSetB
import Derived.Test.YtkhgglafnjfiaaaOps
namespace Go.Proofs.Ytkhgglafnjfiaaa.Cel
open Go.RowKit

set_option maxRecDepth 100000 in
set_option maxHeartbeats 400000 in
theorem setI (b : Nat) (F : List Nat) (s : Value) (l : List (Int × Nat)) (bs : List (List (Int × Nat))) (n work : Nat) (w : World) (h' : IsCarry KI w b F bs n work) (hs : Sees w 2 s l.length (KI.all l)) (hsF : 0 < l.length → ∀ k ∈ blk s, k ∉ F)
    (hl : l.length < 1000000) (hwk : work < 1099511627776) :
    Calls Try.prog 75 #[.pointer (some ⟨b, 0, none⟩), s] w fun e w' => e = .returned (.int .i64 l.length) ∧ CarryStep KI w w' b F (setB l) l.length (work + l.length) := by
  obtain ⟨vb, vs, h, rfl⟩ := h'
  obtain ⟨A, C, rfl⟩ := sees_form hs
  obtain ⟨hc0, hc1, hc2, hc3, hfr⟩ := h.cell
  have hf1 := hfr 1
  have hf2 := hfr 2
  obtain ⟨i0, hi0, hz0, hz1, hz2⟩ := info_parts info_rows64
  have H := Lib.hid h
  have HS := Lib.hid hs
  have HSF := Lib.hid hsF
  clear h hs hsF hfr
  go_enter Try.func75, Try.ntmps75
  go_upto_block 0 with (go_at_call 74; refine (noneI _ _ hc0).mono ?_; rintro e w' ⟨rfl, rfl⟩)
  have hr := (H.out.reset).count l.length
  have hu := ((Upd.refl (foot b vb vs) w).setCell (p := ⟨b, 1, none⟩) (.inl (mem_foot.2 (.inl rfl))) (.slice none 0 0)).setCell (p := ⟨b, 2, none⟩) (.inl (mem_foot.2 (.inl rfl))) (.int .i64 l.length)
  have hst : CarryStep KI w ((w.setCell ⟨b, 1, none⟩ (.slice none 0 0)).setCell ⟨b, 2, none⟩ (.int .i64 l.length)) b (foot b vb vs) [] l.length work :=
    .mk hr hu fun k hk => by
      rw [mem_foot] at hk
      rcases hk with hk | hk | ⟨j, u, hu', hk⟩
      · exact .inl (mem_foot.2 (.inl hk))
      · simp [blk] at hk
      · simp at hu'
  have HST := Lib.hid hst
  clear hst hr hu hc0 hc1 hc2 hc3 hf1 hf2
  generalize ((w.setCell ⟨b, 1, none⟩ (.slice none 0 0)).setCell ⟨b, 2, none⟩ (.int .i64 l.length)) = wa at *
  go_cut [] (fun wc => CarryStep KI w wc b (foot b vb vs) (List.replicate (bitsN l.length) []) l.length work)
  case first =>
    go_wp2_with fail
    go_loopg [5] (l.length) (fun m i wr => i = .int .i64 m ∧ ∃ k, m = l.length / 2 ^ k ∧ (k = 0 ∨ 2 ^ (k - 1) ≤ l.length) ∧ CarryStep KI w wr b (foot b vb vs) (List.replicate k []) l.length work)
    case atStart => exact ⟨rfl, 0, by simp, .inl rfl, by simpa using HST.out⟩
    case round =>
      obtain ⟨rfl, k, hk, hk1, hcs⟩ := hrel
      have HK := Lib.hid hk; clear hk
      have HK1 := Lib.hid hk1; clear hk1
      obtain ⟨vb', vs', hc, hu, hF⟩ := hcs.out
      obtain ⟨A1, C1, rfl⟩ := own_form hc.list
      obtain ⟨_, hd1, _, _, hfr⟩ := hc.cell
      have hf1 := hfr 1
      have HC := Lib.hid hc
      have HU := Lib.hid hu
      have HF := Lib.hid hF
      have HCS := Lib.hid hcs
      have hgk : gk ≤ l.length := by rw [HK.out]; exact Nat.div_le_self _ _
      have hlen : vs'.length ≤ 1000000 := by
        rw [hc.len]; simp
        rcases HK1.out with h | h
        · omega
        · have h2 : k - 1 < 2 ^ (k - 1) := Nat.lt_two_pow_self
          omega
      clear hc hu hF hcs hfr
      by_cases hm : gk = 0
      · subst hm
        go_wp2
        go_meet
        case rel =>
          have e : bitsN l.length = k := bitsN_eq l.length k (by
            have := HK.out
            rcases Nat.div_eq_zero_iff.1 this.symm with h | h
            · have := Nat.two_pow_pos k; omega
            · exact h) HK1.out
          rw [e]
          exact HCS.out
      · have hgk0 : (0 : Int) < (gk : Int) := by omega
        go_wp2_with (at_builtin; refine wpList_app _ rfl _ _ 111 rfl 0 100 i0 (.slice none 0 0) 1 24 Try.underlying111 hi0 hz0 hz1 hz2 rfl (by decide) _ _ vs' rfl (HC.out.list.alloc _) _ 1 [.slice none 0 0] rfl (sees_lit wr #[.slice none 0 0] 100 1 1 rfl (by decide)) (by simp [Value.oneCell']) (by unfold maxLen; omega) (by omega) (Nat.zero_le _) ?_)
        intro A2 C2 w1 HP
        have hc1 : w1.cell? ⟨b, 1, none⟩ = some (.slice A1 vs'.length C1) := (World.cell?_of_block (((((Upd.refl _ _).alloc _).trans HP.upd : Upd (blk (.slice A1 vs'.length C1)) wr w1)).block b (lt_of_block HC.out.head) HC.out.self)).trans hd1
        have hf2 : w1.frozen? ⟨b, 1, none⟩ = false := (World.frozen?_of_block (((((Upd.refl _ _).alloc _).trans HP.upd : Upd (blk (.slice A1 vs'.length C1)) wr w1)).block b (lt_of_block HC.out.head) HC.out.self)).trans hf1
        go_wp2
        have h2 : (gk : Int) / 2 = ((gk / 2 : Nat) : Int) := by omega
        rw [h2]
        go_roundg (gk / 2)
        case measure => omega
        case rel =>
          refine ⟨rfl, k + 1, ?_, .inr ?_, ?_⟩
          · rw [HK.out, Nat.pow_succ, Nat.div_div_eq_div_mul]
          · have h3 := HK.out
            have h4 : 1 ≤ l.length / 2 ^ k := by omega
            have h5 := (Nat.le_div_iff_mul_le (Nat.two_pow_pos k)).1 h4
            simpa using h5
          · have := CarryStep.snoc HC.out HU.out HF.out HP
            rw [List.replicate_succ', ]
            exact this
  case rest =>
    obtain ⟨vb1, vs1, hc1, hu1, hF1⟩ := hcut.out
    obtain ⟨A1, C1, rfl⟩ := own_form hc1.list
    have hd1 := hc1.cell.2.1
    have hB : bitsN l.length ≤ 20 := bitsN_le _ _ (by omega)
    have hv1 : vs1.length = bitsN l.length := by rw [hc1.len]; simp
    have hv2 := hv1
    rw [hv1] at hd1
    have HCUT := Lib.hid hcut
    have HV := Lib.hid hv1
    obtain ⟨i1, hi1, hy0, hy1, hy2⟩ := info_parts info_int64
    have hseen : ∀ w', Upd (foot b vb vs) w w' → Sees w' 2 (.slice A l.length C) l.length (KI.all l) := fun w' hu' => sees_upd HS.out hu' fun h0 k hk _ => HSF.out h0 k hk
    have HSEEN := Lib.hid hseen
    clear hc1 hu1 hF1 hv1 hv2 hcut hseen
    go_upto_block 2 with fail
    go_cut [] (fun wz => CarryStep KI w wz b (foot b vb vs) (setB l) l.length work)
    case first =>
      go_wp2_with fail
      go_loopg [6, 7] (bitsN l.length) (fun m r i wr => i = .int .i64 ((m : Int) - 1) ∧ m ≤ bitsN l.length ∧ ∃ Ar Cr, r = .slice Ar (l.length % 2 ^ m) Cr ∧
        (∀ w', Upd (foot b vb vs) w w' → Sees w' 2 (.slice Ar (l.length % 2 ^ m) Cr) (l.length % 2 ^ m) ((KI.all l).drop (l.length / 2 ^ m * 2 ^ m * 2))) ∧ CarryStep KI w wr b (foot b vb vs) (setFrom l m) l.length work)
      case atStart =>
        have h1 := Nat.mod_eq_of_lt (bitsN_lt l.length)
        have h2 := Nat.div_eq_of_lt (bitsN_lt l.length)
        refine ⟨?_, Nat.le_refl _, A, C, by rw [h1], ?_, ?_⟩
        · rfl
        · rw [h1, h2]
          intro w' hu'
          simpa using HSEEN.out w' hu'
        · rw [setFrom_top]; exact HCUT.out
      case round =>
        obtain ⟨rfl, hgb, Ar, Cr, rfl, hsee, hcs⟩ := hrel
        obtain ⟨vb', vs', hc, hu, hF⟩ := hcs.out
        obtain ⟨A2, C2, rfl⟩ := own_form hc.list
        have hdd := hc.cell.2.1
        have hvl : vs'.length = bitsN l.length := by rw [hc.len]; simp [setFrom]
        rw [hvl] at hdd
        by_cases hm : gk = 0
        · subst hm
          rw [setFrom_zero] at hcs
          have HCS := Lib.hid hcs
          clear hsee hc hu hF hcs hvl
          go_wp2
          go_meet
          case rel => exact HCS.out
        · obtain ⟨m, rfl⟩ : ∃ m, gk = m + 1 := ⟨gk - 1, by omega⟩
          obtain ⟨g, Am, Cm, lm, hA, hbk, hvk, hcell, hfro, hgb', hrowm⟩ := hc.at (k := m) (by omega)
          subst hA
          have hpb : 2 ^ m < 2 ^ 62 := Nat.pow_lt_pow_right (by omega) (by omega)
          have hml : m < bitsN l.length := by omega
          obtain ⟨p, hp⟩ : ∃ p, 2 ^ m = p := ⟨_, rfl⟩
          have hp0 : 0 < p := by rw [← hp]; exact Nat.two_pow_pos m
          have hshl : Value.int .i64 (wrap64 ((2 : Int) ^ m)) = Value.int .i64 (p : Int) := by rw [shl_spelt m p (by omega) hp]
          have hand := and_spelt l.length (2 ^ m) _ (by omega) hpb (and_two_pow _ _)
          rw [hp] at hand
          have e8 : (((m + 1 : Nat) : Int) - 1) = (m : Int) := by omega
          rw [e8]
          clear e8
          have hm0 : (0 : Int) ≤ (m : Int) := Int.natCast_nonneg _
          have hm1 : (m : Int) < (bitsN l.length : Int) := by omega
          obtain ⟨n1, hn1⟩ : ∃ n1, l.length % 2 ^ (m + 1) = n1 := ⟨_, rfl⟩
          rw [hn1] at hsee ⊢
          have hn1b : n1 ≤ l.length := by rw [← hn1]; exact Nat.mod_le _ _
          by_cases hb : l.length.testBit m = true
          · rw [if_pos hb] at hand
            have hne : ((p : Int) == 0) = false := by simp; omega
            have hne' : ((p : Int) != 0) = true := by simp; omega
            have hpn : p ≤ n1 := by
              have := rest_yes l.length m hb
              omega
            have hsw := hsee wr hu
            obtain ⟨A3, C3, hrun3, hsee3, hblk3⟩ := cut_to (P := Try.prog) Try.underlying100 hi1 hy1 hsw p hpn
            obtain ⟨A4, C4, hrun4, hsee4, hblk4⟩ := cut_from (P := Try.prog) Try.underlying100 hi1 hy1 hsw p hpn
            have hsw3 := hsee3 wr hsw
            have HSW := Lib.hid hsw
            have HS3 := Lib.hid hsee3
            have HS4 := Lib.hid hsee4
            have HSEE := Lib.hid hsee
            have HSW3 := Lib.hid hsw3
            have HC := Lib.hid hc
            have HU := Lib.hid hu
            have HF := Lib.hid hF
            have HVL := Lib.hid hvl
            have HP := Lib.hid hp
            have HN1 := Lib.hid hn1
            clear hsw hsee3 hsee4 hblk3 hblk4 hsee hsw3 hc hu hF hvl hbk hvk hrowm hp hn1 hcs hpb
            have hgw : g < wr.heap.size := World.block_lt_of_cell? wr _ hcell
            have hbw : b < wr.heap.size := World.block_lt_of_cell? wr _ hdd
            go_upto_region 14 with fail
            have hlt5 : p * 16 ≤ 140737488355328 := by omega
            go_region_held3 (fun w' => w'.cell? ⟨b, 1, none⟩ = some (.slice (some ⟨g, 0, none⟩) (bitsN l.length) C2))
              (first
                | go_keep
                | (exact (hbel.cell (p := ⟨b, 1, none⟩) (by simp; omega)).trans hdd))
              ((go_at_call 76; refine (clone_int64 _ p _ _ (Sees.drew HSW3.out) (fun u hu => KI.all_one l u (List.mem_of_mem_drop (List.mem_of_mem_take hu))) hlt5).mono ?_; rintro e w1 ⟨A5, C5, rfl, hown5, hbel⟩; have hst1 := (hbel.cell (p := ⟨g, m, none⟩) (by simp; omega)).trans hcell; have hst2 := (hbel.frozen (p := ⟨g, m, none⟩) (by simp; omega)).trans hfro))
            go_wp2
            go_roundg m
            case measure => omega
            case rel =>
              have hpos : l.length % 2 ^ m = n1 - p := by
                have := rest_yes l.length m hb
                rw [HN1.out, HP.out] at this
                rw [HP.out]
                omega
              have htop := top_yes l.length m hb
              have hrow : KI.row w1 0 (.slice A5 p C5) (bucketOf l m) := by
                have hbu : bucketOf l m = (l.drop (l.length / 2 ^ (m + 1) * 2 ^ (m + 1))).take p := by unfold bucketOf; rw [if_pos hb, HP.out]
                have hlen : (bucketOf l m).length = p := by
                  rw [hbu, List.length_take, List.length_drop, rest_is, HN1.out]
                  exact Nat.min_eq_left hpn
                unfold Kind.row
                rw [hlen, hbu, Kind.all_take, Kind.all_drop]
                show w1.ownsRow 0 99 2 _ _ (List.take (p * 2) (List.drop (_ * 2) _))
                exact own_base hown5 (Nat.zero_le _)
              have hst := CarryStep.put (w := w) HC.out rfl HU.out HF.out (((Upd.refl [] wr).drew).trans (Upd.of_below hbel)) m hrow (own_ge hown5)
              rw [setFrom_step] at hst
              refine ⟨rfl, by omega, A4, C4, by rw [hpos], ?_, ?_⟩
              · rw [hpos]
                intro w' hu'
                have := HS4.out w' (HSEE.out w' hu')
                have e : l.length / 2 ^ (m + 1) * 2 ^ (m + 1) + p = l.length / 2 ^ m * 2 ^ m := by rw [htop, HP.out]
                rw [List.drop_drop, ← Nat.add_mul, e] at this
                exact this
              · exact hst
          · have hb' : l.length.testBit m = false := by simpa using hb
            rw [if_neg hb] at hand
            have HSEE := Lib.hid hsee
            have HCS := Lib.hid hcs
            have HP := Lib.hid hp
            have HN1 := Lib.hid hn1
            clear hsee hc hu hF hvl hbk hvk hrowm hp hn1 hcs hpb
            go_wp2
            go_roundg m
            case measure => omega
            case rel =>
              have hpos : l.length % 2 ^ m = n1 := by rw [← rest_no l.length m hb', HN1.out]
              have htop := top_no l.length m hb'
              refine ⟨rfl, by omega, Ar, Cr, by rw [hpos], ?_, ?_⟩
              · rw [hpos, htop]
                exact HSEE.out
              · rw [← setFrom_same l m hb']; exact HCS.out
    case rest =>
      have hst := hcut
      obtain ⟨vb2, vs2, hc2, hu2, hF2⟩ := hcut.out
      obtain ⟨_, _, _, hd3, hfr⟩ := hc2.cell
      have hf3 := hfr 3
      have HC := Lib.hid hc2
      have HU := Lib.hid hu2
      have HF := Lib.hid hF2
      clear hc2 hu2 hF2 hfr hst hcut
      go_wp2
      go_ret
      have e2 : ((work : Int) + (l.length : Int)) = ((work + l.length : Nat) : Int) := by omega
      rw [e2]
      refine ⟨rfl, .mk (HC.out.worked _) (HU.out.setCell (p := ⟨b, 3, none⟩) (HF.out b (mem_foot.2 (.inl rfl))) _) HF.out⟩
end Go.Proofs.Ytkhgglafnjfiaaa.Cel
