/- gridironref20: Buckets and Placed: what they tell. -/
import Derived.Test.YtkhgglafnjfiaaaCarryI
import Derived.Test.YtkhgglafnjfiaaaSetL
import Derived.Test.YtkhgglafnjfiaaaOps
import Derived.Test.YtkhgglafnjfiaaaRowsB
import Derived.Deep.RegionLaw
namespace Go.Proofs.Ytkhgglafnjfiaaa
open Go.RowKit

/-- What is there since the call began, in the world w. -/
def RowsSt (w wr : World) (A : Option Addr) (N C : Nat) (ll : List (List Int)) : Prop :=
  ∃ vs, RowsAt KI wr (.slice A N C) vs ll ∧ N = vs.length ∧ Upd [] w wr ∧ ∀ k ∈ rfoot (.slice A N C) vs, w.heap.size ≤ k

set_option maxRecDepth 100000 in
set_option maxHeartbeats 400000 in
theorem bucketsRef (s : Value) (l : List Int) (w : World) (hs : Ints w s l) (hl : l.length < 1000000) :
    Calls Try.prog 55 #[s] w fun e w' => ∃ A C, e = .returned (.slice A (setB l).length C) ∧ RowsSt w w' A (setB l).length C (setB l) := by
  obtain ⟨As, Cs, rfl⟩ := hs.form
  obtain ⟨i0, hi0, hz0, hz1, hz2⟩ := info_parts info_rows64
  have HS := Lib.hid hs
  clear hs
  go_enter Try.func55, Try.ntmps55
  go_upto_block 0 with fail
  go_cut [3] (fun o wc => ∃ A C, o = .slice A (bitsN l.length) C ∧ RowsSt w wc A (bitsN l.length) C (List.replicate (bitsN l.length) []))
  case first =>
    go_wp2_with fail
    go_loopg [3, 4] (l.length) (fun m o i wr => i = .int .i64 m ∧ ∃ k A C, o = .slice A k C ∧ m = l.length / 2 ^ k ∧ (k = 0 ∨ 2 ^ (k - 1) ≤ l.length) ∧ RowsSt w wr A k C (List.replicate k []))
    case atStart => exact ⟨rfl, 0, none, 0, rfl, by simp, .inl rfl, [], RowsAt.nil, rfl, Upd.refl _ _, by simp [rfoot, blk]⟩
    case round =>
      obtain ⟨rfl, k, A, C, rfl, hk, hk1, vs, hr, hN, hu, hF⟩ := hrel
      have hgk : gk ≤ l.length := by rw [hk]; exact Nat.div_le_self _ _
      have hlen : k ≤ 1000000 := by
        rcases hk1 with h | h
        · omega
        · have h2 : k - 1 < 2 ^ (k - 1) := Nat.lt_two_pow_self
          omega
      have HK := Lib.hid hk
      have HK1 := Lib.hid hk1
      have HR := Lib.hid hr
      have HU := Lib.hid hu
      have HF := Lib.hid hF
      have HN := Lib.hid hN
      clear hk hk1 hr hu hF hN
      by_cases hm : gk = 0
      · subst hm
        go_wp2
        go_meet
        case rel =>
          have e : bitsN l.length = k := bitsN_eq l.length k (by
            have := HK.out
            rcases Nat.div_eq_zero_iff.1 this.symm with h | h
            · have := Nat.two_pow_pos k; omega
            · exact h) HK1.out
          rw [e]
          exact ⟨A, C, rfl, vs, HR.out, HN.out, HU.out, HF.out⟩
      · have hgk0 : (0 : Int) < (gk : Int) := by omega
        go_wp2_with (at_builtin; refine wpList_app _ rfl _ _ 78 rfl 0 22 i0 (.slice none 0 0) 1 24 Try.underlying78 hi0 hz0 hz1 hz2 rfl (by decide) _ k vs rfl (by have := HR.out.list.alloc (.cells #[.slice none 0 0] 22); rw [← HN.out] at this; exact this) _ 1 [.slice none 0 0] rfl (sees_lit wr #[.slice none 0 0] 22 1 1 rfl (by decide)) (by simp [Value.oneCell']) (by unfold maxLen; omega) (by omega) (Nat.zero_le _) ?_)
        intro A2 C2 w1 HP
        go_wp2
        have h2 : (gk : Int) / 2 = ((gk / 2 : Nat) : Int) := by omega
        rw [h2]
        go_roundg (gk / 2)
        case measure => omega
        case rel =>
          refine ⟨rfl, k + 1, A2, C2, rfl, ?_, .inr ?_, ?_⟩
          · rw [HK.out, Nat.pow_succ, Nat.div_div_eq_div_mul]
          · have h3 := HK.out
            have h4 : 1 ≤ l.length / 2 ^ k := by omega
            have h5 := (Nat.le_div_iff_mul_le (Nat.two_pow_pos k)).1 h4
            simpa using h5
          · have hN := HN.out
            subst hN
            obtain ⟨h6, h7⟩ := HR.out.snoc HP
            refine ⟨_, by rw [List.replicate_succ']; exact h6, by simp, (HU.out.alloc _).trans' HP.upd (fun x hx => .inr (HF.out x (mem_rfoot.2 (.inl hx)))), ?_⟩
            intro x hx
            rcases h7 x hx with h8 | h8
            · exact HF.out x h8
            · have := HU.out.size; omega
  case rest =>
    obtain ⟨A, C, rfl, hst⟩ := hcut
    have hB : bitsN l.length ≤ 20 := bitsN_le _ _ (by omega)
    have HST := Lib.hid hst
    clear hst
    go_upto_block 2 with fail
    go_cut [] (fun wz => RowsSt w wz A (bitsN l.length) C (setB l))
    case first =>
      go_wp2_with fail
      go_loopg [5, 6] (bitsN l.length) (fun m at_ i wr => i = .int .i64 ((m : Int) - 1) ∧ m ≤ bitsN l.length ∧ at_ = .int .i64 ((l.length / 2 ^ m * 2 ^ m : Nat) : Int) ∧ RowsSt w wr A (bitsN l.length) C (setFrom l m))
      case atStart =>
        have h2 := Nat.div_eq_of_lt (bitsN_lt l.length)
        refine ⟨rfl, Nat.le_refl _, by rw [h2, Nat.zero_mul]; rfl, ?_⟩
        rw [setFrom_top]; exact HST.out
      case round =>
        obtain ⟨rfl, hgb, rfl, vs, hr, hN, hu, hF⟩ := hrel
        by_cases hm : gk = 0
        · subst hm
          rw [setFrom_zero] at hr
          have HH := Lib.hid (show RowsSt w wr A (bitsN l.length) C (setB l) from ⟨vs, hr, hN, hu, hF⟩)
          clear hr hN hu hF
          go_wp2
          go_meet
          case rel => exact HH.out
        · obtain ⟨m, rfl⟩ : ∃ m, gk = m + 1 := ⟨gk - 1, by omega⟩
          have e8 : (((m + 1 : Nat) : Int) - 1) = (m : Int) := by omega
          rw [e8]
          clear e8
          obtain ⟨q, hq⟩ : ∃ q, l.length / 2 ^ (m + 1) * 2 ^ (m + 1) = q := ⟨_, rfl⟩
          rw [hq]
          have hqb : q ≤ l.length := by rw [← hq]; exact Nat.div_mul_le_self _ _
          have hml : m < bitsN l.length := by omega
          have HR := Lib.hid hr
          have HN := Lib.hid hN
          have HU := Lib.hid hu
          have HF := Lib.hid hF
          have HQ := Lib.hid hq
          clear hr hN hu hF hq
          have hm20 : m ≤ 20 := by omega
          go_upto_block 4 with fail
          go_cut [7] (fun s7 wx => s7 = .int .i64 ((2 ^ m : Nat) : Int) ∧ wr = wx)
          case first =>
            go_wp2_with fail
            go_loopg [7, 8] m (fun j s7 s8 wx => ∃ k, j + k = m ∧ s8 = .int .i64 (k : Int) ∧ s7 = .int .i64 ((2 ^ k : Nat) : Int) ∧ wr = wx)
            case atStart => exact ⟨0, rfl, rfl, rfl, rfl⟩
            case round =>
              obtain ⟨k, hk, rfl, rfl, rfl⟩ := hrel
              have hk1 : k ≤ m := by omega
              have hkp : 2 ^ k ≤ 2 ^ 20 := Nat.pow_le_pow_right (by omega) (by omega)
              obtain ⟨p, hp⟩ : ∃ p, 2 ^ k = p := ⟨_, rfl⟩
              rw [hp] at hkp ⊢
              have HK := Lib.hid hk
              have HP := Lib.hid hp
              clear hk hp
              by_cases hlt : k < m
              · go_wp2
                go_roundg (gk - 1)
                case measure => have := HK.out; omega
                case rel => exact ⟨k + 1, by have := HK.out; omega, by go_num, by rw [Nat.pow_succ, HP.out]; go_num, rfl⟩
              · go_wp2
                go_meet
                case rel => exact ⟨by rw [← HP.out, show k = m from by omega], rfl⟩
          case rest =>
            obtain ⟨rfl, rfl⟩ := hcut
            have hkp : 2 ^ m ≤ 2 ^ 20 := Nat.pow_le_pow_right (by omega) (by omega)
            have hp0 : 0 < 2 ^ m := Nat.two_pow_pos m
            have hbit : (((l.length / 2 ^ m : Nat) : Int) % 2 == 1) = l.length.testBit m := by
              rw [Nat.testBit_eq_decide_div_mod_eq]
              rcases Nat.mod_two_eq_zero_or_one (l.length / 2 ^ m) with h | h
              · rw [show ((l.length / 2 ^ m : Nat) : Int) % 2 = 0 from by omega, h]; rfl
              · rw [show ((l.length / 2 ^ m : Nat) : Int) % 2 = 1 from by omega, h]; rfl
            obtain ⟨p, hp⟩ : ∃ p, 2 ^ m = p := ⟨_, rfl⟩
            rw [hp] at hkp hp0 hbit ⊢
            obtain ⟨d, hd⟩ : ∃ d, l.length / p = d := ⟨_, rfl⟩
            have hbit' : ((d : Int) % 2 == 1) = l.length.testBit m := by rw [← hbit, ← hd]
            have hdl : d ≤ l.length := by rw [← hd]; exact Nat.div_le_self _ _
            have hdv := div_spelt l.length p d (by omega) hd
            have HP := Lib.hid hp
            have HD := Lib.hid hd
            clear hp hbit hd
            by_cases hb : l.length.testBit m = true
            · rw [hb] at hbit'
              have hmem : m < (setFrom l (m + 1)).length := by rw [setFrom_len]; exact hml
              obtain ⟨g, Am, Cm, hA, hvm, hcell, hfro, hrow⟩ := HR.out.at hmem
              have hnil : (setFrom l (m + 1))[m] = [] := by simp [setFrom]
              rw [hnil] at hcell hrow hvm
              subst hA
              obtain ⟨i1, hi1, hy0, hy1, hy2⟩ := info_parts info_int64
              have hqp : q + p ≤ l.length := by
                have h1 := rest_yes _ _ hb
                have h2 := rest_is l.length (m + 1)
                rw [HQ.out] at h2
                rw [HP.out] at h1
                omega
              obtain ⟨A3, C3, hrun, hsee, _⟩ := cut_mid (P := Try.prog) Try.underlying22 hi1 hy1 HS.out q (q + p) (by omega) hqp
              rw [show q + p - q = p from by omega] at hrun hsee
              rw [Int.natCast_add] at hrun
              have hsum : Value.int .i64 (IntKind.i64.wrap ((q : Int) + (p : Int))) = Value.int .i64 ((q : Int) + (p : Int)) := by rw [IntWalk.i64_in _ (by omega)]
              have hm0 : (0 : Int) ≤ (m : Int) := Int.natCast_nonneg _
              have hm1 : (m : Int) < (bitsN l.length : Int) := by omega
              have HSE := Lib.hid hsee
              have HRO := Lib.hid hrow
              have HVM := Lib.hid hvm
              clear hsee hrow hvm hnil hmem
              have hgw : g < wr.heap.size := World.block_lt_of_cell? wr _ hcell
              have hga : g ∉ blk (.slice Am [].length Cm) := fun hk => HR.out.away m _ g HVM.out hk (by simp [blk])
              go_upto_region 16 with fail
              go_region_law ((refine step_app _ (by rfl) _ _ 22 (by rfl) 0 2 i1 (.int .i64 0) 1 8 Try.underlying22 hi1 hy0 hy1 hy2 rfl (by decide) _ 0 [] (by rfl) (owns_drew HRO.out) _ p _ (by rfl) (HSE.out _ (HS.out.upd0 HU.out.drew)) (fun u hu => KI.all_one l u (List.mem_of_mem_drop (List.mem_of_mem_take hu))) (by unfold maxLen; omega) (by omega) (Nat.zero_le _) ?_; intro A4 C4 w2 HP2; have hst1 := ((HP2.upd).cell (p := ⟨g, m, none⟩) (by simp; omega) hga).trans hcell; have hst2 := ((HP2.upd).frozen (p := ⟨g, m, none⟩) (by simp; omega) hga).trans hfro))
              all_goals
                go_wp2
                have e3 : (q : Int) + (p : Int) = ((l.length / 2 ^ m * 2 ^ m : Nat) : Int) := by
                  have := top_yes _ _ hb
                  rw [HQ.out, HP.out] at this
                  rw [HP.out, this]; rfl
                rw [e3]
                go_roundg m
                case measure => omega
                case rel =>
                  have hN := HN.out
                  have hlen : (bucketOf l m).length = p := by rw [bucketOf_len, if_pos hb, HP.out]
                  have hrow : KI.row w2 0 (.slice A4 p C4) (bucketOf l m) := by
                    unfold Kind.row
                    have hbu : bucketOf l m = (l.drop q).take p := by unfold bucketOf; rw [if_pos hb, HP.out, HQ.out]
                    rw [hlen, hbu, Kind.all_take, Kind.all_drop]
                    have := HP2.own
                    rw [Nat.zero_add, List.nil_append] at this
                    exact this
                  have hx := HR.out.extend hN HVM.out (((Upd.refl _ _).drew).trans HP2.upd) hrow (by have := HP2.at; rw [Nat.zero_add] at this; exact this)
                  rw [setFrom_step] at hx
                  refine ⟨rfl, by omega, rfl, _, hx.1, by rw [List.length_set]; exact hN, HU.out.trans' hx.2.1 fun k hk => .inr (HF.out k hk), fun k hk => ?_⟩
                  rcases hx.2.2 k hk with h1 | h1
                  · exact HF.out k h1
                  · have := HU.out.size; omega
            · have hb' : l.length.testBit m = false := by simpa using hb
              rw [hb'] at hbit'
              go_wp2
              go_roundg m
              case measure => omega
              case rel =>
                refine ⟨rfl, by omega, ?_, vs, by rw [← setFrom_same l m hb']; exact HR.out, HN.out, HU.out, HF.out⟩
                rw [top_no _ _ hb', HQ.out]
    case rest =>
      have HST2 := Lib.hid hcut
      clear hcut
      go_wp2
      go_ret
      refine ⟨A, C, by rw [setB_len]; rfl, ?_⟩
      rw [setB_len]
      exact HST2.out

set_option maxRecDepth 100000 in
set_option maxHeartbeats 400000 in
theorem placedRef (n k : Nat) (w : World) (h1 : n % 2 ^ k = 0) (h2 : n % 2 ^ (k + 1) ≠ 0) (hn : n < 1000000) :
    Calls Try.prog 17 #[.int .i64 n] w fun e w' => e = .returned (.int .i64 ((2 ^ k : Nat) : Int)) ∧ w = w' := by
  have hk : k < 20 := by
    apply Nat.lt_of_not_le
    intro hge
    have h3 : 2 ^ 20 ≤ 2 ^ k := Nat.pow_le_pow_right (by omega) hge
    have h4 : n < 2 ^ k := by omega
    rw [Nat.mod_eq_of_lt h4] at h1
    subst h1
    simp at h2
  have H1 := Lib.hid h1
  have H2 := Lib.hid h2
  clear h1 h2
  go_enter Try.func17, Try.ntmps17
  go_wp2_with fail
  go_loopg [3] k (fun m o wr => ∃ j, m + j = k ∧ o = .int .i64 ((2 ^ j : Nat) : Int) ∧ w = wr)
  case atStart => exact ⟨0, by omega, rfl, rfl⟩
  case round =>
    obtain ⟨j, hj, rfl, rfl⟩ := hrel
    have hjk : j ≤ k := by omega
    have hp : 2 ^ (j + 1) ≤ 2 ^ 20 := Nat.pow_le_pow_right (by omega) (by omega)
    have hdec : (n % 2 ^ (j + 1) = 0) ↔ j < k := by
      constructor
      · intro h
        apply Nat.lt_of_not_le
        intro hge
        have : j = k := by omega
        subst this
        exact H2.out h
      · intro h
        have h3 : 2 ^ (j + 1) ∣ 2 ^ k := Nat.pow_dvd_pow 2 (by omega)
        exact Nat.mod_eq_zero_of_dvd (Nat.dvd_trans h3 (Nat.dvd_of_mod_eq_zero H1.out))
    obtain ⟨p, hpp⟩ : ∃ p, 2 ^ j = p := ⟨_, rfl⟩
    have hp0 : 0 < p := by rw [← hpp]; exact Nat.two_pow_pos j
    rw [Nat.pow_succ, hpp] at hp hdec
    rw [hpp]
    have HP := Lib.hid hpp
    have HJ := Lib.hid hj
    clear hpp hj
    have hmod : ((n : Int) % (2 * (p : Int)) == 0) = decide (j < k) := by
      have e : (n : Int) % (2 * (p : Int)) = ((n % (p * 2) : Nat) : Int) := by rw [Int.mul_comm]; rfl
      rw [e]
      by_cases h : j < k
      · rw [hdec.2 h]; simp [h]
      · have : n % (p * 2) ≠ 0 := fun hh => h (hdec.1 hh)
        rw [decide_eq_false h]
        exact beq_eq_false_iff_ne.2 (fun hh => this (by exact_mod_cast hh))
    have HD := Lib.hid hdec
    clear hdec
    by_cases hlt : j < k
    · rw [decide_eq_true hlt] at hmod
      go_wp2
      go_roundg (gk - 1)
      case measure => have := HJ.out; omega
      case rel => exact ⟨j + 1, by have := HJ.out; omega, by rw [Nat.pow_succ, HP.out]; go_num, rfl⟩
    · rw [decide_eq_false hlt] at hmod
      go_wp2
      go_ret
      exact ⟨by rw [← HP.out, show k = j from by omega]; rfl, rfl⟩
end Go.Proofs.Ytkhgglafnjfiaaa
