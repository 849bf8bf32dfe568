/- The walk of HalfOrder. -/
import Derived.Test.YtkhgglafnjfiaaaHalf2
import Derived.IntWalk
namespace Go.Proofs.Ytkhgglafnjfiaaa
open Go.RowKit
attribute [local go_sem ↓] Go.wp_at_zero Go.wp_at_succ

/-- Each number once, as it came first. -/
def uniq (P : List Int) : List Int := P.foldl (fun u x => if x ∈ u then u else u ++ [x]) []
/-- How often each number came. -/
def cntM (P : List Int) : List (Int × Int) := P.foldl (fun m x => mput m x ((m.lookup x).getD 0 + 1)) []

theorem uniq_snoc (P : List Int) (x : Int) : uniq (P ++ [x]) = if x ∈ uniq P then uniq P else uniq P ++ [x] := by unfold uniq; rw [List.foldl_append]; rfl
theorem cntM_snoc (P : List Int) (x : Int) : cntM (P ++ [x]) = mput (cntM P) x (((cntM P).lookup x).getD 0 + 1) := by simp [cntM, List.foldl_append]

theorem uniq_mem (P : List Int) (x : Int) : x ∈ uniq P ↔ x ∈ P := by
  refine onesM_rev P (fun P => x ∈ uniq P ↔ x ∈ P) (by simp [uniq]) (fun P y ih => ?_)
  rw [uniq_snoc]
  split
  · rename_i h
    rw [ih]
    constructor
    · intro hx; simp [hx]
    · intro hx
      rcases List.mem_append.1 hx with hx | hx
      · exact hx
      · simp at hx; subst hx; exact ih.1 h
  · rw [List.mem_append, List.mem_append, ih]

theorem uniq_nodup (P : List Int) : (uniq P).Nodup := by
  refine onesM_rev P (fun P => (uniq P).Nodup) (by simp [uniq]) (fun P y ih => ?_)
  rw [uniq_snoc]
  split
  · exact ih
  · rename_i h
    rw [List.nodup_append]
    refine ⟨ih, by simp, fun a ha b hb e => ?_⟩
    simp at hb
    subst hb e
    exact h ha

theorem uniq_len (P : List Int) : (uniq P).length ≤ P.length := by
  refine onesM_rev P (fun P => (uniq P).length ≤ P.length) (by simp [uniq]) (fun P y ih => ?_)
  rw [uniq_snoc, List.length_append]
  split
  · simp; omega
  · rw [List.length_append]; simp; omega

theorem cnt_zero (P : List Int) (x : Int) : ((cntM P).lookup x).getD 0 = 0 ↔ x ∉ P := by
  have key : ∀ P : List Int, (∀ x, 0 ≤ ((cntM P).lookup x).getD 0 ∧ ((cntM P).lookup x).getD 0 ≤ P.length) ∧ ∀ x, (((cntM P).lookup x).getD 0 = 0 ↔ x ∉ P) := by
    intro P
    refine onesM_rev P (fun P => (∀ x, 0 ≤ ((cntM P).lookup x).getD 0 ∧ ((cntM P).lookup x).getD 0 ≤ P.length) ∧ ∀ x, (((cntM P).lookup x).getD 0 = 0 ↔ x ∉ P)) (by simp [cntM]) (fun P y ⟨ih1, ih2⟩ => ⟨fun z => ?_, fun z => ?_⟩)
    · rw [cntM_snoc, lookup_mput, List.length_append]
      have h1 := ih1 y
      have h2 := ih1 z
      split
      · simp; omega
      · simp; omega
    · rw [cntM_snoc, lookup_mput]
      have h1 := ih1 y
      by_cases e : z = y
      · rw [if_pos e]; simp [e]; omega
      · rw [if_neg e, ih2]; simp [e]
  exact (key P).2 x

theorem cnt_bd (P : List Int) : ∀ x, 0 ≤ ((cntM P).lookup x).getD 0 ∧ ((cntM P).lookup x).getD 0 ≤ P.length := by
  refine onesM_rev P (fun P => ∀ x, 0 ≤ ((cntM P).lookup x).getD 0 ∧ ((cntM P).lookup x).getD 0 ≤ P.length) (by simp [cntM]) (fun P y ih1 z => ?_)
  rw [cntM_snoc, lookup_mput, List.length_append]
  have h1 := ih1 y
  have h2 := ih1 z
  split
  · simp; omega
  · simp; omega

theorem cnt_len (P : List Int) : (cntM P).length ≤ P.length ∧ ((cntM P).map (·.1)).Nodup := by
  refine onesM_rev P (fun P => (cntM P).length ≤ P.length ∧ ((cntM P).map (·.1)).Nodup) (by simp [cntM]) (fun P y ⟨ih, ihn⟩ => ⟨?_, ?_⟩)
  · rw [cntM_snoc, length_mput ihn, List.length_append]
    split
    · simp; omega
    · simp; omega
  · rw [cntM_snoc]; exact nodup_mput ihn _ _

theorem take_not (U : List Int) (j : Nat) (x : Int) (hn : U.Nodup) (hx : U[j]? = some x) : x ∉ U.take j := by
  obtain ⟨h1, h2⟩ := List.getElem?_eq_some_iff.1 hx
  have e : U = U.take j ++ x :: U.drop (j + 1) := by rw [← h2, ← List.drop_eq_getElem_cons h1, List.take_append_drop]
  rw [e] at hn
  intro hc
  exact (List.nodup_append.1 hn).2.2 x hc x (by simp) rfl

theorem take_snoc' (U : List Int) (j : Nat) (x : Int) (hx : U[j]? = some x) : U.take j ++ [x] = U.take (j + 1) := by
  obtain ⟨h1, h2⟩ := List.getElem?_eq_some_iff.1 hx
  rw [List.take_succ_eq_append_getElem h1, h2]

theorem drop_mem (U : List Int) (j : Nat) (x : Int) (hn : U.Nodup) (hx : U[j]? = some x) (y : Int) : y ∈ U.drop (j + 1) ↔ y ∈ U.drop j ∧ y ≠ x := by
  obtain ⟨h1, h2⟩ := List.getElem?_eq_some_iff.1 hx
  have e : U.drop j = x :: U.drop (j + 1) := by rw [← h2, ← List.drop_eq_getElem_cons h1]
  have hn' : (U.drop j).Nodup := hn.sublist (List.drop_sublist _ _)
  rw [e, List.nodup_cons] at hn'
  rw [e, List.mem_cons]
  constructor
  · intro h
    exact ⟨.inr h, fun e => hn'.1 (by rw [← e]; exact h)⟩
  · rintro ⟨h | h, h3⟩
    · exact absurd h h3
    · exact h

set_option maxRecDepth 100000 in
set_option maxHeartbeats 2000000 in
theorem order22 (s : Value) (l : List Int) (w : World) (hs : Ints w s l) (hl : l.length ≤ 9223372036854775807) (hwf : ∀ n ∈ l, (Lit.int .i64 n).wf = true) :
    Calls Try.prog 10 #[s] w fun e w' => e = .returned (.bool true) ∧ Below w.heap.size w w' := by
  obtain ⟨A, C, rfl⟩ := hs.form
  obtain ⟨i1, hi1, hy0, hy1, hy2⟩ := info_parts info_int64
  obtain ⟨n, hn⟩ : ∃ n, min l.length 100 = n := ⟨_, rfl⟩
  have hmn : Value.int .i64 (min (l.length : Int) 100) = Value.int .i64 (n : Int) := by rw [← hn]; congr 1; omega
  obtain ⟨A2, C2, hrun2, hsee2, hblk2⟩ := cut_to (P := Try.prog) Try.underlying22 hi1 hy1 hs n (by omega)
  have hs2 : Ints w (.slice A2 n C2) (l.take n) := by
    have := hsee2 w hs
    unfold Ints
    rw [Kind.all_take, List.length_take, Nat.min_eq_left (by omega)]
    exact this
  have hwf2 : ∀ y ∈ l.take n, (Lit.int .i64 y).wf = true := fun y hy => hwf y (List.mem_of_mem_take hy)
  have hlk : (l.take n).length = n := by rw [List.length_take]; omega
  have hn100 : n ≤ 100 := by omega
  generalize l.take n = L at *
  have HS := Lib.hid hs2
  have HWF := Lib.hid hwf2
  have HLK := Lib.hid hlk
  have hnew := fun w => newW w
  unfold fnBuild fnDrop at hnew
  have HNEW := Lib.hid hnew
  have hmm := @run_makeMap Try.prog
  clear hnew hs hs2 hwf hwf2 hlk hsee2 hblk2 hn
  go_enter Try.func10, Try.ntmps10
  go_wp2_with fail
  refine (HNEW.out w).mono ?_
  rintro e w1 ⟨ba, Fa, rfl, hHa, hu1, hFa⟩
  have HHa := Lib.hid hHa
  have HU1 := Lib.hid hu1
  have HFa := Lib.hid hFa
  clear hHa hu1 hFa
  go_wp2_with fail
  refine (HNEW.out w1).mono ?_
  rintro e w2 ⟨bb, Fb, rfl, hHb, hu2, hFb⟩
  have h2 : H2 w w2 (.pointer (some ⟨ba, 0, none⟩)) (.pointer (some ⟨bb, 0, none⟩)) S00 S00 [] :=
    ⟨Fa, Fb, HHa.out.upd hu2 (by simp), hHb, HU1.out.trans hu2, fun x hx => (HFa.out x hx).1, fun x hx => Nat.le_trans HU1.out.size (hFb x hx).1, fun x hx hc => by have := (HFa.out x hx).2; have := (hFb x hc).1; omega, by simp⟩
  have h2' : H2 w (w2.alloc (.map #[] 0)) (.pointer (some ⟨ba, 0, none⟩)) (.pointer (some ⟨bb, 0, none⟩)) S00 S00 [w2.heap.size] := h2.write (P := []) ((Upd.refl _ _).alloc _) (by simp) (fun x hx => .inr (by simp at hx; subst hx; simp))
  have hmd := MapAt.made w2
  have HH := Lib.hid h2'
  have HMD := Lib.hid hmd
  clear h2 h2' hHb hu2 hFb hmd
  go_wp2_with fail
  generalize w2.alloc (.map #[] 0) = w3 at *
  generalize w2.heap.size = mb at *
  go_loopg [5, 27] n (fun m put i wr => ∃ k, m + k = n ∧ i = .int .i64 (k : Int) ∧ ∃ A C, put = .slice A (uniq (L.take k)).length C ∧ H2 w wr (.pointer (some ⟨ba, 0, none⟩)) (.pointer (some ⟨bb, 0, none⟩)) S00 S00 (mb :: blk (.slice A (uniq (L.take k)).length C)) ∧ KI.row wr w.heap.size (.slice A (uniq (L.take k)).length C) (uniq (L.take k)) ∧ MapAt wr mb (cntM (L.take k)) ∧ mb ∉ blk (.slice A (uniq (L.take k)).length C))
  case atStart => exact ⟨0, rfl, rfl, none, 0, by simp [uniq], by simpa [uniq, blk] using HH.out, by rw [show uniq (L.take 0) = [] from rfl]; exact World.ownsRow_nil _ _ _ _, by simpa [cntM] using HMD.out, by simp [blk]⟩
  case round =>
    obtain ⟨k, hk, rfl, Ap, Cp, rfl, hH, hR, hM, hmb⟩ := hrel
    have hkn : k ≤ n := by omega
    have HK := Lib.hid hk
    have H0 := Lib.hid hH
    have HR := Lib.hid hR
    have HM := Lib.hid hM
    have HMB := Lib.hid hmb
    clear hk hH hR hM hmb
    by_cases hlt : k < n
    · have hlt' : k < L.length := by rw [HLK.out]; exact hlt
      have hsw := HS.out.upd0 H0.out.up
      obtain ⟨qs, os, hqA, hcell⟩ := hsw.cell (k := k) hlt'
      subst hqA
      obtain ⟨x, hx⟩ : ∃ x, L[k]'hlt' = x := ⟨_, rfl⟩
      rw [hx] at hcell
      have hxw : (Lit.int .i64 x).wf = true := HWF.out x (by rw [← hx]; exact List.getElem_mem _)
      have htk : L.take (k + 1) = L.take k ++ [x] := by rw [List.take_succ_eq_append_getElem hlt', hx]
      have hPl : (L.take k).length = k := by rw [List.length_take]; omega
      have hb0 : (0 : Int) ≤ (k : Int) := Int.natCast_nonneg _
      have hb1 : (k : Int) < (n : Int) := by omega
      have hnu := uniq_len (L.take k)
      have hnu2 : (uniq (L.take k)).length ≤ 100 := by omega
      generalize L.take k = P at *
      have hc0 := cnt_bd P x
      have hcz := cnt_zero P x
      have hcl := (cnt_len P).1
      have hlook := HM.out.look1 hxw
      obtain ⟨c, hc⟩ : ∃ c, ((cntM P).lookup x).getD 0 = c := ⟨_, rfl⟩
      rw [hc] at hc0 hcz hlook
      have hcw : (Lit.int .i64 (c + 1)).wf = true := by simp [Lit.wf, IntKind.min, IntKind.max, IntKind.signed, IntKind.bits]; omega
      obtain ⟨w5, hput, hm5, hu5⟩ := HM.out.put hxw hcw (by unfold maxLen; omega)
      have hm5' : MapAt w5 mb (cntM (P ++ [x])) := by rw [cntM_snoc, hc]; exact hm5
      have hlook5 := hm5.look1 hxw
      rw [lookup_mput, if_pos rfl, Option.getD_some] at hlook5
      have h25 := H0.out.write (G' := mb :: blk (.slice Ap (uniq P).length Cp)) hu5 (by simp) (fun y hy => .inl hy)
      have hr5 := own_upd HR.out hu5 (fun y hy => by simp; rintro rfl; exact HMB.out hy)
      have hnb := h25.up.size
      obtain ⟨nu, hnu'⟩ : ∃ nu, (uniq P).length = nu := ⟨_, rfl⟩
      rw [hnu'] at hnu hnu2 h25 hr5 HMB ⊢
      have HTK := Lib.hid htk
      have HC := Lib.hid hc
      have HM5 := Lib.hid hm5'
      have H25 := Lib.hid h25
      have HR5 := Lib.hid hr5
      have HNU := Lib.hid hnu'
      have hc1 := hc0.1
      have hc2 : c ≤ 100 := by have := hc0.2; omega
      by_cases hxP : x ∈ P
      · have hcn : c ≠ 0 := fun e => (hcz.1 e) hxP
        have hcg : 1 ≤ c := by omega
        have hce : (c == 0) = false := by simpa using hcn
        have hce2 : (c + 1 == 1) = false := by rw [beq_eq_false_iff_ne]; omega
        have hu : uniq (P ++ [x]) = uniq P := by rw [uniq_snoc, if_pos ((uniq_mem P x).2 hxP)]
        have HUQ := Lib.hid hu
        clear hx htk hc hcz hm5 hm5' hu5 h25 hr5 hnu' hc0 hcn hu hxP hlt' hcl hPl
        go_wp2_with fail
        go_roundg (n - (k + 1))
        case measure => have := HK.out; omega
        case rel =>
          refine ⟨k + 1, by have := HK.out; omega, by go_num, Ap, Cp, ?_⟩
          rw [HTK.out, HUQ.out, HNU.out]
          exact ⟨rfl, H25.out, by unfold Kind.row; rw [HNU.out]; exact HR5.out, HM5.out, HMB.out⟩
      · have hcn : c = 0 := hcz.2 hxP
        have hu : uniq (P ++ [x]) = uniq P ++ [x] := by rw [uniq_snoc, if_neg (fun h => hxP ((uniq_mem P x).1 h))]
        have hown5 := hr5
        have HUQ := Lib.hid hu
        have HOW := Lib.hid hown5
        subst hcn
        rw [Int.zero_add] at hput hlook5
        clear hx htk hc hcz hm5 hm5' hu5 h25 hr5 hnu' hc0 hu hxP hlt' hcl hPl hown5
        go_wp2_with (at_builtin; refine wpList_app _ rfl _ _ 22 rfl w.heap.size 2 i1 (.int .i64 0) 1 8 Try.underlying22 hi1 hy0 hy1 hy2 rfl (by decide) _ nu (KI.all (uniq P)) rfl (HOW.out.alloc _) _ 1 [.int .i64 x] rfl (sees_lit w5 #[.int .i64 x] 2 1 1 rfl (by decide)) (by simp [Value.oneCell']) (by unfold maxLen; omega) (by omega) (by simp; omega) ?_)
        intro A9 C9 w9 HP9
        obtain ⟨hup9, ho9, hb9⟩ := app_at (w := w5) (v := .slice Ap nu Cp) ((Upd.refl _ w5).alloc (.cells #[.int .i64 x] 2)) HP9
        have HU9 := Lib.hid hup9
        have HO9 := Lib.hid ho9
        have HB9 := Lib.hid hb9
        clear HP9 hup9 ho9 hb9
        go_wp2_with fail
        go_roundg (n - (k + 1))
        case measure => have := HK.out; omega
        case rel =>
          have hml : (uniq P ++ [x]).length = nu + 1 := by rw [List.length_append, HNU.out]; rfl
          have hmb5 : mb < w5.heap.size := by
            obtain ⟨_, _, _, _, _, _, _, _, h7⟩ := H25.out
            exact (h7 mb (by simp)).2.1
          refine ⟨k + 1, by have := HK.out; omega, by go_num, A9, C9, ?_⟩
          rw [HTK.out, HUQ.out, hml]
          refine ⟨rfl, ?_, ?_, ?_, ?_⟩
          · refine H25.out.write HU9.out (fun y hy => by simp [hy]) (fun y hy => ?_)
            rcases List.mem_cons.1 hy with rfl | hy
            · exact .inl (by simp)
            · rcases HB9.out y hy with g | g
              · exact .inl (by simp [g])
              · exact .inr ⟨g, own_lt HO9.out y hy⟩
          · unfold Kind.row
            rw [Kind.all_app, hml]
            exact HO9.out
          · exact HM5.out.upd HU9.out HMB.out
          · intro hc
            rcases HB9.out mb hc with g | g
            · exact HMB.out g
            · omega
    · have hkn' : k = n := by omega
      have htl : L.take k = L := by rw [List.take_of_length_le]; rw [HLK.out]; omega
      have hU1 := uniq_nodup L
      have hU2 := uniq_len L
      have hU3 := uniq_mem L
      rw [htl] at H0 HR ⊢
      obtain ⟨U, hU⟩ : ∃ U, uniq L = U := ⟨_, rfl⟩
      rw [hU] at H0 HR hU1 hU2 hU3 ⊢
      have hUw : ∀ y ∈ U, (Lit.int .i64 y).wf = true := fun y hy => HWF.out y ((hU3 y).1 hy)
      obtain ⟨nu, hnu⟩ : ∃ nu, U.length = nu := ⟨_, rfl⟩
      have hown := row_n HR.out hnu
      rw [hnu] at H0 hU2 hown ⊢
      rw [HLK.out] at hU2
      have hH := H0.out.write (P := []) (G' := blk (.slice Ap nu Cp)) (Upd.refl _ _) (by simp) (fun y hy => .inl (by simp [hy]))
      have HH2 := Lib.hid hH
      have HOW := Lib.hid hown
      have HU1 := Lib.hid hU1
      have HUW := Lib.hid hUw
      have HNU := Lib.hid hnu
      clear hkn' htl hU hU1 hU3 hUw hnu hown hH HM HMB HR H0
      go_wp2_with fail
      go_loopg [46] nu (fun m i wl => ∃ j Sa Sb, m + j = nu ∧ i = .int .i64 (j : Int) ∧ H2 w wl (.pointer (some ⟨ba, 0, none⟩)) (.pointer (some ⟨bb, 0, none⟩)) Sa Sb (blk (.slice Ap nu Cp)) ∧ wl.ownsRow w.heap.size 2 1 (.slice Ap nu Cp) nu (KI.all U) ∧ Came Sa (U.take j) ∧ Came Sb (U.reverse.take j) ∧ HOk Sa j ∧ HOk Sb j)
      case atStart => exact ⟨0, S00, S00, rfl, rfl, HH2.out, HOW.out, came00, came00, ok00, ok00⟩
      case round =>
        obtain ⟨wl, rfl⟩ : ∃ wl : World, wl = wr := ⟨_, rfl⟩
        obtain ⟨j, Sa, Sb, hj, rfl, hH, hR, hCa, hCb, hOa, hOb⟩ := hrel
        have hjn : j ≤ nu := by omega
        have HJ := Lib.hid hj
        have H1 := Lib.hid hH
        have HR := Lib.hid hR
        have HCa := Lib.hid hCa
        have HCb := Lib.hid hCb
        have HOa := Lib.hid hOa
        have HOb := Lib.hid hOb
        clear hj hH hR hCa hCb hOa hOb
        by_cases hjl : j < nu
        · obtain ⟨r, hr⟩ : ∃ r, nu - 1 - j = r := ⟨_, rfl⟩
          have hrn : r < nu := by omega
          have hrv : Value.int .i64 ((nu : Int) - 1 - (j : Int)) = Value.int .i64 (r : Int) := by congr 1; omega
          obtain ⟨x, hx⟩ : ∃ x, U[j]? = some x := ⟨U[j]'(by rw [HNU.out]; exact hjl), List.getElem?_eq_getElem _⟩
          obtain ⟨y, hy⟩ : ∃ y, U[r]? = some y := ⟨U[r]'(by rw [HNU.out]; exact hrn), List.getElem?_eq_getElem _⟩
          obtain ⟨q, hqA, hq1, _, hq3, hq4⟩ := own_at HR.out hjl (u := .int .i64 x) (by rw [KI_all, List.getElem?_map, hx]; rfl)
          subst hqA
          obtain ⟨q', hqA, hq5, _, _, _⟩ := own_at HR.out hrn (u := .int .i64 y) (by rw [KI_all, List.getElem?_map, hy]; rfl)
          cases hqA
          have hxw := HUW.out x (List.mem_of_getElem? hx)
          have hyw := HUW.out y (List.mem_of_getElem? hy)
          have hrev : U.reverse[j]? = some y := by rw [List.getElem?_reverse (by rw [HNU.out]; exact hjl), HNU.out, hr]; exact hy
          have hxn : x ∉ U.take j := take_not U j x HU1.out hx
          have hyn : y ∉ U.reverse.take j := take_not _ j y ((List.reverse_perm U).nodup_iff.2 HU1.out) hrev
          have hca := HCa.out.put HOa.out x hxn
          have hcb := HCb.out.put HOb.out y hyn
          rw [take_snoc' U j x hx] at hca
          rw [take_snoc' _ j y hrev] at hcb
          have hqb : q ∈ blk (.slice (some ⟨q, 0, none⟩) nu Cp) := by simp [blk]
          have b0 : (0 : Int) ≤ (j : Int) := Int.natCast_nonneg _
          have b1 : (j : Int) < (nu : Int) := by omega
          have b2 : (0 : Int) ≤ (r : Int) := Int.natCast_nonneg _
          have b3 : (r : Int) < (nu : Int) := by omega
          have HXW := Lib.hid hxw
          have HYW := Lib.hid hyw
          have HCa2 := Lib.hid hca
          have HCb2 := Lib.hid hcb
          have HQ5 := Lib.hid hq5
          clear hxw hyw hca hcb hxn hyn hrev hx hy hr hq5
          go_wp2_with fail
          refine (add2 H1.out HOa.out (by omega) x HXW.out).mono ?_
          rintro e w5 ⟨rfl, h5, k5⟩
          have hq5 := (k5.cell (p := ⟨q, r, none⟩) hqb).trans HQ5.out
          have H5 := Lib.hid h5
          have K5 := Lib.hid k5
          clear h5 k5
          go_wp2_with fail
          refine (add2 H5.out.swap HOb.out (by omega) y HYW.out).mono ?_
          rintro e w6 ⟨rfl, h6, k6⟩
          have H6 := Lib.hid h6.swap
          have hr6 : w6.ownsRow w.heap.size 2 1 (.slice (some ⟨q, 0, none⟩) nu Cp) nu (KI.all U) := own_same HR.out fun y hy => (K5.out.trans k6).2 y hy
          have HR6 := Lib.hid hr6
          clear h6 k6 hr6
          go_wp2_with fail
          go_roundg (nu - (j + 1))
          case measure => have := HJ.out; omega
          case rel => exact ⟨j + 1, _, _, by have := HJ.out; omega, by go_num, H6.out, HR6.out, HCa2.out, HCb2.out, HOa.out.put (by omega) x, HOb.out.put (by omega) y⟩
        · have hjn' : j = nu := by omega
          have hca := HCa.out
          have hcb := HCb.out
          rw [List.take_of_length_le (by rw [HNU.out]; omega)] at hca
          rw [List.take_of_length_le (by rw [List.length_reverse, HNU.out]; omega)] at hcb
          have hwk : Sa.wk = Sb.wk := by rw [hca.wk, hcb.wk, List.length_reverse]
          have hsa : (view Sa).length = nu := by rw [view_len, hca.len, HNU.out]
          have hsb : (view Sb).length = nu := by rw [view_len, hcb.len, List.length_reverse, HNU.out]
          have hga : Gone Sa nu 0 U := by have := came_gone hca HU1.out; rw [HNU.out] at this; exact this
          have hgb : Gone Sb nu 0 U.reverse := by have := came_gone hcb ((List.reverse_perm U).nodup_iff.2 HU1.out); rw [List.length_reverse, HNU.out] at this; exact this
          have q0 : ((nu : Int) != (nu : Int)) = false := by simp
          obtain ⟨wk, hwk2⟩ : ∃ wk, Sa.wk = wk := ⟨_, rfl⟩
          have q1 : ((wk : Int) != (wk : Int)) = false := by simp
          have HSA := Lib.hid hsa
          have HSB := Lib.hid hsb
          have HGA := Lib.hid hga
          have HGB := Lib.hid hgb
          have HWA := Lib.hid hwk2
          have HWB := Lib.hid (hwk.symm.trans hwk2)
          clear hca hcb hwk hsa hsb hga hgb hwk2 hjn'
          go_wp2_with fail
          refine (workG H1.out.hg).mono ?_
          rintro e w' ⟨rfl, rfl⟩
          rw [HWA.out]
          go_wp2_with fail
          refine (workG H1.out.swap.hg).mono ?_
          rintro e w' ⟨rfl, rfl⟩
          rw [HWB.out]
          go_wp2_with fail
          refine (storedG H1.out.hg).mono ?_
          rintro e w' ⟨rfl, rfl⟩
          rw [HSA.out]
          go_wp2_with fail
          refine (storedG H1.out.swap.hg).mono ?_
          rintro e w' ⟨rfl, rfl⟩
          rw [HSB.out]
          go_wp2_with fail
          go_loopg [87] nu (fun m i wz => ∃ j Sa Sb Pa Pb, m + j = nu ∧ i = .int .i64 (j : Int) ∧ H2 w wz (.pointer (some ⟨ba, 0, none⟩)) (.pointer (some ⟨bb, 0, none⟩)) Sa Sb (blk (.slice Ap nu Cp)) ∧ wz.ownsRow w.heap.size 2 1 (.slice Ap nu Cp) nu (KI.all U) ∧
            Gone Sa nu j Pa ∧ Gone Sb nu j Pb ∧ (∀ x, x ∈ Pa ↔ x ∈ U.drop j) ∧ (∀ x, x ∈ Pb ↔ x ∈ U.drop j) ∧ HOk Sa (nu + 2 * j) ∧ HOk Sb (nu + j))
          case atStart => exact ⟨0, Sa, Sb, U, U.reverse, rfl, rfl, H1.out, HR.out, HGA.out, HGB.out, by simp, by simp, HOa.out.mono (by omega), HOb.out.mono (by omega)⟩
          case round =>
            obtain ⟨wz, rfl⟩ : ∃ wz : World, wz = wr := ⟨_, rfl⟩
            obtain ⟨j3, Ta, Tb, Pa, Pb, hj, rfl, hH, hR, hGa, hGb, hma, hmb, hOa, hOb⟩ := hrel
            have hjn : j3 ≤ nu := by omega
            have HJ3 := Lib.hid hj
            have H3 := Lib.hid hH
            have HR3 := Lib.hid hR
            have HGa := Lib.hid hGa
            have HGb := Lib.hid hGb
            have HMa := Lib.hid hma
            have HMb := Lib.hid hmb
            have HOa3 := Lib.hid hOa
            have HOb3 := Lib.hid hOb
            clear hj hH hR hGa hGb hma hmb hOa hOb
            by_cases hjl : j3 < nu
            · obtain ⟨r, hr⟩ : ∃ r, nu - (j3 + 1) = r := ⟨_, rfl⟩
              have hrv : Value.int .i64 ((nu : Int) - 1 - (j3 : Int)) = Value.int .i64 (r : Int) := by congr 1; omega
              have hrq : ((r : Int) != (r : Int)) = false := by simp
              obtain ⟨x, hx⟩ : ∃ x, U[j3]? = some x := ⟨U[j3]'(by rw [HNU.out]; exact hjl), List.getElem?_eq_getElem _⟩
              obtain ⟨q, hqA, hq1, _, hq3, hq4⟩ := own_at HR3.out hjl (u := .int .i64 x) (by rw [KI_all, List.getElem?_map, hx]; rfl)
              subst hqA
              have hxw := HUW.out x (List.mem_of_getElem? hx)
              have hxd : x ∈ U.drop j3 := by
                obtain ⟨g1, g2⟩ := List.getElem?_eq_some_iff.1 hx
                rw [List.drop_eq_getElem_cons g1, g2]; simp
              have hxa := (HMa.out x).2 hxd
              have hxb := (HMb.out x).2 hxd
              have hha := HGa.out.has HOa3.out x
              have hhb := HGb.out.has HOb3.out x
              rw [decide_eq_true hxa] at hha
              rw [decide_eq_true hxb] at hhb
              have hga := HGa.out.less HOa3.out x hxa
              have hgb := HGb.out.less HOb3.out x hxb
              have hOa4 := HOa3.out.less (by omega) x
              have hOb4 := HOb3.out.less (by omega) x
              have hxa2 : x ∉ Pa.filter fun y => y != x := by simp
              have hha2 := hga.has hOa4 x
              rw [decide_eq_false hxa2] at hha2
              have hls := hga.not hOa4 x hxa2
              have hOa5 := hOa4.less (by omega) x
              rw [hls] at hOa5
              have hmem : ∀ (P : List Int), (∀ y, y ∈ P ↔ y ∈ U.drop j3) → ∀ y, (y ∈ P.filter fun y => y != x) ↔ y ∈ U.drop (j3 + 1) := by
                intro P hP y
                rw [drop_mem U j3 x HU1.out hx y, List.mem_filter, hP]
                simp
              have hml : (vAll (view (lessS Ta x))).length = r := by rw [hga.all, hga.alive, hr]
              have hsa : (view (lessS Ta x)).length = stN nu (j3 + 1) := hga.len
              have hsb : (view (lessS Tb x)).length = stN nu (j3 + 1) := hgb.len
              obtain ⟨sn, hsn⟩ : ∃ sn, stN nu (j3 + 1) = sn := ⟨_, rfl⟩
              rw [hsn] at hsa hsb
              have hsq : ((sn : Int) != (sn : Int)) = false := by simp
              have b0 : (0 : Int) ≤ (j3 : Int) := Int.natCast_nonneg _
              have b1 : (j3 : Int) < (nu : Int) := by omega
              have HXW := Lib.hid hxw
              have HHA := Lib.hid hha
              have HHB := Lib.hid hhb
              have HHA2 := Lib.hid hha2
              have HLS := Lib.hid hls
              have HGA2 := Lib.hid hga
              have HGB2 := Lib.hid hgb
              have HOA4 := Lib.hid hOa4
              have HOA5 := Lib.hid hOa5
              have HOB4 := Lib.hid hOb4
              have HMEM := Lib.hid hmem
              have HML := Lib.hid hml
              have HSA3 := Lib.hid hsa
              have HSB3 := Lib.hid hsb
              clear hxw hha hhb hha2 hls hga hgb hOa4 hOa5 hOb4 hmem hml hsa hsb hsn hxa hxb hxa2 hxd hx hr
              go_wp2_with fail
              refine (drop2 H3.out HOa3.out (by omega) x HXW.out).mono ?_
              rintro e w5 ⟨rfl, h5, k5⟩
              rw [HHA.out]
              have H5 := Lib.hid h5
              have K5 := Lib.hid k5
              clear h5 k5
              go_wp2_with fail
              refine (drop2 H5.out.swap HOb3.out (by omega) x HXW.out).mono ?_
              rintro e w6 ⟨rfl, h6, k6⟩
              rw [HHB.out]
              have H6 := Lib.hid h6.swap
              have K6 := Lib.hid k6
              clear h6 k6
              go_wp2_with fail
              refine (drop2 H6.out HOA4.out (by omega) x HXW.out).mono ?_
              rintro e w7 ⟨rfl, h7, k7⟩
              rw [HHA2.out]
              rw [HLS.out] at h7
              have H7 := Lib.hid h7
              have hr7 : w7.ownsRow w.heap.size 2 1 (.slice (some ⟨q, 0, none⟩) nu Cp) nu (KI.all U) := own_same HR3.out fun y hy => ((K5.out.trans K6.out).trans k7).2 y hy
              have HR7 := Lib.hid hr7
              clear h7 k7 hr7
              go_wp2_with fail
              refine (lenG H7.out.hg HOA5.out).mono ?_
              rintro e w' ⟨rfl, rfl⟩
              rw [HML.out]
              go_wp2_with fail
              refine (storedG H7.out.hg).mono ?_
              rintro e w' ⟨rfl, rfl⟩
              rw [HSA3.out]
              go_wp2_with fail
              refine (storedG H7.out.swap.hg).mono ?_
              rintro e w' ⟨rfl, rfl⟩
              rw [HSB3.out]
              go_wp2_with fail
              go_roundg (nu - (j3 + 1))
              case measure => have := HJ3.out; omega
              case rel => exact ⟨j3 + 1, _, _, _, _, by have := HJ3.out; omega, by go_num, H7.out, HR7.out, HGA2.out, HGB2.out, HMEM.out _ HMa.out, HMEM.out _ HMb.out, HOA5.out.mono (by omega), HOB4.out.mono (by omega)⟩
            · have hjn' : j3 = nu := by omega
              subst hjn'
              have hs0 : (view Ta).length = 0 := by rw [HGa.out.len]; exact stN_end _
              have ht0 : (treesL Ta).length = 0 := by
                have e : Ta.cs = [] := by rw [view_len] at hs0; exact List.length_eq_zero_iff.1 hs0
                unfold treesL
                rw [e, List.length_map]
                rfl
              have ha0 : (vAll (view Tb)).length = 0 := by rw [HGb.out.all, HGb.out.alive]; omega
              have HS0 := Lib.hid hs0
              have HT0 := Lib.hid ht0
              have HA0 := Lib.hid ha0
              clear hs0 ht0 ha0
              go_wp2_with fail
              refine (storedG H3.out.hg).mono ?_
              rintro e w' ⟨rfl, rfl⟩
              rw [HS0.out]
              go_wp2_with fail
              refine (treesG H3.out.hg HOa3.out (by omega)).mono ?_
              rintro e w8 ⟨A8, C8, ts, rfl, _, hu8, _⟩
              rw [HT0.out]
              have H8 := Lib.hid (H3.out.quiet hu8)
              clear hu8
              go_wp2_with fail
              refine (allG H8.out.swap.hg HOb3.out (by omega)).mono ?_
              rintro e w9 ⟨A9, C9, rfl, _, hu9⟩
              rw [HA0.out]
              have H9 := Lib.hid (H8.out.quiet hu9)
              clear hu9
              go_wp2_with fail
              refine (awake22 _).mono ?_
              rintro e w' ⟨rfl, hu⟩
              have HF := Lib.hid (H9.out.up.trans hu)
              clear hu
              go_wp2_with fail
              go_ret
              exact ⟨rfl, HF.out.below⟩
end Go.Proofs.Ytkhgglafnjfiaaa
