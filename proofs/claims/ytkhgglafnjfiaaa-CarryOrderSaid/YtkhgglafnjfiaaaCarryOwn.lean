/- gridironlaw20.CarryOwn: what is told, and what was set, may be written over. -/
import Derived.Test.YtkhgglafnjfiaaaLaw20b
import Derived.Test.YtkhgglafnjfiaaaAll20
namespace Go.Proofs.Ytkhgglafnjfiaaa
open Go.RowKit

/-- A number of the first row: where it stands, and that it may be written. -/
theorem One.at {w0 wr : World} {b : Nat} {l : List Int} {wl : Nat} {R : List (Value × List Int)} {A : Option Addr} {n C : Nat} {g : List Int} (h : One w0 wr b l wl ((.slice A n C, g) :: R)) {k : Nat} (hk : k < g.length) :
    ∃ q, A = some ⟨q, 0, none⟩ ∧ wr.cell? ⟨q, k, none⟩ = some (.int .i64 g[k]) ∧ wr.frozen? ⟨q, k, none⟩ = false := by
  have hrow := h.row (v := .slice A n C) (g := g) (by simp)
  obtain ⟨q, cap, he, _, _⟩ := World.ownsRow.form hrow (by omega)
  cases he
  have hc := (Ints.of_row hrow).cell hk
  obtain ⟨b', o', he', hc'⟩ := hc
  cases he'
  rw [Nat.zero_add] at hc'
  exact ⟨q, rfl, hc', World.ownsRow.frozenAt hrow k⟩

/-- A carry that was made behind a row. -/
theorem One.begin {w w1 w2 : World} {b : Nat} {v : Value} {g : List Int} (hu1 : Upd [] w w1) (hr : KI.row w1 w.heap.size v g) (hu2 : Upd [] w1 w2) (hb : w1.heap.size ≤ b) (hc : IsCarry KI w2 b [b] [] 0 0) : One w w2 b [] 0 [(v, g)] := by
  refine ⟨[b], by rw [setB_nil]; exact hc, (hu1.trans hu2).mono (by simp), by simp, ?_, by simp⟩
  intro r hr'
  rw [List.mem_singleton] at hr'
  subst hr'
  refine ⟨own_upd hr hu2 (by simp), fun x hx => ?_⟩
  have := own_lt hr x hx
  simp
  omega

set_option maxRecDepth 100000 in
set_option maxHeartbeats 400000 in
theorem own_walk (s : Value) (l : List Int) (w : World) (hs : Ints w s l) (hm : l.length ≤ 9223372036854775807) :
    Calls Try.prog 5 #[s] w fun e w' => e = .returned (.bool true) ∧ Below w.heap.size w w' := by
  obtain ⟨A, C, rfl⟩ := hs.form
  obtain ⟨i1, hi1, hy0, hy1, hy2⟩ := info_parts info_int64
  obtain ⟨B0, D0, m0, l0, hl0, hm0, hn0, hr0, hv0, hi0⟩ := head_of hs 60 60 rfl
  have q0 : m0 ≤ 60 := by omega
  have hv1 : Value.int .i64 (min (l.length : Int) 60) = Value.int .i64 (m0 : Int) := by
    rw [show min (l.length : Int) 60 = (m0 : Int) from by omega]
  have HI0 := Lib.hid hi0
  have HM0 := Lib.hid hm0
  clear hs hl0 hm0 hn0 hi0
  go_enter Try.func5, Try.ntmps5
  go_wp2_with (at_builtin; refine wpList_app _ rfl _ _ 22 rfl w.heap.size 2 i1 (.int .i64 0) 1 8 Try.underlying22 hi1 hy0 hy1 hy2 rfl (by decide) _ 0 [] rfl (World.ownsRow_made w #[] 0 (Nat.le_refl _) (by decide) rfl) _ m0 (KI.all l0) rfl (by have := (HI0.out).upd0 (((Upd.refl [] w).alloc (.cells #[] 2))); unfold Ints at this; rw [HM0.out] at this; exact this) (KI.all_one l0) (by unfold maxLen; omega) (by omega) (by simp) ?_)
  intro A4 C4 w1 HP
  have hup4 : Upd [] w w1 := ((Upd.refl _ _).alloc _).trans' HP.upd (fun x hx => by simp [blk] at hx; omega)
  have hrow4 : KI.row w1 w.heap.size (.slice A4 m0 C4) l0 := by
    have := HP.own
    rw [Nat.zero_add, List.nil_append] at this
    unfold Kind.row
    rw [HM0.out]
    exact this
  have HU4 := Lib.hid hup4
  have HR4 := Lib.hid hrow4
  clear hup4 hrow4 HP
  go_wp2_with fail
  refine (newI w1).mono ?_
  rintro e w2 ⟨b, rfl, hH, hb0, hu1⟩
  have H2 := Lib.hid (One.begin HU4.out HR4.out hu1 hb0 hH)
  have hbw : w.heap.size ≤ b := Nat.le_trans HU4.out.size hb0
  clear hH hu1 hb0
  go_wp2_with fail
  refine (setO w w2 b _ _ l0 _ _ H2.out (H2.out.ints (v := .slice A4 m0 C4) (g := l0) (by simp)) (.inl (by simp)) (by rw [HM0.out]; omega) (by omega)).mono ?_
  rintro e w3 ⟨rfl, h3⟩
  rw [HM0.out, Nat.zero_add] at h3
  rw [HM0.out]
  have H3 := Lib.hid h3
  clear h3
  go_wp2_with (at_builtin; refine wpList_app _ rfl _ _ 22 rfl w3.heap.size 2 i1 (.int .i64 0) 1 8 Try.underlying22 hi1 hy0 hy1 hy2 rfl (by decide) _ 0 [] rfl (World.ownsRow_made w3 #[] 0 (Nat.le_refl _) (by decide) rfl) _ m0 (KI.all l0) rfl (by have := (H3.out.ints (v := .slice A4 m0 C4) (g := l0) (by simp)).upd0 (((Upd.refl [] w3).alloc (.cells #[] 2))); unfold Ints at this; rw [HM0.out] at this; exact this) (KI.all_one l0) (by unfold maxLen; omega) (by omega) (by simp) ?_)
  intro A5 C5 w4 HP
  have hup4 : Upd [] w3 w4 := ((Upd.refl _ _).alloc _).trans' HP.upd (fun x hx => by simp [blk] at hx; omega)
  have hrow4 : KI.row w4 w3.heap.size (.slice A5 m0 C5) l0 := by
    have := HP.own
    rw [Nat.zero_add, List.nil_append] at this
    unfold Kind.row
    rw [HM0.out]
    exact this
  have H4 := Lib.hid (H3.out.more hup4 hrow4).swap
  clear hup4 hrow4 HP
  go_wp2_with fail
  go_loopg [28] m0 (fun m i wr => ∃ k g, m + k = m0 ∧ i = .int .i64 (k : Int) ∧ g.length = m0 ∧ One w wr b l0 m0 [(.slice A4 m0 C4, g), (.slice A5 m0 C5, l0)])
  case atStart => exact ⟨0, l0, rfl, rfl, HM0.out, H4.out⟩
  case round =>
    obtain ⟨k, g, hk, rfl, hg, ho⟩ := hrel
    have hkm : k ≤ m0 := by omega
    have HK := Lib.hid hk
    have HG := Lib.hid hg
    have HO := Lib.hid ho
    clear hk hg ho
    by_cases hlt : k < m0
    · obtain ⟨q, hA, hcell, hfro⟩ := HO.out.at (k := k) (by rw [HG.out]; exact hlt)
      subst hA
      obtain ⟨x, hx⟩ : ∃ x, g[k]'(by rw [HG.out]; exact hlt) = x := ⟨_, rfl⟩
      rw [hx] at hcell
      clear hx
      have b0 : (0 : Int) ≤ (k : Int) := Int.natCast_nonneg _
      have b1 : (k : Int) < (m0 : Int) := by omega
      go_wp2_with fail
      go_roundg (gk - 1)
      case measure => have := HK.out; omega
      case rel => exact ⟨k + 1, _, by have := HK.out; omega, by go_num, by rw [List.length_set]; exact HG.out, HO.out.store k _⟩
    · clear hkm HK
      go_wp2_with fail
      refine (addO w wr b 5 l0 m0 _ HO.out (by rw [HM0.out]; omega) (by omega)).mono ?_
      rintro e w5 ⟨A6, C6, rfl, h5⟩
      obtain ⟨G, hG⟩ : ∃ G, gath (setB l0) 5 = G := ⟨_, rfl⟩
      have hgl : G.length = 2 ^ firstE (setB l0) := by rw [← hG]; exact (gath_set l0 5).2
      have hgb := (gath_last l0 5).2.1
      rw [hG] at h5
      obtain ⟨p, hp⟩ : ∃ p, 2 ^ firstE (setB l0) = p := ⟨_, rfl⟩
      rw [hp] at h5 hgl hgb ⊢
      rw [HM0.out] at hgb
      have h5' := (h5.sub (R' := [(.slice A6 p C6, G), (.slice A5 m0 C5, l0)]) (by simp)).swap
      have H5 := Lib.hid h5'
      have HGL := Lib.hid hgl
      clear h5 h5' hgl hG hp hlt
      go_wp2_with (at_builtin; refine wpList_app _ rfl _ _ 22 rfl w.heap.size 2 i1 (.int .i64 0) 1 8 Try.underlying22 hi1 hy0 hy1 hy2 rfl (by decide) _ _ _ rfl ((H5.out.row (v := .slice A5 m0 C5) (g := l0) (by simp)).alloc _) _ 1 [.int .i64 5] rfl (sees_lit w5 #[.int .i64 5] 2 1 1 rfl (by decide)) (by simp [Value.oneCell']) (by unfold maxLen; rw [HM0.out]; omega) (by rw [HM0.out]; omega) (by have := H5.out.upd.size; simp; omega) ?_)
      intro A7 C7 w6 HP
      have H6 := Lib.hid (One.append H5.out (news := [5]) rfl HP).swap
      clear HP
      obtain ⟨L, hL⟩ : ∃ L, l0 ++ [5] = L := ⟨_, rfl⟩
      have hLl : L.length = m0 + 1 := by rw [← hL, List.length_append, HM0.out]; rfl
      have h6 := H6.out
      rw [HM0.out, hL] at h6
      rw [HM0.out]
      have H7 := Lib.hid h6
      have HL := Lib.hid hLl
      clear H6 h6 hL hLl
      go_wp2_with fail
      go_loopg [48] p (fun m i wr => ∃ k g, m + k = p ∧ i = .int .i64 (k : Int) ∧ g.length = p ∧ One w wr b L (m0 + p) [(.slice A6 p C6, g), (.slice A7 (m0 + 1) C7, L)])
      case atStart => exact ⟨0, G, rfl, rfl, HGL.out, H7.out⟩
      case round =>
        clear HO HG
        obtain ⟨k, g, hk, rfl, hg, ho⟩ := hrel
        have hkm : k ≤ p := by omega
        have HK := Lib.hid hk
        have HG := Lib.hid hg
        have HO := Lib.hid ho
        clear hk hg ho
        by_cases hlt : k < p
        · obtain ⟨q, hA, hcell, hfro⟩ := HO.out.at (k := k) (by rw [HG.out]; exact hlt)
          subst hA
          obtain ⟨x, hx⟩ : ∃ x, g[k]'(by rw [HG.out]; exact hlt) = x := ⟨_, rfl⟩
          rw [hx] at hcell
          clear hx
          have b0 : (0 : Int) ≤ (k : Int) := Int.natCast_nonneg _
          have b1 : (k : Int) < (p : Int) := by omega
          go_wp2_with fail
          go_roundg (gk - 1)
          case measure => have := HK.out; omega
          case rel => exact ⟨k + 1, _, by have := HK.out; omega, by go_num, by rw [List.length_set]; exact HG.out, HO.out.store k _⟩
        · clear hkm HK
          have hbt := bitsN_le L.length 20 (by rw [HL.out]; omega)
          obtain ⟨B, hB⟩ : ∃ B, bitsN L.length = B := ⟨_, rfl⟩
          rw [hB] at hbt
          have HB := Lib.hid hB
          clear hB
          go_wp2_with fail
          refine (levelsO w wr b _ _ _ HO.out).mono ?_
          rintro e w' ⟨rfl, rfl⟩
          rw [HB.out]
          have H8 := Lib.hid (HO.out.sub (R' := [(.slice A7 (m0 + 1) C7, L)]) (by simp))
          clear HO HG hlt
          go_wp2_with fail
          go_loopg [60] B (fun m i wr => ∃ k, m + k = B ∧ i = .int .i64 (k : Int) ∧ One w wr b L (m0 + p) [(.slice A7 (m0 + 1) C7, L)])
          case atStart => exact ⟨0, rfl, rfl, H8.out⟩
          case round =>
            obtain ⟨k, hk, rfl, ho⟩ := hrel
            have hkm : k ≤ B := by omega
            have HK := Lib.hid hk
            have HO := Lib.hid ho
            clear hk ho
            by_cases hlt : k < B
            · go_wp2_with fail
              refine (bucketO w wr b k L _ _ HO.out (by rw [HB.out]; exact hlt) (by rw [HL.out]; omega)).mono ?_
              rintro e w8 ⟨A8, C8, rfl, h8⟩
              obtain ⟨G2, hG2⟩ : ∃ G2, bucketOf L k = G2 := ⟨_, rfl⟩
              have hGl := bucket_le L k
              rw [hG2] at h8 hGl ⊢
              obtain ⟨n2, hn2⟩ : ∃ n2, G2.length = n2 := ⟨_, rfl⟩
              rw [hn2] at h8 ⊢
              rw [HL.out, hn2] at hGl
              have H9 := Lib.hid h8
              have HN2 := Lib.hid hn2
              clear h8 hG2 hn2
              go_wp2_with fail
              go_loopg [68] n2 (fun m i wr => ∃ k g, m + k = n2 ∧ i = .int .i64 (k : Int) ∧ g.length = n2 ∧ One w wr b L (m0 + p) [(.slice A8 n2 C8, g), (.slice A7 (m0 + 1) C7, L)])
              case atStart => exact ⟨0, G2, rfl, rfl, HN2.out, H9.out⟩
              case round =>
                obtain ⟨k2, g, hk, rfl, hg, ho⟩ := hrel
                have hkm2 : k2 ≤ n2 := by omega
                have HK2 := Lib.hid hk
                have HG2 := Lib.hid hg
                have HO2 := Lib.hid ho
                clear hk hg ho
                by_cases hlt2 : k2 < n2
                · obtain ⟨q, hA, hcell, hfro⟩ := HO2.out.at (k := k2) (by rw [HG2.out]; exact hlt2)
                  subst hA
                  obtain ⟨x, hx⟩ : ∃ x, g[k2]'(by rw [HG2.out]; exact hlt2) = x := ⟨_, rfl⟩
                  rw [hx] at hcell
                  clear hx
                  have b0 : (0 : Int) ≤ (k2 : Int) := Int.natCast_nonneg _
                  have b1 : (k2 : Int) < (n2 : Int) := by omega
                  go_wp2_with fail
                  go_roundg (gk - 1)
                  case measure => have := HK2.out; omega
                  case rel => exact ⟨k2 + 1, _, by have := HK2.out; omega, by go_num, by rw [List.length_set]; exact HG2.out, HO2.out.store k2 _⟩
                · go_wp2_with fail
                  go_roundg (B - (k + 1))
                  case measure => have := HK.out; omega
                  case rel => exact ⟨k + 1, by have := HK.out; omega, by go_num, HO2.out.sub (by simp)⟩
            · clear hkm HK
              go_wp2_with fail
              refine (all20 w wr b L _ _ HO.out (by rw [HL.out]; omega)).mono ?_
              rintro e w8 ⟨A8, C8, rfl, h8⟩
              have H9 := Lib.hid h8
              clear h8
              go_wp2_with fail
              refine (same20 _ _ L L _ (H9.out.ints (v := .slice A8 L.length C8) (g := L) (by simp)) (H9.out.ints (v := .slice A7 (m0 + 1) C7) (g := L) (by simp)) (by rw [HL.out]; omega) (by rw [HL.out]; omega)).mono ?_
              rintro e w9 ⟨rfl, hu9⟩
              rw [decide_eq_true rfl]
              have H10 := Lib.hid (H9.out.quiet hu9)
              clear hu9
              go_wp2_with fail
              refine (awake_true _).mono ?_
              rintro e w10 ⟨rfl, hu⟩
              have H11 := Lib.hid (H10.out.quiet hu)
              clear hu
              go_wp2_with fail
              go_ret
              refine ⟨rfl, ((Upd.refl [] w).trans' H11.out.upd (fun x hx => .inr (by simp at hx; omega))).below⟩
end Go.Proofs.Ytkhgglafnjfiaaa
