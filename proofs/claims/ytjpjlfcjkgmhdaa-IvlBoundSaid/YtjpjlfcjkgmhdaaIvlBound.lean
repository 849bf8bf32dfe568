/- gridironlaw09.IvlBound: the walk. -/
import Derived.Test.YtjpjlfcjkgmhdaaIvlW
import Derived.Test.YtjpjlfcjkgmhdaaBytK
import Derived.Test.YtjpjlfcjkgmhdaaLogC
namespace Go.Proofs.Ytjpjlfcjkgmhdaa
open Go.RowKit

set_option maxRecDepth 100000 in
set_option maxHeartbeats 8000000 in
theorem ivlBound_walk (v v2 v3 : Value) (l : List Sp) (lx : List Int) (ld : List Nat) (w : World) (h : IsSps w v l) (hid : ∀ s ∈ l, s.in64) (hl : l.length ≤ maxLen) (h2 : See KL w v2 lx) (hl2 : lx.length ≤ maxLen) (h3 : See KYb w v3 ld) (hl3 : ld.length ≤ maxLen) (hd8 : ∀ d ∈ ld, d < 256) :
    Calls Try.prog 6 #[v, v2, v3] w fun e w' => e = .returned (.bool true) ∧ Upd [] w w' := by
  obtain ⟨A, C, rfl⟩ := h.form
  obtain ⟨A2, C2, rfl⟩ := h2.form
  obtain ⟨Ad, Cd, rfl⟩ := h3.form
  obtain ⟨i0, hi0, hz0, hz1, hz2⟩ := info_parts info_int64
  obtain ⟨i8, hi8, hb0, hb1, hb2⟩ := info_parts infoByteS
  obtain ⟨N, hN⟩ : ∃ N, l.length = N := ⟨_, rfl⟩
  obtain ⟨M, hM⟩ : ∃ N, lx.length = N := ⟨_, rfl⟩
  obtain ⟨D, hD⟩ : ∃ N, ld.length = N := ⟨_, rfl⟩
  rw [hN] at h hl ⊢
  rw [hM] at h2 hl2 ⊢
  rw [hD] at h3 hl3 ⊢
  unfold maxLen at hl hl2 hl3
  have n0 : (0 : Int) ≤ (N : Int) := Int.natCast_nonneg _
  have m0 : (0 : Int) ≤ (M : Int) := Int.natCast_nonneg _
  have d0 : (0 : Int) ≤ (D : Int) := Int.natCast_nonneg _
  have hid2 : ∀ s ∈ l, s.id < 4294967296 := fun s hs => (hid s hs).2.2
  by_cases hbig : 200 < N
  · have hb : decide ((200 : Int) < (N : Int)) = true := decide_eq_true (by omega)
    have HAW := Lib.hid (awake09 w)
    clear h h2 h3 hid hid2 hbig
    go_enter Try.func6, Try.ntmps6
    go_wp2_with fail
    (with_reducible refine HAW.out.mono ?_)
    rintro e w1 ⟨rfl, u1⟩
    go_wp2_with fail
    go_ret
    exact ⟨rfl, u1⟩
  · have hb : decide ((200 : Int) < (N : Int)) = false := decide_eq_false (by omega)
    have hN200 : N ≤ 200 := by omega
    have hbd := ivlBuild _ l w (by rw [← hN] at h; exact h) hid2 (by omega)
    rw [hN] at hbd
    have HB := Lib.hid hbd
    have H := Lib.hid h
    have H2 := Lib.hid h2
    have H3 := Lib.hid h3
    have HN := Lib.hid (And.intro hN (And.intro hM (And.intro hD hd8)))
    have HAW := Lib.hid (fun w' => awake09 w')
    clear h h2 h3 hid hid2 hbig hN hM hD hbd hd8
    go_enter Try.func6, Try.ntmps6
    go_wp2_with fail
    (with_reducible refine HB.out.mono ?_)
    rintro e w1 ⟨u1, (⟨hr, rfl⟩ | ⟨hr, b, F, rfl, hs, hF⟩)⟩
    · have HAW1 := Lib.hid (HAW.out w1)
      have HU1 := Lib.hid u1
      clear hr u1
      go_wp2_with fail
      (with_reducible refine HAW1.out.mono ?_)
      rintro e w2 ⟨rfl, u2⟩
      have HU2 := Lib.hid (HU1.out.trans u2)
      clear u2
      go_wp2_with fail
      go_ret
      exact ⟨rfl, HU2.out⟩
    · have HS := Lib.hid (And.intro hs hF)
      have HU1 := Lib.hid u1
      clear hr u1 hs hF
      obtain ⟨P, hP⟩ : ∃ P : Nat, min D 100 = P := ⟨_, rfl⟩
      have hPm : Value.int .i64 (min (D : Int) 100) = Value.int .i64 (P : Int) := by
        have : min (D : Int) 100 = (P : Int) := by omega
        rw [this]
      have hPb : P ≤ D ∧ P ≤ 100 := by omega
      obtain ⟨A4, C4, cut4, cs4, -⟩ := cut_to (P := Try.prog) (t := 47) Try.underlying47 hi8 hb1 (show Sees w 1 (.slice Ad D Cd) D (KYb.all ld) by have h3 := H3.out; unfold See at h3; rw [HN.out.2.2.1] at h3; exact h3) P hPb.1
      have hsee4 : ∀ w', Upd [] w w' → See KYb w' (.slice A4 P C4) (ld.take P) := fun w' hu => by
        have h3 := cs4 w' (by have h3 := H3.out.upd0 hu; unfold See at h3; rw [HN.out.2.2.1] at h3; exact h3)
        unfold See
        rw [KYb.all_take, List.length_take, HN.out.2.2.1, Nat.min_eq_left hPb.1]
        exact h3
      have hPl : (ld.take P).length = P := by rw [List.length_take, HN.out.2.2.1, Nat.min_eq_left hPb.1]
      have hd4 : ∀ d ∈ ld.take P, d < 256 := fun d hd => HN.out.2.2.2 d (List.mem_of_mem_take hd)
      have HSEE4 := Lib.hid (And.intro hsee4 (And.intro hPl hd4))
      have hP100 := hPb.2
      clear cs4 hsee4 hPl hP hPb hd4
      go_wp2_with fail
      go_loopg [35] P (fun m s36 wr => ∃ (k : Nat) (S : List Sp), m + k = P ∧ s36 = .int .i64 (k : Int) ∧ IsIvl wr b F S N ∧ Upd [] w wr)
      case atStart => exact ⟨0, l, rfl, rfl, HS.out.1, HU1.out⟩
      case round =>
        obtain ⟨k, S, hk, rfl, hsg, hup⟩ := hrel
        have k0 : (0 : Int) ≤ (k : Int) := Int.natCast_nonneg _
        have hkP : k ≤ P := by omega
        have HK := Lib.hid (And.intro hk (And.intro hsg hup))
        clear hk hsg hup
        by_cases hlt : k < P
        · obtain ⟨d, hd⟩ : ∃ d, (ld.take P)[k]? = some d := ⟨_, List.getElem?_eq_getElem (by rw [HSEE4.out.2.1]; exact hlt)⟩
          have hd256 := HSEE4.out.2.2 d (List.mem_of_getElem? hd)
          obtain ⟨g, o, rfl, -, -, ed⟩ := KYb.at (HSEE4.out.1 wr HK.out.2.2) hd
          have b1 : (k : Int) < (P : Int) := by omega
          have e0 : (0 : Int) ≤ (d : Int) := Int.natCast_nonneg _
          have e1 : (d : Int) < 256 := by omega
          clear hd hd256
          by_cases hN0 : 0 < N
          · have hg : decide (0 < N) = true := decide_eq_true hN0
            obtain ⟨p, hp⟩ : ∃ p, d % N = p := ⟨_, rfl⟩
            have hpN : p < N := by rw [← hp]; exact Nat.mod_lt d hN0
            have hpe : (d : Int) % (N : Int) = (p : Int) := by rw [← hp, Int.natCast_emod]
            have hpt : (d : Int).tmod (N : Int) = (p : Int) := by rw [← hp]; rfl
            obtain ⟨s, hs⟩ : ∃ s, l[p]? = some s := ⟨_, List.getElem?_eq_getElem (by rw [HN.out.1]; exact hpN)⟩
            have hse : See KSp wr (.slice A l.length C) l := by
              have := H.out.upd0 HK.out.2.2
              rw [HN.out.1]; exact this
            obtain ⟨g2, o2, rfl, -, -, ey⟩ := hse.at hs
            have y0 : wr.cell? ⟨g2, o2 + p * 3, none⟩ = some (.int .i64 s.lo) := ey 0 _ rfl
            have y1 : wr.cell? ⟨g2, o2 + p * 3 + 1, none⟩ = some (.int .i64 s.hi) := ey 1 _ rfl
            have y2 : wr.cell? ⟨g2, o2 + p * 3 + 2, none⟩ = some (.int .u32 (s.id : Int)) := ey 2 _ rfl
            have p0 : (0 : Int) ≤ (p : Int) := Int.natCast_nonneg _
            have p1 : (p : Int) < (N : Int) := by omega
            have hdr := vDrop HK.out.2.1 s
            unfold VDrop spV at hdr
            have HD := Lib.hid hdr
            clear hs hse ey hdr hp hpN
            go_wp2_with fail
            (with_reducible refine HD.out.mono ?_)
            rintro e w5 ⟨rfl, t5, u5⟩
            have HT5 := Lib.hid (And.intro t5 u5)
            clear t5 u5 y0 y1 y2
            go_wp2_with fail
            go_roundg (P - (k + 1))
            case measure => have := HK.out.1; omega
            case rel => exact ⟨k + 1, _, by have := HK.out.1; omega, by go_num, HT5.out.1, HK.out.2.2.trans' HT5.out.2 (fun y hy => .inr (HS.out.2 y hy))⟩
          · have hg : decide (0 < N) = false := decide_eq_false hN0
            go_wp2_with fail
            go_roundg (P - (k + 1))
            case measure => have := HK.out.1; omega
            case rel => exact ⟨k + 1, S, by have := HK.out.1; omega, by go_num, HK.out.2.1, HK.out.2.2⟩
        · have hSl := HK.out.2.1.many
          have hG : bitsN (2 * N) ≤ 11 := bitsN_le _ 11 (by omega)
          have hlog := fun w' => logC (2 * N + 1) w' (by omega)
          have hlg : lg (2 * N + 1) = bitsN (2 * N) := rfl
          obtain ⟨G, hGG⟩ : ∃ G, bitsN (2 * N) = G := ⟨_, rfl⟩
          rw [show ((2 * N + 1 : Nat) : Int) = 2 * (N : Int) + 1 by omega] at hlog
          simp only [hlg, hGG] at hlog
          rw [hGG] at hG
          have HLOG := Lib.hid hlog
          have g0 : (0 : Int) ≤ (G : Int) := Int.natCast_nonneg _
          have g1 : (G : Int) ≤ 11 := by omega
          have HG := Lib.hid (And.intro hGG hSl)
          clear hSl hG hlog hlg hGG
          go_wp2_with fail
          (with_reducible refine (HLOG.out _).mono ?_)
          rintro e w2 ⟨rfl, rfl⟩
          obtain ⟨wb, hwb⟩ : ∃ wb : World, wb = wr := ⟨_, rfl⟩
          subst hwb
          obtain ⟨Q, hQ⟩ : ∃ Q : Nat, min M 20 = Q := ⟨_, rfl⟩
          have hQm : Value.int .i64 (min (M : Int) 20) = Value.int .i64 (Q : Int) := by
            have : min (M : Int) 20 = (Q : Int) := by omega
            rw [this]
          have hQb : Q ≤ M ∧ Q ≤ 20 := by omega
          obtain ⟨A4, C4, cut, cs, -⟩ := cut_to (P := Try.prog) (t := 37) Try.underlying37 hi0 hz1 (show Sees w 1 (.slice A2 M C2) M (KL.all lx) by have h3 := H2.out; unfold See at h3; rw [HN.out.2.1] at h3; exact h3) Q hQb.1
          have hsee : ∀ w', Upd [] w w' → See KL w' (.slice A4 Q C4) (lx.take Q) := fun w' hu => by
            have h3 := cs w' (by have h3 := H2.out.upd0 hu; unfold See at h3; rw [HN.out.2.1] at h3; exact h3)
            unfold See
            rw [KL.all_take, List.length_take, HN.out.2.1, Nat.min_eq_left hQb.1]
            exact h3
          have hQl : (lx.take Q).length = Q := by rw [List.length_take, HN.out.2.1, Nat.min_eq_left hQb.1]
          have HSEE := Lib.hid (And.intro hsee hQl)
          have hQ20 := hQb.2
          clear cs hsee hQl hQ hQb
          go_wp2_with fail
          go_loopg [65] Q (fun m s86 wr => ∃ k : Nat, m + k = Q ∧ s86 = .int .i64 (k : Int) ∧ Upd [] wb wr)
          case atStart => exact ⟨0, rfl, rfl, Upd.refl _ _⟩
          case round =>
            obtain ⟨k, hk, rfl, hup⟩ := hrel
            have k0 : (0 : Int) ≤ (k : Int) := Int.natCast_nonneg _
            have hkQ : k ≤ Q := by omega
            have HK2 := Lib.hid (And.intro hk hup)
            by_cases hlt : k < Q
            · obtain ⟨x, hx⟩ : ∃ x, (lx.take Q)[k]? = some x := ⟨_, List.getElem?_eq_getElem (by rw [HSEE.out.2]; exact hlt)⟩
              obtain ⟨g, o, rfl, -, -, ex⟩ := KL.at (HSEE.out.1 wr (HK.out.2.2.trans hup)) hx
              obtain ⟨p, hp⟩ : ∃ p, (k + 1) % Q = p := ⟨_, rfl⟩
              have hpQ : p < Q := by rw [← hp]; exact Nat.mod_lt _ (by omega)
              have hpt : ((k : Int) + 1).tmod (Q : Int) = (p : Int) := by rw [← hp]; rfl
              have hpe : ((k : Int) + 1) % (Q : Int) = (p : Int) := by rw [← hp, Int.natCast_emod]; rfl
              obtain ⟨y, hy⟩ : ∃ x, (lx.take Q)[p]? = some x := ⟨_, List.getElem?_eq_getElem (by rw [HSEE.out.2]; exact hpQ)⟩
              obtain ⟨g3, o3, hA3, -, -, ey⟩ := KL.at (HSEE.out.1 wr (HK.out.2.2.trans hup)) hy
              injection hA3 with hA3
              injection hA3 with hA3 hA4
              subst hA3 hA4
              have hs1 := vStab (HK.out.2.1.upd0 hup) x
              have hs2 := fun w' (hu : Upd [] wr w') => vMeet ((HK.out.2.1.upd0 hup).upd0 hu) (min x y) (max x y)
              have hsl := stabL_len S x
              have hml := meetL_len S (min x y) (max x y)
              have hmy := HG.out.2
              rw [HG.out.1] at hs1
              simp only [HG.out.1] at hs2
              obtain ⟨L1, hL1⟩ : ∃ L, stabL S x = L := ⟨_, rfl⟩
              obtain ⟨L2, hL2⟩ : ∃ L, meetL S (min x y) (max x y) = L := ⟨_, rfl⟩
              rw [hL1] at hs1 hsl
              rw [hL2] at hml
              simp only [hL2] at hs2
              obtain ⟨n, hn⟩ : ∃ n, L1.length = n := ⟨_, rfl⟩
              obtain ⟨n2, hn2⟩ : ∃ n, L2.length = n := ⟨_, rfl⟩
              rw [hn] at hsl
              rw [hn2] at hml
              have HS1 := Lib.hid hs1
              have HS2 := Lib.hid hs2
              have HNN := Lib.hid (And.intro hn hn2)
              have b1 : (k : Int) < (Q : Int) := by omega
              have p0 : (0 : Int) ≤ (p : Int) := Int.natCast_nonneg _
              have p1 : (p : Int) < (Q : Int) := by omega
              have hnb : (n : Int) ≤ 1000 := by omega
              have hnb0 : (0 : Int) ≤ (n : Int) := Int.natCast_nonneg _
              have hnc : (n2 : Int) ≤ 1000 := by omega
              have hnc0 : (0 : Int) ≤ (n2 : Int) := Int.natCast_nonneg _
              clear hx hy hs1 hs2 hsl hml hmy hL1 hL2 hn hn2 hk hup hp hpQ
              go_wp2_with fail
              (with_reducible refine HS1.out.mono ?_)
              rintro e w5 ⟨z, ⟨A5, C5, rfl, r1, r2⟩, z1, z2⟩
              rw [HNN.out.1] at z1 z2 ⊢
              have e1 := (r2.cell (World.block_lt_of_cell? _ _ ex) (by simp)).trans ex
              have e2 := (r2.cell (World.block_lt_of_cell? _ _ ey) (by simp)).trans ey
              have k2 : decide (z < n) = false := decide_eq_false (by omega)
              have k3 : decide (2 * (G : Int) + 2 + (n : Int) < (z : Int)) = false := decide_eq_false (by omega)
              have HS3 := Lib.hid (HS2.out w5 r2)
              have HR := Lib.hid r2
              clear r1 r2 z1 z2 ex ey
              go_wp2_with fail
              (with_reducible refine HS3.out.mono ?_)
              rintro e w6 ⟨z6, ⟨A6, C6, rfl, r3, r4⟩, z1, z2⟩
              rw [HNN.out.2] at z1 z2 ⊢
              have k4 : decide (z6 < n2) = false := decide_eq_false (by omega)
              have k5 : decide (4 * (G : Int) + 8 + (n2 : Int) < (z6 : Int)) = false := decide_eq_false (by omega)
              have HU6 := Lib.hid (HR.out.trans r4)
              clear r3 r4 z1 z2
              go_wp2_with fail
              go_roundg (Q - (k + 1))
              case measure => have := HK2.out.1; omega
              case rel => exact ⟨k + 1, by have := HK2.out.1; omega, by go_num, HK2.out.2.trans HU6.out⟩
            · have HAW2 := Lib.hid (HAW.out wr)
              clear hk hup
              go_wp2_with fail
              (with_reducible refine HAW2.out.mono ?_)
              rintro e w5 ⟨rfl, u5⟩
              have HU5 := Lib.hid ((HK.out.2.2.trans HK2.out.2).trans u5)
              clear u5
              go_wp2_with fail
              go_ret
              exact ⟨rfl, HU5.out⟩
end Go.Proofs.Ytjpjlfcjkgmhdaa
