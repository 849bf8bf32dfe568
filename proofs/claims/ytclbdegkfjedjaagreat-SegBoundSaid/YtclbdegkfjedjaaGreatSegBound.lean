/- gridironlaw08.SegBound: the walk. -/
import Derived.Test.YtclbdegkfjedjaaGreatSegV
import Derived.Test.YtclbdegkfjedjaaGreatLogC
namespace Go.Proofs.YtclbdegkfjedjaaGreat
open Go.RowKit
attribute [local go_sem ↓] Go.wp_at_zero Go.wp_at_succ

/-- Bytes. -/
def KYb : Kind Nat := { T := 0, sT := 48, eT := 5, sz := 1, enc := fun x => [.int .u8 (x : Int)], len := fun _ => rfl, one := fun x u hu => by simp at hu; subst hu; rfl }

theorem KYb_all (cs : List Nat) : KYb.all cs = cs.map fun (x : Nat) => (.int .u8 (x : Int) : Value) := by
  induction cs with
  | nil => rfl
  | cons x cs ih => rw [List.map_cons, ← ih]; rfl

theorem KYb.at {w : World} {A : Option Addr} {n C : Nat} {l : List Nat} (h : See KYb w (.slice A n C) l) {k : Nat} {x : Nat} (hx : l[k]? = some x) :
    ∃ b o, A = some ⟨b, o, none⟩ ∧ n ≤ C ∧ C ≤ maxLen ∧ w.cell? ⟨b, o + k, none⟩ = some (.int .u8 (x : Int)) := by
  obtain ⟨b, o, h1, h2, h3, h4⟩ := h.at hx
  have := h4 0 _ rfl
  exact ⟨b, o, h1, h2, h3, by simpa [KYb] using this⟩

theorem infoByteS : (Tryz.prog.info? 5).map (fun i => (i.zero, i.size, i.bytes)) = some (some (.int .u8 0), 1, 1) := by kernel_rfl

theorem bytes_of_arg {w : World} {a : Option Addr} {len cap : Nat} {zs : List Int}
    (h : (a = none ∧ len = 0 ∧ cap = 0 ∧ zs = []) ∨ ∃ x, a = some x ∧ len ≤ cap ∧ cap ≤ maxLen ∧ zs.length = cap ∧ (∀ i, i < zs.length → w.cell? (x.add i) = some (.int .u8 (zs.getD i 0))) ∧ ∀ n ∈ zs, (Lit.int .u8 n).wf = true) :
    ∃ l : List Nat, See KYb w (.slice a len cap) l ∧ l.length = len ∧ len ≤ 9223372036854775807 ∧ ∀ n ∈ l, n < 256 := by
  rcases h with ⟨rfl, rfl, rfl, rfl⟩ | ⟨x, rfl, hl, hm, hz, hc, hw⟩
  · exact ⟨[], ⟨rfl, .inl ⟨rfl, rfl⟩⟩, rfl, by omega, by simp⟩
  · have hnat : ∀ n ∈ zs, 0 ≤ n ∧ n < 256 := fun n hn => by
      have := hw n hn
      simp [Lit.wf, IntKind.min, IntKind.max, IntKind.signed, IntKind.bits] at this
      omega
    have hlen : ((zs.take len).map Int.toNat).length = len := by rw [List.length_map, List.length_take]; omega
    have hsp : 0 < cap → x.spot = none := fun h0 => spot_none (hc 0 (by omega))
    refine ⟨(zs.take len).map Int.toNat, ?_, hlen, by unfold maxLen at hm; omega, ?_⟩
    · unfold See
      refine ⟨?_, .inr ⟨x.block, x.off, x.spot, cap, ?_, hsp, ?_, hm, ?_⟩⟩
      · rw [KYb_all, List.length_map]; exact (Nat.mul_one _).symm
      · rw [hlen]
      · rw [hlen]; exact hl
      · intro j u hu
        rw [KYb_all, List.getElem?_map, List.getElem?_map, List.getElem?_take] at hu
        split at hu
        · rename_i hj
          have hj' : j < zs.length := by omega
          have h1 := hc j hj'
          have h2 : x.add j = ⟨x.block, x.off + j, none⟩ := by
            have := hsp (by omega)
            obtain ⟨b, o, s⟩ := x
            simp only at this
            subst this
            exact addr_add _ _ _
          rw [h2] at h1
          rw [h1]
          simp only [List.getElem?_eq_getElem hj', Option.map_some, Option.some.injEq] at hu
          rw [← hu]
          have h3 := hnat zs[j] (List.getElem_mem hj')
          simp [List.getD, List.getElem?_eq_getElem hj']
          omega
        · cases hu
    · intro n hn
      obtain ⟨z, hz', rfl⟩ := List.mem_map.1 hn
      have := hnat z (List.mem_of_mem_take hz')
      omega

set_option maxRecDepth 100000 in
set_option maxHeartbeats 8000000 in
theorem segBound_walk (v v2 v3 : Value) (l : List Sp) (lx : List Int) (ld : List Nat) (w : World) (h : IsSps w v l) (hid : ∀ s ∈ l, s.in64) (hl : l.length ≤ maxLen) (h2 : See KL w v2 lx) (hl2 : lx.length ≤ maxLen) (h3 : See KYb w v3 ld) (hl3 : ld.length ≤ maxLen) (hd8 : ∀ d ∈ ld, d < 256) :
    Calls Tryz.prog 8 #[v, v2, v3] w fun e w' => e = .returned (.bool true) ∧ Upd [] w w' := by
  obtain ⟨A, C, rfl⟩ := h.form
  obtain ⟨A2, C2, rfl⟩ := h2.form
  obtain ⟨Ad, Cd, rfl⟩ := h3.form
  obtain ⟨i0, hi0, hz0, hz1, hz2⟩ := info_parts infoLongS
  obtain ⟨i8, hi8, hb0, hb1, hb2⟩ := info_parts infoByteS
  obtain ⟨N, hN⟩ : ∃ N, l.length = N := ⟨_, rfl⟩
  obtain ⟨M, hM⟩ : ∃ N, lx.length = N := ⟨_, rfl⟩
  obtain ⟨D, hD⟩ : ∃ N, ld.length = N := ⟨_, rfl⟩
  rw [hN] at h hl ⊢
  rw [hM] at h2 hl2 ⊢
  rw [hD] at h3 hl3 ⊢
  unfold maxLen at hl hl2 hl3
  have n0 : (0 : Int) ≤ (N : Int) := Int.natCast_nonneg _
  have m0 : (0 : Int) ≤ (M : Int) := Int.natCast_nonneg _
  have d0 : (0 : Int) ≤ (D : Int) := Int.natCast_nonneg _
  have hid2 : ∀ s ∈ l, s.id < 4294967296 := fun s hs => (hid s hs).2.2
  by_cases hbig : 200 < N
  · have hb : decide ((200 : Int) < (N : Int)) = true := decide_eq_true (by omega)
    have HAW := Lib.hid (awake08 w)
    clear h h2 h3 hid hid2 hbig
    go_enter Tryz.func8, Tryz.ntmps8
    go_wp2_with fail
    (with_reducible refine HAW.out.mono ?_)
    rintro e w1 ⟨rfl, u1⟩
    go_wp2_with fail
    go_ret
    exact ⟨rfl, u1⟩
  · have hb : decide ((200 : Int) < (N : Int)) = false := decide_eq_false (by omega)
    have hN200 : N ≤ 200 := by omega
    have hbd := segBuild _ l w (by rw [← hN] at h; exact h) hid2 (by omega)
    rw [hN] at hbd
    have HB := Lib.hid hbd
    have H := Lib.hid h
    have H2 := Lib.hid h2
    have H3 := Lib.hid h3
    have HN := Lib.hid (And.intro hN (And.intro hM (And.intro hD hd8)))
    have HAW := Lib.hid (fun w' => awake08 w')
    clear h h2 h3 hid hid2 hbig hN hM hD hbd hd8
    go_enter Tryz.func8, Tryz.ntmps8
    go_wp2_with fail
    (with_reducible refine HB.out.mono ?_)
    rintro e w1 ⟨u1, (⟨hr, rfl⟩ | ⟨hr, b, F, rfl, hs, hF⟩)⟩
    · have HAW1 := Lib.hid (HAW.out w1)
      have HU1 := Lib.hid u1
      clear hr u1
      go_wp2_with fail
      (with_reducible refine HAW1.out.mono ?_)
      rintro e w2 ⟨rfl, u2⟩
      have HU2 := Lib.hid (HU1.out.trans u2)
      clear u2
      go_wp2_with fail
      go_ret
      exact ⟨rfl, HU2.out⟩
    · have HS := Lib.hid (And.intro hs hF)
      have HU1 := Lib.hid u1
      clear hr u1 hs hF
      obtain ⟨P, hP⟩ : ∃ P : Nat, min D 100 = P := ⟨_, rfl⟩
      have hPm : Value.int .i64 (min (D : Int) 100) = Value.int .i64 (P : Int) := by
        have : min (D : Int) 100 = (P : Int) := by omega
        rw [this]
      have hPb : P ≤ D ∧ P ≤ 100 := by omega
      obtain ⟨A4, C4, cut4, cs4, -⟩ := cut_to (P := Tryz.prog) (t := 48) Tryz.underlying48 hi8 hb1 (show Sees w 1 (.slice Ad D Cd) D (KYb.all ld) by have h3 := H3.out; unfold See at h3; rw [HN.out.2.2.1] at h3; exact h3) P hPb.1
      have hsee4 : ∀ w', Upd [] w w' → See KYb w' (.slice A4 P C4) (ld.take P) := fun w' hu => by
        have h3 := cs4 w' (by have h3 := H3.out.upd0 hu; unfold See at h3; rw [HN.out.2.2.1] at h3; exact h3)
        unfold See
        rw [KYb.all_take, List.length_take, HN.out.2.2.1, Nat.min_eq_left hPb.1]
        exact h3
      have hPl : (ld.take P).length = P := by rw [List.length_take, HN.out.2.2.1, Nat.min_eq_left hPb.1]
      have hd4 : ∀ d ∈ ld.take P, d < 256 := fun d hd => HN.out.2.2.2 d (List.mem_of_mem_take hd)
      have HSEE4 := Lib.hid (And.intro hsee4 (And.intro hPl hd4))
      have hP100 := hPb.2
      clear cs4 hsee4 hPl hP hPb hd4
      go_wp2_with fail
      go_loopg [36] P (fun m s36 wr => ∃ (k : Nat) (S : List Sp), m + k = P ∧ s36 = .int .i64 (k : Int) ∧ IsSeg wr b F (endsS l) S ∧ Upd [] w wr)
      case atStart => exact ⟨0, l, rfl, rfl, HS.out.1, HU1.out⟩
      case round =>
        obtain ⟨k, S, hk, rfl, hsg, hup⟩ := hrel
        have k0 : (0 : Int) ≤ (k : Int) := Int.natCast_nonneg _
        have hkP : k ≤ P := by omega
        have HK := Lib.hid (And.intro hk (And.intro hsg hup))
        clear hk hsg hup
        by_cases hlt : k < P
        · obtain ⟨d, hd⟩ : ∃ d, (ld.take P)[k]? = some d := ⟨_, List.getElem?_eq_getElem (by rw [HSEE4.out.2.1]; exact hlt)⟩
          have hd256 := HSEE4.out.2.2 d (List.mem_of_getElem? hd)
          obtain ⟨g, o, rfl, -, -, ed⟩ := KYb.at (HSEE4.out.1 wr HK.out.2.2) hd
          have b1 : (k : Int) < (P : Int) := by omega
          have e0 : (0 : Int) ≤ (d : Int) := Int.natCast_nonneg _
          have e1 : (d : Int) < 256 := by omega
          clear hd hd256
          by_cases hN0 : 0 < N
          · have hg : decide (0 < N) = true := decide_eq_true hN0
            obtain ⟨p, hp⟩ : ∃ p, d % N = p := ⟨_, rfl⟩
            have hpN : p < N := by rw [← hp]; exact Nat.mod_lt d hN0
            have hpe : (d : Int) % (N : Int) = (p : Int) := by rw [← hp, Int.natCast_emod]
            have hpt : (d : Int).tmod (N : Int) = (p : Int) := by rw [← hp]; rfl
            obtain ⟨s, hs⟩ : ∃ s, l[p]? = some s := ⟨_, List.getElem?_eq_getElem (by rw [HN.out.1]; exact hpN)⟩
            have hse : See KSp wr (.slice A l.length C) l := by
              have := H.out.upd0 HK.out.2.2
              rw [HN.out.1]; exact this
            obtain ⟨g2, o2, rfl, -, -, ey⟩ := hse.at hs
            have y0 : wr.cell? ⟨g2, o2 + p * 3, none⟩ = some (.int .i64 s.lo) := ey 0 _ rfl
            have y1 : wr.cell? ⟨g2, o2 + p * 3 + 1, none⟩ = some (.int .i64 s.hi) := ey 1 _ rfl
            have y2 : wr.cell? ⟨g2, o2 + p * 3 + 2, none⟩ = some (.int .u32 (s.id : Int)) := ey 2 _ rfl
            have p0 : (0 : Int) ≤ (p : Int) := Int.natCast_nonneg _
            have p1 : (p : Int) < (N : Int) := by omega
            have hdr := isDrop HK.out.2.1 s
            unfold spV at hdr
            have HD := Lib.hid hdr
            clear hs hse ey hdr hp hpN
            go_wp2_with fail
            (with_reducible refine HD.out.mono ?_)
            rintro e w5 ⟨rfl, t5, u5⟩
            have HT5 := Lib.hid (And.intro t5 u5)
            clear t5 u5 y0 y1 y2
            go_wp2_with fail
            go_roundg (P - (k + 1))
            case measure => have := HK.out.1; omega
            case rel => exact ⟨k + 1, _, by have := HK.out.1; omega, by go_num, HT5.out.1, HK.out.2.2.trans' HT5.out.2 (fun y hy => .inr (HS.out.2 y hy))⟩
          · have hg : decide (0 < N) = false := decide_eq_false hN0
            go_wp2_with fail
            go_roundg (P - (k + 1))
            case measure => have := HK.out.1; omega
            case rel => exact ⟨k + 1, S, by have := HK.out.1; omega, by go_num, HK.out.2.1, HK.out.2.2⟩
        · have hEl := endsS_len l
          rw [HN.out.1] at hEl
          have hSl := HK.out.2.1.many
          have hwt := weightS_many HK.out.2.1.rise hEl HK.out.2.1.ok
          have htv := fun x => touchV_many HK.out.2.1.rise hEl x
          have hG : lg (4 * N + 4) ≤ 10 := bitsN_le _ 10 (by omega)
          have hlog := fun w' => logC (4 * N + 4) w' (by omega)
          obtain ⟨G, hGG⟩ : ∃ G, lg (4 * N + 4) = G := ⟨_, rfl⟩
          rw [show ((4 * N + 4 : Nat) : Int) = 4 * (N : Int) + 4 by omega] at hlog
          simp only [hGG] at hlog
          rw [hGG] at hG hwt
          simp only [hGG] at htv
          have hw1 := isWeight HK.out.2.1
          have hl1 := isLen HK.out.2.1
          obtain ⟨W, hW⟩ : ∃ W, weightS (endsS l) S = W := ⟨_, rfl⟩
          obtain ⟨L, hL⟩ : ∃ L, S.length = L := ⟨_, rfl⟩
          rw [hW] at hw1 hwt
          rw [hL] at hl1 hwt hSl
          have HLOG := Lib.hid hlog
          have HWL := Lib.hid (And.intro hw1 hl1)
          have HTV := Lib.hid (And.intro htv hL)
          obtain ⟨Pr, hPr⟩ : ∃ Pr, L * (2 * G) = Pr := ⟨_, rfl⟩
          rw [hPr] at hwt
          have hPi : (L : Int) * 2 * (G : Int) = (Pr : Int) := by rw [← hPr, Int.natCast_mul, Int.natCast_mul, Int.mul_assoc]; rfl
          have hPb : Pr ≤ 100000 := by
            rw [← hPr]
            have : L * (2 * G) ≤ 1000 * 20 := Nat.mul_le_mul hSl (by omega)
            omega
          have hPv : Value.int .i64 (wrap64 ((L : Int) * 2 * (G : Int))) = Value.int .i64 (Pr : Int) := by rw [hPi, IntWalk.wrap64_in _ ⟨by omega, by omega⟩]
          have q1 : decide (W < L) = false := decide_eq_false (by omega)
          have q2 : decide (Pr < W) = false := decide_eq_false (by omega)
          have g0 : (0 : Int) ≤ (G : Int) := Int.natCast_nonneg _
          have g1 : (G : Int) ≤ 10 := by omega
          have l0 : (0 : Int) ≤ (L : Int) := Int.natCast_nonneg _
          have l1 : (L : Int) ≤ 1000 := by omega
          have HG := Lib.hid hGG
          clear hEl hSl hwt htv hG hlog hw1 hl1 hW hL hPr hPi hGG
          go_wp2_with fail
          (with_reducible refine (HLOG.out _).mono ?_)
          rintro e w2 ⟨rfl, rfl⟩
          go_wp2_with fail
          (with_reducible refine HWL.out.1.mono ?_)
          rintro e w2 ⟨rfl, rfl⟩
          go_wp2_with fail
          (with_reducible refine HWL.out.2.mono ?_)
          rintro e w2 ⟨rfl, rfl⟩
          go_wp2_with fail
          (with_reducible refine HWL.out.1.mono ?_)
          rintro e w2 ⟨rfl, rfl⟩
          go_wp2_with fail
          (with_reducible refine HWL.out.2.mono ?_)
          rintro e w2 ⟨rfl, rfl⟩
          go_wp2_with fail
          (with_reducible refine (HLOG.out _).mono ?_)
          rintro e w2 ⟨rfl, rfl⟩
          obtain ⟨wb, hwb⟩ : ∃ wb : World, wb = wr := ⟨_, rfl⟩
          subst hwb
          obtain ⟨Q, hQ⟩ : ∃ Q : Nat, min M 20 = Q := ⟨_, rfl⟩
          have hQm : Value.int .i64 (min (M : Int) 20) = Value.int .i64 (Q : Int) := by
            have : min (M : Int) 20 = (Q : Int) := by omega
            rw [this]
          have hQb : Q ≤ M ∧ Q ≤ 20 := by omega
          obtain ⟨A4, C4, cut, cs, -⟩ := cut_to (P := Tryz.prog) (t := 23) Tryz.underlying23 hi0 hz1 (show Sees w 1 (.slice A2 M C2) M (KL.all lx) by have h3 := H2.out; unfold See at h3; rw [HN.out.2.1] at h3; exact h3) Q hQb.1
          have hsee : ∀ w', Upd [] w w' → See KL w' (.slice A4 Q C4) (lx.take Q) := fun w' hu => by
            have h3 := cs w' (by have h3 := H2.out.upd0 hu; unfold See at h3; rw [HN.out.2.1] at h3; exact h3)
            unfold See
            rw [KL.all_take, List.length_take, HN.out.2.1, Nat.min_eq_left hQb.1]
            exact h3
          have hQl : (lx.take Q).length = Q := by rw [List.length_take, HN.out.2.1, Nat.min_eq_left hQb.1]
          have HSEE := Lib.hid (And.intro hsee hQl)
          have hQ20 := hQb.2
          clear cs hsee hQl hQ hQb
          go_wp2_with fail
          simp only [hPv]
          clear hPv
          go_loopg [86] Q (fun m s86 wr => ∃ k : Nat, m + k = Q ∧ s86 = .int .i64 (k : Int) ∧ Upd [] wb wr)
          case atStart => exact ⟨0, rfl, rfl, Upd.refl _ _⟩
          case round =>
            obtain ⟨k, hk, rfl, hup⟩ := hrel
            have k0 : (0 : Int) ≤ (k : Int) := Int.natCast_nonneg _
            have hkQ : k ≤ Q := by omega
            have HK2 := Lib.hid (And.intro hk hup)
            by_cases hlt : k < Q
            · obtain ⟨x, hx⟩ : ∃ x, (lx.take Q)[k]? = some x := ⟨_, List.getElem?_eq_getElem (by rw [HSEE.out.2]; exact hlt)⟩
              obtain ⟨g, o, rfl, -, -, ex⟩ := KL.at (HSEE.out.1 wr (HK.out.2.2.trans hup)) hx
              have hs1 := isStab (HK.out.2.1.upd0 hup) x
              have hs2 := fun w' (hu : Upd [] wr w') => isCount ((HK.out.2.1.upd0 hup).upd0 hu) x
              have hsl := stabL_len S x
              have hmy := HK.out.2.1.many
              have htx := HTV.out.1 x
              obtain ⟨n, hn⟩ : ∃ n, (stabL S x).length = n := ⟨_, rfl⟩
              obtain ⟨T, hT⟩ : ∃ T, touchV (endsS l) x = T := ⟨_, rfl⟩
              obtain ⟨z, hz⟩ : ∃ z, T + n = z := ⟨_, rfl⟩
              rw [hT, hn, hz] at hs1
              rw [hT] at htx
              rw [hn] at hsl
              simp only [hn, hT] at hs2
              unfold StabPost at hs1
              rw [hn] at hs1
              have HS1 := Lib.hid hs1
              have HS2 := Lib.hid hs2
              have b1 : (k : Int) < (Q : Int) := by omega
              have k1 : ((n : Int) != (n : Int)) = false := by simp
              have k2 : decide (z < n) = false := decide_eq_false (by omega)
              have k3 : decide (2 * (G : Int) + 2 + (n : Int) < (z : Int)) = false := decide_eq_false (by omega)
              have k4 : decide ((T : Int) < 0) = false := decide_eq_false (by omega)
              have k5 : decide (2 * (G : Int) + 2 < (T : Int)) = false := decide_eq_false (by omega)
              have hnb : (n : Int) ≤ 1000 := by omega
              have hnb0 : (0 : Int) ≤ (n : Int) := Int.natCast_nonneg _
              clear hx hs1 hs2 hsl hmy htx hn hT hz hk hup
              go_wp2_with fail
              (with_reducible refine HS1.out.mono ?_)
              rintro e w5 ⟨A5, C5, rfl, r1, r2⟩
              have HS3 := Lib.hid (HS2.out w5 r2)
              have HR := Lib.hid r2
              clear r1 r2
              go_wp2_with fail
              (with_reducible refine HS3.out.mono ?_)
              rintro e w6 ⟨rfl, u6⟩
              have HU6 := Lib.hid (HR.out.trans u6)
              clear u6
              go_wp2_with fail
              go_roundg (Q - (k + 1))
              case measure => have := HK2.out.1; omega
              case rel => exact ⟨k + 1, by have := HK2.out.1; omega, by go_num, HK2.out.2.trans HU6.out⟩
            · have HAW2 := Lib.hid (HAW.out wr)
              clear hk hup
              go_wp2_with fail
              (with_reducible refine HAW2.out.mono ?_)
              rintro e w5 ⟨rfl, u5⟩
              have HU5 := Lib.hid ((HK.out.2.2.trans HK2.out.2).trans u5)
              clear u5
              go_wp2_with fail
              go_ret
              exact ⟨rfl, HU5.out⟩
end Go.Proofs.YtclbdegkfjedjaaGreat
