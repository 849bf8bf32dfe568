/- The document's cover: Long, Runs. -/
import Derived.Test.YtcpompbiohaomaaRefK
import Derived.Test.YtcpompbiohaomaaRefB
import Derived.Test.YtcpompbiohaomaaNew
namespace Go.Proofs.Ytcpompbiohaomaa
open Go.RowKit

theorem longG_bd {M : List Int} (hM : M.Pairwise (· < ·)) : ∀ (G : List Bool) (f : Nat), f + G.length < M.length → 0 ≤ longG (mf M) f G ∧ longG (mf M) f G ≤ mf M (f + G.length) - mf M f
  | [], f, _ => by simp [longG]
  | b :: G, f, h => by
    simp only [List.length_cons] at h ⊢
    have ih := longG_bd hM G (f + 1) (by omega)
    have h1 := rise_step hM (i := f) (by omega)
    rw [show f + 1 + G.length = f + (G.length + 1) by omega] at ih
    simp only [longG]
    split <;> omega

theorem longG_take {M : Nat → Int} {G : List Bool} {i : Nat} {b : Bool} (h : G[i]? = some b) : longG M 0 (G.take (i + 1)) = longG M 0 (G.take i) + (if b then M (i + 1) - M i else 0) := by
  have hl := (List.getElem?_eq_some_iff.1 h).1
  rw [List.take_add_one, h, longG_app]
  have e : 0 + (G.take i).length = i := by rw [List.length_take, Nat.min_eq_left (by omega)]; omega
  rw [e]
  simp [longG]

theorem runsG_take {G : List Bool} {i : Nat} {b : Bool} (h : G[i]? = some b) : runsG false (G.take (i + 1)) = runsG false (G.take i) + (if b && !((G.take i).getLastD false) then 1 else 0) := by
  rw [List.take_add_one, h, runsG_app]
  simp [runsG]

theorem last_take {G : List Bool} {j : Nat} {b : Bool} (h : G[j]? = some b) : (G.take (j + 1)).getLastD false = b := by
  rw [List.take_add_one, h]
  simp

set_option maxRecDepth 100000 in
set_option maxHeartbeats 8000000 in
theorem rlongC (r : Nat) (mv hv : Value) (M : List Int) (H : List (Nat × Nat)) (w : World) (h : RcAt w r mv hv M H) (hM : M.Pairwise (· < ·)) (hb : ∀ x ∈ M, -9223372036854775808 ≤ x ∧ x ≤ 9223372036854775807) (hl : M.length < 1000) (hH : H.length < 100000) :
    Calls Try.prog 15 #[.pointer (some ⟨r, 0, none⟩)] w fun e w' => e = .returned (.int .u64 (wholeG M H).long) ∧ Upd [] w w' := by
  have hg := rgapsC r mv hv M H w h hl hH
  obtain ⟨Am, Cm, rfl⟩ := h.marks.form
  obtain ⟨N, hN⟩ : ∃ N, M.length = N := ⟨_, rfl⟩
  obtain ⟨G, hG⟩ : ∃ G, gapsH M H = G := ⟨_, rfl⟩
  obtain ⟨n, hn⟩ : ∃ n, G.length = n := ⟨_, rfl⟩
  have hnN : n = N - 1 := by rw [← hn, ← hG, ← hN]; simp [gapsH]
  have hlong : (wholeG M H).long = longG (mf M) 0 G := by unfold wholeG partG; rw [hG]
  rw [hlong]
  rw [hG] at hg
  unfold GapsPost at hg
  rw [hn] at hg
  have HH := Lib.hid h
  have HG := Lib.hid hg
  have HN := Lib.hid (And.intro hN (And.intro hn (And.intro hnN (And.intro hM hb))))
  have n1 : (n : Int) < 1000 := by omega
  have N1 : (N : Int) < 1000 := by omega
  clear h hg hl hH hN hn hG hnN hlong hM hb
  go_enter Try.func15, Try.ntmps15
  go_wp2_with fail
  (with_reducible refine HG.out.mono ?_)
  rintro e w1 ⟨A, C, rfl, hrow, hu1⟩
  have hs : See KB w1 (.slice A n C) G := by have := See.of_row hrow; exact this
  have HS := Lib.hid (And.intro hs hu1)
  clear hs hrow hu1
  go_wp2_with fail
  go_loopg [4, 5] n (fun m s4 s5 wr => ∃ i, m + i = n ∧ s5 = .int .i64 (i : Int) ∧ s4 = .int .u64 (longG (mf M) 0 (G.take i)) ∧ Upd [] w1 wr)
  case atStart => exact ⟨0, rfl, rfl, rfl, Upd.refl _ _⟩
  case round =>
    obtain ⟨i, hi, rfl, rfl, hu⟩ := hrel
    have HI := Lib.hid hi
    have HU := Lib.hid hu
    have b0 : (0 : Int) ≤ (i : Int) := Int.natCast_nonneg _
    by_cases hlt : i < n
    · have i1 : (i : Int) < (n : Int) := by omega
      obtain ⟨b, hb⟩ : ∃ b, G[i]? = some b := ⟨_, List.getElem?_eq_getElem (by rw [HN.out.2.1]; exact hlt)⟩
      obtain ⟨g, o, hA, -, -, x0⟩ := KB.at (HS.out.1.upd0 hu) hb
      subst hA
      have hst := longG_take (M := mf M) hb
      obtain ⟨L0, hL0⟩ : ∃ L, longG (mf M) 0 (G.take i) = L := ⟨_, rfl⟩
      have hbd1 := longG_bd HN.out.2.2.2.1 (G.take i) 0 (by rw [List.length_take, Nat.min_eq_left (by rw [HN.out.2.1]; omega), HN.out.1]; have := HN.out.2.2.1; omega)
      have hbd2 := longG_bd HN.out.2.2.2.1 (G.take (i + 1)) 0 (by rw [List.length_take, Nat.min_eq_left (by rw [HN.out.2.1]; omega), HN.out.1]; have := HN.out.2.2.1; omega)
      have lt1 : ((G.take (i + 1)).length : Nat) = i + 1 := by rw [List.length_take, Nat.min_eq_left (by rw [HN.out.2.1]; omega)]
      have hiN : i + 1 < N := by have := HN.out.2.2.1; omega
      have m0 := mf_get (M := M) (i := i) (by rw [HN.out.1]; omega)
      have m1 := mf_get (M := M) (i := i + 1) (by rw [HN.out.1]; omega)
      have hrs := rise_step HN.out.2.2.2.1 (i := i) (by rw [HN.out.1]; omega)
      have hin := HN.out.2.2.2.2
      have z0 := hin _ (List.mem_of_getElem? m0)
      have z1 := hin _ (List.mem_of_getElem? m1)
      have zf := hin _ (List.mem_of_getElem? (mf_get (M := M) (i := 0) (by rw [HN.out.1]; omega)))
      rw [lt1, Nat.zero_add] at hbd2
      rw [hL0] at hst hbd1 ⊢
      rw [hst] at hbd2
      have HST := Lib.hid hst
      cases b
      · simp at hst
        have HE := Lib.hid hst
        clear hb hu hi hst hbd1 hbd2 lt1 hiN m0 m1 hrs hin z0 z1 zf hL0
        go_wp2_with fail
        go_roundg (n - (i + 1))
        case measure => have := HI.out; omega
        case rel => exact ⟨i + 1, by have := HI.out; omega, by go_num, by rw [HE.out], HU.out⟩
      · obtain ⟨p, hp⟩ : ∃ p, mf M i = p := ⟨_, rfl⟩
        obtain ⟨q, hq⟩ : ∃ p, mf M (i + 1) = p := ⟨_, rfl⟩
        rw [hp] at m0 hrs z0 hbd2 hst
        rw [hq] at m1 hrs z1 hbd2 hst
        simp only [if_true] at hbd2 hst
        have hdf := fun w => rdiffC p q z0.1 (by omega) z1.2 w
        have y1 : IntKind.u64.wrap (L0 + (q - p)) = L0 + (q - p) := IntWalk.u64_in _ (by omega)
        have y2 : IntKind.i64.wrap ((i : Int) + 1) = (i : Int) + 1 := IntWalk.i64_in _ (by omega)
        obtain ⟨gm, om, hA, -, -, c0⟩ := KL.at HH.out.marks m0
        obtain ⟨gm', om', hA', -, -, c1⟩ := KL.at HH.out.marks m1
        subst hA
        cases hA'
        have HC := Lib.hid (And.intro HH.out.cells.1 (And.intro c0 c1))
        have HDF := Lib.hid hdf
        have HE := Lib.hid hst
        have iN : (i : Int) + 1 < (N : Int) := by omega
        have iN' : i + 1 < N := hiN
        have iN2 : i < N := by omega
        have hNN := HN.out.1
        have z1' : ∀ x : QW wr, x.w.cell? ⟨r, 0, none⟩ = some (.slice (some ⟨gm, om, none⟩) N Cm) := fun x => by
          have := (((HS.out.2.trans hu).trans x.up).cell (p := ⟨r, 0, none⟩) (World.block_lt_of_cell? _ _ HC.out.1) (by simp)).trans HC.out.1
          rw [hNN] at this; exact this
        have z2' : ∀ x : QW wr, x.w.cell? ⟨gm, om + i, none⟩ = some (.int .i64 p) := fun x => (((HS.out.2.trans hu).trans x.up).cell (p := ⟨gm, om + i, none⟩) (World.block_lt_of_cell? _ _ c0) (by simp)).trans c0
        have z3' : ∀ x : QW wr, x.w.cell? ⟨gm, om + (i + 1), none⟩ = some (.int .i64 q) := fun x => (((HS.out.2.trans hu).trans x.up).cell (p := ⟨gm, om + (i + 1), none⟩) (World.block_lt_of_cell? _ _ c1) (by simp)).trans c1
        clear hb hu hi hst hbd1 hbd2 lt1 hiN m0 m1 hrs hin z0 z1 zf hL0 hp hq hdf c0 c1 hNN
        go_upto_region 7 with fail
        refine wp_region_quietU (by kernel_rfl) (by kernel_rfl) ?_
        repeat (go_big_quiet_step (first | (with_reducible exact Calls.quietU (HDF.out _))))
        refine wpQuiet_nil ?_
        intro wq hw'
        obtain ⟨⟨wy, hwq⟩, hw''⟩ := hw'
        dsimp only at hw''
        subst hw''
        go_wp2_with fail
        go_roundg (n - (i + 1))
        case measure => have := HI.out; omega
        case rel => exact ⟨i + 1, by have := HI.out; omega, by go_num, by rw [HE.out], HU.out.trans hwq⟩
    · have hd : decide ((i : Int) < (n : Int)) = false := decide_eq_false (by omega)
      have hie : G.take i = G := List.take_of_length_le (by rw [HN.out.2.1]; omega)
      rw [hie]
      have HU2 := Lib.hid (HS.out.2.trans hu)
      clear hi hie hu
      go_wp2_with fail
      go_ret
      exact ⟨rfl, HU2.out⟩

set_option maxRecDepth 100000 in
set_option maxHeartbeats 8000000 in
theorem rrunsC (r : Nat) (mv hv : Value) (M : List Int) (H : List (Nat × Nat)) (w : World) (h : RcAt w r mv hv M H) (hl : M.length < 1000) (hH : H.length < 100000) :
    Calls Try.prog 17 #[.pointer (some ⟨r, 0, none⟩)] w fun e w' => e = .returned (.int .i64 (wholeG M H).runs) ∧ Upd [] w w' := by
  have hg := rgapsC r mv hv M H w h hl hH
  obtain ⟨G, hG⟩ : ∃ G, gapsH M H = G := ⟨_, rfl⟩
  obtain ⟨n, hn⟩ : ∃ n, G.length = n := ⟨_, rfl⟩
  have hnN : n = M.length - 1 := by rw [← hn, ← hG]; simp [gapsH]
  have hruns : (wholeG M H).runs = (runsG false G : Int) := by unfold wholeG partG; rw [hG]
  rw [hruns]
  rw [hG] at hg
  unfold GapsPost at hg
  rw [hn] at hg
  have HG := Lib.hid hg
  have HN := Lib.hid hn
  have n1 : (n : Int) < 1000 := by omega
  clear h hg hl hH hn hG hnN hruns
  go_enter Try.func17, Try.ntmps17
  go_wp2_with fail
  (with_reducible refine HG.out.mono ?_)
  rintro e w1 ⟨A, C, rfl, hrow, hu1⟩
  have hs : See KB w1 (.slice A n C) G := by have := See.of_row hrow; exact this
  have HS := Lib.hid (And.intro hs hu1)
  clear hs hrow hu1
  go_wp2_with fail
  go_loopg [4, 5] n (fun m s4 s5 wr => ∃ (i k : Nat), m + i = n ∧ s5 = .int .i64 (i : Int) ∧ s4 = .int .i64 (k : Int) ∧ k = runsG false (G.take i) ∧ k ≤ i ∧ wr = w1)
  case atStart => exact ⟨0, 0, rfl, rfl, rfl, rfl, Nat.le_refl _, rfl⟩
  case round =>
    obtain ⟨i, k, hi, rfl, rfl, hk, hki, rfl⟩ := hrel
    have HI := Lib.hid hi
    have HK := Lib.hid (And.intro hk hki)
    have b0 : (0 : Int) ≤ (i : Int) := Int.natCast_nonneg _
    have k0 : (0 : Int) ≤ (k : Int) := Int.natCast_nonneg _
    by_cases hlt : i < n
    · have i1 : (i : Int) < (n : Int) := by omega
      have k1 : (k : Int) < 1000 := by omega
      obtain ⟨b, hb⟩ : ∃ b, G[i]? = some b := ⟨_, List.getElem?_eq_getElem (by rw [HN.out]; exact hlt)⟩
      obtain ⟨g, o, hA, -, -, x0⟩ := KB.at HS.out.1 hb
      subst hA
      have hst := runsG_take hb
      rw [← hk] at hst
      cases b
      · simp at hst
        have HE := Lib.hid hst
        clear hb hi hst hk hki
        go_wp2_with fail
        go_roundg (n - (i + 1))
        case measure => have := HI.out; omega
        case rel => exact ⟨i + 1, k, by have := HI.out; omega, by go_num, rfl, by rw [HE.out], by have := HK.out.2; omega, rfl⟩
      · rcases i with _ | j
        · simp at hst
          have HE := Lib.hid hst
          rw [Nat.add_zero] at x0
          clear hb hi hst hk hki
          go_wp2_with fail
          go_roundg (n - (0 + 1))
          case measure => have := HI.out; omega
          case rel => exact ⟨0 + 1, k + 1, by have := HI.out; omega, by go_num, by go_num, by rw [HE.out], by have := HK.out.2; omega, rfl⟩
        · obtain ⟨b', hb'⟩ : ∃ b, G[j]? = some b := ⟨_, List.getElem?_eq_getElem (by rw [HN.out]; omega)⟩
          obtain ⟨g', o', hA', -, -, x1⟩ := KB.at HS.out.1 hb'
          cases hA'
          rw [last_take hb'] at hst
          have dj : (((j + 1 : Nat) : Int) == 0) = false := by rw [beq_eq_false_iff_ne]; omega
          have j0 : (0 : Int) ≤ (j : Int) := Int.natCast_nonneg _
          have jn : j < n := by omega
          have jn1 : (j : Int) < (n : Int) := by omega
          have HLT := Lib.hid hlt
          cases b'
          · simp at hst
            have HE := Lib.hid hst
            clear hb hi hst hk hki hb'
            go_wp2_with fail
            go_roundg (n - (j + 1 + 1))
            case measure => have := HI.out; have := HLT.out; omega
            case rel => exact ⟨j + 1 + 1, k + 1, by have := HI.out; have := HLT.out; omega, by go_num, by go_num, by rw [HE.out], by have := HK.out.2; omega, rfl⟩
          · simp at hst
            have HE := Lib.hid hst
            clear hb hi hst hk hki hb'
            go_wp2_with fail
            go_roundg (n - (j + 1 + 1))
            case measure => have := HI.out; have := HLT.out; omega
            case rel => exact ⟨j + 1 + 1, k, by have := HI.out; have := HLT.out; omega, by go_num, rfl, by rw [HE.out], by have := HK.out.2; omega, rfl⟩
    · have hd : decide ((i : Int) < (n : Int)) = false := decide_eq_false (by omega)
      have hie : G.take i = G := List.take_of_length_le (by rw [HN.out]; omega)
      rw [hie] at hk
      have HKK := Lib.hid hk
      clear hi hie hk hki
      go_wp2_with fail
      go_ret
      exact ⟨by rw [← HKK.out]; rfl, HS.out.2⟩
end Go.Proofs.Ytcpompbiohaomaa
