/- CellsBlocks: the walk. -/
import Derived.Test.YthkiljfjjnckaaaAw19
import Derived.Test.YthkiljfjjnckaaaMapI
import Derived.Test.YthkiljfjjnckaaaAbove
namespace Go.Proofs.Ythkiljfjjnckaaa
open Go.RowKit

theorem below_mem {M : List Int} (h : M.Pairwise (· < ·)) {x : Int} (hx : x ∈ M) : M[below M x]? = some x := by
  obtain ⟨i, hi⟩ := List.mem_iff_getElem?.1 hx
  have hat := below_at (h.imp Int.le_of_lt) x
  have h2 := hat i x hi
  have h3 : ¬ i < below M x := fun hc => by have := h2.2 hc; omega
  rcases Nat.lt_or_ge (below M x) i with h4 | h4
  · have hil := (List.getElem?_eq_some_iff.1 hi).1
    have hb : M[below M x]? = some (M[below M x]'(by omega)) := List.getElem?_eq_getElem _
    have h5 := hat (below M x) _ hb
    have h6 := List.pairwise_iff_getElem.1 h (below M x) i (by omega) hil h4
    have h7 := (List.getElem?_eq_some_iff.1 hi).2
    rw [h7] at h6
    have := h5.1 h6
    omega
  · have e : below M x = i := by omega
    rw [e]; exact hi

theorem mput_len (m : List (Int × Int)) (x v : Int) : (mput m x v).length ≤ m.length + 1 := by
  unfold mput
  rw [List.length_cons]
  have := List.length_filter_le (fun p => p.1 != x) m
  omega

theorem mput_key (m : List (Int × Int)) (x v y : Int) : y ∈ (mput m x v).map (·.1) ↔ y = x ∨ y ∈ m.map (·.1) := by
  unfold mput
  simp only [List.map_cons, List.mem_cons, List.mem_map, List.mem_filter]
  constructor
  · rintro (h | ⟨p, ⟨h1, h2⟩, rfl⟩)
    · exact .inl h
    · exact .inr ⟨p, h1, rfl⟩
  · rintro (h | ⟨p, h1, rfl⟩)
    · exact .inl h
    · by_cases hx : p.1 = x
      · exact .inl hx
      · exact .inr ⟨p, ⟨h1, by simpa using hx⟩, rfl⟩

theorem keys_len {m : List (Int × Int)} (hn : (m.map (·.1)).Nodup) {L : List Int} (hL : L.Pairwise (· < ·)) (h : ∀ x, x ∈ m.map (·.1) ↔ x ∈ L) : m.length = L.length := by
  have hL' : L.Nodup := hL.imp (fun h e => by omega)
  have := (List.perm_ext_iff_of_nodup hn hL').2 h
  have := this.length_eq
  simpa using this

theorem keep2F {F : List Nat} {w w' : World} {q : Nat} {v0 v1 : Value} (h : w.cell? ⟨q, 0, none⟩ = some v0 ∧ w.cell? ⟨q, 1, none⟩ = some v1) (hu : Upd F w w') (hq : q ∉ F) : w'.cell? ⟨q, 0, none⟩ = some v0 ∧ w'.cell? ⟨q, 1, none⟩ = some v1 := by
  have hl := World.block_lt_of_cell? w _ h.1
  have e : ∀ j, w'.cell? ⟨q, j, none⟩ = w.cell? ⟨q, j, none⟩ := fun j => hu.cell (p := ⟨q, j, none⟩) hl hq
  rw [e, e]
  exact h

/-- A block at its corners. -/
theorem cov_corner {l : List Bx} {i k : Nat} (hi : i + 1 < (sqz (linX l)).length) (hk : k + 1 < (sqz (linY l)).length) :
    covB l (nth (sqz (linX l)) (i + 1) - 1) (nth (sqz (linY l)) (k + 1) - 1) = covB l (nth (sqz (linX l)) i) (nth (sqz (linY l)) k) ∧ covB l (nth (sqz (linX l)) i) (nth (sqz (linY l)) (k + 1) - 1) = covB l (nth (sqz (linX l)) i) (nth (sqz (linY l)) k) := by
  have hX := sqz_rise (linX l)
  have hY := sqz_rise (linY l)
  have a1 := nth_get (l := sqz (linX l)) (i := i) (by omega)
  have a2 := nth_get (l := sqz (linX l)) (i := i + 1) hi
  have b1 := nth_get (l := sqz (linY l)) (i := k) (by omega)
  have b2 := nth_get (l := sqz (linY l)) (i := k + 1) hk
  have hx := rise_step hX a1 a2
  have hy := rise_step hY b1 b2
  have e1 := cov_x (l := l) hX (fun v hv => mem_sqz hv) a1 a2 (z := nth (sqz (linX l)) (i + 1) - 1) (y := nth (sqz (linY l)) (k + 1) - 1) (by omega) (by omega)
  have e2 := cov_y (l := l) hY (fun v hv => mem_sqz hv) b1 b2 (z := nth (sqz (linY l)) (k + 1) - 1) (x := nth (sqz (linX l)) i) (by omega) (by omega)
  exact ⟨e1.trans e2, e2⟩

theorem lin_mem (l : List Bx) {k : Nat} {b : Bx} (hb : l[k]? = some b) (x : Int) : x ∈ linX (l.take (k + 1)) ↔ x ∈ linX (l.take k) ∨ (b.counts = true ∧ (x = b.x1 ∨ x = b.x2)) := by
  rw [(lin_take l hb).1]
  by_cases h : b.counts = true <;> simp [h]

set_option maxRecDepth 100000 in
set_option maxHeartbeats 8000000 in
theorem cellsBlocks_walk (v : Value) (l : List Bx) (w : World) (hs : See KBx w v l) (hin : ∀ b ∈ l, b.in64) :
    Calls Try.prog 9 #[v] w fun e w' => e = .returned (.bool true) ∧ Below w.heap.size w w' := by
  obtain ⟨A, C, rfl⟩ := hs.form
  by_cases h15 : 15 < l.length
  · have h15' : (15 : Int) < (l.length : Int) := by omega
    clear hs hin
    go_enter Try.func9, Try.ntmps9
    go_wp2_with fail
    (with_reducible refine (awake19 _).mono ?_)
    rintro e w6 ⟨rfl, hu6⟩
    have HU6 := Lib.hid hu6
    clear hu6
    go_wp2_with fail
    go_ret
    exact ⟨rfl, HU6.out.below⟩
  · have h15' : (l.length : Int) ≤ 15 := by omega
    have hnl : ¬ (15 : Int) < (l.length : Int) := by omega
    have hbk := blocksC (.slice A l.length C) l w hs (by omega)
    have hXr := sqz_rise (linX l)
    have hXl : (sqz (linX l)).length ≤ 30 := Nat.le_trans (sqz_len _) (by have := linX_len l; omega)
    have hYl : (sqz (linY l)).length ≤ 30 := Nat.le_trans (sqz_len _) (by have := linY_len l; omega)
    have htw := two_lines (l := l)
    have hmx : ∀ x, x ∈ sqz (linX l) ↔ x ∈ linX l := fun x => ⟨sqz_mem, mem_sqz⟩
    have hcor := fun i k (hi : i + 1 < (sqz (linX l)).length) (hk : k + 1 < (sqz (linY l)).length) => cov_corner (l := l) hi hk
    have hx64 := fun i => nth_in (l := sqz (linX l)) (fun x hx => linX_in hin x (sqz_mem hx)) i
    have hy64 := fun i => nth_in (l := sqz (linY l)) (fun x hx => linY_in hin x (sqz_mem hx)) i
    have hXs := fun i a b h1 h2 => rise_step (i := i) (a := a) (b := b) (sqz_rise (linX l)) h1 h2
    have hYs := fun i a b h1 h2 => rise_step (i := i) (a := a) (b := b) (sqz_rise (linY l)) h1 h2
    obtain ⟨X, hX⟩ : ∃ X, sqz (linX l) = X := ⟨_, rfl⟩
    obtain ⟨Y, hY⟩ : ∃ Y, sqz (linY l) = Y := ⟨_, rfl⟩
    simp only [hX, hY] at hbk hXr hXl hYl htw hmx hcor hx64 hy64 hXs hYs
    have HBK := Lib.hid hbk
    have HR := Lib.hid (And.intro hXr (And.intro hXl hYl))
    have HTW := Lib.hid htw
    have HMX := Lib.hid hmx
    have HCOR := Lib.hid hcor
    have H64 := Lib.hid (And.intro hx64 hy64)
    have HST := Lib.hid (And.intro hXs hYs)
    have HS := Lib.hid hs
    have HIN := Lib.hid hin
    clear hbk hXr hXl hYl htw hmx hcor hx64 hy64 hXs hYs hX hY hs hin h15
    go_enter Try.func9, Try.ntmps9
    go_wp2_with fail
    (with_reducible refine HBK.out.mono ?_)
    rintro e w2 ⟨A1, C1, A2, C2, A3, C3, rfl, sx, sy, sr, hu2⟩
    obtain ⟨n, hn⟩ : ∃ n : Nat, X.length - 1 = n := ⟨_, rfl⟩
    obtain ⟨m, hm⟩ : ∃ m : Nat, Y.length - 1 = m := ⟨_, rfl⟩
    rw [hn] at sr ⊢
    have hmx : Value.int .i64 (max ((X.length : Int) - 1) 0) = Value.int .i64 (n : Int) := by congr 1; omega
    have hX0 : (0 : Int) ≤ (X.length : Int) := Int.natCast_nonneg _
    have hX1 : (X.length : Int) ≤ 30 := by have := HR.out.2.1; omega
    have HSX := Lib.hid (And.intro sx (And.intro sy sr))
    have HU2 := Lib.hid hu2
    have HN := Lib.hid (And.intro hn hm)
    have hnb : (n : Int) ≤ 30 := by omega
    clear sx sy sr hu2 hn hm
    go_wp2_with fail
    clear hmx
    go_loopg [36] n (fun j s36 wr => ∃ k, j + k = n ∧ s36 = .int .i64 (k : Int) ∧ Upd [] w2 wr)
    case atStart => exact ⟨0, by omega, rfl, Upd.refl _ _⟩
    case round =>
      obtain ⟨k, hk, rfl, hu⟩ := hrel
      have b0 : (0 : Int) ≤ (k : Int) := Int.natCast_nonneg _
      by_cases hlt : k < n
      · have b1 : (k : Int) < (n : Int) := by omega
        have b2 : (k : Int) < 2000000 := by omega
        obtain ⟨wo, rfl⟩ : ∃ wo : World, wo = wr := ⟨_, rfl⟩
        have hy2 : 2 ≤ Y.length := HTW.out (by intro e; have := HN.out.1; rw [e] at this; simp at this; omega)
        obtain ⟨gr, gro, Ak, Ck, hA3, crow1, hrow⟩ := (HSX.out.2.2).at (colsB_get (l := l) (X := X) (Y := Y) (i := k) (by have := HN.out.1; omega))
        subst hA3
        have crow := (hu.cell (p := ⟨gr, gro + k, none⟩) (World.block_lt_of_cell? w2 _ crow1) (by simp)).trans crow1
        clear crow1
        have hrl : (colB l X Y k).length = m := by unfold colB; rw [rowL_len, HN.out.2]
        rw [hrl] at crow hrow
        have hmb : (m : Int) ≤ 30 := by have := HN.out.2; have := HR.out.2.2; omega
        have hYm : Value.int .i64 ((Y.length : Int) - 1) = Value.int .i64 (m : Int) := by have := HN.out.2; congr 1; omega
        have hY0 : (0 : Int) ≤ (Y.length : Int) := Int.natCast_nonneg _
        have hY1 : (Y.length : Int) ≤ 30 := by have := HR.out.2.2; omega
        have HROW := Lib.hid hrow
        have HUo := Lib.hid hu
        have HK := Lib.hid hk
        have HLT := Lib.hid hlt
        have HY2 := Lib.hid hy2
        clear hrow hu hk hlt hrl hy2
        go_wp2_with fail
        clear crow hYm
        go_loopg [49] m (fun j s49 wr => ∃ t, j + t = m ∧ s49 = .int .i64 (t : Int) ∧ Upd [] w2 wr)
        case atStart => exact ⟨0, by omega, rfl, HUo.out⟩
        case round =>
          obtain ⟨t, ht, rfl, hu⟩ := hrel
          have t0 : (0 : Int) ≤ (t : Int) := Int.natCast_nonneg _
          by_cases hlt2 : t < m
          · have t1 : (t : Int) < (m : Int) := by omega
            have t2 : (t : Int) < 2000000 := by omega
            have hkn : k + 1 < X.length := by have := HN.out.1; have := HLT.out; omega
            have htm : t + 1 < Y.length := by have := HN.out.2; omega
            obtain ⟨c, hc⟩ : ∃ c, covB l (nth X k) (nth Y t) = c := ⟨_, rfl⟩
            have hrow2 : See KB wr (.slice Ak m Ck) (colB l X Y k) := HROW.out.upd0 hu
            obtain ⟨gb, ob, hAk, cb⟩ := KBat hrow2 (k := t) (x := c) (by unfold colB; rw [rowL_get (by have := HN.out.2; omega), hc])
            subst hAk
            obtain ⟨e1, e2⟩ := HCOR.out k t hkn htm
            rw [hc] at e1 e2
            have hX1 := nth_get (l := X) (i := k) (by omega)
            have hX2 := nth_get (l := X) (i := k + 1) hkn
            have hY1 := nth_get (l := Y) (i := t) (by omega)
            have hY2 := nth_get (l := Y) (i := t + 1) htm
            have hxm := HST.out.1 k _ _ hX1 hX2
            have hym := HST.out.2 t _ _ hY1 hY2
            have x64 := H64.out.1 k
            have x64' := H64.out.1 (k + 1)
            have y64 := H64.out.2 t
            have y64' := H64.out.2 (t + 1)
            have hw2 : Upd [] w wr := HU2.out.trans hu
            obtain ⟨gx, ox, hAx, -, -, cx0⟩ := KL.at (HSX.out.1.upd0 hu) hX1
            obtain ⟨gx', ox', hAx', -, -, cx1⟩ := KL.at (HSX.out.1.upd0 hu) hX2
            subst hAx
            cases hAx'
            obtain ⟨gy, oy, hAy, -, -, cy0⟩ := KL.at (HSX.out.2.1.upd0 hu) hY1
            obtain ⟨gy', oy', hAy', -, -, cy1⟩ := KL.at (HSX.out.2.1.upd0 hu) hY2
            subst hAy
            cases hAy'
            have hh1 := fun (z : QW wr) => heldC (.slice A l.length C) l (nth X k) (nth Y t) z.w ((HS.out.upd0 hw2).upd0 z.up) (by omega)
            have hh2 := fun (z : QW wr) => heldC (.slice A l.length C) l (nth X (k + 1) - 1) (nth Y (t + 1) - 1) z.w ((HS.out.upd0 hw2).upd0 z.up) (by omega)
            have hh3 := fun (z : QW wr) => heldC (.slice A l.length C) l (nth X k) (nth Y (t + 1) - 1) z.w ((HS.out.upd0 hw2).upd0 z.up) (by omega)
            simp only [hc, e1, e2] at hh1 hh2 hh3
            obtain ⟨x0, hx0⟩ : ∃ x, nth X k = x := ⟨_, rfl⟩
            obtain ⟨x1, hx1⟩ : ∃ x, nth X (k + 1) = x := ⟨_, rfl⟩
            obtain ⟨y0, hy0⟩ : ∃ x, nth Y t = x := ⟨_, rfl⟩
            obtain ⟨y1, hy1⟩ : ∃ x, nth Y (t + 1) = x := ⟨_, rfl⟩
            rw [hx0] at hxm x64 cx0
            rw [hx1] at hxm x64' cx1
            rw [hy0] at hym y64 cy0
            rw [hy1] at hym y64' cy1
            simp only [hx0, hx1, hy0, hy1] at hh1 hh2 hh3
            have HH1 := Lib.hid hh1
            have HH2 := Lib.hid hh2
            have HH3 := Lib.hid hh3
            have q1 : ∀ z : QW wr, z.w.cell? ⟨gx, ox + k, none⟩ = some (.int .i64 x0) := fun z => (z.up.cell (p := ⟨gx, ox + k, none⟩) (World.block_lt_of_cell? wr _ cx0) (by simp)).trans cx0
            have q2 : ∀ z : QW wr, z.w.cell? ⟨gx, ox + (k + 1), none⟩ = some (.int .i64 x1) := fun z => (z.up.cell (p := ⟨gx, ox + (k + 1), none⟩) (World.block_lt_of_cell? wr _ cx1) (by simp)).trans cx1
            have q3 : ∀ z : QW wr, z.w.cell? ⟨gy, oy + t, none⟩ = some (.int .i64 y0) := fun z => (z.up.cell (p := ⟨gy, oy + t, none⟩) (World.block_lt_of_cell? wr _ cy0) (by simp)).trans cy0
            have q4 : ∀ z : QW wr, z.w.cell? ⟨gy, oy + (t + 1), none⟩ = some (.int .i64 y1) := fun z => (z.up.cell (p := ⟨gy, oy + (t + 1), none⟩) (World.block_lt_of_cell? wr _ cy1) (by simp)).trans cy1
            have hcc : (c == c) = true := by simp
            have i1 : (k : Int) < (X.length : Int) := by omega
            have i2 : (k : Int) + 1 < (X.length : Int) := by omega
            have j1 : (t : Int) < (Y.length : Int) := by omega
            have j2 : (t : Int) + 1 < (Y.length : Int) := by omega
            have HT := Lib.hid ht
            have HLT2 := Lib.hid hlt2
            have HU := Lib.hid hu
            have kp : (0 : Int) ≤ (k : Int) + 1 := by omega
            have tp : (0 : Int) ≤ (t : Int) + 1 := by omega
            have wx1 : IntKind.i64.wrap (x1 - 1) = x1 - 1 := IntWalk.i64_in _ ⟨by omega, by omega⟩
            have wy1 : IntKind.i64.wrap (y1 - 1) = y1 - 1 := IntWalk.i64_in _ ⟨by omega, by omega⟩
            have HWR := Lib.hid (And.intro wx1 wy1)
            clear hh1 hh2 hh3 hc e1 e2 hX1 hX2 hY1 hY2 hx0 hx1 hy0 hy1 hxm hym x64 x64' y64 y64' hkn htm hu ht hlt2 hw2 cx0 cx1 cy0 cy1 hrow2 wx1 wy1
            go_upto_region 14 with fail
            have kn : ((k : Int) + 1).toNat = k + 1 := by omega
            have tn : ((t : Int) + 1).toNat = t + 1 := by omega
            have wk : IntKind.i64.wrap ((k : Int) + 1) = (k : Int) + 1 := IntWalk.i64_in _ ⟨by omega, by omega⟩
            have wt : IntKind.i64.wrap ((t : Int) + 1) = (t : Int) + 1 := IntWalk.i64_in _ ⟨by omega, by omega⟩
            have wx1 := HWR.out.1
            have wy1 := HWR.out.2
            refine wp_region_quietU (by kernel_rfl) (by kernel_rfl) ?_
            repeat (go_big_quiet_step (first | (with_reducible exact Calls.quietU (HH1.out _)) | (with_reducible exact Calls.quietU (HH2.out _)) | (with_reducible exact Calls.quietU (HH3.out _))))
            refine wpQuiet_nil ?_
            intro _ hw'
            obtain ⟨⟨wq, hwq⟩, hw''⟩ := hw'
            dsimp only at hw''
            subst hw''
            have HUQ := Lib.hid (HU.out.trans hwq)
            clear kn tn wk wt wx1 wy1 kp tp hwq q1 q2 q3 q4
            go_wp2_with fail
            go_roundg (m - (t + 1))
            case measure => have := HT.out; have := HLT2.out; omega
            case rel => exact ⟨t + 1, by have := HT.out; have := HLT2.out; omega, by go_num, HUQ.out⟩
          · have HU := Lib.hid hu
            clear hu
            go_wp2_with fail
            go_roundg (n - (k + 1))
            case measure => have := HK.out; have := HLT.out; omega
            case rel => exact ⟨k + 1, by have := HK.out; have := HLT.out; omega, by go_num, HU.out⟩
      · have HU1 := Lib.hid hu
        clear hu hk
        have hmade := MapAt.made wr
        have hum : Upd [] wr (wr.alloc (.map #[] 0)) := (Upd.refl _ _).alloc _
        obtain ⟨b, hb⟩ : ∃ b, wr.heap.size = b := ⟨_, rfl⟩
        rw [hb] at hmade
        have HBW := Lib.hid (show w2.heap.size ≤ b by rw [← hb]; exact HU1.out.size)
        have HMD := Lib.hid (And.intro hmade (HU1.out.trans hum))
        have HBE := Lib.hid hb
        clear hmade hum hb
        have hmm := @run_makeMap Try.prog
        go_upto_block 4 with fail
        rw [HBE.out]
        clear hmm
        generalize (wr.alloc (.map #[] 0)) = wm at HMD ⊢
        go_wp2_with fail
        go_loopg [105] l.length (fun j s105 wr => ∃ k M, j + k = l.length ∧ s105 = .int .i64 (k : Int) ∧ MapAt wr b M ∧ (∀ x, x ∈ M.map (·.1) ↔ x ∈ linX (l.take k)) ∧ M.length ≤ 2 * k ∧ Upd [] w2 wr)
        case atStart => exact ⟨0, [], rfl, rfl, HMD.out.1, fun x => by simp [linX], Nat.le_refl _, HMD.out.2⟩
        case round =>
          obtain ⟨k, M, hk, rfl, hmap, hkey, hml, hu⟩ := hrel
          have b0 : (0 : Int) ≤ (k : Int) := Int.natCast_nonneg _
          by_cases hlt : k < l.length
          · obtain ⟨bx, hbx⟩ : ∃ b, l[k]? = some b := ⟨_, List.getElem?_eq_getElem hlt⟩
            obtain ⟨bl, ol, hA, -, -, l0, l1, l2, l3, l4⟩ := KBx.at ((HS.out.upd0 HU2.out).upd0 hu) hbx
            subst hA
            have hlm := lin_mem l hbx
            have hbin := HIN.out bx (List.mem_of_getElem? hbx)
            have hmem : bx.counts = true → bx.x1 ∈ X ∧ bx.x2 ∈ X := fun hc => by
              have := mem_linX (List.mem_of_getElem? hbx) hc
              exact ⟨(HMX.out _).2 this.1, (HMX.out _).2 this.2⟩
            obtain ⟨x1, x2, y1, y2, bi⟩ := bx
            dsimp only at l0 l1 l2 l3 l4 hlm hmem
            have b1 : (k : Int) < (l.length : Int) := by omega
            have b2 : (k : Int) < 2000 := by omega
            have hbx1 : (wr.alloc (.cells #[.int .i64 x1, .int .i64 x2, .int .i64 y1, .int .i64 y2, .int .u32 (bi : Int)] 76)).heap[wr.heap.size]? = some (.cells #[.int .i64 x1, .int .i64 x2, .int .i64 y1, .int .i64 y2, .int .u32 (bi : Int)] 76 (0, 0)) := heap_alloc_new _ _
            have hua : Upd [] wr (wr.alloc (.cells #[.int .i64 x1, .int .i64 x2, .int .i64 y1, .int .i64 y2, .int .u32 (bi : Int)] 76)) := (Upd.refl _ _).alloc _
            have HK := Lib.hid hk
            have HLT := Lib.hid hlt
            have HML2 := Lib.hid hml
            have HML := Lib.hid (show M.length ≤ 30 by omega)
            have HMAP0 := Lib.hid (hmap.upd hua (by simp))
            have HUA0 := Lib.hid (hu.trans hua)
            have HBX := Lib.hid hbx1
            have HLM := Lib.hid hlm
            have HKEY0 := Lib.hid hkey
            have HMEM := Lib.hid hmem
            have HWF := Lib.hid (show (Lit.int .i64 x1).wf = true ∧ (Lit.int .i64 x2).wf = true by
              have h1 := hbin.1
              have h2 := hbin.2.1
              dsimp only at h1 h2
              simp [Lit.wf, IntKind.min, IntKind.max, IntKind.signed, IntKind.bits]
              omega)
            have HBR := Lib.hid hmap.lt
            by_cases hx : x2 ≤ x1
            · have g1 : decide (x2 ≤ x1) = true := decide_eq_true hx
              have hcnt : (⟨x1, x2, y1, y2, bi⟩ : Bx).counts = false := by unfold Bx.counts; simp; omega
              have HKN := Lib.hid (show ∀ x, x ∈ M.map (·.1) ↔ x ∈ linX (l.take (k + 1)) from fun x => by rw [hlm x, hkey x, hcnt]; simp)
              clear hk hlt hml hmap hkey hu hua hbx1 hlm hmem hbin hcnt hx hbx
              go_wp2_with fail
              go_roundg (l.length - (k + 1))
              case measure => have := HK.out; have := HLT.out; omega
              case rel => exact ⟨k + 1, M, by have := HK.out; have := HLT.out; omega, by go_num, HMAP0.out, HKN.out, by have := HML2.out; omega, HUA0.out⟩
            have g1 : decide (x2 ≤ x1) = false := decide_eq_false hx
            by_cases hy : y2 ≤ y1
            · have g2 : decide (y2 ≤ y1) = true := decide_eq_true hy
              have hcnt : (⟨x1, x2, y1, y2, bi⟩ : Bx).counts = false := by unfold Bx.counts; simp; omega
              have HKN := Lib.hid (show ∀ x, x ∈ M.map (·.1) ↔ x ∈ linX (l.take (k + 1)) from fun x => by rw [hlm x, hkey x, hcnt]; simp)
              clear hk hlt hml hmap hkey hu hua hbx1 hlm hmem hbin hcnt hx hy hbx
              go_wp2_with fail
              go_roundg (l.length - (k + 1))
              case measure => have := HK.out; have := HLT.out; omega
              case rel => exact ⟨k + 1, M, by have := HK.out; have := HLT.out; omega, by go_num, HMAP0.out, HKN.out, by have := HML2.out; omega, HUA0.out⟩
            have g2 : decide (y2 ≤ y1) = false := decide_eq_false hy
            have hcnt : (⟨x1, x2, y1, y2, bi⟩ : Bx).counts = true := by unfold Bx.counts; simp; omega
            have HKEY := Lib.hid (show ∀ x, x ∈ (mput (mput M x1 1) x2 1).map (·.1) ↔ x ∈ linX (l.take (k + 1)) from fun x => by
              rw [hlm x, mput_key, mput_key, hkey x, hcnt]
              constructor
              · rintro (h | h | h)
                · exact .inr ⟨rfl, .inr h⟩
                · exact .inr ⟨rfl, .inl h⟩
                · exact .inl h
              · rintro (h | ⟨-, h | h⟩)
                · exact .inr (.inr h)
                · exact .inr (.inl h)
                · exact .inl h)
            obtain ⟨m1, m2⟩ := hmem hcnt
            have f1 := fun w' (hu' : Upd [] w2 w') => firstC (.slice A1 X.length C1) X x1 w' (HR.out.1.imp Int.le_of_lt) (HSX.out.1.upd0 hu') (by have := HR.out.2.1; omega)
            have f2 := fun w' (hu' : Upd [] w2 w') => firstC (.slice A1 X.length C1) X x2 w' (HR.out.1.imp Int.le_of_lt) (HSX.out.1.upd0 hu') (by have := HR.out.2.1; omega)
            have p1 := below_mem HR.out.1 m1
            have p2 := below_mem HR.out.1 m2
            obtain ⟨a, ha⟩ : ∃ a, below X x1 = a := ⟨_, rfl⟩
            obtain ⟨c, hc⟩ : ∃ a, below X x2 = a := ⟨_, rfl⟩
            simp only [ha] at f1
            simp only [hc] at f2
            rw [ha] at p1
            rw [hc] at p2
            have HP := Lib.hid (And.intro p1 p2)
            have HF1 := Lib.hid f1
            have HF2 := Lib.hid f2
            clear hk hlt hml hmap hkey hu hua hbx1 hlm hmem hbin hcnt hx hy hbx f1 f2 m1 m2 ha hc p1 p2
            go_wp2_with fail
            (with_reducible refine (HF1.out _ HUA0.out).mono ?_)
            rintro e w3 ⟨⟨k1, rfl, -⟩, hu3⟩
            have h3 := (hu3.block wr.heap.size (by simp) (by simp)).trans HBX.out
            have HU3 := Lib.hid (HUA0.out.trans hu3)
            have HMAP3 := Lib.hid (HMAP0.out.upd hu3 (by simp))
            have hl3 := lt_of_block h3
            have c1 : w3.cell? ⟨wr.heap.size, 1, none⟩ = some (.int .i64 x2) := by simp [World.cell?, h3]
            have H3 := Lib.hid (And.intro h3 hl3)
            clear h3 hu3 hl3
            go_wp2_with fail
            (with_reducible refine (HF2.out _ HU3.out).mono ?_)
            rintro e w4 ⟨⟨k2, rfl, -⟩, hu4⟩
            have h4 := (hu4.block wr.heap.size H3.out.2 (by simp)).trans H3.out.1
            have HU4 := Lib.hid (HU3.out.trans hu4)
            have HMAP4 := Lib.hid (HMAP3.out.upd hu4 (by simp))
            have d0 : w4.cell? ⟨wr.heap.size, 0, none⟩ = some (.int .i64 x1) := by simp [World.cell?, h4]
            have d1 : w4.cell? ⟨wr.heap.size, 1, none⟩ = some (.int .i64 x2) := by simp [World.cell?, h4]
            obtain ⟨gx, ox, hAx, -, -, cx0⟩ := KL.at (HSX.out.1.upd0 HU4.out) HP.out.1
            obtain ⟨gx', ox', hAx', -, -, cx1⟩ := KL.at (HSX.out.1.upd0 HU4.out) HP.out.2
            subst hAx
            cases hAx'
            have la := (List.getElem?_eq_some_iff.1 HP.out.1).1
            have lc := (List.getElem?_eq_some_iff.1 HP.out.2).1
            have a0 : (0 : Int) ≤ (a : Int) := Int.natCast_nonneg _
            have a1 : (a : Int) < (X.length : Int) := by omega
            have a2 : (0 : Int) ≤ (c : Int) := Int.natCast_nonneg _
            have a3 : (c : Int) < (X.length : Int) := by omega
            have a4 : decide (X.length ≤ c) = false := decide_eq_false (by omega)
            have a5 : decide ((X.length : Int) ≤ (c : Int)) = false := decide_eq_false (by omega)
            have a6 : ¬ (X.length : Int) ≤ (c : Int) := by omega
            have a7 : (x1 == x1) = true := by simp
            have a8 : (x2 == x2) = true := by simp
            clear c1 h4 hu4 la lc
            go_wp2_with fail
            go_quiet (fail)
            have HUA := Lib.hid (show Upd [] w2 (w4.drewN nq) from HU4.out.drewN nq)
            have HMAP := Lib.hid (show MapAt (w4.drewN nq) b M from HMAP4.out)
            have HC20 := Lib.hid (show (w4.drewN nq).cell? ⟨wr.heap.size, 0, none⟩ = some (.int .i64 x1) ∧ (w4.drewN nq).cell? ⟨wr.heap.size, 1, none⟩ = some (.int .i64 x2) from ⟨d0, d1⟩)
            have HQB := Lib.hid (show b < wr.heap.size from HBR.out)
            clear d0 d1 cx0 cx1 a0 a1 a2 a3 a4 a5 a6 a7 a8
            go_upto_region 27 with fail
            generalize wr.heap.size = q at HC20 HQB ⊢
            obtain ⟨Wd, hWd⟩ : ∃ Wd, Wd = (w4.drewN nq).drew := ⟨_, rfl⟩
            have HD0 := Lib.hid (show Upd [] (w4.drewN nq) Wd by rw [hWd]; exact (Upd.refl _ _).drew)
            have HC2 := Lib.hid (keep2F HC20.out HD0.out (by simp))
            -- region 27: T waits for all loads; fuel 1
            refine GoT.start [7] (fun w' => w'.cell? ⟨q, 0, none⟩ = some (.int .i64 x1) ∧ w'.cell? ⟨q, 1, none⟩ = some (.int .i64 x2)) (by kernel_rfl) ?_ fun hS => ?_
            · exact by rw [← hWd]; exact HC2.out
            rw [← hWd] at hS ⊢
            clear hWd
            refine' GoT.move (i := 0) (oi := ⟨some 157, _, _, _, _, _⟩) (v := _) rfl (by kernel_rfl) (by kernel_rfl) (by kernel_rfl) (fun _ _ _ h => h) (Or.inl ⟨by rfl, ?y27_0⟩) ?r27_0
            case y27_0 => intro w; go_simp <;> with_reducible rfl
            simp only [Act.put, List.setIfInBounds_toArray, List.set_cons_zero, List.set_cons_succ]
            refine' GoT.move (i := 1) (oi := ⟨some 158, _, _, _, _, _⟩) (v := _) rfl (by kernel_rfl) (by kernel_rfl) (by kernel_rfl) (fun _ _ _ h => h) (Or.inl ⟨by rfl, ?y27_1⟩) ?r27_1
            case y27_1 => intro w; go_simp <;> with_reducible rfl
            simp only [Act.put, List.setIfInBounds_toArray, List.set_cons_zero, List.set_cons_succ]
            refine' GoT.take 1 (i := 2) (oi := ⟨some 159, _, _, _, _, _⟩) (v := _) rfl (by kernel_rfl) (by kernel_rfl) (by kernel_rfl) (by kernel_rfl) (fun _ _ _ h => h) (Or.inl ⟨by rfl, ?y27_2⟩) (by assumption) ?r27_2
            case y27_2 => intro w hSw; go_simp <;> with_reducible rfl
            simp only [Act.put, List.setIfInBounds_toArray, List.set_cons_zero, List.set_cons_succ]
            refine' GoT.move (i := 3) (oi := ⟨some 160, _, _, _, _, _⟩) (v := _) rfl (by kernel_rfl) (by kernel_rfl) (by kernel_rfl) (fun _ _ _ h => h) (Or.inl ⟨by rfl, ?y27_3⟩) ?r27_3
            case y27_3 => intro w; go_simp <;> with_reducible rfl
            simp only [Act.put, List.setIfInBounds_toArray, List.set_cons_zero, List.set_cons_succ]
            refine' GoT.move (i := 4) (oi := ⟨some 161, _, _, _, _, _⟩) (v := _) rfl (by kernel_rfl) (by kernel_rfl) (by kernel_rfl) (fun _ _ _ h => h) (Or.inl ⟨by rfl, ?y27_4⟩) ?r27_4
            case y27_4 => intro w; go_simp <;> with_reducible rfl
            simp only [Act.put, List.setIfInBounds_toArray, List.set_cons_zero, List.set_cons_succ]
            refine' GoT.take 1 (i := 5) (oi := ⟨some 162, _, _, _, _, _⟩) (v := _) rfl (by kernel_rfl) (by kernel_rfl) (by kernel_rfl) (by kernel_rfl) (fun _ _ _ h => h) (Or.inl ⟨by rfl, ?y27_5⟩) (by assumption) ?r27_5
            case y27_5 => intro w hSw; go_simp <;> with_reducible rfl
            simp only [Act.put, List.setIfInBounds_toArray, List.set_cons_zero, List.set_cons_succ]
            -- 6: Go.Op.mapUpdate 81 (Go.Operand.tmp 157) (Go.Operand.tmp 159) (Go.Operand.const (Go.Value.int Go.IntKind.i64 1))
            refine GoT.one (i := 6) (o := ⟨none, _, _, _, _, _⟩) rfl (by kernel_rfl) fun K hK => ?_
            refine step_mput _ (by rfl) _ _ _ (by rfl) b M x1 1 (by rfl) (by rfl) (by rfl) (HMAP.out.upd HD0.out (by simp)) (by first | exact HWF.out.1 | exact HWF.out.2) (by decide) (by have := HML.out; have := mput_len M x1 1; unfold maxLen; omega) ?_
            intro w5 hmp hup
            refine hK.out _ _ (fun _ h => ?_) ?_
            · exact keep2F h hup (by have := HQB.out; simp; omega)
            clear hK K
            try simp only [Act.put]
            have HM5 := Lib.hid (And.intro hmp hup)
            clear hmp hup
            -- 7: Go.Op.mapUpdate 81 (Go.Operand.tmp 160) (Go.Operand.tmp 162) (Go.Operand.const (Go.Value.int Go.IntKind.i64 1))
            refine GoT.one (i := 7) (o := ⟨none, _, _, _, _, _⟩) rfl (by kernel_rfl) fun K hK => ?_
            refine step_mput _ (by rfl) _ _ _ (by rfl) b (mput M x1 1) x2 1 (by rfl) (by rfl) (by rfl) HM5.out.1 (by first | exact HWF.out.1 | exact HWF.out.2) (by decide) (by have := HML.out; have := mput_len M x1 1; unfold maxLen; omega) ?_
            intro w6 hmp hup
            refine hK.out _ _ (fun h => (by cases h)) ?_
            clear hK K
            try simp only [Act.put]
            have HM6 := Lib.hid (And.intro hmp (((HUA.out.trans HD0.out).trans' HM5.out.2 (fun x hx => .inr (by simp at hx; have := HBW.out; omega))).trans' hup (fun x hx => .inr (by simp at hx; have := HBW.out; omega))))
            clear hmp hup
            refine GoT.done (by kernel_rfl) ?_
            clear HM5
            go_wp2_with fail
            go_roundg (l.length - (k + 1))
            case measure => have := HK.out; have := HLT.out; omega
            case rel => exact ⟨k + 1, _, by have := HK.out; have := HLT.out; omega, by go_num, HM6.out.1, HKEY.out, by have h1 := mput_len (mput M x1 1) x2 1; have h2 := mput_len M x1 1; have h3 := HML2.out; omega, HM6.out.2⟩

          · have hke : l.take k = l := List.take_of_length_le (by omega)
            have hml2 : M.length = X.length := keys_len hmap.1 HR.out.1 fun x => by rw [hkey x, hke]; exact (HMX.out x).symm
            have hlen := fun ty => hmap.len ty
            rw [hml2] at hlen
            have HU := Lib.hid (HU2.out.trans hu)
            have hxx : ((X.length : Int) == (X.length : Int)) = true := by simp
            clear hmap hkey hml hml2 hu hke hk
            go_wp2_with fail
            (with_reducible refine (awake19 _).mono ?_)
            rintro e w6 ⟨rfl, hu6⟩
            have HU6 := Lib.hid (HU.out.trans hu6)
            clear hu6
            go_wp2_with fail
            go_ret
            exact ⟨rfl, HU6.out.below⟩
end Go.Proofs.Ythkiljfjjnckaaa

