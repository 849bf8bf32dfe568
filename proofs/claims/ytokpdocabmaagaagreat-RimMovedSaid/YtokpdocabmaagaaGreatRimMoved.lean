/- RimMoved: the walk. -/
import Derived.Test.YtokpdocabmaagaaGreatAw18
import Derived.Test.YtokpdocabmaagaaGreatTurnP
import Derived.Test.YtokpdocabmaagaaGreatTb
namespace Go.Proofs.YtokpdocabmaagaaGreat
open Go.RowKit

/-- All sides are from -2^62 to 2^62. -/
def Bx.in62 (b : Bx) : Prop := (-4611686018427387904 ≤ b.x1 ∧ b.x1 ≤ 4611686018427387904) ∧ (-4611686018427387904 ≤ b.x2 ∧ b.x2 ≤ 4611686018427387904) ∧ (-4611686018427387904 ≤ b.y1 ∧ b.y1 ≤ 4611686018427387904) ∧ (-4611686018427387904 ≤ b.y2 ∧ b.y2 ≤ 4611686018427387904)

theorem tdiv_in {y : Int} (h : -4611686018427387904 ≤ y ∧ y ≤ 4611686018427387904) : (-2305843009213693952 ≤ y.tdiv 2 ∧ y.tdiv 2 ≤ 2305843009213693952) ∧ (-2305843009213693952 ≤ y.tdiv 3 ∧ y.tdiv 3 ≤ 2305843009213693952) := by
  have h1 : (y.tdiv 2).natAbs = y.natAbs / 2 := Int.natAbs_tdiv y 2
  have h2 : (y.tdiv 3).natAbs = y.natAbs / 3 := Int.natAbs_tdiv y 3
  have e := Int.natAbs_eq y
  have e1 := Int.natAbs_eq (y.tdiv 2)
  have e2 := Int.natAbs_eq (y.tdiv 3)
  rw [h1] at e1
  rw [h2] at e2
  clear h1 h2
  generalize y.natAbs = a at e e1 e2
  generalize y.tdiv 2 = p at e1 ⊢
  generalize y.tdiv 3 = q at e2 ⊢
  omega

theorem wrap64_id {x : Int} (h1 : -9223372036854775808 ≤ x) (h2 : x ≤ 9223372036854775807) : wrap64 x = x := by
  unfold wrap64
  omega

/-- The sides, one by one. -/
def Bx.side (b : Bx) : Nat → Int
  | 0 => b.x1
  | 1 => b.x2
  | 2 => b.y1
  | _ => b.y2

theorem side_index (b : Bx) {j : Nat} (h : j < 4) (w : World) : (Instr.index 35 (.agg #[.int .i64 b.x1, .int .i64 b.x2, .int .i64 b.y1, .int .i64 b.y2]) (.int .i64 (j : Int))).run Tryz.prog w = .ok (.int .i64 (b.side j)) w := by
  rcases (by omega : j = 0 ∨ j = 1 ∨ j = 2 ∨ j = 3) with rfl | rfl | rfl | rfl <;> kernel_rfl

theorem wide_same (a b : Int) (w : World) : (binOp .eql 27 (.agg #[.int .u64 a, .int .u64 b]) (.agg #[.int .u64 a, .int .u64 b])).run Tryz.prog w = .ok (.bool true) w := by
  rw [run_eql_struct, run_equalIn_agg _ _ _ _ _ (by kernel_rfl) (by kernel_rfl)]
  go_simp

/-- Seen in a mirror, upside down. -/
def miY (b : Bx) : Bx := ⟨b.x1, b.x2, -b.y2, -b.y1, 0⟩
theorem miY_cov (l : List Bx) (x y : Int) : covB (l.map miY) x (-y - 1) = covB l x y := by
  unfold covB
  rw [List.any_map]
  refine any_congr fun b _ => ?_
  simp only [Function.comp]
  unfold miY Bx.cell
  rw [Bool.eq_iff_iff]
  simp only [decide_eq_true_eq]
  omega

/-- What the rims are, and the nodes. -/
theorem moved_facts {l : List Bx} (h : ∀ b ∈ l, b.in62) {y : Int} (hy : -4611686018427387904 ≤ y ∧ y ≤ 4611686018427387904) :
    ((∀ b ∈ l, b.in64) ∧ (∀ b ∈ l.reverse.map (mvB (-(y.tdiv 3)) (y.tdiv 2)), b.in64) ∧ (∀ b ∈ l.reverse.map tuB, b.in64) ∧ (∀ b ∈ l.reverse.map miY, b.in64)) ∧
    rimA (l.reverse.map (mvB (-(y.tdiv 3)) (y.tdiv 2))) = rimA l ∧ rimA (l.reverse.map tuB) = rimA l ∧ rimE (l.reverse.map tuB) = rimE l ∧ rimA (l.reverse.map miY) = rimA l := by
  have hq := tdiv_in hy
  have h0 : ∀ b ∈ l, b.in64 := fun b hb => by
    have := h b hb
    unfold Bx.in62 at this
    unfold Bx.in64
    omega
  have h1 : ∀ b ∈ l.reverse.map (mvB (-(y.tdiv 3)) (y.tdiv 2)), b.in64 := fun b hb => by
    obtain ⟨a, ha, rfl⟩ := List.mem_map.1 hb
    have := h a (List.mem_reverse.1 ha)
    unfold Bx.in62 at this
    unfold Bx.in64 mvB
    dsimp only
    omega
  have h2 : ∀ b ∈ l.reverse.map tuB, b.in64 := fun b hb => by
    obtain ⟨a, ha, rfl⟩ := List.mem_map.1 hb
    have := h a (List.mem_reverse.1 ha)
    unfold Bx.in62 at this
    unfold Bx.in64 tuB
    dsimp only
    omega
  have h3 : ∀ b ∈ l.reverse.map miY, b.in64 := fun b hb => by
    obtain ⟨a, ha, rfl⟩ := List.mem_map.1 hb
    have := h a (List.mem_reverse.1 ha)
    unfold Bx.in62 at this
    unfold Bx.in64 miY
    dsimp only
    omega
  refine ⟨⟨h0, h1, h2, h3⟩, rimA_moved h0 h1 (-(y.tdiv 3)) (y.tdiv 2) fun u v => ?_, rimA_turned fun u v => ?_, ?_, rimA_mirY h0 h3 fun u v => ?_⟩
  · rw [mvB_cov]; exact cov_perm (List.reverse_perm l) u v
  · rw [tuB_cov]; exact cov_perm (List.reverse_perm l) u v
  · exact (rimE_turned _).trans (rimE_perm (List.reverse_perm l))
  · rw [miY_cov]; exact cov_perm (List.reverse_perm l) u v

set_option maxRecDepth 100000 in
set_option maxHeartbeats 8000000 in
theorem rimMoved_walk (v : Value) (l : List Bx) (y : Int) (w : World) (hs : See KBx w v l) (hb : ∀ b ∈ l, b.in64) (hy : -9223372036854775808 ≤ y ∧ y ≤ 9223372036854775807) :
    Calls Tryz.prog 9 #[v, .int .i64 y] w fun e w' => e = .returned (.bool true) ∧ Below w.heap.size w w' := by
  obtain ⟨A, C, rfl⟩ := hs.form
  by_cases hout : 20 < l.length ∨ y < -4611686018427387904 ∨ 4611686018427387904 < y
  · clear hs hb
    rcases (by omega : 20 < l.length ∨ (¬ 20 < l.length ∧ y < -4611686018427387904) ∨ (¬ 20 < l.length ∧ ¬ y < -4611686018427387904 ∧ 4611686018427387904 < y)) with h | ⟨h, h'⟩ | ⟨h, h', h''⟩
    · have d1 : decide ((20 : Int) < (l.length : Int)) = true := decide_eq_true (by omega)
      clear h hout
      go_enter Tryz.func9, Tryz.ntmps9
      go_wp2_with fail
      (with_reducible refine (awake18 _).mono ?_)
      rintro e w6 ⟨rfl, hu6⟩
      have HU6 := Lib.hid hu6
      clear hu6
      go_wp2_with fail
      go_ret
      exact ⟨rfl, HU6.out.below⟩
    · have d1 : decide ((20 : Int) < (l.length : Int)) = false := decide_eq_false (by omega)
      have d2 : decide (y < -4611686018427387904) = true := decide_eq_true h'
      clear h h' hout
      go_enter Tryz.func9, Tryz.ntmps9
      go_wp2_with fail
      (with_reducible refine (awake18 _).mono ?_)
      rintro e w6 ⟨rfl, hu6⟩
      have HU6 := Lib.hid hu6
      clear hu6
      go_wp2_with fail
      go_ret
      exact ⟨rfl, HU6.out.below⟩
    · have d1 : decide ((20 : Int) < (l.length : Int)) = false := decide_eq_false (by omega)
      have d2 : decide (y < -4611686018427387904) = false := decide_eq_false h'
      have d3 : decide (4611686018427387904 < y) = true := decide_eq_true h''
      clear h h' h'' hout
      go_enter Tryz.func9, Tryz.ntmps9
      go_wp2_with fail
      (with_reducible refine (awake18 _).mono ?_)
      rintro e w6 ⟨rfl, hu6⟩
      have HU6 := Lib.hid hu6
      clear hu6
      go_wp2_with fail
      go_ret
      exact ⟨rfl, HU6.out.below⟩
  · obtain ⟨iB, hiB, hB0, hB1, hB2⟩ := info_parts info_bx
    have d1 : decide ((20 : Int) < (l.length : Int)) = false := decide_eq_false (by omega)
    have d2 : decide (y < -4611686018427387904) = false := decide_eq_false (by omega)
    have d3 : decide (4611686018427387904 < y) = false := decide_eq_false (by omega)
    have HG := Lib.hid (show l.length ≤ 20 ∧ -4611686018427387904 ≤ y ∧ y ≤ 4611686018427387904 by omega)
    obtain ⟨n, hn⟩ : ∃ n, l.length = n := ⟨_, rfl⟩
    have hnb : (n : Int) ≤ 20 := by omega
    have hs' : See KBx w (.slice A n C) l := by rw [← hn]; exact hs
    rw [hn] at d1 ⊢
    have HN := Lib.hid hn
    have HS := Lib.hid hs'
    have HB := Lib.hid hb
    clear hs hb hout hy hn hs'
    go_enter Tryz.func9, Tryz.ntmps9
    go_wp2_with fail
    clear d1 d2 d3
    go_loopg [5, 6, 7, 8] (n + 1) (fun m s5 s6 s7 s8 wr => ∃ k A5 C5 A6 C6 A7 C7, m + k = n + 1 ∧ k ≤ n ∧ s8 = .int .i64 ((n : Int) - 1 - (k : Int)) ∧
      s5 = .slice A5 ((l.drop (n - k)).reverse.map (mvB (-(y.tdiv 3)) (y.tdiv 2))).length C5 ∧ s6 = .slice A6 ((l.drop (n - k)).reverse.map tuB).length C6 ∧ s7 = .slice A7 ((l.drop (n - k)).reverse.map miY).length C7 ∧
      (∀ b ∈ l.drop (n - k), b.in62) ∧
      Tb w.heap.size wr s5 ((l.drop (n - k)).reverse.map (mvB (-(y.tdiv 3)) (y.tdiv 2))) s6 ((l.drop (n - k)).reverse.map tuB) s7 ((l.drop (n - k)).reverse.map miY) ∧ Upd [] w wr)
    case atStart =>
      have hd : l.drop (n - 0) = [] := by rw [List.drop_eq_nil_iff]; have := HN.out; omega
      refine ⟨0, none, 0, none, 0, none, 0, by omega, by omega, by go_num, ?_⟩
      rw [hd]
      exact ⟨rfl, rfl, rfl, by simp, Tb.none _ _, Upd.refl _ _⟩
    case round =>
      obtain ⟨k, A5, C5, A6, C6, A7, C7, hk, hkn, rfl, rfl, rfl, rfl, hin, htb, hu⟩ := hrel
      have b0 : (0 : Int) ≤ (k : Int) := Int.natCast_nonneg _
      by_cases hlt : k < n
      · obtain ⟨i, hi⟩ : ∃ i, i = n - 1 - k := ⟨_, rfl⟩
        have ei : (n : Int) - 1 - (k : Int) = (i : Int) := by omega
        rw [ei]
        have b1 : (0 : Int) ≤ (i : Int) := Int.natCast_nonneg _
        have b2 : (i : Int) < (n : Int) := by omega
        obtain ⟨b, hbi⟩ : ∃ b, l[i]? = some b := ⟨_, List.getElem?_eq_getElem (by have := HN.out; omega)⟩
        have hb64 := HB.out b (List.mem_of_getElem? hbi)
        obtain ⟨bl, ol, hA, -, -, l0, l1, l2, l3, l4⟩ := KBx.at (HS.out.upd0 hu) hbi
        subst hA
        have hdr : l.drop (n - (k + 1)) = b :: l.drop (n - k) := by
          have h1 : n - (k + 1) = i := by omega
          have h2 : n - k = i + 1 := by omega
          rw [h1, h2]
          have h3 := (List.getElem?_eq_some_iff.1 hbi)
          obtain ⟨h4, h5⟩ := h3
          rw [List.drop_eq_getElem_cons h4, h5]
        obtain ⟨P, hP⟩ : ∃ P, l.drop (n - k) = P := ⟨_, rfl⟩
        rw [hP] at hin htb hdr ⊢
        have hPl : P.length ≤ 20 := by rw [← hP, List.length_drop]; have := HG.out.1; omega
        obtain ⟨R5, h5⟩ : ∃ R, P.reverse.map (mvB (-(y.tdiv 3)) (y.tdiv 2)) = R := ⟨_, rfl⟩
        obtain ⟨R6, h6⟩ : ∃ R, P.reverse.map tuB = R := ⟨_, rfl⟩
        obtain ⟨R7, h7⟩ : ∃ R, P.reverse.map miY = R := ⟨_, rfl⟩
        rw [h5, h6, h7] at htb
        rw [h5, h6, h7]
        have e5 : R5.length ≤ 20 := by rw [← h5, List.length_map, List.length_reverse]; exact hPl
        have e6 : R6.length ≤ 20 := by rw [← h6, List.length_map, List.length_reverse]; exact hPl
        have e7 : R7.length ≤ 20 := by rw [← h7, List.length_map, List.length_reverse]; exact hPl
        have HR := Lib.hid (And.intro h5 (And.intro h6 h7))
        have HRL := Lib.hid (And.intro e5 (And.intro e6 e7))
        clear h5 h6 h7 e5 e6 e7
        have HIN := Lib.hid hin
        have HTB := Lib.hid htb
        have HDR := Lib.hid hdr
        have HPL := Lib.hid hPl
        have HU := Lib.hid hu
        have HK := Lib.hid (And.intro hk (And.intro hlt hi))
        have H64 := Lib.hid hb64
        have hua : Upd [] wr (wr.alloc (.cells #[.int .i64 b.x1, .int .i64 b.x2, .int .i64 b.y1, .int .i64 b.y2, .int .u32 (b.id : Int)] 34)) := (Upd.refl _ _).alloc _
        have hbx : (wr.alloc (.cells #[.int .i64 b.x1, .int .i64 b.x2, .int .i64 b.y1, .int .i64 b.y2, .int .u32 (b.id : Int)] 34)).heap[wr.heap.size]? = some (.cells #[.int .i64 b.x1, .int .i64 b.x2, .int .i64 b.y1, .int .i64 b.y2, .int .u32 (b.id : Int)] 34 (0, 0)) := heap_alloc_new _ _
        have HUA := Lib.hid hua
        have HBX := Lib.hid hbx
        have hsi := fun (j : Nat) (h : j < 4) w => side_index b h w
        have HSI := Lib.hid hsi
        clear hin htb hdr hPl hu hk hkn hlt hi ei hb64 hua hbx hbi hP hsi
        go_upto_region 8 with fail
        have HUb := Lib.hid (HU.out.trans HUA.out)
        have HTa := Lib.hid (HTB.out.upd0 HUA.out)
        generalize (wr.alloc (.cells #[.int .i64 b.x1, .int .i64 b.x2, .int .i64 b.y1, .int .i64 b.y2, .int .u32 (b.id : Int)] 34)) = Wb at HBX HUA HUb HTa ⊢
        have HQN := Lib.hid (And.intro (own_lt HTB.out.ra) (And.intro (own_lt HTB.out.rb) (own_lt HTB.out.rc)))
        generalize wr.heap.size = q at HBX HQN ⊢
        have c0 : Wb.cell? ⟨q, 0, none⟩ = some (.int .i64 b.x1) := by have := HBX.out; simp [World.cell?, this]
        have c1 : Wb.cell? ⟨q, 1, none⟩ = some (.int .i64 b.x2) := by have := HBX.out; simp [World.cell?, this]
        have c2 : Wb.cell? ⟨q, 2, none⟩ = some (.int .i64 b.y1) := by have := HBX.out; simp [World.cell?, this]
        have c3 : Wb.cell? ⟨q, 3, none⟩ = some (.int .i64 b.y2) := by have := HBX.out; simp [World.cell?, this]
        go_wp2_with fail
        clear c0 c1 c2 c3
        go_loopg [48] 4 (fun m s48 wr => ∃ j, m + j = 4 ∧ s48 = .int .i64 (j : Int) ∧ (∀ t, t < j → -4611686018427387904 ≤ b.side t ∧ b.side t ≤ 4611686018427387904) ∧ Upd [] Wb wr)
        case atStart => exact ⟨0, by omega, rfl, fun t ht => absurd ht (Nat.not_lt_zero t), Upd.refl _ _⟩
        case round =>
          obtain ⟨j, hj, rfl, hall, hu2⟩ := hrel
          have j0 : (0 : Int) ≤ (j : Int) := Int.natCast_nonneg _
          by_cases hj4 : j < 4
          · have j1 : (j : Int) < 4 := by omega
            have ij := HSI.out j hj4
            obtain ⟨c, hc⟩ : ∃ c, b.side j = c := ⟨_, rfl⟩
            rw [hc] at ij
            have HU2 := Lib.hid hu2
            have HALL := Lib.hid hall
            have HJ := Lib.hid (And.intro hj hj4)
            have HCC := Lib.hid hc
            clear hu2 hall hj hc
            by_cases t1 : c < -4611686018427387904
            · have d1 : decide (c < -4611686018427387904) = true := decide_eq_true t1
              clear t1
              go_wp2_with fail
              (with_reducible refine (awake18 _).mono ?_)
              rintro e w6 ⟨rfl, hu6⟩
              have HU6 := Lib.hid (HUb.out.trans (HU2.out.trans hu6))
              clear hu6
              go_wp2_with fail
              go_ret
              exact ⟨rfl, HU6.out.below⟩
            have d1 : decide (c < -4611686018427387904) = false := decide_eq_false t1
            by_cases t2 : 4611686018427387904 < c
            · have d2 : decide (4611686018427387904 < c) = true := decide_eq_true t2
              clear t1 t2
              go_wp2_with fail
              (with_reducible refine (awake18 _).mono ?_)
              rintro e w6 ⟨rfl, hu6⟩
              have HU6 := Lib.hid (HUb.out.trans (HU2.out.trans hu6))
              clear hu6
              go_wp2_with fail
              go_ret
              exact ⟨rfl, HU6.out.below⟩
            have d2 : decide (4611686018427387904 < c) = false := decide_eq_false t2
            have HT := Lib.hid (show -4611686018427387904 ≤ c ∧ c ≤ 4611686018427387904 by omega)
            clear t1 t2
            go_wp2_with fail
            go_roundg (3 - j)
            case measure => have := HJ.out; omega
            case rel =>
              refine ⟨j + 1, by have := HJ.out; omega, by go_num, fun t ht => ?_, HU2.out⟩
              rcases Nat.lt_or_ge t j with h | h
              · exact HALL.out t h
              · obtain rfl : t = j := by omega
                rw [HCC.out]; exact HT.out
          · have h62 : b.in62 := by
              have h0 := hall 0 (by omega)
              have h1 := hall 1 (by omega)
              have h2 := hall 2 (by omega)
              have h3 := hall 3 (by omega)
              unfold Bx.side at h0 h1 h2 h3
              exact ⟨h0, h1, h2, h3⟩
            have nj : ¬ (j : Int) < 4 := by omega
            have hbx2 := (hu2.block q (lt_of_block HBX.out) (by simp)).trans HBX.out
            have c0 : wr.cell? ⟨q, 0, none⟩ = some (.int .i64 b.x1) := by simp [World.cell?, hbx2]
            have c1 : wr.cell? ⟨q, 1, none⟩ = some (.int .i64 b.x2) := by simp [World.cell?, hbx2]
            have c2 : wr.cell? ⟨q, 2, none⟩ = some (.int .i64 b.y1) := by simp [World.cell?, hbx2]
            have c3 : wr.cell? ⟨q, 3, none⟩ = some (.int .i64 b.y2) := by simp [World.cell?, hbx2]
            have HB2 := Lib.hid hbx2
            have HT2 := Lib.hid (HTa.out.upd0 hu2)
            have HU2 := Lib.hid (HUb.out.trans hu2)
            have H62 := Lib.hid h62
            clear h62 hall hu2 hbx2 hj hj4
            go_upto_region 14 with fail
            clear nj
            have hq := tdiv_in HG.out.2
            obtain ⟨p2, hp2⟩ : ∃ p, y.tdiv 2 = p := ⟨_, rfl⟩
            obtain ⟨p3, hp3⟩ : ∃ p, y.tdiv 3 = p := ⟨_, rfl⟩
            have HPP := Lib.hid (And.intro hp2 hp3)
            rw [hp2, hp3] at hq
            have HQ := Lib.hid hq
            have v1 : wrap64 p2 = p2 := wrap64_id (by omega) (by omega)
            have v2 : wrap64 p3 = p3 := wrap64_id (by omega) (by omega)
            have g62 := H62.out
            unfold Bx.in62 at g62
            have v3 : wrap64 (b.x1 - p3) = b.x1 - p3 := wrap64_id (by omega) (by omega)
            have v4 : wrap64 (b.x2 - p3) = b.x2 - p3 := wrap64_id (by omega) (by omega)
            have v5 : wrap64 (b.y1 + p2) = b.y1 + p2 := wrap64_id (by omega) (by omega)
            have v6 : wrap64 (b.y2 + p2) = b.y2 + p2 := wrap64_id (by omega) (by omega)
            have v7 : wrap64 (-b.y1) = -b.y1 := wrap64_id (by omega) (by omega)
            have v8 : wrap64 (-b.y2) = -b.y2 := wrap64_id (by omega) (by omega)
            have HV := Lib.hid (And.intro v1 (And.intro v2 (And.intro v3 (And.intro v4 (And.intro v5 (And.intro v6 (And.intro v7 v8)))))))
            clear hq g62 v1 v2 v3 v4 v5 v6 v7 v8
            go_wp2_with fail
            rw [HV.out.1, HV.out.2.1, HV.out.2.2.1, HV.out.2.2.2.1, HV.out.2.2.2.2.1, HV.out.2.2.2.2.2.1]
            clear hp2 hp3
            (with_reducible refine (boxC18 _ _ _ _ _).mono ?_)
            rintro e w0 ⟨rfl, hu⟩
            clear c0 c1 c2 c3
            have U0 := Lib.hid (show Upd [] wr (w0.alloc (.cells #[.int .i64 (b.x1 - p3), .int .i64 (b.x2 - p3), .int .i64 (b.y1 + p2), .int .i64 (b.y2 + p2), .int .u32 0] 34)) from hu.alloc _)
            have T0 := Lib.hid (HT2.out.upd0 U0.out)
            have HW0 := Lib.hid (show w.heap.size ≤ w0.heap.size from (HU2.out.trans hu).size)
            clear hu
            go_wp2_with (at_builtin; refine wpList_app _ rfl _ _ 22 rfl w.heap.size 34 iB (.agg #[.int .i64 0, .int .i64 0, .int .i64 0, .int .i64 0, .int .u32 0]) 5 40 Tryz.underlying22 hiB hB0 hB1 hB2 rfl (by decide) _ _ _ rfl T0.out.ra _ 1 [.int .i64 (b.x1 - p3), .int .i64 (b.x2 - p3), .int .i64 (b.y1 + p2), .int .i64 (b.y2 + p2), .int .u32 0] rfl (sees_lit w0 #[.int .i64 (b.x1 - p3), .int .i64 (b.x2 - p3), .int .i64 (b.y1 + p2), .int .i64 (b.y2 + p2), .int .u32 0] 34 5 1 rfl (by decide)) (by simp [Value.oneCell']) (by have := HRL.out.1; unfold maxLen; omega) (by have := HRL.out.1; omega) (by have := HW0.out; simp; omega) ?_)
            intro A0' C0' v0 HP
            have HC1 := Lib.hid (show v0.heap[q]? = some (.cells #[.int .i64 b.x1, .int .i64 b.x2, .int .i64 b.y1, .int .i64 b.y2, .int .u32 (b.id : Int)] 34 (0, 0)) from by
              have g := (U0.out.block q (lt_of_block HB2.out) (by simp)).trans HB2.out
              exact (HP.upd.block q (lt_of_block g) (fun h => by have := HQN.out.1 q h; omega)).trans g)
            have TT1 := Lib.hid (Tb.push (x := ⟨(b.x1 - p3), (b.x2 - p3), (b.y1 + p2), (b.y2 + p2), 0⟩) T0.out HP).rot
            have HUU1 := Lib.hid (show Upd [] w v0 from (HU2.out.trans U0.out).trans' HP.upd (fun j hj => .inr (own_ge T0.out.ra j hj)))
            clear HP
            have c0 : v0.cell? ⟨q, 0, none⟩ = some (.int .i64 b.x1) := by have := HC1.out; simp [World.cell?, this]
            have c1 : v0.cell? ⟨q, 1, none⟩ = some (.int .i64 b.x2) := by have := HC1.out; simp [World.cell?, this]
            have c2 : v0.cell? ⟨q, 2, none⟩ = some (.int .i64 b.y1) := by have := HC1.out; simp [World.cell?, this]
            have c3 : v0.cell? ⟨q, 3, none⟩ = some (.int .i64 b.y2) := by have := HC1.out; simp [World.cell?, this]
            go_wp2_with fail
            (with_reducible refine (boxC18 _ _ _ _ _).mono ?_)
            rintro e w1 ⟨rfl, hu⟩
            clear c0 c1 c2 c3
            have U1 := Lib.hid (show Upd [] v0 (w1.alloc (.cells #[.int .i64 b.y1, .int .i64 b.y2, .int .i64 b.x1, .int .i64 b.x2, .int .u32 0] 34)) from hu.alloc _)
            have T1 := Lib.hid (TT1.out.upd0 U1.out)
            have HW1 := Lib.hid (show w.heap.size ≤ w1.heap.size from (HUU1.out.trans hu).size)
            clear hu
            go_wp2_with (at_builtin; refine wpList_app _ rfl _ _ 22 rfl w.heap.size 34 iB (.agg #[.int .i64 0, .int .i64 0, .int .i64 0, .int .i64 0, .int .u32 0]) 5 40 Tryz.underlying22 hiB hB0 hB1 hB2 rfl (by decide) _ _ _ rfl T1.out.ra _ 1 [.int .i64 b.y1, .int .i64 b.y2, .int .i64 b.x1, .int .i64 b.x2, .int .u32 0] rfl (sees_lit w1 #[.int .i64 b.y1, .int .i64 b.y2, .int .i64 b.x1, .int .i64 b.x2, .int .u32 0] 34 5 1 rfl (by decide)) (by simp [Value.oneCell']) (by have := HRL.out.2.1; unfold maxLen; omega) (by have := HRL.out.2.1; omega) (by have := HW1.out; simp; omega) ?_)
            intro A1' C1' v1 HP
            have HC2 := Lib.hid (show v1.heap[q]? = some (.cells #[.int .i64 b.x1, .int .i64 b.x2, .int .i64 b.y1, .int .i64 b.y2, .int .u32 (b.id : Int)] 34 (0, 0)) from by
              have g := (U1.out.block q (lt_of_block HC1.out) (by simp)).trans HC1.out
              exact (HP.upd.block q (lt_of_block g) (fun h => by have := HQN.out.2.1 q h; omega)).trans g)
            have TT2 := Lib.hid (Tb.push (x := ⟨b.y1, b.y2, b.x1, b.x2, 0⟩) T1.out HP).rot
            have HUU2 := Lib.hid (show Upd [] w v1 from (HUU1.out.trans U1.out).trans' HP.upd (fun j hj => .inr (own_ge T1.out.ra j hj)))
            clear HP
            have c0 : v1.cell? ⟨q, 0, none⟩ = some (.int .i64 b.x1) := by have := HC2.out; simp [World.cell?, this]
            have c1 : v1.cell? ⟨q, 1, none⟩ = some (.int .i64 b.x2) := by have := HC2.out; simp [World.cell?, this]
            have c2 : v1.cell? ⟨q, 2, none⟩ = some (.int .i64 b.y1) := by have := HC2.out; simp [World.cell?, this]
            have c3 : v1.cell? ⟨q, 3, none⟩ = some (.int .i64 b.y2) := by have := HC2.out; simp [World.cell?, this]
            go_wp2_with fail
            rw [HV.out.2.2.2.2.2.2.1, HV.out.2.2.2.2.2.2.2]
            (with_reducible refine (boxC18 _ _ _ _ _).mono ?_)
            rintro e w2 ⟨rfl, hu⟩
            clear c0 c1 c2 c3
            have U2 := Lib.hid (show Upd [] v1 (w2.alloc (.cells #[.int .i64 b.x1, .int .i64 b.x2, .int .i64 (-b.y2), .int .i64 (-b.y1), .int .u32 0] 34)) from hu.alloc _)
            have T2 := Lib.hid (TT2.out.upd0 U2.out)
            have HW2 := Lib.hid (show w.heap.size ≤ w2.heap.size from (HUU2.out.trans hu).size)
            clear hu
            go_wp2_with (at_builtin; refine wpList_app _ rfl _ _ 22 rfl w.heap.size 34 iB (.agg #[.int .i64 0, .int .i64 0, .int .i64 0, .int .i64 0, .int .u32 0]) 5 40 Tryz.underlying22 hiB hB0 hB1 hB2 rfl (by decide) _ _ _ rfl T2.out.ra _ 1 [.int .i64 b.x1, .int .i64 b.x2, .int .i64 (-b.y2), .int .i64 (-b.y1), .int .u32 0] rfl (sees_lit w2 #[.int .i64 b.x1, .int .i64 b.x2, .int .i64 (-b.y2), .int .i64 (-b.y1), .int .u32 0] 34 5 1 rfl (by decide)) (by simp [Value.oneCell']) (by have := HRL.out.2.2; unfold maxLen; omega) (by have := HRL.out.2.2; omega) (by have := HW2.out; simp; omega) ?_)
            intro A2' C2' v2 HP
            have HC3 := Lib.hid (show v2.heap[q]? = some (.cells #[.int .i64 b.x1, .int .i64 b.x2, .int .i64 b.y1, .int .i64 b.y2, .int .u32 (b.id : Int)] 34 (0, 0)) from by
              have g := (U2.out.block q (lt_of_block HC2.out) (by simp)).trans HC2.out
              exact (HP.upd.block q (lt_of_block g) (fun h => by have := HQN.out.2.2 q h; omega)).trans g)
            have TT3 := Lib.hid (Tb.push (x := ⟨b.x1, b.x2, (-b.y2), (-b.y1), 0⟩) T2.out HP).rot
            have HUU3 := Lib.hid (show Upd [] w v2 from (HUU2.out.trans U2.out).trans' HP.upd (fun j hj => .inr (own_ge T2.out.ra j hj)))
            clear HP
            go_wp2_with fail
            go_roundg (n - k)
            case measure => have := HK.out; omega
            case rel =>
              have e5 : (b :: P).reverse.map (mvB (-(y.tdiv 3)) (y.tdiv 2)) = R5 ++ [⟨b.x1 - p3, b.x2 - p3, b.y1 + p2, b.y2 + p2, 0⟩] := by rw [List.reverse_cons, List.map_append, HR.out.1, ← HPP.out.1, ← HPP.out.2]; rfl
              have e6 : (b :: P).reverse.map tuB = R6 ++ [⟨b.y1, b.y2, b.x1, b.x2, 0⟩] := by rw [List.reverse_cons, List.map_append, HR.out.2.1]; rfl
              have e7 : (b :: P).reverse.map miY = R7 ++ [⟨b.x1, b.x2, -b.y2, -b.y1, 0⟩] := by rw [List.reverse_cons, List.map_append, HR.out.2.2]; rfl
              have hk1 := HK.out.2.1
              have hk2 := HK.out.2.2
              refine ⟨k + 1, A0', C0', A1', C1', A2', C2', by have := HK.out; omega, by omega, by go_num, ?_⟩
              rw [HDR.out, e5, e6, e7, List.length_append, List.length_append, List.length_append]
              refine ⟨rfl, rfl, rfl, fun c hc => ?_, TT3.out, HUU3.out⟩
              rcases List.mem_cons.1 hc with rfl | hc
              · exact H62.out
              · exact HIN.out c hc
      · have hkn : k = n := by omega
        have hd : l.drop (n - k) = l := by rw [hkn, Nat.sub_self]; rfl
        rw [hd] at hin htb ⊢
        have ei : (n : Int) - 1 - (k : Int) = -1 := by omega
        rw [ei]
        have hf := moved_facts hin HG.out.2
        obtain ⟨R5, h5⟩ : ∃ R, l.reverse.map (mvB (-(y.tdiv 3)) (y.tdiv 2)) = R := ⟨_, rfl⟩
        obtain ⟨R6, h6⟩ : ∃ R, l.reverse.map tuB = R := ⟨_, rfl⟩
        obtain ⟨R7, h7⟩ : ∃ R, l.reverse.map miY = R := ⟨_, rfl⟩
        rw [h5, h6, h7] at htb hf
        rw [h5, h6, h7]
        obtain ⟨⟨f0, f5, f6, f7⟩, g5, g6, gE, g7⟩ := hf
        have hl := HG.out.1
        have e5 : R5.length ≤ 20 := by rw [← h5, List.length_map, List.length_reverse]; exact hl
        have e6 : R6.length ≤ 20 := by rw [← h6, List.length_map, List.length_reverse]; exact hl
        have e7 : R7.length ≤ 20 := by rw [← h7, List.length_map, List.length_reverse]; exact hl
        obtain ⟨E, hE⟩ : ∃ E : Nat, rimE l = E := ⟨_, rfl⟩
        obtain ⟨hh, hlo, hv, -, -⟩ := wideV_open (rimA l).toNat
        have ha : Calls Tryz.prog 30 #[.slice A n C] wr fun e w' => e = .returned (.tuple #[.agg #[.int .u64 (hh : Int), .int .u64 (hlo : Int)], .int .i64 (E : Int)]) ∧ Upd [] wr w' := by
          have := rimAll (.slice A n C) l wr (HS.out.upd0 hu) (by omega) f0
          unfold RimPost at this
          rw [hE, hv] at this
          exact this
        have ha6 : ∀ W, Upd [] wr W → Calls Tryz.prog 30 #[.slice A6 R6.length C6] W fun e w' => e = .returned (.tuple #[.agg #[.int .u64 (hh : Int), .int .u64 (hlo : Int)], .int .i64 (E : Int)]) ∧ Upd [] W w' := fun W hW => by
          have := rimAll (.slice A6 R6.length C6) R6 W (See.of_row (htb.upd0 hW).rb) (by omega) f6
          unfold RimPost at this
          rw [g6, gE, hE, hv] at this
          exact this
        have hc5 : ∀ W, Upd [] wr W → Calls Tryz.prog 33 #[.slice A5 R5.length C5] W fun e w' => e = .returned (.agg #[.int .u64 (hh : Int), .int .u64 (hlo : Int)]) ∧ Upd [] W w' := fun W hW => by
          have := sidesC (.slice A5 R5.length C5) R5 W (See.of_row (htb.upd0 hW).ra) (by omega) f5
          rw [g5, hv] at this
          exact this
        have hc7 : ∀ W, Upd [] wr W → Calls Tryz.prog 33 #[.slice A7 R7.length C7] W fun e w' => e = .returned (.agg #[.int .u64 (hh : Int), .int .u64 (hlo : Int)]) ∧ Upd [] W w' := fun W hW => by
          have := sidesC (.slice A7 R7.length C7) R7 W (See.of_row (htb.upd0 hW).rc) (by omega) f7
          rw [g7, hv] at this
          exact this
        have HA := Lib.hid ha
        have HA5 := Lib.hid ha6
        have HC6 := Lib.hid hc5
        have HC7 := Lib.hid hc7
        have HU := Lib.hid hu
        clear ha ha6 hc5 hc7 hu htb hin f0 f5 f6 f7 g5 gE g6 g7 hE hv h5 h6 h7 e5 e6 e7 hkn hd ei hk hlt
        go_wp2_with fail
        (with_reducible refine HA.out.mono ?_)
        rintro e w1 ⟨rfl, hu1⟩
        have HN1 := Lib.hid (heap_alloc_new w1 (.cells #[.int .u64 (hh : Int), .int .u64 (hlo : Int)] 27))
        have HV1 := Lib.hid (show Upd [] wr (w1.alloc (.cells #[.int .u64 (hh : Int), .int .u64 (hlo : Int)] 27)) from hu1.alloc _)
        clear hu1
        go_wp2_with fail
        (with_reducible refine (HA5.out _ HV1.out).mono ?_)
        rintro e w2 ⟨rfl, hu2⟩
        have HN2 := Lib.hid (heap_alloc_new w2 (.cells #[.int .u64 (hh : Int), .int .u64 (hlo : Int)] 27))
        have HV2 := Lib.hid (show Upd [] (w1.alloc (.cells #[.int .u64 (hh : Int), .int .u64 (hlo : Int)] 27)) (w2.alloc (.cells #[.int .u64 (hh : Int), .int .u64 (hlo : Int)] 27)) from hu2.alloc _)
        clear hu2
        go_upto_region 19 with fail
        generalize w2.alloc (.cells #[.int .u64 (hh : Int), .int .u64 (hlo : Int)] 27) = Wf at HN2 HV2 ⊢
        have b1 := (HV2.out.block _ (lt_of_block HN1.out) (by simp)).trans HN1.out
        have b2 := HN2.out
        have c10 : ∀ x : QW Wf, x.w.cell? ⟨w1.heap.size, 0, none⟩ = some (.int .u64 (hh : Int)) := fun x => by have := (x.up.block _ (lt_of_block b1) (by simp)).trans b1; simp [World.cell?, this]
        have c11 : ∀ x : QW Wf, x.w.cell? ⟨w1.heap.size, 1, none⟩ = some (.int .u64 (hlo : Int)) := fun x => by have := (x.up.block _ (lt_of_block b1) (by simp)).trans b1; simp [World.cell?, this]
        have c20 : ∀ x : QW Wf, x.w.cell? ⟨w2.heap.size, 0, none⟩ = some (.int .u64 (hh : Int)) := fun x => by have := (x.up.block _ (lt_of_block b2) (by simp)).trans b2; simp [World.cell?, this]
        have c21 : ∀ x : QW Wf, x.w.cell? ⟨w2.heap.size, 1, none⟩ = some (.int .u64 (hlo : Int)) := fun x => by have := (x.up.block _ (lt_of_block b2) (by simp)).trans b2; simp [World.cell?, this]
        have HGW := Lib.hid (HU.out.trans (HV1.out.trans HV2.out))
        have H6 := Lib.hid (show ∀ x : QW Wf, Calls Tryz.prog 33 #[.slice A5 R5.length C5] x.w fun e w' => e = .returned (.agg #[.int .u64 (hh : Int), .int .u64 (hlo : Int)]) ∧ Upd [] x.w w' from fun x => HC6.out x.w (HV1.out.trans (HV2.out.trans x.up)))
        have H7 := Lib.hid (show ∀ x : QW Wf, Calls Tryz.prog 33 #[.slice A7 R7.length C7] x.w fun e w' => e = .returned (.agg #[.int .u64 (hh : Int), .int .u64 (hlo : Int)]) ∧ Upd [] x.w w' from fun x => HC7.out x.w (HV1.out.trans (HV2.out.trans x.up)))
        have HWS := fun w => wide_same (hh : Int) (hlo : Int) w
        clear b1 b2
        refine wp_region_quietU (by kernel_rfl) (by kernel_rfl) ?_
        repeat (go_big_quiet_step (first | (with_reducible exact Calls.quietU (H6.out _)) | (with_reducible exact Calls.quietU (H7.out _)) | (with_reducible exact Calls.quietU (awake18 _))))
        refine wpQuiet_nil ?_
        intro wq hw'
        obtain ⟨⟨wy, hwq⟩, hw''⟩ := hw'
        dsimp only at hw''
        subst hw''
        go_wp2_with fail
        go_ret
        exact ⟨rfl, (HGW.out.trans hwq).below⟩
end Go.Proofs.YtokpdocabmaagaaGreat
