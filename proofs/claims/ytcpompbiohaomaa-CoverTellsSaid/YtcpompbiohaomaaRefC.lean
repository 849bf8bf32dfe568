/- The document's nodes that make up a range: parent, Canon. -/
import Derived.Test.YtcpompbiohaomaaRefE
namespace Go.Proofs.Ytcpompbiohaomaa
open Go.RowKit

def ParPost (w : World) (n : Nat) (e : Ending) (w' : World) : Prop := ∃ z : Int, e = .returned (.int .i64 z) ∧ -1 ≤ z ∧ z < (n : Int) ∧ w' = w

set_option maxRecDepth 100000 in
set_option maxHeartbeats 2000000 in
theorem parentC (v : Value) (L : List Nd) (p : Int) (n : Nat) (w : World) (hn : L.length = n) (hs : See KD w v L) (hL : n < 1000000) :
    Calls Try.prog 86 #[v, .int .i64 p] w (ParPost w n) := by
  obtain ⟨A, C, rfl⟩ := hs.form
  have HS := Lib.hid hs
  rw [hn]
  have HN := Lib.hid hn
  have b2 : (n : Int) < 1000000 := by omega
  clear hs hn hL
  go_enter Try.func86, Try.ntmps86
  go_wp2_with fail
  go_loopg [5] n (fun m s5 wr => ∃ i, m + i = n ∧ s5 = .int .i64 (i : Int) ∧ wr = w)
  case atStart => exact ⟨0, rfl, rfl, rfl⟩
  case round =>
    obtain ⟨i, hi, rfl, rfl⟩ := hrel
    have HI := Lib.hid hi
    have i0 : (0 : Int) ≤ (i : Int) := Int.natCast_nonneg _
    by_cases hlt : i < n
    · obtain ⟨x, hx⟩ : ∃ x, L[i]? = some x := ⟨_, List.getElem?_eq_getElem (by rw [HN.out]; exact hlt)⟩
      obtain ⟨g, q, hA, -, -, c0, c1, c2, -, -, -, -⟩ := KD.at HS.out hx
      subst hA
      obtain ⟨xk, xl, xr, xf, xt, xa, xi⟩ := x
      dsimp only at c0 c1 c2
      have i1 : (i : Int) < (n : Int) := by omega
      have i2 : (-1 : Int) ≤ (i : Int) := by omega
      clear hx hi
      by_cases h1 : xl = p
      · have d1 : (xl == p) = true := by rw [beq_iff_eq]; exact h1
        clear h1
        go_wp2_with fail
        go_ret
        exact ⟨_, rfl, i2, i1, rfl⟩
      · have d1 : (xl == p) = false := by rw [beq_eq_false_iff_ne]; exact h1
        clear h1
        by_cases h2 : xr = p
        · have d2 : (xr == p) = true := by rw [beq_iff_eq]; exact h2
          clear h2
          go_wp2_with fail
          go_ret
          exact ⟨_, rfl, i2, i1, rfl⟩
        · have d2 : (xr == p) = false := by rw [beq_eq_false_iff_ne]; exact h2
          clear h2
          go_wp2_with fail
          go_roundg (n - (i + 1))
          case measure => have := HI.out; omega
          case rel => exact ⟨i + 1, by have := HI.out; omega, by go_num, rfl⟩
    · have hd : decide ((i : Int) < (n : Int)) = false := decide_eq_false (by omega)
      have n0 : (0 : Int) ≤ (n : Int) := Int.natCast_nonneg _
      clear hi
      go_wp2_with fail
      go_ret
      exact ⟨-1, rfl, by omega, by omega, rfl⟩

/-- What the document's Canon leaves: its second answer is what counts. -/
def CanPost (w : World) (E : Nat) (e : Ending) (w' : World) : Prop := ∃ v, e = .returned (.tuple #[v, .int .i64 (E : Int)]) ∧ Upd [] w w'

set_option maxRecDepth 100000 in
set_option maxHeartbeats 2000000 in
theorem canon_none (v : Value) (a b : Nat) (h : a = b) (w : World) : Calls Try.prog 65 #[v, .int .i64 (a : Int), .int .i64 (b : Int)] w (CanPost w 0) := by
  subst h
  have d : ((a : Int) == (a : Int)) = true := by rw [beq_iff_eq]
  go_enter Try.func65, Try.ntmps65
  go_wp2_with fail
  go_ret2
  exact ⟨_, rfl, Upd.refl _ _⟩

set_option maxRecDepth 100000 in
set_option maxHeartbeats 8000000 in
theorem canon_some (v : Value) (L : List Nd) (N a b n : Nat) (hn : L.length = n) (hL : L = nodesL 0 N 0) (hN : 0 < N) (hNb : N < 1000) (hab : a < b) (hb : b ≤ N) (w : World) (hs : See KD w v L) :
    Calls Try.prog 65 #[v, .int .i64 (a : Int), .int .i64 (b : Int)] w (CanPost w (ent a b 0 N)) := by
  obtain ⟨i1, hi1, hy0, hy1, hy2⟩ := info_parts kn_info
  obtain ⟨A, C, rfl⟩ := hs.form
  have hnn : n = 2 * N - 1 := by rw [← hn, hL, nodesL_length _ hN]; omega
  have hen := fun w => enteredC (.slice A L.length C) L a b (by rw [hn]; omega) N 0 N 0 w (by omega) hN ⟨[], [], by rw [hL]; simp, rfl⟩
  rw [show 0 + 2 * (N - 0) - 2 = n - 1 by omega] at hen
  obtain ⟨E, hE⟩ : ∃ E, ent a b 0 N = E := ⟨_, rfl⟩
  rw [hE] at hen ⊢
  rw [hn] at hen ⊢
  have hpar := fun p w => parentC (.slice A n C) L p n w hn
  rw [hn] at hs
  have hmx : ∀ leaf, leaf ≤ b → (leaf - a) * n ≤ 2000000 := fun leaf h => by
    have := Nat.mul_le_mul (show leaf - a ≤ 1000 by omega) (show n ≤ 2000 by omega)
    omega
  have hn1 : Value.int .i64 ((n : Int) - 1) = Value.int .i64 ((n - 1 : Nat) : Int) := by congr 1; omega
  have HS := Lib.hid hs
  have HN := Lib.hid hn
  have HEN := Lib.hid hen
  have HPAR := Lib.hid hpar
  have HMX0 := Lib.hid hmx
  have HN1 := Lib.hid hn1
  have d0 : ((a : Int) == (b : Int)) = false := by rw [beq_eq_false_iff_ne]; omega
  have a0 : (0 : Int) ≤ (a : Int) := Int.natCast_nonneg _
  have b1 : (b : Int) < 1000 := by omega
  have n0 : (0 : Int) < (n : Int) := by omega
  have n1 : (n : Int) < 2000 := by omega
  have HAB := Lib.hid (And.intro hab (And.intro hb (show n < 2000 by omega)))
  clear hs hn hen hpar hmx hn1 hL hE hnn hab hb
  go_enter Try.func65, Try.ntmps65
  go_wp2_with fail
  go_loopg [8, 9, 10, 11] (b - a) (fun m s8 s9 _ _ wr => ∃ (k : Nat) (l : List Nat) (A' : Option Addr) (C' : Nat), m + k = b ∧ a ≤ k ∧ s9 = .int .i64 (k : Int) ∧ s8 = .slice A' l.length C' ∧ Upd [] w wr ∧ KN.row wr w.heap.size (.slice A' l.length C') l ∧ l.length ≤ (k - a) * n)
  case atStart => exact ⟨a, [], none, 0, by have := HAB.out.1; omega, Nat.le_refl _, rfl, rfl, Upd.refl _ _, World.ownsRow_nil _ _ _ _, by simp⟩
  case round =>
    obtain ⟨k, l, A1, C1, hk, hak, rfl, rfl, hu, hrow, hll⟩ := hrel
    obtain ⟨wl, rfl⟩ : ∃ wl : World, wl = wr := ⟨_, rfl⟩
    have k0 : (0 : Int) ≤ (k : Int) := Int.natCast_nonneg _
    by_cases hlt : k < b
    · have k1 : (k : Int) < (b : Int) := by omega
      have hmk := HMX0.out k (by omega)
      have hmk1 := HMX0.out (k + 1) (by omega)
      obtain ⟨T, hT⟩ : ∃ T, (k - a) * n = T := ⟨_, rfl⟩
      have hT1 : (k + 1 - a) * n = T + n := by rw [← hT, show k + 1 - a = (k - a) + 1 by omega, Nat.add_mul, Nat.one_mul]
      rw [hT] at hll hmk
      rw [hT1] at hmk1
      have HMX := Lib.hid hmk1
      have HO := Lib.hid (And.intro hu (And.intro hrow hll))
      have HK := Lib.hid (And.intro hk (And.intro hak (And.intro hlt hT1)))
      clear hk hak hu hrow hll hmk hmk1 hT hT1 hlt
      go_wp2_with fail
      go_loopg [8, 10, 11] n (fun m s8 s10 _ wr => ∃ (j : Nat) (l : List Nat) (A' : Option Addr) (C' : Nat), m + j = n ∧ s10 = .int .i64 (j : Int) ∧ s8 = .slice A' l.length C' ∧ Upd [] w wr ∧ KN.row wr w.heap.size (.slice A' l.length C') l ∧ l.length ≤ T + j)
      case atStart => exact ⟨0, l, A1, C1, rfl, rfl, rfl, HO.out.1, HO.out.2.1, by have := HO.out.2.2; omega⟩
      case round =>
        obtain ⟨j, l, A1, C1, hj, rfl, rfl, hu, hrow, hll⟩ := hrel
        obtain ⟨wq, rfl⟩ : ∃ wq : World, wq = wr := ⟨_, rfl⟩
        have j0 : (0 : Int) ≤ (j : Int) := Int.natCast_nonneg _
        have HJ := Lib.hid hj
        have HB := Lib.hid (And.intro hu (And.intro hrow (And.intro hll trivial)))
        by_cases hlt : j < n
        · have j1 : (j : Int) < (n : Int) := by omega
          have hsee := HS.out.upd0 hu
          obtain ⟨x, hx⟩ : ∃ x, L[j]? = some x := ⟨_, List.getElem?_eq_getElem (by rw [HN.out]; exact hlt)⟩
          obtain ⟨g, q, hA, -, -, c0, c1, c2, c3, c4, c5, c6⟩ := KD.at hsee hx
          have HPC := Lib.hid (HPAR.out (j : Int) wq hsee (by have := HAB.out.2.2; omega))
          subst hA
          obtain ⟨xk, xl, xr, xf, xt, xa, xi⟩ := x
          have hwc := fun w => withinC ⟨xk, xl, xr, xf, xt, xa, xi⟩ a b w
          unfold ndV at hwc
          dsimp only at c0 c1 c2 c3 c4 c5 c6 hwc
          have HSEE := Lib.hid hsee
          clear hx hj hsee hu hrow hll
          go_upto_region 11 with ((with_reducible refine HPC.out.mono ?_); rintro e w' ⟨z, rfl, hz1, hz2, rfl⟩)
          by_cases h1 : xf = (k : Int)
          · have d1 : (xf == (k : Int)) = true := by rw [beq_iff_eq]; exact h1
            clear h1
            cases hwv : withinB ⟨xk, xl, xr, xf, xt, xa, xi⟩ a b with
            | false =>
              rw [hwv] at hwc
              have HWC := Lib.hid hwc
              clear hwc hwv
              go_wp2_with fail
              (with_reducible refine (HWC.out _).mono ?_)
              rintro e w1 ⟨rfl, hu1⟩
              have HU1 := Lib.hid hu1
              clear hu1
              go_wp2_with fail
              go_roundg (n - (j + 1))
              case measure => have := HJ.out; omega
              case rel => exact ⟨j + 1, l, A1, C1, by have := HJ.out; omega, by go_num, rfl, HB.out.1.trans HU1.out, own_upd HB.out.2.1 HU1.out (by simp), by have := HB.out.2.2.1; omega⟩
            | true =>
              rw [hwv] at hwc
              have HWC := Lib.hid hwc
              clear hwc hwv
              by_cases hz : z < 0
              · have dz : decide (z < 0) = true := decide_eq_true hz
                clear hz
                go_wp2_with fail
                (with_reducible refine (HWC.out _).mono ?_)
                rintro e w1 ⟨rfl, hu1⟩
                have HU1 := Lib.hid hu1
                clear hu1
                go_wp2_with (at_builtin; refine wpList_app _ rfl _ _ 67 rfl w.heap.size 3 i1 (.int .i64 0) 1 8 Try.underlying67 hi1 hy0 hy1 hy2 rfl (by decide) _ l.length (KN.all l) rfl (own_upd HB.out.2.1 (HU1.out.trans ((Upd.refl [] _).alloc _)) (by simp)) _ 1 [.int .i64 (j : Int)] rfl (sees_lit _ #[.int .i64 (j : Int)] 3 1 1 rfl (by decide)) (by simp [Value.oneCell']) (by have := HB.out.2.2.1; have := HMX.out; unfold maxLen; omega) (by have := HB.out.2.2.1; have := HMX.out; omega) (by have := HB.out.1.size; have := (HU1.out).size; simp; omega) ?_)
                intro A' C' wa HP
                have hrow : KN.row wa w.heap.size (.slice A' (l ++ [j]).length C') (l ++ [j]) := by
                  have h := HP.own
                  unfold Kind.row
                  rw [List.length_append, Kind.all_app]
                  exact h
                have hua : Upd [] w wa := ((HB.out.1.trans HU1.out).alloc _).trans' HP.upd (fun y hy => .inr (own_ge HB.out.2.1 y hy))
                have hus : True := trivial
                have HE := Lib.hid (And.intro hua hrow)
                clear HP hrow hua hus
                go_wp2_with fail
                go_roundg (n - (j + 1))
                case measure => have := HJ.out; omega
                case rel => exact ⟨j + 1, l ++ [j], A', C', by have := HJ.out; omega, by go_num, by simp, HE.out.1, HE.out.2, by have := HB.out.2.2.1; simp; omega⟩
              · have dz : decide (z < 0) = false := decide_eq_false hz
                obtain ⟨u, rfl⟩ : ∃ u : Nat, z = (u : Int) := ⟨z.toNat, by omega⟩
                have u0 : (0 : Int) ≤ (u : Int) := Int.natCast_nonneg _
                have un : u < n := by omega
                obtain ⟨y, hy⟩ : ∃ y, L[u]? = some y := ⟨_, List.getElem?_eq_getElem (by rw [HN.out]; exact un)⟩
                obtain ⟨g', q', hA, -, -, e0, e1, e2, e3, e4, e5, e6⟩ := KD.at HSEE.out hy
                cases hA
                obtain ⟨yk, yl, yr, yf, yt, ya, yi⟩ := y
                have hyc := fun w => withinC ⟨yk, yl, yr, yf, yt, ya, yi⟩ a b w
                unfold ndV at hyc
                dsimp only at e0 e1 e2 e3 e4 e5 e6 hyc
                have HND := Lib.hid (show NdC w' g (q + u * 7) yk yl yr yf yt ya yi from ⟨e0, e1, e2, e3, e4, e5, e6⟩)
                clear hz hy e0 e1 e2 e3 e4 e5 e6
                obtain ⟨bv, hbv⟩ : ∃ bv, withinB ⟨yk, yl, yr, yf, yt, ya, yi⟩ a b = bv := ⟨_, rfl⟩
                rw [hbv] at hyc
                have HYC := Lib.hid hyc
                clear hyc hbv
                go_wp2_with fail
                (with_reducible refine (HWC.out _).mono ?_)
                rintro e w1 ⟨rfl, hu1⟩
                obtain ⟨e0, e1, e2, e3, e4, e5, e6⟩ := HND.out.upd0 hu1
                have HU1 := Lib.hid hu1
                clear hu1 c0 c1 c2 c3 c4 c5 c6
                cases bv
                · go_wp2_with fail
                  (with_reducible refine (HYC.out _).mono ?_)
                  rintro e w2 ⟨rfl, hu2⟩
                  have HU2 := Lib.hid (HU1.out.trans hu2)
                  clear hu2 e0 e1 e2 e3 e4 e5 e6
                  go_wp2_with (at_builtin; refine wpList_app _ rfl _ _ 67 rfl w.heap.size 3 i1 (.int .i64 0) 1 8 Try.underlying67 hi1 hy0 hy1 hy2 rfl (by decide) _ l.length (KN.all l) rfl (own_upd HB.out.2.1 (HU2.out.trans ((Upd.refl [] _).alloc _)) (by simp)) _ 1 [.int .i64 (j : Int)] rfl (sees_lit _ #[.int .i64 (j : Int)] 3 1 1 rfl (by decide)) (by simp [Value.oneCell']) (by have := HB.out.2.2.1; have := HMX.out; unfold maxLen; omega) (by have := HB.out.2.2.1; have := HMX.out; omega) (by have := HB.out.1.size; have := (HU2.out).size; simp; omega) ?_)
                  intro A' C' wa HP
                  have hrow : KN.row wa w.heap.size (.slice A' (l ++ [j]).length C') (l ++ [j]) := by
                    have h := HP.own
                    unfold Kind.row
                    rw [List.length_append, Kind.all_app]
                    exact h
                  have hua : Upd [] w wa := ((HB.out.1.trans HU2.out).alloc _).trans' HP.upd (fun y hy => .inr (own_ge HB.out.2.1 y hy))
                  have hus : True := trivial
                  have HE := Lib.hid (And.intro hua hrow)
                  clear HP hrow hua hus
                  go_wp2_with fail
                  go_roundg (n - (j + 1))
                  case measure => have := HJ.out; omega
                  case rel => exact ⟨j + 1, l ++ [j], A', C', by have := HJ.out; omega, by go_num, by simp, HE.out.1, HE.out.2, by have := HB.out.2.2.1; simp; omega⟩
                · go_wp2_with fail
                  (with_reducible refine (HYC.out _).mono ?_)
                  rintro e w2 ⟨rfl, hu2⟩
                  have HU2 := Lib.hid (HU1.out.trans hu2)
                  clear hu2 e0 e1 e2 e3 e4 e5 e6
                  go_wp2_with fail
                  go_roundg (n - (j + 1))
                  case measure => have := HJ.out; omega
                  case rel => exact ⟨j + 1, l, A1, C1, by have := HJ.out; omega, by go_num, rfl, HB.out.1.trans HU2.out, own_upd HB.out.2.1 HU2.out (by simp), by have := HB.out.2.2.1; omega⟩
          · have d1 : (xf == (k : Int)) = false := by rw [beq_eq_false_iff_ne]; exact h1
            clear h1 hwc
            go_wp2_with fail
            go_roundg (n - (j + 1))
            case measure => have := HJ.out; omega
            case rel => exact ⟨j + 1, l, A1, C1, by have := HJ.out; omega, by go_num, rfl, HB.out.1, HB.out.2.1, by have := HB.out.2.2.1; omega⟩
        · have hd : decide ((j : Int) < (n : Int)) = false := decide_eq_false (by omega)
          have HJN := Lib.hid (show j = n by omega)
          clear hj hu hrow hll
          go_wp2_with fail
          go_roundg (b - (k + 1))
          case measure => have := HK.out; omega
          case rel => exact ⟨k + 1, l, A1, C1, by have := HK.out; omega, by have := HK.out; omega, by go_num, rfl, HB.out.1, HB.out.2.1, by rw [HK.out.2.2.2]; have := HB.out.2.2.1; have := HJN.out; omega⟩
    · have hd : decide ((k : Int) < (b : Int)) = false := decide_eq_false (by omega)
      have HO := Lib.hid (And.intro hu (HEN.out _ (HS.out.upd0 hu)))
      clear hk hak hu hrow hll
      go_wp2_with fail
      rw [HN1.out]
      (with_reducible refine HO.out.2.mono ?_)
      rintro e w1 ⟨rfl, hu1⟩
      have HU1 := Lib.hid (HO.out.1.trans hu1)
      clear hu1
      go_wp2_with fail
      go_ret2
      exact ⟨_, rfl, HU1.out⟩
end Go.Proofs.Ytcpompbiohaomaa
