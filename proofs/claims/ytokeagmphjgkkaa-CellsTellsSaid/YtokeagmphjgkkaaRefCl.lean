/- The document's cells: ref02.Cell; Held, Lines, Block, Area, Rim of chapter 19. -/
import Derived.Test.YtokeagmphjgkkaaRefRb
import Derived.Test.YtokeagmphjgkkaaRefS
import Derived.Test.YtokeagmphjgkkaaBlocks
namespace Go.Proofs.Ytokeagmphjgkkaa
open Go.RowKit

set_option maxRecDepth 100000 in
set_option maxHeartbeats 2000000 in
theorem rcellC (b : Bx) (x y : Int) (w : World) : Calls Try.prog 69 #[bxV b, .int .i64 x, .int .i64 y] w fun e w' => e = .returned (.bool (b.cell x y)) ∧ Upd [] w w' := by
  obtain ⟨x1, x2, y1, y2, id⟩ := b
  have hv : (⟨x1, x2, y1, y2, id⟩ : Bx).cell x y = ((!decide (x < x1) && !decide (y < y1)) && (decide (x < x2) && decide (y < y2))) := by
    unfold Bx.cell
    rw [Bool.eq_iff_iff]
    simp only [Bool.and_eq_true, Bool.not_eq_true', decide_eq_true_eq, decide_eq_false_iff_not]
    omega
  rw [hv]
  unfold bxV
  dsimp only
  clear hv
  by_cases h1 : x < x1
  · have d1 : decide (x < x1) = true := decide_eq_true h1
    rw [d1]
    clear h1
    go_enter Try.func69, Try.ntmps69
    go_wp2_with fail
    go_ret
    exact ⟨rfl, (Upd.refl _ _).alloc _⟩
  · have d1 : decide (x < x1) = false := decide_eq_false h1
    rw [d1]
    clear h1
    by_cases h2 : y < y1
    · have d2 : decide (y < y1) = true := decide_eq_true h2
      rw [d2]
      clear h2
      go_enter Try.func69, Try.ntmps69
      go_wp2_with fail
      go_ret
      exact ⟨rfl, (Upd.refl _ _).alloc _⟩
    · have d2 : decide (y < y1) = false := decide_eq_false h2
      rw [d2]
      clear h2
      by_cases h3 : x < x2
      · have d3 : decide (x < x2) = true := decide_eq_true h3
        rw [d3]
        clear h3
        go_enter Try.func69, Try.ntmps69
        go_wp2_with fail
        go_ret
        exact ⟨rfl, (Upd.refl _ _).alloc _⟩
      · have d3 : decide (x < x2) = false := decide_eq_false h3
        rw [d3]
        clear h3
        go_enter Try.func69, Try.ntmps69
        go_wp2_with fail
        go_ret
        exact ⟨rfl, (Upd.refl _ _).alloc _⟩

set_option maxRecDepth 100000 in
set_option maxHeartbeats 4000000 in
theorem rheldC (v : Value) (l : List Bx) (x y : Int) (w : World) (hs : See KBx w v l) (hl : l.length < 100000) :
    Calls Try.prog 32 #[v, .int .i64 x, .int .i64 y] w fun e w' => e = .returned (.bool (covB l x y)) ∧ Upd [] w w' := by
  obtain ⟨A, C, rfl⟩ := hs.form
  obtain ⟨n, hn⟩ : ∃ n, l.length = n := ⟨_, rfl⟩
  obtain ⟨R, hR⟩ : ∃ R, covB l x y = R := ⟨_, rfl⟩
  rw [hR]
  rw [hn] at hs hl ⊢
  have HS := Lib.hid hs
  have HN := Lib.hid (And.intro hn hR)
  have n1 : (n : Int) < 100000 := by omega
  clear hs hn hl hR
  go_enter Try.func32, Try.ntmps32
  go_wp2_with fail
  go_loopg [7] n (fun m s7 wr => ∃ k, m + k = n ∧ s7 = .int .i64 (k : Int) ∧ covB (l.take k) x y = false ∧ Upd [] w wr)
  case atStart => exact ⟨0, rfl, rfl, rfl, Upd.refl _ _⟩
  case round =>
    obtain ⟨k, hk, rfl, hc, hu⟩ := hrel
    have HK := Lib.hid (And.intro hk hc)
    have HU := Lib.hid hu
    have k0 : (0 : Int) ≤ (k : Int) := Int.natCast_nonneg _
    have k1 : (k : Int) < 200000 := by omega
    by_cases hlt : k < n
    · have hz : (k : Int) < (n : Int) := by omega
      obtain ⟨b, hb⟩ : ∃ b, l[k]? = some b := ⟨_, List.getElem?_eq_getElem (by rw [HN.out.1]; exact hlt)⟩
      obtain ⟨bl, ol, hA, -, -, c0, c1, c2, c3, c4⟩ := KBx.at (HS.out.upd0 hu) hb
      subst hA
      have htk := covB_take l x y hb
      rw [hc, Bool.false_or] at htk
      obtain ⟨c, hcc⟩ : ∃ c, b.cell x y = c := ⟨_, rfl⟩
      have hcl := fun w => rcellC b x y w
      simp only [hcc] at hcl
      rw [hcc] at htk
      unfold bxV at hcl
      have HCL := Lib.hid hcl
      have HT := Lib.hid (And.intro htk hlt)
      have HH := Lib.hid (show c = true → R = true from fun h => by rw [← HN.out.2]; exact cov_hit hb (by rw [hcc]; exact h))
      clear hk hc hu hlt hb htk hcl hcc
      go_wp2_with fail
      (with_reducible refine (HCL.out _).mono ?_)
      rintro e w1 ⟨rfl, hu1⟩
      have HU1 := Lib.hid (HU.out.trans hu1)
      clear hu1 c0 c1 c2 c3 c4
      cases c
      · go_wp2_with fail
        go_roundg (n - (k + 1))
        case measure => have := HK.out; have := HT.out; omega
        case rel => exact ⟨k + 1, by have := HK.out.1; have := HT.out.2; omega, by go_num, HT.out.1, HU1.out⟩
      · go_wp2_with fail
        go_ret
        exact ⟨by rw [show R = true from by have := HH.out; simpa using this]; rfl, HU1.out⟩
    · have hz : ¬ (k : Int) < (n : Int) := by omega
      have hR : R = false := by
        rw [← HN.out.2, ← hc, List.take_of_length_le (by rw [HN.out.1]; omega)]
      have HR := Lib.hid hR
      clear hk hc hu hlt hR
      go_wp2_with fail
      go_ret
      exact ⟨by rw [HR.out]; rfl, HU.out⟩

def linU (u : Bool) (l : List Bx) : List Int := match u with | true => linY l | false => linX l

theorem linU_take (u : Bool) (l : List Bx) {k : Nat} {b : Bx} (hb : l[k]? = some b) : linU u (l.take (k + 1)) = linU u (l.take k) ++ (if b.counts = true then (match u with | true => [b.y1, b.y2] | false => [b.x1, b.x2]) else []) := by
  cases u
  · exact (lin_take l hb).1
  · exact (lin_take l hb).2
theorem linU_len (u : Bool) (l : List Bx) : (linU u l).length ≤ 2 * l.length := by
  cases u
  · exact linX_len l
  · exact linY_len l
theorem kl_snoc2 (R : List Int) (a b : Int) : KL.all (R ++ [a, b]) = KL.all R ++ [.int .i64 a, .int .i64 b] := by rw [Kind.all_app]; rfl

set_option maxRecDepth 100000 in
set_option maxHeartbeats 8000000 in
theorem rlinesC (u : Bool) (v : Value) (l : List Bx) (w : World) (hs : See KBx w v l) (hl : l.length < 1000) :
    Calls Try.prog 29 #[v, .bool u] w (RSqPost w (linU u l)) := by
  obtain ⟨i1, hi1, hy0, hy1, hy2⟩ := info_parts info_int64E
  obtain ⟨A, C, rfl⟩ := hs.form
  obtain ⟨n, hn⟩ : ∃ n, l.length = n := ⟨_, rfl⟩
  unfold RSqPost
  rw [hn] at hs hl ⊢
  have HS := Lib.hid hs
  have HN := Lib.hid (And.intro hn hl)
  have n1 : (n : Int) < 1000 := by omega
  clear hs hn hl
  go_enter Try.func29, Try.ntmps29
  go_wp2_with fail
  go_loopg [5, 6] n (fun m s5 s6 wr => ∃ (k rn : Nat) (A1 : Option Addr) (C1 : Nat) (R : List Int), m + k = n ∧ R.length = rn ∧ s5 = .slice A1 rn C1 ∧ s6 = .int .i64 (k : Int) ∧ R = linU u (l.take k) ∧ World.ownsRow wr w.heap.size 2 1 (.slice A1 rn C1) rn (KL.all R) ∧ Upd [] w wr)
  case atStart => exact ⟨0, 0, none, 0, [], rfl, rfl, rfl, rfl, by cases u <;> rfl, World.ownsRow_nil _ _ _ _, Upd.refl _ _⟩
  case round =>
    obtain ⟨k, rn, A1, C1, R, hk, hrn, rfl, rfl, hR, hr, hu⟩ := hrel
    have k0 : (0 : Int) ≤ (k : Int) := Int.natCast_nonneg _
    have k1 : (k : Int) < 2000 := by omega
    have hrl : rn ≤ 2000 := by rw [← hrn, hR]; have h1 := linU_len u (l.take k); have h2 := HN.out; rw [List.length_take] at h1; omega
    by_cases hlt : k < n
    · have hz : (k : Int) < (n : Int) := by omega
      obtain ⟨b, hb⟩ : ∃ b, l[k]? = some b := ⟨_, List.getElem?_eq_getElem (by rw [HN.out.1]; exact hlt)⟩
      obtain ⟨bl, ol, hA, -, -, c0, c1, c2, c3, c4⟩ := KBx.at (HS.out.upd0 hu) hb
      subst hA
      have htk := linU_take u l hb
      rw [← hR] at htk
      obtain ⟨x1, x2, y1, y2, bi⟩ := b
      obtain ⟨c, hcc⟩ : ∃ c, (⟨x1, x2, y1, y2, bi⟩ : Bx).counts = c := ⟨_, rfl⟩
      have hcl := fun w => rcountsC ⟨x1, x2, y1, y2, bi⟩ w
      simp only [hcc] at hcl
      rw [hcc] at htk
      unfold bxV at hcl
      dsimp only at hcl htk c0 c1 c2 c3 c4
      have HCL := Lib.hid hcl
      have HT := Lib.hid htk
      have HK := Lib.hid (And.intro hk (And.intro hlt (And.intro hrn hrl)))
      have HE0 := Lib.hid (And.intro hr hu)
      have HB := Lib.hid hb
      clear hk hlt hb htk hcl hcc hr hu hrn hrl hR
      go_wp2_with fail
      (with_reducible refine (HCL.out _).mono ?_)
      rintro e w1 ⟨rfl, hu1⟩
      have HU1 := Lib.hid hu1
      clear hu1 c0 c1 c2 c3 c4
      cases c
      · go_wp2_with fail
        go_roundg (n - (k + 1))
        case measure => have := HK.out; omega
        case rel => exact ⟨k + 1, rn, A1, C1, R, by have := HK.out; omega, HK.out.2.2.1, rfl, by go_num, by rw [HT.out]; simp, own_upd HE0.out.1 HU1.out (by simp), HE0.out.2.trans HU1.out⟩
      · obtain ⟨bl2, ol2, hA2, -, -, c0, c1, c2, c3, c4⟩ := KBx.at (HS.out.upd0 (HE0.out.2.trans HU1.out)) HB.out
        cases hA2
        dsimp only at c0 c1 c2 c3 c4
        cases u
        · go_upto_region 8 with fail
          obtain ⟨W1, hW1⟩ : ∃ W1, W1 = w1.drew := ⟨_, rfl⟩
          have HE := Lib.hid (show World.ownsRow W1 w.heap.size 2 1 (.slice A1 rn C1) rn (KL.all R) ∧ Upd [] w W1 by rw [hW1]; exact ⟨own_upd HE0.out.1 HU1.out.drew (by simp), (HE0.out.2.trans HU1.out).drew⟩)
          -- region 8: T waits for all loads; fuel 2
          refine GoT.start [11, 12, 13] (fun w' => w'.cell? ⟨bl, ol + k * 5, none⟩ = some (.int .i64 x1) ∧ w'.cell? ⟨bl, ol + k * 5 + 1, none⟩ = some (.int .i64 x2)) (by kernel_rfl) ?_ fun hS => ?_
          · exact ⟨c0, c1⟩
          rw [← hW1] at hS ⊢
          clear hW1
          refine' GoT.move (i := 0) (oi := ⟨some 33, _, _, _, _, _⟩) (v := _) rfl (by kernel_rfl) (by kernel_rfl) (by kernel_rfl) (fun _ _ _ h => h) (Or.inl ⟨by rfl, ?y8_0⟩) ?r8_0
          case y8_0 => intro w; go_simp <;> with_reducible rfl
          simp only [Act.put, List.setIfInBounds_toArray, List.set_cons_zero, List.set_cons_succ]
          refine' GoT.move (i := 1) (oi := ⟨some 34, _, _, _, _, _⟩) (v := _) rfl (by kernel_rfl) (by kernel_rfl) (by kernel_rfl) (fun _ _ _ h => h) (Or.inl ⟨by rfl, ?y8_1⟩) ?r8_1
          case y8_1 => intro w; go_simp <;> with_reducible rfl
          simp only [Act.put, List.setIfInBounds_toArray, List.set_cons_zero, List.set_cons_succ]
          refine' GoT.move (i := 2) (oi := ⟨some 35, _, _, _, _, _⟩) (v := _) rfl (by kernel_rfl) (by kernel_rfl) (by kernel_rfl) (fun _ _ _ h => h) (Or.inl ⟨by rfl, ?y8_2⟩) ?r8_2
          case y8_2 => intro w; go_simp <;> with_reducible rfl
          simp only [Act.put, List.setIfInBounds_toArray, List.set_cons_zero, List.set_cons_succ]
          refine' GoT.move (i := 3) (oi := ⟨some 36, _, _, _, _, _⟩) (v := _) rfl (by kernel_rfl) (by kernel_rfl) (by kernel_rfl) (fun _ _ _ h => h) (Or.inl ⟨by rfl, ?y8_3⟩) ?r8_3
          case y8_3 => intro w; go_simp <;> with_reducible rfl
          simp only [Act.put, List.setIfInBounds_toArray, List.set_cons_zero, List.set_cons_succ]
          refine' GoT.move (i := 4) (oi := ⟨some 37, _, _, _, _, _⟩) (v := _) rfl (by kernel_rfl) (by kernel_rfl) (by kernel_rfl) (fun _ _ _ h => h) (Or.inl ⟨by rfl, ?y8_4⟩) ?r8_4
          case y8_4 => intro w; go_simp <;> with_reducible rfl
          simp only [Act.put, List.setIfInBounds_toArray, List.set_cons_zero, List.set_cons_succ]
          refine' GoT.take 2 (i := 5) (oi := ⟨some 38, _, _, _, _, _⟩) (v := _) rfl (by kernel_rfl) (by kernel_rfl) (by kernel_rfl) (by kernel_rfl) (fun _ _ _ h => h) (Or.inl ⟨by rfl, ?y8_5⟩) (by assumption) ?r8_5
          case y8_5 => intro w hSw; go_simp <;> with_reducible rfl
          simp only [Act.put, List.setIfInBounds_toArray, List.set_cons_zero, List.set_cons_succ]
          refine' GoT.move (i := 6) (oi := ⟨some 39, _, _, _, _, _⟩) (v := _) rfl (by kernel_rfl) (by kernel_rfl) (by kernel_rfl) (fun _ _ _ h => h) (Or.inl ⟨by rfl, ?y8_6⟩) ?r8_6
          case y8_6 => intro w; go_simp <;> with_reducible rfl
          simp only [Act.put, List.setIfInBounds_toArray, List.set_cons_zero, List.set_cons_succ]
          refine' GoT.move (i := 7) (oi := ⟨some 40, _, _, _, _, _⟩) (v := _) rfl (by kernel_rfl) (by kernel_rfl) (by kernel_rfl) (fun _ _ _ h => h) (Or.inl ⟨by rfl, ?y8_7⟩) ?r8_7
          case y8_7 => intro w; go_simp <;> with_reducible rfl
          simp only [Act.put, List.setIfInBounds_toArray, List.set_cons_zero, List.set_cons_succ]
          refine' GoT.move (i := 8) (oi := ⟨some 41, _, _, _, _, _⟩) (v := _) rfl (by kernel_rfl) (by kernel_rfl) (by kernel_rfl) (fun _ _ _ h => h) (Or.inl ⟨by rfl, ?y8_8⟩) ?r8_8
          case y8_8 => intro w; go_simp <;> with_reducible rfl
          simp only [Act.put, List.setIfInBounds_toArray, List.set_cons_zero, List.set_cons_succ]
          refine' GoT.move (i := 9) (oi := ⟨some 42, _, _, _, _, _⟩) (v := _) rfl (by kernel_rfl) (by kernel_rfl) (by kernel_rfl) (fun _ _ _ h => h) (Or.inl ⟨by rfl, ?y8_9⟩) ?r8_9
          case y8_9 => intro w; go_simp <;> with_reducible rfl
          simp only [Act.put, List.setIfInBounds_toArray, List.set_cons_zero, List.set_cons_succ]
          refine' GoT.take 2 (i := 10) (oi := ⟨some 43, _, _, _, _, _⟩) (v := _) rfl (by kernel_rfl) (by kernel_rfl) (by kernel_rfl) (by kernel_rfl) (fun _ _ _ h => h) (Or.inl ⟨by rfl, ?y8_10⟩) (by assumption) ?r8_10
          case y8_10 => intro w hSw; go_simp <;> with_reducible rfl
          simp only [Act.put, List.setIfInBounds_toArray, List.set_cons_zero, List.set_cons_succ]
          -- 11: Go.Op.buildSlice 22 2 #[(0, Go.Operand.tmp 38), (1, Go.Operand.tmp 43)]
          refine GoT.one (i := 11) (o := ⟨some 44, _, _, _, _, _⟩) rfl (by kernel_rfl) fun K hK => ?_
          go_simp
          refine hK.out _ _ (fun h => (by cases h)) ?_
          clear hK K
          try simp only [Act.put, List.setIfInBounds_toArray, List.set_cons_zero, List.set_cons_succ]
          -- 12: Go.Op.call { callee := Go.Callee.builtin Go.Builtin.append, args := #[Go.Operand.tmp 33, Go.Operand.tmp 44], argTypes := #[22, 22] }
          refine GoT.one (i := 12) (o := ⟨some 45, _, _, _, _, _⟩) rfl (by kernel_rfl) fun K hK => ?_
          refine step_app _ (by rfl) _ _ 22 (by rfl) w.heap.size 2 i1 (.int .i64 0) 1 8 Try.underlying22 hi1 hy0 hy1 hy2 rfl (by decide) _ _ _ (by rfl) (own_upd HE.out.1 ((Upd.refl [] W1).alloc _) (by simp)) _ 2 [.int .i64 x1, .int .i64 x2] (by rfl) (sees_lit _ #[.int .i64 x1, .int .i64 x2] 2 1 2 rfl (by decide)) (by simp [Value.oneCell']) (by have := HK.out; unfold maxLen; omega) (by have := HK.out; omega) (by have := HE.out.2.size; simp; omega) ?_
          intro A1 C1 w4 HP
          refine hK.out _ _ (fun h => (by cases h)) ?_
          clear hK K
          try simp only [Act.put, List.setIfInBounds_toArray, List.set_cons_zero, List.set_cons_succ]
          refine' GoT.move (i := 13) (oi := ⟨some 5, _, _, _, _, _⟩) (v := _) rfl (by kernel_rfl) (by kernel_rfl) (by kernel_rfl) (fun _ _ _ h => h) (Or.inl ⟨by rfl, ?y8_13⟩) ?r8_13
          case y8_13 => intro w; go_simp <;> with_reducible rfl
          simp only [Act.put, List.setIfInBounds_toArray, List.set_cons_zero, List.set_cons_succ]
          refine GoT.done (by kernel_rfl) ?_
          have HZ := Lib.hid (And.intro HP.own (((HE.out.2.alloc _).trans' HP.upd (fun y hy => .inr (own_ge HE.out.1 y hy)))))
          clear HP c0 c1 c2 c3 c4
          go_wp2_with fail
          go_roundg (n - (k + 1))
          case measure => have := HK.out; omega
          case rel => exact ⟨k + 1, rn + 2, _, _, R ++ [x1, x2], by have := HK.out; omega, by rw [List.length_append, HK.out.2.2.1]; rfl, rfl, by go_num, by rw [HT.out]; rfl, by rw [kl_snoc2]; exact HZ.out.1, HZ.out.2⟩
        · go_upto_region 7 with fail
          obtain ⟨W1, hW1⟩ : ∃ W1, W1 = w1.drew := ⟨_, rfl⟩
          have HE := Lib.hid (show World.ownsRow W1 w.heap.size 2 1 (.slice A1 rn C1) rn (KL.all R) ∧ Upd [] w W1 by rw [hW1]; exact ⟨own_upd HE0.out.1 HU1.out.drew (by simp), (HE0.out.2.trans HU1.out).drew⟩)
          -- region 7: T waits for all loads; fuel 2
          refine GoT.start [11, 12, 13] (fun w' => w'.cell? ⟨bl, ol + k * 5 + 2, none⟩ = some (.int .i64 y1) ∧ w'.cell? ⟨bl, ol + k * 5 + 3, none⟩ = some (.int .i64 y2)) (by kernel_rfl) ?_ fun hS => ?_
          · exact ⟨c2, c3⟩
          rw [← hW1] at hS ⊢
          clear hW1
          refine' GoT.move (i := 0) (oi := ⟨some 20, _, _, _, _, _⟩) (v := _) rfl (by kernel_rfl) (by kernel_rfl) (by kernel_rfl) (fun _ _ _ h => h) (Or.inl ⟨by rfl, ?y7_0⟩) ?r7_0
          case y7_0 => intro w; go_simp <;> with_reducible rfl
          simp only [Act.put, List.setIfInBounds_toArray, List.set_cons_zero, List.set_cons_succ]
          refine' GoT.move (i := 1) (oi := ⟨some 21, _, _, _, _, _⟩) (v := _) rfl (by kernel_rfl) (by kernel_rfl) (by kernel_rfl) (fun _ _ _ h => h) (Or.inl ⟨by rfl, ?y7_1⟩) ?r7_1
          case y7_1 => intro w; go_simp <;> with_reducible rfl
          simp only [Act.put, List.setIfInBounds_toArray, List.set_cons_zero, List.set_cons_succ]
          refine' GoT.move (i := 2) (oi := ⟨some 22, _, _, _, _, _⟩) (v := _) rfl (by kernel_rfl) (by kernel_rfl) (by kernel_rfl) (fun _ _ _ h => h) (Or.inl ⟨by rfl, ?y7_2⟩) ?r7_2
          case y7_2 => intro w; go_simp <;> with_reducible rfl
          simp only [Act.put, List.setIfInBounds_toArray, List.set_cons_zero, List.set_cons_succ]
          refine' GoT.move (i := 3) (oi := ⟨some 23, _, _, _, _, _⟩) (v := _) rfl (by kernel_rfl) (by kernel_rfl) (by kernel_rfl) (fun _ _ _ h => h) (Or.inl ⟨by rfl, ?y7_3⟩) ?r7_3
          case y7_3 => intro w; go_simp <;> with_reducible rfl
          simp only [Act.put, List.setIfInBounds_toArray, List.set_cons_zero, List.set_cons_succ]
          refine' GoT.move (i := 4) (oi := ⟨some 24, _, _, _, _, _⟩) (v := _) rfl (by kernel_rfl) (by kernel_rfl) (by kernel_rfl) (fun _ _ _ h => h) (Or.inl ⟨by rfl, ?y7_4⟩) ?r7_4
          case y7_4 => intro w; go_simp <;> with_reducible rfl
          simp only [Act.put, List.setIfInBounds_toArray, List.set_cons_zero, List.set_cons_succ]
          refine' GoT.take 2 (i := 5) (oi := ⟨some 25, _, _, _, _, _⟩) (v := _) rfl (by kernel_rfl) (by kernel_rfl) (by kernel_rfl) (by kernel_rfl) (fun _ _ _ h => h) (Or.inl ⟨by rfl, ?y7_5⟩) (by assumption) ?r7_5
          case y7_5 => intro w hSw; go_simp <;> with_reducible rfl
          simp only [Act.put, List.setIfInBounds_toArray, List.set_cons_zero, List.set_cons_succ]
          refine' GoT.move (i := 6) (oi := ⟨some 26, _, _, _, _, _⟩) (v := _) rfl (by kernel_rfl) (by kernel_rfl) (by kernel_rfl) (fun _ _ _ h => h) (Or.inl ⟨by rfl, ?y7_6⟩) ?r7_6
          case y7_6 => intro w; go_simp <;> with_reducible rfl
          simp only [Act.put, List.setIfInBounds_toArray, List.set_cons_zero, List.set_cons_succ]
          refine' GoT.move (i := 7) (oi := ⟨some 27, _, _, _, _, _⟩) (v := _) rfl (by kernel_rfl) (by kernel_rfl) (by kernel_rfl) (fun _ _ _ h => h) (Or.inl ⟨by rfl, ?y7_7⟩) ?r7_7
          case y7_7 => intro w; go_simp <;> with_reducible rfl
          simp only [Act.put, List.setIfInBounds_toArray, List.set_cons_zero, List.set_cons_succ]
          refine' GoT.move (i := 8) (oi := ⟨some 28, _, _, _, _, _⟩) (v := _) rfl (by kernel_rfl) (by kernel_rfl) (by kernel_rfl) (fun _ _ _ h => h) (Or.inl ⟨by rfl, ?y7_8⟩) ?r7_8
          case y7_8 => intro w; go_simp <;> with_reducible rfl
          simp only [Act.put, List.setIfInBounds_toArray, List.set_cons_zero, List.set_cons_succ]
          refine' GoT.move (i := 9) (oi := ⟨some 29, _, _, _, _, _⟩) (v := _) rfl (by kernel_rfl) (by kernel_rfl) (by kernel_rfl) (fun _ _ _ h => h) (Or.inl ⟨by rfl, ?y7_9⟩) ?r7_9
          case y7_9 => intro w; go_simp <;> with_reducible rfl
          simp only [Act.put, List.setIfInBounds_toArray, List.set_cons_zero, List.set_cons_succ]
          refine' GoT.take 2 (i := 10) (oi := ⟨some 30, _, _, _, _, _⟩) (v := _) rfl (by kernel_rfl) (by kernel_rfl) (by kernel_rfl) (by kernel_rfl) (fun _ _ _ h => h) (Or.inl ⟨by rfl, ?y7_10⟩) (by assumption) ?r7_10
          case y7_10 => intro w hSw; go_simp <;> with_reducible rfl
          simp only [Act.put, List.setIfInBounds_toArray, List.set_cons_zero, List.set_cons_succ]
          -- 11: Go.Op.buildSlice 22 2 #[(0, Go.Operand.tmp 25), (1, Go.Operand.tmp 30)]
          refine GoT.one (i := 11) (o := ⟨some 31, _, _, _, _, _⟩) rfl (by kernel_rfl) fun K hK => ?_
          go_simp
          refine hK.out _ _ (fun h => (by cases h)) ?_
          clear hK K
          try simp only [Act.put, List.setIfInBounds_toArray, List.set_cons_zero, List.set_cons_succ]
          -- 12: Go.Op.call { callee := Go.Callee.builtin Go.Builtin.append, args := #[Go.Operand.tmp 20, Go.Operand.tmp 31], argTypes := #[22, 22] }
          refine GoT.one (i := 12) (o := ⟨some 32, _, _, _, _, _⟩) rfl (by kernel_rfl) fun K hK => ?_
          refine step_app _ (by rfl) _ _ 22 (by rfl) w.heap.size 2 i1 (.int .i64 0) 1 8 Try.underlying22 hi1 hy0 hy1 hy2 rfl (by decide) _ _ _ (by rfl) (own_upd HE.out.1 ((Upd.refl [] W1).alloc _) (by simp)) _ 2 [.int .i64 y1, .int .i64 y2] (by rfl) (sees_lit _ #[.int .i64 y1, .int .i64 y2] 2 1 2 rfl (by decide)) (by simp [Value.oneCell']) (by have := HK.out; unfold maxLen; omega) (by have := HK.out; omega) (by have := HE.out.2.size; simp; omega) ?_
          intro A1 C1 w4 HP
          refine hK.out _ _ (fun h => (by cases h)) ?_
          clear hK K
          try simp only [Act.put, List.setIfInBounds_toArray, List.set_cons_zero, List.set_cons_succ]
          refine' GoT.move (i := 13) (oi := ⟨some 5, _, _, _, _, _⟩) (v := _) rfl (by kernel_rfl) (by kernel_rfl) (by kernel_rfl) (fun _ _ _ h => h) (Or.inl ⟨by rfl, ?y7_13⟩) ?r7_13
          case y7_13 => intro w; go_simp <;> with_reducible rfl
          simp only [Act.put, List.setIfInBounds_toArray, List.set_cons_zero, List.set_cons_succ]
          refine GoT.done (by kernel_rfl) ?_
          have HZ := Lib.hid (And.intro HP.own (((HE.out.2.alloc _).trans' HP.upd (fun y hy => .inr (own_ge HE.out.1 y hy)))))
          clear HP c0 c1 c2 c3 c4
          go_wp2_with fail
          go_roundg (n - (k + 1))
          case measure => have := HK.out; omega
          case rel => exact ⟨k + 1, rn + 2, _, _, R ++ [y1, y2], by have := HK.out; omega, by rw [List.length_append, HK.out.2.2.1]; rfl, rfl, by go_num, by rw [HT.out]; rfl, by rw [kl_snoc2]; exact HZ.out.1, HZ.out.2⟩
    · have hz : ¬ (k : Int) < (n : Int) := by omega
      have hRe : R = linU u l := by rw [hR, List.take_of_length_le (by rw [HN.out.1]; omega)]
      have hsee : See KL wr (.slice A1 rn C1) R := by
        have := See.of_row (K := KL) (base := w.heap.size) (w := wr) (v := .slice A1 rn C1) (l := R) (by unfold Kind.row; rw [hrn]; exact hr)
        exact this
      have hsq := fun (w1 : World) (h : Upd [] wr w1) => rsqueezeC (.slice A1 rn C1) R w1 (hsee.upd0 h) (by rw [hrn]; omega)
      unfold RSqPost at hsq
      rw [hRe] at hsq
      obtain ⟨S, hS⟩ : ∃ S, sqz (linU u l) = S := ⟨_, rfl⟩
      simp only [hS] at hsq
      have HSE := Lib.hid hS
      have HSQ := Lib.hid hsq
      have HU := Lib.hid hu
      clear hsq hRe hsee hk hrn hR hr hu hrl hlt hS
      go_wp2_with fail
      (with_reducible refine (HSQ.out _ (Upd.refl _ _)).mono ?_)
      rintro e w1 ⟨A2, C2, rfl, hr2, hu2⟩
      have HF := Lib.hid (And.intro (own_base hr2 HU.out.size) (HU.out.trans hu2))
      clear hr2 hu2
      go_wp2_with fail
      go_ret
      rw [HSE.out]
      exact ⟨_, _, rfl, HF.out.1, HF.out.2⟩
end Go.Proofs.Ytokeagmphjgkkaa
