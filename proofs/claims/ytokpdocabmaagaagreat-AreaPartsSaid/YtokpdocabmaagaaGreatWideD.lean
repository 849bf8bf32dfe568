/- wide: Cmp, Sub. -/
import Derived.Test.YtokpdocabmaagaaGreatWideC
import Derived.Test.YtokpdocabmaagaaGreatRegT
import Derived.Test.YtokpdocabmaagaaGreatSumW
import Derived.Deep.LoopGhost
import Derived.WalkMore
import Derived.Deep.Cut
namespace Go.Proofs.YtokpdocabmaagaaGreat
open Go.RowKit Go.Shelf

/-- How two numbers compare. -/
def cmp3 (x y : Int) : Int := if x < y then -1 else if y < x then 1 else 0
/-- What a comparison by halves says. -/
def cmpHL (a b c d : Int) : Int := if cmp3 a c = 0 then cmp3 b d else cmp3 a c

theorem cmpHL_eq (a b : Nat) : cmpHL ((a / 18446744073709551616 : Nat) : Int) ((a % 18446744073709551616 : Nat) : Int) ((b / 18446744073709551616 : Nat) : Int) ((b % 18446744073709551616 : Nat) : Int) = cmp3 (a : Int) (b : Int) := by
  unfold cmpHL cmp3
  (repeat' split) <;> first | rfl | (exfalso; omega)

theorem cmp3_le {a b : Int} (h : a ≤ b) : cmp3 a b ≤ 0 := by
  unfold cmp3
  (repeat' split) <;> omega

theorem cmpU (x y : Int) (w : World) : Calls Tryz.prog 54 #[.int .u64 x, .int .u64 y] w fun e w' => e = .returned (.int .i64 (cmp3 x y)) ∧ w' = w := by
  go_enter Tryz.func54, Tryz.ntmps54
  go_wp2
  all_goals (go_ret; refine ⟨?_, rfl⟩; unfold cmp3; (repeat' split) <;> first | rfl | (exfalso; omega))

set_option maxRecDepth 100000 in
theorem cmpOr (b : Nat) (a c : Int) (w : World) (h0 : w.cell? ⟨b, 0, none⟩ = some (.int .i64 a)) (h1 : w.cell? ⟨b, 1, none⟩ = some (.int .i64 c)) :
    Calls Tryz.prog 53 #[.slice (some ⟨b, 0, none⟩) 2 2] w fun e w' => e = .returned (.int .i64 (if a = 0 then c else a)) ∧ w' = w := by
  obtain ⟨r, hr⟩ : ∃ r, (if a = 0 then c else a) = r := ⟨_, rfl⟩
  rw [hr]
  have HR := Lib.hid hr
  clear hr
  go_enter Tryz.func53, Tryz.ntmps53
  go_wp2_with fail
  go_loopg [8] 2 (fun m s8 wr => ∃ k : Nat, m + k = 2 ∧ s8 = .int .i64 (k : Int) ∧ (1 ≤ k → a = 0) ∧ (2 ≤ k → c = 0) ∧ wr = w)
  case atStart => exact ⟨0, rfl, rfl, by omega, by omega, rfl⟩
  case round =>
    obtain ⟨k, hk, rfl, ha, hc, rfl⟩ := hrel
    rcases (by omega : k = 0 ∨ k = 1 ∨ k = 2) with rfl | rfl | rfl
    · by_cases hz : a = 0
      · go_wp2_with fail
        go_roundg 1
        case measure => omega
        case rel => exact ⟨1, rfl, rfl, fun _ => hz, by omega, rfl⟩
      · have hrr : a = r := by have := HR.out; rw [if_neg hz] at this; exact this
        go_wp2_with fail
        go_ret
        exact ⟨rfl, rfl⟩
    · have ha0 := ha (by omega)
      by_cases hz : c = 0
      · go_wp2_with fail
        go_roundg 0
        case measure => omega
        case rel => exact ⟨2, rfl, rfl, fun _ => ha0, fun _ => hz, rfl⟩
      · have hrr : c = r := by have := HR.out; rw [if_pos ha0] at this; exact this
        go_wp2_with fail
        go_ret
        exact ⟨rfl, rfl⟩
    · have hrr : 0 = r := by have := HR.out; rw [if_pos (ha (by omega)), hc (by omega)] at this; exact this
      clear ha hc
      go_wp2_with fail
      go_ret
      exact ⟨by rw [← hrr]; rfl, rfl⟩

theorem new2 (W : World) (r1 r2 : Int) : (W.alloc (.cells #[.int .i64 r1, .int .i64 r2] 3)).cell? ⟨W.heap.size, 0, none⟩ = some (.int .i64 r1) ∧ (W.alloc (.cells #[.int .i64 r1, .int .i64 r2] 3)).cell? ⟨W.heap.size, 1, none⟩ = some (.int .i64 r2) := by
  have hn := heap_alloc_new W (.cells #[.int .i64 r1, .int .i64 r2] 3)
  obtain ⟨q, hq⟩ : ∃ q, W.heap.size = q := ⟨_, rfl⟩
  rw [hq] at hn ⊢
  obtain ⟨W3, hW3⟩ : ∃ W3, W.alloc (.cells #[.int .i64 r1, .int .i64 r2] 3) = W3 := ⟨_, rfl⟩
  rw [hW3] at hn ⊢
  constructor <;> simp [World.cell?, hn]

theorem kp4 {w w' : World} {a1 a2 a3 a4 : Addr} {v1 v2 v3 v4 : Value} (h : w.cell? a1 = some v1 ∧ w.cell? a2 = some v2 ∧ w.cell? a3 = some v3 ∧ w.cell? a4 = some v4) (hu : Upd [] w w') :
    w'.cell? a1 = some v1 ∧ w'.cell? a2 = some v2 ∧ w'.cell? a3 = some v3 ∧ w'.cell? a4 = some v4 := by
  have e : ∀ {a : Addr} {v : Value}, w.cell? a = some v → w'.cell? a = some v := fun {a v} ha => (hu.cell (World.block_lt_of_cell? w _ ha) (by simp)).trans ha
  exact ⟨e h.1, e h.2.1, e h.2.2.1, e h.2.2.2⟩

set_option maxRecDepth 100000 in
set_option maxHeartbeats 2000000 in
theorem wCmpHL (a b c d : Int) (w : World) : Calls Tryz.prog 26 #[.agg #[.int .u64 a, .int .u64 b], .agg #[.int .u64 c, .int .u64 d]] w fun e w' => e = .returned (.int .i64 (cmpHL a b c d)) ∧ Upd [] w w' := by
  obtain ⟨r, hr⟩ : ∃ r, cmpHL a b c d = r := ⟨_, rfl⟩
  rw [hr]
  unfold cmpHL at hr
  obtain ⟨r1, h1⟩ : ∃ r, cmp3 a c = r := ⟨_, rfl⟩
  obtain ⟨r2, h2⟩ : ∃ r, cmp3 b d = r := ⟨_, rfl⟩
  have hc1 := fun w => cmpU a c w
  have hc2 := fun w => cmpU b d w
  rw [h1, h2] at hr
  rw [h1] at hc1
  rw [h2] at hc2
  have HC1 := Lib.hid hc1
  have HC2 := Lib.hid hc2
  have HR := Lib.hid hr
  clear hc1 hc2 hr h1 h2
  have hn1 := heap_alloc_new w (.cells #[.int .u64 a, .int .u64 b] 27)
  have hu1 : Upd [] w (w.alloc (.cells #[.int .u64 a, .int .u64 b] 27)) := (Upd.refl _ _).alloc _
  obtain ⟨W1, hW1⟩ : ∃ W1, w.alloc (.cells #[.int .u64 a, .int .u64 b] 27) = W1 := ⟨_, rfl⟩
  rw [hW1] at hn1 hu1
  have hn2 := heap_alloc_new W1 (.cells #[.int .u64 c, .int .u64 d] 27)
  have hu2 : Upd [] W1 (W1.alloc (.cells #[.int .u64 c, .int .u64 d] 27)) := (Upd.refl _ _).alloc _
  obtain ⟨p, hp⟩ : ∃ p, w.heap.size = p := ⟨_, rfl⟩
  have hq0 : W1.heap.size = p + 1 := by rw [← hW1, ← hp]; simp
  obtain ⟨q, hq⟩ : ∃ q, p + 1 = q := ⟨_, rfl⟩
  rw [hp] at hn1
  rw [hq0, hq] at hn2
  have hn1' := (hu2.block p (lt_of_block hn1) (by simp)).trans hn1
  have HU := Lib.hid (hu1.trans hu2)
  have hcells : (W1.alloc (.cells #[.int .u64 c, .int .u64 d] 27)).cell? ⟨p, 0, none⟩ = some (.int .u64 a) ∧ (W1.alloc (.cells #[.int .u64 c, .int .u64 d] 27)).cell? ⟨p, 1, none⟩ = some (.int .u64 b) ∧ (W1.alloc (.cells #[.int .u64 c, .int .u64 d] 27)).cell? ⟨q, 0, none⟩ = some (.int .u64 c) ∧ (W1.alloc (.cells #[.int .u64 c, .int .u64 d] 27)).cell? ⟨q, 1, none⟩ = some (.int .u64 d) := by
    refine ⟨?_, ?_, ?_, ?_⟩
    · simp [World.cell?, hn1']
    · simp [World.cell?, hn1']
    · simp [World.cell?, hn2]
    · simp [World.cell?, hn2]
  have HCE := Lib.hid hcells
  have HWP := Lib.hid (And.intro hW1 (And.intro hp hq))
  clear hn1 hn2 hn1' hu1 hu2 hcells hW1 hp hq hq0
  go_enter Tryz.func26, Tryz.ntmps26
  go_upto_region 1 with fail
  rw [HWP.out.1, HWP.out.2.1, HWP.out.2.2]
  generalize W1.alloc (.cells #[.int .u64 c, .int .u64 d] 27) = W2 at HU HCE ⊢
  have HUd := Lib.hid (show Upd [] w W2.drew from HU.out.drew)
  -- region 1: T waits for all loads; fuel 3
  refine GoT.start [9, 10, 11, 12] (fun w' => w'.cell? ⟨p, 0, none⟩ = some (.int .u64 a) ∧ w'.cell? ⟨p, 1, none⟩ = some (.int .u64 b) ∧ w'.cell? ⟨q, 0, none⟩ = some (.int .u64 c) ∧ w'.cell? ⟨q, 1, none⟩ = some (.int .u64 d)) (by kernel_rfl) ?_ fun hS => ?_
  · exact kp4 HCE.out ((Upd.refl _ _).drew)
  refine' GoT.move (i := 0) (oi := ⟨some 5, _, _, _, _, _⟩) (v := _) rfl (by kernel_rfl) (by kernel_rfl) (by kernel_rfl) (fun _ _ _ h => h) (Or.inl ⟨by rfl, ?y1_0⟩) ?r1_0
  case y1_0 => intro w; go_simp <;> with_reducible rfl
  simp only [Act.put, List.setIfInBounds_toArray, List.set_cons_zero, List.set_cons_succ]
  refine' GoT.take 3 (i := 1) (oi := ⟨some 6, _, _, _, _, _⟩) (v := _) rfl (by kernel_rfl) (by kernel_rfl) (by kernel_rfl) (by kernel_rfl) (fun _ _ _ h => h) (Or.inl ⟨by rfl, ?y1_1⟩) (by assumption) ?r1_1
  case y1_1 => intro w hSw; go_simp <;> with_reducible rfl
  simp only [Act.put, List.setIfInBounds_toArray, List.set_cons_zero, List.set_cons_succ]
  refine' GoT.move (i := 2) (oi := ⟨some 7, _, _, _, _, _⟩) (v := _) rfl (by kernel_rfl) (by kernel_rfl) (by kernel_rfl) (fun _ _ _ h => h) (Or.inl ⟨by rfl, ?y1_2⟩) ?r1_2
  case y1_2 => intro w; go_simp <;> with_reducible rfl
  simp only [Act.put, List.setIfInBounds_toArray, List.set_cons_zero, List.set_cons_succ]
  refine' GoT.take 3 (i := 3) (oi := ⟨some 8, _, _, _, _, _⟩) (v := _) rfl (by kernel_rfl) (by kernel_rfl) (by kernel_rfl) (by kernel_rfl) (fun _ _ _ h => h) (Or.inl ⟨by rfl, ?y1_3⟩) (by assumption) ?r1_3
  case y1_3 => intro w hSw; go_simp <;> with_reducible rfl
  simp only [Act.put, List.setIfInBounds_toArray, List.set_cons_zero, List.set_cons_succ]
  refine' GoT.move (i := 5) (oi := ⟨some 10, _, _, _, _, _⟩) (v := _) rfl (by kernel_rfl) (by kernel_rfl) (by kernel_rfl) (fun _ _ _ h => h) (Or.inl ⟨by rfl, ?y1_5⟩) ?r1_5
  case y1_5 => intro w; go_simp <;> with_reducible rfl
  simp only [Act.put, List.setIfInBounds_toArray, List.set_cons_zero, List.set_cons_succ]
  refine' GoT.take 3 (i := 6) (oi := ⟨some 11, _, _, _, _, _⟩) (v := _) rfl (by kernel_rfl) (by kernel_rfl) (by kernel_rfl) (by kernel_rfl) (fun _ _ _ h => h) (Or.inl ⟨by rfl, ?y1_6⟩) (by assumption) ?r1_6
  case y1_6 => intro w hSw; go_simp <;> with_reducible rfl
  simp only [Act.put, List.setIfInBounds_toArray, List.set_cons_zero, List.set_cons_succ]
  refine' GoT.move (i := 7) (oi := ⟨some 12, _, _, _, _, _⟩) (v := _) rfl (by kernel_rfl) (by kernel_rfl) (by kernel_rfl) (fun _ _ _ h => h) (Or.inl ⟨by rfl, ?y1_7⟩) ?r1_7
  case y1_7 => intro w; go_simp <;> with_reducible rfl
  simp only [Act.put, List.setIfInBounds_toArray, List.set_cons_zero, List.set_cons_succ]
  refine' GoT.take 3 (i := 8) (oi := ⟨some 13, _, _, _, _, _⟩) (v := _) rfl (by kernel_rfl) (by kernel_rfl) (by kernel_rfl) (by kernel_rfl) (fun _ _ _ h => h) (Or.inl ⟨by rfl, ?y1_8⟩) (by assumption) ?r1_8
  case y1_8 => intro w hSw; go_simp <;> with_reducible rfl
  simp only [Act.put, List.setIfInBounds_toArray, List.set_cons_zero, List.set_cons_succ]
  -- 4: Go.Op.call { callee := Go.Callee.value (Go.Operand.func 54), args := #[Go.Operand.tmp 6, Go.Operand.tmp 8], argTypes := #[25, 25] }
  refine GoT.one (i := 4) (o := ⟨some 9, _, _, _, _, _⟩) rfl (by kernel_rfl) fun K hK => ?_
  go_simp
  go_at_call 54
  (with_reducible refine (HC1.out _).mono ?_)
  rintro e w' ⟨rfl, rfl⟩
  refine hK.out _ _ (fun _ h => ?_) ?_
  · exact h
  clear hK K
  try simp only [Act.put, List.setIfInBounds_toArray, List.set_cons_zero, List.set_cons_succ]
  -- 9: Go.Op.call { callee := Go.Callee.value (Go.Operand.func 54), args := #[Go.Operand.tmp 11, Go.Operand.tmp 13], argTypes := #[25, 25] }
  refine GoT.one (i := 9) (o := ⟨some 14, _, _, _, _, _⟩) rfl (by kernel_rfl) fun K hK => ?_
  go_simp
  go_at_call 54
  (with_reducible refine (HC2.out _).mono ?_)
  rintro e w' ⟨rfl, rfl⟩
  refine hK.out _ _ (fun h => (by cases h)) ?_
  clear hK K
  try simp only [Act.put, List.setIfInBounds_toArray, List.set_cons_zero, List.set_cons_succ]
  -- 10: Go.Op.buildSlice 110 2 #[(0, Go.Operand.tmp 9), (1, Go.Operand.tmp 14)]
  refine GoT.one (i := 10) (o := ⟨some 15, _, _, _, _, _⟩) rfl (by kernel_rfl) fun K hK => ?_
  go_simp
  refine hK.out _ _ (fun h => (by cases h)) ?_
  clear hK K
  try simp only [Act.put, List.setIfInBounds_toArray, List.set_cons_zero, List.set_cons_succ]
  have hor : Calls Tryz.prog 53 #[.slice (some ⟨W2.heap.size, 0, none⟩) 2 2] (W2.alloc (.cells #[.int .i64 r1, .int .i64 r2] 3)).drew fun e w' => e = .returned (.int .i64 (if r1 = 0 then r2 else r1)) ∧ w' = (W2.alloc (.cells #[.int .i64 r1, .int .i64 r2] 3)).drew := cmpOr W2.heap.size r1 r2 _ (new2 W2 r1 r2).1 (new2 W2 r1 r2).2
  rw [HR.out] at hor
  have HO := Lib.hid hor
  clear hor
  -- 11: Go.Op.call { callee := Go.Callee.value (Go.Operand.func 53), args := #[Go.Operand.tmp 15], argTypes := #[110] }
  refine GoT.one (i := 11) (o := ⟨some 16, _, _, _, _, _⟩) rfl (by kernel_rfl) fun K hK => ?_
  go_simp
  go_at_call 53
  (with_reducible refine HO.out.mono ?_)
  rintro e w' ⟨rfl, rfl⟩
  refine hK.out _ _ (fun h => (by cases h)) ?_
  clear hK K
  try simp only [Act.put, List.setIfInBounds_toArray, List.set_cons_zero, List.set_cons_succ]
  refine' GoT.move (i := 12) (oi := ⟨some 4, _, _, _, _, _⟩) (v := _) rfl (by kernel_rfl) (by kernel_rfl) (by kernel_rfl) (fun _ _ _ h => h) (Or.inl ⟨by rfl, ?y1_12⟩) ?r1_12
  case y1_12 => intro w; go_simp <;> with_reducible rfl
  simp only [Act.put, List.setIfInBounds_toArray, List.set_cons_zero, List.set_cons_succ]
  refine GoT.done (by kernel_rfl) ?_
  go_wp2_with fail
  go_ret
  exact ⟨rfl, (HU.out.alloc _).drew⟩

theorem wCmpC (a b : Nat) (w : World) : Calls Tryz.prog 26 #[wideV a, wideV b] w fun e w' => e = .returned (.int .i64 (cmp3 (a : Int) (b : Int))) ∧ Upd [] w w' := by
  have := wCmpHL ((a / 18446744073709551616 : Nat) : Int) ((a % 18446744073709551616 : Nat) : Int) ((b / 18446744073709551616 : Nat) : Int) ((b % 18446744073709551616 : Nat) : Int) w
  rw [cmpHL_eq] at this
  exact this

def ren26 : Go.Shelf.Ren := ⟨fun | 26 => 63 | n => n, fun | 22 => 25 | n => n, fun | n => n⟩
theorem lay26 : Go.Proofs.Lays7.n26 Tryz.prog ren26 := {
  mixed := by kernel_rfl
  f26 := Tryz.func63.trans (congrArg some (by kernel_rfl))
  t22 := Tryz.underlying25
  a22 := Tryz.isAgg25
  z22 := Tryz.sizeOf25
  v22 := Tryz.zeroValue25
  i22 := by kernel_rfl }

set_option maxRecDepth 100000 in
set_option maxHeartbeats 1000000 in
theorem wSubC (a b : Nat) (h : b ≤ a) (ha : W128 a) (w : World) : Calls Tryz.prog 36 #[wideV a, wideV b] w fun e w' => e = .returned (.tuple #[wideV (a - b), .bool true]) ∧ Upd [] w w' := by
  unfold W128 at ha
  unfold wideV
  obtain ⟨ah, hah⟩ : ∃ x, a / 18446744073709551616 = x := ⟨_, rfl⟩
  obtain ⟨al, hal⟩ : ∃ x, a % 18446744073709551616 = x := ⟨_, rfl⟩
  obtain ⟨bh, hbh⟩ : ∃ x, b / 18446744073709551616 = x := ⟨_, rfl⟩
  obtain ⟨bl, hbl⟩ : ∃ x, b % 18446744073709551616 = x := ⟨_, rfl⟩
  obtain ⟨ch, hch⟩ : ∃ x, (a - b) / 18446744073709551616 = x := ⟨_, rfl⟩
  obtain ⟨cl, hcl⟩ : ∃ x, (a - b) % 18446744073709551616 = x := ⟨_, rfl⟩
  obtain ⟨c, hc, hc1⟩ : ∃ c : Nat, c = (if al < bl then 1 else 0) ∧ c ≤ 1 := ⟨_, rfl, by split <;> omega⟩
  have a1 : ∀ w, (callFunc 63 #[.int .u64 (al : Int), .int .u64 (bl : Int), .int .u64 0]).run Tryz.prog w = .ok (.value (.tuple #[.int .u64 (cl : Int), .int .u64 (c : Int)])) w := fun w => by
    refine (Any7.bits_Sub64 lay26 al bl 0 (by omega) w).trans ?_
    have e1 : (al + 18446744073709551616 - bl - 0) % 18446744073709551616 = cl := by omega
    have e2 : (if al < bl + 0 then 1 else 0) = c := by rw [hc]; rfl
    rw [e1, e2]
  have a2 : ∀ w, (callFunc 63 #[.int .u64 (ah : Int), .int .u64 (bh : Int), .int .u64 (c : Int)]).run Tryz.prog w = .ok (.value (.tuple #[.int .u64 (ch : Int), .int .u64 0])) w := fun w => by
    refine (Any7.bits_Sub64 lay26 ah bh c hc1 w).trans ?_
    have hle : bh + c ≤ ah := by
      rw [hc]
      split <;> omega
    have e1 : (ah + 18446744073709551616 - bh - c) % 18446744073709551616 = ch := by
      by_cases hlt : al < bl
      · rw [if_pos hlt] at hc; subst hc; omega
      · rw [if_neg hlt] at hc; subst hc; omega
    have e2 : (if ah < bh + c then 1 else 0) = 0 := if_neg (by omega)
    rw [e1, e2]
    rfl
  rw [hah, hal, hbh, hbl, hch, hcl]
  clear hah hal hbh hbl hch hcl hc hc1 h ha
  go_enter Tryz.func36, Tryz.ntmps36
  go_wp2_with (first | simp only [a1] | simp only [a2])
  obtain ⟨W2, hW2⟩ : ∃ W2, (w.alloc (.cells #[.int .u64 (ah : Int), .int .u64 (al : Int)] 27)).alloc (.cells #[.int .u64 (bh : Int), .int .u64 (bl : Int)] 27) = W2 := ⟨_, rfl⟩
  have hsz : W2.heap.size = w.heap.size + 1 + 1 := by rw [← hW2]; simp
  have hUp : Upd [] w W2 := by rw [← hW2]; exact ((Upd.refl _ _).alloc _).alloc _
  rw [hW2, ← hsz]
  have hn := heap_alloc_new W2 (.cells #[.int .u64 (ch : Int), .int .u64 (cl : Int)] 27)
  obtain ⟨q, hq⟩ : ∃ q, W2.heap.size = q := ⟨_, rfl⟩
  have hU3 : Upd [] w (W2.alloc (.cells #[.int .u64 (ch : Int), .int .u64 (cl : Int)] 27)) := hUp.alloc _
  rw [hq] at hn ⊢
  obtain ⟨W3, hW3⟩ : ∃ W3, W2.alloc (.cells #[.int .u64 (ch : Int), .int .u64 (cl : Int)] 27) = W3 := ⟨_, rfl⟩
  rw [hW3] at hn hU3 ⊢
  have e0 : W3.cell? ⟨q, 0, none⟩ = some (.int .u64 (ch : Int)) := by simp [World.cell?, hn]
  have e1 : W3.cell? ⟨q, 1, none⟩ = some (.int .u64 (cl : Int)) := by simp [World.cell?, hn]
  exact bodyPost_ret (v := .tuple #[.agg #[.int .u64 (ch : Int), .int .u64 (cl : Int)], .bool true]) (by simp [results, Tryz.results36, go_sem, e0, e1]) rfl ⟨rfl, hU3⟩
end Go.Proofs.YtokpdocabmaagaaGreat

