/- The document's cover: Drop. -/
import Derived.Test.YtcpompbiohaomaaRefI
import Derived.ChangeKeysEq
namespace Go.Proofs.Ytcpompbiohaomaa
open Go.RowKit

theorem erase_at {α : Type} [BEq α] [LawfulBEq α] {s : α} : ∀ {H : List α} {i : Nat}, H[i]? = some s → (∀ j y, j < i → H[j]? = some y → y ≠ s) → H.erase s = H.take i ++ H.drop (i + 1)
  | [], i, h, _ => by simp at h
  | a :: H, 0, h, _ => by simp at h; subst h; simp
  | a :: H, i + 1, h, hn => by
    have h1 : a ≠ s := hn 0 a (by omega) rfl
    rw [List.erase_cons_tail (by simpa using h1), erase_at (H := H) (i := i) (by simpa using h) (fun j y hj hy => hn (j + 1) y (by omega) (by simpa using hy))]
    simp

theorem erase_none {α : Type} {s : α} {H : List α} (hn : ∀ (j : Nat) (y : α), H[j]? = some y → y ≠ s) : s ∉ H := fun hs => by
  obtain ⟨j, hj⟩ := List.mem_iff_getElem?.1 hs
  exact hn j s hj rfl

theorem kh_take (H : List (Nat × Nat)) (i : Nat) : (KH.all H).take (i * 2) = KH.all (H.take i) := (KH.all_take H i).symm
theorem kh_drop (H : List (Nat × Nat)) (i : Nat) : (KH.all H).drop (i * 2) = KH.all (H.drop i) := (KH.all_drop H i).symm

theorem eq_pair (a b c d : Int) (w : World) : (Op.equalIn 10000 71 (.agg #[.int .i64 a, .int .i64 b]) (.agg #[.int .i64 c, .int .i64 d])).run Try.prog w = .ok ((a == c) && (b == d)) w := by
  obtain ⟨i1, hi1, hy0, hy1, hy2⟩ := info_parts kh_info
  obtain ⟨j1, hj1, hj0, -, -⟩ := info_parts kn_info
  rw [run_equalIn_array w 9999 _ _ Try.underlying71 hj1]
  rw [show Try.prog.cellsOf 3 = 1 by kernel_rfl, show List.range 2 = [0, 1] from rfl]
  simp only [Op.eqItems]
  go_simp
  by_cases h1 : a = c <;> by_cases h2 : b = d <;> simp_all

set_option maxRecDepth 100000 in
set_option maxHeartbeats 8000000 in
theorem rdropC (r : Nat) (mv hv : Value) (M : List Int) (H : List (Nat × Nat)) (lo hi : Int) (w : World) (h : RcAt w r mv hv M H) (hM : M.Pairwise (· < ·)) (hl : M.length < 1000) (hH : H.length < 100000) :
    Calls Try.prog 11 #[.pointer (some ⟨r, 0, none⟩), .int .i64 lo, .int .i64 hi] w (RStep w r mv hv M (dropH M H lo hi) (dropK M H lo hi) (dropX M H lo hi)) := by
  obtain ⟨i0, hi0, hz0, hz1, hz2⟩ := info_parts kh_info
  have hp := fun x w h => rplaceC r mv hv M H x w h hM (by omega)
  have ht := span_tests lo hi hM
  have hp1 := hp lo w h
  have hp2 := hp hi w h
  obtain ⟨a, ha⟩ : ∃ a, placeZ M lo = a := ⟨_, rfl⟩
  obtain ⟨b, hb⟩ : ∃ b, placeZ M hi = b := ⟨_, rfl⟩
  rw [ha] at ht hp1
  rw [hb] at ht hp2
  have HP1 := Lib.hid hp1
  have HP2 := Lib.hid hp2
  clear hp hp1 hp2 ha hb
  rcases ht with ⟨hok, e1, e2, hle, hlt⟩ | ⟨hok, ht⟩
  · obtain ⟨s, hs⟩ : ∃ s, spanP M lo hi = s := ⟨_, rfl⟩
    rw [hs] at e1 e2 hle hlt
    have q1 : dropH M H lo hi = H.erase s := by unfold dropH; rw [if_pos hok, hs]
    have q2 : dropK M H lo hi = if s ∈ H then entN s (M.length - 1) else 0 := by unfold dropK; rw [if_pos hok, hs]
    have q3 : dropX M H lo hi = if s ∈ H then 0 else 160 := by unfold dropX; rw [if_pos hok, hs]
    rw [q1, q2, q3]
    obtain ⟨p, q⟩ := s
    dsimp only at e1 e2 hle hlt
    subst e1 e2
    have hen := fun hv H w h => renteredC r mv hv M H p q w h hl hle hlt
    obtain ⟨E, hE⟩ : ∃ E, entN (p, q) (M.length - 1) = E := ⟨_, rfl⟩
    rw [hE] at hen ⊢
    obtain ⟨n, hn⟩ : ∃ n, H.length = n := ⟨_, rfl⟩
    obtain ⟨Ah, Ch, rfl⟩ := own_form h.held
    obtain ⟨c0, c1, cf⟩ := h.cells
    have cf1 := cf 1
    have hsee : See KH w (.slice Ah H.length Ch) H := See.of_row h.held
    have hseeN : Sees w 2 (.slice Ah n Ch) n (KH.all H) := by have := hsee; unfold See at this; rw [hn] at this; exact this
    rw [hn] at c1 hH
    have d1 : decide ((p : Int) < 0) = false := decide_eq_false (by omega)
    have d2 : decide ((q : Int) < 0) = false := decide_eq_false (by omega)
    have d3 : decide ((q : Int) < (p : Int)) = false := decide_eq_false (by omega)
    have d3' : decide (q < p) = false := decide_eq_false (by omega)
    have HEN := Lib.hid hen
    have HH := Lib.hid h
    have HSEE := Lib.hid (And.intro hsee hseeN)
    have hrl := lt_of_block h.head
    have HN := Lib.hid (And.intro hn hH)
    have n1 : (n : Int) < 100000 := by omega
    obtain ⟨RR, hRR⟩ : ∃ R, RStep w r mv (.slice Ah H.length Ch) M (H.erase (p, q)) (if (p, q) ∈ H then E else 0) (if (p, q) ∈ H then 0 else 160) = R := ⟨_, rfl⟩
    rw [hRR]
    have HRR := Lib.hid hRR
    clear hRR hok hs q1 q2 q3 hen hE h hsee hseeN cf hn hH hM hl hle hlt c0
    go_enter Try.func11, Try.ntmps11
    go_wp2_with fail
    (with_reducible refine HP1.out.mono ?_)
    rintro e w' ⟨rfl, rfl⟩
    go_wp2_with fail
    (with_reducible refine HP2.out.mono ?_)
    rintro e w' ⟨rfl, rfl⟩
    go_wp2_with fail
    go_loopg [10] n (fun m s10 wr => ∃ i, m + i = n ∧ s10 = .int .i64 (i : Int) ∧ (∀ j y, j < i → H[j]? = some y → y ≠ (p, q)) ∧ wr = w')
    case atStart => exact ⟨0, rfl, rfl, fun j y hj => by omega, rfl⟩
    case round =>
      obtain ⟨i, hi, rfl, hno, rfl⟩ := hrel
      have HI := Lib.hid hi
      have HNO := Lib.hid hno
      have b0 : (0 : Int) ≤ (i : Int) := Int.natCast_nonneg _
      clear hno
      by_cases hlt : i < n
      · obtain ⟨y, hy⟩ : ∃ y, H[i]? = some y := ⟨_, List.getElem?_eq_getElem (by rw [HN.out.1]; exact hlt)⟩
        obtain ⟨g, o, hA, -, -, x0, x1⟩ := KH.at HSEE.out.1 hy
        subst hA
        obtain ⟨y1, y2⟩ := y
        dsimp only at x0 x1
        have i1 : (i : Int) < (n : Int) := by omega
        have HY := Lib.hid hy
        clear hy hi
        by_cases hyp : y1 = p ∧ y2 = q
        · obtain ⟨rfl, rfl⟩ := hyp
          have heq : ∀ w, (Op.equalIn 10000 71 (.agg #[.int .i64 (y1 : Int), .int .i64 (y2 : Int)]) (.agg #[.int .i64 (y1 : Int), .int .i64 (y2 : Int)])).run Try.prog w = .ok true w := fun w => by rw [eq_pair]; simp
          have hmem := List.mem_of_getElem? HY.out
          have hrr := HRR.out
          rw [if_pos hmem, if_pos hmem] at hrr
          have HRE := Lib.hid hrr
          obtain ⟨A1, C1, ca, sa, -⟩ := cut_to (P := Try.prog) (t := 33) Try.underlying33 hi0 hz1 HSEE.out.2 i (by omega)
          obtain ⟨A2, C2, cb, sb, -⟩ := cut_from (P := Try.prog) (t := 33) Try.underlying33 hi0 hz1 HSEE.out.2 (i + 1) (by omega)
          have cb' : ∀ w', (Instr.slice 33 (.slice (some ⟨g, o, none⟩) n Ch) (some (.int .i64 ((i : Int) + 1))) none none).run Try.prog w' = .ok (.slice A2 (n - (i + 1)) C2) w' := cb
          have HSA := Lib.hid (fun w1 (hu : Upd [] wr w1) => sa w1 (sees_upd HSEE.out.2 hu (by simp)))
          have HSB := Lib.hid (fun w1 (hu : Upd [] wr w1) => sb w1 (sees_upd HSEE.out.2 hu (by simp)))
          have HLT := Lib.hid hlt
          clear hmem hrr cb sa sb hlt
          have y2w : IntKind.i64.wrap ((i : Int) + 1) = (i : Int) + 1 := IntWalk.i64_in _ (by omega)
          go_upto_region 8 with fail
          -- region 8: T waits for all loads; fuel 3
          refine GoT.start [16, 17, 18, 19] (fun w' => w'.cell? ⟨r, 1, none⟩ = some (.slice (some ⟨g, o, none⟩) n Ch)) (by kernel_rfl) ?_ fun hS => ?_
          · exact c1
          refine' GoT.move (i := 0) (oi := ⟨some 48, _, _, _, _, _⟩) (v := _) rfl (by kernel_rfl) (by kernel_rfl) (by kernel_rfl) (fun _ _ _ h => h) (Or.inl ⟨by rfl, ?y8_0⟩) ?r8_0
          case y8_0 => intro w; go_simp <;> with_reducible rfl
          simp only [Act.put, List.setIfInBounds_toArray, List.set_cons_zero, List.set_cons_succ]
          refine' GoT.move (i := 2) (oi := ⟨some 50, _, _, _, _, _⟩) (v := _) rfl (by kernel_rfl) (by kernel_rfl) (by kernel_rfl) (fun _ _ _ h => h) (Or.inl ⟨by rfl, ?y8_2⟩) ?r8_2
          case y8_2 => intro w; go_simp <;> with_reducible rfl
          simp only [Act.put, List.setIfInBounds_toArray, List.set_cons_zero, List.set_cons_succ]
          refine' GoT.move (i := 3) (oi := ⟨some 51, _, _, _, _, _⟩) (v := _) rfl (by kernel_rfl) (by kernel_rfl) (by kernel_rfl) (fun _ _ _ h => h) (Or.inl ⟨by rfl, ?y8_3⟩) ?r8_3
          case y8_3 => intro w; go_simp <;> with_reducible rfl
          simp only [Act.put, List.setIfInBounds_toArray, List.set_cons_zero, List.set_cons_succ]
          refine' GoT.move (i := 4) (oi := ⟨some 52, _, _, _, _, _⟩) (v := _) rfl (by kernel_rfl) (by kernel_rfl) (by kernel_rfl) (fun _ _ _ h => h) (Or.inl ⟨by rfl, ?y8_4⟩) ?r8_4
          case y8_4 => intro w; go_simp <;> with_reducible rfl
          simp only [Act.put, List.setIfInBounds_toArray, List.set_cons_zero, List.set_cons_succ]
          refine' GoT.take 3 (i := 5) (oi := ⟨some 53, _, _, _, _, _⟩) (v := _) rfl (by kernel_rfl) (by kernel_rfl) (by kernel_rfl) (by kernel_rfl) (fun _ _ _ h => h) (Or.inl ⟨by rfl, ?y8_5⟩) (by assumption) ?r8_5
          case y8_5 => intro w hSw; go_simp <;> with_reducible rfl
          simp only [Act.put, List.setIfInBounds_toArray, List.set_cons_zero, List.set_cons_succ]
          refine' GoT.move (i := 6) (oi := ⟨some 54, _, _, _, _, _⟩) (v := _) rfl (by kernel_rfl) (by kernel_rfl) (by kernel_rfl) (fun _ _ _ h => h) (Or.inl ⟨by rfl, ?y8_6⟩) ?r8_6
          case y8_6 => intro w; go_simp <;> with_reducible rfl
          simp only [Act.put, List.setIfInBounds_toArray, List.set_cons_zero, List.set_cons_succ]
          refine' GoT.move (i := 7) (oi := ⟨some 55, _, _, _, _, _⟩) (v := _) rfl (by kernel_rfl) (by kernel_rfl) (by kernel_rfl) (fun _ _ _ h => h) (Or.inl ⟨by rfl, ?y8_7⟩) ?r8_7
          case y8_7 => intro w; go_simp <;> with_reducible rfl
          simp only [Act.put, List.setIfInBounds_toArray, List.set_cons_zero, List.set_cons_succ]
          refine' GoT.move (i := 9) (oi := ⟨some 57, _, _, _, _, _⟩) (v := _) rfl (by kernel_rfl) (by kernel_rfl) (by kernel_rfl) (fun _ _ _ h => h) (Or.inl ⟨by rfl, ?y8_9⟩) ?r8_9
          case y8_9 => intro w; go_simp <;> with_reducible rfl
          simp only [Act.put, List.setIfInBounds_toArray, List.set_cons_zero, List.set_cons_succ]
          refine' GoT.move (i := 10) (oi := ⟨some 58, _, _, _, _, _⟩) (v := _) rfl (by kernel_rfl) (by kernel_rfl) (by kernel_rfl) (fun _ _ _ h => h) (Or.inl ⟨by rfl, ?y8_10⟩) ?r8_10
          case y8_10 => intro w; go_simp <;> with_reducible rfl
          simp only [Act.put, List.setIfInBounds_toArray, List.set_cons_zero, List.set_cons_succ]
          refine' GoT.move (i := 11) (oi := ⟨some 59, _, _, _, _, _⟩) (v := _) rfl (by kernel_rfl) (by kernel_rfl) (by kernel_rfl) (fun _ _ _ h => h) (Or.inl ⟨by rfl, ?y8_11⟩) ?r8_11
          case y8_11 => intro w; go_simp <;> with_reducible rfl
          simp only [Act.put, List.setIfInBounds_toArray, List.set_cons_zero, List.set_cons_succ]
          refine' GoT.take 3 (i := 12) (oi := ⟨some 60, _, _, _, _, _⟩) (v := _) rfl (by kernel_rfl) (by kernel_rfl) (by kernel_rfl) (by kernel_rfl) (fun _ _ _ h => h) (Or.inl ⟨by rfl, ?y8_12⟩) (by assumption) ?r8_12
          case y8_12 => intro w hSw; go_simp <;> with_reducible rfl
          simp only [Act.put, List.setIfInBounds_toArray, List.set_cons_zero, List.set_cons_succ]
          refine' GoT.move (i := 13) (oi := ⟨some 61, _, _, _, _, _⟩) (v := _) rfl (by kernel_rfl) (by kernel_rfl) (by kernel_rfl) (fun _ _ _ h => h) (Or.inl ⟨by rfl, ?y8_13⟩) ?r8_13
          case y8_13 => intro w; go_simp <;> with_reducible rfl
          simp only [Act.put, List.setIfInBounds_toArray, List.set_cons_zero, List.set_cons_succ]
          refine' GoT.move (i := 14) (oi := ⟨some 62, _, _, _, _, _⟩) (v := _) rfl (by kernel_rfl) (by kernel_rfl) (by kernel_rfl) (fun _ _ _ h => h) (Or.inl ⟨by rfl, ?y8_14⟩) ?r8_14
          case y8_14 => intro w; go_simp <;> with_reducible rfl
          simp only [Act.put, List.setIfInBounds_toArray, List.set_cons_zero, List.set_cons_succ]
          refine' GoT.move (i := 15) (oi := ⟨some 63, _, _, _, _, _⟩) (v := _) rfl (by kernel_rfl) (by kernel_rfl) (by kernel_rfl) (fun _ _ _ h => h) (Or.inl ⟨by rfl, ?y8_15⟩) ?r8_15
          case y8_15 => intro w; go_simp <;> with_reducible rfl
          simp only [Act.put, List.setIfInBounds_toArray, List.set_cons_zero, List.set_cons_succ]
          -- 1: Go.Op.buildSlice 33 0 #[]
          refine GoT.one (i := 1) (o := ⟨some 49, _, _, _, _, _⟩) rfl (by kernel_rfl) fun K hK => ?_
          go_simp
          refine hK.out _ _ (fun _ h => ?_) ?_
          · exact (((Upd.refl [] _).alloc _).cell (p := ⟨r, 1, none⟩) (World.block_lt_of_cell? _ _ h) (by simp)).trans h
          clear hK K
          try simp only [Act.put, List.setIfInBounds_toArray, List.set_cons_zero, List.set_cons_succ]
          -- 8: Go.Op.call { callee := Go.Callee.builtin Go.Builtin.append, args := #[Go.Operand.tmp 49, Go.Operand.tmp 55], argTypes := #[33, 33] }
          refine GoT.one (i := 8) (o := ⟨some 56, _, _, _, _, _⟩) rfl (by kernel_rfl) fun K hK => ?_
          refine step_app _ (by rfl) _ _ 33 (by rfl) wr.heap.size 71 i0 (.agg #[.int .i64 0, .int .i64 0]) 2 16 Try.underlying33 hi0 hz0 hz1 hz2 rfl (by decide) _ 0 [] (by rfl) (owns_drew (World.ownsRow_made wr #[] 0 (Nat.le_refl _) (by decide) rfl)) _ i ((KH.all H).take (i * 2)) (by rfl) (HSA.out _ ((Upd.refl [] wr).alloc _).drew) (by rw [kh_take]; exact KH.all_one _) (by have := HN.out; unfold maxLen; omega) (by have := HN.out; omega) (by simp) ?_
          intro A1 C1 w3 HP1
          rw [Nat.zero_add]
          have hu3 : Upd [] wr w3 := (((Upd.refl [] wr).alloc _).drew).trans' HP1.upd (fun k hk => .inr (by simp [blk] at hk; omega))
          have ho3 : w3.ownsRow wr.heap.size 71 2 (.slice A1 i C1) i ((KH.all H).take (i * 2)) := by simpa using HP1.own
          have HO3 := Lib.hid (And.intro ho3 (And.intro hu3 HP1.upd))
          clear HP1 hu3 ho3
          refine hK.out _ _ (fun _ h => ?_) ?_
          · exact (HO3.out.2.2.cell (p := ⟨r, 1, none⟩) (World.block_lt_of_cell? _ _ h) (by simp [blk]; omega)).trans h
          clear hK K
          try simp only [Act.put, List.setIfInBounds_toArray, List.set_cons_zero, List.set_cons_succ]
          -- 16: Go.Op.call { callee := Go.Callee.builtin Go.Builtin.append, args := #[Go.Operand.tmp 56, Go.Operand.tmp 63], argTypes := #[33, 33] }
          refine GoT.one (i := 16) (o := ⟨some 64, _, _, _, _, _⟩) rfl (by kernel_rfl) fun K hK => ?_
          refine step_app _ (by rfl) _ _ 33 (by rfl) wr.heap.size 71 i0 (.agg #[.int .i64 0, .int .i64 0]) 2 16 Try.underlying33 hi0 hz0 hz1 hz2 rfl (by decide) _ i ((KH.all H).take (i * 2)) (by rfl) (HO3.out.1) _ (n - (i + 1)) ((KH.all H).drop ((i + 1) * 2)) (by rfl) (HSB.out _ HO3.out.2.1) (by rw [kh_drop]; exact KH.all_one _) (by have := HN.out; unfold maxLen; omega) (by have := HN.out; omega) (by have := HO3.out.2.1.size; omega) ?_
          intro A2 C2 w4 HP2
          have hu4 : Upd [] wr w4 := HO3.out.2.1.trans' HP2.upd (fun k hk => .inr (own_ge HO3.out.1 k hk))
          have hrow : KH.row w4 wr.heap.size (.slice A2 (i + (n - (i + 1))) C2) (H.erase (y1, y2)) := by
            have h := HP2.own
            rw [kh_take, kh_drop, ← Kind.all_app, ← erase_at HY.out HNO.out] at h
            unfold Kind.row
            rw [show (H.erase (y1, y2)).length = i + (n - (i + 1)) by rw [List.length_erase_of_mem (List.mem_of_getElem? HY.out), HN.out.1]; have := HLT.out; omega]
            exact h
          have h4 := HH.out.upd0 hu4
          obtain ⟨-, f1, ff⟩ := h4.cells
          rw [HN.out.1] at f1
          have ff1 := ff 1
          have HE := Lib.hid (And.intro hu4 (And.intro hrow h4))
          clear HP2 hu4 hrow h4 ff c1 cf1
          refine hK.out _ _ (fun h => (by cases h)) ?_
          clear hK K
          try simp only [Act.put, List.setIfInBounds_toArray, List.set_cons_zero, List.set_cons_succ]
          refine' GoT.move (i := 17) (oi := ⟨some 65, _, _, _, _, _⟩) (v := _) rfl (by kernel_rfl) (by kernel_rfl) (by kernel_rfl) (fun _ _ _ h => h) (Or.inl ⟨by rfl, ?y8_17⟩) ?r8_17
          case y8_17 => intro w; go_simp <;> with_reducible rfl
          simp only [Act.put, List.setIfInBounds_toArray, List.set_cons_zero, List.set_cons_succ]
          refine' GoT.move (i := 18) (oi := ⟨some 66, _, _, _, _, _⟩) (v := _) rfl (by kernel_rfl) (by kernel_rfl) (by kernel_rfl) (fun _ _ _ h => h) (Or.inl ⟨by rfl, ?y8_18⟩) ?r8_18
          case y8_18 => intro w; go_simp <;> with_reducible rfl
          simp only [Act.put, List.setIfInBounds_toArray, List.set_cons_zero, List.set_cons_succ]
          -- 19: Go.Op.store 33 (Go.Operand.tmp 66) (Go.Operand.tmp 64)
          refine GoT.one (i := 19) (o := ⟨none, _, _, _, _, _⟩) rfl (by kernel_rfl) fun K hK => ?_
          go_simp
          refine hK.out _ _ (fun h => (by cases h)) ?_
          clear hK K
          try simp only [Act.put, List.setIfInBounds_toArray, List.set_cons_zero, List.set_cons_succ]
          refine GoT.done (by kernel_rfl) ?_
          have hlw := lt_of_block HH.out.head
          have hput := HE.out.2.2.put HE.out.2.1 (fun hc => by have := own_ge HE.out.2.1 r hc; omega) (fun h0 k hk hc => by
            have h1 := own_ge HE.out.2.1 k hc
            have h2 := see_lt HH.out.marks h0 k hk
            omega)
          have hup : Upd [r] wr (w4.setCell ⟨r, 1, none⟩ (.slice A2 (i + (n - (i + 1))) C2)) := (HE.out.1.mono (by simp)).setCell (.inl (by simp)) _
          have HPUT := Lib.hid (And.intro hput (And.intro hup (fun k hk => own_ge HE.out.2.1 k hk)))
          have HEN4 := Lib.hid (HEN.out _ _ _ hput)
          clear hput hup hlw
          go_wp2_with fail
          (with_reducible refine HEN4.out.mono ?_)
          rintro e w5 ⟨rfl, hu5⟩
          have HF := Lib.hid (And.intro (HPUT.out.1.upd0 hu5) (HPUT.out.2.1.trans (hu5.mono (by simp))))
          clear hu5
          go_wp2_with fail
          rw [← HRE.out]
          exact ⟨rfl, _, HF.out.1, HF.out.2, fun y hy => .inr (HPUT.out.2.2 y hy)⟩
        · have heq : ∀ w, (Op.equalIn 10000 71 (.agg #[.int .i64 (y1 : Int), .int .i64 (y2 : Int)]) (.agg #[.int .i64 (p : Int), .int .i64 (q : Int)])).run Try.prog w = .ok false w := fun w => by
            rw [eq_pair]
            congr 1
            rw [Bool.and_eq_false_iff]
            by_cases h1 : y1 = p
            · right; rw [beq_eq_false_iff_ne]; intro h2; exact hyp ⟨h1, by omega⟩
            · left; rw [beq_eq_false_iff_ne]; omega
          have HYP := Lib.hid hyp
          clear hyp
          go_wp2_with fail
          go_roundg (n - (i + 1))
          case measure => have := HI.out; omega
          case rel =>
            refine ⟨i + 1, by have := HI.out; omega, by go_num, fun j z hj hz => ?_, rfl⟩
            rcases Nat.lt_or_ge j i with h3 | h3
            · exact HNO.out j z h3 hz
            · have : j = i := by omega
              rw [this, HY.out] at hz
              cases hz
              intro h4
              injection h4 with h5 h6
              exact HYP.out ⟨h5, h6⟩
      · have hd : decide ((i : Int) < (n : Int)) = false := decide_eq_false (by omega)
        have hno2 : (p, q) ∉ H := erase_none fun j y hj => HNO.out j y (by have := (List.getElem?_eq_some_iff.1 hj).1; rw [HN.out.1] at this; omega) hj
        have hrr := HRR.out
        rw [if_neg hno2, if_neg hno2, List.erase_of_not_mem hno2] at hrr
        have HRE := Lib.hid hrr
        clear hi hno2 hrr
        go_wp2_with fail
        rw [← HRE.out]
        exact ⟨rfl, _, HH.out, Upd.refl _ _, fun y hy => .inl hy⟩
  · have q1 : dropH M H lo hi = H := by unfold dropH; rw [if_neg (by rw [hok]; decide)]
    have q2 : dropK M H lo hi = 0 := by unfold dropK; rw [if_neg (by rw [hok]; decide)]
    have q3 : dropX M H lo hi = 2 := by unfold dropX; rw [if_neg (by rw [hok]; decide)]
    rw [q1, q2, q3]
    have HH := Lib.hid h
    clear hok q1 q2 q3 h
    rcases ht with h1 | ⟨h1, h2⟩ | ⟨h1, h2, h3⟩
    · have d1 : decide (a < 0) = true := decide_eq_true h1
      clear h1
      go_enter Try.func11, Try.ntmps11
      go_wp2_with fail
      (with_reducible refine HP1.out.mono ?_)
      rintro e w' ⟨rfl, rfl⟩
      go_wp2_with fail
      (with_reducible refine HP2.out.mono ?_)
      rintro e w' ⟨rfl, rfl⟩
      go_wp2_with fail
      go_ret2
      exact ⟨rfl, _, HH.out, Upd.refl _ _, fun y hy => .inl hy⟩
    · have d1 : decide (a < 0) = false := decide_eq_false h1
      have d2 : decide (b < 0) = true := decide_eq_true h2
      clear h1 h2
      go_enter Try.func11, Try.ntmps11
      go_wp2_with fail
      (with_reducible refine HP1.out.mono ?_)
      rintro e w' ⟨rfl, rfl⟩
      go_wp2_with fail
      (with_reducible refine HP2.out.mono ?_)
      rintro e w' ⟨rfl, rfl⟩
      go_wp2_with fail
      go_ret2
      exact ⟨rfl, _, HH.out, Upd.refl _ _, fun y hy => .inl hy⟩
    · have d1 : decide (a < 0) = false := decide_eq_false h1
      have d2 : decide (b < 0) = false := decide_eq_false h2
      have d3 : decide (b < a) = true := decide_eq_true h3
      clear h1 h2 h3
      go_enter Try.func11, Try.ntmps11
      go_wp2_with fail
      (with_reducible refine HP1.out.mono ?_)
      rintro e w' ⟨rfl, rfl⟩
      go_wp2_with fail
      (with_reducible refine HP2.out.mono ?_)
      rintro e w' ⟨rfl, rfl⟩
      go_wp2_with fail
      go_ret2
      exact ⟨rfl, _, HH.out, Upd.refl _ _, fun y hy => .inl hy⟩
end Go.Proofs.Ytcpompbiohaomaa
