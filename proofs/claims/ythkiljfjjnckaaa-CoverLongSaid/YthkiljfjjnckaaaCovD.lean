/- cover.Drop; what is known of all. -/
import Derived.Test.YthkiljfjjnckaaaCovA
namespace Go.Proofs.Ythkiljfjjnckaaa
open Go.RowKit
attribute [local go_sem ↓] Go.wp_at_zero Go.wp_at_succ

set_option maxRecDepth 100000 in
set_option maxHeartbeats 2000000 in
theorem dropC (b : Nat) (F : List Nat) (M : List Int) (H : List (Nat × Nat)) (N : Nat) (w : World) (lo hi : Int) (h : IsCov w b F M H N) (hM : MarksOk M) (hN : N < 1000000) (hH : H.length ≤ 1000000) :
    Calls Try.prog 19 #[.pointer (some ⟨b, 0, none⟩), .int .i64 lo, .int .i64 hi] w (AdPost w b F M (dropH M H lo hi) N (dropK M H lo hi) (dropX M H lo hi)) := by
  have hnn := covNone b F M H N w h
  have hsp : Calls Try.prog 56 #[.pointer (some ⟨b, 0, none⟩), .int .i64 lo, .int .i64 hi] w (SpanPost M lo hi w) := by
    obtain ⟨mv, nv, ov, pv, hb, en, rfl, h1, h2⟩ := h
    exact spanC b mv nv ov pv hb M _ _ _ _ en w lo hi h1 hM
  have HN := Lib.hid hnn
  unfold SpanPost at hsp
  by_cases hok : spanOk M lo hi = true
  · have hin := spanOk_in hM hok
    rw [hok] at hsp
    have hl := hM.len
    have hlk : ∀ w1, Upd [] w w1 → ∃ hb, w1.cell? ⟨b, 5, none⟩ = some (.map (some hb)) ∧ ∀ n, (Instr.lookup 50 (.map (some hb)) (.agg #[.int .i64 (below M lo : Nat), .int .i64 (below M hi : Nat)]) false).run Try.prog (w1.drewN n) = .ok (.int .i64 (H.count (spanP M lo hi) : Int)) (w1.drewN n) := fun w1 hu => by
      obtain ⟨hb, c5, h2⟩ := (h.upd0 hu).cell5
      unfold spanP at hin
      dsimp only at hin
      exact ⟨hb, c5, fun n => (show HeldAt (w1.drewN n) hb N (fun s => (H.count s : Int)) from h2).look (spanP M lo hi) (by unfold spanP; dsimp only; omega) (by unfold spanP; dsimp only; omega)⟩
    by_cases hmem : spanP M lo hi ∈ H
    · have hcp : 0 < H.count (spanP M lo hi) := List.count_pos_iff.2 hmem
      have hmv := fun w1 (hu : Upd [] w w1) => moveC b F M H (H.erase (spanP M lo hi)) N w1 (spanP M lo hi) (-1) (h.upd0 hu) hM hN hH hin (fun f t pf pt => by
          rw [cntH_perm (List.perm_cons_erase hmem), cntH_cons]; omega) (fun u => by
          rw [List.count_erase]
          by_cases hu : u = spanP M lo hi
          · rw [if_pos hu, hu]; simp; omega
          · rw [if_neg hu, if_neg (by simpa using Ne.symm hu)]; simp) (by omega) (by omega)
      have e1 : dropH M H lo hi = H.erase (spanP M lo hi) := by unfold dropH; rw [if_pos hok]
      have e2 : dropK M H lo hi = entN (spanP M lo hi) (M.length - 1) := by unfold dropK; rw [if_pos hok, if_pos hmem]
      have e3 : dropX M H lo hi = 0 := by unfold dropX; rw [if_pos hok, if_pos hmem]
      rw [e1, e2, e3]
      obtain ⟨ct, hct⟩ : ∃ ct, H.count (spanP M lo hi) = ct := ⟨_, rfl⟩
      rw [hct] at hlk hcp
      have hd : ((ct : Int) == 0) = false := by simp; omega
      unfold spanP at hmv ⊢
      obtain ⟨p, hp⟩ : ∃ p, below M lo = p := ⟨_, rfl⟩
      obtain ⟨q, hq⟩ : ∃ q, below M hi = q := ⟨_, rfl⟩
      rw [hp, hq] at hsp hmv hlk ⊢
      dsimp only at hmv
      obtain ⟨K, hK⟩ : ∃ K, entN (p, q) (M.length - 1) = K := ⟨_, rfl⟩
      rw [hK] at hmv ⊢
      obtain ⟨H', hH'⟩ : ∃ H', H.erase (p, q) = H' := ⟨_, rfl⟩
      rw [hH'] at hmv ⊢
      have HS := Lib.hid hsp
      have HM := Lib.hid hmv
      have HL := Lib.hid hlk
      clear hnn hsp hmv hok hin e1 e2 e3 hp hq hK h hM hlk hmem hct hcp hl hH'
      go_enter Try.func19, Try.ntmps19
      go_wp2_with fail
      (with_reducible refine HN.out.mono ?_)
      rintro e w' ⟨rfl, rfl⟩
      go_wp2_with fail
      (with_reducible refine HS.out.mono ?_)
      rintro e w1 ⟨rfl, hu1⟩
      have hu2 : Upd [] w (w1.alloc (.cells #[.int .i64 (p : Int), .int .i64 (q : Int)] 96)) := hu1.alloc _
      have x0 : (w1.alloc (.cells #[.int .i64 (p : Int), .int .i64 (q : Int)] 96)).cell? ⟨w1.heap.size, 0, none⟩ = some (.int .i64 (p : Int)) := by rw [World.cell?_alloc_at _ _ _ _ rfl]; rfl
      have x1 : (w1.alloc (.cells #[.int .i64 (p : Int), .int .i64 (q : Int)] 96)).cell? ⟨w1.heap.size, 1, none⟩ = some (.int .i64 (q : Int)) := by rw [World.cell?_alloc_at _ _ _ _ rfl]; rfl
      have HU2 := Lib.hid hu2
      clear hu1 hu2
      go_upto_region 6 with fail
      generalize (w1.alloc (.cells #[.int .i64 (p : Int), .int .i64 (q : Int)] 96)) = W2 at x0 x1 HU2 ⊢
      obtain ⟨hb, c5', lk⟩ := HL.out _ HU2.out
      go_quiet (fail)
      have x0' : (W2.drewN nq).cell? ⟨w1.heap.size, 0, none⟩ = some (.int .i64 (p : Int)) := x0
      have x1' : (W2.drewN nq).cell? ⟨w1.heap.size, 1, none⟩ = some (.int .i64 (q : Int)) := x1
      have HM2 := Lib.hid (HM.out _ (HU2.out.drewN nq))
      have HU3 := Lib.hid (HU2.out.drewN nq)
      clear lk c5' x0 x1 HL
      generalize W2.drewN nq = W3 at x0' x1' HM2 HU3 ⊢
      go_wp2_with fail
      (with_reducible refine HM2.out.mono ?_)
      rintro e w2 ⟨rfl, g1, g2⟩
      have HG := Lib.hid (And.intro g1 g2)
      clear g1 g2
      go_wp2_with fail
      go_ret2
      exact ⟨rfl, ⟨N + 1, Nat.le_refl _, HG.out.1⟩, (HU3.out.mono (by simp)).trans HG.out.2⟩
    · have hcp : H.count (spanP M lo hi) = 0 := List.count_eq_zero.2 hmem
      have e1 : dropH M H lo hi = H := by unfold dropH; rw [if_pos hok, List.erase_of_not_mem hmem]
      have e2 : dropK M H lo hi = 0 := by unfold dropK; rw [if_pos hok, if_neg hmem]
      have e3 : dropX M H lo hi = 160 := by unfold dropX; rw [if_pos hok, if_neg hmem]
      rw [e1, e2, e3]
      rw [hcp] at hlk
      obtain ⟨p, hp⟩ : ∃ p, below M lo = p := ⟨_, rfl⟩
      obtain ⟨q, hq⟩ : ∃ q, below M hi = q := ⟨_, rfl⟩
      rw [hp, hq] at hsp hlk
      have HS := Lib.hid hsp
      have HL := Lib.hid hlk
      have HH := Lib.hid h
      clear hnn hsp hok hin e1 e2 e3 hp hq h hM hlk hmem hcp hl
      go_enter Try.func19, Try.ntmps19
      go_wp2_with fail
      (with_reducible refine HN.out.mono ?_)
      rintro e w' ⟨rfl, rfl⟩
      go_wp2_with fail
      (with_reducible refine HS.out.mono ?_)
      rintro e w1 ⟨rfl, hu1⟩
      have hu2 : Upd [] w (w1.alloc (.cells #[.int .i64 (p : Int), .int .i64 (q : Int)] 96)) := hu1.alloc _
      have x0 : (w1.alloc (.cells #[.int .i64 (p : Int), .int .i64 (q : Int)] 96)).cell? ⟨w1.heap.size, 0, none⟩ = some (.int .i64 (p : Int)) := by rw [World.cell?_alloc_at _ _ _ _ rfl]; rfl
      have x1 : (w1.alloc (.cells #[.int .i64 (p : Int), .int .i64 (q : Int)] 96)).cell? ⟨w1.heap.size, 1, none⟩ = some (.int .i64 (q : Int)) := by rw [World.cell?_alloc_at _ _ _ _ rfl]; rfl
      have HU2 := Lib.hid hu2
      clear hu1 hu2
      go_upto_region 6 with fail
      generalize (w1.alloc (.cells #[.int .i64 (p : Int), .int .i64 (q : Int)] 96)) = W2 at x0 x1 HU2 ⊢
      obtain ⟨hb, c5', lk⟩ := HL.out _ HU2.out
      go_quiet (fail)
      go_wp2_with fail
      go_ret2
      exact ⟨rfl, ⟨N, Nat.le_succ N, HH.out.upd0 (HU2.out.drewN nq)⟩, (HU2.out.drewN nq).mono (by simp)⟩
  · have e1 : dropH M H lo hi = H := by unfold dropH; rw [if_neg hok]
    have e2 : dropK M H lo hi = 0 := by unfold dropK; rw [if_neg hok]
    have e3 : dropX M H lo hi = 2 := by unfold dropX; rw [if_neg hok]
    have hokf : spanOk M lo hi = false := by simpa using hok
    rw [e1, e2, e3]
    rw [hokf] at hsp
    obtain ⟨p, hp⟩ : ∃ p, below M lo = p := ⟨_, rfl⟩
    obtain ⟨q, hq⟩ : ∃ q, below M hi = q := ⟨_, rfl⟩
    rw [hp, hq] at hsp
    have HS := Lib.hid hsp
    have HH := Lib.hid h
    clear hnn hsp hok hokf e1 e2 e3 hp hq h hM
    go_enter Try.func19, Try.ntmps19
    go_wp2_with fail
    (with_reducible refine HN.out.mono ?_)
    rintro e w' ⟨rfl, rfl⟩
    go_wp2_with fail
    (with_reducible refine HS.out.mono ?_)
    rintro e w1 ⟨rfl, hu1⟩
    have HU1 := Lib.hid hu1
    clear hu1
    go_wp2_with fail
    go_ret2
    exact ⟨rfl, ⟨N, Nat.le_succ N, HH.out.upd0 (HU1.out.alloc _)⟩, (HU1.out.alloc _).mono (by simp)⟩

/-- What is known of all gaps. -/
def wholeP (M : List Int) (H : List (Nat × Nat)) : Part := if M.length - 1 = 0 then ⟨0, 0, false, false⟩ else partV (cntH H) (mf M) 0 (M.length - 1) 0 (M.length - 1 + 1)

set_option maxRecDepth 100000 in
set_option maxHeartbeats 2000000 in
theorem wholeC (b : Nat) (F : List Nat) (M : List Int) (H : List (Nat × Nat)) (N : Nat) (w : World) (h : IsCov w b F M H N) :
    Calls Try.prog 60 #[.pointer (some ⟨b, 0, none⟩)] w (KnownPost (wholeP M H) w) := by
  have hu0 : Upd [] w (w.alloc (.cells #[.int .u64 0, .int .i64 0, .bool false, .bool false] 103)) := (Upd.refl _ _).alloc _
  have hnn := covNone b F M H N _ (h.upd0 hu0)
  obtain ⟨mv, nv, ov, pv, hb, en, rfl, h1, h2⟩ := h
  have hbw : b < w.heap.size := lt_of_block h1.head
  obtain ⟨n, hn⟩ : ∃ n, M.length - 1 = n := ⟨_, rfl⟩
  unfold wholeP
  rw [hn] at h1 ⊢
  have c1 := h1.cells.2.1
  have HN := Lib.hid hnn
  clear hnn h2
  by_cases hn0 : n = 0
  · have e1 : rootI n = -1 := by unfold rootI; rw [if_pos hn0]
    rw [e1] at c1
    rw [if_pos hn0]
    clear h1 hn0 hn e1
    go_enter Try.func60, Try.ntmps60
    go_wp2_with fail
    (with_reducible refine HN.out.mono ?_)
    rintro e w' ⟨rfl, rfl⟩
    go_wp2_with fail
    refine bodyPost_ret (v := partVal ⟨0, 0, false, false⟩) (by simp [results, Try.results60, go_sem, partVal]) rfl ⟨rfl, (Upd.refl _ _).alloc _⟩
  · obtain ⟨r, hr⟩ : ∃ r, 2 * n - 2 = r := ⟨_, rfl⟩
    have e1 : rootI n = (r : Int) := by unfold rootI; rw [if_neg hn0, hr]
    rw [e1] at c1
    rw [if_neg hn0]
    have hP : (pN (cntH H) M n)[r]? = some (partV (cntH H) (mf M) 0 n 0 (n + 1)) := by
      unfold pN
      rw [if_neg hn0, pL_kids]
      have := get_mid [] (pK (cntH H) (mf M) 0 n) [] (partV (cntH H) (mf M) 0 n 0 (n + 1)) (k := r) (by rw [pK_len _ _ (by omega)]; simp; omega)
      simpa using this
    obtain ⟨gp, Cp, rfl, ep, -⟩ := row_at h1.parts hP
    have c4 := h1.cells.2.2.2.2.1
    have hrl := (List.getElem?_eq_some_iff.1 hP).1
    obtain ⟨N', hN'⟩ : ∃ N', (pN (cntH H) M n).length = N' := ⟨_, rfl⟩
    rw [hN'] at c4 hrl
    obtain ⟨V, hV⟩ : ∃ V, partV (cntH H) (mf M) 0 n 0 (n + 1) = V := ⟨_, rfl⟩
    rw [hV] at ep ⊢
    obtain ⟨pl, pr, pf, pa⟩ := V
    have p0 : w.cell? ⟨gp, r * 4, none⟩ = some (.int .u64 pl) := ep 0 _ rfl
    have p1 : w.cell? ⟨gp, r * 4 + 1, none⟩ = some (.int .i64 pr) := ep 1 _ rfl
    have p2 : w.cell? ⟨gp, r * 4 + 2, none⟩ = some (.bool pf) := ep 2 _ rfl
    have p3 : w.cell? ⟨gp, r * 4 + 3, none⟩ = some (.bool pa) := ep 3 _ rfl
    have hgp : gp < w.heap.size := World.block_lt_of_cell? w _ p0
    have r0 : (0 : Int) ≤ (r : Int) := Int.natCast_nonneg _
    have r1 : (r : Int) < (N' : Int) := by omega
    have HS := Lib.hid (And.intro ((hu0.cell (p := ⟨b, 4, none⟩) hbw (by simp)).trans c4) (And.intro ((hu0.cell (p := ⟨b, 1, none⟩) hbw (by simp)).trans c1) (And.intro ((hu0.cell (p := ⟨gp, r * 4, none⟩) hgp (by simp)).trans p0) (And.intro ((hu0.cell (p := ⟨gp, r * 4 + 1, none⟩) hgp (by simp)).trans p1) (And.intro ((hu0.cell (p := ⟨gp, r * 4 + 2, none⟩) hgp (by simp)).trans p2) ((hu0.cell (p := ⟨gp, r * 4 + 3, none⟩) hgp (by simp)).trans p3))))))
    have hd : decide ((r : Int) < 0) = false := decide_eq_false (by omega)
    clear h1 hn0 hn e1 hr hP ep hrl hN' hV p0 p1 p2 p3 c4 hu0
    go_enter Try.func60, Try.ntmps60
    go_wp2_with fail
    (with_reducible refine HN.out.mono ?_)
    rintro e w' ⟨rfl, rfl⟩
    go_upto_region 3 with fail
    -- region 3: T waits for all loads; fuel 1
    refine GoT.start [10] (fun w' => w'.cell? ⟨b, 4, none⟩ = some (.slice (some ⟨gp, 0, none⟩) N' Cp) ∧ w'.cell? ⟨b, 1, none⟩ = some (.int .i64 (r : Int)) ∧ w'.cell? ⟨gp, r * 4, none⟩ = some (.int .u64 pl) ∧ w'.cell? ⟨gp, r * 4 + 1, none⟩ = some (.int .i64 pr) ∧ w'.cell? ⟨gp, r * 4 + 2, none⟩ = some (.bool pf) ∧ w'.cell? ⟨gp, r * 4 + 3, none⟩ = some (.bool pa)) (by kernel_rfl) ?_ fun hS => ?_
    · exact HS.out
    refine' GoT.move (i := 0) (oi := ⟨some 13, _, _, _, _, _⟩) (v := _) rfl (by kernel_rfl) (by kernel_rfl) (by kernel_rfl) (fun _ _ _ h => h) (Or.inl ⟨by rfl, ?y3_0⟩) ?r3_0
    case y3_0 => intro w; go_simp <;> with_reducible rfl
    simp only [Act.put, List.setIfInBounds_toArray, List.set_cons_zero, List.set_cons_succ]
    refine' GoT.move (i := 1) (oi := ⟨some 14, _, _, _, _, _⟩) (v := _) rfl (by kernel_rfl) (by kernel_rfl) (by kernel_rfl) (fun _ _ _ h => h) (Or.inl ⟨by rfl, ?y3_1⟩) ?r3_1
    case y3_1 => intro w; go_simp <;> with_reducible rfl
    simp only [Act.put, List.setIfInBounds_toArray, List.set_cons_zero, List.set_cons_succ]
    refine' GoT.move (i := 2) (oi := ⟨some 15, _, _, _, _, _⟩) (v := _) rfl (by kernel_rfl) (by kernel_rfl) (by kernel_rfl) (fun _ _ _ h => h) (Or.inl ⟨by rfl, ?y3_2⟩) ?r3_2
    case y3_2 => intro w; go_simp <;> with_reducible rfl
    simp only [Act.put, List.setIfInBounds_toArray, List.set_cons_zero, List.set_cons_succ]
    refine' GoT.take 1 (i := 3) (oi := ⟨some 16, _, _, _, _, _⟩) (v := _) rfl (by kernel_rfl) (by kernel_rfl) (by kernel_rfl) (by kernel_rfl) (fun _ _ _ h => h) (Or.inl ⟨by rfl, ?y3_3⟩) (by assumption) ?r3_3
    case y3_3 => intro w hSw; go_simp <;> with_reducible rfl
    simp only [Act.put, List.setIfInBounds_toArray, List.set_cons_zero, List.set_cons_succ]
    refine' GoT.move (i := 4) (oi := ⟨some 17, _, _, _, _, _⟩) (v := _) rfl (by kernel_rfl) (by kernel_rfl) (by kernel_rfl) (fun _ _ _ h => h) (Or.inl ⟨by rfl, ?y3_4⟩) ?r3_4
    case y3_4 => intro w; go_simp <;> with_reducible rfl
    simp only [Act.put, List.setIfInBounds_toArray, List.set_cons_zero, List.set_cons_succ]
    refine' GoT.move (i := 5) (oi := ⟨some 18, _, _, _, _, _⟩) (v := _) rfl (by kernel_rfl) (by kernel_rfl) (by kernel_rfl) (fun _ _ _ h => h) (Or.inl ⟨by rfl, ?y3_5⟩) ?r3_5
    case y3_5 => intro w; go_simp <;> with_reducible rfl
    simp only [Act.put, List.setIfInBounds_toArray, List.set_cons_zero, List.set_cons_succ]
    refine' GoT.move (i := 6) (oi := ⟨some 19, _, _, _, _, _⟩) (v := _) rfl (by kernel_rfl) (by kernel_rfl) (by kernel_rfl) (fun _ _ _ h => h) (Or.inl ⟨by rfl, ?y3_6⟩) ?r3_6
    case y3_6 => intro w; go_simp <;> with_reducible rfl
    simp only [Act.put, List.setIfInBounds_toArray, List.set_cons_zero, List.set_cons_succ]
    refine' GoT.take 1 (i := 7) (oi := ⟨some 20, _, _, _, _, _⟩) (v := _) rfl (by kernel_rfl) (by kernel_rfl) (by kernel_rfl) (by kernel_rfl) (fun _ _ _ h => h) (Or.inl ⟨by rfl, ?y3_7⟩) (by assumption) ?r3_7
    case y3_7 => intro w hSw; go_simp <;> with_reducible rfl
    simp only [Act.put, List.setIfInBounds_toArray, List.set_cons_zero, List.set_cons_succ]
    refine' GoT.move (i := 8) (oi := ⟨some 21, _, _, _, _, _⟩) (v := _) rfl (by kernel_rfl) (by kernel_rfl) (by kernel_rfl) (fun _ _ _ h => h) (Or.inl ⟨by rfl, ?y3_8⟩) ?r3_8
    case y3_8 => intro w; go_simp <;> with_reducible rfl
    simp only [Act.put, List.setIfInBounds_toArray, List.set_cons_zero, List.set_cons_succ]
    refine' GoT.take 1 (i := 9) (oi := ⟨some 22, _, _, _, _, _⟩) (v := _) rfl (by kernel_rfl) (by kernel_rfl) (by kernel_rfl) (by kernel_rfl) (fun _ _ _ h => h) (Or.inl ⟨by rfl, ?y3_9⟩) (by assumption) ?r3_9
    case y3_9 => intro w hSw; go_simp <;> with_reducible rfl
    simp only [Act.put, List.setIfInBounds_toArray, List.set_cons_zero, List.set_cons_succ]
    -- ACT 10: Go.Op.store 103 (Go.Operand.tmp 2) (Go.Operand.tmp 22)
    refine GoT.one (i := 10) (o := ⟨none, _, _, _, _, _⟩) rfl (by kernel_rfl) fun K hK => ?_
    go_simp
    refine hK.out _ _ (fun h => (by cases h)) ?_
    clear hK K
    try simp only [Act.put, List.setIfInBounds_toArray, List.set_cons_zero, List.set_cons_succ]
    refine GoT.done (by kernel_rfl) ?_
    go_wp2_with fail
    refine bodyPost_ret (v := partVal ⟨pl, pr, pf, pa⟩) (by simp [results, Try.results60, go_sem, partVal]) rfl ⟨rfl, ((Upd.refl _ _).alloc _).drew⟩

set_option maxRecDepth 100000 in
set_option maxHeartbeats 400000 in
theorem longC (b : Nat) (F : List Nat) (M : List Int) (H : List (Nat × Nat)) (N : Nat) (w : World) (h : IsCov w b F M H N) :
    Calls Try.prog 23 #[.pointer (some ⟨b, 0, none⟩)] w fun e w' => e = .returned (.int .u64 (wholeP M H).long) ∧ Upd [] w w' := by
  have hw := wholeC b F M H N w h
  obtain ⟨V, hV⟩ : ∃ V, wholeP M H = V := ⟨_, rfl⟩
  rw [hV] at hw ⊢
  obtain ⟨pl, pr, pf, pa⟩ := V
  unfold KnownPost partVal at hw
  dsimp only at hw ⊢
  have hfd : ∀ w : World, (Instr.field 103 (.agg #[.int .u64 pl, .int .i64 pr, .bool pf, .bool pa]) 0).run Try.prog w = .ok (.int .u64 pl) w := fun _ => by kernel_rfl
  have HW := Lib.hid hw
  clear hw hV h
  go_enter Try.func23, Try.ntmps23
  go_wp2_with fail
  (with_reducible refine HW.out.mono ?_)
  rintro e w1 ⟨rfl, hu⟩
  have HU := Lib.hid hu
  clear hu
  go_wp2_with fail
  go_ret
  exact ⟨rfl, HU.out⟩

set_option maxRecDepth 100000 in
set_option maxHeartbeats 400000 in
theorem runsC (b : Nat) (F : List Nat) (M : List Int) (H : List (Nat × Nat)) (N : Nat) (w : World) (h : IsCov w b F M H N) :
    Calls Try.prog 25 #[.pointer (some ⟨b, 0, none⟩)] w fun e w' => e = .returned (.int .i64 (wholeP M H).runs) ∧ Upd [] w w' := by
  have hw := wholeC b F M H N w h
  obtain ⟨V, hV⟩ : ∃ V, wholeP M H = V := ⟨_, rfl⟩
  rw [hV] at hw ⊢
  obtain ⟨pl, pr, pf, pa⟩ := V
  unfold KnownPost partVal at hw
  dsimp only at hw ⊢
  have hfd : ∀ w : World, (Instr.field 103 (.agg #[.int .u64 pl, .int .i64 pr, .bool pf, .bool pa]) 1).run Try.prog w = .ok (.int .i64 pr) w := fun _ => by kernel_rfl
  have HW := Lib.hid hw
  clear hw hV h
  go_enter Try.func25, Try.ntmps25
  go_wp2_with fail
  (with_reducible refine HW.out.mono ?_)
  rintro e w1 ⟨rfl, hu⟩
  have HU := Lib.hid hu
  clear hu
  go_wp2_with fail
  go_ret
  exact ⟨rfl, HU.out⟩
end Go.Proofs.Ythkiljfjjnckaaa
