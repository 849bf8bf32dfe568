/- The document's Half (gridironref22): Drop. Printed by mkrefdr.py. The document's Half (gridironref22): Add of what is there, Drop of what is not; Add and Drop in one. -/
import Derived.Test.YtkhgglafnjfiaaaRefTr
namespace Go.Proofs.Ytkhgglafnjfiaaa
open Go.RowKit

def lessV (V : List (Int × Bool)) (x : Int) : Nat := if 2 * (vAll (vKill V x)).length < V.length then (vAll (vKill V x)).length else 0

set_option maxRecDepth 100000 in
set_option maxHeartbeats 16000000 in
theorem dropRefYes (vL vA : Value) (V : List (Int × Bool)) (wk p : Nat) (x : Int) (w : World) (h : RefAt w vL vA V) (hl : V.length < 10000) (hwk : wk < 10000000) (hp : V[p]? = some (x, true)) (hf : vFind V x = (p : Int)) (hnd : (vAll V).Nodup) :
    Calls Try.prog 45 #[.agg #[vL, vA, .int .i64 (wk : Int)], .int .i64 x] w fun e w' => Upd [] w w' ∧ ∃ vL' vA', RefAt w' vL' vA' (vDrop V x) ∧ NewB w w' vL vL' ∧ NewB w w' vA vA' ∧ e = .returned (.tuple #[.agg #[vL', vA', .int .i64 ((wk + lessV V x : Nat) : Int)], .int .i64 ((lessV V x : Nat) : Int), .bool true]) := by
  obtain ⟨AL, CL, AA, CA, rfl, rfl⟩ := h.form
  obtain ⟨i4, hi4, hw0, hw1, hw2⟩ := info_parts info_boolH
  obtain ⟨n, hn⟩ : ∃ n, V.length = n := ⟨_, rfl⟩
  have hpn : p < n := by rw [← hn]; exact (List.getElem?_eq_some_iff.1 hp).1
  have hfd := fun w' (hu : Upd [] w w') => find_ref _ _ V wk x w' (h.upd hu) (by omega)
  rw [hf] at hfd
  rw [hn] at hl
  simp only [hn] at hfd
  rw [hn]
  have hxl : Sees w 1 (.slice AL n CL) n (KI.all (V.map (·.1))) := by have := h.1; unfold Ints at this; rw [List.length_map, hn] at this; exact this
  have hxa : Sees w 1 (.slice AA n CA) n (V.map fun p => .bool p.2) := by have := h.2; rw [hn] at this; exact this
  obtain ⟨XA, hXA⟩ : ∃ XA : List Value, (V.map fun p => (.bool p.2 : Value)) = XA := ⟨_, rfl⟩
  have ha1 : ∀ u ∈ XA, u.oneCell' = true := by rw [← hXA]; intro u hu; obtain ⟨p, -, rfl⟩ := List.mem_map.1 hu; rfl
  rw [hXA] at hxa
  have n0 : (0 : Int) ≤ (n : Int) := Int.natCast_nonneg _
  have n1 : (n : Int) < 10000 := by omega
  have k0 : (0 : Int) ≤ (wk : Int) := Int.natCast_nonneg _
  have k1 : (wk : Int) < 10000000 := by omega
  have p0 : (0 : Int) ≤ (p : Int) := Int.natCast_nonneg _
  have p1 : (p : Int) < (n : Int) := by omega
  have hpd : decide ((p : Int) < 0) = false := decide_eq_false (by omega)
  have HFD := Lib.hid hfd
  have HX0 := Lib.hid (And.intro hxl hxa)
  have HN := Lib.hid (And.intro hn (And.intro hXA (And.intro hp hnd)))
  have hb0 := CelH.new w (.slice AL n CL) (.slice AA n CA) (.int .i64 (wk : Int))
  have hu0 : Upd [] w (w.alloc (.cells #[.slice AL n CL, .slice AA n CA, .int .i64 (wk : Int)] 74)) := (Upd.refl _ _).alloc _
  have hr0 := CelH.new (w.alloc (.cells #[.slice AL n CL, .slice AA n CA, .int .i64 (wk : Int)] 74)) (.slice none 0 0) (.slice none 0 0) (.int .i64 0)
  have hu1 := hu0.alloc (.cells #[.slice none 0 0, .slice none 0 0, .int .i64 0] 74)
  have hb1 := hb0.upd0 ((Upd.refl [] _).alloc (.cells #[.slice none 0 0, .slice none 0 0, .int .i64 0] 74))
  have HE := Lib.hid (And.intro hb1 (And.intro hr0 (And.intro hu1 (And.intro (sees_upd hxl hu1 (by simp)) (sees_upd hxa hu1 (by simp))))))
  clear h hn hf hfd hp hnd hpn hl hwk hxl hxa hXA hb0 hu0 hr0 hu1 hb1
  go_enter Try.func45, Try.ntmps45
  go_upto_region 1 with fail
  generalize hW1 : (w.alloc (.cells #[.slice AL n CL, .slice AA n CA, .int .i64 (wk : Int)] 74)).alloc (.cells #[.slice none 0 0, .slice none 0 0, .int .i64 0] 74) = W1 at HE ⊢
  clear hW1
  have hsz : (w.alloc (.cells #[.slice AL n CL, .slice AA n CA, .int .i64 (wk : Int)] 74)).heap.size = w.heap.size + 1 := by simp
  rw [hsz] at HE
  obtain ⟨hb, hhb⟩ : ∃ hb, w.heap.size = hb := ⟨_, rfl⟩
  rw [hhb] at HE ⊢
  have HHB := Lib.hid hhb
  clear hhb hsz
  obtain ⟨c0, c1, c2, f0⟩ := HE.out.1.cells
  have HFD1 := Lib.hid (HFD.out W1 HE.out.2.2.1)
  clear f0
  go_wp2_with fail
  (with_reducible refine HFD1.out.mono ?_)
  rintro e w2 ⟨rfl, u2⟩
  clear c0 c1 c2
  go_upto_region 4 with fail
  have HB0 := Lib.hid (HE.out.1.upd0 u2)
  have HB4 := Lib.hid (HE.out.2.1.upd0 u2)
  obtain ⟨Wd, hWd⟩ : ∃ Wd, Wd = w2.drew := ⟨_, rfl⟩
  have HD0 := Lib.hid (show Upd [] w2 Wd by rw [hWd]; exact (Upd.refl _ _).drew)
  have HX := Lib.hid (And.intro (sees_upd (sees_upd HE.out.2.2.2.1 u2 (by simp)) HD0.out (by simp)) (sees_upd (sees_upd HE.out.2.2.2.2 u2 (by simp)) HD0.out (by simp)))
  have HU2 := Lib.hid (And.intro (HE.out.2.2.1.trans u2) (HE.out.2.2.1.trans (u2.trans HD0.out)))
  have HLT := Lib.hid (show hb < Wd.heap.size ∧ hb + 1 < Wd.heap.size from ⟨Nat.lt_of_lt_of_le HB0.out.lt HD0.out.size, Nat.lt_of_lt_of_le HB4.out.lt HD0.out.size⟩)
  clear u2
  -- region 4: T waits for all loads; fuel 1
  refine GoT.start [] (fun w' => CelH w' hb (.slice AL n CL) (.slice AA n CA) (.int .i64 (wk : Int))) (by kernel_rfl) ?_ fun hS => ?_
  · rw [← hWd]; exact HB0.out.upd0 HD0.out
  rw [← hWd] at hS ⊢
  clear hWd
  refine' GoT.move (i := 0) (oi := ⟨some 17, _, _, _, _, _⟩) (v := _) rfl (by kernel_rfl) (by kernel_rfl) (by kernel_rfl) (fun _ _ _ h => h) (Or.inl ⟨by rfl, ?y4_0⟩) ?r4_0
  case y4_0 => intro w; go_simp <;> with_reducible rfl
  simp only [Act.put, List.setIfInBounds_toArray, List.set_cons_zero, List.set_cons_succ]
  refine' GoT.take 1 (i := 1) (oi := ⟨some 18, _, _, _, _, _⟩) (v := _) rfl (by kernel_rfl) (by kernel_rfl) (by kernel_rfl) (by kernel_rfl) (fun _ _ _ h => h) (Or.inl ⟨by rfl, ?y4_1⟩) (by assumption) ?r4_1
  case y4_1 => intro w hSw; obtain ⟨c0, c1, c2, f0⟩ := hSw.cells; go_simp <;> with_reducible rfl
  simp only [Act.put, List.setIfInBounds_toArray, List.set_cons_zero, List.set_cons_succ]
  refine' GoT.move (i := 3) (oi := ⟨some 20, _, _, _, _, _⟩) (v := _) rfl (by kernel_rfl) (by kernel_rfl) (by kernel_rfl) (fun _ _ _ h => h) (Or.inl ⟨by rfl, ?y4_3⟩) ?r4_3
  case y4_3 => intro w; go_simp <;> with_reducible rfl
  simp only [Act.put, List.setIfInBounds_toArray, List.set_cons_zero, List.set_cons_succ]
  refine' GoT.take 1 (i := 4) (oi := ⟨some 21, _, _, _, _, _⟩) (v := _) rfl (by kernel_rfl) (by kernel_rfl) (by kernel_rfl) (by kernel_rfl) (fun _ _ _ h => h) (Or.inl ⟨by rfl, ?y4_4⟩) (by assumption) ?r4_4
  case y4_4 => intro w hSw; obtain ⟨c0, c1, c2, f0⟩ := hSw.cells; go_simp <;> with_reducible rfl
  simp only [Act.put, List.setIfInBounds_toArray, List.set_cons_zero, List.set_cons_succ]
  refine' GoT.move (i := 6) (oi := ⟨some 23, _, _, _, _, _⟩) (v := _) rfl (by kernel_rfl) (by kernel_rfl) (by kernel_rfl) (fun _ _ _ h => h) (Or.inl ⟨by rfl, ?y4_6⟩) ?r4_6
  case y4_6 => intro w; go_simp <;> with_reducible rfl
  simp only [Act.put, List.setIfInBounds_toArray, List.set_cons_zero, List.set_cons_succ]
  refine' GoT.take 1 (i := 7) (oi := ⟨some 24, _, _, _, _, _⟩) (v := _) rfl (by kernel_rfl) (by kernel_rfl) (by kernel_rfl) (by kernel_rfl) (fun _ _ _ h => h) (Or.inl ⟨by rfl, ?y4_7⟩) (by assumption) ?r4_7
  case y4_7 => intro w hSw; obtain ⟨c0, c1, c2, f0⟩ := hSw.cells; go_simp <;> with_reducible rfl
  simp only [Act.put, List.setIfInBounds_toArray, List.set_cons_zero, List.set_cons_succ]
  refine GoT.own [(2, 19), (5, 22), (8, 25), (9, 8)] 1 (fun i j => (i == 5 && j == 2) || (i == 8 && j == 5)) (fun _ v => blkB v) (fun i v w => (i = 2 → w.ownsRow Wd.heap.size 4 1 v 0 []) ∧ (i = 5 → w.ownsRow Wd.heap.size 4 1 v n XA) ∧ (i = 8 → (∃ b, v = .agg #[.slice AL n CL, b, .int .i64 (wk : Int)] ∧ w.ownsRow Wd.heap.size 4 1 b n XA)) ∧ (i = 9 → (∃ q, v = .pointer (some ⟨q, 0, none⟩) ∧ CelH w q (.slice none 0 0) (.slice none 0 0) (.int .i64 0)))) (L1 := #[true, true, true, true, true, true, true, true, true, true, false]) (m := 1)
    (by kernel_rfl) (by decide) (by decide) (by kernel_rfl) (by kernel_rfl) (by kernel_rfl) (by kernel_rfl) (by kernel_rfl) (by kernel_rfl) (by kernel_rfl)
    (fun b hb => HB0.out.upd0 (HD0.out.trans hb)) (fun _ _ _ _ _ hF hu hd => ⟨fun e => own_upd (hF.1 e) hu (fun k hk => hd k (by obtain ⟨A8, C8, e8⟩ := own_form' (hF.1 e); rw [e8] at hk ⊢; exact hk)), fun e => own_upd (hF.2.1 e) hu (fun k hk => hd k (by obtain ⟨A8, C8, e8⟩ := own_form' (hF.2.1 e); rw [e8] at hk ⊢; exact hk)), fun e => by obtain ⟨q, rfl, g2⟩ := hF.2.2.1 e; exact ⟨q, rfl, own_upd g2 hu (fun k hk => hd k hk)⟩, fun e => by obtain ⟨q, rfl, g1⟩ := hF.2.2.2 e; exact ⟨q, rfl, g1.upd hu (hd q (by simp [blkB, blk]))⟩⟩) ?_ (by kernel_rfl) ?_
  · intro e he D v w' hO hD hdep hlv
    simp only [List.mem_cons, List.not_mem_nil, or_false] at he
    rcases he with rfl | rfl | rfl | rfl
    · refine wpOp_hid (o := ⟨some 19, _, _, _, _, _⟩) rfl fun K hK => ?_
      simp only [fills, putIf, Array.getD_eq_getD_getElem?, List.setIfInBounds_toArray, List.set_cons_zero, List.set_cons_succ, List.getElem?_toArray, List.getElem?_cons_zero, List.getElem?_cons_succ, Option.getD_some]
      have hz := hO.up.size
      have hown : (w'.alloc (.cells #[] 4)).ownsRow Wd.heap.size 4 1 (.slice (some ⟨w'.heap.size, 0, none⟩) 0 0) 0 [] := World.ownsRow_lit w' #[] 0 hz (by decide) rfl
      have HF := Lib.hid hown
      clear hO hdep hlv hz hown hD
      go_simp
      refine hK.out _ _ ⟨.slice (some ⟨w'.heap.size, 0, none⟩) 0 0, [], by simp [fills, putIf, Act.put], (Upd.refl _ _).alloc _, ⟨fun _ => HF.out, fun hc => (by cases hc), fun hc => (by cases hc), fun hc => (by cases hc)⟩, by simp, fun k hk => .inl (by simp [blkB, blk] at hk; subst hk; simp)⟩
    · refine wpOp_hid (o := ⟨some 22, _, _, _, _, _⟩) rfl fun K hK => ?_
      simp only [fills, putIf, Array.getD_eq_getD_getElem?, List.setIfInBounds_toArray, List.set_cons_zero, List.set_cons_succ, List.getElem?_toArray, List.getElem?_cons_zero, List.getElem?_cons_succ, Option.getD_some]
      have hr2 := hdep 2 (by kernel_rfl) (by decide)
      have hown := (hO.said (2, 19) (by simp) (hlv 2 (by decide) hr2 (by decide))).1 rfl
      have hsee : Sees w' 1 (.slice AA n CA) n XA := sees_upd HX.out.2 hO.up (by simp)
      simp only [hr2, cond_true]
      rw [if_pos (by simp [Region.wanted])]
      refine wp_app _ _ _ 72 (by rfl) Wd.heap.size 4 i4 (.bool false) 1 1 Try.underlying72 hi4 hw0 hw1 hw2 rfl (by decide) _ _ _ (by rfl) hown _ n XA (by rfl) hsee ha1 (by unfold maxLen; omega) (by omega) hO.up.size ?_
      intro A9 C9 w9 HP
      have hpo : w9.ownsRow Wd.heap.size 4 1 (.slice A9 (0 + n) C9) n XA := by have := HP.own; rw [Nat.zero_add] at this ⊢; exact this
      refine hK.out _ _ ⟨.slice A9 (0 + n) C9, blk (v 2), by simp [fills, putIf, Act.put, hr2], HP.upd, ⟨fun hc => (by cases hc), fun _ => hpo, fun hc => (by cases hc), fun hc => (by cases hc)⟩, fun k hk => ⟨2, by simp, by decide, hr2, ?_⟩, fun k hk => ?_⟩
      · obtain ⟨A8, C8, e8⟩ := own_form' hown
        rw [e8] at hk ⊢
        exact hk
      · rw [show blkB (.slice A9 _ C9) = blk (.slice A9 _ C9) from rfl] at hk
        rcases HP.at with h9 | h9
        · rw [h9] at hk
          refine .inr ⟨2, by simp, by decide, hr2, ?_⟩
          obtain ⟨A8, C8, e8⟩ := own_form' hown
          rw [e8] at hk ⊢
          exact hk
        · rw [h9] at hk
          simp at hk
          subst hk
          exact .inl ⟨Nat.le_refl _, by have := (own_lt HP.own) w'.heap.size (by rw [h9]; simp); exact this⟩
    · refine wpOp_hid (o := ⟨some 25, _, _, _, _, _⟩) rfl fun K hK => ?_
      simp only [fills, putIf, Array.getD_eq_getD_getElem?, List.setIfInBounds_toArray, List.set_cons_zero, List.set_cons_succ, List.getElem?_toArray, List.getElem?_cons_zero, List.getElem?_cons_succ, Option.getD_some]
      have hr5 := hdep 5 (by kernel_rfl) (by decide)
      have ho5 := (hO.said (5, 22) (by simp) (hlv 5 (by decide) hr5 (by decide))).2.1 rfl
      obtain ⟨A5, C5, e5⟩ := own_form' ho5
      simp only [hr5, cond_true, e5]
      rw [e5] at ho5
      have HF := Lib.hid (And.intro ho5 (And.intro hr5 e5))
      clear hO hdep hlv ho5 hr5 e5 hD
      go_simp
      refine hK.out _ _ ⟨.agg #[.slice AL n CL, .slice A5 n C5, .int .i64 (wk : Int)], [], by simp [fills, putIf, Act.put, HF.out.2.1, HF.out.2.2], Upd.refl _ _, ⟨fun hc => (by cases hc), fun hc => (by cases hc), fun _ => ⟨_, rfl, HF.out.1⟩, fun hc => (by cases hc)⟩, by simp, fun k hk => .inr ⟨5, by simp, by decide, HF.out.2.1, by rw [HF.out.2.2]; exact hk⟩⟩
    · refine wpOp_hid (o := ⟨some 8, _, _, _, _, _⟩) rfl fun K hK => ?_
      simp only [fills, putIf, Array.getD_eq_getD_getElem?, List.setIfInBounds_toArray, List.set_cons_zero, List.set_cons_succ, List.getElem?_toArray, List.getElem?_cons_zero, List.getElem?_cons_succ, Option.getD_some]
      clear hO hdep hlv hD
      go_simp
      refine hK.out _ _ ⟨.pointer (some ⟨w'.heap.size, 0, none⟩), [], by simp [fills, putIf, Act.put], (Upd.refl _ _).alloc _, ⟨fun hc => (by cases hc), fun hc => (by cases hc), fun hc => (by cases hc), fun _ => ⟨_, rfl, CelH.new _ _ _ _⟩⟩, by simp, fun k hk => .inl (by simp [blkB, blk] at hk; subst hk; simp)⟩
  intro v w' hO
  have hlv : ∀ k, k ∈ [8, 9] → liveO [(2, 19), (5, 22), (8, 25), (9, 8)] (fun i j => (i == 5 && j == 2) || (i == 8 && j == 5)) (fun _ => true) k = true := fun k hk => by
    simp only [List.mem_cons, List.not_mem_nil, or_false] at hk
    rcases hk with rfl | rfl <;> rfl
  obtain ⟨b, e8, ho5⟩ := (hO.said (8, 25) (by simp) (hlv 8 (by simp))).2.2.1 rfl
  obtain ⟨q, e9, hq⟩ := (hO.said (9, 8) (by simp) (hlv 9 (by simp))).2.2.2 rfl
  have hfar := hO.far (9, 8) (by simp) (8, 25) (by simp) (by decide) (hlv 9 (by simp)) (hlv 8 (by simp)) q (by dsimp only; rw [e9]; simp [blkB, blk])
  have hnew := (hO.news (9, 8) (by simp) (hlv 9 (by simp)) q (by dsimp only; rw [e9]; simp [blkB, blk])).1
  dsimp only at hfar
  rw [e8] at hfar
  have hq5 : q ∉ blk b := fun hc => hfar hc
  obtain ⟨A5, C5, rfl⟩ := own_form' ho5
  simp only [fills, putIf, cond_true, e8, e9, List.setIfInBounds_toArray, List.set_cons_zero, List.set_cons_succ]
  have HR := Lib.hid (And.intro ho5 (And.intro hq (And.intro hq5 (And.intro hnew hO.up))))
  obtain ⟨c0, c1, c2, f0⟩ := hq.cells
  clear hO hlv e8 e9 hfar ho5 hq hq5 hnew hS
  refine GoT.one (i := 10) (o := ⟨none, _, _, _, _, _⟩) rfl (by kernel_rfl) fun K hK => ?_
  have f1 := f0 1
  have f2 := f0 2
  have f0 := f0 0
  go_simp
  refine hK.out _ _ (fun _ hc => hc.upd (celH_put (q := q) (Upd.refl [q] w') (.inl (by simp)) _ _ _) (by have := HR.out.2.2.2.1; have := HLT.out; simp only [List.mem_singleton]; omega)) ?_
  clear hK K c0 c1 c2 f0 f1 f2
  simp only [List.setIfInBounds_toArray, List.set_cons_zero, List.set_cons_succ]
  have hq := HR.out.2.1.put (.slice AL n CL) (.slice A5 n C5) (.int .i64 (wk : Int))
  have hup := celH_put (q := q) (Upd.refl [q] w') (.inl (by simp)) (.slice AL n CL) (.slice A5 n C5) (.int .i64 (wk : Int))
  have ho5 := own_upd HR.out.1 hup (fun k hk hc => HR.out.2.2.1 (by simp at hc; rw [← hc]; exact hk))
  have hupd : Upd [] Wd ((((w'.setCell ⟨q, 0, none⟩ (.slice AL n CL)).setCell ⟨q, 1, none⟩ (.slice A5 n C5)).setCell ⟨q, 2, none⟩ (.int .i64 (wk : Int)))) := HR.out.2.2.2.2.trans' hup (fun y hy => .inr (by simp at hy; rw [hy]; exact HR.out.2.2.2.1))
  have HR2 := Lib.hid (And.intro ho5 (And.intro hq (And.intro HR.out.2.2.1 (And.intro HR.out.2.2.2.1 hupd))))
  clear hq hup ho5 hupd HR
  generalize ((w'.setCell ⟨q, 0, none⟩ (.slice AL n CL)).setCell ⟨q, 1, none⟩ (.slice A5 n C5)).setCell ⟨q, 2, none⟩ (.int .i64 (wk : Int)) = W3 at HR2 ⊢
  refine GoT.done (by kernel_rfl) ?_
  -- the one that is dropped
  have hpX : XA[p]? = some (.bool true) := by rw [← HN.out.2.1, List.getElem?_map, HN.out.2.2.1]; rfl
  obtain ⟨g5, hg5, c5, f5⟩ : ∃ g5, A5 = some ⟨g5, 0, none⟩ ∧ W3.cell? ⟨g5, p, none⟩ = some (.bool true) ∧ W3.frozen? ⟨g5, p, none⟩ = false := by
    obtain ⟨g, cap, e, -, -⟩ := World.ownsRow.form HR2.out.1 (by omega)
    cases e
    exact ⟨g, rfl, by rw [World.ownsRow.cellAt HR2.out.1 p (by omega)]; exact hpX, World.ownsRow.frozenAt HR2.out.1 p⟩
  subst hg5
  obtain ⟨c0, c1, c2, f0⟩ := HR2.out.2.1.cells
  have hq5 : q ≠ g5 := fun e => HR2.out.2.2.1 (by simp [blk, e])
  have hst := (World.ownsRow.stored HR2.out.1 p (.bool false)).1
  have hkv := kill_set HN.out.2.2.2 HN.out.2.2.1
  have hXk : XA.set p (.bool false) = ((vKill V x).map fun p => (.bool p.2 : Value)) := by rw [← hkv, List.map_set, HN.out.2.1]
  have hkf : (vKill V x).map (·.1) = V.map (·.1) := by
    unfold vKill
    rw [List.map_map]
    refine List.map_congr_left fun p _ => ?_
    simp only [Function.comp]
    split <;> rfl
  have hkl : (vKill V x).length = n := by rw [vKill_len, HN.out.1]
  rw [hXk] at hst
  have hu4 : Upd [g5] W3 (W3.setCell ⟨g5, p, none⟩ (.bool false)) := (Upd.refl [g5] W3).setCell (p := ⟨g5, p, none⟩) (.inl (by simp)) _
  have hg5d : Wd.heap.size ≤ g5 := own_ge HR2.out.1 g5 (by simp [blk])
  have hq4 := HR2.out.2.1.upd hu4 (by simpa using hq5)
  have hup4 : Upd [] w2 (W3.setCell ⟨g5, p, none⟩ (.bool false)) := (HD0.out.trans HR2.out.2.2.2.2).trans' hu4 (fun y hy => .inr (by simp at hy; rw [hy]; exact Nat.le_trans HD0.out.size hg5d))
  have hxl4 : Sees (W3.setCell ⟨g5, p, none⟩ (.bool false)) 1 (.slice AL n CL) n (KI.all (V.map (·.1))) := sees_upd HX.out.1 (HR2.out.2.2.2.2.trans' hu4 (F := []) (fun y hy => .inr (by simp at hy; rw [hy]; exact hg5d))) (by simp)
  have hb3 := (HB0.out.upd0 (HD0.out.trans HR2.out.2.2.2.2)).upd hu4 (by have := HLT.out.1; simp; omega)
  have h44 := HB4.out.upd0 hup4
  have hqd := HR2.out.2.2.2.1
  have H4 := Lib.hid (And.intro hq4 (And.intro hst (And.intro hxl4 (And.intro h44 (And.intro hup4 hb3)))))
  have HK := Lib.hid (And.intro hkf hkl)
  clear hq4 hst hxl4 h44 hup4 hb3 hXk hkf hkl hkv hu4 hpX
  go_upto_region 6 with fail
  clear c0 c1 c2 f0 c5 f5
  generalize W3.setCell ⟨g5, p, none⟩ (.bool false) = W4 at H4 ⊢
  have hra : RefAt W4 (.slice AL n CL) (.slice (some ⟨g5, 0, none⟩) n C5) (vKill V x) := by
    refine ⟨?_, ?_⟩
    · unfold Ints
      rw [HK.out.1, List.length_map, HN.out.1]
      exact H4.out.2.2.1
    · rw [HK.out.2]
      exact sees_of_own H4.out.2.1
  have hal := all_ref _ _ (vKill V x) (wk : Int) W4 hra (by rw [HK.out.2]; omega)
  have hml : (vAll (vKill V x)).length ≤ n := by have := vAll_len (vKill V x); rw [HK.out.2] at this; exact this
  obtain ⟨m, hm⟩ : ∃ m, (vAll (vKill V x)).length = m := ⟨_, rfl⟩
  rw [hm] at hal hml
  have hles : lessV V x = if 2 * m < n then m else 0 := by unfold lessV; rw [hm, HN.out.1]
  have HAL := Lib.hid hal
  have HRA := Lib.hid hra
  have HM := Lib.hid (And.intro hm hles)
  have m0 : (0 : Int) ≤ (m : Int) := Int.natCast_nonneg _
  have m1 : (m : Int) ≤ 10000 := by omega
  obtain ⟨c0, c1, c2, -⟩ := H4.out.1.cells
  clear hra hal hm hles
  go_wp2_with fail
  (with_reducible refine HAL.out.mono ?_)
  rintro e w5 ⟨Aa, Ca, rfl, hall, u5⟩
  have hq5' := H4.out.1.upd0 u5
  have h45 := H4.out.2.2.2.1.upd0 u5
  have hb5 := H4.out.2.2.2.2.2.upd0 u5
  have H5 := Lib.hid (And.intro hq5' (And.intro hall (And.intro h45 (And.intro u5 hb5))))
  obtain ⟨d0, d1, d2, dF⟩ := hq5'.cells
  clear c0 c1 c2 hq5' hall h45 u5 hb5 hml
  by_cases hc : n ≤ 2 * m
  · have hcd : decide ((n : Int) ≤ 2 * (m : Int)) = true := decide_eq_true (by omega)
    have hl0 : lessV V x = 0 := by rw [HM.out.2, if_neg (by omega)]
    have hvd : vDrop V x = vKill V x := by unfold vDrop; rw [HM.out.1, HN.out.1, if_neg (by omega)]
    have HLV := Lib.hid (And.intro hl0 hvd)
    obtain ⟨-, -, -, g0⟩ := H5.out.2.2.1.cells
    obtain ⟨r0, r1, r2, -⟩ := H5.out.2.2.1.cells
    have g1 := g0 1
    have g2 := g0 2
    have g0 := g0 0
    have hrp := H5.out.2.2.1.put (.slice AL n CL) (.slice (some ⟨g5, 0, none⟩) n C5) (.int .i64 (wk : Int))
    have hup := celH_put (q := hb + 1) (Upd.refl [hb + 1] w5) (.inl (by simp)) (.slice AL n CL) (.slice (some ⟨g5, 0, none⟩) n C5) (.int .i64 (wk : Int))
    have hupw : Upd [] w (((w5.setCell ⟨hb + 1, 0, none⟩ (.slice AL n CL)).setCell ⟨hb + 1, 1, none⟩ (.slice (some ⟨g5, 0, none⟩) n C5)).setCell ⟨hb + 1, 2, none⟩ (.int .i64 (wk : Int))) := ((HU2.out.1.trans H4.out.2.2.2.2.1).trans H5.out.2.2.2.1).trans' hup (fun y hy => .inr (by simp at hy; have := HHB.out; omega))
    have hs12 := sees_upd (sees_of_own (own_upd H4.out.2.1 H5.out.2.2.2.1 (by simp))) hup (fun _ k hk _ hc => by have h9 := own_ge H4.out.2.1 k hk; have := HLT.out.2; simp at hc; omega)
    have hs6 := sees_upd HX0.out.1 hupw (by simp)
    have HF := Lib.hid (And.intro hrp (And.intro hs12 (And.intro hs6 (And.intro hupw (Nat.le_trans H5.out.2.2.2.1.size hup.size)))))
    clear hrp hup hupw hs12 hs6 hl0 hvd dF hc
    go_wp2_with fail
    obtain ⟨z0, z1, z2, -⟩ := HF.out.1.cells
    (try simp only [Exit.inBlock, Exit.then])
    refine bodyPost_ret (v := .tuple #[.agg #[.slice AL n CL, .slice (some ⟨g5, 0, none⟩) n C5, .int .i64 (wk : Int)], .int .i64 0, .bool true]) (by simp [results, Try.results45, go_sem, z0, z1, z2]) rfl ⟨?_, .slice AL n CL, .slice (some ⟨g5, 0, none⟩) n C5, ⟨?_, ?_⟩, NewB.refl _ _ _, NewB.of_own H4.out.2.1 HU2.out.2.size HF.out.2.2.2.2, ?_⟩
    · exact HF.out.2.2.2.1
    · rw [HLV.out.2]
      unfold Ints
      rw [HK.out.1, List.length_map, HN.out.1]
      exact HF.out.2.2.1
    · rw [HLV.out.2, HK.out.2]
      exact HF.out.2.1
    · rw [HLV.out.1]; rfl
  · have hcd : decide ((n : Int) ≤ 2 * (m : Int)) = false := decide_eq_false (by omega)
    have hl0 : lessV V x = m := by rw [HM.out.2, if_pos (by omega)]
    have hvd : vDrop V x = (vAll (vKill V x)).map fun y => (y, true) := by unfold vDrop; rw [HM.out.1, HN.out.1, if_pos (by omega)]
    have HLV := Lib.hid (And.intro hl0 hvd)
    obtain ⟨-, -, e2, -⟩ := H5.out.2.2.2.2.cells
    have f1 := dF 1
    have f2 := dF 2
    have f0 := dF 0
    have hqp := H5.out.1.put (.slice Aa m Ca) (.slice none 0 0) (.int .i64 ((wk : Int) + (m : Int)))
    have hup := celH_put (q := q) (Upd.refl [q] w5) (.inl (by simp)) (.slice Aa m Ca) (.slice none 0 0) (.int .i64 ((wk : Int) + (m : Int)))
    have hqw2 : w2.heap.size ≤ q := Nat.le_trans HD0.out.size hqd
    have hup6 : Upd [] w2 (((w5.setCell ⟨q, 0, none⟩ (.slice Aa m Ca)).setCell ⟨q, 1, none⟩ (.slice none 0 0)).setCell ⟨q, 2, none⟩ (.int .i64 ((wk : Int) + (m : Int)))) := (H4.out.2.2.2.2.1.trans H5.out.2.2.2.1).trans' hup (fun y hy => .inr (by simp at hy; rw [hy]; exact hqw2))
    have hallu := own_upd H5.out.2.1 hup (fun k hk hc => by have h1 := own_ge H5.out.2.1 k hk; have h2 := H4.out.1.lt; simp at hc; omega)
    have h46 := HB4.out.upd0 hup6
    have H6 := Lib.hid (And.intro hqp (And.intro hallu (And.intro h46 hup6)))
    have H6S := Lib.hid hup.size
    clear hqp hallu h46 hup6 hup hl0 hvd dF hc
    go_upto_region 10 with fail
    clear d0 d1 d2 e2 f0 f1 f2
    generalize ((w5.setCell ⟨q, 0, none⟩ (.slice Aa m Ca)).setCell ⟨q, 1, none⟩ (.slice none 0 0)).setCell ⟨q, 2, none⟩ (.int .i64 ((wk : Int) + (m : Int))) = w6 at H6 H6S ⊢
    go_wp2_with fail
    go_loopg [10] m (fun z s10 wr => ∃ (k : Nat) (A7 : Option Addr) (C7 : Nat), z + k = m ∧ s10 = .int .i64 (k : Int) ∧ CelH wr q (.slice Aa m Ca) (.slice A7 k C7) (.int .i64 ((wk : Int) + (m : Int))) ∧ wr.ownsRow w6.heap.size 4 1 (.slice A7 k C7) k (List.replicate k (.bool true)) ∧ Upd [q] w6 wr)
    case atStart => exact ⟨0, none, 0, rfl, rfl, H6.out.1, World.ownsRow_nil _ _ _ _, Upd.refl _ _⟩
    case round =>
      obtain ⟨k, A7, C7, hk, rfl, hcq, hrow, hup⟩ := hrel
      have k0 : (0 : Int) ≤ (k : Int) := Int.natCast_nonneg _
      have hkm : k ≤ m := by omega
      have hql : q < w6.heap.size := H6.out.1.lt
      have hqn : q ∉ blk (.slice A7 k C7) := fun hc => by have := own_ge hrow q hc; omega
      obtain ⟨d0, d1, d2, dF⟩ := hcq.cells
      have HK7 := Lib.hid (And.intro hk (And.intro hcq (And.intro hrow (And.intro hup hqn))))
      have hwz := hup.size
      clear hk hcq hup hqn hql
      by_cases hlt : k < m
      · have b1 : (k : Int) < (m : Int) := by omega
        have f1 := dF 1
        clear dF d0 d2
        have hql' : q < wr.heap.size := HK7.out.2.1.lt
        have hfr : ∀ (W9 : World), Upd (blk (.slice A7 k C7)) wr W9 → W9.frozen? ⟨q, 1, none⟩ = false ∧ W9.cell? ⟨q, 1, none⟩ = some (.slice A7 k C7) := fun W9 h9 => ⟨(h9.frozen (p := ⟨q, 1, none⟩) hql' HK7.out.2.2.2.2).trans f1, (h9.cell (p := ⟨q, 1, none⟩) hql' HK7.out.2.2.2.2).trans d1⟩
        have HFR := Lib.hid hfr
        clear hfr f1
        go_wp2_with (at_builtin; refine wpList_app _ rfl _ _ 72 rfl w6.heap.size 4 i4 (.bool false) 1 1 Try.underlying72 hi4 hw0 hw1 hw2 rfl (by decide) _ k (List.replicate k (.bool true)) rfl (own_upd hrow ((Upd.refl [] _).alloc _) (by simp)) _ 1 [.bool true] rfl (sees_lit wr #[.bool true] 4 1 1 rfl (by decide)) (by simp [Value.oneCell']) (by unfold maxLen; omega) (by omega) (by simp; omega) ?_)
        intro A3 C3 W3' HP3
        have hu9 : Upd (blk (.slice A7 k C7)) wr W3' := ((Upd.refl _ _).alloc _).trans HP3.upd
        obtain ⟨f1, d1⟩ := HFR.out _ hu9
        have hcq9 := (HK7.out.2.1.upd hu9 HK7.out.2.2.2.2).put1 (.slice A3 (k + 1) C3)
        have hown9 : W3'.ownsRow w6.heap.size 4 1 (.slice A3 (k + 1) C3) (k + 1) (List.replicate (k + 1) (.bool true)) := by
          have := HP3.own
          rw [List.replicate_succ']
          exact this
        have hqn3 : q ∉ blk (.slice A3 (k + 1) C3) := fun hc => by have := own_ge hown9 q hc; have := H6.out.1.lt; omega
        have hu10 : Upd [q] W3' (W3'.setCell ⟨q, 1, none⟩ (.slice A3 (k + 1) C3)) := (Upd.refl [q] W3').setCell (p := ⟨q, 1, none⟩) (.inl (by simp)) _
        have hown10 := own_upd hown9 hu10 (fun k hk hc => hqn3 (by simp at hc; rw [← hc]; exact hk))
        have hupr := (HK7.out.2.2.2.1.trans' hu9 (fun y hy => .inr (own_ge HK7.out.2.2.1 y hy))).trans hu10
        have HR9 := Lib.hid (And.intro hcq9 (And.intro hown10 hupr))
        clear HP3 hu9 hcq9 hown9 hqn3 hu10 hown10 hupr hrow
        go_wp2_with fail
        go_roundg (m - (k + 1))
        case measure => have := HK7.out.1; omega
        case rel => exact ⟨k + 1, A3, C3, by have := HK7.out.1; omega, by go_num, HR9.out.1, HR9.out.2.1, HR9.out.2.2⟩
      · have hkm2 : k = m := by omega
        have hrowm := hrow
        have h4r := HB4.out.upd0 (H6.out.2.2.2.trans' HK7.out.2.2.2.1 (fun y hy => .inr (by simp at hy; rw [hy]; exact hqw2)))
        obtain ⟨-, -, -, g0⟩ := h4r.cells
        obtain ⟨r0, r1, r2, -⟩ := h4r.cells
        have g1 := g0 1
        have g2 := g0 2
        have g0 := g0 0
        have hrp := h4r.put (.slice Aa m Ca) (.slice A7 k C7) (.int .i64 ((wk : Int) + (m : Int)))
        have hup := celH_put (q := hb + 1) (Upd.refl [hb + 1] wr) (.inl (by simp)) (.slice Aa m Ca) (.slice A7 k C7) (.int .i64 ((wk : Int) + (m : Int)))
        have hupw : Upd [] w (((wr.setCell ⟨hb + 1, 0, none⟩ (.slice Aa m Ca)).setCell ⟨hb + 1, 1, none⟩ (.slice A7 k C7)).setCell ⟨hb + 1, 2, none⟩ (.int .i64 ((wk : Int) + (m : Int)))) := (HU2.out.1.trans (H6.out.2.2.2.trans' HK7.out.2.2.2.1 (fun y hy => .inr (by simp at hy; rw [hy]; exact hqw2)))).trans' hup (fun y hy => .inr (by simp at hy; have := HHB.out; omega))
        have hw2l := HLT.out.2
        have hs12 := sees_upd (sees_of_own hrow) hup (fun _ k hk _ hc => by have h9 := own_ge hrow k hk; have h8 := H6.out.1.lt; simp at hc; omega)
        have hs6 := sees_upd (sees_of_own (own_upd H6.out.2.1 HK7.out.2.2.2.1 (fun k hk hc => by have h1 := own_ge H5.out.2.1 k hk; have h2 := H4.out.1.lt; simp at hc; omega))) hup (fun _ k hk _ hc => by have h9 := own_ge H5.out.2.1 k hk; have h8 := H4.out.1.lt; simp at hc; omega)
        have HF := Lib.hid (And.intro hrp (And.intro hs12 (And.intro hs6 (And.intro hupw hkm2))))
        have HSZ := Lib.hid (show w.heap.size ≤ W4.heap.size ∧ w5.heap.size ≤ w6.heap.size ∧ w6.heap.size ≤ wr.heap.size ∧ wr.heap.size ≤ (((wr.setCell ⟨hb + 1, 0, none⟩ (.slice Aa m Ca)).setCell ⟨hb + 1, 1, none⟩ (.slice A7 k C7)).setCell ⟨hb + 1, 2, none⟩ (.int .i64 ((wk : Int) + (m : Int)))).heap.size from ⟨(HU2.out.1.trans H4.out.2.2.2.2.1).size, H6S.out, HK7.out.2.2.2.1.size, hup.size⟩)
        have HRW := Lib.hid hrow
        clear hrp hup hupw hs12 hs6 dF hrow hrowm hkm2 h4r
        go_wp2_with fail
        obtain ⟨z0, z1, z2, -⟩ := HF.out.1.cells
        (try simp only [Exit.inBlock, Exit.then])
        refine bodyPost_ret (v := .tuple #[.agg #[.slice Aa m Ca, .slice A7 k C7, .int .i64 ((wk : Int) + (m : Int))], .int .i64 (m : Int), .bool true]) (by simp [results, Try.results45, go_sem, z0, z1, z2]) rfl ⟨?_, .slice Aa m Ca, .slice A7 k C7, ⟨?_, ?_⟩, NewB.of_own H5.out.2.1 HSZ.out.1 (Nat.le_trans HSZ.out.2.1 (Nat.le_trans HSZ.out.2.2.1 HSZ.out.2.2.2)), NewB.of_own HRW.out (Nat.le_trans HSZ.out.1 (Nat.le_trans H5.out.2.2.2.1.size HSZ.out.2.1)) HSZ.out.2.2.2, ?_⟩
        · exact HF.out.2.2.2.1
        · rw [HLV.out.2]
          unfold Ints
          rw [List.map_map, show ((fun p : Int × Bool => p.1) ∘ fun y => (y, true)) = id from rfl, List.map_id, HM.out.1]
          have h9 := HF.out.2.2.1
          rw [HM.out.1] at h9
          exact h9
        · rw [HLV.out.2, List.length_map, HM.out.1, List.map_map]
          have e : (vAll (vKill V x)).map ((fun p : Int × Bool => (.bool p.2 : Value)) ∘ fun y => (y, true)) = List.replicate m (.bool true) := by
            rw [← HM.out.1]
            rw [show ((fun p : Int × Bool => (.bool p.2 : Value)) ∘ fun y => (y, true)) = (fun _ : Int => Value.bool true) from rfl]
            exact List.map_const'
          rw [e]
          have h9 := HF.out.2.1
          rw [HF.out.2.2.2.2] at h9 ⊢
          exact h9
        · rw [HLV.out.1]; rfl
end Go.Proofs.Ytkhgglafnjfiaaa

namespace Go.Proofs.Ytkhgglafnjfiaaa
open Go.RowKit

set_option maxRecDepth 100000 in
set_option maxHeartbeats 8000000 in
theorem addRefOld (vL vA : Value) (V : List (Int × Bool)) (wk : Nat) (p : Nat) (x : Int) (w : World) (h : RefAt w vL vA V) (hl : V.length < 10000) (hf : vFind V x = (p : Int)) :
    Calls Try.prog 46 #[.agg #[vL, vA, .int .i64 (wk : Int)], .int .i64 x] w fun e w' => Upd [] w w' ∧ ∃ vL' vA', RefAt w' vL' vA' V ∧ NewB w w' vL vL' ∧ NewB w w' vA vA' ∧ e = .returned (.tuple #[.agg #[vL', vA', .int .i64 (wk : Int)], .int .i64 0, .bool false]) := by
  obtain ⟨AL, CL, AA, CA, rfl, rfl⟩ := h.form
  obtain ⟨n, hn⟩ : ∃ n, V.length = n := ⟨_, rfl⟩
  have hfd := fun w' (hu : Upd [] w w') => find_ref _ _ V wk x w' (h.upd hu) (by omega)
  rw [hf] at hfd
  simp only [hn] at hfd
  rw [hn]
  rw [hn] at hl
  have p0 : (0 : Int) ≤ (p : Int) := Int.natCast_nonneg _
  have HFD := Lib.hid hfd
  have H0 := Lib.hid (And.intro h hn)
  have hb0 := CelH.new w (.slice AL n CL) (.slice AA n CA) (.int .i64 (wk : Int))
  have hu0 : Upd [] w (w.alloc (.cells #[.slice AL n CL, .slice AA n CA, .int .i64 (wk : Int)] 74)) := (Upd.refl _ _).alloc _
  have hr0 := CelH.new (w.alloc (.cells #[.slice AL n CL, .slice AA n CA, .int .i64 (wk : Int)] 74)) (.slice none 0 0) (.slice none 0 0) (.int .i64 0)
  have hu1 := hu0.alloc (.cells #[.slice none 0 0, .slice none 0 0, .int .i64 0] 74)
  have hb1 := hb0.upd0 ((Upd.refl [] _).alloc (.cells #[.slice none 0 0, .slice none 0 0, .int .i64 0] 74))
  have HE := Lib.hid (And.intro hb1 (And.intro hr0 hu1))
  clear h hn hf hfd hl hb0 hu0 hr0 hu1 hb1
  go_enter Try.func46, Try.ntmps46
  go_upto_region 1 with fail
  generalize hW1 : (w.alloc (.cells #[.slice AL n CL, .slice AA n CA, .int .i64 (wk : Int)] 74)).alloc (.cells #[.slice none 0 0, .slice none 0 0, .int .i64 0] 74) = W1 at HE ⊢
  clear hW1
  have hsz : (w.alloc (.cells #[.slice AL n CL, .slice AA n CA, .int .i64 (wk : Int)] 74)).heap.size = w.heap.size + 1 := by simp
  rw [hsz] at HE
  obtain ⟨hb, hhb⟩ : ∃ hb, w.heap.size = hb := ⟨_, rfl⟩
  rw [hhb] at HE ⊢
  have HHB := Lib.hid hhb
  clear hhb hsz
  obtain ⟨c0, c1, c2, -⟩ := HE.out.1.cells
  have HFD1 := Lib.hid (HFD.out W1 HE.out.2.2)
  go_wp2_with fail
  (with_reducible refine HFD1.out.mono ?_)
  rintro e w2 ⟨rfl, u2⟩
  have c0 := (u2.cell (World.block_lt_of_cell? _ _ c0) (by simp)).trans c0
  have c1 := (u2.cell (World.block_lt_of_cell? _ _ c1) (by simp)).trans c1
  have c2 := (u2.cell (World.block_lt_of_cell? _ _ c2) (by simp)).trans c2
  have h44 := HE.out.2.1.upd0 u2
  obtain ⟨r0, r1, r2, g0⟩ := h44.cells
  have g1 := g0 1
  have g2 := g0 2
  have g0 := g0 0
  have hrp := h44.put (.slice AL n CL) (.slice AA n CA) (.int .i64 (wk : Int))
  have hup := celH_put (q := hb + 1) (Upd.refl [hb + 1] w2) (.inl (by simp)) (.slice AL n CL) (.slice AA n CA) (.int .i64 (wk : Int))
  have HF := Lib.hid (And.intro hrp ((HE.out.2.2.trans u2).trans' hup (fun y hy => .inr (by simp at hy; have := HHB.out; omega))))
  clear hrp hup h44 u2
  go_wp2_with fail
  obtain ⟨z0, z1, z2, -⟩ := HF.out.1.cells
  (try simp only [Exit.inBlock, Exit.then])
  refine bodyPost_ret (v := .tuple #[.agg #[.slice AL n CL, .slice AA n CA, .int .i64 (wk : Int)], .int .i64 0, .bool false]) (by simp [results, Try.results46, go_sem, z0, z1, z2]) rfl ⟨HF.out.2, _, _, ?_, NewB.refl _ _ _, NewB.refl _ _ _, rfl⟩
  have := H0.out.1.upd HF.out.2
  rw [H0.out.2] at this
  exact this

set_option maxRecDepth 100000 in
set_option maxHeartbeats 8000000 in
theorem dropRefNo (vL vA : Value) (V : List (Int × Bool)) (wk : Nat) (x : Int) (w : World) (h : RefAt w vL vA V) (hl : V.length < 10000) (hf : vFind V x = -1) :
    Calls Try.prog 45 #[.agg #[vL, vA, .int .i64 (wk : Int)], .int .i64 x] w fun e w' => Upd [] w w' ∧ ∃ vL' vA', RefAt w' vL' vA' V ∧ NewB w w' vL vL' ∧ NewB w w' vA vA' ∧ e = .returned (.tuple #[.agg #[vL', vA', .int .i64 (wk : Int)], .int .i64 0, .bool false]) := by
  obtain ⟨AL, CL, AA, CA, rfl, rfl⟩ := h.form
  obtain ⟨n, hn⟩ : ∃ n, V.length = n := ⟨_, rfl⟩
  have hfd := fun w' (hu : Upd [] w w') => find_ref _ _ V wk x w' (h.upd hu) (by omega)
  rw [hf] at hfd
  simp only [hn] at hfd
  rw [hn]
  rw [hn] at hl
  have n0 : (0 : Int) ≤ (n : Int) := Int.natCast_nonneg _
  have HFD := Lib.hid hfd
  have H0 := Lib.hid (And.intro h hn)
  have hb0 := CelH.new w (.slice AL n CL) (.slice AA n CA) (.int .i64 (wk : Int))
  have hu0 : Upd [] w (w.alloc (.cells #[.slice AL n CL, .slice AA n CA, .int .i64 (wk : Int)] 74)) := (Upd.refl _ _).alloc _
  have hr0 := CelH.new (w.alloc (.cells #[.slice AL n CL, .slice AA n CA, .int .i64 (wk : Int)] 74)) (.slice none 0 0) (.slice none 0 0) (.int .i64 0)
  have hu1 := hu0.alloc (.cells #[.slice none 0 0, .slice none 0 0, .int .i64 0] 74)
  have hb1 := hb0.upd0 ((Upd.refl [] _).alloc (.cells #[.slice none 0 0, .slice none 0 0, .int .i64 0] 74))
  have HE := Lib.hid (And.intro hb1 (And.intro hr0 hu1))
  clear h hn hf hfd hl hb0 hu0 hr0 hu1 hb1
  go_enter Try.func45, Try.ntmps45
  go_upto_region 1 with fail
  generalize hW1 : (w.alloc (.cells #[.slice AL n CL, .slice AA n CA, .int .i64 (wk : Int)] 74)).alloc (.cells #[.slice none 0 0, .slice none 0 0, .int .i64 0] 74) = W1 at HE ⊢
  clear hW1
  have hsz : (w.alloc (.cells #[.slice AL n CL, .slice AA n CA, .int .i64 (wk : Int)] 74)).heap.size = w.heap.size + 1 := by simp
  rw [hsz] at HE
  obtain ⟨hb, hhb⟩ : ∃ hb, w.heap.size = hb := ⟨_, rfl⟩
  rw [hhb] at HE ⊢
  have HHB := Lib.hid hhb
  clear hhb hsz
  obtain ⟨c0, c1, c2, -⟩ := HE.out.1.cells
  have HFD1 := Lib.hid (HFD.out W1 HE.out.2.2)
  go_wp2_with fail
  (with_reducible refine HFD1.out.mono ?_)
  rintro e w2 ⟨rfl, u2⟩
  have c0 := (u2.cell (World.block_lt_of_cell? _ _ c0) (by simp)).trans c0
  have c1 := (u2.cell (World.block_lt_of_cell? _ _ c1) (by simp)).trans c1
  have c2 := (u2.cell (World.block_lt_of_cell? _ _ c2) (by simp)).trans c2
  have h44 := HE.out.2.1.upd0 u2
  obtain ⟨r0, r1, r2, g0⟩ := h44.cells
  have g1 := g0 1
  have g2 := g0 2
  have g0 := g0 0
  have hrp := h44.put (.slice AL n CL) (.slice AA n CA) (.int .i64 (wk : Int))
  have hup := celH_put (q := hb + 1) (Upd.refl [hb + 1] w2) (.inl (by simp)) (.slice AL n CL) (.slice AA n CA) (.int .i64 (wk : Int))
  have HF := Lib.hid (And.intro hrp ((HE.out.2.2.trans u2).trans' hup (fun y hy => .inr (by simp at hy; have := HHB.out; omega))))
  clear hrp hup h44 u2
  go_wp2_with fail
  obtain ⟨z0, z1, z2, -⟩ := HF.out.1.cells
  (try simp only [Exit.inBlock, Exit.then])
  refine bodyPost_ret (v := .tuple #[.agg #[.slice AL n CL, .slice AA n CA, .int .i64 (wk : Int)], .int .i64 0, .bool false]) (by simp [results, Try.results45, go_sem, z0, z1, z2]) rfl ⟨HF.out.2, _, _, ?_, NewB.refl _ _ _, NewB.refl _ _ _, rfl⟩
  have := H0.out.1.upd HF.out.2
  rw [H0.out.2] at this
  exact this

theorem addRef (vL vA : Value) (V : List (Int × Bool)) (wk k : Nat) (x : Int) (w : World) (h : RefAt w vL vA V) (hl : V.length < 10000) (hwk : wk < 10000000) (h1 : (V.length + 1) % 2 ^ k = 0) (h2 : (V.length + 1) % 2 ^ (k + 1) ≠ 0) (h3 : 2 ^ k ≤ V.length + 1) :
    Calls Try.prog 46 #[.agg #[vL, vA, .int .i64 (wk : Int)], .int .i64 x] w (RefAddPost w vL vA V wk x (2 ^ k)) := by
  rcases vFind_cases V x with ⟨hf, hm⟩ | ⟨p, hf, hp⟩
  · refine (addRefNew vL vA V wk k x w h hl hwk hf h1 h2 h3).mono ?_
    rintro e w' ⟨hu, vL', vA', hr, hn1, hn2, rfl⟩
    refine ⟨hu, vL', vA', ?_, hn1, hn2, ?_⟩
    · unfold vPut; rw [if_neg hm]; exact hr
    · rw [if_neg hm, decide_eq_false hm]; rfl
  · have hm : (x, true) ∈ V := List.mem_of_getElem? hp
    refine (addRefOld vL vA V wk p x w h hl hf).mono ?_
    rintro e w' ⟨hu, vL', vA', hr, hn1, hn2, rfl⟩
    refine ⟨hu, vL', vA', ?_, hn1, hn2, ?_⟩
    · unfold vPut; rw [if_pos hm]; exact hr
    · rw [if_pos hm, decide_eq_true hm]; rfl

/-- What Drop leaves: of a Half that has V. -/
def RefLessPost (w : World) (vL vA : Value) (V : List (Int × Bool)) (wk : Nat) (x : Int) (e : Ending) (w' : World) : Prop :=
  Upd [] w w' ∧ ∃ vL' vA', RefAt w' vL' vA' (vLess V x) ∧ NewB w w' vL vL' ∧ NewB w w' vA vA' ∧ e = .returned (.tuple #[.agg #[vL', vA', .int .i64 ((wk + (if (x, true) ∈ V then lessV V x else 0) : Nat) : Int)], .int .i64 ((if (x, true) ∈ V then lessV V x else 0 : Nat) : Int), .bool (decide ((x, true) ∈ V))])

theorem dropRef (vL vA : Value) (V : List (Int × Bool)) (wk : Nat) (x : Int) (w : World) (h : RefAt w vL vA V) (hl : V.length < 10000) (hwk : wk < 10000000) (hn : (vAll V).Nodup) :
    Calls Try.prog 45 #[.agg #[vL, vA, .int .i64 (wk : Int)], .int .i64 x] w (RefLessPost w vL vA V wk x) := by
  rcases vFind_cases V x with ⟨hf, hm⟩ | ⟨p, hf, hp⟩
  · refine (dropRefNo vL vA V wk x w h hl hf).mono ?_
    rintro e w' ⟨hu, vL', vA', hr, hn1, hn2, rfl⟩
    refine ⟨hu, vL', vA', ?_, hn1, hn2, ?_⟩
    · unfold vLess; rw [if_neg hm]; exact hr
    · rw [if_neg hm, decide_eq_false hm]; rfl
  · have hm : (x, true) ∈ V := List.mem_of_getElem? hp
    refine (dropRefYes vL vA V wk p x w h hl hwk hp hf hn).mono ?_
    rintro e w' ⟨hu, vL', vA', hr, hn1, hn2, rfl⟩
    refine ⟨hu, vL', vA', ?_, hn1, hn2, ?_⟩
    · unfold vLess; rw [if_pos hm]; exact hr
    · rw [if_pos hm, decide_eq_true hm]
end Go.Proofs.Ytkhgglafnjfiaaa
