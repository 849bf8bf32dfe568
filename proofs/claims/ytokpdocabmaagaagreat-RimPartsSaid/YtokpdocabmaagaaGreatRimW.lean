/- rim.Rim: the two sweeps' sum. -/
import Derived.Test.YtokpdocabmaagaaGreatRimS
import Derived.RangeFuncLeaves
import Derived.TacticsInMore
import Derived.LoopNIn
import Derived.OwnWalkIn
import Derived.Deep.RegionHeld3
namespace Go.Proofs.YtokpdocabmaagaaGreat
open Go.RowKit
attribute [local go_sem] Oper.semAt_some

/-- What Rim leaves. -/
def RimPost (l : List Bx) (w : World) (e : Ending) (w' : World) : Prop :=
  e = .returned (.tuple #[wideV (rimA l).toNat, .int .i64 (rimE l : Int)]) ∧ Upd [] w w'

theorem horR_W {l : List Bx} (hb : ∀ b ∈ l, b.in64) (hl : l.length < 100000) : W128 (horR l).toNat := by
  have h1 := horR_le hb hl
  unfold W128
  omega

theorem horR_nonneg (l : List Bx) : 0 ≤ horR l := horG_nonneg l _ _ _ _
theorem rimA_split (l : List Bx) : (rimA l).toNat = (horR l).toNat + (horR (l.map tuB)).toNat := by
  have h1 := horR_nonneg l
  have h2 := horR_nonneg (l.map tuB)
  unfold rimA
  omega

theorem keep4f {F : List Nat} {w w' : World} {a1 a2 a3 a4 : Addr} {v1 v2 v3 v4 : Value} (h : w.cell? a1 = some v1 ∧ w.cell? a2 = some v2 ∧ w.cell? a3 = some v3 ∧ w.cell? a4 = some v4) (hu : Upd F w w') (h1 : a1.block ∉ F) (h2 : a2.block ∉ F) (h3 : a3.block ∉ F) (h4 : a4.block ∉ F) :
    w'.cell? a1 = some v1 ∧ w'.cell? a2 = some v2 ∧ w'.cell? a3 = some v3 ∧ w'.cell? a4 = some v4 := by
  have e : ∀ {a : Addr} {v : Value}, a.block ∉ F → w.cell? a = some v → w'.cell? a = some v := fun {a v} hb ha => (hu.cell (World.block_lt_of_cell? w _ ha) hb).trans ha
  exact ⟨e h1 h.1, e h2 h.2.1, e h3 h.2.2.1, e h4 h.2.2.2⟩

theorem info_flats : (Tryz.prog.info? 87).map (fun i => (i.zero, i.size, i.bytes)) = some (some (.slice none 0 0), 1, 24) := by kernel_rfl

/-- What a sweep adds to: the sum, the nodes. -/
structure RimI (wi : World) (p4 p5 : Nat) (a e : Nat) (W : World) : Prop where
  sum : SumAt W p4 a
  ent : W.heap[p5]? = some (.cells #[.int .i64 (e : Int)] 3 (0, 0))
  up : Upd [p4, p5] wi W

theorem RimI.below {wi : World} {p4 p5 a e : Nat} {C D : World} (h : RimI wi p4 p5 a e C) (h4 : p4 < wi.heap.size) (h5 : p5 < wi.heap.size) (hb : Below wi.heap.size C D) : RimI wi p4 p5 a e D :=
  ⟨(hb.block p4 h4).trans h.sum, (hb.block p5 h5).trans h.ent, ⟨hb.os.trans h.up.os, hb.tape.trans h.up.tape, hb.output.trans h.up.output, Nat.le_trans h.up.size hb.size, fun k hk hf => (hb.block k hk).trans (h.up.block k hk hf)⟩⟩

theorem RimI.upd {wi : World} {p4 p5 a e : Nat} {C D : World} (h : RimI wi p4 p5 a e C) (hu : Upd [] C D) : RimI wi p4 p5 a e D :=
  ⟨h.sum.upd0 hu, (hu.block p5 (lt_of_block h.ent) (by simp)).trans h.ent, h.up.trans (hu.mono (by simp))⟩

set_option maxRecDepth 100000 in
set_option maxHeartbeats 8000000 in
theorem rimAll (v : Value) (l : List Bx) (w : World) (hs : See KBx w v l) (hl : l.length < 100000) (hb : ∀ b ∈ l, b.in64) :
    Calls Tryz.prog 30 #[v] w (RimPost l w) := by
  obtain ⟨A, C, rfl⟩ := hs.form
  unfold RimPost
  refine (callsIn_wide (n := 9)).1 ?_
  refine callsIn_of_wp_marks Tryz.func30 rfl trivial ?_ rfl
  simp only [Tryz.ntmps30, List.size_toArray, List.length_cons, List.length_nil, Nat.reduceAdd, Nat.reduceSub, Array.replicate_succ, Array.replicate_zero, List.push_toArray, List.append_toArray, List.nil_append, List.cons_append]
  refine wpIn_wide.2 ?_
  have hr := fun w1 (hu : Upd [] w w1) => rightF (.slice A l.length C) l w1 (hs.upd0 hu) (by omega)
  have hup := fun w1 (hu : Upd [] w w1) => upF (.slice A l.length C) l w1 (hs.upd0 hu) (by omega)
  have HR := Lib.hid hr
  have HUP := Lib.hid hup
  have HL := Lib.hid hl
  have HB := Lib.hid hb
  have w3e : ∃ w3 : World, w3 = ((w.alloc (.cells #[.int .u64 0, .int .u64 0] 27)).alloc (.cells #[.int .u64 0, .int .u64 0] 27)).alloc (.cells #[.int .i64 0] 3) := ⟨_, rfl⟩
  obtain ⟨w3, hw3⟩ := w3e
  obtain ⟨p2, hp2⟩ : ∃ p2, w.heap.size = p2 := ⟨_, rfl⟩
  have hu3 : Upd [] w w3 := by rw [hw3]; exact (((Upd.refl _ _).alloc _).alloc _).alloc _
  have hz3 : w3.heap.size = p2 + 3 := by rw [hw3, ← hp2]; simp
  have h2 : w3.heap[p2]? = some (.cells #[.int .u64 0, .int .u64 0] 27 (0, 0)) := by
    rw [hw3, ← hp2]
    exact (Below.heap_alloc _ _ _ (by simp; omega)).trans ((Below.heap_alloc _ _ _ (by simp)).trans (heap_alloc_new _ _))
  have h4 : w3.heap[p2 + 1]? = some (.cells #[.int .u64 0, .int .u64 0] 27 (0, 0)) := by
    have := heap_alloc_new (w.alloc (.cells #[.int .u64 0, .int .u64 0] 27)) (.cells #[.int .u64 0, .int .u64 0] 27)
    rw [World.size_alloc, hp2] at this
    rw [hw3]
    exact (Below.heap_alloc _ _ _ (by simp; omega)).trans this
  have h5 : w3.heap[p2 + 1 + 1]? = some (.cells #[.int .i64 0] 3 (0, 0)) := by
    have := heap_alloc_new ((w.alloc (.cells #[.int .u64 0, .int .u64 0] 27)).alloc (.cells #[.int .u64 0, .int .u64 0] 27)) (.cells #[.int .i64 0] 3)
    rw [World.size_alloc, World.size_alloc, hp2] at this
    rw [hw3]
    exact this
  have H3 := Lib.hid (And.intro hu3 (And.intro hz3 (And.intro h2 (And.intro h4 h5))))
  have HP2 := Lib.hid hp2
  clear hs hl hb hr hup hu3 hz3 h2 h4 h5
  go_upto_region 3 with fail
  rw [← hw3]
  clear hw3
  go_wp2_with fail
  (with_reducible refine (HR.out w3 H3.out.1).mono ?_)
  rintro e w4 ⟨A1, C1, rfl, r1, u1⟩
  have H4 := Lib.hid (And.intro r1 (And.intro u1 (H3.out.1.trans u1)))
  clear r1 u1
  go_wp2_with fail
  (with_reducible refine (HUP.out w4 H4.out.2.2).mono ?_)
  rintro e w5 ⟨A2, C2, rfl, r2, u2⟩
  have hfl := flats_len l
  obtain ⟨n, hn⟩ : ∃ n, (flats l).length = n := ⟨_, rfl⟩
  have hml : ((flats l).map tuB).length = n := by rw [List.length_map]; exact hn
  have H5 := Lib.hid (And.intro r2 (And.intro u2 (H4.out.2.2.trans u2)))
  rw [hn] at H4 H5 hfl ⊢
  have HN := Lib.hid (And.intro hn (And.intro hml hfl))
  have hnl : (n : Int) < 100000 := by have := HL.out; omega
  clear r2 u2 hn hml hfl
  have hA : ∃ w6 : World, w6 = w5.alloc (.cells #[.slice A1 n C1, .slice A2 n C2] 87) := ⟨_, rfl⟩
  obtain ⟨w6, hw6⟩ := hA
  obtain ⟨q, hq⟩ : ∃ q, w5.heap.size = q := ⟨_, rfl⟩
  have h6 : w6.heap[q]? = some (.cells #[.slice A1 n C1, .slice A2 n C2] 87 (0, 0)) := by rw [hw6, ← hq]; exact heap_alloc_new _ _
  have hu6 : Upd [] w5 w6 := by rw [hw6]; exact (Upd.refl _ _).alloc _
  have H6 := Lib.hid (And.intro h6 (And.intro hu6 (H5.out.2.2.trans hu6)))
  have HQ := Lib.hid hq
  have HW6 := Lib.hid hw6
  clear h6 hu6 hw6
  go_wp2_with fail
  rw [← HW6.out]
  refine (wpIn_wide (n := 9)).1 ?_
  refine wpIn_loop_rounds 3 ?_
  rw [roundsIn_succ]
  refine wpIn_wide.2 ?_
  have c0 : w6.cell? ⟨q, 0, none⟩ = some (.slice A1 n C1) := by have := H6.out.1; simp [World.cell?, this]
  go_wp2_with fail
  (with_reducible refine (stepsMk A1 n C1 w6).mono ?_)
  rintro e w7 ⟨rfl, hw7⟩
  clear c0
  obtain ⟨p6, hp6⟩ : ∃ p6, w6.heap.size = p6 := ⟨_, rfl⟩
  rw [hp6]
  have hc7 : w7.cell? ⟨p6, 0, none⟩ = some (.slice A1 n C1) := by rw [hw7, World.cell?_alloc_at _ _ _ _ hp6.symm]; rfl
  have hu7 : Upd [] w6 w7 := by rw [hw7]; exact (Upd.refl _ _).alloc _
  have hz7 : p2 + 3 ≤ p6 ∧ p6 < w7.heap.size ∧ q < w7.heap.size := by
    have h1 := H4.out.2.1.size
    have h2 := H5.out.2.1.size
    have h3 := H6.out.2.1.size
    have h4 := H3.out.2.1
    have h5 := lt_of_block H6.out.1
    have h6 := hu7.size
    have h7 := World.block_lt_of_cell? w7 _ hc7
    exact ⟨by omega, h7, by omega⟩
  have hr7 : KFl.row w7 (p2 + 3) (.slice A1 (flats l).length C1) (flats l) := by
    rw [HN.out.1]
    exact own_base (own_upd H4.out.1 (H5.out.2.1.trans (H6.out.2.1.trans hu7)) (by simp)) (by rw [H3.out.2.1]; exact Nat.le_refl _)
  have hq7 : SeqOwn Tryz.prog 88 #[.pointer (some ⟨p6, 0, none⟩)] encS (Full (flats l)) (Legal (flats l)) (p2 + 3) w7 :=
    stepsC A1 C1 (flats l) w7 p6 (p2 + 3) (by rw [HN.out.1]; exact hc7) hz7.1 hr7 (by rw [HN.out.1]; have := HN.out.2.2; have := HL.out; omega) (flats_in HB.out) (flats_count l)
  have hI7 : RimI w7 (p2 + 1) (p2 + 1 + 1) 0 0 w7 := by
    have hu37 : Upd [] w3 w7 := H4.out.2.1.trans (H5.out.2.1.trans (H6.out.2.1.trans hu7))
    exact ⟨(show SumAt w3 (p2 + 1) 0 from H3.out.2.2.2.1).upd0 hu37, (hu37.block _ (lt_of_block H3.out.2.2.2.2) (by simp)).trans H3.out.2.2.2.2, Upd.refl _ _⟩
  have H7 := Lib.hid (And.intro hu7 (And.intro hz7 (And.intro hq7 hI7)))
  clear hw7 hp6 hc7 hu7 hz7 hr7 hq7 hI7
  go_wp2_with fail
  refine (wpIn_wide (n := 7 + 2)).1 ?_
  refine wpIn_rangeFuncU (n := 7) (gf := 88) (lb := #[.pointer (some ⟨p6, 0, none⟩)]) rfl (enters_of Tryz.func88 (by kernel_rfl) rfl) (B := p2 + 3) (by have := H7.out.2.1; omega) H7.out.2.2.1 (fun _ => rfl)
    (fun pre W => RimI w7 (p2 + 1) (p2 + 1 + 1) (0 + totA pre) (0 + totE pre) W) (fun s C D h hb => h.below (by have := H7.out.2.1; omega) (by have := H7.out.2.1; omega) hb) H7.out.2.2.2 ?round ?done
  case round =>
    rintro rid pre ⟨R, LG, E⟩ W hI hleg hsz
    have HI := Lib.hid (And.intro hI (And.intro hleg hsz))
    clear hI hleg hsz hnl
    simp only [encS]
    gi_wp2
    refine ⟨Beyond.of ((Upd.refl _ _).alloc _), ?_⟩
    rintro W2 ⟨o, hW2⟩
    have hsz := HI.out.2.2
    have hst : W2.heap[W.heap.size]? = some (.cells #[.int .i64 (R : Int), .int .u64 (LG : Int), .int .i64 (E : Int)] 94 (0, 0)) := by
      rw [hW2]
      exact (World.putObj_heap_other (by omega)).trans (heap_alloc_new _ _)
    have hi2 : RimI w7 (p2 + 1) (p2 + 1 + 1) (0 + totA pre) (0 + totE pre) W2 := by
      rw [hW2]
      exact (HI.out.1.upd ((Upd.refl _ _).alloc _)).below (by have := H7.out.2.1; omega) (by have := H7.out.2.1; omega) (below_put _ _ (by omega))
    have hsb : p2 + 3 ≤ W.heap.size := by have := H7.out.2.1; omega
    obtain ⟨s, hs⟩ : ∃ s, W.heap.size = s := ⟨_, rfl⟩
    rw [hs] at hst hsb
    rw [hs]
    clear hW2
    have hmem := (HI.out.2.1.mem (flats_in HB.out) (by have := flats_len l; have := HL.out; omega)) (R, LG, E) (by simp)
    have htot := HI.out.2.1.tot (flats_in HB.out) (by have := flats_len l; have := HL.out; omega)
    rw [totA_snoc, totE_snoc] at htot
    dsimp only at hmem htot
    have htl := show sweepE (sqz (linY (flats l))) (turnsL (flats l)) ≤ 100000000 from by have h1 := sweepE_le (sqz (linY (flats l))) (marks_ok (flats_in HB.out) (by have := flats_len l; have := HL.out; omega)).len (turnsL (flats l)); have h2 := turns_len (flats l); have h3 := flats_len l; have h4 := HL.out; omega
    obtain ⟨a, ha⟩ : ∃ a, 0 + totA pre = a := ⟨_, rfl⟩
    obtain ⟨en, he⟩ : ∃ en, 0 + totE pre = en := ⟨_, rfl⟩
    rw [ha, he] at hi2
    have hml := fun w => wMulC LG (2 * R) hmem.2.1 (by omega) w
    obtain ⟨M, hM⟩ : ∃ M, LG * (2 * R) = M := ⟨_, rfl⟩
    rw [hM] at hml htot
    have hwm : W128 (a + M) := (show W128 ((horR (flats l)).toNat) from ((horR_W (flats_in HB.out) (by have := flats_len l; have := HL.out; omega)))).mono (by rw [← ha, Nat.zero_add]; exact htot.1)
    have had := fun w => wAddC a M hwm w
    obtain ⟨h, hh⟩ : ∃ h, a / 18446744073709551616 = h := ⟨_, rfl⟩
    obtain ⟨lo, hlo⟩ : ∃ lo, a % 18446744073709551616 = lo := ⟨_, rfl⟩
    obtain ⟨h2, hh2⟩ : ∃ h, (a + M) / 18446744073709551616 = h := ⟨_, rfl⟩
    obtain ⟨lo2, hlo2⟩ : ∃ lo, (a + M) % 18446744073709551616 = lo := ⟨_, rfl⟩
    obtain ⟨mh, hmh⟩ : ∃ h, M / 18446744073709551616 = h := ⟨_, rfl⟩
    obtain ⟨ml, hml2⟩ : ∃ lo, M % 18446744073709551616 = lo := ⟨_, rfl⟩
    unfold wideV at had hml
    simp only [hh, hlo, hh2, hlo2, hmh, hml2] at had hml
    have hnew : 0 + totA (pre ++ [(R, LG, E)]) = a + M ∧ 0 + totE (pre ++ [(R, LG, E)]) = en + E := by rw [totA_snoc, totE_snoc]; dsimp only; omega
    have hEb : (en : Int) + (E : Int) < 100000000000 := by omega
    have hRb : (R : Int) ≤ 200000 := by omega
    obtain ⟨R2, hR2⟩ : ∃ R2, 2 * R = R2 := ⟨_, rfl⟩
    rw [hR2] at hml
    have HS := Lib.hid (And.intro hi2 (And.intro hst (And.intro hsb hnew)))
    have HMUL := Lib.hid hml
    have HADD := Lib.hid had
    have HV := Lib.hid (And.intro hh (And.intro hlo (And.intro hh2 hlo2)))
    have HBD := Lib.hid (And.intro hEb (And.intro hRb hR2))
    have HAE := Lib.hid (And.intro ha he)
    clear hwm hsz hst hi2 hsb hs hmem htot htl hml had hh hlo hh2 hlo2 hmh hml2 hnew hEb hRb ha he hM hR2
    refine wpIn_block ?_
    refine wpIn_seq ?_
    obtain ⟨Wd, hWd⟩ : ∃ Wd, Wd = W2.drew := ⟨_, rfl⟩
    have hud : Upd [] W2 Wd := by rw [hWd]; exact (Upd.refl _ _).drew
    have HId := Lib.hid (And.intro (HS.out.1.upd hud) ((hud.block s (lt_of_block HS.out.2.1) (by simp)).trans HS.out.2.1))
    have HUd := Lib.hid hud
    have HSd : Wd.cell? ⟨p2 + 1, 0, none⟩ = some (.int .u64 (h : Int)) ∧ Wd.cell? ⟨p2 + 1, 1, none⟩ = some (.int .u64 (lo : Int)) ∧ Wd.cell? ⟨s, 0, none⟩ = some (.int .i64 (R : Int)) ∧ Wd.cell? ⟨s, 1, none⟩ = some (.int .u64 (LG : Int)) := by
      obtain ⟨z0, z1, -⟩ := HId.out.1.sum.cells
      rw [HV.out.1] at z0
      rw [HV.out.2.1] at z1
      exact ⟨z0, z1, by simp [World.cell?, HId.out.2], by simp [World.cell?, HId.out.2]⟩
    have HSd := Lib.hid HSd
    clear hud
    have hcv : IntKind.u64.wrap (R : Int) = (R : Int) := by have := HBD.out.2.1; rw [u64_wrap]; omega
    have hm2 : IntKind.u64.wrap (2 * (R : Int)) = (R2 : Int) := by have := HBD.out.2.1; have := HBD.out.2.2; rw [u64_wrap]; omega
    -- region 8: T waits for all loads; fuel 6
    refine GoT.startIn [8, 9, 10, 11, 12] (fun w' => w'.cell? ⟨p2 + 1, 0, none⟩ = some (.int .u64 (h : Int)) ∧ w'.cell? ⟨p2 + 1, 1, none⟩ = some (.int .u64 (lo : Int)) ∧ w'.cell? ⟨s, 0, none⟩ = some (.int .i64 (R : Int)) ∧ w'.cell? ⟨s, 1, none⟩ = some (.int .u64 (LG : Int))) (by kernel_rfl) (by kernel_rfl) ?hq ?_ fun hS => ?_
    case hq => rintro ⟨_, _, h⟩; exact h
    · exact by rw [← hWd]; exact HSd.out
    rw [← hWd] at hS ⊢
    clear hWd
    refine' GoT.take 6 (i := 0) (oi := ⟨some 23, _, _, _, _, _⟩) (v := _) rfl (by kernel_rfl) (by kernel_rfl) (by kernel_rfl) (by kernel_rfl) (fun _ _ _ h => h) (Or.inl ⟨by rfl, ?y8_0⟩) (by assumption) ?r8_0
    case y8_0 => intro w hSw; go_simp <;> with_reducible rfl
    simp only [Act.put, List.setIfInBounds_toArray, List.set_cons_zero, List.set_cons_succ]
    refine' GoT.move (i := 1) (oi := ⟨some 24, _, _, _, _, _⟩) (v := _) rfl (by kernel_rfl) (by kernel_rfl) (by kernel_rfl) (fun _ _ _ h => h) (Or.inl ⟨by rfl, ?y8_1⟩) ?r8_1
    case y8_1 => intro w; go_simp <;> with_reducible rfl
    simp only [Act.put, List.setIfInBounds_toArray, List.set_cons_zero, List.set_cons_succ]
    refine' GoT.take 6 (i := 2) (oi := ⟨some 25, _, _, _, _, _⟩) (v := _) rfl (by kernel_rfl) (by kernel_rfl) (by kernel_rfl) (by kernel_rfl) (fun _ _ _ h => h) (Or.inl ⟨by rfl, ?y8_2⟩) (by assumption) ?r8_2
    case y8_2 => intro w hSw; go_simp <;> with_reducible rfl
    simp only [Act.put, List.setIfInBounds_toArray, List.set_cons_zero, List.set_cons_succ]
    refine' GoT.move (i := 3) (oi := ⟨some 26, _, _, _, _, _⟩) (v := _) rfl (by kernel_rfl) (by kernel_rfl) (by kernel_rfl) (fun _ _ _ h => h) (Or.inl ⟨by rfl, ?y8_3⟩) ?r8_3
    case y8_3 => intro w; go_simp <;> with_reducible rfl
    simp only [Act.put, List.setIfInBounds_toArray, List.set_cons_zero, List.set_cons_succ]
    refine' GoT.take 6 (i := 4) (oi := ⟨some 27, _, _, _, _, _⟩) (v := _) rfl (by kernel_rfl) (by kernel_rfl) (by kernel_rfl) (by kernel_rfl) (fun _ _ _ h => h) (Or.inl ⟨by rfl, ?y8_4⟩) (by assumption) ?r8_4
    case y8_4 => intro w hSw; go_simp <;> with_reducible rfl
    simp only [Act.put, List.setIfInBounds_toArray, List.set_cons_zero, List.set_cons_succ]
    refine' GoT.move (i := 5) (oi := ⟨some 28, _, _, _, _, _⟩) (v := _) rfl (by kernel_rfl) (by kernel_rfl) (by kernel_rfl) (fun _ _ _ h => h) (Or.inl ⟨by rfl, ?y8_5⟩) ?r8_5
    case y8_5 => intro w; go_simp <;> with_reducible rfl
    simp only [Act.put, List.setIfInBounds_toArray, List.set_cons_zero, List.set_cons_succ]
    refine' GoT.move (i := 6) (oi := ⟨some 29, _, _, _, _, _⟩) (v := _) rfl (by kernel_rfl) (by kernel_rfl) (by kernel_rfl) (fun _ _ _ h => h) (Or.inl ⟨by rfl, ?y8_6⟩) ?r8_6
    case y8_6 => intro w; go_simp <;> with_reducible rfl
    simp only [Act.put, List.setIfInBounds_toArray, List.set_cons_zero, List.set_cons_succ]
    -- 7: Go.Op.call { callee := Go.Callee.value (Go.Operand.func 24), args := #[Go.Operand.tmp 25, Go.Operand.tmp 29], argTypes := #[25, 25] }
    refine GoT.one (i := 7) (o := ⟨some 30, _, _, _, _, _⟩) rfl (by kernel_rfl) fun K hK => ?_
    go_simp
    go_at_call 24
    (with_reducible refine (HMUL.out _).mono ?_)
    rintro e w5 ⟨rfl, hu5⟩
    refine hK.out _ _ (fun _ h => ?_) ?_
    · exact keep4 h hu5
    clear hK K
    try simp only [Act.put, List.setIfInBounds_toArray, List.set_cons_zero, List.set_cons_succ]
    have HU5 := Lib.hid hu5
    clear hu5
    -- 8: Go.Op.call { callee := Go.Callee.value (Go.Operand.func 35), args := #[Go.Operand.tmp 23, Go.Operand.tmp 30], argTypes := #[27, 27] }
    refine GoT.one (i := 8) (o := ⟨some 31, _, _, _, _, _⟩) rfl (by kernel_rfl) fun K hK => ?_
    go_simp
    go_at_call 35
    (with_reducible refine (HADD.out _).mono ?_)
    rintro e w6 ⟨rfl, hu6⟩
    refine hK.out _ _ (fun h => (by cases h)) ?_
    clear hK K
    try simp only [Act.put, List.setIfInBounds_toArray, List.set_cons_zero, List.set_cons_succ]
    have HU6 := Lib.hid (HU5.out.trans hu6)
    have hsm := HId.out.1.sum.upd0 HU6.out
    obtain ⟨z0, z1, zf⟩ := hsm.cells
    have zf0 := zf 0
    have zf1 := zf 1
    have HS6 := Lib.hid hsm
    clear hu6 zf hsm
    refine' GoT.move (i := 9) (oi := ⟨some 22, _, _, _, _, _⟩) (v := _) rfl (by kernel_rfl) (by kernel_rfl) (by kernel_rfl) (fun _ _ _ h => h) (Or.inl ⟨by rfl, ?y8_9⟩) ?r8_9
    case y8_9 => intro w; go_simp <;> with_reducible rfl
    simp only [Act.put, List.setIfInBounds_toArray, List.set_cons_zero, List.set_cons_succ]
    refine' GoT.move (i := 10) (oi := ⟨some 32, _, _, _, _, _⟩) (v := _) rfl (by kernel_rfl) (by kernel_rfl) (by kernel_rfl) (fun _ _ _ h => h) (Or.inl ⟨by rfl, ?y8_10⟩) ?r8_10
    case y8_10 => intro w; go_simp <;> with_reducible rfl
    simp only [Act.put, List.setIfInBounds_toArray, List.set_cons_zero, List.set_cons_succ]
    refine' GoT.move (i := 11) (oi := ⟨some 33, _, _, _, _, _⟩) (v := _) rfl (by kernel_rfl) (by kernel_rfl) (by kernel_rfl) (fun _ _ _ h => h) (Or.inl ⟨by rfl, ?y8_11⟩) ?r8_11
    case y8_11 => intro w; go_simp <;> with_reducible rfl
    simp only [Act.put, List.setIfInBounds_toArray, List.set_cons_zero, List.set_cons_succ]
    -- 12: Go.Op.store 27 (Go.Operand.tmp 4) (Go.Operand.tmp 32)
    refine GoT.one (i := 12) (o := ⟨none, _, _, _, _, _⟩) rfl (by kernel_rfl) fun K hK => ?_
    go_simp
    refine hK.out _ _ (fun h => (by cases h)) ?_
    clear hK K
    try simp only [Act.put, List.setIfInBounds_toArray, List.set_cons_zero, List.set_cons_succ]
    refine GoT.done (by kernel_rfl) ?_
    clear hcv hm2
    have HSN2 := Lib.hid (HS6.out.set HV.out.2.2.1.symm HV.out.2.2.2.symm)
    have hpu : Upd [p2 + 1] w6 ((w6.setCell ⟨p2 + 1, 0, none⟩ (.int .u64 h2)).setCell ⟨p2 + 1, 1, none⟩ (.int .u64 lo2)) := ((Upd.refl _ _).setCell (.inl (by simp)) _).setCell (.inl (by simp)) _
    have hi6 := HId.out.1.upd HU6.out
    have hst6 := (HU6.out.block s (lt_of_block HId.out.2) (by simp)).trans HId.out.2
    have hst7 := (hpu.block s (lt_of_block hst6) (by have := HS.out.2.2.1; simp; omega)).trans hst6
    have hen7 := (hpu.block (p2 + 1 + 1) (lt_of_block hi6.ent) (by simp)).trans hi6.ent
    have HU7 := Lib.hid (And.intro (hi6.up.trans (hpu.mono (by simp))) (And.intro hst7 (And.intro hen7 ((HUd.out.trans HU6.out).mono (G := [p2 + 1]) (by simp) |>.trans hpu))))
    clear z0 z1 zf0 zf1 hpu hi6 hst6 hst7 hen7
    generalize ((w6.setCell ⟨p2 + 1, 0, none⟩ (.int .u64 h2)).setCell ⟨p2 + 1, 1, none⟩ (.int .u64 lo2)) = W9 at HSN2 HU7 ⊢
    have x5 : W9.cell? ⟨p2 + 1 + 1, 0, none⟩ = some (.int .i64 (en : Int)) := by simp [World.cell?, HU7.out.2.2.1]
    have f5 : W9.frozen? ⟨p2 + 1 + 1, 0, none⟩ = false := by simp [World.frozen?, HU7.out.2.2.1]
    have xs : W9.cell? ⟨s, 2, none⟩ = some (.int .i64 (E : Int)) := by simp [World.cell?, HU7.out.2.1]
    have hwE : IntKind.i64.wrap ((en : Int) + (E : Int)) = ((en + E : Nat) : Int) := by have := HBD.out.1; rw [IntWalk.i64_in _ ⟨by omega, by omega⟩]; omega
    gi_wp2
    have hus : Upd [p2 + 1 + 1] W9 (W9.setCell ⟨p2 + 1 + 1, 0, none⟩ (.int .i64 ((en + E : Nat) : Int))) := (Upd.refl _ _).setCell (.inl (by simp)) _
    show Beyond (p2 + 3) W2 _ ∧ RimI w7 (p2 + 1) (p2 + 1 + 1) (0 + totA (pre ++ [(R, LG, E)])) (0 + totE (pre ++ [(R, LG, E)])) _
    rw [HS.out.2.2.2.1, HS.out.2.2.2.2]
    exact ⟨(Beyond.refl _ _).upd HU7.out.2.2.2 (by simp) |>.upd hus (by simp), ⟨HSN2.out.upd hus (by simp), by have := heap_set HU7.out.2.2.1 0 (.int .i64 ((en + E : Nat) : Int)); exact this, HU7.out.1.trans (hus.mono (by simp))⟩⟩
  case done =>
    rintro D1 xs1 W hD1 hS1 hI1 hK1
    rw [totA_full (flats_in HB.out) (by have := flats_len l; have := HL.out; omega) hS1, totE_full hS1, flats_E l, horR_congr (flats_cov l), Nat.zero_add, Nat.zero_add] at hI1
    obtain ⟨a1, ha1⟩ : ∃ a, (horR l).toNat = a := ⟨_, rfl⟩
    obtain ⟨e1, he1⟩ : ∃ e, sweepE (sqz (linY l)) (turnsL l) = e := ⟨_, rfl⟩
    rw [ha1, he1] at hI1
    have c1 : W.cell? ⟨q, 1, none⟩ = some (.slice A2 n C2) := by
      have h1 := (H7.out.1.block q (lt_of_block H6.out.1) (by simp)).trans H6.out.1
      have h2 := (hI1.up.block q H7.out.2.1.2.2 (by have h1 := H3.out.2.1; have h2 := H4.out.2.1.size; have h3 := H5.out.2.1.size; have h4 := HQ.out; simp; omega)).trans h1
      simp [World.cell?, h2]
    have HA1 := Lib.hid (And.intro ha1 he1)
    have HI1 := Lib.hid (And.intro hI1 (And.intro hK1 hD1))
    clear hD1 hS1 hI1 hK1 ha1 he1
    go_wp2_with fail
    rw [roundsIn_succ]
    refine wpIn_wide.2 ?_
    go_wp2_with fail
    (with_reducible refine (stepsMk A2 n C2 W).mono ?_)
    rintro e w9 ⟨rfl, hw9⟩
    clear c1
    obtain ⟨p9, hp9⟩ : ∃ p9, W.heap.size = p9 := ⟨_, rfl⟩
    rw [hp9]
    have hc9 : w9.cell? ⟨p9, 0, none⟩ = some (.slice A2 n C2) := by rw [hw9, World.cell?_alloc_at _ _ _ _ hp9.symm]; rfl
    have hu9 : Upd [] W w9 := by rw [hw9]; exact (Upd.refl _ _).alloc _
    have hz9 : p2 + 3 ≤ p9 ∧ p9 < w9.heap.size ∧ w7.heap.size ≤ p9 := by
      have h1 := HI1.out.1.up.size
      have h2 := H7.out.2.1
      exact ⟨by omega, World.block_lt_of_cell? w9 _ hc9, by omega⟩
    have hr9 : KFl.row w9 (p2 + 3) (.slice A2 (flats (l.map tuB)).length C2) (flats (l.map tuB)) := by
      rw [← flats_tu, HN.out.2.1]
      have h1 := own_upd H5.out.1 (H6.out.2.1.trans H7.out.1) (by simp)
      have hge := own_ge H5.out.1
      have h2 := own_upd h1 HI1.out.1.up (fun k hk hc => by have := hge k hk; have h3 := H3.out.2.1; have h4 := H4.out.2.1.size; simp at hc; omega)
      exact own_base (own_upd h2 hu9 (by simp)) (by have h3 := H3.out.2.1; have h4 := H4.out.2.1.size; omega)
    have hn2 : (flats (l.map tuB)).length = n := by rw [← flats_tu]; exact HN.out.2.1
    have hq9 : SeqOwn Tryz.prog 88 #[.pointer (some ⟨p9, 0, none⟩)] encS (Full (flats (l.map tuB))) (Legal (flats (l.map tuB))) (p2 + 3) w9 :=
      stepsC A2 C2 (flats (l.map tuB)) w9 p9 (p2 + 3) (by rw [hn2]; exact hc9) hz9.1 hr9 (by rw [hn2]; have := HN.out.2.2; have := HL.out; omega) (flats_in (tuB_in HB.out)) (flats_count _)
    have hI9 : RimI w9 (p2 + 1) (p2 + 1 + 1) (a1 + totA []) (e1 + totE []) w9 := ⟨HI1.out.1.sum.upd0 hu9, (hu9.block _ (lt_of_block HI1.out.1.ent) (by simp)).trans HI1.out.1.ent, Upd.refl _ _⟩
    have H9 := Lib.hid (And.intro hu9 (And.intro (show p2 + 3 ≤ p9 ∧ p9 < w9.heap.size ∧ w7.heap.size ≤ p9 from hz9) (And.intro hq9 hI9)))
    clear hw9 hp9 hc9 hu9 hz9 hr9 hq9 hI9 hn2
    go_wp2_with fail
    refine (wpIn_wide (n := 7 + 2)).1 ?_
    refine wpIn_rangeFuncU (n := 7) (gf := 88) (lb := #[.pointer (some ⟨p9, 0, none⟩)]) rfl (enters_of Tryz.func88 (by kernel_rfl) rfl) (B := p2 + 3) (by have := H9.out.2.1; omega) H9.out.2.2.1 (fun _ => rfl)
      (fun pre W => RimI w9 (p2 + 1) (p2 + 1 + 1) (a1 + totA pre) (e1 + totE pre) W) (fun s C D h hb => h.below (by have := H9.out.2.1; omega) (by have := H9.out.2.1; omega) hb) H9.out.2.2.2 ?round ?done
    case round =>
      rintro rid pre ⟨R, LG, E⟩ W hI hleg hsz
      have HI := Lib.hid (And.intro hI (And.intro hleg hsz))
      clear hI hleg hsz hnl
      simp only [encS]
      gi_wp2
      refine ⟨Beyond.of ((Upd.refl _ _).alloc _), ?_⟩
      rintro W2 ⟨o, hW2⟩
      have hsz := HI.out.2.2
      have hst : W2.heap[W.heap.size]? = some (.cells #[.int .i64 (R : Int), .int .u64 (LG : Int), .int .i64 (E : Int)] 94 (0, 0)) := by
        rw [hW2]
        exact (World.putObj_heap_other (by omega)).trans (heap_alloc_new _ _)
      have hi2 : RimI w9 (p2 + 1) (p2 + 1 + 1) (a1 + totA pre) (e1 + totE pre) W2 := by
        rw [hW2]
        exact (HI.out.1.upd ((Upd.refl _ _).alloc _)).below (by have := H9.out.2.1; omega) (by have := H9.out.2.1; omega) (below_put _ _ (by omega))
      have hsb : p2 + 3 ≤ W.heap.size := by have := H9.out.2.1; omega
      obtain ⟨s, hs⟩ : ∃ s, W.heap.size = s := ⟨_, rfl⟩
      rw [hs] at hst hsb
      rw [hs]
      clear hW2
      have hmem := (HI.out.2.1.mem (flats_in (tuB_in HB.out)) (by have := flats_len (l.map tuB); rw [List.length_map] at this; have := HL.out; omega)) (R, LG, E) (by simp)
      have htot := HI.out.2.1.tot (flats_in (tuB_in HB.out)) (by have := flats_len (l.map tuB); rw [List.length_map] at this; have := HL.out; omega)
      rw [totA_snoc, totE_snoc] at htot
      dsimp only at hmem htot
      have htl := show sweepE (sqz (linY (flats (l.map tuB)))) (turnsL (flats (l.map tuB))) ≤ 100000000 from by have h1 := sweepE_le (sqz (linY (flats (l.map tuB)))) (marks_ok (flats_in (tuB_in HB.out)) (by have := flats_len (l.map tuB); rw [List.length_map] at this; have := HL.out; omega)).len (turnsL (flats (l.map tuB))); have h2 := turns_len (flats (l.map tuB)); have h3 := flats_len (l.map tuB); rw [List.length_map] at h3; have h4 := HL.out; omega
      obtain ⟨a, ha⟩ : ∃ a, a1 + totA pre = a := ⟨_, rfl⟩
      obtain ⟨en, he⟩ : ∃ en, e1 + totE pre = en := ⟨_, rfl⟩
      rw [ha, he] at hi2
      have hml := fun w => wMulC LG (2 * R) hmem.2.1 (by omega) w
      obtain ⟨M, hM⟩ : ∃ M, LG * (2 * R) = M := ⟨_, rfl⟩
      rw [hM] at hml htot
      have hwm : W128 (a + M) := (show W128 (rimA l).toNat from rimA_W HB.out HL.out).mono (by rw [← ha, ← HA1.out.1, rimA_split]; have h1 := htot.1; rw [horR_congr (flats_cov (l.map tuB))] at h1; rw [Nat.add_assoc]; exact Nat.add_le_add_left h1 _)
      have had := fun w => wAddC a M hwm w
      obtain ⟨h, hh⟩ : ∃ h, a / 18446744073709551616 = h := ⟨_, rfl⟩
      obtain ⟨lo, hlo⟩ : ∃ lo, a % 18446744073709551616 = lo := ⟨_, rfl⟩
      obtain ⟨h2, hh2⟩ : ∃ h, (a + M) / 18446744073709551616 = h := ⟨_, rfl⟩
      obtain ⟨lo2, hlo2⟩ : ∃ lo, (a + M) % 18446744073709551616 = lo := ⟨_, rfl⟩
      obtain ⟨mh, hmh⟩ : ∃ h, M / 18446744073709551616 = h := ⟨_, rfl⟩
      obtain ⟨ml, hml2⟩ : ∃ lo, M % 18446744073709551616 = lo := ⟨_, rfl⟩
      unfold wideV at had hml
      simp only [hh, hlo, hh2, hlo2, hmh, hml2] at had hml
      have hnew : a1 + totA (pre ++ [(R, LG, E)]) = a + M ∧ e1 + totE (pre ++ [(R, LG, E)]) = en + E := by rw [totA_snoc, totE_snoc]; dsimp only; omega
      have he1 : e1 ≤ 100000000 := by rw [← HA1.out.2]; have h1 := sweepE_le (sqz (linY l)) (marks_ok HB.out HL.out).len (turnsL l); have h2 := turns_len l; have h4 := HL.out; omega
      have hEb : (en : Int) + (E : Int) < 100000000000 := by omega
      have hRb : (R : Int) ≤ 200000 := by omega
      obtain ⟨R2, hR2⟩ : ∃ R2, 2 * R = R2 := ⟨_, rfl⟩
      rw [hR2] at hml
      have HS := Lib.hid (And.intro hi2 (And.intro hst (And.intro hsb hnew)))
      have HMUL := Lib.hid hml
      have HADD := Lib.hid had
      have HV := Lib.hid (And.intro hh (And.intro hlo (And.intro hh2 hlo2)))
      have HBD := Lib.hid (And.intro hEb (And.intro hRb hR2))
      have HAE := Lib.hid (And.intro ha he)
      clear he1 hwm hsz hst hi2 hsb hs hmem htot htl hml had hh hlo hh2 hlo2 hmh hml2 hnew hEb hRb ha he hM hR2
      refine wpIn_block ?_
      refine wpIn_seq ?_
      obtain ⟨Wd, hWd⟩ : ∃ Wd, Wd = W2.drew := ⟨_, rfl⟩
      have hud : Upd [] W2 Wd := by rw [hWd]; exact (Upd.refl _ _).drew
      have HId := Lib.hid (And.intro (HS.out.1.upd hud) ((hud.block s (lt_of_block HS.out.2.1) (by simp)).trans HS.out.2.1))
      have HUd := Lib.hid hud
      have HSd : Wd.cell? ⟨p2 + 1, 0, none⟩ = some (.int .u64 (h : Int)) ∧ Wd.cell? ⟨p2 + 1, 1, none⟩ = some (.int .u64 (lo : Int)) ∧ Wd.cell? ⟨s, 0, none⟩ = some (.int .i64 (R : Int)) ∧ Wd.cell? ⟨s, 1, none⟩ = some (.int .u64 (LG : Int)) := by
        obtain ⟨z0, z1, -⟩ := HId.out.1.sum.cells
        rw [HV.out.1] at z0
        rw [HV.out.2.1] at z1
        exact ⟨z0, z1, by simp [World.cell?, HId.out.2], by simp [World.cell?, HId.out.2]⟩
      have HSd := Lib.hid HSd
      clear hud
      have hcv : IntKind.u64.wrap (R : Int) = (R : Int) := by have := HBD.out.2.1; rw [u64_wrap]; omega
      have hm2 : IntKind.u64.wrap (2 * (R : Int)) = (R2 : Int) := by have := HBD.out.2.1; have := HBD.out.2.2; rw [u64_wrap]; omega
      -- region 8: T waits for all loads; fuel 6
      refine GoT.startIn [8, 9, 10, 11, 12] (fun w' => w'.cell? ⟨p2 + 1, 0, none⟩ = some (.int .u64 (h : Int)) ∧ w'.cell? ⟨p2 + 1, 1, none⟩ = some (.int .u64 (lo : Int)) ∧ w'.cell? ⟨s, 0, none⟩ = some (.int .i64 (R : Int)) ∧ w'.cell? ⟨s, 1, none⟩ = some (.int .u64 (LG : Int))) (by kernel_rfl) (by kernel_rfl) ?hq ?_ fun hS => ?_
      case hq => rintro ⟨_, _, h⟩; exact h
      · exact by rw [← hWd]; exact HSd.out
      rw [← hWd] at hS ⊢
      clear hWd
      refine' GoT.take 6 (i := 0) (oi := ⟨some 23, _, _, _, _, _⟩) (v := _) rfl (by kernel_rfl) (by kernel_rfl) (by kernel_rfl) (by kernel_rfl) (fun _ _ _ h => h) (Or.inl ⟨by rfl, ?y8_0b⟩) (by assumption) ?r8_0b
      case y8_0b => intro w hSw; go_simp <;> with_reducible rfl
      simp only [Act.put, List.setIfInBounds_toArray, List.set_cons_zero, List.set_cons_succ]
      refine' GoT.move (i := 1) (oi := ⟨some 24, _, _, _, _, _⟩) (v := _) rfl (by kernel_rfl) (by kernel_rfl) (by kernel_rfl) (fun _ _ _ h => h) (Or.inl ⟨by rfl, ?y8_1b⟩) ?r8_1b
      case y8_1b => intro w; go_simp <;> with_reducible rfl
      simp only [Act.put, List.setIfInBounds_toArray, List.set_cons_zero, List.set_cons_succ]
      refine' GoT.take 6 (i := 2) (oi := ⟨some 25, _, _, _, _, _⟩) (v := _) rfl (by kernel_rfl) (by kernel_rfl) (by kernel_rfl) (by kernel_rfl) (fun _ _ _ h => h) (Or.inl ⟨by rfl, ?y8_2b⟩) (by assumption) ?r8_2b
      case y8_2b => intro w hSw; go_simp <;> with_reducible rfl
      simp only [Act.put, List.setIfInBounds_toArray, List.set_cons_zero, List.set_cons_succ]
      refine' GoT.move (i := 3) (oi := ⟨some 26, _, _, _, _, _⟩) (v := _) rfl (by kernel_rfl) (by kernel_rfl) (by kernel_rfl) (fun _ _ _ h => h) (Or.inl ⟨by rfl, ?y8_3b⟩) ?r8_3b
      case y8_3b => intro w; go_simp <;> with_reducible rfl
      simp only [Act.put, List.setIfInBounds_toArray, List.set_cons_zero, List.set_cons_succ]
      refine' GoT.take 6 (i := 4) (oi := ⟨some 27, _, _, _, _, _⟩) (v := _) rfl (by kernel_rfl) (by kernel_rfl) (by kernel_rfl) (by kernel_rfl) (fun _ _ _ h => h) (Or.inl ⟨by rfl, ?y8_4b⟩) (by assumption) ?r8_4b
      case y8_4b => intro w hSw; go_simp <;> with_reducible rfl
      simp only [Act.put, List.setIfInBounds_toArray, List.set_cons_zero, List.set_cons_succ]
      refine' GoT.move (i := 5) (oi := ⟨some 28, _, _, _, _, _⟩) (v := _) rfl (by kernel_rfl) (by kernel_rfl) (by kernel_rfl) (fun _ _ _ h => h) (Or.inl ⟨by rfl, ?y8_5b⟩) ?r8_5b
      case y8_5b => intro w; go_simp <;> with_reducible rfl
      simp only [Act.put, List.setIfInBounds_toArray, List.set_cons_zero, List.set_cons_succ]
      refine' GoT.move (i := 6) (oi := ⟨some 29, _, _, _, _, _⟩) (v := _) rfl (by kernel_rfl) (by kernel_rfl) (by kernel_rfl) (fun _ _ _ h => h) (Or.inl ⟨by rfl, ?y8_6b⟩) ?r8_6b
      case y8_6b => intro w; go_simp <;> with_reducible rfl
      simp only [Act.put, List.setIfInBounds_toArray, List.set_cons_zero, List.set_cons_succ]
      -- 7: Go.Op.call { callee := Go.Callee.value (Go.Operand.func 24), args := #[Go.Operand.tmp 25, Go.Operand.tmp 29], argTypes := #[25, 25] }
      refine GoT.one (i := 7) (o := ⟨some 30, _, _, _, _, _⟩) rfl (by kernel_rfl) fun K hK => ?_
      go_simp
      go_at_call 24
      (with_reducible refine (HMUL.out _).mono ?_)
      rintro e w5 ⟨rfl, hu5⟩
      refine hK.out _ _ (fun _ h => ?_) ?_
      · exact keep4 h hu5
      clear hK K
      try simp only [Act.put, List.setIfInBounds_toArray, List.set_cons_zero, List.set_cons_succ]
      have HU5 := Lib.hid hu5
      clear hu5
      -- 8: Go.Op.call { callee := Go.Callee.value (Go.Operand.func 35), args := #[Go.Operand.tmp 23, Go.Operand.tmp 30], argTypes := #[27, 27] }
      refine GoT.one (i := 8) (o := ⟨some 31, _, _, _, _, _⟩) rfl (by kernel_rfl) fun K hK => ?_
      go_simp
      go_at_call 35
      (with_reducible refine (HADD.out _).mono ?_)
      rintro e w6 ⟨rfl, hu6⟩
      refine hK.out _ _ (fun h => (by cases h)) ?_
      clear hK K
      try simp only [Act.put, List.setIfInBounds_toArray, List.set_cons_zero, List.set_cons_succ]
      have HU6 := Lib.hid (HU5.out.trans hu6)
      have hsm := HId.out.1.sum.upd0 HU6.out
      obtain ⟨z0, z1, zf⟩ := hsm.cells
      have zf0 := zf 0
      have zf1 := zf 1
      have HS6 := Lib.hid hsm
      clear hu6 zf hsm
      refine' GoT.move (i := 9) (oi := ⟨some 22, _, _, _, _, _⟩) (v := _) rfl (by kernel_rfl) (by kernel_rfl) (by kernel_rfl) (fun _ _ _ h => h) (Or.inl ⟨by rfl, ?y8_9b⟩) ?r8_9b
      case y8_9b => intro w; go_simp <;> with_reducible rfl
      simp only [Act.put, List.setIfInBounds_toArray, List.set_cons_zero, List.set_cons_succ]
      refine' GoT.move (i := 10) (oi := ⟨some 32, _, _, _, _, _⟩) (v := _) rfl (by kernel_rfl) (by kernel_rfl) (by kernel_rfl) (fun _ _ _ h => h) (Or.inl ⟨by rfl, ?y8_10b⟩) ?r8_10b
      case y8_10b => intro w; go_simp <;> with_reducible rfl
      simp only [Act.put, List.setIfInBounds_toArray, List.set_cons_zero, List.set_cons_succ]
      refine' GoT.move (i := 11) (oi := ⟨some 33, _, _, _, _, _⟩) (v := _) rfl (by kernel_rfl) (by kernel_rfl) (by kernel_rfl) (fun _ _ _ h => h) (Or.inl ⟨by rfl, ?y8_11b⟩) ?r8_11b
      case y8_11b => intro w; go_simp <;> with_reducible rfl
      simp only [Act.put, List.setIfInBounds_toArray, List.set_cons_zero, List.set_cons_succ]
      -- 12: Go.Op.store 27 (Go.Operand.tmp 4) (Go.Operand.tmp 32)
      refine GoT.one (i := 12) (o := ⟨none, _, _, _, _, _⟩) rfl (by kernel_rfl) fun K hK => ?_
      go_simp
      refine hK.out _ _ (fun h => (by cases h)) ?_
      clear hK K
      try simp only [Act.put, List.setIfInBounds_toArray, List.set_cons_zero, List.set_cons_succ]
      refine GoT.done (by kernel_rfl) ?_
      clear hcv hm2
      have HSN2 := Lib.hid (HS6.out.set HV.out.2.2.1.symm HV.out.2.2.2.symm)
      have hpu : Upd [p2 + 1] w6 ((w6.setCell ⟨p2 + 1, 0, none⟩ (.int .u64 h2)).setCell ⟨p2 + 1, 1, none⟩ (.int .u64 lo2)) := ((Upd.refl _ _).setCell (.inl (by simp)) _).setCell (.inl (by simp)) _
      have hi6 := HId.out.1.upd HU6.out
      have hst6 := (HU6.out.block s (lt_of_block HId.out.2) (by simp)).trans HId.out.2
      have hst7 := (hpu.block s (lt_of_block hst6) (by have := HS.out.2.2.1; simp; omega)).trans hst6
      have hen7 := (hpu.block (p2 + 1 + 1) (lt_of_block hi6.ent) (by simp)).trans hi6.ent
      have HU7 := Lib.hid (And.intro (hi6.up.trans (hpu.mono (by simp))) (And.intro hst7 (And.intro hen7 ((HUd.out.trans HU6.out).mono (G := [p2 + 1]) (by simp) |>.trans hpu))))
      clear z0 z1 zf0 zf1 hpu hi6 hst6 hst7 hen7
      generalize ((w6.setCell ⟨p2 + 1, 0, none⟩ (.int .u64 h2)).setCell ⟨p2 + 1, 1, none⟩ (.int .u64 lo2)) = W9 at HSN2 HU7 ⊢
      have x5 : W9.cell? ⟨p2 + 1 + 1, 0, none⟩ = some (.int .i64 (en : Int)) := by simp [World.cell?, HU7.out.2.2.1]
      have f5 : W9.frozen? ⟨p2 + 1 + 1, 0, none⟩ = false := by simp [World.frozen?, HU7.out.2.2.1]
      have xs : W9.cell? ⟨s, 2, none⟩ = some (.int .i64 (E : Int)) := by simp [World.cell?, HU7.out.2.1]
      have hwE : IntKind.i64.wrap ((en : Int) + (E : Int)) = ((en + E : Nat) : Int) := by have := HBD.out.1; rw [IntWalk.i64_in _ ⟨by omega, by omega⟩]; omega
      gi_wp2
      have hus : Upd [p2 + 1 + 1] W9 (W9.setCell ⟨p2 + 1 + 1, 0, none⟩ (.int .i64 ((en + E : Nat) : Int))) := (Upd.refl _ _).setCell (.inl (by simp)) _
      show Beyond (p2 + 3) W2 _ ∧ RimI w9 (p2 + 1) (p2 + 1 + 1) (a1 + totA (pre ++ [(R, LG, E)])) (e1 + totE (pre ++ [(R, LG, E)])) _
      rw [HS.out.2.2.2.1, HS.out.2.2.2.2]
      exact ⟨(Beyond.refl _ _).upd HU7.out.2.2.2 (by simp) |>.upd hus (by simp), ⟨HSN2.out.upd hus (by simp), by have := heap_set HU7.out.2.2.1 0 (.int .i64 ((en + E : Nat) : Int)); exact this, HU7.out.1.trans (hus.mono (by simp))⟩⟩
    case done =>
      rintro D2 xs2 W2 hD2 hS2 hI2 hK2
      rw [totA_full (flats_in (tuB_in HB.out)) (by have := flats_len (l.map tuB); rw [List.length_map] at this; have := HL.out; omega) hS2, totE_full hS2, flats_E (l.map tuB), horR_congr (flats_cov (l.map tuB))] at hI2
      have hsum : a1 + (horR (l.map tuB)).toNat = (rimA l).toNat := by rw [← HA1.out.1, rimA_split]
      have hent : e1 + sweepE (sqz (linY (l.map tuB))) (turnsL (l.map tuB)) = rimE l := by rw [← HA1.out.2]; rfl
      rw [hsum, hent] at hI2
      obtain ⟨AA, hAA⟩ : ∃ a, (rimA l).toNat = a := ⟨_, rfl⟩
      obtain ⟨EE, hEE⟩ : ∃ e, rimE l = e := ⟨_, rfl⟩
      rw [hAA, hEE] at hI2
      have hb2 : ∀ k, k < W.heap.size → k ≠ p2 + 1 → k ≠ p2 + 1 + 1 → W2.heap[k]? = W.heap[k]? := fun k h1 h2 h3 => (hI2.up.block k (by have := H9.out.1.size; omega) (by simp; omega)).trans (H9.out.1.block k h1 (by simp))
      have hd1 := (hb2 D1 (lt_of_block HI1.out.2.1) (by have := HI1.out.2.2; have := H7.out.2.1; omega) (by have := HI1.out.2.2; have := H7.out.2.1; omega)).trans HI1.out.2.1
      have hu2 : Upd [p2 + 1, p2 + 1 + 1] w3 W2 := ((((H4.out.2.1.trans (H5.out.2.1.trans (H6.out.2.1.trans H7.out.1))).mono (by simp)).trans HI1.out.1.up).trans (H9.out.1.mono (by simp))).trans hI2.up
      have hp2' := (hu2.block p2 (lt_of_block H3.out.2.2.1) (by simp; omega)).trans H3.out.2.2.1
      obtain ⟨h, hh⟩ : ∃ h, AA / 18446744073709551616 = h := ⟨_, rfl⟩
      obtain ⟨lo, hlo⟩ : ∃ lo, AA % 18446744073709551616 = lo := ⟨_, rfl⟩
      have hdd : D1 ≠ D2 ∧ p2 + 3 ≤ D1 ∧ p2 + 3 ≤ D2 := by have h1 := lt_of_block HI1.out.2.1; have h2 := HI1.out.2.2; have h3 := H9.out.1.size; have h4 := H7.out.2.1; have h5 := H9.out.2.1; exact ⟨by omega, by omega, by omega⟩
      have HF := Lib.hid (And.intro hI2 (And.intro hK2 (And.intro hd1 (And.intro hu2 (And.intro hp2' (And.intro hh (And.intro hlo hdd)))))))
      have HAE := Lib.hid (And.intro hAA hEE)
      clear hD2 hS2 hI2 hK2 hsum hent hAA hEE hb2 hd1 hu2 hp2' hh hlo hdd
      go_wp2_with fail
      rw [roundsIn_succ]
      refine wpIn_wide.2 ?_
      go_wp2_with fail
      obtain ⟨Wd, hWd⟩ : ∃ Wd, Wd = W2.drew := ⟨_, rfl⟩
      have hud : Upd [] W2 Wd := by rw [hWd]; exact (Upd.refl _ _).drew
      have hId := HF.out.1.upd hud
      have hSd : Wd.cell? ⟨p2 + 1, 0, none⟩ = some (.int .u64 (h : Int)) ∧ Wd.cell? ⟨p2 + 1, 1, none⟩ = some (.int .u64 (lo : Int)) ∧ Wd.cell? ⟨p2 + 1 + 1, 0, none⟩ = some (.int .i64 (EE : Int)) ∧ Wd.cell? ⟨p2 + 1 + 1, 0, none⟩ = some (.int .i64 (EE : Int)) := by
        obtain ⟨z0, z1, -⟩ := hId.sum.cells
        rw [HF.out.2.2.2.2.2.1] at z0
        rw [HF.out.2.2.2.2.2.2.1] at z1
        exact ⟨z0, z1, by simp [World.cell?, hId.ent], by simp [World.cell?, hId.ent]⟩
      have HSd := Lib.hid hSd
      have hk2 := (hud.block D2 (lt_of_block HF.out.2.1) (by simp)).trans HF.out.2.1
      have hk1 := (hud.block D1 (lt_of_block HF.out.2.2.1) (by simp)).trans HF.out.2.2.1
      have hpp := (hud.block p2 (lt_of_block HF.out.2.2.2.2.1) (by simp)).trans HF.out.2.2.2.2.1
      have HD := Lib.hid (And.intro hk2 (And.intro hk1 (And.intro hpp (HF.out.2.2.2.1.trans (hud.mono (by simp))))))
      clear hud hId hSd hk2 hk1 hpp
      refine wp_region_noPanic ?_
      -- region 11: T waits for all loads; fuel 1
      refine GoT.start [3] (fun w' => w'.cell? ⟨p2 + 1, 0, none⟩ = some (.int .u64 (h : Int)) ∧ w'.cell? ⟨p2 + 1, 1, none⟩ = some (.int .u64 (lo : Int)) ∧ w'.cell? ⟨p2 + 1 + 1, 0, none⟩ = some (.int .i64 (EE : Int)) ∧ w'.cell? ⟨p2 + 1 + 1, 0, none⟩ = some (.int .i64 (EE : Int))) (by kernel_rfl) ?_ fun hS => ?_
      · exact by rw [← hWd]; exact HSd.out
      rw [← hWd] at hS ⊢
      clear hWd
      refine' GoT.take 1 (i := 0) (oi := ⟨some 39, _, _, _, _, _⟩) (v := _) rfl (by kernel_rfl) (by kernel_rfl) (by kernel_rfl) (by kernel_rfl) (fun _ _ _ h => h) (Or.inl ⟨by rfl, ?y11_0⟩) (by assumption) ?r11_0
      case y11_0 => intro w hSw; go_simp <;> with_reducible rfl
      simp only [Act.put, List.setIfInBounds_toArray, List.set_cons_zero, List.set_cons_succ]
      refine' GoT.take 1 (i := 1) (oi := ⟨some 40, _, _, _, _, _⟩) (v := _) rfl (by kernel_rfl) (by kernel_rfl) (by kernel_rfl) (by kernel_rfl) (fun _ _ _ h => h) (Or.inl ⟨by rfl, ?y11_1⟩) (by assumption) ?r11_1
      case y11_1 => intro w hSw; go_simp <;> with_reducible rfl
      simp only [Act.put, List.setIfInBounds_toArray, List.set_cons_zero, List.set_cons_succ]
      -- 2: Go.Op.store 27 (Go.Operand.tmp 2) (Go.Operand.tmp 39)
      refine GoT.one (i := 2) (o := ⟨none, _, _, _, _, _⟩) rfl (by kernel_rfl) fun K hK => ?_
      have z0 : Wd.cell? ⟨p2, 0, none⟩ = some (.int .u64 0) := by simp [World.cell?, HD.out.2.2.1]
      have z1 : Wd.cell? ⟨p2, 1, none⟩ = some (.int .u64 0) := by simp [World.cell?, HD.out.2.2.1]
      have zf0 : Wd.frozen? ⟨p2, 0, none⟩ = false := by simp [World.frozen?, HD.out.2.2.1]
      have zf1 : Wd.frozen? ⟨p2, 1, none⟩ = false := by simp [World.frozen?, HD.out.2.2.1]
      go_simp
      refine hK.out _ _ (fun _ h => ?_) ?_
      · exact keep4f h (((Upd.refl [p2] _).setCell (.inl (by simp)) _).setCell (.inl (by simp)) _) (fun hc => by have := List.mem_singleton.1 hc; dsimp only at this; omega) (fun hc => by have := List.mem_singleton.1 hc; dsimp only at this; omega) (fun hc => by have := List.mem_singleton.1 hc; dsimp only at this; omega) (fun hc => by have := List.mem_singleton.1 hc; dsimp only at this; omega)
      clear hK K
      try simp only [Act.put, List.setIfInBounds_toArray, List.set_cons_zero, List.set_cons_succ]
      clear z0 z1 zf0 zf1
      refine' GoT.move (i := 3) (oi := ⟨some 3, _, _, _, _, _⟩) (v := _) rfl (by kernel_rfl) (by kernel_rfl) (by kernel_rfl) (fun _ _ _ h => h) (Or.inl ⟨by rfl, ?y11_3⟩) ?r11_3
      case y11_3 => intro w; go_simp <;> with_reducible rfl
      simp only [Act.put, List.setIfInBounds_toArray, List.set_cons_zero, List.set_cons_succ]
      refine GoT.done (by kernel_rfl) ?_
      have hpu : Upd [p2] Wd ((Wd.setCell ⟨p2, 0, none⟩ (.int .u64 (h : Int))).setCell ⟨p2, 1, none⟩ (.int .u64 (lo : Int))) := ((Upd.refl _ _).setCell (.inl (by simp)) _).setCell (.inl (by simp)) _
      have hr := heap_set (heap_set HD.out.2.2.1 0 (.int .u64 (h : Int))) 1 (.int .u64 (lo : Int))
      have hdd := HF.out.2.2.2.2.2.2.2
      have hk2 := (hpu.block D2 (lt_of_block HD.out.1) (by simp; omega)).trans HD.out.1
      have hk1 := (hpu.block D1 (lt_of_block HD.out.2.1) (by simp; omega)).trans HD.out.2.1
      have HZ := Lib.hid (And.intro hk2 (And.intro hk1 (And.intro hr ((HD.out.2.2.2.mono (G := [p2, p2 + 1, p2 + 1 + 1]) (fun x hx => .inl (by simp at hx ⊢; omega))).trans (hpu.mono (by simp))))))
      clear hpu hr hdd hk2 hk1
      generalize ((Wd.setCell ⟨p2, 0, none⟩ (.int .u64 (h : Int))).setCell ⟨p2, 1, none⟩ (.int .u64 (lo : Int))) = Wf at HZ ⊢
      refine NoPanic.normal ?_
      go_wp2_with fail
      refine ⟨by simp, .inl ⟨_, _, rfl, run_takeDeferred HZ.out.1, ?_⟩⟩
      have hk1 : (Wf.putObj D2 (Obj.deferred none)).heap[D1]? = some (.deferred (some [])) := (World.putObj_heap_other HF.out.2.2.2.2.2.2.2.1).trans HZ.out.2.1
      refine ⟨by simp, .inl ⟨_, _, rfl, run_takeDeferred hk1, ?_⟩⟩
      have hdd := HF.out.2.2.2.2.2.2.2
      have hr2 : ((Wf.putObj D2 (Obj.deferred none)).putObj D1 (Obj.deferred none)).heap[p2]? = some (.cells #[.int .u64 (h : Int), .int .u64 (lo : Int)] 27 (0, 0)) := (World.putObj_heap_other (by omega)).trans ((World.putObj_heap_other (by omega)).trans HZ.out.2.2.1)
      have x0 : ((Wf.putObj D2 (Obj.deferred none)).putObj D1 (Obj.deferred none)).cell? ⟨p2, 0, none⟩ = some (.int .u64 (h : Int)) := by simp [World.cell?, hr2]
      have x1 : ((Wf.putObj D2 (Obj.deferred none)).putObj D1 (Obj.deferred none)).cell? ⟨p2, 1, none⟩ = some (.int .u64 (lo : Int)) := by simp [World.cell?, hr2]
      refine ⟨.tuple #[.agg #[.int .u64 (h : Int), .int .u64 (lo : Int)], .int .i64 (EE : Int)], ?_, ?_, ?_⟩
      · simp [results, Tryz.results30, go_sem, x0, x1]
      · rw [HAE.out.1, HAE.out.2]
        unfold wideV
        rw [HF.out.2.2.2.2.2.1, HF.out.2.2.2.2.2.2.1]
      · have h1 := HZ.out.2.2.2
        have h2 : Upd [p2, p2 + 1, p2 + 1 + 1, D2, D1] w3 ((Wf.putObj D2 (Obj.deferred none)).putObj D1 (Obj.deferred none)) := ((h1.mono (by simp)).trans ((upd_put Wf (l := D2) (Obj.deferred none)).mono (by simp))).trans ((upd_put _ (l := D1) (Obj.deferred none)).mono (by simp))
        exact H3.out.1.trans' h2 (fun k hk => .inr (by rw [HP2.out]; simp at hk; omega))
end Go.Proofs.YtokpdocabmaagaaGreat
