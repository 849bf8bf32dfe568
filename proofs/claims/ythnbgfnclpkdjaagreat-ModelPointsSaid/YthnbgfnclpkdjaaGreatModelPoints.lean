/- gridironlaw26.ModelPoints: the walk. Printed by mkmpts.py. -/
import Derived.Test.YthnbgfnclpkdjaaGreatOpnM
import Derived.Test.YthnbgfnclpkdjaaGreatWithM
import Derived.Test.YthnbgfnclpkdjaaGreatAwkM
namespace Go.Proofs.YthnbgfnclpkdjaaGreat
open Go.RowKit

/-- How many of some points a question has. -/
def cnt4 (p : Pt → Bool) (l : List Pt) (k : Nat) : Nat := (l.take k).countP p
theorem cnt4_step {p : Pt → Bool} {l : List Pt} {k : Nat} {q : Pt} (h : l[k]? = some q) : cnt4 p l (k + 1) = cnt4 p l k + if p q = true then 1 else 0 := by
  obtain ⟨h1, h2⟩ := List.getElem?_eq_some_iff.1 h
  unfold cnt4
  rw [List.take_succ_eq_append_getElem h1, h2, List.countP_append, List.countP_singleton]
theorem cnt4_all (p : Pt → Bool) (l : List Pt) {k : Nat} (h : l.length ≤ k) : cnt4 p l k = (namesM Pt.id l p).length := by
  unfold cnt4 namesM
  rw [List.take_of_length_le h, List.length_map, List.countP_eq_length_filter]
theorem cnt4_le (p : Pt → Bool) (l : List Pt) (k : Nat) : cnt4 p l k ≤ (namesM Pt.id l p).length := by
  unfold cnt4 namesM
  rw [List.length_map, ← List.countP_eq_length_filter]
  exact (List.take_sublist k l).countP_le
theorem in_names {p : Pt → Bool} {l : List Pt} (h : Asc Pt.id l) {q : Pt} (hq : q ∈ l) : decide (q.id ∈ namesM Pt.id l p) = p q := by
  cases hp : p q with
  | true => exact decide_eq_true ((mem_namesM h p hq).2 hp)
  | false => exact decide_eq_false fun hc => by rw [(mem_namesM h p hq).1 hc] at hp; cases hp

def four4 (a b c d : Int) (q : Pt) : Bool := inBM ⟨a, b, c, d, 0⟩ q.x q.y
def three4 (a b c : Int) (q : Pt) : Bool := inBM ⟨a, b, -9223372036854775808, c, 0⟩ q.x q.y
theorem do_four {A R : List Bx → Nat} (m : Md) (a b c d : Int) : (doM A R m ⟨7, a, b, c, d, 0⟩).2 = idsR (namesM Pt.id m.ps (four4 a b c d)) := by
  rw [do_point ⟨by simp, by simp⟩]; rfl
theorem do_three {A R : List Bx → Nat} (m : Md) (a b c : Int) : (doM A R m ⟨9, a, b, c, 0, 0⟩).2 = idsR (namesM Pt.id m.ps (three4 a b c)) := by
  rw [do_point ⟨by simp, by simp⟩]; rfl
theorem do_corner {A R : List Bx → Nat} (m : Md) (a b c : Int) : (doM A R m ⟨11, a, b, c, 0, 0⟩).2 = idsR (namesM Pt.id m.ps (fun q => cornB q a b c)) := by
  rw [do_point ⟨by simp, by simp⟩]; rfl
theorem corner_none (l : List Pt) (a b : Int) : namesM Pt.id l (fun q => cornB q a b 4) = [] := by
  unfold namesM
  have : (l.filter fun q => cornB q a b 4) = [] := List.filter_eq_nil_iff.2 fun q _ => by simp [cornB]
  rw [this]; rfl
theorem three_parts {a b c : Int} {q : Pt} (h : z64 q.x ∧ z64 q.y) : three4 a b c q = (stabBM a b q.x && decide (q.y ≤ c)) := by
  unfold three4 inBM
  dsimp only
  have e : stabBM (-9223372036854775808) c q.y = decide (q.y ≤ c) := by
    unfold stabBM
    rw [decide_eq_true h.2.1, Bool.true_and]
  rw [e]
theorem corner_parts (q : Pt) (a b : Int) (k : Nat) (hk : k < 4) : cornB q a b (k : Int) = (((q.x == a) || (decide (a < q.x) == ((k : Int).tmod 2 == 1))) && ((q.y == b) || (decide (b < q.y) == decide (2 ≤ k)))) := by
  have hx : decide (q.x ≤ a) = ((q.x == a) || !decide (a < q.x)) := by
    by_cases e : q.x = a
    · simp [e]
    · by_cases f : a < q.x
      · have : ¬ q.x ≤ a := by omega
        simp [e, f, this]
      · have : q.x ≤ a := by omega
        simp [f, this]
  have hx' : decide (a ≤ q.x) = ((q.x == a) || decide (a < q.x)) := by
    by_cases e : q.x = a
    · simp [e]
    · by_cases f : a < q.x
      · have : a ≤ q.x := by omega
        simp [f, this]
      · have : ¬ a ≤ q.x := by omega
        simp [e, f, this]
  have hy : decide (q.y ≤ b) = ((q.y == b) || !decide (b < q.y)) := by
    by_cases e : q.y = b
    · simp [e]
    · by_cases f : b < q.y
      · have : ¬ q.y ≤ b := by omega
        simp [e, f, this]
      · have : q.y ≤ b := by omega
        simp [f, this]
  have hy' : decide (b ≤ q.y) = ((q.y == b) || decide (b < q.y)) := by
    by_cases e : q.y = b
    · simp [e]
    · by_cases f : b < q.y
      · have : b ≤ q.y := by omega
        simp [f, this]
      · have : ¬ b ≤ q.y := by omega
        simp [e, f, this]
  unfold cornB
  rcases (show k = 0 ∨ k = 1 ∨ k = 2 ∨ k = 3 by omega) with rfl | rfl | rfl | rfl
  · rw [if_pos (by rfl), hx, hy]
    cases decide (a < q.x) <;> cases decide (b < q.y) <;> rfl
  · rw [if_neg (by decide), if_pos (by rfl), hx', hy]
    cases decide (a < q.x) <;> cases decide (b < q.y) <;> rfl
  · rw [if_neg (by decide), if_neg (by decide), if_pos (by rfl), hx, hy']
    cases decide (a < q.x) <;> cases decide (b < q.y) <;> rfl
  · rw [if_neg (by decide), if_neg (by decide), if_neg (by decide), if_pos (by rfl), hx', hy']
    cases decide (a < q.x) <;> cases decide (b < q.y) <;> rfl

/-- A row of names stays, though a row of slices is written. -/
theorem See.updC {w w' : World} {v : Value} {l : List Nat} {q : Nat} {cs : Array Value} {t : TypeId} (hs : See KU w v l) (hq : HpC w q cs t) (hc : ∀ (j : Nat) (u : Value), cs[j]? = some u → ∃ A n C, u = .slice A n C) (hu : Upd [q] w w') : See KU w' v l :=
  hs.upd hu fun hn k hk _ hm => by
    obtain ⟨A, C, rfl⟩ := hs.form
    rcases l with _ | ⟨a, l⟩
    · simp at hn
    · obtain ⟨b', o, rfl, _, _, hcell⟩ := See.at hs (k := 0) (x := a) rfl
      simp only [blk, List.mem_singleton] at hk hm
      subst hk
      subst hm
      have h1 := hcell 0 (.int .u32 (a : Int)) rfl
      rw [hq.cell] at h1
      obtain ⟨A', n', C', e⟩ := hc _ _ h1
      cases e

theorem repAt_idsP {w : World} {v : Value} {l : List Nat} (h : RepAt w v (idsR l)) : ∃ A C, v = .agg #[.int .i64 0, .slice A l.length C, .int .i64 0, .bool false, .int .u64 0, .int .u64 0] ∧ See KU w (.slice A l.length C) l := by
  obtain ⟨A, C, hi, lo, h1, h2, _, _, h5⟩ := h
  have e : hi = 0 ∧ lo = 0 := by
    have : (0 : Nat) = hi * 18446744073709551616 + lo := h5
    omega
  obtain ⟨rfl, rfl⟩ := e
  exact ⟨A, C, h1, h2⟩

/-- The corners told so far. -/
def CornK (w : World) (q k : Nat) (f : Nat → List Nat) : Prop := ∃ cs : Array Value, HpC w q cs 41 ∧ cs.size = 4 ∧ (∀ (j : Nat) (u : Value), cs[j]? = some u → ∃ A n C, u = .slice A n C) ∧ ∀ j, j < k → ∃ A C, cs[j]? = some (.slice A (f j).length C) ∧ See KU w (.slice A (f j).length C) (f j)
theorem CornK.upd {F : List Nat} {w w' : World} {q k : Nat} {f : Nat → List Nat} (h : CornK w q k f) (hu : Upd F w w') (hq : q ∉ F) (hs : ∀ v l, See KU w v l → See KU w' v l) : CornK w' q k f := by
  obtain ⟨cs, h1, h2, h3, h4⟩ := h
  refine ⟨cs, h1.upd hu hq, h2, h3, fun j hj => ?_⟩
  obtain ⟨A, C, e, hx⟩ := h4 j hj
  exact ⟨A, C, e, hs _ _ hx⟩
theorem CornK.put {w : World} {q k : Nat} {f : Nat → List Nat} (h : CornK w q k f) (hk : k < 4) {A : Option Addr} {C : Nat} (hs : See KU w (.slice A (f k).length C) (f k)) : CornK (w.setCell ⟨q, k, none⟩ (.slice A (f k).length C)) q (k + 1) f := by
  obtain ⟨cs, h1, h2, h3, h4⟩ := h
  have hu : Upd [q] w (w.setCell ⟨q, k, none⟩ (.slice A (f k).length C)) := (Upd.refl [q] w).setCell (p := ⟨q, k, none⟩) (.inl (by simp)) _
  refine ⟨cs.setIfInBounds k (.slice A (f k).length C), h1.set k _, by simp [h2], fun j u hj => ?_, fun j hj => ?_⟩
  · by_cases e : k = j
    · subst e
      rw [Array.getElem?_setIfInBounds_self_of_lt (by omega)] at hj
      cases hj
      exact ⟨_, _, _, rfl⟩
    · rw [Array.getElem?_setIfInBounds_ne e] at hj
      exact h3 j u hj
  · by_cases e : k = j
    · subst e
      exact ⟨A, C, Array.getElem?_setIfInBounds_self_of_lt (by omega), hs.updC h1 h3 hu⟩
    · obtain ⟨A', C', e', hx⟩ := h4 j (by omega)
      exact ⟨A', C', by rw [Array.getElem?_setIfInBounds_ne e]; exact e', hx.updC h1 h3 hu⟩

set_option maxRecDepth 100000 in
set_option maxHeartbeats 16000000 in
theorem modelPoints_walk {A R : List Bx → Nat} (ar : AR A R) (v : Value) (L : List OpP) (o : OpP) (w : World) (hs : See KOp w v L) (hl : L.length < 9223372036854775808) (hin : ∀ o ∈ L, o.in64) (ho : o.in64) :
    Calls Tryz.prog 4 #[v, opV o] w fun e w' => e = .returned (.bool true) ∧ Upd [] w w' := by
  obtain ⟨A', C', rfl⟩ := hs.form
  obtain ⟨n, hn⟩ : ∃ n, L.length = n := ⟨_, rfl⟩
  have haf := fun (w9 : World) (hu : Upd [] w w9) => afterC ar 255 (by decide) (.slice A' L.length C') L w9 (hs.upd0 hu) hl hin
  rw [hn, show ((255 : Nat) : Int) = 255 from rfl] at haf
  rw [hn]
  obtain ⟨M, hM⟩ : ∃ M, runM A R ⟨1 + 255, [], [], []⟩ (L.take 60) = M := ⟨_, rfl⟩
  simp only [hM] at haf
  have HAF := Lib.hid haf
  have HO := Lib.hid ho
  clear hs hl hin haf hn hM ho
  obtain ⟨oc, oa, ob, occ, od, oi⟩ := o
  unfold opV
  dsimp only
  have HU0 := Lib.hid (show Upd [] w (w.alloc (.cells #[.int .u8 (oc : Int), .int .i64 oa, .int .i64 ob, .int .i64 occ, .int .i64 od, .int .u32 (oi : Int)] 25)) from (Upd.refl _ _).alloc _)
  have HC0 := Lib.hid (op_new w #[.int .u8 (oc : Int), .int .i64 oa, .int .i64 ob, .int .i64 occ, .int .i64 od, .int .u32 (oi : Int)])
  go_enter Tryz.func4, Tryz.ntmps4
  go_upto_region 1 with fail
  generalize (w.alloc (.cells #[.int .u8 (oc : Int), .int .i64 oa, .int .i64 ob, .int .i64 occ, .int .i64 od, .int .u32 (oi : Int)] 25)) = W0 at HU0 HC0 ⊢
  obtain ⟨qo, hqo⟩ : ∃ q, w.heap.size = q := ⟨_, rfl⟩
  rw [hqo] at HC0 ⊢
  clear hqo
  go_wp2_with fail
  (with_reducible refine (HAF.out _ HU0.out).mono ?_)
  rintro e w1 ⟨h, p, s, x, rfl, hm1, hu1, g1, g2, g3, g4⟩
  have hq1 : qo < W0.heap.size := (HC0.out).lt rfl
  have HB := Lib.hid (show (qo ∉ [p, s, x]) ∧ w.heap.size ≤ p ∧ w.heap.size ≤ s ∧ w.heap.size ≤ x by
    have h4 := HU0.out.size
    simp only [List.mem_cons, List.not_mem_nil, or_false]
    omega)
  have HM1 := Lib.hid hm1
  have HCo := Lib.hid (HC0.out.upd0 hu1)
  have HU1 := Lib.hid (HU0.out.trans hu1)
  clear hm1 hu1 g1 g2 g3 g4 hq1 HC0 HU0 HAF
  have o1 := HCo.out 1 _ rfl
  have o2 := HCo.out 2 _ rfl
  have o3 := HCo.out 3 _ rfl
  have o4 := HCo.out 4 _ rfl
  have hO := HO.out.1
  dsimp only at hO
  have hd := doAsk ar HM1.out (by decide) ⟨7, oa, ob, occ, od, 0⟩ ⟨hO, by show (0 : Nat) < _; decide, by show (7 : Nat) < _; decide⟩ (by show 7 ≤ 7; decide)
  rw [do_four] at hd
  have HD := Lib.hid (show Calls Tryz.prog 13 #[.pointer (some ⟨h, 0, none⟩), .agg #[.int .u8 7, .int .i64 oa, .int .i64 ob, .int .i64 occ, .int .i64 od, .int .u32 0]] w1 _ from hd)
  clear hd
  go_wp2_with fail
  (with_reducible refine HD.out.mono ?_)
  rintro e w2 ⟨⟨u, rfl, hre⟩, hmm, hup⟩
  obtain ⟨A4, C4, rfl, hsee⟩ := repAt_idsP hre
  obtain ⟨n4, hn4⟩ : ∃ k, (namesM Pt.id M.ps (four4 oa ob occ od)).length = k := ⟨_, rfl⟩
  rw [hn4] at hsee ⊢
  have H2 := Lib.hid (And.intro hmm (And.intro hup (And.intro hsee (HCo.out.upd hup HB.out.1))))
  have HN4 := Lib.hid hn4
  have hfd := fun w => rep_field1 0 A4 n4 C4 0 false 0 0 w
  clear hre hmm hup hsee hn4 HD o1 o2 o3 o4
  have o1 := H2.out.2.2.2 1 _ rfl
  have o2 := H2.out.2.2.2 2 _ rfl
  have o3 := H2.out.2.2.2 3 _ rfl
  have hd := doAsk ar H2.out.1 (by decide) ⟨9, oa, ob, occ, 0, 0⟩ ⟨⟨hO.1, hO.2.1, hO.2.2.1, by show z64 0; decide⟩, by show (0 : Nat) < _; decide, by show (9 : Nat) < _; decide⟩ (by show 7 ≤ 9; decide)
  rw [do_three] at hd
  have HD := Lib.hid (show Calls Tryz.prog 13 #[.pointer (some ⟨h, 0, none⟩), .agg #[.int .u8 9, .int .i64 oa, .int .i64 ob, .int .i64 occ, .int .i64 0, .int .u32 0]] w2 _ from hd)
  clear hd
  go_upto_region 5 with fail
  clear hfd
  have o4 := H2.out.2.2.2 4 _ rfl
  go_wp2_with fail
  (with_reducible refine HD.out.mono ?_)
  rintro e w3 ⟨⟨u, rfl, hre⟩, hmm, hup⟩
  obtain ⟨A3, C3, rfl, hsee⟩ := repAt_idsP hre
  obtain ⟨n3, hn3⟩ : ∃ k, (namesM Pt.id M.ps (three4 oa ob occ)).length = k := ⟨_, rfl⟩
  rw [hn3] at hsee ⊢
  have H3 := Lib.hid (And.intro hmm (And.intro (H2.out.2.1.trans hup) (And.intro (H2.out.2.2.1.updM (by decide) H2.out.1.at' hup) (And.intro hsee (H2.out.2.2.2.upd hup HB.out.1)))))
  have HN3 := Lib.hid hn3
  have hfd := fun w => rep_field1 0 A3 n3 C3 0 false 0 0 w
  clear hre hmm hup hsee hn3 HD o1 o2 o3 o4
  go_upto_region 7 with fail
  clear hfd
  have HCR := Lib.hid (show CornK (w3.alloc (.cells #[.slice none 0 0, .slice none 0 0, .slice none 0 0, .slice none 0 0] 41)) w3.heap.size 0 (fun k => namesM Pt.id M.ps (fun q => cornB q oa ob (k : Int))) from ⟨_, heap_alloc_new w3 _, rfl, fun j u hj => by
    rcases j with _ | _ | _ | _ | j
    · cases hj; exact ⟨_, _, _, rfl⟩
    · cases hj; exact ⟨_, _, _, rfl⟩
    · cases hj; exact ⟨_, _, _, rfl⟩
    · cases hj; exact ⟨_, _, _, rfl⟩
    · simp at hj, fun j hj => by omega⟩)
  have hua : Upd [] w3 (w3.alloc (.cells #[.slice none 0 0, .slice none 0 0, .slice none 0 0, .slice none 0 0] 41)) := (Upd.refl _ _).alloc _
  have HCM := Lib.hid (And.intro (H3.out.1.upd0 hua) (And.intro (H3.out.2.1.trans (hua.mono (by simp))) (And.intro (H3.out.2.2.1.upd0 hua) (And.intro (H3.out.2.2.2.1.upd0 hua) (H3.out.2.2.2.2.upd0 hua)))))
  have HQC := Lib.hid (show w3.heap.size ∉ [p, s, x] ∧ w1.heap.size ≤ w3.heap.size ∧ h < w3.heap.size ∧ qo < w3.heap.size by
    have h0 := lt_of_block H3.out.1.at'.head
    have h1 := H3.out.1.at'.ps.lt
    have h2 := H3.out.1.at'.ss.lt
    have h3 := H3.out.1.at'.bs.lt
    have h4 := H3.out.2.1.size
    have h5 := H3.out.2.2.2.2.lt rfl
    simp only [List.mem_cons, List.not_mem_nil, or_false]
    omega)
  clear hua H2 H3 HCo HM1
  generalize (w3.alloc (.cells #[.slice none 0 0, .slice none 0 0, .slice none 0 0, .slice none 0 0] 41)) = Wc at HCR HCM ⊢
  generalize w3.heap.size = qc at HCR HQC ⊢
  go_wp2_with fail
  go_loopg [43] 4 (fun m s43 wr => ∃ k : Nat, m + k = 4 ∧ s43 = .int .i64 (k : Int) ∧ CornK wr qc k (fun k => namesM Pt.id M.ps (fun q => cornB q oa ob (k : Int))) ∧ MM wr h p s x M 60 ∧ Upd [p, s, x] w1 wr ∧ See KU wr (.slice A4 n4 C4) (namesM Pt.id M.ps (four4 oa ob occ od)) ∧ See KU wr (.slice A3 n3 C3) (namesM Pt.id M.ps (three4 oa ob occ)) ∧ CelB wr qo (opL ⟨oc, oa, ob, occ, od, oi⟩))
  case atStart => exact ⟨0, rfl, rfl, HCR.out, HCM.out.1, HCM.out.2.1, HCM.out.2.2.1, HCM.out.2.2.2.1, HCM.out.2.2.2.2⟩
  case round =>
    obtain ⟨k, hk, rfl, hr⟩ := hrel
    have HK := Lib.hid (And.intro hk hr)
    have k0 : (0 : Int) ≤ (k : Int) := Int.natCast_nonneg _
    have k3 : (k : Int) < 9 := by omega
    by_cases hlt : k < 4
    · have i1 : (k : Int) < 4 := by omega
      have hd := doAsk ar hr.2.1 (by decide) ⟨11, oa, ob, (k : Int), 0, 0⟩ ⟨⟨hO.1, hO.2.1, ⟨by show (_ : Int) ≤ (k : Int); omega, by show (k : Int) ≤ _; omega⟩, by show z64 0; decide⟩, by show (0 : Nat) < _; decide, by show (11 : Nat) < _; decide⟩ (by show 7 ≤ 11; decide)
      rw [do_corner] at hd
      have HD := Lib.hid (show Calls Tryz.prog 13 #[.pointer (some ⟨h, 0, none⟩), .agg #[.int .u8 11, .int .i64 oa, .int .i64 ob, .int .i64 (k : Int), .int .i64 0, .int .u32 0]] wr _ from hd)
      have o1 := hr.2.2.2.2.2 1 _ rfl
      have o2 := hr.2.2.2.2.2 2 _ rfl
      have HLT := Lib.hid hlt
      clear hd hk hr hlt
      go_wp2_with fail
      (with_reducible refine HD.out.mono ?_)
      rintro e w4 ⟨⟨u, rfl, hre⟩, hmm, hup⟩
      obtain ⟨Ak, Ck, rfl, hsee⟩ := repAt_idsP hre
      obtain ⟨nk, hnk⟩ : ∃ kk, (namesM Pt.id M.ps (fun q => cornB q oa ob (k : Int))).length = kk := ⟨_, rfl⟩
      have hcr := HK.out.2.1.upd hup HQC.out.1 (fun v l hx => hx.updM (by decide) HK.out.2.2.1.at' hup)
      have hput := hcr.put HLT.out hsee
      rw [hnk] at hput ⊢
      have H4 := Lib.hid (And.intro hput (And.intro hmm (And.intro (HK.out.2.2.2.1.trans hup) (And.intro (HK.out.2.2.2.2.1.updM (by decide) HK.out.2.2.1.at' hup) (And.intro (HK.out.2.2.2.2.2.1.updM (by decide) HK.out.2.2.1.at' hup) (HK.out.2.2.2.2.2.2.upd hup HB.out.1))))))
      have HCRk := Lib.hid hcr
      obtain ⟨cs, hcs, hsz, hall, -⟩ := hcr
      obtain ⟨uk, huk⟩ : ∃ u, cs[k]? = some u := ⟨_, Array.getElem?_eq_getElem (by rw [hsz]; exact HLT.out)⟩
      obtain ⟨Au, nu, Cu, rfl⟩ := hall k uk huk
      have ck := hcs.cell k
      rw [huk] at ck
      have fk := hcs.frozen k
      have hfd := fun w => rep_field1 0 Ak nk Ck 0 false 0 0 w
      have HCS := Lib.hid (And.intro hcs hall)
      clear hre hmm hup hsee hnk hput hcs hsz hall huk o1 o2 HD
      have hx1 := fun (v : Value) (l : List Nat) (hx : See KU w4 v l) => hx.updC HCS.out.1 HCS.out.2 ((Upd.refl [qc] w4).setCell (p := ⟨qc, k, none⟩) (.inl (by simp)) (.slice Ak nk Ck))
      have HX := Lib.hid hx1
      have hv1 : Upd [qc] w4 (w4.setCell ⟨qc, k, none⟩ (.slice Ak nk Ck)) := (Upd.refl [qc] w4).setCell (p := ⟨qc, k, none⟩) (.inl (by simp)) _
      have HV := Lib.hid hv1
      clear hx1 hv1
      go_upto_region 11 with fail
      clear ck fk hfd
      go_wp2_with fail
      go_roundg (4 - (k + 1))
      case measure => have := HK.out.1; have := HLT.out; omega
      case rel =>
        refine ⟨k + 1, by have := HK.out.1; have := HLT.out; omega, by go_num, H4.out.1, H4.out.2.1.upd HV.out ?_ ?_ ?_ ?_, H4.out.2.2.1.trans' HV.out (fun y hy => .inr (by have := HQC.out.2.1; simp only [List.mem_singleton] at hy; omega)), HX.out _ _ H4.out.2.2.2.1, HX.out _ _ H4.out.2.2.2.2.1, H4.out.2.2.2.2.2.upd HV.out ?_⟩
        · have := HQC.out; simp only [List.mem_singleton]; omega
        · have := HQC.out.1; simp only [List.mem_cons, List.not_mem_nil, or_false] at this; simp only [List.mem_singleton]; omega
        · have := HQC.out.1; simp only [List.mem_cons, List.not_mem_nil, or_false] at this; simp only [List.mem_singleton]; omega
        · have := HQC.out.1; simp only [List.mem_cons, List.not_mem_nil, or_false] at this; simp only [List.mem_singleton]; omega
        · have := HQC.out; simp only [List.mem_singleton]; omega
    · have ek : k = 4 := by omega
      subst ek
      clear hk hr hlt k0 k3
      have o1 := HK.out.2.2.2.2.2.2 1 _ rfl
      have o2 := HK.out.2.2.2.2.2.2 2 _ rfl
      have o3 := HK.out.2.2.2.2.2.2 3 _ rfl
      have o4 := HK.out.2.2.2.2.2.2 4 _ rfl
      go_upto_region 13 with fail
      have HBX := Lib.hid (show HpC (wr.alloc (.cells #[.int .i64 oa, .int .i64 ob, .int .i64 occ, .int .i64 od, .int .u32 0] 43)) wr.heap.size #[.int .i64 oa, .int .i64 ob, .int .i64 occ, .int .i64 od, .int .u32 0] 43 from heap_alloc_new wr _)
      have hua : Upd [] wr (wr.alloc (.cells #[.int .i64 oa, .int .i64 ob, .int .i64 occ, .int .i64 od, .int .u32 0] 43)) := (Upd.refl _ _).alloc _
      have HG6 := Lib.hid (And.intro (HK.out.2.1.upd hua (by simp) (fun v l hx => hx.upd0 hua)) (And.intro (HK.out.2.2.1.upd0 hua) (And.intro (HK.out.2.2.2.1.trans (hua.mono (by simp))) (And.intro (HK.out.2.2.2.2.1.upd0 hua) (And.intro (HK.out.2.2.2.2.2.1.upd0 hua) (HK.out.2.2.2.2.2.2.upd0 hua))))))
      clear hua o1 o2 o3 o4 HCR HCM
      generalize (wr.alloc (.cells #[.int .i64 oa, .int .i64 ob, .int .i64 occ, .int .i64 od, .int .u32 0] 43)) = W6 at HBX HG6 ⊢
      generalize wr.heap.size = qb at HBX ⊢
      have hsm := HG6.out.2.1.small
      have n4b : (n4 : Int) < 1000 := by have := HN4.out; have := names_len Pt.id M.ps (four4 oa ob occ od); omega
      have n3b : (n3 : Int) < 1000 := by have := HN3.out; have := names_len Pt.id M.ps (three4 oa ob occ); omega
      have n4a : (0 : Int) ≤ (n4 : Int) := Int.natCast_nonneg _
      have n3a : (0 : Int) ≤ (n3 : Int) := Int.natCast_nonneg _
      have hpt := thePoints HG6.out.2.1.at' (show M.ps.length < 1000000 by omega)
      have HASC := Lib.hid (And.intro HG6.out.2.1.at'.ok.ps HG6.out.2.1.in64.ps)
      obtain ⟨l, hlM⟩ : ∃ l, M.ps = l := ⟨_, rfl⟩
      rw [hlM] at hpt HN4 HN3 HASC HG6 hsm
      obtain ⟨n1, hn1⟩ : ∃ n, l.length = n := ⟨_, rfl⟩
      rw [hn1] at hpt
      have HN1 := Lib.hid hn1
      have HPT := Lib.hid hpt
      have n0 : (0 : Int) ≤ (n1 : Int) := Int.natCast_nonneg _
      have n1' : (n1 : Int) < 1000 := by omega
      clear hpt hsm hn1 HK
      go_wp2_with fail
      (with_reducible refine HPT.out.mono ?_)
      rintro e w7 ⟨Ap, Cp, rfl, hrow, hu7⟩
      have HP := Lib.hid (And.intro (See.of_row hrow) (And.intro (HBX.out.upd hu7 (by simp)) (And.intro (HG6.out.1.upd hu7 (by simp) (fun v l hx => hx.upd0 hu7)) (And.intro (HG6.out.2.1.upd0 hu7) (And.intro (HG6.out.2.2.1.trans (hu7.mono (by simp))) (And.intro (HG6.out.2.2.2.1.upd0 hu7) (And.intro (HG6.out.2.2.2.2.1.upd0 hu7) (HG6.out.2.2.2.2.2.upd0 hu7))))))))
      clear hrow hu7 HBX HG6 HPT hlM
      go_wp2_with fail
      obtain ⟨wl, rfl⟩ : ∃ wl : World, wl = wr := ⟨_, rfl⟩
      obtain ⟨gO, rfl⟩ : ∃ gO : Nat, gO = gk := ⟨_, rfl⟩
      go_loopg [11, 75] n1 (fun m s11 s75 wr => ∃ (i : Nat) (z : Int), m + i = n1 ∧ s75 = .int .i64 (i : Int) ∧ s11 = .int .i64 z ∧ z = (n4 : Int) + n3 - (cnt4 (four4 oa ob occ od) l i + cnt4 (three4 oa ob occ) l i : Nat) ∧ Upd [] w7 wr)
      case atStart => exact ⟨0, _, rfl, rfl, rfl, by simp [cnt4], Upd.refl _ _⟩
      case round =>
        obtain ⟨i, z, hi, rfl, rfl, hz, hu⟩ := hrel
        have HI := Lib.hid (And.intro hi (And.intro hz hu))
        have i0 : (0 : Int) ≤ (i : Int) := Int.natCast_nonneg _
        have i3 : (i : Int) < 2000 := by omega
        by_cases hlt : i < n1
        · have i1 : (i : Int) < (n1 : Int) := by omega
          obtain ⟨pp, hpp⟩ : ∃ y, l[i]? = some y := ⟨_, List.getElem?_eq_getElem (by rw [HN1.out]; exact hlt)⟩
          obtain ⟨gp, op, hA, -, -, c0, c1, c2⟩ := KPt.at (HP.out.1.upd0 hu) hpp
          subst hA
          have HLT := Lib.hid (And.intro hlt (And.intro hpp (List.mem_of_getElem? hpp)))
          have zb : -10 ≤ z ∧ z < 3000 := by
            have h1 := cnt4_le (four4 oa ob occ od) l i
            have h2 := cnt4_le (three4 oa ob occ) l i
            have h3 := HN4.out
            have h4 := HN3.out
            omega
          obtain ⟨z0, z1⟩ := zb
          clear hi hz hu hlt hpp
          go_upto_region 17 with fail
          have HE := Lib.hid (show HpC (wr.alloc (.cells #[.int .i64 pp.x, .int .i64 pp.y, .int .u32 (pp.id : Int)] 47)) wr.heap.size #[.int .i64 pp.x, .int .i64 pp.y, .int .u32 (pp.id : Int)] 47 from heap_alloc_new wr _)
          have HU := Lib.hid (HI.out.2.2.alloc (.cells #[.int .i64 pp.x, .int .i64 pp.y, .int .u32 (pp.id : Int)] 47))
          clear c0 c1 c2
          generalize (wr.alloc (.cells #[.int .i64 pp.x, .int .i64 pp.y, .int .u32 (pp.id : Int)] 47)) = wa at HE HU ⊢
          generalize wr.heap.size = qp at HE ⊢
          have hc4 := in_names (p := four4 oa ob occ od) HASC.out.1 HLT.out.2.2
          have hc3 := in_names (p := three4 oa ob occ) HASC.out.1 HLT.out.2.2
          have hw4 := fun w9 (hu : Upd [] wa w9) => withC (.slice A4 n4 C4) _ pp.id w9 ((HP.out.2.2.2.2.2.1.upd0 HU.out).upd0 hu) (by have := HN4.out; omega)
          have hw3 := fun w9 (hu : Upd [] wa w9) => withC (.slice A3 n3 C3) _ pp.id w9 ((HP.out.2.2.2.2.2.2.1.upd0 HU.out).upd0 hu) (by have := HN3.out; omega)
          rw [hc4] at hw4
          rw [hc3] at hw3
          obtain ⟨b4, hb4⟩ : ∃ b, four4 oa ob occ od pp = b := ⟨_, rfl⟩
          obtain ⟨b3, hb3⟩ : ∃ b, three4 oa ob occ pp = b := ⟨_, rfl⟩
          simp only [hb4] at hw4
          simp only [hb3] at hw3
          have HW4 := Lib.hid hw4
          have HW3 := Lib.hid hw3
          have HBB := Lib.hid (And.intro hb4 hb3)
          have h3p := three_parts (a := oa) (b := ob) (c := occ) (HASC.out.2 pp HLT.out.2.2)
          rw [hb3] at h3p
          clear hc4 hc3 hw4 hw3
          go_cut [108] (fun s108 we => s108 = .bool false ∧ Upd [] wa we)
          case first =>
            obtain ⟨sx, hsx⟩ : ∃ b, stabBM oa ob pp.x = b := ⟨_, rfl⟩
            obtain ⟨dy, hdy⟩ : ∃ b, decide (pp.y ≤ occ) = b := ⟨_, rfl⟩
            rw [hsx, hdy] at h3p
            have hin := fun w9 => inCM ⟨oa, ob, occ, od, 0⟩ pp.x pp.y (pp.id : Int) w9
            unfold four4 at hb4
            simp only [hb4] at hin
            unfold bxV at hin
            dsimp only at hin
            have hst := fun w9 => stabCM oa ob pp.x 0 w9
            simp only [hsx] at hst
            have HIN := Lib.hid (show ∀ w9, Calls Tryz.prog 17 #[.agg #[.int .i64 pp.x, .int .i64 pp.y, .int .u32 (pp.id : Int)], .agg #[.int .i64 oa, .int .i64 ob, .int .i64 occ, .int .i64 od, .int .u32 0]] w9 fun e w' => e = .returned (.bool b4) ∧ Upd [] w9 w' from hin)
            have HST := Lib.hid hst
            have p0 := HE.out.cell 0
            have p1 := HE.out.cell 1
            have p2 := HE.out.cell 2
            have x0 := (HP.out.2.1.upd HU.out (by simp)).cell 0
            have x1 := (HP.out.2.1.upd HU.out (by simp)).cell 1
            have x2 := (HP.out.2.1.upd HU.out (by simp)).cell 2
            have x3 := (HP.out.2.1.upd HU.out (by simp)).cell 3
            have x4 := (HP.out.2.1.upd HU.out (by simp)).cell 4
            have hop := HP.out.2.2.2.2.2.2.2.upd0 HU.out
            have o1 := hop 1 _ rfl
            have o2 := hop 2 _ rfl
            have o3 := hop 3 _ rfl
            simp only [List.getElem?_toArray, List.getElem?_cons_zero, List.getElem?_cons_succ] at p0 p1 p2 x0 x1 x2 x3 x4
            have tr : ∀ {a : Addr} {v : Value}, wa.cell? a = some v → ∀ z : QW wa, z.w.cell? a = some v := fun hv z => (z.up.cell (World.block_lt_of_cell? _ _ hv) (by simp)).trans hv
            have cp0 := tr p0
            have cp1 := tr p1
            have cp2 := tr p2
            have cx0 := tr x0
            have cx1 := tr x1
            have cx2 := tr x2
            have cx3 := tr x3
            have cx4 := tr x4
            have co1 := tr o1
            have co2 := tr o2
            have co3 := tr o3
            have e4 : (b4 == b4) = true := by simp
            clear p0 p1 p2 x0 x1 x2 x3 x4 hop o1 o2 o3 tr hin hst hsx hb4 hb3
            cases sx with
            | true =>
              rw [Bool.true_and] at h3p
              subst h3p
              have e3 : (b3 == b3) = true := by simp
              refine wp_region_quietU (by kernel_rfl) (by kernel_rfl) ?_
              repeat (go_big_quiet_step (first | (with_reducible exact Calls.quietU (HIN.out _)) | (with_reducible exact Calls.quietU (HST.out _)) | (with_reducible exact Calls.quietU ((HW4.out _ (QW.up _)).mono fun _ _ hh => ⟨hh.1, hh.2 ▸ Upd.refl _ _⟩)) | (with_reducible exact Calls.quietU ((HW3.out _ (QW.up _)).mono fun _ _ hh => ⟨hh.1, hh.2 ▸ Upd.refl _ _⟩))))
              refine wpQuiet_nil ?_
              intro _ hw'
              obtain ⟨⟨wq, hwq⟩, hw''⟩ := hw'
              dsimp only at hw''
              subst hw''
              clear cp0 cp1 cp2 cx0 cx1 cx2 cx3 cx4 co1 co2 co3
              go_wp2_with fail
              go_meet
              case rel => exact ⟨rfl, hwq⟩
            | false =>
              rw [Bool.false_and] at h3p
              subst h3p
              refine wp_region_quietU (by kernel_rfl) (by kernel_rfl) ?_
              repeat (go_big_quiet_step (first | (with_reducible exact Calls.quietU (HIN.out _)) | (with_reducible exact Calls.quietU (HST.out _)) | (with_reducible exact Calls.quietU ((HW4.out _ (QW.up _)).mono fun _ _ hh => ⟨hh.1, hh.2 ▸ Upd.refl _ _⟩)) | (with_reducible exact Calls.quietU ((HW3.out _ (QW.up _)).mono fun _ _ hh => ⟨hh.1, hh.2 ▸ Upd.refl _ _⟩))))
              refine wpQuiet_nil ?_
              intro _ hw'
              obtain ⟨⟨wq, hwq⟩, hw''⟩ := hw'
              dsimp only at hw''
              subst hw''
              clear cp0 cp1 cp2 cx0 cx1 cx2 cx3 cx4 co1 co2 co3
              go_wp2_with fail
              go_meet
              case rel => exact ⟨rfl, hwq⟩
          obtain ⟨rfl, huc⟩ := hcut
          obtain ⟨wc1, rfl⟩ : ∃ W : World, W = wc := ⟨_, rfl⟩
          have HUc := Lib.hid huc
          have HEc := Lib.hid (HE.out.upd huc (by simp))
          clear huc h3p hb4 hb3
          go_upto_if 108 with fail
          go_step
          go_step
          go_step
          go_step
          go_step
          go_cut [11] (fun s11 we => s11 = .int .i64 (bif b4 then z - 1 else z) ∧ wc1 = we)
          case first =>
            have p2 := HEc.out.cell 2
            simp only [List.getElem?_toArray, List.getElem?_cons_zero, List.getElem?_cons_succ] at p2
            cases b4 with
            | true =>
              go_wp2_with fail
              (with_reducible refine (HW4.out _ HUc.out).mono ?_)
              rintro e w9 ⟨rfl, rfl⟩
              go_wp2_with fail
              go_meet
              case rel => exact ⟨rfl, rfl⟩
            | false =>
              go_wp2_with fail
              (with_reducible refine (HW4.out _ HUc.out).mono ?_)
              rintro e w9 ⟨rfl, rfl⟩
              go_wp2_with fail
              go_meet
              case rel => exact ⟨rfl, rfl⟩
          obtain ⟨rfl, rfl⟩ := hcut
          obtain ⟨y4, hy4⟩ : ∃ y, (bif b4 then z - 1 else z) = y := ⟨_, rfl⟩
          have hy4b : -20 ≤ y4 ∧ y4 < 3000 := by rw [← hy4]; cases b4 <;> simp <;> omega
          obtain ⟨y40, y41⟩ := hy4b
          rw [hy4]
          have HY4 := Lib.hid hy4
          clear hy4
          go_step
          go_step
          go_cut [11] (fun s11 we => s11 = .int .i64 (bif b3 then y4 - 1 else y4) ∧ wc1 = we)
          case first =>
            have p2 := HEc.out.cell 2
            simp only [List.getElem?_toArray, List.getElem?_cons_zero, List.getElem?_cons_succ] at p2
            cases b3 with
            | true =>
              go_wp2_with fail
              (with_reducible refine (HW3.out _ HUc.out).mono ?_)
              rintro e w9 ⟨rfl, rfl⟩
              go_wp2_with fail
              go_meet
              case rel => exact ⟨rfl, rfl⟩
            | false =>
              go_wp2_with fail
              (with_reducible refine (HW3.out _ HUc.out).mono ?_)
              rintro e w9 ⟨rfl, rfl⟩
              go_wp2_with fail
              go_meet
              case rel => exact ⟨rfl, rfl⟩
          obtain ⟨rfl, rfl⟩ := hcut
          obtain ⟨y3, hy3⟩ : ∃ y, (bif b3 then y4 - 1 else y4) = y := ⟨_, rfl⟩
          rw [hy3]
          have HY3 := Lib.hid hy3
          have HZ := Lib.hid (And.intro z0 (And.intro z1 (And.intro y40 y41)))
          clear hy3 z0 z1 y40 y41
          go_wp2_with fail
          obtain ⟨wq, rfl⟩ : ∃ wl : World, wl = wr := ⟨_, rfl⟩
          obtain ⟨gP, rfl⟩ : ∃ gO : Nat, gO = gk := ⟨_, rfl⟩
          go_loopg [121] 4 (fun m s121 wr => ∃ k : Nat, m + k = 4 ∧ s121 = .int .i64 (k : Int) ∧ Upd [] wc1 wr)
          case atStart => exact ⟨0, rfl, rfl, Upd.refl _ _⟩
          case round =>
            obtain ⟨k, hk, rfl, hu⟩ := hrel
            have HK := Lib.hid (And.intro hk hu)
            have k0 : (0 : Int) ≤ (k : Int) := Int.natCast_nonneg _
            have k3 : (k : Int) < 9 := by omega
            by_cases hlt : k < 4
            · have k1 : (k : Int) < 4 := by omega
              have HLK := Lib.hid hlt
              obtain ⟨wi, rfl⟩ : ∃ W : World, W = wr := ⟨_, rfl⟩
              have hEk := HEc.out.upd hu (by simp)
              have hUk := (HU.out.trans HUc.out).trans hu
              have hop := HP.out.2.2.2.2.2.2.2.upd0 hUk
              have hcn := HP.out.2.2.1.upd hUk (by simp) (fun v l hx => hx.upd0 hUk)
              have p0 := hEk.cell 0
              have p1 := hEk.cell 1
              have p2 := hEk.cell 2
              have o1 := hop 1 _ rfl
              have o2 := hop 2 _ rfl
              simp only [List.getElem?_toArray, List.getElem?_cons_zero, List.getElem?_cons_succ] at p0 p1 p2
              obtain ⟨cs, hcs, -, -, hcj⟩ := hcn
              obtain ⟨Ak, Ck, hck, hsk⟩ := hcj k hlt
              dsimp only at hck hsk
              have cc := hcs.cell k
              rw [hck] at cc
              have hci := in_names (p := fun q => cornB q oa ob (k : Int)) HASC.out.1 HLT.out.2.2
              have hcp := corner_parts pp oa ob k hlt
              obtain ⟨xk, hxk⟩ : ∃ b, ((pp.x == oa) || (decide (oa < pp.x) == ((k : Int).tmod 2 == 1))) = b := ⟨_, rfl⟩
              obtain ⟨yk, hyk⟩ : ∃ b, ((pp.y == ob) || (decide (ob < pp.y) == decide (2 ≤ k))) = b := ⟨_, rfl⟩
              rw [hxk, hyk] at hcp
              rw [hcp] at hci
              have hwc := fun w9 (hu : Upd [] wi w9) => withC _ _ pp.id w9 (hsk.upd0 hu) (by have h1 := names_len Pt.id l (fun q => cornB q oa ob (k : Int)); have h2 := HN1.out; omega)
              simp only [hci] at hwc
              obtain ⟨nk, hnk⟩ : ∃ kk, (namesM Pt.id l (fun q => cornB q oa ob (k : Int))).length = kk := ⟨_, rfl⟩
              rw [hnk] at hwc cc
              have HWC := Lib.hid hwc
              have HXY := Lib.hid (And.intro hxk hyk)
              clear hk hu hlt hEk hUk hop hcs hcj hck hsk hci hcp hwc hnk hxk hyk
              go_upto_region 26 with fail
              go_cut [15] (fun s15 we => s15 = .bool xk ∧ wi = we)
              case first =>
                obtain ⟨q1, hq1⟩ : ∃ q, (pp.x == oa) = q := ⟨_, rfl⟩
                obtain ⟨q2, hq2⟩ : ∃ q, decide (oa < pp.x) = q := ⟨_, rfl⟩
                have hx := HXY.out.1
                rw [hq1, hq2] at hx
                have hl4 := HLK.out
                clear HWC HLK HXY cc p1 p2 o2 HK k0 k3 k1
                subst hx
                rcases (show k = 0 ∨ k = 1 ∨ k = 2 ∨ k = 3 by omega) with rfl | rfl | rfl | rfl
                all_goals
                  clear hl4
                  cases q1 with
                  | true =>
                    go_wp2_with fail
                    go_meet
                    case rel => exact ⟨rfl, rfl⟩
                  | false =>
                    cases q2 with
                    | true =>
                      go_wp2_with fail
                      go_meet
                      case rel => exact ⟨rfl, rfl⟩
                    | false =>
                      go_wp2_with fail
                      go_meet
                      case rel => exact ⟨rfl, rfl⟩
              obtain ⟨rfl, rfl⟩ := hcut
              go_upto_region 27 with fail
              go_cut [16] (fun s16 we => s16 = .bool yk ∧ wi = we)
              case first =>
                obtain ⟨q1, hq1⟩ : ∃ q, (pp.y == ob) = q := ⟨_, rfl⟩
                obtain ⟨q2, hq2⟩ : ∃ q, decide (ob < pp.y) = q := ⟨_, rfl⟩
                have hx := HXY.out.2
                rw [hq1, hq2] at hx
                have hl4 := HLK.out
                clear HWC HLK HXY cc p0 p2 o1 HK k0 k3 k1
                subst hx
                rcases (show k = 0 ∨ k = 1 ∨ k = 2 ∨ k = 3 by omega) with rfl | rfl | rfl | rfl
                all_goals
                  clear hl4
                  cases q1 with
                  | true =>
                    go_wp2_with fail
                    go_meet
                    case rel => exact ⟨rfl, rfl⟩
                  | false =>
                    cases q2 with
                    | true =>
                      go_wp2_with fail
                      go_meet
                      case rel => exact ⟨rfl, rfl⟩
                    | false =>
                      go_wp2_with fail
                      go_meet
                      case rel => exact ⟨rfl, rfl⟩
              obtain ⟨rfl, rfl⟩ := hcut
              go_upto_region 28 with fail
              go_cut [165] (fun s165 we => s165 = .bool false ∧ Upd [] wi we)
              case first =>
                have tr : ∀ {a : Addr} {v : Value}, wi.cell? a = some v → ∀ z : QW wi, z.w.cell? a = some v := fun hv z => (z.up.cell (World.block_lt_of_cell? _ _ hv) (by simp)).trans hv
                have cp2 := tr p2
                have ccc := tr cc
                clear p0 p1 p2 o1 o2 cc tr
                have hw := HWC.out
                clear HXY HWC
                obtain ⟨ck, hck⟩ : ∃ c, (xk && yk) = c := ⟨_, rfl⟩
                simp only [hck] at hw
                have HWD := Lib.hid hw
                clear hw
                cases xk with
                | true =>
                  rw [Bool.true_and] at hck
                  subst hck
                  have ee : (yk == yk) = true := by simp
                  refine wp_region_quietU (by kernel_rfl) (by kernel_rfl) ?_
                  repeat (go_big_quiet_step (with_reducible exact Calls.quietU ((HWD.out _ (QW.up _)).mono fun _ _ hh => ⟨hh.1, hh.2 ▸ Upd.refl _ _⟩)))
                  refine wpQuiet_nil ?_
                  intro _ hw'
                  obtain ⟨⟨wq, hwq⟩, hw''⟩ := hw'
                  dsimp only at hw''
                  subst hw''
                  clear cp2 ccc
                  go_wp2_with fail
                  go_meet
                  case rel => exact ⟨rfl, hwq⟩
                | false =>
                  rw [Bool.false_and] at hck
                  subst hck
                  refine wp_region_quietU (by kernel_rfl) (by kernel_rfl) ?_
                  repeat (go_big_quiet_step (with_reducible exact Calls.quietU ((HWD.out _ (QW.up _)).mono fun _ _ hh => ⟨hh.1, hh.2 ▸ Upd.refl _ _⟩)))
                  refine wpQuiet_nil ?_
                  intro _ hw'
                  obtain ⟨⟨wq, hwq⟩, hw''⟩ := hw'
                  dsimp only at hw''
                  subst hw''
                  clear cp2 ccc
                  go_wp2_with fail
                  go_meet
                  case rel => exact ⟨rfl, hwq⟩
              obtain ⟨rfl, hud⟩ := hcut
              have HUd := Lib.hid (HK.out.2.trans hud)
              clear hud p0 p1 p2 o1 o2 cc
              go_wp2_with fail
              go_roundg (4 - (k + 1))
              case measure => have := HK.out.1; have := HLK.out; omega
              case rel => exact ⟨k + 1, by have := HK.out.1; have := HLK.out; omega, by go_num, HUd.out⟩
            · have ek : (k : Int) = 4 := by omega
              obtain ⟨kz, hkz⟩ : ∃ z : Int, (k : Int) = z := ⟨_, rfl⟩
              rw [hkz] at ek ⊢
              have HUe := Lib.hid ((HU.out.trans HUc.out).trans hu)
              clear hk hu hlt k0 k3 hkz
              subst ek
              go_wp2_with fail
              go_roundg (n1 - (i + 1))
              case measure => have := HI.out.1; have := HLT.out.1; omega
              case rel =>
                refine ⟨i + 1, y3, by have := HI.out.1; have := HLT.out.1; omega, by go_num, rfl, ?_, HUe.out⟩
                rw [cnt4_step HLT.out.2.1, cnt4_step HLT.out.2.1, HBB.out.1, HBB.out.2, ← HY3.out, ← HY4.out, HI.out.2.1]
                cases b4 <;> cases b3 <;> simp <;> omega
        · have ei : i = n1 := by omega
          subst ei
          have hz0 : z = 0 := by
            rw [hz, cnt4_all _ _ (Nat.le_of_eq HN1.out), cnt4_all _ _ (Nat.le_of_eq HN1.out), HN4.out, HN3.out]
            omega
          subst hz0
          have hd := doAsk ar (HP.out.2.2.2.1.upd0 hu) (by decide) ⟨11, oa, ob, 4, 0, 0⟩ ⟨⟨hO.1, hO.2.1, by show z64 4; decide, by show z64 0; decide⟩, by show (0 : Nat) < _; decide, by show (11 : Nat) < _; decide⟩ (by show 7 ≤ 11; decide)
          rw [do_corner, corner_none] at hd
          have HD := Lib.hid (show Calls Tryz.prog 13 #[.pointer (some ⟨h, 0, none⟩), .agg #[.int .u8 11, .int .i64 oa, .int .i64 ob, .int .i64 4, .int .i64 0, .int .u32 0]] wr _ from hd)
          have hop := HP.out.2.2.2.2.2.2.2.upd0 hu
          have o1 := hop 1 _ rfl
          have o2 := hop 2 _ rfl
          have HUz := Lib.hid hu
          clear hd hi hz hu hlt hop i0 i3
          go_wp2_with fail
          (with_reducible refine HD.out.mono ?_)
          rintro e w8 ⟨⟨u, rfl, hre⟩, hmm, hup⟩
          obtain ⟨Az, Cz, rfl, -⟩ := repAt_idsP hre
          have hfd := fun w => rep_field1 0 Az 0 Cz 0 false 0 0 w
          have HUy := Lib.hid ((HP.out.2.2.2.2.1.trans (HUz.out.mono (by simp))).trans hup)
          clear hre hmm hup o1 o2
          go_wp2_with fail
          (with_reducible refine (awake26 ar _).mono ?_)
          rintro e w9 ⟨rfl, hu9⟩
          have HU9 := Lib.hid hu9
          clear hu9 hfd
          go_wp2_with fail
          go_ret
          exact ⟨rfl, (HU1.out.trans' HUy.out (fun y hy => .inr (by have := HB.out; simp only [List.mem_cons, List.not_mem_nil, or_false] at hy; omega))).trans HU9.out⟩
end Go.Proofs.YthnbgfnclpkdjaaGreat
