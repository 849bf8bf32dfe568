/- RimApart: plainly; the walk. -/
import Derived.Test.YtokpdocabmaagaaGreatSmall18
namespace Go.Proofs.YtokpdocabmaagaaGreat
open Go.RowKit

/-- Moved up, or to the right. -/
def shB (up : Bool) (b : Bx) : Bx := cond up ⟨b.x1, b.x2, b.y1 + 16, b.y2 + 16, 0⟩ ⟨b.x1 + 16, b.x2 + 16, b.y1, b.y2, 0⟩
def Bx.in15 (b : Bx) : Prop := (0 ≤ b.x1 ∧ b.x1 ≤ 15) ∧ (0 ≤ b.x2 ∧ b.x2 ≤ 15) ∧ (0 ≤ b.y1 ∧ b.y1 ≤ 15) ∧ (0 ≤ b.y2 ∧ b.y2 ≤ 15) ∧ b.id = 0

theorem smB_in15 {l : List Sm} : ∀ b ∈ l.map smB, b.in15 := fun b hb => by
  obtain ⟨s, hs, rfl⟩ := List.mem_map.1 hb
  unfold smB Bx.in15
  dsimp only
  omega

theorem cov_in15 {L : List Bx} (h : ∀ b ∈ L, b.in15) {x y : Int} (hc : covB L x y = true) : 0 ≤ x ∧ x < 15 ∧ 0 ≤ y ∧ y < 15 := by
  unfold covB at hc
  rw [List.any_eq_true] at hc
  obtain ⟨b, h1, h2⟩ := hc
  have := h b h1
  unfold Bx.in15 at this
  unfold Bx.cell at h2
  rw [decide_eq_true_eq] at h2
  omega
theorem cov_sh {M : List Bx} (h : ∀ b ∈ M, b.in15) {up : Bool} {x y : Int} (hc : covB (M.map (shB up)) x y = true) : (up = true ∧ 16 ≤ y) ∨ (up = false ∧ 16 ≤ x) := by
  unfold covB at hc
  rw [List.any_map, List.any_eq_true] at hc
  obtain ⟨b, h1, h2⟩ := hc
  have := h b h1
  unfold Bx.in15 at this
  simp only [Function.comp] at h2
  cases up
  · right
    unfold Bx.cell shB at h2
    simp only [cond_false, decide_eq_true_eq] at h2
    exact ⟨rfl, by omega⟩
  · left
    unfold Bx.cell shB at h2
    simp only [cond_true, decide_eq_true_eq] at h2
    exact ⟨rfl, by omega⟩

theorem and_none {p q r s : Bool} (h : (p = true ∨ q = true) → (r = true ∨ s = true) → False) : ((p || q) && (r || s)) = false := by
  cases p <;> cases q <;> cases r <;> cases s <;> simp_all

theorem apart_all {L M : List Bx} (hL : ∀ b ∈ L, b.in15) (hM : ∀ b ∈ M, b.in15) (up : Bool) : rimA (L ++ M.map (shB up)) = rimA L + rimA (M.map (shB up)) := by
  refine rimA_apart (fun x y => and_none fun h1 h2 => ?_) (fun x y => and_none fun h1 h2 => ?_)
  · have a1 : 0 ≤ x ∧ x < 15 ∧ -1 ≤ y - 1 ∧ y - 1 < 15 := by
      rcases h1 with h | h <;> have := cov_in15 hL h <;> omega
    rcases h2 with h | h <;> rcases cov_sh hM h with ⟨_, h⟩ | ⟨_, h⟩ <;> omega
  · have a1 : -1 ≤ x - 1 ∧ x - 1 < 15 ∧ 0 ≤ y ∧ y < 15 := by
      rcases h1 with h | h <;> have := cov_in15 hL h <;> omega
    rcases h2 with h | h <;> rcases cov_sh hM h with ⟨_, h⟩ | ⟨_, h⟩ <;> omega

theorem in15_64 {b : Bx} (h : b.in15) : b.in64 := by unfold Bx.in15 at h; unfold Bx.in64; omega
theorem sh_64 {b : Bx} (h : b.in15) (up : Bool) : (shB up b).in64 := by
  unfold Bx.in15 at h
  cases up <;> unfold Bx.in64 shB <;> dsimp only [cond] <;> omega

theorem rimA_oneN {b : Bx} (h : b.in15) : (rimA [b]).toNat = if b.counts = true then 2 * ((b.x2 - b.x1).toNat + (b.y2 - b.y1).toNat) else 0 := by
  by_cases hc : b.counts = true
  · rw [if_pos hc, rimA_one (in15_64 h) hc]
    unfold Bx.counts at hc
    rw [decide_eq_true_eq] at hc
    omega
  · rw [if_neg hc, rimA_none fun x y => ?_]
    · rfl
    · cases e : covB [b] x y
      · rfl
      · unfold covB at e
        simp only [List.any_cons, List.any_nil, Bool.or_false] at e
        exact absurd (cov_counts e) hc

theorem KBx.all_set2 (x1 x2 y1 y2 : Int) : ∀ (l : List Bx) (k : Nat) (b : Bx), l[k]? = some b →
    (((KBx.all l).set (k * 5 + 2) (.int .i64 y1)).set (k * 5 + 3) (.int .i64 y2) = KBx.all (l.set k ⟨b.x1, b.x2, y1, y2, b.id⟩)) ∧ (((KBx.all l).set (k * 5) (.int .i64 x1)).set (k * 5 + 1) (.int .i64 x2) = KBx.all (l.set k ⟨x1, x2, b.y1, b.y2, b.id⟩))
  | [], k, b, h => by simp at h
  | c :: r, 0, b, h => by simp at h; subst h; simp [Kind.all, KBx]
  | c :: r, k + 1, b, h => by
    obtain ⟨e1, e2⟩ := KBx.all_set2 x1 x2 y1 y2 r k b (by simpa using h)
    have hs : ∀ (A : List Value) (j : Nat) (u : Value), (KBx.enc c ++ A).set (5 + j) u = KBx.enc c ++ A.set j u := fun A j u => by
      rw [List.set_append_right _ _ (by show 5 ≤ 5 + j; omega), show 5 + j - (KBx.enc c).length = j by show 5 + j - 5 = j; omega]
    unfold Kind.all at e1 e2 ⊢
    rw [List.set_cons_succ, List.set_cons_succ, List.flatMap_cons, List.flatMap_cons, List.flatMap_cons, ← e1, ← e2]
    rw [show (k + 1) * 5 + 2 = 5 + (k * 5 + 2) by omega, show (k + 1) * 5 + 3 = 5 + (k * 5 + 3) by omega, show (k + 1) * 5 = 5 + k * 5 by omega, show 5 + k * 5 + 1 = 5 + (k * 5 + 1) by omega, hs, hs, hs, hs]
    exact ⟨rfl, rfl⟩

theorem step_appg {P : Program} {ops : Array Oper} {o : Oper} {a : Act} {w : World} {K : Act → World → Prop} {Q : Exit → Act → World → Prop} {E : Prop} (hw : Region.wanted o (yielded ops a.tmps) = true) (s x : Operand) (t : TypeId)
    (ho : o.op = .call { callee := .builtin .append, args := #[s, x], argTypes := #[t, t] })
    (base : Nat) (e : TypeId) (i : TypeInfo) (z : Value) (size bytes : Nat) (ht : P.underlying t = some (.slice e)) (hi : P.info? e = some i) (hz : i.zero = some z)
    (hsize : i.size = size) (hby : i.bytes = bytes) (hzs : z.cells.size = size) (hsz : 0 < size)
    (v : Value) (n : Nat) (xs : List Value) (hs : a.eval s = v) (hown : w.ownsRow base e size v n xs)
    (vx : Value) (m : Nat) (news : List Value) (hx : a.eval x = vx) (hsee : Sees w size vx m news) (h1 : ∀ u ∈ news, u.oneCell' = true)
    (h63 : n + m ≤ maxLen) (hbytes : (n + m) * bytes ≤ 140737488355328) (hbase : base ≤ w.heap.size)
    (h : ∀ A C w', AppPost w w' base e size v n xs m news A C → K (a.put o.dst (.slice A (n + m) C)) w') :
    if Region.wanted o (yielded ops a.tmps) = true then Oper.wp P o a w K Q else E := by
  rw [if_pos hw]
  exact wp_app w s x t ho base e i z size bytes ht hi hz hsize hby hzs hsz v n xs hs hown vx m news hx hsee h1 h63 hbytes hbase h

theorem wide_sameR (a b : Int) (w : World) : (binOp .eql 27 (.agg #[.int .u64 a, .int .u64 b]) (.agg #[.int .u64 a, .int .u64 b])).run Tryz.prog w = .ok (.bool true) w := by
  rw [run_eql_struct, run_equalIn_agg _ _ _ _ _ (by kernel_rfl) (by kernel_rfl)]
  go_simp
theorem wide_nsameR (a b : Int) (w : World) : (binOp .neq 27 (.agg #[.int .u64 a, .int .u64 b]) (.agg #[.int .u64 a, .int .u64 b])).run Tryz.prog w = .ok (.bool false) w := by
  rw [run_neq_struct, run_equalIn_agg _ _ _ _ _ (by kernel_rfl) (by kernel_rfl)]
  go_simp

set_option maxRecDepth 100000 in
set_option maxHeartbeats 8000000 in
theorem rimApart_walk (v u : Value) (l m : List Sm) (up : Bool) (w : World) (hs : See KSm w v l) (hok : ∀ s ∈ l, s.ok) (hs2 : See KSm w u m) (hok2 : ∀ s ∈ m, s.ok) :
    Calls Tryz.prog 10 #[v, u, .bool up] w fun e w' => e = .returned (.bool true) ∧ Below w.heap.size w w' := by
  obtain ⟨A, C, rfl⟩ := hs.form
  obtain ⟨A', C', rfl⟩ := hs2.form
  by_cases hout : 10 < l.length ∨ 10 < m.length
  · obtain ⟨p, hp⟩ : ∃ p, decide ((10 : Int) < (l.length : Int)) = p := ⟨_, rfl⟩
    obtain ⟨q, hq⟩ : ∃ q, decide ((10 : Int) < (m.length : Int)) = q := ⟨_, rfl⟩
    have hpq : p = true ∨ (p = false ∧ q = true) := by
      rcases hout with h | h
      · left; rw [← hp, decide_eq_true_eq]; omega
      · cases p
        · right; exact ⟨rfl, by rw [← hq, decide_eq_true_eq]; omega⟩
        · left; rfl
    clear hs hok hs2 hok2 hout
    rcases hpq with rfl | ⟨rfl, rfl⟩
    all_goals
      go_enter Tryz.func10, Tryz.ntmps10
      go_wp2_with fail
      (with_reducible refine (awake18 _).mono ?_)
      rintro e w6 ⟨rfl, hu6⟩
      have HU6 := Lib.hid hu6
      clear hu6
      go_wp2_with fail
      go_ret
      exact ⟨rfl, HU6.out.below⟩
  · have d1 : decide ((10 : Int) < (l.length : Int)) = false := decide_eq_false (by omega)
    have d2 : decide ((10 : Int) < (m.length : Int)) = false := decide_eq_false (by omega)
    have hbx := fun W (hW : Upd [] w W) => boxesC (.slice A l.length C) l W (hs.upd0 hW) hok (by omega)
    have hbm := fun W (hW : Upd [] w W) => boxesC (.slice A' m.length C') m W (hs2.upd0 hW) hok2 (by omega)
    unfold BoxesPost at hbx hbm
    obtain ⟨n, hn⟩ : ∃ n, l.length = n := ⟨_, rfl⟩
    obtain ⟨k, hk⟩ : ∃ k, m.length = k := ⟨_, rfl⟩
    obtain ⟨L, hL⟩ : ∃ L, l.map smB = L := ⟨_, rfl⟩
    obtain ⟨M, hM⟩ : ∃ L, m.map smB = L := ⟨_, rfl⟩
    have hin := smB_in15 (l := l)
    have hin2 := smB_in15 (l := m)
    have hLn : L.length = n := by rw [← hL, List.length_map, hn]
    have hMn : M.length = k := by rw [← hM, List.length_map, hk]
    rw [hL] at hbx hin
    rw [hM] at hbm hin2
    rw [hn] at d1 hbx ⊢
    rw [hk] at d2 hbm ⊢
    have HLN := Lib.hid (And.intro hLn (And.intro hMn (And.intro hin (And.intro hin2 (show n ≤ 10 ∧ k ≤ 10 by omega)))))
    have HBX := Lib.hid hbx
    have HBM := Lib.hid hbm
    clear hs hok hs2 hok2 hout hbx hbm hn hk hL hM hin hin2 hLn hMn
    go_enter Tryz.func10, Tryz.ntmps10
    go_wp2_with fail
    clear d1 d2
    (with_reducible refine (HBX.out _ (Upd.refl _ _)).mono ?_)
    rintro e w1 ⟨A1, C1, rfl, r1, u1⟩
    have H1 := Lib.hid (And.intro r1 u1)
    clear r1 u1
    go_wp2_with fail
    (with_reducible refine (HBM.out _ H1.out.2).mono ?_)
    rintro e w2 ⟨A2, C2, rfl, r2, u2⟩
    have H2 := Lib.hid (And.intro (own_upd H1.out.1 u2 (by simp) : KBx.row w2 w.heap.size (.slice A1 n C1) L) (And.intro r2 (And.intro (H1.out.2.trans u2) (fun k hk => own_lt H1.out.1 k hk : ∀ k ∈ blk (.slice A1 n C1), k < w1.heap.size))))
    have HZ1 := Lib.hid H1.out.2.size
    have hkb : (k : Int) ≤ 10 := by have := HLN.out.2.2.2.2.2; omega
    clear r2 u2
    go_wp2_with fail
    go_loopg [30] k (fun mm s30 wr => ∃ i, mm + i = k ∧ s30 = .int .i64 (i : Int) ∧ KBx.row wr w1.heap.size (.slice A2 k C2) ((M.take i).map (shB up) ++ M.drop i) ∧ Upd (blk (.slice A2 k C2)) w2 wr)
    case atStart => exact ⟨0, rfl, rfl, by simpa using H2.out.2.1, Upd.refl _ _⟩
    case round =>
      obtain ⟨i, hi, rfl, hr, hu⟩ := hrel
      have i0 : (0 : Int) ≤ (i : Int) := Int.natCast_nonneg _
      by_cases hlt : i < k
      · obtain ⟨b, hb⟩ : ∃ b, M[i]? = some b := ⟨_, List.getElem?_eq_getElem (by have := HLN.out.2.1; omega)⟩
        have hb15 := HLN.out.2.2.2.1 b (List.mem_of_getElem? hb)
        obtain ⟨R, hR⟩ : ∃ R, (M.take i).map (shB up) ++ M.drop i = R := ⟨_, rfl⟩
        have hlk : ((M.take i).map (shB up)).length = i := by rw [List.length_map, List.length_take]; have := HLN.out.2.1; omega
        have hdk : M.drop i = b :: M.drop (i + 1) := by
          have hk' : i < M.length := by have := HLN.out.2.1; omega
          rw [List.drop_eq_getElem_cons hk']
          have := List.getElem?_eq_getElem hk'
          rw [hb] at this
          cases this
          rfl
        have hRk : R[i]? = some b := by
          rw [← hR, List.getElem?_append_right (by omega), hlk, Nat.sub_self, hdk]; rfl
        have hRn : (M.take (i + 1)).map (shB up) ++ M.drop (i + 1) = R.set i (shB up b) := by
          rw [← hR, hdk, List.set_append_right _ _ (by omega), hlk, Nat.sub_self, List.set_cons_zero, List.take_add_one, hb, List.map_append, List.append_assoc]
          rfl
        have hRl : R.length = k := by
          rw [← hR, List.length_append, hlk, List.length_drop]; have := HLN.out.2.1; omega
        rw [hR] at hr
        obtain ⟨g, o, hA, -, -, l0, l1, l2, l3, l4⟩ := KBx.at (See.of_row hr) hRk
        obtain ⟨g', rfl⟩ : ∃ g', A2 = some ⟨g', 0, none⟩ := by
          rcases hr.2 with ⟨h, -⟩ | ⟨g', cap, cur, h1, -⟩
          · cases h; simp at hA
          · cases h1; exact ⟨g', rfl⟩
        cases hA
        rw [Nat.zero_add] at l0 l1 l2 l3
        have i1 : (i : Int) < (k : Int) := by omega
        have HROW := Lib.hid (show KBx.row wr w1.heap.size (.slice (some ⟨g, 0, none⟩) k C2) R from hr)
        have HRN := Lib.hid (And.intro (And.intro hRk hRn) hRl)
        have HB15 := Lib.hid hb15
        have HU := Lib.hid hu
        have HK := Lib.hid (And.intro hi hlt)
        clear hb hb15 hR hlk hdk hRk hRn hRl hr l4 hi hlt hu
        cases up
        · have HS4 := Lib.hid (And.intro l0 (And.intro l1 (And.intro l0 l1)))
          clear l0 l1 l2 l3
          have wk1 : IntKind.i64.wrap (b.x1 + 16) = b.x1 + 16 := IntWalk.i64_in _ ⟨by have := HB15.out; unfold Bx.in15 at this; omega, by have := HB15.out; unfold Bx.in15 at this; omega⟩
          have wk2 : IntKind.i64.wrap (b.x2 + 16) = b.x2 + 16 := IntWalk.i64_in _ ⟨by have := HB15.out; unfold Bx.in15 at this; omega, by have := HB15.out; unfold Bx.in15 at this; omega⟩
          have HWK := Lib.hid (And.intro wk1 wk2)
          clear wk1 wk2
          go_upto_region 9 with fail
          have wk1 := HWK.out.1
          have wk2 := HWK.out.2
          obtain ⟨Wd, hWd⟩ : ∃ Wd, Wd = wr.drew := ⟨_, rfl⟩
          have hud : Upd [] wr Wd := by rw [hWd]; exact (Upd.refl _ _).drew
          have hrd : KBx.row Wd w1.heap.size (.slice (some ⟨g, 0, none⟩) k C2) R := own_upd HROW.out hud (by simp)
          have hod : Wd.ownsRow w1.heap.size 34 5 (.slice (some ⟨g, 0, none⟩) k C2) k (KBx.all R) := by have := hrd; unfold Kind.row at this; rw [HRN.out.2] at this; exact this
          have hso := own_set hod (i * 5) (.int .i64 (b.x1 + 16))
          have ht0 := own_there hod (o := i * 5) (m := 5) (by have := HK.out.2; omega)
          have ht1 := own_there hso (o := i * 5) (m := 5) (by have := HK.out.2; omega)
          have HSd := Lib.hid (show Wd.cell? ⟨g, i * 5, none⟩ = some (.int .i64 b.x1) ∧ Wd.cell? ⟨g, i * 5 + 1, none⟩ = some (.int .i64 b.x2) ∧ Wd.cell? ⟨g, i * 5, none⟩ = some (.int .i64 b.x1) ∧ Wd.cell? ⟨g, i * 5 + 1, none⟩ = some (.int .i64 b.x2) from keep4 HS4.out hud)
          have z0 := (show Wd.cell? ⟨g, i * 5, none⟩ = some (.int .i64 b.x1) from HSd.out.1)
          have zf0 : Wd.frozen? ⟨g, i * 5, none⟩ = false := (ht0 0 (by omega)).2
          obtain ⟨z1v, z1⟩ := Option.isSome_iff_exists.1 (ht1 1 (by omega)).1
          have zf1 := (ht1 1 (by omega)).2
          have hso2 := own_set hso (i * 5 + 1) (.int .i64 (b.x2 + 16))
          rw [(KBx.all_set2 (b.x1 + 16) (b.x2 + 16) (b.y1 + 16) (b.y2 + 16) R i b HRN.out.1.1).2] at hso2
          have hid0 : b.id = 0 := by have := HB15.out; unfold Bx.in15 at this; exact this.2.2.2.2
          rw [hid0] at hso2
          have HSO := Lib.hid hso2
          have HUD := Lib.hid (show Upd (blk (.slice (some ⟨g, 0, none⟩) k C2)) w2 Wd from HU.out.trans (hud.mono (by simp)))
          clear hud hrd hod hso ht0 ht1 hso2 hid0
          -- region 9: T waits for all loads; fuel 1
          refine GoT.start [16, 17, 18, 19, 20, 21] (fun w' => w'.cell? ⟨g, i * 5, none⟩ = some (.int .i64 b.x1) ∧ w'.cell? ⟨g, i * 5 + 1, none⟩ = some (.int .i64 b.x2) ∧ w'.cell? ⟨g, i * 5, none⟩ = some (.int .i64 b.x1) ∧ w'.cell? ⟨g, i * 5 + 1, none⟩ = some (.int .i64 b.x2)) (by kernel_rfl) ?_ fun hS => ?_
          · exact by rw [← hWd]; exact HSd.out
          rw [← hWd] at hS ⊢
          clear hWd
          refine' GoT.move (i := 0) (oi := ⟨some 54, _, _, _, _, _⟩) (v := _) rfl (by kernel_rfl) (by kernel_rfl) (by kernel_rfl) (fun _ _ _ h => h) (Or.inl ⟨by rfl, ?y9_0⟩) ?r9_0
          case y9_0 => intro w; go_simp <;> with_reducible rfl
          simp only [Act.put, List.setIfInBounds_toArray, List.set_cons_zero, List.set_cons_succ]
          refine' GoT.move (i := 1) (oi := ⟨some 55, _, _, _, _, _⟩) (v := _) rfl (by kernel_rfl) (by kernel_rfl) (by kernel_rfl) (fun _ _ _ h => h) (Or.inl ⟨by rfl, ?y9_1⟩) ?r9_1
          case y9_1 => intro w; go_simp <;> with_reducible rfl
          simp only [Act.put, List.setIfInBounds_toArray, List.set_cons_zero, List.set_cons_succ]
          refine' GoT.move (i := 2) (oi := ⟨some 56, _, _, _, _, _⟩) (v := _) rfl (by kernel_rfl) (by kernel_rfl) (by kernel_rfl) (fun _ _ _ h => h) (Or.inl ⟨by rfl, ?y9_2⟩) ?r9_2
          case y9_2 => intro w; go_simp <;> with_reducible rfl
          simp only [Act.put, List.setIfInBounds_toArray, List.set_cons_zero, List.set_cons_succ]
          refine' GoT.move (i := 3) (oi := ⟨some 57, _, _, _, _, _⟩) (v := _) rfl (by kernel_rfl) (by kernel_rfl) (by kernel_rfl) (fun _ _ _ h => h) (Or.inl ⟨by rfl, ?y9_3⟩) ?r9_3
          case y9_3 => intro w; go_simp <;> with_reducible rfl
          simp only [Act.put, List.setIfInBounds_toArray, List.set_cons_zero, List.set_cons_succ]
          refine' GoT.move (i := 4) (oi := ⟨some 58, _, _, _, _, _⟩) (v := _) rfl (by kernel_rfl) (by kernel_rfl) (by kernel_rfl) (fun _ _ _ h => h) (Or.inl ⟨by rfl, ?y9_4⟩) ?r9_4
          case y9_4 => intro w; go_simp <;> with_reducible rfl
          simp only [Act.put, List.setIfInBounds_toArray, List.set_cons_zero, List.set_cons_succ]
          refine' GoT.move (i := 5) (oi := ⟨some 59, _, _, _, _, _⟩) (v := _) rfl (by kernel_rfl) (by kernel_rfl) (by kernel_rfl) (fun _ _ _ h => h) (Or.inl ⟨by rfl, ?y9_5⟩) ?r9_5
          case y9_5 => intro w; go_simp <;> with_reducible rfl
          simp only [Act.put, List.setIfInBounds_toArray, List.set_cons_zero, List.set_cons_succ]
          refine' GoT.move (i := 6) (oi := ⟨some 60, _, _, _, _, _⟩) (v := _) rfl (by kernel_rfl) (by kernel_rfl) (by kernel_rfl) (fun _ _ _ h => h) (Or.inl ⟨by rfl, ?y9_6⟩) ?r9_6
          case y9_6 => intro w; go_simp <;> with_reducible rfl
          simp only [Act.put, List.setIfInBounds_toArray, List.set_cons_zero, List.set_cons_succ]
          refine' GoT.move (i := 7) (oi := ⟨some 61, _, _, _, _, _⟩) (v := _) rfl (by kernel_rfl) (by kernel_rfl) (by kernel_rfl) (fun _ _ _ h => h) (Or.inl ⟨by rfl, ?y9_7⟩) ?r9_7
          case y9_7 => intro w; go_simp <;> with_reducible rfl
          simp only [Act.put, List.setIfInBounds_toArray, List.set_cons_zero, List.set_cons_succ]
          refine' GoT.take 1 (i := 8) (oi := ⟨some 62, _, _, _, _, _⟩) (v := _) rfl (by kernel_rfl) (by kernel_rfl) (by kernel_rfl) (by kernel_rfl) (fun _ _ _ h => h) (Or.inl ⟨by rfl, ?y9_8⟩) (by assumption) ?r9_8
          case y9_8 => intro w hSw; go_simp <;> with_reducible rfl
          simp only [Act.put, List.setIfInBounds_toArray, List.set_cons_zero, List.set_cons_succ]
          refine' GoT.move (i := 9) (oi := ⟨some 63, _, _, _, _, _⟩) (v := _) rfl (by kernel_rfl) (by kernel_rfl) (by kernel_rfl) (fun _ _ _ h => h) (Or.inl ⟨by rfl, ?y9_9⟩) ?r9_9
          case y9_9 => intro w; go_simp <;> with_reducible rfl
          simp only [Act.put, List.setIfInBounds_toArray, List.set_cons_zero, List.set_cons_succ]
          refine' GoT.move (i := 10) (oi := ⟨some 64, _, _, _, _, _⟩) (v := _) rfl (by kernel_rfl) (by kernel_rfl) (by kernel_rfl) (fun _ _ _ h => h) (Or.inl ⟨by rfl, ?y9_10⟩) ?r9_10
          case y9_10 => intro w; go_simp <;> with_reducible rfl
          simp only [Act.put, List.setIfInBounds_toArray, List.set_cons_zero, List.set_cons_succ]
          refine' GoT.move (i := 11) (oi := ⟨some 65, _, _, _, _, _⟩) (v := _) rfl (by kernel_rfl) (by kernel_rfl) (by kernel_rfl) (fun _ _ _ h => h) (Or.inl ⟨by rfl, ?y9_11⟩) ?r9_11
          case y9_11 => intro w; go_simp <;> with_reducible rfl
          simp only [Act.put, List.setIfInBounds_toArray, List.set_cons_zero, List.set_cons_succ]
          refine' GoT.move (i := 12) (oi := ⟨some 66, _, _, _, _, _⟩) (v := _) rfl (by kernel_rfl) (by kernel_rfl) (by kernel_rfl) (fun _ _ _ h => h) (Or.inl ⟨by rfl, ?y9_12⟩) ?r9_12
          case y9_12 => intro w; go_simp <;> with_reducible rfl
          simp only [Act.put, List.setIfInBounds_toArray, List.set_cons_zero, List.set_cons_succ]
          refine' GoT.move (i := 13) (oi := ⟨some 67, _, _, _, _, _⟩) (v := _) rfl (by kernel_rfl) (by kernel_rfl) (by kernel_rfl) (fun _ _ _ h => h) (Or.inl ⟨by rfl, ?y9_13⟩) ?r9_13
          case y9_13 => intro w; go_simp <;> with_reducible rfl
          simp only [Act.put, List.setIfInBounds_toArray, List.set_cons_zero, List.set_cons_succ]
          refine' GoT.take 1 (i := 14) (oi := ⟨some 68, _, _, _, _, _⟩) (v := _) rfl (by kernel_rfl) (by kernel_rfl) (by kernel_rfl) (by kernel_rfl) (fun _ _ _ h => h) (Or.inl ⟨by rfl, ?y9_14⟩) (by assumption) ?r9_14
          case y9_14 => intro w hSw; go_simp <;> with_reducible rfl
          simp only [Act.put, List.setIfInBounds_toArray, List.set_cons_zero, List.set_cons_succ]
          refine' GoT.move (i := 15) (oi := ⟨some 69, _, _, _, _, _⟩) (v := _) rfl (by kernel_rfl) (by kernel_rfl) (by kernel_rfl) (fun _ _ _ h => h) (Or.inl ⟨by rfl, ?y9_15⟩) ?r9_15
          case y9_15 => intro w; go_simp <;> with_reducible rfl
          simp only [Act.put, List.setIfInBounds_toArray, List.set_cons_zero, List.set_cons_succ]
          refine' GoT.move (i := 16) (oi := ⟨some 70, _, _, _, _, _⟩) (v := _) rfl (by kernel_rfl) (by kernel_rfl) (by kernel_rfl) (fun _ _ _ h => h) (Or.inl ⟨by rfl, ?y9_16⟩) ?r9_16
          case y9_16 => intro w; go_simp <;> with_reducible rfl
          simp only [Act.put, List.setIfInBounds_toArray, List.set_cons_zero, List.set_cons_succ]
          refine' GoT.move (i := 17) (oi := ⟨some 71, _, _, _, _, _⟩) (v := _) rfl (by kernel_rfl) (by kernel_rfl) (by kernel_rfl) (fun _ _ _ h => h) (Or.inl ⟨by rfl, ?y9_17⟩) ?r9_17
          case y9_17 => intro w; go_simp <;> with_reducible rfl
          simp only [Act.put, List.setIfInBounds_toArray, List.set_cons_zero, List.set_cons_succ]
          -- 18: Go.Op.store 2 (Go.Operand.tmp 71) (Go.Operand.tmp 63)
          refine GoT.one (i := 18) (o := ⟨none, _, _, _, _, _⟩) rfl (by kernel_rfl) fun K hK => ?_
          go_simp
          refine hK.out _ _ (fun h => (by cases h)) ?_
          clear hK K
          try simp only [Act.put, List.setIfInBounds_toArray, List.set_cons_zero, List.set_cons_succ]
          clear z0 zf0
          refine' GoT.move (i := 19) (oi := ⟨some 72, _, _, _, _, _⟩) (v := _) rfl (by kernel_rfl) (by kernel_rfl) (by kernel_rfl) (fun _ _ _ h => h) (Or.inl ⟨by rfl, ?y9_19⟩) ?r9_19
          case y9_19 => intro w; go_simp <;> with_reducible rfl
          simp only [Act.put, List.setIfInBounds_toArray, List.set_cons_zero, List.set_cons_succ]
          refine' GoT.move (i := 20) (oi := ⟨some 73, _, _, _, _, _⟩) (v := _) rfl (by kernel_rfl) (by kernel_rfl) (by kernel_rfl) (fun _ _ _ h => h) (Or.inl ⟨by rfl, ?y9_20⟩) ?r9_20
          case y9_20 => intro w; go_simp <;> with_reducible rfl
          simp only [Act.put, List.setIfInBounds_toArray, List.set_cons_zero, List.set_cons_succ]
          -- 21: Go.Op.store 2 (Go.Operand.tmp 73) (Go.Operand.tmp 69)
          refine GoT.one (i := 21) (o := ⟨none, _, _, _, _, _⟩) rfl (by kernel_rfl) fun K hK => ?_
          go_simp
          refine hK.out _ _ (fun h => (by cases h)) ?_
          clear hK K
          try simp only [Act.put, List.setIfInBounds_toArray, List.set_cons_zero, List.set_cons_succ]
          refine GoT.done (by kernel_rfl) ?_
          clear wk1 wk2 z1 zf1
          go_wp2_with fail
          go_roundg (k - (i + 1))
          case measure => have := HK.out; omega
          case rel =>
            refine ⟨i + 1, by have := HK.out; omega, by go_num, ?_, (HUD.out.setCell (.inl (by simp [blk])) _).setCell (.inl (by simp [blk])) _⟩
            rw [HRN.out.1.2]
            unfold Kind.row
            rw [List.length_set, HRN.out.2]
            exact HSO.out
        · have HS4 := Lib.hid (And.intro l2 (And.intro l3 (And.intro l2 l3)))
          clear l0 l1 l2 l3
          have wk1 : IntKind.i64.wrap (b.y1 + 16) = b.y1 + 16 := IntWalk.i64_in _ ⟨by have := HB15.out; unfold Bx.in15 at this; omega, by have := HB15.out; unfold Bx.in15 at this; omega⟩
          have wk2 : IntKind.i64.wrap (b.y2 + 16) = b.y2 + 16 := IntWalk.i64_in _ ⟨by have := HB15.out; unfold Bx.in15 at this; omega, by have := HB15.out; unfold Bx.in15 at this; omega⟩
          have HWK := Lib.hid (And.intro wk1 wk2)
          clear wk1 wk2
          go_upto_region 8 with fail
          have wk1 := HWK.out.1
          have wk2 := HWK.out.2
          obtain ⟨Wd, hWd⟩ : ∃ Wd, Wd = wr.drew := ⟨_, rfl⟩
          have hud : Upd [] wr Wd := by rw [hWd]; exact (Upd.refl _ _).drew
          have hrd : KBx.row Wd w1.heap.size (.slice (some ⟨g, 0, none⟩) k C2) R := own_upd HROW.out hud (by simp)
          have hod : Wd.ownsRow w1.heap.size 34 5 (.slice (some ⟨g, 0, none⟩) k C2) k (KBx.all R) := by have := hrd; unfold Kind.row at this; rw [HRN.out.2] at this; exact this
          have hso := own_set hod (i * 5 + 2) (.int .i64 (b.y1 + 16))
          have ht0 := own_there hod (o := i * 5) (m := 5) (by have := HK.out.2; omega)
          have ht1 := own_there hso (o := i * 5) (m := 5) (by have := HK.out.2; omega)
          have HSd := Lib.hid (show Wd.cell? ⟨g, i * 5 + 2, none⟩ = some (.int .i64 b.y1) ∧ Wd.cell? ⟨g, i * 5 + 3, none⟩ = some (.int .i64 b.y2) ∧ Wd.cell? ⟨g, i * 5 + 2, none⟩ = some (.int .i64 b.y1) ∧ Wd.cell? ⟨g, i * 5 + 3, none⟩ = some (.int .i64 b.y2) from keep4 HS4.out hud)
          have z0 := (show Wd.cell? ⟨g, i * 5 + 2, none⟩ = some (.int .i64 b.y1) from HSd.out.1)
          have zf0 : Wd.frozen? ⟨g, i * 5 + 2, none⟩ = false := (ht0 2 (by omega)).2
          obtain ⟨z1v, z1⟩ := Option.isSome_iff_exists.1 (ht1 3 (by omega)).1
          have zf1 := (ht1 3 (by omega)).2
          have hso2 := own_set hso (i * 5 + 3) (.int .i64 (b.y2 + 16))
          rw [(KBx.all_set2 (b.x1 + 16) (b.x2 + 16) (b.y1 + 16) (b.y2 + 16) R i b HRN.out.1.1).1] at hso2
          have hid0 : b.id = 0 := by have := HB15.out; unfold Bx.in15 at this; exact this.2.2.2.2
          rw [hid0] at hso2
          have HSO := Lib.hid hso2
          have HUD := Lib.hid (show Upd (blk (.slice (some ⟨g, 0, none⟩) k C2)) w2 Wd from HU.out.trans (hud.mono (by simp)))
          clear hud hrd hod hso ht0 ht1 hso2 hid0
          -- region 8: T waits for all loads; fuel 1
          refine GoT.start [16, 17, 18, 19, 20, 21] (fun w' => w'.cell? ⟨g, i * 5 + 2, none⟩ = some (.int .i64 b.y1) ∧ w'.cell? ⟨g, i * 5 + 3, none⟩ = some (.int .i64 b.y2) ∧ w'.cell? ⟨g, i * 5 + 2, none⟩ = some (.int .i64 b.y1) ∧ w'.cell? ⟨g, i * 5 + 3, none⟩ = some (.int .i64 b.y2)) (by kernel_rfl) ?_ fun hS => ?_
          · exact by rw [← hWd]; exact HSd.out
          rw [← hWd] at hS ⊢
          clear hWd
          refine' GoT.move (i := 0) (oi := ⟨some 34, _, _, _, _, _⟩) (v := _) rfl (by kernel_rfl) (by kernel_rfl) (by kernel_rfl) (fun _ _ _ h => h) (Or.inl ⟨by rfl, ?y8_0⟩) ?r8_0
          case y8_0 => intro w; go_simp <;> with_reducible rfl
          simp only [Act.put, List.setIfInBounds_toArray, List.set_cons_zero, List.set_cons_succ]
          refine' GoT.move (i := 1) (oi := ⟨some 35, _, _, _, _, _⟩) (v := _) rfl (by kernel_rfl) (by kernel_rfl) (by kernel_rfl) (fun _ _ _ h => h) (Or.inl ⟨by rfl, ?y8_1⟩) ?r8_1
          case y8_1 => intro w; go_simp <;> with_reducible rfl
          simp only [Act.put, List.setIfInBounds_toArray, List.set_cons_zero, List.set_cons_succ]
          refine' GoT.move (i := 2) (oi := ⟨some 36, _, _, _, _, _⟩) (v := _) rfl (by kernel_rfl) (by kernel_rfl) (by kernel_rfl) (fun _ _ _ h => h) (Or.inl ⟨by rfl, ?y8_2⟩) ?r8_2
          case y8_2 => intro w; go_simp <;> with_reducible rfl
          simp only [Act.put, List.setIfInBounds_toArray, List.set_cons_zero, List.set_cons_succ]
          refine' GoT.move (i := 3) (oi := ⟨some 37, _, _, _, _, _⟩) (v := _) rfl (by kernel_rfl) (by kernel_rfl) (by kernel_rfl) (fun _ _ _ h => h) (Or.inl ⟨by rfl, ?y8_3⟩) ?r8_3
          case y8_3 => intro w; go_simp <;> with_reducible rfl
          simp only [Act.put, List.setIfInBounds_toArray, List.set_cons_zero, List.set_cons_succ]
          refine' GoT.move (i := 4) (oi := ⟨some 38, _, _, _, _, _⟩) (v := _) rfl (by kernel_rfl) (by kernel_rfl) (by kernel_rfl) (fun _ _ _ h => h) (Or.inl ⟨by rfl, ?y8_4⟩) ?r8_4
          case y8_4 => intro w; go_simp <;> with_reducible rfl
          simp only [Act.put, List.setIfInBounds_toArray, List.set_cons_zero, List.set_cons_succ]
          refine' GoT.move (i := 5) (oi := ⟨some 39, _, _, _, _, _⟩) (v := _) rfl (by kernel_rfl) (by kernel_rfl) (by kernel_rfl) (fun _ _ _ h => h) (Or.inl ⟨by rfl, ?y8_5⟩) ?r8_5
          case y8_5 => intro w; go_simp <;> with_reducible rfl
          simp only [Act.put, List.setIfInBounds_toArray, List.set_cons_zero, List.set_cons_succ]
          refine' GoT.move (i := 6) (oi := ⟨some 40, _, _, _, _, _⟩) (v := _) rfl (by kernel_rfl) (by kernel_rfl) (by kernel_rfl) (fun _ _ _ h => h) (Or.inl ⟨by rfl, ?y8_6⟩) ?r8_6
          case y8_6 => intro w; go_simp <;> with_reducible rfl
          simp only [Act.put, List.setIfInBounds_toArray, List.set_cons_zero, List.set_cons_succ]
          refine' GoT.move (i := 7) (oi := ⟨some 41, _, _, _, _, _⟩) (v := _) rfl (by kernel_rfl) (by kernel_rfl) (by kernel_rfl) (fun _ _ _ h => h) (Or.inl ⟨by rfl, ?y8_7⟩) ?r8_7
          case y8_7 => intro w; go_simp <;> with_reducible rfl
          simp only [Act.put, List.setIfInBounds_toArray, List.set_cons_zero, List.set_cons_succ]
          refine' GoT.take 1 (i := 8) (oi := ⟨some 42, _, _, _, _, _⟩) (v := _) rfl (by kernel_rfl) (by kernel_rfl) (by kernel_rfl) (by kernel_rfl) (fun _ _ _ h => h) (Or.inl ⟨by rfl, ?y8_8⟩) (by assumption) ?r8_8
          case y8_8 => intro w hSw; go_simp <;> with_reducible rfl
          simp only [Act.put, List.setIfInBounds_toArray, List.set_cons_zero, List.set_cons_succ]
          refine' GoT.move (i := 9) (oi := ⟨some 43, _, _, _, _, _⟩) (v := _) rfl (by kernel_rfl) (by kernel_rfl) (by kernel_rfl) (fun _ _ _ h => h) (Or.inl ⟨by rfl, ?y8_9⟩) ?r8_9
          case y8_9 => intro w; go_simp <;> with_reducible rfl
          simp only [Act.put, List.setIfInBounds_toArray, List.set_cons_zero, List.set_cons_succ]
          refine' GoT.move (i := 10) (oi := ⟨some 44, _, _, _, _, _⟩) (v := _) rfl (by kernel_rfl) (by kernel_rfl) (by kernel_rfl) (fun _ _ _ h => h) (Or.inl ⟨by rfl, ?y8_10⟩) ?r8_10
          case y8_10 => intro w; go_simp <;> with_reducible rfl
          simp only [Act.put, List.setIfInBounds_toArray, List.set_cons_zero, List.set_cons_succ]
          refine' GoT.move (i := 11) (oi := ⟨some 45, _, _, _, _, _⟩) (v := _) rfl (by kernel_rfl) (by kernel_rfl) (by kernel_rfl) (fun _ _ _ h => h) (Or.inl ⟨by rfl, ?y8_11⟩) ?r8_11
          case y8_11 => intro w; go_simp <;> with_reducible rfl
          simp only [Act.put, List.setIfInBounds_toArray, List.set_cons_zero, List.set_cons_succ]
          refine' GoT.move (i := 12) (oi := ⟨some 46, _, _, _, _, _⟩) (v := _) rfl (by kernel_rfl) (by kernel_rfl) (by kernel_rfl) (fun _ _ _ h => h) (Or.inl ⟨by rfl, ?y8_12⟩) ?r8_12
          case y8_12 => intro w; go_simp <;> with_reducible rfl
          simp only [Act.put, List.setIfInBounds_toArray, List.set_cons_zero, List.set_cons_succ]
          refine' GoT.move (i := 13) (oi := ⟨some 47, _, _, _, _, _⟩) (v := _) rfl (by kernel_rfl) (by kernel_rfl) (by kernel_rfl) (fun _ _ _ h => h) (Or.inl ⟨by rfl, ?y8_13⟩) ?r8_13
          case y8_13 => intro w; go_simp <;> with_reducible rfl
          simp only [Act.put, List.setIfInBounds_toArray, List.set_cons_zero, List.set_cons_succ]
          refine' GoT.take 1 (i := 14) (oi := ⟨some 48, _, _, _, _, _⟩) (v := _) rfl (by kernel_rfl) (by kernel_rfl) (by kernel_rfl) (by kernel_rfl) (fun _ _ _ h => h) (Or.inl ⟨by rfl, ?y8_14⟩) (by assumption) ?r8_14
          case y8_14 => intro w hSw; go_simp <;> with_reducible rfl
          simp only [Act.put, List.setIfInBounds_toArray, List.set_cons_zero, List.set_cons_succ]
          refine' GoT.move (i := 15) (oi := ⟨some 49, _, _, _, _, _⟩) (v := _) rfl (by kernel_rfl) (by kernel_rfl) (by kernel_rfl) (fun _ _ _ h => h) (Or.inl ⟨by rfl, ?y8_15⟩) ?r8_15
          case y8_15 => intro w; go_simp <;> with_reducible rfl
          simp only [Act.put, List.setIfInBounds_toArray, List.set_cons_zero, List.set_cons_succ]
          refine' GoT.move (i := 16) (oi := ⟨some 50, _, _, _, _, _⟩) (v := _) rfl (by kernel_rfl) (by kernel_rfl) (by kernel_rfl) (fun _ _ _ h => h) (Or.inl ⟨by rfl, ?y8_16⟩) ?r8_16
          case y8_16 => intro w; go_simp <;> with_reducible rfl
          simp only [Act.put, List.setIfInBounds_toArray, List.set_cons_zero, List.set_cons_succ]
          refine' GoT.move (i := 17) (oi := ⟨some 51, _, _, _, _, _⟩) (v := _) rfl (by kernel_rfl) (by kernel_rfl) (by kernel_rfl) (fun _ _ _ h => h) (Or.inl ⟨by rfl, ?y8_17⟩) ?r8_17
          case y8_17 => intro w; go_simp <;> with_reducible rfl
          simp only [Act.put, List.setIfInBounds_toArray, List.set_cons_zero, List.set_cons_succ]
          -- 18: Go.Op.store 2 (Go.Operand.tmp 51) (Go.Operand.tmp 43)
          refine GoT.one (i := 18) (o := ⟨none, _, _, _, _, _⟩) rfl (by kernel_rfl) fun K hK => ?_
          go_simp
          refine hK.out _ _ (fun h => (by cases h)) ?_
          clear hK K
          try simp only [Act.put, List.setIfInBounds_toArray, List.set_cons_zero, List.set_cons_succ]
          clear z0 zf0
          refine' GoT.move (i := 19) (oi := ⟨some 52, _, _, _, _, _⟩) (v := _) rfl (by kernel_rfl) (by kernel_rfl) (by kernel_rfl) (fun _ _ _ h => h) (Or.inl ⟨by rfl, ?y8_19⟩) ?r8_19
          case y8_19 => intro w; go_simp <;> with_reducible rfl
          simp only [Act.put, List.setIfInBounds_toArray, List.set_cons_zero, List.set_cons_succ]
          refine' GoT.move (i := 20) (oi := ⟨some 53, _, _, _, _, _⟩) (v := _) rfl (by kernel_rfl) (by kernel_rfl) (by kernel_rfl) (fun _ _ _ h => h) (Or.inl ⟨by rfl, ?y8_20⟩) ?r8_20
          case y8_20 => intro w; go_simp <;> with_reducible rfl
          simp only [Act.put, List.setIfInBounds_toArray, List.set_cons_zero, List.set_cons_succ]
          -- 21: Go.Op.store 2 (Go.Operand.tmp 53) (Go.Operand.tmp 49)
          refine GoT.one (i := 21) (o := ⟨none, _, _, _, _, _⟩) rfl (by kernel_rfl) fun K hK => ?_
          go_simp
          refine hK.out _ _ (fun h => (by cases h)) ?_
          clear hK K
          try simp only [Act.put, List.setIfInBounds_toArray, List.set_cons_zero, List.set_cons_succ]
          refine GoT.done (by kernel_rfl) ?_
          clear wk1 wk2 z1 zf1
          go_wp2_with fail
          go_roundg (k - (i + 1))
          case measure => have := HK.out; omega
          case rel =>
            refine ⟨i + 1, by have := HK.out; omega, by go_num, ?_, (HUD.out.setCell (.inl (by simp [blk])) _).setCell (.inl (by simp [blk])) _⟩
            rw [HRN.out.1.2]
            unfold Kind.row
            rw [List.length_set, HRN.out.2]
            exact HSO.out
      · obtain ⟨w0, rfl⟩ : ∃ w0 : World, w0 = wr := ⟨_, rfl⟩
        have htk : M.take i = M := List.take_of_length_le (by have := HLN.out.2.1; omega)
        have hdk : M.drop i = [] := List.drop_eq_nil_of_le (by have := HLN.out.2.1; omega)
        rw [htk, hdk, List.append_nil] at hr
        obtain ⟨iB, hiB, hB0, hB1, hB2⟩ := info_parts info_box
        have hap := apart_all HLN.out.2.2.1 HLN.out.2.2.2.1 up
        have h64 : ∀ b ∈ L ++ M.map (shB up), b.in64 := fun b hb => by
          rcases List.mem_append.1 hb with hb | hb
          · exact in15_64 (HLN.out.2.2.1 b hb)
          · obtain ⟨c, hc, rfl⟩ := List.mem_map.1 hb
            exact sh_64 (HLN.out.2.2.2.1 c hc) up
        have hNl : (M.map (shB up)).length = k := by rw [List.length_map]; exact HLN.out.2.1
        obtain ⟨N2, hN2⟩ : ∃ N, M.map (shB up) = N := ⟨_, rfl⟩
        rw [hN2] at hr hap h64 hNl
        have hW := rimA_W h64 (by rw [List.length_append, HLN.out.1, hNl]; have := HLN.out.2.2.2.2; omega)
        have hn1 := rimA_nonneg L
        have hn2 := rimA_nonneg N2
        obtain ⟨a, ha⟩ : ∃ a, (rimA L).toNat = a := ⟨_, rfl⟩
        obtain ⟨b, hb⟩ : ∃ b, (rimA N2).toNat = b := ⟨_, rfl⟩
        have hab : (rimA (L ++ N2)).toNat = a + b := by rw [hap, ← ha, ← hb]; exact Int.toNat_add hn1 hn2
        rw [hab] at hW
        obtain ⟨ah, al, av, -, -⟩ := wideV_open a
        obtain ⟨bh, bl, bv, -, -⟩ := wideV_open b
        obtain ⟨sh, sl, sv, -, -⟩ := wideV_open (a + b)
        have huw : Upd [] w w0 := H2.out.2.2.1.trans' hu (fun j hj => .inr (Nat.le_trans HZ1.out (own_ge hr j hj)))
        have hrl : KBx.row w0 w.heap.size (.slice A1 n C1) L := own_upd H2.out.1 hu (fun j hj hc => by have h1 := H2.out.2.2.2 j hj; have h2 := own_ge hr j hc; omega)
        have HSL := Lib.hid (show ∀ W, Upd [] w0 W → See KBx W (.slice A1 n C1) L from fun W hW => by have := See.of_row (own_upd hrl hW (by simp)); exact this)
        have hSM : ∀ W, Upd [] w0 W → See KBx W (.slice A2 k C2) N2 := fun W hW => by have := See.of_row (own_upd hr hW (by simp)); exact this
        have hs1 : ∀ W, Upd [] w0 W → Calls Tryz.prog 33 #[.slice A1 n C1] W fun e w' => e = .returned (.agg #[.int .u64 (ah : Int), .int .u64 (al : Int)]) ∧ Upd [] W w' := fun W hW => by
          have := sidesC (.slice A1 n C1) L W (HSL.out W hW) (by have := HLN.out.1; have := HLN.out.2.2.2.2; omega) (fun c hc => in15_64 (HLN.out.2.2.1 c hc))
          rw [ha, av] at this
          exact this
        have hs2 : ∀ W, Upd [] w0 W → Calls Tryz.prog 33 #[.slice A2 k C2] W fun e w' => e = .returned (.agg #[.int .u64 (bh : Int), .int .u64 (bl : Int)]) ∧ Upd [] W w' := fun W hW => by
          have := sidesC (.slice A2 k C2) N2 W (hSM W hW) (by have := HLN.out.2.2.2.2; omega) (fun c hc => h64 c (by simp [hc]))
          rw [hb, bv] at this
          exact this
        have hadd := fun W => wAddC a b hW W
        rw [av, bv, sv] at hadd
        have hcp : ∀ W, Upd [] w0 W → Calls Tryz.prog 16 #[.slice A1 n C1] W fun e w' => ∃ A C, e = .returned (.slice A n C) ∧ KBx.row w' W.heap.size (.slice A n C) L ∧ Upd [] W w' := fun W hW => by
          have := copyBoxes (.slice A1 n C1) L W (HSL.out W hW) (by have := HLN.out.1; have := HLN.out.2.2.2.2; omega)
          unfold CpPost at this
          rw [HLN.out.1] at this
          exact this
        have hsb : ∀ W A7 C7, See KBx W (.slice A7 (n + k) C7) (L ++ N2) → Calls Tryz.prog 33 #[.slice A7 (n + k) C7] W fun e w' => e = .returned (.agg #[.int .u64 (sh : Int), .int .u64 (sl : Int)]) ∧ Upd [] W w' := fun W A7 C7 hS => by
          have := sidesC (.slice A7 (n + k) C7) (L ++ N2) W hS (by rw [List.length_append, HLN.out.1, hNl]; have := HLN.out.2.2.2.2; omega) h64
          rw [hab, sv] at this
          exact this
        have HS1 := Lib.hid hs1
        have HS2 := Lib.hid hs2
        have HAD := Lib.hid hadd
        have HCP := Lib.hid hcp
        have HSB := Lib.hid hsb
        have HSM := Lib.hid hSM
        have HUW := Lib.hid huw
        have HNL := Lib.hid hNl
        have ni : ¬ (i : Int) < (k : Int) := by omega
        have HWN := fun W => wide_nsameR (sh : Int) (sl : Int) W
        clear htk hdk hap h64 hNl hW hn1 hn2 ha hb hab av bv sv huw hrl hSM hs1 hs2 hadd hcp hsb hr hu hi hlt hN2
        go_wp2_with fail
        (with_reducible refine (HS1.out _ (Upd.refl _ _)).mono ?_)
        rintro e w5 ⟨rfl, hu5⟩
        have HU5 := Lib.hid hu5
        clear hu5
        go_wp2_with fail
        (with_reducible refine (HS2.out _ HU5.out).mono ?_)
        rintro e w6 ⟨rfl, hu6⟩
        have HU6 := Lib.hid (HU5.out.trans hu6)
        clear hu6
        go_wp2_with fail
        (with_reducible refine (HAD.out _).mono ?_)
        rintro e w7 ⟨rfl, hu7⟩
        have HN7 := Lib.hid (heap_alloc_new w7 (.cells #[.int .u64 (sh : Int), .int .u64 (sl : Int)] 27))
        have HU7 := Lib.hid (HU6.out.trans (hu7.alloc (.cells #[.int .u64 (sh : Int), .int .u64 (sl : Int)] 27)))
        clear hu7
        go_upto_region 12 with fail
        generalize (w7.alloc (.cells #[.int .u64 (sh : Int), .int .u64 (sl : Int)] 27)) = W7 at HN7 HU7 ⊢
        generalize w7.heap.size = q at HN7 ⊢
        obtain ⟨Wd, hWd⟩ : ∃ Wd, Wd = W7.drew := ⟨_, rfl⟩
        have hud : Upd [] W7 Wd := by rw [hWd]; exact (Upd.refl _ _).drew
        have HUd := Lib.hid (HU7.out.trans hud)
        have hq := (hud.block q (lt_of_block HN7.out) (by simp)).trans HN7.out
        have HSd := Lib.hid (show Wd.cell? ⟨q, 0, none⟩ = some (.int .u64 (sh : Int)) ∧ Wd.cell? ⟨q, 1, none⟩ = some (.int .u64 (sl : Int)) ∧ Wd.cell? ⟨q, 0, none⟩ = some (.int .u64 (sh : Int)) ∧ Wd.cell? ⟨q, 1, none⟩ = some (.int .u64 (sl : Int)) from ⟨by simp [World.cell?, hq], by simp [World.cell?, hq], by simp [World.cell?, hq], by simp [World.cell?, hq]⟩)
        clear hud hq
        -- region 12: T waits for all loads; fuel 2
        refine GoT.start [9, 10] (fun w' => w'.cell? ⟨q, 0, none⟩ = some (.int .u64 (sh : Int)) ∧ w'.cell? ⟨q, 1, none⟩ = some (.int .u64 (sl : Int)) ∧ w'.cell? ⟨q, 0, none⟩ = some (.int .u64 (sh : Int)) ∧ w'.cell? ⟨q, 1, none⟩ = some (.int .u64 (sl : Int))) (by kernel_rfl) ?_ fun hS => ?_
        · exact by rw [← hWd]; exact HSd.out
        rw [← hWd] at hS ⊢
        clear hWd
        refine' GoT.move (i := 0) (oi := ⟨some 83, _, _, _, _, _⟩) (v := _) rfl (by kernel_rfl) (by kernel_rfl) (by kernel_rfl) (fun _ _ _ h => h) (Or.inl ⟨by rfl, ?y12_0⟩) ?r12_0
        case y12_0 => intro w; go_simp <;> with_reducible rfl
        simp only [Act.put, List.setIfInBounds_toArray, List.set_cons_zero, List.set_cons_succ]
        refine' GoT.move (i := 1) (oi := ⟨some 84, _, _, _, _, _⟩) (v := _) rfl (by kernel_rfl) (by kernel_rfl) (by kernel_rfl) (fun _ _ _ h => h) (Or.inl ⟨by rfl, ?y12_1⟩) ?r12_1
        case y12_1 => intro w; go_simp <;> with_reducible rfl
        simp only [Act.put, List.setIfInBounds_toArray, List.set_cons_zero, List.set_cons_succ]
        refine' GoT.move (i := 2) (oi := ⟨some 85, _, _, _, _, _⟩) (v := _) rfl (by kernel_rfl) (by kernel_rfl) (by kernel_rfl) (fun _ _ _ h => h) (Or.inl ⟨by rfl, ?y12_2⟩) ?r12_2
        case y12_2 => intro w; go_simp <;> with_reducible rfl
        simp only [Act.put, List.setIfInBounds_toArray, List.set_cons_zero, List.set_cons_succ]
        refine' GoT.move (i := 3) (oi := ⟨some 86, _, _, _, _, _⟩) (v := _) rfl (by kernel_rfl) (by kernel_rfl) (by kernel_rfl) (fun _ _ _ h => h) (Or.inl ⟨by rfl, ?y12_3⟩) ?r12_3
        case y12_3 => intro w; go_simp <;> with_reducible rfl
        simp only [Act.put, List.setIfInBounds_toArray, List.set_cons_zero, List.set_cons_succ]
        refine' GoT.move (i := 5) (oi := ⟨some 88, _, _, _, _, _⟩) (v := _) rfl (by kernel_rfl) (by kernel_rfl) (by kernel_rfl) (fun _ _ _ h => h) (Or.inl ⟨by rfl, ?y12_5⟩) ?r12_5
        case y12_5 => intro w; go_simp <;> with_reducible rfl
        simp only [Act.put, List.setIfInBounds_toArray, List.set_cons_zero, List.set_cons_succ]
        refine' GoT.take 2 (i := 8) (oi := ⟨some 91, _, _, _, _, _⟩) (v := _) rfl (by kernel_rfl) (by kernel_rfl) (by kernel_rfl) (by kernel_rfl) (fun _ _ _ h => h) (Or.inl ⟨by rfl, ?y12_8⟩) (by assumption) ?r12_8
        case y12_8 => intro w hSw; go_simp <;> with_reducible rfl
        simp only [Act.put, List.setIfInBounds_toArray, List.set_cons_zero, List.set_cons_succ]
        -- 4: Go.Op.call { callee := Go.Callee.value (Go.Operand.func 16), args := #[Go.Operand.tmp 86], argTypes := #[22] }
        refine GoT.one (i := 4) (o := ⟨some 87, _, _, _, _, _⟩) rfl (by kernel_rfl) fun K hK => ?_
        go_simp
        go_at_call 16
        (with_reducible refine (HCP.out _ HUd.out).mono ?_)
        rintro e w8 ⟨A8, C8, rfl, hr8, hu8⟩
        refine hK.out _ _ (fun _ h => ?_) ?_
        · exact keep4 h hu8
        clear hK K
        try simp only [Act.put, List.setIfInBounds_toArray, List.set_cons_zero, List.set_cons_succ]
        have HR8 := Lib.hid (And.intro (show w8.ownsRow Wd.heap.size 34 5 (.slice A8 n C8) n (KBx.all L) by have := hr8; unfold Kind.row at this; rw [HLN.out.1] at this; exact this) hu8)
        clear hr8 hu8
        -- 6: Go.Op.call { callee := Go.Callee.builtin Go.Builtin.append, args := #[Go.Operand.tmp 87, Go.Operand.tmp 88], argTypes := #[22, 22] }
        refine GoT.one (i := 6) (o := ⟨some 89, _, _, _, _, _⟩) rfl (by kernel_rfl) fun K hK => ?_
        refine step_appg (by rfl) _ _ 22 (by rfl) Wd.heap.size 34 iB (.agg #[.int .i64 0, .int .i64 0, .int .i64 0, .int .i64 0, .int .u32 0]) 5 40 Tryz.underlying22 hiB hB0 hB1 hB2 rfl (by decide) _ _ _ (by rfl) HR8.out.1 _ k (KBx.all N2) (by rfl) (show Sees w8 5 (.slice A2 k C2) k (KBx.all N2) by have := HSM.out w8 (HUd.out.trans HR8.out.2); unfold See at this; rw [HNL.out] at this; exact this) (KBx.all_one N2) (by have := HLN.out.2.2.2.2; unfold maxLen; omega) (by have := HLN.out.2.2.2.2; omega) HR8.out.2.size ?_
        intro A9 C9 w9 HP
        have HU9 := Lib.hid (show Upd [] Wd w9 from HR8.out.2.trans' HP.upd (fun j hj => .inr (own_ge HR8.out.1 j hj)))
        have HSE := Lib.hid (show See KBx w9 (.slice A9 (n + k) C9) (L ++ N2) from See.of_row (show KBx.row w9 Wd.heap.size (.slice A9 (n + k) C9) (L ++ N2) by have := HP.own; unfold Kind.row; rw [Kind.all_app, List.length_append, HLN.out.1, HNL.out]; exact this))
        clear HP
        refine hK.out _ _ (fun _ h => ?_) ?_
        · exact keep4 HSd.out HU9.out
        clear hK K
        try simp only [Act.put, List.setIfInBounds_toArray, List.set_cons_zero, List.set_cons_succ]
        -- 7: Go.Op.call { callee := Go.Callee.value (Go.Operand.func 33), args := #[Go.Operand.tmp 89], argTypes := #[22] }
        refine GoT.one (i := 7) (o := ⟨some 90, _, _, _, _, _⟩) rfl (by kernel_rfl) fun K hK => ?_
        go_simp
        go_at_call 33
        (with_reducible refine (HSB.out _ _ _ HSE.out).mono ?_)
        rintro e w10 ⟨rfl, hu10⟩
        refine hK.out _ _ (fun _ h => ?_) ?_
        · exact keep4 h hu10
        clear hK K
        try simp only [Act.put, List.setIfInBounds_toArray, List.set_cons_zero, List.set_cons_succ]
        have HU10 := Lib.hid (HUd.out.trans (HU9.out.trans hu10))
        clear hu10
        refine' GoT.move (i := 9) (oi := ⟨some 92, _, _, _, _, _⟩) (v := _) rfl (by kernel_rfl) (by kernel_rfl) (by kernel_rfl) (fun _ _ _ h => h) (Or.inl ⟨by rfl, ?y12_9⟩) ?r12_9
        case y12_9 => intro w; go_simp <;> with_reducible rfl
        simp only [Act.put, List.setIfInBounds_toArray, List.set_cons_zero, List.set_cons_succ]
        refine' GoT.move (i := 10) (oi := ⟨some 93, _, _, _, _, _⟩) (v := _) rfl (by kernel_rfl) (by kernel_rfl) (by kernel_rfl) (fun _ _ _ h => h) (Or.inl ⟨by rfl, ?y12_10⟩) ?r12_10
        case y12_10 => intro w; go_simp <;> with_reducible rfl
        simp only [Act.put, List.setIfInBounds_toArray, List.set_cons_zero, List.set_cons_succ]
        refine GoT.done (by kernel_rfl) ?_
        clear HS1 HS2 HAD HCP HSB HSM ni HWN
        have HO0 := Lib.hid (show ∀ w, Calls Tryz.prog 23 #[.int .u64 0] w fun e w' => e = .returned (.agg #[.int .u64 0, .int .u64 0]) ∧ Upd [] w w' from fun w => wOfC 0 (by decide) w)
        go_wp2_with fail
        have hnb : (n : Int) ≤ 10 := by have := HLN.out.2.2.2.2; omega
        go_loopg [96] n (fun mm s96 wr' => ∃ t, mm + t = n ∧ s96 = .int .i64 (t : Int) ∧ Upd [] w0 wr')
        case atStart => exact ⟨0, rfl, rfl, HU10.out⟩
        case round =>
          obtain ⟨t, ht, rfl, hut⟩ := hrel
          have t0 : (0 : Int) ≤ (t : Int) := Int.natCast_nonneg _
          by_cases hlt : t < n
          · have t1 : (t : Int) < (n : Int) := by omega
            obtain ⟨c, hc⟩ : ∃ c, L[t]? = some c := ⟨_, List.getElem?_eq_getElem (by have := HLN.out.1; omega)⟩
            have hc15 := HLN.out.2.2.1 c (List.mem_of_getElem? hc)
            obtain ⟨bl', ol', hA, -, -, l0, l1, l2, l3, l4⟩ := KBx.at (HSL.out wr hut) hc
            subst hA
            obtain ⟨N, hN⟩ : ∃ N, (rimA [c]).toNat = N := ⟨_, rfl⟩
            obtain ⟨nh, nl, nv, -, -⟩ := wideV_open N
            have hso : ∀ W : World, Calls Tryz.prog 33 #[.slice (some ⟨W.heap.size, 0, none⟩) 1 1] (W.alloc (.cells #[.int .i64 c.x1, .int .i64 c.x2, .int .i64 c.y1, .int .i64 c.y2, .int .u32 (c.id : Int)] 34)) fun e w' => e = .returned (.agg #[.int .u64 (nh : Int), .int .u64 (nl : Int)]) ∧ Upd [] (W.alloc (.cells #[.int .i64 c.x1, .int .i64 c.x2, .int .i64 c.y1, .int .i64 c.y2, .int .u32 (c.id : Int)] 34)) w' := fun W => by
              have := sidesC _ [c] _ (show See KBx (W.alloc (.cells #[.int .i64 c.x1, .int .i64 c.x2, .int .i64 c.y1, .int .i64 c.y2, .int .u32 (c.id : Int)] 34)) (.slice (some ⟨W.heap.size, 0, none⟩) 1 1) [c] from see_one W c) (by simp) (fun s hs => by rw [List.mem_singleton.1 hs]; exact in15_64 hc15)
              rw [hN, nv] at this
              exact this
            have HSO := Lib.hid hso
            have HC15 := Lib.hid hc15
            have HT := Lib.hid (And.intro ht hlt)
            have HNE := Lib.hid hN
            have HNV := Lib.hid nv
            have HUTW := Lib.hid hut
            have HUT := Lib.hid (hut.trans ((Upd.refl [] wr).alloc (.cells #[.int .i64 c.x1, .int .i64 c.x2, .int .i64 c.y1, .int .i64 c.y2, .int .u32 (c.id : Int)] 34)))
            have HBN := Lib.hid (BAt.new wr c)
            clear ht hlt hut hc hc15 hN nv hso
            go_upto_region 17 with fail
            clear l0 l1 l2 l3 l4
            generalize (wr.alloc (.cells #[.int .i64 c.x1, .int .i64 c.x2, .int .i64 c.y1, .int .i64 c.y2, .int .u32 (c.id : Int)] 34)) = Wb at HBN HUT ⊢
            generalize hpw : wr.heap.size = p at HBN ⊢
            have HPW := Lib.hid (show p < Wb.heap.size from HBN.out.lt)
            have HP0 := Lib.hid (show w0.heap.size ≤ p by rw [← hpw]; exact HUTW.out.size)
            clear hpw
            go_wp2_with fail
            (with_reducible refine (HO0.out _).mono ?_)
            rintro e w8 ⟨rfl, hu8⟩
            have HWN8 := Lib.hid (WAt.new w8 0 0)
            have HU8 := Lib.hid (hu8.alloc (.cells #[.int .u64 0, .int .u64 0] 27))
            have hs8 := hu8.size
            clear hu8
            go_upto_region 18 with fail
            generalize (w8.alloc (.cells #[.int .u64 0, .int .u64 0] 27)) = Wc at HWN8 HU8 ⊢
            have HPQ := Lib.hid (show p ≠ w8.heap.size ∧ w0.heap.size ≤ w8.heap.size by have h1 := HPW.out; have h2 := HP0.out; exact ⟨by omega, by omega⟩)
            generalize w8.heap.size = q2 at HWN8 HPQ ⊢
            have HB := Lib.hid (And.intro (HBN.out.upd0 HU8.out) (And.intro HWN8.out (HUT.out.trans HU8.out)))
            clear hs8
            obtain ⟨c0, c1, c2, c3, -⟩ := HB.out.1.cells
            by_cases hcn : c.counts = true
            · have hcc := hcn
              unfold Bx.counts at hcc
              simp only [decide_eq_true_eq] at hcc
              have hc15 := HC15.out
              unfold Bx.in15 at hc15
              have g1 : decide (c.x1 < c.x2) = true := decide_eq_true hcc.1
              have g2 : decide (c.y1 < c.y2) = true := decide_eq_true hcc.2
              have HCC := Lib.hid (And.intro hcc hc15)
              obtain ⟨D1, hD1⟩ := Int.eq_ofNat_of_zero_le (show 0 ≤ c.x2 - c.x1 by omega)
              obtain ⟨D2, hD2⟩ := Int.eq_ofNat_of_zero_le (show 0 ≤ c.y2 - c.y1 by omega)
              have hDb : D1 ≤ 15 ∧ D2 ≤ 15 := by omega
              have hd1 : ∀ w, Calls Tryz.prog 25 #[.int .i64 c.x1, .int .i64 c.x2] w fun e w' => e = .returned (.int .u64 (D1 : Int)) ∧ w = w' := fun w => by
                have := diffC c.x1 c.x2 w (by omega) (by omega)
                rw [show diffN c.x1 c.x2 = (D1 : Int) by unfold diffN; rw [if_neg (by omega), hD1]] at this
                exact this
              have hd2 : ∀ w, Calls Tryz.prog 25 #[.int .i64 c.y1, .int .i64 c.y2] w fun e w' => e = .returned (.int .u64 (D2 : Int)) ∧ w = w' := fun w => by
                have := diffC c.y1 c.y2 w (by omega) (by omega)
                rw [show diffN c.y1 c.y2 = (D2 : Int) by unfold diffN; rw [if_neg (by omega), hD2]] at this
                exact this
              have hNe : N = 2 * (D1 + D2) := by rw [← HNE.out, rimA_oneN HC15.out, if_pos hcn, hD1, hD2]; rfl
              have hof : ∀ w, Calls Tryz.prog 23 #[.int .u64 (N : Int)] w fun e w' => e = .returned (.agg #[.int .u64 (nh : Int), .int .u64 (nl : Int)]) ∧ Upd [] w w' := fun w => by
                have := wOfC N (by omega) w
                rw [HNV.out] at this
                exact this
              have wk1 : IntKind.u64.wrap ((D1 : Int) + (D2 : Int)) = (D1 : Int) + (D2 : Int) := by rw [u64_wrap]; omega
              have wk2 : IntKind.u64.wrap (2 * ((D1 : Int) + (D2 : Int))) = (N : Int) := by rw [u64_wrap, hNe]; omega
              have HDD := Lib.hid (And.intro hd1 (And.intro hd2 hof))
              have HWK := Lib.hid (And.intro wk1 wk2)
              clear hcc hc15 hD1 hD2 hDb hd1 hd2 hof hNe wk1 wk2 hcn
              go_upto_region 19 with fail
              clear g1 g2 c0 c1 c2 c3
              obtain ⟨Wg, hWg⟩ : ∃ Wg, Wg = Wc.drew := ⟨_, rfl⟩
              have hug : Upd [] Wc Wg := by rw [hWg]; exact (Upd.refl _ _).drew
              have HG := Lib.hid (And.intro (HB.out.1.upd0 hug) (And.intro (HB.out.2.1.upd0 hug) (HB.out.2.2.trans hug)))
              have HSg := Lib.hid (show Wg.cell? ⟨p, 0, none⟩ = some (.int .i64 c.x1) ∧ Wg.cell? ⟨p, 1, none⟩ = some (.int .i64 c.x2) ∧ Wg.cell? ⟨p, 2, none⟩ = some (.int .i64 c.y1) ∧ Wg.cell? ⟨p, 3, none⟩ = some (.int .i64 c.y2) from by
                have b1 := HG.out.1.cells
                exact ⟨b1.1, b1.2.1, b1.2.2.1, b1.2.2.2.1⟩)
              have wk1 := HWK.out.1
              have wk2 := HWK.out.2
              clear hug
              -- region 19: T waits for all loads; fuel 3
              refine GoT.start [9, 10, 11, 12, 13] (fun w' => w'.cell? ⟨p, 0, none⟩ = some (.int .i64 c.x1) ∧ w'.cell? ⟨p, 1, none⟩ = some (.int .i64 c.x2) ∧ w'.cell? ⟨p, 2, none⟩ = some (.int .i64 c.y1) ∧ w'.cell? ⟨p, 3, none⟩ = some (.int .i64 c.y2)) (by kernel_rfl) ?_ fun hS => ?_
              · exact by rw [← hWg]; exact HSg.out
              rw [← hWg] at hS ⊢
              clear hWg
              refine' GoT.move (i := 0) (oi := ⟨some 113, _, _, _, _, _⟩) (v := _) rfl (by kernel_rfl) (by kernel_rfl) (by kernel_rfl) (fun _ _ _ h => h) (Or.inl ⟨by rfl, ?y19_0⟩) ?r19_0
              case y19_0 => intro w; go_simp <;> with_reducible rfl
              simp only [Act.put, List.setIfInBounds_toArray, List.set_cons_zero, List.set_cons_succ]
              refine' GoT.take 3 (i := 1) (oi := ⟨some 114, _, _, _, _, _⟩) (v := _) rfl (by kernel_rfl) (by kernel_rfl) (by kernel_rfl) (by kernel_rfl) (fun _ _ _ h => h) (Or.inl ⟨by rfl, ?y19_1⟩) (by assumption) ?r19_1
              case y19_1 => intro w hSw; go_simp <;> with_reducible rfl
              simp only [Act.put, List.setIfInBounds_toArray, List.set_cons_zero, List.set_cons_succ]
              refine' GoT.move (i := 2) (oi := ⟨some 115, _, _, _, _, _⟩) (v := _) rfl (by kernel_rfl) (by kernel_rfl) (by kernel_rfl) (fun _ _ _ h => h) (Or.inl ⟨by rfl, ?y19_2⟩) ?r19_2
              case y19_2 => intro w; go_simp <;> with_reducible rfl
              simp only [Act.put, List.setIfInBounds_toArray, List.set_cons_zero, List.set_cons_succ]
              refine' GoT.take 3 (i := 3) (oi := ⟨some 116, _, _, _, _, _⟩) (v := _) rfl (by kernel_rfl) (by kernel_rfl) (by kernel_rfl) (by kernel_rfl) (fun _ _ _ h => h) (Or.inl ⟨by rfl, ?y19_3⟩) (by assumption) ?r19_3
              case y19_3 => intro w hSw; go_simp <;> with_reducible rfl
              simp only [Act.put, List.setIfInBounds_toArray, List.set_cons_zero, List.set_cons_succ]
              refine' GoT.move (i := 5) (oi := ⟨some 118, _, _, _, _, _⟩) (v := _) rfl (by kernel_rfl) (by kernel_rfl) (by kernel_rfl) (fun _ _ _ h => h) (Or.inl ⟨by rfl, ?y19_5⟩) ?r19_5
              case y19_5 => intro w; go_simp <;> with_reducible rfl
              simp only [Act.put, List.setIfInBounds_toArray, List.set_cons_zero, List.set_cons_succ]
              refine' GoT.take 3 (i := 6) (oi := ⟨some 119, _, _, _, _, _⟩) (v := _) rfl (by kernel_rfl) (by kernel_rfl) (by kernel_rfl) (by kernel_rfl) (fun _ _ _ h => h) (Or.inl ⟨by rfl, ?y19_6⟩) (by assumption) ?r19_6
              case y19_6 => intro w hSw; go_simp <;> with_reducible rfl
              simp only [Act.put, List.setIfInBounds_toArray, List.set_cons_zero, List.set_cons_succ]
              refine' GoT.move (i := 7) (oi := ⟨some 120, _, _, _, _, _⟩) (v := _) rfl (by kernel_rfl) (by kernel_rfl) (by kernel_rfl) (fun _ _ _ h => h) (Or.inl ⟨by rfl, ?y19_7⟩) ?r19_7
              case y19_7 => intro w; go_simp <;> with_reducible rfl
              simp only [Act.put, List.setIfInBounds_toArray, List.set_cons_zero, List.set_cons_succ]
              refine' GoT.take 3 (i := 8) (oi := ⟨some 121, _, _, _, _, _⟩) (v := _) rfl (by kernel_rfl) (by kernel_rfl) (by kernel_rfl) (by kernel_rfl) (fun _ _ _ h => h) (Or.inl ⟨by rfl, ?y19_8⟩) (by assumption) ?r19_8
              case y19_8 => intro w hSw; go_simp <;> with_reducible rfl
              simp only [Act.put, List.setIfInBounds_toArray, List.set_cons_zero, List.set_cons_succ]
              -- 4: Go.Op.call { callee := Go.Callee.value (Go.Operand.func 25), args := #[Go.Operand.tmp 114, Go.Operand.tmp 116], argTypes := #[2, 2] }
              refine GoT.one (i := 4) (o := ⟨some 117, _, _, _, _, _⟩) rfl (by kernel_rfl) fun K hK => ?_
              go_simp
              go_at_call 25
              (with_reducible refine (HDD.out.1 _).mono ?_)
              rintro e w' ⟨rfl, rfl⟩
              refine hK.out _ _ (fun _ h => ?_) ?_
              · exact h
              clear hK K
              try simp only [Act.put, List.setIfInBounds_toArray, List.set_cons_zero, List.set_cons_succ]
              -- 9: Go.Op.call { callee := Go.Callee.value (Go.Operand.func 25), args := #[Go.Operand.tmp 119, Go.Operand.tmp 121], argTypes := #[2, 2] }
              refine GoT.one (i := 9) (o := ⟨some 122, _, _, _, _, _⟩) rfl (by kernel_rfl) fun K hK => ?_
              go_simp
              go_at_call 25
              (with_reducible refine (HDD.out.2.1 _).mono ?_)
              rintro e w' ⟨rfl, rfl⟩
              refine hK.out _ _ (fun h => (by cases h)) ?_
              clear hK K
              try simp only [Act.put, List.setIfInBounds_toArray, List.set_cons_zero, List.set_cons_succ]
              refine' GoT.move (i := 10) (oi := ⟨some 123, _, _, _, _, _⟩) (v := _) rfl (by kernel_rfl) (by kernel_rfl) (by kernel_rfl) (fun _ _ _ h => h) (Or.inl ⟨by rfl, ?y19_10⟩) ?r19_10
              case y19_10 => intro w; go_simp <;> with_reducible rfl
              simp only [Act.put, List.setIfInBounds_toArray, List.set_cons_zero, List.set_cons_succ]
              refine' GoT.move (i := 11) (oi := ⟨some 124, _, _, _, _, _⟩) (v := _) rfl (by kernel_rfl) (by kernel_rfl) (by kernel_rfl) (fun _ _ _ h => h) (Or.inl ⟨by rfl, ?y19_11⟩) ?r19_11
              case y19_11 => intro w; go_simp <;> with_reducible rfl
              simp only [Act.put, List.setIfInBounds_toArray, List.set_cons_zero, List.set_cons_succ]
              -- 12: Go.Op.call { callee := Go.Callee.value (Go.Operand.func 23), args := #[Go.Operand.tmp 124], argTypes := #[25] }
              refine GoT.one (i := 12) (o := ⟨some 125, _, _, _, _, _⟩) rfl (by kernel_rfl) fun K hK => ?_
              go_simp
              go_at_call 23
              (with_reducible refine (HDD.out.2.2 _).mono ?_)
              rintro e w11 ⟨rfl, hu11⟩
              refine hK.out _ _ (fun h => (by cases h)) ?_
              clear hK K
              try simp only [Act.put, List.setIfInBounds_toArray, List.set_cons_zero, List.set_cons_succ]
              have HG1 := Lib.hid (And.intro (HG.out.1.upd0 hu11) (And.intro (HG.out.2.1.upd0 hu11) (HG.out.2.2.trans hu11)))
              clear hu11
              obtain ⟨z0, z1⟩ := HG1.out.2.1.cells
              have zf0 := HG1.out.2.1.free 0
              have zf1 := HG1.out.2.1.free 1
              -- 13: Go.Op.store 27 (Go.Operand.tmp 14) (Go.Operand.tmp 125)
              refine GoT.one (i := 13) (o := ⟨none, _, _, _, _, _⟩) rfl (by kernel_rfl) fun K hK => ?_
              go_simp
              refine hK.out _ _ (fun h => (by cases h)) ?_
              clear hK K
              try simp only [Act.put, List.setIfInBounds_toArray, List.set_cons_zero, List.set_cons_succ]
              refine GoT.done (by kernel_rfl) ?_
              clear wk1 wk2 z0 z1 zf0 zf1
              have hus : Upd [q2] w11 ((w11.setCell ⟨q2, 0, none⟩ (.int .u64 (nh : Int))).setCell ⟨q2, 1, none⟩ (.int .u64 (nl : Int))) := ((Upd.refl _ _).setCell (.inl (by simp)) _).setCell (.inl (by simp)) _
              have HZ := Lib.hid (And.intro (HG1.out.1.upd hus (by have := HPQ.out; simp; omega)) (And.intro (show WAt ((w11.setCell ⟨q2, 0, none⟩ (.int .u64 (nh : Int))).setCell ⟨q2, 1, none⟩ (.int .u64 (nl : Int))) q2 nh nl from heap_set (heap_set HG1.out.2.1 0 _) 1 _) (HG1.out.2.2.trans' hus (fun j hj => .inr (by have := HPQ.out; simp at hj; omega)))))
              clear hus
              generalize ((w11.setCell ⟨q2, 0, none⟩ (.int .u64 (nh : Int))).setCell ⟨q2, 1, none⟩ (.int .u64 (nl : Int))) = Wz at HZ ⊢
              go_upto_region 20 with fail
              obtain ⟨We, hWe⟩ : ∃ We, We = Wz.drew := ⟨_, rfl⟩
              have hue : Upd [] Wz We := by rw [hWe]; exact (Upd.refl _ _).drew
              have HSe := Lib.hid (show We.cell? ⟨p, 0, none⟩ = some (.int .i64 c.x1) ∧ We.cell? ⟨p, 1, none⟩ = some (.int .i64 c.x2) ∧ We.cell? ⟨p, 2, none⟩ = some (.int .i64 c.y1) ∧ We.cell? ⟨p, 3, none⟩ = some (.int .i64 c.y2) ∧ We.cell? ⟨p, 4, none⟩ = some (.int .u32 (c.id : Int)) ∧ We.cell? ⟨q2, 0, none⟩ = some (.int .u64 (nh : Int)) ∧ We.cell? ⟨q2, 1, none⟩ = some (.int .u64 (nl : Int)) from by
                have b1 := (HZ.out.1.upd0 hue).cells
                have b2 := (HZ.out.2.1.upd0 hue).cells
                exact ⟨b1.1, b1.2.1, b1.2.2.1, b1.2.2.2.1, b1.2.2.2.2, b2.1, b2.2⟩)
              have HUe := Lib.hid (HZ.out.2.2.trans hue)
              have HWN := fun W => wide_nsameR (nh : Int) (nl : Int) W
              clear hue
              -- region 20: T waits for all loads; fuel 3
              refine GoT.start [4] (fun w' => w'.cell? ⟨p, 0, none⟩ = some (.int .i64 c.x1) ∧ w'.cell? ⟨p, 1, none⟩ = some (.int .i64 c.x2) ∧ w'.cell? ⟨p, 2, none⟩ = some (.int .i64 c.y1) ∧ w'.cell? ⟨p, 3, none⟩ = some (.int .i64 c.y2) ∧ w'.cell? ⟨p, 4, none⟩ = some (.int .u32 (c.id : Int)) ∧ w'.cell? ⟨q2, 0, none⟩ = some (.int .u64 (nh : Int)) ∧ w'.cell? ⟨q2, 1, none⟩ = some (.int .u64 (nl : Int))) (by kernel_rfl) ?_ fun hS => ?_
              · exact by rw [← hWe]; exact HSe.out
              rw [← hWe] at hS ⊢
              clear hWe
              refine' GoT.take 3 (i := 0) (oi := ⟨some 126, _, _, _, _, _⟩) (v := _) rfl (by kernel_rfl) (by kernel_rfl) (by kernel_rfl) (by kernel_rfl) (fun _ _ _ h => h) (Or.inl ⟨by rfl, ?y20_0⟩) (by assumption) ?r20_0
              case y20_0 => intro w hSw; go_simp <;> with_reducible rfl
              simp only [Act.put, List.setIfInBounds_toArray, List.set_cons_zero, List.set_cons_succ]
              refine' GoT.take 3 (i := 3) (oi := ⟨some 129, _, _, _, _, _⟩) (v := _) rfl (by kernel_rfl) (by kernel_rfl) (by kernel_rfl) (by kernel_rfl) (fun _ _ _ h => h) (Or.inl ⟨by rfl, ?y20_3⟩) (by assumption) ?r20_3
              case y20_3 => intro w hSw; go_simp <;> with_reducible rfl
              simp only [Act.put, List.setIfInBounds_toArray, List.set_cons_zero, List.set_cons_succ]
              -- 1: Go.Op.buildSlice 22 1 #[(0, Go.Operand.tmp 126)]
              refine GoT.one (i := 1) (o := ⟨some 127, _, _, _, _, _⟩) rfl (by kernel_rfl) fun K hK => ?_
              go_simp
              refine hK.out _ _ (fun _ h => ?_) ?_
              · exact keep7 h ((Upd.refl _ _).alloc _)
              clear hK K
              try simp only [Act.put, List.setIfInBounds_toArray, List.set_cons_zero, List.set_cons_succ]
              -- 2: Go.Op.call { callee := Go.Callee.value (Go.Operand.func 33), args := #[Go.Operand.tmp 127], argTypes := #[22] }
              refine GoT.one (i := 2) (o := ⟨some 128, _, _, _, _, _⟩) rfl (by kernel_rfl) fun K hK => ?_
              go_simp
              go_at_call 33
              (with_reducible refine (HSO.out _).mono ?_)
              rintro e w12 ⟨rfl, hu12⟩
              refine hK.out _ _ (fun _ h => ?_) ?_
              · exact keep7 h hu12
              clear hK K
              try simp only [Act.put, List.setIfInBounds_toArray, List.set_cons_zero, List.set_cons_succ]
              have HU12 := Lib.hid (HUe.out.trans (((Upd.refl _ _).alloc _).trans hu12))
              clear hu12
              refine' GoT.move (i := 4) (oi := ⟨some 130, _, _, _, _, _⟩) (v := _) rfl (by kernel_rfl) (by kernel_rfl) (by kernel_rfl) (fun _ _ _ h => h) (Or.inl ⟨by rfl, ?y20_4⟩) ?r20_4
              case y20_4 => intro w; go_simp <;> with_reducible rfl
              simp only [Act.put, List.setIfInBounds_toArray, List.set_cons_zero, List.set_cons_succ]
              refine GoT.done (by kernel_rfl) ?_
              clear HWN
              go_wp2_with fail
              go_roundg (n - (t + 1))
              case measure => have := HT.out; omega
              case rel => exact ⟨t + 1, by have := HT.out; omega, by go_num, HU12.out⟩
            · have hcf := hcn
              unfold Bx.counts at hcf
              simp only [decide_eq_true_eq] at hcf
              have hNe : N = 0 := by rw [← HNE.out, rimA_oneN HC15.out, if_neg hcn]
              have hz : nh = 0 ∧ nl = 0 := by
                have h1 := HNV.out
                rw [hNe] at h1
                unfold wideV at h1
                simp at h1
                omega
              obtain ⟨rfl, rfl⟩ := hz
              obtain ⟨g1v, g1⟩ : ∃ v, decide (c.x1 < c.x2) = v := ⟨_, rfl⟩
              obtain ⟨g2v, g2⟩ : ∃ v, decide (c.y1 < c.y2) = v := ⟨_, rfl⟩
              have hgg : g1v = false ∨ (g1v = true ∧ g2v = false) := by
                cases g1v
                · left; rfl
                · right
                  refine ⟨rfl, ?_⟩
                  rw [← g2, decide_eq_false_iff_not]
                  rw [decide_eq_true_eq] at g1
                  omega
              have HZ := Lib.hid (show BAt Wc p c ∧ WAt Wc q2 ((0 : Nat) : Int) ((0 : Nat) : Int) ∧ Upd [] w0 Wc from HB.out)
              obtain ⟨Wz, hWz⟩ : ∃ Wz : World, Wz = Wc := ⟨_, rfl⟩
              subst hWz
              clear hcf hNe hcn
              rcases hgg with rfl | ⟨rfl, rfl⟩
              · go_upto_region 20 with fail
                clear c0 c1 c2 c3 g1 g2
                obtain ⟨We, hWe⟩ : ∃ We, We = Wz.drew := ⟨_, rfl⟩
                have hue : Upd [] Wz We := by rw [hWe]; exact (Upd.refl _ _).drew
                have HSe := Lib.hid (show We.cell? ⟨p, 0, none⟩ = some (.int .i64 c.x1) ∧ We.cell? ⟨p, 1, none⟩ = some (.int .i64 c.x2) ∧ We.cell? ⟨p, 2, none⟩ = some (.int .i64 c.y1) ∧ We.cell? ⟨p, 3, none⟩ = some (.int .i64 c.y2) ∧ We.cell? ⟨p, 4, none⟩ = some (.int .u32 (c.id : Int)) ∧ We.cell? ⟨q2, 0, none⟩ = some (.int .u64 0) ∧ We.cell? ⟨q2, 1, none⟩ = some (.int .u64 0) from by
                  have b1 := (HZ.out.1.upd0 hue).cells
                  have b2 := (HZ.out.2.1.upd0 hue).cells
                  exact ⟨b1.1, b1.2.1, b1.2.2.1, b1.2.2.2.1, b1.2.2.2.2, b2.1, b2.2⟩)
                have HUe := Lib.hid (HZ.out.2.2.trans hue)
                have HWN := fun W => wide_nsameR 0 0 W
                clear hue
                -- region 20: T waits for all loads; fuel 3
                refine GoT.start [4] (fun w' => w'.cell? ⟨p, 0, none⟩ = some (.int .i64 c.x1) ∧ w'.cell? ⟨p, 1, none⟩ = some (.int .i64 c.x2) ∧ w'.cell? ⟨p, 2, none⟩ = some (.int .i64 c.y1) ∧ w'.cell? ⟨p, 3, none⟩ = some (.int .i64 c.y2) ∧ w'.cell? ⟨p, 4, none⟩ = some (.int .u32 (c.id : Int)) ∧ w'.cell? ⟨q2, 0, none⟩ = some (.int .u64 0) ∧ w'.cell? ⟨q2, 1, none⟩ = some (.int .u64 0)) (by kernel_rfl) ?_ fun hS => ?_
                · exact by rw [← hWe]; exact HSe.out
                rw [← hWe] at hS ⊢
                clear hWe
                refine' GoT.take 3 (i := 0) (oi := ⟨some 126, _, _, _, _, _⟩) (v := _) rfl (by kernel_rfl) (by kernel_rfl) (by kernel_rfl) (by kernel_rfl) (fun _ _ _ h => h) (Or.inl ⟨by rfl, ?y20_0b⟩) (by assumption) ?r20_0b
                case y20_0b => intro w hSw; go_simp <;> with_reducible rfl
                simp only [Act.put, List.setIfInBounds_toArray, List.set_cons_zero, List.set_cons_succ]
                refine' GoT.take 3 (i := 3) (oi := ⟨some 129, _, _, _, _, _⟩) (v := _) rfl (by kernel_rfl) (by kernel_rfl) (by kernel_rfl) (by kernel_rfl) (fun _ _ _ h => h) (Or.inl ⟨by rfl, ?y20_3b⟩) (by assumption) ?r20_3b
                case y20_3b => intro w hSw; go_simp <;> with_reducible rfl
                simp only [Act.put, List.setIfInBounds_toArray, List.set_cons_zero, List.set_cons_succ]
                -- 1: Go.Op.buildSlice 22 1 #[(0, Go.Operand.tmp 126)]
                refine GoT.one (i := 1) (o := ⟨some 127, _, _, _, _, _⟩) rfl (by kernel_rfl) fun K hK => ?_
                go_simp
                refine hK.out _ _ (fun _ h => ?_) ?_
                · exact keep7 h ((Upd.refl _ _).alloc _)
                clear hK K
                try simp only [Act.put, List.setIfInBounds_toArray, List.set_cons_zero, List.set_cons_succ]
                -- 2: Go.Op.call { callee := Go.Callee.value (Go.Operand.func 33), args := #[Go.Operand.tmp 127], argTypes := #[22] }
                refine GoT.one (i := 2) (o := ⟨some 128, _, _, _, _, _⟩) rfl (by kernel_rfl) fun K hK => ?_
                go_simp
                go_at_call 33
                (with_reducible refine (HSO.out _).mono ?_)
                rintro e w12 ⟨rfl, hu12⟩
                refine hK.out _ _ (fun _ h => ?_) ?_
                · exact keep7 h hu12
                clear hK K
                try simp only [Act.put, List.setIfInBounds_toArray, List.set_cons_zero, List.set_cons_succ]
                have HU12 := Lib.hid (HUe.out.trans (((Upd.refl _ _).alloc _).trans hu12))
                clear hu12
                refine' GoT.move (i := 4) (oi := ⟨some 130, _, _, _, _, _⟩) (v := _) rfl (by kernel_rfl) (by kernel_rfl) (by kernel_rfl) (fun _ _ _ h => h) (Or.inl ⟨by rfl, ?y20_4b⟩) ?r20_4b
                case y20_4b => intro w; go_simp <;> with_reducible rfl
                simp only [Act.put, List.setIfInBounds_toArray, List.set_cons_zero, List.set_cons_succ]
                refine GoT.done (by kernel_rfl) ?_
                clear HWN
                go_wp2_with fail
                go_roundg (n - (t + 1))
                case measure => have := HT.out; omega
                case rel => exact ⟨t + 1, by have := HT.out; omega, by go_num, HU12.out⟩
              · go_upto_region 20 with fail
                clear c0 c1 c2 c3 g1 g2
                obtain ⟨We, hWe⟩ : ∃ We, We = Wz.drew := ⟨_, rfl⟩
                have hue : Upd [] Wz We := by rw [hWe]; exact (Upd.refl _ _).drew
                have HSe := Lib.hid (show We.cell? ⟨p, 0, none⟩ = some (.int .i64 c.x1) ∧ We.cell? ⟨p, 1, none⟩ = some (.int .i64 c.x2) ∧ We.cell? ⟨p, 2, none⟩ = some (.int .i64 c.y1) ∧ We.cell? ⟨p, 3, none⟩ = some (.int .i64 c.y2) ∧ We.cell? ⟨p, 4, none⟩ = some (.int .u32 (c.id : Int)) ∧ We.cell? ⟨q2, 0, none⟩ = some (.int .u64 0) ∧ We.cell? ⟨q2, 1, none⟩ = some (.int .u64 0) from by
                  have b1 := (HZ.out.1.upd0 hue).cells
                  have b2 := (HZ.out.2.1.upd0 hue).cells
                  exact ⟨b1.1, b1.2.1, b1.2.2.1, b1.2.2.2.1, b1.2.2.2.2, b2.1, b2.2⟩)
                have HUe := Lib.hid (HZ.out.2.2.trans hue)
                have HWN := fun W => wide_nsameR 0 0 W
                clear hue
                -- region 20: T waits for all loads; fuel 3
                refine GoT.start [4] (fun w' => w'.cell? ⟨p, 0, none⟩ = some (.int .i64 c.x1) ∧ w'.cell? ⟨p, 1, none⟩ = some (.int .i64 c.x2) ∧ w'.cell? ⟨p, 2, none⟩ = some (.int .i64 c.y1) ∧ w'.cell? ⟨p, 3, none⟩ = some (.int .i64 c.y2) ∧ w'.cell? ⟨p, 4, none⟩ = some (.int .u32 (c.id : Int)) ∧ w'.cell? ⟨q2, 0, none⟩ = some (.int .u64 0) ∧ w'.cell? ⟨q2, 1, none⟩ = some (.int .u64 0)) (by kernel_rfl) ?_ fun hS => ?_
                · exact by rw [← hWe]; exact HSe.out
                rw [← hWe] at hS ⊢
                clear hWe
                refine' GoT.take 3 (i := 0) (oi := ⟨some 126, _, _, _, _, _⟩) (v := _) rfl (by kernel_rfl) (by kernel_rfl) (by kernel_rfl) (by kernel_rfl) (fun _ _ _ h => h) (Or.inl ⟨by rfl, ?y20_0c⟩) (by assumption) ?r20_0c
                case y20_0c => intro w hSw; go_simp <;> with_reducible rfl
                simp only [Act.put, List.setIfInBounds_toArray, List.set_cons_zero, List.set_cons_succ]
                refine' GoT.take 3 (i := 3) (oi := ⟨some 129, _, _, _, _, _⟩) (v := _) rfl (by kernel_rfl) (by kernel_rfl) (by kernel_rfl) (by kernel_rfl) (fun _ _ _ h => h) (Or.inl ⟨by rfl, ?y20_3c⟩) (by assumption) ?r20_3c
                case y20_3c => intro w hSw; go_simp <;> with_reducible rfl
                simp only [Act.put, List.setIfInBounds_toArray, List.set_cons_zero, List.set_cons_succ]
                -- 1: Go.Op.buildSlice 22 1 #[(0, Go.Operand.tmp 126)]
                refine GoT.one (i := 1) (o := ⟨some 127, _, _, _, _, _⟩) rfl (by kernel_rfl) fun K hK => ?_
                go_simp
                refine hK.out _ _ (fun _ h => ?_) ?_
                · exact keep7 h ((Upd.refl _ _).alloc _)
                clear hK K
                try simp only [Act.put, List.setIfInBounds_toArray, List.set_cons_zero, List.set_cons_succ]
                -- 2: Go.Op.call { callee := Go.Callee.value (Go.Operand.func 33), args := #[Go.Operand.tmp 127], argTypes := #[22] }
                refine GoT.one (i := 2) (o := ⟨some 128, _, _, _, _, _⟩) rfl (by kernel_rfl) fun K hK => ?_
                go_simp
                go_at_call 33
                (with_reducible refine (HSO.out _).mono ?_)
                rintro e w12 ⟨rfl, hu12⟩
                refine hK.out _ _ (fun _ h => ?_) ?_
                · exact keep7 h hu12
                clear hK K
                try simp only [Act.put, List.setIfInBounds_toArray, List.set_cons_zero, List.set_cons_succ]
                have HU12 := Lib.hid (HUe.out.trans (((Upd.refl _ _).alloc _).trans hu12))
                clear hu12
                refine' GoT.move (i := 4) (oi := ⟨some 130, _, _, _, _, _⟩) (v := _) rfl (by kernel_rfl) (by kernel_rfl) (by kernel_rfl) (fun _ _ _ h => h) (Or.inl ⟨by rfl, ?y20_4c⟩) ?r20_4c
                case y20_4c => intro w; go_simp <;> with_reducible rfl
                simp only [Act.put, List.setIfInBounds_toArray, List.set_cons_zero, List.set_cons_succ]
                refine GoT.done (by kernel_rfl) ?_
                clear HWN
                go_wp2_with fail
                go_roundg (n - (t + 1))
                case measure => have := HT.out; omega
                case rel => exact ⟨t + 1, by have := HT.out; omega, by go_num, HU12.out⟩
          · have HUT := Lib.hid hut
            have ti : ¬ (t : Int) < (n : Int) := by omega
            clear hut ht hlt
            go_wp2_with fail
            (with_reducible refine (awake18 _).mono ?_)
            rintro e w13 ⟨rfl, hu13⟩
            have HU13 := Lib.hid (HUW.out.trans (HUT.out.trans hu13))
            clear hu13
            go_wp2_with fail
            go_ret
            exact ⟨rfl, HU13.out.below⟩
end Go.Proofs.YtokpdocabmaagaaGreat
