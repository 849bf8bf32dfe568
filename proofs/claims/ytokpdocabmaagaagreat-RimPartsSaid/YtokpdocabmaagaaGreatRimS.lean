/- rim.steps: a sweep's steps, one by one. -/
import Derived.Test.YtokpdocabmaagaaGreatRangeU
import Derived.Test.YtokpdocabmaagaaGreatRimSt
import Derived.Test.YtokpdocabmaagaaGreatRimR
import Derived.Test.YtokpdocabmaagaaGreatAreaA
import Derived.Shelf.RegionOpen
namespace Go.Proofs.YtokpdocabmaagaaGreat
open Go.RowKit

theorem turns_get : ∀ (l : List Bx), (∀ b ∈ l, b.counts = true) → (turnsL l).length = 2 * l.length ∧ ∀ i, i < (turnsL l).length → ∃ b, l[i / 2]? = some b ∧ (turnsL l)[i]? = some (if i % 2 = 0 then ⟨b.x1, b, false⟩ else ⟨b.x2, b, true⟩)
  | [], _ => ⟨rfl, fun i h => by simp [turnsL] at h⟩
  | b :: r, h => by
    obtain ⟨h1, h2⟩ := turns_get r fun x hx => h x (by simp [hx])
    have e : turnsL (b :: r) = ⟨b.x1, b, false⟩ :: ⟨b.x2, b, true⟩ :: turnsL r := by
      unfold turnsL
      rw [List.filter_cons, if_pos (h b (by simp))]
      rfl
    rw [e]
    refine ⟨by simp only [List.length_cons, h1]; omega, fun i hi => ?_⟩
    match i with
    | 0 => exact ⟨b, rfl, rfl⟩
    | 1 => exact ⟨b, rfl, rfl⟩
    | i + 2 =>
      obtain ⟨c, h3, h4⟩ := h2 i (by simpa using hi)
      refine ⟨c, ?_, ?_⟩
      · rw [show (i + 2) / 2 = i / 2 + 1 by omega, List.getElem?_cons_succ]; exact h3
      · rw [show (i + 2) % 2 = i % 2 by omega, List.getElem?_cons_succ, List.getElem?_cons_succ]; exact h4

/-- Two rows, apart. -/
structure Duo (B : Nat) (w : World) (kv : Value) (T : List Tn) (mv : Value) (M : List Int) : Prop where
  rk : KK.row w B kv (keysT T)
  rm : KL.row w B mv M
  km : ∀ k ∈ blk kv, k ∉ blk mv

theorem Duo.upd0 {B : Nat} {w w' : World} {kv mv : Value} {T : List Tn} {M : List Int} (h : Duo B w kv T mv M) (hu : Upd [] w w') : Duo B w' kv T mv M :=
  ⟨own_upd h.rk hu (by simp), own_upd h.rm hu (by simp), h.km⟩

theorem turns_x64 {l : List Bx} (hb : ∀ b ∈ l, b.in64) {t : Tn} (ht : t ∈ turnsL l) : -9223372036854775808 ≤ t.x ∧ t.x ≤ 9223372036854775807 := by
  have hx := (mem_turnsX t.x).1 (List.mem_map.2 ⟨t, ht, rfl⟩)
  unfold linX at hx
  obtain ⟨b, h1, h2⟩ := List.mem_flatMap.1 hx
  have h3 := hb b (List.mem_filter.1 h1).1
  unfold Bx.in64 at h3
  simp at h2
  rcases h2 with h2 | h2 <;> rw [h2]
  · exact h3.1
  · exact h3.2.1

theorem legal_take {l : List Bx} {Y : List Int} {T : List Tn} (hY : sqz (linY l) = Y) (hp : T.Perm (turnsL l)) (hs : T.Pairwise (fun s t => s.x ≤ t.x)) {j : Nat} (hj : j < T.length) : Legal l ((stepsL Y T).take j ++ [stepK Y T j]) := by
  rw [← steps_take Y T hj]
  refine ⟨T, hp, hs, ?_⟩
  rw [hY, List.length_take, steps_len, Nat.min_eq_left (by omega)]

theorem longX_diff {T : List Tn} (hs : T.Pairwise (fun s t => s.x ≤ t.x)) {j : Nat} {t u : Tn} (ht : T[j]? = some t) (hu : T[j + 1]? = some u) : diffN t.x u.x = (longX T j : Int) := by
  have htu := (turn_le hs ht).2 u (List.mem_of_getElem? (i := 1) (by rw [List.getElem?_drop]; exact hu))
  have et : mf (T.map Tn.x) j = t.x := by unfold mf; rw [List.getElem?_map, ht]; rfl
  have eu : mf (T.map Tn.x) (j + 1) = u.x := by unfold mf; rw [List.getElem?_map, hu]; rfl
  have hlt : j + 1 < T.length := by
    rcases Nat.lt_or_ge (j + 1) T.length with h | h
    · exact h
    · rw [List.getElem?_eq_none h] at hu; cases hu
  unfold longX diffN
  rw [if_pos hlt, et, eu]
  split <;> omega

theorem longX_last {T : List Tn} {j : Nat} (h : ¬ j + 1 < T.length) : longX T j = 0 := by unfold longX; rw [if_neg h]

def encS (s : Nat × Nat × Nat) : Array Value := #[.agg #[.int .i64 (s.1 : Int), .int .u64 (s.2.1 : Int), .int .i64 (s.2.2 : Int)]]

theorem stepsMk (A : Option Addr) (n C : Nat) (w : World) : Calls Tryz.prog 58 #[.slice A n C] w fun e w' => e = .returned (.func (.func 88) #[] #[.pointer (some ⟨w.heap.size, 0, none⟩)]) ∧ w' = w.alloc (.cells #[.slice A n C] 87) := by
  go_enter Tryz.func58, Tryz.ntmps58
  go_wp2
  go_ret
  exact ⟨rfl, rfl⟩

/-- What the sweep leans on between two steps. -/
structure SwSt (w : World) (B0 B p : Nat) (kv pv fv : Value) (K : List (Int × Nat)) (P : List Nat) (l : List Bx) : Prop where
  rk : KK.row w B0 kv K
  sp : See KN w pv P
  rf : KFl.row w B fv l
  cp : w.cell? ⟨p, 0, none⟩ = some fv

theorem SwSt.upd {w w' : World} {B0 B p : Nat} {kv pv fv : Value} {K : List (Int × Nat)} {P : List Nat} {l : List Bx} (h : SwSt w B0 B p kv pv fv K P l) {G : List Nat} (hu : Upd G w w')
    (h1 : ∀ k ∈ blk kv, k ∉ G) (h2 : ∀ k ∈ blk pv, k ∉ G) (h3 : ∀ k ∈ blk fv, k ∉ G) (h4 : p ∉ G) : SwSt w' B0 B p kv pv fv K P l :=
  ⟨own_upd h.rk hu h1, h.sp.upd hu fun _ k hk _ => h2 k hk, own_upd h.rf hu h3, (hu.cell (p := ⟨p, 0, none⟩) (World.block_lt_of_cell? w _ h.cp) h4).trans h.cp⟩
theorem SwSt.upd0 {w w' : World} {B0 B p : Nat} {kv pv fv : Value} {K : List (Int × Nat)} {P : List Nat} {l : List Bx} (h : SwSt w B0 B p kv pv fv K P l) (hu : Upd [] w w') : SwSt w' B0 B p kv pv fv K P l :=
  h.upd hu (by simp) (by simp) (by simp) (by simp)

set_option maxRecDepth 100000 in
set_option maxHeartbeats 8000000 in
theorem stepsC (A : Option Addr) (C : Nat) (l : List Bx) (w : World) (p B : Nat) (hp : w.cell? ⟨p, 0, none⟩ = some (.slice A l.length C)) (hpB : B ≤ p) (hrow : KFl.row w B (.slice A l.length C) l) (hl : l.length < 100000) (hb : ∀ b ∈ l, b.in64) (hc : ∀ b ∈ l, b.counts = true) :
    SeqOwn Tryz.prog 88 #[.pointer (some ⟨p, 0, none⟩)] encS (Full l) (Legal l) B w := by
  intro n rid J W hW hr1 hr2 hJ hY h0
  refine callsIn_wide.2 ?_
  obtain ⟨iK, hiK, hK0, hK1, hK2⟩ := info_parts info_key
  obtain ⟨iM, hiM, hM0, hM1, hM2⟩ := info_parts info_int64T
  have hpw : p < w.heap.size := World.block_lt_of_cell? w _ hp
  have hcp := (hW.cell (p := ⟨p, 0, none⟩) hpw (by simp)).trans hp
  have hrf : KFl.row W B (.slice A l.length C) l := own_upd hrow hW (by simp)
  have hfw : ∀ k ∈ blk (.slice A l.length C), B ≤ k ∧ k < w.heap.size := fun k hk => ⟨own_ge hrow k hk, own_lt hrow k hk⟩
  have hM := marks_ok hb hl
  obtain ⟨hU2, hUg⟩ := turns_get l hc
  have htl := turns_len l
  obtain ⟨B0, hB0⟩ : ∃ B0, W.heap.size = B0 := ⟨_, rfl⟩
  have HPW := Lib.hid (And.intro hpB hpw)
  have HCP := Lib.hid hcp
  have HRF := Lib.hid hrf
  have HFW := Lib.hid hfw
  have HM := Lib.hid hM
  have HUG := Lib.hid (And.intro hU2 (And.intro hUg htl))
  have HL := Lib.hid hl
  have HBBX := Lib.hid hb
  have HB0 := Lib.hid hB0
  have HCNT := Lib.hid hc
  have HRID := Lib.hid (And.intro hr1 hr2)
  have HJ := Lib.hid hJ
  have HY := Lib.hid hY
  have HJ0 := Lib.hid h0
  have hll : (l.length : Int) < 100000 := by omega
  clear hp hpB hrow hl hb hc hW hr1 hr2 hJ hY h0 hpw hcp hrf hfw hM hU2 hUg htl hB0
  have hc0 := HCP.out
  go_enter Tryz.func88, Tryz.ntmps88
  go_wp2_with fail
  clear hc0
  go_loopg [3, 4, 18] l.length (fun m s3 s4 s18 wr => ∃ k Ak Ck Am Cm, m + k = l.length ∧ s3 = .slice Ak (keysT (turnsL (l.take k))).length Ck ∧ s4 = .slice Am (linY (l.take k)).length Cm ∧ s18 = .int .i64 (k : Int) ∧
    Duo B0 wr (.slice Ak (keysT (turnsL (l.take k))).length Ck) (turnsL (l.take k)) (.slice Am (linY (l.take k)).length Cm) (linY (l.take k)) ∧ Upd [] W wr)
  case atStart => exact ⟨0, none, 0, none, 0, rfl, rfl, rfl, rfl, ⟨World.ownsRow_nil _ _ _ _, World.ownsRow_nil _ _ _ _, by simp [blk]⟩, Upd.refl _ _⟩
  case round =>
    obtain ⟨k, Ak, Ck, Am, Cm, hk, rfl, rfl, rfl, ht, hu⟩ := hrel
    have b0 : (0 : Int) ≤ (k : Int) := Int.natCast_nonneg _
    by_cases hlt : k < l.length
    · obtain ⟨b, hb⟩ : ∃ b, l[k]? = some b := ⟨_, List.getElem?_eq_getElem hlt⟩
      have hcb : b.counts = true := HCNT.out b (List.mem_of_getElem? hb)
      obtain ⟨bl, ol, hA, -, -, l0, l1, l2, l3⟩ := KFl.at ((See.of_row HRF.out).upd0 hu) hb
      subst hA
      have htt := turns_take l hb
      have hty := linY_take l hb
      rw [if_pos hcb] at htt hty
      have hlen := turns_len (l.take k)
      have htl : (l.take k).length ≤ l.length := by rw [List.length_take]; omega
      obtain ⟨T, hT⟩ : ∃ T, turnsL (l.take k) = T := ⟨_, rfl⟩
      obtain ⟨M, hM⟩ : ∃ M, linY (l.take k) = M := ⟨_, rfl⟩
      rw [hT] at htt ht hlen ⊢
      rw [hM] at hty ht hlen ⊢
      obtain ⟨x1, x2, y1, y2, bi⟩ := b
      dsimp only at l0 l1 l2 l3 htt hty
      have hkl : (keysT T).length = T.length := keys_len T
      have b1 : (k : Int) < (l.length : Int) := by omega
      have HT := Lib.hid ht
      have HTT := Lib.hid htt
      have HTY := Lib.hid hty
      have HLN := Lib.hid (show M.length < 900000 ∧ (keysT T).length < 900000 by have := HL.out; omega)
      have HU := Lib.hid hu
      have HK := Lib.hid (And.intro hk hlt)
      have hua : Upd [] wr (wr.alloc (.cells #[.int .i64 x1, .int .i64 x2, .int .i64 y1, .int .i64 y2] 141)) := (Upd.refl _ _).alloc _
      have hbx : (wr.alloc (.cells #[.int .i64 x1, .int .i64 x2, .int .i64 y1, .int .i64 y2] 141)).heap[wr.heap.size]? = some (.cells #[.int .i64 x1, .int .i64 x2, .int .i64 y1, .int .i64 y2] 141 (0, 0)) := heap_alloc_new _ _
      have HUA := Lib.hid hua
      have HBX := Lib.hid hbx
      clear ht htt hty hlen htl hu hk hlt hT hM hkl hua hbx hb hcb
      go_upto_region 5 with fail
      have HTb := Lib.hid (HT.out.upd0 HUA.out)
      have HQN := Lib.hid (show ∀ j ∈ blk (.slice Ak (keysT T).length Ck), j < wr.heap.size from own_lt HT.out.rk)
      have HUb := Lib.hid (HU.out.trans HUA.out)
      generalize (wr.alloc (.cells #[.int .i64 x1, .int .i64 x2, .int .i64 y1, .int .i64 y2] 141)) = Wb at HBX HTb HUb HUA ⊢
      generalize wr.heap.size = q at HBX HQN ⊢
      have c0 : Wb.cell? ⟨q, 0, none⟩ = some (.int .i64 x1) := by have := HBX.out; simp [World.cell?, this]
      have c1 : Wb.cell? ⟨q, 1, none⟩ = some (.int .i64 x2) := by have := HBX.out; simp [World.cell?, this]
      have HBw := Lib.hid (show B0 ≤ Wb.heap.size by have := HUb.out.size; rw [HB0.out] at this; exact this)
      go_wp2_with (at_builtin; refine wpList_app _ rfl _ _ 107 rfl B0 109 iK (.agg #[.int .i64 0, .int .u32 0]) 2 16 Tryz.underlying107 hiK hK0 hK1 hK2 rfl (by decide) _ _ _ rfl (own_upd HTb.out.rk ((Upd.refl [] _).alloc _) (by simp)) _ 2 [.int .i64 x1, .int .u32 0, .int .i64 x2, .int .u32 0] rfl (sees_lit Wb #[.int .i64 x1, .int .u32 0, .int .i64 x2, .int .u32 0] 109 2 2 rfl (by decide)) (by simp [Value.oneCell']) (by have := HLN.out.2; unfold maxLen; omega) (by have := HLN.out.2; omega) (by have := HBw.out; simp; omega) ?_)
      intro A7 C7 w7 HP
      have u7 : Upd (blk (.slice Ak (keysT T).length Ck)) Wb w7 := ((Upd.refl _ _).alloc _).trans HP.upd
      have k7 : KK.row w7 B0 (.slice A7 ((keysT T).length + 2) C7) (keysT T ++ [(x1, 0), (x2, 0)]) := by
        have := HP.own
        unfold Kind.row
        rw [Kind.all_app, List.length_append]
        exact this
      have m7 : KL.row w7 B0 (.slice Am M.length Cm) M := own_upd HTb.out.rm u7 (fun j hj hc => HTb.out.km j hc hj)
      have am7 := apart_of HP (u := .slice Am M.length Cm) (fun j hj => Nat.lt_of_lt_of_le (own_lt HTb.out.rm j hj) (by simp)) HTb.out.km
      have hq7 : q ∉ blk (.slice Ak (keysT T).length Ck) := fun h => by have := HQN.out q h; omega
      have h7 := (u7.block q (lt_of_block HBX.out) hq7).trans HBX.out
      have d2 : w7.cell? ⟨q, 2, none⟩ = some (.int .i64 y1) := by simp [World.cell?, h7]
      have d3 : w7.cell? ⟨q, 3, none⟩ = some (.int .i64 y2) := by simp [World.cell?, h7]
      have HU7 := Lib.hid (show Upd [] W w7 from HUb.out.trans' u7 (fun j hj => .inr (by rw [HB0.out]; exact own_ge HTb.out.rk j hj)))
      have HR7 := Lib.hid (And.intro k7 (And.intro m7 am7))
      have HBw7 := Lib.hid (Nat.le_trans HBw.out u7.size)
      clear HP u7 k7 m7 am7 hq7 h7 c0 c1
      go_wp2_with (at_builtin; refine wpList_app _ rfl _ _ 59 rfl B0 2 iM (.int .i64 0) 1 8 Tryz.underlying59 hiM hM0 hM1 hM2 rfl (by decide) _ _ _ rfl (own_upd HR7.out.2.1 ((Upd.refl [] _).alloc _) (by simp)) _ 2 [.int .i64 y1, .int .i64 y2] rfl (sees_lit w7 #[.int .i64 y1, .int .i64 y2] 2 1 2 rfl (by decide)) (by simp [Value.oneCell']) (by have := HLN.out.1; unfold maxLen; omega) (by have := HLN.out.1; omega) (by have := HBw7.out; simp; omega) ?_)
      intro A8 C8 w8 HP
      have u8 : Upd (blk (.slice Am M.length Cm)) w7 w8 := ((Upd.refl _ _).alloc _).trans HP.upd
      have m8 : KL.row w8 B0 (.slice A8 (M.length + 2) C8) (M ++ [y1, y2]) := by
        have := HP.own
        unfold Kind.row
        rw [Kind.all_app, List.length_append]
        exact this
      have k8 := own_upd HR7.out.1 u8 (fun j hj hc => HR7.out.2.2 j hj hc)
      have ak8 : ∀ j ∈ blk (.slice A7 ((keysT T).length + 2) C7), j ∉ blk (.slice A8 (M.length + 2) C8) := fun j hj hc => apart_of HP (u := .slice A7 ((keysT T).length + 2) C7) (fun j hj => Nat.lt_of_lt_of_le (own_lt HR7.out.1 j hj) (by simp)) (fun j hj hc => HR7.out.2.2 j hc hj) j hc hj
      have HU8 := Lib.hid (show Upd [] W w8 from HU7.out.trans' u8 (fun j hj => .inr (by rw [HB0.out]; exact own_ge HTb.out.rm j hj)))
      have HR8 := Lib.hid (And.intro k8 (And.intro m8 ak8))
      clear HP u8 m8 k8 ak8 d2 d3
      go_wp2_with fail
      go_roundg (l.length - (k + 1))
      case measure => have := HK.out; omega
      case rel =>
        have ekk : keysT (T ++ [⟨x1, ⟨x1, x2, y1, y2, bi⟩, false⟩, ⟨x2, ⟨x1, x2, y1, y2, bi⟩, true⟩]) = keysT T ++ [(x1, 0), (x2, 0)] := by simp [keysT]
        refine ⟨k + 1, A7, C7, A8, C8, by have := HK.out; omega, ?_, ?_, by go_num, ?_, HU8.out⟩
        · rw [HTT.out, ekk, List.length_append]; rfl
        · rw [HTY.out, List.length_append]; rfl
        · rw [HTT.out, HTY.out, ekk, List.length_append, List.length_append]
          exact ⟨by rw [ekk]; exact HR8.out.1, HR8.out.2.1, HR8.out.2.2⟩
    · have hke : l.take k = l := List.take_of_length_le (by omega)
      rw [hke] at ht ⊢
      have b1 : ¬ (k : Int) < (l.length : Int) := by omega
      clear hk hke hlt
      obtain ⟨U, hU⟩ : ∃ U, turnsL l = U := ⟨_, rfl⟩
      obtain ⟨M, hMe⟩ : ∃ M, linY l = M := ⟨_, rfl⟩
      obtain ⟨Y, hYe⟩ : ∃ Y, sqz (linY l) = Y := ⟨_, rfl⟩
      have hug := HUG.out
      have hmk := HM.out
      rw [hU, hMe] at hug
      rw [hYe] at hmk
      rw [hU, hMe] at ht ⊢
      have hYM : sqz M = Y := by rw [← hMe]; exact hYe
      have hML : M.length < 400000 ∧ U.length < 400000 := by have := HL.out; omega
      obtain ⟨K, hK⟩ : ∃ K, keysT U = K := ⟨_, rfl⟩
      have hKL : K.length = U.length := by rw [← hK]; exact keys_len U
      have hrk := ht.rk
      rw [hK] at hrk
      rw [hK]
      have hsq := squeezeC (.slice Am M.length Cm) M wr (See.of_row ht.rm) (by omega)
      unfold SqzPost at hsq
      rw [hYM] at hsq
      have HSQ := Lib.hid hsq
      have HRK := Lib.hid hrk
      have HWR := Lib.hid hu
      have HYE := Lib.hid (And.intro hYe (And.intro hU (And.intro hMe hK)))
      have HMK := Lib.hid hmk
      have HUGU := Lib.hid hug
      have HLEN := Lib.hid (And.intro hML hKL)
      have HKN := Lib.hid (show (K.length : Int) < 400000 by omega)
      clear ht hu hug hmk hYM hML hKL hrk hsq hU hMe hYe hK
      go_wp2_with fail
      (with_reducible refine HSQ.out.mono ?_)
      rintro e w1 ⟨A1, C1, rfl, r1, u1⟩
      have HN := Lib.hid (newC (.slice A1 Y.length C1) Y w1 (See.of_row r1) HMK.out)
      have HU1 := Lib.hid u1
      clear r1 u1
      go_wp2_with fail
      (with_reducible refine HN.out.mono ?_)
      rintro e w2 ⟨b, F, rfl, c2, u2, f2⟩
      have HU2 := Lib.hid (And.intro c2 (And.intro (HU1.out.trans u2) (And.intro f2 c2.lt)))
      have HSO := Lib.hid (sortOrder (.slice Ak K.length Ck) K w2 (See.of_row (own_upd HRK.out (HU1.out.trans u2) (by simp))) (by have := HLEN.out; omega))
      clear c2 u2 f2 HN HSQ
      go_wp2_with fail
      (with_reducible refine HSO.out.mono ?_)
      rintro e w3 ⟨A3, C3, P, wrt, rfl, s3, p3, q3, u3, k3⟩
      have HTS := Lib.hid (turns_sorted (T := U) (M := P) (by rw [HYE.out.2.2.2]; exact p3) (by rw [HYE.out.2.2.2]; exact q3) ⟨0, ⟨0, 0, 0, 0, 0⟩, false⟩)
      have hPl : P.length = K.length := by have := p3.length_eq; rw [List.length_range] at this; exact this
      have hPi : ∀ i ∈ P, i < K.length := fun i hi => List.mem_range.1 (p3.mem_iff.1 hi)
      have hww : Upd [] wr w3 := HU2.out.2.1.trans u3
      have hst : SwSt w3 B0 B p (.slice Ak K.length Ck) (.slice A3 K.length C3) (.slice A l.length C) K P l :=
        ⟨own_upd HRK.out hww (by simp), by have := s3; exact this, own_upd HRF.out (HWR.out.trans hww) (by simp), ((HWR.out.trans hww).cell (p := ⟨p, 0, none⟩) (World.block_lt_of_cell? W _ HCP.out) (by simp)).trans HCP.out⟩
      have hdis : (∀ y ∈ F, B0 ≤ y) ∧ (∀ k ∈ blk (.slice Ak K.length Ck), k ∉ F ∧ B0 ≤ k) ∧ (∀ k ∈ blk (.slice A3 K.length C3), k ∉ F ∧ B0 ≤ k) := by
        have z1 := HU1.out.size
        have z0 := HWR.out.size
        have z2 := HU2.out.2.1.size
        rw [HB0.out] at z0
        refine ⟨fun y hy => by have := HU2.out.2.2.1 y hy; omega, fun k hk => ⟨fun hf => ?_, own_ge HRK.out k hk⟩, fun k hk => ⟨fun hf => ?_, by have := k3 k hk; omega⟩⟩
        · have h1 := HU2.out.2.2.1 k hf; have h2 := own_lt HRK.out k hk; omega
        · have h1 := HU2.out.2.2.2 k hf; have h2 := k3 k hk; omega
      obtain ⟨T, hT⟩ : ∃ T, (P.map fun i => U[i]?.getD ⟨0, ⟨0, 0, 0, 0, 0⟩, false⟩) = T := ⟨_, rfl⟩
      obtain ⟨N0, hN0⟩ : ∃ N0, K.length = N0 := ⟨_, rfl⟩
      have hTl : T.length = N0 := by rw [← hT, List.length_map, hPl, hN0]
      have HDIS := Lib.hid hdis
      have HST := Lib.hid hst
      have HTT := Lib.hid hT
      rw [hT] at HTS
      rw [hN0] at HST HDIS hPl hPi HKN HLEN HRK ⊢
      have HP := Lib.hid (And.intro hPl (And.intro hPi hTl))
      have HCV := Lib.hid (HU2.out.1.upd0 u3)
      have HW3 := Lib.hid (HWR.out.trans hww)
      have HN0 := Lib.hid hN0
      have hKn := HKN.out
      clear s3 p3 q3 u3 k3 hPl hPi hww hst hdis hT hTl hN0 HU2 HSO
      go_wp2_with fail
      go_loopg [55] N0 (fun m s55 wr => ∃ k N, m + k = N0 ∧ N ≤ k ∧ s55 = .int .i64 (k : Int) ∧ J ((stepsL Y T).take k) wr ∧ IsCov wr b F Y (sw Y (T.take k)) N ∧ SwSt wr B0 B p (.slice Ak N0 Ck) (.slice A3 N0 C3) (.slice A l.length C) K P l ∧ B0 ≤ wr.heap.size)
      case atStart => exact ⟨0, 0, by omega, Nat.le_refl _, rfl, HJ.out [] W w3 HJ0.out HW3.out.below, HCV.out, HST.out, by have := HW3.out.size; rw [HB0.out] at this; exact this⟩
      case round =>
        clear b1
        obtain ⟨j, N, hk, hNk, rfl, hJk, hcv, hst, hsz⟩ := hrel
        have b0 : (0 : Int) ≤ (j : Int) := Int.natCast_nonneg _
        by_cases hlt : j < N0
        · have b1 : (j : Int) < (N0 : Int) := by omega
          obtain ⟨i, hi⟩ : ∃ i, P[j]? = some i := ⟨_, List.getElem?_eq_getElem (by rw [HP.out.1]; exact hlt)⟩
          have hiN := HP.out.2.1 i (List.mem_of_getElem? hi)
          have hUL : U.length = N0 := HLEN.out.2.symm
          obtain ⟨bb, hbb, hUi⟩ := HUGU.out.2.1 i (by omega)
          have hh0 : i / 2 < l.length := by have := HUGU.out.1; omega
          obtain ⟨t, ht⟩ : ∃ t : Tn, (if i % 2 = 0 then ⟨bb.x1, bb, false⟩ else ⟨bb.x2, bb, true⟩) = t := ⟨_, rfl⟩
          rw [ht] at hUi
          have hTj : T[j]? = some t := by rw [← HTT.out, List.getElem?_map, hi]; simp [hUi]
          have hKi : K[i]? = some (t.x, 0) := by rw [← HYE.out.2.2.2]; unfold keysT; rw [List.getElem?_map, hUi]; rfl
          obtain ⟨gp, op, hA3, -, -, cpl⟩ := KN.at hst.sp hi
          obtain ⟨gf, of, hAf, -, -, l0, l1, l2, l3⟩ := KFl.at (See.of_row hst.rf) hbb
          obtain ⟨gk, ok, hAk, -, -, hkc⟩ := (See.of_row hst.rk).at hKi
          have k0 : wr.cell? ⟨gk, ok + i * 2, none⟩ = some (.int .i64 t.x) := hkc 0 _ rfl
          clear hkc
          obtain ⟨h, hh⟩ : ∃ h, i / 2 = h := ⟨_, rfl⟩
          rw [hh] at l0 l1 l2 l3 hh0
          have e2 : (i : Int) / 2 = (h : Int) := by omega
          have h0 : (0 : Int) ≤ (h : Int) := Int.natCast_nonneg _
          have h1 : (h : Int) < (l.length : Int) := by omega
          subst hA3 hAf hAk
          have ccp := hst.cp
          have HX := Lib.hid (And.intro hk (And.intro hNk (And.intro hlt (And.intro hiN (And.intro hbb (And.intro ht (And.intro hTj (And.intro hi hUi))))))))
          have HJK := Lib.hid hJk
          have HCVK := Lib.hid hcv
          have HSTK := Lib.hid hst
          have HSZ := Lib.hid hsz
          have HK0 := Lib.hid (And.intro k0 cpl)
          clear hk hNk hJk hcv hst hsz hlt hi hiN hUL hbb hUi ht hTj hKi k0 hh hh0
          have hua : Upd [] wr ((wr.alloc (.cells #[.int .i64 bb.x1, .int .i64 bb.x2, .int .i64 bb.y1, .int .i64 bb.y2] 141)).alloc (.cells #[.int .i64 0, .int .u64 0, .int .i64 0] 94)) := ((Upd.refl _ _).alloc _).alloc _
          have hbx : ((wr.alloc (.cells #[.int .i64 bb.x1, .int .i64 bb.x2, .int .i64 bb.y1, .int .i64 bb.y2] 141)).alloc (.cells #[.int .i64 0, .int .u64 0, .int .i64 0] 94)).heap[wr.heap.size]? = some (.cells #[.int .i64 bb.x1, .int .i64 bb.x2, .int .i64 bb.y1, .int .i64 bb.y2] 141 (0, 0)) ∧ ((wr.alloc (.cells #[.int .i64 bb.x1, .int .i64 bb.x2, .int .i64 bb.y1, .int .i64 bb.y2] 141)).alloc (.cells #[.int .i64 0, .int .u64 0, .int .i64 0] 94)).heap[wr.heap.size + 1]? = some (.cells #[.int .i64 0, .int .u64 0, .int .i64 0] 94 (0, 0)) :=
            ⟨(Below.heap_alloc _ _ _ (by simp)).trans (heap_alloc_new _ _), by have := heap_alloc_new (wr.alloc (.cells #[.int .i64 bb.x1, .int .i64 bb.x2, .int .i64 bb.y1, .int .i64 bb.y2] 141)) (.cells #[.int .i64 0, .int .u64 0, .int .i64 0] 94); rwa [World.size_alloc] at this⟩
          have hqf : (∀ y ∈ F, y < wr.heap.size) ∧ (∀ k ∈ blk (.slice (some ⟨gk, ok, none⟩) N0 Ck), k < wr.heap.size) ∧ (∀ k ∈ blk (.slice (some ⟨gp, op, none⟩) N0 C3), k < wr.heap.size) ∧ W.heap.size ≤ wr.heap.size ∧ w.heap.size ≤ wr.heap.size :=
            ⟨HCVK.out.lt, own_lt HSTK.out.rk, fun k hk => by simp [blk] at hk; subst hk; exact World.block_lt_of_cell? wr _ HK0.out.2, by rw [HB0.out]; exact HSZ.out, by have := HRID.out; rw [HB0.out] at this; have := HSZ.out; omega⟩
          have hsl : (sw Y (T.take j)).length ≤ 1000000 := by have h1 := sw_len Y (T.take j); rw [List.length_take] at h1; have := HP.out.2.2; have := HKN.out; omega
          have hsn : sw Y (T.take (j + 1)) = stepT Y (sw Y (T.take j)) t ∧ stepE Y (sw Y (T.take j)) t = stE Y T j := by
            have htj := HX.out.2.2.2.2.2.2.1
            refine ⟨by rw [show T.take (j + 1) = T.take j ++ [t] by rw [List.take_add_one, htj]; rfl, sw_snoc], ?_⟩
            have h1 := stepE_eq (l := l) (T := T) (by rw [HYE.out.2.1]; exact HTS.out.1) HTS.out.2 htj
            rw [HYE.out.1] at h1
            rw [h1]
            unfold stE
            rw [htj]
          have HUA := Lib.hid hua
          have HBX := Lib.hid hbx
          have HQF := Lib.hid hqf
          have HSL := Lib.hid hsl
          have HSN := Lib.hid hsn
          clear hua hbx hqf hsl hsn
          obtain ⟨g, hg⟩ : ∃ g, ((i : Int) % 2 == 0) = g := ⟨_, rfl⟩
          go_upto_if 68 with fail
          have HG := Lib.hid hg
          clear hg e2 h0 h1 l0 l1 l2 l3 ccp
          have HSb := Lib.hid (HSTK.out.upd0 HUA.out)
          have HCb := Lib.hid (HCVK.out.upd0 HUA.out)
          have HJb := Lib.hid (HJ.out _ _ _ HJK.out (HUA.out.below.mono HQF.out.2.2.2.1))
          have HSZb := Lib.hid (Nat.le_trans HSZ.out HUA.out.size)
          generalize ((wr.alloc (.cells #[.int .i64 bb.x1, .int .i64 bb.x2, .int .i64 bb.y1, .int .i64 bb.y2] 141)).alloc (.cells #[.int .i64 0, .int .u64 0, .int .i64 0] 94)) = Wb at HBX HSb HCb HJb HSZb HUA ⊢
          have HKS := Lib.hid (show Upd [] wr Wb from HUA.out)
          generalize hq : wr.heap.size = q at HBX HQF ⊢
          have HQQ := Lib.hid hq
          clear hq
          have c2 : Wb.cell? ⟨q, 2, none⟩ = some (.int .i64 bb.y1) := by have := HBX.out.1; simp [World.cell?, this]
          have c3 : Wb.cell? ⟨q, 3, none⟩ = some (.int .i64 bb.y2) := by have := HBX.out.1; simp [World.cell?, this]
          go_cut [] (fun wc => (∃ N', N' ≤ j + 1 ∧ IsCov wc b F Y (sw Y (T.take (j + 1))) N') ∧ SwSt wc B0 B p (.slice (some ⟨gk, ok, none⟩) N0 Ck) (.slice (some ⟨gp, op, none⟩) N0 C3) (.slice (some ⟨gf, of, none⟩) l.length C) K P l ∧ J ((stepsL Y T).take j) wc ∧ wc.heap[q + 1]? = some (.cells #[.int .i64 0, .int .u64 0, .int .i64 (stE Y T j : Int)] 94 (0, 0)) ∧ B0 ≤ wc.heap.size)
          case first =>
            by_cases hpar : i % 2 = 0
            · -- Add
              have htt : t = ⟨bb.x1, bb, false⟩ := by rw [← HX.out.2.2.2.2.2.1]; rw [if_pos hpar]
              have g1 : g = true := by rw [← HG.out, beq_iff_eq]; omega
              subst g1
              have had := addC b F Y (sw Y (T.take j)) N Wb bb.y1 bb.y2 HCb.out HMK.out (by have := HX.out.2.1; have := HX.out.2.2.1; have := HKN.out; omega) HSL.out
              unfold AdPost at had
              have e1 : addH Y (sw Y (T.take j)) bb.y1 bb.y2 = sw Y (T.take (j + 1)) := by rw [HSN.out.1, htt]; rfl
              have e3 : addK Y bb.y1 bb.y2 = stE Y T j := by rw [← HSN.out.2, htt]; rfl
              rw [e1, e3] at had
              obtain ⟨E, hE⟩ : ∃ E, stE Y T j = E := ⟨_, rfl⟩
              rw [hE] at had
              have HAD := Lib.hid had
              have HE := Lib.hid hE
              clear htt had e1 e3 hpar hE
              go_wp2_with fail
              (with_reducible refine HAD.out.mono ?_)
              rintro e w4 ⟨rfl, ⟨N', hN', hc4⟩, hu4⟩
              clear c2 c3
              have hq4 := (hu4.block (q + 1) (lt_of_block HBX.out.2) (fun h => by have := HQF.out.1 _ h; omega)).trans HBX.out.2
              have d2 : w4.cell? ⟨q + 1, 2, none⟩ = some (.int .i64 0) := by simp [World.cell?, hq4]
              have f2 : w4.frozen? ⟨q + 1, 2, none⟩ = false := by simp [World.frozen?, hq4]
              have hst4 := HSb.out.upd hu4 (fun k hk => (HDIS.out.2.1 k hk).1) (fun k hk => (HDIS.out.2.2 k hk).1) (fun k hk hf => by have := HDIS.out.1 k hf; have := (HFW.out k hk).2; have := HRID.out; rw [HB0.out] at this; omega) (fun hf => by have := HDIS.out.1 p hf; have := HPW.out.2; have := HRID.out; rw [HB0.out] at this; omega)
              have hJ4 := HJ.out _ _ _ HJb.out (show Below W.heap.size Wb w4 from ⟨hu4.os, hu4.tape, hu4.output, hu4.size, fun k hk => hu4.block k (by have := HSZb.out; rw [HB0.out] at hk; omega) (fun hf => by have := HDIS.out.1 k hf; rw [HB0.out] at hk; omega)⟩)
              have hus : Upd [q + 1] w4 (w4.setCell ⟨q + 1, 2, none⟩ (.int .i64 (E : Int))) := (Upd.refl _ _).setCell (.inl (by simp)) _
              have HR4 := Lib.hid (And.intro (show ∃ N', N' ≤ j + 1 ∧ IsCov (w4.setCell ⟨q + 1, 2, none⟩ (.int .i64 (E : Int))) b F Y (sw Y (T.take (j + 1))) N' from ⟨N', by have := HX.out.2.1; omega, hc4.upd hus (fun y hy hc => by simp at hc; have := HQF.out.1 _ hy; omega)⟩)
                (And.intro (hst4.upd hus (fun k hk hc => by simp at hc; have := HQF.out.2.1 _ hk; omega) (fun k hk hc => by simp at hc; have := HQF.out.2.2.1 _ hk; omega) (fun k hk hc => by simp at hc; have := (HFW.out k hk).2; have := HQF.out.2.2.2; omega) (fun hc => by simp at hc; have := HPW.out.2; have := HQF.out.2.2.2; omega))
                (And.intro (HJ.out _ _ _ hJ4 (show Below W.heap.size w4 (w4.setCell ⟨q + 1, 2, none⟩ (.int .i64 (E : Int))) from ⟨hus.os, hus.tape, hus.output, hus.size, fun k hk => Below.heap_setCell _ _ _ _ (by have := HQF.out.2.2.2; show k ≠ q + 1; omega)⟩))
                (And.intro (show (w4.setCell ⟨q + 1, 2, none⟩ (.int .i64 (E : Int))).heap[q + 1]? = some (.cells #[.int .i64 0, .int .u64 0, .int .i64 (E : Int)] 94 (0, 0)) from heap_set hq4 2 _)
                (show B0 ≤ (w4.setCell ⟨q + 1, 2, none⟩ (.int .i64 (E : Int))).heap.size from Nat.le_trans (Nat.le_trans HSZb.out hu4.size) hus.size)))))
              clear hq4 hst4 hJ4 hus hc4 hu4 hN'
              go_wp2_with fail
              clear d2 f2
              go_meet
              case rel => rw [HE.out]; exact HR4.out
            · -- Drop
              have htt : t = ⟨bb.x2, bb, true⟩ := by rw [← HX.out.2.2.2.2.2.1]; rw [if_neg hpar]
              have g1 : g = false := by rw [← HG.out, beq_eq_false_iff_ne]; omega
              subst g1
              have had := dropC b F Y (sw Y (T.take j)) N Wb bb.y1 bb.y2 HCb.out HMK.out (by have := HX.out.2.1; have := HX.out.2.2.1; have := HKN.out; omega) HSL.out
              unfold AdPost at had
              have e1 : dropH Y (sw Y (T.take j)) bb.y1 bb.y2 = sw Y (T.take (j + 1)) := by rw [HSN.out.1, htt]; rfl
              have e3 : dropK Y (sw Y (T.take j)) bb.y1 bb.y2 = stE Y T j := by rw [← HSN.out.2, htt]; rfl
              rw [e1, e3] at had
              obtain ⟨E, hE⟩ : ∃ E, stE Y T j = E := ⟨_, rfl⟩
              rw [hE] at had
              have HAD := Lib.hid had
              have HE := Lib.hid hE
              clear htt had e1 e3 hpar hE
              go_wp2_with fail
              (with_reducible refine HAD.out.mono ?_)
              rintro e w4 ⟨rfl, ⟨N', hN', hc4⟩, hu4⟩
              clear c2 c3
              have hq4 := (hu4.block (q + 1) (lt_of_block HBX.out.2) (fun h => by have := HQF.out.1 _ h; omega)).trans HBX.out.2
              have d2 : w4.cell? ⟨q + 1, 2, none⟩ = some (.int .i64 0) := by simp [World.cell?, hq4]
              have f2 : w4.frozen? ⟨q + 1, 2, none⟩ = false := by simp [World.frozen?, hq4]
              have hst4 := HSb.out.upd hu4 (fun k hk => (HDIS.out.2.1 k hk).1) (fun k hk => (HDIS.out.2.2 k hk).1) (fun k hk hf => by have := HDIS.out.1 k hf; have := (HFW.out k hk).2; have := HRID.out; rw [HB0.out] at this; omega) (fun hf => by have := HDIS.out.1 p hf; have := HPW.out.2; have := HRID.out; rw [HB0.out] at this; omega)
              have hJ4 := HJ.out _ _ _ HJb.out (show Below W.heap.size Wb w4 from ⟨hu4.os, hu4.tape, hu4.output, hu4.size, fun k hk => hu4.block k (by have := HSZb.out; rw [HB0.out] at hk; omega) (fun hf => by have := HDIS.out.1 k hf; rw [HB0.out] at hk; omega)⟩)
              have hus : Upd [q + 1] w4 (w4.setCell ⟨q + 1, 2, none⟩ (.int .i64 (E : Int))) := (Upd.refl _ _).setCell (.inl (by simp)) _
              have HR4 := Lib.hid (And.intro (show ∃ N', N' ≤ j + 1 ∧ IsCov (w4.setCell ⟨q + 1, 2, none⟩ (.int .i64 (E : Int))) b F Y (sw Y (T.take (j + 1))) N' from ⟨N', by have := HX.out.2.1; omega, hc4.upd hus (fun y hy hc => by simp at hc; have := HQF.out.1 _ hy; omega)⟩)
                (And.intro (hst4.upd hus (fun k hk hc => by simp at hc; have := HQF.out.2.1 _ hk; omega) (fun k hk hc => by simp at hc; have := HQF.out.2.2.1 _ hk; omega) (fun k hk hc => by simp at hc; have := (HFW.out k hk).2; have := HQF.out.2.2.2; omega) (fun hc => by simp at hc; have := HPW.out.2; have := HQF.out.2.2.2; omega))
                (And.intro (HJ.out _ _ _ hJ4 (show Below W.heap.size w4 (w4.setCell ⟨q + 1, 2, none⟩ (.int .i64 (E : Int))) from ⟨hus.os, hus.tape, hus.output, hus.size, fun k hk => Below.heap_setCell _ _ _ _ (by have := HQF.out.2.2.2; show k ≠ q + 1; omega)⟩))
                (And.intro (show (w4.setCell ⟨q + 1, 2, none⟩ (.int .i64 (E : Int))).heap[q + 1]? = some (.cells #[.int .i64 0, .int .u64 0, .int .i64 (E : Int)] 94 (0, 0)) from heap_set hq4 2 _)
                (show B0 ≤ (w4.setCell ⟨q + 1, 2, none⟩ (.int .i64 (E : Int))).heap.size from Nat.le_trans (Nat.le_trans HSZb.out hu4.size) hus.size)))))
              clear hq4 hst4 hJ4 hus hc4 hu4 hN'
              go_wp2_with fail
              clear d2 f2
              go_meet
              case rel => rw [HE.out]; exact HR4.out
          case rest =>
            obtain ⟨⟨N', hN', hc4⟩, hst4, hJ4, hq4, hz4⟩ := hcut
            clear c2 c3
            have hru := runsC b F Y (sw Y (T.take (j + 1))) N' wc hc4
            rw [runsT_eq HMK.out T j] at hru
            obtain ⟨R, hR⟩ : ∃ R, runsT Y T j = R := ⟨_, rfl⟩
            obtain ⟨E, hE⟩ : ∃ E, stE Y T j = E := ⟨_, rfl⟩
            rw [hR] at hru
            rw [hE] at hq4
            have HRU := Lib.hid hru
            have HRE := Lib.hid (And.intro hR hE)
            have HC4 := Lib.hid (And.intro (⟨N', hN', hc4⟩ : ∃ N', N' ≤ j + 1 ∧ IsCov wc b F Y (sw Y (T.take (j + 1))) N') (And.intro hst4 (And.intro hJ4 (And.intro hq4 hz4))))
            clear hN' hc4 hst4 hJ4 hq4 hz4 hru hR hE
            go_wp2_with fail
            (with_reducible refine HRU.out.mono ?_)
            rintro e w5 ⟨rfl, hu5⟩
            have HC5 := Lib.hid (And.intro (HC4.out.1.elim fun N' h => (⟨N', h.1, h.2.upd0 hu5⟩ : ∃ N', N' ≤ j + 1 ∧ IsCov w5 b F Y (sw Y (T.take (j + 1))) N')) (And.intro (HC4.out.2.1.upd0 hu5) (And.intro (HJ.out _ _ _ HC4.out.2.2.1 (hu5.below.mono (by have := HC4.out.2.2.2.2; rw [HB0.out]; exact this)))
              (And.intro ((hu5.block (q + 1) (lt_of_block HC4.out.2.2.2.1) (by simp)).trans HC4.out.2.2.2.1) (Nat.le_trans HC4.out.2.2.2.2 hu5.size)))))
            have d0 : w5.cell? ⟨q + 1, 0, none⟩ = some (.int .i64 0) := by have := HC5.out.2.2.2.1; simp [World.cell?, this]
            have f0 : w5.frozen? ⟨q + 1, 0, none⟩ = false := by have := HC5.out.2.2.2.1; simp [World.frozen?, this]
            have hus : Upd [q + 1] w5 (w5.setCell ⟨q + 1, 0, none⟩ (.int .i64 (R : Int))) := (Upd.refl _ _).setCell (.inl (by simp)) _
            have HC6 := Lib.hid (And.intro (HC5.out.1.elim fun N' h => (⟨N', h.1, h.2.upd hus (fun y hy hc => by simp at hc; have := HQF.out.1 _ hy; omega)⟩ : ∃ N', N' ≤ j + 1 ∧ IsCov (w5.setCell ⟨q + 1, 0, none⟩ (.int .i64 (R : Int))) b F Y (sw Y (T.take (j + 1))) N'))
              (And.intro (HC5.out.2.1.upd hus (fun k hk hc => by simp at hc; have := HQF.out.2.1 _ hk; omega) (fun k hk hc => by simp at hc; have := HQF.out.2.2.1 _ hk; omega) (fun k hk hc => by simp at hc; have := (HFW.out k hk).2; have := HQF.out.2.2.2; omega) (fun hc => by simp at hc; have := HPW.out.2; have := HQF.out.2.2.2; omega))
              (And.intro (HJ.out _ _ _ HC5.out.2.2.1 (show Below W.heap.size w5 (w5.setCell ⟨q + 1, 0, none⟩ (.int .i64 (R : Int))) from ⟨hus.os, hus.tape, hus.output, hus.size, fun k hk => Below.heap_setCell _ _ _ _ (by have := HQF.out.2.2.2; show k ≠ q + 1; omega)⟩))
              (And.intro (show (w5.setCell ⟨q + 1, 0, none⟩ (.int .i64 (R : Int))).heap[q + 1]? = some (.cells #[.int .i64 (R : Int), .int .u64 0, .int .i64 (E : Int)] 94 (0, 0)) from heap_set HC5.out.2.2.2.1 0 _)
              (show B0 ≤ (w5.setCell ⟨q + 1, 0, none⟩ (.int .i64 (R : Int))).heap.size from Nat.le_trans HC5.out.2.2.2.2 hus.size)))))
            clear hus
            clear hu5
            obtain ⟨gb, hgb⟩ : ∃ gb, decide ((j : Int) + 1 < (N0 : Int)) = gb := ⟨_, rfl⟩
            go_upto_if 96 with fail
            have HGB := Lib.hid hgb
            clear d0 f0 hgb
            generalize w5.setCell ⟨q + 1, 0, none⟩ (.int .i64 (R : Int)) = W6 at HC6 ⊢
            go_cut [] (fun wd => (∃ N', N' ≤ j + 1 ∧ IsCov wd b F Y (sw Y (T.take (j + 1))) N') ∧ SwSt wd B0 B p (.slice (some ⟨gk, ok, none⟩) N0 Ck) (.slice (some ⟨gp, op, none⟩) N0 C3) (.slice (some ⟨gf, of, none⟩) l.length C) K P l ∧ J ((stepsL Y T).take j) wd ∧ wd.heap[q + 1]? = some (.cells #[.int .i64 (R : Int), .int .u64 (longX T j : Int), .int .i64 (E : Int)] 94 (0, 0)) ∧ B0 ≤ wd.heap.size)
            case first =>
              by_cases hend : j + 1 < N0
              · have g1 : gb = true := by rw [← HGB.out, decide_eq_true_eq]; omega
                subst g1
                obtain ⟨i', hi'⟩ : ∃ i', P[j + 1]? = some i' := ⟨_, List.getElem?_eq_getElem (by rw [HP.out.1]; exact hend)⟩
                have hiN' := HP.out.2.1 i' (List.mem_of_getElem? hi')
                have hUL : U.length = N0 := HLEN.out.2.symm
                obtain ⟨u, hUi'⟩ : ∃ u, U[i']? = some u := ⟨_, List.getElem?_eq_getElem (by omega)⟩
                have hTj' : T[j + 1]? = some u := by rw [← HTT.out, List.getElem?_map, hi']; simp [hUi']
                have hKi' : K[i']? = some (u.x, 0) := by rw [← HYE.out.2.2.2]; unfold keysT; rw [List.getElem?_map, hUi']; rfl
                have hKi : K[i]? = some (t.x, 0) := by rw [← HYE.out.2.2.2]; unfold keysT; rw [List.getElem?_map, HX.out.2.2.2.2.2.2.2.2]; rfl
                obtain ⟨_, _, hA, -, -, hkc⟩ := (See.of_row HC6.out.2.1.rk).at hKi
                cases hA
                obtain ⟨_, _, hA, -, -, hkc'⟩ := (See.of_row HC6.out.2.1.rk).at hKi'
                cases hA
                obtain ⟨_, _, hA, -, -, hpl⟩ := KN.at HC6.out.2.1.sp hi'
                cases hA
                have hs0 : W6.cell? ⟨gk, ok + i * 2, none⟩ = some (.int .i64 t.x) ∧ W6.cell? ⟨gp, op + (j + 1), none⟩ = some (.int .i64 (i' : Int)) ∧ W6.cell? ⟨gk, ok + i' * 2, none⟩ = some (.int .i64 u.x) ∧ W6.cell? ⟨gk, ok + i' * 2, none⟩ = some (.int .i64 u.x) := ⟨hkc 0 _ rfl, hpl, hkc' 0 _ rfl, hkc' 0 _ rfl⟩
                have hdx := longX_diff HTS.out.2 HX.out.2.2.2.2.2.2.1 hTj'
                have ht64 := turns_x64 HBBX.out (t := t) (by rw [HYE.out.2.1]; exact List.mem_of_getElem? HX.out.2.2.2.2.2.2.2.2)
                have hu64 := turns_x64 HBBX.out (t := u) (by rw [HYE.out.2.1]; exact List.mem_of_getElem? hUi')
                obtain ⟨LG, hLG⟩ : ∃ LG, longX T j = LG := ⟨_, rfl⟩
                obtain ⟨tx, htx⟩ : ∃ tx, t.x = tx := ⟨_, rfl⟩
                obtain ⟨ux, hux⟩ : ∃ ux, u.x = ux := ⟨_, rfl⟩
                rw [htx, hux, hLG] at hdx
                rw [htx] at hs0 ht64
                rw [hux] at hs0 hu64
                have hdf := fun w => diffC tx ux w ht64 hu64
                rw [hdx] at hdf
                have HDF := Lib.hid hdf
                have HLG := Lib.hid hLG
                have HS0 := Lib.hid hs0
                have v0 : (0 : Int) ≤ (i : Int) := Int.natCast_nonneg _
                have v1 : (i : Int) < (N0 : Int) := by have := HX.out.2.2.2.1; omega
                have v2 : (0 : Int) ≤ (i' : Int) := Int.natCast_nonneg _
                have v3 : (i' : Int) < (N0 : Int) := by omega
                have v4 : (j : Int) + 1 < (N0 : Int) := by omega
                clear hend hi' hiN' hUL hUi' hTj' hKi' hKi hkc hkc' hpl hs0 hdx ht64 hu64 hLG htx hux hdf
                go_upto_region 20 with fail
                have wk : IntKind.i64.wrap ((j : Int) + 1) = (j : Int) + 1 := IntWalk.i64_in _ ⟨by omega, by omega⟩
                have kp : (0 : Int) ≤ (j : Int) + 1 := by omega
                have kn : ((j : Int) + 1).toNat = j + 1 := by omega
                obtain ⟨Wd, hWd⟩ : ∃ Wd, Wd = W6.drew := ⟨_, rfl⟩
                have hud : Upd [] W6 Wd := by rw [hWd]; exact (Upd.refl _ _).drew
                have HSd := Lib.hid (keep4 HS0.out hud)
                have HCd := Lib.hid (And.intro (HC6.out.1.elim fun N' h => (⟨N', h.1, h.2.upd0 hud⟩ : ∃ N', N' ≤ j + 1 ∧ IsCov Wd b F Y (sw Y (T.take (j + 1))) N')) (And.intro (HC6.out.2.1.upd0 hud) (And.intro (HJ.out _ _ _ HC6.out.2.2.1 (hud.below.mono (by have := HC6.out.2.2.2.2; rw [HB0.out]; exact this)))
                  (And.intro ((hud.block (q + 1) (lt_of_block HC6.out.2.2.2.1) (by simp)).trans HC6.out.2.2.2.1) (Nat.le_trans HC6.out.2.2.2.2 hud.size)))))
                clear hud
                -- region 20: T waits for all loads; fuel 4
                refine GoT.start [14, 15, 16] (fun w' => w'.cell? ⟨gk, ok + i * 2, none⟩ = some (.int .i64 tx) ∧ w'.cell? ⟨gp, op + (j + 1), none⟩ = some (.int .i64 (i' : Int)) ∧ w'.cell? ⟨gk, ok + i' * 2, none⟩ = some (.int .i64 ux) ∧ w'.cell? ⟨gk, ok + i' * 2, none⟩ = some (.int .i64 ux)) (by kernel_rfl) ?_ fun hS => ?_
                · exact by rw [← hWd]; exact HSd.out
                rw [← hWd] at hS ⊢
                clear hWd
                refine' GoT.move (i := 0) (oi := ⟨some 97, _, _, _, _, _⟩) (v := _) rfl (by kernel_rfl) (by kernel_rfl) (by kernel_rfl) (fun _ _ _ h => h) (Or.inl ⟨by rfl, ?y20_0⟩) ?r20_0
                case y20_0 => intro w; go_simp <;> with_reducible rfl
                simp only [Act.put, List.setIfInBounds_toArray, List.set_cons_zero, List.set_cons_succ]
                refine' GoT.move (i := 1) (oi := ⟨some 98, _, _, _, _, _⟩) (v := _) rfl (by kernel_rfl) (by kernel_rfl) (by kernel_rfl) (fun _ _ _ h => h) (Or.inl ⟨by rfl, ?y20_1⟩) ?r20_1
                case y20_1 => intro w; go_simp <;> with_reducible rfl
                simp only [Act.put, List.setIfInBounds_toArray, List.set_cons_zero, List.set_cons_succ]
                refine' GoT.move (i := 2) (oi := ⟨some 99, _, _, _, _, _⟩) (v := _) rfl (by kernel_rfl) (by kernel_rfl) (by kernel_rfl) (fun _ _ _ h => h) (Or.inl ⟨by rfl, ?y20_2⟩) ?r20_2
                case y20_2 => intro w; go_simp <;> with_reducible rfl
                simp only [Act.put, List.setIfInBounds_toArray, List.set_cons_zero, List.set_cons_succ]
                refine' GoT.move (i := 3) (oi := ⟨some 100, _, _, _, _, _⟩) (v := _) rfl (by kernel_rfl) (by kernel_rfl) (by kernel_rfl) (fun _ _ _ h => h) (Or.inl ⟨by rfl, ?y20_3⟩) ?r20_3
                case y20_3 => intro w; go_simp <;> with_reducible rfl
                simp only [Act.put, List.setIfInBounds_toArray, List.set_cons_zero, List.set_cons_succ]
                refine' GoT.take 4 (i := 4) (oi := ⟨some 101, _, _, _, _, _⟩) (v := _) rfl (by kernel_rfl) (by kernel_rfl) (by kernel_rfl) (by kernel_rfl) (fun _ _ _ h => h) (Or.inl ⟨by rfl, ?y20_4⟩) (by assumption) ?r20_4
                case y20_4 => intro w hSw; go_simp <;> with_reducible rfl
                simp only [Act.put, List.setIfInBounds_toArray, List.set_cons_zero, List.set_cons_succ]
                refine' GoT.move (i := 5) (oi := ⟨some 102, _, _, _, _, _⟩) (v := _) rfl (by kernel_rfl) (by kernel_rfl) (by kernel_rfl) (fun _ _ _ h => h) (Or.inl ⟨by rfl, ?y20_5⟩) ?r20_5
                case y20_5 => intro w; go_simp <;> with_reducible rfl
                simp only [Act.put, List.setIfInBounds_toArray, List.set_cons_zero, List.set_cons_succ]
                refine' GoT.move (i := 6) (oi := ⟨some 103, _, _, _, _, _⟩) (v := _) rfl (by kernel_rfl) (by kernel_rfl) (by kernel_rfl) (fun _ _ _ h => h) (Or.inl ⟨by rfl, ?y20_6⟩) ?r20_6
                case y20_6 => intro w; go_simp <;> with_reducible rfl
                simp only [Act.put, List.setIfInBounds_toArray, List.set_cons_zero, List.set_cons_succ]
                refine' GoT.move (i := 7) (oi := ⟨some 104, _, _, _, _, _⟩) (v := _) rfl (by kernel_rfl) (by kernel_rfl) (by kernel_rfl) (fun _ _ _ h => h) (Or.inl ⟨by rfl, ?y20_7⟩) ?r20_7
                case y20_7 => intro w; go_simp <;> with_reducible rfl
                simp only [Act.put, List.setIfInBounds_toArray, List.set_cons_zero, List.set_cons_succ]
                refine' GoT.move (i := 8) (oi := ⟨some 105, _, _, _, _, _⟩) (v := _) rfl (by kernel_rfl) (by kernel_rfl) (by kernel_rfl) (fun _ _ _ h => h) (Or.inl ⟨by rfl, ?y20_8⟩) ?r20_8
                case y20_8 => intro w; go_simp <;> with_reducible rfl
                simp only [Act.put, List.setIfInBounds_toArray, List.set_cons_zero, List.set_cons_succ]
                refine' GoT.move (i := 9) (oi := ⟨some 106, _, _, _, _, _⟩) (v := _) rfl (by kernel_rfl) (by kernel_rfl) (by kernel_rfl) (fun _ _ _ h => h) (Or.inl ⟨by rfl, ?y20_9⟩) ?r20_9
                case y20_9 => intro w; go_simp <;> with_reducible rfl
                simp only [Act.put, List.setIfInBounds_toArray, List.set_cons_zero, List.set_cons_succ]
                refine' GoT.take 4 (i := 10) (oi := ⟨some 107, _, _, _, _, _⟩) (v := _) rfl (by kernel_rfl) (by kernel_rfl) (by kernel_rfl) (by kernel_rfl) (fun _ _ _ h => h) (Or.inl ⟨by rfl, ?y20_10⟩) (by assumption) ?r20_10
                case y20_10 => intro w hSw; go_simp <;> with_reducible rfl
                simp only [Act.put, List.setIfInBounds_toArray, List.set_cons_zero, List.set_cons_succ]
                refine' GoT.move (i := 11) (oi := ⟨some 108, _, _, _, _, _⟩) (v := _) rfl (by kernel_rfl) (by kernel_rfl) (by kernel_rfl) (fun _ _ _ h => h) (Or.inl ⟨by rfl, ?y20_11⟩) ?r20_11
                case y20_11 => intro w; go_simp <;> with_reducible rfl
                simp only [Act.put, List.setIfInBounds_toArray, List.set_cons_zero, List.set_cons_succ]
                refine' GoT.move (i := 12) (oi := ⟨some 109, _, _, _, _, _⟩) (v := _) rfl (by kernel_rfl) (by kernel_rfl) (by kernel_rfl) (fun _ _ _ h => h) (Or.inl ⟨by rfl, ?y20_12⟩) ?r20_12
                case y20_12 => intro w; go_simp <;> with_reducible rfl
                simp only [Act.put, List.setIfInBounds_toArray, List.set_cons_zero, List.set_cons_succ]
                refine' GoT.take 4 (i := 13) (oi := ⟨some 110, _, _, _, _, _⟩) (v := _) rfl (by kernel_rfl) (by kernel_rfl) (by kernel_rfl) (by kernel_rfl) (fun _ _ _ h => h) (Or.inl ⟨by rfl, ?y20_13⟩) (by assumption) ?r20_13
                case y20_13 => intro w hSw; go_simp <;> with_reducible rfl
                simp only [Act.put, List.setIfInBounds_toArray, List.set_cons_zero, List.set_cons_succ]
                -- 14: Go.Op.call { callee := Go.Callee.value (Go.Operand.func 25), args := #[Go.Operand.tmp 101, Go.Operand.tmp 110], argTypes := #[2, 2] }
                refine GoT.one (i := 14) (o := ⟨some 111, _, _, _, _, _⟩) rfl (by kernel_rfl) fun K hK => ?_
                go_simp
                go_at_call 25
                (with_reducible refine (HDF.out _).mono ?_)
                rintro e w' ⟨rfl, rfl⟩
                refine hK.out _ _ (fun h => (by cases h)) ?_
                clear hK K
                try simp only [Act.put, List.setIfInBounds_toArray, List.set_cons_zero, List.set_cons_succ]
                have z1 : Wd.cell? ⟨q + 1, 1, none⟩ = some (.int .u64 0) := by have := HCd.out.2.2.2.1; simp [World.cell?, this]
                have zf : Wd.frozen? ⟨q + 1, 1, none⟩ = false := by have := HCd.out.2.2.2.1; simp [World.frozen?, this]
                refine' GoT.move (i := 15) (oi := ⟨some 112, _, _, _, _, _⟩) (v := _) rfl (by kernel_rfl) (by kernel_rfl) (by kernel_rfl) (fun _ _ _ h => h) (Or.inl ⟨by rfl, ?y20_15⟩) ?r20_15
                case y20_15 => intro w; go_simp <;> with_reducible rfl
                simp only [Act.put, List.setIfInBounds_toArray, List.set_cons_zero, List.set_cons_succ]
                -- 16: Go.Op.store 25 (Go.Operand.tmp 112) (Go.Operand.tmp 111)
                refine GoT.one (i := 16) (o := ⟨none, _, _, _, _, _⟩) rfl (by kernel_rfl) fun K hK => ?_
                go_simp
                refine hK.out _ _ (fun h => (by cases h)) ?_
                clear hK K
                try simp only [Act.put, List.setIfInBounds_toArray, List.set_cons_zero, List.set_cons_succ]
                refine GoT.done (by kernel_rfl) ?_
                clear wk kp kn v0 v1 v2 v3 v4
                have hus : Upd [q + 1] Wd (Wd.setCell ⟨q + 1, 1, none⟩ (.int .u64 (LG : Int))) := (Upd.refl _ _).setCell (.inl (by simp)) _
                have HC7 := Lib.hid (And.intro (HCd.out.1.elim fun N' h => (⟨N', h.1, h.2.upd hus (fun y hy hc => by simp at hc; have := HQF.out.1 _ hy; omega)⟩ : ∃ N', N' ≤ j + 1 ∧ IsCov (Wd.setCell ⟨q + 1, 1, none⟩ (.int .u64 (LG : Int))) b F Y (sw Y (T.take (j + 1))) N'))
                  (And.intro (HCd.out.2.1.upd hus (fun k hk hc => by simp at hc; have := HQF.out.2.1 _ hk; omega) (fun k hk hc => by simp at hc; have := HQF.out.2.2.1 _ hk; omega) (fun k hk hc => by simp at hc; have := (HFW.out k hk).2; have := HQF.out.2.2.2; omega) (fun hc => by simp at hc; have := HPW.out.2; have := HQF.out.2.2.2; omega))
                  (And.intro (HJ.out _ _ _ HCd.out.2.2.1 (show Below W.heap.size Wd (Wd.setCell ⟨q + 1, 1, none⟩ (.int .u64 (LG : Int))) from ⟨hus.os, hus.tape, hus.output, hus.size, fun k hk => Below.heap_setCell _ _ _ _ (by have := HQF.out.2.2.2; show k ≠ q + 1; omega)⟩))
                  (And.intro (show (Wd.setCell ⟨q + 1, 1, none⟩ (.int .u64 (LG : Int))).heap[q + 1]? = some (.cells #[.int .i64 (R : Int), .int .u64 (LG : Int), .int .i64 (E : Int)] 94 (0, 0)) from heap_set HCd.out.2.2.2.1 1 _)
                  (show B0 ≤ (Wd.setCell ⟨q + 1, 1, none⟩ (.int .u64 (LG : Int))).heap.size from Nat.le_trans HCd.out.2.2.2.2 hus.size)))))
                clear hus
                clear z1 zf
                go_wp2_with fail
                go_meet
                case rel => rw [HLG.out]; exact HC7.out
              · have g1 : gb = false := by rw [← HGB.out, decide_eq_false_iff_not]; omega
                subst g1
                have hz := longX_last (T := T) (j := j) (by rw [HP.out.2.2]; exact hend)
                have HZ := Lib.hid hz
                clear hz hend
                go_wp2_with fail
                go_meet
                case rel => rw [HZ.out]; exact HC6.out
            case rest =>
              obtain ⟨hc7, hst7, hJ7, hq7, hz7⟩ := hcut
              have hYY := HY.out _ (stepK Y T j) wc hJ7 (legal_take HYE.out.1 (by rw [HYE.out.2.1]; exact HTS.out.1) HTS.out.2 (by rw [HP.out.2.2]; exact HX.out.2.2.1)) (by rw [HB0.out]; exact hz7)
              rw [← steps_take Y T (by rw [HP.out.2.2]; exact HX.out.2.2.1)] at hYY
              obtain ⟨LG, hLG⟩ : ∃ LG, longX T j = LG := ⟨_, rfl⟩
              have hsk : encS (stepK Y T j) = #[.agg #[.int .i64 (R : Int), .int .u64 (LG : Int), .int .i64 (E : Int)]] := by unfold encS stepK; rw [HRE.out.1, HRE.out.2, hLG]
              rw [hLG] at hq7
              rw [hsk] at hYY
              have z0 : wc.cell? ⟨q + 1, 0, none⟩ = some (.int .i64 (R : Int)) := by simp [World.cell?, hq7]
              have z1 : wc.cell? ⟨q + 1, 1, none⟩ = some (.int .u64 (LG : Int)) := by simp [World.cell?, hq7]
              have z2 : wc.cell? ⟨q + 1, 2, none⟩ = some (.int .i64 (E : Int)) := by simp [World.cell?, hq7]
              have HC7 := Lib.hid (And.intro hc7 (And.intro hst7 hz7))
              have HYY := Lib.hid hYY
              clear hc7 hst7 hJ7 hq7 hz7 hYY hsk hLG
              go_upto_region 21 with fail
              refine (wpIn_wide (n := n + 1)).1 ?_
              obtain ⟨fn, tm, asg, bod, hy, hR⟩ := HYY.out
              gi_wp2
              refine hR.mono ?_
              rintro e w8 ⟨rfl, hJ8, G, hu8, hG8⟩
              clear hy hR z0 z1 z2
              have hgn : ∀ g ∈ G, g < B0 ∧ (g < B ∨ g = rid) := fun g hg => by
                have h1 := HRID.out
                rw [HB0.out] at h1
                have h2 := HPW.out
                rcases hG8 g hg with h | h
                · exact ⟨by omega, .inl h⟩
                · exact ⟨by omega, .inr h⟩
              have hst8 := HC7.out.2.1.upd hu8 (fun k hk hc => by have := (HDIS.out.2.1 k hk).2; have := (hgn k hc).1; omega) (fun k hk hc => by have := (HDIS.out.2.2 k hk).2; have := (hgn k hc).1; omega)
                (fun k hk hc => by have h1 := HFW.out k hk; have h2 := HRID.out; rcases (hgn k hc).2 with h | h <;> omega) (fun hc => by have h1 := HPW.out; have h2 := HRID.out; rcases (hgn p hc).2 with h | h <;> omega)
              have hc8 : ∃ N', N' ≤ j + 1 ∧ IsCov w8 b F Y (sw Y (T.take (j + 1))) N' := HC7.out.1.elim fun N' h => ⟨N', h.1, h.2.upd hu8 (fun y hy hc => by have := HDIS.out.1 y hy; have := (hgn y hc).1; omega)⟩
              have H8 := Lib.hid (And.intro hJ8 (And.intro hst8 (And.intro hc8 (Nat.le_trans HC7.out.2.2 hu8.size))))
              clear hJ8 hu8 hG8 hgn hst8 hc8
              gi_wp2
              go_wp2_with fail
              obtain ⟨hJ9, hst9, ⟨N9, hN9, hc9⟩, hz9⟩ := H8.out
              go_roundg (N0 - (j + 1))
              case measure => have := HX.out.1; have := HX.out.2.2.1; omega
              case rel => exact ⟨j + 1, N9, by have := HX.out.1; have := HX.out.2.2.1; omega, hN9, by go_num, hJ9, hc9, hst9, hz9⟩
        · have htk : (stepsL Y T).take j = stepsL Y T := List.take_of_length_le (by rw [steps_len, HP.out.2.2]; omega)
          rw [htk] at hJk
          have HEN := Lib.hid (show ∃ xs, Full l xs ∧ J xs wr from ⟨_, ⟨T, by rw [HYE.out.2.1]; exact HTS.out.1, HTS.out.2, by rw [HYE.out.1]⟩, hJk⟩)
          have b1 : ¬ (j : Int) < (N0 : Int) := by omega
          clear htk hJk hcv hst hsz hk hNk hlt
          go_wp2_with fail
          go_end0
          exact ⟨⟨_, rfl⟩, HEN.out⟩
end Go.Proofs.YtokpdocabmaagaaGreat
