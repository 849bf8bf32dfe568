/- ivl.Build: what it is made of. -/
import Derived.Test.YtjpjlfcjkgmhdaaGreatGrown
import Derived.Test.YtjpjlfcjkgmhdaaGreatIvlR
namespace Go.Proofs.YtjpjlfcjkgmhdaaGreat
open Go.RowKit

/-- A tree in memory. -/
structure IvlAt (w : World) (b : Nat) (p vr : Value) (R : List Sp) (T : Kn) (Fk : List Nat) : Prop where
  head : w.heap[b]? = some (.cells #[.bool true, p, vr] 51 (0, 0))
  row : KSp.row w 0 vr R
  tree : KnAt w T p Fk
  bro : b ∉ blk vr
  btr : b ∉ Fk
  rtr : ∀ k ∈ blk vr, k ∉ Fk

theorem IvlAt.upd {w w' : World} {b : Nat} {p vr : Value} {R : List Sp} {T : Kn} {Fk : List Nat} (h : IvlAt w b p vr R T Fk) {F : List Nat} (hu : Upd F w w') (h1 : b ∉ F) (h2 : ∀ k ∈ blk vr, k ∉ F) (h3 : ∀ k ∈ Fk, k ∉ F) : IvlAt w' b p vr R T Fk :=
  ⟨(hu.block b (lt_of_block h.head) h1).trans h.head, own_upd h.row hu h2, h.tree.upd hu h3, h.bro, h.btr, h.rtr⟩
theorem IvlAt.upd0 {w w' : World} {b : Nat} {p vr : Value} {R : List Sp} {T : Kn} {Fk : List Nat} (h : IvlAt w b p vr R T Fk) (hu : Upd [] w w') : IvlAt w' b p vr R T Fk := h.upd hu (by simp) (by simp) (by simp)

theorem IvlAt.cells {w : World} {b : Nat} {p vr : Value} {R : List Sp} {T : Kn} {Fk : List Nat} (h : IvlAt w b p vr R T Fk) :
    w.cell? ⟨b, 0, none⟩ = some (.bool true) ∧ w.cell? ⟨b, 1, none⟩ = some p ∧ w.cell? ⟨b, 2, none⟩ = some vr ∧ ∀ j, w.frozen? ⟨b, j, none⟩ = false := by
  have := h.head
  refine ⟨?_, ?_, ?_, ?_⟩ <;> simp [World.cell?, World.frozen?, this]

/-- A tree of spans S, built of N. -/
structure IsIvl (w : World) (b : Nat) (F : List Nat) (S : List Sp) (N : Nat) : Prop where
  at_ : ∃ (p vr : Value) (R : List Sp) (T : Kn) (Fk : List Nat), IvlAt w b p vr R T Fk ∧ (∀ k, k = b ∨ k ∈ blk vr ∨ k ∈ Fk → k ∈ F) ∧ R.Perm S ∧ R.Pairwise (fun a b => a.lo ≤ b.lo) ∧ T.ok R ∧ T.depth ≤ bitsN (2 * N)
  right : ∀ s ∈ S, s.lo ≤ s.hi
  names : (S.map Sp.id).Nodup
  many : S.length ≤ N
  few : N ≤ 1000
  flt : ∀ k ∈ F, k < w.heap.size

theorem IsIvl.upd {w w' : World} {b : Nat} {F : List Nat} {S : List Sp} {N : Nat} (h : IsIvl w b F S N) {G : List Nat} (hu : Upd G w w') (hd : ∀ k ∈ F, k ∉ G) : IsIvl w' b F S N := by
  obtain ⟨p, vr, R, T, Fk, h1, h2, h3⟩ := h.at_
  exact ⟨⟨p, vr, R, T, Fk, h1.upd hu (hd _ (h2 _ (.inl rfl))) (fun k hk => hd _ (h2 _ (.inr (.inl hk)))) (fun k hk => hd _ (h2 _ (.inr (.inr hk)))), h2, h3⟩, h.right, h.names, h.many, h.few, fun k hk => Nat.lt_of_lt_of_le (h.flt k hk) hu.size⟩
theorem IsIvl.upd0 {w w' : World} {b : Nat} {F : List Nat} {S : List Sp} {N : Nat} (h : IsIvl w b F S N) (hu : Upd [] w w') : IsIvl w' b F S N := h.upd hu (by simp)

theorem growIn_ends {l R : List Sp} (hr : ∀ s ∈ l, s.lo ≤ s.hi) (hp : R.Perm l) (hs : R.Pairwise fun a b => a.lo ≤ b.lo) : GrowIn (endsS l) R := by
  refine ⟨endsS_rise l, fun s h => ?_, hs⟩
  have h1 := hp.mem_iff.1 h
  exact ⟨mem_sqz (List.mem_flatMap.2 ⟨s, h1, by simp⟩), mem_sqz (List.mem_flatMap.2 ⟨s, h1, by simp⟩), hr s h1⟩

theorem bitsN_mono {a b : Nat} (h : a ≤ b) : bitsN a ≤ bitsN b := bitsN_le a _ (Nat.lt_of_le_of_lt h (bitsN_lt b))

set_option maxRecDepth 100000 in
set_option maxHeartbeats 8000000 in
theorem ivlBuildOk (v : Value) (l : List Sp) (w : World) (h : See KSp w v l) (hid : ∀ s ∈ l, s.id < 4294967296) (hl : l.length ≤ 1000) (hr : rightS l = true) :
    Calls Tryz.prog 5 #[v] w fun e w' => Upd [] w w' ∧ ∃ b F, e = .returned (.tuple #[.pointer (some ⟨b, 0, none⟩), .int .i64 0]) ∧ IsIvl w' b F l l.length ∧ ∀ k ∈ F, w.heap.size ≤ k := by
  obtain ⟨A, C, rfl⟩ := h.form
  have hri := ivlRight _ l w h hid (by omega)
  rw [hr] at hri
  obtain ⟨hr1, hr2⟩ := rightS_iff.1 hr
  obtain ⟨N, hN⟩ : ∃ N, l.length = N := ⟨_, rfl⟩
  rw [hN] at hri hl ⊢
  obtain ⟨i0, hi0, hz0, hz1, hz2⟩ := info_parts info_int64
  have HR := Lib.hid hri
  have H := Lib.hid h
  have HN := Lib.hid hN
  have HR1 := Lib.hid (And.intro hr1 hr2)
  have b0 : (0 : Int) ≤ (N : Int) := Int.natCast_nonneg _
  have b1 : (N : Int) ≤ 1000 := by omega
  clear h hid hr hN hri hr1 hr2
  go_enter Tryz.func5, Tryz.ntmps5
  go_wp2_with fail
  (with_reducible refine HR.out.mono ?_)
  rintro e w0 ⟨rfl, u0⟩
  have hcl := cloneSp _ l w0 (H.out.upd0 u0) (by rw [HN.out]; omega)
  rw [HN.out] at hcl
  have HCL := Lib.hid hcl
  have HU0 := Lib.hid u0
  clear u0 hcl
  go_wp2_with fail
  (with_reducible refine HCL.out.mono ?_)
  rintro e w3 ⟨u3, A3, C3, rfl, r3⟩
  have hso := sortLoAny w0.heap.size _ l w3 r3 (by rw [HN.out]; omega)
  rw [HN.out] at hso r3 ⊢
  have HSO := Lib.hid hso
  have HU3 := Lib.hid (And.intro r3 (HU0.out.trans u3))
  clear u3 r3 hso
  go_wp2_with fail
  (with_reducible refine HSO.out.mono ?_)
  rintro e w1 ⟨rfl, u1, R, hp, hpw, r1⟩
  have hRl : R.length = N := by rw [hp.length_eq, HN.out]
  obtain ⟨vr, hvr⟩ : ∃ vr, Value.slice A3 N C3 = vr := ⟨_, rfl⟩
  rw [hvr] at r1 u1 HU3 ⊢
  have HU := Lib.hid (HU3.out.2.trans' u1 (fun y hy => .inr (by have h1 := own_ge r1 y hy; have h2 := HU0.out.size; omega)))
  have HP := Lib.hid (And.intro hp (And.intro hpw (And.intro r1 (And.intro hRl hvr))))
  clear u1 hp hpw r1 hRl hvr
  go_wp2_with fail
  go_loopg [5, 20] N (fun m s5 s20 wr => ∃ (k : Nat) (vo : Value), m + k = N ∧ s5 = vo ∧ s20 = .int .i64 (k : Int) ∧ KL.row wr w1.heap.size vo (endsL (l.take k)) ∧ Upd [] w1 wr)
  case atStart => exact ⟨0, _, rfl, rfl, rfl, World.ownsRow_nil _ _ _ _, Upd.refl _ _⟩
  case round =>
    obtain ⟨k, vo, hk, rfl, rfl, hrow, hup⟩ := hrel
    have k0 : (0 : Int) ≤ (k : Int) := Int.natCast_nonneg _
    have hkN : k ≤ N := by omega
    have hwz := hup.size
    have HK := Lib.hid hk
    have HROW := Lib.hid hrow
    have HUP := Lib.hid hup
    clear hk hrow hup
    by_cases hlt : k < N
    · obtain ⟨s, hs⟩ : ∃ s, l[k]? = some s := ⟨_, List.getElem?_eq_getElem (by rw [HN.out]; exact hlt)⟩
      have hse : See KSp wr (.slice A l.length C) l := H.out.upd0 (HU.out.trans HUP.out)
      obtain ⟨g, o, rfl, -, -, ey⟩ := hse.at hs
      have htk : endsL (l.take (k + 1)) = endsL (l.take k) ++ [s.lo, s.hi] := by
        obtain ⟨h1, h2⟩ := List.getElem?_eq_some_iff.1 hs
        rw [List.take_succ_eq_append_getElem h1, h2, endsL_app]
        simp [endsL]
      have hlen : (endsL (l.take k)).length = 2 * k := by rw [endsL_len, List.length_take, HN.out]; omega
      have y0 : wr.cell? ⟨g, o + k * 3, none⟩ = some (.int .i64 s.lo) := ey 0 _ rfl
      have y1 : wr.cell? ⟨g, o + k * 3 + 1, none⟩ = some (.int .i64 s.hi) := ey 1 _ rfl
      have y2 : wr.cell? ⟨g, o + k * 3 + 2, none⟩ = some (.int .u32 (s.id : Int)) := ey 2 _ rfl
      have b2 : (k : Int) < (N : Int) := by omega
      have HTK := Lib.hid htk
      have HLE := Lib.hid hlen
      have hrow2 := HROW.out
      unfold Kind.row at hrow2
      rw [hlen] at hrow2
      have HR2 := Lib.hid hrow2
      clear hs hse ey htk hlen hrow2
      obtain ⟨wl, hwl⟩ : ∃ wl : World, wl = wr := ⟨_, rfl⟩
      subst hwl
      go_upto_region 11 with fail
      have hu2 : Upd [] wl (wl.alloc (.cells #[.int .i64 s.lo, .int .i64 s.hi, .int .u32 (s.id : Int)] 39)) := (Upd.refl _ _).alloc _
      have d0 : (wl.alloc (.cells #[.int .i64 s.lo, .int .i64 s.hi, .int .u32 (s.id : Int)] 39)).cell? ⟨wl.heap.size, 0, none⟩ = some (.int .i64 s.lo) := by rw [World.cell?_alloc_at _ _ _ _ rfl]; rfl
      have d1 : (wl.alloc (.cells #[.int .i64 s.lo, .int .i64 s.hi, .int .u32 (s.id : Int)] 39)).cell? ⟨wl.heap.size, 1, none⟩ = some (.int .i64 s.hi) := by rw [World.cell?_alloc_at _ _ _ _ rfl]; rfl
      generalize (wl.alloc (.cells #[.int .i64 s.lo, .int .i64 s.hi, .int .u32 (s.id : Int)] 39)) = W2 at hu2 d0 d1 ⊢
      have hwz2 : w1.heap.size ≤ W2.heap.size := Nat.le_trans hwz hu2.size
      have HU2 := Lib.hid (HUP.out.trans hu2)
      have HR3 := Lib.hid (own_upd HR2.out hu2 (by simp))
      clear hu2 y0 y1 y2
      go_wp2_with (at_builtin; refine wpList_app _ rfl _ _ 46 rfl w1.heap.size 2 i0 (.int .i64 0) 1 8 Tryz.underlying46 hi0 hz0 hz1 hz2 rfl (by decide) _ (2 * k) (KL.all (endsL (l.take k))) rfl (own_upd HR3.out ((Upd.refl [] _).alloc _) (by simp)) _ 2 [.int .i64 s.lo, .int .i64 s.hi] rfl (sees_lit W2 #[.int .i64 s.lo, .int .i64 s.hi] 2 1 2 rfl (by decide)) (by simp [Value.oneCell']) (by unfold maxLen; omega) (by omega) (by simp; omega) ?_)
      intro A2 C2 W3 HP3
      have HP4 := Lib.hid HP3
      clear HP3 d0 d1
      go_wp2_with fail
      go_roundg (N - (k + 1))
      case measure => have := HK.out; omega
      case rel =>
        have hu3 := ((Upd.refl _ W2).alloc (.cells #[.int .i64 s.lo, .int .i64 s.hi] 2)).trans HP4.out.upd
        refine ⟨k + 1, _, by have := HK.out; omega, rfl, by go_num, ?_, HU2.out.trans' hu3 (fun y hy => .inr (own_ge HR3.out y hy))⟩
        rw [HTK.out]
        unfold Kind.row
        rw [List.length_append, HLE.out, KL.all_app]
        exact HP4.out.own
    · have hkN' : k = N := by omega
      have hL' : l.take k = l := by rw [hkN', ← HN.out]; exact List.take_length
      have hrow := HROW.out
      rw [hL'] at hrow
      obtain ⟨Ae, Ce, rfl⟩ := own_form hrow
      have hle := endsL_len l
      rw [HN.out] at hle
      have hsq := squeezeC _ (endsL l) wr (See.of_row hrow) (by omega)
      rw [hle] at hsq
      rw [hle]
      have HSQ := Lib.hid hsq
      have HUW := Lib.hid HUP.out
      clear hL' hrow hsq hle hkN'
      go_wp2_with fail
      (with_reducible refine HSQ.out.mono ?_)
      rintro e w2 ⟨A2, C2, rfl, s1, s2⟩
      have hE1 : (endsS l).length ≤ 2 * N := by have := endsS_len l; rw [HN.out] at this; exact this
      have hu12 := HUW.out.trans s2
      have hgr := grownC (endsS l).length (endsS l) R (.slice A2 (endsS l).length C2) vr w2 (Nat.le_refl _) (by omega) (by rw [HP.out.2.2.2.1]; omega) (growIn_ends HR1.out.1 HP.out.1 HP.out.2.1) (See.of_row s1) (See.of_row (own_upd HP.out.2.2.1 hu12 (by simp)))
      have HGR := Lib.hid hgr
      have HE1 := Lib.hid hE1
      have HU12 := Lib.hid hu12
      clear hgr hE1 s1 s2 hu12
      unfold endsS at HGR
      go_wp2_with fail
      (with_reducible refine HGR.out.mono ?_)
      rintro e w5 ⟨u5, p, Fk, T, rfl, kT, gT, dT, oT⟩
      obtain ⟨q, rfl⟩ := kT.ptr
      have HT := Lib.hid (And.intro u5 (And.intro kT (And.intro gT (And.intro dT oT))))
      have HVR := Lib.hid HP.out.2.2.2.2
      clear u5 kT gT dT oT
      subst vr
      go_wp2_with fail
      go_ret2
      have hu15 := HU12.out.trans HT.out.1
      have hua : Upd [] w5 (w5.alloc (.cells #[.bool true, .pointer q, .slice A3 N C3] 51)) := (Upd.refl _ _).alloc _
      have hrw := HP.out.2.2.1
      have hlt1 := own_lt hrw
      have hge1 := own_ge hrw
      have hz0 := HU0.out.size
      have hz1 := HU.out.size
      have hz5 := hu15.size
      have hz2 := HU12.out.size
      refine ⟨(HU.out.trans hu15).trans hua, w5.heap.size, w5.heap.size :: (blk (.slice A3 N C3) ++ Fk), rfl, ⟨⟨.pointer q, .slice A3 N C3, R, T, Fk, ⟨heap_alloc_new _ _, own_base (own_upd hrw (hu15.trans hua) (by simp)) (Nat.zero_le _), HT.out.2.1.upd0 hua, fun hc => by have := hlt1 _ hc; omega, fun hc => by have := HT.out.2.1.lt _ hc; omega, fun k hk hc => by have h1 := hlt1 k hk; have h2 := HT.out.2.2.1 k hc; omega⟩,
        fun k hk => ?_, HP.out.1, HP.out.2.1, HT.out.2.2.2.2, Nat.le_trans HT.out.2.2.2.1 (bitsN_mono HE1.out)⟩, HR1.out.1, HR1.out.2, by rw [HN.out]; omega, by omega, fun k hk => ?_⟩, fun k hk => ?_⟩
      · simp only [List.mem_cons, List.mem_append]
        exact hk
      · simp only [List.mem_cons, List.mem_append] at hk
        have hza := hua.size
        have hzb : w5.heap.size < (w5.alloc (.cells #[.bool true, .pointer q, .slice A3 N C3] 51)).heap.size := by simp
        rcases hk with hk | hk | hk
        · omega
        · have := hlt1 k hk; omega
        · have := HT.out.2.1.lt k hk; omega
      · simp only [List.mem_cons, List.mem_append] at hk
        rcases hk with hk | hk | hk
        · omega
        · have := hge1 k hk; omega
        · have := HT.out.2.2.1 k hk; omega
end Go.Proofs.YtjpjlfcjkgmhdaaGreat
