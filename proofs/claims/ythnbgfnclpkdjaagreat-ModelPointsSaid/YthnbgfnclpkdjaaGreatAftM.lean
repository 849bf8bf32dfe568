/- gridironlaw26.after: a model behind some operations. -/
import Derived.Test.YthnbgfnclpkdjaaGreatTolM
namespace Go.Proofs.YthnbgfnclpkdjaaGreat
open Go.RowKit

def KOp : Kind OpP := { T := 0, sT := 22, eT := 25, sz := 6, enc := fun o => [.int .u8 (o.code : Int), .int .i64 o.a, .int .i64 o.b, .int .i64 o.c, .int .i64 o.d, .int .u32 (o.id : Int)], len := fun _ => rfl, one := fun b u hu => by simp at hu; rcases hu with rfl | rfl | rfl | rfl | rfl | rfl <;> rfl }

theorem KOp.at {w : World} {A : Option Addr} {n C : Nat} {l : List OpP} (h : See KOp w (.slice A n C) l) {k : Nat} {x : OpP} (hx : l[k]? = some x) :
    ∃ b o, A = some ⟨b, o, none⟩ ∧ n ≤ C ∧ C ≤ maxLen ∧ w.cell? ⟨b, o + k * 6, none⟩ = some (.int .u8 (x.code : Int)) ∧ w.cell? ⟨b, o + k * 6 + 1, none⟩ = some (.int .i64 x.a) ∧ w.cell? ⟨b, o + k * 6 + 2, none⟩ = some (.int .i64 x.b) ∧ w.cell? ⟨b, o + k * 6 + 3, none⟩ = some (.int .i64 x.c) ∧ w.cell? ⟨b, o + k * 6 + 4, none⟩ = some (.int .i64 x.d) ∧ w.cell? ⟨b, o + k * 6 + 5, none⟩ = some (.int .u32 (x.id : Int)) := by
  obtain ⟨b, o, h1, h2, h3, h4⟩ := See.at h hx
  exact ⟨b, o, h1, h2, h3, h4 0 _ rfl, h4 1 _ rfl, h4 2 _ rfl, h4 3 _ rfl, h4 4 _ rfl, h4 5 _ rfl⟩

/-- A model behind operations. -/
def runM (A R : List Bx → Nat) (m : Md) (l : List OpP) : Md := l.foldl (fun m o => (doM A R m o).1) m
theorem runM_step {A R : List Bx → Nat} {m : Md} {l : List OpP} {k : Nat} {o : OpP} (h : l[k]? = some o) : runM A R m (l.take (k + 1)) = (doM A R (runM A R m (l.take k)) o).1 := by
  obtain ⟨h1, h2⟩ := List.getElem?_eq_some_iff.1 h
  unfold runM
  rw [List.take_succ_eq_append_getElem h1, h2, List.foldl_append]
  rfl
theorem runM_room {A R : List Bx → Nat} (l : List OpP) : ∀ m : Md, (runM A R m l).room = m.room := by
  induction l with
  | nil => intro m; rfl
  | cons o l ih => intro m; exact (ih _).trans doM_room

set_option maxRecDepth 100000 in
set_option maxHeartbeats 4000000 in
theorem afterC {A R : List Bx → Nat} (ar : AR A R) (room : Nat) (hroom : room < 256) (v : Value) (L : List OpP) (w : World) (hs : See KOp w v L) (hl : L.length < 9223372036854775808) (hin : ∀ o ∈ L, o.in64) :
    Calls Tryz.prog 11 #[.int .u8 (room : Int), v] w fun e w' => ∃ h p s x, e = .returned (.pointer (some ⟨h, 0, none⟩)) ∧ MM w' h p s x (runM A R ⟨1 + room, [], [], []⟩ (L.take 60)) 60 ∧ Upd [] w w' ∧ w.heap.size ≤ h ∧ w.heap.size ≤ p ∧ w.heap.size ≤ s ∧ w.heap.size ≤ x := by
  obtain ⟨A', C', rfl⟩ := hs.form
  obtain ⟨n, hn⟩ : ∃ n, L.length = n := ⟨_, rfl⟩
  rw [hn] at hs hl ⊢
  have HS := Lib.hid (And.intro hs (And.intro hn hin))
  have r0 : (0 : Int) ≤ (room : Int) := Int.natCast_nonneg _
  have r1 : (room : Int) < 256 := by omega
  have n0 : (0 : Int) ≤ (n : Int) := Int.natCast_nonneg _
  have n1 : (n : Int) < 9223372036854775808 := by omega
  have HRM := Lib.hid hroom
  have hw1 : Value.int .i64 (wrap64 (1 + (room : Int))) = Value.int .i64 (1 + (room : Int)) := by rw [IntWalk.wrap64_in _ ⟨by omega, by omega⟩]
  clear hs hn hin hl hroom
  go_enter Tryz.func11, Tryz.ntmps11
  go_wp2_with fail
  (with_reducible refine (newMC (1 + (room : Int)) _).mono ?_)
  rintro e w1 ⟨hu, hnew⟩
  rw [if_pos (by omega)] at hnew
  obtain ⟨h, p, s, x, rfl, hmd, g1, g2, g3, g4⟩ := hnew
  have hmm : MM w1 h p s x (runM A R ⟨1 + room, [], [], []⟩ (L.take 0)) 0 := by
    have e : (1 + (room : Int)).toNat = 1 + room := by omega
    rw [e] at hmd
    exact ⟨hmd, in64_nil _, Nat.le_refl _, Nat.le_refl _, Nat.le_refl _⟩
  have HN := Lib.hid (And.intro hu (And.intro hmm (And.intro g1 (And.intro g2 (And.intro g3 g4)))))
  clear hu hmd hmm g1 g2 g3 g4 hw1 r0 r1
  go_wp2_with fail
  go_loopg [7] n (fun m s7 wr => ∃ k, m + k = n ∧ k ≤ 60 ∧ s7 = .int .i64 (k : Int) ∧ MM wr h p s x (runM A R ⟨1 + room, [], [], []⟩ (L.take k)) k ∧ Upd [p, s, x] w1 wr)
  case atStart => exact ⟨0, rfl, by omega, rfl, HN.out.2.1, Upd.refl _ _⟩
  case round =>
    obtain ⟨k, hk, hk60, rfl, hm, hu⟩ := hrel
    have HK := Lib.hid (And.intro hk (And.intro hk60 (And.intro hm hu)))
    have k0 : (0 : Int) ≤ (k : Int) := Int.natCast_nonneg _
    have k3 : (k : Int) < 100 := by omega
    have hfin : ∀ K, K = L.take k → L.take 60 = K → (∃ h' p' s' x', (Ending.returned (.pointer (some ⟨h, 0, none⟩))) = .returned (.pointer (some ⟨h', 0, none⟩)) ∧ MM wr h' p' s' x' (runM A R ⟨1 + room, [], [], []⟩ (L.take 60)) 60 ∧ Upd [] w wr ∧ w.heap.size ≤ h' ∧ w.heap.size ≤ p' ∧ w.heap.size ≤ s' ∧ w.heap.size ≤ x') := by
      rintro K rfl e
      rw [e]
      have hh := HN.out.2.2
      refine ⟨h, p, s, x, rfl, ⟨hm.at', hm.in64, by have := hm.small; omega⟩, HN.out.1.trans' hu (fun y hy => .inr ?_), hh⟩
      simp only [List.mem_cons, List.not_mem_nil, or_false] at hy
      rcases hy with rfl | rfl | rfl
      · exact hh.2.1
      · exact hh.2.2.1
      · exact hh.2.2.2
    have HFIN := Lib.hid hfin
    clear hfin hm
    by_cases hlt : k < n
    · have i1 : (k : Int) < (n : Int) := by omega
      by_cases h60 : k < 60
      · have i2 : (k : Int) < 60 := by omega
        obtain ⟨o, ho⟩ : ∃ o, L[k]? = some o := ⟨_, List.getElem?_eq_getElem (by rw [HS.out.2.1]; exact hlt)⟩
        have hsee := (HS.out.1.upd0 HN.out.1).updM (by decide) HN.out.2.1.at' hu
        obtain ⟨b, of, rfl, -, -, c0, c1, c2, c3, c4, c5⟩ := KOp.at hsee ho
        have hin := HS.out.2.2 o (List.mem_of_getElem? ho)
        have HO := Lib.hid (And.intro ho (And.intro hlt (And.intro h60 hin)))
        have hdo := doMM ar HK.out.2.2.1 (by omega) o hin
        unfold opV at hdo
        have HDO := Lib.hid hdo
        clear hsee ho hlt h60 hin hdo hk hk60 hu
        go_wp2_with fail
        (with_reducible refine HDO.out.mono ?_)
        rintro e w8 ⟨⟨u, rfl, -⟩, hmm, hup⟩
        have HR := Lib.hid (And.intro hmm hup)
        clear hmm hup c0 c1 c2 c3 c4 c5
        go_wp2_with fail
        go_roundg (n - (k + 1))
        case measure => have := HK.out; have := HO.out.2.1; omega
        case rel => exact ⟨k + 1, by have := HK.out.1; have := HO.out.2.1; omega, by have := HO.out.2.2.1; omega, by go_num, by rw [runM_step HO.out.1]; exact HR.out.1, HK.out.2.2.2.trans HR.out.2⟩
      · have e : L.take 60 = L.take k := by rw [show k = 60 by omega]
        have HE := Lib.hid (HFIN.out _ rfl e)
        obtain ⟨c, hc⟩ : ∃ c : Int, (k : Int) = c := ⟨_, rfl⟩
        rw [hc] at i1 ⊢
        have d6 : c = 60 := by omega
        clear e hk hk60 hu k0 k3 h60 hlt hc
        subst d6
        go_wp2_with fail
        go_ret
        exact HE.out
    · have e : L.take 60 = L.take k := by rw [List.take_of_length_le (by rw [HS.out.2.1]; omega), List.take_of_length_le (by rw [HS.out.2.1]; omega)]
      have HE := Lib.hid (HFIN.out _ rfl e)
      clear e hk hk60 hu
      go_wp2_with fail
      go_ret
      exact HE.out
end Go.Proofs.YthnbgfnclpkdjaaGreat
