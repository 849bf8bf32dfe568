/- gridironlaw20.all: the things of all buckets; and layer 4's Log. -/
import Derived.Test.YtkhgglafnjfiaaaOne
import Derived.Test.YtkhgglafnjfiaaaShelf
import Derived.Lib.ItoaNum
namespace Go.Proofs.Ytkhgglafnjfiaaa
open Go.RowKit

theorem take_step {α : Type} (l : List α) (m : Nat) : l.take (l.length / 2 ^ (m + 1) * 2 ^ (m + 1)) ++ bucketOf l m = l.take (l.length / 2 ^ m * 2 ^ m) := by
  unfold bucketOf
  split
  · rename_i hb
    rw [top_yes l.length m hb, List.take_add]
  · rename_i hb
    rw [top_no l.length m (by simpa using hb), List.append_nil]

set_option maxRecDepth 100000 in
set_option maxHeartbeats 400000 in
theorem all20 (w0 w : World) (b : Nat) (l : List Int) (wl : Nat) (R : List (Value × List Int)) (h : One w0 w b l wl R) (hl : l.length < 1000000) :
    Calls Try.prog 24 #[.pointer (some ⟨b, 0, none⟩)] w fun e w' => ∃ A C, e = .returned (.slice A l.length C) ∧ One w0 w' b l wl ((.slice A l.length C, l) :: R) := by
  obtain ⟨i1, hi1, hy0, hy1, hy2⟩ := info_parts info_int64
  have hbt := bitsN_le l.length 20 (by omega)
  have H := Lib.hid h
  clear h
  obtain ⟨B, hB⟩ : ∃ B, bitsN l.length = B := ⟨_, rfl⟩
  rw [hB] at hbt
  have HB := Lib.hid hB
  clear hB
  go_enter Try.func24, Try.ntmps24
  go_wp2_with fail
  refine (levelsO w0 w b _ _ _ H.out).mono ?_
  rintro e w' ⟨rfl, rfl⟩
  rw [HB.out]
  go_wp2_with fail
  go_loopg [3, 4] B (fun m o i wr => m ≤ B ∧ i = .int .i64 ((m : Int) - 1) ∧ ∃ A C, o = .slice A (l.take (l.length / 2 ^ m * 2 ^ m)).length C ∧ One w0 wr b l wl ((.slice A (l.take (l.length / 2 ^ m * 2 ^ m)).length C, l.take (l.length / 2 ^ m * 2 ^ m)) :: R))
  case atStart =>
    have h2 : l.length / 2 ^ B * 2 ^ B = 0 := by rw [← HB.out, Nat.div_eq_of_lt (bitsN_lt l.length), Nat.zero_mul]
    refine ⟨Nat.le_refl _, rfl, none, 0, by rw [h2]; rfl, ?_⟩
    rw [h2, List.take_zero]
    exact H.out.more (Upd.refl _ _) (World.ownsRow_nil _ _ _ _)
  case round =>
    obtain ⟨hm, rfl, A, C, rfl, ho⟩ := hrel
    have HO := Lib.hid ho
    clear ho
    obtain ⟨T, hT⟩ : ∃ T, l.take (l.length / 2 ^ gk * 2 ^ gk) = T := ⟨_, rfl⟩
    have hTl : T.length ≤ l.length := by rw [← hT, List.length_take]; omega
    have ho2 := HO.out
    rw [hT] at ho2 ⊢
    have HO2 := Lib.hid ho2
    have HT := Lib.hid hT
    clear hT HO ho2
    by_cases h0 : gk = 0
    · subst h0
      go_wp2_with fail
      go_ret
      have hTT : T = l := by rw [← HT.out]; simp
      subst hTT
      exact ⟨A, C, rfl, HO2.out⟩
    · obtain ⟨m, rfl⟩ : ∃ m, gk = m + 1 := ⟨gk - 1, by omega⟩
      have e8 : (((m + 1 : Nat) : Int) - 1) = (m : Int) := by omega
      rw [e8]
      clear e8
      go_wp2_with fail
      refine (bucketO w0 wr b m l wl _ HO2.out (by rw [HB.out]; omega) hl).mono ?_
      rintro e w2 ⟨A2, C2, rfl, ho3⟩
      obtain ⟨G, hG⟩ : ∃ G, bucketOf l m = G := ⟨_, rfl⟩
      have hGl : G.length ≤ l.length := by rw [← hG]; exact bucket_le l m
      rw [hG] at ho3 ⊢
      have HO3 := Lib.hid ho3.swap
      have HG := Lib.hid hG
      have HSE := Lib.hid (ho3.ints (v := .slice A2 G.length C2) (g := G) (by simp))
      clear ho3 hG
      go_wp2_with (at_builtin; refine wpList_app _ rfl _ _ 22 rfl w0.heap.size 2 i1 (.int .i64 0) 1 8 Try.underlying22 hi1 hy0 hy1 hy2 rfl (by decide) _ _ _ rfl (HO3.out.row (v := .slice A T.length C) (g := T) (by simp)) _ G.length (KI.all G) rfl HSE.out (KI.all_one G) (by unfold maxLen; omega) (by omega) (HO3.out.upd.size) ?_)
      intro A3 C3 w3 HP
      have HA := Lib.hid ((HO3.out.append0 rfl HP).swap.sub (List.sublist_cons_self _ _))
      clear HP
      go_wp2_with fail
      go_roundg m
      case measure => omega
      case rel =>
        have hst := take_step l m
        rw [HT.out, HG.out] at hst
        refine ⟨by omega, by go_num, A3, C3, ?_, ?_⟩
        · rw [← hst, List.length_append]
        · rw [← hst, List.length_append]
          exact HA.out

/-- How often 1 is doubled. -/
def logN (n : Nat) : Nat := bitsN (n - 1)

theorem bitLen_eq (n : Nat) (h : n < 2 ^ 64) : Lib.bitLen n = bitsN n := by
  unfold bitsN
  split
  · rename_i h0; subst h0; exact Lib.bitLenAux_zero 64
  · rename_i h0
    have hb := Lib.bitLenAux_bounds 64 n h h0
    show Lib.bitLenAux 64 n = _
    obtain ⟨m, hm⟩ : ∃ m, Lib.bitLenAux 64 n = m + 1 := ⟨Lib.bitLenAux 64 n - 1, by omega⟩
    rw [hm] at hb ⊢
    rw [Nat.add_sub_cancel] at hb
    rw [(Nat.log2_eq_iff h0).2 ⟨hb.2.1, hb.2.2⟩]

set_option maxRecDepth 100000 in
set_option maxHeartbeats 400000 in
theorem logRef (n : Nat) (w : World) (hn : n < 4611686018427387904) :
    Calls Try.prog 35 #[.int .i64 n] w fun e w' => e = .returned (.int .i64 (logN n)) ∧ w = w' := by
  by_cases h : n < 2
  · go_enter Try.func35, Try.ntmps35
    go_wp2_with fail
    go_ret
    have : logN n = 0 := by
      unfold logN bitsN
      rw [if_pos (by omega)]
    rw [this]
    exact ⟨rfl, rfl⟩
  · go_enter Try.func35, Try.ntmps35
    go_wp2_with fail
    refine (Try.bits_Len _ _ (by omega) (by omega)).mono ?_
    rintro e w' ⟨rfl, rfl⟩
    have e1 : ((n : Int) - 1).toNat = n - 1 := by omega
    have h64 : (2 : Nat) ^ 64 = 18446744073709551616 := by decide
    rw [e1, bitLen_eq _ (by rw [h64]; omega)]
    go_wp2_with fail
    go_ret
    exact ⟨rfl, rfl⟩
end Go.Proofs.Ytkhgglafnjfiaaa
