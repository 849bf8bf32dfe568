/- The document's cover: Add. -/
import Derived.Test.YtcpompbiohaomaaRefH
namespace Go.Proofs.Ytcpompbiohaomaa
open Go.RowKit

/-- What Add or Drop of the document's cover leaves. -/
def RStep (w : World) (r : Nat) (mv hv : Value) (M : List Int) (H' : List (Nat × Nat)) (k : Nat) (x : Int) (e : Ending) (w' : World) : Prop :=
  e = .returned (.tuple #[.int .i64 (k : Int), .int .i64 x]) ∧ ∃ hv', RcAt w' r mv hv' M H' ∧ Upd [r] w w' ∧ ∀ y ∈ blk hv', y ∈ blk hv ∨ w.heap.size ≤ y

theorem place_in {M : List Int} {x : Int} (h : x ∈ M) : placeZ M x = (below M x : Int) := by unfold placeZ; rw [if_pos h]
theorem place_out {M : List Int} {x : Int} (h : ¬ x ∈ M) : placeZ M x = -1 := by unfold placeZ; rw [if_neg h]

/-- The tests of the two places. -/
theorem span_tests {M : List Int} (lo hi : Int) (hM : M.Pairwise (· < ·)) :
    (spanOk M lo hi = true ∧ placeZ M lo = ((spanP M lo hi).1 : Int) ∧ placeZ M hi = ((spanP M lo hi).2 : Int) ∧ (spanP M lo hi).1 ≤ (spanP M lo hi).2 ∧ (spanP M lo hi).2 < M.length) ∨
    (spanOk M lo hi = false ∧ (placeZ M lo < 0 ∨ (¬ placeZ M lo < 0 ∧ placeZ M hi < 0) ∨ (¬ placeZ M lo < 0 ∧ ¬ placeZ M hi < 0 ∧ placeZ M hi < placeZ M lo))) := by
  unfold spanOk spanP
  dsimp only
  by_cases h1 : lo ∈ M
  · by_cases h2 : hi ∈ M
    · have hlt := (List.getElem?_eq_some_iff.1 ((mem_below hM hi).1 h2)).1
      rw [place_in h1, place_in h2, decide_eq_true h1, decide_eq_true h2]
      by_cases h3 : below M lo ≤ below M hi
      · rw [decide_eq_true h3]
        exact .inl ⟨rfl, rfl, rfl, h3, hlt⟩
      · rw [decide_eq_false h3]
        exact .inr ⟨rfl, .inr (.inr ⟨by omega, by omega, by omega⟩)⟩
    · rw [place_in h1, place_out h2, decide_eq_true h1, decide_eq_false h2]
      exact .inr ⟨rfl, .inr (.inl ⟨by omega, by omega⟩)⟩
  · rw [place_out h1, decide_eq_false h1]
    exact .inr ⟨rfl, .inl (by omega)⟩

def raddH (M : List Int) (H : List (Nat × Nat)) (lo hi : Int) : List (Nat × Nat) := if spanOk M lo hi = true then H ++ [spanP M lo hi] else H

set_option maxRecDepth 100000 in
set_option maxHeartbeats 8000000 in
theorem raddC (r : Nat) (mv hv : Value) (M : List Int) (H : List (Nat × Nat)) (lo hi : Int) (w : World) (h : RcAt w r mv hv M H) (hM : M.Pairwise (· < ·)) (hl : M.length < 1000) (hH : H.length < 100000) :
    Calls Try.prog 13 #[.pointer (some ⟨r, 0, none⟩), .int .i64 lo, .int .i64 hi] w (RStep w r mv hv M (raddH M H lo hi) (addK M lo hi) (addX M lo hi)) := by
  obtain ⟨i0, hi0, hz0, hz1, hz2⟩ := info_parts kh_info
  have hp := fun x w h => rplaceC r mv hv M H x w h hM (by omega)
  have ht := span_tests lo hi hM
  have hp1 := hp lo w h
  have hp2 := hp hi w h
  obtain ⟨a, ha⟩ : ∃ a, placeZ M lo = a := ⟨_, rfl⟩
  obtain ⟨b, hb⟩ : ∃ b, placeZ M hi = b := ⟨_, rfl⟩
  rw [ha] at ht hp1
  rw [hb] at ht hp2
  have HP1 := Lib.hid hp1
  have HP2 := Lib.hid hp2
  clear hp hp1 hp2 ha hb
  rcases ht with ⟨hok, e1, e2, hle, hlt⟩ | ⟨hok, ht⟩
  · obtain ⟨s, hs⟩ : ∃ s, spanP M lo hi = s := ⟨_, rfl⟩
    rw [hs] at e1 e2 hle hlt
    have q1 : raddH M H lo hi = H ++ [s] := by unfold raddH; rw [if_pos hok, hs]
    have q2 : addK M lo hi = entN s (M.length - 1) := by unfold addK; rw [if_pos hok, hs]
    have q3 : addX M lo hi = 0 := by unfold addX; rw [if_pos hok]
    rw [q1, q2, q3]
    obtain ⟨p, q⟩ := s
    dsimp only at e1 e2 hle hlt
    subst e1 e2
    have hen := fun hv H w h => renteredC r mv hv M H p q w h hl hle hlt
    obtain ⟨E, hE⟩ : ∃ E, entN (p, q) (M.length - 1) = E := ⟨_, rfl⟩
    rw [hE] at hen ⊢
    obtain ⟨n, hn⟩ : ∃ n, H.length = n := ⟨_, rfl⟩
    obtain ⟨Ah, Ch, rfl⟩ := own_form h.held
    obtain ⟨c0, c1, cf⟩ := h.cells
    have cf1 := cf 1
    have hsee : See KH w (.slice Ah H.length Ch) H := See.of_row h.held
    unfold See at hsee
    rw [hn] at hsee c1 hH
    have d1 : decide ((p : Int) < 0) = false := decide_eq_false (by omega)
    have d2 : decide ((q : Int) < 0) = false := decide_eq_false (by omega)
    have d3 : decide ((q : Int) < (p : Int)) = false := decide_eq_false (by omega)
    have d3' : decide (q < p) = false := decide_eq_false (by omega)
    have HEN := Lib.hid hen
    have HH := Lib.hid h
    have HSEE := Lib.hid (And.intro hsee (And.intro hn hH))
    have hrl := lt_of_block h.head
    have HRL := Lib.hid hrl
    have HHL := Lib.hid (fun k hk => own_lt h.held k hk)
    clear hok hs q1 q2 q3 hen hE h hsee cf hn hH hM hl hle hlt hrl c0
    go_enter Try.func13, Try.ntmps13
    go_wp2_with fail
    (with_reducible refine HP1.out.mono ?_)
    rintro e w' ⟨rfl, rfl⟩
    go_wp2_with fail
    (with_reducible refine HP2.out.mono ?_)
    rintro e w' ⟨rfl, rfl⟩
    go_upto_region 4 with fail
    have hrl := HRL.out
    go_wp2_with (at_builtin; refine wpList_app _ rfl _ _ 33 rfl w'.heap.size 71 i0 (.agg #[.int .i64 0, .int .i64 0]) 2 16 Try.underlying33 hi0 hz0 hz1 hz2 rfl (by decide) _ 0 [] rfl (World.ownsRow_made w' #[] 0 (Nat.le_refl _) (by decide) rfl) _ n (KH.all H) rfl (sees_upd HSEE.out.1 ((Upd.refl [] w').alloc _) (by simp)) (KH.all_one H) (by have := HSEE.out.2.2; unfold maxLen; omega) (by have := HSEE.out.2.2; omega) (by simp) ?_)
    intro A1 C1 w3 HP1
    have hu3 : Upd [] w' w3 := ((Upd.refl [] w').alloc _).trans' HP1.upd (fun k hk => .inr (by simp [blk] at hk; omega))
    have ho3 : w3.ownsRow w'.heap.size 71 2 (.slice A1 n C1) n (KH.all H) := by simpa using HP1.own
    have HO3 := Lib.hid (And.intro ho3 hu3)
    clear HP1 hu3 ho3
    go_wp2_with (at_builtin; refine wpList_app _ rfl _ _ 33 rfl w'.heap.size 71 i0 (.agg #[.int .i64 0, .int .i64 0]) 2 16 Try.underlying33 hi0 hz0 hz1 hz2 rfl (by decide) _ n (KH.all H) rfl (own_upd HO3.out.1 ((Upd.refl [] w3).alloc _) (by simp)) _ 1 [.int .i64 (p : Int), .int .i64 (q : Int)] rfl (sees_lit w3 #[.int .i64 (p : Int), .int .i64 (q : Int)] 71 2 1 rfl (by decide)) (by simp [Value.oneCell']) (by have := HSEE.out.2.2; unfold maxLen; omega) (by have := HSEE.out.2.2; omega) (by have := HO3.out.2.size; simp; omega) ?_)
    intro A2 C2 w4 HP2
    have hu4 : Upd [] w' w4 := (HO3.out.2.alloc _).trans' HP2.upd (fun k hk => .inr (own_ge HO3.out.1 k hk))
    have hrow : KH.row w4 w'.heap.size (.slice A2 (n + 1) C2) (H ++ [(p, q)]) := by
      have h := HP2.own
      unfold Kind.row
      rw [List.length_append, Kind.all_app, HSEE.out.2.1]
      exact h
    have h4 := HH.out.upd0 hu4
    obtain ⟨-, f1, ff⟩ := h4.cells
    rw [HSEE.out.2.1] at f1
    have ff1 := ff 1
    have HE := Lib.hid (And.intro hu4 (And.intro hrow h4))
    clear HP2 hu4 hrow h4 ff c1 cf1
    have hput := HE.out.2.2.put HE.out.2.1 (fun hc => by have := own_ge HE.out.2.1 r hc; omega) (fun h0 k hk hc => by
      have h1 := own_ge HE.out.2.1 k hc
      have h2 := see_lt HH.out.marks h0 k hk
      omega)
    have hup : Upd [r] w' (w4.setCell ⟨r, 1, none⟩ (.slice A2 (n + 1) C2)) := (HE.out.1.mono (by simp)).setCell (.inl (by simp)) _
    have HPUT := Lib.hid (And.intro hput (And.intro hup (fun k hk => own_ge HE.out.2.1 k hk)))
    have HEN4 := Lib.hid (HEN.out _ _ _ hput)
    clear hput hup
    go_wp2_with fail
    (with_reducible refine HEN4.out.mono ?_)
    rintro e w5 ⟨rfl, hu5⟩
    have HF := Lib.hid (And.intro (HPUT.out.1.upd0 hu5) (HPUT.out.2.1.trans (hu5.mono (by simp))))
    clear hu5
    go_wp2_with fail
    go_ret2
    exact ⟨rfl, _, HF.out.1, HF.out.2, fun y hy => .inr (HPUT.out.2.2 y hy)⟩
  · have q1 : raddH M H lo hi = H := by unfold raddH; rw [if_neg (by rw [hok]; decide)]
    have q2 : addK M lo hi = 0 := by unfold addK; rw [if_neg (by rw [hok]; decide)]
    have q3 : addX M lo hi = 2 := by unfold addX; rw [if_neg (by rw [hok]; decide)]
    rw [q1, q2, q3]
    have HH := Lib.hid h
    clear hok q1 q2 q3 h
    rcases ht with h1 | ⟨h1, h2⟩ | ⟨h1, h2, h3⟩
    · have d1 : decide (a < 0) = true := decide_eq_true h1
      clear h1
      go_enter Try.func13, Try.ntmps13
      go_wp2_with fail
      (with_reducible refine HP1.out.mono ?_)
      rintro e w' ⟨rfl, rfl⟩
      go_wp2_with fail
      (with_reducible refine HP2.out.mono ?_)
      rintro e w' ⟨rfl, rfl⟩
      go_wp2_with fail
      go_ret2
      exact ⟨rfl, _, HH.out, Upd.refl _ _, fun y hy => .inl hy⟩
    · have d1 : decide (a < 0) = false := decide_eq_false h1
      have d2 : decide (b < 0) = true := decide_eq_true h2
      clear h1 h2
      go_enter Try.func13, Try.ntmps13
      go_wp2_with fail
      (with_reducible refine HP1.out.mono ?_)
      rintro e w' ⟨rfl, rfl⟩
      go_wp2_with fail
      (with_reducible refine HP2.out.mono ?_)
      rintro e w' ⟨rfl, rfl⟩
      go_wp2_with fail
      go_ret2
      exact ⟨rfl, _, HH.out, Upd.refl _ _, fun y hy => .inl hy⟩
    · have d1 : decide (a < 0) = false := decide_eq_false h1
      have d2 : decide (b < 0) = false := decide_eq_false h2
      have d3 : decide (b < a) = true := decide_eq_true h3
      clear h1 h2 h3
      go_enter Try.func13, Try.ntmps13
      go_wp2_with fail
      (with_reducible refine HP1.out.mono ?_)
      rintro e w' ⟨rfl, rfl⟩
      go_wp2_with fail
      (with_reducible refine HP2.out.mono ?_)
      rintro e w' ⟨rfl, rfl⟩
      go_wp2_with fail
      go_ret2
      exact ⟨rfl, _, HH.out, Upd.refl _ _, fun y hy => .inl hy⟩
end Go.Proofs.Ytcpompbiohaomaa
