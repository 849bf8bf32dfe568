/- cover.change, as a whole: the lists of the nodes over some leaves become those of the changed counts. -/
import Derived.Test.YtokpdocabmaagaaGreatChange
namespace Go.Proofs.YtokpdocabmaagaaGreat
open Go.RowKit

/-- The nodes over f to t lie in L from place o on. -/
def NodesAt (L : List Nd) (f t o : Nat) : Prop := ∃ Na Nb, L = Na ++ (nodesL f t o ++ Nb) ∧ Na.length = o

theorem NodesAt.root {L : List Nd} {f t o : Nat} (h : NodesAt L f t o) (hf : f < t) : L[o + 2 * (t - f) - 2]? = some (ndG f t (o + 2 * (t - f) - 2)) := by
  obtain ⟨Na, Nb, rfl, hl⟩ := h
  unfold nodesL
  rw [postL_kids _ 0 0 o hf]
  exact get_mid _ _ _ _ (by rw [hl, kidsL_length _ o hf]; omega)

theorem NodesAt.left {L : List Nd} {f t o : Nat} (h : NodesAt L f t o) (h1 : f + 1 < t) : NodesAt L f (mid f t) o := by
  obtain ⟨Na, Nb, rfl, hl⟩ := h
  rw [nodesL_node o h1]
  exact ⟨Na, _, by simp only [List.append_assoc]; rfl, hl⟩

theorem NodesAt.right {L : List Nd} {f t o : Nat} (h : NodesAt L f t o) (h1 : f + 1 < t) : NodesAt L (mid f t) t (o + 2 * (mid f t - f) - 1) := by
  have hm := mid_in h1
  obtain ⟨Na, Nb, rfl, hl⟩ := h
  rw [nodesL_node o h1]
  refine ⟨Na ++ nodesL f (mid f t) o, _, by simp only [List.append_assoc]; rfl, ?_⟩
  rw [List.length_append, nodesL_length o hm.1, hl]
  omega

theorem ndG_fr (f t a : Nat) : (ndG f t a).fr = f := by unfold ndG; split <;> rfl
theorem ndG_to (f t a : Nat) : (ndG f t a).to = t := by unfold ndG; split <;> rfl

set_option maxHeartbeats 4000000 in
theorem changeC (b : Nat) (mv nv ov pv : Value) (hb : Nat) (M : List Int) (L : List Nd) (root : Int) (c c' : Cnt) (s1 s2 : Nat) (y : Int) (hM : MarksOk M) (hst : Step c c' (s1, s2) y) (hy0 : -1 ≤ y) (hy1 : y ≤ 1) (hc : ∀ f t pf pt, 0 ≤ c f t pf pt ∧ c f t pf pt ≤ 1000000) :
    ∀ (d f t pf pt o : Nat) (Oa Ob : List Int) (Pa Pb : List Part) (en : Int) (w : World), t - f ≤ d → f < t → t < M.length → Oa.length = o → Pa.length = o → NodesAt L f t o → ¬ (s1 ≤ pf ∧ pt ≤ s2) → 0 ≤ en → en + (ent s1 s2 f t : Int) ≤ 100000000 →
      CovM w b mv nv ov pv hb M L (Oa ++ (oL c f t pf pt ++ Ob)) (Pa ++ (pL c (mf M) f t pf pt ++ Pb)) root en →
      Calls Tryz.prog 103 #[.pointer (some ⟨b, 0, none⟩), .int .i64 ((o + 2 * (t - f) - 2 : Nat) : Int), .agg #[.int .i64 (s1 : Int), .int .i64 (s2 : Int)], .int .i64 y] w
        (ChPost w b mv nv ov pv hb M L (Oa ++ (oL c' f t pf pt ++ Ob)) (Pa ++ (pL c' (mf M) f t pf pt ++ Pb)) root (en + (ent s1 s2 f t : Int))) := by
  intro d
  induction d with
  | zero => intro f t pf pt o Oa Ob Pa Pb en w hd hf; omega
  | succ d ih =>
    intro f t pf pt o Oa Ob Pa Pb en w hd hf ht hOa hPa hN hs he0 he1 h
    have hep := ent_pos s1 s2 f t
    have hroot := hN.root hf
    have hOk : o + 2 * (t - f) - 2 = Oa.length + (oK c f t).length := by rw [oK_len c hf, hOa]; omega
    have hPk : o + 2 * (t - f) - 2 = Pa.length + (pK c (mf M) f t).length := by rw [pK_len c _ hf, hPa]; omega
    have hOk' : o + 2 * (t - f) - 2 = Oa.length + (oK c' f t).length := by rw [oK_len c' hf, hOa]; omega
    have hPk' : o + 2 * (t - f) - 2 = Pa.length + (pK c' (mf M) f t).length := by rw [pK_len c' _ hf, hPa]; omega
    by_cases h1 : t ≤ s1 ∨ s2 ≤ f
    · have hsame := hst.out pf pt hf h1
      rw [ent_out h1, ← oL_same hf hsame, ← pL_same hf hsame]
      exact change_out b f t _ mv nv ov pv hb M L _ _ root en w s1 s2 y h he0 (by omega) _ hroot (ndG_fr _ _ _) (ndG_to _ _ _) h1
    · by_cases h2 : s1 ≤ f ∧ t ≤ s2
      · have hk := hst.kids (mf M) h2
        have hcan : can (s1, s2) f t pf pt = 1 := by unfold can; rw [if_pos ⟨h2.1, h2.2, hs⟩]
        have hc' : c f t pf pt + y = c' f t pf pt := by rw [hst, hcan]; omega
        rw [ent_in h2]
        have hO : (Oa ++ (oL c f t pf pt ++ Ob))[o + 2 * (t - f) - 2]? = some (c f t pf pt) := by rw [oL_kids]; exact get_mid _ _ _ _ hOk
        have hOs : (Oa ++ (oL c f t pf pt ++ Ob)).set (o + 2 * (t - f) - 2) (c f t pf pt + y) = Oa ++ (oL c' f t pf pt ++ Ob) := by
          rw [oL_kids, set_mid _ _ _ _ _ hOk, hc', hk.1, ← oL_kids]
        have hPs : (Pa ++ (pL c (mf M) f t pf pt ++ Pb)).set (o + 2 * (t - f) - 2) (partV c' (mf M) f t pf pt) = Pa ++ (pL c' (mf M) f t pf pt ++ Pb) := by
          rw [pL_kids, set_mid _ _ _ _ _ hPk, hk.2, ← pL_kids]
        have hkP : o + 2 * (t - f) - 2 < (Pa ++ (pL c (mf M) f t pf pt ++ Pb)).length := by
          rw [pL_kids]; simp; omega
        have := change_in b f t _ mv nv ov pv hb M L _ _ root en w s1 s2 y (c f t pf pt) (partV c' (mf M) f t pf pt) h he0 (by omega) _ hroot (ndG_fr _ _ _) (ndG_to _ _ _) hf h2.1 h2.2 hO hkP (hc f t pf pt).1 (hc f t pf pt).2 hy0 hy1 (fun w2 hw2 => by
          rw [hOs] at hw2
          refine knownC b f t pf pt o mv nv ov pv hb M L _ _ root (en + 1) w2 c' hw2 hM hf ht hroot ?_ (fun hft => ?_)
          · rw [oL_kids]; exact get_mid _ _ _ _ hOk'
          · rw [pL_kids, hk.2, List.append_assoc]
            exact ⟨pK_left c' (mf M) hft Pa _ (by have := mid_in hft; rw [hPa]; omega), pK_right c' (mf M) hft Pa _ (by rw [hPa]; omega)⟩)
        rw [hOs, hPs] at this
        exact this
      · have hft : f + 1 < t := by omega
        have hm := mid_in hft
        rw [ent_node h1 h2 hft] at he1 ⊢
        have hcan : can (s1, s2) f t pf pt = 0 := by unfold can; rw [if_neg (fun hh => h2 ⟨hh.1, hh.2.1⟩)]
        have hc' : c' f t pf pt = c f t pf pt := by rw [hst, hcan]; omega
        have hx : ndG f t (o + 2 * (t - f) - 2) = ⟨2, ((o + 2 * (mid f t - f) - 2 : Nat) : Int), ((o + 2 * (mid f t - f) - 1 + 2 * (t - mid f t) - 2 : Nat) : Int), f, t, 0, 0⟩ := by
          unfold ndG
          rw [if_pos hft]
          have e : o + 2 * (t - f) - 2 - 2 * (t - mid f t) = o + 2 * (mid f t - f) - 2 := by omega
          have e' : o + 2 * (t - f) - 2 - 1 = o + 2 * (mid f t - f) - 1 + 2 * (t - mid f t) - 2 := by omega
          rw [e, e']
        rw [hx] at hroot
        have lO := oL_len c f t hm.1
        have lO' := oL_len c' f t hm.1
        have lP := pL_len c (mf M) f t hm.1
        have lP' := pL_len c' (mf M) f t hm.1
        have lP2 := pL_len c' (mf M) f t hm.2
        have ih1 := fun w2 hw2 => ih f (mid f t) f t o Oa (oL c (mid f t) t f t ++ ([c f t pf pt] ++ Ob)) Pa (pL c (mf M) (mid f t) t f t ++ ([partV c (mf M) f t pf pt] ++ Pb)) (en + 1) w2 (by omega) hm.1 (by omega) hOa hPa (hN.left hft) h2 (by omega) (by omega) hw2
        have ih2 := fun w2 hw2 => ih (mid f t) t f t (o + 2 * (mid f t - f) - 1) (Oa ++ oL c' f (mid f t) f t) ([c f t pf pt] ++ Ob) (Pa ++ pL c' (mf M) f (mid f t) f t) ([partV c (mf M) f t pf pt] ++ Pb) (en + 1 + (ent s1 s2 f (mid f t) : Int)) w2 (by omega) hm.2 ht (by rw [List.length_append, lO', hOa]; omega) (by rw [List.length_append, lP', hPa]; omega) (hN.right hft) h2 (by omega) (by omega) hw2
        have eO : Oa ++ (oL c f t pf pt ++ Ob) = Oa ++ (oL c f (mid f t) f t ++ (oL c (mid f t) t f t ++ ([c f t pf pt] ++ Ob))) := by rw [oL_node c pf pt hft]; simp only [List.append_assoc]
        have eP : Pa ++ (pL c (mf M) f t pf pt ++ Pb) = Pa ++ (pL c (mf M) f (mid f t) f t ++ (pL c (mf M) (mid f t) t f t ++ ([partV c (mf M) f t pf pt] ++ Pb))) := by rw [pL_node c _ pf pt hft]; simp only [List.append_assoc]
        have eO2 : (Oa ++ oL c' f (mid f t) f t) ++ (oL c' (mid f t) t f t ++ ([c f t pf pt] ++ Ob)) = Oa ++ (oL c' f t pf pt ++ Ob) := by rw [oL_node c' pf pt hft, hc']; simp only [List.append_assoc]
        have eP2 : (Pa ++ pL c' (mf M) f (mid f t) f t) ++ (pL c' (mf M) (mid f t) t f t ++ ([partV c (mf M) f t pf pt] ++ Pb)) = Pa ++ ((pK c' (mf M) f t ++ [partV c (mf M) f t pf pt]) ++ Pb) := by unfold pK; rw [if_pos hft]; simp only [List.append_assoc]
        rw [eO, eP] at h
        have := change_node b f t _ _ _ mv nv ov pv hb M L _ (Oa ++ (oL c' f (mid f t) f t ++ (oL c (mid f t) t f t ++ ([c f t pf pt] ++ Ob)))) (Oa ++ (oL c' f t pf pt ++ Ob)) _ (Pa ++ (pL c' (mf M) f (mid f t) f t ++ (pL c (mf M) (mid f t) t f t ++ ([partV c (mf M) f t pf pt] ++ Pb)))) (Pa ++ ((pK c' (mf M) f t ++ [partV c (mf M) f t pf pt]) ++ Pb)) root en (en + 1 + (ent s1 s2 f (mid f t) : Int)) (en + ((1 + (ent s1 s2 f (mid f t) + ent s1 s2 (mid f t) t) : Nat) : Int)) w s1 s2 y (partV c' (mf M) f t pf pt) h he0 (by omega) _ hroot rfl rfl rfl rfl h1 h2 (by simp; omega) ih1 (fun w2 hw2 => by
            rw [← List.append_assoc Oa, ← List.append_assoc Pa] at hw2
            have h3 := ih2 w2 hw2
            rw [eO2, eP2] at h3
            have e5 : en + 1 + (ent s1 s2 f (mid f t) : Int) + (ent s1 s2 (mid f t) t : Int) = en + ((1 + (ent s1 s2 f (mid f t) + ent s1 s2 (mid f t) t) : Nat) : Int) := by omega
            rw [e5] at h3
            exact h3) (fun w2 hw2 => by
            refine knownC b f t pf pt o mv nv ov pv hb M L _ _ root _ w2 c' hw2 hM hf ht (hN.root hf) ?_ (fun _ => ?_)
            · rw [oL_kids]; exact get_mid _ _ _ _ hOk'
            · rw [List.append_assoc]
              exact ⟨pK_left c' (mf M) hft Pa _ (by rw [hPa]; omega), pK_right c' (mf M) hft Pa _ (by rw [hPa]; omega)⟩)
        rw [set_mid _ _ _ _ _ hPk', ← pL_kids] at this
        exact this
end Go.Proofs.YtokpdocabmaagaaGreat
