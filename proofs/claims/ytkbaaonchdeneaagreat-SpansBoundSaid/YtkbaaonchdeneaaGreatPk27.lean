/- An interval tree and what it tells: Len, Stab, Meet, Drop; a tree or none; Build, right or not. An interval tree: what Drop leaves. -/
import Derived.Test.YtkbaaonchdeneaaGreatPk23
import Derived.Test.YtkbaaonchdeneaaGreatPkSpansTellP7
import Derived.Test.YtkbaaonchdeneaaGreatPk24
import Derived.Test.YtkbaaonchdeneaaGreatPk26
namespace Go.Proofs.YtkbaaonchdeneaaGreat
open Go.RowKit
theorem vStabG {M:Nat} (hM:M≤1000000) (hso:SortOK M) {w:World} {b:Nat} {F:List Nat} {S:List Sp} {N:Nat} (h:IsIvl w b F S N) (x:Int) (hS:S.length<M) :
 Calls Tryz.prog 63 #[.pointer (some ⟨b,0,none⟩),.int .i64 x] w (MeetPost w (stabL S x) (2*bitsN (2*N))):=by
 obtain ⟨p,vr,R,T,Fk,h1,-,h2,h3,h4,h5⟩:=h.at_
 have hr:∀s∈R,s.lo≤s.hi:=fun s hs=>h.right s (h2.mem_iff.1 hs)
 have hp:=knStab_perm (x:=x) h4 hr
 have hl:=h2.length_eq
 have hm:=h.many
 have hf:=h.few
 have hpl:(T.stab x).length≤R.length:=by rw [hp.length_eq];exact List.length_filter_le _ _
 have ht:=touch_many x T
 have hb:=bitsN_le (2*N) 11 (by omega)
 have e:sortN (idsK (T.stab x))=stabL S x:=by
  rw [←stabL_perm h2]
  exact sortN_congr (hp.map Sp.id)
 have el:(stabL S x).length=(T.stab x).length:=by rw [←e,sortN_len,idsK_len]
 refine (ivlStabG hM hso h1 x (ok_small h4 (by omega)) (by omega) (by omega)).mono ?_
 intro e' w' hw
 rw [e] at hw
 exact ⟨_,hw,by omega,by omega⟩
theorem vStab {w:World} {b:Nat} {F:List Nat} {S:List Sp} {N:Nat} (h:IsIvl w b F S N) (x:Int) :
 Calls Tryz.prog 63 #[.pointer (some ⟨b,0,none⟩),.int .i64 x] w (MeetPost w (stabL S x) (2*bitsN (2*N))):=
 vStabG (Nat.le_refl _) sortU h x (by have:=h.many;have:=h.few;omega)
theorem vMeet {w:World} {b:Nat} {F:List Nat} {S:List Sp} {N:Nat} (h:IsIvl w b F S N) (lo hi:Int) :
 Calls Tryz.prog 86 #[.pointer (some ⟨b,0,none⟩),.int .i64 lo,.int .i64 hi] w (MeetPost w (meetL S lo hi) (4*bitsN (2*N)+2)):=by
 obtain ⟨p,vr,R,T,Fk,h1,-,h2,h3,h4,h5⟩:=h.at_
 have hr:∀s∈R,s.lo≤s.hi:=fun s hs=>h.right s (h2.mem_iff.1 hs)
 have hp:=knStab_perm (x:=lo) h4 hr
 have hl:=h2.length_eq
 have hm:=h.many
 have hf:=h.few
 have hpl:(T.stab lo).length≤R.length:=by rw [hp.length_eq];exact List.length_filter_le _ _
 have hb:=bitsN_le (2*N) 11 (by omega)
 have hb2:bitsN R.length≤bitsN (2*N):=bitsN_mono (by omega)
 by_cases hlh:hi<lo
 ·have e:meetL S lo hi = []:=by unfold meetL;rw [if_pos hlh]
  rw [e]
  refine (ivlMeetOut h1 lo hi hlh).mono ?_
  intro e' w' hw
  exact ⟨0,hw,by simp,by simp⟩
 ·have e:sortN (idsK (T.stab lo++partM R lo hi))=meetL S lo hi:=by
   rw [←meetL_perm h2]
   unfold meetL
   rw [if_neg hlh]
   exact sortN_congr ((meet_perm h4 hr h3 (by omega)).map Sp.id)
  refine (ivlMeetIn h1 lo hi (by omega) h3 (by omega) (ok_small h4 (by omega)) (by omega) (by omega)).mono ?_
  rintro e' w' ⟨t,g1,g2,g3⟩
  rw [e] at g1 g2 g3
  exact ⟨t,g1,g2,by omega⟩
def VDrop (w:World) (b:Nat) (F:List Nat) (S:List Sp) (N:Nat) (x:Sp) (e:Ending) (w':World):Prop:=
 e=.returned (.bool (decide (x∈S)))∧IsIvl w' b F (without S x) N∧Upd F w w'
theorem vDrop {w:World} {b:Nat} {F:List Nat} {S:List Sp} {N:Nat} (h:IsIvl w b F S N) (x:Sp) :
 Calls Tryz.prog 110 #[.pointer (some ⟨b,0,none⟩),spV x] w (VDrop w b F S N x):=by
 obtain ⟨p,vr,R,T,Fk,h1,h6,h2,h3,h4,h5⟩:=h.at_
 have hl:=h2.length_eq
 have hm:=h.many
 have hf:=h.few
 by_cases hx:x∈S
 ·have hxR:=h2.mem_iff.2 hx
  refine (ivlDropYes h1 x hxR (h2.nodup_iff.2 (nodup_of_names h.names)) h4 (by omega)).mono ?_
  rintro e w' ⟨rfl,vn,g1,g2,g3⟩
  have hu:Upd F w w':=g3.mono fun y hy=>.inl (h6 y (by simpa using hy))
  refine ⟨by rw [decide_eq_true hx],⟨⟨p,vn,without R x,T.drop x,Fk,g1,fun k hk=>h6 k (by rw [g2] at hk;exact hk),h2.filter _,h3.filter _,drop_ok (h.right x hx) h4,by rw [drop_depth];exact h5⟩,
   fun s hs=>h.right s (List.mem_filter.1 hs).1,List.Nodup.sublist (List.Sublist.map _ List.filter_sublist) h.names,Nat.le_trans (List.length_filter_le _ _) hm,hf,fun k hk=>Nat.lt_of_lt_of_le (h.flt k hk) hu.size⟩,hu⟩
 ·refine (ivlDropNo h1 x (fun hc=>hx (h2.mem_iff.1 hc)) (by omega)).mono ?_
  rintro e w' ⟨rfl,hu⟩
  exact ⟨by rw [decide_eq_false hx],by rw [without_not hx];exact h.upd0 hu,hu.mono (by simp)⟩
end Go.Proofs.YtkbaaonchdeneaaGreat
