/- How much the trees touch, plainly. -/
import Derived.Test.YtkbaaonchdeneaaGreatPkSpansTellP12
import Derived.Test.YtkbaaonchdeneaaGreatPkSpansBoundP1
namespace Go.Proofs.YtkbaaonchdeneaaGreat.PSp
open Go.RowKit
open Go.Proofs.YtkbaaonchdeneaaGreat.Ps
theorem most_two {g B T:Nat} (hT:T≤B) (hB:B≤g+1) (hg:B=0∨1≤g):(4*(B+1)+4)*T≤16*g*g+16∧(2*(B+2)+2)*T≤16*g*g+16:=by
 rcases hg with rfl | hg
 ·have:T=0:=by omega
  subst this
  simp
 ·have h1:(4*(B+1)+4)*T≤(4*g+12)*(g+1):=Nat.mul_le_mul (by omega) (by omega)
  have h2:(2*(B+2)+2)*T≤(2*g+8)*(g+1):=Nat.mul_le_mul (by omega) (by omega)
  have e1:(4*g+12)*(g+1)=4*(g*g)+16*g+12:=by rw [Nat.mul_add,Nat.add_mul,Nat.mul_assoc];omega
  have e2:(2*g+8)*(g+1)=2*(g*g)+10*g+8:=by rw [Nat.mul_add,Nat.add_mul,Nat.mul_assoc];omega
  have e3:16*g*g=16*(g*g):=Nat.mul_assoc _ _ _
  have e4:g=1∨2*g≤g*g:=by
   rcases Nat.lt_or_ge g 2 with h | h
   ·exact .inl (by omega)
   ·exact .inr (Nat.mul_le_mul_right _ h)
  rw [e1] at h1
  rw [e2] at h2
  rw [e3]
  rcases e4 with rfl | e4
  ·omega
  ·omega
theorem bnd_most {S:PSS} (h2:S.H.cs.length≤2*(lvs S).length):mostT S*(TL S).length≤16*lg ((lvs S).length+2)*lg ((lvs S).length+2)+16∧mostC S*(TL S).length≤16*lg ((lvs S).length+2)*lg ((lvs S).length+2)+16:=by
 have hT:=TL_len S
 obtain ⟨B,hB⟩:∃B,bitsN S.H.cs.length=B:=⟨_,rfl⟩
 obtain ⟨g,hg⟩:∃g,lg ((lvs S).length+2)=g:=⟨_,rfl⟩
 have hg2:bitsN ((lvs S).length+1)=g:=hg
 have hlt:=bitsN_lt ((lvs S).length+1)
 have hlc:=bitsN_lt S.H.cs.length
 rw [hg2] at hlt
 rw [hB] at hlc
 have h3:B≤g+1:=by
  rw [←hB]
  refine bitsN_le _ _ ?_
  rw [Nat.pow_succ]
  omega
 have h4:B=0∨1≤g:=by
  rcases Nat.eq_zero_or_pos g with h | h
  ·subst h
   simp at hlt
  ·exact .inr h
 have h5:lg (4*S.H.cs.length+4)≤B+2:=by
  show bitsN (4*S.H.cs.length+3)≤B+2
  refine bitsN_le _ _ ?_
  rw [Nat.pow_add]
  omega
 obtain ⟨k1,k2⟩:=most_two (by rw [hB] at hT;exact hT) h3 h4
 unfold mostT mostC
 rw [hB,hg]
 refine ⟨k1,Nat.le_trans (Nat.mul_le_mul_right _ ?_) k2⟩
 omega
theorem meetL_len (l:List Sp) (lo hi:Int):(meetL l lo hi).length≤l.length:=by
 unfold meetL
 split
 ·simp
 ·rw [sortN_len,List.length_map]
  exact List.length_filter_le _ _
theorem cs_le {S:PSS} (I:PInv Sp.id S):S.H.cs.length≤S.t:=Nat.le_trans (Ps.HInv.len I.half) I.al
end Go.Proofs.YtkbaaonchdeneaaGreat.PSp
