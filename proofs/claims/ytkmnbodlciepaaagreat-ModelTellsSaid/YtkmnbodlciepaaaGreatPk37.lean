/- rank.First: the place of the first one not below a number, in a list that rises. wide.Diff. -/
import Derived.BigQuiet
import Derived.Deep.QuietTactic
import Derived.Deep.LoopGhost
import Derived.Deep.Light
import Derived.IntWalk
import Derived.Test.YtkmnbodlciepaaaGreatPk4
import Derived.Test.YtkmnbodlciepaaaGreatPk2
set_option maxHeartbeats 1000000
set_option maxRecDepth 100000
namespace Go.Proofs.YtkmnbodlciepaaaGreat
open Go.RowKit
def below (L:List Int) (x:Int):Nat:=(L.filter fun y=>decide (y<x)).length
theorem below_le (L:List Int) (x:Int):below L x≤L.length:=List.length_filter_le _ _
theorem below_at {L:List Int} (hs:L.Pairwise (·≤·)) (x:Int):∀(k:Nat) (y:Int),L[k]? = some y→(y<x↔k<below L x):=by
 induction L with
 |nil=>intro k y h;simp at h
 |cons a L ih=>
  rw [List.pairwise_cons] at hs
  intro k y h
  by_cases ha:a<x
  ·have e:below (a::L) x=below L x+1:=by unfold below;rw [List.filter_cons,if_pos (by simpa using ha)];rfl
   rw [e]
   rcases k with _ | k
   ·simp at h;subst h;simp [ha]
   ·rw [ih hs.2 k y (by simpa using h)];omega
  ·have e:below (a::L) x=0:=by
    unfold below
    rw [List.length_eq_zero_iff,List.filter_eq_nil_iff]
    intro z hz
    rcases List.mem_cons.1 hz with rfl | hz
    ·simpa using ha
    ·have:=hs.1 z hz;simp;omega
   rw [e]
   have:a≤y:=by
    rcases k with _ | k
    ·simp at h;omega
    ·exact hs.1 y (List.mem_of_getElem? (by simpa using h))
   omega
theorem first_so (bl bx:Nat) (v:Value) (L:List Int) (x y:Int) (k:Nat) (w:World) (hc1:w.cell? ⟨bl,0,none⟩=some v) (hc2:w.cell? ⟨bx,0,none⟩=some (.int .i64 x)) (h:See KL w v L) (hk:L[k]? = some y) :
 Calls Tryz.prog 198 #[.int .i64 (k:Int),.pointer (some ⟨bl,0,none⟩),.pointer (some ⟨bx,0,none⟩)] w fun e w'=>e=.returned (.bool (decide (x≤y)))∧∃n,w'=w.drewN n:=by
 obtain ⟨A,C,rfl⟩:=h.form
 obtain ⟨b,o,rfl,h1,h2,h3⟩:=KL.at h hk
 have hkl:=(List.getElem?_eq_some_iff.1 hk).1
 unfold maxLen at h2
 have b0:(0:Int)≤(k:Int):=Int.natCast_nonneg _
 have b1:(k:Int)<(L.length:Int):=by omega
 clear h hk
 go_enter Tryz.func198,Tryz.ntmps198
 go_wp2_with fail
 go_quiet (fail)
 go_wp2_with fail
 go_ret
 exact ⟨rfl,_,rfl⟩
theorem bits_half (d e:Nat) (hd:0<d) (he:e≤d / 2):bitsN e+1≤bitsN d:=by
 have h1:=bitsN_lt d
 have hb:bitsN d≠0:=fun h=>by rw [h] at h1;omega
 obtain ⟨b,hbb⟩:∃b,bitsN d=b+1:=⟨bitsN d - 1,by omega⟩
 rw [hbb] at h1 ⊢
 have:bitsN e≤b:=bitsN_le e b (by rw [Nat.pow_succ] at h1;omega)
 omega
theorem begins_first (bl bx:Nat) (v:Value) (L:List Int) (x:Int) (w:World) (hs:L.Pairwise (·≤·)) (hc1:w.cell? ⟨bl,0,none⟩=some v) (hc2:w.cell? ⟨bx,0,none⟩=some (.int .i64 x)) (h:See KL w v L) (hl:L.length<4611686018427387904) :
 Calls Tryz.prog 197 #[.int .i64 (L.length:Int),.func (.func 198) #[] #[.pointer (some ⟨bl,0,none⟩),.pointer (some ⟨bx,0,none⟩)]] w fun e w'=>
  (∃k:Nat,e=.returned (.tuple #[.int .i64 (below L x:Nat),.int .i64 (k:Int)])∧k≤bitsN L.length)∧∃n,w'=w.drewN n:=by
 obtain ⟨n,hn⟩:∃n,L.length=n:=⟨_,rfl⟩
 obtain ⟨p,hp⟩:∃p,below L x=p:=⟨_,rfl⟩
 have hpn:=below_le L x
 have hat:=below_at hs x
 rw [hp] at hpn hat ⊢
 rw [hn] at hl hpn ⊢
 have hb62:bitsN n≤62:=bitsN_le n 62 (by omega)
 have HC1:=Lib.hid hc1
 have HC2:=Lib.hid hc2
 have HH:=Lib.hid h
 have HN:=Lib.hid hn
 have HAT:=Lib.hid hat
 clear hc1 hc2 h hn hat hs hp
 go_enter Tryz.func197,Tryz.ntmps197
 go_wp2_with fail
 go_loopg [6,7,8] n (fun m s6 s7 s8 wr=>∃(f t k q:Nat),m=t - f∧f≤p∧p≤t∧t≤n∧s6=.int .i64 (f:Int)∧s7=.int .i64 (t:Int)∧s8=.int .i64 (k:Int)∧k+bitsN (t - f)≤bitsN n∧wr=w.drewN q)
 case atStart=>exact ⟨0,n,0,0,rfl,Nat.zero_le _,hpn,Nat.le_refl _,rfl,rfl,rfl,by simp,rfl⟩
 case round=>
  obtain ⟨f,t,k,q,hm,hfp,hpt,htn,rfl,rfl,rfl,hk,rfl⟩:=hrel
  by_cases hft:f<t
  ·obtain ⟨c,hc⟩:∃c,f+(t - f) / 2=c:=⟨_,rfl⟩
   have hcv:Value.int .i64 ((f:Int)+((t:Int) - (f:Int)) / 2)=Value.int .i64 (c:Int):=by congr 1;omega
   have hct:c<t:=by omega
   have hfc:f≤c:=by omega
   obtain ⟨y,hy⟩:∃y,L[c]? = some y:=⟨L[c]'(by rw [HN.out];omega),List.getElem?_eq_getElem _⟩
   have hiff:=HAT.out c y hy
   have hd1:c - f≤(t - f) / 2:=by omega
   have hd2:t - (c+1)≤(t - f) / 2:=by omega
   have hk1:k+1+bitsN (c - f)≤bitsN n:=by have:=bits_half (t - f) _ (by omega) hd1;omega
   have hk2:k+1+bitsN (t - (c+1))≤bitsN n:=by have:=bits_half (t - f) _ (by omega) hd2;omega
   have hkb:k≤62:=by omega
   have HM:=Lib.hid hm
   have HK1:=Lib.hid hk1
   have HK2:=Lib.hid hk2
   have HY:=Lib.hid hy
   have HIFF:=Lib.hid hiff
   have HCC:=Lib.hid hc
   clear hm hk hk1 hk2 hy hiff hc hd1 hd2
   go_wp2_with fail
   refine (first_so bl bx v L x y c (w.drewN q) HC1.out HC2.out (HH.out.upd0 ((Upd.refl [] w).drewN q)) HY.out).mono ?_
   rintro e w' ⟨rfl,q2,rfl⟩
   obtain ⟨bb,hbb⟩:∃bb,decide (x≤y)=bb:=⟨_,rfl⟩
   rw [hbb]
   have HBB:=Lib.hid hbb
   clear hbb
   cases bb
   ·have hlt:c<p:=by
     have h1:=of_decide_eq_false HBB.out
     exact HIFF.out.1 (by omega)
    go_wp2_with fail
    go_roundg (t - (c+1))
    case measure=>have:=HM.out;omega
    case rel=>exact ⟨c+1,t,k+1,q+q2,rfl,by omega,hpt,htn,by go_num,rfl,by go_num,HK2.out,rfl⟩
   ·have hge:p≤c:=by
     have h1:=of_decide_eq_true HBB.out
     refine Nat.le_of_not_lt fun h=>?_
     have:=HIFF.out.2 h
     omega
    go_wp2_with fail
    go_roundg (c - f)
    case measure=>have:=HM.out;have:=HCC.out;omega
    case rel=>exact ⟨f,c,k+1,q+q2,rfl,hfp,hge,by omega,rfl,rfl,by go_num,HK1.out,rfl⟩
  ·have hfe:f=p:=by omega
   have HFE:=Lib.hid hfe
   have HKK:=Lib.hid (show k≤bitsN n by omega)
   clear hfe hk hm
   go_wp2_with fail
   go_ret2
   exact ⟨⟨k,by rw [←HFE.out];rfl,HKK.out⟩,q,rfl⟩
def diffN (a b:Int):Int:=if b≤a then 0 else b - a
theorem u64_wrap (x:Int):IntKind.u64.wrap x=x % 18446744073709551616:=by simp [IntKind.wrap,IntKind.signed,IntKind.bits]
theorem u64_sub (a b:Int) (h:a≤b) (hd:b - a<18446744073709551616):IntKind.u64.wrap (IntKind.u64.wrap b - IntKind.u64.wrap a)=b - a:=by
 rw [u64_wrap,u64_wrap,u64_wrap]
 omega
theorem diffC (a b:Int) (w:World) (ha : -9223372036854775808≤a∧a≤9223372036854775807) (hb : -9223372036854775808≤b∧b≤9223372036854775807) :
 Calls Tryz.prog 47 #[.int .i64 a,.int .i64 b] w fun e w'=>e=.returned (.int .u64 (diffN a b))∧w=w':=by
 obtain ⟨ha1,ha2⟩:=ha
 obtain ⟨hb1,hb2⟩:=hb
 by_cases h:b≤a
 ·go_enter Tryz.func47,Tryz.ntmps47
  go_wp2_with fail
  go_ret
  exact ⟨by unfold diffN;rw [if_pos h];rfl,rfl⟩
 ·go_enter Tryz.func47,Tryz.ntmps47
  go_wp2_with fail
  go_ret
  exact ⟨by unfold diffN;rw [if_neg (by omega),←u64_sub a b (by omega) (by omega)];rfl,rfl⟩
end Go.Proofs.YtkmnbodlciepaaaGreat
