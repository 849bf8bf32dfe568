/- slices.Sort of names: patterns broken. The library's own text is walked. -/
import Derived.Lib.ItoaNum
import Derived.Laws.Closers25b
import Derived.Laws.Bits64b
import Derived.Test.YtkbaaonchdeneaaGreatPk11
import Derived.Test.YtkbaaonchdeneaaGreatPk12
set_option maxHeartbeats 8000000
set_option maxRecDepth 100000
namespace Go.Proofs.YtkbaaonchdeneaaGreat
open Go.RowKit Go.Sort
def XB (w:World) (s:Nat):Prop:=∃(z:Int) (t:TypeId),0≤z∧z≤18446744073709551615∧w.heap[s]? = some (.cells #[.int .u64 z] t (0,0))
theorem XB.upd {F:List Nat} {w w':World} {s:Nat} (h:XB w s) (hu:Upd F w w') (hs:s∉F):XB w' s:=by
 obtain ⟨z,t,h1,h2,h⟩:=h
 exact ⟨z,t,h1,h2,(hu.block s (lt_of_block h) hs).trans h⟩
theorem nextU (s:Nat) (w:World) (h:XB w s):Calls Tryz.prog 243 #[.pointer (some ⟨s,0,none⟩)] w fun e w'=>
 ∃r:Int,e=.returned (.int .u64 r)∧0≤r∧r≤18446744073709551615∧XB w' s∧Upd [s] w w':=by
 obtain ⟨z,t,h1,h2,hz⟩:=h
 have c1:w.cell? ⟨s,0,none⟩=some (.int .u64 z):=by simp [World.cell?,hz]
 have f1:w.frozen? ⟨s,0,none⟩=false:=by simp [World.frozen?,hz]
 have HZ:=Lib.hid hz
 clear hz
 go_enter Tryz.func243,Tryz.ntmps243
 go_wp2_with fail
 go_region
 obtain ⟨z1,hz1⟩:∃z1,bits BinOp.xor IntKind.u64 z (IntKind.u64.wrap (z*8192))=z1:=⟨_,rfl⟩
 rw [hz1]
 have HW1:=Lib.hid (show (w.setCell ⟨s,0,none⟩ (.int .u64 z1)).drew.heap[s]? = some (.cells #[.int .u64 z1] t (0,0)) from heap_set HZ.out 0 _)
 have HU1:=Lib.hid (show Upd [s] w (w.setCell ⟨s,0,none⟩ (.int .u64 z1)).drew from ((Upd.refl _ _).setCell (.inl (by simp)) _).drew)
 generalize (w.setCell ⟨s,0,none⟩ (.int .u64 z1)).drew=W1 at HW1 HU1 ⊢
 clear c1 f1 hz1
 have c1:W1.cell? ⟨s,0,none⟩=some (.int .u64 z1):=by simp [World.cell?,HW1.out]
 have f1:W1.frozen? ⟨s,0,none⟩=false:=by simp [World.frozen?,HW1.out]
 go_wp2_with fail
 go_region
 obtain ⟨z2,hz2⟩:∃z2,bits BinOp.xor IntKind.u64 z1 (z1 / 128)=z2:=⟨_,rfl⟩
 rw [hz2]
 have HW2:=Lib.hid (show (W1.setCell ⟨s,0,none⟩ (.int .u64 z2)).drew.heap[s]? = some (.cells #[.int .u64 z2] t (0,0)) from heap_set HW1.out 0 _)
 have HU2:=Lib.hid (show Upd [s] w (W1.setCell ⟨s,0,none⟩ (.int .u64 z2)).drew from (HU1.out.setCell (.inl (by simp)) _).drew)
 generalize (W1.setCell ⟨s,0,none⟩ (.int .u64 z2)).drew=W2 at HW2 HU2 ⊢
 clear c1 f1 hz2
 have c1:W2.cell? ⟨s,0,none⟩=some (.int .u64 z2):=by simp [World.cell?,HW2.out]
 have f1:W2.frozen? ⟨s,0,none⟩=false:=by simp [World.frozen?,HW2.out]
 go_wp2_with fail
 go_region
 obtain ⟨z3,hz3⟩:∃z3,bits BinOp.xor IntKind.u64 z2 (IntKind.u64.wrap (z2*131072))=z3:=⟨_,rfl⟩
 have hb1:=bits_lo_u64 BinOp.xor z2 (IntKind.u64.wrap (z2*131072))
 have hb2:=bits_hi_u64 BinOp.xor z2 (IntKind.u64.wrap (z2*131072))
 rw [hz3] at hb1 hb2
 rw [hz3]
 have HB:=Lib.hid (And.intro hb1 hb2)
 have HW3:=Lib.hid (show (W2.setCell ⟨s,0,none⟩ (.int .u64 z3)).drew.heap[s]? = some (.cells #[.int .u64 z3] t (0,0)) from heap_set HW2.out 0 _)
 have HU3:=Lib.hid (show Upd [s] w (W2.setCell ⟨s,0,none⟩ (.int .u64 z3)).drew from (HU2.out.setCell (.inl (by simp)) _).drew)
 generalize (W2.setCell ⟨s,0,none⟩ (.int .u64 z3)).drew=W3 at HW3 HU3 ⊢
 clear c1 f1 hz3 hb1 hb2
 have c1:W3.cell? ⟨s,0,none⟩=some (.int .u64 z3):=by simp [World.cell?,HW3.out]
 go_wp2_with fail
 go_ret
 exact ⟨z3,rfl,HB.out.1,HB.out.2,⟨z3,t,HB.out.1,HB.out.2,HW3.out⟩,HU3.out⟩
theorem powU (n:Nat) (w:World) (h0:0<n) (h:n<1000000):Calls Tryz.prog 242 #[.int .i64 (n:Int)] w fun e w'=>∃m:Nat,e=.returned (.int .u64 (m:Int))∧0<m∧m≤2*n∧w'=w:=by
 go_enter Tryz.func242,Tryz.ntmps242
 go_wp2_with fail
 refine (Tryz.bits_Len _ _ (by omega) (by omega)).mono ?_
 rintro e w' ⟨rfl,rfl⟩
 obtain ⟨L,hL⟩:∃L,Lib.bitLen n=L:=⟨_,rfl⟩
 have hb:=Lib.bitLenAux_bounds 64 n (Nat.lt_of_lt_of_le h (by decide)) (by omega)
 rw [show Lib.bitLenAux 64 n=L from hL] at hb
 rw [show ((n:Int)).toNat=n from rfl,hL]
 have hL2:L≤20:=by
  rcases Nat.lt_or_ge 20 L with h1 | h1
  ·have h2:2 ^ 20≤2 ^ (L - 1):=Nat.pow_le_pow_right (by decide) (by omega)
   have h3:(2:Nat) ^ 20=1048576:=by decide
   omega
  ·exact h1
 obtain ⟨M,hM⟩:∃M,2 ^ L=M:=⟨_,rfl⟩
 have hM2:M≤2*n:=by
  have h2:2 ^ L=2*2 ^ (L - 1):=by
   obtain ⟨k,rfl⟩:∃k,L=k+1:=⟨L - 1,by omega⟩
   rw [Nat.add_sub_cancel,Nat.pow_succ,Nat.mul_comm]
  omega
 have hM0:0<M:=by rw [←hM];exact Nat.pow_pos (by decide)
 have hw:IntKind.u64.wrap (2 ^ L)=(M:Int):=by
  rw [IntKind.wrap_u64,show ((2:Int) ^ L)=((2 ^ L:Nat):Int) by simp,hM]
  omega
 have HM:=Lib.hid (And.intro hw (And.intro hM0 hM2))
 have l0:(0:Int)≤(L:Int):=Int.natCast_nonneg _
 have l1:(L:Int)<64:=by omega
 clear hL hb hM hM0 hM2 hL2 h0 h hw
 go_wp2_with fail
 go_ret
 exact ⟨M,by rw [←HM.out.1];rfl,HM.out.2.1,HM.out.2.2,rfl⟩
theorem breakU (p C a b:Nat) (d:Array Int) (rest:List Value) (et:TypeId) (w:World) (h:RB w p d rest et) (hab:a+12<b) (hb:b≤d.size) (hsz:d.size<1000000) :
 Calls Tryz.prog 185 #[.slice (some ⟨p,0,none⟩) d.size C,.int .i64 (a:Int),.int .i64 (b:Int)] w fun e w'=>∃d',PermIn a b d d'∧SrtPost w p rest et d' e w':=by
 unfold SrtPost
 have hp:=h.lt
 obtain ⟨s,hs⟩:∃s,w.heap.size=s:=⟨_,rfl⟩
 rw [hs] at hp
 obtain ⟨n,hn⟩:∃n,d.size=n:=⟨_,rfl⟩
 obtain ⟨N,hN⟩:∃N,N=b - a:=⟨_,rfl⟩
 obtain ⟨q,hq⟩:∃q,q=N / 4:=⟨_,rfl⟩
 obtain ⟨c,hc⟩:∃c,c=a+q*2:=⟨_,rfl⟩
 obtain ⟨c0,hc0⟩:∃c0,c0=c - 1:=⟨_,rfl⟩
 obtain ⟨c1,hc1⟩:∃c1,c1=c+1:=⟨_,rfl⟩
 rw [hn] at hb hsz ⊢
 have n0:(N:Int)<1000000:=by omega
 have n1:(8:Int)≤(N:Int):=by omega
 have a0:(a:Int)<1000000:=by omega
 have b0:(b:Int)<1000000:=by omega
 have q0:(q:Int)<1000000:=by omega
 have e1:(b:Int) - (a:Int)=(N:Int):=by omega
 have e2:(N:Int) / 4=(q:Int):=by omega
 have e3:(a:Int)+(q:Int)*2=(c:Int):=by omega
 have e4:(c:Int) - 1=(c0:Int):=by omega
 have e5:(c:Int)+1=(c1:Int):=by omega
 have hP:=fun w=>powU N w (by omega) (by omega)
 have HB:=Lib.hid (And.intro hab (And.intro hb (And.intro hN (And.intro hq (And.intro hc (And.intro hc0 (And.intro hc1 hsz)))))))
 have HS:=Lib.hid (And.intro hs hp)
 have HP:=Lib.hid hP
 have HRB:=Lib.hid h
 have HN:=Lib.hid hn
 clear h hn hab hb hsz hN hq hc hc0 hc1 hs hp hP
 go_enter Tryz.func185,Tryz.ntmps185
 go_wp2_with fail
 have HX0:=Lib.hid (show XB (w.alloc (.cells #[.int .u64 (N:Int)] 324)) w.heap.size from ⟨N,_,Int.natCast_nonneg _,by omega,heap_alloc_new w _⟩)
 have HU0:=Lib.hid (show Upd [] w (w.alloc (.cells #[.int .u64 (N:Int)] 324)) from (Upd.refl _ _).alloc _)
 generalize w.alloc (.cells #[.int .u64 (N:Int)] 324)=W0 at HX0 HU0 ⊢
 rw [HS.out.1] at HX0 ⊢
 (with_reducible refine (HP.out _).mono ?_)
 rintro e w1 ⟨M,rfl,hm0,hm1,rfl⟩
 have HM:=Lib.hid (And.intro hm0 hm1)
 have m0:(0:Int)<(M:Int):=by omega
 have m1:(M:Int)<2000000:=by omega
 clear hm0 hm1
 go_wp2_with fail
 go_loopg [9,10] 4 (fun m s9 s10 wr=>∃(k:Nat) (dk:Array Int),m+k=c0+4∧s9=.int .i64 (k:Int)∧c0≤k∧k≤c0+3∧dk.size=n∧RB wr p dk rest et∧XB wr s∧Upd [p] w wr∧PermIn a b d dk)
 case atStart=>exact ⟨c0,d,by omega,rfl,Nat.le_refl _,by omega,HN.out,HRB.out.upd HU0.out (by simp),HX0.out,HU0.out.mono (by simp),permIn_refl _ _ _⟩
 case round=>
  obtain ⟨k,dk,hm,rfl,h1,h2,hdn,hrb,hx,hu,hperm⟩:=hrel
  have k0:(k:Int)<1000000:=by have:=HB.out;omega
  have HRK:=Lib.hid hrb
  have HUK:=Lib.hid hu
  have HPK:=Lib.hid hperm
  by_cases hle:k≤c1
  ·have hz:(k:Int)≤(c1:Int):=by omega
   have hnx:=nextU s wr hx
   have HNX:=Lib.hid hnx
   have HK:=Lib.hid (And.intro hm (And.intro h1 (And.intro hle hdn)))
   clear hm h1 h2 hdn hrb hx hu hperm hle hnx
   go_wp2_with fail
   (with_reducible refine HNX.out.mono ?_)
   rintro e w2 ⟨r,rfl,hr0,hr1,hx2,hu2⟩
   have HX2:=Lib.hid hx2
   have hu3:=(show Upd [p] w w2 from HUK.out.trans' hu2 (by intro x hx;right;rw [List.mem_singleton.1 hx,HS.out.1];exact Nat.le_refl _))
   have HR2:=Lib.hid (HRK.out.upd hu2 (by have:=HS.out.2;simp;omega))
   have HU2:=Lib.hid hu3
   obtain ⟨R,rfl⟩:∃R:Nat,r=(R:Int):=⟨r.toNat,by omega⟩
   obtain ⟨M1,hM1⟩:∃m,m=M - 1:=⟨_,rfl⟩
   have em:(M:Int) - 1=(M1:Int):=by have:=HM.out;omega
   obtain ⟨o,ho⟩:∃o,R &&& M1=o:=⟨_,rfl⟩
   have hol:o≤M1:=by rw [←ho];exact Nat.and_le_right
   have ea:bits BinOp.and IntKind.u64 (R:Int) (M1:Int)=(o:Int):=by
    rw [bits_and_u64_nat R M1 (by omega) (by omega),ho]
   have HO:=Lib.hid (And.intro hol hM1)
   have o0:(o:Int)<2000000:=by omega
   clear hx2 hu2 hu3 hr0 hr1 ho hol hM1
   by_cases hoN:N≤o
   ·have hz2:(N:Int)≤(o:Int):=by omega
    obtain ⟨O1,hO1⟩:∃m,m=o - N:=⟨_,rfl⟩
    have eo:(o:Int) - (N:Int)=(O1:Int):=by omega
    have HOO:=Lib.hid (show O1<N by have:=HO.out;have:=HM.out;omega)
    clear hoN hO1
    go_upto_if 43 with fail
    go_wp2_with fail
    have xb:a+O1<b:=by have:=HB.out;have:=HO.out;have:=HM.out;have:=HOO.out;omega
    obtain ⟨x,hx⟩:∃x,x=a+O1:=⟨_,rfl⟩
    have ex:(a:Int)+(O1:Int)=(x:Int):=by omega
    have g1:(k:Int)<(n:Int):=by have:=HB.out;have:=HK.out;omega
    have g2:(x:Int)<(n:Int):=by have:=HB.out;omega
    have l1:=HR2.out.cell (t:=k) (by have:=HB.out;have:=HK.out;omega)
    have l2:=HR2.out.cell (t:=x) (by have:=HB.out;have:=HK.out;omega)
    have f1:=HR2.out.frozen k
    have f2:=HR2.out.frozen x
    obtain ⟨vp,hvp⟩:∃u,dk[k]! = u:=⟨_,rfl⟩
    obtain ⟨vq,hvq⟩:∃u,dk[x]! = u:=⟨_,rfl⟩
    have l3:=(HR2.out.set (t:=k) (by have:=HB.out;have:=HK.out;omega) vq).cell (t:=x) (by rw [Array.size_setIfInBounds];have:=HB.out;have:=HK.out;omega)
    obtain ⟨v3,hv3⟩:∃u,(dk.setIfInBounds k vq)[x]! = u:=⟨_,rfl⟩
    have HSW:=Lib.hid (And.intro (HR2.out.swp (i:=k) (j:=x) (by have:=HB.out;have:=HK.out;omega) (by have:=HB.out;have:=HK.out;omega)) (And.intro (HU2.out.swp (p:=p) (.inl (by simp)) k x (.int .u32 dk[x]!) (.int .u32 dk[k]!)) (HX2.out.upd ((Upd.refl [p] w2).swp (p:=p) (.inl (by simp)) k x (.int .u32 dk[x]!) (.int .u32 dk[k]!)) (by have:=HS.out.2;simp;omega))))
    rw [hvp,hvq] at HSW
    rw [hvp] at l1
    rw [hvq] at l2
    rw [hv3] at l3
    have HXX:=Lib.hid (And.intro hx xb)
    clear hvp hvq hv3 hx xb
    go_region
    generalize (w2.setCell ⟨p,k,none⟩ (.int .u32 vq)).setCell ⟨p,x,none⟩ (.int .u32 vp)=W2 at HSW ⊢
    go_wp2_with fail
    go_roundg (c0+4 - (k+1))
    case measure=>have:=HK.out;have:=HB.out;omega
    case rel=>
     have hk:=HK.out;have hb:=HB.out;have hxx:=HXX.out
     refine ⟨k+1,swp dk k x,by omega,by go_num,by omega,by omega,by rw [size_swp];exact hk.2.2.2,HSW.out.1.drew,HSW.out.2.2.upd ((Upd.refl [] _).drew) (by simp),HSW.out.2.1.drew,?_⟩
     exact permIn_trans _ _ _ a b HPK.out (swp_permIn dk a b k x (by omega) (by omega) (by omega) (by omega) (by omega))
   ·obtain ⟨O1,hO1⟩:∃m,m=o:=⟨_,rfl⟩
    subst hO1
    have hz2:decide (N≤O1)=false:=decide_eq_false (by omega)
    have hz3:decide ((N:Int)≤(O1:Int))=false:=decide_eq_false (by omega)
    have HOO:=Lib.hid (show O1<N by omega)
    clear hoN
    go_upto_if 43 with fail
    go_wp2_with fail
    have xb:a+O1<b:=by have:=HB.out;have:=HO.out;have:=HM.out;have:=HOO.out;omega
    obtain ⟨x,hx⟩:∃x,x=a+O1:=⟨_,rfl⟩
    have ex:(a:Int)+(O1:Int)=(x:Int):=by omega
    have g1:(k:Int)<(n:Int):=by have:=HB.out;have:=HK.out;omega
    have g2:(x:Int)<(n:Int):=by have:=HB.out;omega
    have l1:=HR2.out.cell (t:=k) (by have:=HB.out;have:=HK.out;omega)
    have l2:=HR2.out.cell (t:=x) (by have:=HB.out;have:=HK.out;omega)
    have f1:=HR2.out.frozen k
    have f2:=HR2.out.frozen x
    obtain ⟨vp,hvp⟩:∃u,dk[k]! = u:=⟨_,rfl⟩
    obtain ⟨vq,hvq⟩:∃u,dk[x]! = u:=⟨_,rfl⟩
    have l3:=(HR2.out.set (t:=k) (by have:=HB.out;have:=HK.out;omega) vq).cell (t:=x) (by rw [Array.size_setIfInBounds];have:=HB.out;have:=HK.out;omega)
    obtain ⟨v3,hv3⟩:∃u,(dk.setIfInBounds k vq)[x]! = u:=⟨_,rfl⟩
    have HSW:=Lib.hid (And.intro (HR2.out.swp (i:=k) (j:=x) (by have:=HB.out;have:=HK.out;omega) (by have:=HB.out;have:=HK.out;omega)) (And.intro (HU2.out.swp (p:=p) (.inl (by simp)) k x (.int .u32 dk[x]!) (.int .u32 dk[k]!)) (HX2.out.upd ((Upd.refl [p] w2).swp (p:=p) (.inl (by simp)) k x (.int .u32 dk[x]!) (.int .u32 dk[k]!)) (by have:=HS.out.2;simp;omega))))
    rw [hvp,hvq] at HSW
    rw [hvp] at l1
    rw [hvq] at l2
    rw [hv3] at l3
    have HXX:=Lib.hid (And.intro hx xb)
    clear hvp hvq hv3 hx xb
    go_region
    generalize (w2.setCell ⟨p,k,none⟩ (.int .u32 vq)).setCell ⟨p,x,none⟩ (.int .u32 vp)=W2 at HSW ⊢
    go_wp2_with fail
    go_roundg (c0+4 - (k+1))
    case measure=>have:=HK.out;have:=HB.out;omega
    case rel=>
     have hk:=HK.out;have hb:=HB.out;have hxx:=HXX.out
     refine ⟨k+1,swp dk k x,by omega,by go_num,by omega,by omega,by rw [size_swp];exact hk.2.2.2,HSW.out.1.drew,HSW.out.2.2.upd ((Upd.refl [] _).drew) (by simp),HSW.out.2.1.drew,?_⟩
     exact permIn_trans _ _ _ a b HPK.out (swp_permIn dk a b k x (by omega) (by omega) (by omega) (by omega) (by omega))
  ·have hz:¬(k:Int)≤(c1:Int):=by omega
   clear hm h1 h2 hdn hrb hx hu hperm hle
   go_wp2_with fail
   go_end0
   exact ⟨dk,HPK.out,rfl,HRK.out,HUK.out⟩
end Go.Proofs.YtkbaaonchdeneaaGreat
