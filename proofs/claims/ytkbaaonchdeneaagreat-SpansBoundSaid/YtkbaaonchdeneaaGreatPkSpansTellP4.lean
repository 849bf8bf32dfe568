/- slices.Sort of names: patterns broken. The library's own text is walked. slices.Sort of names: the whole. The library's own text is walked. slices.Sort of names: the contract. -/
import Derived.Lib.ItoaNum
import Derived.Laws.Closers25b
import Derived.Laws.Bits64b
import Derived.Test.YtkbaaonchdeneaaGreatPkSpansTellP3
import Derived.Test.YtkbaaonchdeneaaGreatPk12
import Derived.Test.YtkbaaonchdeneaaGreatPk10
import Derived.Test.YtkbaaonchdeneaaGreatPk6
set_option maxHeartbeats 16000000
set_option maxRecDepth 100000
namespace Go.Proofs.YtkbaaonchdeneaaGreat
open Go.RowKit Go.Sort
def XB (w:World) (s:Nat):Prop:=∃(z:Int) (t:TypeId),0≤z∧z≤18446744073709551615∧w.heap[s]? = some (.cells #[.int .u64 z] t (0,0))
theorem XB.upd {F:List Nat} {w w':World} {s:Nat} (h:XB w s) (hu:Upd F w w') (hs:s∉F):XB w' s:=by
 obtain ⟨z,t,h1,h2,h⟩:=h
 exact ⟨z,t,h1,h2,(hu.block s (lt_of_block h) hs).trans h⟩
theorem nextU (s:Nat) (w:World) (h:XB w s):Calls Tryz.prog 243 #[.pointer (some ⟨s,0,none⟩)] w fun e w'=>
 ∃r:Int,e=.returned (.int .u64 r)∧0≤r∧r≤18446744073709551615∧XB w' s∧Upd [s] w w':=by
 obtain ⟨z,t,h1,h2,hz⟩:=h
 have c1:w.cell? ⟨s,0,none⟩=some (.int .u64 z):=by simp [World.cell?,hz]
 have f1:w.frozen? ⟨s,0,none⟩=false:=by simp [World.frozen?,hz]
 have HZ:=Lib.hid hz
 clear hz
 go_enter Tryz.func243,Tryz.ntmps243
 go_wp2_with fail
 go_region
 obtain ⟨z1,hz1⟩:∃z1,bits BinOp.xor IntKind.u64 z (IntKind.u64.wrap (z*8192))=z1:=⟨_,rfl⟩
 rw [hz1]
 have HW1:=Lib.hid (show (w.setCell ⟨s,0,none⟩ (.int .u64 z1)).drew.heap[s]? = some (.cells #[.int .u64 z1] t (0,0)) from heap_set HZ.out 0 _)
 have HU1:=Lib.hid (show Upd [s] w (w.setCell ⟨s,0,none⟩ (.int .u64 z1)).drew from ((Upd.refl _ _).setCell (.inl (by simp)) _).drew)
 generalize (w.setCell ⟨s,0,none⟩ (.int .u64 z1)).drew=W1 at HW1 HU1 ⊢
 clear c1 f1 hz1
 have c1:W1.cell? ⟨s,0,none⟩=some (.int .u64 z1):=by simp [World.cell?,HW1.out]
 have f1:W1.frozen? ⟨s,0,none⟩=false:=by simp [World.frozen?,HW1.out]
 go_wp2_with fail
 go_region
 obtain ⟨z2,hz2⟩:∃z2,bits BinOp.xor IntKind.u64 z1 (z1 / 128)=z2:=⟨_,rfl⟩
 rw [hz2]
 have HW2:=Lib.hid (show (W1.setCell ⟨s,0,none⟩ (.int .u64 z2)).drew.heap[s]? = some (.cells #[.int .u64 z2] t (0,0)) from heap_set HW1.out 0 _)
 have HU2:=Lib.hid (show Upd [s] w (W1.setCell ⟨s,0,none⟩ (.int .u64 z2)).drew from (HU1.out.setCell (.inl (by simp)) _).drew)
 generalize (W1.setCell ⟨s,0,none⟩ (.int .u64 z2)).drew=W2 at HW2 HU2 ⊢
 clear c1 f1 hz2
 have c1:W2.cell? ⟨s,0,none⟩=some (.int .u64 z2):=by simp [World.cell?,HW2.out]
 have f1:W2.frozen? ⟨s,0,none⟩=false:=by simp [World.frozen?,HW2.out]
 go_wp2_with fail
 go_region
 obtain ⟨z3,hz3⟩:∃z3,bits BinOp.xor IntKind.u64 z2 (IntKind.u64.wrap (z2*131072))=z3:=⟨_,rfl⟩
 have hb1:=bits_lo_u64 BinOp.xor z2 (IntKind.u64.wrap (z2*131072))
 have hb2:=bits_hi_u64 BinOp.xor z2 (IntKind.u64.wrap (z2*131072))
 rw [hz3] at hb1 hb2
 rw [hz3]
 have HB:=Lib.hid (And.intro hb1 hb2)
 have HW3:=Lib.hid (show (W2.setCell ⟨s,0,none⟩ (.int .u64 z3)).drew.heap[s]? = some (.cells #[.int .u64 z3] t (0,0)) from heap_set HW2.out 0 _)
 have HU3:=Lib.hid (show Upd [s] w (W2.setCell ⟨s,0,none⟩ (.int .u64 z3)).drew from (HU2.out.setCell (.inl (by simp)) _).drew)
 generalize (W2.setCell ⟨s,0,none⟩ (.int .u64 z3)).drew=W3 at HW3 HU3 ⊢
 clear c1 f1 hz3 hb1 hb2
 have c1:W3.cell? ⟨s,0,none⟩=some (.int .u64 z3):=by simp [World.cell?,HW3.out]
 go_wp2_with fail
 go_ret
 exact ⟨z3,rfl,HB.out.1,HB.out.2,⟨z3,t,HB.out.1,HB.out.2,HW3.out⟩,HU3.out⟩
theorem powU (n:Nat) (w:World) (h0:0<n) (h:n<1000000):Calls Tryz.prog 242 #[.int .i64 (n:Int)] w fun e w'=>∃m:Nat,e=.returned (.int .u64 (m:Int))∧0<m∧m≤2*n∧w'=w:=by
 go_enter Tryz.func242,Tryz.ntmps242
 go_wp2_with fail
 refine (Tryz.bits_Len _ _ (by omega) (by omega)).mono ?_
 rintro e w' ⟨rfl,rfl⟩
 obtain ⟨L,hL⟩:∃L,Lib.bitLen n=L:=⟨_,rfl⟩
 have hb:=Lib.bitLenAux_bounds 64 n (Nat.lt_of_lt_of_le h (by decide)) (by omega)
 rw [show Lib.bitLenAux 64 n=L from hL] at hb
 rw [show ((n:Int)).toNat=n from rfl,hL]
 have hL2:L≤20:=by
  rcases Nat.lt_or_ge 20 L with h1 | h1
  ·have h2:2 ^ 20≤2 ^ (L - 1):=Nat.pow_le_pow_right (by decide) (by omega)
   have h3:(2:Nat) ^ 20=1048576:=by decide
   omega
  ·exact h1
 obtain ⟨M,hM⟩:∃M,2 ^ L=M:=⟨_,rfl⟩
 have hM2:M≤2*n:=by
  have h2:2 ^ L=2*2 ^ (L - 1):=by
   obtain ⟨k,rfl⟩:∃k,L=k+1:=⟨L - 1,by omega⟩
   rw [Nat.add_sub_cancel,Nat.pow_succ,Nat.mul_comm]
  omega
 have hM0:0<M:=by rw [←hM];exact Nat.pow_pos (by decide)
 have hw:IntKind.u64.wrap (2 ^ L)=(M:Int):=by
  rw [IntKind.wrap_u64,show ((2:Int) ^ L)=((2 ^ L:Nat):Int) by simp,hM]
  omega
 have HM:=Lib.hid (And.intro hw (And.intro hM0 hM2))
 have l0:(0:Int)≤(L:Int):=Int.natCast_nonneg _
 have l1:(L:Int)<64:=by omega
 clear hL hb hM hM0 hM2 hL2 h0 h hw
 go_wp2_with fail
 go_ret
 exact ⟨M,by rw [←HM.out.1];rfl,HM.out.2.1,HM.out.2.2,rfl⟩
theorem breakU (p C a b:Nat) (d:Array Int) (rest:List Value) (et:TypeId) (w:World) (h:RB w p d rest et) (hab:a+12<b) (hb:b≤d.size) (hsz:d.size<1000000) :
 Calls Tryz.prog 185 #[.slice (some ⟨p,0,none⟩) d.size C,.int .i64 (a:Int),.int .i64 (b:Int)] w fun e w'=>∃d',PermIn a b d d'∧SrtPost w p rest et d' e w':=by
 unfold SrtPost
 have hp:=h.lt
 obtain ⟨s,hs⟩:∃s,w.heap.size=s:=⟨_,rfl⟩
 rw [hs] at hp
 obtain ⟨n,hn⟩:∃n,d.size=n:=⟨_,rfl⟩
 obtain ⟨N,hN⟩:∃N,N=b - a:=⟨_,rfl⟩
 obtain ⟨q,hq⟩:∃q,q=N / 4:=⟨_,rfl⟩
 obtain ⟨c,hc⟩:∃c,c=a+q*2:=⟨_,rfl⟩
 obtain ⟨c0,hc0⟩:∃c0,c0=c - 1:=⟨_,rfl⟩
 obtain ⟨c1,hc1⟩:∃c1,c1=c+1:=⟨_,rfl⟩
 rw [hn] at hb hsz ⊢
 have n0:(N:Int)<1000000:=by omega
 have n1:(8:Int)≤(N:Int):=by omega
 have a0:(a:Int)<1000000:=by omega
 have b0:(b:Int)<1000000:=by omega
 have q0:(q:Int)<1000000:=by omega
 have e1:(b:Int) - (a:Int)=(N:Int):=by omega
 have e2:(N:Int) / 4=(q:Int):=by omega
 have e3:(a:Int)+(q:Int)*2=(c:Int):=by omega
 have e4:(c:Int) - 1=(c0:Int):=by omega
 have e5:(c:Int)+1=(c1:Int):=by omega
 have hP:=fun w=>powU N w (by omega) (by omega)
 have HB:=Lib.hid (And.intro hab (And.intro hb (And.intro hN (And.intro hq (And.intro hc (And.intro hc0 (And.intro hc1 hsz)))))))
 have HS:=Lib.hid (And.intro hs hp)
 have HP:=Lib.hid hP
 have HRB:=Lib.hid h
 have HN:=Lib.hid hn
 clear h hn hab hb hsz hN hq hc hc0 hc1 hs hp hP
 go_enter Tryz.func185,Tryz.ntmps185
 go_wp2_with fail
 have HX0:=Lib.hid (show XB (w.alloc (.cells #[.int .u64 (N:Int)] 324)) w.heap.size from ⟨N,_,Int.natCast_nonneg _,by omega,heap_alloc_new w _⟩)
 have HU0:=Lib.hid (show Upd [] w (w.alloc (.cells #[.int .u64 (N:Int)] 324)) from (Upd.refl _ _).alloc _)
 generalize w.alloc (.cells #[.int .u64 (N:Int)] 324)=W0 at HX0 HU0 ⊢
 rw [HS.out.1] at HX0 ⊢
 (with_reducible refine (HP.out _).mono ?_)
 rintro e w1 ⟨M,rfl,hm0,hm1,rfl⟩
 have HM:=Lib.hid (And.intro hm0 hm1)
 have m0:(0:Int)<(M:Int):=by omega
 have m1:(M:Int)<2000000:=by omega
 clear hm0 hm1
 go_wp2_with fail
 go_loopg [9,10] 4 (fun m s9 s10 wr=>∃(k:Nat) (dk:Array Int),m+k=c0+4∧s9=.int .i64 (k:Int)∧c0≤k∧k≤c0+3∧dk.size=n∧RB wr p dk rest et∧XB wr s∧Upd [p] w wr∧PermIn a b d dk)
 case atStart=>exact ⟨c0,d,by omega,rfl,Nat.le_refl _,by omega,HN.out,HRB.out.upd HU0.out (by simp),HX0.out,HU0.out.mono (by simp),permIn_refl _ _ _⟩
 case round=>
  obtain ⟨k,dk,hm,rfl,h1,h2,hdn,hrb,hx,hu,hperm⟩:=hrel
  have k0:(k:Int)<1000000:=by have:=HB.out;omega
  have HRK:=Lib.hid hrb
  have HUK:=Lib.hid hu
  have HPK:=Lib.hid hperm
  by_cases hle:k≤c1
  ·have hz:(k:Int)≤(c1:Int):=by omega
   have hnx:=nextU s wr hx
   have HNX:=Lib.hid hnx
   have HK:=Lib.hid (And.intro hm (And.intro h1 (And.intro hle hdn)))
   clear hm h1 h2 hdn hrb hx hu hperm hle hnx
   go_wp2_with fail
   (with_reducible refine HNX.out.mono ?_)
   rintro e w2 ⟨r,rfl,hr0,hr1,hx2,hu2⟩
   have HX2:=Lib.hid hx2
   have hu3:=(show Upd [p] w w2 from HUK.out.trans' hu2 (by intro x hx;right;rw [List.mem_singleton.1 hx,HS.out.1];exact Nat.le_refl _))
   have HR2:=Lib.hid (HRK.out.upd hu2 (by have:=HS.out.2;simp;omega))
   have HU2:=Lib.hid hu3
   obtain ⟨R,rfl⟩:∃R:Nat,r=(R:Int):=⟨r.toNat,by omega⟩
   obtain ⟨M1,hM1⟩:∃m,m=M - 1:=⟨_,rfl⟩
   have em:(M:Int) - 1=(M1:Int):=by have:=HM.out;omega
   obtain ⟨o,ho⟩:∃o,R &&& M1=o:=⟨_,rfl⟩
   have hol:o≤M1:=by rw [←ho];exact Nat.and_le_right
   have ea:bits BinOp.and IntKind.u64 (R:Int) (M1:Int)=(o:Int):=by
    rw [bits_and_u64_nat R M1 (by omega) (by omega),ho]
   have HO:=Lib.hid (And.intro hol hM1)
   have o0:(o:Int)<2000000:=by omega
   clear hx2 hu2 hu3 hr0 hr1 ho hol hM1
   by_cases hoN:N≤o
   ·have hz2:(N:Int)≤(o:Int):=by omega
    obtain ⟨O1,hO1⟩:∃m,m=o - N:=⟨_,rfl⟩
    have eo:(o:Int) - (N:Int)=(O1:Int):=by omega
    have HOO:=Lib.hid (show O1<N by have:=HO.out;have:=HM.out;omega)
    clear hoN hO1
    go_upto_if 43 with fail
    go_wp2_with fail
    have xb:a+O1<b:=by have:=HB.out;have:=HO.out;have:=HM.out;have:=HOO.out;omega
    obtain ⟨x,hx⟩:∃x,x=a+O1:=⟨_,rfl⟩
    have ex:(a:Int)+(O1:Int)=(x:Int):=by omega
    have g1:(k:Int)<(n:Int):=by have:=HB.out;have:=HK.out;omega
    have g2:(x:Int)<(n:Int):=by have:=HB.out;omega
    have l1:=HR2.out.cell (t:=k) (by have:=HB.out;have:=HK.out;omega)
    have l2:=HR2.out.cell (t:=x) (by have:=HB.out;have:=HK.out;omega)
    have f1:=HR2.out.frozen k
    have f2:=HR2.out.frozen x
    obtain ⟨vp,hvp⟩:∃u,dk[k]! = u:=⟨_,rfl⟩
    obtain ⟨vq,hvq⟩:∃u,dk[x]! = u:=⟨_,rfl⟩
    have l3:=(HR2.out.set (t:=k) (by have:=HB.out;have:=HK.out;omega) vq).cell (t:=x) (by rw [Array.size_setIfInBounds];have:=HB.out;have:=HK.out;omega)
    obtain ⟨v3,hv3⟩:∃u,(dk.setIfInBounds k vq)[x]! = u:=⟨_,rfl⟩
    have HSW:=Lib.hid (And.intro (HR2.out.swp (i:=k) (j:=x) (by have:=HB.out;have:=HK.out;omega) (by have:=HB.out;have:=HK.out;omega)) (And.intro (HU2.out.swp (p:=p) (.inl (by simp)) k x (.int .u32 dk[x]!) (.int .u32 dk[k]!)) (HX2.out.upd ((Upd.refl [p] w2).swp (p:=p) (.inl (by simp)) k x (.int .u32 dk[x]!) (.int .u32 dk[k]!)) (by have:=HS.out.2;simp;omega))))
    rw [hvp,hvq] at HSW
    rw [hvp] at l1
    rw [hvq] at l2
    rw [hv3] at l3
    have HXX:=Lib.hid (And.intro hx xb)
    clear hvp hvq hv3 hx xb
    go_region
    generalize (w2.setCell ⟨p,k,none⟩ (.int .u32 vq)).setCell ⟨p,x,none⟩ (.int .u32 vp)=W2 at HSW ⊢
    go_wp2_with fail
    go_roundg (c0+4 - (k+1))
    case measure=>have:=HK.out;have:=HB.out;omega
    case rel=>
     have hk:=HK.out;have hb:=HB.out;have hxx:=HXX.out
     refine ⟨k+1,swp dk k x,by omega,by go_num,by omega,by omega,by rw [size_swp];exact hk.2.2.2,HSW.out.1.drew,HSW.out.2.2.upd ((Upd.refl [] _).drew) (by simp),HSW.out.2.1.drew,?_⟩
     exact permIn_trans _ _ _ a b HPK.out (swp_permIn dk a b k x (by omega) (by omega) (by omega) (by omega) (by omega))
   ·obtain ⟨O1,hO1⟩:∃m,m=o:=⟨_,rfl⟩
    subst hO1
    have hz2:decide (N≤O1)=false:=decide_eq_false (by omega)
    have hz3:decide ((N:Int)≤(O1:Int))=false:=decide_eq_false (by omega)
    have HOO:=Lib.hid (show O1<N by omega)
    clear hoN
    go_upto_if 43 with fail
    go_wp2_with fail
    have xb:a+O1<b:=by have:=HB.out;have:=HO.out;have:=HM.out;have:=HOO.out;omega
    obtain ⟨x,hx⟩:∃x,x=a+O1:=⟨_,rfl⟩
    have ex:(a:Int)+(O1:Int)=(x:Int):=by omega
    have g1:(k:Int)<(n:Int):=by have:=HB.out;have:=HK.out;omega
    have g2:(x:Int)<(n:Int):=by have:=HB.out;omega
    have l1:=HR2.out.cell (t:=k) (by have:=HB.out;have:=HK.out;omega)
    have l2:=HR2.out.cell (t:=x) (by have:=HB.out;have:=HK.out;omega)
    have f1:=HR2.out.frozen k
    have f2:=HR2.out.frozen x
    obtain ⟨vp,hvp⟩:∃u,dk[k]! = u:=⟨_,rfl⟩
    obtain ⟨vq,hvq⟩:∃u,dk[x]! = u:=⟨_,rfl⟩
    have l3:=(HR2.out.set (t:=k) (by have:=HB.out;have:=HK.out;omega) vq).cell (t:=x) (by rw [Array.size_setIfInBounds];have:=HB.out;have:=HK.out;omega)
    obtain ⟨v3,hv3⟩:∃u,(dk.setIfInBounds k vq)[x]! = u:=⟨_,rfl⟩
    have HSW:=Lib.hid (And.intro (HR2.out.swp (i:=k) (j:=x) (by have:=HB.out;have:=HK.out;omega) (by have:=HB.out;have:=HK.out;omega)) (And.intro (HU2.out.swp (p:=p) (.inl (by simp)) k x (.int .u32 dk[x]!) (.int .u32 dk[k]!)) (HX2.out.upd ((Upd.refl [p] w2).swp (p:=p) (.inl (by simp)) k x (.int .u32 dk[x]!) (.int .u32 dk[k]!)) (by have:=HS.out.2;simp;omega))))
    rw [hvp,hvq] at HSW
    rw [hvp] at l1
    rw [hvq] at l2
    rw [hv3] at l3
    have HXX:=Lib.hid (And.intro hx xb)
    clear hvp hvq hv3 hx xb
    go_region
    generalize (w2.setCell ⟨p,k,none⟩ (.int .u32 vq)).setCell ⟨p,x,none⟩ (.int .u32 vp)=W2 at HSW ⊢
    go_wp2_with fail
    go_roundg (c0+4 - (k+1))
    case measure=>have:=HK.out;have:=HB.out;omega
    case rel=>
     have hk:=HK.out;have hb:=HB.out;have hxx:=HXX.out
     refine ⟨k+1,swp dk k x,by omega,by go_num,by omega,by omega,by rw [size_swp];exact hk.2.2.2,HSW.out.1.drew,HSW.out.2.2.upd ((Upd.refl [] _).drew) (by simp),HSW.out.2.1.drew,?_⟩
     exact permIn_trans _ _ _ a b HPK.out (swp_permIn dk a b k x (by omega) (by omega) (by omega) (by omega) (by omega))
  ·have hz:¬(k:Int)≤(c1:Int):=by omega
   clear hm h1 h2 hdn hrb hx hu hperm hle
   go_wp2_with fail
   go_end0
   exact ⟨dk,HPK.out,rfl,HRK.out,HUK.out⟩
end Go.Proofs.YtkbaaonchdeneaaGreat
namespace Go.Proofs.YtkbaaonchdeneaaGreat
open Go.RowKit Go.Sort
def PdqPost (w:World) (p a b:Nat) (d:Array Int) (rest:List Value) (et:TypeId) (e:Ending) (w':World):Prop:=∃d',PermIn a b d d'∧SortedIn ltInt a b d'∧SrtPost w p rest et d' e w'
def PdqFor (K:Nat):Prop:=∀(p C a b lim:Nat) (d:Array Int) (rest:List Value) (et:TypeId) (w:World),RB w p d rest et→a≤b→b≤d.size→d.size<1000000→lim<1000→Sort.Below ltInt a b d→b - a<K→
 Calls Tryz.prog 121 #[.slice (some ⟨p,0,none⟩) d.size C,.int .i64 (a:Int),.int .i64 (b:Int),.int .i64 (lim:Int)] w (PdqPost w p a b d rest et)
theorem pdqStep (K:Nat) (ih:PdqFor K) (p C a b lim:Nat) (d:Array Int) (rest:List Value) (et:TypeId) (w:World) (h:RB w p d rest et) (hab:a≤b) (hb:b≤d.size) (hsz:d.size<1000000) (hl:lim<1000) (hB:Sort.Below ltInt a b d) (hK:b - a≤K) :
 Calls Tryz.prog 121 #[.slice (some ⟨p,0,none⟩) d.size C,.int .i64 (a:Int),.int .i64 (b:Int),.int .i64 (lim:Int)] w (PdqPost w p a b d rest et):=by
 unfold PdqPost SrtPost
 obtain ⟨n,hn⟩:∃n,d.size=n:=⟨_,rfl⟩
 rw [hn] at hb hsz ⊢
 have n0:(n:Int)<1000000:=by omega
 have HH:=Lib.hid h
 have HN:=Lib.hid hn
 have HB:=Lib.hid (And.intro hab (And.intro hb (And.intro hsz (And.intro hl hK))))
 have HBL:=Lib.hid hB
 have HIH:=Lib.hid ih
 clear h hn hab hb hsz hl hB hK ih
 go_enter Tryz.func121,Tryz.ntmps121
 go_wp2_with fail
 go_loopg [1,2,3,8,9] (b - a) (fun m s1 s2 s3 s8 s9 wr=>∃(a' b' l:Nat) (wb wp:Bool) (dk:Array Int),m=b' - a'∧s1=.int .i64 (a':Int)∧s2=.int .i64 (b':Int)∧s3=.int .i64 (l:Int)∧s8=.bool wb∧s9=.bool wp∧
  a'≤b'∧b'≤n∧b' - a'≤K∧l<1000∧Sort.Below ltInt a' b' dk∧dk.size=n∧RB wr p dk rest et∧Upd [p] w wr∧Rest a b d a' b' dk)
 case atStart=>exact ⟨a,b,lim,true,true,d,rfl,rfl,rfl,rfl,rfl,rfl,HB.out.1,HB.out.2.1,HB.out.2.2.2.2,HB.out.2.2.2.1,HBL.out,HN.out,HH.out,Upd.refl _ _,Rest.refl _ _ _⟩
 case round=>
  obtain ⟨a',b',l,wb,wp,dk,hm,rfl,rfl,rfl,rfl,rfl,hab,hbn,hK,hl,hB,hdn,hrb,hu,hre⟩:=hrel
  clear HH HN HBL
  obtain ⟨N,hN⟩:∃N,N=b' - a':=⟨_,rfl⟩
  have e1:(b':Int) - (a':Int)=(N:Int):=by omega
  have a0:(a':Int)<1000000:=by omega
  have b0:(b':Int)<1000000:=by omega
  by_cases h12:N≤12
  ·have hz:(N:Int)≤12:=by omega
   have hc:=insertU p C a' b' dk rest et wr hrb hab (by omega) (by omega)
   rw [hdn] at hc
   obtain ⟨g1,g2⟩:=insertionSort_holds swo_ltInt dk a' b' hab (by omega)
   have HC:=Lib.hid hc
   have HE:=Lib.hid (hre _ g1 g2)
   have HU:=Lib.hid hu
   clear hm hab hbn hK hl hB hdn hrb hu hre hN h12 hc g1 g2
   go_wp2_with fail
   (with_reducible refine HC.out.mono ?_)
   rintro e w1 ⟨rfl,hr1,hu1⟩
   have H1:=Lib.hid (And.intro hr1 (HU.out.trans hu1))
   clear hr1 hu1
   go_wp2_with fail
   (try simp only [Exit.inBlock,Exit.then])
   refine bodyPost_ret (results_none rfl _ _ _) rfl ?_
   exact ⟨_,HE.out.1,HE.out.2,rfl,H1.out.1,H1.out.2⟩
  ·have hz:¬(N:Int)≤12:=by omega
   by_cases hl0:l=0
   ·have hz2:((l:Int)==0)=true:=by rw [beq_iff_eq];omega
    have hc:=heapU p C a' b' dk rest et wr hrb hab (by omega) (by omega)
    rw [hdn] at hc
    obtain ⟨g1,g2⟩:=heapSort_holds swo_ltInt dk a' b' hab (by omega)
    have HC:=Lib.hid hc
    have HE:=Lib.hid (hre _ g1 g2)
    have HU:=Lib.hid hu
    clear hm hab hbn hK hl hB hdn hrb hu hre hN h12 hl0 hc g1 g2
    go_wp2_with fail
    (with_reducible refine HC.out.mono ?_)
    rintro e w1 ⟨rfl,hr1,hu1⟩
    have H1:=Lib.hid (And.intro hr1 (HU.out.trans hu1))
    clear hr1 hu1
    go_wp2_with fail
    (try simp only [Exit.inBlock,Exit.then])
    refine bodyPost_ret (results_none rfl _ _ _) rfl ?_
    exact ⟨_,HE.out.1,HE.out.2,rfl,H1.out.1,H1.out.2⟩
   ·have hz2:((l:Int)==0)=false:=by rw [beq_eq_false_iff_ne];omega
    have hz3:¬(l:Int)=0:=by omega
    have l0:(l:Int)<1000:=by omega
    have l1:(0:Int)<(l:Int):=by omega
    have hbr:=breakU p C a' b' dk rest et wr hrb (by omega) (by omega) (by omega)
    rw [hdn] at hbr
    have HR:=Lib.hid (And.intro hm (And.intro hab (And.intro hbn (And.intro hK (And.intro hl (And.intro hdn (And.intro hN h12)))))))
    have HL:=Lib.hid (show 0<l by omega)
    have HBL:=Lib.hid hB
    have HRB:=Lib.hid hrb
    have HU:=Lib.hid hu
    have HRE:=Lib.hid hre
    have HBR:=Lib.hid hbr
    clear hm hab hbn hK hl hB hdn hrb hu hre hN h12 hl0 hbr
    go_upto_if 35 with fail
    clear hz2 hz3
    go_cut [3] (fun s3 wc=>∃(l1:Nat) (d1:Array Int),s3=.int .i64 (l1:Int)∧l1<1000∧PermIn a' b' dk d1∧RB wc p d1 rest et∧Upd [p] w wc)
    case first=>
     cases wb
     ·simp only [Bool.not_false]
      go_wp2_with fail
      (with_reducible refine HBR.out.mono ?_)
      rintro e w1 ⟨d1,hp1,rfl,hr1,hu1⟩
      have H1:=Lib.hid (And.intro hp1 (And.intro hr1 (HU.out.trans hu1)))
      clear hp1 hr1 hu1
      go_wp2_with fail
      go_meet
      case rel=>exact ⟨l - 1,d1,by have:=HL.out;go_num,by have:=HR.out;omega,H1.out.1,H1.out.2.1,H1.out.2.2⟩
     ·simp only [Bool.not_true]
      go_wp2_with fail
      go_meet
      case rel=>exact ⟨l,dk,rfl,HR.out.2.2.2.2.1,permIn_refl _ _ _,HRB.out,HU.out⟩
    case rest=>
     obtain ⟨l2,d1,rfl,hl2,hp1,hrb,hu⟩:=hcut
     have hd1:d1.size=n:=by rw [hp1.1];exact HR.out.2.2.2.2.2.1
     have hB1:=Below.perm HBL.out (by have:=HR.out;omega) hp1
     have hre1:=HRE.out.perm hp1
     have hpv:=pivotU p C a' b' d1 rest et wc hrb (by have:=HR.out;omega) (by have:=HR.out;omega) (by have:=HB.out;omega)
     have hrv:=fun (w2:World) (hu2:Upd [] wc w2)=>reverseU p C a' b' d1 rest et w2 (hrb.upd hu2 (by simp)) (by have:=HR.out;omega) (by have:=HR.out;omega) (by have:=HB.out;omega)
     rw [hd1] at hpv
     simp only [hd1] at hrv
     clear HRB HU HRE HBL HBR l0 l1
     have HL2:=Lib.hid hl2
     have l3:(l2:Int)<1000:=by omega
     have HD:=Lib.hid (And.intro hd1 hB1)
     have HRB:=Lib.hid hrb
     have HU:=Lib.hid hu
     have HRE:=Lib.hid hre1
     have HPV:=Lib.hid hpv
     have HRV:=Lib.hid hrv
     clear hl2 hp1 hrb hu hd1 hB1 hre1 hpv hrv
     go_wp2_with fail
     (with_reducible refine HPV.out.mono ?_)
     rintro e w2 ⟨x,hn,rfl,hx1,hx2,hu2⟩
     have H2:=Lib.hid (And.intro hx1 (And.intro hx2 hu2))
     clear hx1 hx2 hu2
     go_upto_if 50 with fail
     go_cut [11,12] (fun s11 s12 wc=>∃(x2:Nat) (h2:Int) (d2:Array Int),s11=.int .i64 (x2:Int)∧s12=.int .i64 h2∧a'≤x2∧x2<b'∧PermIn a' b' d1 d2∧RB wc p d2 rest et∧Upd [p] w wc)
     case first=>
      by_cases hh:hn=2
      ·have hq1:(hn==2)=true:=by rw [beq_iff_eq];exact hh
       obtain ⟨x3,hx3⟩:∃x3,x3=(b' - 1) - (x - a'):=⟨_,rfl⟩
       have e2:((b':Int) - 1) - ((x:Int) - (a':Int))=(x3:Int):=by have:=H2.out;have:=HR.out;omega
       have x0:(x:Int)<1000000:=by have:=H2.out;omega
       have HX3:=Lib.hid (show a'≤x3∧x3<b' by have:=H2.out;have:=HR.out;omega)
       clear hh hx3
       simp only [hq1]
       go_wp2_with fail
       (with_reducible refine (HRV.out w2 H2.out.2.2).mono ?_)
       rintro e w3 ⟨d2,hp2,rfl,hr2,hu3⟩
       have H3:=Lib.hid (And.intro hp2 (And.intro hr2 (HU.out.trans ((H2.out.2.2.mono (by simp)).trans hu3))))
       clear hp2 hr2 hu3
       go_wp2_with fail
       go_meet
       case rel=>exact ⟨x3,1,d2,rfl,rfl,HX3.out.1,HX3.out.2,H3.out.1,H3.out.2.1,H3.out.2.2⟩
      ·have hq1:(hn==2)=false:=by rw [beq_eq_false_iff_ne];exact hh
       clear hh
       simp only [hq1]
       go_wp2_with fail
       go_meet
       case rel=>exact ⟨x,hn,d1,rfl,rfl,H2.out.1,H2.out.2.1,permIn_refl _ _ _,HRB.out.upd H2.out.2.2 (by simp),HU.out.trans (H2.out.2.2.mono (by simp))⟩
     case rest=>
      obtain ⟨x2,h2,d2,rfl,rfl,hx1,hx2,hp2,hrb,hu⟩:=hcut
      have hd2:d2.size=n:=by rw [hp2.1];exact HD.out.1
      have hB2:=Below.perm HD.out.2 (by have:=HR.out;rw [HD.out.1];omega) hp2
      have hre2:=HRE.out.perm hp2
      have hpi:=partialU p C a' b' d2 rest et wc hrb (by have:=HR.out;omega) (by have:=HR.out;omega) (by have:=HB.out;omega)
      rw [hd2] at hpi
      obtain ⟨q1,q2⟩:=partialInsertionSort_holds swo_ltInt d2 a' b' (by have:=HR.out;omega) (by have:=HR.out;omega) hB2
      clear HRB HU HRE HPV HRV HD
      have HX2:=Lib.hid (And.intro hx1 hx2)
      have HD:=Lib.hid (And.intro hd2 hB2)
      have HRB:=Lib.hid hrb
      have HU:=Lib.hid hu
      have HRE:=Lib.hid hre2
      have HPI:=Lib.hid hpi
      have HQ:=Lib.hid (And.intro q1 q2)
      clear hx1 hx2 hp2 hrb hu hd2 hB2 hre2 hpi q1 q2 H2
      obtain ⟨W2,rfl⟩:∃W:World,W=wc:=⟨_,rfl⟩
      go_upto_region 15 with fail
      go_cut [68] (fun s68 wc=>s68=.bool (wb&&(wp&&(h2==1)))∧W2=wc)
      case first=>
       cases wb
       ·go_wp2_with fail
        go_meet
        case rel=>exact ⟨rfl,rfl⟩
       ·cases wp
        ·go_wp2_with fail
         go_meet
         case rel=>exact ⟨rfl,rfl⟩
        ·go_wp2_with fail
         go_meet
         case rel=>exact ⟨by simp,rfl⟩
      case rest=>
       obtain ⟨rfl,rfl⟩:=hcut
       generalize (wb&&(wp&&(h2==1)))=T
       go_upto_if 68 with fail
       go_cut [] (fun wc=>∃d3,PermIn a' b' d2 d3∧RB wc p d3 rest et∧Upd [p] w wc)
       case first=>
        cases T
        ·go_wp2_with fail
         go_meet
         case rel=>exact ⟨d2,permIn_refl _ _ _,HRB.out,HU.out⟩
        ·go_wp2_with fail
         (with_reducible refine HPI.out.mono ?_)
         rintro e w3 ⟨rfl,hr3,hu3⟩
         have H3:=Lib.hid (And.intro hr3 (HU.out.trans hu3))
         clear hr3 hu3
         obtain ⟨PS,hPS⟩:∃P,partialInsertionSort ltInt d2 a' b'=P:=⟨_,rfl⟩
         obtain ⟨PA,PB⟩:=PS
         rw [hPS] at HQ H3
         simp only [hPS]
         cases PB
         ·go_wp2_with fail
          go_meet
          case rel=>exact ⟨PA,HQ.out.1,H3.out.1,H3.out.2⟩
         ·go_wp2_with fail
          (try simp only [Exit.inBlock,Exit.then])
          refine bodyPost_ret (results_none rfl _ _ _) rfl ?_
          have hz:=HRE.out _ HQ.out.1 (HQ.out.2 (by simp))
          exact ⟨PA,hz.1,hz.2,rfl,H3.out.1,H3.out.2⟩
       case rest=>
        obtain ⟨d3,hp3,hrb,hu⟩:=hcut
        have hd3:d3.size=n:=by rw [hp3.1];exact HD.out.1
        have hB3:=Below.perm HD.out.2 (by have:=HR.out;rw [HD.out.1];omega) hp3
        have hre3:=HRE.out.perm hp3
        have hpe:=fun (w2:World) (hu2:Upd [] wc w2)=>partEqU p C a' b' x2 d3 rest et w2 (hrb.upd hu2 (by simp)) HX2.out.1 HX2.out.2 (by have:=HR.out;omega) (by have:=HB.out;omega)
        have hpt:=fun (w2:World) (hu2:Upd [] wc w2)=>partU p C a' b' x2 d3 rest et w2 (hrb.upd hu2 (by simp)) HX2.out.1 HX2.out.2 (by have:=HR.out;omega) (by have:=HB.out;omega)
        simp only [hd3] at hpe hpt
        clear HRB HU HRE HPI HD HQ
        have HD:=Lib.hid (And.intro hd3 hB3)
        have HRB:=Lib.hid hrb
        have HU:=Lib.hid hu
        have HRE:=Lib.hid hre3
        have HPE:=Lib.hid hpe
        have HPT:=Lib.hid hpt
        clear hp3 hrb hu hd3 hB3 hre3 hpe hpt
        obtain ⟨W3,rfl⟩:∃W:World,W=wc:=⟨_,rfl⟩
        go_upto_region 17 with fail
        have l1:=HRB.out.cell (t:=x2) (by have:=HD.out;have:=HR.out;have:=HX2.out;omega)
        have x0:(x2:Int)<(n:Int):=by have:=HX2.out;have:=HR.out;omega
        go_cut [87] (fun s87 wc=>∃U,s87=.bool U∧(U=true→0<a'∧ltInt d3[a' - 1]! d3[x2]! = false)∧Upd [] W3 wc)
        case first=>
         by_cases ha0:0<a'
         ·have hz4:(0:Int)<(a':Int):=by omega
          have hz5:decide (0<a')=true:=decide_eq_true ha0
          obtain ⟨a1,ha1⟩:∃k,k=a' - 1:=⟨_,rfl⟩
          have e3:(a':Int) - 1=(a1:Int):=by omega
          have x1:(a1:Int)<(n:Int):=by have:=HR.out;omega
          have l2:=HRB.out.cell (t:=a1) (by have:=HD.out;have:=HR.out;omega)
          obtain ⟨va,hva⟩:∃v,d3[a1]! = v:=⟨_,rfl⟩
          obtain ⟨vx,hvx⟩:∃v,d3[x2]! = v:=⟨_,rfl⟩
          rw [hva] at l2
          rw [hvx] at l1
          obtain ⟨t,ht⟩:∃t,ltInt va vx=t:=⟨_,rfl⟩
          have HLX:=Lib.hid (show ∀w,Calls Tryz.prog 189 #[.int .u32 va,.int .u32 vx] w fun e w'=>e=.returned (.bool t)∧w'=w from fun w=>by have:=lessU va vx w;rw [ht] at this;exact this)
          have HT:=Lib.hid (And.intro ha0 (show ltInt d3[a' - 1]! d3[x2]! = t by rw [←ha1,hva,hvx];exact ht))
          clear ha0 ha1 hva hvx ht
          cases t
          ·go_quiet (first | (go_at_call 189;refine Calls.quiet_of_same (HLX.out _)))
           go_wp2_with fail
           go_meet
           case rel=>exact ⟨_,rfl,fun _=>HT.out,(Upd.refl _ _).drewN _⟩
          ·go_quiet (first | (go_at_call 189;refine Calls.quiet_of_same (HLX.out _)))
           go_wp2_with fail
           go_meet
           case rel=>exact ⟨_,rfl,fun h=>(by simp at h),(Upd.refl _ _).drewN _⟩
         ·have hz5:decide (0<a')=false:=decide_eq_false ha0
          clear ha0 l1
          go_quiet (fail)
          go_wp2_with fail
          go_meet
          case rel=>exact ⟨_,rfl,fun h=>(by cases h),(Upd.refl _ _).drewN _⟩
        case rest=>
         obtain ⟨U,rfl,hU,hu3⟩:=hcut
         have HUU:=Lib.hid hU
         have HU3:=Lib.hid hu3
         clear hU hu3 l1 x0
         cases U
         ·go_wp2_with fail
          (with_reducible refine (HPT.out _ HU3.out).mono ?_)
          rintro e w4 ⟨bo,rfl,hr4,hu4⟩
          obtain ⟨PT,hPT⟩:∃P,partition ltInt d3 a' b' x2=P:=⟨_,rfl⟩
          obtain ⟨mid,ap,d4⟩:=PT
          rw [hPT] at hr4
          simp only [hPT]
          have g:=HRE.out.part HX2.out.1 HX2.out.2 (by have:=HR.out;rw [HD.out.1];omega) HD.out.2 hPT
          clear hPT
          obtain ⟨mid1,hm1⟩:∃k,k=mid+1:=⟨_,rfl⟩
          obtain ⟨lf,hlf⟩:∃k,k=mid - a':=⟨_,rfl⟩
          obtain ⟨rg,hrg⟩:∃k,k=b' - mid:=⟨_,rfl⟩
          have el:(mid:Int) - (a':Int)=(lf:Int):=by omega
          have er:(b':Int) - (mid:Int)=(rg:Int):=by omega
          have mb:(mid:Int)<1000000:=by omega
          clear hlf hrg
          by_cases hlt:lf<rg
          ·have hz6:(lf:Int)<(rg:Int):=by omega
           have hi:=HIH.out p C a' mid l2 d4 rest et w4 hr4 g.1 (by have:=HR.out;rw [g.2.2.1,HD.out.1];omega) (by have:=HB.out;rw [g.2.2.1,HD.out.1];omega) HL2.out g.2.2.2.1 (by have:=HR.out;omega)
           rw [g.2.2.1,HD.out.1] at hi
           have HI:=Lib.hid hi
           have HG:=Lib.hid g
           have HU4:=Lib.hid (HU.out.trans ((Upd.mono HU3.out (by simp)).trans hu4))
           have em1:(mid:Int)+1=(mid1:Int):=by omega
           have HM1:=Lib.hid hm1
           clear hr4 hu4 g hi hm1 hlt HPE HPT
           go_wp2_with fail
           (with_reducible refine HI.out.mono ?_)
           rintro e w5 ⟨L,hL1,hL2,rfl,hr5,hu5⟩
           obtain ⟨k1,k2⟩:=HG.out.2.2.2.2.2.1 L hL1 hL2
           have H5:=Lib.hid (And.intro k1 (And.intro k2 (And.intro (show L.size=n by rw [hL1.1,HG.out.2.2.1];exact HD.out.1) (And.intro hr5 (HU4.out.trans hu5)))))
           clear hL1 hL2 hr5 hu5 k1 k2
           go_wp2_with fail
           go_roundg (b' - mid1)
           case measure=>have:=HR.out;have:=HG.out;have:=HM1.out;omega
           case rel=>exact ⟨mid1,b',l2,_,_,L,rfl,rfl,rfl,rfl,rfl,rfl,by have:=HR.out;have:=HG.out;have:=HM1.out;omega,HR.out.2.2.1,by have:=HR.out;have:=HM1.out;have:=HG.out;omega,HL2.out,by rw [HM1.out];exact H5.out.1,H5.out.2.2.1,H5.out.2.2.2.1,H5.out.2.2.2.2,by rw [HM1.out];exact H5.out.2.1⟩
          ·have hz6:¬(lf:Int)<(rg:Int):=by omega
           have hi:=HIH.out p C mid1 b' l2 d4 rest et w4 hr4 (by have:=HR.out;omega) (by have:=HR.out;rw [g.2.2.1,HD.out.1];omega) (by have:=HB.out;rw [g.2.2.1,HD.out.1];omega) HL2.out (by rw [hm1];exact g.2.2.2.2.1) (by have:=HR.out;omega)
           rw [g.2.2.1,HD.out.1] at hi
           have HI:=Lib.hid hi
           have HG:=Lib.hid g
           have HU4:=Lib.hid (HU.out.trans ((Upd.mono HU3.out (by simp)).trans hu4))
           have em1:(mid:Int)+1=(mid1:Int):=by omega
           have HM1:=Lib.hid hm1
           clear hr4 hu4 g hi hm1 hlt HPE HPT
           go_wp2_with fail
           (with_reducible refine HI.out.mono ?_)
           rintro e w5 ⟨L,hL1,hL2,rfl,hr5,hu5⟩
           rw [HM1.out] at hL1 hL2
           obtain ⟨k1,k2⟩:=HG.out.2.2.2.2.2.2 L hL1 hL2
           have H5:=Lib.hid (And.intro k1 (And.intro k2 (And.intro (show L.size=n by rw [hL1.1,HG.out.2.2.1];exact HD.out.1) (And.intro hr5 (HU4.out.trans hu5)))))
           clear hL1 hL2 hr5 hu5 k1 k2
           go_wp2_with fail
           go_roundg (mid - a')
           case measure=>have:=HR.out;have:=HG.out;omega
           case rel=>exact ⟨a',mid,l2,_,_,L,rfl,rfl,rfl,rfl,rfl,rfl,HG.out.1,by have:=HR.out;have:=HG.out;omega,by have:=HR.out;have:=HG.out;omega,HL2.out,H5.out.1,H5.out.2.2.1,H5.out.2.2.2.1,H5.out.2.2.2.2,H5.out.2.1⟩
         ·go_wp2_with fail
          (with_reducible refine (HPE.out _ HU3.out).mono ?_)
          rintro e w4 ⟨rfl,hr4,hu4⟩
          obtain ⟨PT,hPT⟩:∃P,partitionEqual ltInt d3 a' b' x2=P:=⟨_,rfl⟩
          obtain ⟨mid,d4⟩:=PT
          rw [hPT] at hr4
          simp only [hPT]
          have g:=HRE.out.equal (HUU.out (by simp)).1 HX2.out.1 HX2.out.2 (by have:=HR.out;rw [HD.out.1];omega) HD.out.2 (HUU.out (by simp)).2 hPT
          have HG:=Lib.hid g
          have H4:=Lib.hid (And.intro hr4 (HU.out.trans ((Upd.mono HU3.out (by simp)).trans hu4)))
          clear hPT g hr4 hu4
          go_wp2_with fail
          go_roundg (b' - mid)
          case measure=>have:=HR.out;have:=HG.out;omega
          case rel=>exact ⟨mid,b',l2,wb,wp,d4,rfl,rfl,rfl,rfl,rfl,rfl,HG.out.2.1,HR.out.2.2.1,by have:=HR.out;have:=HG.out;omega,HL2.out,HG.out.2.2.2.1,by rw [HG.out.2.2.1];exact HD.out.1,H4.out.1,H4.out.2,HG.out.2.2.2.2⟩
theorem pdqAll:∀K,PdqFor K:=by
 intro K
 induction K with
 |zero=>intro p C a b lim d rest et w h hab hb hsz hl hB hK;omega
 |succ K ih=>intro p C a b lim d rest et w h hab hb hsz hl hB hK;exact pdqStep K ih p C a b lim d rest et w h hab hb hsz hl hB (by omega)
end Go.Proofs.YtkbaaonchdeneaaGreat
namespace Go.Proofs.YtkbaaonchdeneaaGreat
open Go.RowKit Go.Sort
def KU:Kind Nat:={ T:=0,sT:=35,eT:=26,sz:=1,enc:=fun x=>[.int .u32 (x:Int)],len:=fun _=>rfl,one:=fun x u hu=>by simp at hu;subst hu;rfl }
def sortN (l:List Nat):List Nat:=l.mergeSort fun x y=>decide (x≤y)
theorem sortN_perm (l:List Nat):(sortN l).Perm l:=List.mergeSort_perm l _
theorem sortN_le (l:List Nat):(sortN l).Pairwise (·≤·):=by
 have:=List.pairwise_mergeSort (le:=fun (x y:Nat)=>decide (x≤y)) (by intro a b c h1 h2;simp at *;omega) (by intro a b;simp;omega) l
 exact this.imp (by intro a b h;simpa using h)
theorem sortN_len (l:List Nat):(sortN l).length=l.length:=(sortN_perm l).length_eq
theorem sortN_eq {l m:List Nat} (h:m.Perm l) (hs:m.Pairwise (·≤·)):m=sortN l:=
 List.Perm.eq_of_pairwise (le:=(·≤·)) (fun _ _ _ _ h1 h2=>Nat.le_antisymm h1 h2) hs (sortN_le l) (h.trans (sortN_perm l).symm)
theorem ku_all (l:List Nat):KU.all l=l.map fun x=>.int .u32 (x:Int):=by
 induction l with
 |nil=>rfl
 |cons a l ih=>rw [List.map_cons,←ih];rfl
theorem insertNone (A:Option Addr) (C:Nat) (w:World) :
 Calls Tryz.prog 183 #[.slice A 0 C,.int .i64 0,.int .i64 0] w fun e w'=>e=.returned (.tuple #[])∧Upd [] w w':=by
 go_enter Tryz.func183,Tryz.ntmps183
 go_wp2_with fail
 go_loopg [6] 0 (fun m s6 wr=>s6=.int .i64 1∧Upd [] w wr)
 case atStart=>exact ⟨rfl,Upd.refl _ _⟩
 case round=>
  obtain ⟨rfl,hu⟩:=hrel
  have HU:=Lib.hid hu
  clear hu
  go_wp2_with fail
  go_end0
  exact ⟨rfl,HU.out⟩
theorem pdqNone (A:Option Addr) (C lim:Nat) (w:World) :
 Calls Tryz.prog 121 #[.slice A 0 C,.int .i64 0,.int .i64 0,.int .i64 (lim:Int)] w fun e w'=>e=.returned (.tuple #[])∧Upd [] w w':=by
 have HI:=Lib.hid (insertNone A C)
 go_enter Tryz.func121,Tryz.ntmps121
 go_wp2_with fail
 go_loopg [1,2] 0 (fun m s1 s2 wr=>s1=.int .i64 0∧s2=.int .i64 0∧Upd [] w wr)
 case atStart=>exact ⟨rfl,rfl,Upd.refl _ _⟩
 case round=>
  obtain ⟨rfl,rfl,hu⟩:=hrel
  have HU:=Lib.hid hu
  clear hu
  go_wp2_with fail
  (with_reducible refine (HI.out _).mono ?_)
  rintro e w1 ⟨rfl,hu1⟩
  have HU1:=Lib.hid (HU.out.trans hu1)
  clear hu1
  go_wp2_with fail
  (try simp only [Exit.inBlock,Exit.then])
  refine bodyPost_ret (results_none rfl _ _ _) rfl ?_
  exact ⟨rfl,HU1.out⟩
theorem bitLen_small (n:Nat) (h:n<1000000):Lib.bitLen n<1000:=by
 rcases Nat.eq_zero_or_pos n with h0 | h0
 ·subst h0;decide
 ·have hb:=Lib.bitLenAux_bounds 64 n (Nat.lt_of_lt_of_le h (by decide)) (by omega)
  obtain ⟨L,hL⟩:∃L,Lib.bitLen n=L:=⟨_,rfl⟩
  rw [show Lib.bitLenAux 64 n=L from hL] at hb
  rw [hL]
  rcases Nat.lt_or_ge 20 L with h1 | h1
  ·have h2:2 ^ 20≤2 ^ (L - 1):=Nat.pow_le_pow_right (by decide) (by omega)
   have h3:(2:Nat) ^ 20=1048576:=by decide
   omega
  ·omega
def PdqTo (M:Nat):Prop:=∀(p C lim:Nat) (d:Array Int) (rest:List Value) (et:TypeId) (w:World),RB w p d rest et→d.size<M→lim<1000→
 Calls Tryz.prog 121 #[.slice (some ⟨p,0,none⟩) d.size C,.int .i64 ((0:Nat):Int),.int .i64 (d.size:Int),.int .i64 (lim:Int)] w (PdqPost w p 0 d.size d rest et)
def SortOK (M:Nat):Prop:=∀(base:Nat) (v:Value) (l:List Nat) (w:World),KU.row w base v l→l.length<M→
 Calls Tryz.prog 67 #[v] w fun e w'=>e=.returned (.tuple #[])∧KU.row w' base v (sortN l)∧Upd (blk v) w w'
theorem sortG {M:Nat} (hM:M≤1000000) (hpd:PdqTo M) (base:Nat) (v:Value) (l:List Nat) (w:World) (h:KU.row w base v l) (hl:l.length<M) :
 Calls Tryz.prog 67 #[v] w fun e w'=>e=.returned (.tuple #[])∧KU.row w' base v (sortN l)∧Upd (blk v) w w':=by
 obtain ⟨n,hn⟩:∃n,l.length=n:=⟨_,rfl⟩
 have hall:=ku_all l
 rcases h.2 with ⟨rfl,h0⟩ | ⟨g,cap,cur,rfl,hg,hh,hc1,hc2,hc3,hc4⟩
 ·have hl0:l = []:=List.eq_nil_of_length_eq_zero h0
  subst hl0
  have HP:=Lib.hid (fun lim w=>pdqNone none 0 lim w)
  have HH:=Lib.hid h
  have hz:(Value.int .i64 (Lib.bitLen ((0:Int)).toNat:Int))=.int .i64 0:=by rfl
  clear h
  go_enter Tryz.func67,Tryz.ntmps67
  go_wp2_with fail
  refine (Tryz.bits_Len _ _ (by omega) (by omega)).mono ?_
  rintro e w' ⟨rfl,rfl⟩
  go_wp2_with fail
  (with_reducible refine (HP.out _ _).mono ?_)
  rintro e w1 ⟨rfl,hu1⟩
  have HU1:=Lib.hid hu1
  clear hu1
  go_wp2_with fail
  go_end0
  refine ⟨rfl,?_,HU1.out.mono (by simp)⟩
  rw [show sortN [] = [] from by simp [sortN]]
  exact own_upd HH.out HU1.out (by simp)
 ·obtain ⟨d,hd⟩:∃d:Array Int,d=(l.map fun x:Nat=>(x:Int)).toArray:=⟨_,rfl⟩
  have hds:d.size=n:=by rw [hd];simp [hn]
  have hrb:RB w g d (cur.toList.drop n) 26:=by
   unfold RB
   rw [hh]
   have e:d.toList.map encU++cur.toList.drop n=cur.toList:=by
    have:d.toList.map encU=cur.toList.take n:=by
     rw [hd,←hn]
     have h4:=hc4
     rw [show (l.length*KU.sz)=l.length from Nat.mul_one _,hall] at h4
     rw [h4]
     simp
    rw [this,List.take_append_drop]
   rw [e];rfl
  have hpq:=hpd g cap (Lib.bitLen n) d (cur.toList.drop n) 26 w hrb (by omega) (bitLen_small n (by omega))
  rw [hds] at hpq
  have HP:=Lib.hid hpq
  have HC:=Lib.hid (And.intro hd (And.intro hds (And.intro hg (And.intro hc1 (And.intro hc2 (And.intro hc3 hn))))))
  have HZ:=Lib.hid (sorted_unique_holds (lt:=ltInt) (α:=Int))
  have n0:(n:Int)<1000000:=by omega
  rw [hn]
  have hnb:((n:Int)).toNat=n:=rfl
  clear h hrb hpq hd hds hh hc4 hg hc1 hc2 hc3 hall
  go_enter Tryz.func67,Tryz.ntmps67
  go_wp2_with fail
  refine (Tryz.bits_Len _ _ (by omega) (by omega)).mono ?_
  rintro e w' ⟨rfl,rfl⟩
  rw [hnb]
  obtain ⟨L,hL⟩:∃L,Lib.bitLen n=L:=⟨_,rfl⟩
  rw [hL] at HP ⊢
  rw [show ((0:Nat):Int)=0 from rfl] at HP
  clear hL hnb
  go_wp2_with fail
  (with_reducible refine HP.out.mono ?_)
  rintro e w1 ⟨d',hp,hs,rfl,hr,hu⟩
  have HR:=Lib.hid (And.intro hp (And.intro hs (And.intro hr hu)))
  clear hp hs hr hu
  go_wp2_with fail
  go_end0
  obtain ⟨hp,hs,hr,hu⟩:=HR.out
  obtain ⟨hd,hds,hg,hc1,hc2,hc3,hn'⟩:=HC.out
  refine ⟨rfl,?_,by simpa [blk] using hu⟩
  have hm:=HZ.out swo_ltInt (fun x y h1 h2=>by simp only [ltInt,decide_eq_false_iff_not] at h1 h2;omega) d d' (by rw [hds];exact hp) (by rw [hds];exact hs)
  have hperm:d'.toList.Perm (l.map fun x:Nat=>(x:Int)):=by
   rw [hm]
   refine (List.mergeSort_perm _ _).trans ?_
   rw [hd]
  have hsort:d'.toList.Pairwise (·≤·):=by
   rw [hm]
   have:=List.pairwise_mergeSort (le:=fun (x y:Int)=>!ltInt y x) (by intro a b c h1 h2;simp [ltInt] at *;omega) (by intro a b;simp [ltInt];omega) d.toList
   exact this.imp (by intro a b h;simpa [ltInt] using h)
  have hback:(d'.toList.map Int.toNat).map (fun x:Nat=>(x:Int))=d'.toList:=by
   rw [List.map_map]
   conv=>rhs;rw [←List.map_id d'.toList]
   refine List.map_congr_left fun x hx=>?_
   obtain ⟨y,_,rfl⟩:=List.mem_map.1 (hperm.mem_iff.1 hx)
   simp
  have hso:d'.toList.map Int.toNat=sortN l:=by
   refine sortN_eq ?_ ?_
   ·have:=hperm.map Int.toNat
    rw [List.map_map] at this
    have e:(l.map (Int.toNat ∘ fun x:Nat=>(x:Int)))=l:=by
     conv=>rhs;rw [←List.map_id l]
     exact List.map_congr_left fun x _=>by simp
    rwa [e] at this
   ·rw [List.pairwise_map]
    exact hsort.imp fun h=>by omega
  have hd'n:d'.size=n:=by rw [hp.1];exact hds
  have hdl:d'.toList.map encU=KU.all (sortN l):=by
   rw [ku_all,←hso]
   conv=>lhs;rw [←hback]
   rw [List.map_map];rfl
  have hln:(sortN l).length=n:=by rw [sortN_len];exact hn'
  refine ⟨by rw [Kind.all_len,hln],.inr ⟨g,cap,_,by rw [hln],hg,hr,by rw [hln,←hn'];exact hc1,hc2,?_,?_⟩⟩
  ·simp only [List.size_toArray,List.length_append,List.length_map,List.length_drop,Array.length_toList]
   rw [hd'n,hc3,show KU.sz=1 from rfl]
   omega
  ·rw [hln,show n*KU.sz=n from Nat.mul_one _,←hdl]
   rw [List.take_append_of_le_length (by simp [hd'n]),List.take_of_length_le (by simp [hd'n])]
theorem pdqTo:PdqTo 1000000:=fun p C lim d rest et w h hs hl=>pdqAll (d.size+1) p C 0 d.size lim d rest et w h (Nat.zero_le _) (Nat.le_refl _) hs hl (.inl rfl) (by omega)
theorem sortU:SortOK 1000000:=sortG (Nat.le_refl _) pdqTo
end Go.Proofs.YtkbaaonchdeneaaGreat
