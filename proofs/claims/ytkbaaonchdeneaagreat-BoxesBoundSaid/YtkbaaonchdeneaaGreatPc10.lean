/- slices.Sort of names: patterns broken. The library's own text is walked. slices.Sort of names: -/
import Derived.Lib.ItoaNum
import Derived.Test.YtkbaaonchdeneaaGreatPc9
import Derived.Test.YtkbaaonchdeneaaGreatPc8
import Derived.Test.YtkbaaonchdeneaaGreatPc5
set_option maxHeartbeats 16000000
set_option maxRecDepth 100000
namespace Go.Proofs.YtkbaaonchdeneaaGreat
section
open Go.RowKit Go.Sort
def XB (w:World) (s:Nat):Prop:=∃(z:Int) (t:TypeId),0<=z/\z<=18446744073709551615/\w.heap[s]? = some (.cells #[.int .u64 z] t (0,0))
theorem XB.upd {F:List Nat} {w w':World} {s:Nat} (h:XB w s) (hu:Bj F w w') (hs:s∉F):XB w' s:=by
 obtain ⟨z,t,h1,h2,h⟩:=h;exact ⟨z,t,h1,h2,(hu.block s (lt_of_block h) hs).trans h⟩
theorem a3D (s:Nat) (w:World) (h:XB w s):Calls Tryz.prog 243 #[.pointer (some s)] w λe w'=>
 ∃r:Int,e=.returned (.int .u64 r)/\0<=r/\r<=18446744073709551615/\XB w' s/\Bj [s] w w':=by
 obtain ⟨z,t,h1,h2,hz⟩:=h;have c1:w.cell? s=some (.int .u64 z):=by simp [World.cell?,hz]
 have f1:w.frozen? s=false:=by simp [World.frozen?,hz]
 have HZ:=AX hz;clear hz;go_enter Tryz.func243,Tryz.ntmps243
 go_wp2_with fail
 go_region
 obtain ⟨z1,hz1⟩:=AU (bits BinOp.xor IntKind.u64 z (IntKind.u64.wrap (z*8192)));rw [hz1];have HW1:=AX (show (w.setCell s (.int .u64 z1)).drew.heap[s]? = some (.cells #[.int .u64 z1] t (0,0)) from heap_set HZ.out 0 _);have DJ:=AX (show Bj [s] w (w.setCell s (.int .u64 z1)).drew from ((Bj.refl _ _).setCell (.inl (by simp)) _).drew);generalize (w.setCell s (.int .u64 z1)).drew=W1 at HW1 DJ |-;clear c1 f1 hz1;have c1:W1.cell? s=some (.int .u64 z1):=by simp [World.cell?,HW1.out]
 have f1:W1.frozen? s=false:=by simp [World.frozen?,HW1.out]
 go_wp2_with fail
 go_region
 obtain ⟨z2,hz2⟩:=AU (bits BinOp.xor IntKind.u64 z1 (z1 / 128));rw [hz2];have HW2:=AX (show (W1.setCell s (.int .u64 z2)).drew.heap[s]? = some (.cells #[.int .u64 z2] t (0,0)) from heap_set HW1.out 0 _);have Ej:=AX (show Bj [s] w (W1.setCell s (.int .u64 z2)).drew from (DJ.out.setCell (.inl (by simp)) _).drew);generalize (W1.setCell s (.int .u64 z2)).drew=W2 at HW2 Ej |-;clear c1 f1 hz2;have c1:W2.cell? s=some (.int .u64 z2):=by simp [World.cell?,HW2.out]
 have f1:W2.frozen? s=false:=by simp [World.frozen?,HW2.out]
 go_wp2_with fail
 go_region
 obtain ⟨z3,hz3⟩:=AU (bits BinOp.xor IntKind.u64 z2 (IntKind.u64.wrap (z2*131072)));have hb1:=bits_lo_u64 BinOp.xor z2 (IntKind.u64.wrap (z2*131072));have hb2:=bits_hi_u64 BinOp.xor z2 (IntKind.u64.wrap (z2*131072));rw [hz3] at hb1 hb2;rw [hz3];have HB:=Ap hb1 hb2;have HW3:=AX (show (W2.setCell s (.int .u64 z3)).drew.heap[s]? = some (.cells #[.int .u64 z3] t (0,0)) from heap_set HW2.out 0 _);have EJ:=AX (show Bj [s] w (W2.setCell s (.int .u64 z3)).drew from (Ej.out.setCell (.inl (by simp)) _).drew);generalize (W2.setCell s (.int .u64 z3)).drew=W3 at HW3 EJ |-;clear c1 f1 hz3 hb1 hb2;have c1:W3.cell? s=some (.int .u64 z3):=by simp [World.cell?,HW3.out]
 go_wp2_with fail
 go_ret
 exact ⟨z3,rfl,HB.1,HB.2,⟨z3,t,HB.1,HB.2,HW3.out⟩,EJ.out⟩
theorem a6J (n:Nat) (w:World) (h0:0<n) (h:n<1000000):Calls Tryz.prog 242 #[(n:Int)] w λe w'=>∃m:Nat,e=.returned (.int .u64 (m:Int))/\0<m/\m<=2*n/\w'=w:=by
 go_enter Tryz.func242,Tryz.ntmps242
 go_wp2_with fail
 refine (Tryz.bits_Len _ _ (by omega) (by omega)).mono ?_
 rintro e w' ⟨rfl,rfl⟩;obtain ⟨L,hL⟩:=AU (Lib.bitLen n);have hb:=Lib.bitLenAux_bounds 64 n (Bg h (by decide)) (by omega);rw [show Lib.bitLenAux 64 n=L from hL] at hb;rw [show ((n:Int)).toNat=n from rfl,hL]
 have hL2:L<=20:=by
  rcases Nat.lt_or_ge 20 L with h1 | h1
  ·have h2:2 ^ 20<=2 ^ (L - 1):=Nat.pow_le_pow_right (by decide) (by omega);have h3:(2:Nat) ^ 20=1048576:=by decide
   omega
  ·exact h1
 obtain ⟨M,hM⟩:=AU (2 ^ L)
 have hM2:M<=2*n:=by
  have h2:2 ^ L=2*2 ^ (L - 1):=by
   obtain ⟨k,rfl⟩:∃k,L=k+1:=⟨L - 1,by omega⟩;rw [Nat.add_sub_cancel,Nat.pow_succ,Nat.mul_comm]
  omega
 have hM0:0<M:=by rw [<-hM];exact Nat.pow_pos (by decide)
 have hw:IntKind.u64.wrap (2 ^ L)=(M:Int):=by
  rw [IntKind.wrap_u64,show ((2:Int) ^ L)=((2 ^ L:Nat):Int) by simp,hM];omega
 have HM:=Aq hw hM0 hM2;have l0:(0:Int)<=(L:Int):=AY _;have l1:(L:Int)<64:=by omega
 clear hL hb hM hM0 hM2 hL2 h0 h hw;go_wp2_with fail
 go_ret
 exact ⟨M,by rw [<-HM.1];rfl,HM.2.1,HM.2.2,rfl⟩
theorem a1B (p C a b:Nat) (d:Array Int) (rest:List Value) (et:TypeId) (w:World) (h:RB w p d rest et) (hab:a+12<b) (hb:b<=d.size) (hsz:d.size<1000000) :
 Calls Tryz.prog 185 #[.slice (some ⟨p,0,none⟩) d.size C,(a:Int),(b:Int)] w λe w'=>∃d',PermIn a b d d'/\FZ w p rest et d' e w':=by
 unfold FZ;have hp:=h.lt;obtain ⟨s,hs⟩:=AU w.heap.size;rw [hs] at hp;obtain ⟨n,hn⟩:=AU d.size;obtain ⟨N,hN⟩:∃N,N=b - a:=⟨_,rfl⟩;obtain ⟨q,hq⟩:∃q,q=N / 4:=⟨_,rfl⟩;obtain ⟨c,hc⟩:∃c,c=a+q*2:=⟨_,rfl⟩;obtain ⟨c0,hc0⟩:∃c0,c0=c - 1:=⟨_,rfl⟩;obtain ⟨c1,hc1⟩:∃c1,c1=c+1:=⟨_,rfl⟩;rw [hn] at hb hsz |-;have n0:(N:Int)<1000000:=by omega
 have n1:(8:Int)<=(N:Int):=by omega
 have a0:(a:Int)<1000000:=by omega
 have b0:(b:Int)<1000000:=by omega
 have q0:(q:Int)<1000000:=by omega
 have e1:(b:Int) - (a:Int)=(N:Int):=by omega
 have e2:(N:Int) / 4=(q:Int):=by omega
 have e3:(a:Int)+(q:Int)*2=(c:Int):=by omega
 have e4:(c:Int) - 1=(c0:Int):=by omega
 have e5:(c:Int)+1=(c1:Int):=by omega
 have hP:=λw=>a6J N w (by omega) (by omega)
 have HB:=AL hab hb hN hq hc hc0 hc1 hsz;have HS:=Ap hs hp;have HP:=AX hP;have Cj:=AX h;have HN:=AX hn;clear h hn hab hb hsz hN hq hc hc0 hc1 hs hp hP;go_enter Tryz.func185,Tryz.ntmps185
 go_wp2_with fail
 have HX0:=AX (show XB (w.alloc (.cells #[.int .u64 (N:Int)] 324)) w.heap.size from ⟨N,_,AY _,by omega,heap_alloc_new w _⟩);have Gu:=AX (show Bj [] w (w.alloc (.cells #[.int .u64 (N:Int)] 324)) from (Bj.refl _ _).alloc _);generalize w.alloc (.cells #[.int .u64 (N:Int)] 324)=W0 at HX0 Gu |-;rw [HS.1] at HX0 |-;go_fit (HP.out _)
 rintro e w1 ⟨M,rfl,hm0,hm1,rfl⟩;have HM:=Ap hm0 hm1;have m0:(0:Int)<(M:Int):=by omega
 have m1:(M:Int)<2000000:=by omega
 clear hm0 hm1;go_wp2_with fail
 go_loopg [9,10] 4 (λm s9 s10 wr=>∃(k:Nat) (dk:Array Int),m+k=c0+4/\s9=.int .i64 (k:Int)/\c0<=k/\k<=c0+3/\dk.size=n/\RB wr p dk rest et/\XB wr s/\Bj [p] w wr/\PermIn a b d dk)
 case atStart=>exact ⟨c0,d,by omega,rfl,Nat.le_refl _,by omega,HN.out,Cj.out.upd Gu.out (by simp),HX0.out,Gu.out.mono (by simp),permIn_refl _ _ _⟩
 case round=>
  obtain ⟨k,dk,hm,rfl,h1,h2,hdn,hrb,hx,hu,hperm⟩:=hrel;have k0:(k:Int)<1000000:=Ac HB;have pW:=AX hrb;have HUK:=AX hu;have HPK:=AX hperm;by_cases hle:k<=c1
  ·have hz:(k:Int)<=(c1:Int):=by omega
   have hnx:=a3D s wr hx;have QJ:=AX hnx;have HK:=Au hm h1 hle hdn;clear hm h1 h2 hdn hrb hx hu hperm hle hnx;go_wp2_with fail
   go_fit QJ.out
   rintro e w2 ⟨r,rfl,hr0,hr1,hx2,hu2⟩;have jD:=AX hx2;have hu3:=(show Bj [p] w w2 from HUK.out.trans' hu2 (by intro x hx;right;rw [List.mem_singleton.1 hx,HS.1];exact Nat.le_refl _));have HR2:=AX (pW.out.upd hu2 (by have:=HS.2;simp;omega));have Ej:=AX hu3;obtain ⟨R,rfl⟩:∃R:Nat,r=(R:Int):=⟨r.toNat,by omega⟩;obtain ⟨M1,hM1⟩:∃m,m=M - 1:=⟨_,rfl⟩;have em:(M:Int) - 1=(M1:Int):=Ac HM;obtain ⟨o,ho⟩:=AU (R &&& M1);have hol:o<=M1:=by rw [<-ho];exact Nat.and_le_right
   have ea:bits BinOp.and IntKind.u64 (R:Int) (M1:Int)=(o:Int):=by
    rw [bits_and_u64_nat R M1 (by omega) (by omega),ho]
   have HO:=Ap hol hM1;have o0:(o:Int)<2000000:=by omega
   clear hx2 hu2 hu3 hr0 hr1 ho hol hM1;by_cases hoN:N<=o
   ·have hz2:(N:Int)<=(o:Int):=by omega
    obtain ⟨O1,hO1⟩:∃m,m=o - N:=⟨_,rfl⟩;have eo:(o:Int) - (N:Int)=(O1:Int):=by omega
    have HOO:=AX (show O1<N by have:=HO.out;have:=HM.out;omega);clear hoN hO1;go_upto_if 43 with fail
    go_wp2_with fail
    have xb:a+O1<b:=Af HB HO HM HOO;obtain ⟨x,hx⟩:∃x,x=a+O1:=⟨_,rfl⟩;have ex:(a:Int)+(O1:Int)=(x:Int):=by omega
    have g1:(k:Int)<(n:Int):=Ad HB HK;have g2:(x:Int)<(n:Int):=Ac HB;have l1:=HR2.out.cell (t:=k) (Ad HB HK);have l2:=HR2.out.cell (t:=x) (Ad HB HK);have f1:=HR2.out.frozen k;have f2:=HR2.out.frozen x;obtain ⟨vp,hvp⟩:∃u,dk[k]! = u:=⟨_,rfl⟩;obtain ⟨vq,hvq⟩:∃u,dk[x]! = u:=⟨_,rfl⟩;have l3:=(HR2.out.set (t:=k) (Ad HB HK) vq).cell (t:=x) (by rw [Array.size_setIfInBounds];have:=HB.out;have:=HK.out;omega);obtain ⟨v3,hv3⟩:∃u,(dk.setIfInBounds k vq)[x]! = u:=⟨_,rfl⟩;have jE:=Aq (HR2.out.swp (i:=k) (j:=x) (Ad HB HK) (Ad HB HK)) (Ej.out.swp (p:=p) (.inl (by simp)) k x (.int .u32 dk[x]!) (.int .u32 dk[k]!)) (jD.out.upd ((Bj.refl [p] w2).swp (p:=p) (.inl (by simp)) k x (.int .u32 dk[x]!) (.int .u32 dk[k]!)) (by have:=HS.2;simp;omega));rw [hvp,hvq] at jE;rw [hvp] at l1;rw [hvq] at l2;rw [hv3] at l3;have HXX:=Ap hx xb;clear hvp hvq hv3 hx xb;go_region
    generalize (w2.setCell ⟨p,k,none⟩ (.int .u32 vq)).setCell ⟨p,x,none⟩ (.int .u32 vp)=W2 at jE |-;go_wp2_with fail
    go_roundg (c0+4 - (k+1))
    case measure=>have:=HK.out;have:=HB.out;omega
    case rel=>
     have hk:=HK.out;have hb:=HB.out;have hxx:=HXX.out;refine ⟨k+1,swp dk k x,by omega,by go_num,by omega,by omega,by rw [size_swp];exact hk.2.2.2,jE.1.drew,jE.2.2.upd ((Bj.refl [] _).drew) (by simp),jE.2.1.drew,?_⟩
     exact permIn_trans _ _ _ a b HPK.out (swp_permIn dk a b k x (by omega) (by omega) (by omega) (by omega) (by omega))
   ·obtain ⟨O1,hO1⟩:∃m,m=o:=⟨_,rfl⟩;subst hO1;have hz2:decide (N<=O1)=false:=decide_eq_false (by omega);have hz3:decide ((N:Int)<=(O1:Int))=false:=decide_eq_false (by omega);have HOO:=AX (show O1<N by omega);clear hoN;go_upto_if 43 with fail
    go_wp2_with fail
    have xb:a+O1<b:=Af HB HO HM HOO;obtain ⟨x,hx⟩:∃x,x=a+O1:=⟨_,rfl⟩;have ex:(a:Int)+(O1:Int)=(x:Int):=by omega
    have g1:(k:Int)<(n:Int):=Ad HB HK;have g2:(x:Int)<(n:Int):=Ac HB;have l1:=HR2.out.cell (t:=k) (Ad HB HK);have l2:=HR2.out.cell (t:=x) (Ad HB HK);have f1:=HR2.out.frozen k;have f2:=HR2.out.frozen x;obtain ⟨vp,hvp⟩:∃u,dk[k]! = u:=⟨_,rfl⟩;obtain ⟨vq,hvq⟩:∃u,dk[x]! = u:=⟨_,rfl⟩;have l3:=(HR2.out.set (t:=k) (Ad HB HK) vq).cell (t:=x) (by rw [Array.size_setIfInBounds];have:=HB.out;have:=HK.out;omega);obtain ⟨v3,hv3⟩:∃u,(dk.setIfInBounds k vq)[x]! = u:=⟨_,rfl⟩;have jE:=Aq (HR2.out.swp (i:=k) (j:=x) (Ad HB HK) (Ad HB HK)) (Ej.out.swp (p:=p) (.inl (by simp)) k x (.int .u32 dk[x]!) (.int .u32 dk[k]!)) (jD.out.upd ((Bj.refl [p] w2).swp (p:=p) (.inl (by simp)) k x (.int .u32 dk[x]!) (.int .u32 dk[k]!)) (by have:=HS.2;simp;omega));rw [hvp,hvq] at jE;rw [hvp] at l1;rw [hvq] at l2;rw [hv3] at l3;have HXX:=Ap hx xb;clear hvp hvq hv3 hx xb;go_region
    generalize (w2.setCell ⟨p,k,none⟩ (.int .u32 vq)).setCell ⟨p,x,none⟩ (.int .u32 vp)=W2 at jE |-;go_wp2_with fail
    go_roundg (c0+4 - (k+1))
    case measure=>have:=HK.out;have:=HB.out;omega
    case rel=>
     have hk:=HK.out;have hb:=HB.out;have hxx:=HXX.out;refine ⟨k+1,swp dk k x,by omega,by go_num,by omega,by omega,by rw [size_swp];exact hk.2.2.2,jE.1.drew,jE.2.2.upd ((Bj.refl [] _).drew) (by simp),jE.2.1.drew,?_⟩
     exact permIn_trans _ _ _ a b HPK.out (swp_permIn dk a b k x (by omega) (by omega) (by omega) (by omega) (by omega))
  ·have hz:¬(k:Int)<=(c1:Int):=by omega
   clear hm h1 h2 hdn hrb hx hu hperm hle;go_wp2_with fail
   go_end0
   exact ⟨dk,HPK.out,rfl,pW.out,HUK.out⟩
end
section
open Go.RowKit Go.Sort
def RJ (w:World) (p a b:Nat) (d:Array Int) (rest:List Value) (et:TypeId) (e:Ending) (w':World):Prop:=∃d',PermIn a b d d'/\SortedIn ltInt a b d'/\FZ w p rest et d' e w'
def pX (K:Nat):Prop:=∀(p C a b lim:Nat) (d:Array Int) (rest:List Value) (et:TypeId) (w:World),RB w p d rest et->a<=b->b<=d.size->d.size<1000000->lim<1000->Sort.Below ltInt a b d->b - a<K->
 Calls Tryz.prog 121 #[.slice (some ⟨p,0,none⟩) d.size C,(a:Int),(b:Int),(lim:Int)] w (RJ w p a b d rest et)
theorem yA (K:Nat) (ih:pX K) (p C a b lim:Nat) (d:Array Int) (rest:List Value) (et:TypeId) (w:World) (h:RB w p d rest et) (hab:a<=b) (hb:b<=d.size) (hsz:d.size<1000000) (hl:lim<1000) (hB:Sort.Below ltInt a b d) (hK:b - a<=K) :
 Calls Tryz.prog 121 #[.slice (some ⟨p,0,none⟩) d.size C,(a:Int),(b:Int),(lim:Int)] w (RJ w p a b d rest et):=by
 unfold RJ FZ;obtain ⟨n,hn⟩:=AU d.size;rw [hn] at hb hsz |-;have n0:(n:Int)<1000000:=by omega
 have HH:=AX h;have HN:=AX hn;have HB:=Aw hab hb hsz hl hK;have nN:=AX hB;have HIH:=AX ih;clear h hn hab hb hsz hl hB hK ih;go_enter Tryz.func121,Tryz.ntmps121
 go_wp2_with fail
 go_loopg [1,2,3,8,9] (b - a) (λm s1 s2 s3 s8 s9 wr=>∃(a' b' l:Nat) (wb wp:Bool) (dk:Array Int),m=b' - a'/\s1=.int .i64 (a':Int)/\s2=.int .i64 (b':Int)/\s3=.int .i64 (l:Int)/\s8=.bool wb/\s9=.bool wp/\
  a'<=b'/\b'<=n/\b' - a'<=K/\l<1000/\Sort.Below ltInt a' b' dk/\dk.size=n/\RB wr p dk rest et/\Bj [p] w wr/\Rest a b d a' b' dk)
 case atStart=>exact ⟨a,b,lim,true,true,d,rfl,rfl,rfl,rfl,rfl,rfl,HB.1,HB.2.1,HB.2.2.2.2,HB.2.2.2.1,nN.out,HN.out,HH.out,Bj.refl _ _,Rest.refl _ _ _⟩
 case round=>
  obtain ⟨a',b',l,wb,wp,dk,hm,rfl,rfl,rfl,rfl,rfl,hab,hbn,hK,hl,hB,hdn,hrb,hu,hre⟩:=hrel;clear HH HN nN;obtain ⟨N,hN⟩:∃N,N=b' - a':=⟨_,rfl⟩;have e1:(b':Int) - (a':Int)=(N:Int):=by omega
  have a0:(a':Int)<1000000:=by omega
  have b0:(b':Int)<1000000:=by omega
  by_cases h12:N<=12
  ·have hz:(N:Int)<=12:=by omega
   have hc:=yt p C a' b' dk rest et wr hrb hab (by omega) (by omega);rw [hdn] at hc;obtain ⟨g1,g2⟩:=insertionSort_holds swo_ltInt dk a' b' hab (by omega);have HC:=AX hc;have HE:=AX (hre _ g1 g2);have HU:=AX hu;clear hm hab hbn hK hl hB hdn hrb hu hre hN h12 hc g1 g2;go_wp2_with fail
   go_fit HC.out
   rintro e w1 ⟨rfl,hr1,hu1⟩;have H1:=Ap hr1 (HU.out.trans hu1);clear hr1 hu1;go_wp2_with fail
   (try simp only [Exit.inBlock,Exit.then])
   refine bodyPost_ret (results_none rfl _ _ _) rfl ?_
   exact ⟨_,HE.1,HE.2,rfl,H1.1,H1.2⟩
  ·have hz:¬(N:Int)<=12:=by omega
   by_cases hl0:l=0
   ·have hz2:((l:Int)==0)=true:=by rw [beq_iff_eq];omega
    have hc:=a3B p C a' b' dk rest et wr hrb hab (by omega) (by omega);rw [hdn] at hc;obtain ⟨g1,g2⟩:=heapSort_holds swo_ltInt dk a' b' hab (by omega);have HC:=AX hc;have HE:=AX (hre _ g1 g2);have HU:=AX hu;clear hm hab hbn hK hl hB hdn hrb hu hre hN h12 hl0 hc g1 g2;go_wp2_with fail
    go_fit HC.out
    rintro e w1 ⟨rfl,hr1,hu1⟩;have H1:=Ap hr1 (HU.out.trans hu1);clear hr1 hu1;go_wp2_with fail
    (try simp only [Exit.inBlock,Exit.then])
    refine bodyPost_ret (results_none rfl _ _ _) rfl ?_
    exact ⟨_,HE.1,HE.2,rfl,H1.1,H1.2⟩
   ·have hz2:((l:Int)==0)=false:=by rw [beq_eq_false_iff_ne];omega
    have hz3:¬(l:Int)=0:=by omega
    have l0:(l:Int)<1000:=by omega
    have l1:(0:Int)<(l:Int):=by omega
    have hbr:=a1B p C a' b' dk rest et wr hrb (by omega) (by omega) (by omega);rw [hdn] at hbr;have HR:=AL hm hab hbn hK hl hdn hN h12;have HL:=AX (show 0<l by omega);have nN:=AX hB;have Cj:=AX hrb;have HU:=AX hu;have VE:=AX hre;have HBR:=AX hbr;clear hm hab hbn hK hl hB hdn hrb hu hre hN h12 hl0 hbr;go_upto_if 35 with fail
    clear hz2 hz3;go_cut [3] (λs3 wc=>∃(l1:Nat) (d1:Array Int),s3=.int .i64 (l1:Int)/\l1<1000/\PermIn a' b' dk d1/\RB wc p d1 rest et/\Bj [p] w wc)
    case first=>
     cases wb
     ·simp only [Bool.not_false];go_wp2_with fail
      go_fit HBR.out
      rintro e w1 ⟨d1,hp1,rfl,hr1,hu1⟩;have H1:=Aq hp1 hr1 (HU.out.trans hu1);clear hp1 hr1 hu1;go_wp2_with fail
      go_meet
      case rel=>exact ⟨l - 1,d1,by have:=HL.out;go_num,Ac HR,H1.1,H1.2.1,H1.2.2⟩
     ·simp only [Bool.not_true];go_wp2_with fail
      go_meet
      case rel=>exact ⟨l,dk,rfl,HR.2.2.2.2.1,permIn_refl _ _ _,Cj.out,HU.out⟩
    case rest=>
     obtain ⟨l2,d1,rfl,hl2,hp1,hrb,hu⟩:=hcut;have hd1:d1.size=n:=by rw [hp1.1];exact HR.2.2.2.2.2.1
     have hB1:=Below.perm nN.out (Ac HR) hp1;have a3E:=VE.out.perm hp1;have hpv:=a1y p C a' b' d1 rest et wc hrb (Ac HR) (Ac HR) (Ac HB);have hrv:=λ(w2:World) (hu2:Bj [] wc w2)=>pJ p C a' b' d1 rest et w2 (hrb.upd hu2 (by simp)) (Ac HR) (Ac HR) (Ac HB)
     rw [hd1] at hpv;simp only [hd1] at hrv;clear Cj HU VE nN HBR l0 l1;have HL2:=AX hl2;have l3:(l2:Int)<1000:=by omega
     have HD:=Ap hd1 hB1;have Cj:=AX hrb;have HU:=AX hu;have VE:=AX a3E;have nO:=AX hpv;have HRV:=AX hrv;clear hl2 hp1 hrb hu hd1 hB1 a3E hpv hrv;go_wp2_with fail
     go_fit nO.out
     rintro e w2 ⟨x,hn,rfl,hx1,hx2,hu2⟩;have H2:=Aq hx1 hx2 hu2;clear hx1 hx2 hu2;go_upto_if 50 with fail
     go_cut [11,12] (λs11 s12 wc=>∃(x2:Nat) (h2:Int) (d2:Array Int),s11=.int .i64 (x2:Int)/\s12=.int .i64 h2/\a'<=x2/\x2<b'/\PermIn a' b' d1 d2/\RB wc p d2 rest et/\Bj [p] w wc)
     case first=>
      by_cases hh:hn=2
      ·have hq1:(hn==2)=true:=by rw [beq_iff_eq];exact hh
       obtain ⟨x3,hx3⟩:∃x3,x3=(b' - 1) - (x - a'):=⟨_,rfl⟩;have e2:((b':Int) - 1) - ((x:Int) - (a':Int))=(x3:Int):=Ad H2 HR;have x0:(x:Int)<1000000:=Ac H2;have HX3:=AX (show a'<=x3/\x3<b' by have:=H2.out;have:=HR.out;omega);clear hh hx3;simp only [hq1];go_wp2_with fail
       go_fit (HRV.out w2 H2.2.2)
       rintro e w3 ⟨d2,hp2,rfl,hr2,hu3⟩;have H3:=Aq hp2 hr2 (HU.out.trans ((H2.2.2.mono (by simp)).trans hu3));clear hp2 hr2 hu3;go_wp2_with fail
       go_meet
       case rel=>exact ⟨x3,1,d2,rfl,rfl,HX3.1,HX3.2,H3.1,H3.2.1,H3.2.2⟩
      ·have hq1:(hn==2)=false:=by rw [beq_eq_false_iff_ne];exact hh
       clear hh;simp only [hq1];go_wp2_with fail
       go_meet
       case rel=>exact ⟨x,hn,d1,rfl,rfl,H2.1,H2.2.1,permIn_refl _ _ _,Cj.out.upd H2.2.2 (by simp),HU.out.trans (H2.2.2.mono (by simp))⟩
     case rest=>
      obtain ⟨x2,h2,d2,rfl,rfl,hx1,hx2,hp2,hrb,hu⟩:=hcut;have hd2:d2.size=n:=by rw [hp2.1];exact HD.1
      have hB2:=Below.perm HD.2 (by have:=HR.out;rw [HD.1];omega) hp2;have a3F:=VE.out.perm hp2;have hpi:=pU p C a' b' d2 rest et wc hrb (Ac HR) (Ac HR) (Ac HB);rw [hd2] at hpi;obtain ⟨q1,q2⟩:=partialInsertionSort_holds swo_ltInt d2 a' b' (Ac HR) (Ac HR) hB2;clear Cj HU VE nO HRV HD;have jD:=Ap hx1 hx2;have HD:=Ap hd2 hB2;have Cj:=AX hrb;have HU:=AX hu;have VE:=AX a3F;have HPI:=AX hpi;have HQ:=Ap q1 q2;clear hx1 hx2 hp2 hrb hu hd2 hB2 a3F hpi q1 q2 H2;obtain ⟨W2,rfl⟩:∃W:World,W=wc:=⟨_,rfl⟩;go_upto_region 15 with fail
      go_cut [68] (λs68 wc=>s68=.bool (wb&&(wp&&(h2==1)))/\W2=wc)
      case first=>
       cases wb
       ·go_wp2_with fail
        go_meet
        case rel=>exact ⟨rfl,rfl⟩
       ·cases wp
        ·go_wp2_with fail
         go_meet
         case rel=>exact ⟨rfl,rfl⟩
        ·go_wp2_with fail
         go_meet
         case rel=>exact ⟨by simp,rfl⟩
      case rest=>
       obtain ⟨rfl,rfl⟩:=hcut;generalize (wb&&(wp&&(h2==1)))=T;go_upto_if 68 with fail
       go_cut [] (λwc=>∃d3,PermIn a' b' d2 d3/\RB wc p d3 rest et/\Bj [p] w wc)
       case first=>
        cases T
        ·go_wp2_with fail
         go_meet
         case rel=>exact ⟨d2,permIn_refl _ _ _,Cj.out,HU.out⟩
        ·go_wp2_with fail
         go_fit HPI.out
         rintro e w3 ⟨rfl,hr3,hu3⟩;have H3:=Ap hr3 (HU.out.trans hu3);clear hr3 hu3;obtain ⟨PS,hPS⟩:∃P,partialInsertionSort ltInt d2 a' b'=P:=⟨_,rfl⟩;obtain ⟨PA,PB⟩:=PS;rw [hPS] at HQ H3;simp only [hPS]
         cases PB
         ·go_wp2_with fail
          go_meet
          case rel=>exact ⟨PA,HQ.1,H3.1,H3.2⟩
         ·go_wp2_with fail
          (try simp only [Exit.inBlock,Exit.then])
          refine bodyPost_ret (results_none rfl _ _ _) rfl ?_
          have hz:=VE.out _ HQ.1 (HQ.2 (by simp));exact ⟨PA,hz.1,hz.2,rfl,H3.1,H3.2⟩
       case rest=>
        obtain ⟨d3,hp3,hrb,hu⟩:=hcut;have hd3:d3.size=n:=by rw [hp3.1];exact HD.1
        have hB3:=Below.perm HD.2 (by have:=HR.out;rw [HD.1];omega) hp3;have a3G:=VE.out.perm hp3;have hpe:=λ(w2:World) (hu2:Bj [] wc w2)=>yx p C a' b' x2 d3 rest et w2 (hrb.upd hu2 (by simp)) jD.1 jD.2 (Ac HR) (Ac HB)
        have hpt:=λ(w2:World) (hu2:Bj [] wc w2)=>a3C p C a' b' x2 d3 rest et w2 (hrb.upd hu2 (by simp)) jD.1 jD.2 (Ac HR) (Ac HB)
        simp only [hd3] at hpe hpt;clear Cj HU VE HPI HD HQ;have HD:=Ap hd3 hB3;have Cj:=AX hrb;have HU:=AX hu;have VE:=AX a3G;have HPE:=AX hpe;have HPT:=AX hpt;clear hp3 hrb hu hd3 hB3 a3G hpe hpt;obtain ⟨W3,rfl⟩:∃W:World,W=wc:=⟨_,rfl⟩;go_upto_region 17 with fail
        have l1:=Cj.out.cell (t:=x2) (Ag HD HR jD);have x0:(x2:Int)<(n:Int):=Ad jD HR;go_cut [87] (λs87 wc=>∃U,s87=.bool U/\(U=true->0<a'/\ltInt d3[a' - 1]! d3[x2]! = false)/\Bj [] W3 wc)
        case first=>
         by_cases ha0:0<a'
         ·have pV:(0:Int)<(a':Int):=by omega
          have hz5:decide (0<a')=true:=decide_eq_true ha0;obtain ⟨a1,ha1⟩:∃k,k=a' - 1:=⟨_,rfl⟩;have e3:(a':Int) - 1=(a1:Int):=by omega
          have x1:(a1:Int)<(n:Int):=Ac HR;have l2:=Cj.out.cell (t:=a1) (Ad HD HR);obtain ⟨va,hva⟩:∃v,d3[a1]! = v:=⟨_,rfl⟩;obtain ⟨vx,ZK⟩:∃v,d3[x2]! = v:=⟨_,rfl⟩;rw [hva] at l2;rw [ZK] at l1;obtain ⟨t,ht⟩:=AU (ltInt va vx);have ND:=AX (show ∀w,Calls Tryz.prog 189 #[.int .u32 va,.int .u32 vx] w λe w'=>e=.returned (.bool t)/\w'=w from λw=>by have:=JA va vx w;rw [ht] at this;exact this);have HT:=Ap ha0 (show ltInt d3[a' - 1]! d3[x2]! = t by rw [<-ha1,hva,ZK];exact ht);clear ha0 ha1 hva ZK ht
          cases t
          ·go_quiet (first | (go_at_call 189;refine Calls.quiet_of_same (ND.out _)))
           go_wp2_with fail
           go_meet
           case rel=>exact ⟨_,rfl,λ_=>HT.out,(Bj.refl _ _).drewN _⟩
          ·go_quiet (first | (go_at_call 189;refine Calls.quiet_of_same (ND.out _)))
           go_wp2_with fail
           go_meet
           case rel=>exact ⟨_,rfl,λh=>(by simp at h),(Bj.refl _ _).drewN _⟩
         ·have hz5:decide (0<a')=false:=decide_eq_false ha0;clear ha0 l1;go_quiet (fail)
          go_wp2_with fail
          go_meet
          case rel=>exact ⟨_,rfl,λh=>(by cases h),(Bj.refl _ _).drewN _⟩
        case rest=>
         obtain ⟨U,rfl,hU,hu3⟩:=hcut;have HUU:=AX hU;have EJ:=AX hu3;clear hU hu3 l1 x0
         cases U
         ·go_wp2_with fail
          go_fit (HPT.out _ EJ.out)
          rintro e w4 ⟨bo,rfl,hr4,EI⟩;obtain ⟨PT,yB⟩:∃P,partition ltInt d3 a' b' x2=P:=⟨_,rfl⟩;obtain ⟨mid,ap,d4⟩:=PT;rw [yB] at hr4;simp only [yB];have g:=VE.out.part jD.1 jD.2 (by have:=HR.out;rw [HD.1];omega) HD.2 yB;clear yB;obtain ⟨pY,hm1⟩:∃k,k=mid+1:=⟨_,rfl⟩;obtain ⟨lf,hlf⟩:∃k,k=mid - a':=⟨_,rfl⟩;obtain ⟨rg,hrg⟩:∃k,k=b' - mid:=⟨_,rfl⟩;have el:(mid:Int) - (a':Int)=(lf:Int):=by omega
          have er:(b':Int) - (mid:Int)=(rg:Int):=by omega
          have mb:(mid:Int)<1000000:=by omega
          clear hlf hrg;by_cases hlt:lf<rg
          ·have hz6:(lf:Int)<(rg:Int):=by omega
           have hi:=HIH.out p C a' mid l2 d4 rest et w4 hr4 g.1 (by have:=HR.out;rw [g.2.2.1,HD.1];omega) (by have:=HB.out;rw [g.2.2.1,HD.1];omega) HL2.out g.2.2.2.1 (Ac HR);rw [g.2.2.1,HD.1] at hi;have HI:=AX hi;have HG:=AX g;have U4:=AX (HU.out.trans ((Bj.mono EJ.out (by simp)).trans EI));have em1:(mid:Int)+1=(pY:Int):=by omega
           have yC:=AX hm1;clear hr4 EI g hi hm1 hlt HPE HPT;go_wp2_with fail
           go_fit HI.out
           rintro e w5 ⟨L,hL1,hL2,rfl,hr5,EZ⟩;obtain ⟨k1,k2⟩:=HG.2.2.2.2.2.1 L hL1 hL2;have H5:=Aw k1 k2 (show L.size=n by rw [hL1.1,HG.2.2.1];exact HD.1) hr5 (U4.out.trans EZ);clear hL1 hL2 hr5 EZ k1 k2;go_wp2_with fail
           go_roundg (b' - pY)
           case measure=>have:=HR.out;have:=HG.out;have:=yC.out;omega
           case rel=>exact ⟨pY,b',l2,_,_,L,rfl,rfl,rfl,rfl,rfl,rfl,Ag HR HG yC,HR.2.2.1,Ag HR yC HG,HL2.out,by rw [yC.out];exact H5.1,H5.2.2.1,H5.2.2.2.1,H5.2.2.2.2,by rw [yC.out];exact H5.2.1⟩
          ·have hz6:¬(lf:Int)<(rg:Int):=by omega
           have hi:=HIH.out p C pY b' l2 d4 rest et w4 hr4 (Ac HR) (by have:=HR.out;rw [g.2.2.1,HD.1];omega) (by have:=HB.out;rw [g.2.2.1,HD.1];omega) HL2.out (by rw [hm1];exact g.2.2.2.2.1) (Ac HR);rw [g.2.2.1,HD.1] at hi;have HI:=AX hi;have HG:=AX g;have U4:=AX (HU.out.trans ((Bj.mono EJ.out (by simp)).trans EI));have em1:(mid:Int)+1=(pY:Int):=by omega
           have yC:=AX hm1;clear hr4 EI g hi hm1 hlt HPE HPT;go_wp2_with fail
           go_fit HI.out
           rintro e w5 ⟨L,hL1,hL2,rfl,hr5,EZ⟩;rw [yC.out] at hL1 hL2;obtain ⟨k1,k2⟩:=HG.2.2.2.2.2.2 L hL1 hL2;have H5:=Aw k1 k2 (show L.size=n by rw [hL1.1,HG.2.2.1];exact HD.1) hr5 (U4.out.trans EZ);clear hL1 hL2 hr5 EZ k1 k2;go_wp2_with fail
           go_roundg (mid - a')
           case measure=>have:=HR.out;have:=HG.out;omega
           case rel=>exact ⟨a',mid,l2,_,_,L,rfl,rfl,rfl,rfl,rfl,rfl,HG.1,Ad HR HG,Ad HR HG,HL2.out,H5.1,H5.2.2.1,H5.2.2.2.1,H5.2.2.2.2,H5.2.1⟩
         ·go_wp2_with fail
          go_fit (HPE.out _ EJ.out)
          rintro e w4 ⟨rfl,hr4,EI⟩;obtain ⟨PT,yB⟩:∃P,partitionEqual ltInt d3 a' b' x2=P:=⟨_,rfl⟩;obtain ⟨mid,d4⟩:=PT;rw [yB] at hr4;simp only [yB];have g:=VE.out.equal (HUU.out (by simp)).1 jD.1 jD.2 (by have:=HR.out;rw [HD.1];omega) HD.2 (HUU.out (by simp)).2 yB;have HG:=AX g;have H4:=Ap hr4 (HU.out.trans ((Bj.mono EJ.out (by simp)).trans EI));clear yB g hr4 EI;go_wp2_with fail
          go_roundg (b' - mid)
          case measure=>have:=HR.out;have:=HG.out;omega
          case rel=>exact ⟨mid,b',l2,wb,wp,d4,rfl,rfl,rfl,rfl,rfl,rfl,HG.2.1,HR.2.2.1,Ad HR HG,HL2.out,HG.2.2.2.1,by rw [HG.2.2.1];exact HD.1,H4.1,H4.2,HG.2.2.2.2⟩
theorem a1C:∀K,pX K:=by
 intro K;induction K with
 |zero=>intro p C a b lim d rest et w h hab hb hsz hl hB hK;omega
 |succ K ih=>intro p C a b lim d rest et w h hab hb hsz hl hB hK;exact yA K ih p C a b lim d rest et w h hab hb hsz hl hB (by omega)
end
section
open Go.RowKit Go.Sort
def KU:Kind Nat:={ T:=0,sT:=35,eT:=26,sz:=1,enc:=λx=>[.int .u32 (x:Int)],len:=λ_=>rfl,one:=λx u hu=>by simp at hu;subst hu;rfl }
def FX (l:List Nat):List Nat:=l.mergeSort λx y=>decide (x<=y)
theorem IC (l:List Nat):(FX l).Perm l:=List.mergeSort_perm l _
theorem Yh (l:List Nat):(FX l).Pairwise (·<=·):=by
 have:=List.pairwise_mergeSort (le:=λ(x y:Nat)=>decide (x<=y)) (by intro a b c h1 h2;simp at *;omega) (by intro a b;simp;omega) l;exact this.imp (by intro a b h;simpa using h)
theorem EF (l:List Nat):(FX l).length=l.length:=(IC l).length_eq
theorem Yi {l m:List Nat} (h:m.Perm l) (hs:m.Pairwise (·<=·)):m=FX l:=
 List.Perm.eq_of_pairwise (le:=(·<=·)) (λ_ _ _ _ h1 h2=>Nat.le_antisymm h1 h2) hs (Yh l) (h.trans (IC l).symm)
theorem qg (l:List Nat):KU.all l=l.map λx=>.int .u32 (x:Int):=by
 induction l with
 |nil=>rfl
 |cons a l ih=>rw [List.map_cons,<-ih];rfl
theorem ZP (A:Option Addr) (C:Nat) (w:World) :
 Calls Tryz.prog 183 #[.slice A 0 C,.int .i64 0,.int .i64 0] w λe w'=>e=.returned (.tuple #[])/\Bj [] w w':=by
 go_enter Tryz.func183,Tryz.ntmps183
 go_wp2_with fail
 go_loopg [6] 0 (λm s6 wr=>s6=.int .i64 1/\Bj [] w wr)
 case atStart=>exact ⟨rfl,Bj.refl _ _⟩
 case round=>
  obtain ⟨rfl,hu⟩:=hrel;have HU:=AX hu;clear hu;go_wp2_with fail
  go_end0
  exact ⟨rfl,HU.out⟩
theorem yD (A:Option Addr) (C lim:Nat) (w:World) :
 Calls Tryz.prog 121 #[.slice A 0 C,.int .i64 0,.int .i64 0,(lim:Int)] w λe w'=>e=.returned (.tuple #[])/\Bj [] w w':=by
 have HI:=AX (ZP A C);go_enter Tryz.func121,Tryz.ntmps121
 go_wp2_with fail
 go_loopg [1,2] 0 (λm s1 s2 wr=>s1=.int .i64 0/\s2=.int .i64 0/\Bj [] w wr)
 case atStart=>exact ⟨rfl,rfl,Bj.refl _ _⟩
 case round=>
  obtain ⟨rfl,rfl,hu⟩:=hrel;have HU:=AX hu;clear hu;go_wp2_with fail
  go_fit (HI.out _)
  rintro e w1 ⟨rfl,hu1⟩;have DJ:=AX (HU.out.trans hu1);clear hu1;go_wp2_with fail
  (try simp only [Exit.inBlock,Exit.then])
  refine bodyPost_ret (results_none rfl _ _ _) rfl ?_
  exact ⟨rfl,DJ.out⟩
theorem WZ (n:Nat) (h:n<1000000):Lib.bitLen n<1000:=by
 rcases Nat.eq_zero_or_pos n with h0 | h0
 ·subst h0;decide
 ·have hb:=Lib.bitLenAux_bounds 64 n (Bg h (by decide)) (by omega);obtain ⟨L,hL⟩:=AU (Lib.bitLen n);rw [show Lib.bitLenAux 64 n=L from hL] at hb;rw [hL];rcases Nat.lt_or_ge 20 L with h1 | h1
  ·have h2:2 ^ 20<=2 ^ (L - 1):=Nat.pow_le_pow_right (by decide) (by omega);have h3:(2:Nat) ^ 20=1048576:=by decide
   omega
  ·omega
def a0R (M:Nat):Prop:=∀(p C lim:Nat) (d:Array Int) (rest:List Value) (et:TypeId) (w:World),RB w p d rest et->d.size<M->lim<1000->
 Calls Tryz.prog 121 #[.slice (some ⟨p,0,none⟩) d.size C,.int .i64 ((0:Nat):Int),(d.size:Int),(lim:Int)] w (RJ w p 0 d.size d rest et)
def Tv (M:Nat):Prop:=∀(base:Nat) (v:Value) (l:List Nat) (w:World),KU.row w base v l->l.length<M->
 Calls Tryz.prog 67 #[v] w λe w'=>e=.returned (.tuple #[])/\KU.row w' base v (FX l)/\Bj (blk v) w w'
theorem a3H {M:Nat} (hM:M<=1000000) (hpd:a0R M) (base:Nat) (v:Value) (l:List Nat) (w:World) (h:KU.row w base v l) (hl:l.length<M) :
 Calls Tryz.prog 67 #[v] w λe w'=>e=.returned (.tuple #[])/\KU.row w' base v (FX l)/\Bj (blk v) w w':=by
 obtain ⟨n,hn⟩:=AU l.length;have hall:=qg l;rcases h.2 with ⟨rfl,h0⟩ | ⟨g,cap,cur,rfl,hg,hh,hc1,hc2,hc3,hc4⟩
 ·have hl0:l = []:=List.eq_nil_of_length_eq_zero h0;subst hl0;have HP:=AX (λlim w=>yD none 0 lim w);have HH:=AX h;have hz:(Value.int .i64 (Lib.bitLen ((0:Int)).toNat:Int))=.int .i64 0:=by rfl
  clear h;go_enter Tryz.func67,Tryz.ntmps67
  go_wp2_with fail
  refine (Tryz.bits_Len _ _ (by omega) (by omega)).mono ?_
  rintro e w' ⟨rfl,rfl⟩;go_wp2_with fail
  go_fit (HP.out _ _)
  rintro e w1 ⟨rfl,hu1⟩;have DJ:=AX hu1;clear hu1;go_wp2_with fail
  go_end0
  refine ⟨rfl,?_,DJ.out.mono (by simp)⟩
  rw [show FX [] = [] from by simp [FX]];exact Bl HH.out DJ.out (by simp)
 ·obtain ⟨d,hd⟩:∃d:Array Int,d=(l.map λx:Nat=>(x:Int)).toArray:=⟨_,rfl⟩;have hds:d.size=n:=by rw [hd];simp [hn]
  have hrb:RB w g d (cur.toList.drop n) 26:=by
   unfold RB;rw [hh]
   have e:d.toList.map jB++cur.toList.drop n=cur.toList:=by
    have:d.toList.map jB=cur.toList.take n:=by
     rw [hd,<-hn];have h4:=hc4;rw [show (l.length*KU.sz)=l.length from Nat.mul_one _,hall] at h4;rw [h4];simp
    rw [this,List.take_append_drop]
   rw [e];rfl
  have hpq:=hpd g cap (Lib.bitLen n) d (cur.toList.drop n) 26 w hrb (by omega) (WZ n (by omega));rw [hds] at hpq;have HP:=AX hpq;have HC:=AB hd hds hg hc1 hc2 hc3 hn;have HZ:=AX (sorted_unique_holds (lt:=ltInt) (α:=Int));have n0:(n:Int)<1000000:=by omega
  rw [hn];have hnb:((n:Int)).toNat=n:=rfl;clear h hrb hpq hd hds hh hc4 hg hc1 hc2 hc3 hall;go_enter Tryz.func67,Tryz.ntmps67
  go_wp2_with fail
  refine (Tryz.bits_Len _ _ (by omega) (by omega)).mono ?_
  rintro e w' ⟨rfl,rfl⟩;rw [hnb];obtain ⟨L,hL⟩:=AU (Lib.bitLen n);rw [hL] at HP |-;rw [show ((0:Nat):Int)=0 from rfl] at HP;clear hL hnb;go_wp2_with fail
  go_fit HP.out
  rintro e w1 ⟨d',hp,hs,rfl,hr,hu⟩;have HR:=Au hp hs hr hu;clear hp hs hr hu;go_wp2_with fail
  go_end0
  obtain ⟨hp,hs,hr,hu⟩:=HR.out;obtain ⟨hd,hds,hg,hc1,hc2,hc3,hn'⟩:=HC.out;refine ⟨rfl,?_,by simpa [blk] using hu⟩
  have hm:=HZ.out swo_ltInt (λx y h1 h2=>by simp only [ltInt,decide_eq_false_iff_not] at h1 h2;omega) d d' (by rw [hds];exact hp) (by rw [hds];exact hs)
  have hperm:d'.toList.Perm (l.map λx:Nat=>(x:Int)):=by
   rw [hm];refine (List.mergeSort_perm _ _).trans ?_
   rw [hd]
  have hsort:d'.toList.Pairwise (·<=·):=by
   rw [hm];have:=List.pairwise_mergeSort (le:=λ(x y:Int)=>!ltInt y x) (by intro a b c h1 h2;simp [ltInt] at *;omega) (by intro a b;simp [ltInt];omega) d.toList;exact this.imp (by intro a b h;simpa [ltInt] using h)
  have hback:(d'.toList.map Int.toNat).map (λx:Nat=>(x:Int))=d'.toList:=by
   rw [List.map_map];conv=>rhs;rw [<-List.map_id d'.toList]
   refine List.map_congr_left λx hx=>?_
   obtain ⟨y,_,rfl⟩:=List.mem_map.1 (hperm.mem_iff.1 hx);simp
  have hso:d'.toList.map Int.toNat=FX l:=by
   refine Yi ?_ ?_
   ·have:=hperm.map Int.toNat;rw [List.map_map] at this
    have e:(l.map (Int.toNat ∘ λx:Nat=>(x:Int)))=l:=by
     conv=>rhs;rw [<-List.map_id l]
     exact List.map_congr_left λx _=>by simp
    rwa [e] at this
   ·rw [List.pairwise_map];exact hsort.imp λh=>by omega
  have a1D:d'.size=n:=by rw [hp.1];exact hds
  have hdl:d'.toList.map jB=KU.all (FX l):=by
   rw [qg,<-hso];conv=>lhs;rw [<-hback]
   rw [List.map_map];rfl
  have hln:(FX l).length=n:=by rw [EF];exact hn'
  refine ⟨by rw [Kind.Gm,hln],.inr ⟨g,cap,_,by rw [hln],hg,hr,by rw [hln,<-hn'];exact hc1,hc2,?_,?_⟩⟩
  ·simp only [List.size_toArray,Bc,List.length_map,List.length_drop,Array.length_toList];rw [a1D,hc3,show KU.sz=1 from rfl];omega
  ·rw [hln,show n*KU.sz=n from Nat.mul_one _,<-hdl];rw [List.take_append_of_le_length (by simp [a1D]),List.take_of_length_le (by simp [a1D])]
theorem a3I:a0R 1000000:=λp C lim d rest et w h hs hl=>a1C (d.size+1) p C 0 d.size lim d rest et w h (Nat.zero_le _) (Nat.le_refl _) hs hl (.inl rfl) (by omega)
theorem a0S:Tv 1000000:=a3H (Nat.le_refl _) a3I
