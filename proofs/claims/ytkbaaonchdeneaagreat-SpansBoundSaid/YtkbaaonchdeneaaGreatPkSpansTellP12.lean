/- spans.Count. Printed by genQsG.py. Chapter 24's examples, plainly. Chapter 24's awake. Spans, said of a list: what may be added, what goes; each call by one contract. Chapter 24's law: done. -/
import Derived.Test.YtkbaaonchdeneaaGreatPk52
import Derived.Test.YtkbaaonchdeneaaGreatPk37
import Derived.Test.YtkbaaonchdeneaaGreatPk24
import Derived.Test.YtkbaaonchdeneaaGreatPkSpansTellP8
set_option maxHeartbeats 8000000
set_option maxRecDepth 100000
namespace Go.Proofs.YtkbaaonchdeneaaGreat.PSp
open Go.RowKit
open Go.Proofs.YtkbaaonchdeneaaGreat.HSp (IsTr KT TV tp tq)
open Go.Proofs.YtkbaaonchdeneaaGreat.Ps
def mostC (S:PSS):Nat:=2*lg (4*S.H.cs.length+4)+2
theorem countP (tv:Value) (F:List Nat) (S:PSS) (x:Int) (w:World) (H:IsPs w tv F S) (I:PInv Sp.id S) (ht:S.t<999) :
 Calls Tryz.prog 31 #[tv,.int .i64 x] w fun e w'=>∃t:Nat,e=.returned (.tuple #[.int .i64 ((stabL (lvs S) x).length:Nat),.int .i64 (t:Int)])∧t≤mostC S*(TL S).length∧Upd [] w w':=by
 have HT:=Lib.hid (treesP tv F S w H I (by omega))
 obtain ⟨q,hv,dv,av,Fh,Fd,rfl,-⟩:=H
 have hlv:=lvs_le I
 have hcs:=Ps.HInv.len I.half
 have hal:=I.al
 have hfl:=TL_flat S
 have htl:=TL_len S
 obtain ⟨B,hB⟩:∃B,bitsN S.H.cs.length=B:=⟨_,rfl⟩
 have hB11:B≤10:=by rw [←hB];exact bitsN_le S.H.cs.length 10 (by omega)
 obtain ⟨n,hn⟩:∃n,(TL S).length=n:=⟨_,rfl⟩
 have hn10:n≤10:=by omega
 have hall:(lvs S).length<1000:=by omega
 have n0:(0:Int)≤(n:Int):=Int.natCast_nonneg _
 have n1:(n:Int)≤10:=by omega
 have hcl:∀k,(((TL S).take k).map fun l=>stabL l x).flatten.length<1000:=fun k=>by
  have:=cat_len (f:=fun l=>stabL l x) (fun l=>stabL_len l x) (TL S) k
  rw [hfl] at this
  omega
 have hmo:mostC S≤100000:=by
  have h1:lg (4*S.H.cs.length+4)≤20:=bitsN_le _ 20 (by omega)
  unfold mostC
  omega
 have HC:=Lib.hid hcl
 have HB:=Lib.hid hB
 have HN:=Lib.hid (And.intro hn hfl)
 rw [hn] at HT
 clear I ht hlv hcs hal hfl htl hB hn hcl
 go_enter Tryz.func31,Tryz.ntmps31
 go_wp2_with fail
 (with_reducible refine HT.out.mono ?_)
 rintro e w1 ⟨A,C,ts,rfl,htr,hu1⟩
 have HTR:=Lib.hid htr
 have HU1:=Lib.hid hu1
 clear htr hu1
 go_wp2_with fail
 go_loopg [6,7,15] n (fun m so st si wr=>∃(k t c:Nat),m+k=n∧si=.int .i64 (k:Int)∧st=.int .i64 (t:Int)∧so=.int .i64 (c:Int)∧(((TL S).take k).map fun l=>stabL l x).flatten.length=c∧t≤mostC S*k∧Upd [] w1 wr)
 case atStart=>exact ⟨0,0,0,by omega,rfl,rfl,rfl,by simp,by simp,Upd.refl _ _⟩
 case round=>
  obtain ⟨k,t,cc,hk,rfl,rfl,rfl,hcc,ht2,hup⟩:=hrel
  have k0:(0:Int)≤(k:Int):=Int.natCast_nonneg _
  have hLl:cc<1000:=by rw [←hcc];exact HC.out k
  have hmk:mostC S*k≤100000*k:=Nat.mul_le_mul_right _ hmo
  have htb:t≤1000000:=by omega
  by_cases hlt:k<n
  ·have hlt2:(k:Int)<(n:Int):=by omega
   obtain ⟨l,hl⟩:∃l,(TL S)[k]? = some l:=⟨_,List.getElem?_eq_getElem (by rw [HN.out.1];exact hlt)⟩
   have htr:=HTR.out.upd0 hup
   obtain ⟨b,c,N,G,g1,g2,g3,g4⟩:=htr.at_ k l hl
   have hrow:=htr.row
   rw [HN.out.1] at hrow
   obtain ⟨g,og,hA,-,-,ey⟩:=hrow.at g1
   subst hA
   have y0:wr.cell? ⟨g,og+k*2,none⟩=some (.pointer (some ⟨b,0,none⟩)):=ey 0 _ rfl
   have y1:wr.cell? ⟨g,og+k*2+1,none⟩=some (.pointer (some ⟨c,0,none⟩)):=ey 1 _ rfl
   have hstep:=congrArg List.length (cat_step (f:=fun l=>stabL l x) hl)
   rw [List.length_append,hcc] at hstep
   have hlen2:=HC.out (k+1)
   rw [hstep] at hlen2
   have HK:=Lib.hid (And.intro hk (And.intro hcc (And.intro ht2 (And.intro hup (And.intro hstep (And.intro g2 g3))))))
   have HL2:=Lib.hid hlen2
   clear hk ht2 hup hstep g1 g2 g3 g4 htr hrow ey hl hlen2 hcc
   go_upto_region 5 with fail
   obtain ⟨Wx,hWx,hux,hqx⟩:=one_newC wr #[.pointer (some ⟨b,0,none⟩),.pointer (some ⟨c,0,none⟩)] 125
   rw [←hWx]
   obtain ⟨z0,z1⟩:=hqx.cells2
   obtain ⟨qx,hqe⟩:∃q,wr.heap.size=q:=⟨_,rfl⟩
   rw [hqe] at z0 z1 ⊢
   have htr2:=HK.out.2.2.2.2.2.1.upd hux (by simp)
   have hst:∃M:Nat,M≤mostC S∧Calls Tryz.prog 87 #[.pointer (some ⟨c,0,none⟩),.int .i64 x] Wx fun e w'=>e=.returned (.tuple #[.int .i64 ((stabL l x).length:Int),.int .i64 (M:Nat)])∧Upd [] Wx w':=by
    obtain ⟨b',c',E,F1,F2,e1,e2,e3,e4,e5,e6⟩:=htr2
    cases e1
    refine ⟨_,?_,isCount e3 x⟩
    have h1:=touchV_many e3.rise e4 x
    have h2:=lg_mono (show 4*N+4≤4*S.H.cs.length+4 by have:=HK.out.2.2.2.2.2.2;omega)
    unfold mostC
    dsimp only at h1
    omega
   have HUX:=Lib.hid hux
   clear hWx hqx hqe htr2 y0 y1 hux
   obtain ⟨M,hM,HST1⟩:=hst
   obtain ⟨c2,hc2⟩:∃c2,(stabL l x).length=c2:=⟨_,rfl⟩
   rw [hc2] at HST1
   have HST2:=Lib.hid HST1
   have HM:=Lib.hid (And.intro hM hc2)
   have hlc:cc+c2<1000:=by rw [←hc2];exact HL2.out
   have hmb:M≤100000:=by omega
   clear HST1 hM hc2
   go_wp2_with fail
   (with_reducible refine HST2.out.mono ?_)
   rintro e w3 ⟨rfl,u3⟩
   have HU3:=Lib.hid ((HK.out.2.2.2.1.trans HUX.out).trans u3)
   clear u3 z0 z1
   have c0:(0:Int)≤(t:Int):=Int.natCast_nonneg _
   have c1:(t:Int)≤1000000:=by omega
   have c3:(0:Int)≤(M:Int):=Int.natCast_nonneg _
   have c4:(M:Int)≤100000:=by omega
   have c5:(0:Int)≤(cc:Int):=Int.natCast_nonneg _
   have c6:(cc:Int)≤1000:=by omega
   have c7:(0:Int)≤(c2:Int):=Int.natCast_nonneg _
   have c8:(c2:Int)≤1000:=by omega
   go_wp2_with fail
   go_roundg (n - (k+1))
   case measure=>have:=HK.out.1;omega
   case rel=>
    obtain ⟨k1,k2,k3,k4,k5,-⟩:=HK.out
    obtain ⟨m1,m2⟩:=HM.out
    refine ⟨k+1,t+M,cc+c2,by omega,by go_num,by go_num,by go_num,by rw [k5,m2],?_,HU3.out⟩
    rw [Nat.mul_succ]
    omega
  ·have hkn:k=n:=by omega
   have hLL:cc=(stabL (lvs S) x).length:=by
    rw [←hcc,hkn,←HN.out.1,List.take_length,←HN.out.2,←stab_cat,sortN_len]
   have HK:=Lib.hid (And.intro ht2 (And.intro hup (And.intro hLL hkn)))
   clear ht2 hup hLL hkn hk hcc
   go_wp2_with fail
   go_ret2
   obtain ⟨k1,k2,k3,k4⟩:=HK.out
   exact ⟨t,by rw [k3];rfl,by rw [HN.out.1,←k4];exact k1,HU1.out.trans k2⟩
end Go.Proofs.YtkbaaonchdeneaaGreat.PSp
namespace Go.Proofs.YtkbaaonchdeneaaGreat.PSp
open Go.Proofs.YtkbaaonchdeneaaGreat.Nm (place)
open Go.Proofs.YtkbaaonchdeneaaGreat.Ps
theorem inv0P:PInv Sp.id (P0:PSS):=inv0 HSp.inv00
theorem good0:HSp.Good (lvs (P0:PSS)):=⟨by decide,by intro s hs;simp [lvs,P0,live,liv] at hs⟩
theorem may_yes {S:PSS} (I:PInv Sp.id S) {s:Sp} (h1:s.lo≤s.hi) (h2:∀u∈lvs S,u.id≠s.id):mayAdd S s=true:=by
 unfold mayAdd
 rw [(I.none s.id).2 h2,decide_eq_true h1]
 rfl
theorem may_no {S:PSS} (I:PInv Sp.id S) {s:Sp} (h:¬s.lo≤s.hi∨∃u∈lvs S,u.id=s.id):mayAdd S s=false:=by
 unfold mayAdd
 rcases h with h | ⟨u,hu,e⟩
 ·rw [decide_eq_false h];rfl
 ·obtain ⟨i,hi,-⟩:=I.ofs u hu
  rw [e] at hi
  rw [hi]
  simp
theorem may_new {S:PSS} (I:PInv Sp.id S) {s:Sp} (h:mayAdd S s=true):s.lo≤s.hi∧place S.N s.id=none∧∀u∈lvs S,u.id≠s.id:=by
 unfold mayAdd at h
 rw [Bool.and_eq_true] at h
 have h2:place S.N s.id=none:=by simpa using h.2
 exact ⟨by simpa using h.1,h2,(I.none s.id).1 h2⟩
theorem fe_of {α:Type} (l:List α) (t:Nat) (h1:∀j,j<t→l.length.testBit j=true) (h2:l.length.testBit t=false):firstE (setB l)=t:=by
 obtain ⟨g1,g2⟩:=firstE_bits l
 rcases Nat.lt_trichotomy (firstE (setB l)) t with h | h | h
 ·rw [h1 _ h] at g2;cases g2
 ·exact h
 ·rw [g1 _ h] at h2;cases h2
theorem add_keeps {S:PSS} (I:PInv Sp.id S) (hg:HSp.Good (lvs S)) {s:Sp} (hs:s.in64) (ht:S.t<999) (h:mayAdd S s=true) :
 PInv Sp.id (addP Sp.id S s)∧HSp.Good (lvs (addP Sp.id S s))∧lvs (addP Sp.id S s)=lvs S++[s]:=by
 obtain ⟨h1,h2,h3⟩:=may_new I h
 refine ⟨add_inv I s h2 (by omega),?_,lvs_add I s⟩
 rw [lvs_add I]
 exact good_add hg hs h1 h3
theorem drop_keeps {S:PSS} (I:PInv Sp.id S) (hg:HSp.Good (lvs S)) {x k:Nat} {s:Sp} (hs:get S x=some s) (hk:S.H.mp.lookup s=some (k:Int)) (ht:S.t<999) :
 PInv Sp.id (dropP S x s k)∧HSp.Good (lvs (dropP S x s k))∧lvs (dropP S x s k)=(lvs S).filter fun y=>y.id != x:=by
 have hl:=lvs_drop I hs hk
 refine ⟨drop_inv I hs hk (by omega),?_,hl⟩
 rw [hl]
 exact hg.sub List.filter_sublist
end Go.Proofs.YtkbaaonchdeneaaGreat.PSp
namespace Go.Proofs.YtkbaaonchdeneaaGreat.PSp
open Go.RowKit
open Go.Proofs.YtkbaaonchdeneaaGreat.Nm (place)
open Go.Proofs.YtkbaaonchdeneaaGreat.Ps
def AL:List Sp:=[⟨0,4,1⟩,⟨4,9,2⟩,⟨6,6,3⟩]
structure Held (w0 w:World) (tv:Value) (S:PSS) (F:List Nat):Prop where
 is:IsPs w tv F S
 inv:PInv Sp.id S
 good:HSp.Good (lvs S)
 new:∀x∈F,w0.heap.size≤x
 upd:Upd [] w0 w
theorem Held.step {w0 w w':World} {tv:Value} {S S':PSS} {F:List Nat} (h:Held w0 w tv S F) (hs:PStep w w' tv F S') (I:PInv Sp.id S') (g:HSp.Good (lvs S')):∃F',Held w0 w' tv S' F'∧∀x∈F',x∈F∨w.heap.size≤x:=by
 obtain ⟨F',h1,h2,h3⟩:=hs
 refine ⟨F',⟨h1,I,g,fun x hx=>?_,h.upd.trans' h2 (fun x hx=>.inr (h.new x hx))⟩,h3⟩
 rcases h3 x hx with k | k
 ·exact h.new x k
 ·exact Nat.le_trans h.upd.size k
theorem Held.quiet {w0 w w':World} {tv:Value} {S:PSS} {F:List Nat} (h:Held w0 w tv S F) (hu:Upd [] w w'):Held w0 w' tv S F:=
 ⟨h.is.upd hu (by simp),h.inv,h.good,h.new,h.upd.trans hu⟩
theorem al_facts {S:PSS} (I:PInv Sp.id S) {k:Nat} {s:Sp} (hs:AL[k]? = some s) (hl:lvs S=AL.take k) (hc:S.H.cs.length=k):s.in64∧mayAdd S s=true∧2 ^ firstE (setB S.H.cs)=1+k % 2:=by
 have hk:k<3:=(List.getElem?_eq_some_iff.1 hs).1
 have h3:k=0∨k=1∨k=2:=by omega
 rcases h3 with rfl | rfl | rfl
 ·cases hs
  refine ⟨by simp [Sp.in64],may_yes I (by decide) (by rw [hl];simp [AL]),?_⟩
  rw [fe_of S.H.cs 0 (by omega) (by rw [hc];rfl)]
 ·cases hs
  refine ⟨by simp [Sp.in64],may_yes I (by decide) (by rw [hl];simp [AL]),?_⟩
  rw [fe_of S.H.cs 1 (by
   intro j hj;have:j=0:=by omega
   subst this;rw [hc];rfl) (by rw [hc];rfl)]
 ·cases hs
  refine ⟨by simp [Sp.in64],may_yes I (by decide) (by rw [hl];simp [AL]),?_⟩
  rw [fe_of S.H.cs 0 (by omega) (by rw [hc];rfl)]
theorem awake24 (w:World):Calls Tryz.prog 34 #[] w fun e w'=>e=.returned (.bool true)∧Upd [] w w':=by
 go_enter Tryz.func34,Tryz.ntmps34
 go_wp2_with fail
 (with_reducible refine (newP w).mono ?_)
 rintro e w1 ⟨tv,F0,rfl,h0,hn0,hu0⟩
 obtain ⟨q,hq⟩:∃q,tv=.pointer (some ⟨q,0,none⟩):=by obtain ⟨q,_,_,_,_,_,e,-⟩:=h0;exact ⟨q,e⟩
 subst hq
 have H0:=Lib.hid (⟨h0,inv0P,good0,hn0,hu0⟩:Held w w1 (.pointer (some ⟨q,0,none⟩)) P0 F0)
 clear h0 hn0 hu0
 go_upto_block 0 with fail
 obtain ⟨W,hW,huW,hqW⟩:=one_newC w1 #[.int .i64 0,.int .i64 4,.int .u32 1,.int .i64 4,.int .i64 9,.int .u32 2,.int .i64 6,.int .i64 6,.int .u32 3] 62
 have hsee:See KSp W (.slice (some ⟨w1.heap.size,0,none⟩) 3 3) AL:=by rw [hW];exact sees_lit w1 #[.int .i64 0,.int .i64 4,.int .u32 1,.int .i64 4,.int .i64 9,.int .u32 2,.int .i64 6,.int .i64 6,.int .u32 3] 62 3 3 rfl (by decide)
 rw [←hW]
 have hlt0:=H0.out.is.lt
 obtain ⟨qL,hqL⟩:∃k,w1.heap.size=k:=⟨_,rfl⟩
 rw [hqL] at hsee hlt0 ⊢
 have hqLW:qL<W.heap.size:=by rw [←hqL];exact hqW.lt
 have H1:=Lib.hid (H0.out.quiet huW)
 have HSEE:=Lib.hid hsee
 have HLT:=Lib.hid hlt0
 clear hW huW hqW hsee hlt0 hqL
 go_cut [] (fun wc=>∃S F,Held w wc (.pointer (some ⟨q,0,none⟩)) S F∧lvs S=AL∧S.H.cs.length=3∧S.t=3)
 case first=>
  go_wp2_with fail
  go_loopg [26] 3 (fun m s26 wr=>∃(k:Nat) (S:PSS) (F:List Nat),m+k=3∧s26=.int .i64 (k:Int)∧Held w wr (.pointer (some ⟨q,0,none⟩)) S F∧lvs S=AL.take k∧S.H.cs.length=k∧S.t=k∧(∀x∈F,x≠qL)∧See KSp wr (.slice (some ⟨qL,0,none⟩) 3 3) AL∧qL<wr.heap.size)
  case atStart=>exact ⟨0,P0,F0,rfl,rfl,H1.out,rfl,rfl,rfl,fun x hx=>by have:=HLT.out x hx;omega,HSEE.out,hqLW⟩
  case round=>
   obtain ⟨k,S,F,hk,rfl,hH,hl,hc,ht,hF,hse,hqr⟩:=hrel
   have k0:(0:Int)≤(k:Int):=Int.natCast_nonneg _
   by_cases hlt:k<3
   ·have hlt2:(k:Int)<3:=by omega
    obtain ⟨s,hs⟩:∃s,AL[k]? = some s:=⟨_,List.getElem?_eq_getElem hlt⟩
    obtain ⟨f1,f2,f3⟩:=al_facts hH.inv hs hl hc
    obtain ⟨k1,k2,k3⟩:=add_keeps hH.inv hH.good f1 (by omega) f2
    obtain ⟨g,og,hA,-,-,ey⟩:=hse.at hs
    cases hA
    have y0:wr.cell? ⟨qL,0+k*3,none⟩=some (.int .i64 s.lo):=ey 0 _ rfl
    have y1:wr.cell? ⟨qL,0+k*3+1,none⟩=some (.int .i64 s.hi):=ey 1 _ rfl
    have y2:wr.cell? ⟨qL,0+k*3+2,none⟩=some (.int .u32 (s.id:Int)):=ey 2 _ rfl
    simp only [Nat.zero_add] at y0 y1 y2
    have hlv:lvs (addP Sp.id S s)=AL.take (k+1):=by
     obtain ⟨e1,e2⟩:=List.getElem?_eq_some_iff.1 hs
     rw [k3,hl,List.take_succ_eq_append_getElem e1,e2]
    have HK:=Lib.hid (And.intro hk (And.intro hH (And.intro hc (And.intro ht (And.intro hF (And.intro hse hqr))))))
    have HI:=Lib.hid (And.intro k1 (And.intro k2 (And.intro hlv f3)))
    have HAD:=Lib.hid (fun (w9:World) (hu:Upd [] wr w9)=>addOne _ F S s w9 (hH.is.upd hu (by simp)) hH.inv hH.good (by omega) f1 f2)
    unfold spV AddOk at HAD
    clear hk hH hl hc ht hF hse hs ey f1 f2 k1 k2 k3 hlv hqr
    obtain ⟨z,hz⟩:∃z:Nat,2 ^ firstE (setB S.H.cs)=z:=⟨_,rfl⟩
    rw [f3] at hz
    rw [f3,hz] at HAD
    clear f3
    go_upto_region 5 with fail
    obtain ⟨Wx,hWx,hux,hqx⟩:=one_newC wr #[.int .i64 s.lo,.int .i64 s.hi,.int .u32 (s.id:Int)] 62
    rw [←hWx]
    obtain ⟨z0,z1,z2⟩:=hqx.cells3
    have HUX:=Lib.hid hux
    clear hWx hqx y0 y1 y2
    generalize wr.heap.size=qx at z0 z1 z2 ⊢
    go_wp2_with fail
    (with_reducible refine (HAD.out _ hux).mono ?_)
    rintro e w3 ⟨rfl,hst⟩
    have HST:=Lib.hid hst
    clear hst hux z0 z1 z2
    have hk3:k=0∨k=1∨k=2:=by omega
    obtain ⟨z',hz'⟩:∃z':Nat,z'=z:=⟨z,rfl⟩
    rcases hk3 with rfl | rfl | rfl
    ·have hz1:z=1:=by omega
     subst hz1
     clear hz hz'
     go_wp2_with fail
     go_roundg 2
     case measure=>have:=HK.out.1;omega
     case rel=>
      obtain ⟨k1,k2,k3,k4,k5,k6,k7⟩:=HK.out
      obtain ⟨i1,i2,i3,i4⟩:=HI.out
      obtain ⟨F',hh,hf⟩:=(k2.quiet HUX.out).step HST.out i1 i2
      have sz:=HUX.out.size
      refine ⟨1,addP Sp.id S s,F',by omega,by go_num,hh,i3,?_,?_,?_,?_,?_⟩
      ·show (S.H.cs++[(s,S.H.al.length)]).length=1
       rw [List.length_append,k3];rfl
      ·show S.t+1=1
       omega
      ·intro y hy
       rcases hf y hy with g | g
       ·exact k5 y g
       ·omega
      ·have hu9:=(HUX.out.mono (G:=F) (by simp)).trans (show Upd F _ w3 from by obtain ⟨_,_,g,_⟩:=HST.out;exact g)
       exact k6.upd hu9 (fun _ y hy _ hc=>by simp [blk] at hy;exact k5 y hc hy)
      ·have:=hh.upd.size
       have hu9:=(HUX.out.mono (G:=F) (by simp)).trans (show Upd F _ w3 from by obtain ⟨_,_,g,_⟩:=HST.out;exact g)
       exact Nat.lt_of_lt_of_le k7 hu9.size
    ·have hz1:z=2:=by omega
     subst hz1
     clear hz hz'
     go_wp2_with fail
     go_roundg 1
     case measure=>have:=HK.out.1;omega
     case rel=>
      obtain ⟨k1,k2,k3,k4,k5,k6,k7⟩:=HK.out
      obtain ⟨i1,i2,i3,i4⟩:=HI.out
      obtain ⟨F',hh,hf⟩:=(k2.quiet HUX.out).step HST.out i1 i2
      have sz:=HUX.out.size
      refine ⟨2,addP Sp.id S s,F',by omega,by go_num,hh,i3,?_,?_,?_,?_,?_⟩
      ·show (S.H.cs++[(s,S.H.al.length)]).length=2
       rw [List.length_append,k3];rfl
      ·show S.t+1=2
       omega
      ·intro y hy
       rcases hf y hy with g | g
       ·exact k5 y g
       ·omega
      ·have hu9:=(HUX.out.mono (G:=F) (by simp)).trans (show Upd F _ w3 from by obtain ⟨_,_,g,_⟩:=HST.out;exact g)
       exact k6.upd hu9 (fun _ y hy _ hc=>by simp [blk] at hy;exact k5 y hc hy)
      ·have:=hh.upd.size
       have hu9:=(HUX.out.mono (G:=F) (by simp)).trans (show Upd F _ w3 from by obtain ⟨_,_,g,_⟩:=HST.out;exact g)
       exact Nat.lt_of_lt_of_le k7 hu9.size
    ·have hz1:z=1:=by omega
     subst hz1
     clear hz hz'
     go_wp2_with fail
     go_roundg 0
     case measure=>have:=HK.out.1;omega
     case rel=>
      obtain ⟨k1,k2,k3,k4,k5,k6,k7⟩:=HK.out
      obtain ⟨i1,i2,i3,i4⟩:=HI.out
      obtain ⟨F',hh,hf⟩:=(k2.quiet HUX.out).step HST.out i1 i2
      have sz:=HUX.out.size
      refine ⟨3,addP Sp.id S s,F',by omega,by go_num,hh,i3,?_,?_,?_,?_,?_⟩
      ·show (S.H.cs++[(s,S.H.al.length)]).length=3
       rw [List.length_append,k3];rfl
      ·show S.t+1=3
       omega
      ·intro y hy
       rcases hf y hy with g | g
       ·exact k5 y g
       ·omega
      ·have hu9:=(HUX.out.mono (G:=F) (by simp)).trans (show Upd F _ w3 from by obtain ⟨_,_,g,_⟩:=HST.out;exact g)
       exact k6.upd hu9 (fun _ y hy _ hc=>by simp [blk] at hy;exact k5 y hc hy)
      ·have:=hh.upd.size
       have hu9:=(HUX.out.mono (G:=F) (by simp)).trans (show Upd F _ w3 from by obtain ⟨_,_,g,_⟩:=HST.out;exact g)
       exact Nat.lt_of_lt_of_le k7 hu9.size
   ·have hk3:k=3:=by omega
    have HK:=Lib.hid (And.intro hH (And.intro hl (And.intro hc (And.intro ht hk3))))
    clear hk hH hl hc ht hF hse hqr
    go_wp2_with fail
    go_meet
    case rel=>
     obtain ⟨k1,k2,k3,k4,k5⟩:=HK.out
     subst k5
     exact ⟨S,F,k1,k2,k3,k4⟩
 case rest=>
  obtain ⟨S,F,h3,hl,hc,ht⟩:=hcut
  obtain ⟨w2,hw2⟩:∃V:World,V=wc:=⟨_,rfl⟩
  subst hw2
  have HL:=Lib.hid (And.intro hl (And.intro hc ht))
  have hno:Calls Tryz.prog 27 #[.pointer (some ⟨q,0,none⟩),.agg #[.int .i64 2,.int .i64 1,.int .u32 4]] w2 fun e w'=>e=.returned (.tuple #[.int .i64 0,.bool false])∧Upd [] w2 w':=addNot _ F S ⟨2,1,4⟩ w2 h3.is h3.inv (by omega) (may_no h3.inv (.inl (by decide)))
  have HNO:=Lib.hid hno
  have H3:=Lib.hid h3
  clear h3 hl hc ht H0 H1 HSEE HLT hno
  go_wp2_with fail
  (with_reducible refine HNO.out.mono ?_)
  rintro e w3 ⟨rfl,u3⟩
  have H4:=Lib.hid (H3.out.quiet u3)
  clear u3
  have hst:=stabP _ F S 4 w3 H4.out.is H4.out.inv (by have:=HL.out.2.2;omega)
  have e4:stabL (lvs S) 4 = [1,2]:=by rw [HL.out.1];exact of_decide_eq_true (stabL_lit (L:=[1,2]) (by decide) (by decide))
  rw [e4] at hst
  have HST:=Lib.hid hst
  clear hst e4
  go_wp2_with fail
  (with_reducible refine HST.out.mono ?_)
  rintro e w4 ⟨t4,⟨A4,C4,rfl,r4,u4⟩,-⟩
  have H5:=Lib.hid (H4.out.quiet u4)
  have R4:=Lib.hid (See.of_row r4)
  clear r4 u4
  have hct:=countP _ F S 6 w4 H5.out.is H5.out.inv (by have:=HL.out.2.2;omega)
  have e6:stabL (lvs S) 6 = [2,3]:=by rw [HL.out.1];exact of_decide_eq_true (stabL_lit (L:=[2,3]) (by decide) (by decide))
  rw [e6] at hct
  have HCT:=Lib.hid hct
  clear hct e6
  go_wp2_with fail
  (with_reducible refine HCT.out.mono ?_)
  rintro e w5 ⟨t5,rfl,-,u5⟩
  have H6:=Lib.hid (H5.out.quiet u5)
  have R5:=Lib.hid (R4.out.upd0 u5)
  clear u5
  have hmt:=meetP _ F S 5 6 w5 H6.out.is H6.out.inv (by have:=HL.out.2.2;omega)
  have e7:meetL (lvs S) 5 6 = [2,3]:=by
   rw [HL.out.1]
   unfold meetL
   rw [if_neg (by decide)]
   exact (sortN_eq (m:=[2,3]) (by decide) (by decide)).symm
  rw [e7] at hmt
  have HMT:=Lib.hid hmt
  clear hmt e7
  go_wp2_with fail
  (with_reducible refine HMT.out.mono ?_)
  rintro e w6 ⟨t6,⟨A6,C6,rfl,r6,u6⟩,-⟩
  have H7:=Lib.hid (H6.out.quiet u6)
  have R6:=Lib.hid (R5.out.upd0 u6)
  have Q6:=Lib.hid (See.of_row r6)
  clear r6 u6
  go_wp2_with fail
  have hq:Calls Tryz.prog 32 #[.slice A4 2 C4,.slice (some ⟨w6.heap.size,0,none⟩) 2 2] (w6.alloc (.cells #[.int .u32 1,.int .u32 2] 26)) fun e w'=>e=.returned (.bool true)∧Upd [] (w6.alloc (.cells #[.int .u32 1,.int .u32 2] 26)) w':=same24C (.slice A4 2 C4) (.slice (some ⟨w6.heap.size,0,none⟩) 2 2) [1,2] [1,2] (w6.alloc (.cells #[.int .u32 1,.int .u32 2] 26)) (R6.out.upd0 ((Upd.refl [] w6).alloc _)) (show Sees (w6.alloc (.cells #[.int .u32 1,.int .u32 2] 26)) 1 (.slice (some ⟨w6.heap.size,0,none⟩) 2 2) 2 _ from sees_lit w6 #[.int .u32 1,.int .u32 2] 26 1 2 rfl (by decide)) (by decide) (by decide)
  (with_reducible refine hq.mono ?_)
  clear hq
  rintro e w7 ⟨rfl,u7⟩
  have H8:=Lib.hid ((H7.out.quiet ((Upd.refl [] w6).alloc (.cells #[.int .u32 1,.int .u32 2] 26))).quiet u7)
  have Q7:=Lib.hid ((Q6.out.upd0 ((Upd.refl [] w6).alloc (.cells #[.int .u32 1,.int .u32 2] 26))).upd0 u7)
  clear u7
  go_wp2_with fail
  have hq:Calls Tryz.prog 32 #[.slice A6 2 C6,.slice (some ⟨w7.heap.size,0,none⟩) 2 2] (w7.alloc (.cells #[.int .u32 2,.int .u32 3] 26)) fun e w'=>e=.returned (.bool true)∧Upd [] (w7.alloc (.cells #[.int .u32 2,.int .u32 3] 26)) w':=same24C (.slice A6 2 C6) (.slice (some ⟨w7.heap.size,0,none⟩) 2 2) [2,3] [2,3] (w7.alloc (.cells #[.int .u32 2,.int .u32 3] 26)) (Q7.out.upd0 ((Upd.refl [] w7).alloc _)) (show Sees (w7.alloc (.cells #[.int .u32 2,.int .u32 3] 26)) 1 (.slice (some ⟨w7.heap.size,0,none⟩) 2 2) 2 _ from sees_lit w7 #[.int .u32 2,.int .u32 3] 26 1 2 rfl (by decide)) (by decide) (by decide)
  (with_reducible refine hq.mono ?_)
  clear hq
  rintro e w8 ⟨rfl,u8⟩
  have H9:=Lib.hid ((H8.out.quiet ((Upd.refl [] w7).alloc (.cells #[.int .u32 2,.int .u32 3] 26))).quiet u8)
  clear u8
  have hmem:(⟨4,9,2⟩:Sp)∈lvs S:=by rw [HL.out.1];decide
  have hget:get S 2=some ⟨4,9,2⟩:=(H9.out.inv.get 2 _).2 ⟨hmem,rfl⟩
  obtain ⟨kk,hkk⟩:=mp_some H9.out.inv.half hmem
  have hdk:=drop_keeps H9.out.inv H9.out.good hget hkk (by have:=HL.out.2.2;omega)
  have hdr:Calls Tryz.prog 28 #[.pointer (some ⟨q,0,none⟩),.int .u32 2] w8 (DropOk w8 (.pointer (some ⟨q,0,none⟩)) F S 2 ⟨4,9,2⟩ kk):=dropOne _ F S 2 kk ⟨4,9,2⟩ w8 H9.out.is H9.out.inv H9.out.good (by have:=HL.out.2.2;omega) hget hkk
  have hn0:HSp.dropN S.H ⟨4,9,2⟩=0:=by
   unfold HSp.dropN
   have h1:=length_mdel H9.out.inv.half.keys (⟨4,9,2⟩:Sp)
   have h2:=lvs_len H9.out.inv
   rw [HL.out.1] at h2
   rw [hkk] at h1
   have h3:AL.length=3:=rfl
   rw [if_neg (by have:=HL.out.2.1;simp at h1;omega)]
  unfold DropOk at hdr
  rw [hn0] at hdr
  have HDR:=Lib.hid hdr
  have HDK:=Lib.hid hdk
  clear hdr hdk hn0 hkk hget hmem
  go_wp2_with fail
  (with_reducible refine HDR.out.mono ?_)
  rintro e w9 ⟨rfl,hst9⟩
  obtain ⟨F9,h9,-⟩:=H9.out.step hst9 HDK.out.1 HDK.out.2.1
  have H10:=Lib.hid h9
  clear h9 hst9
  have hl9:lvs (dropP S 2 ⟨4,9,2⟩ kk) = [⟨0,4,1⟩,⟨6,6,3⟩]:=by rw [HDK.out.2.2,HL.out.1];decide
  have ht9:(dropP S 2 ⟨4,9,2⟩ kk).t=4:=by show S.t+1=4;rw [HL.out.2.2]
  have HL9:=Lib.hid (And.intro hl9 ht9)
  clear hl9 ht9
  have hst:=stabP _ F9 _ 6 w9 H10.out.is H10.out.inv (by rw [HL9.out.2];decide)
  have e4:stabL (lvs (dropP S 2 ⟨4,9,2⟩ kk)) 6 = [3]:=by rw [HL9.out.1];exact of_decide_eq_true (stabL_lit (L:=[3]) (by decide) (by decide))
  rw [e4] at hst
  have HST9:=Lib.hid hst
  clear hst e4
  go_wp2_with fail
  (with_reducible refine HST9.out.mono ?_)
  rintro e w10 ⟨t10,⟨A10,C10,rfl,r10,u10⟩,-⟩
  have H11:=Lib.hid (H10.out.quiet u10)
  have R11:=Lib.hid (See.of_row r10)
  clear r10 u10
  have hno:Calls Tryz.prog 27 #[.pointer (some ⟨q,0,none⟩),.agg #[.int .i64 0,.int .i64 0,.int .u32 3]] w10 fun e w'=>e=.returned (.tuple #[.int .i64 0,.bool false])∧Upd [] w10 w':=addNot _ F9 _ ⟨0,0,3⟩ w10 H11.out.is H11.out.inv (by rw [HL9.out.2];decide) (may_no H11.out.inv (.inr ⟨⟨6,6,3⟩,by rw [HL9.out.1];decide,rfl⟩))
  have HNO:=Lib.hid hno
  clear hno
  go_wp2_with fail
  (with_reducible refine HNO.out.mono ?_)
  rintro e w11 ⟨rfl,u11⟩
  have H12:=Lib.hid (H11.out.quiet u11)
  have R12:=Lib.hid (R11.out.upd0 u11)
  clear u11
  go_wp2_with fail
  have hq:Calls Tryz.prog 32 #[.slice A10 1 C10,.slice (some ⟨w11.heap.size,0,none⟩) 1 1] (w11.alloc (.cells #[.int .u32 3] 26)) fun e w'=>e=.returned (.bool true)∧Upd [] (w11.alloc (.cells #[.int .u32 3] 26)) w':=same24C (.slice A10 1 C10) (.slice (some ⟨w11.heap.size,0,none⟩) 1 1) [3] [3] (w11.alloc (.cells #[.int .u32 3] 26)) (R12.out.upd0 ((Upd.refl [] w11).alloc _)) (show Sees (w11.alloc (.cells #[.int .u32 3] 26)) 1 (.slice (some ⟨w11.heap.size,0,none⟩) 1 1) 1 _ from sees_lit w11 #[.int .u32 3] 26 1 1 rfl (by decide)) (by decide) (by decide)
  (with_reducible refine hq.mono ?_)
  clear hq
  rintro e w12 ⟨rfl,u12⟩
  have HU:=Lib.hid (((H12.out.quiet ((Upd.refl [] w11).alloc (.cells #[.int .u32 3] 26))).quiet u12).upd)
  clear u12
  go_wp2_with fail
  go_ret
  exact ⟨rfl,HU.out⟩
end Go.Proofs.YtkbaaonchdeneaaGreat.PSp
namespace Go.Proofs.YtkbaaonchdeneaaGreat.PSp
open Go.RowKit
open Go.Proofs.YtkbaaonchdeneaaGreat.Nm (place)
open Go.Proofs.YtkbaaonchdeneaaGreat.Ps
def mayL (l:List Sp) (s:Sp):Bool:=decide (s.lo≤s.hi)&&decide (∀u∈l,u.id≠s.id)
def putL (l:List Sp) (s:Sp):List Sp:=if mayL l s then l++[s] else l
def hasL (l:List Sp) (x:Nat):Bool:=l.any fun y=>y.id==x
def lessL (l:List Sp) (x:Nat):List Sp:=l.filter fun y=>y.id != x
def getL (l:List Sp) (x:Nat):Option Sp:=l.find? fun y=>y.id==x
theorem may_is {S:PSS} (I:PInv Sp.id S) (s:Sp):mayAdd S s=mayL (lvs S) s:=by
 unfold mayAdd mayL
 congr 1
 rw [Bool.eq_iff_iff,Option.isNone_iff_eq_none,I.none,decide_eq_true_iff]
theorem get_is {S:PSS} (I:PInv Sp.id S) (x:Nat):get S x=getL (lvs S) x:=by
 unfold getL
 cases hg:get S x with
 |none=>
  symm
  rw [List.find?_eq_none]
  intro y hy
  have:=(I.none x).1 ((get_none I x).2 hg) y hy
  simpa using this
 |some s=>
  obtain ⟨h1,h2⟩:=(I.get x s).1 hg
  symm
  cases hf:(lvs S).find? fun y=>y.id==x with
  |none=>
   rw [List.find?_eq_none] at hf
   have:=hf s h1
   simp [h2] at this
  |some t=>
   have h3:=List.mem_of_find?_eq_some hf
   have h4:=List.find?_some hf
   simp at h4
   rw [name_inj I.names h1 h3 (h2.trans h4.symm)]
theorem has_get (l:List Sp) (x:Nat):hasL l x=(getL l x).isSome:=by
 unfold hasL getL
 rw [Bool.eq_iff_iff,List.any_eq_true,List.find?_isSome]
theorem wk_dropN {S:HS Sp} (I:HInv S) {s:Sp} {k:Nat} (hk:S.mp.lookup s=some (k:Int)):(dropS S s k).wk=S.wk+HSp.dropN S s:=by
 have h1:=(I.core.drop1 hk).mp_len
 rw [view_drop1 I.core hk] at h1
 have h1':(mdel S.mp s).length=(viewAll (viewKill (view S) s)).length:=h1
 rw [wk_drop I hk]
 unfold HSp.dropN
 rw [h1',view_len]
structure After (S S':PSS) (n:Nat) (did:Bool) (l:List Sp):Prop where
 lv:lvs S'=l
 t:S'.t≤S.t+1
 wk:S'.H.wk=S.H.wk+n
 no:did=false→n=0
 bd:∀A D,BdS S.H A D→S.H.cs.length<401→∃A' D',BdS S'.H A' D'∧A'+D'=A+D+did.toNat
def Left (w0 w:World) (tv:Value) (S:PSS) (F:List Nat) (n:Nat) (did:Bool) (l:List Sp) (w':World):Prop:=
 ∃S' F',Held w0 w' tv S' F'∧Upd F w w'∧(∀x∈F',x∈F∨w.heap.size≤x)∧After S S' n did l
theorem Left.none {w0 w w':World} {tv:Value} {S:PSS} {F:List Nat} (h:Held w0 w tv S F) (hu:Upd [] w w'):Left w0 w tv S F 0 false (lvs S) w':=
 ⟨S,F,h.quiet hu,hu.mono (by simp),fun _ hx=>.inl hx,rfl,Nat.le_succ _,rfl,fun _=>rfl,fun A D hb _=>⟨A,D,hb,rfl⟩⟩
theorem Held.take {w0 w w':World} {tv:Value} {S S':PSS} {F:List Nat} (h:Held w0 w tv S F) (hs:PStep w w' tv F S') (I:PInv Sp.id S') (g:HSp.Good (lvs S')):∃F',Held w0 w' tv S' F'∧Upd F w w'∧∀x∈F',x∈F∨w.heap.size≤x:=by
 obtain ⟨F',h1,h2⟩:=h.step hs I g
 obtain ⟨_,_,h3,_⟩:=hs
 exact ⟨F',h1,h3,h2⟩
theorem addAny {w0 w:World} {tv:Value} {S:PSS} {F:List Nat} (h:Held w0 w tv S F) (s:Sp) (hs:s.in64) (ht:S.t<999) :
 Calls Tryz.prog 27 #[tv,spV s] w fun e w'=>∃n:Nat,e=.returned (.tuple #[.int .i64 (n:Int),.bool (mayL (lvs S) s)])∧(mayL (lvs S) s=true→1≤n)∧Left w0 w tv S F n (mayL (lvs S) s) (putL (lvs S) s) w':=by
 by_cases hm:mayL (lvs S) s=true
 ·have hm2:mayAdd S s=true:=by rw [may_is h.inv];exact hm
  obtain ⟨k1,k2,k3⟩:=add_keeps h.inv h.good hs ht hm2
  refine (addOne tv F S s w h.is h.inv h.good ht hs hm2).mono ?_
  rintro e w' ⟨rfl,hst⟩
  obtain ⟨F',g1,g2,g3⟩:=h.take hst k1 k2
  obtain ⟨-,p2,-⟩:=may_new h.inv hm2
  refine ⟨_,by rw [hm],fun _=>Nat.one_le_two_pow,_,F',g1,g2,g3,?_,Nat.le_refl _,rfl,by simp [hm],?_⟩
  ·rw [k3];unfold putL;rw [if_pos hm]
  ·intro A D hb hc
   have hn:S.H.mp.lookup s=none:=(mp_none h.inv.half s).2 fun hq=>(h.inv.none s.id).1 p2 s hq rfl
   refine ⟨A+1,D,bds_put hb h.inv.half s hc,?_⟩
   rw [hm]
   simp
   omega
 ·have hm1:mayL (lvs S) s=false:=by simpa using hm
  have hm2:mayAdd S s=false:=by rw [may_is h.inv];exact hm1
  refine (addNot tv F S s w h.is h.inv (by omega) hm2).mono ?_
  rintro e w' ⟨rfl,hu⟩
  refine ⟨0,by rw [hm1];rfl,fun hq=>absurd hq hm,?_⟩
  rw [hm1]
  unfold putL
  rw [if_neg hm]
  exact Left.none h hu
theorem dropAny {w0 w:World} {tv:Value} {S:PSS} {F:List Nat} (h:Held w0 w tv S F) (x:Nat) (ht:S.t<999) :
 Calls Tryz.prog 28 #[tv,.int .u32 (x:Int)] w fun e w'=>∃n:Nat,e=.returned (.tuple #[.int .i64 (n:Int),.bool (hasL (lvs S) x)])∧Left w0 w tv S F n (hasL (lvs S) x) (lessL (lvs S) x) w':=by
 have hg:=get_is h.inv x
 have hh:=has_get (lvs S) x
 cases hx:get S x with
 |none=>
  rw [←hg,hx] at hh
  refine (dropNone tv F S x w h.is h.inv (by omega) hx).mono ?_
  rintro e w' ⟨rfl,hu⟩
  refine ⟨0,by rw [hh];rfl,?_⟩
  rw [hh]
  have hl:lessL (lvs S) x=lvs S:=by
   unfold lessL
   rw [List.filter_eq_self]
   intro y hy
   have:=(h.inv.none x).1 ((get_none h.inv x).2 hx) y hy
   simpa using this
  rw [hl]
  exact Left.none h hu
 |some s=>
  rw [←hg,hx] at hh
  obtain ⟨h1,h2⟩:=(h.inv.get x s).1 hx
  obtain ⟨k,hk⟩:=mp_some h.inv.half h1
  obtain ⟨k1,k2,k3⟩:=drop_keeps h.inv h.good hx hk ht
  refine (dropOne tv F S x k s w h.is h.inv h.good ht hx hk).mono ?_
  rintro e w' ⟨rfl,hst⟩
  obtain ⟨F',g1,g2,g3⟩:=h.take hst k1 k2
  refine ⟨_,by rw [hh];rfl,_,F',g1,g2,g3,k3,Nat.le_refl _,wk_dropN h.inv.half hk,by simp [hh],?_⟩
  intro A D hb hc
  refine ⟨A,D+1,bds_drop hb h.inv.half hk (by omega),?_⟩
  rw [hh]
  simp
  omega
theorem getAny {w0 w:World} {tv:Value} {S:PSS} {F:List Nat} (h:Held w0 w tv S F) (x:Nat) (ht:S.t<999) :
 Calls Tryz.prog 36 #[tv,.int .u32 (x:Int)] w fun e w'=>e=.returned (.tuple #[spO (getL (lvs S) x),.bool (getL (lvs S) x).isSome])∧Upd [] w w':=by
 rw [←get_is h.inv]
 exact getP tv F S x w h.is h.inv (by omega)
end Go.Proofs.YtkbaaonchdeneaaGreat.PSp
namespace Go.Proofs.YtkbaaonchdeneaaGreat.PSp
open Go.RowKit
open Go.Proofs.YtkbaaonchdeneaaGreat.Ps
theorem info_opS:(Tryz.prog.info? 72).map (fun i=>(i.zero,i.size,i.bytes))=some (some (.agg #[.int .u8 0,.int .i64 0,.int .i64 0,.int .u32 0,.int .i64 0,.int .i64 0]),6,48):=by kernel_rfl
theorem opS_cut {w:World} {v:Value} {l:List OpS} (h:IsOpS w v l) (k:Nat) (hk:k≤l.length) :
 ∃A C,(∀w',(Instr.slice 69 v none (some (.int .i64 (k:Int))) none).run Tryz.prog w'=.ok (.slice A k C) w')∧See KOpS w (.slice A k C) (l.take k):=by
 obtain ⟨i,hi,-,hz,-⟩:=info_parts info_opS
 obtain ⟨A,C,h1,h2,-⟩:=See.take (K:=KOpS) (P:=Tryz.prog) Tryz.underlying69 hi hz h k hk
 exact ⟨A,C,h1,h2 w h⟩
def didL (l:List Sp) (o:OpS):Bool:=if o.u % 2=0 then mayL l o.s else hasL l o.s.id
def stpL (l:List Sp) (o:OpS):List Sp:=if o.u % 2=0 then putL l o.s else lessL l o.s.id
theorem Left.ahead {w0 w W w':World} {tv:Value} {S:PSS} {F:List Nat} {n:Nat} {did:Bool} {l:List Sp} (hu:Upd [] w W) (h:Left w0 W tv S F n did l w'):Left w0 w tv S F n did l w':=by
 obtain ⟨S',F',h1,h2,h3,h4⟩:=h
 refine ⟨S',F',h1,(hu.mono (by simp)).trans h2,fun x hx=>?_,h4⟩
 rcases h3 x hx with g | g
 ·exact .inl g
 ·exact .inr (Nat.le_trans hu.size g)
theorem doneC {w0 w:World} {tv:Value} {S:PSS} {F:List Nat} (h:Held w0 w tv S F) (o:OpS) (ho:o.in64) (ht:S.t<999) :
 Calls Tryz.prog 35 #[tv,opVS o] w fun e w'=>∃n:Nat,e=.returned (.tuple #[.int .i64 (n:Int),.bool (didL (lvs S) o)])∧Left w0 w tv S F n (didL (lvs S) o) (stpL (lvs S) o) w':=by
 obtain ⟨W,hW,hu0,hq0⟩:=one_newC w #[.int .u8 (o.u:Int),.int .i64 o.s.lo,.int .i64 o.s.hi,.int .u32 (o.s.id:Int),.int .i64 o.lo,.int .i64 o.hi] 72
 have h1:=h.quiet hu0
 obtain ⟨q,_,_,_,_,_,rfl,-⟩:=h.is
 have y0:W.cell? ⟨w.heap.size,0,none⟩=some (.int .u8 (o.u:Int)):=hq0.cell 0
 have y1:W.cell? ⟨w.heap.size,1,none⟩=some (.int .i64 o.s.lo):=hq0.cell 1
 have y2:W.cell? ⟨w.heap.size,2,none⟩=some (.int .i64 o.s.hi):=hq0.cell 2
 have y3:W.cell? ⟨w.heap.size,3,none⟩=some (.int .u32 (o.s.id:Int)):=hq0.cell 3
 have HU0:=Lib.hid hu0
 have HW:=Lib.hid hW
 obtain ⟨r,hr⟩:∃r,o.u % 2=r:=⟨_,rfl⟩
 have hr2:r<2:=by rw [←hr];exact Nat.mod_lt _ (by decide)
 have tm:(o.u:Int).tmod 2=(r:Int):=by rw [←hr];rfl
 have o8:(o.u:Int)<256:=by have:=ho.1;omega
 have o0:(0:Int)≤(o.u:Int):=Int.natCast_nonneg _
 unfold opVS didL stpL
 rw [hr]
 have ha:=addAny h1 o.s ho.2.1 ht
 have hd:=dropAny h1 o.s.id ht
 unfold spV at ha
 have HA:=Lib.hid ha
 have HD:=Lib.hid hd
 clear hW hu0 hq0 h h1 ha hd hr ho ht
 have hr3:r=0∨r=1:=by omega
 rcases hr3 with rfl | rfl
 ·rw [if_pos rfl,if_pos rfl]
  go_enter Tryz.func35,Tryz.ntmps35
  go_upto_region 1 with fail
  rw [←HW.out]
  clear HW
  generalize w.heap.size=b at y0 y1 y2 y3 ⊢
  go_wp2_with fail
  (with_reducible refine HA.out.mono ?_)
  rintro e w' ⟨n,rfl,-,hl⟩
  have HL:=Lib.hid hl
  clear hl
  go_wp2_with fail
  go_ret2
  exact ⟨n,rfl,Left.ahead HU0.out HL.out⟩
 ·rw [if_neg (by decide),if_neg (by decide)]
  go_enter Tryz.func35,Tryz.ntmps35
  go_upto_region 1 with fail
  rw [←HW.out]
  clear HW
  generalize w.heap.size=b at y0 y1 y2 y3 ⊢
  go_wp2_with fail
  (with_reducible refine HD.out.mono ?_)
  rintro e w' ⟨n,rfl,hl⟩
  have HL:=Lib.hid hl
  clear hl
  go_wp2_with fail
  go_ret2
  exact ⟨n,rfl,Left.ahead HU0.out HL.out⟩
end Go.Proofs.YtkbaaonchdeneaaGreat.PSp
