/- slices.Sort of names: the partitions. The library's own text is walked. slices.Sort of names: -/
import Derived.Deep.DeepCutAuto
import Derived.Deep.CutBlock
import Derived.Test.YtkbaaonchdeneaaGreatPc7
set_option maxHeartbeats 16000000
set_option maxRecDepth 100000
namespace Go.Proofs.YtkbaaonchdeneaaGreat
open Go.RowKit Go.Sort
theorem WV (f g:Int->Bool) (hfg:∀x,g x = !f x) (D:Array Int) {i j I J:Nat} (hI:scanUp f D j i=I) (hJ:scanDown g D I j=J) (hi:0<i) (h:I<=J):I<J:=by
 obtain ⟨a1,_,_,a4⟩:=scanUp_spec f D j _ i rfl;obtain ⟨b1,_,_,b4⟩:=scanDown_spec g D I j;rw [hI] at a1 a4;rw [hJ] at b1 b4;rcases Nat.lt_or_ge I J with h1 | h1
 ·exact h1
 ·have e:I=J:=by omega
  have h2:=a4 (by omega);have h3:=b4 h (by omega);rw [hfg,<-e,h2] at h3
  cases h3
theorem a3C (p C a b v:Nat) (d:Array Int) (rest:List Value) (et:TypeId) (w:World) (h:RB w p d rest et) (hav:a<=v) (hvb:v<b) (hb:b<=d.size) (hsz:d.size<1000000) :
 Calls Tryz.prog 191 #[.slice (some ⟨p,0,none⟩) d.size C,(a:Int),(b:Int),(v:Int)] w λe w'=>
  ∃bo,e=.returned (.tuple #[.int .i64 ((partition ltInt d a b v).1:Int),.bool bo])/\RB w' p (partition ltInt d a b v).2.2 rest et/\Bj [p] w w':=by
 rw [partition_fst,partition_arr];obtain ⟨n,hn⟩:=AU d.size;obtain ⟨D1,hD1⟩:∃D,swp d a v=D:=⟨_,rfl⟩;have hs1:D1.size=n:=by rw [<-hD1,size_swp];exact hn
 obtain ⟨i0,hi0⟩:∃i,i=a+1:=⟨_,rfl⟩;obtain ⟨j0,hj0⟩:∃j,j=b - 1:=⟨_,rfl⟩;rw [hD1,<-hi0,<-hj0];obtain ⟨PL,nJ⟩:∃P,partLoop ltInt a i0 j0 D1=P:=⟨_,rfl⟩;rw [nJ];rw [hn] at hb hsz |-;have n0:(n:Int)<1000000:=by omega
 have a0:(a:Int)<(n:Int):=by omega
 have v0:(v:Int)<(n:Int):=by omega
 have b0:(b:Int)<1000000:=by omega
 have e1:(a:Int)+1=(i0:Int):=by omega
 have e2:(b:Int) - 1=(j0:Int):=by omega
 have HN:=AX hn;have Cj:=AX h;have HU:=AX (Bj.refl [p] w);have HB:=Az hav hvb hb hi0 hj0 hsz;have HD1:=AX hD1;have D9:=AX hs1;have nK:=AX nJ;clear h hav hvb hb hsz hn hD1 hs1 hi0 hj0 nJ;go_enter Tryz.func191,Tryz.ntmps191
 go_wp2_with fail
 have l1:=Cj.out.cell (t:=a) (Ad HB HN);have l2:=Cj.out.cell (t:=v) (Ad HB HN);have f1:=Cj.out.frozen a;have f2:=Cj.out.frozen v;obtain ⟨vp,hvp⟩:∃u,d[a]! = u:=⟨_,rfl⟩;obtain ⟨vq,hvq⟩:∃u,d[v]! = u:=⟨_,rfl⟩;have l3:=(Cj.out.set (t:=a) (Ad HB HN) vq).cell (t:=v) (by rw [Array.size_setIfInBounds];have hb:=HB.out;have hn:=HN.out;omega);obtain ⟨v3,hv3⟩:∃u,(d.setIfInBounds a vq)[v]! = u:=⟨_,rfl⟩;have HS:=Ap (Cj.out.swp (i:=a) (j:=v) (Ad HB HN) (Ad HB HN)) (HU.out.swp (p:=p) (.inl (by simp)) a v (.int .u32 d[v]!) (.int .u32 d[a]!));rw [hvp,hvq] at HS;rw [hvp] at l1;rw [hvq] at l2;rw [hv3] at l3;clear hvp hvq hv3 Cj HU;go_region
 generalize (w.setCell ⟨p,a,none⟩ (.int .u32 vq)).setCell ⟨p,v,none⟩ (.int .u32 vp)=W1 at HS |-;have Cj:=AX (HS.1.drew);have HU:=AX (HS.2.drew);clear HS l1 l2 l3 f1 f2;rw [HD1.out] at Cj;go_upto_block 0 with fail
 obtain ⟨I,hI⟩:∃I,scanUp (λx=>ltInt x D1[a]!) D1 j0 i0=I:=⟨_,rfl⟩;have gI:=scanUp_spec (λx=>ltInt x D1[a]!) D1 j0 _ i0 rfl;rw [hI] at gI;have Gv:=Ap gI.1 (gI.2.1 (Ag HB HN D9));have QI:=AX hI;have HQI:=AX hI;clear gI hI;go_cut [10] (λs wr=>s=.int .i64 (I:Int)/\RB wr p D1 rest et/\Bj [p] w wr)
 case first=>
  go_wp2_with fail
  go_loopg [10] (j0+1 - i0) (λm s wr=>∃i:Nat,m=j0+1 - i/\s=.int .i64 (i:Int)/\i0<=i/\i<=j0+1/\scanUp (λx=>ltInt x D1[a]!) D1 j0 i=I/\RB wr p D1 rest et/\Bj [p] w wr)
  case atStart=>exact ⟨i0,rfl,rfl,Nat.le_refl _,(Ag HB HN D9),QI.out,Cj.out,HU.out⟩
  case round=>
   obtain ⟨i,hm,rfl,h1,h2,hq,hrb,hu⟩:=hrel;obtain ⟨wl,rfl⟩:∃wl:World,wl=wr:=⟨_,rfl⟩;have ib:(i:Int)<1000000:=Ag HB HN D9;by_cases hle:i<=j0
   ·have hz:(i:Int)<=(j0:Int):=by omega
    have hd:decide (i<=j0)=true:=decide_eq_true hle;have g1:(i:Int)<(n:Int):=Ag HB HN D9;have l1:=hrb.cell (t:=i) (Ag HB HN D9);have l2:=hrb.cell (t:=a) (Ag HB HN D9);obtain ⟨vi,LJ⟩:∃v,D1[i]! = v:=⟨_,rfl⟩;obtain ⟨va,hva⟩:∃v,D1[a]! = v:=⟨_,rfl⟩;rw [LJ] at l1;rw [hva] at l2;obtain ⟨t,ht⟩:=AU (ltInt vi va)
    have hnx:I=if t=true then scanUp (λx=>ltInt x D1[a]!) D1 j0 (i+1) else i:=by
     rw [<-hq,scanUp,decide_eq_true hle,Bool.true_and];show (if (ltInt D1[i]! D1[a]!)=true then _ else _)=_
     rw [LJ,hva,ht]
    have ND:=AX (show ∀w,Calls Tryz.prog 189 #[.int .u32 vi,.int .u32 va] w λe w'=>e=.returned (.bool t)/\w'=w from λw=>by have:=JA vi va w;rw [ht] at this;exact this);have HI:=Au hm h1 h2 trivial;have HR1:=AX hrb;have DJ:=AX hu;have Qb:=AX hnx;clear hm h1 h2 hq hrb hu hle LJ hva ht hnx
    cases t
    ·have hn:=Qb.out;rw [if_neg (by decide)] at hn;have HN:=AX hn.symm;clear hn;go_wp2_with fail
     go_quiet (first | (go_at_call 189;refine Calls.quiet_of_same (ND.out _)))
     go_wp2_with fail
     go_meet
     case rel=>exact ⟨by rw [<-HN.out],HR1.out.drewN _,DJ.out.drewN _⟩
    ·have hn:=Qb.out;rw [if_pos rfl] at hn;have HN:=AX hn.symm;clear hn;go_wp2_with fail
     go_quiet (first | (go_at_call 189;refine Calls.quiet_of_same (ND.out _)))
     go_wp2_with fail
     go_roundg (j0+1 - (i+1))
     case measure=>have:=HI.out;omega
     case rel=>exact ⟨i+1,rfl,by go_num,Ac HI,Ac HI,HN.out,HR1.out.drewN _,DJ.out.drewN _⟩
   ·have hd:decide (i<=j0)=false:=decide_eq_false hle
    have hnx:i=I:=by
     rw [<-hq];rw [scanUp,decide_eq_false hle,Bool.false_and];rfl
    have HN:=AX hnx;have HR1:=AX hrb;have DJ:=AX hu;clear hm h1 h2 hq hrb hu hle hnx;go_wp2_with fail
    go_quiet (fail)
    go_wp2_with fail
    go_meet
    case rel=>exact ⟨by rw [<-HN.out],HR1.out.drewN _,DJ.out.drewN _⟩
 case rest=>
  obtain ⟨rfl,hrb,hu⟩:=hcut;clear Cj HU;have Cj:=AX hrb;have HU:=AX hu;clear hrb hu;clear QI;obtain ⟨J,hJ⟩:∃J,scanDown (λx=>!ltInt x D1[a]!) D1 I j0=J:=⟨_,rfl⟩;have gJ:=scanDown_spec (λx=>!ltInt x D1[a]!) D1 I j0;rw [hJ] at gJ;have XZ:=Ap gJ.1 (gJ.2.1 (Ac Gv));have QI:=AX hJ;clear gJ hJ;have i1:(I:Int)<1000000:=Af HB HN D9 Gv;have j1:(j0:Int)<1000000:=Ag HB HN D9;go_upto_block 2 with fail
  go_cut [11] (λs wr=>s=.int .i64 (J:Int)/\RB wr p D1 rest et/\Bj [p] w wr)
  case first=>
   go_wp2_with fail
   go_loopg [11] (j0) (λm s wr=>∃i:Nat,m=i/\s=.int .i64 (i:Int)/\i<=j0/\I<=i+1/\scanDown (λx=>!ltInt x D1[a]!) D1 I i=J/\RB wr p D1 rest et/\Bj [p] w wr)
   case atStart=>exact ⟨j0,rfl,rfl,Nat.le_refl _,(Af HB HN D9 Gv),QI.out,Cj.out,HU.out⟩
   case round=>
    obtain ⟨i,hm,rfl,h1,h2,hq,hrb,hu⟩:=hrel;obtain ⟨wl,rfl⟩:∃wl:World,wl=wr:=⟨_,rfl⟩;have ib:(i:Int)<1000000:=Af HB HN D9 Gv;by_cases hle:I<=i
    ·have hz:(I:Int)<=(i:Int):=by omega
     have hd:decide (I<=i)=true:=decide_eq_true hle;have g1:(i:Int)<(n:Int):=Af HB HN D9 Gv;have l1:=hrb.cell (t:=i) (Af HB HN D9 Gv);have l2:=hrb.cell (t:=a) (Af HB HN D9 Gv);obtain ⟨vi,LJ⟩:∃v,D1[i]! = v:=⟨_,rfl⟩;obtain ⟨va,hva⟩:∃v,D1[a]! = v:=⟨_,rfl⟩;rw [LJ] at l1;rw [hva] at l2;obtain ⟨t,ht⟩:=AU (ltInt vi va);obtain ⟨k,hk⟩:∃k,i=k+1:=⟨i - 1,Af HB HN D9 Gv⟩
     have hnx:J=if t=false then scanDown (λx=>!ltInt x D1[a]!) D1 I k else i:=by
      rw [<-hq,hk,scanDown,<-hk,decide_eq_true hle,Bool.true_and];show (if (!ltInt D1[i]! D1[a]!)=true then _ else _)=_
      rw [LJ,hva,ht]
      cases t<;>rfl
     have hkz:(i:Int) - 1=(k:Int):=by omega
     have ND:=AX (show ∀w,Calls Tryz.prog 189 #[.int .u32 vi,.int .u32 va] w λe w'=>e=.returned (.bool t)/\w'=w from λw=>by have:=JA vi va w;rw [ht] at this;exact this);have HI:=Au hm h1 h2 hk;have HR1:=AX hrb;have DJ:=AX hu;have Qb:=AX hnx;clear hm h1 h2 hq hrb hu hle LJ hva ht hnx hk
     cases t
     ·have hn:=Qb.out;rw [if_pos rfl] at hn;have HN:=AX hn.symm;clear hn;go_wp2_with fail
      go_quiet (first | (go_at_call 189;refine Calls.quiet_of_same (ND.out _)))
      go_wp2_with fail
      go_roundg k
      case measure=>have:=HI.out;omega
      case rel=>exact ⟨k,rfl,by have:=HI.out;go_num,Ac HI,Ac HI,HN.out,HR1.out.drewN _,DJ.out.drewN _⟩
     ·have hn:=Qb.out;rw [if_neg (by decide)] at hn;have HN:=AX hn.symm;clear hn;go_wp2_with fail
      go_quiet (first | (go_at_call 189;refine Calls.quiet_of_same (ND.out _)))
      go_wp2_with fail
      go_meet
      case rel=>exact ⟨by rw [<-HN.out],HR1.out.drewN _,DJ.out.drewN _⟩
    ·have hd:decide (I<=i)=false:=decide_eq_false hle
     have hnx:i=J:=by
      rw [<-hq]
      cases hi0:i with
      |zero=>rfl
      |succ k=>rw [hi0] at hle;rw [scanDown,decide_eq_false hle,Bool.false_and];rfl
     have HN:=AX hnx;have HR1:=AX hrb;have DJ:=AX hu;clear hm h1 h2 hq hrb hu hle hnx;go_wp2_with fail
     go_quiet (fail)
     go_wp2_with fail
     go_meet
     case rel=>exact ⟨by rw [<-HN.out],HR1.out.drewN _,DJ.out.drewN _⟩
  case rest=>
   obtain ⟨rfl,hrb,hu⟩:=hcut;clear Cj HU;have Cj:=AX hrb;have HU:=AX hu;clear hrb hu;have j2:(J:Int)<1000000:=Af HB HN D9 XZ;have yw:=QI;clear QI;by_cases hgt:J<I
   ·have hz:(J:Int)<(I:Int):=by omega
    have hpl:PL=(J,D1):=by
     rw [<-nK.out,partLoop_eq,HQI.out,yw.out,if_pos hgt]
    have HE:=AX hpl;have hJa:a<=J:=Ah HB HN D9 Gv XZ;have HJA:=AX hJa;have j3:(J:Int)<(n:Int):=Af HB HN D9 XZ;clear hgt hpl hJa;go_wp2_with fail
    have l1:=Cj.out.cell (t:=J) (Ai HB HN D9 Gv XZ HJA);have l2:=Cj.out.cell (t:=a) (Ai HB HN D9 Gv XZ HJA);have f1:=Cj.out.frozen J;have f2:=Cj.out.frozen a;obtain ⟨vp,hvp⟩:∃u,D1[J]! = u:=⟨_,rfl⟩;obtain ⟨vq,hvq⟩:∃u,D1[a]! = u:=⟨_,rfl⟩;have l3:=(Cj.out.set (t:=J) (Ai HB HN D9 Gv XZ HJA) vq).cell (t:=a) (by rw [Array.size_setIfInBounds];have hb:=HB.out;have hn:=HN.out;have hs1:=D9.out;have gi:=Gv.out;have gj:=XZ.out;have:=HJA.out;omega);obtain ⟨v3,hv3⟩:∃u,(D1.setIfInBounds J vq)[a]! = u:=⟨_,rfl⟩;have HS:=Ap (Cj.out.swp (i:=J) (j:=a) (Ai HB HN D9 Gv XZ HJA) (Ai HB HN D9 Gv XZ HJA)) (HU.out.swp (p:=p) (.inl (by simp)) J a (.int .u32 D1[a]!) (.int .u32 D1[J]!));rw [hvp,hvq] at HS;rw [hvp] at l1;rw [hvq] at l2;rw [hv3] at l3;clear hvp hvq hv3 Cj HU;go_region
    generalize (wc.setCell ⟨p,J,none⟩ (.int .u32 vq)).setCell ⟨p,a,none⟩ (.int .u32 vp)=W1 at HS |-;have Cj:=AX (HS.1.drew);have HU:=AX (HS.2.drew);clear HS l1 l2 l3 f1 f2;go_wp2_with fail
    go_ret2
    refine ⟨true,by rw [HE.out];rfl,?_,HU.out⟩
    rw [HE.out];exact Cj.out
   ·have hz:¬(J:Int)<(I:Int):=by omega
    have HIJ:=AX (show I<J from WV _ _ (λ_=>rfl) D1 HQI.out yw.out (Ag HB HN D9) (by omega))
    have hpl:partLoop ltInt a (I+1) (J - 1) (swp D1 I J)=PL:=by
     rw [<-nK.out];conv=>rhs;rw [partLoop_eq,HQI.out,yw.out,if_neg hgt]
    have HE:=AX hpl;have i3:(I:Int)<(n:Int):=Ah HB HN D9 Gv XZ;have j3:(J:Int)<(n:Int):=Af HB HN D9 XZ;clear hgt hpl;go_wp2_with fail
    have l1:=Cj.out.cell (t:=I) (Ah HB HN D9 Gv XZ);have l2:=Cj.out.cell (t:=J) (Ah HB HN D9 Gv XZ);have f1:=Cj.out.frozen I;have f2:=Cj.out.frozen J;obtain ⟨vp,hvp⟩:∃u,D1[I]! = u:=⟨_,rfl⟩;obtain ⟨vq,hvq⟩:∃u,D1[J]! = u:=⟨_,rfl⟩;have l3:=(Cj.out.set (t:=I) (Ah HB HN D9 Gv XZ) vq).cell (t:=J) (by rw [Array.size_setIfInBounds];have hb:=HB.out;have hn:=HN.out;have hs1:=D9.out;have gi:=Gv.out;have gj:=XZ.out;omega);obtain ⟨v3,hv3⟩:∃u,(D1.setIfInBounds I vq)[J]! = u:=⟨_,rfl⟩;have HS:=Ap (Cj.out.swp (i:=I) (j:=J) (Ah HB HN D9 Gv XZ) (Ah HB HN D9 Gv XZ)) (HU.out.swp (p:=p) (.inl (by simp)) I J (.int .u32 D1[J]!) (.int .u32 D1[I]!));rw [hvp,hvq] at HS;rw [hvp] at l1;rw [hvq] at l2;rw [hv3] at l3;clear hvp hvq hv3 Cj HU;go_region
    generalize (wc.setCell ⟨p,I,none⟩ (.int .u32 vq)).setCell ⟨p,J,none⟩ (.int .u32 vp)=W1 at HS |-;have Cj:=AX (HS.1.drew);have HU:=AX (HS.2.drew);clear HS l1 l2 l3 f1 f2;obtain ⟨I1,hI1⟩:∃k,k=I+1:=⟨_,rfl⟩;obtain ⟨J1,hJ1⟩:∃k,k=J - 1:=⟨_,rfl⟩;have e3:(I:Int)+1=(I1:Int):=by omega
    have e4:(J:Int) - 1=(J1:Int):=Ah HIJ Gv HB HN D9;have pO:=Ap hI1 hJ1;clear hI1 hJ1;go_upto_block 4 with fail
    go_cut [10,11] (λs10 s11 wr=>s11=.int .i64 (PL.1:Int)/\RB wr p PL.2 rest et/\Bj [p] w wr/\a<=PL.1/\PL.1<b/\PL.2.size=n)
    case first=>
     go_wp2_with fail
     go_loopg [10,11] (J1+1 - I1) (λm s10 s11 wr=>∃(i j:Nat) (dk:Array Int),m=j+1 - i/\s10=.int .i64 (i:Int)/\s11=.int .i64 (j:Int)/\a<i/\i<=j+1/\j<b/\dk.size=n/\RB wr p dk rest et/\Bj [p] w wr/\partLoop ltInt a i j dk=PL)
     case atStart=>exact ⟨I1,J1,_,rfl,rfl,rfl,Ai pO HIJ Gv HB HN D9,Ag pO HIJ Gv,Aj pO HIJ XZ Gv HB HN D9,by rw [size_swp];exact D9.out,Cj.out,HU.out,by rw [pO.1,pO.2];exact HE.out⟩
     case round=>
      obtain ⟨i,j,dk,hm,rfl,rfl,hai,hij,hjb,hdn,hrb,hu,heq⟩:=hrel;clear Cj HU;obtain ⟨W3,rfl⟩:∃W:World,W=wr:=⟨_,rfl⟩;have Cj:=AX hrb;have HU:=AX hu;have HR:=Aw hm hai hij hjb hdn;have xK:=AX heq;have ib3:(i:Int)<1000000:=Ag HB HN D9;have jb3:(j:Int)<1000000:=Ag HB HN D9;clear hm hai hij hjb hdn hrb hu heq;obtain ⟨I2,hI2⟩:∃I,scanUp (λx=>ltInt x dk[a]!) dk j i=I:=⟨_,rfl⟩;have gI:=scanUp_spec (λx=>ltInt x dk[a]!) dk j _ i rfl;rw [hI2] at gI;have EU:=Ap gI.1 (gI.2.1 (Ac HR));have QI:=AX hI2;have ZN:=AX hI2;clear gI hI2;go_upto_block 6 with fail
      go_cut [10] (λs wr=>s=.int .i64 (I2:Int)/\RB wr p dk rest et/\Bj [p] w wr)
      case first=>
       go_wp2_with fail
       go_loopg [10] (j+1 - i) (λm s wr=>∃i:Nat,m=j+1 - i/\s=.int .i64 (i:Int)/\i<=i/\i<=j+1/\scanUp (λx=>ltInt x dk[a]!) dk j i=I2/\RB wr p dk rest et/\Bj [p] w wr)
       case atStart=>exact ⟨i,rfl,rfl,Nat.le_refl _,(Af HB HN D9 HR),QI.out,Cj.out,HU.out⟩
       case round=>
        obtain ⟨i,hm,rfl,h1,h2,hq,hrb,hu⟩:=hrel;obtain ⟨wl,rfl⟩:∃wl:World,wl=wr:=⟨_,rfl⟩;have ib:(i:Int)<1000000:=Af HB HN D9 HR;by_cases hle:i<=j
        ·have hz:(i:Int)<=(j:Int):=by omega
         have hd:decide (i<=j)=true:=decide_eq_true hle;have g1:(i:Int)<(n:Int):=Af HB HN D9 HR;have l1:=hrb.cell (t:=i) (Af HB HN D9 HR);have l2:=hrb.cell (t:=a) (Af HB HN D9 HR);obtain ⟨vi,LJ⟩:∃v,dk[i]! = v:=⟨_,rfl⟩;obtain ⟨va,hva⟩:∃v,dk[a]! = v:=⟨_,rfl⟩;rw [LJ] at l1;rw [hva] at l2;obtain ⟨t,ht⟩:=AU (ltInt vi va)
         have hnx:I2=if t=true then scanUp (λx=>ltInt x dk[a]!) dk j (i+1) else i:=by
          rw [<-hq,scanUp,decide_eq_true hle,Bool.true_and];show (if (ltInt dk[i]! dk[a]!)=true then _ else _)=_
          rw [LJ,hva,ht]
         have ND:=AX (show ∀w,Calls Tryz.prog 189 #[.int .u32 vi,.int .u32 va] w λe w'=>e=.returned (.bool t)/\w'=w from λw=>by have:=JA vi va w;rw [ht] at this;exact this);have HI:=Au hm h1 h2 trivial;have HR1:=AX hrb;have DJ:=AX hu;have Qb:=AX hnx;clear hm h1 h2 hq hrb hu hle LJ hva ht hnx
         cases t
         ·have hn:=Qb.out;rw [if_neg (by decide)] at hn;have HN:=AX hn.symm;clear hn;go_wp2_with fail
          go_quiet (first | (go_at_call 189;refine Calls.quiet_of_same (ND.out _)))
          go_wp2_with fail
          go_meet
          case rel=>exact ⟨by rw [<-HN.out],HR1.out.drewN _,DJ.out.drewN _⟩
         ·have hn:=Qb.out;rw [if_pos rfl] at hn;have HN:=AX hn.symm;clear hn;go_wp2_with fail
          go_quiet (first | (go_at_call 189;refine Calls.quiet_of_same (ND.out _)))
          go_wp2_with fail
          go_roundg (j+1 - (i+1))
          case measure=>have:=HI.out;omega
          case rel=>exact ⟨i+1,rfl,by go_num,Ac HI,Ac HI,HN.out,HR1.out.drewN _,DJ.out.drewN _⟩
        ·have hd:decide (i<=j)=false:=decide_eq_false hle
         have hnx:i=I2:=by
          rw [<-hq];rw [scanUp,decide_eq_false hle,Bool.false_and];rfl
         have HN:=AX hnx;have HR1:=AX hrb;have DJ:=AX hu;clear hm h1 h2 hq hrb hu hle hnx;go_wp2_with fail
         go_quiet (fail)
         go_wp2_with fail
         go_meet
         case rel=>exact ⟨by rw [<-HN.out],HR1.out.drewN _,DJ.out.drewN _⟩
      case rest=>
       obtain ⟨rfl,hrb,hu⟩:=hcut;clear Cj HU;have Cj:=AX hrb;have HU:=AX hu;clear hrb hu;clear QI;obtain ⟨J2,hJ2⟩:∃J,scanDown (λx=>!ltInt x dk[a]!) dk I2 j=J:=⟨_,rfl⟩;have gJ:=scanDown_spec (λx=>!ltInt x dk[a]!) dk I2 j;rw [hJ2] at gJ;have Ie:=Ap gJ.1 (gJ.2.1 (Ac EU));have QI:=AX hJ2;clear gJ hJ2;have i2b:(I2:Int)<1000000:=Ah HB HN D9 EU HR;go_upto_block 8 with fail
       go_cut [11] (λs wr=>s=.int .i64 (J2:Int)/\RB wr p dk rest et/\Bj [p] w wr)
       case first=>
        go_wp2_with fail
        go_loopg [11] (j) (λm s wr=>∃i:Nat,m=i/\s=.int .i64 (i:Int)/\i<=j/\I2<=i+1/\scanDown (λx=>!ltInt x dk[a]!) dk I2 i=J2/\RB wr p dk rest et/\Bj [p] w wr)
        case atStart=>exact ⟨j,rfl,rfl,Nat.le_refl _,(Ah HB HN D9 HR EU),QI.out,Cj.out,HU.out⟩
        case round=>
         obtain ⟨i,hm,rfl,h1,h2,hq,hrb,hu⟩:=hrel;obtain ⟨wl,rfl⟩:∃wl:World,wl=wr:=⟨_,rfl⟩;have ib:(i:Int)<1000000:=Ah HB HN D9 HR EU;by_cases hle:I2<=i
         ·have hz:(I2:Int)<=(i:Int):=by omega
          have hd:decide (I2<=i)=true:=decide_eq_true hle;have g1:(i:Int)<(n:Int):=Ah HB HN D9 HR EU;have l1:=hrb.cell (t:=i) (Ah HB HN D9 HR EU);have l2:=hrb.cell (t:=a) (Ah HB HN D9 HR EU);obtain ⟨vi,LJ⟩:∃v,dk[i]! = v:=⟨_,rfl⟩;obtain ⟨va,hva⟩:∃v,dk[a]! = v:=⟨_,rfl⟩;rw [LJ] at l1;rw [hva] at l2;obtain ⟨t,ht⟩:=AU (ltInt vi va);obtain ⟨k,hk⟩:∃k,i=k+1:=⟨i - 1,Ah HB HN D9 HR EU⟩
          have hnx:J2=if t=false then scanDown (λx=>!ltInt x dk[a]!) dk I2 k else i:=by
           rw [<-hq,hk,scanDown,<-hk,decide_eq_true hle,Bool.true_and];show (if (!ltInt dk[i]! dk[a]!)=true then _ else _)=_
           rw [LJ,hva,ht]
           cases t<;>rfl
          have hkz:(i:Int) - 1=(k:Int):=by omega
          have ND:=AX (show ∀w,Calls Tryz.prog 189 #[.int .u32 vi,.int .u32 va] w λe w'=>e=.returned (.bool t)/\w'=w from λw=>by have:=JA vi va w;rw [ht] at this;exact this);have HI:=Au hm h1 h2 hk;have HR1:=AX hrb;have DJ:=AX hu;have Qb:=AX hnx;clear hm h1 h2 hq hrb hu hle LJ hva ht hnx hk
          cases t
          ·have hn:=Qb.out;rw [if_pos rfl] at hn;have HN:=AX hn.symm;clear hn;go_wp2_with fail
           go_quiet (first | (go_at_call 189;refine Calls.quiet_of_same (ND.out _)))
           go_wp2_with fail
           go_roundg k
           case measure=>have:=HI.out;omega
           case rel=>exact ⟨k,rfl,by have:=HI.out;go_num,Ac HI,Ac HI,HN.out,HR1.out.drewN _,DJ.out.drewN _⟩
          ·have hn:=Qb.out;rw [if_neg (by decide)] at hn;have HN:=AX hn.symm;clear hn;go_wp2_with fail
           go_quiet (first | (go_at_call 189;refine Calls.quiet_of_same (ND.out _)))
           go_wp2_with fail
           go_meet
           case rel=>exact ⟨by rw [<-HN.out],HR1.out.drewN _,DJ.out.drewN _⟩
         ·have hd:decide (I2<=i)=false:=decide_eq_false hle
          have hnx:i=J2:=by
           rw [<-hq]
           cases hi0:i with
           |zero=>rfl
           |succ k=>rw [hi0] at hle;rw [scanDown,decide_eq_false hle,Bool.false_and];rfl
          have HN:=AX hnx;have HR1:=AX hrb;have DJ:=AX hu;clear hm h1 h2 hq hrb hu hle hnx;go_wp2_with fail
          go_quiet (fail)
          go_wp2_with fail
          go_meet
          case rel=>exact ⟨by rw [<-HN.out],HR1.out.drewN _,DJ.out.drewN _⟩
       case rest=>
        obtain ⟨rfl,hrb,hu⟩:=hcut;clear Cj HU;have Cj:=AX hrb;have HU:=AX hu;clear hrb hu;have j2b:(J2:Int)<1000000:=Ah HB HN D9 Ie HR;by_cases hgt:J2<I2
        ·have hz2:(J2:Int)<(I2:Int):=by omega
         have hpl:PL=(J2,dk):=by rw [<-xK.out,partLoop_eq,ZN.out,QI.out,if_pos hgt]
         have HE2:=AX hpl;clear hgt hpl;go_wp2_with fail
         go_meet
         case rel=>
          refine ⟨by rw [HE2.out],by rw [HE2.out];exact Cj.out,HU.out,by rw [HE2.out];have:=EU.out;have:=Ie.out;have:=HR.out;show a<=J2;omega,by rw [HE2.out];have:=Ie.out;have:=HR.out;show J2<b;omega,by rw [HE2.out];exact HR.2.2.2.2⟩
        ·have hz2:¬(J2:Int)<(I2:Int):=by omega
         have hpl:partLoop ltInt a (I2+1) (J2 - 1) (swp dk I2 J2)=PL:=by
          rw [<-xK.out];conv=>rhs;rw [partLoop_eq,ZN.out,QI.out,if_neg hgt]
         have HE2:=Ap hpl (show I2<J2 from WV _ _ (λ_=>rfl) dk ZN.out QI.out (Ac HR) (by omega));have i3:(I2:Int)<(n:Int):=Ai HB HN D9 EU Ie HR;have j3:(J2:Int)<(n:Int):=Ah HB HN D9 Ie HR;clear hgt hpl;go_wp2_with fail
         have l1:=Cj.out.cell (t:=I2) (Aj HB HN D9 HR EU Ie HE2.2);have l2:=Cj.out.cell (t:=J2) (Aj HB HN D9 HR EU Ie HE2.2);have f1:=Cj.out.frozen I2;have f2:=Cj.out.frozen J2;obtain ⟨vp,hvp⟩:∃u,dk[I2]! = u:=⟨_,rfl⟩;obtain ⟨vq,hvq⟩:∃u,dk[J2]! = u:=⟨_,rfl⟩;have l3:=(Cj.out.set (t:=I2) (Aj HB HN D9 HR EU Ie HE2.2) vq).cell (t:=J2) (by rw [Array.size_setIfInBounds];have hb:=HB.out;have hn:=HN.out;have hs1:=D9.out;have gr:=HR.out;have gi:=EU.out;have gj:=Ie.out;have ge:=HE2.2;omega);obtain ⟨v3,hv3⟩:∃u,(dk.setIfInBounds I2 vq)[J2]! = u:=⟨_,rfl⟩;have HS:=Ap (Cj.out.swp (i:=I2) (j:=J2) (Aj HB HN D9 HR EU Ie HE2.2) (Aj HB HN D9 HR EU Ie HE2.2)) (HU.out.swp (p:=p) (.inl (by simp)) I2 J2 (.int .u32 dk[J2]!) (.int .u32 dk[I2]!));rw [hvp,hvq] at HS;rw [hvp] at l1;rw [hvq] at l2;rw [hv3] at l3;clear hvp hvq hv3 Cj HU;go_region
         generalize (wc.setCell ⟨p,I2,none⟩ (.int .u32 vq)).setCell ⟨p,J2,none⟩ (.int .u32 vp)=W1 at HS |-;have Cj:=AX (HS.1.drew);have HU:=AX (HS.2.drew);clear HS l1 l2 l3 f1 f2;obtain ⟨I3,pR⟩:∃k,k=I2+1:=⟨_,rfl⟩;obtain ⟨J3,hJ3⟩:∃k,k=J2 - 1:=⟨_,rfl⟩;have e5:(I2:Int)+1=(I3:Int):=by omega
         have e6:(J2:Int) - 1=(J3:Int):=Ag HE2.2 EU HR;have WW:=Ap pR hJ3;clear pR hJ3;go_wp2_with fail
         go_roundg (J3+1 - I3)
         case measure=>have:=WW.out;have:=HE2.2;have:=EU.out;have:=Ie.out;have:=HR.out;omega
         case rel=>
          have q1:=WW.out;have q2:=HE2.2;have q3:=EU.out;have q4:=Ie.out;have q5:=HR.out;refine ⟨I3,J3,_,rfl,rfl,rfl,by omega,by omega,by omega,by rw [size_swp];exact HR.2.2.2.2,Cj.out,HU.out,by rw [WW.1,WW.2];exact HE2.1⟩
    case rest=>
     obtain ⟨rfl,hrb,hu,g1,g2,g3⟩:=hcut;clear Cj HU;obtain ⟨x,hx⟩:=AU PL.1;obtain ⟨DZ,hDZ⟩:∃x,PL.2=x:=⟨_,rfl⟩;rw [hx] at g1 g2 |-;rw [hDZ] at hrb g3;have nM:=Ap hx hDZ;have Cj:=AX hrb;have HU:=AX hu;have HZ:=Aq g1 g2 g3;have x1:(x:Int)<(n:Int):=Ag HB HN D9;clear hrb hu g1 g2 g3 hx hDZ;go_wp2_with fail
     have l1:=Cj.out.cell (t:=x) (Af HB HN D9 HZ);have l2:=Cj.out.cell (t:=a) (Af HB HN D9 HZ);have f1:=Cj.out.frozen x;have f2:=Cj.out.frozen a;obtain ⟨vp,hvp⟩:∃u,DZ[x]! = u:=⟨_,rfl⟩;obtain ⟨vq,hvq⟩:∃u,DZ[a]! = u:=⟨_,rfl⟩;have l3:=(Cj.out.set (t:=x) (Af HB HN D9 HZ) vq).cell (t:=a) (by rw [Array.size_setIfInBounds];have hb:=HB.out;have hn:=HN.out;have hs1:=D9.out;have gz:=HZ.out;omega);obtain ⟨v3,hv3⟩:∃u,(DZ.setIfInBounds x vq)[a]! = u:=⟨_,rfl⟩;have HS:=Ap (Cj.out.swp (i:=x) (j:=a) (Af HB HN D9 HZ) (Af HB HN D9 HZ)) (HU.out.swp (p:=p) (.inl (by simp)) x a (.int .u32 DZ[a]!) (.int .u32 DZ[x]!));rw [hvp,hvq] at HS;rw [hvp] at l1;rw [hvq] at l2;rw [hv3] at l3;clear hvp hvq hv3 Cj HU;go_region
     generalize (wc.setCell ⟨p,x,none⟩ (.int .u32 vq)).setCell ⟨p,a,none⟩ (.int .u32 vp)=W1 at HS |-;have Cj:=AX (HS.1.drew);have HU:=AX (HS.2.drew);clear HS l1 l2 l3 f1 f2;go_wp2_with fail
     go_ret2
     exact ⟨false,by rw [nM.1];rfl,by rw [nM.1,nM.2];exact Cj.out,HU.out⟩
end Go.Proofs.YtkbaaonchdeneaaGreat
namespace Go.Proofs.YtkbaaonchdeneaaGreat
open Go.RowKit Go.Sort
theorem yx (p C a b v:Nat) (d:Array Int) (rest:List Value) (et:TypeId) (w:World) (h:RB w p d rest et) (hav:a<=v) (hvb:v<b) (hb:b<=d.size) (hsz:d.size<1000000) :
 Calls Tryz.prog 190 #[.slice (some ⟨p,0,none⟩) d.size C,(a:Int),(b:Int),(v:Int)] w λe w'=>
  e=.returned (.int .i64 ((partitionEqual ltInt d a b v).1:Int))/\RB w' p (partitionEqual ltInt d a b v).2 rest et/\Bj [p] w w':=by
 obtain ⟨n,hn⟩:=AU d.size;obtain ⟨D1,hD1⟩:∃D,swp d a v=D:=⟨_,rfl⟩;have hs1:D1.size=n:=by rw [<-hD1,size_swp];exact hn
 obtain ⟨i0,hi0⟩:∃i,i=a+1:=⟨_,rfl⟩;obtain ⟨j0,hj0⟩:∃j,j=b - 1:=⟨_,rfl⟩;obtain ⟨PL,nJ⟩:∃P,partEqLoop ltInt a i0 j0 D1=P:=⟨_,rfl⟩;have hpe:partitionEqual ltInt d a b v=PL:=by rw [partitionEqual,hD1,<-hi0,<-hj0,nJ]
 rw [hpe];rw [hn] at hb hsz |-;have n0:(n:Int)<1000000:=by omega
 have a0:(a:Int)<(n:Int):=by omega
 have v0:(v:Int)<(n:Int):=by omega
 have b0:(b:Int)<1000000:=by omega
 have e1:(a:Int)+1=(i0:Int):=by omega
 have e2:(b:Int) - 1=(j0:Int):=by omega
 have HN:=AX hn;have Cj:=AX h;have HU:=AX (Bj.refl [p] w);have HB:=Az hav hvb hb hi0 hj0 hsz;have HD1:=AX hD1;have D9:=AX hs1;have nK:=AX nJ;clear h hav hvb hb hsz hn hD1 hs1 hi0 hj0 nJ hpe;go_enter Tryz.func190,Tryz.ntmps190
 go_wp2_with fail
 have l1:=Cj.out.cell (t:=a) (Ad HB HN);have l2:=Cj.out.cell (t:=v) (Ad HB HN);have f1:=Cj.out.frozen a;have f2:=Cj.out.frozen v;obtain ⟨vp,hvp⟩:∃u,d[a]! = u:=⟨_,rfl⟩;obtain ⟨vq,hvq⟩:∃u,d[v]! = u:=⟨_,rfl⟩;have l3:=(Cj.out.set (t:=a) (Ad HB HN) vq).cell (t:=v) (by rw [Array.size_setIfInBounds];have hb:=HB.out;have hn:=HN.out;omega);obtain ⟨v3,hv3⟩:∃u,(d.setIfInBounds a vq)[v]! = u:=⟨_,rfl⟩;have HS:=Ap (Cj.out.swp (i:=a) (j:=v) (Ad HB HN) (Ad HB HN)) (HU.out.swp (p:=p) (.inl (by simp)) a v (.int .u32 d[v]!) (.int .u32 d[a]!));rw [hvp,hvq] at HS;rw [hvp] at l1;rw [hvq] at l2;rw [hv3] at l3;clear hvp hvq hv3 Cj HU;go_region
 generalize (w.setCell ⟨p,a,none⟩ (.int .u32 vq)).setCell ⟨p,v,none⟩ (.int .u32 vp)=W1 at HS |-;have Cj:=AX (HS.1.drew);have HU:=AX (HS.2.drew);clear HS l1 l2 l3 f1 f2;rw [HD1.out] at Cj;go_wp2_with fail
 go_loopg [9,10] (j0+1 - i0) (λm s9 s10 wr=>∃(i j:Nat) (dk:Array Int),m=j+1 - i/\s9=.int .i64 (i:Int)/\s10=.int .i64 (j:Int)/\a<i/\i<=j+1/\j<b/\dk.size=n/\RB wr p dk rest et/\Bj [p] w wr/\partEqLoop ltInt a i j dk=PL)
 case atStart=>exact ⟨i0,j0,_,rfl,rfl,rfl,Ag HB HN D9,Ag HB HN D9,Ag HB HN D9,D9.out,Cj.out,HU.out,nK.out⟩
 case round=>
  obtain ⟨i,j,dk,hm,rfl,rfl,hai,hij,hjb,hdn,hrb,hu,heq⟩:=hrel;clear Cj HU;obtain ⟨W3,rfl⟩:∃W:World,W=wr:=⟨_,rfl⟩;have Cj:=AX hrb;have HU:=AX hu;have HR:=Aw hm hai hij hjb hdn;have xK:=AX heq;have ib3:(i:Int)<1000000:=Ag HB HN D9;have jb3:(j:Int)<1000000:=Ag HB HN D9;clear hm hai hij hjb hdn hrb hu heq;obtain ⟨I2,hI2⟩:∃I,scanUp (λx=>!ltInt dk[a]! x) dk j i=I:=⟨_,rfl⟩;have gI:=scanUp_spec (λx=>!ltInt dk[a]! x) dk j _ i rfl;rw [hI2] at gI;have EU:=Ap gI.1 (gI.2.1 (Ac HR));have QI:=AX hI2;have ZN:=AX hI2;clear gI hI2;go_upto_block 2 with fail
  go_cut [9] (λs wr=>s=.int .i64 (I2:Int)/\RB wr p dk rest et/\Bj [p] w wr)
  case first=>
   go_wp2_with fail
   go_loopg [9] (j+1 - i) (λm s wr=>∃i:Nat,m=j+1 - i/\s=.int .i64 (i:Int)/\i<=i/\i<=j+1/\scanUp (λx=>!ltInt dk[a]! x) dk j i=I2/\RB wr p dk rest et/\Bj [p] w wr)
   case atStart=>exact ⟨i,rfl,rfl,Nat.le_refl _,(Af HB HN D9 HR),QI.out,Cj.out,HU.out⟩
   case round=>
    obtain ⟨i,hm,rfl,h1,h2,hq,hrb,hu⟩:=hrel;obtain ⟨wl,rfl⟩:∃wl:World,wl=wr:=⟨_,rfl⟩;have ib:(i:Int)<1000000:=Af HB HN D9 HR;by_cases hle:i<=j
    ·have hz:(i:Int)<=(j:Int):=by omega
     have hd:decide (i<=j)=true:=decide_eq_true hle;have g1:(i:Int)<(n:Int):=Af HB HN D9 HR;have l1:=hrb.cell (t:=i) (Af HB HN D9 HR);have l2:=hrb.cell (t:=a) (Af HB HN D9 HR);obtain ⟨vi,LJ⟩:∃v,dk[i]! = v:=⟨_,rfl⟩;obtain ⟨va,hva⟩:∃v,dk[a]! = v:=⟨_,rfl⟩;rw [LJ] at l1;rw [hva] at l2;obtain ⟨t,ht⟩:=AU (ltInt va vi)
     have hnx:I2=if t=false then scanUp (λx=>!ltInt dk[a]! x) dk j (i+1) else i:=by
      rw [<-hq,scanUp,decide_eq_true hle,Bool.true_and];show (if (!ltInt dk[a]! dk[i]!)=true then _ else _)=_
      rw [LJ,hva,ht]
      cases t<;>rfl
     have ND:=AX (show ∀w,Calls Tryz.prog 189 #[.int .u32 va,.int .u32 vi] w λe w'=>e=.returned (.bool t)/\w'=w from λw=>by have:=JA va vi w;rw [ht] at this;exact this);have HI:=Au hm h1 h2 trivial;have HR1:=AX hrb;have DJ:=AX hu;have Qb:=AX hnx;clear hm h1 h2 hq hrb hu hle LJ hva ht hnx
     cases t
     ·have hn:=Qb.out;rw [if_pos rfl] at hn;have HN:=AX hn.symm;clear hn;go_wp2_with fail
      go_quiet (first | (go_at_call 189;refine Calls.quiet_of_same (ND.out _)))
      go_wp2_with fail
      go_roundg (j+1 - (i+1))
      case measure=>have:=HI.out;omega
      case rel=>exact ⟨i+1,rfl,by go_num,Ac HI,Ac HI,HN.out,HR1.out.drewN _,DJ.out.drewN _⟩
     ·have hn:=Qb.out;rw [if_neg (by decide)] at hn;have HN:=AX hn.symm;clear hn;go_wp2_with fail
      go_quiet (first | (go_at_call 189;refine Calls.quiet_of_same (ND.out _)))
      go_wp2_with fail
      go_meet
      case rel=>exact ⟨by rw [<-HN.out],HR1.out.drewN _,DJ.out.drewN _⟩
    ·have hd:decide (i<=j)=false:=decide_eq_false hle
     have hnx:i=I2:=by
      rw [<-hq];rw [scanUp,decide_eq_false hle,Bool.false_and];rfl
     have HN:=AX hnx;have HR1:=AX hrb;have DJ:=AX hu;clear hm h1 h2 hq hrb hu hle hnx;go_wp2_with fail
     go_quiet (fail)
     go_wp2_with fail
     go_meet
     case rel=>exact ⟨by rw [<-HN.out],HR1.out.drewN _,DJ.out.drewN _⟩
  case rest=>
   obtain ⟨rfl,hrb,hu⟩:=hcut;clear Cj HU;have Cj:=AX hrb;have HU:=AX hu;clear hrb hu;clear QI;obtain ⟨J2,hJ2⟩:∃J,scanDown (λx=>ltInt dk[a]! x) dk I2 j=J:=⟨_,rfl⟩;have gJ:=scanDown_spec (λx=>ltInt dk[a]! x) dk I2 j;rw [hJ2] at gJ;have Ie:=Ap gJ.1 (gJ.2.1 (Ac EU));have QI:=AX hJ2;clear gJ hJ2;have i2b:(I2:Int)<1000000:=Ah HB HN D9 EU HR;go_upto_block 4 with fail
   go_cut [10] (λs wr=>s=.int .i64 (J2:Int)/\RB wr p dk rest et/\Bj [p] w wr)
   case first=>
    go_wp2_with fail
    go_loopg [10] (j) (λm s wr=>∃i:Nat,m=i/\s=.int .i64 (i:Int)/\i<=j/\I2<=i+1/\scanDown (λx=>ltInt dk[a]! x) dk I2 i=J2/\RB wr p dk rest et/\Bj [p] w wr)
    case atStart=>exact ⟨j,rfl,rfl,Nat.le_refl _,(Ah HB HN D9 HR EU),QI.out,Cj.out,HU.out⟩
    case round=>
     obtain ⟨i,hm,rfl,h1,h2,hq,hrb,hu⟩:=hrel;obtain ⟨wl,rfl⟩:∃wl:World,wl=wr:=⟨_,rfl⟩;have ib:(i:Int)<1000000:=Ah HB HN D9 HR EU;by_cases hle:I2<=i
     ·have hz:(I2:Int)<=(i:Int):=by omega
      have hd:decide (I2<=i)=true:=decide_eq_true hle;have g1:(i:Int)<(n:Int):=Ah HB HN D9 HR EU;have l1:=hrb.cell (t:=i) (Ah HB HN D9 HR EU);have l2:=hrb.cell (t:=a) (Ah HB HN D9 HR EU);obtain ⟨vi,LJ⟩:∃v,dk[i]! = v:=⟨_,rfl⟩;obtain ⟨va,hva⟩:∃v,dk[a]! = v:=⟨_,rfl⟩;rw [LJ] at l1;rw [hva] at l2;obtain ⟨t,ht⟩:=AU (ltInt va vi);obtain ⟨k,hk⟩:∃k,i=k+1:=⟨i - 1,Ah HB HN D9 HR EU⟩
      have hnx:J2=if t=true then scanDown (λx=>ltInt dk[a]! x) dk I2 k else i:=by
       rw [<-hq,hk,scanDown,<-hk,decide_eq_true hle,Bool.true_and];show (if (ltInt dk[a]! dk[i]!)=true then _ else _)=_
       rw [LJ,hva,ht]
      have hkz:(i:Int) - 1=(k:Int):=by omega
      have ND:=AX (show ∀w,Calls Tryz.prog 189 #[.int .u32 va,.int .u32 vi] w λe w'=>e=.returned (.bool t)/\w'=w from λw=>by have:=JA va vi w;rw [ht] at this;exact this);have HI:=Au hm h1 h2 hk;have HR1:=AX hrb;have DJ:=AX hu;have Qb:=AX hnx;clear hm h1 h2 hq hrb hu hle LJ hva ht hnx hk
      cases t
      ·have hn:=Qb.out;rw [if_neg (by decide)] at hn;have HN:=AX hn.symm;clear hn;go_wp2_with fail
       go_quiet (first | (go_at_call 189;refine Calls.quiet_of_same (ND.out _)))
       go_wp2_with fail
       go_meet
       case rel=>exact ⟨by rw [<-HN.out],HR1.out.drewN _,DJ.out.drewN _⟩
      ·have hn:=Qb.out;rw [if_pos rfl] at hn;have HN:=AX hn.symm;clear hn;go_wp2_with fail
       go_quiet (first | (go_at_call 189;refine Calls.quiet_of_same (ND.out _)))
       go_wp2_with fail
       go_roundg k
       case measure=>have:=HI.out;omega
       case rel=>exact ⟨k,rfl,by have:=HI.out;go_num,Ac HI,Ac HI,HN.out,HR1.out.drewN _,DJ.out.drewN _⟩
     ·have hd:decide (I2<=i)=false:=decide_eq_false hle
      have hnx:i=J2:=by
       rw [<-hq]
       cases hi0:i with
       |zero=>rfl
       |succ k=>rw [hi0] at hle;rw [scanDown,decide_eq_false hle,Bool.false_and];rfl
      have HN:=AX hnx;have HR1:=AX hrb;have DJ:=AX hu;clear hm h1 h2 hq hrb hu hle hnx;go_wp2_with fail
      go_quiet (fail)
      go_wp2_with fail
      go_meet
      case rel=>exact ⟨by rw [<-HN.out],HR1.out.drewN _,DJ.out.drewN _⟩
   case rest=>
    obtain ⟨rfl,hrb,hu⟩:=hcut;clear Cj HU;have Cj:=AX hrb;have HU:=AX hu;clear hrb hu;have j2b:(J2:Int)<1000000:=Ah HB HN D9 Ie HR;by_cases hgt:J2<I2
    ·have hz2:(J2:Int)<(I2:Int):=by omega
     have hpl:PL=(I2,dk):=by rw [<-xK.out,partEqLoop_eq,ZN.out,QI.out,if_pos hgt]
     have HE2:=AX hpl;clear hgt hpl;go_wp2_with fail
     go_ret
     exact ⟨by rw [HE2.out];rfl,by rw [HE2.out];exact Cj.out,HU.out⟩
    ·have hz2:¬(J2:Int)<(I2:Int):=by omega
     have hpl:partEqLoop ltInt a (I2+1) (J2 - 1) (swp dk I2 J2)=PL:=by
      rw [<-xK.out];conv=>rhs;rw [partEqLoop_eq,ZN.out,QI.out,if_neg hgt]
     have HE2:=Ap hpl (show I2<J2 from WV _ _ (λx=>by cases ltInt dk[a]! x<;>rfl) dk ZN.out QI.out (Ac HR) (by omega));have i3:(I2:Int)<(n:Int):=Ai HB HN D9 EU Ie HR;have j3:(J2:Int)<(n:Int):=Ah HB HN D9 Ie HR;clear hgt hpl;go_wp2_with fail
     have l1:=Cj.out.cell (t:=I2) (Aj HB HN D9 HR EU Ie HE2.2);have l2:=Cj.out.cell (t:=J2) (Aj HB HN D9 HR EU Ie HE2.2);have f1:=Cj.out.frozen I2;have f2:=Cj.out.frozen J2;obtain ⟨vp,hvp⟩:∃u,dk[I2]! = u:=⟨_,rfl⟩;obtain ⟨vq,hvq⟩:∃u,dk[J2]! = u:=⟨_,rfl⟩;have l3:=(Cj.out.set (t:=I2) (Aj HB HN D9 HR EU Ie HE2.2) vq).cell (t:=J2) (by rw [Array.size_setIfInBounds];have hb:=HB.out;have hn:=HN.out;have hs1:=D9.out;have gr:=HR.out;have gi:=EU.out;have gj:=Ie.out;have ge:=HE2.2;omega);obtain ⟨v3,hv3⟩:∃u,(dk.setIfInBounds I2 vq)[J2]! = u:=⟨_,rfl⟩;have HS:=Ap (Cj.out.swp (i:=I2) (j:=J2) (Aj HB HN D9 HR EU Ie HE2.2) (Aj HB HN D9 HR EU Ie HE2.2)) (HU.out.swp (p:=p) (.inl (by simp)) I2 J2 (.int .u32 dk[J2]!) (.int .u32 dk[I2]!));rw [hvp,hvq] at HS;rw [hvp] at l1;rw [hvq] at l2;rw [hv3] at l3;clear hvp hvq hv3 Cj HU;go_region
     generalize (wc.setCell ⟨p,I2,none⟩ (.int .u32 vq)).setCell ⟨p,J2,none⟩ (.int .u32 vp)=W1 at HS |-;have Cj:=AX (HS.1.drew);have HU:=AX (HS.2.drew);clear HS l1 l2 l3 f1 f2;obtain ⟨I3,pR⟩:∃k,k=I2+1:=⟨_,rfl⟩;obtain ⟨J3,hJ3⟩:∃k,k=J2 - 1:=⟨_,rfl⟩;have e5:(I2:Int)+1=(I3:Int):=by omega
     have e6:(J2:Int) - 1=(J3:Int):=Ag HE2.2 EU HR;have WW:=Ap pR hJ3;clear pR hJ3;go_wp2_with fail
     go_roundg (J3+1 - I3)
     case measure=>have:=WW.out;have:=HE2.2;have:=EU.out;have:=Ie.out;have:=HR.out;omega
     case rel=>
      have q1:=WW.out;have q2:=HE2.2;have q3:=EU.out;have q4:=Ie.out;have q5:=HR.out;refine ⟨I3,J3,_,rfl,rfl,rfl,by omega,by omega,by omega,by rw [size_swp];exact HR.2.2.2.2,Cj.out,HU.out,by rw [WW.1,WW.2];exact HE2.1⟩
end Go.Proofs.YtkbaaonchdeneaaGreat
namespace Go.Sort
variable {α:Type} [Inhabited α] (lt:α->α->Bool)
theorem LM:∀(j:Nat) (d:Array α),(shiftDown lt j d).size=d.size
 |0,d=>rfl
 |j+1,d=>by
  rw [shiftDown];split
  ·rfl
  ·rw [LM j,size_swp]
theorem WX (b:Nat):∀(m j:Nat) (d:Array α),b - j<=m->(shiftUp lt b j d).size=d.size:=by
 intro m;induction m with
 |zero=>intro j d h;rw [shiftUp,if_neg (by omega)]
 |succ m ih=>
  intro j d h;rw [shiftUp];split
  ·split
   ·rfl
   ·rw [ih _ _ (by omega),size_swp]
  ·rfl
theorem Vf (d:Array α) (b:Nat):∀(m i:Nat),b - i<=m->i<=b->i<=scanSorted lt d b i/\scanSorted lt d b i<=b:=by
 intro m;induction m with
 |zero=>
  intro i h1 h2;rw [scanSorted,if_neg (by simp;omega)];exact ⟨Nat.le_refl _,h2⟩
 |succ m ih=>
  intro i h1 h2;rw [scanSorted];split
  ·rename_i h
   simp only [Bool.and_eq_true,decide_eq_true_eq] at h;have:=ih (i+1) (by omega) (by omega);omega
  ·exact ⟨Nat.le_refl _,h2⟩
end Go.Sort
namespace Go.Proofs.YtkbaaonchdeneaaGreat
open Go.RowKit Go.Sort
theorem pU (p C a b:Nat) (d:Array Int) (rest:List Value) (et:TypeId) (w:World) (h:RB w p d rest et) (hab:a<b) (hb:b<=d.size) (hsz:d.size<1000000) :
 Calls Tryz.prog 188 #[.slice (some ⟨p,0,none⟩) d.size C,(a:Int),(b:Int)] w λe w'=>
  e=.returned (.bool (partialInsertionSort ltInt d a b).2)/\RB w' p (partialInsertionSort ltInt d a b).1 rest et/\Bj [p] w w':=by
 obtain ⟨n,hn⟩:=AU d.size;obtain ⟨PL,nJ⟩:∃P,partialIns ltInt a b 5 (a+1) d=P:=⟨_,rfl⟩;rw [partialInsertionSort,nJ];rw [hn] at hb hsz |-;obtain ⟨i0,hi0⟩:∃i,i=a+1:=⟨_,rfl⟩;rw [<-hi0] at nJ;have n0:(n:Int)<1000000:=by omega
 have a0:(a:Int)<(n:Int):=by omega
 have b0:(b:Int)<1000000:=by omega
 have e1:(a:Int)+1=(i0:Int):=by omega
 have HN:=AX hn;have Cj:=AX h;have HU:=AX (Bj.refl [p] w);have HB:=Au hab hb hi0 hsz;have nK:=AX nJ;clear h hab hb hsz hn hi0 nJ;go_enter Tryz.func188,Tryz.ntmps188
 go_wp2_with fail
 go_loopg [7,8] 5 (λm s7 s8 wr=>∃(i k:Nat) (dk:Array Int),m+k=5/\s7=.int .i64 (i:Int)/\s8=.int .i64 (k:Int)/\a<i/\i<=b/\dk.size=n/\RB wr p dk rest et/\Bj [p] w wr/\partialIns ltInt a b m i dk=PL)
 case atStart=>exact ⟨i0,0,d,rfl,rfl,rfl,Ac HB,Ac HB,HN.out,Cj.out,HU.out,nK.out⟩
 case round=>
  obtain ⟨i,k,dk,hm,rfl,rfl,hai,hib,hdn,hrb,hu,heq⟩:=hrel;clear Cj HU;obtain ⟨W3,rfl⟩:∃W:World,W=wr:=⟨_,rfl⟩;have Cj:=AX hrb;have HU:=AX hu;have ib:(i:Int)<1000000:=Ac HB;have k0:(0:Int)<=(k:Int):=AY _;have k1:(k:Int)<=5:=by omega
  by_cases hk5:k=5
  ·have hz:¬(k:Int)<5:=by omega
   have hm0:gk=0:=by omega
   rw [hm0] at heq;have HE:=AX (show (dk,false)=PL from heq);clear hm hai hib hdn hrb hu heq hk5 hm0;go_wp2_with fail
   go_ret
   exact ⟨by rw [<-HE.out];rfl,by rw [<-HE.out];exact Cj.out,HU.out⟩
  ·have hz:(k:Int)<5:=by omega
   obtain ⟨s,hs⟩:∃s,gk=s+1:=⟨gk - 1,by omega⟩;rw [hs,partialIns_succ] at heq;have HR:=Aw hm hai hib hdn hs;obtain ⟨I,hI⟩:=AU (scanSorted ltInt dk b i);have gI:=Vf ltInt dk b _ i (Nat.le_refl _) hib;rw [hI] at gI;simp only [hI] at heq;have QI:=AX hI;have Gv:=AX gI;have HE:=AX heq;clear hm hai hib hdn hrb hu heq hk5 hI gI hs;go_upto_block 2 with fail
   go_cut [7] (λs7 wr=>s7=.int .i64 (I:Int)/\RB wr p dk rest et/\Bj [p] w wr)
   case first=>
    go_wp2_with fail
    go_loopg [7] (b - i) (λm s7 wr=>∃q:Nat,m=b - q/\s7=.int .i64 (q:Int)/\i<=q/\q<=b/\scanSorted ltInt dk b q=I/\RB wr p dk rest et/\Bj [p] w wr)
    case atStart=>exact ⟨i,rfl,rfl,Nat.le_refl _,HR.2.2.1,QI.out,Cj.out,HU.out⟩
    case round=>
     obtain ⟨q,hm,rfl,h1,h2,hq,hrb,hu⟩:=hrel;obtain ⟨wl,rfl⟩:∃wl:World,wl=wr:=⟨_,rfl⟩;have qb:(q:Int)<1000000:=Ac HB;by_cases hle:q<b
     ·have hzq:(q:Int)<(b:Int):=by omega
      have hd:decide (q<b)=true:=decide_eq_true hle;obtain ⟨y,hy⟩:∃y,y=q - 1:=⟨_,rfl⟩;have ey:(q:Int) - 1=(y:Int):=Ac HR;have g1:(q:Int)<(n:Int):=Ac HB;have l1:=hrb.cell (t:=q) (Ad HB HR);have l2:=hrb.cell (t:=y) (Ad HB HR);obtain ⟨vi,LJ⟩:∃v,dk[q]! = v:=⟨_,rfl⟩;obtain ⟨va,hva⟩:∃v,dk[y]! = v:=⟨_,rfl⟩;rw [LJ] at l1;rw [hva] at l2;obtain ⟨t,ht⟩:=AU (ltInt vi va)
      have hnx:I=if t=false then scanSorted ltInt dk b (q+1) else q:=by
       rw [<-hq,scanSorted,decide_eq_true hle,Bool.true_and,<-hy,LJ,hva,ht]
       cases t<;>rfl
      have ND:=AX (show ∀w,Calls Tryz.prog 189 #[.int .u32 vi,.int .u32 va] w λe w'=>e=.returned (.bool t)/\w'=w from λw=>by have:=JA vi va w;rw [ht] at this;exact this);have HI:=Au hm h1 h2 hle;have HR1:=AX hrb;have DJ:=AX hu;have Qb:=AX hnx;clear hm h1 h2 hq hrb hu hle LJ hva ht hnx hy
      cases t
      ·have hn:=Qb.out;rw [if_pos rfl] at hn;have X0:=AX hn.symm;clear hn;go_wp2_with fail
       go_quiet (first | (go_at_call 189;refine Calls.quiet_of_same (ND.out _)))
       go_wp2_with fail
       go_roundg (b - (q+1))
       case measure=>have:=HI.out;omega
       case rel=>exact ⟨q+1,rfl,by go_num,Ac HI,Ac HI,X0.out,HR1.out.drewN _,DJ.out.drewN _⟩
      ·have hn:=Qb.out;rw [if_neg (by decide)] at hn;have X0:=AX hn.symm;clear hn;go_wp2_with fail
       go_quiet (first | (go_at_call 189;refine Calls.quiet_of_same (ND.out _)))
       go_wp2_with fail
       go_meet
       case rel=>exact ⟨by rw [<-X0.out],HR1.out.drewN _,DJ.out.drewN _⟩
     ·have hd:decide (q<b)=false:=decide_eq_false hle
      have hnx:q=I:=by
       rw [<-hq,scanSorted,decide_eq_false hle,Bool.false_and];rfl
      have X0:=AX hnx;have HR1:=AX hrb;have DJ:=AX hu;clear hm h1 h2 hq hrb hu hle hnx;go_wp2_with fail
      go_quiet (fail)
      go_wp2_with fail
      go_meet
      case rel=>exact ⟨by rw [<-X0.out],HR1.out.drewN _,DJ.out.drewN _⟩
   case rest=>
    obtain ⟨rfl,hrb,hu⟩:=hcut;clear Cj HU QI;have Cj:=AX hrb;have HU:=AX hu;clear hrb hu;have Ib:(I:Int)<1000000:=Ad HB Gv;by_cases hIb:I=b
    ·have hq1:((I:Int)==(b:Int))=true:=by rw [beq_iff_eq];omega
     have he:=HE.out;rw [if_pos hIb] at he;have HE2:=AX he;have hq2:(I:Int)=(b:Int):=by omega
     clear he hIb HE;go_wp2_with fail
     go_ret
     exact ⟨by rw [<-HE2.out];rfl,by rw [<-HE2.out];exact Cj.out,HU.out⟩
    ·have hq1:((I:Int)==(b:Int))=false:=by rw [beq_eq_false_iff_ne];omega
     have he:=HE.out;rw [if_neg hIb] at he;have a1A:I<b:=Ac Gv;by_cases h50:b - a<50
     ·have hz5:(b:Int) - (a:Int)<50:=by omega
      rw [if_pos h50] at he;have HE2:=AX he;clear he hIb HE h50 a1A;go_wp2_with fail
      go_ret
      exact ⟨by rw [<-HE2.out];rfl,by rw [<-HE2.out];exact Cj.out,HU.out⟩
     ·have hz5:¬(b:Int) - (a:Int)<50:=by omega
      rw [if_neg h50] at he;obtain ⟨y,hy⟩:∃y,y=I - 1:=⟨_,rfl⟩;have ey:(I:Int) - 1=(y:Int):=Ad HR Gv;obtain ⟨D2,hD2⟩:∃D,swp dk I y=D:=⟨_,rfl⟩;have hs2:D2.size=n:=by rw [<-hD2,size_swp];exact HR.2.2.2.1
      rw [<-hy,hD2] at he;obtain ⟨DA,hDA⟩:∃D,fixDown ltInt a I D2=D:=⟨_,rfl⟩
      have hsA:DA.size=n:=by
       rw [<-hDA];unfold fixDown;split
       ·rw [LM];exact hs2
       ·exact hs2
      rw [hDA] at he;unfold fixDown at hDA;rw [<-hy] at hDA;obtain ⟨x,hx⟩:∃x,x=I+1:=⟨_,rfl⟩;have ex:(I:Int)+1=(x:Int):=by omega
      obtain ⟨DB,hDB⟩:∃D,fixUp ltInt b I DA=D:=⟨_,rfl⟩
      have hsB:DB.size=n:=by
       rw [<-hDB];unfold fixUp;split
       ·rw [WX ltInt b _ _ _ (Nat.le_refl _)];exact hsA
       ·exact hsA
      rw [hDB] at he;unfold fixUp at hDB;rw [<-hx] at hDB;have HE2:=AX he;have HX:=Aq hy hx a1A;have HD2:=Ap hD2 hs2;have HDA:=Ap hDA hsA;have HDB:=Ap hDB hsB;obtain ⟨gI,hgI⟩:∃g,g=I - a:=⟨_,rfl⟩;obtain ⟨gB,hgB⟩:∃g,g=b - I:=⟨_,rfl⟩;have e7:(I:Int) - (a:Int)=(gI:Int):=Ad HR Gv;have e8:(b:Int) - (I:Int)=(gB:Int):=by omega
      have HG:=Ap hgI hgB;have I1:(I:Int)<(n:Int):=Ac HB;have aI:(a:Int)<(I:Int):=Ad HR Gv;have a8x:(I:Int)<(b:Int):=by omega
      clear he hIb HE h50 a1A hy hx hD2 hs2 hDA hsA hDB hsB hgI hgB;go_wp2_with fail
      have l1:=Cj.out.cell (t:=I) (Af HB HR Gv HX);have l2:=Cj.out.cell (t:=y) (Af HB HR Gv HX);have f1:=Cj.out.frozen I;have f2:=Cj.out.frozen y;obtain ⟨vp,hvp⟩:∃u,dk[I]! = u:=⟨_,rfl⟩;obtain ⟨vq,hvq⟩:∃u,dk[y]! = u:=⟨_,rfl⟩;have l3:=(Cj.out.set (t:=I) (Af HB HR Gv HX) vq).cell (t:=y) (by rw [Array.size_setIfInBounds];have hb:=HB.out;have hr:=HR.out;have hg:=Gv.out;have hx:=HX.out;omega);obtain ⟨v3,hv3⟩:∃u,(dk.setIfInBounds I vq)[y]! = u:=⟨_,rfl⟩;have HS:=Ap (Cj.out.swp (i:=I) (j:=y) (Af HB HR Gv HX) (Af HB HR Gv HX)) (HU.out.swp (p:=p) (.inl (by simp)) I y (.int .u32 dk[y]!) (.int .u32 dk[I]!));rw [hvp,hvq] at HS;rw [hvp] at l1;rw [hvq] at l2;rw [hv3] at l3;clear hvp hvq hv3 Cj HU;go_region
      generalize (wc.setCell ⟨p,I,none⟩ (.int .u32 vq)).setCell ⟨p,y,none⟩ (.int .u32 vp)=W1 at HS |-;have Cj:=AX (HS.1.drew);have HU:=AX (HS.2.drew);clear HS l1 l2 l3 f1 f2;rw [HD2.1] at Cj;clear hz5 hz ib hq1;go_upto_if 61 with fail
      go_cut [] (λwr=>RB wr p DA rest et/\Bj [p] w wr)
      case first=>
       have hdi:(2:Int)<=(gI:Int)↔2<=I - a:=Ac HG;by_cases h2:2<=I - a
       ·have hz2:(2:Int)<=(gI:Int):=hdi.2 h2;have hda:=HDA.1;rw [if_pos h2] at hda;have WY:=AX hda;have yb:(y:Int)<1000000:=Ac HX;clear h2 hdi hda;simp only [hz2,decide_true];go_wp2_with fail
        go_loopg [9] y (λm s9 wr=>∃(q:Nat) (dj:Array Int),m=q/\s9=.int .i64 (q:Int)/\q<=y/\dj.size=n/\RB wr p dj rest et/\Bj [p] w wr/\shiftDown ltInt q dj=DA)
        case atStart=>exact ⟨y,D2,rfl,rfl,Nat.le_refl _,HD2.2,Cj.out,HU.out,WY.out⟩
        case round=>
         obtain ⟨q,dj,hm,rfl,hqy,hdj,hrb,hu,heq⟩:=hrel;clear Cj HU;obtain ⟨W4,rfl⟩:∃W:World,W=wr:=⟨_,rfl⟩;have Cj:=AX hrb;have HU:=AX hu;have qb:(q:Int)<1000000:=by omega
         by_cases hq0:q=0
         ·have hz3:¬(1:Int)<=(q:Int):=by omega
          subst hq0;have HZ:=AX (show dj=DA from heq);have pV:¬(1:Int)<=0:=by decide
          clear hm hqy hdj hrb hu heq hz3;go_wp2_with fail
          go_meet
          case rel=>exact ⟨by rw [<-HZ.out];exact Cj.out,HU.out⟩
         ·obtain ⟨r,hr⟩:∃r,q=r+1:=⟨q - 1,by omega⟩;have hz3:(1:Int)<=(q:Int):=by omega
          have er:(q:Int) - 1=(r:Int):=by omega
          have g1:(q:Int)<(n:Int):=Ag HB HX Gv;have l1:=hrb.cell (t:=q) (Ag HB HX Gv);have l2:=hrb.cell (t:=r) (Ag HB HX Gv);obtain ⟨vi,LJ⟩:∃v,dj[q]! = v:=⟨_,rfl⟩;obtain ⟨va,hva⟩:∃v,dj[r]! = v:=⟨_,rfl⟩;rw [LJ] at l1;rw [hva] at l2;obtain ⟨t,ht⟩:=AU (ltInt vi va);rw [hr,shiftDown,<-hr,LJ,hva,ht] at heq;have ND:=AX (show ∀w,Calls Tryz.prog 189 #[.int .u32 vi,.int .u32 va] w λe w'=>e=.returned (.bool t)/\w'=w from λw=>by have:=JA vi va w;rw [ht] at this;exact this);have HI:=Au hm hqy hdj hr;have Qb:=AX heq;clear hm hqy hdj hrb hu heq LJ hva ht hq0 hr
          cases t
          ·have X0:=AX (show dj=DA from by have:=Qb.out;rw [if_pos (by rfl)] at this;exact this);go_wp2_with fail
           go_quiet (first | (go_at_call 189;refine Calls.quiet_of_same (ND.out _)))
           go_wp2_with fail
           go_meet
           case rel=>exact ⟨by rw [<-X0.out];exact Cj.out.drewN _,HU.out.drewN _⟩
          ·have X0:=AX (show shiftDown ltInt r (swp dj q r)=DA from by have:=Qb.out;rw [if_neg (by decide)] at this;exact this);go_wp2_with fail
           go_quiet (first | (go_at_call 189;refine Calls.quiet_of_same (ND.out _)))
           go_wp2_with fail
           have ZO:=AX (Cj.out.drewN nq);have HU':=AX (HU.out.drewN nq);clear Cj HU l1 l2;generalize W4.drewN nq=W5 at ZO HU' |-;have Cj:=ZO;have HU:=HU';clear ZO HU';have l1:=Cj.out.cell (t:=q) (Af HB Gv HX HI);have l2:=Cj.out.cell (t:=r) (Af HB Gv HX HI);have f1:=Cj.out.frozen q;have f2:=Cj.out.frozen r;obtain ⟨vp,hvp⟩:∃u,dj[q]! = u:=⟨_,rfl⟩;obtain ⟨vq,hvq⟩:∃u,dj[r]! = u:=⟨_,rfl⟩;have l3:=(Cj.out.set (t:=q) (Af HB Gv HX HI) vq).cell (t:=r) (by rw [Array.size_setIfInBounds];have hb:=HB.out;have hg:=Gv.out;have hx:=HX.out;have hi:=HI.out;omega);obtain ⟨v3,hv3⟩:∃u,(dj.setIfInBounds q vq)[r]! = u:=⟨_,rfl⟩;have HS:=Ap (Cj.out.swp (i:=q) (j:=r) (Af HB Gv HX HI) (Af HB Gv HX HI)) (HU.out.swp (p:=p) (.inl (by simp)) q r (.int .u32 dj[r]!) (.int .u32 dj[q]!));rw [hvp,hvq] at HS;rw [hvp] at l1;rw [hvq] at l2;rw [hv3] at l3;clear hvp hvq hv3 Cj HU;go_region
           generalize (W5.setCell ⟨p,q,none⟩ (.int .u32 vq)).setCell ⟨p,r,none⟩ (.int .u32 vp)=W1 at HS |-;have Cj:=AX (HS.1.drew);have HU:=AX (HS.2.drew);clear HS l1 l2 l3 f1 f2;go_wp2_with fail
           go_roundg r
           case measure=>have:=HI.out;omega
           case rel=>exact ⟨r,_,rfl,rfl,Ac HI,by rw [size_swp];exact HI.2.2.1,Cj.out,HU.out,X0.out⟩
       ·have hz2:¬(2:Int)<=(gI:Int):=λh=>h2 (hdi.1 h)
        have hda:=HDA.1;rw [if_neg h2] at hda;have WY:=AX hda;clear h2 hdi hda;simp only [hz2,decide_false];go_wp2_with fail
        go_meet
        case rel=>exact ⟨by rw [<-WY.out];exact Cj.out,HU.out⟩
      case rest=>
       obtain ⟨hrb,hu⟩:=hcut;clear Cj HU;have Cj:=AX hrb;have HU:=AX hu;clear hrb hu;go_upto_if 98 with fail
       have hdi:(2:Int)<=(gB:Int)↔2<=b - I:=Ac HG;by_cases h2:2<=b - I
       ·have hz2:(2:Int)<=(gB:Int):=hdi.2 h2;have hda:=HDB.1;rw [if_pos h2] at hda;have WY:=AX hda;clear h2 hdi hda;simp only [hz2,decide_true];go_wp2_with fail
        go_loopg [10] (b - x) (λm s10 wr=>∃(q:Nat) (dj:Array Int),m=b - q/\s10=.int .i64 (q:Int)/\x<=q/\q<=b/\dj.size=n/\RB wr p dj rest et/\Bj [p] w wr/\shiftUp ltInt b q dj=DB)
        case atStart=>exact ⟨x,DA,rfl,rfl,Nat.le_refl _,Ac HX,HDA.2,Cj.out,HU.out,WY.out⟩
        case round=>
         obtain ⟨q,dj,hm,rfl,hxq,PO,hdj,hrb,hu,heq⟩:=hrel;clear Cj HU;obtain ⟨W4,rfl⟩:∃W:World,W=wr:=⟨_,rfl⟩;have Cj:=AX hrb;have HU:=AX hu;have qb:(q:Int)<1000000:=Ac HB;by_cases hq0:q<b
         ·obtain ⟨r,hr⟩:∃r,r=q - 1:=⟨_,rfl⟩;have hz3:(q:Int)<(b:Int):=by omega
          have er:(q:Int) - 1=(r:Int):=Ac HX;have g1:(q:Int)<(n:Int):=Ac HB;have l1:=hrb.cell (t:=q) (Ac HB);have l2:=hrb.cell (t:=r) (Ac HB);obtain ⟨vi,LJ⟩:∃v,dj[q]! = v:=⟨_,rfl⟩;obtain ⟨va,hva⟩:∃v,dj[r]! = v:=⟨_,rfl⟩;rw [LJ] at l1;rw [hva] at l2;obtain ⟨t,ht⟩:=AU (ltInt vi va);rw [shiftUp,if_pos hq0,<-hr,LJ,hva,ht] at heq;have ND:=AX (show ∀w,Calls Tryz.prog 189 #[.int .u32 vi,.int .u32 va] w λe w'=>e=.returned (.bool t)/\w'=w from λw=>by have:=JA vi va w;rw [ht] at this;exact this);have HI:=Aw hm hxq hq0 hdj hr;have Qb:=AX heq;clear hm hxq PO hdj hrb hu heq LJ hva ht hq0 hr
          cases t
          ·have X0:=AX (show dj=DB from by have:=Qb.out;rw [if_pos (by rfl)] at this;exact this);go_wp2_with fail
           go_quiet (first | (go_at_call 189;refine Calls.quiet_of_same (ND.out _)))
           go_wp2_with fail
           go_roundg s
           case measure=>have:=HR.out;omega
           case rel=>exact ⟨I,k+1,DB,Ac HR,rfl,by go_num,Ad HR Gv,Ac Gv,HDB.2,by rw [<-X0.out];exact Cj.out.drewN _,HU.out.drewN _,HE2.out⟩
          ·have X0:=AX (show shiftUp ltInt b (q+1) (swp dj q r)=DB from by have:=Qb.out;rw [if_neg (by decide)] at this;exact this);go_wp2_with fail
           go_quiet (first | (go_at_call 189;refine Calls.quiet_of_same (ND.out _)))
           go_wp2_with fail
           have ZO:=AX (Cj.out.drewN nq);have HU':=AX (HU.out.drewN nq);clear Cj HU l1 l2;generalize W4.drewN nq=W5 at ZO HU' |-;have Cj:=ZO;have HU:=HU';clear ZO HU';have l1:=Cj.out.cell (t:=q) (Af HB Gv HX HI);have l2:=Cj.out.cell (t:=r) (Af HB Gv HX HI);have f1:=Cj.out.frozen q;have f2:=Cj.out.frozen r;obtain ⟨vp,hvp⟩:∃u,dj[q]! = u:=⟨_,rfl⟩;obtain ⟨vq,hvq⟩:∃u,dj[r]! = u:=⟨_,rfl⟩;have l3:=(Cj.out.set (t:=q) (Af HB Gv HX HI) vq).cell (t:=r) (by rw [Array.size_setIfInBounds];have hb:=HB.out;have hg:=Gv.out;have hx:=HX.out;have hi:=HI.out;omega);obtain ⟨v3,hv3⟩:∃u,(dj.setIfInBounds q vq)[r]! = u:=⟨_,rfl⟩;have HS:=Ap (Cj.out.swp (i:=q) (j:=r) (Af HB Gv HX HI) (Af HB Gv HX HI)) (HU.out.swp (p:=p) (.inl (by simp)) q r (.int .u32 dj[r]!) (.int .u32 dj[q]!));rw [hvp,hvq] at HS;rw [hvp] at l1;rw [hvq] at l2;rw [hv3] at l3;clear hvp hvq hv3 Cj HU;go_region
           generalize (W5.setCell ⟨p,q,none⟩ (.int .u32 vq)).setCell ⟨p,r,none⟩ (.int .u32 vp)=W1 at HS |-;have Cj:=AX (HS.1.drew);have HU:=AX (HS.2.drew);clear HS l1 l2 l3 f1 f2;go_wp2_with fail
           go_roundg (b - (q+1))
           case measure=>have:=HI.out;omega
           case rel=>exact ⟨q+1,_,rfl,by go_num,Ac HI,Ac HI,by rw [size_swp];exact HI.2.2.2.1,Cj.out,HU.out,X0.out⟩
         ·have hz3:¬(q:Int)<(b:Int):=by omega
          rw [shiftUp,if_neg hq0] at heq;have HZ:=AX (show dj=DB from heq);clear hm hxq PO hdj hrb hu heq hq0;go_wp2_with fail
          go_roundg s
          case measure=>have:=HR.out;omega
          case rel=>exact ⟨I,k+1,DB,Ac HR,rfl,by go_num,Ad HR Gv,Ac Gv,HDB.2,by rw [<-HZ.out];exact Cj.out,HU.out,HE2.out⟩
       ·have hz2:¬(2:Int)<=(gB:Int):=λh=>h2 (hdi.1 h)
        have hda:=HDB.1;rw [if_neg h2] at hda;have WY:=AX hda;clear h2 hdi hda;simp only [hz2,decide_false];go_wp2_with fail
        go_roundg s
        case measure=>have:=HR.out;omega
        case rel=>exact ⟨I,k+1,DB,Ac HR,rfl,by go_num,Ad HR Gv,Ac Gv,HDB.2,by rw [<-WY.out];exact Cj.out,HU.out,HE2.out⟩
