/- slices.Sort of names: the partitions. The library's own text is walked. slices.Sort of names: the partition of equals. The library's own text is walked. slices.Sort of names: the partial insertion sort. The library's own text is walked. -/
import Derived.Deep.DeepCutAuto
import Derived.Deep.CutBlock
import Derived.Test.YtkbaaonchdeneaaGreatPkSpansTellP3
set_option maxHeartbeats 16000000
set_option maxRecDepth 100000
namespace Go.Proofs.YtkbaaonchdeneaaGreat
open Go.RowKit Go.Sort
theorem scan_lt (f g:Int→Bool) (hfg:∀x,g x = !f x) (D:Array Int) {i j I J:Nat} (hI:scanUp f D j i=I) (hJ:scanDown g D I j=J) (hi:0<i) (h:I≤J):I<J:=by
 obtain ⟨a1,_,_,a4⟩:=scanUp_spec f D j _ i rfl
 obtain ⟨b1,_,_,b4⟩:=scanDown_spec g D I j
 rw [hI] at a1 a4
 rw [hJ] at b1 b4
 rcases Nat.lt_or_ge I J with h1 | h1
 ·exact h1
 ·have e:I=J:=by omega
  have h2:=a4 (by omega)
  have h3:=b4 h (by omega)
  rw [hfg,←e,h2] at h3
  cases h3
theorem partU (p C a b v:Nat) (d:Array Int) (rest:List Value) (et:TypeId) (w:World) (h:RB w p d rest et) (hav:a≤v) (hvb:v<b) (hb:b≤d.size) (hsz:d.size<1000000) :
 Calls Tryz.prog 191 #[.slice (some ⟨p,0,none⟩) d.size C,.int .i64 (a:Int),.int .i64 (b:Int),.int .i64 (v:Int)] w fun e w'=>
  ∃bo,e=.returned (.tuple #[.int .i64 ((partition ltInt d a b v).1:Int),.bool bo])∧RB w' p (partition ltInt d a b v).2.2 rest et∧Upd [p] w w':=by
 rw [partition_fst,partition_arr]
 obtain ⟨n,hn⟩:∃n,d.size=n:=⟨_,rfl⟩
 obtain ⟨D1,hD1⟩:∃D,swp d a v=D:=⟨_,rfl⟩
 have hs1:D1.size=n:=by rw [←hD1,size_swp];exact hn
 obtain ⟨i0,hi0⟩:∃i,i=a+1:=⟨_,rfl⟩
 obtain ⟨j0,hj0⟩:∃j,j=b - 1:=⟨_,rfl⟩
 rw [hD1,←hi0,←hj0]
 obtain ⟨PL,hPL⟩:∃P,partLoop ltInt a i0 j0 D1=P:=⟨_,rfl⟩
 rw [hPL]
 rw [hn] at hb hsz ⊢
 have n0:(n:Int)<1000000:=by omega
 have a0:(a:Int)<(n:Int):=by omega
 have v0:(v:Int)<(n:Int):=by omega
 have b0:(b:Int)<1000000:=by omega
 have e1:(a:Int)+1=(i0:Int):=by omega
 have e2:(b:Int) - 1=(j0:Int):=by omega
 have HN:=Lib.hid hn
 have HRB:=Lib.hid h
 have HU:=Lib.hid (Upd.refl [p] w)
 have HB:=Lib.hid (And.intro hav (And.intro hvb (And.intro hb (And.intro hi0 (And.intro hj0 hsz)))))
 have HD1:=Lib.hid hD1
 have HS1:=Lib.hid hs1
 have HPL:=Lib.hid hPL
 clear h hav hvb hb hsz hn hD1 hs1 hi0 hj0 hPL
 go_enter Tryz.func191,Tryz.ntmps191
 go_wp2_with fail
 have l1:=HRB.out.cell (t:=a) (by have hb:=HB.out;have hn:=HN.out;omega)
 have l2:=HRB.out.cell (t:=v) (by have hb:=HB.out;have hn:=HN.out;omega)
 have f1:=HRB.out.frozen a
 have f2:=HRB.out.frozen v
 obtain ⟨vp,hvp⟩:∃u,d[a]! = u:=⟨_,rfl⟩
 obtain ⟨vq,hvq⟩:∃u,d[v]! = u:=⟨_,rfl⟩
 have l3:=(HRB.out.set (t:=a) (by have hb:=HB.out;have hn:=HN.out;omega) vq).cell (t:=v) (by rw [Array.size_setIfInBounds];have hb:=HB.out;have hn:=HN.out;omega)
 obtain ⟨v3,hv3⟩:∃u,(d.setIfInBounds a vq)[v]! = u:=⟨_,rfl⟩
 have HS:=Lib.hid (And.intro (HRB.out.swp (i:=a) (j:=v) (by have hb:=HB.out;have hn:=HN.out;omega) (by have hb:=HB.out;have hn:=HN.out;omega)) (HU.out.swp (p:=p) (.inl (by simp)) a v (.int .u32 d[v]!) (.int .u32 d[a]!)))
 rw [hvp,hvq] at HS
 rw [hvp] at l1
 rw [hvq] at l2
 rw [hv3] at l3
 clear hvp hvq hv3 HRB HU
 go_region
 generalize (w.setCell ⟨p,a,none⟩ (.int .u32 vq)).setCell ⟨p,v,none⟩ (.int .u32 vp)=W1 at HS ⊢
 have HRB:=Lib.hid (HS.out.1.drew)
 have HU:=Lib.hid (HS.out.2.drew)
 clear HS l1 l2 l3 f1 f2
 rw [HD1.out] at HRB
 go_upto_block 0 with fail
 obtain ⟨I,hI⟩:∃I,scanUp (fun x=>ltInt x D1[a]!) D1 j0 i0=I:=⟨_,rfl⟩
 have gI:=scanUp_spec (fun x=>ltInt x D1[a]!) D1 j0 _ i0 rfl
 rw [hI] at gI
 have HGI:=Lib.hid (And.intro gI.1 (gI.2.1 (by have hb:=HB.out;have hn:=HN.out;have hs1:=HS1.out;omega)))
 have HQQ:=Lib.hid hI
 have HQI:=Lib.hid hI
 clear gI hI
 go_cut [10] (fun s wr=>s=.int .i64 (I:Int)∧RB wr p D1 rest et∧Upd [p] w wr)
 case first=>
  go_wp2_with fail
  go_loopg [10] (j0+1 - i0) (fun m s wr=>∃i:Nat,m=j0+1 - i∧s=.int .i64 (i:Int)∧i0≤i∧i≤j0+1∧scanUp (fun x=>ltInt x D1[a]!) D1 j0 i=I∧RB wr p D1 rest et∧Upd [p] w wr)
  case atStart=>exact ⟨i0,rfl,rfl,Nat.le_refl _,(by have hb:=HB.out;have hn:=HN.out;have hs1:=HS1.out;omega),HQQ.out,HRB.out,HU.out⟩
  case round=>
   obtain ⟨i,hm,rfl,h1,h2,hq,hrb,hu⟩:=hrel
   obtain ⟨wl,rfl⟩:∃wl:World,wl=wr:=⟨_,rfl⟩
   have ib:(i:Int)<1000000:=by have hb:=HB.out;have hn:=HN.out;have hs1:=HS1.out;omega
   by_cases hle:i≤j0
   ·have hz:(i:Int)≤(j0:Int):=by omega
    have hd:decide (i≤j0)=true:=decide_eq_true hle
    have g1:(i:Int)<(n:Int):=by have hb:=HB.out;have hn:=HN.out;have hs1:=HS1.out;omega
    have l1:=hrb.cell (t:=i) (by have hb:=HB.out;have hn:=HN.out;have hs1:=HS1.out;omega)
    have l2:=hrb.cell (t:=a) (by have hb:=HB.out;have hn:=HN.out;have hs1:=HS1.out;omega)
    obtain ⟨vi,hvi⟩:∃v,D1[i]! = v:=⟨_,rfl⟩
    obtain ⟨va,hva⟩:∃v,D1[a]! = v:=⟨_,rfl⟩
    rw [hvi] at l1
    rw [hva] at l2
    obtain ⟨t,ht⟩:∃t,ltInt vi va=t:=⟨_,rfl⟩
    have hnx:I=if t=true then scanUp (fun x=>ltInt x D1[a]!) D1 j0 (i+1) else i:=by
     rw [←hq,scanUp,decide_eq_true hle,Bool.true_and]
     show (if (ltInt D1[i]! D1[a]!)=true then _ else _)=_
     rw [hvi,hva,ht]
    have HLX:=Lib.hid (show ∀w,Calls Tryz.prog 189 #[.int .u32 vi,.int .u32 va] w fun e w'=>e=.returned (.bool t)∧w'=w from fun w=>by have:=lessU vi va w;rw [ht] at this;exact this)
    have HI:=Lib.hid (And.intro hm (And.intro h1 (And.intro h2 trivial)))
    have HR1:=Lib.hid hrb
    have HU1:=Lib.hid hu
    have HN0:=Lib.hid hnx
    clear hm h1 h2 hq hrb hu hle hvi hva ht hnx
    cases t
    ·have hn:=HN0.out
     rw [if_neg (by decide)] at hn
     have HN:=Lib.hid hn.symm
     clear hn
     go_wp2_with fail
     go_quiet (first | (go_at_call 189;refine Calls.quiet_of_same (HLX.out _)))
     go_wp2_with fail
     go_meet
     case rel=>exact ⟨by rw [←HN.out],HR1.out.drewN _,HU1.out.drewN _⟩
    ·have hn:=HN0.out
     rw [if_pos rfl] at hn
     have HN:=Lib.hid hn.symm
     clear hn
     go_wp2_with fail
     go_quiet (first | (go_at_call 189;refine Calls.quiet_of_same (HLX.out _)))
     go_wp2_with fail
     go_roundg (j0+1 - (i+1))
     case measure=>have:=HI.out;omega
     case rel=>exact ⟨i+1,rfl,by go_num,by have:=HI.out;omega,by have:=HI.out;omega,HN.out,HR1.out.drewN _,HU1.out.drewN _⟩
   ·have hd:decide (i≤j0)=false:=decide_eq_false hle
    have hnx:i=I:=by
     rw [←hq]
     rw [scanUp,decide_eq_false hle,Bool.false_and];rfl
    have HN:=Lib.hid hnx
    have HR1:=Lib.hid hrb
    have HU1:=Lib.hid hu
    clear hm h1 h2 hq hrb hu hle hnx
    go_wp2_with fail
    go_quiet (fail)
    go_wp2_with fail
    go_meet
    case rel=>exact ⟨by rw [←HN.out],HR1.out.drewN _,HU1.out.drewN _⟩
 case rest=>
  obtain ⟨rfl,hrb,hu⟩:=hcut
  clear HRB HU
  have HRB:=Lib.hid hrb
  have HU:=Lib.hid hu
  clear hrb hu
  clear HQQ
  obtain ⟨J,hJ⟩:∃J,scanDown (fun x=>!ltInt x D1[a]!) D1 I j0=J:=⟨_,rfl⟩
  have gJ:=scanDown_spec (fun x=>!ltInt x D1[a]!) D1 I j0
  rw [hJ] at gJ
  have HGJ:=Lib.hid (And.intro gJ.1 (gJ.2.1 (by have:=HGI.out;omega)))
  have HQQ:=Lib.hid hJ
  clear gJ hJ
  have i1:(I:Int)<1000000:=by have hb:=HB.out;have hn:=HN.out;have hs1:=HS1.out;have:=HGI.out;omega
  have j1:(j0:Int)<1000000:=by have hb:=HB.out;have hn:=HN.out;have hs1:=HS1.out;omega
  go_upto_block 2 with fail
  go_cut [11] (fun s wr=>s=.int .i64 (J:Int)∧RB wr p D1 rest et∧Upd [p] w wr)
  case first=>
   go_wp2_with fail
   go_loopg [11] (j0) (fun m s wr=>∃i:Nat,m=i∧s=.int .i64 (i:Int)∧i≤j0∧I≤i+1∧scanDown (fun x=>!ltInt x D1[a]!) D1 I i=J∧RB wr p D1 rest et∧Upd [p] w wr)
   case atStart=>exact ⟨j0,rfl,rfl,Nat.le_refl _,(by have hb:=HB.out;have hn:=HN.out;have hs1:=HS1.out;have gi:=HGI.out;omega),HQQ.out,HRB.out,HU.out⟩
   case round=>
    obtain ⟨i,hm,rfl,h1,h2,hq,hrb,hu⟩:=hrel
    obtain ⟨wl,rfl⟩:∃wl:World,wl=wr:=⟨_,rfl⟩
    have ib:(i:Int)<1000000:=by have hb:=HB.out;have hn:=HN.out;have hs1:=HS1.out;have gi:=HGI.out;omega
    by_cases hle:I≤i
    ·have hz:(I:Int)≤(i:Int):=by omega
     have hd:decide (I≤i)=true:=decide_eq_true hle
     have g1:(i:Int)<(n:Int):=by have hb:=HB.out;have hn:=HN.out;have hs1:=HS1.out;have gi:=HGI.out;omega
     have l1:=hrb.cell (t:=i) (by have hb:=HB.out;have hn:=HN.out;have hs1:=HS1.out;have gi:=HGI.out;omega)
     have l2:=hrb.cell (t:=a) (by have hb:=HB.out;have hn:=HN.out;have hs1:=HS1.out;have gi:=HGI.out;omega)
     obtain ⟨vi,hvi⟩:∃v,D1[i]! = v:=⟨_,rfl⟩
     obtain ⟨va,hva⟩:∃v,D1[a]! = v:=⟨_,rfl⟩
     rw [hvi] at l1
     rw [hva] at l2
     obtain ⟨t,ht⟩:∃t,ltInt vi va=t:=⟨_,rfl⟩
     obtain ⟨k,hk⟩:∃k,i=k+1:=⟨i - 1,by have hb:=HB.out;have hn:=HN.out;have hs1:=HS1.out;have gi:=HGI.out;omega⟩
     have hnx:J=if t=false then scanDown (fun x=>!ltInt x D1[a]!) D1 I k else i:=by
      rw [←hq,hk,scanDown,←hk,decide_eq_true hle,Bool.true_and]
      show (if (!ltInt D1[i]! D1[a]!)=true then _ else _)=_
      rw [hvi,hva,ht]
      cases t<;>rfl
     have hkz:(i:Int) - 1=(k:Int):=by omega
     have HLX:=Lib.hid (show ∀w,Calls Tryz.prog 189 #[.int .u32 vi,.int .u32 va] w fun e w'=>e=.returned (.bool t)∧w'=w from fun w=>by have:=lessU vi va w;rw [ht] at this;exact this)
     have HI:=Lib.hid (And.intro hm (And.intro h1 (And.intro h2 hk)))
     have HR1:=Lib.hid hrb
     have HU1:=Lib.hid hu
     have HN0:=Lib.hid hnx
     clear hm h1 h2 hq hrb hu hle hvi hva ht hnx hk
     cases t
     ·have hn:=HN0.out
      rw [if_pos rfl] at hn
      have HN:=Lib.hid hn.symm
      clear hn
      go_wp2_with fail
      go_quiet (first | (go_at_call 189;refine Calls.quiet_of_same (HLX.out _)))
      go_wp2_with fail
      go_roundg k
      case measure=>have:=HI.out;omega
      case rel=>exact ⟨k,rfl,by have:=HI.out;go_num,by have:=HI.out;omega,by have:=HI.out;omega,HN.out,HR1.out.drewN _,HU1.out.drewN _⟩
     ·have hn:=HN0.out
      rw [if_neg (by decide)] at hn
      have HN:=Lib.hid hn.symm
      clear hn
      go_wp2_with fail
      go_quiet (first | (go_at_call 189;refine Calls.quiet_of_same (HLX.out _)))
      go_wp2_with fail
      go_meet
      case rel=>exact ⟨by rw [←HN.out],HR1.out.drewN _,HU1.out.drewN _⟩
    ·have hd:decide (I≤i)=false:=decide_eq_false hle
     have hnx:i=J:=by
      rw [←hq]
      cases hi0:i with
      |zero=>rfl
      |succ k=>rw [hi0] at hle;rw [scanDown,decide_eq_false hle,Bool.false_and];rfl
     have HN:=Lib.hid hnx
     have HR1:=Lib.hid hrb
     have HU1:=Lib.hid hu
     clear hm h1 h2 hq hrb hu hle hnx
     go_wp2_with fail
     go_quiet (fail)
     go_wp2_with fail
     go_meet
     case rel=>exact ⟨by rw [←HN.out],HR1.out.drewN _,HU1.out.drewN _⟩
  case rest=>
   obtain ⟨rfl,hrb,hu⟩:=hcut
   clear HRB HU
   have HRB:=Lib.hid hrb
   have HU:=Lib.hid hu
   clear hrb hu
   have j2:(J:Int)<1000000:=by have hb:=HB.out;have hn:=HN.out;have hs1:=HS1.out;have:=HGJ.out;omega
   have HQ2:=HQQ
   clear HQQ
   by_cases hgt:J<I
   ·have hz:(J:Int)<(I:Int):=by omega
    have hpl:PL=(J,D1):=by
     rw [←HPL.out,partLoop_eq,HQI.out,HQ2.out,if_pos hgt]
    have HE:=Lib.hid hpl
    have hJa:a≤J:=by have hb:=HB.out;have hn:=HN.out;have hs1:=HS1.out;have:=HGI.out;have:=HGJ.out;omega
    have HJA:=Lib.hid hJa
    have j3:(J:Int)<(n:Int):=by have hb:=HB.out;have hn:=HN.out;have hs1:=HS1.out;have:=HGJ.out;omega
    clear hgt hpl hJa
    go_wp2_with fail
    have l1:=HRB.out.cell (t:=J) (by have hb:=HB.out;have hn:=HN.out;have hs1:=HS1.out;have gi:=HGI.out;have gj:=HGJ.out;have:=HJA.out;omega)
    have l2:=HRB.out.cell (t:=a) (by have hb:=HB.out;have hn:=HN.out;have hs1:=HS1.out;have gi:=HGI.out;have gj:=HGJ.out;have:=HJA.out;omega)
    have f1:=HRB.out.frozen J
    have f2:=HRB.out.frozen a
    obtain ⟨vp,hvp⟩:∃u,D1[J]! = u:=⟨_,rfl⟩
    obtain ⟨vq,hvq⟩:∃u,D1[a]! = u:=⟨_,rfl⟩
    have l3:=(HRB.out.set (t:=J) (by have hb:=HB.out;have hn:=HN.out;have hs1:=HS1.out;have gi:=HGI.out;have gj:=HGJ.out;have:=HJA.out;omega) vq).cell (t:=a) (by rw [Array.size_setIfInBounds];have hb:=HB.out;have hn:=HN.out;have hs1:=HS1.out;have gi:=HGI.out;have gj:=HGJ.out;have:=HJA.out;omega)
    obtain ⟨v3,hv3⟩:∃u,(D1.setIfInBounds J vq)[a]! = u:=⟨_,rfl⟩
    have HS:=Lib.hid (And.intro (HRB.out.swp (i:=J) (j:=a) (by have hb:=HB.out;have hn:=HN.out;have hs1:=HS1.out;have gi:=HGI.out;have gj:=HGJ.out;have:=HJA.out;omega) (by have hb:=HB.out;have hn:=HN.out;have hs1:=HS1.out;have gi:=HGI.out;have gj:=HGJ.out;have:=HJA.out;omega)) (HU.out.swp (p:=p) (.inl (by simp)) J a (.int .u32 D1[a]!) (.int .u32 D1[J]!)))
    rw [hvp,hvq] at HS
    rw [hvp] at l1
    rw [hvq] at l2
    rw [hv3] at l3
    clear hvp hvq hv3 HRB HU
    go_region
    generalize (wc.setCell ⟨p,J,none⟩ (.int .u32 vq)).setCell ⟨p,a,none⟩ (.int .u32 vp)=W1 at HS ⊢
    have HRB:=Lib.hid (HS.out.1.drew)
    have HU:=Lib.hid (HS.out.2.drew)
    clear HS l1 l2 l3 f1 f2
    go_wp2_with fail
    go_ret2
    refine ⟨true,by rw [HE.out];rfl,?_,HU.out⟩
    rw [HE.out]
    exact HRB.out
   ·have hz:¬(J:Int)<(I:Int):=by omega
    have HIJ:=Lib.hid (show I<J from scan_lt _ _ (fun _=>rfl) D1 HQI.out HQ2.out (by have hb:=HB.out;have hn:=HN.out;have hs1:=HS1.out;omega) (by omega))
    have hpl:partLoop ltInt a (I+1) (J - 1) (swp D1 I J)=PL:=by
     rw [←HPL.out];conv=>rhs;rw [partLoop_eq,HQI.out,HQ2.out,if_neg hgt]
    have HE:=Lib.hid hpl
    have i3:(I:Int)<(n:Int):=by have hb:=HB.out;have hn:=HN.out;have hs1:=HS1.out;have:=HGI.out;have:=HGJ.out;omega
    have j3:(J:Int)<(n:Int):=by have hb:=HB.out;have hn:=HN.out;have hs1:=HS1.out;have:=HGJ.out;omega
    clear hgt hpl
    go_wp2_with fail
    have l1:=HRB.out.cell (t:=I) (by have hb:=HB.out;have hn:=HN.out;have hs1:=HS1.out;have gi:=HGI.out;have gj:=HGJ.out;omega)
    have l2:=HRB.out.cell (t:=J) (by have hb:=HB.out;have hn:=HN.out;have hs1:=HS1.out;have gi:=HGI.out;have gj:=HGJ.out;omega)
    have f1:=HRB.out.frozen I
    have f2:=HRB.out.frozen J
    obtain ⟨vp,hvp⟩:∃u,D1[I]! = u:=⟨_,rfl⟩
    obtain ⟨vq,hvq⟩:∃u,D1[J]! = u:=⟨_,rfl⟩
    have l3:=(HRB.out.set (t:=I) (by have hb:=HB.out;have hn:=HN.out;have hs1:=HS1.out;have gi:=HGI.out;have gj:=HGJ.out;omega) vq).cell (t:=J) (by rw [Array.size_setIfInBounds];have hb:=HB.out;have hn:=HN.out;have hs1:=HS1.out;have gi:=HGI.out;have gj:=HGJ.out;omega)
    obtain ⟨v3,hv3⟩:∃u,(D1.setIfInBounds I vq)[J]! = u:=⟨_,rfl⟩
    have HS:=Lib.hid (And.intro (HRB.out.swp (i:=I) (j:=J) (by have hb:=HB.out;have hn:=HN.out;have hs1:=HS1.out;have gi:=HGI.out;have gj:=HGJ.out;omega) (by have hb:=HB.out;have hn:=HN.out;have hs1:=HS1.out;have gi:=HGI.out;have gj:=HGJ.out;omega)) (HU.out.swp (p:=p) (.inl (by simp)) I J (.int .u32 D1[J]!) (.int .u32 D1[I]!)))
    rw [hvp,hvq] at HS
    rw [hvp] at l1
    rw [hvq] at l2
    rw [hv3] at l3
    clear hvp hvq hv3 HRB HU
    go_region
    generalize (wc.setCell ⟨p,I,none⟩ (.int .u32 vq)).setCell ⟨p,J,none⟩ (.int .u32 vp)=W1 at HS ⊢
    have HRB:=Lib.hid (HS.out.1.drew)
    have HU:=Lib.hid (HS.out.2.drew)
    clear HS l1 l2 l3 f1 f2
    obtain ⟨I1,hI1⟩:∃k,k=I+1:=⟨_,rfl⟩
    obtain ⟨J1,hJ1⟩:∃k,k=J - 1:=⟨_,rfl⟩
    have e3:(I:Int)+1=(I1:Int):=by omega
    have e4:(J:Int) - 1=(J1:Int):=by have:=HIJ.out;have:=HGI.out;have hb:=HB.out;have hn:=HN.out;have hs1:=HS1.out;omega
    have HIJ1:=Lib.hid (And.intro hI1 hJ1)
    clear hI1 hJ1
    go_upto_block 4 with fail
    go_cut [10,11] (fun s10 s11 wr=>s11=.int .i64 (PL.1:Int)∧RB wr p PL.2 rest et∧Upd [p] w wr∧a≤PL.1∧PL.1<b∧PL.2.size=n)
    case first=>
     go_wp2_with fail
     go_loopg [10,11] (J1+1 - I1) (fun m s10 s11 wr=>∃(i j:Nat) (dk:Array Int),m=j+1 - i∧s10=.int .i64 (i:Int)∧s11=.int .i64 (j:Int)∧a<i∧i≤j+1∧j<b∧dk.size=n∧RB wr p dk rest et∧Upd [p] w wr∧partLoop ltInt a i j dk=PL)
     case atStart=>exact ⟨I1,J1,_,rfl,rfl,rfl,by have:=HIJ1.out;have:=HIJ.out;have:=HGI.out;have hb:=HB.out;have hn:=HN.out;have hs1:=HS1.out;omega,by have:=HIJ1.out;have:=HIJ.out;have:=HGI.out;omega,by have:=HIJ1.out;have:=HIJ.out;have:=HGJ.out;have:=HGI.out;have hb:=HB.out;have hn:=HN.out;have hs1:=HS1.out;omega,by rw [size_swp];exact HS1.out,HRB.out,HU.out,by rw [HIJ1.out.1,HIJ1.out.2];exact HE.out⟩
     case round=>
      obtain ⟨i,j,dk,hm,rfl,rfl,hai,hij,hjb,hdn,hrb,hu,heq⟩:=hrel
      clear HRB HU
      obtain ⟨W3,rfl⟩:∃W:World,W=wr:=⟨_,rfl⟩
      have HRB:=Lib.hid hrb
      have HU:=Lib.hid hu
      have HR:=Lib.hid (And.intro hm (And.intro hai (And.intro hij (And.intro hjb hdn))))
      have HQ3:=Lib.hid heq
      have ib3:(i:Int)<1000000:=by have hb:=HB.out;have hn:=HN.out;have hs1:=HS1.out;omega
      have jb3:(j:Int)<1000000:=by have hb:=HB.out;have hn:=HN.out;have hs1:=HS1.out;omega
      clear hm hai hij hjb hdn hrb hu heq
      obtain ⟨I2,hI2⟩:∃I,scanUp (fun x=>ltInt x dk[a]!) dk j i=I:=⟨_,rfl⟩
      have gI:=scanUp_spec (fun x=>ltInt x dk[a]!) dk j _ i rfl
      rw [hI2] at gI
      have HGI2:=Lib.hid (And.intro gI.1 (gI.2.1 (by have:=HR.out;omega)))
      have HQQ:=Lib.hid hI2
      have HQI2:=Lib.hid hI2
      clear gI hI2
      go_upto_block 6 with fail
      go_cut [10] (fun s wr=>s=.int .i64 (I2:Int)∧RB wr p dk rest et∧Upd [p] w wr)
      case first=>
       go_wp2_with fail
       go_loopg [10] (j+1 - i) (fun m s wr=>∃i:Nat,m=j+1 - i∧s=.int .i64 (i:Int)∧i≤i∧i≤j+1∧scanUp (fun x=>ltInt x dk[a]!) dk j i=I2∧RB wr p dk rest et∧Upd [p] w wr)
       case atStart=>exact ⟨i,rfl,rfl,Nat.le_refl _,(by have hb:=HB.out;have hn:=HN.out;have hs1:=HS1.out;have gr:=HR.out;omega),HQQ.out,HRB.out,HU.out⟩
       case round=>
        obtain ⟨i,hm,rfl,h1,h2,hq,hrb,hu⟩:=hrel
        obtain ⟨wl,rfl⟩:∃wl:World,wl=wr:=⟨_,rfl⟩
        have ib:(i:Int)<1000000:=by have hb:=HB.out;have hn:=HN.out;have hs1:=HS1.out;have gr:=HR.out;omega
        by_cases hle:i≤j
        ·have hz:(i:Int)≤(j:Int):=by omega
         have hd:decide (i≤j)=true:=decide_eq_true hle
         have g1:(i:Int)<(n:Int):=by have hb:=HB.out;have hn:=HN.out;have hs1:=HS1.out;have gr:=HR.out;omega
         have l1:=hrb.cell (t:=i) (by have hb:=HB.out;have hn:=HN.out;have hs1:=HS1.out;have gr:=HR.out;omega)
         have l2:=hrb.cell (t:=a) (by have hb:=HB.out;have hn:=HN.out;have hs1:=HS1.out;have gr:=HR.out;omega)
         obtain ⟨vi,hvi⟩:∃v,dk[i]! = v:=⟨_,rfl⟩
         obtain ⟨va,hva⟩:∃v,dk[a]! = v:=⟨_,rfl⟩
         rw [hvi] at l1
         rw [hva] at l2
         obtain ⟨t,ht⟩:∃t,ltInt vi va=t:=⟨_,rfl⟩
         have hnx:I2=if t=true then scanUp (fun x=>ltInt x dk[a]!) dk j (i+1) else i:=by
          rw [←hq,scanUp,decide_eq_true hle,Bool.true_and]
          show (if (ltInt dk[i]! dk[a]!)=true then _ else _)=_
          rw [hvi,hva,ht]
         have HLX:=Lib.hid (show ∀w,Calls Tryz.prog 189 #[.int .u32 vi,.int .u32 va] w fun e w'=>e=.returned (.bool t)∧w'=w from fun w=>by have:=lessU vi va w;rw [ht] at this;exact this)
         have HI:=Lib.hid (And.intro hm (And.intro h1 (And.intro h2 trivial)))
         have HR1:=Lib.hid hrb
         have HU1:=Lib.hid hu
         have HN0:=Lib.hid hnx
         clear hm h1 h2 hq hrb hu hle hvi hva ht hnx
         cases t
         ·have hn:=HN0.out
          rw [if_neg (by decide)] at hn
          have HN:=Lib.hid hn.symm
          clear hn
          go_wp2_with fail
          go_quiet (first | (go_at_call 189;refine Calls.quiet_of_same (HLX.out _)))
          go_wp2_with fail
          go_meet
          case rel=>exact ⟨by rw [←HN.out],HR1.out.drewN _,HU1.out.drewN _⟩
         ·have hn:=HN0.out
          rw [if_pos rfl] at hn
          have HN:=Lib.hid hn.symm
          clear hn
          go_wp2_with fail
          go_quiet (first | (go_at_call 189;refine Calls.quiet_of_same (HLX.out _)))
          go_wp2_with fail
          go_roundg (j+1 - (i+1))
          case measure=>have:=HI.out;omega
          case rel=>exact ⟨i+1,rfl,by go_num,by have:=HI.out;omega,by have:=HI.out;omega,HN.out,HR1.out.drewN _,HU1.out.drewN _⟩
        ·have hd:decide (i≤j)=false:=decide_eq_false hle
         have hnx:i=I2:=by
          rw [←hq]
          rw [scanUp,decide_eq_false hle,Bool.false_and];rfl
         have HN:=Lib.hid hnx
         have HR1:=Lib.hid hrb
         have HU1:=Lib.hid hu
         clear hm h1 h2 hq hrb hu hle hnx
         go_wp2_with fail
         go_quiet (fail)
         go_wp2_with fail
         go_meet
         case rel=>exact ⟨by rw [←HN.out],HR1.out.drewN _,HU1.out.drewN _⟩
      case rest=>
       obtain ⟨rfl,hrb,hu⟩:=hcut
       clear HRB HU
       have HRB:=Lib.hid hrb
       have HU:=Lib.hid hu
       clear hrb hu
       clear HQQ
       obtain ⟨J2,hJ2⟩:∃J,scanDown (fun x=>!ltInt x dk[a]!) dk I2 j=J:=⟨_,rfl⟩
       have gJ:=scanDown_spec (fun x=>!ltInt x dk[a]!) dk I2 j
       rw [hJ2] at gJ
       have HGJ2:=Lib.hid (And.intro gJ.1 (gJ.2.1 (by have:=HGI2.out;omega)))
       have HQQ:=Lib.hid hJ2
       clear gJ hJ2
       have i2b:(I2:Int)<1000000:=by have hb:=HB.out;have hn:=HN.out;have hs1:=HS1.out;have:=HGI2.out;have:=HR.out;omega
       go_upto_block 8 with fail
       go_cut [11] (fun s wr=>s=.int .i64 (J2:Int)∧RB wr p dk rest et∧Upd [p] w wr)
       case first=>
        go_wp2_with fail
        go_loopg [11] (j) (fun m s wr=>∃i:Nat,m=i∧s=.int .i64 (i:Int)∧i≤j∧I2≤i+1∧scanDown (fun x=>!ltInt x dk[a]!) dk I2 i=J2∧RB wr p dk rest et∧Upd [p] w wr)
        case atStart=>exact ⟨j,rfl,rfl,Nat.le_refl _,(by have hb:=HB.out;have hn:=HN.out;have hs1:=HS1.out;have gr:=HR.out;have gi:=HGI2.out;omega),HQQ.out,HRB.out,HU.out⟩
        case round=>
         obtain ⟨i,hm,rfl,h1,h2,hq,hrb,hu⟩:=hrel
         obtain ⟨wl,rfl⟩:∃wl:World,wl=wr:=⟨_,rfl⟩
         have ib:(i:Int)<1000000:=by have hb:=HB.out;have hn:=HN.out;have hs1:=HS1.out;have gr:=HR.out;have gi:=HGI2.out;omega
         by_cases hle:I2≤i
         ·have hz:(I2:Int)≤(i:Int):=by omega
          have hd:decide (I2≤i)=true:=decide_eq_true hle
          have g1:(i:Int)<(n:Int):=by have hb:=HB.out;have hn:=HN.out;have hs1:=HS1.out;have gr:=HR.out;have gi:=HGI2.out;omega
          have l1:=hrb.cell (t:=i) (by have hb:=HB.out;have hn:=HN.out;have hs1:=HS1.out;have gr:=HR.out;have gi:=HGI2.out;omega)
          have l2:=hrb.cell (t:=a) (by have hb:=HB.out;have hn:=HN.out;have hs1:=HS1.out;have gr:=HR.out;have gi:=HGI2.out;omega)
          obtain ⟨vi,hvi⟩:∃v,dk[i]! = v:=⟨_,rfl⟩
          obtain ⟨va,hva⟩:∃v,dk[a]! = v:=⟨_,rfl⟩
          rw [hvi] at l1
          rw [hva] at l2
          obtain ⟨t,ht⟩:∃t,ltInt vi va=t:=⟨_,rfl⟩
          obtain ⟨k,hk⟩:∃k,i=k+1:=⟨i - 1,by have hb:=HB.out;have hn:=HN.out;have hs1:=HS1.out;have gr:=HR.out;have gi:=HGI2.out;omega⟩
          have hnx:J2=if t=false then scanDown (fun x=>!ltInt x dk[a]!) dk I2 k else i:=by
           rw [←hq,hk,scanDown,←hk,decide_eq_true hle,Bool.true_and]
           show (if (!ltInt dk[i]! dk[a]!)=true then _ else _)=_
           rw [hvi,hva,ht]
           cases t<;>rfl
          have hkz:(i:Int) - 1=(k:Int):=by omega
          have HLX:=Lib.hid (show ∀w,Calls Tryz.prog 189 #[.int .u32 vi,.int .u32 va] w fun e w'=>e=.returned (.bool t)∧w'=w from fun w=>by have:=lessU vi va w;rw [ht] at this;exact this)
          have HI:=Lib.hid (And.intro hm (And.intro h1 (And.intro h2 hk)))
          have HR1:=Lib.hid hrb
          have HU1:=Lib.hid hu
          have HN0:=Lib.hid hnx
          clear hm h1 h2 hq hrb hu hle hvi hva ht hnx hk
          cases t
          ·have hn:=HN0.out
           rw [if_pos rfl] at hn
           have HN:=Lib.hid hn.symm
           clear hn
           go_wp2_with fail
           go_quiet (first | (go_at_call 189;refine Calls.quiet_of_same (HLX.out _)))
           go_wp2_with fail
           go_roundg k
           case measure=>have:=HI.out;omega
           case rel=>exact ⟨k,rfl,by have:=HI.out;go_num,by have:=HI.out;omega,by have:=HI.out;omega,HN.out,HR1.out.drewN _,HU1.out.drewN _⟩
          ·have hn:=HN0.out
           rw [if_neg (by decide)] at hn
           have HN:=Lib.hid hn.symm
           clear hn
           go_wp2_with fail
           go_quiet (first | (go_at_call 189;refine Calls.quiet_of_same (HLX.out _)))
           go_wp2_with fail
           go_meet
           case rel=>exact ⟨by rw [←HN.out],HR1.out.drewN _,HU1.out.drewN _⟩
         ·have hd:decide (I2≤i)=false:=decide_eq_false hle
          have hnx:i=J2:=by
           rw [←hq]
           cases hi0:i with
           |zero=>rfl
           |succ k=>rw [hi0] at hle;rw [scanDown,decide_eq_false hle,Bool.false_and];rfl
          have HN:=Lib.hid hnx
          have HR1:=Lib.hid hrb
          have HU1:=Lib.hid hu
          clear hm h1 h2 hq hrb hu hle hnx
          go_wp2_with fail
          go_quiet (fail)
          go_wp2_with fail
          go_meet
          case rel=>exact ⟨by rw [←HN.out],HR1.out.drewN _,HU1.out.drewN _⟩
       case rest=>
        obtain ⟨rfl,hrb,hu⟩:=hcut
        clear HRB HU
        have HRB:=Lib.hid hrb
        have HU:=Lib.hid hu
        clear hrb hu
        have j2b:(J2:Int)<1000000:=by have hb:=HB.out;have hn:=HN.out;have hs1:=HS1.out;have:=HGJ2.out;have:=HR.out;omega
        by_cases hgt:J2<I2
        ·have hz2:(J2:Int)<(I2:Int):=by omega
         have hpl:PL=(J2,dk):=by rw [←HQ3.out,partLoop_eq,HQI2.out,HQQ.out,if_pos hgt]
         have HE2:=Lib.hid hpl
         clear hgt hpl
         go_wp2_with fail
         go_meet
         case rel=>
          refine ⟨by rw [HE2.out],by rw [HE2.out];exact HRB.out,HU.out,by rw [HE2.out];have:=HGI2.out;have:=HGJ2.out;have:=HR.out;show a≤J2;omega,by rw [HE2.out];have:=HGJ2.out;have:=HR.out;show J2<b;omega,by rw [HE2.out];exact HR.out.2.2.2.2⟩
        ·have hz2:¬(J2:Int)<(I2:Int):=by omega
         have hpl:partLoop ltInt a (I2+1) (J2 - 1) (swp dk I2 J2)=PL:=by
          rw [←HQ3.out];conv=>rhs;rw [partLoop_eq,HQI2.out,HQQ.out,if_neg hgt]
         have HE2:=Lib.hid (And.intro hpl (show I2<J2 from scan_lt _ _ (fun _=>rfl) dk HQI2.out HQQ.out (by have:=HR.out;omega) (by omega)))
         have i3:(I2:Int)<(n:Int):=by have hb:=HB.out;have hn:=HN.out;have hs1:=HS1.out;have:=HGI2.out;have:=HGJ2.out;have:=HR.out;omega
         have j3:(J2:Int)<(n:Int):=by have hb:=HB.out;have hn:=HN.out;have hs1:=HS1.out;have:=HGJ2.out;have:=HR.out;omega
         clear hgt hpl
         go_wp2_with fail
         have l1:=HRB.out.cell (t:=I2) (by have hb:=HB.out;have hn:=HN.out;have hs1:=HS1.out;have gr:=HR.out;have gi:=HGI2.out;have gj:=HGJ2.out;have ge:=HE2.out.2;omega)
         have l2:=HRB.out.cell (t:=J2) (by have hb:=HB.out;have hn:=HN.out;have hs1:=HS1.out;have gr:=HR.out;have gi:=HGI2.out;have gj:=HGJ2.out;have ge:=HE2.out.2;omega)
         have f1:=HRB.out.frozen I2
         have f2:=HRB.out.frozen J2
         obtain ⟨vp,hvp⟩:∃u,dk[I2]! = u:=⟨_,rfl⟩
         obtain ⟨vq,hvq⟩:∃u,dk[J2]! = u:=⟨_,rfl⟩
         have l3:=(HRB.out.set (t:=I2) (by have hb:=HB.out;have hn:=HN.out;have hs1:=HS1.out;have gr:=HR.out;have gi:=HGI2.out;have gj:=HGJ2.out;have ge:=HE2.out.2;omega) vq).cell (t:=J2) (by rw [Array.size_setIfInBounds];have hb:=HB.out;have hn:=HN.out;have hs1:=HS1.out;have gr:=HR.out;have gi:=HGI2.out;have gj:=HGJ2.out;have ge:=HE2.out.2;omega)
         obtain ⟨v3,hv3⟩:∃u,(dk.setIfInBounds I2 vq)[J2]! = u:=⟨_,rfl⟩
         have HS:=Lib.hid (And.intro (HRB.out.swp (i:=I2) (j:=J2) (by have hb:=HB.out;have hn:=HN.out;have hs1:=HS1.out;have gr:=HR.out;have gi:=HGI2.out;have gj:=HGJ2.out;have ge:=HE2.out.2;omega) (by have hb:=HB.out;have hn:=HN.out;have hs1:=HS1.out;have gr:=HR.out;have gi:=HGI2.out;have gj:=HGJ2.out;have ge:=HE2.out.2;omega)) (HU.out.swp (p:=p) (.inl (by simp)) I2 J2 (.int .u32 dk[J2]!) (.int .u32 dk[I2]!)))
         rw [hvp,hvq] at HS
         rw [hvp] at l1
         rw [hvq] at l2
         rw [hv3] at l3
         clear hvp hvq hv3 HRB HU
         go_region
         generalize (wc.setCell ⟨p,I2,none⟩ (.int .u32 vq)).setCell ⟨p,J2,none⟩ (.int .u32 vp)=W1 at HS ⊢
         have HRB:=Lib.hid (HS.out.1.drew)
         have HU:=Lib.hid (HS.out.2.drew)
         clear HS l1 l2 l3 f1 f2
         obtain ⟨I3,hI3⟩:∃k,k=I2+1:=⟨_,rfl⟩
         obtain ⟨J3,hJ3⟩:∃k,k=J2 - 1:=⟨_,rfl⟩
         have e5:(I2:Int)+1=(I3:Int):=by omega
         have e6:(J2:Int) - 1=(J3:Int):=by have:=HE2.out.2;have:=HGI2.out;have:=HR.out;omega
         have HIJ3:=Lib.hid (And.intro hI3 hJ3)
         clear hI3 hJ3
         go_wp2_with fail
         go_roundg (J3+1 - I3)
         case measure=>have:=HIJ3.out;have:=HE2.out.2;have:=HGI2.out;have:=HGJ2.out;have:=HR.out;omega
         case rel=>
          have q1:=HIJ3.out;have q2:=HE2.out.2;have q3:=HGI2.out;have q4:=HGJ2.out;have q5:=HR.out
          refine ⟨I3,J3,_,rfl,rfl,rfl,by omega,by omega,by omega,by rw [size_swp];exact HR.out.2.2.2.2,HRB.out,HU.out,by rw [HIJ3.out.1,HIJ3.out.2];exact HE2.out.1⟩
    case rest=>
     obtain ⟨rfl,hrb,hu,g1,g2,g3⟩:=hcut
     clear HRB HU
     obtain ⟨x,hx⟩:∃x,PL.1=x:=⟨_,rfl⟩
     obtain ⟨DZ,hDZ⟩:∃x,PL.2=x:=⟨_,rfl⟩
     rw [hx] at g1 g2 ⊢
     rw [hDZ] at hrb g3
     have HXD:=Lib.hid (And.intro hx hDZ)
     have HRB:=Lib.hid hrb
     have HU:=Lib.hid hu
     have HZ:=Lib.hid (And.intro g1 (And.intro g2 g3))
     have x1:(x:Int)<(n:Int):=by have hb:=HB.out;have hn:=HN.out;have hs1:=HS1.out;omega
     clear hrb hu g1 g2 g3 hx hDZ
     go_wp2_with fail
     have l1:=HRB.out.cell (t:=x) (by have hb:=HB.out;have hn:=HN.out;have hs1:=HS1.out;have gz:=HZ.out;omega)
     have l2:=HRB.out.cell (t:=a) (by have hb:=HB.out;have hn:=HN.out;have hs1:=HS1.out;have gz:=HZ.out;omega)
     have f1:=HRB.out.frozen x
     have f2:=HRB.out.frozen a
     obtain ⟨vp,hvp⟩:∃u,DZ[x]! = u:=⟨_,rfl⟩
     obtain ⟨vq,hvq⟩:∃u,DZ[a]! = u:=⟨_,rfl⟩
     have l3:=(HRB.out.set (t:=x) (by have hb:=HB.out;have hn:=HN.out;have hs1:=HS1.out;have gz:=HZ.out;omega) vq).cell (t:=a) (by rw [Array.size_setIfInBounds];have hb:=HB.out;have hn:=HN.out;have hs1:=HS1.out;have gz:=HZ.out;omega)
     obtain ⟨v3,hv3⟩:∃u,(DZ.setIfInBounds x vq)[a]! = u:=⟨_,rfl⟩
     have HS:=Lib.hid (And.intro (HRB.out.swp (i:=x) (j:=a) (by have hb:=HB.out;have hn:=HN.out;have hs1:=HS1.out;have gz:=HZ.out;omega) (by have hb:=HB.out;have hn:=HN.out;have hs1:=HS1.out;have gz:=HZ.out;omega)) (HU.out.swp (p:=p) (.inl (by simp)) x a (.int .u32 DZ[a]!) (.int .u32 DZ[x]!)))
     rw [hvp,hvq] at HS
     rw [hvp] at l1
     rw [hvq] at l2
     rw [hv3] at l3
     clear hvp hvq hv3 HRB HU
     go_region
     generalize (wc.setCell ⟨p,x,none⟩ (.int .u32 vq)).setCell ⟨p,a,none⟩ (.int .u32 vp)=W1 at HS ⊢
     have HRB:=Lib.hid (HS.out.1.drew)
     have HU:=Lib.hid (HS.out.2.drew)
     clear HS l1 l2 l3 f1 f2
     go_wp2_with fail
     go_ret2
     exact ⟨false,by rw [HXD.out.1];rfl,by rw [HXD.out.1,HXD.out.2];exact HRB.out,HU.out⟩
end Go.Proofs.YtkbaaonchdeneaaGreat
namespace Go.Proofs.YtkbaaonchdeneaaGreat
open Go.RowKit Go.Sort
theorem partEqU (p C a b v:Nat) (d:Array Int) (rest:List Value) (et:TypeId) (w:World) (h:RB w p d rest et) (hav:a≤v) (hvb:v<b) (hb:b≤d.size) (hsz:d.size<1000000) :
 Calls Tryz.prog 190 #[.slice (some ⟨p,0,none⟩) d.size C,.int .i64 (a:Int),.int .i64 (b:Int),.int .i64 (v:Int)] w fun e w'=>
  e=.returned (.int .i64 ((partitionEqual ltInt d a b v).1:Int))∧RB w' p (partitionEqual ltInt d a b v).2 rest et∧Upd [p] w w':=by
 obtain ⟨n,hn⟩:∃n,d.size=n:=⟨_,rfl⟩
 obtain ⟨D1,hD1⟩:∃D,swp d a v=D:=⟨_,rfl⟩
 have hs1:D1.size=n:=by rw [←hD1,size_swp];exact hn
 obtain ⟨i0,hi0⟩:∃i,i=a+1:=⟨_,rfl⟩
 obtain ⟨j0,hj0⟩:∃j,j=b - 1:=⟨_,rfl⟩
 obtain ⟨PL,hPL⟩:∃P,partEqLoop ltInt a i0 j0 D1=P:=⟨_,rfl⟩
 have hpe:partitionEqual ltInt d a b v=PL:=by rw [partitionEqual,hD1,←hi0,←hj0,hPL]
 rw [hpe]
 rw [hn] at hb hsz ⊢
 have n0:(n:Int)<1000000:=by omega
 have a0:(a:Int)<(n:Int):=by omega
 have v0:(v:Int)<(n:Int):=by omega
 have b0:(b:Int)<1000000:=by omega
 have e1:(a:Int)+1=(i0:Int):=by omega
 have e2:(b:Int) - 1=(j0:Int):=by omega
 have HN:=Lib.hid hn
 have HRB:=Lib.hid h
 have HU:=Lib.hid (Upd.refl [p] w)
 have HB:=Lib.hid (And.intro hav (And.intro hvb (And.intro hb (And.intro hi0 (And.intro hj0 hsz)))))
 have HD1:=Lib.hid hD1
 have HS1:=Lib.hid hs1
 have HPL:=Lib.hid hPL
 clear h hav hvb hb hsz hn hD1 hs1 hi0 hj0 hPL hpe
 go_enter Tryz.func190,Tryz.ntmps190
 go_wp2_with fail
 have l1:=HRB.out.cell (t:=a) (by have hb:=HB.out;have hn:=HN.out;omega)
 have l2:=HRB.out.cell (t:=v) (by have hb:=HB.out;have hn:=HN.out;omega)
 have f1:=HRB.out.frozen a
 have f2:=HRB.out.frozen v
 obtain ⟨vp,hvp⟩:∃u,d[a]! = u:=⟨_,rfl⟩
 obtain ⟨vq,hvq⟩:∃u,d[v]! = u:=⟨_,rfl⟩
 have l3:=(HRB.out.set (t:=a) (by have hb:=HB.out;have hn:=HN.out;omega) vq).cell (t:=v) (by rw [Array.size_setIfInBounds];have hb:=HB.out;have hn:=HN.out;omega)
 obtain ⟨v3,hv3⟩:∃u,(d.setIfInBounds a vq)[v]! = u:=⟨_,rfl⟩
 have HS:=Lib.hid (And.intro (HRB.out.swp (i:=a) (j:=v) (by have hb:=HB.out;have hn:=HN.out;omega) (by have hb:=HB.out;have hn:=HN.out;omega)) (HU.out.swp (p:=p) (.inl (by simp)) a v (.int .u32 d[v]!) (.int .u32 d[a]!)))
 rw [hvp,hvq] at HS
 rw [hvp] at l1
 rw [hvq] at l2
 rw [hv3] at l3
 clear hvp hvq hv3 HRB HU
 go_region
 generalize (w.setCell ⟨p,a,none⟩ (.int .u32 vq)).setCell ⟨p,v,none⟩ (.int .u32 vp)=W1 at HS ⊢
 have HRB:=Lib.hid (HS.out.1.drew)
 have HU:=Lib.hid (HS.out.2.drew)
 clear HS l1 l2 l3 f1 f2
 rw [HD1.out] at HRB
 go_wp2_with fail
 go_loopg [9,10] (j0+1 - i0) (fun m s9 s10 wr=>∃(i j:Nat) (dk:Array Int),m=j+1 - i∧s9=.int .i64 (i:Int)∧s10=.int .i64 (j:Int)∧a<i∧i≤j+1∧j<b∧dk.size=n∧RB wr p dk rest et∧Upd [p] w wr∧partEqLoop ltInt a i j dk=PL)
 case atStart=>exact ⟨i0,j0,_,rfl,rfl,rfl,by have hb:=HB.out;have hn:=HN.out;have hs1:=HS1.out;omega,by have hb:=HB.out;have hn:=HN.out;have hs1:=HS1.out;omega,by have hb:=HB.out;have hn:=HN.out;have hs1:=HS1.out;omega,HS1.out,HRB.out,HU.out,HPL.out⟩
 case round=>
  obtain ⟨i,j,dk,hm,rfl,rfl,hai,hij,hjb,hdn,hrb,hu,heq⟩:=hrel
  clear HRB HU
  obtain ⟨W3,rfl⟩:∃W:World,W=wr:=⟨_,rfl⟩
  have HRB:=Lib.hid hrb
  have HU:=Lib.hid hu
  have HR:=Lib.hid (And.intro hm (And.intro hai (And.intro hij (And.intro hjb hdn))))
  have HQ3:=Lib.hid heq
  have ib3:(i:Int)<1000000:=by have hb:=HB.out;have hn:=HN.out;have hs1:=HS1.out;omega
  have jb3:(j:Int)<1000000:=by have hb:=HB.out;have hn:=HN.out;have hs1:=HS1.out;omega
  clear hm hai hij hjb hdn hrb hu heq
  obtain ⟨I2,hI2⟩:∃I,scanUp (fun x=>!ltInt dk[a]! x) dk j i=I:=⟨_,rfl⟩
  have gI:=scanUp_spec (fun x=>!ltInt dk[a]! x) dk j _ i rfl
  rw [hI2] at gI
  have HGI2:=Lib.hid (And.intro gI.1 (gI.2.1 (by have:=HR.out;omega)))
  have HQQ:=Lib.hid hI2
  have HQI2:=Lib.hid hI2
  clear gI hI2
  go_upto_block 2 with fail
  go_cut [9] (fun s wr=>s=.int .i64 (I2:Int)∧RB wr p dk rest et∧Upd [p] w wr)
  case first=>
   go_wp2_with fail
   go_loopg [9] (j+1 - i) (fun m s wr=>∃i:Nat,m=j+1 - i∧s=.int .i64 (i:Int)∧i≤i∧i≤j+1∧scanUp (fun x=>!ltInt dk[a]! x) dk j i=I2∧RB wr p dk rest et∧Upd [p] w wr)
   case atStart=>exact ⟨i,rfl,rfl,Nat.le_refl _,(by have hb:=HB.out;have hn:=HN.out;have hs1:=HS1.out;have gr:=HR.out;omega),HQQ.out,HRB.out,HU.out⟩
   case round=>
    obtain ⟨i,hm,rfl,h1,h2,hq,hrb,hu⟩:=hrel
    obtain ⟨wl,rfl⟩:∃wl:World,wl=wr:=⟨_,rfl⟩
    have ib:(i:Int)<1000000:=by have hb:=HB.out;have hn:=HN.out;have hs1:=HS1.out;have gr:=HR.out;omega
    by_cases hle:i≤j
    ·have hz:(i:Int)≤(j:Int):=by omega
     have hd:decide (i≤j)=true:=decide_eq_true hle
     have g1:(i:Int)<(n:Int):=by have hb:=HB.out;have hn:=HN.out;have hs1:=HS1.out;have gr:=HR.out;omega
     have l1:=hrb.cell (t:=i) (by have hb:=HB.out;have hn:=HN.out;have hs1:=HS1.out;have gr:=HR.out;omega)
     have l2:=hrb.cell (t:=a) (by have hb:=HB.out;have hn:=HN.out;have hs1:=HS1.out;have gr:=HR.out;omega)
     obtain ⟨vi,hvi⟩:∃v,dk[i]! = v:=⟨_,rfl⟩
     obtain ⟨va,hva⟩:∃v,dk[a]! = v:=⟨_,rfl⟩
     rw [hvi] at l1
     rw [hva] at l2
     obtain ⟨t,ht⟩:∃t,ltInt va vi=t:=⟨_,rfl⟩
     have hnx:I2=if t=false then scanUp (fun x=>!ltInt dk[a]! x) dk j (i+1) else i:=by
      rw [←hq,scanUp,decide_eq_true hle,Bool.true_and]
      show (if (!ltInt dk[a]! dk[i]!)=true then _ else _)=_
      rw [hvi,hva,ht]
      cases t<;>rfl
     have HLX:=Lib.hid (show ∀w,Calls Tryz.prog 189 #[.int .u32 va,.int .u32 vi] w fun e w'=>e=.returned (.bool t)∧w'=w from fun w=>by have:=lessU va vi w;rw [ht] at this;exact this)
     have HI:=Lib.hid (And.intro hm (And.intro h1 (And.intro h2 trivial)))
     have HR1:=Lib.hid hrb
     have HU1:=Lib.hid hu
     have HN0:=Lib.hid hnx
     clear hm h1 h2 hq hrb hu hle hvi hva ht hnx
     cases t
     ·have hn:=HN0.out
      rw [if_pos rfl] at hn
      have HN:=Lib.hid hn.symm
      clear hn
      go_wp2_with fail
      go_quiet (first | (go_at_call 189;refine Calls.quiet_of_same (HLX.out _)))
      go_wp2_with fail
      go_roundg (j+1 - (i+1))
      case measure=>have:=HI.out;omega
      case rel=>exact ⟨i+1,rfl,by go_num,by have:=HI.out;omega,by have:=HI.out;omega,HN.out,HR1.out.drewN _,HU1.out.drewN _⟩
     ·have hn:=HN0.out
      rw [if_neg (by decide)] at hn
      have HN:=Lib.hid hn.symm
      clear hn
      go_wp2_with fail
      go_quiet (first | (go_at_call 189;refine Calls.quiet_of_same (HLX.out _)))
      go_wp2_with fail
      go_meet
      case rel=>exact ⟨by rw [←HN.out],HR1.out.drewN _,HU1.out.drewN _⟩
    ·have hd:decide (i≤j)=false:=decide_eq_false hle
     have hnx:i=I2:=by
      rw [←hq]
      rw [scanUp,decide_eq_false hle,Bool.false_and];rfl
     have HN:=Lib.hid hnx
     have HR1:=Lib.hid hrb
     have HU1:=Lib.hid hu
     clear hm h1 h2 hq hrb hu hle hnx
     go_wp2_with fail
     go_quiet (fail)
     go_wp2_with fail
     go_meet
     case rel=>exact ⟨by rw [←HN.out],HR1.out.drewN _,HU1.out.drewN _⟩
  case rest=>
   obtain ⟨rfl,hrb,hu⟩:=hcut
   clear HRB HU
   have HRB:=Lib.hid hrb
   have HU:=Lib.hid hu
   clear hrb hu
   clear HQQ
   obtain ⟨J2,hJ2⟩:∃J,scanDown (fun x=>ltInt dk[a]! x) dk I2 j=J:=⟨_,rfl⟩
   have gJ:=scanDown_spec (fun x=>ltInt dk[a]! x) dk I2 j
   rw [hJ2] at gJ
   have HGJ2:=Lib.hid (And.intro gJ.1 (gJ.2.1 (by have:=HGI2.out;omega)))
   have HQQ:=Lib.hid hJ2
   clear gJ hJ2
   have i2b:(I2:Int)<1000000:=by have hb:=HB.out;have hn:=HN.out;have hs1:=HS1.out;have:=HGI2.out;have:=HR.out;omega
   go_upto_block 4 with fail
   go_cut [10] (fun s wr=>s=.int .i64 (J2:Int)∧RB wr p dk rest et∧Upd [p] w wr)
   case first=>
    go_wp2_with fail
    go_loopg [10] (j) (fun m s wr=>∃i:Nat,m=i∧s=.int .i64 (i:Int)∧i≤j∧I2≤i+1∧scanDown (fun x=>ltInt dk[a]! x) dk I2 i=J2∧RB wr p dk rest et∧Upd [p] w wr)
    case atStart=>exact ⟨j,rfl,rfl,Nat.le_refl _,(by have hb:=HB.out;have hn:=HN.out;have hs1:=HS1.out;have gr:=HR.out;have gi:=HGI2.out;omega),HQQ.out,HRB.out,HU.out⟩
    case round=>
     obtain ⟨i,hm,rfl,h1,h2,hq,hrb,hu⟩:=hrel
     obtain ⟨wl,rfl⟩:∃wl:World,wl=wr:=⟨_,rfl⟩
     have ib:(i:Int)<1000000:=by have hb:=HB.out;have hn:=HN.out;have hs1:=HS1.out;have gr:=HR.out;have gi:=HGI2.out;omega
     by_cases hle:I2≤i
     ·have hz:(I2:Int)≤(i:Int):=by omega
      have hd:decide (I2≤i)=true:=decide_eq_true hle
      have g1:(i:Int)<(n:Int):=by have hb:=HB.out;have hn:=HN.out;have hs1:=HS1.out;have gr:=HR.out;have gi:=HGI2.out;omega
      have l1:=hrb.cell (t:=i) (by have hb:=HB.out;have hn:=HN.out;have hs1:=HS1.out;have gr:=HR.out;have gi:=HGI2.out;omega)
      have l2:=hrb.cell (t:=a) (by have hb:=HB.out;have hn:=HN.out;have hs1:=HS1.out;have gr:=HR.out;have gi:=HGI2.out;omega)
      obtain ⟨vi,hvi⟩:∃v,dk[i]! = v:=⟨_,rfl⟩
      obtain ⟨va,hva⟩:∃v,dk[a]! = v:=⟨_,rfl⟩
      rw [hvi] at l1
      rw [hva] at l2
      obtain ⟨t,ht⟩:∃t,ltInt va vi=t:=⟨_,rfl⟩
      obtain ⟨k,hk⟩:∃k,i=k+1:=⟨i - 1,by have hb:=HB.out;have hn:=HN.out;have hs1:=HS1.out;have gr:=HR.out;have gi:=HGI2.out;omega⟩
      have hnx:J2=if t=true then scanDown (fun x=>ltInt dk[a]! x) dk I2 k else i:=by
       rw [←hq,hk,scanDown,←hk,decide_eq_true hle,Bool.true_and]
       show (if (ltInt dk[a]! dk[i]!)=true then _ else _)=_
       rw [hvi,hva,ht]
      have hkz:(i:Int) - 1=(k:Int):=by omega
      have HLX:=Lib.hid (show ∀w,Calls Tryz.prog 189 #[.int .u32 va,.int .u32 vi] w fun e w'=>e=.returned (.bool t)∧w'=w from fun w=>by have:=lessU va vi w;rw [ht] at this;exact this)
      have HI:=Lib.hid (And.intro hm (And.intro h1 (And.intro h2 hk)))
      have HR1:=Lib.hid hrb
      have HU1:=Lib.hid hu
      have HN0:=Lib.hid hnx
      clear hm h1 h2 hq hrb hu hle hvi hva ht hnx hk
      cases t
      ·have hn:=HN0.out
       rw [if_neg (by decide)] at hn
       have HN:=Lib.hid hn.symm
       clear hn
       go_wp2_with fail
       go_quiet (first | (go_at_call 189;refine Calls.quiet_of_same (HLX.out _)))
       go_wp2_with fail
       go_meet
       case rel=>exact ⟨by rw [←HN.out],HR1.out.drewN _,HU1.out.drewN _⟩
      ·have hn:=HN0.out
       rw [if_pos rfl] at hn
       have HN:=Lib.hid hn.symm
       clear hn
       go_wp2_with fail
       go_quiet (first | (go_at_call 189;refine Calls.quiet_of_same (HLX.out _)))
       go_wp2_with fail
       go_roundg k
       case measure=>have:=HI.out;omega
       case rel=>exact ⟨k,rfl,by have:=HI.out;go_num,by have:=HI.out;omega,by have:=HI.out;omega,HN.out,HR1.out.drewN _,HU1.out.drewN _⟩
     ·have hd:decide (I2≤i)=false:=decide_eq_false hle
      have hnx:i=J2:=by
       rw [←hq]
       cases hi0:i with
       |zero=>rfl
       |succ k=>rw [hi0] at hle;rw [scanDown,decide_eq_false hle,Bool.false_and];rfl
      have HN:=Lib.hid hnx
      have HR1:=Lib.hid hrb
      have HU1:=Lib.hid hu
      clear hm h1 h2 hq hrb hu hle hnx
      go_wp2_with fail
      go_quiet (fail)
      go_wp2_with fail
      go_meet
      case rel=>exact ⟨by rw [←HN.out],HR1.out.drewN _,HU1.out.drewN _⟩
   case rest=>
    obtain ⟨rfl,hrb,hu⟩:=hcut
    clear HRB HU
    have HRB:=Lib.hid hrb
    have HU:=Lib.hid hu
    clear hrb hu
    have j2b:(J2:Int)<1000000:=by have hb:=HB.out;have hn:=HN.out;have hs1:=HS1.out;have:=HGJ2.out;have:=HR.out;omega
    by_cases hgt:J2<I2
    ·have hz2:(J2:Int)<(I2:Int):=by omega
     have hpl:PL=(I2,dk):=by rw [←HQ3.out,partEqLoop_eq,HQI2.out,HQQ.out,if_pos hgt]
     have HE2:=Lib.hid hpl
     clear hgt hpl
     go_wp2_with fail
     go_ret
     exact ⟨by rw [HE2.out];rfl,by rw [HE2.out];exact HRB.out,HU.out⟩
    ·have hz2:¬(J2:Int)<(I2:Int):=by omega
     have hpl:partEqLoop ltInt a (I2+1) (J2 - 1) (swp dk I2 J2)=PL:=by
      rw [←HQ3.out];conv=>rhs;rw [partEqLoop_eq,HQI2.out,HQQ.out,if_neg hgt]
     have HE2:=Lib.hid (And.intro hpl (show I2<J2 from scan_lt _ _ (fun x=>by cases ltInt dk[a]! x<;>rfl) dk HQI2.out HQQ.out (by have:=HR.out;omega) (by omega)))
     have i3:(I2:Int)<(n:Int):=by have hb:=HB.out;have hn:=HN.out;have hs1:=HS1.out;have:=HGI2.out;have:=HGJ2.out;have:=HR.out;omega
     have j3:(J2:Int)<(n:Int):=by have hb:=HB.out;have hn:=HN.out;have hs1:=HS1.out;have:=HGJ2.out;have:=HR.out;omega
     clear hgt hpl
     go_wp2_with fail
     have l1:=HRB.out.cell (t:=I2) (by have hb:=HB.out;have hn:=HN.out;have hs1:=HS1.out;have gr:=HR.out;have gi:=HGI2.out;have gj:=HGJ2.out;have ge:=HE2.out.2;omega)
     have l2:=HRB.out.cell (t:=J2) (by have hb:=HB.out;have hn:=HN.out;have hs1:=HS1.out;have gr:=HR.out;have gi:=HGI2.out;have gj:=HGJ2.out;have ge:=HE2.out.2;omega)
     have f1:=HRB.out.frozen I2
     have f2:=HRB.out.frozen J2
     obtain ⟨vp,hvp⟩:∃u,dk[I2]! = u:=⟨_,rfl⟩
     obtain ⟨vq,hvq⟩:∃u,dk[J2]! = u:=⟨_,rfl⟩
     have l3:=(HRB.out.set (t:=I2) (by have hb:=HB.out;have hn:=HN.out;have hs1:=HS1.out;have gr:=HR.out;have gi:=HGI2.out;have gj:=HGJ2.out;have ge:=HE2.out.2;omega) vq).cell (t:=J2) (by rw [Array.size_setIfInBounds];have hb:=HB.out;have hn:=HN.out;have hs1:=HS1.out;have gr:=HR.out;have gi:=HGI2.out;have gj:=HGJ2.out;have ge:=HE2.out.2;omega)
     obtain ⟨v3,hv3⟩:∃u,(dk.setIfInBounds I2 vq)[J2]! = u:=⟨_,rfl⟩
     have HS:=Lib.hid (And.intro (HRB.out.swp (i:=I2) (j:=J2) (by have hb:=HB.out;have hn:=HN.out;have hs1:=HS1.out;have gr:=HR.out;have gi:=HGI2.out;have gj:=HGJ2.out;have ge:=HE2.out.2;omega) (by have hb:=HB.out;have hn:=HN.out;have hs1:=HS1.out;have gr:=HR.out;have gi:=HGI2.out;have gj:=HGJ2.out;have ge:=HE2.out.2;omega)) (HU.out.swp (p:=p) (.inl (by simp)) I2 J2 (.int .u32 dk[J2]!) (.int .u32 dk[I2]!)))
     rw [hvp,hvq] at HS
     rw [hvp] at l1
     rw [hvq] at l2
     rw [hv3] at l3
     clear hvp hvq hv3 HRB HU
     go_region
     generalize (wc.setCell ⟨p,I2,none⟩ (.int .u32 vq)).setCell ⟨p,J2,none⟩ (.int .u32 vp)=W1 at HS ⊢
     have HRB:=Lib.hid (HS.out.1.drew)
     have HU:=Lib.hid (HS.out.2.drew)
     clear HS l1 l2 l3 f1 f2
     obtain ⟨I3,hI3⟩:∃k,k=I2+1:=⟨_,rfl⟩
     obtain ⟨J3,hJ3⟩:∃k,k=J2 - 1:=⟨_,rfl⟩
     have e5:(I2:Int)+1=(I3:Int):=by omega
     have e6:(J2:Int) - 1=(J3:Int):=by have:=HE2.out.2;have:=HGI2.out;have:=HR.out;omega
     have HIJ3:=Lib.hid (And.intro hI3 hJ3)
     clear hI3 hJ3
     go_wp2_with fail
     go_roundg (J3+1 - I3)
     case measure=>have:=HIJ3.out;have:=HE2.out.2;have:=HGI2.out;have:=HGJ2.out;have:=HR.out;omega
     case rel=>
      have q1:=HIJ3.out;have q2:=HE2.out.2;have q3:=HGI2.out;have q4:=HGJ2.out;have q5:=HR.out
      refine ⟨I3,J3,_,rfl,rfl,rfl,by omega,by omega,by omega,by rw [size_swp];exact HR.out.2.2.2.2,HRB.out,HU.out,by rw [HIJ3.out.1,HIJ3.out.2];exact HE2.out.1⟩
end Go.Proofs.YtkbaaonchdeneaaGreat
namespace Go.Sort
variable {α:Type} [Inhabited α] (lt:α→α→Bool)
theorem shiftDown_size:∀(j:Nat) (d:Array α),(shiftDown lt j d).size=d.size
 |0,d=>rfl
 |j+1,d=>by
  rw [shiftDown]
  split
  ·rfl
  ·rw [shiftDown_size j,size_swp]
theorem shiftUp_size (b:Nat):∀(m j:Nat) (d:Array α),b - j≤m→(shiftUp lt b j d).size=d.size:=by
 intro m
 induction m with
 |zero=>intro j d h;rw [shiftUp,if_neg (by omega)]
 |succ m ih=>
  intro j d h
  rw [shiftUp]
  split
  ·split
   ·rfl
   ·rw [ih _ _ (by omega),size_swp]
  ·rfl
theorem scanSorted_bd (d:Array α) (b:Nat):∀(m i:Nat),b - i≤m→i≤b→i≤scanSorted lt d b i∧scanSorted lt d b i≤b:=by
 intro m
 induction m with
 |zero=>
  intro i h1 h2
  rw [scanSorted,if_neg (by simp;omega)]
  exact ⟨Nat.le_refl _,h2⟩
 |succ m ih=>
  intro i h1 h2
  rw [scanSorted]
  split
  ·rename_i h
   simp only [Bool.and_eq_true,decide_eq_true_eq] at h
   have:=ih (i+1) (by omega) (by omega)
   omega
  ·exact ⟨Nat.le_refl _,h2⟩
end Go.Sort
namespace Go.Proofs.YtkbaaonchdeneaaGreat
open Go.RowKit Go.Sort
theorem partialU (p C a b:Nat) (d:Array Int) (rest:List Value) (et:TypeId) (w:World) (h:RB w p d rest et) (hab:a<b) (hb:b≤d.size) (hsz:d.size<1000000) :
 Calls Tryz.prog 188 #[.slice (some ⟨p,0,none⟩) d.size C,.int .i64 (a:Int),.int .i64 (b:Int)] w fun e w'=>
  e=.returned (.bool (partialInsertionSort ltInt d a b).2)∧RB w' p (partialInsertionSort ltInt d a b).1 rest et∧Upd [p] w w':=by
 obtain ⟨n,hn⟩:∃n,d.size=n:=⟨_,rfl⟩
 obtain ⟨PL,hPL⟩:∃P,partialIns ltInt a b 5 (a+1) d=P:=⟨_,rfl⟩
 rw [partialInsertionSort,hPL]
 rw [hn] at hb hsz ⊢
 obtain ⟨i0,hi0⟩:∃i,i=a+1:=⟨_,rfl⟩
 rw [←hi0] at hPL
 have n0:(n:Int)<1000000:=by omega
 have a0:(a:Int)<(n:Int):=by omega
 have b0:(b:Int)<1000000:=by omega
 have e1:(a:Int)+1=(i0:Int):=by omega
 have HN:=Lib.hid hn
 have HRB:=Lib.hid h
 have HU:=Lib.hid (Upd.refl [p] w)
 have HB:=Lib.hid (And.intro hab (And.intro hb (And.intro hi0 hsz)))
 have HPL:=Lib.hid hPL
 clear h hab hb hsz hn hi0 hPL
 go_enter Tryz.func188,Tryz.ntmps188
 go_wp2_with fail
 go_loopg [7,8] 5 (fun m s7 s8 wr=>∃(i k:Nat) (dk:Array Int),m+k=5∧s7=.int .i64 (i:Int)∧s8=.int .i64 (k:Int)∧a<i∧i≤b∧dk.size=n∧RB wr p dk rest et∧Upd [p] w wr∧partialIns ltInt a b m i dk=PL)
 case atStart=>exact ⟨i0,0,d,rfl,rfl,rfl,by have:=HB.out;omega,by have:=HB.out;omega,HN.out,HRB.out,HU.out,HPL.out⟩
 case round=>
  obtain ⟨i,k,dk,hm,rfl,rfl,hai,hib,hdn,hrb,hu,heq⟩:=hrel
  clear HRB HU
  obtain ⟨W3,rfl⟩:∃W:World,W=wr:=⟨_,rfl⟩
  have HRB:=Lib.hid hrb
  have HU:=Lib.hid hu
  have ib:(i:Int)<1000000:=by have:=HB.out;omega
  have k0:(0:Int)≤(k:Int):=Int.natCast_nonneg _
  have k1:(k:Int)≤5:=by omega
  by_cases hk5:k=5
  ·have hz:¬(k:Int)<5:=by omega
   have hm0:gk=0:=by omega
   rw [hm0] at heq
   have HE:=Lib.hid (show (dk,false)=PL from heq)
   clear hm hai hib hdn hrb hu heq hk5 hm0
   go_wp2_with fail
   go_ret
   exact ⟨by rw [←HE.out];rfl,by rw [←HE.out];exact HRB.out,HU.out⟩
  ·have hz:(k:Int)<5:=by omega
   obtain ⟨s,hs⟩:∃s,gk=s+1:=⟨gk - 1,by omega⟩
   rw [hs,partialIns_succ] at heq
   have HR:=Lib.hid (And.intro hm (And.intro hai (And.intro hib (And.intro hdn hs))))
   obtain ⟨I,hI⟩:∃I,scanSorted ltInt dk b i=I:=⟨_,rfl⟩
   have gI:=scanSorted_bd ltInt dk b _ i (Nat.le_refl _) hib
   rw [hI] at gI
   simp only [hI] at heq
   have HQQ:=Lib.hid hI
   have HGI:=Lib.hid gI
   have HE:=Lib.hid heq
   clear hm hai hib hdn hrb hu heq hk5 hI gI hs
   go_upto_block 2 with fail
   go_cut [7] (fun s7 wr=>s7=.int .i64 (I:Int)∧RB wr p dk rest et∧Upd [p] w wr)
   case first=>
    go_wp2_with fail
    go_loopg [7] (b - i) (fun m s7 wr=>∃q:Nat,m=b - q∧s7=.int .i64 (q:Int)∧i≤q∧q≤b∧scanSorted ltInt dk b q=I∧RB wr p dk rest et∧Upd [p] w wr)
    case atStart=>exact ⟨i,rfl,rfl,Nat.le_refl _,HR.out.2.2.1,HQQ.out,HRB.out,HU.out⟩
    case round=>
     obtain ⟨q,hm,rfl,h1,h2,hq,hrb,hu⟩:=hrel
     obtain ⟨wl,rfl⟩:∃wl:World,wl=wr:=⟨_,rfl⟩
     have qb:(q:Int)<1000000:=by have:=HB.out;omega
     by_cases hle:q<b
     ·have hzq:(q:Int)<(b:Int):=by omega
      have hd:decide (q<b)=true:=decide_eq_true hle
      obtain ⟨y,hy⟩:∃y,y=q - 1:=⟨_,rfl⟩
      have ey:(q:Int) - 1=(y:Int):=by have:=HR.out;omega
      have g1:(q:Int)<(n:Int):=by have:=HB.out;omega
      have l1:=hrb.cell (t:=q) (by have:=HB.out;have:=HR.out;omega)
      have l2:=hrb.cell (t:=y) (by have:=HB.out;have:=HR.out;omega)
      obtain ⟨vi,hvi⟩:∃v,dk[q]! = v:=⟨_,rfl⟩
      obtain ⟨va,hva⟩:∃v,dk[y]! = v:=⟨_,rfl⟩
      rw [hvi] at l1
      rw [hva] at l2
      obtain ⟨t,ht⟩:∃t,ltInt vi va=t:=⟨_,rfl⟩
      have hnx:I=if t=false then scanSorted ltInt dk b (q+1) else q:=by
       rw [←hq,scanSorted,decide_eq_true hle,Bool.true_and,←hy,hvi,hva,ht]
       cases t<;>rfl
      have HLX:=Lib.hid (show ∀w,Calls Tryz.prog 189 #[.int .u32 vi,.int .u32 va] w fun e w'=>e=.returned (.bool t)∧w'=w from fun w=>by have:=lessU vi va w;rw [ht] at this;exact this)
      have HI:=Lib.hid (And.intro hm (And.intro h1 (And.intro h2 hle)))
      have HR1:=Lib.hid hrb
      have HU1:=Lib.hid hu
      have HN0:=Lib.hid hnx
      clear hm h1 h2 hq hrb hu hle hvi hva ht hnx hy
      cases t
      ·have hn:=HN0.out
       rw [if_pos rfl] at hn
       have HN2:=Lib.hid hn.symm
       clear hn
       go_wp2_with fail
       go_quiet (first | (go_at_call 189;refine Calls.quiet_of_same (HLX.out _)))
       go_wp2_with fail
       go_roundg (b - (q+1))
       case measure=>have:=HI.out;omega
       case rel=>exact ⟨q+1,rfl,by go_num,by have:=HI.out;omega,by have:=HI.out;omega,HN2.out,HR1.out.drewN _,HU1.out.drewN _⟩
      ·have hn:=HN0.out
       rw [if_neg (by decide)] at hn
       have HN2:=Lib.hid hn.symm
       clear hn
       go_wp2_with fail
       go_quiet (first | (go_at_call 189;refine Calls.quiet_of_same (HLX.out _)))
       go_wp2_with fail
       go_meet
       case rel=>exact ⟨by rw [←HN2.out],HR1.out.drewN _,HU1.out.drewN _⟩
     ·have hd:decide (q<b)=false:=decide_eq_false hle
      have hnx:q=I:=by
       rw [←hq,scanSorted,decide_eq_false hle,Bool.false_and];rfl
      have HN2:=Lib.hid hnx
      have HR1:=Lib.hid hrb
      have HU1:=Lib.hid hu
      clear hm h1 h2 hq hrb hu hle hnx
      go_wp2_with fail
      go_quiet (fail)
      go_wp2_with fail
      go_meet
      case rel=>exact ⟨by rw [←HN2.out],HR1.out.drewN _,HU1.out.drewN _⟩
   case rest=>
    obtain ⟨rfl,hrb,hu⟩:=hcut
    clear HRB HU HQQ
    have HRB:=Lib.hid hrb
    have HU:=Lib.hid hu
    clear hrb hu
    have Ib:(I:Int)<1000000:=by have:=HB.out;have:=HGI.out;omega
    by_cases hIb:I=b
    ·have hq1:((I:Int)==(b:Int))=true:=by rw [beq_iff_eq];omega
     have he:=HE.out
     rw [if_pos hIb] at he
     have HE2:=Lib.hid he
     have hq2:(I:Int)=(b:Int):=by omega
     clear he hIb HE
     go_wp2_with fail
     go_ret
     exact ⟨by rw [←HE2.out];rfl,by rw [←HE2.out];exact HRB.out,HU.out⟩
    ·have hq1:((I:Int)==(b:Int))=false:=by rw [beq_eq_false_iff_ne];omega
     have he:=HE.out
     rw [if_neg hIb] at he
     have hIlt:I<b:=by have:=HGI.out;omega
     by_cases h50:b - a<50
     ·have hz5:(b:Int) - (a:Int)<50:=by omega
      rw [if_pos h50] at he
      have HE2:=Lib.hid he
      clear he hIb HE h50 hIlt
      go_wp2_with fail
      go_ret
      exact ⟨by rw [←HE2.out];rfl,by rw [←HE2.out];exact HRB.out,HU.out⟩
     ·have hz5:¬(b:Int) - (a:Int)<50:=by omega
      rw [if_neg h50] at he
      obtain ⟨y,hy⟩:∃y,y=I - 1:=⟨_,rfl⟩
      have ey:(I:Int) - 1=(y:Int):=by have:=HR.out;have:=HGI.out;omega
      obtain ⟨D2,hD2⟩:∃D,swp dk I y=D:=⟨_,rfl⟩
      have hs2:D2.size=n:=by rw [←hD2,size_swp];exact HR.out.2.2.2.1
      rw [←hy,hD2] at he
      obtain ⟨DA,hDA⟩:∃D,fixDown ltInt a I D2=D:=⟨_,rfl⟩
      have hsA:DA.size=n:=by
       rw [←hDA];unfold fixDown;split
       ·rw [shiftDown_size];exact hs2
       ·exact hs2
      rw [hDA] at he
      unfold fixDown at hDA
      rw [←hy] at hDA
      obtain ⟨x,hx⟩:∃x,x=I+1:=⟨_,rfl⟩
      have ex:(I:Int)+1=(x:Int):=by omega
      obtain ⟨DB,hDB⟩:∃D,fixUp ltInt b I DA=D:=⟨_,rfl⟩
      have hsB:DB.size=n:=by
       rw [←hDB];unfold fixUp;split
       ·rw [shiftUp_size ltInt b _ _ _ (Nat.le_refl _)];exact hsA
       ·exact hsA
      rw [hDB] at he
      unfold fixUp at hDB
      rw [←hx] at hDB
      have HE2:=Lib.hid he
      have HX:=Lib.hid (And.intro hy (And.intro hx hIlt))
      have HD2:=Lib.hid (And.intro hD2 hs2)
      have HDA:=Lib.hid (And.intro hDA hsA)
      have HDB:=Lib.hid (And.intro hDB hsB)
      obtain ⟨gI,hgI⟩:∃g,g=I - a:=⟨_,rfl⟩
      obtain ⟨gB,hgB⟩:∃g,g=b - I:=⟨_,rfl⟩
      have e7:(I:Int) - (a:Int)=(gI:Int):=by have:=HR.out;have:=HGI.out;omega
      have e8:(b:Int) - (I:Int)=(gB:Int):=by omega
      have HG:=Lib.hid (And.intro hgI hgB)
      have I1:(I:Int)<(n:Int):=by have:=HB.out;omega
      have aI:(a:Int)<(I:Int):=by have:=HR.out;have:=HGI.out;omega
      have hIb2:(I:Int)<(b:Int):=by omega
      clear he hIb HE h50 hIlt hy hx hD2 hs2 hDA hsA hDB hsB hgI hgB
      go_wp2_with fail
      have l1:=HRB.out.cell (t:=I) (by have hb:=HB.out;have hr:=HR.out;have hg:=HGI.out;have hx:=HX.out;omega)
      have l2:=HRB.out.cell (t:=y) (by have hb:=HB.out;have hr:=HR.out;have hg:=HGI.out;have hx:=HX.out;omega)
      have f1:=HRB.out.frozen I
      have f2:=HRB.out.frozen y
      obtain ⟨vp,hvp⟩:∃u,dk[I]! = u:=⟨_,rfl⟩
      obtain ⟨vq,hvq⟩:∃u,dk[y]! = u:=⟨_,rfl⟩
      have l3:=(HRB.out.set (t:=I) (by have hb:=HB.out;have hr:=HR.out;have hg:=HGI.out;have hx:=HX.out;omega) vq).cell (t:=y) (by rw [Array.size_setIfInBounds];have hb:=HB.out;have hr:=HR.out;have hg:=HGI.out;have hx:=HX.out;omega)
      obtain ⟨v3,hv3⟩:∃u,(dk.setIfInBounds I vq)[y]! = u:=⟨_,rfl⟩
      have HS:=Lib.hid (And.intro (HRB.out.swp (i:=I) (j:=y) (by have hb:=HB.out;have hr:=HR.out;have hg:=HGI.out;have hx:=HX.out;omega) (by have hb:=HB.out;have hr:=HR.out;have hg:=HGI.out;have hx:=HX.out;omega)) (HU.out.swp (p:=p) (.inl (by simp)) I y (.int .u32 dk[y]!) (.int .u32 dk[I]!)))
      rw [hvp,hvq] at HS
      rw [hvp] at l1
      rw [hvq] at l2
      rw [hv3] at l3
      clear hvp hvq hv3 HRB HU
      go_region
      generalize (wc.setCell ⟨p,I,none⟩ (.int .u32 vq)).setCell ⟨p,y,none⟩ (.int .u32 vp)=W1 at HS ⊢
      have HRB:=Lib.hid (HS.out.1.drew)
      have HU:=Lib.hid (HS.out.2.drew)
      clear HS l1 l2 l3 f1 f2
      rw [HD2.out.1] at HRB
      clear hz5 hz ib hq1
      go_upto_if 61 with fail
      go_cut [] (fun wr=>RB wr p DA rest et∧Upd [p] w wr)
      case first=>
       have hdi:(2:Int)≤(gI:Int)↔2≤I - a:=by have:=HG.out;omega
       by_cases h2:2≤I - a
       ·have hz2:(2:Int)≤(gI:Int):=hdi.2 h2
        have hda:=HDA.out.1
        rw [if_pos h2] at hda
        have HSD:=Lib.hid hda
        have yb:(y:Int)<1000000:=by have:=HX.out;omega
        clear h2 hdi hda
        simp only [hz2,decide_true]
        go_wp2_with fail
        go_loopg [9] y (fun m s9 wr=>∃(q:Nat) (dj:Array Int),m=q∧s9=.int .i64 (q:Int)∧q≤y∧dj.size=n∧RB wr p dj rest et∧Upd [p] w wr∧shiftDown ltInt q dj=DA)
        case atStart=>exact ⟨y,D2,rfl,rfl,Nat.le_refl _,HD2.out.2,HRB.out,HU.out,HSD.out⟩
        case round=>
         obtain ⟨q,dj,hm,rfl,hqy,hdj,hrb,hu,heq⟩:=hrel
         clear HRB HU
         obtain ⟨W4,rfl⟩:∃W:World,W=wr:=⟨_,rfl⟩
         have HRB:=Lib.hid hrb
         have HU:=Lib.hid hu
         have qb:(q:Int)<1000000:=by omega
         by_cases hq0:q=0
         ·have hz3:¬(1:Int)≤(q:Int):=by omega
          subst hq0
          have HZ:=Lib.hid (show dj=DA from heq)
          have hz4:¬(1:Int)≤0:=by decide
          clear hm hqy hdj hrb hu heq hz3
          go_wp2_with fail
          go_meet
          case rel=>exact ⟨by rw [←HZ.out];exact HRB.out,HU.out⟩
         ·obtain ⟨r,hr⟩:∃r,q=r+1:=⟨q - 1,by omega⟩
          have hz3:(1:Int)≤(q:Int):=by omega
          have er:(q:Int) - 1=(r:Int):=by omega
          have g1:(q:Int)<(n:Int):=by have:=HB.out;have:=HX.out;have:=HGI.out;omega
          have l1:=hrb.cell (t:=q) (by have:=HB.out;have:=HX.out;have:=HGI.out;omega)
          have l2:=hrb.cell (t:=r) (by have:=HB.out;have:=HX.out;have:=HGI.out;omega)
          obtain ⟨vi,hvi⟩:∃v,dj[q]! = v:=⟨_,rfl⟩
          obtain ⟨va,hva⟩:∃v,dj[r]! = v:=⟨_,rfl⟩
          rw [hvi] at l1
          rw [hva] at l2
          obtain ⟨t,ht⟩:∃t,ltInt vi va=t:=⟨_,rfl⟩
          rw [hr,shiftDown,←hr,hvi,hva,ht] at heq
          have HLX:=Lib.hid (show ∀w,Calls Tryz.prog 189 #[.int .u32 vi,.int .u32 va] w fun e w'=>e=.returned (.bool t)∧w'=w from fun w=>by have:=lessU vi va w;rw [ht] at this;exact this)
          have HI:=Lib.hid (And.intro hm (And.intro hqy (And.intro hdj hr)))
          have HN0:=Lib.hid heq
          clear hm hqy hdj hrb hu heq hvi hva ht hq0 hr
          cases t
          ·have HN2:=Lib.hid (show dj=DA from by have:=HN0.out;rw [if_pos (by rfl)] at this;exact this)
           go_wp2_with fail
           go_quiet (first | (go_at_call 189;refine Calls.quiet_of_same (HLX.out _)))
           go_wp2_with fail
           go_meet
           case rel=>exact ⟨by rw [←HN2.out];exact HRB.out.drewN _,HU.out.drewN _⟩
          ·have HN2:=Lib.hid (show shiftDown ltInt r (swp dj q r)=DA from by have:=HN0.out;rw [if_neg (by decide)] at this;exact this)
           go_wp2_with fail
           go_quiet (first | (go_at_call 189;refine Calls.quiet_of_same (HLX.out _)))
           go_wp2_with fail
           have HRB':=Lib.hid (HRB.out.drewN nq)
           have HU':=Lib.hid (HU.out.drewN nq)
           clear HRB HU l1 l2
           generalize W4.drewN nq=W5 at HRB' HU' ⊢
           have HRB:=HRB'
           have HU:=HU'
           clear HRB' HU'
           have l1:=HRB.out.cell (t:=q) (by have hb:=HB.out;have hg:=HGI.out;have hx:=HX.out;have hi:=HI.out;omega)
           have l2:=HRB.out.cell (t:=r) (by have hb:=HB.out;have hg:=HGI.out;have hx:=HX.out;have hi:=HI.out;omega)
           have f1:=HRB.out.frozen q
           have f2:=HRB.out.frozen r
           obtain ⟨vp,hvp⟩:∃u,dj[q]! = u:=⟨_,rfl⟩
           obtain ⟨vq,hvq⟩:∃u,dj[r]! = u:=⟨_,rfl⟩
           have l3:=(HRB.out.set (t:=q) (by have hb:=HB.out;have hg:=HGI.out;have hx:=HX.out;have hi:=HI.out;omega) vq).cell (t:=r) (by rw [Array.size_setIfInBounds];have hb:=HB.out;have hg:=HGI.out;have hx:=HX.out;have hi:=HI.out;omega)
           obtain ⟨v3,hv3⟩:∃u,(dj.setIfInBounds q vq)[r]! = u:=⟨_,rfl⟩
           have HS:=Lib.hid (And.intro (HRB.out.swp (i:=q) (j:=r) (by have hb:=HB.out;have hg:=HGI.out;have hx:=HX.out;have hi:=HI.out;omega) (by have hb:=HB.out;have hg:=HGI.out;have hx:=HX.out;have hi:=HI.out;omega)) (HU.out.swp (p:=p) (.inl (by simp)) q r (.int .u32 dj[r]!) (.int .u32 dj[q]!)))
           rw [hvp,hvq] at HS
           rw [hvp] at l1
           rw [hvq] at l2
           rw [hv3] at l3
           clear hvp hvq hv3 HRB HU
           go_region
           generalize (W5.setCell ⟨p,q,none⟩ (.int .u32 vq)).setCell ⟨p,r,none⟩ (.int .u32 vp)=W1 at HS ⊢
           have HRB:=Lib.hid (HS.out.1.drew)
           have HU:=Lib.hid (HS.out.2.drew)
           clear HS l1 l2 l3 f1 f2
           go_wp2_with fail
           go_roundg r
           case measure=>have:=HI.out;omega
           case rel=>exact ⟨r,_,rfl,rfl,by have:=HI.out;omega,by rw [size_swp];exact HI.out.2.2.1,HRB.out,HU.out,HN2.out⟩
       ·have hz2:¬(2:Int)≤(gI:Int):=fun h=>h2 (hdi.1 h)
        have hda:=HDA.out.1
        rw [if_neg h2] at hda
        have HSD:=Lib.hid hda
        clear h2 hdi hda
        simp only [hz2,decide_false]
        go_wp2_with fail
        go_meet
        case rel=>exact ⟨by rw [←HSD.out];exact HRB.out,HU.out⟩
      case rest=>
       obtain ⟨hrb,hu⟩:=hcut
       clear HRB HU
       have HRB:=Lib.hid hrb
       have HU:=Lib.hid hu
       clear hrb hu
       go_upto_if 98 with fail
       have hdi:(2:Int)≤(gB:Int)↔2≤b - I:=by have:=HG.out;omega
       by_cases h2:2≤b - I
       ·have hz2:(2:Int)≤(gB:Int):=hdi.2 h2
        have hda:=HDB.out.1
        rw [if_pos h2] at hda
        have HSD:=Lib.hid hda
        clear h2 hdi hda
        simp only [hz2,decide_true]
        go_wp2_with fail
        go_loopg [10] (b - x) (fun m s10 wr=>∃(q:Nat) (dj:Array Int),m=b - q∧s10=.int .i64 (q:Int)∧x≤q∧q≤b∧dj.size=n∧RB wr p dj rest et∧Upd [p] w wr∧shiftUp ltInt b q dj=DB)
        case atStart=>exact ⟨x,DA,rfl,rfl,Nat.le_refl _,by have:=HX.out;omega,HDA.out.2,HRB.out,HU.out,HSD.out⟩
        case round=>
         obtain ⟨q,dj,hm,rfl,hxq,hqb,hdj,hrb,hu,heq⟩:=hrel
         clear HRB HU
         obtain ⟨W4,rfl⟩:∃W:World,W=wr:=⟨_,rfl⟩
         have HRB:=Lib.hid hrb
         have HU:=Lib.hid hu
         have qb:(q:Int)<1000000:=by have:=HB.out;omega
         by_cases hq0:q<b
         ·obtain ⟨r,hr⟩:∃r,r=q - 1:=⟨_,rfl⟩
          have hz3:(q:Int)<(b:Int):=by omega
          have er:(q:Int) - 1=(r:Int):=by have:=HX.out;omega
          have g1:(q:Int)<(n:Int):=by have:=HB.out;omega
          have l1:=hrb.cell (t:=q) (by have:=HB.out;omega)
          have l2:=hrb.cell (t:=r) (by have:=HB.out;omega)
          obtain ⟨vi,hvi⟩:∃v,dj[q]! = v:=⟨_,rfl⟩
          obtain ⟨va,hva⟩:∃v,dj[r]! = v:=⟨_,rfl⟩
          rw [hvi] at l1
          rw [hva] at l2
          obtain ⟨t,ht⟩:∃t,ltInt vi va=t:=⟨_,rfl⟩
          rw [shiftUp,if_pos hq0,←hr,hvi,hva,ht] at heq
          have HLX:=Lib.hid (show ∀w,Calls Tryz.prog 189 #[.int .u32 vi,.int .u32 va] w fun e w'=>e=.returned (.bool t)∧w'=w from fun w=>by have:=lessU vi va w;rw [ht] at this;exact this)
          have HI:=Lib.hid (And.intro hm (And.intro hxq (And.intro hq0 (And.intro hdj hr))))
          have HN0:=Lib.hid heq
          clear hm hxq hqb hdj hrb hu heq hvi hva ht hq0 hr
          cases t
          ·have HN2:=Lib.hid (show dj=DB from by have:=HN0.out;rw [if_pos (by rfl)] at this;exact this)
           go_wp2_with fail
           go_quiet (first | (go_at_call 189;refine Calls.quiet_of_same (HLX.out _)))
           go_wp2_with fail
           go_roundg s
           case measure=>have:=HR.out;omega
           case rel=>exact ⟨I,k+1,DB,by have:=HR.out;omega,rfl,by go_num,by have:=HR.out;have:=HGI.out;omega,by have:=HGI.out;omega,HDB.out.2,by rw [←HN2.out];exact HRB.out.drewN _,HU.out.drewN _,HE2.out⟩
          ·have HN2:=Lib.hid (show shiftUp ltInt b (q+1) (swp dj q r)=DB from by have:=HN0.out;rw [if_neg (by decide)] at this;exact this)
           go_wp2_with fail
           go_quiet (first | (go_at_call 189;refine Calls.quiet_of_same (HLX.out _)))
           go_wp2_with fail
           have HRB':=Lib.hid (HRB.out.drewN nq)
           have HU':=Lib.hid (HU.out.drewN nq)
           clear HRB HU l1 l2
           generalize W4.drewN nq=W5 at HRB' HU' ⊢
           have HRB:=HRB'
           have HU:=HU'
           clear HRB' HU'
           have l1:=HRB.out.cell (t:=q) (by have hb:=HB.out;have hg:=HGI.out;have hx:=HX.out;have hi:=HI.out;omega)
           have l2:=HRB.out.cell (t:=r) (by have hb:=HB.out;have hg:=HGI.out;have hx:=HX.out;have hi:=HI.out;omega)
           have f1:=HRB.out.frozen q
           have f2:=HRB.out.frozen r
           obtain ⟨vp,hvp⟩:∃u,dj[q]! = u:=⟨_,rfl⟩
           obtain ⟨vq,hvq⟩:∃u,dj[r]! = u:=⟨_,rfl⟩
           have l3:=(HRB.out.set (t:=q) (by have hb:=HB.out;have hg:=HGI.out;have hx:=HX.out;have hi:=HI.out;omega) vq).cell (t:=r) (by rw [Array.size_setIfInBounds];have hb:=HB.out;have hg:=HGI.out;have hx:=HX.out;have hi:=HI.out;omega)
           obtain ⟨v3,hv3⟩:∃u,(dj.setIfInBounds q vq)[r]! = u:=⟨_,rfl⟩
           have HS:=Lib.hid (And.intro (HRB.out.swp (i:=q) (j:=r) (by have hb:=HB.out;have hg:=HGI.out;have hx:=HX.out;have hi:=HI.out;omega) (by have hb:=HB.out;have hg:=HGI.out;have hx:=HX.out;have hi:=HI.out;omega)) (HU.out.swp (p:=p) (.inl (by simp)) q r (.int .u32 dj[r]!) (.int .u32 dj[q]!)))
           rw [hvp,hvq] at HS
           rw [hvp] at l1
           rw [hvq] at l2
           rw [hv3] at l3
           clear hvp hvq hv3 HRB HU
           go_region
           generalize (W5.setCell ⟨p,q,none⟩ (.int .u32 vq)).setCell ⟨p,r,none⟩ (.int .u32 vp)=W1 at HS ⊢
           have HRB:=Lib.hid (HS.out.1.drew)
           have HU:=Lib.hid (HS.out.2.drew)
           clear HS l1 l2 l3 f1 f2
           go_wp2_with fail
           go_roundg (b - (q+1))
           case measure=>have:=HI.out;omega
           case rel=>exact ⟨q+1,_,rfl,by go_num,by have:=HI.out;omega,by have:=HI.out;omega,by rw [size_swp];exact HI.out.2.2.2.1,HRB.out,HU.out,HN2.out⟩
         ·have hz3:¬(q:Int)<(b:Int):=by omega
          rw [shiftUp,if_neg hq0] at heq
          have HZ:=Lib.hid (show dj=DB from heq)
          clear hm hxq hqb hdj hrb hu heq hq0
          go_wp2_with fail
          go_roundg s
          case measure=>have:=HR.out;omega
          case rel=>exact ⟨I,k+1,DB,by have:=HR.out;omega,rfl,by go_num,by have:=HR.out;have:=HGI.out;omega,by have:=HGI.out;omega,HDB.out.2,by rw [←HZ.out];exact HRB.out,HU.out,HE2.out⟩
       ·have hz2:¬(2:Int)≤(gB:Int):=fun h=>h2 (hdi.1 h)
        have hda:=HDB.out.1
        rw [if_neg h2] at hda
        have HSD:=Lib.hid hda
        clear h2 hdi hda
        simp only [hz2,decide_false]
        go_wp2_with fail
        go_roundg s
        case measure=>have:=HR.out;omega
        case rel=>exact ⟨I,k+1,DB,by have:=HR.out;omega,rfl,by go_num,by have:=HR.out;have:=HGI.out;omega,by have:=HGI.out;omega,HDB.out.2,by rw [←HSD.out];exact HRB.out,HU.out,HE2.out⟩
end Go.Proofs.YtkbaaonchdeneaaGreat
