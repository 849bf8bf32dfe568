/- What cells.Area reckons, plainly. cells.Area: the walk. -/
import Derived.Test.YtkmnbodlciepaaaGreatPk36
import Derived.Test.YtkmnbodlciepaaaGreatPk24
import Derived.Test.YtkmnbodlciepaaaGreatPk37
import Derived.Test.YtkmnbodlciepaaaGreatPk17
set_option maxHeartbeats 4000000
set_option maxRecDepth 100000
namespace Go.Proofs.YtkmnbodlciepaaaGreat
def colK (l:List Bx) (X Y:List Int) (i t:Nat):Nat:=sumK (fun k=>if covB l (nth X i) (nth Y k)=true then (nth X (i+1) - nth X i).toNat*(nth Y (k+1) - nth Y k).toNat else 0) t
def areaK (l:List Bx) (X Y:List Int) (n:Nat):Nat:=sumK (fun i=>colK l X Y i (Y.length - 1)) n
def areaN (l:List Bx):Nat:=areaK l (sqz (linX l)) (sqz (linY l)) ((sqz (linX l)).length - 1)
theorem colK_succ (l:List Bx) (X Y:List Int) (i t:Nat):colK l X Y i (t+1)=colK l X Y i t+(if covB l (nth X i) (nth Y t)=true then (nth X (i+1) - nth X i).toNat*(nth Y (t+1) - nth Y t).toNat else 0):=rfl
theorem areaK_succ (l:List Bx) (X Y:List Int) (k:Nat):areaK l X Y (k+1)=areaK l X Y k+colK l X Y k (Y.length - 1):=rfl
theorem rise_stepC {l:List Int} (h:l.Pairwise (· < ·)) {i:Nat} {a b:Int} (ha:l[i]? = some a) (hb:l[i+1]? = some b):a<b:=by
 obtain ⟨h1,rfl⟩:=List.getElem?_eq_some_iff.1 ha
 obtain ⟨h2,rfl⟩:=List.getElem?_eq_some_iff.1 hb
 exact List.pairwise_iff_getElem.1 h i (i+1) h1 h2 (by omega)
theorem linX_in {l:List Bx} (hb:∀b∈l,b.in64) (x:Int) (hx:x∈linX l) : -9223372036854775808≤x∧x≤9223372036854775807:=by
 unfold linX at hx
 obtain ⟨b,h1,h2⟩:=List.mem_flatMap.1 hx
 have h3:=hb b (List.mem_filter.1 h1).1
 unfold Bx.in64 at h3
 simp at h2
 rcases h2 with rfl | rfl
 ·exact h3.1
 ·exact h3.2.1
theorem linY_in {l:List Bx} (hb:∀b∈l,b.in64) (x:Int) (hx:x∈linY l) : -9223372036854775808≤x∧x≤9223372036854775807:=by
 unfold linY at hx
 obtain ⟨b,h1,h2⟩:=List.mem_flatMap.1 hx
 have h3:=hb b (List.mem_filter.1 h1).1
 unfold Bx.in64 at h3
 simp at h2
 rcases h2 with rfl | rfl
 ·exact h3.2.2.1
 ·exact h3.2.2.2
theorem nth_cons (a:Int) (l:List Int) (i:Nat):nth (a::l) (i+1)=nth l i:=by unfold nth;rw [List.getElem?_cons_succ]
theorem stepSum_sumK (f:Int→Int):∀(l:List Int) (g:Nat→Nat),(∀i,i<l.length - 1→(g i:Int)=f (nth l i)*(nth l (i+1) - nth l i))→(sumK g (l.length - 1):Int)=stepSum f l
 | [],g,_=>rfl
 | [_],g,_=>rfl
 |x::y::r,g,h=>by
  have e:(x::y::r).length - 1=((y::r).length - 1)+1:=by simp
  rw [e,sumK_cons,stepSum]
  have h0:=h 0 (by simp)
  have e0:nth (x::y::r) 0=x:=rfl
  have e1:nth (x::y::r) (0+1)=y:=rfl
  rw [e0,e1] at h0
  have ih:=stepSum_sumK f (y::r) (fun i=>g (i+1)) (fun i hi=>by
   have:=h (i+1) (by simp at hi ⊢;omega)
   rw [nth_cons,nth_cons] at this
   exact this)
  rw [Int.natCast_add,h0,ih]
theorem colK_eq {l:List Bx} {X Y:List Int} (hX:X.Pairwise (· < ·)) (hY:Y.Pairwise (· < ·)) {i:Nat} (hi:i<X.length - 1) :
 (colK l X Y i (Y.length - 1):Int)=stepSum (fun y=>ind (covB l (nth X i) y)) Y*(nth X (i+1) - nth X i):=by
 have hx:=rise_stepC hX (nth_get (l:=X) (i:=i) (by omega)) (nth_get (l:=X) (i:=i+1) (by omega))
 have h1:=stepSum_sumK (fun y=>ind (covB l (nth X i) y)) Y (fun k=>if covB l (nth X i) (nth Y k)=true then (nth Y (k+1) - nth Y k).toNat else 0) (fun k hk=>by
  have hy:=rise_stepC hY (nth_get (l:=Y) (i:=k) (by omega)) (nth_get (l:=Y) (i:=k+1) (by omega))
  cases hc:covB l (nth X i) (nth Y k)
  ·simp [ind]
  ·simp [ind];omega)
 rw [←h1]
 have h2:∀(g:Nat→Nat) (d:Nat) (n:Nat),sumK (fun k=>d*g k) n=d*sumK g n:=by
  intro g d n
  induction n with
  |zero=>simp [sumK]
  |succ n ih=>rw [sumK,sumK,ih,Nat.mul_add]
 have h3:colK l X Y i (Y.length - 1)=(nth X (i+1) - nth X i).toNat*sumK (fun k=>if covB l (nth X i) (nth Y k)=true then (nth Y (k+1) - nth Y k).toNat else 0) (Y.length - 1):=by
  rw [←h2]
  unfold colK
  exact sumK_congr _ fun k _=>by split<;>simp
 rw [h3,Int.natCast_mul,Int.toNat_of_nonneg (by omega),Int.mul_comm]
theorem areaK_eq {l:List Bx} {X Y:List Int} (hX:X.Pairwise (· < ·)) (hY:Y.Pairwise (· < ·)):(areaK l X Y (X.length - 1):Int)=areaS l X Y:=by
 unfold areaK areaS
 exact stepSum_sumK _ X _ fun i hi=>colK_eq hX hY hi
theorem areaN_eq (l:List Bx) {lo hi:Int} (hx:∀v∈linX l,lo≤v∧v≤hi) (hy:∀v∈linY l,lo≤v∧v≤hi):(areaN l:Int)=areaR l lo hi:=by
 unfold areaN
 rw [areaK_eq (sqz_rise _) (sqz_rise _),areaR_eq (sqz_rise _) (sqz_rise _) (fun v=>⟨sqz_mem,mem_sqz⟩) (fun v=>⟨sqz_mem,mem_sqz⟩) (fun v hv=>hx v (sqz_mem hv)) (fun v hv=>hy v (sqz_mem hv))]
theorem areaN_R {l:List Bx} (hb:∀b∈l,b.in64):(areaN l:Int)=areaR l (-9223372036854775808) 9223372036854775807:=areaN_eq l (linX_in hb) (linY_in hb)
theorem areaN_W {l:List Bx} (hb:∀b∈l,b.in64):W128 (areaN l):=by
 have h1:=areaN_R hb
 have h2:=areaR_le l (lo:=-9223372036854775808) (hi:=9223372036854775807) (by omega)
 rw [←h1] at h2
 have e:((9223372036854775807:Int) - -9223372036854775808)*(9223372036854775807 - -9223372036854775808)=340282366920938463426481119284349108225:=by decide
 rw [e] at h2
 unfold W128
 omega
theorem areaK_part (l:List Bx) (hb:∀b∈l,b.in64):∀k t,k<(sqz (linX l)).length - 1→t<(sqz (linY l)).length - 1→W128 (areaK l (sqz (linX l)) (sqz (linY l)) k+colK l (sqz (linX l)) (sqz (linY l)) k (t+1)):=by
 intro k t hk ht
 refine (areaN_W hb).mono ?_
 have h1:colK l (sqz (linX l)) (sqz (linY l)) k (t+1)≤colK l (sqz (linX l)) (sqz (linY l)) k ((sqz (linY l)).length - 1):=sumK_mono _ (by omega)
 have h2:areaK l (sqz (linX l)) (sqz (linY l)) (k+1)≤areaN l:=sumK_mono _ (by omega)
 rw [areaK_succ] at h2
 omega
open Go.RowKit
theorem KBat {w:World} {A:Option Addr} {n C:Nat} {l:List Bool} (h:See KB w (.slice A n C) l) {k:Nat} {x:Bool} (hx:l[k]? = some x) :
 ∃b o,A=some ⟨b,o,none⟩∧w.cell? ⟨b,o+k,none⟩=some (.bool x):=by
 obtain ⟨b,o,h1,-,-,h4⟩:=h.at hx
 have:=h4 0 _ rfl
 exact ⟨b,o,h1,by simpa [KB] using this⟩
theorem areaC (v:Value) (l:List Bx) (w:World) (hs:See KBx w v l) (hl:l.length<1000000) (hb:∀b∈l,b.in64) :
 Calls Tryz.prog 86 #[v] w fun e w'=>e=.returned (wideV (areaN l))∧Upd [] w w':=by
 obtain ⟨A,C,rfl⟩:=hs.form
 have hu0:Upd [] w (w.alloc (.cells #[.int .u64 0,.int .u64 0] 37)):=(Upd.refl _ _).alloc _
 have hbk:=blocksC (.slice A l.length C) l _ (hs.upd0 hu0) hl
 have hpart:=areaK_part l hb
 have hxr:=sqz_rise (linX l)
 have hyr:=sqz_rise (linY l)
 have hx64:∀x∈sqz (linX l),-9223372036854775808≤x∧x≤9223372036854775807:=fun x hx=>linX_in hb x (sqz_mem hx)
 have hy64:∀x∈sqz (linY l),-9223372036854775808≤x∧x≤9223372036854775807:=fun x hx=>linY_in hb x (sqz_mem hx)
 have hlx:(sqz (linX l)).length≤2000000:=Nat.le_trans (sqz_len _) (by have:=linX_len l;omega)
 have hly:(sqz (linY l)).length≤2000000:=Nat.le_trans (sqz_len _) (by have:=linY_len l;omega)
 have hae:areaN l=areaK l (sqz (linX l)) (sqz (linY l)) ((sqz (linX l)).length - 1):=rfl
 obtain ⟨X,hX⟩:∃X,sqz (linX l)=X:=⟨_,rfl⟩
 obtain ⟨Y,hY⟩:∃Y,sqz (linY l)=Y:=⟨_,rfl⟩
 rw [hX] at hbk hpart hxr hx64 hlx hae
 rw [hY] at hbk hpart hyr hy64 hly hae
 rw [hae]
 have h20:(w.alloc (.cells #[.int .u64 0,.int .u64 0] 37)).heap[w.heap.size]? = some (.cells #[.int .u64 0,.int .u64 0] 37 (0,0)):=heap_alloc_new _ _
 have HBK:=Lib.hid hbk
 have HPART:=Lib.hid hpart
 have HXR:=Lib.hid (And.intro hxr hx64)
 have HYR:=Lib.hid (And.intro hyr hy64)
 have HU0:=Lib.hid hu0
 have H20:=Lib.hid h20
 have HLX:=Lib.hid hlx
 have HLY:=Lib.hid hly
 clear hbk hpart hxr hyr hx64 hy64 hlx hly hae hX hY hs hl hb hu0 h20
 go_enter Tryz.func86,Tryz.ntmps86
 go_wp2_with fail
 (with_reducible refine HBK.out.mono ?_)
 rintro e W1 ⟨A1,C1,A2,C2,A3,C3,rfl,sx,sy,sr,hu1⟩
 have h2:=(hu1.block w.heap.size (lt_of_block H20.out) (by simp)).trans H20.out
 have hw1:=HU0.out.trans hu1
 have hs0:SumAt (W1.alloc (.cells #[.int .u64 0,.int .u64 0] 37)) W1.heap.size 0:=heap_alloc_new _ _
 have hua:Upd [] W1 (W1.alloc (.cells #[.int .u64 0,.int .u64 0] 37)):=(Upd.refl _ _).alloc _
 have HSX:=Lib.hid (And.intro sx (And.intro sy sr))
 have HS00:=Lib.hid (And.intro hs0 hua)
 have HW1:=Lib.hid (And.intro hw1 h2)
 obtain ⟨n,hn⟩:∃n:Nat,X.length - 1=n:=⟨_,rfl⟩
 have hcl:(colsB l X Y).length=n:=by rw [colsB_len,hn]
 rw [hn] at HSX ⊢
 have HN:=Lib.hid hn
 obtain ⟨p,hp⟩:∃p,W1.heap.size=p:=⟨_,rfl⟩
 rw [hp] at HS00
 have HP:=Lib.hid (show W1.heap.size≤p by omega)
 have hnb:(n:Int)≤2000000:=by have:=HLX.out;omega
 clear sx sy sr hu1 h2 hw1 hs0 hua hn
 go_upto_block 0 with fail
 clear hp
 generalize W1.alloc (.cells #[.int .u64 0,.int .u64 0] 37)=W0 at HS00 ⊢
 go_wp2_with fail
 go_loopg [19] n (fun m s19 wr=>∃k,m+k=n∧s19=.int .i64 (k:Int)∧SumAt wr p (areaK l X Y k)∧Upd [] W1 wr)
 case atStart=>exact ⟨0,rfl,rfl,HS00.out.1,HS00.out.2⟩
 case round=>
  obtain ⟨k,hk,rfl,hsum,hu⟩:=hrel
  have b0:(0:Int)≤(k:Int):=Int.natCast_nonneg _
  by_cases hlt:k<n
  ·have b1:(k:Int)<(n:Int):=by omega
   have b2:(k:Int)<2000000:=by omega
   obtain ⟨wo,rfl⟩:∃wo:World,wo=wr:=⟨_,rfl⟩
   obtain ⟨gr,gro,Ak,Ck,hA3,crow1,hrow⟩:=(HSX.out.2.2).at (colsB_get (l:=l) (X:=X) (Y:=Y) (i:=k) (by have:=HN.out;omega))
   subst hA3
   have crow:=(hu.cell (p:=⟨gr,gro+k,none⟩) (World.block_lt_of_cell? W1 _ crow1) (by simp)).trans crow1
   clear crow1
   obtain ⟨m,hm⟩:∃m:Nat,Y.length - 1=m:=⟨_,rfl⟩
   have hrl:(colB l X Y k).length=m:=by unfold colB;rw [rowL_len,hm]
   rw [hrl] at crow hrow
   have hmb:(m:Int)≤2000000:=by have:=HLY.out;omega
   have HROW:=Lib.hid hrow
   have HU0':=Lib.hid hu
   have HK:=Lib.hid hk
   have HLT:=Lib.hid hlt
   have HM:=Lib.hid hm
   have HS1:=Lib.hid hsum
   clear hrow hu hk hlt hm hsum hrl
   go_wp2_with fail
   clear crow
   go_loopg [26] m (fun j s26 wr=>∃t,j+t=m∧s26=.int .i64 (t:Int)∧SumAt wr p (areaK l X Y k+colK l X Y k t)∧Upd [] W1 wr)
   case atStart=>exact ⟨0,by omega,rfl,HS1.out,HU0'.out⟩
   case round=>
    obtain ⟨t,ht,rfl,hsum,hu⟩:=hrel
    have t0:(0:Int)≤(t:Int):=Int.natCast_nonneg _
    by_cases hlt2:t<m
    ·have t1:(t:Int)<(m:Int):=by omega
     have t2:(t:Int)<2000000:=by omega
     obtain ⟨c,hc⟩:∃c,covB l (nth X k) (nth Y t)=c:=⟨_,rfl⟩
     have hrow2:See KB wr (.slice Ak m Ck) (colB l X Y k):=HROW.out.upd0 hu
     obtain ⟨gb,ob,hAk,cb⟩:=KBat hrow2 (k:=t) (x:=c) (by unfold colB;rw [rowL_get (by have:=HM.out;omega),hc])
     subst hAk
     have hstep:=colK_succ l X Y k t
     rw [hc] at hstep
     have HT:=Lib.hid ht
     have HLT2:=Lib.hid hlt2
     cases c
     ·have HSUM:=Lib.hid (show SumAt wr p (areaK l X Y k+colK l X Y k (t+1)) by rw [hstep];simpa using hsum)
      have HU:=Lib.hid hu
      clear hsum hu ht hlt2 hrow2 hc hstep
      go_wp2_with fail
      go_roundg (m - (t+1))
      case measure=>have:=HT.out;omega
      case rel=>exact ⟨t+1,by have:=HT.out;have:=HLT2.out;omega,by go_num,HSUM.out,HU.out⟩
     ·have hX1:=nth_get (l:=X) (i:=k) (by have:=HN.out;have:=HLT.out;omega)
      have hX2:=nth_get (l:=X) (i:=k+1) (by have:=HN.out;have:=HLT.out;omega)
      have hY1:=nth_get (l:=Y) (i:=t) (by have:=HM.out;omega)
      have hY2:=nth_get (l:=Y) (i:=t+1) (by have:=HM.out;omega)
      have hxm:=rise_stepC HXR.out.1 hX1 hX2
      have hym:=rise_stepC HYR.out.1 hY1 hY2
      have x64:=HXR.out.2 _ (List.mem_of_getElem? hX1)
      have x64':=HXR.out.2 _ (List.mem_of_getElem? hX2)
      have y64:=HYR.out.2 _ (List.mem_of_getElem? hY1)
      have y64':=HYR.out.2 _ (List.mem_of_getElem? hY2)
      obtain ⟨gx,ox,hAx,-,-,cx0⟩:=KL.at (HSX.out.1.upd0 hu) hX1
      obtain ⟨gx',ox',hAx',-,-,cx1⟩:=KL.at (HSX.out.1.upd0 hu) hX2
      subst hAx
      cases hAx'
      obtain ⟨gy,oy,hAy,-,-,cy0⟩:=KL.at (HSX.out.2.1.upd0 hu) hY1
      obtain ⟨gy',oy',hAy',-,-,cy1⟩:=KL.at (HSX.out.2.1.upd0 hu) hY2
      subst hAy
      cases hAy'
      have hbd:=HPART.out k t (by have:=HN.out;have:=HLT.out;omega) (by have:=HM.out;omega)
      rw [hstep] at hbd
      obtain ⟨x0,hx0⟩:∃x,nth X k=x:=⟨_,rfl⟩
      obtain ⟨x1,hx1⟩:∃x,nth X (k+1)=x:=⟨_,rfl⟩
      obtain ⟨y0,hy0⟩:∃x,nth Y t=x:=⟨_,rfl⟩
      obtain ⟨y1,hy1⟩:∃x,nth Y (t+1)=x:=⟨_,rfl⟩
      rw [hx0] at hxm x64 cx0
      rw [hx1] at hxm x64' cx1
      rw [hy0] at hym y64 cy0
      rw [hy1] at hym y64' cy1
      rw [hx0,hx1,hy0,hy1] at hstep hbd
      obtain ⟨dx,hdx⟩:∃d:Nat,(x1 - x0).toNat=d:=⟨_,rfl⟩
      obtain ⟨dy,hdy⟩:∃d:Nat,(y1 - y0).toNat=d:=⟨_,rfl⟩
      rw [hdx,hdy] at hstep hbd
      simp only [if_true] at hstep hbd
      have hdfx:=fun w=>diffC x0 x1 w x64 x64'
      have hdfy:=fun w=>diffC y0 y1 w y64 y64'
      rw [show diffN x0 x1=(dx:Int) by unfold diffN;rw [if_neg (by omega)];omega] at hdfx
      rw [show diffN y0 y1=(dy:Int) by unfold diffN;rw [if_neg (by omega)];omega] at hdfy
      have hml:=fun w=>wMulC dx dy (by omega) (by omega) w
      obtain ⟨M,hMM⟩:∃M,dx*dy=M:=⟨_,rfl⟩
      obtain ⟨N,hNN⟩:∃N,areaK l X Y k+colK l X Y k t=N:=⟨_,rfl⟩
      rw [hMM] at hstep hbd
      simp only [hMM] at hml
      rw [←Nat.add_assoc,hNN] at hbd
      rw [hNN] at hsum
      have had:=fun w=>wAddC N M hbd w
      obtain ⟨h,hh⟩:∃h,N / 18446744073709551616=h:=⟨_,rfl⟩
      obtain ⟨lo,hlo⟩:∃lo,N % 18446744073709551616=lo:=⟨_,rfl⟩
      obtain ⟨h2,hh2⟩:∃h,(N+M) / 18446744073709551616=h:=⟨_,rfl⟩
      obtain ⟨lo2,hlo2⟩:∃lo,(N+M) % 18446744073709551616=lo:=⟨_,rfl⟩
      obtain ⟨mh,hmh⟩:∃h,M / 18446744073709551616=h:=⟨_,rfl⟩
      obtain ⟨ml,hml2⟩:∃lo,M % 18446744073709551616=lo:=⟨_,rfl⟩
      unfold wideV at had hml
      simp only [hh,hlo,hh2,hlo2,hmh,hml2] at had hml
      obtain ⟨s0,s1,-⟩:=hsum.cells
      rw [hh] at s0
      rw [hlo] at s1
      have htot:areaK l X Y k+colK l X Y k (t+1)=N+M:=by rw [hstep,←Nat.add_assoc,hNN]
      have HNEW:=Lib.hid (And.intro (show (areaK l X Y k+colK l X Y k (t+1)) / 18446744073709551616=h2 by rw [htot,hh2]) (show (areaK l X Y k+colK l X Y k (t+1)) % 18446744073709551616=lo2 by rw [htot,hlo2]))
      have HDX:=Lib.hid hdfx
      have HDY:=Lib.hid hdfy
      have HMUL:=Lib.hid hml
      have HADD:=Lib.hid had
      have i1:(k:Int)<(X.length:Int):=by have:=HN.out;have:=HLT.out;omega
      have i2:(k:Int)+1<(X.length:Int):=by have:=HN.out;have:=HLT.out;omega
      have j1:(t:Int)<(Y.length:Int):=by have:=HM.out;omega
      have j2:(t:Int)+1<(Y.length:Int):=by have:=HM.out;omega
      have HU2:=Lib.hid hu
      have HSM:=Lib.hid hsum
      have HC6:=Lib.hid (And.intro s0 (And.intro s1 (And.intro cx0 (And.intro cx1 (And.intro cy0 cy1)))))
      clear hsum hu ht hlt2 hrow2 hc hstep hbd htot hh hlo hh2 hlo2 hmh hml2 had hml hNN hMM hdfx hdfy hdx hdy hx0 hx1 hy0 hy1 hX1 hX2 hY1 hY2 hxm hym x64 x64' y64 y64' s0 s1 cx0 cx1 cy0 cy1
      go_upto_region 10 with fail
      obtain ⟨Wd,hWd⟩:∃Wd,Wd=wr.drew:=⟨_,rfl⟩
      have HS0:=Lib.hid (keep6 HC6.out (show Upd [] wr Wd by rw [hWd];exact (Upd.refl _ _).drew))
      have HU:=Lib.hid (show Upd [] W1 Wd by rw [hWd];exact HU2.out.drew)
      have HSUM:=Lib.hid (show SumAt Wd p N by rw [hWd];exact HSM.out)
      clear HC6 HU2 HSM cb
      have kp:(0:Int)≤(k:Int)+1:=by omega
      have tp:(0:Int)≤(t:Int)+1:=by omega
      have kn:((k:Int)+1).toNat=k+1:=by omega
      have tn:((t:Int)+1).toNat=t+1:=by omega
      have wk:IntKind.i64.wrap ((k:Int)+1)=(k:Int)+1:=IntWalk.i64_in _ ⟨by omega,by omega⟩
      have wt:IntKind.i64.wrap ((t:Int)+1)=(t:Int)+1:=IntWalk.i64_in _ ⟨by omega,by omega⟩
      refine GoT.start [22,23,24,25,26] (fun w'=>w'.cell? ⟨p,0,none⟩=some (.int .u64 h)∧w'.cell? ⟨p,1,none⟩=some (.int .u64 lo)∧w'.cell? ⟨gx,ox+k,none⟩=some (.int .i64 x0)∧w'.cell? ⟨gx,ox+(k+1),none⟩=some (.int .i64 x1)∧w'.cell? ⟨gy,oy+t,none⟩=some (.int .i64 y0)∧w'.cell? ⟨gy,oy+(t+1),none⟩=some (.int .i64 y1)) (by kernel_rfl) ?_ fun hS=>?_
      ·exact by rw [←hWd];exact HS0.out
      rw [←hWd] at hS ⊢
      clear hWd
      refine' GoT.tk 5 (i:=0) (oi:=⟨some 33,_,_,_,_,_⟩) rfl (by rfl) ?y10_0 ?_
      case y10_0=>intro w hSw;go_simp<;>with_reducible rfl
      simp only [Act.put,sA,sZ,sS]
      refine' GoT.mv (i:=1) (oi:=⟨some 34,_,_,_,_,_⟩) rfl (by rfl) ?y10_1 ?_
      case y10_1=>intro w;go_simp<;>with_reducible rfl
      simp only [Act.put,sA,sZ,sS]
      refine' GoT.mv (i:=2) (oi:=⟨some 35,_,_,_,_,_⟩) rfl (by rfl) ?y10_2 ?_
      case y10_2=>intro w;go_simp<;>with_reducible rfl
      simp only [Act.put,sA,sZ,sS]
      refine' GoT.mv (i:=3) (oi:=⟨some 36,_,_,_,_,_⟩) rfl (by rfl) ?y10_3 ?_
      case y10_3=>intro w;go_simp<;>with_reducible rfl
      simp only [Act.put,sA,sZ,sS]
      refine' GoT.tk 5 (i:=4) (oi:=⟨some 37,_,_,_,_,_⟩) rfl (by rfl) ?y10_4 ?_
      case y10_4=>intro w hSw;go_simp<;>with_reducible rfl
      simp only [Act.put,sA,sZ,sS]
      refine' GoT.mv (i:=5) (oi:=⟨some 38,_,_,_,_,_⟩) rfl (by rfl) ?y10_5 ?_
      case y10_5=>intro w;go_simp<;>with_reducible rfl
      simp only [Act.put,sA,sZ,sS]
      refine' GoT.mv (i:=6) (oi:=⟨some 39,_,_,_,_,_⟩) rfl (by rfl) ?y10_6 ?_
      case y10_6=>intro w;go_simp<;>with_reducible rfl
      simp only [Act.put,sA,sZ,sS]
      refine' GoT.mv (i:=7) (oi:=⟨some 40,_,_,_,_,_⟩) rfl (by rfl) ?y10_7 ?_
      case y10_7=>intro w;go_simp<;>with_reducible rfl
      simp only [Act.put,sA,sZ,sS]
      refine' GoT.mv (i:=8) (oi:=⟨some 41,_,_,_,_,_⟩) rfl (by rfl) ?y10_8 ?_
      case y10_8=>intro w;go_simp<;>with_reducible rfl
      simp only [Act.put,sA,sZ,sS]
      refine' GoT.tk 5 (i:=9) (oi:=⟨some 42,_,_,_,_,_⟩) rfl (by rfl) ?y10_9 ?_
      case y10_9=>intro w hSw;go_simp<;>with_reducible rfl
      simp only [Act.put,sA,sZ,sS]
      refine' GoT.mv (i:=11) (oi:=⟨some 44,_,_,_,_,_⟩) rfl (by rfl) ?y10_11 ?_
      case y10_11=>intro w;go_simp<;>with_reducible rfl
      simp only [Act.put,sA,sZ,sS]
      refine' GoT.mv (i:=12) (oi:=⟨some 45,_,_,_,_,_⟩) rfl (by rfl) ?y10_12 ?_
      case y10_12=>intro w;go_simp<;>with_reducible rfl
      simp only [Act.put,sA,sZ,sS]
      refine' GoT.mv (i:=13) (oi:=⟨some 46,_,_,_,_,_⟩) rfl (by rfl) ?y10_13 ?_
      case y10_13=>intro w;go_simp<;>with_reducible rfl
      simp only [Act.put,sA,sZ,sS]
      refine' GoT.tk 5 (i:=14) (oi:=⟨some 47,_,_,_,_,_⟩) rfl (by rfl) ?y10_14 ?_
      case y10_14=>intro w hSw;go_simp<;>with_reducible rfl
      simp only [Act.put,sA,sZ,sS]
      refine' GoT.mv (i:=15) (oi:=⟨some 48,_,_,_,_,_⟩) rfl (by rfl) ?y10_15 ?_
      case y10_15=>intro w;go_simp<;>with_reducible rfl
      simp only [Act.put,sA,sZ,sS]
      refine' GoT.mv (i:=16) (oi:=⟨some 49,_,_,_,_,_⟩) rfl (by rfl) ?y10_16 ?_
      case y10_16=>intro w;go_simp<;>with_reducible rfl
      simp only [Act.put,sA,sZ,sS]
      refine' GoT.mv (i:=17) (oi:=⟨some 50,_,_,_,_,_⟩) rfl (by rfl) ?y10_17 ?_
      case y10_17=>intro w;go_simp<;>with_reducible rfl
      simp only [Act.put,sA,sZ,sS]
      refine' GoT.mv (i:=18) (oi:=⟨some 51,_,_,_,_,_⟩) rfl (by rfl) ?y10_18 ?_
      case y10_18=>intro w;go_simp<;>with_reducible rfl
      simp only [Act.put,sA,sZ,sS]
      refine' GoT.tk 5 (i:=19) (oi:=⟨some 52,_,_,_,_,_⟩) rfl (by rfl) ?y10_19 ?_
      case y10_19=>intro w hSw;go_simp<;>with_reducible rfl
      simp only [Act.put,sA,sZ,sS]
      refine GoT.one (i:=10) (o:=⟨some 43,_,_,_,_,_⟩) rfl (by kernel_rfl) fun K hK=>?_
      go_simp
      go_at_call 47
      (with_reducible refine (HDX.out _).mono ?_)
      rintro e w' ⟨rfl,rfl⟩
      refine hK.out _ _ (fun _ h=>?_) ?_
      ·exact h
      clear hK K
      try simp only [Act.put,sA,sZ,sS]
      refine GoT.one (i:=20) (o:=⟨some 53,_,_,_,_,_⟩) rfl (by kernel_rfl) fun K hK=>?_
      go_simp
      go_at_call 47
      (with_reducible refine (HDY.out _).mono ?_)
      rintro e w' ⟨rfl,rfl⟩
      refine hK.out _ _ (fun _ h=>?_) ?_
      ·exact h
      clear hK K
      try simp only [Act.put,sA,sZ,sS]
      refine GoT.one (i:=21) (o:=⟨some 54,_,_,_,_,_⟩) rfl (by kernel_rfl) fun K hK=>?_
      go_simp
      go_at_call 45
      (with_reducible refine (HMUL.out _).mono ?_)
      rintro e w5 ⟨rfl,hu5⟩
      refine hK.out _ _ (fun _ h=>?_) ?_
      ·exact keep6 h hu5
      clear hK K
      try simp only [Act.put,sA,sZ,sS]
      have HU5:=Lib.hid hu5
      clear hu5
      refine GoT.one (i:=22) (o:=⟨some 55,_,_,_,_,_⟩) rfl (by kernel_rfl) fun K hK=>?_
      go_simp
      go_at_call 44
      (with_reducible refine (HADD.out _).mono ?_)
      rintro e w6 ⟨rfl,hu6⟩
      refine hK.out _ _ (fun h=>(by cases h)) ?_
      clear hK K
      try simp only [Act.put,sA,sZ,sS]
      have HU6:=Lib.hid (HU5.out.trans hu6)
      have hsm:=HSUM.out.upd0 HU6.out
      obtain ⟨z0,z1,zf⟩:=hsm.cells
      have zf0:=zf 0
      have zf1:=zf 1
      have HS6:=Lib.hid hsm
      clear hu6 zf hsm
      refine' GoT.mv (i:=23) (oi:=⟨some 32,_,_,_,_,_⟩) rfl (by rfl) ?y10_23 ?_
      case y10_23=>intro w;go_simp<;>with_reducible rfl
      simp only [Act.put,sA,sZ,sS]
      refine' GoT.mv (i:=24) (oi:=⟨some 56,_,_,_,_,_⟩) rfl (by rfl) ?y10_24 ?_
      case y10_24=>intro w;go_simp<;>with_reducible rfl
      simp only [Act.put,sA,sZ,sS]
      refine' GoT.mv (i:=25) (oi:=⟨some 57,_,_,_,_,_⟩) rfl (by rfl) ?y10_25 ?_
      case y10_25=>intro w;go_simp<;>with_reducible rfl
      simp only [Act.put,sA,sZ,sS]
      refine GoT.one (i:=26) (o:=⟨none,_,_,_,_,_⟩) rfl (by kernel_rfl) fun K hK=>?_
      go_simp
      refine hK.out _ _ (fun h=>(by cases h)) ?_
      clear hK K
      try simp only [Act.put,sA,sZ,sS]
      refine GoT.done (by kernel_rfl) ?_
      clear wk wt kn tn kp tp
      have HSN:=Lib.hid (HS6.out.set HNEW.out.1.symm HNEW.out.2.symm)
      have HUN:=Lib.hid (show Upd [] W1 ((w6.setCell ⟨p,0,none⟩ (.int .u64 h2)).setCell ⟨p,1,none⟩ (.int .u64 lo2)) from ((HU.out.trans HU6.out).setCell (.inr HP.out) _).setCell (.inr HP.out) _)
      clear z0 z1 zf0 zf1
      go_wp2_with fail
      go_roundg (m - (t+1))
      case measure=>have:=HT.out;omega
      case rel=>exact ⟨t+1,by have:=HT.out;have:=HLT2.out;omega,by go_num,HSN.out,HUN.out⟩
    ·have htm:t=m:=by omega
     have e:areaK l X Y k+colK l X Y k t=areaK l X Y (k+1):=by rw [areaK_succ,htm,←HM.out]
     rw [e] at hsum
     have HSUM:=Lib.hid hsum
     have HU:=Lib.hid hu
     clear hsum hu e htm ht
     go_wp2_with fail
     go_roundg (n - (k+1))
     case measure=>have:=HK.out;omega
     case rel=>exact ⟨k+1,by have:=HK.out;have:=HLT.out;omega,by go_num,HSUM.out,HU.out⟩
  ·have hkn:k=n:=by omega
   subst hkn
   obtain ⟨s0,s1,-⟩:=hsum.cells
   have h2:=(hu.block w.heap.size (lt_of_block HW1.out.2) (by simp)).trans HW1.out.2
   have r0:wr.cell? ⟨w.heap.size,0,none⟩=some (.int .u64 0):=by simp [World.cell?,h2]
   have r1:wr.cell? ⟨w.heap.size,1,none⟩=some (.int .u64 0):=by simp [World.cell?,h2]
   have f0:wr.frozen? ⟨w.heap.size,0,none⟩=false:=by simp [World.frozen?,h2]
   have f1:wr.frozen? ⟨w.heap.size,1,none⟩=false:=by simp [World.frozen?,h2]
   obtain ⟨h,hh⟩:∃h,areaK l X Y k / 18446744073709551616=h:=⟨_,rfl⟩
   obtain ⟨lo,hlo⟩:∃lo,areaK l X Y k % 18446744073709551616=lo:=⟨_,rfl⟩
   have hv:wideV (areaK l X Y k)=.agg #[.int .u64 (h:Int),.int .u64 (lo:Int)]:=by unfold wideV;rw [hh,hlo]
   have hz:SumAt wr w.heap.size 0:=h2
   have hfin:=hz.set hh.symm hlo.symm
   rw [hh] at s0
   rw [hlo] at s1
   have HFIN:=Lib.hid hfin
   have HV:=Lib.hid hv
   have HU:=Lib.hid (show Upd [] w ((wr.setCell ⟨w.heap.size,0,none⟩ (.int .u64 (h:Int))).setCell ⟨w.heap.size,1,none⟩ (.int .u64 (lo:Int))) from (((HW1.out.1.trans hu).setCell (.inr (Nat.le_refl _)) _).setCell (.inr (Nat.le_refl _)) _))
   clear hh hlo h2 hsum hu hk hv hz hfin
   go_wp2_with fail
   obtain ⟨e0,e1,-⟩:=HFIN.out.cells
   obtain ⟨E0,E1⟩:(areaK l X Y k / 18446744073709551616:Nat)=h∧(areaK l X Y k % 18446744073709551616:Nat)=lo:=by
    have:=HV.out
    unfold wideV at this
    injection this with this
    simp at this
    omega
   rw [E0] at e0
   rw [E1] at e1
   exact bodyPost_ret (v:=.agg #[.int .u64 (h:Int),.int .u64 (lo:Int)]) (by simp [results,Tryz.results86,go_sem,e0,e1]) rfl ⟨by rw [HN.out,HV.out],HU.out⟩
end Go.Proofs.YtkmnbodlciepaaaGreat
