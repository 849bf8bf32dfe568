/- Rows of names that are sorted: the words for the walks of slices.Sort. No program. slices.Sort -/
import Derived.Sort.AssemblyPlain
import Derived.Test.YtkbaaonchdeneaaGreatProg
import Derived.BigQuiet
import Derived.Deep.Light
import Derived.Test.YtkbaaonchdeneaaGreatPc1
set_option maxHeartbeats 8000000
set_option maxRecDepth 100000
namespace Go.Proofs.YtkbaaonchdeneaaGreat
open Go.RowKit Go.Sort
abbrev jB:Int->Value:=λx=>.int .u32 x
def RB (w:World) (p:Nat) (d:Array Int) (rest:List Value) (e:TypeId):Prop:=w.heap[p]? = some (.cells (d.toList.map jB++rest).toArray e (0,0))
section
variable {w w':World} {p:Nat} {d:Array Int} {rest:List Value} {e:TypeId}
theorem RB.lt (h:RB w p d rest e):p<w.heap.size:=lt_of_block h
theorem RB.cell (h:RB w p d rest e) {t:Nat} (ht:t<d.size):w.cell? ⟨p,t,none⟩=some (.int .u32 d[t]!):=by
 unfold RB at h
 have:((d.toList.map jB++rest).toArray)[t]? = some (jB d[t]!):=by
  rw [List.getElem?_toArray,List.getElem?_append_left (by simpa using ht),List.getElem?_map,Ba (by simpa using ht)];simp [getElem!_pos d t ht]
 simp only [World.cell?,h,this];rfl
theorem RB.frozen (h:RB w p d rest e) (t:Nat):w.frozen? ⟨p,t,none⟩=false:=by
 unfold RB at h;simp [World.frozen?,h]
theorem RB.upd {F:List Nat} (h:RB w p d rest e) (hu:Bj F w w') (hp:p∉F):RB w' p d rest e:=by
 unfold RB at h |-;rw [hu.block p (lt_of_block h) hp,h]
theorem RB.drew (h:RB w p d rest e):RB w.drew p d rest e:=h
theorem RB.drewN (h:RB w p d rest e) (n:Nat):RB (w.drewN n) p d rest e:=h
theorem RB.set (h:RB w p d rest e) {t:Nat} (ht:t<d.size) (x:Int):RB (w.setCell ⟨p,t,none⟩ (.int .u32 x)) p (d.setIfInBounds t x) rest e:=by
 unfold RB at h |-;rw [heap_setCell_same w p t _ _ _ h];congr 1
 congr 1
 apply Array.ext'
 simp only [List.setIfInBounds_toArray,Array.toList_setIfInBounds];rw [List.set_append_left _ _ (by simpa using ht),List.map_set]
theorem RB.swp (h:RB w p d rest e) {i j:Nat} (hi:i<d.size) (hj:j<d.size):RB ((w.setCell ⟨p,i,none⟩ (.int .u32 d[j]!)).setCell ⟨p,j,none⟩ (.int .u32 d[i]!)) p (Sort.swp d i j) rest e:=by
 unfold Sort.swp;exact (h.set hi _).set (by simpa using hj) _
theorem Bj.swp {F:List Nat} {a:World} (h:Bj F a w) (hp:p∈F\/a.heap.size<=p) (i j:Nat) (x y:Value):Bj F a ((w.setCell ⟨p,i,none⟩ x).setCell ⟨p,j,none⟩ y):=(h.setCell hp _).setCell hp _
end
def Rest (a b:Nat) (d0:Array Int) (a' b':Nat) (d:Array Int):Prop:=∀R,PermIn a' b' d R->SortedIn ltInt a' b' R->PermIn a b d0 R/\SortedIn ltInt a b R
theorem Rest.refl (a b:Nat) (d:Array Int):Rest a b d a b d:=λ_ h1 h2=>⟨h1,h2⟩
theorem Rest.perm {a b a' b':Nat} {d0 d d':Array Int} (h:Rest a b d0 a' b' d) (hp:PermIn a' b' d d'):Rest a b d0 a' b' d':=λR h1 h2=>h R (permIn_trans _ _ _ _ _ hp h1) h2
theorem Rest.equal {a b a' b' pivot mid:Nat} {d0 d d':Array Int} (h:Rest a b d0 a' b' d) (ha0:0<a') (hp1:a'<=pivot) (hp2:pivot<b') (hb:b'<=d.size) (hB:Sort.Below ltInt a' b' d)
 (hnl:ltInt d[a' - 1]! d[pivot]! = false) (hx:partitionEqual ltInt d a' b' pivot=(mid,d')):a'<mid/\mid<=b'/\d'.size=d.size/\Sort.Below ltInt mid b' d'/\Rest a b d0 mid b' d':=by
 obtain ⟨h1,h2,h3,h4,h5⟩:=round_eq swo_ltInt (partitionEqual_holds _) ha0 hp1 hp2 hb hB hnl hx;exact ⟨h1,h2,h3,h4,λR g1 g2=>by obtain ⟨g3,g4⟩:=h5 R g1 g2;exact h R g3 g4⟩
theorem Rest.part {a b a' b' pivot mid:Nat} {ap:Bool} {d0 d d':Array Int} (h:Rest a b d0 a' b' d) (hp1:a'<=pivot) (hp2:pivot<b') (hb:b'<=d.size) (hB:Sort.Below ltInt a' b' d)
 (hx:partition ltInt d a' b' pivot=(mid,ap,d')):a'<=mid/\mid<b'/\d'.size=d.size/\Sort.Below ltInt a' mid d'/\Sort.Below ltInt (mid+1) b' d'/\
 (∀L,PermIn a' mid d' L->SortedIn ltInt a' mid L->Sort.Below ltInt (mid+1) b' L/\Rest a b d0 (mid+1) b' L)/\
 (∀L,PermIn (mid+1) b' d' L->SortedIn ltInt (mid+1) b' L->Sort.Below ltInt a' mid L/\Rest a b d0 a' mid L):=by
 obtain ⟨h1,h2,h3,h4,h5,h6,h7⟩:=round_part swo_ltInt (partition_holds _) hp1 hp2 hb hB hx;refine ⟨h1,h2,h3,h4,h5,λL g1 g2=>?_,λL g1 g2=>?_⟩
 ·obtain ⟨g3,g4⟩:=h6 L g1 g2;exact ⟨g3,λR k1 k2=>by obtain ⟨k3,k4⟩:=g4 R k1 k2;exact h R k3 k4⟩
 ·obtain ⟨g3,g4⟩:=h7 L g1 g2;exact ⟨g3,λR k1 k2=>by obtain ⟨k3,k4⟩:=g4 R k1 k2;exact h R k3 k4⟩
end Go.Proofs.YtkbaaonchdeneaaGreat
namespace Go.Proofs.YtkbaaonchdeneaaGreat
open Go.RowKit Go.Sort
theorem a6I (x:Int) (w:World):Calls Tryz.prog 204 #[.int .u32 x] w λe w'=>e=.returned (.bool false)/\w'=w:=by
 go_enter Tryz.func204,Tryz.ntmps204
 go_wp2_with fail
 go_ret
 exact ⟨by simp,rfl⟩
theorem JA (x y:Int) (w:World):Calls Tryz.prog 189 #[.int .u32 x,.int .u32 y] w λe w'=>e=.returned (.bool (ltInt x y))/\w'=w:=by
 have HN:=λx w=>a6I x w
 go_enter Tryz.func189,Tryz.ntmps189
 go_wp2_with (first | (go_at_call 204;go_fit (HN _ _);rintro e w' ⟨rfl,rfl⟩))
 go_ret
 exact ⟨rfl,rfl⟩
def FZ (w:World) (p:Nat) (rest:List Value) (et:TypeId) (d':Array Int) (e:Ending) (w':World):Prop:=e=.returned (.tuple #[])/\RB w' p d' rest et/\Bj [p] w w'
theorem yt (p C a b:Nat) (d:Array Int) (rest:List Value) (et:TypeId) (w:World) (h:RB w p d rest et) (hab:a<=b) (hb:b<=d.size) (hsz:d.size<1000000) :
 Calls Tryz.prog 183 #[.slice (some ⟨p,0,none⟩) d.size C,(a:Int),(b:Int)] w (FZ w p rest et (insertionSort ltInt d a b)):=by
 unfold FZ;obtain ⟨n,hn⟩:=AU d.size;obtain ⟨R,hR⟩:=AU (insertionSort ltInt d a b);rw [hn] at hb hsz |-;rw [hR];have b0:(b:Int)<1000000:=by omega
 have a0:(a:Int)<=(b:Int):=by omega
 have HH:=AX h;have HR:=AX hR;have HN:=AX hn;have HB:=Ap hab hb;clear h hR hn hab hb hsz;go_enter Tryz.func183,Tryz.ntmps183
 go_wp2_with fail
 go_loopg [6] (b - (a+1)) (λm s6 wr=>∃(i:Nat) (dk:Array Int),m=b - i/\s6=.int .i64 (i:Int)/\a<i/\dk.size=n/\RB wr p dk rest et/\Bj [p] w wr/\insOuter ltInt a b i dk=R)
 case atStart=>exact ⟨a+1,d,rfl,by go_num,by omega,HN.out,HH.out,Bj.refl _ _,HR.out⟩
 case round=>
  obtain ⟨i,dk,hm,rfl,hai,hdn,hrb,hu,heq⟩:=hrel;have HI:=Ap hm hai;have HD:=AX hdn;have HU:=AX hu;have Cj:=AX hrb;clear hm hdn hu hrb;have i0:(a:Int)<(i:Int):=by omega
  by_cases hlt:i<b
  ·have i1:(i:Int)<(b:Int):=by omega
   have he:insOuter ltInt a b (i+1) (insInner ltInt a i dk)=R:=by rw [<-heq];conv=>rhs;rw [insOuter,if_pos hlt]
   have HE:=AX he;have JO:=AX hlt;clear heq he hlt hai;go_wp2_with fail
   go_loopg [7] (i) (λm s7 wr=>∃(j:Nat) (dj:Array Int),m=j/\s7=.int .i64 (j:Int)/\a<=j/\j<=i/\dj.size=n/\RB wr p dj rest et/\Bj [p] w wr/\insInner ltInt a j dj=insInner ltInt a i dk)
   case atStart=>exact ⟨i,dk,rfl,rfl,Ac HI,Nat.le_refl _,HD.out,Cj.out,HU.out,rfl⟩
   case round=>
    obtain ⟨j,dj,hm,rfl,haj,hji,hdn,hrb,hu,heq⟩:=hrel;obtain ⟨wl,rfl⟩:∃wl:World,wl=wr:=⟨_,rfl⟩;have j1:(j:Int)<=(i:Int):=by omega
    have j0:(a:Int)<=(j:Int):=by omega
    by_cases hja:a<j
    ·have a3A:(a:Int)<(j:Int):=by omega
     obtain ⟨k,hk⟩:∃k:Nat,j=k+1:=⟨j - 1,by omega⟩;have hkz:(j:Int) - 1=(k:Int):=by omega
     have c1:=hrb.cell (t:=j) (Ad JO HB);have c2:=hrb.cell (t:=k) (Ad JO HB);have f1:=hrb.frozen j;have f2:=hrb.frozen k;obtain ⟨x,hx⟩:∃x,dj[j]! = x:=⟨_,rfl⟩;obtain ⟨y,hy⟩:∃y,dj[k]! = y:=⟨_,rfl⟩;obtain ⟨c,hc⟩:=AU (ltInt x y);have Yg:=λw=>JA x y w
     simp only [hc] at Yg;rw [hx] at c1;rw [hy] at c2;have HK:=AX hk;have HM:=AX hm;have HJ:=Ap hja hji;have jC:=AX hdn;have HRJ:=AX hrb;have HUJ:=AX hu;have HQ:=AX heq;have HX:=Aq hx hy hc;have j2:(j:Int)<1000000:=by omega
     have j3:(j:Int)<(n:Int):=Ad JO HB;clear hk hm hja hji hdn hrb hu heq hx hy hc haj
     cases c
     ·go_wp2_with fail
      go_quiet (first | (go_at_call 189;refine Calls.quiet_of_same (Yg _)))
      go_wp2_with fail
      go_roundg (b - (i+1))
      case measure=>have:=HI.out;have:=JO.out;omega
      case rel=>
       refine ⟨i+1,dj,rfl,by go_num,Ac HI,jC.out,HRJ.out.drewN _,HUJ.out.drewN _,?_⟩
       rw [<-HE.out,<-HQ.out,HK.out,insInner,<-HK.out,HX.1,HX.2.1,HX.2.2,Bool.and_false];rfl
     ·go_wp2_with fail
      go_quiet (first | (go_at_call 189;refine Calls.quiet_of_same (Yg _)))
      go_wp2_with fail
      have HRW:=AX (HRJ.out.drewN nq);have pG:=AX (HUJ.out.drewN nq);clear c1 c2 f1 f2;generalize wl.drewN nq=W at HRW pG |-;have c1:=HRW.out.cell (t:=j) (Af jC JO HB HJ);have c2:=HRW.out.cell (t:=k) (Ah jC JO HB HJ HK);have f1:=HRW.out.frozen j;have f2:=HRW.out.frozen k;rw [HX.1] at c1;rw [HX.2.1] at c2;have HS:=Ap (HRW.out.swp (i:=j) (j:=k) (Af jC JO HB HJ) (Ah jC JO HB HJ HK)) (pG.out.swp (p:=p) (.inl (by simp)) j k (.int .u32 dj[k]!) (.int .u32 dj[j]!));rw [HX.1,HX.2.1] at HS;go_region
      generalize (W.setCell ⟨p,j,none⟩ (.int .u32 y)).setCell ⟨p,k,none⟩ (.int .u32 x)=W2 at HS |-;go_wp2_with fail
      go_roundg k
      case measure=>have:=HK.out;have:=HM.out;omega
      case rel=>
       refine ⟨k,Sort.swp dj j k,rfl,rfl,Ad HK HJ,Ad HK HJ,by rw [size_swp];exact jC.out,HS.1,HS.2.drew,?_⟩
       rw [<-HQ.out,HK.out,insInner,<-HK.out,HX.1,HX.2.1,HX.2.2,decide_eq_true HJ.1];rfl
    ·have a3A:¬(a:Int)<(j:Int):=by omega
     have hjd:decide (a<j)=false:=decide_eq_false hja;have hje:j=a:=by omega
     have HRJ:=AX hrb;have HUJ:=AX hu;have jC:=AX hdn
     have he:dj=insInner ltInt a i dk:=by
      rw [<-heq,hje]
      cases a with
      |zero=>rfl
      |succ a=>rw [insInner,decide_eq_false (by omega),Bool.false_and];rfl
     have HQ:=AX he;clear heq hje he hrb hu hdn hja hji haj hm a3A j0 j1;go_wp2_with fail
     go_quiet (fail)
     go_wp2_with fail
     go_roundg (b - (i+1))
     case measure=>have:=HI.out;have:=JO.out;omega
     case rel=>exact ⟨i+1,dj,rfl,by go_num,Ac HI,jC.out,HRJ.out.drewN _,HUJ.out.drewN _,by rw [HQ.out];exact HE.out⟩
  ·have i1:¬(i:Int)<(b:Int):=by omega
   rw [insOuter,if_neg hlt] at heq;have HE:=AX heq;clear heq hlt hai;go_wp2_with fail
   go_end0
   exact ⟨rfl,by rw [<-HE.out];exact Cj.out,HU.out⟩
end Go.Proofs.YtkbaaonchdeneaaGreat
namespace Go.Sort
variable {α:Type} [Inhabited α] (lt:α->α->Bool)
theorem WU {hi F root:Nat} (d:Array α) (h:hi<=2*root+1):siftDown lt hi F root d=d:=by rw [siftDown,dif_pos h]
theorem Tt {hi F root k:Nat} (d:Array α) (h:k<hi)
 (hk:(k=2*root+2/\lt d[F+(2*root+1)]! d[F+(2*root+2)]! = true)\/(k=2*root+1/\(hi<=2*root+2\/lt d[F+(2*root+1)]! d[F+(2*root+2)]! = false))) :
 siftDown lt hi F root d=if lt d[F+root]! d[F+k]! = true then siftDown lt hi F k (swp d (F+root) (F+k)) else d:=by
 rcases hk with ⟨rfl,hl⟩ | ⟨rfl,hl⟩
 ·rw [siftDown,dif_neg (by omega),show F+(2*root+1)+1=F+(2*root+2) by omega,hl]
  cases lt d[F+root]! d[F+(2*root+2)]!<;>simp [show 2*root+1+1<hi by omega]
 ·rw [siftDown,dif_neg (by omega),show F+(2*root+1)+1=F+(2*root+2) by omega];rcases hl with hl | hl
  ·cases lt d[F+root]! d[F+(2*root+1)]!<;>simp [show ¬2*root+1+1<hi by omega]
  ·rw [hl]
   cases lt d[F+root]! d[F+(2*root+1)]!<;>simp
end Go.Sort
namespace Go.Proofs.YtkbaaonchdeneaaGreat
open Go.RowKit Go.Sort
theorem a0Q (p C lo hi F:Nat) (d:Array Int) (rest:List Value) (et:TypeId) (w:World) (h:RB w p d rest et) (hlo:lo<=hi) (hb:F+hi<=d.size) (hsz:d.size<1000000) :
 Calls Tryz.prog 241 #[.slice (some ⟨p,0,none⟩) d.size C,(lo:Int),(hi:Int),(F:Int)] w (FZ w p rest et (siftDown ltInt hi F lo d)):=by
 unfold FZ;obtain ⟨n,hn⟩:=AU d.size;obtain ⟨R,hR⟩:=AU (siftDown ltInt hi F lo d);rw [hn] at hb hsz |-;rw [hR];have b0:(hi:Int)<1000000:=by omega
 have b1:(F:Int)<1000000:=by omega
 have b2:(n:Int)<1000000:=by omega
 have HH:=AX h;have HR:=AX hR;have HN:=AX hn;have HB:=Ap hlo hb;clear h hR hn hlo hb hsz;go_enter Tryz.func241,Tryz.ntmps241
 go_wp2_with fail
 go_loopg [8] (hi - lo) (λm s8 wr=>∃(root:Nat) (dk:Array Int),m=hi - root/\s8=.int .i64 (root:Int)/\root<=hi/\dk.size=n/\RB wr p dk rest et/\Bj [p] w wr/\siftDown ltInt hi F root dk=R)
 case atStart=>exact ⟨lo,d,rfl,rfl,HB.1,HN.out,HH.out,Bj.refl _ _,HR.out⟩
 case round=>
  obtain ⟨root,dk,hm,rfl,hrh,hdn,hrb,hu,heq⟩:=hrel;obtain ⟨c,hc⟩:∃c,c=2*root+1:=⟨_,rfl⟩;have e1:2*(root:Int)+1=(c:Int):=by omega
  have r0:(root:Int)<=(hi:Int):=by omega
  have HM:=Ap hm hrh;have HC:=AX hc;have HD:=AX hdn;have Cj:=AX hrb;have HU:=AX hu;have HQ:=AX heq;have c0:(c:Int)<3000000:=by omega
  by_cases h0:hi<=c
  ·have hz:(hi:Int)<=(c:Int):=by omega
   rw [WU ltInt dk (by omega)] at heq;have HE:=AX heq;clear h0 hm hrh hc hdn hrb hu heq;go_wp2_with fail
   go_end0
   exact ⟨rfl,by rw [<-HE.out];exact Cj.out,HU.out⟩
  ·have hz:¬(hi:Int)<=(c:Int):=by omega
   have hz2:(c:Int)<(hi:Int):=by omega
   have H0:=AX (show c<hi by omega);obtain ⟨r,hr⟩:∃r,r=F+root:=⟨_,rfl⟩;obtain ⟨x,hx⟩:∃x,x=F+c:=⟨_,rfl⟩;obtain ⟨c1,hc1⟩:∃c1,c1=c+1:=⟨_,rfl⟩;obtain ⟨x1,hx1⟩:∃x1,x1=x+1:=⟨_,rfl⟩;have e2:(F:Int)+(root:Int)=(r:Int):=by omega
   have e3:(F:Int)+(c:Int)=(x:Int):=by omega
   have e4:(c:Int)+1=(c1:Int):=by omega
   have e5:(x:Int)+1=(x1:Int):=by omega
   have e6:(F:Int)+(c1:Int)=(x1:Int):=by omega
   have g1:(r:Int)<(n:Int):=Ac HB;have g2:(x:Int)<(n:Int):=Ac HB;have l1:=hrb.cell (t:=r) (Ac HB);have l2:=hrb.cell (t:=x) (Ac HB);obtain ⟨vr,yu⟩:∃v,dk[r]! = v:=⟨_,rfl⟩;obtain ⟨vx,ZK⟩:∃v,dk[x]! = v:=⟨_,rfl⟩;obtain ⟨vy,hvy⟩:∃v,dk[x1]! = v:=⟨_,rfl⟩;rw [yu] at l1;rw [ZK] at l2;obtain ⟨t1,ht1⟩:∃t,ltInt vx vy=t:=⟨_,rfl⟩;have Yg:=λx y w=>JA x y w
   have HV:=Aq yu ZK hvy;have HX:=Au hr hx hc1 hx1;have HT:=AX ht1;clear yu ZK hvy hr hx hc1 hx1 ht1 h0 hm hrh hdn hu heq;by_cases h2:c1<hi
   ·have h2z:(c1:Int)<(hi:Int):=by omega
    have h2d:decide (c1<hi)=true:=decide_eq_true h2;have g3:(x1:Int)<(n:Int):=Ad HB HX;have l3:=hrb.cell (t:=x1) (Ag HB HD HX);rw [HV.2.2] at l3;have H2:=AX h2;have ND:=AX (show ∀w,Calls Tryz.prog 189 #[.int .u32 vx,.int .u32 vy] w λe w'=>e=.returned (.bool t1)/\w'=w from λw=>by have:=Yg vx vy w;rw [HT.out] at this;exact this);clear h2 hrb hc
    cases t1
    ·go_wp2_with fail
     go_quiet (first | (go_at_call 189;refine Calls.quiet_of_same (ND.out _)))
     go_wp2_with fail
     have HW:=Ap (Cj.out.drewN nq) (HU.out.drewN nq);clear l1 l2 l3;generalize wr.drewN nq=W at HW |-;have l1:=HW.1.cell (t:=r) (Ai HB HD HX HM H0 HC);have l2:=HW.1.cell (t:=x) (Ah HB HD HX H2 H0);have f1:=HW.1.frozen r;have f2:=HW.1.frozen x;rw [HV.1] at l1;rw [HV.2.1] at l2;obtain ⟨t2,ht2⟩:∃t,ltInt vr vx=t:=⟨_,rfl⟩;have HLY:=AX (show ∀w,Calls Tryz.prog 189 #[.int .u32 vr,.int .u32 vx] w λe w'=>e=.returned (.bool t2)/\w'=w from λw=>by have:=Yg vr vx w;rw [ht2] at this;exact this)
     have hone:siftDown ltInt hi F root dk=if t2=true then siftDown ltInt hi F c (swp dk r x) else dk:=by
      have h1:=HX.out;have h2:=HC.out;have hv:=HV.out;have h:=Tt ltInt (F:=F) (root:=root) (hi:=hi) (k:=c) dk (Ad H2 H0) (.inr ⟨by omega,.inr (by rw [show F+(2*root+1)=x by omega,show F+(2*root+2)=x1 by omega,hv.2.1,hv.2.2,HT.out])⟩);rw [<-h1.1,show F+c=x by omega,hv.1,HV.2.1,ht2] at h;exact h
     have HO:=AX (hone.symm.trans HQ.out);have pI:=Yg;clear ht2 hone Yg pI
     cases t2
     ·go_quiet (first | (go_at_call 189;refine Calls.quiet_of_same (HLY.out _)))
      go_wp2_with fail
      (try simp only [Exit.inBlock,Exit.then])
      refine bodyPost_ret (results_none rfl _ _ _) rfl ?_
      refine ⟨rfl,?_,HW.2.drewN _⟩
      have:=HO.out;rw [if_neg (by decide)] at this;rw [<-this];exact HW.1.drewN _
     ·go_quiet (first | (go_at_call 189;refine Calls.quiet_of_same (HLY.out _)))
      go_wp2_with fail
      have HW2:=Ap (HW.1.drewN nq) (HW.2.drewN nq);clear l1 l2 f1 f2;generalize W.drewN nq=W1 at HW2 |-;have l1:=HW2.1.cell (t:=r) (Ai HB HD HX HM H0 HC);have l2:=HW2.1.cell (t:=x) (Ah HB HD HX H2 H0);have f1:=HW2.1.frozen r;have f2:=HW2.1.frozen x;have HS:=Ap (HW2.1.swp (i:=r) (j:=x) (Ai HB HD HX HM H0 HC) (Ah HB HD HX H2 H0)) (HW2.2.swp (p:=p) (.inl (by simp)) r x (.int .u32 dk[x]!) (.int .u32 dk[r]!));rw [HV.1,HV.2.1] at HS;rw [HV.1] at l1;rw [HV.2.1] at l2;go_region
      generalize (W1.setCell ⟨p,r,none⟩ (.int .u32 vx)).setCell ⟨p,x,none⟩ (.int .u32 vr)=W2 at HS |-;go_wp2_with fail
      go_roundg (hi - c)
      case measure=>have:=HM.out;have:=HX.out;have:=HC.out;have:=H2.out;have:=H0.out;omega
      case rel=>
       refine ⟨c,swp dk r x,rfl,rfl,Ag H2 HX H0,by rw [size_swp];exact HD.out,HS.1,HS.2.drew,?_⟩
       have:=HO.out;simpa using this
    ·go_wp2_with fail
     go_quiet (first | (go_at_call 189;refine Calls.quiet_of_same (ND.out _)))
     go_wp2_with fail
     have HW:=Ap (Cj.out.drewN nq) (HU.out.drewN nq);clear l1 l2 l3;generalize wr.drewN nq=W at HW |-;have l1:=HW.1.cell (t:=r) (Ai HB HD HX HM H0 HC);have l2:=HW.1.cell (t:=x1) (Ah HB HD HX H2 H0);have f1:=HW.1.frozen r;have f2:=HW.1.frozen x1;rw [HV.1] at l1;rw [HV.2.2] at l2;obtain ⟨t2,ht2⟩:∃t,ltInt vr vy=t:=⟨_,rfl⟩;have HLY:=AX (show ∀w,Calls Tryz.prog 189 #[.int .u32 vr,.int .u32 vy] w λe w'=>e=.returned (.bool t2)/\w'=w from λw=>by have:=Yg vr vy w;rw [ht2] at this;exact this)
     have hone:siftDown ltInt hi F root dk=if t2=true then siftDown ltInt hi F c1 (swp dk r x1) else dk:=by
      have h1:=HX.out;have h2:=HC.out;have hv:=HV.out;have h:=Tt ltInt (F:=F) (root:=root) (hi:=hi) (k:=c1) dk (Ad H2 H0) (.inl ⟨by omega,by rw [show F+(2*root+1)=x by omega,show F+(2*root+2)=x1 by omega,hv.2.1,hv.2.2,HT.out]⟩);rw [<-h1.1,show F+c1=x1 by omega,hv.1,HV.2.2,ht2] at h;exact h
     have HO:=AX (hone.symm.trans HQ.out);have pI:=Yg;clear ht2 hone Yg pI
     cases t2
     ·go_quiet (first | (go_at_call 189;refine Calls.quiet_of_same (HLY.out _)))
      go_wp2_with fail
      (try simp only [Exit.inBlock,Exit.then])
      refine bodyPost_ret (results_none rfl _ _ _) rfl ?_
      refine ⟨rfl,?_,HW.2.drewN _⟩
      have:=HO.out;rw [if_neg (by decide)] at this;rw [<-this];exact HW.1.drewN _
     ·go_quiet (first | (go_at_call 189;refine Calls.quiet_of_same (HLY.out _)))
      go_wp2_with fail
      have HW2:=Ap (HW.1.drewN nq) (HW.2.drewN nq);clear l1 l2 f1 f2;generalize W.drewN nq=W1 at HW2 |-;have l1:=HW2.1.cell (t:=r) (Ai HB HD HX HM H0 HC);have l2:=HW2.1.cell (t:=x1) (Ah HB HD HX H2 H0);have f1:=HW2.1.frozen r;have f2:=HW2.1.frozen x1;have HS:=Ap (HW2.1.swp (i:=r) (j:=x1) (Ai HB HD HX HM H0 HC) (Ah HB HD HX H2 H0)) (HW2.2.swp (p:=p) (.inl (by simp)) r x1 (.int .u32 dk[x1]!) (.int .u32 dk[r]!));rw [HV.1,HV.2.2] at HS;rw [HV.1] at l1;rw [HV.2.2] at l2;go_region
      generalize (W1.setCell ⟨p,r,none⟩ (.int .u32 vy)).setCell ⟨p,x1,none⟩ (.int .u32 vr)=W2 at HS |-;go_wp2_with fail
      go_roundg (hi - c1)
      case measure=>have:=HM.out;have:=HX.out;have:=HC.out;have:=H2.out;have:=H0.out;omega
      case rel=>
       refine ⟨c1,swp dk r x1,rfl,rfl,Ag H2 HX H0,by rw [size_swp];exact HD.out,HS.1,HS.2.drew,?_⟩
       have:=HO.out;simpa using this
   ·have h2z:¬(c1:Int)<(hi:Int):=by omega
    have h2d:decide (c1<hi)=false:=decide_eq_false h2;have H2:=AX h2;clear h2 hrb hc h2z;go_wp2_with fail
    go_quiet (fail)
    go_wp2_with fail
    have HW:=Ap (Cj.out.drewN nq) (HU.out.drewN nq);clear l1 l2;generalize wr.drewN nq=W at HW |-;have l1:=HW.1.cell (t:=r) (Ai HB HD HX HM H0 HC);have l2:=HW.1.cell (t:=x) (Ah HB HD HX H2 H0);have f1:=HW.1.frozen r;have f2:=HW.1.frozen x;rw [HV.1] at l1;rw [HV.2.1] at l2;obtain ⟨t2,ht2⟩:∃t,ltInt vr vx=t:=⟨_,rfl⟩;have HLY:=AX (show ∀w,Calls Tryz.prog 189 #[.int .u32 vr,.int .u32 vx] w λe w'=>e=.returned (.bool t2)/\w'=w from λw=>by have:=Yg vr vx w;rw [ht2] at this;exact this)
    have hone:siftDown ltInt hi F root dk=if t2=true then siftDown ltInt hi F c (swp dk r x) else dk:=by
     have h1:=HX.out;have h2:=HC.out;have hv:=HV.out;have h:=Tt ltInt (F:=F) (root:=root) (hi:=hi) (k:=c) dk (Ad H2 H0) (.inr ⟨by omega,.inl (Ac H2)⟩);rw [<-h1.1,show F+c=x by omega,hv.1,HV.2.1,ht2] at h;exact h
    have HO:=AX (hone.symm.trans HQ.out);have pI:=Yg;clear ht2 hone Yg pI
    cases t2
    ·go_quiet (first | (go_at_call 189;refine Calls.quiet_of_same (HLY.out _)))
     go_wp2_with fail
     (try simp only [Exit.inBlock,Exit.then])
     refine bodyPost_ret (results_none rfl _ _ _) rfl ?_
     refine ⟨rfl,?_,HW.2.drewN _⟩
     have:=HO.out;rw [if_neg (by decide)] at this;rw [<-this];exact HW.1.drewN _
    ·go_quiet (first | (go_at_call 189;refine Calls.quiet_of_same (HLY.out _)))
     go_wp2_with fail
     have HW2:=Ap (HW.1.drewN nq) (HW.2.drewN nq);clear l1 l2 f1 f2;generalize W.drewN nq=W1 at HW2 |-;have l1:=HW2.1.cell (t:=r) (Ai HB HD HX HM H0 HC);have l2:=HW2.1.cell (t:=x) (Ah HB HD HX H2 H0);have f1:=HW2.1.frozen r;have f2:=HW2.1.frozen x;have HS:=Ap (HW2.1.swp (i:=r) (j:=x) (Ai HB HD HX HM H0 HC) (Ah HB HD HX H2 H0)) (HW2.2.swp (p:=p) (.inl (by simp)) r x (.int .u32 dk[x]!) (.int .u32 dk[r]!));rw [HV.1,HV.2.1] at HS;rw [HV.1] at l1;rw [HV.2.1] at l2;go_region
     generalize (W1.setCell ⟨p,r,none⟩ (.int .u32 vx)).setCell ⟨p,x,none⟩ (.int .u32 vr)=W2 at HS |-;go_wp2_with fail
     go_roundg (hi - c)
     case measure=>have:=HM.out;have:=HX.out;have:=HC.out;have:=H2.out;have:=H0.out;omega
     case rel=>
      refine ⟨c,swp dk r x,rfl,rfl,Ag H2 HX H0,by rw [size_swp];exact HD.out,HS.1,HS.2.drew,?_⟩
      have:=HO.out;simpa using this
end Go.Proofs.YtkbaaonchdeneaaGreat
namespace Go.Sort
variable {α:Type} [Inhabited α] (lt:α->α->Bool)
theorem eX (hi F:Nat):∀(m root:Nat) (d:Array α),hi - root<=m->(siftDown lt hi F root d).size=d.size:=by
 intro m;induction m with
 |zero=>intro root d h;rw [WU lt d (by omega)]
 |succ m ih=>
  intro root d h;by_cases h0:hi<=2*root+1
  ·rw [WU lt d h0]
  ·by_cases hc:2*root+2<hi/\lt d[F+(2*root+1)]! d[F+(2*root+2)]! = true
   ·rw [Tt lt (k:=2*root+2) d hc.1 (.inl ⟨rfl,hc.2⟩)];split
    ·rw [ih _ _ (by omega),size_swp]
    ·rfl
   ·rw [Tt lt (k:=2*root+1) d (by omega) (.inr ⟨rfl,by
     by_cases h2:2*root+2<hi
     ·right
      cases hb:lt d[F+(2*root+1)]! d[F+(2*root+2)]! with
      |false=>rfl
      |true=>exact absurd ⟨h2,hb⟩ hc
     ·left;omega⟩)]
    split
    ·rw [ih _ _ (by omega),size_swp]
    ·rfl
end Go.Sort
namespace Go.Proofs.YtkbaaonchdeneaaGreat
open Go.RowKit Go.Sort
theorem a3B (p C a b:Nat) (d:Array Int) (rest:List Value) (et:TypeId) (w:World) (h:RB w p d rest et) (hab:a<=b) (hb:b<=d.size) (hsz:d.size<1000000) :
 Calls Tryz.prog 184 #[.slice (some ⟨p,0,none⟩) d.size C,(a:Int),(b:Int)] w (FZ w p rest et (heapSort ltInt d a b)):=by
 unfold FZ;obtain ⟨n,hn⟩:=AU d.size;obtain ⟨N,hN⟩:∃N,N=b - a:=⟨_,rfl⟩;obtain ⟨q,hq⟩:∃q,q=(N - 1) / 2:=⟨_,rfl⟩;obtain ⟨D,hD⟩:=AU (heapBuild ltInt N a (q+1) d);obtain ⟨R,hR⟩:=AU (heapSort ltInt d a b);have hR2:heapPop ltInt a N D=R:=by rw [<-hR,heapSort,<-hN,<-hq,hD]
 rw [hn] at hb hsz |-;rw [hR];have n0:(N:Int)<1000000:=by omega
 have a0:(a:Int)<1000000:=by omega
 have n1:(0:Int)<=(N:Int):=AY _;have n2:(n:Int)<1000000:=by omega
 have q0:(q:Int)<1000000:=by omega
 have e1:(b:Int) - (a:Int)=(N:Int):=by omega
 have e2:Int.tdiv ((N:Int) - 1) 2=(q:Int):=by
  rcases Nat.eq_zero_or_pos N with h0 | h0
  ·subst h0;rw [hq];rfl
  ·rw [show (N:Int) - 1=((N - 1:Nat):Int) by omega,hq];rfl
 have HH:=AX h;have HR:=AX hR2;have HD:=AX hD;have HN:=AX hn;have HB:=Ap (show a+N<=n by omega) (show q<=N by omega);clear h hR hR2 hD hn hab hb hsz hN hq;go_enter Tryz.func184,Tryz.ntmps184
 go_wp2_with fail
 go_loopg [9] (q+1) (λm s9 wr=>∃(z:Int) (dk:Array Int),s9=.int .i64 z/\z+1=(m:Int)/\m<=q+1/\dk.size=n/\RB wr p dk rest et/\Bj [p] w wr/\heapBuild ltInt N a m dk=D)
 case atStart=>exact ⟨(q:Int),d,by first | rfl | simp_all,by omega,Nat.le_refl _,HN.out,HH.out,Bj.refl _ _,HD.out⟩
 case round=>
  obtain ⟨z,dk,rfl,hz,hmq,hdn,hrb,hu,heq⟩:=hrel;have HM:=AX hmq;have jC:=AX hdn;have Cj:=AX hrb;have HU:=AX hu;by_cases h0:gk=0
  ·have d1:decide ((0:Int)<=z)=false:=decide_eq_false (by omega);subst h0;have he:dk=D:=heq;have HE:=AX he;have z1:(-1:Int)<=z:=by omega
   have z2:z<0:=by omega
   clear he heq hmq hdn hrb hu hz;go_wp2_with fail
   clear d1 z1 z2;go_loopg [10] N (λm s10 wr=>∃(z:Int) (dk:Array Int),s10=.int .i64 z/\z+1=(m:Int)/\m<=N/\dk.size=n/\RB wr p dk rest et/\Bj [p] w wr/\heapPop ltInt a m dk=R)
   case atStart=>exact ⟨(N:Int) - 1,dk,rfl,by omega,Nat.le_refl _,jC.out,Cj.out,HU.out,by rw [HE.out];exact HR.out⟩
   case round=>
    obtain ⟨z',dj,rfl,hz,hmq,hdn,hrb,hu,heq⟩:=hrel;have HM:=AX hmq;have HDJ:=AX hdn;have HRJ:=AX hrb;have HUJ:=AX hu;obtain ⟨wl,rfl⟩:∃wl:World,wl=wr:=⟨_,rfl⟩;by_cases h0:gk=0
    ·have d1:decide ((0:Int)<=z')=false:=decide_eq_false (by omega);subst h0;have HE:=AX (show dj=R from heq);clear heq hmq hdn hrb hu hz;go_wp2_with fail
     go_end0
     exact ⟨rfl,by rw [<-HE.out];exact HRJ.out,HUJ.out⟩
    ·obtain ⟨i,hi⟩:∃i:Nat,gk=i+1:=⟨gk - 1,by omega⟩;obtain rfl:z'=(i:Int):=by omega
     have i0:(0:Int)<=(i:Int):=AY _;have i1:(i:Int)<1000000:=by omega
     obtain ⟨x,hx⟩:∃x,x=a+i:=⟨_,rfl⟩;have e3:(a:Int)+(i:Int)=(x:Int):=by omega
     have g1:(x:Int)<(n:Int):=Ac HB;have g2:(a:Int)<(n:Int):=Ac HB;have l1:=hrb.cell (t:=a) (Ac HB);have l2:=hrb.cell (t:=x) (Ac HB);have f1:=hrb.frozen a;have f2:=hrb.frozen x;obtain ⟨va,hva⟩:∃v,dj[a]! = v:=⟨_,rfl⟩;obtain ⟨vx,ZK⟩:∃v,dj[x]! = v:=⟨_,rfl⟩;have l3:=(hrb.set (t:=a) (Ac HB) vx).cell (t:=x) (by rw [Array.size_setIfInBounds];have:=HB.out;omega);obtain ⟨v3,hv3⟩:∃v,(dj.setIfInBounds a vx)[x]! = v:=⟨_,rfl⟩;rw [hv3] at l3;have HS:=Ap (hrb.swp (i:=a) (j:=x) (Ac HB) (Ac HB)) (hu.swp (p:=p) (.inl (by simp)) a x (.int .u32 dj[x]!) (.int .u32 dj[a]!));rw [hva,ZK] at HS;rw [hva] at l1;rw [ZK] at l2;have HI:=AX hi;have HX:=AX hx;have HQ:=AX heq;clear hmq hdn hrb hu heq hz h0 hi hx hva ZK hv3;go_wp2_with fail
     go_region
     generalize (wl.setCell ⟨p,a,none⟩ (.int .u32 vx)).setCell ⟨p,x,none⟩ (.int .u32 va)=W at HS |-;have HC:=AX (a0Q p C 0 i a (swp dj a x) rest et W.drew HS.1.drew (Nat.zero_le _) (by rw [size_swp,HDJ.out];have:=HB.out;have:=HI.out;have:=HM.out;omega) (by rw [size_swp,HDJ.out];omega));have hsz:(swp dj a x).size=n:=by rw [size_swp];exact HDJ.out
     rw [hsz,show ((0:Nat):Int)=0 from rfl] at HC;have eY:=AX hsz;clear hsz l1 l2 l3 f1 f2;go_wp2_with fail
     go_fit HC.out
     rintro e w1 ⟨rfl,hr1,hu1⟩;have HR1:=AX hr1;have DJ:=AX (HS.2.drew.trans hu1);clear hr1 hu1;go_wp2_with fail
     go_roundg i
     case measure=>have:=HI.out;omega
     case rel=>
      refine ⟨(i:Int) - 1,_,by go_num,by omega,Ad HI HM,?_,HR1.out,DJ.out,?_⟩
      ·rw [eX ltInt _ _ _ _ _ (Nat.le_refl _)];exact eY.out
      ·rw [<-HQ.out,HI.out,HX.out];rfl
  ·obtain ⟨i,hi⟩:∃i:Nat,gk=i+1:=⟨gk - 1,by omega⟩;obtain rfl:z=(i:Int):=by omega
   have i0:(0:Int)<=(i:Int):=AY _;have d1:decide ((0:Int)<=(i:Int))=true:=decide_eq_true i0;have i1:(i:Int)<1000000:=by omega
   have HC:=a0Q p C i N a dk rest et wr hrb (Ac HB) (Ac HB) (Ac HB);rw [hdn] at HC;have HCC:=AX HC;have HI:=AX hi;have HQ:=AX heq;clear hmq hdn hrb hu heq hz HC h0 hi;go_wp2_with fail
   go_fit HCC.out
   rintro e w1 ⟨rfl,hr1,hu1⟩;have HR1:=AX hr1;have DJ:=AX (HU.out.trans hu1);clear hr1 hu1;go_wp2_with fail
   go_roundg i
   case measure=>have:=HI.out;omega
   case rel=>
    refine ⟨(i:Int) - 1,_,by go_num,by omega,Ad HI HM,?_,HR1.out,DJ.out,?_⟩
    ·rw [eX ltInt _ _ _ _ _ (Nat.le_refl _)];exact jC.out
    ·rw [<-HQ.out,HI.out];rfl
end Go.Proofs.YtkbaaonchdeneaaGreat
namespace Go.Proofs.YtkbaaonchdeneaaGreat
open Go.RowKit Go.Sort
theorem pJ (p C a b:Nat) (d:Array Int) (rest:List Value) (et:TypeId) (w:World) (h:RB w p d rest et) (hab:a<b) (hb:b<=d.size) (hsz:d.size<1000000) :
 Calls Tryz.prog 187 #[.slice (some ⟨p,0,none⟩) d.size C,(a:Int),(b:Int)] w λe w'=>∃d',PermIn a b d d'/\FZ w p rest et d' e w':=by
 unfold FZ;obtain ⟨n,hn⟩:=AU d.size;rw [hn] at hb hsz |-;have n0:(n:Int)<1000000:=by omega
 have b0:(b:Int)<1000000:=by omega
 have a0:(a:Int)<(b:Int):=by omega
 have HH:=AX h;have HN:=AX hn;have HB:=Ap hab hb;clear h hn hab hb hsz;go_enter Tryz.func187,Tryz.ntmps187
 go_wp2_with fail
 have e1:(b:Int) - 1=((b - 1:Nat):Int):=Ac HB;obtain ⟨b1,hb1⟩:∃b1,b1=b - 1:=⟨_,rfl⟩;rw [<-hb1] at e1;have HB1:=AX hb1;clear hb1;go_loopg [6,7] b1 (λm s6 s7 wr=>∃(i j:Nat) (dk:Array Int),m=j/\s6=.int .i64 (i:Int)/\s7=.int .i64 (j:Int)/\a<=i/\j<b/\i<=b/\dk.size=n/\RB wr p dk rest et/\Bj [p] w wr/\PermIn a b d dk)
 case atStart=>exact ⟨a,b1,d,rfl,rfl,by first | rfl | simp_all,Nat.le_refl _,Ad HB HB1,Ac HB,HN.out,HH.out,Bj.refl _ _,permIn_refl _ _ _⟩
 case round=>
  obtain ⟨i,j,dk,hm,rfl,rfl,hai,hjb,hib,hdn,hrb,hu,hp⟩:=hrel;have i0:(i:Int)<1000000:=by omega
  have j0:(j:Int)<1000000:=by omega
  by_cases hlt:i<j
  ·have hz:(i:Int)<(j:Int):=by omega
   have g1:(i:Int)<(n:Int):=Ac HB;have g2:(j:Int)<(n:Int):=Ac HB;have l1:=hrb.cell (t:=i) (Ac HB);have l2:=hrb.cell (t:=j) (Ac HB);have f1:=hrb.frozen i;have f2:=hrb.frozen j;have hps:=permIn_trans _ _ _ a b hp (swp_permIn dk a b i j hai (by omega) (by omega) hjb (by rw [hdn];exact HB.2));have HS:=Ap (hrb.swp (i:=i) (j:=j) (Ac HB) (Ac HB)) (hu.swp (p:=p) (.inl (by simp)) i j (.int .u32 dk[j]!) (.int .u32 dk[i]!));obtain ⟨va,hva⟩:∃v,dk[i]! = v:=⟨_,rfl⟩;obtain ⟨vx,ZK⟩:∃v,dk[j]! = v:=⟨_,rfl⟩;rw [hva,ZK] at HS;rw [hva] at l1;rw [ZK] at l2;have HP:=AX hps;have HI:=Au hai hjb hlt hm;have jC:=AX (show (swp dk i j).size=n by rw [size_swp];exact hdn);clear hai hjb hib hlt hm hdn hrb hu hp hps hva ZK;go_wp2_with fail
   go_region
   generalize (wr.setCell ⟨p,i,none⟩ (.int .u32 vx)).setCell ⟨p,j,none⟩ (.int .u32 va)=W at HS |-;go_wp2_with fail
   go_roundg (j - 1)
   case measure=>have:=HI.out;omega
   case rel=>
    have h1:=HI.out;exact ⟨i+1,j - 1,_,rfl,by go_num,by go_num,by omega,by omega,by omega,jC.out,HS.1,HS.2.drew,HP.out⟩
  ·have hz:¬(i:Int)<(j:Int):=by omega
   have HR:=Aq hrb hu hp;clear hai hjb hib hlt hm hdn hrb hu hp;go_wp2_with fail
   go_end0
   exact ⟨dk,HR.2.2,rfl,HR.1,HR.2.1⟩
def NB (w:World) (s:Nat):Prop:=∃(z:Int) (t:TypeId),w.heap[s]? = some (.cells #[z] t (0,0))
theorem a1x (p C a b s:Nat) (d:Array Int) (rest:List Value) (et:TypeId) (w:World) (h:RB w p d rest et) (ha:a<d.size) (hb:b<d.size) (hsz:d.size<1000000) (hs:NB w s) :
 Calls Tryz.prog 280 #[.slice (some ⟨p,0,none⟩) d.size C,(a:Int),(b:Int),.pointer (some s)] w λe w'=>
  ∃x y:Nat,e=.returned (.tuple #[(x:Int),(y:Int)])/\(x=a/\y=b\/x=b/\y=a)/\NB w' s/\Bj [s] w w':=by
 obtain ⟨n,hn⟩:=AU d.size;have l1:=h.cell ha;have l2:=h.cell hb;obtain ⟨va,hva⟩:∃v,d[a]! = v:=⟨_,rfl⟩;obtain ⟨vb,hvb⟩:∃v,d[b]! = v:=⟨_,rfl⟩;obtain ⟨c,hc⟩:=AU (ltInt vb va);rw [hva] at l1;rw [hvb] at l2;rw [hn] at ha hb hsz |-;have a0:(a:Int)<(n:Int):=by omega
 have b0:(b:Int)<(n:Int):=by omega
 have n0:(n:Int)<1000000:=by omega
 have Yg:=AX (show ∀w,Calls Tryz.prog 189 #[.int .u32 vb,.int .u32 va] w λe w'=>e=.returned (.bool c)/\w'=w from λw=>by have:=JA vb va w;rw [hc] at this;exact this);obtain ⟨z,t,hz⟩:=hs;have c1:w.cell? s=some (.int .i64 z):=by simp [World.cell?,hz]
 have f1:w.frozen? s=false:=by simp [World.frozen?,hz]
 have HZ:=AX hz;clear h hn ha hb hsz hva hvb hc hz
 cases c
 ·go_enter Tryz.func280,Tryz.ntmps280
  go_wp2_with fail
  go_quiet (first | (go_at_call 189;refine Calls.quiet_of_same (Yg.out _)))
  go_wp2_with fail
  go_ret2
  exact ⟨a,b,rfl,.inl ⟨rfl,rfl⟩,⟨z,t,HZ.out⟩,(Bj.refl _ _).drewN _⟩
 ·go_enter Tryz.func280,Tryz.ntmps280
  go_wp2_with fail
  go_quiet (first | (go_at_call 189;refine Calls.quiet_of_same (Yg.out _)))
  have HW:=AX (show w.cell? s=some (.int .i64 z)/\w.frozen? s=false from ⟨c1,f1⟩);clear c1 f1 l1 l2;have c2:(w.drewN nq).cell? s=some (.int .i64 z):=HW.1;have f2:(w.drewN nq).frozen? s=false:=HW.2;have HU:=AX (show Bj [s] w (w.drewN nq) from (Bj.refl _ _).drewN _);have HZ2:=AX (show (w.drewN nq).heap[s]? = some (.cells #[z] t (0,0)) from HZ.out);generalize w.drewN nq=W at c2 f2 HU HZ2 |-;go_wp2_with fail
  go_ret2
  exact ⟨b,a,rfl,.inr ⟨rfl,rfl⟩,⟨_,t,heap_set HZ2.out 0 _⟩,HU.out.setCell (.inl (by simp)) _⟩
theorem fA (p C a b c s:Nat) (d:Array Int) (rest:List Value) (et:TypeId) (w:World) (h:RB w p d rest et) (ha:a<d.size) (hb:b<d.size) (hc:c<d.size) (hsz:d.size<1000000) (hs:NB w s) (hsp:s≠p) :
 Calls Tryz.prog 245 #[.slice (some ⟨p,0,none⟩) d.size C,(a:Int),(b:Int),(c:Int),.pointer (some s)] w λe w'=>
  ∃x:Nat,e=.returned (x:Int)/\(x=a\/x=b\/x=c)/\NB w' s/\Bj [s] w w':=by
 have HO:=AX (show ∀(a b:Nat) W,Bj [s] w W->NB W s->a<d.size->b<d.size->_ from λa b W hu hN h1 h2=>a1x p C a b s d rest et W (h.upd hu (by simpa using Ne.symm hsp)) h1 h2 hsz hN);obtain ⟨n,hn⟩:=AU d.size;rw [hn] at HO ha hb hc |-;have HB:=Aq ha hb hc;have HS:=AX hs;clear ha hb hc hn h hs hsp hsz;go_enter Tryz.func245,Tryz.ntmps245
 go_wp2_with fail
 go_fit (HO.out _ _ _ (Bj.refl _ _) HS.out HB.1 HB.2.1)
 rintro e w1 ⟨x1,y1,rfl,h1,hn1,hu1⟩;have H1:=Aq h1 hn1 hu1;clear h1 hn1 hu1;go_wp2_with fail
 (with_reducible refine (HO.out _ _ _ H1.out.2.2 H1.out.2.1 (Ad H1.out.1 HB) HB.out.2.2).mono ?_);rintro e w2 ⟨x2,y2,rfl,h2,hn2,hu2⟩;have H2:=Aq h2 hn2 (H1.2.2.trans hu2);clear h2 hn2 hu2;go_wp2_with fail
 (with_reducible refine (HO.out _ _ _ H2.out.2.2 H2.out.2.1 (Ad H1.out.1 HB) (Ag H1.out.1 H2.out.1 HB)).mono ?_);rintro e w3 ⟨x3,y3,rfl,h3,hn3,hu3⟩;have H3:=Aq h3 hn3 (H2.2.2.trans hu3);clear h3 hn3 hu3;go_wp2_with fail
 go_ret
 exact ⟨y3,rfl,Ag H1.1 H2.1 H3.1,H3.2⟩
theorem ZL (p C a s:Nat) (d:Array Int) (rest:List Value) (et:TypeId) (w:World) (h:RB w p d rest et) (ha:1<=a) (hb:a+1<d.size) (hsz:d.size<1000000) (hs:NB w s) (hsp:s≠p) :
 Calls Tryz.prog 244 #[.slice (some ⟨p,0,none⟩) d.size C,(a:Int),.pointer (some s)] w λe w'=>
  ∃x:Nat,e=.returned (x:Int)/\(x+1=a\/x=a\/x=a+1)/\NB w' s/\Bj [s] w w':=by
 obtain ⟨k,hk⟩:∃k,k=a - 1:=⟨_,rfl⟩;obtain ⟨m,hm⟩:∃m,m=a+1:=⟨_,rfl⟩;have HM:=AX (fA p C k a m s d rest et w h (by omega) (by omega) (by omega) hsz hs hsp);obtain ⟨n,hn⟩:=AU d.size;rw [hn] at HM hb hsz |-;have e1:(a:Int) - 1=(k:Int):=by omega
 have e2:(a:Int)+1=(m:Int):=by omega
 have a0:(a:Int)<1000000:=by omega
 have a1:(0:Int)<(a:Int):=by omega
 have HK:=Aq ha hk hm;clear h ha hb hsz hs hsp hk hm hn;go_enter Tryz.func244,Tryz.ntmps244
 go_wp2_with fail
 go_fit HM.out
 rintro e w1 ⟨x,rfl,h1,hn1,hu1⟩;have H1:=Aq h1 hn1 hu1;clear h1 hn1 hu1;go_wp2_with fail
 go_ret
 exact ⟨x,rfl,Ad H1.1 HK,H1.2⟩
theorem NB.new (w:World) (t:TypeId):NB (w.alloc (.cells #[.int .i64 0] t)) w.heap.size:=⟨0,t,heap_alloc_new w _⟩
def fB (w:World) (a b:Nat) (e:Ending) (w':World):Prop:=∃(x:Nat) (h:Int),e=.returned (.tuple #[(x:Int),h])/\a<=x/\x<b/\Bj [] w w'
theorem a1y (p C a b:Nat) (d:Array Int) (rest:List Value) (et:TypeId) (w:World) (h:RB w p d rest et) (hab:a+12<b) (hb:b<=d.size) (hsz:d.size<1000000) :
 Calls Tryz.prog 186 #[.slice (some ⟨p,0,none⟩) d.size C,(a:Int),(b:Int)] w (fB w a b):=by
 unfold fB;have hp:=h.lt;obtain ⟨s,hs⟩:=AU w.heap.size;rw [hs] at hp;obtain ⟨n,hn⟩:=AU d.size;obtain ⟨N,hN⟩:∃N,N=b - a:=⟨_,rfl⟩;obtain ⟨q,hq⟩:∃q,q=N / 4:=⟨_,rfl⟩;obtain ⟨i,hi⟩:∃i,i=a+q:=⟨_,rfl⟩;obtain ⟨j,hj⟩:∃j,j=a+q*2:=⟨_,rfl⟩;obtain ⟨k,hk⟩:∃k,k=a+q*3:=⟨_,rfl⟩;have HM:=AX (show ∀(a b c:Nat) W,Bj [] w W->NB W s->a<d.size->b<d.size->c<d.size->_ from λa b c W hu hN h1 h2 h3=>fA p C a b c s d rest et W (h.upd hu (by simp)) h1 h2 h3 hsz hN (by omega));have HA:=AX (show ∀(a:Nat) W,Bj [] w W->NB W s->1<=a->a+1<d.size->_ from λa W hu hN h1 h2=>ZL p C a s d rest et W (h.upd hu (by simp)) h1 h2 hsz hN (by omega));rw [hn] at HM HA hb hsz |-;have n0:(N:Int)<1000000:=by omega
 have n1:(8:Int)<=(N:Int):=by omega
 have a0:(a:Int)<1000000:=by omega
 have b0:(b:Int)<1000000:=by omega
 have q0:(q:Int)<1000000:=by omega
 have e1:(b:Int) - (a:Int)=(N:Int):=by omega
 have e2:(N:Int) / 4=(q:Int):=by omega
 have e3:(a:Int)+(q:Int)=(i:Int):=by omega
 have e4:(a:Int)+(q:Int)*2=(j:Int):=by omega
 have e5:(a:Int)+(q:Int)*3=(k:Int):=by omega
 have HB:=AB hab hb hN hq hi hj hk;have HW0:=AX (show NB (w.alloc (.cells #[.int .i64 0] 3)) s from hs ▸ NB.new w _);have Gu:=AX (show Bj [] w (w.alloc (.cells #[.int .i64 0] 3)) from (Bj.refl _ _).alloc _);have HS:=AX hs;by_cases h50:50<=N
 ·have d50:decide ((50:Int)<=(N:Int))=true:=decide_eq_true (by omega);have a1z:(50:Int)<=(N:Int):=by omega
  have ZM:=AX h50;clear h hn hab hb hsz hN hq hi hj hk hs hp h50;go_enter Tryz.func186,Tryz.ntmps186
  go_wp2_with fail
  rw [HS.out];(with_reducible refine (HA.out i _ Gu.out HW0.out (Ad HB ZM) (Ad HB ZM)).mono ?_);rintro e w1 ⟨x1,rfl,h1,hn1,hu1⟩;have H1:=Aq h1 hn1 (show Bj [] w w1 from (Gu.out).trans' hu1 (by intro x hx;right;rw [List.mem_singleton.1 hx,HS.out];exact Nat.le_refl _));clear h1 hn1 hu1;go_wp2_with fail
  (with_reducible refine (HA.out j _ H1.out.2.2 H1.out.2.1 (Ad HB ZM) (Ad HB ZM)).mono ?_);rintro e w2 ⟨x2,rfl,h2,hn2,hu2⟩;have H2:=Aq h2 hn2 (show Bj [] w w2 from (H1.2.2).trans' hu2 (by intro x hx;right;rw [List.mem_singleton.1 hx,HS.out];exact Nat.le_refl _));clear h2 hn2 hu2;go_wp2_with fail
  (with_reducible refine (HA.out k _ H2.out.2.2 H2.out.2.1 (Ad HB ZM) (Ad HB ZM)).mono ?_);rintro e w3 ⟨x3,rfl,h3,hn3,hu3⟩;have H3:=Aq h3 hn3 (show Bj [] w w3 from (H2.2.2).trans' hu3 (by intro x hx;right;rw [List.mem_singleton.1 hx,HS.out];exact Nat.le_refl _));clear h3 hn3 hu3;go_wp2_with fail
  (with_reducible refine (HM.out x1 x2 x3 _ H3.out.2.2 H3.out.2.1 (Ag HB H1.out.1 ZM) (Ag HB H2.out.1 ZM) (Ag HB H3.out.1 ZM)).mono ?_);rintro e w4 ⟨x4,rfl,h4,hn4,EI⟩;have H4:=Aq h4 hn4 (show Bj [] w w4 from (H3.2.2).trans' EI (by intro x hx;right;rw [List.mem_singleton.1 hx,HS.out];exact Nat.le_refl _));clear h4 hn4 EI;clear e1 e2 e3 e4 e5 n0 n1 a0 b0 q0 d50 a1z;obtain ⟨z,t,hz⟩:=H4.2.1;have c1:w4.cell? s=some (.int .i64 z):=by simp [World.cell?,hz]
  clear hz;by_cases hz0:z=0
  ·have d1:(z==0)=true:=by rw [beq_iff_eq];exact hz0
   clear hz0;go_wp2_with fail
   go_ret2
   exact ⟨x4,_,rfl,Ai HB H1.1 H2.1 H3.1 H4.1 ZM,Ai HB H1.1 H2.1 H3.1 H4.1 ZM,H4.2.2⟩
  ·have d1:(z==0)=false:=by rw [beq_eq_false_iff_ne];exact hz0
   by_cases hz1:z=12
   ·have d2:(z==12)=true:=by rw [beq_iff_eq];exact hz1
    clear hz0 hz1;go_wp2_with fail
    go_ret2
    exact ⟨x4,_,rfl,Ai HB H1.1 H2.1 H3.1 H4.1 ZM,Ai HB H1.1 H2.1 H3.1 H4.1 ZM,H4.2.2⟩
   ·have d2:(z==12)=false:=by rw [beq_eq_false_iff_ne];exact hz1
    clear hz0 hz1;go_wp2_with fail
    go_ret2
    exact ⟨x4,_,rfl,Ai HB H1.1 H2.1 H3.1 H4.1 ZM,Ai HB H1.1 H2.1 H3.1 H4.1 ZM,H4.2.2⟩
 ·have d50:decide ((50:Int)<=(N:Int))=false:=decide_eq_false (by omega);have a1z:¬(50:Int)<=(N:Int):=by omega
  clear h hn hab hb hsz hN hq hi hj hk hs hp h50;go_enter Tryz.func186,Tryz.ntmps186
  go_wp2_with fail
  rw [HS.out];(with_reducible refine (HM.out i j k _ Gu.out HW0.out (Ac HB) (Ac HB) (Ac HB)).mono ?_);rintro e w1 ⟨x1,rfl,h1,hn1,hu1⟩;have H1:=Aq h1 hn1 (show Bj [] w w1 from (Gu.out).trans' hu1 (by intro x hx;right;rw [List.mem_singleton.1 hx,HS.out];exact Nat.le_refl _));clear h1 hn1 hu1;clear e1 e2 e3 e4 e5 n0 n1 a0 b0 q0 d50 a1z;obtain ⟨z,t,hz⟩:=H1.2.1;have c1:w1.cell? s=some (.int .i64 z):=by simp [World.cell?,hz]
  clear hz;by_cases hz0:z=0
  ·have d1:(z==0)=true:=by rw [beq_iff_eq];exact hz0
   clear hz0;go_wp2_with fail
   go_ret2
   exact ⟨x1,_,rfl,Ad HB H1.1,Ad HB H1.1,H1.2.2⟩
  ·have d1:(z==0)=false:=by rw [beq_eq_false_iff_ne];exact hz0
   by_cases hz1:z=12
   ·have d2:(z==12)=true:=by rw [beq_iff_eq];exact hz1
    clear hz0 hz1;go_wp2_with fail
    go_ret2
    exact ⟨x1,_,rfl,Ad HB H1.1,Ad HB H1.1,H1.2.2⟩
   ·have d2:(z==12)=false:=by rw [beq_eq_false_iff_ne];exact hz1
    clear hz0 hz1;go_wp2_with fail
    go_ret2
    exact ⟨x1,_,rfl,Ad HB H1.1,Ad HB H1.1,H1.2.2⟩
