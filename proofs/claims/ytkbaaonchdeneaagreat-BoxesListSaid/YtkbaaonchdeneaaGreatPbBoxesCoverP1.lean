/- Rows of names that are sorted: the words for the walks of slices.Sort. No program. slices.Sort -/
import Derived.Sort.AssemblyPlain
import Derived.Test.YtkbaaonchdeneaaGreatProg
import Derived.BigQuiet
import Derived.Deep.Light
import Derived.Test.YtkbaaonchdeneaaGreatPb1
set_option maxHeartbeats 4000000
set_option maxRecDepth 100000
namespace Go.Proofs.YtkbaaonchdeneaaGreat
open Go.RowKit Go.Sort
abbrev Yr:Int→Value:=fun x=>.int .u32 x
def RB (w:World) (p:Nat) (d:Array Int) (rest:List Value) (e:TypeId):Prop:=w.heap[p]? = some (.cells (d.toList.map Yr++rest).toArray e (0,0))
section
variable {w w':World} {p:Nat} {d:Array Int} {rest:List Value} {e:TypeId}
theorem RB.cell (h:RB w p d rest e) {t:Nat} (ht:t<d.size):w.cell? ⟨p,t,none⟩=some (.int .u32 d[t]!):=by
 unfold RB at h
 have:((d.toList.map Yr++rest).toArray)[t]? = some (Yr d[t]!):=by
  rw [List.getElem?_toArray,List.getElem?_append_left (by simpa using ht),List.getElem?_map,AX (by simpa using ht)];simp [getElem!_pos d t ht]
 simp only [World.cell?,h,this];rfl
theorem RB.frozen (h:RB w p d rest e) (t:Nat):w.frozen? ⟨p,t,none⟩=false:=by
 unfold RB at h;simp [World.frozen?,h]
theorem RB.drewN (h:RB w p d rest e) (n:Nat):RB (w.drewN n) p d rest e:=h
theorem RB.set (h:RB w p d rest e) {t:Nat} (ht:t<d.size) (x:Int):RB (w.setCell ⟨p,t,none⟩ (.int .u32 x)) p (d.setIfInBounds t x) rest e:=by
 unfold RB at h ⊢;rw [heap_setCell_same w p t _ _ _ h];congr 1
 congr 1
 apply Array.ext'
 simp only [List.setIfInBounds_toArray,Array.toList_setIfInBounds];rw [List.set_append_left _ _ (by simpa using ht),List.map_set]
theorem RB.swp (h:RB w p d rest e) {i j:Nat} (hi:i<d.size) (hj:j<d.size):RB ((w.setCell ⟨p,i,none⟩ (.int .u32 d[j]!)).setCell ⟨p,j,none⟩ (.int .u32 d[i]!)) p (Sort.swp d i j) rest e:=by
 unfold Sort.swp;exact (h.set hi _).set (by simpa using hj) _
theorem Bf.swp {F:List Nat} {a:World} (h:Bf F a w) (hp:p∈F∨a.heap.size≤p) (i j:Nat) (x y:Value):Bf F a ((w.setCell ⟨p,i,none⟩ x).setCell ⟨p,j,none⟩ y):=(h.setCell hp _).setCell hp _
end
end Go.Proofs.YtkbaaonchdeneaaGreat
namespace Go.Proofs.YtkbaaonchdeneaaGreat
open Go.RowKit Go.Sort
theorem a3L (x:Int) (w:World):Calls Tryz.prog 204 #[.int .u32 x] w fun e w'=>e=.returned (.bool false)∧w'=w:=by
 go_enter Tryz.func204,Tryz.ntmps204
 go_wp2_with fail
 go_ret
 exact ⟨by simp,rfl⟩
theorem uN (x y:Int) (w:World):Calls Tryz.prog 189 #[.int .u32 x,.int .u32 y] w fun e w'=>e=.returned (.bool (ltInt x y))∧w'=w:=by
 have HN:=fun x w=>a3L x w
 go_enter Tryz.func189,Tryz.ntmps189
 go_wp2_with (first | (go_at_call 204;(with_reducible refine (HN _ _).mono ?_);rintro e w' ⟨rfl,rfl⟩))
 go_ret
 exact ⟨rfl,rfl⟩
def Qw (w:World) (p:Nat) (rest:List Value) (et:TypeId) (d':Array Int) (e:Ending) (w':World):Prop:=e=.returned (.tuple #[])∧RB w' p d' rest et∧Bf [p] w w'
theorem lQ (p C a b:Nat) (d:Array Int) (rest:List Value) (et:TypeId) (w:World) (h:RB w p d rest et) (hab:a≤b) (hb:b≤d.size) (hsz:d.size<1000000) :
 Calls Tryz.prog 183 #[.slice (some ⟨p,0,none⟩) d.size C,.int .i64 (a:Int),.int .i64 (b:Int)] w (Qw w p rest et (insertionSort ltInt d a b)):=by
 unfold Qw;obtain ⟨n,hn⟩:=AO d.size;obtain ⟨R,hR⟩:=AO (insertionSort ltInt d a b);rw [hn] at hb hsz ⊢;rw [hR];have b0:(b:Int)<1000000:=by omega
 have a0:(a:Int)≤(b:Int):=by omega
 have HH:=AQ h;have HR:=AQ hR;have HN:=AQ hn;have HB:=Ai hab hb;clear h hR hn hab hb hsz;go_enter Tryz.func183,Tryz.ntmps183
 go_wp2_with fail
 go_loopg [6] (b - (a+1)) (fun m s6 wr=>∃(i:Nat) (dk:Array Int),m=b - i∧s6=.int .i64 (i:Int)∧a<i∧dk.size=n∧RB wr p dk rest et∧Bf [p] w wr∧insOuter ltInt a b i dk=R)
 case atStart=>exact ⟨a+1,d,rfl,by go_num,by omega,HN.out,HH.out,Bf.refl _ _,HR.out⟩
 case round=>
  obtain ⟨i,dk,hm,rfl,hai,hdn,hrb,hu,heq⟩:=hrel;have HI:=Ai hm hai;have HD:=AQ hdn;have HU:=AQ hu;have HRB:=AQ hrb;clear hm hdn hu hrb;have i0:(a:Int)<(i:Int):=by omega
  by_cases hlt:i<b
  ·have i1:(i:Int)<(b:Int):=by omega
   have he:insOuter ltInt a b (i+1) (insInner ltInt a i dk)=R:=by rw [←heq];conv=>rhs;rw [insOuter,if_pos hlt]
   have HE:=AQ he;have GY:=AQ hlt;clear heq he hlt hai;go_wp2_with fail
   go_loopg [7] (i) (fun m s7 wr=>∃(j:Nat) (dj:Array Int),m=j∧s7=.int .i64 (j:Int)∧a≤j∧j≤i∧dj.size=n∧RB wr p dj rest et∧Bf [p] w wr∧insInner ltInt a j dj=insInner ltInt a i dk)
   case atStart=>exact ⟨i,dk,rfl,rfl,Ac HI,Nat.le_refl _,HD.out,HRB.out,HU.out,rfl⟩
   case round=>
    obtain ⟨j,dj,hm,rfl,haj,hji,hdn,hrb,hu,heq⟩:=hrel;obtain ⟨wl,rfl⟩:∃wl:World,wl=wr:=⟨_,rfl⟩;have j1:(j:Int)≤(i:Int):=by omega
    have j0:(a:Int)≤(j:Int):=by omega
    by_cases hja:a<j
    ·have uO:(a:Int)<(j:Int):=by omega
     obtain ⟨k,hk⟩:∃k:Nat,j=k+1:=⟨j - 1,by omega⟩;have hkz:(j:Int) - 1=(k:Int):=by omega
     have c1:=hrb.cell (t:=j) (Ad GY HB);have c2:=hrb.cell (t:=k) (Ad GY HB);have f1:=hrb.frozen j;have f2:=hrb.frozen k;obtain ⟨x,hx⟩:∃x,dj[j]! = x:=⟨_,rfl⟩;obtain ⟨y,hy⟩:∃y,dj[k]! = y:=⟨_,rfl⟩;obtain ⟨c,hc⟩:=AO (ltInt x y);have HLS:=fun w=>uN x y w
     simp only [hc] at HLS;rw [hx] at c1;rw [hy] at c2;have HK:=AQ hk;have HM:=AQ hm;have HJ:=Ai hja hji;have bU:=AQ hdn;have HRJ:=AQ hrb;have HUJ:=AQ hu;have HQ:=AQ heq;have HX:=Aj hx hy hc;have j2:(j:Int)<1000000:=by omega
     have j3:(j:Int)<(n:Int):=Ad GY HB;clear hk hm hja hji hdn hrb hu heq hx hy hc haj
     cases c
     ·go_wp2_with fail
      go_quiet (first | (go_at_call 189;refine Calls.quiet_of_same (HLS _)))
      go_wp2_with fail
      go_roundg (b - (i+1))
      case measure=>have:=HI.out;have:=GY.out;omega
      case rel=>
       refine ⟨i+1,dj,rfl,by go_num,Ac HI,bU.out,HRJ.out.drewN _,HUJ.out.drewN _,?_⟩
       rw [←HE.out,←HQ.out,HK.out,insInner,←HK.out,HX.1,HX.2.1,HX.2.2,Bool.and_false];rfl
     ·go_wp2_with fail
      go_quiet (first | (go_at_call 189;refine Calls.quiet_of_same (HLS _)))
      go_wp2_with fail
      have HRW:=AQ (HRJ.out.drewN nq);have lS:=AQ (HUJ.out.drewN nq);clear c1 c2 f1 f2;generalize wl.drewN nq=W at HRW lS ⊢;have c1:=HRW.out.cell (t:=j) (Af bU GY HB HJ);have c2:=HRW.out.cell (t:=k) (Ag bU GY HB HJ HK);have f1:=HRW.out.frozen j;have f2:=HRW.out.frozen k;rw [HX.1] at c1;rw [HX.2.1] at c2;have HS:=Ai (HRW.out.swp (i:=j) (j:=k) (Af bU GY HB HJ) (Ag bU GY HB HJ HK)) (lS.out.swp (p:=p) (.inl (by simp)) j k (.int .u32 dj[k]!) (.int .u32 dj[j]!));rw [HX.1,HX.2.1] at HS;go_region
      generalize (W.setCell ⟨p,j,none⟩ (.int .u32 y)).setCell ⟨p,k,none⟩ (.int .u32 x)=W2 at HS ⊢;go_wp2_with fail
      go_roundg k
      case measure=>have:=HK.out;have:=HM.out;omega
      case rel=>
       refine ⟨k,Sort.swp dj j k,rfl,rfl,Ad HK HJ,Ad HK HJ,by rw [size_swp];exact bU.out,HS.1,HS.2.drew,?_⟩
       rw [←HQ.out,HK.out,insInner,←HK.out,HX.1,HX.2.1,HX.2.2,decide_eq_true HJ.1];rfl
    ·have uO:¬(a:Int)<(j:Int):=by omega
     have hjd:decide (a<j)=false:=decide_eq_false hja;have hje:j=a:=by omega
     have HRJ:=AQ hrb;have HUJ:=AQ hu;have bU:=AQ hdn
     have he:dj=insInner ltInt a i dk:=by
      rw [←heq,hje]
      cases a with
      |zero=>rfl
      |succ a=>rw [insInner,decide_eq_false (by omega),Bool.false_and];rfl
     have HQ:=AQ he;clear heq hje he hrb hu hdn hja hji haj hm uO j0 j1;go_wp2_with fail
     go_quiet (fail)
     go_wp2_with fail
     go_roundg (b - (i+1))
     case measure=>have:=HI.out;have:=GY.out;omega
     case rel=>exact ⟨i+1,dj,rfl,by go_num,Ac HI,bU.out,HRJ.out.drewN _,HUJ.out.drewN _,by rw [HQ.out];exact HE.out⟩
  ·have i1:¬(i:Int)<(b:Int):=by omega
   rw [insOuter,if_neg hlt] at heq;have HE:=AQ heq;clear heq hlt hai;go_wp2_with fail
   go_end0
   exact ⟨rfl,by rw [←HE.out];exact HRB.out,HU.out⟩
end Go.Proofs.YtkbaaonchdeneaaGreat
namespace Go.Sort
variable {α:Type} [Inhabited α] (lt:α→α→Bool)
end Go.Sort
namespace Go.Proofs.YtkbaaonchdeneaaGreat
open Go.RowKit Go.Sort
end Go.Proofs.YtkbaaonchdeneaaGreat
namespace Go.Sort
variable {α:Type} [Inhabited α] (lt:α→α→Bool)
end Go.Sort
namespace Go.Proofs.YtkbaaonchdeneaaGreat
open Go.RowKit Go.Sort
end Go.Proofs.YtkbaaonchdeneaaGreat
namespace Go.Proofs.YtkbaaonchdeneaaGreat
open Go.RowKit Go.Sort
def NB (w:World) (s:Nat):Prop:=∃(z:Int) (t:TypeId),w.heap[s]? = some (.cells #[.int .i64 z] t (0,0))
