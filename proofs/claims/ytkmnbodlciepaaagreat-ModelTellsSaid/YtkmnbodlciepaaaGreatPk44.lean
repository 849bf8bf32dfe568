/- The document's Squeeze, plainly: the least one that is more than all that were taken, again and again. No program. The document's Squeeze. -/
import Derived.Test.YtkmnbodlciepaaaGreatPk35
import Derived.Test.YtkmnbodlciepaaaGreatPk41
set_option maxHeartbeats 8000000
set_option maxRecDepth 100000
namespace Go.Proofs.YtkmnbodlciepaaaGreat
structure SqAt (l out:List Int):Prop where
 rise:out.Pairwise (· < ·)
 mem:∀x∈out,x∈l
 all:∀x∈l,x∈out∨∀y∈out,y<x
def isNext (out:List Int) (x:Int):Bool:=out.all fun y=>decide (y<x)
def leftQ (l out:List Int):Nat:=l.countP (isNext out)
theorem isNext_iff {out:List Int} {x:Int}:isNext out x=true↔∀y∈out,y<x:=by
 unfold isNext
 rw [List.all_eq_true]
 exact ⟨fun h y hy=>by simpa using h y hy,fun h y hy=>by simpa using h y hy⟩
theorem isNext_last {out:List Int} {q x:Int} (hr:out.Pairwise (· < ·)) {k:Nat} (hk:out.length=k+1) (hq:out[k]? = some q):isNext out x=decide (q<x):=by
 obtain ⟨hkl,hq⟩:=List.getElem?_eq_some_iff.1 hq
 rw [Bool.eq_iff_iff,isNext_iff,decide_eq_true_eq]
 constructor
 ·intro h;rw [←hq];exact h _ (List.getElem_mem hkl)
 ·intro h y hy
  obtain ⟨j,hj,rfl⟩:=List.getElem_of_mem hy
  rcases Nat.lt_or_ge j k with h1 | h1
  ·have:=List.pairwise_iff_getElem.1 hr j k hj hkl h1
   omega
  ·have:j=k:=by omega
   subst this;omega
theorem SqAt.start (l:List Int):SqAt l []:=⟨List.Pairwise.nil,by simp,fun x _=>.inr (by simp)⟩
theorem SqAt.step {l out:List Int} (h:SqAt l out) {m:Int} (hm:m∈l) (hn:isNext out m=true) (hl:∀x∈l,isNext out x=true→m≤x):SqAt l (out++[m])∧leftQ l (out++[m])<leftQ l out:=by
 have hn':=isNext_iff.1 hn
 refine ⟨⟨?_,?_,?_⟩,?_⟩
 ·rw [List.pairwise_append]
  exact ⟨h.rise,by simp,fun a ha b hb=>by simp at hb;rw [hb];exact hn' a ha⟩
 ·intro x hx
  rcases List.mem_append.1 hx with h1 | h1
  ·exact h.mem x h1
  ·simp at h1;rw [h1];exact hm
 ·intro x hx
  rcases h.all x hx with h1 | h1
  ·exact .inl (by simp [h1])
  ·have:=hl x hx (isNext_iff.2 h1)
   by_cases e:x=m
   ·exact .inl (by simp [e])
   ·refine .inr fun y hy=>?_
    rcases List.mem_append.1 hy with h2 | h2
    ·exact h1 y h2
    ·simp at h2;omega
 ·unfold leftQ
  have hle:∀(L:List Int),m∈L→L.countP (isNext (out++[m]))<L.countP (isNext out):=by
   have h1:∀x,isNext (out++[m]) x=true→isNext out x=true:=fun x hx=>isNext_iff.2 fun y hy=>isNext_iff.1 hx y (by simp [hy])
   have h2:isNext (out++[m]) m=false:=by
    cases e:isNext (out++[m]) m with
    |false=>rfl
    |true=>have:=isNext_iff.1 e m (by simp);omega
   intro L
   induction L with
   |nil=>intro h;simp at h
   |cons a L ih=>
    intro ha
    rw [List.countP_cons,List.countP_cons]
    have h3:L.countP (isNext (out++[m]))≤L.countP (isNext out):=List.countP_mono_left fun x _ hx=>h1 x hx
    by_cases e:a=m
    ·subst e
     rw [h2,hn];simp;omega
    ·have:=ih (by rcases List.mem_cons.1 ha with h4 | h4;exact absurd h4.symm e;exact h4)
     cases e1:isNext (out++[m]) a with
     |true=>rw [h1 a e1];simp;omega
     |false=>simp;split<;>omega
  exact hle l hm
theorem SqAt.done {l out:List Int} (h:SqAt l out) (hn:∀x∈l,isNext out x=false):out=sqz l:=
 rise_extP h.rise (sqz_rise l) fun x=>⟨fun hx=>mem_sqz (h.mem x hx),fun hx=>by
  rcases h.all x (sqz_mem hx) with h1 | h1
  ·exact h1
  ·have:=hn x (sqz_mem hx)
   rw [isNext_iff.2 h1] at this;cases this⟩
theorem leftQ_le (l:List Int):leftQ l []≤l.length:=List.countP_le_length
def BestAt (l out:List Int) (j:Nat) (z:Int):Prop:=
 (z = -1∧∀i x,i<j→l[i]? = some x→isNext out x=false)∨∃(a:Nat) (m:Int),z=(a:Int)∧a<j∧l[a]? = some m∧isNext out m=true∧∀i x,i<j→l[i]? = some x→isNext out x=true→m≤x
theorem BestAt.start (l out:List Int):BestAt l out 0 (-1):=.inl ⟨rfl,fun i x hi=>by omega⟩
theorem BestAt.keep {l out:List Int} {j:Nat} {z x:Int} (h:BestAt l out j z) (hx:l[j]? = some x) (hn:isNext out x=false):BestAt l out (j+1) z:=by
 rcases h with ⟨h1,h2⟩ | ⟨a,m,h1,h2,h3,h4,h5⟩
 ·refine .inl ⟨h1,fun i y hi hy=>?_⟩
  rcases Nat.lt_or_ge i j with h | h
  ·exact h2 i y h hy
  ·have:i=j:=by omega
   subst this;rw [hx] at hy;cases hy;exact hn
 ·refine .inr ⟨a,m,h1,by omega,h3,h4,fun i y hi hy hi'=>?_⟩
  rcases Nat.lt_or_ge i j with h | h
  ·exact h5 i y h hy hi'
  ·have:i=j:=by omega
   subst this;rw [hx] at hy;cases hy;rw [hn] at hi';cases hi'
theorem BestAt.stay {l out:List Int} {j a:Nat} {x m:Int} (h:BestAt l out j (a:Int)) (hx:l[j]? = some x) (hm:l[a]? = some m) (hle:m≤x):BestAt l out (j+1) (a:Int):=by
 rcases h with ⟨h1,h2⟩ | ⟨a',m',h1,h2,h3,h4,h5⟩
 ·omega
 ·have:a'=a:=by omega
  subst this
  rw [hm] at h3;cases h3
  refine .inr ⟨a',m,rfl,by omega,hm,h4,fun i y hi hy hi'=>?_⟩
  rcases Nat.lt_or_ge i j with h | h
  ·exact h5 i y h hy hi'
  ·have:i=j:=by omega
   subst this;rw [hx] at hy;cases hy;exact hle
theorem BestAt.take {l out:List Int} {j:Nat} {z x:Int} (h:BestAt l out j z) (hx:l[j]? = some x) (hn:isNext out x=true) (hb:z = -1∨∃(a:Nat) (m:Int),z=(a:Int)∧l[a]? = some m∧x<m):BestAt l out (j+1) (j:Int):=by
 refine .inr ⟨j,x,rfl,by omega,hx,hn,fun i y hi hy hi'=>?_⟩
 rcases Nat.lt_or_ge i j with h' | h'
 ·rcases h with ⟨h1,h2⟩ | ⟨a',m',h1,h2,h3,h4,h5⟩
  ·have:=h2 i y h' hy
   rw [hi'] at this;cases this
  ·rcases hb with hb | ⟨a,m,hb,hm,hlt⟩
   ·omega
   ·have:a'=a:=by omega
    subst this
    rw [hm] at h3;cases h3
    have:=h5 i y h' hy hi'
    omega
 ·have:i=j:=by omega
  subst this;rw [hx] at hy;cases hy;exact Int.le_refl _
open Go.RowKit
theorem kl_snoc (l:List Int) (x:Int):KL.all (l++[x])=KL.all l++[.int .i64 x]:=by rw [Kind.all_app];rfl
theorem kl_info:(Tryz.prog.info? 2).map (fun i=>(i.zero,i.size,i.bytes))=some (some (.int .i64 0),1,8):=by kernel_rfl
def RSqPost (w:World) (l:List Int) (e:Ending) (w':World):Prop:=
 ∃A C,e=.returned (.slice A (sqz l).length C)∧KL.row w' w.heap.size (.slice A (sqz l).length C) (sqz l)∧Upd [] w w'
theorem rsqueezeC (v:Value) (l:List Int) (w:World) (hs:See KL w v l) (hl:l.length<100000) :
 Calls Tryz.prog 111 #[v] w (RSqPost w l):=by
 obtain ⟨i1,hi1,hy0,hy1,hy2⟩:=info_parts kl_info
 obtain ⟨Al,Cl,rfl⟩:=hs.form
 obtain ⟨n,hn⟩:∃n,l.length=n:=⟨_,rfl⟩
 rw [hn] at hs hl ⊢
 have HS:=Lib.hid hs
 have HN:=Lib.hid hn
 have n1:(n:Int)<100000:=by omega
 clear hs hn hl
 go_enter Tryz.func111,Tryz.ntmps111
 go_wp2_with fail
 go_loopg [3,4,5] (leftQ l []) (fun m s3 _ _ wr=>∃(out:List Int) (K:Nat) (A:Option Addr) (C:Nat),m=leftQ l out∧out.length=K∧s3=.slice A K C∧KL.row wr w.heap.size (.slice A K C) out∧SqAt l out∧K+leftQ l out≤n∧Upd [] w wr)
 case atStart=>exact ⟨[],0,none,0,rfl,rfl,rfl,World.ownsRow_nil _ _ _ _,SqAt.start l,by have:=leftQ_le l;rw [HN.out] at this;omega,Upd.refl _ _⟩
 case round=>
  obtain ⟨out,K,A,C,hm,hK,rfl,hrow,hsq,hkq,hu⟩:=hrel
  obtain ⟨wl,rfl⟩:∃wl:World,wl=wr:=⟨_,rfl⟩
  have HQ:=Lib.hid (And.intro hm (And.intro hK (And.intro hkq hsq)))
  have HR:=Lib.hid (And.intro hrow hu)
  have K1:(K:Int)<100000:=by omega
  have K0:(0:Int)≤(K:Int):=Int.natCast_nonneg _
  clear hm hkq hsq hrow hu
  go_wp2_with fail
  go_loopg [4,5] n (fun m s4 s5 wr=>∃(i:Nat) (z:Int),m+i=n∧s5=.int .i64 (i:Int)∧s4=.int .i64 z∧BestAt l out i z∧∃q,wr=wl.drewN q)
  case atStart=>exact ⟨0,-1,rfl,rfl,rfl,BestAt.start l out,0,rfl⟩
  case round=>
   obtain ⟨i,z,hi,rfl,rfl,hb,q,rfl⟩:=hrel
   have HI:=Lib.hid hi
   have HB:=Lib.hid hb
   have i0:(0:Int)≤(i:Int):=Int.natCast_nonneg _
   clear hb
   by_cases hlt:i<n
   ·have ii1:(i:Int)<(n:Int):=by omega
    obtain ⟨x,hx⟩:∃x,l[i]? = some x:=⟨_,List.getElem?_eq_getElem (by rw [HN.out];exact hlt)⟩
    obtain ⟨g,o,hA,-,-,x0⟩:=KL.at (HS.out.upd0 HR.out.2) hx
    subst hA
    have HX:=Lib.hid hx
    clear hx hi
    have hz:z<0∨∃a m,z=((a:Nat):Int)∧a<i∧l[a]? = some m:=by
     rcases HB.out with ⟨h1,-⟩ | ⟨a,m,h1,h2,h3,-,-⟩
     ·exact .inl (by omega)
     ·exact .inr ⟨a,m,h1,h2,h3⟩
    by_cases hK0:K=0
    ·subst hK0
     have hon:out = []:=List.eq_nil_of_length_eq_zero hK
     have hnx:isNext out x=true:=by rw [hon];rfl
     have HNX:=Lib.hid hnx
     clear hon hnx hK
     rcases hz with hz | ⟨a,m,rfl,ham,hm⟩
     ·have dz:decide (z<0)=true:=decide_eq_true hz
      have HZ:=Lib.hid (show z = -1 by rcases HB.out with ⟨h1,-⟩ | ⟨a,m,h1,-⟩<;>omega)
      clear hz
      go_upto_region 6 with fail
      go_quiet (fail)
      go_wp2_with fail
      go_roundg (n - (i+1))
      case measure=>have:=HI.out;omega
      case rel=>exact ⟨i+1,(i:Int),by have:=HI.out;omega,by go_num,rfl,HB.out.take HX.out HNX.out (.inl HZ.out),_,rfl⟩
     ·have dz:decide ((a:Int)<0)=false:=decide_eq_false (by omega)
      have a0:(0:Int)≤(a:Int):=Int.natCast_nonneg _
      have an:a<n:=by omega
      have an1:(a:Int)<(n:Int):=by omega
      obtain ⟨g',o',hA',-,-,m0⟩:=KL.at (HS.out.upd0 HR.out.2) hm
      cases hA'
      by_cases hxm:x<m
      ·have dxm:decide (x<m)=true:=decide_eq_true hxm
       have HM:=Lib.hid (And.intro hm hxm)
       clear hm hxm ham
       go_upto_region 6 with fail
       go_quiet (fail)
       go_wp2_with fail
       go_roundg (n - (i+1))
       case measure=>have:=HI.out;omega
       case rel=>exact ⟨i+1,(i:Int),by have:=HI.out;omega,by go_num,rfl,HB.out.take HX.out HNX.out (.inr ⟨a,m,rfl,HM.out.1,HM.out.2⟩),_,rfl⟩
      ·have dxm:decide (x<m)=false:=decide_eq_false hxm
       have HM:=Lib.hid (And.intro hm (show m≤x by omega))
       clear hm hxm ham
       go_upto_region 6 with fail
       go_quiet (fail)
       go_wp2_with fail
       go_roundg (n - (i+1))
       case measure=>have:=HI.out;omega
       case rel=>exact ⟨i+1,_,by have:=HI.out;omega,by go_num,rfl,HB.out.stay HX.out HM.out.1 HM.out.2,_,rfl⟩
    ·obtain ⟨k,hkK⟩:∃k,K=k+1:=⟨K - 1,by omega⟩
     obtain ⟨y,hy⟩:∃y,out[k]? = some y:=⟨_,List.getElem?_eq_getElem (by omega)⟩
     obtain ⟨go,hgo,-,yc,-⟩:=rowAt HR.out.1 hy
     subst hgo
     have y0:=yc 0 _ rfl
     have e0:k*KL.sz+0=k:=by simp [KL]
     rw [e0] at y0
     have hnl:=isNext_last (x:=x) HQ.out.2.2.2.rise (hK.trans hkK) hy
     have dK:((K:Int)==0)=false:=by rw [beq_eq_false_iff_ne];omega
     have yk:IntKind.i64.wrap ((K:Int) - 1)=(k:Int):=by rw [IntWalk.i64_in _ (by omega)];omega
     have kk0:(0:Int)≤(k:Int):=Int.natCast_nonneg _
     have kK:k<K:=by omega
     have kK1:(k:Int)<(K:Int):=by omega
     have HKK:=Lib.hid (And.intro hK hkK)
     clear hK hy yc e0 hkK hK0
     by_cases hyx:y<x
     ·have dyx:decide (y<x)=true:=decide_eq_true hyx
      rw [dyx] at hnl
      have HNX:=Lib.hid hnl
      clear hnl hyx
      rcases hz with hz | ⟨a,m,rfl,ham,hm⟩
      ·have dz:decide (z<0)=true:=decide_eq_true hz
       have HZ:=Lib.hid (show z = -1 by rcases HB.out with ⟨h1,-⟩ | ⟨a,m,h1,-⟩<;>omega)
       clear hz
       go_upto_region 6 with fail
       go_quiet (fail)
       go_wp2_with fail
       go_roundg (n - (i+1))
       case measure=>have:=HI.out;omega
       case rel=>exact ⟨i+1,(i:Int),by have:=HI.out;omega,by go_num,rfl,HB.out.take HX.out HNX.out (.inl HZ.out),_,rfl⟩
      ·have dz:decide ((a:Int)<0)=false:=decide_eq_false (by omega)
       have a0:(0:Int)≤(a:Int):=Int.natCast_nonneg _
       have an:a<n:=by omega
       have an1:(a:Int)<(n:Int):=by omega
       obtain ⟨g',o',hA',-,-,m0⟩:=KL.at (HS.out.upd0 HR.out.2) hm
       cases hA'
       by_cases hxm:x<m
       ·have dxm:decide (x<m)=true:=decide_eq_true hxm
        have HM:=Lib.hid (And.intro hm hxm)
        clear hm hxm ham
        go_upto_region 6 with fail
        go_quiet (fail)
        go_wp2_with fail
        go_roundg (n - (i+1))
        case measure=>have:=HI.out;omega
        case rel=>exact ⟨i+1,(i:Int),by have:=HI.out;omega,by go_num,rfl,HB.out.take HX.out HNX.out (.inr ⟨a,m,rfl,HM.out.1,HM.out.2⟩),_,rfl⟩
       ·have dxm:decide (x<m)=false:=decide_eq_false hxm
        have HM:=Lib.hid (And.intro hm (show m≤x by omega))
        clear hm hxm ham
        go_upto_region 6 with fail
        go_quiet (fail)
        go_wp2_with fail
        go_roundg (n - (i+1))
        case measure=>have:=HI.out;omega
        case rel=>exact ⟨i+1,_,by have:=HI.out;omega,by go_num,rfl,HB.out.stay HX.out HM.out.1 HM.out.2,_,rfl⟩
     ·have dyx:decide (y<x)=false:=decide_eq_false hyx
      rw [dyx] at hnl
      have HNX:=Lib.hid hnl
      clear hnl hyx hz
      go_upto_region 6 with fail
      go_quiet (fail)
      go_wp2_with fail
      go_roundg (n - (i+1))
      case measure=>have:=HI.out;omega
      case rel=>exact ⟨i+1,_,by have:=HI.out;omega,by go_num,rfl,HB.out.keep HX.out HNX.out,_,rfl⟩
   ·have hin:i=n:=by omega
    have HBN:=Lib.hid (show BestAt l out l.length z by rw [HN.out,←hin];exact HB.out)
    clear hin hi
    rcases HBN.out with ⟨hz,hno⟩ | ⟨a,m,hz,han,hm,hnx,hle⟩
    ·have dz:decide (z<0)=true:=decide_eq_true (by omega)
     have hdone:=HQ.out.2.2.2.done fun x hx=>by
      obtain ⟨j,hj⟩:=List.mem_iff_getElem?.1 hx
      exact hno j x (List.getElem?_eq_some_iff.1 hj).1 hj
     have HD:=Lib.hid hdone
     clear hz hno hdone
     go_wp2_with fail
     go_ret
     have hk2:=hK
     rw [HD.out] at hk2
     refine ⟨A,C,by rw [hk2];rfl,?_,HR.out.2.drewN q⟩
     rw [hk2,←HD.out]
     exact own_upd HR.out.1 ((Upd.refl [] _).drewN q) (by simp)
    ·subst hz
     have dz:decide ((a:Int)<0)=false:=decide_eq_false (by omega)
     have a0:(0:Int)≤(a:Int):=Int.natCast_nonneg _
     have an:a<n:=by rw [HN.out] at han;exact han
     have an1:(a:Int)<(n:Int):=by omega
     obtain ⟨g',o',hA',-,-,m0⟩:=KL.at (HS.out.upd0 (HR.out.2.drewN q)) hm
     subst hA'
     have hst:=HQ.out.2.2.2.step (List.mem_of_getElem? hm) hnx fun x hx hx'=>by
      obtain ⟨j,hj⟩:=List.mem_iff_getElem?.1 hx
      exact hle j x (List.getElem?_eq_some_iff.1 hj).1 hj hx'
     have HST:=Lib.hid hst
     clear han hm hnx hle hst
     go_wp2_with (at_builtin;refine wpList_app _ rfl _ _ 82 rfl w.heap.size 2 i1 (.int .i64 0) 1 8 Tryz.underlying82 hi1 hy0 hy1 hy2 rfl (by decide) _ K (KL.all out) rfl (by have h:=own_upd HR.out.1 (((Upd.refl [] wl).drewN q).alloc (.cells #[.int .i64 m] 2)) (by simp);rw [hK] at h;exact h) _ 1 [.int .i64 m] rfl (sees_lit (wl.drewN q) #[.int .i64 m] 2 1 1 rfl (by decide)) (by simp [Value.oneCell']) (by unfold maxLen;omega) (by omega) (by have:=HR.out.2.size;simp [World.drewN];omega) ?_)
     intro A' C' w4 HP
     have hu4:Upd [] w w4:=((HR.out.2.drewN q).alloc _).trans' HP.upd (fun y hy=>.inr (own_ge HR.out.1 y hy))
     have hr4:KL.row w4 w.heap.size (.slice A' (K+1) C') (out++[m]):=by
      have h:=HP.own
      unfold Kind.row
      rw [List.length_append,hK,kl_snoc]
      exact h
     have HE:=Lib.hid (And.intro hr4 hu4)
     clear HP hu4 hr4
     go_wp2_with fail
     go_roundg (leftQ l (out++[m]))
     case measure=>have:=HST.out.2;have:=HQ.out.1;omega
     case rel=>exact ⟨out++[m],K+1,A',C',rfl,by rw [List.length_append,hK];rfl,rfl,HE.out.1,HST.out.1,by have:=HST.out.2;have:=HQ.out.2.2.1;omega,HE.out.2⟩
end Go.Proofs.YtkmnbodlciepaaaGreat
