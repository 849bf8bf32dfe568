/- An interval tree and what it tells: Len, Stab, Meet, Drop; a tree or none; Build, right or not. -/
import Derived.ProofKit
import Derived.Deep.RegionHeld3
import Derived.Test.YtkbaaonchdeneaaGreatPbBoxesCoverP2
import Derived.Test.YtkbaaonchdeneaaGreatPb20
set_option maxHeartbeats 4000000
set_option maxRecDepth 100000
namespace Go.Proofs.YtkbaaonchdeneaaGreat
open Go.RowKit
theorem a4f {M:Nat} (hM:M≤1000000) (hso:WW M) {w:World} {b:Nat} {F:List Nat} {S:List Sp} {N:Nat} (h:OO w b F S N) (x:Int) (hS:S.length<M) :
 Calls Tryz.prog 63 #[.pointer (some ⟨b,0,none⟩),.int .i64 x] w (dK w (EU S x) (2*BA (2*N))):=by
 obtain ⟨p,vr,R,T,Fk,h1,-,h2,h3,h4,h5⟩:=h.at_;have hr:∀s∈R,s.lo≤s.hi:=fun s hs=>h.right s (h2.mem_iff.1 hs)
 have hp:=PD (x:=x) h4 hr;have hl:=h2.length_eq;have hm:=h.many;have hf:=h.few;have hpl:(T.Ho x).length≤R.length:=by rw [hp.length_eq];exact List.length_filter_le _ _
 have ht:=RP x T;have hb:=CQ (2*N) 11 (by omega)
 have e:GZ (LQ (T.Ho x))=EU S x:=by
  rw [←jg h2];exact Py (hp.map Sp.id)
 have el:(EU S x).length=(T.Ho x).length:=by rw [←e,Hl,Ns]
 refine (vV hM hso h1 x (Xm h4 (by omega)) (by omega) (by omega)).mono ?_
 intro e' w' hw;rw [e] at hw;exact ⟨_,hw,by omega,by omega⟩
def a1W (w:World) (b:Nat) (F:List Nat) (S:List Sp) (N:Nat) (x:Sp) (e:Ending) (w':World):Prop:=
 e=.returned (.bool (decide (x∈S)))∧OO w' b F (without S x) N∧Bf F w w'
theorem a6q {w:World} {b:Nat} {F:List Nat} {S:List Sp} {N:Nat} (h:OO w b F S N) (x:Sp) :
 Calls Tryz.prog 110 #[.pointer (some ⟨b,0,none⟩),KR x] w (a1W w b F S N x):=by
 obtain ⟨p,vr,R,T,Fk,h1,h6,h2,h3,h4,h5⟩:=h.at_;have hl:=h2.length_eq;have hm:=h.many;have hf:=h.few;by_cases hx:x∈S
 ·have hxR:=h2.mem_iff.2 hx;refine (jy h1 x hxR (h2.nodup_iff.2 (Xe h.names)) h4 (by omega)).mono ?_
  rintro e w' ⟨rfl,vn,g1,g2,g3⟩;have hu:Bf F w w':=g3.mono fun y hy=>.inl (h6 y (by simpa using hy))
  refine ⟨by rw [decide_eq_true hx],⟨⟨p,vn,without R x,T.drop x,Fk,g1,fun k hk=>h6 k (by rw [g2] at hk;exact hk),h2.filter _,h3.filter _,Zy (h.right x hx) h4,by rw [RQ];exact h5⟩,
   fun s hs=>h.right s (List.mem_filter.1 hs).1,List.Nodup.sublist (List.Sublist.map _ List.filter_sublist) h.names,Bd (List.length_filter_le _ _) hm,hf,fun k hk=>Bc (h.flt k hk) hu.size⟩,hu⟩
 ·refine (qI h1 x (fun hc=>hx (h2.mem_iff.1 hc)) (by omega)).mono ?_
  rintro e w' ⟨rfl,hu⟩;exact ⟨by rw [decide_eq_false hx],by rw [Md hx];exact h.Bh hu,hu.mono (by simp)⟩
end Go.Proofs.YtkbaaonchdeneaaGreat
namespace Go.Proofs.YtkbaaonchdeneaaGreat.EI
open Go.RowKit
abbrev TV:=Option Nat×Option Nat
def tp (o:Option Nat):Value:=.pointer (o.map fun b=>⟨b,0,none⟩)
def tq (o:Option Nat):Value:=.map o
def KT:Kind TV:={ T:=0,sT:=108,eT:=102,sz:=2,enc:=fun p=>[tp p.1,tq p.2],len:=fun _=>rfl,one:=fun p u hu=>by simp [tp,tq] at hu;rcases hu with rfl | rfl<;>rfl }
theorem YV:(Tryz.prog.info? 102).map (fun i=>(i.zero,i.size,i.bytes))=some (some (.agg #[.pointer none,.map none]),2,16):=by kernel_rfl
theorem QG:(Tryz.prog.info? 28).map (fun i=>(i.zero,i.size,i.bytes))=some (some (.agg #[.int .i64 0,.int .i64 0,.int .i64 0,.int .i64 0,.int .u32 0]),5,40):=by kernel_rfl
theorem jA:(Tryz.prog.info? 62).map (fun i=>(i.zero,i.size,i.bytes))=some (some (.agg #[.int .i64 0,.int .i64 0,.int .u32 0]),3,24):=by kernel_rfl
theorem a4g (P:List TV) (v:TV):∀k,k<P.length→KT.all (P.set k v)=((KT.all P).set (k*2) (tp v.1)).set (k*2+1) (tq v.2):=by
 induction P with
 |nil=>intro k hk;simp at hk
 |cons a P ih=>
  intro k hk;have e:∀(b:TV) (Q:List TV),KT.all (b::Q)=tp b.1::tq b.2::KT.all Q:=fun b Q=>rfl
  cases k with
  |zero=>rw [List.set_cons_zero,e,e];rfl
  |succ k=>
   rw [List.set_cons_succ,e,e,ih k (by simpa using hk),show (k+1)*2=k*2+1+1 by omega];rfl
theorem a0T (x y:Bx) (h:L8 x=L8 y):x=y:=by
 cases x;cases y
 simp [L8] at h;simp only [Bx.mk.injEq];omega
def MKB:MK Bx:={ T:=25,k:=26,e:=28,enc:=L8,zero:=⟨0,0,0,0,0⟩,hT:=Tryz.underlying25,hk:=Tryz.underlying26,hz:=fun w=>(by kernel_rfl),inj:=a0T }
def LU (b:Bx):Sp:=⟨b.x1,b.x2,b.id⟩
def Vw (l:List Bx) (x:Nat):Option Bx:=l.find? fun y=>y.id==x
def MS (w:World) (p:TV) (l:Nat×List Bx) (F:List Nat):Prop:=
 ∃b c F1,p=(some b,some c)∧OO w b F1 (l.2.map LU) l.1∧MapU MKB w c (Vw l.2) l.2.length∧F=F1++[c]∧c∉F1
theorem MS.upd {w w':World} {p:TV} {l:Nat×List Bx} {F G:List Nat} (h:MS w p l F) (hu:Bf G w w') (hd:∀k∈F,k∉G):MS w' p l F:=by
 obtain ⟨b,c,F1,h1,h2,h3,rfl,h5⟩:=h;exact ⟨b,c,F1,h1,h2.upd hu (fun k hk=>hd k (by simp [hk])),h3.upd hu (hd c (by simp)),rfl,h5⟩
theorem MS.lt {w:World} {p:TV} {l:Nat×List Bx} {F:List Nat} (h:MS w p l F):∀k∈F,k<w.heap.size:=by
 obtain ⟨b,c,F1,h1,h2,h3,rfl,h5⟩:=h;intro k hk;rcases List.mem_append.1 hk with hk | hk
 ·exact h2.flt k hk
 ·simp at hk;subst hk;exact h3.lt
theorem MS.some {w:World} {p:TV} {l:Nat×List Bx} {F:List Nat} (h:MS w p l F):∃b c,p=(some b,some c):=by
 obtain ⟨b,c,F1,h1,_⟩:=h;exact ⟨b,c,h1⟩
structure Good (l:List Bx):Prop where
 right:∀s∈l,s.x1≤s.x2∧s.y1≤s.y2
 names:(l.map Bx.id).Nodup
 BO:∀s∈l,s.BO∧s.id<4294967296
theorem Good.sub {l m:List Bx} (h:Good m) (hs:l.Sublist m):Good l:=
 ⟨fun s hl=>h.right s (hs.subset hl),h.names.sublist (hs.map _),fun s hl=>h.BO s (hs.subset hl)⟩
theorem J6 {S:List Bx} (h:(S.map Bx.id).Nodup):S.Nodup:=by
 induction S with
 |nil=>exact List.nodup_nil
 |cons a S ih=>
  rw [List.map_cons,List.nodup_cons] at h;rw [List.nodup_cons];exact ⟨fun hc=>h.1 (List.mem_map.2 ⟨a,hc,rfl⟩),ih h.2⟩
theorem mW (l:List Bx):(l.map LU).map Sp.id=l.map Bx.id:=by rw [List.map_map];rfl
theorem Good.rights {l:List Bx} (h:Good l):RN (l.map LU)=true:=by
 rw [Oq,mW];refine ⟨fun s hs=>?_,h.names⟩
 obtain ⟨b,hb,rfl⟩:=List.mem_map.1 hs;exact (h.right b hb).1
theorem vY {l:List Bx} (hn:(l.map Bx.id).Nodup) {k:Nat} {s:Bx} (hs:l[k]? = some s):Vw (l.take k) s.id=none∧(fun y=>if y=s.id then some s else Vw (l.take k) y)=Vw (l.take (k+1)):=by
 obtain ⟨g1,g2⟩:=AV hs;have e:l.take (k+1)=l.take k++[s]:=by rw [AZ g1,g2]
 have h1:((l.take (k+1)).map Bx.id).Nodup:=hn.sublist ((List.take_sublist _ _).map _);rw [e,List.map_append,List.nodup_append] at h1
 have h2:Vw (l.take k) s.id=none:=by
  unfold Vw;rw [List.find?_eq_none];intro y hy;have:=h1.2.2 y.id (List.mem_map.2 ⟨y,hy,rfl⟩) s.id (by simp);simpa using this
 refine ⟨h2,?_⟩
 funext y
 rw [e];unfold Vw at h2 ⊢;rw [List.find?_append];by_cases hy:y=s.id
 ·subst hy;rw [if_pos rfl,h2];simp
 ·rw [if_neg hy];have:(s.id==y)=false:=by simpa using Ne.symm hy
  simp [this]
theorem qK {l:List Bx} (hn:(l.map Bx.id).Nodup) {x:Bx} (hx:x∈l):(Vw l x.id).isSome=true∧(fun y=>if y=x.id then none else Vw l y)=Vw (l.erase x):=by
 constructor
 ·unfold Vw;rw [List.find?_isSome];exact ⟨x,hx,by simp⟩
 ·funext y
  unfold Vw;rw [(J6 hn).erase_eq_filter,List.find?_filter];by_cases hy:y=x.id
  ·rw [if_pos hy];symm
   rw [List.find?_eq_none];intro z hz hc;simp at hc
   exact hc.1 (by
    obtain ⟨h1,h2⟩:=hc;have:z.id=x.id:=by rw [h2,hy]
    clear h1;induction l with
    |nil=>cases hz
    |cons a l ih=>
     rw [List.map_cons,List.nodup_cons] at hn;rcases List.mem_cons.1 hz with rfl | hz2
     ·rcases List.mem_cons.1 hx with rfl | hx2
      ·rfl
      ·exact (hn.1 (List.mem_map.2 ⟨x,hx2,this.symm⟩)).elim
     ·rcases List.mem_cons.1 hx with rfl | hx2
      ·exact (hn.1 (List.mem_map.2 ⟨z,hz2,this⟩)).elim
      ·exact ih hn.2 hx2 hz2)
  ·rw [if_neg hy];congr 1
   funext z
   by_cases hz:z.id=y
   ·have:z≠x:=fun e=>hy (by rw [←hz,e])
    simp [hz,this]
   ·simp [hz]
theorem dN {l:List Bx} (hn:(l.map Bx.id).Nodup) {x:Bx} (hx:x∈l):without (l.map LU) (LU x)=(l.erase x).map LU:=by
 rw [(J6 hn).erase_eq_filter];unfold without;rw [List.filter_map];congr 1
 refine List.filter_congr fun z hz=>?_
 by_cases e:z=x
 ·simp [e]
 ·have:LU z≠LU x:=by
   intro h;have hi:z.id=x.id:=by injection h
   refine e ?_
   clear e h;induction l with
   |nil=>cases hz
   |cons a l ih=>
    rw [List.map_cons,List.nodup_cons] at hn;rcases List.mem_cons.1 hz with rfl | hz2
    ·rcases List.mem_cons.1 hx with rfl | hx2
     ·rfl
     ·exact (hn.1 (List.mem_map.2 ⟨x,hx2,hi.symm⟩)).elim
    ·rcases List.mem_cons.1 hx with rfl | hx2
     ·exact (hn.1 (List.mem_map.2 ⟨z,hz2,hi⟩)).elim
     ·exact ih hn.2 hx2 hz2
  simp [e,this]
theorem vZ (b:Bx) (w:World):Calls Tryz.prog 108 #[L8 b] w fun e w'=>e=.returned (KR (LU b))∧Bf [] w w':=by
 obtain ⟨W,hW,hu,h0,h1⟩:=Pj w #[.int .i64 b.x1,.int .i64 b.x2,.int .i64 b.y1,.int .i64 b.y2,.int .u32 (b.id:Int)] #[.int .i64 0,.int .i64 0,.int .u32 0] 28 62;have HW:=AQ hW;have HU:=AQ hu;obtain ⟨q1,hq1⟩:∃q,w.heap.size+1=q:=⟨_,rfl⟩;obtain ⟨q0,hq0⟩:∃q,w.heap.size=q:=⟨_,rfl⟩;rw [hq1] at h1;rw [hq0] at h0;have HQ:=Ai hq0 hq1;have h5:Ic (((W.setCell ⟨q1,0,none⟩ (.int .i64 b.x1)).setCell ⟨q1,1,none⟩ (.int .i64 b.x2)).setCell ⟨q1,2,none⟩ (.int .u32 (b.id:Int))) q1 #[.int .i64 b.x1,.int .i64 b.x2,.int .u32 (b.id:Int)] 62:=((h1.set 0 (.int .i64 b.x1)).set 1 (.int .i64 b.x2)).set 2 (.int .u32 (b.id:Int));have GR:Bf [q1] W (((W.setCell ⟨q1,0,none⟩ (.int .i64 b.x1)).setCell ⟨q1,1,none⟩ (.int .i64 b.x2)).setCell ⟨q1,2,none⟩ (.int .u32 (b.id:Int))):=(((Bf.refl _ _).setCell (p:=⟨q1,0,none⟩) (.inl (by simp)) _).setCell (p:=⟨q1,1,none⟩) (.inl (by simp)) _).setCell (p:=⟨q1,2,none⟩) (.inl (by simp)) _;have HF5:=Ai h5 GR;obtain ⟨y0,y1,y2,y3,y4⟩:=h0.cells5;obtain ⟨z0,z1,z2⟩:=h1.cells3;have f0:=h1.frozen 0;have f1:=h1.frozen 1;have f2:=h1.frozen 2;unfold L8 KR LU;clear hW hu h0 h1 h5 GR hq0 hq1;go_enter Tryz.func108,Tryz.ntmps108
 go_upto_region 1 with fail
 rw [←HW.out,HQ.2,HQ.1];clear HW;go_wp2_with fail
 clear z0 z1 z2 y0 y1 y2 y3 y4;obtain ⟨z0,z1,z2⟩:=HF5.1.cells3;exact bodyPost_ret (v:=.agg #[.int .i64 b.x1,.int .i64 b.x2,.int .u32 (b.id:Int)]) (by simp [results,Tryz.results108,go_sem,z0,z1,z2]) rfl ⟨rfl,HU.out.trans' HF5.2 (fun k hk=>.inr (by have:=HQ.out;simp at hk;omega))⟩
theorem a4h (v:Value) (l:List Bx) (w:World) (h:See G5 w v l) (hg:Good l) (hl:l.length≤1000) :
 Calls Tryz.prog 56 #[v] w fun e w'=>∃b c F,e=.returned (.agg #[.pointer (some ⟨b,0,none⟩),.map (some c)])∧MS w' (some b,some c) (l.length,l) F∧(∀k∈F,w.heap.size≤k)∧Bf [] w w':=by
 obtain ⟨A,C,rfl⟩:=h.form;obtain ⟨i1,hi1,hw0,hw1,hw2⟩:=info_parts jA;obtain ⟨n,hn⟩:=AO l.length;rw [hn] at h hl ⊢;have n0:(0:Int)≤(n:Int):=AU _;obtain ⟨qm,hqm⟩:∃q,w.heap.size+1=q:=⟨_,rfl⟩;obtain ⟨q0,hq0⟩:∃q,w.heap.size=q:=⟨_,rfl⟩;obtain ⟨q1,hq1⟩:∃q,w.heap.size+1+1=q:=⟨_,rfl⟩;obtain ⟨W1,hW1,u1,c1⟩:=BJ w #[.pointer none,.map none] 102;have e1:W1.heap.size=w.heap.size+1:=by rw [hW1];simp
 have mm:=MapU.made MKB W1;have u2:Bf [] W1 (W1.alloc (.map #[] 0)):=(Bf.refl _ _).alloc _;obtain ⟨W2,hW2⟩:∃W2,W2=W1.alloc (.map #[] 0):=⟨_,rfl⟩;have e2:W2.heap.size=w.heap.size+1+1:=by rw [hW2];simp [e1]
 rw [←hW2,e1,hqm] at mm;rw [←hW2] at u2;obtain ⟨W3,hW3,u3,c3⟩:=BJ W2 #[.pointer none,.map (some qm)] 102;rw [e2,hq1] at c3;rw [hq0] at c1;have e3:W3.heap.size=w.heap.size+3:=by rw [hW3];simp [e2]
 have HM:=AQ (mm.upd u3 (by simp));have H0:=AQ ((c1.Bh u2).Bh u3);have H1:=AQ c3;have HU:=AQ ((u1.trans u2).trans u3);have HS:=AQ h;have HQ:=Ap hq0 hqm hq1 e3;have HG:=AQ hg;have HN:=AQ hn;have HW:=Aj hW1 hW2 hW3;have hmm:=@run_makeMap Tryz.prog;clear h hg hn mm u1 u2 u3 c1 c3 e1 e2 e3 hqm hq0 hq1 hW1 hW2 hW3;go_enter Tryz.func56,Tryz.ntmps56
 go_upto_region 2 with fail
 rw [←HW.1,←HW.2.1,HQ.2.2.1,HQ.2.1,HQ.1,←HW.2.2];clear HW hmm;go_wp2_with fail
 go_loopg [4,11] n (fun m s4 s11 wr=>∃(k:Nat) (vo:Value),vo=s4∧m+k=n∧s11=.int .i64 (k:Int)∧MapU MKB wr qm (Vw (l.take k)) k∧Dt.row wr W3.heap.size vo ((l.take k).map LU)∧Bf [qm] W3 wr)
 case atStart=>exact ⟨0,_,rfl,rfl,rfl,HM.out,World.ownsRow_nil _ _ _ _,Bf.refl _ _⟩
 case round=>
  obtain ⟨k,vo,hvo,hk,rfl,hm,hrow,hup⟩:=hrel;subst hvo;have k0:(0:Int)≤(k:Int):=AU _;have hkn:k≤n:=by omega
  have hsz:=hup.size;by_cases hlt:k<n
  ·obtain ⟨s,hs⟩:∃s,l[k]? = some s:=⟨_,AX (by rw [HN.out];exact hlt)⟩;have hse:See G5 wr (.slice A n C) l:=HS.out.upd ((HU.out.mono (by simp)).trans hup) (fun _ y _ hlt2 hc=>by have:=HQ.out;simp at hc;omega);obtain ⟨g,o,hA,-,-,y0,y1,y2,y3,y4⟩:=G5.at hse hs
   cases hA
   have b1:(k:Int)<(n:Int):=by omega
   have hid:=(HG.out.BO s (List.mem_of_getElem? hs)).2;obtain ⟨hnn,hst⟩:=vY HG.out.names hs;have hlen:((l.take k).map LU).length=k:=by rw [List.length_map,Ba,HN.out];omega
   have hnx:(l.take (k+1)).map LU=(l.take k).map LU++[LU s]:=by
    obtain ⟨g1,g2⟩:=AV hs;rw [AZ g1,g2,List.map_append];rfl
   have hk1:=(H1.out.upd hup (by have:=HQ.out;simp;omega));go_upto_region 6 with fail
   obtain ⟨Wx,wo,SE,JJ⟩:=BJ wr #[.int .i64 s.x1,.int .i64 s.x2,.int .i64 s.y1,.int .i64 s.y2,.int .u32 (s.id:Int)] 28;rw [←wo];obtain ⟨qb,RZ⟩:∃q,wr.heap.size=q:=⟨_,rfl⟩;rw [RZ] at JJ ⊢;have b0I:qb≠qm:=Ac HQ;obtain ⟨w5,hput,tN,GR,hz5⟩:=(hm.upd SE (by simp)).put hid s (by unfold maxLen;omega);rw [hnn,hst] at tN;have cZ:(Instr.mapUpdate 25 (.map (some qm)) (.int .u32 (s.id:Int)) (.agg #[.int .i64 s.x1,.int .i64 s.x2,.int .i64 s.y1,.int .i64 s.y2,.int .u32 (s.id:Int)])).run Tryz.prog Wx=.ok () w5:=hput;obtain ⟨x0,x1,x2,x3,x4⟩:=JJ.cells5;obtain ⟨t0,t1⟩:=(hk1.Bh SE).cells2;have Nu:Bf [qm] W3 w5:=(hup.trans (SE.mono (by simp))).trans GR;have Jc:Dt.row w5 W3.heap.size vo ((l.take k).map LU):=Bg (Bg hrow SE (by simp)) GR (fun y hy hc=>by have:=BD hrow y hy;have:=HQ.out;simp at hc;omega);have hq5:=JJ.upd GR (by simp;exact b0I);generalize (l.take k).map LU=L at Jc hlen hnx;have J3:=Jc;unfold Kind.row at J3;rw [hlen] at J3;have hsp:=vZ s w5;unfold L8 KR LU at hsp;have HSP:=AQ hsp;have HI:=Az hk tN Nu hnx hlen J3 hq5 Nu.size;have HR:=AQ cZ;clear hk hm hrow hup hse hs y0 y1 y2 y3 y4 hnn hst hnx hlen hk1 wo hput tN GR hz5 Nu Jc J3 hq5 hsp SE JJ cZ RZ;have cZ:=HR.out;go_upto_region 7 with fail
   clear cZ x0 x1 x2 x3 x4 t0 t1;obtain ⟨x0,x1,x2,x3,x4⟩:=HI.2.2.2.2.2.2.1.cells5;go_wp2_with fail
   (with_reducible refine HSP.out.mono ?_);rintro e w6 ⟨rfl,u6⟩;have Jv:=AQ u6;have hz6:W3.heap.size≤w6.heap.size:=Bd HI.2.2.2.2.2.2.2 u6.size;clear u6 x0 x1 x2 x3 x4;go_wp2_with (at_builtin;refine BL _ rfl _ _ 56 rfl W3.heap.size 62 i1 (.agg #[.int .i64 0,.int .i64 0,.int .u32 0]) 3 24 Tryz.underlying56 hi1 hw0 hw1 hw2 rfl (by decide) _ k (Dt.all L) rfl (Bg HI.2.2.2.2.2.1 (Jv.out.alloc _) (by simp)) _ 1 (Dt.enc (LU s)) rfl (BM w6 #[.int .i64 s.x1,.int .i64 s.x2,.int .u32 (s.id:Int)] 62 3 1 rfl (by decide)) (Dt.one (LU s)) (by unfold maxLen;omega) (by omega) (by simp;omega) ?_)
   intro A3 C3 w7 HP3;have iq:=AQ HP3;clear HP3;go_wp2_with fail
   go_roundg (n - (k+1))
   case measure=>have:=HI.1;omega
   case rel=>
    have hge:=fun y (hy:y∈blk vo)=>BD HI.2.2.2.2.2.1 y hy
    have Oo:=iq.out.upd;refine ⟨k+1,.slice A3 (k+1) C3,rfl,Ac HI.1,by go_num,?_,?_,((HI.2.2.1.trans (Jv.out.mono (by simp))).alloc _).trans' Oo (fun y hy=>.inr (hge y hy))⟩
    ·exact ((HI.2.1.upd Jv.out (by simp)).upd ((Bf.refl [] _).alloc _) (by simp)).upd Oo (fun hc=>by have:=hge _ hc;have:=HQ.out;omega)
    ·rw [HI.2.2.2.1];unfold Kind.row;rw [AY,HI.2.2.2.2.1,Dt.Ci];exact iq.out.own
  ·have hkn2:k=n:=by omega
   have hall:l.take k=l:=by rw [List.take_of_length_le];rw [HN.out];omega
   rw [hall] at hm hrow
   have hbu:=jr vo (l.map LU) wr (See.BX hrow) (by
    intro s hs;obtain ⟨b,hb,rfl⟩:=List.mem_map.1 hs;exact (HG.out.BO b hb).2) (by rw [List.length_map,HN.out];exact hl) HG.out.rights
   rw [List.length_map,HN.out] at hbu;obtain ⟨Ab,Cb,rfl⟩:=Bv hrow;rw [List.length_map,HN.out] at hbu ⊢;have HB:=AQ hbu;have HR:=Aj hm hup hkn2;clear hbu hm hup hrow hall hk hkn2;go_wp2_with fail
   (with_reducible refine HB.out.mono ?_);rintro e w1 ⟨hu1,b,F1,rfl,hi,hF1⟩;have hk1:=(H1.out.upd HR.2.1 (by have:=HQ.out;simp;omega)).Bh hu1;have hf:=hk1.frozen 0;obtain ⟨z0,z1⟩:=hk1.cells2;have hs:=hk1.set 0 (.pointer (some ⟨b,0,none⟩));have hup:Bf [q1] w1 (w1.setCell ⟨q1,0,none⟩ (.pointer (some ⟨b,0,none⟩))):=(Bf.refl _ _).setCell (p:=⟨q1,0,none⟩) (.inl (by simp)) _;have hsz3:=HR.2.1.size;have b0J:q1<wr.heap.size:=Ac HQ;have hi2:=hi.upd hup (fun k hk hc=>by have:=hF1 k hk;simp at hc;omega)
   have hmp:MapU MKB (w1.setCell ⟨q1,0,none⟩ (.pointer (some ⟨b,0,none⟩))) qm (Vw l) n:=by
    have h9:=HR.1;rw [HR.2.2] at h9;exact (h9.upd hu1 (by simp)).upd hup (by have:=HQ.out;simp;omega)
   have hu2:Bf [qm] W3 w1:=HR.2.1.trans (hu1.mono (by simp));have h02:=((H0.out.upd hu2 (by have:=HQ.out;simp;omega)).upd hup (by have:=HQ.out;simp;omega));have hu3:Bf [] w (w1.setCell ⟨q1,0,none⟩ (.pointer (some ⟨b,0,none⟩))):=(HU.out.trans' hu2 (fun k hk=>.inr (by have:=HQ.out;simp at hk;omega))).trans' hup (fun k hk=>.inr (by have:=HQ.out;simp at hk;omega));have HT:=AQ (show MS (w1.setCell ⟨q1,0,none⟩ (.pointer (some ⟨b,0,none⟩))) (some b,some qm) (n,l) (F1++[qm]) from ⟨b,qm,F1,rfl,hi2,by rw [HN.out];exact hmp,rfl,fun hc=>by have:=hF1 _ hc;have:=HQ.out;omega⟩)
   have hge:∀k∈F1++[qm],w.heap.size≤k∧k≠q0:=fun k hk=>by
    have h1:=HU.out.size;have h2:=HQ.out;rcases List.mem_append.1 hk with hk | hk
    ·have:=hF1 k hk;omega
    ·simp at hk;omega
   have HGE:=AQ hge;have Zu:=AQ hu3;have H04:=AQ h02;have aW:=AQ hs;clear hu1 hi hF1 hk1 hs hup hi2 hmp hu2 h02 hu3 hge hsz3 b0J;go_upto_region 10 with fail
   generalize (w1.setCell ⟨q1,0,none⟩ (.pointer (some ⟨b,0,none⟩)))=w4 at HT Zu H04 aW ⊢;clear z0 z1 hf;obtain ⟨z0,z1⟩:=(show w4.cell? ⟨q1,0,none⟩=some (.pointer (some ⟨b,0,none⟩))∧w4.cell? ⟨q1,1,none⟩=some (.map (some qm)) from ⟨aW.out.cell 0,aW.out.cell 1⟩);obtain ⟨y0,y1⟩:=H04.out.cells2;have f0:=H04.out.frozen 0;have f1:=H04.out.frozen 1;have h5:Ic ((w4.setCell ⟨q0,0,none⟩ (.pointer (some ⟨b,0,none⟩))).setCell ⟨q0,1,none⟩ (.map (some qm))) q0 #[.pointer (some ⟨b,0,none⟩),.map (some qm)] 102:=(H04.out.set 0 (.pointer (some ⟨b,0,none⟩))).set 1 (.map (some qm));have GR:Bf [q0] w4 ((w4.setCell ⟨q0,0,none⟩ (.pointer (some ⟨b,0,none⟩))).setCell ⟨q0,1,none⟩ (.map (some qm))):=((Bf.refl _ _).setCell (p:=⟨q0,0,none⟩) (.inl (by simp)) _).setCell (p:=⟨q0,1,none⟩) (.inl (by simp)) _;have HF5:=Ai h5 GR;clear h5 GR;go_wp2_with fail
   clear z0 z1 y0 y1;obtain ⟨z0,z1⟩:=HF5.1.cells2;exact bodyPost_ret (v:=.agg #[.pointer (some ⟨b,0,none⟩),.map (some qm)]) (by simp [results,Tryz.results56,go_sem,z0,z1]) rfl ⟨b,qm,F1++[qm],rfl,HT.out.upd HF5.2 (fun k hk hc=>by simp at hc;exact (HGE.out k hk).2 hc),fun k hk=>(HGE.out k hk).1,Zu.out.trans' HF5.2 (fun k hk=>.inr (by have:=HQ.out;simp at hk;omega))⟩
def a6r (w:World) (b c:Nat) (l:Nat×List Bx) (F:List Nat) (x:Bx) (e:Ending) (w':World):Prop:=∃r,e=.returned (.bool r)∧MS w' (some b,some c) (l.1,l.2.erase x) F∧Bf F w w'
theorem a6s (w:World) (b c:Nat) (l:Nat×List Bx) (F:List Nat) (x:Bx) (hx:x∈l.2) (b0K:x.id<4294967296) (h:MS w (some b,some c) l F) :
 Calls Tryz.prog 57 #[.agg #[.pointer (some ⟨b,0,none⟩),.map (some c)],L8 x] w (a6r w b c l F x):=by
 obtain ⟨b',c',F1,e0,hi,hm,rfl,hap⟩:=h
 cases e0
 have hnm:(l.2.map Bx.id).Nodup:=by rw [←mW];exact hi.names
 have hwm:=dN hnm hx;obtain ⟨hk1,hk2⟩:=qK hnm hx;have hel:(l.2.erase x).length=l.2.length - 1:=List.length_erase_of_mem hx;obtain ⟨W,hW,hu,h0,h1⟩:=Pj w #[.pointer (some ⟨b,0,none⟩),.map (some c)] #[.int .i64 x.x1,.int .i64 x.x2,.int .i64 x.y1,.int .i64 x.y2,.int .u32 (x.id:Int)] 102 28;obtain ⟨q1,hq1⟩:∃q,w.heap.size+1=q:=⟨_,rfl⟩;obtain ⟨q0,hq0⟩:∃q,w.heap.size=q:=⟨_,rfl⟩;rw [hq1] at h1;rw [hq0] at h0;obtain ⟨w2,hdel,hm2,hu2,-⟩:=(hm.upd hu (by simp)).drop b0K 0;rw [hk1,hk2,if_pos rfl,←hel] at hm2;obtain ⟨z0,z1⟩:=(show W.cell? ⟨q0,0,none⟩=some (.pointer (some ⟨b,0,none⟩))∧W.cell? ⟨q0,1,none⟩=some (.map (some c)) from ⟨h0.cell 0,h0.cell 1⟩);obtain ⟨y0,y1,y2,y3,y4⟩:=h1.cells5;have hcW:c<W.heap.size:=by have:=hm.lt;have:=hu.size;omega
 have a6t:q0≠c:=by have:=hm.lt;omega
 have a6u:q1≠c:=by have:=hm.lt;omega
 have h02:=h0.upd hu2 (by simp;exact a6t);have h12:=h1.upd hu2 (by simp;exact a6u);have hi2:=(hi.Bh hu).upd hu2 (fun k hk hc=>by simp at hc;subst hc;exact hap hk);have a6v:q0∉F1:=fun hc=>by have:=hi.flt _ hc;omega
 have a6w:q1∉F1:=fun hc=>by have:=hi.flt _ hc;omega
 have hsp:=fun w9=>vZ x w9
 have hdr:=fun (w9:World) (g:OO w9 b F1 (l.2.map LU) l.1)=>a6q g (LU x)
 unfold L8 KR at hsp;unfold KR a1W at hdr;unfold L8;have HI:=Aw hi2 hm2 hu2 h02 h12 hap hwm;have HS:=Ai hsp hdr;have HU:=AQ hu;have HF:=Ai a6v a6w;have HD:=AQ hdel;have HW:=AQ hW;have HQ:=Ai hq0 hq1;clear hq0 hq1 hW hu h0 h1 hi hm hap hnm hwm hk1 hk2 hel hm2 hu2 h02 h12 hi2 hsp hdr a6v a6w hcW a6t a6u hdel;have a6x:(Builtin.delete_ #[25,26] 0 #[.map (some c),.int .u32 (x.id:Int)]).run Tryz.prog W=.ok (.tuple #[]) w2:=HD.out;go_enter Tryz.func57,Tryz.ntmps57
 go_upto_region 1 with fail
 rw [←HW.out,HQ.2,HQ.1];clear HW;go_upto_region 2 with fail
 clear z0 z1 y0 y1 y2 y3 y4 a6x;obtain ⟨z0,z1⟩:=(show w2.cell? ⟨q0,0,none⟩=some (.pointer (some ⟨b,0,none⟩))∧w2.cell? ⟨q0,1,none⟩=some (.map (some c)) from ⟨HI.2.2.2.1.cell 0,HI.2.2.2.1.cell 1⟩);obtain ⟨y0,y1,y2,y3,y4⟩:=HI.2.2.2.2.1.cells5;have l0:q0<w2.heap.size:=HI.2.2.2.1.lt;have l1:q1<w2.heap.size:=HI.2.2.2.2.1.lt;refine Bj.start [4,5] (fun w'=>Bf [] w2 w') (by kernel_rfl) ?_ fun hS=>?_
 ·exact (Bf.refl [] w2).drew
 refine' Bj.mw 0 (oi:=⟨some 9,_,_,_,_,_⟩) ?_
 simp only [Act.put,sA,sZ,sS];refine' Bj.tk 2 (i:=1) (oi:=⟨some 10,_,_,_,_,_⟩) rfl (by rfl) ?b0L ?_
 case b0L=>intro w hSw;have d0:=(hSw.cell (p:=⟨q0,0,none⟩) l0 (by simp)).trans z0;go_simp<;>with_reducible rfl
 simp only [Act.put,sA,sZ,sS];refine' Bj.tk 2 (i:=2) (oi:=⟨some 11,_,_,_,_,_⟩) rfl (by rfl) ?b0M ?_
 case b0M=>intro w hSw;have d0:=(hSw.cell (p:=⟨q1,0,none⟩) l1 (by simp)).trans y0;have d1:=(hSw.cell (p:=⟨q1,1,none⟩) l1 (by simp)).trans y1;have d2:=(hSw.cell (p:=⟨q1,2,none⟩) l1 (by simp)).trans y2;have d3:=(hSw.cell (p:=⟨q1,3,none⟩) l1 (by simp)).trans y3;have d4:=(hSw.cell (p:=⟨q1,4,none⟩) l1 (by simp)).trans y4;go_simp<;>with_reducible rfl
 simp only [Act.put,sA,sZ,sS];refine Bj.one (i:=3) (o:=⟨some 12,_,_,_,_,_⟩) rfl (by kernel_rfl) fun K hK=>?_
 go_simp
 go_at_call 108
 (with_reducible refine (HS.out.1 _).mono ?_);rintro e w3 ⟨rfl,hu3⟩;have hS3:=hS.trans hu3;refine hK.out _ _ (fun _ h=>?_) ?_
 ·exact hS3
 clear hK K;try simp only [Act.put,sA,sZ,sS]
 refine Bj.one (i:=4) (o:=⟨some 13,_,_,_,_,_⟩) rfl (by kernel_rfl) fun K hK=>?_
 go_simp
 go_at_call 110
 (with_reducible refine (HS.out.2 _ (HI.out.1.Bh hS3)).mono ?_);rintro e w4 ⟨rfl,hi4,Gt⟩;refine hK.out _ _ (fun h=>(by cases h)) ?_
 clear hK K;try simp only [Act.put,sA,sZ,sS]
 refine' Bj.mw 5 (oi:=⟨some 4,_,_,_,_,_⟩) ?_
 simp only [Act.put,sA,sZ,sS];refine Bj.done (by kernel_rfl) ?_
 go_wp2_with fail
 go_ret
 obtain ⟨k1,k2,k3,k4,k5,k6,k7⟩:=HI.out;rw [k7] at hi4;exact ⟨_,rfl,⟨b,c,F1,rfl,hi4,(k2.upd hS3 (by simp)).upd Gt k6,rfl,k6⟩,(((HU.out.mono (by simp)).trans (k3.mono fun k hk=>.inl (by simp at hk;simp [hk]))).trans (hS3.mono (by simp))).trans (Gt.mono fun k hk=>.inl (by simp [hk]))⟩
