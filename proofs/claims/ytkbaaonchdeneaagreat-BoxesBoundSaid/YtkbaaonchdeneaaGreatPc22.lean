/- An interval tree and what it tells: Len, Stab, Meet, Drop; a tree or none; Build, right or not. -/
import Derived.ProofKit
import Derived.Deep.RegionHeld3
import Derived.Test.YtkbaaonchdeneaaGreatPc13
import Derived.Test.YtkbaaonchdeneaaGreatPc21
set_option maxHeartbeats 4000000
set_option maxRecDepth 100000
namespace Go.Proofs.YtkbaaonchdeneaaGreat
section
open Go.RowKit
theorem a1W {M:Nat} (hM:M<=1000000) (hso:Tv M) {w:World} {b:Nat} {F:List Nat} {S:List Sp} {N:Nat} (h:KO w b F S N) (x:Int) (hS:S.length<M) :
 Calls Tryz.prog 63 #[.pointer (some b),x] w (YA w (Ea S x) (2*BA (2*N))):=by
 obtain ⟨p,vr,R,T,Fk,h1,-,h2,h3,h4,h5⟩:=h.at_;have hr:∀s∈R,s.lo<=s.hi:=λs hs=>h.right s (h2.mem_iff.1 hs)
 have hp:=LY (x:=x) h4 hr;have hl:=h2.length_eq;have hm:=h.many;have hf:=h.few;have hpl:(T.FQ x).length<=R.length:=by rw [hp.length_eq];exact List.length_filter_le _ _
 have ht:=Oe x T;have hb:=BP (2*N) 11 (by omega)
 have e:FX (IU (T.FQ x))=Ea S x:=by
  rw [<-Z9 h2];exact LV (hp.map Sp.id)
 have el:(Ea S x).length=(T.FQ x).length:=by rw [<-e,EF,JB]
 refine (qX hM hso h1 x (TW h4 (by omega)) (by omega) (by omega)).mono ?_
 intro e' w' hw;rw [e] at hw;exact ⟨_,hw,by omega,by omega⟩
def a0W (w:World) (b:Nat) (F:List Nat) (S:List Sp) (N:Nat) (x:Sp) (e:Ending) (w':World):Prop:=
 e=.returned (.bool (decide (x∈S)))/\KO w' b F (without S x) N/\Bj F w w'
theorem a4f {w:World} {b:Nat} {F:List Nat} {S:List Sp} {N:Nat} (h:KO w b F S N) (x:Sp) :
 Calls Tryz.prog 110 #[.pointer (some b),IE x] w (a0W w b F S N x):=by
 obtain ⟨p,vr,R,T,Fk,h1,h6,h2,h3,h4,h5⟩:=h.at_;have hl:=h2.length_eq;have hm:=h.many;have hf:=h.few;by_cases hx:x∈S
 ·have hxR:=h2.mem_iff.2 hx;refine (aJ h1 x hxR (h2.nodup_iff.2 (TM h.names)) h4 (by omega)).mono ?_
  rintro e w' ⟨rfl,vn,g1,g2,g3⟩;have hu:Bj F w w':=g3.mono λy hy=>.inl (h6 y (by simpa using hy))
  refine ⟨by rw [decide_eq_true hx],⟨⟨p,vn,without R x,T.drop x,Fk,g1,λk hk=>h6 k (by rw [g2] at hk;exact hk),h2.filter _,h3.filter _,Xf (h.right x hx) h4,by rw [Og];exact h5⟩,
   λs hs=>h.right s (List.mem_filter.1 hs).1,List.Nodup.sublist (List.Sublist.map _ List.filter_sublist) h.names,Bh (List.length_filter_le _ _) hm,hf,λk hk=>Bg (h.flt k hk) hu.size⟩,hu⟩
 ·refine (kK h1 x (λhc=>hx (h2.mem_iff.1 hc)) (by omega)).mono ?_
  rintro e w' ⟨rfl,hu⟩;exact ⟨by rw [decide_eq_false hx],by rw [Jc hx];exact h.BF hu,hu.mono (by simp)⟩
end
namespace Fv
open Go.RowKit
abbrev TV:=Option Nat×Option Nat
def tp (o:Option Nat):Value:=.pointer (o.map λb=>⟨b,0,none⟩)
def tq (o:Option Nat):Value:=.map o
def KT:Kind TV:={ T:=0,sT:=108,eT:=102,sz:=2,enc:=λp=>[tp p.1,tq p.2],len:=λ_=>rfl,one:=λp u hu=>by simp [tp,tq] at hu;rcases hu with rfl | rfl<;>rfl }
theorem VP:(Tryz.prog.info? 102).map (λi=>(i.zero,i.size,i.bytes))=some (some (.agg #[.pointer none,.map none]),2,16):=by kernel_rfl
theorem Qj:(Tryz.prog.info? 28).map (λi=>(i.zero,i.size,i.bytes))=some (some (.agg #[.int .i64 0,.int .i64 0,.int .i64 0,.int .i64 0,.int .u32 0]),5,40):=by kernel_rfl
theorem aK:(Tryz.prog.info? 62).map (λi=>(i.zero,i.size,i.bytes))=some (some (.agg #[.int .i64 0,.int .i64 0,.int .u32 0]),3,24):=by kernel_rfl
theorem a1X (P:List TV) (v:TV):∀k,k<P.length->KT.all (P.set k v)=((KT.all P).set (k*2) (tp v.1)).set (k*2+1) (tq v.2):=by
 induction P with
 |nil=>intro k hk;simp at hk
 |cons a P ih=>
  intro k hk;have e:∀(b:TV) (Q:List TV),KT.all (b::Q)=tp b.1::tq b.2::KT.all Q:=λb Q=>rfl
  cases k with
  |zero=>rw [List.set_cons_zero,e,e];rfl
  |succ k=>
   rw [List.set_cons_succ,e,e,ih k (by simpa using hk),show (k+1)*2=k*2+1+1 by omega];rfl
theorem zl (x y:Bx) (h:QK x=QK y):x=y:=by
 cases x;cases y
 simp [QK] at h;simp only [Bx.mk.injEq];omega
def U6:MK Bx:={ T:=25,k:=26,e:=28,enc:=QK,zero:=⟨0,0,0,0,0⟩,hT:=Tryz.underlying25,hk:=Tryz.underlying26,hz:=λw=>(by kernel_rfl),inj:=zl }
def Ic (b:Bx):Sp:=⟨b.x1,b.x2,b.id⟩
def Ig (l:List Bx) (x:Nat):Option Bx:=l.find? λy=>y.id==x
def Jo (w:World) (p:TV) (l:Nat×List Bx) (F:List Nat):Prop:=
 ∃b c F1,p=(some b,some c)/\KO w b F1 (l.2.map Ic) l.1/\MapU U6 w c (Ig l.2) l.2.length/\F=F1++[c]/\c∉F1
theorem Jo.upd {w w':World} {p:TV} {l:Nat×List Bx} {F G:List Nat} (h:Jo w p l F) (hu:Bj G w w') (hd:∀k∈F,k∉G):Jo w' p l F:=by
 obtain ⟨b,c,F1,h1,h2,h3,rfl,h5⟩:=h;exact ⟨b,c,F1,h1,h2.upd hu (λk hk=>hd k (by simp [hk])),h3.upd hu (hd c (by simp)),rfl,h5⟩
theorem Jo.lt {w:World} {p:TV} {l:Nat×List Bx} {F:List Nat} (h:Jo w p l F):∀k∈F,k<w.heap.size:=by
 obtain ⟨b,c,F1,h1,h2,h3,rfl,h5⟩:=h;intro k hk;rcases List.mem_append.1 hk with hk | hk
 ·exact h2.flt k hk
 ·simp at hk;subst hk;exact h3.lt
theorem Jo.some {w:World} {p:TV} {l:Nat×List Bx} {F:List Nat} (h:Jo w p l F):∃b c,p=(some b,some c):=by
 obtain ⟨b,c,F1,h1,_⟩:=h;exact ⟨b,c,h1⟩
structure Good (l:List Bx):Prop where
 right:∀s∈l,s.x1<=s.x2/\s.y1<=s.y2
 names:(l.map Bx.id).Nodup
 CS:∀s∈l,s.CS/\s.id<4294967296
theorem Good.sub {l m:List Bx} (h:Good m) (hs:l.Sublist m):Good l:=
 ⟨λs hl=>h.right s (hs.subset hl),h.names.sublist (hs.map _),λs hl=>h.CS s (hs.subset hl)⟩
theorem O6 {S:List Bx} (h:(S.map Bx.id).Nodup):S.Nodup:=by
 induction S with
 |nil=>exact List.nodup_nil
 |cons a S ih=>
  rw [List.map_cons,List.nodup_cons] at h;rw [List.nodup_cons];exact ⟨λhc=>h.1 (List.mem_map.2 ⟨a,hc,rfl⟩),ih h.2⟩
theorem Xl (l:List Bx):(l.map Ic).map Sp.id=l.map Bx.id:=by rw [List.map_map];rfl
theorem Good.rights {l:List Bx} (h:Good l):Oc (l.map Ic)=true:=by
 rw [J4,Xl];refine ⟨λs hs=>?_,h.names⟩
 obtain ⟨b,hb,rfl⟩:=List.mem_map.1 hs;exact (h.right b hb).1
theorem qZ {l:List Bx} (hn:(l.map Bx.id).Nodup) {k:Nat} {s:Bx} (hs:l[k]? = some s):Ig (l.take k) s.id=none/\(λy=>if y=s.id then some s else Ig (l.take k) y)=Ig (l.take (k+1)):=by
 obtain ⟨g1,g2⟩:=AZ hs;have e:l.take (k+1)=l.take k++[s]:=by rw [Bd g1,g2]
 have h1:((l.take (k+1)).map Bx.id).Nodup:=hn.sublist ((List.take_sublist _ _).map _);rw [e,List.map_append,List.nodup_append] at h1
 have h2:Ig (l.take k) s.id=none:=by
  unfold Ig;rw [List.find?_eq_none];intro y hy;have:=h1.2.2 y.id (List.mem_map.2 ⟨y,hy,rfl⟩) s.id (by simp);simpa using this
 refine ⟨h2,?_⟩
 funext y
 rw [e];unfold Ig at h2 |-;rw [List.find?_append];by_cases hy:y=s.id
 ·subst hy;rw [if_pos rfl,h2];simp
 ·rw [if_neg hy];have:(s.id==y)=false:=by simpa using Ne.symm hy
  simp [this]
theorem kM {l:List Bx} (hn:(l.map Bx.id).Nodup) {x:Bx} (hx:x∈l):(Ig l x.id).isSome=true/\(λy=>if y=x.id then none else Ig l y)=Ig (l.erase x):=by
 constructor
 ·unfold Ig;rw [List.find?_isSome];exact ⟨x,hx,by simp⟩
 ·funext y
  unfold Ig;rw [(O6 hn).erase_eq_filter,List.find?_filter];by_cases hy:y=x.id
  ·rw [if_pos hy];symm
   rw [List.find?_eq_none];intro z hz hc;simp at hc
   exact hc.1 (by
    obtain ⟨h1,h2⟩:=hc;have:z.id=x.id:=by rw [h2,hy]
    clear h1;induction l with
    |nil=>cases hz
    |cons a l ih=>
     rw [List.map_cons,List.nodup_cons] at hn;rcases List.mem_cons.1 hz with rfl | hz2
     ·rcases List.mem_cons.1 hx with rfl | hx2
      ·rfl
      ·exact (hn.1 (List.mem_map.2 ⟨x,hx2,this.symm⟩)).elim
     ·rcases List.mem_cons.1 hx with rfl | hx2
      ·exact (hn.1 (List.mem_map.2 ⟨z,hz2,this⟩)).elim
      ·exact ih hn.2 hx2 hz2)
  ·rw [if_neg hy];congr 1
   funext z
   by_cases hz:z.id=y
   ·have:z≠x:=λe=>hy (by rw [<-hz,e])
    simp [hz,this]
   ·simp [hz]
theorem YC {l:List Bx} (hn:(l.map Bx.id).Nodup) {x:Bx} (hx:x∈l):without (l.map Ic) (Ic x)=(l.erase x).map Ic:=by
 rw [(O6 hn).erase_eq_filter];unfold without;rw [List.filter_map];congr 1
 refine List.filter_congr λz hz=>?_
 by_cases e:z=x
 ·simp [e]
 ·have:Ic z≠Ic x:=by
   intro h;have hi:z.id=x.id:=by injection h
   refine e ?_
   clear e h;induction l with
   |nil=>cases hz
   |cons a l ih=>
    rw [List.map_cons,List.nodup_cons] at hn;rcases List.mem_cons.1 hz with rfl | hz2
    ·rcases List.mem_cons.1 hx with rfl | hx2
     ·rfl
     ·exact (hn.1 (List.mem_map.2 ⟨x,hx2,hi.symm⟩)).elim
    ·rcases List.mem_cons.1 hx with rfl | hx2
     ·exact (hn.1 (List.mem_map.2 ⟨z,hz2,hi⟩)).elim
     ·exact ih hn.2 hx2 hz2
  simp [e,this]
theorem ru (b:Bx) (w:World):Calls Tryz.prog 108 #[QK b] w λe w'=>e=.returned (IE (Ic b))/\Bj [] w w':=by
 obtain ⟨W,hW,hu,h0,h1⟩:=SS w #[b.x1,b.x2,b.y1,b.y2,.int .u32 (b.id:Int)] #[.int .i64 0,.int .i64 0,.int .u32 0] 28 62;have HW:=AX hW;have HU:=AX hu;obtain ⟨q1,hq1⟩:∃q,w.heap.size+1=q:=⟨_,rfl⟩;obtain ⟨q0,hq0⟩:∃q,w.heap.size=q:=⟨_,rfl⟩;rw [hq1] at h1;rw [hq0] at h0;have HQ:=Ap hq0 hq1;have h5:JX (((W.setCell q1 (.int .i64 b.x1)).setCell ⟨q1,1,none⟩ (.int .i64 b.x2)).setCell ⟨q1,2,none⟩ (.int .u32 (b.id:Int))) q1 #[b.x1,b.x2,.int .u32 (b.id:Int)] 62:=((h1.set 0 (.int .i64 b.x1)).set 1 (.int .i64 b.x2)).set 2 (.int .u32 (b.id:Int));have EZ:Bj [q1] W (((W.setCell q1 (.int .i64 b.x1)).setCell ⟨q1,1,none⟩ (.int .i64 b.x2)).setCell ⟨q1,2,none⟩ (.int .u32 (b.id:Int))):=(((Bj.refl _ _).setCell (p:=⟨q1,0,none⟩) (.inl (by simp)) _).setCell (p:=⟨q1,1,none⟩) (.inl (by simp)) _).setCell (p:=⟨q1,2,none⟩) (.inl (by simp)) _;have HF5:=Ap h5 EZ;obtain ⟨y0,y1,y2,y3,y4⟩:=h0.cells5;obtain ⟨z0,z1,z2⟩:=h1.cells3;have f0:=h1.frozen 0;have f1:=h1.frozen 1;have f2:=h1.frozen 2;unfold QK IE Ic;clear hW hu h0 h1 h5 EZ hq0 hq1;go_enter Tryz.func108,Tryz.ntmps108
 go_upto_region 1 with fail
 rw [<-HW.out,HQ.2,HQ.1];clear HW;go_wp2_with fail
 clear z0 z1 z2 y0 y1 y2 y3 y4;obtain ⟨z0,z1,z2⟩:=HF5.1.cells3;exact bodyPost_ret (v:=.agg #[b.x1,b.x2,.int .u32 (b.id:Int)]) (by simp [results,Tryz.results108,go_sem,z0,z1,z2]) rfl ⟨rfl,HU.out.trans' HF5.2 (λk hk=>.inr (by have:=HQ.out;simp at hk;omega))⟩
theorem a1Y (v:Value) (l:List Bx) (w:World) (h:See LP w v l) (hg:Good l) (hl:l.length<=1000) :
 Calls Tryz.prog 56 #[v] w λe w'=>∃b c F,e=.returned (.agg #[.pointer (some ⟨b,0,none⟩),.map (some c)])/\Jo w' (some b,some c) (l.length,l) F/\(∀k∈F,w.heap.size<=k)/\Bj [] w w':=by
 obtain ⟨A,C,rfl⟩:=h.form;obtain ⟨i1,hi1,hw0,hw1,hw2⟩:=info_parts aK;obtain ⟨n,hn⟩:=AU l.length;rw [hn] at h hl |-;have n0:(0:Int)<=(n:Int):=AY _;obtain ⟨qm,hqm⟩:∃q,w.heap.size+1=q:=⟨_,rfl⟩;obtain ⟨q0,hq0⟩:∃q,w.heap.size=q:=⟨_,rfl⟩;obtain ⟨q1,hq1⟩:∃q,w.heap.size+1+1=q:=⟨_,rfl⟩;obtain ⟨W1,hW1,u1,c1⟩:=CQ w #[.pointer none,.map none] 102;have e1:W1.heap.size=w.heap.size+1:=by rw [hW1];simp
 have mm:=MapU.made U6 W1;have u2:Bj [] W1 (W1.alloc (.map #[] 0)):=(Bj.refl _ _).alloc _;obtain ⟨W2,hW2⟩:∃W2,W2=W1.alloc (.map #[] 0):=⟨_,rfl⟩;have e2:W2.heap.size=w.heap.size+1+1:=by rw [hW2];simp [e1]
 rw [<-hW2,e1,hqm] at mm;rw [<-hW2] at u2;obtain ⟨W3,hW3,u3,c3⟩:=CQ W2 #[.pointer none,.map (some qm)] 102;rw [e2,hq1] at c3;rw [hq0] at c1;have e3:W3.heap.size=w.heap.size+3:=by rw [hW3];simp [e2]
 have HM:=AX (mm.upd u3 (by simp));have H0:=AX ((c1.BF u2).BF u3);have H1:=AX c3;have HU:=AX ((u1.trans u2).trans u3);have HS:=AX h;have HQ:=Au hq0 hqm hq1 e3;have HG:=AX hg;have HN:=AX hn;have HW:=Aq hW1 hW2 hW3;have hmm:=@run_makeMap Tryz.prog;clear h hg hn mm u1 u2 u3 c1 c3 e1 e2 e3 hqm hq0 hq1 hW1 hW2 hW3;go_enter Tryz.func56,Tryz.ntmps56
 go_upto_region 2 with fail
 rw [<-HW.1,<-HW.2.1,HQ.2.2.1,HQ.2.1,HQ.1,<-HW.2.2];clear HW hmm;go_wp2_with fail
 go_loopg [4,11] n (λm s4 s11 wr=>∃(k:Nat) (vo:Value),vo=s4/\m+k=n/\s11=.int .i64 (k:Int)/\MapU U6 wr qm (Ig (l.take k)) k/\CY.row wr W3.heap.size vo ((l.take k).map Ic)/\Bj [qm] W3 wr)
 case atStart=>exact ⟨0,_,rfl,rfl,rfl,HM.out,World.ownsRow_nil _ _ _ _,Bj.refl _ _⟩
 case round=>
  obtain ⟨k,vo,hvo,hk,rfl,hm,hrow,hup⟩:=hrel;subst hvo;have k0:(0:Int)<=(k:Int):=AY _;have hkn:k<=n:=by omega
  have hsz:=hup.size;by_cases hlt:k<n
  ·obtain ⟨s,hs⟩:∃s,l[k]? = some s:=⟨_,Ba (by rw [HN.out];exact hlt)⟩;have hse:See LP wr (.slice A n C) l:=HS.out.upd ((HU.out.mono (by simp)).trans hup) (λ_ y _ hlt2 hc=>by have:=HQ.out;simp at hc;omega);obtain ⟨g,o,hA,-,-,y0,y1,y2,y3,y4⟩:=LP.at hse hs
   cases hA
   have b1:(k:Int)<(n:Int):=by omega
   have hid:=(HG.out.CS s (List.mem_of_getElem? hs)).2;obtain ⟨hnn,hst⟩:=qZ HG.out.names hs;have hlen:((l.take k).map Ic).length=k:=by rw [List.length_map,Bf,HN.out];omega
   have hnx:(l.take (k+1)).map Ic=(l.take k).map Ic++[Ic s]:=by
    obtain ⟨g1,g2⟩:=AZ hs;rw [Bd g1,g2,List.map_append];rfl
   have hk1:=(H1.out.upd hup (by have:=HQ.out;simp;omega));go_upto_region 6 with fail
   obtain ⟨Wx,hWx,RS,JQ⟩:=CQ wr #[s.x1,s.x2,s.y1,s.y2,.int .u32 (s.id:Int)] 28;rw [<-hWx];obtain ⟨qb,PO⟩:∃q,wr.heap.size=q:=⟨_,rfl⟩;rw [PO] at JQ |-;have a6S:qb≠qm:=Ac HQ;obtain ⟨w5,hput,nV,EZ,hz5⟩:=(hm.upd RS (by simp)).put hid s (by unfold maxLen;omega);rw [hnn,hst] at nV;have Yp:(Instr.mapUpdate 25 (.map (some qm)) (.int .u32 (s.id:Int)) (.agg #[s.x1,s.x2,s.y1,s.y2,.int .u32 (s.id:Int)])).run Tryz.prog Wx=.ok () w5:=hput;obtain ⟨x0,x1,x2,x3,x4⟩:=JQ.cells5;obtain ⟨t0,t1⟩:=(hk1.BF RS).cells2;have JC:Bj [qm] W3 w5:=(hup.trans (RS.mono (by simp))).trans EZ;have GK:CY.row w5 W3.heap.size vo ((l.take k).map Ic):=Bl (Bl hrow RS (by simp)) EZ (λy hy hc=>by have:=BH hrow y hy;have:=HQ.out;simp at hc;omega);have hq5:=JQ.upd EZ (by simp;exact a6S);generalize (l.take k).map Ic=L at GK hlen hnx;have Ij:=GK;unfold Kind.row at Ij;rw [hlen] at Ij;have hsp:=ru s w5;unfold QK IE Ic at hsp;have HSP:=AX hsp;have HI:=AL hk nV JC hnx hlen Ij hq5 JC.size;have HR:=AX Yp;clear hk hm hrow hup hse hs y0 y1 y2 y3 y4 hnn hst hnx hlen hk1 hWx hput nV EZ hz5 JC GK Ij hq5 hsp RS JQ Yp PO;have Yp:=HR.out;go_upto_region 7 with fail
   clear Yp x0 x1 x2 x3 x4 t0 t1;obtain ⟨x0,x1,x2,x3,x4⟩:=HI.2.2.2.2.2.2.1.cells5;go_wp2_with fail
   go_fit HSP.out
   rintro e w6 ⟨rfl,u6⟩;have Ik:=AX u6;have hz6:W3.heap.size<=w6.heap.size:=Bh HI.2.2.2.2.2.2.2 u6.size;clear u6 x0 x1 x2 x3 x4;go_wp2_with (at_builtin;refine BM _ rfl _ _ 56 rfl W3.heap.size 62 i1 (.agg #[.int .i64 0,.int .i64 0,.int .u32 0]) 3 24 Tryz.underlying56 hi1 hw0 hw1 hw2 rfl (by decide) _ k (CY.all L) rfl (Bl HI.2.2.2.2.2.1 (Ik.out.alloc _) (by simp)) _ 1 (CY.enc (Ic s)) rfl (BK w6 #[s.x1,s.x2,.int .u32 (s.id:Int)] 62 3 1 rfl (by decide)) (CY.one (Ic s)) (by unfold maxLen;omega) (by omega) (by simp;omega) ?_)
   intro A3 C3 w7 HP3;have kE:=AX HP3;clear HP3;go_wp2_with fail
   go_roundg (n - (k+1))
   case measure=>have:=HI.1;omega
   case rel=>
    have hge:=λy (hy:y∈blk vo)=>BH HI.2.2.2.2.2.1 y hy
    have QN:=kE.out.upd;refine ⟨k+1,.slice A3 (k+1) C3,rfl,Ac HI.1,by go_num,?_,?_,((HI.2.2.1.trans (Ik.out.mono (by simp))).alloc _).trans' QN (λy hy=>.inr (hge y hy))⟩
    ·exact ((HI.2.1.upd Ik.out (by simp)).upd ((Bj.refl [] _).alloc _) (by simp)).upd QN (λhc=>by have:=hge _ hc;have:=HQ.out;omega)
    ·rw [HI.2.2.2.1];unfold Kind.row;rw [Bc,HI.2.2.2.2.1,CY.BZ];exact kE.out.own
  ·have hkn2:k=n:=by omega
   have hall:l.take k=l:=by rw [List.take_of_length_le];rw [HN.out];omega
   rw [hall] at hm hrow
   have hbu:=aC vo (l.map Ic) wr (See.BU hrow) (by
    intro s hs;obtain ⟨b,hb,rfl⟩:=List.mem_map.1 hs;exact (HG.out.CS b hb).2) (by rw [List.length_map,HN.out];exact hl) HG.out.rights
   rw [List.length_map,HN.out] at hbu;obtain ⟨Ab,Cb,rfl⟩:=BD hrow;rw [List.length_map,HN.out] at hbu |-;have HB:=AX hbu;have HR:=Aq hm hup hkn2;clear hbu hm hup hrow hall hk hkn2;go_wp2_with fail
   go_fit HB.out
   rintro e w1 ⟨hu1,b,F1,rfl,hi,hF1⟩;have hk1:=(H1.out.upd HR.2.1 (by have:=HQ.out;simp;omega)).BF hu1;have hf:=hk1.frozen 0;obtain ⟨z0,z1⟩:=hk1.cells2;have hs:=hk1.set 0 (.pointer (some b));have hup:Bj [q1] w1 (w1.setCell q1 (.pointer (some b))):=(Bj.refl _ _).setCell (p:=⟨q1,0,none⟩) (.inl (by simp)) _;have hsz3:=HR.2.1.size;have a6T:q1<wr.heap.size:=Ac HQ;have hi2:=hi.upd hup (λk hk hc=>by have:=hF1 k hk;simp at hc;omega)
   have hmp:MapU U6 (w1.setCell q1 (.pointer (some b))) qm (Ig l) n:=by
    have h9:=HR.1;rw [HR.2.2] at h9;exact (h9.upd hu1 (by simp)).upd hup (by have:=HQ.out;simp;omega)
   have hu2:Bj [qm] W3 w1:=HR.2.1.trans (hu1.mono (by simp));have h02:=((H0.out.upd hu2 (by have:=HQ.out;simp;omega)).upd hup (by have:=HQ.out;simp;omega));have hu3:Bj [] w (w1.setCell q1 (.pointer (some b))):=(HU.out.trans' hu2 (λk hk=>.inr (by have:=HQ.out;simp at hk;omega))).trans' hup (λk hk=>.inr (by have:=HQ.out;simp at hk;omega));have HT:=AX (show Jo (w1.setCell q1 (.pointer (some b))) (some b,some qm) (n,l) (F1++[qm]) from ⟨b,qm,F1,rfl,hi2,by rw [HN.out];exact hmp,rfl,λhc=>by have:=hF1 _ hc;have:=HQ.out;omega⟩)
   have hge:∀k∈F1++[qm],w.heap.size<=k/\k≠q0:=λk hk=>by
    have h1:=HU.out.size;have h2:=HQ.out;rcases List.mem_append.1 hk with hk | hk
    ·have:=hF1 k hk;omega
    ·simp at hk;omega
   have HGE:=AX hge;have U4:=AX hu3;have H04:=AX h02;have X4:=AX hs;clear hu1 hi hF1 hk1 hs hup hi2 hmp hu2 h02 hu3 hge hsz3 a6T;go_upto_region 10 with fail
   generalize (w1.setCell q1 (.pointer (some b)))=w4 at HT U4 H04 X4 |-;clear z0 z1 hf;obtain ⟨z0,z1⟩:=(show w4.cell? q1=some (.pointer (some b))/\w4.cell? ⟨q1,1,none⟩=some (.map (some qm)) from ⟨X4.out.cell 0,X4.out.cell 1⟩);obtain ⟨y0,y1⟩:=H04.out.cells2;have f0:=H04.out.frozen 0;have f1:=H04.out.frozen 1;have h5:JX ((w4.setCell q0 (.pointer (some b))).setCell ⟨q0,1,none⟩ (.map (some qm))) q0 #[.pointer (some b),.map (some qm)] 102:=(H04.out.set 0 (.pointer (some b))).set 1 (.map (some qm));have EZ:Bj [q0] w4 ((w4.setCell q0 (.pointer (some b))).setCell ⟨q0,1,none⟩ (.map (some qm))):=((Bj.refl _ _).setCell (p:=⟨q0,0,none⟩) (.inl (by simp)) _).setCell (p:=⟨q0,1,none⟩) (.inl (by simp)) _;have HF5:=Ap h5 EZ;clear h5 EZ;go_wp2_with fail
   clear z0 z1 y0 y1;obtain ⟨z0,z1⟩:=HF5.1.cells2;exact bodyPost_ret (v:=.agg #[.pointer (some b),.map (some qm)]) (by simp [results,Tryz.results56,go_sem,z0,z1]) rfl ⟨b,qm,F1++[qm],rfl,HT.out.upd HF5.2 (λk hk hc=>by simp at hc;exact (HGE.out k hk).2 hc),λk hk=>(HGE.out k hk).1,U4.out.trans' HF5.2 (λk hk=>.inr (by have:=HQ.out;simp at hk;omega))⟩
def a4g (w:World) (b c:Nat) (l:Nat×List Bx) (F:List Nat) (x:Bx) (e:Ending) (w':World):Prop:=∃r,e=.returned (.bool r)/\Jo w' (some b,some c) (l.1,l.2.erase x) F/\Bj F w w'
theorem a4h (w:World) (b c:Nat) (l:Nat×List Bx) (F:List Nat) (x:Bx) (hx:x∈l.2) (a6U:x.id<4294967296) (h:Jo w (some b,some c) l F) :
 Calls Tryz.prog 57 #[.agg #[.pointer (some b),.map (some c)],QK x] w (a4g w b c l F x):=by
 obtain ⟨b',c',F1,e0,hi,hm,rfl,hap⟩:=h
 cases e0
 have hnm:(l.2.map Bx.id).Nodup:=by rw [<-Xl];exact hi.names
 have hwm:=YC hnm hx;obtain ⟨hk1,hk2⟩:=kM hnm hx;have hel:(l.2.erase x).length=l.2.length - 1:=List.length_erase_of_mem hx;obtain ⟨W,hW,hu,h0,h1⟩:=SS w #[.pointer (some b),.map (some c)] #[x.x1,x.x2,x.y1,x.y2,.int .u32 (x.id:Int)] 102 28;obtain ⟨q1,hq1⟩:∃q,w.heap.size+1=q:=⟨_,rfl⟩;obtain ⟨q0,hq0⟩:∃q,w.heap.size=q:=⟨_,rfl⟩;rw [hq1] at h1;rw [hq0] at h0;obtain ⟨w2,hdel,hm2,hu2,-⟩:=(hm.upd hu (by simp)).drop a6U 0;rw [hk1,hk2,if_pos rfl,<-hel] at hm2;obtain ⟨z0,z1⟩:=(show W.cell? q0=some (.pointer (some b))/\W.cell? ⟨q0,1,none⟩=some (.map (some c)) from ⟨h0.cell 0,h0.cell 1⟩);obtain ⟨y0,y1,y2,y3,y4⟩:=h1.cells5;have hcW:c<W.heap.size:=by have:=hm.lt;have:=hu.size;omega
 have a4i:q0≠c:=by have:=hm.lt;omega
 have a4j:q1≠c:=by have:=hm.lt;omega
 have h02:=h0.upd hu2 (by simp;exact a4i);have h12:=h1.upd hu2 (by simp;exact a4j);have hi2:=(hi.BF hu).upd hu2 (λk hk hc=>by simp at hc;subst hc;exact hap hk);have a4k:q0∉F1:=λhc=>by have:=hi.flt _ hc;omega
 have a4l:q1∉F1:=λhc=>by have:=hi.flt _ hc;omega
 have hsp:=λw9=>ru x w9
 have hdr:=λ(w9:World) (g:KO w9 b F1 (l.2.map Ic) l.1)=>a4f g (Ic x)
 unfold QK IE at hsp;unfold IE a0W at hdr;unfold QK;have HI:=AB hi2 hm2 hu2 h02 h12 hap hwm;have HS:=Ap hsp hdr;have HU:=AX hu;have HF:=Ap a4k a4l;have HD:=AX hdel;have HW:=AX hW;have HQ:=Ap hq0 hq1;clear hq0 hq1 hW hu h0 h1 hi hm hap hnm hwm hk1 hk2 hel hm2 hu2 h02 h12 hi2 hsp hdr a4k a4l hcW a4i a4j hdel;have a0X:(Builtin.delete_ #[25,26] 0 #[.map (some c),.int .u32 (x.id:Int)]).run Tryz.prog W=.ok (.tuple #[]) w2:=HD.out;go_enter Tryz.func57,Tryz.ntmps57
 go_upto_region 1 with fail
 rw [<-HW.out,HQ.2,HQ.1];clear HW;go_upto_region 2 with fail
 clear z0 z1 y0 y1 y2 y3 y4 a0X;obtain ⟨z0,z1⟩:=(show w2.cell? q0=some (.pointer (some b))/\w2.cell? ⟨q0,1,none⟩=some (.map (some c)) from ⟨HI.2.2.2.1.cell 0,HI.2.2.2.1.cell 1⟩);obtain ⟨y0,y1,y2,y3,y4⟩:=HI.2.2.2.2.1.cells5;have l0:q0<w2.heap.size:=HI.2.2.2.1.lt;have l1:q1<w2.heap.size:=HI.2.2.2.2.1.lt;refine Bo.start [4,5] (λw'=>Bj [] w2 w') (by kernel_rfl) ?_ λhS=>?_
 ·exact (Bj.refl [] w2).drew
 refine' Bo.mx 0 9 ?_
 refine' Bo.tk 2 (i:=1) (oi:=⟨some 10,_,_,_,_,_⟩) rfl (by rfl) ?a6V ?_
 case a6V=>intro w hSw;have d0:=(hSw.cell (p:=⟨q0,0,none⟩) l0 (by simp)).trans z0;go_simp<;>with_reducible rfl
 simp only [Act.put,sA,sZ,sS];refine' Bo.tk 2 (i:=2) (oi:=⟨some 11,_,_,_,_,_⟩) rfl (by rfl) ?a6W ?_
 case a6W=>intro w hSw;have d0:=(hSw.cell (p:=⟨q1,0,none⟩) l1 (by simp)).trans y0;have d1:=(hSw.cell (p:=⟨q1,1,none⟩) l1 (by simp)).trans y1;have d2:=(hSw.cell (p:=⟨q1,2,none⟩) l1 (by simp)).trans y2;have d3:=(hSw.cell (p:=⟨q1,3,none⟩) l1 (by simp)).trans y3;have d4:=(hSw.cell (p:=⟨q1,4,none⟩) l1 (by simp)).trans y4;go_simp<;>with_reducible rfl
 simp only [Act.put,sA,sZ,sS];refine Bo.one (i:=3) (o:=⟨some 12,_,_,_,_,_⟩) rfl (by kernel_rfl) λK hK=>?_
 go_simp
 go_at_call 108
 go_fit (HS.1 _)
 rintro e w3 ⟨rfl,hu3⟩;have hS3:=hS.trans hu3;refine hK.out _ _ (λ_ h=>?_) ?_
 ·exact hS3
 clear hK K;try simp only [Act.put,sA,sZ,sS]
 refine Bo.one (i:=4) (o:=⟨some 13,_,_,_,_,_⟩) rfl (by kernel_rfl) λK hK=>?_
 go_simp
 go_at_call 110
 go_fit (HS.2 _ (HI.1.BF hS3))
 rintro e w4 ⟨rfl,hi4,EI⟩;refine hK.out _ _ (λh=>(by cases h)) ?_
 clear hK K;try simp only [Act.put,sA,sZ,sS]
 refine' Bo.mx 5 4 ?_
 refine Bo.done (by kernel_rfl) ?_
 go_wp2_with fail
 go_ret
 obtain ⟨k1,k2,k3,k4,k5,k6,k7⟩:=HI.out;rw [k7] at hi4;exact ⟨_,rfl,⟨b,c,F1,rfl,hi4,(k2.upd hS3 (by simp)).upd EI k6,rfl,k6⟩,(((HU.out.mono (by simp)).trans (k3.mono λk hk=>.inl (by simp at hk;simp [hk]))).trans (hS3.mono (by simp))).trans (EI.mono λk hk=>.inl (by simp [hk]))⟩
