/- slices.DeleteFunc at spans, of one span; ivl.Drop's closure. -/
import Derived.Deep.MidRow
import Derived.Test.YtkbaaonchdeneaaGreatPc16
set_option maxHeartbeats 8000000
set_option maxRecDepth 100000
namespace Go.Proofs.YtkbaaonchdeneaaGreat
open Go.RowKit
structure Oh (w:World) (q:Nat) (x:Sp):Prop where
 a:w.cell? q=some (.int .i64 x.lo)
 b:w.cell? ⟨q,1,none⟩=some (.int .i64 x.hi)
 c:w.cell? ⟨q,2,none⟩=some (.int .u32 (x.id:Int))
theorem Oh.lt {w:World} {q:Nat} {x:Sp} (h:Oh w q x):q<w.heap.size:=World.block_lt_of_cell? w _ h.a
theorem Oh.upd {w w':World} {q:Nat} {x:Sp} (h:Oh w q x) {F:List Nat} (hu:Bj F w w') (hq:q∉F):Oh w' q x:=
 ⟨(hu.cell (p:=⟨q,0,none⟩) h.lt hq).trans h.a,(hu.cell (p:=⟨q,1,none⟩) h.lt hq).trans h.b,(hu.cell (p:=⟨q,2,none⟩) h.lt hq).trans h.c⟩
theorem Oh.new (w:World) (x:Sp):Oh (w.alloc (.cells #[x.lo,x.hi,.int .u32 (x.id:Int)] 62)) w.heap.size x:=
 ⟨by rw [World.cell?_alloc_at _ _ _ _ rfl];rfl,by rw [World.cell?_alloc_at _ _ _ _ rfl];rfl,by rw [World.cell?_alloc_at _ _ _ _ rfl];rfl⟩
theorem a0U (s x:Sp) (q:Nat) (w:World) (h:Oh w q x) :
 Calls Tryz.prog 176 #[IE s,.pointer (some q)] w λe w'=>e=.returned (.bool (decide (s=x)))/\Bj [] w w':=by
 have hb:=Oh.new w s;have hx:=h.upd ((Bj.refl [] w).alloc (.cells #[s.lo,s.hi,.int .u32 (s.id:Int)] 62)) (by simp);have hu:Bj [] w (w.alloc (.cells #[s.lo,s.hi,.int .u32 (s.id:Int)] 62)):=(Bj.refl _ _).alloc _;have heq:=λw=>a3O s x w
 obtain ⟨r,hr⟩:∃r,decide (s=x)=r:=⟨_,rfl⟩;rw [hr] at heq |-;unfold IE at heq |-;go_enter Tryz.func176,Tryz.ntmps176
 go_upto_region 1 with fail
 generalize (w.alloc (.cells #[s.lo,s.hi,.int .u32 (s.id:Int)] 62))=W at hb hx hu |-;obtain ⟨a0,a1,a2⟩:=hb;obtain ⟨b0,b1,b2⟩:=hx;clear h hr;go_wp2_with fail
 go_ret
 exact ⟨rfl,hu⟩
def aF (w:World) (l:List Sp) (x:Sp) (e:Ending) (w':World):Prop:=
 Bj [] w w'/\((x∉l/\e=.returned (.int .i64 (-1)))\/∃k:Nat,l[k]? = some x/\e=.returned (k:Int))
theorem y9 (v:Value) (l:List Sp) (x:Sp) (q:Nat) (w:World) (hs:See CY w v l) (hb:l.length<1000000) (hq:Oh w q x) :
 Calls Tryz.prog 239 #[v,.func (.func 176) #[] #[.pointer (some q)]] w (aF w l x):=by
 obtain ⟨A,C,rfl⟩:=hs.form;obtain ⟨N,hN⟩:=AU l.length;rw [hN] at hs hb |-;have H:=AX hs;have HN:=AX hN;have HQ:=AX hq;clear hs hN hq;go_enter Tryz.func239,Tryz.ntmps239
 go_wp2_with fail
 go_loopg [8] N (λm s8 wr=>∃k:Nat,m+k=N/\s8=.int .i64 (k:Int)/\x∉l.take k/\Bj [] w wr)
 case atStart=>exact ⟨0,rfl,rfl,by simp,Bj.refl _ _⟩
 case round=>
  obtain ⟨k,hk,rfl,hno,hup⟩:=hrel;have k0:(0:Int)<=(k:Int):=AY _;have hkN:k<=N:=by omega
  have HK:=Aq hk hno hup;by_cases hlt:k<N
  ·obtain ⟨s,hs⟩:∃s,l[k]? = some s:=⟨_,Ba (by rw [HN.out];exact hlt)⟩;obtain ⟨g,o,hA,-,-,ey⟩:=(H.out.BF hup).at hs;subst hA;have y0:wr.cell? ⟨g,o+k*3,none⟩=some (.int .i64 s.lo):=ey 0 _ rfl;have y1:wr.cell? ⟨g,o+k*3+1,none⟩=some (.int .i64 s.hi):=ey 1 _ rfl;have y2:wr.cell? ⟨g,o+k*3+2,none⟩=some (.int .u32 (s.id:Int)):=ey 2 _ rfl;have b1:(k:Int)<(N:Int):=by omega
   have hc:=a0U s x q wr (HQ.out.upd hup (by simp));unfold IE at hc;have HS:=AX hs;clear hs ey hk hno hup;by_cases hxy:s=x
   ·rw [decide_eq_true hxy] at hc;have HC:=Ap hc hxy;clear hc hxy;go_wp2_with fail
    go_fit HC.1
    rintro e w2 ⟨rfl,u2⟩;have HU:=AX u2;clear u2;go_wp2_with fail
    go_ret
    exact ⟨HK.2.2.trans HU.out,.inr ⟨k,by rw [HS.out,HC.2],rfl⟩⟩
   ·rw [decide_eq_false hxy] at hc;have HC:=Ap hc hxy;clear hc hxy;go_wp2_with fail
    go_fit HC.1
    rintro e w2 ⟨rfl,u2⟩;have HU:=AX u2;clear u2 y0 y1 y2;go_wp2_with fail
    go_roundg (N - (k+1))
    case measure=>have:=HK.1;omega
    case rel=>
     refine ⟨k+1,Ac HK.1,by go_num,?_,HK.2.2.trans HU.out⟩
     obtain ⟨h1,h2⟩:=AZ HS.out;rw [Bd h1,h2,List.mem_append];rintro (hc | hc)
     ·exact HK.2.1 hc
     ·exact HC.2 (List.mem_singleton.1 hc).symm
  ·have hkn:k=N:=by omega
   rw [hkn,<-HN.out,List.take_length] at hno;have nX:=AX hno;clear hno hkn hk hup;go_wp2_with fail
   go_ret
   exact ⟨HK.2.2,.inl ⟨nX.out,rfl⟩⟩
theorem VO:∀(l:List Sp) (k:Nat) (x:Sp),k<l.length->(((CY.all l).set (k*3) (.int .i64 x.lo)).set (k*3+1) (.int .i64 x.hi)).set (k*3+1+1) (.int .u32 (x.id:Int))=CY.all (l.set k x)
 | [],k,x,h=>by simp at h
 |y::r,0,x,_=>by simp [Kind.all,CY]
 |y::r,k+1,x,h=>by
  have e:=VO r k x (by simpa using h);rw [List.set_cons_succ];unfold Kind.all at e |-;rw [List.flatMap_cons,List.flatMap_cons,<-e];have e1:(k+1)*3=(CY.enc y).length+k*3:=by rw [Nat.add_mul,show (CY.enc y).length=3 from rfl];omega
  rw [e1]
  have hs:∀(A:List Value) (j:Nat) (u:Value),(CY.enc y++A).set ((CY.enc y).length+j) u=CY.enc y++A.set j u:=λA j u=>by
   rw [List.set_append_right _ _ (by omega),Nat.add_sub_cancel_left]
  rw [hs,Nat.add_assoc,hs,Nat.add_assoc,Nat.add_assoc,hs]
theorem qO {w:World} {base g n C:Nat} {l:List Sp} (h:CY.row w base (.slice (some ⟨g,0,none⟩) n C) l) (hn:l.length=n) {k:Nat} (hk:k<n):w.there g (k*3) 3:=by
 have h':w.ownsRow base 62 3 (.slice (some ⟨g,0,none⟩) n C) n (CY.all l):=by
  have:=h;unfold Kind.row at this;rwa [hn] at this
 have hc:=MS h';intro j hj;exact Gx h' _ (by omega)
theorem a1O {w:World} {base g n C:Nat} {l:List Sp} (h:CY.row w base (.slice (some ⟨g,0,none⟩) n C) l) (hn:l.length=n) {k:Nat} (hk:k<n) (x:Sp) :
 CY.row (w.setCells g (k*3) [x.lo,x.hi,.int .u32 (x.id:Int)]) base (.slice (some ⟨g,0,none⟩) n C) (l.set k x):=by
 have h':w.ownsRow base 62 3 (.slice (some ⟨g,0,none⟩) n C) n (CY.all l):=by
  have:=h;unfold Kind.row at this;rwa [hn] at this
 have h1:=(((h'.stored (k*3) (.int .i64 x.lo)).1.stored (k*3+1) (.int .i64 x.hi)).1.stored (k*3+1+1) (.int .u32 (x.id:Int))).1;rw [VO l k x (by omega)] at h1;unfold Kind.row;rw [List.length_set,hn];exact h1
theorem Yw {P:Program} {t e:TypeId} {i:TypeInfo} {size:Nat} (ht:P.underlying t=some (.slice e)) (hi:P.info? e=some i) (hsize:i.size=size) (g n C k:Nat) (hk:k<n) (hn:n<=C) (w:World) :
 (Instr.slice t (.slice (some ⟨g,0,none⟩) n C) (some (.int .i64 (k:Int))) none none).run P w=.ok (.slice (some ⟨g,k*size,none⟩) (n - k) (C - k)) w:=by
 subst hsize;have hel:P.elem t=e:=by simp [Program.elem,ht]
 rw [run_slice_l w t _ n C (G6 ht) .i64 _ (by omega) (by omega)];have hne:¬C=k:=by omega
 simp [hel,sizeOf,typeInfo,hi,sliced,addr_add,hne]
def qQ (w:World) (base:Nat) (v:Value) (l:List Sp) (x:Sp) (e:Ending) (w':World):Prop:=
 ∃vn,e=.returned vn/\CY.row w' base vn (without l x)/\blk vn=blk v/\Bj (blk v) w w'
theorem a0V (base:Nat) (v:Value) (l:List Sp) (x:Sp) (q:Nat) (w:World) (h:CY.row w base v l) (hnd:l.Nodup) (hx:x∈l) (hb:l.length<1000000) (hq:Oh w q x) (xQ:q∉blk v) :
 Calls Tryz.prog 177 #[v,.func (.func 176) #[] #[.pointer (some q)]] w (qQ w base v l x):=by
 obtain ⟨i1,hi1,hy0,hy1,hy2⟩:=info_parts Nc;rcases h.2 with ⟨-,hn0⟩ | ⟨g,C,cur,rfl,-⟩
 ·have hl:l = []:=List.eq_nil_of_length_eq_zero hn0;subst hl;simp at hx
 obtain ⟨n,hn⟩:=AU l.length;rw [hn] at h hb xQ |-;have hix:=y9 _ l x q w (See.BU (by have:=h;exact this)) (by omega) hq
 have hown:w.ownsRow base 62 3 (.slice (some ⟨g,0,none⟩) n C) n (CY.all l):=by
  have:=h;unfold Kind.row at this;rwa [hn] at this
 have Xg:=MS hown;have hqg:q≠g:=by simpa [blk] using xQ
 have H:=AX h;have fE:=AX hix;have HN:=Aw hn hnd hx Xg hqg;have HQ:=AX hq;have n0:(0:Int)<=(n:Int):=AY _;have n1:(n:Int)<1000000:=by omega
 clear h hix hn hnd hx Xg hqg hq xQ hown;go_enter Tryz.func177,Tryz.ntmps177
 go_wp2_with fail
 go_fit fE.out
 rintro e w1 ⟨u1,(⟨hc,-⟩ | ⟨k,hk,rfl⟩)⟩
 ·exact absurd HN.2.2.1 hc
 have hkn:k<n:=by rw [<-HN.1];exact (AZ hk).1
 have k0:(0:Int)<=(k:Int):=AY _;have k1:(k:Int)<(n:Int):=by omega
 have hkq:((k:Int) == -1)=false:=by rw [beq_eq_false_iff_ne];omega
 have DJ:=AX u1;have HK:=Ap hk hkn;clear u1 hk hkn;go_wp2_with fail
 clear hkq;go_loopg [5,6] n (λm s5 s6 wr=>∃(i j:Nat) (c:List Sp),(m+j=n+(k+1)/\j<=n)/\j=i+1/\k<=i/\s5=.int .i64 (i:Int)/\s6=.int .i64 (j:Int)/\CY.row wr base (.slice (some ⟨g,0,none⟩) n C) c/\c.length=n/\(∀p,c[p]? = if k<=p/\p<i then l[p+1]? else l[p]?)/\Bj [g] w wr)
 case atStart=>
  refine ⟨k,k+1,l,by have:=HK.2;exact ⟨rfl,by omega⟩,rfl,Nat.le_refl _,rfl,by go_num,Bl H.out DJ.out (by simp),HN.1,λp=>?_,DJ.out.mono (by simp)⟩
  rw [if_neg (by omega)]
 case round=>
  obtain ⟨i,j,c,hj,hji,hki,rfl,rfl,hrow,hcl,hcp,hup⟩:=hrel;have i0:(0:Int)<=(i:Int):=AY _;have j0:(0:Int)<=(j:Int):=AY _;have hjn:(j:Int)<=(n:Int):=by omega
  have hin:(i:Int)<(n:Int):=by omega
  by_cases hlt:j<n
  ·obtain ⟨s,hs⟩:∃s,l[j]? = some s:=⟨_,Ba (by rw [HN.1];exact hlt)⟩;have hcs:c[j]? = some s:=by rw [hcp j,if_neg (by omega)];exact hs
   have hsx:s≠x:=λe=>by
    obtain ⟨g1,g2⟩:=AZ hs;obtain ⟨g3,g4⟩:=AZ HK.1;have:=List.pairwise_iff_getElem.1 HN.2.1 k j g3 g1 (by omega);rw [g2,g4,e] at this;exact this rfl
   have EP:See CY wr (.slice (some ⟨g,0,none⟩) n C) c:=See.BU hrow;obtain ⟨g',og,hA,-,-,ey⟩:=EP.at hcs;injection hA with hA;injection hA with hA1 hA2 hA3;subst hA1 hA2;have y0:wr.cell? ⟨g,0+j*3,none⟩=some (.int .i64 s.lo):=ey 0 _ rfl;have y1:wr.cell? ⟨g,0+j*3+1,none⟩=some (.int .i64 s.hi):=ey 1 _ rfl;have y2:wr.cell? ⟨g,0+j*3+2,none⟩=some (.int .u32 (s.id:Int)):=ey 2 _ rfl;rw [Nat.zero_add] at y0 y1 y2;have b1:(j:Int)<(n:Int):=by omega
   have HJ:=AL hj hji hki hrow hcl hcp hup hs;clear EP ey hs hcs hj hji hki hrow hcl hcp hup;obtain ⟨wl,hwl⟩:∃wl:World,wl=wr:=⟨_,rfl⟩;subst hwl;go_upto_region 8 with fail
   have hbx:=Oh.new wl s;have hu2:Bj [] wl (wl.alloc (.cells #[s.lo,s.hi,.int .u32 (s.id:Int)] 62)):=(Bj.refl _ _).alloc _;generalize (wl.alloc (.cells #[s.lo,s.hi,.int .u32 (s.id:Int)] 62))=W2 at hu2 hbx |-;obtain ⟨q2,hq2⟩:=AU wl.heap.size;rw [hq2] at hbx |-;have hc:=a0U s x q W2 ((HQ.out.upd HJ.2.2.2.2.2.2.1 (by have:=HN.2.2.2.2;simpa using this)).upd hu2 (by simp));rw [decide_eq_false hsx] at hc;unfold IE at hc;obtain ⟨d0,d1,d2⟩:=hbx;have HC:=AX hc;have Ej:=AX hu2;have HD:=Aq d0 d1 d2;clear hc hu2 y0 y1 y2 hq2 hsx;go_wp2_with fail
   go_fit HC.out
   rintro e w3 ⟨rfl,u3⟩;clear d0 d1 d2;have hb3:=(Oh.mk HD.1 HD.2.1 HD.2.2).upd u3 (by simp);have hr3:=Bl HJ.2.2.2.1 (Ej.out.trans u3) (by simp);have hth:=qO hr3 HJ.2.2.2.2.1 (k:=i) (by omega);have hput:=a1O hr3 HJ.2.2.2.2.1 (k:=i) (by omega) s;have qR:=(HJ.2.2.2.2.2.2.1.trans ((Ej.out.trans u3).mono (G:=[g]) (by simp))).trans (LW (g:=g) [s.lo,s.hi,.int .u32 (s.id:Int)] w3 (i*3));obtain ⟨d0,d1,d2⟩:=hb3;have HTH:=AX hth;have Xj:=Ap hput qR;clear u3 hr3 hth hput qR;go_upto_region 9 with fail
   iterate 13 go_step
   refine wpList_store_mid (P:=Tryz.prog) (x:=.tmp 33) (y:=.tmp 32) rfl 62 rfl g (i*3) #[s.lo,s.hi,.int .u32 (s.id:Int)] (by simp [Act.eval]) (by simp [Act.eval]) HTH.out (by kernel_rfl) (all_oneCell_toArray (by simp [Value.oneCell'])) ?_
   simp only [Act.put];clear d0 d1 d2;go_wp2_with fail
   go_roundg (n+(k+1) - (j+1))
   case measure=>have:=HJ.1;omega
   case rel=>
    obtain ⟨h1,h2,h3,h4,h5,h6,h7,h8⟩:=HJ.out;refine ⟨i+1,j+1,c.set i s,by omega,by omega,by omega,by go_num,by go_num,Xj.1,by rw [List.length_set];exact h5,λp=>?_,Xj.2⟩
    rw [List.getElem?_set];by_cases hp:i=p
    ·subst hp;rw [if_pos rfl,if_pos (by omega),if_pos (by omega),<-h2];exact h8.symm
    ·rw [if_neg hp,h6 p];by_cases hq3:k<=p/\p<i
     ·rw [if_pos hq3,if_pos (by omega)]
     ·rw [if_neg hq3,if_neg (by omega)]
  ·have TU:j=n:=by omega
   have hcut:c.take i=without l x:=by
    unfold without;rw [<-KJ HN.2.1 HK.1];refine List.ext_getElem? λp=>?_
    rw [List.getElem?_take,List.getElem?_eraseIdx];have h1:=HN.1;by_cases hp:p<i
    ·rw [if_pos hp,hcp p];by_cases hpk:p<k
     ·rw [if_neg (by omega),if_pos hpk]
     ·rw [if_pos (by omega),if_neg hpk]
    ·rw [if_neg hp,if_neg (by omega),List.getElem?_eq_none (by omega)]
   have hrow':wr.ownsRow base 62 3 (.slice (some ⟨g,0,none⟩) n C) n (CY.all c):=by
    have:=hrow;unfold Kind.row at this;rwa [hcl] at this
   have hin2:i<n:=by omega
   have Xg:=HN.2.2.2.1;have hni:n - i=1:=by omega
   have ct:=λw'=>Yw (P:=Tryz.prog) (t:=56) Tryz.underlying56 hi1 hy1 g n C i hin2 Xg w'
   rw [hni] at ct;have chd:=λw'=>Tc (P:=Tryz.prog) (t:=56) Tryz.underlying56 hi1 g n C i (by omega) w'
   have kF:∀ty,(Builtin.clear_ #[56] ty #[.slice (some ⟨g,i*3,none⟩) 1 (C - i)]).run Tryz.prog wr=.ok (.tuple #[]) (wr.setCells g (i*3) (Builtin.zeroCells (Value.agg #[.int .i64 0,.int .i64 0,.int .u32 0]).cells 1).toList):=λty=>
    Jl (size:=3) wr _ 62 ty _ Tryz.underlying56 VJ rfl (by simp [Value.oneCell',Value.cells]) (by decide) g _ 1 _ (by decide)
     (λp hp=>(Gx hrow' (i*3+p) (by omega)).1) (λp hp=>(Gx hrow' (i*3+p) (by omega)).2)
   obtain ⟨LL,QT⟩:=AU ((Builtin.zeroCells (Value.agg #[.int .i64 0,.int .i64 0,.int .u32 0]).cells 1).toList);rw [QT] at kF;have hown2:=F5 LL wr (i*3) (S9 hrow' i (by omega)) (Nat.le_refl _);have hci:(c.take i).length=i:=by rw [Bf,hcl];omega
   have Yx:CY.row (wr.setCells g (i*3) LL) base (.slice (some ⟨g,0,none⟩) i C) (without l x):=by
    rw [<-hcut];unfold Kind.row;rw [hci,Kind.Iw];exact hown2
   have HE:=Ap Yx (hup.trans (LW (g:=g) LL wr (i*3)));clear QT hrow hrow' hown2 hci Yx hcut hcp hcl hup hj hji hki TU Xg hni hin2;go_wp2_with fail
   go_ret
   exact ⟨_,rfl,HE.1,rfl,HE.2⟩
