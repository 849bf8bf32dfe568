/- boxes.Drop, Get. Printed by genBx.py. boxes: plainly: what the trees of all buckets have together. boxes.At. -/
import Derived.Test.YtkbaaonchdeneaaGreatPc35
set_option maxHeartbeats 8000000
set_option maxRecDepth 100000
namespace Go.Proofs.YtkbaaonchdeneaaGreat
namespace LQ
open Go.RowKit
open Fv (BO Cc)
open Go.Proofs.YtkbaaonchdeneaaGreat.Nm (Gi Ee CU O8 Gz Bz Ed place)
open Ps
theorem get_none {S:GY} (I:EW Bx.id S) (x:Nat):place S.N x=none↔get S x=none:=by
 constructor
 ·intro h;unfold Ps.get;rw [h];rfl
 ·intro h;rw [I.none];intro s hs e;have:=(I.get x s).2 ⟨hs,e⟩;rw [h] at this
  cases this
theorem uw (tv:Value) (F:List Nat) (S:GY) (x:Nat) (w:World) (H:Ku w tv F S) (I:EW Bx.id S) (ht:S.t<90000) (hx:get S x=none) :
 Calls Tryz.prog 22 #[tv,.int .u32 (x:Int)] w λe w'=>e=.returned (.tuple #[.int .i64 0,.bool false])/\Bj [] w w':=by
 have hlow:=I.low;obtain ⟨q,hv,dv,av,Fh,Fd,rfl,H,hF⟩:=H;obtain ⟨h,rfl⟩:=BO.ptr H.half;obtain ⟨d,rfl⟩:=Gi.ptr H.dir;obtain ⟨h0,h1,h2⟩:=H.head.cells3;have HN:=AX (Pq q h w h0);have HD:=AX (Nm.uj _ Fd S.N x w H.dir I.dir (Ac hlow.1) ((get_none I x).2 hx));clear H hF I hx hlow;go_enter Tryz.func22,Tryz.ntmps22
 go_wp2_with fail
 go_fit HN.out
 rintro e w' ⟨rfl,rfl⟩;go_wp2_with fail
 go_fit HD.out
 rintro e w2 ⟨rfl,hu⟩;have HU:=AX hu;clear hu;go_wp2_with fail
 go_ret2
 exact ⟨rfl,HU.out⟩
def Xz (w:World) (tv:Value) (F:List Nat) (S:GY) (x:Nat) (s:Bx) (k:Nat) (e:Ending) (w':World):Prop:=
 e=.returned (.tuple #[.int .i64 ((Fv.Q9 S.H s:Nat):Int),.bool true])/\Rf w w' tv F (Pn S x s k)
theorem Sj (tv:Value) (F:List Nat) (S:GY) (x k:Nat) (s:Bx) (w:World) (H:Ku w tv F S) (I:EW Bx.id S) (hg:Fv.Good (Dw S)) (ht:S.t<999) (hs:get S x=some s) (hk:S.H.mp.lookup s=some (k:Int)) :
 Calls Tryz.prog 22 #[tv,.int .u32 (x:Int)] w (Xz w tv F S x s k):=by
 have hlow:=I.low;have hal2:=I.lK;obtain ⟨q,hv,dv,av,Fh,Fd,rfl,H,hF⟩:=H;obtain ⟨h,rfl⟩:=BO.ptr H.half;obtain ⟨d,rfl⟩:=Gi.ptr H.dir;obtain ⟨A,C,hav⟩:∃A C,av=.slice A S.all.length C:=BD H.all;subst hav;obtain ⟨h0,h1,h2⟩:=H.head.cells3;obtain ⟨hm,hid⟩:=(I.get x s).1 hs;obtain ⟨i,hpi,hai⟩:=I.ofs s hm;rw [hid] at hpi;have hlv:=Qq I;have hcs:=Ps.ET.len I.half;have hal:=I.al;have hwk:=I.wk;have hin:=hg.CS s hm;have HN:=AX (Pq q h w h0);have HD:=AX (Nm.lT _ Fd S.N x i w H.dir I.dir (Ac hlow.1) (Ac hlow.2) hpi);have HDR:=AX (λ(w2:World) (hh:BO w2 (.pointer (some h)) Fh S.H)=>Fv.bJ _ Fh S.H s k w2 hh I.half hin hk (by omega) (by omega) hg (by show (Dw S).length<=1000;omega));have HH:=AX H;have RX:=AX hF;obtain ⟨nn,hnn⟩:∃n,S.all.length=n:=⟨_,rfl⟩;have iq:=AX hnn;have hi:i<nn:=by rw [<-hnn];exact (AZ hai).1
 have HAI:=AX hai;have i0:(0:Int)<=(i:Int):=AY _;have i1:(i:Int)<(nn:Int):=by omega
 unfold Xz;clear H hF I hs hk hlow hal2 hm hid hpi hai hlv hcs hal hwk hin hg hi hnn;go_enter Tryz.func22,Tryz.ntmps22
 go_wp2_with fail
 go_fit HN.out
 rintro e w' ⟨rfl,rfl⟩;go_wp2_with fail
 go_fit HD.out
 rintro e w3 ⟨rfl,hst3⟩;obtain ⟨Fd3,H3,hu3,hF3⟩:=HH.out.dirs hst3;obtain ⟨c0,c1,c2⟩:=H3.head.cells3;rw [iq.out] at c2;have EP:See LP w3 (.slice A S.all.length C) S.all:=See.BU H3.all;obtain ⟨g,og,hA,-,-,ey⟩:=EP.at HAI.out;subst hA;have y0:w3.cell? ⟨g,og+i*5,none⟩=some (.int .i64 s.x1):=ey 0 _ rfl;have y1:w3.cell? ⟨g,og+i*5+1,none⟩=some (.int .i64 s.x2):=ey 1 _ rfl;have y2:w3.cell? ⟨g,og+i*5+2,none⟩=some (.int .i64 s.y1):=ey 2 _ rfl;have y3:w3.cell? ⟨g,og+i*5+3,none⟩=some (.int .i64 s.y2):=ey 3 _ rfl;have y4:w3.cell? ⟨g,og+i*5+4,none⟩=some (.int .u32 (s.id:Int)):=ey 4 _ rfl;have hq3:=H3.head.lt;have hgs:=World.block_lt_of_cell? _ _ y0;have hqh:q∉Fh:=λhc=>H3.E5 (i:=0) (j:=1) rfl rfl (by omega) q (by simp) hc
 have hgh:g∉Fh:=λhc=>H3.E5 (i:=1) (j:=3) rfl rfl (by omega) g hc (by simp [blk])
 have HA:=AX (HDR.out w3.drew (H3.half.upd ((Bj.refl [] w3).drew) (by simp)));have OB:=Aq H3 hu3 hF3;clear H3 hu3 hF3 hst3 EP ey c1 h0 h1 h2;go_upto_region 6 with fail
 refine Bo.start [11,12,13,14,15] (λw'=>Bj [] w3 w') (by kernel_rfl) ?_ λhS=>?_
 ·exact (Bj.refl _ _).drew
 refine' Bo.mx 0 21 ?_
 refine' Bo.mx 1 22 ?_
 refine' Bo.mx 2 23 ?_
 refine' Bo.tk 4 (i:=3) (oi:=⟨some 24,_,_,_,_,_⟩) rfl (by rfl) ?a7N ?_
 case a7N=>intro w hSw;have d9:=(hSw.cell (p:=⟨q,0,none⟩) hq3 (by simp)).trans c0;go_simp<;>with_reducible rfl
 simp only [Act.put,sA,sZ,sS];refine' Bo.mx 4 25 ?_
 refine' Bo.mx 5 26 ?_
 refine' Bo.mx 6 27 ?_
 refine' Bo.tk 4 (i:=7) (oi:=⟨some 28,_,_,_,_,_⟩) rfl (by rfl) ?a7O ?_
 case a7O=>intro w hSw;have d9:=(hSw.cell (p:=⟨q,2,none⟩) hq3 (by simp)).trans c2;go_simp<;>with_reducible rfl
 simp only [Act.put,sA,sZ,sS];refine' Bo.mx 8 29 ?_
 refine' Bo.mx 9 30 ?_
 refine' Bo.tk 4 (i:=10) (oi:=⟨some 31,_,_,_,_,_⟩) rfl (by rfl) ?a5s ?_
 case a5s=>intro w hSw;have k50:=(hSw.cell (p:=⟨g,og+i*5,none⟩) hgs (by simp)).trans y0;have k51:=(hSw.cell (p:=⟨g,og+i*5+1,none⟩) hgs (by simp)).trans y1;have k52:=(hSw.cell (p:=⟨g,og+i*5+2,none⟩) hgs (by simp)).trans y2;have k53:=(hSw.cell (p:=⟨g,og+i*5+3,none⟩) hgs (by simp)).trans y3;have k54:=(hSw.cell (p:=⟨g,og+i*5+4,none⟩) hgs (by simp)).trans y4;go_simp<;>with_reducible rfl
 simp only [Act.put,sA,sZ,sS];refine Bo.one (i:=11) (o:=⟨some 32,_,_,_,_,_⟩) rfl (by kernel_rfl) λK hK=>?_
 go_simp
 go_at_call 75
 go_fit HA.out
 rintro e w7 ⟨rfl,hs7⟩;refine hK.out _ _ (λh=>(by cases h)) ?_
 clear hK K;try simp only [Act.put,sA,sZ,sS]
 refine' Bo.mx 12 33 ?_
 refine' Bo.mx 13 34 ?_
 refine' Bo.mx 14 4 ?_
 refine' Bo.mx 15 5 ?_
 refine Bo.done (by kernel_rfl) ?_
 have H6d:=OB.1.upd ((Bj.refl [] w3).drew) (by intro P hP y hy;simp);obtain ⟨Fh7,H7,QN,lS⟩:=H6d.halves hs7;have HH7:=Aq H7 QN lS;clear H6d H7 QN lS hs7 c0 c2 y0 y1 y2 y3 y4 hS;go_wp2_with fail
 go_ret2
 refine ⟨rfl,?_⟩
 obtain ⟨H7,QN,lS⟩:=HH7.out;obtain ⟨H3,hu3,hF3⟩:=OB.out;have sz3:=hu3.size;have sz7:w3.drew.heap.size=w3.heap.size:=rfl;refine ⟨_,⟨q,_,_,_,_,_,rfl,⟨H7.head,H7.half,H7.dir,H7.all,H7.apart⟩,rfl⟩,?_,?_⟩
 ·exact (hu3.mono (λy hy=>.inl (by rw [RX.out];exact Bz (i:=2) rfl hy))).trans (((Bj.refl [] w3).drew.mono (by simp)).trans (QN.mono (λy hy=>.inl (by rw [RX.out];exact Bz (i:=1) rfl hy))))
 ·intro y hy;rw [RX.out];simp only [E8,List.flatten_cons,List.flatten_nil,List.append_nil,List.mem_append] at hy |-;rcases hy with hy | hy | hy | hy
  ·exact .inl (.inl hy)
  ·rcases lS y hy with g | g
   ·exact .inl (.inr (.inl g))
   ·right;omega
  ·rcases hF3 y hy with g | g
   ·exact .inl (.inr (.inr (.inl g)))
   ·right;omega
  ·exact .inl (.inr (.inr (.inr hy)))
end LQ
namespace LQ
open Go.RowKit
open Fv (BO Cc Uf Lh Qn Ug Jo KT TV tp tq)
open Go.Proofs.YtkbaaonchdeneaaGreat.Nm (Gi Ee CU Bz)
open Ps
def TL (S:GY):List (List Bx):=(Uf S.H.cs).map λi=>live S.H.al (Bq S.H.cs i)
theorem uy (al:List Bool) (a b:List (Bx×Nat)):live al (a++b)=live al a++live al b:=by
 unfold live;rw [I8,List.map_append]
theorem uz (al:List Bool) (cs:List (Bx×Nat)) (k:Nat):∀m,m+k=BA cs.length->((Lh cs m).map λi=>live al (Bq cs i)).flatten=live al (cs.take (cs.length / 2 ^ m*2 ^ m)):=by
 induction k with
 |zero=>
  intro m hm;have e:m=BA cs.length:=by omega
  subst e;rw [Ug,Nat.div_eq_of_lt (Di cs.length),Nat.zero_mul,List.take_zero];rfl
 |succ k ih=>
  intro m hm;have h1:=ih (m+1) (by omega);rw [Qn cs m (by omega),<-P5,uy,<-h1];by_cases he:(Bq cs m).isEmpty=true
  ·rw [if_pos he];have:Bq cs m = []:=by simpa using he
   rw [this];simp [live,CW]
  ·rw [if_neg he,List.map_append,List.flatten_append];simp
theorem XA (S:GY):(TL S).flatten=Dw S:=by
 unfold TL Dw Uf;rw [uz S.H.al S.H.cs (BA S.H.cs.length) 0 (by omega)];simp
theorem uD (S:GY):(TL S).length<=BA S.H.cs.length:=by
 unfold TL;rw [List.length_map];exact Fv.YG _ _
theorem YP (n:Nat):BA (2*n)<=BA n+1:=by
 have h:=Di n;exact BP (2*n) (BA n+1) (by rw [Nat.pow_succ];omega)
theorem Vk (cs:List (Bx×Nat)) (i:Nat):(Bq cs i).length<=cs.length:=by
 rw [D7];split
 ·rename_i hb
  exact Nat.ge_two_pow_of_testBit hb
 ·omega
def uF (l:List Bx) (x y:Int):List Nat:=FX ((l.filter λb=>inB b x y).map Bx.id)
def JE (l:List Bx) (x y:Int):List Nat:=(Ea (l.map Fv.Ic) x).filter λn=>!(!inB ((Fv.Ig l n).getD ⟨0,0,0,0,0⟩) x y)
theorem a0m {l:List Bx} (h:(l.map Bx.id).Nodup) {b:Bx} (hb:b∈l):Fv.Ig l b.id=some b:=by
 unfold Fv.Ig;induction l with
 |nil=>cases hb
 |cons a l ih=>
  rw [List.map_cons,List.nodup_cons] at h;rw [List.find?_cons];rcases List.mem_cons.1 hb with rfl | hb
  ·simp
  ·have:(a.id==b.id)=false:=by
    rw [beq_eq_false_iff_ne];exact λe=>h.1 (List.mem_map.2 ⟨b,hb,e.symm⟩)
   rw [this];exact ih h.2 hb
theorem uG {l:List Bx} (h:(l.map Bx.id).Nodup) (x y:Int):(JE l x y).Perm ((l.filter λb=>inB b x y).map Bx.id):=by
 unfold JE Ea;refine ((IC _).filter _).trans (List.Perm.of_eq ?_)
 rw [List.filter_map,List.filter_filter,List.filter_map,List.map_map];have e:(Sp.id ∘ Fv.Ic)=Bx.id:=rfl;rw [e];congr 1
 refine List.filter_congr λb hb=>?_
 simp only [Function.comp];have e2:Fv.Ig l (Fv.Ic b).id=some b:=a0m h hb;rw [e2];show ((!(!inB b x y))&&Es b.x1 b.x2 x)=inB b x y
 unfold inB TF Es
 cases decide (b.x1<=x)<;>cases decide (x<=b.x2)<;>cases decide (b.y1<=y)<;>cases decide (y<=b.y2)<;>rfl
theorem XC (l:List Bx) (x y:Int):(JE l x y).length<=(Ea (l.map Fv.Ic) x).length:=List.length_filter_le _ _
theorem a2D {L:List (List Bx)} (h:∀l∈L,(l.map Bx.id).Nodup) (x y:Int):FX ((L.map λl=>JE l x y).flatten)=uF L.flatten x y:=by
 unfold uF;apply LV
 induction L with
 |nil=>exact List.Perm.refl _
 |cons a L ih=>
  rw [List.map_cons,List.flatten_cons,List.flatten_cons,List.filter_append,List.map_append];exact (uG (h a (by simp)) x y).append (ih λl hl=>h l (by simp [hl]))
theorem atC (l:List Bx) (x y:Int) (id qx qy qb c:Nat) (w:World) (hid:id<4294967296) (hx:w.cell? qx=some (.int .i64 x)) (hy:w.cell? qy=some (.int .i64 y))
 (hb:w.cell? ⟨qb,1,none⟩=some (.map (some c))) (hm:MapU Fv.U6 w c (Fv.Ig l) l.length) :
 Calls Tryz.prog 65 #[.int .u32 (id:Int),.pointer (some qx),.pointer (some qy),.pointer (some qb)] w λe w'=>e=.returned (.bool (!inB ((Fv.Ig l id).getD ⟨0,0,0,0,0⟩) x y))/\Bj [] w w':=by
 have hlk:=hm.look1 hid;obtain ⟨bx,hbx⟩:=AU ((Fv.Ig l id).getD ⟨0,0,0,0,0⟩)
 have hlk2:(Instr.lookup 25 (.map (some c)) (.int .u32 (id:Int)) false).run Tryz.prog w=.ok (QK bx) w:=by
  refine hlk.trans ?_
  rw [<-hbx]
  cases Fv.Ig l id<;>rfl
 rw [hbx];have hin:=λw9=>inC bx x y 0 w9
 obtain ⟨r,hr⟩:=AU (inB bx x y);rw [hr] at hin |-;unfold QK at hin hlk2;have kC:=AX hin;clear hlk hm hbx hin hr;go_enter Tryz.func65,Tryz.ntmps65
 go_wp2_with fail
 go_fit (kC.out _)
 rintro e w1 ⟨rfl,u1⟩;have HU:=AX u1;clear u1 hx hy hb hlk2;go_wp2_with fail
 go_ret
 exact ⟨rfl,HU.out⟩
end LQ
namespace LQ
open Go.RowKit
open Fv (BO Cc Uf Jo KT TV tp tq Ic Ig U6)
open Go.Proofs.YtkbaaonchdeneaaGreat.Nm (Gi Ee CU Bz)
open Ps
theorem lV (L:List (List Bx)) (x:Int):((L.map λl=>Ea (l.map Ic) x).flatten).length=(Ea (L.flatten.map Ic) x).length:=by
 induction L with
 |nil=>simp [Ea,FX]
 |cons a L ih=>
  have e:(Ea ((a::L).flatten.map Ic) x).length=(Ea (a.map Ic) x).length+(Ea (L.flatten.map Ic) x).length:=by
   unfold Ea;rw [List.flatten_cons,List.map_append,List.filter_append,List.map_append];simp only [EF,Bc]
  rw [e,List.map_cons,List.flatten_cons,Bc,ih]
theorem VU {f:List Bx->List Nat} {T:List (List Bx)} {k:Nat} {l:List Bx} (h:T[k]? = some l):((T.take (k+1)).map f).flatten=((T.take k).map f).flatten++f l:=by
 obtain ⟨h1,h2⟩:=AZ h;rw [Bd h1,h2,List.map_append,List.flatten_append];simp
theorem Uu {f:List Bx->List Nat} (hf:∀l,(f l).length<=l.length) (T:List (List Bx)) (k:Nat):((T.take k).map f).flatten.length<=T.flatten.length:=by
 induction T generalizing k with
 |nil=>simp
 |cons a T ih=>
  rcases k with _ | k
  ·simp
  ·rw [List.take_succ_cons,List.map_cons,List.flatten_cons,List.flatten_cons,Bc,Bc];have:=ih k;have:=hf a;omega
def Pv (S:GY):Nat:=4*(BA S.H.cs.length+1)+4
def bM (w:World) (S:GY) (L:List Nat) (c:Nat) (e:Ending) (w':World):Prop:=∃t:Nat,OW w L t e w'/\L.length<=t/\t<=c+Pv S*(TL S).length
theorem Sl (l:List Bx) (x:Int):(Ea (l.map Ic) x).length<=l.length:=by
 have:=jR (l.map Ic) x;rwa [List.length_map] at this
theorem VW {S:GY} (I:EW Bx.id S) {l:List Bx} {k:Nat} (h:(TL S)[k]? = some l):(l.map Bx.id).Nodup:=by
 have h1:l.Sublist (TL S).flatten:=List.sublist_flatten_of_mem (List.mem_of_getElem? h);rw [XA] at h1;exact I.names.sublist (h1.map _)
theorem atP {M0:Nat} (hM0:M0<=1000000) (hso:Tv M0) (tv:Value) (F:List Nat) (S:GY) (x y:Int) (w:World) (H:Ku w tv F S) (I:EW Bx.id S) (hg:Fv.Good (Dw S)) (ht:S.t<999) (hlm:(Dw S).length<M0) :
 Calls Tryz.prog 17 #[tv,x,y] w (bM w S (uF (Dw S) x y) (Ea ((Dw S).map Ic) x).length):=by
 obtain ⟨W,hW,hu0,a2E,a2F⟩:=SS w #[x] #[y] 2 2;have H:=H.upd hu0 (by simp);obtain ⟨q,hv,dv,av,Fh,Fd,rfl,H,hF⟩:=H;obtain ⟨h,rfl⟩:=BO.ptr H.half;obtain ⟨h0,-⟩:=H.head.cells3;have nX:=AX (Pq q h W h0);have hlv:=Qq I;have hcs:=Ps.ET.len I.half;have hal:=I.al;have HT:=AX (Fv.a2m _ _ _ W H.half I.half (by omega));obtain ⟨i0,hi0,hz0,hz1,hz2⟩:=info_parts TN;have hfl:=XA S;have htl:=uD S;have hTL:(TL S).length=(Uf S.H.cs).length:=by unfold TL;rw [List.length_map]
 obtain ⟨B,hB⟩:=AU (BA S.H.cs.length);have a8R:B<=10:=by rw [<-hB];exact BP S.H.cs.length 10 (by omega)
 obtain ⟨n,hn⟩:=AU ((TL S).length);have a8S:n<=10:=by omega
 have hall:(Dw S).length<1000:=by omega
 have n0:(0:Int)<=(n:Int):=AY _;have n1:(n:Int)<=10:=by omega
 have hcl:∀k,(((TL S).take k).map λl=>JE l x y).flatten.length<1000:=λk=>by
  have:=Uu (f:=λl=>JE l x y) (λl=>Bh (XC l x y) (Sl l x)) (TL S) k;rw [hfl] at this;omega
 have a5t:∀k,(((TL S).take k).map λl=>JE l x y).flatten.length<M0:=λk=>by
  have:=Uu (f:=λl=>JE l x y) (λl=>Bh (XC l x y) (Sl l x)) (TL S) k;rw [hfl] at this;omega
 have a5u:∀l∈TL S,l.length<M0:=λl hl=>by
  have h1:=(List.sublist_flatten_of_mem hl).length_le;rw [hfl] at h1;omega
 have lW:=Au hM0 hso a5t a5u;clear a5t a5u hlm hM0 hso
 have kF:∀k,(((TL S).take k).map λl=>Ea (l.map Ic) x).flatten.length<1000:=λk=>by
  have:=Uu (f:=λl=>Ea (l.map Ic) x) (λl=>Sl l x) (TL S) k;rw [hfl] at this;omega
 obtain ⟨qy,hqy⟩:∃q,w.heap.size+1=q:=⟨_,rfl⟩;obtain ⟨qx,JQ⟩:∃q,w.heap.size=q:=⟨_,rfl⟩;rw [hqy] at a2F;rw [JQ] at a2E;have HC:=Ap hcl kF;have HB:=AX hB;have HN:=Aq hn hfl hTL;have HW:=Aq hW JQ hqy;have HQ:=Aq a2E a2F hu0;have HI:=Aq I hg hlv;have HHH:=AX H;rw [<-hTL,hn] at HT;unfold bM;clear I hg ht hlv hcs hal hfl htl hB hn hcl kF hW JQ hqy a2E a2F hu0 H hF hTL;go_enter Tryz.func17,Tryz.ntmps17
 go_upto_region 1 with fail
 rw [<-HW.1,HW.2.2,HW.2.1];go_wp2_with fail
 go_fit nX.out
 rintro e w0 ⟨rfl,rfl⟩;go_wp2_with fail
 go_fit HT.out
 rintro e w1 ⟨A,C,ts,rfl,a5v,a5w,hu1,a5x⟩;have HTR:=Aq a5v a5w a5x;have DJ:=AX hu1;clear a5v a5w hu1 a5x;go_wp2_with fail
 go_loopg [8,9,22] n (λm so st si wr=>∃(k t:Nat) (Ao:Option Addr) (Co:Nat),m+k=n/\si=.int .i64 (k:Int)/\st=.int .i64 (t:Int)/\so=.slice Ao (((TL S).take k).map λl=>JE l x y).flatten.length Co/\
  KU.row wr w1.heap.size (.slice Ao (((TL S).take k).map λl=>JE l x y).flatten.length Co) (((TL S).take k).map λl=>JE l x y).flatten/\(((TL S).take k).map λl=>JE l x y).flatten.length<=t/\t<=(((TL S).take k).map λl=>Ea (l.map Ic) x).flatten.length+Pv S*k/\Bj [] w1 wr)
 case atStart=>exact ⟨0,0,none,0,by omega,rfl,rfl,rfl,World.ownsRow_nil _ _ _ _,by simp,by simp,Bj.refl _ _⟩
 case round=>
  obtain ⟨k,t,Ao,Co,hk,rfl,rfl,rfl,hro,ht1,ht2,hup⟩:=hrel;have k0:(0:Int)<=(k:Int):=AY _;obtain ⟨L,hL⟩:∃L,(((TL S).take k).map λl=>JE l x y).flatten=L:=⟨_,rfl⟩;have hLl:L.length<1000:=by rw [<-hL];exact HC.1 k
  have a2G:=HC.2 k;have hmo:Pv S<=60:=by unfold Pv;rw [HB.out];omega
  rw [hL] at hro ht1 |-;have hmk:Pv S*k<=60*k:=Nat.mul_le_mul_right _ hmo;have htb:t<=3000:=by omega
  by_cases hlt:k<n
  ·have hlt2:(k:Int)<(n:Int):=by omega
   obtain ⟨l,hl⟩:∃l,(TL S)[k]? = some l:=⟨_,Ba (by rw [HN.1];exact hlt)⟩
   obtain ⟨i,hi,aT⟩:∃i,(Uf S.H.cs)[k]? = some i/\live S.H.al (Bq S.H.cs i)=l:=by
    have h9:=hl;unfold TL at h9;rw [List.getElem?_map,Option.map_eq_some_iff] at h9;exact h9
   obtain ⟨p,NN,G,g1,g2,g3,g4⟩:=HTR.2.2 k i hi;rw [aT] at g2;obtain ⟨b,c,hpe⟩:=g2.some;subst hpe;have a5y:=g2.upd hup (by simp);have hrow:=(See.BU HTR.2.1).BF hup;obtain ⟨g',og',hA',-,-,ey'⟩:=hrow.at g1;subst hA';have y0:wr.cell? ⟨g',og'+k*2,none⟩=some (.pointer (some b)):=ey' 0 _ rfl;have y1:wr.cell? ⟨g',og'+k*2+1,none⟩=some (.map (some c)):=ey' 1 _ rfl;have hstep:=VU (f:=λl=>JE l x y) hl;have hstep2:=VU (f:=λl=>Ea (l.map Ic) x) hl;rw [hL] at hstep;have hlen2:=HC.1 (k+1);have hlen3:=HC.2 (k+1);rw [hstep] at hlen2;rw [hstep2] at hlen3;have hnd:=VW HI.1 hl;have HML:=AX (lW.2.2.2 l (List.mem_of_getElem? hl))
   have hsub:∀b∈l,b∈Dw S:=by
    intro b hb;have h1:l.Sublist (TL S).flatten:=List.sublist_flatten_of_mem (List.mem_of_getElem? hl);rw [XA] at h1;exact h1.subset hb
   have a5z:∀z∈Ea (l.map Ic) x,z<4294967296:=by
    intro z hz;unfold Ea at hz;rw [(IC _).mem_iff,List.mem_map] at hz;obtain ⟨s,hs,rfl⟩:=hz;obtain ⟨b,hb,rfl⟩:=List.mem_map.1 (List.mem_filter.1 hs).1;exact (HI.2.1.CS b (hsub b hb)).2
   have hxw:=HQ.1.BF (DJ.out.trans hup);have hyw:=HQ.2.1.BF (DJ.out.trans hup);have hbk:=Vk S.H.cs i;have HK:=AP hk ht1 ht2 hup hstep hstep2 (Bh g3 hbk) a5z hxw hyw;have HRO:=AX hro;have HL2:=Ap hlen2 hlen3;clear hk ht1 ht2 hup hstep hstep2 g1 g2 g3 g4 hrow ey' hl hro hlen2 hlen3 hnd hsub a5z hi aT hbk a2G hmk;have hxc:wr.cell? qx=some (.int .i64 x):=hxw.cell 0;clear hxw hyw;go_upto_region 8 with fail
   obtain ⟨Wx,hWx,RS,PO⟩:=CQ wr #[.pointer (some b),.map (some c)] 102;rw [<-hWx];obtain ⟨z0,z1⟩:=(show Wx.cell? wr.heap.size=some (.pointer (some b))/\Wx.cell? ⟨wr.heap.size,1,none⟩=some (.map (some c)) from ⟨PO.cell 0,PO.cell 1⟩);obtain ⟨qb,hqe⟩:∃q,wr.heap.size=q:=⟨_,rfl⟩;rw [hqe] at z0 z1 PO |-;have a7P:Wx.cell? qx=some (.int .i64 x):=(HK.2.2.2.2.2.2.2.2.1.BF RS).cell 0;have a5A:=a5y.upd RS (by simp)
   have hst:∃M:Nat,M<=Pv S/\Calls Tryz.prog 63 #[.pointer (some b),x] Wx (YA Wx (Ea (l.map Ic) x) M)/\MapU U6 Wx c (Ig l) l.length:=by
    obtain ⟨b',c',F1,e1,e2,e3,e5,e6⟩:=a5A
    cases e1
    refine ⟨_,?_,a1W lW.1 lW.2.1 e2 x (by rw [List.length_map];exact HML.out),e3⟩
    have h1:=YP NN;have h2:=BP NN (BA S.H.cs.length) (Nat.lt_of_le_of_lt HK.2.2.2.2.2.2.1 (Di _));unfold Pv;dsimp only;omega
   have xW:=AX RS;have HWX:=AX (Bl HRO.out RS (by simp));obtain ⟨M,hM,a5B,hmap⟩:=hst;have a5C:=AX a5B;have HM:=Aq hM hmap PO;clear a5B hM hmap PO hWx a5y a5A y0 y1 RS hxc;obtain ⟨L2,hL2⟩:=AU (Ea (l.map Ic) x);rw [hL2] at a5C;have hone:JE l x y=L2.filter λz=>!(!inB ((Ig l z).getD ⟨0,0,0,0,0⟩) x y):=by unfold JE;rw [hL2]
   have Qi:=Ap hone hL2;have a2G:L2.length<1000:=by have:=HL2.2;rw [Bc,hL2] at this;omega
   clear hone hL2;go_wp2_with fail
   go_fit a5C.out
   rintro e w3 ⟨t3,⟨A3,C3,rfl,r3,u3⟩,hl3,hl4⟩;have HR3:=Au r3 u3 hl3 hl4;have hM2:=HM.1;have a8T:t3<=2000:=by omega
   have hdel:=a4z Wx.heap.size (.slice A3 L2.length C3) L2 (λz=>!inB ((Ig l z).getD ⟨0,0,0,0,0⟩) x y) (.pointer (some qx)) (.pointer (some qy)) (.pointer (some qb)) w3 r3 (by omega) (λw' hu' z hz=>by
    have hge:=λv hv=>BH r3 v hv
    have a1:=((HK.2.2.2.2.2.2.2.2.1.BF xW.out).BF u3).upd hu' (λhc=>by have:=hge _ hc;have:=(HK.2.2.2.2.2.2.2.2.1.BF xW.out).lt;omega);have a2:=((HK.2.2.2.2.2.2.2.2.2.BF xW.out).BF u3).upd hu' (λhc=>by have:=hge _ hc;have:=(HK.2.2.2.2.2.2.2.2.2.BF xW.out).lt;omega);have a3:=(HM.2.2.BF u3).upd hu' (λhc=>by have:=hge _ hc;have:=HM.2.2.lt;omega);have a4:=(HM.2.1.upd u3 (by simp)).upd hu' (λhc=>by have:=hge _ hc;have:=HM.2.1.lt;omega);exact atC l x y z qx qy qb c w' (HK.2.2.2.2.2.2.2.1 z (by rw [Qi.2];exact hz)) (a1.cell 0) (a2.cell 0) (a3.cell 1) a4)
   have HDL:=AX hdel;have c0:(0:Int)<=(t:Int):=AY _;have c1:(t:Int)<=3000:=by omega
   have c2:(0:Int)<=(t3:Int):=AY _;have c3:(t3:Int)<=2000:=by omega
   clear r3 u3 hl3 hl4 z0 z1 hdel a7P hM2;go_wp2_with fail
   go_fit HDL.out
   rintro e w5 ⟨vn,rfl,r5,u5⟩;rw [<-Qi.1] at r5;obtain ⟨A5,C5,hvn⟩:=BD r5;subst hvn;obtain ⟨m5,nV⟩:∃m,(JE l x y).length=m:=⟨_,rfl⟩;have hse:=CV r5;have a7Q:=HL2.1;rw [Bc,nV] at a7Q;have a5D:m5<=L2.length:=by rw [<-nV,<-Qi.2];exact XC l x y
   obtain ⟨r3,u3,hl3,hl4⟩:=HR3.out;have a5E:KU.row w5 w1.heap.size (.slice Ao L.length Co) L:=Bl (Bl HWX.out u3 (by simp)) u5 (λv hv hc=>by have:=BH r3 v hc;have:=BJ HWX.out v hv;omega);have EZ:Bj [] w1 w5:=((HK.2.2.2.1.trans xW.out).trans u3).trans' u5 (λv hv=>.inr (by have:=BH r3 v hv;have:=(HK.2.2.2.1.trans xW.out).size;omega));have nU:=AX hse;have a5F:=AX a5E;have Nv:=AX EZ;have eY:=AX EZ.size;have HT3:=Au hl3 hl4 a5D nV;rw [nV] at nU |-;clear r5 u5 hse a5E EZ r3 u3 hl3 hl4 a5D nV;go_wp2_with (at_builtin;refine BM _ rfl _ _ 35 rfl w1.heap.size 26 i0 (.int .u32 0) 1 4 Tryz.underlying35 hi0 hz0 hz1 hz2 rfl (by decide) _ _ _ rfl a5F.out _ m5 (KU.all (JE l x y)) rfl nU.out (KU.DU _) (by unfold maxLen;omega) (by omega) (Ac eY) ?_)
   intro A6 C6 w6 zn
   have hr6:KU.row w6 w1.heap.size (.slice A6 (L.length+m5) C6) (L++JE l x y):=by
    unfold Kind.row;rw [Bc,HT3.2.2.2,KU.BZ];exact zn.own
   have Jb:=(Nv.out).trans' zn.upd (λv hv=>.inr (BH a5F.out v hv));have HE:=Ap hr6 Jb;clear hr6 Jb zn;go_wp2_with fail
   go_roundg (n - (k+1))
   case measure=>have:=HK.1;omega
   case rel=>
    obtain ⟨k1,k2,k3,k4,k5,k6,-⟩:=HK.out;obtain ⟨m1,m2,m3,m4⟩:=HT3.out;have m5':=HM.1;refine ⟨k+1,t+t3,A6,C6,by omega,by go_num,by go_num,by rw [k5,Bc,m4],by rw [k5,Bc,m4];exact HE.1,by rw [k5,Bc,m4];omega,?_,HE.2⟩
    rw [k6,Bc,Qi.2,Nat.mul_succ];omega
  ·have hkn:k=n:=by omega
   have QT:L=((TL S).map λl=>JE l x y).flatten:=by
    rw [<-hL,hkn,<-HN.1,List.take_length]
   have htt:(((TL S).take k).map λl=>Ea (l.map Ic) x).flatten.length=(Ea ((Dw S).map Ic) x).length:=by
    rw [hkn,<-HN.1,List.take_length,lV,HN.2.1]
   rw [htt] at ht2;have HS:=AX (lW.2.1 w1.heap.size _ L wr hro (by rw [<-hL];exact lW.2.2.1 k));have HK:=Az hro ht1 ht2 hup QT hkn;clear hro ht1 ht2 hup QT hkn hk htt a2G hmk;go_wp2_with fail
   go_fit HS.out
   rintro e w6 ⟨rfl,t6,u6⟩;have HT6:=Ap t6 u6;clear t6 u6;go_wp2_with fail
   go_ret2
   obtain ⟨k1,k2,k3,k4,k5,k6⟩:=HK.out
   have hnm:∀l∈TL S,(l.map Bx.id).Nodup:=λl hl=>by
    obtain ⟨j,hj⟩:=List.mem_iff_getElem?.1 hl;exact VW HI.1 hj
   have e:(uF (Dw S) x y)=FX L:=by rw [k5,a2D hnm,HN.2.1]
   have hw1:Bj [] w w1:=HQ.2.2.trans DJ.out;rw [e,EF];refine ⟨t,⟨Ao,Co,by rw [EF];rfl,by rw [EF];exact own_base HT6.1 hw1.size,(hw1.trans k4).trans' HT6.2 (λv hv=>.inr (Bh hw1.size (BH k1 v hv)))⟩,k2,?_⟩
   rw [HN.1,<-k6];exact k3
