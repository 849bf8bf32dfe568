/- boxes.list, Area, Rim. Chapter 25's examples, plainly. Boxes, said of a list: what may be added, -/
import Derived.Test.YtkbaaonchdeneaaGreatPc36
import Derived.Test.YtkbaaonchdeneaaGreatPc51
import Derived.Test.YtkbaaonchdeneaaGreatPc52
set_option maxHeartbeats 2000000
set_option maxRecDepth 100000
namespace Go.Proofs.YtkbaaonchdeneaaGreat
namespace LQ
open Go.RowKit Go.Shelf Go.Sort Go.Lib
open Fv (BO Cc)
open Ps
def wV (a b:Bx):Int:=GH a.id b.id
theorem SI (a b:Bx):wV a b<0↔a.id<b.id:=by
 unfold wV GH;by_cases h1:(a.id:Int)<b.id
 ·simp [h1];omega
 ·by_cases h2:(b.id:Int)<a.id
  ·simp [h1,h2];omega
  ·simp [h1,h2];omega
theorem a8a:SWO (ltOf wV) where
 irrefl x:=by unfold ltOf;simp [SI]
 trans x y z h1 h2:=by unfold ltOf at *;simp [SI] at *;omega
 ntrans x y z h1 h2:=by unfold ltOf at *;simp [SI] at *;omega
theorem a6m (s t:Bx) (w:World):Calls Tryz.prog 135 #[.agg (LP.enc s).toArray,.agg (LP.enc t).toArray] w λe w'=>e=.returned (.int .i64 (wV s t))/\∃os,w'=grow w os:=by
 obtain ⟨a1,a2,a3,a4,a⟩:=s;obtain ⟨b1,b2,b3,b4,b⟩:=t;have H1:=AX (λw=>Xe (a:Int) (b:Int) w);show Calls Tryz.prog 135 #[.agg #[a1,a2,a3,a4,.int .u32 (a:Int)],.agg #[b1,b2,b3,b4,.int .u32 (b:Int)]] w λe w'=>e=.returned (.int .i64 (GH (a:Int) (b:Int)))/\∃os,w'=grow w os
 go_enter Tryz.func135,Tryz.ntmps135
 go_wp2_with fail
 go_fit (H1.out _)
 rintro e w' ⟨rfl,rfl⟩;go_wp2_with fail
 go_ret
 exact ⟨rfl,_,by rw [alloc_eq_grow,alloc_eq_grow,grow_grow]⟩
theorem wW (base:Nat) (v:Value) (l:List Bx) (w:World) (h:LP.row w base v l) (hb:l.length<1000000) :
 Calls Tryz.prog 134 #[v,.func (.func 135) #[] #[]] w λe w'=>
  e=.returned (.tuple #[])/\Bj (blk v) w w'/\∃l':List Bx,l'.Perm l/\l'.Pairwise (λa b=>a.id<=b.id)/\LP.row w' base v l':=by
 rcases h.2 with ⟨rfl,hn⟩ | ⟨g,cap,cur,rfl,h3⟩
 ·have:=AnyF.slices_SortFunc_none (L:=Tryz.sortB) none 0 (.func (.func 135) #[] #[]) w;refine Calls.mono this ?_
  rintro e w' ⟨rfl,rfl⟩;have hl:l = []:=List.eq_nil_of_length_eq_zero hn;subst hl;exact ⟨rfl,Bj.refl _ _,[],List.Perm.refl _,List.Pairwise.nil,h⟩
 ·haveI:Inhabited Bx:=⟨⟨0,0,0,0,0⟩⟩
  have:=qK Tryz.sortB LP (by decide) Tryz.isAgg28 Tryz.sizeOf28 135 wV a8a (enters_of Tryz.func135 (by kernel_rfl) rfl) a6m base g l.length cap l w h rfl hb;refine Calls.mono this ?_
  rintro e w' ⟨rfl,h4,l',h5,h6,h7⟩;refine ⟨rfl,h4,l',h5,h6.imp ?_,h7⟩
  intro a b hab;rw [SI] at hab;omega
theorem own_base {base:Nat} {w:World} {v:Value} {l:List Bx} (h:LP.row w base v l):∀k∈blk v,base<=k:=BH h
def WA (S:GY) (L:List Bx):Prop:=L.Perm (Dw S)/\L.Pairwise (λa b=>a.id<=b.id)
theorem a1s (tv:Value) (F:List Nat) (S:GY) (w:World) (H:Ku w tv F S) (I:EW Bx.id S) (ht:S.t<999) :
 Calls Tryz.prog 77 #[tv] w λe w'=>∃v L,e=.returned v/\WA S L/\See LP w' v L/\Bj [] w w':=by
 obtain ⟨q,hv,dv,av,Fh,Fd,rfl,H,hF⟩:=H;obtain ⟨h,rfl⟩:=BO.ptr H.half;obtain ⟨h0,-⟩:=H.head.cells3;have HN:=AX (Pq q h w h0);have hlv:=Qq I;have hcs:=Ps.ET.len I.half;have hal:=I.al;have hl:=Fv.allH _ _ _ w H.half I.half.lt (by omega);have HL:=AX hl;have HLV:=AX (show (live S.H.al S.H.cs).length<1000000 by unfold Dw at hlv;omega);unfold WA;clear H hF hl I hlv hcs hal ht;go_enter Tryz.func77,Tryz.ntmps77
 go_wp2_with fail
 go_fit HN.out
 rintro e w' ⟨rfl,rfl⟩;go_wp2_with fail
 go_fit HL.out
 rintro e w1 ⟨A,C,rfl,hr,hu⟩;have HS:=AX (wW _ _ _ w1 hr HLV.out);have HG:=AX (own_base hr);have HU:=AX hu;clear hr hu;go_wp2_with fail
 go_fit HS.out
 rintro e w2 ⟨rfl,hu2,L,hp,hs,hr⟩;have HR:=Au hu2 hp hs hr;clear hu2 hp hs hr;go_wp2_with fail
 go_ret
 refine ⟨_,L,rfl,⟨HR.2.1,HR.2.2.1⟩,See.BU HR.2.2.2,?_⟩
 exact HU.out.trans' HR.1 λx hx=>.inr (HG.out x hx)
theorem a6n (tv:Value) (F:List Nat) (S:GY) (w:World) (H:Ku w tv F S) (I:EW Bx.id S) (ht:S.t<999) (hb:∀b∈Dw S,b.CS) :
 Calls Tryz.prog 24 #[tv] w λe w'=>∃L,WA S L/\PI L w e w':=by
 obtain ⟨W,hW⟩:=AU (w.alloc (.cells #[.int .u64 0,.int .u64 0] 52));have hu0:Bj [] w W:=by rw [<-hW];exact (Bj.refl _ _).alloc _
 have hz:Ef W w.heap.size 0:=by rw [<-hW];exact heap_alloc_new _ _
 have HL:=AX (a1s tv F S W (H.upd hu0 (by simp)) I ht);have hlv:=Qq I;have HB:=AX (λ(L:List Bx) (h:WA S L) (w:World) (v:Value) (hs:See LP w v L)=>a0x v L w hs (by rw [h.1.length_eq];omega) (λb hb'=>hb b (h.1.mem_iff.1 hb')));have HW:=AX hW;have Gu:=Ap hu0 hz;unfold PI;clear H I hlv hb ht hW hu0 hz;go_enter Tryz.func24,Tryz.ntmps24
 go_upto_region 1 with fail
 rw [HW.out];go_wp2_with fail
 go_fit HL.out
 rintro e w1 ⟨v,L,rfl,hL,hs,hu⟩;have HB1:=AX (HB.out L hL w1 v hs);have y8:=Ap hL hu;clear hL hs hu;go_wp2_with fail
 go_fit HB1.out
 rintro e w2 ⟨rfl,hu2⟩;have hz2:Ef w2 w.heap.size 0:=(Gu.2.BF y8.2).BF hu2;have h2:w2.heap[w.heap.size]? = some (.cells #[.int .u64 0,.int .u64 0] 52 (0,0)):=hz2;have r0:w2.cell? w.heap.size=some (.int .u64 0):=by simp [World.cell?,h2]
 have r1:w2.cell? ⟨w.heap.size,1,none⟩=some (.int .u64 0):=by simp [World.cell?,h2]
 have f0:w2.frozen? w.heap.size=false:=by simp [World.frozen?,h2]
 have f1:w2.frozen? ⟨w.heap.size,1,none⟩=false:=by simp [World.frozen?,h2]
 obtain ⟨h,lo,hv,hh,hlo⟩:=UZ (GN L).toNat;obtain ⟨EE,hEE⟩:∃EE:Nat,wK L=EE:=⟨_,rfl⟩;rw [hv,hEE];have Ih:=AX (hz2.set hh hlo);have HE:=Au hv hEE hh hlo;have oC:=AX (show Bj [] w ((w2.setCell w.heap.size (.int .u64 (h:Int))).setCell ⟨w.heap.size,1,none⟩ (.int .u64 (lo:Int))) from ((((Gu.1.trans y8.2).trans hu2).setCell (.inr (Nat.le_refl _)) _).setCell (.inr (Nat.le_refl _)) _));clear hz2 h2 hu2 hv hEE hh hlo;go_wp2_with fail
 obtain ⟨e0,e1,-⟩:=Ih.out.cells;rw [<-HE.2.2.1] at e0;rw [<-HE.2.2.2] at e1;try rw [Exit.noGoto_ret]
 exact bodyPost_ret (v:=.tuple #[.agg #[.int .u64 (h:Int),.int .u64 (lo:Int)],(EE:Int)]) (by simp [results,Tryz.results24,go_sem,e0,e1]) rfl ⟨L,y8.1,by rw [HE.1,HE.2.1],oC.out⟩
theorem a8b (tv:Value) (F:List Nat) (S:GY) (w:World) (H:Ku w tv F S) (I:EW Bx.id S) (ht:S.t<999) (hb:∀b∈Dw S,b.CS) :
 Calls Tryz.prog 25 #[tv] w λe w'=>∃L,WA S L/\SH L w e w':=by
 obtain ⟨W,hW⟩:=AU (w.alloc (.cells #[.int .u64 0,.int .u64 0] 52));have hu0:Bj [] w W:=by rw [<-hW];exact (Bj.refl _ _).alloc _
 have hz:Ef W w.heap.size 0:=by rw [<-hW];exact heap_alloc_new _ _
 have HL:=AX (a1s tv F S W (H.upd hu0 (by simp)) I ht);have hlv:=Qq I;have HB:=AX (λ(L:List Bx) (h:WA S L) (w:World) (v:Value) (hs:See LP w v L)=>a3i v L w hs (by rw [h.1.length_eq];omega) (λb hb'=>hb b (h.1.mem_iff.1 hb')));have HW:=AX hW;have Gu:=Ap hu0 hz;unfold SH;clear H I hlv hb ht hW hu0 hz;go_enter Tryz.func25,Tryz.ntmps25
 go_upto_region 1 with fail
 rw [HW.out];go_wp2_with fail
 go_fit HL.out
 rintro e w1 ⟨v,L,rfl,hL,hs,hu⟩;have HB1:=AX (HB.out L hL w1 v hs);have y8:=Ap hL hu;clear hL hs hu;go_wp2_with fail
 go_fit HB1.out
 rintro e w2 ⟨rfl,hu2⟩;have hz2:Ef w2 w.heap.size 0:=(Gu.2.BF y8.2).BF hu2;have h2:w2.heap[w.heap.size]? = some (.cells #[.int .u64 0,.int .u64 0] 52 (0,0)):=hz2;have r0:w2.cell? w.heap.size=some (.int .u64 0):=by simp [World.cell?,h2]
 have r1:w2.cell? ⟨w.heap.size,1,none⟩=some (.int .u64 0):=by simp [World.cell?,h2]
 have f0:w2.frozen? w.heap.size=false:=by simp [World.frozen?,h2]
 have f1:w2.frozen? ⟨w.heap.size,1,none⟩=false:=by simp [World.frozen?,h2]
 obtain ⟨h,lo,hv,hh,hlo⟩:=UZ (IL L).toNat;obtain ⟨EE,hEE⟩:∃EE:Nat,a0w L=EE:=⟨_,rfl⟩;rw [hv,hEE];have Ih:=AX (hz2.set hh hlo);have HE:=Au hv hEE hh hlo;have oC:=AX (show Bj [] w ((w2.setCell w.heap.size (.int .u64 (h:Int))).setCell ⟨w.heap.size,1,none⟩ (.int .u64 (lo:Int))) from ((((Gu.1.trans y8.2).trans hu2).setCell (.inr (Nat.le_refl _)) _).setCell (.inr (Nat.le_refl _)) _));clear hz2 h2 hu2 hv hEE hh hlo;go_wp2_with fail
 obtain ⟨e0,e1,-⟩:=Ih.out.cells;rw [<-HE.2.2.1] at e0;rw [<-HE.2.2.2] at e1;try rw [Exit.noGoto_ret]
 exact bodyPost_ret (v:=.tuple #[.agg #[.int .u64 (h:Int),.int .u64 (lo:Int)],(EE:Int)]) (by simp [results,Tryz.results25,go_sem,e0,e1]) rfl ⟨L,y8.1,by rw [HE.1,HE.2.1],oC.out⟩
end LQ
namespace LQ
open Go.RowKit
open Go.Proofs.YtkbaaonchdeneaaGreat.Nm (place)
open Ps
theorem a1t:EW Bx.id (P0:GY):=inv0 Fv.a4Q
theorem a1u:Fv.Good (Dw (P0:GY)):=⟨by intro s hs;simp [Dw,P0,live,CW] at hs,by decide,by intro s hs;simp [Dw,P0,live,CW] at hs⟩
theorem jc {S:GY} (I:EW Bx.id S) {s:Bx} (h1:(s.x1<=s.x2/\s.y1<=s.y2)) (h2:∀u∈Dw S,u.id≠s.id):FV S s=true:=by
 unfold FV;rw [(I.none s.id).2 h2,decide_eq_true h1];rfl
theorem a3j {S:GY} (I:EW Bx.id S) {s:Bx} (h:¬(s.x1<=s.x2/\s.y1<=s.y2)\/∃u∈Dw S,u.id=s.id):FV S s=false:=by
 unfold FV;rcases h with h | ⟨u,hu,e⟩
 ·rw [decide_eq_false h];rfl
 ·obtain ⟨i,hi,-⟩:=I.ofs u hu;rw [e] at hi;rw [hi];simp
theorem jd {S:GY} (I:EW Bx.id S) {s:Bx} (h:FV S s=true):(s.x1<=s.x2/\s.y1<=s.y2)/\place S.N s.id=none/\∀u∈Dw S,u.id≠s.id:=by
 unfold FV at h;rw [Bool.and_eq_true] at h;have h2:place S.N s.id=none:=by simpa using h.2
 exact ⟨by simpa using h.1,h2,(I.none s.id).1 h2⟩
theorem a6o {α:Type} (l:List α) (t:Nat) (h1:∀j,j<t->l.length.testBit j=true) (h2:l.length.testBit t=false):Bv (setB l)=t:=by
 obtain ⟨g1,g2⟩:=IZ l;rcases Nat.lt_trichotomy (Bv (setB l)) t with h | h | h
 ·rw [h1 _ h] at g2;cases g2
 ·exact h
 ·rw [g1 _ h] at h2;cases h2
theorem WB {S:GY} (I:EW Bx.id S) (hg:Fv.Good (Dw S)) {s:Bx} (hs:s.CS/\s.id<4294967296) (ht:S.t<999) (h:FV S s=true) :
 EW Bx.id (bH Bx.id S s)/\Fv.Good (Dw (bH Bx.id S s))/\Dw (bH Bx.id S s)=Dw S++[s]:=by
 obtain ⟨h1,h2,h3⟩:=jd I h;refine ⟨a0b I s h2 (by omega),?_,Pm I s⟩
 rw [Pm I];exact YN hg hs h1 h3
theorem U1 {S:GY} (I:EW Bx.id S) (hg:Fv.Good (Dw S)) {x k:Nat} {s:Bx} (hs:get S x=some s) (hk:S.H.mp.lookup s=some (k:Int)) (ht:S.t<999) :
 EW Bx.id (Pn S x s k)/\Fv.Good (Dw (Pn S x s k))/\Dw (Pn S x s k)=(Dw S).filter λy=>y.id != x:=by
 have hl:=YK I hs hk;refine ⟨Un I hs hk (by omega),?_,hl⟩
 rw [hl];exact hg.sub List.filter_sublist
structure Held (w0 w:World) (tv:Value) (S:GY) (F:List Nat):Prop where
 is:Ku w tv F S
 inv:EW Bx.id S
 good:Fv.Good (Dw S)
 new:∀x∈F,w0.heap.size<=x
 upd:Bj [] w0 w
theorem Held.step {w0 w w':World} {tv:Value} {S S':GY} {F:List Nat} (h:Held w0 w tv S F) (hs:Rf w w' tv F S') (I:EW Bx.id S') (g:Fv.Good (Dw S')):∃F',Held w0 w' tv S' F'/\∀x∈F',x∈F\/w.heap.size<=x:=by
 obtain ⟨F',h1,h2,h3⟩:=hs;refine ⟨F',⟨h1,I,g,λx hx=>?_,h.upd.trans' h2 (λx hx=>.inr (h.new x hx))⟩,h3⟩
 rcases h3 x hx with k | k
 ·exact h.new x k
 ·exact Bh h.upd.size k
theorem Held.quiet {w0 w w':World} {tv:Value} {S:GY} {F:List Nat} (h:Held w0 w tv S F) (hu:Bj [] w w'):Held w0 w' tv S F:=
 ⟨h.is.upd hu (by simp),h.inv,h.good,h.new,h.upd.trans hu⟩
end LQ
namespace LQ
open Go.RowKit
open Go.Proofs.YtkbaaonchdeneaaGreat.Nm (place)
open Ps
def U2 (l:List Bx) (s:Bx):Bool:=decide (s.x1<=s.x2/\s.y1<=s.y2)&&decide (∀u∈l,u.id≠s.id)
def mZ (l:List Bx) (s:Bx):List Bx:=if U2 l s then l++[s] else l
def ni (l:List Bx) (x:Nat):Bool:=l.any λy=>y.id==x
def NK (l:List Bx) (x:Nat):List Bx:=l.filter λy=>y.id != x
def a0A (l:List Bx) (x:Nat):Option Bx:=l.find? λy=>y.id==x
theorem wX {S:GY} (I:EW Bx.id S) (s:Bx):FV S s=U2 (Dw S) s:=by
 unfold FV U2;congr 1
 rw [Bool.eq_iff_iff,Option.isNone_iff_eq_none,I.none,decide_eq_true_iff]
theorem a3k {S:GY} (I:EW Bx.id S) (x:Nat):get S x=a0A (Dw S) x:=by
 unfold a0A
 cases hg:get S x with
 |none=>
  symm
  rw [List.find?_eq_none];intro y hy;have:=(I.none x).1 ((get_none I x).2 hg) y hy;simpa using this
 |some s=>
  obtain ⟨h1,h2⟩:=(I.get x s).1 hg;symm
  cases hf:(Dw S).find? λy=>y.id==x with
  |none=>
   rw [List.find?_eq_none] at hf;have:=hf s h1;simp [h2] at this
  |some t=>
   have h3:=List.mem_of_find?_eq_some hf;have h4:=List.find?_some hf;simp at h4;rw [Ur I.names h1 h3 (h2.trans h4.symm)]
theorem a0B (l:List Bx) (x:Nat):ni l x=(a0A l x).isSome:=by
 unfold ni a0A;rw [Bool.eq_iff_iff,List.any_eq_true,List.find?_isSome]
theorem wY {S:HS Bx} (I:ET S) {s:Bx} {k:Nat} (hk:S.mp.lookup s=some (k:Int)):(Dk S s k).wk=S.wk+Fv.Q9 S s:=by
 have h1:=(I.core.drop1 hk).NU;rw [JY I.core hk] at h1;have h1':(Il S.mp s).length=(Df (Dy (view S) s)).length:=h1;rw [eG I hk];unfold Fv.Q9;rw [h1',Iz]
structure After (S S':GY) (n:Nat) (did:Bool) (l:List Bx):Prop where
 lv:Dw S'=l
 t:S'.t<=S.t+1
 wk:S'.H.wk=S.H.wk+n
 no:did=false->n=0
 bd:∀A D,BdS S.H A D->S.H.cs.length<401->∃A' D',BdS S'.H A' D'/\A'+D'=A+D+did.toNat
def Left (w0 w:World) (tv:Value) (S:GY) (F:List Nat) (n:Nat) (did:Bool) (l:List Bx) (w':World):Prop:=
 ∃S' F',Held w0 w' tv S' F'/\Bj F w w'/\(∀x∈F',x∈F\/w.heap.size<=x)/\After S S' n did l
theorem Left.none {w0 w w':World} {tv:Value} {S:GY} {F:List Nat} (h:Held w0 w tv S F) (hu:Bj [] w w'):Left w0 w tv S F 0 false (Dw S) w':=
 ⟨S,F,h.quiet hu,hu.mono (by simp),λ_ hx=>.inl hx,rfl,Nat.le_succ _,rfl,λ_=>rfl,λA D hb _=>⟨A,D,hb,rfl⟩⟩
theorem Held.take {w0 w w':World} {tv:Value} {S S':GY} {F:List Nat} (h:Held w0 w tv S F) (hs:Rf w w' tv F S') (I:EW Bx.id S') (g:Fv.Good (Dw S')):∃F',Held w0 w' tv S' F'/\Bj F w w'/\∀x∈F',x∈F\/w.heap.size<=x:=by
 obtain ⟨F',h1,h2⟩:=h.step hs I g;obtain ⟨_,_,h3,_⟩:=hs;exact ⟨F',h1,h3,h2⟩
theorem a3l {w0 w:World} {tv:Value} {S:GY} {F:List Nat} (h:Held w0 w tv S F) (s:Bx) (hs:s.CS/\s.id<4294967296) (ht:S.t<999) :
 Calls Tryz.prog 21 #[tv,QK s] w λe w'=>∃n:Nat,e=.returned (.tuple #[(n:Int),.bool (U2 (Dw S) s)])/\(U2 (Dw S) s=true->1<=n)/\Left w0 w tv S F n (U2 (Dw S) s) (mZ (Dw S) s) w':=by
 by_cases hm:U2 (Dw S) s=true
 ·have hm2:FV S s=true:=by rw [wX h.inv];exact hm
  obtain ⟨k1,k2,k3⟩:=WB h.inv h.good hs ht hm2;refine (uq tv F S s w h.is h.inv h.good ht hs hm2).mono ?_
  rintro e w' ⟨rfl,hst⟩;obtain ⟨F',g1,g2,g3⟩:=h.take hst k1 k2;obtain ⟨-,p2,-⟩:=jd h.inv hm2;refine ⟨_,by rw [hm],λ_=>Nat.one_le_two_pow,_,F',g1,g2,g3,?_,Nat.le_refl _,rfl,by simp [hm],?_⟩
  ·rw [k3];unfold mZ;rw [if_pos hm]
  ·intro A D hb hc;have hn:S.H.mp.lookup s=none:=(Si h.inv.half s).2 λhq=>(h.inv.none s.id).1 p2 s hq rfl
   refine ⟨A+1,D,a0i hb h.inv.half s hc,?_⟩
   rw [hm];simp;omega
 ·have hm1:U2 (Dw S) s=false:=by simpa using hm
  have hm2:FV S s=false:=by rw [wX h.inv];exact hm1
  refine (addNot tv F S s w h.is h.inv (by omega) hm2).mono ?_
  rintro e w' ⟨rfl,hu⟩;refine ⟨0,by rw [hm1];rfl,λhq=>absurd hq hm,?_⟩
  rw [hm1];unfold mZ;rw [if_neg hm];exact Left.none h hu
theorem a0C {w0 w:World} {tv:Value} {S:GY} {F:List Nat} (h:Held w0 w tv S F) (x:Nat) (ht:S.t<999) :
 Calls Tryz.prog 22 #[tv,.int .u32 (x:Int)] w λe w'=>∃n:Nat,e=.returned (.tuple #[(n:Int),.bool (ni (Dw S) x)])/\Left w0 w tv S F n (ni (Dw S) x) (NK (Dw S) x) w':=by
 have hg:=a3k h.inv x;have hh:=a0B (Dw S) x
 cases hx:get S x with
 |none=>
  rw [<-hg,hx] at hh;refine (uw tv F S x w h.is h.inv (by omega) hx).mono ?_
  rintro e w' ⟨rfl,hu⟩;refine ⟨0,by rw [hh];rfl,?_⟩
  rw [hh]
  have hl:NK (Dw S) x=Dw S:=by
   unfold NK;rw [List.filter_eq_self];intro y hy;have:=(h.inv.none x).1 ((get_none h.inv x).2 hx) y hy;simpa using this
  rw [hl];exact Left.none h hu
 |some s=>
  rw [<-hg,hx] at hh;obtain ⟨h1,h2⟩:=(h.inv.get x s).1 hx;obtain ⟨k,hk⟩:=iD h.inv.half h1;obtain ⟨k1,k2,k3⟩:=U1 h.inv h.good hx hk ht;refine (Sj tv F S x k s w h.is h.inv h.good ht hx hk).mono ?_
  rintro e w' ⟨rfl,hst⟩;obtain ⟨F',g1,g2,g3⟩:=h.take hst k1 k2;refine ⟨_,by rw [hh];rfl,_,F',g1,g2,g3,k3,Nat.le_refl _,wY h.inv.half hk,by simp [hh],?_⟩
  intro A D hb hc;refine ⟨A,D+1,tN hb h.inv.half hk (by omega),?_⟩
  rw [hh];simp;omega
end LQ
namespace LQ
open Go.ChangeShapes Go.WideShapes Go.Deep Go.RowKit
open Ps
structure Zw where
 u:Nat
 s:Bx
 x:Int
 y:Int
def Zw.CS (o:Zw):Prop:=o.u<256/\(o.s.CS/\o.s.id<4294967296)/\(-9223372036854775808<=o.x/\o.x<=9223372036854775807)/\(-9223372036854775808<=o.y/\o.y<=9223372036854775807)
def wZ:Kind Zw:={ T:=0,sT:=22,eT:=30,sz:=8,enc:=λo=>[.int .u8 (o.u:Int),o.s.x1,o.s.x2,o.s.y1,o.s.y2,.int .u32 (o.s.id:Int),o.x,o.y],len:=λ_=>rfl,one:=λb u hu=>by simp at hu;rcases hu with rfl | rfl | rfl | rfl | rfl | rfl | rfl | rfl<;>rfl }
def a3m (o:Zw):Value:=.agg #[.int .u8 (o.u:Int),o.s.x1,o.s.x2,o.s.y1,o.s.y2,.int .u32 (o.s.id:Int),o.x,o.y]
def U3 (w:World) (v:Value) (l:List Zw):Prop:=See wZ w v l
theorem a0D {x:Int} (h:(Lit.int .u8 x).wf=true):∃n:Nat,x=(n:Int)/\n<256:=by
 simp [Lit.wf,IntKind.min,IntKind.max,IntKind.signed,IntKind.bits] at h;exact ⟨x.toNat,by omega,by omega⟩
theorem xg {x:Int} (h:(Lit.int .u32 x).wf=true):∃n:Nat,x=(n:Int)/\n<4294967296:=by
 simp [Lit.wf,IntKind.min,IntKind.max,IntKind.signed,IntKind.bits] at h;exact ⟨x.toNat,by omega,by omega⟩
theorem Ns {x:Int} (h:(Lit.int .i64 x).wf=true) : -9223372036854775808<=x/\x<=9223372036854775807:=by
 simp [Lit.wf,IntKind.min,IntKind.max,IntKind.signed,IntKind.bits] at h;omega
theorem Zq {w:World} {v:Value} {rows:List (List Value)} (h:Yj w 8 v rows) (hr:∀r∈rows,∃b:Zw,r=wZ.enc b/\b.CS) :
 ∃l:List Zw,l.length=rows.length/\U3 w v l/\∀b∈l,b.CS:=by
 have:∃l:List Zw,rows=l.map wZ.enc/\∀b∈l,b.CS:=by
  clear h;induction rows with
  |nil=>exact ⟨[],rfl,by simp⟩
  |cons a rows ih=>
   obtain ⟨l,e,hl⟩:=ih λr h=>hr r (by simp [h])
   obtain ⟨b,e1,e2⟩:=hr a (by simp);refine ⟨b::l,by rw [e,e1];rfl,λo ho=>?_⟩
   rcases List.mem_cons.1 ho with rfl | ho
   ·exact e2
   ·exact hl o ho
 obtain ⟨l,rfl,hl⟩:=this;refine ⟨l,by simp,?_,hl⟩
 have:=h.2;rw [List.length_map] at this;unfold U3 See Kind.all;rw [List.flatMap];exact this
theorem dV {H:Type} {enc:TypeId×Value->H} {w:World} {base:Nat} {held:Bool} {fuel:Nat} {v:Value} {x:DataW H×List MemPlace}
 (h:DataW.trod enc Tryz.prog w base (λ_=>true) held fuel 22 [v]=some x) :
 ∃l:List Zw,U3 w v l/\(∀b∈l,b.CS)/\l.length<=maxLen:=by
 obtain ⟨rows,h1,h2,h3⟩:=Yk (size:=8) Tryz.underlying22 (by kernel_rfl) (by decide) (λ_=>rfl) h
 obtain ⟨l,e,h4,h5⟩:=Zq (rows:=rows) h1 (λr hr=>by
  obtain ⟨n,y,hy⟩:=h3 r hr;have hl:r.length=8:=h1.1 r hr;match r,hl with
  | [c0,c1,c2,c3,c4,c5,c6,c7],_=>
  obtain ⟨xs,n1,_,_,_,hxl,hg⟩:=DataW.trod_struct Tryz.underlying30 hy;have k1:Tryz.prog.cellsOf 5=1:=by kernel_rfl
  have k2:Tryz.prog.cellsOf 28=5:=by kernel_rfl
  have k3:Tryz.prog.cellsOf 2=1:=by kernel_rfl
  have k4:Tryz.prog.cellsOf 26=1:=by kernel_rfl
  have g0':DataW.trod enc Tryz.prog w base (λ_=>true) held n1 5 (List.take (Tryz.prog.cellsOf 5) (List.drop 0 [c0,c1,c2,c3,c4,c5,c6,c7]))=xs[0]?:=hg 0 _ rfl;rw [k1] at g0';have g0:DataW.trod enc Tryz.prog w base (λ_=>true) held n1 5 [c0]=xs[0]?:=g0';have g1':DataW.trod enc Tryz.prog w base (λ_=>true) held n1 28 (List.take (Tryz.prog.cellsOf 28) (List.drop 1 [c0,c1,c2,c3,c4,c5,c6,c7]))=xs[1]?:=hg 1 _ rfl;rw [k2] at g1';have g1:DataW.trod enc Tryz.prog w base (λ_=>true) held n1 28 [c1,c2,c3,c4,c5]=xs[1]?:=g1';have g2':DataW.trod enc Tryz.prog w base (λ_=>true) held n1 2 (List.take (Tryz.prog.cellsOf 2) (List.drop 6 [c0,c1,c2,c3,c4,c5,c6,c7]))=xs[2]?:=hg 2 _ rfl;rw [k3] at g2';have g2:DataW.trod enc Tryz.prog w base (λ_=>true) held n1 2 [c6]=xs[2]?:=g2';have g3':DataW.trod enc Tryz.prog w base (λ_=>true) held n1 2 (List.take (Tryz.prog.cellsOf 2) (List.drop 7 [c0,c1,c2,c3,c4,c5,c6,c7]))=xs[3]?:=hg 3 _ rfl;rw [k3] at g3';have g3:DataW.trod enc Tryz.prog w base (λ_=>true) held n1 2 [c7]=xs[3]?:=g3';have xl:xs.length=4:=hxl;rw [Ba (by omega)] at g0 g1 g2 g3;obtain ⟨ys,n2,_,_,_,hyl,hh⟩:=DataW.trod_struct Tryz.underlying28 g1;have i0':DataW.trod enc Tryz.prog w base (λ_=>true) held n2 2 (List.take (Tryz.prog.cellsOf 2) (List.drop 0 [c1,c2,c3,c4,c5]))=ys[0]?:=hh 0 _ rfl;rw [k3] at i0';have i0:DataW.trod enc Tryz.prog w base (λ_=>true) held n2 2 [c1]=ys[0]?:=i0';have i1':DataW.trod enc Tryz.prog w base (λ_=>true) held n2 2 (List.take (Tryz.prog.cellsOf 2) (List.drop 1 [c1,c2,c3,c4,c5]))=ys[1]?:=hh 1 _ rfl;rw [k3] at i1';have i1:DataW.trod enc Tryz.prog w base (λ_=>true) held n2 2 [c2]=ys[1]?:=i1';have i2':DataW.trod enc Tryz.prog w base (λ_=>true) held n2 2 (List.take (Tryz.prog.cellsOf 2) (List.drop 2 [c1,c2,c3,c4,c5]))=ys[2]?:=hh 2 _ rfl;rw [k3] at i2';have i2:DataW.trod enc Tryz.prog w base (λ_=>true) held n2 2 [c3]=ys[2]?:=i2';have i3':DataW.trod enc Tryz.prog w base (λ_=>true) held n2 2 (List.take (Tryz.prog.cellsOf 2) (List.drop 3 [c1,c2,c3,c4,c5]))=ys[3]?:=hh 3 _ rfl;rw [k3] at i3';have i3:DataW.trod enc Tryz.prog w base (λ_=>true) held n2 2 [c4]=ys[3]?:=i3';have i4':DataW.trod enc Tryz.prog w base (λ_=>true) held n2 26 (List.take (Tryz.prog.cellsOf 26) (List.drop 4 [c1,c2,c3,c4,c5]))=ys[4]?:=hh 4 _ rfl;rw [k4] at i4';have i4:DataW.trod enc Tryz.prog w base (λ_=>true) held n2 26 [c5]=ys[4]?:=i4';have yl:ys.length=5:=hyl;rw [Ba (by omega)] at i0 i1 i2 i3 i4;obtain ⟨a0,e0,_,w0⟩:=DataW.trod_int Tryz.underlying5 g0;obtain ⟨a1,e1,_,w1⟩:=DataW.trod_int Tryz.underlying2 i0;obtain ⟨a2,e2,_,w2⟩:=DataW.trod_int Tryz.underlying2 i1;obtain ⟨a3,e3,_,w3⟩:=DataW.trod_int Tryz.underlying2 i2;obtain ⟨a4,e4,_,w4⟩:=DataW.trod_int Tryz.underlying2 i3;obtain ⟨a5,e5,_,w5⟩:=DataW.trod_int Tryz.underlying26 i4;obtain ⟨a6,e6,_,w6⟩:=DataW.trod_int Tryz.underlying2 g2;obtain ⟨a7,e7,_,w7⟩:=DataW.trod_int Tryz.underlying2 g3;injection e0 with e0 _;injection e1 with e1 _;injection e2 with e2 _;injection e3 with e3 _;injection e4 with e4 _;injection e5 with e5 _;injection e6 with e6 _;injection e7 with e7 _;subst e0 e1 e2 e3 e4 e5 e6 e7;obtain ⟨m,rfl,hm⟩:=a0D w0;obtain ⟨k,rfl,hk⟩:=xg w5;exact ⟨⟨m,⟨a1,a2,a3,a4,k⟩,a6,a7⟩,rfl,hm,⟨⟨Ns w1,Ns w2,Ns w3,Ns w4⟩,hk⟩,Ns w6,Ns w7⟩)
 exact ⟨l,h4,h5,by rw [e];exact h2⟩
theorem xq:(Tryz.prog.info? 30).map (λi=>(i.zero,i.size,i.bytes))=some (some (.agg #[.int .u8 0,.int .i64 0,.int .i64 0,.int .i64 0,.int .i64 0,.int .u32 0,.int .i64 0,.int .i64 0]),8,64):=by kernel_rfl
theorem a0E {w:World} {v:Value} {l:List Zw} (h:U3 w v l) (k:Nat) (hk:k<=l.length) :
 ∃A C,(∀w',(Instr.slice 22 v none (some (.int .i64 (k:Int))) none).run Tryz.prog w'=.ok (.slice A k C) w')/\See wZ w (.slice A k C) (l.take k):=by
 obtain ⟨i,hi,-,hz,-⟩:=info_parts xq;obtain ⟨A,C,h1,h2,-⟩:=See.take (K:=wZ) (P:=Tryz.prog) Tryz.underlying22 hi hz h k hk;exact ⟨A,C,h1,h2 w h⟩
def nC (l:List Bx) (o:Zw):Bool:=if o.u % 2=0 then U2 l o.s else ni l o.s.id
def xu (l:List Bx) (o:Zw):List Bx:=if o.u % 2=0 then mZ l o.s else NK l o.s.id
theorem Left.ahead {w0 w W w':World} {tv:Value} {S:GY} {F:List Nat} {n:Nat} {did:Bool} {l:List Bx} (hu:Bj [] w W) (h:Left w0 W tv S F n did l w'):Left w0 w tv S F n did l w':=by
 obtain ⟨S',F',h1,h2,h3,h4⟩:=h;refine ⟨S',F',h1,(hu.mono (by simp)).trans h2,λx hx=>?_,h4⟩
 rcases h3 x hx with g | g
 ·exact .inl g
 ·exact .inr (Bh hu.size g)
theorem a6p {w0 w:World} {tv:Value} {S:GY} {F:List Nat} (h:Held w0 w tv S F) (o:Zw) (ho:o.CS) (ht:S.t<999) :
 Calls Tryz.prog 14 #[tv,a3m o] w λe w'=>∃n:Nat,e=.returned (.tuple #[(n:Int),.bool (nC (Dw S) o)])/\Left w0 w tv S F n (nC (Dw S) o) (xu (Dw S) o) w':=by
 obtain ⟨W,hW,hu0,hq0⟩:=CQ w #[.int .u8 (o.u:Int),o.s.x1,o.s.x2,o.s.y1,o.s.y2,.int .u32 (o.s.id:Int),o.x,o.y] 30;have h1:=h.quiet hu0;obtain ⟨q,_,_,_,_,_,rfl,-⟩:=h.is;have y0:W.cell? w.heap.size=some (.int .u8 (o.u:Int)):=hq0.cell 0;have y1:W.cell? ⟨w.heap.size,1,none⟩=some (.int .i64 o.s.x1):=hq0.cell 1;have y2:W.cell? ⟨w.heap.size,2,none⟩=some (.int .i64 o.s.x2):=hq0.cell 2;have y3:W.cell? ⟨w.heap.size,3,none⟩=some (.int .i64 o.s.y1):=hq0.cell 3;have y4:W.cell? ⟨w.heap.size,4,none⟩=some (.int .i64 o.s.y2):=hq0.cell 4;have y5:W.cell? ⟨w.heap.size,5,none⟩=some (.int .u32 (o.s.id:Int)):=hq0.cell 5;have Gu:=AX hu0;have HW:=AX hW;obtain ⟨r,hr⟩:=AU (o.u % 2);have hr2:r<2:=by rw [<-hr];exact Nat.mod_lt _ (by decide)
 have tm:(o.u:Int).tmod 2=(r:Int):=by rw [<-hr];rfl
 have o8:(o.u:Int)<256:=Ac ho.1;have o0:(0:Int)<=(o.u:Int):=AY _;unfold a3m nC xu;rw [hr];have ha:=a3l h1 o.s ho.2.1 ht;have hd:=a0C h1 o.s.id ht;unfold QK at ha;have HA:=AX ha;have HD:=AX hd;clear hW hu0 hq0 h h1 ha hd hr ho ht;have hr3:r=0\/r=1:=by omega
 rcases hr3 with rfl | rfl
 ·rw [if_pos rfl,if_pos rfl];go_enter Tryz.func14,Tryz.ntmps14
  go_upto_region 1 with fail
  rw [<-HW.out];clear HW;generalize w.heap.size=b at y0 y1 y2 y3 y4 y5 |-;go_wp2_with fail
  go_fit HA.out
  rintro e w' ⟨n,rfl,-,hl⟩;have HL:=AX hl;clear hl;go_wp2_with fail
  go_ret2
  exact ⟨n,rfl,Left.ahead Gu.out HL.out⟩
 ·rw [if_neg (by decide),if_neg (by decide)];go_enter Tryz.func14,Tryz.ntmps14
  go_upto_region 1 with fail
  rw [<-HW.out];clear HW;generalize w.heap.size=b at y0 y1 y2 y3 y4 y5 |-;go_wp2_with fail
  go_fit HD.out
  rintro e w' ⟨n,rfl,hl⟩;have HL:=AX hl;clear hl;go_wp2_with fail
  go_ret2
  exact ⟨n,rfl,Left.ahead Gu.out HL.out⟩
end LQ
namespace LQ
open Go.RowKit
open Ps
open Fv (U6 Ig Ic)
theorem xw {g B T:Nat} (hT:T<=B) (hB:B<=g+1) (hg:B=0\/1<=g):(4*(B+1)+4)*T<=16*g*g+16:=by
 rcases hg with rfl | hg
 ·have:T=0:=by omega
  subst this;simp
 ·have h1:(4*(B+1)+4)*T<=(4*g+12)*(g+1):=Nat.mul_le_mul (by omega) (by omega);have e1:(4*g+12)*(g+1)=4*(g*g)+16*g+12:=by rw [Nat.mul_add,Nat.add_mul,Nat.mul_assoc];omega
  have e3:16*g*g=16*(g*g):=Nat.mul_assoc _ _ _
  have e4:g=1\/2*g<=g*g:=by
   rcases Nat.lt_or_ge g 2 with h | h
   ·exact .inl (by omega)
   ·exact .inr (Nat.mul_le_mul_right _ h)
  rw [e1] at h1;rw [e3];rcases e4 with rfl | e4
  ·omega
  ·omega
theorem nD {S:GY} (h2:S.H.cs.length<=2*(Dw S).length):Pv S*(TL S).length<=16*lg ((Dw S).length+2)*lg ((Dw S).length+2)+16:=by
 have hT:=uD S;obtain ⟨B,hB⟩:=AU (BA S.H.cs.length);obtain ⟨g,hg⟩:=AU (lg ((Dw S).length+2));have hg2:BA ((Dw S).length+1)=g:=hg;have hlt:=Di ((Dw S).length+1);have hlc:=Di S.H.cs.length;rw [hg2] at hlt;rw [hB] at hlc
 have h3:B<=g+1:=by
  rw [<-hB];refine BP _ _ ?_
  rw [Nat.pow_succ];omega
 have h4:B=0\/1<=g:=by
  rcases Nat.eq_zero_or_pos g with h | h
  ·subst h;simp at hlt
  ·exact .inr h
 unfold Pv;rw [hB,hg];exact xw (by rw [hB] at hT;exact hT) h3 h4
theorem xA {S:GY} (I:EW Bx.id S):S.H.cs.length<=S.t:=Bh (Ps.ET.len I.half) I.al
theorem a0F {L:List Bx} {b:Bx} (h:∀u∈L,u.id≠b.id):(λy=>if y=b.id then some b else (if y=b.id then none else Ig L y))=Ig (L++[b])/\(Ig L b.id).isSome=false:=by
 have hn:Ig L b.id=none:=by
  unfold Ig;rw [List.find?_eq_none];intro u hu;simpa using h u hu
 refine ⟨funext λy=>?_,by rw [hn];rfl⟩
 unfold Ig;rw [List.find?_append];by_cases e:y=b.id
 ·subst e;have hn2:L.find? (λu=>u.id==b.id)=none:=hn;simp [hn2]
 ·simp only [if_neg e];have e2:(b.id==y)=false:=by simpa using λh=>e h.symm
  cases hf:L.find? (λu=>u.id==y) with
  |some u=>simp
  |none=>simp [e2]
theorem xB {L:List Bx} (hn:(L.map Bx.id).Nodup) (x:Nat):(λy=>if y=x then none else Ig L y)=Ig (NK L x)/\(NK L x).length=if (Ig L x).isSome then L.length - 1 else L.length:=by
 constructor
 ·funext y
  unfold Ig NK;rw [List.find?_filter];by_cases e:y=x
  ·subst e;rw [if_pos rfl];symm
   rw [List.find?_eq_none];intro u _;by_cases h:u.id=y<;>simp [h]
  ·rw [if_neg e];congr 1
   funext u
   by_cases h:u.id=y
   ·simp [h,e]
   ·simp [h]
 ·induction L with
  |nil=>rfl
  |cons a L ih=>
   rw [List.map_cons,List.nodup_cons] at hn;have ih:=ih hn.2;unfold NK Ig at ih |-;rw [List.filter_cons,List.find?_cons];by_cases e:a.id=x
   ·have e1:(a.id != x)=false:=by simp [e]
    have e2:(a.id==x)=true:=by simp [e]
    have hf:(L.filter λy=>y.id != x)=L:=by
     rw [List.filter_eq_self];intro u hu;have:u.id≠a.id:=λh=>hn.1 (h ▸ List.mem_map_of_mem hu)
     simp;omega
    rw [e1,e2];simp [hf]
   ·have e1:(a.id != x)=true:=by simp [e]
    have e2:(a.id==x)=false:=by simp [e]
    rw [e1,e2];simp only [if_true,List.length_cons];rw [ih]
    cases hf:L.find? (λy=>y.id==x) with
    |none=>rfl
    |some u=>
     have:=List.length_pos_of_mem (List.mem_of_find?_eq_some hf);simp;omega
def KX (L:List Bx) (p:Bx->Bool) (left:Nat->Bool) (ss:List Nat):Prop:=ss.Nodup/\∀x,x∈ss↔∃y,Ig L x=some y/\p y=true/\left x=false
theorem KX.start (L:List Bx) (p:Bx->Bool):KX L p (λx=>(Ig L x).isSome) []:=
 ⟨List.nodup_nil,λx=>by cases h:Ig L x<;>simp [h]⟩
theorem KX.hit {L:List Bx} {p:Bx->Bool} {left:Nat->Bool} {ss:List Nat} (h:KX L p left ss) {x:Nat} {y:Bx} (hx:left x=true) (hf:Ig L x=some y) (hp:p y=true):KX L p (λz=>left z&&z != x) (ss++[x]):=by
 have hn:x∉ss:=λhm=>by obtain ⟨_,_,_,h3⟩:=(h.2 x).1 hm;rw [hx] at h3;cases h3
 refine ⟨List.nodup_append.2 ⟨h.1,by simp,λa ha b hb=>?_⟩,λz=>?_⟩
 ·simp at hb;subst hb;exact λe=>hn (e ▸ ha)
 ·rw [List.mem_append,h.2 z,List.mem_singleton];by_cases e:z=x
  ·subst e;simp [hf,hp]
  ·simp [e]
theorem KX.miss {L:List Bx} {p:Bx->Bool} {left:Nat->Bool} {ss:List Nat} (h:KX L p left ss) {x:Nat} {y:Bx} (hf:Ig L x=some y) (hp:p y=false):KX L p (λz=>left z&&z != x) ss:=by
 refine ⟨h.1,λz=>?_⟩
 rw [h.2 z];by_cases e:z=x
 ·subst e;simp [hf,hp]
 ·simp [e]
theorem KX.done {L:List Bx} {x:Int} {left:Nat->Bool} {ss:List Nat} (h:KX L (λb=>Es b.x1 b.x2 x) left ss) (hn:(L.map Bx.id).Nodup) (hl:∀z,left z=false):ss.length=(Ea (L.map Ic) x).length:=by
 unfold Ea;rw [EF];refine List.Perm.length_eq ?_
 have hnd:(((L.map Ic).filter λs=>Es s.lo s.hi x).map Sp.id).Nodup:=by
  have h1:((L.map Ic).map Sp.id).Nodup:=by rw [Fv.Xl];exact hn
  exact h1.sublist (List.filter_sublist.map _)
 refine (List.perm_ext_iff_of_nodup h.1 hnd).2 λz=>?_
 rw [h.2 z,List.mem_map];constructor
 ·rintro ⟨y,h1,h2,-⟩;obtain ⟨m1,m2⟩:=(show y∈L/\y.id=z from ⟨List.mem_of_find?_eq_some h1,by simpa using List.find?_some h1⟩);exact ⟨Ic y,List.mem_filter.2 ⟨List.mem_map_of_mem m1,h2⟩,m2⟩
 ·rintro ⟨s,hs,e⟩;obtain ⟨h1,h2⟩:=List.mem_filter.1 hs;obtain ⟨y,hy,rfl⟩:=List.mem_map.1 h1;refine ⟨y,?_,h2,hl z⟩
  have e':y.id=z:=e;unfold Ig
  cases hf:L.find? (λu=>u.id==z) with
  |none=>
   rw [List.find?_eq_none] at hf;have:=hf y hy;simp [e'] at this
  |some t=>
   have m1:=List.mem_of_find?_eq_some hf;have m2:=List.find?_some hf;simp at m2;rw [Ur hn hy m1 (e'.trans m2.symm)]
end LQ
namespace LQ
open Go.RowKit
def B1:Bx:=⟨0,2,0,3,1⟩
def B2:Bx:=⟨1,4,1,2,2⟩
theorem WC {l m:List Bx} (h:l.Perm m) (x y:Int):Dq l x y=Dq m x y:=by
 unfold Dq;rw [Bool.eq_iff_iff,List.any_eq_true,List.any_eq_true];constructor
 ·rintro ⟨b,hb,e⟩;exact ⟨b,h.mem_iff.1 hb,e⟩
 ·rintro ⟨b,hb,e⟩;exact ⟨b,h.mem_iff.2 hb,e⟩
theorem dW {l m:List Bx} (h:l.Perm m):GN l=GN m:=Zi (WC h)
theorem nG {l m:List Bx} (h:l.Perm m):IL l=IL m:=dD (WC h)
theorem XV {l:List Bx} {xs ys:List Int} (hxs:xs.Pairwise (· < ·)) (hys:ys.Pairwise (· < ·)) (mx:∀v,v∈xs↔v∈Gg l) (my:∀v,v∈ys↔v∈BX l)
 (hx:∀v∈xs,-9223372036854775808<=v/\v<=9223372036854775807) (hy:∀v∈ys,-9223372036854775808<=v/\v<=9223372036854775807):GN l=oJ l xs ys:=oM hxs hys mx my hx hy
theorem a8c:GN [B1]=6:=by
 rw [XV (xs:=[0,2]) (ys:=[0,3]) (by decide) (by decide) (by intro v;simp [Gg,B1,Bx.counts]) (by intro v;simp [BX,B1,Bx.counts]) (by decide) (by decide)];decide
theorem a8d:GN [B2]=3:=by
 rw [XV (xs:=[1,4]) (ys:=[1,2]) (by decide) (by decide) (by intro v;simp [Gg,B2,Bx.counts]) (by intro v;simp [BX,B2,Bx.counts]) (by decide) (by decide)];decide
theorem a6q:GN [B1,B2]=8:=by
 rw [XV (xs:=[0,1,2,4]) (ys:=[0,1,2,3]) (by decide) (by decide) (by intro v;simp [Gg,B1,B2,Bx.counts];omega) (by intro v;simp [BX,B1,B2,Bx.counts];omega) (by decide) (by decide)];decide
instance (l:List Bx) (p q r s:Int):Decidable (Within l p q r s):=by unfold Within;infer_instance
theorem WE {l:List Bx} (n:Int) (h0:0<=n) (hn:n<9223372036854775807) (h1:Within l 0 n 0 n) (h2:Within (l.map Ii) 0 n 0 n):IL l=Vm l 0 n 0 (n+1)+Vm (l.map Ii) 0 n 0 (n+1):=by
 unfold IL JL;rw [Zk h1 (by omega) h0 (by omega) (by omega) h0 (by omega),Zk h2 (by omega) h0 (by omega) (by omega) h0 (by omega)]
theorem a8e:IL [B1]=10:=by rw [WE 3 (by decide) (by decide) (by decide) (by decide)];decide
theorem a8f:IL [B2]=8:=by rw [WE 4 (by decide) (by decide) (by decide) (by decide)];decide
theorem a3n:uF [B1,B2] 2 2 = [1,2]:=by
 have e:([B1,B2].filter λb=>inB b 2 2).map Bx.id = [1,2]:=by decide
 unfold uF;rw [e];exact List.mergeSort_of_pairwise (by decide)
theorem a0G:uF [B1,B2] 3 3 = []:=by
 have e:([B1,B2].filter λb=>inB b 3 3).map Bx.id = []:=by decide
 unfold uF;rw [e];simp [FX]
theorem a6r:B1.CS/\B2.CS:=by unfold Bx.CS;decide
