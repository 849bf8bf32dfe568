/- boxes.list, Area, Rim. Chapter 25's examples, plainly. Boxes, said of a list: what may be added, -/
import Derived.Test.YtkbaaonchdeneaaGreatPb35
import Derived.Test.YtkbaaonchdeneaaGreatPb51
set_option maxHeartbeats 2000000
set_option maxRecDepth 100000
namespace Go.Proofs.YtkbaaonchdeneaaGreat.GN
open Go.RowKit Go.Shelf Go.Sort Go.Lib
open Go.Proofs.YtkbaaonchdeneaaGreat.EI (Cc CJ)
open Go.Proofs.YtkbaaonchdeneaaGreat.Ps
def Qj (a b:Bx):Int:=Et a.id b.id
theorem GI (a b:Bx):Qj a b<0↔a.id<b.id:=by
 unfold Qj Et;by_cases h1:(a.id:Int)<b.id
 ·simp [h1];omega
 ·by_cases h2:(b.id:Int)<a.id
  ·simp [h1,h2];omega
  ·simp [h1,h2];omega
theorem zL:SWO (ltOf Qj) where
 irrefl x:=by unfold ltOf;simp [GI]
 trans x y z h1 h2:=by unfold ltOf at *;simp [GI] at *;omega
 ntrans x y z h1 h2:=by unfold ltOf at *;simp [GI] at *;omega
theorem gG (s t:Bx) (w:World):Calls Tryz.prog 135 #[.agg (G5.enc s).toArray,.agg (G5.enc t).toArray] w fun e w'=>e=.returned (.int .i64 (Qj s t))∧∃os,w'=grow w os:=by
 obtain ⟨a1,a2,a3,a4,a⟩:=s;obtain ⟨b1,b2,b3,b4,b⟩:=t;have H1:=AQ (fun w=>UO (a:Int) (b:Int) w);show Calls Tryz.prog 135 #[.agg #[.int .i64 a1,.int .i64 a2,.int .i64 a3,.int .i64 a4,.int .u32 (a:Int)],.agg #[.int .i64 b1,.int .i64 b2,.int .i64 b3,.int .i64 b4,.int .u32 (b:Int)]] w fun e w'=>e=.returned (.int .i64 (Et (a:Int) (b:Int)))∧∃os,w'=grow w os
 go_enter Tryz.func135,Tryz.ntmps135
 go_wp2_with fail
 (with_reducible refine (H1.out _).mono ?_);rintro e w' ⟨rfl,rfl⟩;go_wp2_with fail
 go_ret
 exact ⟨rfl,_,by rw [alloc_eq_grow,alloc_eq_grow,grow_grow]⟩
theorem Qk (base:Nat) (v:Value) (l:List Bx) (w:World) (h:G5.row w base v l) (hb:l.length<1000000) :
 Calls Tryz.prog 134 #[v,.func (.func 135) #[] #[]] w fun e w'=>
  e=.returned (.tuple #[])∧Bf (blk v) w w'∧∃l':List Bx,l'.Perm l∧l'.Pairwise (fun a b=>a.id≤b.id)∧G5.row w' base v l':=by
 rcases h.2 with ⟨rfl,hn⟩ | ⟨g,cap,cur,rfl,h3⟩
 ·have:=AnyF.slices_SortFunc_none (L:=Tryz.sortB) none 0 (.func (.func 135) #[] #[]) w;refine Calls.mono this ?_
  rintro e w' ⟨rfl,rfl⟩;have hl:l = []:=List.eq_nil_of_length_eq_zero hn;subst hl;exact ⟨rfl,Bf.refl _ _,[],List.Perm.refl _,List.Pairwise.nil,h⟩
 ·haveI:Inhabited Bx:=⟨⟨0,0,0,0,0⟩⟩
  have:=ZB Tryz.sortB G5 (by decide) Tryz.isAgg28 Tryz.sizeOf28 135 Qj zL (enters_of Tryz.func135 (by kernel_rfl) rfl) gG base g l.length cap l w h rfl hb;refine Calls.mono this ?_
  rintro e w' ⟨rfl,h4,l',h5,h6,h7⟩;refine ⟨rfl,h4,l',h5,h6.imp ?_,h7⟩
  intro a b hab;rw [GI] at hab;omega
theorem own_base {base:Nat} {w:World} {v:Value} {l:List Bx} (h:G5.row w base v l):∀k∈blk v,base≤k:=BD h
def Iy (S:Ec) (L:List Bx):Prop:=L.Perm (Cj S)∧L.Pairwise (fun a b=>a.id≤b.id)
theorem VL (tv:Value) (F:List Nat) (S:Ec) (w:World) (H:JO w tv F S) (I:Dl Bx.id S) (ht:S.t<999) :
 Calls Tryz.prog 77 #[tv] w fun e w'=>∃v L,e=.returned v∧Iy S L∧See G5 w' v L∧Bf [] w w':=by
 obtain ⟨q,hv,dv,av,Fh,Fd,rfl,H,hF⟩:=H;obtain ⟨h,rfl⟩:=Cc.ptr H.half;obtain ⟨h0,-⟩:=H.head.cells3;have HN:=AQ (Rt q h w h0);have hlv:=Ji I;have hcs:=Ps.FK.len I.half;have hal:=I.al;have hl:=EI.allH _ _ _ w H.half I.half.lt (by omega);have HL:=AQ hl;have HLV:=AQ (show (live S.H.al S.H.cs).length<1000000 by unfold Cj at hlv;omega);unfold Iy;clear H hF hl I hlv hcs hal ht;go_enter Tryz.func77,Tryz.ntmps77
 go_wp2_with fail
 (with_reducible refine HN.out.mono ?_);rintro e w' ⟨rfl,rfl⟩;go_wp2_with fail
 (with_reducible refine HL.out.mono ?_);rintro e w1 ⟨A,C,rfl,hr,hu⟩;have HS:=AQ (Qk _ _ _ w1 hr HLV.out);have HG:=AQ (own_base hr);have HU:=AQ hu;clear hr hu;go_wp2_with fail
 (with_reducible refine HS.out.mono ?_);rintro e w2 ⟨rfl,hu2,L,hp,hs,hr⟩;have HR:=Ap hu2 hp hs hr;clear hu2 hp hs hr;go_wp2_with fail
 go_ret
 refine ⟨_,L,rfl,⟨HR.2.1,HR.2.2.1⟩,See.BX HR.2.2.2,?_⟩
 exact HU.out.trans' HR.1 fun x hx=>.inr (HG.out x hx)
theorem zM (tv:Value) (F:List Nat) (S:Ec) (w:World) (H:JO w tv F S) (I:Dl Bx.id S) (ht:S.t<999) (hb:∀b∈Cj S,b.BO) :
 Calls Tryz.prog 24 #[tv] w fun e w'=>∃L,Iy S L∧I8 L w e w':=by
 obtain ⟨W,hW⟩:=AO (w.alloc (.cells #[.int .u64 0,.int .u64 0] 52));have hu0:Bf [] w W:=by rw [←hW];exact (Bf.refl _ _).alloc _
 have hz:Dy W w.heap.size 0:=by rw [←hW];exact heap_alloc_new _ _
 have HL:=AQ (VL tv F S W (H.upd hu0 (by simp)) I ht);have hlv:=Ji I;have HB:=AQ (fun (L:List Bx) (h:Iy S L) (w:World) (v:Value) (hs:See G5 w v L)=>QU v L w hs (by rw [h.1.length_eq];omega) (fun b hb'=>hb b (h.1.mem_iff.1 hb')));have HW:=AQ hW;have ET:=Ai hu0 hz;unfold I8;clear H I hlv hb ht hW hu0 hz;go_enter Tryz.func24,Tryz.ntmps24
 go_upto_region 1 with fail
 rw [HW.out];go_wp2_with fail
 (with_reducible refine HL.out.mono ?_);rintro e w1 ⟨v,L,rfl,hL,hs,hu⟩;have HB1:=AQ (HB.out L hL w1 v hs);have RX:=Ai hL hu;clear hL hs hu;go_wp2_with fail
 (with_reducible refine HB1.out.mono ?_);rintro e w2 ⟨rfl,hu2⟩;have hz2:Dy w2 w.heap.size 0:=(ET.2.Bh RX.2).Bh hu2;have h2:w2.heap[w.heap.size]? = some (.cells #[.int .u64 0,.int .u64 0] 52 (0,0)):=hz2;have r0:w2.cell? ⟨w.heap.size,0,none⟩=some (.int .u64 0):=by simp [World.cell?,h2]
 have r1:w2.cell? ⟨w.heap.size,1,none⟩=some (.int .u64 0):=by simp [World.cell?,h2]
 have f0:w2.frozen? ⟨w.heap.size,0,none⟩=false:=by simp [World.frozen?,h2]
 have f1:w2.frozen? ⟨w.heap.size,1,none⟩=false:=by simp [World.frozen?,h2]
 obtain ⟨h,lo,hv,hh,hlo⟩:=DX (BZ L).toNat;obtain ⟨EE,hEE⟩:∃EE:Nat,X9 L=EE:=⟨_,rfl⟩;rw [hv,hEE];have Gv:=AQ (hz2.set hh hlo);have HE:=Ap hv hEE hh hlo;have Yy:=AQ (show Bf [] w ((w2.setCell ⟨w.heap.size,0,none⟩ (.int .u64 (h:Int))).setCell ⟨w.heap.size,1,none⟩ (.int .u64 (lo:Int))) from ((((ET.1.trans RX.2).trans hu2).setCell (.inr (Nat.le_refl _)) _).setCell (.inr (Nat.le_refl _)) _));clear hz2 h2 hu2 hv hEE hh hlo;go_wp2_with fail
 obtain ⟨e0,e1,-⟩:=Gv.out.cells;rw [←HE.2.2.1] at e0;rw [←HE.2.2.2] at e1;try rw [Exit.noGoto_ret]
 exact bodyPost_ret (v:=.tuple #[.agg #[.int .u64 (h:Int),.int .u64 (lo:Int)],.int .i64 (EE:Int)]) (by simp [results,Tryz.results24,go_sem,e0,e1]) rfl ⟨L,RX.1,by rw [HE.1,HE.2.1],Yy.out⟩
theorem a5r (tv:Value) (F:List Nat) (S:Ec) (w:World) (H:JO w tv F S) (I:Dl Bx.id S) (ht:S.t<999) (hb:∀b∈Cj S,b.BO) :
 Calls Tryz.prog 25 #[tv] w fun e w'=>∃L,Iy S L∧Kr L w e w':=by
 obtain ⟨W,hW⟩:=AO (w.alloc (.cells #[.int .u64 0,.int .u64 0] 52));have hu0:Bf [] w W:=by rw [←hW];exact (Bf.refl _ _).alloc _
 have hz:Dy W w.heap.size 0:=by rw [←hW];exact heap_alloc_new _ _
 have HL:=AQ (VL tv F S W (H.upd hu0 (by simp)) I ht);have hlv:=Ji I;have HB:=AQ (fun (L:List Bx) (h:Iy S L) (w:World) (v:Value) (hs:See G5 w v L)=>Yd v L w hs (by rw [h.1.length_eq];omega) (fun b hb'=>hb b (h.1.mem_iff.1 hb')));have HW:=AQ hW;have ET:=Ai hu0 hz;unfold Kr;clear H I hlv hb ht hW hu0 hz;go_enter Tryz.func25,Tryz.ntmps25
 go_upto_region 1 with fail
 rw [HW.out];go_wp2_with fail
 (with_reducible refine HL.out.mono ?_);rintro e w1 ⟨v,L,rfl,hL,hs,hu⟩;have HB1:=AQ (HB.out L hL w1 v hs);have RX:=Ai hL hu;clear hL hs hu;go_wp2_with fail
 (with_reducible refine HB1.out.mono ?_);rintro e w2 ⟨rfl,hu2⟩;have hz2:Dy w2 w.heap.size 0:=(ET.2.Bh RX.2).Bh hu2;have h2:w2.heap[w.heap.size]? = some (.cells #[.int .u64 0,.int .u64 0] 52 (0,0)):=hz2;have r0:w2.cell? ⟨w.heap.size,0,none⟩=some (.int .u64 0):=by simp [World.cell?,h2]
 have r1:w2.cell? ⟨w.heap.size,1,none⟩=some (.int .u64 0):=by simp [World.cell?,h2]
 have f0:w2.frozen? ⟨w.heap.size,0,none⟩=false:=by simp [World.frozen?,h2]
 have f1:w2.frozen? ⟨w.heap.size,1,none⟩=false:=by simp [World.frozen?,h2]
 obtain ⟨h,lo,hv,hh,hlo⟩:=DX (DU L).toNat;obtain ⟨EE,hEE⟩:∃EE:Nat,Yx L=EE:=⟨_,rfl⟩;rw [hv,hEE];have Gv:=AQ (hz2.set hh hlo);have HE:=Ap hv hEE hh hlo;have Yy:=AQ (show Bf [] w ((w2.setCell ⟨w.heap.size,0,none⟩ (.int .u64 (h:Int))).setCell ⟨w.heap.size,1,none⟩ (.int .u64 (lo:Int))) from ((((ET.1.trans RX.2).trans hu2).setCell (.inr (Nat.le_refl _)) _).setCell (.inr (Nat.le_refl _)) _));clear hz2 h2 hu2 hv hEE hh hlo;go_wp2_with fail
 obtain ⟨e0,e1,-⟩:=Gv.out.cells;rw [←HE.2.2.1] at e0;rw [←HE.2.2.2] at e1;try rw [Exit.noGoto_ret]
 exact bodyPost_ret (v:=.tuple #[.agg #[.int .u64 (h:Int),.int .u64 (lo:Int)],.int .i64 (EE:Int)]) (by simp [results,Tryz.results25,go_sem,e0,e1]) rfl ⟨L,RX.1,by rw [HE.1,HE.2.1],Yy.out⟩
end Go.Proofs.YtkbaaonchdeneaaGreat.GN
namespace Go.Proofs.YtkbaaonchdeneaaGreat.GN
open Go.RowKit
open Go.Proofs.YtkbaaonchdeneaaGreat.Nm (place)
open Go.Proofs.YtkbaaonchdeneaaGreat.Ps
theorem gI:Dl Bx.id (P0:Ec):=inv0 EI.wZ
theorem gJ:EI.Good (Cj (P0:Ec)):=⟨by intro s hs;simp [Cj,P0,live,CZ] at hs,by decide,by intro s hs;simp [Cj,P0,live,CZ] at hs⟩
theorem Ws {S:Ec} (I:Dl Bx.id S) {s:Bx} (h1:(s.x1≤s.x2∧s.y1≤s.y2)) (h2:∀u∈Cj S,u.id≠s.id):CY S s=true:=by
 unfold CY;rw [(I.none s.id).2 h2,decide_eq_true h1];rfl
theorem kX {S:Ec} (I:Dl Bx.id S) {s:Bx} (h:¬(s.x1≤s.x2∧s.y1≤s.y2)∨∃u∈Cj S,u.id=s.id):CY S s=false:=by
 unfold CY;rcases h with h | ⟨u,hu,e⟩
 ·rw [decide_eq_false h];rfl
 ·obtain ⟨i,hi,-⟩:=I.ofs u hu;rw [e] at hi;rw [hi];simp
theorem MG {S:Ec} (I:Dl Bx.id S) {s:Bx} (h:CY S s=true):(s.x1≤s.x2∧s.y1≤s.y2)∧place S.N s.id=none∧∀u∈Cj S,u.id≠s.id:=by
 unfold CY at h;rw [Bool.and_eq_true] at h;have h2:place S.N s.id=none:=by simpa using h.2
 exact ⟨by simpa using h.1,h2,(I.none s.id).1 h2⟩
theorem zN {α:Type} (l:List α) (t:Nat) (h1:∀j,j<t→l.length.testBit j=true) (h2:l.length.testBit t=false):Bl (setB l)=t:=by
 obtain ⟨g1,g2⟩:=Iq l;rcases Nat.lt_trichotomy (Bl (setB l)) t with h | h | h
 ·rw [h1 _ h] at g2;cases g2
 ·exact h
 ·rw [g1 _ h] at h2;cases h2
theorem KE {S:Ec} (I:Dl Bx.id S) (hg:EI.Good (Cj S)) {s:Bx} (hs:s.BO∧s.id<4294967296) (ht:S.t<999) (h:CY S s=true) :
 Dl Bx.id (U5 Bx.id S s)∧EI.Good (Cj (U5 Bx.id S s))∧Cj (U5 Bx.id S s)=Cj S++[s]:=by
 obtain ⟨h1,h2,h3⟩:=MG I h;refine ⟨ZU I s h2 (by omega),?_,J8 I s⟩
 rw [J8 I];exact TS hg hs h1 h3
theorem Js {S:Ec} (I:Dl Bx.id S) (hg:EI.Good (Cj S)) {x k:Nat} {s:Bx} (hs:get S x=some s) (hk:S.H.mp.lookup s=some (k:Int)) (ht:S.t<999) :
 Dl Bx.id (KX S x s k)∧EI.Good (Cj (KX S x s k))∧Cj (KX S x s k)=(Cj S).filter fun y=>y.id != x:=by
 have hl:=TR I hs hk;refine ⟨P6 I hs hk (by omega),?_,hl⟩
 rw [hl];exact hg.sub List.filter_sublist
structure Held (w0 w:World) (tv:Value) (S:Ec) (F:List Nat):Prop where
 is:JO w tv F S
 inv:Dl Bx.id S
 good:EI.Good (Cj S)
 new:∀x∈F,w0.heap.size≤x
 upd:Bf [] w0 w
theorem Held.step {w0 w w':World} {tv:Value} {S S':Ec} {F:List Nat} (h:Held w0 w tv S F) (hs:OU w w' tv F S') (I:Dl Bx.id S') (g:EI.Good (Cj S')):∃F',Held w0 w' tv S' F'∧∀x∈F',x∈F∨w.heap.size≤x:=by
 obtain ⟨F',h1,h2,h3⟩:=hs;refine ⟨F',⟨h1,I,g,fun x hx=>?_,h.upd.trans' h2 (fun x hx=>.inr (h.new x hx))⟩,h3⟩
 rcases h3 x hx with k | k
 ·exact h.new x k
 ·exact Bd h.upd.size k
theorem Held.quiet {w0 w w':World} {tv:Value} {S:Ec} {F:List Nat} (h:Held w0 w tv S F) (hu:Bf [] w w'):Held w0 w' tv S F:=
 ⟨h.is.upd hu (by simp),h.inv,h.good,h.new,h.upd.trans hu⟩
end Go.Proofs.YtkbaaonchdeneaaGreat.GN
namespace Go.Proofs.YtkbaaonchdeneaaGreat.GN
open Go.RowKit
open Go.Proofs.YtkbaaonchdeneaaGreat.Nm (place)
open Go.Proofs.YtkbaaonchdeneaaGreat.Ps
def Hu (l:List Bx) (s:Bx):Bool:=decide (s.x1≤s.x2∧s.y1≤s.y2)&&decide (∀u∈l,u.id≠s.id)
def O7 (l:List Bx) (s:Bx):List Bx:=if Hu l s then l++[s] else l
def Rh (l:List Bx) (x:Nat):Bool:=l.any fun y=>y.id==x
def J4 (l:List Bx) (x:Nat):List Bx:=l.filter fun y=>y.id != x
def GL (l:List Bx) (x:Nat):Option Bx:=l.find? fun y=>y.id==x
theorem Ql {S:Ec} (I:Dl Bx.id S) (s:Bx):CY S s=Hu (Cj S) s:=by
 unfold CY Hu;congr 1
 rw [Bool.eq_iff_iff,Option.isNone_iff_eq_none,I.none,decide_eq_true_iff]
theorem Qm {S:Ec} (I:Dl Bx.id S) (x:Nat):get S x=GL (Cj S) x:=by
 unfold GL
 cases hg:get S x with
 |none=>
  symm
  rw [List.find?_eq_none];intro y hy;have:=(I.none x).1 ((get_none I x).2 hg) y hy;simpa using this
 |some s=>
  obtain ⟨h1,h2⟩:=(I.get x s).1 hg;symm
  cases hf:(Cj S).find? fun y=>y.id==x with
  |none=>
   rw [List.find?_eq_none] at hf;have:=hf s h1;simp [h2] at this
  |some t=>
   have h3:=List.mem_of_find?_eq_some hf;have h4:=List.find?_some hf;simp at h4;rw [P7 I.names h1 h3 (h2.trans h4.symm)]
theorem Uk (l:List Bx) (x:Nat):Rh l x=(GL l x).isSome:=by
 unfold Rh GL;rw [Bool.eq_iff_iff,List.any_eq_true,List.find?_isSome]
theorem Qn {S:HS Bx} (I:FK S) {s:Bx} {k:Nat} (hk:S.mp.lookup s=some (k:Int)):(Dx S s k).wk=S.wk+EI.OT S s:=by
 have h1:=(I.core.drop1 hk).Oi;rw [Je I.core hk] at h1;have h1':(JA S.mp s).length=(Di (DN (view S) s)).length:=h1;rw [VX I hk];unfold EI.OT;rw [h1',IL]
structure After (S S':Ec) (n:Nat) (did:Bool) (l:List Bx):Prop where
 lv:Cj S'=l
 t:S'.t≤S.t+1
 wk:S'.H.wk=S.H.wk+n
 no:did=false→n=0
 bd:∀A D,uo S.H A D→S.H.cs.length<401→∃A' D',uo S'.H A' D'∧A'+D'=A+D+did.toNat
def Left (w0 w:World) (tv:Value) (S:Ec) (F:List Nat) (n:Nat) (did:Bool) (l:List Bx) (w':World):Prop:=
 ∃S' F',Held w0 w' tv S' F'∧Bf F w w'∧(∀x∈F',x∈F∨w.heap.size≤x)∧After S S' n did l
theorem Left.none {w0 w w':World} {tv:Value} {S:Ec} {F:List Nat} (h:Held w0 w tv S F) (hu:Bf [] w w'):Left w0 w tv S F 0 false (Cj S) w':=
 ⟨S,F,h.quiet hu,hu.mono (by simp),fun _ hx=>.inl hx,rfl,Nat.le_succ _,rfl,fun _=>rfl,fun A D hb _=>⟨A,D,hb,rfl⟩⟩
theorem Held.take {w0 w w':World} {tv:Value} {S S':Ec} {F:List Nat} (h:Held w0 w tv S F) (hs:OU w w' tv F S') (I:Dl Bx.id S') (g:EI.Good (Cj S')):∃F',Held w0 w' tv S' F'∧Bf F w w'∧∀x∈F',x∈F∨w.heap.size≤x:=by
 obtain ⟨F',h1,h2⟩:=h.step hs I g;obtain ⟨_,_,h3,_⟩:=hs;exact ⟨F',h1,h3,h2⟩
theorem Vf {w0 w:World} {tv:Value} {S:Ec} {F:List Nat} (h:Held w0 w tv S F) (s:Bx) (hs:s.BO∧s.id<4294967296) (ht:S.t<999) :
 Calls Tryz.prog 21 #[tv,L8 s] w fun e w'=>∃n:Nat,e=.returned (.tuple #[.int .i64 (n:Int),.bool (Hu (Cj S) s)])∧(Hu (Cj S) s=true→1≤n)∧Left w0 w tv S F n (Hu (Cj S) s) (O7 (Cj S) s) w':=by
 by_cases hm:Hu (Cj S) s=true
 ·have hm2:CY S s=true:=by rw [Ql h.inv];exact hm
  obtain ⟨k1,k2,k3⟩:=KE h.inv h.good hs ht hm2;refine (ZY tv F S s w h.is h.inv h.good ht hs hm2).mono ?_
  rintro e w' ⟨rfl,hst⟩;obtain ⟨F',g1,g2,g3⟩:=h.take hst k1 k2;obtain ⟨-,p2,-⟩:=MG h.inv hm2;refine ⟨_,by rw [hm],fun _=>Nat.one_le_two_pow,_,F',g1,g2,g3,?_,Nat.le_refl _,rfl,by simp [hm],?_⟩
  ·rw [k3];unfold O7;rw [if_pos hm]
  ·intro A D hb hc;have hn:S.H.mp.lookup s=none:=(QJ h.inv.half s).2 fun hq=>(h.inv.none s.id).1 p2 s hq rfl
   refine ⟨A+1,D,ZW hb h.inv.half s hc,?_⟩
   rw [hm];simp;omega
 ·have hm1:Hu (Cj S) s=false:=by simpa using hm
  have hm2:CY S s=false:=by rw [Ql h.inv];exact hm1
  refine (addNot tv F S s w h.is h.inv (by omega) hm2).mono ?_
  rintro e w' ⟨rfl,hu⟩;refine ⟨0,by rw [hm1];rfl,fun hq=>absurd hq hm,?_⟩
  rw [hm1];unfold O7;rw [if_neg hm];exact Left.none h hu
theorem QV {w0 w:World} {tv:Value} {S:Ec} {F:List Nat} (h:Held w0 w tv S F) (x:Nat) (ht:S.t<999) :
 Calls Tryz.prog 22 #[tv,.int .u32 (x:Int)] w fun e w'=>∃n:Nat,e=.returned (.tuple #[.int .i64 (n:Int),.bool (Rh (Cj S) x)])∧Left w0 w tv S F n (Rh (Cj S) x) (J4 (Cj S) x) w':=by
 have hg:=Qm h.inv x;have hh:=Uk (Cj S) x
 cases hx:get S x with
 |none=>
  rw [←hg,hx] at hh;refine (XG tv F S x w h.is h.inv (by omega) hx).mono ?_
  rintro e w' ⟨rfl,hu⟩;refine ⟨0,by rw [hh];rfl,?_⟩
  rw [hh]
  have hl:J4 (Cj S) x=Cj S:=by
   unfold J4;rw [List.filter_eq_self];intro y hy;have:=(h.inv.none x).1 ((get_none h.inv x).2 hx) y hy;simpa using this
  rw [hl];exact Left.none h hu
 |some s=>
  rw [←hg,hx] at hh;obtain ⟨h1,h2⟩:=(h.inv.get x s).1 hx;obtain ⟨k,hk⟩:=V7 h.inv.half h1;obtain ⟨k1,k2,k3⟩:=Js h.inv h.good hx hk ht;refine (QK tv F S x k s w h.is h.inv h.good ht hx hk).mono ?_
  rintro e w' ⟨rfl,hst⟩;obtain ⟨F',g1,g2,g3⟩:=h.take hst k1 k2;refine ⟨_,by rw [hh];rfl,_,F',g1,g2,g3,k3,Nat.le_refl _,Qn h.inv.half hk,by simp [hh],?_⟩
  intro A D hb hc;refine ⟨A,D+1,XE hb h.inv.half hk (by omega),?_⟩
  rw [hh];simp;omega
theorem kY {w0 w:World} {tv:Value} {S:Ec} {F:List Nat} (h:Held w0 w tv S F) (x:Nat) (ht:S.t<999) :
 Calls Tryz.prog 23 #[tv,.int .u32 (x:Int)] w fun e w'=>e=.returned (.tuple #[bxO (GL (Cj S) x),.bool (GL (Cj S) x).isSome])∧Bf [] w w':=by
 rw [←Qm h.inv];exact a4N tv F S x w h.is h.inv (by omega)
end Go.Proofs.YtkbaaonchdeneaaGreat.GN
namespace Go.Proofs.YtkbaaonchdeneaaGreat.GN
open Go.RowKit
def B1:Bx:=⟨0,2,0,3,1⟩
def B2:Bx:=⟨1,4,1,2,2⟩
theorem Iz {l m:List Bx} (h:l.Perm m) (x y:Int):BN l x y=BN m x y:=by
 unfold BN;rw [Bool.eq_iff_iff,List.any_eq_true,List.any_eq_true];constructor
 ·rintro ⟨b,hb,e⟩;exact ⟨b,h.mem_iff.1 hb,e⟩
 ·rintro ⟨b,hb,e⟩;exact ⟨b,h.mem_iff.2 hb,e⟩
theorem OI {l m:List Bx} (h:l.Perm m):BZ l=BZ m:=Ir (Iz h)
theorem QX {l m:List Bx} (h:l.Perm m):DU l=DU m:=Jp (Iz h)
theorem I9 {l:List Bx} {xs ys:List Int} (hxs:xs.Pairwise (· < ·)) (hys:ys.Pairwise (· < ·)) (mx:∀v,v∈xs↔v∈Eu l) (my:∀v,v∈ys↔v∈BG l)
 (hx:∀v∈xs,-9223372036854775808≤v∧v≤9223372036854775807) (hy:∀v∈ys,-9223372036854775808≤v∧v≤9223372036854775807):BZ l=bC l xs ys:=WG hxs hys mx my hx hy
theorem a5s:BZ [B1]=6:=by
 rw [I9 (xs:=[0,2]) (ys:=[0,3]) (by decide) (by decide) (by intro v;simp [Eu,B1,Bx.counts]) (by intro v;simp [BG,B1,Bx.counts]) (by decide) (by decide)];decide
theorem a5t:BZ [B2]=3:=by
 rw [I9 (xs:=[1,4]) (ys:=[1,2]) (by decide) (by decide) (by intro v;simp [Eu,B2,Bx.counts]) (by intro v;simp [BG,B2,Bx.counts]) (by decide) (by decide)];decide
theorem zO:BZ [B1,B2]=8:=by
 rw [I9 (xs:=[0,1,2,4]) (ys:=[0,1,2,3]) (by decide) (by decide) (by intro v;simp [Eu,B1,B2,Bx.counts];omega) (by intro v;simp [BG,B1,B2,Bx.counts];omega) (by decide) (by decide)];decide
instance (l:List Bx) (p q r s:Int):Decidable (Within l p q r s):=by unfold Within;infer_instance
theorem IB {l:List Bx} (n:Int) (h0:0≤n) (hn:n<9223372036854775807) (h1:Within l 0 n 0 n) (h2:Within (l.map En) 0 n 0 n):DU l=Ih l 0 n 0 (n+1)+Ih (l.map En) 0 n 0 (n+1):=by
 unfold DU Ep;rw [JV h1 (by omega) h0 (by omega) (by omega) h0 (by omega),JV h2 (by omega) h0 (by omega) (by omega) h0 (by omega)]
theorem a5u:DU [B1]=10:=by rw [IB 3 (by decide) (by decide) (by decide) (by decide)];decide
theorem a5v:DU [B2]=8:=by rw [IB 4 (by decide) (by decide) (by decide) (by decide)];decide
theorem kZ:iy [B1,B2] 2 2 = [1,2]:=by
 have e:([B1,B2].filter fun b=>inB b 2 2).map Bx.id = [1,2]:=by decide
 unfold iy;rw [e];exact List.mergeSort_of_pairwise (by decide)
theorem aI:iy [B1,B2] 3 3 = []:=by
 have e:([B1,B2].filter fun b=>inB b 3 3).map Bx.id = []:=by decide
 unfold iy;rw [e];simp [GZ]
theorem a1E:B1.BO∧B2.BO:=by unfold Bx.BO;decide
end Go.Proofs.YtkbaaonchdeneaaGreat.GN
namespace Go.Proofs.YtkbaaonchdeneaaGreat.GN
open Go.RowKit
theorem NV (L:List Bx) (b:Bx) (x y:Int):BN (L++[b]) x y=(BN L x y||b.cell x y):=by
 unfold BN;rw [List.any_append];simp
theorem sV (L:List Bx) (b:Bx):BZ L≤BZ (L++[b])∧BZ [b]≤BZ (L++[b])∧BZ (L++[b])≤BZ L+BZ [b]:=by
 have one:∀x y,BN [b] x y=b.cell x y:=fun x y=>by unfold BN;simp
 refine ⟨WH fun x y h=>?_,WH fun x y h=>?_,?_⟩
 ·rw [NV,h];rfl
 ·rw [one] at h;rw [NV,h,Bool.or_true]
 ·show KG _ _ _≤KG _ _ _+KG _ _ _
  unfold KG;rw [←bf];refine Kw fun x _ _=>?_
  rw [←bf];refine Kw fun y _ _=>?_
  rw [NV,one]
  cases BN L x y<;>cases b.cell x y<;>simp [ind]
theorem Yi (L:List Bx):0≤BZ L:=SK _ _ _
theorem a5E {L:List Bx} {b c:Bx} (h1:b.x1≤c.x1) (h2:c.x2≤b.x2) (h3:b.y1≤c.y1) (h4:c.y2≤b.y2) (x y:Int):BN ((L++[b])++[c]) x y=BN (L++[b]) x y:=by
 rw [NV (L++[b]) c,NV]
 have h:c.cell x y=true→b.cell x y=true:=by
  unfold Bx.cell;simp only [decide_eq_true_eq];omega
 cases hc:c.cell x y with
 |false=>rw [Bool.or_false]
 |true=>rw [h hc];simp
theorem gX {L:List Bx} {b:Bx} (h:∀u∈L,u.id≠b.id):J4 (L++[b]) b.id=L:=by
 unfold J4;rw [List.filter_append,List.filter_eq_self.2 (fun u hu=>by simpa using h u hu)];simp
theorem a0k (L:List Bx) (b:Bx):(BZ L).toNat≤(BZ (L++[b])).toNat∧(BZ [b]).toNat≤(BZ (L++[b])).toNat∧(BZ (L++[b])).toNat≤(BZ L).toNat+(BZ [b]).toNat:=by
 obtain ⟨h1,h2,h3⟩:=sV L b;have h4:=Yi L;have h5:=Yi [b];omega
theorem gY (L:List Bx):Jk (BZ L).toNat:=by
 have h:BZ L≤(9223372036854775807 - (-9223372036854775808))*(9223372036854775807 - (-9223372036854775808)):=bD L (by decide);have h4:=Yi L;unfold Jk;omega
end Go.Proofs.YtkbaaonchdeneaaGreat.GN
namespace Go.Proofs.YtkbaaonchdeneaaGreat.GN
open Go.ChangeShapes Go.WideShapes Go.Deep Go.RowKit
open Go.Proofs.YtkbaaonchdeneaaGreat.Ps
structure Qp where
 u:Nat
 s:Bx
 x:Int
 y:Int
def Qp.BO (o:Qp):Prop:=o.u<256∧(o.s.BO∧o.s.id<4294967296)∧(-9223372036854775808≤o.x∧o.x≤9223372036854775807)∧(-9223372036854775808≤o.y∧o.y≤9223372036854775807)
def VQ:Kind Qp:={ T:=0,sT:=22,eT:=30,sz:=8,enc:=fun o=>[.int .u8 (o.u:Int),.int .i64 o.s.x1,.int .i64 o.s.x2,.int .i64 o.s.y1,.int .i64 o.s.y2,.int .u32 (o.s.id:Int),.int .i64 o.x,.int .i64 o.y],len:=fun _=>rfl,one:=fun b u hu=>by simp at hu;rcases hu with rfl | rfl | rfl | rfl | rfl | rfl | rfl | rfl<;>rfl }
def lC (o:Qp):Value:=.agg #[.int .u8 (o.u:Int),.int .i64 o.s.x1,.int .i64 o.s.x2,.int .i64 o.s.y1,.int .i64 o.s.y2,.int .u32 (o.s.id:Int),.int .i64 o.x,.int .i64 o.y]
def LD (w:World) (v:Value) (l:List Qp):Prop:=See VQ w v l
theorem aQ {x:Int} (h:(Lit.int .u8 x).wf=true):∃n:Nat,x=(n:Int)∧n<256:=by
 simp [Lit.wf,IntKind.min,IntKind.max,IntKind.signed,IntKind.bits] at h;exact ⟨x.toNat,by omega,by omega⟩
theorem Yf {x:Int} (h:(Lit.int .u32 x).wf=true):∃n:Nat,x=(n:Int)∧n<4294967296:=by
 simp [Lit.wf,IntKind.min,IntKind.max,IntKind.signed,IntKind.bits] at h;exact ⟨x.toNat,by omega,by omega⟩
theorem Hw {x:Int} (h:(Lit.int .i64 x).wf=true) : -9223372036854775808≤x∧x≤9223372036854775807:=by
 simp [Lit.wf,IntKind.min,IntKind.max,IntKind.signed,IntKind.bits] at h;omega
theorem Qq {w:World} {v:Value} {rows:List (List Value)} (h:Np w 8 v rows) (hr:∀r∈rows,∃b:Qp,r=VQ.enc b∧b.BO) :
 ∃l:List Qp,l.length=rows.length∧LD w v l∧∀b∈l,b.BO:=by
 have:∃l:List Qp,rows=l.map VQ.enc∧∀b∈l,b.BO:=by
  clear h;induction rows with
  |nil=>exact ⟨[],rfl,by simp⟩
  |cons a rows ih=>
   obtain ⟨l,e,hl⟩:=ih fun r h=>hr r (by simp [h])
   obtain ⟨b,e1,e2⟩:=hr a (by simp);refine ⟨b::l,by rw [e,e1];rfl,fun o ho=>?_⟩
   rcases List.mem_cons.1 ho with rfl | ho
   ·exact e2
   ·exact hl o ho
 obtain ⟨l,rfl,hl⟩:=this;refine ⟨l,by simp,?_,hl⟩
 have:=h.2;rw [List.length_map] at this;unfold LD See Kind.all;rw [List.flatMap];exact this
theorem SC {H:Type} {enc:TypeId×Value→H} {w:World} {base:Nat} {held:Bool} {fuel:Nat} {v:Value} {x:DataW H×List MemPlace}
 (h:DataW.trod enc Tryz.prog w base (fun _=>true) held fuel 22 [v]=some x) :
 ∃l:List Qp,LD w v l∧(∀b∈l,b.BO)∧l.length≤maxLen:=by
 obtain ⟨rows,h1,h2,h3⟩:=Qo (size:=8) Tryz.underlying22 (by kernel_rfl) (by decide) (fun _=>rfl) h
 obtain ⟨l,e,h4,h5⟩:=Qq (rows:=rows) h1 (fun r hr=>by
  obtain ⟨n,y,hy⟩:=h3 r hr;have hl:r.length=8:=h1.1 r hr;match r,hl with
  | [c0,c1,c2,c3,c4,c5,c6,c7],_=>
  obtain ⟨xs,n1,_,_,_,hxl,hg⟩:=DataW.trod_struct Tryz.underlying30 hy;have k1:Tryz.prog.cellsOf 5=1:=by kernel_rfl
  have k2:Tryz.prog.cellsOf 28=5:=by kernel_rfl
  have k3:Tryz.prog.cellsOf 2=1:=by kernel_rfl
  have k4:Tryz.prog.cellsOf 26=1:=by kernel_rfl
  have g0':DataW.trod enc Tryz.prog w base (fun _=>true) held n1 5 (List.take (Tryz.prog.cellsOf 5) (List.drop 0 [c0,c1,c2,c3,c4,c5,c6,c7]))=xs[0]?:=hg 0 _ rfl;rw [k1] at g0';have g0:DataW.trod enc Tryz.prog w base (fun _=>true) held n1 5 [c0]=xs[0]?:=g0';have g1':DataW.trod enc Tryz.prog w base (fun _=>true) held n1 28 (List.take (Tryz.prog.cellsOf 28) (List.drop 1 [c0,c1,c2,c3,c4,c5,c6,c7]))=xs[1]?:=hg 1 _ rfl;rw [k2] at g1';have g1:DataW.trod enc Tryz.prog w base (fun _=>true) held n1 28 [c1,c2,c3,c4,c5]=xs[1]?:=g1';have g2':DataW.trod enc Tryz.prog w base (fun _=>true) held n1 2 (List.take (Tryz.prog.cellsOf 2) (List.drop 6 [c0,c1,c2,c3,c4,c5,c6,c7]))=xs[2]?:=hg 2 _ rfl;rw [k3] at g2';have g2:DataW.trod enc Tryz.prog w base (fun _=>true) held n1 2 [c6]=xs[2]?:=g2';have g3':DataW.trod enc Tryz.prog w base (fun _=>true) held n1 2 (List.take (Tryz.prog.cellsOf 2) (List.drop 7 [c0,c1,c2,c3,c4,c5,c6,c7]))=xs[3]?:=hg 3 _ rfl;rw [k3] at g3';have g3:DataW.trod enc Tryz.prog w base (fun _=>true) held n1 2 [c7]=xs[3]?:=g3';have xl:xs.length=4:=hxl;rw [AX (by omega)] at g0 g1 g2 g3;obtain ⟨ys,n2,_,_,_,hyl,hh⟩:=DataW.trod_struct Tryz.underlying28 g1;have i0':DataW.trod enc Tryz.prog w base (fun _=>true) held n2 2 (List.take (Tryz.prog.cellsOf 2) (List.drop 0 [c1,c2,c3,c4,c5]))=ys[0]?:=hh 0 _ rfl;rw [k3] at i0';have i0:DataW.trod enc Tryz.prog w base (fun _=>true) held n2 2 [c1]=ys[0]?:=i0';have i1':DataW.trod enc Tryz.prog w base (fun _=>true) held n2 2 (List.take (Tryz.prog.cellsOf 2) (List.drop 1 [c1,c2,c3,c4,c5]))=ys[1]?:=hh 1 _ rfl;rw [k3] at i1';have i1:DataW.trod enc Tryz.prog w base (fun _=>true) held n2 2 [c2]=ys[1]?:=i1';have i2':DataW.trod enc Tryz.prog w base (fun _=>true) held n2 2 (List.take (Tryz.prog.cellsOf 2) (List.drop 2 [c1,c2,c3,c4,c5]))=ys[2]?:=hh 2 _ rfl;rw [k3] at i2';have i2:DataW.trod enc Tryz.prog w base (fun _=>true) held n2 2 [c3]=ys[2]?:=i2';have i3':DataW.trod enc Tryz.prog w base (fun _=>true) held n2 2 (List.take (Tryz.prog.cellsOf 2) (List.drop 3 [c1,c2,c3,c4,c5]))=ys[3]?:=hh 3 _ rfl;rw [k3] at i3';have i3:DataW.trod enc Tryz.prog w base (fun _=>true) held n2 2 [c4]=ys[3]?:=i3';have i4':DataW.trod enc Tryz.prog w base (fun _=>true) held n2 26 (List.take (Tryz.prog.cellsOf 26) (List.drop 4 [c1,c2,c3,c4,c5]))=ys[4]?:=hh 4 _ rfl;rw [k4] at i4';have i4:DataW.trod enc Tryz.prog w base (fun _=>true) held n2 26 [c5]=ys[4]?:=i4';have yl:ys.length=5:=hyl;rw [AX (by omega)] at i0 i1 i2 i3 i4;obtain ⟨a0,e0,_,w0⟩:=DataW.trod_int Tryz.underlying5 g0;obtain ⟨a1,e1,_,w1⟩:=DataW.trod_int Tryz.underlying2 i0;obtain ⟨a2,e2,_,w2⟩:=DataW.trod_int Tryz.underlying2 i1;obtain ⟨a3,e3,_,w3⟩:=DataW.trod_int Tryz.underlying2 i2;obtain ⟨a4,e4,_,w4⟩:=DataW.trod_int Tryz.underlying2 i3;obtain ⟨a5,e5,_,w5⟩:=DataW.trod_int Tryz.underlying26 i4;obtain ⟨a6,e6,_,w6⟩:=DataW.trod_int Tryz.underlying2 g2;obtain ⟨a7,e7,_,w7⟩:=DataW.trod_int Tryz.underlying2 g3;injection e0 with e0 _;injection e1 with e1 _;injection e2 with e2 _;injection e3 with e3 _;injection e4 with e4 _;injection e5 with e5 _;injection e6 with e6 _;injection e7 with e7 _;subst e0 e1 e2 e3 e4 e5 e6 e7;obtain ⟨m,rfl,hm⟩:=aQ w0;obtain ⟨k,rfl,hk⟩:=Yf w5;exact ⟨⟨m,⟨a1,a2,a3,a4,k⟩,a6,a7⟩,rfl,hm,⟨⟨Hw w1,Hw w2,Hw w3,Hw w4⟩,hk⟩,Hw w6,Hw w7⟩)
 exact ⟨l,h4,h5,by rw [e];exact h2⟩
theorem Yg:(Tryz.prog.info? 30).map (fun i=>(i.zero,i.size,i.bytes))=some (some (.agg #[.int .u8 0,.int .i64 0,.int .i64 0,.int .i64 0,.int .i64 0,.int .u32 0,.int .i64 0,.int .i64 0]),8,64):=by kernel_rfl
theorem aS {w:World} {v:Value} {l:List Qp} (h:LD w v l) (k:Nat) (hk:k≤l.length) :
 ∃A C,(∀w',(Instr.slice 22 v none (some (.int .i64 (k:Int))) none).run Tryz.prog w'=.ok (.slice A k C) w')∧See VQ w (.slice A k C) (l.take k):=by
 obtain ⟨i,hi,-,hz,-⟩:=info_parts Yg;obtain ⟨A,C,h1,h2,-⟩:=See.take (K:=VQ) (P:=Tryz.prog) Tryz.underlying22 hi hz h k hk;exact ⟨A,C,h1,h2 w h⟩
def lD (l:List Bx) (o:Qp):Bool:=if o.u % 2=0 then Hu l o.s else Rh l o.s.id
def gV (l:List Bx) (o:Qp):List Bx:=if o.u % 2=0 then O7 l o.s else J4 l o.s.id
theorem Left.ahead {w0 w W w':World} {tv:Value} {S:Ec} {F:List Nat} {n:Nat} {did:Bool} {l:List Bx} (hu:Bf [] w W) (h:Left w0 W tv S F n did l w'):Left w0 w tv S F n did l w':=by
 obtain ⟨S',F',h1,h2,h3,h4⟩:=h;refine ⟨S',F',h1,(hu.mono (by simp)).trans h2,fun x hx=>?_,h4⟩
 rcases h3 x hx with g | g
 ·exact .inl g
 ·exact .inr (Bd hu.size g)
theorem a0a {w0 w:World} {tv:Value} {S:Ec} {F:List Nat} (h:Held w0 w tv S F) (o:Qp) (ho:o.BO) (ht:S.t<999) :
 Calls Tryz.prog 14 #[tv,lC o] w fun e w'=>∃n:Nat,e=.returned (.tuple #[.int .i64 (n:Int),.bool (lD (Cj S) o)])∧Left w0 w tv S F n (lD (Cj S) o) (gV (Cj S) o) w':=by
 obtain ⟨W,hW,hu0,hq0⟩:=BJ w #[.int .u8 (o.u:Int),.int .i64 o.s.x1,.int .i64 o.s.x2,.int .i64 o.s.y1,.int .i64 o.s.y2,.int .u32 (o.s.id:Int),.int .i64 o.x,.int .i64 o.y] 30;have h1:=h.quiet hu0;obtain ⟨q,_,_,_,_,_,rfl,-⟩:=h.is;have y0:W.cell? ⟨w.heap.size,0,none⟩=some (.int .u8 (o.u:Int)):=hq0.cell 0;have y1:W.cell? ⟨w.heap.size,1,none⟩=some (.int .i64 o.s.x1):=hq0.cell 1;have y2:W.cell? ⟨w.heap.size,2,none⟩=some (.int .i64 o.s.x2):=hq0.cell 2;have y3:W.cell? ⟨w.heap.size,3,none⟩=some (.int .i64 o.s.y1):=hq0.cell 3;have y4:W.cell? ⟨w.heap.size,4,none⟩=some (.int .i64 o.s.y2):=hq0.cell 4;have y5:W.cell? ⟨w.heap.size,5,none⟩=some (.int .u32 (o.s.id:Int)):=hq0.cell 5;have ET:=AQ hu0;have HW:=AQ hW;obtain ⟨r,hr⟩:=AO (o.u % 2);have hr2:r<2:=by rw [←hr];exact Nat.mod_lt _ (by decide)
 have tm:(o.u:Int).tmod 2=(r:Int):=by rw [←hr];rfl
 have o8:(o.u:Int)<256:=Ac ho.1;have o0:(0:Int)≤(o.u:Int):=AU _;unfold lC lD gV;rw [hr];have ha:=Vf h1 o.s ho.2.1 ht;have hd:=QV h1 o.s.id ht;unfold L8 at ha;have HA:=AQ ha;have HD:=AQ hd;clear hW hu0 hq0 h h1 ha hd hr ho ht;have hr3:r=0∨r=1:=by omega
 rcases hr3 with rfl | rfl
 ·rw [if_pos rfl,if_pos rfl];go_enter Tryz.func14,Tryz.ntmps14
  go_upto_region 1 with fail
  rw [←HW.out];clear HW;generalize w.heap.size=b at y0 y1 y2 y3 y4 y5 ⊢;go_wp2_with fail
  (with_reducible refine HA.out.mono ?_);rintro e w' ⟨n,rfl,-,hl⟩;have HL:=AQ hl;clear hl;go_wp2_with fail
  go_ret2
  exact ⟨n,rfl,Left.ahead ET.out HL.out⟩
 ·rw [if_neg (by decide),if_neg (by decide)];go_enter Tryz.func14,Tryz.ntmps14
  go_upto_region 1 with fail
  rw [←HW.out];clear HW;generalize w.heap.size=b at y0 y1 y2 y3 y4 y5 ⊢;go_wp2_with fail
  (with_reducible refine HD.out.mono ?_);rintro e w' ⟨n,rfl,hl⟩;have HL:=AQ hl;clear hl;go_wp2_with fail
  go_ret2
  exact ⟨n,rfl,Left.ahead ET.out HL.out⟩
