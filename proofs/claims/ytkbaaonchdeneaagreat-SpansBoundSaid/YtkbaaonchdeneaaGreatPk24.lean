/- Spans and numbers that came in. Chapter 24's law: sameIDs. A span that came in by value; a slice of chapter 24's operations that came in. -/
import Derived.BigQuiet
import Derived.Deep.QuietTactic
import Derived.ProofKit
import Derived.Test.YtkbaaonchdeneaaGreatPkSpansTellP5
import Derived.Test.YtkbaaonchdeneaaGreatPkSpansTellP11
import Derived.Test.YtkbaaonchdeneaaGreatPk6
import Derived.Test.YtkbaaonchdeneaaGreatPkSpansTellP4
set_option maxHeartbeats 4000000
set_option maxRecDepth 100000
namespace Go.Proofs.YtkbaaonchdeneaaGreat
open Go.RowKit
def IsSps (w:World) (v:Value) (l:List Sp):Prop:=See KSp w v l
def Sp.in64 (s:Sp):Prop:=(-9223372036854775808≤s.lo∧s.lo≤9223372036854775807)∧(-9223372036854775808≤s.hi∧s.hi≤9223372036854775807)∧s.id<4294967296
theorem u32_natS {x:Int} (h:(Lit.int .u32 x).wf=true):∃n:Nat,x=(n:Int)∧n<4294967296:=by
 simp [Lit.wf,IntKind.min,IntKind.max,IntKind.signed,IntKind.bits] at h
 exact ⟨x.toNat,by omega,by omega⟩
theorem i64_inS {x:Int} (h:(Lit.int .i64 x).wf=true) : -9223372036854775808≤x∧x≤9223372036854775807:=by
 simp [Lit.wf,IntKind.min,IntKind.max,IntKind.signed,IntKind.bits] at h
 omega
theorem sps_of_rows {w:World} {v:Value} {rows:List (List Value)} (h:SeesRows w 3 v rows) (hr:∀r∈rows,∃b:Sp,r=KSp.enc b∧b.in64) :
 ∃l:List Sp,l.length=rows.length∧IsSps w v l∧∀b∈l,b.in64:=by
 have:∃l:List Sp,rows=l.map KSp.enc∧∀b∈l,b.in64:=by
  clear h
  induction rows with
  |nil=>exact ⟨[],rfl,by simp⟩
  |cons a rows ih=>
   obtain ⟨l,e,hl⟩:=ih fun r h=>hr r (by simp [h])
   obtain ⟨b,e1,e2⟩:=hr a (by simp)
   refine ⟨b::l,by rw [e,e1];rfl,fun o ho=>?_⟩
   rcases List.mem_cons.1 ho with rfl | ho
   ·exact e2
   ·exact hl o ho
 obtain ⟨l,rfl,hl⟩:=this
 refine ⟨l,by simp,?_,hl⟩
 have:=h.2
 rw [List.length_map] at this
 unfold IsSps See Kind.all
 rw [List.flatMap]
 exact this
theorem see_nilS (w:World):See KL w (.slice none 0 0) []:=⟨rfl,.inl ⟨rfl,rfl⟩⟩
theorem longs_of_argS {w:World} {a:Option Addr} {len cap:Nat} {zs:List Int}
 (h:(a=none∧len=0∧cap=0∧zs = [])∨∃x,a=some x∧len≤cap∧cap≤maxLen∧zs.length=cap∧(∀i,i<zs.length→w.cell? (x.add i)=some (.int .i64 (zs.getD i 0)))∧∀n∈zs,(Lit.int .i64 n).wf=true) :
 See KL w (.slice a len cap) (zs.take len)∧(zs.take len).length=len∧len≤9223372036854775807∧∀n∈zs.take len,-9223372036854775808≤n∧n≤9223372036854775807:=by
 rcases h with ⟨rfl,rfl,rfl,rfl⟩ | ⟨x,rfl,hl,hm,hz,hc,hw⟩
 ·exact ⟨see_nilS _,rfl,by omega,by simp⟩
 ·have hlen:(zs.take len).length=len:=by rw [List.length_take];omega
  have hsp:0<cap→x.spot=none:=by
   intro h0
   have:=hc 0 (by omega)
   unfold Addr.add at this
   rw [if_pos rfl] at this
   unfold World.cell? at this
   cases hs:x.spot with
   |none=>rfl
   |some q=>rw [hs] at this;simp at this;split at this<;>simp_all
  unfold See
  refine ⟨⟨?_,.inr ⟨x.block,x.off,x.spot,cap,?_,hsp,?_,hm,?_⟩⟩,hlen,by unfold maxLen at hm;omega,?_⟩
  ·rw [KL_all,List.length_map];exact (Nat.mul_one _).symm
  ·rw [hlen]
  ·rw [hlen];exact hl
  ·intro j u hu
   rw [KL_all,List.getElem?_map,List.getElem?_take] at hu
   split at hu
   ·rename_i hj
    have hj':j<zs.length:=by omega
    have h1:=hc j hj'
    have h2:x.add j=⟨x.block,x.off+j,none⟩:=by
     have:=hsp (by omega)
     obtain ⟨b,o,s⟩:=x
     simp only at this
     subst this
     exact addr_add _ _ _
    rw [h2] at h1
    rw [h1]
    simp only [List.getElem?_eq_getElem hj',Option.map_some,Option.some.injEq] at hu
    rw [←hu]
    simp [List.getD,List.getElem?_eq_getElem hj']
   ·cases hu
  ·intro n hn
   have:=hw n (List.mem_of_mem_take hn)
   simpa [Lit.wf,IntKind.min,IntKind.max,IntKind.signed,IntKind.bits] using this
end Go.Proofs.YtkbaaonchdeneaaGreat
namespace Go.Proofs.YtkbaaonchdeneaaGreat
open Go.ChangeShapes Go.WideShapes Go.Deep Go.RowKit
theorem sps_opened {H:Type} {enc:TypeId×Value→H} {w:World} {base:Nat} {held:Bool} {fuel:Nat} {v:Value} {x:DataW H×List MemPlace}
 (h:DataW.trod enc Tryz.prog w base (fun _=>true) held fuel 56 [v]=some x) :
 ∃l:List Sp,IsSps w v l∧(∀b∈l,b.in64)∧l.length≤maxLen:=by
 obtain ⟨rows,h1,h2,h3⟩:=structs_of_arg Tryz.underlying56 Tryz.underlying62 (by kernel_rfl) (by kernel_rfl) (by decide) (fun _=>rfl) h
 obtain ⟨l,e,h4,h5⟩:=sps_of_rows (rows:=rows) h1 (fun r hr=>by
  obtain ⟨i,hi⟩:=List.mem_iff_getElem?.1 hr
  obtain ⟨u0,y0,n0,g0,t0⟩:=h3 i r hi 0 _ rfl
  obtain ⟨u1,y1,n1,g1,t1⟩:=h3 i r hi 1 _ rfl
  obtain ⟨u2,y2,n2,g2,t2⟩:=h3 i r hi 2 _ rfl
  obtain ⟨a0,e0,_,w0⟩:=DataW.trod_int Tryz.underlying2 t0
  obtain ⟨a1,e1,_,w1⟩:=DataW.trod_int Tryz.underlying2 t1
  obtain ⟨a2,e2,_,w2⟩:=DataW.trod_int Tryz.underlying26 t2
  have hl:r.length=3:=h1.1 r hr
  injection e0 with e0 _
  injection e1 with e1 _
  injection e2 with e2 _
  subst e0 e1 e2
  obtain ⟨n,rfl,hn⟩:=u32_natS w2
  refine ⟨⟨a0,a1,n⟩,?_,i64_inS w0,i64_inS w1,hn⟩
  match r,hl with
  | [c0,c1,c2],_=>
   simp at g0 g1 g2
   rw [g0,g1,g2]
   rfl)
 exact ⟨l,h4,h5,by rw [e];exact h2⟩
open Go.RowKit
theorem same24C (va vb:Value) (la lb:List Nat) (w:World) (ha:See KU w va la) (hb:See KU w vb lb) (hl:la.length<1000000000000) (hl2:lb.length<1000000000000) :
 Calls Tryz.prog 32 #[va,vb] w fun e w'=>e=.returned (.bool (decide (la=lb)))∧Upd [] w w':=by
 obtain ⟨A,C,rfl⟩:=ha.form
 obtain ⟨B,D,rfl⟩:=hb.form
 obtain ⟨r,hr⟩:∃r,decide (la=lb)=r:=⟨_,rfl⟩
 obtain ⟨n,hn⟩:∃n,la.length=n:=⟨_,rfl⟩
 obtain ⟨m,hm⟩:∃m,lb.length=m:=⟨_,rfl⟩
 rw [hn] at ha hl
 rw [hm] at hb hl2
 rw [hr,hn,hm]
 have HA:=Lib.hid (And.intro ha hb)
 have HN:=Lib.hid (And.intro hn (And.intro hm hr))
 have n0:(0:Int)≤(n:Int):=Int.natCast_nonneg _
 have m0:(0:Int)≤(m:Int):=Int.natCast_nonneg _
 have n1:(n:Int)<1000000000000:=by omega
 clear ha hb hr hn hm
 by_cases hnm:n=m
 ·subst hnm
  have hne:((n:Int) != (n:Int))=false:=by simp
  go_enter Tryz.func32,Tryz.ntmps32
  go_wp2_with fail
  go_loopg [13] n (fun m s13 wr=>∃k:Nat,m+k=n∧s13=.int .i64 (k:Int)∧la.take k=lb.take k∧Upd [] w wr)
  case atStart=>exact ⟨0,rfl,rfl,by simp,Upd.refl _ _⟩
  case round=>
   obtain ⟨k,hk,rfl,htk,hup⟩:=hrel
   have k0:(0:Int)≤(k:Int):=Int.natCast_nonneg _
   have hkn:k≤n:=by omega
   have HK:=Lib.hid (And.intro hk (And.intro htk hup))
   clear hk htk hup
   by_cases hlt:k<n
   ·obtain ⟨x,hx⟩:∃x,la[k]? = some x:=⟨_,List.getElem?_eq_getElem (by rw [HN.out.1];exact hlt)⟩
    obtain ⟨y,hy⟩:∃y,lb[k]? = some y:=⟨_,List.getElem?_eq_getElem (by rw [HN.out.2.1];exact hlt)⟩
    obtain ⟨g1,o1,hA,-,-,hc1⟩:=KU.atS (HA.out.1.upd0 HK.out.2.2) hx
    obtain ⟨g2,o2,hB,-,-,hc2⟩:=KU.atS (HA.out.2.upd0 HK.out.2.2) hy
    subst hA hB
    have HX:=Lib.hid (And.intro hx hy)
    have b1:(k:Int)<(n:Int):=by omega
    clear hx hy
    by_cases hxy:x=y
    ·have hq:((x:Int) != (y:Int))=false:=by simp [hxy]
     have HXY:=Lib.hid hxy
     clear hxy
     go_wp2_with fail
     go_quiet (fail)
     go_wp2_with fail
     go_roundg (n - (k+1))
     case measure=>have:=HK.out.1;omega
     case rel=>
      refine ⟨k+1,by have:=HK.out.1;omega,by go_num,?_,HK.out.2.2.drewN _⟩
      obtain ⟨h1,h2⟩:=List.getElem?_eq_some_iff.1 HX.out.1
      obtain ⟨h3,h4⟩:=List.getElem?_eq_some_iff.1 HX.out.2
      rw [List.take_succ_eq_append_getElem h1,List.take_succ_eq_append_getElem h3,HK.out.2.1,h2,h4,HXY.out]
    ·have hq:((x:Int) != (y:Int))=true:=by simp;omega
     have hd:r=false:=by
      rw [←HN.out.2.2,decide_eq_false_iff_not]
      intro e
      have h1:=HX.out.1
      rw [e,HX.out.2] at h1
      injection h1 with h1
      exact hxy h1.symm
     have HD:=Lib.hid hd
     clear hxy hd
     go_wp2_with fail
     go_quiet (fail)
     go_wp2_with fail
     go_ret
     exact ⟨by rw [HD.out];rfl,HK.out.2.2.drewN _⟩
   ·have hkn2:k=n:=by omega
    have hd:r=true:=by
     rw [←HN.out.2.2,decide_eq_true_iff]
     have h1:=HK.out.2.1
     rw [hkn2,List.take_of_length_le (by rw [HN.out.1];exact Nat.le_refl _),List.take_of_length_le (by rw [HN.out.2.1];exact Nat.le_refl _)] at h1
     exact h1
    have HD:=Lib.hid hd
    clear hd hkn2
    go_wp2_with fail
    go_ret
    exact ⟨by rw [HD.out];rfl,HK.out.2.2⟩
 ·have hne:((n:Int) != (m:Int))=true:=by simp;omega
  have hd:r=false:=by
   rw [←HN.out.2.2,decide_eq_false_iff_not]
   intro e
   exact hnm (by rw [←HN.out.1,←HN.out.2.1,e])
  have HD:=Lib.hid hd
  clear hnm hd
  go_enter Tryz.func32,Tryz.ntmps32
  go_wp2_with fail
  go_ret
  exact ⟨by rw [HD.out];rfl,Upd.refl _ _⟩
end Go.Proofs.YtkbaaonchdeneaaGreat
namespace Go.Proofs.YtkbaaonchdeneaaGreat
open Go.ChangeShapes Go.WideShapes Go.Deep Go.RowKit
structure OpS where
 u:Nat
 s:Sp
 lo:Int
 hi:Int
def OpS.in64 (o:OpS):Prop:=o.u<256∧o.s.in64∧(-9223372036854775808≤o.lo∧o.lo≤9223372036854775807)∧(-9223372036854775808≤o.hi∧o.hi≤9223372036854775807)
def KOpS:Kind OpS:={ T:=0,sT:=69,eT:=72,sz:=6,enc:=fun o=>[.int .u8 (o.u:Int),.int .i64 o.s.lo,.int .i64 o.s.hi,.int .u32 (o.s.id:Int),.int .i64 o.lo,.int .i64 o.hi],len:=fun _=>rfl,one:=fun b u hu=>by simp at hu;rcases hu with rfl | rfl | rfl | rfl | rfl | rfl<;>rfl }
def opVS (o:OpS):Value:=.agg #[.int .u8 (o.u:Int),.int .i64 o.s.lo,.int .i64 o.s.hi,.int .u32 (o.s.id:Int),.int .i64 o.lo,.int .i64 o.hi]
def IsOpS (w:World) (v:Value) (l:List OpS):Prop:=See KOpS w v l
theorem u8_natS {x:Int} (h:(Lit.int .u8 x).wf=true):∃n:Nat,x=(n:Int)∧n<256:=by
 simp [Lit.wf,IntKind.min,IntKind.max,IntKind.signed,IntKind.bits] at h
 exact ⟨x.toNat,by omega,by omega⟩
theorem opS_of_rows {w:World} {v:Value} {rows:List (List Value)} (h:SeesRows w 6 v rows) (hr:∀r∈rows,∃b:OpS,r=KOpS.enc b∧b.in64) :
 ∃l:List OpS,l.length=rows.length∧IsOpS w v l∧∀b∈l,b.in64:=by
 have:∃l:List OpS,rows=l.map KOpS.enc∧∀b∈l,b.in64:=by
  clear h
  induction rows with
  |nil=>exact ⟨[],rfl,by simp⟩
  |cons a rows ih=>
   obtain ⟨l,e,hl⟩:=ih fun r h=>hr r (by simp [h])
   obtain ⟨b,e1,e2⟩:=hr a (by simp)
   refine ⟨b::l,by rw [e,e1];rfl,fun o ho=>?_⟩
   rcases List.mem_cons.1 ho with rfl | ho
   ·exact e2
   ·exact hl o ho
 obtain ⟨l,rfl,hl⟩:=this
 refine ⟨l,by simp,?_,hl⟩
 have:=h.2
 rw [List.length_map] at this
 unfold IsOpS See Kind.all
 rw [List.flatMap]
 exact this
theorem opS_opened {H:Type} {enc:TypeId×Value→H} {w:World} {base:Nat} {held:Bool} {fuel:Nat} {v:Value} {x:DataW H×List MemPlace}
 (h:DataW.trod enc Tryz.prog w base (fun _=>true) held fuel 69 [v]=some x) :
 ∃l:List OpS,IsOpS w v l∧(∀b∈l,b.in64)∧l.length≤maxLen:=by
 obtain ⟨rows,h1,h2,h3⟩:=rows_of_arg (size:=6) Tryz.underlying69 (by kernel_rfl) (by decide) (fun _=>rfl) h
 obtain ⟨l,e,h4,h5⟩:=opS_of_rows (rows:=rows) h1 (fun r hr=>by
  obtain ⟨n,y,hy⟩:=h3 r hr
  have hl:r.length=6:=h1.1 r hr
  match r,hl with
  | [c0,c1,c2,c3,c4,c5],_=>
  obtain ⟨xs,n1,_,_,_,hxl,hg⟩:=DataW.trod_struct Tryz.underlying72 hy
  have k1:Tryz.prog.cellsOf 5=1:=by kernel_rfl
  have k2:Tryz.prog.cellsOf 62=3:=by kernel_rfl
  have k3:Tryz.prog.cellsOf 2=1:=by kernel_rfl
  have k4:Tryz.prog.cellsOf 26=1:=by kernel_rfl
  have g0':DataW.trod enc Tryz.prog w base (fun _=>true) held n1 5 (List.take (Tryz.prog.cellsOf 5) (List.drop 0 [c0,c1,c2,c3,c4,c5]))=xs[0]?:=hg 0 _ rfl
  rw [k1] at g0'
  have g0:DataW.trod enc Tryz.prog w base (fun _=>true) held n1 5 [c0]=xs[0]?:=g0'
  have g1':DataW.trod enc Tryz.prog w base (fun _=>true) held n1 62 (List.take (Tryz.prog.cellsOf 62) (List.drop 1 [c0,c1,c2,c3,c4,c5]))=xs[1]?:=hg 1 _ rfl
  rw [k2] at g1'
  have g1:DataW.trod enc Tryz.prog w base (fun _=>true) held n1 62 [c1,c2,c3]=xs[1]?:=g1'
  have g2':DataW.trod enc Tryz.prog w base (fun _=>true) held n1 2 (List.take (Tryz.prog.cellsOf 2) (List.drop 4 [c0,c1,c2,c3,c4,c5]))=xs[2]?:=hg 2 _ rfl
  rw [k3] at g2'
  have g2:DataW.trod enc Tryz.prog w base (fun _=>true) held n1 2 [c4]=xs[2]?:=g2'
  have g3':DataW.trod enc Tryz.prog w base (fun _=>true) held n1 2 (List.take (Tryz.prog.cellsOf 2) (List.drop 5 [c0,c1,c2,c3,c4,c5]))=xs[3]?:=hg 3 _ rfl
  rw [k3] at g3'
  have g3:DataW.trod enc Tryz.prog w base (fun _=>true) held n1 2 [c5]=xs[3]?:=g3'
  have xl:xs.length=4:=hxl
  rw [List.getElem?_eq_getElem (by omega)] at g0 g1 g2 g3
  obtain ⟨ys,n2,_,_,_,hyl,hh⟩:=DataW.trod_struct Tryz.underlying62 g1
  have i0':DataW.trod enc Tryz.prog w base (fun _=>true) held n2 2 (List.take (Tryz.prog.cellsOf 2) (List.drop 0 [c1,c2,c3]))=ys[0]?:=hh 0 _ rfl
  rw [k3] at i0'
  have i0:DataW.trod enc Tryz.prog w base (fun _=>true) held n2 2 [c1]=ys[0]?:=i0'
  have i1':DataW.trod enc Tryz.prog w base (fun _=>true) held n2 2 (List.take (Tryz.prog.cellsOf 2) (List.drop 1 [c1,c2,c3]))=ys[1]?:=hh 1 _ rfl
  rw [k3] at i1'
  have i1:DataW.trod enc Tryz.prog w base (fun _=>true) held n2 2 [c2]=ys[1]?:=i1'
  have i2':DataW.trod enc Tryz.prog w base (fun _=>true) held n2 26 (List.take (Tryz.prog.cellsOf 26) (List.drop 2 [c1,c2,c3]))=ys[2]?:=hh 2 _ rfl
  rw [k4] at i2'
  have i2:DataW.trod enc Tryz.prog w base (fun _=>true) held n2 26 [c3]=ys[2]?:=i2'
  have yl:ys.length=3:=hyl
  rw [List.getElem?_eq_getElem (by omega)] at i0 i1 i2
  obtain ⟨a0,e0,_,w0⟩:=DataW.trod_int Tryz.underlying5 g0
  obtain ⟨a1,e1,_,w1⟩:=DataW.trod_int Tryz.underlying2 i0
  obtain ⟨a2,e2,_,w2⟩:=DataW.trod_int Tryz.underlying2 i1
  obtain ⟨a3,e3,_,w3⟩:=DataW.trod_int Tryz.underlying26 i2
  obtain ⟨a4,e4,_,w4⟩:=DataW.trod_int Tryz.underlying2 g2
  obtain ⟨a5,e5,_,w5⟩:=DataW.trod_int Tryz.underlying2 g3
  injection e0 with e0 _
  injection e1 with e1 _
  injection e2 with e2 _
  injection e3 with e3 _
  injection e4 with e4 _
  injection e5 with e5 _
  subst e0 e1 e2 e3 e4 e5
  obtain ⟨m,rfl,hm⟩:=u8_natS w0
  obtain ⟨k,rfl,hk⟩:=u32_natS w3
  exact ⟨⟨m,⟨a1,a2,k⟩,a4,a5⟩,rfl,hm,⟨i64_inS w1,i64_inS w2,hk⟩,i64_inS w4,i64_inS w5⟩)
 exact ⟨l,h4,h5,by rw [e];exact h2⟩
end Go.Proofs.YtkbaaonchdeneaaGreat
