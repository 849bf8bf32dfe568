/- Kinds of items (points, spans, boxes): as values, in lists, in maps; where a model lies. model.chosen: the names, rising, of those that are so. Printed by mkchos.py. -/
import Derived.BigQuiet
import Derived.Deep.QuietTactic
import Derived.Deep.LoopGhost
import Derived.Deep.Light
import Derived.IntWalk
import Derived.WalkKit
import Derived.Test.YtkmnbodlciepaaaGreatPk4
import Derived.Test.YtkmnbodlciepaaaGreatPk2
import Derived.Test.YtkmnbodlciepaaaGreatPk6
import Derived.Test.YtkmnbodlciepaaaGreatPk13
set_option maxHeartbeats 2000000
set_option maxRecDepth 100000
namespace Go.Proofs.YtkmnbodlciepaaaGreat
open Go.RowKit
def ptV (p:Pt):Value:=.agg #[.int .i64 p.x,.int .i64 p.y,.int .u32 (p.id:Int)]
def spV (s:Sp):Value:=.agg #[.int .i64 s.lo,.int .i64 s.hi,.int .u32 (s.id:Int)]
def KPt:Kind Pt:={ T:=0,sT:=29,eT:=62,sz:=3,enc:=fun p=>[.int .i64 p.x,.int .i64 p.y,.int .u32 (p.id:Int)],len:=fun _=>rfl,one:=fun b u hu=>by simp at hu;rcases hu with rfl | rfl | rfl<;>rfl }
def KSp:Kind Sp:={ T:=0,sT:=30,eT:=54,sz:=3,enc:=fun p=>[.int .i64 p.lo,.int .i64 p.hi,.int .u32 (p.id:Int)],len:=fun _=>rfl,one:=fun b u hu=>by simp at hu;rcases hu with rfl | rfl | rfl<;>rfl }
theorem info_point:(Tryz.prog.info? 62).map (fun i=>(i.zero,i.size,i.bytes))=some (some (.agg #[.int .i64 0,.int .i64 0,.int .u32 0]),3,24):=by kernel_rfl
theorem info_span:(Tryz.prog.info? 54).map (fun i=>(i.zero,i.size,i.bytes))=some (some (.agg #[.int .i64 0,.int .i64 0,.int .u32 0]),3,24):=by kernel_rfl
theorem info_boxK:(Tryz.prog.info? 59).map (fun i=>(i.zero,i.size,i.bytes))=some (some (.agg #[.int .i64 0,.int .i64 0,.int .i64 0,.int .i64 0,.int .u32 0]),5,40):=by kernel_rfl
theorem info_u32:(Tryz.prog.info? 41).map (fun i=>(i.zero,i.size,i.bytes))=some (some (.int .u32 0),1,4):=by kernel_rfl
theorem ptV_inj (x y:Pt) (h:ptV x=ptV y):x=y:=by
 obtain ⟨a,b,c⟩:=x;obtain ⟨a',b',c'⟩:=y
 simp [ptV] at h
 obtain ⟨rfl,rfl,h⟩:=h
 have:c=c':=by omega
 subst this;rfl
def MKP:MK Pt:={ T:=67,k:=41,e:=62,enc:=ptV,zero:=⟨0,0,0⟩,hT:=Tryz.underlying67,hk:=Tryz.underlying41,hz:=fun w=>(by kernel_rfl),inj:=ptV_inj }
theorem spV_inj (x y:Sp) (h:spV x=spV y):x=y:=by
 obtain ⟨a,b,c⟩:=x;obtain ⟨a',b',c'⟩:=y
 simp [spV] at h
 obtain ⟨rfl,rfl,h⟩:=h
 have:c=c':=by omega
 subst this;rfl
def MKS:MK Sp:={ T:=68,k:=41,e:=54,enc:=spV,zero:=⟨0,0,0⟩,hT:=Tryz.underlying68,hk:=Tryz.underlying41,hz:=fun w=>(by kernel_rfl),inj:=spV_inj }
theorem bxV_inj (x y:Bx) (h:bxV x=bxV y):x=y:=by
 obtain ⟨a,b,c,d,e⟩:=x;obtain ⟨a',b',c',d',e'⟩:=y
 simp [bxV] at h
 obtain ⟨rfl,rfl,rfl,rfl,h⟩:=h
 have:e=e':=by omega
 subst this;rfl
def MKB:MK Bx:={ T:=69,k:=41,e:=59,enc:=bxV,zero:=⟨0,0,0,0,0⟩,hT:=Tryz.underlying69,hk:=Tryz.underlying41,hz:=fun w=>(by kernel_rfl),inj:=bxV_inj }
def opV (o:OpP):Value:=.agg #[.int .u8 (o.code:Int),.int .i64 o.a,.int .i64 o.b,.int .i64 o.c,.int .i64 o.d,.int .u32 (o.id:Int)]
structure MdAt (w:World) (h p s x:Nat) (m:Md):Prop where
 head:w.heap[h]? = some (.cells #[.int .i64 (m.room:Int),.map (some p),.map (some s),.map (some x)] 71 (0,0))
 ps:MapU MKP w p (findK Pt.id m.ps) m.ps.length
 ss:MapU MKS w s (findK Sp.id m.ss) m.ss.length
 bs:MapU MKB w x (findK Bx.id m.bs) m.bs.length
 ok:m.ok
 ne:p≠s∧p≠x∧s≠x
theorem MapU.not_cells {α:Type} {K:MK α} {w:World} {b n:Nat} {f:Nat→Option α} (hm:MapU K w b f n) {h:Nat} {l:Array Value} {t:TypeId} {c:Nat×Nat} (hh:w.heap[h]? = some (.cells l t c)):h≠b:=by
 rintro rfl
 obtain ⟨D,⟨es,clock,hb,_⟩,_⟩:=hm
 rw [hh] at hb;cases hb
theorem MdAt.upd {F:List Nat} {w w':World} {h p s x:Nat} {m:Md} (g:MdAt w h p s x m) (hu:Upd F w w') (h0:h∉F) (h1:p∉F) (h2:s∉F) (h3:x∉F):MdAt w' h p s x m:=
 ⟨(hu.block h (lt_of_block g.head) h0).trans g.head,g.ps.upd hu h1,g.ss.upd hu h2,g.bs.upd hu h3,g.ok,g.ne⟩
theorem MdAt.upd0 {w w':World} {h p s x:Nat} {m:Md} (g:MdAt w h p s x m) (hu:Upd [] w w'):MdAt w' h p s x m:=g.upd hu (by simp) (by simp) (by simp) (by simp)
def SeenC {α:Type} (f:Nat→Option α) (p:α→Bool) (left:Nat→Bool) (ss:List Nat):Prop:=ss.Nodup∧∀x,x∈ss↔∃y,f x=some y∧p y=true∧left x=false
theorem SeenC.start {α:Type} (f:Nat→Option α) (p:α→Bool):SeenC f p (fun x=>(f x).isSome) []:=
 ⟨List.nodup_nil,fun x=>by cases h:f x<;>simp [h]⟩
theorem SeenC.hit {α:Type} {f:Nat→Option α} {p:α→Bool} {left:Nat→Bool} {ss:List Nat} (h:SeenC f p left ss) {x:Nat} {y:α} (hx:left x=true) (hf:f x=some y) (hp:p y=true):SeenC f p (fun z=>left z&&z != x) (ss++[x]):=by
 have hn:x∉ss:=fun hm=>by obtain ⟨_,_,_,h3⟩:=(h.2 x).1 hm;rw [hx] at h3;cases h3
 refine ⟨List.nodup_append.2 ⟨h.1,by simp,fun a ha b hb=>?_⟩,fun z=>?_⟩
 ·simp at hb;subst hb;exact fun e=>hn (e ▸ ha)
 ·rw [List.mem_append,h.2 z,List.mem_singleton]
  by_cases e:z=x
  ·subst e;simp [hf,hp]
  ·simp [e]
theorem SeenC.miss {α:Type} {f:Nat→Option α} {p:α→Bool} {left:Nat→Bool} {ss:List Nat} (h:SeenC f p left ss) {x:Nat} {y:α} (hx:left x=true) (hf:f x=some y) (hp:p y=false):SeenC f p (fun z=>left z&&z != x) ss:=by
 refine ⟨h.1,fun z=>?_⟩
 rw [h.2 z]
 by_cases e:z=x
 ·subst e;simp [hf,hp]
 ·simp [e]
theorem SeenC.done {α:Type} {key:α→Nat} {M:List α} {p:α→Bool} {left:Nat→Bool} {ss:List Nat} (h:SeenC (findK key M) p left ss) (ha:Asc key M) (hl:∀x,left x=false):sortN ss=namesM key M p:=by
 have hr:=names_rise ha p
 refine (sortN_eq ?_ (hr.imp Nat.le_of_lt)).symm
 refine (List.perm_ext_iff_of_nodup (hr.imp fun h=>Nat.ne_of_lt h) h.1).2 fun x=>?_
 rw [h.2 x,mem_names ha]
 simp [hl]
theorem enc_P (px py:Int) (pi:Nat):MKP.enc ⟨px,py,pi⟩=.agg #[.int .i64 px,.int .i64 py,.int .u32 (pi:Int)]:=rfl
theorem chosenPC (b:Nat) (M:List Pt) (p:Pt→Bool) (g:Nat) (lb:Array Value) (eg:∀args w,(callFunc g args).run Tryz.prog w=.ok (.enter g args) w) (w:World) (hm:MapU MKP w b (findK Pt.id M) M.length) (ha:Asc Pt.id M) (hl:M.length<1000000)
 (hso:∀(W:World) (px py:Int) (pi:Nat),(⟨px,py,pi⟩:Pt)∈M→Upd [] w W→Calls Tryz.prog g (#[.agg #[.int .i64 px,.int .i64 py,.int .u32 (pi:Int)]]++lb) W fun e w'=>e=.returned (.bool (p ⟨px,py,pi⟩))∧Upd [] W w') :
 Calls Tryz.prog 71 #[.map (some b),.func (.func g) #[] lb] w fun e w'=>∃A C,e=.returned (.slice A (namesM Pt.id M p).length C)∧KU.row w' w.heap.size (.slice A (namesM Pt.id M p).length C) (namesM Pt.id M p)∧Upd [] w w':=by
 obtain ⟨i0,hi,hz0,hz1,hz2⟩:=info_parts info_u32
 have HSO:=Lib.hid hso
 have HM:=Lib.hid hm
 have HA:=Lib.hid ha
 have HL:=Lib.hid hl
 have hbl:=hm.lt
 have HBL:=Lib.hid hbl
 clear hso hm ha hl hbl
 go_enter Tryz.func71,Tryz.ntmps71
 go_wp2_with (at_range;refine wpList_rangeU (K:=MKP) _ rfl _ rfl rfl HM.out ?_;intro w0 hrg0 hu0 hs0;have H0:=Lib.hid (And.intro hrg0 (And.intro hu0 hs0));clear hrg0 hu0 hs0)
 go_frame
 go_loopg [5] (M.length) (fun m o wr=>∃(left:Nat→Bool) (ss:List Nat) (A:Option Addr) (C:Nat),RangeU MKP wr b w.heap.size (findK Pt.id M) M.length left m∧ss.length+m≤M.length∧o=.slice A ss.length C∧Upd [] w wr∧KU.row wr (w.heap.size+1) (.slice A ss.length C) ss∧SeenC (findK Pt.id M) p left ss∧w.heap.size+1≤wr.heap.size)
 case atStart=>
  exact ⟨_,[],none,0,H0.out.1,by simp,rfl,H0.out.2.1,World.ownsRow_nil _ _ _ _,SeenC.start _ _,by rw [H0.out.2.2];exact Nat.le_refl _⟩
 case round=>
  obtain ⟨left,ss,A,C,hrg,hlen,rfl,hu,hrow,hseen,hsz⟩:=hrel
  have HW:=Lib.hid (And.intro hrg (And.intro hlen (And.intro hu (And.intro hrow (And.intro hseen hsz)))))
  clear hrg hlen hu hrow hseen hsz
  go_wp2_with (at_next;refine wpList_nextU (K:=MKP) _ rfl _ rfl rfl HW.out.1 ?_ ?_)
  ·intro hl0
   have HD:=Lib.hid hl0
   clear hl0
   go_wp2_with (go_at_call 118;refine (sortU _ _ ss _ HW.out.2.2.2.1 (by have:=HW.out.2.1;have:=HL.out;omega)).mono ?_;rintro e w2 ⟨rfl,hrow2,hu2⟩;have HQ:=Lib.hid (And.intro hrow2 hu2);clear hrow2 hu2)
   go_ret
   have hse:=HW.out.2.2.2.2.1.done HA.out HD.out
   have hln:ss.length=(namesM Pt.id M p).length:=by rw [←hse,sortN_len]
   have hr:=HQ.out.1
   rw [hse,hln] at hr
   refine ⟨A,C,by rw [←hln];rfl,own_base hr (by omega),?_⟩
   exact HW.out.2.2.1.trans' HQ.out.2 fun k hk=>.inr (by have:=own_ge HW.out.2.2.2.1 k hk;omega)
  ·intro x y w2 cnt2 hx32 hlk hfx hrg2 hlt hu2 hs2 hen
   obtain ⟨px,py,pi⟩:=y
   rw [enc_P] at hen ⊢
   have hu2w:Upd [] w w2:=HW.out.2.2.1.trans' hu2 (fun z hz=>.inr (by simp at hz;omega))
   have hrow2:KU.row w2 (w.heap.size+1) (.slice A ss.length C) ss:=own_upd HW.out.2.2.2.1 hu2 (fun k hk=>by have:=own_ge HW.out.2.2.2.1 k hk;simp;omega)
   have HR2:=Lib.hid hrow2
   clear hrow2
   have H2:=Lib.hid (And.intro hrg2 (And.intro hlt (And.intro hu2w (And.intro hs2 (And.intro hlk hfx)))))
   clear hrg2 hlt hu2 hs2 hlk hfx hu2w
   have hmem:(⟨px,py,pi⟩:Pt)∈M:=(findK_some H2.out.2.2.2.2.2).1
   go_wp2_with fail
   refine (HSO.out _ px py pi hmem (H2.out.2.2.1.alloc _)).mono ?_
   rintro e w3 ⟨rfl,hu3⟩
   have hz3:=hu3.size
   rw [World.size_alloc,H2.out.2.2.2.1] at hz3
   have hu23:Upd [] w2 w3:=((Upd.refl [] w2).alloc _).trans hu3
   have hb2:b∉([]:List Nat):=by simp
   have hrg3:=H2.out.1.upd hu23 (by simp) (by simp)
   have hrow3:KU.row w3 (w.heap.size+1) (.slice A ss.length C) ss:=own_upd HR2.out hu23 (by simp)
   have HR3:=Lib.hid hrow3
   have H3:=Lib.hid (And.intro hrg3 (And.intro (H2.out.2.2.1.trans hu23) hz3))
   clear hu3 hz3 hu23 hb2 hrg3 hmem hrow3
   cases hpx:p ⟨px,py,pi⟩ with
   |true=>
    have HPX:=Lib.hid hpx
    clear hpx
    go_wp2_with (at_builtin;refine wpList_app _ rfl _ _ 34 rfl (w.heap.size+1) 41 i0 (.int .u32 0) 1 4 Tryz.underlying34 hi hz0 hz1 hz2 rfl (by decide) _ ss.length (KU.all ss) rfl (own_upd HR3.out ((Upd.refl [] _).alloc _) (by simp)) _ 1 [.int .u32 (x:Int)] rfl (sees_lit _ #[.int .u32 (x:Int)] 41 1 1 rfl (by decide)) (by simp [Value.oneCell']) (by have:=HW.out.2.1;have:=HL.out;unfold maxLen;omega) (by have:=HW.out.2.1;have:=HL.out;omega) (by have:=H3.out.2.2;have:=HW.out.2.2.2.2.2;simp;omega) ?_)
    intro A' C' wa HP
    have hrow':KU.row wa (w.heap.size+1) (.slice A' (ss++[x]).length C') (ss++[x]):=by
     have h:=HP.own
     unfold Kind.row
     rw [List.length_append,Kind.all_app]
     exact h
    have hg:∀y∈blk (.slice A ss.length C),w.heap.size+1≤y:=own_ge HR3.out
    have hua:Upd [] w wa:=(H3.out.2.1.alloc _).trans' HP.upd (fun y hy=>.inr (by have:=hg y hy;omega))
    have hur:Upd (blk (.slice A ss.length C)) w3 wa:=((Upd.refl _ _).alloc _).trans HP.upd
    have hrga:=H3.out.1.upd hur (fun hb=>by have:=hg _ hb;have:=HBL.out;omega) (fun hb=>by have:=hg _ hb;omega)
    have hza:w.heap.size+1≤wa.heap.size:=by have:=hur.size;have:=H3.out.2.2;have:=HW.out.2.2.2.2.2;omega
    have HE:=Lib.hid (And.intro hua (And.intro hrow' (And.intro hrga hza)))
    clear hrow' hua hur hrga hza hg
    go_wp2_with fail
    go_roundg cnt2
    case measure=>exact H2.out.2.1
    case rel=>exact ⟨_,ss++[x],A',C',HE.out.2.2.1,by have:=HW.out.2.1;have:=H2.out.2.1;simp;omega,by simp,HE.out.1,HE.out.2.1,HW.out.2.2.2.2.1.hit H2.out.2.2.2.2.1 H2.out.2.2.2.2.2 HPX.out,HE.out.2.2.2⟩
   |false=>
    have HPX:=Lib.hid hpx
    clear hpx
    go_wp2_with fail
    go_roundg cnt2
    case measure=>exact H2.out.2.1
    case rel=>exact ⟨_,ss,A,C,H3.out.1,by have:=HW.out.2.1;have:=H2.out.2.1;omega,rfl,H3.out.2.1,HR3.out,HW.out.2.2.2.2.1.miss H2.out.2.2.2.2.1 H2.out.2.2.2.2.2 HPX.out,by have:=H3.out.2.2;have:=HW.out.2.2.2.2.2;omega⟩
theorem enc_S (plo phi:Int) (pi:Nat):MKS.enc ⟨plo,phi,pi⟩=.agg #[.int .i64 plo,.int .i64 phi,.int .u32 (pi:Int)]:=rfl
theorem chosenSC (b:Nat) (M:List Sp) (p:Sp→Bool) (g:Nat) (lb:Array Value) (eg:∀args w,(callFunc g args).run Tryz.prog w=.ok (.enter g args) w) (w:World) (hm:MapU MKS w b (findK Sp.id M) M.length) (ha:Asc Sp.id M) (hl:M.length<1000000)
 (hso:∀(W:World) (plo phi:Int) (pi:Nat),(⟨plo,phi,pi⟩:Sp)∈M→Upd [] w W→Calls Tryz.prog g (#[.agg #[.int .i64 plo,.int .i64 phi,.int .u32 (pi:Int)]]++lb) W fun e w'=>e=.returned (.bool (p ⟨plo,phi,pi⟩))∧Upd [] W w') :
 Calls Tryz.prog 82 #[.map (some b),.func (.func g) #[] lb] w fun e w'=>∃A C,e=.returned (.slice A (namesM Sp.id M p).length C)∧KU.row w' w.heap.size (.slice A (namesM Sp.id M p).length C) (namesM Sp.id M p)∧Upd [] w w':=by
 obtain ⟨i0,hi,hz0,hz1,hz2⟩:=info_parts info_u32
 have HSO:=Lib.hid hso
 have HM:=Lib.hid hm
 have HA:=Lib.hid ha
 have HL:=Lib.hid hl
 have hbl:=hm.lt
 have HBL:=Lib.hid hbl
 clear hso hm ha hl hbl
 go_enter Tryz.func82,Tryz.ntmps82
 go_wp2_with (at_range;refine wpList_rangeU (K:=MKS) _ rfl _ rfl rfl HM.out ?_;intro w0 hrg0 hu0 hs0;have H0:=Lib.hid (And.intro hrg0 (And.intro hu0 hs0));clear hrg0 hu0 hs0)
 go_frame
 go_loopg [5] (M.length) (fun m o wr=>∃(left:Nat→Bool) (ss:List Nat) (A:Option Addr) (C:Nat),RangeU MKS wr b w.heap.size (findK Sp.id M) M.length left m∧ss.length+m≤M.length∧o=.slice A ss.length C∧Upd [] w wr∧KU.row wr (w.heap.size+1) (.slice A ss.length C) ss∧SeenC (findK Sp.id M) p left ss∧w.heap.size+1≤wr.heap.size)
 case atStart=>
  exact ⟨_,[],none,0,H0.out.1,by simp,rfl,H0.out.2.1,World.ownsRow_nil _ _ _ _,SeenC.start _ _,by rw [H0.out.2.2];exact Nat.le_refl _⟩
 case round=>
  obtain ⟨left,ss,A,C,hrg,hlen,rfl,hu,hrow,hseen,hsz⟩:=hrel
  have HW:=Lib.hid (And.intro hrg (And.intro hlen (And.intro hu (And.intro hrow (And.intro hseen hsz)))))
  clear hrg hlen hu hrow hseen hsz
  go_wp2_with (at_next;refine wpList_nextU (K:=MKS) _ rfl _ rfl rfl HW.out.1 ?_ ?_)
  ·intro hl0
   have HD:=Lib.hid hl0
   clear hl0
   go_wp2_with (go_at_call 118;refine (sortU _ _ ss _ HW.out.2.2.2.1 (by have:=HW.out.2.1;have:=HL.out;omega)).mono ?_;rintro e w2 ⟨rfl,hrow2,hu2⟩;have HQ:=Lib.hid (And.intro hrow2 hu2);clear hrow2 hu2)
   go_ret
   have hse:=HW.out.2.2.2.2.1.done HA.out HD.out
   have hln:ss.length=(namesM Sp.id M p).length:=by rw [←hse,sortN_len]
   have hr:=HQ.out.1
   rw [hse,hln] at hr
   refine ⟨A,C,by rw [←hln];rfl,own_base hr (by omega),?_⟩
   exact HW.out.2.2.1.trans' HQ.out.2 fun k hk=>.inr (by have:=own_ge HW.out.2.2.2.1 k hk;omega)
  ·intro x y w2 cnt2 hx32 hlk hfx hrg2 hlt hu2 hs2 hen
   obtain ⟨plo,phi,pi⟩:=y
   rw [enc_S] at hen ⊢
   have hu2w:Upd [] w w2:=HW.out.2.2.1.trans' hu2 (fun z hz=>.inr (by simp at hz;omega))
   have hrow2:KU.row w2 (w.heap.size+1) (.slice A ss.length C) ss:=own_upd HW.out.2.2.2.1 hu2 (fun k hk=>by have:=own_ge HW.out.2.2.2.1 k hk;simp;omega)
   have HR2:=Lib.hid hrow2
   clear hrow2
   have H2:=Lib.hid (And.intro hrg2 (And.intro hlt (And.intro hu2w (And.intro hs2 (And.intro hlk hfx)))))
   clear hrg2 hlt hu2 hs2 hlk hfx hu2w
   have hmem:(⟨plo,phi,pi⟩:Sp)∈M:=(findK_some H2.out.2.2.2.2.2).1
   go_wp2_with fail
   refine (HSO.out _ plo phi pi hmem (H2.out.2.2.1.alloc _)).mono ?_
   rintro e w3 ⟨rfl,hu3⟩
   have hz3:=hu3.size
   rw [World.size_alloc,H2.out.2.2.2.1] at hz3
   have hu23:Upd [] w2 w3:=((Upd.refl [] w2).alloc _).trans hu3
   have hb2:b∉([]:List Nat):=by simp
   have hrg3:=H2.out.1.upd hu23 (by simp) (by simp)
   have hrow3:KU.row w3 (w.heap.size+1) (.slice A ss.length C) ss:=own_upd HR2.out hu23 (by simp)
   have HR3:=Lib.hid hrow3
   have H3:=Lib.hid (And.intro hrg3 (And.intro (H2.out.2.2.1.trans hu23) hz3))
   clear hu3 hz3 hu23 hb2 hrg3 hmem hrow3
   cases hpx:p ⟨plo,phi,pi⟩ with
   |true=>
    have HPX:=Lib.hid hpx
    clear hpx
    go_wp2_with (at_builtin;refine wpList_app _ rfl _ _ 34 rfl (w.heap.size+1) 41 i0 (.int .u32 0) 1 4 Tryz.underlying34 hi hz0 hz1 hz2 rfl (by decide) _ ss.length (KU.all ss) rfl (own_upd HR3.out ((Upd.refl [] _).alloc _) (by simp)) _ 1 [.int .u32 (x:Int)] rfl (sees_lit _ #[.int .u32 (x:Int)] 41 1 1 rfl (by decide)) (by simp [Value.oneCell']) (by have:=HW.out.2.1;have:=HL.out;unfold maxLen;omega) (by have:=HW.out.2.1;have:=HL.out;omega) (by have:=H3.out.2.2;have:=HW.out.2.2.2.2.2;simp;omega) ?_)
    intro A' C' wa HP
    have hrow':KU.row wa (w.heap.size+1) (.slice A' (ss++[x]).length C') (ss++[x]):=by
     have h:=HP.own
     unfold Kind.row
     rw [List.length_append,Kind.all_app]
     exact h
    have hg:∀y∈blk (.slice A ss.length C),w.heap.size+1≤y:=own_ge HR3.out
    have hua:Upd [] w wa:=(H3.out.2.1.alloc _).trans' HP.upd (fun y hy=>.inr (by have:=hg y hy;omega))
    have hur:Upd (blk (.slice A ss.length C)) w3 wa:=((Upd.refl _ _).alloc _).trans HP.upd
    have hrga:=H3.out.1.upd hur (fun hb=>by have:=hg _ hb;have:=HBL.out;omega) (fun hb=>by have:=hg _ hb;omega)
    have hza:w.heap.size+1≤wa.heap.size:=by have:=hur.size;have:=H3.out.2.2;have:=HW.out.2.2.2.2.2;omega
    have HE:=Lib.hid (And.intro hua (And.intro hrow' (And.intro hrga hza)))
    clear hrow' hua hur hrga hza hg
    go_wp2_with fail
    go_roundg cnt2
    case measure=>exact H2.out.2.1
    case rel=>exact ⟨_,ss++[x],A',C',HE.out.2.2.1,by have:=HW.out.2.1;have:=H2.out.2.1;simp;omega,by simp,HE.out.1,HE.out.2.1,HW.out.2.2.2.2.1.hit H2.out.2.2.2.2.1 H2.out.2.2.2.2.2 HPX.out,HE.out.2.2.2⟩
   |false=>
    have HPX:=Lib.hid hpx
    clear hpx
    go_wp2_with fail
    go_roundg cnt2
    case measure=>exact H2.out.2.1
    case rel=>exact ⟨_,ss,A,C,H3.out.1,by have:=HW.out.2.1;have:=H2.out.2.1;omega,rfl,H3.out.2.1,HR3.out,HW.out.2.2.2.2.1.miss H2.out.2.2.2.2.1 H2.out.2.2.2.2.2 HPX.out,by have:=H3.out.2.2;have:=HW.out.2.2.2.2.2;omega⟩
theorem enc_B (px1 px2 py1 py2:Int) (pi:Nat):MKB.enc ⟨px1,px2,py1,py2,pi⟩=.agg #[.int .i64 px1,.int .i64 px2,.int .i64 py1,.int .i64 py2,.int .u32 (pi:Int)]:=rfl
theorem chosenBC (b:Nat) (M:List Bx) (p:Bx→Bool) (g:Nat) (lb:Array Value) (eg:∀args w,(callFunc g args).run Tryz.prog w=.ok (.enter g args) w) (w:World) (hm:MapU MKB w b (findK Bx.id M) M.length) (ha:Asc Bx.id M) (hl:M.length<1000000)
 (hso:∀(W:World) (px1 px2 py1 py2:Int) (pi:Nat),(⟨px1,px2,py1,py2,pi⟩:Bx)∈M→Upd [] w W→Calls Tryz.prog g (#[.agg #[.int .i64 px1,.int .i64 px2,.int .i64 py1,.int .i64 py2,.int .u32 (pi:Int)]]++lb) W fun e w'=>e=.returned (.bool (p ⟨px1,px2,py1,py2,pi⟩))∧Upd [] W w') :
 Calls Tryz.prog 88 #[.map (some b),.func (.func g) #[] lb] w fun e w'=>∃A C,e=.returned (.slice A (namesM Bx.id M p).length C)∧KU.row w' w.heap.size (.slice A (namesM Bx.id M p).length C) (namesM Bx.id M p)∧Upd [] w w':=by
 obtain ⟨i0,hi,hz0,hz1,hz2⟩:=info_parts info_u32
 have HSO:=Lib.hid hso
 have HM:=Lib.hid hm
 have HA:=Lib.hid ha
 have HL:=Lib.hid hl
 have hbl:=hm.lt
 have HBL:=Lib.hid hbl
 clear hso hm ha hl hbl
 go_enter Tryz.func88,Tryz.ntmps88
 go_wp2_with (at_range;refine wpList_rangeU (K:=MKB) _ rfl _ rfl rfl HM.out ?_;intro w0 hrg0 hu0 hs0;have H0:=Lib.hid (And.intro hrg0 (And.intro hu0 hs0));clear hrg0 hu0 hs0)
 go_frame
 go_loopg [5] (M.length) (fun m o wr=>∃(left:Nat→Bool) (ss:List Nat) (A:Option Addr) (C:Nat),RangeU MKB wr b w.heap.size (findK Bx.id M) M.length left m∧ss.length+m≤M.length∧o=.slice A ss.length C∧Upd [] w wr∧KU.row wr (w.heap.size+1) (.slice A ss.length C) ss∧SeenC (findK Bx.id M) p left ss∧w.heap.size+1≤wr.heap.size)
 case atStart=>
  exact ⟨_,[],none,0,H0.out.1,by simp,rfl,H0.out.2.1,World.ownsRow_nil _ _ _ _,SeenC.start _ _,by rw [H0.out.2.2];exact Nat.le_refl _⟩
 case round=>
  obtain ⟨left,ss,A,C,hrg,hlen,rfl,hu,hrow,hseen,hsz⟩:=hrel
  have HW:=Lib.hid (And.intro hrg (And.intro hlen (And.intro hu (And.intro hrow (And.intro hseen hsz)))))
  clear hrg hlen hu hrow hseen hsz
  go_wp2_with (at_next;refine wpList_nextU (K:=MKB) _ rfl _ rfl rfl HW.out.1 ?_ ?_)
  ·intro hl0
   have HD:=Lib.hid hl0
   clear hl0
   go_wp2_with (go_at_call 118;refine (sortU _ _ ss _ HW.out.2.2.2.1 (by have:=HW.out.2.1;have:=HL.out;omega)).mono ?_;rintro e w2 ⟨rfl,hrow2,hu2⟩;have HQ:=Lib.hid (And.intro hrow2 hu2);clear hrow2 hu2)
   go_ret
   have hse:=HW.out.2.2.2.2.1.done HA.out HD.out
   have hln:ss.length=(namesM Bx.id M p).length:=by rw [←hse,sortN_len]
   have hr:=HQ.out.1
   rw [hse,hln] at hr
   refine ⟨A,C,by rw [←hln];rfl,own_base hr (by omega),?_⟩
   exact HW.out.2.2.1.trans' HQ.out.2 fun k hk=>.inr (by have:=own_ge HW.out.2.2.2.1 k hk;omega)
  ·intro x y w2 cnt2 hx32 hlk hfx hrg2 hlt hu2 hs2 hen
   obtain ⟨px1,px2,py1,py2,pi⟩:=y
   rw [enc_B] at hen ⊢
   have hu2w:Upd [] w w2:=HW.out.2.2.1.trans' hu2 (fun z hz=>.inr (by simp at hz;omega))
   have hrow2:KU.row w2 (w.heap.size+1) (.slice A ss.length C) ss:=own_upd HW.out.2.2.2.1 hu2 (fun k hk=>by have:=own_ge HW.out.2.2.2.1 k hk;simp;omega)
   have HR2:=Lib.hid hrow2
   clear hrow2
   have H2:=Lib.hid (And.intro hrg2 (And.intro hlt (And.intro hu2w (And.intro hs2 (And.intro hlk hfx)))))
   clear hrg2 hlt hu2 hs2 hlk hfx hu2w
   have hmem:(⟨px1,px2,py1,py2,pi⟩:Bx)∈M:=(findK_some H2.out.2.2.2.2.2).1
   go_wp2_with fail
   refine (HSO.out _ px1 px2 py1 py2 pi hmem (H2.out.2.2.1.alloc _)).mono ?_
   rintro e w3 ⟨rfl,hu3⟩
   have hz3:=hu3.size
   rw [World.size_alloc,H2.out.2.2.2.1] at hz3
   have hu23:Upd [] w2 w3:=((Upd.refl [] w2).alloc _).trans hu3
   have hb2:b∉([]:List Nat):=by simp
   have hrg3:=H2.out.1.upd hu23 (by simp) (by simp)
   have hrow3:KU.row w3 (w.heap.size+1) (.slice A ss.length C) ss:=own_upd HR2.out hu23 (by simp)
   have HR3:=Lib.hid hrow3
   have H3:=Lib.hid (And.intro hrg3 (And.intro (H2.out.2.2.1.trans hu23) hz3))
   clear hu3 hz3 hu23 hb2 hrg3 hmem hrow3
   cases hpx:p ⟨px1,px2,py1,py2,pi⟩ with
   |true=>
    have HPX:=Lib.hid hpx
    clear hpx
    go_wp2_with (at_builtin;refine wpList_app _ rfl _ _ 34 rfl (w.heap.size+1) 41 i0 (.int .u32 0) 1 4 Tryz.underlying34 hi hz0 hz1 hz2 rfl (by decide) _ ss.length (KU.all ss) rfl (own_upd HR3.out ((Upd.refl [] _).alloc _) (by simp)) _ 1 [.int .u32 (x:Int)] rfl (sees_lit _ #[.int .u32 (x:Int)] 41 1 1 rfl (by decide)) (by simp [Value.oneCell']) (by have:=HW.out.2.1;have:=HL.out;unfold maxLen;omega) (by have:=HW.out.2.1;have:=HL.out;omega) (by have:=H3.out.2.2;have:=HW.out.2.2.2.2.2;simp;omega) ?_)
    intro A' C' wa HP
    have hrow':KU.row wa (w.heap.size+1) (.slice A' (ss++[x]).length C') (ss++[x]):=by
     have h:=HP.own
     unfold Kind.row
     rw [List.length_append,Kind.all_app]
     exact h
    have hg:∀y∈blk (.slice A ss.length C),w.heap.size+1≤y:=own_ge HR3.out
    have hua:Upd [] w wa:=(H3.out.2.1.alloc _).trans' HP.upd (fun y hy=>.inr (by have:=hg y hy;omega))
    have hur:Upd (blk (.slice A ss.length C)) w3 wa:=((Upd.refl _ _).alloc _).trans HP.upd
    have hrga:=H3.out.1.upd hur (fun hb=>by have:=hg _ hb;have:=HBL.out;omega) (fun hb=>by have:=hg _ hb;omega)
    have hza:w.heap.size+1≤wa.heap.size:=by have:=hur.size;have:=H3.out.2.2;have:=HW.out.2.2.2.2.2;omega
    have HE:=Lib.hid (And.intro hua (And.intro hrow' (And.intro hrga hza)))
    clear hrow' hua hur hrga hza hg
    go_wp2_with fail
    go_roundg cnt2
    case measure=>exact H2.out.2.1
    case rel=>exact ⟨_,ss++[x],A',C',HE.out.2.2.1,by have:=HW.out.2.1;have:=H2.out.2.1;simp;omega,by simp,HE.out.1,HE.out.2.1,HW.out.2.2.2.2.1.hit H2.out.2.2.2.2.1 H2.out.2.2.2.2.2 HPX.out,HE.out.2.2.2⟩
   |false=>
    have HPX:=Lib.hid hpx
    clear hpx
    go_wp2_with fail
    go_roundg cnt2
    case measure=>exact H2.out.2.1
    case rel=>exact ⟨_,ss,A,C,H3.out.1,by have:=HW.out.2.1;have:=H2.out.2.1;omega,rfl,H3.out.2.1,HR3.out,HW.out.2.2.2.2.1.miss H2.out.2.2.2.2.1 H2.out.2.2.2.2.2 HPX.out,by have:=H3.out.2.2;have:=HW.out.2.2.2.2.2;omega⟩
end Go.Proofs.YtkmnbodlciepaaaGreat
