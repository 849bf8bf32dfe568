/- maps.Keys of a model's maps, and its iterator: for every loop body. Printed by mkkeysu.py. slices.AppendSeq, Collect, Sorted at names: over whatever iterator. model.all: what a map has, by rising names. Printed by mkallm.py. -/
import Derived.RangeFuncNested
import Derived.RangeFuncBound
import Derived.RangeFuncCalls
import Derived.RangeFuncLeaves
import Derived.RangeFuncStops
import Derived.Shelf.Abstract
import Derived.Sort.MapsRangeIn
import Derived.WalkKit
import Derived.OwnWalkIn
import Derived.TacticsInMore
import Derived.RegionIn
import Derived.LoopNIn
import Derived.LoopIn
import Derived.RangeFuncBox
import Derived.Maps.AppendAt
import Derived.BigQuiet
import Derived.Deep.QuietTactic
import Derived.Deep.LoopGhost
import Derived.Deep.Light
import Derived.IntWalk
import Derived.Test.YtkmnbodlciepaaaGreatPk14
set_option maxHeartbeats 2000000
set_option maxRecDepth 100000
namespace Go.Proofs.YtkmnbodlciepaaaGreat
open Go.RowKit Go.Shelf Go.Maps
def SeenU {α:Type} (f:Nat→Option α) (left:Nat→Bool) (ss:List Nat):Prop:=ss.Nodup∧∀x,x∈ss↔((f x).isSome=true∧left x=false)
theorem SeenU.step {α:Type} {f:Nat→Option α} {left:Nat→Bool} {ss:List Nat} (h:SeenU f left ss) {x:Nat} (hx:left x=true) (hf:(f x).isSome=true):SeenU f (fun z=>left z&&z != x) (ss++[x]):=by
 have hn:x∉ss:=fun hm=>by have:=((h.2 x).1 hm).2;rw [hx] at this;cases this
 refine ⟨List.nodup_append.2 ⟨h.1,by simp,fun a ha b hb=>?_⟩,fun y=>?_⟩
 ·simp at hb;subst hb;exact fun e=>hn (e ▸ ha)
 ·rw [List.mem_append,h.2 y,List.mem_singleton]
  by_cases e:y=x
  ·subst e;simp [hf]
  ·simp [e]
theorem RangeU.of_walks {α:Type} {K:MK α} {w w':World} {b r n:Nat} {f:Nat→Option α} {left:Nat→Bool} {cnt:Nat} (h:RangeU K w b r f n left cnt) (hk:KeepsWalks w w'):RangeU K w' b r f n left cnt:=by
 obtain ⟨D,l',h1,h2⟩:=h
 exact ⟨D,l',h1.of_walks hk,h2⟩
theorem RangeU.left_eq {α:Type} {K:MK α} {w:World} {b r n:Nat} {f:Nat→Option α} {left:Nat→Bool} {cnt:Nat} (h:RangeU K w b r f n left cnt):w.rangeLeft b r=cnt:=by
 obtain ⟨D,l',h1,h2⟩:=h
 exact h1.left_eq
theorem RangeU.iter_walk {α:Type} {K:MK α} {w:World} {b r n:Nat} {f:Nat→Option α} {left:Nat→Bool} {cnt:Nat} (h:RangeU K w b r f n left cnt):∃o:Obj,w.heap[r]? = some o∧o.isWalk=true:=by
 obtain ⟨D,l',h1,h2⟩:=h
 exact h1.iter_walk
section
variable {α:Type} {K:MK α} {b r n:Nat} {f:Nat→Option α} {F:Fence} {m:Nat} {ops:Array Oper} {rest:List Oper} {o:Oper} {a:Act} {Q:Exit→Act→World→Prop}
theorem wpListIn_rangeU (w:World) (hg:o.guard=none) (mp:Operand) (hop:o.op=Op.range K.T mp) (hm:a.eval mp=.map (some b)) (h:MapU K w b f n)
 (hK:∀w',RangeU K w' b w.heap.size f n (fun x=>(f x).isSome) n→w.grownBy w' none→w'.heap.size=w.heap.size+1→wpListIn F m Tryz.prog ops Q rest (a.put o.dst (.pointer (some ⟨w.heap.size,0,none⟩))) w') :
 wpListIn F m Tryz.prog ops Q (o::rest) a w:=by
 obtain ⟨D,h1,h2,h3⟩:=h
 refine wpListIn_range_own w hg mp K.T hop K.k K.e K.keyed K.hT (RV K.enc) b n D hm h1 fun w' g1 g2 g3=>?_
 rw [h2] at g1
 exact hK w' ⟨D,_,g1,h2,h3,fun x hx=>h3.1 x hx,fun x hx=>by
  obtain ⟨y,hy⟩:=Option.isSome_iff_exists.1 hx
  exact ⟨(h3.2 x y hy).1,hx⟩⟩ g2 g3
theorem wpListIn_nextU (w:World) {left:Nat→Bool} {cnt:Nat} (hg:o.guard=none) (it:Operand) (hop:o.op=Op.next it false) (hit:a.eval it=.pointer (some ⟨r,0,none⟩)) (h:RangeU K w b r f n left cnt)
 (hDone:(∀x,left x=false)→wpListIn F m Tryz.prog ops Q rest (a.put o.dst (.tuple #[.bool false])) w)
 (hMore:∀(x:Nat) (y:α) (w':World) (cnt':Nat),x<4294967296→left x=true→f x=some y→RangeU K w' b r f n (fun z=>left z&&z != x) cnt'→cnt'<cnt→w.grownBy w' (some r)→w'.heap.size=w.heap.size→
  (Instr.entry (.pointer (some ⟨r,0,none⟩))).run Tryz.prog w'=.ok (.tuple #[.int .u32 (x:Int),K.enc y]) w'→wpListIn F m Tryz.prog ops Q rest (a.put o.dst (.tuple #[.bool true,.int .u32 (x:Int),K.enc y])) w') :
 wpListIn F m Tryz.prog ops Q (o::rest) a w:=by
 obtain ⟨D,l',h1,h2,h3,h4,h5⟩:=h
 refine wpListIn_next_ranges w hg it hop K.k K.keyed (RV K.enc) (Value.int .u32) K.enc (fun key kl hkey=>by obtain ⟨x,rfl,_⟩:=Maps.keyOf_int_inv K.hk hkey;exact ⟨x,rfl⟩) (fun v y hv=>by obtain ⟨x,rfl,_⟩:=RV_inv hv;exact ⟨x,rfl⟩)
  b r n D l' cnt hit h1 (fun _ hl=>hDone fun x=>?_) (fun xi c kl y w' cnt' hkey hlk hv hat hrg hlt hgr hsz hen=>?_)
 ·cases hx:left x with
  |false=>rfl
  |true=>
   have:=h4 x (h5 x hx).1
   rw [hl,hx] at this
   cases this
 ·obtain ⟨x',ex,rfl,hwx⟩:=Maps.keyOf_int_inv K.hk hkey
  cases ex
  have hb:0≤xi∧xi<4294967296:=by
   simp [Lit.wf,IntKind.min,IntKind.max,IntKind.signed,IntKind.bits] at hwx
   omega
  obtain ⟨x,rfl⟩:∃x:Nat,xi=(x:Int):=⟨xi.toNat,by omega⟩
  have hx:x<4294967296:=by omega
  have hleft:left x=true:=by rw [←h4 x hx];exact hlk
  obtain ⟨z,hz⟩:=Option.isSome_iff_exists.1 (h5 x hleft).2
  obtain ⟨c',ec,hy⟩:=RV_inv hv
  have hcz:c=z:=by
   have h6:=(h3.2 x z hz).2 (.nil)
   rw [hat,hy] at h6
   simp only [DataW.held.injEq] at h6
   have:=K.inj _ _ ec
   have:=K.inj _ _ h6
   simp_all
  subst hcz
  refine hMore x c w' cnt' hx hleft hz ⟨D,_,hrg,h2,h3,fun u hu=>?_,fun u hu=>?_⟩ hlt hgr hsz hen
  ·show (l' _&&!_)=(left u&&u != x)
   rw [h4 u hu]
   by_cases e:u=x
   ·subst e;rw [WideAt.sameKey_self (klit_u32 u)];simp
   ·rw [Maps.sameKey_ne (lit_ne32 e)]
    have e2:(u != x)=true:=by simpa using e
    rw [e2];rfl
  ·simp only [Bool.and_eq_true] at hu
   exact h5 u hu.1
end
theorem keysP_call (mb:Option Nat) (w:World):Calls Tryz.prog 91 #[.map mb] w fun e w'=>e=.returned (.func (.func 125) #[] #[.pointer (some ⟨w.heap.size,0,none⟩)])∧w'=w.alloc (.cells #[.map mb] 67):=by
 go_enter Tryz.func91,Tryz.ntmps91
 go_wp2
 go_ret
 exact ⟨rfl,rfl⟩
theorem keysP_in (n:Nat) (hn:1≤n) (l Bm b nn:Nat) (f:Nat→Option Pt) (J Jx:List Nat→World→Prop)
 (hY:∀(pre:List Nat) (x:Nat) W,J pre W→pre.length<nn→YieldAt Fence.wide (n - 1) Tryz.prog l #[.int .u32 (x:Int)] W fun e W'=>
  (e=.returned (.bool true)∧J (pre++[x]) W'∧KeepsWalks W W')∨(e=.returned (.bool false)∧Jx (pre++[x]) W'))
 (W:World) (hJ:AbidesFrom W.heap.size J) (hm:W.cell? ⟨Bm,0,none⟩=some (.map (some b))) (hown:MapU MKP W b f nn) (h0:J [] W) :
 CallsIn Fence.wide n Tryz.prog 125 #[.func (.yield l) #[] #[],.pointer (some ⟨Bm,0,none⟩)] W fun e W'=>(∃v,e=.returned v)∧
  ((∃ss:List Nat,(ss.Nodup∧ss.length≤nn∧∀x,x∈ss↔(f x).isSome=true)∧J ss W')∨(∃pre:List Nat,True∧Jx pre W')):=by
 refine callsIn_of_wp Tryz.func125 rfl trivial ?_ rfl
 simp only [Tryz.ntmps125,List.size_toArray,List.length_cons,List.length_nil,Nat.reduceAdd,Nat.reduceSub,Array.replicate_succ,Array.replicate_zero,List.push_toArray,List.append_toArray,List.nil_append,List.cons_append]
 gi_wp2_with (first
  |(gi_at_range;refine wpListIn_rangeU (K:=MKP) _ rfl _ rfl rfl hown ?_;intro w0 hrg0 hg0 hs0)
  |gi_in)
 go_frame
 gi_loopw [3] (fun _ wr=>∃(left:Nat→Bool) (cnt:Nat) (ss:List Nat),RangeU MKP wr b W.heap.size f nn left cnt∧ss.length+cnt≤nn∧SeenU f left ss∧J ss wr)
  (fun _ wr=>wr.rangeLeft b W.heap.size)
 case atStart=>
  exact ⟨_,_,[],hrg0,by simp,⟨List.nodup_nil,fun x=>by cases h:f x<;>simp [h]⟩,hJ [] W w0 none h0 hg0 (fun r e=>by cases e)⟩
 case round=>
  obtain ⟨left,cnt,ss,hrg,hcs,hC,hJs⟩:=hrel
  gi_wp2_with (first
   |(gi_at_next;refine wpListIn_nextU (K:=MKP) _ rfl _ rfl rfl hrg ?_ ?_)
   |gi_in)
  ·intro hl0
   gi_wp2
   go_end0
   exact ⟨⟨_,rfl⟩,.inl ⟨ss,⟨hC.1,by omega,fun x=>by rw [hC.2 x,hl0];simp⟩,hJs⟩⟩
  ·intro x y w2 cnt2 hx32 hlk hfx hrg2 hlt hg2 hs2 hen
   have hJ2:J ss w2:=hJ ss wr w2 (some W.heap.size) hJs hg2 (fun r e=>by cases e;exact ⟨Nat.le_refl _,hrg.iter_walk⟩)
   obtain ⟨fn,tmps,assign,body,hy,hR⟩:=hY ss x w2 hJ2 (by omega)
   clear hs2
   gi_wp2
   refine hR.mono ?_
   have hC2:=hC.step hlk (by rw [hfx];rfl)
   rintro e W3 (⟨rfl,hJ3,hk3⟩ | ⟨rfl,hJx3⟩)
   ·gi_wp2
    have hrg3:=hrg2.of_walks hk3
    go_roundw
    case rel=>exact ⟨_,cnt2,ss++[x],hrg3,by simp;omega,hC2,hJ3⟩
    case measure=>rw [hrg3.left_eq,hrg.left_eq];exact hlt
   ·gi_wp2
    refine bodyPost_ret (results_none rfl _ _ _) rfl ?_
    exact ⟨⟨_,rfl⟩,.inr ⟨ss++[x],trivial,hJx3⟩⟩
theorem keysP_stops (n:Nat) (hn:1≤n) (Bm b nn:Nat) (f:Nat→Option Pt) (w:World) (hBm:Bm<w.heap.size)
 (hm:w.cell? ⟨Bm,0,none⟩=some (.map (some b))) (hown:MapU MKP w b f nn) :
 SeqStopsK Fence.wide n Tryz.prog 125 #[.pointer (some ⟨Bm,0,none⟩)] (fun x:Nat=>#[Value.int .u32 (x:Int)]) KeepsWalks (fun ss=>ss.Nodup∧ss.length≤nn∧∀x,x∈ss↔(f x).isSome=true) (fun _=>True) nn w:=fun l J Jx W hW hJ _ hY h0=>by
 have hown':MapU MKP W b f nn:=by
  have hbl:=hown.lt
  obtain ⟨D,⟨es,clock,hb,r1⟩,r2⟩:=hown
  exact ⟨D,⟨es,clock,(hW.block b hbl).trans hb,r1⟩,r2⟩
 exact keysP_in n hn l Bm b nn f J Jx hY W hJ ((hW.cell (p:=⟨Bm,0,none⟩) hBm).trans hm) hown' h0
theorem keysS_call (mb:Option Nat) (w:World):Calls Tryz.prog 92 #[.map mb] w fun e w'=>e=.returned (.func (.func 126) #[] #[.pointer (some ⟨w.heap.size,0,none⟩)])∧w'=w.alloc (.cells #[.map mb] 68):=by
 go_enter Tryz.func92,Tryz.ntmps92
 go_wp2
 go_ret
 exact ⟨rfl,rfl⟩
theorem keysS_in (n:Nat) (hn:1≤n) (l Bm b nn:Nat) (f:Nat→Option Sp) (J Jx:List Nat→World→Prop)
 (hY:∀(pre:List Nat) (x:Nat) W,J pre W→pre.length<nn→YieldAt Fence.wide (n - 1) Tryz.prog l #[.int .u32 (x:Int)] W fun e W'=>
  (e=.returned (.bool true)∧J (pre++[x]) W'∧KeepsWalks W W')∨(e=.returned (.bool false)∧Jx (pre++[x]) W'))
 (W:World) (hJ:AbidesFrom W.heap.size J) (hm:W.cell? ⟨Bm,0,none⟩=some (.map (some b))) (hown:MapU MKS W b f nn) (h0:J [] W) :
 CallsIn Fence.wide n Tryz.prog 126 #[.func (.yield l) #[] #[],.pointer (some ⟨Bm,0,none⟩)] W fun e W'=>(∃v,e=.returned v)∧
  ((∃ss:List Nat,(ss.Nodup∧ss.length≤nn∧∀x,x∈ss↔(f x).isSome=true)∧J ss W')∨(∃pre:List Nat,True∧Jx pre W')):=by
 refine callsIn_of_wp Tryz.func126 rfl trivial ?_ rfl
 simp only [Tryz.ntmps126,List.size_toArray,List.length_cons,List.length_nil,Nat.reduceAdd,Nat.reduceSub,Array.replicate_succ,Array.replicate_zero,List.push_toArray,List.append_toArray,List.nil_append,List.cons_append]
 gi_wp2_with (first
  |(gi_at_range;refine wpListIn_rangeU (K:=MKS) _ rfl _ rfl rfl hown ?_;intro w0 hrg0 hg0 hs0)
  |gi_in)
 go_frame
 gi_loopw [3] (fun _ wr=>∃(left:Nat→Bool) (cnt:Nat) (ss:List Nat),RangeU MKS wr b W.heap.size f nn left cnt∧ss.length+cnt≤nn∧SeenU f left ss∧J ss wr)
  (fun _ wr=>wr.rangeLeft b W.heap.size)
 case atStart=>
  exact ⟨_,_,[],hrg0,by simp,⟨List.nodup_nil,fun x=>by cases h:f x<;>simp [h]⟩,hJ [] W w0 none h0 hg0 (fun r e=>by cases e)⟩
 case round=>
  obtain ⟨left,cnt,ss,hrg,hcs,hC,hJs⟩:=hrel
  gi_wp2_with (first
   |(gi_at_next;refine wpListIn_nextU (K:=MKS) _ rfl _ rfl rfl hrg ?_ ?_)
   |gi_in)
  ·intro hl0
   gi_wp2
   go_end0
   exact ⟨⟨_,rfl⟩,.inl ⟨ss,⟨hC.1,by omega,fun x=>by rw [hC.2 x,hl0];simp⟩,hJs⟩⟩
  ·intro x y w2 cnt2 hx32 hlk hfx hrg2 hlt hg2 hs2 hen
   have hJ2:J ss w2:=hJ ss wr w2 (some W.heap.size) hJs hg2 (fun r e=>by cases e;exact ⟨Nat.le_refl _,hrg.iter_walk⟩)
   obtain ⟨fn,tmps,assign,body,hy,hR⟩:=hY ss x w2 hJ2 (by omega)
   clear hs2
   gi_wp2
   refine hR.mono ?_
   have hC2:=hC.step hlk (by rw [hfx];rfl)
   rintro e W3 (⟨rfl,hJ3,hk3⟩ | ⟨rfl,hJx3⟩)
   ·gi_wp2
    have hrg3:=hrg2.of_walks hk3
    go_roundw
    case rel=>exact ⟨_,cnt2,ss++[x],hrg3,by simp;omega,hC2,hJ3⟩
    case measure=>rw [hrg3.left_eq,hrg.left_eq];exact hlt
   ·gi_wp2
    refine bodyPost_ret (results_none rfl _ _ _) rfl ?_
    exact ⟨⟨_,rfl⟩,.inr ⟨ss++[x],trivial,hJx3⟩⟩
theorem keysS_stops (n:Nat) (hn:1≤n) (Bm b nn:Nat) (f:Nat→Option Sp) (w:World) (hBm:Bm<w.heap.size)
 (hm:w.cell? ⟨Bm,0,none⟩=some (.map (some b))) (hown:MapU MKS w b f nn) :
 SeqStopsK Fence.wide n Tryz.prog 126 #[.pointer (some ⟨Bm,0,none⟩)] (fun x:Nat=>#[Value.int .u32 (x:Int)]) KeepsWalks (fun ss=>ss.Nodup∧ss.length≤nn∧∀x,x∈ss↔(f x).isSome=true) (fun _=>True) nn w:=fun l J Jx W hW hJ _ hY h0=>by
 have hown':MapU MKS W b f nn:=by
  have hbl:=hown.lt
  obtain ⟨D,⟨es,clock,hb,r1⟩,r2⟩:=hown
  exact ⟨D,⟨es,clock,(hW.block b hbl).trans hb,r1⟩,r2⟩
 exact keysS_in n hn l Bm b nn f J Jx hY W hJ ((hW.cell (p:=⟨Bm,0,none⟩) hBm).trans hm) hown' h0
theorem keysB_call (mb:Option Nat) (w:World):Calls Tryz.prog 93 #[.map mb] w fun e w'=>e=.returned (.func (.func 127) #[] #[.pointer (some ⟨w.heap.size,0,none⟩)])∧w'=w.alloc (.cells #[.map mb] 69):=by
 go_enter Tryz.func93,Tryz.ntmps93
 go_wp2
 go_ret
 exact ⟨rfl,rfl⟩
theorem keysB_in (n:Nat) (hn:1≤n) (l Bm b nn:Nat) (f:Nat→Option Bx) (J Jx:List Nat→World→Prop)
 (hY:∀(pre:List Nat) (x:Nat) W,J pre W→pre.length<nn→YieldAt Fence.wide (n - 1) Tryz.prog l #[.int .u32 (x:Int)] W fun e W'=>
  (e=.returned (.bool true)∧J (pre++[x]) W'∧KeepsWalks W W')∨(e=.returned (.bool false)∧Jx (pre++[x]) W'))
 (W:World) (hJ:AbidesFrom W.heap.size J) (hm:W.cell? ⟨Bm,0,none⟩=some (.map (some b))) (hown:MapU MKB W b f nn) (h0:J [] W) :
 CallsIn Fence.wide n Tryz.prog 127 #[.func (.yield l) #[] #[],.pointer (some ⟨Bm,0,none⟩)] W fun e W'=>(∃v,e=.returned v)∧
  ((∃ss:List Nat,(ss.Nodup∧ss.length≤nn∧∀x,x∈ss↔(f x).isSome=true)∧J ss W')∨(∃pre:List Nat,True∧Jx pre W')):=by
 refine callsIn_of_wp Tryz.func127 rfl trivial ?_ rfl
 simp only [Tryz.ntmps127,List.size_toArray,List.length_cons,List.length_nil,Nat.reduceAdd,Nat.reduceSub,Array.replicate_succ,Array.replicate_zero,List.push_toArray,List.append_toArray,List.nil_append,List.cons_append]
 gi_wp2_with (first
  |(gi_at_range;refine wpListIn_rangeU (K:=MKB) _ rfl _ rfl rfl hown ?_;intro w0 hrg0 hg0 hs0)
  |gi_in)
 go_frame
 gi_loopw [3] (fun _ wr=>∃(left:Nat→Bool) (cnt:Nat) (ss:List Nat),RangeU MKB wr b W.heap.size f nn left cnt∧ss.length+cnt≤nn∧SeenU f left ss∧J ss wr)
  (fun _ wr=>wr.rangeLeft b W.heap.size)
 case atStart=>
  exact ⟨_,_,[],hrg0,by simp,⟨List.nodup_nil,fun x=>by cases h:f x<;>simp [h]⟩,hJ [] W w0 none h0 hg0 (fun r e=>by cases e)⟩
 case round=>
  obtain ⟨left,cnt,ss,hrg,hcs,hC,hJs⟩:=hrel
  gi_wp2_with (first
   |(gi_at_next;refine wpListIn_nextU (K:=MKB) _ rfl _ rfl rfl hrg ?_ ?_)
   |gi_in)
  ·intro hl0
   gi_wp2
   go_end0
   exact ⟨⟨_,rfl⟩,.inl ⟨ss,⟨hC.1,by omega,fun x=>by rw [hC.2 x,hl0];simp⟩,hJs⟩⟩
  ·intro x y w2 cnt2 hx32 hlk hfx hrg2 hlt hg2 hs2 hen
   have hJ2:J ss w2:=hJ ss wr w2 (some W.heap.size) hJs hg2 (fun r e=>by cases e;exact ⟨Nat.le_refl _,hrg.iter_walk⟩)
   obtain ⟨fn,tmps,assign,body,hy,hR⟩:=hY ss x w2 hJ2 (by omega)
   clear hs2
   gi_wp2
   refine hR.mono ?_
   have hC2:=hC.step hlk (by rw [hfx];rfl)
   rintro e W3 (⟨rfl,hJ3,hk3⟩ | ⟨rfl,hJx3⟩)
   ·gi_wp2
    have hrg3:=hrg2.of_walks hk3
    go_roundw
    case rel=>exact ⟨_,cnt2,ss++[x],hrg3,by simp;omega,hC2,hJ3⟩
    case measure=>rw [hrg3.left_eq,hrg.left_eq];exact hlt
   ·gi_wp2
    refine bodyPost_ret (results_none rfl _ _ _) rfl ?_
    exact ⟨⟨_,rfl⟩,.inr ⟨ss++[x],trivial,hJx3⟩⟩
theorem keysB_stops (n:Nat) (hn:1≤n) (Bm b nn:Nat) (f:Nat→Option Bx) (w:World) (hBm:Bm<w.heap.size)
 (hm:w.cell? ⟨Bm,0,none⟩=some (.map (some b))) (hown:MapU MKB w b f nn) :
 SeqStopsK Fence.wide n Tryz.prog 127 #[.pointer (some ⟨Bm,0,none⟩)] (fun x:Nat=>#[Value.int .u32 (x:Int)]) KeepsWalks (fun ss=>ss.Nodup∧ss.length≤nn∧∀x,x∈ss↔(f x).isSome=true) (fun _=>True) nn w:=fun l J Jx W hW hJ _ hY h0=>by
 have hown':MapU MKB W b f nn:=by
  have hbl:=hown.lt
  obtain ⟨D,⟨es,clock,hb,r1⟩,r2⟩:=hown
  exact ⟨D,⟨es,clock,(hW.block b hbl).trans hb,r1⟩,r2⟩
 exact keysB_in n hn l Bm b nn f J Jx hY W hJ ((hW.cell (p:=⟨Bm,0,none⟩) hBm).trans hm) hown' h0
end Go.Proofs.YtkmnbodlciepaaaGreat
namespace Go.Proofs.YtkmnbodlciepaaaGreat
open Go.RowKit Go.Shelf
attribute [local go_sem] Oper.semAt_some
abbrev encsU:Nat→Array Value:=fun x=>#[Value.int .u32 (x:Int)]
theorem appendSeqU (n:Nat) (hn:2≤n) (g:Nat) (lb:Array Value) (eg:∀args w,(callFunc g args).run Tryz.prog w=.ok (.enter g args) w)
 (S Sp:List Nat→Prop) (N:Nat) (hN:N<1000000) (w:World) (hseq:SeqStopsK Fence.wide (n - 1) Tryz.prog g lb encsU KeepsWalks S Sp N w) :
 CallsIn Fence.wide n Tryz.prog 152 #[.slice none 0 0,.func (.func g) #[] lb] w fun e w'=>∃(v:Value) (ss:List Nat),e=.returned v∧S ss∧w'.ownsRow w.heap.size 41 1 v ss.length (KU.all ss)∧Below w.heap.size w w':=by
 have h1:1≤n:=by omega
 obtain ⟨i0,hi,hz0,hz1,hz2⟩:=info_parts info_u32
 refine callsIn_of_wp_marks Tryz.func152 rfl trivial ?_ rfl
 simp only [Tryz.ntmps152,List.size_toArray,List.length_cons,List.length_nil,Nat.reduceAdd,Nat.reduceSub,Array.replicate_succ,Array.replicate_zero,List.push_toArray,List.append_toArray,List.nil_append,List.cons_append]
 gi_wp2
 have bO:=Boxed.new w 34 (.slice none 0 0)
 have hB0:Below w.heap.size w (w.alloc (.cells #[.slice none 0 0] 34)):=(Below.refl _ w).alloc (Nat.le_refl _) _
 refine wpIn_rangeFunc_ownG rfl h1 (gf:=g) (lb:=lb) rfl trivial eg hseq walksK_t walksK_b hB0 (fun _=>rfl)
  (fun pre W=>(∃v,Boxed W w.heap.size 34 v∧W.ownsRow w.heap.size 41 1 v pre.length (KU.all pre)∧True)∧Below w.heap.size w W)
  (fun _ _ _=>False)
  (OwnFrom.and (Own.from (holdsRow_own w.heap.size w.heap.size 34 41 1 (fun pre:List Nat=>pre.length) (fun pre=>KU.all pre) (fun _ _=>True)) _) (ownFrom_below (Nat.le_refl _) (by simp)))
  (fun _ _ _ _ _ hs _ _=>hs)
  ⟨⟨_,bO,World.ownsRow_nil _ _ _ _,trivial⟩,hB0⟩
  (fun x=>{ tmps:=#[.slice none 0 0,.func (.func g) #[] lb,.pointer (some ⟨w.heap.size,0,none⟩),undef,.slice none 0 0,.int .u32 (x:Int),.func (.func g) #[] lb,.int .u32 (x:Int),undef,undef,undef,undef,undef],defers:=[] }) ?assign ?body ?done ?stop
 case assign=>
  intro l x W K hK
  gi_wp2
  exact hK
 case body=>
  rintro l pre x W ⟨⟨v,hv,hrow,_⟩,hB⟩ hlt
  have hc:=hv.cell
  gi_wp2_with (gi_at_builtin;refine wpListIn_append_own _ rfl _ _ 34 rfl w.heap.size 41 i0 (.int .u32 0) 1 4 Tryz.underlying34 hi hz0 hz1 hz2 rfl (by decide) _ _ _ rfl (hrow.alloc _) ⟨W.heap.size,0,none⟩ 1 1 [.int .u32 (x:Int)] rfl rfl (cell_one_new _ _ _) (by simp [Value.oneCell']) (by unfold maxLen;omega) (by omega) (by have:=hB.size;simp;omega) ?_;intro v' w1 hown' hgrow _;obtain ⟨g',cap',rfl⟩:=ownsRow_succ hown';obtain ⟨hv1,hv2,hr2,hk2,hb2⟩:=hv.appended (by decide) hrow hB.size (Nat.le_refl _) hown' hgrow;have hc1:=hv1.cell;have hf1:=hv1.frozen)
  refine ⟨hk2.from _,hk2.walks,⟨_,hv2,?_,trivial⟩,hB.trans hb2⟩
  rw [KU.all_app,List.length_append]
  exact hr2
 case done=>
  rintro D ys W hD hS ⟨⟨v,hv,hrow,_⟩,hB⟩ hK
  have hc:=hv.cell
  gi_wp2
  refine ⟨by simp,.inl ⟨_,_,rfl,run_takeDeferred hK,?_⟩⟩
  exact ⟨_,results_tmp rfl _ _ _,v,ys,rfl,hS,ownsRow_putObj hrow _ hK rfl,hB.trans (belowK_b (w:=w) (Nat.le_refl _) W D _ _ (by simp at hD;omega) hK rfl rfl)⟩
 case stop=>
  rintro D c pre W _ _ h _
  exact h.elim
theorem collectU (n:Nat) (hn:3≤n) (g:Nat) (lb:Array Value) (eg:∀args w,(callFunc g args).run Tryz.prog w=.ok (.enter g args) w)
 (S Sp:List Nat→Prop) (N:Nat) (hN:N<1000000) (w:World) (hseq:SeqStopsK Fence.wide (n - 1 - 1) Tryz.prog g lb encsU KeepsWalks S Sp N w) :
 CallsIn Fence.wide n Tryz.prog 124 #[.func (.func g) #[] lb] w fun e w'=>∃(v:Value) (ss:List Nat),e=.returned v∧S ss∧w'.ownsRow w.heap.size 41 1 v ss.length (KU.all ss)∧Below w.heap.size w w':=by
 have h1:1≤n:=by omega
 refine callsIn_of_wp Tryz.func124 rfl trivial ?_ rfl
 simp only [Tryz.ntmps124,List.size_toArray,List.length_cons,List.length_nil,Nat.reduceAdd,Nat.reduceSub,Array.replicate_succ,Array.replicate_zero,List.push_toArray,List.append_toArray,List.nil_append,List.cons_append]
 gi_wp2_with (refine ⟨trivial,?_⟩;gi_at_call 152;refine (appendSeqU (n - 1) (by omega) g lb eg S Sp N hN _ hseq).mono ?_;rintro e w' ⟨v,ss,rfl,hS,hrow,hb⟩)
 go_ret
 exact ⟨v,ss,rfl,hS,hrow,hb⟩
theorem sortedU (g:Nat) (lb:Array Value) (eg:∀args w,(callFunc g args).run Tryz.prog w=.ok (.enter g args) w)
 (S Sp:List Nat→Prop) (N:Nat) (hN:N<1000000) (hSN:∀ss,S ss→ss.length<1000000) (w:World) (hseq:SeqStopsK Fence.wide 4 Tryz.prog g lb encsU KeepsWalks S Sp N w) :
 Calls Tryz.prog 90 #[.func (.func g) #[] lb] w fun e w'=>∃(v:Value) (ss:List Nat),e=.returned v∧S ss∧KU.row w' w.heap.size v (sortN ss)∧Upd [] w w':=by
 have hc:Calls Tryz.prog 124 #[.func (.func g) #[] lb] w fun e w'=>∃(v:Value) (ss:List Nat),e=.returned v∧S ss∧KU.row w' w.heap.size v ss∧Upd [] w w':=by
  refine (callsIn_wide (n:=6)).1 ((collectU 6 (by omega) g lb eg S Sp N hN w hseq).mono ?_)
  rintro e w' ⟨v,ss,rfl,hS,hrow,hb⟩
  exact ⟨v,ss,rfl,hS,hrow,Upd.of_below hb⟩
 go_enter Tryz.func90,Tryz.ntmps90
 have HC:=Lib.hid hc
 clear hc hseq
 go_wp2_with (first
  |(go_at_call 124;refine HC.out.mono ?_;rintro e w1 ⟨v,ss,rfl,hS,hrow,hu⟩;have HR:=Lib.hid (And.intro hS (And.intro hrow hu));clear hS hrow hu)
  |(go_at_call 118;refine (sortU _ _ ss w1 HR.out.2.1 (hSN _ HR.out.1)).mono ?_;rintro e w2 ⟨rfl,hrow2,hu2⟩;have HQ:=Lib.hid (And.intro hrow2 hu2);clear hrow2 hu2))
 go_ret
 refine ⟨v,ss,rfl,HR.out.1,HQ.out.1,?_⟩
 exact HR.out.2.2.trans' HQ.out.2 fun k hk=>.inr (own_ge HR.out.2.1 k hk)
open Go.RowKit
theorem KU.at {w:World} {A:Option Addr} {n C:Nat} {l:List Nat} (h:See KU w (.slice A n C) l) {k:Nat} {x:Nat} (hx:l[k]? = some x) :
 ∃b o,A=some ⟨b,o,none⟩∧n≤C∧C≤maxLen∧w.cell? ⟨b,o+k,none⟩=some (.int .u32 (x:Int)):=by
 obtain ⟨b,o,h1,h2,h3,h4⟩:=h.at hx
 have:=h4 0 _ rfl
 exact ⟨b,o,h1,h2,h3,by simpa [KU] using this⟩
theorem sort_names {α:Type} {key:α→Nat} {M:List α} (ha:Asc key M) {ss:List Nat} (hn:ss.Nodup) (h:∀x,x∈ss↔(findK key M x).isSome=true):sortN ss=M.map key:=by
 have hr:(M.map key).Pairwise (· < ·):=ha
 refine (sortN_eq ?_ (hr.imp Nat.le_of_lt)).symm
 refine (List.perm_ext_iff_of_nodup (hr.imp fun h=>Nat.ne_of_lt h) hn).2 fun x=>?_
 rw [h x]
 constructor
 ·intro hx
  obtain ⟨y,hy,rfl⟩:=List.mem_map.1 hx
  rw [ha.find hy];rfl
 ·intro hx
  obtain ⟨y,hy⟩:=Option.isSome_iff_exists.1 hx
  obtain ⟨h1,rfl⟩:=findK_some hy
  exact List.mem_map.2 ⟨y,h1,rfl⟩
theorem allPC (b:Nat) (M:List Pt) (w:World) (hm:MapU MKP w b (findK Pt.id M) M.length) (ha:Asc Pt.id M) (hid:∀x∈M,x.id<4294967296) (hl:M.length<1000000) :
 Calls Tryz.prog 36 #[.map (some b)] w fun e w'=>∃A C,e=.returned (.slice A M.length C)∧KPt.row w' w.heap.size (.slice A M.length C) M∧Upd [] w w':=by
 obtain ⟨i0,hi,hz0,hz1,hz2⟩:=info_parts info_point
 have hsort:Calls Tryz.prog 90 #[.func (.func 125) #[] #[.pointer (some ⟨w.heap.size,0,none⟩)]] (w.alloc (.cells #[.map (some b)] 67)) fun e w'=>∃A C,e=.returned (.slice A M.length C)∧KU.row w' w.heap.size (.slice A M.length C) (M.map Pt.id)∧Upd [] w w':=by
  refine (sortedU 125 #[.pointer (some ⟨w.heap.size,0,none⟩)] (enters_of Tryz.func125 (by kernel_rfl) rfl) _ _ M.length hl (fun ss h=>by have:=h.2.1;omega) _
   (keysP_stops 4 (by omega) w.heap.size b M.length (findK Pt.id M) _ (by simp) (by rw [World.cell?_alloc_at _ _ _ _ rfl];rfl) (hm.upd ((Upd.refl [] w).alloc _) (by simp)))).mono ?_
  rintro e w' ⟨v,ss,rfl,hS,hrow,hu⟩
  have hs:=sort_names ha hS.1 hS.2.2
  rw [hs] at hrow
  obtain ⟨A,C,rfl⟩:=(See.of_row hrow).form
  rw [List.length_map] at hrow ⊢
  refine ⟨A,C,rfl,?_,((Upd.refl [] w).alloc _).trans' hu (by simp)⟩
  exact own_base hrow (by simp)
 have HSO:=Lib.hid hsort
 have HM:=Lib.hid hm
 have HA:=Lib.hid ha
 have HI:=Lib.hid hid
 have HL:=Lib.hid hl
 clear hsort hm ha hid hl
 go_enter Tryz.func36,Tryz.ntmps36
 go_wp2_with (first
  |(go_at_call 91;refine (keysP_call _ _).mono ?_;rintro e w1 ⟨rfl,rfl⟩)
  |(go_at_call 90;refine HSO.out.mono ?_;rintro e w2 ⟨AN,CN,rfl,hrow,hu⟩;have HR:=Lib.hid (And.intro hrow hu);clear hrow hu))
 go_loopg [3,10] (M.length) (fun m o i wr=>∃(k:Nat) (A:Option Addr) (C:Nat),m+k=M.length∧i=.int .i64 (k:Int)∧o=.slice A k C∧Upd [] w2 wr∧KPt.row wr w2.heap.size (.slice A k C) (M.take k))
 case atStart=>
  exact ⟨0,none,0,rfl,rfl,rfl,Upd.refl _ _,World.ownsRow_nil _ _ _ _⟩
 case round=>
  obtain ⟨k,A,C,hk,rfl,rfl,hu2,hrow⟩:=hrel
  have HK:=Lib.hid hk
  have hu:=HR.out.2.trans hu2
  have HW:=Lib.hid (And.intro hu2 hrow)
  have b0:(0:Int)≤(k:Int):=Int.natCast_nonneg _
  by_cases hlt:k<M.length
  ·have hd1:decide (k<M.length)=true:=decide_eq_true hlt
   obtain ⟨p,hp⟩:∃p,M[k]? = some p:=⟨_,List.getElem?_eq_getElem hlt⟩
   have hpm:p∈M:=List.mem_of_getElem? hp
   have hp32:=HI.out p hpm
   have hfind:=HA.out.find hpm
   obtain ⟨bn,on,hAn,-,-,hcn⟩:=KU.at ((See.of_row HR.out.1).upd hu2 (by simp)) (k:=k) (x:=p.id) (by rw [List.getElem?_map,hp];rfl)
   subst hAn
   obtain ⟨px,py,pi⟩:=p
   have hlook:(Instr.lookup 67 (.map (some b)) (.int .u32 (pi:Int)) false).run Tryz.prog wr=.ok (.agg #[.int .i64 px,.int .i64 py,.int .u32 (pi:Int)]) wr:=by
    have h:=(HM.out.upd hu (by simp)).look1 (x:=pi) hp32
    dsimp only at hfind
    rw [hfind] at h
    exact h
   have htk:M.take (k+1)=M.take k++[⟨px,py,pi⟩]:=by rw [List.take_add_one,hp];rfl
   have hN:k<1000000:=by have:=HL.out;omega
   have hlen:(M.take k).length=k:=by rw [List.length_take];omega
   have HT:=Lib.hid (And.intro htk (And.intro hN (And.intro hlt hlen)))
   have b1:(k:Int)<(M.length:Int):=by omega
   have b2:(k:Int)<1000000:=by omega
   clear hu hu2 hrow hk hlt hp hpm hp32 hfind htk hN hlen
   go_wp2_with (at_builtin;refine wpList_app _ rfl _ _ 29 rfl w2.heap.size 62 i0 (.agg #[.int .i64 0,.int .i64 0,.int .u32 0]) 3 24 Tryz.underlying29 hi hz0 hz1 hz2 rfl (by decide) _ k (KPt.all (M.take k)) rfl (own_upd (by have h:=HW.out.2;unfold Kind.row at h;rw [HT.out.2.2.2] at h;exact h) ((Upd.refl [] _).alloc _) (by simp)) _ 1 [.int .i64 px,.int .i64 py,.int .u32 (pi:Int)] rfl (sees_lit _ #[.int .i64 px,.int .i64 py,.int .u32 (pi:Int)] 62 3 1 rfl (by decide)) (by simp [Value.oneCell']) (by have:=HT.out.2.1;unfold maxLen;omega) (by have:=HT.out.2.1;omega) (by have:=HW.out.1.size;simp;omega) ?_)
   intro A' C' wa HP
   have hrow':KPt.row wa w2.heap.size (.slice A' (k+1) C') (M.take (k+1)):=by
    have h:=HP.own
    unfold Kind.row
    rw [HT.out.1,List.length_append,Kind.all_app,HT.out.2.2.2]
    exact h
   have hg:∀y∈blk (.slice A k C),w2.heap.size≤y:=own_ge HW.out.2
   have hua:Upd [] w2 wa:=(HW.out.1.alloc _).trans' HP.upd (fun y hy=>.inr (hg y hy))
   have HE:=Lib.hid (And.intro hua hrow')
   clear hrow' hua
   go_wp2_with fail
   go_roundg (M.length - (k+1))
   case measure=>have:=HT.out.2.2.1;have:=HK.out;omega
   case rel=>exact ⟨k+1,A',C',by have:=HT.out.2.2.1;omega,by go_num,rfl,HE.out.1,HE.out.2⟩
  ·have hd1:decide (k<M.length)=false:=decide_eq_false hlt
   have hke:k=M.length:=by omega
   have HKE:=Lib.hid hke
   clear hu hu2 hrow hk hlt hke
   go_wp2_with fail
   go_ret
   refine ⟨A,C,by rw [HKE.out];rfl,?_,HR.out.2.trans HW.out.1⟩
   have h:=HW.out.2
   rw [HKE.out,List.take_length] at h
   exact own_base h HR.out.2.size
theorem allSC (b:Nat) (M:List Sp) (w:World) (hm:MapU MKS w b (findK Sp.id M) M.length) (ha:Asc Sp.id M) (hid:∀x∈M,x.id<4294967296) (hl:M.length<1000000) :
 Calls Tryz.prog 37 #[.map (some b)] w fun e w'=>∃A C,e=.returned (.slice A M.length C)∧KSp.row w' w.heap.size (.slice A M.length C) M∧Upd [] w w':=by
 obtain ⟨i0,hi,hz0,hz1,hz2⟩:=info_parts info_span
 have hsort:Calls Tryz.prog 90 #[.func (.func 126) #[] #[.pointer (some ⟨w.heap.size,0,none⟩)]] (w.alloc (.cells #[.map (some b)] 68)) fun e w'=>∃A C,e=.returned (.slice A M.length C)∧KU.row w' w.heap.size (.slice A M.length C) (M.map Sp.id)∧Upd [] w w':=by
  refine (sortedU 126 #[.pointer (some ⟨w.heap.size,0,none⟩)] (enters_of Tryz.func126 (by kernel_rfl) rfl) _ _ M.length hl (fun ss h=>by have:=h.2.1;omega) _
   (keysS_stops 4 (by omega) w.heap.size b M.length (findK Sp.id M) _ (by simp) (by rw [World.cell?_alloc_at _ _ _ _ rfl];rfl) (hm.upd ((Upd.refl [] w).alloc _) (by simp)))).mono ?_
  rintro e w' ⟨v,ss,rfl,hS,hrow,hu⟩
  have hs:=sort_names ha hS.1 hS.2.2
  rw [hs] at hrow
  obtain ⟨A,C,rfl⟩:=(See.of_row hrow).form
  rw [List.length_map] at hrow ⊢
  refine ⟨A,C,rfl,?_,((Upd.refl [] w).alloc _).trans' hu (by simp)⟩
  exact own_base hrow (by simp)
 have HSO:=Lib.hid hsort
 have HM:=Lib.hid hm
 have HA:=Lib.hid ha
 have HI:=Lib.hid hid
 have HL:=Lib.hid hl
 clear hsort hm ha hid hl
 go_enter Tryz.func37,Tryz.ntmps37
 go_wp2_with (first
  |(go_at_call 92;refine (keysS_call _ _).mono ?_;rintro e w1 ⟨rfl,rfl⟩)
  |(go_at_call 90;refine HSO.out.mono ?_;rintro e w2 ⟨AN,CN,rfl,hrow,hu⟩;have HR:=Lib.hid (And.intro hrow hu);clear hrow hu))
 go_loopg [3,10] (M.length) (fun m o i wr=>∃(k:Nat) (A:Option Addr) (C:Nat),m+k=M.length∧i=.int .i64 (k:Int)∧o=.slice A k C∧Upd [] w2 wr∧KSp.row wr w2.heap.size (.slice A k C) (M.take k))
 case atStart=>
  exact ⟨0,none,0,rfl,rfl,rfl,Upd.refl _ _,World.ownsRow_nil _ _ _ _⟩
 case round=>
  obtain ⟨k,A,C,hk,rfl,rfl,hu2,hrow⟩:=hrel
  have HK:=Lib.hid hk
  have hu:=HR.out.2.trans hu2
  have HW:=Lib.hid (And.intro hu2 hrow)
  have b0:(0:Int)≤(k:Int):=Int.natCast_nonneg _
  by_cases hlt:k<M.length
  ·have hd1:decide (k<M.length)=true:=decide_eq_true hlt
   obtain ⟨p,hp⟩:∃p,M[k]? = some p:=⟨_,List.getElem?_eq_getElem hlt⟩
   have hpm:p∈M:=List.mem_of_getElem? hp
   have hp32:=HI.out p hpm
   have hfind:=HA.out.find hpm
   obtain ⟨bn,on,hAn,-,-,hcn⟩:=KU.at ((See.of_row HR.out.1).upd hu2 (by simp)) (k:=k) (x:=p.id) (by rw [List.getElem?_map,hp];rfl)
   subst hAn
   obtain ⟨plo,phi,pi⟩:=p
   have hlook:(Instr.lookup 68 (.map (some b)) (.int .u32 (pi:Int)) false).run Tryz.prog wr=.ok (.agg #[.int .i64 plo,.int .i64 phi,.int .u32 (pi:Int)]) wr:=by
    have h:=(HM.out.upd hu (by simp)).look1 (x:=pi) hp32
    dsimp only at hfind
    rw [hfind] at h
    exact h
   have htk:M.take (k+1)=M.take k++[⟨plo,phi,pi⟩]:=by rw [List.take_add_one,hp];rfl
   have hN:k<1000000:=by have:=HL.out;omega
   have hlen:(M.take k).length=k:=by rw [List.length_take];omega
   have HT:=Lib.hid (And.intro htk (And.intro hN (And.intro hlt hlen)))
   have b1:(k:Int)<(M.length:Int):=by omega
   have b2:(k:Int)<1000000:=by omega
   clear hu hu2 hrow hk hlt hp hpm hp32 hfind htk hN hlen
   go_wp2_with (at_builtin;refine wpList_app _ rfl _ _ 30 rfl w2.heap.size 54 i0 (.agg #[.int .i64 0,.int .i64 0,.int .u32 0]) 3 24 Tryz.underlying30 hi hz0 hz1 hz2 rfl (by decide) _ k (KSp.all (M.take k)) rfl (own_upd (by have h:=HW.out.2;unfold Kind.row at h;rw [HT.out.2.2.2] at h;exact h) ((Upd.refl [] _).alloc _) (by simp)) _ 1 [.int .i64 plo,.int .i64 phi,.int .u32 (pi:Int)] rfl (sees_lit _ #[.int .i64 plo,.int .i64 phi,.int .u32 (pi:Int)] 54 3 1 rfl (by decide)) (by simp [Value.oneCell']) (by have:=HT.out.2.1;unfold maxLen;omega) (by have:=HT.out.2.1;omega) (by have:=HW.out.1.size;simp;omega) ?_)
   intro A' C' wa HP
   have hrow':KSp.row wa w2.heap.size (.slice A' (k+1) C') (M.take (k+1)):=by
    have h:=HP.own
    unfold Kind.row
    rw [HT.out.1,List.length_append,Kind.all_app,HT.out.2.2.2]
    exact h
   have hg:∀y∈blk (.slice A k C),w2.heap.size≤y:=own_ge HW.out.2
   have hua:Upd [] w2 wa:=(HW.out.1.alloc _).trans' HP.upd (fun y hy=>.inr (hg y hy))
   have HE:=Lib.hid (And.intro hua hrow')
   clear hrow' hua
   go_wp2_with fail
   go_roundg (M.length - (k+1))
   case measure=>have:=HT.out.2.2.1;have:=HK.out;omega
   case rel=>exact ⟨k+1,A',C',by have:=HT.out.2.2.1;omega,by go_num,rfl,HE.out.1,HE.out.2⟩
  ·have hd1:decide (k<M.length)=false:=decide_eq_false hlt
   have hke:k=M.length:=by omega
   have HKE:=Lib.hid hke
   clear hu hu2 hrow hk hlt hke
   go_wp2_with fail
   go_ret
   refine ⟨A,C,by rw [HKE.out];rfl,?_,HR.out.2.trans HW.out.1⟩
   have h:=HW.out.2
   rw [HKE.out,List.take_length] at h
   exact own_base h HR.out.2.size
theorem allBC (b:Nat) (M:List Bx) (w:World) (hm:MapU MKB w b (findK Bx.id M) M.length) (ha:Asc Bx.id M) (hid:∀x∈M,x.id<4294967296) (hl:M.length<1000000) :
 Calls Tryz.prog 38 #[.map (some b)] w fun e w'=>∃A C,e=.returned (.slice A M.length C)∧KBx.row w' w.heap.size (.slice A M.length C) M∧Upd [] w w':=by
 obtain ⟨i0,hi,hz0,hz1,hz2⟩:=info_parts info_boxK
 have hsort:Calls Tryz.prog 90 #[.func (.func 127) #[] #[.pointer (some ⟨w.heap.size,0,none⟩)]] (w.alloc (.cells #[.map (some b)] 69)) fun e w'=>∃A C,e=.returned (.slice A M.length C)∧KU.row w' w.heap.size (.slice A M.length C) (M.map Bx.id)∧Upd [] w w':=by
  refine (sortedU 127 #[.pointer (some ⟨w.heap.size,0,none⟩)] (enters_of Tryz.func127 (by kernel_rfl) rfl) _ _ M.length hl (fun ss h=>by have:=h.2.1;omega) _
   (keysB_stops 4 (by omega) w.heap.size b M.length (findK Bx.id M) _ (by simp) (by rw [World.cell?_alloc_at _ _ _ _ rfl];rfl) (hm.upd ((Upd.refl [] w).alloc _) (by simp)))).mono ?_
  rintro e w' ⟨v,ss,rfl,hS,hrow,hu⟩
  have hs:=sort_names ha hS.1 hS.2.2
  rw [hs] at hrow
  obtain ⟨A,C,rfl⟩:=(See.of_row hrow).form
  rw [List.length_map] at hrow ⊢
  refine ⟨A,C,rfl,?_,((Upd.refl [] w).alloc _).trans' hu (by simp)⟩
  exact own_base hrow (by simp)
 have HSO:=Lib.hid hsort
 have HM:=Lib.hid hm
 have HA:=Lib.hid ha
 have HI:=Lib.hid hid
 have HL:=Lib.hid hl
 clear hsort hm ha hid hl
 go_enter Tryz.func38,Tryz.ntmps38
 go_wp2_with (first
  |(go_at_call 93;refine (keysB_call _ _).mono ?_;rintro e w1 ⟨rfl,rfl⟩)
  |(go_at_call 90;refine HSO.out.mono ?_;rintro e w2 ⟨AN,CN,rfl,hrow,hu⟩;have HR:=Lib.hid (And.intro hrow hu);clear hrow hu))
 go_loopg [3,10] (M.length) (fun m o i wr=>∃(k:Nat) (A:Option Addr) (C:Nat),m+k=M.length∧i=.int .i64 (k:Int)∧o=.slice A k C∧Upd [] w2 wr∧KBx.row wr w2.heap.size (.slice A k C) (M.take k))
 case atStart=>
  exact ⟨0,none,0,rfl,rfl,rfl,Upd.refl _ _,World.ownsRow_nil _ _ _ _⟩
 case round=>
  obtain ⟨k,A,C,hk,rfl,rfl,hu2,hrow⟩:=hrel
  have HK:=Lib.hid hk
  have hu:=HR.out.2.trans hu2
  have HW:=Lib.hid (And.intro hu2 hrow)
  have b0:(0:Int)≤(k:Int):=Int.natCast_nonneg _
  by_cases hlt:k<M.length
  ·have hd1:decide (k<M.length)=true:=decide_eq_true hlt
   obtain ⟨p,hp⟩:∃p,M[k]? = some p:=⟨_,List.getElem?_eq_getElem hlt⟩
   have hpm:p∈M:=List.mem_of_getElem? hp
   have hp32:=HI.out p hpm
   have hfind:=HA.out.find hpm
   obtain ⟨bn,on,hAn,-,-,hcn⟩:=KU.at ((See.of_row HR.out.1).upd hu2 (by simp)) (k:=k) (x:=p.id) (by rw [List.getElem?_map,hp];rfl)
   subst hAn
   obtain ⟨px1,px2,py1,py2,pi⟩:=p
   have hlook:(Instr.lookup 69 (.map (some b)) (.int .u32 (pi:Int)) false).run Tryz.prog wr=.ok (.agg #[.int .i64 px1,.int .i64 px2,.int .i64 py1,.int .i64 py2,.int .u32 (pi:Int)]) wr:=by
    have h:=(HM.out.upd hu (by simp)).look1 (x:=pi) hp32
    dsimp only at hfind
    rw [hfind] at h
    exact h
   have htk:M.take (k+1)=M.take k++[⟨px1,px2,py1,py2,pi⟩]:=by rw [List.take_add_one,hp];rfl
   have hN:k<1000000:=by have:=HL.out;omega
   have hlen:(M.take k).length=k:=by rw [List.length_take];omega
   have HT:=Lib.hid (And.intro htk (And.intro hN (And.intro hlt hlen)))
   have b1:(k:Int)<(M.length:Int):=by omega
   have b2:(k:Int)<1000000:=by omega
   clear hu hu2 hrow hk hlt hp hpm hp32 hfind htk hN hlen
   go_wp2_with (at_builtin;refine wpList_app _ rfl _ _ 31 rfl w2.heap.size 59 i0 (.agg #[.int .i64 0,.int .i64 0,.int .i64 0,.int .i64 0,.int .u32 0]) 5 40 Tryz.underlying31 hi hz0 hz1 hz2 rfl (by decide) _ k (KBx.all (M.take k)) rfl (own_upd (by have h:=HW.out.2;unfold Kind.row at h;rw [HT.out.2.2.2] at h;exact h) ((Upd.refl [] _).alloc _) (by simp)) _ 1 [.int .i64 px1,.int .i64 px2,.int .i64 py1,.int .i64 py2,.int .u32 (pi:Int)] rfl (sees_lit _ #[.int .i64 px1,.int .i64 px2,.int .i64 py1,.int .i64 py2,.int .u32 (pi:Int)] 59 5 1 rfl (by decide)) (by simp [Value.oneCell']) (by have:=HT.out.2.1;unfold maxLen;omega) (by have:=HT.out.2.1;omega) (by have:=HW.out.1.size;simp;omega) ?_)
   intro A' C' wa HP
   have hrow':KBx.row wa w2.heap.size (.slice A' (k+1) C') (M.take (k+1)):=by
    have h:=HP.own
    unfold Kind.row
    rw [HT.out.1,List.length_append,Kind.all_app,HT.out.2.2.2]
    exact h
   have hg:∀y∈blk (.slice A k C),w2.heap.size≤y:=own_ge HW.out.2
   have hua:Upd [] w2 wa:=(HW.out.1.alloc _).trans' HP.upd (fun y hy=>.inr (hg y hy))
   have HE:=Lib.hid (And.intro hua hrow')
   clear hrow' hua
   go_wp2_with fail
   go_roundg (M.length - (k+1))
   case measure=>have:=HT.out.2.2.1;have:=HK.out;omega
   case rel=>exact ⟨k+1,A',C',by have:=HT.out.2.2.1;omega,by go_num,rfl,HE.out.1,HE.out.2⟩
  ·have hd1:decide (k<M.length)=false:=decide_eq_false hlt
   have hke:k=M.length:=by omega
   have HKE:=Lib.hid hke
   clear hu hu2 hrow hk hlt hke
   go_wp2_with fail
   go_ret
   refine ⟨A,C,by rw [HKE.out];rfl,?_,HR.out.2.trans HW.out.1⟩
   have h:=HW.out.2
   rw [HKE.out,List.take_length] at h
   exact own_base h HR.out.2.size
end Go.Proofs.YtkmnbodlciepaaaGreat
