/- A range over a function that keeps state of its own in cells: whatever it has laid since it was called is its own; the caller's round writes to what lay before. And: a plain walk of operations serves in a round. No number of the program. rim.right and rim.up: the boxes that count, as a sweep sees them. -/
import Derived.RangeFuncNested
import Derived.RangeFuncBound
import Derived.RangeFuncCalls
import Derived.RangeFuncLeaves
import Derived.WalkKit
import Derived.OrdersIn
import Derived.TacticsInMore
import Derived.LoopNIn
import Derived.Deep.MidRow
import Derived.Test.YtkmnbodlciepaaaGreatPk1
import Derived.Test.YtkmnbodlciepaaaGreatPk17
import Derived.Test.YtkmnbodlciepaaaGreatPk48
import Derived.Test.YtkmnbodlciepaaaGreatPk6
import Derived.Test.YtkmnbodlciepaaaGreatPk49
set_option maxHeartbeats 8000000
set_option maxRecDepth 100000
namespace Go.Proofs.YtkmnbodlciepaaaGreat
open Go.RowKit
def Beyond (B:Nat) (w w':World):Prop:=∃G,Upd G w w'∧∀g∈G,g<B
theorem Beyond.size {B:Nat} {a b:World} (h:Beyond B a b):a.heap.size≤b.heap.size:=by obtain ⟨G,h,-⟩:=h;exact h.size
theorem Beyond.block {B:Nat} {a b:World} (h:Beyond B a b) (k:Nat) (h1:B≤k) (h2:k<a.heap.size):b.heap[k]? = a.heap[k]?:=by
 obtain ⟨G,h,hG⟩:=h
 exact h.block k h2 fun hk=>by have:=hG k hk;omega
theorem Beyond.refl (B:Nat) (w:World):Beyond B w w:=⟨[],Upd.refl _ _,by simp⟩
theorem Beyond.of {B:Nat} {a b:World} (h:Upd [] a b):Beyond B a b:=⟨[],h,by simp⟩
theorem Beyond.trans {B:Nat} {a b c:World} (h:Beyond B a b) (k:Beyond B b c):Beyond B a c:=by
 obtain ⟨G,h,hG⟩:=h
 obtain ⟨G',k,hG'⟩:=k
 refine ⟨G++G',(h.mono fun x hx=>.inl (by simp [hx])).trans (k.mono fun x hx=>.inl (by simp [hx])),fun g hg=>?_⟩
 rcases List.mem_append.1 hg with hg | hg
 ·exact hG g hg
 ·exact hG' g hg
theorem Beyond.upd {B:Nat} {a b c:World} {F:List Nat} (h:Beyond B a b) (k:Upd F b c) (hF:∀i∈F,i<B):Beyond B a c:=h.trans ⟨F,k,hF⟩
theorem below_put {B l:Nat} (w:World) (o:Obj) (hl:B≤l):Below B w (w.putObj l o):=
 ⟨rfl,rfl,rfl,by simp [World.putObj],fun i hi=>World.putObj_heap_other (by omega)⟩
theorem upd_putR {l:Nat} (w:World) (o:Obj):Upd [l] w (w.putObj l o):=
 ⟨rfl,rfl,rfl,by simp [World.putObj],fun i _ hi=>World.putObj_heap_other (fun e=>hi (by simp [e]))⟩
def KeepU (B l:Nat) (w w':World):Prop:=∃G,Upd G w w'∧∀g∈G,g<B∨g=l
theorem KeepU.trans {B l:Nat} {a b c:World} (h:KeepU B l a b) (k:KeepU B l b c):KeepU B l a c:=by
 obtain ⟨G,h,hG⟩:=h
 obtain ⟨G',k,hG'⟩:=k
 refine ⟨G++G',(h.mono fun x hx=>.inl (by simp [hx])).trans (k.mono fun x hx=>.inl (by simp [hx])),fun g hg=>?_⟩
 rcases List.mem_append.1 hg with hg | hg
 ·exact hG g hg
 ·exact hG' g hg
theorem Beyond.keep {B l:Nat} {a b:World} (h:Beyond B a b):KeepU B l a b:=by obtain ⟨G,h,hG⟩:=h;exact ⟨G,h,fun g hg=>.inl (hG g hg)⟩
theorem keep_put (B l:Nat) (w:World) (o:Obj):KeepU B l w (w.putObj l o):=⟨[l],upd_putR w o,fun g hg=>.inr (by simpa using hg)⟩
def SeqOwn {α:Type} (P:Program) (g:Nat) (lb:Array Value) (encs:α→Array Value) (S Pre:List α→Prop) (B:Nat) (w:World):Prop:=
 ∀(n l:Nat) (J:List α→World→Prop) (W:World),Upd [] w W→w.heap.size≤l→l<W.heap.size→(∀s C D,J s C→Below W.heap.size C D→J s D)→
  (∀pre x W1,J pre W1→Pre (pre++[x])→W.heap.size≤W1.heap.size→YieldAt Fence.wide n P l (encs x) W1 fun e W'=>e=.returned (.bool true)∧J (pre++[x]) W'∧KeepU B l W1 W')→
  J [] W→
  CallsIn Fence.wide (n+1) P g (#[.func (.yield l) #[] #[]]++lb) W fun e W'=>(∃v,e=.returned v)∧∃xs,S xs∧J xs W'
def postU {α:Type} (B:Nat) (I:List α→World→Prop) (xs:List α) (W:World):Exit→Act→World→Prop
 |.normal,_,W'=>Beyond B W W'∧I xs W'
 |_,_,_=>False
theorem wpIn_rangeFuncU {α:Type} {P:Program} {n:Nat} {g:Operand} {ps:Array Tmp} {assign body:Code} {Q:Exit→Act→World→Prop} {a:Act} {w:World}
 {gf:Nat} {lb:Array Value} (hg:a.eval g=.func (.func gf) #[] lb) (eg:∀args w,(callFunc gf args).run P w=.ok (.enter gf args) w)
 {encs:α→Array Value} {S Pre:List α→Prop} {B:Nat} (hB:B≤w.heap.size) (hseq:SeqOwn P gf lb encs S Pre B w) (hps:∀x,(encs x).size=ps.size)
 (I:List α→World→Prop) (hI:∀s C D,I s C→Below w.heap.size C D→I s D) (h0:I [] w)
 (hround:∀(l:Nat) (pre:List α) (x:α) (W:World),I pre W→Pre (pre++[x])→w.heap.size+1<W.heap.size→
  assign.wpIn (Fence.wide.inRound l) n P (Exit.then (fun a₁ W₁=>Beyond B W W₁∧
   ∀W₂,(∃o,W₂=W₁.putObj (w.heap.size+1) o)→body.wpIn (Fence.wide.inRound l) n P (postU B I (pre++[x]) W₂) a₁ W₂) (fun _ _ _=>False))
   { tmps:=(ps.zip (encs x)).foldl (fun t (p,v)=>t.setIfInBounds p v) a.tmps,defers:=[] } W)
 (hdone:∀(D:Nat) (xs:List α) (W:World),w.heap.size≤D→S xs→I xs W→W.heap[D]? = some (.deferred (some []))→Q .normal { a with defers:={ target:=.collected D,args:=#[] }::a.defers } W) :
 (Code.rangeFunc g ps assign body).wpIn Fence.wide (n+2) P Q a w:=by
 refine wpIn_rangeFunc ?_
 intro fn hfn
 obtain ⟨rec,hrec⟩:∃rec:LoopState→Option Code→Loop,rec=fun st pe=>{ state:=st,pending:=pe,fn,tmps:=a.tmps,params:=ps,assign,body,defers:=w.heap.size }:=⟨_,rfl⟩
 obtain ⟨W1,hW1⟩:∃W1,(w.alloc (.deferred (some []))).alloc (.loop (rec .ready none))=W1:=⟨_,rfl⟩
 have hL1:W1.heap[w.heap.size+1]? = some (.loop (rec .ready none)):=by
  rw [←hW1];have:=World.alloc_heap_new (w.alloc (.deferred (some []))) (.loop (rec .ready none));rwa [World.size_alloc] at this
 have hK1:W1.heap[w.heap.size]? = some (.deferred (some [])):=by
  rw [←hW1];exact (Below.heap_alloc _ _ _ (by simp)).trans (World.alloc_heap_new w _)
 have hu1:Upd [] w W1:=by rw [←hW1];exact ((Upd.refl _ _).alloc _).alloc _
 have hz1:W1.heap.size=w.heap.size+2:=by rw [←hW1];simp
 refine ⟨w.heap.size+1,[{ target:=.collected w.heap.size,args:=#[] }],W1,{ target:=.fn (.func gf) lb,args:=#[.func (.yield (w.heap.size+1)) #[] #[]] },W1,gf,
  #[.func (.yield (w.heap.size+1)) #[] #[]]++lb,W1,?_,?_,fun _ _=>trivial,?_,fun h=>by simp [Fence.wide] at h,?_⟩
 ·rw [←hW1,hrec];exact run_enterLoop_outer _ _ _ _ _
 ·simp only [resolve,hg]
  simp [go_sem]
 ·simp [invoke,go_sem,eg]
 ·refine (hseq n (w.heap.size+1) (fun pre W=>I pre W∧W.heap[w.heap.size+1]? = some (.loop (rec .ready none))∧W.heap[w.heap.size]? = some (.deferred (some []))) W1 hu1 (by omega) (by omega)
   (fun s C D hs hb=>⟨hI s C D hs.1 (hb.mono (by omega)),(hb.block _ (by omega)).trans hs.2.1,(hb.block _ (by omega)).trans hs.2.2⟩) ?_ ⟨hI [] _ _ h0 hu1.below,hL1,hK1⟩).mono ?_
  ·rintro pre x W ⟨hi,hl,hk⟩ hlen hsz
   have hlt:w.heap.size+1<W.heap.size:=(Array.getElem?_eq_some_iff.1 hl).1
   have hy:=run_yield (P:=P) (args:=encs x) hl (by rw [hrec];exact hps x)
   rw [hrec] at hy
   refine ⟨fn,_,assign,body,hy,roundIn_of_wpIn hfn (wpIn_mono (hround (w.heap.size+1) pre x W hi hlen hlt) ?_)⟩
   intro e a₁ W₁ hp
   cases e with
   |normal=>
    obtain ⟨hb,hbody⟩:=hp
    have hl1:=(hb.block _ (by omega) hlt).trans hl
    have hk1:=(hb.block _ hB (by omega)).trans hk
    refine ⟨W₁.putObj (w.heap.size+1) (.loop { rec .ready none with state:=.busy }),run_beginRound hl1 (by rw [hrec]),?_⟩
    have hl2:(W₁.putObj (w.heap.size+1) (.loop { rec .ready none with state:=.busy })).heap[w.heap.size+1]? = some (.loop { rec .ready none with state:=.busy }):=World.putObj_heap_same (by have:=hb.size;omega)
    have hk2:(W₁.putObj (w.heap.size+1) (.loop { rec .ready none with state:=.busy })).heap[w.heap.size]? = some (.deferred (some [])):=(World.putObj_heap_other (by omega)).trans hk1
    have hb2:KeepU B (w.heap.size+1) W (W₁.putObj (w.heap.size+1) (.loop { rec .ready none with state:=.busy })):=hb.keep.trans (keep_put _ _ _ _)
    have hz2:(W₁.putObj (w.heap.size+1) (.loop { rec .ready none with state:=.busy })).heap.size=W₁.heap.size:=by simp [World.putObj]
    refine wpIn_mono (hbody _ ⟨_,rfl⟩) ?_
    intro e a3 W3 hp
    cases e with
    |normal=>
     obtain ⟨hk3,hi3⟩:=hp
     have hl3:=(hk3.block _ (by omega) (by have:=hb.size;omega)).trans hl2
     have hk4:=(hk3.block _ hB (by have:=hb.size;omega)).trans hk2
     have hz3:=hk3.size
     have hr:=run_endRound (P:=P) none hl3
     refine ⟨_,_,hr,rfl,⟨hI _ _ _ hi3 (below_put _ _ (by omega)),?_,?_⟩,(hb2.trans hk3.keep).trans (keep_put _ _ _ _)⟩
     ·rw [World.putObj_heap_same (by have:=hb.size;omega)];rw [hrec];rfl
     ·exact (World.putObj_heap_other (by omega)).trans hk4
    |_=>exact hp.elim
   |_=>exact hp.elim
  ·rintro e W2 ⟨⟨v,rfl⟩,xs,hS,hi,hl,hk⟩
   exact ⟨none,_,by have:=run_endLoop (P:=P) hl (by rw [hrec];simp);rw [hrec] at this;exact this,hdone _ xs _ (Nat.le_refl _) hS (hI _ _ _ hi (below_put _ _ (by omega))) ((World.putObj_heap_other (by omega)).trans hk)⟩
theorem rowsIn_of {l m:Nat} {P:Program} {row:String} {args:Array Value} {w:World} {R:Value→World→Prop} (h:Rows P row args w R):RowsIn (Fence.wide.inRound l) m P row args w R:=fun c cs _=>by
 obtain ⟨v,w',r,s⟩:=h c cs
 exact ⟨v,w',r,stepsIn_wide.2 s⟩
theorem opIn_of_op {P:Program} {l m:Nat} {o:Oper} {a:Act} {w:World} {K:Act→World→Prop} {Q:Exit→Act→World→Prop} (hd:∀c,o.op≠.defer c) (h:o.wp P a w K Q) :
 o.wpIn (Fence.wide.inRound l) m P a w K Q:=by
 have e:o.semAt (some l) a.eval=execOp a.eval o:=Oper.semAt_some l _ _ hd
 refine ⟨fun _ _=>trivial,?_⟩
 show o.uponIn _ m P a K Q ((o.semAt (some l) a.eval).run P w)
 rw [e]
 unfold Oper.wp at h
 generalize (execOp a.eval o).run P w=r at h ⊢
 cases r with
 |ok x w'=>
  cases x with
  |enter f args=>exact ⟨fun h=>by simp [Fence.wide,Fence.inRound] at h,CallsIn.inRound l (callsIn_wide.2 h)⟩
  |row row args=>exact ⟨fun h=>by simp [Fence.wide,Fence.inRound] at h,rowsIn_of h⟩
  |value v=>exact h
  |skip=>exact h
  |defer d=>exact h
  |_=>exact h.elim
 |halt x w'=>cases x<;>exact h
def noDefer (ops:Array Oper):Bool:=ops.toList.all fun o=>match o.op with | .defer _=>false | _=>true
theorem noDefer_spec {ops:Array Oper} (h:noDefer ops=true) {i:Nat} {o:Oper} (ho:ops[i]? = some o):∀c,o.op≠.defer c:=by
 intro c e
 unfold noDefer at h
 rw [List.all_eq_true] at h
 have:=h o (by rw [Array.mem_toList_iff];exact Array.mem_of_getElem? ho)
 rw [e] at this
 cases this
theorem wpAnyIn_of {P:Program} {md:Region.Mode} {ops:Array Oper} {Q:Exit→Act→World→Prop} {l m:Nat} (hd:noDefer ops=true) (hq:¬LetsOut Q):∀(n:Nat) (L:Array Bool) (a:Act) (w:World),wpAny P md ops Q n L a w→wpAnyIn (Fence.wide.inRound l) m P md ops Q n L a w
 |0,_,_,_,h=>h
 |n+1,L,a,w,h=>⟨h.1,fun i hi=>by
  have h2:=h.2 i hi
  unfold wpOp at h2
  unfold wpOpIn
  cases ho:ops[i]? with
  |none=>rw [ho] at h2;exact wpAnyIn_of hd hq n _ _ _ h2
  |some o=>
   rw [ho] at h2
   dsimp only at h2 ⊢
   split
   ·rename_i hw
    rw [if_pos hw] at h2
    exact Oper.wpIn_mono (fun a w hh=>wpAnyIn_of hd hq n _ a w hh) (opIn_of_op (noDefer_spec hd ho) (h2.resolve_right fun h=>hq h.2))
   ·rename_i hw
    rw [if_neg hw] at h2
    exact ⟨fun _ _=>trivial,wpAnyIn_of hd hq n _ _ _ h2⟩⟩
theorem GoT.startIn {P:Program} {ops:Array Oper} {Q:Exit→Act→World→Prop} {l m id:Nat} {a:Act} {w:World} (T:List Nat) (S:World→Prop) (hm:P.follows .mixedOrders=true) (hd:noDefer ops=true) (hq:¬LetsOut Q) (hS:S w.drew)
 (h:S w.drew→GoT P ops Q S T ops.size (Array.replicate ops.size false) a w.drew):(Code.region id ops true).wpIn (Fence.wide.inRound l) m P Q a w:=
 wpIn_region_any hm (wpAnyIn_of hd hq _ _ _ _ (wpAny_of_T _ _ _ _ (h hS (Down.start _))))
def KFl:Kind Bx:={ T:=0,sT:=97,eT:=163,sz:=4,enc:=fun b=>[.int .i64 b.x1,.int .i64 b.x2,.int .i64 b.y1,.int .i64 b.y2],len:=fun _=>rfl,one:=fun b u hu=>by simp at hu;rcases hu with rfl | rfl | rfl | rfl<;>rfl }
theorem KFl.at {w:World} {A:Option Addr} {n C:Nat} {l:List Bx} (h:See KFl w (.slice A n C) l) {k:Nat} {x:Bx} (hx:l[k]? = some x) :
 ∃b o,A=some ⟨b,o,none⟩∧n≤C∧C≤maxLen∧w.cell? ⟨b,o+k*4,none⟩=some (.int .i64 x.x1)∧w.cell? ⟨b,o+k*4+1,none⟩=some (.int .i64 x.x2)∧w.cell? ⟨b,o+k*4+2,none⟩=some (.int .i64 x.y1)∧w.cell? ⟨b,o+k*4+3,none⟩=some (.int .i64 x.y2):=by
 obtain ⟨b,o,h1,h2,h3,h4⟩:=h.at hx
 exact ⟨b,o,h1,h2,h3,h4 0 _ rfl,h4 1 _ rfl,h4 2 _ rfl,h4 3 _ rfl⟩
theorem flats_take (l:List Bx) {k:Nat} {b:Bx} (hb:l[k]? = some b):flats (l.take (k+1))=flats (l.take k)++(if b.counts=true then [flB b] else []):=by
 unfold flats
 rw [List.take_add_one,hb]
 by_cases h:b.counts=true<;>simp [List.filter_append,h]
theorem info_flat:(Tryz.prog.info? 163).map (fun i=>(i.zero,i.size,i.bytes))=some (some (.agg #[.int .i64 0,.int .i64 0,.int .i64 0,.int .i64 0]),4,32):=by kernel_rfl
theorem own_set {w:World} {base:Nat} {e:TypeId} {size g n C:Nat} {xs:List Value} (h:w.ownsRow base e size (.slice (some ⟨g,0,none⟩) n C) n xs) (j:Nat) (u:Value) :
 (w.setCell ⟨g,j,none⟩ u).ownsRow base e size (.slice (some ⟨g,0,none⟩) n C) n (xs.set j u):=by
 obtain ⟨hl,h⟩:=h
 refine ⟨by rw [List.length_set];exact hl,?_⟩
 rcases h with ⟨h,-⟩ | ⟨g',cap,cur,h1,h2,h3,h4,h5,h6,h7⟩
 ·cases h
 ·cases h1
  refine .inr ⟨g,C,cur.setIfInBounds j u,rfl,h2,heap_set h3 j u,h4,h5,by simpa using h6,?_⟩
  rw [←h7,Array.toList_setIfInBounds,List.take_set]
theorem own_there {w:World} {base:Nat} {e:TypeId} {size g n C:Nat} {xs:List Value} (h:w.ownsRow base e size (.slice (some ⟨g,0,none⟩) n C) n xs) {o m:Nat} (hj:o+m≤n*size):w.there g o m:=by
 obtain ⟨hl,h⟩:=h
 rcases h with ⟨h,-⟩ | ⟨g',cap,cur,h1,h2,h3,h4,h5,h6,h7⟩
 ·cases h
 ·cases h1
  intro j hj'
  have hlt:o+j<cur.size:=by
   rw [h6]
   exact Nat.lt_of_lt_of_le (by omega) (Nat.mul_le_mul_right size h4)
  exact ⟨by simp [World.cell?,h3,hlt],by simp [World.frozen?,h3]⟩
theorem KFl.all_set:∀(l:List Bx) (k:Nat) (x:Bx),k<l.length→((((KFl.all l).set (k*4) (.int .i64 x.x1)).set (k*4+1) (.int .i64 x.x2)).set (k*4+1+1) (.int .i64 x.y1)).set (k*4+1+1+1) (.int .i64 x.y2)=KFl.all (l.set k x)
 | [],k,x,h=>by simp at h
 |y::r,0,x,_=>by simp [Kind.all,KFl]
 |y::r,k+1,x,h=>by
  have e:=KFl.all_set r k x (by simpa using h)
  rw [List.set_cons_succ]
  unfold Kind.all at e ⊢
  rw [List.flatMap_cons,List.flatMap_cons,←e]
  have e1:(k+1)*4=(KFl.enc y).length+k*4:=by rw [Nat.add_mul,show (KFl.enc y).length=4 from rfl];omega
  rw [e1]
  have hs:∀(A:List Value) (j:Nat) (u:Value),(KFl.enc y++A).set ((KFl.enc y).length+j) u=KFl.enc y++A.set j u:=fun A j u=>by
   rw [List.set_append_right _ _ (by omega),Nat.add_sub_cancel_left]
  rw [hs,Nat.add_assoc,hs,Nat.add_assoc,Nat.add_assoc,hs,Nat.add_assoc,Nat.add_assoc,Nat.add_assoc,hs]
theorem KFl.put {w:World} {base g n C:Nat} {l:List Bx} (h:KFl.row w base (.slice (some ⟨g,0,none⟩) n C) l) (hn:l.length=n) {k:Nat} (hk:k<n) (x:Bx) :
 KFl.row (w.setCells g (k*4) [.int .i64 x.x1,.int .i64 x.x2,.int .i64 x.y1,.int .i64 x.y2]) base (.slice (some ⟨g,0,none⟩) n C) (l.set k x):=by
 unfold Kind.row at *
 rw [List.length_set]
 rw [hn] at h ⊢
 rw [←KFl.all_set l k x (by omega)]
 have e:KFl.sz=4:=rfl
 rw [e] at h ⊢
 exact own_set (own_set (own_set (own_set h _ _) _ _) _ _) _ _
theorem rightF (v:Value) (l:List Bx) (w:World) (hs:See KBx w v l) (hl:l.length<400000) :
 Calls Tryz.prog 48 #[v] w fun e w'=>∃A C,e=.returned (.slice A (flats l).length C)∧KFl.row w' w.heap.size (.slice A (flats l).length C) (flats l)∧Upd [] w w':=by
 obtain ⟨iT,hiT,hT0,hT1,hT2⟩:=info_parts info_flat
 obtain ⟨A,C,rfl⟩:=hs.form
 obtain ⟨B,hB⟩:∃B,w.heap.size=B:=⟨_,rfl⟩
 rw [hB]
 have HS:=Lib.hid hs
 have HL:=Lib.hid hl
 have HBB:=Lib.hid hB
 have hll:(l.length:Int)<400000:=by omega
 clear hs hl hB
 go_enter Tryz.func48,Tryz.ntmps48
 go_wp2_with fail
 go_loopg [3,8] l.length (fun m s3 s8 wr=>∃k At Ct,m+k=l.length∧s3=.slice At (flats (l.take k)).length Ct∧s8=.int .i64 (k:Int)∧KFl.row wr B (.slice At (flats (l.take k)).length Ct) (flats (l.take k))∧Upd [] w wr)
 case atStart=>exact ⟨0,none,0,rfl,rfl,rfl,World.ownsRow_nil _ _ _ _,Upd.refl _ _⟩
 case round=>
  obtain ⟨k,At,Ct,hk,rfl,rfl,ht,hu⟩:=hrel
  have b0:(0:Int)≤(k:Int):=Int.natCast_nonneg _
  by_cases hlt:k<l.length
  ·obtain ⟨b,hb⟩:∃b,l[k]? = some b:=⟨_,List.getElem?_eq_getElem hlt⟩
   obtain ⟨bl,ol,hA,-,-,l0,l1,l2,l3,l4⟩:=KBx.at (HS.out.upd0 hu) hb
   subst hA
   have htt:=flats_take l hb
   have hlen:=flats_len (l.take k)
   have htl:(l.take k).length≤l.length:=by rw [List.length_take];omega
   obtain ⟨T,hT⟩:∃T,flats (l.take k)=T:=⟨_,rfl⟩
   rw [hT] at htt ht hlen ⊢
   obtain ⟨x1,x2,y1,y2,bi⟩:=b
   dsimp only at l0 l1 l2 l3 l4 htt
   have b1:(k:Int)<(l.length:Int):=by omega
   have HT:=Lib.hid ht
   have HTT:=Lib.hid htt
   have HLN:=Lib.hid (show T.length<900000 by have:=HL.out;omega)
   have HU:=Lib.hid hu
   have HK:=Lib.hid hk
   have HLT:=Lib.hid hlt
   have hua:Upd [] wr (wr.alloc (.cells #[.int .i64 x1,.int .i64 x2,.int .i64 y1,.int .i64 y2,.int .u32 (bi:Int)] 59)):=(Upd.refl _ _).alloc _
   have hbx:(wr.alloc (.cells #[.int .i64 x1,.int .i64 x2,.int .i64 y1,.int .i64 y2,.int .u32 (bi:Int)] 59)).heap[wr.heap.size]? = some (.cells #[.int .i64 x1,.int .i64 x2,.int .i64 y1,.int .i64 y2,.int .u32 (bi:Int)] 59 (0,0)):=heap_alloc_new _ _
   have HUA:=Lib.hid hua
   have HBX:=Lib.hid hbx
   clear ht htt hlen htl hu hk hlt hT hua hbx hb
   by_cases hx:x1<x2
   ·have g1:decide (x1<x2)=true:=decide_eq_true hx
    by_cases hy:y1<y2
    ·have g2:decide (y1<y2)=true:=decide_eq_true hy
     have hcnt:(⟨x1,x2,y1,y2,bi⟩:Bx).counts=true:=by unfold Bx.counts;simp;omega
     rw [hcnt,if_pos rfl] at HTT
     clear hx hy hcnt
     go_upto_region 6 with fail
     have HTb:=Lib.hid (show KFl.row _ B _ T from own_upd HT.out HUA.out (by simp))
     have HUb:=Lib.hid (HU.out.trans HUA.out)
     generalize (wr.alloc (.cells #[.int .i64 x1,.int .i64 x2,.int .i64 y1,.int .i64 y2,.int .u32 (bi:Int)] 59))=Wb at HBX HTb HUb HUA ⊢
     generalize wr.heap.size=q at HBX ⊢
     have c0:Wb.cell? ⟨q,0,none⟩=some (.int .i64 x1):=by have:=HBX.out;simp [World.cell?,this]
     have c1:Wb.cell? ⟨q,1,none⟩=some (.int .i64 x2):=by have:=HBX.out;simp [World.cell?,this]
     have c2:Wb.cell? ⟨q,2,none⟩=some (.int .i64 y1):=by have:=HBX.out;simp [World.cell?,this]
     have c3:Wb.cell? ⟨q,3,none⟩=some (.int .i64 y2):=by have:=HBX.out;simp [World.cell?,this]
     have HBw:=Lib.hid (show B≤Wb.heap.size by have:=HUb.out.size;rw [HBB.out] at this;exact this)
     go_wp2_with (at_builtin;refine wpList_app _ rfl _ _ 97 rfl B 163 iT (.agg #[.int .i64 0,.int .i64 0,.int .i64 0,.int .i64 0]) 4 32 Tryz.underlying97 hiT hT0 hT1 hT2 rfl (by decide) _ _ _ rfl (own_upd HTb.out ((Upd.refl [] _).alloc _) (by simp)) _ 1 [.int .i64 x1,.int .i64 x2,.int .i64 y1,.int .i64 y2] rfl (sees_lit Wb #[.int .i64 x1,.int .i64 x2,.int .i64 y1,.int .i64 y2] 163 4 1 rfl (by decide)) (by simp [Value.oneCell']) (by have:=HLN.out;unfold maxLen;omega) (by have:=HLN.out;omega) (by have:=HBw.out;simp;omega) ?_)
     intro A6 C6 w6 HP
     have u6:Upd (blk (.slice At T.length Ct)) Wb w6:=((Upd.refl _ _).alloc _).trans HP.upd
     have r6:KFl.row w6 B (.slice A6 (T.length+1) C6) (T++[flB ⟨x1,x2,y1,y2,bi⟩]):=by
      have:=HP.own
      unfold Kind.row
      rw [Kind.all_app,List.length_append]
      exact this
     have HU6:=Lib.hid (show Upd [] w w6 from HUb.out.trans' u6 (fun j hj=>.inr (by rw [HBB.out];exact own_ge HTb.out j hj)))
     have HR6:=Lib.hid r6
     clear HP u6 r6 c0 c1 c2 c3
     go_wp2_with fail
     go_roundg (l.length - (k+1))
     case measure=>have:=HK.out;have:=HLT.out;omega
     case rel=>
      refine ⟨k+1,A6,C6,by have:=HK.out;have:=HLT.out;omega,?_,by go_num,?_,HU6.out⟩
      ·rw [HTT.out,List.length_append];rfl
      ·rw [HTT.out,List.length_append];exact HR6.out
    ·have g2:decide (y1<y2)=false:=decide_eq_false hy
     have hcnt:(⟨x1,x2,y1,y2,bi⟩:Bx).counts=false:=by unfold Bx.counts;simp;omega
     rw [hcnt] at HTT
     clear hx hy hcnt
     go_wp2_with fail
     go_roundg (l.length - (k+1))
     case measure=>have:=HK.out;have:=HLT.out;omega
     case rel=>
      refine ⟨k+1,At,Ct,by have:=HK.out;have:=HLT.out;omega,?_,by go_num,?_,HU.out.trans HUA.out⟩<;>rw [HTT.out,if_neg (by simp),List.append_nil]
      exact own_upd HT.out HUA.out (by simp)
   ·have g1:decide (x1<x2)=false:=decide_eq_false hx
    have hcnt:(⟨x1,x2,y1,y2,bi⟩:Bx).counts=false:=by unfold Bx.counts;simp;omega
    rw [hcnt] at HTT
    clear hx hcnt
    go_wp2_with fail
    go_roundg (l.length - (k+1))
    case measure=>have:=HK.out;have:=HLT.out;omega
    case rel=>
     refine ⟨k+1,At,Ct,by have:=HK.out;have:=HLT.out;omega,?_,by go_num,?_,HU.out.trans HUA.out⟩<;>rw [HTT.out,if_neg (by simp),List.append_nil]
     exact own_upd HT.out HUA.out (by simp)
  ·have hke:l.take k=l:=List.take_of_length_le (by omega)
   rw [hke] at ht ⊢
   have HR:=Lib.hid (And.intro ht hu)
   clear ht hu hk hke
   go_wp2_with fail
   go_ret
   exact ⟨_,_,rfl,HR.out.1,HR.out.2⟩
theorem upF (v:Value) (l:List Bx) (w:World) (hs:See KBx w v l) (hl:l.length<400000) :
 Calls Tryz.prog 49 #[v] w fun e w'=>∃A C,e=.returned (.slice A (flats l).length C)∧KFl.row w' w.heap.size (.slice A (flats l).length C) ((flats l).map tuB)∧Upd [] w w':=by
 have hr:=rightF v l w hs hl
 have hlen:=flats_len l
 obtain ⟨T,hT⟩:∃T,flats l=T:=⟨_,rfl⟩
 rw [hT] at hr hlen ⊢
 obtain ⟨n,hn⟩:∃n,T.length=n:=⟨_,rfl⟩
 rw [hn] at hr hlen ⊢
 have HR:=Lib.hid hr
 have hnb:(n:Int)<400000:=by omega
 have HN:=Lib.hid hn
 obtain ⟨B,hB⟩:∃B,w.heap.size=B:=⟨_,rfl⟩
 rw [hB] at HR ⊢
 have HBB:=Lib.hid hB
 clear hs hr hl hlen hT hn hB
 go_enter Tryz.func49,Tryz.ntmps49
 go_wp2_with fail
 (with_reducible refine HR.out.mono ?_)
 rintro e w1 ⟨A,C,rfl,hrow,hu1⟩
 have HROW:=Lib.hid hrow
 have HU1:=Lib.hid hu1
 clear hrow hu1
 go_wp2_with fail
 go_loopg [10] n (fun m s10 wr=>∃k,m+k=n∧s10=.int .i64 (k:Int)∧KFl.row wr B (.slice A n C) ((T.take k).map tuB++T.drop k)∧Upd [] w wr)
 case atStart=>exact ⟨0,rfl,rfl,by simpa using HROW.out,HU1.out⟩
 case round=>
  obtain ⟨k,hk,rfl,ht,hu⟩:=hrel
  have b0:(0:Int)≤(k:Int):=Int.natCast_nonneg _
  by_cases hlt:k<n
  ·obtain ⟨b,hb⟩:∃b,T[k]? = some b:=⟨_,List.getElem?_eq_getElem (by have:=HN.out;omega)⟩
   obtain ⟨R,hR⟩:∃R,(T.take k).map tuB++T.drop k=R:=⟨_,rfl⟩
   have hlk:((T.take k).map tuB).length=k:=by rw [List.length_map,List.length_take];have:=HN.out;omega
   have hdk:T.drop k=b::T.drop (k+1):=by
    have hk':k<T.length:=by have:=HN.out;omega
    rw [List.drop_eq_getElem_cons hk']
    have:=List.getElem?_eq_getElem hk'
    rw [hb] at this
    cases this
    rfl
   have hRk:R[k]? = some b:=by
    rw [←hR,List.getElem?_append_right (by omega),hlk,Nat.sub_self,hdk];rfl
   have hRn:(T.take (k+1)).map tuB++T.drop (k+1)=R.set k (tuB b):=by
    rw [←hR,hdk,List.set_append_right _ _ (by omega),hlk,Nat.sub_self,List.set_cons_zero,List.take_add_one,hb,List.map_append,List.append_assoc]
    rfl
   have hRl:R.length=n:=by
    rw [←hR,List.length_append,hlk,List.length_drop];have:=HN.out;omega
   rw [hR] at ht
   obtain ⟨g,o,hA,-,-,l0,l1,l2,l3⟩:=KFl.at (See.of_row ht) hRk
   obtain ⟨g',rfl⟩:∃g',A=some ⟨g',0,none⟩:=by
    rcases ht.2 with ⟨h,-⟩ | ⟨g',cap,cur,h1,-⟩
    ·cases h;simp at hA
    ·cases h1;exact ⟨g',rfl⟩
   cases hA
   rw [Nat.zero_add] at l0 l1 l2 l3
   obtain ⟨x1,x2,y1,y2,bi⟩:=b
   dsimp only at l0 l1 l2 l3
   have b1:(k:Int)<(n:Int):=by omega
   have hrow:KFl.row wr B (.slice (some ⟨g,0,none⟩) n C) R:=ht
   have hua:Upd [] wr (wr.alloc (.cells #[.int .i64 x1,.int .i64 x2,.int .i64 y1,.int .i64 y2] 163)):=(Upd.refl _ _).alloc _
   have hbx:(wr.alloc (.cells #[.int .i64 x1,.int .i64 x2,.int .i64 y1,.int .i64 y2] 163)).heap[wr.heap.size]? = some (.cells #[.int .i64 x1,.int .i64 x2,.int .i64 y1,.int .i64 y2] 163 (0,0)):=heap_alloc_new _ _
   have HUA:=Lib.hid hua
   have HBX:=Lib.hid hbx
   have HROWk:=Lib.hid hrow
   have HRN:=Lib.hid (And.intro hRn hRl)
   have HU:=Lib.hid hu
   have HK:=Lib.hid (And.intro hk hlt)
   clear ht hb hR hlk hdk hRk hRn hRl hrow hua hbx hu hk hlt
   go_upto_region 5 with fail
   have HTb:=Lib.hid (show KFl.row _ B _ R from own_upd HROWk.out HUA.out (by simp))
   have HUb:=Lib.hid (HU.out.trans HUA.out)
   generalize (wr.alloc (.cells #[.int .i64 x1,.int .i64 x2,.int .i64 y1,.int .i64 y2] 163))=Wb at HBX HTb HUb HUA ⊢
   generalize wr.heap.size=q at HBX ⊢
   have c0:Wb.cell? ⟨q,0,none⟩=some (.int .i64 x1):=by have:=HBX.out;simp [World.cell?,this]
   have c1:Wb.cell? ⟨q,1,none⟩=some (.int .i64 x2):=by have:=HBX.out;simp [World.cell?,this]
   have c2:Wb.cell? ⟨q,2,none⟩=some (.int .i64 y1):=by have:=HBX.out;simp [World.cell?,this]
   have c3:Wb.cell? ⟨q,3,none⟩=some (.int .i64 y2):=by have:=HBX.out;simp [World.cell?,this]
   have HTH:=Lib.hid (own_there (o:=k*4) (m:=4) (show Wb.ownsRow B 163 4 (.slice (some ⟨g,0,none⟩) n C) n (KFl.all R) by have:=HTb.out;unfold Kind.row at this;rw [HRN.out.2] at this;exact this) (by have:=HK.out.2;omega))
   have HPUT:=Lib.hid (KFl.put HTb.out HRN.out.2 HK.out.2 ⟨y1,y2,x1,x2,0⟩)
   have HUP:=Lib.hid (HUb.out.trans' (upd_puts g [.int .i64 y1,.int .i64 y2,.int .i64 x1,.int .i64 x2] (k*4) Wb) (fun j hj=>.inr (by rw [HBB.out];simp at hj;rw [hj];exact own_ge HTb.out g (by simp [blk]))))
   iterate 37 go_step
   refine wpList_store_mid (P:=Tryz.prog) (x:=.tmp 26) (y:=.tmp 25) rfl 163 rfl g (k*4) #[.int .i64 y1,.int .i64 y2,.int .i64 x1,.int .i64 x2] (by simp [Act.eval]) (by simp [Act.eval]) HTH.out (by kernel_rfl) (all_oneCell_toArray (by simp [Value.oneCell'])) ?_
   simp only [Act.put]
   go_wp2_with fail
   go_roundg (n - (k+1))
   case measure=>have:=HK.out;omega
   case rel=>
    refine ⟨k+1,by have:=HK.out;omega,by go_num,?_,HUP.out⟩
    rw [HRN.out.1]
    exact HPUT.out
  ·have hke:T.take k=T:=List.take_of_length_le (by have:=HN.out;omega)
   have hkd:T.drop k = []:=List.drop_eq_nil_of_le (by have:=HN.out;omega)
   rw [hke,hkd,List.append_nil] at ht
   have HR:=Lib.hid (And.intro ht hu)
   clear ht hu hk hke hkd
   go_wp2_with fail
   go_ret
   exact ⟨_,_,rfl,HR.out.1,HR.out.2⟩
end Go.Proofs.YtkmnbodlciepaaaGreat
