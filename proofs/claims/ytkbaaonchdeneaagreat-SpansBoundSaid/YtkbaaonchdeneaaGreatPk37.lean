/- seg, of no tree: Stab. A seg tree and what it tells: Len, Stab, Count, Drop, Weight. seg.Drop: what is left; the frame of the walk; what the model's '==' says of spans. seg.Drop. Printed by mksegg.py. seg.Drop of a span between the ends. Printed by mksegg.py. A seg tree: what Drop leaves, what it weighs. How many nodes a number touches. (The head of SegV, without SegM.) -/
import Derived.Laws.StructEq
import Derived.WalkMore
import Derived.Deep.LoopGhost
import Derived.Test.YtkbaaonchdeneaaGreatPkSpansTellP10
import Derived.Test.YtkbaaonchdeneaaGreatPk36
import Derived.Test.YtkbaaonchdeneaaGreatPkSpansTellP5
import Derived.Test.YtkbaaonchdeneaaGreatPk19
set_option maxHeartbeats 16000000
set_option maxRecDepth 100000
namespace Go.Proofs.YtkbaaonchdeneaaGreat
open Go.RowKit
attribute [local go_sem ↓] Go.wp_at_zero Go.wp_at_succ
theorem IsSeg.upd {w w':World} {b:Nat} {F:List Nat} {E:List Int} {S:List Sp} (h:IsSeg w b F E S) {G:List Nat} (hu:Upd G w w') (hd:∀k∈F,k∉G):IsSeg w' b F E S:=by
 obtain ⟨fb,ve,vn,va,vs,h1,h2⟩:=h.at_
 exact ⟨⟨fb,ve,vn,va,vs,h1.upd hu (hd _ (h2 _ (.inl rfl))) (hd _ (h2 _ (.inr (.inl rfl)))) (fun y hy=>hd _ (h2 _ (.inr (.inr (.inl hy))))) (fun y hy=>hd _ (h2 _ (.inr (.inr (.inr (.inl hy)))))) (fun y hy=>hd _ (h2 _ (.inr (.inr (.inr (.inr hy)))))),h2⟩,h.rise,h.len,h.ok,h.names,h.many,fun k hk=>Nat.lt_of_lt_of_le (h.flt k hk) hu.size⟩
theorem IsSeg.upd0 {w w':World} {b:Nat} {F:List Nat} {E:List Int} {S:List Sp} (h:IsSeg w b F E S) (hu:Upd [] w w'):IsSeg w' b F E S:=h.upd hu (by simp)
theorem flatMap_congrS {α β:Type} {f g:α→List β}:∀{l:List α},(∀a∈l,f a=g a)→l.flatMap f=l.flatMap g
 | [],_=>rfl
 |a::l,h=>by rw [List.flatMap_cons,List.flatMap_cons,h a (by simp),flatMap_congrS fun b hb=>h b (List.mem_cons_of_mem _ hb)]
theorem ids_perm {E:List Int} {S:List Sp} (hE:E.Pairwise (· < ·)) (hS:∀s∈S,SpOk E s) (x:Int):(idsS (atS E S) (pathV E x)).Perm ((S.filter fun s=>stabBM s.lo s.hi x).map Sp.id):=by
 unfold idsS pathV
 by_cases hb:betwS E x=true
 ·rw [if_pos hb]
  obtain ⟨a,z,h1,h2,h3⟩:=betwS_true hb
  have hp:=(stab_perm hE h1 h2 h3 hS).map Sp.id
  refine List.Perm.trans (List.Perm.of_eq ?_) hp
  rw [List.map_flatMap]
  have hlt:=pathL_range (nSl E) (slotX E x) 0 (nSl E) 0 (by omega) (by have:=(slot_facts hE h1 h2 h3).1;omega)
  have:∀k∈pathS E x,((atS E S)[k]?.getD []).map Sp.id=(S.filter fun s=>decide (k∈nodesS E s)).map Sp.id:=fun k hk=>by
   rw [atS_at (by have:=hlt k hk;omega)]
   rfl
  exact flatMap_congrS this
 ·rw [if_neg hb,stab_out hE hS (betwS_false hb)]
  simp
theorem ids_sort {E:List Int} {S:List Sp} (hE:E.Pairwise (· < ·)) (hS:∀s∈S,SpOk E s) (x:Int):sortN (idsS (atS E S) (pathV E x))=stabL S x:=sortN_congr (ids_perm hE hS x)
theorem ids_count {E:List Int} {S:List Sp} (hE:E.Pairwise (· < ·)) (hS:∀s∈S,SpOk E s) (x:Int):cntS (atS E S) (pathV E x)=(stabL S x).length:=by
 rw [←idsS_len,←ids_sort hE hS,sortN_len]
def dropR (x:Sp) (R:List (List Sp)) (k:Nat):List (List Sp):=R.set k ((R[k]?.getD []).filter fun s=>decide (s≠x))
def dropsR (x:Sp) (R:List (List Sp)) (L:List Nat):List (List Sp):=L.foldl (dropR x) R
theorem dropsR_len (x:Sp):∀(L:List Nat) (R:List (List Sp)),(dropsR x R L).length=R.length
 | [],_=>rfl
 |k::L,R=>by
  show (dropsR x (dropR x R k) L).length=_
  rw [dropsR_len x L]
  simp [dropR]
theorem dropsR_app (x:Sp) (R:List (List Sp)) (A B:List Nat):dropsR x R (A++B)=dropsR x (dropsR x R A) B:=by simp [dropsR]
theorem dropsR_at (x:Sp):∀(L:List Nat) (R:List (List Sp)) (k:Nat),L.Nodup→(dropsR x R L)[k]? = R[k]?.map fun l=>if k∈L then l.filter (fun s=>decide (s≠x)) else l
 | [],R,k,_=>by simp [dropsR]
 |j::L,R,k,hn=>by
  rw [List.nodup_cons] at hn
  show (dropsR x (dropR x R j) L)[k]? = _
  rw [dropsR_at x L _ k hn.2]
  unfold dropR
  rw [List.getElem?_set]
  by_cases hjk:j=k
  ·subst hjk
   rw [if_pos rfl]
   cases hR:R[j]? with
   |none=>
    have:R.length≤j:=by
     rcases Nat.lt_or_ge j R.length with h | h
     ·rw [List.getElem?_eq_getElem h] at hR;cases hR
     ·exact h
    rw [if_neg (by omega)]
    rfl
   |some l=>
    have:=(List.getElem?_eq_some_iff.1 hR).1
    rw [if_pos this]
    simp [hn.1]
  ·rw [if_neg hjk]
   have:(k∈j::L)↔k∈L:=by simp [Ne.symm hjk]
   simp only [this]
theorem dropsR_all {E:List Int} (h:E.Pairwise (· < ·)) {x:Sp} (hx:SpOk E x) (S:List Sp):dropsR x (atS E S) (nodesS E x)=atS E (without S x):=by
 obtain ⟨hn,-⟩:=nodesS_lt h hx
 refine List.ext_getElem? fun k=>?_
 rw [dropsR_at x _ _ k hn]
 rcases Nat.lt_or_ge k (2*nSl E - 1) with hk | hk
 ·rw [atS_at hk,atS_at hk,Option.map_some]
  unfold without
  by_cases hm:k∈nodesS E x
  ·rw [if_pos hm,List.filter_filter,List.filter_filter]
   congr 1
   refine List.filter_congr fun s _=>?_
   exact Bool.and_comm _ _
  ·rw [if_neg hm,List.filter_filter]
   congr 1
   refine List.filter_congr fun s _=>?_
   by_cases e:s=x
   ·subst e;simp [hm]
   ·simp [e]
 ·rw [List.getElem?_eq_none (by rw [atS_len];exact hk),List.getElem?_eq_none (by rw [atS_len];exact hk)]
  rfl
theorem dropsR_row {E:List Int} {S:List Sp} {x:Sp} {L:List Nat} {p:Nat} {Rp:List Sp} (hn:L.Nodup) (hp:p∉L) (h:(dropsR x (atS E S) L)[p]? = some Rp):Rp=S.filter fun s=>decide (p∈nodesS E s):=by
 rw [dropsR_at x L _ p hn] at h
 rcases Nat.lt_or_ge p (2*nSl E - 1) with hk | hk
 ·rw [atS_at hk] at h
  simp only [Option.map_some,Option.some.injEq] at h
  rw [if_neg hp] at h
  exact h.symm
 ·rw [List.getElem?_eq_none (by rw [atS_len];exact hk)] at h
  cases h
theorem SegAt.count {w:World} {b fb:Nat} {ve vn va:Value} {vs:List Value} {E:List Int} {R:List (List Sp)} {c:Int} (h:SegAt w b fb ve vn va vs E R c) (c':Int):SegAt (w.setCell ⟨b,3,none⟩ (.int .i64 c')) b fb ve vn va vs E R c':=by
 have hu:Upd [b] w (w.setCell ⟨b,3,none⟩ (.int .i64 c')):=(Upd.refl _ _).setCell (p:=⟨b,3,none⟩) (.inl (by simp)) _
 refine ⟨heap_set h.head 3 _,own_upd h.ends hu (fun y hy hc=>h.bve (by simp at hc;rw [←hc];exact hy)),h.frm.upd hu (by simp;exact Ne.symm h.bfb) (fun y hy hc=>h.bvn (by simp at hc;rw [←hc];exact hy)),h.rows.upd hu (fun y hy hc=>h.bro (by simp at hc;rw [←hc];exact hy)),h.bfb,h.bve,h.bvn,h.bro,h.fro,h.ero,h.nro⟩
theorem SegAt.restore {w w2:World} {b fb g N C:Nat} {ve vn:Value} {vs:List Value} {E:List Int} {R:List (List Sp)} {c:Int} (h:SegAt w b fb ve vn (.slice (some ⟨g,0,none⟩) N C) vs E R c) (hN:N=vs.length)
 {i:Nat} {u v:Value} {l:List Sp} (hv:vs[i]? = some u) (hu:Upd (blk u) w w2) (hrow:KSp.row w2 0 v l) (hb:blk v=blk u) :
 SegAt (w2.setCell ⟨g,i,none⟩ v) b fb ve vn (.slice (some ⟨g,0,none⟩) N C) (vs.set i v) E (R.set i l) c∧Upd (rfoot (.slice (some ⟨g,0,none⟩) N C) vs) w (w2.setCell ⟨g,i,none⟩ v)∧
  ∀k∈rfoot (.slice (some ⟨g,0,none⟩) N C) (vs.set i v),k∈rfoot (.slice (some ⟨g,0,none⟩) N C) vs:=by
 obtain ⟨h1,h2,h3⟩:=h.extend hN hv hu hrow (.inl hb)
 refine ⟨h1,h2,fun k hk=>?_⟩
 rw [mem_rfoot] at hk ⊢
 rcases hk with hk | ⟨j,t,ht,hk⟩
 ·exact .inl hk
 ·rw [List.getElem?_set] at ht
  split at ht
  ·split at ht
   ·simp at ht;subst ht
    exact .inr ⟨i,u,hv,by rw [←hb];exact hk⟩
   ·cases ht
  ·exact .inr ⟨j,t,ht,hk⟩
attribute [local go_sem ↓] Go.wp_at_zero Go.wp_at_succ
def spInS (E:List Int) (x:Sp):Bool:=match E[0]?,E[E.length - 1]? with
 |some a,some z=>decide (x.lo≤x.hi)&&(decide (a≤x.lo)&&decide (x.hi≤z))
 |_,_=>false
theorem spInS_true {E:List Int} {x:Sp} (h:spInS E x=true):∃a z,E[0]? = some a∧E[E.length - 1]? = some z∧x.lo≤x.hi∧a≤x.lo∧x.hi≤z:=by
 unfold spInS at h
 cases ha:E[0]? with
 |none=>simp [ha] at h
 |some a=>
  cases hz:E[E.length - 1]? with
  |none=>simp [ha,hz] at h
  |some z=>rw [ha,hz] at h;simp at h;exact ⟨a,z,rfl,rfl,h⟩
theorem spInS_ok {E:List Int} (h:E.Pairwise (· < ·)) {x:Sp} (hx:SpOk E x):spInS E x=true:=by
 have h0:0<E.length:=List.length_pos_of_mem hx.1
 unfold spInS
 rw [List.getElem?_eq_getElem h0,List.getElem?_eq_getElem (show E.length - 1<E.length by omega)]
 obtain ⟨i,hi,e1⟩:=List.mem_iff_getElem.1 hx.1
 obtain ⟨j,hj,e2⟩:=List.mem_iff_getElem.1 hx.2.1
 have g1:E[0]≤x.lo:=by
  rcases Nat.eq_zero_or_pos i with hc | hc
  ·subst hc;omega
  ·have:=List.pairwise_iff_getElem.1 h 0 i h0 hi hc;omega
 have g2:x.hi≤E[E.length - 1]:=by
  rcases Nat.lt_or_ge j (E.length - 1) with hc | hc
  ·have:=List.pairwise_iff_getElem.1 h j (E.length - 1) hj (by omega) hc;omega
  ·have e:j=E.length - 1:=by omega
   subst e;omega
 simp [g1,g2,hx.2.2]
theorem spInS_below {E:List Int} (h:E.Pairwise (· < ·)) {x:Sp} (hx:spInS E x=true):below E x.lo≤below E x.hi∧2*below E x.hi+1≤nSl E:=by
 obtain ⟨a,z,ha,hz,h1,h2,h3⟩:=spInS_true hx
 have hle:E.Pairwise (·≤·):=h.imp (by intro a b hab;omega)
 have h0:=(List.getElem?_eq_some_iff.1 ha).1
 have hb:below E x.hi≤E.length - 1:=by
  have:=below_at hle x.hi (E.length - 1) z hz
  omega
 refine ⟨?_,by unfold nSl;omega⟩
 rcases Nat.lt_or_ge (below E x.hi) (below E x.lo) with hc | hc
 ·have e:=List.getElem?_eq_getElem (show below E x.hi<E.length by omega)
  have b1:=(below_at hle x.lo _ _ e).2 hc
  have b2:=below_at hle x.hi _ _ e
  omega
 ·exact hc
theorem nodesS_pos {E:List Int} (h:E.Pairwise (· < ·)) {x:Sp} (hx:spInS E x=true):(nodesS E x).Nodup∧(∀k∈nodesS E x,k<2*nSl E - 1)∧0<(nodesS E x).length:=by
 have hb:=spInS_below h hx
 refine ⟨canonL_nodup (nSl E) _ _ 0 (nSl E) 0 (by omega) (by omega),fun k hk=>?_,?_⟩
 ·have:=canonL_range (nSl E) _ _ 0 (nSl E) 0 (by omega) (by omega) k hk
  omega
 ·refine Nat.pos_of_ne_zero fun hc=>?_
  have hnil:nodesS E x = []:=List.eq_nil_of_length_eq_zero hc
  have:=path_canon (nSl E) (2*below E x.lo) (2*below E x.hi+1) (2*below E x.lo) 0 (nSl E) 0 (by omega) (by omega) (by omega)
  unfold nodesS at hnil
  rw [hnil,if_pos (by omega)] at this
  simp at this
theorem spInS_le {E:List Int} {x:Sp} (h:spInS E x=true):0<E.length:=by
 obtain ⟨a,z,ha,-⟩:=spInS_true h
 exact (List.getElem?_eq_some_iff.1 ha).1
theorem segDropNone {w:World} {b fb:Nat} {ve vn va:Value} {vs:List Value} {E:List Int} {R:List (List Sp)} {c:Int} (h:SegAt w b fb ve vn va vs E R c) (x:Sp) (hne:E.length=0) :
 Calls Tryz.prog 139 #[.pointer (some ⟨b,0,none⟩),spV x] w fun e w'=>e=.returned (.bool false)∧Upd [] w w':=by
 obtain ⟨Ae,Ce,rfl⟩:=own_form h.ends
 obtain ⟨lo,hi,id⟩:=x
 unfold spV
 dsimp only
 have hu0:Upd [] w (w.alloc (.cells #[.int .i64 lo,.int .i64 hi,.int .u32 (id:Int)] 62)):=(Upd.refl _ _).alloc _
 have hq0:w.heap.size<(w.alloc (.cells #[.int .i64 lo,.int .i64 hi,.int .u32 (id:Int)] 62)).heap.size:=by simp
 have x0:(w.alloc (.cells #[.int .i64 lo,.int .i64 hi,.int .u32 (id:Int)] 62)).cell? ⟨w.heap.size,0,none⟩=some (.int .i64 lo):=by rw [World.cell?_alloc_at _ _ _ _ rfl];rfl
 have x1:(w.alloc (.cells #[.int .i64 lo,.int .i64 hi,.int .u32 (id:Int)] 62)).cell? ⟨w.heap.size,1,none⟩=some (.int .i64 hi):=by rw [World.cell?_alloc_at _ _ _ _ rfl];rfl
 have x2:(w.alloc (.cells #[.int .i64 lo,.int .i64 hi,.int .u32 (id:Int)] 62)).cell? ⟨w.heap.size,2,none⟩=some (.int .u32 (id:Int)):=by rw [World.cell?_alloc_at _ _ _ _ rfl];rfl
 generalize hW0:w.alloc (.cells #[.int .i64 lo,.int .i64 hi,.int .u32 (id:Int)] 62)=W0 at hu0 hq0 x0 x1 x2
 have hs0:=h.upd0 hu0
 have y0:∀z:QW W0,z.w.cell? ⟨w.heap.size,0,none⟩=some (.int .i64 lo):=fun z=>(z.up.cell (p:=⟨w.heap.size,0,none⟩) hq0 (by simp)).trans x0
 have y1:∀z:QW W0,z.w.cell? ⟨w.heap.size,1,none⟩=some (.int .i64 hi):=fun z=>(z.up.cell (p:=⟨w.heap.size,1,none⟩) hq0 (by simp)).trans x1
 have c0:∀z:QW W0,z.w.cell? ⟨b,0,none⟩=some (.slice Ae E.length Ce):=fun z=>(hs0.upd0 z.up).cells.1
 have HNN:=Lib.hid fun (z:QW W0)=>segNone (hs0.upd0 z.up)
 have HW:=Lib.hid hW0
 have HU0:=Lib.hid hu0
 rw [hne] at c0
 clear h hs0 hW0 hu0 x0 x1 x2 hne
 go_enter Tryz.func139,Tryz.ntmps139
 go_wp2_with fail
 go_step3
 go_upto_region 1 with fail
 rw [HW.out]
 refine wp_region_quietU (by kernel_rfl) (by kernel_rfl) ?_
 repeat (go_big_quiet_step (with_reducible exact Calls.quietU ((HNN.out _).mono fun _ _ hh=>⟨hh.1,hh.2 ▸ Upd.refl _ _⟩)))
 refine wpQuiet_nil ?_
 intro wq hw'
 obtain ⟨⟨wq',hwq⟩,hw''⟩:=hw'
 dsimp only at hw''
 subst hw''
 clear c0 y0 y1
 go_wp2_with fail
 rw [Exit.noGoto_ret]
 go_ret
 exact ⟨rfl,HU0.out.trans hwq⟩
theorem segDropOut {w:World} {b fb:Nat} {ve vn va:Value} {vs:List Value} {E:List Int} {R:List (List Sp)} {c:Int} (h:SegAt w b fb ve vn va vs E R c) (x:Sp) (hEl:E.length<100000) (hx:¬spInS E x=true) (hne:¬E.length=0) :
 Calls Tryz.prog 139 #[.pointer (some ⟨b,0,none⟩),spV x] w fun e w'=>e=.returned (.bool false)∧Upd [] w w':=by
 obtain ⟨Ae,Ce,rfl⟩:=own_form h.ends
 obtain ⟨lo,hi,id⟩:=x
 unfold spV
 dsimp only
 have hu0:Upd [] w (w.alloc (.cells #[.int .i64 lo,.int .i64 hi,.int .u32 (id:Int)] 62)):=(Upd.refl _ _).alloc _
 have hq0:w.heap.size<(w.alloc (.cells #[.int .i64 lo,.int .i64 hi,.int .u32 (id:Int)] 62)).heap.size:=by simp
 have x0:(w.alloc (.cells #[.int .i64 lo,.int .i64 hi,.int .u32 (id:Int)] 62)).cell? ⟨w.heap.size,0,none⟩=some (.int .i64 lo):=by rw [World.cell?_alloc_at _ _ _ _ rfl];rfl
 have x1:(w.alloc (.cells #[.int .i64 lo,.int .i64 hi,.int .u32 (id:Int)] 62)).cell? ⟨w.heap.size,1,none⟩=some (.int .i64 hi):=by rw [World.cell?_alloc_at _ _ _ _ rfl];rfl
 have x2:(w.alloc (.cells #[.int .i64 lo,.int .i64 hi,.int .u32 (id:Int)] 62)).cell? ⟨w.heap.size,2,none⟩=some (.int .u32 (id:Int)):=by rw [World.cell?_alloc_at _ _ _ _ rfl];rfl
 generalize hW0:w.alloc (.cells #[.int .i64 lo,.int .i64 hi,.int .u32 (id:Int)] 62)=W0 at hu0 hq0 x0 x1 x2
 have hs0:=h.upd0 hu0
 have y0:∀z:QW W0,z.w.cell? ⟨w.heap.size,0,none⟩=some (.int .i64 lo):=fun z=>(z.up.cell (p:=⟨w.heap.size,0,none⟩) hq0 (by simp)).trans x0
 have y1:∀z:QW W0,z.w.cell? ⟨w.heap.size,1,none⟩=some (.int .i64 hi):=fun z=>(z.up.cell (p:=⟨w.heap.size,1,none⟩) hq0 (by simp)).trans x1
 have c0:∀z:QW W0,z.w.cell? ⟨b,0,none⟩=some (.slice Ae E.length Ce):=fun z=>(hs0.upd0 z.up).cells.1
 have HNN:=Lib.hid fun (z:QW W0)=>segNone (hs0.upd0 z.up)
 have HW:=Lib.hid hW0
 have HU0:=Lib.hid hu0
 have h0:0<E.length:=by
  rcases Nat.eq_zero_or_pos E.length with hc | hc
  ·exact absurd hc hne
  ·exact hc
 obtain ⟨m,hm⟩:∃m,E.length=m+1:=⟨E.length - 1,by omega⟩
 obtain ⟨a,ha⟩:∃a,E[0]? = some a:=⟨_,List.getElem?_eq_getElem h0⟩
 obtain ⟨z,hz⟩:∃z,E[m]? = some z:=⟨_,List.getElem?_eq_getElem (by omega)⟩
 have e0:∀q:QW W0,q.w.cell? ⟨b,0,none⟩=some (.slice Ae (m+1) Ce):=fun q=>by rw [←hm];exact c0 q
 obtain ⟨g,rfl,-⟩:=rowL_at hs0.ends ha
 have ea:∀q:QW W0,q.w.cell? ⟨g,0,none⟩=some (.int .i64 a):=fun q=>by
  obtain ⟨g',hg,hc⟩:=rowL_at (hs0.upd0 q.up).ends ha
  injection hg with hg;injection hg with hg;subst hg
  exact hc
 have ez:∀q:QW W0,q.w.cell? ⟨g,m,none⟩=some (.int .i64 z):=fun q=>by
  obtain ⟨g',hg,hc⟩:=rowL_at (hs0.upd0 q.up).ends hz
  injection hg with hg;injection hg with hg;subst hg
  exact hc
 have m0:(0:Int)≤(m:Int):=Int.natCast_nonneg _
 have m1:(m:Int)<100000:=by omega
 have hmz:((m:Int)+1==0)=false:=by simp;omega
 have hx':hi<lo∨lo<a∨z<hi:=by
  unfold spInS at hx
  rw [ha,show E.length - 1=m by omega,hz] at hx
  simp at hx
  by_cases d1:lo≤hi
  ·by_cases d2:a≤lo
   ·exact .inr (.inr (hx d1 d2))
   ·exact .inr (.inl (by omega))
  ·exact .inl (by omega)
 clear hx
 by_cases d1:hi<lo
 ·have g1:decide (hi<lo)=true:=decide_eq_true d1
  clear hx'
  clear h hs0 hW0 hu0 x0 x1 x2 hEl hne c0 ha hz hm h0
  go_enter Tryz.func139,Tryz.ntmps139
  go_wp2_with fail
  go_step3
  go_upto_region 1 with fail
  rw [HW.out]
  refine wp_region_quietU (by kernel_rfl) (by kernel_rfl) ?_
  repeat (go_big_quiet_step (with_reducible exact Calls.quietU ((HNN.out _).mono fun _ _ hh=>⟨hh.1,hh.2 ▸ Upd.refl _ _⟩)))
  refine wpQuiet_nil ?_
  intro wq hw'
  obtain ⟨⟨wq',hwq⟩,hw''⟩:=hw'
  dsimp only at hw''
  subst hw''
  clear e0 ea ez y0 y1
  go_wp2_with fail
  rw [Exit.noGoto_ret]
  go_ret
  exact ⟨rfl,HU0.out.trans hwq⟩
 ·have g1:decide (hi<lo)=false:=decide_eq_false d1
  by_cases d2:lo<a
  ·have g2:decide (lo<a)=true:=decide_eq_true d2
   clear hx' d1
   clear h hs0 hW0 hu0 x0 x1 x2 hEl hne c0 ha hz hm h0
   go_enter Tryz.func139,Tryz.ntmps139
   go_wp2_with fail
   go_step3
   go_upto_region 1 with fail
   rw [HW.out]
   refine wp_region_quietU (by kernel_rfl) (by kernel_rfl) ?_
   repeat (go_big_quiet_step (with_reducible exact Calls.quietU ((HNN.out _).mono fun _ _ hh=>⟨hh.1,hh.2 ▸ Upd.refl _ _⟩)))
   refine wpQuiet_nil ?_
   intro wq hw'
   obtain ⟨⟨wq',hwq⟩,hw''⟩:=hw'
   dsimp only at hw''
   subst hw''
   clear e0 ea ez y0 y1
   go_wp2_with fail
   rw [Exit.noGoto_ret]
   go_ret
   exact ⟨rfl,HU0.out.trans hwq⟩
  ·have g2:decide (lo<a)=false:=decide_eq_false d2
   have g3:decide (z<hi)=true:=decide_eq_true (by omega)
   clear hx' d1 d2
   clear h hs0 hW0 hu0 x0 x1 x2 hEl hne c0 ha hz hm h0
   go_enter Tryz.func139,Tryz.ntmps139
   go_wp2_with fail
   go_step3
   go_upto_region 1 with fail
   rw [HW.out]
   refine wp_region_quietU (by kernel_rfl) (by kernel_rfl) ?_
   repeat (go_big_quiet_step (with_reducible exact Calls.quietU ((HNN.out _).mono fun _ _ hh=>⟨hh.1,hh.2 ▸ Upd.refl _ _⟩)))
   refine wpQuiet_nil ?_
   intro wq hw'
   obtain ⟨⟨wq',hwq⟩,hw''⟩:=hw'
   dsimp only at hw''
   subst hw''
   clear e0 ea ez y0 y1
   go_wp2_with fail
   rw [Exit.noGoto_ret]
   go_ret
   exact ⟨rfl,HU0.out.trans hwq⟩
attribute [local go_sem ↓] Go.wp_at_zero Go.wp_at_succ
theorem segDropNo {w:World} {b fb:Nat} {ve vn va:Value} {vs:List Value} {E:List Int} {S:List Sp} {c:Int} (h:SegAt w b fb ve vn va vs E (atS E S) c) (x:Sp) (hEl:E.length<100000) (hE:E.Pairwise (· < ·)) (hin:spInS E x=true) (hxS:x∉S) (hSl:S.length≤1000) :
 Calls Tryz.prog 139 #[.pointer (some ⟨b,0,none⟩),spV x] w fun e w'=>e=.returned (.bool false)∧Upd [] w w':=by
 obtain ⟨Ae,Ce,rfl⟩:=own_form h.ends
 obtain ⟨lo,hi,id⟩:=x
 unfold spV
 dsimp only
 have hu0:Upd [] w (w.alloc (.cells #[.int .i64 lo,.int .i64 hi,.int .u32 (id:Int)] 62)):=(Upd.refl _ _).alloc _
 have hq0:w.heap.size<(w.alloc (.cells #[.int .i64 lo,.int .i64 hi,.int .u32 (id:Int)] 62)).heap.size:=by simp
 have x0:(w.alloc (.cells #[.int .i64 lo,.int .i64 hi,.int .u32 (id:Int)] 62)).cell? ⟨w.heap.size,0,none⟩=some (.int .i64 lo):=by rw [World.cell?_alloc_at _ _ _ _ rfl];rfl
 have x1:(w.alloc (.cells #[.int .i64 lo,.int .i64 hi,.int .u32 (id:Int)] 62)).cell? ⟨w.heap.size,1,none⟩=some (.int .i64 hi):=by rw [World.cell?_alloc_at _ _ _ _ rfl];rfl
 have x2:(w.alloc (.cells #[.int .i64 lo,.int .i64 hi,.int .u32 (id:Int)] 62)).cell? ⟨w.heap.size,2,none⟩=some (.int .u32 (id:Int)):=by rw [World.cell?_alloc_at _ _ _ _ rfl];rfl
 generalize hW0:w.alloc (.cells #[.int .i64 lo,.int .i64 hi,.int .u32 (id:Int)] 62)=W0 at hu0 hq0 x0 x1 x2
 have hs0:=h.upd0 hu0
 have y0:∀z:QW W0,z.w.cell? ⟨w.heap.size,0,none⟩=some (.int .i64 lo):=fun z=>(z.up.cell (p:=⟨w.heap.size,0,none⟩) hq0 (by simp)).trans x0
 have y1:∀z:QW W0,z.w.cell? ⟨w.heap.size,1,none⟩=some (.int .i64 hi):=fun z=>(z.up.cell (p:=⟨w.heap.size,1,none⟩) hq0 (by simp)).trans x1
 have c0:∀z:QW W0,z.w.cell? ⟨b,0,none⟩=some (.slice Ae E.length Ce):=fun z=>(hs0.upd0 z.up).cells.1
 have HNN:=Lib.hid fun (z:QW W0)=>segNone (hs0.upd0 z.up)
 have HW:=Lib.hid hW0
 have HU0:=Lib.hid hu0
 have h0:=spInS_le hin
 obtain ⟨m,hm⟩:∃m,E.length=m+1:=⟨E.length - 1,by omega⟩
 obtain ⟨a,ha⟩:∃a,E[0]? = some a:=⟨_,List.getElem?_eq_getElem h0⟩
 obtain ⟨z,hz⟩:∃z,E[m]? = some z:=⟨_,List.getElem?_eq_getElem (by omega)⟩
 have e0:∀q:QW W0,q.w.cell? ⟨b,0,none⟩=some (.slice Ae (m+1) Ce):=fun q=>by rw [←hm];exact c0 q
 obtain ⟨g,rfl,-⟩:=rowL_at hs0.ends ha
 have ea:∀q:QW W0,q.w.cell? ⟨g,0,none⟩=some (.int .i64 a):=fun q=>by
  obtain ⟨g',hg,hc⟩:=rowL_at (hs0.upd0 q.up).ends ha
  injection hg with hg;injection hg with hg;subst hg
  exact hc
 have ez:∀q:QW W0,q.w.cell? ⟨g,m,none⟩=some (.int .i64 z):=fun q=>by
  obtain ⟨g',hg,hc⟩:=rowL_at (hs0.upd0 q.up).ends hz
  injection hg with hg;injection hg with hg;subst hg
  exact hc
 have m0:(0:Int)≤(m:Int):=Int.natCast_nonneg _
 have m1:(m:Int)<100000:=by omega
 have hmz:((m:Int)+1==0)=false:=by simp;omega
 have hin':lo≤hi∧a≤lo∧hi≤z:=by
  obtain ⟨a',z',k1,k2,k3,k4,k5⟩:=spInS_true hin
  rw [ha] at k1
  rw [show E.length - 1=m by omega,hz] at k2
  injection k1 with k1
  injection k2 with k2
  subst k1 k2
  exact ⟨k3,k4,k5⟩
 have g1:decide (hi<lo)=false:=decide_eq_false (by omega)
 have g2:decide (lo<a)=false:=decide_eq_false (by omega)
 have g3:decide (z<hi)=false:=decide_eq_false (by omega)
 have hbel:=spInS_below hE hin
 have hnp:=nodesS_pos hE hin
 have hnods:=fun (w:World) (hs:SegAt w b fb (.slice (some ⟨g,0,none⟩) E.length Ce) vn va vs E (atS E S) c)=>segNodes hs ⟨lo,hi,id⟩ hE hEl hbel.1 hbel.2
 unfold spV at hnods
 dsimp only at hnods hbel
 have HBEL:=Lib.hid hbel
 have HNODS:=Lib.hid hnods
 have HS0:=Lib.hid hs0
 have HX:=Lib.hid (And.intro x0 (And.intro x1 x2))
 have HQ0:=Lib.hid hq0
 obtain ⟨L,hL⟩:∃L,nodesS E ⟨lo,hi,id⟩=L:=⟨_,rfl⟩
 rw [hL] at hnp HNODS
 have hnL:∃J,L.length=J∧J≤1000000:=by
  refine ⟨_,rfl,?_⟩
  have h1:=canonL_len (nSl E) (2*below E lo) (2*below E hi+1) 0 (nSl E) 0 (by omega) (by have:=HBEL.out.2;omega)
  have h5:(nodesS E ⟨lo,hi,id⟩).length≤2*(nSl E - 0) - 1:=h1
  rw [hL] at h5
  unfold nSl at h5
  omega
 obtain ⟨J,hJ,hJb⟩:=hnL
 rw [hJ] at hnp
 have HNP:=Lib.hid (And.intro hnp (And.intro hJ hL))
 have hJ0:=hnp.2.2
 have HXS:=Lib.hid hxS
 clear hxS h hs0 hW0 hu0 x0 x1 x2 hin hin' hEl c0 ha hz hm h0 hbel hnp hnods hL hJ hE hq0
 go_enter Tryz.func139,Tryz.ntmps139
 go_wp2_with fail
 go_step3
 go_upto_region 1 with fail
 rw [HW.out]
 refine wp_region_quietU (by kernel_rfl) (by kernel_rfl) ?_
 repeat (go_big_quiet_step (with_reducible exact Calls.quietU ((HNN.out _).mono fun _ _ hh=>⟨hh.1,hh.2 ▸ Upd.refl _ _⟩)))
 refine wpQuiet_nil ?_
 intro wq hw'
 obtain ⟨⟨wq',hwq⟩,hw''⟩:=hw'
 dsimp only at hw''
 subst hw''
 clear e0 ea ez y0 y1 g1 g2 g3 hmz m0 m1
 have hs1:=HS0.out.upd0 hwq
 have z0:=(hwq.cell (p:=⟨w.heap.size,0,none⟩) HQ0.out (by simp)).trans HX.out.1
 have z1:=(hwq.cell (p:=⟨w.heap.size,1,none⟩) HQ0.out (by simp)).trans HX.out.2.1
 have z2:=(hwq.cell (p:=⟨w.heap.size,2,none⟩) HQ0.out (by simp)).trans HX.out.2.2
 have HND:=Lib.hid (HNODS.out wq hs1)
 have HS1:=Lib.hid hs1
 have HUQ:=Lib.hid (HU0.out.trans hwq)
 have hqq:w.heap.size<wq.heap.size:=Nat.lt_of_lt_of_le HQ0.out hwq.size
 clear hs1 hwq
 go_wp2_with fail
 go_step3
 go_wp2_with fail
 (with_reducible refine HND.out.mono ?_)
 rintro e w5 ⟨A5,C5,rfl,t1,t2⟩
 rw [HNP.out.2.1] at t1 ⊢
 have HT1:=Lib.hid t1
 have HT2:=Lib.hid t2
 have v0:=(t2.cell (p:=⟨w.heap.size,0,none⟩) hqq (by simp)).trans z0
 have v1:=(t2.cell (p:=⟨w.heap.size,1,none⟩) hqq (by simp)).trans z1
 have v2:=(t2.cell (p:=⟨w.heap.size,2,none⟩) hqq (by simp)).trans z2
 have HV:=Lib.hid (And.intro v0 (And.intro v1 v2))
 have hq5:w.heap.size<w5.heap.size:=Nat.lt_of_lt_of_le hqq t2.size
 have HS5:=Lib.hid (HS1.out.upd0 t2)
 obtain ⟨q,hq⟩:∃q,w.heap.size=q:=⟨_,rfl⟩
 have HQQ:=Lib.hid hq
 have HQWQ:=Lib.hid (show q<wq.heap.size by rw [←hq];exact hqq)
 rw [hq] at HV hq5 ⊢
 clear t1 t2 z0 z1 z2 v0 v1 v2 hqq hq
 go_wp2_with fail
 go_loopg [5,59] J (fun m s5 s59 wr=>m=J∧s5=.bool false∧s59=.int .i64 0∧wr=w5)
 case atStart=>exact ⟨rfl,rfl,rfl,rfl⟩
 case round=>
  obtain ⟨-,rfl,rfl,rfl⟩:=hrel
  obtain ⟨p,hp⟩:∃p,L[0]? = some p:=⟨_,List.getElem?_eq_getElem (by rw [HNP.out.2.1];exact hJ0)⟩
  have hpl:p<(atS E S).length:=by rw [atS_len];exact HNP.out.1.2.1 p (List.mem_of_getElem? hp)
  obtain ⟨gl,rfl,lc⟩:=rowN_at HT1.out hp
  have hs:=HS5.out
  obtain ⟨Aa,Ca,rfl⟩:=own_form hs.rows.list
  have c2:=hs.cells.2.2.1
  obtain ⟨ga,Ak,Ck,rfl,hv,rc,rfz,rr⟩:=hs.rows.at hpl
  have hvl:vs.length=2*nSl E - 1:=by rw [hs.rows.len,atS_len]
  obtain ⟨KR,hKR⟩:∃K,vs.length=K:=⟨_,rfl⟩
  obtain ⟨Rp,hRp⟩:∃l,(atS E S)[p]=l:=⟨_,rfl⟩
  have hRp2:(atS E S)[p]? = some Rp:=by rw [List.getElem?_eq_getElem hpl,hRp]
  rw [hRp] at hv rc rr
  obtain ⟨rl,hrll⟩:∃r,Rp.length=r:=⟨_,rfl⟩
  rw [hrll] at hv rc rr
  have p0:(0:Int)≤(p:Int):=Int.natCast_nonneg _
  have p1:(p:Int)<(KR:Int):=by have:=hs.rows.len;omega
  have rl0:(0:Int)≤(rl:Int):=Int.natCast_nonneg _
  have hrow:=dropsR_row (S:=S) (E:=E) (x:=⟨lo,hi,id⟩) (L:=[]) (p:=p) List.nodup_nil (by simp) hRp2
  have hrn:∀y∈Rp,y≠⟨lo,hi,id⟩:=fun y hy e=>HXS.out (by rw [hrow,e] at hy;exact (List.mem_filter.1 hy).1)
  have hrb:rl≤1000:=by rw [←hrll,hrow];have:=List.length_filter_le (fun s=>decide (p∈nodesS E s)) S;omega
  rw [hKR] at c2
  have HR:=Lib.hid (And.intro rr (And.intro hrn (And.intro hrll hs)))
  have w0:=HV.out.1
  have wv1:=HV.out.2.1
  have wv2:=HV.out.2.2
  clear hp hpl hs hvl hKR hRp hRp2 rr hrn hrll hrow hv
  have j1:(0:Int)<(J:Int):=by omega
  obtain ⟨wo,hwo⟩:∃wo:World,wo=wr:=⟨_,rfl⟩
  subst hwo
  go_wp2_with fail
  go_loopg [71] rl (fun m s71 wr=>∃i:Nat,m+i=rl∧s71=.int .i64 (i:Int)∧Upd [] wo wr)
  case atStart=>exact ⟨0,rfl,rfl,Upd.refl _ _⟩
  case round=>
   obtain ⟨i,hi',rfl,hup⟩:=hrel
   have i0:(0:Int)≤(i:Int):=Int.natCast_nonneg _
   have hir:i≤rl:=by omega
   have HI:=Lib.hid (And.intro hi' hup)
   have hzz:=hup.size
   clear hi'
   by_cases hil:i<rl
   ·obtain ⟨y,hy⟩:∃y,Rp[i]? = some y:=⟨_,List.getElem?_eq_getElem (by rw [HR.out.2.2.1];exact hil)⟩
    have hyn:=HR.out.2.1 y (List.mem_of_getElem? hy)
    have rr2:KSp.row wr 0 (.slice Ak rl Ck) Rp:=own_upd HR.out.1 hup (by simp)
    obtain ⟨gr,Cr,hgr,ey,-⟩:=row_at (K:=KSp) rr2 hy
    injection hgr with hgr1 hgrn hgr3
    clear hgrn
    subst hgr1 hgr3
    have y0:wr.cell? ⟨gr,i*3,none⟩=some (.int .i64 y.lo):=ey 0 _ rfl
    have y1:wr.cell? ⟨gr,i*3+1,none⟩=some (.int .i64 y.hi):=ey 1 _ rfl
    have y2:wr.cell? ⟨gr,i*3+2,none⟩=some (.int .u32 (y.id:Int)):=ey 2 _ rfl
    have b1:(i:Int)<(rl:Int):=by omega
    have heq:=fun w=>eqSp y ⟨lo,hi,id⟩ w
    rw [decide_eq_false hyn] at heq
    unfold spV at heq
    dsimp only at heq
    have u0:=(hup.cell (p:=⟨q,0,none⟩) hq5 (by simp)).trans w0
    have u1:=(hup.cell (p:=⟨q,1,none⟩) hq5 (by simp)).trans wv1
    have u2:=(hup.cell (p:=⟨q,2,none⟩) hq5 (by simp)).trans wv2
    clear hy hyn rr2 ey hup w0 wv1 wv2 c2 rc lc
    obtain ⟨wl,hwl⟩:∃wl:World,wl=wr:=⟨_,rfl⟩
    subst hwl
    go_upto_region 10 with fail
    have hu2:Upd [] wl (wl.alloc (.cells #[.int .i64 y.lo,.int .i64 y.hi,.int .u32 (y.id:Int)] 62)):=(Upd.refl _ _).alloc _
    have d0:(wl.alloc (.cells #[.int .i64 y.lo,.int .i64 y.hi,.int .u32 (y.id:Int)] 62)).cell? ⟨wl.heap.size,0,none⟩=some (.int .i64 y.lo):=by rw [World.cell?_alloc_at _ _ _ _ rfl];rfl
    have d1:(wl.alloc (.cells #[.int .i64 y.lo,.int .i64 y.hi,.int .u32 (y.id:Int)] 62)).cell? ⟨wl.heap.size,1,none⟩=some (.int .i64 y.hi):=by rw [World.cell?_alloc_at _ _ _ _ rfl];rfl
    have d2:(wl.alloc (.cells #[.int .i64 y.lo,.int .i64 y.hi,.int .u32 (y.id:Int)] 62)).cell? ⟨wl.heap.size,2,none⟩=some (.int .u32 (y.id:Int)):=by rw [World.cell?_alloc_at _ _ _ _ rfl];rfl
    have hqw:q<wl.heap.size:=Nat.lt_of_lt_of_le hq5 hzz
    have q0:=(hu2.cell (p:=⟨q,0,none⟩) hqw (by simp)).trans u0
    have q1:=(hu2.cell (p:=⟨q,1,none⟩) hqw (by simp)).trans u1
    have q2:=(hu2.cell (p:=⟨q,2,none⟩) hqw (by simp)).trans u2
    generalize (wl.alloc (.cells #[.int .i64 y.lo,.int .i64 y.hi,.int .u32 (y.id:Int)] 62))=W2 at hu2 d0 d1 d2 q0 q1 q2 ⊢
    have HU2:=Lib.hid hu2
    clear hu2 y0 y1 y2 u0 u1 u2
    go_wp2_with fail
    go_roundg (rl - (i+1))
    case measure=>have:=HI.out.1;omega
    case rel=>exact ⟨i+1,by have:=HI.out.1;omega,by go_num,HI.out.2.trans HU2.out⟩
   ·clear w0 wv1 wv2 hup
    go_wp2_with fail
    rw [Exit.noGoto_ret]
    go_ret
    exact ⟨rfl,(HUQ.out.trans HT2.out).trans HI.out.2⟩
def DropPost (w:World) (b fb:Nat) (ve vn va:Value) (vs:List Value) (E:List Int) (S:List Sp) (c:Int) (x:Sp) (e:Ending) (w':World):Prop:=
 e=.returned (.bool true)∧(∃vs',SegAt w' b fb ve vn va vs' E (atS E (without S x)) (c - 1)∧∀y∈rfoot va vs',y∈rfoot va vs)∧Upd (b::rfoot va vs) w w'
theorem segDropYes {w:World} {b fb:Nat} {ve vn va:Value} {vs:List Value} {E:List Int} {S:List Sp} {c:Int} (h:SegAt w b fb ve vn va vs E (atS E S) c) (x:Sp) (hEl:E.length<100000) (hE:E.Pairwise (· < ·)) (hin:spInS E x=true) (hxS:x∈S) (hSn:S.Nodup) (hok:SpOk E x) (hSl:S.length≤1000) (hc0:0≤c) (hc1:c≤1000000) :
 Calls Tryz.prog 139 #[.pointer (some ⟨b,0,none⟩),spV x] w (DropPost w b fb ve vn va vs E S c x):=by
 obtain ⟨Ae,Ce,rfl⟩:=own_form h.ends
 obtain ⟨lo,hi,id⟩:=x
 unfold spV
 dsimp only
 have hu0:Upd [] w (w.alloc (.cells #[.int .i64 lo,.int .i64 hi,.int .u32 (id:Int)] 62)):=(Upd.refl _ _).alloc _
 have hq0:w.heap.size<(w.alloc (.cells #[.int .i64 lo,.int .i64 hi,.int .u32 (id:Int)] 62)).heap.size:=by simp
 have x0:(w.alloc (.cells #[.int .i64 lo,.int .i64 hi,.int .u32 (id:Int)] 62)).cell? ⟨w.heap.size,0,none⟩=some (.int .i64 lo):=by rw [World.cell?_alloc_at _ _ _ _ rfl];rfl
 have x1:(w.alloc (.cells #[.int .i64 lo,.int .i64 hi,.int .u32 (id:Int)] 62)).cell? ⟨w.heap.size,1,none⟩=some (.int .i64 hi):=by rw [World.cell?_alloc_at _ _ _ _ rfl];rfl
 have x2:(w.alloc (.cells #[.int .i64 lo,.int .i64 hi,.int .u32 (id:Int)] 62)).cell? ⟨w.heap.size,2,none⟩=some (.int .u32 (id:Int)):=by rw [World.cell?_alloc_at _ _ _ _ rfl];rfl
 generalize hW0:w.alloc (.cells #[.int .i64 lo,.int .i64 hi,.int .u32 (id:Int)] 62)=W0 at hu0 hq0 x0 x1 x2
 have hs0:=h.upd0 hu0
 have y0:∀z:QW W0,z.w.cell? ⟨w.heap.size,0,none⟩=some (.int .i64 lo):=fun z=>(z.up.cell (p:=⟨w.heap.size,0,none⟩) hq0 (by simp)).trans x0
 have y1:∀z:QW W0,z.w.cell? ⟨w.heap.size,1,none⟩=some (.int .i64 hi):=fun z=>(z.up.cell (p:=⟨w.heap.size,1,none⟩) hq0 (by simp)).trans x1
 have c0:∀z:QW W0,z.w.cell? ⟨b,0,none⟩=some (.slice Ae E.length Ce):=fun z=>(hs0.upd0 z.up).cells.1
 have HNN:=Lib.hid fun (z:QW W0)=>segNone (hs0.upd0 z.up)
 have HW:=Lib.hid hW0
 have HU0:=Lib.hid hu0
 have h0:=spInS_le hin
 obtain ⟨m,hm⟩:∃m,E.length=m+1:=⟨E.length - 1,by omega⟩
 obtain ⟨a,ha⟩:∃a,E[0]? = some a:=⟨_,List.getElem?_eq_getElem h0⟩
 obtain ⟨z,hz⟩:∃z,E[m]? = some z:=⟨_,List.getElem?_eq_getElem (by omega)⟩
 have e0:∀q:QW W0,q.w.cell? ⟨b,0,none⟩=some (.slice Ae (m+1) Ce):=fun q=>by rw [←hm];exact c0 q
 obtain ⟨g,rfl,-⟩:=rowL_at hs0.ends ha
 have ea:∀q:QW W0,q.w.cell? ⟨g,0,none⟩=some (.int .i64 a):=fun q=>by
  obtain ⟨g',hg,hc⟩:=rowL_at (hs0.upd0 q.up).ends ha
  injection hg with hg;injection hg with hg;subst hg
  exact hc
 have ez:∀q:QW W0,q.w.cell? ⟨g,m,none⟩=some (.int .i64 z):=fun q=>by
  obtain ⟨g',hg,hc⟩:=rowL_at (hs0.upd0 q.up).ends hz
  injection hg with hg;injection hg with hg;subst hg
  exact hc
 have m0:(0:Int)≤(m:Int):=Int.natCast_nonneg _
 have m1:(m:Int)<100000:=by omega
 have hmz:((m:Int)+1==0)=false:=by simp;omega
 have hin':lo≤hi∧a≤lo∧hi≤z:=by
  obtain ⟨a',z',k1,k2,k3,k4,k5⟩:=spInS_true hin
  rw [ha] at k1
  rw [show E.length - 1=m by omega,hz] at k2
  injection k1 with k1
  injection k2 with k2
  subst k1 k2
  exact ⟨k3,k4,k5⟩
 have g1:decide (hi<lo)=false:=decide_eq_false (by omega)
 have g2:decide (lo<a)=false:=decide_eq_false (by omega)
 have g3:decide (z<hi)=false:=decide_eq_false (by omega)
 have hbel:=spInS_below hE hin
 have hnp:=nodesS_pos hE hin
 have hnods:=fun (w:World) (hs:SegAt w b fb (.slice (some ⟨g,0,none⟩) E.length Ce) vn va vs E (atS E S) c)=>segNodes hs ⟨lo,hi,id⟩ hE hEl hbel.1 hbel.2
 unfold spV at hnods
 dsimp only at hnods hbel
 have HBEL:=Lib.hid hbel
 have HNODS:=Lib.hid hnods
 have HS0:=Lib.hid hs0
 have HX:=Lib.hid (And.intro x0 (And.intro x1 x2))
 have HQ0:=Lib.hid hq0
 obtain ⟨L,hL⟩:∃L,nodesS E ⟨lo,hi,id⟩=L:=⟨_,rfl⟩
 rw [hL] at hnp HNODS
 have hnL:∃J,L.length=J∧J≤1000000:=by
  refine ⟨_,rfl,?_⟩
  have h1:=canonL_len (nSl E) (2*below E lo) (2*below E hi+1) 0 (nSl E) 0 (by omega) (by have:=HBEL.out.2;omega)
  have h5:(nodesS E ⟨lo,hi,id⟩).length≤2*(nSl E - 0) - 1:=h1
  rw [hL] at h5
  unfold nSl at h5
  omega
 obtain ⟨J,hJ,hJb⟩:=hnL
 rw [hJ] at hnp
 have HNP:=Lib.hid (And.intro hnp (And.intro hJ hL))
 have hJ0:=hnp.2.2
 have HXS:=Lib.hid (And.intro hxS (And.intro hSn (And.intro hok hE)))
 have HLT0:=Lib.hid h.rows.lt
 clear hxS hSn hok h hs0 hW0 hu0 x0 x1 x2 hin hin' hEl c0 ha hz hm h0 hbel hnp hnods hL hJ hE hq0
 go_enter Tryz.func139,Tryz.ntmps139
 go_wp2_with fail
 go_step3
 go_upto_region 1 with fail
 rw [HW.out]
 refine wp_region_quietU (by kernel_rfl) (by kernel_rfl) ?_
 repeat (go_big_quiet_step (with_reducible exact Calls.quietU ((HNN.out _).mono fun _ _ hh=>⟨hh.1,hh.2 ▸ Upd.refl _ _⟩)))
 refine wpQuiet_nil ?_
 intro wq hw'
 obtain ⟨⟨wq',hwq⟩,hw''⟩:=hw'
 dsimp only at hw''
 subst hw''
 clear e0 ea ez y0 y1 g1 g2 g3 hmz m0 m1
 have hs1:=HS0.out.upd0 hwq
 have z0:=(hwq.cell (p:=⟨w.heap.size,0,none⟩) HQ0.out (by simp)).trans HX.out.1
 have z1:=(hwq.cell (p:=⟨w.heap.size,1,none⟩) HQ0.out (by simp)).trans HX.out.2.1
 have z2:=(hwq.cell (p:=⟨w.heap.size,2,none⟩) HQ0.out (by simp)).trans HX.out.2.2
 have HND:=Lib.hid (HNODS.out wq hs1)
 have HS1:=Lib.hid hs1
 have HUQ:=Lib.hid (HU0.out.trans hwq)
 have hqq:w.heap.size<wq.heap.size:=Nat.lt_of_lt_of_le HQ0.out hwq.size
 clear hs1 hwq
 go_wp2_with fail
 go_step3
 go_wp2_with fail
 (with_reducible refine HND.out.mono ?_)
 rintro e w5 ⟨A5,C5,rfl,t1,t2⟩
 rw [HNP.out.2.1] at t1 ⊢
 have HT1:=Lib.hid t1
 have HT2:=Lib.hid t2
 have v0:=(t2.cell (p:=⟨w.heap.size,0,none⟩) hqq (by simp)).trans z0
 have v1:=(t2.cell (p:=⟨w.heap.size,1,none⟩) hqq (by simp)).trans z1
 have v2:=(t2.cell (p:=⟨w.heap.size,2,none⟩) hqq (by simp)).trans z2
 have HV:=Lib.hid (And.intro v0 (And.intro v1 v2))
 have hq5:w.heap.size<w5.heap.size:=Nat.lt_of_lt_of_le hqq t2.size
 have HS5:=Lib.hid (HS1.out.upd0 t2)
 obtain ⟨q,hq⟩:∃q,w.heap.size=q:=⟨_,rfl⟩
 have HQQ:=Lib.hid hq
 have HQWQ:=Lib.hid (show q<wq.heap.size by rw [←hq];exact hqq)
 rw [hq] at HV hq5 ⊢
 clear t1 t2 z0 z1 z2 v0 v1 v2 hqq hq
 go_wp2_with fail
 obtain ⟨Aa,Ca,rfl⟩:=own_form HS5.out.rows.list
 obtain ⟨ga,rfl⟩:∃ga,Aa=some ⟨ga,0,none⟩:=by
  obtain ⟨p,hp⟩:∃p,L[0]? = some p:=⟨_,List.getElem?_eq_getElem (by rw [HNP.out.2.1];exact hJ0)⟩
  have hpl:p<(atS E S).length:=by rw [atS_len];exact HNP.out.1.2.1 p (List.mem_of_getElem? hp)
  obtain ⟨ga,_,_,e,-⟩:=HS5.out.rows.at hpl
  exact ⟨ga,e⟩
 have hN0:vs.length=2*nSl E - 1:=by rw [HS5.out.rows.len,atS_len]
 have HN0:=Lib.hid hN0
 have HU5:=Lib.hid ((HUQ.out.trans HT2.out).mono (G:=rfoot (.slice (some ⟨ga,0,none⟩) vs.length Ca) vs) (by simp))
 have hlw:∀y∈rfoot (.slice (some ⟨ga,0,none⟩) vs.length Ca) vs,y<q:=fun y hy=>by
  have:=HLT0.out y hy
  rw [←HQQ.out];exact this
 have HLW:=Lib.hid hlw
 clear hN0 hlw
 go_loopg [5,59] J (fun m s5 s59 wr=>∃(j:Nat) (vs2:List Value),m+j=J∧s5=.bool (decide (0<j))∧s59=.int .i64 (j:Int)∧SegAt wr b fb (.slice (some ⟨g,0,none⟩) E.length Ce) vn (.slice (some ⟨ga,0,none⟩) vs.length Ca) vs2 E (dropsR ⟨lo,hi,id⟩ (atS E S) (L.take j)) c∧
  (∀y∈rfoot (.slice (some ⟨ga,0,none⟩) vs.length Ca) vs2,y∈rfoot (.slice (some ⟨ga,0,none⟩) vs.length Ca) vs)∧Upd (rfoot (.slice (some ⟨ga,0,none⟩) vs.length Ca) vs) w wr∧KN.row wr wq.heap.size (.slice A5 J C5) L∧q<wr.heap.size∧wr.cell? ⟨q,0,none⟩=some (.int .i64 lo)∧wr.cell? ⟨q,1,none⟩=some (.int .i64 hi)∧wr.cell? ⟨q,2,none⟩=some (.int .u32 (id:Int)))
 case atStart=>exact ⟨0,vs,rfl,rfl,rfl,by simpa [dropsR] using HS5.out,fun _ h=>h,HU5.out,HT1.out,hq5,HV.out⟩
 case round=>
  obtain ⟨j,vs2,hj,rfl,rfl,hsg,hfo,hup,hrl,hqw,w0,wv1,wv2⟩:=hrel
  have j0:(0:Int)≤(j:Int):=Int.natCast_nonneg _
  have hjJ:j≤J:=by omega
  by_cases hjl:j<J
  ·obtain ⟨p,hp⟩:∃p,L[j]? = some p:=⟨_,List.getElem?_eq_getElem (by rw [HNP.out.2.1];exact hjl)⟩
   have hpl:p<(dropsR ⟨lo,hi,id⟩ (atS E S) (L.take j)).length:=by rw [dropsR_len,atS_len];exact HNP.out.1.2.1 p (List.mem_of_getElem? hp)
   obtain ⟨gl,rfl,lc⟩:=rowN_at hrl hp
   have hs:=hsg
   have c2:=hs.cells.2.2.1
   obtain ⟨ga2,Ak,Ck,hga,hv,rc,rfz,rr⟩:=hs.rows.at hpl
   injection hga with hga
   injection hga with hga _ _
   subst hga
   have hvl:vs2.length=2*nSl E - 1:=by rw [hs.rows.len,dropsR_len,atS_len]
   obtain ⟨Rp,hRp⟩:∃l,(dropsR ⟨lo,hi,id⟩ (atS E S) (L.take j))[p]=l:=⟨_,rfl⟩
   have hRp2:(dropsR ⟨lo,hi,id⟩ (atS E S) (L.take j))[p]? = some Rp:=by rw [List.getElem?_eq_getElem hpl,hRp]
   rw [hRp] at hv rc rr
   obtain ⟨rl,hrll⟩:∃r,Rp.length=r:=⟨_,rfl⟩
   rw [hrll] at hv rc rr
   have p0:(0:Int)≤(p:Int):=Int.natCast_nonneg _
   have p1:(p:Int)<(vs.length:Int):=by have:=HN0.out;have:=HNP.out.1.2.1 p (List.mem_of_getElem? hp);omega
   have rl0:(0:Int)≤(rl:Int):=Int.natCast_nonneg _
   have hpn:p∉L.take j:=by
    obtain ⟨h1,h2⟩:=List.getElem?_eq_some_iff.1 hp
    intro hc
    obtain ⟨i,hi1,hi2⟩:=List.mem_iff_getElem.1 hc
    rw [List.length_take] at hi1
    rw [List.getElem_take] at hi2
    have:=List.pairwise_iff_getElem.1 HNP.out.1.1 i j (by omega) h1 (by omega)
    rw [hi2,h2] at this
    exact this rfl
   have hrow:=dropsR_row (S:=S) (E:=E) (x:=⟨lo,hi,id⟩) (L:=L.take j) (p:=p) (List.Nodup.sublist (List.take_sublist j L) HNP.out.1.1) hpn hRp2
   have hxR:(⟨lo,hi,id⟩:Sp)∈Rp:=by
    rw [hrow,List.mem_filter]
    exact ⟨HXS.out.1,by simp;rw [HNP.out.2.2];exact List.mem_of_getElem? hp⟩
   have hRn:Rp.Nodup:=by rw [hrow];exact List.Nodup.sublist List.filter_sublist HXS.out.2.1
   have hrb:rl≤1000:=by rw [←hrll,hrow];have:=List.length_filter_le (fun s=>decide (p∈nodesS E s)) S;omega
   have hst:dropsR ⟨lo,hi,id⟩ (atS E S) (L.take (j+1))=(dropsR ⟨lo,hi,id⟩ (atS E S) (L.take j)).set p (Rp.filter fun s=>decide (s≠⟨lo,hi,id⟩)):=by
    obtain ⟨h1,h2⟩:=List.getElem?_eq_some_iff.1 hp
    rw [List.take_succ_eq_append_getElem h1,h2,dropsR_app]
    show dropR _ _ p=_
    unfold dropR
    rw [hRp2]
    rfl
   generalize hR:dropsR ⟨lo,hi,id⟩ (atS E S) (L.take j)=R at hs hsg hst hpl hRp hRp2
   have HJ:=Lib.hid (And.intro hj (And.intro hfo (And.intro hup (And.intro hrl hqw))))
   have HR:=Lib.hid (And.intro rr (And.intro hxR (And.intro hrll (And.intro hs (And.intro hRn (And.intro hst (And.intro hv hvl)))))))
   have j1:(j:Int)<(J:Int):=by omega
   clear hp hpl hs hsg hvl hRp hRp2 rr hrll hrow hv hpn hxR hRn hst hR hj hfo hup hrl
   obtain ⟨wo,hwo⟩:∃wo:World,wo=wr:=⟨_,rfl⟩
   subst hwo
   go_wp2_with fail
   go_loopg [71] rl (fun m s71 wr=>∃i:Nat,m+i=rl∧s71=.int .i64 (i:Int)∧(⟨lo,hi,id⟩:Sp)∉Rp.take i∧Upd [] wo wr)
   case atStart=>exact ⟨0,rfl,rfl,by simp,Upd.refl _ _⟩
   case round=>
    obtain ⟨i,hi',rfl,hxi,hup⟩:=hrel
    have i0:(0:Int)≤(i:Int):=Int.natCast_nonneg _
    have hir:i≤rl:=by omega
    have hil:i<rl:=by
     rcases Nat.lt_or_ge i rl with h1 | h1
     ·exact h1
     ·exfalso
      rw [List.take_of_length_le (by rw [HR.out.2.2.1];exact h1)] at hxi
      exact hxi HR.out.2.1
    have HI:=Lib.hid (And.intro hi' (And.intro hup hxi))
    have hzz:=hup.size
    clear hi' hxi
    obtain ⟨y,hy⟩:∃y,Rp[i]? = some y:=⟨_,List.getElem?_eq_getElem (by rw [HR.out.2.2.1];exact hil)⟩
    have rr2:KSp.row wr 0 (.slice Ak rl Ck) Rp:=own_upd HR.out.1 hup (by simp)
    obtain ⟨gr,Cr,hgr,ey,-⟩:=row_at (K:=KSp) rr2 hy
    injection hgr with hgr1 hgrn hgr3
    clear hgrn
    subst hgr1 hgr3
    have y0:wr.cell? ⟨gr,i*3,none⟩=some (.int .i64 y.lo):=ey 0 _ rfl
    have y1:wr.cell? ⟨gr,i*3+1,none⟩=some (.int .i64 y.hi):=ey 1 _ rfl
    have y2:wr.cell? ⟨gr,i*3+2,none⟩=some (.int .u32 (y.id:Int)):=ey 2 _ rfl
    have b1:(i:Int)<(rl:Int):=by omega
    have u0:=(hup.cell (p:=⟨q,0,none⟩) hqw (by simp)).trans w0
    have u1:=(hup.cell (p:=⟨q,1,none⟩) hqw (by simp)).trans wv1
    have u2:=(hup.cell (p:=⟨q,2,none⟩) hqw (by simp)).trans wv2
    have HY:=Lib.hid hy
    have hqw2:q<wr.heap.size:=Nat.lt_of_lt_of_le hqw hzz
    have HU:=Lib.hid (And.intro u0 (And.intro u1 u2))
    clear hy rr2 ey hup w0 wv1 wv2 rc lc
    obtain ⟨wl,hwl⟩:∃wl:World,wl=wr:=⟨_,rfl⟩
    subst hwl
    go_upto_region 10 with fail
    have hu2:Upd [] wl (wl.alloc (.cells #[.int .i64 y.lo,.int .i64 y.hi,.int .u32 (y.id:Int)] 62)):=(Upd.refl _ _).alloc _
    have d0:(wl.alloc (.cells #[.int .i64 y.lo,.int .i64 y.hi,.int .u32 (y.id:Int)] 62)).cell? ⟨wl.heap.size,0,none⟩=some (.int .i64 y.lo):=by rw [World.cell?_alloc_at _ _ _ _ rfl];rfl
    have d1:(wl.alloc (.cells #[.int .i64 y.lo,.int .i64 y.hi,.int .u32 (y.id:Int)] 62)).cell? ⟨wl.heap.size,1,none⟩=some (.int .i64 y.hi):=by rw [World.cell?_alloc_at _ _ _ _ rfl];rfl
    have d2:(wl.alloc (.cells #[.int .i64 y.lo,.int .i64 y.hi,.int .u32 (y.id:Int)] 62)).cell? ⟨wl.heap.size,2,none⟩=some (.int .u32 (y.id:Int)):=by rw [World.cell?_alloc_at _ _ _ _ rfl];rfl
    have q0:=(hu2.cell (p:=⟨q,0,none⟩) hqw2 (by simp)).trans u0
    have q1:=(hu2.cell (p:=⟨q,1,none⟩) hqw2 (by simp)).trans u1
    have q2:=(hu2.cell (p:=⟨q,2,none⟩) hqw2 (by simp)).trans u2
    have hz2:wl.heap.size≤(wl.alloc (.cells #[.int .i64 y.lo,.int .i64 y.hi,.int .u32 (y.id:Int)] 62)).heap.size:=hu2.size
    generalize (wl.alloc (.cells #[.int .i64 y.lo,.int .i64 y.hi,.int .u32 (y.id:Int)] 62))=W2 at hu2 d0 d1 d2 q0 q1 q2 hz2 ⊢
    have HU2:=Lib.hid (HI.out.2.1.trans hu2)
    have HQ2:=Lib.hid (And.intro q0 (And.intro q1 q2))
    clear hu2 y0 y1 y2 u0 u1 u2
    by_cases hyx:y=⟨lo,hi,id⟩
    ·have heq:=fun w=>eqSp y ⟨lo,hi,id⟩ w
     rw [decide_eq_true hyx] at heq
     unfold spV at heq
     dsimp only at heq
     go_upto_region 11 with fail
     have hsA:=(HR.out.2.2.2.1.upd0 HU2.out).upd0 ((Upd.refl [] W2).drew)
     have hrA:KSp.row W2.drew 0 (.slice (some ⟨gr,0,none⟩) rl Ck) Rp:=own_upd HR.out.1 (HU2.out.trans ((Upd.refl [] W2).drew)) (by simp)
     have hdel:=deleteC 0 gr rl Ck Rp i W2.drew hrA HR.out.2.2.1 hil (by omega)
     have hrcA:=hsA.cells.2.2.1
     have hvA:=HR.out.2.2.2.2.2.2.1
     have hlN:vs2.length=vs.length:=by have h1:=HR.out.2.2.2.2.2.2.2;have h2:=HN0.out;omega
     have hvlA:=hsA.rows.list
     rw [hlN] at hvlA
     have hsepb:b∉blk (.slice (some ⟨gr,0,none⟩) rl Ck):=fun hc=>hsA.bro (mem_rfoot.2 (.inr ⟨p,_,hvA,hc⟩))
     have hsepg:ga∉blk (.slice (some ⟨gr,0,none⟩) rl Ck):=fun hc=>hsA.rows.away p _ ga hvA hc (by simp [blk])
     have hcA:W2.drew.cell? ⟨ga,p,none⟩=some (.slice (some ⟨gr,0,none⟩) rl Ck):=by
      have h1:=World.ownsRow.cellAt hvlA p (by have:=(List.getElem?_eq_some_iff.1 hvA).1;omega)
      rw [h1,hvA]
     have HKC:=Lib.hid (And.intro hrcA hcA)
     have HSGA:=Lib.hid hsA
     have HVL:=Lib.hid hvlA
     have HVN:=Lib.hid (And.intro hlN.symm (And.intro hvA trivial))
     have HSEP:=Lib.hid (And.intro hsepb hsepg)
     have HDEL:=Lib.hid hdel
     have HERA:=Lib.hid (eraseIdx_filter HR.out.2.2.2.2.1 HY.out)
     have HYX:=Lib.hid hyx
     have y2w:IntKind.i64.wrap ((i:Int)+1)=(i:Int)+1:=IntWalk.i64_in _ (by omega)
     clear hsA hrA hdel hrcA hvA hlN hvlA hsepb hsepg hcA heq d0 d1 d2 q0 q1 q2 hyx
     refine GoT.start [16,17] (fun w'=>w'.cell? ⟨b,2,none⟩=some (.slice (some ⟨ga,0,none⟩) vs.length Ca)∧w'.cell? ⟨ga,p,none⟩=some (.slice (some ⟨gr,0,none⟩) rl Ck)) (by kernel_rfl) ?_ fun hS=>?_
     ·exact HKC.out
     refine' GoT.mv (i:=0) (oi:=⟨some 79,_,_,_,_,_⟩) rfl (by rfl) ?y11_0 ?_
     case y11_0=>intro w;go_simp<;>with_reducible rfl
     simp only [Act.put,sA,sZ,sS]
     refine' GoT.mv (i:=1) (oi:=⟨some 80,_,_,_,_,_⟩) rfl (by rfl) ?y11_1 ?_
     case y11_1=>intro w;go_simp<;>with_reducible rfl
     simp only [Act.put,sA,sZ,sS]
     refine' GoT.mv (i:=2) (oi:=⟨some 81,_,_,_,_,_⟩) rfl (by rfl) ?y11_2 ?_
     case y11_2=>intro w;go_simp<;>with_reducible rfl
     simp only [Act.put,sA,sZ,sS]
     refine' GoT.tk 1 (i:=3) (oi:=⟨some 82,_,_,_,_,_⟩) rfl (by rfl) ?y11_3 ?_
     case y11_3=>intro w hSw;obtain ⟨s0,s1⟩:=hSw;go_simp<;>with_reducible rfl
     simp only [Act.put,sA,sZ,sS]
     refine' GoT.mv (i:=4) (oi:=⟨some 83,_,_,_,_,_⟩) rfl (by rfl) ?y11_4 ?_
     case y11_4=>intro w;go_simp<;>with_reducible rfl
     simp only [Act.put,sA,sZ,sS]
     refine' GoT.mv (i:=5) (oi:=⟨some 84,_,_,_,_,_⟩) rfl (by rfl) ?y11_5 ?_
     case y11_5=>intro w;go_simp<;>with_reducible rfl
     simp only [Act.put,sA,sZ,sS]
     refine' GoT.mv (i:=6) (oi:=⟨some 85,_,_,_,_,_⟩) rfl (by rfl) ?y11_6 ?_
     case y11_6=>intro w;go_simp<;>with_reducible rfl
     simp only [Act.put,sA,sZ,sS]
     refine' GoT.mv (i:=7) (oi:=⟨some 86,_,_,_,_,_⟩) rfl (by rfl) ?y11_7 ?_
     case y11_7=>intro w;go_simp<;>with_reducible rfl
     simp only [Act.put,sA,sZ,sS]
     refine' GoT.tk 1 (i:=8) (oi:=⟨some 87,_,_,_,_,_⟩) rfl (by rfl) ?y11_8 ?_
     case y11_8=>intro w hSw;obtain ⟨s0,s1⟩:=hSw;go_simp<;>with_reducible rfl
     simp only [Act.put,sA,sZ,sS]
     refine' GoT.mv (i:=9) (oi:=⟨some 88,_,_,_,_,_⟩) rfl (by rfl) ?y11_9 ?_
     case y11_9=>intro w;go_simp<;>with_reducible rfl
     simp only [Act.put,sA,sZ,sS]
     refine' GoT.mv (i:=10) (oi:=⟨some 89,_,_,_,_,_⟩) rfl (by rfl) ?y11_10 ?_
     case y11_10=>intro w;go_simp<;>with_reducible rfl
     simp only [Act.put,sA,sZ,sS]
     refine' GoT.tk 1 (i:=11) (oi:=⟨some 90,_,_,_,_,_⟩) rfl (by rfl) ?y11_11 ?_
     case y11_11=>intro w hSw;obtain ⟨s0,s1⟩:=hSw;go_simp<;>with_reducible rfl
     simp only [Act.put,sA,sZ,sS]
     refine' GoT.mv (i:=12) (oi:=⟨some 91,_,_,_,_,_⟩) rfl (by rfl) ?y11_12 ?_
     case y11_12=>intro w;go_simp<;>with_reducible rfl
     simp only [Act.put,sA,sZ,sS]
     refine' GoT.mv (i:=13) (oi:=⟨some 92,_,_,_,_,_⟩) rfl (by rfl) ?y11_13 ?_
     case y11_13=>intro w;go_simp<;>with_reducible rfl
     simp only [Act.put,sA,sZ,sS]
     refine' GoT.mv (i:=14) (oi:=⟨some 93,_,_,_,_,_⟩) rfl (by rfl) ?y11_14 ?_
     case y11_14=>intro w;go_simp<;>with_reducible rfl
     simp only [Act.put,sA,sZ,sS]
     refine GoT.one (i:=15) (o:=⟨some 94,_,_,_,_,_⟩) rfl (by kernel_rfl) fun K hK=>?_
     go_simp
     go_at_call 175
     (with_reducible refine HDEL.out.mono ?_)
     rintro e w9 ⟨rfl,hr9,hu9⟩
     have hkb:b∉[gr]:=fun hc=>HSEP.out.1 (by simp [blk];simpa using hc)
     have hkg:ga∉[gr]:=fun hc=>HSEP.out.2 (by simp [blk];simpa using hc)
     have hcl:=(hu9.cell (p:=⟨ga,p,none⟩) (World.block_lt_of_cell? _ _ (HKC.out.2)) hkg).trans HKC.out.2
     have hfz:w9.frozen? ⟨ga,p,none⟩=false:=World.ownsRow.frozenAt (own_upd HVL.out hu9 (fun y hy hc=>by simp [blk] at hy;subst hy;exact hkg hc)) p
     have hres:=SegAt.restore HSGA.out (HVN.out.1) HVN.out.2.1 (u:=.slice (some ⟨gr,0,none⟩) rl Ck) (by simpa [blk] using hu9) hr9 rfl
     refine hK.out _ _ (fun _ h=>?_) ?_
     ·exact ⟨(hu9.cell (p:=⟨b,2,none⟩) (World.block_lt_of_cell? _ _ h.1) hkb).trans h.1,(hu9.cell (p:=⟨ga,p,none⟩) (World.block_lt_of_cell? _ _ h.2) hkg).trans h.2⟩
     clear hK K
     try simp only [Act.put,sA,sZ,sS]
     refine' GoT.mv (i:=16) (oi:=⟨some 95,_,_,_,_,_⟩) rfl (by rfl) ?y11_16 ?_
     case y11_16=>intro w;go_simp<;>with_reducible rfl
     simp only [Act.put,sA,sZ,sS]
     refine GoT.one (i:=17) (o:=⟨none,_,_,_,_,_⟩) rfl (by kernel_rfl) fun K hK=>?_
     go_simp
     refine hK.out _ _ (fun h=>(by cases h)) ?_
     clear hK K
     try simp only [Act.put,sA,sZ,sS]
     refine GoT.done (by kernel_rfl) ?_
     have HEND:=Lib.hid hres
     clear hres hr9 hu9 hcl hfz hkb hkg
     go_wp2_with fail
     go_roundg (J - (j+1))
     case measure=>have:=HJ.out.1;omega
     case rel=>
      obtain ⟨g1,g2,g3⟩:=HEND.out
      obtain ⟨hj,hfo,hup,hrl,hqq⟩:=HJ.out
      have hW:=HU2.out.trans ((Upd.refl [] W2).drew)
      have hqn:q∉rfoot (.slice (some ⟨ga,0,none⟩) vs.length Ca) vs2:=fun hc=>by have:=HLW.out q (hfo q hc);omega
      have hqA:q<W2.drew.heap.size:=Nat.lt_of_lt_of_le hqq hW.size
      refine ⟨j+1,vs2.set p (.slice (some ⟨gr,0,none⟩) (Rp.length - 1) Ck),by omega,by simp,by go_num,?_,fun y hy=>hfo y (g3 y hy),(hup.trans (hW.mono (by simp))).trans' g2 (fun y hy=>.inl (hfo y hy)),own_upd (own_upd hrl hW (by simp)) g2 (fun y hy hc=>by have h1:=own_ge HT1.out y hy;have h2:=HLW.out y (hfo y hc);have h3:=HQWQ.out;omega),
       Nat.lt_of_lt_of_le hqA g2.size,(g2.cell (p:=⟨q,0,none⟩) hqA hqn).trans HQ2.out.1,(g2.cell (p:=⟨q,1,none⟩) hqA hqn).trans HQ2.out.2.1,(g2.cell (p:=⟨q,2,none⟩) hqA hqn).trans HQ2.out.2.2⟩
      have hera:=HERA.out
      rw [HYX.out] at hera
      rw [HR.out.2.2.2.2.2.1,←hera]
      exact g1
    ·have heq:=fun w=>eqSp y ⟨lo,hi,id⟩ w
     rw [decide_eq_false hyx] at heq
     unfold spV at heq
     dsimp only at heq
     have HYX:=Lib.hid hyx
     clear hyx
     go_wp2_with fail
     go_roundg (rl - (i+1))
     case measure=>have:=HI.out.1;omega
     case rel=>
      refine ⟨i+1,by have:=HI.out.1;omega,by go_num,?_,HU2.out⟩
      obtain ⟨h1,h2⟩:=List.getElem?_eq_some_iff.1 HY.out
      rw [List.take_succ_eq_append_getElem h1,h2,List.mem_append]
      rintro (h3 | h3)
      ·exact HI.out.2.2 h3
      ·exact HYX.out (List.mem_singleton.1 h3).symm
  ·have hjJ2:j=J:=by omega
   have hLL:L.take j=L:=by rw [hjJ2,←HNP.out.2.1];exact List.take_length
   rw [hLL,←HNP.out.2.2,dropsR_all HXS.out.2.2.2 HXS.out.2.2.1] at hsg
   have hd:decide (0<j)=true:=decide_eq_true (by omega)
   have n3:=hsg.cells.2.2.2.1
   have f3:=hsg.cells.2.2.2.2 3
   have HSG:=Lib.hid (And.intro hsg (And.intro hfo hup))
   clear hLL hsg hfo hup hrl hqw w0 wv1 wv2 hj hjJ2
   rw [hd]
   clear hd
   go_wp2_with fail
   rw [Exit.noGoto_ret]
   go_ret
   refine ⟨rfl,⟨vs2,HSG.out.1.count _,HSG.out.2.1⟩,(HSG.out.2.2.mono (G:=b::rfoot (.slice (some ⟨ga,0,none⟩) vs.length Ca) vs) (fun y hy=>.inl (List.mem_cons_of_mem _ hy))).setCell (p:=⟨b,3,none⟩) (.inl (by simp)) _⟩
def IsDrop (w:World) (b:Nat) (F:List Nat) (E:List Int) (S:List Sp) (x:Sp) (e:Ending) (w':World):Prop:=
 e=.returned (.bool (decide (x∈S)))∧IsSeg w' b F E (without S x)∧Upd F w w'
theorem isDrop {w:World} {b:Nat} {F:List Nat} {E:List Int} {S:List Sp} (h:IsSeg w b F E S) (x:Sp) :
 Calls Tryz.prog 139 #[.pointer (some ⟨b,0,none⟩),spV x] w (IsDrop w b F E S x):=by
 obtain ⟨fb,ve,vn,va,vs,h1,h2⟩:=h.at_
 have hl:=h.len
 have hm:=h.many
 have hno:x∉S→∀e w',e=Ending.returned (.bool false)∧Upd [] w w'→IsDrop w b F E S x e w':=fun hx e w' hh=>
  ⟨by rw [decide_eq_false hx];exact hh.1,by rw [without_not hx];exact h.upd0 hh.2,hh.2.mono (by simp)⟩
 by_cases hx:x∈S
 ·refine (segDropYes h1 x (by omega) h.rise (spInS_ok h.rise (h.ok x hx)) hx (nodup_of_names h.names) (h.ok x hx) hm (Int.natCast_nonneg _) (by omega)).mono ?_
  rintro e w' ⟨rfl,⟨vs',g1,g2⟩,g3⟩
  have hwl:=without_len (nodup_of_names h.names) hx
  refine ⟨by rw [decide_eq_true hx],⟨⟨fb,ve,vn,va,vs',?_,fun k hk=>?_⟩,h.rise,hl,fun s hs=>h.ok s (List.mem_filter.1 hs).1,?_,by omega,fun k hk=>Nat.lt_of_lt_of_le (h.flt k hk) g3.size⟩,g3.mono (fun y hy=>.inl ?_)⟩
  ·have e:((without S x).length:Int)=(S.length:Int) - 1:=by omega
   rw [e];exact g1
  ·rcases hk with hk | hk | hk | hk | hk
   ·exact h2 k (.inl hk)
   ·exact h2 k (.inr (.inl hk))
   ·exact h2 k (.inr (.inr (.inl hk)))
   ·exact h2 k (.inr (.inr (.inr (.inl hk))))
   ·exact h2 k (.inr (.inr (.inr (.inr (g2 k hk)))))
  ·exact List.Nodup.sublist (List.Sublist.map _ List.filter_sublist) h.names
  ·rcases List.mem_cons.1 hy with hy | hy
   ·exact h2 y (.inl hy)
   ·exact h2 y (.inr (.inr (.inr (.inr hy))))
 ·by_cases hin:spInS E x=true
  ·exact (segDropNo h1 x (by omega) h.rise hin hx hm).mono fun e w' hh=>hno hx e w' hh
  ·by_cases hne:E.length=0
   ·exact (segDropNone h1 x hne).mono fun e w' hh=>hno hx e w' hh
   ·exact (segDropOut h1 x (by omega) hin hne).mono fun e w' hh=>hno hx e w' hh
theorem isCount {w:World} {b:Nat} {F:List Nat} {E:List Int} {S:List Sp} (h:IsSeg w b F E S) (x:Int) :
 Calls Tryz.prog 87 #[.pointer (some ⟨b,0,none⟩),.int .i64 x] w fun e w'=>e=.returned (.tuple #[.int .i64 ((stabL S x).length:Int),.int .i64 (touchV E x:Nat)])∧Upd [] w w':=by
 obtain ⟨fb,ve,vn,va,vs,h1,-⟩:=h.at_
 have hl:=h.len
 have h2:=segCount h1 x h.rise (by omega) (atS_len E S) (fun l hl'=>by
  unfold atS at hl'
  obtain ⟨k,-,rfl⟩:=List.mem_map.1 hl'
  exact Nat.le_trans (List.length_filter_le _ _) h.many)
 rw [ids_count h.rise h.ok] at h2
 exact h2
theorem bitsN_mono {a b:Nat} (h:a≤b):bitsN a≤bitsN b:=bitsN_le a _ (Nat.lt_of_le_of_lt h (bitsN_lt b))
theorem lg_mono {a b:Nat} (h:a≤b):lg a≤lg b:=bitsN_mono (by omega)
theorem touchV_many {E:List Int} {N:Nat} (h:E.Pairwise (· < ·)) (hl:E.length≤2*N) (x:Int):touchV E x≤2*lg (4*N+4)+2:=by
 unfold touchV
 split
 ·rename_i hb
  obtain ⟨a,z,h1,h2,h3⟩:=betwS_true hb
  have hs:=(slot_facts h h1 h2 h3).1
  have g1:=lookN_le E.length 0 E.length (below E x) (by omega)
  have g2:=pathL_len (nSl E) (slotX E x) 0 (nSl E) 0 (by omega) (Nat.zero_le _) hs
  have g3:bitsN (E.length - 0)≤lg (4*N+4):=bitsN_mono (by omega)
  have g4:lg (nSl E - 0)≤lg (4*N+4):=lg_mono (by unfold nSl;omega)
  unfold touchS pathS
  omega
 ·omega
end Go.Proofs.YtkbaaonchdeneaaGreat
