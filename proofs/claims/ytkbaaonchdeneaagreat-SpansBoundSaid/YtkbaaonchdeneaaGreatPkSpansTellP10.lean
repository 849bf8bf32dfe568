/- A seg tree in memory: its ends, its frame, the rows of spans at its nodes. rank.First: the place, and just how many places are looked at. seg: at which nodes a span stands. seg.path: the nodes over the slot of a number. seg.path, of a number between the ends. seg.path, of any number; seg.Len, seg.Count. seg.Count. seg.Stab. seg.right: are these spans, of unlike names? seg.Build: what it is made of; spans that are put at their nodes one by one. seg.Count. -/
import Derived.Laws.OwnMore
import Derived.Test.YtkbaaonchdeneaaGreatPkSpansTellP7
import Derived.Test.YtkbaaonchdeneaaGreatPk33
import Derived.Test.YtkbaaonchdeneaaGreatPkSpansTellP2
import Derived.Test.YtkbaaonchdeneaaGreatPkSpansTellP5
import Derived.Test.YtkbaaonchdeneaaGreatPkSpansTellP4
import Derived.Test.YtkbaaonchdeneaaGreatPk6
import Derived.Test.YtkbaaonchdeneaaGreatPk8
set_option maxHeartbeats 4000000
set_option maxRecDepth 100000
namespace Go.Proofs.YtkbaaonchdeneaaGreat
open Go.RowKit
def atS (E:List Int) (S:List Sp):List (List Sp):=(List.range (2*nSl E - 1)).map fun k=>S.filter fun s=>decide (k∈nodesS E s)
theorem atS_len (E:List Int) (S:List Sp):(atS E S).length=2*nSl E - 1:=by simp [atS]
theorem atS_at {E:List Int} {S:List Sp} {k:Nat} (h:k<2*nSl E - 1):(atS E S)[k]? = some (S.filter fun s=>decide (k∈nodesS E s)):=by
 unfold atS
 rw [List.getElem?_map,List.getElem?_range h]
 rfl
structure SegAt (w:World) (b fb:Nat) (ve vn va:Value) (vs:List Value) (E:List Int) (R:List (List Sp)) (c:Int):Prop where
 head:w.heap[b]? = some (.cells #[ve,.pointer (some ⟨fb,0,none⟩),va,.int .i64 c] 215 (0,0))
 ends:KL.row w 0 ve E
 frm:FrmD w fb vn (nSl E)
 rows:RowsAt KSp w va vs R
 bfb:b≠fb
 bve:b∉blk ve
 bvn:b∉blk vn
 bro:b∉rfoot va vs
 fro:fb∉rfoot va vs
 ero:∀y∈blk ve,y∉rfoot va vs
 nro:∀y∈blk vn,y∉rfoot va vs
theorem SegAt.upd {w w':World} {b fb:Nat} {ve vn va:Value} {vs:List Value} {E:List Int} {R:List (List Sp)} {c:Int} (h:SegAt w b fb ve vn va vs E R c) {F:List Nat} (hu:Upd F w w')
 (h1:b∉F) (h2:fb∉F) (h3:∀y∈blk ve,y∉F) (h4:∀y∈blk vn,y∉F) (h5:∀y∈rfoot va vs,y∉F):SegAt w' b fb ve vn va vs E R c:=
 ⟨(hu.block b (lt_of_block h.head) h1).trans h.head,own_upd h.ends hu h3,h.frm.upd hu h2 h4,h.rows.upd hu h5,h.bfb,h.bve,h.bvn,h.bro,h.fro,h.ero,h.nro⟩
theorem SegAt.upd0 {w w':World} {b fb:Nat} {ve vn va:Value} {vs:List Value} {E:List Int} {R:List (List Sp)} {c:Int} (h:SegAt w b fb ve vn va vs E R c) (hu:Upd [] w w'):SegAt w' b fb ve vn va vs E R c:=
 h.upd hu (by simp) (by simp) (by simp) (by simp) (by simp)
theorem SegAt.cells {w:World} {b fb:Nat} {ve vn va:Value} {vs:List Value} {E:List Int} {R:List (List Sp)} {c:Int} (h:SegAt w b fb ve vn va vs E R c) :
 w.cell? ⟨b,0,none⟩=some ve∧w.cell? ⟨b,1,none⟩=some (.pointer (some ⟨fb,0,none⟩))∧w.cell? ⟨b,2,none⟩=some va∧w.cell? ⟨b,3,none⟩=some (.int .i64 c)∧∀j,w.frozen? ⟨b,j,none⟩=false:=by
 have:=h.head
 refine ⟨?_,?_,?_,?_,?_⟩<;>simp [World.cell?,World.frozen?,this]
theorem SegAt.extend {w w2:World} {b fb g N C:Nat} {ve vn:Value} {vs:List Value} {E:List Int} {R:List (List Sp)} {c:Int} (h:SegAt w b fb ve vn (.slice (some ⟨g,0,none⟩) N C) vs E R c) (hN:N=vs.length)
 {i:Nat} {u v:Value} {l:List Sp} (hv:vs[i]? = some u) (hu:Upd (blk u) w w2) (hrow:KSp.row w2 0 v l) (hb:blk v=blk u∨blk v = [w.heap.size]) :
 SegAt (w2.setCell ⟨g,i,none⟩ v) b fb ve vn (.slice (some ⟨g,0,none⟩) N C) (vs.set i v) E (R.set i l) c∧Upd (rfoot (.slice (some ⟨g,0,none⟩) N C) vs) w (w2.setCell ⟨g,i,none⟩ v)∧
  ∀k∈rfoot (.slice (some ⟨g,0,none⟩) N C) (vs.set i v),k∈rfoot (.slice (some ⟨g,0,none⟩) N C) vs∨w.heap.size≤k:=by
 obtain ⟨r1,r2,r3⟩:=h.rows.extend hN hv hu hrow hb
 have hbw:=lt_of_block h.head
 have hfw:=lt_of_block h.frm.head
 have hew:=own_lt h.ends
 have hnw:=own_lt h.frm.row
 refine ⟨⟨(r2.block b hbw h.bro).trans h.head,own_upd h.ends r2 h.ero,h.frm.upd r2 h.fro h.nro,r1,h.bfb,h.bve,h.bvn,fun hc=>?_,fun hc=>?_,fun y hy hc=>?_,fun y hy hc=>?_⟩,r2,r3⟩
 ·rcases r3 b hc with h1 | h1
  ·exact h.bro h1
  ·omega
 ·rcases r3 fb hc with h1 | h1
  ·exact h.fro h1
  ·omega
 ·have:=hew y hy
  rcases r3 y hc with h1 | h1
  ·exact h.ero y hy h1
  ·omega
 ·have:=hnw y hy
  rcases r3 y hc with h1 | h1
  ·exact h.nro y hy h1
  ·omega
theorem segNone {w:World} {b fb:Nat} {ve vn va:Value} {vs:List Value} {E:List Int} {R:List (List Sp)} {c:Int} (h:SegAt w b fb ve vn va vs E R c) :
 Calls Tryz.prog 207 #[.pointer (some ⟨b,0,none⟩)] w fun e w'=>e=.returned (.bool false)∧w=w':=by
 obtain ⟨-,c1,-⟩:=h.cells
 clear h
 go_enter Tryz.func207,Tryz.ntmps207
 go_wp2_with fail
 go_ret
 exact ⟨rfl,rfl⟩
def lookN (f t p:Nat):Nat:=if f<t then 1+(if f+(t - f) / 2<p then lookN (f+(t - f) / 2+1) t p else lookN f (f+(t - f) / 2) p) else 0
termination_by t - f
decreasing_by
 all_goals omega
theorem lookN_step {f t p c:Nat} (h:f<t) (hc:f+(t - f) / 2=c):lookN f t p=1+(if c<p then lookN (c+1) t p else lookN f c p):=by
 rw [lookN,if_pos h,hc]
theorem lookN_end {f t p:Nat} (h:¬f<t):lookN f t p=0:=by rw [lookN,if_neg h]
theorem lookN_le:∀(d f t p:Nat),t - f≤d→lookN f t p≤bitsN (t - f)
 |0,f,t,p,hd=>by rw [lookN_end (by omega)];exact Nat.zero_le _
 |d+1,f,t,p,hd=>by
  by_cases h:f<t
  ·obtain ⟨c,hc⟩:∃c,f+(t - f) / 2=c:=⟨_,rfl⟩
   rw [lookN_step h hc]
   split
   ·have h1:=lookN_le d (c+1) t p (by omega)
    have h2:=bits_half (t - f) (t - (c+1)) (by omega) (by omega)
    omega
   ·have h1:=lookN_le d f c p (by omega)
    have h2:=bits_half (t - f) (c - f) (by omega) (by omega)
    omega
  ·rw [lookN_end h];exact Nat.zero_le _
theorem begins_firstS (bl bx:Nat) (v:Value) (L:List Int) (x:Int) (w:World) (hs:L.Pairwise (·≤·)) (hc1:w.cell? ⟨bl,0,none⟩=some v) (hc2:w.cell? ⟨bx,0,none⟩=some (.int .i64 x)) (h:See KL w v L) (hl:L.length<4611686018427387904) :
 Calls Tryz.prog 256 #[.int .i64 (L.length:Int),.func (.func 257) #[] #[.pointer (some ⟨bl,0,none⟩),.pointer (some ⟨bx,0,none⟩)]] w fun e w'=>
  e=.returned (.tuple #[.int .i64 (below L x:Nat),.int .i64 (lookN 0 L.length (below L x):Nat)])∧∃n,w'=w.drewN n:=by
 obtain ⟨n,hn⟩:∃n,L.length=n:=⟨_,rfl⟩
 obtain ⟨p,hp⟩:∃p,below L x=p:=⟨_,rfl⟩
 have hpn:=below_le L x
 have hat:=below_at hs x
 rw [hp] at hpn hat ⊢
 rw [hn] at hl hpn ⊢
 have hb62:bitsN n≤62:=bitsN_le n 62 (by omega)
 have HC1:=Lib.hid hc1
 have HC2:=Lib.hid hc2
 have HH:=Lib.hid h
 have HN:=Lib.hid hn
 have HAT:=Lib.hid hat
 clear hc1 hc2 h hn hat hs hp
 go_enter Tryz.func256,Tryz.ntmps256
 go_wp2_with fail
 go_loopg [6,7,8] n (fun m s6 s7 s8 wr=>∃(f t k q:Nat),m=t - f∧f≤p∧p≤t∧t≤n∧s6=.int .i64 (f:Int)∧s7=.int .i64 (t:Int)∧s8=.int .i64 (k:Int)∧k+lookN f t p=lookN 0 n p∧wr=w.drewN q)
 case atStart=>exact ⟨0,n,0,0,rfl,Nat.zero_le _,hpn,Nat.le_refl _,rfl,rfl,rfl,by simp,rfl⟩
 case round=>
  obtain ⟨f,t,k,q,hm,hfp,hpt,htn,rfl,rfl,rfl,hk,rfl⟩:=hrel
  by_cases hft:f<t
  ·obtain ⟨c,hc⟩:∃c,f+(t - f) / 2=c:=⟨_,rfl⟩
   have hcv:Value.int .i64 ((f:Int)+((t:Int) - (f:Int)) / 2)=Value.int .i64 (c:Int):=by congr 1;omega
   have hct:c<t:=by omega
   have hfc:f≤c:=by omega
   obtain ⟨y,hy⟩:∃y,L[c]? = some y:=⟨L[c]'(by rw [HN.out];omega),List.getElem?_eq_getElem _⟩
   have hiff:=HAT.out c y hy
   have hd1:c - f≤(t - f) / 2:=by omega
   have hd2:t - (c+1)≤(t - f) / 2:=by omega
   have hk1:p≤c→k+1+lookN f c p=lookN 0 n p:=fun hh=>by rw [lookN_step hft hc,if_neg (by omega)] at hk;omega
   have hk2:c<p→k+1+lookN (c+1) t p=lookN 0 n p:=fun hh=>by rw [lookN_step hft hc,if_pos hh] at hk;omega
   have hkb:k≤62:=by
    have:=lookN_le n 0 n p (by omega)
    rw [Nat.sub_zero] at this
    omega
   have HM:=Lib.hid hm
   have HK1:=Lib.hid hk1
   have HK2:=Lib.hid hk2
   have HY:=Lib.hid hy
   have HIFF:=Lib.hid hiff
   have HCC:=Lib.hid hc
   clear hm hk hk1 hk2 hy hiff hc hd1 hd2
   go_wp2_with fail
   refine (first_so bl bx v L x y c (w.drewN q) HC1.out HC2.out (HH.out.upd0 ((Upd.refl [] w).drewN q)) HY.out).mono ?_
   rintro e w' ⟨rfl,q2,rfl⟩
   obtain ⟨bb,hbb⟩:∃bb,decide (x≤y)=bb:=⟨_,rfl⟩
   rw [hbb]
   have HBB:=Lib.hid hbb
   clear hbb
   cases bb
   ·have hlt:c<p:=by
     have h1:=of_decide_eq_false HBB.out
     exact HIFF.out.1 (by omega)
    go_wp2_with fail
    go_roundg (t - (c+1))
    case measure=>have:=HM.out;omega
    case rel=>exact ⟨c+1,t,k+1,q+q2,rfl,by omega,hpt,htn,by go_num,rfl,by go_num,HK2.out hlt,rfl⟩
   ·have hge:p≤c:=by
     have h1:=of_decide_eq_true HBB.out
     refine Nat.le_of_not_lt fun h=>?_
     have:=HIFF.out.2 h
     omega
    go_wp2_with fail
    go_roundg (c - f)
    case measure=>have:=HM.out;have:=HCC.out;omega
    case rel=>exact ⟨f,c,k+1,q+q2,rfl,hfp,hge,by omega,rfl,rfl,by go_num,HK1.out hge,rfl⟩
  ·have hfe:f=p:=by omega
   have HFE:=Lib.hid hfe
   have HKK:=Lib.hid (show k=lookN 0 n p by rw [lookN_end hft] at hk;omega)
   clear hfe hk hm
   go_wp2_with fail
   go_ret2
   exact ⟨by rw [←HKK.out,←HFE.out];rfl,q,rfl⟩
theorem firstS (v:Value) (L:List Int) (x:Int) (w:World) (hs:L.Pairwise (·≤·)) (h:See KL w v L) (hl:L.length<4611686018427387904) :
 Calls Tryz.prog 216 #[v,.int .i64 x] w fun e w'=>e=.returned (.tuple #[.int .i64 (below L x:Nat),.int .i64 (lookN 0 L.length (below L x):Nat)])∧Upd [] w w':=by
 obtain ⟨A,C,rfl⟩:=h.form
 have hu:Upd [] w ((w.alloc (.cells #[.slice A L.length C] 57)).alloc (.cells #[.int .i64 x] 2)):=((Upd.refl _ _).alloc _).alloc _
 have hc1:((w.alloc (.cells #[.slice A L.length C] 57)).alloc (.cells #[.int .i64 x] 2)).cell? ⟨w.heap.size,0,none⟩=some (.slice A L.length C):=by
  rw [World.cell?_alloc_past _ _ _ (by simp),World.cell?_alloc_at _ _ _ _ rfl];rfl
 have hc2:((w.alloc (.cells #[.slice A L.length C] 57)).alloc (.cells #[.int .i64 x] 2)).cell? ⟨w.heap.size+1,0,none⟩=some (.int .i64 x):=by
  rw [World.cell?_alloc_at _ _ _ _ (by simp)];rfl
 have hb:=begins_firstS w.heap.size (w.heap.size+1) _ L x _ hs hc1 hc2 (h.upd0 hu) hl
 have HB:=Lib.hid hb
 have HU:=Lib.hid hu
 clear hb hu h hc1 hc2 hs
 go_enter Tryz.func216,Tryz.ntmps216
 go_wp2_with fail
 refine HB.out.mono ?_
 rintro e w' ⟨rfl,q,rfl⟩
 go_wp2_with fail
 go_ret2
 exact ⟨rfl,HU.out.drewN q⟩
def NodsPost (w:World) (L:List Nat) (e:Ending) (w':World):Prop:=∃A C,e=.returned (.slice A L.length C)∧KN.row w' w.heap.size (.slice A L.length C) L∧Upd [] w w'
theorem segNodes {w:World} {b fb:Nat} {ve vn va:Value} {vs:List Value} {E:List Int} {R:List (List Sp)} {c:Int} (h:SegAt w b fb ve vn va vs E R c) (s:Sp)
 (hE:E.Pairwise (· < ·)) (hEl:E.length<100000) (h1:below E s.lo≤below E s.hi) (h2:2*below E s.hi+1≤nSl E) :
 Calls Tryz.prog 206 #[.pointer (some ⟨b,0,none⟩),spV s] w (NodsPost w (nodesS E s)):=by
 obtain ⟨lo,hi,id⟩:=s
 dsimp only at h1 h2
 unfold nodesS spV
 dsimp only
 obtain ⟨pa,hpa⟩:∃p,below E lo=p:=⟨_,rfl⟩
 obtain ⟨pb,hpb⟩:∃p,below E hi=p:=⟨_,rfl⟩
 have hle:E.Pairwise (·≤·):=hE.imp (by intro a b hab;omega)
 have hu0:Upd [] w (w.alloc (.cells #[.int .i64 lo,.int .i64 hi,.int .u32 (id:Int)] 62)):=(Upd.refl _ _).alloc _
 have x0:(w.alloc (.cells #[.int .i64 lo,.int .i64 hi,.int .u32 (id:Int)] 62)).cell? ⟨w.heap.size,0,none⟩=some (.int .i64 lo):=by rw [World.cell?_alloc_at _ _ _ _ rfl];rfl
 have x1:(w.alloc (.cells #[.int .i64 lo,.int .i64 hi,.int .u32 (id:Int)] 62)).cell? ⟨w.heap.size,1,none⟩=some (.int .i64 hi):=by rw [World.cell?_alloc_at _ _ _ _ rfl];rfl
 generalize hW0:w.alloc (.cells #[.int .i64 lo,.int .i64 hi,.int .u32 (id:Int)] 62)=W0 at hu0 x0 x1
 have hs0:=h.upd0 hu0
 obtain ⟨Ae,Ce,rfl⟩:=own_form h.ends
 have c0:∀z:QW W0,z.w.cell? ⟨b,0,none⟩=some (.slice Ae E.length Ce):=fun z=>(hs0.upd0 z.up).cells.1
 have y0:∀z:QW W0,z.w.cell? ⟨w.heap.size,0,none⟩=some (.int .i64 lo):=fun z=>(z.up.cell (p:=⟨w.heap.size,0,none⟩) (World.block_lt_of_cell? _ _ x0) (by simp)).trans x0
 have hf1:∀z:QW W0,Calls Tryz.prog 216 #[.slice Ae E.length Ce,.int .i64 lo] z.w fun e w'=>e=.returned (.tuple #[.int .i64 (pa:Int),.int .i64 (lookN 0 E.length pa:Nat)])∧Upd [] z.w w':=fun z=>by
  have:=firstS _ E lo z.w hle (See.of_row (hs0.upd0 z.up).ends) (by omega)
  rw [hpa] at this
  exact this
 have HF1:=Lib.hid hf1
 have HW:=Lib.hid hW0
 have HU0:=Lib.hid hu0
 have HS0:=Lib.hid hs0
 have HPP:=Lib.hid (And.intro hpa hpb)
 rw [hpa,hpb] at h1
 rw [hpb] at h2
 have hns:nSl E<400000:=by unfold nSl;omega
 rw [hpa,hpb]
 clear hf1 hW0 hu0 hs0 hpa hpb h hEl
 go_enter Tryz.func206,Tryz.ntmps206
 go_upto_region 1 with fail
 rw [HW.out]
 refine wp_region_quietU (by kernel_rfl) (by kernel_rfl) ?_
 repeat (go_big_quiet_step (with_reducible exact Calls.quietU (HF1.out _)))
 refine wpQuiet_nil ?_
 intro wq hw'
 obtain ⟨⟨wq',hwq⟩,hw''⟩:=hw'
 dsimp only at hw''
 subst hw''
 clear c0 y0
 have x2:wq.cell? ⟨w.heap.size,1,none⟩=some (.int .i64 hi):=(hwq.cell (p:=⟨w.heap.size,1,none⟩) (World.block_lt_of_cell? _ _ x1) (by simp)).trans x1
 have hs1:=HS0.out.upd0 hwq
 have c0:∀z:QW wq,z.w.cell? ⟨b,0,none⟩=some (.slice Ae E.length Ce):=fun z=>(hs1.upd0 z.up).cells.1
 have y0:∀z:QW wq,z.w.cell? ⟨w.heap.size,1,none⟩=some (.int .i64 hi):=fun z=>(z.up.cell (p:=⟨w.heap.size,1,none⟩) (World.block_lt_of_cell? _ _ x2) (by simp)).trans x2
 have hf2:∀z:QW wq,Calls Tryz.prog 216 #[.slice Ae E.length Ce,.int .i64 hi] z.w fun e w'=>e=.returned (.tuple #[.int .i64 (pb:Int),.int .i64 (lookN 0 E.length pb:Nat)])∧Upd [] z.w w':=fun z=>by
  have:=firstS _ E hi z.w hle (See.of_row (hs1.upd0 z.up).ends) (by unfold nSl at hns;omega)
  rw [HPP.out.2] at this
  exact this
 have HF2:=Lib.hid hf2
 have HS1:=Lib.hid hs1
 have HWQ:=Lib.hid hwq
 clear hf2 hs1 hwq x0 x1 x2
 go_upto_region 2 with fail
 refine wp_region_quietU (by kernel_rfl) (by kernel_rfl) ?_
 repeat (go_big_quiet_step (with_reducible exact Calls.quietU (HF2.out _)))
 refine wpQuiet_nil ?_
 intro wr hw'
 obtain ⟨⟨wr',hwr⟩,hw''⟩:=hw'
 dsimp only at hw''
 subst hw''
 clear c0 y0
 have hs2:=HS1.out.upd0 hwr
 have c1:=hs2.cells.2.1
 have hc:=canonC fb _ (nSl E) (2*pa) (2*pb+1) wr hns (by omega) h2 hs2.frm
 have e1:((2*pa:Nat):Int)=2*(pa:Int):=by omega
 have e2:((2*pb+1:Nat):Int)=2*(pb:Int)+1:=by omega
 rw [e1,e2] at hc
 have pa0:(0:Int)≤(pa:Int):=Int.natCast_nonneg _
 have pb0:(0:Int)≤(pb:Int):=Int.natCast_nonneg _
 have pa1:(pa:Int)<1000000:=by omega
 have pb1:(pb:Int)<1000000:=by omega
 have HC:=Lib.hid hc
 have HWR:=Lib.hid ((HU0.out.trans HWQ.out).trans hwr)
 clear hc e1 e2 hs2 hwr
 go_wp2_with fail
 (with_reducible refine HC.out.mono ?_)
 rintro e w' ⟨k,A,C,rfl,g1,g2⟩
 have HG:=Lib.hid (And.intro g1 g2)
 clear g1 g2
 go_wp2_with fail
 go_ret
 have hz:=HWR.out.size
 exact ⟨A,C,rfl,own_base HG.out.1 hz,HWR.out.trans HG.out.2⟩
def PathPost (w:World) (L:List Nat) (t:Nat) (e:Ending) (w':World):Prop:=∃A C,e=.returned (.tuple #[.slice A L.length C,.int .i64 (t:Int)])∧KN.row w' w.heap.size (.slice A L.length C) L∧Upd [] w w'
theorem rowL_at {w:World} {base:Nat} {A:Option Addr} {n C:Nat} {E:List Int} (h:KL.row w base (.slice A n C) E) {k:Nat} {x:Int} (hx:E[k]? = some x):∃g,A=some ⟨g,0,none⟩∧w.cell? ⟨g,k,none⟩=some (.int .i64 x):=by
 obtain ⟨g,C',hg,ec,-⟩:=row_at h hx
 injection hg with hg _ _
 have:=ec 0 _ rfl
 exact ⟨g,hg,by simpa [KL] using this⟩
theorem segPathOut {w:World} {b fb:Nat} {ve vn va:Value} {vs:List Value} {E:List Int} {R:List (List Sp)} {c:Int} (h:SegAt w b fb ve vn va vs E R c) (x:Int) (hEl:E.length<100000)
 (hx:(∀a,E[0]? = some a→x<a)∨(∀z,E[E.length - 1]? = some z→z<x)) :
 Calls Tryz.prog 147 #[.pointer (some ⟨b,0,none⟩),.int .i64 x] w (PathPost w [] 0):=by
 obtain ⟨Ae,Ce,rfl⟩:=own_form h.ends
 have HN:=Lib.hid fun (z:QW w)=>segNone (h.upd0 z.up)
 have c0:∀z:QW w,z.w.cell? ⟨b,0,none⟩=some (.slice Ae E.length Ce):=fun z=>(h.upd0 z.up).cells.1
 rcases Nat.eq_zero_or_pos E.length with h0 | h0
 ·rw [h0] at c0
  clear h hx
  go_enter Tryz.func147,Tryz.ntmps147
  go_upto_region 1 with fail
  refine wp_region_quietU (by kernel_rfl) (by kernel_rfl) ?_
  repeat (go_big_quiet_step (with_reducible exact Calls.quietU ((HN.out _).mono fun _ _ hh=>⟨hh.1,hh.2 ▸ Upd.refl _ _⟩)))
  refine wpQuiet_nil ?_
  intro wq hw'
  obtain ⟨⟨wq',hwq⟩,hw''⟩:=hw'
  dsimp only at hw''
  subst hw''
  clear c0
  go_wp2_with fail
  go_ret2
  exact ⟨none,0,rfl,World.ownsRow_nil _ _ _ _,hwq⟩
 ·obtain ⟨m,hm⟩:∃m,E.length=m+1:=⟨E.length - 1,by omega⟩
  obtain ⟨a,ha⟩:∃a,E[0]? = some a:=⟨_,List.getElem?_eq_getElem h0⟩
  obtain ⟨z,hz⟩:∃z,E[m]? = some z:=⟨_,List.getElem?_eq_getElem (by omega)⟩
  have e0:∀q:QW w,q.w.cell? ⟨b,0,none⟩=some (.slice Ae (m+1) Ce):=fun q=>by rw [←hm];exact c0 q
  obtain ⟨g,rfl,-⟩:=rowL_at h.ends ha
  have ea:∀q:QW w,q.w.cell? ⟨g,0,none⟩=some (.int .i64 a):=fun q=>by
   obtain ⟨g',hg,hc⟩:=rowL_at (h.upd0 q.up).ends ha
   injection hg with hg;injection hg with hg;subst hg
   exact hc
  have ez:∀q:QW w,q.w.cell? ⟨g,m,none⟩=some (.int .i64 z):=fun q=>by
   obtain ⟨g',hg,hc⟩:=rowL_at (h.upd0 q.up).ends hz
   injection hg with hg;injection hg with hg;subst hg
   exact hc
  have m0:(0:Int)≤(m:Int):=Int.natCast_nonneg _
  have m1:(m:Int)<100000:=by omega
  have hmz:((m:Int)+1==0)=false:=by simp;omega
  have hx':x<a∨z<x:=by
   rcases hx with hx | hx
   ·exact .inl (hx a ha)
   ·exact .inr (hx z (by rw [hm];exact hz))
  clear h hx c0 ha hz hm h0 hEl
  by_cases d1:x<a
  ·have g1:decide (x<a)=true:=decide_eq_true d1
   clear hx'
   go_enter Tryz.func147,Tryz.ntmps147
   go_upto_region 1 with fail
   refine wp_region_quietU (by kernel_rfl) (by kernel_rfl) ?_
   repeat (go_big_quiet_step (with_reducible exact Calls.quietU ((HN.out _).mono fun _ _ hh=>⟨hh.1,hh.2 ▸ Upd.refl _ _⟩)))
   refine wpQuiet_nil ?_
   intro wq hw'
   obtain ⟨⟨wq',hwq⟩,hw''⟩:=hw'
   dsimp only at hw''
   subst hw''
   clear e0 ea ez
   go_wp2_with fail
   go_ret2
   exact ⟨none,0,rfl,World.ownsRow_nil _ _ _ _,hwq⟩
  ·have g1:decide (x<a)=false:=decide_eq_false d1
   have g2:decide (z<x)=true:=decide_eq_true (by omega)
   clear hx' d1
   go_enter Tryz.func147,Tryz.ntmps147
   go_upto_region 1 with fail
   refine wp_region_quietU (by kernel_rfl) (by kernel_rfl) ?_
   repeat (go_big_quiet_step (with_reducible exact Calls.quietU ((HN.out _).mono fun _ _ hh=>⟨hh.1,hh.2 ▸ Upd.refl _ _⟩)))
   refine wpQuiet_nil ?_
   intro wq hw'
   obtain ⟨⟨wq',hwq⟩,hw''⟩:=hw'
   dsimp only at hw''
   subst hw''
   clear e0 ea ez
   go_wp2_with fail
   go_ret2
   exact ⟨none,0,rfl,World.ownsRow_nil _ _ _ _,hwq⟩
def touchS (E:List Int) (x:Int):Nat:=lookN 0 E.length (below E x)+(pathS E x).length
theorem segPathIn {w:World} {b fb:Nat} {ve vn va:Value} {vs:List Value} {E:List Int} {R:List (List Sp)} {c:Int} (h:SegAt w b fb ve vn va vs E R c) (x:Int)
 (hE:E.Pairwise (· < ·)) (hEl:E.length<100000) {a z:Int} (ha:E[0]? = some a) (hz':E[E.length - 1]? = some z) (hx:a≤x∧x≤z) :
 Calls Tryz.prog 147 #[.pointer (some ⟨b,0,none⟩),.int .i64 x] w (PathPost w (pathS E x) (touchS E x)):=by
 have hslot:=(slot_facts hE ha hz' hx).1
 obtain ⟨Ae,Ce,rfl⟩:=own_form h.ends
 have hle:E.Pairwise (·≤·):=hE.imp (by intro a b hab;omega)
 have HN:=Lib.hid fun (z:QW w)=>segNone (h.upd0 z.up)
 have h0:0<E.length:=(List.getElem?_eq_some_iff.1 ha).1
 obtain ⟨m,hm⟩:∃m,E.length=m+1:=⟨E.length - 1,by omega⟩
 have hz:E[m]? = some z:=by rw [hm] at hz';exact hz'
 have e0:∀q:QW w,q.w.cell? ⟨b,0,none⟩=some (.slice Ae (m+1) Ce):=fun q=>by rw [←hm];exact (h.upd0 q.up).cells.1
 obtain ⟨g,rfl,-⟩:=rowL_at h.ends ha
 have ea:∀q:QW w,q.w.cell? ⟨g,0,none⟩=some (.int .i64 a):=fun q=>by
  obtain ⟨g',hg,hc⟩:=rowL_at (h.upd0 q.up).ends ha
  injection hg with hg;injection hg with hg;subst hg
  exact hc
 have ez:∀q:QW w,q.w.cell? ⟨g,m,none⟩=some (.int .i64 z):=fun q=>by
  obtain ⟨g',hg,hc⟩:=rowL_at (h.upd0 q.up).ends hz
  injection hg with hg;injection hg with hg;subst hg
  exact hc
 have m0:(0:Int)≤(m:Int):=Int.natCast_nonneg _
 have m1:(m:Int)<100000:=by omega
 have hmz:((m:Int)+1==0)=false:=by simp;omega
 have g1:decide (x<a)=false:=decide_eq_false (by omega)
 have g2:decide (z<x)=false:=decide_eq_false (by omega)
 obtain ⟨k,hk⟩:∃k,below E x=k:=⟨_,rfl⟩
 have hkm:k≤m:=by
  have:=below_at hle x m z hz
  omega
 obtain ⟨y,hy⟩:∃y,E[k]? = some y:=⟨_,List.getElem?_eq_getElem (by omega)⟩
 obtain ⟨lk,hlk⟩:∃l,lookN 0 E.length (below E x)=l:=⟨_,rfl⟩
 have hlb:lk<1000:=by
  have h1:=lookN_le E.length 0 E.length (below E x) (by omega)
  have h2:bitsN (E.length - 0)≤62:=bitsN_le _ 62 (by omega)
  omega
 have hkp:y≠x→0<k:=fun hne=>Nat.pos_of_ne_zero fun hc=>by
  rw [hc] at hy
  have e1:a=y:=by rw [ha] at hy;injection hy
  have:=below_at hle x 0 a ha
  omega
 have HKP:=Lib.hid hkp
 have H:=Lib.hid h
 have HM:=Lib.hid (And.intro hm (And.intro hk (And.intro hy (And.intro hlk hslot))))
 have lk0:(0:Int)≤(lk:Int):=Int.natCast_nonneg _
 have k0:(0:Int)≤(k:Int):=Int.natCast_nonneg _
 have k1:(k:Int)<((m:Int)+1):=by omega
 have k2:(k:Int)<100000:=by omega
 clear hkp h hx ha hz hz' hm hk hy hlk h0 hslot
 go_enter Tryz.func147,Tryz.ntmps147
 go_upto_region 1 with fail
 refine wp_region_quietU (by kernel_rfl) (by kernel_rfl) ?_
 repeat (go_big_quiet_step (with_reducible exact Calls.quietU ((HN.out _).mono fun _ _ hh=>⟨hh.1,hh.2 ▸ Upd.refl _ _⟩)))
 refine wpQuiet_nil ?_
 intro wq hw'
 obtain ⟨⟨wq',hwq⟩,hw''⟩:=hw'
 dsimp only at hw''
 subst hw''
 clear e0 ea ez
 have hs1:=H.out.upd0 hwq
 have c0:=hs1.cells.1
 have hf:=firstS _ E x wq hle (See.of_row hs1.ends) (by omega)
 rw [HM.out.2.2.2.1,HM.out.2.1] at hf
 rw [HM.out.1] at c0 hf
 have HF:=Lib.hid hf
 have HWQ:=Lib.hid hwq
 clear hf hs1 hwq
 go_wp2_with fail
 (with_reducible refine HF.out.mono ?_)
 rintro e w2 ⟨rfl,hu2⟩
 have hup:=HWQ.out.trans hu2
 have hs2:=H.out.upd0 hup
 have d0:=hs2.cells.1
 have d1:=hs2.cells.2.1
 obtain ⟨g',hg,dk⟩:=rowL_at hs2.ends HM.out.2.2.1
 injection hg with hg;injection hg with hg;subst hg
 rw [HM.out.1] at d0
 have HUP:=Lib.hid hup
 have HS2:=Lib.hid hs2
 clear hup hs2 hu2 c0
 have hns:nSl E<400000:=by unfold nSl;omega
 by_cases hyx:y=x
 ·subst hyx
  have hq:(y==y)=true:=by simp
  have hsl:slotX E y=2*k:=by
   unfold slotX
   rw [HM.out.2.1,if_pos (by rw [HM.out.2.2.1])]
  have hlt:2*k<nSl E:=by rw [←hsl];exact HM.out.2.2.2.2
  have hc:=pathC fb _ (nSl E) (2*k) w2 hns hlt HS2.out.frm
  have hP:pathL (2*k) 0 (nSl E) 0=pathS E y:=by unfold pathS;rw [hsl]
  rw [hP,show ((2*k:Nat):Int)=2*(k:Int) from by omega] at hc
  have hPl:=pathL_bound (nSl E) (2*k) 0 (nSl E) 0 (by omega) (by omega)
  rw [hP] at hPl
  have HC:=Lib.hid hc
  have HT:touchS E y=lk+(pathS E y).length:=by unfold touchS;rw [HM.out.2.2.2.1]
  obtain ⟨pl,hpl⟩:∃l,(pathS E y).length=l:=⟨_,rfl⟩
  rw [hpl] at HC HT hPl
  have HPL:=Lib.hid hpl
  have HTT:=Lib.hid HT
  have pl0:(0:Int)≤(pl:Int):=Int.natCast_nonneg _
  have pl1:(pl:Int)<1000000:=by omega
  clear hc hP hsl HT hpl hPl
  go_wp2_with fail
  (with_reducible refine HC.out.mono ?_)
  rintro e w3 ⟨A,C,rfl,r1,r2⟩
  have HR:=Lib.hid (And.intro r1 r2)
  clear r1 r2
  go_wp2_with fail
  go_ret2
  refine ⟨A,C,?_,?_,HUP.out.trans HR.out.2⟩
  ·rw [HPL.out,HTT.out,Int.natCast_add]
   rfl
  ·have:=own_base HR.out.1 HUP.out.size
   rw [←HPL.out] at this
   exact this
 ·have hq:(y != x)=true:=by simp [hyx]
  have hkp:0<k:=HKP.out hyx
  have hsl:slotX E x=2*k - 1:=by
   unfold slotX
   rw [HM.out.2.1,if_neg (by rw [HM.out.2.2.1];intro e;injection e with e;exact hyx e)]
  have hlt:2*k - 1<nSl E:=by rw [←hsl];exact HM.out.2.2.2.2
  have hc:=pathC fb _ (nSl E) (2*k - 1) w2 hns hlt HS2.out.frm
  have hP:pathL (2*k - 1) 0 (nSl E) 0=pathS E x:=by unfold pathS;rw [hsl]
  rw [hP,show ((2*k - 1:Nat):Int)=2*(k:Int) - 1 from by omega] at hc
  have hPl:=pathL_bound (nSl E) (2*k - 1) 0 (nSl E) 0 (by omega) (by omega)
  rw [hP] at hPl
  have HC:=Lib.hid hc
  have HT:touchS E x=lk+(pathS E x).length:=by unfold touchS;rw [HM.out.2.2.2.1]
  obtain ⟨pl,hpl⟩:∃l,(pathS E x).length=l:=⟨_,rfl⟩
  rw [hpl] at HC HT hPl
  have HPL:=Lib.hid hpl
  have HTT:=Lib.hid HT
  have pl0:(0:Int)≤(pl:Int):=Int.natCast_nonneg _
  have pl1:(pl:Int)<1000000:=by omega
  clear hc hP hsl HT hpl hPl hyx
  go_wp2_with fail
  (with_reducible refine HC.out.mono ?_)
  rintro e w3 ⟨A,C,rfl,r1,r2⟩
  have HR:=Lib.hid (And.intro r1 r2)
  clear r1 r2
  go_wp2_with fail
  go_ret2
  refine ⟨A,C,?_,?_,HUP.out.trans HR.out.2⟩
  ·rw [HPL.out,HTT.out,Int.natCast_add]
   rfl
  ·have:=own_base HR.out.1 HUP.out.size
   rw [←HPL.out] at this
   exact this
def betwS (E:List Int) (x:Int):Bool:=match E[0]?,E[E.length - 1]? with
 |some a,some z=>decide (a≤x)&&decide (x≤z)
 |_,_=>false
def pathV (E:List Int) (x:Int):List Nat:=if betwS E x=true then pathS E x else []
def touchV (E:List Int) (x:Int):Nat:=if betwS E x=true then touchS E x else 0
theorem betwS_true {E:List Int} {x:Int} (h:betwS E x=true):∃a z,E[0]? = some a∧E[E.length - 1]? = some z∧a≤x∧x≤z:=by
 unfold betwS at h
 cases ha:E[0]? with
 |none=>simp [ha] at h
 |some a=>
  cases hz:E[E.length - 1]? with
  |none=>simp [ha,hz] at h
  |some z=>rw [ha,hz] at h;simp at h;exact ⟨a,z,rfl,rfl,h⟩
theorem betwS_false {E:List Int} {x:Int} (h:¬betwS E x=true):(∀a,E[0]? = some a→x<a)∨(∀z,E[E.length - 1]? = some z→z<x):=by
 unfold betwS at h
 cases ha:E[0]? with
 |none=>exact .inl (by simp)
 |some a=>
  cases hz:E[E.length - 1]? with
  |none=>exact .inr (by simp)
  |some z=>
   rw [ha,hz] at h
   simp at h
   by_cases h1:a≤x
   ·exact .inr fun z' e=>by injection e with e;have:=h h1;omega
   ·exact .inl fun a' e=>by injection e with e;omega
theorem segPath {w:World} {b fb:Nat} {ve vn va:Value} {vs:List Value} {E:List Int} {R:List (List Sp)} {c:Int} (h:SegAt w b fb ve vn va vs E R c) (x:Int)
 (hE:E.Pairwise (· < ·)) (hEl:E.length<100000) :
 Calls Tryz.prog 147 #[.pointer (some ⟨b,0,none⟩),.int .i64 x] w (PathPost w (pathV E x) (touchV E x)):=by
 unfold pathV touchV
 by_cases hb:betwS E x=true
 ·rw [if_pos hb,if_pos hb]
  obtain ⟨a,z,h1,h2,h3⟩:=betwS_true hb
  exact segPathIn h x hE hEl h1 h2 h3
 ·rw [if_neg hb,if_neg hb]
  exact segPathOut h x hEl (betwS_false hb)
theorem pathV_lt {E:List Int} (hE:E.Pairwise (· < ·)) (x:Int):∀k∈pathV E x,k<2*nSl E - 1:=by
 intro k hk
 unfold pathV at hk
 by_cases hb:betwS E x=true
 ·rw [if_pos hb] at hk
  obtain ⟨a,z,h1,h2,h3⟩:=betwS_true hb
  have h4:=(slot_facts hE h1 h2 h3).1
  have:=pathL_range (nSl E) (slotX E x) 0 (nSl E) 0 (by omega) (by omega) k hk
  omega
 ·rw [if_neg hb] at hk;simp at hk
def cntS (R:List (List Sp)) (L:List Nat):Nat:=(L.map fun k=>(R[k]?.getD []).length).sum
theorem cntS_app (R:List (List Sp)) (A B:List Nat):cntS R (A++B)=cntS R A+cntS R B:=by simp [cntS]
theorem cntS_le {R:List (List Sp)} {M:Nat} (h:∀l∈R,l.length≤M):∀L:List Nat,cntS R L≤L.length*M
 | []=>by simp [cntS]
 |k::L=>by
  have h1:=cntS_le h L
  have h2:(R[k]?.getD []).length≤M:=by
   cases e:R[k]? with
   |none=>simp
   |some l=>exact h l (List.mem_of_getElem? e)
  have e:cntS R (k::L)=(R[k]?.getD []).length+cntS R L:=by simp [cntS]
  rw [e,List.length_cons,Nat.succ_mul]
  omega
theorem rowN_at {w:World} {base:Nat} {A:Option Addr} {n C:Nat} {L:List Nat} (h:KN.row w base (.slice A n C) L) {k:Nat} {x:Nat} (hx:L[k]? = some x):∃g,A=some ⟨g,0,none⟩∧w.cell? ⟨g,k,none⟩=some (.int .i64 (x:Int)):=by
 obtain ⟨g,C',hg,ec,-⟩:=row_at h hx
 injection hg with hg _ _
 have:=ec 0 _ rfl
 exact ⟨g,hg,by simpa [KN] using this⟩
attribute [local go_sem ↓] Go.wp_at_zero Go.wp_at_succ
def idsS (R:List (List Sp)) (L:List Nat):List Nat:=L.flatMap fun k=>(R[k]?.getD []).map Sp.id
theorem idsS_len (R:List (List Sp)):∀L:List Nat,(idsS R L).length=cntS R L
 | []=>rfl
 |k::L=>by
  have e:idsS R (k::L)=(R[k]?.getD []).map Sp.id++idsS R L:=by simp [idsS]
  have e2:cntS R (k::L)=(R[k]?.getD []).length+cntS R L:=by simp [cntS]
  rw [e,e2,List.length_append,List.length_map,idsS_len R L]
theorem segRight (v:Value) (l:List Sp) (w:World) (h:See KSp w v l) (hid:∀s∈l,s.id<4294967296) (hl:l.length<1000000) :
 Calls Tryz.prog 205 #[v] w fun e w'=>e=.returned (.bool (rightS l))∧Upd [] w w':=by
 obtain ⟨A,C,rfl⟩:=h.form
 obtain ⟨N,hN⟩:∃N,l.length=N:=⟨_,rfl⟩
 have hm0:=MapU.made MKI w
 have hu0:Upd [] w (w.alloc (.map #[] 0)):=(Upd.refl _ _).alloc _
 have hsz:w.heap.size<(w.alloc (.map #[] 0)).heap.size:=by simp
 have H:=Lib.hid h
 have HN:=Lib.hid hN
 have HI:=Lib.hid hid
 have HM0:=Lib.hid hm0
 have HU0:=Lib.hid hu0
 rw [hN] at hl ⊢
 clear h hN hid hm0 hu0
 have hmm:=@run_makeMap Tryz.prog
 go_enter Tryz.func205,Tryz.ntmps205
 go_upto_region 2 with fail
 clear hmm
 generalize w.alloc (.map #[] 0)=W0 at HM0 HU0 hsz ⊢
 go_wp2_with fail
 go_loopg [9] N (fun m s9 wr=>∃(k n:Nat) (f:Nat→Option Nat),m+k=N∧s9=.int .i64 (k:Int)∧MapU MKI wr w.heap.size f n∧CntR l k f n∧(∀s∈l.take k,s.lo≤s.hi)∧Upd [w.heap.size] W0 wr)
 case atStart=>exact ⟨0,0,_,rfl,rfl,HM0.out,CntR.start l,by simp,Upd.refl _ _⟩
 case round=>
  obtain ⟨k,n,f,hk,rfl,hm,hc,hri,hup⟩:=hrel
  have k0:(0:Int)≤(k:Int):=Int.natCast_nonneg _
  have hkN:k≤N:=by omega
  have HK:=Lib.hid hk
  have HM:=Lib.hid hm
  have HC:=Lib.hid hc
  have HR:=Lib.hid hri
  have HU:=Lib.hid hup
  clear hk hm hc hri hup
  by_cases hlt:k<N
  ·obtain ⟨s,hs⟩:∃s,l[k]? = some s:=⟨_,List.getElem?_eq_getElem (by rw [HN.out];exact hlt)⟩
   have hw1:Upd [] w wr:=HU0.out.trans' HU.out (fun x hx=>.inr (by simp at hx;omega))
   have hse:See KSp wr (.slice A l.length C) l:=H.out.upd0 hw1
   have hidb:=HI.out s (List.mem_of_getElem? hs)
   have hcs:=HC.out.step hs k
   obtain ⟨lo,hi,id⟩:=s
   obtain ⟨g,o,rfl,-,-,ey⟩:=hse.at hs
   have y0:wr.cell? ⟨g,o+k*3,none⟩=some (.int .i64 lo):=ey 0 _ rfl
   have y1:wr.cell? ⟨g,o+k*3+1,none⟩=some (.int .i64 hi):=ey 1 _ rfl
   have y2:wr.cell? ⟨g,o+k*3+2,none⟩=some (.int .u32 (id:Int)):=ey 2 _ rfl
   have b1:(k:Int)<(N:Int):=by omega
   have hnb:n≤k:=HC.out.le
   have hwz:=HU.out.size
   have HS:=Lib.hid (And.intro hs (And.intro hcs hw1))
   clear hs hcs hw1 hse ey
   dsimp only at hidb
   obtain ⟨wl,hwl⟩:∃wl:World,wl=wr:=⟨_,rfl⟩
   subst hwl
   go_upto_region 5 with fail
   have hu2:Upd [] wl (wl.alloc (.cells #[.int .i64 lo,.int .i64 hi,.int .u32 (id:Int)] 62)):=(Upd.refl _ _).alloc _
   have hz2:wl.heap.size<(wl.alloc (.cells #[.int .i64 lo,.int .i64 hi,.int .u32 (id:Int)] 62)).heap.size:=by simp
   have d0:(wl.alloc (.cells #[.int .i64 lo,.int .i64 hi,.int .u32 (id:Int)] 62)).cell? ⟨wl.heap.size,0,none⟩=some (.int .i64 lo):=by rw [World.cell?_alloc_at _ _ _ _ rfl];rfl
   have d1:(wl.alloc (.cells #[.int .i64 lo,.int .i64 hi,.int .u32 (id:Int)] 62)).cell? ⟨wl.heap.size,1,none⟩=some (.int .i64 hi):=by rw [World.cell?_alloc_at _ _ _ _ rfl];rfl
   have d2:(wl.alloc (.cells #[.int .i64 lo,.int .i64 hi,.int .u32 (id:Int)] 62)).cell? ⟨wl.heap.size,2,none⟩=some (.int .u32 (id:Int)):=by rw [World.cell?_alloc_at _ _ _ _ rfl];rfl
   have hm2:=HM.out.upd hu2 (by simp)
   generalize (wl.alloc (.cells #[.int .i64 lo,.int .i64 hi,.int .u32 (id:Int)] 62))=W2 at hu2 hz2 d0 d1 d2 hm2 ⊢
   obtain ⟨w5,hput,hm5,hu5,hz5⟩:=hm2.put hidb k (by unfold maxLen;omega)
   have hne:(wl.heap.size:Nat)∉[w.heap.size]:=by simp;omega
   have e0:=(hu5.cell (p:=⟨wl.heap.size,0,none⟩) hz2 hne).trans d0
   have e1:=(hu5.cell (p:=⟨wl.heap.size,1,none⟩) hz2 hne).trans d1
   have e2:=(hu5.cell (p:=⟨wl.heap.size,2,none⟩) hz2 hne).trans d2
   have hput2:(Instr.mapUpdate 60 (.map (some w.heap.size)) (.int .u32 (id:Int)) (.int .i64 (k:Int))).run Tryz.prog W2=.ok () w5:=hput
   have HRS:=Lib.hid (rightSpanC ⟨lo,hi,id⟩ w5)
   unfold spV at HRS
   dsimp only at HRS
   have H5:=Lib.hid (And.intro hm5 ((HU.out.trans (hu2.mono (G:=[w.heap.size]) (by simp))).trans hu5))
   clear hput hm5 hu5 hu2 hm2 y0 y1 y2 d0 d1
   have hwz5:W0.heap.size≤w5.heap.size:=H5.out.2.size
   by_cases hb:lo≤hi
   ·have hbd:decide (lo≤hi)=true:=decide_eq_true hb
    rw [hbd] at HRS
    go_wp2_with fail
    (with_reducible refine HRS.out.mono ?_)
    rintro e w6 ⟨rfl,u6⟩
    have HU6:=Lib.hid u6
    clear u6
    go_wp2_with fail
    go_roundg (N - (k+1))
    case measure=>have:=HK.out;omega
    case rel=>
     refine ⟨k+1,_,_,by have:=HK.out;omega,by go_num,H5.out.1.upd HU6.out (by simp),HS.out.2.1,fun s hs=>?_,H5.out.2.trans (HU6.out.mono (by simp))⟩
     obtain ⟨g1,g2⟩:=List.getElem?_eq_some_iff.1 HS.out.1
     rw [List.take_succ_eq_append_getElem g1,g2,List.mem_append] at hs
     rcases hs with hs | hs
     ·exact HR.out s hs
     ·simp at hs;subst hs;exact hb
   ·have hbd:decide (lo≤hi)=false:=decide_eq_false hb
    rw [hbd] at HRS
    go_wp2_with fail
    (with_reducible refine HRS.out.mono ?_)
    rintro e w6 ⟨rfl,u6⟩
    have HU6:=Lib.hid u6
    clear u6
    go_wp2_with fail
    go_ret
    refine ⟨?_,(HU0.out.trans' H5.out.2 (fun x hx=>.inr (by simp at hx;omega))).trans HU6.out⟩
    have:rightS l=false:=by
     rw [Bool.eq_false_iff]
     intro hc
     have h7:lo≤hi:=(rightS_iff.1 hc).1 _ (List.mem_of_getElem? HS.out.1)
     exact absurd h7 (by omega)
    rw [this]
    rfl
  ·have hkN':k=N:=by omega
   have hL':l.take k=l:=by rw [hkN',←HN.out];exact List.take_length
   have hri:=HR.out
   have hcn:=HC.out.eq
   rw [hL'] at hri hcn
   have hfin:((n:Int)==(N:Int))=rightS l:=by
    rw [Bool.eq_iff_iff,rightS_iff]
    simp
    constructor
    ·intro hc;exact ⟨hri,hcn.1 (by omega)⟩
    ·rintro ⟨-,hc⟩;have:=hcn.2 hc;omega
   have hlen:=HM.out.len 3
   have hlen2:(Builtin.len_ #[60] 3 #[.map (some w.heap.size)]).run Tryz.prog wr=.ok (.int .i64 (n:Int)) wr:=hlen
   have HF:=Lib.hid hfin
   clear hL' hri hcn hfin hlen
   go_wp2_with fail
   go_ret
   exact ⟨by rw [←HF.out];rfl,HU0.out.trans' HU.out (fun x hx=>.inr (by simp at hx;omega))⟩
theorem endsS_ok {l:List Sp} (hr:∀s∈l,s.lo≤s.hi):∀s∈l,SpOk (endsS l) s:=fun s hs=>
 ⟨mem_sqz (List.mem_flatMap.2 ⟨s,hs,by simp⟩),mem_sqz (List.mem_flatMap.2 ⟨s,hs,by simp⟩),hr s hs⟩
theorem below_ok {E:List Int} (h:E.Pairwise (· < ·)) {s:Sp} (hs:SpOk E s):below E s.lo≤below E s.hi∧2*below E s.hi+1≤nSl E:=by
 have hle:E.Pairwise (·≤·):=h.imp (by intro a b hab;omega)
 have e1:=below_here h hs.1
 have e2:=below_here h hs.2.1
 have h1:=(List.getElem?_eq_some_iff.1 e2).1
 refine ⟨?_,by unfold nSl;omega⟩
 rcases Nat.lt_or_ge (below E s.hi) (below E s.lo) with hc | hc
 ·have:=(below_at hle s.lo _ _ e2).2 hc
  have:=hs.2.2
  omega
 ·exact hc
theorem nodesS_lt {E:List Int} (h:E.Pairwise (· < ·)) {s:Sp} (hs:SpOk E s):(nodesS E s).Nodup∧∀k∈nodesS E s,k<2*nSl E - 1:=by
 have:=below_ok h hs
 refine ⟨canonL_nodup (nSl E) _ _ 0 (nSl E) 0 (by omega) (by omega),fun k hk=>?_⟩
 have:=canonL_range (nSl E) _ _ 0 (nSl E) 0 (by omega) (by omega) k hk
 omega
def putS (x:Sp) (R:List (List Sp)) (k:Nat):List (List Sp):=R.set k ((R[k]?.getD [])++[x])
def putsS (x:Sp) (R:List (List Sp)) (L:List Nat):List (List Sp):=L.foldl (putS x) R
theorem putsS_len (x:Sp):∀(L:List Nat) (R:List (List Sp)),(putsS x R L).length=R.length
 | [],_=>rfl
 |k::L,R=>by
  show (putsS x (putS x R k) L).length=_
  rw [putsS_len x L]
  simp [putS]
theorem putsS_app (x:Sp) (R:List (List Sp)) (A B:List Nat):putsS x R (A++B)=putsS x (putsS x R A) B:=by simp [putsS]
theorem putsS_at (x:Sp):∀(L:List Nat) (R:List (List Sp)) (k:Nat),L.Nodup→(putsS x R L)[k]? = R[k]?.map fun l=>if k∈L then l++[x] else l
 | [],R,k,_=>by simp [putsS]
 |j::L,R,k,hn=>by
  rw [List.nodup_cons] at hn
  show (putsS x (putS x R j) L)[k]? = _
  rw [putsS_at x L _ k hn.2]
  unfold putS
  rw [List.getElem?_set]
  by_cases hjk:j=k
  ·subst hjk
   rw [if_pos rfl]
   cases hR:R[j]? with
   |none=>
    have:R.length≤j:=by
     rcases Nat.lt_or_ge j R.length with h | h
     ·rw [List.getElem?_eq_getElem h] at hR;cases hR
     ·exact h
    rw [if_neg (by omega)]
    rfl
   |some l=>
    have:=(List.getElem?_eq_some_iff.1 hR).1
    rw [if_pos this]
    simp [hn.1]
  ·rw [if_neg hjk]
   have:(k∈j::L)↔k∈L:=by simp [Ne.symm hjk]
   simp only [this]
theorem putsS_all {E:List Int} (h:E.Pairwise (· < ·)) {x:Sp} (hx:SpOk E x) (S:List Sp):putsS x (atS E S) (nodesS E x)=atS E (S++[x]):=by
 obtain ⟨hn,-⟩:=nodesS_lt h hx
 refine List.ext_getElem? fun k=>?_
 rw [putsS_at x _ _ k hn]
 rcases Nat.lt_or_ge k (2*nSl E - 1) with hk | hk
 ·rw [atS_at hk,atS_at hk,Option.map_some,List.filter_append]
  by_cases hm:k∈nodesS E x
  ·rw [if_pos hm];simp [hm]
  ·rw [if_neg hm];simp [hm]
 ·rw [List.getElem?_eq_none (by rw [atS_len];exact hk),List.getElem?_eq_none (by rw [atS_len];exact hk)]
  rfl
theorem atS_nil (E:List Int):atS E []=List.replicate (2*nSl E - 1) []:=by
 refine List.ext_getElem? fun k=>?_
 rw [List.getElem?_replicate]
 by_cases hk:k<2*nSl E - 1
 ·rw [atS_at hk,if_pos hk];rfl
 ·rw [List.getElem?_eq_none (by rw [atS_len];omega),if_neg hk]
theorem infoSpanS:(Tryz.prog.info? 62).map (fun i=>(i.zero,i.size,i.bytes))=some (some (.agg #[.int .i64 0,.int .i64 0,.int .u32 0]),3,24):=by kernel_rfl
theorem infoRowS:(Tryz.prog.info? 56).map (fun i=>(i.zero,i.size,i.bytes))=some (some (.slice none 0 0),1,24):=by kernel_rfl
theorem infoLongS:(Tryz.prog.info? 2).map (fun i=>(i.zero,i.size,i.bytes))=some (some (.int .i64 0),1,8):=by kernel_rfl
theorem make_rows (W:World) (N:Nat) (hN:N<1000000):(Instr.makeSlice 213 (.int .i64 (N:Int)) (.int .i64 (N:Int))).run Tryz.prog W=.ok (.slice (some ⟨W.heap.size,0,none⟩) N N) (W.alloc (.cells (madeCells #[.slice none 0 0] (N*1)) 56)):=by
 obtain ⟨i0,hi,hy0,hy1,hy2⟩:=info_parts infoRowS
 have:=run_make (P:=Tryz.prog) W 213 56 i0 (.slice none 0 0) Tryz.underlying213 hi hy0 .i64 .i64 N N (by omega) (by omega) (by rw [hy2];omega) (by omega)
 rw [hy1] at this
 exact this
theorem rows_made (W:World) (N:Nat) (hN:N<1000000):RowsAt KSp (W.alloc (.cells (madeCells #[.slice none 0 0] (N*1)) 56)) (.slice (some ⟨W.heap.size,0,none⟩) N N) (List.replicate N (.slice none 0 0)) (List.replicate N []):=by
 have h:=World.ownsRow_lit (e:=56) (size:=1) (base:=0) W (madeCells #[.slice none 0 0] (N*1)) N (Nat.zero_le _) (by unfold maxLen;omega) (size_madeCells _ _)
 rw [Nat.mul_one,toList_madeCells_one] at h
 have hrep:∀(i:Nat) (u:Value),(List.replicate N (Value.slice none 0 0))[i]? = some u→u=.slice none 0 0:=fun i u hu=>by
  rw [List.getElem?_replicate] at hu
  split at hu
  ·simpa using hu.symm
  ·cases hu
 refine ⟨?_,by simp,?_,?_,?_⟩
 ·rw [List.length_replicate,Nat.mul_one];exact h
 ·intro i u l hu hl
  rw [hrep i u hu]
  rw [List.getElem?_replicate] at hl
  split at hl
  ·simp at hl;subst hl;exact World.ownsRow_nil _ _ _ _
  ·cases hl
 ·intro i u k hu hk
  rw [hrep i u hu] at hk;simp [blk] at hk
 ·intro i j u t k hu ht hk _
  rw [hrep i u hu] at hk;simp [blk] at hk
theorem segCount {w:World} {b fb:Nat} {ve vn va:Value} {vs:List Value} {E:List Int} {R:List (List Sp)} {c:Int} (h:SegAt w b fb ve vn va vs E R c) (x:Int)
 (hE:E.Pairwise (· < ·)) (hEl:E.length<100000) (hR:R.length=2*nSl E - 1) (hM:∀l∈R,l.length≤1000) :
 Calls Tryz.prog 87 #[.pointer (some ⟨b,0,none⟩),.int .i64 x] w fun e w'=>e=.returned (.tuple #[.int .i64 (cntS R (pathV E x):Nat),.int .i64 (touchV E x:Nat)])∧Upd [] w w':=by
 have hp:=segPath h x hE hEl
 have hlt:=pathV_lt hE x
 have hLl:(pathV E x).length≤400000:=by
  unfold pathV
  split
  ·have:=pathL_bound (nSl E) (slotX E x) 0 (nSl E) 0 (by omega) (by
    rename_i hb
    obtain ⟨a,z,h1,h2,h3⟩:=betwS_true hb
    have:=(slot_facts hE h1 h2 h3).1
    omega)
   unfold pathS
   unfold nSl at *
   omega
  ·simp
 obtain ⟨L,hL⟩:∃L,pathV E x=L:=⟨_,rfl⟩
 obtain ⟨T,hTT⟩:∃T,touchV E x=T:=⟨_,rfl⟩
 rw [hL] at hp hlt hLl ⊢
 rw [hTT] at hp ⊢
 have hcl:=cntS_le hM
 obtain ⟨N,hN⟩:∃N,L.length=N:=⟨_,rfl⟩
 have HP:=Lib.hid hp
 have H:=Lib.hid h
 have HL:=Lib.hid (And.intro hlt (And.intro hcl (And.intro hR hN)))
 have T0:(0:Int)≤(T:Int):=Int.natCast_nonneg _
 rw [hN] at hLl
 clear hp h hlt hcl hL hTT hM hR hN
 go_enter Tryz.func87,Tryz.ntmps87
 go_wp2_with fail
 (with_reducible refine HP.out.mono ?_)
 rintro e w1 ⟨A,C,rfl,r1,r2⟩
 rw [HL.out.2.2.2]
 rw [HL.out.2.2.2] at r1
 have HR:=Lib.hid (And.intro r1 r2)
 clear r1 r2
 go_wp2_with fail
 go_loopg [8,19] N (fun m s8 s19 wr=>∃k n:Nat,m+k=N∧n=cntS R (L.take k)∧s8=.int .i64 (n:Int)∧s19=.int .i64 (k:Int)∧wr=w1)
 case atStart=>exact ⟨0,0,rfl,rfl,rfl,rfl,rfl⟩
 case round=>
  obtain ⟨k,n,hk,hn,rfl,rfl,rfl⟩:=hrel
  have k0:(0:Int)≤(k:Int):=Int.natCast_nonneg _
  have n0:(0:Int)≤(n:Int):=Int.natCast_nonneg _
  have hnb:n≤400000000:=by
   have:=HL.out.2.1 (L.take k)
   rw [←hn,List.length_take,HL.out.2.2.2] at this
   have h2:min k N*1000≤400000*1000:=Nat.mul_le_mul_right _ (by omega)
   omega
  have HK:=Lib.hid (And.intro hk hn)
  clear hk hn
  by_cases hlt:k<N
  ·obtain ⟨p,hp⟩:∃p,L[k]? = some p:=⟨_,List.getElem?_eq_getElem (by rw [HL.out.2.2.2];exact hlt)⟩
   have hpl:p<R.length:=by rw [HL.out.2.2.1];exact HL.out.1 p (List.mem_of_getElem? hp)
   obtain ⟨gl,rfl,lc⟩:=rowN_at HR.out.1 hp
   have hs1:=H.out.upd0 HR.out.2
   obtain ⟨Aa,Ca,rfl⟩:=own_form hs1.rows.list
   have c2:=hs1.cells.2.2.1
   obtain ⟨ga,Ak,Ck,rfl,-,rc,-,rr⟩:=hs1.rows.at hpl
   have hRb:(R[p]).length≤1000:=by
    have:=HL.out.2.1 [p]
    simp [cntS,hpl] at this
    omega
   have hlen:vs.length=R.length:=hs1.rows.len
   have b1:(k:Int)<(N:Int):=by omega
   have p0:(0:Int)≤(p:Int):=Int.natCast_nonneg _
   have p1:(p:Int)<(vs.length:Int):=by omega
   obtain ⟨rl,hrl⟩:∃l,(R[p]).length=l:=⟨_,rfl⟩
   rw [hrl] at rc hRb
   have rl0:(0:Int)≤(rl:Int):=Int.natCast_nonneg _
   have HX:=Lib.hid (And.intro hp (And.intro hrl hpl))
   clear hp hrl rr hs1 hlen
   go_wp2_with fail
   go_roundg (N - (k+1))
   case measure=>have:=HK.out.1;omega
   case rel=>
    refine ⟨k+1,n+rl,by have:=HK.out.1;omega,?_,by go_num,by go_num,rfl⟩
    have hkl:=(List.getElem?_eq_some_iff.1 HX.out.1)
    obtain ⟨h1,h2⟩:=hkl
    rw [List.take_succ_eq_append_getElem h1,cntS_app,←HK.out.2,h2]
    have hpl:=HX.out.2.2
    have:=HX.out.2.1
    simp [cntS,hpl]
    exact this.symm
  ·have hkN:k=N:=by have:=HK.out.1;omega
   have hfin:n=cntS R L:=by
    rw [HK.out.2,hkN,List.take_of_length_le (by rw [HL.out.2.2.2];exact Nat.le_refl _)]
   have HF:=Lib.hid hfin
   clear hkN hfin
   go_wp2_with fail
   go_ret2
   exact ⟨by rw [←HF.out];rfl,HR.out.2⟩
end Go.Proofs.YtkbaaonchdeneaaGreat
