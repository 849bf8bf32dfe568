/- A cover in memory. cover: what is known of two parts; what is known of a node. -/
import Derived.Test.YtkbaaonchdeneaaGreatPbBoxesCoverP3
import Derived.Test.YtkbaaonchdeneaaGreatPb28
set_option maxHeartbeats 2000000
set_option maxRecDepth 100000
namespace Go.Proofs.YtkbaaonchdeneaaGreat
open Go.RowKit
def KC:Kind Int:={ T:=0,sT:=163,eT:=3,sz:=1,enc:=fun x=>[.int .i64 x],len:=fun _=>rfl,one:=fun x u hu=>by simp at hu;subst hu;rfl }
def KP:Kind Part:={ T:=0,sT:=227,eT:=236,sz:=4,enc:=fun x=>[.int .u64 x.long,.int .i64 x.runs,.bool x.first,.bool x.last],len:=fun _=>rfl,one:=fun x u hu=>by simp at hu;rcases hu with rfl | rfl | rfl | rfl<;>rfl }
def D6 (p:Part):Value:=.agg #[.int .u64 p.long,.int .i64 p.runs,.bool p.first,.bool p.last]
theorem EP {α:Type} {K:Kind α} {w:World} {base:Nat} {v:Value} {l:List α} (h:K.row w base v l) {k:Nat} {x:α} (hx:l[k]? = some x) :
 ∃g C,v=.slice (some ⟨g,0,none⟩) l.length C∧(∀j u,(K.enc x)[j]? = some u→w.cell? ⟨g,k*K.sz+j,none⟩=some u)∧(∀j,w.frozen? ⟨g,j,none⟩=false):=by
 have hk:=(AV hx).1;obtain ⟨g,C,rfl,_,_⟩:=World.ownsRow.form h (by omega);obtain ⟨b,o,h1,h2,h3,h4⟩:=(See.BX h).at hx
 cases h1
 refine ⟨g,C,rfl,fun j u hu=>?_,fun j=>World.ownsRow.frozenAt h j⟩
 have:=h4 j u hu;rwa [Nat.zero_add] at this
structure Gm (w:World) (b:Nat) (mv nv ov pv:Value) (hb:Nat) (M:List Int) (L:List Nd) (O:List Int) (P:List Part) (root en:Int):Prop where
 head:w.heap[b]? = some (.cells #[mv,.int .i64 root,nv,ov,pv,.map (some hb),.int .i64 en] 229 (0,0))
 marks:KL.row w 0 mv M
 nodes:KD.row w 0 nv L
 often:KC.row w 0 ov O
 parts:KP.row w 0 pv P
 bm:b∉blk mv
 bn:b∉blk nv
 bo:b∉blk ov
 bp:b∉blk pv
 bh:b≠hb
 om:∀y∈blk ov,y∉blk mv
 on:∀y∈blk ov,y∉blk nv
 op:∀y∈blk ov,y∉blk pv
 pm:∀y∈blk pv,y∉blk mv
 pn:∀y∈blk pv,y∉blk nv
 hm:hb∉blk mv
 hn:hb∉blk nv
 ho:hb∉blk ov
 hp:hb∉blk pv
def IC (b:Nat) (ov pv:Value):List Nat:=b::(blk ov++blk pv)
section
variable {w w':World} {b:Nat} {mv nv ov pv:Value} {hb:Nat} {M:List Int} {L:List Nd} {O O':List Int} {P P':List Part} {root en:Int}
theorem Gm.lt (h:Gm w b mv nv ov pv hb M L O P root en):∀y∈IC b ov pv,y<w.heap.size:=by
 intro y hy;unfold IC at hy;rcases List.mem_cons.1 hy with rfl | hy
 ·exact lt_of_block h.head
 ·rcases List.mem_append.1 hy with hy | hy
  ·exact BK h.often y hy
  ·exact BK h.parts y hy
theorem Gm.upd (h:Gm w b mv nv ov pv hb M L O P root en) {F:List Nat} (hu:Bf F w w') (h1:b∉F) (h2:∀y∈blk mv,y∉F) (h3:∀y∈blk nv,y∉F) (h4:∀y∈blk ov,y∉F) (h5:∀y∈blk pv,y∉F):Gm w' b mv nv ov pv hb M L O P root en:=
 { h with head:=(hu.block b (lt_of_block h.head) h1).trans h.head,marks:=Bg h.marks hu h2,nodes:=Bg h.nodes hu h3,often:=Bg h.often hu h4,parts:=Bg h.parts hu h5 }
theorem Gm.Bh (h:Gm w b mv nv ov pv hb M L O P root en) (hu:Bf [] w w'):Gm w' b mv nv ov pv hb M L O P root en:=
 h.upd hu (by simp) (by simp) (by simp) (by simp) (by simp)
theorem Gm.cells (h:Gm w b mv nv ov pv hb M L O P root en):w.cell? ⟨b,0,none⟩=some mv∧w.cell? ⟨b,1,none⟩=some (.int .i64 root)∧w.cell? ⟨b,2,none⟩=some nv∧w.cell? ⟨b,3,none⟩=some ov∧w.cell? ⟨b,4,none⟩=some pv∧w.cell? ⟨b,5,none⟩=some (.map (some hb))∧w.cell? ⟨b,6,none⟩=some (.int .i64 en)∧∀j,w.frozen? ⟨b,j,none⟩=false:=by
 refine ⟨?_,?_,?_,?_,?_,?_,?_,?_⟩<;>simp [World.cell?,World.frozen?,h.head]
theorem Gm.enter (h:Gm w b mv nv ov pv hb M L O P root en) (e':Int):Gm (w.setCell ⟨b,6,none⟩ (.int .i64 e')) b mv nv ov pv hb M L O P root e':=
 { h with head:=heap_set h.head 6 _,marks:=Bz h.marks h.bm _,nodes:=Bz h.nodes h.bn _,often:=Bz h.often h.bo _,parts:=Bz h.parts h.bp _ }
theorem KC.all_eq (l:List Int):KC.all l=l.map (Value.int .i64):=by
 induction l with
 |nil=>rfl
 |cons a l ih=>simp only [Kind.all,List.flatMap_cons,List.map_cons] at *;rw [ih];rfl
theorem Gm.oft {g C N:Nat} (h:Gm w b mv nv (.slice (some ⟨g,0,none⟩) N C) pv hb M L O P root en) (hN:O.length=N) (k:Nat) (x:Int) :
 Gm (w.setCell ⟨g,k,none⟩ (.int .i64 x)) b mv nv (.slice (some ⟨g,0,none⟩) N C) pv hb M L (O.set k x) P root en:=by
 subst hN;have hg:g∈blk (.slice (some ⟨g,0,none⟩) O.length C):=by simp [blk]
 have hgb:g≠b:=fun e=>h.bo (by rw [←e];exact hg)
 refine { h with head:=?_,marks:=Bz h.marks (h.om g hg) _,nodes:=Bz h.nodes (h.on g hg) _,often:=?_,parts:=Bz h.parts (h.op g hg) _ }
 ·rw [Below.heap_setCell _ _ _ _ (by simpa using Ne.symm hgb)];exact h.head
 ·have h':w.ownsRow 0 3 1 (.slice (some ⟨g,0,none⟩) O.length C) O.length (KC.all O):=h.often;have:=(World.ownsRow.stored h' k (.int .i64 x)).1;unfold Kind.row;rw [KC.all_eq,List.length_set,List.map_set,←KC.all_eq];exact this
end
attribute [local go_sem ↓] Go.wp_at_zero Go.wp_at_succ
theorem u64_in (x:Int) (h:0≤x) (h2:x<18446744073709551616):IntKind.u64.wrap x=x:=by
 rw [JM];omega
theorem a7Z (p q:Part) (w:World) (h1:0≤p.long+q.long) (h2:p.long+q.long<18446744073709551616) (h3:0≤p.runs) (h4:p.runs≤1000000) (h5:0≤q.runs) (h6:q.runs≤1000000) :
 Calls Tryz.prog 306 #[D6 p,D6 q] w fun e w'=>e=.returned (D6 (Vm p q))∧Bf [] w w':=by
 obtain ⟨pl,pr,pf,pa⟩:=p;obtain ⟨ql,qr,qf,qa⟩:=q;dsimp only at h1 h2 h3 h4 h5 h6;have hw:=u64_in _ h1 h2;unfold D6 Vm;dsimp only;by_cases hc:(pa&&qf)=true
 ·rw [if_pos hc];obtain ⟨rfl,rfl⟩:=Bool.and_eq_true_iff.1 hc;clear h1 h2 hc;go_enter Tryz.func306,Tryz.ntmps306
  go_wp2_with fail
  refine bodyPost_ret (v:=.agg #[.int .u64 (pl+ql),.int .i64 (pr+qr - 1),.bool pf,.bool qa]) (by simp [results,Tryz.results306,go_sem]) rfl ⟨rfl,(((Bf.refl _ _).alloc _).alloc _).alloc _⟩
 ·rw [if_neg hc];clear h1 h2;have hc':(pa&&qf)=false:=by simpa using hc
  clear hc
  cases pa
  ·go_enter Tryz.func306,Tryz.ntmps306
   go_wp2_with fail
   refine bodyPost_ret (v:=.agg #[.int .u64 (pl+ql),.int .i64 (pr+qr),.bool pf,.bool qa]) (by simp [results,Tryz.results306,go_sem]) rfl ⟨by simp,(((Bf.refl _ _).alloc _).alloc _).alloc _⟩
  ·obtain rfl:qf=false:=by simpa using hc'
   go_enter Tryz.func306,Tryz.ntmps306
   go_wp2_with fail
   refine bodyPost_ret (v:=.agg #[.int .u64 (pl+ql),.int .i64 (pr+qr),.bool pf,.bool qa]) (by simp [results,Tryz.results306,go_sem]) rfl ⟨by simp,(((Bf.refl _ _).alloc _).alloc _).alloc _⟩
theorem kC {w:World} {n:Nat} {x0 x1 x2 x3:Value} {T:TypeId} (h:w.heap[n]? = some (.cells #[x0,x1,x2,x3] T (0,0))) :
 (w.cell? ⟨n,0,none⟩=some x0∧w.cell? ⟨n,1,none⟩=some x1∧w.cell? ⟨n,2,none⟩=some x2∧w.cell? ⟨n,3,none⟩=some x3)∧∀j,w.frozen? ⟨n,j,none⟩=false:=by
 refine ⟨⟨?_,?_,?_,?_⟩,?_⟩<;>simp [World.cell?,World.frozen?,h]
theorem rX (b k:Nat) (mv nv ov pv:Value) (hb:Nat) (M:List Int) (L:List Nd) (O:List Int) (P:List Part) (root en:Int) (w:World) (h:Gm w b mv nv ov pv hb M L O P root en)
 (x:Nd) (c:Int) (f t:Nat) (a a2:Int) (hx:L[k]? = some x) (hf:x.fr=f) (ht:x.to=t) (hc:O[k]? = some c) (hc0:0<c) (ha:M[f]? = some a) (ha2:M[t]? = some a2) (hl1 : -9223372036854775808≤a) (hl2:a≤a2) (hl3:a2≤9223372036854775807) :
 Calls Tryz.prog 265 #[.pointer (some ⟨b,0,none⟩),.int .i64 (k:Int)] w fun e w'=>e=.returned (D6 ⟨a2 - a,1,true,true⟩)∧Bf [] w w':=by
 obtain ⟨xk,xl,xr,xf,xt,xa,xi⟩:=x;dsimp only at hf ht;subst hf ht;obtain ⟨c0,-,c2,c3,c4,-,-,-⟩:=h.cells;obtain ⟨gn,Cn,rfl,Jd,-⟩:=EP h.nodes hx;obtain ⟨go,Co,rfl,yH,-⟩:=EP h.often hc;have hbw:b<w.heap.size:=lt_of_block h.head;have hkl:=(AV hx).1;have hkl2:=(AV hc).1;have b0:(0:Int)≤(k:Int):=AU _;have b1:(k:Int)<(L.length:Int):=by omega
 have b1o:(k:Int)<(O.length:Int):=by omega
 have n0:w.cell? ⟨gn,k*7,none⟩=some (.int .u8 xk):=Jd 0 _ rfl;have n1:w.cell? ⟨gn,k*7+1,none⟩=some (.int .i64 xl):=Jd 1 _ rfl;have n2:w.cell? ⟨gn,k*7+2,none⟩=some (.int .i64 xr):=Jd 2 _ rfl;have n3:w.cell? ⟨gn,k*7+3,none⟩=some (.int .i64 (f:Int)):=Jd 3 _ rfl;have n4:w.cell? ⟨gn,k*7+4,none⟩=some (.int .i64 (t:Int)):=Jd 4 _ rfl;have n5:w.cell? ⟨gn,k*7+5,none⟩=some (.int .i64 xa):=Jd 5 _ rfl;have n6:w.cell? ⟨gn,k*7+6,none⟩=some (.int .i64 xi):=Jd 6 _ rfl;have hgw:gn<w.heap.size:=World.block_lt_of_cell? w _ n0
 have o0:w.cell? ⟨go,k,none⟩=some (.int .i64 c):=by
  have:=yH 0 _ rfl;simpa [KC] using this
 have hgo:go<w.heap.size:=World.block_lt_of_cell? w _ o0;obtain ⟨gm,Cm,rfl,em1,-⟩:=EP h.marks ha;obtain ⟨gm',Cm',hmm,em2,-⟩:=EP h.marks ha2
 cases hmm
 have ma:w.cell? ⟨gm,f,none⟩=some (.int .i64 a):=by
  have:=em1 0 _ rfl;simpa [KL] using this
 have ma2:w.cell? ⟨gm,t,none⟩=some (.int .i64 a2):=by
  have:=em2 0 _ rfl;simpa [KL] using this
 have hgm:gm<w.heap.size:=World.block_lt_of_cell? w _ ma;have hfl:=(AV ha).1;have htl:=(AV ha2).1;have f0:(0:Int)≤(f:Int):=AU _;have t0:(0:Int)≤(t:Int):=AU _;have f1:(f:Int)<(M.length:Int):=by omega
 have t1:(t:Int)<(M.length:Int):=by omega
 have hdN:PV a a2=a2 - a:=by unfold PV;split<;>omega
 have hdiff:=fun w'=>nG a a2 w' ⟨hl1,by omega⟩ ⟨by omega,hl3⟩
 rw [hdN] at hdiff
 have s0:((w.alloc (.cells #[.int .u64 0,.int .i64 0,.bool false,.bool false] 236)).alloc (.cells #[.int .u8 xk,.int .i64 xl,.int .i64 xr,.int .i64 (f:Int),.int .i64 (t:Int),.int .i64 xa,.int .i64 xi] 339)).cell? ⟨b,0,none⟩=some (.slice (some ⟨gm,0,none⟩) M.length Cm):=by
  rw [World.cell?_alloc_past _ _ _ (by simp;omega),World.cell?_alloc_past _ _ _ hbw];exact c0
 have sa:((w.alloc (.cells #[.int .u64 0,.int .i64 0,.bool false,.bool false] 236)).alloc (.cells #[.int .u8 xk,.int .i64 xl,.int .i64 xr,.int .i64 (f:Int),.int .i64 (t:Int),.int .i64 xa,.int .i64 xi] 339)).cell? ⟨gm,f,none⟩=some (.int .i64 a):=by
  rw [World.cell?_alloc_past _ _ _ (by simp;omega),World.cell?_alloc_past _ _ _ hgm];exact ma
 have sa2:((w.alloc (.cells #[.int .u64 0,.int .i64 0,.bool false,.bool false] 236)).alloc (.cells #[.int .u8 xk,.int .i64 xl,.int .i64 xr,.int .i64 (f:Int),.int .i64 (t:Int),.int .i64 xa,.int .i64 xi] 339)).cell? ⟨gm,t,none⟩=some (.int .i64 a2):=by
  rw [World.cell?_alloc_past _ _ _ (by simp;omega),World.cell?_alloc_past _ _ _ hgm];exact ma2
 have sn3:((w.alloc (.cells #[.int .u64 0,.int .i64 0,.bool false,.bool false] 236)).alloc (.cells #[.int .u8 xk,.int .i64 xl,.int .i64 xr,.int .i64 (f:Int),.int .i64 (t:Int),.int .i64 xa,.int .i64 xi] 339)).cell? ⟨w.heap.size+1,3,none⟩=some (.int .i64 (f:Int)):=by rw [World.cell?_alloc_at _ _ _ _ (by simp)];rfl
 have sn4:((w.alloc (.cells #[.int .u64 0,.int .i64 0,.bool false,.bool false] 236)).alloc (.cells #[.int .u8 xk,.int .i64 xl,.int .i64 xr,.int .i64 (f:Int),.int .i64 (t:Int),.int .i64 xa,.int .i64 xi] 339)).cell? ⟨w.heap.size+1,4,none⟩=some (.int .i64 (t:Int)):=by rw [World.cell?_alloc_at _ _ _ _ (by simp)];rfl
 have HS:=Aq s0 sn3 sn4 sa sa2;have HD:=AQ hdiff;clear h hx hc ha ha2 hl1 hl2 hl3 Jd yH em1 em2 hkl hkl2 hfl htl hdN hdiff s0 sn3 sn4 sa sa2 c4;go_enter Tryz.func265,Tryz.ntmps265
 go_upto_region 3 with fail
 refine Bj.start [16,17,18] (fun w'=>w'.cell? ⟨b,0,none⟩=some (.slice (some ⟨gm,0,none⟩) M.length Cm)∧w'.cell? ⟨w.heap.size+1,3,none⟩=some (.int .i64 (f:Int))∧w'.cell? ⟨w.heap.size+1,4,none⟩=some (.int .i64 (t:Int))∧w'.cell? ⟨gm,f,none⟩=some (.int .i64 a)∧w'.cell? ⟨gm,t,none⟩=some (.int .i64 a2)) (by kernel_rfl) ?_ fun hS=>?_
 ·exact HS.out
 refine' Bj.mw 0 (oi:=⟨some 23,_,_,_,_,_⟩) ?_
 simp only [Act.put,sA,sZ,sS];refine' Bj.mw 1 (oi:=⟨some 24,_,_,_,_,_⟩) ?_
 simp only [Act.put,sA,sZ,sS];refine' Bj.mw 2 (oi:=⟨some 25,_,_,_,_,_⟩) ?_
 simp only [Act.put,sA,sZ,sS];refine' Bj.tl 4 3 (oi:=⟨some 26,_,_,_,_,_⟩) ?_
 simp only [Act.put,sA,sZ,sS];refine' Bj.mw 4 (oi:=⟨some 27,_,_,_,_,_⟩) ?_
 simp only [Act.put,sA,sZ,sS];refine' Bj.tl 4 5 (oi:=⟨some 28,_,_,_,_,_⟩) ?_
 simp only [Act.put,sA,sZ,sS];refine' Bj.mw 6 (oi:=⟨some 29,_,_,_,_,_⟩) ?_
 simp only [Act.put,sA,sZ,sS];refine' Bj.tl 4 7 (oi:=⟨some 30,_,_,_,_,_⟩) ?_
 simp only [Act.put,sA,sZ,sS];refine' Bj.mw 8 (oi:=⟨some 31,_,_,_,_,_⟩) ?_
 simp only [Act.put,sA,sZ,sS];refine' Bj.mw 9 (oi:=⟨some 32,_,_,_,_,_⟩) ?_
 simp only [Act.put,sA,sZ,sS];refine' Bj.mw 10 (oi:=⟨some 33,_,_,_,_,_⟩) ?_
 simp only [Act.put,sA,sZ,sS];refine' Bj.tl 4 11 (oi:=⟨some 34,_,_,_,_,_⟩) ?_
 simp only [Act.put,sA,sZ,sS];refine' Bj.mw 12 (oi:=⟨some 35,_,_,_,_,_⟩) ?_
 simp only [Act.put,sA,sZ,sS];refine' Bj.tl 4 13 (oi:=⟨some 36,_,_,_,_,_⟩) ?_
 simp only [Act.put,sA,sZ,sS];refine' Bj.mw 14 (oi:=⟨some 37,_,_,_,_,_⟩) ?_
 simp only [Act.put,sA,sZ,sS];refine' Bj.tl 4 15 (oi:=⟨some 38,_,_,_,_,_⟩) ?_
 simp only [Act.put,sA,sZ,sS];refine Bj.one (i:=16) (o:=⟨some 39,_,_,_,_,_⟩) rfl (by kernel_rfl) fun K hK=>?_
 go_simp
 go_at_call 98
 (with_reducible refine (HD.out _).mono ?_);rintro e w' ⟨rfl,rfl⟩;refine hK.out _ _ (fun h=>(by cases h)) ?_
 clear hK K;try simp only [Act.put,sA,sZ,sS]
 refine' Bj.mw 17 (oi:=⟨some 40,_,_,_,_,_⟩) ?_
 simp only [Act.put,sA,sZ,sS];refine Bj.one (i:=18) (o:=⟨none,_,_,_,_,_⟩) rfl (by kernel_rfl) fun K hK=>?_
 go_simp
 refine hK.out _ _ (fun h=>(by cases h)) ?_
 clear hK K;try simp only [Act.put,sA,sZ,sS]
 refine Bj.done (by kernel_rfl) ?_
 go_wp2_with fail
 refine bodyPost_ret (v:=D6 ⟨a2 - a,1,true,true⟩) (by simp [results,Tryz.results265,go_sem,D6]) rfl ⟨rfl,(((Bf.refl _ _).alloc _).alloc _).drew⟩
theorem kD (b k:Nat) (mv nv ov pv:Value) (hb:Nat) (M:List Int) (L:List Nd) (O:List Int) (P:List Part) (root en:Int) (w:World) (h:Gm w b mv nv ov pv hb M L O P root en)
 (x:Nd) (c:Int) (hx:L[k]? = some x) (hk:x.k=1) (hc:O[k]? = some c) (hc0:¬0<c) :
 Calls Tryz.prog 265 #[.pointer (some ⟨b,0,none⟩),.int .i64 (k:Int)] w fun e w'=>e=.returned (D6 ⟨0,0,false,false⟩)∧Bf [] w w':=by
 obtain ⟨xk,xl,xr,xf,xt,xa,xi⟩:=x;dsimp only at hk;subst hk;obtain ⟨c0,-,c2,c3,c4,-,-,-⟩:=h.cells;obtain ⟨gn,Cn,rfl,Jd,-⟩:=EP h.nodes hx;obtain ⟨go,Co,rfl,yH,-⟩:=EP h.often hc;have hbw:b<w.heap.size:=lt_of_block h.head;have hkl:=(AV hx).1;have hkl2:=(AV hc).1;have b0:(0:Int)≤(k:Int):=AU _;have b1:(k:Int)<(L.length:Int):=by omega
 have b1o:(k:Int)<(O.length:Int):=by omega
 have n0:w.cell? ⟨gn,k*7,none⟩=some (.int .u8 1):=Jd 0 _ rfl;have n1:w.cell? ⟨gn,k*7+1,none⟩=some (.int .i64 xl):=Jd 1 _ rfl;have n2:w.cell? ⟨gn,k*7+2,none⟩=some (.int .i64 xr):=Jd 2 _ rfl;have n3:w.cell? ⟨gn,k*7+3,none⟩=some (.int .i64 xf):=Jd 3 _ rfl;have n4:w.cell? ⟨gn,k*7+4,none⟩=some (.int .i64 xt):=Jd 4 _ rfl;have n5:w.cell? ⟨gn,k*7+5,none⟩=some (.int .i64 xa):=Jd 5 _ rfl;have n6:w.cell? ⟨gn,k*7+6,none⟩=some (.int .i64 xi):=Jd 6 _ rfl;have hgw:gn<w.heap.size:=World.block_lt_of_cell? w _ n0
 have o0:w.cell? ⟨go,k,none⟩=some (.int .i64 c):=by
  have:=yH 0 _ rfl;simpa [KC] using this
 have hgo:go<w.heap.size:=World.block_lt_of_cell? w _ o0;have hcd:decide (0<c)=false:=decide_eq_false hc0;clear h hx hc hc0 Jd yH hkl hkl2 c4 c0;go_enter Tryz.func265,Tryz.ntmps265
 go_wp2_with fail
 refine bodyPost_ret (v:=D6 ⟨0,0,false,false⟩) (by simp [results,Tryz.results265,go_sem,D6]) rfl ⟨rfl,((Bf.refl _ _).alloc _).alloc _⟩
theorem kE (b k:Nat) (mv nv ov pv:Value) (hb:Nat) (M:List Int) (L:List Nd) (O:List Int) (P:List Part) (root en:Int) (w:World) (h:Gm w b mv nv ov pv hb M L O P root en)
 (x:Nd) (c:Int) (l r:Nat) (p q:Part) (hx:L[k]? = some x) (hk:x.k=2) (hl:x.l=l) (hr:x.r=r) (hc:O[k]? = some c) (hc0:¬0<c) (hp:P[l]? = some p) (hq:P[r]? = some q) (h1:0≤p.long+q.long) (h2:p.long+q.long<18446744073709551616) (h3:0≤p.runs) (h4:p.runs≤1000000) (h5:0≤q.runs) (h6:q.runs≤1000000) :
 Calls Tryz.prog 265 #[.pointer (some ⟨b,0,none⟩),.int .i64 (k:Int)] w fun e w'=>e=.returned (D6 (Vm p q))∧Bf [] w w':=by
 obtain ⟨xk,xl,xr,xf,xt,xa,xi⟩:=x;dsimp only at hk hl hr;subst hk hl hr;obtain ⟨c0,-,c2,c3,c4,-,-,-⟩:=h.cells;obtain ⟨gn,Cn,rfl,Jd,-⟩:=EP h.nodes hx;obtain ⟨go,Co,rfl,yH,-⟩:=EP h.often hc;have hbw:b<w.heap.size:=lt_of_block h.head;have hkl:=(AV hx).1;have hkl2:=(AV hc).1;have b0:(0:Int)≤(k:Int):=AU _;have b1:(k:Int)<(L.length:Int):=by omega
 have b1o:(k:Int)<(O.length:Int):=by omega
 have n0:w.cell? ⟨gn,k*7,none⟩=some (.int .u8 2):=Jd 0 _ rfl;have n1:w.cell? ⟨gn,k*7+1,none⟩=some (.int .i64 (l:Int)):=Jd 1 _ rfl;have n2:w.cell? ⟨gn,k*7+2,none⟩=some (.int .i64 (r:Int)):=Jd 2 _ rfl;have n3:w.cell? ⟨gn,k*7+3,none⟩=some (.int .i64 xf):=Jd 3 _ rfl;have n4:w.cell? ⟨gn,k*7+4,none⟩=some (.int .i64 xt):=Jd 4 _ rfl;have n5:w.cell? ⟨gn,k*7+5,none⟩=some (.int .i64 xa):=Jd 5 _ rfl;have n6:w.cell? ⟨gn,k*7+6,none⟩=some (.int .i64 xi):=Jd 6 _ rfl;have hgw:gn<w.heap.size:=World.block_lt_of_cell? w _ n0
 have o0:w.cell? ⟨go,k,none⟩=some (.int .i64 c):=by
  have:=yH 0 _ rfl;simpa [KC] using this
 have hgo:go<w.heap.size:=World.block_lt_of_cell? w _ o0;have hmf:∀(fn:Fn) (first cap:Array Value) (w:World),(Instr.makeFunc fn first cap).run Tryz.prog w=.ok (.func fn first cap) w:=fun _ _ _ _=>rfl
 have hcd:decide (0<c)=false:=decide_eq_false hc0;obtain ⟨gp,Cp,rfl,ep1,-⟩:=EP h.parts hp;obtain ⟨gp',Cp',hpp,ep2,-⟩:=EP h.parts hq
 cases hpp
 have ht:=fun w'=>a7Z p q w' h1 h2 h3 h4 h5 h6
 have hll:=(AV hp).1;have hrl:=(AV hq).1;obtain ⟨T0,hT⟩:=AO (Vm p q);rw [hT] at ht ⊢;obtain ⟨pl,pr,pf,pa⟩:=p;obtain ⟨ql,qr,qf,qa⟩:=q;obtain ⟨tl,tr,tf,ta⟩:=T0;unfold D6 at ht ⊢;dsimp only at ht ⊢;have l0:(0:Int)≤(l:Int):=AU _;have r0:(0:Int)≤(r:Int):=AU _;have l1:(l:Int)<(P.length:Int):=by omega
 have r1:(r:Int)<(P.length:Int):=by omega
 have p0:w.cell? ⟨gp,l*4,none⟩=some (.int .u64 pl):=ep1 0 _ rfl;have p1:w.cell? ⟨gp,l*4+1,none⟩=some (.int .i64 pr):=ep1 1 _ rfl;have p2:w.cell? ⟨gp,l*4+2,none⟩=some (.bool pf):=ep1 2 _ rfl;have p3:w.cell? ⟨gp,l*4+3,none⟩=some (.bool pa):=ep1 3 _ rfl;have q0:w.cell? ⟨gp,r*4,none⟩=some (.int .u64 ql):=ep2 0 _ rfl;have q1:w.cell? ⟨gp,r*4+1,none⟩=some (.int .i64 qr):=ep2 1 _ rfl;have q2:w.cell? ⟨gp,r*4+2,none⟩=some (.bool qf):=ep2 2 _ rfl;have q3:w.cell? ⟨gp,r*4+3,none⟩=some (.bool qa):=ep2 3 _ rfl;have Yn:gp<w.heap.size:=World.block_lt_of_cell? w _ p0
 have s4:((w.alloc (.cells #[.int .u64 0,.int .i64 0,.bool false,.bool false] 236)).alloc (.cells #[.int .u8 2,.int .i64 (l:Int),.int .i64 (r:Int),.int .i64 xf,.int .i64 xt,.int .i64 xa,.int .i64 xi] 339)).cell? ⟨b,4,none⟩=some (.slice (some ⟨gp,0,none⟩) P.length Cp):=by
  rw [World.cell?_alloc_past _ _ _ (by simp;omega),World.cell?_alloc_past _ _ _ hbw];exact c4
 have sn1:((w.alloc (.cells #[.int .u64 0,.int .i64 0,.bool false,.bool false] 236)).alloc (.cells #[.int .u8 2,.int .i64 (l:Int),.int .i64 (r:Int),.int .i64 xf,.int .i64 xt,.int .i64 xa,.int .i64 xi] 339)).cell? ⟨w.heap.size+1,1,none⟩=some (.int .i64 (l:Int)):=by rw [World.cell?_alloc_at _ _ _ _ (by simp)];rfl
 have sn2:((w.alloc (.cells #[.int .u64 0,.int .i64 0,.bool false,.bool false] 236)).alloc (.cells #[.int .u8 2,.int .i64 (l:Int),.int .i64 (r:Int),.int .i64 xf,.int .i64 xt,.int .i64 xa,.int .i64 xi] 339)).cell? ⟨w.heap.size+1,2,none⟩=some (.int .i64 (r:Int)):=by rw [World.cell?_alloc_at _ _ _ _ (by simp)];rfl
 have sp0:((w.alloc (.cells #[.int .u64 0,.int .i64 0,.bool false,.bool false] 236)).alloc (.cells #[.int .u8 2,.int .i64 (l:Int),.int .i64 (r:Int),.int .i64 xf,.int .i64 xt,.int .i64 xa,.int .i64 xi] 339)).cell? ⟨gp,l*4,none⟩=some (.int .u64 pl):=by
  rw [World.cell?_alloc_past _ _ _ (by simp;omega),World.cell?_alloc_past _ _ _ Yn];exact p0
 have sp1:((w.alloc (.cells #[.int .u64 0,.int .i64 0,.bool false,.bool false] 236)).alloc (.cells #[.int .u8 2,.int .i64 (l:Int),.int .i64 (r:Int),.int .i64 xf,.int .i64 xt,.int .i64 xa,.int .i64 xi] 339)).cell? ⟨gp,l*4+1,none⟩=some (.int .i64 pr):=by
  rw [World.cell?_alloc_past _ _ _ (by simp;omega),World.cell?_alloc_past _ _ _ Yn];exact p1
 have sp2:((w.alloc (.cells #[.int .u64 0,.int .i64 0,.bool false,.bool false] 236)).alloc (.cells #[.int .u8 2,.int .i64 (l:Int),.int .i64 (r:Int),.int .i64 xf,.int .i64 xt,.int .i64 xa,.int .i64 xi] 339)).cell? ⟨gp,l*4+2,none⟩=some (.bool pf):=by
  rw [World.cell?_alloc_past _ _ _ (by simp;omega),World.cell?_alloc_past _ _ _ Yn];exact p2
 have sp3:((w.alloc (.cells #[.int .u64 0,.int .i64 0,.bool false,.bool false] 236)).alloc (.cells #[.int .u8 2,.int .i64 (l:Int),.int .i64 (r:Int),.int .i64 xf,.int .i64 xt,.int .i64 xa,.int .i64 xi] 339)).cell? ⟨gp,l*4+3,none⟩=some (.bool pa):=by
  rw [World.cell?_alloc_past _ _ _ (by simp;omega),World.cell?_alloc_past _ _ _ Yn];exact p3
 have sq0:((w.alloc (.cells #[.int .u64 0,.int .i64 0,.bool false,.bool false] 236)).alloc (.cells #[.int .u8 2,.int .i64 (l:Int),.int .i64 (r:Int),.int .i64 xf,.int .i64 xt,.int .i64 xa,.int .i64 xi] 339)).cell? ⟨gp,r*4,none⟩=some (.int .u64 ql):=by
  rw [World.cell?_alloc_past _ _ _ (by simp;omega),World.cell?_alloc_past _ _ _ Yn];exact q0
 have sq1:((w.alloc (.cells #[.int .u64 0,.int .i64 0,.bool false,.bool false] 236)).alloc (.cells #[.int .u8 2,.int .i64 (l:Int),.int .i64 (r:Int),.int .i64 xf,.int .i64 xt,.int .i64 xa,.int .i64 xi] 339)).cell? ⟨gp,r*4+1,none⟩=some (.int .i64 qr):=by
  rw [World.cell?_alloc_past _ _ _ (by simp;omega),World.cell?_alloc_past _ _ _ Yn];exact q1
 have sq2:((w.alloc (.cells #[.int .u64 0,.int .i64 0,.bool false,.bool false] 236)).alloc (.cells #[.int .u8 2,.int .i64 (l:Int),.int .i64 (r:Int),.int .i64 xf,.int .i64 xt,.int .i64 xa,.int .i64 xi] 339)).cell? ⟨gp,r*4+2,none⟩=some (.bool qf):=by
  rw [World.cell?_alloc_past _ _ _ (by simp;omega),World.cell?_alloc_past _ _ _ Yn];exact q2
 have sq3:((w.alloc (.cells #[.int .u64 0,.int .i64 0,.bool false,.bool false] 236)).alloc (.cells #[.int .u8 2,.int .i64 (l:Int),.int .i64 (r:Int),.int .i64 xf,.int .i64 xt,.int .i64 xa,.int .i64 xi] 339)).cell? ⟨gp,r*4+3,none⟩=some (.bool qa):=by
  rw [World.cell?_alloc_past _ _ _ (by simp;omega),World.cell?_alloc_past _ _ _ Yn];exact q3
 have xQ:=Au s4 sn1 sp0 sp1 sp2 sp3;have HS7:=Au s4 sn2 sq0 sq1 sq2 sq3;have HT:=AQ ht
 have hW:((w.alloc (.cells #[.int .u64 0,.int .i64 0,.bool false,.bool false] 236)).alloc (.cells #[.int .u8 2,.int .i64 (l:Int),.int .i64 (r:Int),.int .i64 xf,.int .i64 xt,.int .i64 xa,.int .i64 xi] 339)).heap[w.heap.size]? = some (.cells #[.int .u64 0,.int .i64 0,.bool false,.bool false] 236 (0,0)):=by
  rw [Below.heap_alloc _ _ _ (by simp)];exact heap_alloc_new w _
 have HW:=AQ hW;have lS:=AQ (show Bf [] w (((w.alloc (.cells #[.int .u64 0,.int .i64 0,.bool false,.bool false] 236)).alloc (.cells #[.int .u8 2,.int .i64 (l:Int),.int .i64 (r:Int),.int .i64 xf,.int .i64 xt,.int .i64 xa,.int .i64 xi] 339)).drew.drew) from ((((Bf.refl [] w).alloc _).alloc _).drew).drew);clear hW h hx hc hc0 hp hq h1 h2 h3 h4 h5 h6 Jd yH ep1 ep2 hkl hkl2 hll hrl hT ht c0 p0 p1 p2 p3 q0 q1 q2 q3 s4 sn1 sn2 sp0 sp1 sp2 sp3 sq0 sq1 sq2 sq3 c4;go_enter Tryz.func265,Tryz.ntmps265
 go_upto_region 6 with fail
 refine Bj.start [8,9] (fun w'=>w'.cell? ⟨b,4,none⟩=some (.slice (some ⟨gp,0,none⟩) P.length Cp)∧w'.cell? ⟨w.heap.size+1,1,none⟩=some (.int .i64 (l:Int))∧w'.cell? ⟨gp,l*4,none⟩=some (.int .u64 pl)∧w'.cell? ⟨gp,l*4+1,none⟩=some (.int .i64 pr)∧w'.cell? ⟨gp,l*4+2,none⟩=some (.bool pf)∧w'.cell? ⟨gp,l*4+3,none⟩=some (.bool pa)) (by kernel_rfl) ?_ fun hS=>?_
 ·exact xQ.out
 refine' Bj.mw 0 (oi:=⟨some 46,_,_,_,_,_⟩) ?_
 simp only [Act.put,sA,sZ,sS];refine' Bj.mw 1 (oi:=⟨some 47,_,_,_,_,_⟩) ?_
 simp only [Act.put,sA,sZ,sS];refine' Bj.mw 2 (oi:=⟨some 48,_,_,_,_,_⟩) ?_
 simp only [Act.put,sA,sZ,sS];refine' Bj.tl 3 3 (oi:=⟨some 49,_,_,_,_,_⟩) ?_
 simp only [Act.put,sA,sZ,sS];refine' Bj.mw 4 (oi:=⟨some 50,_,_,_,_,_⟩) ?_
 simp only [Act.put,sA,sZ,sS];refine' Bj.tl 3 5 (oi:=⟨some 51,_,_,_,_,_⟩) ?_
 simp only [Act.put,sA,sZ,sS];refine' Bj.mw 6 (oi:=⟨some 52,_,_,_,_,_⟩) ?_
 simp only [Act.put,sA,sZ,sS];refine' Bj.tl 3 7 (oi:=⟨some 53,_,_,_,_,_⟩) ?_
 simp only [Act.put,sA,sZ,sS];refine' Bj.mw 8 (oi:=⟨some 54,_,_,_,_,_⟩) ?_
 simp only [Act.put,sA,sZ,sS];refine' Bj.mw 9 (oi:=⟨some 6,_,_,_,_,_⟩) ?_
 simp only [Act.put,sA,sZ,sS];refine Bj.done (by kernel_rfl) ?_
 go_upto_region 7 with fail
 refine Bj.start [9,10] (fun w'=>w'.cell? ⟨b,4,none⟩=some (.slice (some ⟨gp,0,none⟩) P.length Cp)∧w'.cell? ⟨w.heap.size+1,2,none⟩=some (.int .i64 (r:Int))∧w'.cell? ⟨gp,r*4,none⟩=some (.int .u64 ql)∧w'.cell? ⟨gp,r*4+1,none⟩=some (.int .i64 qr)∧w'.cell? ⟨gp,r*4+2,none⟩=some (.bool qf)∧w'.cell? ⟨gp,r*4+3,none⟩=some (.bool qa)) (by kernel_rfl) ?_ fun hS=>?_
 ·exact HS7.out
 refine' Bj.mw 0 (oi:=⟨some 55,_,_,_,_,_⟩) ?_
 simp only [Act.put,sA,sZ,sS];refine' Bj.mw 1 (oi:=⟨some 56,_,_,_,_,_⟩) ?_
 simp only [Act.put,sA,sZ,sS];refine' Bj.mw 2 (oi:=⟨some 57,_,_,_,_,_⟩) ?_
 simp only [Act.put,sA,sZ,sS];refine' Bj.mw 3 (oi:=⟨some 58,_,_,_,_,_⟩) ?_
 simp only [Act.put,sA,sZ,sS];refine' Bj.tl 3 4 (oi:=⟨some 59,_,_,_,_,_⟩) ?_
 simp only [Act.put,sA,sZ,sS];refine' Bj.mw 5 (oi:=⟨some 60,_,_,_,_,_⟩) ?_
 simp only [Act.put,sA,sZ,sS];refine' Bj.tl 3 6 (oi:=⟨some 61,_,_,_,_,_⟩) ?_
 simp only [Act.put,sA,sZ,sS];refine' Bj.mw 7 (oi:=⟨some 62,_,_,_,_,_⟩) ?_
 simp only [Act.put,sA,sZ,sS];refine' Bj.tl 3 8 (oi:=⟨some 63,_,_,_,_,_⟩) ?_
 simp only [Act.put,sA,sZ,sS];refine Bj.one (i:=9) (o:=⟨some 64,_,_,_,_,_⟩) rfl (by kernel_rfl) fun K hK=>?_
 go_simp
 go_at_call 306
 (with_reducible refine (HT.out _).mono ?_);rintro e w2 ⟨rfl,hu2⟩;have hh2:=(hu2.block w.heap.size (by simp;omega) (by simp)).trans HW.out;obtain ⟨⟨e0,e1,e2,e3⟩,ef⟩:=kC hh2;have ef0:=ef 0;have ef1:=ef 1;have ef2:=ef 2;have ef3:=ef 3;have hu:Bf [] w w2:=lS.out.trans hu2;have HU:=AQ hu;clear hu2 hh2 ef hu;refine hK.out _ _ (fun h=>(by cases h)) ?_
 clear hK K;try simp only [Act.put,sA,sZ,sS]
 refine Bj.one (i:=10) (o:=⟨none,_,_,_,_,_⟩) rfl (by kernel_rfl) fun K hK=>?_
 go_simp
 refine hK.out _ _ (fun h=>(by cases h)) ?_
 clear hK K;try simp only [Act.put,sA,sZ,sS]
 refine Bj.done (by kernel_rfl) ?_
 go_wp2_with fail
 refine bodyPost_ret (v:=.agg #[.int .u64 tl,.int .i64 tr,.bool tf,.bool ta]) (by simp [results,Tryz.results265,go_sem,e0,e1,e2,e3]) rfl ⟨rfl,?_⟩
 exact (((HU.out.setCell (.inr (Nat.le_refl _)) _).setCell (.inr (Nat.le_refl _)) _).setCell (.inr (Nat.le_refl _)) _).setCell (.inr (Nat.le_refl _)) _
