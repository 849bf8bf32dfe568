/- A cover in memory. cover: what is known of two parts; what is known of a node. -/
import Derived.Test.YtkbaaonchdeneaaGreatPc39
import Derived.Test.YtkbaaonchdeneaaGreatPc40
set_option maxHeartbeats 2000000
set_option maxRecDepth 100000
namespace Go.Proofs.YtkbaaonchdeneaaGreat
open Go.RowKit
def KC:Kind Int:={ T:=0,sT:=163,eT:=3,sz:=1,enc:=λx=>[x],len:=λ_=>rfl,one:=λx u hu=>by simp at hu;subst hu;rfl }
def KP:Kind Part:={ T:=0,sT:=227,eT:=236,sz:=4,enc:=λx=>[.int .u64 x.long,x.runs,.bool x.first,.bool x.last],len:=λ_=>rfl,one:=λx u hu=>by simp at hu;rcases hu with rfl | rfl | rfl | rfl<;>rfl }
def Dx (p:Part):Value:=.agg #[.int .u64 p.long,p.runs,.bool p.first,.bool p.last]
theorem Ei {α:Type} {K:Kind α} {w:World} {base:Nat} {v:Value} {l:List α} (h:K.row w base v l) {k:Nat} {x:α} (hx:l[k]? = some x) :
 ∃g C,v=.slice (some ⟨g,0,none⟩) l.length C/\(∀j u,(K.enc x)[j]? = some u->w.cell? ⟨g,k*K.sz+j,none⟩=some u)/\(∀j,w.frozen? ⟨g,j,none⟩=false):=by
 have hk:=(AZ hx).1;obtain ⟨g,C,rfl,_,_⟩:=World.ownsRow.form h (by omega);obtain ⟨b,o,h1,h2,h3,h4⟩:=(See.BU h).at hx
 cases h1
 refine ⟨g,C,rfl,λj u hu=>?_,λj=>World.ownsRow.frozenAt h j⟩
 have:=h4 j u hu;rwa [Nat.zero_add] at this
structure EX (w:World) (b:Nat) (mv nv ov pv:Value) (hb:Nat) (M:List Int) (L:List Nd) (O:List Int) (P:List Part) (root en:Int):Prop where
 head:w.heap[b]? = some (.cells #[mv,root,nv,ov,pv,.map (some hb),en] 229 (0,0))
 marks:KL.row w 0 mv M
 nodes:KD.row w 0 nv L
 often:KC.row w 0 ov O
 parts:KP.row w 0 pv P
 bm:b∉blk mv
 bn:b∉blk nv
 bo:b∉blk ov
 bp:b∉blk pv
 bh:b≠hb
 om:∀y∈blk ov,y∉blk mv
 on:∀y∈blk ov,y∉blk nv
 op:∀y∈blk ov,y∉blk pv
 pm:∀y∈blk pv,y∉blk mv
 pn:∀y∈blk pv,y∉blk nv
 hm:hb∉blk mv
 hn:hb∉blk nv
 ho:hb∉blk ov
 hp:hb∉blk pv
def Gl (b:Nat) (ov pv:Value):List Nat:=b::(blk ov++blk pv)
section
variable {w w':World} {b:Nat} {mv nv ov pv:Value} {hb:Nat} {M:List Int} {L:List Nd} {O O':List Int} {P P':List Part} {root en:Int}
theorem EX.lt (h:EX w b mv nv ov pv hb M L O P root en):∀y∈Gl b ov pv,y<w.heap.size:=by
 intro y hy;unfold Gl at hy;rcases List.mem_cons.1 hy with rfl | hy
 ·exact lt_of_block h.head
 ·rcases List.mem_append.1 hy with hy | hy
  ·exact BJ h.often y hy
  ·exact BJ h.parts y hy
theorem EX.upd (h:EX w b mv nv ov pv hb M L O P root en) {F:List Nat} (hu:Bj F w w') (h1:b∉F) (h2:∀y∈blk mv,y∉F) (h3:∀y∈blk nv,y∉F) (h4:∀y∈blk ov,y∉F) (h5:∀y∈blk pv,y∉F):EX w' b mv nv ov pv hb M L O P root en:=
 { h with head:=(hu.block b (lt_of_block h.head) h1).trans h.head,marks:=Bl h.marks hu h2,nodes:=Bl h.nodes hu h3,often:=Bl h.often hu h4,parts:=Bl h.parts hu h5 }
theorem EX.BF (h:EX w b mv nv ov pv hb M L O P root en) (hu:Bj [] w w'):EX w' b mv nv ov pv hb M L O P root en:=
 h.upd hu (by simp) (by simp) (by simp) (by simp) (by simp)
theorem EX.cells (h:EX w b mv nv ov pv hb M L O P root en):w.cell? b=some mv/\w.cell? ⟨b,1,none⟩=some (.int .i64 root)/\w.cell? ⟨b,2,none⟩=some nv/\w.cell? ⟨b,3,none⟩=some ov/\w.cell? ⟨b,4,none⟩=some pv/\w.cell? ⟨b,5,none⟩=some (.map (some hb))/\w.cell? ⟨b,6,none⟩=some (.int .i64 en)/\∀j,w.frozen? ⟨b,j,none⟩=false:=by
 refine ⟨?_,?_,?_,?_,?_,?_,?_,?_⟩<;>simp [World.cell?,World.frozen?,h.head]
theorem EX.enter (h:EX w b mv nv ov pv hb M L O P root en) (e':Int):EX (w.setCell ⟨b,6,none⟩ (.int .i64 e')) b mv nv ov pv hb M L O P root e':=
 { h with head:=heap_set h.head 6 _,marks:=BG h.marks h.bm _,nodes:=BG h.nodes h.bn _,often:=BG h.often h.bo _,parts:=BG h.parts h.bp _ }
theorem KC.all_eq (l:List Int):KC.all l=l.map (Value.int .i64):=by
 induction l with
 |nil=>rfl
 |cons a l ih=>simp only [Kind.all,List.flatMap_cons,List.map_cons] at *;rw [ih];rfl
theorem EX.oft {g C N:Nat} (h:EX w b mv nv (.slice (some ⟨g,0,none⟩) N C) pv hb M L O P root en) (hN:O.length=N) (k:Nat) (x:Int) :
 EX (w.setCell ⟨g,k,none⟩ (.int .i64 x)) b mv nv (.slice (some ⟨g,0,none⟩) N C) pv hb M L (O.set k x) P root en:=by
 subst hN;have hg:g∈blk (.slice (some ⟨g,0,none⟩) O.length C):=by simp [blk]
 have hgb:g≠b:=λe=>h.bo (by rw [<-e];exact hg)
 refine { h with head:=?_,marks:=BG h.marks (h.om g hg) _,nodes:=BG h.nodes (h.on g hg) _,often:=?_,parts:=BG h.parts (h.op g hg) _ }
 ·rw [Below.heap_setCell _ _ _ _ (by simpa using Ne.symm hgb)];exact h.head
 ·have h':w.ownsRow 0 3 1 (.slice (some ⟨g,0,none⟩) O.length C) O.length (KC.all O):=h.often;have:=(World.ownsRow.stored h' k (.int .i64 x)).1;unfold Kind.row;rw [KC.all_eq,List.length_set,List.map_set,<-KC.all_eq];exact this
end
attribute [local go_sem ↓] Go.wp_at_zero Go.wp_at_succ
theorem u64_in (x:Int) (h:0<=x) (h2:x<18446744073709551616):IntKind.u64.wrap x=x:=by
 rw [Hy];omega
theorem a5K (p q:Part) (w:World) (h1:0<=p.long+q.long) (h2:p.long+q.long<18446744073709551616) (h3:0<=p.runs) (h4:p.runs<=1000000) (h5:0<=q.runs) (h6:q.runs<=1000000) :
 Calls Tryz.prog 306 #[Dx p,Dx q] w λe w'=>e=.returned (Dx (QG p q))/\Bj [] w w':=by
 obtain ⟨pl,pr,pf,pa⟩:=p;obtain ⟨ql,qr,qf,qa⟩:=q;dsimp only at h1 h2 h3 h4 h5 h6;have hw:=u64_in _ h1 h2;unfold Dx QG;dsimp only;by_cases hc:(pa&&qf)=true
 ·rw [if_pos hc];obtain ⟨rfl,rfl⟩:=Bool.and_eq_true_iff.1 hc;clear h1 h2 hc;go_enter Tryz.func306,Tryz.ntmps306
  go_wp2_with fail
  refine bodyPost_ret (v:=.agg #[.int .u64 (pl+ql),.int .i64 (pr+qr - 1),.bool pf,.bool qa]) (by simp [results,Tryz.results306,go_sem]) rfl ⟨rfl,(((Bj.refl _ _).alloc _).alloc _).alloc _⟩
 ·rw [if_neg hc];clear h1 h2;have hc':(pa&&qf)=false:=by simpa using hc
  clear hc
  cases pa
  ·go_enter Tryz.func306,Tryz.ntmps306
   go_wp2_with fail
   refine bodyPost_ret (v:=.agg #[.int .u64 (pl+ql),.int .i64 (pr+qr),.bool pf,.bool qa]) (by simp [results,Tryz.results306,go_sem]) rfl ⟨by simp,(((Bj.refl _ _).alloc _).alloc _).alloc _⟩
  ·obtain rfl:qf=false:=by simpa using hc'
   go_enter Tryz.func306,Tryz.ntmps306
   go_wp2_with fail
   refine bodyPost_ret (v:=.agg #[.int .u64 (pl+ql),.int .i64 (pr+qr),.bool pf,.bool qa]) (by simp [results,Tryz.results306,go_sem]) rfl ⟨by simp,(((Bj.refl _ _).alloc _).alloc _).alloc _⟩
theorem bT {w:World} {n:Nat} {x0 x1 x2 x3:Value} {T:TypeId} (h:w.heap[n]? = some (.cells #[x0,x1,x2,x3] T (0,0))) :
 (w.cell? n=some x0/\w.cell? ⟨n,1,none⟩=some x1/\w.cell? ⟨n,2,none⟩=some x2/\w.cell? ⟨n,3,none⟩=some x3)/\∀j,w.frozen? ⟨n,j,none⟩=false:=by
 refine ⟨⟨?_,?_,?_,?_⟩,?_⟩<;>simp [World.cell?,World.frozen?,h]
theorem lZ (b k:Nat) (mv nv ov pv:Value) (hb:Nat) (M:List Int) (L:List Nd) (O:List Int) (P:List Part) (root en:Int) (w:World) (h:EX w b mv nv ov pv hb M L O P root en)
 (x:Nd) (c:Int) (f t:Nat) (a a2:Int) (hx:L[k]? = some x) (hf:x.fr=f) (ht:x.to=t) (hc:O[k]? = some c) (hc0:0<c) (ha:M[f]? = some a) (ha2:M[t]? = some a2) (hl1 : -9223372036854775808<=a) (hl2:a<=a2) (hl3:a2<=9223372036854775807) :
 Calls Tryz.prog 265 #[.pointer (some b),(k:Int)] w λe w'=>e=.returned (Dx ⟨a2 - a,1,true,true⟩)/\Bj [] w w':=by
 obtain ⟨xk,xl,xr,xf,xt,xa,xi⟩:=x;dsimp only at hf ht;subst hf ht;obtain ⟨c0,-,c2,c3,c4,-,-,-⟩:=h.cells;obtain ⟨gn,Cn,rfl,GL,-⟩:=Ei h.nodes hx;obtain ⟨go,Co,rfl,uX,-⟩:=Ei h.often hc;have hbw:b<w.heap.size:=lt_of_block h.head;have hkl:=(AZ hx).1;have hkl2:=(AZ hc).1;have b0:(0:Int)<=(k:Int):=AY _;have b1:(k:Int)<(L.length:Int):=by omega
 have b1o:(k:Int)<(O.length:Int):=by omega
 have n0:w.cell? ⟨gn,k*7,none⟩=some (.int .u8 xk):=GL 0 _ rfl;have n1:w.cell? ⟨gn,k*7+1,none⟩=some (.int .i64 xl):=GL 1 _ rfl;have n2:w.cell? ⟨gn,k*7+2,none⟩=some (.int .i64 xr):=GL 2 _ rfl;have n3:w.cell? ⟨gn,k*7+3,none⟩=some (.int .i64 (f:Int)):=GL 3 _ rfl;have n4:w.cell? ⟨gn,k*7+4,none⟩=some (.int .i64 (t:Int)):=GL 4 _ rfl;have n5:w.cell? ⟨gn,k*7+5,none⟩=some (.int .i64 xa):=GL 5 _ rfl;have n6:w.cell? ⟨gn,k*7+6,none⟩=some (.int .i64 xi):=GL 6 _ rfl;have hgw:gn<w.heap.size:=World.block_lt_of_cell? w _ n0
 have o0:w.cell? ⟨go,k,none⟩=some (.int .i64 c):=by
  have:=uX 0 _ rfl;simpa [KC] using this
 have hgo:go<w.heap.size:=World.block_lt_of_cell? w _ o0;obtain ⟨gm,Cm,rfl,em1,-⟩:=Ei h.marks ha;obtain ⟨gm',Cm',hmm,em2,-⟩:=Ei h.marks ha2
 cases hmm
 have ma:w.cell? ⟨gm,f,none⟩=some (.int .i64 a):=by
  have:=em1 0 _ rfl;simpa [KL] using this
 have ma2:w.cell? ⟨gm,t,none⟩=some (.int .i64 a2):=by
  have:=em2 0 _ rfl;simpa [KL] using this
 have hgm:gm<w.heap.size:=World.block_lt_of_cell? w _ ma;have hfl:=(AZ ha).1;have htl:=(AZ ha2).1;have f0:(0:Int)<=(f:Int):=AY _;have t0:(0:Int)<=(t:Int):=AY _;have f1:(f:Int)<(M.length:Int):=by omega
 have t1:(t:Int)<(M.length:Int):=by omega
 have hdN:MI a a2=a2 - a:=by unfold MI;split<;>omega
 have hdiff:=λw'=>iL a a2 w' ⟨hl1,by omega⟩ ⟨by omega,hl3⟩
 rw [hdN] at hdiff
 have s0:((w.alloc (.cells #[.int .u64 0,.int .i64 0,.bool false,.bool false] 236)).alloc (.cells #[.int .u8 xk,xl,xr,(f:Int),(t:Int),xa,xi] 339)).cell? b=some (.slice (some ⟨gm,0,none⟩) M.length Cm):=by
  rw [World.cell?_alloc_past _ _ _ (by simp;omega),World.cell?_alloc_past _ _ _ hbw];exact c0
 have sa:((w.alloc (.cells #[.int .u64 0,.int .i64 0,.bool false,.bool false] 236)).alloc (.cells #[.int .u8 xk,xl,xr,(f:Int),(t:Int),xa,xi] 339)).cell? ⟨gm,f,none⟩=some (.int .i64 a):=by
  rw [World.cell?_alloc_past _ _ _ (by simp;omega),World.cell?_alloc_past _ _ _ hgm];exact ma
 have sa2:((w.alloc (.cells #[.int .u64 0,.int .i64 0,.bool false,.bool false] 236)).alloc (.cells #[.int .u8 xk,xl,xr,(f:Int),(t:Int),xa,xi] 339)).cell? ⟨gm,t,none⟩=some (.int .i64 a2):=by
  rw [World.cell?_alloc_past _ _ _ (by simp;omega),World.cell?_alloc_past _ _ _ hgm];exact ma2
 have sn3:((w.alloc (.cells #[.int .u64 0,.int .i64 0,.bool false,.bool false] 236)).alloc (.cells #[.int .u8 xk,xl,xr,(f:Int),(t:Int),xa,xi] 339)).cell? ⟨w.heap.size+1,3,none⟩=some (.int .i64 (f:Int)):=by rw [World.cell?_alloc_at _ _ _ _ (by simp)];rfl
 have sn4:((w.alloc (.cells #[.int .u64 0,.int .i64 0,.bool false,.bool false] 236)).alloc (.cells #[.int .u8 xk,xl,xr,(f:Int),(t:Int),xa,xi] 339)).cell? ⟨w.heap.size+1,4,none⟩=some (.int .i64 (t:Int)):=by rw [World.cell?_alloc_at _ _ _ _ (by simp)];rfl
 have HS:=Aw s0 sn3 sn4 sa sa2;have HD:=AX hdiff;clear h hx hc ha ha2 hl1 hl2 hl3 GL uX em1 em2 hkl hkl2 hfl htl hdN hdiff s0 sn3 sn4 sa sa2 c4;go_enter Tryz.func265,Tryz.ntmps265
 go_upto_region 3 with fail
 refine Bo.start [16,17,18] (λw'=>w'.cell? b=some (.slice (some ⟨gm,0,none⟩) M.length Cm)/\w'.cell? ⟨w.heap.size+1,3,none⟩=some (.int .i64 (f:Int))/\w'.cell? ⟨w.heap.size+1,4,none⟩=some (.int .i64 (t:Int))/\w'.cell? ⟨gm,f,none⟩=some (.int .i64 a)/\w'.cell? ⟨gm,t,none⟩=some (.int .i64 a2)) (by kernel_rfl) ?_ λhS=>?_
 ·exact HS.out
 refine' Bo.mx 0 23 ?_
 refine' Bo.mx 1 24 ?_
 refine' Bo.mx 2 25 ?_
 refine' Bo.ty 4 3 26 ?_
 refine' Bo.mx 4 27 ?_
 refine' Bo.ty 4 5 28 ?_
 refine' Bo.mx 6 29 ?_
 refine' Bo.ty 4 7 30 ?_
 refine' Bo.mx 8 31 ?_
 refine' Bo.mx 9 32 ?_
 refine' Bo.mx 10 33 ?_
 refine' Bo.ty 4 11 34 ?_
 refine' Bo.mx 12 35 ?_
 refine' Bo.ty 4 13 36 ?_
 refine' Bo.mx 14 37 ?_
 refine' Bo.ty 4 15 38 ?_
 refine Bo.one (i:=16) (o:=⟨some 39,_,_,_,_,_⟩) rfl (by kernel_rfl) λK hK=>?_
 go_simp
 go_at_call 98
 go_fit (HD.out _)
 rintro e w' ⟨rfl,rfl⟩;refine hK.out _ _ (λh=>(by cases h)) ?_
 clear hK K;try simp only [Act.put,sA,sZ,sS]
 refine' Bo.mx 17 40 ?_
 refine Bo.one (i:=18) (o:=⟨none,_,_,_,_,_⟩) rfl (by kernel_rfl) λK hK=>?_
 go_simp
 refine hK.out _ _ (λh=>(by cases h)) ?_
 clear hK K;try simp only [Act.put,sA,sZ,sS]
 refine Bo.done (by kernel_rfl) ?_
 go_wp2_with fail
 refine bodyPost_ret (v:=Dx ⟨a2 - a,1,true,true⟩) (by simp [results,Tryz.results265,go_sem,Dx]) rfl ⟨rfl,(((Bj.refl _ _).alloc _).alloc _).drew⟩
theorem bU (b k:Nat) (mv nv ov pv:Value) (hb:Nat) (M:List Int) (L:List Nd) (O:List Int) (P:List Part) (root en:Int) (w:World) (h:EX w b mv nv ov pv hb M L O P root en)
 (x:Nd) (c:Int) (hx:L[k]? = some x) (hk:x.k=1) (hc:O[k]? = some c) (hc0:¬0<c) :
 Calls Tryz.prog 265 #[.pointer (some b),(k:Int)] w λe w'=>e=.returned (Dx ⟨0,0,false,false⟩)/\Bj [] w w':=by
 obtain ⟨xk,xl,xr,xf,xt,xa,xi⟩:=x;dsimp only at hk;subst hk;obtain ⟨c0,-,c2,c3,c4,-,-,-⟩:=h.cells;obtain ⟨gn,Cn,rfl,GL,-⟩:=Ei h.nodes hx;obtain ⟨go,Co,rfl,uX,-⟩:=Ei h.often hc;have hbw:b<w.heap.size:=lt_of_block h.head;have hkl:=(AZ hx).1;have hkl2:=(AZ hc).1;have b0:(0:Int)<=(k:Int):=AY _;have b1:(k:Int)<(L.length:Int):=by omega
 have b1o:(k:Int)<(O.length:Int):=by omega
 have n0:w.cell? ⟨gn,k*7,none⟩=some (.int .u8 1):=GL 0 _ rfl;have n1:w.cell? ⟨gn,k*7+1,none⟩=some (.int .i64 xl):=GL 1 _ rfl;have n2:w.cell? ⟨gn,k*7+2,none⟩=some (.int .i64 xr):=GL 2 _ rfl;have n3:w.cell? ⟨gn,k*7+3,none⟩=some (.int .i64 xf):=GL 3 _ rfl;have n4:w.cell? ⟨gn,k*7+4,none⟩=some (.int .i64 xt):=GL 4 _ rfl;have n5:w.cell? ⟨gn,k*7+5,none⟩=some (.int .i64 xa):=GL 5 _ rfl;have n6:w.cell? ⟨gn,k*7+6,none⟩=some (.int .i64 xi):=GL 6 _ rfl;have hgw:gn<w.heap.size:=World.block_lt_of_cell? w _ n0
 have o0:w.cell? ⟨go,k,none⟩=some (.int .i64 c):=by
  have:=uX 0 _ rfl;simpa [KC] using this
 have hgo:go<w.heap.size:=World.block_lt_of_cell? w _ o0;have hcd:decide (0<c)=false:=decide_eq_false hc0;clear h hx hc hc0 GL uX hkl hkl2 c4 c0;go_enter Tryz.func265,Tryz.ntmps265
 go_wp2_with fail
 refine bodyPost_ret (v:=Dx ⟨0,0,false,false⟩) (by simp [results,Tryz.results265,go_sem,Dx]) rfl ⟨rfl,((Bj.refl _ _).alloc _).alloc _⟩
theorem bV (b k:Nat) (mv nv ov pv:Value) (hb:Nat) (M:List Int) (L:List Nd) (O:List Int) (P:List Part) (root en:Int) (w:World) (h:EX w b mv nv ov pv hb M L O P root en)
 (x:Nd) (c:Int) (l r:Nat) (p q:Part) (hx:L[k]? = some x) (hk:x.k=2) (hl:x.l=l) (hr:x.r=r) (hc:O[k]? = some c) (hc0:¬0<c) (hp:P[l]? = some p) (hq:P[r]? = some q) (h1:0<=p.long+q.long) (h2:p.long+q.long<18446744073709551616) (h3:0<=p.runs) (h4:p.runs<=1000000) (h5:0<=q.runs) (h6:q.runs<=1000000) :
 Calls Tryz.prog 265 #[.pointer (some b),(k:Int)] w λe w'=>e=.returned (Dx (QG p q))/\Bj [] w w':=by
 obtain ⟨xk,xl,xr,xf,xt,xa,xi⟩:=x;dsimp only at hk hl hr;subst hk hl hr;obtain ⟨c0,-,c2,c3,c4,-,-,-⟩:=h.cells;obtain ⟨gn,Cn,rfl,GL,-⟩:=Ei h.nodes hx;obtain ⟨go,Co,rfl,uX,-⟩:=Ei h.often hc;have hbw:b<w.heap.size:=lt_of_block h.head;have hkl:=(AZ hx).1;have hkl2:=(AZ hc).1;have b0:(0:Int)<=(k:Int):=AY _;have b1:(k:Int)<(L.length:Int):=by omega
 have b1o:(k:Int)<(O.length:Int):=by omega
 have n0:w.cell? ⟨gn,k*7,none⟩=some (.int .u8 2):=GL 0 _ rfl;have n1:w.cell? ⟨gn,k*7+1,none⟩=some (.int .i64 (l:Int)):=GL 1 _ rfl;have n2:w.cell? ⟨gn,k*7+2,none⟩=some (.int .i64 (r:Int)):=GL 2 _ rfl;have n3:w.cell? ⟨gn,k*7+3,none⟩=some (.int .i64 xf):=GL 3 _ rfl;have n4:w.cell? ⟨gn,k*7+4,none⟩=some (.int .i64 xt):=GL 4 _ rfl;have n5:w.cell? ⟨gn,k*7+5,none⟩=some (.int .i64 xa):=GL 5 _ rfl;have n6:w.cell? ⟨gn,k*7+6,none⟩=some (.int .i64 xi):=GL 6 _ rfl;have hgw:gn<w.heap.size:=World.block_lt_of_cell? w _ n0
 have o0:w.cell? ⟨go,k,none⟩=some (.int .i64 c):=by
  have:=uX 0 _ rfl;simpa [KC] using this
 have hgo:go<w.heap.size:=World.block_lt_of_cell? w _ o0;have hmf:∀(fn:Fn) (first cap:Array Value) (w:World),(Instr.makeFunc fn first cap).run Tryz.prog w=.ok (.func fn first cap) w:=λ_ _ _ _=>rfl
 have hcd:decide (0<c)=false:=decide_eq_false hc0;obtain ⟨gp,Cp,rfl,ep1,-⟩:=Ei h.parts hp;obtain ⟨gp',Cp',hpp,ep2,-⟩:=Ei h.parts hq
 cases hpp
 have ht:=λw'=>a5K p q w' h1 h2 h3 h4 h5 h6
 have hll:=(AZ hp).1;have hrl:=(AZ hq).1;obtain ⟨T0,hT⟩:=AU (QG p q);rw [hT] at ht |-;obtain ⟨pl,pr,pf,pa⟩:=p;obtain ⟨ql,qr,qf,qa⟩:=q;obtain ⟨tl,tr,tf,ta⟩:=T0;unfold Dx at ht |-;dsimp only at ht |-;have l0:(0:Int)<=(l:Int):=AY _;have r0:(0:Int)<=(r:Int):=AY _;have l1:(l:Int)<(P.length:Int):=by omega
 have r1:(r:Int)<(P.length:Int):=by omega
 have p0:w.cell? ⟨gp,l*4,none⟩=some (.int .u64 pl):=ep1 0 _ rfl;have p1:w.cell? ⟨gp,l*4+1,none⟩=some (.int .i64 pr):=ep1 1 _ rfl;have p2:w.cell? ⟨gp,l*4+2,none⟩=some (.bool pf):=ep1 2 _ rfl;have p3:w.cell? ⟨gp,l*4+3,none⟩=some (.bool pa):=ep1 3 _ rfl;have q0:w.cell? ⟨gp,r*4,none⟩=some (.int .u64 ql):=ep2 0 _ rfl;have q1:w.cell? ⟨gp,r*4+1,none⟩=some (.int .i64 qr):=ep2 1 _ rfl;have q2:w.cell? ⟨gp,r*4+2,none⟩=some (.bool qf):=ep2 2 _ rfl;have q3:w.cell? ⟨gp,r*4+3,none⟩=some (.bool qa):=ep2 3 _ rfl;have aN:gp<w.heap.size:=World.block_lt_of_cell? w _ p0
 have s4:((w.alloc (.cells #[.int .u64 0,.int .i64 0,.bool false,.bool false] 236)).alloc (.cells #[.int .u8 2,(l:Int),(r:Int),xf,xt,xa,xi] 339)).cell? ⟨b,4,none⟩=some (.slice (some ⟨gp,0,none⟩) P.length Cp):=by
  rw [World.cell?_alloc_past _ _ _ (by simp;omega),World.cell?_alloc_past _ _ _ hbw];exact c4
 have sn1:((w.alloc (.cells #[.int .u64 0,.int .i64 0,.bool false,.bool false] 236)).alloc (.cells #[.int .u8 2,(l:Int),(r:Int),xf,xt,xa,xi] 339)).cell? ⟨w.heap.size+1,1,none⟩=some (.int .i64 (l:Int)):=by rw [World.cell?_alloc_at _ _ _ _ (by simp)];rfl
 have sn2:((w.alloc (.cells #[.int .u64 0,.int .i64 0,.bool false,.bool false] 236)).alloc (.cells #[.int .u8 2,(l:Int),(r:Int),xf,xt,xa,xi] 339)).cell? ⟨w.heap.size+1,2,none⟩=some (.int .i64 (r:Int)):=by rw [World.cell?_alloc_at _ _ _ _ (by simp)];rfl
 have sp0:((w.alloc (.cells #[.int .u64 0,.int .i64 0,.bool false,.bool false] 236)).alloc (.cells #[.int .u8 2,(l:Int),(r:Int),xf,xt,xa,xi] 339)).cell? ⟨gp,l*4,none⟩=some (.int .u64 pl):=by
  rw [World.cell?_alloc_past _ _ _ (by simp;omega),World.cell?_alloc_past _ _ _ aN];exact p0
 have sp1:((w.alloc (.cells #[.int .u64 0,.int .i64 0,.bool false,.bool false] 236)).alloc (.cells #[.int .u8 2,(l:Int),(r:Int),xf,xt,xa,xi] 339)).cell? ⟨gp,l*4+1,none⟩=some (.int .i64 pr):=by
  rw [World.cell?_alloc_past _ _ _ (by simp;omega),World.cell?_alloc_past _ _ _ aN];exact p1
 have sp2:((w.alloc (.cells #[.int .u64 0,.int .i64 0,.bool false,.bool false] 236)).alloc (.cells #[.int .u8 2,(l:Int),(r:Int),xf,xt,xa,xi] 339)).cell? ⟨gp,l*4+2,none⟩=some (.bool pf):=by
  rw [World.cell?_alloc_past _ _ _ (by simp;omega),World.cell?_alloc_past _ _ _ aN];exact p2
 have sp3:((w.alloc (.cells #[.int .u64 0,.int .i64 0,.bool false,.bool false] 236)).alloc (.cells #[.int .u8 2,(l:Int),(r:Int),xf,xt,xa,xi] 339)).cell? ⟨gp,l*4+3,none⟩=some (.bool pa):=by
  rw [World.cell?_alloc_past _ _ _ (by simp;omega),World.cell?_alloc_past _ _ _ aN];exact p3
 have sq0:((w.alloc (.cells #[.int .u64 0,.int .i64 0,.bool false,.bool false] 236)).alloc (.cells #[.int .u8 2,(l:Int),(r:Int),xf,xt,xa,xi] 339)).cell? ⟨gp,r*4,none⟩=some (.int .u64 ql):=by
  rw [World.cell?_alloc_past _ _ _ (by simp;omega),World.cell?_alloc_past _ _ _ aN];exact q0
 have sq1:((w.alloc (.cells #[.int .u64 0,.int .i64 0,.bool false,.bool false] 236)).alloc (.cells #[.int .u8 2,(l:Int),(r:Int),xf,xt,xa,xi] 339)).cell? ⟨gp,r*4+1,none⟩=some (.int .i64 qr):=by
  rw [World.cell?_alloc_past _ _ _ (by simp;omega),World.cell?_alloc_past _ _ _ aN];exact q1
 have sq2:((w.alloc (.cells #[.int .u64 0,.int .i64 0,.bool false,.bool false] 236)).alloc (.cells #[.int .u8 2,(l:Int),(r:Int),xf,xt,xa,xi] 339)).cell? ⟨gp,r*4+2,none⟩=some (.bool qf):=by
  rw [World.cell?_alloc_past _ _ _ (by simp;omega),World.cell?_alloc_past _ _ _ aN];exact q2
 have sq3:((w.alloc (.cells #[.int .u64 0,.int .i64 0,.bool false,.bool false] 236)).alloc (.cells #[.int .u8 2,(l:Int),(r:Int),xf,xt,xa,xi] 339)).cell? ⟨gp,r*4+3,none⟩=some (.bool qa):=by
  rw [World.cell?_alloc_past _ _ _ (by simp;omega),World.cell?_alloc_past _ _ _ aN];exact q3
 have tX:=Az s4 sn1 sp0 sp1 sp2 sp3;have HS7:=Az s4 sn2 sq0 sq1 sq2 sq3;have HT:=AX ht
 have hW:((w.alloc (.cells #[.int .u64 0,.int .i64 0,.bool false,.bool false] 236)).alloc (.cells #[.int .u8 2,(l:Int),(r:Int),xf,xt,xa,xi] 339)).heap[w.heap.size]? = some (.cells #[.int .u64 0,.int .i64 0,.bool false,.bool false] 236 (0,0)):=by
  rw [Below.heap_alloc _ _ _ (by simp)];exact heap_alloc_new w _
 have HW:=AX hW;have pG:=AX (show Bj [] w (((w.alloc (.cells #[.int .u64 0,.int .i64 0,.bool false,.bool false] 236)).alloc (.cells #[.int .u8 2,(l:Int),(r:Int),xf,xt,xa,xi] 339)).drew.drew) from ((((Bj.refl [] w).alloc _).alloc _).drew).drew);clear hW h hx hc hc0 hp hq h1 h2 h3 h4 h5 h6 GL uX ep1 ep2 hkl hkl2 hll hrl hT ht c0 p0 p1 p2 p3 q0 q1 q2 q3 s4 sn1 sn2 sp0 sp1 sp2 sp3 sq0 sq1 sq2 sq3 c4;go_enter Tryz.func265,Tryz.ntmps265
 go_upto_region 6 with fail
 refine Bo.start [8,9] (λw'=>w'.cell? ⟨b,4,none⟩=some (.slice (some ⟨gp,0,none⟩) P.length Cp)/\w'.cell? ⟨w.heap.size+1,1,none⟩=some (.int .i64 (l:Int))/\w'.cell? ⟨gp,l*4,none⟩=some (.int .u64 pl)/\w'.cell? ⟨gp,l*4+1,none⟩=some (.int .i64 pr)/\w'.cell? ⟨gp,l*4+2,none⟩=some (.bool pf)/\w'.cell? ⟨gp,l*4+3,none⟩=some (.bool pa)) (by kernel_rfl) ?_ λhS=>?_
 ·exact tX.out
 refine' Bo.mx 0 46 ?_
 refine' Bo.mx 1 47 ?_
 refine' Bo.mx 2 48 ?_
 refine' Bo.ty 3 3 49 ?_
 refine' Bo.mx 4 50 ?_
 refine' Bo.ty 3 5 51 ?_
 refine' Bo.mx 6 52 ?_
 refine' Bo.ty 3 7 53 ?_
 refine' Bo.mx 8 54 ?_
 refine' Bo.mx 9 6 ?_
 refine Bo.done (by kernel_rfl) ?_
 go_upto_region 7 with fail
 refine Bo.start [9,10] (λw'=>w'.cell? ⟨b,4,none⟩=some (.slice (some ⟨gp,0,none⟩) P.length Cp)/\w'.cell? ⟨w.heap.size+1,2,none⟩=some (.int .i64 (r:Int))/\w'.cell? ⟨gp,r*4,none⟩=some (.int .u64 ql)/\w'.cell? ⟨gp,r*4+1,none⟩=some (.int .i64 qr)/\w'.cell? ⟨gp,r*4+2,none⟩=some (.bool qf)/\w'.cell? ⟨gp,r*4+3,none⟩=some (.bool qa)) (by kernel_rfl) ?_ λhS=>?_
 ·exact HS7.out
 refine' Bo.mx 0 55 ?_
 refine' Bo.mx 1 56 ?_
 refine' Bo.mx 2 57 ?_
 refine' Bo.mx 3 58 ?_
 refine' Bo.ty 3 4 59 ?_
 refine' Bo.mx 5 60 ?_
 refine' Bo.ty 3 6 61 ?_
 refine' Bo.mx 7 62 ?_
 refine' Bo.ty 3 8 63 ?_
 refine Bo.one (i:=9) (o:=⟨some 64,_,_,_,_,_⟩) rfl (by kernel_rfl) λK hK=>?_
 go_simp
 go_at_call 306
 go_fit (HT.out _)
 rintro e w2 ⟨rfl,hu2⟩;have hh2:=(hu2.block w.heap.size (by simp;omega) (by simp)).trans HW.out;obtain ⟨⟨e0,e1,e2,e3⟩,ef⟩:=bT hh2;have ef0:=ef 0;have ef1:=ef 1;have ef2:=ef 2;have ef3:=ef 3;have hu:Bj [] w w2:=pG.out.trans hu2;have HU:=AX hu;clear hu2 hh2 ef hu;refine hK.out _ _ (λh=>(by cases h)) ?_
 clear hK K;try simp only [Act.put,sA,sZ,sS]
 refine Bo.one (i:=10) (o:=⟨none,_,_,_,_,_⟩) rfl (by kernel_rfl) λK hK=>?_
 go_simp
 refine hK.out _ _ (λh=>(by cases h)) ?_
 clear hK K;try simp only [Act.put,sA,sZ,sS]
 refine Bo.done (by kernel_rfl) ?_
 go_wp2_with fail
 refine bodyPost_ret (v:=.agg #[.int .u64 tl,tr,.bool tf,.bool ta]) (by simp [results,Tryz.results265,go_sem,e0,e1,e2,e3]) rfl ⟨rfl,?_⟩
 exact (((HU.out.setCell (.inr (Nat.le_refl _)) _).setCell (.inr (Nat.le_refl _)) _).setCell (.inr (Nat.le_refl _)) _).setCell (.inr (Nat.le_refl _)) _
