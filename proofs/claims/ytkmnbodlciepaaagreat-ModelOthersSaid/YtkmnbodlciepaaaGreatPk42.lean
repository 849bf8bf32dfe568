/- A cover's change, plainly: the lists of the nodes' counts and parts. cover.change: a span's gaps are covered once more, or less. cover.change, as a whole: the lists of the nodes over some leaves become those of the changed counts. -/
import Derived.Test.YtkmnbodlciepaaaGreatPk8
import Derived.Test.YtkmnbodlciepaaaGreatPk40
import Derived.Test.YtkmnbodlciepaaaGreatPk41
set_option maxHeartbeats 4000000
set_option maxRecDepth 100000
namespace Go.Proofs.YtkmnbodlciepaaaGreat
section
variable {α:Type}
theorem get_mid (A B C:List α) (x:α) {k:Nat} (hk:k=A.length+B.length):(A++((B++[x])++C))[k]? = some x:=by
 subst hk
 rw [List.getElem?_append_right (by omega),List.getElem?_append_left (by simp),List.getElem?_append_right (by omega)]
 simp
theorem set_mid (A B C:List α) (x y:α) {k:Nat} (hk:k=A.length+B.length):(A++((B++[x])++C)).set k y=A++((B++[y])++C):=by
 subst hk
 rw [List.set_append_right _ _ (by omega),List.set_append_left _ _ (by simp),List.set_append_right _ _ (by omega)]
 simp
end
def oL (c:Cnt) (f t pf pt:Nat):List Int:=postL (fun f t pf pt _=>c f t pf pt) f t pf pt 0
def pL (c:Cnt) (M:Nat→Int) (f t pf pt:Nat):List Part:=postL (fun f t pf pt _=>partV c M f t pf pt) f t pf pt 0
theorem postL_off {α:Type} (g:Nat→Nat→Nat→Nat→α):∀(d f t pf pt o o':Nat),t - f≤d→f<t→postL (fun a b c d _=>g a b c d) f t pf pt o=postL (fun a b c d _=>g a b c d) f t pf pt o':=by
 intro d
 induction d with
 |zero=>intro f t pf pt o o' h1 h2;omega
 |succ d ih=>
  intro f t pf pt o o' h1 h2
  by_cases h:f+1<t
  ·have:=mid_in h
   rw [postL_node _ pf pt o h,postL_node _ pf pt o' h,ih f (mid f t) f t o o' (by omega) (by omega),ih (mid f t) t f t _ (o'+2*(mid f t - f) - 1) (by omega) (by omega)]
  ·rw [postL_leaf _ pf pt o h,postL_leaf _ pf pt o' h]
theorem oL_len (c:Cnt) {f t:Nat} (pf pt:Nat) (h:f<t):(oL c f t pf pt).length=2*(t - f) - 1:=postL_length _ pf pt 0 h
theorem pL_len (c:Cnt) (M:Nat→Int) {f t:Nat} (pf pt:Nat) (h:f<t):(pL c M f t pf pt).length=2*(t - f) - 1:=postL_length _ pf pt 0 h
theorem oL_node (c:Cnt) {f t:Nat} (pf pt:Nat) (h:f+1<t):oL c f t pf pt=oL c f (mid f t) f t++(oL c (mid f t) t f t++[c f t pf pt]):=by
 have:=mid_in h
 unfold oL
 rw [postL_node _ pf pt 0 h,postL_off (fun f t pf pt=>c f t pf pt) (t - f) (mid f t) t f t _ 0 (by omega) (by omega)]
theorem pL_node (c:Cnt) (M:Nat→Int) {f t:Nat} (pf pt:Nat) (h:f+1<t):pL c M f t pf pt=pL c M f (mid f t) f t++(pL c M (mid f t) t f t++[partV c M f t pf pt]):=by
 have:=mid_in h
 unfold pL
 rw [postL_node _ pf pt 0 h,postL_off (fun f t pf pt=>partV c M f t pf pt) (t - f) (mid f t) t f t _ 0 (by omega) (by omega)]
def oK (c:Cnt) (f t:Nat):List Int:=if f+1<t then oL c f (mid f t) f t++oL c (mid f t) t f t else []
def pK (c:Cnt) (M:Nat→Int) (f t:Nat):List Part:=if f+1<t then pL c M f (mid f t) f t++pL c M (mid f t) t f t else []
theorem oL_kids (c:Cnt) {f t:Nat} (pf pt:Nat):oL c f t pf pt=oK c f t++[c f t pf pt]:=by
 unfold oK
 by_cases h:f+1<t
 ·rw [oL_node c pf pt h,if_pos h,List.append_assoc]
 ·rw [if_neg h];unfold oL;rw [postL_leaf _ pf pt 0 h];rfl
theorem pL_kids (c:Cnt) (M:Nat→Int) {f t:Nat} (pf pt:Nat):pL c M f t pf pt=pK c M f t++[partV c M f t pf pt]:=by
 unfold pK
 by_cases h:f+1<t
 ·rw [pL_node c M pf pt h,if_pos h,List.append_assoc]
 ·rw [if_neg h];unfold pL;rw [postL_leaf _ pf pt 0 h];rfl
theorem oK_len (c:Cnt) {f t:Nat} (h:f<t):(oK c f t).length=2*(t - f) - 2:=by
 have h1:=oL_len c 0 0 h
 rw [oL_kids,List.length_append,List.length_singleton] at h1
 omega
theorem pK_len (c:Cnt) (M:Nat→Int) {f t:Nat} (h:f<t):(pK c M f t).length=2*(t - f) - 2:=by
 have h1:=pL_len c M 0 0 h
 rw [pL_kids,List.length_append,List.length_singleton] at h1
 omega
theorem pK_left (c:Cnt) (M:Nat→Int) {f t:Nat} (h:f+1<t) (A C:List Part) {k:Nat} (hk:k=A.length+(2*(mid f t - f) - 2)):(A++(pK c M f t++C))[k]? = some (partV c M f (mid f t) f t):=by
 have hm:=mid_in h
 unfold pK
 rw [if_pos h,pL_kids c M f t (f:=f) (t:=mid f t),List.append_assoc]
 exact get_mid _ _ _ _ (by rw [hk,pK_len c M hm.1])
theorem pK_right (c:Cnt) (M:Nat→Int) {f t:Nat} (h:f+1<t) (A C:List Part) {k:Nat} (hk:k=A.length+(2*(t - f) - 3)):(A++(pK c M f t++C))[k]? = some (partV c M (mid f t) t f t):=by
 have hm:=mid_in h
 unfold pK
 rw [if_pos h,pL_kids c M f t (f:=mid f t) (t:=t),List.append_assoc,←List.append_assoc A]
 refine get_mid _ _ _ _ ?_
 rw [hk,List.length_append,pL_len c M f t hm.1,pK_len c M hm.2]
 omega
def Step (c c':Cnt) (s:Nat×Nat) (by_:Int):Prop:=∀f t pf pt,c' f t pf pt=c f t pf pt+by_*can s f t pf pt
theorem oL_same {c c':Cnt} {f t pf pt:Nat} (hf:f<t) (h:SameOn c c' f t pf pt):oL c f t pf pt=oL c' f t pf pt:=
 postL_congr _ _ (t - f) f t pf pt 0 (Nat.le_refl _) hf (fun _=>h.1) (fun f' t' pf' pt' _ a1 a2 a3 a4 a5=>h.2 f' t' pf' pt' a1 a2 a3 a4 a5)
theorem SameOn.sub {c c':Cnt} {f t pf pt:Nat} (h:SameOn c c' f t pf pt) {f' t' pf' pt':Nat} (a1:f≤f') (a2:f'<t') (a3:t'≤t) (a4:f≤pf') (a5:pt'≤t):SameOn c c' f' t' pf' pt':=
 ⟨h.2 _ _ _ _ a1 a2 a3 a4 a5,fun _ _ _ _ b1 b2 b3 b4 b5=>h.2 _ _ _ _ (by omega) b2 (by omega) (by omega) (by omega)⟩
theorem pL_same {c c':Cnt} {M:Nat→Int} {f t pf pt:Nat} (hf:f<t) (h:SameOn c c' f t pf pt):pL c M f t pf pt=pL c' M f t pf pt:=
 postL_congr _ _ (t - f) f t pf pt 0 (Nat.le_refl _) hf (fun _=>partV_same (t - f) f t pf pt (Nat.le_refl _) h) (fun f' t' pf' pt' _ a1 a2 a3 a4 a5=>partV_same (t' - f') f' t' pf' pt' (Nat.le_refl _) (h.sub a1 a2 a3 a4 a5))
theorem Step.out {c c':Cnt} {s:Nat×Nat} {y:Int} (h:Step c c' s y) {f t:Nat} (pf pt:Nat) (hf:f<t) (ho:t≤s.1∨s.2≤f):SameOn c c' f t pf pt:=by
 refine ⟨?_,fun f' t' pf' pt' a1 a2 a3 _ _=>?_⟩
 ·rw [h,can_out ho (Nat.le_refl _) hf (Nat.le_refl _)];omega
 ·rw [h,can_out ho a1 a2 a3];omega
theorem Step.below {c c':Cnt} {s:Nat×Nat} {y:Int} (h:Step c c' s y) {f t:Nat} (hs:s.1≤f∧t≤s.2) {f' t' pf' pt':Nat} (h1:f≤pf') (h2:pt'≤t):c f' t' pf' pt'=c' f' t' pf' pt':=by
 rw [h,can_below hs h1 h2];omega
theorem Step.kids {c c':Cnt} {s:Nat×Nat} {y:Int} (h:Step c c' s y) {f t:Nat} (M:Nat→Int) (hs:s.1≤f∧t≤s.2):oK c f t=oK c' f t∧pK c M f t=pK c' M f t:=by
 unfold oK pK
 by_cases h1:f+1<t
 ·have hm:=mid_in h1
  have s1:SameOn c c' f (mid f t) f t:=⟨h.below hs (by omega) (by omega),fun _ _ _ _ a1 a2 a3 a4 a5=>h.below hs (by omega) (by omega)⟩
  have s2:SameOn c c' (mid f t) t f t:=⟨h.below hs (by omega) (by omega),fun _ _ _ _ a1 a2 a3 a4 a5=>h.below hs (by omega) (by omega)⟩
  rw [if_pos h1,if_pos h1,if_pos h1,if_pos h1,oL_same hm.1 s1,oL_same hm.2 s2,pL_same hm.1 s1,pL_same hm.2 s2]
  exact ⟨rfl,rfl⟩
 ·rw [if_neg h1,if_neg h1,if_neg h1,if_neg h1]
  exact ⟨rfl,rfl⟩
theorem longG_le (M:Nat→Int) (G:List Bool):∀f,(∀i,f≤i→i<f+G.length→M i≤M (i+1))→0≤longG M f G∧longG M f G≤M (f+G.length) - M f:=by
 induction G with
 |nil=>intro f _;simp [longG]
 |cons b G ih=>
  intro f h
  have h0:=h f (Nat.le_refl _) (by simp)
  obtain ⟨i1,i2⟩:=ih (f+1) (fun i a b=>h i (by omega) (by simp only [List.length_cons];omega))
  rw [List.length_cons,show f+(G.length+1)=f+1+G.length by omega,longG]
  cases b<;>simp<;>omega
theorem runsG_le (G:List Bool):∀p,runsG p G≤G.length:=by
 induction G with
 |nil=>intro p;simp [runsG]
 |cons b G ih=>
  intro p
  have:=ih b
  rw [runsG,List.length_cons]
  split<;>omega
theorem partV_bounds {c:Cnt} {M:Nat→Int} {f t:Nat} (pf pt:Nat) (hf:f<t) (hM:∀i,f≤i→i<t→M i≤M (i+1)) :
 0≤(partV c M f t pf pt).long∧(partV c M f t pf pt).long≤M t - M f∧0≤(partV c M f t pf pt).runs∧(partV c M f t pf pt).runs≤((t - f:Nat):Int):=by
 have hl:=gapsL_length (c:=c) pf pt hf
 rw [partV_gaps (t - f) f t pf pt (Nat.le_refl _) hf]
 have h1:=longG_le M (gapsL c f t pf pt) f (fun i a b=>hM i a (by omega))
 have h2:=runsG_le (gapsL c f t pf pt) false
 rw [hl] at h1 h2
 rw [show f+(t - f)=t by omega] at h1
 refine ⟨h1.1,h1.2,?_,?_⟩
 ·exact Int.natCast_nonneg _
 ·show ((runsG false (gapsL c f t pf pt):Nat):Int)≤_
  omega
open Go.RowKit
attribute [local go_sem ↓] Go.wp_at_zero Go.wp_at_succ
structure MarksOk (M:List Int):Prop where
 rise:M.Pairwise (· < ·)
 wf:∀x∈M,-9223372036854775808≤x∧x≤9223372036854775807
 len:M.length<400000
def mf (M:List Int) (i:Nat):Int:=M[i]?.getD 0
theorem mf_get {M:List Int} {i:Nat} (h:i<M.length):M[i]? = some (mf M i):=by
 unfold mf
 rw [List.getElem?_eq_getElem h];rfl
theorem MarksOk.lt {M:List Int} (h:MarksOk M) {i j:Nat} (hij:i<j) (hj:j<M.length):mf M i<mf M j:=by
 have h1:=mf_get (M:=M) (i:=i) (by omega)
 have h2:=mf_get (M:=M) hj
 obtain ⟨l1,e1⟩:=List.getElem?_eq_some_iff.1 h1
 obtain ⟨l2,e2⟩:=List.getElem?_eq_some_iff.1 h2
 have:=List.pairwise_iff_getElem.1 h.rise i j l1 l2 hij
 rw [e1,e2] at this
 exact this
theorem MarksOk.in64 {M:List Int} (h:MarksOk M) {i:Nat} (hi:i<M.length) : -9223372036854775808≤mf M i∧mf M i≤9223372036854775807:=
 h.wf _ (List.mem_of_getElem? (mf_get hi))
theorem MarksOk.mono {M:List Int} (h:MarksOk M) {t:Nat} (ht:t<M.length):∀i,i<t→mf M i≤mf M (i+1):=fun i hi=>Int.le_of_lt (h.lt (Nat.lt_succ_self i) (by omega))
def KnownPost (p:Part) (w:World) (e:Ending) (w':World):Prop:=e=.returned (partVal p)∧Upd [] w w'
theorem knownC (b f t pf pt o:Nat) (mv nv ov pv:Value) (hb:Nat) (M:List Int) (L:List Nd) (O:List Int) (P:List Part) (root en:Int) (w:World) (c:Cnt) (h:CovM w b mv nv ov pv hb M L O P root en) (hM:MarksOk M) (hf:f<t) (ht:t<M.length)
 (hL:L[o+2*(t - f) - 2]? = some (ndG f t (o+2*(t - f) - 2))) (hO:O[o+2*(t - f) - 2]? = some (c f t pf pt))
 (hP:f+1<t→P[o+2*(mid f t - f) - 2]? = some (partV c (mf M) f (mid f t) f t)∧P[o+2*(t - f) - 3]? = some (partV c (mf M) (mid f t) t f t)) :
 Calls Tryz.prog 161 #[.pointer (some ⟨b,0,none⟩),.int .i64 ((o+2*(t - f) - 2:Nat):Int)] w (KnownPost (partV c (mf M) f t pf pt) w):=by
 have hlf:=hM.lt hf ht
 by_cases h0:0<c f t pf pt
 ·rw [partV_pos h0]
  refine known_pos b _ mv nv ov pv hb M L O P root en w h _ _ f t (mf M f) (mf M t) hL ?_ ?_ hO h0 (mf_get (by omega)) (mf_get ht) (hM.in64 (by omega)).1 (Int.le_of_lt hlf) (hM.in64 ht).2
  ·unfold ndG;split<;>rfl
  ·unfold ndG;split<;>rfl
 ·by_cases h1:f+1<t
  ·have hm:=mid_in h1
   rw [partV_node h0 h1]
   obtain ⟨hp,hq⟩:=hP h1
   have b1:=partV_bounds (c:=c) (M:=mf M) (f:=f) (t:=mid f t) f t hm.1 (fun i _ hi=>hM.mono ht i (by omega))
   have b2:=partV_bounds (c:=c) (M:=mf M) (f:=mid f t) (t:=t) f t hm.2 (fun i _ hi=>hM.mono ht i (by omega))
   have e1:=(hM.in64 (i:=f) (by omega)).1
   have e2:=(hM.in64 ht).2
   have e3:=hM.len
   have hx:ndG f t (o+2*(t - f) - 2)=⟨2,((o+2*(mid f t - f) - 2:Nat):Int),((o+2*(t - f) - 3:Nat):Int),f,t,0,0⟩:=by
    unfold ndG
    rw [if_pos h1]
    have e:o+2*(t - f) - 2 - 2*(t - mid f t)=o+2*(mid f t - f) - 2:=by omega
    have e':o+2*(t - f) - 2 - 1=o+2*(t - f) - 3:=by omega
    rw [e,e']
   rw [hx] at hL
   exact known_node b _ mv nv ov pv hb M L O P root en w h _ _ _ _ _ _ hL rfl rfl rfl hO h0 hp hq (by omega) (by omega) (by omega) (by omega) (by omega) (by omega)
  ·rw [partV_leaf h0 h1]
   refine known_leaf b _ mv nv ov pv hb M L O P root en w h _ _ hL ?_ hO h0
   unfold ndG;rw [if_neg h1]
def ChPost (w:World) (b:Nat) (mv nv ov pv:Value) (hb:Nat) (M:List Int) (L:List Nd) (O:List Int) (P:List Part) (root en:Int) (e:Ending) (w':World):Prop:=
 e=.returned (.tuple #[])∧CovM w' b mv nv ov pv hb M L O P root en∧Upd (covF b ov pv) w w'
theorem change_out (b f t k:Nat) (mv nv ov pv:Value) (hb:Nat) (M:List Int) (L:List Nd) (O:List Int) (P:List Part) (root en:Int) (w:World) (s1 s2:Nat) (y:Int) (h:CovM w b mv nv ov pv hb M L O P root en)
 (he0:0≤en) (he1:en<100000000) (x:Nd) (hx:L[k]? = some x) (hxf:x.fr=f) (hxt:x.to=t) (hs:t≤s1∨s2≤f) :
 Calls Tryz.prog 137 #[.pointer (some ⟨b,0,none⟩),.int .i64 (k:Int),.agg #[.int .i64 (s1:Int),.int .i64 (s2:Int)],.int .i64 y] w (ChPost w b mv nv ov pv hb M L O P root (en+1)):=by
 obtain ⟨xk,xl,xr,xf,xt,xa,xi⟩:=x
 dsimp only at hxf hxt
 subst hxf hxt
 obtain ⟨-,-,-,-,-,-,c6,cf⟩:=h.cells
 have f6:=cf 6
 have hbw:b<w.heap.size:=lt_of_block h.head
 have hsz:(w.setCell ⟨b,6,none⟩ (.int .i64 (en+1))).heap.size=w.heap.size:=by simp [World.setCell]
 have h1:=(h.enter (en+1)).upd0 ((Upd.refl [] _).alloc (.cells #[.int .i64 (s1:Int),.int .i64 (s2:Int)] 152))
 have hu1:Upd (covF b ov pv) w ((w.setCell ⟨b,6,none⟩ (.int .i64 (en+1))).alloc (.cells #[.int .i64 (s1:Int),.int .i64 (s2:Int)] 152)):=((Upd.refl _ w).setCell (.inl (by simp [covF])) _).alloc _
 have x0:((w.setCell ⟨b,6,none⟩ (.int .i64 (en+1))).alloc (.cells #[.int .i64 (s1:Int),.int .i64 (s2:Int)] 152)).cell? ⟨w.heap.size,0,none⟩=some (.int .i64 (s1:Int)):=by rw [World.cell?_alloc_at _ _ _ _ hsz.symm];rfl
 have x1:((w.setCell ⟨b,6,none⟩ (.int .i64 (en+1))).alloc (.cells #[.int .i64 (s1:Int),.int .i64 (s2:Int)] 152)).cell? ⟨w.heap.size,1,none⟩=some (.int .i64 (s2:Int)):=by rw [World.cell?_alloc_at _ _ _ _ hsz.symm];rfl
 have hz1:w.heap.size<((w.setCell ⟨b,6,none⟩ (.int .i64 (en+1))).alloc (.cells #[.int .i64 (s1:Int),.int .i64 (s2:Int)] 152)).heap.size:=by rw [World.size_alloc,hsz];omega
 have HCX:=Lib.hid (And.intro c6 f6)
 obtain ⟨HW,-⟩:Hid (((w.setCell ⟨b,6,none⟩ (.int .i64 (en+1))).alloc (.cells #[.int .i64 (s1:Int),.int .i64 (s2:Int)] 152))=((w.setCell ⟨b,6,none⟩ (.int .i64 (en+1))).alloc (.cells #[.int .i64 (s1:Int),.int .i64 (s2:Int)] 152)))∧True:=⟨rfl,trivial⟩
 clear cf hsz
 have HX:=Lib.hid hx
 clear h
 go_enter Tryz.func137,Tryz.ntmps137
 go_upto_region 2 with fail
 generalize ((w.setCell ⟨b,6,none⟩ (.int .i64 (en+1))).alloc (.cells #[.int .i64 (s1:Int),.int .i64 (s2:Int)] 152))=W1 at h1 hu1 x0 x1 hz1 ⊢
 clear HW c6 f6 HCX
 obtain ⟨-,-,c2,c3,c4,-,-,-⟩:=h1.cells
 obtain ⟨gn,Cn,rfl,en1,-⟩:=row_at h1.nodes hx
 have hkl:=(List.getElem?_eq_some_iff.1 hx).1
 have hb1:b<W1.heap.size:=lt_of_block h1.head
 have b0:(0:Int)≤(k:Int):=Int.natCast_nonneg _
 have b1:(k:Int)<(L.length:Int):=by omega
 have n0:W1.cell? ⟨gn,k*7,none⟩=some (.int .u8 xk):=en1 0 _ rfl
 have n1:W1.cell? ⟨gn,k*7+1,none⟩=some (.int .i64 xl):=en1 1 _ rfl
 have n2:W1.cell? ⟨gn,k*7+2,none⟩=some (.int .i64 xr):=en1 2 _ rfl
 have n3:W1.cell? ⟨gn,k*7+3,none⟩=some (.int .i64 (f:Int)):=en1 3 _ rfl
 have n4:W1.cell? ⟨gn,k*7+4,none⟩=some (.int .i64 (t:Int)):=en1 4 _ rfl
 have n5:W1.cell? ⟨gn,k*7+5,none⟩=some (.int .i64 xa):=en1 5 _ rfl
 have n6:W1.cell? ⟨gn,k*7+6,none⟩=some (.int .i64 xi):=en1 6 _ rfl
 have hgw:gn<W1.heap.size:=World.block_lt_of_cell? W1 _ n0
 have HE:=Lib.hid (And.intro h1 hu1)
 clear hx HX h1 hu1 en1 hkl he0 he1
 by_cases hs0:t≤s1
 ·go_wp2_with fail
  go_end0
  exact ⟨rfl,HE.out.1.upd0 ((Upd.refl _ _).alloc _),HE.out.2.alloc _⟩
 ·have hs1:s2≤f:=by omega
  clear hs
  go_wp2_with fail
  go_end0
  exact ⟨rfl,HE.out.1.upd0 ((Upd.refl _ _).alloc _),HE.out.2.alloc _⟩
theorem KP.all_set (P:List Part) (v:Part):∀k,k<P.length→KP.all (P.set k v)=((((KP.all P).set (k*4) (.int .u64 v.long)).set (k*4+1) (.int .i64 v.runs)).set (k*4+2) (.bool v.first)).set (k*4+3) (.bool v.last):=by
 induction P with
 |nil=>intro k hk;simp at hk
 |cons p P ih=>
  intro k hk
  have e:∀q:Part,∀Q:List Part,KP.all (q::Q)=.int .u64 q.long :: .int .i64 q.runs :: .bool q.first :: .bool q.last::KP.all Q:=fun q Q=>rfl
  rcases k with _ | k
  ·rw [List.set_cons_zero,e,e];rfl
  ·rw [List.set_cons_succ,e,e,ih k (by simpa using hk)]
   rw [show (k+1)*4=k*4+1+1+1+1 by omega]
   simp only [List.set_cons_succ,show k*4+1+1+1+1+1=(k*4+1)+1+1+1+1 by omega,show k*4+1+1+1+1+2=(k*4+2)+1+1+1+1 by omega,show k*4+1+1+1+1+3=(k*4+3)+1+1+1+1 by omega]
theorem CovM.part {w:World} {b:Nat} {mv nv ov:Value} {g C N hb:Nat} {M:List Int} {L:List Nd} {O:List Int} {P:List Part} {root en:Int} (h:CovM w b mv nv ov (.slice (some ⟨g,0,none⟩) N C) hb M L O P root en) (hN:P.length=N) (k:Nat) (hk:k<P.length) (v:Part) :
 CovM ((((w.setCell ⟨g,k*4,none⟩ (.int .u64 v.long)).setCell ⟨g,k*4+1,none⟩ (.int .i64 v.runs)).setCell ⟨g,k*4+2,none⟩ (.bool v.first)).setCell ⟨g,k*4+3,none⟩ (.bool v.last)) b mv nv ov (.slice (some ⟨g,0,none⟩) N C) hb M L O (P.set k v) root en:=by
 subst hN
 have hg:g∈blk (.slice (some ⟨g,0,none⟩) P.length C):=by simp [blk]
 have hgb:g≠b:=fun e=>h.bp (by rw [←e];exact hg)
 have hgo:∀y∈blk ov,y≠g:=fun y hy e=>h.op y hy (by rw [e];exact hg)
 have hu:Upd [g] w ((((w.setCell ⟨g,k*4,none⟩ (.int .u64 v.long)).setCell ⟨g,k*4+1,none⟩ (.int .i64 v.runs)).setCell ⟨g,k*4+2,none⟩ (.bool v.first)).setCell ⟨g,k*4+3,none⟩ (.bool v.last)):=
  ((((Upd.refl [g] w).setCell (.inl (by simp)) _).setCell (.inl (by simp)) _).setCell (.inl (by simp)) _).setCell (.inl (by simp)) _
 refine { h with head:=(hu.block b (lt_of_block h.head) (by simpa using Ne.symm hgb)).trans h.head,marks:=own_upd h.marks hu (fun y hy hc=>h.pm g hg (by simp at hc;rw [←hc];exact hy)),nodes:=own_upd h.nodes hu (fun y hy hc=>h.pn g hg (by simp at hc;rw [←hc];exact hy)),often:=own_upd h.often hu (fun y hy hc=>hgo y hy (by simpa using hc)),parts:=?_ }
 have h':w.ownsRow 0 160 4 (.slice (some ⟨g,0,none⟩) P.length C) P.length (KP.all P):=h.parts
 have e1:=(World.ownsRow.stored h' (k*4) (.int .u64 v.long)).1
 have e2:=(World.ownsRow.stored e1 (k*4+1) (.int .i64 v.runs)).1
 have e3:=(World.ownsRow.stored e2 (k*4+2) (.bool v.first)).1
 have e4:=(World.ownsRow.stored e3 (k*4+3) (.bool v.last)).1
 unfold Kind.row
 rw [KP.all_set P v k hk,List.length_set]
 exact e4
theorem change_in (b f t k:Nat) (mv nv ov pv:Value) (hb:Nat) (M:List Int) (L:List Nd) (O:List Int) (P:List Part) (root en:Int) (w:World) (s1 s2:Nat) (y c:Int) (V:Part) (h:CovM w b mv nv ov pv hb M L O P root en)
 (he0:0≤en) (he1:en<100000000) (x:Nd) (hx:L[k]? = some x) (hxf:x.fr=f) (hxt:x.to=t) (hf:f<t) (hs1:s1≤f) (hs2:t≤s2) (hc:O[k]? = some c) (hkP:k<P.length)
 (hc0:0≤c) (hc1:c≤1000000) (hy0 : -1≤y) (hy1:y≤1)
 (hkn:∀w2,CovM w2 b mv nv ov pv hb M L (O.set k (c+y)) P root (en+1)→Calls Tryz.prog 161 #[.pointer (some ⟨b,0,none⟩),.int .i64 (k:Int)] w2 (KnownPost V w2)) :
 Calls Tryz.prog 137 #[.pointer (some ⟨b,0,none⟩),.int .i64 (k:Int),.agg #[.int .i64 (s1:Int),.int .i64 (s2:Int)],.int .i64 y] w (ChPost w b mv nv ov pv hb M L (O.set k (c+y)) (P.set k V) root (en+1)):=by
 obtain ⟨xk,xl,xr,xf,xt,xa,xi⟩:=x
 dsimp only at hxf hxt
 subst hxf hxt
 obtain ⟨-,-,-,-,-,-,c6,cf⟩:=h.cells
 have f6:=cf 6
 have hbw:b<w.heap.size:=lt_of_block h.head
 have hsz:(w.setCell ⟨b,6,none⟩ (.int .i64 (en+1))).heap.size=w.heap.size:=by simp [World.setCell]
 have h1:=(h.enter (en+1)).upd0 ((Upd.refl [] _).alloc (.cells #[.int .i64 (s1:Int),.int .i64 (s2:Int)] 152))
 have hu1:Upd (covF b ov pv) w ((w.setCell ⟨b,6,none⟩ (.int .i64 (en+1))).alloc (.cells #[.int .i64 (s1:Int),.int .i64 (s2:Int)] 152)):=((Upd.refl _ w).setCell (.inl (by simp [covF])) _).alloc _
 have x0:((w.setCell ⟨b,6,none⟩ (.int .i64 (en+1))).alloc (.cells #[.int .i64 (s1:Int),.int .i64 (s2:Int)] 152)).cell? ⟨w.heap.size,0,none⟩=some (.int .i64 (s1:Int)):=by rw [World.cell?_alloc_at _ _ _ _ hsz.symm];rfl
 have x1:((w.setCell ⟨b,6,none⟩ (.int .i64 (en+1))).alloc (.cells #[.int .i64 (s1:Int),.int .i64 (s2:Int)] 152)).cell? ⟨w.heap.size,1,none⟩=some (.int .i64 (s2:Int)):=by rw [World.cell?_alloc_at _ _ _ _ hsz.symm];rfl
 have hz1:w.heap.size<((w.setCell ⟨b,6,none⟩ (.int .i64 (en+1))).alloc (.cells #[.int .i64 (s1:Int),.int .i64 (s2:Int)] 152)).heap.size:=by rw [World.size_alloc,hsz];omega
 have HCX:=Lib.hid (And.intro c6 f6)
 obtain ⟨HW,-⟩:Hid (((w.setCell ⟨b,6,none⟩ (.int .i64 (en+1))).alloc (.cells #[.int .i64 (s1:Int),.int .i64 (s2:Int)] 152))=((w.setCell ⟨b,6,none⟩ (.int .i64 (en+1))).alloc (.cells #[.int .i64 (s1:Int),.int .i64 (s2:Int)] 152)))∧True:=⟨rfl,trivial⟩
 clear cf hsz
 have HX:=Lib.hid hx
 have HK:=Lib.hid hkn
 have HC:=Lib.hid hc
 clear h hkn hc
 go_enter Tryz.func137,Tryz.ntmps137
 go_upto_region 2 with fail
 generalize ((w.setCell ⟨b,6,none⟩ (.int .i64 (en+1))).alloc (.cells #[.int .i64 (s1:Int),.int .i64 (s2:Int)] 152))=W1 at h1 hu1 x0 x1 hz1 ⊢
 clear HW c6 f6 HCX
 obtain ⟨-,-,c2,c3,c4,-,-,-⟩:=h1.cells
 obtain ⟨gn,Cn,rfl,en1,-⟩:=row_at h1.nodes hx
 have hkl:=(List.getElem?_eq_some_iff.1 hx).1
 have hb1:b<W1.heap.size:=lt_of_block h1.head
 have b0:(0:Int)≤(k:Int):=Int.natCast_nonneg _
 have b1:(k:Int)<(L.length:Int):=by omega
 have n0:W1.cell? ⟨gn,k*7,none⟩=some (.int .u8 xk):=en1 0 _ rfl
 have n1:W1.cell? ⟨gn,k*7+1,none⟩=some (.int .i64 xl):=en1 1 _ rfl
 have n2:W1.cell? ⟨gn,k*7+2,none⟩=some (.int .i64 xr):=en1 2 _ rfl
 have n3:W1.cell? ⟨gn,k*7+3,none⟩=some (.int .i64 (f:Int)):=en1 3 _ rfl
 have n4:W1.cell? ⟨gn,k*7+4,none⟩=some (.int .i64 (t:Int)):=en1 4 _ rfl
 have n5:W1.cell? ⟨gn,k*7+5,none⟩=some (.int .i64 xa):=en1 5 _ rfl
 have n6:W1.cell? ⟨gn,k*7+6,none⟩=some (.int .i64 xi):=en1 6 _ rfl
 have hgw:gn<W1.heap.size:=World.block_lt_of_cell? W1 _ n0
 obtain ⟨go,Co,hov,eo1,eof⟩:=row_at h1.often HC.out
 subst hov
 have o0:W1.cell? ⟨go,k,none⟩=some (.int .i64 c):=by
  have:=eo1 0 _ rfl
  simpa [KC] using this
 have of0:=eof k
 have hgo:go<W1.heap.size:=World.block_lt_of_cell? W1 _ o0
 have b1o:(k:Int)<(O.length:Int):=by have:=(List.getElem?_eq_some_iff.1 HC.out).1;omega
 have hgoF:go∈covF b (.slice (some ⟨go,0,none⟩) O.length Co) pv:=by simp [covF,blk]
 have h2:=(h1.oft rfl k (c+y)).upd0 ((Upd.refl [] _).alloc (.cells #[.int .u8 xk,.int .i64 xl,.int .i64 xr,.int .i64 (f:Int),.int .i64 (t:Int),.int .i64 xa,.int .i64 xi] 208))
 have hu2:=(hu1.setCell (p:=⟨go,k,none⟩) (.inl hgoF) (.int .i64 (c+y))).alloc (.cells #[.int .u8 xk,.int .i64 xl,.int .i64 xr,.int .i64 (f:Int),.int .i64 (t:Int),.int .i64 xa,.int .i64 xi] 208)
 have HC2:=Lib.hid h2
 have HU2:=Lib.hid hu2
 have HKP:=Lib.hid hkP
 have g1:¬t≤s1:=by omega
 have g2:¬s2≤f:=by omega
 clear hx HX h1 hu1 en1 hkl he0 he1 eo1 eof h2 hu2 hkP hf c4 hgoF
 go_upto_region 8 with fail
 have hkP:=HKP.out
 clear HKP
 generalize ((W1.setCell ⟨go,k,none⟩ (.int .i64 (c+y))).alloc (.cells #[.int .u8 xk,.int .i64 xl,.int .i64 xr,.int .i64 (f:Int),.int .i64 (t:Int),.int .i64 xa,.int .i64 xi] 208))=W2 at HC2 HU2 ⊢
 obtain ⟨gp,Cp,hpv,-,-⟩:=row_at HC2.out.parts (List.getElem?_eq_getElem hkP)
 subst hpv
 have s4:W2.drew.cell? ⟨b,4,none⟩=some (.slice (some ⟨gp,0,none⟩) P.length Cp):=HC2.out.cells.2.2.2.2.1
 have hk4:=HK.out W2.drew (HC2.out.upd0 (Upd.refl [] _).drew)
 obtain ⟨vl,vr,vf,va⟩:=V
 have HK4:=Lib.hid hk4
 have k0:(0:Int)≤(k:Int):=Int.natCast_nonneg _
 have k1:(k:Int)<(P.length:Int):=by omega
 have HKP:=Lib.hid hkP
 clear hk4 hkP
 unfold KnownPost partVal at HK4
 dsimp only at HK4
 refine GoT.start [8,9] (fun w'=>w'.cell? ⟨b,4,none⟩=some (.slice (some ⟨gp,0,none⟩) P.length Cp)) (by kernel_rfl) ?_ fun hS=>?_
 ·exact s4
 refine' GoT.mv (i:=0) (oi:=⟨some 71,_,_,_,_,_⟩) rfl (by rfl) ?y8_0 ?_
 case y8_0=>intro w;go_simp<;>with_reducible rfl
 simp only [Act.put,sA,sZ,sS]
 refine' GoT.mv (i:=1) (oi:=⟨some 72,_,_,_,_,_⟩) rfl (by rfl) ?y8_1 ?_
 case y8_1=>intro w;go_simp<;>with_reducible rfl
 simp only [Act.put,sA,sZ,sS]
 refine' GoT.mv (i:=2) (oi:=⟨some 73,_,_,_,_,_⟩) rfl (by rfl) ?y8_2 ?_
 case y8_2=>intro w;go_simp<;>with_reducible rfl
 simp only [Act.put,sA,sZ,sS]
 refine' GoT.tk 1 (i:=3) (oi:=⟨some 74,_,_,_,_,_⟩) rfl (by rfl) ?y8_3 ?_
 case y8_3=>intro w hSw;go_simp<;>with_reducible rfl
 simp only [Act.put,sA,sZ,sS]
 refine' GoT.mv (i:=4) (oi:=⟨some 75,_,_,_,_,_⟩) rfl (by rfl) ?y8_4 ?_
 case y8_4=>intro w;go_simp<;>with_reducible rfl
 simp only [Act.put,sA,sZ,sS]
 refine' GoT.mv (i:=5) (oi:=⟨some 76,_,_,_,_,_⟩) rfl (by rfl) ?y8_5 ?_
 case y8_5=>intro w;go_simp<;>with_reducible rfl
 simp only [Act.put,sA,sZ,sS]
 refine' GoT.mv (i:=6) (oi:=⟨some 77,_,_,_,_,_⟩) rfl (by rfl) ?y8_6 ?_
 case y8_6=>intro w;go_simp<;>with_reducible rfl
 simp only [Act.put,sA,sZ,sS]
 refine GoT.one (i:=7) (o:=⟨some 78,_,_,_,_,_⟩) rfl (by kernel_rfl) fun K hK=>?_
 go_simp
 go_at_call 161
 (with_reducible refine HK4.out.mono ?_)
 rintro e w4 ⟨rfl,hu4⟩
 have h4:=HC2.out.upd0 ((Upd.refl [] W2).drew.trans hu4)
 obtain ⟨gp',Cp',hpp,ep,epf⟩:=row_at h4.parts (List.getElem?_eq_getElem HKP.out)
 cases hpp
 have z0:w4.cell? ⟨gp,k*4,none⟩=some (.int .u64 (P[k]'HKP.out).long):=ep 0 _ rfl
 have z1:w4.cell? ⟨gp,k*4+1,none⟩=some (.int .i64 (P[k]'HKP.out).runs):=ep 1 _ rfl
 have z2:w4.cell? ⟨gp,k*4+2,none⟩=some (.bool (P[k]'HKP.out).first):=ep 2 _ rfl
 have z3:w4.cell? ⟨gp,k*4+3,none⟩=some (.bool (P[k]'HKP.out).last):=ep 3 _ rfl
 have y0:=epf (k*4)
 have y1:=epf (k*4+1)
 have y2:=epf (k*4+2)
 have y3:=epf (k*4+3)
 have HC4:=Lib.hid h4
 have HU4:=Lib.hid (show Upd (covF b (.slice (some ⟨go,0,none⟩) O.length Co) (.slice (some ⟨gp,0,none⟩) P.length Cp)) w w4 from HU2.out.trans (((Upd.refl [] W2).drew.trans hu4).mono (by simp)))
 clear h4 ep epf
 refine hK.out _ _ (fun _ h=>?_) ?_
 ·exact (hu4.cell (p:=⟨b,4,none⟩) (World.block_lt_of_cell? _ _ h) (by simp)).trans h
 clear hK K
 try simp only [Act.put,sA,sZ,sS]
 refine' GoT.mv (i:=8) (oi:=⟨some 79,_,_,_,_,_⟩) rfl (by rfl) ?y8_8 ?_
 case y8_8=>intro w;go_simp<;>with_reducible rfl
 simp only [Act.put,sA,sZ,sS]
 refine GoT.one (i:=9) (o:=⟨none,_,_,_,_,_⟩) rfl (by kernel_rfl) fun K hK=>?_
 go_simp
 refine hK.out _ _ (fun h=>(by cases h)) ?_
 clear hK K
 try simp only [Act.put,sA,sZ,sS]
 refine GoT.done (by kernel_rfl) ?_
 go_wp2_with fail
 go_end0
 refine ⟨rfl,HC4.out.part rfl k HKP.out ⟨vl,vr,vf,va⟩,?_⟩
 have hg:gp∈covF b (.slice (some ⟨go,0,none⟩) O.length Co) (.slice (some ⟨gp,0,none⟩) P.length Cp):=by simp [covF,blk]
 exact (((HU4.out.setCell (.inl hg) _).setCell (.inl hg) _).setCell (.inl hg) _).setCell (.inl hg) _
theorem change_node (b f t k l r:Nat) (mv nv ov pv:Value) (hb:Nat) (M:List Int) (L:List Nd) (O O1 O2:List Int) (P P1 P2:List Part) (root en en1 en2:Int) (w:World) (s1 s2:Nat) (y:Int) (V:Part) (h:CovM w b mv nv ov pv hb M L O P root en)
 (he0:0≤en) (he1:en<100000000) (x:Nd) (hx:L[k]? = some x) (hxl:x.l=l) (hxr:x.r=r) (hxf:x.fr=f) (hxt:x.to=t) (hno:¬(t≤s1∨s2≤f)) (hni:¬(s1≤f∧t≤s2)) (hkP:k<P2.length)
 (hih1:∀w2,CovM w2 b mv nv ov pv hb M L O P root (en+1)→Calls Tryz.prog 137 #[.pointer (some ⟨b,0,none⟩),.int .i64 (l:Int),.agg #[.int .i64 (s1:Int),.int .i64 (s2:Int)],.int .i64 y] w2 (ChPost w2 b mv nv ov pv hb M L O1 P1 root en1))
 (hih2:∀w2,CovM w2 b mv nv ov pv hb M L O1 P1 root en1→Calls Tryz.prog 137 #[.pointer (some ⟨b,0,none⟩),.int .i64 (r:Int),.agg #[.int .i64 (s1:Int),.int .i64 (s2:Int)],.int .i64 y] w2 (ChPost w2 b mv nv ov pv hb M L O2 P2 root en2))
 (hkn:∀w2,CovM w2 b mv nv ov pv hb M L O2 P2 root en2→Calls Tryz.prog 161 #[.pointer (some ⟨b,0,none⟩),.int .i64 (k:Int)] w2 (KnownPost V w2)) :
 Calls Tryz.prog 137 #[.pointer (some ⟨b,0,none⟩),.int .i64 (k:Int),.agg #[.int .i64 (s1:Int),.int .i64 (s2:Int)],.int .i64 y] w (ChPost w b mv nv ov pv hb M L O2 (P2.set k V) root en2):=by
 obtain ⟨xk,xl,xr,xf,xt,xa,xi⟩:=x
 dsimp only at hxf hxt hxl hxr
 subst hxf hxt hxl hxr
 have HLT:=Lib.hid h.lt
 have HKP0:=Lib.hid hkP
 obtain ⟨-,-,-,-,-,-,c6,cf⟩:=h.cells
 have f6:=cf 6
 have hbw:b<w.heap.size:=lt_of_block h.head
 have hsz:(w.setCell ⟨b,6,none⟩ (.int .i64 (en+1))).heap.size=w.heap.size:=by simp [World.setCell]
 have h1:=(h.enter (en+1)).upd0 ((Upd.refl [] _).alloc (.cells #[.int .i64 (s1:Int),.int .i64 (s2:Int)] 152))
 have hu1:Upd (covF b ov pv) w ((w.setCell ⟨b,6,none⟩ (.int .i64 (en+1))).alloc (.cells #[.int .i64 (s1:Int),.int .i64 (s2:Int)] 152)):=((Upd.refl _ w).setCell (.inl (by simp [covF])) _).alloc _
 have x0:((w.setCell ⟨b,6,none⟩ (.int .i64 (en+1))).alloc (.cells #[.int .i64 (s1:Int),.int .i64 (s2:Int)] 152)).cell? ⟨w.heap.size,0,none⟩=some (.int .i64 (s1:Int)):=by rw [World.cell?_alloc_at _ _ _ _ hsz.symm];rfl
 have x1:((w.setCell ⟨b,6,none⟩ (.int .i64 (en+1))).alloc (.cells #[.int .i64 (s1:Int),.int .i64 (s2:Int)] 152)).cell? ⟨w.heap.size,1,none⟩=some (.int .i64 (s2:Int)):=by rw [World.cell?_alloc_at _ _ _ _ hsz.symm];rfl
 have hz1:w.heap.size<((w.setCell ⟨b,6,none⟩ (.int .i64 (en+1))).alloc (.cells #[.int .i64 (s1:Int),.int .i64 (s2:Int)] 152)).heap.size:=by rw [World.size_alloc,hsz];omega
 have HCX:=Lib.hid (And.intro c6 f6)
 obtain ⟨HW,-⟩:Hid (((w.setCell ⟨b,6,none⟩ (.int .i64 (en+1))).alloc (.cells #[.int .i64 (s1:Int),.int .i64 (s2:Int)] 152))=((w.setCell ⟨b,6,none⟩ (.int .i64 (en+1))).alloc (.cells #[.int .i64 (s1:Int),.int .i64 (s2:Int)] 152)))∧True:=⟨rfl,trivial⟩
 clear cf hsz
 have HX:=Lib.hid hx
 have HK:=Lib.hid hkn
 have HI2:=Lib.hid hih2
 have HI0:=Lib.hid hih1
 have HNI:=Lib.hid hni
 clear h hkn hih2 hih1 hkP hni
 go_enter Tryz.func137,Tryz.ntmps137
 go_upto_region 2 with fail
 generalize ((w.setCell ⟨b,6,none⟩ (.int .i64 (en+1))).alloc (.cells #[.int .i64 (s1:Int),.int .i64 (s2:Int)] 152))=W1 at h1 hu1 x0 x1 hz1 ⊢
 clear HW c6 f6 HCX
 obtain ⟨-,-,c2,c3,c4,-,-,-⟩:=h1.cells
 obtain ⟨gn,Cn,rfl,en1,-⟩:=row_at h1.nodes hx
 have hkl:=(List.getElem?_eq_some_iff.1 hx).1
 have hb1:b<W1.heap.size:=lt_of_block h1.head
 have b0:(0:Int)≤(k:Int):=Int.natCast_nonneg _
 have b1:(k:Int)<(L.length:Int):=by omega
 have n0:W1.cell? ⟨gn,k*7,none⟩=some (.int .u8 xk):=en1 0 _ rfl
 have n1:W1.cell? ⟨gn,k*7+1,none⟩=some (.int .i64 (l:Int)):=en1 1 _ rfl
 have n2:W1.cell? ⟨gn,k*7+2,none⟩=some (.int .i64 (r:Int)):=en1 2 _ rfl
 have n3:W1.cell? ⟨gn,k*7+3,none⟩=some (.int .i64 (f:Int)):=en1 3 _ rfl
 have n4:W1.cell? ⟨gn,k*7+4,none⟩=some (.int .i64 (t:Int)):=en1 4 _ rfl
 have n5:W1.cell? ⟨gn,k*7+5,none⟩=some (.int .i64 xa):=en1 5 _ rfl
 have n6:W1.cell? ⟨gn,k*7+6,none⟩=some (.int .i64 xi):=en1 6 _ rfl
 have hgw:gn<W1.heap.size:=World.block_lt_of_cell? W1 _ n0
 have hu0:Upd [] W1 (W1.alloc (.cells #[.int .u8 xk,.int .i64 (l:Int),.int .i64 (r:Int),.int .i64 (f:Int),.int .i64 (t:Int),.int .i64 xa,.int .i64 xi] 208)):=(Upd.refl _ _).alloc _
 have HI1:=Lib.hid (HI0.out _ (h1.upd0 hu0))
 have HU1:=Lib.hid hu1
 have g1:¬t≤s1:=by omega
 have g2:¬s2≤f:=by omega
 have hih2:=HI2.out
 clear HI2
 clear hx HX h1 hu1 hu0 en1 hkl he0 he1 c3 c4 HI0 hno
 have HIH:=Lib.hid hih2
 clear hih2
 by_cases g3:s1≤f
 ·have g4:¬t≤s2:=fun hc=>HNI.out ⟨g3,hc⟩
  go_wp2_with fail
  (with_reducible refine HI1.out.mono ?_)
  rintro e w3 ⟨rfl,h3,hu3⟩
  have nl:∀y,w.heap.size≤y→y∉covF b ov pv:=fun y hy hc=>by have:=HLT.out y hc;omega
  have m2:w3.cell? ⟨W1.heap.size,2,none⟩=some (.int .i64 (r:Int)):=(hu3.cell (p:=⟨W1.heap.size,2,none⟩) (by simp) (nl W1.heap.size (by omega))).trans (by rw [World.cell?_alloc_at _ _ _ _ rfl];rfl)
  have u0:w3.cell? ⟨w.heap.size,0,none⟩=some (.int .i64 (s1:Int)):=(hu3.cell (p:=⟨w.heap.size,0,none⟩) (by simp;omega) (nl w.heap.size (Nat.le_refl _))).trans (by rw [World.cell?_alloc_past _ _ _ hz1];exact x0)
  have u1:w3.cell? ⟨w.heap.size,1,none⟩=some (.int .i64 (s2:Int)):=(hu3.cell (p:=⟨w.heap.size,1,none⟩) (by simp;omega) (nl w.heap.size (Nat.le_refl _))).trans (by rw [World.cell?_alloc_past _ _ _ hz1];exact x1)
  have HI2:=Lib.hid (HIH.out w3 h3)
  have HU3:=Lib.hid ((HU1.out.alloc (.cells #[.int .u8 xk,.int .i64 (l:Int),.int .i64 (r:Int),.int .i64 (f:Int),.int .i64 (t:Int),.int .i64 xa,.int .i64 xi] 208)).trans hu3)
  clear h3 hu3 nl
  go_wp2_with fail
  (with_reducible refine HI2.out.mono ?_)
  rintro e w4 ⟨rfl,h4,hu4⟩
  have HC5:=Lib.hid h4
  have HU5:=Lib.hid (HU3.out.trans hu4)
  clear h4 hu4
  go_upto_region 8 with fail
  have hkP:=HKP0.out
  clear HKP0
  obtain ⟨gp,Cp,hpv,-,-⟩:=row_at HC5.out.parts (List.getElem?_eq_getElem hkP)
  subst hpv
  have s4:w4.drew.cell? ⟨b,4,none⟩=some (.slice (some ⟨gp,0,none⟩) P2.length Cp):=HC5.out.cells.2.2.2.2.1
  have hk4:=HK.out w4.drew (HC5.out.upd0 (Upd.refl [] _).drew)
  obtain ⟨vl,vr,vf,va⟩:=V
  have HK4:=Lib.hid hk4
  have k0:(0:Int)≤(k:Int):=Int.natCast_nonneg _
  have k1:(k:Int)<(P2.length:Int):=by omega
  have HKP:=Lib.hid hkP
  clear hk4 hkP
  unfold KnownPost partVal at HK4
  dsimp only at HK4
  refine GoT.start [8,9] (fun w'=>w'.cell? ⟨b,4,none⟩=some (.slice (some ⟨gp,0,none⟩) P2.length Cp)) (by kernel_rfl) ?_ fun hS=>?_
  ·exact s4
  refine' GoT.mv (i:=0) (oi:=⟨some 71,_,_,_,_,_⟩) rfl (by rfl) ?y8_0 ?_
  case y8_0=>intro w;go_simp<;>with_reducible rfl
  simp only [Act.put,sA,sZ,sS]
  refine' GoT.mv (i:=1) (oi:=⟨some 72,_,_,_,_,_⟩) rfl (by rfl) ?y8_1 ?_
  case y8_1=>intro w;go_simp<;>with_reducible rfl
  simp only [Act.put,sA,sZ,sS]
  refine' GoT.mv (i:=2) (oi:=⟨some 73,_,_,_,_,_⟩) rfl (by rfl) ?y8_2 ?_
  case y8_2=>intro w;go_simp<;>with_reducible rfl
  simp only [Act.put,sA,sZ,sS]
  refine' GoT.tk 1 (i:=3) (oi:=⟨some 74,_,_,_,_,_⟩) rfl (by rfl) ?y8_3 ?_
  case y8_3=>intro w hSw;go_simp<;>with_reducible rfl
  simp only [Act.put,sA,sZ,sS]
  refine' GoT.mv (i:=4) (oi:=⟨some 75,_,_,_,_,_⟩) rfl (by rfl) ?y8_4 ?_
  case y8_4=>intro w;go_simp<;>with_reducible rfl
  simp only [Act.put,sA,sZ,sS]
  refine' GoT.mv (i:=5) (oi:=⟨some 76,_,_,_,_,_⟩) rfl (by rfl) ?y8_5 ?_
  case y8_5=>intro w;go_simp<;>with_reducible rfl
  simp only [Act.put,sA,sZ,sS]
  refine' GoT.mv (i:=6) (oi:=⟨some 77,_,_,_,_,_⟩) rfl (by rfl) ?y8_6 ?_
  case y8_6=>intro w;go_simp<;>with_reducible rfl
  simp only [Act.put,sA,sZ,sS]
  refine GoT.one (i:=7) (o:=⟨some 78,_,_,_,_,_⟩) rfl (by kernel_rfl) fun K hK=>?_
  go_simp
  go_at_call 161
  (with_reducible refine HK4.out.mono ?_)
  rintro e w6 ⟨rfl,hu4⟩
  have h4:=HC5.out.upd0 ((Upd.refl [] w4).drew.trans hu4)
  obtain ⟨gp',Cp',hpp,ep,epf⟩:=row_at h4.parts (List.getElem?_eq_getElem HKP.out)
  cases hpp
  have z0:w6.cell? ⟨gp,k*4,none⟩=some (.int .u64 (P2[k]'HKP.out).long):=ep 0 _ rfl
  have z1:w6.cell? ⟨gp,k*4+1,none⟩=some (.int .i64 (P2[k]'HKP.out).runs):=ep 1 _ rfl
  have z2:w6.cell? ⟨gp,k*4+2,none⟩=some (.bool (P2[k]'HKP.out).first):=ep 2 _ rfl
  have z3:w6.cell? ⟨gp,k*4+3,none⟩=some (.bool (P2[k]'HKP.out).last):=ep 3 _ rfl
  have y0:=epf (k*4)
  have y1:=epf (k*4+1)
  have y2:=epf (k*4+2)
  have y3:=epf (k*4+3)
  have HC4:=Lib.hid h4
  have HU4:=Lib.hid (show Upd (covF b ov (.slice (some ⟨gp,0,none⟩) P2.length Cp)) w w6 from HU5.out.trans (((Upd.refl [] w4).drew.trans hu4).mono (by simp)))
  clear h4 ep epf
  refine hK.out _ _ (fun _ h=>?_) ?_
  ·exact (hu4.cell (p:=⟨b,4,none⟩) (World.block_lt_of_cell? _ _ h) (by simp)).trans h
  clear hK K
  try simp only [Act.put,sA,sZ,sS]
  refine' GoT.mv (i:=8) (oi:=⟨some 79,_,_,_,_,_⟩) rfl (by rfl) ?y8_8 ?_
  case y8_8=>intro w;go_simp<;>with_reducible rfl
  simp only [Act.put,sA,sZ,sS]
  refine GoT.one (i:=9) (o:=⟨none,_,_,_,_,_⟩) rfl (by kernel_rfl) fun K hK=>?_
  go_simp
  refine hK.out _ _ (fun h=>(by cases h)) ?_
  clear hK K
  try simp only [Act.put,sA,sZ,sS]
  refine GoT.done (by kernel_rfl) ?_
  go_wp2_with fail
  go_end0
  refine ⟨rfl,HC4.out.part rfl k HKP.out ⟨vl,vr,vf,va⟩,?_⟩
  have hg:gp∈covF b ov (.slice (some ⟨gp,0,none⟩) P2.length Cp):=by simp [covF,blk]
  exact (((HU4.out.setCell (.inl hg) _).setCell (.inl hg) _).setCell (.inl hg) _).setCell (.inl hg) _
 ·skip
  go_wp2_with fail
  (with_reducible refine HI1.out.mono ?_)
  rintro e w3 ⟨rfl,h3,hu3⟩
  have nl:∀y,w.heap.size≤y→y∉covF b ov pv:=fun y hy hc=>by have:=HLT.out y hc;omega
  have m2:w3.cell? ⟨W1.heap.size,2,none⟩=some (.int .i64 (r:Int)):=(hu3.cell (p:=⟨W1.heap.size,2,none⟩) (by simp) (nl W1.heap.size (by omega))).trans (by rw [World.cell?_alloc_at _ _ _ _ rfl];rfl)
  have u0:w3.cell? ⟨w.heap.size,0,none⟩=some (.int .i64 (s1:Int)):=(hu3.cell (p:=⟨w.heap.size,0,none⟩) (by simp;omega) (nl w.heap.size (Nat.le_refl _))).trans (by rw [World.cell?_alloc_past _ _ _ hz1];exact x0)
  have u1:w3.cell? ⟨w.heap.size,1,none⟩=some (.int .i64 (s2:Int)):=(hu3.cell (p:=⟨w.heap.size,1,none⟩) (by simp;omega) (nl w.heap.size (Nat.le_refl _))).trans (by rw [World.cell?_alloc_past _ _ _ hz1];exact x1)
  have HI2:=Lib.hid (HIH.out w3 h3)
  have HU3:=Lib.hid ((HU1.out.alloc (.cells #[.int .u8 xk,.int .i64 (l:Int),.int .i64 (r:Int),.int .i64 (f:Int),.int .i64 (t:Int),.int .i64 xa,.int .i64 xi] 208)).trans hu3)
  clear h3 hu3 nl
  go_wp2_with fail
  (with_reducible refine HI2.out.mono ?_)
  rintro e w4 ⟨rfl,h4,hu4⟩
  have HC5:=Lib.hid h4
  have HU5:=Lib.hid (HU3.out.trans hu4)
  clear h4 hu4
  go_upto_region 8 with fail
  have hkP:=HKP0.out
  clear HKP0
  obtain ⟨gp,Cp,hpv,-,-⟩:=row_at HC5.out.parts (List.getElem?_eq_getElem hkP)
  subst hpv
  have s4:w4.drew.cell? ⟨b,4,none⟩=some (.slice (some ⟨gp,0,none⟩) P2.length Cp):=HC5.out.cells.2.2.2.2.1
  have hk4:=HK.out w4.drew (HC5.out.upd0 (Upd.refl [] _).drew)
  obtain ⟨vl,vr,vf,va⟩:=V
  have HK4:=Lib.hid hk4
  have k0:(0:Int)≤(k:Int):=Int.natCast_nonneg _
  have k1:(k:Int)<(P2.length:Int):=by omega
  have HKP:=Lib.hid hkP
  clear hk4 hkP
  unfold KnownPost partVal at HK4
  dsimp only at HK4
  refine GoT.start [8,9] (fun w'=>w'.cell? ⟨b,4,none⟩=some (.slice (some ⟨gp,0,none⟩) P2.length Cp)) (by kernel_rfl) ?_ fun hS=>?_
  ·exact s4
  refine' GoT.mv (i:=0) (oi:=⟨some 71,_,_,_,_,_⟩) rfl (by rfl) ?y8b_0 ?_
  case y8b_0=>intro w;go_simp<;>with_reducible rfl
  simp only [Act.put,sA,sZ,sS]
  refine' GoT.mv (i:=1) (oi:=⟨some 72,_,_,_,_,_⟩) rfl (by rfl) ?y8b_1 ?_
  case y8b_1=>intro w;go_simp<;>with_reducible rfl
  simp only [Act.put,sA,sZ,sS]
  refine' GoT.mv (i:=2) (oi:=⟨some 73,_,_,_,_,_⟩) rfl (by rfl) ?y8b_2 ?_
  case y8b_2=>intro w;go_simp<;>with_reducible rfl
  simp only [Act.put,sA,sZ,sS]
  refine' GoT.tk 1 (i:=3) (oi:=⟨some 74,_,_,_,_,_⟩) rfl (by rfl) ?y8b_3 ?_
  case y8b_3=>intro w hSw;go_simp<;>with_reducible rfl
  simp only [Act.put,sA,sZ,sS]
  refine' GoT.mv (i:=4) (oi:=⟨some 75,_,_,_,_,_⟩) rfl (by rfl) ?y8b_4 ?_
  case y8b_4=>intro w;go_simp<;>with_reducible rfl
  simp only [Act.put,sA,sZ,sS]
  refine' GoT.mv (i:=5) (oi:=⟨some 76,_,_,_,_,_⟩) rfl (by rfl) ?y8b_5 ?_
  case y8b_5=>intro w;go_simp<;>with_reducible rfl
  simp only [Act.put,sA,sZ,sS]
  refine' GoT.mv (i:=6) (oi:=⟨some 77,_,_,_,_,_⟩) rfl (by rfl) ?y8b_6 ?_
  case y8b_6=>intro w;go_simp<;>with_reducible rfl
  simp only [Act.put,sA,sZ,sS]
  refine GoT.one (i:=7) (o:=⟨some 78,_,_,_,_,_⟩) rfl (by kernel_rfl) fun K hK=>?_
  go_simp
  go_at_call 161
  (with_reducible refine HK4.out.mono ?_)
  rintro e w6 ⟨rfl,hu4⟩
  have h4:=HC5.out.upd0 ((Upd.refl [] w4).drew.trans hu4)
  obtain ⟨gp',Cp',hpp,ep,epf⟩:=row_at h4.parts (List.getElem?_eq_getElem HKP.out)
  cases hpp
  have z0:w6.cell? ⟨gp,k*4,none⟩=some (.int .u64 (P2[k]'HKP.out).long):=ep 0 _ rfl
  have z1:w6.cell? ⟨gp,k*4+1,none⟩=some (.int .i64 (P2[k]'HKP.out).runs):=ep 1 _ rfl
  have z2:w6.cell? ⟨gp,k*4+2,none⟩=some (.bool (P2[k]'HKP.out).first):=ep 2 _ rfl
  have z3:w6.cell? ⟨gp,k*4+3,none⟩=some (.bool (P2[k]'HKP.out).last):=ep 3 _ rfl
  have y0:=epf (k*4)
  have y1:=epf (k*4+1)
  have y2:=epf (k*4+2)
  have y3:=epf (k*4+3)
  have HC4:=Lib.hid h4
  have HU4:=Lib.hid (show Upd (covF b ov (.slice (some ⟨gp,0,none⟩) P2.length Cp)) w w6 from HU5.out.trans (((Upd.refl [] w4).drew.trans hu4).mono (by simp)))
  clear h4 ep epf
  refine hK.out _ _ (fun _ h=>?_) ?_
  ·exact (hu4.cell (p:=⟨b,4,none⟩) (World.block_lt_of_cell? _ _ h) (by simp)).trans h
  clear hK K
  try simp only [Act.put,sA,sZ,sS]
  refine' GoT.mv (i:=8) (oi:=⟨some 79,_,_,_,_,_⟩) rfl (by rfl) ?y8b_8 ?_
  case y8b_8=>intro w;go_simp<;>with_reducible rfl
  simp only [Act.put,sA,sZ,sS]
  refine GoT.one (i:=9) (o:=⟨none,_,_,_,_,_⟩) rfl (by kernel_rfl) fun K hK=>?_
  go_simp
  refine hK.out _ _ (fun h=>(by cases h)) ?_
  clear hK K
  try simp only [Act.put,sA,sZ,sS]
  refine GoT.done (by kernel_rfl) ?_
  go_wp2_with fail
  go_end0
  refine ⟨rfl,HC4.out.part rfl k HKP.out ⟨vl,vr,vf,va⟩,?_⟩
  have hg:gp∈covF b ov (.slice (some ⟨gp,0,none⟩) P2.length Cp):=by simp [covF,blk]
  exact (((HU4.out.setCell (.inl hg) _).setCell (.inl hg) _).setCell (.inl hg) _).setCell (.inl hg) _
def NodesAt (L:List Nd) (f t o:Nat):Prop:=∃Na Nb,L=Na++(nodesL f t o++Nb)∧Na.length=o
theorem NodesAt.root {L:List Nd} {f t o:Nat} (h:NodesAt L f t o) (hf:f<t):L[o+2*(t - f) - 2]? = some (ndG f t (o+2*(t - f) - 2)):=by
 obtain ⟨Na,Nb,rfl,hl⟩:=h
 unfold nodesL
 rw [postL_kids _ 0 0 o hf]
 exact get_mid _ _ _ _ (by rw [hl,kidsL_length _ o hf];omega)
theorem NodesAt.left {L:List Nd} {f t o:Nat} (h:NodesAt L f t o) (h1:f+1<t):NodesAt L f (mid f t) o:=by
 obtain ⟨Na,Nb,rfl,hl⟩:=h
 rw [nodesL_node o h1]
 exact ⟨Na,_,by simp only [List.append_assoc];rfl,hl⟩
theorem NodesAt.right {L:List Nd} {f t o:Nat} (h:NodesAt L f t o) (h1:f+1<t):NodesAt L (mid f t) t (o+2*(mid f t - f) - 1):=by
 have hm:=mid_in h1
 obtain ⟨Na,Nb,rfl,hl⟩:=h
 rw [nodesL_node o h1]
 refine ⟨Na++nodesL f (mid f t) o,_,by simp only [List.append_assoc];rfl,?_⟩
 rw [List.length_append,nodesL_length o hm.1,hl]
 omega
theorem ndG_fr (f t a:Nat):(ndG f t a).fr=f:=by unfold ndG;split<;>rfl
theorem ndG_to (f t a:Nat):(ndG f t a).to=t:=by unfold ndG;split<;>rfl
theorem chgCov (b:Nat) (mv nv ov pv:Value) (hb:Nat) (M:List Int) (L:List Nd) (root:Int) (c c':Cnt) (s1 s2:Nat) (y:Int) (hM:MarksOk M) (hst:Step c c' (s1,s2) y) (hy0 : -1≤y) (hy1:y≤1) (hc:∀f t pf pt,0≤c f t pf pt∧c f t pf pt≤1000000) :
 ∀(d f t pf pt o:Nat) (Oa Ob:List Int) (Pa Pb:List Part) (en:Int) (w:World),t - f≤d→f<t→t<M.length→Oa.length=o→Pa.length=o→NodesAt L f t o→¬(s1≤pf∧pt≤s2)→0≤en→en+(ent s1 s2 f t:Int)≤100000000→
  CovM w b mv nv ov pv hb M L (Oa++(oL c f t pf pt++Ob)) (Pa++(pL c (mf M) f t pf pt++Pb)) root en→
  Calls Tryz.prog 137 #[.pointer (some ⟨b,0,none⟩),.int .i64 ((o+2*(t - f) - 2:Nat):Int),.agg #[.int .i64 (s1:Int),.int .i64 (s2:Int)],.int .i64 y] w
   (ChPost w b mv nv ov pv hb M L (Oa++(oL c' f t pf pt++Ob)) (Pa++(pL c' (mf M) f t pf pt++Pb)) root (en+(ent s1 s2 f t:Int))):=by
 intro d
 induction d with
 |zero=>intro f t pf pt o Oa Ob Pa Pb en w hd hf;omega
 |succ d ih=>
  intro f t pf pt o Oa Ob Pa Pb en w hd hf ht hOa hPa hN hs he0 he1 h
  have hep:=ent_pos s1 s2 f t
  have hroot:=hN.root hf
  have hOk:o+2*(t - f) - 2=Oa.length+(oK c f t).length:=by rw [oK_len c hf,hOa];omega
  have hPk:o+2*(t - f) - 2=Pa.length+(pK c (mf M) f t).length:=by rw [pK_len c _ hf,hPa];omega
  have hOk':o+2*(t - f) - 2=Oa.length+(oK c' f t).length:=by rw [oK_len c' hf,hOa];omega
  have hPk':o+2*(t - f) - 2=Pa.length+(pK c' (mf M) f t).length:=by rw [pK_len c' _ hf,hPa];omega
  by_cases h1:t≤s1∨s2≤f
  ·have hsame:=hst.out pf pt hf h1
   rw [ent_out h1,←oL_same hf hsame,←pL_same hf hsame]
   exact change_out b f t _ mv nv ov pv hb M L _ _ root en w s1 s2 y h he0 (by omega) _ hroot (ndG_fr _ _ _) (ndG_to _ _ _) h1
  ·by_cases h2:s1≤f∧t≤s2
   ·have hk:=hst.kids (mf M) h2
    have hcan:can (s1,s2) f t pf pt=1:=by unfold can;rw [if_pos ⟨h2.1,h2.2,hs⟩]
    have hc':c f t pf pt+y=c' f t pf pt:=by rw [hst,hcan];omega
    rw [ent_in h2]
    have hO:(Oa++(oL c f t pf pt++Ob))[o+2*(t - f) - 2]? = some (c f t pf pt):=by rw [oL_kids];exact get_mid _ _ _ _ hOk
    have hOs:(Oa++(oL c f t pf pt++Ob)).set (o+2*(t - f) - 2) (c f t pf pt+y)=Oa++(oL c' f t pf pt++Ob):=by
     rw [oL_kids,set_mid _ _ _ _ _ hOk,hc',hk.1,←oL_kids]
    have hPs:(Pa++(pL c (mf M) f t pf pt++Pb)).set (o+2*(t - f) - 2) (partV c' (mf M) f t pf pt)=Pa++(pL c' (mf M) f t pf pt++Pb):=by
     rw [pL_kids,set_mid _ _ _ _ _ hPk,hk.2,←pL_kids]
    have hkP:o+2*(t - f) - 2<(Pa++(pL c (mf M) f t pf pt++Pb)).length:=by
     rw [pL_kids];simp;omega
    have:=change_in b f t _ mv nv ov pv hb M L _ _ root en w s1 s2 y (c f t pf pt) (partV c' (mf M) f t pf pt) h he0 (by omega) _ hroot (ndG_fr _ _ _) (ndG_to _ _ _) hf h2.1 h2.2 hO hkP (hc f t pf pt).1 (hc f t pf pt).2 hy0 hy1 (fun w2 hw2=>by
     rw [hOs] at hw2
     refine knownC b f t pf pt o mv nv ov pv hb M L _ _ root (en+1) w2 c' hw2 hM hf ht hroot ?_ (fun hft=>?_)
     ·rw [oL_kids];exact get_mid _ _ _ _ hOk'
     ·rw [pL_kids,hk.2,List.append_assoc]
      exact ⟨pK_left c' (mf M) hft Pa _ (by have:=mid_in hft;rw [hPa];omega),pK_right c' (mf M) hft Pa _ (by rw [hPa];omega)⟩)
    rw [hOs,hPs] at this
    exact this
   ·have hft:f+1<t:=by omega
    have hm:=mid_in hft
    rw [ent_node h1 h2 hft] at he1 ⊢
    have hcan:can (s1,s2) f t pf pt=0:=by unfold can;rw [if_neg (fun hh=>h2 ⟨hh.1,hh.2.1⟩)]
    have hc':c' f t pf pt=c f t pf pt:=by rw [hst,hcan];omega
    have hx:ndG f t (o+2*(t - f) - 2)=⟨2,((o+2*(mid f t - f) - 2:Nat):Int),((o+2*(mid f t - f) - 1+2*(t - mid f t) - 2:Nat):Int),f,t,0,0⟩:=by
     unfold ndG
     rw [if_pos hft]
     have e:o+2*(t - f) - 2 - 2*(t - mid f t)=o+2*(mid f t - f) - 2:=by omega
     have e':o+2*(t - f) - 2 - 1=o+2*(mid f t - f) - 1+2*(t - mid f t) - 2:=by omega
     rw [e,e']
    rw [hx] at hroot
    have lO:=oL_len c f t hm.1
    have lO':=oL_len c' f t hm.1
    have lP:=pL_len c (mf M) f t hm.1
    have lP':=pL_len c' (mf M) f t hm.1
    have lP2:=pL_len c' (mf M) f t hm.2
    have ih1:=fun w2 hw2=>ih f (mid f t) f t o Oa (oL c (mid f t) t f t++([c f t pf pt]++Ob)) Pa (pL c (mf M) (mid f t) t f t++([partV c (mf M) f t pf pt]++Pb)) (en+1) w2 (by omega) hm.1 (by omega) hOa hPa (hN.left hft) h2 (by omega) (by omega) hw2
    have ih2:=fun w2 hw2=>ih (mid f t) t f t (o+2*(mid f t - f) - 1) (Oa++oL c' f (mid f t) f t) ([c f t pf pt]++Ob) (Pa++pL c' (mf M) f (mid f t) f t) ([partV c (mf M) f t pf pt]++Pb) (en+1+(ent s1 s2 f (mid f t):Int)) w2 (by omega) hm.2 ht (by rw [List.length_append,lO',hOa];omega) (by rw [List.length_append,lP',hPa];omega) (hN.right hft) h2 (by omega) (by omega) hw2
    have eO:Oa++(oL c f t pf pt++Ob)=Oa++(oL c f (mid f t) f t++(oL c (mid f t) t f t++([c f t pf pt]++Ob))):=by rw [oL_node c pf pt hft];simp only [List.append_assoc]
    have eP:Pa++(pL c (mf M) f t pf pt++Pb)=Pa++(pL c (mf M) f (mid f t) f t++(pL c (mf M) (mid f t) t f t++([partV c (mf M) f t pf pt]++Pb))):=by rw [pL_node c _ pf pt hft];simp only [List.append_assoc]
    have eO2:(Oa++oL c' f (mid f t) f t)++(oL c' (mid f t) t f t++([c f t pf pt]++Ob))=Oa++(oL c' f t pf pt++Ob):=by rw [oL_node c' pf pt hft,hc'];simp only [List.append_assoc]
    have eP2:(Pa++pL c' (mf M) f (mid f t) f t)++(pL c' (mf M) (mid f t) t f t++([partV c (mf M) f t pf pt]++Pb))=Pa++((pK c' (mf M) f t++[partV c (mf M) f t pf pt])++Pb):=by unfold pK;rw [if_pos hft];simp only [List.append_assoc]
    rw [eO,eP] at h
    have:=change_node b f t _ _ _ mv nv ov pv hb M L _ (Oa++(oL c' f (mid f t) f t++(oL c (mid f t) t f t++([c f t pf pt]++Ob)))) (Oa++(oL c' f t pf pt++Ob)) _ (Pa++(pL c' (mf M) f (mid f t) f t++(pL c (mf M) (mid f t) t f t++([partV c (mf M) f t pf pt]++Pb)))) (Pa++((pK c' (mf M) f t++[partV c (mf M) f t pf pt])++Pb)) root en (en+1+(ent s1 s2 f (mid f t):Int)) (en+((1+(ent s1 s2 f (mid f t)+ent s1 s2 (mid f t) t):Nat):Int)) w s1 s2 y (partV c' (mf M) f t pf pt) h he0 (by omega) _ hroot rfl rfl rfl rfl h1 h2 (by simp;omega) ih1 (fun w2 hw2=>by
     rw [←List.append_assoc Oa,←List.append_assoc Pa] at hw2
     have h3:=ih2 w2 hw2
     rw [eO2,eP2] at h3
     have e5:en+1+(ent s1 s2 f (mid f t):Int)+(ent s1 s2 (mid f t) t:Int)=en+((1+(ent s1 s2 f (mid f t)+ent s1 s2 (mid f t) t):Nat):Int):=by omega
     rw [e5] at h3
     exact h3) (fun w2 hw2=>by
     refine knownC b f t pf pt o mv nv ov pv hb M L _ _ root _ w2 c' hw2 hM hf ht (hN.root hf) ?_ (fun _=>?_)
     ·rw [oL_kids];exact get_mid _ _ _ _ hOk'
     ·rw [List.append_assoc]
      exact ⟨pK_left c' (mf M) hft Pa _ (by rw [hPa];omega),pK_right c' (mf M) hft Pa _ (by rw [hPa];omega)⟩)
    rw [set_mid _ _ _ _ _ hPk',←pL_kids] at this
    exact this
end Go.Proofs.YtkmnbodlciepaaaGreat
