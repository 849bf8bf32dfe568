/- A cover's change, plainly: the lists of the nodes' counts and parts. cover.change: a span's gaps -/
import Derived.Test.YtkbaaonchdeneaaGreatPb40
set_option maxHeartbeats 4000000
set_option maxRecDepth 100000
namespace Go.Proofs.YtkbaaonchdeneaaGreat
section
variable {α:Type}
theorem OG (A B C:List α) (x:α) {k:Nat} (hk:k=A.length+B.length):(A++((B++[x])++C))[k]? = some x:=by
 subst hk;rw [List.getElem?_append_right (by omega),List.getElem?_append_left (by simp),List.getElem?_append_right (by omega)];simp
theorem set_mid (A B C:List α) (x y:α) {k:Nat} (hk:k=A.length+B.length):(A++((B++[x])++C)).set k y=A++((B++[y])++C):=by
 subst hk;rw [List.set_append_right _ _ (by omega),List.set_append_left _ _ (by simp),List.set_append_right _ _ (by omega)];simp
end
def oL (c:Cnt) (f t pf pt:Nat):List Int:=FX (fun f t pf pt _=>c f t pf pt) f t pf pt 0
def pL (c:Cnt) (M:Nat→Int) (f t pf pt:Nat):List Part:=FX (fun f t pf pt _=>DR c M f t pf pt) f t pf pt 0
theorem Zb {α:Type} (g:Nat→Nat→Nat→Nat→α):∀(d f t pf pt o o':Nat),t - f≤d→f<t→FX (fun a b c d _=>g a b c d) f t pf pt o=FX (fun a b c d _=>g a b c d) f t pf pt o':=by
 intro d;induction d with
 |zero=>intro f t pf pt o o' h1 h2;omega
 |succ d ih=>
  intro f t pf pt o o' h1 h2;by_cases h:f+1<t
  ·have:=DJ h;rw [DL _ pf pt o h,DL _ pf pt o' h,ih f (mid f t) f t o o' (by omega) (by omega),ih (mid f t) t f t _ (o'+2*(mid f t - f) - 1) (by omega) (by omega)]
  ·rw [DK _ pf pt o h,DK _ pf pt o' h]
theorem kF (c:Cnt) {f t:Nat} (pf pt:Nat) (h:f<t):(oL c f t pf pt).length=2*(t - f) - 1:=IQ _ pf pt 0 h
theorem XT (c:Cnt) (M:Nat→Int) {f t:Nat} (pf pt:Nat) (h:f<t):(pL c M f t pf pt).length=2*(t - f) - 1:=IQ _ pf pt 0 h
theorem ak (c:Cnt) {f t:Nat} (pf pt:Nat) (h:f+1<t):oL c f t pf pt=oL c f (mid f t) f t++(oL c (mid f t) t f t++[c f t pf pt]):=by
 have:=DJ h;unfold oL;rw [DL _ pf pt 0 h,Zb (fun f t pf pt=>c f t pf pt) (t - f) (mid f t) t f t _ 0 (by omega) (by omega)]
theorem nO (c:Cnt) (M:Nat→Int) {f t:Nat} (pf pt:Nat) (h:f+1<t):pL c M f t pf pt=pL c M f (mid f t) f t++(pL c M (mid f t) t f t++[DR c M f t pf pt]):=by
 have:=DJ h;unfold pL;rw [DL _ pf pt 0 h,Zb (fun f t pf pt=>DR c M f t pf pt) (t - f) (mid f t) t f t _ 0 (by omega) (by omega)]
def oK (c:Cnt) (f t:Nat):List Int:=if f+1<t then oL c f (mid f t) f t++oL c (mid f t) t f t else []
def pK (c:Cnt) (M:Nat→Int) (f t:Nat):List Part:=if f+1<t then pL c M f (mid f t) f t++pL c M (mid f t) t f t else []
theorem QM (c:Cnt) {f t:Nat} (pf pt:Nat):oL c f t pf pt=oK c f t++[c f t pf pt]:=by
 unfold oK;by_cases h:f+1<t
 ·rw [ak c pf pt h,if_pos h,List.append_assoc]
 ·rw [if_neg h];unfold oL;rw [DK _ pf pt 0 h];rfl
theorem J9 (c:Cnt) (M:Nat→Int) {f t:Nat} (pf pt:Nat):pL c M f t pf pt=pK c M f t++[DR c M f t pf pt]:=by
 unfold pK;by_cases h:f+1<t
 ·rw [nO c M pf pt h,if_pos h,List.append_assoc]
 ·rw [if_neg h];unfold pL;rw [DK _ pf pt 0 h];rfl
theorem yI (c:Cnt) {f t:Nat} (h:f<t):(oK c f t).length=2*(t - f) - 2:=by
 have h1:=kF c 0 0 h;rw [QM,AY,List.length_singleton] at h1;omega
theorem XU (c:Cnt) (M:Nat→Int) {f t:Nat} (h:f<t):(pK c M f t).length=2*(t - f) - 2:=by
 have h1:=XT c M 0 0 h;rw [J9,AY,List.length_singleton] at h1;omega
theorem nP (c:Cnt) (M:Nat→Int) {f t:Nat} (h:f+1<t) (A C:List Part) {k:Nat} (hk:k=A.length+(2*(mid f t - f) - 2)):(A++(pK c M f t++C))[k]? = some (DR c M f (mid f t) f t):=by
 have hm:=DJ h;unfold pK;rw [if_pos h,J9 c M f t (f:=f) (t:=mid f t),List.append_assoc];exact OG _ _ _ _ (by rw [hk,XU c M hm.1])
theorem fB (c:Cnt) (M:Nat→Int) {f t:Nat} (h:f+1<t) (A C:List Part) {k:Nat} (hk:k=A.length+(2*(t - f) - 3)):(A++(pK c M f t++C))[k]? = some (DR c M (mid f t) t f t):=by
 have hm:=DJ h;unfold pK;rw [if_pos h,J9 c M f t (f:=mid f t) (t:=t),List.append_assoc,←List.append_assoc A];refine OG _ _ _ _ ?_
 rw [hk,AY,XT c M f t hm.1,XU c M hm.2];omega
def Step (c c':Cnt) (s:Nat×Nat) (by_:Int):Prop:=∀f t pf pt,c' f t pf pt=c f t pf pt+by_*can s f t pf pt
theorem Wh {c c':Cnt} {f t pf pt:Nat} (hf:f<t) (h:Hy c c' f t pf pt):oL c f t pf pt=oL c' f t pf pt:=
 Pq _ _ (t - f) f t pf pt 0 (Nat.le_refl _) hf (fun _=>h.1) (fun f' t' ML MN _ a1 a2 a3 a4 a5=>h.2 f' t' ML MN a1 a2 a3 a4 a5)
theorem Hy.sub {c c':Cnt} {f t pf pt:Nat} (h:Hy c c' f t pf pt) {f' t' ML MN:Nat} (a1:f≤f') (a2:f'<t') (a3:t'≤t) (a4:f≤ML) (a5:MN≤t):Hy c c' f' t' ML MN:=
 ⟨h.2 _ _ _ _ a1 a2 a3 a4 a5,fun _ _ _ _ b1 b2 b3 b4 b5=>h.2 _ _ _ _ (by omega) b2 (by omega) (by omega) (by omega)⟩
theorem Wi {c c':Cnt} {M:Nat→Int} {f t pf pt:Nat} (hf:f<t) (h:Hy c c' f t pf pt):pL c M f t pf pt=pL c' M f t pf pt:=
 Pq _ _ (t - f) f t pf pt 0 (Nat.le_refl _) hf (fun _=>WS (t - f) f t pf pt (Nat.le_refl _) h) (fun f' t' ML MN _ a1 a2 a3 a4 a5=>WS (t' - f') f' t' ML MN (Nat.le_refl _) (h.sub a1 a2 a3 a4 a5))
theorem Step.out {c c':Cnt} {s:Nat×Nat} {y:Int} (h:Step c c' s y) {f t:Nat} (pf pt:Nat) (hf:f<t) (ho:t≤s.1∨s.2≤f):Hy c c' f t pf pt:=by
 refine ⟨?_,fun f' t' ML MN a1 a2 a3 _ _=>?_⟩
 ·rw [h,lM ho (Nat.le_refl _) hf (Nat.le_refl _)];omega
 ·rw [h,lM ho a1 a2 a3];omega
theorem Step.below {c c':Cnt} {s:Nat×Nat} {y:Int} (h:Step c c' s y) {f t:Nat} (hs:s.1≤f∧t≤s.2) {f' t' ML MN:Nat} (h1:f≤ML) (h2:MN≤t):c f' t' ML MN=c' f' t' ML MN:=by
 rw [h,oO hs h1 h2];omega
theorem Step.kids {c c':Cnt} {s:Nat×Nat} {y:Int} (h:Step c c' s y) {f t:Nat} (M:Nat→Int) (hs:s.1≤f∧t≤s.2):oK c f t=oK c' f t∧pK c M f t=pK c' M f t:=by
 unfold oK pK;by_cases h1:f+1<t
 ·have hm:=DJ h1;have s1:Hy c c' f (mid f t) f t:=⟨h.below hs (by omega) (by omega),fun _ _ _ _ a1 a2 a3 a4 a5=>h.below hs (by omega) (by omega)⟩;have s2:Hy c c' (mid f t) t f t:=⟨h.below hs (by omega) (by omega),fun _ _ _ _ a1 a2 a3 a4 a5=>h.below hs (by omega) (by omega)⟩;rw [if_pos h1,if_pos h1,if_pos h1,if_pos h1,Wh hm.1 s1,Wh hm.2 s2,Wi hm.1 s1,Wi hm.2 s2];exact ⟨rfl,rfl⟩
 ·rw [if_neg h1,if_neg h1,if_neg h1,if_neg h1];exact ⟨rfl,rfl⟩
theorem yJ (M:Nat→Int) (G:List Bool):∀f,(∀i,f≤i→i<f+G.length→M i≤M (i+1))→0≤JE M f G∧JE M f G≤M (f+G.length) - M f:=by
 induction G with
 |nil=>intro f _;simp [JE]
 |cons b G ih=>
  intro f h;have h0:=h f (Nat.le_refl _) (by simp);obtain ⟨i1,i2⟩:=ih (f+1) (fun i a b=>h i (by omega) (by simp only [List.length_cons];omega));rw [List.length_cons,show f+(G.length+1)=f+1+G.length by omega,JE]
  cases b<;>simp<;>omega
theorem yK (G:List Bool):∀p,Eb p G≤G.length:=by
 induction G with
 |nil=>intro p;simp [Eb]
 |cons b G ih=>
  intro p;have:=ih b;rw [Eb,List.length_cons];split<;>omega
theorem Uc {c:Cnt} {M:Nat→Int} {f t:Nat} (pf pt:Nat) (hf:f<t) (hM:∀i,f≤i→i<t→M i≤M (i+1)) :
 0≤(DR c M f t pf pt).long∧(DR c M f t pf pt).long≤M t - M f∧0≤(DR c M f t pf pt).runs∧(DR c M f t pf pt).runs≤((t - f:Nat):Int):=by
 have hl:=IU (c:=c) pf pt hf;rw [WT (t - f) f t pf pt (Nat.le_refl _) hf];have h1:=yJ M (Ja c f t pf pt) f (fun i a b=>hM i a (by omega));have h2:=yK (Ja c f t pf pt) false;rw [hl] at h1 h2;rw [show f+(t - f)=t by omega] at h1;refine ⟨h1.1,h1.2,?_,?_⟩
 ·exact AU _
 ·show ((Eb false (Ja c f t pf pt):Nat):Int)≤_
  omega
open Go.RowKit
attribute [local go_sem ↓] Go.wp_at_zero Go.wp_at_succ
structure Dp (M:List Int):Prop where
 rise:M.Pairwise (· < ·)
 wf:∀x∈M,-9223372036854775808≤x∧x≤9223372036854775807
 len:M.length<400000
def mf (M:List Int) (i:Nat):Int:=M[i]?.getD 0
theorem G7 {M:List Int} {i:Nat} (h:i<M.length):M[i]? = some (mf M i):=by
 unfold mf;rw [AX h];rfl
theorem Dp.lt {M:List Int} (h:Dp M) {i j:Nat} (hij:i<j) (hj:j<M.length):mf M i<mf M j:=by
 have h1:=G7 (M:=M) (i:=i) (by omega);have h2:=G7 (M:=M) hj;obtain ⟨l1,e1⟩:=AV h1;obtain ⟨l2,e2⟩:=AV h2;have:=List.pairwise_iff_getElem.1 h.rise i j l1 l2 hij;rw [e1,e2] at this;exact this
theorem Dp.BO {M:List Int} (h:Dp M) {i:Nat} (hi:i<M.length) : -9223372036854775808≤mf M i∧mf M i≤9223372036854775807:=
 h.wf _ (List.mem_of_getElem? (G7 hi))
theorem Dp.mono {M:List Int} (h:Dp M) {t:Nat} (ht:t<M.length):∀i,i<t→mf M i≤mf M (i+1):=fun i hi=>Int.le_of_lt (h.lt (Nat.lt_succ_self i) (by omega))
def Hq (p:Part) (w:World) (e:Ending) (w':World):Prop:=e=.returned (D6 p)∧Bf [] w w'
theorem yL (b f t pf pt o:Nat) (mv nv ov pv:Value) (hb:Nat) (M:List Int) (L:List Nd) (O:List Int) (P:List Part) (root en:Int) (w:World) (c:Cnt) (h:Gm w b mv nv ov pv hb M L O P root en) (hM:Dp M) (hf:f<t) (ht:t<M.length)
 (hL:L[o+2*(t - f) - 2]? = some (VE f t (o+2*(t - f) - 2))) (hO:O[o+2*(t - f) - 2]? = some (c f t pf pt))
 (hP:f+1<t→P[o+2*(mid f t - f) - 2]? = some (DR c (mf M) f (mid f t) f t)∧P[o+2*(t - f) - 3]? = some (DR c (mf M) (mid f t) t f t)) :
 Calls Tryz.prog 265 #[.pointer (some ⟨b,0,none⟩),.int .i64 ((o+2*(t - f) - 2:Nat):Int)] w (Hq (DR c (mf M) f t pf pt) w):=by
 have hlf:=hM.lt hf ht;by_cases h0:0<c f t pf pt
 ·rw [Ky h0];refine rX b _ mv nv ov pv hb M L O P root en w h _ _ f t (mf M f) (mf M t) hL ?_ ?_ hO h0 (G7 (by omega)) (G7 ht) (hM.BO (by omega)).1 (Int.le_of_lt hlf) (hM.BO ht).2
  ·unfold VE;split<;>rfl
  ·unfold VE;split<;>rfl
 ·by_cases h1:f+1<t
  ·have hm:=DJ h1;rw [KJ h0 h1];obtain ⟨hp,hq⟩:=hP h1;have b1:=Uc (c:=c) (M:=mf M) (f:=f) (t:=mid f t) f t hm.1 (fun i _ hi=>hM.mono ht i (by omega));have b2:=Uc (c:=c) (M:=mf M) (f:=mid f t) (t:=t) f t hm.2 (fun i _ hi=>hM.mono ht i (by omega));have e1:=(hM.BO (i:=f) (by omega)).1;have e2:=(hM.BO ht).2;have e3:=hM.len
   have hx:VE f t (o+2*(t - f) - 2)=⟨2,((o+2*(mid f t - f) - 2:Nat):Int),((o+2*(t - f) - 3:Nat):Int),f,t,0,0⟩:=by
    unfold VE;rw [if_pos h1];have e:o+2*(t - f) - 2 - 2*(t - mid f t)=o+2*(mid f t - f) - 2:=by omega
    have e':o+2*(t - f) - 2 - 1=o+2*(t - f) - 3:=by omega
    rw [e,e']
   rw [hx] at hL;exact kE b _ mv nv ov pv hb M L O P root en w h _ _ _ _ _ _ hL rfl rfl rfl hO h0 hp hq (by omega) (by omega) (by omega) (by omega) (by omega) (by omega)
  ·rw [GX h0 h1];refine kD b _ mv nv ov pv hb M L O P root en w h _ _ hL ?_ hO h0
   unfold VE;rw [if_neg h1]
def SB (w:World) (b:Nat) (mv nv ov pv:Value) (hb:Nat) (M:List Int) (L:List Nd) (O:List Int) (P:List Part) (root en:Int) (e:Ending) (w':World):Prop:=
 e=.returned (.tuple #[])∧Gm w' b mv nv ov pv hb M L O P root en∧Bf (IC b ov pv) w w'
theorem kG (b f t k:Nat) (mv nv ov pv:Value) (hb:Nat) (M:List Int) (L:List Nd) (O:List Int) (P:List Part) (root en:Int) (w:World) (s1 s2:Nat) (y:Int) (h:Gm w b mv nv ov pv hb M L O P root en)
 (he0:0≤en) (he1:en<100000000) (x:Nd) (hx:L[k]? = some x) (hxf:x.fr=f) (hxt:x.to=t) (hs:t≤s1∨s2≤f) :
 Calls Tryz.prog 227 #[.pointer (some ⟨b,0,none⟩),.int .i64 (k:Int),.agg #[.int .i64 (s1:Int),.int .i64 (s2:Int)],.int .i64 y] w (SB w b mv nv ov pv hb M L O P root (en+1)):=by
 obtain ⟨xk,xl,xr,xf,xt,xa,xi⟩:=x;dsimp only at hxf hxt;subst hxf hxt;obtain ⟨-,-,-,-,-,-,c6,cf⟩:=h.cells;have f6:=cf 6;have hbw:b<w.heap.size:=lt_of_block h.head;have hsz:(w.setCell ⟨b,6,none⟩ (.int .i64 (en+1))).heap.size=w.heap.size:=by simp [World.setCell]
 have h1:=(h.enter (en+1)).Bh ((Bf.refl [] _).alloc (.cells #[.int .i64 (s1:Int),.int .i64 (s2:Int)] 230));have hu1:Bf (IC b ov pv) w ((w.setCell ⟨b,6,none⟩ (.int .i64 (en+1))).alloc (.cells #[.int .i64 (s1:Int),.int .i64 (s2:Int)] 230)):=((Bf.refl _ w).setCell (.inl (by simp [IC])) _).alloc _;have x0:((w.setCell ⟨b,6,none⟩ (.int .i64 (en+1))).alloc (.cells #[.int .i64 (s1:Int),.int .i64 (s2:Int)] 230)).cell? ⟨w.heap.size,0,none⟩=some (.int .i64 (s1:Int)):=by rw [World.cell?_alloc_at _ _ _ _ hsz.symm];rfl
 have x1:((w.setCell ⟨b,6,none⟩ (.int .i64 (en+1))).alloc (.cells #[.int .i64 (s1:Int),.int .i64 (s2:Int)] 230)).cell? ⟨w.heap.size,1,none⟩=some (.int .i64 (s2:Int)):=by rw [World.cell?_alloc_at _ _ _ _ hsz.symm];rfl
 have hz1:w.heap.size<((w.setCell ⟨b,6,none⟩ (.int .i64 (en+1))).alloc (.cells #[.int .i64 (s1:Int),.int .i64 (s2:Int)] 230)).heap.size:=by rw [World.size_alloc,hsz];omega
 have tY:=Ai c6 f6;obtain ⟨HW,-⟩:Hid (((w.setCell ⟨b,6,none⟩ (.int .i64 (en+1))).alloc (.cells #[.int .i64 (s1:Int),.int .i64 (s2:Int)] 230))=((w.setCell ⟨b,6,none⟩ (.int .i64 (en+1))).alloc (.cells #[.int .i64 (s1:Int),.int .i64 (s2:Int)] 230)))∧True:=⟨rfl,trivial⟩;clear cf hsz;have HX:=AQ hx;clear h;go_enter Tryz.func227,Tryz.ntmps227
 go_upto_region 2 with fail
 generalize ((w.setCell ⟨b,6,none⟩ (.int .i64 (en+1))).alloc (.cells #[.int .i64 (s1:Int),.int .i64 (s2:Int)] 230))=W1 at h1 hu1 x0 x1 hz1 ⊢;clear HW c6 f6 tY;obtain ⟨-,-,c2,c3,c4,-,-,-⟩:=h1.cells;obtain ⟨gn,Cn,rfl,Jd,-⟩:=EP h1.nodes hx;have hkl:=(AV hx).1;have hb1:b<W1.heap.size:=lt_of_block h1.head;have b0:(0:Int)≤(k:Int):=AU _;have b1:(k:Int)<(L.length:Int):=by omega
 have n0:W1.cell? ⟨gn,k*7,none⟩=some (.int .u8 xk):=Jd 0 _ rfl;have n1:W1.cell? ⟨gn,k*7+1,none⟩=some (.int .i64 xl):=Jd 1 _ rfl;have n2:W1.cell? ⟨gn,k*7+2,none⟩=some (.int .i64 xr):=Jd 2 _ rfl;have n3:W1.cell? ⟨gn,k*7+3,none⟩=some (.int .i64 (f:Int)):=Jd 3 _ rfl;have n4:W1.cell? ⟨gn,k*7+4,none⟩=some (.int .i64 (t:Int)):=Jd 4 _ rfl;have n5:W1.cell? ⟨gn,k*7+5,none⟩=some (.int .i64 xa):=Jd 5 _ rfl;have n6:W1.cell? ⟨gn,k*7+6,none⟩=some (.int .i64 xi):=Jd 6 _ rfl;have hgw:gn<W1.heap.size:=World.block_lt_of_cell? W1 _ n0;have HE:=Ai h1 hu1;clear hx HX h1 hu1 Jd hkl he0 he1;by_cases hs0:t≤s1
 ·go_wp2_with fail
  go_end0
  exact ⟨rfl,HE.1.Bh ((Bf.refl _ _).alloc _),HE.2.alloc _⟩
 ·have hs1:s2≤f:=by omega
  clear hs;go_wp2_with fail
  go_end0
  exact ⟨rfl,HE.1.Bh ((Bf.refl _ _).alloc _),HE.2.alloc _⟩
theorem KP.Jw (P:List Part) (v:Part):∀k,k<P.length→KP.all (P.set k v)=((((KP.all P).set (k*4) (.int .u64 v.long)).set (k*4+1) (.int .i64 v.runs)).set (k*4+2) (.bool v.first)).set (k*4+3) (.bool v.last):=by
 induction P with
 |nil=>intro k hk;simp at hk
 |cons p P ih=>
  intro k hk;have e:∀q:Part,∀Q:List Part,KP.all (q::Q)=.int .u64 q.long :: .int .i64 q.runs :: .bool q.first :: .bool q.last::KP.all Q:=fun q Q=>rfl
  rcases k with _ | k
  ·rw [List.set_cons_zero,e,e];rfl
  ·rw [List.set_cons_succ,e,e,ih k (by simpa using hk)];rw [show (k+1)*4=k*4+1+1+1+1 by omega];simp only [List.set_cons_succ,show k*4+1+1+1+1+1=(k*4+1)+1+1+1+1 by omega,show k*4+1+1+1+1+2=(k*4+2)+1+1+1+1 by omega,show k*4+1+1+1+1+3=(k*4+3)+1+1+1+1 by omega]
theorem Gm.part {w:World} {b:Nat} {mv nv ov:Value} {g C N hb:Nat} {M:List Int} {L:List Nd} {O:List Int} {P:List Part} {root en:Int} (h:Gm w b mv nv ov (.slice (some ⟨g,0,none⟩) N C) hb M L O P root en) (hN:P.length=N) (k:Nat) (hk:k<P.length) (v:Part) :
 Gm ((((w.setCell ⟨g,k*4,none⟩ (.int .u64 v.long)).setCell ⟨g,k*4+1,none⟩ (.int .i64 v.runs)).setCell ⟨g,k*4+2,none⟩ (.bool v.first)).setCell ⟨g,k*4+3,none⟩ (.bool v.last)) b mv nv ov (.slice (some ⟨g,0,none⟩) N C) hb M L O (P.set k v) root en:=by
 subst hN;have hg:g∈blk (.slice (some ⟨g,0,none⟩) P.length C):=by simp [blk]
 have hgb:g≠b:=fun e=>h.bp (by rw [←e];exact hg)
 have hgo:∀y∈blk ov,y≠g:=fun y hy e=>h.op y hy (by rw [e];exact hg)
 have hu:Bf [g] w ((((w.setCell ⟨g,k*4,none⟩ (.int .u64 v.long)).setCell ⟨g,k*4+1,none⟩ (.int .i64 v.runs)).setCell ⟨g,k*4+2,none⟩ (.bool v.first)).setCell ⟨g,k*4+3,none⟩ (.bool v.last)):=
  ((((Bf.refl [g] w).setCell (.inl (by simp)) _).setCell (.inl (by simp)) _).setCell (.inl (by simp)) _).setCell (.inl (by simp)) _
 refine { h with head:=(hu.block b (lt_of_block h.head) (by simpa using Ne.symm hgb)).trans h.head,marks:=Bg h.marks hu (fun y hy hc=>h.pm g hg (by simp at hc;rw [←hc];exact hy)),nodes:=Bg h.nodes hu (fun y hy hc=>h.pn g hg (by simp at hc;rw [←hc];exact hy)),often:=Bg h.often hu (fun y hy hc=>hgo y hy (by simpa using hc)),parts:=?_ }
 have h':w.ownsRow 0 236 4 (.slice (some ⟨g,0,none⟩) P.length C) P.length (KP.all P):=h.parts;have e1:=(World.ownsRow.stored h' (k*4) (.int .u64 v.long)).1;have e2:=(World.ownsRow.stored e1 (k*4+1) (.int .i64 v.runs)).1;have e3:=(World.ownsRow.stored e2 (k*4+2) (.bool v.first)).1;have e4:=(World.ownsRow.stored e3 (k*4+3) (.bool v.last)).1;unfold Kind.row;rw [KP.Jw P v k hk,List.length_set];exact e4
theorem rY (b f t k:Nat) (mv nv ov pv:Value) (hb:Nat) (M:List Int) (L:List Nd) (O:List Int) (P:List Part) (root en:Int) (w:World) (s1 s2:Nat) (y c:Int) (V:Part) (h:Gm w b mv nv ov pv hb M L O P root en)
 (he0:0≤en) (he1:en<100000000) (x:Nd) (hx:L[k]? = some x) (hxf:x.fr=f) (hxt:x.to=t) (hf:f<t) (hs1:s1≤f) (hs2:t≤s2) (hc:O[k]? = some c) (au:k<P.length)
 (hc0:0≤c) (hc1:c≤1000000) (hy0 : -1≤y) (hy1:y≤1)
 (hkn:∀w2,Gm w2 b mv nv ov pv hb M L (O.set k (c+y)) P root (en+1)→Calls Tryz.prog 265 #[.pointer (some ⟨b,0,none⟩),.int .i64 (k:Int)] w2 (Hq V w2)) :
 Calls Tryz.prog 227 #[.pointer (some ⟨b,0,none⟩),.int .i64 (k:Int),.agg #[.int .i64 (s1:Int),.int .i64 (s2:Int)],.int .i64 y] w (SB w b mv nv ov pv hb M L (O.set k (c+y)) (P.set k V) root (en+1)):=by
 obtain ⟨xk,xl,xr,xf,xt,xa,xi⟩:=x;dsimp only at hxf hxt;subst hxf hxt;obtain ⟨-,-,-,-,-,-,c6,cf⟩:=h.cells;have f6:=cf 6;have hbw:b<w.heap.size:=lt_of_block h.head;have hsz:(w.setCell ⟨b,6,none⟩ (.int .i64 (en+1))).heap.size=w.heap.size:=by simp [World.setCell]
 have h1:=(h.enter (en+1)).Bh ((Bf.refl [] _).alloc (.cells #[.int .i64 (s1:Int),.int .i64 (s2:Int)] 230));have hu1:Bf (IC b ov pv) w ((w.setCell ⟨b,6,none⟩ (.int .i64 (en+1))).alloc (.cells #[.int .i64 (s1:Int),.int .i64 (s2:Int)] 230)):=((Bf.refl _ w).setCell (.inl (by simp [IC])) _).alloc _;have x0:((w.setCell ⟨b,6,none⟩ (.int .i64 (en+1))).alloc (.cells #[.int .i64 (s1:Int),.int .i64 (s2:Int)] 230)).cell? ⟨w.heap.size,0,none⟩=some (.int .i64 (s1:Int)):=by rw [World.cell?_alloc_at _ _ _ _ hsz.symm];rfl
 have x1:((w.setCell ⟨b,6,none⟩ (.int .i64 (en+1))).alloc (.cells #[.int .i64 (s1:Int),.int .i64 (s2:Int)] 230)).cell? ⟨w.heap.size,1,none⟩=some (.int .i64 (s2:Int)):=by rw [World.cell?_alloc_at _ _ _ _ hsz.symm];rfl
 have hz1:w.heap.size<((w.setCell ⟨b,6,none⟩ (.int .i64 (en+1))).alloc (.cells #[.int .i64 (s1:Int),.int .i64 (s2:Int)] 230)).heap.size:=by rw [World.size_alloc,hsz];omega
 have tY:=Ai c6 f6;obtain ⟨HW,-⟩:Hid (((w.setCell ⟨b,6,none⟩ (.int .i64 (en+1))).alloc (.cells #[.int .i64 (s1:Int),.int .i64 (s2:Int)] 230))=((w.setCell ⟨b,6,none⟩ (.int .i64 (en+1))).alloc (.cells #[.int .i64 (s1:Int),.int .i64 (s2:Int)] 230)))∧True:=⟨rfl,trivial⟩;clear cf hsz;have HX:=AQ hx;have HK:=AQ hkn;have HC:=AQ hc;clear h hkn hc;go_enter Tryz.func227,Tryz.ntmps227
 go_upto_region 2 with fail
 generalize ((w.setCell ⟨b,6,none⟩ (.int .i64 (en+1))).alloc (.cells #[.int .i64 (s1:Int),.int .i64 (s2:Int)] 230))=W1 at h1 hu1 x0 x1 hz1 ⊢;clear HW c6 f6 tY;obtain ⟨-,-,c2,c3,c4,-,-,-⟩:=h1.cells;obtain ⟨gn,Cn,rfl,Jd,-⟩:=EP h1.nodes hx;have hkl:=(AV hx).1;have hb1:b<W1.heap.size:=lt_of_block h1.head;have b0:(0:Int)≤(k:Int):=AU _;have b1:(k:Int)<(L.length:Int):=by omega
 have n0:W1.cell? ⟨gn,k*7,none⟩=some (.int .u8 xk):=Jd 0 _ rfl;have n1:W1.cell? ⟨gn,k*7+1,none⟩=some (.int .i64 xl):=Jd 1 _ rfl;have n2:W1.cell? ⟨gn,k*7+2,none⟩=some (.int .i64 xr):=Jd 2 _ rfl;have n3:W1.cell? ⟨gn,k*7+3,none⟩=some (.int .i64 (f:Int)):=Jd 3 _ rfl;have n4:W1.cell? ⟨gn,k*7+4,none⟩=some (.int .i64 (t:Int)):=Jd 4 _ rfl;have n5:W1.cell? ⟨gn,k*7+5,none⟩=some (.int .i64 xa):=Jd 5 _ rfl;have n6:W1.cell? ⟨gn,k*7+6,none⟩=some (.int .i64 xi):=Jd 6 _ rfl;have hgw:gn<W1.heap.size:=World.block_lt_of_cell? W1 _ n0;obtain ⟨go,Co,hov,yH,eof⟩:=EP h1.often HC.out;subst hov
 have o0:W1.cell? ⟨go,k,none⟩=some (.int .i64 c):=by
  have:=yH 0 _ rfl;simpa [KC] using this
 have of0:=eof k;have hgo:go<W1.heap.size:=World.block_lt_of_cell? W1 _ o0;have b1o:(k:Int)<(O.length:Int):=by have:=(AV HC.out).1;omega
 have a8a:go∈IC b (.slice (some ⟨go,0,none⟩) O.length Co) pv:=by simp [IC,blk]
 have h2:=(h1.oft rfl k (c+y)).Bh ((Bf.refl [] _).alloc (.cells #[.int .u8 xk,.int .i64 xl,.int .i64 xr,.int .i64 (f:Int),.int .i64 (t:Int),.int .i64 xa,.int .i64 xi] 339));have hu2:=(hu1.setCell (p:=⟨go,k,none⟩) (.inl a8a) (.int .i64 (c+y))).alloc (.cells #[.int .u8 xk,.int .i64 xl,.int .i64 xr,.int .i64 (f:Int),.int .i64 (t:Int),.int .i64 xa,.int .i64 xi] 339);have HC2:=AQ h2;have Fq:=AQ hu2;have XV:=AQ au;have g1:¬t≤s1:=by omega
 have g2:¬s2≤f:=by omega
 clear hx HX h1 hu1 Jd hkl he0 he1 yH eof h2 hu2 au hf c4 a8a;go_upto_region 8 with fail
 have au:=XV.out;clear XV;generalize ((W1.setCell ⟨go,k,none⟩ (.int .i64 (c+y))).alloc (.cells #[.int .u8 xk,.int .i64 xl,.int .i64 xr,.int .i64 (f:Int),.int .i64 (t:Int),.int .i64 xa,.int .i64 xi] 339))=W2 at HC2 Fq ⊢;obtain ⟨gp,Cp,hpv,-,-⟩:=EP HC2.out.parts (AX au);subst hpv;have s4:W2.drew.cell? ⟨b,4,none⟩=some (.slice (some ⟨gp,0,none⟩) P.length Cp):=HC2.out.cells.2.2.2.2.1;have hk4:=HK.out W2.drew (HC2.out.Bh (Bf.refl [] _).drew);obtain ⟨vl,vr,vf,va⟩:=V;have yM:=AQ hk4;have k0:(0:Int)≤(k:Int):=AU _;have k1:(k:Int)<(P.length:Int):=by omega
 have XV:=AQ au;clear hk4 au;unfold Hq D6 at yM;dsimp only at yM;refine Bj.start [8,9] (fun w'=>w'.cell? ⟨b,4,none⟩=some (.slice (some ⟨gp,0,none⟩) P.length Cp)) (by kernel_rfl) ?_ fun hS=>?_
 ·exact s4
 refine' Bj.mw 0 (oi:=⟨some 71,_,_,_,_,_⟩) ?_
 simp only [Act.put,sA,sZ,sS];refine' Bj.mw 1 (oi:=⟨some 72,_,_,_,_,_⟩) ?_
 simp only [Act.put,sA,sZ,sS];refine' Bj.mw 2 (oi:=⟨some 73,_,_,_,_,_⟩) ?_
 simp only [Act.put,sA,sZ,sS];refine' Bj.tl 1 3 (oi:=⟨some 74,_,_,_,_,_⟩) ?_
 simp only [Act.put,sA,sZ,sS];refine' Bj.mw 4 (oi:=⟨some 75,_,_,_,_,_⟩) ?_
 simp only [Act.put,sA,sZ,sS];refine' Bj.mw 5 (oi:=⟨some 76,_,_,_,_,_⟩) ?_
 simp only [Act.put,sA,sZ,sS];refine' Bj.mw 6 (oi:=⟨some 77,_,_,_,_,_⟩) ?_
 simp only [Act.put,sA,sZ,sS];refine Bj.one (i:=7) (o:=⟨some 78,_,_,_,_,_⟩) rfl (by kernel_rfl) fun K hK=>?_
 go_simp
 go_at_call 265
 (with_reducible refine yM.out.mono ?_);rintro e w4 ⟨rfl,Gt⟩;have h4:=HC2.out.Bh ((Bf.refl [] W2).drew.trans Gt);obtain ⟨gp',Cp',hpp,ep,fC⟩:=EP h4.parts (AX XV.out)
 cases hpp
 have z0:w4.cell? ⟨gp,k*4,none⟩=some (.int .u64 (P[k]'XV.out).long):=ep 0 _ rfl;have z1:w4.cell? ⟨gp,k*4+1,none⟩=some (.int .i64 (P[k]'XV.out).runs):=ep 1 _ rfl;have z2:w4.cell? ⟨gp,k*4+2,none⟩=some (.bool (P[k]'XV.out).first):=ep 2 _ rfl;have z3:w4.cell? ⟨gp,k*4+3,none⟩=some (.bool (P[k]'XV.out).last):=ep 3 _ rfl;have y0:=fC (k*4);have y1:=fC (k*4+1);have y2:=fC (k*4+2);have y3:=fC (k*4+3);have Vz:=AQ h4;have Zu:=AQ (show Bf (IC b (.slice (some ⟨go,0,none⟩) O.length Co) (.slice (some ⟨gp,0,none⟩) P.length Cp)) w w4 from Fq.out.trans (((Bf.refl [] W2).drew.trans Gt).mono (by simp)));clear h4 ep fC;refine hK.out _ _ (fun _ h=>?_) ?_
 ·exact (Gt.cell (p:=⟨b,4,none⟩) (World.block_lt_of_cell? _ _ h) (by simp)).trans h
 clear hK K;try simp only [Act.put,sA,sZ,sS]
 refine' Bj.mw 8 (oi:=⟨some 79,_,_,_,_,_⟩) ?_
 simp only [Act.put,sA,sZ,sS];refine Bj.one (i:=9) (o:=⟨none,_,_,_,_,_⟩) rfl (by kernel_rfl) fun K hK=>?_
 go_simp
 refine hK.out _ _ (fun h=>(by cases h)) ?_
 clear hK K;try simp only [Act.put,sA,sZ,sS]
 refine Bj.done (by kernel_rfl) ?_
 go_wp2_with fail
 go_end0
 refine ⟨rfl,Vz.out.part rfl k XV.out ⟨vl,vr,vf,va⟩,?_⟩
 have hg:gp∈IC b (.slice (some ⟨go,0,none⟩) O.length Co) (.slice (some ⟨gp,0,none⟩) P.length Cp):=by simp [IC,blk]
 exact (((Zu.out.setCell (.inl hg) _).setCell (.inl hg) _).setCell (.inl hg) _).setCell (.inl hg) _
theorem fD (b f t k l r:Nat) (mv nv ov pv:Value) (hb:Nat) (M:List Int) (L:List Nd) (O O1 O2:List Int) (P P1 P2:List Part) (root en Jd en2:Int) (w:World) (s1 s2:Nat) (y:Int) (V:Part) (h:Gm w b mv nv ov pv hb M L O P root en)
 (he0:0≤en) (he1:en<100000000) (x:Nd) (hx:L[k]? = some x) (hxl:x.l=l) (hxr:x.r=r) (hxf:x.fr=f) (hxt:x.to=t) (hno:¬(t≤s1∨s2≤f)) (hni:¬(s1≤f∧t≤s2)) (au:k<P2.length)
 (a8b:∀w2,Gm w2 b mv nv ov pv hb M L O P root (en+1)→Calls Tryz.prog 227 #[.pointer (some ⟨b,0,none⟩),.int .i64 (l:Int),.agg #[.int .i64 (s1:Int),.int .i64 (s2:Int)],.int .i64 y] w2 (SB w2 b mv nv ov pv hb M L O1 P1 root Jd))
 (yN:∀w2,Gm w2 b mv nv ov pv hb M L O1 P1 root Jd→Calls Tryz.prog 227 #[.pointer (some ⟨b,0,none⟩),.int .i64 (r:Int),.agg #[.int .i64 (s1:Int),.int .i64 (s2:Int)],.int .i64 y] w2 (SB w2 b mv nv ov pv hb M L O2 P2 root en2))
 (hkn:∀w2,Gm w2 b mv nv ov pv hb M L O2 P2 root en2→Calls Tryz.prog 265 #[.pointer (some ⟨b,0,none⟩),.int .i64 (k:Int)] w2 (Hq V w2)) :
 Calls Tryz.prog 227 #[.pointer (some ⟨b,0,none⟩),.int .i64 (k:Int),.agg #[.int .i64 (s1:Int),.int .i64 (s2:Int)],.int .i64 y] w (SB w b mv nv ov pv hb M L O2 (P2.set k V) root en2):=by
 obtain ⟨xk,xl,xr,xf,xt,xa,xi⟩:=x;dsimp only at hxf hxt hxl hxr;subst hxf hxt hxl hxr;have GY:=AQ h.lt;have a1w:=AQ au;obtain ⟨-,-,-,-,-,-,c6,cf⟩:=h.cells;have f6:=cf 6;have hbw:b<w.heap.size:=lt_of_block h.head;have hsz:(w.setCell ⟨b,6,none⟩ (.int .i64 (en+1))).heap.size=w.heap.size:=by simp [World.setCell]
 have h1:=(h.enter (en+1)).Bh ((Bf.refl [] _).alloc (.cells #[.int .i64 (s1:Int),.int .i64 (s2:Int)] 230));have hu1:Bf (IC b ov pv) w ((w.setCell ⟨b,6,none⟩ (.int .i64 (en+1))).alloc (.cells #[.int .i64 (s1:Int),.int .i64 (s2:Int)] 230)):=((Bf.refl _ w).setCell (.inl (by simp [IC])) _).alloc _;have x0:((w.setCell ⟨b,6,none⟩ (.int .i64 (en+1))).alloc (.cells #[.int .i64 (s1:Int),.int .i64 (s2:Int)] 230)).cell? ⟨w.heap.size,0,none⟩=some (.int .i64 (s1:Int)):=by rw [World.cell?_alloc_at _ _ _ _ hsz.symm];rfl
 have x1:((w.setCell ⟨b,6,none⟩ (.int .i64 (en+1))).alloc (.cells #[.int .i64 (s1:Int),.int .i64 (s2:Int)] 230)).cell? ⟨w.heap.size,1,none⟩=some (.int .i64 (s2:Int)):=by rw [World.cell?_alloc_at _ _ _ _ hsz.symm];rfl
 have hz1:w.heap.size<((w.setCell ⟨b,6,none⟩ (.int .i64 (en+1))).alloc (.cells #[.int .i64 (s1:Int),.int .i64 (s2:Int)] 230)).heap.size:=by rw [World.size_alloc,hsz];omega
 have tY:=Ai c6 f6;obtain ⟨HW,-⟩:Hid (((w.setCell ⟨b,6,none⟩ (.int .i64 (en+1))).alloc (.cells #[.int .i64 (s1:Int),.int .i64 (s2:Int)] 230))=((w.setCell ⟨b,6,none⟩ (.int .i64 (en+1))).alloc (.cells #[.int .i64 (s1:Int),.int .i64 (s2:Int)] 230)))∧True:=⟨rfl,trivial⟩;clear cf hsz;have HX:=AQ hx;have HK:=AQ hkn;have HI2:=AQ yN;have HI0:=AQ a8b;have HNI:=AQ hni;clear h hkn yN a8b au hni;go_enter Tryz.func227,Tryz.ntmps227
 go_upto_region 2 with fail
 generalize ((w.setCell ⟨b,6,none⟩ (.int .i64 (en+1))).alloc (.cells #[.int .i64 (s1:Int),.int .i64 (s2:Int)] 230))=W1 at h1 hu1 x0 x1 hz1 ⊢;clear HW c6 f6 tY;obtain ⟨-,-,c2,c3,c4,-,-,-⟩:=h1.cells;obtain ⟨gn,Cn,rfl,Jd,-⟩:=EP h1.nodes hx;have hkl:=(AV hx).1;have hb1:b<W1.heap.size:=lt_of_block h1.head;have b0:(0:Int)≤(k:Int):=AU _;have b1:(k:Int)<(L.length:Int):=by omega
 have n0:W1.cell? ⟨gn,k*7,none⟩=some (.int .u8 xk):=Jd 0 _ rfl;have n1:W1.cell? ⟨gn,k*7+1,none⟩=some (.int .i64 (l:Int)):=Jd 1 _ rfl;have n2:W1.cell? ⟨gn,k*7+2,none⟩=some (.int .i64 (r:Int)):=Jd 2 _ rfl;have n3:W1.cell? ⟨gn,k*7+3,none⟩=some (.int .i64 (f:Int)):=Jd 3 _ rfl;have n4:W1.cell? ⟨gn,k*7+4,none⟩=some (.int .i64 (t:Int)):=Jd 4 _ rfl;have n5:W1.cell? ⟨gn,k*7+5,none⟩=some (.int .i64 xa):=Jd 5 _ rfl;have n6:W1.cell? ⟨gn,k*7+6,none⟩=some (.int .i64 xi):=Jd 6 _ rfl;have hgw:gn<W1.heap.size:=World.block_lt_of_cell? W1 _ n0;have hu0:Bf [] W1 (W1.alloc (.cells #[.int .u8 xk,.int .i64 (l:Int),.int .i64 (r:Int),.int .i64 (f:Int),.int .i64 (t:Int),.int .i64 xa,.int .i64 xi] 339)):=(Bf.refl _ _).alloc _;have HI1:=AQ (HI0.out _ (h1.Bh hu0));have FY:=AQ hu1;have g1:¬t≤s1:=by omega
 have g2:¬s2≤f:=by omega
 have yN:=HI2.out;clear HI2;clear hx HX h1 hu1 hu0 Jd hkl he0 he1 c3 c4 HI0 hno;have HIH:=AQ yN;clear yN;by_cases g3:s1≤f
 ·have g4:¬t≤s2:=fun hc=>HNI.out ⟨g3,hc⟩
  go_wp2_with fail
  (with_reducible refine HI1.out.mono ?_);rintro e w3 ⟨rfl,h3,hu3⟩;have nl:∀y,w.heap.size≤y→y∉IC b ov pv:=fun y hy hc=>by have:=GY.out y hc;omega
  have m2:w3.cell? ⟨W1.heap.size,2,none⟩=some (.int .i64 (r:Int)):=(hu3.cell (p:=⟨W1.heap.size,2,none⟩) (by simp) (nl W1.heap.size (by omega))).trans (by rw [World.cell?_alloc_at _ _ _ _ rfl];rfl);have u0:w3.cell? ⟨w.heap.size,0,none⟩=some (.int .i64 (s1:Int)):=(hu3.cell (p:=⟨w.heap.size,0,none⟩) (by simp;omega) (nl w.heap.size (Nat.le_refl _))).trans (by rw [World.cell?_alloc_past _ _ _ hz1];exact x0);have u1:w3.cell? ⟨w.heap.size,1,none⟩=some (.int .i64 (s2:Int)):=(hu3.cell (p:=⟨w.heap.size,1,none⟩) (by simp;omega) (nl w.heap.size (Nat.le_refl _))).trans (by rw [World.cell?_alloc_past _ _ _ hz1];exact x1);have HI2:=AQ (HIH.out w3 h3);have Gj:=AQ ((FY.out.alloc (.cells #[.int .u8 xk,.int .i64 (l:Int),.int .i64 (r:Int),.int .i64 (f:Int),.int .i64 (t:Int),.int .i64 xa,.int .i64 xi] 339)).trans hu3);clear h3 hu3 nl;go_wp2_with fail
  (with_reducible refine HI2.out.mono ?_);rintro e w4 ⟨rfl,h4,Gt⟩;have Xq:=AQ h4;have LJ:=AQ (Gj.out.trans Gt);clear h4 Gt;go_upto_region 8 with fail
  have au:=a1w.out;clear a1w;obtain ⟨gp,Cp,hpv,-,-⟩:=EP Xq.out.parts (AX au);subst hpv;have s4:w4.drew.cell? ⟨b,4,none⟩=some (.slice (some ⟨gp,0,none⟩) P2.length Cp):=Xq.out.cells.2.2.2.2.1;have hk4:=HK.out w4.drew (Xq.out.Bh (Bf.refl [] _).drew);obtain ⟨vl,vr,vf,va⟩:=V;have yM:=AQ hk4;have k0:(0:Int)≤(k:Int):=AU _;have k1:(k:Int)<(P2.length:Int):=by omega
  have XV:=AQ au;clear hk4 au;unfold Hq D6 at yM;dsimp only at yM;refine Bj.start [8,9] (fun w'=>w'.cell? ⟨b,4,none⟩=some (.slice (some ⟨gp,0,none⟩) P2.length Cp)) (by kernel_rfl) ?_ fun hS=>?_
  ·exact s4
  refine' Bj.mw 0 (oi:=⟨some 71,_,_,_,_,_⟩) ?_
  simp only [Act.put,sA,sZ,sS];refine' Bj.mw 1 (oi:=⟨some 72,_,_,_,_,_⟩) ?_
  simp only [Act.put,sA,sZ,sS];refine' Bj.mw 2 (oi:=⟨some 73,_,_,_,_,_⟩) ?_
  simp only [Act.put,sA,sZ,sS];refine' Bj.tl 1 3 (oi:=⟨some 74,_,_,_,_,_⟩) ?_
  simp only [Act.put,sA,sZ,sS];refine' Bj.mw 4 (oi:=⟨some 75,_,_,_,_,_⟩) ?_
  simp only [Act.put,sA,sZ,sS];refine' Bj.mw 5 (oi:=⟨some 76,_,_,_,_,_⟩) ?_
  simp only [Act.put,sA,sZ,sS];refine' Bj.mw 6 (oi:=⟨some 77,_,_,_,_,_⟩) ?_
  simp only [Act.put,sA,sZ,sS];refine Bj.one (i:=7) (o:=⟨some 78,_,_,_,_,_⟩) rfl (by kernel_rfl) fun K hK=>?_
  go_simp
  go_at_call 265
  (with_reducible refine yM.out.mono ?_);rintro e w6 ⟨rfl,Gt⟩;have h4:=Xq.out.Bh ((Bf.refl [] w4).drew.trans Gt);obtain ⟨gp',Cp',hpp,ep,fC⟩:=EP h4.parts (AX XV.out)
  cases hpp
  have z0:w6.cell? ⟨gp,k*4,none⟩=some (.int .u64 (P2[k]'XV.out).long):=ep 0 _ rfl;have z1:w6.cell? ⟨gp,k*4+1,none⟩=some (.int .i64 (P2[k]'XV.out).runs):=ep 1 _ rfl;have z2:w6.cell? ⟨gp,k*4+2,none⟩=some (.bool (P2[k]'XV.out).first):=ep 2 _ rfl;have z3:w6.cell? ⟨gp,k*4+3,none⟩=some (.bool (P2[k]'XV.out).last):=ep 3 _ rfl;have y0:=fC (k*4);have y1:=fC (k*4+1);have y2:=fC (k*4+2);have y3:=fC (k*4+3);have Vz:=AQ h4;have Zu:=AQ (show Bf (IC b ov (.slice (some ⟨gp,0,none⟩) P2.length Cp)) w w6 from LJ.out.trans (((Bf.refl [] w4).drew.trans Gt).mono (by simp)));clear h4 ep fC;refine hK.out _ _ (fun _ h=>?_) ?_
  ·exact (Gt.cell (p:=⟨b,4,none⟩) (World.block_lt_of_cell? _ _ h) (by simp)).trans h
  clear hK K;try simp only [Act.put,sA,sZ,sS]
  refine' Bj.mw 8 (oi:=⟨some 79,_,_,_,_,_⟩) ?_
  simp only [Act.put,sA,sZ,sS];refine Bj.one (i:=9) (o:=⟨none,_,_,_,_,_⟩) rfl (by kernel_rfl) fun K hK=>?_
  go_simp
  refine hK.out _ _ (fun h=>(by cases h)) ?_
  clear hK K;try simp only [Act.put,sA,sZ,sS]
  refine Bj.done (by kernel_rfl) ?_
  go_wp2_with fail
  go_end0
  refine ⟨rfl,Vz.out.part rfl k XV.out ⟨vl,vr,vf,va⟩,?_⟩
  have hg:gp∈IC b ov (.slice (some ⟨gp,0,none⟩) P2.length Cp):=by simp [IC,blk]
  exact (((Zu.out.setCell (.inl hg) _).setCell (.inl hg) _).setCell (.inl hg) _).setCell (.inl hg) _
 ·skip
  go_wp2_with fail
  (with_reducible refine HI1.out.mono ?_);rintro e w3 ⟨rfl,h3,hu3⟩;have nl:∀y,w.heap.size≤y→y∉IC b ov pv:=fun y hy hc=>by have:=GY.out y hc;omega
  have m2:w3.cell? ⟨W1.heap.size,2,none⟩=some (.int .i64 (r:Int)):=(hu3.cell (p:=⟨W1.heap.size,2,none⟩) (by simp) (nl W1.heap.size (by omega))).trans (by rw [World.cell?_alloc_at _ _ _ _ rfl];rfl);have u0:w3.cell? ⟨w.heap.size,0,none⟩=some (.int .i64 (s1:Int)):=(hu3.cell (p:=⟨w.heap.size,0,none⟩) (by simp;omega) (nl w.heap.size (Nat.le_refl _))).trans (by rw [World.cell?_alloc_past _ _ _ hz1];exact x0);have u1:w3.cell? ⟨w.heap.size,1,none⟩=some (.int .i64 (s2:Int)):=(hu3.cell (p:=⟨w.heap.size,1,none⟩) (by simp;omega) (nl w.heap.size (Nat.le_refl _))).trans (by rw [World.cell?_alloc_past _ _ _ hz1];exact x1);have HI2:=AQ (HIH.out w3 h3);have Gj:=AQ ((FY.out.alloc (.cells #[.int .u8 xk,.int .i64 (l:Int),.int .i64 (r:Int),.int .i64 (f:Int),.int .i64 (t:Int),.int .i64 xa,.int .i64 xi] 339)).trans hu3);clear h3 hu3 nl;go_wp2_with fail
  (with_reducible refine HI2.out.mono ?_);rintro e w4 ⟨rfl,h4,Gt⟩;have Xq:=AQ h4;have LJ:=AQ (Gj.out.trans Gt);clear h4 Gt;go_upto_region 8 with fail
  have au:=a1w.out;clear a1w;obtain ⟨gp,Cp,hpv,-,-⟩:=EP Xq.out.parts (AX au);subst hpv;have s4:w4.drew.cell? ⟨b,4,none⟩=some (.slice (some ⟨gp,0,none⟩) P2.length Cp):=Xq.out.cells.2.2.2.2.1;have hk4:=HK.out w4.drew (Xq.out.Bh (Bf.refl [] _).drew);obtain ⟨vl,vr,vf,va⟩:=V;have yM:=AQ hk4;have k0:(0:Int)≤(k:Int):=AU _;have k1:(k:Int)<(P2.length:Int):=by omega
  have XV:=AQ au;clear hk4 au;unfold Hq D6 at yM;dsimp only at yM;refine Bj.start [8,9] (fun w'=>w'.cell? ⟨b,4,none⟩=some (.slice (some ⟨gp,0,none⟩) P2.length Cp)) (by kernel_rfl) ?_ fun hS=>?_
  ·exact s4
  refine' Bj.mw 0 (oi:=⟨some 71,_,_,_,_,_⟩) ?_
  simp only [Act.put,sA,sZ,sS];refine' Bj.mw 1 (oi:=⟨some 72,_,_,_,_,_⟩) ?_
  simp only [Act.put,sA,sZ,sS];refine' Bj.mw 2 (oi:=⟨some 73,_,_,_,_,_⟩) ?_
  simp only [Act.put,sA,sZ,sS];refine' Bj.tl 1 3 (oi:=⟨some 74,_,_,_,_,_⟩) ?_
  simp only [Act.put,sA,sZ,sS];refine' Bj.mw 4 (oi:=⟨some 75,_,_,_,_,_⟩) ?_
  simp only [Act.put,sA,sZ,sS];refine' Bj.mw 5 (oi:=⟨some 76,_,_,_,_,_⟩) ?_
  simp only [Act.put,sA,sZ,sS];refine' Bj.mw 6 (oi:=⟨some 77,_,_,_,_,_⟩) ?_
  simp only [Act.put,sA,sZ,sS];refine Bj.one (i:=7) (o:=⟨some 78,_,_,_,_,_⟩) rfl (by kernel_rfl) fun K hK=>?_
  go_simp
  go_at_call 265
  (with_reducible refine yM.out.mono ?_);rintro e w6 ⟨rfl,Gt⟩;have h4:=Xq.out.Bh ((Bf.refl [] w4).drew.trans Gt);obtain ⟨gp',Cp',hpp,ep,fC⟩:=EP h4.parts (AX XV.out)
  cases hpp
  have z0:w6.cell? ⟨gp,k*4,none⟩=some (.int .u64 (P2[k]'XV.out).long):=ep 0 _ rfl;have z1:w6.cell? ⟨gp,k*4+1,none⟩=some (.int .i64 (P2[k]'XV.out).runs):=ep 1 _ rfl;have z2:w6.cell? ⟨gp,k*4+2,none⟩=some (.bool (P2[k]'XV.out).first):=ep 2 _ rfl;have z3:w6.cell? ⟨gp,k*4+3,none⟩=some (.bool (P2[k]'XV.out).last):=ep 3 _ rfl;have y0:=fC (k*4);have y1:=fC (k*4+1);have y2:=fC (k*4+2);have y3:=fC (k*4+3);have Vz:=AQ h4;have Zu:=AQ (show Bf (IC b ov (.slice (some ⟨gp,0,none⟩) P2.length Cp)) w w6 from LJ.out.trans (((Bf.refl [] w4).drew.trans Gt).mono (by simp)));clear h4 ep fC;refine hK.out _ _ (fun _ h=>?_) ?_
  ·exact (Gt.cell (p:=⟨b,4,none⟩) (World.block_lt_of_cell? _ _ h) (by simp)).trans h
  clear hK K;try simp only [Act.put,sA,sZ,sS]
  refine' Bj.mw 8 (oi:=⟨some 79,_,_,_,_,_⟩) ?_
  simp only [Act.put,sA,sZ,sS];refine Bj.one (i:=9) (o:=⟨none,_,_,_,_,_⟩) rfl (by kernel_rfl) fun K hK=>?_
  go_simp
  refine hK.out _ _ (fun h=>(by cases h)) ?_
  clear hK K;try simp only [Act.put,sA,sZ,sS]
  refine Bj.done (by kernel_rfl) ?_
  go_wp2_with fail
  go_end0
  refine ⟨rfl,Vz.out.part rfl k XV.out ⟨vl,vr,vf,va⟩,?_⟩
  have hg:gp∈IC b ov (.slice (some ⟨gp,0,none⟩) P2.length Cp):=by simp [IC,blk]
  exact (((Zu.out.setCell (.inl hg) _).setCell (.inl hg) _).setCell (.inl hg) _).setCell (.inl hg) _
def Jy (L:List Nd) (f t o:Nat):Prop:=∃Na Nb,L=Na++(Dc f t o++Nb)∧Na.length=o
theorem Jy.root {L:List Nd} {f t o:Nat} (h:Jy L f t o) (hf:f<t):L[o+2*(t - f) - 2]? = some (VE f t (o+2*(t - f) - 2)):=by
 obtain ⟨Na,Nb,rfl,hl⟩:=h;unfold Dc;rw [WR _ 0 0 o hf];exact OG _ _ _ _ (by rw [hl,Zo _ o hf];omega)
theorem Jy.left {L:List Nd} {f t o:Nat} (h:Jy L f t o) (h1:f+1<t):Jy L f (mid f t) o:=by
 obtain ⟨Na,Nb,rfl,hl⟩:=h;rw [JQ o h1];exact ⟨Na,_,by simp only [List.append_assoc];rfl,hl⟩
theorem Jy.right {L:List Nd} {f t o:Nat} (h:Jy L f t o) (h1:f+1<t):Jy L (mid f t) t (o+2*(mid f t - f) - 1):=by
 have hm:=DJ h1;obtain ⟨Na,Nb,rfl,hl⟩:=h;rw [JQ o h1];refine ⟨Na++Dc f (mid f t) o,_,by simp only [List.append_assoc];rfl,?_⟩
 rw [AY,EC o hm.1,hl];omega
theorem yO (f t a:Nat):(VE f t a).fr=f:=by unfold VE;split<;>rfl
theorem yP (f t a:Nat):(VE f t a).to=t:=by unfold VE;split<;>rfl
theorem a4W (b:Nat) (mv nv ov pv:Value) (hb:Nat) (M:List Int) (L:List Nd) (root:Int) (c c':Cnt) (s1 s2:Nat) (y:Int) (hM:Dp M) (hst:Step c c' (s1,s2) y) (hy0 : -1≤y) (hy1:y≤1) (hc:∀f t pf pt,0≤c f t pf pt∧c f t pf pt≤1000000) :
 ∀(d f t pf pt o:Nat) (Oa Ob:List Int) (Pa Pb:List Part) (en:Int) (w:World),t - f≤d→f<t→t<M.length→Oa.length=o→Pa.length=o→Jy L f t o→¬(s1≤pf∧pt≤s2)→0≤en→en+(ent s1 s2 f t:Int)≤100000000→
  Gm w b mv nv ov pv hb M L (Oa++(oL c f t pf pt++Ob)) (Pa++(pL c (mf M) f t pf pt++Pb)) root en→
  Calls Tryz.prog 227 #[.pointer (some ⟨b,0,none⟩),.int .i64 ((o+2*(t - f) - 2:Nat):Int),.agg #[.int .i64 (s1:Int),.int .i64 (s2:Int)],.int .i64 y] w
   (SB w b mv nv ov pv hb M L (Oa++(oL c' f t pf pt++Ob)) (Pa++(pL c' (mf M) f t pf pt++Pb)) root (en+(ent s1 s2 f t:Int))):=by
 intro d;induction d with
 |zero=>intro f t pf pt o Oa Ob Pa Pb en w hd hf;omega
 |succ d ih=>
  intro f t pf pt o Oa Ob Pa Pb en w hd hf ht hOa hPa hN hs he0 he1 h;have hep:=a0z s1 s2 f t;have hroot:=hN.root hf;have hOk:o+2*(t - f) - 2=Oa.length+(oK c f t).length:=by rw [yI c hf,hOa];omega
  have hPk:o+2*(t - f) - 2=Pa.length+(pK c (mf M) f t).length:=by rw [XU c _ hf,hPa];omega
  have a8c:o+2*(t - f) - 2=Oa.length+(oK c' f t).length:=by rw [yI c' hf,hOa];omega
  have b1K:o+2*(t - f) - 2=Pa.length+(pK c' (mf M) f t).length:=by rw [XU c' _ hf,hPa];omega
  by_cases h1:t≤s1∨s2≤f
  ·have hsame:=hst.out pf pt hf h1;rw [L6 h1,←Wh hf hsame,←Wi hf hsame];exact kG b f t _ mv nv ov pv hb M L _ _ root en w s1 s2 y h he0 (by omega) _ hroot (yO _ _ _) (yP _ _ _) h1
  ·by_cases h2:s1≤f∧t≤s2
   ·have hk:=hst.kids (mf M) h2;have hcan:can (s1,s2) f t pf pt=1:=by unfold can;rw [if_pos ⟨h2.1,h2.2,hs⟩]
    have hc':c f t pf pt+y=c' f t pf pt:=by rw [hst,hcan];omega
    rw [UH h2];have hO:(Oa++(oL c f t pf pt++Ob))[o+2*(t - f) - 2]? = some (c f t pf pt):=by rw [QM];exact OG _ _ _ _ hOk
    have hOs:(Oa++(oL c f t pf pt++Ob)).set (o+2*(t - f) - 2) (c f t pf pt+y)=Oa++(oL c' f t pf pt++Ob):=by
     rw [QM,set_mid _ _ _ _ _ hOk,hc',hk.1,←QM]
    have hPs:(Pa++(pL c (mf M) f t pf pt++Pb)).set (o+2*(t - f) - 2) (DR c' (mf M) f t pf pt)=Pa++(pL c' (mf M) f t pf pt++Pb):=by
     rw [J9,set_mid _ _ _ _ _ hPk,hk.2,←J9]
    have au:o+2*(t - f) - 2<(Pa++(pL c (mf M) f t pf pt++Pb)).length:=by
     rw [J9];simp;omega
    have:=rY b f t _ mv nv ov pv hb M L _ _ root en w s1 s2 y (c f t pf pt) (DR c' (mf M) f t pf pt) h he0 (by omega) _ hroot (yO _ _ _) (yP _ _ _) hf h2.1 h2.2 hO au (hc f t pf pt).1 (hc f t pf pt).2 hy0 hy1 (fun w2 hw2=>by
     rw [hOs] at hw2;refine yL b f t pf pt o mv nv ov pv hb M L _ _ root (en+1) w2 c' hw2 hM hf ht hroot ?_ (fun hft=>?_)
     ·rw [QM];exact OG _ _ _ _ a8c
     ·rw [J9,hk.2,List.append_assoc];exact ⟨nP c' (mf M) hft Pa _ (by have:=DJ hft;rw [hPa];omega),fB c' (mf M) hft Pa _ (by rw [hPa];omega)⟩)
    rw [hOs,hPs] at this;exact this
   ·have hft:f+1<t:=by omega
    have hm:=DJ hft;rw [S9 h1 h2 hft] at he1 ⊢;have hcan:can (s1,s2) f t pf pt=0:=by unfold can;rw [if_neg (fun hh=>h2 ⟨hh.1,hh.2.1⟩)]
    have hc':c' f t pf pt=c f t pf pt:=by rw [hst,hcan];omega
    have hx:VE f t (o+2*(t - f) - 2)=⟨2,((o+2*(mid f t - f) - 2:Nat):Int),((o+2*(mid f t - f) - 1+2*(t - mid f t) - 2:Nat):Int),f,t,0,0⟩:=by
     unfold VE;rw [if_pos hft];have e:o+2*(t - f) - 2 - 2*(t - mid f t)=o+2*(mid f t - f) - 2:=by omega
     have e':o+2*(t - f) - 2 - 1=o+2*(mid f t - f) - 1+2*(t - mid f t) - 2:=by omega
     rw [e,e']
    rw [hx] at hroot;have lO:=kF c f t hm.1;have lO':=kF c' f t hm.1;have lP:=XT c (mf M) f t hm.1;have lP':=XT c' (mf M) f t hm.1;have lP2:=XT c' (mf M) f t hm.2;have ih1:=fun w2 hw2=>ih f (mid f t) f t o Oa (oL c (mid f t) t f t++([c f t pf pt]++Ob)) Pa (pL c (mf M) (mid f t) t f t++([DR c (mf M) f t pf pt]++Pb)) (en+1) w2 (by omega) hm.1 (by omega) hOa hPa (hN.left hft) h2 (by omega) (by omega) hw2
    have ih2:=fun w2 hw2=>ih (mid f t) t f t (o+2*(mid f t - f) - 1) (Oa++oL c' f (mid f t) f t) ([c f t pf pt]++Ob) (Pa++pL c' (mf M) f (mid f t) f t) ([DR c (mf M) f t pf pt]++Pb) (en+1+(ent s1 s2 f (mid f t):Int)) w2 (by omega) hm.2 ht (by rw [AY,lO',hOa];omega) (by rw [AY,lP',hPa];omega) (hN.right hft) h2 (by omega) (by omega) hw2
    have eO:Oa++(oL c f t pf pt++Ob)=Oa++(oL c f (mid f t) f t++(oL c (mid f t) t f t++([c f t pf pt]++Ob))):=by rw [ak c pf pt hft];simp only [List.append_assoc]
    have eP:Pa++(pL c (mf M) f t pf pt++Pb)=Pa++(pL c (mf M) f (mid f t) f t++(pL c (mf M) (mid f t) t f t++([DR c (mf M) f t pf pt]++Pb))):=by rw [nO c _ pf pt hft];simp only [List.append_assoc]
    have eO2:(Oa++oL c' f (mid f t) f t)++(oL c' (mid f t) t f t++([c f t pf pt]++Ob))=Oa++(oL c' f t pf pt++Ob):=by rw [ak c' pf pt hft,hc'];simp only [List.append_assoc]
    have eP2:(Pa++pL c' (mf M) f (mid f t) f t)++(pL c' (mf M) (mid f t) t f t++([DR c (mf M) f t pf pt]++Pb))=Pa++((pK c' (mf M) f t++[DR c (mf M) f t pf pt])++Pb):=by unfold pK;rw [if_pos hft];simp only [List.append_assoc]
    rw [eO,eP] at h
    have:=fD b f t _ _ _ mv nv ov pv hb M L _ (Oa++(oL c' f (mid f t) f t++(oL c (mid f t) t f t++([c f t pf pt]++Ob)))) (Oa++(oL c' f t pf pt++Ob)) _ (Pa++(pL c' (mf M) f (mid f t) f t++(pL c (mf M) (mid f t) t f t++([DR c (mf M) f t pf pt]++Pb)))) (Pa++((pK c' (mf M) f t++[DR c (mf M) f t pf pt])++Pb)) root en (en+1+(ent s1 s2 f (mid f t):Int)) (en+((1+(ent s1 s2 f (mid f t)+ent s1 s2 (mid f t) t):Nat):Int)) w s1 s2 y (DR c' (mf M) f t pf pt) h he0 (by omega) _ hroot rfl rfl rfl rfl h1 h2 (by simp;omega) ih1 (fun w2 hw2=>by
     rw [←List.append_assoc Oa,←List.append_assoc Pa] at hw2;have h3:=ih2 w2 hw2;rw [eO2,eP2] at h3;have e5:en+1+(ent s1 s2 f (mid f t):Int)+(ent s1 s2 (mid f t) t:Int)=en+((1+(ent s1 s2 f (mid f t)+ent s1 s2 (mid f t) t):Nat):Int):=by omega
     rw [e5] at h3;exact h3) (fun w2 hw2=>by
     refine yL b f t pf pt o mv nv ov pv hb M L _ _ root _ w2 c' hw2 hM hf ht (hN.root hf) ?_ (fun _=>?_)
     ·rw [QM];exact OG _ _ _ _ a8c
     ·rw [List.append_assoc];exact ⟨nP c' (mf M) hft Pa _ (by rw [hPa];omega),fB c' (mf M) hft Pa _ (by rw [hPa];omega)⟩)
    rw [set_mid _ _ _ _ _ b1K,←J9] at this;exact this
