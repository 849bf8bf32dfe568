/- A cover's change, plainly: the lists of the nodes' counts and parts. cover.change: a span's gaps -/
import Derived.Test.YtkbaaonchdeneaaGreatPc41
set_option maxHeartbeats 4000000
set_option maxRecDepth 100000
namespace Go.Proofs.YtkbaaonchdeneaaGreat
section
variable {α:Type}
theorem Kw (A B C:List α) (x:α) {k:Nat} (hk:k=A.length+B.length):(A++((B++[x])++C))[k]? = some x:=by
 subst hk;rw [List.getElem?_append_right (by omega),List.getElem?_append_left (by simp),List.getElem?_append_right (by omega)];simp
theorem set_mid (A B C:List α) (x y:α) {k:Nat} (hk:k=A.length+B.length):(A++((B++[x])++C)).set k y=A++((B++[y])++C):=by
 subst hk;rw [List.set_append_right _ _ (by omega),List.set_append_left _ _ (by simp),List.set_append_right _ _ (by omega)];simp
end
def oL (c:Cnt) (f t pf pt:Nat):List Int:=FD (λf t pf pt _=>c f t pf pt) f t pf pt 0
def pL (c:Cnt) (M:Nat->Int) (f t pf pt:Nat):List Part:=FD (λf t pf pt _=>Dn c M f t pf pt) f t pf pt 0
theorem V8 {α:Type} (g:Nat->Nat->Nat->Nat->α):∀(d f t pf pt o o':Nat),t - f<=d->f<t->FD (λa b c d _=>g a b c d) f t pf pt o=FD (λa b c d _=>g a b c d) f t pf pt o':=by
 intro d;induction d with
 |zero=>intro f t pf pt o o' h1 h2;omega
 |succ d ih=>
  intro f t pf pt o o' h1 h2;by_cases h:f+1<t
  ·have:=Dt h;rw [DX _ pf pt o h,DX _ pf pt o' h,ih f (mid f t) f t o o' (by omega) (by omega),ih (mid f t) t f t _ (o'+2*(mid f t - f) - 1) (by omega) (by omega)]
  ·rw [DW _ pf pt o h,DW _ pf pt o' h]
theorem bW (c:Cnt) {f t:Nat} (pf pt:Nat) (h:f<t):(oL c f t pf pt).length=2*(t - f) - 1:=Io _ pf pt 0 h
theorem UA (c:Cnt) (M:Nat->Int) {f t:Nat} (pf pt:Nat) (h:f<t):(pL c M f t pf pt).length=2*(t - f) - 1:=Io _ pf pt 0 h
theorem XH (c:Cnt) {f t:Nat} (pf pt:Nat) (h:f+1<t):oL c f t pf pt=oL c f (mid f t) f t++(oL c (mid f t) t f t++[c f t pf pt]):=by
 have:=Dt h;unfold oL;rw [DX _ pf pt 0 h,V8 (λf t pf pt=>c f t pf pt) (t - f) (mid f t) t f t _ 0 (by omega) (by omega)]
theorem iO (c:Cnt) (M:Nat->Int) {f t:Nat} (pf pt:Nat) (h:f+1<t):pL c M f t pf pt=pL c M f (mid f t) f t++(pL c M (mid f t) t f t++[Dn c M f t pf pt]):=by
 have:=Dt h;unfold pL;rw [DX _ pf pt 0 h,V8 (λf t pf pt=>Dn c M f t pf pt) (t - f) (mid f t) t f t _ 0 (by omega) (by omega)]
def oK (c:Cnt) (f t:Nat):List Int:=if f+1<t then oL c f (mid f t) f t++oL c (mid f t) t f t else []
def pK (c:Cnt) (M:Nat->Int) (f t:Nat):List Part:=if f+1<t then pL c M f (mid f t) f t++pL c M (mid f t) t f t else []
theorem Nl (c:Cnt) {f t:Nat} (pf pt:Nat):oL c f t pf pt=oK c f t++[c f t pf pt]:=by
 unfold oK;by_cases h:f+1<t
 ·rw [XH c pf pt h,if_pos h,List.append_assoc]
 ·rw [if_neg h];unfold oL;rw [DW _ pf pt 0 h];rfl
theorem Ip (c:Cnt) (M:Nat->Int) {f t:Nat} (pf pt:Nat):pL c M f t pf pt=pK c M f t++[Dn c M f t pf pt]:=by
 unfold pK;by_cases h:f+1<t
 ·rw [iO c M pf pt h,if_pos h,List.append_assoc]
 ·rw [if_neg h];unfold pL;rw [DW _ pf pt 0 h];rfl
theorem uY (c:Cnt) {f t:Nat} (h:f<t):(oK c f t).length=2*(t - f) - 2:=by
 have h1:=bW c 0 0 h;rw [Nl,Bc,List.length_singleton] at h1;omega
theorem UC (c:Cnt) (M:Nat->Int) {f t:Nat} (h:f<t):(pK c M f t).length=2*(t - f) - 2:=by
 have h1:=UA c M 0 0 h;rw [Ip,Bc,List.length_singleton] at h1;omega
theorem iP (c:Cnt) (M:Nat->Int) {f t:Nat} (h:f+1<t) (A C:List Part) {k:Nat} (hk:k=A.length+(2*(mid f t - f) - 2)):(A++(pK c M f t++C))[k]? = some (Dn c M f (mid f t) f t):=by
 have hm:=Dt h;unfold pK;rw [if_pos h,Ip c M f t (f:=f) (t:=mid f t),List.append_assoc];exact Kw _ _ _ _ (by rw [hk,UC c M hm.1])
theorem Y3 (c:Cnt) (M:Nat->Int) {f t:Nat} (h:f+1<t) (A C:List Part) {k:Nat} (hk:k=A.length+(2*(t - f) - 3)):(A++(pK c M f t++C))[k]? = some (Dn c M (mid f t) t f t):=by
 have hm:=Dt h;unfold pK;rw [if_pos h,Ip c M f t (f:=mid f t) (t:=t),List.append_assoc,<-List.append_assoc A];refine Kw _ _ _ _ ?_
 rw [hk,Bc,UA c M f t hm.1,UC c M hm.2];omega
def Step (c c':Cnt) (s:Nat×Nat) (by_:Int):Prop:=∀f t pf pt,c' f t pf pt=c f t pf pt+by_*can s f t pf pt
theorem Sv {c c':Cnt} {f t pf pt:Nat} (hf:f<t) (h:FU c c' f t pf pt):oL c f t pf pt=oL c' f t pf pt:=
 LD _ _ (t - f) f t pf pt 0 (Nat.le_refl _) hf (λ_=>h.1) (λf' t' KF KG _ a1 a2 a3 a4 a5=>h.2 f' t' KF KG a1 a2 a3 a4 a5)
theorem FU.sub {c c':Cnt} {f t pf pt:Nat} (h:FU c c' f t pf pt) {f' t' KF KG:Nat} (a1:f<=f') (a2:f'<t') (a3:t'<=t) (a4:f<=KF) (a5:KG<=t):FU c c' f' t' KF KG:=
 ⟨h.2 _ _ _ _ a1 a2 a3 a4 a5,λ_ _ _ _ b1 b2 b3 b4 b5=>h.2 _ _ _ _ (by omega) b2 (by omega) (by omega) (by omega)⟩
theorem Sz {c c':Cnt} {M:Nat->Int} {f t pf pt:Nat} (hf:f<t) (h:FU c c' f t pf pt):pL c M f t pf pt=pL c' M f t pf pt:=
 LD _ _ (t - f) f t pf pt 0 (Nat.le_refl _) hf (λ_=>Ti (t - f) f t pf pt (Nat.le_refl _) h) (λf' t' KF KG _ a1 a2 a3 a4 a5=>Ti (t' - f') f' t' KF KG (Nat.le_refl _) (h.sub a1 a2 a3 a4 a5))
theorem Step.out {c c':Cnt} {s:Nat×Nat} {y:Int} (h:Step c c' s y) {f t:Nat} (pf pt:Nat) (hf:f<t) (ho:t<=s.1\/s.2<=f):FU c c' f t pf pt:=by
 refine ⟨?_,λf' t' KF KG a1 a2 a3 _ _=>?_⟩
 ·rw [h,eH ho (Nat.le_refl _) hf (Nat.le_refl _)];omega
 ·rw [h,eH ho a1 a2 a3];omega
theorem Step.below {c c':Cnt} {s:Nat×Nat} {y:Int} (h:Step c c' s y) {f t:Nat} (hs:s.1<=f/\t<=s.2) {f' t' KF KG:Nat} (h1:f<=KF) (h2:KG<=t):c f' t' KF KG=c' f' t' KF KG:=by
 rw [h,jo hs h1 h2];omega
theorem Step.kids {c c':Cnt} {s:Nat×Nat} {y:Int} (h:Step c c' s y) {f t:Nat} (M:Nat->Int) (hs:s.1<=f/\t<=s.2):oK c f t=oK c' f t/\pK c M f t=pK c' M f t:=by
 unfold oK pK;by_cases h1:f+1<t
 ·have hm:=Dt h1;have s1:FU c c' f (mid f t) f t:=⟨h.below hs (by omega) (by omega),λ_ _ _ _ a1 a2 a3 a4 a5=>h.below hs (by omega) (by omega)⟩;have s2:FU c c' (mid f t) t f t:=⟨h.below hs (by omega) (by omega),λ_ _ _ _ a1 a2 a3 a4 a5=>h.below hs (by omega) (by omega)⟩;rw [if_pos h1,if_pos h1,if_pos h1,if_pos h1,Sv hm.1 s1,Sv hm.2 s2,Sz hm.1 s1,Sz hm.2 s2];exact ⟨rfl,rfl⟩
 ·rw [if_neg h1,if_neg h1,if_neg h1,if_neg h1];exact ⟨rfl,rfl⟩
theorem uZ (M:Nat->Int) (G:List Bool):∀f,(∀i,f<=i->i<f+G.length->M i<=M (i+1))->0<=Hl M f G/\Hl M f G<=M (f+G.length) - M f:=by
 induction G with
 |nil=>intro f _;simp [Hl]
 |cons b G ih=>
  intro f h;have h0:=h f (Nat.le_refl _) (by simp);obtain ⟨i1,i2⟩:=ih (f+1) (λi a b=>h i (by omega) (by simp only [List.length_cons];omega));rw [List.length_cons,show f+(G.length+1)=f+1+G.length by omega,Hl]
  cases b<;>simp<;>omega
theorem vg (G:List Bool):∀p,Fj p G<=G.length:=by
 induction G with
 |nil=>intro p;simp [Fj]
 |cons b G ih=>
  intro p;have:=ih b;rw [Fj,List.length_cons];split<;>omega
theorem Pz {c:Cnt} {M:Nat->Int} {f t:Nat} (pf pt:Nat) (hf:f<t) (hM:∀i,f<=i->i<t->M i<=M (i+1)) :
 0<=(Dn c M f t pf pt).long/\(Dn c M f t pf pt).long<=M t - M f/\0<=(Dn c M f t pf pt).runs/\(Dn c M f t pf pt).runs<=((t - f:Nat):Int):=by
 have hl:=Gt (c:=c) pf pt hf;rw [Tj (t - f) f t pf pt (Nat.le_refl _) hf];have h1:=uZ M (GI c f t pf pt) f (λi a b=>hM i a (by omega));have h2:=vg (GI c f t pf pt) false;rw [hl] at h1 h2;rw [show f+(t - f)=t by omega] at h1;refine ⟨h1.1,h1.2,?_,?_⟩
 ·exact AY _
 ·show ((Fj false (GI c f t pf pt):Nat):Int)<=_
  omega
open Go.RowKit
attribute [local go_sem ↓] Go.wp_at_zero Go.wp_at_succ
structure Du (M:List Int):Prop where
 rise:M.Pairwise (· < ·)
 wf:∀x∈M,-9223372036854775808<=x/\x<=9223372036854775807
 len:M.length<400000
def mf (M:List Int) (i:Nat):Int:=M[i]?.getD 0
theorem FM {M:List Int} {i:Nat} (h:i<M.length):M[i]? = some (mf M i):=by
 unfold mf;rw [Ba h];rfl
theorem Du.lt {M:List Int} (h:Du M) {i j:Nat} (hij:i<j) (hj:j<M.length):mf M i<mf M j:=by
 have h1:=FM (M:=M) (i:=i) (by omega);have h2:=FM (M:=M) hj;obtain ⟨l1,e1⟩:=AZ h1;obtain ⟨l2,e2⟩:=AZ h2;have:=List.pairwise_iff_getElem.1 h.rise i j l1 l2 hij;rw [e1,e2] at this;exact this
theorem Du.CS {M:List Int} (h:Du M) {i:Nat} (hi:i<M.length) : -9223372036854775808<=mf M i/\mf M i<=9223372036854775807:=
 h.wf _ (List.mem_of_getElem? (FM hi))
theorem Du.mono {M:List Int} (h:Du M) {t:Nat} (ht:t<M.length):∀i,i<t->mf M i<=mf M (i+1):=λi hi=>Int.le_of_lt (h.lt (Nat.lt_succ_self i) (by omega))
def FT (p:Part) (w:World) (e:Ending) (w':World):Prop:=e=.returned (Dx p)/\Bj [] w w'
theorem vw (b f t pf pt o:Nat) (mv nv ov pv:Value) (hb:Nat) (M:List Int) (L:List Nd) (O:List Int) (P:List Part) (root en:Int) (w:World) (c:Cnt) (h:EX w b mv nv ov pv hb M L O P root en) (hM:Du M) (hf:f<t) (ht:t<M.length)
 (hL:L[o+2*(t - f) - 2]? = some (XF f t (o+2*(t - f) - 2))) (hO:O[o+2*(t - f) - 2]? = some (c f t pf pt))
 (hP:f+1<t->P[o+2*(mid f t - f) - 2]? = some (Dn c (mf M) f (mid f t) f t)/\P[o+2*(t - f) - 3]? = some (Dn c (mf M) (mid f t) t f t)) :
 Calls Tryz.prog 265 #[.pointer (some b),.int .i64 ((o+2*(t - f) - 2:Nat):Int)] w (FT (Dn c (mf M) f t pf pt) w):=by
 have hlf:=hM.lt hf ht;by_cases h0:0<c f t pf pt
 ·rw [Ir h0];refine lZ b _ mv nv ov pv hb M L O P root en w h _ _ f t (mf M f) (mf M t) hL ?_ ?_ hO h0 (FM (by omega)) (FM ht) (hM.CS (by omega)).1 (Int.le_of_lt hlf) (hM.CS ht).2
  ·unfold XF;split<;>rfl
  ·unfold XF;split<;>rfl
 ·by_cases h1:f+1<t
  ·have hm:=Dt h1;rw [IB h0 h1];obtain ⟨hp,hq⟩:=hP h1;have b1:=Pz (c:=c) (M:=mf M) (f:=f) (t:=mid f t) f t hm.1 (λi _ hi=>hM.mono ht i (by omega));have b2:=Pz (c:=c) (M:=mf M) (f:=mid f t) (t:=t) f t hm.2 (λi _ hi=>hM.mono ht i (by omega));have e1:=(hM.CS (i:=f) (by omega)).1;have e2:=(hM.CS ht).2;have e3:=hM.len
   have hx:XF f t (o+2*(t - f) - 2)=⟨2,((o+2*(mid f t - f) - 2:Nat):Int),((o+2*(t - f) - 3:Nat):Int),f,t,0,0⟩:=by
    unfold XF;rw [if_pos h1];have e:o+2*(t - f) - 2 - 2*(t - mid f t)=o+2*(mid f t - f) - 2:=by omega
    have e':o+2*(t - f) - 2 - 1=o+2*(t - f) - 3:=by omega
    rw [e,e']
   rw [hx] at hL;exact bV b _ mv nv ov pv hb M L O P root en w h _ _ _ _ _ _ hL rfl rfl rfl hO h0 hp hq (by omega) (by omega) (by omega) (by omega) (by omega) (by omega)
  ·rw [FH h0 h1];refine bU b _ mv nv ov pv hb M L O P root en w h _ _ hL ?_ hO h0
   unfold XF;rw [if_neg h1]
def Ov (w:World) (b:Nat) (mv nv ov pv:Value) (hb:Nat) (M:List Int) (L:List Nd) (O:List Int) (P:List Part) (root en:Int) (e:Ending) (w':World):Prop:=
 e=.returned (.tuple #[])/\EX w' b mv nv ov pv hb M L O P root en/\Bj (Gl b ov pv) w w'
theorem bY (b f t k:Nat) (mv nv ov pv:Value) (hb:Nat) (M:List Int) (L:List Nd) (O:List Int) (P:List Part) (root en:Int) (w:World) (s1 s2:Nat) (y:Int) (h:EX w b mv nv ov pv hb M L O P root en)
 (he0:0<=en) (he1:en<100000000) (x:Nd) (hx:L[k]? = some x) (hxf:x.fr=f) (hxt:x.to=t) (hs:t<=s1\/s2<=f) :
 Calls Tryz.prog 227 #[.pointer (some b),(k:Int),.agg #[(s1:Int),(s2:Int)],y] w (Ov w b mv nv ov pv hb M L O P root (en+1)):=by
 obtain ⟨xk,xl,xr,xf,xt,xa,xi⟩:=x;dsimp only at hxf hxt;subst hxf hxt;obtain ⟨-,-,-,-,-,-,c6,cf⟩:=h.cells;have f6:=cf 6;have hbw:b<w.heap.size:=lt_of_block h.head;have hsz:(w.setCell ⟨b,6,none⟩ (.int .i64 (en+1))).heap.size=w.heap.size:=by simp [World.setCell]
 have h1:=(h.enter (en+1)).BF ((Bj.refl [] _).alloc (.cells #[(s1:Int),(s2:Int)] 230));have hu1:Bj (Gl b ov pv) w ((w.setCell ⟨b,6,none⟩ (.int .i64 (en+1))).alloc (.cells #[(s1:Int),(s2:Int)] 230)):=((Bj.refl _ w).setCell (.inl (by simp [Gl])) _).alloc _;have x0:((w.setCell ⟨b,6,none⟩ (.int .i64 (en+1))).alloc (.cells #[(s1:Int),(s2:Int)] 230)).cell? w.heap.size=some (.int .i64 (s1:Int)):=by rw [World.cell?_alloc_at _ _ _ _ hsz.symm];rfl
 have x1:((w.setCell ⟨b,6,none⟩ (.int .i64 (en+1))).alloc (.cells #[(s1:Int),(s2:Int)] 230)).cell? ⟨w.heap.size,1,none⟩=some (.int .i64 (s2:Int)):=by rw [World.cell?_alloc_at _ _ _ _ hsz.symm];rfl
 have hz1:w.heap.size<((w.setCell ⟨b,6,none⟩ (.int .i64 (en+1))).alloc (.cells #[(s1:Int),(s2:Int)] 230)).heap.size:=by rw [World.size_alloc,hsz];omega
 have nZ:=Ap c6 f6;obtain ⟨HW,-⟩:Hid (((w.setCell ⟨b,6,none⟩ (.int .i64 (en+1))).alloc (.cells #[(s1:Int),(s2:Int)] 230))=((w.setCell ⟨b,6,none⟩ (.int .i64 (en+1))).alloc (.cells #[(s1:Int),(s2:Int)] 230)))/\True:=⟨rfl,trivial⟩;clear cf hsz;have HX:=AX hx;clear h;go_enter Tryz.func227,Tryz.ntmps227
 go_upto_region 2 with fail
 generalize ((w.setCell ⟨b,6,none⟩ (.int .i64 (en+1))).alloc (.cells #[(s1:Int),(s2:Int)] 230))=W1 at h1 hu1 x0 x1 hz1 |-;clear HW c6 f6 nZ;obtain ⟨-,-,c2,c3,c4,-,-,-⟩:=h1.cells;obtain ⟨gn,Cn,rfl,GL,-⟩:=Ei h1.nodes hx;have hkl:=(AZ hx).1;have hb1:b<W1.heap.size:=lt_of_block h1.head;have b0:(0:Int)<=(k:Int):=AY _;have b1:(k:Int)<(L.length:Int):=by omega
 have n0:W1.cell? ⟨gn,k*7,none⟩=some (.int .u8 xk):=GL 0 _ rfl;have n1:W1.cell? ⟨gn,k*7+1,none⟩=some (.int .i64 xl):=GL 1 _ rfl;have n2:W1.cell? ⟨gn,k*7+2,none⟩=some (.int .i64 xr):=GL 2 _ rfl;have n3:W1.cell? ⟨gn,k*7+3,none⟩=some (.int .i64 (f:Int)):=GL 3 _ rfl;have n4:W1.cell? ⟨gn,k*7+4,none⟩=some (.int .i64 (t:Int)):=GL 4 _ rfl;have n5:W1.cell? ⟨gn,k*7+5,none⟩=some (.int .i64 xa):=GL 5 _ rfl;have n6:W1.cell? ⟨gn,k*7+6,none⟩=some (.int .i64 xi):=GL 6 _ rfl;have hgw:gn<W1.heap.size:=World.block_lt_of_cell? W1 _ n0;have HE:=Ap h1 hu1;clear hx HX h1 hu1 GL hkl he0 he1;by_cases hs0:t<=s1
 ·go_wp2_with fail
  go_end0
  exact ⟨rfl,HE.1.BF ((Bj.refl _ _).alloc _),HE.2.alloc _⟩
 ·have hs1:s2<=f:=by omega
  clear hs;go_wp2_with fail
  go_end0
  exact ⟨rfl,HE.1.BF ((Bj.refl _ _).alloc _),HE.2.alloc _⟩
theorem KP.SA (P:List Part) (v:Part):∀k,k<P.length->KP.all (P.set k v)=((((KP.all P).set (k*4) (.int .u64 v.long)).set (k*4+1) (.int .i64 v.runs)).set (k*4+2) (.bool v.first)).set (k*4+3) (.bool v.last):=by
 induction P with
 |nil=>intro k hk;simp at hk
 |cons p P ih=>
  intro k hk;have e:∀q:Part,∀Q:List Part,KP.all (q::Q)=.int .u64 q.long :: .int .i64 q.runs :: .bool q.first :: .bool q.last::KP.all Q:=λq Q=>rfl
  rcases k with _ | k
  ·rw [List.set_cons_zero,e,e];rfl
  ·rw [List.set_cons_succ,e,e,ih k (by simpa using hk)];rw [show (k+1)*4=k*4+1+1+1+1 by omega];simp only [List.set_cons_succ,show k*4+1+1+1+1+1=(k*4+1)+1+1+1+1 by omega,show k*4+1+1+1+1+2=(k*4+2)+1+1+1+1 by omega,show k*4+1+1+1+1+3=(k*4+3)+1+1+1+1 by omega]
theorem EX.part {w:World} {b:Nat} {mv nv ov:Value} {g C N hb:Nat} {M:List Int} {L:List Nd} {O:List Int} {P:List Part} {root en:Int} (h:EX w b mv nv ov (.slice (some ⟨g,0,none⟩) N C) hb M L O P root en) (hN:P.length=N) (k:Nat) (hk:k<P.length) (v:Part) :
 EX ((((w.setCell ⟨g,k*4,none⟩ (.int .u64 v.long)).setCell ⟨g,k*4+1,none⟩ (.int .i64 v.runs)).setCell ⟨g,k*4+2,none⟩ (.bool v.first)).setCell ⟨g,k*4+3,none⟩ (.bool v.last)) b mv nv ov (.slice (some ⟨g,0,none⟩) N C) hb M L O (P.set k v) root en:=by
 subst hN;have hg:g∈blk (.slice (some ⟨g,0,none⟩) P.length C):=by simp [blk]
 have hgb:g≠b:=λe=>h.bp (by rw [<-e];exact hg)
 have hgo:∀y∈blk ov,y≠g:=λy hy e=>h.op y hy (by rw [e];exact hg)
 have hu:Bj [g] w ((((w.setCell ⟨g,k*4,none⟩ (.int .u64 v.long)).setCell ⟨g,k*4+1,none⟩ (.int .i64 v.runs)).setCell ⟨g,k*4+2,none⟩ (.bool v.first)).setCell ⟨g,k*4+3,none⟩ (.bool v.last)):=
  ((((Bj.refl [g] w).setCell (.inl (by simp)) _).setCell (.inl (by simp)) _).setCell (.inl (by simp)) _).setCell (.inl (by simp)) _
 refine { h with head:=(hu.block b (lt_of_block h.head) (by simpa using Ne.symm hgb)).trans h.head,marks:=Bl h.marks hu (λy hy hc=>h.pm g hg (by simp at hc;rw [<-hc];exact hy)),nodes:=Bl h.nodes hu (λy hy hc=>h.pn g hg (by simp at hc;rw [<-hc];exact hy)),often:=Bl h.often hu (λy hy hc=>hgo y hy (by simpa using hc)),parts:=?_ }
 have h':w.ownsRow 0 236 4 (.slice (some ⟨g,0,none⟩) P.length C) P.length (KP.all P):=h.parts;have e1:=(World.ownsRow.stored h' (k*4) (.int .u64 v.long)).1;have e2:=(World.ownsRow.stored e1 (k*4+1) (.int .i64 v.runs)).1;have e3:=(World.ownsRow.stored e2 (k*4+2) (.bool v.first)).1;have e4:=(World.ownsRow.stored e3 (k*4+3) (.bool v.last)).1;unfold Kind.row;rw [KP.SA P v k hk,List.length_set];exact e4
theorem l7 (b f t k:Nat) (mv nv ov pv:Value) (hb:Nat) (M:List Int) (L:List Nd) (O:List Int) (P:List Part) (root en:Int) (w:World) (s1 s2:Nat) (y c:Int) (V:Part) (h:EX w b mv nv ov pv hb M L O P root en)
 (he0:0<=en) (he1:en<100000000) (x:Nd) (hx:L[k]? = some x) (hxf:x.fr=f) (hxt:x.to=t) (hf:f<t) (hs1:s1<=f) (hs2:t<=s2) (hc:O[k]? = some c) (XI:k<P.length)
 (hc0:0<=c) (hc1:c<=1000000) (hy0 : -1<=y) (hy1:y<=1)
 (hkn:∀w2,EX w2 b mv nv ov pv hb M L (O.set k (c+y)) P root (en+1)->Calls Tryz.prog 265 #[.pointer (some b),(k:Int)] w2 (FT V w2)) :
 Calls Tryz.prog 227 #[.pointer (some b),(k:Int),.agg #[(s1:Int),(s2:Int)],y] w (Ov w b mv nv ov pv hb M L (O.set k (c+y)) (P.set k V) root (en+1)):=by
 obtain ⟨xk,xl,xr,xf,xt,xa,xi⟩:=x;dsimp only at hxf hxt;subst hxf hxt;obtain ⟨-,-,-,-,-,-,c6,cf⟩:=h.cells;have f6:=cf 6;have hbw:b<w.heap.size:=lt_of_block h.head;have hsz:(w.setCell ⟨b,6,none⟩ (.int .i64 (en+1))).heap.size=w.heap.size:=by simp [World.setCell]
 have h1:=(h.enter (en+1)).BF ((Bj.refl [] _).alloc (.cells #[(s1:Int),(s2:Int)] 230));have hu1:Bj (Gl b ov pv) w ((w.setCell ⟨b,6,none⟩ (.int .i64 (en+1))).alloc (.cells #[(s1:Int),(s2:Int)] 230)):=((Bj.refl _ w).setCell (.inl (by simp [Gl])) _).alloc _;have x0:((w.setCell ⟨b,6,none⟩ (.int .i64 (en+1))).alloc (.cells #[(s1:Int),(s2:Int)] 230)).cell? w.heap.size=some (.int .i64 (s1:Int)):=by rw [World.cell?_alloc_at _ _ _ _ hsz.symm];rfl
 have x1:((w.setCell ⟨b,6,none⟩ (.int .i64 (en+1))).alloc (.cells #[(s1:Int),(s2:Int)] 230)).cell? ⟨w.heap.size,1,none⟩=some (.int .i64 (s2:Int)):=by rw [World.cell?_alloc_at _ _ _ _ hsz.symm];rfl
 have hz1:w.heap.size<((w.setCell ⟨b,6,none⟩ (.int .i64 (en+1))).alloc (.cells #[(s1:Int),(s2:Int)] 230)).heap.size:=by rw [World.size_alloc,hsz];omega
 have nZ:=Ap c6 f6;obtain ⟨HW,-⟩:Hid (((w.setCell ⟨b,6,none⟩ (.int .i64 (en+1))).alloc (.cells #[(s1:Int),(s2:Int)] 230))=((w.setCell ⟨b,6,none⟩ (.int .i64 (en+1))).alloc (.cells #[(s1:Int),(s2:Int)] 230)))/\True:=⟨rfl,trivial⟩;clear cf hsz;have HX:=AX hx;have HK:=AX hkn;have HC:=AX hc;clear h hkn hc;go_enter Tryz.func227,Tryz.ntmps227
 go_upto_region 2 with fail
 generalize ((w.setCell ⟨b,6,none⟩ (.int .i64 (en+1))).alloc (.cells #[(s1:Int),(s2:Int)] 230))=W1 at h1 hu1 x0 x1 hz1 |-;clear HW c6 f6 nZ;obtain ⟨-,-,c2,c3,c4,-,-,-⟩:=h1.cells;obtain ⟨gn,Cn,rfl,GL,-⟩:=Ei h1.nodes hx;have hkl:=(AZ hx).1;have hb1:b<W1.heap.size:=lt_of_block h1.head;have b0:(0:Int)<=(k:Int):=AY _;have b1:(k:Int)<(L.length:Int):=by omega
 have n0:W1.cell? ⟨gn,k*7,none⟩=some (.int .u8 xk):=GL 0 _ rfl;have n1:W1.cell? ⟨gn,k*7+1,none⟩=some (.int .i64 xl):=GL 1 _ rfl;have n2:W1.cell? ⟨gn,k*7+2,none⟩=some (.int .i64 xr):=GL 2 _ rfl;have n3:W1.cell? ⟨gn,k*7+3,none⟩=some (.int .i64 (f:Int)):=GL 3 _ rfl;have n4:W1.cell? ⟨gn,k*7+4,none⟩=some (.int .i64 (t:Int)):=GL 4 _ rfl;have n5:W1.cell? ⟨gn,k*7+5,none⟩=some (.int .i64 xa):=GL 5 _ rfl;have n6:W1.cell? ⟨gn,k*7+6,none⟩=some (.int .i64 xi):=GL 6 _ rfl;have hgw:gn<W1.heap.size:=World.block_lt_of_cell? W1 _ n0;obtain ⟨go,Co,hov,uX,eof⟩:=Ei h1.often HC.out;subst hov
 have o0:W1.cell? ⟨go,k,none⟩=some (.int .i64 c):=by
  have:=uX 0 _ rfl;simpa [KC] using this
 have of0:=eof k;have hgo:go<W1.heap.size:=World.block_lt_of_cell? W1 _ o0;have b1o:(k:Int)<(O.length:Int):=by have:=(AZ HC.out).1;omega
 have a5L:go∈Gl b (.slice (some ⟨go,0,none⟩) O.length Co) pv:=by simp [Gl,blk]
 have h2:=(h1.oft rfl k (c+y)).BF ((Bj.refl [] _).alloc (.cells #[.int .u8 xk,xl,xr,(f:Int),(t:Int),xa,xi] 339));have hu2:=(hu1.setCell (p:=⟨go,k,none⟩) (.inl a5L) (.int .i64 (c+y))).alloc (.cells #[.int .u8 xk,xl,xr,(f:Int),(t:Int),xa,xi] 339);have HC2:=AX h2;have Ej:=AX hu2;have UD:=AX XI;have g1:¬t<=s1:=by omega
 have g2:¬s2<=f:=by omega
 clear hx HX h1 hu1 GL hkl he0 he1 uX eof h2 hu2 XI hf c4 a5L;go_upto_region 8 with fail
 have XI:=UD.out;clear UD;generalize ((W1.setCell ⟨go,k,none⟩ (.int .i64 (c+y))).alloc (.cells #[.int .u8 xk,xl,xr,(f:Int),(t:Int),xa,xi] 339))=W2 at HC2 Ej |-;obtain ⟨gp,Cp,hpv,-,-⟩:=Ei HC2.out.parts (Ba XI);subst hpv;have s4:W2.drew.cell? ⟨b,4,none⟩=some (.slice (some ⟨gp,0,none⟩) P.length Cp):=HC2.out.cells.2.2.2.2.1;have hk4:=HK.out W2.drew (HC2.out.BF (Bj.refl [] _).drew);obtain ⟨vl,vr,vf,va⟩:=V;have vC:=AX hk4;have k0:(0:Int)<=(k:Int):=AY _;have k1:(k:Int)<(P.length:Int):=by omega
 have UD:=AX XI;clear hk4 XI;unfold FT Dx at vC;dsimp only at vC;refine Bo.start [8,9] (λw'=>w'.cell? ⟨b,4,none⟩=some (.slice (some ⟨gp,0,none⟩) P.length Cp)) (by kernel_rfl) ?_ λhS=>?_
 ·exact s4
 refine' Bo.mx 0 71 ?_
 refine' Bo.mx 1 72 ?_
 refine' Bo.mx 2 73 ?_
 refine' Bo.ty 1 3 74 ?_
 refine' Bo.mx 4 75 ?_
 refine' Bo.mx 5 76 ?_
 refine' Bo.mx 6 77 ?_
 refine Bo.one (i:=7) (o:=⟨some 78,_,_,_,_,_⟩) rfl (by kernel_rfl) λK hK=>?_
 go_simp
 go_at_call 265
 go_fit vC.out
 rintro e w4 ⟨rfl,EI⟩;have h4:=HC2.out.BF ((Bj.refl [] W2).drew.trans EI);obtain ⟨gp',Cp',hpp,ep,Y4⟩:=Ei h4.parts (Ba UD.out)
 cases hpp
 have z0:w4.cell? ⟨gp,k*4,none⟩=some (.int .u64 (P[k]'UD.out).long):=ep 0 _ rfl;have z1:w4.cell? ⟨gp,k*4+1,none⟩=some (.int .i64 (P[k]'UD.out).runs):=ep 1 _ rfl;have z2:w4.cell? ⟨gp,k*4+2,none⟩=some (.bool (P[k]'UD.out).first):=ep 2 _ rfl;have z3:w4.cell? ⟨gp,k*4+3,none⟩=some (.bool (P[k]'UD.out).last):=ep 3 _ rfl;have y0:=Y4 (k*4);have y1:=Y4 (k*4+1);have y2:=Y4 (k*4+2);have y3:=Y4 (k*4+3);have RY:=AX h4;have U4:=AX (show Bj (Gl b (.slice (some ⟨go,0,none⟩) O.length Co) (.slice (some ⟨gp,0,none⟩) P.length Cp)) w w4 from Ej.out.trans (((Bj.refl [] W2).drew.trans EI).mono (by simp)));clear h4 ep Y4;refine hK.out _ _ (λ_ h=>?_) ?_
 ·exact (EI.cell (p:=⟨b,4,none⟩) (World.block_lt_of_cell? _ _ h) (by simp)).trans h
 clear hK K;try simp only [Act.put,sA,sZ,sS]
 refine' Bo.mx 8 79 ?_
 refine Bo.one (i:=9) (o:=⟨none,_,_,_,_,_⟩) rfl (by kernel_rfl) λK hK=>?_
 go_simp
 refine hK.out _ _ (λh=>(by cases h)) ?_
 clear hK K;try simp only [Act.put,sA,sZ,sS]
 refine Bo.done (by kernel_rfl) ?_
 go_wp2_with fail
 go_end0
 refine ⟨rfl,RY.out.part rfl k UD.out ⟨vl,vr,vf,va⟩,?_⟩
 have hg:gp∈Gl b (.slice (some ⟨go,0,none⟩) O.length Co) (.slice (some ⟨gp,0,none⟩) P.length Cp):=by simp [Gl,blk]
 exact (((U4.out.setCell (.inl hg) _).setCell (.inl hg) _).setCell (.inl hg) _).setCell (.inl hg) _
theorem Y5 (b f t k l r:Nat) (mv nv ov pv:Value) (hb:Nat) (M:List Int) (L:List Nd) (O O1 O2:List Int) (P P1 P2:List Part) (root en GL en2:Int) (w:World) (s1 s2:Nat) (y:Int) (V:Part) (h:EX w b mv nv ov pv hb M L O P root en)
 (he0:0<=en) (he1:en<100000000) (x:Nd) (hx:L[k]? = some x) (hxl:x.l=l) (hxr:x.r=r) (hxf:x.fr=f) (hxt:x.to=t) (hno:¬(t<=s1\/s2<=f)) (hni:¬(s1<=f/\t<=s2)) (XI:k<P2.length)
 (a5M:∀w2,EX w2 b mv nv ov pv hb M L O P root (en+1)->Calls Tryz.prog 227 #[.pointer (some b),(l:Int),.agg #[(s1:Int),(s2:Int)],y] w2 (Ov w2 b mv nv ov pv hb M L O1 P1 root GL))
 (vF:∀w2,EX w2 b mv nv ov pv hb M L O1 P1 root GL->Calls Tryz.prog 227 #[.pointer (some b),(r:Int),.agg #[(s1:Int),(s2:Int)],y] w2 (Ov w2 b mv nv ov pv hb M L O2 P2 root en2))
 (hkn:∀w2,EX w2 b mv nv ov pv hb M L O2 P2 root en2->Calls Tryz.prog 265 #[.pointer (some b),(k:Int)] w2 (FT V w2)) :
 Calls Tryz.prog 227 #[.pointer (some b),(k:Int),.agg #[(s1:Int),(s2:Int)],y] w (Ov w b mv nv ov pv hb M L O2 (P2.set k V) root en2):=by
 obtain ⟨xk,xl,xr,xf,xt,xa,xi⟩:=x;dsimp only at hxf hxt hxl hxr;subst hxf hxt hxl hxr;have JO:=AX h.lt;have a0p:=AX XI;obtain ⟨-,-,-,-,-,-,c6,cf⟩:=h.cells;have f6:=cf 6;have hbw:b<w.heap.size:=lt_of_block h.head;have hsz:(w.setCell ⟨b,6,none⟩ (.int .i64 (en+1))).heap.size=w.heap.size:=by simp [World.setCell]
 have h1:=(h.enter (en+1)).BF ((Bj.refl [] _).alloc (.cells #[(s1:Int),(s2:Int)] 230));have hu1:Bj (Gl b ov pv) w ((w.setCell ⟨b,6,none⟩ (.int .i64 (en+1))).alloc (.cells #[(s1:Int),(s2:Int)] 230)):=((Bj.refl _ w).setCell (.inl (by simp [Gl])) _).alloc _;have x0:((w.setCell ⟨b,6,none⟩ (.int .i64 (en+1))).alloc (.cells #[(s1:Int),(s2:Int)] 230)).cell? w.heap.size=some (.int .i64 (s1:Int)):=by rw [World.cell?_alloc_at _ _ _ _ hsz.symm];rfl
 have x1:((w.setCell ⟨b,6,none⟩ (.int .i64 (en+1))).alloc (.cells #[(s1:Int),(s2:Int)] 230)).cell? ⟨w.heap.size,1,none⟩=some (.int .i64 (s2:Int)):=by rw [World.cell?_alloc_at _ _ _ _ hsz.symm];rfl
 have hz1:w.heap.size<((w.setCell ⟨b,6,none⟩ (.int .i64 (en+1))).alloc (.cells #[(s1:Int),(s2:Int)] 230)).heap.size:=by rw [World.size_alloc,hsz];omega
 have nZ:=Ap c6 f6;obtain ⟨HW,-⟩:Hid (((w.setCell ⟨b,6,none⟩ (.int .i64 (en+1))).alloc (.cells #[(s1:Int),(s2:Int)] 230))=((w.setCell ⟨b,6,none⟩ (.int .i64 (en+1))).alloc (.cells #[(s1:Int),(s2:Int)] 230)))/\True:=⟨rfl,trivial⟩;clear cf hsz;have HX:=AX hx;have HK:=AX hkn;have HI2:=AX vF;have HI0:=AX a5M;have HNI:=AX hni;clear h hkn vF a5M XI hni;go_enter Tryz.func227,Tryz.ntmps227
 go_upto_region 2 with fail
 generalize ((w.setCell ⟨b,6,none⟩ (.int .i64 (en+1))).alloc (.cells #[(s1:Int),(s2:Int)] 230))=W1 at h1 hu1 x0 x1 hz1 |-;clear HW c6 f6 nZ;obtain ⟨-,-,c2,c3,c4,-,-,-⟩:=h1.cells;obtain ⟨gn,Cn,rfl,GL,-⟩:=Ei h1.nodes hx;have hkl:=(AZ hx).1;have hb1:b<W1.heap.size:=lt_of_block h1.head;have b0:(0:Int)<=(k:Int):=AY _;have b1:(k:Int)<(L.length:Int):=by omega
 have n0:W1.cell? ⟨gn,k*7,none⟩=some (.int .u8 xk):=GL 0 _ rfl;have n1:W1.cell? ⟨gn,k*7+1,none⟩=some (.int .i64 (l:Int)):=GL 1 _ rfl;have n2:W1.cell? ⟨gn,k*7+2,none⟩=some (.int .i64 (r:Int)):=GL 2 _ rfl;have n3:W1.cell? ⟨gn,k*7+3,none⟩=some (.int .i64 (f:Int)):=GL 3 _ rfl;have n4:W1.cell? ⟨gn,k*7+4,none⟩=some (.int .i64 (t:Int)):=GL 4 _ rfl;have n5:W1.cell? ⟨gn,k*7+5,none⟩=some (.int .i64 xa):=GL 5 _ rfl;have n6:W1.cell? ⟨gn,k*7+6,none⟩=some (.int .i64 xi):=GL 6 _ rfl;have hgw:gn<W1.heap.size:=World.block_lt_of_cell? W1 _ n0;have hu0:Bj [] W1 (W1.alloc (.cells #[.int .u8 xk,(l:Int),(r:Int),(f:Int),(t:Int),xa,xi] 339)):=(Bj.refl _ _).alloc _;have HI1:=AX (HI0.out _ (h1.BF hu0));have DJ:=AX hu1;have g1:¬t<=s1:=by omega
 have g2:¬s2<=f:=by omega
 have vF:=HI2.out;clear HI2;clear hx HX h1 hu1 hu0 GL hkl he0 he1 c3 c4 HI0 hno;have HIH:=AX vF;clear vF;by_cases g3:s1<=f
 ·have g4:¬t<=s2:=λhc=>HNI.out ⟨g3,hc⟩
  go_wp2_with fail
  go_fit HI1.out
  rintro e w3 ⟨rfl,h3,hu3⟩;have nl:∀y,w.heap.size<=y->y∉Gl b ov pv:=λy hy hc=>by have:=JO.out y hc;omega
  have m2:w3.cell? ⟨W1.heap.size,2,none⟩=some (.int .i64 (r:Int)):=(hu3.cell (p:=⟨W1.heap.size,2,none⟩) (by simp) (nl W1.heap.size (by omega))).trans (by rw [World.cell?_alloc_at _ _ _ _ rfl];rfl);have u0:w3.cell? w.heap.size=some (.int .i64 (s1:Int)):=(hu3.cell (p:=⟨w.heap.size,0,none⟩) (by simp;omega) (nl w.heap.size (Nat.le_refl _))).trans (by rw [World.cell?_alloc_past _ _ _ hz1];exact x0);have u1:w3.cell? ⟨w.heap.size,1,none⟩=some (.int .i64 (s2:Int)):=(hu3.cell (p:=⟨w.heap.size,1,none⟩) (by simp;omega) (nl w.heap.size (Nat.le_refl _))).trans (by rw [World.cell?_alloc_past _ _ _ hz1];exact x1);have HI2:=AX (HIH.out w3 h3);have EJ:=AX ((DJ.out.alloc (.cells #[.int .u8 xk,(l:Int),(r:Int),(f:Int),(t:Int),xa,xi] 339)).trans hu3);clear h3 hu3 nl;go_wp2_with fail
  go_fit HI2.out
  rintro e w4 ⟨rfl,h4,EI⟩;have Ua:=AX h4;have Nv:=AX (EJ.out.trans EI);clear h4 EI;go_upto_region 8 with fail
  have XI:=a0p.out;clear a0p;obtain ⟨gp,Cp,hpv,-,-⟩:=Ei Ua.out.parts (Ba XI);subst hpv;have s4:w4.drew.cell? ⟨b,4,none⟩=some (.slice (some ⟨gp,0,none⟩) P2.length Cp):=Ua.out.cells.2.2.2.2.1;have hk4:=HK.out w4.drew (Ua.out.BF (Bj.refl [] _).drew);obtain ⟨vl,vr,vf,va⟩:=V;have vC:=AX hk4;have k0:(0:Int)<=(k:Int):=AY _;have k1:(k:Int)<(P2.length:Int):=by omega
  have UD:=AX XI;clear hk4 XI;unfold FT Dx at vC;dsimp only at vC;refine Bo.start [8,9] (λw'=>w'.cell? ⟨b,4,none⟩=some (.slice (some ⟨gp,0,none⟩) P2.length Cp)) (by kernel_rfl) ?_ λhS=>?_
  ·exact s4
  refine' Bo.mx 0 71 ?_
  refine' Bo.mx 1 72 ?_
  refine' Bo.mx 2 73 ?_
  refine' Bo.ty 1 3 74 ?_
  refine' Bo.mx 4 75 ?_
  refine' Bo.mx 5 76 ?_
  refine' Bo.mx 6 77 ?_
  refine Bo.one (i:=7) (o:=⟨some 78,_,_,_,_,_⟩) rfl (by kernel_rfl) λK hK=>?_
  go_simp
  go_at_call 265
  go_fit vC.out
  rintro e w6 ⟨rfl,EI⟩;have h4:=Ua.out.BF ((Bj.refl [] w4).drew.trans EI);obtain ⟨gp',Cp',hpp,ep,Y4⟩:=Ei h4.parts (Ba UD.out)
  cases hpp
  have z0:w6.cell? ⟨gp,k*4,none⟩=some (.int .u64 (P2[k]'UD.out).long):=ep 0 _ rfl;have z1:w6.cell? ⟨gp,k*4+1,none⟩=some (.int .i64 (P2[k]'UD.out).runs):=ep 1 _ rfl;have z2:w6.cell? ⟨gp,k*4+2,none⟩=some (.bool (P2[k]'UD.out).first):=ep 2 _ rfl;have z3:w6.cell? ⟨gp,k*4+3,none⟩=some (.bool (P2[k]'UD.out).last):=ep 3 _ rfl;have y0:=Y4 (k*4);have y1:=Y4 (k*4+1);have y2:=Y4 (k*4+2);have y3:=Y4 (k*4+3);have RY:=AX h4;have U4:=AX (show Bj (Gl b ov (.slice (some ⟨gp,0,none⟩) P2.length Cp)) w w6 from Nv.out.trans (((Bj.refl [] w4).drew.trans EI).mono (by simp)));clear h4 ep Y4;refine hK.out _ _ (λ_ h=>?_) ?_
  ·exact (EI.cell (p:=⟨b,4,none⟩) (World.block_lt_of_cell? _ _ h) (by simp)).trans h
  clear hK K;try simp only [Act.put,sA,sZ,sS]
  refine' Bo.mx 8 79 ?_
  refine Bo.one (i:=9) (o:=⟨none,_,_,_,_,_⟩) rfl (by kernel_rfl) λK hK=>?_
  go_simp
  refine hK.out _ _ (λh=>(by cases h)) ?_
  clear hK K;try simp only [Act.put,sA,sZ,sS]
  refine Bo.done (by kernel_rfl) ?_
  go_wp2_with fail
  go_end0
  refine ⟨rfl,RY.out.part rfl k UD.out ⟨vl,vr,vf,va⟩,?_⟩
  have hg:gp∈Gl b ov (.slice (some ⟨gp,0,none⟩) P2.length Cp):=by simp [Gl,blk]
  exact (((U4.out.setCell (.inl hg) _).setCell (.inl hg) _).setCell (.inl hg) _).setCell (.inl hg) _
 ·skip
  go_wp2_with fail
  go_fit HI1.out
  rintro e w3 ⟨rfl,h3,hu3⟩;have nl:∀y,w.heap.size<=y->y∉Gl b ov pv:=λy hy hc=>by have:=JO.out y hc;omega
  have m2:w3.cell? ⟨W1.heap.size,2,none⟩=some (.int .i64 (r:Int)):=(hu3.cell (p:=⟨W1.heap.size,2,none⟩) (by simp) (nl W1.heap.size (by omega))).trans (by rw [World.cell?_alloc_at _ _ _ _ rfl];rfl);have u0:w3.cell? w.heap.size=some (.int .i64 (s1:Int)):=(hu3.cell (p:=⟨w.heap.size,0,none⟩) (by simp;omega) (nl w.heap.size (Nat.le_refl _))).trans (by rw [World.cell?_alloc_past _ _ _ hz1];exact x0);have u1:w3.cell? ⟨w.heap.size,1,none⟩=some (.int .i64 (s2:Int)):=(hu3.cell (p:=⟨w.heap.size,1,none⟩) (by simp;omega) (nl w.heap.size (Nat.le_refl _))).trans (by rw [World.cell?_alloc_past _ _ _ hz1];exact x1);have HI2:=AX (HIH.out w3 h3);have EJ:=AX ((DJ.out.alloc (.cells #[.int .u8 xk,(l:Int),(r:Int),(f:Int),(t:Int),xa,xi] 339)).trans hu3);clear h3 hu3 nl;go_wp2_with fail
  go_fit HI2.out
  rintro e w4 ⟨rfl,h4,EI⟩;have Ua:=AX h4;have Nv:=AX (EJ.out.trans EI);clear h4 EI;go_upto_region 8 with fail
  have XI:=a0p.out;clear a0p;obtain ⟨gp,Cp,hpv,-,-⟩:=Ei Ua.out.parts (Ba XI);subst hpv;have s4:w4.drew.cell? ⟨b,4,none⟩=some (.slice (some ⟨gp,0,none⟩) P2.length Cp):=Ua.out.cells.2.2.2.2.1;have hk4:=HK.out w4.drew (Ua.out.BF (Bj.refl [] _).drew);obtain ⟨vl,vr,vf,va⟩:=V;have vC:=AX hk4;have k0:(0:Int)<=(k:Int):=AY _;have k1:(k:Int)<(P2.length:Int):=by omega
  have UD:=AX XI;clear hk4 XI;unfold FT Dx at vC;dsimp only at vC;refine Bo.start [8,9] (λw'=>w'.cell? ⟨b,4,none⟩=some (.slice (some ⟨gp,0,none⟩) P2.length Cp)) (by kernel_rfl) ?_ λhS=>?_
  ·exact s4
  refine' Bo.mx 0 71 ?_
  refine' Bo.mx 1 72 ?_
  refine' Bo.mx 2 73 ?_
  refine' Bo.ty 1 3 74 ?_
  refine' Bo.mx 4 75 ?_
  refine' Bo.mx 5 76 ?_
  refine' Bo.mx 6 77 ?_
  refine Bo.one (i:=7) (o:=⟨some 78,_,_,_,_,_⟩) rfl (by kernel_rfl) λK hK=>?_
  go_simp
  go_at_call 265
  go_fit vC.out
  rintro e w6 ⟨rfl,EI⟩;have h4:=Ua.out.BF ((Bj.refl [] w4).drew.trans EI);obtain ⟨gp',Cp',hpp,ep,Y4⟩:=Ei h4.parts (Ba UD.out)
  cases hpp
  have z0:w6.cell? ⟨gp,k*4,none⟩=some (.int .u64 (P2[k]'UD.out).long):=ep 0 _ rfl;have z1:w6.cell? ⟨gp,k*4+1,none⟩=some (.int .i64 (P2[k]'UD.out).runs):=ep 1 _ rfl;have z2:w6.cell? ⟨gp,k*4+2,none⟩=some (.bool (P2[k]'UD.out).first):=ep 2 _ rfl;have z3:w6.cell? ⟨gp,k*4+3,none⟩=some (.bool (P2[k]'UD.out).last):=ep 3 _ rfl;have y0:=Y4 (k*4);have y1:=Y4 (k*4+1);have y2:=Y4 (k*4+2);have y3:=Y4 (k*4+3);have RY:=AX h4;have U4:=AX (show Bj (Gl b ov (.slice (some ⟨gp,0,none⟩) P2.length Cp)) w w6 from Nv.out.trans (((Bj.refl [] w4).drew.trans EI).mono (by simp)));clear h4 ep Y4;refine hK.out _ _ (λ_ h=>?_) ?_
  ·exact (EI.cell (p:=⟨b,4,none⟩) (World.block_lt_of_cell? _ _ h) (by simp)).trans h
  clear hK K;try simp only [Act.put,sA,sZ,sS]
  refine' Bo.mx 8 79 ?_
  refine Bo.one (i:=9) (o:=⟨none,_,_,_,_,_⟩) rfl (by kernel_rfl) λK hK=>?_
  go_simp
  refine hK.out _ _ (λh=>(by cases h)) ?_
  clear hK K;try simp only [Act.put,sA,sZ,sS]
  refine Bo.done (by kernel_rfl) ?_
  go_wp2_with fail
  go_end0
  refine ⟨rfl,RY.out.part rfl k UD.out ⟨vl,vr,vf,va⟩,?_⟩
  have hg:gp∈Gl b ov (.slice (some ⟨gp,0,none⟩) P2.length Cp):=by simp [Gl,blk]
  exact (((U4.out.setCell (.inl hg) _).setCell (.inl hg) _).setCell (.inl hg) _).setCell (.inl hg) _
def G9 (L:List Nd) (f t o:Nat):Prop:=∃Na Nb,L=Na++(EN f t o++Nb)/\Na.length=o
theorem G9.root {L:List Nd} {f t o:Nat} (h:G9 L f t o) (hf:f<t):L[o+2*(t - f) - 2]? = some (XF f t (o+2*(t - f) - 2)):=by
 obtain ⟨Na,Nb,rfl,hl⟩:=h;unfold EN;rw [Tf _ 0 0 o hf];exact Kw _ _ _ _ (by rw [hl,WR _ o hf];omega)
theorem G9.left {L:List Nd} {f t o:Nat} (h:G9 L f t o) (h1:f+1<t):G9 L f (mid f t) o:=by
 obtain ⟨Na,Nb,rfl,hl⟩:=h;rw [MG o h1];exact ⟨Na,_,by simp only [List.append_assoc];rfl,hl⟩
theorem G9.right {L:List Nd} {f t o:Nat} (h:G9 L f t o) (h1:f+1<t):G9 L (mid f t) t (o+2*(mid f t - f) - 1):=by
 have hm:=Dt h1;obtain ⟨Na,Nb,rfl,hl⟩:=h;rw [MG o h1];refine ⟨Na++EN f (mid f t) o,_,by simp only [List.append_assoc];rfl,?_⟩
 rw [Bc,G8 o hm.1,hl];omega
theorem vG (f t a:Nat):(XF f t a).fr=f:=by unfold XF;split<;>rfl
theorem vH (f t a:Nat):(XF f t a).to=t:=by unfold XF;split<;>rfl
theorem a2K (b:Nat) (mv nv ov pv:Value) (hb:Nat) (M:List Int) (L:List Nd) (root:Int) (c c':Cnt) (s1 s2:Nat) (y:Int) (hM:Du M) (hst:Step c c' (s1,s2) y) (hy0 : -1<=y) (hy1:y<=1) (hc:∀f t pf pt,0<=c f t pf pt/\c f t pf pt<=1000000) :
 ∀(d f t pf pt o:Nat) (Oa Ob:List Int) (Pa Pb:List Part) (en:Int) (w:World),t - f<=d->f<t->t<M.length->Oa.length=o->Pa.length=o->G9 L f t o->¬(s1<=pf/\pt<=s2)->0<=en->en+(ent s1 s2 f t:Int)<=100000000->
  EX w b mv nv ov pv hb M L (Oa++(oL c f t pf pt++Ob)) (Pa++(pL c (mf M) f t pf pt++Pb)) root en->
  Calls Tryz.prog 227 #[.pointer (some b),.int .i64 ((o+2*(t - f) - 2:Nat):Int),.agg #[(s1:Int),(s2:Int)],y] w
   (Ov w b mv nv ov pv hb M L (Oa++(oL c' f t pf pt++Ob)) (Pa++(pL c' (mf M) f t pf pt++Pb)) root (en+(ent s1 s2 f t:Int))):=by
 intro d;induction d with
 |zero=>intro f t pf pt o Oa Ob Pa Pb en w hd hf;omega
 |succ d ih=>
  intro f t pf pt o Oa Ob Pa Pb en w hd hf ht hOa hPa hN hs he0 he1 h;have hep:=yg s1 s2 f t;have hroot:=hN.root hf;have hOk:o+2*(t - f) - 2=Oa.length+(oK c f t).length:=by rw [uY c hf,hOa];omega
  have hPk:o+2*(t - f) - 2=Pa.length+(pK c (mf M) f t).length:=by rw [UC c _ hf,hPa];omega
  have a5N:o+2*(t - f) - 2=Oa.length+(oK c' f t).length:=by rw [uY c' hf,hOa];omega
  have a7T:o+2*(t - f) - 2=Pa.length+(pK c' (mf M) f t).length:=by rw [UC c' _ hf,hPa];omega
  by_cases h1:t<=s1\/s2<=f
  ·have hsame:=hst.out pf pt hf h1;rw [I9 h1,<-Sv hf hsame,<-Sz hf hsame];exact bY b f t _ mv nv ov pv hb M L _ _ root en w s1 s2 y h he0 (by omega) _ hroot (vG _ _ _) (vH _ _ _) h1
  ·by_cases h2:s1<=f/\t<=s2
   ·have hk:=hst.kids (mf M) h2;have hcan:can (s1,s2) f t pf pt=1:=by unfold can;rw [if_pos ⟨h2.1,h2.2,hs⟩]
    have hc':c f t pf pt+y=c' f t pf pt:=by rw [hst,hcan];omega
    rw [Qa h2];have hO:(Oa++(oL c f t pf pt++Ob))[o+2*(t - f) - 2]? = some (c f t pf pt):=by rw [Nl];exact Kw _ _ _ _ hOk
    have hOs:(Oa++(oL c f t pf pt++Ob)).set (o+2*(t - f) - 2) (c f t pf pt+y)=Oa++(oL c' f t pf pt++Ob):=by
     rw [Nl,set_mid _ _ _ _ _ hOk,hc',hk.1,<-Nl]
    have hPs:(Pa++(pL c (mf M) f t pf pt++Pb)).set (o+2*(t - f) - 2) (Dn c' (mf M) f t pf pt)=Pa++(pL c' (mf M) f t pf pt++Pb):=by
     rw [Ip,set_mid _ _ _ _ _ hPk,hk.2,<-Ip]
    have XI:o+2*(t - f) - 2<(Pa++(pL c (mf M) f t pf pt++Pb)).length:=by
     rw [Ip];simp;omega
    have:=l7 b f t _ mv nv ov pv hb M L _ _ root en w s1 s2 y (c f t pf pt) (Dn c' (mf M) f t pf pt) h he0 (by omega) _ hroot (vG _ _ _) (vH _ _ _) hf h2.1 h2.2 hO XI (hc f t pf pt).1 (hc f t pf pt).2 hy0 hy1 (λw2 hw2=>by
     rw [hOs] at hw2;refine vw b f t pf pt o mv nv ov pv hb M L _ _ root (en+1) w2 c' hw2 hM hf ht hroot ?_ (λhft=>?_)
     ·rw [Nl];exact Kw _ _ _ _ a5N
     ·rw [Ip,hk.2,List.append_assoc];exact ⟨iP c' (mf M) hft Pa _ (by have:=Dt hft;rw [hPa];omega),Y3 c' (mf M) hft Pa _ (by rw [hPa];omega)⟩)
    rw [hOs,hPs] at this;exact this
   ·have hft:f+1<t:=by omega
    have hm:=Dt hft;rw [OM h1 h2 hft] at he1 |-;have hcan:can (s1,s2) f t pf pt=0:=by unfold can;rw [if_neg (λhh=>h2 ⟨hh.1,hh.2.1⟩)]
    have hc':c' f t pf pt=c f t pf pt:=by rw [hst,hcan];omega
    have hx:XF f t (o+2*(t - f) - 2)=⟨2,((o+2*(mid f t - f) - 2:Nat):Int),((o+2*(mid f t - f) - 1+2*(t - mid f t) - 2:Nat):Int),f,t,0,0⟩:=by
     unfold XF;rw [if_pos hft];have e:o+2*(t - f) - 2 - 2*(t - mid f t)=o+2*(mid f t - f) - 2:=by omega
     have e':o+2*(t - f) - 2 - 1=o+2*(mid f t - f) - 1+2*(t - mid f t) - 2:=by omega
     rw [e,e']
    rw [hx] at hroot;have lO:=bW c f t hm.1;have lO':=bW c' f t hm.1;have lP:=UA c (mf M) f t hm.1;have lP':=UA c' (mf M) f t hm.1;have lP2:=UA c' (mf M) f t hm.2;have ih1:=λw2 hw2=>ih f (mid f t) f t o Oa (oL c (mid f t) t f t++([c f t pf pt]++Ob)) Pa (pL c (mf M) (mid f t) t f t++([Dn c (mf M) f t pf pt]++Pb)) (en+1) w2 (by omega) hm.1 (by omega) hOa hPa (hN.left hft) h2 (by omega) (by omega) hw2
    have ih2:=λw2 hw2=>ih (mid f t) t f t (o+2*(mid f t - f) - 1) (Oa++oL c' f (mid f t) f t) ([c f t pf pt]++Ob) (Pa++pL c' (mf M) f (mid f t) f t) ([Dn c (mf M) f t pf pt]++Pb) (en+1+(ent s1 s2 f (mid f t):Int)) w2 (by omega) hm.2 ht (by rw [Bc,lO',hOa];omega) (by rw [Bc,lP',hPa];omega) (hN.right hft) h2 (by omega) (by omega) hw2
    have eO:Oa++(oL c f t pf pt++Ob)=Oa++(oL c f (mid f t) f t++(oL c (mid f t) t f t++([c f t pf pt]++Ob))):=by rw [XH c pf pt hft];simp only [List.append_assoc]
    have eP:Pa++(pL c (mf M) f t pf pt++Pb)=Pa++(pL c (mf M) f (mid f t) f t++(pL c (mf M) (mid f t) t f t++([Dn c (mf M) f t pf pt]++Pb))):=by rw [iO c _ pf pt hft];simp only [List.append_assoc]
    have eO2:(Oa++oL c' f (mid f t) f t)++(oL c' (mid f t) t f t++([c f t pf pt]++Ob))=Oa++(oL c' f t pf pt++Ob):=by rw [XH c' pf pt hft,hc'];simp only [List.append_assoc]
    have eP2:(Pa++pL c' (mf M) f (mid f t) f t)++(pL c' (mf M) (mid f t) t f t++([Dn c (mf M) f t pf pt]++Pb))=Pa++((pK c' (mf M) f t++[Dn c (mf M) f t pf pt])++Pb):=by unfold pK;rw [if_pos hft];simp only [List.append_assoc]
    rw [eO,eP] at h
    have:=Y5 b f t _ _ _ mv nv ov pv hb M L _ (Oa++(oL c' f (mid f t) f t++(oL c (mid f t) t f t++([c f t pf pt]++Ob)))) (Oa++(oL c' f t pf pt++Ob)) _ (Pa++(pL c' (mf M) f (mid f t) f t++(pL c (mf M) (mid f t) t f t++([Dn c (mf M) f t pf pt]++Pb)))) (Pa++((pK c' (mf M) f t++[Dn c (mf M) f t pf pt])++Pb)) root en (en+1+(ent s1 s2 f (mid f t):Int)) (en+((1+(ent s1 s2 f (mid f t)+ent s1 s2 (mid f t) t):Nat):Int)) w s1 s2 y (Dn c' (mf M) f t pf pt) h he0 (by omega) _ hroot rfl rfl rfl rfl h1 h2 (by simp;omega) ih1 (λw2 hw2=>by
     rw [<-List.append_assoc Oa,<-List.append_assoc Pa] at hw2;have h3:=ih2 w2 hw2;rw [eO2,eP2] at h3;have e5:en+1+(ent s1 s2 f (mid f t):Int)+(ent s1 s2 (mid f t) t:Int)=en+((1+(ent s1 s2 f (mid f t)+ent s1 s2 (mid f t) t):Nat):Int):=by omega
     rw [e5] at h3;exact h3) (λw2 hw2=>by
     refine vw b f t pf pt o mv nv ov pv hb M L _ _ root _ w2 c' hw2 hM hf ht (hN.root hf) ?_ (λ_=>?_)
     ·rw [Nl];exact Kw _ _ _ _ a5N
     ·rw [List.append_assoc];exact ⟨iP c' (mf M) hft Pa _ (by rw [hPa];omega),Y3 c' (mf M) hft Pa _ (by rw [hPa];omega)⟩)
    rw [set_mid _ _ _ _ _ a7T,<-Ip] at this;exact this
