/- names.entry: sorted by names; searched with a count. A directory of names in memory. names' -/
import Derived.Test.YtkbaaonchdeneaaGreatPb19
import Derived.Test.YtkbaaonchdeneaaGreatPb28
set_option maxHeartbeats 8000000
set_option maxRecDepth 100000
namespace Go.Proofs.YtkbaaonchdeneaaGreat.Nm
open Go.RowKit Go.Shelf Go.Sort Go.Lib
def xG (a b:Nat×Nat):Int:=Et a.1 b.1
theorem V6 (a b:Nat×Nat):xG a b<0↔a.1<b.1:=by
 unfold xG Et;by_cases h1:(a.1:Int)<b.1
 ·simp [h1];omega
 ·by_cases h2:(b.1:Int)<a.1
  ·simp [h1,h2];omega
  ·simp [h1,h2];omega
theorem b1i:SWO (ltOf xG) where
 irrefl x:=by unfold ltOf;simp [V6]
 trans x y z h1 h2:=by unfold ltOf at *;simp [V6] at *;omega
 ntrans x y z h1 h2:=by unfold ltOf at *;simp [V6] at *;omega
theorem a7i (s t:Nat×Nat) (w:World):Calls Tryz.prog 197 #[.agg (Rq.KI.enc s).toArray,.agg (Rq.KI.enc t).toArray] w fun e w'=>e=.returned (.int .i64 (xG s t))∧∃os,w'=grow w os:=by
 obtain ⟨a,x⟩:=s;obtain ⟨b,y⟩:=t;have H1:=AQ (fun w=>UO (a:Int) (b:Int) w);show Calls Tryz.prog 197 #[.agg #[.int .u32 (a:Int),.int .i64 (x:Int)],.agg #[.int .u32 (b:Int),.int .i64 (y:Int)]] w fun e w'=>e=.returned (.int .i64 (Et (a:Int) (b:Int)))∧∃os,w'=grow w os
 go_enter Tryz.func197,Tryz.ntmps197
 go_wp2_with fail
 (with_reducible refine (H1.out _).mono ?_);rintro e w' ⟨rfl,rfl⟩;go_wp2_with fail
 go_ret
 exact ⟨rfl,_,by rw [alloc_eq_grow,alloc_eq_grow,grow_grow]⟩
theorem xH (base:Nat) (v:Value) (l:List (Nat×Nat)) (w:World) (h:Rq.KI.row w base v l) (hb:l.length<1000000) :
 Calls Tryz.prog 196 #[v,.func (.func 197) #[] #[]] w fun e w'=>
  e=.returned (.tuple #[])∧Bf (blk v) w w'∧∃l':List (Nat×Nat),l'.Perm l∧l'.Pairwise (fun a b=>a.1≤b.1)∧Rq.KI.row w' base v l':=by
 rcases h.2 with ⟨rfl,hn⟩ | ⟨g,cap,cur,rfl,h3⟩
 ·have:=AnyF.slices_SortFunc_none (L:=Tryz.sortE) none 0 (.func (.func 197) #[] #[]) w;refine Calls.mono this ?_
  rintro e w' ⟨rfl,rfl⟩;have hl:l = []:=List.eq_nil_of_length_eq_zero hn;subst hl;exact ⟨rfl,Bf.refl _ _,[],List.Perm.refl _,List.Pairwise.nil,h⟩
 ·have:=ZB Tryz.sortE Rq.KI (by decide) Tryz.isAgg172 Tryz.sizeOf172 197 xG b1i (enters_of Tryz.func197 (by kernel_rfl) rfl) a7i base g l.length cap l w h rfl hb;refine Calls.mono this ?_
  rintro e w' ⟨rfl,h4,l',h5,h6,h7⟩;refine ⟨rfl,h4,l',h5,h6.imp ?_,h7⟩
  intro a b hab;rw [V6] at hab;omega
theorem nH (base:Nat) (v:Value) (l:List (Nat×Nat)) (w:World) (h:Rq.KI.row w base v l) (hb:l.length<1000000) :
 Calls Tryz.prog 127 #[v] w fun e w'=>
  e=.returned v∧Bf (blk v) w w'∧∃l':List (Nat×Nat),l'.Perm l∧l'.Pairwise (fun a b=>a.1≤b.1)∧Rq.KI.row w' base v l':=by
 have HS:=AQ (xH base v l w h hb);obtain ⟨A,C,rfl⟩:=Bv h;clear h;go_enter Tryz.func127,Tryz.ntmps127
 go_wp2_with fail
 (with_reducible refine HS.out.mono ?_);rintro e w' ⟨rfl,h1,h2⟩;have HH:=Ai h1 h2;clear h1 h2;go_wp2_with fail
 go_ret
 exact ⟨rfl,HH.out⟩
def below (R:List (Nat×Nat)) (x:Nat):Nat:=(R.filter fun s=>decide (s.1<x)).length
theorem Nv {R:List (Nat×Nat)} {x:Nat} {i:Nat} (hi:i≤R.length) (h1:∀s∈R.take i,s.1<x) (h2:∀s∈R.drop i,x≤s.1):below R x=i:=by
 unfold below;conv=>lhs;rw [←List.take_append_drop i R]
 rw [List.filter_append,List.filter_eq_self.2 (by simpa using h1),List.filter_eq_nil_iff.2 (by intro s hs hc;have:=h2 s hs;simp at hc;omega),List.append_nil,Ba];omega
theorem below_le (R:List (Nat×Nat)) (x:Nat):below R x≤R.length:=List.length_filter_le _ _
theorem Ti (s:Nat×Nat) (x:Nat) (q c:Nat) (w:World) (h:Ox w q c) (hc:c<1000000) :
 Calls Tryz.prog 193 #[.agg #[.int .u32 (s.1:Int),.int .i64 (s.2:Int)],.int .u32 (x:Int),.pointer (some ⟨q,0,none⟩)] w fun e w'=>e=.returned (.int .i64 (Et (s.1:Int) (x:Int)))∧Ox w' q (c+1)∧Bf [q] w w':=by
 obtain ⟨id,num⟩:=s;have hu:Bf [] w (w.alloc (.cells #[.int .u32 (id:Int),.int .i64 (num:Int)] 172)):=(Bf.refl _ _).alloc _;have h1:=h.upd hu (by simp);have hql:q<w.heap.size:=World.block_lt_of_cell? w _ h.cell;have d0:(w.alloc (.cells #[.int .u32 (id:Int),.int .i64 (num:Int)] 172)).cell? ⟨w.heap.size,0,none⟩=some (.int .u32 (id:Int)):=by rw [World.cell?_alloc_at _ _ _ _ rfl];rfl
 have H1:=AQ (fun w=>UO (id:Int) (x:Int) w);dsimp only;go_enter Tryz.func193,Tryz.ntmps193
 go_upto_region 1 with fail
 generalize (w.alloc (.cells #[.int .u32 (id:Int),.int .i64 (num:Int)] 172))=W at hu h1 d0 ⊢;have c1:=h1.cell;have c2:=h1.soft;have c0:(0:Int)≤(c:Int):=AU _;have c3:(c:Int)<1000000:=by omega
 have hs:=h1.set (c+1);have he:Value.int .i64 ((c+1:Nat):Int)=Value.int .i64 ((c:Int)+1):=by congr 1
 rw [he] at hs;have hup:Bf [q] w (W.setCell ⟨q,0,none⟩ (.int .i64 ((c:Int)+1))):=(hu.mono (G:=[q]) (by simp)).setCell (p:=⟨q,0,none⟩) (.inl (by simp)) _;have hqq:(⟨w.heap.size,0,none⟩:Addr).block∉[q]:=by simp;omega
 have e0:=(((Bf.refl [q] W).setCell (p:=⟨q,0,none⟩) (.inl (by simp)) (.int .i64 ((c:Int)+1))).cell (p:=⟨w.heap.size,0,none⟩) (World.block_lt_of_cell? _ _ d0) hqq).trans d0;have HF:=Ai hs hup;clear he h hu h1 hs hup hqq hql;go_upto_region 2 with fail
 clear c1 c2 d0;generalize (W.setCell ⟨q,0,none⟩ (.int .i64 ((c:Int)+1)))=W2 at e0 HF ⊢;go_wp2_with fail
 (with_reducible refine (H1.out _).mono ?_);rintro e w' ⟨rfl,rfl⟩;go_wp2_with fail
 go_ret
 exact ⟨rfl,HF.out⟩
theorem jM {R:List (Nat×Nat)} {x:Nat} {p:Nat} {s:Nat×Nat} (h:R.Pairwise fun a b=>a.1≤b.1) (hs:R[p]? = some s) (hx:s.1<x):∀y∈R.take (p+1),y.1<x:=by
 intro y hy;obtain ⟨h1,h2⟩:=AV hs;rw [AZ h1,h2,List.mem_append] at hy;rcases hy with hy | hy
 ·obtain ⟨i,hi,rfl⟩:=List.mem_iff_getElem.1 hy;rw [Ba] at hi;rw [List.getElem_take];have:=List.pairwise_iff_getElem.1 h i p (by omega) h1 (by omega);rw [h2] at this;omega
 ·simp at hy;subst hy;exact hx
theorem jO {R:List (Nat×Nat)} {x:Nat} {p:Nat} {s:Nat×Nat} (h:R.Pairwise fun a b=>a.1≤b.1) (hs:R[p]? = some s) (hx:x≤s.1):∀y∈R.drop p,x≤y.1:=by
 intro y hy;obtain ⟨h1,h2⟩:=AV hs;obtain ⟨i,hi,rfl⟩:=List.mem_iff_getElem.1 hy;rw [List.length_drop] at hi;rw [List.getElem_drop];rcases Nat.eq_zero_or_pos i with h0 | h0
 ·subst h0;simp only [Nat.add_zero];rw [h2];exact hx
 ·have:=List.pairwise_iff_getElem.1 h p (p+i) h1 (by omega) (by omega);rw [h2] at this;omega
def KW (w:World) (q c:Nat) (R:List (Nat×Nat)) (x:Nat) (e:Ending) (w':World):Prop:=
 ∃(t:Nat) (b:Bool),e=.returned (.tuple #[.int .i64 ((below R x:Nat):Int),.bool b])∧Ox w' q (c+t)∧t≤BA R.length+1∧Bf [q] w w'
theorem mV (v:Value) (R:List (Nat×Nat)) (x:Nat) (q c:Nat) (w:World) (hs:See Rq.KI w v R) (hb:R.length<100000) (hq:Ox w q c) (hc:c<100000) (hv:0<R.length→q∉blk v) (hsr:R.Pairwise fun a b=>a.1≤b.1) :
 Calls Tryz.prog 192 #[v,.int .u32 (x:Int),.func (.func 193) #[] #[.pointer (some ⟨q,0,none⟩)]] w (KW w q c R x):=by
 obtain ⟨A,C,rfl⟩:=hs.form;obtain ⟨n,hn⟩:=AO R.length;rw [hn] at hs hb ⊢;have hbn:BA n≤17:=CQ n 17 (by omega);have H:=AQ hs;have HN:=Aj hn hsr hbn;have HQ:=AQ hq;have HV:=AQ hv;have n0:(0:Int)≤(n:Int):=AU _;have n1:(n:Int)<100000:=by omega
 have hse:∀w',Bf [q] w w'→See Rq.KI w' (.slice A n C) R:=fun w' hu=>H.out.upd hu (fun h0 k hk hkl hc=>by simp at hc;subst hc;exact HV.out h0 (by rw [HN.1];exact hk))
 have tK:=AQ hse;unfold KW;clear hs hn hq hv hsr hbn hse;go_enter Tryz.func192,Tryz.ntmps192
 go_wp2_with fail
 go_loopg [9,10] n (fun m s9 s10 wr=>∃(i j t:Nat),m+i=j∧j≤n∧s9=.int .i64 (i:Int)∧s10=.int .i64 (j:Int)∧(∀s∈R.take i,s.1<x)∧(∀s∈R.drop j,x≤s.1)∧Ox wr q (c+t)∧t+BA (j - i)≤BA n∧Bf [q] w wr)
 case atStart=>exact ⟨0,n,0,by omega,Nat.le_refl _,rfl,rfl,by simp,by rw [←HN.1];simp,HQ.out,by simp,Bf.refl _ _⟩
 case round=>
  obtain ⟨i,j,t,hij,hjn,rfl,rfl,hlo,hhi,hcn,htb,hup⟩:=hrel;have i0:(0:Int)≤(i:Int):=AU _;have j0:(0:Int)≤(j:Int):=AU _;have hi1:i≤j:=by omega
  have hi2:(i:Int)≤(j:Int):=by omega
  have hj2:(j:Int)≤(n:Int):=by omega
  by_cases hlt:i<j
  ·obtain ⟨p,hp⟩:=AO ((i+j) / 2);have hip:i≤p∧p<j:=by omega
   obtain ⟨s,hs⟩:∃s,R[p]? = some s:=⟨_,AX (by rw [HN.1];omega)⟩;obtain ⟨g,og,hA,-,-,ey⟩:=(tK.out wr hup).at hs;subst hA;have y0:wr.cell? ⟨g,og+p*2,none⟩=some (.int .u32 (s.1:Int)):=ey 0 _ rfl;have y1:wr.cell? ⟨g,og+p*2+1,none⟩=some (.int .i64 (s.2:Int)):=ey 1 _ rfl;have hct:c+t<1000000:=Ac HN.2.2;have hsd:=Ti s x q (c+t) wr hcn hct;have b1:(i:Int)<(j:Int):=by omega
   have p0:(0:Int)≤(p:Int):=AU _;have p1:(p:Int)<(n:Int):=by omega
   have HK:=Au hij hjn hlo hhi htb hup;have HS:=AQ hs;have HP:=Ai hip hp;have HCT:=Ai hcn hct;clear hij hjn hlo hhi hcn htb hup hs ey hp hip hct hi1;go_upto_region 5 with fail
   have hcv:Value.int .i64 (((i:Int)+(j:Int)) / 2)=Value.int .i64 (p:Int):=by have:=HP.2;congr 1;omega
   simp only [hcv];clear hcv;by_cases hx:s.1<x
   ·have hsv:Et (s.1:Int) (x:Int) = -1:=QE (by omega);rw [hsv] at hsd;have vU:=AQ hsd;have HX:=AQ (jM HN.2.1 HS.out hx);clear hsd hsv hx;go_wp2_with fail
    (with_reducible refine vU.out.mono ?_);rintro e w3 ⟨rfl,h3,u3⟩;have HE:=Ai h3 u3;clear h3 u3 y0 y1;go_wp2_with fail
    go_roundg (j - (p+1))
    case measure=>have h1:=HK.1;have h2:=HP.out;omega
    case rel=>
     obtain ⟨k1,k2,k3,k4,k5,k6⟩:=HK.out;have h2:=HP.out;have h5:=Jg (n:=j - i) (by omega) (k:=j - (p+1)) (by omega);exact ⟨p+1,j,t+1,by omega,k2,by go_num,rfl,HX.out,k4,HE.1,by omega,k6.trans HE.2⟩
   ·have hsv:Et (s.1:Int) (x:Int)=0∨Et (s.1:Int) (x:Int)=1:=by unfold Et;rw [if_neg (by omega)];split<;>simp
    rcases hsv with hsv | hsv
    all_goals
     rw [hsv] at hsd;have vU:=AQ hsd;have HX:=AQ (jO HN.2.1 HS.out (show x≤s.1 by omega));clear hsd hsv hx;go_wp2_with fail
     (with_reducible refine vU.out.mono ?_);rintro e w3 ⟨rfl,h3,u3⟩;have HE:=Ai h3 u3;clear h3 u3 y0 y1;go_wp2_with fail
     go_roundg (p - i)
     case measure=>have h1:=HK.1;have h2:=HP.out;omega
     case rel=>
      obtain ⟨k1,k2,k3,k4,k5,k6⟩:=HK.out;have h2:=HP.out;have h5:=Jg (n:=j - i) (by omega) (k:=p - i) (by omega);exact ⟨i,p,t+1,by omega,by omega,rfl,rfl,k3,HX.out,HE.1,by omega,k6.trans HE.2⟩
  ·have hij2:i=j:=by omega
   subst hij2;have hb:=Nv (R:=R) (x:=x) (by rw [HN.1];exact hjn) hlo hhi;have HB:=AQ hb;have jv:t≤BA n:=by omega
   have HK:=Ai jv hup;by_cases hin:i<n
   ·obtain ⟨s,hs⟩:∃s,R[i]? = some s:=⟨_,AX (by rw [HN.1];omega)⟩;obtain ⟨g,og,hA,-,-,ey⟩:=(tK.out wr hup).at hs;subst hA;have y0:wr.cell? ⟨g,og+i*2,none⟩=some (.int .u32 (s.1:Int)):=ey 0 _ rfl;have y1:wr.cell? ⟨g,og+i*2+1,none⟩=some (.int .i64 (s.2:Int)):=ey 1 _ rfl;have hct:c+t<1000000:=Ac HN.2.2;have hsd:=Ti s x q (c+t) wr hcn hct;obtain ⟨z,hz⟩:=AO (Et (s.1:Int) (x:Int));rw [hz] at hsd;clear hz;have b1:(i:Int)<(n:Int):=by omega
    have vU:=AQ hsd;clear hsd hs ey hct hlo hhi hcn htb hup hij hjn hi1 jv hb hlt;go_wp2_with fail
    (with_reducible refine vU.out.mono ?_);rintro e w3 ⟨rfl,h3,u3⟩;have HE:=Ai h3 u3;clear h3 u3 y0 y1;go_wp2_with fail
    go_ret2
    exact ⟨t+1,_,by rw [HB.out];rfl,HE.1,by rw [HN.1];have:=HK.1;omega,HK.2.trans HE.2⟩
   ·have hin2:i=n:=by omega
    subst hin2;have HC:=AQ hcn;clear hlo hhi hcn htb hup hij hjn hi1 jv hb hlt;go_wp2_with fail
    go_ret2
    exact ⟨t,_,by rw [HB.out];rfl,HC.out,by rw [HN.1];have:=HK.1;omega,HK.2⟩
end Go.Proofs.YtkbaaonchdeneaaGreat.Nm
namespace Go.Proofs.YtkbaaonchdeneaaGreat.Nm
open Go.RowKit
def Dh (A B:List Nat):Prop:=∀x∈A,x∉B
theorem Dh.symm {A B:List Nat} (h:Dh A B):Dh B A:=fun x hx hc=>h x hc hx
theorem TG {Ps:List (List Nat)} (h:Ps.Pairwise Dh) {i j:Nat} {G H:List Nat} (hi:Ps[i]? = some G) (hj:Ps[j]? = some H) (hne:i≠j):Dh G H:=by
 rw [List.pairwise_iff_getElem] at h;obtain ⟨li,ei⟩:=AV hi;obtain ⟨lj,ej⟩:=AV hj;rcases Nat.lt_or_gt_of_ne hne with h3 | h3
 ·have:=h i j li lj h3;rwa [ei,ej] at this
 ·have:=h j i lj li h3;rw [ei,ej] at this;exact this.symm
theorem IY {Ps:List (List Nat)} (h:Ps.Pairwise Dh) {N:Nat} (hlt:∀P∈Ps,∀x∈P,x<N) {i:Nat} {G G':List Nat} (hi:Ps[i]? = some G) (hG:∀x∈G',x∈G∨N≤x):(Ps.set i G').Pairwise Dh:=by
 have key:∀j,j<Ps.length→j≠i→∀(hj:j<Ps.length),Dh G' Ps[j]:=by
  intro j hj hne hj' x hx hc;rcases hG x hx with h1 | h1
  ·exact TG h hi (AX hj') (Ne.symm hne) x h1 hc
  ·have:=hlt _ (List.getElem_mem hj') x hc;omega
 rw [List.pairwise_iff_getElem] at h ⊢;intro a b ha hb hab;rw [List.length_set] at ha hb;rw [List.getElem_set,List.getElem_set];split
 ·rename_i e1
  split
  ·omega
  ·exact key b hb (by omega) hb
 ·rename_i e1
  split
  ·exact (key a ha (by omega) ha).symm
  ·exact h a b ha hb hab
def boolRow (w:World) (v:Value) (l:List Bool):Prop:=w.ownsRow 0 4 1 v l.length (l.map .bool)
def MV (w:World) (v:Value) (l:List Nat):Prop:=w.ownsRow 0 3 1 v l.length (l.map fun (n:Nat)=>.int .i64 (n:Int))
def parts (q:Nat) (Fc:List Nat) (vb:Value) (vs:List Value) (vp va:Value):List (List Nat):=[[q],Fc,Ey vb vs,blk vp,blk va]
structure EN (w:World) (q cb:Nat) (vb vp va:Value) (vs:List Value) (bk:List (List (Nat×Nat))) (Fc:List Nat) (S:NS):Prop where
 head:Ic w q #[.pointer (some ⟨cb,0,none⟩),vb,vp,va,.int .i64 (S.n:Int)] 175
 TI:Dz Rq.KI w cb Fc (setB S.cs) S.cs.length S.wk
 rows:Fj Rq.KI w vb vs bk
 PW:MV w vp S.pl
 GK:boolRow w va S.al
 apart:(parts q Fc vb vs vp va).Pairwise Dh
def Hz (w:World) (tv:Value) (F:List Nat) (S:NS):Prop:=
 ∃q cb vb vp va vs bk Fc,tv=.pointer (some ⟨q,0,none⟩)∧EN w q cb vb vp va vs bk Fc S∧Zq (setB S.cs) bk∧F=(parts q Fc vb vs vp va).flatten
variable {w w':World} {q cb:Nat} {vb vp va:Value} {vs:List Value} {bk:List (List (Nat×Nat))} {Fc:List Nat} {S:NS}
theorem EN.lt (H:EN w q cb vb vp va vs bk Fc S):∀P∈parts q Fc vb vs vp va,∀x∈P,x<w.heap.size:=by
 intro P hP x hx;simp only [parts,List.mem_cons,List.not_mem_nil,or_false] at hP;rcases hP with rfl | rfl | rfl | rfl | rfl
 ·simp at hx;subst hx;exact H.head.lt
 ·exact H.TI.lt x hx
 ·exact H.rows.lt x hx
 ·exact BK H.PW x hx
 ·exact BK H.GK x hx
theorem EN.cell (H:EN w q cb vb vp va vs bk Fc S):w.cell? ⟨q,0,none⟩=some (.pointer (some ⟨cb,0,none⟩))∧w.cell? ⟨q,1,none⟩=some vb∧w.cell? ⟨q,2,none⟩=some vp∧w.cell? ⟨q,3,none⟩=some va∧w.cell? ⟨q,4,none⟩=some (.int .i64 (S.n:Int))∧∀j,w.frozen? ⟨q,j,none⟩=false:=by
 obtain ⟨h0,h1,h2,h3,h4⟩:=H.head.cells5;exact ⟨h0,h1,h2,h3,h4,fun j=>H.head.frozen j⟩
theorem EN.upd (H:EN w q cb vb vp va vs bk Fc S) {G:List Nat} (hu:Bf G w w') (hd:∀P∈parts q Fc vb vs vp va,Dh P G):EN w' q cb vb vp va vs bk Fc S:=
 ⟨H.head.upd hu (hd [q] (by simp [parts]) q (by simp)),H.TI.upd hu (hd Fc (by simp [parts])),H.rows.upd hu (hd (Ey vb vs) (by simp [parts])),Bg H.PW hu (hd (blk vp) (by simp [parts])),Bg H.GK hu (hd (blk va) (by simp [parts])),H.apart⟩
theorem EN.Bh (H:EN w q cb vb vp va vs bk Fc S) (hu:Bf [] w w'):EN w' q cb vb vp va vs bk Fc S:=H.upd hu fun P _ x _=>by simp
theorem EN.Gu (H:EN w q cb vb vp va vs bk Fc S) {i j:Nat} {P Q:List Nat} (hi:(parts q Fc vb vs vp va)[i]? = some P) (hj:(parts q Fc vb vs vp va)[j]? = some Q) (hne:i≠j):Dh P Q:=TG H.apart hi hj hne
theorem Hz.upd {tv:Value} {F G:List Nat} (H:Hz w tv F S) (hu:Bf G w w') (hd:∀x∈F,x∉G):Hz w' tv F S:=by
 obtain ⟨q,cb,vb,vp,va,vs,bk,Fc,rfl,H,hb,rfl⟩:=H;exact ⟨q,cb,vb,vp,va,vs,bk,Fc,rfl,H.upd hu fun P hP x hx=>hd x (List.mem_flatten.2 ⟨P,hP,hx⟩),hb,rfl⟩
theorem Hz.lt {tv:Value} {F:List Nat} (H:Hz w tv F S):∀x∈F,x<w.heap.size:=by
 obtain ⟨q,cb,vb,vp,va,vs,bk,Fc,rfl,H,hb,rfl⟩:=H;intro x hx;obtain ⟨P,hP,hx⟩:=List.mem_flatten.1 hx;exact H.lt P hP x hx
theorem EN.count (H:EN w q cb vb vp va vs bk Fc S) (n:Nat):EN (w.setCell ⟨q,4,none⟩ (.int .i64 (n:Int))) q cb vb vp va vs bk Fc { S with n:=n }:=by
 have hu:Bf [q] w (w.setCell ⟨q,4,none⟩ (.int .i64 (n:Int))):=(Bf.refl _ _).setCell (p:=⟨q,4,none⟩) (.inl (by simp)) _;have d:∀(j:Nat) (Q:List Nat),j≠0→(parts q Fc vb vs vp va)[j]? = some Q→Dh Q [q]:=fun j Q hne hj=>H.Gu hj (j:=0) rfl hne
 refine ⟨?_,H.TI.upd hu (d 1 _ (by omega) rfl),H.rows.upd hu (d 2 _ (by omega) rfl),Bg H.PW hu (d 3 _ (by omega) rfl),Bg H.GK hu (d 4 _ (by omega) rfl),H.apart⟩
 have:=H.head.set 4 (.int .i64 (n:Int));simpa using this
theorem EN.mark (H:EN w q cb vb vp va vs bk Fc S) {g n C:Nat} (ha:va=.slice (some ⟨g,0,none⟩) n C) (k:Nat) (b:Bool):EN (w.setCell ⟨g,k,none⟩ (.bool b)) q cb vb vp va vs bk Fc { S with al:=S.al.set k b }:=by
 subst ha;have hu:Bf [g] w (w.setCell ⟨g,k,none⟩ (.bool b)):=(Bf.refl _ _).setCell (p:=⟨g,k,none⟩) (.inl (by simp)) _;have d:∀(j:Nat) (Q:List Nat),j≠4→(parts q Fc vb vs vp (.slice (some ⟨g,0,none⟩) n C))[j]? = some Q→Dh Q [g]:=fun j Q hne hj=>H.Gu hj (j:=4) rfl hne
 have hn:n=S.al.length:=by
  obtain ⟨A',C',he⟩:=Bv H.GK
  cases he;rfl
 subst hn;refine ⟨H.head.upd hu (d 0 [q] (by omega) rfl q (by simp)),H.TI.upd hu (d 1 _ (by omega) rfl),H.rows.upd hu (d 2 _ (by omega) rfl),Bg H.PW hu (d 3 _ (by omega) rfl),?_,H.apart⟩
 have:=(World.ownsRow.stored H.GK k (.bool b)).1;unfold boolRow;rw [List.length_set,List.map_set];exact this
theorem EN.lay (H:EN w q cb vb vp va vs bk Fc S) {g n C:Nat} (ha:vp=.slice (some ⟨g,0,none⟩) n C) (k p:Nat):EN (w.setCell ⟨g,k,none⟩ (.int .i64 (p:Int))) q cb vb vp va vs bk Fc { S with pl:=S.pl.set k p }:=by
 subst ha;have hu:Bf [g] w (w.setCell ⟨g,k,none⟩ (.int .i64 (p:Int))):=(Bf.refl _ _).setCell (p:=⟨g,k,none⟩) (.inl (by simp)) _;have d:∀(j:Nat) (Q:List Nat),j≠3→(parts q Fc vb vs (.slice (some ⟨g,0,none⟩) n C) va)[j]? = some Q→Dh Q [g]:=fun j Q hne hj=>H.Gu hj (j:=3) rfl hne
 have hn:n=S.pl.length:=by
  obtain ⟨A',C',he⟩:=Bv H.PW
  cases he;rfl
 subst hn;refine ⟨H.head.upd hu (d 0 [q] (by omega) rfl q (by simp)),H.TI.upd hu (d 1 _ (by omega) rfl),H.rows.upd hu (d 2 _ (by omega) rfl),?_,Bg H.GK hu (d 4 _ (by omega) rfl),H.apart⟩
 have:=(World.ownsRow.stored H.PW k (.int .i64 (p:Int))).1;unfold MV;rw [List.length_set,List.map_set];exact this
theorem EN.carry (H:EN w q cb vb vp va vs bk Fc S) {mY:List Nat} {cs:List (Nat×Nat)} {wk:Nat} (hc:Dz Rq.KI w' cb mY (setB cs) cs.length wk) (hu:Bf Fc w w') (hF:∀x∈mY,x∈Fc∨w.heap.size≤x) :
 EN w' q cb vb vp va vs bk mY { S with cs:=cs,wk:=wk }:=by
 have d:∀(j:Nat) (Q:List Nat),j≠1→(parts q Fc vb vs vp va)[j]? = some Q→Dh Q Fc:=fun j Q hne hj=>H.Gu hj (j:=1) rfl hne
 refine ⟨H.head.upd hu (d 0 [q] (by omega) rfl q (by simp)),hc,H.rows.upd hu (d 2 _ (by omega) rfl),Bg H.PW hu (d 3 _ (by omega) rfl),Bg H.GK hu (d 4 _ (by omega) rfl),?_⟩
 exact IY (i:=1) H.apart H.lt rfl hF
theorem EN.bks (H:EN w q cb vb vp va vs bk Fc S) {mX:Value} {vs':List Value} {bk':List (List (Nat×Nat))} (hu:Bf (q::Ey vb vs) w w') (hh:Ic w' q #[.pointer (some ⟨cb,0,none⟩),mX,vp,va,.int .i64 (S.n:Int)] 175)
 (hr:Fj Rq.KI w' mX vs' bk') (hF:∀x∈Ey mX vs',x∈Ey vb vs∨w.heap.size≤x):EN w' q cb mX vp va vs' bk' Fc S:=by
 have d:∀(j:Nat) (Q:List Nat),j≠0→j≠2→(parts q Fc vb vs vp va)[j]? = some Q→Dh Q (q::Ey vb vs):=by
  intro j Q h0 h2 hj x hx hc;rcases List.mem_cons.1 hc with rfl | hc
  ·exact H.Gu hj (j:=0) rfl h0 x hx (by simp)
  ·exact H.Gu hj (j:=2) rfl h2 x hx hc
 refine ⟨hh,H.TI.upd hu (d 1 _ (by omega) (by omega) rfl),hr,Bg H.PW hu (d 3 _ (by omega) (by omega) rfl),Bg H.GK hu (d 4 _ (by omega) (by omega) rfl),?_⟩
 exact IY (i:=2) H.apart H.lt rfl hF
def DT (w w':World) (q cb:Nat) (F:List Nat) (bk:List (List (Nat×Nat))) (S:NS):Prop:=
 ∃vb vp va vs Fc,EN w' q cb vb vp va vs bk Fc S∧Bf F w w'∧∀x∈(parts q Fc vb vs vp va).flatten,x∈F∨w.heap.size≤x
theorem Bq {Ps:List (List Nat)} {i:Nat} {P:List Nat} {x:Nat} (hi:Ps[i]? = some P) (hx:x∈P):x∈Ps.flatten:=List.mem_flatten.2 ⟨P,List.mem_of_getElem? hi,hx⟩
theorem EJ {Ps:List (List Nat)} {i:Nat} {G':List Nat} {x:Nat} (h:x∈(Ps.set i G').flatten):x∈Ps.flatten∨x∈G':=by
 obtain ⟨P,hP,hx⟩:=List.mem_flatten.1 h;rcases List.mem_or_eq_of_mem_set hP with h1 | h1
 ·exact .inl (List.mem_flatten.2 ⟨P,h1,hx⟩)
 ·rw [h1] at hx;exact .inr hx
theorem DT.refl (H:EN w q cb vb vp va vs bk Fc S):DT w w q cb (parts q Fc vb vs vp va).flatten bk S:=⟨vb,vp,va,vs,Fc,H,Bf.refl _ _,fun _ hx=>.inl hx⟩
theorem DT.then {w'':World} {F:List Nat} {S':NS} {bk':List (List (Nat×Nat))} {mX vp' va':Value} {vs':List Value} {mY:List Nat} (hF:∀x∈(parts q Fc vb vs vp va).flatten,x∈F∨w.heap.size≤x) (h1:Bf F w w')
 (h:EN w'' q cb mX vp' va' vs' bk' mY S') (hu:Bf (parts q Fc vb vs vp va).flatten w' w'') (hF':∀x∈(parts q mY mX vs' vp' va').flatten,x∈(parts q Fc vb vs vp va).flatten∨w'.heap.size≤x):DT w w'' q cb F bk' S':=by
 refine ⟨_,_,_,_,_,h,h1.trans' hu hF,fun x hx=>?_⟩
 rcases hF' x hx with g | g
 ·exact hF x g
 ·exact .inr (Bd h1.size g)
def EK (w w':World) (tv:Value) (F:List Nat) (S:NS):Prop:=∃F',Hz w' tv F' S∧Bf F w w'∧∀x∈F',x∈F∨w.heap.size≤x
theorem DT.is {F:List Nat} (H:DT w w' q cb F bk S) (hb:Zq (setB S.cs) bk):EK w w' (.pointer (some ⟨q,0,none⟩)) F S:=by
 obtain ⟨vb,vp,va,vs,Fc,h,hu,hF⟩:=H;exact ⟨_,⟨q,cb,vb,vp,va,vs,bk,Fc,rfl,h,hb,rfl⟩,hu,hF⟩
theorem EK.quiet {w'':World} {tv:Value} {F:List Nat} (H:EK w w' tv F S) (hu:Bf [] w' w''):EK w w'' tv F S:=by
 obtain ⟨F',h,h1,h2⟩:=H;exact ⟨F',h.upd hu (by simp),h1.trans (hu.mono (by simp)),h2⟩
theorem EK.ahead {w0:World} {tv:Value} {F:List Nat} (H:EK w w' tv F S) (hu:Bf [] w0 w):EK w0 w' tv F S:=by
 obtain ⟨F',h,h1,h2⟩:=H;exact ⟨F',h,(hu.mono (by simp)).trans h1,fun x hx=>(h2 x hx).imp id fun g=>Bd hu.size g⟩
theorem dV (tv:Value) (F:List Nat) (w:World) (H:Hz w tv F S) :
 Calls Tryz.prog 124 #[tv] w fun e w'=>e=.returned (.bool false)∧w=w':=by
 obtain ⟨q,cb,vb,vp,va,vs,bk,Fc,rfl,H,hb,hF⟩:=H;obtain ⟨h0,-⟩:=H.cell;clear H hb hF;go_enter Tryz.func124,Tryz.ntmps124
 go_wp2_with fail
 go_ret
 exact ⟨rfl,rfl⟩
end Go.Proofs.YtkbaaonchdeneaaGreat.Nm
namespace Go.Proofs.YtkbaaonchdeneaaGreat.Nm
open Go.RowKit
theorem a1i {bk:List (List (Nat×Nat))} {S:NS} (hb:Zq (setB S.cs) bk) (I:Fz S) {i:Nat} {l:List (Nat×Nat)} (hl:bk[i]? = some l) {x:Nat} {y:Nat×Nat}
 (hy:l[below l x]? = some y) (he:y.1=x):S.cs.lookup x=some y.2:=by
 rw [Fp I.ids];have h1:y∈bk.flatten:=List.mem_flatten.2 ⟨l,List.mem_of_getElem? hl,List.mem_of_getElem? hy⟩;rw [hb.mem,bQ] at h1;rw [←he];exact h1
theorem xI {bk:List (List (Nat×Nat))} {S:NS} (hb:Zq (setB S.cs) bk) {x:Nat} (h:∀(j:Nat) (l:List (Nat×Nat)),bk[j]? = some l→∀y∈l,y.1≠x):S.cs.lookup x=none:=by
 rw [JF];intro y hy;rw [←bQ,←hb.mem] at hy;obtain ⟨l,hl,hyl⟩:=List.mem_flatten.1 hy;obtain ⟨j,hj⟩:=List.mem_iff_getElem?.1 hl;exact h j l hj y hyl
theorem dW {bs bk:List (List (Nat×Nat))} (hb:Zq bs bk) {i:Nat} {l:List (Nat×Nat)} (hl:bk[i]? = some l) {x:Nat} (h:∀y,l[below l x]? = some y→y.1≠x):∀y∈l,y.1≠x:=by
 intro y hy he;have hlt:=(AV hl).1;have hm:bs[i]? = some (bs[i]'(by rw [←hb.1];exact hlt)):=AX _;obtain ⟨z,h1,h2⟩:=uM (hb.2 i l _ hl hm).2 ⟨y,hy,he⟩;exact h z h1 h2
def PX (w:World) (S:NS) (x:Nat) (e:Ending) (w':World):Prop:=
 ∃t:Nat,e=.returned (.tuple #[.int .i64 (bP (S.cs.lookup x)),.int .i64 (t:Int)])∧t<1000000∧Bf [] w w'
theorem dX (tv:Value) (F:List Nat) (S:NS) (x:Nat) (w:World) (H:Hz w tv F S) (I:Fz S) (hl:S.cs.length<90000) :
 Calls Tryz.prog 125 #[tv,.int .u32 (x:Int)] w (PX w S x):=by
 obtain ⟨W,hW,hu,hq0⟩:=BJ w #[.int .i64 0] 3;have uf:=H.lt;have H:=H.upd hu (by simp);obtain ⟨q,cb,vb,vp,va,vs,bk,Fc,rfl,H,hb,hF⟩:=H;obtain ⟨h0,h1,-⟩:=H.cell;obtain ⟨A,C,hA⟩:=Bv H.rows.list;subst hA;obtain ⟨n,hn⟩:=AO vs.length;have hbn:bk.length=n:=by rw [←hn,H.rows.len]
 have b1j:n≤20:=by
  have:=hb.1;rw [Es,hbn] at this;rw [this];exact CQ S.cs.length 20 (by omega)
 have hll:∀(i:Nat) (l:List (Nat×Nat)),bk[i]? = some l→l.length<90000:=by
  intro i l YX;have hlt:=(AV YX).1;have hm:(setB S.cs)[i]? = some ((setB S.cs)[i]'(by rw [←hb.1];exact hlt)):=AX _;have h1:=(hb.2 i l _ YX hm).1.length_eq;have h2:=(List.sublist_flatten_of_mem (List.mem_of_getElem? hm)).length_le;rw [Uz] at h2;omega
 have Rn:w.heap.size∉(parts q Fc (.slice A vs.length C) vs vp va).flatten:=by
  rw [←hF];intro hc;exact Nat.lt_irrefl _ (uf _ hc)
 rw [hn] at h1 H Rn;have hcn:Ox W w.heap.size 0:=⟨hq0.cell 0,hq0.frozen 0⟩;have HH:=AQ H;have HB:=AQ hb;have HBN:=AQ hbn;have HI:=AQ I;have HU:=AQ hu;have HL:=AQ hll;have HQ:=AQ Rn;have HC0:=AQ hcn;have Ro:=AQ hW;have n0:(0:Int)≤(n:Int):=AU _;have n1:(n:Int)≤20:=by omega
 unfold PX;clear H hb I hF hu hn hbn hll Rn hq0 hW uf h0 hcn hl b1j;go_enter Tryz.func125,Tryz.ntmps125
 go_upto_region 2 with fail
 rw [←Ro.out];clear Ro;obtain ⟨qx,JJ⟩:∃q,w.heap.size=q:=⟨_,rfl⟩;rw [JJ] at HQ HC0 ⊢;have HQE:=AQ JJ;clear JJ;go_wp2_with fail
 go_loopg [16] n (fun m s16 wr=>∃(i t:Nat),m+i=n∧s16=.int .i64 (i:Int)∧Ox wr qx t∧t≤50*i∧Bf [qx] W wr∧∀(j:Nat) (l:List (Nat×Nat)),j<i→bk[j]? = some l→∀y∈l,y.1≠x)
 case atStart=>exact ⟨0,0,by omega,rfl,HC0.out,by omega,Bf.refl _ _,by omega⟩
 case round=>
  obtain ⟨i,t,Xo,rfl,hcn,ht,hup,hno⟩:=hrel;have i0:(0:Int)≤(i:Int):=AU _;by_cases hlt:i<n
  ·have hlt2:(i:Int)<(n:Int):=by omega
   have HR:=HH.out.rows.upd hup (by
    intro k hk hc;simp at hc;subst hc;exact HQ.out (Bq (i:=2) rfl hk))
   obtain ⟨g,Ak,Ck,hA,hv,hcell,hfro,hrow⟩:=HR.at (k:=i) (by rw [HBN.out];exact hlt);subst hA;obtain ⟨l,YX⟩:∃l,bk[i]? = some l:=⟨_,AX (by rw [HBN.out];exact hlt)⟩;have hle:=(AV YX).2;rw [hle] at hcell hrow hv;have hlb:=HL.out i l YX;have FD:See Rq.KI wr (.slice Ak l.length Ck) l:=See.BX hrow;have hbs:=HB.out;have hsr:l.Pairwise fun a b=>a.1≤b.1:=(hbs.2 i l ((setB S.cs)[i]'(by rw [←hbs.1,HBN.out];exact hlt)) YX (AX _)).2
   have RZ:0<l.length→qx∉blk (.slice Ak l.length Ck):=fun _ hc=>HQ.out (Bq (i:=2) rfl (CB.2 (.inr ⟨i,_,hv,hc⟩)))
   have HK:=Ap Xo ht hup hno;have xJ:=Aj YX FD RZ;have hbl:=below_le l x;obtain ⟨p,hp⟩:=AO (below l x);rw [hp] at hbl
   have hS:Calls Tryz.prog 192 #[.slice Ak l.length Ck,.int .u32 (x:Int),.func (.func 193) #[] #[.pointer (some ⟨qx,0,none⟩)]] wr fun e w'=>∃(t':Nat) (b:Bool),e=.returned (.tuple #[.int .i64 (p:Int),.bool b])∧Ox w' qx (t+t')∧t'≤BA l.length+1∧Bf [qx] wr w':=by
    rw [←hp];exact mV _ l x qx t wr FD (by omega) hcn (by omega) RZ hsr
   have HS:=AQ hS;have HP:=AQ hp;have p0:(0:Int)≤(p:Int):=AU _;have l0:(l.length:Int)<90000:=by omega
   have ht2:t≤1000:=by omega
   clear Xo ht hup hno HR hv hfro hrow hle YX FD hsr hbs RZ hcn hp hS;go_upto_region 5 with fail
   go_wp2_with fail
   (with_reducible refine HS.out.mono ?_);rintro e w3 ⟨t3,b3,rfl,hc3,ht3,hu3⟩;have a2b:BA l.length≤17:=CQ l.length 17 (by omega);obtain ⟨c,hc⟩:=AO (t+t3);rw [hc] at hc3;have htt:c≤2000:=by omega
   have HT:=Aj a2b ht3 hc;have Gj:=AQ hu3;have c1:=hc3.cell;have c2:=hc3.soft;have t0:(0:Int)≤(c:Int):=AU _;have t1:(c:Int)≤2000:=by omega
   have Xp:=AQ hc3;clear ht3 hu3 hcell hc3 a2b hc;by_cases hpl:p<l.length
   ·have hpl2:(p:Int)<(l.length:Int):=by omega
    obtain ⟨y,hy⟩:∃y,l[p]? = some y:=⟨_,AX hpl⟩;have hs4:=Xp.out.set (c+1);have he:Value.int .i64 ((c+1:Nat):Int)=Value.int .i64 ((c:Int)+1):=by congr 1
    rw [he] at hs4;have hus:Bf [qx] w3 (w3.setCell ⟨qx,0,none⟩ (.int .i64 ((c:Int)+1))):=(Bf.refl _ _).setCell (p:=⟨qx,0,none⟩) (.inl (by simp)) _;have Vx:=(xJ.2.1.upd Gj.out (fun h0 k hk _ hc=>by simp at hc;subst hc;exact xJ.2.2 h0 hk)).upd hus (fun h0 k hk _ hc=>by simp at hc;subst hc;exact xJ.2.2 h0 hk);obtain ⟨g2,og,hA2,-,-,ey⟩:=Vx.at hy;subst hA2;have y0:=ey 0 _ rfl;have y1:=ey 1 _ rfl;have y0:(w3.setCell ⟨qx,0,none⟩ (.int .i64 ((c:Int)+1))).cell? ⟨g2,og+p*2,none⟩=some (.int .u32 (y.1:Int)):=y0;have y1:(w3.setCell ⟨qx,0,none⟩ (.int .i64 ((c:Int)+1))).cell? ⟨g2,og+p*2+1,none⟩=some (.int .i64 (y.2:Int)):=y1;have z0:=hs4.cell;have aW:=AQ hs4;have HUS:=AQ hus;have HY:=AQ hy;clear ey Vx hs4 hus hy he;go_upto_region 8 with fail
    generalize (w3.setCell ⟨qx,0,none⟩ (.int .i64 ((c:Int)+1)))=w4 at aW HUS y0 y1 z0 ⊢;clear c1 c2;by_cases hyx:y.1=x
    ·have HYX:=AQ hyx;have b1k:((y.1:Int)==(x:Int))=true:=by simp;omega
     clear hyx;go_upto_region 9 with fail
     go_region
     go_wp2_with fail
     go_ret2
     have hf:=a1i HB.out HI.out xJ.1 (x:=x) (y:=y) (by rw [HP.out];exact HY.out) HYX.out;refine ⟨c+1,?_,by omega,?_⟩
     ·rw [hf];rfl
     ·exact HU.out.trans' (((HK.2.2.1.trans Gj.out).trans HUS.out).drew) (fun k hk=>by simp at hk;subst hk;right;have:=HQE.out;omega)
    ·have HYX:=AQ hyx;have b1k:((y.1:Int)==(x:Int))=false:=by simp;omega
     clear hyx;go_wp2_with fail
     go_roundg (n - (i+1))
     case measure=>have:=HK.1;omega
     case rel=>
      obtain ⟨k1,k2,k3,k4⟩:=HK.out;refine ⟨i+1,c+1,by omega,by go_num,aW.out,?_,(k3.trans Gj.out).trans HUS.out,?_⟩
      ·obtain ⟨e1,e2,e3⟩:=HT.out;omega
      ·intro j l' hj hl';rcases Nat.lt_or_ge j i with hji | hji
       ·exact k4 j l' hji hl'
       ·have:j=i:=by omega
        subst this;rw [xJ.1] at hl'
        cases hl'
        refine dW HB.out xJ.1 ?_
        intro y' hy';rw [HP.out,HY.out] at hy'
        cases hy'
        exact HYX.out
   ·have hpl2:¬(p:Int)<(l.length:Int):=by omega
    have HPL:=AQ hpl;clear c1 c2 hpl;dsimp only;go_wp2_with fail
    go_roundg (n - (i+1))
    case measure=>have:=HK.1;omega
    case rel=>
     obtain ⟨k1,k2,k3,k4⟩:=HK.out;refine ⟨i+1,c,by omega,by go_num,Xp.out,?_,k3.trans Gj.out,?_⟩
     ·obtain ⟨e1,e2,e3⟩:=HT.out;omega
     ·intro j l' hj hl';rcases Nat.lt_or_ge j i with hji | hji
      ·exact k4 j l' hji hl'
      ·have:j=i:=by omega
       subst this;rw [xJ.1] at hl'
       cases hl'
       refine dW HB.out xJ.1 ?_
       intro y' hy';rw [HP.out,List.getElem?_eq_none (Ac HPL)] at hy'
       cases hy'
  ·have hin:i=n:=by omega
   have HK:=Aj ht hup hno;have c1:=hcn.cell;have ZR:=AQ hin;clear ht hup hno hcn Xo;go_upto_region 11 with fail
   go_region
   go_wp2_with fail
   go_ret2
   obtain ⟨k2,k3,k4⟩:=HK.out;have hf:S.cs.lookup x=none:=xI HB.out fun j l hj=>k4 j l (by have:=(AV hj).1;rw [HBN.out] at this;rw [ZR.out];exact this) hj
   refine ⟨t,?_,by omega,?_⟩
   ·rw [hf];rfl
   ·exact HU.out.trans' (k3.drew) (fun k hk=>by simp at hk;subst hk;right;have:=HQE.out;omega)
end Go.Proofs.YtkbaaonchdeneaaGreat.Nm
namespace Go.Proofs.YtkbaaonchdeneaaGreat.Nm
open Go.RowKit
theorem Oy {w:World} {b:Nat} {e:TypeId} {A:Option Addr} {n m C:Nat} {xs:List Value} (h:w.ownsRow b e 1 (.slice A m C) n xs) {k:Nat} (hk:k<n) {u:Value} (hu:xs[k]? = some u) :
 ∃q,A=some ⟨q,0,none⟩∧w.cell? ⟨q,k,none⟩=some u∧w.frozen? ⟨q,k,none⟩=false∧q<w.heap.size:=by
 obtain ⟨q,cap,he,_,hlt⟩:=World.ownsRow.form h (by omega)
 cases he
 refine ⟨q,rfl,?_,World.ownsRow.frozenAt h k,hlt⟩
 have:=World.ownsRow.cells h (g:=q) rfl k u hu;rwa [addr_add,Nat.zero_add] at this
theorem TK {w:World} {va:Value} {al:List Bool} (h:boolRow w va al) {k:Nat} (hk:k<al.length):∃q C,va=.slice (some ⟨q,0,none⟩) al.length C∧w.cell? ⟨q,k,none⟩=some (.bool (al.getD k false))∧w.frozen? ⟨q,k,none⟩=false∧q<w.heap.size:=by
 obtain ⟨A,C,rfl⟩:=Bv h
 obtain ⟨q,rfl,h1,h2,h3⟩:=Oy h (k:=k) hk (u:=.bool (al.getD k false)) (by
  rw [List.getElem?_map,AX hk,List.getD_eq_getElem?_getD,AX hk];rfl)
 exact ⟨q,C,rfl,h1,h2,h3⟩
theorem PY {w:World} {vp:Value} {pl:List Nat} (h:MV w vp pl) {k:Nat} (hk:k<pl.length):∃q C,vp=.slice (some ⟨q,0,none⟩) pl.length C∧w.cell? ⟨q,k,none⟩=some (.int .i64 ((pl.getD k 0:Nat):Int))∧w.frozen? ⟨q,k,none⟩=false∧q<w.heap.size:=by
 obtain ⟨A,C,rfl⟩:=Bv h
 obtain ⟨q,rfl,h1,h2,h3⟩:=Oy h (k:=k) hk (u:=.int .i64 ((pl.getD k 0:Nat):Int)) (by
  rw [List.getElem?_map,AX hk,List.getD_eq_getElem?_getD,AX hk];rfl)
 exact ⟨q,C,rfl,h1,h2,h3⟩
theorem PZ {S:NS} (I:Fz S) {x k:Nat} (h:S.cs.lookup x=some k):k<S.al.length∧k<S.pl.length:=by
 rw [Fp I.ids] at h;have:=I.lt _ h;exact ⟨this,by rw [I.pll];exact this⟩
def ZT (o:Option Nat):Int:=match o with | some k=>(k:Int) | none=>0
def QI (w:World) (S:NS) (x:Nat) (e:Ending) (w':World):Prop:=
 ∃t:Nat,e=.returned (.tuple #[.int .i64 (ZT (place S x)),.bool (place S x).isSome,.int .i64 (t:Int)])∧Bf [] w w'
theorem a4C (tv:Value) (F:List Nat) (S:NS) (x:Nat) (w:World) (H:Hz w tv F S) (I:Fz S) (hl:S.cs.length<90000) :
 Calls Tryz.prog 76 #[tv,.int .u32 (x:Int)] w (QI w S x):=by
 have HN:=AQ (dV tv F w H);have HF:=AQ (dX tv F S x w H I hl);have HH:=AQ H;have HI:=AQ I;obtain ⟨q,cb,vb,vp,va,vs,bk,Fc,rfl,-⟩:=H;obtain ⟨o,ho⟩:=AO (S.cs.lookup x);unfold QI;clear I;go_enter Tryz.func76,Tryz.ntmps76
 go_wp2_with fail
 (with_reducible refine HN.out.mono ?_);rintro e w' ⟨rfl,rfl⟩;go_wp2_with fail
 (with_reducible refine HF.out.mono ?_);rintro e w' ⟨t,rfl,ht,hu⟩;have HU:=AQ hu;rw [ho]
 cases o with
 |none=>
  have hp:place S x=none:=by unfold place;rw [ho]
  have HP:=AQ hp;have hd:bP none = -1:=rfl;rw [hd];clear hp ho hu hd;dsimp only;go_wp2_with fail
  go_ret3
  exact ⟨t,by rw [HP.out];rfl,HU.out⟩
 |some k=>
  obtain ⟨hk1,hk2⟩:=PZ HI.out ho;obtain ⟨q,cb,vb,vp,va,vs,bk,Fc,he,H,hb,hF⟩:=HH.out.upd hu (by simp)
  cases he
  obtain ⟨-,-,h2,h3,-⟩:=H.cell;obtain ⟨ga,Ca,rfl,a1,-⟩:=TK H.GK hk1;obtain ⟨gp,Cp,rfl,p1,-⟩:=PY H.PW hk2;have k0:(0:Int)≤(k:Int):=AU _;have k1:(k:Int)<(S.al.length:Int):=by omega
  have k2:(k:Int)<(S.pl.length:Int):=by omega
  have k3:¬(k:Int)<0:=by omega
  have hd:bP (some k)=(k:Int):=rfl;rw [hd];by_cases hal:S.al.getD k false=true
  ·have hp:place S x=some (S.pl.getD k 0):=by unfold place;rw [ho];dsimp only;rw [if_pos hal]
   have HP:=AQ hp;rw [hal] at a1;obtain ⟨pv,hpv⟩:=AO (S.pl.getD k 0);rw [hpv] at p1;have vS:=AQ hpv;clear H hb hF hd hp ho hu hal hpv hk1 hk2;dsimp only;go_wp2_with fail
   go_ret3
   exact ⟨⟨t,by rw [HP.out,vS.out];rfl⟩,HU.out⟩
  ·have hp:place S x=none:=by unfold place;rw [ho];dsimp only;rw [if_neg hal]
   have hal2:S.al.getD k false=false:=by simpa using hal
   have HP:=AQ hp;rw [hal2] at a1;clear H hb hF hd hp ho hu hal hal2 hk1 hk2;dsimp only;go_wp2_with fail
   go_ret3
   exact ⟨⟨t,by rw [HP.out];rfl⟩,HU.out⟩
def N0:NS:=⟨[],[],[],0,0⟩
theorem Fz.zero:Fz N0:=⟨by simp [N0],by simp [N0],by simp [N0],rfl,rfl,by simp [N0]⟩
theorem b1l (w:World) :
 Calls Tryz.prog 58 #[] w fun e w'=>∃tv F,e=.returned tv∧Hz w' tv F N0∧(∀x∈F,w.heap.size≤x)∧Bf [] w w':=by
 have HC:=AQ (Rq.a4p w);go_enter Tryz.func58,Tryz.ntmps58
 go_wp2_with fail
 (with_reducible refine HC.out.mono ?_);rintro e w' ⟨b,rfl,hc,hb,hu⟩;have HB:=Aj hc hb hu;clear hc hb hu;go_wp2_with fail
 go_ret
 obtain ⟨hc,hb,hu⟩:=HB.out;obtain ⟨W,hW,hu2,hh⟩:=BJ w' #[.pointer (some ⟨b,0,none⟩),.slice none 0 0,.slice none 0 0,.slice none 0 0,.int .i64 0] 175;rw [←hW];have hcl:=hc.lt b (by simp);refine ⟨_,_,rfl,⟨w'.heap.size,b,.slice none 0 0,.slice none 0 0,.slice none 0 0,[],[],[b],rfl,⟨hh,?_,Fj.nil,World.ownsRow_nil _ _ _ _,World.ownsRow_nil _ _ _ _,?_⟩,⟨by simp [N0,setB,BA],by simp⟩,rfl⟩,?_,hu.trans hu2⟩
 ·have:=hc.upd hu2 (by simp);show Dz _ _ _ _ (setB []) _ _
  rw [uy];exact this
 ·simp [parts,Ey,blk,Dh];omega
 ·simp [parts,Ey,blk];exact ⟨hu.size,hb⟩
