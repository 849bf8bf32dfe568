/- names.entry: sorted by names; searched with a count. A directory of names in memory. names' -/
import Derived.Test.YtkbaaonchdeneaaGreatPc20
import Derived.Test.YtkbaaonchdeneaaGreatPc29
set_option maxHeartbeats 8000000
set_option maxRecDepth 100000
namespace Go.Proofs.YtkbaaonchdeneaaGreat
namespace Nm
open Go.RowKit Go.Shelf Go.Sort Go.Lib
def sQ (a b:Nat×Nat):Int:=GH a.1 b.1
theorem RZ (a b:Nat×Nat):sQ a b<0↔a.1<b.1:=by
 unfold sQ GH;by_cases h1:(a.1:Int)<b.1
 ·simp [h1];omega
 ·by_cases h2:(b.1:Int)<a.1
  ·simp [h1,h2];omega
  ·simp [h1,h2];omega
theorem a7s:SWO (ltOf sQ) where
 irrefl x:=by unfold ltOf;simp [RZ]
 trans x y z h1 h2:=by unfold ltOf at *;simp [RZ] at *;omega
 ntrans x y z h1 h2:=by unfold ltOf at *;simp [RZ] at *;omega
theorem a4Y (s t:Nat×Nat) (w:World):Calls Tryz.prog 197 #[.agg (NH.KI.enc s).toArray,.agg (NH.KI.enc t).toArray] w λe w'=>e=.returned (.int .i64 (sQ s t))/\∃os,w'=grow w os:=by
 obtain ⟨a,x⟩:=s;obtain ⟨b,y⟩:=t;have H1:=AX (λw=>Xe (a:Int) (b:Int) w);show Calls Tryz.prog 197 #[.agg #[.int .u32 (a:Int),(x:Int)],.agg #[.int .u32 (b:Int),(y:Int)]] w λe w'=>e=.returned (.int .i64 (GH (a:Int) (b:Int)))/\∃os,w'=grow w os
 go_enter Tryz.func197,Tryz.ntmps197
 go_wp2_with fail
 go_fit (H1.out _)
 rintro e w' ⟨rfl,rfl⟩;go_wp2_with fail
 go_ret
 exact ⟨rfl,_,by rw [alloc_eq_grow,alloc_eq_grow,grow_grow]⟩
theorem sU (base:Nat) (v:Value) (l:List (Nat×Nat)) (w:World) (h:NH.KI.row w base v l) (hb:l.length<1000000) :
 Calls Tryz.prog 196 #[v,.func (.func 197) #[] #[]] w λe w'=>
  e=.returned (.tuple #[])/\Bj (blk v) w w'/\∃l':List (Nat×Nat),l'.Perm l/\l'.Pairwise (λa b=>a.1<=b.1)/\NH.KI.row w' base v l':=by
 rcases h.2 with ⟨rfl,hn⟩ | ⟨g,cap,cur,rfl,h3⟩
 ·have:=AnyF.slices_SortFunc_none (L:=Tryz.sortE) none 0 (.func (.func 197) #[] #[]) w;refine Calls.mono this ?_
  rintro e w' ⟨rfl,rfl⟩;have hl:l = []:=List.eq_nil_of_length_eq_zero hn;subst hl;exact ⟨rfl,Bj.refl _ _,[],List.Perm.refl _,List.Pairwise.nil,h⟩
 ·have:=qK Tryz.sortE NH.KI (by decide) Tryz.isAgg172 Tryz.sizeOf172 197 sQ a7s (enters_of Tryz.func197 (by kernel_rfl) rfl) a4Y base g l.length cap l w h rfl hb;refine Calls.mono this ?_
  rintro e w' ⟨rfl,h4,l',h5,h6,h7⟩;refine ⟨rfl,h4,l',h5,h6.imp ?_,h7⟩
  intro a b hab;rw [RZ] at hab;omega
theorem gY (base:Nat) (v:Value) (l:List (Nat×Nat)) (w:World) (h:NH.KI.row w base v l) (hb:l.length<1000000) :
 Calls Tryz.prog 127 #[v] w λe w'=>
  e=.returned v/\Bj (blk v) w w'/\∃l':List (Nat×Nat),l'.Perm l/\l'.Pairwise (λa b=>a.1<=b.1)/\NH.KI.row w' base v l':=by
 have HS:=AX (sU base v l w h hb);obtain ⟨A,C,rfl⟩:=BD h;clear h;go_enter Tryz.func127,Tryz.ntmps127
 go_wp2_with fail
 go_fit HS.out
 rintro e w' ⟨rfl,h1,h2⟩;have HH:=Ap h1 h2;clear h1 h2;go_wp2_with fail
 go_ret
 exact ⟨rfl,HH.out⟩
def below (R:List (Nat×Nat)) (x:Nat):Nat:=(R.filter λs=>decide (s.1<x)).length
theorem JD {R:List (Nat×Nat)} {x:Nat} {i:Nat} (hi:i<=R.length) (h1:∀s∈R.take i,s.1<x) (h2:∀s∈R.drop i,x<=s.1):below R x=i:=by
 unfold below;conv=>lhs;rw [<-List.take_append_drop i R]
 rw [List.filter_append,List.filter_eq_self.2 (by simpa using h1),List.filter_eq_nil_iff.2 (by intro s hs hc;have:=h2 s hs;simp at hc;omega),List.append_nil,Bf];omega
theorem below_le (R:List (Nat×Nat)) (x:Nat):below R x<=R.length:=List.length_filter_le _ _
theorem OT (s:Nat×Nat) (x:Nat) (q c:Nat) (w:World) (h:J8 w q c) (hc:c<1000000) :
 Calls Tryz.prog 193 #[.agg #[.int .u32 (s.1:Int),(s.2:Int)],.int .u32 (x:Int),.pointer (some q)] w λe w'=>e=.returned (.int .i64 (GH (s.1:Int) (x:Int)))/\J8 w' q (c+1)/\Bj [q] w w':=by
 obtain ⟨id,num⟩:=s;have hu:Bj [] w (w.alloc (.cells #[.int .u32 (id:Int),(num:Int)] 172)):=(Bj.refl _ _).alloc _;have h1:=h.upd hu (by simp);have hql:q<w.heap.size:=World.block_lt_of_cell? w _ h.cell;have d0:(w.alloc (.cells #[.int .u32 (id:Int),(num:Int)] 172)).cell? w.heap.size=some (.int .u32 (id:Int)):=by rw [World.cell?_alloc_at _ _ _ _ rfl];rfl
 have H1:=AX (λw=>Xe (id:Int) (x:Int) w);dsimp only;go_enter Tryz.func193,Tryz.ntmps193
 go_upto_region 1 with fail
 generalize (w.alloc (.cells #[.int .u32 (id:Int),(num:Int)] 172))=W at hu h1 d0 |-;have c1:=h1.cell;have c2:=h1.soft;have c0:(0:Int)<=(c:Int):=AY _;have c3:(c:Int)<1000000:=by omega
 have hs:=h1.set (c+1);have he:Value.int .i64 ((c+1:Nat):Int)=Value.int .i64 ((c:Int)+1):=by congr 1
 rw [he] at hs;have hup:Bj [q] w (W.setCell q (.int .i64 ((c:Int)+1))):=(hu.mono (G:=[q]) (by simp)).setCell (p:=⟨q,0,none⟩) (.inl (by simp)) _;have hqq:(⟨w.heap.size,0,none⟩:Addr).block∉[q]:=by simp;omega
 have e0:=(((Bj.refl [q] W).setCell (p:=⟨q,0,none⟩) (.inl (by simp)) (.int .i64 ((c:Int)+1))).cell (p:=⟨w.heap.size,0,none⟩) (World.block_lt_of_cell? _ _ d0) hqq).trans d0;have HF:=Ap hs hup;clear he h hu h1 hs hup hqq hql;go_upto_region 2 with fail
 clear c1 c2 d0;generalize (W.setCell q (.int .i64 ((c:Int)+1)))=W2 at e0 HF |-;go_wp2_with fail
 go_fit (H1.out _)
 rintro e w' ⟨rfl,rfl⟩;go_wp2_with fail
 go_ret
 exact ⟨rfl,HF.out⟩
theorem bg {R:List (Nat×Nat)} {x:Nat} {p:Nat} {s:Nat×Nat} (h:R.Pairwise λa b=>a.1<=b.1) (hs:R[p]? = some s) (hx:s.1<x):∀y∈R.take (p+1),y.1<x:=by
 intro y hy;obtain ⟨h1,h2⟩:=AZ hs;rw [Bd h1,h2,List.mem_append] at hy;rcases hy with hy | hy
 ·obtain ⟨i,hi,rfl⟩:=List.mem_iff_getElem.1 hy;rw [Bf] at hi;rw [List.getElem_take];have:=List.pairwise_iff_getElem.1 h i p (by omega) h1 (by omega);rw [h2] at this;omega
 ·simp at hy;subst hy;exact hx
theorem bC {R:List (Nat×Nat)} {x:Nat} {p:Nat} {s:Nat×Nat} (h:R.Pairwise λa b=>a.1<=b.1) (hs:R[p]? = some s) (hx:x<=s.1):∀y∈R.drop p,x<=y.1:=by
 intro y hy;obtain ⟨h1,h2⟩:=AZ hs;obtain ⟨i,hi,rfl⟩:=List.mem_iff_getElem.1 hy;rw [List.length_drop] at hi;rw [List.getElem_drop];rcases Nat.eq_zero_or_pos i with h0 | h0
 ·subst h0;simp only [Nat.add_zero];rw [h2];exact hx
 ·have:=List.pairwise_iff_getElem.1 h p (p+i) h1 (by omega) (by omega);rw [h2] at this;omega
def IG (w:World) (q c:Nat) (R:List (Nat×Nat)) (x:Nat) (e:Ending) (w':World):Prop:=
 ∃(t:Nat) (b:Bool),e=.returned (.tuple #[.int .i64 ((below R x:Nat):Int),.bool b])/\J8 w' q (c+t)/\t<=BA R.length+1/\Bj [q] w w'
theorem gK (v:Value) (R:List (Nat×Nat)) (x:Nat) (q c:Nat) (w:World) (hs:See NH.KI w v R) (hb:R.length<100000) (hq:J8 w q c) (hc:c<100000) (hv:0<R.length->q∉blk v) (hsr:R.Pairwise λa b=>a.1<=b.1) :
 Calls Tryz.prog 192 #[v,.int .u32 (x:Int),.func (.func 193) #[] #[.pointer (some q)]] w (IG w q c R x):=by
 obtain ⟨A,C,rfl⟩:=hs.form;obtain ⟨n,hn⟩:=AU R.length;rw [hn] at hs hb |-;have hbn:BA n<=17:=BP n 17 (by omega);have H:=AX hs;have HN:=Aq hn hsr hbn;have HQ:=AX hq;have HV:=AX hv;have n0:(0:Int)<=(n:Int):=AY _;have n1:(n:Int)<100000:=by omega
 have hse:∀w',Bj [q] w w'->See NH.KI w' (.slice A n C) R:=λw' hu=>H.out.upd hu (λh0 k hk hkl hc=>by simp at hc;subst hc;exact HV.out h0 (by rw [HN.1];exact hk))
 have nU:=AX hse;unfold IG;clear hs hn hq hv hsr hbn hse;go_enter Tryz.func192,Tryz.ntmps192
 go_wp2_with fail
 go_loopg [9,10] n (λm s9 s10 wr=>∃(i j t:Nat),m+i=j/\j<=n/\s9=.int .i64 (i:Int)/\s10=.int .i64 (j:Int)/\(∀s∈R.take i,s.1<x)/\(∀s∈R.drop j,x<=s.1)/\J8 wr q (c+t)/\t+BA (j - i)<=BA n/\Bj [q] w wr)
 case atStart=>exact ⟨0,n,0,by omega,Nat.le_refl _,rfl,rfl,by simp,by rw [<-HN.1];simp,HQ.out,by simp,Bj.refl _ _⟩
 case round=>
  obtain ⟨i,j,t,hij,hjn,rfl,rfl,hlo,hhi,hcn,htb,hup⟩:=hrel;have i0:(0:Int)<=(i:Int):=AY _;have j0:(0:Int)<=(j:Int):=AY _;have hi1:i<=j:=by omega
  have hi2:(i:Int)<=(j:Int):=by omega
  have hj2:(j:Int)<=(n:Int):=by omega
  by_cases hlt:i<j
  ·obtain ⟨p,hp⟩:=AU ((i+j) / 2);have hip:i<=p/\p<j:=by omega
   obtain ⟨s,hs⟩:∃s,R[p]? = some s:=⟨_,Ba (by rw [HN.1];omega)⟩;obtain ⟨g,og,hA,-,-,ey⟩:=(nU.out wr hup).at hs;subst hA;have y0:wr.cell? ⟨g,og+p*2,none⟩=some (.int .u32 (s.1:Int)):=ey 0 _ rfl;have y1:wr.cell? ⟨g,og+p*2+1,none⟩=some (.int .i64 (s.2:Int)):=ey 1 _ rfl;have hct:c+t<1000000:=Ac HN.2.2;have hsd:=OT s x q (c+t) wr hcn hct;have b1:(i:Int)<(j:Int):=by omega
   have p0:(0:Int)<=(p:Int):=AY _;have p1:(p:Int)<(n:Int):=by omega
   have HK:=Az hij hjn hlo hhi htb hup;have HS:=AX hs;have HP:=Ap hip hp;have HCT:=Ap hcn hct;clear hij hjn hlo hhi hcn htb hup hs ey hp hip hct hi1;go_upto_region 5 with fail
   have hcv:Value.int .i64 (((i:Int)+(j:Int)) / 2)=Value.int .i64 (p:Int):=by have:=HP.2;congr 1;omega
   simp only [hcv];clear hcv;by_cases hx:s.1<x
   ·have hsv:GH (s.1:Int) (x:Int) = -1:=OX (by omega);rw [hsv] at hsd;have WY:=AX hsd;have HX:=AX (bg HN.2.1 HS.out hx);clear hsd hsv hx;go_wp2_with fail
    go_fit WY.out
    rintro e w3 ⟨rfl,h3,u3⟩;have HE:=Ap h3 u3;clear h3 u3 y0 y1;go_wp2_with fail
    go_roundg (j - (p+1))
    case measure=>have h1:=HK.1;have h2:=HP.out;omega
    case rel=>
     obtain ⟨k1,k2,k3,k4,k5,k6⟩:=HK.out;have h2:=HP.out;have h5:=GV (n:=j - i) (by omega) (k:=j - (p+1)) (by omega);exact ⟨p+1,j,t+1,by omega,k2,by go_num,rfl,HX.out,k4,HE.1,by omega,k6.trans HE.2⟩
   ·have hsv:GH (s.1:Int) (x:Int)=0\/GH (s.1:Int) (x:Int)=1:=by unfold GH;rw [if_neg (by omega)];split<;>simp
    rcases hsv with hsv | hsv
    all_goals
     rw [hsv] at hsd;have WY:=AX hsd;have HX:=AX (bC HN.2.1 HS.out (show x<=s.1 by omega));clear hsd hsv hx;go_wp2_with fail
     go_fit WY.out
     rintro e w3 ⟨rfl,h3,u3⟩;have HE:=Ap h3 u3;clear h3 u3 y0 y1;go_wp2_with fail
     go_roundg (p - i)
     case measure=>have h1:=HK.1;have h2:=HP.out;omega
     case rel=>
      obtain ⟨k1,k2,k3,k4,k5,k6⟩:=HK.out;have h2:=HP.out;have h5:=GV (n:=j - i) (by omega) (k:=p - i) (by omega);exact ⟨i,p,t+1,by omega,by omega,rfl,rfl,k3,HX.out,HE.1,by omega,k6.trans HE.2⟩
  ·have hij2:i=j:=by omega
   subst hij2;have hb:=JD (R:=R) (x:=x) (by rw [HN.1];exact hjn) hlo hhi;have HB:=AX hb;have aG:t<=BA n:=by omega
   have HK:=Ap aG hup;by_cases hin:i<n
   ·obtain ⟨s,hs⟩:∃s,R[i]? = some s:=⟨_,Ba (by rw [HN.1];omega)⟩;obtain ⟨g,og,hA,-,-,ey⟩:=(nU.out wr hup).at hs;subst hA;have y0:wr.cell? ⟨g,og+i*2,none⟩=some (.int .u32 (s.1:Int)):=ey 0 _ rfl;have y1:wr.cell? ⟨g,og+i*2+1,none⟩=some (.int .i64 (s.2:Int)):=ey 1 _ rfl;have hct:c+t<1000000:=Ac HN.2.2;have hsd:=OT s x q (c+t) wr hcn hct;obtain ⟨z,hz⟩:=AU (GH (s.1:Int) (x:Int));rw [hz] at hsd;clear hz;have b1:(i:Int)<(n:Int):=by omega
    have WY:=AX hsd;clear hsd hs ey hct hlo hhi hcn htb hup hij hjn hi1 aG hb hlt;go_wp2_with fail
    go_fit WY.out
    rintro e w3 ⟨rfl,h3,u3⟩;have HE:=Ap h3 u3;clear h3 u3 y0 y1;go_wp2_with fail
    go_ret2
    exact ⟨t+1,_,by rw [HB.out];rfl,HE.1,by rw [HN.1];have:=HK.1;omega,HK.2.trans HE.2⟩
   ·have hin2:i=n:=by omega
    subst hin2;have HC:=AX hcn;clear hlo hhi hcn htb hup hij hjn hi1 aG hb hlt;go_wp2_with fail
    go_ret2
    exact ⟨t,_,by rw [HB.out];rfl,HC.out,by rw [HN.1];have:=HK.1;omega,HK.2⟩
end Nm
namespace Nm
open Go.RowKit
def CU (A B:List Nat):Prop:=∀x∈A,x∉B
theorem CU.symm {A B:List Nat} (h:CU A B):CU B A:=λx hx hc=>h x hc hx
theorem O8 {Ps:List (List Nat)} (h:Ps.Pairwise CU) {i j:Nat} {G H:List Nat} (hi:Ps[i]? = some G) (hj:Ps[j]? = some H) (hne:i≠j):CU G H:=by
 rw [List.pairwise_iff_getElem] at h;obtain ⟨li,ei⟩:=AZ hi;obtain ⟨lj,ej⟩:=AZ hj;rcases Nat.lt_or_gt_of_ne hne with h3 | h3
 ·have:=h i j li lj h3;rwa [ei,ej] at this
 ·have:=h j i lj li h3;rw [ei,ej] at this;exact this.symm
theorem Gz {Ps:List (List Nat)} (h:Ps.Pairwise CU) {N:Nat} (hlt:∀P∈Ps,∀x∈P,x<N) {i:Nat} {G G':List Nat} (hi:Ps[i]? = some G) (hG:∀x∈G',x∈G\/N<=x):(Ps.set i G').Pairwise CU:=by
 have key:∀j,j<Ps.length->j≠i->∀(hj:j<Ps.length),CU G' Ps[j]:=by
  intro j hj hne hj' x hx hc;rcases hG x hx with h1 | h1
  ·exact O8 h hi (Ba hj') (Ne.symm hne) x h1 hc
  ·have:=hlt _ (List.getElem_mem hj') x hc;omega
 rw [List.pairwise_iff_getElem] at h |-;intro a b ha hb hab;rw [List.length_set] at ha hb;rw [List.getElem_set,List.getElem_set];split
 ·rename_i e1
  split
  ·omega
  ·exact key b hb (by omega) hb
 ·rename_i e1
  split
  ·exact (key a ha (by omega) ha).symm
  ·exact h a b ha hb hab
def boolRow (w:World) (v:Value) (l:List Bool):Prop:=w.ownsRow 0 4 1 v l.length (l.map .bool)
def Jp (w:World) (v:Value) (l:List Nat):Prop:=w.ownsRow 0 3 1 v l.length (l.map λ(n:Nat)=>.int .i64 (n:Int))
def parts (q:Nat) (Fc:List Nat) (vb:Value) (vs:List Value) (vp va:Value):List (List Nat):=[[q],Fc,D8 vb vs,blk vp,blk va]
structure Eh (w:World) (q cb:Nat) (vb vp va:Value) (vs:List Value) (bk:List (List (Nat×Nat))) (Fc:List Nat) (S:NS):Prop where
 head:JX w q #[.pointer (some cb),vb,vp,va,(S.n:Int)] 175
 Om:Dc NH.KI w cb Fc (setB S.cs) S.cs.length S.wk
 rows:Et NH.KI w vb vs bk
 Ny:Jp w vp S.pl
 FK:boolRow w va S.al
 apart:(parts q Fc vb vs vp va).Pairwise CU
def Gi (w:World) (tv:Value) (F:List Nat) (S:NS):Prop:=
 ∃q cb vb vp va vs bk Fc,tv=.pointer (some ⟨q,0,none⟩)/\Eh w q cb vb vp va vs bk Fc S/\WT (setB S.cs) bk/\F=(parts q Fc vb vs vp va).flatten
variable {w w':World} {q cb:Nat} {vb vp va:Value} {vs:List Value} {bk:List (List (Nat×Nat))} {Fc:List Nat} {S:NS}
theorem Eh.lt (H:Eh w q cb vb vp va vs bk Fc S):∀P∈parts q Fc vb vs vp va,∀x∈P,x<w.heap.size:=by
 intro P hP x hx;simp only [parts,List.mem_cons,List.not_mem_nil,or_false] at hP;rcases hP with rfl | rfl | rfl | rfl | rfl
 ·simp at hx;subst hx;exact H.head.lt
 ·exact H.Om.lt x hx
 ·exact H.rows.lt x hx
 ·exact BJ H.Ny x hx
 ·exact BJ H.FK x hx
theorem Eh.cell (H:Eh w q cb vb vp va vs bk Fc S):w.cell? q=some (.pointer (some cb))/\w.cell? ⟨q,1,none⟩=some vb/\w.cell? ⟨q,2,none⟩=some vp/\w.cell? ⟨q,3,none⟩=some va/\w.cell? ⟨q,4,none⟩=some (.int .i64 (S.n:Int))/\∀j,w.frozen? ⟨q,j,none⟩=false:=by
 obtain ⟨h0,h1,h2,h3,h4⟩:=H.head.cells5;exact ⟨h0,h1,h2,h3,h4,λj=>H.head.frozen j⟩
theorem Eh.upd (H:Eh w q cb vb vp va vs bk Fc S) {G:List Nat} (hu:Bj G w w') (hd:∀P∈parts q Fc vb vs vp va,CU P G):Eh w' q cb vb vp va vs bk Fc S:=
 ⟨H.head.upd hu (hd [q] (by simp [parts]) q (by simp)),H.Om.upd hu (hd Fc (by simp [parts])),H.rows.upd hu (hd (D8 vb vs) (by simp [parts])),Bl H.Ny hu (hd (blk vp) (by simp [parts])),Bl H.FK hu (hd (blk va) (by simp [parts])),H.apart⟩
theorem Eh.BF (H:Eh w q cb vb vp va vs bk Fc S) (hu:Bj [] w w'):Eh w' q cb vb vp va vs bk Fc S:=H.upd hu λP _ x _=>by simp
theorem Eh.E5 (H:Eh w q cb vb vp va vs bk Fc S) {i j:Nat} {P Q:List Nat} (hi:(parts q Fc vb vs vp va)[i]? = some P) (hj:(parts q Fc vb vs vp va)[j]? = some Q) (hne:i≠j):CU P Q:=O8 H.apart hi hj hne
theorem Gi.upd {tv:Value} {F G:List Nat} (H:Gi w tv F S) (hu:Bj G w w') (hd:∀x∈F,x∉G):Gi w' tv F S:=by
 obtain ⟨q,cb,vb,vp,va,vs,bk,Fc,rfl,H,hb,rfl⟩:=H;exact ⟨q,cb,vb,vp,va,vs,bk,Fc,rfl,H.upd hu λP hP x hx=>hd x (List.mem_flatten.2 ⟨P,hP,hx⟩),hb,rfl⟩
theorem Gi.lt {tv:Value} {F:List Nat} (H:Gi w tv F S):∀x∈F,x<w.heap.size:=by
 obtain ⟨q,cb,vb,vp,va,vs,bk,Fc,rfl,H,hb,rfl⟩:=H;intro x hx;obtain ⟨P,hP,hx⟩:=List.mem_flatten.1 hx;exact H.lt P hP x hx
theorem Eh.count (H:Eh w q cb vb vp va vs bk Fc S) (n:Nat):Eh (w.setCell ⟨q,4,none⟩ (.int .i64 (n:Int))) q cb vb vp va vs bk Fc { S with n:=n }:=by
 have hu:Bj [q] w (w.setCell ⟨q,4,none⟩ (.int .i64 (n:Int))):=(Bj.refl _ _).setCell (p:=⟨q,4,none⟩) (.inl (by simp)) _;have d:∀(j:Nat) (Q:List Nat),j≠0->(parts q Fc vb vs vp va)[j]? = some Q->CU Q [q]:=λj Q hne hj=>H.E5 hj (j:=0) rfl hne
 refine ⟨?_,H.Om.upd hu (d 1 _ (by omega) rfl),H.rows.upd hu (d 2 _ (by omega) rfl),Bl H.Ny hu (d 3 _ (by omega) rfl),Bl H.FK hu (d 4 _ (by omega) rfl),H.apart⟩
 have:=H.head.set 4 (.int .i64 (n:Int));simpa using this
theorem Eh.mark (H:Eh w q cb vb vp va vs bk Fc S) {g n C:Nat} (ha:va=.slice (some ⟨g,0,none⟩) n C) (k:Nat) (b:Bool):Eh (w.setCell ⟨g,k,none⟩ (.bool b)) q cb vb vp va vs bk Fc { S with al:=S.al.set k b }:=by
 subst ha;have hu:Bj [g] w (w.setCell ⟨g,k,none⟩ (.bool b)):=(Bj.refl _ _).setCell (p:=⟨g,k,none⟩) (.inl (by simp)) _;have d:∀(j:Nat) (Q:List Nat),j≠4->(parts q Fc vb vs vp (.slice (some ⟨g,0,none⟩) n C))[j]? = some Q->CU Q [g]:=λj Q hne hj=>H.E5 hj (j:=4) rfl hne
 have hn:n=S.al.length:=by
  obtain ⟨A',C',he⟩:=BD H.FK
  cases he;rfl
 subst hn;refine ⟨H.head.upd hu (d 0 [q] (by omega) rfl q (by simp)),H.Om.upd hu (d 1 _ (by omega) rfl),H.rows.upd hu (d 2 _ (by omega) rfl),Bl H.Ny hu (d 3 _ (by omega) rfl),?_,H.apart⟩
 have:=(World.ownsRow.stored H.FK k (.bool b)).1;unfold boolRow;rw [List.length_set,List.map_set];exact this
theorem Eh.lay (H:Eh w q cb vb vp va vs bk Fc S) {g n C:Nat} (ha:vp=.slice (some ⟨g,0,none⟩) n C) (k p:Nat):Eh (w.setCell ⟨g,k,none⟩ (.int .i64 (p:Int))) q cb vb vp va vs bk Fc { S with pl:=S.pl.set k p }:=by
 subst ha;have hu:Bj [g] w (w.setCell ⟨g,k,none⟩ (.int .i64 (p:Int))):=(Bj.refl _ _).setCell (p:=⟨g,k,none⟩) (.inl (by simp)) _;have d:∀(j:Nat) (Q:List Nat),j≠3->(parts q Fc vb vs (.slice (some ⟨g,0,none⟩) n C) va)[j]? = some Q->CU Q [g]:=λj Q hne hj=>H.E5 hj (j:=3) rfl hne
 have hn:n=S.pl.length:=by
  obtain ⟨A',C',he⟩:=BD H.Ny
  cases he;rfl
 subst hn;refine ⟨H.head.upd hu (d 0 [q] (by omega) rfl q (by simp)),H.Om.upd hu (d 1 _ (by omega) rfl),H.rows.upd hu (d 2 _ (by omega) rfl),?_,Bl H.FK hu (d 4 _ (by omega) rfl),H.apart⟩
 have:=(World.ownsRow.stored H.Ny k (.int .i64 (p:Int))).1;unfold Jp;rw [List.length_set,List.map_set];exact this
theorem Eh.carry (H:Eh w q cb vb vp va vs bk Fc S) {gU:List Nat} {cs:List (Nat×Nat)} {wk:Nat} (hc:Dc NH.KI w' cb gU (setB cs) cs.length wk) (hu:Bj Fc w w') (hF:∀x∈gU,x∈Fc\/w.heap.size<=x) :
 Eh w' q cb vb vp va vs bk gU { S with cs:=cs,wk:=wk }:=by
 have d:∀(j:Nat) (Q:List Nat),j≠1->(parts q Fc vb vs vp va)[j]? = some Q->CU Q Fc:=λj Q hne hj=>H.E5 hj (j:=1) rfl hne
 refine ⟨H.head.upd hu (d 0 [q] (by omega) rfl q (by simp)),hc,H.rows.upd hu (d 2 _ (by omega) rfl),Bl H.Ny hu (d 3 _ (by omega) rfl),Bl H.FK hu (d 4 _ (by omega) rfl),?_⟩
 exact Gz (i:=1) H.apart H.lt rfl hF
theorem Eh.bks (H:Eh w q cb vb vp va vs bk Fc S) {gQ:Value} {vs':List Value} {bk':List (List (Nat×Nat))} (hu:Bj (q::D8 vb vs) w w') (hh:JX w' q #[.pointer (some cb),gQ,vp,va,(S.n:Int)] 175)
 (hr:Et NH.KI w' gQ vs' bk') (hF:∀x∈D8 gQ vs',x∈D8 vb vs\/w.heap.size<=x):Eh w' q cb gQ vp va vs' bk' Fc S:=by
 have d:∀(j:Nat) (Q:List Nat),j≠0->j≠2->(parts q Fc vb vs vp va)[j]? = some Q->CU Q (q::D8 vb vs):=by
  intro j Q h0 h2 hj x hx hc;rcases List.mem_cons.1 hc with rfl | hc
  ·exact H.E5 hj (j:=0) rfl h0 x hx (by simp)
  ·exact H.E5 hj (j:=2) rfl h2 x hx hc
 refine ⟨hh,H.Om.upd hu (d 1 _ (by omega) (by omega) rfl),hr,Bl H.Ny hu (d 3 _ (by omega) (by omega) rfl),Bl H.FK hu (d 4 _ (by omega) (by omega) rfl),?_⟩
 exact Gz (i:=2) H.apart H.lt rfl hF
def Dp (w w':World) (q cb:Nat) (F:List Nat) (bk:List (List (Nat×Nat))) (S:NS):Prop:=
 ∃vb vp va vs Fc,Eh w' q cb vb vp va vs bk Fc S/\Bj F w w'/\∀x∈(parts q Fc vb vs vp va).flatten,x∈F\/w.heap.size<=x
theorem Bz {Ps:List (List Nat)} {i:Nat} {P:List Nat} {x:Nat} (hi:Ps[i]? = some P) (hx:x∈P):x∈Ps.flatten:=List.mem_flatten.2 ⟨P,List.mem_of_getElem? hi,hx⟩
theorem Ed {Ps:List (List Nat)} {i:Nat} {G':List Nat} {x:Nat} (h:x∈(Ps.set i G').flatten):x∈Ps.flatten\/x∈G':=by
 obtain ⟨P,hP,hx⟩:=List.mem_flatten.1 h;rcases List.mem_or_eq_of_mem_set hP with h1 | h1
 ·exact .inl (List.mem_flatten.2 ⟨P,h1,hx⟩)
 ·rw [h1] at hx;exact .inr hx
theorem Dp.refl (H:Eh w q cb vb vp va vs bk Fc S):Dp w w q cb (parts q Fc vb vs vp va).flatten bk S:=⟨vb,vp,va,vs,Fc,H,Bj.refl _ _,λ_ hx=>.inl hx⟩
theorem Dp.then {w'':World} {F:List Nat} {S':NS} {bk':List (List (Nat×Nat))} {gQ vp' zV:Value} {vs':List Value} {gU:List Nat} (hF:∀x∈(parts q Fc vb vs vp va).flatten,x∈F\/w.heap.size<=x) (h1:Bj F w w')
 (h:Eh w'' q cb gQ vp' zV vs' bk' gU S') (hu:Bj (parts q Fc vb vs vp va).flatten w' w'') (hF':∀x∈(parts q gU gQ vs' vp' zV).flatten,x∈(parts q Fc vb vs vp va).flatten\/w'.heap.size<=x):Dp w w'' q cb F bk' S':=by
 refine ⟨_,_,_,_,_,h,h1.trans' hu hF,λx hx=>?_⟩
 rcases hF' x hx with g | g
 ·exact hF x g
 ·exact .inr (Bh h1.size g)
def Ee (w w':World) (tv:Value) (F:List Nat) (S:NS):Prop:=∃F',Gi w' tv F' S/\Bj F w w'/\∀x∈F',x∈F\/w.heap.size<=x
theorem Dp.is {F:List Nat} (H:Dp w w' q cb F bk S) (hb:WT (setB S.cs) bk):Ee w w' (.pointer (some ⟨q,0,none⟩)) F S:=by
 obtain ⟨vb,vp,va,vs,Fc,h,hu,hF⟩:=H;exact ⟨_,⟨q,cb,vb,vp,va,vs,bk,Fc,rfl,h,hb,rfl⟩,hu,hF⟩
theorem Ee.quiet {w'':World} {tv:Value} {F:List Nat} (H:Ee w w' tv F S) (hu:Bj [] w' w''):Ee w w'' tv F S:=by
 obtain ⟨F',h,h1,h2⟩:=H;exact ⟨F',h.upd hu (by simp),h1.trans (hu.mono (by simp)),h2⟩
theorem Ee.ahead {w0:World} {tv:Value} {F:List Nat} (H:Ee w w' tv F S) (hu:Bj [] w0 w):Ee w0 w' tv F S:=by
 obtain ⟨F',h,h1,h2⟩:=H;exact ⟨F',h,(hu.mono (by simp)).trans h1,λx hx=>(h2 x hx).imp id λg=>Bh hu.size g⟩
theorem gZ (tv:Value) (F:List Nat) (w:World) (H:Gi w tv F S) :
 Calls Tryz.prog 124 #[tv] w λe w'=>e=.returned (.bool false)/\w=w':=by
 obtain ⟨q,cb,vb,vp,va,vs,bk,Fc,rfl,H,hb,hF⟩:=H;obtain ⟨h0,-⟩:=H.cell;clear H hb hF;go_enter Tryz.func124,Tryz.ntmps124
 go_wp2_with fail
 go_ret
 exact ⟨rfl,rfl⟩
end Nm
namespace Nm
open Go.RowKit
theorem zW {bk:List (List (Nat×Nat))} {S:NS} (hb:WT (setB S.cs) bk) (I:ED S) {i:Nat} {l:List (Nat×Nat)} (hl:bk[i]? = some l) {x:Nat} {y:Nat×Nat}
 (hy:l[below l x]? = some y) (he:y.1=x):S.cs.lookup x=some y.2:=by
 rw [Eu I.ids];have h1:y∈bk.flatten:=List.mem_flatten.2 ⟨l,List.mem_of_getElem? hl,List.mem_of_getElem? hy⟩;rw [hb.mem,Ye] at h1;rw [<-he];exact h1
theorem sV {bk:List (List (Nat×Nat))} {S:NS} (hb:WT (setB S.cs) bk) {x:Nat} (h:∀(j:Nat) (l:List (Nat×Nat)),bk[j]? = some l->∀y∈l,y.1≠x):S.cs.lookup x=none:=by
 rw [Ho];intro y hy;rw [<-Ye,<-hb.mem] at hy;obtain ⟨l,hl,hyl⟩:=List.mem_flatten.1 hy;obtain ⟨j,hj⟩:=List.mem_iff_getElem?.1 hl;exact h j l hj y hyl
theorem YI {bs bk:List (List (Nat×Nat))} (hb:WT bs bk) {i:Nat} {l:List (Nat×Nat)} (hl:bk[i]? = some l) {x:Nat} (h:∀y,l[below l x]? = some y->y.1≠x):∀y∈l,y.1≠x:=by
 intro y hy he;have hlt:=(AZ hl).1;have hm:bs[i]? = some (bs[i]'(by rw [<-hb.1];exact hlt)):=Ba _;obtain ⟨z,h1,h2⟩:=pF (hb.2 i l _ hl hm).2 ⟨y,hy,he⟩;exact h z h1 h2
def MB (w:World) (S:NS) (x:Nat) (e:Ending) (w':World):Prop:=
 ∃t:Nat,e=.returned (.tuple #[.int .i64 (jA (S.cs.lookup x)),(t:Int)])/\t<1000000/\Bj [] w w'
theorem ig (tv:Value) (F:List Nat) (S:NS) (x:Nat) (w:World) (H:Gi w tv F S) (I:ED S) (hl:S.cs.length<90000) :
 Calls Tryz.prog 125 #[tv,.int .u32 (x:Int)] w (MB w S x):=by
 obtain ⟨W,hW,hu,hq0⟩:=CQ w #[.int .i64 0] 3;have hF0:=H.lt;have H:=H.upd hu (by simp);obtain ⟨q,cb,vb,vp,va,vs,bk,Fc,rfl,H,hb,hF⟩:=H;obtain ⟨h0,h1,-⟩:=H.cell;obtain ⟨A,C,hA⟩:=BD H.rows.list;subst hA;obtain ⟨n,hn⟩:=AU vs.length;have hbn:bk.length=n:=by rw [<-hn,H.rows.len]
 have a7t:n<=20:=by
  have:=hb.1;rw [D6,hbn] at this;rw [this];exact BP S.cs.length 20 (by omega)
 have hll:∀(i:Nat) (l:List (Nat×Nat)),bk[i]? = some l->l.length<90000:=by
  intro i l aT;have hlt:=(AZ aT).1;have hm:(setB S.cs)[i]? = some ((setB S.cs)[i]'(by rw [<-hb.1];exact hlt)):=Ba _;have h1:=(hb.2 i l _ aT hm).1.length_eq;have h2:=(List.sublist_flatten_of_mem (List.mem_of_getElem? hm)).length_le;rw [PY] at h2;omega
 have L9:w.heap.size∉(parts q Fc (.slice A vs.length C) vs vp va).flatten:=by
  rw [<-hF];intro hc;exact Nat.lt_irrefl _ (hF0 _ hc)
 rw [hn] at h1 H L9;have hcn:J8 W w.heap.size 0:=⟨hq0.cell 0,hq0.frozen 0⟩;have HH:=AX H;have HB:=AX hb;have HBN:=AX hbn;have HI:=AX I;have HU:=AX hu;have HL:=AX hll;have HQ:=AX L9;have HC0:=AX hcn;have Ud:=AX hW;have n0:(0:Int)<=(n:Int):=AY _;have n1:(n:Int)<=20:=by omega
 unfold MB;clear H hb I hF hu hn hbn hll L9 hq0 hW hF0 h0 hcn hl a7t;go_enter Tryz.func125,Tryz.ntmps125
 go_upto_region 2 with fail
 rw [<-Ud.out];clear Ud;obtain ⟨qx,JQ⟩:∃q,w.heap.size=q:=⟨_,rfl⟩;rw [JQ] at HQ HC0 |-;have HQE:=AX JQ;clear JQ;go_wp2_with fail
 go_loopg [16] n (λm s16 wr=>∃(i t:Nat),m+i=n/\s16=.int .i64 (i:Int)/\J8 wr qx t/\t<=50*i/\Bj [qx] W wr/\∀(j:Nat) (l:List (Nat×Nat)),j<i->bk[j]? = some l->∀y∈l,y.1≠x)
 case atStart=>exact ⟨0,0,by omega,rfl,HC0.out,by omega,Bj.refl _ _,by omega⟩
 case round=>
  obtain ⟨i,t,Zt,rfl,hcn,ht,hup,hno⟩:=hrel;have i0:(0:Int)<=(i:Int):=AY _;by_cases hlt:i<n
  ·have hlt2:(i:Int)<(n:Int):=by omega
   have HR:=HH.out.rows.upd hup (by
    intro k hk hc;simp at hc;subst hc;exact HQ.out (Bz (i:=2) rfl hk))
   obtain ⟨g,Ak,Ck,hA,hv,hcell,hfro,hrow⟩:=HR.at (k:=i) (by rw [HBN.out];exact hlt);subst hA;obtain ⟨l,aT⟩:∃l,bk[i]? = some l:=⟨_,Ba (by rw [HBN.out];exact hlt)⟩;have hle:=(AZ aT).2;rw [hle] at hcell hrow hv;have hlb:=HL.out i l aT;have EP:See NH.KI wr (.slice Ak l.length Ck) l:=See.BU hrow;have hbs:=HB.out;have hsr:l.Pairwise λa b=>a.1<=b.1:=(hbs.2 i l ((setB S.cs)[i]'(by rw [<-hbs.1,HBN.out];exact hlt)) aT (Ba _)).2
   have PO:0<l.length->qx∉blk (.slice Ak l.length Ck):=λ_ hc=>HQ.out (Bz (i:=2) rfl (BQ.2 (.inr ⟨i,_,hv,hc⟩)))
   have HK:=Au Zt ht hup hno;have HLI:=Aq aT EP PO;have hbl:=below_le l x;obtain ⟨p,hp⟩:=AU (below l x);rw [hp] at hbl
   have hS:Calls Tryz.prog 192 #[.slice Ak l.length Ck,.int .u32 (x:Int),.func (.func 193) #[] #[.pointer (some ⟨qx,0,none⟩)]] wr λe w'=>∃(t':Nat) (b:Bool),e=.returned (.tuple #[.int .i64 (p:Int),.bool b])/\J8 w' qx (t+t')/\t'<=BA l.length+1/\Bj [qx] wr w':=by
    rw [<-hp];exact gK _ l x qx t wr EP (by omega) hcn (by omega) PO hsr
   have HS:=AX hS;have HP:=AX hp;have p0:(0:Int)<=(p:Int):=AY _;have l0:(l.length:Int)<90000:=by omega
   have ht2:t<=1000:=by omega
   clear Zt ht hup hno HR hv hfro hrow hle aT EP hsr hbs PO hcn hp hS;go_upto_region 5 with fail
   go_wp2_with fail
   go_fit HS.out
   rintro e w3 ⟨t3,b3,rfl,hc3,ht3,hu3⟩;have a1c:BA l.length<=17:=BP l.length 17 (by omega);obtain ⟨c,hc⟩:=AU (t+t3);rw [hc] at hc3;have htt:c<=2000:=by omega
   have HT:=Aq a1c ht3 hc;have EJ:=AX hu3;have c1:=hc3.cell;have c2:=hc3.soft;have t0:(0:Int)<=(c:Int):=AY _;have t1:(c:Int)<=2000:=by omega
   have YD:=AX hc3;clear ht3 hu3 hcell hc3 a1c hc;by_cases hpl:p<l.length
   ·have hpl2:(p:Int)<(l.length:Int):=by omega
    obtain ⟨y,hy⟩:∃y,l[p]? = some y:=⟨_,Ba hpl⟩;have hs4:=YD.out.set (c+1);have he:Value.int .i64 ((c+1:Nat):Int)=Value.int .i64 ((c:Int)+1):=by congr 1
    rw [he] at hs4;have hus:Bj [qx] w3 (w3.setCell ⟨qx,0,none⟩ (.int .i64 ((c:Int)+1))):=(Bj.refl _ _).setCell (p:=⟨qx,0,none⟩) (.inl (by simp)) _;have QY:=(HLI.2.1.upd EJ.out (λh0 k hk _ hc=>by simp at hc;subst hc;exact HLI.2.2 h0 hk)).upd hus (λh0 k hk _ hc=>by simp at hc;subst hc;exact HLI.2.2 h0 hk);obtain ⟨g2,og,hA2,-,-,ey⟩:=QY.at hy;subst hA2;have y0:=ey 0 _ rfl;have y1:=ey 1 _ rfl;have y0:(w3.setCell ⟨qx,0,none⟩ (.int .i64 ((c:Int)+1))).cell? ⟨g2,og+p*2,none⟩=some (.int .u32 (y.1:Int)):=y0;have y1:(w3.setCell ⟨qx,0,none⟩ (.int .i64 ((c:Int)+1))).cell? ⟨g2,og+p*2+1,none⟩=some (.int .i64 (y.2:Int)):=y1;have z0:=hs4.cell;have X4:=AX hs4;have HUS:=AX hus;have HY:=AX hy;clear ey QY hs4 hus hy he;go_upto_region 8 with fail
    generalize (w3.setCell ⟨qx,0,none⟩ (.int .i64 ((c:Int)+1)))=w4 at X4 HUS y0 y1 z0 |-;clear c1 c2;by_cases hyx:y.1=x
    ·have HYX:=AX hyx;have a7u:((y.1:Int)==(x:Int))=true:=by simp;omega
     clear hyx;go_upto_region 9 with fail
     go_region
     go_wp2_with fail
     go_ret2
     have hf:=zW HB.out HI.out HLI.1 (x:=x) (y:=y) (by rw [HP.out];exact HY.out) HYX.out;refine ⟨c+1,?_,by omega,?_⟩
     ·rw [hf];rfl
     ·exact HU.out.trans' (((HK.2.2.1.trans EJ.out).trans HUS.out).drew) (λk hk=>by simp at hk;subst hk;right;have:=HQE.out;omega)
    ·have HYX:=AX hyx;have a7u:((y.1:Int)==(x:Int))=false:=by simp;omega
     clear hyx;go_wp2_with fail
     go_roundg (n - (i+1))
     case measure=>have:=HK.1;omega
     case rel=>
      obtain ⟨k1,k2,k3,k4⟩:=HK.out;refine ⟨i+1,c+1,by omega,by go_num,X4.out,?_,(k3.trans EJ.out).trans HUS.out,?_⟩
      ·obtain ⟨e1,e2,e3⟩:=HT.out;omega
      ·intro j l' hj hl';rcases Nat.lt_or_ge j i with hji | hji
       ·exact k4 j l' hji hl'
       ·have:j=i:=by omega
        subst this;rw [HLI.1] at hl'
        cases hl'
        refine YI HB.out HLI.1 ?_
        intro y' hy';rw [HP.out,HY.out] at hy'
        cases hy'
        exact HYX.out
   ·have hpl2:¬(p:Int)<(l.length:Int):=by omega
    have nK:=AX hpl;clear c1 c2 hpl;dsimp only;go_wp2_with fail
    go_roundg (n - (i+1))
    case measure=>have:=HK.1;omega
    case rel=>
     obtain ⟨k1,k2,k3,k4⟩:=HK.out;refine ⟨i+1,c,by omega,by go_num,YD.out,?_,k3.trans EJ.out,?_⟩
     ·obtain ⟨e1,e2,e3⟩:=HT.out;omega
     ·intro j l' hj hl';rcases Nat.lt_or_ge j i with hji | hji
      ·exact k4 j l' hji hl'
      ·have:j=i:=by omega
       subst this;rw [HLI.1] at hl'
       cases hl'
       refine YI HB.out HLI.1 ?_
       intro y' hy';rw [HP.out,List.getElem?_eq_none (Ac nK)] at hy'
       cases hy'
  ·have hin:i=n:=by omega
   have HK:=Aq ht hup hno;have c1:=hcn.cell;have iq:=AX hin;clear ht hup hno hcn Zt;go_upto_region 11 with fail
   go_region
   go_wp2_with fail
   go_ret2
   obtain ⟨k2,k3,k4⟩:=HK.out;have hf:S.cs.lookup x=none:=sV HB.out λj l hj=>k4 j l (by have:=(AZ hj).1;rw [HBN.out] at this;rw [iq.out];exact this) hj
   refine ⟨t,?_,by omega,?_⟩
   ·rw [hf];rfl
   ·exact HU.out.trans' (k3.drew) (λk hk=>by simp at hk;subst hk;right;have:=HQE.out;omega)
end Nm
namespace Nm
open Go.RowKit
theorem J9 {w:World} {b:Nat} {e:TypeId} {A:Option Addr} {n m C:Nat} {xs:List Value} (h:w.ownsRow b e 1 (.slice A m C) n xs) {k:Nat} (hk:k<n) {u:Value} (hu:xs[k]? = some u) :
 ∃q,A=some ⟨q,0,none⟩/\w.cell? ⟨q,k,none⟩=some u/\w.frozen? ⟨q,k,none⟩=false/\q<w.heap.size:=by
 obtain ⟨q,cap,he,_,hlt⟩:=World.ownsRow.form h (by omega)
 cases he
 refine ⟨q,rfl,?_,World.ownsRow.frozenAt h k,hlt⟩
 have:=World.ownsRow.cells h (g:=q) rfl k u hu;rwa [addr_add,Nat.zero_add] at this
theorem Ui {w:World} {va:Value} {al:List Bool} (h:boolRow w va al) {k:Nat} (hk:k<al.length):∃q C,va=.slice (some ⟨q,0,none⟩) al.length C/\w.cell? ⟨q,k,none⟩=some (.bool (al.getD k false))/\w.frozen? ⟨q,k,none⟩=false/\q<w.heap.size:=by
 obtain ⟨A,C,rfl⟩:=BD h
 obtain ⟨q,rfl,h1,h2,h3⟩:=J9 h (k:=k) hk (u:=.bool (al.getD k false)) (by
  rw [List.getElem?_map,Ba hk,List.getD_eq_getElem?_getD,Ba hk];rfl)
 exact ⟨q,C,rfl,h1,h2,h3⟩
theorem Pe {w:World} {vp:Value} {pl:List Nat} (h:Jp w vp pl) {k:Nat} (hk:k<pl.length):∃q C,vp=.slice (some ⟨q,0,none⟩) pl.length C/\w.cell? ⟨q,k,none⟩=some (.int .i64 ((pl.getD k 0:Nat):Int))/\w.frozen? ⟨q,k,none⟩=false/\q<w.heap.size:=by
 obtain ⟨A,C,rfl⟩:=BD h
 obtain ⟨q,rfl,h1,h2,h3⟩:=J9 h (k:=k) hk (u:=.int .i64 ((pl.getD k 0:Nat):Int)) (by
  rw [List.getElem?_map,Ba hk,List.getD_eq_getElem?_getD,Ba hk];rfl)
 exact ⟨q,C,rfl,h1,h2,h3⟩
theorem Ou {S:NS} (I:ED S) {x k:Nat} (h:S.cs.lookup x=some k):k<S.al.length/\k<S.pl.length:=by
 rw [Eu I.ids] at h;have:=I.lt _ h;exact ⟨this,by rw [I.pll];exact this⟩
def N0:NS:=⟨[],[],[],0,0⟩
theorem ED.zero:ED N0:=⟨by simp [N0],by simp [N0],by simp [N0],rfl,rfl,by simp [N0]⟩
theorem a7v (w:World) :
 Calls Tryz.prog 58 #[] w λe w'=>∃tv F,e=.returned tv/\Gi w' tv F N0/\(∀x∈F,w.heap.size<=x)/\Bj [] w w':=by
 have HC:=AX (NH.a2g w);go_enter Tryz.func58,Tryz.ntmps58
 go_wp2_with fail
 go_fit HC.out
 rintro e w' ⟨b,rfl,hc,hb,hu⟩;have HB:=Aq hc hb hu;clear hc hb hu;go_wp2_with fail
 go_ret
 obtain ⟨hc,hb,hu⟩:=HB.out;obtain ⟨W,hW,hu2,hh⟩:=CQ w' #[.pointer (some ⟨b,0,none⟩),.slice none 0 0,.slice none 0 0,.slice none 0 0,.int .i64 0] 175;rw [<-hW];have hcl:=hc.lt b (by simp);refine ⟨_,_,rfl,⟨w'.heap.size,b,.slice none 0 0,.slice none 0 0,.slice none 0 0,[],[],[b],rfl,⟨hh,?_,Et.nil,World.ownsRow_nil _ _ _ _,World.ownsRow_nil _ _ _ _,?_⟩,⟨by simp [N0,setB,BA],by simp⟩,rfl⟩,?_,hu.trans hu2⟩
 ·have:=hc.upd hu2 (by simp);show Dc _ _ _ _ (setB []) _ _
  rw [oP];exact this
 ·simp [parts,D8,blk,CU];omega
 ·simp [parts,D8,blk];exact ⟨hu.size,hb⟩
