/- names.entry: sorted by names; searched with a count. A directory of names in memory. names' find, Find. names' Find, New. -/
import Derived.OwnWalk
import Derived.Test.YtkbaaonchdeneaaGreatPk23
import Derived.Test.YtkbaaonchdeneaaGreatPkSpansTellP6
import Derived.Test.YtkbaaonchdeneaaGreatPk17
import Derived.Test.YtkbaaonchdeneaaGreatPk44
import Derived.Test.YtkbaaonchdeneaaGreatPkSpansTellP2
set_option maxHeartbeats 8000000
set_option maxRecDepth 100000
namespace Go.Proofs.YtkbaaonchdeneaaGreat.Nm
open Go.RowKit Go.Shelf Go.Sort Go.Lib
def cmpE (a b:Nat×Nat):Int:=cmpI a.1 b.1
theorem cmpE_lt (a b:Nat×Nat):cmpE a b<0↔a.1<b.1:=by
 unfold cmpE cmpI
 by_cases h1:(a.1:Int)<b.1
 ·simp [h1];omega
 ·by_cases h2:(b.1:Int)<a.1
  ·simp [h1,h2];omega
  ·simp [h1,h2];omega
theorem swoE:SWO (ltOf cmpE) where
 irrefl x:=by unfold ltOf;simp [cmpE_lt]
 trans x y z h1 h2:=by unfold ltOf at *;simp [cmpE_lt] at *;omega
 ntrans x y z h1 h2:=by unfold ltOf at *;simp [cmpE_lt] at *;omega
theorem byIdC (s t:Nat×Nat) (w:World):Calls Tryz.prog 197 #[.agg (CEn.KI.enc s).toArray,.agg (CEn.KI.enc t).toArray] w fun e w'=>e=.returned (.int .i64 (cmpE s t))∧∃os,w'=grow w os:=by
 obtain ⟨a,x⟩:=s
 obtain ⟨b,y⟩:=t
 have H1:=Lib.hid (fun w=>cmpNum (a:Int) (b:Int) w)
 show Calls Tryz.prog 197 #[.agg #[.int .u32 (a:Int),.int .i64 (x:Int)],.agg #[.int .u32 (b:Int),.int .i64 (y:Int)]] w fun e w'=>e=.returned (.int .i64 (cmpI (a:Int) (b:Int)))∧∃os,w'=grow w os
 go_enter Tryz.func197,Tryz.ntmps197
 go_wp2_with fail
 (with_reducible refine (H1.out _).mono ?_)
 rintro e w' ⟨rfl,rfl⟩
 go_wp2_with fail
 go_ret
 exact ⟨rfl,_,by rw [alloc_eq_grow,alloc_eq_grow,grow_grow]⟩
theorem sortEAny (base:Nat) (v:Value) (l:List (Nat×Nat)) (w:World) (h:CEn.KI.row w base v l) (hb:l.length<1000000) :
 Calls Tryz.prog 196 #[v,.func (.func 197) #[] #[]] w fun e w'=>
  e=.returned (.tuple #[])∧Upd (blk v) w w'∧∃l':List (Nat×Nat),l'.Perm l∧l'.Pairwise (fun a b=>a.1≤b.1)∧CEn.KI.row w' base v l':=by
 rcases h.2 with ⟨rfl,hn⟩ | ⟨g,cap,cur,rfl,h3⟩
 ·have:=AnyF.slices_SortFunc_none (L:=Tryz.sortE) none 0 (.func (.func 197) #[] #[]) w
  refine Calls.mono this ?_
  rintro e w' ⟨rfl,rfl⟩
  have hl:l = []:=List.eq_nil_of_length_eq_zero hn
  subst hl
  exact ⟨rfl,Upd.refl _ _,[],List.Perm.refl _,List.Pairwise.nil,h⟩
 ·have:=sortKC Tryz.sortE CEn.KI (by decide) Tryz.isAgg172 Tryz.sizeOf172 197 cmpE swoE (enters_of Tryz.func197 (by kernel_rfl) rfl) byIdC base g l.length cap l w h rfl hb
  refine Calls.mono this ?_
  rintro e w' ⟨rfl,h4,l',h5,h6,h7⟩
  refine ⟨rfl,h4,l',h5,h6.imp ?_,h7⟩
  intro a b hab
  rw [cmpE_lt] at hab
  omega
theorem sortedC (base:Nat) (v:Value) (l:List (Nat×Nat)) (w:World) (h:CEn.KI.row w base v l) (hb:l.length<1000000) :
 Calls Tryz.prog 127 #[v] w fun e w'=>
  e=.returned v∧Upd (blk v) w w'∧∃l':List (Nat×Nat),l'.Perm l∧l'.Pairwise (fun a b=>a.1≤b.1)∧CEn.KI.row w' base v l':=by
 have HS:=Lib.hid (sortEAny base v l w h hb)
 obtain ⟨A,C,rfl⟩:=own_form h
 clear h
 go_enter Tryz.func127,Tryz.ntmps127
 go_wp2_with fail
 (with_reducible refine HS.out.mono ?_)
 rintro e w' ⟨rfl,h1,h2⟩
 have HH:=Lib.hid (And.intro h1 h2)
 clear h1 h2
 go_wp2_with fail
 go_ret
 exact ⟨rfl,HH.out⟩
def below (R:List (Nat×Nat)) (x:Nat):Nat:=(R.filter fun s=>decide (s.1<x)).length
theorem below_at {R:List (Nat×Nat)} {x:Nat} {i:Nat} (hi:i≤R.length) (h1:∀s∈R.take i,s.1<x) (h2:∀s∈R.drop i,x≤s.1):below R x=i:=by
 unfold below
 conv=>lhs;rw [←List.take_append_drop i R]
 rw [List.filter_append,List.filter_eq_self.2 (by simpa using h1),List.filter_eq_nil_iff.2 (by intro s hs hc;have:=h2 s hs;simp at hc;omega),List.append_nil,List.length_take]
 omega
theorem below_le (R:List (Nat×Nat)) (x:Nat):below R x≤R.length:=List.length_filter_le _ _
theorem sideC (s:Nat×Nat) (x:Nat) (q c:Nat) (w:World) (h:CntC w q c) (hc:c<1000000) :
 Calls Tryz.prog 193 #[.agg #[.int .u32 (s.1:Int),.int .i64 (s.2:Int)],.int .u32 (x:Int),.pointer (some ⟨q,0,none⟩)] w fun e w'=>e=.returned (.int .i64 (cmpI (s.1:Int) (x:Int)))∧CntC w' q (c+1)∧Upd [q] w w':=by
 obtain ⟨id,num⟩:=s
 have hu:Upd [] w (w.alloc (.cells #[.int .u32 (id:Int),.int .i64 (num:Int)] 172)):=(Upd.refl _ _).alloc _
 have h1:=h.upd hu (by simp)
 have hql:q<w.heap.size:=World.block_lt_of_cell? w _ h.cell
 have d0:(w.alloc (.cells #[.int .u32 (id:Int),.int .i64 (num:Int)] 172)).cell? ⟨w.heap.size,0,none⟩=some (.int .u32 (id:Int)):=by rw [World.cell?_alloc_at _ _ _ _ rfl];rfl
 have H1:=Lib.hid (fun w=>cmpNum (id:Int) (x:Int) w)
 dsimp only
 go_enter Tryz.func193,Tryz.ntmps193
 go_upto_region 1 with fail
 generalize (w.alloc (.cells #[.int .u32 (id:Int),.int .i64 (num:Int)] 172))=W at hu h1 d0 ⊢
 have c1:=h1.cell
 have c2:=h1.soft
 have c0:(0:Int)≤(c:Int):=Int.natCast_nonneg _
 have c3:(c:Int)<1000000:=by omega
 have hs:=h1.set (c+1)
 have he:Value.int .i64 ((c+1:Nat):Int)=Value.int .i64 ((c:Int)+1):=by congr 1
 rw [he] at hs
 have hup:Upd [q] w (W.setCell ⟨q,0,none⟩ (.int .i64 ((c:Int)+1))):=(hu.mono (G:=[q]) (by simp)).setCell (p:=⟨q,0,none⟩) (.inl (by simp)) _
 have hqq:(⟨w.heap.size,0,none⟩:Addr).block∉[q]:=by simp;omega
 have e0:=(((Upd.refl [q] W).setCell (p:=⟨q,0,none⟩) (.inl (by simp)) (.int .i64 ((c:Int)+1))).cell (p:=⟨w.heap.size,0,none⟩) (World.block_lt_of_cell? _ _ d0) hqq).trans d0
 have HF:=Lib.hid (And.intro hs hup)
 clear he h hu h1 hs hup hqq hql
 go_upto_region 2 with fail
 clear c1 c2 d0
 generalize (W.setCell ⟨q,0,none⟩ (.int .i64 ((c:Int)+1)))=W2 at e0 HF ⊢
 go_wp2_with fail
 (with_reducible refine (H1.out _).mono ?_)
 rintro e w' ⟨rfl,rfl⟩
 go_wp2_with fail
 go_ret
 exact ⟨rfl,HF.out⟩
theorem take_sideE {R:List (Nat×Nat)} {x:Nat} {p:Nat} {s:Nat×Nat} (h:R.Pairwise fun a b=>a.1≤b.1) (hs:R[p]? = some s) (hx:s.1<x):∀y∈R.take (p+1),y.1<x:=by
 intro y hy
 obtain ⟨h1,h2⟩:=List.getElem?_eq_some_iff.1 hs
 rw [List.take_succ_eq_append_getElem h1,h2,List.mem_append] at hy
 rcases hy with hy | hy
 ·obtain ⟨i,hi,rfl⟩:=List.mem_iff_getElem.1 hy
  rw [List.length_take] at hi
  rw [List.getElem_take]
  have:=List.pairwise_iff_getElem.1 h i p (by omega) h1 (by omega)
  rw [h2] at this
  omega
 ·simp at hy;subst hy;exact hx
theorem drop_sideE {R:List (Nat×Nat)} {x:Nat} {p:Nat} {s:Nat×Nat} (h:R.Pairwise fun a b=>a.1≤b.1) (hs:R[p]? = some s) (hx:x≤s.1):∀y∈R.drop p,x≤y.1:=by
 intro y hy
 obtain ⟨h1,h2⟩:=List.getElem?_eq_some_iff.1 hs
 obtain ⟨i,hi,rfl⟩:=List.mem_iff_getElem.1 hy
 rw [List.length_drop] at hi
 rw [List.getElem_drop]
 rcases Nat.eq_zero_or_pos i with h0 | h0
 ·subst h0
  simp only [Nat.add_zero]
  rw [h2];exact hx
 ·have:=List.pairwise_iff_getElem.1 h p (p+i) h1 (by omega) (by omega)
  rw [h2] at this
  omega
def SearchPost (w:World) (q c:Nat) (R:List (Nat×Nat)) (x:Nat) (e:Ending) (w':World):Prop:=
 ∃(t:Nat) (b:Bool),e=.returned (.tuple #[.int .i64 ((below R x:Nat):Int),.bool b])∧CntC w' q (c+t)∧t≤bitsN R.length+1∧Upd [q] w w'
theorem searchC (v:Value) (R:List (Nat×Nat)) (x:Nat) (q c:Nat) (w:World) (hs:See CEn.KI w v R) (hb:R.length<100000) (hq:CntC w q c) (hc:c<100000) (hv:0<R.length→q∉blk v) (hsr:R.Pairwise fun a b=>a.1≤b.1) :
 Calls Tryz.prog 192 #[v,.int .u32 (x:Int),.func (.func 193) #[] #[.pointer (some ⟨q,0,none⟩)]] w (SearchPost w q c R x):=by
 obtain ⟨A,C,rfl⟩:=hs.form
 obtain ⟨n,hn⟩:∃n,R.length=n:=⟨_,rfl⟩
 rw [hn] at hs hb ⊢
 have hbn:bitsN n≤17:=bitsN_le n 17 (by omega)
 have H:=Lib.hid hs
 have HN:=Lib.hid (And.intro hn (And.intro hsr hbn))
 have HQ:=Lib.hid hq
 have HV:=Lib.hid hv
 have n0:(0:Int)≤(n:Int):=Int.natCast_nonneg _
 have n1:(n:Int)<100000:=by omega
 have hse:∀w',Upd [q] w w'→See CEn.KI w' (.slice A n C) R:=fun w' hu=>H.out.upd hu (fun h0 k hk hkl hc=>by simp at hc;subst hc;exact HV.out h0 (by rw [HN.out.1];exact hk))
 have HSE:=Lib.hid hse
 unfold SearchPost
 clear hs hn hq hv hsr hbn hse
 go_enter Tryz.func192,Tryz.ntmps192
 go_wp2_with fail
 go_loopg [9,10] n (fun m s9 s10 wr=>∃(i j t:Nat),m+i=j∧j≤n∧s9=.int .i64 (i:Int)∧s10=.int .i64 (j:Int)∧(∀s∈R.take i,s.1<x)∧(∀s∈R.drop j,x≤s.1)∧CntC wr q (c+t)∧t+bitsN (j - i)≤bitsN n∧Upd [q] w wr)
 case atStart=>exact ⟨0,n,0,by omega,Nat.le_refl _,rfl,rfl,by simp,by rw [←HN.out.1];simp,HQ.out,by simp,Upd.refl _ _⟩
 case round=>
  obtain ⟨i,j,t,hij,hjn,rfl,rfl,hlo,hhi,hcn,htb,hup⟩:=hrel
  have i0:(0:Int)≤(i:Int):=Int.natCast_nonneg _
  have j0:(0:Int)≤(j:Int):=Int.natCast_nonneg _
  have hi1:i≤j:=by omega
  have hi2:(i:Int)≤(j:Int):=by omega
  have hj2:(j:Int)≤(n:Int):=by omega
  by_cases hlt:i<j
  ·obtain ⟨p,hp⟩:∃p,(i+j) / 2=p:=⟨_,rfl⟩
   have hip:i≤p∧p<j:=by omega
   obtain ⟨s,hs⟩:∃s,R[p]? = some s:=⟨_,List.getElem?_eq_getElem (by rw [HN.out.1];omega)⟩
   obtain ⟨g,og,hA,-,-,ey⟩:=(HSE.out wr hup).at hs
   subst hA
   have y0:wr.cell? ⟨g,og+p*2,none⟩=some (.int .u32 (s.1:Int)):=ey 0 _ rfl
   have y1:wr.cell? ⟨g,og+p*2+1,none⟩=some (.int .i64 (s.2:Int)):=ey 1 _ rfl
   have hct:c+t<1000000:=by have:=HN.out.2.2;omega
   have hsd:=sideC s x q (c+t) wr hcn hct
   have b1:(i:Int)<(j:Int):=by omega
   have p0:(0:Int)≤(p:Int):=Int.natCast_nonneg _
   have p1:(p:Int)<(n:Int):=by omega
   have HK:=Lib.hid (And.intro hij (And.intro hjn (And.intro hlo (And.intro hhi (And.intro htb hup)))))
   have HS:=Lib.hid hs
   have HP:=Lib.hid (And.intro hip hp)
   have HCT:=Lib.hid (And.intro hcn hct)
   clear hij hjn hlo hhi hcn htb hup hs ey hp hip hct hi1
   go_upto_region 5 with fail
   have hcv:Value.int .i64 (((i:Int)+(j:Int)) / 2)=Value.int .i64 (p:Int):=by have:=HP.out.2;congr 1;omega
   simp only [hcv]
   clear hcv
   by_cases hx:s.1<x
   ·have hsv:cmpI (s.1:Int) (x:Int) = -1:=cmpI_lt (by omega)
    rw [hsv] at hsd
    have HSD:=Lib.hid hsd
    have HX:=Lib.hid (take_sideE HN.out.2.1 HS.out hx)
    clear hsd hsv hx
    go_wp2_with fail
    (with_reducible refine HSD.out.mono ?_)
    rintro e w3 ⟨rfl,h3,u3⟩
    have HE:=Lib.hid (And.intro h3 u3)
    clear h3 u3 y0 y1
    go_wp2_with fail
    go_roundg (j - (p+1))
    case measure=>have h1:=HK.out.1;have h2:=HP.out;omega
    case rel=>
     obtain ⟨k1,k2,k3,k4,k5,k6⟩:=HK.out
     have h2:=HP.out
     have h5:=bitsN_half (n:=j - i) (by omega) (k:=j - (p+1)) (by omega)
     exact ⟨p+1,j,t+1,by omega,k2,by go_num,rfl,HX.out,k4,HE.out.1,by omega,k6.trans HE.out.2⟩
   ·have hsv:cmpI (s.1:Int) (x:Int)=0∨cmpI (s.1:Int) (x:Int)=1:=by unfold cmpI;rw [if_neg (by omega)];split<;>simp
    rcases hsv with hsv | hsv
    all_goals
     rw [hsv] at hsd
     have HSD:=Lib.hid hsd
     have HX:=Lib.hid (drop_sideE HN.out.2.1 HS.out (show x≤s.1 by omega))
     clear hsd hsv hx
     go_wp2_with fail
     (with_reducible refine HSD.out.mono ?_)
     rintro e w3 ⟨rfl,h3,u3⟩
     have HE:=Lib.hid (And.intro h3 u3)
     clear h3 u3 y0 y1
     go_wp2_with fail
     go_roundg (p - i)
     case measure=>have h1:=HK.out.1;have h2:=HP.out;omega
     case rel=>
      obtain ⟨k1,k2,k3,k4,k5,k6⟩:=HK.out
      have h2:=HP.out
      have h5:=bitsN_half (n:=j - i) (by omega) (k:=p - i) (by omega)
      exact ⟨i,p,t+1,by omega,by omega,rfl,rfl,k3,HX.out,HE.out.1,by omega,k6.trans HE.out.2⟩
  ·have hij2:i=j:=by omega
   subst hij2
   have hb:=below_at (R:=R) (x:=x) (by rw [HN.out.1];exact hjn) hlo hhi
   have HB:=Lib.hid hb
   have htb2:t≤bitsN n:=by omega
   have HK:=Lib.hid (And.intro htb2 hup)
   by_cases hin:i<n
   ·obtain ⟨s,hs⟩:∃s,R[i]? = some s:=⟨_,List.getElem?_eq_getElem (by rw [HN.out.1];omega)⟩
    obtain ⟨g,og,hA,-,-,ey⟩:=(HSE.out wr hup).at hs
    subst hA
    have y0:wr.cell? ⟨g,og+i*2,none⟩=some (.int .u32 (s.1:Int)):=ey 0 _ rfl
    have y1:wr.cell? ⟨g,og+i*2+1,none⟩=some (.int .i64 (s.2:Int)):=ey 1 _ rfl
    have hct:c+t<1000000:=by have:=HN.out.2.2;omega
    have hsd:=sideC s x q (c+t) wr hcn hct
    obtain ⟨z,hz⟩:∃z,cmpI (s.1:Int) (x:Int)=z:=⟨_,rfl⟩
    rw [hz] at hsd
    clear hz
    have b1:(i:Int)<(n:Int):=by omega
    have HSD:=Lib.hid hsd
    clear hsd hs ey hct hlo hhi hcn htb hup hij hjn hi1 htb2 hb hlt
    go_wp2_with fail
    (with_reducible refine HSD.out.mono ?_)
    rintro e w3 ⟨rfl,h3,u3⟩
    have HE:=Lib.hid (And.intro h3 u3)
    clear h3 u3 y0 y1
    go_wp2_with fail
    go_ret2
    exact ⟨t+1,_,by rw [HB.out];rfl,HE.out.1,by rw [HN.out.1];have:=HK.out.1;omega,HK.out.2.trans HE.out.2⟩
   ·have hin2:i=n:=by omega
    subst hin2
    have HC:=Lib.hid hcn
    clear hlo hhi hcn htb hup hij hjn hi1 htb2 hb hlt
    go_wp2_with fail
    go_ret2
    exact ⟨t,_,by rw [HB.out];rfl,HC.out,by rw [HN.out.1];have:=HK.out.1;omega,HK.out.2⟩
end Go.Proofs.YtkbaaonchdeneaaGreat.Nm
namespace Go.Proofs.YtkbaaonchdeneaaGreat.Nm
open Go.RowKit
def Disj (A B:List Nat):Prop:=∀x∈A,x∉B
theorem Disj.symm {A B:List Nat} (h:Disj A B):Disj B A:=fun x hx hc=>h x hc hx
theorem pw_at {Ps:List (List Nat)} (h:Ps.Pairwise Disj) {i j:Nat} {G H:List Nat} (hi:Ps[i]? = some G) (hj:Ps[j]? = some H) (hne:i≠j):Disj G H:=by
 rw [List.pairwise_iff_getElem] at h
 obtain ⟨li,ei⟩:=List.getElem?_eq_some_iff.1 hi
 obtain ⟨lj,ej⟩:=List.getElem?_eq_some_iff.1 hj
 rcases Nat.lt_or_gt_of_ne hne with h3 | h3
 ·have:=h i j li lj h3
  rwa [ei,ej] at this
 ·have:=h j i lj li h3
  rw [ei,ej] at this
  exact this.symm
theorem pw_set {Ps:List (List Nat)} (h:Ps.Pairwise Disj) {N:Nat} (hlt:∀P∈Ps,∀x∈P,x<N) {i:Nat} {G G':List Nat} (hi:Ps[i]? = some G) (hG:∀x∈G',x∈G∨N≤x):(Ps.set i G').Pairwise Disj:=by
 have key:∀j,j<Ps.length→j≠i→∀(hj:j<Ps.length),Disj G' Ps[j]:=by
  intro j hj hne hj' x hx hc
  rcases hG x hx with h1 | h1
  ·exact pw_at h hi (List.getElem?_eq_getElem hj') (Ne.symm hne) x h1 hc
  ·have:=hlt _ (List.getElem_mem hj') x hc;omega
 rw [List.pairwise_iff_getElem] at h ⊢
 intro a b ha hb hab
 rw [List.length_set] at ha hb
 rw [List.getElem_set,List.getElem_set]
 split
 ·rename_i e1
  split
  ·omega
  ·exact key b hb (by omega) hb
 ·rename_i e1
  split
  ·exact (key a ha (by omega) ha).symm
  ·exact h a b ha hb hab
def boolRow (w:World) (v:Value) (l:List Bool):Prop:=w.ownsRow 0 4 1 v l.length (l.map .bool)
def natRow (w:World) (v:Value) (l:List Nat):Prop:=w.ownsRow 0 3 1 v l.length (l.map fun (n:Nat)=>.int .i64 (n:Int))
def parts (q:Nat) (Fc:List Nat) (vb:Value) (vs:List Value) (vp va:Value):List (List Nat):=[[q],Fc,rfoot vb vs,blk vp,blk va]
structure NmAt (w:World) (q cb:Nat) (vb vp va:Value) (vs:List Value) (bk:List (List (Nat×Nat))) (Fc:List Nat) (S:NS):Prop where
 head:HcC w q #[.pointer (some ⟨cb,0,none⟩),vb,vp,va,.int .i64 (S.n:Int)] 175
 car:IsCarry CEn.KI w cb Fc (setB S.cs) S.cs.length S.wk
 rows:RowsAt CEn.KI w vb vs bk
 prow:natRow w vp S.pl
 arow:boolRow w va S.al
 apart:(parts q Fc vb vs vp va).Pairwise Disj
def IsNm (w:World) (tv:Value) (F:List Nat) (S:NS):Prop:=
 ∃q cb vb vp va vs bk Fc,tv=.pointer (some ⟨q,0,none⟩)∧NmAt w q cb vb vp va vs bk Fc S∧BkOk (setB S.cs) bk∧F=(parts q Fc vb vs vp va).flatten
variable {w w':World} {q cb:Nat} {vb vp va:Value} {vs:List Value} {bk:List (List (Nat×Nat))} {Fc:List Nat} {S:NS}
theorem NmAt.lt (H:NmAt w q cb vb vp va vs bk Fc S):∀P∈parts q Fc vb vs vp va,∀x∈P,x<w.heap.size:=by
 intro P hP x hx
 simp only [parts,List.mem_cons,List.not_mem_nil,or_false] at hP
 rcases hP with rfl | rfl | rfl | rfl | rfl
 ·simp at hx;subst hx;exact H.head.lt
 ·exact H.car.lt x hx
 ·exact H.rows.lt x hx
 ·exact own_lt H.prow x hx
 ·exact own_lt H.arow x hx
theorem NmAt.cell (H:NmAt w q cb vb vp va vs bk Fc S):w.cell? ⟨q,0,none⟩=some (.pointer (some ⟨cb,0,none⟩))∧w.cell? ⟨q,1,none⟩=some vb∧w.cell? ⟨q,2,none⟩=some vp∧w.cell? ⟨q,3,none⟩=some va∧w.cell? ⟨q,4,none⟩=some (.int .i64 (S.n:Int))∧∀j,w.frozen? ⟨q,j,none⟩=false:=by
 obtain ⟨h0,h1,h2,h3,h4⟩:=H.head.cells5
 exact ⟨h0,h1,h2,h3,h4,fun j=>H.head.frozen j⟩
theorem NmAt.upd (H:NmAt w q cb vb vp va vs bk Fc S) {G:List Nat} (hu:Upd G w w') (hd:∀P∈parts q Fc vb vs vp va,Disj P G):NmAt w' q cb vb vp va vs bk Fc S:=
 ⟨H.head.upd hu (hd [q] (by simp [parts]) q (by simp)),H.car.upd hu (hd Fc (by simp [parts])),H.rows.upd hu (hd (rfoot vb vs) (by simp [parts])),own_upd H.prow hu (hd (blk vp) (by simp [parts])),own_upd H.arow hu (hd (blk va) (by simp [parts])),H.apart⟩
theorem NmAt.upd0 (H:NmAt w q cb vb vp va vs bk Fc S) (hu:Upd [] w w'):NmAt w' q cb vb vp va vs bk Fc S:=H.upd hu fun P _ x _=>by simp
theorem NmAt.dis (H:NmAt w q cb vb vp va vs bk Fc S) {i j:Nat} {P Q:List Nat} (hi:(parts q Fc vb vs vp va)[i]? = some P) (hj:(parts q Fc vb vs vp va)[j]? = some Q) (hne:i≠j):Disj P Q:=pw_at H.apart hi hj hne
theorem IsNm.upd {tv:Value} {F G:List Nat} (H:IsNm w tv F S) (hu:Upd G w w') (hd:∀x∈F,x∉G):IsNm w' tv F S:=by
 obtain ⟨q,cb,vb,vp,va,vs,bk,Fc,rfl,H,hb,rfl⟩:=H
 exact ⟨q,cb,vb,vp,va,vs,bk,Fc,rfl,H.upd hu fun P hP x hx=>hd x (List.mem_flatten.2 ⟨P,hP,hx⟩),hb,rfl⟩
theorem IsNm.lt {tv:Value} {F:List Nat} (H:IsNm w tv F S):∀x∈F,x<w.heap.size:=by
 obtain ⟨q,cb,vb,vp,va,vs,bk,Fc,rfl,H,hb,rfl⟩:=H
 intro x hx
 obtain ⟨P,hP,hx⟩:=List.mem_flatten.1 hx
 exact H.lt P hP x hx
theorem NmAt.count (H:NmAt w q cb vb vp va vs bk Fc S) (n:Nat):NmAt (w.setCell ⟨q,4,none⟩ (.int .i64 (n:Int))) q cb vb vp va vs bk Fc { S with n:=n }:=by
 have hu:Upd [q] w (w.setCell ⟨q,4,none⟩ (.int .i64 (n:Int))):=(Upd.refl _ _).setCell (p:=⟨q,4,none⟩) (.inl (by simp)) _
 have d:∀(j:Nat) (Q:List Nat),j≠0→(parts q Fc vb vs vp va)[j]? = some Q→Disj Q [q]:=fun j Q hne hj=>H.dis hj (j:=0) rfl hne
 refine ⟨?_,H.car.upd hu (d 1 _ (by omega) rfl),H.rows.upd hu (d 2 _ (by omega) rfl),own_upd H.prow hu (d 3 _ (by omega) rfl),own_upd H.arow hu (d 4 _ (by omega) rfl),H.apart⟩
 have:=H.head.set 4 (.int .i64 (n:Int))
 simpa using this
theorem NmAt.mark (H:NmAt w q cb vb vp va vs bk Fc S) {g n C:Nat} (ha:va=.slice (some ⟨g,0,none⟩) n C) (k:Nat) (b:Bool):NmAt (w.setCell ⟨g,k,none⟩ (.bool b)) q cb vb vp va vs bk Fc { S with al:=S.al.set k b }:=by
 subst ha
 have hu:Upd [g] w (w.setCell ⟨g,k,none⟩ (.bool b)):=(Upd.refl _ _).setCell (p:=⟨g,k,none⟩) (.inl (by simp)) _
 have d:∀(j:Nat) (Q:List Nat),j≠4→(parts q Fc vb vs vp (.slice (some ⟨g,0,none⟩) n C))[j]? = some Q→Disj Q [g]:=fun j Q hne hj=>H.dis hj (j:=4) rfl hne
 have hn:n=S.al.length:=by
  obtain ⟨A',C',he⟩:=own_form H.arow
  cases he;rfl
 subst hn
 refine ⟨H.head.upd hu (d 0 [q] (by omega) rfl q (by simp)),H.car.upd hu (d 1 _ (by omega) rfl),H.rows.upd hu (d 2 _ (by omega) rfl),own_upd H.prow hu (d 3 _ (by omega) rfl),?_,H.apart⟩
 have:=(World.ownsRow.stored H.arow k (.bool b)).1
 unfold boolRow
 rw [List.length_set,List.map_set]
 exact this
theorem NmAt.lay (H:NmAt w q cb vb vp va vs bk Fc S) {g n C:Nat} (ha:vp=.slice (some ⟨g,0,none⟩) n C) (k p:Nat):NmAt (w.setCell ⟨g,k,none⟩ (.int .i64 (p:Int))) q cb vb vp va vs bk Fc { S with pl:=S.pl.set k p }:=by
 subst ha
 have hu:Upd [g] w (w.setCell ⟨g,k,none⟩ (.int .i64 (p:Int))):=(Upd.refl _ _).setCell (p:=⟨g,k,none⟩) (.inl (by simp)) _
 have d:∀(j:Nat) (Q:List Nat),j≠3→(parts q Fc vb vs (.slice (some ⟨g,0,none⟩) n C) va)[j]? = some Q→Disj Q [g]:=fun j Q hne hj=>H.dis hj (j:=3) rfl hne
 have hn:n=S.pl.length:=by
  obtain ⟨A',C',he⟩:=own_form H.prow
  cases he;rfl
 subst hn
 refine ⟨H.head.upd hu (d 0 [q] (by omega) rfl q (by simp)),H.car.upd hu (d 1 _ (by omega) rfl),H.rows.upd hu (d 2 _ (by omega) rfl),?_,own_upd H.arow hu (d 4 _ (by omega) rfl),H.apart⟩
 have:=(World.ownsRow.stored H.prow k (.int .i64 (p:Int))).1
 unfold natRow
 rw [List.length_set,List.map_set]
 exact this
theorem NmAt.carry (H:NmAt w q cb vb vp va vs bk Fc S) {Fc':List Nat} {cs:List (Nat×Nat)} {wk:Nat} (hc:IsCarry CEn.KI w' cb Fc' (setB cs) cs.length wk) (hu:Upd Fc w w') (hF:∀x∈Fc',x∈Fc∨w.heap.size≤x) :
 NmAt w' q cb vb vp va vs bk Fc' { S with cs:=cs,wk:=wk }:=by
 have d:∀(j:Nat) (Q:List Nat),j≠1→(parts q Fc vb vs vp va)[j]? = some Q→Disj Q Fc:=fun j Q hne hj=>H.dis hj (j:=1) rfl hne
 refine ⟨H.head.upd hu (d 0 [q] (by omega) rfl q (by simp)),hc,H.rows.upd hu (d 2 _ (by omega) rfl),own_upd H.prow hu (d 3 _ (by omega) rfl),own_upd H.arow hu (d 4 _ (by omega) rfl),?_⟩
 exact pw_set (i:=1) H.apart H.lt rfl hF
theorem NmAt.bks (H:NmAt w q cb vb vp va vs bk Fc S) {vb':Value} {vs':List Value} {bk':List (List (Nat×Nat))} (hu:Upd (q::rfoot vb vs) w w') (hh:HcC w' q #[.pointer (some ⟨cb,0,none⟩),vb',vp,va,.int .i64 (S.n:Int)] 175)
 (hr:RowsAt CEn.KI w' vb' vs' bk') (hF:∀x∈rfoot vb' vs',x∈rfoot vb vs∨w.heap.size≤x):NmAt w' q cb vb' vp va vs' bk' Fc S:=by
 have d:∀(j:Nat) (Q:List Nat),j≠0→j≠2→(parts q Fc vb vs vp va)[j]? = some Q→Disj Q (q::rfoot vb vs):=by
  intro j Q h0 h2 hj x hx hc
  rcases List.mem_cons.1 hc with rfl | hc
  ·exact H.dis hj (j:=0) rfl h0 x hx (by simp)
  ·exact H.dis hj (j:=2) rfl h2 x hx hc
 refine ⟨hh,H.car.upd hu (d 1 _ (by omega) (by omega) rfl),hr,own_upd H.prow hu (d 3 _ (by omega) (by omega) rfl),own_upd H.arow hu (d 4 _ (by omega) (by omega) rfl),?_⟩
 exact pw_set (i:=2) H.apart H.lt rfl hF
def NStep (w w':World) (q cb:Nat) (F:List Nat) (bk:List (List (Nat×Nat))) (S:NS):Prop:=
 ∃vb vp va vs Fc,NmAt w' q cb vb vp va vs bk Fc S∧Upd F w w'∧∀x∈(parts q Fc vb vs vp va).flatten,x∈F∨w.heap.size≤x
theorem mem_part {Ps:List (List Nat)} {i:Nat} {P:List Nat} {x:Nat} (hi:Ps[i]? = some P) (hx:x∈P):x∈Ps.flatten:=List.mem_flatten.2 ⟨P,List.mem_of_getElem? hi,hx⟩
theorem flat_set {Ps:List (List Nat)} {i:Nat} {G':List Nat} {x:Nat} (h:x∈(Ps.set i G').flatten):x∈Ps.flatten∨x∈G':=by
 obtain ⟨P,hP,hx⟩:=List.mem_flatten.1 h
 rcases List.mem_or_eq_of_mem_set hP with h1 | h1
 ·exact .inl (List.mem_flatten.2 ⟨P,h1,hx⟩)
 ·rw [h1] at hx;exact .inr hx
theorem NStep.refl (H:NmAt w q cb vb vp va vs bk Fc S):NStep w w q cb (parts q Fc vb vs vp va).flatten bk S:=⟨vb,vp,va,vs,Fc,H,Upd.refl _ _,fun _ hx=>.inl hx⟩
theorem NStep.then {w'':World} {F:List Nat} {S':NS} {bk':List (List (Nat×Nat))} {vb' vp' va':Value} {vs':List Value} {Fc':List Nat} (hF:∀x∈(parts q Fc vb vs vp va).flatten,x∈F∨w.heap.size≤x) (h1:Upd F w w')
 (h:NmAt w'' q cb vb' vp' va' vs' bk' Fc' S') (hu:Upd (parts q Fc vb vs vp va).flatten w' w'') (hF':∀x∈(parts q Fc' vb' vs' vp' va').flatten,x∈(parts q Fc vb vs vp va).flatten∨w'.heap.size≤x):NStep w w'' q cb F bk' S':=by
 refine ⟨_,_,_,_,_,h,h1.trans' hu hF,fun x hx=>?_⟩
 rcases hF' x hx with g | g
 ·exact hF x g
 ·exact .inr (Nat.le_trans h1.size g)
def NmStep (w w':World) (tv:Value) (F:List Nat) (S:NS):Prop:=∃F',IsNm w' tv F' S∧Upd F w w'∧∀x∈F',x∈F∨w.heap.size≤x
theorem NStep.is {F:List Nat} (H:NStep w w' q cb F bk S) (hb:BkOk (setB S.cs) bk):NmStep w w' (.pointer (some ⟨q,0,none⟩)) F S:=by
 obtain ⟨vb,vp,va,vs,Fc,h,hu,hF⟩:=H
 exact ⟨_,⟨q,cb,vb,vp,va,vs,bk,Fc,rfl,h,hb,rfl⟩,hu,hF⟩
theorem NmStep.quiet {w'':World} {tv:Value} {F:List Nat} (H:NmStep w w' tv F S) (hu:Upd [] w' w''):NmStep w w'' tv F S:=by
 obtain ⟨F',h,h1,h2⟩:=H
 exact ⟨F',h.upd hu (by simp),h1.trans (hu.mono (by simp)),h2⟩
theorem NmStep.ahead {w0:World} {tv:Value} {F:List Nat} (H:NmStep w w' tv F S) (hu:Upd [] w0 w):NmStep w0 w' tv F S:=by
 obtain ⟨F',h,h1,h2⟩:=H
 exact ⟨F',h,(hu.mono (by simp)).trans h1,fun x hx=>(h2 x hx).imp id fun g=>Nat.le_trans hu.size g⟩
theorem noneN (tv:Value) (F:List Nat) (w:World) (H:IsNm w tv F S) :
 Calls Tryz.prog 124 #[tv] w fun e w'=>e=.returned (.bool false)∧w=w':=by
 obtain ⟨q,cb,vb,vp,va,vs,bk,Fc,rfl,H,hb,hF⟩:=H
 obtain ⟨h0,-⟩:=H.cell
 clear H hb hF
 go_enter Tryz.func124,Tryz.ntmps124
 go_wp2_with fail
 go_ret
 exact ⟨rfl,rfl⟩
end Go.Proofs.YtkbaaonchdeneaaGreat.Nm
namespace Go.Proofs.YtkbaaonchdeneaaGreat.Nm
open Go.RowKit
theorem find_in {bk:List (List (Nat×Nat))} {S:NS} (hb:BkOk (setB S.cs) bk) (I:NInv S) {i:Nat} {l:List (Nat×Nat)} (hl:bk[i]? = some l) {x:Nat} {y:Nat×Nat}
 (hy:l[below l x]? = some y) (he:y.1=x):S.cs.lookup x=some y.2:=by
 rw [lookup_iff I.ids]
 have h1:y∈bk.flatten:=List.mem_flatten.2 ⟨l,List.mem_of_getElem? hl,List.mem_of_getElem? hy⟩
 rw [hb.mem,setB_mem] at h1
 rw [←he]
 exact h1
theorem find_out {bk:List (List (Nat×Nat))} {S:NS} (hb:BkOk (setB S.cs) bk) {x:Nat} (h:∀(j:Nat) (l:List (Nat×Nat)),bk[j]? = some l→∀y∈l,y.1≠x):S.cs.lookup x=none:=by
 rw [lookup_none]
 intro y hy
 rw [←setB_mem,←hb.mem] at hy
 obtain ⟨l,hl,hyl⟩:=List.mem_flatten.1 hy
 obtain ⟨j,hj⟩:=List.mem_iff_getElem?.1 hl
 exact h j l hj y hyl
theorem find_not {bs bk:List (List (Nat×Nat))} (hb:BkOk bs bk) {i:Nat} {l:List (Nat×Nat)} (hl:bk[i]? = some l) {x:Nat} (h:∀y,l[below l x]? = some y→y.1≠x):∀y∈l,y.1≠x:=by
 intro y hy he
 have hlt:=(List.getElem?_eq_some_iff.1 hl).1
 have hm:bs[i]? = some (bs[i]'(by rw [←hb.1];exact hlt)):=List.getElem?_eq_getElem _
 obtain ⟨z,h1,h2⟩:=at_below (hb.2 i l _ hl hm).2 ⟨y,hy,he⟩
 exact h z h1 h2
def FindPost (w:World) (S:NS) (x:Nat) (e:Ending) (w':World):Prop:=
 ∃t:Nat,e=.returned (.tuple #[.int .i64 (numV (S.cs.lookup x)),.int .i64 (t:Int)])∧t<1000000∧Upd [] w w'
theorem findC (tv:Value) (F:List Nat) (S:NS) (x:Nat) (w:World) (H:IsNm w tv F S) (I:NInv S) (hl:S.cs.length<90000) :
 Calls Tryz.prog 125 #[tv,.int .u32 (x:Int)] w (FindPost w S x):=by
 obtain ⟨W,hW,hu,hq0⟩:=one_newC w #[.int .i64 0] 3
 have hF0:=H.lt
 have H:=H.upd hu (by simp)
 obtain ⟨q,cb,vb,vp,va,vs,bk,Fc,rfl,H,hb,hF⟩:=H
 obtain ⟨h0,h1,-⟩:=H.cell
 obtain ⟨A,C,hA⟩:=own_form H.rows.list
 subst hA
 obtain ⟨n,hn⟩:∃n,vs.length=n:=⟨_,rfl⟩
 have hbn:bk.length=n:=by rw [←hn,H.rows.len]
 have hn20:n≤20:=by
  have:=hb.1
  rw [setB_len,hbn] at this
  rw [this]
  exact bitsN_le S.cs.length 20 (by omega)
 have hll:∀(i:Nat) (l:List (Nat×Nat)),bk[i]? = some l→l.length<90000:=by
  intro i l hli
  have hlt:=(List.getElem?_eq_some_iff.1 hli).1
  have hm:(setB S.cs)[i]? = some ((setB S.cs)[i]'(by rw [←hb.1];exact hlt)):=List.getElem?_eq_getElem _
  have h1:=(hb.2 i l _ hli hm).1.length_eq
  have h2:=(List.sublist_flatten_of_mem (List.mem_of_getElem? hm)).length_le
  rw [setB_flat] at h2
  omega
 have hqF:w.heap.size∉(parts q Fc (.slice A vs.length C) vs vp va).flatten:=by
  rw [←hF];intro hc;exact Nat.lt_irrefl _ (hF0 _ hc)
 rw [hn] at h1 H hqF
 have hcn:CntC W w.heap.size 0:=⟨hq0.cell 0,hq0.frozen 0⟩
 have HH:=Lib.hid H
 have HB:=Lib.hid hb
 have HBN:=Lib.hid hbn
 have HI:=Lib.hid I
 have HU:=Lib.hid hu
 have HL:=Lib.hid hll
 have HQ:=Lib.hid hqF
 have HC0:=Lib.hid hcn
 have HWD:=Lib.hid hW
 have n0:(0:Int)≤(n:Int):=Int.natCast_nonneg _
 have n1:(n:Int)≤20:=by omega
 unfold FindPost
 clear H hb I hF hu hn hbn hll hqF hq0 hW hF0 h0 hcn hl hn20
 go_enter Tryz.func125,Tryz.ntmps125
 go_upto_region 2 with fail
 rw [←HWD.out]
 clear HWD
 obtain ⟨qx,hqx⟩:∃q,w.heap.size=q:=⟨_,rfl⟩
 rw [hqx] at HQ HC0 ⊢
 have HQE:=Lib.hid hqx
 clear hqx
 go_wp2_with fail
 go_loopg [16] n (fun m s16 wr=>∃(i t:Nat),m+i=n∧s16=.int .i64 (i:Int)∧CntC wr qx t∧t≤50*i∧Upd [qx] W wr∧∀(j:Nat) (l:List (Nat×Nat)),j<i→bk[j]? = some l→∀y∈l,y.1≠x)
 case atStart=>exact ⟨0,0,by omega,rfl,HC0.out,by omega,Upd.refl _ _,by omega⟩
 case round=>
  obtain ⟨i,t,hmi,rfl,hcn,ht,hup,hno⟩:=hrel
  have i0:(0:Int)≤(i:Int):=Int.natCast_nonneg _
  by_cases hlt:i<n
  ·have hlt2:(i:Int)<(n:Int):=by omega
   have HR:=HH.out.rows.upd hup (by
    intro k hk hc
    simp at hc
    subst hc
    exact HQ.out (mem_part (i:=2) rfl hk))
   obtain ⟨g,Ak,Ck,hA,hv,hcell,hfro,hrow⟩:=HR.at (k:=i) (by rw [HBN.out];exact hlt)
   subst hA
   obtain ⟨l,hli⟩:∃l,bk[i]? = some l:=⟨_,List.getElem?_eq_getElem (by rw [HBN.out];exact hlt)⟩
   have hle:=(List.getElem?_eq_some_iff.1 hli).2
   rw [hle] at hcell hrow hv
   have hlb:=HL.out i l hli
   have hsee:See CEn.KI wr (.slice Ak l.length Ck) l:=See.of_row hrow
   have hbs:=HB.out
   have hsr:l.Pairwise fun a b=>a.1≤b.1:=(hbs.2 i l ((setB S.cs)[i]'(by rw [←hbs.1,HBN.out];exact hlt)) hli (List.getElem?_eq_getElem _)).2
   have hqb:0<l.length→qx∉blk (.slice Ak l.length Ck):=fun _ hc=>HQ.out (mem_part (i:=2) rfl (mem_rfoot.2 (.inr ⟨i,_,hv,hc⟩)))
   have HK:=Lib.hid (And.intro hmi (And.intro ht (And.intro hup hno)))
   have HLI:=Lib.hid (And.intro hli (And.intro hsee hqb))
   have hbl:=below_le l x
   obtain ⟨p,hp⟩:∃p,below l x=p:=⟨_,rfl⟩
   rw [hp] at hbl
   have hS:Calls Tryz.prog 192 #[.slice Ak l.length Ck,.int .u32 (x:Int),.func (.func 193) #[] #[.pointer (some ⟨qx,0,none⟩)]] wr fun e w'=>∃(t':Nat) (b:Bool),e=.returned (.tuple #[.int .i64 (p:Int),.bool b])∧CntC w' qx (t+t')∧t'≤bitsN l.length+1∧Upd [qx] wr w':=by
    rw [←hp];exact searchC _ l x qx t wr hsee (by omega) hcn (by omega) hqb hsr
   have HS:=Lib.hid hS
   have HP:=Lib.hid hp
   have p0:(0:Int)≤(p:Int):=Int.natCast_nonneg _
   have l0:(l.length:Int)<90000:=by omega
   have ht2:t≤1000:=by omega
   clear hmi ht hup hno HR hv hfro hrow hle hli hsee hsr hbs hqb hcn hp hS
   go_upto_region 5 with fail
   go_wp2_with fail
   (with_reducible refine HS.out.mono ?_)
   rintro e w3 ⟨t3,b3,rfl,hc3,ht3,hu3⟩
   have hbits:bitsN l.length≤17:=bitsN_le l.length 17 (by omega)
   obtain ⟨c,hc⟩:∃c,t+t3=c:=⟨_,rfl⟩
   rw [hc] at hc3
   have htt:c≤2000:=by omega
   have HT:=Lib.hid (And.intro hbits (And.intro ht3 hc))
   have HU3:=Lib.hid hu3
   have c1:=hc3.cell
   have c2:=hc3.soft
   have t0:(0:Int)≤(c:Int):=Int.natCast_nonneg _
   have t1:(c:Int)≤2000:=by omega
   have HC3:=Lib.hid hc3
   clear ht3 hu3 hcell hc3 hbits hc
   by_cases hpl:p<l.length
   ·have hpl2:(p:Int)<(l.length:Int):=by omega
    obtain ⟨y,hy⟩:∃y,l[p]? = some y:=⟨_,List.getElem?_eq_getElem hpl⟩
    have hs4:=HC3.out.set (c+1)
    have he:Value.int .i64 ((c+1:Nat):Int)=Value.int .i64 ((c:Int)+1):=by congr 1
    rw [he] at hs4
    have hus:Upd [qx] w3 (w3.setCell ⟨qx,0,none⟩ (.int .i64 ((c:Int)+1))):=(Upd.refl _ _).setCell (p:=⟨qx,0,none⟩) (.inl (by simp)) _
    have hsee4:=(HLI.out.2.1.upd HU3.out (fun h0 k hk _ hc=>by simp at hc;subst hc;exact HLI.out.2.2 h0 hk)).upd hus (fun h0 k hk _ hc=>by simp at hc;subst hc;exact HLI.out.2.2 h0 hk)
    obtain ⟨g2,og,hA2,-,-,ey⟩:=hsee4.at hy
    subst hA2
    have y0:=ey 0 _ rfl
    have y1:=ey 1 _ rfl
    have y0:(w3.setCell ⟨qx,0,none⟩ (.int .i64 ((c:Int)+1))).cell? ⟨g2,og+p*2,none⟩=some (.int .u32 (y.1:Int)):=y0
    have y1:(w3.setCell ⟨qx,0,none⟩ (.int .i64 ((c:Int)+1))).cell? ⟨g2,og+p*2+1,none⟩=some (.int .i64 (y.2:Int)):=y1
    have z0:=hs4.cell
    have HS4:=Lib.hid hs4
    have HUS:=Lib.hid hus
    have HY:=Lib.hid hy
    clear ey hsee4 hs4 hus hy he
    go_upto_region 8 with fail
    generalize (w3.setCell ⟨qx,0,none⟩ (.int .i64 ((c:Int)+1)))=w4 at HS4 HUS y0 y1 z0 ⊢
    clear c1 c2
    by_cases hyx:y.1=x
    ·have HYX:=Lib.hid hyx
     have hyx2:((y.1:Int)==(x:Int))=true:=by simp;omega
     clear hyx
     go_upto_region 9 with fail
     go_region
     go_wp2_with fail
     go_ret2
     have hf:=find_in HB.out HI.out HLI.out.1 (x:=x) (y:=y) (by rw [HP.out];exact HY.out) HYX.out
     refine ⟨c+1,?_,by omega,?_⟩
     ·rw [hf];rfl
     ·exact HU.out.trans' (((HK.out.2.2.1.trans HU3.out).trans HUS.out).drew) (fun k hk=>by simp at hk;subst hk;right;have:=HQE.out;omega)
    ·have HYX:=Lib.hid hyx
     have hyx2:((y.1:Int)==(x:Int))=false:=by simp;omega
     clear hyx
     go_wp2_with fail
     go_roundg (n - (i+1))
     case measure=>have:=HK.out.1;omega
     case rel=>
      obtain ⟨k1,k2,k3,k4⟩:=HK.out
      refine ⟨i+1,c+1,by omega,by go_num,HS4.out,?_,(k3.trans HU3.out).trans HUS.out,?_⟩
      ·obtain ⟨e1,e2,e3⟩:=HT.out;omega
      ·intro j l' hj hl'
       rcases Nat.lt_or_ge j i with hji | hji
       ·exact k4 j l' hji hl'
       ·have:j=i:=by omega
        subst this
        rw [HLI.out.1] at hl'
        cases hl'
        refine find_not HB.out HLI.out.1 ?_
        intro y' hy'
        rw [HP.out,HY.out] at hy'
        cases hy'
        exact HYX.out
   ·have hpl2:¬(p:Int)<(l.length:Int):=by omega
    have HPL:=Lib.hid hpl
    clear c1 c2 hpl
    dsimp only
    go_wp2_with fail
    go_roundg (n - (i+1))
    case measure=>have:=HK.out.1;omega
    case rel=>
     obtain ⟨k1,k2,k3,k4⟩:=HK.out
     refine ⟨i+1,c,by omega,by go_num,HC3.out,?_,k3.trans HU3.out,?_⟩
     ·obtain ⟨e1,e2,e3⟩:=HT.out;omega
     ·intro j l' hj hl'
      rcases Nat.lt_or_ge j i with hji | hji
      ·exact k4 j l' hji hl'
      ·have:j=i:=by omega
       subst this
       rw [HLI.out.1] at hl'
       cases hl'
       refine find_not HB.out HLI.out.1 ?_
       intro y' hy'
       rw [HP.out,List.getElem?_eq_none (by have:=HPL.out;omega)] at hy'
       cases hy'
  ·have hin:i=n:=by omega
   have HK:=Lib.hid (And.intro ht (And.intro hup hno))
   have c1:=hcn.cell
   have HNN:=Lib.hid hin
   clear ht hup hno hcn hmi
   go_upto_region 11 with fail
   go_region
   go_wp2_with fail
   go_ret2
   obtain ⟨k2,k3,k4⟩:=HK.out
   have hf:S.cs.lookup x=none:=find_out HB.out fun j l hj=>k4 j l (by have:=(List.getElem?_eq_some_iff.1 hj).1;rw [HBN.out] at this;rw [HNN.out];exact this) hj
   refine ⟨t,?_,by omega,?_⟩
   ·rw [hf];rfl
   ·exact HU.out.trans' (k3.drew) (fun k hk=>by simp at hk;subst hk;right;have:=HQE.out;omega)
end Go.Proofs.YtkbaaonchdeneaaGreat.Nm
namespace Go.Proofs.YtkbaaonchdeneaaGreat.Nm
open Go.RowKit
theorem own_at {w:World} {b:Nat} {e:TypeId} {A:Option Addr} {n m C:Nat} {xs:List Value} (h:w.ownsRow b e 1 (.slice A m C) n xs) {k:Nat} (hk:k<n) {u:Value} (hu:xs[k]? = some u) :
 ∃q,A=some ⟨q,0,none⟩∧w.cell? ⟨q,k,none⟩=some u∧w.frozen? ⟨q,k,none⟩=false∧q<w.heap.size:=by
 obtain ⟨q,cap,he,_,hlt⟩:=World.ownsRow.form h (by omega)
 cases he
 refine ⟨q,rfl,?_,World.ownsRow.frozenAt h k,hlt⟩
 have:=World.ownsRow.cells h (g:=q) rfl k u hu
 rwa [addr_add,Nat.zero_add] at this
theorem alive_at {w:World} {va:Value} {al:List Bool} (h:boolRow w va al) {k:Nat} (hk:k<al.length):∃q C,va=.slice (some ⟨q,0,none⟩) al.length C∧w.cell? ⟨q,k,none⟩=some (.bool (al.getD k false))∧w.frozen? ⟨q,k,none⟩=false∧q<w.heap.size:=by
 obtain ⟨A,C,rfl⟩:=own_form h
 obtain ⟨q,rfl,h1,h2,h3⟩:=own_at h (k:=k) hk (u:=.bool (al.getD k false)) (by
  rw [List.getElem?_map,List.getElem?_eq_getElem hk,List.getD_eq_getElem?_getD,List.getElem?_eq_getElem hk];rfl)
 exact ⟨q,C,rfl,h1,h2,h3⟩
theorem place_at {w:World} {vp:Value} {pl:List Nat} (h:natRow w vp pl) {k:Nat} (hk:k<pl.length):∃q C,vp=.slice (some ⟨q,0,none⟩) pl.length C∧w.cell? ⟨q,k,none⟩=some (.int .i64 ((pl.getD k 0:Nat):Int))∧w.frozen? ⟨q,k,none⟩=false∧q<w.heap.size:=by
 obtain ⟨A,C,rfl⟩:=own_form h
 obtain ⟨q,rfl,h1,h2,h3⟩:=own_at h (k:=k) hk (u:=.int .i64 ((pl.getD k 0:Nat):Int)) (by
  rw [List.getElem?_map,List.getElem?_eq_getElem hk,List.getD_eq_getElem?_getD,List.getElem?_eq_getElem hk];rfl)
 exact ⟨q,C,rfl,h1,h2,h3⟩
theorem num_lt {S:NS} (I:NInv S) {x k:Nat} (h:S.cs.lookup x=some k):k<S.al.length∧k<S.pl.length:=by
 rw [lookup_iff I.ids] at h
 have:=I.lt _ h
 exact ⟨this,by rw [I.pll];exact this⟩
def placeV (o:Option Nat):Int:=match o with | some k=>(k:Int) | none=>0
def FoundPost (w:World) (S:NS) (x:Nat) (e:Ending) (w':World):Prop:=
 ∃t:Nat,e=.returned (.tuple #[.int .i64 (placeV (place S x)),.bool (place S x).isSome,.int .i64 (t:Int)])∧Upd [] w w'
theorem foundC (tv:Value) (F:List Nat) (S:NS) (x:Nat) (w:World) (H:IsNm w tv F S) (I:NInv S) (hl:S.cs.length<90000) :
 Calls Tryz.prog 76 #[tv,.int .u32 (x:Int)] w (FoundPost w S x):=by
 have HN:=Lib.hid (noneN tv F w H)
 have HF:=Lib.hid (findC tv F S x w H I hl)
 have HH:=Lib.hid H
 have HI:=Lib.hid I
 obtain ⟨q,cb,vb,vp,va,vs,bk,Fc,rfl,-⟩:=H
 obtain ⟨o,ho⟩:∃o,S.cs.lookup x=o:=⟨_,rfl⟩
 unfold FoundPost
 clear I
 go_enter Tryz.func76,Tryz.ntmps76
 go_wp2_with fail
 (with_reducible refine HN.out.mono ?_)
 rintro e w' ⟨rfl,rfl⟩
 go_wp2_with fail
 (with_reducible refine HF.out.mono ?_)
 rintro e w' ⟨t,rfl,ht,hu⟩
 have HU:=Lib.hid hu
 rw [ho]
 cases o with
 |none=>
  have hp:place S x=none:=by unfold place;rw [ho]
  have HP:=Lib.hid hp
  have hd:numV none = -1:=rfl
  rw [hd]
  clear hp ho hu hd
  dsimp only
  go_wp2_with fail
  go_ret3
  exact ⟨t,by rw [HP.out];rfl,HU.out⟩
 |some k=>
  obtain ⟨hk1,hk2⟩:=num_lt HI.out ho
  obtain ⟨q,cb,vb,vp,va,vs,bk,Fc,he,H,hb,hF⟩:=HH.out.upd hu (by simp)
  cases he
  obtain ⟨-,-,h2,h3,-⟩:=H.cell
  obtain ⟨ga,Ca,rfl,a1,-⟩:=alive_at H.arow hk1
  obtain ⟨gp,Cp,rfl,p1,-⟩:=place_at H.prow hk2
  have k0:(0:Int)≤(k:Int):=Int.natCast_nonneg _
  have k1:(k:Int)<(S.al.length:Int):=by omega
  have k2:(k:Int)<(S.pl.length:Int):=by omega
  have k3:¬(k:Int)<0:=by omega
  have hd:numV (some k)=(k:Int):=rfl
  rw [hd]
  by_cases hal:S.al.getD k false=true
  ·have hp:place S x=some (S.pl.getD k 0):=by unfold place;rw [ho];dsimp only;rw [if_pos hal]
   have HP:=Lib.hid hp
   rw [hal] at a1
   obtain ⟨pv,hpv⟩:∃pv,S.pl.getD k 0=pv:=⟨_,rfl⟩
   rw [hpv] at p1
   have HPV:=Lib.hid hpv
   clear H hb hF hd hp ho hu hal hpv hk1 hk2
   dsimp only
   go_wp2_with fail
   go_ret3
   exact ⟨⟨t,by rw [HP.out,HPV.out];rfl⟩,HU.out⟩
  ·have hp:place S x=none:=by unfold place;rw [ho];dsimp only;rw [if_neg hal]
   have hal2:S.al.getD k false=false:=by simpa using hal
   have HP:=Lib.hid hp
   rw [hal2] at a1
   clear H hb hF hd hp ho hu hal hal2 hk1 hk2
   dsimp only
   go_wp2_with fail
   go_ret3
   exact ⟨⟨t,by rw [HP.out];rfl⟩,HU.out⟩
def N0:NS:=⟨[],[],[],0,0⟩
theorem NInv.zero:NInv N0:=⟨by simp [N0],by simp [N0],by simp [N0],rfl,rfl,by simp [N0]⟩
theorem newN (w:World) :
 Calls Tryz.prog 58 #[] w fun e w'=>∃tv F,e=.returned tv∧IsNm w' tv F N0∧(∀x∈F,w.heap.size≤x)∧Upd [] w w':=by
 have HC:=Lib.hid (CEn.newI w)
 go_enter Tryz.func58,Tryz.ntmps58
 go_wp2_with fail
 (with_reducible refine HC.out.mono ?_)
 rintro e w' ⟨b,rfl,hc,hb,hu⟩
 have HB:=Lib.hid (And.intro hc (And.intro hb hu))
 clear hc hb hu
 go_wp2_with fail
 go_ret
 obtain ⟨hc,hb,hu⟩:=HB.out
 obtain ⟨W,hW,hu2,hh⟩:=one_newC w' #[.pointer (some ⟨b,0,none⟩),.slice none 0 0,.slice none 0 0,.slice none 0 0,.int .i64 0] 175
 rw [←hW]
 have hcl:=hc.lt b (by simp)
 refine ⟨_,_,rfl,⟨w'.heap.size,b,.slice none 0 0,.slice none 0 0,.slice none 0 0,[],[],[b],rfl,⟨hh,?_,RowsAt.nil,World.ownsRow_nil _ _ _ _,World.ownsRow_nil _ _ _ _,?_⟩,⟨by simp [N0,setB,bitsN],by simp⟩,rfl⟩,?_,hu.trans hu2⟩
 ·have:=hc.upd hu2 (by simp)
  show IsCarry _ _ _ _ (setB []) _ _
  rw [setB_nil]
  exact this
 ·simp [parts,rfoot,blk,Disj]
  omega
 ·simp [parts,rfoot,blk]
  exact ⟨hu.size,hb⟩
end Go.Proofs.YtkbaaonchdeneaaGreat.Nm
