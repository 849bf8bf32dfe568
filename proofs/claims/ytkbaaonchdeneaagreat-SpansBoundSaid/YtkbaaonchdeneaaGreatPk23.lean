/- ivl.behind: how many spans begin at a number at most; slices.BinarySearchFunc at spans, with a count. ivl's Len, Stab, Meet. -/
import Derived.Test.YtkbaaonchdeneaaGreatPk22
set_option maxHeartbeats 8000000
set_option maxRecDepth 100000
namespace Go.Proofs.YtkbaaonchdeneaaGreat
open Go.RowKit
def bhd (R:List Sp) (x:Int):Nat:=(R.filter fun s=>decide (s.lo≤x)).length
theorem bhd_at {R:List Sp} {x:Int} {i:Nat} (hi:i≤R.length) (h1:∀s∈R.take i,s.lo≤x) (h2:∀s∈R.drop i,x<s.lo):bhd R x=i:=by
 unfold bhd
 conv=>lhs;rw [←List.take_append_drop i R]
 rw [List.filter_append,List.filter_eq_self.2 (by simpa using h1),List.filter_eq_nil_iff.2 (by intro s hs hc;have:=h2 s hs;simp at hc;omega),List.append_nil,List.length_take]
 omega
theorem bhd_le (R:List Sp) (x:Int):bhd R x≤R.length:=List.length_filter_le _ _
structure CntC (w:World) (q c:Nat):Prop where
 cell:w.cell? ⟨q,0,none⟩=some (.int .i64 (c:Int))
 soft:w.frozen? ⟨q,0,none⟩=false
theorem CntC.upd {w w':World} {q c:Nat} (h:CntC w q c) {F:List Nat} (hu:Upd F w w') (hq:q∉F):CntC w' q c:=
 ⟨(hu.cell (World.block_lt_of_cell? w _ h.cell) hq).trans h.cell,(hu.frozen (World.block_lt_of_cell? w _ h.cell) hq).trans h.soft⟩
theorem CntC.set {w:World} {q c:Nat} (h:CntC w q c) (d:Nat):CntC (w.setCell ⟨q,0,none⟩ (.int .i64 (d:Int))) q d:=
 ⟨World.cell?_setCell_same' _ _ _ (by rw [h.cell];rfl),by rw [World.frozen?_setCell];exact h.soft⟩
def sideV (s:Sp) (x:Int):Int:=if s.lo≤x then -1 else 1
theorem sideC (s:Sp) (x:Int) (q c:Nat) (w:World) (h:CntC w q c) (hc:c<1000000) :
 Calls Tryz.prog 215 #[spV s,.int .i64 x,.pointer (some ⟨q,0,none⟩)] w fun e w'=>e=.returned (.int .i64 (sideV s x))∧CntC w' q (c+1)∧Upd [q] w w':=by
 obtain ⟨lo,hi,id⟩:=s
 have hu:Upd [] w (w.alloc (.cells #[.int .i64 lo,.int .i64 hi,.int .u32 (id:Int)] 62)):=(Upd.refl _ _).alloc _
 have h1:=h.upd hu (by simp)
 have hql:q<w.heap.size:=World.block_lt_of_cell? w _ h.cell
 have d0:(w.alloc (.cells #[.int .i64 lo,.int .i64 hi,.int .u32 (id:Int)] 62)).cell? ⟨w.heap.size,0,none⟩=some (.int .i64 lo):=by rw [World.cell?_alloc_at _ _ _ _ rfl];rfl
 unfold spV sideV
 dsimp only
 obtain ⟨z,hz⟩:∃z:Int,(if lo≤x then (-1:Int) else 1)=z:=⟨_,rfl⟩
 rw [hz]
 have HZ:=Lib.hid hz
 go_enter Tryz.func215,Tryz.ntmps215
 go_upto_region 1 with fail
 generalize (w.alloc (.cells #[.int .i64 lo,.int .i64 hi,.int .u32 (id:Int)] 62))=W at hu h1 d0 ⊢
 have c1:=h1.cell
 have c2:=h1.soft
 have c0:(0:Int)≤(c:Int):=Int.natCast_nonneg _
 have c3:(c:Int)<1000000:=by omega
 have hs:=h1.set (c+1)
 have he:Value.int .i64 ((c+1:Nat):Int)=Value.int .i64 ((c:Int)+1):=by congr 1
 rw [he] at hs
 have hup:Upd [q] w (W.setCell ⟨q,0,none⟩ (.int .i64 ((c:Int)+1))):=(hu.mono (G:=[q]) (by simp)).setCell (p:=⟨q,0,none⟩) (.inl (by simp)) _
 have hqq:(⟨w.heap.size,0,none⟩:Addr).block∉[q]:=by simp;omega
 have e0:=(((Upd.refl [q] W).setCell (p:=⟨q,0,none⟩) (.inl (by simp)) (.int .i64 ((c:Int)+1))).cell (p:=⟨w.heap.size,0,none⟩) (World.block_lt_of_cell? _ _ d0) hqq).trans d0
 have HF:=Lib.hid (And.intro hs hup)
 clear he hz h hu h1 hs hup hqq hql
 go_upto_region 2 with fail
 clear c1 c2 d0
 generalize (W.setCell ⟨q,0,none⟩ (.int .i64 ((c:Int)+1)))=W2 at e0 HF ⊢
 by_cases hx:lo≤x
 ·have h9:z = -1:=by rw [←HZ.out,if_pos hx]
  subst h9
  go_wp2_with fail
  go_ret
  exact ⟨rfl,HF.out⟩
 ·have h9:z=1:=by rw [←HZ.out,if_neg hx]
  subst h9
  go_wp2_with fail
  go_ret
  exact ⟨rfl,HF.out⟩
theorem take_side {R:List Sp} {x:Int} {p:Nat} {s:Sp} (h:R.Pairwise fun a b=>a.lo≤b.lo) (hs:R[p]? = some s) (hx:s.lo≤x):∀y∈R.take (p+1),y.lo≤x:=by
 intro y hy
 obtain ⟨h1,h2⟩:=List.getElem?_eq_some_iff.1 hs
 rw [List.take_succ_eq_append_getElem h1,h2,List.mem_append] at hy
 rcases hy with hy | hy
 ·obtain ⟨i,hi,rfl⟩:=List.mem_iff_getElem.1 hy
  rw [List.length_take] at hi
  rw [List.getElem_take]
  have:=List.pairwise_iff_getElem.1 h i p (by omega) h1 (by omega)
  rw [h2] at this
  omega
 ·simp at hy;subst hy;exact hx
theorem drop_side {R:List Sp} {x:Int} {p:Nat} {s:Sp} (h:R.Pairwise fun a b=>a.lo≤b.lo) (hs:R[p]? = some s) (hx:x<s.lo):∀y∈R.drop p,x<y.lo:=by
 intro y hy
 obtain ⟨h1,h2⟩:=List.getElem?_eq_some_iff.1 hs
 obtain ⟨i,hi,rfl⟩:=List.mem_iff_getElem.1 hy
 rw [List.length_drop] at hi
 rw [List.getElem_drop]
 rcases Nat.eq_zero_or_pos i with h0 | h0
 ·subst h0
  simp only [Nat.add_zero]
  rw [h2];exact hx
 ·have:=List.pairwise_iff_getElem.1 h p (p+i) h1 (by omega) (by omega)
  rw [h2] at this
  omega
def SearchPost (w:World) (q c:Nat) (R:List Sp) (x:Int) (e:Ending) (w':World):Prop:=
 ∃t:Nat,e=.returned (.tuple #[.int .i64 ((bhd R x:Nat):Int),.bool false])∧CntC w' q (c+t)∧t≤bitsN R.length+1∧Upd [q] w w'
theorem searchC (v:Value) (R:List Sp) (x:Int) (q c:Nat) (w:World) (hs:See KSp w v R) (hb:R.length<100000) (hq:CntC w q c) (hc:c<100000) (hv:0<R.length→q∉blk v) (hsr:R.Pairwise fun a b=>a.lo≤b.lo) :
 Calls Tryz.prog 214 #[v,.int .i64 x,.func (.func 215) #[] #[.pointer (some ⟨q,0,none⟩)]] w (SearchPost w q c R x):=by
 obtain ⟨A,C,rfl⟩:=hs.form
 obtain ⟨n,hn⟩:∃n,R.length=n:=⟨_,rfl⟩
 rw [hn] at hs hb ⊢
 have hbn:bitsN n≤17:=bitsN_le n 17 (by omega)
 have H:=Lib.hid hs
 have HN:=Lib.hid (And.intro hn (And.intro hsr hbn))
 have HQ:=Lib.hid hq
 have HV:=Lib.hid hv
 have n0:(0:Int)≤(n:Int):=Int.natCast_nonneg _
 have n1:(n:Int)<100000:=by omega
 have hse:∀w',Upd [q] w w'→See KSp w' (.slice A n C) R:=fun w' hu=>H.out.upd hu (fun h0 k hk hkl hc=>by simp at hc;subst hc;exact HV.out h0 (by rw [HN.out.1];exact hk))
 have HSE:=Lib.hid hse
 unfold SearchPost
 clear hs hn hq hv hsr hbn hse
 go_enter Tryz.func214,Tryz.ntmps214
 go_wp2_with fail
 go_loopg [9,10] n (fun m s9 s10 wr=>∃(i j t:Nat),m+i=j∧j≤n∧s9=.int .i64 (i:Int)∧s10=.int .i64 (j:Int)∧(∀s∈R.take i,s.lo≤x)∧(∀s∈R.drop j,x<s.lo)∧CntC wr q (c+t)∧t+bitsN (j - i)≤bitsN n∧Upd [q] w wr)
 case atStart=>exact ⟨0,n,0,by omega,Nat.le_refl _,rfl,rfl,by simp,by rw [←HN.out.1];simp,HQ.out,by simp,Upd.refl _ _⟩
 case round=>
  obtain ⟨i,j,t,hij,hjn,rfl,rfl,hlo,hhi,hcn,htb,hup⟩:=hrel
  have i0:(0:Int)≤(i:Int):=Int.natCast_nonneg _
  have j0:(0:Int)≤(j:Int):=Int.natCast_nonneg _
  have hi1:i≤j:=by omega
  have hi2:(i:Int)≤(j:Int):=by omega
  have hj2:(j:Int)≤(n:Int):=by omega
  by_cases hlt:i<j
  ·obtain ⟨p,hp⟩:∃p,(i+j) / 2=p:=⟨_,rfl⟩
   have hip:i≤p∧p<j:=by omega
   obtain ⟨s,hs⟩:∃s,R[p]? = some s:=⟨_,List.getElem?_eq_getElem (by rw [HN.out.1];omega)⟩
   obtain ⟨g,og,hA,-,-,ey⟩:=(HSE.out wr hup).at hs
   subst hA
   have y0:wr.cell? ⟨g,og+p*3,none⟩=some (.int .i64 s.lo):=ey 0 _ rfl
   have y1:wr.cell? ⟨g,og+p*3+1,none⟩=some (.int .i64 s.hi):=ey 1 _ rfl
   have y2:wr.cell? ⟨g,og+p*3+2,none⟩=some (.int .u32 (s.id:Int)):=ey 2 _ rfl
   have hct:c+t<1000000:=by have:=HN.out.2.2;omega
   have hsd:=sideC s x q (c+t) wr hcn hct
   unfold spV at hsd
   have b1:(i:Int)<(j:Int):=by omega
   have p0:(0:Int)≤(p:Int):=Int.natCast_nonneg _
   have p1:(p:Int)<(n:Int):=by omega
   have HK:=Lib.hid (And.intro hij (And.intro hjn (And.intro hlo (And.intro hhi (And.intro htb hup)))))
   have HS:=Lib.hid hs
   have HP:=Lib.hid (And.intro hip hp)
   have HCT:=Lib.hid (And.intro hcn hct)
   clear hij hjn hlo hhi hcn htb hup hs ey hp hip hct hi1
   go_upto_region 5 with fail
   have hcv:Value.int .i64 (((i:Int)+(j:Int)) / 2)=Value.int .i64 (p:Int):=by have:=HP.out.2;congr 1;omega
   simp only [hcv]
   clear hcv
   by_cases hx:s.lo≤x
   ·have hsv:sideV s x = -1:=by unfold sideV;rw [if_pos hx]
    rw [hsv] at hsd
    have HSD:=Lib.hid hsd
    have HX:=Lib.hid (take_side HN.out.2.1 HS.out hx)
    clear hsd hsv hx
    go_wp2_with fail
    (with_reducible refine HSD.out.mono ?_)
    rintro e w3 ⟨rfl,h3,u3⟩
    have HE:=Lib.hid (And.intro h3 u3)
    clear h3 u3 y0 y1 y2
    go_wp2_with fail
    go_roundg (j - (p+1))
    case measure=>have h1:=HK.out.1;have h2:=HP.out;omega
    case rel=>
     obtain ⟨k1,k2,k3,k4,k5,k6⟩:=HK.out
     have h2:=HP.out
     have h5:=bitsN_half (n:=j - i) (by omega) (k:=j - (p+1)) (by omega)
     exact ⟨p+1,j,t+1,by omega,k2,by go_num,rfl,HX.out,k4,HE.out.1,by omega,k6.trans HE.out.2⟩
   ·have hsv:sideV s x=1:=by unfold sideV;rw [if_neg hx]
    rw [hsv] at hsd
    have HSD:=Lib.hid hsd
    have HX:=Lib.hid (drop_side HN.out.2.1 HS.out (show x<s.lo by omega))
    clear hsd hsv hx
    go_wp2_with fail
    (with_reducible refine HSD.out.mono ?_)
    rintro e w3 ⟨rfl,h3,u3⟩
    have HE:=Lib.hid (And.intro h3 u3)
    clear h3 u3 y0 y1 y2
    go_wp2_with fail
    go_roundg (p - i)
    case measure=>have h1:=HK.out.1;have h2:=HP.out;omega
    case rel=>
     obtain ⟨k1,k2,k3,k4,k5,k6⟩:=HK.out
     have h2:=HP.out
     have h5:=bitsN_half (n:=j - i) (by omega) (k:=p - i) (by omega)
     exact ⟨i,p,t+1,by omega,by omega,rfl,rfl,k3,HX.out,HE.out.1,by omega,k6.trans HE.out.2⟩
  ·have hij2:i=j:=by omega
   subst hij2
   have hb:=bhd_at (R:=R) (x:=x) (by rw [HN.out.1];exact hjn) hlo hhi
   have HB:=Lib.hid hb
   have htb2:t≤bitsN n:=by omega
   have HK:=Lib.hid (And.intro htb2 hup)
   by_cases hin:i<n
   ·obtain ⟨s,hs⟩:∃s,R[i]? = some s:=⟨_,List.getElem?_eq_getElem (by rw [HN.out.1];omega)⟩
    obtain ⟨g,og,hA,-,-,ey⟩:=(HSE.out wr hup).at hs
    subst hA
    have y0:wr.cell? ⟨g,og+i*3,none⟩=some (.int .i64 s.lo):=ey 0 _ rfl
    have y1:wr.cell? ⟨g,og+i*3+1,none⟩=some (.int .i64 s.hi):=ey 1 _ rfl
    have y2:wr.cell? ⟨g,og+i*3+2,none⟩=some (.int .u32 (s.id:Int)):=ey 2 _ rfl
    have hct:c+t<1000000:=by have:=HN.out.2.2;omega
    have hsd:=sideC s x q (c+t) wr hcn hct
    have hxs:x<s.lo:=hhi s (by
     obtain ⟨h1,h2⟩:=List.getElem?_eq_some_iff.1 hs
     rw [List.drop_eq_getElem_cons h1,h2]
     simp)
    have hsv:sideV s x=1:=by unfold sideV;rw [if_neg (by omega)]
    rw [hsv] at hsd
    unfold spV at hsd
    have b1:(i:Int)<(n:Int):=by omega
    have HSD:=Lib.hid hsd
    clear hsd hsv hxs hs ey hct hlo hhi hcn htb hup hij hjn hi1 htb2 hb hlt
    go_wp2_with fail
    (with_reducible refine HSD.out.mono ?_)
    rintro e w3 ⟨rfl,h3,u3⟩
    have HE:=Lib.hid (And.intro h3 u3)
    clear h3 u3 y0 y1 y2
    go_wp2_with fail
    go_ret2
    exact ⟨t+1,by rw [HB.out];rfl,HE.out.1,by rw [HN.out.1];have:=HK.out.1;omega,HK.out.2.trans HE.out.2⟩
   ·have hin2:i=n:=by omega
    subst hin2
    have HC:=Lib.hid hcn
    clear hlo hhi hcn htb hup hij hjn hi1 htb2 hb hlt
    go_wp2_with fail
    go_ret2
    exact ⟨t,by rw [HB.out];rfl,HC.out,by rw [HN.out.1];have:=HK.out.1;omega,HK.out.2⟩
def BehindPost (w:World) (R:List Sp) (x:Int) (e:Ending) (w':World):Prop:=
 ∃t:Nat,e=.returned (.tuple #[.int .i64 ((bhd R x:Nat):Int),.int .i64 (t:Int)])∧t≤bitsN R.length+1∧Upd [] w w'
theorem behindC {w:World} {b:Nat} {p vr:Value} {R:List Sp} {T:Kn} {Fk:List Nat} (h:IvlAt w b p vr R T Fk) (x:Int) (hb:R.length<100000) (hsr:R.Pairwise fun a b=>a.lo≤b.lo) :
 Calls Tryz.prog 146 #[.pointer (some ⟨b,0,none⟩),.int .i64 x] w (BehindPost w R x):=by
 have c2:=h.cells.2.2.1
 have hbl:=lt_of_block h.head
 have hu:Upd [] w (w.alloc (.cells #[.int .i64 0] 3)):=(Upd.refl _ _).alloc _
 have c2':(w.alloc (.cells #[.int .i64 0] 3)).cell? ⟨b,2,none⟩=some vr:=(hu.cell (p:=⟨b,2,none⟩) hbl (by simp)).trans c2
 have hq:CntC (w.alloc (.cells #[.int .i64 0] 3)) w.heap.size 0:=⟨by rw [World.cell?_alloc_at _ _ _ _ rfl];rfl,by simp⟩
 have hse:See KSp (w.alloc (.cells #[.int .i64 0] 3)) vr R:=See.of_row (own_upd h.row hu (by simp))
 have hlt:=own_lt h.row
 have HS:=Lib.hid (searchC vr R x w.heap.size 0 _ hse hb hq (by decide) (fun _ hc=>by have:=hlt _ hc;omega) hsr)
 have HU:=Lib.hid hu
 obtain ⟨A,C,rfl⟩:=hse.form
 unfold BehindPost
 clear h c2 hbl hq hse hlt hu hsr
 go_enter Tryz.func146,Tryz.ntmps146
 go_upto_region 2 with fail
 generalize (w.alloc (.cells #[.int .i64 0] 3))=W at HS HU c2' ⊢
 go_wp2_with fail
 (with_reducible refine HS.out.mono ?_)
 rintro e w3 ⟨t,rfl,h3,h4,u3⟩
 have c3:=h3.cell
 rw [Nat.zero_add] at c3
 have HE:=Lib.hid (And.intro h4 u3)
 clear h3 h4 u3 c2'
 go_wp2_with fail
 go_quiet (fail)
 go_wp2_with fail
 go_ret2
 exact ⟨t,rfl,HE.out.1,(HU.out.trans' HE.out.2 (fun y hy=>.inr (by simp at hy;omega))).drewN _⟩
theorem ivlStabG {M:Nat} (hM:M≤1000000) (hso:SortOK M) {w:World} {b:Nat} {p vr:Value} {R:List Sp} {T:Kn} {Fk:List Nat} (h:IvlAt w b p vr R T Fk) (x:Int) (hsml:T.small) (hT:T.touch x<1000000) (hL:(T.stab x).length<M) :
 Calls Tryz.prog 63 #[.pointer (some ⟨b,0,none⟩),.int .i64 x] w (StabPost w (sortN (idsK (T.stab x))) (T.touch x)):=by
 have c0:=h.cells.1
 have HS:=Lib.hid (stabKC h x hsml hT (Nat.lt_of_lt_of_le hL hM))
 have hlen:(idsK (T.stab x)).length<M:=by rw [idsK_len];exact hL
 obtain ⟨L,hLL⟩:∃L,idsK (T.stab x)=L:=⟨_,rfl⟩
 rw [hLL] at HS hlen ⊢
 have HL:=Lib.hid hlen
 have HSU:=Lib.hid hso
 clear h hsml hT hL hLL hlen hso hM
 go_enter Tryz.func63,Tryz.ntmps63
 go_wp2_with fail
 (with_reducible refine HS.out.mono ?_)
 rintro e w1 ⟨A,C,rfl,r1,u1⟩
 have HSO:=Lib.hid (HSU.out w.heap.size _ L w1 r1 HL.out)
 have HU:=Lib.hid (And.intro r1 u1)
 clear r1 u1
 go_wp2_with fail
 (with_reducible refine HSO.out.mono ?_)
 rintro e w3 ⟨rfl,t1,t2⟩
 have HT:=Lib.hid (And.intro t1 t2)
 clear t1 t2
 go_wp2_with fail
 go_ret2
 refine ⟨A,C,?_,?_,HU.out.2.trans' HT.out.2 (fun y hy=>.inr (own_ge HU.out.1 y hy))⟩
 ·rw [sortN_len];rfl
 ·rw [sortN_len];exact HT.out.1
def meetL (S:List Sp) (lo hi:Int):List Nat:=if hi<lo then [] else sortN ((S.filter fun s=>decide (lo≤s.hi)&&decide (s.lo≤hi)).map Sp.id)
theorem meetL_len (S:List Sp) (lo hi:Int):(meetL S lo hi).length≤S.length:=by
 unfold meetL
 split
 ·simp
 ·rw [sortN_len,List.length_map]
  exact List.length_filter_le _ _
theorem meetL_perm {l m:List Sp} (h:l.Perm m) (lo hi:Int):meetL l lo hi=meetL m lo hi:=by
 unfold meetL
 split
 ·rfl
 ·exact sortN_congr ((h.filter _).map Sp.id)
theorem bhd_mono (R:List Sp) {x y:Int} (h:x≤y):bhd R x≤bhd R y:=by
 unfold bhd
 have:(R.filter fun s=>decide (s.lo≤x))=(R.filter fun s=>decide (s.lo≤y)).filter fun s=>decide (s.lo≤x):=by
  rw [List.filter_filter]
  refine List.filter_congr fun s _=>?_
  by_cases h1:s.lo≤x
  ·have h2:s.lo≤y:=by omega
   simp [h1,h2]
  ·simp [h1]
 rw [this]
 exact List.length_filter_le _ _
theorem bhd_take {R:List Sp} (h:R.Pairwise fun a b=>a.lo≤b.lo) (x:Int):R.take (bhd R x)=R.filter (fun s=>decide (s.lo≤x)):=by
 unfold bhd
 induction R with
 |nil=>rfl
 |cons a R ih=>
  rw [List.pairwise_cons] at h
  by_cases hx:a.lo≤x
  ·rw [List.filter_cons_of_pos (by simpa using hx),List.length_cons,List.take_succ_cons,ih h.2]
  ·have:R.filter (fun s=>decide (s.lo≤x)) = []:=by
    rw [List.filter_eq_nil_iff]
    intro s hs hc
    have:=h.1 s hs
    simp at hc
    omega
   rw [List.filter_cons_of_neg (by simpa using hx),this]
   rfl
theorem bhd_drop {R:List Sp} (h:R.Pairwise fun a b=>a.lo≤b.lo) (x:Int):R.drop (bhd R x)=R.filter (fun s=>decide (x<s.lo)):=by
 unfold bhd
 induction R with
 |nil=>rfl
 |cons a R ih=>
  rw [List.pairwise_cons] at h
  by_cases hx:a.lo≤x
  ·rw [List.filter_cons_of_pos (by simpa using hx),List.length_cons,List.drop_succ_cons,ih h.2,List.filter_cons_of_neg (by simpa using hx)]
  ·have h1:R.filter (fun s=>decide (s.lo≤x)) = []:=by
    rw [List.filter_eq_nil_iff]
    intro s hs hc
    have:=h.1 s hs
    simp at hc
    omega
   have h2:(a::R).filter (fun s=>decide (x<s.lo))=a::R:=by
    rw [List.filter_eq_self]
    intro s hs
    simp only [decide_eq_true_eq]
    rcases List.mem_cons.1 hs with rfl | hs
    ·omega
    ·have:=h.1 s hs;omega
   rw [List.filter_cons_of_neg (by simpa using hx),h1,h2]
   rfl
def partM (R:List Sp) (lo hi:Int):List Sp:=(R.drop (bhd R lo)).take (bhd R hi - bhd R lo)
theorem partM_eq {R:List Sp} (h:R.Pairwise fun a b=>a.lo≤b.lo) {lo hi:Int} (hl:lo≤hi):partM R lo hi=R.filter fun s=>decide (lo<s.lo)&&decide (s.lo≤hi):=by
 unfold partM
 rw [←List.drop_take,bhd_take h]
 have h2:bhd R lo=bhd (R.filter fun s=>decide (s.lo≤hi)) lo:=by
  unfold bhd
  rw [List.filter_filter]
  congr 1
  refine List.filter_congr fun s _=>?_
  by_cases h1:s.lo≤lo
  ·have h2:s.lo≤hi:=by omega
   simp [h1,h2]
  ·simp [h1]
 rw [h2,bhd_drop (h.filter _),List.filter_filter]
theorem partM_len (R:List Sp) (lo hi:Int):(partM R lo hi).length=bhd R hi - bhd R lo:=by
 unfold partM
 have:=bhd_le R hi
 rw [List.length_take,List.length_drop]
 omega
theorem meet_perm {R:List Sp} {T:Kn} {lo hi:Int} (ht:T.ok R) (hr:∀s∈R,s.lo≤s.hi) (h:R.Pairwise fun a b=>a.lo≤b.lo) (hl:lo≤hi) :
 (T.stab lo++partM R lo hi).Perm (R.filter fun s=>decide (lo≤s.hi)&&decide (s.lo≤hi)):=by
 rw [partM_eq h hl]
 have h1:=knStab_perm (x:=lo) ht hr
 refine (h1.append_right _).trans ?_
 have e1:(R.filter fun s=>stabBM s.lo s.hi lo)=(R.filter fun s=>decide (lo≤s.hi)&&decide (s.lo≤hi)).filter fun s=>decide (s.lo≤lo):=by
  rw [List.filter_filter]
  refine List.filter_congr fun s hs=>?_
  unfold stabBM
  by_cases c:s.lo≤lo
  ·have c2:s.lo≤hi:=by omega
   simp [c,c2]
  ·simp [c]
 have e2:(R.filter fun s=>decide (lo<s.lo)&&decide (s.lo≤hi))=(R.filter fun s=>decide (lo≤s.hi)&&decide (s.lo≤hi)).filter fun s=>!decide (s.lo≤lo):=by
  rw [List.filter_filter]
  refine List.filter_congr fun s hs=>?_
  by_cases c:s.lo≤lo
  ·have c2:¬lo<s.lo:=by omega
   simp [c,c2]
  ·have c2:lo<s.lo:=by omega
   have c3:lo≤s.hi:=by have:=hr s hs;omega
   simp [c2,c3,c]
 rw [e1,e2]
 exact List.filter_append_perm _ _
theorem ivlMeetOut {w:World} {b:Nat} {p vr:Value} {R:List Sp} {T:Kn} {Fk:List Nat} (h:IvlAt w b p vr R T Fk) (lo hi:Int) (hl:hi<lo) :
 Calls Tryz.prog 86 #[.pointer (some ⟨b,0,none⟩),.int .i64 lo,.int .i64 hi] w (StabPost w [] 0):=by
 have c0:=h.cells.1
 clear h
 go_enter Tryz.func86,Tryz.ntmps86
 go_wp2_with fail
 go_ret2
 exact ⟨none,0,rfl,World.ownsRow_nil _ _ _ _,Upd.refl _ _⟩
def MeetPost (w:World) (L:List Nat) (B:Nat) (e:Ending) (w':World):Prop:=∃t,StabPost w L t e w'∧L.length≤t∧t≤B+L.length
theorem ivlMeetIn {w:World} {b:Nat} {p vr:Value} {R:List Sp} {T:Kn} {Fk:List Nat} (h:IvlAt w b p vr R T Fk) (lo hi:Int) (hl:lo≤hi) (hsr:R.Pairwise fun a b=>a.lo≤b.lo) (hb:R.length≤1000) (hsml:T.small) (hd:T.depth<10000) (hL:(T.stab lo).length≤1000) :
 Calls Tryz.prog 86 #[.pointer (some ⟨b,0,none⟩),.int .i64 lo,.int .i64 hi] w (MeetPost w (sortN (idsK (T.stab lo++partM R lo hi))) (2*T.depth+2*(bitsN R.length+1))):=by
 obtain ⟨i0,hi0,hz0,hz1,hz2⟩:=info_parts infoU32S
 obtain ⟨i1,hi1,hy0,hy1,hy2⟩:=info_parts infoSpanD
 have c0:=h.cells.1
 have c2:=h.cells.2.2.1
 have htm:=touch_many lo T
 have hbn:bitsN R.length≤10:=bitsN_le R.length 10 (by omega)
 have HS:=Lib.hid (stabKC h lo hsml (by omega) (by omega))
 obtain ⟨tt,htt⟩:∃t,T.touch lo=t:=⟨_,rfl⟩
 obtain ⟨G,hG⟩:∃G,T.stab lo=G:=⟨_,rfl⟩
 rw [htt,hG] at HS htm
 rw [hG] at hL ⊢
 obtain ⟨N,hN⟩:∃N,R.length=N:=⟨_,rfl⟩
 obtain ⟨bl,hbl⟩:∃k,bhd R lo=k:=⟨_,rfl⟩
 obtain ⟨bh,hbh⟩:∃k,bhd R hi=k:=⟨_,rfl⟩
 have hm1:bl≤bh:=by rw [←hbl,←hbh];exact bhd_mono R hl
 have hm2:bh≤N:=by rw [←hbh,←hN];exact bhd_le R hi
 have hpm:=partM_len R lo hi
 rw [hbl,hbh] at hpm
 have H:=Lib.hid h
 have HF:=Lib.hid (And.intro htm (And.intro hbn (And.intro hN (And.intro hbl (And.intro hbh (And.intro hsr (And.intro hpm (And.intro hL hd))))))))
 have hgt:¬hi<lo:=by omega
 have n0:(0:Int)≤(bl:Int):=Int.natCast_nonneg _
 have n1:(bl:Int)≤(bh:Int):=by omega
 have n2:(bh:Int)≤(N:Int):=by omega
 have n3:(N:Int)≤1000:=by omega
 have t0:(0:Int)≤(tt:Int):=Int.natCast_nonneg _
 have t1:(tt:Int)≤100000:=by omega
 obtain ⟨A,C,rfl⟩:=own_form h.row
 clear h htm htt hG hN hbl hbh hpm hsr hl hb hsml hd hL
 go_enter Tryz.func86,Tryz.ntmps86
 go_wp2_with fail
 (with_reducible refine HS.out.mono ?_)
 rintro e w1 ⟨A1,C1,rfl,r1,u1⟩
 have hb1:=behindC (H.out.upd0 u1) lo (by have:=HF.out.2.2.1;omega) HF.out.2.2.2.2.2.1
 unfold BehindPost at hb1
 rw [HF.out.2.2.2.1] at hb1
 have HB1:=Lib.hid hb1
 have HU1:=Lib.hid (And.intro r1 u1)
 clear r1 u1 hb1 hgt
 go_wp2_with fail
 (with_reducible refine HB1.out.mono ?_)
 rintro e w2 ⟨ta,rfl,ha,u2⟩
 have hu2:=HU1.out.2.trans u2
 have hb2:=behindC (H.out.upd0 hu2) hi (by have:=HF.out.2.2.1;omega) HF.out.2.2.2.2.2.1
 unfold BehindPost at hb2
 rw [HF.out.2.2.2.2.1] at hb2
 have HB2:=Lib.hid hb2
 have HU2:=Lib.hid (And.intro u2 hu2)
 have ta0:(0:Int)≤(ta:Int):=Int.natCast_nonneg _
 have ta1:(ta:Int)≤11:=by have:=HF.out.2.1;omega
 have HA:=Lib.hid ha
 clear u2 hu2 hb2 ha
 go_wp2_with fail
 (with_reducible refine HB2.out.mono ?_)
 rintro e w3 ⟨tb,rfl,hb,u3⟩
 have tb0:(0:Int)≤(tb:Int):=Int.natCast_nonneg _
 have tb1:(tb:Int)≤11:=by have:=HF.out.2.1;omega
 have HB:=Lib.hid hb
 have hu3:=HU2.out.2.trans u3
 have hr3:=own_upd HU1.out.1 (HU2.out.1.trans u3) (by simp)
 have hH3:=H.out.upd0 hu3
 have c23:=hH3.cells.2.2.1
 have hse3:Sees w3 3 (.slice A R.length C) R.length (KSp.all R):=sees_of_own hH3.row
 obtain ⟨X,Y,cut,see,-⟩:=cut_mid (P:=Tryz.prog) (t:=56) Tryz.underlying56 hi1 hy1 hse3 bl bh hm1 (by have:=HF.out.2.2.1;omega)
 have cut':∀w',(Instr.slice 56 (.slice A R.length C) (some (.int .i64 (bl:Int))) (some (.int .i64 (bh:Int))) none).run Tryz.prog w'=.ok (.slice X (bh - bl) Y) w':=cut
 obtain ⟨d,hd⟩:∃d,bh - bl=d:=⟨_,rfl⟩
 obtain ⟨P,hP⟩:∃P,partM R lo hi=P:=⟨_,rfl⟩
 have hsee:∀w',Upd [] w w'→See KSp w' (.slice X d Y) P:=fun w' hu=>by
  have h1:=see w' (sees_of_own (H.out.upd0 hu).row)
  rw [hd] at h1
  have h2:P.length=d:=by rw [←hP,HF.out.2.2.2.2.2.2.1,hd]
  unfold See
  rw [h2,←hP]
  unfold partM
  rw [HF.out.2.2.2.1,HF.out.2.2.2.2.1,hd,Kind.all_take,Kind.all_drop]
  exact h1
 rw [hd] at cut'
 have HSEE:=Lib.hid hsee
 have HP:=Lib.hid (And.intro hP (And.intro hd (show P.length=d by rw [←hP,HF.out.2.2.2.2.2.2.1,hd])))
 have HR3:=Lib.hid (And.intro hr3 hu3)
 have hdN:d≤1000:=by omega
 clear hb u3 hu3 hr3 hH3 hse3 cut see hsee hP hd
 go_wp2_with fail
 clear cut' c23
 go_loopg [8,56] d (fun m s8 s56 wr=>∃(k:Nat) (vo:Value),m+k=d∧s8=vo∧s56=.int .i64 (k:Int)∧KU.row wr w.heap.size vo (idsK (G++P.take k))∧Upd [] w wr)
 case atStart=>exact ⟨0,_,rfl,rfl,rfl,by rw [List.take_zero,List.append_nil];exact HR3.out.1,HR3.out.2⟩
 case round=>
  obtain ⟨k,vo,hk,rfl,rfl,hro,hup⟩:=hrel
  have k0:(0:Int)≤(k:Int):=Int.natCast_nonneg _
  have hkd:k≤d:=by omega
  by_cases hlt:k<d
  ·obtain ⟨s,hs⟩:∃s,P[k]? = some s:=⟨_,List.getElem?_eq_getElem (by rw [HP.out.2.2];exact hlt)⟩
   obtain ⟨g,og,hX,-,-,ey⟩:=(HSEE.out wr hup).at hs
   subst hX
   have y0:wr.cell? ⟨g,og+k*3,none⟩=some (.int .i64 s.lo):=ey 0 _ rfl
   have y1:wr.cell? ⟨g,og+k*3+1,none⟩=some (.int .i64 s.hi):=ey 1 _ rfl
   have y2:wr.cell? ⟨g,og+k*3+2,none⟩=some (.int .u32 (s.id:Int)):=ey 2 _ rfl
   have b1:(k:Int)<(d:Int):=by omega
   have hlen:(idsK (G++P.take k)).length+1≤1000000:=by
    rw [idsK_len,List.length_append,List.length_take]
    have:=HF.out.2.2.2.2.2.2.2.1
    omega
   have htk:idsK (G++P.take (k+1))=idsK (G++P.take k)++[s.id]:=by
    obtain ⟨g1,g2⟩:=List.getElem?_eq_some_iff.1 hs
    rw [List.take_succ_eq_append_getElem g1,g2,←List.append_assoc,idsK_app (G++P.take k) [s]]
    rfl
   have HK:=Lib.hid (And.intro hk (And.intro hlen (And.intro htk (And.intro hro hup))))
   clear hs ey hlen htk hro hup hk
   obtain ⟨wl,hwl⟩:∃wl:World,wl=wr:=⟨_,rfl⟩
   subst hwl
   go_upto_region 9 with fail
   have hu2:Upd [] wl (wl.alloc (.cells #[.int .i64 s.lo,.int .i64 s.hi,.int .u32 (s.id:Int)] 62)):=(Upd.refl _ _).alloc _
   have d2:(wl.alloc (.cells #[.int .i64 s.lo,.int .i64 s.hi,.int .u32 (s.id:Int)] 62)).cell? ⟨wl.heap.size,2,none⟩=some (.int .u32 (s.id:Int)):=by rw [World.cell?_alloc_at _ _ _ _ rfl];rfl
   generalize (wl.alloc (.cells #[.int .i64 s.lo,.int .i64 s.hi,.int .u32 (s.id:Int)] 62))=W2 at hu2 d2 ⊢
   have HU4:=Lib.hid (And.intro (own_upd HK.out.2.2.2.1 hu2 (by simp)) (HK.out.2.2.2.2.trans hu2))
   have HZ:=Lib.hid HU4.out.2.size
   clear hu2 y0 y1 y2
   (go_wp2_with (at_builtin;refine wpList_app _ rfl _ _ 35 rfl w.heap.size 26 i0 (.int .u32 0) 1 4 Tryz.underlying35 hi0 hz0 hz1 hz2 rfl (by decide) _ _ _ rfl (own_upd HU4.out.1 ((Upd.refl [] W2).alloc _) (by simp)) _ 1 [.int .u32 (s.id:Int)] rfl (sees_lit W2 #[.int .u32 (s.id:Int)] 26 1 1 rfl (by decide)) (by simp [Value.oneCell']) (by have:=HK.out.2.1;unfold maxLen;omega) (by have:=HK.out.2.1;omega) (by have:=HZ.out;simp;omega) ?_))
   intro A4 C4 w4 HPP
   have hr4:KU.row w4 w.heap.size (.slice A4 ((idsK (G++P.take k)).length+1) C4) (idsK (G++P.take (k+1))):=by
    rw [HK.out.2.2.1]
    unfold Kind.row
    rw [List.length_append,KU.all_app]
    exact HPP.own
   have hu4:=(HU4.out.2.alloc (.cells #[.int .u32 (s.id:Int)] 26)).trans' HPP.upd (fun y hy=>.inr (own_ge HU4.out.1 y hy))
   have HE:=Lib.hid (And.intro hr4 hu4)
   clear hr4 hu4 HPP d2
   go_wp2_with fail
   go_roundg (d - (k+1))
   case measure=>have:=HK.out.1;omega
   case rel=>exact ⟨k+1,_,by have:=HK.out.1;omega,rfl,by go_num,HE.out.1,HE.out.2⟩
  ·have hkd2:k=d:=by omega
   have hLL:P.take k=P:=by rw [hkd2,←HP.out.2.2];exact List.take_length
   rw [hLL] at hro
   have hlen:(idsK (G++P)).length=G.length+d:=by rw [idsK_len,List.length_append,HP.out.2.2]
   have hG:=HF.out.2.2.2.2.2.2.2.1
   obtain ⟨A5,C5,rfl⟩:=own_form hro
   have HSO:=Lib.hid (sortU w.heap.size _ (idsK (G++P)) wr hro (by omega))
   have HK:=Lib.hid (And.intro hro (And.intro hup hlen))
   clear hLL hkd2 hro hup hk hlen hG
   go_wp2_with fail
   (with_reducible refine HSO.out.mono ?_)
   rintro e w6 ⟨rfl,t6,u6⟩
   have HT:=Lib.hid (And.intro t6 u6)
   clear t6 u6
   go_wp2_with fail
   go_ret2
   obtain ⟨f1,f2,f3,f4,f5,f6,f7,f8,f9⟩:=HF.out
   have hA:=HA.out
   have hB:=HB.out
   have hd:=HP.out.2.1
   have e9:((tt+ta+tb+(bh - bl):Nat):Int)=(tt:Int)+(ta:Int)+(tb:Int)+(bh:Int) - (bl:Int):=by omega
   refine ⟨tt+ta+tb+(bh - bl),⟨A5,C5,?_,?_,HK.out.2.1.trans' HT.out.2 (fun y hy=>.inr (own_ge HK.out.1 y hy))⟩,?_,?_⟩
   ·rw [HP.out.1,sortN_len,e9];rfl
   ·rw [HP.out.1,sortN_len];exact HT.out.1
   ·rw [HP.out.1,sortN_len,HK.out.2.2];omega
   ·rw [HP.out.1,sortN_len,HK.out.2.2,f3];rw [f3] at hA hB;omega
end Go.Proofs.YtkbaaonchdeneaaGreat
