/- rank.Squeeze: what came, in order, each once. area.turns: where boxes begin and end, from left -/
import Derived.Lib.OwnBridge
import Derived.Sort.OwnSortedInts
import Derived.Test.YtkbaaonchdeneaaGreatPc6
import Derived.Test.YtkbaaonchdeneaaGreatPc14
set_option maxHeartbeats 8000000
set_option maxRecDepth 100000
namespace Go.Proofs.YtkbaaonchdeneaaGreat
open Go.RowKit
def Fq (l:List Int):List Int:=Lib.compact (l.mergeSort λx y=>decide (x<=y))
theorem yO (l:List Int):(l.mergeSort λx y=>decide (x<=y)).Pairwise (·<=·):=by
 have:=List.pairwise_mergeSort (le:=λ(x y:Int)=>decide (x<=y)) (by intro a b c h1 h2;simp at *;omega) (by intro a b;simp;omega) l;exact this.imp (by intro a b h;simpa using h)
theorem Ym (l:List Int) (x:Int):x∈(l.mergeSort λx y=>decide (x<=y))↔x∈l:=(List.mergeSort_perm l _).mem_iff
theorem Xd {l:List Int} {x:Int} (h:x∈Fq l):x∈l:=by
 unfold Fq Lib.compact Lib.compactUpTo at h;simp only [List.mem_map,List.mem_filter,List.mem_range] at h;obtain ⟨j,⟨hj,_⟩,rfl⟩:=h;rw [<-Ym,List.getElem!_toArray,getElem!_pos _ j hj];exact List.getElem_mem hj
theorem MZ {l:List Int} {x:Int} (h:x∈l):x∈Fq l:=by
 rw [<-Ym] at h;unfold Fq Lib.compact Lib.compactUpTo;obtain ⟨s,hss⟩:∃s,(l.mergeSort λx y=>decide (x<=y))=s:=⟨_,rfl⟩;rw [hss] at h |-;obtain ⟨j0,hj0,hx0⟩:=List.getElem_of_mem h
 have key:∀j,j<s.length->s[j]! = x->∃i,i<s.length/\s[i]! = x/\Lib.keeps s.toArray i=true:=by
  intro j;induction j with
  |zero=>intro h1 h2;exact ⟨0,h1,h2,Lib.keeps_lt_one _ 0 (by omega)⟩
  |succ j ih=>
   intro h1 h2;by_cases he:s[j]! = x
   ·exact ih (by omega) he
   ·exact ⟨j+1,h1,h2,Lib.keeps_pos (by simp only [List.getElem!_toArray,Nat.add_sub_cancel];rw [h2];exact λe=>he e.symm)⟩
 obtain ⟨i,h1,h2,h3⟩:=key j0 hj0 (by rw [getElem!_pos _ j0 hj0];exact hx0);rw [List.mem_map];exact ⟨i,by rw [List.mem_filter,List.mem_range];exact ⟨h1,h3⟩,by rw [List.getElem!_toArray];exact h2⟩
theorem TI (l:List Int):(Fq l).Pairwise (· < ·):=by
 have hs:=yO l;unfold Fq Lib.compact Lib.compactUpTo;obtain ⟨s,hss⟩:∃s,(l.mergeSort λx y=>decide (x<=y))=s:=⟨_,rfl⟩;rw [hss] at hs |-;rw [List.pairwise_map];refine ((List.pairwise_lt_range (n:=s.length)).filter _).imp_of_mem ?_
 intro a b ha hb hab;simp only [List.mem_filter,List.mem_range] at ha hb;obtain ⟨ha1,_⟩:=ha;obtain ⟨hb1,hb2⟩:=hb;unfold Lib.keeps at hb2;simp only [List.getElem!_toArray] at hb2 |-
 have hle:∀i j,i<j->j<s.length->s[i]!<=s[j]!:=by
  intro i j hij hj;have:=List.pairwise_iff_getElem.1 hs i j (by omega) hj hij;rw [getElem!_pos s i (by omega),getElem!_pos s j hj];exact this
 have hne:s[b]!≠s[b - 1]!:=by
  intro e;simp [e] at hb2;omega
 rcases Nat.lt_or_ge a (b - 1) with h1 | h1
 ·have h2:=hle a (b - 1) h1 (by omega);have h3:=hle (b - 1) b (by omega) hb1;omega
 ·have:a=b - 1:=by omega
  rw [this];have h3:=hle (b - 1) b (by omega) hb1;omega
theorem OU (l:List Int):(Fq l).length<=l.length:=by
 have h:=Lib.compact_length_le (l.mergeSort λx y=>decide (x<=y));rw [List.length_mergeSort] at h;exact h
theorem fG:Fq [] = []:=by
 have:=OU [];exact List.length_eq_zero_iff.1 (by simpa using this)
def fH (w:World) (l:List Int) (e:Ending) (w':World):Prop:=
 ∃A C,e=.returned (.slice A (Fq l).length C)/\KL.row w' w.heap.size (.slice A (Fq l).length C) (Fq l)/\Bj [] w w'
theorem TJ (v:Value) (l:List Int) (w:World) (hs:See KL w v l) (hl:l.length*8<=140737488355328) :
 Calls Tryz.prog 150 #[v] w (fH w l):=by
 obtain ⟨Av,Cv,rfl⟩:=hs.form;have hcl:=DL _ l.length (KL.all l) w hs (KL.DU l) (by omega);have yP:=AX hcl;have HL:=AX hl;clear hcl hs hl;go_enter Tryz.func150,Tryz.ntmps150
 go_wp2_with fail
 go_fit yP.out
 rintro e w1 ⟨A,C,rfl,hown,hbel⟩;rw [o7] at hown;rcases Nat.eq_zero_or_pos l.length with h0 | h0
 ·have hl0:l = []:=List.length_eq_zero_iff.1 h0;subst hl0;simp only [List.length_nil] at hown |-;have HO:=AX hown;have HB:=AX hbel;clear hown hbel h0;go_wp2_with fail
  refine (Tryz.slices_Sort_none A C w1).mono ?_
  rintro e w' ⟨rfl,rfl⟩;go_wp2_with fail
  refine (Tryz.slices_Compact_int_empty A C w').mono ?_
  rintro e w'' ⟨rfl,rfl⟩;go_wp2_with fail
  go_ret
  refine ⟨A,C,?_,?_,Bj.of_below HB.out⟩
  ·rw [fG];rfl
  ·rw [fG];exact HO.out
 ·have hne:(.slice A l.length C:Value)≠.slice none 0 0:=by
   intro e;injection e with _ e2;omega
  obtain ⟨g,cap,hv,hg,hgw,hn,hm,-,hH⟩:=Lib.holds_of_ownsRow hown hne;injection hv with hv1 _ hv3;subst hv1;subst hv3;have hso:=Tryz.slices_Sort g 0 C l w1 hH hgw (Ac HL)
  have hbk:∃cur,w1.heap[g]? = some (.cells cur 2 (0,0))/\cur.size=C*1:=by
   rcases hown.2 with ⟨e0,_⟩ | ⟨g',cap',cur,e0,hb,hgg,hnn,hmm,hsz,ht⟩
   ·exact absurd e0 hne
   ·injection e0 with e1 _ e3;injection e1 with e1;injection e1 with e1;subst e1;subst e3;exact ⟨cur,hgg,hsz⟩
  obtain ⟨cur,hcur,hcs⟩:=hbk;have hlen:(l.mergeSort λx y=>decide (x<=y)).length=l.length:=List.length_mergeSort _;have nR:=AX hso;have HF:=AB hcur hcs hg hn hm hgw hlen;have HB:=AX hbel;clear hso hcur hcs hH hown hbel hg hn hm hgw hlen hne;go_wp2_with fail
  go_fit nR.out
  rintro e w2 ⟨rfl,nd,os,rfl⟩;obtain ⟨h1,h2,h3,h4,h5,h6,h7⟩:=HF.out;have hown2:=ownsRow_sortedI (os:=os) (n:=nd) h7 h3 h1 h4 h5 h2;have hgr:=grownBy_sortedI (w:=w1) (g:=g) (n:=nd) (os:=os) (l.mergeSort λx y=>decide (x<=y)).toArray;have hb2:=HB.out.grown hgr (HB.out.size) (by intro k hk;cases hk;exact h3);obtain ⟨w2,hw2⟩:∃w2,Sort.grow (Sort.putRow (Value.int .i64) (Sort.ahead w1 nd) g 0 (l.mergeSort λx y=>decide (x<=y)).toArray) os=w2:=⟨_,rfl⟩;rw [hw2] at hown2 hb2 |-;obtain ⟨s,hs⟩:∃s,(l.mergeSort λx y=>decide (x<=y))=s:=⟨_,rfl⟩;rw [hs] at hown2 h7;rw [<-h7] at hown2;have hne:(.slice (some ⟨g,0,none⟩) s.length C:Value)≠.slice none 0 0:=by intro e;injection e with e1;cases e1
  obtain ⟨g',cap',hv,-,-,-,-,-,hH⟩:=Lib.holds_of_ownsRow hown2 hne;injection hv with hv1 _ hv3;injection hv1 with hv1;injection hv1 with hv1;subst hv1;subst hv3;have hco:=Tryz.slices_Compact_int g 0 C s w2 hH (Ac HL) (by omega);rw [h7] at hco;have hk:(Lib.compact s).length<=s.length:=Lib.compact_length_le s;have ZX:=AX hco;have HO2:=AX hown2;have HB2:=AX hb2;have HS:=AX hs;have H7:=Aq h7 hk h3;clear hco hown2 hb2 hs h1 h2 h3 h4 h5 h6 h7 hgr hw2 hH hne hk;go_wp2_with fail
  go_fit ZX.out
  rintro e w3 ⟨rfl,q,rfl⟩;have hrow:=Lib.ownsRow_putRow (q:=q) (ys:=Lib.compact s++List.replicate (l.length - (Lib.compact s).length) 0) HO2.out (by have:=H7.out;simp;omega) H7.2.1;rw [List.take_left] at hrow;have hb3:=Lib.below_putRow (enc:=Value.int .i64) (q:=q) (d:=(Lib.compact s++List.replicate (l.length - (Lib.compact s).length) 0).toArray) HB2.out H7.2.2;have KZ:=AX hrow;have HB3:=AX hb3;clear hrow hb3;go_wp2_with fail
  go_ret
  have e0:Fq l=Lib.compact s:=by unfold Fq;rw [HS.out]
  refine ⟨some ⟨g,0,none⟩,C,?_,?_,Bj.of_below HB3.out⟩
  ·rw [e0];rfl
  ·rw [e0];unfold Kind.row;rw [o7];exact KZ.out
structure Tn where
 x:Int
 b:Bx
 g:Bool
deriving DecidableEq
def KT:Kind Tn:={ T:=0,sT:=132,eT:=139,sz:=7,enc:=λt=>[t.x,t.b.x1,t.b.x2,t.b.y1,t.b.y2,.int .u32 (t.b.id:Int),.bool t.g],len:=λ_=>rfl,one:=λx u hu=>by simp at hu;rcases hu with rfl | rfl | rfl | rfl | rfl | rfl | rfl<;>rfl }
def BL (l:List Bx):List Tn:=(l.filter Bx.counts).flatMap λb=>[⟨b.x1,b,false⟩,⟨b.x2,b,true⟩]
def keysT (T:List Tn):List (Int×Nat):=T.map λt=>(t.x,0)
theorem TK (l:List Bx) {k:Nat} {b:Bx} (hb:l[k]? = some b):BL (l.take (k+1))=BL (l.take k)++(if b.counts=true then [⟨b.x1,b,false⟩,⟨b.x2,b,true⟩] else []):=by
 unfold BL;rw [List.take_add_one,hb];by_cases h:b.counts=true<;>simp [List.filter_append,h]
theorem VI (l:List Bx) {k:Nat} {b:Bx} (hb:l[k]? = some b):BX (l.take (k+1))=BX (l.take k)++(if b.counts=true then [b.y1,b.y2] else []):=by
 unfold BX;rw [List.take_add_one,hb];by_cases h:b.counts=true<;>simp [List.filter_append,h]
theorem EG (l:List Bx):(BL l).length<=2*l.length/\(BX l).length=(BL l).length:=by
 unfold BL BX;induction l with
 |nil=>simp
 |cons b l ih=>
  rw [List.filter_cons];split
  ·simp only [List.flatMap_cons,Bc,List.length_cons,List.length_nil] at *;omega
  ·simp only [List.length_cons];omega
structure Tri (B:Nat) (w:World) (tv:Value) (T:List Tn) (kv:Value) (mv:Value) (M:List Int):Prop where
 rt:KT.row w B tv T
 rk:KK.row w B kv (keysT T)
 rm:KL.row w B mv M
 tk:∀k∈blk tv,k∉blk kv
 tm:∀k∈blk tv,k∉blk mv
 km:∀k∈blk kv,k∉blk mv
theorem FY (T:List Tn):(keysT T).length=T.length:=by simp [keysT]
theorem Tri.BF {B:Nat} {w w':World} {tv kv mv:Value} {T:List Tn} {M:List Int} (h:Tri B w tv T kv mv M) (hu:Bj [] w w'):Tri B w' tv T kv mv M:=
 ⟨Bl h.rt hu (by simp),Bl h.rk hu (by simp),Bl h.rm hu (by simp),h.tk,h.tm,h.km⟩
theorem Hq {w w':World} {base:Nat} {e:TypeId} {size:Nat} {v:Value} {n:Nat} {xs:List Value} {m:Nat} {news:List Value} {A:Option Addr} {C:Nat} (HP:DK w w' base e size v n xs m news A C) {u:Value} (hu:∀k∈blk u,k<w.heap.size) (h:∀k∈blk v,k∉blk u) :
 ∀k∈blk (.slice A (n+m) C),k∉blk u:=by
 intro k hk hc;rcases HP.at with h1 | h1
 ·rw [h1] at hk;exact h k hk hc
 ·rw [h1] at hk;have:=hu k hc;simp at hk;omega
theorem jO:(Tryz.prog.info? 139).map (λi=>(i.zero,i.size,i.bytes))=some (some (.agg #[.int .i64 0,.int .i64 0,.int .i64 0,.int .i64 0,.int .i64 0,.int .u32 0,.bool false]),7,56):=by kernel_rfl
theorem Yn:(Tryz.prog.info? 218).map (λi=>(i.zero,i.size,i.bytes))=some (some (.agg #[.int .i64 0,.int .u32 0]),2,16):=by kernel_rfl
theorem QM:(Tryz.prog.info? 2).map (λi=>(i.zero,i.size,i.bytes))=some (some (.int .i64 0),1,8):=by kernel_rfl
def Qe (w:World) (l:List Bx) (e:Ending) (w':World):Prop:=
 ∃A C A' C' T,e=.returned (.tuple #[.slice A (BL l).length C,.slice A' (Fq (BX l)).length C'])/\See KT w' (.slice A (BL l).length C) T/\T.Perm (BL l)/\T.Pairwise (λs t=>s.x<=t.x)/\See KL w' (.slice A' (Fq (BX l)).length C') (Fq (BX l))/\Bj [] w w'
theorem OV {T:List Tn} {M:List Nat} (hp:M.Perm (List.range (keysT T).length)) (hs:M.Pairwise (λi j=>Vg (keysT T) i j=true)) (d:Tn) :
 (M.map λi=>T[i]?.getD d).Perm T/\(M.map λi=>T[i]?.getD d).Pairwise (λs t=>s.x<=t.x):=by
 have hr:((List.range (keysT T).length).map λi=>T[i]?.getD d)=T:=by
  refine List.ext_getElem? λi=>?_
  rw [List.getElem?_map];by_cases hi:i<T.length
  ·rw [List.getElem?_range (by rw [FY];exact hi),Ba hi];simp [hi]
  ·rw [List.getElem?_eq_none (by rw [List.length_range,FY];omega),List.getElem?_eq_none (by omega)];rfl
 refine ⟨?_,?_⟩
 ·have:=hp.map λi=>T[i]?.getD d
  rw [hr] at this;exact this
 ·rw [List.pairwise_map];refine hs.imp_of_mem λ{i j} hi hj h=>?_
  have hi':=List.mem_range.1 (hp.mem_iff.1 hi);have hj':=List.mem_range.1 (hp.mem_iff.1 hj);rw [FY] at hi' hj';unfold Vg at h
  have h2:¬ahead (kf (keysT T) j) (kf (keysT T) i)=true:=by
   intro hc;rw [hc] at h;simp at h
  rw [Qd] at h2;have ei:kf (keysT T) i=(T[i].x,0):=by unfold kf keysT;simp [hi']
  have ej:kf (keysT T) j=(T[j].x,0):=by unfold kf keysT;simp [hj']
  rw [ei,ej] at h2;simp only [Ba hi',Ba hj',Option.getD_some];omega
theorem KT.at {w:World} {A:Option Addr} {n C:Nat} {l:List Tn} (h:See KT w (.slice A n C) l) {k:Nat} {t:Tn} (hx:l[k]? = some t) :
 ∃b o,A=some ⟨b,o,none⟩/\w.cell? ⟨b,o+k*7,none⟩=some (.int .i64 t.x)/\w.cell? ⟨b,o+k*7+1,none⟩=some (.int .i64 t.b.x1)/\w.cell? ⟨b,o+k*7+2,none⟩=some (.int .i64 t.b.x2)/\w.cell? ⟨b,o+k*7+3,none⟩=some (.int .i64 t.b.y1)/\w.cell? ⟨b,o+k*7+4,none⟩=some (.int .i64 t.b.y2)/\w.cell? ⟨b,o+k*7+5,none⟩=some (.int .u32 (t.b.id:Int))/\w.cell? ⟨b,o+k*7+6,none⟩=some (.bool t.g):=by
 obtain ⟨b,o,h1,h2,h3,h4⟩:=h.at hx;exact ⟨b,o,h1,h4 0 _ rfl,h4 1 _ rfl,h4 2 _ rfl,h4 3 _ rfl,h4 4 _ rfl,h4 5 _ rfl,h4 6 _ rfl⟩
theorem a1G (v:Value) (l:List Bx) (w:World) (hs:See LP w v l) (hl:l.length<400000) :
 Calls Tryz.prog 92 #[v] w (Qe w l):=by
 obtain ⟨iT,hiT,hT0,hT1,hT2⟩:=info_parts jO;obtain ⟨iK,hiK,hK0,hK1,hK2⟩:=info_parts Yn;obtain ⟨iM,hiM,hM0,hM1,hM2⟩:=info_parts QM;obtain ⟨A,C,rfl⟩:=hs.form;unfold Qe;obtain ⟨B,hB⟩:=AU w.heap.size;have HS:=AX hs;have HL:=AX hl;have Jj:=AX hB;have hll:(l.length:Int)<400000:=by omega
 clear hs hl hB;go_enter Tryz.func92,Tryz.ntmps92
 go_wp2_with fail
 go_loopg [4,5,6,17] l.length (λm s4 s5 s6 s17 wr=>∃k At Ct Ak Ck Am Cm,m+k=l.length/\s4=.slice At (BL (l.take k)).length Ct/\s5=.slice Ak (keysT (BL (l.take k))).length Ck/\s6=.slice Am (BX (l.take k)).length Cm/\s17=.int .i64 (k:Int)/\
  Tri B wr (.slice At (BL (l.take k)).length Ct) (BL (l.take k)) (.slice Ak (keysT (BL (l.take k))).length Ck) (.slice Am (BX (l.take k)).length Cm) (BX (l.take k))/\Bj [] w wr)
 case atStart=>exact ⟨0,none,0,none,0,none,0,rfl,rfl,rfl,rfl,rfl,⟨World.ownsRow_nil _ _ _ _,World.ownsRow_nil _ _ _ _,World.ownsRow_nil _ _ _ _,by simp [blk],by simp [blk],by simp [blk]⟩,Bj.refl _ _⟩
 case round=>
  obtain ⟨k,At,Ct,Ak,Ck,Am,Cm,hk,rfl,rfl,rfl,rfl,ht,hu⟩:=hrel;have b0:(0:Int)<=(k:Int):=AY _;by_cases hlt:k<l.length
  ·obtain ⟨b,hb⟩:∃b,l[k]? = some b:=⟨_,Ba hlt⟩;obtain ⟨bl,ol,hA,-,-,l0,l1,l2,l3,l4⟩:=LP.at (HS.out.BF hu) hb;subst hA;have htt:=TK l hb;have hty:=VI l hb;have hlen:=EG (l.take k);have htl:(l.take k).length<=l.length:=by rw [Bf];omega
   obtain ⟨T,hT⟩:=AU (BL (l.take k));obtain ⟨M,hM⟩:=AU (BX (l.take k));rw [hT] at htt ht hlen |-;rw [hM] at hty ht hlen |-;obtain ⟨x1,x2,y1,y2,bi⟩:=b;dsimp only at l0 l1 l2 l3 l4 htt hty;have hkl:(keysT T).length=T.length:=FY T;have b1:(k:Int)<(l.length:Int):=by omega
   have HT:=AX ht;have U5:=AX htt;have fF:=AX hty;have PU:=AX (show T.length<900000/\M.length<900000/\(keysT T).length<900000 by have:=HL.out;omega);have HU:=AX hu;have HK:=AX hk;have JO:=AX hlt;have FI:Bj [] wr (wr.alloc (.cells #[x1,x2,y1,y2,.int .u32 (bi:Int)] 28)):=(Bj.refl _ _).alloc _;have hbx:(wr.alloc (.cells #[x1,x2,y1,y2,.int .u32 (bi:Int)] 28)).heap[wr.heap.size]? = some (.cells #[x1,x2,y1,y2,.int .u32 (bi:Int)] 28 (0,0)):=heap_alloc_new _ _;have Hr:=AX FI;have G7:=AX hbx;clear ht htt hty hlen htl hu hk hlt hT hM hkl FI hbx hb;by_cases hx:x2<=x1
   ·have g1:decide (x2<=x1)=true:=decide_eq_true hx;have hcnt:(⟨x1,x2,y1,y2,bi⟩:Bx).counts=false:=by unfold Bx.counts;simp;omega
    rw [hcnt] at U5 fF;clear hx hcnt;go_wp2_with fail
    go_roundg (l.length - (k+1))
    case measure=>have:=HK.out;have:=JO.out;omega
    case rel=>
     refine ⟨k+1,At,Ct,Ak,Ck,Am,Cm,Ad HK JO,?_,?_,?_,by go_num,?_,HU.out.trans Hr.out⟩<;>((try rw [U5.out]);(try rw [fF.out]))
     ·simp
     ·simp
     ·simp
     ·simpa using HT.out.BF Hr.out
   have g1:decide (x2<=x1)=false:=decide_eq_false hx;by_cases hy:y2<=y1
   ·have g2:decide (y2<=y1)=true:=decide_eq_true hy;have hcnt:(⟨x1,x2,y1,y2,bi⟩:Bx).counts=false:=by unfold Bx.counts;simp;omega
    rw [hcnt] at U5 fF;clear hx hy hcnt;go_wp2_with fail
    go_roundg (l.length - (k+1))
    case measure=>have:=HK.out;have:=JO.out;omega
    case rel=>
     refine ⟨k+1,At,Ct,Ak,Ck,Am,Cm,Ad HK JO,?_,?_,?_,by go_num,?_,HU.out.trans Hr.out⟩<;>((try rw [U5.out]);(try rw [fF.out]))
     ·simp
     ·simp
     ·simp
     ·simpa using HT.out.BF Hr.out
   have g2:decide (y2<=y1)=false:=decide_eq_false hy;have hcnt:(⟨x1,x2,y1,y2,bi⟩:Bx).counts=true:=by unfold Bx.counts;simp;omega
   rw [hcnt,if_pos rfl] at U5 fF;clear hx hy hcnt;go_upto_region 8 with fail
   have Nw:=AX (HT.out.BF Hr.out);have ZY:=AX (show (∀j∈blk (.slice At T.length Ct),j<wr.heap.size)/\(∀j∈blk (.slice Ak (keysT T).length Ck),j<wr.heap.size) from ⟨BJ HT.out.rt,BJ HT.out.rk⟩);have fJ:=AX (HU.out.trans Hr.out);generalize (wr.alloc (.cells #[x1,x2,y1,y2,.int .u32 (bi:Int)] 28))=Wb at G7 Nw fJ Hr |-;generalize wr.heap.size=q at G7 ZY |-;have c0:Wb.cell? q=some (.int .i64 x1):=by have:=G7.out;simp [World.cell?,this]
   have c1:Wb.cell? ⟨q,1,none⟩=some (.int .i64 x2):=by have:=G7.out;simp [World.cell?,this]
   have c2:Wb.cell? ⟨q,2,none⟩=some (.int .i64 y1):=by have:=G7.out;simp [World.cell?,this]
   have c3:Wb.cell? ⟨q,3,none⟩=some (.int .i64 y2):=by have:=G7.out;simp [World.cell?,this]
   have c4:Wb.cell? ⟨q,4,none⟩=some (.int .u32 (bi:Int)):=by have:=G7.out;simp [World.cell?,this]
   have HBw:=AX (show B<=Wb.heap.size by have:=fJ.out.size;rw [Jj.out] at this;exact this);go_wp2_with (at_builtin;refine BM _ rfl _ _ 132 rfl B 139 iT (.agg #[.int .i64 0,.int .i64 0,.int .i64 0,.int .i64 0,.int .i64 0,.int .u32 0,.bool false]) 7 56 Tryz.underlying132 hiT hT0 hT1 hT2 rfl (by decide) _ _ _ rfl (Bl Nw.out.rt ((Bj.refl [] _).alloc _) (by simp)) _ 2 [x1,x1,x2,y1,y2,.int .u32 (bi:Int),.bool false,x2,x1,x2,y1,y2,.int .u32 (bi:Int),.bool true] rfl (BK Wb #[x1,x1,x2,y1,y2,.int .u32 (bi:Int),.bool false,x2,x1,x2,y1,y2,.int .u32 (bi:Int),.bool true] 139 7 2 rfl (by decide)) (by simp [Value.oneCell']) (by have:=PU.1;unfold maxLen;omega) (Ac PU.1) (by have:=HBw.out;simp;omega) ?_)
   intro A6 C6 w6 HP;have u6:Bj (blk (.slice At T.length Ct)) Wb w6:=((Bj.refl _ _).alloc _).trans HP.upd
   have r6:KT.row w6 B (.slice A6 (T.length+2) C6) (T++[⟨x1,⟨x1,x2,y1,y2,bi⟩,false⟩,⟨x2,⟨x1,x2,y1,y2,bi⟩,true⟩]):=by
    have:=HP.own;unfold Kind.row;rw [Kind.BZ,Bc];exact this
   have k6:KK.row w6 B (.slice Ak (keysT T).length Ck) (keysT T):=Bl Nw.out.rk u6 (λj hj hc=>Nw.out.tk j hc hj);have m6:KL.row w6 B (.slice Am M.length Cm) M:=Bl Nw.out.rm u6 (λj hj hc=>Nw.out.tm j hc hj);have ak6:=Hq HP (u:=.slice Ak (keysT T).length Ck) (λj hj=>Bg (BJ Nw.out.rk j hj) (by simp)) Nw.out.tk;have am6:=Hq HP (u:=.slice Am M.length Cm) (λj hj=>Bg (BJ Nw.out.rm j hj) (by simp)) Nw.out.tm;have hq6:q∉blk (.slice At T.length Ct):=λh=>by have:=ZY.1 q h;omega
   have h6:=(u6.block q (lt_of_block G7.out) hq6).trans G7.out;have d0:w6.cell? q=some (.int .i64 x1):=by simp [World.cell?,h6]
   have d1:w6.cell? ⟨q,1,none⟩=some (.int .i64 x2):=by simp [World.cell?,h6]
   have Ik:=AX (show Bj [] w w6 from fJ.out.trans' u6 (λj hj=>.inr (by rw [Jj.out];exact BH Nw.out.rt j hj)));have MW:=Az r6 k6 m6 ak6 am6 h6;have a3M:=AX (Bh HBw.out u6.size);clear HP u6 r6 k6 m6 ak6 am6 hq6 h6 c0 c1 c2 c3 c4;go_wp2_with (at_builtin;refine BM _ rfl _ _ 216 rfl B 218 iK (.agg #[.int .i64 0,.int .u32 0]) 2 16 Tryz.underlying216 hiK hK0 hK1 hK2 rfl (by decide) _ _ _ rfl (Bl MW.2.1 ((Bj.refl [] _).alloc _) (by simp)) _ 2 [x1,.int .u32 0,x2,.int .u32 0] rfl (BK w6 #[x1,.int .u32 0,x2,.int .u32 0] 218 2 2 rfl (by decide)) (by simp [Value.oneCell']) (by have:=PU.2.2;unfold maxLen;omega) (Ac PU.2.2) (by have:=a3M.out;simp;omega) ?_)
   intro A7 C7 w7 HP;have u7:Bj (blk (.slice Ak (keysT T).length Ck)) w6 w7:=((Bj.refl _ _).alloc _).trans HP.upd
   have k7:KK.row w7 B (.slice A7 ((keysT T).length+2) C7) (keysT T++[(x1,0),(x2,0)]):=by
    have:=HP.own;unfold Kind.row;rw [Kind.BZ,Bc];exact this
   have r7:=Bl MW.1 u7 (λj hj hc=>MW.2.2.2.1 j hj hc);have m7:=Bl MW.2.2.1 u7 (λj hj hc=>Nw.out.km j hc hj);have at7:∀j∈blk (.slice A6 (T.length+2) C6),j∉blk (.slice A7 ((keysT T).length+2) C7):=λj hj hc=>Hq HP (u:=.slice A6 (T.length+2) C6) (λj hj=>Bg (BJ MW.1 j hj) (by simp)) (λj hj hc=>MW.2.2.2.1 j hc hj) j hc hj
   have am7:=Hq HP (u:=.slice Am M.length Cm) (λj hj=>Bg (BJ MW.2.2.1 j hj) (by simp)) Nw.out.km;have hq7:q∉blk (.slice Ak (keysT T).length Ck):=λh=>by have:=ZY.2 q h;omega
   have h7:=(u7.block q (lt_of_block MW.2.2.2.2.2) hq7).trans MW.2.2.2.2.2;have d2:w7.cell? ⟨q,2,none⟩=some (.int .i64 y1):=by simp [World.cell?,h7]
   have d3:w7.cell? ⟨q,3,none⟩=some (.int .i64 y2):=by simp [World.cell?,h7]
   have Oz:=AX (show Bj [] w w7 from Ik.out.trans' u7 (λj hj=>.inr (by rw [Jj.out];exact BH Nw.out.rk j hj)));have X3:=Az r7 k7 m7 at7 am7 MW.2.2.2.2.1;have a1H:=AX (Bh a3M.out u7.size);clear HP u7 r7 k7 m7 at7 am7 hq7 h7 d0 d1;go_wp2_with (at_builtin;refine BM _ rfl _ _ 57 rfl B 2 iM (.int .i64 0) 1 8 Tryz.underlying57 hiM hM0 hM1 hM2 rfl (by decide) _ _ _ rfl (Bl X3.2.2.1 ((Bj.refl [] _).alloc _) (by simp)) _ 2 [y1,y2] rfl (BK w7 #[y1,y2] 2 1 2 rfl (by decide)) (by simp [Value.oneCell']) (by have:=PU.2.1;unfold maxLen;omega) (Ac PU.2.1) (by have:=a1H.out;simp;omega) ?_)
   intro A8 C8 w8 HP;have u8:Bj (blk (.slice Am M.length Cm)) w7 w8:=((Bj.refl _ _).alloc _).trans HP.upd
   have m8:KL.row w8 B (.slice A8 (M.length+2) C8) (M++[y1,y2]):=by
    have:=HP.own;unfold Kind.row;rw [Kind.BZ,Bc];exact this
   have r8:=Bl X3.1 u8 (λj hj hc=>X3.2.2.2.2.2 j hj hc);have k8:=Bl X3.2.1 u8 (λj hj hc=>X3.2.2.2.2.1 j hj hc);have at8:∀j∈blk (.slice A6 (T.length+2) C6),j∉blk (.slice A8 (M.length+2) C8):=λj hj hc=>Hq HP (u:=.slice A6 (T.length+2) C6) (λj hj=>Bg (BJ X3.1 j hj) (by simp)) (λj hj hc=>X3.2.2.2.2.2 j hc hj) j hc hj
   have ak8:∀j∈blk (.slice A7 ((keysT T).length+2) C7),j∉blk (.slice A8 (M.length+2) C8):=λj hj hc=>Hq HP (u:=.slice A7 ((keysT T).length+2) C7) (λj hj=>Bg (BJ X3.2.1 j hj) (by simp)) (λj hj hc=>X3.2.2.2.2.1 j hc hj) j hc hj
   have nS:=AX (show Bj [] w w8 from Oz.out.trans' u8 (λj hj=>.inr (by rw [Jj.out];exact BH Nw.out.rm j hj)));have nT:=Az r8 k8 m8 X3.2.2.2.1 at8 ak8;clear HP u8 m8 r8 k8 at8 ak8 d2 d3;go_wp2_with fail
   go_roundg (l.length - (k+1))
   case measure=>have:=HK.out;have:=JO.out;omega
   case rel=>
    have ekk:keysT (T++[⟨x1,⟨x1,x2,y1,y2,bi⟩,false⟩,⟨x2,⟨x1,x2,y1,y2,bi⟩,true⟩])=keysT T++[(x1,0),(x2,0)]:=by simp [keysT]
    refine ⟨k+1,A6,C6,A7,C7,A8,C8,Ad HK JO,?_,?_,?_,by go_num,?_,nS.out⟩
    ·rw [U5.out,Bc];rfl
    ·rw [U5.out,ekk,Bc];rfl
    ·rw [fF.out,Bc];rfl
    ·rw [U5.out,fF.out,ekk,Bc,Bc,Bc];exact ⟨nT.1,by rw [ekk];exact nT.2.1,nT.2.2.1,nT.2.2.2.1,nT.2.2.2.2.1,nT.2.2.2.2.2⟩
  ·have hke:l.take k=l:=List.take_of_length_le (by omega);rw [hke] at ht;have hlen:=EG l;obtain ⟨T,hT⟩:=AU (BL l);obtain ⟨M,hM⟩:=AU (BX l);rw [hT] at ht hlen;rw [hM] at ht hlen;have hso:=VH (.slice Ak (keysT T).length Ck) (keysT T) wr (See.BU ht.rk) (by rw [FY];omega);have qE:=λw2 (hu2:Bj [] wr w2)=>TJ (.slice Am M.length Cm) M w2 (See.BU (ht.BF hu2).rm) (by omega)
   have HTM:=Ap hT hM;have nR:=AX hso;have HSQ:=AX qE;have Z4:=AX (See.BU ht.rt);have HU:=AX hu;have fK:=AX (show T.length<900000 by omega);have hTk:BL (l.take k)=T:=by rw [hke];exact hT
   have hMk:BX (l.take k)=M:=by rw [hke];exact hM
   rw [hTk,hMk];clear hso qE ht hlen hT hM hTk hMk hu hke hk;go_wp2_with fail
   go_fit nR.out
   rintro e w2 ⟨A2,C2,P,wrt,rfl,sP,pP,qP,hu2,-⟩;have a3N:=OV pP qP ⟨0,⟨0,0,0,0,0⟩,false⟩;have hPl:P.length=T.length:=by have:=pP.length_eq;rw [List.length_range,FY] at this;exact this
   have hPi:∀i∈P,i<T.length:=λi hi=>by have:=List.mem_range.1 (pP.mem_iff.1 hi);rw [FY] at this;exact this
   obtain ⟨w3,hmk,hrow,hg⟩:=run_make_own (P:=Tryz.prog) w2 w2.heap.size 132 139 iT (.agg #[.int .i64 0,.int .i64 0,.int .i64 0,.int .i64 0,.int .i64 0,.int .u32 0,.bool false]) 7 Tryz.underlying132 hiT hT0 hT1 .i64 .i64 T.length (by rw [hT2];have:=fK.out;omega) (by have:=fK.out;unfold maxLen;omega) (Nat.le_refl _);have hu3:Bj [] w2 w3:=(Bj.refl _ _).grown hg (by simp);have hkl:Value.slice A2 (keysT T).length C2=Value.slice A2 T.length C2:=by rw [FY]
   have sP':See KN w2 (.slice A2 T.length C2) P:=by rw [<-hkl];exact sP
   rw [hkl];obtain ⟨n,hn⟩:=AU T.length;rw [hn] at hmk hPl hPi Z4 sP' fK hrow |-;have HP:=Au sP' hPl hPi a3N;have H3:=Ap (show KT.row w3 w2.heap.size (.slice (some ⟨w2.heap.size,0,none⟩) 0 n) [] from hrow) hu3;have Ej:=AX hu2;have HB3:=AX hu3.size;have fM:=AX hn;have hnb:(n:Int)<900000:=Ac fK;clear sP sP' pP qP hPl hPi a3N hrow hg hu3 hu2 hkl hn;go_wp2_with fail
   clear hmk;go_loopg [12,72] n (λm s12 s72 wr=>∃k A C,m+k=n/\s12=.slice A k C/\s72=.int .i64 (k:Int)/\KT.row wr w2.heap.size (.slice A k C) ((P.take k).map λi=>T[i]?.getD ⟨0,⟨0,0,0,0,0⟩,false⟩)/\Bj [] w2 wr)
   case atStart=>exact ⟨0,_,_,rfl,rfl,rfl,H3.1,H3.2⟩
   case round=>
    obtain ⟨k,A4,C4,hk,rfl,rfl,hrow,hu⟩:=hrel;have b0:(0:Int)<=(k:Int):=AY _;by_cases hlt:k<n
    ·obtain ⟨i,hi⟩:∃i,P[k]? = some i:=⟨_,Ba (by rw [HP.2.1];exact hlt)⟩;have hin:=HP.2.2.1 i (List.mem_of_getElem? hi);obtain ⟨t,ht⟩:∃t,T[i]? = some t:=⟨_,Ba (by rw [fM.out];exact hin)⟩;obtain ⟨gp,op,hA2,-,-,cp⟩:=KN.at (HP.1.BF hu) hi;obtain ⟨gt,ot,hAt,t0,t1,t2,t3,t4,t5,t6⟩:=KT.at ((Z4.out.BF Ej.out).BF hu) ht;subst hA2 hAt
     have htk:(P.take (k+1)).map (λi=>T[i]?.getD ⟨0,⟨0,0,0,0,0⟩,false⟩)=(P.take k).map (λi=>T[i]?.getD ⟨0,⟨0,0,0,0,0⟩,false⟩)++[t]:=by
      rw [List.take_add_one,hi];simp [ht]
     obtain ⟨R,hR⟩:∃R,(P.take k).map (λi=>T[i]?.getD ⟨0,⟨0,0,0,0,0⟩,false⟩)=R:=⟨_,rfl⟩;rw [hR] at hrow htk;have hRl:R.length=k:=by rw [<-hR,List.length_map,Bf,HP.2.1];omega
     obtain ⟨tx,⟨x1,x2,y1,y2,bi⟩,tg⟩:=t;dsimp only at t0 t1 t2 t3 t4 t5 t6 htk;have b1:(k:Int)<(n:Int):=by omega
     have b2:(0:Int)<=(i:Int):=AY _;have b3:(i:Int)<(n:Int):=by omega
     have hrow':wr.ownsRow w2.heap.size 139 7 (.slice A4 k C4) k (KT.all R):=by have:=hrow;unfold Kind.row at this;rw [hRl] at this;exact this
     have KZ:=AX hrow';have HTK:=AX htk;have HUr:=AX hu;have HK:=AX hk;have JO:=AX hlt;have HRL:=AX hRl;have HBr:=AX hu.size;clear hrow hrow' htk hu hk hlt hRl hR ht hi hin;go_wp2_with (at_builtin;refine BM _ rfl _ _ 132 rfl w2.heap.size 139 iT (.agg #[.int .i64 0,.int .i64 0,.int .i64 0,.int .i64 0,.int .i64 0,.int .u32 0,.bool false]) 7 56 Tryz.underlying132 hiT hT0 hT1 hT2 rfl (by decide) _ _ _ rfl (Bl KZ.out ((Bj.refl [] _).alloc _) (by simp)) _ 1 [tx,x1,x2,y1,y2,.int .u32 (bi:Int),.bool tg] rfl (BK wr #[tx,x1,x2,y1,y2,.int .u32 (bi:Int),.bool tg] 139 7 1 rfl (by decide)) (by simp [Value.oneCell']) (by have:=fK.out;have:=JO.out;unfold maxLen;omega) (Ad fK JO) (by have:=HBr.out;simp;omega) ?_)
     intro A6 C6 w6 HP6;have u6:Bj (blk (.slice A4 k C4)) wr w6:=((Bj.refl _ _).alloc _).trans HP6.upd
     have r6:KT.row w6 w2.heap.size (.slice A6 (k+1) C6) (R++[⟨tx,⟨x1,x2,y1,y2,bi⟩,tg⟩]):=by
      have:=HP6.own;unfold Kind.row;rw [Kind.BZ,Bc,HRL.out];exact this
     have MW:=Ap r6 (show Bj [] w2 w6 from HUr.out.trans' u6 (λj hj=>.inr (BH KZ.out j hj)));clear HP6 u6 r6;go_wp2_with fail
     go_roundg (n - (k+1))
     case measure=>have:=HK.out;have:=JO.out;omega
     case rel=>exact ⟨k+1,A6,C6,Ad HK JO,rfl,by go_num,by rw [HTK.out];exact MW.1,MW.2⟩
    ·have hkn:k=n:=by omega
     have hpk:P.take k=P:=List.take_of_length_le (by rw [HP.2.1];omega);rw [hpk,hkn] at hrow
     have EP:See KT wr (.slice A4 n C4) (P.map λi=>T[i]?.getD ⟨0,⟨0,0,0,0,0⟩,false⟩):=by
      have:=See.BU hrow;exact this
     have hq:=HSQ.out wr (Ej.out.trans hu);have nU:=AX EP;have HUr:=AX (HU.out.trans (Ej.out.trans hu));have HQ:=AX hq;have HKN:=AX hkn;clear hrow EP hq hu hpk hkn hk;go_wp2_with fail
     go_fit HQ.out
     rintro e w7 ⟨A7,C7,rfl,hr7,QN⟩;have H7:=Aq (See.BU hr7) (nU.out.BF QN) (HUr.out.trans QN);clear hr7 QN;go_wp2_with fail
     go_ret2
     rw [HTM.1,HTM.2,fM.out,HKN.out];exact ⟨A4,C4,A7,C7,_,rfl,H7.2.1,HP.2.2.2.1,HP.2.2.2.2,H7.1,H7.2.2⟩
