/- rank.Squeeze: what came, in order, each once. area.turns: where boxes begin and end, from left -/
import Derived.Lib.OwnBridge
import Derived.Sort.OwnSortedInts
import Derived.Test.YtkbaaonchdeneaaGreatPb6
import Derived.Test.YtkbaaonchdeneaaGreatPb13
set_option maxHeartbeats 8000000
set_option maxRecDepth 100000
namespace Go.Proofs.YtkbaaonchdeneaaGreat
open Go.RowKit
def Dv (l:List Int):List Int:=Lib.compact (l.mergeSort fun x y=>decide (x≤y))
theorem a0K (l:List Int):(l.mergeSort fun x y=>decide (x≤y)).Pairwise (·≤·):=by
 have:=List.pairwise_mergeSort (le:=fun (x y:Int)=>decide (x≤y)) (by intro a b c h1 h2;simp at *;omega) (by intro a b;simp;omega) l;exact this.imp (by intro a b h;simpa using h)
theorem bZ (l:List Int) (x:Int):x∈(l.mergeSort fun x y=>decide (x≤y))↔x∈l:=(List.mergeSort_perm l _).mem_iff
theorem Tj {l:List Int} {x:Int} (h:x∈Dv l):x∈l:=by
 unfold Dv Lib.compact Lib.compactUpTo at h;simp only [List.mem_map,List.mem_filter,List.mem_range] at h;obtain ⟨j,⟨hj,_⟩,rfl⟩:=h;rw [←bZ,List.getElem!_toArray,getElem!_pos _ j hj];exact List.getElem_mem hj
theorem Mc {l:List Int} {x:Int} (h:x∈l):x∈Dv l:=by
 rw [←bZ] at h;unfold Dv Lib.compact Lib.compactUpTo;obtain ⟨s,hss⟩:∃s,(l.mergeSort fun x y=>decide (x≤y))=s:=⟨_,rfl⟩;rw [hss] at h ⊢;obtain ⟨j0,hj0,hx0⟩:=List.getElem_of_mem h
 have key:∀j,j<s.length→s[j]! = x→∃i,i<s.length∧s[i]! = x∧Lib.keeps s.toArray i=true:=by
  intro j;induction j with
  |zero=>intro h1 h2;exact ⟨0,h1,h2,Lib.keeps_lt_one _ 0 (by omega)⟩
  |succ j ih=>
   intro h1 h2;by_cases he:s[j]! = x
   ·exact ih (by omega) he
   ·exact ⟨j+1,h1,h2,Lib.keeps_pos (by simp only [List.getElem!_toArray,Nat.add_sub_cancel];rw [h2];exact fun e=>he e.symm)⟩
 obtain ⟨i,h1,h2,h3⟩:=key j0 hj0 (by rw [getElem!_pos _ j0 hj0];exact hx0);rw [List.mem_map];exact ⟨i,by rw [List.mem_filter,List.mem_range];exact ⟨h1,h3⟩,by rw [List.getElem!_toArray];exact h2⟩
theorem Px (l:List Int):(Dv l).Pairwise (· < ·):=by
 have hs:=a0K l;unfold Dv Lib.compact Lib.compactUpTo;obtain ⟨s,hss⟩:∃s,(l.mergeSort fun x y=>decide (x≤y))=s:=⟨_,rfl⟩;rw [hss] at hs ⊢;rw [List.pairwise_map];refine ((List.pairwise_lt_range (n:=s.length)).filter _).imp_of_mem ?_
 intro a b ha hb hab;simp only [List.mem_filter,List.mem_range] at ha hb;obtain ⟨ha1,_⟩:=ha;obtain ⟨hb1,hb2⟩:=hb;unfold Lib.keeps at hb2;simp only [List.getElem!_toArray] at hb2 ⊢
 have hle:∀i j,i<j→j<s.length→s[i]!≤s[j]!:=by
  intro i j hij hj;have:=List.pairwise_iff_getElem.1 hs i j (by omega) hj hij;rw [getElem!_pos s i (by omega),getElem!_pos s j hj];exact this
 have hne:s[b]!≠s[b - 1]!:=by
  intro e;simp [e] at hb2;omega
 rcases Nat.lt_or_ge a (b - 1) with h1 | h1
 ·have h2:=hle a (b - 1) h1 (by omega);have h3:=hle (b - 1) b (by omega) hb1;omega
 ·have:a=b - 1:=by omega
  rw [this];have h3:=hle (b - 1) b (by omega) hb1;omega
theorem J5 (l:List Int):(Dv l).length≤l.length:=by
 have h:=Lib.compact_length_le (l.mergeSort fun x y=>decide (x≤y));rw [List.length_mergeSort] at h;exact h
theorem lY:Dv [] = []:=by
 have:=J5 [];exact List.length_eq_zero_iff.1 (by simpa using this)
def lZ (w:World) (l:List Int) (e:Ending) (w':World):Prop:=
 ∃A C,e=.returned (.slice A (Dv l).length C)∧KL.row w' w.heap.size (.slice A (Dv l).length C) (Dv l)∧Bf [] w w'
theorem Xc (v:Value) (l:List Int) (w:World) (hs:See KL w v l) (hl:l.length*8≤140737488355328) :
 Calls Tryz.prog 150 #[v] w (lZ w l):=by
 obtain ⟨Av,Cv,rfl⟩:=hs.form;have hcl:=Eh _ l.length (KL.all l) w hs (KL.DZ l) (by omega);have uY:=AQ hcl;have HL:=AQ hl;clear hcl hs hl;go_enter Tryz.func150,Tryz.ntmps150
 go_wp2_with fail
 (with_reducible refine uY.out.mono ?_);rintro e w1 ⟨A,C,rfl,hown,hbel⟩;rw [uI] at hown;rcases Nat.eq_zero_or_pos l.length with h0 | h0
 ·have hl0:l = []:=List.length_eq_zero_iff.1 h0;subst hl0;simp only [List.length_nil] at hown ⊢;have HO:=AQ hown;have HB:=AQ hbel;clear hown hbel h0;go_wp2_with fail
  refine (Tryz.slices_Sort_none A C w1).mono ?_
  rintro e w' ⟨rfl,rfl⟩;go_wp2_with fail
  refine (Tryz.slices_Compact_int_empty A C w').mono ?_
  rintro e w'' ⟨rfl,rfl⟩;go_wp2_with fail
  go_ret
  refine ⟨A,C,?_,?_,Bf.of_below HB.out⟩
  ·rw [lY];rfl
  ·rw [lY];exact HO.out
 ·have hne:(.slice A l.length C:Value)≠.slice none 0 0:=by
   intro e;injection e with _ e2;omega
  obtain ⟨g,cap,hv,hg,hgw,hn,hm,-,hH⟩:=Lib.holds_of_ownsRow hown hne;injection hv with hv1 _ hv3;subst hv1;subst hv3;have hso:=Tryz.slices_Sort g 0 C l w1 hH hgw (Ac HL)
  have hbk:∃cur,w1.heap[g]? = some (.cells cur 2 (0,0))∧cur.size=C*1:=by
   rcases hown.2 with ⟨e0,_⟩ | ⟨g',cap',cur,e0,hb,hgg,hnn,hmm,hsz,ht⟩
   ·exact absurd e0 hne
   ·injection e0 with e1 _ e3;injection e1 with e1;injection e1 with e1;subst e1;subst e3;exact ⟨cur,hgg,hsz⟩
  obtain ⟨cur,hcur,hcs⟩:=hbk;have hlen:(l.mergeSort fun x y=>decide (x≤y)).length=l.length:=List.length_mergeSort _;have tC:=AQ hso;have HF:=Aw hcur hcs hg hn hm hgw hlen;have HB:=AQ hbel;clear hso hcur hcs hH hown hbel hg hn hm hgw hlen hne;go_wp2_with fail
  (with_reducible refine tC.out.mono ?_);rintro e w2 ⟨rfl,nd,os,rfl⟩;obtain ⟨h1,h2,h3,h4,h5,h6,h7⟩:=HF.out;have hown2:=ownsRow_sortedI (os:=os) (n:=nd) h7 h3 h1 h4 h5 h2;have hgr:=grownBy_sortedI (w:=w1) (g:=g) (n:=nd) (os:=os) (l.mergeSort fun x y=>decide (x≤y)).toArray;have hb2:=HB.out.grown hgr (HB.out.size) (by intro k hk;cases hk;exact h3);obtain ⟨w2,hw2⟩:∃w2,Sort.grow (Sort.putRow (Value.int .i64) (Sort.ahead w1 nd) g 0 (l.mergeSort fun x y=>decide (x≤y)).toArray) os=w2:=⟨_,rfl⟩;rw [hw2] at hown2 hb2 ⊢;obtain ⟨s,hs⟩:∃s,(l.mergeSort fun x y=>decide (x≤y))=s:=⟨_,rfl⟩;rw [hs] at hown2 h7;rw [←h7] at hown2;have hne:(.slice (some ⟨g,0,none⟩) s.length C:Value)≠.slice none 0 0:=by intro e;injection e with e1;cases e1
  obtain ⟨g',cap',hv,-,-,-,-,-,hH⟩:=Lib.holds_of_ownsRow hown2 hne;injection hv with hv1 _ hv3;injection hv1 with hv1;injection hv1 with hv1;subst hv1;subst hv3;have hco:=Tryz.slices_Compact_int g 0 C s w2 hH (Ac HL) (by omega);rw [h7] at hco;have hk:(Lib.compact s).length≤s.length:=Lib.compact_length_le s;have aU:=AQ hco;have HO2:=AQ hown2;have HB2:=AQ hb2;have HS:=AQ hs;have H7:=Aj h7 hk h3;clear hco hown2 hb2 hs h1 h2 h3 h4 h5 h6 h7 hgr hw2 hH hne hk;go_wp2_with fail
  (with_reducible refine aU.out.mono ?_);rintro e w3 ⟨rfl,q,rfl⟩;have hrow:=Lib.ownsRow_putRow (q:=q) (ys:=Lib.compact s++List.replicate (l.length - (Lib.compact s).length) 0) HO2.out (by have:=H7.out;simp;omega) H7.2.1;rw [List.take_left] at hrow;have hb3:=Lib.below_putRow (enc:=Value.int .i64) (q:=q) (d:=(Lib.compact s++List.replicate (l.length - (Lib.compact s).length) 0).toArray) HB2.out H7.2.2;have LP:=AQ hrow;have HB3:=AQ hb3;clear hrow hb3;go_wp2_with fail
  go_ret
  have e0:Dv l=Lib.compact s:=by unfold Dv;rw [HS.out]
  refine ⟨some ⟨g,0,none⟩,C,?_,?_,Bf.of_below HB3.out⟩
  ·rw [e0];rfl
  ·rw [e0];unfold Kind.row;rw [uI];exact LP.out
structure Tn where
 x:Int
 b:Bx
 g:Bool
deriving DecidableEq
def KT:Kind Tn:={ T:=0,sT:=132,eT:=139,sz:=7,enc:=fun t=>[.int .i64 t.x,.int .i64 t.b.x1,.int .i64 t.b.x2,.int .i64 t.b.y1,.int .i64 t.b.y2,.int .u32 (t.b.id:Int),.bool t.g],len:=fun _=>rfl,one:=fun x u hu=>by simp at hu;rcases hu with rfl | rfl | rfl | rfl | rfl | rfl | rfl<;>rfl }
def BF (l:List Bx):List Tn:=(l.filter Bx.counts).flatMap fun b=>[⟨b.x1,b,false⟩,⟨b.x2,b,true⟩]
def keysT (T:List Tn):List (Int×Nat):=T.map fun t=>(t.x,0)
theorem Xd (l:List Bx) {k:Nat} {b:Bx} (hb:l[k]? = some b):BF (l.take (k+1))=BF (l.take k)++(if b.counts=true then [⟨b.x1,b,false⟩,⟨b.x2,b,true⟩] else []):=by
 unfold BF;rw [List.take_add_one,hb];by_cases h:b.counts=true<;>simp [List.filter_append,h]
theorem YP (l:List Bx) {k:Nat} {b:Bx} (hb:l[k]? = some b):BG (l.take (k+1))=BG (l.take k)++(if b.counts=true then [b.y1,b.y2] else []):=by
 unfold BG;rw [List.take_add_one,hb];by_cases h:b.counts=true<;>simp [List.filter_append,h]
theorem Ea (l:List Bx):(BF l).length≤2*l.length∧(BG l).length=(BF l).length:=by
 unfold BF BG;induction l with
 |nil=>simp
 |cons b l ih=>
  rw [List.filter_cons];split
  ·simp only [List.flatMap_cons,AY,List.length_cons,List.length_nil] at *;omega
  ·simp only [List.length_cons];omega
structure Tri (B:Nat) (w:World) (tv:Value) (T:List Tn) (kv:Value) (mv:Value) (M:List Int):Prop where
 rt:KT.row w B tv T
 rk:KK.row w B kv (keysT T)
 rm:KL.row w B mv M
 tk:∀k∈blk tv,k∉blk kv
 tm:∀k∈blk tv,k∉blk mv
 km:∀k∈blk kv,k∉blk mv
theorem Ie (T:List Tn):(keysT T).length=T.length:=by simp [keysT]
theorem Tri.Bh {B:Nat} {w w':World} {tv kv mv:Value} {T:List Tn} {M:List Int} (h:Tri B w tv T kv mv M) (hu:Bf [] w w'):Tri B w' tv T kv mv M:=
 ⟨Bg h.rt hu (by simp),Bg h.rk hu (by simp),Bg h.rm hu (by simp),h.tk,h.tm,h.km⟩
theorem JH {w w':World} {base:Nat} {e:TypeId} {size:Nat} {v:Value} {n:Nat} {xs:List Value} {m:Nat} {news:List Value} {A:Option Addr} {C:Nat} (HP:DY w w' base e size v n xs m news A C) {u:Value} (hu:∀k∈blk u,k<w.heap.size) (h:∀k∈blk v,k∉blk u) :
 ∀k∈blk (.slice A (n+m) C),k∉blk u:=by
 intro k hk hc;rcases HP.at with h1 | h1
 ·rw [h1] at hk;exact h k hk hc
 ·rw [h1] at hk;have:=hu k hc;simp at hk;omega
theorem pJ:(Tryz.prog.info? 139).map (fun i=>(i.zero,i.size,i.bytes))=some (some (.agg #[.int .i64 0,.int .i64 0,.int .i64 0,.int .i64 0,.int .i64 0,.int .u32 0,.bool false]),7,56):=by kernel_rfl
theorem cu:(Tryz.prog.info? 218).map (fun i=>(i.zero,i.size,i.bytes))=some (some (.agg #[.int .i64 0,.int .u32 0]),2,16):=by kernel_rfl
theorem Vq:(Tryz.prog.info? 2).map (fun i=>(i.zero,i.size,i.bytes))=some (some (.int .i64 0),1,8):=by kernel_rfl
def UM (w:World) (l:List Bx) (e:Ending) (w':World):Prop:=
 ∃A C A' C' T,e=.returned (.tuple #[.slice A (BF l).length C,.slice A' (Dv (BG l)).length C'])∧See KT w' (.slice A (BF l).length C) T∧T.Perm (BF l)∧T.Pairwise (fun s t=>s.x≤t.x)∧See KL w' (.slice A' (Dv (BG l)).length C') (Dv (BG l))∧Bf [] w w'
theorem Tm {T:List Tn} {M:List Nat} (hp:M.Perm (List.range (keysT T).length)) (hs:M.Pairwise (fun i j=>Yt (keysT T) i j=true)) (d:Tn) :
 (M.map fun i=>T[i]?.getD d).Perm T∧(M.map fun i=>T[i]?.getD d).Pairwise (fun s t=>s.x≤t.x):=by
 have hr:((List.range (keysT T).length).map fun i=>T[i]?.getD d)=T:=by
  refine List.ext_getElem? fun i=>?_
  rw [List.getElem?_map];by_cases hi:i<T.length
  ·rw [List.getElem?_range (by rw [Ie];exact hi),AX hi];simp [hi]
  ·rw [List.getElem?_eq_none (by rw [List.length_range,Ie];omega),List.getElem?_eq_none (by omega)];rfl
 refine ⟨?_,?_⟩
 ·have:=hp.map fun i=>T[i]?.getD d
  rw [hr] at this;exact this
 ·rw [List.pairwise_map];refine hs.imp_of_mem fun {i j} hi hj h=>?_
  have hi':=List.mem_range.1 (hp.mem_iff.1 hi);have hj':=List.mem_range.1 (hp.mem_iff.1 hj);rw [Ie] at hi' hj';unfold Yt at h
  have h2:¬ahead (kf (keysT T) j) (kf (keysT T) i)=true:=by
   intro hc;rw [hc] at h;simp at h
  rw [UL] at h2;have ei:kf (keysT T) i=(T[i].x,0):=by unfold kf keysT;simp [hi']
  have ej:kf (keysT T) j=(T[j].x,0):=by unfold kf keysT;simp [hj']
  rw [ei,ej] at h2;simp only [AX hi',AX hj',Option.getD_some];omega
theorem KT.at {w:World} {A:Option Addr} {n C:Nat} {l:List Tn} (h:See KT w (.slice A n C) l) {k:Nat} {t:Tn} (hx:l[k]? = some t) :
 ∃b o,A=some ⟨b,o,none⟩∧w.cell? ⟨b,o+k*7,none⟩=some (.int .i64 t.x)∧w.cell? ⟨b,o+k*7+1,none⟩=some (.int .i64 t.b.x1)∧w.cell? ⟨b,o+k*7+2,none⟩=some (.int .i64 t.b.x2)∧w.cell? ⟨b,o+k*7+3,none⟩=some (.int .i64 t.b.y1)∧w.cell? ⟨b,o+k*7+4,none⟩=some (.int .i64 t.b.y2)∧w.cell? ⟨b,o+k*7+5,none⟩=some (.int .u32 (t.b.id:Int))∧w.cell? ⟨b,o+k*7+6,none⟩=some (.bool t.g):=by
 obtain ⟨b,o,h1,h2,h3,h4⟩:=h.at hx;exact ⟨b,o,h1,h4 0 _ rfl,h4 1 _ rfl,h4 2 _ rfl,h4 3 _ rfl,h4 4 _ rfl,h4 5 _ rfl,h4 6 _ rfl⟩
theorem a3Q (v:Value) (l:List Bx) (w:World) (hs:See G5 w v l) (hl:l.length<400000) :
 Calls Tryz.prog 92 #[v] w (UM w l):=by
 obtain ⟨iT,hiT,hT0,hT1,hT2⟩:=info_parts pJ;obtain ⟨iK,hiK,hK0,hK1,hK2⟩:=info_parts cu;obtain ⟨iM,hiM,hM0,hM1,hM2⟩:=info_parts Vq;obtain ⟨A,C,rfl⟩:=hs.form;unfold UM;obtain ⟨B,hB⟩:=AO w.heap.size;have HS:=AQ hs;have HL:=AQ hl;have JG:=AQ hB;have hll:(l.length:Int)<400000:=by omega
 clear hs hl hB;go_enter Tryz.func92,Tryz.ntmps92
 go_wp2_with fail
 go_loopg [4,5,6,17] l.length (fun m s4 s5 s6 s17 wr=>∃k At Ct Ak Ck Am Cm,m+k=l.length∧s4=.slice At (BF (l.take k)).length Ct∧s5=.slice Ak (keysT (BF (l.take k))).length Ck∧s6=.slice Am (BG (l.take k)).length Cm∧s17=.int .i64 (k:Int)∧
  Tri B wr (.slice At (BF (l.take k)).length Ct) (BF (l.take k)) (.slice Ak (keysT (BF (l.take k))).length Ck) (.slice Am (BG (l.take k)).length Cm) (BG (l.take k))∧Bf [] w wr)
 case atStart=>exact ⟨0,none,0,none,0,none,0,rfl,rfl,rfl,rfl,rfl,⟨World.ownsRow_nil _ _ _ _,World.ownsRow_nil _ _ _ _,World.ownsRow_nil _ _ _ _,by simp [blk],by simp [blk],by simp [blk]⟩,Bf.refl _ _⟩
 case round=>
  obtain ⟨k,At,Ct,Ak,Ck,Am,Cm,hk,rfl,rfl,rfl,rfl,ht,hu⟩:=hrel;have b0:(0:Int)≤(k:Int):=AU _;by_cases hlt:k<l.length
  ·obtain ⟨b,hb⟩:∃b,l[k]? = some b:=⟨_,AX hlt⟩;obtain ⟨bl,ol,hA,-,-,l0,l1,l2,l3,l4⟩:=G5.at (HS.out.Bh hu) hb;subst hA;have htt:=Xd l hb;have hty:=YP l hb;have hlen:=Ea (l.take k);have htl:(l.take k).length≤l.length:=by rw [Ba];omega
   obtain ⟨T,hT⟩:=AO (BF (l.take k));obtain ⟨M,hM⟩:=AO (BG (l.take k));rw [hT] at htt ht hlen ⊢;rw [hM] at hty ht hlen ⊢;obtain ⟨x1,x2,y1,y2,bi⟩:=b;dsimp only at l0 l1 l2 l3 l4 htt hty;have hkl:(keysT T).length=T.length:=Ie T;have b1:(k:Int)<(l.length:Int):=by omega
   have HT:=AQ ht;have OL:=AQ htt;have lX:=AQ hty;have Om:=AQ (show T.length<900000∧M.length<900000∧(keysT T).length<900000 by have:=HL.out;omega);have HU:=AQ hu;have HK:=AQ hk;have GY:=AQ hlt;have FM:Bf [] wr (wr.alloc (.cells #[.int .i64 x1,.int .i64 x2,.int .i64 y1,.int .i64 y2,.int .u32 (bi:Int)] 28)):=(Bf.refl _ _).alloc _;have hbx:(wr.alloc (.cells #[.int .i64 x1,.int .i64 x2,.int .i64 y1,.int .i64 y2,.int .u32 (bi:Int)] 28)).heap[wr.heap.size]? = some (.cells #[.int .i64 x1,.int .i64 x2,.int .i64 y1,.int .i64 y2,.int .u32 (bi:Int)] 28 (0,0)):=heap_alloc_new _ _;have Gl:=AQ FM;have EH:=AQ hbx;clear ht htt hty hlen htl hu hk hlt hT hM hkl FM hbx hb;by_cases hx:x2≤x1
   ·have g1:decide (x2≤x1)=true:=decide_eq_true hx;have hcnt:(⟨x1,x2,y1,y2,bi⟩:Bx).counts=false:=by unfold Bx.counts;simp;omega
    rw [hcnt] at OL lX;clear hx hcnt;go_wp2_with fail
    go_roundg (l.length - (k+1))
    case measure=>have:=HK.out;have:=GY.out;omega
    case rel=>
     refine ⟨k+1,At,Ct,Ak,Ck,Am,Cm,Ad HK GY,?_,?_,?_,by go_num,?_,HU.out.trans Gl.out⟩<;>((try rw [OL.out]);(try rw [lX.out]))
     ·simp
     ·simp
     ·simp
     ·simpa using HT.out.Bh Gl.out
   have g1:decide (x2≤x1)=false:=decide_eq_false hx;by_cases hy:y2≤y1
   ·have g2:decide (y2≤y1)=true:=decide_eq_true hy;have hcnt:(⟨x1,x2,y1,y2,bi⟩:Bx).counts=false:=by unfold Bx.counts;simp;omega
    rw [hcnt] at OL lX;clear hx hy hcnt;go_wp2_with fail
    go_roundg (l.length - (k+1))
    case measure=>have:=HK.out;have:=GY.out;omega
    case rel=>
     refine ⟨k+1,At,Ct,Ak,Ck,Am,Cm,Ad HK GY,?_,?_,?_,by go_num,?_,HU.out.trans Gl.out⟩<;>((try rw [OL.out]);(try rw [lX.out]))
     ·simp
     ·simp
     ·simp
     ·simpa using HT.out.Bh Gl.out
   have g2:decide (y2≤y1)=false:=decide_eq_false hy;have hcnt:(⟨x1,x2,y1,y2,bi⟩:Bx).counts=true:=by unfold Bx.counts;simp;omega
   rw [hcnt,if_pos rfl] at OL lX;clear hx hy hcnt;go_upto_region 8 with fail
   have JZ:=AQ (HT.out.Bh Gl.out);have iZ:=AQ (show (∀j∈blk (.slice At T.length Ct),j<wr.heap.size)∧(∀j∈blk (.slice Ak (keysT T).length Ck),j<wr.heap.size) from ⟨BK HT.out.rt,BK HT.out.rk⟩);have Ur:=AQ (HU.out.trans Gl.out);generalize (wr.alloc (.cells #[.int .i64 x1,.int .i64 x2,.int .i64 y1,.int .i64 y2,.int .u32 (bi:Int)] 28))=Wb at EH JZ Ur Gl ⊢;generalize wr.heap.size=q at EH iZ ⊢;have c0:Wb.cell? ⟨q,0,none⟩=some (.int .i64 x1):=by have:=EH.out;simp [World.cell?,this]
   have c1:Wb.cell? ⟨q,1,none⟩=some (.int .i64 x2):=by have:=EH.out;simp [World.cell?,this]
   have c2:Wb.cell? ⟨q,2,none⟩=some (.int .i64 y1):=by have:=EH.out;simp [World.cell?,this]
   have c3:Wb.cell? ⟨q,3,none⟩=some (.int .i64 y2):=by have:=EH.out;simp [World.cell?,this]
   have c4:Wb.cell? ⟨q,4,none⟩=some (.int .u32 (bi:Int)):=by have:=EH.out;simp [World.cell?,this]
   have uZ:=AQ (show B≤Wb.heap.size by have:=Ur.out.size;rw [JG.out] at this;exact this);go_wp2_with (at_builtin;refine BL _ rfl _ _ 132 rfl B 139 iT (.agg #[.int .i64 0,.int .i64 0,.int .i64 0,.int .i64 0,.int .i64 0,.int .u32 0,.bool false]) 7 56 Tryz.underlying132 hiT hT0 hT1 hT2 rfl (by decide) _ _ _ rfl (Bg JZ.out.rt ((Bf.refl [] _).alloc _) (by simp)) _ 2 [.int .i64 x1,.int .i64 x1,.int .i64 x2,.int .i64 y1,.int .i64 y2,.int .u32 (bi:Int),.bool false,.int .i64 x2,.int .i64 x1,.int .i64 x2,.int .i64 y1,.int .i64 y2,.int .u32 (bi:Int),.bool true] rfl (BM Wb #[.int .i64 x1,.int .i64 x1,.int .i64 x2,.int .i64 y1,.int .i64 y2,.int .u32 (bi:Int),.bool false,.int .i64 x2,.int .i64 x1,.int .i64 x2,.int .i64 y1,.int .i64 y2,.int .u32 (bi:Int),.bool true] 139 7 2 rfl (by decide)) (by simp [Value.oneCell']) (by have:=Om.1;unfold maxLen;omega) (Ac Om.1) (by have:=uZ.out;simp;omega) ?_)
   intro A6 C6 w6 HP;have u6:Bf (blk (.slice At T.length Ct)) Wb w6:=((Bf.refl _ _).alloc _).trans HP.upd
   have r6:KT.row w6 B (.slice A6 (T.length+2) C6) (T++[⟨x1,⟨x1,x2,y1,y2,bi⟩,false⟩,⟨x2,⟨x1,x2,y1,y2,bi⟩,true⟩]):=by
    have:=HP.own;unfold Kind.row;rw [Kind.Ci,AY];exact this
   have k6:KK.row w6 B (.slice Ak (keysT T).length Ck) (keysT T):=Bg JZ.out.rk u6 (fun j hj hc=>JZ.out.tk j hc hj);have m6:KL.row w6 B (.slice Am M.length Cm) M:=Bg JZ.out.rm u6 (fun j hj hc=>JZ.out.tm j hc hj);have ak6:=JH HP (u:=.slice Ak (keysT T).length Ck) (fun j hj=>Bc (BK JZ.out.rk j hj) (by simp)) JZ.out.tk;have am6:=JH HP (u:=.slice Am M.length Cm) (fun j hj=>Bc (BK JZ.out.rm j hj) (by simp)) JZ.out.tm;have hq6:q∉blk (.slice At T.length Ct):=fun h=>by have:=iZ.1 q h;omega
   have h6:=(u6.block q (lt_of_block EH.out) hq6).trans EH.out;have d0:w6.cell? ⟨q,0,none⟩=some (.int .i64 x1):=by simp [World.cell?,h6]
   have d1:w6.cell? ⟨q,1,none⟩=some (.int .i64 x2):=by simp [World.cell?,h6]
   have Jv:=AQ (show Bf [] w w6 from Ur.out.trans' u6 (fun j hj=>.inr (by rw [JG.out];exact BD JZ.out.rt j hj)));have OJ:=Au r6 k6 m6 ak6 am6 h6;have a5X:=AQ (Bd uZ.out u6.size);clear HP u6 r6 k6 m6 ak6 am6 hq6 h6 c0 c1 c2 c3 c4;go_wp2_with (at_builtin;refine BL _ rfl _ _ 216 rfl B 218 iK (.agg #[.int .i64 0,.int .u32 0]) 2 16 Tryz.underlying216 hiK hK0 hK1 hK2 rfl (by decide) _ _ _ rfl (Bg OJ.2.1 ((Bf.refl [] _).alloc _) (by simp)) _ 2 [.int .i64 x1,.int .u32 0,.int .i64 x2,.int .u32 0] rfl (BM w6 #[.int .i64 x1,.int .u32 0,.int .i64 x2,.int .u32 0] 218 2 2 rfl (by decide)) (by simp [Value.oneCell']) (by have:=Om.2.2;unfold maxLen;omega) (Ac Om.2.2) (by have:=a5X.out;simp;omega) ?_)
   intro A7 C7 w7 HP;have u7:Bf (blk (.slice Ak (keysT T).length Ck)) w6 w7:=((Bf.refl _ _).alloc _).trans HP.upd
   have k7:KK.row w7 B (.slice A7 ((keysT T).length+2) C7) (keysT T++[(x1,0),(x2,0)]):=by
    have:=HP.own;unfold Kind.row;rw [Kind.Ci,AY];exact this
   have r7:=Bg OJ.1 u7 (fun j hj hc=>OJ.2.2.2.1 j hj hc);have m7:=Bg OJ.2.2.1 u7 (fun j hj hc=>JZ.out.km j hc hj);have at7:∀j∈blk (.slice A6 (T.length+2) C6),j∉blk (.slice A7 ((keysT T).length+2) C7):=fun j hj hc=>JH HP (u:=.slice A6 (T.length+2) C6) (fun j hj=>Bc (BK OJ.1 j hj) (by simp)) (fun j hj hc=>OJ.2.2.2.1 j hc hj) j hc hj
   have am7:=JH HP (u:=.slice Am M.length Cm) (fun j hj=>Bc (BK OJ.2.2.1 j hj) (by simp)) JZ.out.km;have hq7:q∉blk (.slice Ak (keysT T).length Ck):=fun h=>by have:=iZ.2 q h;omega
   have h7:=(u7.block q (lt_of_block OJ.2.2.2.2.2) hq7).trans OJ.2.2.2.2.2;have d2:w7.cell? ⟨q,2,none⟩=some (.int .i64 y1):=by simp [World.cell?,h7]
   have d3:w7.cell? ⟨q,3,none⟩=some (.int .i64 y2):=by simp [World.cell?,h7]
   have V3:=AQ (show Bf [] w w7 from Jv.out.trans' u7 (fun j hj=>.inr (by rw [JG.out];exact BD JZ.out.rk j hj)));have aV:=Au r7 k7 m7 at7 am7 OJ.2.2.2.2.1;have a3R:=AQ (Bd a5X.out u7.size);clear HP u7 r7 k7 m7 at7 am7 hq7 h7 d0 d1;go_wp2_with (at_builtin;refine BL _ rfl _ _ 57 rfl B 2 iM (.int .i64 0) 1 8 Tryz.underlying57 hiM hM0 hM1 hM2 rfl (by decide) _ _ _ rfl (Bg aV.2.2.1 ((Bf.refl [] _).alloc _) (by simp)) _ 2 [.int .i64 y1,.int .i64 y2] rfl (BM w7 #[.int .i64 y1,.int .i64 y2] 2 1 2 rfl (by decide)) (by simp [Value.oneCell']) (by have:=Om.2.1;unfold maxLen;omega) (Ac Om.2.1) (by have:=a3R.out;simp;omega) ?_)
   intro A8 C8 w8 HP;have u8:Bf (blk (.slice Am M.length Cm)) w7 w8:=((Bf.refl _ _).alloc _).trans HP.upd
   have m8:KL.row w8 B (.slice A8 (M.length+2) C8) (M++[y1,y2]):=by
    have:=HP.own;unfold Kind.row;rw [Kind.Ci,AY];exact this
   have r8:=Bg aV.1 u8 (fun j hj hc=>aV.2.2.2.2.2 j hj hc);have k8:=Bg aV.2.1 u8 (fun j hj hc=>aV.2.2.2.2.1 j hj hc);have at8:∀j∈blk (.slice A6 (T.length+2) C6),j∉blk (.slice A8 (M.length+2) C8):=fun j hj hc=>JH HP (u:=.slice A6 (T.length+2) C6) (fun j hj=>Bc (BK aV.1 j hj) (by simp)) (fun j hj hc=>aV.2.2.2.2.2 j hc hj) j hc hj
   have ak8:∀j∈blk (.slice A7 ((keysT T).length+2) C7),j∉blk (.slice A8 (M.length+2) C8):=fun j hj hc=>JH HP (u:=.slice A7 ((keysT T).length+2) C7) (fun j hj=>Bc (BK aV.2.1 j hj) (by simp)) (fun j hj hc=>aV.2.2.2.2.1 j hc hj) j hc hj
   have tH:=AQ (show Bf [] w w8 from V3.out.trans' u8 (fun j hj=>.inr (by rw [JG.out];exact BD JZ.out.rm j hj)));have tJ:=Au r8 k8 m8 aV.2.2.2.1 at8 ak8;clear HP u8 m8 r8 k8 at8 ak8 d2 d3;go_wp2_with fail
   go_roundg (l.length - (k+1))
   case measure=>have:=HK.out;have:=GY.out;omega
   case rel=>
    have ekk:keysT (T++[⟨x1,⟨x1,x2,y1,y2,bi⟩,false⟩,⟨x2,⟨x1,x2,y1,y2,bi⟩,true⟩])=keysT T++[(x1,0),(x2,0)]:=by simp [keysT]
    refine ⟨k+1,A6,C6,A7,C7,A8,C8,Ad HK GY,?_,?_,?_,by go_num,?_,tH.out⟩
    ·rw [OL.out,AY];rfl
    ·rw [OL.out,ekk,AY];rfl
    ·rw [lX.out,AY];rfl
    ·rw [OL.out,lX.out,ekk,AY,AY,AY];exact ⟨tJ.1,by rw [ekk];exact tJ.2.1,tJ.2.2.1,tJ.2.2.2.1,tJ.2.2.2.2.1,tJ.2.2.2.2.2⟩
  ·have hke:l.take k=l:=List.take_of_length_le (by omega);rw [hke] at ht;have hlen:=Ea l;obtain ⟨T,hT⟩:=AO (BF l);obtain ⟨M,hM⟩:=AO (BG l);rw [hT] at ht hlen;rw [hM] at ht hlen;have hso:=YO (.slice Ak (keysT T).length Ck) (keysT T) wr (See.BX ht.rk) (by rw [Ie];omega);have vg:=fun w2 (hu2:Bf [] wr w2)=>Xc (.slice Am M.length Cm) M w2 (See.BX (ht.Bh hu2).rm) (by omega)
   have HTM:=Ai hT hM;have tC:=AQ hso;have HSQ:=AQ vg;have jc:=AQ (See.BX ht.rt);have HU:=AQ hu;have l7:=AQ (show T.length<900000 by omega);have hTk:BF (l.take k)=T:=by rw [hke];exact hT
   have hMk:BG (l.take k)=M:=by rw [hke];exact hM
   rw [hTk,hMk];clear hso vg ht hlen hT hM hTk hMk hu hke hk;go_wp2_with fail
   (with_reducible refine tC.out.mono ?_);rintro e w2 ⟨A2,C2,P,wrt,rfl,sP,pP,qP,hu2,-⟩;have a5Y:=Tm pP qP ⟨0,⟨0,0,0,0,0⟩,false⟩;have hPl:P.length=T.length:=by have:=pP.length_eq;rw [List.length_range,Ie] at this;exact this
   have hPi:∀i∈P,i<T.length:=fun i hi=>by have:=List.mem_range.1 (pP.mem_iff.1 hi);rw [Ie] at this;exact this
   obtain ⟨w3,hmk,hrow,hg⟩:=run_make_own (P:=Tryz.prog) w2 w2.heap.size 132 139 iT (.agg #[.int .i64 0,.int .i64 0,.int .i64 0,.int .i64 0,.int .i64 0,.int .u32 0,.bool false]) 7 Tryz.underlying132 hiT hT0 hT1 .i64 .i64 T.length (by rw [hT2];have:=l7.out;omega) (by have:=l7.out;unfold maxLen;omega) (Nat.le_refl _);have hu3:Bf [] w2 w3:=(Bf.refl _ _).grown hg (by simp);have hkl:Value.slice A2 (keysT T).length C2=Value.slice A2 T.length C2:=by rw [Ie]
   have sP':See KN w2 (.slice A2 T.length C2) P:=by rw [←hkl];exact sP
   rw [hkl];obtain ⟨n,hn⟩:=AO T.length;rw [hn] at hmk hPl hPi jc sP' l7 hrow ⊢;have HP:=Ap sP' hPl hPi a5Y;have H3:=Ai (show KT.row w3 w2.heap.size (.slice (some ⟨w2.heap.size,0,none⟩) 0 n) [] from hrow) hu3;have Fq:=AQ hu2;have HB3:=AQ hu3.size;have l9:=AQ hn;have hnb:(n:Int)<900000:=Ac l7;clear sP sP' pP qP hPl hPi a5Y hrow hg hu3 hu2 hkl hn;go_wp2_with fail
   clear hmk;go_loopg [12,72] n (fun m s12 s72 wr=>∃k A C,m+k=n∧s12=.slice A k C∧s72=.int .i64 (k:Int)∧KT.row wr w2.heap.size (.slice A k C) ((P.take k).map fun i=>T[i]?.getD ⟨0,⟨0,0,0,0,0⟩,false⟩)∧Bf [] w2 wr)
   case atStart=>exact ⟨0,_,_,rfl,rfl,rfl,H3.1,H3.2⟩
   case round=>
    obtain ⟨k,A4,C4,hk,rfl,rfl,hrow,hu⟩:=hrel;have b0:(0:Int)≤(k:Int):=AU _;by_cases hlt:k<n
    ·obtain ⟨i,hi⟩:∃i,P[k]? = some i:=⟨_,AX (by rw [HP.2.1];exact hlt)⟩;have hin:=HP.2.2.1 i (List.mem_of_getElem? hi);obtain ⟨t,ht⟩:∃t,T[i]? = some t:=⟨_,AX (by rw [l9.out];exact hin)⟩;obtain ⟨gp,op,hA2,-,-,cp⟩:=KN.at (HP.1.Bh hu) hi;obtain ⟨gt,ot,hAt,t0,t1,t2,t3,t4,t5,t6⟩:=KT.at ((jc.out.Bh Fq.out).Bh hu) ht;subst hA2 hAt
     have htk:(P.take (k+1)).map (fun i=>T[i]?.getD ⟨0,⟨0,0,0,0,0⟩,false⟩)=(P.take k).map (fun i=>T[i]?.getD ⟨0,⟨0,0,0,0,0⟩,false⟩)++[t]:=by
      rw [List.take_add_one,hi];simp [ht]
     obtain ⟨R,hR⟩:∃R,(P.take k).map (fun i=>T[i]?.getD ⟨0,⟨0,0,0,0,0⟩,false⟩)=R:=⟨_,rfl⟩;rw [hR] at hrow htk;have hRl:R.length=k:=by rw [←hR,List.length_map,Ba,HP.2.1];omega
     obtain ⟨tx,⟨x1,x2,y1,y2,bi⟩,tg⟩:=t;dsimp only at t0 t1 t2 t3 t4 t5 t6 htk;have b1:(k:Int)<(n:Int):=by omega
     have b2:(0:Int)≤(i:Int):=AU _;have b3:(i:Int)<(n:Int):=by omega
     have hrow':wr.ownsRow w2.heap.size 139 7 (.slice A4 k C4) k (KT.all R):=by have:=hrow;unfold Kind.row at this;rw [hRl] at this;exact this
     have LP:=AQ hrow';have HTK:=AQ htk;have HUr:=AQ hu;have HK:=AQ hk;have GY:=AQ hlt;have HRL:=AQ hRl;have HBr:=AQ hu.size;clear hrow hrow' htk hu hk hlt hRl hR ht hi hin;go_wp2_with (at_builtin;refine BL _ rfl _ _ 132 rfl w2.heap.size 139 iT (.agg #[.int .i64 0,.int .i64 0,.int .i64 0,.int .i64 0,.int .i64 0,.int .u32 0,.bool false]) 7 56 Tryz.underlying132 hiT hT0 hT1 hT2 rfl (by decide) _ _ _ rfl (Bg LP.out ((Bf.refl [] _).alloc _) (by simp)) _ 1 [.int .i64 tx,.int .i64 x1,.int .i64 x2,.int .i64 y1,.int .i64 y2,.int .u32 (bi:Int),.bool tg] rfl (BM wr #[.int .i64 tx,.int .i64 x1,.int .i64 x2,.int .i64 y1,.int .i64 y2,.int .u32 (bi:Int),.bool tg] 139 7 1 rfl (by decide)) (by simp [Value.oneCell']) (by have:=l7.out;have:=GY.out;unfold maxLen;omega) (Ad l7 GY) (by have:=HBr.out;simp;omega) ?_)
     intro A6 C6 w6 HP6;have u6:Bf (blk (.slice A4 k C4)) wr w6:=((Bf.refl _ _).alloc _).trans HP6.upd
     have r6:KT.row w6 w2.heap.size (.slice A6 (k+1) C6) (R++[⟨tx,⟨x1,x2,y1,y2,bi⟩,tg⟩]):=by
      have:=HP6.own;unfold Kind.row;rw [Kind.Ci,AY,HRL.out];exact this
     have OJ:=Ai r6 (show Bf [] w2 w6 from HUr.out.trans' u6 (fun j hj=>.inr (BD LP.out j hj)));clear HP6 u6 r6;go_wp2_with fail
     go_roundg (n - (k+1))
     case measure=>have:=HK.out;have:=GY.out;omega
     case rel=>exact ⟨k+1,A6,C6,Ad HK GY,rfl,by go_num,by rw [HTK.out];exact OJ.1,OJ.2⟩
    ·have hkn:k=n:=by omega
     have hpk:P.take k=P:=List.take_of_length_le (by rw [HP.2.1];omega);rw [hpk,hkn] at hrow
     have FD:See KT wr (.slice A4 n C4) (P.map fun i=>T[i]?.getD ⟨0,⟨0,0,0,0,0⟩,false⟩):=by
      have:=See.BX hrow;exact this
     have hq:=HSQ.out wr (Fq.out.trans hu);have tK:=AQ FD;have HUr:=AQ (HU.out.trans (Fq.out.trans hu));have HQ:=AQ hq;have HKN:=AQ hkn;clear hrow FD hq hu hpk hkn hk;go_wp2_with fail
     (with_reducible refine HQ.out.mono ?_);rintro e w7 ⟨A7,C7,rfl,hr7,Oo⟩;have H7:=Aj (See.BX hr7) (tK.out.Bh Oo) (HUr.out.trans Oo);clear hr7 Oo;go_wp2_with fail
     go_ret2
     rw [HTM.1,HTM.2,l9.out,HKN.out];exact ⟨A4,C4,A7,C7,_,rfl,H7.2.1,HP.2.2.2.1,HP.2.2.2.2,H7.1,H7.2.2⟩
