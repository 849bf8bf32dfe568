/- The document's sweep: place; how many nodes are entered, plainly. The document's sweep: how many nodes are entered. The document's area; boxes alike. -/
import Derived.Test.YtkmnbodlciepaaaGreatPk43
import Derived.Test.YtkmnbodlciepaaaGreatPk44
import Derived.Test.YtkmnbodlciepaaaGreatPk48
import Derived.Test.YtkmnbodlciepaaaGreatPk47
import Derived.Test.YtkmnbodlciepaaaGreatPk35
import Derived.Test.YtkmnbodlciepaaaGreatPk17
import Derived.Test.YtkmnbodlciepaaaGreatPk49
import Derived.Test.YtkmnbodlciepaaaGreatPk1
set_option maxHeartbeats 16000000
set_option maxRecDepth 100000
namespace Go.Proofs.YtkmnbodlciepaaaGreat
open Go.RowKit
theorem below_in {M:List Int} (h:M.Pairwise (· < ·)) {x:Int} (hx:x∈M):M[below M x]? = some x:=by
 obtain ⟨i,hi⟩:=List.mem_iff_getElem?.1 hx
 have hat:=below_at (h.imp fun h=>Int.le_of_lt h) x
 have h3:¬i<below M x:=fun hc=>by have:=(hat i x hi).2 hc;omega
 rcases Nat.lt_or_ge (below M x) i with h4 | h4
 ·have hil:=(List.getElem?_eq_some_iff.1 hi).1
  have hb:M[below M x]? = some (M[below M x]'(by omega)):=List.getElem?_eq_getElem _
  have h6:=List.pairwise_iff_getElem.1 h (below M x) i (by omega) hil h4
  rw [(List.getElem?_eq_some_iff.1 hi).2] at h6
  have:=(hat (below M x) _ hb).1 h6
  omega
 ·rw [show below M x=i by omega];exact hi
theorem rplace17 (v:Value) (M:List Int) (x:Int) (w:World) (hs:See KL w v M) (hM:M.Pairwise (· < ·)) (hx:x∈M) (hl:M.length<100000) :
 Calls Tryz.prog 114 #[v,.int .i64 x] w fun e w'=>e=.returned (.int .i64 (below M x:Nat))∧w'=w:=by
 obtain ⟨A,C,rfl⟩:=hs.form
 obtain ⟨n,hn⟩:∃n,M.length=n:=⟨_,rfl⟩
 have hb:=below_in hM hx
 have hat:=below_at (hM.imp fun h=>Int.le_of_lt h) x
 obtain ⟨B,hB⟩:∃B,below M x=B:=⟨_,rfl⟩
 rw [hB] at hb hat ⊢
 have hBn:=(List.getElem?_eq_some_iff.1 hb).1
 rw [hn] at hs hl hBn ⊢
 have HS:=Lib.hid hs
 have HN:=Lib.hid (And.intro hn (And.intro hb hat))
 have HBN:=Lib.hid hBn
 have n1:(n:Int)<100000:=by omega
 clear hs hn hb hat hB hl hM hx
 go_enter Tryz.func114,Tryz.ntmps114
 go_wp2_with fail
 go_loopg [5] B (fun m s5 wr=>∃i,m+i=B∧s5=.int .i64 (i:Int)∧wr=w)
 case atStart=>exact ⟨0,rfl,rfl,rfl⟩
 case round=>
  obtain ⟨i,hi,rfl,rfl⟩:=hrel
  have HI:=Lib.hid hi
  have i0:(0:Int)≤(i:Int):=Int.natCast_nonneg _
  have i1:i<n:=by omega
  have i2:(i:Int)<(n:Int):=by omega
  have i3:(i:Int)<100000:=by omega
  obtain ⟨y,hy⟩:∃y,M[i]? = some y:=⟨_,List.getElem?_eq_getElem (by rw [HN.out.1];exact i1)⟩
  obtain ⟨g,o,hA,-,-,c0⟩:=KL.at HS.out hy
  subst hA
  have hyx:=HN.out.2.2 i y hy
  by_cases hlt:i<B
  ·have d:(y != x)=true:=by rw [bne_iff_ne];have:=hyx.2 hlt;omega
   have HLT:=Lib.hid hlt
   clear hyx hy hi hlt hBn
   go_wp2_with fail
   go_roundg (B - (i+1))
   case measure=>have:=HI.out;have:=HLT.out;omega
   case rel=>exact ⟨i+1,by have:=HI.out;have:=HLT.out;omega,by go_num,rfl⟩
  ·have hiB:i=B:=by omega
   have hyy:y=x:=by rw [hiB,HN.out.2.1] at hy;exact (Option.some.inj hy).symm
   have d:(y != x)=false:=by rw [hyy];exact bne_self_eq_false x
   have HIB:=Lib.hid hiB
   clear hyx hy hi hlt hBn hyy hiB
   go_wp2_with fail
   go_ret
   exact ⟨by rw [←HIB.out];rfl,rfl⟩
def entB (Y:List Int) (b:Bx):Nat:=if b.counts=true then 2*entN (below Y b.y1,below Y b.y2) (Y.length - 1) else 0
def entE (l:List Bx):Nat:=(l.map (entB (sqz (linY l)))).sum
theorem linY_tk {l:List Bx} {i:Nat} {b:Bx} (h:l[i]? = some b):linY (l.take (i+1))=linY (l.take i)++(if b.counts=true then [b.y1,b.y2] else []):=by
 unfold linY
 rw [List.take_add_one,h,Option.toList_some,List.filter_append,List.flatMap_append]
 congr 1
 cases hb:b.counts<;>simp [hb]
theorem linY_lenE (l:List Bx):(linY l).length≤2*l.length:=by
 induction l with
 |nil=>simp [linY]
 |cons b l ih=>
  unfold linY at *
  rw [List.filter_cons]
  split
  ·simp only [List.flatMap_cons,List.length_append,List.length_cons,List.length_nil];omega
  ·simp only [List.length_cons];omega
theorem ent_sum_take {Y:List Int} {l:List Bx} {i:Nat} {b:Bx} (h:l[i]? = some b):((l.take (i+1)).map (entB Y)).sum=((l.take i).map (entB Y)).sum+entB Y b:=by
 rw [List.take_add_one,h,Option.toList_some,List.map_append,List.sum_append]
 simp
theorem entN_small {a b n:Nat} (hn:n<1000000):entN (a,b) n≤100:=by
 unfold entN
 split
 ·omega
 ·have h1:=ent_any (a:=a) (b:=b) n 0 n (by omega)
  have h2:lg (n - 0)≤20:=bitsN_le _ 20 (by omega)
  dsimp only
  omega
theorem rnodes_neg (w:World):Calls Tryz.prog 112 #[.int .i64 0,.int .i64 (-1),.int .i64 0] w fun e w'=>e=.returned (.slice none 0 0)∧w=w':=by
 go_enter Tryz.func112,Tryz.ntmps112
 go_wp2_with fail
 go_ret
 exact ⟨rfl,rfl⟩
theorem rnodes_z (y:Nat) (hn:y<1000) (w:World):Calls Tryz.prog 112 #[.int .i64 0,.int .i64 ((y:Int) - 1),.int .i64 0] w fun e w'=>
 ∃A C,e=.returned (.slice A (nodesN (y - 1)).length C)∧See KD w' (.slice A (nodesN (y - 1)).length C) (nodesN (y - 1))∧Upd [] w w':=by
 by_cases h:y=0
 ·subst h
  refine Calls.mono (rnodes_neg w:Calls _ _ #[.int .i64 0,.int .i64 (((0:Nat):Int) - 1),.int .i64 0] w _) ?_
  rintro e w' ⟨rfl,rfl⟩
  exact ⟨none,0,rfl,⟨rfl,.inl ⟨rfl,rfl⟩⟩,Upd.refl _ _⟩
 ·have:=rnodes_all (y - 1) (by omega) w
  rw [show ((y - 1:Nat):Int)=(y:Int) - 1 by omega] at this
  exact this
theorem linY_mem {l:List Bx} {b:Bx} (h:b∈l) (hc:b.counts=true):b.y1∈linY l∧b.y2∈linY l:=by
 unfold linY
 constructor<;>exact List.mem_flatMap.2 ⟨b,List.mem_filter.2 ⟨h,hc⟩,by simp⟩
theorem entB_le (Y:List Int) (b:Bx) (h:Y.length<1000000):entB Y b≤200:=by
 unfold entB
 split
 ·have:=entN_small (a:=below Y b.y1) (b:=below Y b.y2) (n:=Y.length - 1) (by omega);omega
 ·omega
theorem ent_sum_le (Y:List Int) (h:Y.length<1000000):∀l:List Bx,(l.map (entB Y)).sum≤200*l.length
 | []=>by simp
 |b::l=>by
  have h1:=entB_le Y b h
  have h2:=ent_sum_le Y h l
  simp only [List.map_cons,List.sum_cons,List.length_cons]
  omega
theorem renteredE (v:Value) (l:List Bx) (w:World) (hs:See KBx w v l) (hl:l.length<400) :
 Calls Tryz.prog 55 #[v] w fun e w'=>e=.returned (.int .i64 (entE l:Nat))∧Upd [] w w':=by
 obtain ⟨i1,hi1,hy0,hy1,hy2⟩:=info_parts kl_info
 obtain ⟨A,C,rfl⟩:=hs.form
 obtain ⟨n,hn⟩:∃n,l.length=n:=⟨_,rfl⟩
 obtain ⟨E,hE⟩:∃E,entE l=E:=⟨_,rfl⟩
 have htl:∀k,(linY (l.take k)).length<800:=fun k=>by have:=linY_lenE (l.take k);have:=List.length_take_le' k l;omega
 rw [hn] at hs hl
 rw [hE,hn]
 have HS:=Lib.hid hs
 have HN:=Lib.hid hn
 have HE:=Lib.hid hE
 have HTLN:=Lib.hid htl
 have n1:(n:Int)<400:=by omega
 clear hs hn hE hl htl
 go_enter Tryz.func55,Tryz.ntmps55
 go_wp2_with fail
 go_loopg [3,4] n (fun m s3 s4 wr=>∃k A1 C1,m+k=n∧s3=.slice A1 (linY (l.take k)).length C1∧s4=.int .i64 (k:Int)∧KL.row wr w.heap.size (.slice A1 (linY (l.take k)).length C1) (linY (l.take k))∧Upd [] w wr)
 case atStart=>exact ⟨0,none,0,rfl,rfl,rfl,World.ownsRow_nil _ _ _ _,Upd.refl _ _⟩
 case round=>
  obtain ⟨k,A1,C1,hk,rfl,rfl,hr,hu⟩:=hrel
  have HK:=Lib.hid hk
  have k0:(0:Int)≤(k:Int):=Int.natCast_nonneg _
  have k2:(k:Int)<400:=by omega
  by_cases hlt:k<n
  ·obtain ⟨b,hb⟩:∃b,l[k]? = some b:=⟨_,List.getElem?_eq_getElem (by rw [HN.out];exact hlt)⟩
   obtain ⟨g,o,hA,-,-,c0,c1,c2,c3,c4⟩:=KBx.at (HS.out.upd0 hu) hb
   subst hA
   have htk:=linY_tk hb
   have htl2:=HTLN.out k
   obtain ⟨T,hT⟩:∃T,linY (l.take k)=T:=⟨_,rfl⟩
   rw [hT] at htk hr htl2 ⊢
   have k1:(k:Int)<(n:Int):=by omega
   have HTL:=Lib.hid htl2
   have HLT:=Lib.hid hlt
   have HB:=Lib.hid hb
   have HR:=Lib.hid (And.intro hr hu)
   have HCO:=Lib.hid (fun w=>show Calls Tryz.prog 109 #[.agg #[.int .i64 b.x1,.int .i64 b.x2,.int .i64 b.y1,.int .i64 b.y2,.int .u32 (b.id:Int)]] w fun e w'=>e=.returned (.bool b.counts)∧Upd [] w w' from rcountsC b w)
   obtain ⟨cn,hcn⟩:∃c,b.counts=c:=⟨_,rfl⟩
   rw [hcn] at HCO htk
   have HTK:=Lib.hid htk
   clear hlt hb hr hu htk htl2 hT hcn hk
   cases cn
   ·go_wp2_with fail
    (with_reducible refine (HCO.out _).mono ?_)
    rintro e w1 ⟨rfl,hu1⟩
    have HU1:=Lib.hid hu1
    clear hu1 c0 c1 c2 c3 c4
    go_wp2_with fail
    go_roundg (n - (k+1))
    case measure=>have:=HK.out;have:=HLT.out;omega
    case rel=>
     have e:linY (l.take (k+1))=T:=by rw [HTK.out];simp
     refine ⟨k+1,A1,C1,by have:=HK.out;have:=HLT.out;omega,?_,by go_num,?_,HR.out.2.trans HU1.out⟩
     ·rw [e]
     ·rw [e];exact own_upd HR.out.1 HU1.out (by simp)
   ·go_wp2_with fail
    (with_reducible refine (HCO.out _).mono ?_)
    rintro e w1 ⟨rfl,hu1⟩
    have HR1:=Lib.hid (And.intro (own_upd HR.out.1 hu1 (by simp)) (HR.out.2.trans hu1))
    clear c0 c1 c2 c3 c4 hu1
    obtain ⟨g',o',hA',-,-,c0,c1,c2,c3,c4⟩:=KBx.at (HS.out.upd0 HR1.out.2) HB.out
    obtain ⟨rfl,rfl⟩:g=g'∧o=o':=by simp at hA';exact ⟨hA'.1,hA'.2⟩
    clear hA' c0 c1 c4
    go_upto_region 6 with fail
    refine GoT.start [11,12,13] (fun w'=>w'.cell? ⟨g,o+k*5+2,none⟩=some (.int .i64 b.y1)∧w'.cell? ⟨g,o+k*5+3,none⟩=some (.int .i64 b.y2)) (by kernel_rfl) ?_ fun hS=>?_
    ·exact ⟨(by first | exact c2 | simpa using c2),(by first | exact c3 | simpa using c3)⟩
    refine' GoT.mv (i:=0) (oi:=⟨some 21,_,_,_,_,_⟩) rfl (by rfl) ?y6_0 ?_
    case y6_0=>intro w;go_simp<;>with_reducible rfl
    simp only [Act.put,sA,sZ,sS]
    refine' GoT.mv (i:=1) (oi:=⟨some 22,_,_,_,_,_⟩) rfl (by rfl) ?y6_1 ?_
    case y6_1=>intro w;go_simp<;>with_reducible rfl
    simp only [Act.put,sA,sZ,sS]
    refine' GoT.mv (i:=2) (oi:=⟨some 23,_,_,_,_,_⟩) rfl (by rfl) ?y6_2 ?_
    case y6_2=>intro w;go_simp<;>with_reducible rfl
    simp only [Act.put,sA,sZ,sS]
    refine' GoT.mv (i:=3) (oi:=⟨some 24,_,_,_,_,_⟩) rfl (by rfl) ?y6_3 ?_
    case y6_3=>intro w;go_simp<;>with_reducible rfl
    simp only [Act.put,sA,sZ,sS]
    refine' GoT.mv (i:=4) (oi:=⟨some 25,_,_,_,_,_⟩) rfl (by rfl) ?y6_4 ?_
    case y6_4=>intro w;go_simp<;>with_reducible rfl
    simp only [Act.put,sA,sZ,sS]
    refine' GoT.tk 2 (i:=5) (oi:=⟨some 26,_,_,_,_,_⟩) rfl (by rfl) ?y6_5 ?_
    case y6_5=>intro w hSw;obtain ⟨c2,c3⟩:=hSw;go_simp<;>with_reducible rfl
    simp only [Act.put,sA,sZ,sS]
    refine' GoT.mv (i:=6) (oi:=⟨some 27,_,_,_,_,_⟩) rfl (by rfl) ?y6_6 ?_
    case y6_6=>intro w;go_simp<;>with_reducible rfl
    simp only [Act.put,sA,sZ,sS]
    refine' GoT.mv (i:=7) (oi:=⟨some 28,_,_,_,_,_⟩) rfl (by rfl) ?y6_7 ?_
    case y6_7=>intro w;go_simp<;>with_reducible rfl
    simp only [Act.put,sA,sZ,sS]
    refine' GoT.mv (i:=8) (oi:=⟨some 29,_,_,_,_,_⟩) rfl (by rfl) ?y6_8 ?_
    case y6_8=>intro w;go_simp<;>with_reducible rfl
    simp only [Act.put,sA,sZ,sS]
    refine' GoT.mv (i:=9) (oi:=⟨some 30,_,_,_,_,_⟩) rfl (by rfl) ?y6_9 ?_
    case y6_9=>intro w;go_simp<;>with_reducible rfl
    simp only [Act.put,sA,sZ,sS]
    refine' GoT.tk 2 (i:=10) (oi:=⟨some 31,_,_,_,_,_⟩) rfl (by rfl) ?y6_10 ?_
    case y6_10=>intro w hSw;obtain ⟨c2,c3⟩:=hSw;go_simp<;>with_reducible rfl
    simp only [Act.put,sA,sZ,sS]
    refine GoT.one (i:=11) (o:=⟨some 32,_,_,_,_,_⟩) rfl (by kernel_rfl) fun K hK=>?_
    go_simp
    refine hK.out _ _ (fun h=>(by cases h)) ?_
    clear hK K
    try simp only [Act.put,sA,sZ,sS]
    refine GoT.one (i:=12) (o:=⟨some 33,_,_,_,_,_⟩) rfl (by kernel_rfl) fun K hK=>?_
    refine step_app _ (by rfl) _ _ 82 (by rfl) w.heap.size 2 i1 (.int .i64 0) 1 8 Tryz.underlying82 hi1 hy0 hy1 hy2 rfl (by decide) _ T.length (KL.all T) (by rfl) (own_upd HR1.out.1 ((Upd.refl [] w1).drew.alloc _) (by simp)) _ 2 [.int .i64 b.y1,.int .i64 b.y2] (by rfl) (sees_lit _ #[.int .i64 b.y1,.int .i64 b.y2] 2 1 2 rfl (by decide)) (by simp [Value.oneCell']) (by have:=HTL.out;unfold maxLen;omega) (by have:=HTL.out;omega) (by have h1:=HR1.out.2.size;simp;omega) ?_
    intro A1 C1 w2 HP
    have hu2:Upd [] w w2:=(((HR1.out.2).drew).alloc _).trans' HP.upd (fun y hy=>.inr (own_ge HR1.out.1 y hy))
    have hr2:KL.row w2 w.heap.size (.slice A1 (T.length+2) C1) (T++[b.y1,b.y2]):=by
     have h:=HP.own
     unfold Kind.row
     rw [Kind.all_app,List.length_append]
     exact h
    have HR2:=Lib.hid (And.intro hr2 hu2)
    clear HP hu2 hr2
    refine hK.out _ _ (fun h=>(by cases h)) ?_
    clear hK K
    try simp only [Act.put,sA,sZ,sS]
    refine' GoT.mv (i:=13) (oi:=⟨some 3,_,_,_,_,_⟩) rfl (by rfl) ?y6_13 ?_
    case y6_13=>intro w;go_simp<;>with_reducible rfl
    simp only [Act.put,sA,sZ,sS]
    refine GoT.done (by kernel_rfl) ?_
    go_wp2_with fail
    go_roundg (n - (k+1))
    case measure=>have:=HK.out;have:=HLT.out;omega
    case rel=>
     have e:linY (l.take (k+1))=T++[b.y1,b.y2]:=by rw [HTK.out];simp
     have e2:(T++[b.y1,b.y2]).length=T.length+2:=by simp
     refine ⟨k+1,A1,C1,by have:=HK.out;have:=HLT.out;omega,?_,by go_num,?_,HR2.out.2⟩
     ·rw [e,e2]
     ·rw [e,e2];exact HR2.out.1
  ·have hkn:k=n:=by have:=HK.out;omega
   subst hkn
   have e1:l.take k=l:=by rw [←HN.out,List.take_length]
   have htl2:=HTLN.out k
   rw [e1] at hr htl2 ⊢
   obtain ⟨T,hT⟩:∃T,linY l=T:=⟨_,rfl⟩
   obtain ⟨Y,hY⟩:∃Y,sqz T=Y:=⟨_,rfl⟩
   have hYr:Y.Pairwise (· < ·):=by rw [←hY];exact sqz_rise _
   have hYl:Y.length<800:=by have:=sqz_len T;rw [hY] at this;rw [hT] at htl2;omega
   rw [hT] at hr htl2 ⊢
   have hmem:∀b∈l,b.counts=true→b.y1∈Y∧b.y2∈Y:=fun b hb hc=>by
    have h:=linY_mem hb hc
    rw [hT] at h
    rw [←hY]
    exact ⟨mem_sqz h.1,mem_sqz h.2⟩
   have HSQ:=Lib.hid (show Calls Tryz.prog 111 #[.slice A1 T.length C1] wr fun e w'=>∃A C,e=.returned (.slice A Y.length C)∧See KL w' (.slice A Y.length C) Y∧Upd [] wr w' from by
    have:=rsqueezeC _ T wr (See.of_row hr) (by omega)
    refine this.mono ?_
    rintro e w' ⟨A2,C2,rfl,h2,h3⟩
    rw [hY] at h2 ⊢
    exact ⟨A2,C2,rfl,See.of_row h2,h3⟩)
   have HU:=Lib.hid hu
   have HY:=Lib.hid (And.intro hYr (And.intro hmem (show entE l=(l.map (entB Y)).sum by unfold entE;rw [hT,hY])))
   have HYL:=Lib.hid hYl
   obtain ⟨y,hy⟩:∃y,Y.length=y:=⟨_,rfl⟩
   have HYY:=Lib.hid hy
   have y0:(0:Int)≤(y:Int):=Int.natCast_nonneg _
   have y1:(y:Int)<800:=by omega
   have HNO:=Lib.hid (rnodes_z y (by omega))
   obtain ⟨L,hL⟩:∃L,nodesN (y - 1)=L:=⟨_,rfl⟩
   rw [hL] at HNO
   have HL:=Lib.hid hL
   rw [hy] at HSQ
   clear hk hlt e1 hr hu htl2 hT hY hYr hYl hmem hy hL
   go_wp2_with fail
   (with_reducible refine (HSQ.out).mono ?_)
   rintro e w1 ⟨A2,C2,rfl,hsY,hu1⟩
   have HU1:=Lib.hid (HU.out.trans hu1)
   have HSY1:=Lib.hid hsY
   clear hsY hu1
   go_wp2_with fail
   (with_reducible refine (HNO.out _).mono ?_)
   rintro e w2 ⟨A3,C3,rfl,hsN,hu2⟩
   have HU2:=Lib.hid (HU1.out.trans hu2)
   have HSY2:=Lib.hid (HSY1.out.upd0 hu2)
   have HSN2:=Lib.hid hsN
   clear hsN hu2
   go_wp2_with fail
   go_loopg [6,7] k (fun m s6 s7 wq=>∃j,m+j=k∧s6=.int .i64 ((((l.take j).map (entB Y)).sum:Nat):Int)∧s7=.int .i64 (j:Int)∧Upd [] w2 wq)
   case atStart=>exact ⟨0,rfl,rfl,rfl,Upd.refl _ _⟩
   case round=>
    obtain ⟨j,hj,rfl,rfl,hu⟩:=hrel
    have HJ:=Lib.hid hj
    have j0:(0:Int)≤(j:Int):=Int.natCast_nonneg _
    have j2:(j:Int)<400:=by omega
    have HUJ:=Lib.hid hu
    by_cases hlt:j<k
    ·obtain ⟨b,hb⟩:∃b,l[j]? = some b:=⟨_,List.getElem?_eq_getElem (by rw [HN.out];exact hlt)⟩
     obtain ⟨g,o,hA,-,-,c0,c1,c2,c3,c4⟩:=KBx.at (HS.out.upd0 (HU2.out.trans hu)) hb
     subst hA
     have hst:=ent_sum_take (Y:=Y) hb
     have hsl:=ent_sum_le Y (by have:=HYL.out;omega) (l.take j)
     have hjl:=List.length_take_le j l
     obtain ⟨Z,hZ⟩:∃Z,((l.take j).map (entB Y)).sum=Z:=⟨_,rfl⟩
     rw [hZ] at hst hsl ⊢
     have z0:(0:Int)≤(Z:Int):=Int.natCast_nonneg _
     have z1:(Z:Int)<100000:=by omega
     have j1:(j:Int)<(k:Int):=by omega
     have HLT:=Lib.hid hlt
     have HB:=Lib.hid hb
     have HCO:=Lib.hid (fun w=>show Calls Tryz.prog 109 #[.agg #[.int .i64 b.x1,.int .i64 b.x2,.int .i64 b.y1,.int .i64 b.y2,.int .u32 (b.id:Int)]] w fun e w'=>e=.returned (.bool b.counts)∧Upd [] w w' from rcountsC b w)
     obtain ⟨cn,hcn⟩:∃c,b.counts=c:=⟨_,rfl⟩
     have HCN:=Lib.hid hcn
     rw [hcn] at HCO
     have HST:=Lib.hid hst
     clear hlt hb hu hst hsl hjl hZ hcn hj
     cases cn
     ·go_wp2_with fail
      (with_reducible refine (HCO.out _).mono ?_)
      rintro e w3 ⟨rfl,hu1⟩
      have HU3:=Lib.hid hu1
      clear hu1 c0 c1 c2 c3 c4
      go_wp2_with fail
      go_roundg (k - (j+1))
      case measure=>have:=HJ.out;have:=HLT.out;omega
      case rel=>
       have e:entB Y b=0:=by unfold entB;rw [HCN.out];rfl
       refine ⟨j+1,by have:=HJ.out;have:=HLT.out;omega,?_,by go_num,HUJ.out.trans HU3.out⟩
       rw [HST.out,e]
       rfl
     ·have hm:=HY.out.2.1 b (List.mem_of_getElem? HB.out) HCN.out
      have hyl:b.y1<b.y2:=by have:=HCN.out;unfold Bx.counts at this;simp at this;omega
      have hp1:=below_in HY.out.1 hm.1
      have hp2:=below_in HY.out.1 hm.2
      have hlt12:=(below_at (HY.out.1.imp fun h=>Int.le_of_lt h) b.y2 _ _ hp1).1 hyl
      have hp2l:=(List.getElem?_eq_some_iff.1 hp2).1
      have HPL1:=Lib.hid (fun w' (h:See KL w' (.slice A2 y C2) Y)=>rplace17 (.slice A2 y C2) Y b.y1 w' h HY.out.1 hm.1 (by have:=HYL.out;omega))
      have HPL2:=Lib.hid (fun w' (h:See KL w' (.slice A2 y C2) Y)=>rplace17 (.slice A2 y C2) Y b.y2 w' h HY.out.1 hm.2 (by have:=HYL.out;omega))
      have hen:entB Y b=2*entN (below Y b.y1,below Y b.y2) (y - 1):=by unfold entB;rw [HCN.out,if_pos rfl,HYY.out]
      obtain ⟨p1,hq1⟩:∃p,below Y b.y1=p:=⟨_,rfl⟩
      obtain ⟨p2,hq2⟩:∃p,below Y b.y2=p:=⟨_,rfl⟩
      rw [hq1] at HPL1 hen hlt12
      rw [hq2] at HPL2 hen hlt12 hp2l
      have hca:∀w',See KD w' (.slice A3 L.length C3) L→Calls Tryz.prog 113 #[.slice A3 L.length C3,.int .i64 (p1:Int),.int .i64 (p2:Int)] w' fun e w''=>∃v,e=.returned (.tuple #[v,.int .i64 (entN (p1,p2) (y - 1):Int)])∧Upd [] w' w'':=fun w' h=>
       rcanonC _ (y - 1) p1 p2 (by have:=HYL.out;have:=HYY.out;omega) (by omega) (by have:=HYY.out;omega) w' (by rw [HL.out];exact h)
      have hsm:=entN_small (a:=p1) (b:=p2) (n:=y - 1) (by have:=HYL.out;have:=HYY.out;omega)
      obtain ⟨N,hN⟩:∃N,entN (p1,p2) (y - 1)=N:=⟨_,rfl⟩
      rw [hN] at hca hsm hen
      have HCA:=Lib.hid hca
      have HEN:=Lib.hid hen
      have m0:(0:Int)≤(N:Int):=Int.natCast_nonneg _
      have m1:(N:Int)≤100:=by omega
      clear hm hyl hp1 hp2 hlt12 hp2l hen hq1 hq2 hca hsm hN
      go_wp2_with fail
      (with_reducible refine (HCO.out _).mono ?_)
      rintro e w1 ⟨rfl,hu1⟩
      have HU3:=Lib.hid (HUJ.out.trans hu1)
      have HSY:=Lib.hid (HSY2.out.upd0 HU3.out)
      have HSN:=Lib.hid (HSN2.out.upd0 HU3.out)
      clear c0 c1 c2 c3 c4 hu1
      obtain ⟨g',o',hA',-,-,c0,c1,c2,c3,c4⟩:=KBx.at (HS.out.upd0 (HU2.out.trans HU3.out)) HB.out
      obtain ⟨rfl,rfl⟩:g=g'∧o=o':=by simp at hA';exact ⟨hA'.1,hA'.2⟩
      clear hA' c0 c1 c4
      go_upto_region 14 with fail
      refine GoT.start [14,15,16,17,18,19,20] (fun w'=>w'.cell? ⟨g,o+j*5+2,none⟩=some (.int .i64 b.y1)∧w'.cell? ⟨g,o+j*5+3,none⟩=some (.int .i64 b.y2)) (by kernel_rfl) ?_ fun hS=>?_
      ·exact ⟨(by first | exact c2 | simpa using c2),(by first | exact c3 | simpa using c3)⟩
      refine' GoT.mv (i:=0) (oi:=⟨some 52,_,_,_,_,_⟩) rfl (by rfl) ?y14_0 ?_
      case y14_0=>intro w;go_simp<;>with_reducible rfl
      simp only [Act.put,sA,sZ,sS]
      refine' GoT.mv (i:=1) (oi:=⟨some 53,_,_,_,_,_⟩) rfl (by rfl) ?y14_1 ?_
      case y14_1=>intro w;go_simp<;>with_reducible rfl
      simp only [Act.put,sA,sZ,sS]
      refine' GoT.mv (i:=2) (oi:=⟨some 54,_,_,_,_,_⟩) rfl (by rfl) ?y14_2 ?_
      case y14_2=>intro w;go_simp<;>with_reducible rfl
      simp only [Act.put,sA,sZ,sS]
      refine' GoT.mv (i:=3) (oi:=⟨some 55,_,_,_,_,_⟩) rfl (by rfl) ?y14_3 ?_
      case y14_3=>intro w;go_simp<;>with_reducible rfl
      simp only [Act.put,sA,sZ,sS]
      refine' GoT.mv (i:=4) (oi:=⟨some 56,_,_,_,_,_⟩) rfl (by rfl) ?y14_4 ?_
      case y14_4=>intro w;go_simp<;>with_reducible rfl
      simp only [Act.put,sA,sZ,sS]
      refine' GoT.mv (i:=5) (oi:=⟨some 57,_,_,_,_,_⟩) rfl (by rfl) ?y14_5 ?_
      case y14_5=>intro w;go_simp<;>with_reducible rfl
      simp only [Act.put,sA,sZ,sS]
      refine' GoT.tk 4 (i:=6) (oi:=⟨some 58,_,_,_,_,_⟩) rfl (by rfl) ?y14_6 ?_
      case y14_6=>intro w hSw;obtain ⟨c2,c3⟩:=hSw;go_simp<;>with_reducible rfl
      simp only [Act.put,sA,sZ,sS]
      refine' GoT.mv (i:=8) (oi:=⟨some 60,_,_,_,_,_⟩) rfl (by rfl) ?y14_8 ?_
      case y14_8=>intro w;go_simp<;>with_reducible rfl
      simp only [Act.put,sA,sZ,sS]
      refine' GoT.mv (i:=9) (oi:=⟨some 61,_,_,_,_,_⟩) rfl (by rfl) ?y14_9 ?_
      case y14_9=>intro w;go_simp<;>with_reducible rfl
      simp only [Act.put,sA,sZ,sS]
      refine' GoT.mv (i:=10) (oi:=⟨some 62,_,_,_,_,_⟩) rfl (by rfl) ?y14_10 ?_
      case y14_10=>intro w;go_simp<;>with_reducible rfl
      simp only [Act.put,sA,sZ,sS]
      refine' GoT.mv (i:=11) (oi:=⟨some 63,_,_,_,_,_⟩) rfl (by rfl) ?y14_11 ?_
      case y14_11=>intro w;go_simp<;>with_reducible rfl
      simp only [Act.put,sA,sZ,sS]
      refine' GoT.mv (i:=12) (oi:=⟨some 64,_,_,_,_,_⟩) rfl (by rfl) ?y14_12 ?_
      case y14_12=>intro w;go_simp<;>with_reducible rfl
      simp only [Act.put,sA,sZ,sS]
      refine' GoT.tk 4 (i:=13) (oi:=⟨some 65,_,_,_,_,_⟩) rfl (by rfl) ?y14_13 ?_
      case y14_13=>intro w hSw;obtain ⟨c2,c3⟩:=hSw;go_simp<;>with_reducible rfl
      simp only [Act.put,sA,sZ,sS]
      refine GoT.one (i:=7) (o:=⟨some 59,_,_,_,_,_⟩) rfl (by kernel_rfl) fun K hK=>?_
      go_simp
      go_at_call 114
      (with_reducible refine (HPL1.out _ (HSY.out.upd0 (Upd.refl [] w1).drew)).mono ?_)
      rintro e _ ⟨rfl,rfl⟩
      refine hK.out _ _ (fun _ h=>?_) ?_
      ·exact h
      clear hK K
      try simp only [Act.put,sA,sZ,sS]
      refine GoT.one (i:=14) (o:=⟨some 66,_,_,_,_,_⟩) rfl (by kernel_rfl) fun K hK=>?_
      go_simp
      go_at_call 114
      (with_reducible refine (HPL2.out _ (HSY.out.upd0 (Upd.refl [] w1).drew)).mono ?_)
      rintro e _ ⟨rfl,rfl⟩
      refine hK.out _ _ (fun h=>(by cases h)) ?_
      clear hK K
      try simp only [Act.put,sA,sZ,sS]
      refine GoT.one (i:=15) (o:=⟨some 67,_,_,_,_,_⟩) rfl (by kernel_rfl) fun K hK=>?_
      go_simp
      go_at_call 113
      (with_reducible refine (HCA.out _ (HSN.out.upd0 (Upd.refl [] w1).drew)).mono ?_)
      rintro e w2 ⟨cv,rfl,hu2⟩
      have HU2b:=Lib.hid ((Upd.refl [] w1).drew.trans hu2)
      clear hu2
      refine hK.out _ _ (fun h=>(by cases h)) ?_
      clear hK K
      try simp only [Act.put,sA,sZ,sS]
      refine' GoT.mv (i:=16) (oi:=⟨some 51,_,_,_,_,_⟩) rfl (by rfl) ?y14_16 ?_
      case y14_16=>intro w;go_simp<;>with_reducible rfl
      simp only [Act.put,sA,sZ,sS]
      refine' GoT.mv (i:=17) (oi:=⟨some 68,_,_,_,_,_⟩) rfl (by rfl) ?y14_17 ?_
      case y14_17=>intro w;go_simp<;>with_reducible rfl
      simp only [Act.put,sA,sZ,sS]
      refine' GoT.mv (i:=18) (oi:=⟨some 69,_,_,_,_,_⟩) rfl (by rfl) ?y14_18 ?_
      case y14_18=>intro w;go_simp<;>with_reducible rfl
      simp only [Act.put,sA,sZ,sS]
      refine' GoT.mv (i:=19) (oi:=⟨some 8,_,_,_,_,_⟩) rfl (by rfl) ?y14_19 ?_
      case y14_19=>intro w;go_simp<;>with_reducible rfl
      simp only [Act.put,sA,sZ,sS]
      refine' GoT.mv (i:=20) (oi:=⟨some 9,_,_,_,_,_⟩) rfl (by rfl) ?y14_20 ?_
      case y14_20=>intro w;go_simp<;>with_reducible rfl
      simp only [Act.put,sA,sZ,sS]
      refine GoT.done (by kernel_rfl) ?_
      go_wp2_with fail
      go_roundg (k - (j+1))
      case measure=>have:=HJ.out;have:=HLT.out;omega
      case rel=>
       refine ⟨j+1,by have:=HJ.out;have:=HLT.out;omega,?_,by go_num,HU3.out.trans HU2b.out⟩
       rw [HST.out,HEN.out]
       push_cast
       go_num
    ·have hjk:j=k:=by have:=HJ.out;omega
     subst hjk
     have e1:l.take j=l:=by rw [←HN.out,List.take_length]
     have e2:((l.map (entB Y)).sum:Nat)=E:=by rw [←HY.out.2.2];exact HE.out
     rw [e1,e2]
     clear hlt e1 e2 hj
     go_wp2_with fail
     go_ret
     exact ⟨rfl,HU2.out.trans HUJ.out⟩
theorem rallC (w:World):Calls Tryz.prog 54 #[] w fun e w'=>e=.returned (bxV allB)∧Upd [] w w':=by
 unfold bxV allB
 dsimp only
 have hb0:BxAt (w.alloc (.cells #[.int .i64 0,.int .i64 0,.int .i64 0,.int .i64 0,.int .u32 0] 59)) w.heap.size ⟨0,0,0,0,0⟩:=heap_alloc_new w _
 have HU:=Lib.hid (show Upd [] w (w.alloc (.cells #[.int .i64 0,.int .i64 0,.int .i64 0,.int .i64 0,.int .u32 0] 59)) from (Upd.refl _ _).alloc _)
 have HQ:=Lib.hid (Nat.le_refl w.heap.size)
 have HB:=Lib.hid hb0
 clear hb0
 go_enter Tryz.func54,Tryz.ntmps54
 go_upto_region 1 with fail
 generalize (w.alloc (.cells #[.int .i64 0,.int .i64 0,.int .i64 0,.int .i64 0,.int .u32 0] 59))=W at HB HU ⊢
 have HQ2:w.heap.size≤w.heap.size:=Nat.le_refl _
 generalize hq:w.heap.size=q at HB HQ2 ⊢
 obtain ⟨z0,z1,z2,z3,z4,zf⟩:=HB.out.cells
 dsimp only at z0 z1 z2 z3 z4
 have zf0:=zf 0
 have zf1:=zf 1
 have zf2:=zf 2
 have zf3:=zf 3
 have zf4:=zf 4
 have hp:=HB.out.put (-9223372036854775808) 9223372036854775807 (-9223372036854775808) 9223372036854775807 0
 have hup:Upd [] w (((((W.setCell ⟨q,0,none⟩ (.int .i64 (-9223372036854775808))).setCell ⟨q,1,none⟩ (.int .i64 9223372036854775807)).setCell ⟨q,2,none⟩ (.int .i64 (-9223372036854775808))).setCell ⟨q,3,none⟩ (.int .i64 9223372036854775807)).setCell ⟨q,4,none⟩ (.int .u32 0)):=
  ((((HU.out.setCell (.inr (by rw [hq];exact HQ2)) _).setCell (.inr (by rw [hq];exact HQ2)) _).setCell (.inr (by rw [hq];exact HQ2)) _).setCell (.inr (by rw [hq];exact HQ2)) _).setCell (.inr (by rw [hq];exact HQ2)) _
 have HP:=Lib.hid (And.intro hp hup)
 clear zf hp hup
 go_wp2_with fail
 obtain ⟨y0,y1,y2,y3,y4,-⟩:=HP.out.1.cells
 dsimp only at y0 y1 y2 y3 y4
 have y4':=y4
 rw [show (((0:Nat):Int))=0 from rfl] at y0 y1 y2 y3 y4
 exact bodyPost_ret (v:=.agg #[.int .i64 (-9223372036854775808),.int .i64 9223372036854775807,.int .i64 (-9223372036854775808),.int .i64 9223372036854775807,.int .u32 0]) (by simp [results,Tryz.results54,go_sem,y0,y1,y2,y3,y4]) rfl ⟨rfl,HP.out.2⟩
theorem rareaC (v:Value) (l:List Bx) (w:World) (hs:See KBx w v l) (hl:l.length<400) (hin:∀b∈l,b.in64) :
 Calls Tryz.prog 28 #[v] w fun e w'=>e=.returned (.tuple #[wideZ (cellsI 0 0 l allB),.int .i64 (entE l:Nat)])∧Upd [] w w':=by
 have hce:∀W,See KBx W v l→Calls Tryz.prog 53 #[v,.int .i64 0,bxV allB,.int .i64 0,.int .i64 0] W fun e w'=>e=.returned (wideZ (cellsI 0 0 l allB))∧Upd [] W w':=fun W h=>by
  have:=rcellsZ v l 0 0 (by omega) (by omega) hin l.length 0 allB W (by omega) (Nat.zero_le _) (by unfold Bx.in64 allB;decide) (by decide) (by decide) h
  rw [List.drop_zero] at this
  exact this
 have hen:=fun W (h:See KBx W v l)=>renteredE v l W h hl
 obtain ⟨E,hE⟩:∃E,entE l=E:=⟨_,rfl⟩
 rw [hE] at hen ⊢
 obtain ⟨Z,hZ⟩:∃Z,cellsI 0 0 l allB=Z:=⟨_,rfl⟩
 rw [hZ] at hce ⊢
 unfold wideZ at hce ⊢
 obtain ⟨a,ha⟩:∃a,zh Z=a:=⟨_,rfl⟩
 obtain ⟨b,hb⟩:∃a,zl Z=a:=⟨_,rfl⟩
 rw [ha,hb] at hce ⊢
 have hal:=rallC
 unfold bxV allB at hce hal
 dsimp only at hce hal
 have HCE:=Lib.hid (show ∀W,See KBx W v l→Calls Tryz.prog 53 #[v,.int .i64 0,.agg #[.int .i64 (-9223372036854775808),.int .i64 9223372036854775807,.int .i64 (-9223372036854775808),.int .i64 9223372036854775807,.int .u32 0],.int .i64 0,.int .i64 0] W fun e w'=>e=.returned (.agg #[.int .u64 a,.int .u64 b])∧Upd [] W w' from hce)
 have HEN:=Lib.hid hen
 have HAL:=Lib.hid hal
 have HS:=Lib.hid hs
 have HZ:=Lib.hid (ZAt.new w 0 0)
 have HU:=Lib.hid (show Upd [] w (w.alloc (.cells #[.int .u64 0,.int .u64 0] 37)) from (Upd.refl _ _).alloc _)
 clear hs hl hin hce hen hE hZ ha hb hal
 go_enter Tryz.func28,Tryz.ntmps28
 go_upto_region 1 with fail
 generalize (w.alloc (.cells #[.int .u64 0,.int .u64 0] 37))=W at HZ HU ⊢
 obtain ⟨q,hq⟩:∃q,w.heap.size=q:=⟨_,rfl⟩
 rw [hq] at HZ ⊢
 have HQ:=Lib.hid hq
 clear hq
 go_wp2_with fail
 (with_reducible refine (HAL.out _).mono ?_)
 rintro e w1 ⟨rfl,hu1⟩
 have HU1:=Lib.hid hu1
 clear hu1
 go_wp2_with fail
 (with_reducible refine (HCE.out _ (HS.out.upd0 (HU.out.trans HU1.out))).mono ?_)
 rintro e w2 ⟨rfl,hu2⟩
 have HU2:=Lib.hid (HU1.out.trans hu2)
 clear hu2
 go_wp2_with fail
 (with_reducible refine (HEN.out _ (HS.out.upd0 (HU.out.trans HU2.out))).mono ?_)
 rintro e w3 ⟨rfl,hu3⟩
 have HU3:=Lib.hid (HU2.out.trans hu3)
 have hz:=HZ.out.upd HU3.out (by simp)
 obtain ⟨t0,t1,tf⟩:=hz.cells
 have tf0:=tf 0
 have tf1:=tf 1
 have hz2:=(hz.set0 a).set1 b
 have HF:=Lib.hid (And.intro hz2 (show Upd [] w ((w3.setCell ⟨q,0,none⟩ (.int .u64 a)).setCell ⟨q,1,none⟩ (.int .u64 b)) from ((HU.out.trans HU3.out).setCell (.inr (by rw [HQ.out];exact Nat.le_refl _)) _).setCell (.inr (by rw [HQ.out];exact Nat.le_refl _)) _))
 clear hu3 hz tf hz2
 go_wp2_with fail
 obtain ⟨y0,y1,-⟩:=HF.out.1.cells
 exact bodyPost_ret (v:=.tuple #[.agg #[.int .u64 a,.int .u64 b],.int .i64 (E:Int)]) (by simp [results,Tryz.results28,go_sem,y0,y1]) rfl ⟨rfl,HF.out.2⟩
end Go.Proofs.YtkmnbodlciepaaaGreat
