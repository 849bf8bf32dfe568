/- area.turns: where boxes begin and end, from left to right; the marks. -/
import Derived.Test.YtkmnbodlciepaaaGreatPk18
import Derived.Test.YtkmnbodlciepaaaGreatPk6
import Derived.Test.YtkmnbodlciepaaaGreatPk30
set_option maxHeartbeats 8000000
set_option maxRecDepth 100000
namespace Go.Proofs.YtkmnbodlciepaaaGreat
open Go.RowKit
structure Tn where
 x:Int
 b:Bx
 g:Bool
deriving DecidableEq
def KT:Kind Tn:={ T:=0,sT:=81,eT:=89,sz:=7,enc:=fun t=>[.int .i64 t.x,.int .i64 t.b.x1,.int .i64 t.b.x2,.int .i64 t.b.y1,.int .i64 t.b.y2,.int .u32 (t.b.id:Int),.bool t.g],len:=fun _=>rfl,one:=fun x u hu=>by simp at hu;rcases hu with rfl | rfl | rfl | rfl | rfl | rfl | rfl<;>rfl }
def turnsL (l:List Bx):List Tn:=(l.filter Bx.counts).flatMap fun b=>[⟨b.x1,b,false⟩,⟨b.x2,b,true⟩]
def keysT (T:List Tn):List (Int×Nat):=T.map fun t=>(t.x,0)
theorem turns_take (l:List Bx) {k:Nat} {b:Bx} (hb:l[k]? = some b):turnsL (l.take (k+1))=turnsL (l.take k)++(if b.counts=true then [⟨b.x1,b,false⟩,⟨b.x2,b,true⟩] else []):=by
 unfold turnsL
 rw [List.take_add_one,hb]
 by_cases h:b.counts=true<;>simp [List.filter_append,h]
theorem linY_take (l:List Bx) {k:Nat} {b:Bx} (hb:l[k]? = some b):linY (l.take (k+1))=linY (l.take k)++(if b.counts=true then [b.y1,b.y2] else []):=by
 unfold linY
 rw [List.take_add_one,hb]
 by_cases h:b.counts=true<;>simp [List.filter_append,h]
theorem turns_len (l:List Bx):(turnsL l).length≤2*l.length∧(linY l).length=(turnsL l).length:=by
 unfold turnsL linY
 induction l with
 |nil=>simp
 |cons b l ih=>
  rw [List.filter_cons]
  split
  ·simp only [List.flatMap_cons,List.length_append,List.length_cons,List.length_nil] at *;omega
  ·simp only [List.length_cons];omega
structure Tri (B:Nat) (w:World) (tv:Value) (T:List Tn) (kv:Value) (mv:Value) (M:List Int):Prop where
 rt:KT.row w B tv T
 rk:KK.row w B kv (keysT T)
 rm:KL.row w B mv M
 tk:∀k∈blk tv,k∉blk kv
 tm:∀k∈blk tv,k∉blk mv
 km:∀k∈blk kv,k∉blk mv
theorem keys_len (T:List Tn):(keysT T).length=T.length:=by simp [keysT]
theorem Tri.upd0 {B:Nat} {w w':World} {tv kv mv:Value} {T:List Tn} {M:List Int} (h:Tri B w tv T kv mv M) (hu:Upd [] w w'):Tri B w' tv T kv mv M:=
 ⟨own_upd h.rt hu (by simp),own_upd h.rk hu (by simp),own_upd h.rm hu (by simp),h.tk,h.tm,h.km⟩
theorem apart_of {w w':World} {base:Nat} {e:TypeId} {size:Nat} {v:Value} {n:Nat} {xs:List Value} {m:Nat} {news:List Value} {A:Option Addr} {C:Nat} (HP:AppPost w w' base e size v n xs m news A C) {u:Value} (hu:∀k∈blk u,k<w.heap.size) (h:∀k∈blk v,k∉blk u) :
 ∀k∈blk (.slice A (n+m) C),k∉blk u:=by
 intro k hk hc
 rcases HP.at with h1 | h1
 ·rw [h1] at hk;exact h k hk hc
 ·rw [h1] at hk;have:=hu k hc;simp at hk;omega
theorem info_turn:(Tryz.prog.info? 89).map (fun i=>(i.zero,i.size,i.bytes))=some (some (.agg #[.int .i64 0,.int .i64 0,.int .i64 0,.int .i64 0,.int .i64 0,.int .u32 0,.bool false]),7,56):=by kernel_rfl
theorem info_key:(Tryz.prog.info? 137).map (fun i=>(i.zero,i.size,i.bytes))=some (some (.agg #[.int .i64 0,.int .u32 0]),2,16):=by kernel_rfl
theorem info_int64T:(Tryz.prog.info? 2).map (fun i=>(i.zero,i.size,i.bytes))=some (some (.int .i64 0),1,8):=by kernel_rfl
def TurnsPost (w:World) (l:List Bx) (e:Ending) (w':World):Prop:=
 ∃A C A' C' T,e=.returned (.tuple #[.slice A (turnsL l).length C,.slice A' (sqz (linY l)).length C'])∧See KT w' (.slice A (turnsL l).length C) T∧T.Perm (turnsL l)∧T.Pairwise (fun s t=>s.x≤t.x)∧See KL w' (.slice A' (sqz (linY l)).length C') (sqz (linY l))∧Upd [] w w'
theorem turns_sorted {T:List Tn} {M:List Nat} (hp:M.Perm (List.range (keysT T).length)) (hs:M.Pairwise (fun i j=>leP (keysT T) i j=true)) (d:Tn) :
 (M.map fun i=>T[i]?.getD d).Perm T∧(M.map fun i=>T[i]?.getD d).Pairwise (fun s t=>s.x≤t.x):=by
 have hr:((List.range (keysT T).length).map fun i=>T[i]?.getD d)=T:=by
  refine List.ext_getElem? fun i=>?_
  rw [List.getElem?_map]
  by_cases hi:i<T.length
  ·rw [List.getElem?_range (by rw [keys_len];exact hi),List.getElem?_eq_getElem hi];simp [hi]
  ·rw [List.getElem?_eq_none (by rw [List.length_range,keys_len];omega),List.getElem?_eq_none (by omega)];rfl
 refine ⟨?_,?_⟩
 ·have:=hp.map fun i=>T[i]?.getD d
  rw [hr] at this
  exact this
 ·rw [List.pairwise_map]
  refine hs.imp_of_mem fun {i j} hi hj h=>?_
  have hi':=List.mem_range.1 (hp.mem_iff.1 hi)
  have hj':=List.mem_range.1 (hp.mem_iff.1 hj)
  rw [keys_len] at hi' hj'
  unfold leP at h
  have h2:¬ahead (kf (keysT T) j) (kf (keysT T) i)=true:=by
   intro hc;rw [hc] at h;simp at h
  rw [ahead_iff] at h2
  have ei:kf (keysT T) i=(T[i].x,0):=by unfold kf keysT;simp [hi']
  have ej:kf (keysT T) j=(T[j].x,0):=by unfold kf keysT;simp [hj']
  rw [ei,ej] at h2
  simp only [List.getElem?_eq_getElem hi',List.getElem?_eq_getElem hj',Option.getD_some]
  omega
theorem KT.at {w:World} {A:Option Addr} {n C:Nat} {l:List Tn} (h:See KT w (.slice A n C) l) {k:Nat} {t:Tn} (hx:l[k]? = some t) :
 ∃b o,A=some ⟨b,o,none⟩∧w.cell? ⟨b,o+k*7,none⟩=some (.int .i64 t.x)∧w.cell? ⟨b,o+k*7+1,none⟩=some (.int .i64 t.b.x1)∧w.cell? ⟨b,o+k*7+2,none⟩=some (.int .i64 t.b.x2)∧w.cell? ⟨b,o+k*7+3,none⟩=some (.int .i64 t.b.y1)∧w.cell? ⟨b,o+k*7+4,none⟩=some (.int .i64 t.b.y2)∧w.cell? ⟨b,o+k*7+5,none⟩=some (.int .u32 (t.b.id:Int))∧w.cell? ⟨b,o+k*7+6,none⟩=some (.bool t.g):=by
 obtain ⟨b,o,h1,h2,h3,h4⟩:=h.at hx
 exact ⟨b,o,h1,h4 0 _ rfl,h4 1 _ rfl,h4 2 _ rfl,h4 3 _ rfl,h4 4 _ rfl,h4 5 _ rfl,h4 6 _ rfl⟩
theorem turnsC (v:Value) (l:List Bx) (w:World) (hs:See KBx w v l) (hl:l.length<400000) :
 Calls Tryz.prog 40 #[v] w (TurnsPost w l):=by
 obtain ⟨iT,hiT,hT0,hT1,hT2⟩:=info_parts info_turn
 obtain ⟨iK,hiK,hK0,hK1,hK2⟩:=info_parts info_key
 obtain ⟨iM,hiM,hM0,hM1,hM2⟩:=info_parts info_int64T
 obtain ⟨A,C,rfl⟩:=hs.form
 unfold TurnsPost
 obtain ⟨B,hB⟩:∃B,w.heap.size=B:=⟨_,rfl⟩
 have HS:=Lib.hid hs
 have HL:=Lib.hid hl
 have HBB:=Lib.hid hB
 have hll:(l.length:Int)<400000:=by omega
 clear hs hl hB
 go_enter Tryz.func40,Tryz.ntmps40
 go_wp2_with fail
 go_loopg [4,5,6,17] l.length (fun m s4 s5 s6 s17 wr=>∃k At Ct Ak Ck Am Cm,m+k=l.length∧s4=.slice At (turnsL (l.take k)).length Ct∧s5=.slice Ak (keysT (turnsL (l.take k))).length Ck∧s6=.slice Am (linY (l.take k)).length Cm∧s17=.int .i64 (k:Int)∧
  Tri B wr (.slice At (turnsL (l.take k)).length Ct) (turnsL (l.take k)) (.slice Ak (keysT (turnsL (l.take k))).length Ck) (.slice Am (linY (l.take k)).length Cm) (linY (l.take k))∧Upd [] w wr)
 case atStart=>exact ⟨0,none,0,none,0,none,0,rfl,rfl,rfl,rfl,rfl,⟨World.ownsRow_nil _ _ _ _,World.ownsRow_nil _ _ _ _,World.ownsRow_nil _ _ _ _,by simp [blk],by simp [blk],by simp [blk]⟩,Upd.refl _ _⟩
 case round=>
  obtain ⟨k,At,Ct,Ak,Ck,Am,Cm,hk,rfl,rfl,rfl,rfl,ht,hu⟩:=hrel
  have b0:(0:Int)≤(k:Int):=Int.natCast_nonneg _
  by_cases hlt:k<l.length
  ·obtain ⟨b,hb⟩:∃b,l[k]? = some b:=⟨_,List.getElem?_eq_getElem hlt⟩
   obtain ⟨bl,ol,hA,-,-,l0,l1,l2,l3,l4⟩:=KBx.at (HS.out.upd0 hu) hb
   subst hA
   have htt:=turns_take l hb
   have hty:=linY_take l hb
   have hlen:=turns_len (l.take k)
   have htl:(l.take k).length≤l.length:=by rw [List.length_take];omega
   obtain ⟨T,hT⟩:∃T,turnsL (l.take k)=T:=⟨_,rfl⟩
   obtain ⟨M,hM⟩:∃M,linY (l.take k)=M:=⟨_,rfl⟩
   rw [hT] at htt ht hlen ⊢
   rw [hM] at hty ht hlen ⊢
   obtain ⟨x1,x2,y1,y2,bi⟩:=b
   dsimp only at l0 l1 l2 l3 l4 htt hty
   have hkl:(keysT T).length=T.length:=keys_len T
   have b1:(k:Int)<(l.length:Int):=by omega
   have HT:=Lib.hid ht
   have HTT:=Lib.hid htt
   have HTY:=Lib.hid hty
   have HLN:=Lib.hid (show T.length<900000∧M.length<900000∧(keysT T).length<900000 by have:=HL.out;omega)
   have HU:=Lib.hid hu
   have HK:=Lib.hid hk
   have HLT:=Lib.hid hlt
   have hua:Upd [] wr (wr.alloc (.cells #[.int .i64 x1,.int .i64 x2,.int .i64 y1,.int .i64 y2,.int .u32 (bi:Int)] 59)):=(Upd.refl _ _).alloc _
   have hbx:(wr.alloc (.cells #[.int .i64 x1,.int .i64 x2,.int .i64 y1,.int .i64 y2,.int .u32 (bi:Int)] 59)).heap[wr.heap.size]? = some (.cells #[.int .i64 x1,.int .i64 x2,.int .i64 y1,.int .i64 y2,.int .u32 (bi:Int)] 59 (0,0)):=heap_alloc_new _ _
   have HUA:=Lib.hid hua
   have HBX:=Lib.hid hbx
   clear ht htt hty hlen htl hu hk hlt hT hM hkl hua hbx hb
   by_cases hx:x2≤x1
   ·have g1:decide (x2≤x1)=true:=decide_eq_true hx
    have hcnt:(⟨x1,x2,y1,y2,bi⟩:Bx).counts=false:=by unfold Bx.counts;simp;omega
    rw [hcnt] at HTT HTY
    clear hx hcnt
    go_wp2_with fail
    go_roundg (l.length - (k+1))
    case measure=>have:=HK.out;have:=HLT.out;omega
    case rel=>
     refine ⟨k+1,At,Ct,Ak,Ck,Am,Cm,by have:=HK.out;have:=HLT.out;omega,?_,?_,?_,by go_num,?_,HU.out.trans HUA.out⟩<;>((try rw [HTT.out]);(try rw [HTY.out]))
     ·simp
     ·simp
     ·simp
     ·simpa using HT.out.upd0 HUA.out
   have g1:decide (x2≤x1)=false:=decide_eq_false hx
   by_cases hy:y2≤y1
   ·have g2:decide (y2≤y1)=true:=decide_eq_true hy
    have hcnt:(⟨x1,x2,y1,y2,bi⟩:Bx).counts=false:=by unfold Bx.counts;simp;omega
    rw [hcnt] at HTT HTY
    clear hx hy hcnt
    go_wp2_with fail
    go_roundg (l.length - (k+1))
    case measure=>have:=HK.out;have:=HLT.out;omega
    case rel=>
     refine ⟨k+1,At,Ct,Ak,Ck,Am,Cm,by have:=HK.out;have:=HLT.out;omega,?_,?_,?_,by go_num,?_,HU.out.trans HUA.out⟩<;>((try rw [HTT.out]);(try rw [HTY.out]))
     ·simp
     ·simp
     ·simp
     ·simpa using HT.out.upd0 HUA.out
   have g2:decide (y2≤y1)=false:=decide_eq_false hy
   have hcnt:(⟨x1,x2,y1,y2,bi⟩:Bx).counts=true:=by unfold Bx.counts;simp;omega
   rw [hcnt,if_pos rfl] at HTT HTY
   clear hx hy hcnt
   go_upto_region 8 with fail
   have HTb:=Lib.hid (HT.out.upd0 HUA.out)
   have HQN:=Lib.hid (show (∀j∈blk (.slice At T.length Ct),j<wr.heap.size)∧(∀j∈blk (.slice Ak (keysT T).length Ck),j<wr.heap.size) from ⟨own_lt HT.out.rt,own_lt HT.out.rk⟩)
   have HUb:=Lib.hid (HU.out.trans HUA.out)
   generalize (wr.alloc (.cells #[.int .i64 x1,.int .i64 x2,.int .i64 y1,.int .i64 y2,.int .u32 (bi:Int)] 59))=Wb at HBX HTb HUb HUA ⊢
   generalize wr.heap.size=q at HBX HQN ⊢
   have c0:Wb.cell? ⟨q,0,none⟩=some (.int .i64 x1):=by have:=HBX.out;simp [World.cell?,this]
   have c1:Wb.cell? ⟨q,1,none⟩=some (.int .i64 x2):=by have:=HBX.out;simp [World.cell?,this]
   have c2:Wb.cell? ⟨q,2,none⟩=some (.int .i64 y1):=by have:=HBX.out;simp [World.cell?,this]
   have c3:Wb.cell? ⟨q,3,none⟩=some (.int .i64 y2):=by have:=HBX.out;simp [World.cell?,this]
   have c4:Wb.cell? ⟨q,4,none⟩=some (.int .u32 (bi:Int)):=by have:=HBX.out;simp [World.cell?,this]
   have HBw:=Lib.hid (show B≤Wb.heap.size by have:=HUb.out.size;rw [HBB.out] at this;exact this)
   go_wp2_with (at_builtin;refine wpList_app _ rfl _ _ 81 rfl B 89 iT (.agg #[.int .i64 0,.int .i64 0,.int .i64 0,.int .i64 0,.int .i64 0,.int .u32 0,.bool false]) 7 56 Tryz.underlying81 hiT hT0 hT1 hT2 rfl (by decide) _ _ _ rfl (own_upd HTb.out.rt ((Upd.refl [] _).alloc _) (by simp)) _ 2 [.int .i64 x1,.int .i64 x1,.int .i64 x2,.int .i64 y1,.int .i64 y2,.int .u32 (bi:Int),.bool false,.int .i64 x2,.int .i64 x1,.int .i64 x2,.int .i64 y1,.int .i64 y2,.int .u32 (bi:Int),.bool true] rfl (sees_lit Wb #[.int .i64 x1,.int .i64 x1,.int .i64 x2,.int .i64 y1,.int .i64 y2,.int .u32 (bi:Int),.bool false,.int .i64 x2,.int .i64 x1,.int .i64 x2,.int .i64 y1,.int .i64 y2,.int .u32 (bi:Int),.bool true] 89 7 2 rfl (by decide)) (by simp [Value.oneCell']) (by have:=HLN.out.1;unfold maxLen;omega) (by have:=HLN.out.1;omega) (by have:=HBw.out;simp;omega) ?_)
   intro A6 C6 w6 HP
   have u6:Upd (blk (.slice At T.length Ct)) Wb w6:=((Upd.refl _ _).alloc _).trans HP.upd
   have r6:KT.row w6 B (.slice A6 (T.length+2) C6) (T++[⟨x1,⟨x1,x2,y1,y2,bi⟩,false⟩,⟨x2,⟨x1,x2,y1,y2,bi⟩,true⟩]):=by
    have:=HP.own
    unfold Kind.row
    rw [Kind.all_app,List.length_append]
    exact this
   have k6:KK.row w6 B (.slice Ak (keysT T).length Ck) (keysT T):=own_upd HTb.out.rk u6 (fun j hj hc=>HTb.out.tk j hc hj)
   have m6:KL.row w6 B (.slice Am M.length Cm) M:=own_upd HTb.out.rm u6 (fun j hj hc=>HTb.out.tm j hc hj)
   have ak6:=apart_of HP (u:=.slice Ak (keysT T).length Ck) (fun j hj=>Nat.lt_of_lt_of_le (own_lt HTb.out.rk j hj) (by simp)) HTb.out.tk
   have am6:=apart_of HP (u:=.slice Am M.length Cm) (fun j hj=>Nat.lt_of_lt_of_le (own_lt HTb.out.rm j hj) (by simp)) HTb.out.tm
   have hq6:q∉blk (.slice At T.length Ct):=fun h=>by have:=HQN.out.1 q h;omega
   have h6:=(u6.block q (lt_of_block HBX.out) hq6).trans HBX.out
   have d0:w6.cell? ⟨q,0,none⟩=some (.int .i64 x1):=by simp [World.cell?,h6]
   have d1:w6.cell? ⟨q,1,none⟩=some (.int .i64 x2):=by simp [World.cell?,h6]
   have HU6:=Lib.hid (show Upd [] w w6 from HUb.out.trans' u6 (fun j hj=>.inr (by rw [HBB.out];exact own_ge HTb.out.rt j hj)))
   have HR6:=Lib.hid (And.intro r6 (And.intro k6 (And.intro m6 (And.intro ak6 (And.intro am6 h6)))))
   have HBw6:=Lib.hid (Nat.le_trans HBw.out u6.size)
   clear HP u6 r6 k6 m6 ak6 am6 hq6 h6 c0 c1 c2 c3 c4
   go_wp2_with (at_builtin;refine wpList_app _ rfl _ _ 135 rfl B 137 iK (.agg #[.int .i64 0,.int .u32 0]) 2 16 Tryz.underlying135 hiK hK0 hK1 hK2 rfl (by decide) _ _ _ rfl (own_upd HR6.out.2.1 ((Upd.refl [] _).alloc _) (by simp)) _ 2 [.int .i64 x1,.int .u32 0,.int .i64 x2,.int .u32 0] rfl (sees_lit w6 #[.int .i64 x1,.int .u32 0,.int .i64 x2,.int .u32 0] 137 2 2 rfl (by decide)) (by simp [Value.oneCell']) (by have:=HLN.out.2.2;unfold maxLen;omega) (by have:=HLN.out.2.2;omega) (by have:=HBw6.out;simp;omega) ?_)
   intro A7 C7 w7 HP
   have u7:Upd (blk (.slice Ak (keysT T).length Ck)) w6 w7:=((Upd.refl _ _).alloc _).trans HP.upd
   have k7:KK.row w7 B (.slice A7 ((keysT T).length+2) C7) (keysT T++[(x1,0),(x2,0)]):=by
    have:=HP.own
    unfold Kind.row
    rw [Kind.all_app,List.length_append]
    exact this
   have r7:=own_upd HR6.out.1 u7 (fun j hj hc=>HR6.out.2.2.2.1 j hj hc)
   have m7:=own_upd HR6.out.2.2.1 u7 (fun j hj hc=>HTb.out.km j hc hj)
   have at7:∀j∈blk (.slice A6 (T.length+2) C6),j∉blk (.slice A7 ((keysT T).length+2) C7):=fun j hj hc=>apart_of HP (u:=.slice A6 (T.length+2) C6) (fun j hj=>Nat.lt_of_lt_of_le (own_lt HR6.out.1 j hj) (by simp)) (fun j hj hc=>HR6.out.2.2.2.1 j hc hj) j hc hj
   have am7:=apart_of HP (u:=.slice Am M.length Cm) (fun j hj=>Nat.lt_of_lt_of_le (own_lt HR6.out.2.2.1 j hj) (by simp)) HTb.out.km
   have hq7:q∉blk (.slice Ak (keysT T).length Ck):=fun h=>by have:=HQN.out.2 q h;omega
   have h7:=(u7.block q (lt_of_block HR6.out.2.2.2.2.2) hq7).trans HR6.out.2.2.2.2.2
   have d2:w7.cell? ⟨q,2,none⟩=some (.int .i64 y1):=by simp [World.cell?,h7]
   have d3:w7.cell? ⟨q,3,none⟩=some (.int .i64 y2):=by simp [World.cell?,h7]
   have HU7:=Lib.hid (show Upd [] w w7 from HU6.out.trans' u7 (fun j hj=>.inr (by rw [HBB.out];exact own_ge HTb.out.rk j hj)))
   have HR7:=Lib.hid (And.intro r7 (And.intro k7 (And.intro m7 (And.intro at7 (And.intro am7 HR6.out.2.2.2.2.1)))))
   have HBw7:=Lib.hid (Nat.le_trans HBw6.out u7.size)
   clear HP u7 r7 k7 m7 at7 am7 hq7 h7 d0 d1
   go_wp2_with (at_builtin;refine wpList_app _ rfl _ _ 82 rfl B 2 iM (.int .i64 0) 1 8 Tryz.underlying82 hiM hM0 hM1 hM2 rfl (by decide) _ _ _ rfl (own_upd HR7.out.2.2.1 ((Upd.refl [] _).alloc _) (by simp)) _ 2 [.int .i64 y1,.int .i64 y2] rfl (sees_lit w7 #[.int .i64 y1,.int .i64 y2] 2 1 2 rfl (by decide)) (by simp [Value.oneCell']) (by have:=HLN.out.2.1;unfold maxLen;omega) (by have:=HLN.out.2.1;omega) (by have:=HBw7.out;simp;omega) ?_)
   intro A8 C8 w8 HP
   have u8:Upd (blk (.slice Am M.length Cm)) w7 w8:=((Upd.refl _ _).alloc _).trans HP.upd
   have m8:KL.row w8 B (.slice A8 (M.length+2) C8) (M++[y1,y2]):=by
    have:=HP.own
    unfold Kind.row
    rw [Kind.all_app,List.length_append]
    exact this
   have r8:=own_upd HR7.out.1 u8 (fun j hj hc=>HR7.out.2.2.2.2.2 j hj hc)
   have k8:=own_upd HR7.out.2.1 u8 (fun j hj hc=>HR7.out.2.2.2.2.1 j hj hc)
   have at8:∀j∈blk (.slice A6 (T.length+2) C6),j∉blk (.slice A8 (M.length+2) C8):=fun j hj hc=>apart_of HP (u:=.slice A6 (T.length+2) C6) (fun j hj=>Nat.lt_of_lt_of_le (own_lt HR7.out.1 j hj) (by simp)) (fun j hj hc=>HR7.out.2.2.2.2.2 j hc hj) j hc hj
   have ak8:∀j∈blk (.slice A7 ((keysT T).length+2) C7),j∉blk (.slice A8 (M.length+2) C8):=fun j hj hc=>apart_of HP (u:=.slice A7 ((keysT T).length+2) C7) (fun j hj=>Nat.lt_of_lt_of_le (own_lt HR7.out.2.1 j hj) (by simp)) (fun j hj hc=>HR7.out.2.2.2.2.1 j hc hj) j hc hj
   have HU8:=Lib.hid (show Upd [] w w8 from HU7.out.trans' u8 (fun j hj=>.inr (by rw [HBB.out];exact own_ge HTb.out.rm j hj)))
   have HR8:=Lib.hid (And.intro r8 (And.intro k8 (And.intro m8 (And.intro HR7.out.2.2.2.1 (And.intro at8 ak8)))))
   clear HP u8 m8 r8 k8 at8 ak8 d2 d3
   go_wp2_with fail
   go_roundg (l.length - (k+1))
   case measure=>have:=HK.out;have:=HLT.out;omega
   case rel=>
    have ekk:keysT (T++[⟨x1,⟨x1,x2,y1,y2,bi⟩,false⟩,⟨x2,⟨x1,x2,y1,y2,bi⟩,true⟩])=keysT T++[(x1,0),(x2,0)]:=by simp [keysT]
    refine ⟨k+1,A6,C6,A7,C7,A8,C8,by have:=HK.out;have:=HLT.out;omega,?_,?_,?_,by go_num,?_,HU8.out⟩
    ·rw [HTT.out,List.length_append];rfl
    ·rw [HTT.out,ekk,List.length_append];rfl
    ·rw [HTY.out,List.length_append];rfl
    ·rw [HTT.out,HTY.out,ekk,List.length_append,List.length_append,List.length_append]
     exact ⟨HR8.out.1,by rw [ekk];exact HR8.out.2.1,HR8.out.2.2.1,HR8.out.2.2.2.1,HR8.out.2.2.2.2.1,HR8.out.2.2.2.2.2⟩
  ·have hke:l.take k=l:=List.take_of_length_le (by omega)
   rw [hke] at ht
   have hlen:=turns_len l
   obtain ⟨T,hT⟩:∃T,turnsL l=T:=⟨_,rfl⟩
   obtain ⟨M,hM⟩:∃M,linY l=M:=⟨_,rfl⟩
   rw [hT] at ht hlen
   rw [hM] at ht hlen
   have hso:=sortOrder (.slice Ak (keysT T).length Ck) (keysT T) wr (See.of_row ht.rk) (by rw [keys_len];omega)
   have hsq:=fun w2 (hu2:Upd [] wr w2)=>squeezeC (.slice Am M.length Cm) M w2 (See.of_row (ht.upd0 hu2).rm) (by omega)
   have HTM:=Lib.hid (And.intro hT hM)
   have HSO:=Lib.hid hso
   have HSQ:=Lib.hid hsq
   have HTS:=Lib.hid (See.of_row ht.rt)
   have HU:=Lib.hid hu
   have HTL:=Lib.hid (show T.length<900000 by omega)
   have hTk:turnsL (l.take k)=T:=by rw [hke];exact hT
   have hMk:linY (l.take k)=M:=by rw [hke];exact hM
   rw [hTk,hMk]
   clear hso hsq ht hlen hT hM hTk hMk hu hke hk
   go_wp2_with fail
   (with_reducible refine HSO.out.mono ?_)
   rintro e w2 ⟨A2,C2,P,wrt,rfl,sP,pP,qP,hu2,-⟩
   have hso2:=turns_sorted pP qP ⟨0,⟨0,0,0,0,0⟩,false⟩
   have hPl:P.length=T.length:=by have:=pP.length_eq;rw [List.length_range,keys_len] at this;exact this
   have hPi:∀i∈P,i<T.length:=fun i hi=>by have:=List.mem_range.1 (pP.mem_iff.1 hi);rw [keys_len] at this;exact this
   obtain ⟨w3,hmk,hrow,hg⟩:=run_make_own (P:=Tryz.prog) w2 w2.heap.size 81 89 iT (.agg #[.int .i64 0,.int .i64 0,.int .i64 0,.int .i64 0,.int .i64 0,.int .u32 0,.bool false]) 7 Tryz.underlying81 hiT hT0 hT1 .i64 .i64 T.length (by rw [hT2];have:=HTL.out;omega) (by have:=HTL.out;unfold maxLen;omega) (Nat.le_refl _)
   have hu3:Upd [] w2 w3:=(Upd.refl _ _).grown hg (by simp)
   have hkl:Value.slice A2 (keysT T).length C2=Value.slice A2 T.length C2:=by rw [keys_len]
   have sP':See KN w2 (.slice A2 T.length C2) P:=by rw [←hkl];exact sP
   rw [hkl]
   obtain ⟨n,hn⟩:∃n,T.length=n:=⟨_,rfl⟩
   rw [hn] at hmk hPl hPi HTS sP' HTL hrow ⊢
   have HP:=Lib.hid (And.intro sP' (And.intro hPl (And.intro hPi hso2)))
   have H3:=Lib.hid (And.intro (show KT.row w3 w2.heap.size (.slice (some ⟨w2.heap.size,0,none⟩) 0 n) [] from hrow) hu3)
   have HU2:=Lib.hid hu2
   have HB3:=Lib.hid hu3.size
   have HNT:=Lib.hid hn
   have hnb:(n:Int)<900000:=by have:=HTL.out;omega
   clear sP sP' pP qP hPl hPi hso2 hrow hg hu3 hu2 hkl hn
   go_wp2_with fail
   clear hmk
   go_loopg [12,72] n (fun m s12 s72 wr=>∃k A C,m+k=n∧s12=.slice A k C∧s72=.int .i64 (k:Int)∧KT.row wr w2.heap.size (.slice A k C) ((P.take k).map fun i=>T[i]?.getD ⟨0,⟨0,0,0,0,0⟩,false⟩)∧Upd [] w2 wr)
   case atStart=>exact ⟨0,_,_,rfl,rfl,rfl,H3.out.1,H3.out.2⟩
   case round=>
    obtain ⟨k,A4,C4,hk,rfl,rfl,hrow,hu⟩:=hrel
    have b0:(0:Int)≤(k:Int):=Int.natCast_nonneg _
    by_cases hlt:k<n
    ·obtain ⟨i,hi⟩:∃i,P[k]? = some i:=⟨_,List.getElem?_eq_getElem (by rw [HP.out.2.1];exact hlt)⟩
     have hin:=HP.out.2.2.1 i (List.mem_of_getElem? hi)
     obtain ⟨t,ht⟩:∃t,T[i]? = some t:=⟨_,List.getElem?_eq_getElem (by rw [HNT.out];exact hin)⟩
     obtain ⟨gp,op,hA2,-,-,cp⟩:=KN.at (HP.out.1.upd0 hu) hi
     obtain ⟨gt,ot,hAt,t0,t1,t2,t3,t4,t5,t6⟩:=KT.at ((HTS.out.upd0 HU2.out).upd0 hu) ht
     subst hA2 hAt
     have htk:(P.take (k+1)).map (fun i=>T[i]?.getD ⟨0,⟨0,0,0,0,0⟩,false⟩)=(P.take k).map (fun i=>T[i]?.getD ⟨0,⟨0,0,0,0,0⟩,false⟩)++[t]:=by
      rw [List.take_add_one,hi];simp [ht]
     obtain ⟨R,hR⟩:∃R,(P.take k).map (fun i=>T[i]?.getD ⟨0,⟨0,0,0,0,0⟩,false⟩)=R:=⟨_,rfl⟩
     rw [hR] at hrow htk
     have hRl:R.length=k:=by rw [←hR,List.length_map,List.length_take,HP.out.2.1];omega
     obtain ⟨tx,⟨x1,x2,y1,y2,bi⟩,tg⟩:=t
     dsimp only at t0 t1 t2 t3 t4 t5 t6 htk
     have b1:(k:Int)<(n:Int):=by omega
     have b2:(0:Int)≤(i:Int):=Int.natCast_nonneg _
     have b3:(i:Int)<(n:Int):=by omega
     have hrow':wr.ownsRow w2.heap.size 89 7 (.slice A4 k C4) k (KT.all R):=by have:=hrow;unfold Kind.row at this;rw [hRl] at this;exact this
     have HROW:=Lib.hid hrow'
     have HTK:=Lib.hid htk
     have HUr:=Lib.hid hu
     have HK:=Lib.hid hk
     have HLT:=Lib.hid hlt
     have HRL:=Lib.hid hRl
     have HBr:=Lib.hid hu.size
     clear hrow hrow' htk hu hk hlt hRl hR ht hi hin
     go_wp2_with (at_builtin;refine wpList_app _ rfl _ _ 81 rfl w2.heap.size 89 iT (.agg #[.int .i64 0,.int .i64 0,.int .i64 0,.int .i64 0,.int .i64 0,.int .u32 0,.bool false]) 7 56 Tryz.underlying81 hiT hT0 hT1 hT2 rfl (by decide) _ _ _ rfl (own_upd HROW.out ((Upd.refl [] _).alloc _) (by simp)) _ 1 [.int .i64 tx,.int .i64 x1,.int .i64 x2,.int .i64 y1,.int .i64 y2,.int .u32 (bi:Int),.bool tg] rfl (sees_lit wr #[.int .i64 tx,.int .i64 x1,.int .i64 x2,.int .i64 y1,.int .i64 y2,.int .u32 (bi:Int),.bool tg] 89 7 1 rfl (by decide)) (by simp [Value.oneCell']) (by have:=HTL.out;have:=HLT.out;unfold maxLen;omega) (by have:=HTL.out;have:=HLT.out;omega) (by have:=HBr.out;simp;omega) ?_)
     intro A6 C6 w6 HP6
     have u6:Upd (blk (.slice A4 k C4)) wr w6:=((Upd.refl _ _).alloc _).trans HP6.upd
     have r6:KT.row w6 w2.heap.size (.slice A6 (k+1) C6) (R++[⟨tx,⟨x1,x2,y1,y2,bi⟩,tg⟩]):=by
      have:=HP6.own
      unfold Kind.row
      rw [Kind.all_app,List.length_append,HRL.out]
      exact this
     have HR6:=Lib.hid (And.intro r6 (show Upd [] w2 w6 from HUr.out.trans' u6 (fun j hj=>.inr (own_ge HROW.out j hj))))
     clear HP6 u6 r6
     go_wp2_with fail
     go_roundg (n - (k+1))
     case measure=>have:=HK.out;have:=HLT.out;omega
     case rel=>exact ⟨k+1,A6,C6,by have:=HK.out;have:=HLT.out;omega,rfl,by go_num,by rw [HTK.out];exact HR6.out.1,HR6.out.2⟩
    ·have hkn:k=n:=by omega
     have hpk:P.take k=P:=List.take_of_length_le (by rw [HP.out.2.1];omega)
     rw [hpk,hkn] at hrow
     have hsee:See KT wr (.slice A4 n C4) (P.map fun i=>T[i]?.getD ⟨0,⟨0,0,0,0,0⟩,false⟩):=by
      have:=See.of_row hrow
      exact this
     have hq:=HSQ.out wr (HU2.out.trans hu)
     have HSE:=Lib.hid hsee
     have HUr:=Lib.hid (HU.out.trans (HU2.out.trans hu))
     have HQ:=Lib.hid hq
     have HKN:=Lib.hid hkn
     clear hrow hsee hq hu hpk hkn hk
     go_wp2_with fail
     (with_reducible refine HQ.out.mono ?_)
     rintro e w7 ⟨A7,C7,rfl,hr7,hu7⟩
     have H7:=Lib.hid (And.intro (See.of_row hr7) (And.intro (HSE.out.upd0 hu7) (HUr.out.trans hu7)))
     clear hr7 hu7
     go_wp2_with fail
     go_ret2
     rw [HTM.out.1,HTM.out.2,HNT.out,HKN.out]
     exact ⟨A4,C4,A7,C7,_,rfl,H7.out.2.1,HP.out.2.2.2.1,HP.out.2.2.2.2,H7.out.1,H7.out.2.2⟩
end Go.Proofs.YtkmnbodlciepaaaGreat
