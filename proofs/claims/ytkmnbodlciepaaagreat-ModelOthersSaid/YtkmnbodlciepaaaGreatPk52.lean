/- rim.steps: a sweep's steps, one by one. rim.Rim: the two sweeps' sum. -/
import Derived.Shelf.RegionOpen
import Derived.RangeFuncLeaves
import Derived.TacticsInMore
import Derived.LoopNIn
import Derived.OwnWalkIn
import Derived.Deep.RegionHeld3
import Derived.Test.YtkmnbodlciepaaaGreatPk50
import Derived.Test.YtkmnbodlciepaaaGreatPk48
import Derived.Test.YtkmnbodlciepaaaGreatPk51
set_option maxHeartbeats 8000000
set_option maxRecDepth 100000
namespace Go.Proofs.YtkmnbodlciepaaaGreat
open Go.RowKit
theorem turns_get:∀(l:List Bx),(∀b∈l,b.counts=true)→(turnsL l).length=2*l.length∧∀i,i<(turnsL l).length→∃b,l[i / 2]? = some b∧(turnsL l)[i]? = some (if i % 2=0 then ⟨b.x1,b,false⟩ else ⟨b.x2,b,true⟩)
 | [],_=>⟨rfl,fun i h=>by simp [turnsL] at h⟩
 |b::r,h=>by
  obtain ⟨h1,h2⟩:=turns_get r fun x hx=>h x (by simp [hx])
  have e:turnsL (b::r)=⟨b.x1,b,false⟩::⟨b.x2,b,true⟩::turnsL r:=by
   unfold turnsL
   rw [List.filter_cons,if_pos (h b (by simp))]
   rfl
  rw [e]
  refine ⟨by simp only [List.length_cons,h1];omega,fun i hi=>?_⟩
  match i with
  |0=>exact ⟨b,rfl,rfl⟩
  |1=>exact ⟨b,rfl,rfl⟩
  |i+2=>
   obtain ⟨c,h3,h4⟩:=h2 i (by simpa using hi)
   refine ⟨c,?_,?_⟩
   ·rw [show (i+2) / 2=i / 2+1 by omega,List.getElem?_cons_succ];exact h3
   ·rw [show (i+2) % 2=i % 2 by omega,List.getElem?_cons_succ,List.getElem?_cons_succ];exact h4
structure Duo (B:Nat) (w:World) (kv:Value) (T:List Tn) (mv:Value) (M:List Int):Prop where
 rk:KK.row w B kv (keysT T)
 rm:KL.row w B mv M
 km:∀k∈blk kv,k∉blk mv
theorem Duo.upd0 {B:Nat} {w w':World} {kv mv:Value} {T:List Tn} {M:List Int} (h:Duo B w kv T mv M) (hu:Upd [] w w'):Duo B w' kv T mv M:=
 ⟨own_upd h.rk hu (by simp),own_upd h.rm hu (by simp),h.km⟩
theorem turns_x64 {l:List Bx} (hb:∀b∈l,b.in64) {t:Tn} (ht:t∈turnsL l) : -9223372036854775808≤t.x∧t.x≤9223372036854775807:=by
 have hx:=(mem_turnsX t.x).1 (List.mem_map.2 ⟨t,ht,rfl⟩)
 unfold linX at hx
 obtain ⟨b,h1,h2⟩:=List.mem_flatMap.1 hx
 have h3:=hb b (List.mem_filter.1 h1).1
 unfold Bx.in64 at h3
 simp at h2
 rcases h2 with h2 | h2<;>rw [h2]
 ·exact h3.1
 ·exact h3.2.1
theorem legal_take {l:List Bx} {Y:List Int} {T:List Tn} (hY:sqz (linY l)=Y) (hp:T.Perm (turnsL l)) (hs:T.Pairwise (fun s t=>s.x≤t.x)) {j:Nat} (hj:j<T.length):Legal l ((stepsL Y T).take j++[stepK Y T j]):=by
 rw [←steps_take Y T hj]
 refine ⟨T,hp,hs,?_⟩
 rw [hY,List.length_take,steps_len,Nat.min_eq_left (by omega)]
theorem longX_diff {T:List Tn} (hs:T.Pairwise (fun s t=>s.x≤t.x)) {j:Nat} {t u:Tn} (ht:T[j]? = some t) (hu:T[j+1]? = some u):diffN t.x u.x=(longX T j:Int):=by
 have htu:=(turn_le hs ht).2 u (List.mem_of_getElem? (i:=1) (by rw [List.getElem?_drop];exact hu))
 have et:mf (T.map Tn.x) j=t.x:=by unfold mf;rw [List.getElem?_map,ht];rfl
 have eu:mf (T.map Tn.x) (j+1)=u.x:=by unfold mf;rw [List.getElem?_map,hu];rfl
 have hlt:j+1<T.length:=by
  rcases Nat.lt_or_ge (j+1) T.length with h | h
  ·exact h
  ·rw [List.getElem?_eq_none h] at hu;cases hu
 unfold longX diffN
 rw [if_pos hlt,et,eu]
 split<;>omega
theorem longX_last {T:List Tn} {j:Nat} (h:¬j+1<T.length):longX T j=0:=by unfold longX;rw [if_neg h]
def encS (s:Nat×Nat×Nat):Array Value:=#[.agg #[.int .i64 (s.1:Int),.int .u64 (s.2.1:Int),.int .i64 (s.2.2:Int)]]
theorem stepsMk (A:Option Addr) (n C:Nat) (w:World):Calls Tryz.prog 50 #[.slice A n C] w fun e w'=>e=.returned (.func (.func 106) #[] #[.pointer (some ⟨w.heap.size,0,none⟩)])∧w'=w.alloc (.cells #[.slice A n C] 97):=by
 go_enter Tryz.func50,Tryz.ntmps50
 go_wp2
 go_ret
 exact ⟨rfl,rfl⟩
structure SwSt (w:World) (B0 B p:Nat) (kv pv fv:Value) (K:List (Int×Nat)) (P:List Nat) (l:List Bx):Prop where
 rk:KK.row w B0 kv K
 sp:See KN w pv P
 rf:KFl.row w B fv l
 cp:w.cell? ⟨p,0,none⟩=some fv
theorem SwSt.upd {w w':World} {B0 B p:Nat} {kv pv fv:Value} {K:List (Int×Nat)} {P:List Nat} {l:List Bx} (h:SwSt w B0 B p kv pv fv K P l) {G:List Nat} (hu:Upd G w w')
 (h1:∀k∈blk kv,k∉G) (h2:∀k∈blk pv,k∉G) (h3:∀k∈blk fv,k∉G) (h4:p∉G):SwSt w' B0 B p kv pv fv K P l:=
 ⟨own_upd h.rk hu h1,h.sp.upd hu fun _ k hk _=>h2 k hk,own_upd h.rf hu h3,(hu.cell (p:=⟨p,0,none⟩) (World.block_lt_of_cell? w _ h.cp) h4).trans h.cp⟩
theorem SwSt.upd0 {w w':World} {B0 B p:Nat} {kv pv fv:Value} {K:List (Int×Nat)} {P:List Nat} {l:List Bx} (h:SwSt w B0 B p kv pv fv K P l) (hu:Upd [] w w'):SwSt w' B0 B p kv pv fv K P l:=
 h.upd hu (by simp) (by simp) (by simp) (by simp)
theorem stepsC (A:Option Addr) (C:Nat) (l:List Bx) (w:World) (p B:Nat) (hp:w.cell? ⟨p,0,none⟩=some (.slice A l.length C)) (hpB:B≤p) (hrow:KFl.row w B (.slice A l.length C) l) (hl:l.length<100000) (hb:∀b∈l,b.in64) (hc:∀b∈l,b.counts=true) :
 SeqOwn Tryz.prog 106 #[.pointer (some ⟨p,0,none⟩)] encS (Full l) (Legal l) B w:=by
 intro n rid J W hW hr1 hr2 hJ hY h0
 refine callsIn_wide.2 ?_
 obtain ⟨iK,hiK,hK0,hK1,hK2⟩:=info_parts info_key
 obtain ⟨iM,hiM,hM0,hM1,hM2⟩:=info_parts info_int64T
 have hpw:p<w.heap.size:=World.block_lt_of_cell? w _ hp
 have hcp:=(hW.cell (p:=⟨p,0,none⟩) hpw (by simp)).trans hp
 have hrf:KFl.row W B (.slice A l.length C) l:=own_upd hrow hW (by simp)
 have hfw:∀k∈blk (.slice A l.length C),B≤k∧k<w.heap.size:=fun k hk=>⟨own_ge hrow k hk,own_lt hrow k hk⟩
 have hM:=marks_ok hb hl
 obtain ⟨hU2,hUg⟩:=turns_get l hc
 have htl:=turns_len l
 obtain ⟨B0,hB0⟩:∃B0,W.heap.size=B0:=⟨_,rfl⟩
 have HPW:=Lib.hid (And.intro hpB hpw)
 have HCP:=Lib.hid hcp
 have HRF:=Lib.hid hrf
 have HFW:=Lib.hid hfw
 have HM:=Lib.hid hM
 have HUG:=Lib.hid (And.intro hU2 (And.intro hUg htl))
 have HL:=Lib.hid hl
 have HBBX:=Lib.hid hb
 have HB0:=Lib.hid hB0
 have HCNT:=Lib.hid hc
 have HRID:=Lib.hid (And.intro hr1 hr2)
 have HJ:=Lib.hid hJ
 have HY:=Lib.hid hY
 have HJ0:=Lib.hid h0
 have hll:(l.length:Int)<100000:=by omega
 clear hp hpB hrow hl hb hc hW hr1 hr2 hJ hY h0 hpw hcp hrf hfw hM hU2 hUg htl hB0
 have hc0:=HCP.out
 go_enter Tryz.func106,Tryz.ntmps106
 go_wp2_with fail
 clear hc0
 go_loopg [3,4,18] l.length (fun m s3 s4 s18 wr=>∃k Ak Ck Am Cm,m+k=l.length∧s3=.slice Ak (keysT (turnsL (l.take k))).length Ck∧s4=.slice Am (linY (l.take k)).length Cm∧s18=.int .i64 (k:Int)∧
  Duo B0 wr (.slice Ak (keysT (turnsL (l.take k))).length Ck) (turnsL (l.take k)) (.slice Am (linY (l.take k)).length Cm) (linY (l.take k))∧Upd [] W wr)
 case atStart=>exact ⟨0,none,0,none,0,rfl,rfl,rfl,rfl,⟨World.ownsRow_nil _ _ _ _,World.ownsRow_nil _ _ _ _,by simp [blk]⟩,Upd.refl _ _⟩
 case round=>
  obtain ⟨k,Ak,Ck,Am,Cm,hk,rfl,rfl,rfl,ht,hu⟩:=hrel
  have b0:(0:Int)≤(k:Int):=Int.natCast_nonneg _
  by_cases hlt:k<l.length
  ·obtain ⟨b,hb⟩:∃b,l[k]? = some b:=⟨_,List.getElem?_eq_getElem hlt⟩
   have hcb:b.counts=true:=HCNT.out b (List.mem_of_getElem? hb)
   obtain ⟨bl,ol,hA,-,-,l0,l1,l2,l3⟩:=KFl.at ((See.of_row HRF.out).upd0 hu) hb
   subst hA
   have htt:=turns_take l hb
   have hty:=linY_take l hb
   rw [if_pos hcb] at htt hty
   have hlen:=turns_len (l.take k)
   have htl:(l.take k).length≤l.length:=by rw [List.length_take];omega
   obtain ⟨T,hT⟩:∃T,turnsL (l.take k)=T:=⟨_,rfl⟩
   obtain ⟨M,hM⟩:∃M,linY (l.take k)=M:=⟨_,rfl⟩
   rw [hT] at htt ht hlen ⊢
   rw [hM] at hty ht hlen ⊢
   obtain ⟨x1,x2,y1,y2,bi⟩:=b
   dsimp only at l0 l1 l2 l3 htt hty
   have hkl:(keysT T).length=T.length:=keys_len T
   have b1:(k:Int)<(l.length:Int):=by omega
   have HT:=Lib.hid ht
   have HTT:=Lib.hid htt
   have HTY:=Lib.hid hty
   have HLN:=Lib.hid (show M.length<900000∧(keysT T).length<900000 by have:=HL.out;omega)
   have HU:=Lib.hid hu
   have HK:=Lib.hid (And.intro hk hlt)
   have hua:Upd [] wr (wr.alloc (.cells #[.int .i64 x1,.int .i64 x2,.int .i64 y1,.int .i64 y2] 163)):=(Upd.refl _ _).alloc _
   have hbx:(wr.alloc (.cells #[.int .i64 x1,.int .i64 x2,.int .i64 y1,.int .i64 y2] 163)).heap[wr.heap.size]? = some (.cells #[.int .i64 x1,.int .i64 x2,.int .i64 y1,.int .i64 y2] 163 (0,0)):=heap_alloc_new _ _
   have HUA:=Lib.hid hua
   have HBX:=Lib.hid hbx
   clear ht htt hty hlen htl hu hk hlt hT hM hkl hua hbx hb hcb
   go_upto_region 5 with fail
   have HTb:=Lib.hid (HT.out.upd0 HUA.out)
   have HQN:=Lib.hid (show ∀j∈blk (.slice Ak (keysT T).length Ck),j<wr.heap.size from own_lt HT.out.rk)
   have HUb:=Lib.hid (HU.out.trans HUA.out)
   generalize (wr.alloc (.cells #[.int .i64 x1,.int .i64 x2,.int .i64 y1,.int .i64 y2] 163))=Wb at HBX HTb HUb HUA ⊢
   generalize wr.heap.size=q at HBX HQN ⊢
   have c0:Wb.cell? ⟨q,0,none⟩=some (.int .i64 x1):=by have:=HBX.out;simp [World.cell?,this]
   have c1:Wb.cell? ⟨q,1,none⟩=some (.int .i64 x2):=by have:=HBX.out;simp [World.cell?,this]
   have HBw:=Lib.hid (show B0≤Wb.heap.size by have:=HUb.out.size;rw [HB0.out] at this;exact this)
   go_wp2_with (at_builtin;refine wpList_app _ rfl _ _ 135 rfl B0 137 iK (.agg #[.int .i64 0,.int .u32 0]) 2 16 Tryz.underlying135 hiK hK0 hK1 hK2 rfl (by decide) _ _ _ rfl (own_upd HTb.out.rk ((Upd.refl [] _).alloc _) (by simp)) _ 2 [.int .i64 x1,.int .u32 0,.int .i64 x2,.int .u32 0] rfl (sees_lit Wb #[.int .i64 x1,.int .u32 0,.int .i64 x2,.int .u32 0] 137 2 2 rfl (by decide)) (by simp [Value.oneCell']) (by have:=HLN.out.2;unfold maxLen;omega) (by have:=HLN.out.2;omega) (by have:=HBw.out;simp;omega) ?_)
   intro A7 C7 w7 HP
   have u7:Upd (blk (.slice Ak (keysT T).length Ck)) Wb w7:=((Upd.refl _ _).alloc _).trans HP.upd
   have k7:KK.row w7 B0 (.slice A7 ((keysT T).length+2) C7) (keysT T++[(x1,0),(x2,0)]):=by
    have:=HP.own
    unfold Kind.row
    rw [Kind.all_app,List.length_append]
    exact this
   have m7:KL.row w7 B0 (.slice Am M.length Cm) M:=own_upd HTb.out.rm u7 (fun j hj hc=>HTb.out.km j hc hj)
   have am7:=apart_of HP (u:=.slice Am M.length Cm) (fun j hj=>Nat.lt_of_lt_of_le (own_lt HTb.out.rm j hj) (by simp)) HTb.out.km
   have hq7:q∉blk (.slice Ak (keysT T).length Ck):=fun h=>by have:=HQN.out q h;omega
   have h7:=(u7.block q (lt_of_block HBX.out) hq7).trans HBX.out
   have d2:w7.cell? ⟨q,2,none⟩=some (.int .i64 y1):=by simp [World.cell?,h7]
   have d3:w7.cell? ⟨q,3,none⟩=some (.int .i64 y2):=by simp [World.cell?,h7]
   have HU7:=Lib.hid (show Upd [] W w7 from HUb.out.trans' u7 (fun j hj=>.inr (by rw [HB0.out];exact own_ge HTb.out.rk j hj)))
   have HR7:=Lib.hid (And.intro k7 (And.intro m7 am7))
   have HBw7:=Lib.hid (Nat.le_trans HBw.out u7.size)
   clear HP u7 k7 m7 am7 hq7 h7 c0 c1
   go_wp2_with (at_builtin;refine wpList_app _ rfl _ _ 82 rfl B0 2 iM (.int .i64 0) 1 8 Tryz.underlying82 hiM hM0 hM1 hM2 rfl (by decide) _ _ _ rfl (own_upd HR7.out.2.1 ((Upd.refl [] _).alloc _) (by simp)) _ 2 [.int .i64 y1,.int .i64 y2] rfl (sees_lit w7 #[.int .i64 y1,.int .i64 y2] 2 1 2 rfl (by decide)) (by simp [Value.oneCell']) (by have:=HLN.out.1;unfold maxLen;omega) (by have:=HLN.out.1;omega) (by have:=HBw7.out;simp;omega) ?_)
   intro A8 C8 w8 HP
   have u8:Upd (blk (.slice Am M.length Cm)) w7 w8:=((Upd.refl _ _).alloc _).trans HP.upd
   have m8:KL.row w8 B0 (.slice A8 (M.length+2) C8) (M++[y1,y2]):=by
    have:=HP.own
    unfold Kind.row
    rw [Kind.all_app,List.length_append]
    exact this
   have k8:=own_upd HR7.out.1 u8 (fun j hj hc=>HR7.out.2.2 j hj hc)
   have ak8:∀j∈blk (.slice A7 ((keysT T).length+2) C7),j∉blk (.slice A8 (M.length+2) C8):=fun j hj hc=>apart_of HP (u:=.slice A7 ((keysT T).length+2) C7) (fun j hj=>Nat.lt_of_lt_of_le (own_lt HR7.out.1 j hj) (by simp)) (fun j hj hc=>HR7.out.2.2 j hc hj) j hc hj
   have HU8:=Lib.hid (show Upd [] W w8 from HU7.out.trans' u8 (fun j hj=>.inr (by rw [HB0.out];exact own_ge HTb.out.rm j hj)))
   have HR8:=Lib.hid (And.intro k8 (And.intro m8 ak8))
   clear HP u8 m8 k8 ak8 d2 d3
   go_wp2_with fail
   go_roundg (l.length - (k+1))
   case measure=>have:=HK.out;omega
   case rel=>
    have ekk:keysT (T++[⟨x1,⟨x1,x2,y1,y2,bi⟩,false⟩,⟨x2,⟨x1,x2,y1,y2,bi⟩,true⟩])=keysT T++[(x1,0),(x2,0)]:=by simp [keysT]
    refine ⟨k+1,A7,C7,A8,C8,by have:=HK.out;omega,?_,?_,by go_num,?_,HU8.out⟩
    ·rw [HTT.out,ekk,List.length_append];rfl
    ·rw [HTY.out,List.length_append];rfl
    ·rw [HTT.out,HTY.out,ekk,List.length_append,List.length_append]
     exact ⟨by rw [ekk];exact HR8.out.1,HR8.out.2.1,HR8.out.2.2⟩
  ·have hke:l.take k=l:=List.take_of_length_le (by omega)
   rw [hke] at ht ⊢
   have b1:¬(k:Int)<(l.length:Int):=by omega
   clear hk hke hlt
   obtain ⟨U,hU⟩:∃U,turnsL l=U:=⟨_,rfl⟩
   obtain ⟨M,hMe⟩:∃M,linY l=M:=⟨_,rfl⟩
   obtain ⟨Y,hYe⟩:∃Y,sqz (linY l)=Y:=⟨_,rfl⟩
   have hug:=HUG.out
   have hmk:=HM.out
   rw [hU,hMe] at hug
   rw [hYe] at hmk
   rw [hU,hMe] at ht ⊢
   have hYM:sqz M=Y:=by rw [←hMe];exact hYe
   have hML:M.length<400000∧U.length<400000:=by have:=HL.out;omega
   obtain ⟨K,hK⟩:∃K,keysT U=K:=⟨_,rfl⟩
   have hKL:K.length=U.length:=by rw [←hK];exact keys_len U
   have hrk:=ht.rk
   rw [hK] at hrk
   rw [hK]
   have hsq:=squeezeC (.slice Am M.length Cm) M wr (See.of_row ht.rm) (by omega)
   unfold SqzPost at hsq
   rw [hYM] at hsq
   have HSQ:=Lib.hid hsq
   have HRK:=Lib.hid hrk
   have HWR:=Lib.hid hu
   have HYE:=Lib.hid (And.intro hYe (And.intro hU (And.intro hMe hK)))
   have HMK:=Lib.hid hmk
   have HUGU:=Lib.hid hug
   have HLEN:=Lib.hid (And.intro hML hKL)
   have HKN:=Lib.hid (show (K.length:Int)<400000 by omega)
   clear ht hu hug hmk hYM hML hKL hrk hsq hU hMe hYe hK
   go_wp2_with fail
   (with_reducible refine HSQ.out.mono ?_)
   rintro e w1 ⟨A1,C1,rfl,r1,u1⟩
   have HN:=Lib.hid (newC (.slice A1 Y.length C1) Y w1 (See.of_row r1) HMK.out)
   have HU1:=Lib.hid u1
   clear r1 u1
   go_wp2_with fail
   (with_reducible refine HN.out.mono ?_)
   rintro e w2 ⟨b,F,rfl,c2,u2,f2⟩
   have HU2:=Lib.hid (And.intro c2 (And.intro (HU1.out.trans u2) (And.intro f2 c2.lt)))
   have HSO:=Lib.hid (sortOrder (.slice Ak K.length Ck) K w2 (See.of_row (own_upd HRK.out (HU1.out.trans u2) (by simp))) (by have:=HLEN.out;omega))
   clear c2 u2 f2 HN HSQ
   go_wp2_with fail
   (with_reducible refine HSO.out.mono ?_)
   rintro e w3 ⟨A3,C3,P,wrt,rfl,s3,p3,q3,u3,k3⟩
   have HTS:=Lib.hid (turns_sorted (T:=U) (M:=P) (by rw [HYE.out.2.2.2];exact p3) (by rw [HYE.out.2.2.2];exact q3) ⟨0,⟨0,0,0,0,0⟩,false⟩)
   have hPl:P.length=K.length:=by have:=p3.length_eq;rw [List.length_range] at this;exact this
   have hPi:∀i∈P,i<K.length:=fun i hi=>List.mem_range.1 (p3.mem_iff.1 hi)
   have hww:Upd [] wr w3:=HU2.out.2.1.trans u3
   have hst:SwSt w3 B0 B p (.slice Ak K.length Ck) (.slice A3 K.length C3) (.slice A l.length C) K P l:=
    ⟨own_upd HRK.out hww (by simp),by have:=s3;exact this,own_upd HRF.out (HWR.out.trans hww) (by simp),((HWR.out.trans hww).cell (p:=⟨p,0,none⟩) (World.block_lt_of_cell? W _ HCP.out) (by simp)).trans HCP.out⟩
   have hdis:(∀y∈F,B0≤y)∧(∀k∈blk (.slice Ak K.length Ck),k∉F∧B0≤k)∧(∀k∈blk (.slice A3 K.length C3),k∉F∧B0≤k):=by
    have z1:=HU1.out.size
    have z0:=HWR.out.size
    have z2:=HU2.out.2.1.size
    rw [HB0.out] at z0
    refine ⟨fun y hy=>by have:=HU2.out.2.2.1 y hy;omega,fun k hk=>⟨fun hf=>?_,own_ge HRK.out k hk⟩,fun k hk=>⟨fun hf=>?_,by have:=k3 k hk;omega⟩⟩
    ·have h1:=HU2.out.2.2.1 k hf;have h2:=own_lt HRK.out k hk;omega
    ·have h1:=HU2.out.2.2.2 k hf;have h2:=k3 k hk;omega
   obtain ⟨T,hT⟩:∃T,(P.map fun i=>U[i]?.getD ⟨0,⟨0,0,0,0,0⟩,false⟩)=T:=⟨_,rfl⟩
   obtain ⟨N0,hN0⟩:∃N0,K.length=N0:=⟨_,rfl⟩
   have hTl:T.length=N0:=by rw [←hT,List.length_map,hPl,hN0]
   have HDIS:=Lib.hid hdis
   have HST:=Lib.hid hst
   have HTT:=Lib.hid hT
   rw [hT] at HTS
   rw [hN0] at HST HDIS hPl hPi HKN HLEN HRK ⊢
   have HP:=Lib.hid (And.intro hPl (And.intro hPi hTl))
   have HCV:=Lib.hid (HU2.out.1.upd0 u3)
   have HW3:=Lib.hid (HWR.out.trans hww)
   have HN0:=Lib.hid hN0
   have hKn:=HKN.out
   clear s3 p3 q3 u3 k3 hPl hPi hww hst hdis hT hTl hN0 HU2 HSO
   go_wp2_with fail
   go_loopg [55] N0 (fun m s55 wr=>∃k N,m+k=N0∧N≤k∧s55=.int .i64 (k:Int)∧J ((stepsL Y T).take k) wr∧IsCov wr b F Y (sw Y (T.take k)) N∧SwSt wr B0 B p (.slice Ak N0 Ck) (.slice A3 N0 C3) (.slice A l.length C) K P l∧B0≤wr.heap.size)
   case atStart=>exact ⟨0,0,by omega,Nat.le_refl _,rfl,HJ.out [] W w3 HJ0.out HW3.out.below,HCV.out,HST.out,by have:=HW3.out.size;rw [HB0.out] at this;exact this⟩
   case round=>
    clear b1
    obtain ⟨j,N,hk,hNk,rfl,hJk,hcv,hst,hsz⟩:=hrel
    have b0:(0:Int)≤(j:Int):=Int.natCast_nonneg _
    by_cases hlt:j<N0
    ·have b1:(j:Int)<(N0:Int):=by omega
     obtain ⟨i,hi⟩:∃i,P[j]? = some i:=⟨_,List.getElem?_eq_getElem (by rw [HP.out.1];exact hlt)⟩
     have hiN:=HP.out.2.1 i (List.mem_of_getElem? hi)
     have hUL:U.length=N0:=HLEN.out.2.symm
     obtain ⟨bb,hbb,hUi⟩:=HUGU.out.2.1 i (by omega)
     have hh0:i / 2<l.length:=by have:=HUGU.out.1;omega
     obtain ⟨t,ht⟩:∃t:Tn,(if i % 2=0 then ⟨bb.x1,bb,false⟩ else ⟨bb.x2,bb,true⟩)=t:=⟨_,rfl⟩
     rw [ht] at hUi
     have hTj:T[j]? = some t:=by rw [←HTT.out,List.getElem?_map,hi];simp [hUi]
     have hKi:K[i]? = some (t.x,0):=by rw [←HYE.out.2.2.2];unfold keysT;rw [List.getElem?_map,hUi];rfl
     obtain ⟨gp,op,hA3,-,-,cpl⟩:=KN.at hst.sp hi
     obtain ⟨gf,of,hAf,-,-,l0,l1,l2,l3⟩:=KFl.at (See.of_row hst.rf) hbb
     obtain ⟨gk,ok,hAk,-,-,hkc⟩:=(See.of_row hst.rk).at hKi
     have k0:wr.cell? ⟨gk,ok+i*2,none⟩=some (.int .i64 t.x):=hkc 0 _ rfl
     clear hkc
     obtain ⟨h,hh⟩:∃h,i / 2=h:=⟨_,rfl⟩
     rw [hh] at l0 l1 l2 l3 hh0
     have e2:(i:Int) / 2=(h:Int):=by omega
     have h0:(0:Int)≤(h:Int):=Int.natCast_nonneg _
     have h1:(h:Int)<(l.length:Int):=by omega
     subst hA3 hAf hAk
     have ccp:=hst.cp
     have HX:=Lib.hid (And.intro hk (And.intro hNk (And.intro hlt (And.intro hiN (And.intro hbb (And.intro ht (And.intro hTj (And.intro hi hUi))))))))
     have HJK:=Lib.hid hJk
     have HCVK:=Lib.hid hcv
     have HSTK:=Lib.hid hst
     have HSZ:=Lib.hid hsz
     have HK0:=Lib.hid (And.intro k0 cpl)
     clear hk hNk hJk hcv hst hsz hlt hi hiN hUL hbb hUi ht hTj hKi k0 hh hh0
     have hua:Upd [] wr ((wr.alloc (.cells #[.int .i64 bb.x1,.int .i64 bb.x2,.int .i64 bb.y1,.int .i64 bb.y2] 163)).alloc (.cells #[.int .i64 0,.int .u64 0,.int .i64 0] 104)):=((Upd.refl _ _).alloc _).alloc _
     have hbx:((wr.alloc (.cells #[.int .i64 bb.x1,.int .i64 bb.x2,.int .i64 bb.y1,.int .i64 bb.y2] 163)).alloc (.cells #[.int .i64 0,.int .u64 0,.int .i64 0] 104)).heap[wr.heap.size]? = some (.cells #[.int .i64 bb.x1,.int .i64 bb.x2,.int .i64 bb.y1,.int .i64 bb.y2] 163 (0,0))∧((wr.alloc (.cells #[.int .i64 bb.x1,.int .i64 bb.x2,.int .i64 bb.y1,.int .i64 bb.y2] 163)).alloc (.cells #[.int .i64 0,.int .u64 0,.int .i64 0] 104)).heap[wr.heap.size+1]? = some (.cells #[.int .i64 0,.int .u64 0,.int .i64 0] 104 (0,0)):=
      ⟨(Below.heap_alloc _ _ _ (by simp)).trans (heap_alloc_new _ _),by have:=heap_alloc_new (wr.alloc (.cells #[.int .i64 bb.x1,.int .i64 bb.x2,.int .i64 bb.y1,.int .i64 bb.y2] 163)) (.cells #[.int .i64 0,.int .u64 0,.int .i64 0] 104);rwa [World.size_alloc] at this⟩
     have hqf:(∀y∈F,y<wr.heap.size)∧(∀k∈blk (.slice (some ⟨gk,ok,none⟩) N0 Ck),k<wr.heap.size)∧(∀k∈blk (.slice (some ⟨gp,op,none⟩) N0 C3),k<wr.heap.size)∧W.heap.size≤wr.heap.size∧w.heap.size≤wr.heap.size:=
      ⟨HCVK.out.lt,own_lt HSTK.out.rk,fun k hk=>by simp [blk] at hk;subst hk;exact World.block_lt_of_cell? wr _ HK0.out.2,by rw [HB0.out];exact HSZ.out,by have:=HRID.out;rw [HB0.out] at this;have:=HSZ.out;omega⟩
     have hsl:(sw Y (T.take j)).length≤1000000:=by have h1:=sw_len Y (T.take j);rw [List.length_take] at h1;have:=HP.out.2.2;have:=HKN.out;omega
     have hsn:sw Y (T.take (j+1))=stepT Y (sw Y (T.take j)) t∧stepE Y (sw Y (T.take j)) t=stE Y T j:=by
      have htj:=HX.out.2.2.2.2.2.2.1
      refine ⟨by rw [show T.take (j+1)=T.take j++[t] by rw [List.take_add_one,htj];rfl,sw_snoc],?_⟩
      have h1:=stepE_eq (l:=l) (T:=T) (by rw [HYE.out.2.1];exact HTS.out.1) HTS.out.2 htj
      rw [HYE.out.1] at h1
      rw [h1]
      unfold stE
      rw [htj]
     have HUA:=Lib.hid hua
     have HBX:=Lib.hid hbx
     have HQF:=Lib.hid hqf
     have HSL:=Lib.hid hsl
     have HSN:=Lib.hid hsn
     clear hua hbx hqf hsl hsn
     obtain ⟨g,hg⟩:∃g,((i:Int) % 2==0)=g:=⟨_,rfl⟩
     go_upto_if 68 with fail
     have HG:=Lib.hid hg
     clear hg e2 h0 h1 l0 l1 l2 l3 ccp
     have HSb:=Lib.hid (HSTK.out.upd0 HUA.out)
     have HCb:=Lib.hid (HCVK.out.upd0 HUA.out)
     have HJb:=Lib.hid (HJ.out _ _ _ HJK.out (HUA.out.below.mono HQF.out.2.2.2.1))
     have HSZb:=Lib.hid (Nat.le_trans HSZ.out HUA.out.size)
     generalize ((wr.alloc (.cells #[.int .i64 bb.x1,.int .i64 bb.x2,.int .i64 bb.y1,.int .i64 bb.y2] 163)).alloc (.cells #[.int .i64 0,.int .u64 0,.int .i64 0] 104))=Wb at HBX HSb HCb HJb HSZb HUA ⊢
     have HKS:=Lib.hid (show Upd [] wr Wb from HUA.out)
     generalize hq:wr.heap.size=q at HBX HQF ⊢
     have HQQ:=Lib.hid hq
     clear hq
     have c2:Wb.cell? ⟨q,2,none⟩=some (.int .i64 bb.y1):=by have:=HBX.out.1;simp [World.cell?,this]
     have c3:Wb.cell? ⟨q,3,none⟩=some (.int .i64 bb.y2):=by have:=HBX.out.1;simp [World.cell?,this]
     go_cut [] (fun wc=>(∃N',N'≤j+1∧IsCov wc b F Y (sw Y (T.take (j+1))) N')∧SwSt wc B0 B p (.slice (some ⟨gk,ok,none⟩) N0 Ck) (.slice (some ⟨gp,op,none⟩) N0 C3) (.slice (some ⟨gf,of,none⟩) l.length C) K P l∧J ((stepsL Y T).take j) wc∧wc.heap[q+1]? = some (.cells #[.int .i64 0,.int .u64 0,.int .i64 (stE Y T j:Int)] 104 (0,0))∧B0≤wc.heap.size)
     case first=>
      by_cases hpar:i % 2=0
      ·
       have htt:t=⟨bb.x1,bb,false⟩:=by rw [←HX.out.2.2.2.2.2.1];rw [if_pos hpar]
       have g1:g=true:=by rw [←HG.out,beq_iff_eq];omega
       subst g1
       have had:=addC b F Y (sw Y (T.take j)) N Wb bb.y1 bb.y2 HCb.out HMK.out (by have:=HX.out.2.1;have:=HX.out.2.2.1;have:=HKN.out;omega) HSL.out
       unfold AdPost at had
       have e1:addH Y (sw Y (T.take j)) bb.y1 bb.y2=sw Y (T.take (j+1)):=by rw [HSN.out.1,htt];rfl
       have e3:addK Y bb.y1 bb.y2=stE Y T j:=by rw [←HSN.out.2,htt];rfl
       rw [e1,e3] at had
       obtain ⟨E,hE⟩:∃E,stE Y T j=E:=⟨_,rfl⟩
       rw [hE] at had
       have HAD:=Lib.hid had
       have HE:=Lib.hid hE
       clear htt had e1 e3 hpar hE
       go_wp2_with fail
       (with_reducible refine HAD.out.mono ?_)
       rintro e w4 ⟨rfl,⟨N',hN',hc4⟩,hu4⟩
       clear c2 c3
       have hq4:=(hu4.block (q+1) (lt_of_block HBX.out.2) (fun h=>by have:=HQF.out.1 _ h;omega)).trans HBX.out.2
       have d2:w4.cell? ⟨q+1,2,none⟩=some (.int .i64 0):=by simp [World.cell?,hq4]
       have f2:w4.frozen? ⟨q+1,2,none⟩=false:=by simp [World.frozen?,hq4]
       have hst4:=HSb.out.upd hu4 (fun k hk=>(HDIS.out.2.1 k hk).1) (fun k hk=>(HDIS.out.2.2 k hk).1) (fun k hk hf=>by have:=HDIS.out.1 k hf;have:=(HFW.out k hk).2;have:=HRID.out;rw [HB0.out] at this;omega) (fun hf=>by have:=HDIS.out.1 p hf;have:=HPW.out.2;have:=HRID.out;rw [HB0.out] at this;omega)
       have hJ4:=HJ.out _ _ _ HJb.out (show Below W.heap.size Wb w4 from ⟨hu4.os,hu4.tape,hu4.output,hu4.size,fun k hk=>hu4.block k (by have:=HSZb.out;rw [HB0.out] at hk;omega) (fun hf=>by have:=HDIS.out.1 k hf;rw [HB0.out] at hk;omega)⟩)
       have hus:Upd [q+1] w4 (w4.setCell ⟨q+1,2,none⟩ (.int .i64 (E:Int))):=(Upd.refl _ _).setCell (.inl (by simp)) _
       have HR4:=Lib.hid (And.intro (show ∃N',N'≤j+1∧IsCov (w4.setCell ⟨q+1,2,none⟩ (.int .i64 (E:Int))) b F Y (sw Y (T.take (j+1))) N' from ⟨N',by have:=HX.out.2.1;omega,hc4.upd hus (fun y hy hc=>by simp at hc;have:=HQF.out.1 _ hy;omega)⟩)
        (And.intro (hst4.upd hus (fun k hk hc=>by simp at hc;have:=HQF.out.2.1 _ hk;omega) (fun k hk hc=>by simp at hc;have:=HQF.out.2.2.1 _ hk;omega) (fun k hk hc=>by simp at hc;have:=(HFW.out k hk).2;have:=HQF.out.2.2.2;omega) (fun hc=>by simp at hc;have:=HPW.out.2;have:=HQF.out.2.2.2;omega))
        (And.intro (HJ.out _ _ _ hJ4 (show Below W.heap.size w4 (w4.setCell ⟨q+1,2,none⟩ (.int .i64 (E:Int))) from ⟨hus.os,hus.tape,hus.output,hus.size,fun k hk=>Below.heap_setCell _ _ _ _ (by have:=HQF.out.2.2.2;show k≠q+1;omega)⟩))
        (And.intro (show (w4.setCell ⟨q+1,2,none⟩ (.int .i64 (E:Int))).heap[q+1]? = some (.cells #[.int .i64 0,.int .u64 0,.int .i64 (E:Int)] 104 (0,0)) from heap_set hq4 2 _)
        (show B0≤(w4.setCell ⟨q+1,2,none⟩ (.int .i64 (E:Int))).heap.size from Nat.le_trans (Nat.le_trans HSZb.out hu4.size) hus.size)))))
       clear hq4 hst4 hJ4 hus hc4 hu4 hN'
       go_wp2_with fail
       clear d2 f2
       go_meet
       case rel=>rw [HE.out];exact HR4.out
      ·
       have htt:t=⟨bb.x2,bb,true⟩:=by rw [←HX.out.2.2.2.2.2.1];rw [if_neg hpar]
       have g1:g=false:=by rw [←HG.out,beq_eq_false_iff_ne];omega
       subst g1
       have had:=dropC b F Y (sw Y (T.take j)) N Wb bb.y1 bb.y2 HCb.out HMK.out (by have:=HX.out.2.1;have:=HX.out.2.2.1;have:=HKN.out;omega) HSL.out
       unfold AdPost at had
       have e1:dropH Y (sw Y (T.take j)) bb.y1 bb.y2=sw Y (T.take (j+1)):=by rw [HSN.out.1,htt];rfl
       have e3:dropK Y (sw Y (T.take j)) bb.y1 bb.y2=stE Y T j:=by rw [←HSN.out.2,htt];rfl
       rw [e1,e3] at had
       obtain ⟨E,hE⟩:∃E,stE Y T j=E:=⟨_,rfl⟩
       rw [hE] at had
       have HAD:=Lib.hid had
       have HE:=Lib.hid hE
       clear htt had e1 e3 hpar hE
       go_wp2_with fail
       (with_reducible refine HAD.out.mono ?_)
       rintro e w4 ⟨rfl,⟨N',hN',hc4⟩,hu4⟩
       clear c2 c3
       have hq4:=(hu4.block (q+1) (lt_of_block HBX.out.2) (fun h=>by have:=HQF.out.1 _ h;omega)).trans HBX.out.2
       have d2:w4.cell? ⟨q+1,2,none⟩=some (.int .i64 0):=by simp [World.cell?,hq4]
       have f2:w4.frozen? ⟨q+1,2,none⟩=false:=by simp [World.frozen?,hq4]
       have hst4:=HSb.out.upd hu4 (fun k hk=>(HDIS.out.2.1 k hk).1) (fun k hk=>(HDIS.out.2.2 k hk).1) (fun k hk hf=>by have:=HDIS.out.1 k hf;have:=(HFW.out k hk).2;have:=HRID.out;rw [HB0.out] at this;omega) (fun hf=>by have:=HDIS.out.1 p hf;have:=HPW.out.2;have:=HRID.out;rw [HB0.out] at this;omega)
       have hJ4:=HJ.out _ _ _ HJb.out (show Below W.heap.size Wb w4 from ⟨hu4.os,hu4.tape,hu4.output,hu4.size,fun k hk=>hu4.block k (by have:=HSZb.out;rw [HB0.out] at hk;omega) (fun hf=>by have:=HDIS.out.1 k hf;rw [HB0.out] at hk;omega)⟩)
       have hus:Upd [q+1] w4 (w4.setCell ⟨q+1,2,none⟩ (.int .i64 (E:Int))):=(Upd.refl _ _).setCell (.inl (by simp)) _
       have HR4:=Lib.hid (And.intro (show ∃N',N'≤j+1∧IsCov (w4.setCell ⟨q+1,2,none⟩ (.int .i64 (E:Int))) b F Y (sw Y (T.take (j+1))) N' from ⟨N',by have:=HX.out.2.1;omega,hc4.upd hus (fun y hy hc=>by simp at hc;have:=HQF.out.1 _ hy;omega)⟩)
        (And.intro (hst4.upd hus (fun k hk hc=>by simp at hc;have:=HQF.out.2.1 _ hk;omega) (fun k hk hc=>by simp at hc;have:=HQF.out.2.2.1 _ hk;omega) (fun k hk hc=>by simp at hc;have:=(HFW.out k hk).2;have:=HQF.out.2.2.2;omega) (fun hc=>by simp at hc;have:=HPW.out.2;have:=HQF.out.2.2.2;omega))
        (And.intro (HJ.out _ _ _ hJ4 (show Below W.heap.size w4 (w4.setCell ⟨q+1,2,none⟩ (.int .i64 (E:Int))) from ⟨hus.os,hus.tape,hus.output,hus.size,fun k hk=>Below.heap_setCell _ _ _ _ (by have:=HQF.out.2.2.2;show k≠q+1;omega)⟩))
        (And.intro (show (w4.setCell ⟨q+1,2,none⟩ (.int .i64 (E:Int))).heap[q+1]? = some (.cells #[.int .i64 0,.int .u64 0,.int .i64 (E:Int)] 104 (0,0)) from heap_set hq4 2 _)
        (show B0≤(w4.setCell ⟨q+1,2,none⟩ (.int .i64 (E:Int))).heap.size from Nat.le_trans (Nat.le_trans HSZb.out hu4.size) hus.size)))))
       clear hq4 hst4 hJ4 hus hc4 hu4 hN'
       go_wp2_with fail
       clear d2 f2
       go_meet
       case rel=>rw [HE.out];exact HR4.out
     case rest=>
      obtain ⟨⟨N',hN',hc4⟩,hst4,hJ4,hq4,hz4⟩:=hcut
      clear c2 c3
      have hru:=runsC b F Y (sw Y (T.take (j+1))) N' wc hc4
      rw [runsT_eq HMK.out T j] at hru
      obtain ⟨R,hR⟩:∃R,runsT Y T j=R:=⟨_,rfl⟩
      obtain ⟨E,hE⟩:∃E,stE Y T j=E:=⟨_,rfl⟩
      rw [hR] at hru
      rw [hE] at hq4
      have HRU:=Lib.hid hru
      have HRE:=Lib.hid (And.intro hR hE)
      have HC4:=Lib.hid (And.intro (⟨N',hN',hc4⟩:∃N',N'≤j+1∧IsCov wc b F Y (sw Y (T.take (j+1))) N') (And.intro hst4 (And.intro hJ4 (And.intro hq4 hz4))))
      clear hN' hc4 hst4 hJ4 hq4 hz4 hru hR hE
      go_wp2_with fail
      (with_reducible refine HRU.out.mono ?_)
      rintro e w5 ⟨rfl,hu5⟩
      have HC5:=Lib.hid (And.intro (HC4.out.1.elim fun N' h=>(⟨N',h.1,h.2.upd0 hu5⟩:∃N',N'≤j+1∧IsCov w5 b F Y (sw Y (T.take (j+1))) N')) (And.intro (HC4.out.2.1.upd0 hu5) (And.intro (HJ.out _ _ _ HC4.out.2.2.1 (hu5.below.mono (by have:=HC4.out.2.2.2.2;rw [HB0.out];exact this)))
       (And.intro ((hu5.block (q+1) (lt_of_block HC4.out.2.2.2.1) (by simp)).trans HC4.out.2.2.2.1) (Nat.le_trans HC4.out.2.2.2.2 hu5.size)))))
      have d0:w5.cell? ⟨q+1,0,none⟩=some (.int .i64 0):=by have:=HC5.out.2.2.2.1;simp [World.cell?,this]
      have f0:w5.frozen? ⟨q+1,0,none⟩=false:=by have:=HC5.out.2.2.2.1;simp [World.frozen?,this]
      have hus:Upd [q+1] w5 (w5.setCell ⟨q+1,0,none⟩ (.int .i64 (R:Int))):=(Upd.refl _ _).setCell (.inl (by simp)) _
      have HC6:=Lib.hid (And.intro (HC5.out.1.elim fun N' h=>(⟨N',h.1,h.2.upd hus (fun y hy hc=>by simp at hc;have:=HQF.out.1 _ hy;omega)⟩:∃N',N'≤j+1∧IsCov (w5.setCell ⟨q+1,0,none⟩ (.int .i64 (R:Int))) b F Y (sw Y (T.take (j+1))) N'))
       (And.intro (HC5.out.2.1.upd hus (fun k hk hc=>by simp at hc;have:=HQF.out.2.1 _ hk;omega) (fun k hk hc=>by simp at hc;have:=HQF.out.2.2.1 _ hk;omega) (fun k hk hc=>by simp at hc;have:=(HFW.out k hk).2;have:=HQF.out.2.2.2;omega) (fun hc=>by simp at hc;have:=HPW.out.2;have:=HQF.out.2.2.2;omega))
       (And.intro (HJ.out _ _ _ HC5.out.2.2.1 (show Below W.heap.size w5 (w5.setCell ⟨q+1,0,none⟩ (.int .i64 (R:Int))) from ⟨hus.os,hus.tape,hus.output,hus.size,fun k hk=>Below.heap_setCell _ _ _ _ (by have:=HQF.out.2.2.2;show k≠q+1;omega)⟩))
       (And.intro (show (w5.setCell ⟨q+1,0,none⟩ (.int .i64 (R:Int))).heap[q+1]? = some (.cells #[.int .i64 (R:Int),.int .u64 0,.int .i64 (E:Int)] 104 (0,0)) from heap_set HC5.out.2.2.2.1 0 _)
       (show B0≤(w5.setCell ⟨q+1,0,none⟩ (.int .i64 (R:Int))).heap.size from Nat.le_trans HC5.out.2.2.2.2 hus.size)))))
      clear hus
      clear hu5
      obtain ⟨gb,hgb⟩:∃gb,decide ((j:Int)+1<(N0:Int))=gb:=⟨_,rfl⟩
      go_upto_if 96 with fail
      have HGB:=Lib.hid hgb
      clear d0 f0 hgb
      generalize w5.setCell ⟨q+1,0,none⟩ (.int .i64 (R:Int))=W6 at HC6 ⊢
      go_cut [] (fun wd=>(∃N',N'≤j+1∧IsCov wd b F Y (sw Y (T.take (j+1))) N')∧SwSt wd B0 B p (.slice (some ⟨gk,ok,none⟩) N0 Ck) (.slice (some ⟨gp,op,none⟩) N0 C3) (.slice (some ⟨gf,of,none⟩) l.length C) K P l∧J ((stepsL Y T).take j) wd∧wd.heap[q+1]? = some (.cells #[.int .i64 (R:Int),.int .u64 (longX T j:Int),.int .i64 (E:Int)] 104 (0,0))∧B0≤wd.heap.size)
      case first=>
       by_cases hend:j+1<N0
       ·have g1:gb=true:=by rw [←HGB.out,decide_eq_true_eq];omega
        subst g1
        obtain ⟨i',hi'⟩:∃i',P[j+1]? = some i':=⟨_,List.getElem?_eq_getElem (by rw [HP.out.1];exact hend)⟩
        have hiN':=HP.out.2.1 i' (List.mem_of_getElem? hi')
        have hUL:U.length=N0:=HLEN.out.2.symm
        obtain ⟨u,hUi'⟩:∃u,U[i']? = some u:=⟨_,List.getElem?_eq_getElem (by omega)⟩
        have hTj':T[j+1]? = some u:=by rw [←HTT.out,List.getElem?_map,hi'];simp [hUi']
        have hKi':K[i']? = some (u.x,0):=by rw [←HYE.out.2.2.2];unfold keysT;rw [List.getElem?_map,hUi'];rfl
        have hKi:K[i]? = some (t.x,0):=by rw [←HYE.out.2.2.2];unfold keysT;rw [List.getElem?_map,HX.out.2.2.2.2.2.2.2.2];rfl
        obtain ⟨_,_,hA,-,-,hkc⟩:=(See.of_row HC6.out.2.1.rk).at hKi
        cases hA
        obtain ⟨_,_,hA,-,-,hkc'⟩:=(See.of_row HC6.out.2.1.rk).at hKi'
        cases hA
        obtain ⟨_,_,hA,-,-,hpl⟩:=KN.at HC6.out.2.1.sp hi'
        cases hA
        have hs0:W6.cell? ⟨gk,ok+i*2,none⟩=some (.int .i64 t.x)∧W6.cell? ⟨gp,op+(j+1),none⟩=some (.int .i64 (i':Int))∧W6.cell? ⟨gk,ok+i'*2,none⟩=some (.int .i64 u.x)∧W6.cell? ⟨gk,ok+i'*2,none⟩=some (.int .i64 u.x):=⟨hkc 0 _ rfl,hpl,hkc' 0 _ rfl,hkc' 0 _ rfl⟩
        have hdx:=longX_diff HTS.out.2 HX.out.2.2.2.2.2.2.1 hTj'
        have ht64:=turns_x64 HBBX.out (t:=t) (by rw [HYE.out.2.1];exact List.mem_of_getElem? HX.out.2.2.2.2.2.2.2.2)
        have hu64:=turns_x64 HBBX.out (t:=u) (by rw [HYE.out.2.1];exact List.mem_of_getElem? hUi')
        obtain ⟨LG,hLG⟩:∃LG,longX T j=LG:=⟨_,rfl⟩
        obtain ⟨tx,htx⟩:∃tx,t.x=tx:=⟨_,rfl⟩
        obtain ⟨ux,hux⟩:∃ux,u.x=ux:=⟨_,rfl⟩
        rw [htx,hux,hLG] at hdx
        rw [htx] at hs0 ht64
        rw [hux] at hs0 hu64
        have hdf:=fun w=>diffC tx ux w ht64 hu64
        rw [hdx] at hdf
        have HDF:=Lib.hid hdf
        have HLG:=Lib.hid hLG
        have HS0:=Lib.hid hs0
        have v0:(0:Int)≤(i:Int):=Int.natCast_nonneg _
        have v1:(i:Int)<(N0:Int):=by have:=HX.out.2.2.2.1;omega
        have v2:(0:Int)≤(i':Int):=Int.natCast_nonneg _
        have v3:(i':Int)<(N0:Int):=by omega
        have v4:(j:Int)+1<(N0:Int):=by omega
        clear hend hi' hiN' hUL hUi' hTj' hKi' hKi hkc hkc' hpl hs0 hdx ht64 hu64 hLG htx hux hdf
        go_upto_region 20 with fail
        have wk:IntKind.i64.wrap ((j:Int)+1)=(j:Int)+1:=IntWalk.i64_in _ ⟨by omega,by omega⟩
        have kp:(0:Int)≤(j:Int)+1:=by omega
        have kn:((j:Int)+1).toNat=j+1:=by omega
        obtain ⟨Wd,hWd⟩:∃Wd,Wd=W6.drew:=⟨_,rfl⟩
        have hud:Upd [] W6 Wd:=by rw [hWd];exact (Upd.refl _ _).drew
        have HSd:=Lib.hid (keep4 HS0.out hud)
        have HCd:=Lib.hid (And.intro (HC6.out.1.elim fun N' h=>(⟨N',h.1,h.2.upd0 hud⟩:∃N',N'≤j+1∧IsCov Wd b F Y (sw Y (T.take (j+1))) N')) (And.intro (HC6.out.2.1.upd0 hud) (And.intro (HJ.out _ _ _ HC6.out.2.2.1 (hud.below.mono (by have:=HC6.out.2.2.2.2;rw [HB0.out];exact this)))
         (And.intro ((hud.block (q+1) (lt_of_block HC6.out.2.2.2.1) (by simp)).trans HC6.out.2.2.2.1) (Nat.le_trans HC6.out.2.2.2.2 hud.size)))))
        clear hud
        refine GoT.start [14,15,16] (fun w'=>w'.cell? ⟨gk,ok+i*2,none⟩=some (.int .i64 tx)∧w'.cell? ⟨gp,op+(j+1),none⟩=some (.int .i64 (i':Int))∧w'.cell? ⟨gk,ok+i'*2,none⟩=some (.int .i64 ux)∧w'.cell? ⟨gk,ok+i'*2,none⟩=some (.int .i64 ux)) (by kernel_rfl) ?_ fun hS=>?_
        ·exact by rw [←hWd];exact HSd.out
        rw [←hWd] at hS ⊢
        clear hWd
        refine' GoT.mv (i:=0) (oi:=⟨some 97,_,_,_,_,_⟩) rfl (by rfl) ?y20_0 ?_
        case y20_0=>intro w;go_simp<;>with_reducible rfl
        simp only [Act.put,sA,sZ,sS]
        refine' GoT.mv (i:=1) (oi:=⟨some 98,_,_,_,_,_⟩) rfl (by rfl) ?y20_1 ?_
        case y20_1=>intro w;go_simp<;>with_reducible rfl
        simp only [Act.put,sA,sZ,sS]
        refine' GoT.mv (i:=2) (oi:=⟨some 99,_,_,_,_,_⟩) rfl (by rfl) ?y20_2 ?_
        case y20_2=>intro w;go_simp<;>with_reducible rfl
        simp only [Act.put,sA,sZ,sS]
        refine' GoT.mv (i:=3) (oi:=⟨some 100,_,_,_,_,_⟩) rfl (by rfl) ?y20_3 ?_
        case y20_3=>intro w;go_simp<;>with_reducible rfl
        simp only [Act.put,sA,sZ,sS]
        refine' GoT.tk 4 (i:=4) (oi:=⟨some 101,_,_,_,_,_⟩) rfl (by rfl) ?y20_4 ?_
        case y20_4=>intro w hSw;go_simp<;>with_reducible rfl
        simp only [Act.put,sA,sZ,sS]
        refine' GoT.mv (i:=5) (oi:=⟨some 102,_,_,_,_,_⟩) rfl (by rfl) ?y20_5 ?_
        case y20_5=>intro w;go_simp<;>with_reducible rfl
        simp only [Act.put,sA,sZ,sS]
        refine' GoT.mv (i:=6) (oi:=⟨some 103,_,_,_,_,_⟩) rfl (by rfl) ?y20_6 ?_
        case y20_6=>intro w;go_simp<;>with_reducible rfl
        simp only [Act.put,sA,sZ,sS]
        refine' GoT.mv (i:=7) (oi:=⟨some 104,_,_,_,_,_⟩) rfl (by rfl) ?y20_7 ?_
        case y20_7=>intro w;go_simp<;>with_reducible rfl
        simp only [Act.put,sA,sZ,sS]
        refine' GoT.mv (i:=8) (oi:=⟨some 105,_,_,_,_,_⟩) rfl (by rfl) ?y20_8 ?_
        case y20_8=>intro w;go_simp<;>with_reducible rfl
        simp only [Act.put,sA,sZ,sS]
        refine' GoT.mv (i:=9) (oi:=⟨some 106,_,_,_,_,_⟩) rfl (by rfl) ?y20_9 ?_
        case y20_9=>intro w;go_simp<;>with_reducible rfl
        simp only [Act.put,sA,sZ,sS]
        refine' GoT.tk 4 (i:=10) (oi:=⟨some 107,_,_,_,_,_⟩) rfl (by rfl) ?y20_10 ?_
        case y20_10=>intro w hSw;go_simp<;>with_reducible rfl
        simp only [Act.put,sA,sZ,sS]
        refine' GoT.mv (i:=11) (oi:=⟨some 108,_,_,_,_,_⟩) rfl (by rfl) ?y20_11 ?_
        case y20_11=>intro w;go_simp<;>with_reducible rfl
        simp only [Act.put,sA,sZ,sS]
        refine' GoT.mv (i:=12) (oi:=⟨some 109,_,_,_,_,_⟩) rfl (by rfl) ?y20_12 ?_
        case y20_12=>intro w;go_simp<;>with_reducible rfl
        simp only [Act.put,sA,sZ,sS]
        refine' GoT.tk 4 (i:=13) (oi:=⟨some 110,_,_,_,_,_⟩) rfl (by rfl) ?y20_13 ?_
        case y20_13=>intro w hSw;go_simp<;>with_reducible rfl
        simp only [Act.put,sA,sZ,sS]
        refine GoT.one (i:=14) (o:=⟨some 111,_,_,_,_,_⟩) rfl (by kernel_rfl) fun K hK=>?_
        go_simp
        go_at_call 47
        (with_reducible refine (HDF.out _).mono ?_)
        rintro e w' ⟨rfl,rfl⟩
        refine hK.out _ _ (fun h=>(by cases h)) ?_
        clear hK K
        try simp only [Act.put,sA,sZ,sS]
        have z1:Wd.cell? ⟨q+1,1,none⟩=some (.int .u64 0):=by have:=HCd.out.2.2.2.1;simp [World.cell?,this]
        have zf:Wd.frozen? ⟨q+1,1,none⟩=false:=by have:=HCd.out.2.2.2.1;simp [World.frozen?,this]
        refine' GoT.mv (i:=15) (oi:=⟨some 112,_,_,_,_,_⟩) rfl (by rfl) ?y20_15 ?_
        case y20_15=>intro w;go_simp<;>with_reducible rfl
        simp only [Act.put,sA,sZ,sS]
        refine GoT.one (i:=16) (o:=⟨none,_,_,_,_,_⟩) rfl (by kernel_rfl) fun K hK=>?_
        go_simp
        refine hK.out _ _ (fun h=>(by cases h)) ?_
        clear hK K
        try simp only [Act.put,sA,sZ,sS]
        refine GoT.done (by kernel_rfl) ?_
        clear wk kp kn v0 v1 v2 v3 v4
        have hus:Upd [q+1] Wd (Wd.setCell ⟨q+1,1,none⟩ (.int .u64 (LG:Int))):=(Upd.refl _ _).setCell (.inl (by simp)) _
        have HC7:=Lib.hid (And.intro (HCd.out.1.elim fun N' h=>(⟨N',h.1,h.2.upd hus (fun y hy hc=>by simp at hc;have:=HQF.out.1 _ hy;omega)⟩:∃N',N'≤j+1∧IsCov (Wd.setCell ⟨q+1,1,none⟩ (.int .u64 (LG:Int))) b F Y (sw Y (T.take (j+1))) N'))
         (And.intro (HCd.out.2.1.upd hus (fun k hk hc=>by simp at hc;have:=HQF.out.2.1 _ hk;omega) (fun k hk hc=>by simp at hc;have:=HQF.out.2.2.1 _ hk;omega) (fun k hk hc=>by simp at hc;have:=(HFW.out k hk).2;have:=HQF.out.2.2.2;omega) (fun hc=>by simp at hc;have:=HPW.out.2;have:=HQF.out.2.2.2;omega))
         (And.intro (HJ.out _ _ _ HCd.out.2.2.1 (show Below W.heap.size Wd (Wd.setCell ⟨q+1,1,none⟩ (.int .u64 (LG:Int))) from ⟨hus.os,hus.tape,hus.output,hus.size,fun k hk=>Below.heap_setCell _ _ _ _ (by have:=HQF.out.2.2.2;show k≠q+1;omega)⟩))
         (And.intro (show (Wd.setCell ⟨q+1,1,none⟩ (.int .u64 (LG:Int))).heap[q+1]? = some (.cells #[.int .i64 (R:Int),.int .u64 (LG:Int),.int .i64 (E:Int)] 104 (0,0)) from heap_set HCd.out.2.2.2.1 1 _)
         (show B0≤(Wd.setCell ⟨q+1,1,none⟩ (.int .u64 (LG:Int))).heap.size from Nat.le_trans HCd.out.2.2.2.2 hus.size)))))
        clear hus
        clear z1 zf
        go_wp2_with fail
        go_meet
        case rel=>rw [HLG.out];exact HC7.out
       ·have g1:gb=false:=by rw [←HGB.out,decide_eq_false_iff_not];omega
        subst g1
        have hz:=longX_last (T:=T) (j:=j) (by rw [HP.out.2.2];exact hend)
        have HZ:=Lib.hid hz
        clear hz hend
        go_wp2_with fail
        go_meet
        case rel=>rw [HZ.out];exact HC6.out
      case rest=>
       obtain ⟨hc7,hst7,hJ7,hq7,hz7⟩:=hcut
       have hYY:=HY.out _ (stepK Y T j) wc hJ7 (legal_take HYE.out.1 (by rw [HYE.out.2.1];exact HTS.out.1) HTS.out.2 (by rw [HP.out.2.2];exact HX.out.2.2.1)) (by rw [HB0.out];exact hz7)
       rw [←steps_take Y T (by rw [HP.out.2.2];exact HX.out.2.2.1)] at hYY
       obtain ⟨LG,hLG⟩:∃LG,longX T j=LG:=⟨_,rfl⟩
       have hsk:encS (stepK Y T j)=#[.agg #[.int .i64 (R:Int),.int .u64 (LG:Int),.int .i64 (E:Int)]]:=by unfold encS stepK;rw [HRE.out.1,HRE.out.2,hLG]
       rw [hLG] at hq7
       rw [hsk] at hYY
       have z0:wc.cell? ⟨q+1,0,none⟩=some (.int .i64 (R:Int)):=by simp [World.cell?,hq7]
       have z1:wc.cell? ⟨q+1,1,none⟩=some (.int .u64 (LG:Int)):=by simp [World.cell?,hq7]
       have z2:wc.cell? ⟨q+1,2,none⟩=some (.int .i64 (E:Int)):=by simp [World.cell?,hq7]
       have HC7:=Lib.hid (And.intro hc7 (And.intro hst7 hz7))
       have HYY:=Lib.hid hYY
       clear hc7 hst7 hJ7 hq7 hz7 hYY hsk hLG
       go_upto_region 21 with fail
       refine (wpIn_wide (n:=n+1)).1 ?_
       obtain ⟨fn,tm,asg,bod,hy,hR⟩:=HYY.out
       gi_wp2
       refine hR.mono ?_
       rintro e w8 ⟨rfl,hJ8,G,hu8,hG8⟩
       clear hy hR z0 z1 z2
       have hgn:∀g∈G,g<B0∧(g<B∨g=rid):=fun g hg=>by
        have h1:=HRID.out
        rw [HB0.out] at h1
        have h2:=HPW.out
        rcases hG8 g hg with h | h
        ·exact ⟨by omega,.inl h⟩
        ·exact ⟨by omega,.inr h⟩
       have hst8:=HC7.out.2.1.upd hu8 (fun k hk hc=>by have:=(HDIS.out.2.1 k hk).2;have:=(hgn k hc).1;omega) (fun k hk hc=>by have:=(HDIS.out.2.2 k hk).2;have:=(hgn k hc).1;omega)
        (fun k hk hc=>by have h1:=HFW.out k hk;have h2:=HRID.out;rcases (hgn k hc).2 with h | h<;>omega) (fun hc=>by have h1:=HPW.out;have h2:=HRID.out;rcases (hgn p hc).2 with h | h<;>omega)
       have hc8:∃N',N'≤j+1∧IsCov w8 b F Y (sw Y (T.take (j+1))) N':=HC7.out.1.elim fun N' h=>⟨N',h.1,h.2.upd hu8 (fun y hy hc=>by have:=HDIS.out.1 y hy;have:=(hgn y hc).1;omega)⟩
       have H8:=Lib.hid (And.intro hJ8 (And.intro hst8 (And.intro hc8 (Nat.le_trans HC7.out.2.2 hu8.size))))
       clear hJ8 hu8 hG8 hgn hst8 hc8
       gi_wp2
       go_wp2_with fail
       obtain ⟨hJ9,hst9,⟨N9,hN9,hc9⟩,hz9⟩:=H8.out
       go_roundg (N0 - (j+1))
       case measure=>have:=HX.out.1;have:=HX.out.2.2.1;omega
       case rel=>exact ⟨j+1,N9,by have:=HX.out.1;have:=HX.out.2.2.1;omega,hN9,by go_num,hJ9,hc9,hst9,hz9⟩
    ·have htk:(stepsL Y T).take j=stepsL Y T:=List.take_of_length_le (by rw [steps_len,HP.out.2.2];omega)
     rw [htk] at hJk
     have HEN:=Lib.hid (show ∃xs,Full l xs∧J xs wr from ⟨_,⟨T,by rw [HYE.out.2.1];exact HTS.out.1,HTS.out.2,by rw [HYE.out.1]⟩,hJk⟩)
     have b1:¬(j:Int)<(N0:Int):=by omega
     clear htk hJk hcv hst hsz hk hNk hlt
     go_wp2_with fail
     go_end0
     exact ⟨⟨_,rfl⟩,HEN.out⟩
attribute [local go_sem] Oper.semAt_some
def RimPost (l:List Bx) (w:World) (e:Ending) (w':World):Prop:=
 e=.returned (.tuple #[wideV (rimA l).toNat,.int .i64 (rimE l:Int)])∧Upd [] w w'
theorem horR_W {l:List Bx} (hb:∀b∈l,b.in64) (hl:l.length<100000):W128 (horR l).toNat:=by
 have h1:=horR_le hb hl
 unfold W128
 omega
theorem horR_nonneg (l:List Bx):0≤horR l:=horG_nonneg l _ _ _ _
theorem rimA_split (l:List Bx):(rimA l).toNat=(horR l).toNat+(horR (l.map tuB)).toNat:=by
 have h1:=horR_nonneg l
 have h2:=horR_nonneg (l.map tuB)
 unfold rimA
 omega
theorem keep4f {F:List Nat} {w w':World} {a1 a2 a3 a4:Addr} {v1 v2 v3 v4:Value} (h:w.cell? a1=some v1∧w.cell? a2=some v2∧w.cell? a3=some v3∧w.cell? a4=some v4) (hu:Upd F w w') (h1:a1.block∉F) (h2:a2.block∉F) (h3:a3.block∉F) (h4:a4.block∉F) :
 w'.cell? a1=some v1∧w'.cell? a2=some v2∧w'.cell? a3=some v3∧w'.cell? a4=some v4:=by
 have e:∀{a:Addr} {v:Value},a.block∉F→w.cell? a=some v→w'.cell? a=some v:=fun {a v} hb ha=>(hu.cell (World.block_lt_of_cell? w _ ha) hb).trans ha
 exact ⟨e h1 h.1,e h2 h.2.1,e h3 h.2.2.1,e h4 h.2.2.2⟩
structure RimI (wi:World) (p4 p5:Nat) (a e:Nat) (W:World):Prop where
 sum:SumAt W p4 a
 ent:W.heap[p5]? = some (.cells #[.int .i64 (e:Int)] 3 (0,0))
 up:Upd [p4,p5] wi W
theorem RimI.below {wi:World} {p4 p5 a e:Nat} {C D:World} (h:RimI wi p4 p5 a e C) (h4:p4<wi.heap.size) (h5:p5<wi.heap.size) (hb:Below wi.heap.size C D):RimI wi p4 p5 a e D:=
 ⟨(hb.block p4 h4).trans h.sum,(hb.block p5 h5).trans h.ent,⟨hb.os.trans h.up.os,hb.tape.trans h.up.tape,hb.output.trans h.up.output,Nat.le_trans h.up.size hb.size,fun k hk hf=>(hb.block k hk).trans (h.up.block k hk hf)⟩⟩
theorem RimI.upd {wi:World} {p4 p5 a e:Nat} {C D:World} (h:RimI wi p4 p5 a e C) (hu:Upd [] C D):RimI wi p4 p5 a e D:=
 ⟨h.sum.upd0 hu,(hu.block p5 (lt_of_block h.ent) (by simp)).trans h.ent,h.up.trans (hu.mono (by simp))⟩
theorem rimAll (v:Value) (l:List Bx) (w:World) (hs:See KBx w v l) (hl:l.length<100000) (hb:∀b∈l,b.in64) :
 Calls Tryz.prog 22 #[v] w (RimPost l w):=by
 obtain ⟨A,C,rfl⟩:=hs.form
 unfold RimPost
 refine (callsIn_wide (n:=9)).1 ?_
 refine callsIn_of_wp_marks Tryz.func22 rfl trivial ?_ rfl
 simp only [Tryz.ntmps22,List.size_toArray,List.length_cons,List.length_nil,Nat.reduceAdd,Nat.reduceSub,Array.replicate_succ,Array.replicate_zero,List.push_toArray,List.append_toArray,List.nil_append,List.cons_append]
 refine wpIn_wide.2 ?_
 have hr:=fun w1 (hu:Upd [] w w1)=>rightF (.slice A l.length C) l w1 (hs.upd0 hu) (by omega)
 have hup:=fun w1 (hu:Upd [] w w1)=>upF (.slice A l.length C) l w1 (hs.upd0 hu) (by omega)
 have HR:=Lib.hid hr
 have HUP:=Lib.hid hup
 have HL:=Lib.hid hl
 have HB:=Lib.hid hb
 have w3e:∃w3:World,w3=((w.alloc (.cells #[.int .u64 0,.int .u64 0] 37)).alloc (.cells #[.int .u64 0,.int .u64 0] 37)).alloc (.cells #[.int .i64 0] 3):=⟨_,rfl⟩
 obtain ⟨w3,hw3⟩:=w3e
 obtain ⟨p2,hp2⟩:∃p2,w.heap.size=p2:=⟨_,rfl⟩
 have hu3:Upd [] w w3:=by rw [hw3];exact (((Upd.refl _ _).alloc _).alloc _).alloc _
 have hz3:w3.heap.size=p2+3:=by rw [hw3,←hp2];simp
 have h2:w3.heap[p2]? = some (.cells #[.int .u64 0,.int .u64 0] 37 (0,0)):=by
  rw [hw3,←hp2]
  exact (Below.heap_alloc _ _ _ (by simp;omega)).trans ((Below.heap_alloc _ _ _ (by simp)).trans (heap_alloc_new _ _))
 have h4:w3.heap[p2+1]? = some (.cells #[.int .u64 0,.int .u64 0] 37 (0,0)):=by
  have:=heap_alloc_new (w.alloc (.cells #[.int .u64 0,.int .u64 0] 37)) (.cells #[.int .u64 0,.int .u64 0] 37)
  rw [World.size_alloc,hp2] at this
  rw [hw3]
  exact (Below.heap_alloc _ _ _ (by simp;omega)).trans this
 have h5:w3.heap[p2+1+1]? = some (.cells #[.int .i64 0] 3 (0,0)):=by
  have:=heap_alloc_new ((w.alloc (.cells #[.int .u64 0,.int .u64 0] 37)).alloc (.cells #[.int .u64 0,.int .u64 0] 37)) (.cells #[.int .i64 0] 3)
  rw [World.size_alloc,World.size_alloc,hp2] at this
  rw [hw3]
  exact this
 have H3:=Lib.hid (And.intro hu3 (And.intro hz3 (And.intro h2 (And.intro h4 h5))))
 have HP2:=Lib.hid hp2
 clear hs hl hb hr hup hu3 hz3 h2 h4 h5
 go_upto_region 3 with fail
 rw [←hw3]
 clear hw3
 go_wp2_with fail
 (with_reducible refine (HR.out w3 H3.out.1).mono ?_)
 rintro e w4 ⟨A1,C1,rfl,r1,u1⟩
 have H4:=Lib.hid (And.intro r1 (And.intro u1 (H3.out.1.trans u1)))
 clear r1 u1
 go_wp2_with fail
 (with_reducible refine (HUP.out w4 H4.out.2.2).mono ?_)
 rintro e w5 ⟨A2,C2,rfl,r2,u2⟩
 have hfl:=flats_len l
 obtain ⟨n,hn⟩:∃n,(flats l).length=n:=⟨_,rfl⟩
 have hml:((flats l).map tuB).length=n:=by rw [List.length_map];exact hn
 have H5:=Lib.hid (And.intro r2 (And.intro u2 (H4.out.2.2.trans u2)))
 rw [hn] at H4 H5 hfl ⊢
 have HN:=Lib.hid (And.intro hn (And.intro hml hfl))
 have hnl:(n:Int)<100000:=by have:=HL.out;omega
 clear r2 u2 hn hml hfl
 have hA:∃w6:World,w6=w5.alloc (.cells #[.slice A1 n C1,.slice A2 n C2] 97):=⟨_,rfl⟩
 obtain ⟨w6,hw6⟩:=hA
 obtain ⟨q,hq⟩:∃q,w5.heap.size=q:=⟨_,rfl⟩
 have h6:w6.heap[q]? = some (.cells #[.slice A1 n C1,.slice A2 n C2] 97 (0,0)):=by rw [hw6,←hq];exact heap_alloc_new _ _
 have hu6:Upd [] w5 w6:=by rw [hw6];exact (Upd.refl _ _).alloc _
 have H6:=Lib.hid (And.intro h6 (And.intro hu6 (H5.out.2.2.trans hu6)))
 have HQ:=Lib.hid hq
 have HW6:=Lib.hid hw6
 clear h6 hu6 hw6
 go_wp2_with fail
 rw [←HW6.out]
 refine (wpIn_wide (n:=9)).1 ?_
 refine wpIn_loop_rounds 3 ?_
 rw [roundsIn_succ]
 refine wpIn_wide.2 ?_
 have c0:w6.cell? ⟨q,0,none⟩=some (.slice A1 n C1):=by have:=H6.out.1;simp [World.cell?,this]
 go_wp2_with fail
 (with_reducible refine (stepsMk A1 n C1 w6).mono ?_)
 rintro e w7 ⟨rfl,hw7⟩
 clear c0
 obtain ⟨p6,hp6⟩:∃p6,w6.heap.size=p6:=⟨_,rfl⟩
 rw [hp6]
 have hc7:w7.cell? ⟨p6,0,none⟩=some (.slice A1 n C1):=by rw [hw7,World.cell?_alloc_at _ _ _ _ hp6.symm];rfl
 have hu7:Upd [] w6 w7:=by rw [hw7];exact (Upd.refl _ _).alloc _
 have hz7:p2+3≤p6∧p6<w7.heap.size∧q<w7.heap.size:=by
  have h1:=H4.out.2.1.size
  have h2:=H5.out.2.1.size
  have h3:=H6.out.2.1.size
  have h4:=H3.out.2.1
  have h5:=lt_of_block H6.out.1
  have h6:=hu7.size
  have h7:=World.block_lt_of_cell? w7 _ hc7
  exact ⟨by omega,h7,by omega⟩
 have hr7:KFl.row w7 (p2+3) (.slice A1 (flats l).length C1) (flats l):=by
  rw [HN.out.1]
  exact own_base (own_upd H4.out.1 (H5.out.2.1.trans (H6.out.2.1.trans hu7)) (by simp)) (by rw [H3.out.2.1];exact Nat.le_refl _)
 have hq7:SeqOwn Tryz.prog 106 #[.pointer (some ⟨p6,0,none⟩)] encS (Full (flats l)) (Legal (flats l)) (p2+3) w7:=
  stepsC A1 C1 (flats l) w7 p6 (p2+3) (by rw [HN.out.1];exact hc7) hz7.1 hr7 (by rw [HN.out.1];have:=HN.out.2.2;have:=HL.out;omega) (flats_in HB.out) (flats_count l)
 have hI7:RimI w7 (p2+1) (p2+1+1) 0 0 w7:=by
  have hu37:Upd [] w3 w7:=H4.out.2.1.trans (H5.out.2.1.trans (H6.out.2.1.trans hu7))
  exact ⟨(show SumAt w3 (p2+1) 0 from H3.out.2.2.2.1).upd0 hu37,(hu37.block _ (lt_of_block H3.out.2.2.2.2) (by simp)).trans H3.out.2.2.2.2,Upd.refl _ _⟩
 have H7:=Lib.hid (And.intro hu7 (And.intro hz7 (And.intro hq7 hI7)))
 clear hw7 hp6 hc7 hu7 hz7 hr7 hq7 hI7
 go_wp2_with fail
 refine (wpIn_wide (n:=7+2)).1 ?_
 refine wpIn_rangeFuncU (n:=7) (gf:=106) (lb:=#[.pointer (some ⟨p6,0,none⟩)]) rfl (enters_of Tryz.func106 (by kernel_rfl) rfl) (B:=p2+3) (by have:=H7.out.2.1;omega) H7.out.2.2.1 (fun _=>rfl)
  (fun pre W=>RimI w7 (p2+1) (p2+1+1) (0+totA pre) (0+totE pre) W) (fun s C D h hb=>h.below (by have:=H7.out.2.1;omega) (by have:=H7.out.2.1;omega) hb) H7.out.2.2.2 ?round ?done
 case round=>
  rintro rid pre ⟨R,LG,E⟩ W hI hleg hsz
  have HI:=Lib.hid (And.intro hI (And.intro hleg hsz))
  clear hI hleg hsz hnl
  simp only [encS]
  gi_wp2
  refine ⟨Beyond.of ((Upd.refl _ _).alloc _),?_⟩
  rintro W2 ⟨o,hW2⟩
  have hsz:=HI.out.2.2
  have hst:W2.heap[W.heap.size]? = some (.cells #[.int .i64 (R:Int),.int .u64 (LG:Int),.int .i64 (E:Int)] 104 (0,0)):=by
   rw [hW2]
   exact (World.putObj_heap_other (by omega)).trans (heap_alloc_new _ _)
  have hi2:RimI w7 (p2+1) (p2+1+1) (0+totA pre) (0+totE pre) W2:=by
   rw [hW2]
   exact (HI.out.1.upd ((Upd.refl _ _).alloc _)).below (by have:=H7.out.2.1;omega) (by have:=H7.out.2.1;omega) (below_put _ _ (by omega))
  have hsb:p2+3≤W.heap.size:=by have:=H7.out.2.1;omega
  obtain ⟨s,hs⟩:∃s,W.heap.size=s:=⟨_,rfl⟩
  rw [hs] at hst hsb
  rw [hs]
  clear hW2
  have hmem:=(HI.out.2.1.mem (flats_in HB.out) (by have:=flats_len l;have:=HL.out;omega)) (R,LG,E) (by simp)
  have htot:=HI.out.2.1.tot (flats_in HB.out) (by have:=flats_len l;have:=HL.out;omega)
  rw [totA_snoc,totE_snoc] at htot
  dsimp only at hmem htot
  have htl:=show sweepE (sqz (linY (flats l))) (turnsL (flats l))≤100000000 from by have h1:=sweepE_le (sqz (linY (flats l))) (marks_ok (flats_in HB.out) (by have:=flats_len l;have:=HL.out;omega)).len (turnsL (flats l));have h2:=turns_len (flats l);have h3:=flats_len l;have h4:=HL.out;omega
  obtain ⟨a,ha⟩:∃a,0+totA pre=a:=⟨_,rfl⟩
  obtain ⟨en,he⟩:∃en,0+totE pre=en:=⟨_,rfl⟩
  rw [ha,he] at hi2
  have hml:=fun w=>wMulC LG (2*R) hmem.2.1 (by omega) w
  obtain ⟨M,hM⟩:∃M,LG*(2*R)=M:=⟨_,rfl⟩
  rw [hM] at hml htot
  have hwm:W128 (a+M):=(show W128 ((horR (flats l)).toNat) from ((horR_W (flats_in HB.out) (by have:=flats_len l;have:=HL.out;omega)))).mono (by rw [←ha,Nat.zero_add];exact htot.1)
  have had:=fun w=>wAddC a M hwm w
  obtain ⟨h,hh⟩:∃h,a / 18446744073709551616=h:=⟨_,rfl⟩
  obtain ⟨lo,hlo⟩:∃lo,a % 18446744073709551616=lo:=⟨_,rfl⟩
  obtain ⟨h2,hh2⟩:∃h,(a+M) / 18446744073709551616=h:=⟨_,rfl⟩
  obtain ⟨lo2,hlo2⟩:∃lo,(a+M) % 18446744073709551616=lo:=⟨_,rfl⟩
  obtain ⟨mh,hmh⟩:∃h,M / 18446744073709551616=h:=⟨_,rfl⟩
  obtain ⟨ml,hml2⟩:∃lo,M % 18446744073709551616=lo:=⟨_,rfl⟩
  unfold wideV at had hml
  simp only [hh,hlo,hh2,hlo2,hmh,hml2] at had hml
  have hnew:0+totA (pre++[(R,LG,E)])=a+M∧0+totE (pre++[(R,LG,E)])=en+E:=by rw [totA_snoc,totE_snoc];dsimp only;omega
  have hEb:(en:Int)+(E:Int)<100000000000:=by omega
  have hRb:(R:Int)≤200000:=by omega
  obtain ⟨R2,hR2⟩:∃R2,2*R=R2:=⟨_,rfl⟩
  rw [hR2] at hml
  have HS:=Lib.hid (And.intro hi2 (And.intro hst (And.intro hsb hnew)))
  have HMUL:=Lib.hid hml
  have HADD:=Lib.hid had
  have HV:=Lib.hid (And.intro hh (And.intro hlo (And.intro hh2 hlo2)))
  have HBD:=Lib.hid (And.intro hEb (And.intro hRb hR2))
  have HAE:=Lib.hid (And.intro ha he)
  clear hwm hsz hst hi2 hsb hs hmem htot htl hml had hh hlo hh2 hlo2 hmh hml2 hnew hEb hRb ha he hM hR2
  refine wpIn_block ?_
  refine wpIn_seq ?_
  obtain ⟨Wd,hWd⟩:∃Wd,Wd=W2.drew:=⟨_,rfl⟩
  have hud:Upd [] W2 Wd:=by rw [hWd];exact (Upd.refl _ _).drew
  have HId:=Lib.hid (And.intro (HS.out.1.upd hud) ((hud.block s (lt_of_block HS.out.2.1) (by simp)).trans HS.out.2.1))
  have HUd:=Lib.hid hud
  have HSd:Wd.cell? ⟨p2+1,0,none⟩=some (.int .u64 (h:Int))∧Wd.cell? ⟨p2+1,1,none⟩=some (.int .u64 (lo:Int))∧Wd.cell? ⟨s,0,none⟩=some (.int .i64 (R:Int))∧Wd.cell? ⟨s,1,none⟩=some (.int .u64 (LG:Int)):=by
   obtain ⟨z0,z1,-⟩:=HId.out.1.sum.cells
   rw [HV.out.1] at z0
   rw [HV.out.2.1] at z1
   exact ⟨z0,z1,by simp [World.cell?,HId.out.2],by simp [World.cell?,HId.out.2]⟩
  have HSd:=Lib.hid HSd
  clear hud
  have hcv:IntKind.u64.wrap (R:Int)=(R:Int):=by have:=HBD.out.2.1;rw [u64_wrap];omega
  have hm2:IntKind.u64.wrap (2*(R:Int))=(R2:Int):=by have:=HBD.out.2.1;have:=HBD.out.2.2;rw [u64_wrap];omega
  refine GoT.startIn [8,9,10,11,12] (fun w'=>w'.cell? ⟨p2+1,0,none⟩=some (.int .u64 (h:Int))∧w'.cell? ⟨p2+1,1,none⟩=some (.int .u64 (lo:Int))∧w'.cell? ⟨s,0,none⟩=some (.int .i64 (R:Int))∧w'.cell? ⟨s,1,none⟩=some (.int .u64 (LG:Int))) (by kernel_rfl) (by kernel_rfl) ?hq ?_ fun hS=>?_
  case hq=>rintro ⟨_,_,h⟩;exact h
  ·exact by rw [←hWd];exact HSd.out
  rw [←hWd] at hS ⊢
  clear hWd
  refine' GoT.tk 6 (i:=0) (oi:=⟨some 23,_,_,_,_,_⟩) rfl (by rfl) ?y8_0 ?_
  case y8_0=>intro w hSw;go_simp<;>with_reducible rfl
  simp only [Act.put,sA,sZ,sS]
  refine' GoT.mv (i:=1) (oi:=⟨some 24,_,_,_,_,_⟩) rfl (by rfl) ?y8_1 ?_
  case y8_1=>intro w;go_simp<;>with_reducible rfl
  simp only [Act.put,sA,sZ,sS]
  refine' GoT.tk 6 (i:=2) (oi:=⟨some 25,_,_,_,_,_⟩) rfl (by rfl) ?y8_2 ?_
  case y8_2=>intro w hSw;go_simp<;>with_reducible rfl
  simp only [Act.put,sA,sZ,sS]
  refine' GoT.mv (i:=3) (oi:=⟨some 26,_,_,_,_,_⟩) rfl (by rfl) ?y8_3 ?_
  case y8_3=>intro w;go_simp<;>with_reducible rfl
  simp only [Act.put,sA,sZ,sS]
  refine' GoT.tk 6 (i:=4) (oi:=⟨some 27,_,_,_,_,_⟩) rfl (by rfl) ?y8_4 ?_
  case y8_4=>intro w hSw;go_simp<;>with_reducible rfl
  simp only [Act.put,sA,sZ,sS]
  refine' GoT.mv (i:=5) (oi:=⟨some 28,_,_,_,_,_⟩) rfl (by rfl) ?y8_5 ?_
  case y8_5=>intro w;go_simp<;>with_reducible rfl
  simp only [Act.put,sA,sZ,sS]
  refine' GoT.mv (i:=6) (oi:=⟨some 29,_,_,_,_,_⟩) rfl (by rfl) ?y8_6 ?_
  case y8_6=>intro w;go_simp<;>with_reducible rfl
  simp only [Act.put,sA,sZ,sS]
  refine GoT.one (i:=7) (o:=⟨some 30,_,_,_,_,_⟩) rfl (by kernel_rfl) fun K hK=>?_
  go_simp
  go_at_call 45
  (with_reducible refine (HMUL.out _).mono ?_)
  rintro e w5 ⟨rfl,hu5⟩
  refine hK.out _ _ (fun _ h=>?_) ?_
  ·exact keep4 h hu5
  clear hK K
  try simp only [Act.put,sA,sZ,sS]
  have HU5:=Lib.hid hu5
  clear hu5
  refine GoT.one (i:=8) (o:=⟨some 31,_,_,_,_,_⟩) rfl (by kernel_rfl) fun K hK=>?_
  go_simp
  go_at_call 44
  (with_reducible refine (HADD.out _).mono ?_)
  rintro e w6 ⟨rfl,hu6⟩
  refine hK.out _ _ (fun h=>(by cases h)) ?_
  clear hK K
  try simp only [Act.put,sA,sZ,sS]
  have HU6:=Lib.hid (HU5.out.trans hu6)
  have hsm:=HId.out.1.sum.upd0 HU6.out
  obtain ⟨z0,z1,zf⟩:=hsm.cells
  have zf0:=zf 0
  have zf1:=zf 1
  have HS6:=Lib.hid hsm
  clear hu6 zf hsm
  refine' GoT.mv (i:=9) (oi:=⟨some 22,_,_,_,_,_⟩) rfl (by rfl) ?y8_9 ?_
  case y8_9=>intro w;go_simp<;>with_reducible rfl
  simp only [Act.put,sA,sZ,sS]
  refine' GoT.mv (i:=10) (oi:=⟨some 32,_,_,_,_,_⟩) rfl (by rfl) ?y8_10 ?_
  case y8_10=>intro w;go_simp<;>with_reducible rfl
  simp only [Act.put,sA,sZ,sS]
  refine' GoT.mv (i:=11) (oi:=⟨some 33,_,_,_,_,_⟩) rfl (by rfl) ?y8_11 ?_
  case y8_11=>intro w;go_simp<;>with_reducible rfl
  simp only [Act.put,sA,sZ,sS]
  refine GoT.one (i:=12) (o:=⟨none,_,_,_,_,_⟩) rfl (by kernel_rfl) fun K hK=>?_
  go_simp
  refine hK.out _ _ (fun h=>(by cases h)) ?_
  clear hK K
  try simp only [Act.put,sA,sZ,sS]
  refine GoT.done (by kernel_rfl) ?_
  clear hcv hm2
  have HSN2:=Lib.hid (HS6.out.set HV.out.2.2.1.symm HV.out.2.2.2.symm)
  have hpu:Upd [p2+1] w6 ((w6.setCell ⟨p2+1,0,none⟩ (.int .u64 h2)).setCell ⟨p2+1,1,none⟩ (.int .u64 lo2)):=((Upd.refl _ _).setCell (.inl (by simp)) _).setCell (.inl (by simp)) _
  have hi6:=HId.out.1.upd HU6.out
  have hst6:=(HU6.out.block s (lt_of_block HId.out.2) (by simp)).trans HId.out.2
  have hst7:=(hpu.block s (lt_of_block hst6) (by have:=HS.out.2.2.1;simp;omega)).trans hst6
  have hen7:=(hpu.block (p2+1+1) (lt_of_block hi6.ent) (by simp)).trans hi6.ent
  have HU7:=Lib.hid (And.intro (hi6.up.trans (hpu.mono (by simp))) (And.intro hst7 (And.intro hen7 ((HUd.out.trans HU6.out).mono (G:=[p2+1]) (by simp) |>.trans hpu))))
  clear z0 z1 zf0 zf1 hpu hi6 hst6 hst7 hen7
  generalize ((w6.setCell ⟨p2+1,0,none⟩ (.int .u64 h2)).setCell ⟨p2+1,1,none⟩ (.int .u64 lo2))=W9 at HSN2 HU7 ⊢
  have x5:W9.cell? ⟨p2+1+1,0,none⟩=some (.int .i64 (en:Int)):=by simp [World.cell?,HU7.out.2.2.1]
  have f5:W9.frozen? ⟨p2+1+1,0,none⟩=false:=by simp [World.frozen?,HU7.out.2.2.1]
  have xs:W9.cell? ⟨s,2,none⟩=some (.int .i64 (E:Int)):=by simp [World.cell?,HU7.out.2.1]
  have hwE:IntKind.i64.wrap ((en:Int)+(E:Int))=((en+E:Nat):Int):=by have:=HBD.out.1;rw [IntWalk.i64_in _ ⟨by omega,by omega⟩];omega
  gi_wp2
  have hus:Upd [p2+1+1] W9 (W9.setCell ⟨p2+1+1,0,none⟩ (.int .i64 ((en+E:Nat):Int))):=(Upd.refl _ _).setCell (.inl (by simp)) _
  show Beyond (p2+3) W2 _∧RimI w7 (p2+1) (p2+1+1) (0+totA (pre++[(R,LG,E)])) (0+totE (pre++[(R,LG,E)])) _
  rw [HS.out.2.2.2.1,HS.out.2.2.2.2]
  exact ⟨(Beyond.refl _ _).upd HU7.out.2.2.2 (by simp) |>.upd hus (by simp),⟨HSN2.out.upd hus (by simp),by have:=heap_set HU7.out.2.2.1 0 (.int .i64 ((en+E:Nat):Int));exact this,HU7.out.1.trans (hus.mono (by simp))⟩⟩
 case done=>
  rintro D1 xs1 W hD1 hS1 hI1 hK1
  rw [totA_full (flats_in HB.out) (by have:=flats_len l;have:=HL.out;omega) hS1,totE_full hS1,flats_E l,horR_congr (flats_cov l),Nat.zero_add,Nat.zero_add] at hI1
  obtain ⟨a1,ha1⟩:∃a,(horR l).toNat=a:=⟨_,rfl⟩
  obtain ⟨e1,he1⟩:∃e,sweepE (sqz (linY l)) (turnsL l)=e:=⟨_,rfl⟩
  rw [ha1,he1] at hI1
  have c1:W.cell? ⟨q,1,none⟩=some (.slice A2 n C2):=by
   have h1:=(H7.out.1.block q (lt_of_block H6.out.1) (by simp)).trans H6.out.1
   have h2:=(hI1.up.block q H7.out.2.1.2.2 (by have h1:=H3.out.2.1;have h2:=H4.out.2.1.size;have h3:=H5.out.2.1.size;have h4:=HQ.out;simp;omega)).trans h1
   simp [World.cell?,h2]
  have HA1:=Lib.hid (And.intro ha1 he1)
  have HI1:=Lib.hid (And.intro hI1 (And.intro hK1 hD1))
  clear hD1 hS1 hI1 hK1 ha1 he1
  go_wp2_with fail
  rw [roundsIn_succ]
  refine wpIn_wide.2 ?_
  go_wp2_with fail
  (with_reducible refine (stepsMk A2 n C2 W).mono ?_)
  rintro e w9 ⟨rfl,hw9⟩
  clear c1
  obtain ⟨p9,hp9⟩:∃p9,W.heap.size=p9:=⟨_,rfl⟩
  rw [hp9]
  have hc9:w9.cell? ⟨p9,0,none⟩=some (.slice A2 n C2):=by rw [hw9,World.cell?_alloc_at _ _ _ _ hp9.symm];rfl
  have hu9:Upd [] W w9:=by rw [hw9];exact (Upd.refl _ _).alloc _
  have hz9:p2+3≤p9∧p9<w9.heap.size∧w7.heap.size≤p9:=by
   have h1:=HI1.out.1.up.size
   have h2:=H7.out.2.1
   exact ⟨by omega,World.block_lt_of_cell? w9 _ hc9,by omega⟩
  have hr9:KFl.row w9 (p2+3) (.slice A2 (flats (l.map tuB)).length C2) (flats (l.map tuB)):=by
   rw [←flats_tu,HN.out.2.1]
   have h1:=own_upd H5.out.1 (H6.out.2.1.trans H7.out.1) (by simp)
   have hge:=own_ge H5.out.1
   have h2:=own_upd h1 HI1.out.1.up (fun k hk hc=>by have:=hge k hk;have h3:=H3.out.2.1;have h4:=H4.out.2.1.size;simp at hc;omega)
   exact own_base (own_upd h2 hu9 (by simp)) (by have h3:=H3.out.2.1;have h4:=H4.out.2.1.size;omega)
  have hn2:(flats (l.map tuB)).length=n:=by rw [←flats_tu];exact HN.out.2.1
  have hq9:SeqOwn Tryz.prog 106 #[.pointer (some ⟨p9,0,none⟩)] encS (Full (flats (l.map tuB))) (Legal (flats (l.map tuB))) (p2+3) w9:=
   stepsC A2 C2 (flats (l.map tuB)) w9 p9 (p2+3) (by rw [hn2];exact hc9) hz9.1 hr9 (by rw [hn2];have:=HN.out.2.2;have:=HL.out;omega) (flats_in (tuB_in HB.out)) (flats_count _)
  have hI9:RimI w9 (p2+1) (p2+1+1) (a1+totA []) (e1+totE []) w9:=⟨HI1.out.1.sum.upd0 hu9,(hu9.block _ (lt_of_block HI1.out.1.ent) (by simp)).trans HI1.out.1.ent,Upd.refl _ _⟩
  have H9:=Lib.hid (And.intro hu9 (And.intro (show p2+3≤p9∧p9<w9.heap.size∧w7.heap.size≤p9 from hz9) (And.intro hq9 hI9)))
  clear hw9 hp9 hc9 hu9 hz9 hr9 hq9 hI9 hn2
  go_wp2_with fail
  refine (wpIn_wide (n:=7+2)).1 ?_
  refine wpIn_rangeFuncU (n:=7) (gf:=106) (lb:=#[.pointer (some ⟨p9,0,none⟩)]) rfl (enters_of Tryz.func106 (by kernel_rfl) rfl) (B:=p2+3) (by have:=H9.out.2.1;omega) H9.out.2.2.1 (fun _=>rfl)
   (fun pre W=>RimI w9 (p2+1) (p2+1+1) (a1+totA pre) (e1+totE pre) W) (fun s C D h hb=>h.below (by have:=H9.out.2.1;omega) (by have:=H9.out.2.1;omega) hb) H9.out.2.2.2 ?round ?done
  case round=>
   rintro rid pre ⟨R,LG,E⟩ W hI hleg hsz
   have HI:=Lib.hid (And.intro hI (And.intro hleg hsz))
   clear hI hleg hsz hnl
   simp only [encS]
   gi_wp2
   refine ⟨Beyond.of ((Upd.refl _ _).alloc _),?_⟩
   rintro W2 ⟨o,hW2⟩
   have hsz:=HI.out.2.2
   have hst:W2.heap[W.heap.size]? = some (.cells #[.int .i64 (R:Int),.int .u64 (LG:Int),.int .i64 (E:Int)] 104 (0,0)):=by
    rw [hW2]
    exact (World.putObj_heap_other (by omega)).trans (heap_alloc_new _ _)
   have hi2:RimI w9 (p2+1) (p2+1+1) (a1+totA pre) (e1+totE pre) W2:=by
    rw [hW2]
    exact (HI.out.1.upd ((Upd.refl _ _).alloc _)).below (by have:=H9.out.2.1;omega) (by have:=H9.out.2.1;omega) (below_put _ _ (by omega))
   have hsb:p2+3≤W.heap.size:=by have:=H9.out.2.1;omega
   obtain ⟨s,hs⟩:∃s,W.heap.size=s:=⟨_,rfl⟩
   rw [hs] at hst hsb
   rw [hs]
   clear hW2
   have hmem:=(HI.out.2.1.mem (flats_in (tuB_in HB.out)) (by have:=flats_len (l.map tuB);rw [List.length_map] at this;have:=HL.out;omega)) (R,LG,E) (by simp)
   have htot:=HI.out.2.1.tot (flats_in (tuB_in HB.out)) (by have:=flats_len (l.map tuB);rw [List.length_map] at this;have:=HL.out;omega)
   rw [totA_snoc,totE_snoc] at htot
   dsimp only at hmem htot
   have htl:=show sweepE (sqz (linY (flats (l.map tuB)))) (turnsL (flats (l.map tuB)))≤100000000 from by have h1:=sweepE_le (sqz (linY (flats (l.map tuB)))) (marks_ok (flats_in (tuB_in HB.out)) (by have:=flats_len (l.map tuB);rw [List.length_map] at this;have:=HL.out;omega)).len (turnsL (flats (l.map tuB)));have h2:=turns_len (flats (l.map tuB));have h3:=flats_len (l.map tuB);rw [List.length_map] at h3;have h4:=HL.out;omega
   obtain ⟨a,ha⟩:∃a,a1+totA pre=a:=⟨_,rfl⟩
   obtain ⟨en,he⟩:∃en,e1+totE pre=en:=⟨_,rfl⟩
   rw [ha,he] at hi2
   have hml:=fun w=>wMulC LG (2*R) hmem.2.1 (by omega) w
   obtain ⟨M,hM⟩:∃M,LG*(2*R)=M:=⟨_,rfl⟩
   rw [hM] at hml htot
   have hwm:W128 (a+M):=(show W128 (rimA l).toNat from rimA_W HB.out HL.out).mono (by rw [←ha,←HA1.out.1,rimA_split];have h1:=htot.1;rw [horR_congr (flats_cov (l.map tuB))] at h1;rw [Nat.add_assoc];exact Nat.add_le_add_left h1 _)
   have had:=fun w=>wAddC a M hwm w
   obtain ⟨h,hh⟩:∃h,a / 18446744073709551616=h:=⟨_,rfl⟩
   obtain ⟨lo,hlo⟩:∃lo,a % 18446744073709551616=lo:=⟨_,rfl⟩
   obtain ⟨h2,hh2⟩:∃h,(a+M) / 18446744073709551616=h:=⟨_,rfl⟩
   obtain ⟨lo2,hlo2⟩:∃lo,(a+M) % 18446744073709551616=lo:=⟨_,rfl⟩
   obtain ⟨mh,hmh⟩:∃h,M / 18446744073709551616=h:=⟨_,rfl⟩
   obtain ⟨ml,hml2⟩:∃lo,M % 18446744073709551616=lo:=⟨_,rfl⟩
   unfold wideV at had hml
   simp only [hh,hlo,hh2,hlo2,hmh,hml2] at had hml
   have hnew:a1+totA (pre++[(R,LG,E)])=a+M∧e1+totE (pre++[(R,LG,E)])=en+E:=by rw [totA_snoc,totE_snoc];dsimp only;omega
   have he1:e1≤100000000:=by rw [←HA1.out.2];have h1:=sweepE_le (sqz (linY l)) (marks_ok HB.out HL.out).len (turnsL l);have h2:=turns_len l;have h4:=HL.out;omega
   have hEb:(en:Int)+(E:Int)<100000000000:=by omega
   have hRb:(R:Int)≤200000:=by omega
   obtain ⟨R2,hR2⟩:∃R2,2*R=R2:=⟨_,rfl⟩
   rw [hR2] at hml
   have HS:=Lib.hid (And.intro hi2 (And.intro hst (And.intro hsb hnew)))
   have HMUL:=Lib.hid hml
   have HADD:=Lib.hid had
   have HV:=Lib.hid (And.intro hh (And.intro hlo (And.intro hh2 hlo2)))
   have HBD:=Lib.hid (And.intro hEb (And.intro hRb hR2))
   have HAE:=Lib.hid (And.intro ha he)
   clear he1 hwm hsz hst hi2 hsb hs hmem htot htl hml had hh hlo hh2 hlo2 hmh hml2 hnew hEb hRb ha he hM hR2
   refine wpIn_block ?_
   refine wpIn_seq ?_
   obtain ⟨Wd,hWd⟩:∃Wd,Wd=W2.drew:=⟨_,rfl⟩
   have hud:Upd [] W2 Wd:=by rw [hWd];exact (Upd.refl _ _).drew
   have HId:=Lib.hid (And.intro (HS.out.1.upd hud) ((hud.block s (lt_of_block HS.out.2.1) (by simp)).trans HS.out.2.1))
   have HUd:=Lib.hid hud
   have HSd:Wd.cell? ⟨p2+1,0,none⟩=some (.int .u64 (h:Int))∧Wd.cell? ⟨p2+1,1,none⟩=some (.int .u64 (lo:Int))∧Wd.cell? ⟨s,0,none⟩=some (.int .i64 (R:Int))∧Wd.cell? ⟨s,1,none⟩=some (.int .u64 (LG:Int)):=by
    obtain ⟨z0,z1,-⟩:=HId.out.1.sum.cells
    rw [HV.out.1] at z0
    rw [HV.out.2.1] at z1
    exact ⟨z0,z1,by simp [World.cell?,HId.out.2],by simp [World.cell?,HId.out.2]⟩
   have HSd:=Lib.hid HSd
   clear hud
   have hcv:IntKind.u64.wrap (R:Int)=(R:Int):=by have:=HBD.out.2.1;rw [u64_wrap];omega
   have hm2:IntKind.u64.wrap (2*(R:Int))=(R2:Int):=by have:=HBD.out.2.1;have:=HBD.out.2.2;rw [u64_wrap];omega
   refine GoT.startIn [8,9,10,11,12] (fun w'=>w'.cell? ⟨p2+1,0,none⟩=some (.int .u64 (h:Int))∧w'.cell? ⟨p2+1,1,none⟩=some (.int .u64 (lo:Int))∧w'.cell? ⟨s,0,none⟩=some (.int .i64 (R:Int))∧w'.cell? ⟨s,1,none⟩=some (.int .u64 (LG:Int))) (by kernel_rfl) (by kernel_rfl) ?hq ?_ fun hS=>?_
   case hq=>rintro ⟨_,_,h⟩;exact h
   ·exact by rw [←hWd];exact HSd.out
   rw [←hWd] at hS ⊢
   clear hWd
   refine' GoT.tk 6 (i:=0) (oi:=⟨some 23,_,_,_,_,_⟩) rfl (by rfl) ?y8_0b ?_
   case y8_0b=>intro w hSw;go_simp<;>with_reducible rfl
   simp only [Act.put,sA,sZ,sS]
   refine' GoT.mv (i:=1) (oi:=⟨some 24,_,_,_,_,_⟩) rfl (by rfl) ?y8_1b ?_
   case y8_1b=>intro w;go_simp<;>with_reducible rfl
   simp only [Act.put,sA,sZ,sS]
   refine' GoT.tk 6 (i:=2) (oi:=⟨some 25,_,_,_,_,_⟩) rfl (by rfl) ?y8_2b ?_
   case y8_2b=>intro w hSw;go_simp<;>with_reducible rfl
   simp only [Act.put,sA,sZ,sS]
   refine' GoT.mv (i:=3) (oi:=⟨some 26,_,_,_,_,_⟩) rfl (by rfl) ?y8_3b ?_
   case y8_3b=>intro w;go_simp<;>with_reducible rfl
   simp only [Act.put,sA,sZ,sS]
   refine' GoT.tk 6 (i:=4) (oi:=⟨some 27,_,_,_,_,_⟩) rfl (by rfl) ?y8_4b ?_
   case y8_4b=>intro w hSw;go_simp<;>with_reducible rfl
   simp only [Act.put,sA,sZ,sS]
   refine' GoT.mv (i:=5) (oi:=⟨some 28,_,_,_,_,_⟩) rfl (by rfl) ?y8_5b ?_
   case y8_5b=>intro w;go_simp<;>with_reducible rfl
   simp only [Act.put,sA,sZ,sS]
   refine' GoT.mv (i:=6) (oi:=⟨some 29,_,_,_,_,_⟩) rfl (by rfl) ?y8_6b ?_
   case y8_6b=>intro w;go_simp<;>with_reducible rfl
   simp only [Act.put,sA,sZ,sS]
   refine GoT.one (i:=7) (o:=⟨some 30,_,_,_,_,_⟩) rfl (by kernel_rfl) fun K hK=>?_
   go_simp
   go_at_call 45
   (with_reducible refine (HMUL.out _).mono ?_)
   rintro e w5 ⟨rfl,hu5⟩
   refine hK.out _ _ (fun _ h=>?_) ?_
   ·exact keep4 h hu5
   clear hK K
   try simp only [Act.put,sA,sZ,sS]
   have HU5:=Lib.hid hu5
   clear hu5
   refine GoT.one (i:=8) (o:=⟨some 31,_,_,_,_,_⟩) rfl (by kernel_rfl) fun K hK=>?_
   go_simp
   go_at_call 44
   (with_reducible refine (HADD.out _).mono ?_)
   rintro e w6 ⟨rfl,hu6⟩
   refine hK.out _ _ (fun h=>(by cases h)) ?_
   clear hK K
   try simp only [Act.put,sA,sZ,sS]
   have HU6:=Lib.hid (HU5.out.trans hu6)
   have hsm:=HId.out.1.sum.upd0 HU6.out
   obtain ⟨z0,z1,zf⟩:=hsm.cells
   have zf0:=zf 0
   have zf1:=zf 1
   have HS6:=Lib.hid hsm
   clear hu6 zf hsm
   refine' GoT.mv (i:=9) (oi:=⟨some 22,_,_,_,_,_⟩) rfl (by rfl) ?y8_9b ?_
   case y8_9b=>intro w;go_simp<;>with_reducible rfl
   simp only [Act.put,sA,sZ,sS]
   refine' GoT.mv (i:=10) (oi:=⟨some 32,_,_,_,_,_⟩) rfl (by rfl) ?y8_10b ?_
   case y8_10b=>intro w;go_simp<;>with_reducible rfl
   simp only [Act.put,sA,sZ,sS]
   refine' GoT.mv (i:=11) (oi:=⟨some 33,_,_,_,_,_⟩) rfl (by rfl) ?y8_11b ?_
   case y8_11b=>intro w;go_simp<;>with_reducible rfl
   simp only [Act.put,sA,sZ,sS]
   refine GoT.one (i:=12) (o:=⟨none,_,_,_,_,_⟩) rfl (by kernel_rfl) fun K hK=>?_
   go_simp
   refine hK.out _ _ (fun h=>(by cases h)) ?_
   clear hK K
   try simp only [Act.put,sA,sZ,sS]
   refine GoT.done (by kernel_rfl) ?_
   clear hcv hm2
   have HSN2:=Lib.hid (HS6.out.set HV.out.2.2.1.symm HV.out.2.2.2.symm)
   have hpu:Upd [p2+1] w6 ((w6.setCell ⟨p2+1,0,none⟩ (.int .u64 h2)).setCell ⟨p2+1,1,none⟩ (.int .u64 lo2)):=((Upd.refl _ _).setCell (.inl (by simp)) _).setCell (.inl (by simp)) _
   have hi6:=HId.out.1.upd HU6.out
   have hst6:=(HU6.out.block s (lt_of_block HId.out.2) (by simp)).trans HId.out.2
   have hst7:=(hpu.block s (lt_of_block hst6) (by have:=HS.out.2.2.1;simp;omega)).trans hst6
   have hen7:=(hpu.block (p2+1+1) (lt_of_block hi6.ent) (by simp)).trans hi6.ent
   have HU7:=Lib.hid (And.intro (hi6.up.trans (hpu.mono (by simp))) (And.intro hst7 (And.intro hen7 ((HUd.out.trans HU6.out).mono (G:=[p2+1]) (by simp) |>.trans hpu))))
   clear z0 z1 zf0 zf1 hpu hi6 hst6 hst7 hen7
   generalize ((w6.setCell ⟨p2+1,0,none⟩ (.int .u64 h2)).setCell ⟨p2+1,1,none⟩ (.int .u64 lo2))=W9 at HSN2 HU7 ⊢
   have x5:W9.cell? ⟨p2+1+1,0,none⟩=some (.int .i64 (en:Int)):=by simp [World.cell?,HU7.out.2.2.1]
   have f5:W9.frozen? ⟨p2+1+1,0,none⟩=false:=by simp [World.frozen?,HU7.out.2.2.1]
   have xs:W9.cell? ⟨s,2,none⟩=some (.int .i64 (E:Int)):=by simp [World.cell?,HU7.out.2.1]
   have hwE:IntKind.i64.wrap ((en:Int)+(E:Int))=((en+E:Nat):Int):=by have:=HBD.out.1;rw [IntWalk.i64_in _ ⟨by omega,by omega⟩];omega
   gi_wp2
   have hus:Upd [p2+1+1] W9 (W9.setCell ⟨p2+1+1,0,none⟩ (.int .i64 ((en+E:Nat):Int))):=(Upd.refl _ _).setCell (.inl (by simp)) _
   show Beyond (p2+3) W2 _∧RimI w9 (p2+1) (p2+1+1) (a1+totA (pre++[(R,LG,E)])) (e1+totE (pre++[(R,LG,E)])) _
   rw [HS.out.2.2.2.1,HS.out.2.2.2.2]
   exact ⟨(Beyond.refl _ _).upd HU7.out.2.2.2 (by simp) |>.upd hus (by simp),⟨HSN2.out.upd hus (by simp),by have:=heap_set HU7.out.2.2.1 0 (.int .i64 ((en+E:Nat):Int));exact this,HU7.out.1.trans (hus.mono (by simp))⟩⟩
  case done=>
   rintro D2 xs2 W2 hD2 hS2 hI2 hK2
   rw [totA_full (flats_in (tuB_in HB.out)) (by have:=flats_len (l.map tuB);rw [List.length_map] at this;have:=HL.out;omega) hS2,totE_full hS2,flats_E (l.map tuB),horR_congr (flats_cov (l.map tuB))] at hI2
   have hsum:a1+(horR (l.map tuB)).toNat=(rimA l).toNat:=by rw [←HA1.out.1,rimA_split]
   have hent:e1+sweepE (sqz (linY (l.map tuB))) (turnsL (l.map tuB))=rimE l:=by rw [←HA1.out.2];rfl
   rw [hsum,hent] at hI2
   obtain ⟨AA,hAA⟩:∃a,(rimA l).toNat=a:=⟨_,rfl⟩
   obtain ⟨EE,hEE⟩:∃e,rimE l=e:=⟨_,rfl⟩
   rw [hAA,hEE] at hI2
   have hb2:∀k,k<W.heap.size→k≠p2+1→k≠p2+1+1→W2.heap[k]? = W.heap[k]?:=fun k h1 h2 h3=>(hI2.up.block k (by have:=H9.out.1.size;omega) (by simp;omega)).trans (H9.out.1.block k h1 (by simp))
   have hd1:=(hb2 D1 (lt_of_block HI1.out.2.1) (by have:=HI1.out.2.2;have:=H7.out.2.1;omega) (by have:=HI1.out.2.2;have:=H7.out.2.1;omega)).trans HI1.out.2.1
   have hu2:Upd [p2+1,p2+1+1] w3 W2:=((((H4.out.2.1.trans (H5.out.2.1.trans (H6.out.2.1.trans H7.out.1))).mono (by simp)).trans HI1.out.1.up).trans (H9.out.1.mono (by simp))).trans hI2.up
   have hp2':=(hu2.block p2 (lt_of_block H3.out.2.2.1) (by simp;omega)).trans H3.out.2.2.1
   obtain ⟨h,hh⟩:∃h,AA / 18446744073709551616=h:=⟨_,rfl⟩
   obtain ⟨lo,hlo⟩:∃lo,AA % 18446744073709551616=lo:=⟨_,rfl⟩
   have hdd:D1≠D2∧p2+3≤D1∧p2+3≤D2:=by have h1:=lt_of_block HI1.out.2.1;have h2:=HI1.out.2.2;have h3:=H9.out.1.size;have h4:=H7.out.2.1;have h5:=H9.out.2.1;exact ⟨by omega,by omega,by omega⟩
   have HF:=Lib.hid (And.intro hI2 (And.intro hK2 (And.intro hd1 (And.intro hu2 (And.intro hp2' (And.intro hh (And.intro hlo hdd)))))))
   have HAE:=Lib.hid (And.intro hAA hEE)
   clear hD2 hS2 hI2 hK2 hsum hent hAA hEE hb2 hd1 hu2 hp2' hh hlo hdd
   go_wp2_with fail
   rw [roundsIn_succ]
   refine wpIn_wide.2 ?_
   go_wp2_with fail
   obtain ⟨Wd,hWd⟩:∃Wd,Wd=W2.drew:=⟨_,rfl⟩
   have hud:Upd [] W2 Wd:=by rw [hWd];exact (Upd.refl _ _).drew
   have hId:=HF.out.1.upd hud
   have hSd:Wd.cell? ⟨p2+1,0,none⟩=some (.int .u64 (h:Int))∧Wd.cell? ⟨p2+1,1,none⟩=some (.int .u64 (lo:Int))∧Wd.cell? ⟨p2+1+1,0,none⟩=some (.int .i64 (EE:Int))∧Wd.cell? ⟨p2+1+1,0,none⟩=some (.int .i64 (EE:Int)):=by
    obtain ⟨z0,z1,-⟩:=hId.sum.cells
    rw [HF.out.2.2.2.2.2.1] at z0
    rw [HF.out.2.2.2.2.2.2.1] at z1
    exact ⟨z0,z1,by simp [World.cell?,hId.ent],by simp [World.cell?,hId.ent]⟩
   have HSd:=Lib.hid hSd
   have hk2:=(hud.block D2 (lt_of_block HF.out.2.1) (by simp)).trans HF.out.2.1
   have hk1:=(hud.block D1 (lt_of_block HF.out.2.2.1) (by simp)).trans HF.out.2.2.1
   have hpp:=(hud.block p2 (lt_of_block HF.out.2.2.2.2.1) (by simp)).trans HF.out.2.2.2.2.1
   have HD:=Lib.hid (And.intro hk2 (And.intro hk1 (And.intro hpp (HF.out.2.2.2.1.trans (hud.mono (by simp))))))
   clear hud hId hSd hk2 hk1 hpp
   refine wp_region_noPanic ?_
   refine GoT.start [3] (fun w'=>w'.cell? ⟨p2+1,0,none⟩=some (.int .u64 (h:Int))∧w'.cell? ⟨p2+1,1,none⟩=some (.int .u64 (lo:Int))∧w'.cell? ⟨p2+1+1,0,none⟩=some (.int .i64 (EE:Int))∧w'.cell? ⟨p2+1+1,0,none⟩=some (.int .i64 (EE:Int))) (by kernel_rfl) ?_ fun hS=>?_
   ·exact by rw [←hWd];exact HSd.out
   rw [←hWd] at hS ⊢
   clear hWd
   refine' GoT.tk 1 (i:=0) (oi:=⟨some 39,_,_,_,_,_⟩) rfl (by rfl) ?y11_0 ?_
   case y11_0=>intro w hSw;go_simp<;>with_reducible rfl
   simp only [Act.put,sA,sZ,sS]
   refine' GoT.tk 1 (i:=1) (oi:=⟨some 40,_,_,_,_,_⟩) rfl (by rfl) ?y11_1 ?_
   case y11_1=>intro w hSw;go_simp<;>with_reducible rfl
   simp only [Act.put,sA,sZ,sS]
   refine GoT.one (i:=2) (o:=⟨none,_,_,_,_,_⟩) rfl (by kernel_rfl) fun K hK=>?_
   have z0:Wd.cell? ⟨p2,0,none⟩=some (.int .u64 0):=by simp [World.cell?,HD.out.2.2.1]
   have z1:Wd.cell? ⟨p2,1,none⟩=some (.int .u64 0):=by simp [World.cell?,HD.out.2.2.1]
   have zf0:Wd.frozen? ⟨p2,0,none⟩=false:=by simp [World.frozen?,HD.out.2.2.1]
   have zf1:Wd.frozen? ⟨p2,1,none⟩=false:=by simp [World.frozen?,HD.out.2.2.1]
   go_simp
   refine hK.out _ _ (fun _ h=>?_) ?_
   ·exact keep4f h (((Upd.refl [p2] _).setCell (.inl (by simp)) _).setCell (.inl (by simp)) _) (fun hc=>by have:=List.mem_singleton.1 hc;dsimp only at this;omega) (fun hc=>by have:=List.mem_singleton.1 hc;dsimp only at this;omega) (fun hc=>by have:=List.mem_singleton.1 hc;dsimp only at this;omega) (fun hc=>by have:=List.mem_singleton.1 hc;dsimp only at this;omega)
   clear hK K
   try simp only [Act.put,sA,sZ,sS]
   clear z0 z1 zf0 zf1
   refine' GoT.mv (i:=3) (oi:=⟨some 3,_,_,_,_,_⟩) rfl (by rfl) ?y11_3 ?_
   case y11_3=>intro w;go_simp<;>with_reducible rfl
   simp only [Act.put,sA,sZ,sS]
   refine GoT.done (by kernel_rfl) ?_
   have hpu:Upd [p2] Wd ((Wd.setCell ⟨p2,0,none⟩ (.int .u64 (h:Int))).setCell ⟨p2,1,none⟩ (.int .u64 (lo:Int))):=((Upd.refl _ _).setCell (.inl (by simp)) _).setCell (.inl (by simp)) _
   have hr:=heap_set (heap_set HD.out.2.2.1 0 (.int .u64 (h:Int))) 1 (.int .u64 (lo:Int))
   have hdd:=HF.out.2.2.2.2.2.2.2
   have hk2:=(hpu.block D2 (lt_of_block HD.out.1) (by simp;omega)).trans HD.out.1
   have hk1:=(hpu.block D1 (lt_of_block HD.out.2.1) (by simp;omega)).trans HD.out.2.1
   have HZ:=Lib.hid (And.intro hk2 (And.intro hk1 (And.intro hr ((HD.out.2.2.2.mono (G:=[p2,p2+1,p2+1+1]) (fun x hx=>.inl (by simp at hx ⊢;omega))).trans (hpu.mono (by simp))))))
   clear hpu hr hdd hk2 hk1
   generalize ((Wd.setCell ⟨p2,0,none⟩ (.int .u64 (h:Int))).setCell ⟨p2,1,none⟩ (.int .u64 (lo:Int)))=Wf at HZ ⊢
   refine NoPanic.normal ?_
   go_wp2_with fail
   refine ⟨by simp,.inl ⟨_,_,rfl,run_takeDeferred HZ.out.1,?_⟩⟩
   have hk1:(Wf.putObj D2 (Obj.deferred none)).heap[D1]? = some (.deferred (some [])):=(World.putObj_heap_other HF.out.2.2.2.2.2.2.2.1).trans HZ.out.2.1
   refine ⟨by simp,.inl ⟨_,_,rfl,run_takeDeferred hk1,?_⟩⟩
   have hdd:=HF.out.2.2.2.2.2.2.2
   have hr2:((Wf.putObj D2 (Obj.deferred none)).putObj D1 (Obj.deferred none)).heap[p2]? = some (.cells #[.int .u64 (h:Int),.int .u64 (lo:Int)] 37 (0,0)):=(World.putObj_heap_other (by omega)).trans ((World.putObj_heap_other (by omega)).trans HZ.out.2.2.1)
   have x0:((Wf.putObj D2 (Obj.deferred none)).putObj D1 (Obj.deferred none)).cell? ⟨p2,0,none⟩=some (.int .u64 (h:Int)):=by simp [World.cell?,hr2]
   have x1:((Wf.putObj D2 (Obj.deferred none)).putObj D1 (Obj.deferred none)).cell? ⟨p2,1,none⟩=some (.int .u64 (lo:Int)):=by simp [World.cell?,hr2]
   refine ⟨.tuple #[.agg #[.int .u64 (h:Int),.int .u64 (lo:Int)],.int .i64 (EE:Int)],?_,?_,?_⟩
   ·simp [results,Tryz.results22,go_sem,x0,x1]
   ·rw [HAE.out.1,HAE.out.2]
    unfold wideV
    rw [HF.out.2.2.2.2.2.1,HF.out.2.2.2.2.2.2.1]
   ·have h1:=HZ.out.2.2.2
    have h2:Upd [p2,p2+1,p2+1+1,D2,D1] w3 ((Wf.putObj D2 (Obj.deferred none)).putObj D1 (Obj.deferred none)):=((h1.mono (by simp)).trans ((upd_putR Wf (l:=D2) (Obj.deferred none)).mono (by simp))).trans ((upd_putR _ (l:=D1) (Obj.deferred none)).mono (by simp))
    exact H3.out.1.trans' h2 (fun k hk=>.inr (by rw [HP2.out];simp at hk;omega))
end Go.Proofs.YtkmnbodlciepaaaGreat
