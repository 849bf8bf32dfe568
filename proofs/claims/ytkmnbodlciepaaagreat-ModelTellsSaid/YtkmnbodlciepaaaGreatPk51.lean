/- The document's Turned. The document's rim. -/
import Derived.Test.YtkmnbodlciepaaaGreatPk50
import Derived.Test.YtkmnbodlciepaaaGreatPk49
import Derived.Test.YtkmnbodlciepaaaGreatPk1
set_option maxHeartbeats 8000000
set_option maxRecDepth 100000
namespace Go.Proofs.YtkmnbodlciepaaaGreat
open Go.RowKit
def tuI (b:Bx):Bx:=⟨b.y1,b.y2,b.x1,b.x2,b.id⟩
theorem kbx_snoc (l:List Bx) (b:Bx):KBx.all (l++[b])=KBx.all l++[.int .i64 b.x1,.int .i64 b.x2,.int .i64 b.y1,.int .i64 b.y2,.int .u32 (b.id:Int)]:=by rw [Kind.all_app];rfl
theorem rturnedC (v:Value) (l:List Bx) (w:World) (hs:See KBx w v l) (hl:l.length<100000) :
 Calls Tryz.prog 58 #[v] w fun e w'=>∃A C,e=.returned (.slice A (l.map tuI).length C)∧See KBx w' (.slice A (l.map tuI).length C) (l.map tuI)∧Upd [] w w':=by
 obtain ⟨iB,hiB,hB0,hB1,hB2⟩:=info_parts info_box
 obtain ⟨A,C,rfl⟩:=hs.form
 obtain ⟨n,hn⟩:∃n,l.length=n:=⟨_,rfl⟩
 rw [List.length_map]
 rw [hn] at hs hl ⊢
 have HS:=Lib.hid hs
 have HN:=Lib.hid hn
 have n1:(n:Int)<100000:=by omega
 clear hs hn hl
 go_enter Tryz.func58,Tryz.ntmps58
 go_wp2_with fail
 go_loopg [3,4] n (fun m s3 s4 wr=>∃i A1 C1 R,m+i=n∧R=(l.take i).map tuI∧R.length=i∧s3=.slice A1 i C1∧s4=.int .i64 (i:Int)∧KBx.row wr w.heap.size (.slice A1 i C1) R∧Upd [] w wr)
 case atStart=>exact ⟨0,none,0,[],rfl,rfl,rfl,rfl,rfl,World.ownsRow_nil _ _ _ _,Upd.refl _ _⟩
 case round=>
  obtain ⟨i,A1,C1,R,hi,hR,hRl,rfl,rfl,hr,hu⟩:=hrel
  have HI:=Lib.hid (And.intro hi (And.intro hR hRl))
  have i0:(0:Int)≤(i:Int):=Int.natCast_nonneg _
  have i3:(i:Int)<200000:=by omega
  have HR:=Lib.hid (And.intro hr hu)
  by_cases hlt:i<n
  ·have i1:(i:Int)<(n:Int):=by omega
   have i4:i<100000:=by omega
   obtain ⟨b,hb⟩:∃b,l[i]? = some b:=⟨_,List.getElem?_eq_getElem (by rw [HN.out];exact hlt)⟩
   obtain ⟨g,o,hA,-,-,c0,c1,c2,c3,c4⟩:=KBx.at (HS.out.upd0 hu) hb
   subst hA
   have HB:=Lib.hid hb
   have HLT:=Lib.hid hlt
   have HBX:=Lib.hid (BxAt.new wr b)
   have HUA:=Lib.hid (show Upd [] w (wr.alloc (.cells #[.int .i64 b.x1,.int .i64 b.x2,.int .i64 b.y1,.int .i64 b.y2,.int .u32 (b.id:Int)] 59)) from hu.alloc _)
   have HUB:=Lib.hid (show Upd [] wr (wr.alloc (.cells #[.int .i64 b.x1,.int .i64 b.x2,.int .i64 b.y1,.int .i64 b.y2,.int .u32 (b.id:Int)] 59)) from (Upd.refl _ _).alloc _)
   clear hb hlt hi hu hr hR hRl
   go_upto_region 6 with fail
   generalize wr.alloc (.cells #[.int .i64 b.x1,.int .i64 b.x2,.int .i64 b.y1,.int .i64 b.y2,.int .u32 (b.id:Int)] 59)=W at HBX HUA HUB ⊢
   generalize wr.heap.size=q at HBX ⊢
   clear c0 c1 c2 c3 c4
   obtain ⟨c0,c1,c2,c3,c4,-⟩:=HBX.out.cells
   go_wp2_with (at_builtin;refine wpList_app _ rfl _ _ 31 rfl w.heap.size 59 iB (.agg #[.int .i64 0,.int .i64 0,.int .i64 0,.int .i64 0,.int .u32 0]) 5 40 Tryz.underlying31 hiB hB0 hB1 hB2 rfl (by decide) _ i (KBx.all R) rfl (by have h:=own_upd HR.out.1 (HUB.out.alloc (.cells #[.int .i64 b.y1,.int .i64 b.y2,.int .i64 b.x1,.int .i64 b.x2,.int .u32 (b.id:Int)] 59)) (by simp);rw [HI.out.2.2] at h;exact h) _ 1 [.int .i64 b.y1,.int .i64 b.y2,.int .i64 b.x1,.int .i64 b.x2,.int .u32 (b.id:Int)] rfl (sees_lit W #[.int .i64 b.y1,.int .i64 b.y2,.int .i64 b.x1,.int .i64 b.x2,.int .u32 (b.id:Int)] 59 5 1 rfl (by decide)) (by simp [Value.oneCell']) (by unfold maxLen;omega) (by omega) (by have:=HUA.out.size;simp;omega) ?_)
   intro A' C' w4 HP
   have hu4:Upd [] w w4:=(HUA.out.alloc _).trans' HP.upd (fun y hy=>.inr (own_ge HR.out.1 y hy))
   have hr4:KBx.row w4 w.heap.size (.slice A' (i+1) C') (R++[tuI b]):=by
    have h:=HP.own
    unfold Kind.row
    rw [List.length_append,HI.out.2.2,kbx_snoc]
    exact h
   have HE:=Lib.hid (And.intro hr4 hu4)
   clear HP hu4 hr4 c0 c1 c2 c3 c4
   go_wp2_with fail
   go_roundg (n - (i+1))
   case measure=>have:=HI.out.1;have:=HLT.out;omega
   case rel=>
    refine ⟨i+1,A',C',R++[tuI b],by have:=HI.out.1;have:=HLT.out;omega,?_,by rw [List.length_append,HI.out.2.2];rfl,rfl,by go_num,HE.out.1,HE.out.2⟩
    rw [List.take_add_one,HB.out,Option.toList_some,List.map_append,HI.out.2.1]
    rfl
  ·have hin:i=n:=by omega
   subst hin
   clear hlt hi
   go_wp2_with fail
   go_ret
   refine ⟨_,_,rfl,?_,HR.out.2⟩
   have e:l.map tuI=R:=by rw [HI.out.2.1,←HN.out,List.take_length]
   have h:=See.of_row HR.out.1
   rw [e]
   exact h
def rimD (l:List Bx):Int:=(cellsI 1 0 l allB - cellsI 0 0 l allB)+(cellsI 0 1 l allB - cellsI 0 0 l allB)
theorem rrimC (v:Value) (l:List Bx) (w:World) (hs:See KBx w v l) (hl:l.length<400) (hin:∀b∈l,b.in64) :
 Calls Tryz.prog 29 #[v] w fun e w'=>e=.returned (.tuple #[wideZ (rimD l+rimD l),.int .i64 ((entE l:Int)+(entE (l.map tuI):Int))])∧Upd [] w w':=by
 have hce:∀(mX mY:Nat) (_:mX+mY≤1) W,See KBx W v l→Calls Tryz.prog 53 #[v,.int .i64 0,bxV allB,.int .i64 (mX:Int),.int .i64 (mY:Int)] W fun e w'=>e=.returned (wideZ (cellsI mX mY l allB))∧Upd [] W w':=fun mX mY hm W h=>by
  have:=rcellsZ v l mX mY hm (by omega) hin l.length 0 allB W (by omega) (Nat.zero_le _) (by unfold Bx.in64 allB;decide) (by decide) (by decide) h
  rw [List.drop_zero] at this
  exact this
 have hen:=fun W (h:See KBx W v l)=>renteredE v l W h hl
 have hen2:=fun W v' (h:See KBx W v' (l.map tuI))=>renteredE v' (l.map tuI) W h (by rw [List.length_map];exact hl)
 have htu:=fun W (h:See KBx W v l)=>rturnedC v l W h (by omega)
 have hs1:entE l≤200*l.length:=ent_sum_le _ (by have:=sqz_len (linY l);have:=linY_lenE l;omega) l
 have hs2:entE (l.map tuI)≤200*l.length:=by
  have:=ent_sum_le (sqz (linY (l.map tuI))) (by have:=sqz_len (linY (l.map tuI));have:=linY_lenE (l.map tuI);rw [List.length_map] at this;omega) (l.map tuI)
  rw [List.length_map] at this
  exact this
 obtain ⟨E1,hE1⟩:∃E,entE l=E:=⟨_,rfl⟩
 obtain ⟨E2,hE2⟩:∃E,entE (l.map tuI)=E:=⟨_,rfl⟩
 rw [hE1] at hen hs1 ⊢
 rw [hE2] at hen2 hs2 ⊢
 have e1:(0:Int)≤(E1:Int):=Int.natCast_nonneg _
 have e2:(0:Int)≤(E2:Int):=Int.natCast_nonneg _
 have e3:(E1:Int)<100000:=by omega
 have e4:(E2:Int)<100000:=by omega
 obtain ⟨R2,hR2⟩:∃R,l.map tuI=R:=⟨_,rfl⟩
 rw [hR2] at hen2 htu
 obtain ⟨D,hD⟩:∃D,rimD l=D:=⟨_,rfl⟩
 rw [hD]
 unfold rimD at hD
 have h10:=hce 1 0 (by omega)
 have h01:=hce 0 1 (by omega)
 have h00:=hce 0 0 (by omega)
 rw [show ((0:Nat):Int)=0 from rfl] at h00
 rw [show ((0:Nat):Int)=0 from rfl,show ((1:Nat):Int)=1 from rfl] at h01 h10
 obtain ⟨N,hN⟩:∃Z,cellsI 0 0 l allB=Z:=⟨_,rfl⟩
 obtain ⟨X,hX⟩:∃Z,cellsI 1 0 l allB=Z:=⟨_,rfl⟩
 obtain ⟨Y,hY⟩:∃Z,cellsI 0 1 l allB=Z:=⟨_,rfl⟩
 rw [hN] at h00 hD
 rw [hX] at h10 hD
 rw [hY] at h01 hD
 have lx:=fun w=>rlessZ X N w
 have ly:=fun w=>rlessZ Y N w
 obtain ⟨P,hP⟩:∃Z,X - N=Z:=⟨_,rfl⟩
 obtain ⟨Q,hQ⟩:∃Z,Y - N=Z:=⟨_,rfl⟩
 rw [hP] at lx hD
 rw [hQ] at ly hD
 have sh:=fun w=>rsumZ P Q w
 have sd:=fun w=>rsumZ D D w
 rw [hD] at sh
 have hal:=rallC
 obtain ⟨B,hB⟩:∃B,allB=B:=⟨_,rfl⟩
 rw [hB] at h00 h10 h01 hal
 unfold wideZ at h00 h10 h01 lx ly sh sd ⊢
 unfold bxV at h00 h10 h01 hal
 obtain ⟨nh,e5⟩:∃a,zh N=a:=⟨_,rfl⟩
 obtain ⟨nl,e6⟩:∃a,zl N=a:=⟨_,rfl⟩
 obtain ⟨xh,e7⟩:∃a,zh X=a:=⟨_,rfl⟩
 obtain ⟨xl,e8⟩:∃a,zl X=a:=⟨_,rfl⟩
 obtain ⟨yh,e9⟩:∃a,zh Y=a:=⟨_,rfl⟩
 obtain ⟨yl,e10⟩:∃a,zl Y=a:=⟨_,rfl⟩
 obtain ⟨ph,e11⟩:∃a,zh P=a:=⟨_,rfl⟩
 obtain ⟨pl,e12⟩:∃a,zl P=a:=⟨_,rfl⟩
 obtain ⟨qh,e13⟩:∃a,zh Q=a:=⟨_,rfl⟩
 obtain ⟨ql,e14⟩:∃a,zl Q=a:=⟨_,rfl⟩
 obtain ⟨dh,e15⟩:∃a,zh D=a:=⟨_,rfl⟩
 obtain ⟨dl,e16⟩:∃a,zl D=a:=⟨_,rfl⟩
 obtain ⟨rh,e17⟩:∃a,zh (D+D)=a:=⟨_,rfl⟩
 obtain ⟨rl,e18⟩:∃a,zl (D+D)=a:=⟨_,rfl⟩
 rw [e5,e6] at h00 lx ly
 rw [e7,e8] at h10 lx
 rw [e9,e10] at h01 ly
 rw [e11,e12] at lx sh
 rw [e13,e14] at ly sh
 rw [e15,e16] at sh sd
 rw [e17,e18] at sd ⊢
 have H00:=Lib.hid (show ∀W,See KBx W v l→Calls Tryz.prog 53 #[v,.int .i64 0,.agg #[.int .i64 B.x1,.int .i64 B.x2,.int .i64 B.y1,.int .i64 B.y2,.int .u32 (B.id:Int)],.int .i64 0,.int .i64 0] W fun e w'=>e=.returned (.agg #[.int .u64 nh,.int .u64 nl])∧Upd [] W w' from h00)
 have H10:=Lib.hid (show ∀W,See KBx W v l→Calls Tryz.prog 53 #[v,.int .i64 0,.agg #[.int .i64 B.x1,.int .i64 B.x2,.int .i64 B.y1,.int .i64 B.y2,.int .u32 (B.id:Int)],.int .i64 1,.int .i64 0] W fun e w'=>e=.returned (.agg #[.int .u64 xh,.int .u64 xl])∧Upd [] W w' from h10)
 have H01:=Lib.hid (show ∀W,See KBx W v l→Calls Tryz.prog 53 #[v,.int .i64 0,.agg #[.int .i64 B.x1,.int .i64 B.x2,.int .i64 B.y1,.int .i64 B.y2,.int .u32 (B.id:Int)],.int .i64 0,.int .i64 1] W fun e w'=>e=.returned (.agg #[.int .u64 yh,.int .u64 yl])∧Upd [] W w' from h01)
 have HAL:=Lib.hid hal
 have HLX:=Lib.hid lx
 have HLY:=Lib.hid ly
 have HSH:=Lib.hid sh
 have HSD:=Lib.hid sd
 have HEN:=Lib.hid hen
 have HEN2:=Lib.hid hen2
 have HTU:=Lib.hid htu
 have HS:=Lib.hid hs
 have HZ:=Lib.hid (ZAt.new w 0 0)
 have HU:=Lib.hid (show Upd [] w (w.alloc (.cells #[.int .u64 0,.int .u64 0] 37)) from (Upd.refl _ _).alloc _)
 clear hs hl hin hce hen hen2 htu hs1 hs2 hE1 hE2 hR2 hD h10 h01 h00 hN hX hY lx ly hP hQ sh sd hal hB e5 e6 e7 e8 e9 e10 e11 e12 e13 e14 e15 e16 e17 e18
 go_enter Tryz.func29,Tryz.ntmps29
 go_upto_region 1 with fail
 generalize (w.alloc (.cells #[.int .u64 0,.int .u64 0] 37))=W at HZ HU ⊢
 obtain ⟨q,hq⟩:∃q,w.heap.size=q:=⟨_,rfl⟩
 rw [hq] at HZ ⊢
 have HQ:=Lib.hid hq
 clear hq
 go_wp2_with fail
 (with_reducible refine (HAL.out _).mono ?_)
 rintro e w1 ⟨rfl,hu1⟩
 have HBX:=Lib.hid (BxAt.new w1 B)
 have HU1:=Lib.hid (show Upd [] W (w1.alloc (.cells #[.int .i64 B.x1,.int .i64 B.x2,.int .i64 B.y1,.int .i64 B.y2,.int .u32 (B.id:Int)] 59)) from hu1.alloc _)
 clear hu1
 go_upto_region 2 with fail
 generalize w1.alloc (.cells #[.int .i64 B.x1,.int .i64 B.x2,.int .i64 B.y1,.int .i64 B.y2,.int .u32 (B.id:Int)] 59)=Wa at HBX HU1 ⊢
 generalize w1.heap.size=qb at HBX ⊢
 obtain ⟨c0,c1,c2,c3,c4,-⟩:=HBX.out.cells
 go_wp2_with fail
 (with_reducible refine (H00.out _ (HS.out.upd0 (HU.out.trans HU1.out))).mono ?_)
 rintro e w2 ⟨rfl,hu2⟩
 have HN:=Lib.hid (ZAt.new w2 nh nl)
 have HU2:=Lib.hid (show Upd [] Wa (w2.alloc (.cells #[.int .u64 nh,.int .u64 nl] 37)) from hu2.alloc _)
 clear hu2 c0 c1 c2 c3 c4
 go_upto_region 3 with fail
 generalize w2.alloc (.cells #[.int .u64 nh,.int .u64 nl] 37)=wl at HN HU2 ⊢
 generalize w2.heap.size=qn at HN ⊢
 have HST:=Lib.hid (And.intro (HBX.out.upd HU2.out (by simp)) HN.out)
 have HUL:=Lib.hid (HU1.out.trans HU2.out)
 have HSL:=Lib.hid (HS.out.upd0 (HU.out.trans HUL.out))
 clear HN HBX
 go_cut [6] (fun s6 wc=>∃q,s6=.pointer (some ⟨q,0,none⟩)∧ZAt wc q ph pl∧Upd [] wl wc∧wl.heap.size≤q)
 case first=>
  refine GoT.start [4,6] (fun w'=>BxAt w' qb B∧ZAt w' qn nh nl) (by kernel_rfl) ?_ fun hS=>?_
  ·exact ⟨HST.out.1.upd (Upd.refl [] _).drew (by simp),HST.out.2.upd (Upd.refl [] _).drew (by simp)⟩
  refine' GoT.mv (i:=0) (oi:=⟨some 13,_,_,_,_,_⟩) rfl (by rfl) ?y3_0 ?_
  case y3_0=>intro w;go_simp<;>with_reducible rfl
  simp only [Act.put,sA,sZ,sS]
  refine' GoT.tk 2 (i:=1) (oi:=⟨some 14,_,_,_,_,_⟩) rfl (by rfl) ?y3_1 ?_
  case y3_1=>intro w hSw;obtain ⟨c0,c1,c2,c3,c4,-⟩:=hSw.1.cells;go_simp<;>with_reducible rfl
  simp only [Act.put,sA,sZ,sS]
  refine' GoT.tk 2 (i:=3) (oi:=⟨some 16,_,_,_,_,_⟩) rfl (by rfl) ?y3_3 ?_
  case y3_3=>intro w hSw;obtain ⟨c0,c1,-⟩:=hSw.2.cells;go_simp<;>with_reducible rfl
  simp only [Act.put,sA,sZ,sS]
  refine GoT.pair (i:=2) (o:=⟨some 15,_,_,_,_,_⟩) (k:=5) (o':=⟨some 6,_,_,_,_,_⟩) rfl rfl (by kernel_rfl) (fun K hK=>?_) (fun K hK=>?_)
  ·skip
   go_simp
   go_at_call 53
   (with_reducible refine (H10.out _ (HSL.out.upd0 ((Upd.refl [] wl).drew))).mono ?_)
   rintro e w1 ⟨rfl,hu1⟩
   have HU1:=Lib.hid (((Upd.refl [] wl).drew).trans hu1)
   have HV1:=Lib.hid hu1
   clear hu1
   refine hK.out _ _ (fun _ h=>?_) ?_
   ·exact ⟨h.1.upd HV1.out (by simp),h.2.upd HV1.out (by simp)⟩
   clear hK K
   try simp only [Act.put,sA,sZ,sS]
   refine GoT.pair (i:=4) (o:=⟨some 17,_,_,_,_,_⟩) (k:=5) (o':=⟨some 6,_,_,_,_,_⟩) rfl rfl (by kernel_rfl) (fun K hK=>?_) (fun K hK=>?_)
   ·skip
    go_simp
    go_at_call 56
    (with_reducible refine (HLX.out _).mono ?_)
    rintro e w2 ⟨rfl,hu2⟩
    have HU2:=Lib.hid (HU1.out.trans hu2)
    clear hu2
    refine hK.out _ _ (fun h=>(by cases h)) ?_
    clear hK K
    try simp only [Act.put,sA,sZ,sS]
    refine GoT.one (i:=5) (o:=⟨some 6,_,_,_,_,_⟩) rfl (by kernel_rfl) fun K hK=>?_
    go_simp
    refine hK.out _ _ (fun _ h=>?_) ?_
    ·exact ⟨h.1.upd ((Upd.refl [] _).alloc _) (by simp),h.2.upd ((Upd.refl [] _).alloc _) (by simp)⟩
    clear hK K
    try simp only [Act.put,sA,sZ,sS]
    have hb0:=ZAt.new w2 0 0
    have hua:Upd [] wl (w2.alloc (.cells #[.int .u64 0,.int .u64 0] 37)):=HU2.out.alloc _
    have HUA:=Lib.hid (And.intro hua (show wl.heap.size≤w2.heap.size from HU2.out.size))
    clear hua
    generalize w2.alloc (.cells #[.int .u64 0,.int .u64 0] 37)=wa at hb0 HUA ⊢
    generalize w2.heap.size=qx at hb0 HUA ⊢
    obtain ⟨t0,t1,tf⟩:=hb0.cells
    have tf0:=tf 0
    have tf1:=tf 1
    have HB2:=Lib.hid hb0
    have HUF:=Lib.hid HUA.out.1
    have HQF:=Lib.hid HUA.out.2
    clear tf hb0
    refine GoT.one (i:=6) (o:=⟨none,_,_,_,_,_⟩) rfl (by kernel_rfl) fun K hK=>?_
    go_simp
    refine hK.out _ _ (fun h=>(by cases h)) ?_
    clear hK K
    try simp only [Act.put,sA,sZ,sS]
    refine GoT.done (by kernel_rfl) ?_
    go_wp2_with fail
    go_meet
    case rel=>exact ⟨_,rfl,(HB2.out.set0 _).set1 _,(HUF.out.setCell (.inr HQF.out) _).setCell (.inr HQF.out) _,HQF.out⟩
   ·skip
    go_simp
    refine hK.out _ _ (fun _ h=>?_) ?_
    ·exact ⟨h.1.upd ((Upd.refl [] _).alloc _) (by simp),h.2.upd ((Upd.refl [] _).alloc _) (by simp)⟩
    clear hK K
    try simp only [Act.put,sA,sZ,sS]
    have hb0:=ZAt.new w1 0 0
    have hua:Upd [] wl (w1.alloc (.cells #[.int .u64 0,.int .u64 0] 37)):=HU1.out.alloc _
    have HQF:=Lib.hid (show wl.heap.size≤w1.heap.size from (HU1.out).size)
    have HUA:=Lib.hid hua
    clear hua
    generalize w1.alloc (.cells #[.int .u64 0,.int .u64 0] 37)=wa at hb0 HUA ⊢
    generalize w1.heap.size=qx at hb0 HQF ⊢
    have HB0:=Lib.hid hb0
    clear hb0
    refine GoT.one (i:=4) (o:=⟨some 17,_,_,_,_,_⟩) rfl (by kernel_rfl) fun K hK=>?_
    go_simp
    go_at_call 56
    (with_reducible refine (HLX.out _).mono ?_)
    rintro e w2 ⟨rfl,hu2⟩
    have HU2:=Lib.hid (HUA.out.trans hu2)
    have HB2:=Lib.hid (HB0.out.upd hu2 (by simp))
    clear hu2
    refine hK.out _ _ (fun h=>(by cases h)) ?_
    clear hK K
    try simp only [Act.put,sA,sZ,sS]
    obtain ⟨t0,t1,tf⟩:=HB2.out.cells
    have tf0:=tf 0
    have tf1:=tf 1
    have HUF:=Lib.hid HU2.out
    clear tf
    refine GoT.one (i:=6) (o:=⟨none,_,_,_,_,_⟩) rfl (by kernel_rfl) fun K hK=>?_
    go_simp
    refine hK.out _ _ (fun h=>(by cases h)) ?_
    clear hK K
    try simp only [Act.put,sA,sZ,sS]
    refine GoT.done (by kernel_rfl) ?_
    go_wp2_with fail
    go_meet
    case rel=>exact ⟨_,rfl,(HB2.out.set0 _).set1 _,(HUF.out.setCell (.inr HQF.out) _).setCell (.inr HQF.out) _,HQF.out⟩
  ·skip
   go_simp
   refine hK.out _ _ (fun _ h=>?_) ?_
   ·exact ⟨h.1.upd ((Upd.refl [] _).alloc _) (by simp),h.2.upd ((Upd.refl [] _).alloc _) (by simp)⟩
   clear hK K
   try simp only [Act.put,sA,sZ,sS]
   have hb0:=(ZAt.new wl 0 0).upd (Upd.refl [] _).drew (by simp)
   have HUA:=Lib.hid (show Upd [] wl (wl.alloc (.cells #[.int .u64 0,.int .u64 0] 37)).drew from ((Upd.refl [] wl).alloc _).drew)
   generalize (wl.alloc (.cells #[.int .u64 0,.int .u64 0] 37)).drew=wa at hb0 HUA ⊢
   obtain ⟨qx,hqx⟩:∃q,wl.heap.size=q:=⟨_,rfl⟩
   rw [hqx] at hb0 ⊢
   have HQF:=Lib.hid (show wl.heap.size≤qx from by rw [hqx];exact Nat.le_refl _)
   have HB0:=Lib.hid hb0
   clear hb0 hqx
   refine GoT.one (i:=2) (o:=⟨some 15,_,_,_,_,_⟩) rfl (by kernel_rfl) fun K hK=>?_
   go_simp
   go_at_call 53
   (with_reducible refine (H10.out _ (HSL.out.upd0 HUA.out)).mono ?_)
   rintro e w1 ⟨rfl,hu1⟩
   have HU1:=Lib.hid (HUA.out.trans hu1)
   have HV1:=Lib.hid hu1
   clear hu1
   refine hK.out _ _ (fun _ h=>?_) ?_
   ·exact ⟨h.1.upd HV1.out (by simp),h.2.upd HV1.out (by simp)⟩
   clear hK K
   try simp only [Act.put,sA,sZ,sS]
   refine GoT.one (i:=4) (o:=⟨some 17,_,_,_,_,_⟩) rfl (by kernel_rfl) fun K hK=>?_
   go_simp
   go_at_call 56
   (with_reducible refine (HLX.out _).mono ?_)
   rintro e w2 ⟨rfl,hu2⟩
   have HU2:=Lib.hid (HU1.out.trans hu2)
   have HB2:=Lib.hid ((HB0.out.upd HV1.out (by simp)).upd hu2 (by simp))
   clear hu2
   refine hK.out _ _ (fun h=>(by cases h)) ?_
   clear hK K
   try simp only [Act.put,sA,sZ,sS]
   obtain ⟨t0,t1,tf⟩:=HB2.out.cells
   have tf0:=tf 0
   have tf1:=tf 1
   have HUF:=Lib.hid HU2.out
   clear tf
   refine GoT.one (i:=6) (o:=⟨none,_,_,_,_,_⟩) rfl (by kernel_rfl) fun K hK=>?_
   go_simp
   refine hK.out _ _ (fun h=>(by cases h)) ?_
   clear hK K
   try simp only [Act.put,sA,sZ,sS]
   refine GoT.done (by kernel_rfl) ?_
   go_wp2_with fail
   go_meet
   case rel=>exact ⟨_,rfl,(HB2.out.set0 _).set1 _,(HUF.out.setCell (.inr HQF.out) _).setCell (.inr HQF.out) _,HQF.out⟩
 obtain ⟨qx,rfl,hzx,hux,-⟩:=hcut
 have HX:=Lib.hid hzx
 have HUX:=Lib.hid hux
 have HST2:=Lib.hid (And.intro (HST.out.1.upd hux (by simp)) (HST.out.2.upd hux (by simp)))
 have HSL1:=Lib.hid (HSL.out.upd0 hux)
 clear hzx hux
 go_upto_region 4 with fail
 go_cut [7] (fun s7 wd=>∃q,s7=.pointer (some ⟨q,0,none⟩)∧ZAt wd q qh ql∧Upd [] wc wd∧wc.heap.size≤q)
 case first=>
  refine GoT.start [4,6] (fun w'=>BxAt w' qb B∧ZAt w' qn nh nl) (by kernel_rfl) ?_ fun hS=>?_
  ·exact ⟨HST2.out.1.upd (Upd.refl [] _).drew (by simp),HST2.out.2.upd (Upd.refl [] _).drew (by simp)⟩
  refine' GoT.mv (i:=0) (oi:=⟨some 18,_,_,_,_,_⟩) rfl (by rfl) ?y4_0 ?_
  case y4_0=>intro w;go_simp<;>with_reducible rfl
  simp only [Act.put,sA,sZ,sS]
  refine' GoT.tk 2 (i:=1) (oi:=⟨some 19,_,_,_,_,_⟩) rfl (by rfl) ?y4_1 ?_
  case y4_1=>intro w hSw;obtain ⟨c0,c1,c2,c3,c4,-⟩:=hSw.1.cells;go_simp<;>with_reducible rfl
  simp only [Act.put,sA,sZ,sS]
  refine' GoT.tk 2 (i:=3) (oi:=⟨some 21,_,_,_,_,_⟩) rfl (by rfl) ?y4_3 ?_
  case y4_3=>intro w hSw;obtain ⟨c0,c1,-⟩:=hSw.2.cells;go_simp<;>with_reducible rfl
  simp only [Act.put,sA,sZ,sS]
  refine GoT.pair (i:=2) (o:=⟨some 20,_,_,_,_,_⟩) (k:=5) (o':=⟨some 7,_,_,_,_,_⟩) rfl rfl (by kernel_rfl) (fun K hK=>?_) (fun K hK=>?_)
  ·skip
   go_simp
   go_at_call 53
   (with_reducible refine (H01.out _ (HSL1.out.upd0 ((Upd.refl [] wc).drew))).mono ?_)
   rintro e w1 ⟨rfl,hu1⟩
   have HU1:=Lib.hid (((Upd.refl [] wc).drew).trans hu1)
   have HV1:=Lib.hid hu1
   clear hu1
   refine hK.out _ _ (fun _ h=>?_) ?_
   ·exact ⟨h.1.upd HV1.out (by simp),h.2.upd HV1.out (by simp)⟩
   clear hK K
   try simp only [Act.put,sA,sZ,sS]
   refine GoT.pair (i:=4) (o:=⟨some 22,_,_,_,_,_⟩) (k:=5) (o':=⟨some 7,_,_,_,_,_⟩) rfl rfl (by kernel_rfl) (fun K hK=>?_) (fun K hK=>?_)
   ·skip
    go_simp
    go_at_call 56
    (with_reducible refine (HLY.out _).mono ?_)
    rintro e w2 ⟨rfl,hu2⟩
    have HU2:=Lib.hid (HU1.out.trans hu2)
    clear hu2
    refine hK.out _ _ (fun h=>(by cases h)) ?_
    clear hK K
    try simp only [Act.put,sA,sZ,sS]
    refine GoT.one (i:=5) (o:=⟨some 7,_,_,_,_,_⟩) rfl (by kernel_rfl) fun K hK=>?_
    go_simp
    refine hK.out _ _ (fun _ h=>?_) ?_
    ·exact ⟨h.1.upd ((Upd.refl [] _).alloc _) (by simp),h.2.upd ((Upd.refl [] _).alloc _) (by simp)⟩
    clear hK K
    try simp only [Act.put,sA,sZ,sS]
    have hb0:=ZAt.new w2 0 0
    have hua:Upd [] wc (w2.alloc (.cells #[.int .u64 0,.int .u64 0] 37)):=HU2.out.alloc _
    have HUA:=Lib.hid (And.intro hua (show wc.heap.size≤w2.heap.size from HU2.out.size))
    clear hua
    generalize w2.alloc (.cells #[.int .u64 0,.int .u64 0] 37)=wa at hb0 HUA ⊢
    generalize w2.heap.size=qx at hb0 HUA ⊢
    obtain ⟨t0,t1,tf⟩:=hb0.cells
    have tf0:=tf 0
    have tf1:=tf 1
    have HB2:=Lib.hid hb0
    have HUF:=Lib.hid HUA.out.1
    have HQF:=Lib.hid HUA.out.2
    clear tf hb0
    refine GoT.one (i:=6) (o:=⟨none,_,_,_,_,_⟩) rfl (by kernel_rfl) fun K hK=>?_
    go_simp
    refine hK.out _ _ (fun h=>(by cases h)) ?_
    clear hK K
    try simp only [Act.put,sA,sZ,sS]
    refine GoT.done (by kernel_rfl) ?_
    go_wp2_with fail
    go_meet
    case rel=>exact ⟨_,rfl,(HB2.out.set0 _).set1 _,(HUF.out.setCell (.inr HQF.out) _).setCell (.inr HQF.out) _,HQF.out⟩
   ·skip
    go_simp
    refine hK.out _ _ (fun _ h=>?_) ?_
    ·exact ⟨h.1.upd ((Upd.refl [] _).alloc _) (by simp),h.2.upd ((Upd.refl [] _).alloc _) (by simp)⟩
    clear hK K
    try simp only [Act.put,sA,sZ,sS]
    have hb0:=ZAt.new w1 0 0
    have hua:Upd [] wc (w1.alloc (.cells #[.int .u64 0,.int .u64 0] 37)):=HU1.out.alloc _
    have HQF:=Lib.hid (show wc.heap.size≤w1.heap.size from (HU1.out).size)
    have HUA:=Lib.hid hua
    clear hua
    generalize w1.alloc (.cells #[.int .u64 0,.int .u64 0] 37)=wa at hb0 HUA ⊢
    generalize w1.heap.size=qx at hb0 HQF ⊢
    have HB0:=Lib.hid hb0
    clear hb0
    refine GoT.one (i:=4) (o:=⟨some 22,_,_,_,_,_⟩) rfl (by kernel_rfl) fun K hK=>?_
    go_simp
    go_at_call 56
    (with_reducible refine (HLY.out _).mono ?_)
    rintro e w2 ⟨rfl,hu2⟩
    have HU2:=Lib.hid (HUA.out.trans hu2)
    have HB2:=Lib.hid (HB0.out.upd hu2 (by simp))
    clear hu2
    refine hK.out _ _ (fun h=>(by cases h)) ?_
    clear hK K
    try simp only [Act.put,sA,sZ,sS]
    obtain ⟨t0,t1,tf⟩:=HB2.out.cells
    have tf0:=tf 0
    have tf1:=tf 1
    have HUF:=Lib.hid HU2.out
    clear tf
    refine GoT.one (i:=6) (o:=⟨none,_,_,_,_,_⟩) rfl (by kernel_rfl) fun K hK=>?_
    go_simp
    refine hK.out _ _ (fun h=>(by cases h)) ?_
    clear hK K
    try simp only [Act.put,sA,sZ,sS]
    refine GoT.done (by kernel_rfl) ?_
    go_wp2_with fail
    go_meet
    case rel=>exact ⟨_,rfl,(HB2.out.set0 _).set1 _,(HUF.out.setCell (.inr HQF.out) _).setCell (.inr HQF.out) _,HQF.out⟩
  ·skip
   go_simp
   refine hK.out _ _ (fun _ h=>?_) ?_
   ·exact ⟨h.1.upd ((Upd.refl [] _).alloc _) (by simp),h.2.upd ((Upd.refl [] _).alloc _) (by simp)⟩
   clear hK K
   try simp only [Act.put,sA,sZ,sS]
   have hb0:=(ZAt.new wc 0 0).upd (Upd.refl [] _).drew (by simp)
   have HUA:=Lib.hid (show Upd [] wc (wc.alloc (.cells #[.int .u64 0,.int .u64 0] 37)).drew from ((Upd.refl [] wc).alloc _).drew)
   generalize (wc.alloc (.cells #[.int .u64 0,.int .u64 0] 37)).drew=wa at hb0 HUA ⊢
   obtain ⟨qx,hqx⟩:∃q,wc.heap.size=q:=⟨_,rfl⟩
   rw [hqx] at hb0 ⊢
   have HQF:=Lib.hid (show wc.heap.size≤qx from by rw [hqx];exact Nat.le_refl _)
   have HB0:=Lib.hid hb0
   clear hb0 hqx
   refine GoT.one (i:=2) (o:=⟨some 20,_,_,_,_,_⟩) rfl (by kernel_rfl) fun K hK=>?_
   go_simp
   go_at_call 53
   (with_reducible refine (H01.out _ (HSL1.out.upd0 HUA.out)).mono ?_)
   rintro e w1 ⟨rfl,hu1⟩
   have HU1:=Lib.hid (HUA.out.trans hu1)
   have HV1:=Lib.hid hu1
   clear hu1
   refine hK.out _ _ (fun _ h=>?_) ?_
   ·exact ⟨h.1.upd HV1.out (by simp),h.2.upd HV1.out (by simp)⟩
   clear hK K
   try simp only [Act.put,sA,sZ,sS]
   refine GoT.one (i:=4) (o:=⟨some 22,_,_,_,_,_⟩) rfl (by kernel_rfl) fun K hK=>?_
   go_simp
   go_at_call 56
   (with_reducible refine (HLY.out _).mono ?_)
   rintro e w2 ⟨rfl,hu2⟩
   have HU2:=Lib.hid (HU1.out.trans hu2)
   have HB2:=Lib.hid ((HB0.out.upd HV1.out (by simp)).upd hu2 (by simp))
   clear hu2
   refine hK.out _ _ (fun h=>(by cases h)) ?_
   clear hK K
   try simp only [Act.put,sA,sZ,sS]
   obtain ⟨t0,t1,tf⟩:=HB2.out.cells
   have tf0:=tf 0
   have tf1:=tf 1
   have HUF:=Lib.hid HU2.out
   clear tf
   refine GoT.one (i:=6) (o:=⟨none,_,_,_,_,_⟩) rfl (by kernel_rfl) fun K hK=>?_
   go_simp
   refine hK.out _ _ (fun h=>(by cases h)) ?_
   clear hK K
   try simp only [Act.put,sA,sZ,sS]
   refine GoT.done (by kernel_rfl) ?_
   go_wp2_with fail
   go_meet
   case rel=>exact ⟨_,rfl,(HB2.out.set0 _).set1 _,(HUF.out.setCell (.inr HQF.out) _).setCell (.inr HQF.out) _,HQF.out⟩
 obtain ⟨qy,rfl,hzy,huy,-⟩:=hcut
 have HY:=Lib.hid hzy
 have HX2:=Lib.hid (HX.out.upd huy (by simp))
 have HUY:=Lib.hid (HUX.out.trans huy)
 have HSL2:=Lib.hid (HSL1.out.upd0 huy)
 clear hzy huy
 obtain ⟨a0,a1,-⟩:=HX2.out.cells
 obtain ⟨b0,b1,-⟩:=HY.out.cells
 go_wp2_with fail
 (with_reducible refine (HSH.out _).mono ?_)
 rintro e w5 ⟨rfl,hu5⟩
 have HH:=Lib.hid (ZAt.new w5 dh dl)
 have hu5a:=hu5.alloc (.cells #[.int .u64 dh,.int .u64 dl] 37)
 have HU5:=Lib.hid hu5a
 clear hu5 hu5a a0 a1 b0 b1
 go_upto_region 6 with fail
 generalize w5.alloc (.cells #[.int .u64 dh,.int .u64 dl] 37)=we at HH HU5 ⊢
 generalize w5.heap.size=qz at HH ⊢
 obtain ⟨a0,a1,-⟩:=HH.out.cells
 have HUE:=Lib.hid (HUL.out.trans (HUY.out.trans HU5.out))
 have HSL3:=Lib.hid (HSL2.out.upd0 HU5.out)
 go_wp2_with fail
 (with_reducible refine (HSD.out _).mono ?_)
 rintro e w6 ⟨rfl,hu6⟩
 have HU6:=Lib.hid hu6
 clear hu6 a0 a1
 go_wp2_with fail
 (with_reducible refine (HEN.out _ (HSL3.out.upd0 HU6.out)).mono ?_)
 rintro e w7 ⟨rfl,hu7⟩
 have HU7:=Lib.hid (HU6.out.trans hu7)
 clear hu7
 go_wp2_with fail
 (with_reducible refine (HTU.out _ (HSL3.out.upd0 HU7.out)).mono ?_)
 rintro e w8 ⟨A8,C8,rfl,hs8,hu8⟩
 have HS8:=Lib.hid hs8
 have HU8:=Lib.hid (HU7.out.trans hu8)
 clear hs8 hu8
 go_wp2_with fail
 (with_reducible refine (HEN2.out _ _ HS8.out).mono ?_)
 rintro e w9 ⟨rfl,hu9⟩
 have HU9:=Lib.hid (HUE.out.trans (HU8.out.trans hu9))
 have hz:=HZ.out.upd HU9.out (by simp)
 obtain ⟨t0,t1,tf⟩:=hz.cells
 have tf0:=tf 0
 have tf1:=tf 1
 have hz2:=(hz.set0 rh).set1 rl
 have HF:=Lib.hid (And.intro hz2 (show Upd [] w ((w9.setCell ⟨q,0,none⟩ (.int .u64 rh)).setCell ⟨q,1,none⟩ (.int .u64 rl)) from ((HU.out.trans HU9.out).setCell (.inr (by rw [HQ.out];exact Nat.le_refl _)) _).setCell (.inr (by rw [HQ.out];exact Nat.le_refl _)) _))
 clear hu9 hz tf hz2
 go_wp2_with fail
 obtain ⟨y0,y1,-⟩:=HF.out.1.cells
 exact bodyPost_ret (v:=.tuple #[.agg #[.int .u64 rh,.int .u64 rl],.int .i64 ((E1:Int)+(E2:Int))]) (by simp [results,Tryz.results29,go_sem,y0,y1]) rfl ⟨rfl,HF.out.2⟩
end Go.Proofs.YtkmnbodlciepaaaGreat
