/- The document's numbers as bits: sum, Add, Mul. The document's product of two numbers. -/
import Derived.Test.YtkmnbodlciepaaaGreatPk41
set_option maxHeartbeats 8000000
set_option maxRecDepth 100000
namespace Go.Proofs.YtkmnbodlciepaaaGreat
open Go.RowKit
theorem kn_snoc (l:List Nat) (x:Nat):KN.all (l++[x])=KN.all l++[.int .i64 (x:Int)]:=by rw [Kind.all_app];rfl
def RSumPost (w:World) (V:Nat) (e:Ending) (w':World):Prop:=
 ∃A C S,e=.returned (.slice A 129 C)∧KN.row w' w.heap.size (.slice A 129 C) S∧S.length=129∧Bits01 S∧valL S=V∧Upd [] w w'
theorem rsumC (va vb:Value) (X Y:List Nat) (w:World) (hx:See KN w va X) (hy:See KN w vb Y) (hxl:X.length=128) (hyl:Y.length=128) (hxb:Bits01 X) (hyb:Bits01 Y) :
 Calls Tryz.prog 201 #[va,vb] w (RSumPost w (valL X+valL Y)):=by
 obtain ⟨i0,hi0,hz0,hz1,hz2⟩:=info_parts kn_info
 obtain ⟨Ax,Cx,rfl⟩:=hx.form
 obtain ⟨Ay,Cy,rfl⟩:=hy.form
 rw [hxl] at hx ⊢
 rw [hyl] at hy ⊢
 have HX:=Lib.hid (And.intro hx (And.intro hxl hxb))
 have HY:=Lib.hid (And.intro hy (And.intro hyl hyb))
 clear hx hy hxl hyl hxb hyb
 go_enter Tryz.func201,Tryz.ntmps201
 go_wp2_with fail
 go_loopg [5,6,7,8] 128 (fun m s5 s6 s7 _ wr=>∃(i c:Nat) (S:List Nat) (A:Option Addr) (C:Nat),m+i=128∧s7=.int .i64 (i:Int)∧s6=.int .i64 (c:Int)∧c≤1∧s5=.slice A i C∧S.length=i∧Bits01 S∧KN.row wr w.heap.size (.slice A i C) S∧valL S+2 ^ i*c=valL (X.take i)+valL (Y.take i)∧Upd [] w wr)
 case atStart=>exact ⟨0,0,[],none,0,rfl,rfl,rfl,by omega,rfl,rfl,by intro x hx;simp at hx,World.ownsRow_nil _ _ _ _,by simp [valL],Upd.refl _ _⟩
 case round=>
  obtain ⟨i,c,S,A,C,hi,rfl,rfl,hc,rfl,hS,hSb,hrow,hv,hu⟩:=hrel
  have i0':(0:Int)≤(i:Int):=Int.natCast_nonneg _
  have c0:(0:Int)≤(c:Int):=Int.natCast_nonneg _
  have c1:(c:Int)≤1:=by omega
  have HI:=Lib.hid (And.intro hi (And.intro hS (And.intro hSb hv)))
  have HR:=Lib.hid (And.intro hrow hu)
  by_cases hlt:i<128
  ·have i1:(i:Int)<128:=by omega
   obtain ⟨a,ha⟩:∃a,X[i]? = some a:=⟨_,List.getElem?_eq_getElem (by rw [HX.out.2.1];exact hlt)⟩
   obtain ⟨b,hb⟩:∃a,Y[i]? = some a:=⟨_,List.getElem?_eq_getElem (by rw [HY.out.2.1];exact hlt)⟩
   obtain ⟨g,o,hA,-,-,xa⟩:=kn_at (HX.out.1.upd0 hu) ha
   obtain ⟨g',o',hA',-,-,xb⟩:=kn_at (HY.out.1.upd0 hu) hb
   subst hA hA'
   have ha1:=HX.out.2.2.at ha
   have hb1:=HY.out.2.2.at hb
   obtain ⟨N,hN⟩:∃N,a+b+c=N:=⟨_,rfl⟩
   have hst:=sum_step ha hb hS hv
   rw [hN] at hst
   have y1:IntKind.i64.wrap ((a:Int)+(b:Int))=(a:Int)+(b:Int):=IntWalk.i64_in _ (by omega)
   have y2:IntKind.i64.wrap ((a:Int)+(b:Int)+(c:Int))=(N:Int):=by rw [IntWalk.i64_in _ (by omega)];omega
   have n0:(0:Int)≤(N:Int):=Int.natCast_nonneg _
   have n1:(N:Int)≤3:=by omega
   have hv1:Value.int .i64 ((N:Int) % 2)=Value.int .i64 ((N % 2:Nat):Int):=by congr 1
   have hv2:Value.int .i64 ((N:Int) / 2)=Value.int .i64 ((N / 2:Nat):Int):=by congr 1
   have HV:=Lib.hid (And.intro hv1 hv2)
   have HST:=Lib.hid (And.intro hst (And.intro (show N / 2≤1 by omega) (show N % 2≤1 by omega)))
   have HCI:=Lib.hid (And.intro c0 c1)
   clear hi hc hS hSb hrow hv hu ha hb ha1 hb1 hN hst hv1 hv2 c0 c1
   go_upto_region 6 with fail
   go_quiet (fail)
   clear y1 y2
   go_wp2_with (at_builtin;refine wpList_app _ rfl _ _ 138 rfl w.heap.size 3 i0 (.int .i64 0) 1 8 Tryz.underlying138 hi0 hz0 hz1 hz2 rfl (by decide) _ i (KN.all S) rfl (by have h:=own_upd HR.out.1 (((Upd.refl [] wr).drewN nq).alloc (.cells #[.int .i64 ((N:Int) % 2)] 3)) (by simp);rw [HI.out.2.1] at h;exact h) _ 1 [.int .i64 ((N:Int) % 2)] rfl (sees_lit (wr.drewN nq) #[.int .i64 ((N:Int) % 2)] 3 1 1 rfl (by decide)) (by simp [Value.oneCell']) (by unfold maxLen;omega) (by omega) (by have:=HR.out.2.size;simp [World.drewN];omega) ?_)
   intro A' C' w4 HP
   have hu4:Upd [] w w4:=((HR.out.2.drewN nq).alloc _).trans' HP.upd (fun y hy=>.inr (own_ge HR.out.1 y hy))
   have hr4:KN.row w4 w.heap.size (.slice A' (i+1) C') (S++[N % 2]):=by
    have h:=HP.own
    rw [HV.out.1] at h
    unfold Kind.row
    rw [List.length_append,HI.out.2.1,kn_snoc]
    exact h
   have HE:=Lib.hid (And.intro hr4 hu4)
   clear HP hu4 hr4
   go_wp2_with fail
   rw [HV.out.2]
   go_roundg (128 - (i+1))
   case measure=>have:=HI.out.1;omega
   case rel=>exact ⟨i+1,N / 2,S++[N % 2],A',C',by have:=HI.out.1;omega,by go_num,rfl,HST.out.2.1,rfl,by rw [List.length_append,HI.out.2.1];rfl,HI.out.2.2.1.app (by intro x hx;simp at hx;rw [hx];exact HST.out.2.2),HE.out.1,by
    have h:=HST.out.1
    exact h,HE.out.2⟩
  ·have hi128:i=128:=by omega
   subst hi128
   have hvv:valL (S++[c])=valL X+valL Y:=by
    rw [valL_snoc,hS,hv,List.take_of_length_le (by rw [HX.out.2.1];omega),List.take_of_length_le (by rw [HY.out.2.1];omega)]
   have HVV:=Lib.hid (And.intro hvv hc)
   clear hi hc hS hSb hrow hv hu hvv
   go_wp2_with (at_builtin;refine wpList_app _ rfl _ _ 138 rfl w.heap.size 3 i0 (.int .i64 0) 1 8 Tryz.underlying138 hi0 hz0 hz1 hz2 rfl (by decide) _ 128 (KN.all S) rfl (by have h:=own_upd HR.out.1 ((Upd.refl [] wr).alloc (.cells #[.int .i64 (c:Int)] 3)) (by simp);rw [HI.out.2.1] at h;exact h) _ 1 [.int .i64 (c:Int)] rfl (sees_lit wr #[.int .i64 (c:Int)] 3 1 1 rfl (by decide)) (by simp [Value.oneCell']) (by unfold maxLen;omega) (by omega) (by have:=HR.out.2.size;simp;omega) ?_)
   intro A' C' w4 HP
   have hu4:Upd [] w w4:=(HR.out.2.alloc _).trans' HP.upd (fun y hy=>.inr (own_ge HR.out.1 y hy))
   have hr4:KN.row w4 w.heap.size (.slice A' 129 C') (S++[c]):=by
    have h:=HP.own
    unfold Kind.row
    rw [List.length_append,HI.out.2.1,kn_snoc]
    exact h
   have HE:=Lib.hid (And.intro hr4 hu4)
   clear HP hu4 hr4
   go_wp2_with fail
   go_ret
   exact ⟨A',C',S++[c],rfl,HE.out.1,by rw [List.length_append,HI.out.2.1];rfl,HI.out.2.2.1.app (by intro x hx;simp at hx;rw [hx];exact HVV.out.2),HVV.out.1,HE.out.2⟩
theorem raddWC (a b:Nat) (hab:W128 (a+b)) (w:World):Calls Tryz.prog 163 #[wideV a,wideV b] w (SubPost w (a+b)):=by
 have ha:W128 a:=hab.mono (by omega)
 have hb:W128 b:=hab.mono (by omega)
 obtain ⟨ah,hah⟩:∃h,a / 18446744073709551616=h:=⟨_,rfl⟩
 obtain ⟨al,hal⟩:∃h,a % 18446744073709551616=h:=⟨_,rfl⟩
 obtain ⟨bh,hbh⟩:∃h,b / 18446744073709551616=h:=⟨_,rfl⟩
 obtain ⟨bl,hbl⟩:∃h,b % 18446744073709551616=h:=⟨_,rfl⟩
 have hba:∀w,Calls Tryz.prog 165 #[.agg #[.int .u64 (ah:Int),.int .u64 (al:Int)]] w (BitsPost w a):=fun w=>by
  have:=bitsC a ha w
  unfold wideV at this
  rw [hah,hal] at this
  exact this
 have hbb:∀w,Calls Tryz.prog 165 #[.agg #[.int .u64 (bh:Int),.int .u64 (bl:Int)]] w (BitsPost w b):=fun w=>by
  have:=bitsC b hb w
  unfold wideV at this
  rw [hbh,hbl] at this
  exact this
 have hva:a<2 ^ 128:=by unfold W128 at ha;omega
 have hvb:b<2 ^ 128:=by unfold W128 at hb;omega
 have hsub:∀Q,Calls Tryz.prog 163 #[.agg #[.int .u64 (ah:Int),.int .u64 (al:Int)],.agg #[.int .u64 (bh:Int),.int .u64 (bl:Int)]] w Q→Calls Tryz.prog 163 #[wideV a,wideV b] w Q:=fun Q h=>by unfold wideV;rw [hah,hal,hbh,hbl];exact h
 refine hsub _ ?_
 have HA:=Lib.hid hba
 have HB:=Lib.hid hbb
 have BA:=Lib.hid (BL_bits hva)
 have BB:=Lib.hid (BL_bits hvb)
 obtain ⟨D,hD⟩:∃D,a+b=D:=⟨_,rfl⟩
 have hWD:W128 D:=by rw [←hD];exact hab
 obtain ⟨dh,hdh⟩:∃h,D / 18446744073709551616=h:=⟨_,rfl⟩
 obtain ⟨dl,hdl⟩:∃h,D % 18446744073709551616=h:=⟨_,rfl⟩
 have hwv:wideV D=.agg #[.int .u64 (dh:Int),.int .u64 (dl:Int)]:=by unfold wideV;rw [hdh,hdl]
 have HWV:=Lib.hid (And.intro hD (And.intro hWD hwv))
 rw [hD]
 obtain ⟨p,hp⟩:∃p,w.heap.size=p:=⟨_,rfl⟩
 have hn1:=heap_alloc_new w (.cells #[.int .u64 (ah:Int),.int .u64 (al:Int)] 37)
 obtain ⟨W1,hW1⟩:∃W1,w.alloc (.cells #[.int .u64 (ah:Int),.int .u64 (al:Int)] 37)=W1:=⟨_,rfl⟩
 have hu1:Upd [] w W1:=by rw [←hW1];exact (Upd.refl _ _).alloc _
 have hq0:W1.heap.size=p+1:=by rw [←hW1,←hp];simp
 rw [hW1,hp] at hn1
 have hn2:=heap_alloc_new W1 (.cells #[.int .u64 (bh:Int),.int .u64 (bl:Int)] 37)
 obtain ⟨W2,hW2⟩:∃W2,W1.alloc (.cells #[.int .u64 (bh:Int),.int .u64 (bl:Int)] 37)=W2:=⟨_,rfl⟩
 have hu2:Upd [] W1 W2:=by rw [←hW2];exact (Upd.refl _ _).alloc _
 rw [hW2,hq0] at hn2
 have hn1':=(hu2.block p (lt_of_block hn1) (by simp)).trans hn1
 have hq2:W2.heap.size=p+2:=by rw [←hW2];simp;omega
 have hn3:=heap_alloc_new W2 (.cells #[.int .u64 0,.int .u64 0] 37)
 obtain ⟨W3,hW3⟩:∃W3,W2.alloc (.cells #[.int .u64 0,.int .u64 0] 37)=W3:=⟨_,rfl⟩
 have hu3:Upd [] W2 W3:=by rw [←hW3];exact (Upd.refl _ _).alloc _
 rw [hW3,hq2] at hn3
 replace hn1':=(hu3.block p (lt_of_block hn1') (by simp)).trans hn1'
 replace hn2:=(hu3.block (p+1) (lt_of_block hn2) (by simp)).trans hn2
 obtain ⟨a0,a1,-⟩:=WdAt.cells (p:=p) hn1'
 obtain ⟨c0,c1,-⟩:=WdAt.cells (p:=p+1) hn2
 have HC:=Lib.hid (And.intro a0 (And.intro a1 (And.intro c0 c1)))
 have HU:=Lib.hid ((hu1.trans hu2).trans hu3)
 have HW3:=Lib.hid hW3
 have HN3:=Lib.hid (show WdAt W3 (p+2) 0 0 from hn3)
 have HW1:=Lib.hid hW1
 have HW2:=Lib.hid hW2
 have HP:=Lib.hid hp
 clear hsub hD hWD hdh hdl hwv hn3 hu3 hW3 hq2 hba hbb hva hvb ha hb hab hah hal hbh hbl hn1 hn2 hn1' a0 a1 c0 c1 hu1 hu2 hW1 hW2 hp hq0
 go_enter Tryz.func163,Tryz.ntmps163
 go_upto_region 1 with fail
 rw [HW1.out,HW2.out,HW3.out,HP.out]
 have ep:p+1+1=p+2:=rfl
 rw [ep]
 refine GoT.start [3,4,5,6,7,8,9] (fun w'=>w'.cell? ⟨p,0,none⟩=some (.int .u64 (ah:Int))∧w'.cell? ⟨p,1,none⟩=some (.int .u64 (al:Int))∧w'.cell? ⟨p+1,0,none⟩=some (.int .u64 (bh:Int))∧w'.cell? ⟨p+1,1,none⟩=some (.int .u64 (bl:Int))) (by kernel_rfl) ?_ fun hS=>?_
 ·exact rb_kp4 HC.out (Upd.refl _ _).drew
 refine' GoT.tk 4 (i:=0) (oi:=⟨some 6,_,_,_,_,_⟩) rfl (by rfl) ?y1_0 ?_
 case y1_0=>intro w hSw;go_simp<;>with_reducible rfl
 simp only [Act.put,sA,sZ,sS]
 refine' GoT.tk 4 (i:=2) (oi:=⟨some 8,_,_,_,_,_⟩) rfl (by rfl) ?y1_2 ?_
 case y1_2=>intro w hSw;go_simp<;>with_reducible rfl
 simp only [Act.put,sA,sZ,sS]
 refine GoT.one (i:=1) (o:=⟨some 7,_,_,_,_,_⟩) rfl (by kernel_rfl) fun K hK=>?_
 go_simp
 go_at_call 165
 (with_reducible refine (HA.out _).mono ?_)
 rintro e w3 ⟨g1,rfl,hg1,hr1,hu3⟩
 have HR1:=Lib.hid (And.intro hg1 (And.intro hr1 hu3))
 clear hg1 hr1 hu3
 refine hK.out _ _ (fun _ h=>?_) ?_
 ·exact rb_kp4 h HR1.out.2.2
 clear hK K
 try simp only [Act.put,sA,sZ,sS]
 refine GoT.one (i:=3) (o:=⟨some 9,_,_,_,_,_⟩) rfl (by kernel_rfl) fun K hK=>?_
 go_simp
 go_at_call 165
 (with_reducible refine (HB.out _).mono ?_)
 rintro e w4 ⟨g2,rfl,hg2,hr2,hu4⟩
 have HR2:=Lib.hid (And.intro hg2 (And.intro hr2 hu4))
 have hsum:=rsumC _ _ _ _ w4 ((See.of_row HR1.out.2.1).upd0 hu4) (See.of_row hr2) (bitsL_len _ _) (bitsL_len _ _) (bitsL_01 _ _) (bitsL_01 _ _)
 rw [BA.out.2.2,BB.out.2.2] at hsum
 have HSUM:=Lib.hid hsum
 clear hg2 hr2 hu4 hsum
 refine hK.out _ _ (fun h=>(by cases h)) ?_
 clear hK K
 try simp only [Act.put,sA,sZ,sS]
 refine GoT.one (i:=4) (o:=⟨some 10,_,_,_,_,_⟩) rfl (by kernel_rfl) fun K hK=>?_
 go_simp
 go_at_call 201
 (with_reducible refine HSUM.out.mono ?_)
 rintro e w5 ⟨A5,C5,S5,rfl,hr5,hl5,hb5,hv5,hu5⟩
 have hnum:=numberC _ S5 w5 (See.of_row hr5) (by rw [hl5];omega) hb5 (by rw [hv5,HWV.out.1];exact HWV.out.2.1)
 rw [hv5,HWV.out.1,HWV.out.2.2] at hnum
 have HNUM:=Lib.hid (And.intro hnum hu5)
 clear hr5 hl5 hb5 hv5 hu5 hnum
 refine hK.out _ _ (fun h=>(by cases h)) ?_
 clear hK K
 try simp only [Act.put,sA,sZ,sS]
 refine GoT.one (i:=5) (o:=⟨some 11,_,_,_,_,_⟩) rfl (by kernel_rfl) fun K hK=>?_
 go_simp
 go_at_call 164
 (with_reducible refine HNUM.out.1.mono ?_)
 rintro e w6 ⟨rfl,hu6⟩
 have hu06:Upd [] W3 w6:=((Upd.refl _ _).drew.trans (HR1.out.2.2.trans HR2.out.2.2)).trans (HNUM.out.2.trans hu6)
 have HU6:=Lib.hid (And.intro (HU.out.trans hu06) (HN3.out.upd hu06 (by simp)))
 obtain ⟨r0,r1,rf⟩:=HU6.out.2.cells
 have rf0:=rf 0
 have rf1:=rf 1
 clear hu6 hu06 rf
 refine hK.out _ _ (fun h=>(by cases h)) ?_
 clear hK K
 try simp only [Act.put,sA,sZ,sS]
 refine' GoT.mv (i:=6) (oi:=⟨some 12,_,_,_,_,_⟩) rfl (by rfl) ?y1_6 ?_
 case y1_6=>intro w;go_simp<;>with_reducible rfl
 simp only [Act.put,sA,sZ,sS]
 refine' GoT.mv (i:=7) (oi:=⟨some 13,_,_,_,_,_⟩) rfl (by rfl) ?y1_7 ?_
 case y1_7=>intro w;go_simp<;>with_reducible rfl
 simp only [Act.put,sA,sZ,sS]
 refine GoT.one (i:=8) (o:=⟨none,_,_,_,_,_⟩) rfl (by kernel_rfl) fun K hK=>?_
 go_simp
 refine hK.out _ _ (fun h=>(by cases h)) ?_
 clear hK K
 try simp only [Act.put,sA,sZ,sS]
 refine' GoT.mv (i:=9) (oi:=⟨some 5,_,_,_,_,_⟩) rfl (by rfl) ?y1_9 ?_
 case y1_9=>intro w;go_simp<;>with_reducible rfl
 simp only [Act.put,sA,sZ,sS]
 refine GoT.done (by kernel_rfl) ?_
 go_wp2_with fail
 obtain ⟨e0,e1,-⟩:=((HU6.out.2.set0 dh).set1 dl).cells
 have HUE:=Lib.hid ((HU6.out.1.setCell (p:=⟨p+2,0,none⟩) (.inr (by have:=HP.out;simp;omega)) (.int .u64 (dh:Int))).setCell (p:=⟨p+2,1,none⟩) (.inr (by have:=HP.out;simp;omega)) (.int .u64 (dl:Int)))
 generalize (w6.setCell ⟨p+2,0,none⟩ (.int .u64 (dh:Int))).setCell ⟨p+2,1,none⟩ (.int .u64 (dl:Int))=Wf at e0 e1 HUE ⊢
 exact bodyPost_ret (v:=.tuple #[wideV D,.bool true]) (by rw [HWV.out.2.2];simp [results,Tryz.results163,go_sem,e0,e1]) rfl ⟨rfl,HUE.out⟩
theorem bit_u64 (b i:Nat) (hb:b<18446744073709551616):Value.int .u64 (bits .and .u64 ((b:Int) / 2 ^ i) 1)=Value.int .u64 ((b / 2 ^ i % 2:Nat):Int):=by
 have e:(b:Int) / 2 ^ i=((b / 2 ^ i:Nat):Int):=by simp
 have h1:b / 2 ^ i≤b:=Nat.div_le_self _ _
 obtain ⟨y,hy⟩:∃y,b / 2 ^ i=y:=⟨_,rfl⟩
 rw [e,hy]
 rw [hy] at h1
 rw [and_one_u64 _ (by omega) (by omega)]
 congr 1
theorem mul_step (a b i:Nat):a*(b % 2 ^ (i+1))=a*(b % 2 ^ i)+(b / 2 ^ i % 2)*(a*2 ^ i):=by
 rw [Nat.mod_pow_succ,Nat.mul_add]
 congr 1
 rw [Nat.mul_comm (2 ^ i),Nat.mul_left_comm]
theorem mul_bd {a b i:Nat} (ha:a<18446744073709551616) (hi:i<64):a*(b % 2 ^ i)+a*2 ^ i<340282366920938463463374607431768211456∧a*2 ^ i<170141183460469231731687303715884105728:=by
 have h1:b % 2 ^ i<2 ^ i:=Nat.mod_lt _ (Nat.pow_pos (by decide))
 have h2:2 ^ (i+1)≤2 ^ 64:=Nat.pow_le_pow_right (by decide) (by omega)
 have h3:2 ^ i≤2 ^ 63:=Nat.pow_le_pow_right (by decide) (by omega)
 rw [Nat.pow_succ] at h2
 have h4:a*(b % 2 ^ i)+a*2 ^ i=a*(b % 2 ^ i+2 ^ i):=(Nat.mul_add _ _ _).symm
 have h5:a*(b % 2 ^ i+2 ^ i)≤a*2 ^ 64:=Nat.mul_le_mul_left _ (by omega)
 have h6:a*2 ^ i≤a*2 ^ 63:=Nat.mul_le_mul_left _ h3
 rw [h4]
 constructor
 ·omega
 ·omega
theorem bitsL_take (N:Nat) {j k:Nat} (h:j≤k):(bitsL N k).take j=bitsL N j:=by
 unfold bitsL
 rw [←List.map_take,List.take_range,Nat.min_eq_left h]
def W2At (w:World) (q n:Nat):Prop:=WdAt w q (n / 18446744073709551616) (n % 18446744073709551616)
theorem W2At.upd {F:List Nat} {w w':World} {q n:Nat} (h:W2At w q n) (hu:Upd F w w') (hq:q∉F):W2At w' q n:=WdAt.upd h hu hq
theorem rmulC (a b:Nat) (ha:a<18446744073709551616) (hb:b<18446744073709551616) (w:World):Calls Tryz.prog 139 #[.int .u64 (a:Int),.int .u64 (b:Int)] w fun e w'=>e=.returned (wideV (a*b))∧Upd [] w w':=by
 obtain ⟨i0,hi0,hz0,hz1,hz2⟩:=info_parts kn_info
 obtain ⟨p,hp⟩:∃p,w.heap.size=p:=⟨_,rfl⟩
 obtain ⟨W1,hW1⟩:∃W,w.alloc (.cells #[.int .u64 0,.int .u64 0] 37)=W:=⟨_,rfl⟩
 obtain ⟨W2,hW2⟩:∃W,W1.alloc (.cells #[.int .u64 0,.int .u64 (a:Int)] 37)=W:=⟨_,rfl⟩
 obtain ⟨W3,hW3⟩:∃W,W2.alloc (.cells #[.int .u64 0,.int .u64 0] 37)=W:=⟨_,rfl⟩
 have s1:W1.heap.size=p+1:=by rw [←hW1,←hp];simp
 have s2:W2.heap.size=p+2:=by rw [←hW2];simp;omega
 have u1:Upd [] w W1:=by rw [←hW1];exact (Upd.refl _ _).alloc _
 have u2:Upd [] W1 W2:=by rw [←hW2];exact (Upd.refl _ _).alloc _
 have u3:Upd [] W2 W3:=by rw [←hW3];exact (Upd.refl _ _).alloc _
 have n1:=heap_alloc_new w (.cells #[.int .u64 0,.int .u64 0] 37)
 have n2:=heap_alloc_new W1 (.cells #[.int .u64 0,.int .u64 (a:Int)] 37)
 have n3:=heap_alloc_new W2 (.cells #[.int .u64 0,.int .u64 0] 37)
 rw [hW1,hp] at n1
 rw [hW2,s1] at n2
 rw [hW3,s2] at n3
 replace n1:=((u2.trans u3).block p (lt_of_block n1) (by simp)).trans n1
 replace n2:=(u3.block (p+1) (lt_of_block n2) (by simp)).trans n2
 have k1:WdAt W3 p 0 0:=n1
 have k2:W2At W3 (p+1) a:=by unfold W2At;rw [Nat.div_eq_of_lt ha,Nat.mod_eq_of_lt ha];exact n2
 have k3:W2At W3 (p+2) 0:=n3
 have HK:=Lib.hid (And.intro k1 (And.intro k2 (And.intro k3 ((u1.trans u2).trans u3))))
 have HAB:=Lib.hid (And.intro ha hb)
 have HP:=Lib.hid hp
 have HW:=Lib.hid (And.intro hW1 (And.intro hW2 hW3))
 clear s1 s2 u1 u2 u3 n1 n2 n3 k1 k2 k3 hW1 hW2 hW3 hp ha hb
 go_enter Tryz.func139,Tryz.ntmps139
 go_upto_region 3 with fail
 rw [HW.out.1,HW.out.2.1,HW.out.2.2,HP.out]
 have ep:p+1+1=p+2:=rfl
 rw [ep]
 go_wp2_with fail
 go_loopg [7] 64 (fun m s7 wr=>∃i,m+i=64∧s7=.int .i64 (i:Int)∧W2At wr (p+1) (a*2 ^ i)∧W2At wr (p+2) (a*(b % 2 ^ i))∧Upd [p+1,p+2] W3 wr)
 case atStart=>exact ⟨0,rfl,rfl,by simpa using HK.out.2.1,by have:=HK.out.2.2.1;simpa [Nat.mod_one] using this,Upd.refl _ _⟩
 case round=>
  obtain ⟨i,hi,rfl,hx,ho,hu⟩:=hrel
  obtain ⟨wl,rfl⟩:∃wl:World,wl=wr:=⟨_,rfl⟩
  have HI:=Lib.hid hi
  have HX:=Lib.hid (And.intro hx (And.intro ho hu))
  have i0':(0:Int)≤(i:Int):=Int.natCast_nonneg _
  by_cases hlt:i<64
  ·have i1:(i:Int)<64:=by omega
   have hbd:=mul_bd (b:=b) HAB.out.1 hlt
   have hms:=mul_step a b i
   have hps:a*2 ^ (i+1)=2*(a*2 ^ i):=by rw [Nat.pow_succ,←Nat.mul_assoc,Nat.mul_comm]
   obtain ⟨X,hX⟩:∃X,a*2 ^ i=X:=⟨_,rfl⟩
   obtain ⟨O,hO⟩:∃O,a*(b % 2 ^ i)=O:=⟨_,rfl⟩
   rw [hX] at hx hbd hms hps
   rw [hO] at ho hbd hms
   obtain ⟨y,hy⟩:∃y,b / 2 ^ i % 2=y:=⟨_,rfl⟩
   rw [hy] at hms
   have hbit:=bit_u64 b i HAB.out.2
   rw [hy] at hbit
   have hbi:bits BinOp.and IntKind.u64 ((b:Int) / 2 ^ i) 1=(y:Int):=by injection hbit
   have hy1:y≤1:=by omega
   obtain ⟨xh,hxh⟩:∃x,X / 18446744073709551616=x:=⟨_,rfl⟩
   obtain ⟨xl,hxl'⟩:∃x,X % 18446744073709551616=x:=⟨_,rfl⟩
   obtain ⟨dh,hdh⟩:∃x,2*X / 18446744073709551616=x:=⟨_,rfl⟩
   obtain ⟨dl,hdl⟩:∃x,2*X % 18446744073709551616=x:=⟨_,rfl⟩
   have hbx:∀w,Calls Tryz.prog 165 #[.agg #[.int .u64 (xh:Int),.int .u64 (xl:Int)]] w (BitsPost w X):=fun w=>by
    have:=bitsC X (by unfold W128;have:=hbd.2;omega) w
    unfold wideV at this
    rw [hxh,hxl'] at this
    exact this
   have HBX:=Lib.hid hbx
   have HBD:=Lib.hid hbd
   have HPS:=Lib.hid hps
   have HXH:=Lib.hid (And.intro hdh hdl)
   have HWV2:=Lib.hid (show wideV (2*X)=.agg #[.int .u64 (dh:Int),.int .u64 (dl:Int)] by unfold wideV;rw [hdh,hdl])
   have hx':WdAt wl (p+1) xh xl:=by rw [←hxh,←hxl'];exact hx
   rcases (by omega:y=0∨y=1) with rfl | rfl
   ·have HOE:=Lib.hid (show a*(b % 2 ^ (i+1))=O by rw [hms];simp)
    have HXA:=Lib.hid (And.intro hx' (And.intro ho hu))
    clear hx ho hu hbd hms hps hX hO hy hbit hxh hxl' hdh hdl hbx hx' hi
    go_upto_region 8 with fail
    clear hbi hy1
    have hxl:=lt_of_block HXA.out.1
    obtain ⟨x0,x1,-⟩:=WdAt.cells HXA.out.1
    have huA:Upd [] wl (wl.alloc (.cells #[.int .i64 0] 3)):=(Upd.refl _ _).alloc _
    have HBI:=Lib.hid (HBX.out (wl.alloc (.cells #[.int .i64 0] 3)))
    go_wp2_with fail
    (with_reducible refine HBI.out.mono ?_)
    rintro e w3 ⟨g,rfl,hg,hr,hu3⟩
    have hown:w3.ownsRow wl.heap.size 3 1 (.slice (some ⟨wl.heap.size,0,none⟩) 1 1) 1 [.int .i64 0]:=own_upd (World.ownsRow_lit (e:=3) (size:=1) (base:=wl.heap.size) wl #[.int .i64 0] 1 (Nat.le_refl _) (by decide) rfl) hu3 (by simp)
    have hsee:Sees w3 1 (.slice (some ⟨g,0,none⟩) 128 128) 128 (KN.all (bitsL X 128)):=by have h:=See.of_row hr;unfold See at h;rw [bitsL_len] at h;exact h
    obtain ⟨Ac,Cc,ca,sa,-⟩:=cut_to (P:=Tryz.prog) (t:=138) Tryz.underlying138 hi0 hz1 hsee 127 (by decide)
    have ca':∀w',(Instr.slice 138 (.slice (some ⟨g,0,none⟩) 128 128) none (some (.int .i64 127)) none).run Tryz.prog w'=.ok (.slice Ac 127 Cc) w':=ca
    have hsa:=sa w3 hsee
    have hkt:(KN.all (bitsL X 128)).take (127*1)=KN.all (bitsL X 127):=by
     have h:=(KN.all_take (bitsL X 128) 127).symm
     rw [bitsL_take X (by decide)] at h
     exact h
    rw [hkt] at hsa
    have hU3:Upd [] wl w3:=huA.trans hu3
    have HR3:=Lib.hid (And.intro hown (And.intro hsa hU3))
    clear hown hsee ca sa hsa hkt hg hr hu3 hU3 x0 x1 huA
    go_wp2_with (at_builtin;refine wpList_app _ rfl _ _ 138 rfl wl.heap.size 3 i0 (.int .i64 0) 1 8 Tryz.underlying138 hi0 hz0 hz1 hz2 rfl (by decide) _ 1 [.int .i64 0] rfl HR3.out.1 _ 127 (KN.all (bitsL X 127)) rfl HR3.out.2.1 (KN.all_one _) (by decide) (by decide) HR3.out.2.2.size ?_)
    intro A4 C4 w4 HP4
    have hu4:Upd [] wl w4:=HR3.out.2.2.trans' HP4.upd (fun y hy=>.inr (own_ge HR3.out.1 y hy))
    have hl128:(0::bitsL X 127).length=128:=by rw [List.length_cons,bitsL_len]
    have hs4:See KN w4 (.slice A4 128 C4) (0::bitsL X 127):=by
     have h:=sees_of_own HP4.own
     unfold See
     rw [hl128]
     exact h
    have hb4:Bits01 (0::bitsL X 127):=fun x hx=>by
     rcases List.mem_cons.1 hx with rfl | h
     ·omega
     ·exact bitsL_01 _ _ x h
    have hv4:valL (0::bitsL X 127)=2*X:=by rw [valL,bitsL_val,Nat.zero_add,Nat.mod_eq_of_lt (by have:=HBD.out.2;omega)]
    have hnum:=numberC (.slice A4 128 C4) _ w4 (by rw [←hl128] at hs4;rw [←hl128];exact hs4) (by rw [hl128];decide) hb4 (by rw [hv4];unfold W128;have:=HBD.out.2;omega)
    rw [hv4,HWV2.out] at hnum
    have HNUM:=Lib.hid (And.intro hnum hu4)
    clear HP4 hu4 hl128 hs4 hb4 hv4 hnum
    go_wp2_with fail
    (with_reducible refine HNUM.out.1.mono ?_)
    rintro e w5 ⟨rfl,hu5⟩
    have hU5:Upd [] wl w5:=HNUM.out.2.trans hu5
    have hx5:=HXA.out.1.upd hU5 (by simp)
    have ho5:=HXA.out.2.1.upd hU5 (by simp)
    obtain ⟨y0,y1,yf⟩:=WdAt.cells hx5
    have yf0:=yf 0
    have yf1:=yf 1
    have H5:=Lib.hid (And.intro hx5 (And.intro ho5 (HXA.out.2.2.trans (hU5.mono (by simp)))))
    clear hu5 hU5 hx5 ho5 yf
    go_wp2_with fail
    go_roundg (64 - (i+1))
    case measure=>have:=HI.out;omega
    case rel=>
     refine ⟨i+1,by have:=HI.out;omega,by go_num,?_,?_,?_⟩
     ·rw [HPS.out]
      unfold W2At
      rw [HXH.out.1,HXH.out.2]
      exact (WdAt.set0 H5.out.1 dh).set1 dl
     ·rw [HOE.out]
      exact H5.out.2.1.upd (((Upd.refl [p+1] _).setCell (.inl (by simp)) _).setCell (.inl (by simp)) _) (by simp)
     ·exact (H5.out.2.2.setCell (.inl (by simp)) _).setCell (.inl (by simp)) _
   ·have HOE:=Lib.hid (show a*(b % 2 ^ (i+1))=O+X by rw [hms];simp)
    obtain ⟨oh,hoh⟩:∃x,O / 18446744073709551616=x:=⟨_,rfl⟩
    obtain ⟨ol,hol⟩:∃x,O % 18446744073709551616=x:=⟨_,rfl⟩
    obtain ⟨th,hth⟩:∃x,(O+X) / 18446744073709551616=x:=⟨_,rfl⟩
    obtain ⟨tl,htl⟩:∃x,(O+X) % 18446744073709551616=x:=⟨_,rfl⟩
    have had:∀w,Calls Tryz.prog 163 #[.agg #[.int .u64 (oh:Int),.int .u64 (ol:Int)],.agg #[.int .u64 (xh:Int),.int .u64 (xl:Int)]] w fun e w'=>e=.returned (.tuple #[.agg #[.int .u64 (th:Int),.int .u64 (tl:Int)],.bool true])∧Upd [] w w':=fun w=>by
     have:=raddWC O X (by unfold W128;have:=hbd.1;omega) w
     unfold SubPost wideV at this
     rw [hoh,hol,hth,htl,hxh,hxl'] at this
     exact this
    have HAD:=Lib.hid had
    have HTH:=Lib.hid (And.intro hth htl)
    have ho':WdAt wl (p+2) oh ol:=by rw [←hoh,←hol];exact ho
    obtain ⟨x0,x1,-⟩:=hx'.cells
    obtain ⟨v0,v1,-⟩:=ho'.cells
    have HXA:=Lib.hid (And.intro hx' (And.intro ho' hu))
    clear hx ho hu hbd hms hps hX hO hy hbit hxh hxl' hdh hdl hbx hx' hi had hoh hol hth htl ho'
    go_upto_region 7 with fail
    clear hbi hy1
    go_wp2_with fail
    (with_reducible refine (HAD.out _).mono ?_)
    rintro e w2 ⟨rfl,hu2⟩
    have hx2:=HXA.out.1.upd hu2 (by simp)
    have ho2:=HXA.out.2.1.upd hu2 (by simp)
    obtain ⟨v0',v1',vf⟩:=ho2.cells
    have vf0:=vf 0
    have vf1:=vf 1
    have H2:=Lib.hid (And.intro hx2 (And.intro ho2 (HXA.out.2.2.trans (hu2.mono (by simp)))))
    clear hx2 ho2 hu2 vf x0 x1 v0 v1
    go_upto_region 8 with fail
    have hoS:=(H2.out.2.1.set0 th).set1 tl
    have huS:Upd [p+2] w2 ((w2.setCell ⟨p+2,0,none⟩ (.int .u64 (th:Int))).setCell ⟨p+2,1,none⟩ (.int .u64 (tl:Int))):=((Upd.refl _ _).setCell (.inl (by simp)) _).setCell (.inl (by simp)) _
    have hxS:=H2.out.1.upd huS (by simp)
    have huT:=H2.out.2.2.trans (huS.mono (by simp))
    have hoS':W2At ((w2.setCell ⟨p+2,0,none⟩ (.int .u64 (th:Int))).setCell ⟨p+2,1,none⟩ (.int .u64 (tl:Int))) (p+2) (O+X):=by unfold W2At;rw [HTH.out.1,HTH.out.2];exact hoS
    generalize (w2.setCell ⟨p+2,0,none⟩ (.int .u64 (th:Int))).setCell ⟨p+2,1,none⟩ (.int .u64 (tl:Int))=WS at hoS huS hxS huT hoS' ⊢
    have HXB:=Lib.hid (And.intro hxS (And.intro hoS' huT))
    clear hoS huS hxS huT hoS' v0' v1' vf0 vf1
    have hxl:=lt_of_block HXB.out.1
    obtain ⟨x0,x1,-⟩:=WdAt.cells HXB.out.1
    have huA:Upd [] WS (WS.alloc (.cells #[.int .i64 0] 3)):=(Upd.refl _ _).alloc _
    have HBI:=Lib.hid (HBX.out (WS.alloc (.cells #[.int .i64 0] 3)))
    go_wp2_with fail
    (with_reducible refine HBI.out.mono ?_)
    rintro e w3 ⟨g,rfl,hg,hr,hu3⟩
    have hown:w3.ownsRow WS.heap.size 3 1 (.slice (some ⟨WS.heap.size,0,none⟩) 1 1) 1 [.int .i64 0]:=own_upd (World.ownsRow_lit (e:=3) (size:=1) (base:=WS.heap.size) WS #[.int .i64 0] 1 (Nat.le_refl _) (by decide) rfl) hu3 (by simp)
    have hsee:Sees w3 1 (.slice (some ⟨g,0,none⟩) 128 128) 128 (KN.all (bitsL X 128)):=by have h:=See.of_row hr;unfold See at h;rw [bitsL_len] at h;exact h
    obtain ⟨Ac,Cc,ca,sa,-⟩:=cut_to (P:=Tryz.prog) (t:=138) Tryz.underlying138 hi0 hz1 hsee 127 (by decide)
    have ca':∀w',(Instr.slice 138 (.slice (some ⟨g,0,none⟩) 128 128) none (some (.int .i64 127)) none).run Tryz.prog w'=.ok (.slice Ac 127 Cc) w':=ca
    have hsa:=sa w3 hsee
    have hkt:(KN.all (bitsL X 128)).take (127*1)=KN.all (bitsL X 127):=by
     have h:=(KN.all_take (bitsL X 128) 127).symm
     rw [bitsL_take X (by decide)] at h
     exact h
    rw [hkt] at hsa
    have hU3:Upd [] WS w3:=huA.trans hu3
    have HR3:=Lib.hid (And.intro hown (And.intro hsa hU3))
    clear hown hsee ca sa hsa hkt hg hr hu3 hU3 x0 x1 huA
    go_wp2_with (at_builtin;refine wpList_app _ rfl _ _ 138 rfl WS.heap.size 3 i0 (.int .i64 0) 1 8 Tryz.underlying138 hi0 hz0 hz1 hz2 rfl (by decide) _ 1 [.int .i64 0] rfl HR3.out.1 _ 127 (KN.all (bitsL X 127)) rfl HR3.out.2.1 (KN.all_one _) (by decide) (by decide) HR3.out.2.2.size ?_)
    intro A4 C4 w4 HP4
    have hu4:Upd [] WS w4:=HR3.out.2.2.trans' HP4.upd (fun y hy=>.inr (own_ge HR3.out.1 y hy))
    have hl128:(0::bitsL X 127).length=128:=by rw [List.length_cons,bitsL_len]
    have hs4:See KN w4 (.slice A4 128 C4) (0::bitsL X 127):=by
     have h:=sees_of_own HP4.own
     unfold See
     rw [hl128]
     exact h
    have hb4:Bits01 (0::bitsL X 127):=fun x hx=>by
     rcases List.mem_cons.1 hx with rfl | h
     ·omega
     ·exact bitsL_01 _ _ x h
    have hv4:valL (0::bitsL X 127)=2*X:=by rw [valL,bitsL_val,Nat.zero_add,Nat.mod_eq_of_lt (by have:=HBD.out.2;omega)]
    have hnum:=numberC (.slice A4 128 C4) _ w4 (by rw [←hl128] at hs4;rw [←hl128];exact hs4) (by rw [hl128];decide) hb4 (by rw [hv4];unfold W128;have:=HBD.out.2;omega)
    rw [hv4,HWV2.out] at hnum
    have HNUM:=Lib.hid (And.intro hnum hu4)
    clear HP4 hu4 hl128 hs4 hb4 hv4 hnum
    go_wp2_with fail
    (with_reducible refine HNUM.out.1.mono ?_)
    rintro e w5 ⟨rfl,hu5⟩
    have hU5:Upd [] WS w5:=HNUM.out.2.trans hu5
    have hx5:=HXB.out.1.upd hU5 (by simp)
    have ho5:=HXB.out.2.1.upd hU5 (by simp)
    obtain ⟨y0,y1,yf⟩:=WdAt.cells hx5
    have yf0:=yf 0
    have yf1:=yf 1
    have H5:=Lib.hid (And.intro hx5 (And.intro ho5 (HXB.out.2.2.trans (hU5.mono (by simp)))))
    clear hu5 hU5 hx5 ho5 yf
    go_wp2_with fail
    go_roundg (64 - (i+1))
    case measure=>have:=HI.out;omega
    case rel=>
     refine ⟨i+1,by have:=HI.out;omega,by go_num,?_,?_,?_⟩
     ·rw [HPS.out]
      unfold W2At
      rw [HXH.out.1,HXH.out.2]
      exact (WdAt.set0 H5.out.1 dh).set1 dl
     ·rw [HOE.out]
      exact H5.out.2.1.upd (((Upd.refl [p+1] _).setCell (.inl (by simp)) _).setCell (.inl (by simp)) _) (by simp)
     ·exact (H5.out.2.2.setCell (.inl (by simp)) _).setCell (.inl (by simp)) _
  ·have hi64:i=64:=by omega
   subst hi64
   have hv:a*(b % 2 ^ 64)=a*b:=by rw [Nat.mod_eq_of_lt (by have:=HAB.out.2;omega)]
   rw [hv] at ho
   obtain ⟨vh,hvh⟩:∃x,a*b / 18446744073709551616=x:=⟨_,rfl⟩
   obtain ⟨vl,hvl⟩:∃x,a*b % 18446744073709551616=x:=⟨_,rfl⟩
   have HWV:=Lib.hid (show wideV (a*b)=.agg #[.int .u64 (vh:Int),.int .u64 (vl:Int)] by unfold wideV;rw [hvh,hvl])
   have ho':WdAt wl (p+2) vh vl:=by rw [←hvh,←hvl];exact ho
   have hr:=HK.out.1.upd hu (by simp)
   obtain ⟨o0,o1,-⟩:=ho'.cells
   obtain ⟨r0,r1,rf⟩:=hr.cells
   have rf0:=rf 0
   have rf1:=rf 1
   have HE:=Lib.hid (And.intro hr (show Upd [] w wl from HK.out.2.2.2.trans' hu (fun y hy=>.inr (by have:=HP.out;simp at hy;omega))))
   clear hi hx ho hu hv hvh hvl ho' hr rf
   go_wp2_with fail
   obtain ⟨e0,e1,-⟩:=((HE.out.1.set0 vh).set1 vl).cells
   have HUE:=Lib.hid ((HE.out.2.setCell (p:=⟨p,0,none⟩) (.inr (by have:=HP.out;simp;omega)) (.int .u64 (vh:Int))).setCell (p:=⟨p,1,none⟩) (.inr (by have:=HP.out;simp;omega)) (.int .u64 (vl:Int)))
   generalize (wl.setCell ⟨p,0,none⟩ (.int .u64 (vh:Int))).setCell ⟨p,1,none⟩ (.int .u64 (vl:Int))=Wf at e0 e1 HUE ⊢
   exact bodyPost_ret (v:=wideV (a*b)) (by rw [HWV.out];simp [results,Tryz.results139,go_sem,e0,e1]) rfl ⟨rfl,HUE.out⟩
end Go.Proofs.YtkmnbodlciepaaaGreat
