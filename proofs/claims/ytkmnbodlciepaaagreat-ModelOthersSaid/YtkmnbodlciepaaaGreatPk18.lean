/- sort.order: which key stands ahead. sort.merged: two lists of places as one. sort.places, sort.ordered, sort.Order. -/
import Derived.Test.YtkmnbodlciepaaaGreatProg
import Derived.WalkKit
import Derived.Deep.Cut
import Derived.Deep.QuietTactic
import Derived.Deep.LoopGhost
import Derived.IntWalk
import Derived.Laws.MakeOwn
import Derived.Test.YtkmnbodlciepaaaGreatPk3
import Derived.Test.YtkmnbodlciepaaaGreatPk17
import Derived.Test.YtkmnbodlciepaaaGreatPk5
set_option maxHeartbeats 8000000
set_option maxRecDepth 100000
namespace Go.Proofs.YtkmnbodlciepaaaGreat
open Go.RowKit
def KK:Kind (Int×Nat):={ T:=0,sT:=135,eT:=137,sz:=2,enc:=fun x=>[.int .i64 x.1,.int .u32 (x.2:Int)],len:=fun _=>rfl,one:=fun x u hu=>by simp at hu;rcases hu with rfl | rfl<;>rfl }
def keyV (k:Int×Nat):Value:=.agg #[.int .i64 k.1,.int .u32 (k.2:Int)]
def cmpZ (a b:Int):Int:=if a<b then -1 else if b<a then 1 else 0
theorem isNan64 (x:Int) (w:World):Calls Tryz.prog 146 #[.int .i64 x] w fun e w'=>e=.returned (.bool false)∧w=w':=by
 have h:(x==x)=true:=by simp
 go_enter Tryz.func146,Tryz.ntmps146
 go_wp2_with fail
 go_ret
 exact ⟨rfl,rfl⟩
theorem isNan32 (x:Int) (w:World):Calls Tryz.prog 179 #[.int .u32 x] w fun e w'=>e=.returned (.bool false)∧w=w':=by
 have h:(x==x)=true:=by simp
 go_enter Tryz.func179,Tryz.ntmps179
 go_wp2_with fail
 go_ret
 exact ⟨rfl,rfl⟩
theorem compare64 (a b:Int) (w:World):Calls Tryz.prog 119 #[.int .i64 a,.int .i64 b] w fun e w'=>e=.returned (.int .i64 (cmpZ a b))∧w=w':=by
 unfold cmpZ
 by_cases h1:a<b
 ·rw [if_pos h1]
  go_enter Tryz.func119,Tryz.ntmps119
  go_wp2_with ((with_reducible refine (isNan64 _ _).mono ?_);rintro e w' ⟨rfl,rfl⟩)
  go_ret
  exact ⟨rfl,rfl⟩
 ·rw [if_neg h1]
  by_cases h2:b<a
  ·rw [if_pos h2]
   go_enter Tryz.func119,Tryz.ntmps119
   go_wp2_with ((with_reducible refine (isNan64 _ _).mono ?_);rintro e w' ⟨rfl,rfl⟩)
   go_ret
   exact ⟨rfl,rfl⟩
  ·rw [if_neg h2]
   go_enter Tryz.func119,Tryz.ntmps119
   go_wp2_with ((with_reducible refine (isNan64 _ _).mono ?_);rintro e w' ⟨rfl,rfl⟩)
   go_ret
   exact ⟨rfl,rfl⟩
theorem compare32 (a b:Int) (w:World):Calls Tryz.prog 148 #[.int .u32 a,.int .u32 b] w fun e w'=>e=.returned (.int .i64 (cmpZ a b))∧w=w':=by
 unfold cmpZ
 by_cases h1:a<b
 ·rw [if_pos h1]
  go_enter Tryz.func148,Tryz.ntmps148
  go_wp2_with ((with_reducible refine (isNan32 _ _).mono ?_);rintro e w' ⟨rfl,rfl⟩)
  go_ret
  exact ⟨rfl,rfl⟩
 ·rw [if_neg h1]
  by_cases h2:b<a
  ·rw [if_pos h2]
   go_enter Tryz.func148,Tryz.ntmps148
   go_wp2_with ((with_reducible refine (isNan32 _ _).mono ?_);rintro e w' ⟨rfl,rfl⟩)
   go_ret
   exact ⟨rfl,rfl⟩
  ·rw [if_neg h2]
   go_enter Tryz.func148,Tryz.ntmps148
   go_wp2_with ((with_reducible refine (isNan32 _ _).mono ?_);rintro e w' ⟨rfl,rfl⟩)
   go_ret
   exact ⟨rfl,rfl⟩
def orZ (a b:Int):Int:=if a=0 then b else a
theorem orC (q:Nat) (a b:Int) (w:World) (c0:w.cell? ⟨q,0,none⟩=some (.int .i64 a)) (c1:w.cell? ⟨q,1,none⟩=some (.int .i64 b)) :
 Calls Tryz.prog 208 #[.slice (some ⟨q,0,none⟩) 2 2] w fun e w'=>e=.returned (.int .i64 (orZ a b))∧Upd [] w w':=by
 obtain ⟨r,hr⟩:∃r,orZ a b=r:=⟨_,rfl⟩
 have ha:a≠0→r=a:=fun h=>by rw [←hr];unfold orZ;rw [if_neg h]
 have hb:a=0→r=b:=fun h=>by rw [←hr];unfold orZ;rw [if_pos h]
 rw [hr]
 have HA:=Lib.hid ha
 have HB:=Lib.hid hb
 clear ha hb hr
 go_enter Tryz.func208,Tryz.ntmps208
 go_wp2_with fail
 go_loopg [8] 2 (fun m s8 wr=>∃k,m+k=2∧s8=.int .i64 (k:Int)∧(0<k→a=0)∧(1<k→b=0)∧wr=w)
 case atStart=>exact ⟨0,rfl,rfl,by simp,by simp,rfl⟩
 case round=>
  obtain ⟨k,hk,rfl,h0,h1,rfl⟩:=hrel
  rcases (by omega:k=0∨k=1∨k=2) with rfl | rfl | rfl
  ·have HK:=Lib.hid hk
   clear h0 h1 hk
   by_cases hz:a=0
   ·have z1:(a==0)=true:=by simpa using hz
    have HZ:=Lib.hid hz
    clear hz
    go_wp2_with fail
    go_roundg 1
    case measure=>have:=HK.out;omega
    case rel=>exact ⟨1,by omega,by first | rfl | go_num,fun _=>HZ.out,fun h=>by omega,rfl⟩
   ·have z1:(a==0)=false:=by simpa using hz
    have HZ:=Lib.hid hz
    clear hz
    go_wp2_with fail
    go_ret
    exact ⟨by rw [HA.out HZ.out];rfl,Upd.refl _ _⟩
  ·have HK:=Lib.hid hk
   have HZ:=Lib.hid (h0 (by omega))
   clear h0 h1 hk
   by_cases hz:b=0
   ·have z1:(b==0)=true:=by simpa using hz
    have HZ2:=Lib.hid hz
    clear hz
    go_wp2_with fail
    go_roundg 0
    case measure=>have:=HK.out;omega
    case rel=>exact ⟨2,by omega,by first | rfl | go_num,fun _=>HZ.out,fun _=>HZ2.out,rfl⟩
   ·have z1:(b==0)=false:=by simpa using hz
    clear hz
    go_wp2_with fail
    go_ret
    exact ⟨by rw [HB.out HZ.out];rfl,Upd.refl _ _⟩
  ·have HZ:=Lib.hid (h0 (by omega))
   have HZ2:=Lib.hid (h1 (by omega))
   clear h0 h1 hk
   go_wp2_with fail
   go_ret
   exact ⟨by rw [HB.out HZ.out,HZ2.out];rfl,Upd.refl _ _⟩
def ordZ (x y:Int×Nat):Int:=orZ (cmpZ x.1 y.1) (cmpZ x.2 y.2)
def ahead (x y:Int×Nat):Bool:=decide (ordZ x y<0)
theorem ahead_iff (x y:Int×Nat):ahead x y=true↔x.1<y.1∨(x.1=y.1∧x.2<y.2):=by
 unfold ahead ordZ orZ cmpZ
 simp only [decide_eq_true_eq]
 split<;>split<;>(try split)<;>(try split)<;>omega
theorem orderC (x y:Int×Nat) (w:World):Calls Tryz.prog 183 #[keyV x,keyV y] w fun e w'=>e=.returned (.int .i64 (ordZ x y))∧Upd [] w w':=by
 obtain ⟨a,i⟩:=x
 obtain ⟨b,j⟩:=y
 unfold keyV ordZ
 dsimp only
 have ha:=fun w=>compare64 a b w
 have hb:=fun w=>compare32 (i:Int) (j:Int) w
 obtain ⟨r,hr⟩:∃r,cmpZ a b=r:=⟨_,rfl⟩
 obtain ⟨s,hs⟩:∃s,cmpZ (i:Int) (j:Int)=s:=⟨_,rfl⟩
 simp only [hr] at ha
 simp only [hs] at hb
 rw [hr,hs]
 obtain ⟨i',hi⟩:∃i':Int,(i:Int)=i':=⟨_,rfl⟩
 obtain ⟨j',hj⟩:∃j':Int,(j:Int)=j':=⟨_,rfl⟩
 rw [hi,hj] at hb ⊢
 have hu:Upd [] w ((w.alloc (.cells #[.int .i64 a,.int .u32 i'] 137)).alloc (.cells #[.int .i64 b,.int .u32 j'] 137)):=((Upd.refl _ _).alloc _).alloc _
 have hp:∀k,((w.alloc (.cells #[.int .i64 a,.int .u32 i'] 137)).alloc (.cells #[.int .i64 b,.int .u32 j'] 137)).cell? ⟨w.heap.size,k,none⟩=#[Value.int .i64 a,.int .u32 i'][k]?:=fun k=>by
  rw [World.cell?_alloc_past _ _ _ (by simp),World.cell?_alloc_at _ _ _ _ rfl]
 have hq:∀k,((w.alloc (.cells #[.int .i64 a,.int .u32 i'] 137)).alloc (.cells #[.int .i64 b,.int .u32 j'] 137)).cell? ⟨w.heap.size+1,k,none⟩=#[Value.int .i64 b,.int .u32 j'][k]?:=fun k=>World.cell?_alloc_at _ _ _ _ (by simp)
 have p0:=hp 0
 have p1:=hp 1
 have q0:=hq 0
 have q1:=hq 1
 simp only [List.getElem?_toArray,List.getElem?_cons_zero,List.getElem?_cons_succ] at p0 p1 q0 q1
 have HU:=Lib.hid hu
 have HA:=Lib.hid ha
 have HB:=Lib.hid hb
 have HOR:=Lib.hid (show ∀w:World,Calls Tryz.prog 208 #[.slice (some ⟨w.heap.size,0,none⟩) 2 2] (w.alloc (.cells #[.int .i64 r,.int .i64 s] 3)) fun e w'=>e=.returned (.int .i64 (orZ r s))∧Upd [] (w.alloc (.cells #[.int .i64 r,.int .i64 s] 3)) w' from fun w=>orC w.heap.size r s _ (by rw [World.cell?_alloc_at _ _ _ _ rfl];rfl) (by rw [World.cell?_alloc_at _ _ _ _ rfl];rfl))
 clear hp hq hu ha hb hr hs hi hj
 go_enter Tryz.func183,Tryz.ntmps183
 go_upto_region 1 with fail
 generalize ((w.alloc (.cells #[.int .i64 a,.int .u32 i'] 137)).alloc (.cells #[.int .i64 b,.int .u32 j'] 137))=W at p0 p1 q0 q1 HU ⊢
 generalize w.heap.size=p at p0 p1 q0 q1 ⊢
 have HC:=Lib.hid (show W.drew.cell? ⟨p,0,none⟩=some (.int .i64 a)∧W.drew.cell? ⟨p,1,none⟩=some (.int .u32 i')∧W.drew.cell? ⟨p+1,0,none⟩=some (.int .i64 b)∧W.drew.cell? ⟨p+1,1,none⟩=some (.int .u32 j') from ⟨p0,p1,q0,q1⟩)
 clear p0 p1 q0 q1
 obtain ⟨Wd,hWd⟩:∃Wd,Wd=W.drew:=⟨_,rfl⟩
 have HUd:=Lib.hid (show Upd [] w Wd by rw [hWd];exact HU.out.drew)
 refine GoT.start [9,10,11,12] (fun w'=>w'.cell? ⟨p,0,none⟩=some (.int .i64 a)∧w'.cell? ⟨p,1,none⟩=some (.int .u32 i')∧w'.cell? ⟨p+1,0,none⟩=some (.int .i64 b)∧w'.cell? ⟨p+1,1,none⟩=some (.int .u32 j')) (by kernel_rfl) ?_ fun hS=>?_
 ·exact HC.out
 rw [←hWd] at hS ⊢
 clear hWd
 refine' GoT.mv (i:=0) (oi:=⟨some 5,_,_,_,_,_⟩) rfl (by rfl) ?y1_0 ?_
 case y1_0=>intro w;go_simp<;>with_reducible rfl
 simp only [Act.put,sA,sZ,sS]
 refine' GoT.tk 3 (i:=1) (oi:=⟨some 6,_,_,_,_,_⟩) rfl (by rfl) ?y1_1 ?_
 case y1_1=>intro w hSw;go_simp<;>with_reducible rfl
 simp only [Act.put,sA,sZ,sS]
 refine' GoT.mv (i:=2) (oi:=⟨some 7,_,_,_,_,_⟩) rfl (by rfl) ?y1_2 ?_
 case y1_2=>intro w;go_simp<;>with_reducible rfl
 simp only [Act.put,sA,sZ,sS]
 refine' GoT.tk 3 (i:=3) (oi:=⟨some 8,_,_,_,_,_⟩) rfl (by rfl) ?y1_3 ?_
 case y1_3=>intro w hSw;go_simp<;>with_reducible rfl
 simp only [Act.put,sA,sZ,sS]
 refine' GoT.mv (i:=5) (oi:=⟨some 10,_,_,_,_,_⟩) rfl (by rfl) ?y1_5 ?_
 case y1_5=>intro w;go_simp<;>with_reducible rfl
 simp only [Act.put,sA,sZ,sS]
 refine' GoT.tk 3 (i:=6) (oi:=⟨some 11,_,_,_,_,_⟩) rfl (by rfl) ?y1_6 ?_
 case y1_6=>intro w hSw;go_simp<;>with_reducible rfl
 simp only [Act.put,sA,sZ,sS]
 refine' GoT.mv (i:=7) (oi:=⟨some 12,_,_,_,_,_⟩) rfl (by rfl) ?y1_7 ?_
 case y1_7=>intro w;go_simp<;>with_reducible rfl
 simp only [Act.put,sA,sZ,sS]
 refine' GoT.tk 3 (i:=8) (oi:=⟨some 13,_,_,_,_,_⟩) rfl (by rfl) ?y1_8 ?_
 case y1_8=>intro w hSw;go_simp<;>with_reducible rfl
 simp only [Act.put,sA,sZ,sS]
 refine GoT.one (i:=4) (o:=⟨some 9,_,_,_,_,_⟩) rfl (by kernel_rfl) fun K hK=>?_
 go_simp
 go_at_call 119
 (with_reducible refine (HA.out _).mono ?_)
 rintro e w' ⟨rfl,rfl⟩
 refine hK.out _ _ (fun _ h=>?_) ?_
 ·exact h
 clear hK K
 try simp only [Act.put,sA,sZ,sS]
 refine GoT.one (i:=9) (o:=⟨some 14,_,_,_,_,_⟩) rfl (by kernel_rfl) fun K hK=>?_
 go_simp
 go_at_call 148
 (with_reducible refine (HB.out _).mono ?_)
 rintro e w' ⟨rfl,rfl⟩
 refine hK.out _ _ (fun h=>(by cases h)) ?_
 clear hK K
 try simp only [Act.put,sA,sZ,sS]
 refine GoT.one (i:=10) (o:=⟨some 15,_,_,_,_,_⟩) rfl (by kernel_rfl) fun K hK=>?_
 go_simp
 refine hK.out _ _ (fun h=>(by cases h)) ?_
 clear hK K
 try simp only [Act.put,sA,sZ,sS]
 refine GoT.one (i:=11) (o:=⟨some 16,_,_,_,_,_⟩) rfl (by kernel_rfl) fun K hK=>?_
 go_simp
 go_at_call 208
 (with_reducible refine (HOR.out _).mono ?_)
 rintro e w5 ⟨rfl,hu5⟩
 refine hK.out _ _ (fun h=>(by cases h)) ?_
 clear hK K
 try simp only [Act.put,sA,sZ,sS]
 have HU5:=Lib.hid hu5
 clear hu5
 refine' GoT.mv (i:=12) (oi:=⟨some 4,_,_,_,_,_⟩) rfl (by rfl) ?y1_12 ?_
 case y1_12=>intro w;go_simp<;>with_reducible rfl
 simp only [Act.put,sA,sZ,sS]
 refine GoT.done (by kernel_rfl) ?_
 go_wp2_with fail
 go_ret
 exact ⟨rfl,(HUd.out.alloc _).trans HU5.out⟩
theorem keepTwo {w w':World} {a1 a2:Addr} {v1 v2:Value} (h:w.cell? a1=some v1∧w.cell? a2=some v2) (hu:Upd [] w w'):w'.cell? a1=some v1∧w'.cell? a2=some v2:=by
 have e:∀{a:Addr} {v:Value},w.cell? a=some v→w'.cell? a=some v:=fun {a v} ha=>(hu.cell (World.block_lt_of_cell? w _ ha) (by simp)).trans ha
 exact ⟨e h.1,e h.2⟩
def kf (K:List (Int×Nat)) (i:Nat):Int×Nat:=K[i]?.getD (0,0)
def leP (K:List (Int×Nat)) (i j:Nat):Bool:=!ahead (kf K j) (kf K i)
theorem kf_get {K:List (Int×Nat)} {i:Nat} (h:i<K.length):K[i]? = some (kf K i):=by
 unfold kf
 rw [List.getElem?_eq_getElem h];rfl
theorem leP_trans (K:List (Int×Nat)) (a b c:Nat):leP K a b=true→leP K b c=true→leP K a c=true:=by
 unfold leP
 simp only [Bool.not_eq_true',←Bool.not_eq_true,ahead_iff]
 omega
theorem leP_total (K:List (Int×Nat)) (a b:Nat):(leP K a b||leP K b a)=true:=by
 unfold leP
 rw [Bool.or_eq_true]
 simp only [Bool.not_eq_true',←Bool.not_eq_true,ahead_iff]
 omega
theorem KN.at {w:World} {A:Option Addr} {n C:Nat} {l:List Nat} (h:See KN w (.slice A n C) l) {k:Nat} {x:Nat} (hx:l[k]? = some x) :
 ∃b o,A=some ⟨b,o,none⟩∧n≤C∧C≤maxLen∧w.cell? ⟨b,o+k,none⟩=some (.int .i64 (x:Int)):=by
 obtain ⟨b,o,h1,h2,h3,h4⟩:=h.at hx
 have:=h4 0 _ rfl
 exact ⟨b,o,h1,h2,h3,by simpa [KN] using this⟩
theorem KK.at {w:World} {A:Option Addr} {n C:Nat} {l:List (Int×Nat)} (h:See KK w (.slice A n C) l) {k:Nat} {x:Int×Nat} (hx:l[k]? = some x) :
 ∃b o,A=some ⟨b,o,none⟩∧n≤C∧C≤maxLen∧w.cell? ⟨b,o+k*2,none⟩=some (.int .i64 x.1)∧w.cell? ⟨b,o+k*2+1,none⟩=some (.int .u32 (x.2:Int)):=by
 obtain ⟨b,o,h1,h2,h3,h4⟩:=h.at hx
 exact ⟨b,o,h1,h2,h3,h4 0 _ rfl,h4 1 _ rfl⟩
theorem keyFn (vk:Value) (K:List (Int×Nat)) (pk i:Nat) (w:World) (hc:w.cell? ⟨pk,0,none⟩=some vk) (hs:See KK w vk K) (hi:i<K.length) :
 Calls Tryz.prog 129 #[.int .i64 (i:Int),.pointer (some ⟨pk,0,none⟩)] w fun e w'=>e=.returned (keyV (kf K i))∧Upd [] w w':=by
 obtain ⟨A,C,rfl⟩:=hs.form
 obtain ⟨g,o,hA,-,-,c0,c1⟩:=KK.at hs (kf_get hi)
 subst hA
 obtain ⟨x,hx⟩:∃x,kf K i=x:=⟨_,rfl⟩
 rw [hx] at c0 c1 ⊢
 obtain ⟨a,j⟩:=x
 unfold keyV
 dsimp only at c0 c1 ⊢
 have b0:(0:Int)≤(i:Int):=Int.natCast_nonneg _
 have b1:(i:Int)<(K.length:Int):=by omega
 have hu1:Upd [] w (w.alloc (.cells #[.int .i64 0,.int .u32 0] 137)):=(Upd.refl _ _).alloc _
 have d0:=(hu1.cell (p:=⟨pk,0,none⟩) (World.block_lt_of_cell? w _ hc) (by simp)).trans hc
 have d1:=(hu1.cell (p:=⟨g,o+i*2,none⟩) (World.block_lt_of_cell? w _ c0) (by simp)).trans c0
 have d2:=(hu1.cell (p:=⟨g,o+i*2+1,none⟩) (World.block_lt_of_cell? w _ c1) (by simp)).trans c1
 clear hu1
 clear hs hi hx
 go_enter Tryz.func129,Tryz.ntmps129
 go_wp2_with fail
 exact bodyPost_ret (v:=.agg #[.int .i64 a,.int .u32 (j:Int)]) (by simp [results,Tryz.results129,go_sem]) rfl ⟨rfl,(Upd.refl _ _).alloc _⟩
theorem KN_tail {w:World} {A:Option Addr} {n C:Nat} {x:Nat} {l:List Nat} (h:See KN w (.slice A n C) (x::l)) :
 ∃A' C',(∀w',(Instr.slice 138 (.slice A n C) (some (.int .i64 1)) none none).run Tryz.prog w'=.ok (.slice A' l.length C') w')∧See KN w (.slice A' l.length C') l∧n=l.length+1:=by
 obtain ⟨A0,C0,e⟩:=h.form
 injection e with e1 e2 e3
 subst e1 e3
 have e2':n=l.length+1:=by simpa using e2
 obtain ⟨i1,hi1,hy0,hy1,hy2⟩:=info_parts (show (Tryz.prog.info? 3).map (fun i=>(i.zero,i.size,i.bytes))=some (some (.int .i64 0),1,8) by kernel_rfl)
 have h':Sees w 1 (.slice A n C) n (KN.all (x::l)):=by
  have h2:=h
  unfold See at h2
  rw [List.length_cons,←e2'] at h2
  exact h2
 obtain ⟨A',C',r1,r2,r3⟩:=cut_from (P:=Tryz.prog) Tryz.underlying138 hi1 hy1 h' 1 (by omega)
 rw [e2',Nat.add_sub_cancel] at r1 r2
 refine ⟨A',C',fun w'=>by rw [e2'];exact r1 w',?_,e2'⟩
 have:=r2 w (by rw [←e2'];exact h')
 exact this
def MrgPost (w:World) (M:List Nat) (n:Nat) (e:Ending) (w':World):Prop:=∃A C,e=.returned (.tuple #[.slice A n C,.int .i64 (n:Int)])∧See KN w' (.slice A n C) M∧Upd [] w w'∧∀k∈blk (.slice A n C),w.heap.size≤k
theorem info_intS:(Tryz.prog.info? 3).map (fun i=>(i.zero,i.size,i.bytes))=some (some (.int .i64 0),1,8):=by kernel_rfl
theorem mergedC (vk va0 vb0:Value) (K:List (Int×Nat)) (pk:Nat) (a b:List Nat) (w:World) (hc:w.cell? ⟨pk,0,none⟩=some vk) (hK:See KK w vk K) (ha:See KN w va0 a) (hb:See KN w vb0 b)
 (ia:∀i∈a,i<K.length) (ib:∀i∈b,i<K.length) (hn:a.length+b.length<10000000) :
 Calls Tryz.prog 153 #[.func (.func 129) #[] #[.pointer (some ⟨pk,0,none⟩)],va0,vb0] w (MrgPost w (List.merge a b (leP K)) (a.length+b.length)):=by
 obtain ⟨i1,hi1,hy0,hy1,hy2⟩:=info_parts info_intS
 obtain ⟨Aa,Ca,rfl⟩:=ha.form
 obtain ⟨Ab,Cb,rfl⟩:=hb.form
 unfold MrgPost
 obtain ⟨n,hnn⟩:∃n,a.length+b.length=n:=⟨_,rfl⟩
 rw [hnn] at hn ⊢
 obtain ⟨W0,hW0⟩:∃W0,((w.alloc (.cells #[.slice Aa a.length Ca] 138)).alloc (.cells #[.slice Ab b.length Cb] 138))=W0:=⟨_,rfl⟩
 have hu0:Upd [] w W0:=by rw [←hW0];exact ((Upd.refl _ _).alloc _).alloc _
 have h4:W0.heap[w.heap.size]? = some (.cells #[.slice Aa a.length Ca] 138 (0,0)):=by rw [←hW0,Below.heap_alloc _ _ _ (by simp),heap_alloc_new]
 have h5:W0.heap[w.heap.size+1]? = some (.cells #[.slice Ab b.length Cb] 138 (0,0)):=by
  rw [←hW0]
  have:=heap_alloc_new (w.alloc (.cells #[.slice Aa a.length Ca] 138)) (.cells #[.slice Ab b.length Cb] 138)
  simpa using this
 obtain ⟨p,hp⟩:∃p,w.heap.size=p:=⟨_,rfl⟩
 rw [hp] at h4 h5
 obtain ⟨B,hB⟩:∃B,W0.heap.size=B:=⟨_,rfl⟩
 have hpB:p+1<B:=by rw [←hB];exact lt_of_block h5
 obtain ⟨w1,hmk,hrow,hg⟩:=run_make_own (P:=Tryz.prog) W0 B 138 3 i1 (.int .i64 0) 1 Tryz.underlying138 hi1 hy0 hy1 .i64 .i64 n (by rw [hy2];omega) (by unfold maxLen;omega) (by omega)
 have hmk':(Instr.makeSlice 138 (.int .i64 0) (.int .i64 ((a.length:Int)+(b.length:Int)))).run Tryz.prog W0=.ok (.slice (some ⟨W0.heap.size,0,none⟩) 0 n) w1:=by
  have e:(a.length:Int)+(b.length:Int)=(n:Int):=by omega
  rw [e];exact hmk
 have hu1:Upd [] W0 w1:=(Upd.refl _ _).grown hg (by simp)
 have c4:W0.cell? ⟨p,0,none⟩=some (.slice Aa a.length Ca):=by simp [World.cell?,h4]
 have c5:W0.cell? ⟨p+1,0,none⟩=some (.slice Ab b.length Cb):=by simp [World.cell?,h5]
 have la:(a.length:Int)≤10000000:=by omega
 have lb:(b.length:Int)≤10000000:=by omega
 have k4:=(hu1.block p (lt_of_block h4) (by simp)).trans h4
 have k5:=(hu1.block (p+1) (lt_of_block h5) (by simp)).trans h5
 have hpk:pk<w.heap.size:=World.block_lt_of_cell? w _ hc
 have HKF:=Lib.hid (show ∀(wz:World),Upd [] w wz→∀i,i<K.length→Calls Tryz.prog 129 #[.int .i64 (i:Int),.pointer (some ⟨pk,0,none⟩)] wz fun e w'=>e=.returned (keyV (kf K i))∧Upd [] wz w' from fun wz hu i hi=>keyFn vk K pk i wz ((hu.cell (p:=⟨pk,0,none⟩) hpk (by simp)).trans hc) (hK.upd0 hu) hi)
 have HST:=Lib.hid (show KN.row w1 B (.slice (some ⟨W0.heap.size,0,none⟩) 0 n) [] from hrow)
 have HU1:=Lib.hid (hu0.trans hu1)
 have HK45:=Lib.hid (And.intro k4 k5)
 have HBB:=Lib.hid (show w.heap.size≤B∧B≤w1.heap.size∧p+1<B∧w.heap.size=p from ⟨by rw [←hB];exact hu0.size,by rw [←hB];exact hu1.size,hpB,hp⟩)
 have HAB:=Lib.hid (And.intro ha hb)
 have HII:=Lib.hid (And.intro ia ib)
 have HN:=Lib.hid (And.intro hnn hn)
 have HWE:=Lib.hid (And.intro hW0 hp)
 have HMK:=Lib.hid hmk'
 have HCC:=Lib.hid (And.intro c4 c5)
 clear hmk hrow hg hu0 hu1 h4 h5 k4 k5 hpk hpB ha hb ia ib hK hc hn hmk' c4 c5 hnn hB hp hW0
 go_enter Tryz.func153,Tryz.ntmps153
 go_upto_region 1 with fail
 rw [HWE.out.1,HWE.out.2]
 have hmk':=HMK.out
 obtain ⟨c4,c5⟩:=HCC.out
 go_wp2_with fail
 clear hmk' c4 c5
 go_loopg [8] n (fun m s8 wr=>∃(xs ys ps:List Nat) (A C:_) (Ax Cx Ay Cy:_),m=xs.length+ys.length∧s8=.slice A ps.length C∧KN.row wr B (.slice A ps.length C) ps∧List.merge a b (leP K)=ps++List.merge xs ys (leP K)∧ps.length+xs.length+ys.length=n∧
  wr.heap[p]? = some (.cells #[.slice Ax xs.length Cx] 138 (0,0))∧wr.heap[p+1]? = some (.cells #[.slice Ay ys.length Cy] 138 (0,0))∧See KN w (.slice Ax xs.length Cx) xs∧See KN w (.slice Ay ys.length Cy) ys∧(∀i∈xs,i<K.length)∧(∀i∈ys,i<K.length)∧Upd [] w wr∧B≤wr.heap.size)
 case atStart=>exact ⟨a,b,[],_,_,Aa,Ca,Ab,Cb,HN.out.1.symm,rfl,HST.out,rfl,by have:=HN.out.1;simp;omega,HK45.out.1,HK45.out.2,HAB.out.1,HAB.out.2,HII.out.1,HII.out.2,HU1.out,HBB.out.2.1⟩
 case round=>
  obtain ⟨xs,ys,ps,A,C,Ax,Cx,Ay,Cy,hm,rfl,hrow,hmg,hln,h4,h5,hsa,hsb,ia,ib,hu,hbs⟩:=hrel
  have c4:wr.cell? ⟨p,0,none⟩=some (.slice Ax xs.length Cx):=by simp [World.cell?,h4]
  have c5:wr.cell? ⟨p+1,0,none⟩=some (.slice Ay ys.length Cy):=by simp [World.cell?,h5]
  have HLEN2:=Lib.hid hln
  have HLEN:=Lib.hid (show ps.length+xs.length+ys.length<10000000 by have:=HN.out;omega)
  have HSA:=Lib.hid hsa
  have HSB:=Lib.hid hsb
  have HU:=Lib.hid hu
  have HROW0:=Lib.hid hrow
  have HMG0:=Lib.hid hmg
  have H45:=Lib.hid (And.intro h4 h5)
  have HIX:=Lib.hid (And.intro ia ib)
  have HM:=Lib.hid hm
  have HBS0:=Lib.hid hbs
  clear hln hsa hsb hu hrow hmg h4 h5 ia ib hm hbs
  by_cases h1:0<xs.length
  ·have g1:decide (0<xs.length)=true:=decide_eq_true h1
   have g1':(0:Int)<(xs.length:Int):=by omega
   by_cases h2:0<ys.length
   ·have g2:decide (0<ys.length)=true:=decide_eq_true h2
    have g2':(0:Int)<(ys.length:Int):=by omega
    obtain ⟨x,xs',rfl⟩:∃x xs',xs=x::xs':=by cases xs with | nil=>simp at h1 | cons x xs=>exact ⟨x,xs,rfl⟩
    obtain ⟨y,ys',rfl⟩:∃y ys',ys=y::ys':=by cases ys with | nil=>simp at h2 | cons y ys=>exact ⟨y,ys,rfl⟩
    obtain ⟨gx,ox,hAx,-,-,fx⟩:=KN.at (HSA.out.upd0 HU.out) (k:=0) (x:=x) rfl
    obtain ⟨gy,oy,hAy,-,-,fy⟩:=KN.at (HSB.out.upd0 HU.out) (k:=0) (x:=y) rfl
    rw [Nat.add_zero] at fx fy
    subst hAx hAy
    obtain ⟨Ax',Cx',tx,sx,-⟩:=KN_tail HSA.out
    obtain ⟨Ay',Cy',ty,sy,-⟩:=KN_tail HSB.out
    have HTX:=Lib.hid (And.intro tx sx)
    have HTY:=Lib.hid (And.intro ty sy)
    obtain ⟨nx,hnx⟩:∃m,(x::xs').length=m:=⟨_,rfl⟩
    obtain ⟨ny,hny⟩:∃m,(y::ys').length=m:=⟨_,rfl⟩
    rw [hnx] at c4 g1 g1' H45 HTX
    rw [hny] at c5 g2 g2' H45 HTY
    have HNX:=Lib.hid (And.intro hnx hny)
    clear tx sx ty sy h1 h2 hnx hny
    have q4:∀z:QW wr,z.w.cell? ⟨p,0,none⟩=some (.slice (some ⟨gx,ox,none⟩) nx Cx):=fun z=>(z.up.cell (p:=⟨p,0,none⟩) (World.block_lt_of_cell? wr _ c4) (by simp)).trans c4
    have q5:∀z:QW wr,z.w.cell? ⟨p+1,0,none⟩=some (.slice (some ⟨gy,oy,none⟩) ny Cy):=fun z=>(z.up.cell (p:=⟨p+1,0,none⟩) (World.block_lt_of_cell? wr _ c5) (by simp)).trans c5
    have q6:∀z:QW wr,z.w.cell? ⟨gx,ox,none⟩=some (.int .i64 (x:Int)):=fun z=>(z.up.cell (p:=⟨gx,ox,none⟩) (World.block_lt_of_cell? wr _ fx) (by simp)).trans fx
    have q7:∀z:QW wr,z.w.cell? ⟨gy,oy,none⟩=some (.int .i64 (y:Int)):=fun z=>(z.up.cell (p:=⟨gy,oy,none⟩) (World.block_lt_of_cell? wr _ fy) (by simp)).trans fy
    have k1:=fun (z:QW wr)=>HKF.out z.w (HU.out.trans z.up) y (HIX.out.2 y (by simp))
    have k2:=fun (z:QW wr)=>HKF.out z.w (HU.out.trans z.up) x (HIX.out.1 x (by simp))
    have k3:=fun (z:QW wr)=>orderC (kf K y) (kf K x) z.w
    have hle:leP K x y = !ahead (kf K y) (kf K x):=rfl
    unfold ahead at hle
    unfold keyV at k1 k2 k3
    obtain ⟨ry,hry⟩:∃r,kf K y=r:=⟨_,rfl⟩
    obtain ⟨rx,hrx⟩:∃r,kf K x=r:=⟨_,rfl⟩
    simp only [hry,hrx] at k1 k2 k3 hle
    obtain ⟨od,hod⟩:∃r,ordZ ry rx=r:=⟨_,rfl⟩
    simp only [hod] at k3
    rw [hod] at hle
    obtain ⟨c,hc⟩:∃c,decide (od<0)=c:=⟨_,rfl⟩
    rw [hc] at hle
    have HK1:=Lib.hid k1
    have HK2:=Lib.hid k2
    have HK3:=Lib.hid k3
    have HLE:=Lib.hid hle
    clear k1 k2 k3 hle hry hrx hod fx fy
    cases c
    ·go_upto_region 4 with fail
     clear c4 c5
     refine wp_region_quietU (by kernel_rfl) (by kernel_rfl) ?_
     repeat (go_big_quiet_step (first | (with_reducible exact Calls.quietU (HK1.out _)) | (with_reducible exact Calls.quietU (HK2.out _)) | (with_reducible exact Calls.quietU (HK3.out _))))
     refine wpQuiet_nil ?_
     intro wq hw'
     obtain ⟨⟨wy,hwq⟩,hw''⟩:=hw'
     dsimp only at hw''
     subst hw''
     have HUQ:=Lib.hid hwq
     have e4:=q4 ⟨wq,hwq⟩
     have e5:=q5 ⟨wq,hwq⟩
     have e6:=q6 ⟨wq,hwq⟩
     have e7:=q7 ⟨wq,hwq⟩
     dsimp only at e4 e5 e6 e7
     have HEQ:=Lib.hid (And.intro e4 e5)
     have hrq:KN.row wq B (.slice A ps.length C) ps:=own_upd HROW0.out hwq (by simp)
     have HRQ:=Lib.hid hrq
     have HBQ:=Lib.hid (show B≤wq.heap.size from Nat.le_trans HBS0.out hwq.size)
     have g1:(0:Int)<(nx:Int):=by assumption
     clear q4 q5 q6 q7 hwq hrq
     go_wp2_with (at_builtin;refine wpList_app _ rfl _ _ 138 rfl B 3 i1 (.int .i64 0) 1 8 Tryz.underlying138 hi1 hy0 hy1 hy2 rfl (by decide) _ _ _ rfl (own_upd HRQ.out ((Upd.refl [] _).alloc _) (by simp)) _ 1 [.int .i64 (x:Int)] rfl (sees_lit wq #[.int .i64 (x:Int)] 3 1 1 rfl (by decide)) (by simp [Value.oneCell']) (by have:=HLEN.out;unfold maxLen;omega) (by have:=HLEN.out;omega) (by have:=HBQ.out;simp;omega) ?_)
     intro A6 C6 w6 HP
     have hrow6:KN.row w6 B (.slice A6 (ps.length+1) C6) (ps++[x]):=by
      have:=HP.own
      unfold Kind.row
      rw [Kind.all_app,List.length_append]
      exact this
     have hu6:Upd (blk (.slice A ps.length C)) wq w6:=((Upd.refl _ _).alloc _).trans HP.upd
     have hpn:p∉blk (.slice A ps.length C)∧p+1∉blk (.slice A ps.length C):=⟨fun h=>by have:=own_ge HROW0.out _ h;have:=HBB.out;omega,fun h=>by have:=own_ge HROW0.out _ h;have:=HBB.out;omega⟩
     have b4:=(hu6.block p (World.block_lt_of_cell? wq _ HEQ.out.1) hpn.1).trans ((HUQ.out.block p (lt_of_block H45.out.1) (by simp)).trans H45.out.1)
     have b5:=(hu6.block (p+1) (World.block_lt_of_cell? wq _ HEQ.out.2) hpn.2).trans ((HUQ.out.block (p+1) (lt_of_block H45.out.2) (by simp)).trans H45.out.2)
     have f4:w6.cell? ⟨p,0,none⟩=some (.slice (some ⟨gx,ox,none⟩) nx Cx):=by simp [World.cell?,b4]
     have f5:w6.cell? ⟨p+1,0,none⟩=some (.slice (some ⟨gy,oy,none⟩) ny Cy):=by simp [World.cell?,b5]
     have f6:w6.frozen? ⟨p,0,none⟩=false:=by simp [World.frozen?,b4]
     have f7:w6.frozen? ⟨p+1,0,none⟩=false:=by simp [World.frozen?,b5]
     have tt:=HTX.out.1
     have HR6:=Lib.hid hrow6
     have HU6:=Lib.hid (show Upd [] w w6 from (HU.out.trans HUQ.out).trans' hu6 (fun k hk=>.inr (by have:=own_ge HROW0.out k hk;have:=HBB.out;omega)))
     have HB6:=Lib.hid (show B≤w6.heap.size from Nat.le_trans HBQ.out hu6.size)
     have HBK:=Lib.hid (And.intro b4 b5)
     clear e4 e5 e6 e7 HP hrow6 hu6 hpn b4 b5
     go_wp2_with fail
     have HRS:=Lib.hid (show KN.row (w6.setCell ⟨p,0,none⟩ (.slice Ax' xs'.length Cx')) B (.slice A6 (ps.length+1) C6) (ps++[x]) from own_same HR6.out fun k hk=>Below.heap_setCell _ _ _ _ (fun e=>by have h1:=own_ge HR6.out k hk;have h2:=HBB.out;dsimp only at e;omega))
     go_roundg (xs'.length+ys'.length+1)
     case measure=>have h1:=HM.out;have h2:=HNX.out;simp at h1;omega
     case rel=>exact ⟨xs',y::ys',ps++[x],A6,C6,Ax',Cx',some ⟨gy,oy,none⟩,Cy,by simp;omega,by simp,by rw [List.length_append];exact HRS.out,by rw [HMG0.out,List.cons_merge_cons,HLE.out];simp,by have:=HLEN2.out;simp at this ⊢;omega,heap_set HBK.out.1 0 _,by rw [Below.heap_setCell _ _ _ _ (by dsimp only;omega),HNX.out.2];exact HBK.out.2,HTX.out.2,HSB.out,fun i hi=>HIX.out.1 i (List.mem_cons_of_mem _ hi),fun i hi=>HIX.out.2 i hi,HU6.out.setCell (.inr (by have:=HBB.out;dsimp only;omega)) _,by simpa [World.setCell] using HB6.out⟩
    ·go_upto_region 4 with fail
     clear c4 c5
     refine wp_region_quietU (by kernel_rfl) (by kernel_rfl) ?_
     repeat (go_big_quiet_step (first | (with_reducible exact Calls.quietU (HK1.out _)) | (with_reducible exact Calls.quietU (HK2.out _)) | (with_reducible exact Calls.quietU (HK3.out _))))
     refine wpQuiet_nil ?_
     intro wq hw'
     obtain ⟨⟨wy,hwq⟩,hw''⟩:=hw'
     dsimp only at hw''
     subst hw''
     have HUQ:=Lib.hid hwq
     have e4:=q4 ⟨wq,hwq⟩
     have e5:=q5 ⟨wq,hwq⟩
     have e6:=q6 ⟨wq,hwq⟩
     have e7:=q7 ⟨wq,hwq⟩
     dsimp only at e4 e5 e6 e7
     have HEQ:=Lib.hid (And.intro e4 e5)
     have hrq:KN.row wq B (.slice A ps.length C) ps:=own_upd HROW0.out hwq (by simp)
     have HRQ:=Lib.hid hrq
     have HBQ:=Lib.hid (show B≤wq.heap.size from Nat.le_trans HBS0.out hwq.size)
     have g1:(0:Int)<(ny:Int):=by assumption
     clear q4 q5 q6 q7 hwq hrq
     go_wp2_with (at_builtin;refine wpList_app _ rfl _ _ 138 rfl B 3 i1 (.int .i64 0) 1 8 Tryz.underlying138 hi1 hy0 hy1 hy2 rfl (by decide) _ _ _ rfl (own_upd HRQ.out ((Upd.refl [] _).alloc _) (by simp)) _ 1 [.int .i64 (y:Int)] rfl (sees_lit wq #[.int .i64 (y:Int)] 3 1 1 rfl (by decide)) (by simp [Value.oneCell']) (by have:=HLEN.out;unfold maxLen;omega) (by have:=HLEN.out;omega) (by have:=HBQ.out;simp;omega) ?_)
     intro A6 C6 w6 HP
     have hrow6:KN.row w6 B (.slice A6 (ps.length+1) C6) (ps++[y]):=by
      have:=HP.own
      unfold Kind.row
      rw [Kind.all_app,List.length_append]
      exact this
     have hu6:Upd (blk (.slice A ps.length C)) wq w6:=((Upd.refl _ _).alloc _).trans HP.upd
     have hpn:p∉blk (.slice A ps.length C)∧p+1∉blk (.slice A ps.length C):=⟨fun h=>by have:=own_ge HROW0.out _ h;have:=HBB.out;omega,fun h=>by have:=own_ge HROW0.out _ h;have:=HBB.out;omega⟩
     have b4:=(hu6.block p (World.block_lt_of_cell? wq _ HEQ.out.1) hpn.1).trans ((HUQ.out.block p (lt_of_block H45.out.1) (by simp)).trans H45.out.1)
     have b5:=(hu6.block (p+1) (World.block_lt_of_cell? wq _ HEQ.out.2) hpn.2).trans ((HUQ.out.block (p+1) (lt_of_block H45.out.2) (by simp)).trans H45.out.2)
     have f4:w6.cell? ⟨p,0,none⟩=some (.slice (some ⟨gx,ox,none⟩) nx Cx):=by simp [World.cell?,b4]
     have f5:w6.cell? ⟨p+1,0,none⟩=some (.slice (some ⟨gy,oy,none⟩) ny Cy):=by simp [World.cell?,b5]
     have f6:w6.frozen? ⟨p,0,none⟩=false:=by simp [World.frozen?,b4]
     have f7:w6.frozen? ⟨p+1,0,none⟩=false:=by simp [World.frozen?,b5]
     have tt:=HTY.out.1
     have HR6:=Lib.hid hrow6
     have HU6:=Lib.hid (show Upd [] w w6 from (HU.out.trans HUQ.out).trans' hu6 (fun k hk=>.inr (by have:=own_ge HROW0.out k hk;have:=HBB.out;omega)))
     have HB6:=Lib.hid (show B≤w6.heap.size from Nat.le_trans HBQ.out hu6.size)
     have HBK:=Lib.hid (And.intro b4 b5)
     clear e4 e5 e6 e7 HP hrow6 hu6 hpn b4 b5
     go_wp2_with fail
     have HRS:=Lib.hid (show KN.row (w6.setCell ⟨p+1,0,none⟩ (.slice Ay' ys'.length Cy')) B (.slice A6 (ps.length+1) C6) (ps++[y]) from own_same HR6.out fun k hk=>Below.heap_setCell _ _ _ _ (fun e=>by have h1:=own_ge HR6.out k hk;have h2:=HBB.out;dsimp only at e;omega))
     go_roundg (xs'.length+ys'.length+1)
     case measure=>have h1:=HM.out;have h2:=HNX.out;simp at h1;omega
     case rel=>exact ⟨x::xs',ys',ps++[y],A6,C6,some ⟨gx,ox,none⟩,Cx,Ay',Cy',by simp;omega,by simp,by rw [List.length_append];exact HRS.out,by rw [HMG0.out,List.cons_merge_cons,HLE.out];simp,by have:=HLEN2.out;simp at this ⊢;omega,by rw [Below.heap_setCell _ _ _ _ (by dsimp only;omega),HNX.out.1];exact HBK.out.1,heap_set HBK.out.2 0 _,HSA.out,HTY.out.2,fun i hi=>HIX.out.1 i hi,fun i hi=>HIX.out.2 i (List.mem_cons_of_mem _ hi),HU6.out.setCell (.inr (by have:=HBB.out;dsimp only;omega)) _,by simpa [World.setCell] using HB6.out⟩
   ·have g2:decide (0<ys.length)=false:=decide_eq_false h2
    have g2':¬(0:Int)<(ys.length:Int):=by omega
    have HMG:=Lib.hid (show List.merge a b (leP K)=ps++xs++ys by
     have:ys = []:=List.length_eq_zero_iff.1 (by omega)
     rw [HMG0.out,this,List.append_assoc];congr 1;cases xs<;>simp)
    clear h1 h2
    go_upto_region 8 with fail
    obtain ⟨Wd,hWd⟩:∃Wd,Wd=wr.drew:=⟨_,rfl⟩
    have hD0:Upd [] wr Wd:=by rw [hWd];exact (Upd.refl _ _).drew
    have HC2:=Lib.hid (keepTwo (And.intro c4 c5) hD0)
    have HUD:=Lib.hid (HU.out.trans hD0)
    have HROW:=Lib.hid (show KN.row Wd B (.slice A ps.length C) ps from own_upd HROW0.out hD0 (by simp))
    have HBS:=Lib.hid (show B≤Wd.heap.size from Nat.le_trans HBS0.out hD0.size)
    have HPN:=Lib.hid (show p∉blk (.slice A ps.length C)∧p+1∉blk (.slice A ps.length C) from ⟨fun h=>by have:=own_ge HROW0.out _ h;have:=HBB.out;omega,fun h=>by have:=own_ge HROW0.out _ h;have:=HBB.out;omega⟩)
    clear c4 c5 hD0
    refine GoT.start [4,5] (fun w'=>w'.cell? ⟨p,0,none⟩=some (.slice Ax xs.length Cx)∧w'.cell? ⟨p+1,0,none⟩=some (.slice Ay ys.length Cy)) (by kernel_rfl) ?_ fun hS=>?_
    ·exact by rw [←hWd];exact HC2.out
    rw [←hWd] at hS ⊢
    clear hWd
    refine' GoT.mv (i:=0) (oi:=⟨some 50,_,_,_,_,_⟩) rfl (by rfl) ?yt1n8_0 ?_
    case yt1n8_0=>intro w;go_simp<;>with_reducible rfl
    simp only [Act.put,sA,sZ,sS]
    refine' GoT.tk 2 (i:=1) (oi:=⟨some 51,_,_,_,_,_⟩) rfl (by rfl) ?yt1n8_1 ?_
    case yt1n8_1=>intro w hSw;go_simp<;>with_reducible rfl
    simp only [Act.put,sA,sZ,sS]
    refine' GoT.tk 2 (i:=3) (oi:=⟨some 53,_,_,_,_,_⟩) rfl (by rfl) ?yt1n8_3 ?_
    case yt1n8_3=>intro w hSw;go_simp<;>with_reducible rfl
    simp only [Act.put,sA,sZ,sS]
    refine GoT.one (i:=2) (o:=⟨some 52,_,_,_,_,_⟩) rfl (by kernel_rfl) fun K hK=>?_
    refine step_app _ (by rfl) _ _ 138 (by rfl) B 3 i1 (.int .i64 0) 1 8 Tryz.underlying138 hi1 hy0 hy1 hy2 rfl (by decide) _ _ _ (by rfl) HROW.out _ xs.length (KN.all xs) (by rfl) (HSA.out.upd0 HUD.out) (KN.all_one xs) (by have:=HLEN.out;unfold maxLen;omega) (by have:=HLEN.out;omega) HBS.out ?_
    intro A5 C5 w5 HP
    refine hK.out _ _ (fun _ h=>?_) ?_
    ·exact ⟨(HP.upd.cell (p:=⟨p,0,none⟩) (World.block_lt_of_cell? Wd _ h.1) HPN.out.1).trans h.1,(HP.upd.cell (p:=⟨p+1,0,none⟩) (World.block_lt_of_cell? Wd _ h.2) HPN.out.2).trans h.2⟩
    clear hK K
    try simp only [Act.put,sA,sZ,sS]
    have hrow5:KN.row w5 B (.slice A5 (ps.length+xs.length) C5) (ps++xs):=by
     have:=HP.own
     unfold Kind.row
     rw [Kind.all_app,List.length_append]
     exact this
    have HU5:=Lib.hid (HUD.out.trans' HP.upd (fun k hk=>.inr (by have:=own_ge HROW.out k hk;have:=HBB.out;omega)))
    have HR5:=Lib.hid hrow5
    have HB5:=Lib.hid (Nat.le_trans HBS.out HP.upd.size)
    clear HP hrow5
    refine GoT.one (i:=4) (o:=⟨some 54,_,_,_,_,_⟩) rfl (by kernel_rfl) fun K hK=>?_
    refine step_app _ (by rfl) _ _ 138 (by rfl) B 3 i1 (.int .i64 0) 1 8 Tryz.underlying138 hi1 hy0 hy1 hy2 rfl (by decide) _ _ _ (by rfl) (show w5.ownsRow B 3 1 (.slice A5 (ps.length+xs.length) C5) (ps.length+xs.length) (KN.all (ps++xs)) by have:=HR5.out;unfold Kind.row at this;rw [List.length_append] at this;exact this) _ ys.length (KN.all ys) (by rfl) (HSB.out.upd0 HU5.out) (KN.all_one ys) (by have:=HLEN.out;unfold maxLen;omega) (by have:=HLEN.out;omega) HB5.out ?_
    intro A6 C6 w6 HP
    refine hK.out _ _ (fun h=>(by cases h)) ?_
    clear hK K
    try simp only [Act.put,sA,sZ,sS]
    have hrow6:KN.row w6 B (.slice A6 (ps.length+xs.length+ys.length) C6) (ps++xs++ys):=by
     have:=HP.own
     unfold Kind.row
     rw [Kind.all_app,List.length_append,List.length_append]
     exact this
    have HU6:=Lib.hid (HU5.out.trans' HP.upd (fun k hk=>.inr (by have:=own_ge HR5.out k hk;have:=HBB.out;omega)))
    have HR6:=Lib.hid hrow6
    clear HP hrow6
    refine' GoT.mv (i:=5) (oi:=⟨some 8,_,_,_,_,_⟩) rfl (by rfl) ?yt1n8_5 ?_
    case yt1n8_5=>intro w;go_simp<;>with_reducible rfl
    simp only [Act.put,sA,sZ,sS]
    refine GoT.done (by kernel_rfl) ?_
    have hln:((ps.length:Int)+(xs.length:Int)+(ys.length:Int))=(n:Int):=by have:=HLEN2.out;omega
    have HLN:=Lib.hid hln
    clear hln
    go_wp2_with fail
    go_ret2
    exact ⟨A6,C6,by rw [←HLEN2.out];rfl,by rw [HMG.out,←HLEN2.out];exact See.of_row HR6.out,HU6.out,fun k hk=>by have:=own_ge HR6.out k (by cases A6<;>exact hk);have:=HBB.out;omega⟩
  ·have g1:decide (0<xs.length)=false:=decide_eq_false h1
   have g1':¬(0:Int)<(xs.length:Int):=by omega
   have HMG:=Lib.hid (show List.merge a b (leP K)=ps++xs++ys by
    have:xs = []:=List.length_eq_zero_iff.1 (by omega)
    rw [HMG0.out,this,List.append_assoc];congr 1;simp)
   clear h1
   go_upto_region 8 with fail
   obtain ⟨Wd,hWd⟩:∃Wd,Wd=wr.drew:=⟨_,rfl⟩
   have hD0:Upd [] wr Wd:=by rw [hWd];exact (Upd.refl _ _).drew
   have HC2:=Lib.hid (keepTwo (And.intro c4 c5) hD0)
   have HUD:=Lib.hid (HU.out.trans hD0)
   have HROW:=Lib.hid (show KN.row Wd B (.slice A ps.length C) ps from own_upd HROW0.out hD0 (by simp))
   have HBS:=Lib.hid (show B≤Wd.heap.size from Nat.le_trans HBS0.out hD0.size)
   have HPN:=Lib.hid (show p∉blk (.slice A ps.length C)∧p+1∉blk (.slice A ps.length C) from ⟨fun h=>by have:=own_ge HROW0.out _ h;have:=HBB.out;omega,fun h=>by have:=own_ge HROW0.out _ h;have:=HBB.out;omega⟩)
   clear c4 c5 hD0
   refine GoT.start [4,5] (fun w'=>w'.cell? ⟨p,0,none⟩=some (.slice Ax xs.length Cx)∧w'.cell? ⟨p+1,0,none⟩=some (.slice Ay ys.length Cy)) (by kernel_rfl) ?_ fun hS=>?_
   ·exact by rw [←hWd];exact HC2.out
   rw [←hWd] at hS ⊢
   clear hWd
   refine' GoT.mv (i:=0) (oi:=⟨some 50,_,_,_,_,_⟩) rfl (by rfl) ?yt2n8_0 ?_
   case yt2n8_0=>intro w;go_simp<;>with_reducible rfl
   simp only [Act.put,sA,sZ,sS]
   refine' GoT.tk 2 (i:=1) (oi:=⟨some 51,_,_,_,_,_⟩) rfl (by rfl) ?yt2n8_1 ?_
   case yt2n8_1=>intro w hSw;go_simp<;>with_reducible rfl
   simp only [Act.put,sA,sZ,sS]
   refine' GoT.tk 2 (i:=3) (oi:=⟨some 53,_,_,_,_,_⟩) rfl (by rfl) ?yt2n8_3 ?_
   case yt2n8_3=>intro w hSw;go_simp<;>with_reducible rfl
   simp only [Act.put,sA,sZ,sS]
   refine GoT.one (i:=2) (o:=⟨some 52,_,_,_,_,_⟩) rfl (by kernel_rfl) fun K hK=>?_
   refine step_app _ (by rfl) _ _ 138 (by rfl) B 3 i1 (.int .i64 0) 1 8 Tryz.underlying138 hi1 hy0 hy1 hy2 rfl (by decide) _ _ _ (by rfl) HROW.out _ xs.length (KN.all xs) (by rfl) (HSA.out.upd0 HUD.out) (KN.all_one xs) (by have:=HLEN.out;unfold maxLen;omega) (by have:=HLEN.out;omega) HBS.out ?_
   intro A5 C5 w5 HP
   refine hK.out _ _ (fun _ h=>?_) ?_
   ·exact ⟨(HP.upd.cell (p:=⟨p,0,none⟩) (World.block_lt_of_cell? Wd _ h.1) HPN.out.1).trans h.1,(HP.upd.cell (p:=⟨p+1,0,none⟩) (World.block_lt_of_cell? Wd _ h.2) HPN.out.2).trans h.2⟩
   clear hK K
   try simp only [Act.put,sA,sZ,sS]
   have hrow5:KN.row w5 B (.slice A5 (ps.length+xs.length) C5) (ps++xs):=by
    have:=HP.own
    unfold Kind.row
    rw [Kind.all_app,List.length_append]
    exact this
   have HU5:=Lib.hid (HUD.out.trans' HP.upd (fun k hk=>.inr (by have:=own_ge HROW.out k hk;have:=HBB.out;omega)))
   have HR5:=Lib.hid hrow5
   have HB5:=Lib.hid (Nat.le_trans HBS.out HP.upd.size)
   clear HP hrow5
   refine GoT.one (i:=4) (o:=⟨some 54,_,_,_,_,_⟩) rfl (by kernel_rfl) fun K hK=>?_
   refine step_app _ (by rfl) _ _ 138 (by rfl) B 3 i1 (.int .i64 0) 1 8 Tryz.underlying138 hi1 hy0 hy1 hy2 rfl (by decide) _ _ _ (by rfl) (show w5.ownsRow B 3 1 (.slice A5 (ps.length+xs.length) C5) (ps.length+xs.length) (KN.all (ps++xs)) by have:=HR5.out;unfold Kind.row at this;rw [List.length_append] at this;exact this) _ ys.length (KN.all ys) (by rfl) (HSB.out.upd0 HU5.out) (KN.all_one ys) (by have:=HLEN.out;unfold maxLen;omega) (by have:=HLEN.out;omega) HB5.out ?_
   intro A6 C6 w6 HP
   refine hK.out _ _ (fun h=>(by cases h)) ?_
   clear hK K
   try simp only [Act.put,sA,sZ,sS]
   have hrow6:KN.row w6 B (.slice A6 (ps.length+xs.length+ys.length) C6) (ps++xs++ys):=by
    have:=HP.own
    unfold Kind.row
    rw [Kind.all_app,List.length_append,List.length_append]
    exact this
   have HU6:=Lib.hid (HU5.out.trans' HP.upd (fun k hk=>.inr (by have:=own_ge HR5.out k hk;have:=HBB.out;omega)))
   have HR6:=Lib.hid hrow6
   clear HP hrow6
   refine' GoT.mv (i:=5) (oi:=⟨some 8,_,_,_,_,_⟩) rfl (by rfl) ?yt2n8_5 ?_
   case yt2n8_5=>intro w;go_simp<;>with_reducible rfl
   simp only [Act.put,sA,sZ,sS]
   refine GoT.done (by kernel_rfl) ?_
   have hln:((ps.length:Int)+(xs.length:Int)+(ys.length:Int))=(n:Int):=by have:=HLEN2.out;omega
   have HLN:=Lib.hid hln
   clear hln
   go_wp2_with fail
   go_ret2
   exact ⟨A6,C6,by rw [←HLEN2.out];rfl,by rw [HMG.out,←HLEN2.out];exact See.of_row HR6.out,HU6.out,fun k hk=>by have:=own_ge HR6.out k (by cases A6<;>exact hk);have:=HBB.out;omega⟩
def rowF (n:Nat) (f:Nat→Nat):List Nat:=(List.range n).map f
theorem rowF_len (n:Nat) (f:Nat→Nat):(rowF n f).length=n:=by simp [rowF]
theorem rowF_get {n:Nat} {f:Nat→Nat} {i:Nat} (h:i<n):(rowF n f)[i]? = some (f i):=by
 unfold rowF;rw [List.getElem?_map,List.getElem?_range h];rfl
theorem rowF_congr {n:Nat} {f g:Nat→Nat} (h:∀i,i<n→f i=g i):rowF n f=rowF n g:=by
 unfold rowF
 exact List.map_congr_left fun i hi=>h i (List.mem_range.1 hi)
theorem rowF_set (n:Nat) (f:Nat→Nat) (k b:Nat):(rowF n f).set k b=rowF n (fun i=>if i=k then b else f i):=by
 refine List.ext_getElem? fun i=>?_
 rw [List.getElem?_set]
 by_cases hk:k=i
 ·subst hk
  rw [if_pos rfl]
  by_cases hn:k<n
  ·rw [if_pos (by rw [rowF_len];exact hn),rowF_get hn,if_pos rfl]
  ·rw [if_neg (by rw [rowF_len];exact hn),List.getElem?_eq_none (by rw [rowF_len];omega)]
 ·rw [if_neg hk]
  by_cases hn:i<n
  ·rw [rowF_get hn,rowF_get hn,if_neg (Ne.symm hk)]
  ·rw [List.getElem?_eq_none (by rw [rowF_len];omega),List.getElem?_eq_none (by rw [rowF_len];omega)]
theorem KN_all (l:List Nat):KN.all l=l.map fun (x:Nat)=>(.int .i64 (x:Int):Value):=by
 induction l with
 |nil=>rfl
 |cons x l ih=>rw [List.map_cons,←ih];rfl
theorem KN_made {w':World} {base g n:Nat} (h:w'.ownsRow base 3 1 (.slice (some ⟨g,0,none⟩) n n) n (madeCells #[.int .i64 0] (n*1)).toList):KN.row w' base (.slice (some ⟨g,0,none⟩) n n) (rowF n (fun _=>0)):=by
 unfold Kind.row
 rw [rowF_len,KN_all]
 rw [Nat.mul_one,toList_madeCells_one] at h
 have e:((rowF n fun _=>0).map fun (x:Nat)=>(.int .i64 (x:Int):Value))=List.replicate n (.int .i64 0):=by
  refine List.ext_getElem? fun i=>?_
  rw [List.getElem?_map,List.getElem?_replicate]
  by_cases hi:i<n
  ·rw [rowF_get hi,if_pos hi];rfl
  ·rw [List.getElem?_eq_none (by rw [rowF_len];omega),if_neg hi];rfl
 rw [e]
 exact h
theorem KN_stored {w:World} {base g n:Nat} {f:Nat→Nat} (h:KN.row w base (.slice (some ⟨g,0,none⟩) n n) (rowF n f)) (k b:Nat) :
 KN.row (w.setCell ⟨g,k,none⟩ (.int .i64 (b:Int))) base (.slice (some ⟨g,0,none⟩) n n) (rowF n (fun i=>if i=k then b else f i)):=by
 have hl:=rowF_len n f
 have h':w.ownsRow base 3 1 (.slice (some ⟨g,0,none⟩) n n) n (KN.all (rowF n f)):=by
  have h2:=h
  unfold Kind.row at h2
  rw [hl] at h2
  exact h2
 have:=(World.ownsRow.stored h' k (.int .i64 (b:Int))).1
 unfold Kind.row
 rw [rowF_len,←rowF_set,KN_all,List.map_set,←KN_all]
 exact this
def PlPost (w:World) (n:Nat) (e:Ending) (w':World):Prop:=∃A C,e=.returned (.slice A n C)∧See KN w' (.slice A n C) (List.range n)∧Upd [] w w'∧∀k∈blk (.slice A n C),w.heap.size≤k
theorem placesC (n:Nat) (w:World) (hn:n<10000000):Calls Tryz.prog 130 #[.int .i64 0,.int .i64 (n:Int)] w (PlPost w n):=by
 obtain ⟨i1,hi1,hy0,hy1,hy2⟩:=info_parts info_intS
 unfold PlPost
 obtain ⟨w1,hmk,ho,hg⟩:=run_make_full (P:=Tryz.prog) w w.heap.size 138 3 i1 (.int .i64 0) 1 Tryz.underlying138 hi1 hy0 hy1 .i64 .i64 n (by rw [hy2];omega) (by unfold maxLen;omega) (Nat.le_refl _)
 have hrow:=KN_made ho
 have hu1:Upd [] w w1:=(Upd.refl _ _).grown hg (by simp)
 have hz1:w.heap.size<w1.heap.size:=own_lt ho w.heap.size (by simp [blk])
 have hnb:(n:Int)<10000000:=by omega
 have HR:=Lib.hid (And.intro hrow (And.intro hu1 hz1))
 clear hrow hu1 hz1 ho hg hn
 go_enter Tryz.func130,Tryz.ntmps130
 go_wp2_with fail
 go_loopg [11] n (fun m s11 wr=>∃k,m+k=n∧s11=.int .i64 (k:Int)∧KN.row wr w.heap.size (.slice (some ⟨w.heap.size,0,none⟩) n n) (rowF n fun i=>if i<k then i else 0)∧Upd [] w wr)
 case atStart=>exact ⟨0,rfl,rfl,by have:=HR.out.1;simpa using this,HR.out.2.1⟩
 case round=>
  obtain ⟨k,hk,rfl,hrw,hu⟩:=hrel
  have b0:(0:Int)≤(k:Int):=Int.natCast_nonneg _
  have HK:=Lib.hid hk
  by_cases hlt:k<n
  ·have b1:(k:Int)<(n:Int):=by omega
   obtain ⟨gq,hgq,-,eq1,eqf⟩:=rowAt (K:=KN) hrw (rowF_get (f:=fun i=>if i<k then i else 0) hlt)
   rw [if_neg (by omega)] at eq1
   cases hgq
   have q0:wr.cell? ⟨w.heap.size,k,none⟩=some (.int .i64 0):=by
    have:=eq1 0 _ rfl
    simpa [KN] using this
   have qf:=eqf k
   have hst:=KN_stored hrw k k
   have e:(rowF n fun i=>if i=k then k else if i<k then i else 0)=rowF n fun i=>if i<k+1 then i else 0:=rowF_congr fun i _=>by
    by_cases h1:i=k
    ·rw [if_pos h1,if_pos (by omega),h1]
    ·rw [if_neg h1]
     by_cases h2:i<k
     ·rw [if_pos h2,if_pos (by omega)]
     ·rw [if_neg h2,if_neg (by omega)]
   rw [e] at hst
   have HST:=Lib.hid hst
   have HU:=Lib.hid (hu.setCell (p:=⟨w.heap.size,k,none⟩) (.inr (Nat.le_refl _)) (.int .i64 (k:Int)))
   have HLT:=Lib.hid hlt
   clear hst e hrw hu eq1 eqf hlt hk
   go_wp2_with fail
   go_roundg (n - (k+1))
   case measure=>have:=HK.out;have:=HLT.out;omega
   case rel=>exact ⟨k+1,by have:=HK.out;have:=HLT.out;omega,by go_num,HST.out,HU.out⟩
  ·have e:(rowF n fun i=>if i<k then i else 0)=List.range n:=by
    have:(rowF n fun i=>if i<k then i else 0)=rowF n id:=rowF_congr fun i hi=>by rw [if_pos (by omega)];rfl
    rw [this];unfold rowF;simp
   rw [e] at hrw
   have hs:See KN wr (.slice (some ⟨w.heap.size,0,none⟩) n n) (List.range n):=See.of_row hrw
   have HS:=Lib.hid (And.intro hs hu)
   clear hrw hs hu e hk
   go_wp2_with fail
   go_ret
   exact ⟨_,_,rfl,HS.out.1,HS.out.2,fun k hk=>by simp [blk] at hk;omega⟩
theorem KN_head {w:World} {A:Option Addr} {n C:Nat} {l:List Nat} (h:See KN w (.slice A n C) l) (k:Nat) (hk:k≤l.length) :
 ∃A' C',(∀w',(Instr.slice 138 (.slice A n C) none (some (.int .i64 (k:Int))) (some (.int .i64 (k:Int)))).run Tryz.prog w'=.ok (.slice A' k C') w')∧See KN w (.slice A' k C') (l.take k):=by
 obtain ⟨i1,hi1,hy0,hy1,hy2⟩:=info_parts info_intS
 have hel:Tryz.prog.elem 138=3:=by simp [Program.elem,Tryz.underlying138]
 have hlen:(l.take k).length=k:=by rw [List.length_take];omega
 rcases h.2 with ⟨e1,e2⟩ | ⟨b,o,s,cap,e1,e2,e3,e4,e5⟩
 ·cases e1
  have hk0:k=0:=by omega
  subst hk0
  refine ⟨none,0,fun w'=>?_,?_⟩
  ·rw [run_slice_hm w' 138 none 0 0 (elem_of Tryz.underlying138) .i64 .i64 _ _ (by omega) (by omega) (by omega)]
   simp [hel,sizeOf,typeInfo,hi1,sliced]
  ·exact ⟨by simp [Kind.all],.inl ⟨rfl,by simp⟩⟩
 ·cases e1
  refine ⟨some ⟨b,o,s⟩,k,fun w'=>?_,?_⟩
  ·rw [run_slice_hm w' 138 _ l.length C (elem_of Tryz.underlying138) .i64 .i64 _ _ (by omega) (by omega) (by omega)]
   simp [hel,sizeOf,typeInfo,hi1,sliced,Addr.add]
  ·unfold See
   rw [hlen]
   refine ⟨by rw [KN.all_len,hlen],.inr ⟨b,o,s,k,rfl,fun hp=>e2 (by omega),Nat.le_refl _,by omega,fun j u hu=>?_⟩⟩
   rw [Kind.all_take,List.getElem?_take] at hu
   split at hu
   ·exact e5 j u hu
   ·cases hu
theorem KN_rest {w:World} {A:Option Addr} {n C:Nat} {l:List Nat} (h:See KN w (.slice A n C) l) (k:Nat) (hk:k≤l.length) :
 ∃A' C',(∀w',(Instr.slice 138 (.slice A n C) (some (.int .i64 (k:Int))) none none).run Tryz.prog w'=.ok (.slice A' (l.length - k) C') w')∧See KN w (.slice A' (l.length - k) C') (l.drop k):=by
 obtain ⟨A0,C0,e⟩:=h.form
 injection e with e1 e2 e3
 subst e1 e2 e3
 obtain ⟨i1,hi1,hy0,hy1,hy2⟩:=info_parts info_intS
 obtain ⟨A',C',r1,r2,-⟩:=cut_from (P:=Tryz.prog) Tryz.underlying138 hi1 hy1 h k hk
 refine ⟨A',C',r1,?_⟩
 have:=r2 w h
 unfold See
 rw [Kind.all_drop,List.length_drop]
 exact this
def OrdPost (v:Value) (w:World) (K:List (Int×Nat)) (l:List Nat) (e:Ending) (w':World):Prop:=
 ∃A C M,∃wr:Nat,e=.returned (.tuple #[.slice A l.length C,.int .i64 (wr:Int)])∧See KN w' (.slice A l.length C) M∧M.Perm l∧M.Pairwise (fun i j=>leP K i j=true)∧wr≤l.length*l.length∧Upd [] w w'∧∀k∈blk (.slice A l.length C),k∈blk v∨w.heap.size≤k
theorem square_sum {h m:Nat} (hh:1≤h) (hm:1≤m):h*h+m*m+(h+m)≤(h+m)*(h+m):=by
 have e:(h+m)*(h+m)=h*h+m*m+(h*m+h*m):=by
  rw [Nat.add_mul,Nat.mul_add,Nat.mul_add,Nat.mul_comm m h];omega
 have h1:h≤h*m:=Nat.le_mul_of_pos_right h hm
 have h2:m≤h*m:=Nat.le_mul_of_pos_left m hh
 omega
theorem orderedC (vk:Value) (K:List (Int×Nat)) (pk:Nat):∀(d:Nat) (l:List Nat) (v:Value) (w:World),l.length≤d→w.cell? ⟨pk,0,none⟩=some vk→See KK w vk K→See KN w v l→(∀i∈l,i<K.length)→l.length<1000000→
 Calls Tryz.prog 128 #[.func (.func 129) #[] #[.pointer (some ⟨pk,0,none⟩)],v] w (OrdPost v w K l):=by
 intro d
 induction d with
 |zero=>
  intro l v w hd hc hK hl hi hn
  have e:l = []:=List.length_eq_zero_iff.1 (by omega)
  subst e
  obtain ⟨A,C,rfl⟩:=hl.form
  unfold OrdPost
  have HL:=Lib.hid hl
  clear hc hK hl hi hn hd
  go_enter Tryz.func128,Tryz.ntmps128
  go_wp2_with fail
  go_ret2
  exact ⟨A,C,[],0,rfl,HL.out,List.Perm.refl _,List.Pairwise.nil,by simp,Upd.refl _ _,fun k hk=>.inl hk⟩
 |succ d ih=>
  intro l v w hd hc hK hl hi hn
  obtain ⟨A,C,rfl⟩:=hl.form
  unfold OrdPost
  obtain ⟨n,hn'⟩:∃n,l.length=n:=⟨_,rfl⟩
  obtain ⟨h,hh⟩:∃h,n / 2=h:=⟨_,rfl⟩
  have HHV:=Lib.hid (show (n:Int) / 2=(h:Int) by omega)
  have n0:(0:Int)≤(n:Int):=Int.natCast_nonneg _
  have HN1:=Lib.hid (show (n:Int)<1000000 by omega)
  have h0:(0:Int)≤(h:Int):=Int.natCast_nonneg _
  by_cases hz:h=0
  ·subst hz
   have hs:l.Pairwise (fun i j=>leP K i j=true):=by
    match l,hn' with
    | [],_=>exact List.Pairwise.nil
    | [x],_=>exact List.pairwise_singleton _ _
    |x::y::r,e=>simp at e;omega
   have HL:=Lib.hid (And.intro hl hs)
   rw [hn'] at HL ⊢
   clear hc hK hl hi hn hd hs hn' hh
   have n1:=HN1.out
   go_enter Tryz.func128,Tryz.ntmps128
   go_upto_region 2 with fail
   rw [HHV.out]
   clear n1
   go_wp2_with fail
   go_ret2
   exact ⟨A,C,l,0,rfl,HL.out.1,List.Perm.refl _,HL.out.2,by simp,Upd.refl _ _,fun k hk=>.inl hk⟩
  ·have hz1:((h:Int)==0)=false:=by simp;omega
   have hz2:¬(h:Int)=0:=by omega
   have hz3:¬h=0:=hz
   obtain ⟨A1,C1,t1,s1⟩:=KN_head hl h (by omega)
   obtain ⟨A2,C2,t2,s2⟩:=KN_rest hl h (by omega)
   have l1:(l.take h).length=h:=by rw [List.length_take];omega
   have l2:(l.drop h).length=l.length - h:=by rw [List.length_drop]
   have i1:∀i∈l.take h,i<K.length:=fun i hi'=>hi i (List.mem_of_mem_take hi')
   have i2:∀i∈l.drop h,i<K.length:=fun i hi'=>hi i (List.mem_of_mem_drop hi')
   have hpk:pk<w.heap.size:=World.block_lt_of_cell? w _ hc
   have o1:=fun w1 (hu:Upd [] w w1)=>ih (l.take h) (.slice A1 h C1) w1 (by omega) ((hu.cell (p:=⟨pk,0,none⟩) hpk (by simp)).trans hc) (hK.upd0 hu) (s1.upd0 hu) i1 (by omega)
   have o2:=fun w1 (hu:Upd [] w w1)=>ih (l.drop h) (.slice A2 (l.length - h) C2) w1 (by omega) ((hu.cell (p:=⟨pk,0,none⟩) hpk (by simp)).trans hc) (hK.upd0 hu) (s2.upd0 hu) i2 (by omega)
   unfold OrdPost at o1 o2
   rw [l1] at o1
   rw [l2] at o2
   have HM:=Lib.hid (show ∀(a b:List Nat) (va vb:Value) (w1:World),Upd [] w w1→See KN w1 va a→See KN w1 vb b→a.Perm (l.take h)→b.Perm (l.drop h)→Calls Tryz.prog 153 #[.func (.func 129) #[] #[.pointer (some ⟨pk,0,none⟩)],va,vb] w1 (MrgPost w1 (List.merge a b (leP K)) (a.length+b.length)) from fun a b va vb w1 hu ha hb pa pb=>
    mergedC vk va vb K pk a b w1 ((hu.cell (p:=⟨pk,0,none⟩) hpk (by simp)).trans hc) (hK.upd0 hu) ha hb (fun i hi'=>i1 i (pa.mem_iff.1 hi')) (fun i hi'=>i2 i (pb.mem_iff.1 hi')) (by have:=pa.length_eq;have:=pb.length_eq;omega))
   rw [hn'] at t1 t2 o2 l2 ⊢
   obtain ⟨m,hm⟩:∃m,n - h=m:=⟨_,rfl⟩
   rw [hm] at t2 o2 l2
   have hs:=square_sum (h:=h) (m:=m) (by omega) (by omega)
   have b1:h*h≤1000000*1000000:=Nat.mul_le_mul (by omega) (by omega)
   have b2:m*m≤1000000*1000000:=Nat.mul_le_mul (by omega) (by omega)
   have HO1:=Lib.hid o1
   have HO2:=Lib.hid o2
   have HS:=Lib.hid (And.intro hs (And.intro b1 (And.intro b2 (show h+m=n by omega))))
   have HLL:=Lib.hid (And.intro l1 l2)
   clear o1 o2 hs b1 b2 hc hK hl hi hn hd s1 s2 i1 i2 hpk l1 l2 hh hm hn' hz ih
   have n1:=HN1.out
   go_enter Tryz.func128,Tryz.ntmps128
   go_upto_region 2 with fail
   rw [HHV.out]
   clear n1
   go_wp2_with fail
   (with_reducible refine (HO1.out _ (Upd.refl _ _)).mono ?_)
   rintro e w1 ⟨Aa,Ca,Ma,wa,rfl,sa,pa,qa,ba,hu1,-⟩
   have H1:=Lib.hid (And.intro sa (And.intro pa (And.intro qa (And.intro ba hu1))))
   have c1:(wa:Int)≤1000000000000:=by have:=HS.out.2.1;omega
   have c0:(0:Int)≤(wa:Int):=Int.natCast_nonneg _
   clear sa pa qa ba hu1
   go_wp2_with fail
   (with_reducible refine (HO2.out _ H1.out.2.2.2.2).mono ?_)
   rintro e w2 ⟨Ab,Cb,Mb,wb,rfl,sb,pb,qb,bb,hu2,-⟩
   have hmg:=HM.out Ma Mb (.slice Aa h Ca) (.slice Ab m Cb) w2 (H1.out.2.2.2.2.trans hu2) (H1.out.1.upd0 hu2) sb H1.out.2.1 pb
   have e1:Ma.length=h:=H1.out.2.1.length_eq.trans HLL.out.1
   have e2:Mb.length=m:=pb.length_eq.trans HLL.out.2
   unfold MrgPost at hmg
   rw [e1,e2,HS.out.2.2.2] at hmg
   have HMG:=Lib.hid hmg
   have H2:=Lib.hid (And.intro pb (And.intro qb (And.intro bb (H1.out.2.2.2.2.trans hu2))))
   have c2:(wb:Int)≤1000000000000:=by have:=HS.out.2.2.1;omega
   have c3:(0:Int)≤(wb:Int):=Int.natCast_nonneg _
   have n1:=HN1.out
   clear sb pb qb bb hu2 hmg e1 e2
   go_wp2_with fail
   (with_reducible refine HMG.out.mono ?_)
   rintro e w3 ⟨A3,C3,rfl,s3,hu3,hk3⟩
   have H3:=Lib.hid (And.intro s3 (And.intro (H2.out.2.2.2.trans hu3) (show ∀k∈blk (.slice A3 n C3),w.heap.size≤k from fun k hk=>Nat.le_trans H2.out.2.2.2.size (hk3 k hk))))
   clear s3 hu3 hk3
   go_wp2_with fail
   go_ret2
   refine ⟨A3,C3,List.merge Ma Mb (leP K),wa+wb+n,rfl,H3.out.1,?_,?_,?_,H3.out.2.1,fun k hk=>.inr (H3.out.2.2 k hk)⟩
   ·have h1:(List.merge Ma Mb (leP K)).Perm (Ma++Mb):=List.merge_perm_append _
    have h2:=h1.trans (H1.out.2.1.append H2.out.1)
    rw [List.take_append_drop] at h2
    exact h2
   ·exact List.pairwise_merge (leP_trans K) (leP_total K) _ _ H1.out.2.2.1 H2.out.2.1
   ·have h1:=H1.out.2.2.2.1
    have h2:=H2.out.2.2.1
    have h3:=HS.out.1
    rw [HS.out.2.2.2] at h3
    omega
def SortPost (w:World) (K:List (Int×Nat)) (e:Ending) (w':World):Prop:=
 ∃A C M,∃wr:Nat,e=.returned (.tuple #[.slice A K.length C,.int .i64 (wr:Int),.int .i64 0])∧See KN w' (.slice A K.length C) M∧M.Perm (List.range K.length)∧M.Pairwise (fun i j=>leP K i j=true)∧Upd [] w w'∧∀k∈blk (.slice A K.length C),w.heap.size≤k
theorem sortOrder (vk:Value) (K:List (Int×Nat)) (w:World) (hK:See KK w vk K) (hn:K.length<1000000) :
 Calls Tryz.prog 94 #[vk] w (SortPost w K):=by
 obtain ⟨A,C,rfl⟩:=hK.form
 unfold SortPost
 have hu0:Upd [] w (w.alloc (.cells #[.slice A K.length C] 135)):=(Upd.refl _ _).alloc _
 have hc0:(w.alloc (.cells #[.slice A K.length C] 135)).cell? ⟨w.heap.size,0,none⟩=some (.slice A K.length C):=by rw [World.cell?_alloc_at _ _ _ _ rfl];rfl
 have hpl:=placesC K.length (w.alloc (.cells #[.slice A K.length C] 135)) (by omega)
 have hz:w.heap.size<(w.alloc (.cells #[.slice A K.length C] 135)).heap.size:=by simp
 have HO:=Lib.hid (show ∀(v:Value) (w1:World),Upd [] (w.alloc (.cells #[.slice A K.length C] 135)) w1→See KN w1 v (List.range K.length)→Calls Tryz.prog 128 #[.func (.func 129) #[] #[.pointer (some ⟨w.heap.size,0,none⟩)],v] w1 (OrdPost v w1 K (List.range K.length)) from fun v w1 hu hs=>
  orderedC (.slice A K.length C) K w.heap.size K.length (List.range K.length) v w1 (by simp) ((hu.cell (p:=⟨w.heap.size,0,none⟩) hz (by simp)).trans hc0) (hK.upd0 (hu0.trans hu)) hs (fun i hi=>List.mem_range.1 hi) (by simpa using hn))
 have n0:decide ((17179869184:Int)<(K.length:Int))=false:=decide_eq_false (by omega)
 have n1:¬(17179869184:Int)<(K.length:Int):=by omega
 have HPL:=Lib.hid hpl
 have HU0:=Lib.hid hu0
 clear hpl hu0 hc0 hz hK hn
 go_enter Tryz.func94,Tryz.ntmps94
 go_wp2_with fail
 (with_reducible refine HPL.out.mono ?_)
 rintro e w1 ⟨A1,C1,rfl,s1,hu1,hk1⟩
 have ho:=HO.out (.slice A1 K.length C1) w1 hu1 s1
 unfold OrdPost at ho
 rw [List.length_range] at ho
 have HOO:=Lib.hid ho
 have HU1:=Lib.hid (HU0.out.trans hu1)
 have HK1:=Lib.hid (show ∀k∈blk (.slice A1 K.length C1),w.heap.size≤k from fun k hk=>Nat.le_trans HU0.out.size (hk1 k hk))
 clear ho s1 hu1 hk1
 go_wp2_with fail
 (with_reducible refine HOO.out.mono ?_)
 rintro e w2 ⟨A2,C2,M,wr,rfl,s2,p2,q2,-,hu2,hk2⟩
 have H2:=Lib.hid (And.intro s2 (And.intro p2 (And.intro q2 (And.intro (HU1.out.trans hu2) (show ∀k∈blk (.slice A2 K.length C2),w.heap.size≤k from fun k hk=>(hk2 k hk).elim (HK1.out k) (Nat.le_trans HU1.out.size))))))
 clear s2 p2 q2 hu2 hk2
 go_wp2_with fail
 go_ret3
 exact ⟨A2,C2,M,wr,rfl,H2.out.1,H2.out.2.1,H2.out.2.2.1,H2.out.2.2.2.1,H2.out.2.2.2.2⟩
end Go.Proofs.YtkmnbodlciepaaaGreat
