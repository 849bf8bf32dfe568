/- slices.Clone, Index and IndexFunc at spans. cmp.Compare at int64 and uint32; item.first, by, ByLo, ByHi. slices.Index at spans. slices.Delete of one span. -/
import Derived.BigQuiet
import Derived.WalkMore
import Derived.Test.YtkbaaonchdeneaaGreatPk15
set_option maxHeartbeats 4000000
set_option maxRecDepth 100000
namespace Go.Proofs.YtkbaaonchdeneaaGreat
open Go.RowKit
def CloneSPost (w:World) (l:List Sp) (e:Ending) (w':World):Prop:=
 Upd [] w w'∧∃A C,e=.returned (.slice A l.length C)∧KSp.row w' w.heap.size (.slice A l.length C) l
theorem cloneSp (v:Value) (l:List Sp) (w:World) (hs:See KSp w v l) (hb:l.length<1000000) :
 Calls Tryz.prog 170 #[v] w (CloneSPost w l):=by
 obtain ⟨i0,hi,hz0,hz1,hz2⟩:=info_parts infoSpanD
 obtain ⟨n,hn⟩:∃n,l.length=n:=⟨_,rfl⟩
 have hx1:∀u∈KSp.all l,u.oneCell'=true:=KSp.all_one l
 have hs':Sees w 3 v n (KSp.all l):=by rw [←hn];exact hs
 have HS:=Lib.hid hs'
 have HX:=Lib.hid hx1
 have HN:=Lib.hid hn
 rw [hn] at hb
 have HB:=Lib.hid hb
 clear hx1 hn hb hs
 unfold CloneSPost
 rcases hs'.2 with ⟨rfl,rfl⟩ | ⟨b,o,sp,cap,rfl,_⟩
 ·clear hs'
  have he:=fun w=>Lib.run_eql_slice_nil (P:=Tryz.prog) (w:=w) 56 62 none 0 0 0 0 Tryz.underlying56
  go_enter Tryz.func170,Tryz.ntmps170
  go_wp2
  go_ret
  have hx:l = []:=List.eq_nil_of_length_eq_zero HN.out
  subst hx
  exact ⟨Upd.refl _ _,none,0,rfl,World.ownsRow_nil _ _ _ _⟩
 ·clear hs'
  have he:=fun w=>Lib.run_eql_slice_nil (P:=Tryz.prog) (w:=w) 56 62 (some ⟨b,o,sp⟩) n cap 0 0 Tryz.underlying56
  go_enter Tryz.func170,Tryz.ntmps170
  go_wp2_with (at_builtin;refine wpList_app _ rfl _ _ 56 rfl w.heap.size 62 i0 _ 3 24 Tryz.underlying56 hi hz0 hz1 hz2 rfl (by decide) _ 0 [] rfl (World.ownsRow_made w #[] 0 (Nat.le_refl _) (by decide) rfl) _ n (KSp.all l) rfl (sees_upd HS.out ((Upd.refl [] w).alloc _) (by simp)) HX.out (by have:=HB.out;unfold maxLen;omega) (by have:=HB.out;omega) (by simp) ?_)
  intro A C w1 HP
  have HU:=HP.upd
  have hb1:Upd [] w w1:=(((Upd.refl [] w).alloc _).trans' HU (fun k hk=>by simp [blk] at hk;omega))
  have hown:w1.ownsRow w.heap.size 62 3 (.slice A n C) n (KSp.all l):=by simpa using HP.own
  clear he
  go_wp2
  go_ret
  refine ⟨hb1,A,C,by rw [HN.out];rfl,?_⟩
  unfold Kind.row
  rw [HN.out]
  exact hown
def cmpI (x y:Int):Int:=if x<y then -1 else if y<x then 1 else 0
def byI (a b x y:Int):Int:=if cmpI a b=0 then cmpI x y else cmpI a b
theorem cmpI_lt {x y:Int} (h:x<y):cmpI x y = -1:=by unfold cmpI;rw [if_pos h]
theorem cmpI_gt {x y:Int} (h:y<x):cmpI x y=1:=by unfold cmpI;rw [if_neg (by omega),if_pos h]
theorem cmpI_eq {x y:Int} (h:x=y):cmpI x y=0:=by unfold cmpI;rw [if_neg (by omega),if_neg (by omega)]
theorem nanI (x:Int) (w:World):Calls Tryz.prog 240 #[.int .i64 x] w fun e w'=>e=.returned (.bool false)∧w=w':=by
 go_enter Tryz.func240,Tryz.ntmps240
 go_wp2_with fail
 go_ret
 exact ⟨by simp,rfl⟩
theorem nanN (x:Int) (w:World):Calls Tryz.prog 204 #[.int .u32 x] w fun e w'=>e=.returned (.bool false)∧w=w':=by
 go_enter Tryz.func204,Tryz.ntmps204
 go_wp2_with fail
 go_ret
 exact ⟨by simp,rfl⟩
theorem cmpInt (x y:Int) (w:World):Calls Tryz.prog 182 #[.int .i64 x,.int .i64 y] w fun e w'=>e=.returned (.int .i64 (cmpI x y))∧w=w':=by
 have H1:=Lib.hid (nanI x w)
 have H2:=Lib.hid (nanI y w)
 obtain ⟨r,hr⟩:∃r,cmpI x y=r:=⟨_,rfl⟩
 rw [hr]
 rcases Int.lt_trichotomy x y with h | h | h
 ·have e1:decide (x<y)=true:=decide_eq_true h
  have HR:=Lib.hid ((cmpI_lt h).symm.trans hr)
  clear hr
  go_enter Tryz.func182,Tryz.ntmps182
  go_wp2_with fail
  (with_reducible refine H1.out.mono ?_)
  rintro e w' ⟨rfl,rfl⟩
  go_wp2_with fail
  (with_reducible refine H2.out.mono ?_)
  rintro e w' ⟨rfl,rfl⟩
  go_wp2_with fail
  go_ret
  exact ⟨by rw [←HR.out];rfl,rfl⟩
 ·have HR:=Lib.hid ((cmpI_eq h).symm.trans hr)
  have h1:¬x<y:=by omega
  have h2:¬y<x:=by omega
  clear hr h
  go_enter Tryz.func182,Tryz.ntmps182
  go_wp2_with fail
  (with_reducible refine H1.out.mono ?_)
  rintro e w' ⟨rfl,rfl⟩
  go_wp2_with fail
  (with_reducible refine H2.out.mono ?_)
  rintro e w' ⟨rfl,rfl⟩
  go_wp2_with fail
  go_ret
  exact ⟨by rw [←HR.out];rfl,rfl⟩
 ·have HR:=Lib.hid ((cmpI_gt h).symm.trans hr)
  have h1:¬x<y:=by omega
  clear hr
  go_enter Tryz.func182,Tryz.ntmps182
  go_wp2_with fail
  (with_reducible refine H1.out.mono ?_)
  rintro e w' ⟨rfl,rfl⟩
  go_wp2_with fail
  (with_reducible refine H2.out.mono ?_)
  rintro e w' ⟨rfl,rfl⟩
  go_wp2_with fail
  go_ret
  exact ⟨by rw [←HR.out];rfl,rfl⟩
theorem cmpNum (x y:Int) (w:World):Calls Tryz.prog 136 #[.int .u32 x,.int .u32 y] w fun e w'=>e=.returned (.int .i64 (cmpI x y))∧w=w':=by
 have H1:=Lib.hid (nanN x w)
 have H2:=Lib.hid (nanN y w)
 obtain ⟨r,hr⟩:∃r,cmpI x y=r:=⟨_,rfl⟩
 rw [hr]
 rcases Int.lt_trichotomy x y with h | h | h
 ·have e1:decide (x<y)=true:=decide_eq_true h
  have HR:=Lib.hid ((cmpI_lt h).symm.trans hr)
  clear hr
  go_enter Tryz.func136,Tryz.ntmps136
  go_wp2_with fail
  (with_reducible refine H1.out.mono ?_)
  rintro e w' ⟨rfl,rfl⟩
  go_wp2_with fail
  (with_reducible refine H2.out.mono ?_)
  rintro e w' ⟨rfl,rfl⟩
  go_wp2_with fail
  go_ret
  exact ⟨by rw [←HR.out];rfl,rfl⟩
 ·have HR:=Lib.hid ((cmpI_eq h).symm.trans hr)
  have h1:¬x<y:=by omega
  have h2:¬y<x:=by omega
  clear hr h
  go_enter Tryz.func136,Tryz.ntmps136
  go_wp2_with fail
  (with_reducible refine H1.out.mono ?_)
  rintro e w' ⟨rfl,rfl⟩
  go_wp2_with fail
  (with_reducible refine H2.out.mono ?_)
  rintro e w' ⟨rfl,rfl⟩
  go_wp2_with fail
  go_ret
  exact ⟨by rw [←HR.out];rfl,rfl⟩
 ·have HR:=Lib.hid ((cmpI_gt h).symm.trans hr)
  have h1:¬x<y:=by omega
  clear hr
  go_enter Tryz.func136,Tryz.ntmps136
  go_wp2_with fail
  (with_reducible refine H1.out.mono ?_)
  rintro e w' ⟨rfl,rfl⟩
  go_wp2_with fail
  (with_reducible refine H2.out.mono ?_)
  rintro e w' ⟨rfl,rfl⟩
  go_wp2_with fail
  go_ret
  exact ⟨by rw [←HR.out];rfl,rfl⟩
theorem cmpFirstC (w:World) (g:Nat) (a b z:Int) (C:Nat) (h0:w.cell? ⟨g,0,none⟩=some (.int .i64 a)) (h1:w.cell? ⟨g,1,none⟩=some (.int .i64 b)) (hz:(if a=0 then b else a)=z) :
 Calls Tryz.prog 279 #[.slice (some ⟨g,0,none⟩) 2 C] w fun e w'=>e=.returned (.int .i64 z)∧w=w':=by
 have HZ:=Lib.hid hz
 clear hz
 go_enter Tryz.func279,Tryz.ntmps279
 go_wp2_with fail
 go_loopg [7] 2 (fun m s7 wr=>∃k:Nat,m+k=2∧s7=.int .i64 (k:Int)∧(0<k→a=0)∧(1<k→b=0)∧wr=w)
 case atStart=>exact ⟨0,rfl,rfl,by omega,by omega,rfl⟩
 case round=>
  obtain ⟨k,hk,rfl,ha,hb,rfl⟩:=hrel
  have hk3:k=0∨k=1∨k=2:=by omega
  rcases hk3 with rfl | rfl | rfl
  ·clear ha hb
   by_cases hz:a=0
   ·have hq:(a != 0)=false:=by simpa using hz
    have HA:=Lib.hid hz
    clear hz
    go_wp2_with fail
    go_roundg 1
    case measure=>omega
    case rel=>exact ⟨1,by omega,by go_num,fun _=>HA.out,by omega,rfl⟩
   ·have hq:(a != 0)=true:=by simpa using hz
    have HA:=Lib.hid hz
    clear hz
    go_wp2_with fail
    go_ret
    exact ⟨by rw [←HZ.out,if_neg HA.out];rfl,rfl⟩
  ·have HA:=Lib.hid (ha (by omega))
   clear ha hb
   by_cases hz:b=0
   ·have hq:(b != 0)=false:=by simpa using hz
    have HB:=Lib.hid hz
    clear hz
    go_wp2_with fail
    go_roundg 0
    case measure=>omega
    case rel=>exact ⟨2,by omega,by go_num,fun _=>HA.out,fun _=>HB.out,rfl⟩
   ·have hq:(b != 0)=true:=by simpa using hz
    clear hz
    go_wp2_with fail
    go_ret
    exact ⟨by rw [←HZ.out,if_pos HA.out];rfl,rfl⟩
  ·have HA:=Lib.hid (ha (by omega))
   have HB:=Lib.hid (hb (by omega))
   clear ha hb
   go_wp2_with fail
   go_ret
   exact ⟨by rw [←HZ.out,if_pos HA.out,HB.out];rfl,rfl⟩
theorem byC (a b x y:Int) (w:World):Calls Tryz.prog 236 #[.int .i64 a,.int .i64 b,.int .u32 x,.int .u32 y] w fun e w'=>e=.returned (.int .i64 (byI a b x y))∧∃o,w'=w.alloc o:=by
 have H1:=Lib.hid (cmpInt a b w)
 have H2:=Lib.hid (cmpNum x y w)
 obtain ⟨z,hz⟩:∃z,byI a b x y=z:=⟨_,rfl⟩
 rw [hz]
 unfold byI at hz
 generalize cmpI a b=r at H1 hz
 generalize cmpI x y=q at H2 hz
 have H3:=Lib.hid (cmpFirstC (w.alloc (.cells #[.int .i64 r,.int .i64 q] 3)) w.heap.size r q z 2 (by rw [World.cell?_alloc_at _ _ _ _ rfl];rfl) (by rw [World.cell?_alloc_at _ _ _ _ rfl];rfl) hz)
 clear hz
 go_enter Tryz.func236,Tryz.ntmps236
 go_wp2_with fail
 (with_reducible refine H1.out.mono ?_)
 rintro e w' ⟨rfl,rfl⟩
 go_wp2_with fail
 (with_reducible refine H2.out.mono ?_)
 rintro e w' ⟨rfl,rfl⟩
 go_wp2_with fail
 (with_reducible refine H3.out.mono ?_)
 rintro e w' ⟨rfl,rfl⟩
 go_wp2_with fail
 go_ret
 exact ⟨rfl,_,rfl⟩
def cmpLo (s t:Sp):Int:=byI s.lo t.lo s.id t.id
def cmpHi (s t:Sp):Int:=byI s.hi t.hi s.id t.id
theorem byLoC (s t:Sp) (w:World):Calls Tryz.prog 172 #[spV s,spV t] w fun e w'=>e=.returned (.int .i64 (cmpLo s t))∧∃a b c,w'=((w.alloc a).alloc b).alloc c:=by
 obtain ⟨a,b,x⟩:=s
 obtain ⟨c,d,y⟩:=t
 have H:=fun w=>byC a c (x:Int) (y:Int) w
 have H1:=Lib.hid H
 unfold spV cmpLo
 dsimp only
 clear H
 go_enter Tryz.func172,Tryz.ntmps172
 go_wp2_with fail
 (with_reducible refine (H1.out _).mono ?_)
 rintro e w' ⟨rfl,o,rfl⟩
 go_wp2_with fail
 go_ret
 exact ⟨rfl,_,_,_,rfl⟩
theorem byHiC (s t:Sp) (w:World):Calls Tryz.prog 238 #[spV s,spV t] w fun e w'=>e=.returned (.int .i64 (cmpHi s t))∧∃a b c,w'=((w.alloc a).alloc b).alloc c:=by
 obtain ⟨a,b,x⟩:=s
 obtain ⟨c,d,y⟩:=t
 have H:=fun w=>byC b d (x:Int) (y:Int) w
 have H1:=Lib.hid H
 unfold spV cmpHi
 dsimp only
 clear H
 go_enter Tryz.func238,Tryz.ntmps238
 go_wp2_with fail
 (with_reducible refine (H1.out _).mono ?_)
 rintro e w' ⟨rfl,o,rfl⟩
 go_wp2_with fail
 go_ret
 exact ⟨rfl,_,_,_,rfl⟩
theorem fallHiC (s t:Sp) (w:World):Calls Tryz.prog 237 #[spV s,spV t] w fun e w'=>e=.returned (.int .i64 (cmpHi t s))∧∃a b c d e,w'=((((w.alloc a).alloc b).alloc c).alloc d).alloc e:=by
 have H1:=Lib.hid (fun w=>byHiC t s w)
 obtain ⟨z,hz⟩:∃z,cmpHi t s=z:=⟨_,rfl⟩
 rw [hz] at H1 ⊢
 clear hz
 obtain ⟨a,b,x⟩:=s
 obtain ⟨c,d,y⟩:=t
 unfold spV at H1 ⊢
 dsimp only at H1 ⊢
 go_enter Tryz.func237,Tryz.ntmps237
 go_wp2_with fail
 (with_reducible refine (H1.out _).mono ?_)
 rintro e w' ⟨rfl,o,o1,o2,rfl⟩
 go_wp2_with fail
 go_ret
 exact ⟨rfl,_,_,_,_,_,rfl⟩
def IndexSPost (w:World) (l:List Sp) (x:Sp) (e:Ending) (w':World):Prop:=
 Upd [] w w'∧((x∉l∧e=.returned (.int .i64 (-1)))∨∃k:Nat,l[k]? = some x∧e=.returned (.int .i64 (k:Int)))
theorem indexS (v:Value) (l:List Sp) (x:Sp) (w:World) (hs:See KSp w v l) (hb:l.length<1000000) :
 Calls Tryz.prog 174 #[v,spV x] w (IndexSPost w l x):=by
 obtain ⟨A,C,rfl⟩:=hs.form
 obtain ⟨N,hN⟩:∃N,l.length=N:=⟨_,rfl⟩
 rw [hN] at hs hb ⊢
 have H:=Lib.hid hs
 have HN:=Lib.hid hN
 clear hs hN
 obtain ⟨lo,hi,id⟩:=x
 have HW0:=Lib.hid ((Upd.refl [] w).alloc (.cells #[.int .i64 lo,.int .i64 hi,.int .u32 (id:Int)] 62))
 have hz0:w.heap.size<(w.alloc (.cells #[.int .i64 lo,.int .i64 hi,.int .u32 (id:Int)] 62)).heap.size:=by simp
 have d0:(w.alloc (.cells #[.int .i64 lo,.int .i64 hi,.int .u32 (id:Int)] 62)).cell? ⟨w.heap.size,0,none⟩=some (.int .i64 lo):=by rw [World.cell?_alloc_at _ _ _ _ rfl];rfl
 have d1:(w.alloc (.cells #[.int .i64 lo,.int .i64 hi,.int .u32 (id:Int)] 62)).cell? ⟨w.heap.size,1,none⟩=some (.int .i64 hi):=by rw [World.cell?_alloc_at _ _ _ _ rfl];rfl
 have d2:(w.alloc (.cells #[.int .i64 lo,.int .i64 hi,.int .u32 (id:Int)] 62)).cell? ⟨w.heap.size,2,none⟩=some (.int .u32 (id:Int)):=by rw [World.cell?_alloc_at _ _ _ _ rfl];rfl
 unfold spV
 dsimp only
 go_enter Tryz.func174,Tryz.ntmps174
 go_upto_region 1 with fail
 generalize (w.alloc (.cells #[.int .i64 lo,.int .i64 hi,.int .u32 (id:Int)] 62))=W0 at HW0 hz0 d0 d1 d2 ⊢
 go_wp2_with fail
 go_loopg [8] N (fun m s8 wr=>∃k:Nat,m+k=N∧s8=.int .i64 (k:Int)∧(⟨lo,hi,id⟩:Sp)∉l.take k∧Upd [] W0 wr)
 case atStart=>exact ⟨0,rfl,rfl,by simp,Upd.refl _ _⟩
 case round=>
  obtain ⟨k,hk,rfl,hno,hup⟩:=hrel
  have k0:(0:Int)≤(k:Int):=Int.natCast_nonneg _
  have hkN:k≤N:=by omega
  have hw1:Upd [] w wr:=HW0.out.trans hup
  have e0:=(hup.cell (p:=⟨w.heap.size,0,none⟩) hz0 (by simp)).trans d0
  have e1:=(hup.cell (p:=⟨w.heap.size,1,none⟩) hz0 (by simp)).trans d1
  have e2:=(hup.cell (p:=⟨w.heap.size,2,none⟩) hz0 (by simp)).trans d2
  have HK:=Lib.hid (And.intro hk (And.intro hno (And.intro hup hw1)))
  clear hk hno hup
  by_cases hlt:k<N
  ·obtain ⟨s,hs⟩:∃s,l[k]? = some s:=⟨_,List.getElem?_eq_getElem (by rw [HN.out];exact hlt)⟩
   have hse:See KSp wr (.slice A N C) l:=H.out.upd0 hw1
   have HS:=Lib.hid hs
   obtain ⟨lo2,hi2,id2⟩:=s
   obtain ⟨g,o,rfl,-,-,ey⟩:=hse.at hs
   have y0:wr.cell? ⟨g,o+k*3,none⟩=some (.int .i64 lo2):=ey 0 _ rfl
   have y1:wr.cell? ⟨g,o+k*3+1,none⟩=some (.int .i64 hi2):=ey 1 _ rfl
   have y2:wr.cell? ⟨g,o+k*3+2,none⟩=some (.int .u32 (id2:Int)):=ey 2 _ rfl
   have b1:(k:Int)<(N:Int):=by omega
   have heq:=fun w=>eqSp ⟨lo,hi,id⟩ ⟨lo2,hi2,id2⟩ w
   clear hs hse ey hw1 d0 d1 d2
   by_cases hxy:(⟨lo,hi,id⟩:Sp)=⟨lo2,hi2,id2⟩
   ·rw [decide_eq_true hxy] at heq
    unfold spV at heq
    dsimp only at heq
    have HE:=Lib.hid hxy
    clear hxy
    go_wp2_with fail
    go_quiet (fail)
    go_wp2_with fail
    go_ret
    exact ⟨HK.out.2.2.2.drewN _,.inr ⟨k,by rw [HS.out,HE.out],rfl⟩⟩
   ·rw [decide_eq_false hxy] at heq
    unfold spV at heq
    dsimp only at heq
    have HE:=Lib.hid hxy
    clear hxy
    go_wp2_with fail
    go_quiet (fail)
    go_wp2_with fail
    go_roundg (N - (k+1))
    case measure=>have:=HK.out.1;omega
    case rel=>
     refine ⟨k+1,by have:=HK.out.1;omega,by go_num,?_,HK.out.2.2.1.drewN _⟩
     obtain ⟨h1,h2⟩:=List.getElem?_eq_some_iff.1 HS.out
     rw [List.take_succ_eq_append_getElem h1,h2,List.mem_append]
     rintro (hc | hc)
     ·exact HK.out.2.1 hc
     ·exact HE.out (by simpa using hc)
  ·have hkn:k=N:=by omega
   have hno:=HK.out.2.1
   rw [hkn,←HN.out,List.take_length] at hno
   have HNO:=Lib.hid hno
   clear hno hkn
   go_wp2_with fail
   go_ret
   exact ⟨HK.out.2.2.2,.inl ⟨HNO.out,rfl⟩⟩
def DelPost (w:World) (base g C:Nat) (l:List Sp) (k:Nat) (e:Ending) (w':World):Prop:=
 e=.returned (.slice (some ⟨g,0,none⟩) (l.length - 1) C)∧KSp.row w' base (.slice (some ⟨g,0,none⟩) (l.length - 1) C) (l.eraseIdx k)∧Upd [g] w w'
theorem deleteC (base g n C:Nat) (l:List Sp) (k:Nat) (w:World) (h:KSp.row w base (.slice (some ⟨g,0,none⟩) n C) l) (hn:l.length=n) (hk:k<n) (hb:n<1000000) :
 Calls Tryz.prog 175 #[.slice (some ⟨g,0,none⟩) n C,.int .i64 (k:Int),.int .i64 ((k:Int)+1)] w (DelPost w base g C l k):=by
 obtain ⟨i1,hi1,hy0,hy1,hy2⟩:=info_parts infoSpanD
 have hown:w.ownsRow base 62 3 (.slice (some ⟨g,0,none⟩) n C) n (KSp.all l):=by
  have:=h
  unfold Kind.row at this
  rwa [hn] at this
 have hnC:=own_cap hown
 have hse:Sees w 3 (.slice (some ⟨g,0,none⟩) n C) n (KSp.all l):=sees_of_own hown
 have hCm:C≤maxLen:=by
  rcases hown.2 with ⟨h2,_⟩ | ⟨g',cap,cur,h2,h3,h4,h5,h6,h7,h8⟩
  ·cases h2
  ·cases h2;exact h6
 obtain ⟨v3,c3⟩:=cut_three (P:=Tryz.prog) Tryz.underlying56 hi1 g n C k hk hnC
 have c1:=cut_head (P:=Tryz.prog) Tryz.underlying56 hi1 g n C k (by omega)
 obtain ⟨A2,C2,c2,s2,-⟩:=cut_from (P:=Tryz.prog) (t:=56) Tryz.underlying56 hi1 hy1 hse (k+1) (by omega)
 have c2':∀w',(Instr.slice 56 (.slice (some ⟨g,0,none⟩) n C) (some (.int .i64 ((k:Int)+1))) none none).run Tryz.prog w'=.ok (.slice A2 (n - (k+1)) C2) w':=c2
 obtain ⟨m,hm⟩:∃m,n - (k+1)=m:=⟨_,rfl⟩
 rw [hm] at c2' s2
 have c4:=cut_behind (P:=Tryz.prog) Tryz.underlying56 hi1 hy1 g (k+m) C n (by omega) hnC
 have e1:((k+m:Nat):Int)=(k:Int)+(m:Int):=by omega
 have e2:n - (k+m)=1:=by omega
 rw [e1,e2] at c4
 have hkn:((k:Int)==(k:Int)+1)=false:=by rw [beq_eq_false_iff_ne];omega
 have k0:(0:Int)≤(k:Int):=Int.natCast_nonneg _
 have k1:(k:Int)<(n:Int):=by omega
 have n0:(n:Int)<1000000:=by omega
 have m0:(0:Int)≤(m:Int):=Int.natCast_nonneg _
 have m1:(m:Int)<1000000:=by omega
 have htake:=own_take hown k (by omega)
 have HS:=Lib.hid (s2 w.drew (Sees.drew hse))
 have HT:=Lib.hid (owns_drew htake)
 have HN:=Lib.hid (And.intro hn (And.intro hm hk))
 have HC:=Lib.hid hnC
 clear h hown hse c2 s2 htake e1 e2 hn hm hk hnC
 go_enter Tryz.func175,Tryz.ntmps175
 go_upto_region 5 with fail
 go_region_law (refine step_app_spare _ rfl (.tmp 22) (.tmp 25) 56 rfl base 62 i1 3 Tryz.underlying56 hi1 hy1 g k C _ (by simp [Act.eval,Act.put]) HT.out _ m _ (by simp [Act.eval,Act.put]) HS.out (by rw [←kh_dropS];exact KSp.all_one _) (by have:=HN.out;have:=HC.out;omega) ?_;intro w2 ho2 hu2)
 have HO2:=Lib.hid ho2
 have HU2:=Lib.hid hu2
 have hcl:∀ty,(Builtin.clear_ #[56] ty #[.slice (some ⟨g,(k+m)*3,none⟩) 1 (C - (k+m))]).run Tryz.prog w2=.ok (.tuple #[]) (w2.setCells g ((k+m)*3) (Builtin.zeroCells (Value.agg #[.int .i64 0,.int .i64 0,.int .u32 0]).cells 1).toList):=fun ty=>
  run_clear_any (size:=3) w2 _ 62 ty _ Tryz.underlying56 zeroSpanD rfl (by simp [Value.oneCell',Value.cells]) (by decide) g _ 1 _ (by decide)
   (fun j hj=>by have h1:=HN.out;have h2:=HC.out;exact (own_room ho2 ((k+m)*3+j) (by omega)).1) (fun j hj=>by have h1:=HN.out;have h2:=HC.out;exact (own_room ho2 ((k+m)*3+j) (by omega)).2)
 obtain ⟨LL,hLL⟩:∃LL,(Builtin.zeroCells (Value.agg #[.int .i64 0,.int .i64 0,.int .u32 0]).cells 1).toList=LL:=⟨_,rfl⟩
 rw [hLL] at hcl
 clear ho2 hu2 hLL c1 c2' c3
 go_wp2_with fail
 go_ret
 refine ⟨?_,?_,?_⟩
 ·have:=HN.out
  rw [show l.length - 1=k+m by omega]
  rfl
 ·have h1:=HN.out
  have h2:=own_sets_behind LL w2 ((k+m)*3) HO2.out (Nat.le_refl _)
  have h3:(l.eraseIdx k).length=k+m:=by rw [List.length_eraseIdx_of_lt (by omega)];omega
  unfold Kind.row
  rw [show l.length - 1=k+m by omega,h3]
  have h4:KSp.all (l.eraseIdx k)=(KSp.all l).take (k*3)++(KSp.all l).drop ((k+1)*3):=by
   rw [List.eraseIdx_eq_take_drop_succ,KSp.all_app,KSp.all_take,KSp.all_drop]
   rfl
  rw [h4]
  exact h2
 ·exact ((Upd.refl [g] w).drew.trans HU2.out).trans (upd_sets LL w2 _)
end Go.Proofs.YtkbaaonchdeneaaGreat
