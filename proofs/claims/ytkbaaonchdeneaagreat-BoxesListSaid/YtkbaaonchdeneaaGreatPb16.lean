/- slices.Clone, Index and IndexFunc at spans. cmp.Compare at int64 and uint32; item.first, by, -/
import Derived.Deep.MidRow
import Derived.Test.YtkbaaonchdeneaaGreatPb15
set_option maxHeartbeats 8000000
set_option maxRecDepth 100000
namespace Go.Proofs.YtkbaaonchdeneaaGreat
open Go.RowKit
def Xj (w:World) (l:List Sp) (e:Ending) (w':World):Prop:=
 Bf [] w w'∧∃A C,e=.returned (.slice A l.length C)∧Dt.row w' w.heap.size (.slice A l.length C) l
theorem mD (v:Value) (l:List Sp) (w:World) (hs:See Dt w v l) (hb:l.length<1000000) :
 Calls Tryz.prog 170 #[v] w (Xj w l):=by
 obtain ⟨i0,hi,hz0,hz1,hz2⟩:=info_parts QD;obtain ⟨n,hn⟩:=AO l.length;have hx1:∀u∈Dt.all l,u.oneCell'=true:=Dt.DZ l;have hs':Ed w 3 v n (Dt.all l):=by rw [←hn];exact hs
 have HS:=AQ hs';have HX:=AQ hx1;have HN:=AQ hn;rw [hn] at hb;have HB:=AQ hb;clear hx1 hn hb hs;unfold Xj;rcases hs'.2 with ⟨rfl,rfl⟩ | ⟨b,o,sp,cap,rfl,_⟩
 ·clear hs';have he:=fun w=>Lib.run_eql_slice_nil (P:=Tryz.prog) (w:=w) 56 62 none 0 0 0 0 Tryz.underlying56
  go_enter Tryz.func170,Tryz.ntmps170
  go_wp2
  go_ret
  have hx:l = []:=List.eq_nil_of_length_eq_zero HN.out;subst hx;exact ⟨Bf.refl _ _,none,0,rfl,World.ownsRow_nil _ _ _ _⟩
 ·clear hs';have he:=fun w=>Lib.run_eql_slice_nil (P:=Tryz.prog) (w:=w) 56 62 (some ⟨b,o,sp⟩) n cap 0 0 Tryz.underlying56
  go_enter Tryz.func170,Tryz.ntmps170
  go_wp2_with (at_builtin;refine BL _ rfl _ _ 56 rfl w.heap.size 62 i0 _ 3 24 Tryz.underlying56 hi hz0 hz1 hz2 rfl (by decide) _ 0 [] rfl (World.ownsRow_made w #[] 0 (Nat.le_refl _) (by decide) rfl) _ n (Dt.all l) rfl (Dq HS.out ((Bf.refl [] w).alloc _) (by simp)) HX.out (by have:=HB.out;unfold maxLen;omega) (Ac HB) (by simp) ?_)
  intro A C w1 HP;have HU:=HP.upd;have hb1:Bf [] w w1:=(((Bf.refl [] w).alloc _).trans' HU (fun k hk=>by simp [blk] at hk;omega));have hown:w1.ownsRow w.heap.size 62 3 (.slice A n C) n (Dt.all l):=by simpa using HP.own
  clear he;go_wp2
  go_ret
  refine ⟨hb1,A,C,by rw [HN.out];rfl,?_⟩
  unfold Kind.row;rw [HN.out];exact hown
def Et (x y:Int):Int:=if x<y then -1 else if y<x then 1 else 0
def byI (a b x y:Int):Int:=if Et a b=0 then Et x y else Et a b
theorem QE {x y:Int} (h:x<y):Et x y = -1:=by unfold Et;rw [if_pos h]
theorem Tt {x y:Int} (h:y<x):Et x y=1:=by unfold Et;rw [if_neg (by omega),if_pos h]
theorem Tv {x y:Int} (h:x=y):Et x y=0:=by unfold Et;rw [if_neg (by omega),if_neg (by omega)]
theorem a6b (x:Int) (w:World):Calls Tryz.prog 240 #[.int .i64 x] w fun e w'=>e=.returned (.bool false)∧w=w':=by
 go_enter Tryz.func240,Tryz.ntmps240
 go_wp2_with fail
 go_ret
 exact ⟨by simp,rfl⟩
theorem a6c (x:Int) (w:World):Calls Tryz.prog 204 #[.int .u32 x] w fun e w'=>e=.returned (.bool false)∧w=w':=by
 go_enter Tryz.func204,Tryz.ntmps204
 go_wp2_with fail
 go_ret
 exact ⟨by simp,rfl⟩
theorem cmpInt (x y:Int) (w:World):Calls Tryz.prog 182 #[.int .i64 x,.int .i64 y] w fun e w'=>e=.returned (.int .i64 (Et x y))∧w=w':=by
 have H1:=AQ (a6b x w);have H2:=AQ (a6b y w);obtain ⟨r,hr⟩:=AO (Et x y);rw [hr];rcases Int.lt_trichotomy x y with h | h | h
 ·have e1:decide (x<y)=true:=decide_eq_true h;have HR:=AQ ((QE h).symm.trans hr);clear hr;go_enter Tryz.func182,Tryz.ntmps182
  go_wp2_with fail
  (with_reducible refine H1.out.mono ?_);rintro e w' ⟨rfl,rfl⟩;go_wp2_with fail
  (with_reducible refine H2.out.mono ?_);rintro e w' ⟨rfl,rfl⟩;go_wp2_with fail
  go_ret
  exact ⟨by rw [←HR.out];rfl,rfl⟩
 ·have HR:=AQ ((Tv h).symm.trans hr);have h1:¬x<y:=by omega
  have h2:¬y<x:=by omega
  clear hr h;go_enter Tryz.func182,Tryz.ntmps182
  go_wp2_with fail
  (with_reducible refine H1.out.mono ?_);rintro e w' ⟨rfl,rfl⟩;go_wp2_with fail
  (with_reducible refine H2.out.mono ?_);rintro e w' ⟨rfl,rfl⟩;go_wp2_with fail
  go_ret
  exact ⟨by rw [←HR.out];rfl,rfl⟩
 ·have HR:=AQ ((Tt h).symm.trans hr);have h1:¬x<y:=by omega
  clear hr;go_enter Tryz.func182,Tryz.ntmps182
  go_wp2_with fail
  (with_reducible refine H1.out.mono ?_);rintro e w' ⟨rfl,rfl⟩;go_wp2_with fail
  (with_reducible refine H2.out.mono ?_);rintro e w' ⟨rfl,rfl⟩;go_wp2_with fail
  go_ret
  exact ⟨by rw [←HR.out];rfl,rfl⟩
theorem UO (x y:Int) (w:World):Calls Tryz.prog 136 #[.int .u32 x,.int .u32 y] w fun e w'=>e=.returned (.int .i64 (Et x y))∧w=w':=by
 have H1:=AQ (a6c x w);have H2:=AQ (a6c y w);obtain ⟨r,hr⟩:=AO (Et x y);rw [hr];rcases Int.lt_trichotomy x y with h | h | h
 ·have e1:decide (x<y)=true:=decide_eq_true h;have HR:=AQ ((QE h).symm.trans hr);clear hr;go_enter Tryz.func136,Tryz.ntmps136
  go_wp2_with fail
  (with_reducible refine H1.out.mono ?_);rintro e w' ⟨rfl,rfl⟩;go_wp2_with fail
  (with_reducible refine H2.out.mono ?_);rintro e w' ⟨rfl,rfl⟩;go_wp2_with fail
  go_ret
  exact ⟨by rw [←HR.out];rfl,rfl⟩
 ·have HR:=AQ ((Tv h).symm.trans hr);have h1:¬x<y:=by omega
  have h2:¬y<x:=by omega
  clear hr h;go_enter Tryz.func136,Tryz.ntmps136
  go_wp2_with fail
  (with_reducible refine H1.out.mono ?_);rintro e w' ⟨rfl,rfl⟩;go_wp2_with fail
  (with_reducible refine H2.out.mono ?_);rintro e w' ⟨rfl,rfl⟩;go_wp2_with fail
  go_ret
  exact ⟨by rw [←HR.out];rfl,rfl⟩
 ·have HR:=AQ ((Tt h).symm.trans hr);have h1:¬x<y:=by omega
  clear hr;go_enter Tryz.func136,Tryz.ntmps136
  go_wp2_with fail
  (with_reducible refine H1.out.mono ?_);rintro e w' ⟨rfl,rfl⟩;go_wp2_with fail
  (with_reducible refine H2.out.mono ?_);rintro e w' ⟨rfl,rfl⟩;go_wp2_with fail
  go_ret
  exact ⟨by rw [←HR.out];rfl,rfl⟩
theorem pW (w:World) (g:Nat) (a b z:Int) (C:Nat) (h0:w.cell? ⟨g,0,none⟩=some (.int .i64 a)) (h1:w.cell? ⟨g,1,none⟩=some (.int .i64 b)) (hz:(if a=0 then b else a)=z) :
 Calls Tryz.prog 279 #[.slice (some ⟨g,0,none⟩) 2 C] w fun e w'=>e=.returned (.int .i64 z)∧w=w':=by
 have HZ:=AQ hz;clear hz;go_enter Tryz.func279,Tryz.ntmps279
 go_wp2_with fail
 go_loopg [7] 2 (fun m s7 wr=>∃k:Nat,m+k=2∧s7=.int .i64 (k:Int)∧(0<k→a=0)∧(1<k→b=0)∧wr=w)
 case atStart=>exact ⟨0,rfl,rfl,by omega,by omega,rfl⟩
 case round=>
  obtain ⟨k,hk,rfl,ha,hb,rfl⟩:=hrel;have hk3:k=0∨k=1∨k=2:=by omega
  rcases hk3 with rfl | rfl | rfl
  ·clear ha hb;by_cases hz:a=0
   ·have hq:(a != 0)=false:=by simpa using hz
    have HA:=AQ hz;clear hz;go_wp2_with fail
    go_roundg 1
    case measure=>omega
    case rel=>exact ⟨1,by omega,by go_num,fun _=>HA.out,by omega,rfl⟩
   ·have hq:(a != 0)=true:=by simpa using hz
    have HA:=AQ hz;clear hz;go_wp2_with fail
    go_ret
    exact ⟨by rw [←HZ.out,if_neg HA.out];rfl,rfl⟩
  ·have HA:=AQ (ha (by omega));clear ha hb;by_cases hz:b=0
   ·have hq:(b != 0)=false:=by simpa using hz
    have HB:=AQ hz;clear hz;go_wp2_with fail
    go_roundg 0
    case measure=>omega
    case rel=>exact ⟨2,by omega,by go_num,fun _=>HA.out,fun _=>HB.out,rfl⟩
   ·have hq:(b != 0)=true:=by simpa using hz
    clear hz;go_wp2_with fail
    go_ret
    exact ⟨by rw [←HZ.out,if_pos HA.out];rfl,rfl⟩
  ·have HA:=AQ (ha (by omega));have HB:=AQ (hb (by omega));clear ha hb;go_wp2_with fail
   go_ret
   exact ⟨by rw [←HZ.out,if_pos HA.out,HB.out];rfl,rfl⟩
theorem byC (a b x y:Int) (w:World):Calls Tryz.prog 236 #[.int .i64 a,.int .i64 b,.int .u32 x,.int .u32 y] w fun e w'=>e=.returned (.int .i64 (byI a b x y))∧∃o,w'=w.alloc o:=by
 have H1:=AQ (cmpInt a b w);have H2:=AQ (UO x y w);obtain ⟨z,hz⟩:=AO (byI a b x y);rw [hz];unfold byI at hz;generalize Et a b=r at H1 hz;generalize Et x y=q at H2 hz;have H3:=AQ (pW (w.alloc (.cells #[.int .i64 r,.int .i64 q] 3)) w.heap.size r q z 2 (by rw [World.cell?_alloc_at _ _ _ _ rfl];rfl) (by rw [World.cell?_alloc_at _ _ _ _ rfl];rfl) hz);clear hz;go_enter Tryz.func236,Tryz.ntmps236
 go_wp2_with fail
 (with_reducible refine H1.out.mono ?_);rintro e w' ⟨rfl,rfl⟩;go_wp2_with fail
 (with_reducible refine H2.out.mono ?_);rintro e w' ⟨rfl,rfl⟩;go_wp2_with fail
 (with_reducible refine H3.out.mono ?_);rintro e w' ⟨rfl,rfl⟩;go_wp2_with fail
 go_ret
 exact ⟨rfl,_,rfl⟩
def Tz (s t:Sp):Int:=byI s.lo t.lo s.id t.id
def PG (s t:Sp):Int:=byI s.hi t.hi s.id t.id
theorem a6d (s t:Sp) (w:World):Calls Tryz.prog 172 #[KR s,KR t] w fun e w'=>e=.returned (.int .i64 (Tz s t))∧∃a b c,w'=((w.alloc a).alloc b).alloc c:=by
 obtain ⟨a,b,x⟩:=s;obtain ⟨c,d,y⟩:=t;have H:=fun w=>byC a c (x:Int) (y:Int) w
 have H1:=AQ H;unfold KR Tz;dsimp only;clear H;go_enter Tryz.func172,Tryz.ntmps172
 go_wp2_with fail
 (with_reducible refine (H1.out _).mono ?_);rintro e w' ⟨rfl,o,rfl⟩;go_wp2_with fail
 go_ret
 exact ⟨rfl,_,_,_,rfl⟩
theorem a6e (s t:Sp) (w:World):Calls Tryz.prog 238 #[KR s,KR t] w fun e w'=>e=.returned (.int .i64 (PG s t))∧∃a b c,w'=((w.alloc a).alloc b).alloc c:=by
 obtain ⟨a,b,x⟩:=s;obtain ⟨c,d,y⟩:=t;have H:=fun w=>byC b d (x:Int) (y:Int) w
 have H1:=AQ H;unfold KR PG;dsimp only;clear H;go_enter Tryz.func238,Tryz.ntmps238
 go_wp2_with fail
 (with_reducible refine (H1.out _).mono ?_);rintro e w' ⟨rfl,o,rfl⟩;go_wp2_with fail
 go_ret
 exact ⟨rfl,_,_,_,rfl⟩
theorem a0M (s t:Sp) (w:World):Calls Tryz.prog 237 #[KR s,KR t] w fun e w'=>e=.returned (.int .i64 (PG t s))∧∃a b c d e,w'=((((w.alloc a).alloc b).alloc c).alloc d).alloc e:=by
 have H1:=AQ (fun w=>a6e t s w);obtain ⟨z,hz⟩:=AO (PG t s);rw [hz] at H1 ⊢;clear hz;obtain ⟨a,b,x⟩:=s;obtain ⟨c,d,y⟩:=t;unfold KR at H1 ⊢;dsimp only at H1 ⊢;go_enter Tryz.func237,Tryz.ntmps237
 go_wp2_with fail
 (with_reducible refine (H1.out _).mono ?_);rintro e w' ⟨rfl,o,o1,o2,rfl⟩;go_wp2_with fail
 go_ret
 exact ⟨rfl,_,_,_,_,_,rfl⟩
structure RS (w:World) (q:Nat) (x:Sp):Prop where
 a:w.cell? ⟨q,0,none⟩=some (.int .i64 x.lo)
 b:w.cell? ⟨q,1,none⟩=some (.int .i64 x.hi)
 c:w.cell? ⟨q,2,none⟩=some (.int .u32 (x.id:Int))
theorem RS.lt {w:World} {q:Nat} {x:Sp} (h:RS w q x):q<w.heap.size:=World.block_lt_of_cell? w _ h.a
theorem RS.upd {w w':World} {q:Nat} {x:Sp} (h:RS w q x) {F:List Nat} (hu:Bf F w w') (hq:q∉F):RS w' q x:=
 ⟨(hu.cell (p:=⟨q,0,none⟩) h.lt hq).trans h.a,(hu.cell (p:=⟨q,1,none⟩) h.lt hq).trans h.b,(hu.cell (p:=⟨q,2,none⟩) h.lt hq).trans h.c⟩
theorem RS.new (w:World) (x:Sp):RS (w.alloc (.cells #[.int .i64 x.lo,.int .i64 x.hi,.int .u32 (x.id:Int)] 62)) w.heap.size x:=
 ⟨by rw [World.cell?_alloc_at _ _ _ _ rfl];rfl,by rw [World.cell?_alloc_at _ _ _ _ rfl];rfl,by rw [World.cell?_alloc_at _ _ _ _ rfl];rfl⟩
theorem a1U (s x:Sp) (q:Nat) (w:World) (h:RS w q x) :
 Calls Tryz.prog 176 #[KR s,.pointer (some ⟨q,0,none⟩)] w fun e w'=>e=.returned (.bool (decide (s=x)))∧Bf [] w w':=by
 have hb:=RS.new w s;have hx:=h.upd ((Bf.refl [] w).alloc (.cells #[.int .i64 s.lo,.int .i64 s.hi,.int .u32 (s.id:Int)] 62)) (by simp);have hu:Bf [] w (w.alloc (.cells #[.int .i64 s.lo,.int .i64 s.hi,.int .u32 (s.id:Int)] 62)):=(Bf.refl _ _).alloc _;have heq:=fun w=>a5Z s x w
 obtain ⟨r,hr⟩:∃r,decide (s=x)=r:=⟨_,rfl⟩;rw [hr] at heq ⊢;unfold KR at heq ⊢;go_enter Tryz.func176,Tryz.ntmps176
 go_upto_region 1 with fail
 generalize (w.alloc (.cells #[.int .i64 s.lo,.int .i64 s.hi,.int .u32 (s.id:Int)] 62))=W at hb hx hu ⊢;obtain ⟨a0,a1,a2⟩:=hb;obtain ⟨b0,b1,b2⟩:=hx;clear h hr;go_wp2_with fail
 go_ret
 exact ⟨rfl,hu⟩
def jl (w:World) (l:List Sp) (x:Sp) (e:Ending) (w':World):Prop:=
 Bf [] w w'∧((x∉l∧e=.returned (.int .i64 (-1)))∨∃k:Nat,l[k]? = some x∧e=.returned (.int .i64 (k:Int)))
theorem a0N (v:Value) (l:List Sp) (x:Sp) (q:Nat) (w:World) (hs:See Dt w v l) (hb:l.length<1000000) (hq:RS w q x) :
 Calls Tryz.prog 239 #[v,.func (.func 176) #[] #[.pointer (some ⟨q,0,none⟩)]] w (jl w l x):=by
 obtain ⟨A,C,rfl⟩:=hs.form;obtain ⟨N,hN⟩:=AO l.length;rw [hN] at hs hb ⊢;have H:=AQ hs;have HN:=AQ hN;have HQ:=AQ hq;clear hs hN hq;go_enter Tryz.func239,Tryz.ntmps239
 go_wp2_with fail
 go_loopg [8] N (fun m s8 wr=>∃k:Nat,m+k=N∧s8=.int .i64 (k:Int)∧x∉l.take k∧Bf [] w wr)
 case atStart=>exact ⟨0,rfl,rfl,by simp,Bf.refl _ _⟩
 case round=>
  obtain ⟨k,hk,rfl,hno,hup⟩:=hrel;have k0:(0:Int)≤(k:Int):=AU _;have hkN:k≤N:=by omega
  have HK:=Aj hk hno hup;by_cases hlt:k<N
  ·obtain ⟨s,hs⟩:∃s,l[k]? = some s:=⟨_,AX (by rw [HN.out];exact hlt)⟩;obtain ⟨g,o,hA,-,-,ey⟩:=(H.out.Bh hup).at hs;subst hA;have y0:wr.cell? ⟨g,o+k*3,none⟩=some (.int .i64 s.lo):=ey 0 _ rfl;have y1:wr.cell? ⟨g,o+k*3+1,none⟩=some (.int .i64 s.hi):=ey 1 _ rfl;have y2:wr.cell? ⟨g,o+k*3+2,none⟩=some (.int .u32 (s.id:Int)):=ey 2 _ rfl;have b1:(k:Int)<(N:Int):=by omega
   have hc:=a1U s x q wr (HQ.out.upd hup (by simp));unfold KR at hc;have HS:=AQ hs;clear hs ey hk hno hup;by_cases hxy:s=x
   ·rw [decide_eq_true hxy] at hc;have HC:=Ai hc hxy;clear hc hxy;go_wp2_with fail
    (with_reducible refine HC.out.1.mono ?_);rintro e w2 ⟨rfl,u2⟩;have HU:=AQ u2;clear u2;go_wp2_with fail
    go_ret
    exact ⟨HK.2.2.trans HU.out,.inr ⟨k,by rw [HS.out,HC.2],rfl⟩⟩
   ·rw [decide_eq_false hxy] at hc;have HC:=Ai hc hxy;clear hc hxy;go_wp2_with fail
    (with_reducible refine HC.out.1.mono ?_);rintro e w2 ⟨rfl,u2⟩;have HU:=AQ u2;clear u2 y0 y1 y2;go_wp2_with fail
    go_roundg (N - (k+1))
    case measure=>have:=HK.1;omega
    case rel=>
     refine ⟨k+1,Ac HK.1,by go_num,?_,HK.2.2.trans HU.out⟩
     obtain ⟨h1,h2⟩:=AV HS.out;rw [AZ h1,h2,List.mem_append];rintro (hc | hc)
     ·exact HK.2.1 hc
     ·exact HC.2 (List.mem_singleton.1 hc).symm
  ·have hkn:k=N:=by omega
   rw [hkn,←HN.out,List.take_length] at hno;have tV:=AQ hno;clear hno hkn hk hup;go_wp2_with fail
   go_ret
   exact ⟨HK.2.2,.inl ⟨tV.out,rfl⟩⟩
theorem YR:∀(l:List Sp) (k:Nat) (x:Sp),k<l.length→(((Dt.all l).set (k*3) (.int .i64 x.lo)).set (k*3+1) (.int .i64 x.hi)).set (k*3+1+1) (.int .u32 (x.id:Int))=Dt.all (l.set k x)
 | [],k,x,h=>by simp at h
 |y::r,0,x,_=>by simp [Kind.all,Dt]
 |y::r,k+1,x,h=>by
  have e:=YR r k x (by simpa using h);rw [List.set_cons_succ];unfold Kind.all at e ⊢;rw [List.flatMap_cons,List.flatMap_cons,←e];have e1:(k+1)*3=(Dt.enc y).length+k*3:=by rw [Nat.add_mul,show (Dt.enc y).length=3 from rfl];omega
  rw [e1]
  have hs:∀(A:List Value) (j:Nat) (u:Value),(Dt.enc y++A).set ((Dt.enc y).length+j) u=Dt.enc y++A.set j u:=fun A j u=>by
   rw [List.set_append_right _ _ (by omega),Nat.add_sub_cancel_left]
  rw [hs,Nat.add_assoc,hs,Nat.add_assoc,Nat.add_assoc,hs]
theorem vG {w:World} {base g n C:Nat} {l:List Sp} (h:Dt.row w base (.slice (some ⟨g,0,none⟩) n C) l) (hn:l.length=n) {k:Nat} (hk:k<n):w.there g (k*3) 3:=by
 have h':w.ownsRow base 62 3 (.slice (some ⟨g,0,none⟩) n C) n (Dt.all l):=by
  have:=h;unfold Kind.row at this;rwa [hn] at this
 have hc:=Qv h';intro j hj;exact IW h' _ (by omega)
theorem a3S {w:World} {base g n C:Nat} {l:List Sp} (h:Dt.row w base (.slice (some ⟨g,0,none⟩) n C) l) (hn:l.length=n) {k:Nat} (hk:k<n) (x:Sp) :
 Dt.row (w.setCells g (k*3) [.int .i64 x.lo,.int .i64 x.hi,.int .u32 (x.id:Int)]) base (.slice (some ⟨g,0,none⟩) n C) (l.set k x):=by
 have h':w.ownsRow base 62 3 (.slice (some ⟨g,0,none⟩) n C) n (Dt.all l):=by
  have:=h;unfold Kind.row at this;rwa [hn] at this
 have h1:=(((h'.stored (k*3) (.int .i64 x.lo)).1.stored (k*3+1) (.int .i64 x.hi)).1.stored (k*3+1+1) (.int .u32 (x.id:Int))).1;rw [YR l k x (by omega)] at h1;unfold Kind.row;rw [List.length_set,hn];exact h1
theorem dh {P:Program} {t e:TypeId} {i:TypeInfo} {size:Nat} (ht:P.underlying t=some (.slice e)) (hi:P.info? e=some i) (hsize:i.size=size) (g n C k:Nat) (hk:k<n) (hn:n≤C) (w:World) :
 (Instr.slice t (.slice (some ⟨g,0,none⟩) n C) (some (.int .i64 (k:Int))) none none).run P w=.ok (.slice (some ⟨g,k*size,none⟩) (n - k) (C - k)) w:=by
 subst hsize;have hel:P.elem t=e:=by simp [Program.elem,ht]
 rw [run_slice_l w t _ n C (Ju ht) .i64 _ (by omega) (by omega)];have hne:¬C=k:=by omega
 simp [hel,sizeOf,typeInfo,hi,sliced,addr_add,hne]
def vH (w:World) (base:Nat) (v:Value) (l:List Sp) (x:Sp) (e:Ending) (w':World):Prop:=
 ∃vn,e=.returned vn∧Dt.row w' base vn (without l x)∧blk vn=blk v∧Bf (blk v) w w'
theorem a1V (base:Nat) (v:Value) (l:List Sp) (x:Sp) (q:Nat) (w:World) (h:Dt.row w base v l) (hnd:l.Nodup) (hx:x∈l) (hb:l.length<1000000) (hq:RS w q x) (hqv:q∉blk v) :
 Calls Tryz.prog 177 #[v,.func (.func 176) #[] #[.pointer (some ⟨q,0,none⟩)]] w (vH w base v l x):=by
 obtain ⟨i1,hi1,hy0,hy1,hy2⟩:=info_parts QD;rcases h.2 with ⟨-,hn0⟩ | ⟨g,C,cur,rfl,-⟩
 ·have hl:l = []:=List.eq_nil_of_length_eq_zero hn0;subst hl;simp at hx
 obtain ⟨n,hn⟩:=AO l.length;rw [hn] at h hb hqv ⊢;have hix:=a0N _ l x q w (See.BX (by have:=h;exact this)) (by omega) hq
 have hown:w.ownsRow base 62 3 (.slice (some ⟨g,0,none⟩) n C) n (Dt.all l):=by
  have:=h;unfold Kind.row at this;rwa [hn] at this
 have Zz:=Qv hown;have hqg:q≠g:=by simpa [blk] using hqv
 have H:=AQ h;have lW:=AQ hix;have HN:=Aq hn hnd hx Zz hqg;have HQ:=AQ hq;have n0:(0:Int)≤(n:Int):=AU _;have n1:(n:Int)<1000000:=by omega
 clear h hix hn hnd hx Zz hqg hq hqv hown;go_enter Tryz.func177,Tryz.ntmps177
 go_wp2_with fail
 (with_reducible refine lW.out.mono ?_);rintro e w1 ⟨u1,(⟨hc,-⟩ | ⟨k,hk,rfl⟩)⟩
 ·exact absurd HN.2.2.1 hc
 have hkn:k<n:=by rw [←HN.1];exact (AV hk).1
 have k0:(0:Int)≤(k:Int):=AU _;have k1:(k:Int)<(n:Int):=by omega
 have hkq:((k:Int) == -1)=false:=by rw [beq_eq_false_iff_ne];omega
 have FY:=AQ u1;have HK:=Ai hk hkn;clear u1 hk hkn;go_wp2_with fail
 clear hkq;go_loopg [5,6] n (fun m s5 s6 wr=>∃(i j:Nat) (c:List Sp),(m+j=n+(k+1)∧j≤n)∧j=i+1∧k≤i∧s5=.int .i64 (i:Int)∧s6=.int .i64 (j:Int)∧Dt.row wr base (.slice (some ⟨g,0,none⟩) n C) c∧c.length=n∧(∀p,c[p]? = if k≤p∧p<i then l[p+1]? else l[p]?)∧Bf [g] w wr)
 case atStart=>
  refine ⟨k,k+1,l,by have:=HK.2;exact ⟨rfl,by omega⟩,rfl,Nat.le_refl _,rfl,by go_num,Bg H.out FY.out (by simp),HN.1,fun p=>?_,FY.out.mono (by simp)⟩
  rw [if_neg (by omega)]
 case round=>
  obtain ⟨i,j,c,hj,hji,hki,rfl,rfl,hrow,hcl,hcp,hup⟩:=hrel;have i0:(0:Int)≤(i:Int):=AU _;have j0:(0:Int)≤(j:Int):=AU _;have hjn:(j:Int)≤(n:Int):=by omega
  have hin:(i:Int)<(n:Int):=by omega
  by_cases hlt:j<n
  ·obtain ⟨s,hs⟩:∃s,l[j]? = some s:=⟨_,AX (by rw [HN.1];exact hlt)⟩;have hcs:c[j]? = some s:=by rw [hcp j,if_neg (by omega)];exact hs
   have hsx:s≠x:=fun e=>by
    obtain ⟨g1,g2⟩:=AV hs;obtain ⟨g3,g4⟩:=AV HK.1;have:=List.pairwise_iff_getElem.1 HN.2.1 k j g3 g1 (by omega);rw [g2,g4,e] at this;exact this rfl
   have FD:See Dt wr (.slice (some ⟨g,0,none⟩) n C) c:=See.BX hrow;obtain ⟨g',og,hA,-,-,ey⟩:=FD.at hcs;injection hA with hA;injection hA with hA1 hA2 hA3;subst hA1 hA2;have y0:wr.cell? ⟨g,0+j*3,none⟩=some (.int .i64 s.lo):=ey 0 _ rfl;have y1:wr.cell? ⟨g,0+j*3+1,none⟩=some (.int .i64 s.hi):=ey 1 _ rfl;have y2:wr.cell? ⟨g,0+j*3+2,none⟩=some (.int .u32 (s.id:Int)):=ey 2 _ rfl;rw [Nat.zero_add] at y0 y1 y2;have b1:(j:Int)<(n:Int):=by omega
   have HJ:=Az hj hji hki hrow hcl hcp hup hs;clear FD ey hs hcs hj hji hki hrow hcl hcp hup;obtain ⟨wl,hwl⟩:∃wl:World,wl=wr:=⟨_,rfl⟩;subst hwl;go_upto_region 8 with fail
   have hbx:=RS.new wl s;have hu2:Bf [] wl (wl.alloc (.cells #[.int .i64 s.lo,.int .i64 s.hi,.int .u32 (s.id:Int)] 62)):=(Bf.refl _ _).alloc _;generalize (wl.alloc (.cells #[.int .i64 s.lo,.int .i64 s.hi,.int .u32 (s.id:Int)] 62))=W2 at hu2 hbx ⊢;obtain ⟨q2,hq2⟩:=AO wl.heap.size;rw [hq2] at hbx ⊢;have hc:=a1U s x q W2 ((HQ.out.upd HJ.2.2.2.2.2.2.1 (by have:=HN.2.2.2.2;simpa using this)).upd hu2 (by simp));rw [decide_eq_false hsx] at hc;unfold KR at hc;obtain ⟨d0,d1,d2⟩:=hbx;have HC:=AQ hc;have Fq:=AQ hu2;have HD:=Aj d0 d1 d2;clear hc hu2 y0 y1 y2 hq2 hsx;go_wp2_with fail
   (with_reducible refine HC.out.mono ?_);rintro e w3 ⟨rfl,u3⟩;clear d0 d1 d2;have hb3:=(RS.mk HD.1 HD.2.1 HD.2.2).upd u3 (by simp);have hr3:=Bg HJ.2.2.2.1 (Fq.out.trans u3) (by simp);have hth:=vG hr3 HJ.2.2.2.2.1 (k:=i) (by omega);have hput:=a3S hr3 HJ.2.2.2.2.1 (k:=i) (by omega) s;have Nq:=(HJ.2.2.2.2.2.2.1.trans ((Fq.out.trans u3).mono (G:=[g]) (by simp))).trans (Pz (g:=g) [.int .i64 s.lo,.int .i64 s.hi,.int .u32 (s.id:Int)] w3 (i*3));obtain ⟨d0,d1,d2⟩:=hb3;have HTH:=AQ hth;have RU:=Ai hput Nq;clear u3 hr3 hth hput Nq;go_upto_region 9 with fail
   iterate 13 go_step
   refine wpList_store_mid (P:=Tryz.prog) (x:=.tmp 33) (y:=.tmp 32) rfl 62 rfl g (i*3) #[.int .i64 s.lo,.int .i64 s.hi,.int .u32 (s.id:Int)] (by simp [Act.eval]) (by simp [Act.eval]) HTH.out (by kernel_rfl) (all_oneCell_toArray (by simp [Value.oneCell'])) ?_
   simp only [Act.put];clear d0 d1 d2;go_wp2_with fail
   go_roundg (n+(k+1) - (j+1))
   case measure=>have:=HJ.1;omega
   case rel=>
    obtain ⟨h1,h2,h3,h4,h5,h6,h7,h8⟩:=HJ.out;refine ⟨i+1,j+1,c.set i s,by omega,by omega,by omega,by go_num,by go_num,RU.1,by rw [List.length_set];exact h5,fun p=>?_,RU.2⟩
    rw [List.getElem?_set];by_cases hp:i=p
    ·subst hp;rw [if_pos rfl,if_pos (by omega),if_pos (by omega),←h2];exact h8.symm
    ·rw [if_neg hp,h6 p];by_cases hq3:k≤p∧p<i
     ·rw [if_pos hq3,if_pos (by omega)]
     ·rw [if_neg hq3,if_neg (by omega)]
  ·have Xk:j=n:=by omega
   have hcut:c.take i=without l x:=by
    unfold without;rw [←OM HN.2.1 HK.1];refine List.ext_getElem? fun p=>?_
    rw [List.getElem?_take,List.getElem?_eraseIdx];have h1:=HN.1;by_cases hp:p<i
    ·rw [if_pos hp,hcp p];by_cases hpk:p<k
     ·rw [if_neg (by omega),if_pos hpk]
     ·rw [if_pos (by omega),if_neg hpk]
    ·rw [if_neg hp,if_neg (by omega),List.getElem?_eq_none (by omega)]
   have hrow':wr.ownsRow base 62 3 (.slice (some ⟨g,0,none⟩) n C) n (Dt.all c):=by
    have:=hrow;unfold Kind.row at this;rwa [hcl] at this
   have hin2:i<n:=by omega
   have Zz:=HN.2.2.2.1;have hni:n - i=1:=by omega
   have ct:=fun w'=>dh (P:=Tryz.prog) (t:=56) Tryz.underlying56 hi1 hy1 g n C i hin2 Zz w'
   rw [hni] at ct;have chd:=fun w'=>WO (P:=Tryz.prog) (t:=56) Tryz.underlying56 hi1 g n C i (by omega) w'
   have pX:∀ty,(Builtin.clear_ #[56] ty #[.slice (some ⟨g,i*3,none⟩) 1 (C - i)]).run Tryz.prog wr=.ok (.tuple #[]) (wr.setCells g (i*3) (Builtin.zeroCells (Value.agg #[.int .i64 0,.int .i64 0,.int .u32 0]).cells 1).toList):=fun ty=>
    MQ (size:=3) wr _ 62 ty _ Tryz.underlying56 YQ rfl (by simp [Value.oneCell',Value.cells]) (by decide) g _ 1 _ (by decide)
     (fun p hp=>(IW hrow' (i*3+p) (by omega)).1) (fun p hp=>(IW hrow' (i*3+p) (by omega)).2)
   obtain ⟨LL,Vs⟩:=AO ((Builtin.zeroCells (Value.agg #[.int .i64 0,.int .i64 0,.int .u32 0]).cells 1).toList);rw [Vs] at pX;have hown2:=Ii LL wr (i*3) (WM hrow' i (by omega)) (Nat.le_refl _);have hci:(c.take i).length=i:=by rw [Ba,hcl];omega
   have dn:Dt.row (wr.setCells g (i*3) LL) base (.slice (some ⟨g,0,none⟩) i C) (without l x):=by
    rw [←hcut];unfold Kind.row;rw [hci,Kind.KF];exact hown2
   have HE:=Ai dn (hup.trans (Pz (g:=g) LL wr (i*3)));clear Vs hrow hrow' hown2 hci dn hcut hcp hcl hup hj hji hki Xk Zz hni hin2;go_wp2_with fail
   go_ret
   exact ⟨_,rfl,HE.1,rfl,HE.2⟩
def jm (w:World) (l:List Sp) (x:Sp) (e:Ending) (w':World):Prop:=
 Bf [] w w'∧((x∉l∧e=.returned (.int .i64 (-1)))∨∃k:Nat,l[k]? = some x∧e=.returned (.int .i64 (k:Int)))
theorem vI (v:Value) (l:List Sp) (x:Sp) (w:World) (hs:See Dt w v l) (hb:l.length<1000000) :
 Calls Tryz.prog 174 #[v,KR x] w (jm w l x):=by
 obtain ⟨A,C,rfl⟩:=hs.form;obtain ⟨N,hN⟩:=AO l.length;rw [hN] at hs hb ⊢;have H:=AQ hs;have HN:=AQ hN;clear hs hN;obtain ⟨lo,hi,id⟩:=x;have HW0:=AQ ((Bf.refl [] w).alloc (.cells #[.int .i64 lo,.int .i64 hi,.int .u32 (id:Int)] 62));have hz0:w.heap.size<(w.alloc (.cells #[.int .i64 lo,.int .i64 hi,.int .u32 (id:Int)] 62)).heap.size:=by simp
 have d0:(w.alloc (.cells #[.int .i64 lo,.int .i64 hi,.int .u32 (id:Int)] 62)).cell? ⟨w.heap.size,0,none⟩=some (.int .i64 lo):=by rw [World.cell?_alloc_at _ _ _ _ rfl];rfl
 have d1:(w.alloc (.cells #[.int .i64 lo,.int .i64 hi,.int .u32 (id:Int)] 62)).cell? ⟨w.heap.size,1,none⟩=some (.int .i64 hi):=by rw [World.cell?_alloc_at _ _ _ _ rfl];rfl
 have d2:(w.alloc (.cells #[.int .i64 lo,.int .i64 hi,.int .u32 (id:Int)] 62)).cell? ⟨w.heap.size,2,none⟩=some (.int .u32 (id:Int)):=by rw [World.cell?_alloc_at _ _ _ _ rfl];rfl
 unfold KR;dsimp only;go_enter Tryz.func174,Tryz.ntmps174
 go_upto_region 1 with fail
 generalize (w.alloc (.cells #[.int .i64 lo,.int .i64 hi,.int .u32 (id:Int)] 62))=W0 at HW0 hz0 d0 d1 d2 ⊢;go_wp2_with fail
 go_loopg [8] N (fun m s8 wr=>∃k:Nat,m+k=N∧s8=.int .i64 (k:Int)∧(⟨lo,hi,id⟩:Sp)∉l.take k∧Bf [] W0 wr)
 case atStart=>exact ⟨0,rfl,rfl,by simp,Bf.refl _ _⟩
 case round=>
  obtain ⟨k,hk,rfl,hno,hup⟩:=hrel;have k0:(0:Int)≤(k:Int):=AU _;have hkN:k≤N:=by omega
  have hw1:Bf [] w wr:=HW0.out.trans hup;have e0:=(hup.cell (p:=⟨w.heap.size,0,none⟩) hz0 (by simp)).trans d0;have e1:=(hup.cell (p:=⟨w.heap.size,1,none⟩) hz0 (by simp)).trans d1;have e2:=(hup.cell (p:=⟨w.heap.size,2,none⟩) hz0 (by simp)).trans d2;have HK:=Ap hk hno hup hw1;clear hk hno hup;by_cases hlt:k<N
  ·obtain ⟨s,hs⟩:∃s,l[k]? = some s:=⟨_,AX (by rw [HN.out];exact hlt)⟩;have hse:See Dt wr (.slice A N C) l:=H.out.Bh hw1;have HS:=AQ hs;obtain ⟨lo2,hi2,id2⟩:=s;obtain ⟨g,o,rfl,-,-,ey⟩:=hse.at hs;have y0:wr.cell? ⟨g,o+k*3,none⟩=some (.int .i64 lo2):=ey 0 _ rfl;have y1:wr.cell? ⟨g,o+k*3+1,none⟩=some (.int .i64 hi2):=ey 1 _ rfl;have y2:wr.cell? ⟨g,o+k*3+2,none⟩=some (.int .u32 (id2:Int)):=ey 2 _ rfl;have b1:(k:Int)<(N:Int):=by omega
   have heq:=fun w=>a5Z ⟨lo,hi,id⟩ ⟨lo2,hi2,id2⟩ w
   clear hs hse ey hw1 d0 d1 d2;by_cases hxy:(⟨lo,hi,id⟩:Sp)=⟨lo2,hi2,id2⟩
   ·rw [decide_eq_true hxy] at heq;unfold KR at heq;dsimp only at heq;have HE:=AQ hxy;clear hxy;go_wp2_with fail
    go_quiet (fail)
    go_wp2_with fail
    go_ret
    exact ⟨HK.2.2.2.drewN _,.inr ⟨k,by rw [HS.out,HE.out],rfl⟩⟩
   ·rw [decide_eq_false hxy] at heq;unfold KR at heq;dsimp only at heq;have HE:=AQ hxy;clear hxy;go_wp2_with fail
    go_quiet (fail)
    go_wp2_with fail
    go_roundg (N - (k+1))
    case measure=>have:=HK.1;omega
    case rel=>
     refine ⟨k+1,Ac HK.1,by go_num,?_,HK.2.2.1.drewN _⟩
     obtain ⟨h1,h2⟩:=AV HS.out;rw [AZ h1,h2,List.mem_append];rintro (hc | hc)
     ·exact HK.2.1 hc
     ·exact HE.out (by simpa using hc)
  ·have hkn:k=N:=by omega
   have hno:=HK.2.1;rw [hkn,←HN.out,List.take_length] at hno;have tV:=AQ hno;clear hno hkn;go_wp2_with fail
   go_ret
   exact ⟨HK.2.2.2,.inl ⟨tV.out,rfl⟩⟩
def a0O (w:World) (base g C:Nat) (l:List Sp) (k:Nat) (e:Ending) (w':World):Prop:=
 e=.returned (.slice (some ⟨g,0,none⟩) (l.length - 1) C)∧Dt.row w' base (.slice (some ⟨g,0,none⟩) (l.length - 1) C) (l.eraseIdx k)∧Bf [g] w w'
theorem a0P (base g n C:Nat) (l:List Sp) (k:Nat) (w:World) (h:Dt.row w base (.slice (some ⟨g,0,none⟩) n C) l) (hn:l.length=n) (hk:k<n) (hb:n<1000000) :
 Calls Tryz.prog 175 #[.slice (some ⟨g,0,none⟩) n C,.int .i64 (k:Int),.int .i64 ((k:Int)+1)] w (a0O w base g C l k):=by
 obtain ⟨i1,hi1,hy0,hy1,hy2⟩:=info_parts QD
 have hown:w.ownsRow base 62 3 (.slice (some ⟨g,0,none⟩) n C) n (Dt.all l):=by
  have:=h;unfold Kind.row at this;rwa [hn] at this
 have Zz:=Qv hown;have hse:Ed w 3 (.slice (some ⟨g,0,none⟩) n C) n (Dt.all l):=CW hown
 have hCm:C≤maxLen:=by
  rcases hown.2 with ⟨h2,_⟩ | ⟨g',cap,cur,h2,h3,h4,h5,h6,h7,h8⟩
  ·cases h2
  ·cases h2;exact h6
 obtain ⟨v3,c3⟩:=pV (P:=Tryz.prog) Tryz.underlying56 hi1 g n C k hk Zz;have c1:=WO (P:=Tryz.prog) Tryz.underlying56 hi1 g n C k (by omega);obtain ⟨A2,C2,c2,s2,-⟩:=Nj (P:=Tryz.prog) (t:=56) Tryz.underlying56 hi1 hy1 hse (k+1) (by omega);have c2':∀w',(Instr.slice 56 (.slice (some ⟨g,0,none⟩) n C) (some (.int .i64 ((k:Int)+1))) none none).run Tryz.prog w'=.ok (.slice A2 (n - (k+1)) C2) w':=c2;obtain ⟨m,hm⟩:=AO (n - (k+1));rw [hm] at c2' s2;have c4:=jh (P:=Tryz.prog) Tryz.underlying56 hi1 hy1 g (k+m) C n (by omega) Zz;have e1:((k+m:Nat):Int)=(k:Int)+(m:Int):=by omega
 have e2:n - (k+m)=1:=by omega
 rw [e1,e2] at c4;have hkn:((k:Int)==(k:Int)+1)=false:=by rw [beq_eq_false_iff_ne];omega
 have k0:(0:Int)≤(k:Int):=AU _;have k1:(k:Int)<(n:Int):=by omega
 have n0:(n:Int)<1000000:=by omega
 have m0:(0:Int)≤(m:Int):=AU _;have m1:(m:Int)<1000000:=by omega
 have htake:=WM hown k (by omega);have HS:=AQ (s2 w.drew (Ed.drew hse));have HT:=AQ (ER htake);have HN:=Aj hn hm hk;have HC:=AQ Zz;clear h hown hse c2 s2 htake e1 e2 hn hm hk Zz;go_enter Tryz.func175,Tryz.ntmps175
 go_upto_region 5 with fail
 go_region_law (refine Xh _ rfl (.tmp 22) (.tmp 25) 56 rfl base 62 i1 3 Tryz.underlying56 hi1 hy1 g k C _ (by simp [Act.eval,Act.put]) HT.out _ m _ (by simp [Act.eval,Act.put]) HS.out (by rw [←vw];exact Dt.DZ _) (Ad HN HC) ?_;intro w2 ho2 hu2)
 have HO2:=AQ ho2;have Fq:=AQ hu2
 have hcl:∀ty,(Builtin.clear_ #[56] ty #[.slice (some ⟨g,(k+m)*3,none⟩) 1 (C - (k+m))]).run Tryz.prog w2=.ok (.tuple #[]) (w2.setCells g ((k+m)*3) (Builtin.zeroCells (Value.agg #[.int .i64 0,.int .i64 0,.int .u32 0]).cells 1).toList):=fun ty=>
  MQ (size:=3) w2 _ 62 ty _ Tryz.underlying56 YQ rfl (by simp [Value.oneCell',Value.cells]) (by decide) g _ 1 _ (by decide)
   (fun j hj=>by have h1:=HN.out;have h2:=HC.out;exact (IW ho2 ((k+m)*3+j) (by omega)).1) (fun j hj=>by have h1:=HN.out;have h2:=HC.out;exact (IW ho2 ((k+m)*3+j) (by omega)).2)
 obtain ⟨LL,Vs⟩:=AO ((Builtin.zeroCells (Value.agg #[.int .i64 0,.int .i64 0,.int .u32 0]).cells 1).toList);rw [Vs] at hcl;clear ho2 hu2 Vs c1 c2' c3;go_wp2_with fail
 go_ret
 refine ⟨?_,?_,?_⟩
 ·have:=HN.out;rw [show l.length - 1=k+m by omega];rfl
 ·have h1:=HN.out;have h2:=Ii LL w2 ((k+m)*3) HO2.out (Nat.le_refl _);have h3:(l.eraseIdx k).length=k+m:=by rw [List.length_eraseIdx_of_lt (by omega)];omega
  unfold Kind.row;rw [show l.length - 1=k+m by omega,h3]
  have h4:Dt.all (l.eraseIdx k)=(Dt.all l).take (k*3)++(Dt.all l).drop ((k+1)*3):=by
   rw [List.eraseIdx_eq_take_drop_succ,Dt.Ci,Dt.KF,Dt.Nc];rfl
  rw [h4];exact h2
 ·exact ((Bf.refl [g] w).drew.trans Fq.out).trans (Pz LL w2 _)
