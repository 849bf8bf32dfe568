/- wide: Cmp, and Add of any two. Printed by genWideK.py. -/
import Derived.Test.YtkbaaonchdeneaaGreatPb45
import Derived.Test.YtkbaaonchdeneaaGreatPb16
set_option maxHeartbeats 2000000
set_option maxRecDepth 100000
namespace Go.Proofs.YtkbaaonchdeneaaGreat
open Go.RowKit
theorem a8O (x:Int) (w:World):Calls Tryz.prog 160 #[.int .u64 x] w fun e w'=>e=.returned (.bool false)∧w=w':=by
 go_enter Tryz.func160,Tryz.ntmps160
 go_wp2_with fail
 go_ret
 exact ⟨by simp,rfl⟩
theorem nX (x y:Int) (w:World):Calls Tryz.prog 101 #[.int .u64 x,.int .u64 y] w fun e w'=>e=.returned (.int .i64 (Et x y))∧w=w':=by
 have H1:=AQ (a8O x w);have H2:=AQ (a8O y w);obtain ⟨r,hr⟩:=AO (Et x y);rw [hr];rcases Int.lt_trichotomy x y with h | h | h
 ·have e1:decide (x<y)=true:=decide_eq_true h;have HR:=AQ ((QE h).symm.trans hr);clear hr;go_enter Tryz.func101,Tryz.ntmps101
  go_wp2_with fail
  (with_reducible refine H1.out.mono ?_);rintro e w' ⟨rfl,rfl⟩;go_wp2_with fail
  (with_reducible refine H2.out.mono ?_);rintro e w' ⟨rfl,rfl⟩;go_wp2_with fail
  go_ret
  exact ⟨by rw [←HR.out];rfl,rfl⟩
 ·have HR:=AQ ((Tv h).symm.trans hr);have h1:¬x<y:=by omega
  have h2:¬y<x:=by omega
  clear hr h;go_enter Tryz.func101,Tryz.ntmps101
  go_wp2_with fail
  (with_reducible refine H1.out.mono ?_);rintro e w' ⟨rfl,rfl⟩;go_wp2_with fail
  (with_reducible refine H2.out.mono ?_);rintro e w' ⟨rfl,rfl⟩;go_wp2_with fail
  go_ret
  exact ⟨by rw [←HR.out];rfl,rfl⟩
 ·have HR:=AQ ((Tt h).symm.trans hr);have h1:¬x<y:=by omega
  clear hr;go_enter Tryz.func101,Tryz.ntmps101
  go_wp2_with fail
  (with_reducible refine H1.out.mono ?_);rintro e w' ⟨rfl,rfl⟩;go_wp2_with fail
  (with_reducible refine H2.out.mono ?_);rintro e w' ⟨rfl,rfl⟩;go_wp2_with fail
  go_ret
  exact ⟨by rw [←HR.out];rfl,rfl⟩
theorem a5F (w:World) (g:Nat) (a b z:Int) (C:Nat) (h0:w.cell? ⟨g,0,none⟩=some (.int .i64 a)) (h1:w.cell? ⟨g,1,none⟩=some (.int .i64 b)) (hz:(if a=0 then b else a)=z) :
 Calls Tryz.prog 100 #[.slice (some ⟨g,0,none⟩) 2 C] w fun e w'=>e=.returned (.int .i64 z)∧w=w':=by
 have HZ:=AQ hz;clear hz;go_enter Tryz.func100,Tryz.ntmps100
 go_wp2_with fail
 go_loopg [8] 2 (fun m s8 wr=>∃k:Nat,m+k=2∧s8=.int .i64 (k:Int)∧(0<k→a=0)∧(1<k→b=0)∧wr=w)
 case atStart=>exact ⟨0,rfl,rfl,by omega,by omega,rfl⟩
 case round=>
  obtain ⟨k,hk,rfl,ha,hb,rfl⟩:=hrel;have hk3:k=0∨k=1∨k=2:=by omega
  rcases hk3 with rfl | rfl | rfl
  ·clear ha hb;by_cases hz:a=0
   ·have hq:(a != 0)=false:=by simpa using hz
    have HA:=AQ hz;clear hz;go_wp2_with fail
    go_roundg 1
    case measure=>omega
    case rel=>exact ⟨1,by omega,by go_num,fun _=>HA.out,by omega,rfl⟩
   ·have hq:(a != 0)=true:=by simpa using hz
    have HA:=AQ hz;clear hz;go_wp2_with fail
    go_ret
    exact ⟨by rw [←HZ.out,if_neg HA.out];rfl,rfl⟩
  ·have HA:=AQ (ha (by omega));clear ha hb;by_cases hz:b=0
   ·have hq:(b != 0)=false:=by simpa using hz
    have HB:=AQ hz;clear hz;go_wp2_with fail
    go_roundg 0
    case measure=>omega
    case rel=>exact ⟨2,by omega,by go_num,fun _=>HA.out,fun _=>HB.out,rfl⟩
   ·have hq:(b != 0)=true:=by simpa using hz
    clear hz;go_wp2_with fail
    go_ret
    exact ⟨by rw [←HZ.out,if_pos HA.out];rfl,rfl⟩
  ·have HA:=AQ (ha (by omega));have HB:=AQ (hb (by omega));clear ha hb;go_wp2_with fail
   go_ret
   exact ⟨by rw [←HZ.out,if_pos HA.out,HB.out];rfl,rfl⟩
theorem a8P (ah al bh bl h l:Int) (h1:0≤ah) (h2:0≤al) (h3:0≤bh) (h4:0≤bl) (h2':al<18446744073709551616) (h4':bl<18446744073709551616) (hh:ah+bh+(al+bl) / 18446744073709551616=h) (hb:18446744073709551616≤h) (hh2:h<36893488147419103232) (hl:(al+bl) % 18446744073709551616=l) (w:World) :
 Calls Tryz.prog 44 #[.agg #[.int .u64 ah,.int .u64 al],.agg #[.int .u64 bh,.int .u64 bl]] w fun e w'=>e=.returned (.tuple #[.agg #[.int .u64 0,.int .u64 0],.bool false])∧Bf [] w w':=by
 have k0:0≤(al+bl) / 18446744073709551616:=by omega
 have k1:(al+bl) / 18446744073709551616≤1:=by omega
 obtain ⟨c,hc⟩:=AO ((al+bl) / 18446744073709551616)
 have a1:∀w,(callFunc 99 #[.int .u64 al,.int .u64 bl,.int .u64 0]).run Tryz.prog w=.ok (.value (.tuple #[.int .u64 l,.int .u64 c])) w:=fun w=>by
  rw [nS al bl h2 h4 w,hl,hc]
 rw [hc] at k0 k1 hh
 have a2:∀w,(callFunc 99 #[.int .u64 ah,.int .u64 bh,.int .u64 c]).run Tryz.prog w=.ok (.value (.tuple #[.int .u64 (h % 18446744073709551616),.int .u64 1])) w:=fun w=>by
  rw [zi ah bh c h1 h3 k0 k1 w,hh];have e2:h / 18446744073709551616=1:=by omega
  rw [e2]
 clear h1 h2 h3 h4 h2' h4' hh hb hl hc k0 k1 hh2;go_enter Tryz.func44,Tryz.ntmps44
 go_wp2_with (first | simp only [a1] | simp only [a2])
 exact bodyPost_ret (v:=.tuple #[.agg #[.int .u64 0,.int .u64 0],.bool false]) (by simp [results,Tryz.results44,go_sem]) rfl ⟨rfl,(((Bf.refl _ _).alloc _).alloc _).alloc _⟩
theorem a8Q (a b:Nat) (ha:Jk a) (hb:Jk b) (h:¬Jk (a+b)) (w:World):Calls Tryz.prog 44 #[ED a,ED b] w fun e w'=>e=.returned (.tuple #[.agg #[.int .u64 0,.int .u64 0],.bool false])∧Bf [] w w':=by
 unfold Jk at h ha hb;unfold ED;exact a8P _ _ _ _ _ _ (by omega) (by omega) (by omega) (by omega) (by omega) (by omega) rfl (by omega) (by omega) rfl w
theorem a5G {w w':World} {a1 a2 a3 a4:Addr} {v1 v2 v3 v4:Value} (h:w.cell? a1=some v1∧w.cell? a2=some v2∧w.cell? a3=some v3∧w.cell? a4=some v4) (hu:Bf [] w w') :
 w'.cell? a1=some v1∧w'.cell? a2=some v2∧w'.cell? a3=some v3∧w'.cell? a4=some v4:=by
 have e:∀{a:Addr} {v:Value},w.cell? a=some v→w'.cell? a=some v:=fun {a v} ha=>(hu.cell (World.block_lt_of_cell? w _ ha) (by simp)).trans ha
 exact ⟨e h.1,e h.2.1,e h.2.2.1,e h.2.2.2⟩
theorem a1M (a b:Nat):(if Et ((a / 18446744073709551616:Nat):Int) ((b / 18446744073709551616:Nat):Int)=0 then Et ((a % 18446744073709551616:Nat):Int) ((b % 18446744073709551616:Nat):Int) else Et ((a / 18446744073709551616:Nat):Int) ((b / 18446744073709551616:Nat):Int))=Et (a:Int) (b:Int):=by
 unfold Et;rcases Nat.lt_trichotomy (a / 18446744073709551616) (b / 18446744073709551616) with h | h | h
 ·rw [if_pos (show ((a / 18446744073709551616:Nat):Int)<((b / 18446744073709551616:Nat):Int) by omega),if_neg (by decide),if_pos (by omega)]
 ·rw [h];simp only [Int.lt_irrefl,if_false,if_true];by_cases h1:a<b
  ·rw [if_pos (by omega),if_pos (by omega)]
  ·by_cases h2:b<a
   ·rw [if_neg (by omega),if_pos (by omega),if_neg (by omega),if_pos (by omega)]
   ·rw [if_neg (by omega),if_neg (by omega),if_neg (by omega),if_neg (by omega)]
 ·have e1:¬((a / 18446744073709551616:Nat):Int)<((b / 18446744073709551616:Nat):Int):=by omega
  have e2:((b / 18446744073709551616:Nat):Int)<((a / 18446744073709551616:Nat):Int):=by omega
  have e3:¬(a:Int)<(b:Int):=by omega
  have e4:(b:Int)<(a:Int):=by omega
  simp only [if_neg e1,if_pos e2,if_neg e3,if_pos e4];rfl
theorem a0l (a b:Nat) (w:World):Calls Tryz.prog 45 #[ED a,ED b] w fun e w'=>e=.returned (.int .i64 (Et (a:Int) (b:Int)))∧Bf [] w w':=by
 rw [←a1M];unfold ED;generalize ((a / 18446744073709551616:Nat):Int)=ah;generalize ((a % 18446744073709551616:Nat):Int)=al;generalize ((b / 18446744073709551616:Nat):Int)=bh;generalize ((b % 18446744073709551616:Nat):Int)=bl;have H1:=AQ (fun w=>nX ah bh w);have H2:=AQ (fun w=>nX al bl w);obtain ⟨z,hz⟩:∃z,(if Et ah bh=0 then Et al bl else Et ah bh)=z:=⟨_,rfl⟩;rw [hz];generalize Et ah bh=r at H1 hz;generalize Et al bl=s at H2 hz;have H3:=AQ (fun w:World=>a5F (w.alloc (.cells #[.int .i64 r,.int .i64 s] 3)) w.heap.size r s z 2 (by rw [World.cell?_alloc_at _ _ _ _ rfl];rfl) (by rw [World.cell?_alloc_at _ _ _ _ rfl];rfl) hz);clear hz;go_enter Tryz.func45,Tryz.ntmps45
 go_upto_region 1 with fail
 obtain ⟨W,hW,hu0,h0,h1⟩:=Pj w #[.int .u64 ah,.int .u64 al] #[.int .u64 bh,.int .u64 bl] 52 52;have hW2:W=(w.alloc (.cells #[.int .u64 ah,.int .u64 al] 52)).alloc (.cells #[.int .u64 bh,.int .u64 bl] 52):=hW;rw [←hW2];have HU:=AQ hu0;obtain ⟨Wd,hWd⟩:∃Wd,Wd=W.drew:=⟨_,rfl⟩;have Uo:=AQ (show Bf [] w Wd by rw [hWd];exact hu0.drew);have hud:Bf [] W Wd:=by rw [hWd];exact (Bf.refl _ _).drew
 have HS:Wd.cell? ⟨w.heap.size,0,none⟩=some (.int .u64 ah)∧Wd.cell? ⟨w.heap.size,1,none⟩=some (.int .u64 al)∧Wd.cell? ⟨w.heap.size+1,0,none⟩=some (.int .u64 bh)∧Wd.cell? ⟨w.heap.size+1,1,none⟩=some (.int .u64 bl):=
  ⟨(h0.Bh hud).cell 0,(h0.Bh hud).cell 1,(h1.Bh hud).cell 0,(h1.Bh hud).cell 1⟩
 have HS:=AQ HS;clear hW hW2 hu0 h0 h1 hud;refine Bj.start [] (fun w'=>w'.cell? ⟨w.heap.size,0,none⟩=some (.int .u64 ah)∧w'.cell? ⟨w.heap.size,1,none⟩=some (.int .u64 al)∧w'.cell? ⟨w.heap.size+1,0,none⟩=some (.int .u64 bh)∧w'.cell? ⟨w.heap.size+1,1,none⟩=some (.int .u64 bl)) (by kernel_rfl) ?_ fun hS=>?_
 ·rw [←hWd];exact HS.out
 rw [←hWd] at hS ⊢;clear hWd;refine' Bj.mw 0 (oi:=⟨some 5,_,_,_,_,_⟩) ?_
 simp only [Act.put,sA,sZ,sS];refine' Bj.tl 1 1 (oi:=⟨some 6,_,_,_,_,_⟩) ?_
 simp only [Act.put,sA,sZ,sS];refine' Bj.mw 2 (oi:=⟨some 7,_,_,_,_,_⟩) ?_
 simp only [Act.put,sA,sZ,sS];refine' Bj.tl 1 3 (oi:=⟨some 8,_,_,_,_,_⟩) ?_
 simp only [Act.put,sA,sZ,sS];refine' Bj.mw 5 (oi:=⟨some 10,_,_,_,_,_⟩) ?_
 simp only [Act.put,sA,sZ,sS];refine' Bj.tl 1 6 (oi:=⟨some 11,_,_,_,_,_⟩) ?_
 simp only [Act.put,sA,sZ,sS];refine' Bj.mw 7 (oi:=⟨some 12,_,_,_,_,_⟩) ?_
 simp only [Act.put,sA,sZ,sS];refine' Bj.tl 1 8 (oi:=⟨some 13,_,_,_,_,_⟩) ?_
 simp only [Act.put,sA,sZ,sS];refine Bj.one (i:=4) (o:=⟨some 9,_,_,_,_,_⟩) rfl (by kernel_rfl) fun K hK=>?_
 go_simp
 go_at_call 101
 (with_reducible refine (H1.out _).mono ?_);rintro e w' ⟨rfl,rfl⟩;refine hK.out _ _ (fun _ h=>?_) ?_
 ·exact h
 clear hK K;try simp only [Act.put,sA,sZ,sS]
 refine Bj.one (i:=9) (o:=⟨some 14,_,_,_,_,_⟩) rfl (by kernel_rfl) fun K hK=>?_
 go_simp
 go_at_call 101
 (with_reducible refine (H2.out _).mono ?_);rintro e w' ⟨rfl,rfl⟩;refine hK.out _ _ (fun _ h=>?_) ?_
 ·exact h
 clear hK K;try simp only [Act.put,sA,sZ,sS]
 refine Bj.one (i:=10) (o:=⟨some 15,_,_,_,_,_⟩) rfl (by kernel_rfl) fun K hK=>?_
 go_simp
 refine hK.out _ _ (fun _ h=>?_) ?_
 ·exact a5G h ((Bf.refl _ _).alloc _)
 clear hK K;try simp only [Act.put,sA,sZ,sS]
 refine Bj.one (i:=11) (o:=⟨some 16,_,_,_,_,_⟩) rfl (by kernel_rfl) fun K hK=>?_
 go_simp
 go_at_call 100
 (with_reducible refine (H3.out _).mono ?_);rintro e w' ⟨rfl,rfl⟩;refine hK.out _ _ (fun _ h=>?_) ?_
 ·exact h
 clear hK K;try simp only [Act.put,sA,sZ,sS]
 refine' Bj.mw 12 (oi:=⟨some 4,_,_,_,_,_⟩) ?_
 simp only [Act.put,sA,sZ,sS];refine Bj.done (by kernel_rfl) ?_
 go_wp2_with fail
 go_ret
 exact ⟨rfl,Uo.out.alloc _⟩
