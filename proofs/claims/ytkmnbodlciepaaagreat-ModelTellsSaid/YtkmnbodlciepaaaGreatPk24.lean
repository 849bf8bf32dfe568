/- wide: Of, Add, Mul: numbers of 128 bits. Sums from 0 on. No program. A number of 128 bits in a variable. -/
import Derived.Test.YtkmnbodlciepaaaGreatProg
import Derived.Shelf.Bits.Mul64
import Derived.Shelf.Spec.BitsCarry
import Derived.IntWalk
import Derived.Test.YtkmnbodlciepaaaGreatPk2
import Derived.Test.YtkmnbodlciepaaaGreatPk1
set_option maxHeartbeats 1000000
set_option maxRecDepth 100000
namespace Go.Proofs.YtkmnbodlciepaaaGreat
open Go.RowKit Go.Shelf
def ren264:Go.Shelf.Ren:=⟨fun | 264=>104 | n=>n,fun | 53=>35 | 46=>206 | n=>n,fun | n=>n⟩
theorem lay264:Go.Proofs.Lays.n264 Tryz.prog ren264:={
 mixed:=by kernel_rfl
 f264:=Tryz.func104.trans (congrArg some (by kernel_rfl))
 t46:=Tryz.underlying206
 a46:=Tryz.isAgg206
 z46:=Tryz.sizeOf206
 v46:=Tryz.zeroValue206
 t53:=Tryz.underlying35
 a53:=Tryz.isAgg35
 z53:=Tryz.sizeOf35
 v53:=Tryz.zeroValue35 }
theorem mul64 (x y:Nat) (hx:x<18446744073709551616) (hy:y<18446744073709551616) (w:World) :
 Calls Tryz.prog 104 #[.int .u64 x,.int .u64 y] w fun e w'=>e=.returned (.tuple #[.int .u64 ((x*y / 18446744073709551616:Nat):Int),.int .u64 ((x*y % 18446744073709551616:Nat):Int)])∧w'=w:=Any.bits_Mul64 lay264 x y hx hy w
def ren25:Go.Shelf.Ren:=⟨fun | 25=>103 | n=>n,fun | 22=>35 | n=>n,fun | n=>n⟩
theorem lay25:Go.Proofs.Lays7.n25 Tryz.prog ren25:={
 mixed:=by kernel_rfl
 f25:=Tryz.func103.trans (congrArg some (by kernel_rfl))
 t22:=Tryz.underlying35
 a22:=Tryz.isAgg35
 z22:=Tryz.sizeOf35
 v22:=Tryz.zeroValue35
 i22:=by kernel_rfl }
theorem add64 (x y c:Int) (hx:0≤x) (hy:0≤y) (hc0:0≤c) (hc:c≤1) (w:World):(callFunc 103 #[.int .u64 x,.int .u64 y,.int .u64 c]).run Tryz.prog w =
 .ok (.value (.tuple #[.int .u64 ((x+y+c) % 18446744073709551616),.int .u64 ((x+y+c) / 18446744073709551616)])) w:=by
 obtain ⟨x,rfl⟩:=Int.eq_ofNat_of_zero_le hx
 obtain ⟨y,rfl⟩:=Int.eq_ofNat_of_zero_le hy
 obtain ⟨c,rfl⟩:=Int.eq_ofNat_of_zero_le hc0
 refine (Any7.bits_Add64 lay25 x y c (by omega) w).trans ?_
 congr 5<;>omega
theorem add64_0 (x y:Int) (hx:0≤x) (hy:0≤y) (w:World):(callFunc 103 #[.int .u64 x,.int .u64 y,.int .u64 0]).run Tryz.prog w =
 .ok (.value (.tuple #[.int .u64 ((x+y) % 18446744073709551616),.int .u64 ((x+y) / 18446744073709551616)])) w:=by
 simpa using add64 x y 0 hx hy (Int.le_refl 0) (by decide) w
def wideV (n:Nat):Value:=.agg #[.int .u64 ((n / 18446744073709551616:Nat):Int),.int .u64 ((n % 18446744073709551616:Nat):Int)]
def W128 (n:Nat):Prop:=n / 18446744073709551616<18446744073709551616
theorem W128.mono {m n:Nat} (h:W128 n) (hm:m≤n):W128 m:=Nat.lt_of_le_of_lt (Nat.div_le_div_right hm) h
theorem wOfC (n:Nat) (hn:n<18446744073709551616) (w:World):Calls Tryz.prog 23 #[.int .u64 (n:Int)] w fun e w'=>e=.returned (wideV n)∧Upd [] w w':=by
 have e:wideV n=.agg #[.int .u64 0,.int .u64 (n:Int)]:=by
  unfold wideV
  rw [Nat.div_eq_of_lt hn,Nat.mod_eq_of_lt hn];rfl
 rw [e]
 clear e hn
 go_enter Tryz.func23,Tryz.ntmps23
 go_wp2_with fail
 exact bodyPost_ret (v:=.agg #[.int .u64 0,.int .u64 (n:Int)]) (by simp [results,Tryz.results23,go_sem]) rfl ⟨rfl,(Upd.refl _ _).alloc _⟩
theorem wMulC (x y:Nat) (hx:x<18446744073709551616) (hy:y<18446744073709551616) (w:World):Calls Tryz.prog 45 #[.int .u64 (x:Int),.int .u64 (y:Int)] w fun e w'=>e=.returned (wideV (x*y))∧Upd [] w w':=by
 have hm:=fun w=>mul64 x y hx hy w
 unfold wideV
 obtain ⟨h,hh⟩:∃h,x*y / 18446744073709551616=h:=⟨_,rfl⟩
 obtain ⟨l,hl⟩:∃l,x*y % 18446744073709551616=l:=⟨_,rfl⟩
 simp only [hh,hl] at hm
 rw [hh,hl]
 have HM:=Lib.hid hm
 clear hm hh hl hx hy
 go_enter Tryz.func45,Tryz.ntmps45
 go_wp2_with fail
 (with_reducible refine (HM.out _).mono ?_)
 rintro e w' ⟨rfl,rfl⟩
 go_wp2_with fail
 exact bodyPost_ret (v:=.agg #[.int .u64 (h:Int),.int .u64 (l:Int)]) (by simp [results,Tryz.results45,go_sem]) rfl ⟨rfl,(Upd.refl _ _).alloc _⟩
theorem addHL (ah al bh bl h l:Int) (h1:0≤ah) (h2:0≤al) (h3:0≤bh) (h4:0≤bl) (h2':al<18446744073709551616) (h4':bl<18446744073709551616) (hh:ah+bh+(al+bl) / 18446744073709551616=h) (hb:h<18446744073709551616) (hl:(al+bl) % 18446744073709551616=l) (w:World) :
 Calls Tryz.prog 44 #[.agg #[.int .u64 ah,.int .u64 al],.agg #[.int .u64 bh,.int .u64 bl]] w fun e w'=>e=.returned (.tuple #[.agg #[.int .u64 h,.int .u64 l],.bool true])∧Upd [] w w':=by
 have k0:0≤(al+bl) / 18446744073709551616:=by omega
 have k1:(al+bl) / 18446744073709551616≤1:=by omega
 obtain ⟨c,hc⟩:∃c,(al+bl) / 18446744073709551616=c:=⟨_,rfl⟩
 have a1:∀w,(callFunc 103 #[.int .u64 al,.int .u64 bl,.int .u64 0]).run Tryz.prog w=.ok (.value (.tuple #[.int .u64 l,.int .u64 c])) w:=fun w=>by
  rw [add64_0 al bl h2 h4 w,hl,hc]
 rw [hc] at k0 k1 hh
 have a2:∀w,(callFunc 103 #[.int .u64 ah,.int .u64 bh,.int .u64 c]).run Tryz.prog w=.ok (.value (.tuple #[.int .u64 h,.int .u64 0])) w:=fun w=>by
  rw [add64 ah bh c h1 h3 k0 k1 w,hh]
  have e1:h % 18446744073709551616=h:=Int.emod_eq_of_lt (by omega) hb
  have e2:h / 18446744073709551616=0:=Int.ediv_eq_zero_of_lt (by omega) hb
  rw [e1,e2]
 clear h1 h2 h3 h4 h2' h4' hh hb hl hc k0 k1
 go_enter Tryz.func44,Tryz.ntmps44
 go_wp2_with (first | simp only [a1] | simp only [a2])
 exact bodyPost_ret (v:=.tuple #[.agg #[.int .u64 h,.int .u64 l],.bool true]) (by simp [results,Tryz.results44,go_sem]) rfl ⟨rfl,(((Upd.refl _ _).alloc _).alloc _).alloc _⟩
theorem wAddC (a b:Nat) (h:W128 (a+b)) (w:World):Calls Tryz.prog 44 #[wideV a,wideV b] w fun e w'=>e=.returned (.tuple #[wideV (a+b),.bool true])∧Upd [] w w':=by
 unfold W128 at h
 unfold wideV
 exact addHL _ _ _ _ _ _ (by omega) (by omega) (by omega) (by omega) (by omega) (by omega) (by omega) (by omega) (by omega) w
end Go.Proofs.YtkmnbodlciepaaaGreat
namespace Go.Proofs.YtkmnbodlciepaaaGreat
def sumK (f:Nat→Nat):Nat→Nat
 |0=>0
 |n+1=>sumK f n+f n
theorem sumK_cons (f:Nat→Nat):∀n,sumK f (n+1)=f 0+sumK (fun i=>f (i+1)) n
 |0=>by simp [sumK]
 |n+1=>by rw [sumK,sumK_cons f n,sumK,Nat.add_assoc]
theorem sumK_mono (f:Nat→Nat) {m n:Nat} (h:m≤n):sumK f m≤sumK f n:=by
 induction n with
 |zero=>
  obtain rfl:m=0:=by omega
  exact Nat.le_refl _
 |succ n ih=>
  rcases Nat.lt_or_ge m (n+1) with h1 | h1
  ·have:=ih (by omega);rw [sumK];omega
  ·obtain rfl:m=n+1:=by omega
   exact Nat.le_refl _
theorem sumK_congr {f g:Nat→Nat}:∀n,(∀i,i<n→f i=g i)→sumK f n=sumK g n
 |0,_=>rfl
 |n+1,h=>by rw [sumK,sumK,sumK_congr n (fun i hi=>h i (by omega)),h n (by omega)]
open Go.RowKit
def SumAt (w:World) (p n:Nat):Prop:=w.heap[p]? = some (.cells #[.int .u64 ((n / 18446744073709551616:Nat):Int),.int .u64 ((n % 18446744073709551616:Nat):Int)] 37 (0,0))
theorem SumAt.upd {F:List Nat} {w w':World} {p n:Nat} (h:SumAt w p n) (hu:Upd F w w') (hp:p∉F):SumAt w' p n:=by
 unfold SumAt at h ⊢
 rw [hu.block p (lt_of_block h) hp];exact h
theorem SumAt.upd0 {w w':World} {p n:Nat} (h:SumAt w p n) (hu:Upd [] w w'):SumAt w' p n:=h.upd hu (by simp)
theorem SumAt.cells {w:World} {p n:Nat} (h:SumAt w p n):w.cell? ⟨p,0,none⟩=some (.int .u64 ((n / 18446744073709551616:Nat):Int))∧w.cell? ⟨p,1,none⟩=some (.int .u64 ((n % 18446744073709551616:Nat):Int))∧∀j,w.frozen? ⟨p,j,none⟩=false:=by
 have h':w.heap[p]? = some (.cells #[.int .u64 ((n / 18446744073709551616:Nat):Int),.int .u64 ((n % 18446744073709551616:Nat):Int)] 37 (0,0)):=h
 refine ⟨?_,?_,fun j=>?_⟩<;>simp [World.cell?,World.frozen?,h']
theorem SumAt.set {w:World} {p n n2 h2 l2:Nat} (h:SumAt w p n) (e1:h2=n2 / 18446744073709551616) (e2:l2=n2 % 18446744073709551616):SumAt ((w.setCell ⟨p,0,none⟩ (.int .u64 (h2:Int))).setCell ⟨p,1,none⟩ (.int .u64 (l2:Int))) p n2:=by
 unfold SumAt at h ⊢
 subst e1 e2
 have h1:=heap_set h 0 (.int .u64 ((n2 / 18446744073709551616:Nat):Int))
 have h2:=heap_set h1 1 (.int .u64 ((n2 % 18446744073709551616:Nat):Int))
 rw [h2]
 rfl
theorem keep6 {w w':World} {a1 a2 a3 a4 a5 a6:Addr} {v1 v2 v3 v4 v5 v6:Value} (h:w.cell? a1=some v1∧w.cell? a2=some v2∧w.cell? a3=some v3∧w.cell? a4=some v4∧w.cell? a5=some v5∧w.cell? a6=some v6) (hu:Upd [] w w') :
 w'.cell? a1=some v1∧w'.cell? a2=some v2∧w'.cell? a3=some v3∧w'.cell? a4=some v4∧w'.cell? a5=some v5∧w'.cell? a6=some v6:=by
 have e:∀{a:Addr} {v:Value},w.cell? a=some v→w'.cell? a=some v:=fun {a v} ha=>(hu.cell (World.block_lt_of_cell? w _ ha) (by simp)).trans ha
 exact ⟨e h.1,e h.2.1,e h.2.2.1,e h.2.2.2.1,e h.2.2.2.2.1,e h.2.2.2.2.2⟩
end Go.Proofs.YtkmnbodlciepaaaGreat
