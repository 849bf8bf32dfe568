/- wide: Of, Add, Mul: numbers of 128 bits. Sums from 0 on. No program. A number of 128 bits in a variable. -/
import Derived.Test.YtkbaaonchdeneaaGreatProg
import Derived.Shelf.Bits.Mul64
import Derived.Shelf.Spec.BitsCarry
import Derived.Test.YtkbaaonchdeneaaGreatPc1
import Derived.Test.YtkbaaonchdeneaaGreatPc2
set_option maxHeartbeats 1000000
set_option maxRecDepth 100000
namespace Go.Proofs.YtkbaaonchdeneaaGreat
section
open Go.RowKit Go.Shelf
def a2V:Go.Shelf.Ren:=⟨λ| 264=>158 | n=>n,λ| 53=>50 | 46=>107 | n=>n,λ| n=>n⟩
theorem a2W:Go.Proofs.Lays.n264 Tryz.prog a2V:={
 mixed:=by kernel_rfl
 f264:=Tryz.func158.trans (congrArg some (by kernel_rfl))
 t46:=Tryz.underlying107
 a46:=Tryz.isAgg107
 z46:=Tryz.sizeOf107
 v46:=Tryz.zeroValue107
 t53:=Tryz.underlying50
 a53:=Tryz.isAgg50
 z53:=Tryz.sizeOf50
 v53:=Tryz.zeroValue50 }
theorem a5W (x y:Nat) (hx:x<18446744073709551616) (hy:y<18446744073709551616) (w:World) :
 Calls Tryz.prog 158 #[.int .u64 x,.int .u64 y] w λe w'=>e=.returned (.tuple #[.int .u64 ((x*y / 18446744073709551616:Nat):Int),.int .u64 ((x*y % 18446744073709551616:Nat):Int)])/\w'=w:=Any.bits_Mul64 a2W x y hx hy w
def a5X:Go.Shelf.Ren:=⟨λ| 25=>99 | n=>n,λ| 22=>50 | n=>n,λ| n=>n⟩
theorem a5Y:Go.Proofs.Lays7.n25 Tryz.prog a5X:={
 mixed:=by kernel_rfl
 f25:=Tryz.func99.trans (congrArg some (by kernel_rfl))
 t22:=Tryz.underlying50
 a22:=Tryz.isAgg50
 z22:=Tryz.sizeOf50
 v22:=Tryz.zeroValue50
 i22:=by kernel_rfl }
theorem a1p (x y c:Int) (hx:0<=x) (hy:0<=y) (hc0:0<=c) (hc:c<=1) (w:World):(callFunc 99 #[.int .u64 x,.int .u64 y,.int .u64 c]).run Tryz.prog w =
 .ok (.value (.tuple #[.int .u64 ((x+y+c) % 18446744073709551616),.int .u64 ((x+y+c) / 18446744073709551616)])) w:=by
 obtain ⟨x,rfl⟩:=Int.eq_ofNat_of_zero_le hx;obtain ⟨y,rfl⟩:=Int.eq_ofNat_of_zero_le hy;obtain ⟨c,rfl⟩:=Int.eq_ofNat_of_zero_le hc0;refine (Any7.bits_Add64 a5Y x y c (by omega) w).trans ?_
 congr 5<;>omega
theorem a0u (x y:Int) (hx:0<=x) (hy:0<=y) (w:World):(callFunc 99 #[.int .u64 x,.int .u64 y,.int .u64 0]).run Tryz.prog w =
 .ok (.value (.tuple #[.int .u64 ((x+y) % 18446744073709551616),.int .u64 ((x+y) / 18446744073709551616)])) w:=by
 simpa using a1p x y 0 hx hy (Int.le_refl 0) (by decide) w
def Fp (n:Nat):Value:=.agg #[.int .u64 ((n / 18446744073709551616:Nat):Int),.int .u64 ((n % 18446744073709551616:Nat):Int)]
def NC (n:Nat):Prop:=n / 18446744073709551616<18446744073709551616
theorem NC.mono {m n:Nat} (h:NC n) (hm:m<=n):NC m:=Nat.lt_of_le_of_lt (Nat.div_le_div_right hm) h
theorem iR (x y:Nat) (hx:x<18446744073709551616) (hy:y<18446744073709551616) (w:World):Calls Tryz.prog 96 #[.int .u64 (x:Int),.int .u64 (y:Int)] w λe w'=>e=.returned (Fp (x*y))/\Bj [] w w':=by
 have hm:=λw=>a5W x y hx hy w
 unfold Fp;obtain ⟨h,hh⟩:=AU (x*y / 18446744073709551616);obtain ⟨l,hl⟩:=AU (x*y % 18446744073709551616);simp only [hh,hl] at hm;rw [hh,hl];have HM:=AX hm;clear hm hh hl hx hy;go_enter Tryz.func96,Tryz.ntmps96
 go_wp2_with fail
 go_fit (HM.out _)
 rintro e w' ⟨rfl,rfl⟩;go_wp2_with fail
 exact bodyPost_ret (v:=.agg #[.int .u64 (h:Int),.int .u64 (l:Int)]) (by simp [results,Tryz.results96,go_sem]) rfl ⟨rfl,(Bj.refl _ _).alloc _⟩
theorem a5Z (ah al bh bl h l:Int) (h1:0<=ah) (h2:0<=al) (h3:0<=bh) (h4:0<=bl) (h2':al<18446744073709551616) (h4':bl<18446744073709551616) (hh:ah+bh+(al+bl) / 18446744073709551616=h) (hb:h<18446744073709551616) (hl:(al+bl) % 18446744073709551616=l) (w:World) :
 Calls Tryz.prog 44 #[.agg #[.int .u64 ah,.int .u64 al],.agg #[.int .u64 bh,.int .u64 bl]] w λe w'=>e=.returned (.tuple #[.agg #[.int .u64 h,.int .u64 l],.bool true])/\Bj [] w w':=by
 have k0:0<=(al+bl) / 18446744073709551616:=by omega
 have k1:(al+bl) / 18446744073709551616<=1:=by omega
 obtain ⟨c,hc⟩:=AU ((al+bl) / 18446744073709551616)
 have a1:∀w,(callFunc 99 #[.int .u64 al,.int .u64 bl,.int .u64 0]).run Tryz.prog w=.ok (.value (.tuple #[.int .u64 l,.int .u64 c])) w:=λw=>by
  rw [a0u al bl h2 h4 w,hl,hc]
 rw [hc] at k0 k1 hh
 have a2:∀w,(callFunc 99 #[.int .u64 ah,.int .u64 bh,.int .u64 c]).run Tryz.prog w=.ok (.value (.tuple #[.int .u64 h,.int .u64 0])) w:=λw=>by
  rw [a1p ah bh c h1 h3 k0 k1 w,hh];have e1:h % 18446744073709551616=h:=Int.emod_eq_of_lt (by omega) hb;have e2:h / 18446744073709551616=0:=Int.ediv_eq_zero_of_lt (by omega) hb;rw [e1,e2]
 clear h1 h2 h3 h4 h2' h4' hh hb hl hc k0 k1;go_enter Tryz.func44,Tryz.ntmps44
 go_wp2_with (first | simp only [a1] | simp only [a2])
 exact bodyPost_ret (v:=.tuple #[.agg #[.int .u64 h,.int .u64 l],.bool true]) (by simp [results,Tryz.results44,go_sem]) rfl ⟨rfl,(((Bj.refl _ _).alloc _).alloc _).alloc _⟩
theorem iU (a b:Nat) (h:NC (a+b)) (w:World):Calls Tryz.prog 44 #[Fp a,Fp b] w λe w'=>e=.returned (.tuple #[Fp (a+b),.bool true])/\Bj [] w w':=by
 unfold NC at h;unfold Fp;exact a5Z _ _ _ _ _ _ (by omega) (by omega) (by omega) (by omega) (by omega) (by omega) (by omega) (by omega) (by omega) w
end
section
def EH (f:Nat->Nat):Nat->Nat
 |0=>0
 |n+1=>EH f n+f n
theorem Wi (f:Nat->Nat):∀n,EH f (n+1)=f 0+EH (λi=>f (i+1)) n
 |0=>by simp [EH]
 |n+1=>by rw [EH,Wi f n,EH,Nat.add_assoc]
theorem Wj (f:Nat->Nat) {m n:Nat} (h:m<=n):EH f m<=EH f n:=by
 induction n with
 |zero=>
  obtain rfl:m=0:=by omega
  exact Nat.le_refl _
 |succ n ih=>
  rcases Nat.lt_or_ge m (n+1) with h1 | h1
  ·have:=ih (by omega);rw [EH];omega
  ·obtain rfl:m=n+1:=by omega
   exact Nat.le_refl _
open Go.RowKit
def Ef (w:World) (p n:Nat):Prop:=w.heap[p]? = some (.cells #[.int .u64 ((n / 18446744073709551616:Nat):Int),.int .u64 ((n % 18446744073709551616:Nat):Int)] 52 (0,0))
theorem Ef.upd {F:List Nat} {w w':World} {p n:Nat} (h:Ef w p n) (hu:Bj F w w') (hp:p∉F):Ef w' p n:=by
 unfold Ef at h |-;rw [hu.block p (lt_of_block h) hp];exact h
theorem Ef.BF {w w':World} {p n:Nat} (h:Ef w p n) (hu:Bj [] w w'):Ef w' p n:=h.upd hu (by simp)
theorem Ef.lt {w:World} {p n:Nat} (h:Ef w p n):p<w.heap.size:=lt_of_block h
theorem Ef.cells {w:World} {p n:Nat} (h:Ef w p n):w.cell? p=some (.int .u64 ((n / 18446744073709551616:Nat):Int))/\w.cell? ⟨p,1,none⟩=some (.int .u64 ((n % 18446744073709551616:Nat):Int))/\∀j,w.frozen? ⟨p,j,none⟩=false:=by
 have h':w.heap[p]? = some (.cells #[.int .u64 ((n / 18446744073709551616:Nat):Int),.int .u64 ((n % 18446744073709551616:Nat):Int)] 52 (0,0)):=h;refine ⟨?_,?_,λj=>?_⟩<;>simp [World.cell?,World.frozen?,h']
theorem Ef.set {w:World} {p n n2 h2 l2:Nat} (h:Ef w p n) (e1:h2=n2 / 18446744073709551616) (e2:l2=n2 % 18446744073709551616):Ef ((w.setCell p (.int .u64 (h2:Int))).setCell ⟨p,1,none⟩ (.int .u64 (l2:Int))) p n2:=by
 unfold Ef at h |-;subst e1 e2;have h1:=heap_set h 0 (.int .u64 ((n2 / 18446744073709551616:Nat):Int));have h2:=heap_set h1 1 (.int .u64 ((n2 % 18446744073709551616:Nat):Int));rw [h2];rfl
