/- slices.Sort of names: the whole. The library's own text is walked. slices.Sort of names: the -/
import Derived.Deep.DeepCutAuto
import Derived.Deep.CutBlock
import Derived.Lib.ItoaNum
import Derived.Test.YtkbaaonchdeneaaGreatPbBoxesCoverP1
import Derived.Test.YtkbaaonchdeneaaGreatPb8
import Derived.Test.YtkbaaonchdeneaaGreatPb5
set_option maxHeartbeats 4000000
set_option maxRecDepth 100000
namespace Go.Proofs.YtkbaaonchdeneaaGreat
open Go.RowKit Go.Sort
def lT (w:World) (p a b:Nat) (d:Array Int) (rest:List Value) (et:TypeId) (e:Ending) (w':World):Prop:=∃d',PermIn a b d d'∧SortedIn ltInt a b d'∧Qw w p rest et d' e w'
end Go.Proofs.YtkbaaonchdeneaaGreat
namespace Go.Proofs.YtkbaaonchdeneaaGreat
open Go.RowKit Go.Sort
def KU:Kind Nat:={ T:=0,sT:=35,eT:=26,sz:=1,enc:=fun x=>[.int .u32 (x:Int)],len:=fun _=>rfl,one:=fun x u hu=>by simp at hu;subst hu;rfl }
def GZ (l:List Nat):List Nat:=l.mergeSort fun x y=>decide (x≤y)
theorem KO (l:List Nat):(GZ l).Perm l:=List.mergeSort_perm l _
theorem bV (l:List Nat):(GZ l).Pairwise (·≤·):=by
 have:=List.pairwise_mergeSort (le:=fun (x y:Nat)=>decide (x≤y)) (by intro a b c h1 h2;simp at *;omega) (by intro a b;simp;omega) l;exact this.imp (by intro a b h;simpa using h)
theorem Hl (l:List Nat):(GZ l).length=l.length:=(KO l).length_eq
theorem bW {l m:List Nat} (h:m.Perm l) (hs:m.Pairwise (·≤·)):m=GZ l:=
 List.Perm.eq_of_pairwise (le:=(·≤·)) (fun _ _ _ _ h1 h2=>Nat.le_antisymm h1 h2) hs (bV l) (h.trans (KO l).symm)
theorem uP (l:List Nat):KU.all l=l.map fun x=>.int .u32 (x:Int):=by
 induction l with
 |nil=>rfl
 |cons a l ih=>rw [List.map_cons,←ih];rfl
theorem iQ (A:Option Addr) (C:Nat) (w:World) :
 Calls Tryz.prog 183 #[.slice A 0 C,.int .i64 0,.int .i64 0] w fun e w'=>e=.returned (.tuple #[])∧Bf [] w w':=by
 go_enter Tryz.func183,Tryz.ntmps183
 go_wp2_with fail
 go_loopg [6] 0 (fun m s6 wr=>s6=.int .i64 1∧Bf [] w wr)
 case atStart=>exact ⟨rfl,Bf.refl _ _⟩
 case round=>
  obtain ⟨rfl,hu⟩:=hrel;have HU:=AQ hu;clear hu;go_wp2_with fail
  go_end0
  exact ⟨rfl,HU.out⟩
theorem a0C (A:Option Addr) (C lim:Nat) (w:World) :
 Calls Tryz.prog 121 #[.slice A 0 C,.int .i64 0,.int .i64 0,.int .i64 (lim:Int)] w fun e w'=>e=.returned (.tuple #[])∧Bf [] w w':=by
 have HI:=AQ (iQ A C);go_enter Tryz.func121,Tryz.ntmps121
 go_wp2_with fail
 go_loopg [1,2] 0 (fun m s1 s2 wr=>s1=.int .i64 0∧s2=.int .i64 0∧Bf [] w wr)
 case atStart=>exact ⟨rfl,rfl,Bf.refl _ _⟩
 case round=>
  obtain ⟨rfl,rfl,hu⟩:=hrel;have HU:=AQ hu;clear hu;go_wp2_with fail
  (with_reducible refine (HI.out _).mono ?_);rintro e w1 ⟨rfl,hu1⟩;have FY:=AQ (HU.out.trans hu1);clear hu1;go_wp2_with fail
  (try simp only [Exit.inBlock,Exit.then])
  refine bodyPost_ret (results_none rfl _ _ _) rfl ?_
  exact ⟨rfl,FY.out⟩
theorem Zr (n:Nat) (h:n<1000000):Lib.bitLen n<1000:=by
 rcases Nat.eq_zero_or_pos n with h0 | h0
 ·subst h0;decide
 ·have hb:=Lib.bitLenAux_bounds 64 n (Bc h (by decide)) (by omega);obtain ⟨L,hL⟩:=AO (Lib.bitLen n);rw [show Lib.bitLenAux 64 n=L from hL] at hb;rw [hL];rcases Nat.lt_or_ge 20 L with h1 | h1
  ·have h2:2 ^ 20≤2 ^ (L - 1):=Nat.pow_le_pow_right (by decide) (by omega);have h3:(2:Nat) ^ 20=1048576:=by decide
   omega
  ·omega
def a1S (M:Nat):Prop:=∀(p C lim:Nat) (d:Array Int) (rest:List Value) (et:TypeId) (w:World),RB w p d rest et→d.size<M→lim<1000→
 Calls Tryz.prog 121 #[.slice (some ⟨p,0,none⟩) d.size C,.int .i64 ((0:Nat):Int),.int .i64 (d.size:Int),.int .i64 (lim:Int)] w (lT w p 0 d.size d rest et)
def WW (M:Nat):Prop:=∀(base:Nat) (v:Value) (l:List Nat) (w:World),KU.row w base v l→l.length<M→
 Calls Tryz.prog 67 #[v] w fun e w'=>e=.returned (.tuple #[])∧KU.row w' base v (GZ l)∧Bf (blk v) w w'
theorem a5T {M:Nat} (hM:M≤1000000) (hpd:a1S M) (base:Nat) (v:Value) (l:List Nat) (w:World) (h:KU.row w base v l) (hl:l.length<M) :
 Calls Tryz.prog 67 #[v] w fun e w'=>e=.returned (.tuple #[])∧KU.row w' base v (GZ l)∧Bf (blk v) w w':=by
 obtain ⟨n,hn⟩:=AO l.length;have hall:=uP l;rcases h.2 with ⟨rfl,h0⟩ | ⟨g,cap,cur,rfl,hg,hh,hc1,hc2,hc3,hc4⟩
 ·have hl0:l = []:=List.eq_nil_of_length_eq_zero h0;subst hl0;have HP:=AQ (fun lim w=>a0C none 0 lim w);have HH:=AQ h;have hz:(Value.int .i64 (Lib.bitLen ((0:Int)).toNat:Int))=.int .i64 0:=by rfl
  clear h;go_enter Tryz.func67,Tryz.ntmps67
  go_wp2_with fail
  refine (Tryz.bits_Len _ _ (by omega) (by omega)).mono ?_
  rintro e w' ⟨rfl,rfl⟩;go_wp2_with fail
  (with_reducible refine (HP.out _ _).mono ?_);rintro e w1 ⟨rfl,hu1⟩;have FY:=AQ hu1;clear hu1;go_wp2_with fail
  go_end0
  refine ⟨rfl,?_,FY.out.mono (by simp)⟩
  rw [show GZ [] = [] from by simp [GZ]];exact Bg HH.out FY.out (by simp)
 ·obtain ⟨d,hd⟩:∃d:Array Int,d=(l.map fun x:Nat=>(x:Int)).toArray:=⟨_,rfl⟩;have hds:d.size=n:=by rw [hd];simp [hn]
  have hrb:RB w g d (cur.toList.drop n) 26:=by
   unfold RB;rw [hh]
   have e:d.toList.map Yr++cur.toList.drop n=cur.toList:=by
    have:d.toList.map Yr=cur.toList.take n:=by
     rw [hd,←hn];have h4:=hc4;rw [show (l.length*KU.sz)=l.length from Nat.mul_one _,hall] at h4;rw [h4];simp
    rw [this,List.take_append_drop]
   rw [e];rfl
  have hpq:=hpd g cap (Lib.bitLen n) d (cur.toList.drop n) 26 w hrb (by omega) (Zr n (by omega));rw [hds] at hpq;have HP:=AQ hpq;have HC:=Aw hd hds hg hc1 hc2 hc3 hn;have HZ:=AQ (sorted_unique_holds (lt:=ltInt) (α:=Int));have n0:(n:Int)<1000000:=by omega
  rw [hn];have hnb:((n:Int)).toNat=n:=rfl;clear h hrb hpq hd hds hh hc4 hg hc1 hc2 hc3 hall;go_enter Tryz.func67,Tryz.ntmps67
  go_wp2_with fail
  refine (Tryz.bits_Len _ _ (by omega) (by omega)).mono ?_
  rintro e w' ⟨rfl,rfl⟩;rw [hnb];obtain ⟨L,hL⟩:=AO (Lib.bitLen n);rw [hL] at HP ⊢;rw [show ((0:Nat):Int)=0 from rfl] at HP;clear hL hnb;go_wp2_with fail
  (with_reducible refine HP.out.mono ?_);rintro e w1 ⟨d',hp,hs,rfl,hr,hu⟩;have HR:=Ap hp hs hr hu;clear hp hs hr hu;go_wp2_with fail
  go_end0
  obtain ⟨hp,hs,hr,hu⟩:=HR.out;obtain ⟨hd,hds,hg,hc1,hc2,hc3,hn'⟩:=HC.out;refine ⟨rfl,?_,by simpa [blk] using hu⟩
  have hm:=HZ.out swo_ltInt (fun x y h1 h2=>by simp only [ltInt,decide_eq_false_iff_not] at h1 h2;omega) d d' (by rw [hds];exact hp) (by rw [hds];exact hs)
  have hperm:d'.toList.Perm (l.map fun x:Nat=>(x:Int)):=by
   rw [hm];refine (List.mergeSort_perm _ _).trans ?_
   rw [hd]
  have hsort:d'.toList.Pairwise (·≤·):=by
   rw [hm];have:=List.pairwise_mergeSort (le:=fun (x y:Int)=>!ltInt y x) (by intro a b c h1 h2;simp [ltInt] at *;omega) (by intro a b;simp [ltInt];omega) d.toList;exact this.imp (by intro a b h;simpa [ltInt] using h)
  have hback:(d'.toList.map Int.toNat).map (fun x:Nat=>(x:Int))=d'.toList:=by
   rw [List.map_map];conv=>rhs;rw [←List.map_id d'.toList]
   refine List.map_congr_left fun x hx=>?_
   obtain ⟨y,_,rfl⟩:=List.mem_map.1 (hperm.mem_iff.1 hx);simp
  have hso:d'.toList.map Int.toNat=GZ l:=by
   refine bW ?_ ?_
   ·have:=hperm.map Int.toNat;rw [List.map_map] at this
    have e:(l.map (Int.toNat ∘ fun x:Nat=>(x:Int)))=l:=by
     conv=>rhs;rw [←List.map_id l]
     exact List.map_congr_left fun x _=>by simp
    rwa [e] at this
   ·rw [List.pairwise_map];exact hsort.imp fun h=>by omega
  have a3M:d'.size=n:=by rw [hp.1];exact hds
  have hdl:d'.toList.map Yr=KU.all (GZ l):=by
   rw [uP,←hso];conv=>lhs;rw [←hback]
   rw [List.map_map];rfl
  have hln:(GZ l).length=n:=by rw [Hl];exact hn'
  refine ⟨by rw [Kind.IG,hln],.inr ⟨g,cap,_,by rw [hln],hg,hr,by rw [hln,←hn'];exact hc1,hc2,?_,?_⟩⟩
  ·simp only [List.size_toArray,AY,List.length_map,List.length_drop,Array.length_toList];rw [a3M,hc3,show KU.sz=1 from rfl];omega
  ·rw [hln,show n*KU.sz=n from Nat.mul_one _,←hdl];rw [List.take_append_of_le_length (by simp [a3M]),List.take_of_length_le (by simp [a3M])]
end Go.Proofs.YtkbaaonchdeneaaGreat
namespace Go.Proofs.YtkbaaonchdeneaaGreat
open Go.RowKit Go.Sort
theorem a3N:a1S 13:=by
 intro p C lim d rest et w h hs hl;obtain ⟨n,hn⟩:=AO d.size;have hc:=lQ p C 0 n d rest et w h (Nat.zero_le _) (by omega) (by omega);obtain ⟨g1,g2⟩:=insertionSort_holds swo_ltInt d 0 n (Nat.zero_le _) (by omega);rw [hn] at hs hc ⊢;unfold lT;have HC:=AQ hc;have HE:=Ai g1 g2;have hz:(n:Int)≤12:=by omega
 have n0:(0:Int)≤(n:Int):=AU _;clear hc g1 g2 hn h hs hl;rw [show ((0:Nat):Int)=0 from rfl] at HC ⊢;go_enter Tryz.func121,Tryz.ntmps121
 go_wp2_with fail
 go_loopg [1,2] 0 (fun m s1 s2 wr=>s1=.int .i64 0∧s2=.int .i64 (n:Int)∧wr=w)
 case atStart=>exact ⟨rfl,rfl,rfl⟩
 case round=>
  obtain ⟨rfl,rfl,rfl⟩:=hrel;go_wp2_with fail
  (with_reducible refine HC.out.mono ?_);rintro e w1 ⟨rfl,hr1,hu1⟩;have H1:=Ai hr1 hu1;clear hr1 hu1;go_wp2_with fail
  (try simp only [Exit.inBlock,Exit.then])
  refine bodyPost_ret (results_none rfl _ _ _) rfl ?_
  exact ⟨_,HE.1,HE.2,rfl,H1.1,H1.2⟩
theorem Zt:WW 13:=a5T (by decide) a3N
