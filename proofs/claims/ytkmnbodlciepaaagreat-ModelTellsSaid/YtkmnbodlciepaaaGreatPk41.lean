/- Numbers as lists of their bits, the lowest first, plainly. No program. Rows of numbers: by their places, made, stored into, read. No program but for the numbers of types. The document's numbers as bits: Bits, Number, Cmp, Sub, Diff. The document's numbers as bits: Cmp, Sub, Diff. -/
import Derived.WalkKit
import Derived.Test.YtkmnbodlciepaaaGreatProg
import Derived.Test.YtkmnbodlciepaaaGreatRows
import Derived.IntWalk
import Derived.LoopTactic
import Derived.Deep.LoopGhost
import Derived.Deep.Light
import Derived.Deep.QuietTactic
import Derived.Deep.Cut
import Derived.Deep.CutBlock
import Derived.Deep.DeepCutAuto
import Derived.BigQuiet
import Derived.Lib.SmallJoins
import Derived.WalkSmall
import Derived.Test.YtkmnbodlciepaaaGreatPk4
import Derived.Test.YtkmnbodlciepaaaGreatPk17
import Derived.Test.YtkmnbodlciepaaaGreatPk5
import Derived.Test.YtkmnbodlciepaaaGreatPk24
set_option maxHeartbeats 8000000
set_option maxRecDepth 100000
namespace Go.Proofs.YtkmnbodlciepaaaGreat
def valL:List Nat→Nat
 | []=>0
 |b::l=>b+2*valL l
def Bits01 (l:List Nat):Prop:=∀x∈l,x≤1
theorem valL_app (a b:List Nat):valL (a++b)=valL a+2 ^ a.length*valL b:=by
 induction a with
 |nil=>simp [valL]
 |cons x a ih=>
  simp only [List.cons_append,valL,ih,List.length_cons,Nat.pow_succ]
  rw [Nat.mul_comm (2 ^ a.length) 2,Nat.mul_assoc]
  omega
theorem valL_snoc (a:List Nat) (x:Nat):valL (a++[x])=valL a+2 ^ a.length*x:=by rw [valL_app];simp [valL]
theorem Bits01.cons {x:Nat} {l:List Nat} (h:Bits01 (x::l)):x≤1∧Bits01 l:=⟨h x (by simp),fun y hy=>h y (by simp [hy])⟩
theorem valL_lt {l:List Nat} (h:Bits01 l):valL l<2 ^ l.length:=by
 induction l with
 |nil=>simp [valL]
 |cons x l ih=>
  have h1:=ih h.cons.2
  have h2:=h.cons.1
  simp only [valL,List.length_cons,Nat.pow_succ]
  omega
theorem Bits01.take {l:List Nat} (h:Bits01 l) (k:Nat):Bits01 (l.take k):=fun x hx=>h x (List.mem_of_mem_take hx)
theorem Bits01.drop {l:List Nat} (h:Bits01 l) (k:Nat):Bits01 (l.drop k):=fun x hx=>h x (List.mem_of_mem_drop hx)
theorem Bits01.at {l:List Nat} (h:Bits01 l) {k x:Nat} (hx:l[k]? = some x):x≤1:=h x (List.mem_of_getElem? hx)
theorem Bits01.app {a b:List Nat} (h:Bits01 a) (h':Bits01 b):Bits01 (a++b):=fun x hx=>by
 rcases List.mem_append.1 hx with h1 | h1
 ·exact h x h1
 ·exact h' x h1
theorem Bits01.set {l:List Nat} (h:Bits01 l) (k:Nat) {x:Nat} (hx:x≤1):Bits01 (l.set k x):=fun y hy=>by
 rcases List.mem_or_eq_of_mem_set hy with h1 | h1
 ·exact h y h1
 ·rw [h1];exact hx
theorem Bits01.rep (k:Nat) {x:Nat} (hx:x≤1):Bits01 (List.replicate k x):=fun y hy=>by rw [List.eq_of_mem_replicate hy];exact hx
theorem valL_split (l:List Nat) {k:Nat} (hk:k≤l.length):valL l=valL (l.take k)+2 ^ k*valL (l.drop k):=by
 have:=valL_app (l.take k) (l.drop k)
 rw [List.take_append_drop,List.length_take,Nat.min_eq_left hk] at this
 exact this
theorem valL_at {l:List Nat} {k x:Nat} (hx:l[k]? = some x):valL (l.drop k)=x+2*valL (l.drop (k+1)):=by
 obtain ⟨hk,he⟩:=List.getElem?_eq_some_iff.1 hx
 rw [List.drop_eq_getElem_cons hk,he,valL]
theorem take_succ_some {α:Type} {l:List α} {k:Nat} {x:α} (hx:l[k]? = some x):l.take (k+1)=l.take k++[x]:=by
 rw [List.take_add_one,hx];rfl
theorem valL_take {l:List Nat} {k x:Nat} (hx:l[k]? = some x):valL (l.take (k+1))=valL (l.take k)+2 ^ k*x:=by
 obtain ⟨hk,_⟩:=List.getElem?_eq_some_iff.1 hx
 rw [take_succ_some hx,valL_snoc,List.length_take,Nat.min_eq_left (by omega)]
def bitsL (N k:Nat):List Nat:=(List.range k).map fun i=>N / 2 ^ i % 2
theorem bitsL_len (N k:Nat):(bitsL N k).length=k:=by simp [bitsL]
theorem bitsL_01 (N k:Nat):Bits01 (bitsL N k):=fun x hx=>by
 unfold bitsL at hx
 obtain ⟨i,_,rfl⟩:=List.mem_map.1 hx
 omega
theorem bitsL_val (N k:Nat):valL (bitsL N k)=N % 2 ^ k:=by
 induction k with
 |zero=>simp [bitsL,valL,Nat.mod_one]
 |succ k ih=>
  have e:bitsL N (k+1)=bitsL N k++[N / 2 ^ k % 2]:=by simp [bitsL,List.range_succ]
  rw [e,valL_snoc,ih,bitsL_len,Nat.mod_pow_succ]
def BL (k v:Nat) (l:List Nat):Prop:=l.length=k∧Bits01 l∧valL l=v
theorem BL_bits {N:Nat} (h:N<2 ^ 128):BL 128 N (bitsL N 128):=⟨bitsL_len _ _,bitsL_01 _ _,by rw [bitsL_val,Nat.mod_eq_of_lt h]⟩
def lowN (l:List Nat) (i:Nat):Nat:=valL ((l.take i).take 64)
def highN (l:List Nat) (i:Nat):Nat:=valL ((l.take i).drop 64)
theorem lowN_zero (l:List Nat):lowN l 0=0:=by simp [lowN,valL]
theorem highN_zero (l:List Nat):highN l 0=0:=by simp [highN,valL]
theorem lowN_step {l:List Nat} {i x:Nat} (hx:l[i]? = some x):lowN l (i+1)=if i<64 then lowN l i+2 ^ i*x else lowN l i:=by
 unfold lowN
 split
 ·rename_i h
  rw [List.take_take,List.take_take,Nat.min_eq_right (by omega),Nat.min_eq_right (by omega),valL_take hx]
 ·rename_i h
  rw [List.take_take,List.take_take,Nat.min_eq_left (by omega),Nat.min_eq_left (by omega)]
theorem highN_step {l:List Nat} {i x:Nat} (hx:l[i]? = some x):highN l (i+1)=if i<64 then 0 else highN l i+2 ^ (i - 64)*x:=by
 obtain ⟨hk,_⟩:=List.getElem?_eq_some_iff.1 hx
 unfold highN
 split
 ·rename_i h
  rw [List.drop_eq_nil_of_le (by simp;omega)];rfl
 ·rename_i h
  rw [take_succ_some hx,List.drop_append_of_le_length (by simp;omega),valL_snoc,List.length_drop,List.length_take,Nat.min_eq_left (by omega)]
theorem highN_early {l:List Nat} {i:Nat} (h:i≤64):highN l i=0:=by
 unfold highN
 rw [List.drop_eq_nil_of_le (by simp;omega)];rfl
theorem lowN_lt {l:List Nat} (h:Bits01 l) (i:Nat):lowN l i<18446744073709551616:=by
 have h1:=valL_lt ((h.take i).take 64)
 have h2:((l.take i).take 64).length≤64:=by rw [List.length_take];exact Nat.min_le_left _ _
 have h3:2 ^ ((l.take i).take 64).length≤2 ^ 64:=Nat.pow_le_pow_right (by decide) h2
 unfold lowN
 exact Nat.lt_of_lt_of_le h1 h3
theorem valL_drop_take (l:List Nat) (i k:Nat):valL ((l.take i).drop k)≤valL (l.drop k):=by
 have e:l.drop k=(l.take i).drop k++(l.drop (max i k)):=by
  rw [List.drop_take]
  rcases Nat.le_total i k with h | h
  ·rw [Nat.max_eq_right h,Nat.sub_eq_zero_of_le h];simp
  ·rw [Nat.max_eq_left h]
   have:=List.take_append_drop (i - k) (l.drop k)
   rw [List.drop_drop] at this
   rw [show k+(i - k)=i by omega] at this
   exact this.symm
 rw [e,valL_app]
 exact Nat.le_add_right _ _
theorem valL_both (l:List Nat):valL l=lowN l l.length+18446744073709551616*highN l l.length:=by
 unfold lowN highN
 rw [List.take_length]
 rcases Nat.le_total 64 l.length with h | h
 ·exact valL_split l h
 ·rw [List.take_of_length_le h,List.drop_eq_nil_of_le h];simp [valL]
theorem highN_le (l:List Nat) (i:Nat):highN l i≤highN l l.length:=by
 unfold highN
 rw [List.take_length]
 exact valL_drop_take l i 64
theorem wide_parts {l:List Nat} (h:Bits01 l):highN l l.length=valL l / 18446744073709551616∧lowN l l.length=valL l % 18446744073709551616:=by
 have h1:=valL_both l
 have h2:=lowN_lt h l.length
 omega
theorem bit_late {l:List Nat} {i x:Nat} (hx:l[i]? = some x) (hi:128≤i) (hv:valL l<340282366920938463463374607431768211456):x=0:=by
 obtain ⟨hk,_⟩:=List.getElem?_eq_some_iff.1 hx
 have h1:=valL_split l (k:=i) (by omega)
 have h2:=valL_at hx
 rcases Nat.eq_zero_or_pos x with h0 | h0
 ·exact h0
 ·exfalso
  have h3:2 ^ 128≤2 ^ i:=Nat.pow_le_pow_right (by decide) hi
  have h4:2 ^ i*1≤2 ^ i*valL (l.drop i):=Nat.mul_le_mul_left _ (by omega)
  have h5:(2:Nat) ^ 128=340282366920938463463374607431768211456:=by decide
  omega
theorem sum_step {A B L:List Nat} {i a b c:Nat} (ha:A[i]? = some a) (hb:B[i]? = some b) (hL:L.length=i) (hv:valL L+2 ^ i*c=valL (A.take i)+valL (B.take i)) :
 valL (L++[(a+b+c) % 2])+2 ^ (i+1)*((a+b+c) / 2)=valL (A.take (i+1))+valL (B.take (i+1)):=by
 rw [valL_snoc,valL_take ha,valL_take hb,hL,Nat.pow_succ,Nat.mul_assoc]
 have h1:2*((a+b+c) / 2)+(a+b+c) % 2=a+b+c:=Nat.div_add_mod _ _
 have h2:2 ^ i*(2*((a+b+c) / 2)+(a+b+c) % 2)=2 ^ i*(a+b+c):=by rw [h1]
 rw [Nat.mul_add,Nat.mul_add,Nat.mul_add] at h2
 omega
theorem cmp_at {A B:List Nat} {i a b:Nat} (hA:Bits01 A) (ha:A[i]? = some a) (hb:B[i]? = some b) (hd:A.drop (i+1)=B.drop (i+1)) (hlt:a<b):valL A<valL B:=by
 obtain ⟨hk,_⟩:=List.getElem?_eq_some_iff.1 ha
 obtain ⟨hk',_⟩:=List.getElem?_eq_some_iff.1 hb
 rw [valL_split A (k:=i) (by omega),valL_split B (k:=i) (by omega),valL_at ha,valL_at hb,hd]
 have h1:=valL_lt (hA.take i)
 rw [List.length_take,Nat.min_eq_left (by omega)] at h1
 have h2:2 ^ i*(a+2*valL (B.drop (i+1))+1)≤2 ^ i*(b+2*valL (B.drop (i+1))):=Nat.mul_le_mul_left _ (by omega)
 rw [Nat.mul_add,Nat.mul_one] at h2
 omega
theorem drop_at {α:Type} {A B:List α} {i:Nat} {a:α} (ha:A[i]? = some a) (hb:B[i]? = some a) (hd:A.drop (i+1)=B.drop (i+1)):A.drop i=B.drop i:=by
 obtain ⟨hk,e⟩:=List.getElem?_eq_some_iff.1 ha
 obtain ⟨hk',e'⟩:=List.getElem?_eq_some_iff.1 hb
 rw [List.drop_eq_getElem_cons hk,List.drop_eq_getElem_cons hk',e,e',hd]
def lendL (X:List Nat) (i k:Nat):List Nat:=X.take (i+1)++(List.replicate (k - (i+1)) 1++X.drop k)
theorem lendL_start (X:List Nat) (i:Nat):lendL X i (i+1)=X:=by simp [lendL]
theorem lendL_len {X:List Nat} {i k:Nat} (h:i<k) (hk:k≤X.length):(lendL X i k).length=X.length:=by simp [lendL];omega
theorem lendL_01 {X:List Nat} (h:Bits01 X) (i k:Nat):Bits01 (lendL X i k):=(h.take _).app ((Bits01.rep _ (by omega)).app (h.drop _))
theorem lendL_at {X:List Nat} {i k:Nat} (h:i<k) (hk:k≤X.length):(lendL X i k)[k]? = X[k]?:=by
 unfold lendL
 rw [List.getElem?_append_right (by simp;omega),List.getElem?_append_right (by simp;omega),List.getElem?_drop]
 congr 1
 simp;omega
theorem lendL_step {X:List Nat} {i k:Nat} (h:i<k) (hk:k<X.length):(lendL X i k).set k 1=lendL X i (k+1):=by
 unfold lendL
 rw [List.set_append_right _ _ (by simp;omega),List.set_append_right _ _ (by simp;omega),List.drop_eq_getElem_cons hk]
 have e:k - (X.take (i+1)).length - (List.replicate (k - (i+1)) 1:List Nat).length=0:=by simp;omega
 rw [e,List.set_cons_zero,show k+1 - (i+1)=(k - (i+1))+1 by omega,List.replicate_succ',List.append_assoc]
 rfl
theorem lend_more {X:List Nat} {i k:Nat} (h:i<k) (hk:k≤X.length) (hz:∀j,i<j→j<k→X[j]? = some 0) (hv:0<valL (X.drop (i+1))):2 ^ (k - (i+1))*valL (X.drop k)=valL (X.drop (i+1))∧k<X.length:=by
 have h1:2 ^ (k - (i+1))*valL (X.drop k)=valL (X.drop (i+1)):=by
  clear hv
  induction k with
  |zero=>omega
  |succ k ih=>
   rcases Nat.lt_or_ge i k with h' | h'
   ·have:=ih h' (by omega) (fun j h1 h2=>hz j h1 (by omega))
    have h3:=valL_at (hz k h' (by omega))
    rw [←this,h3,show k+1 - (i+1)=(k - (i+1))+1 by omega,Nat.pow_succ,Nat.mul_assoc]
    simp
   ·have:k=i:=by omega
    subst this;simp
 refine ⟨h1,?_⟩
 rcases Nat.lt_or_ge k X.length with h2 | h2
 ·exact h2
 ·rw [List.drop_eq_nil_of_le h2,valL] at h1;omega
theorem ones_val:∀n,valL (List.replicate n 1)+1=2 ^ n
 |0=>rfl
 |n+1=>by rw [List.replicate_succ,valL,Nat.pow_succ];have:=ones_val n;omega
theorem lend_done {X:List Nat} {i k x:Nat} (h:i<k) (hk:X[k]? = some x) (hx:x=1) (hz:∀j,i<j→j<k→X[j]? = some 0) (hv:0<valL (X.drop (i+1))) :
 valL (((lendL X i k).set k 0).drop (i+1))+1=valL (X.drop (i+1)):=by
 subst hx
 obtain ⟨hkl,he⟩:=List.getElem?_eq_some_iff.1 hk
 have h1:=(lend_more h (by omega) hz hv).1
 have h2:=valL_at hk
 have e:((lendL X i k).set k 0).drop (i+1)=List.replicate (k - (i+1)) 1++(0::X.drop (k+1)):=by
  unfold lendL
  rw [List.set_append_right _ _ (by simp;omega),List.set_append_right _ _ (by simp;omega),List.drop_eq_getElem_cons hkl]
  have e0:k - (X.take (i+1)).length - (List.replicate (k - (i+1)) 1:List Nat).length=0:=by simp;omega
  rw [e0,List.set_cons_zero,List.drop_append_of_le_length (by simp;omega)]
  have e1:(X.take (i+1)).drop (i+1) = []:=List.drop_eq_nil_of_le (by simp;omega)
  rw [e1];rfl
 rw [e,valL_app,valL,List.length_replicate,Nat.zero_add]
 have h3:=ones_val (k - (i+1))
 rw [h2,Nat.mul_add,Nat.mul_one] at h1
 omega
structure SubAt (X Y O:List Nat) (i D:Nat):Prop where
 lx:X.length=128
 bx:Bits01 X
 lo:O.length=128
 bo:Bits01 O
 le:valL (Y.drop i)≤valL (X.drop i)
 eq:valL (O.take i)+2 ^ i*(valL (X.drop i) - valL (Y.drop i))=D
theorem SubAt.step {X X' Y O:List Nat} {i D x y n:Nat} (h:SubAt X Y O i D) (hi:i<128) (hx:X[i]? = some x) (hy:Y[i]? = some y) (hn:n≤1) (hl:X'.length=128) (hb:Bits01 X')
 (hv:x+2*valL (X.drop (i+1))=y+n+2*valL (X'.drop (i+1))):SubAt X' Y (O.set i n) (i+1) D:=by
 have h1:=valL_at hx
 have h2:=valL_at hy
 have hle:=h.le
 have heq:=h.eq
 have hlo:=h.lo
 refine ⟨hl,hb,by simpa using hlo,h.bo.set i hn,by omega,?_⟩
 have e1:(O.set i n)[i]? = some n:=by simp [hlo,hi]
 rw [valL_take e1,List.take_set_of_le (by omega)]
 rw [←heq,h1,h2,show x+2*valL (X.drop (i+1)) - (y+2*valL (Y.drop (i+1)))=n+2*(valL (X'.drop (i+1)) - valL (Y.drop (i+1))) by omega,Nat.mul_add,Nat.pow_succ,Nat.mul_assoc]
 omega
theorem SubAt.done {X Y O:List Nat} {D:Nat} (h:SubAt X Y O 128 D) (hy:Y.length=128):BL 128 D O:=by
 refine ⟨h.lo,h.bo,?_⟩
 have:=h.eq
 rw [List.drop_eq_nil_of_le (by rw [h.lx];omega),List.take_of_length_le (by rw [h.lo];omega),List.drop_eq_nil_of_le (by omega)] at this
 simpa [valL] using this
open Go.RowKit
theorem kn_all (l:List Nat):KN.all l=l.map fun (x:Nat)=>(.int .i64 (x:Int):Value):=by
 induction l with
 |nil=>rfl
 |cons x l ih=>rw [List.map_cons,←ih];rfl
theorem kn_at {w:World} {A:Option Addr} {n C:Nat} {l:List Nat} (h:See KN w (.slice A n C) l) {k:Nat} {x:Nat} (hx:l[k]? = some x) :
 ∃b o,A=some ⟨b,o,none⟩∧n≤C∧C≤maxLen∧w.cell? ⟨b,o+k,none⟩=some (.int .i64 (x:Int)):=by
 obtain ⟨b,o,h1,h2,h3,h4⟩:=h.at hx
 have:=h4 0 _ rfl
 exact ⟨b,o,h1,h2,h3,by simpa [KN] using this⟩
theorem kn_row {w:World} {base:Nat} {A:Option Addr} {n C:Nat} {l:List Nat} (h:KN.row w base (.slice A n C) l) {k x:Nat} (hx:l[k]? = some x) :
 ∃g,A=some ⟨g,0,none⟩∧base≤g∧w.cell? ⟨g,k,none⟩=some (.int .i64 (x:Int))∧w.frozen? ⟨g,k,none⟩=false:=by
 obtain ⟨g,h1,h2,h3,h4⟩:=rowAt h hx
 have:=h3 0 _ rfl
 exact ⟨g,h1,h2,by simpa [KN] using this,h4 k⟩
theorem kn_made {w':World} {base g n:Nat} (h:w'.ownsRow base 3 1 (.slice (some ⟨g,0,none⟩) n n) n (madeCells #[.int .i64 0] (n*1)).toList):KN.row w' base (.slice (some ⟨g,0,none⟩) n n) (List.replicate n 0):=by
 unfold Kind.row
 rw [List.length_replicate,kn_all,List.map_replicate]
 rw [Nat.mul_one,toList_madeCells_one] at h
 exact h
theorem kn_set {w:World} {base g n C:Nat} {l:List Nat} (hn:l.length=n) (h:KN.row w base (.slice (some ⟨g,0,none⟩) n C) l) (k b:Nat) :
 KN.row (w.setCell ⟨g,k,none⟩ (.int .i64 (b:Int))) base (.slice (some ⟨g,0,none⟩) n C) (l.set k b):=by
 subst hn
 have h':w.ownsRow base KN.eT KN.sz (.slice (some ⟨g,0,none⟩) l.length C) l.length (KN.all l):=h
 have:=(World.ownsRow.stored h' k (.int .i64 (b:Int))).1
 unfold Kind.row
 rw [List.length_set,kn_all,List.map_set,←kn_all]
 exact this
theorem kn_info:(Tryz.prog.info? 3).map (fun i=>(i.zero,i.size,i.bytes))=some (some (.int .i64 0),1,8):=by kernel_rfl
theorem kn_make (W:World) (N:Nat) (hN:N<1000000):(Instr.makeSlice 138 (.int .i64 (N:Int)) (.int .i64 (N:Int))).run Tryz.prog W=.ok (.slice (some ⟨W.heap.size,0,none⟩) N N) (W.alloc (.cells (madeCells #[.int .i64 0] (N*1)) 3))∧
 KN.row (W.alloc (.cells (madeCells #[.int .i64 0] (N*1)) 3)) W.heap.size (.slice (some ⟨W.heap.size,0,none⟩) N N) (List.replicate N 0):=by
 obtain ⟨i0,hi,hy0,hy1,hy2⟩:=info_parts kn_info
 have:=run_make (P:=Tryz.prog) W 138 3 i0 (.int .i64 0) Tryz.underlying138 hi hy0 .i64 .i64 N N (by omega) (by omega) (by rw [hy2];omega) (by omega)
 rw [hy1] at this
 refine ⟨this,?_⟩
 have h2:=World.ownsRow_lit (e:=3) (size:=1) (base:=W.heap.size) W (madeCells #[.int .i64 0] (N*1)) N (Nat.le_refl _) (by unfold maxLen;omega) (size_madeCells _ _)
 exact kn_made h2
def bitsF (N i:Nat):List Nat:=(List.range 128).map fun j=>if j<i∨(64≤j∧j<64+i) then N / 2 ^ j % 2 else 0
theorem bitsF_zero (N:Nat):bitsF N 0=List.replicate 128 0:=by
 unfold bitsF
 refine List.ext_getElem? fun j=>?_
 rw [List.getElem?_map,List.getElem?_replicate]
 by_cases h:j<128
 ·rw [List.getElem?_range h,if_pos h]
  simp;omega
 ·rw [List.getElem?_eq_none (by simp;omega),if_neg h];rfl
theorem bitsF_end (N:Nat):bitsF N 64=bitsL N 128:=by
 unfold bitsF bitsL
 refine List.map_congr_left fun j hj=>?_
 rw [List.mem_range] at hj
 rw [if_pos (by omega)]
theorem bitsF_len (N i:Nat):(bitsF N i).length=128:=by simp [bitsF]
theorem bitsF_step (N i:Nat) (hi:i<64):((bitsF N i).set i (N / 2 ^ i % 2)).set (64+i) (N / 2 ^ (64+i) % 2)=bitsF N (i+1):=by
 refine List.ext_getElem? fun j=>?_
 rw [List.getElem?_set,List.getElem?_set]
 simp only [List.length_set,bitsF_len]
 by_cases h:j<128
 ·have e:∀k,(bitsF N k)[j]? = some (if j<k∨(64≤j∧j<64+k) then N / 2 ^ j % 2 else 0):=fun k=>by unfold bitsF;rw [List.getElem?_map,List.getElem?_range h];rfl
  rw [e,e]
  by_cases h1:64+i=j
  ·subst h1
   rw [if_pos rfl,if_pos h,if_pos (by omega)]
  ·rw [if_neg h1]
   by_cases h2:i=j
   ·subst h2
    rw [if_pos rfl,if_pos h,if_pos (by omega)]
   ·rw [if_neg h2]
    have e2:(j<i∨(64≤j∧j<64+i))↔(j<i+1∨(64≤j∧j<64+(i+1))):=by omega
    simp only [e2]
 ·rw [if_neg (by omega),if_neg (by omega),List.getElem?_eq_none (by rw [bitsF_len];omega),List.getElem?_eq_none (by rw [bitsF_len];omega)]
theorem bitsF_at (N i:Nat) {j:Nat} (h:j<128):(bitsF N i)[j]? = some (if j<i∨(64≤j∧j<64+i) then N / 2 ^ j % 2 else 0):=by
 unfold bitsF;rw [List.getElem?_map,List.getElem?_range h];rfl
theorem bit_low {N lo i:Nat} (h:N % 18446744073709551616=lo) (hi:i<64):lo / 2 ^ i % 2=N / 2 ^ i % 2:=by
 have h1:lo.testBit i=N.testBit i:=by
  rw [←h,show (18446744073709551616:Nat)=2 ^ 64 from rfl,Nat.testBit_mod_two_pow]
  simp [hi]
 rw [Nat.testBit_eq_decide_div_mod_eq,Nat.testBit_eq_decide_div_mod_eq,decide_eq_decide] at h1
 omega
theorem bit_high {N hi i:Nat} (h:N / 18446744073709551616=hi):hi / 2 ^ i % 2=N / 2 ^ (64+i) % 2:=by
 rw [←h,Nat.div_div_eq_div_mul,Nat.pow_add]
theorem bit_val (x i:Nat) (hx:x<18446744073709551616):Value.int .i64 (wrap64 (bits .and .u64 ((x:Int) / 2 ^ i) 1))=Value.int .i64 ((x / 2 ^ i % 2:Nat):Int):=by
 have e:(x:Int) / 2 ^ i=((x / 2 ^ i:Nat):Int):=by simp
 have h1:x / 2 ^ i≤x:=Nat.div_le_self _ _
 obtain ⟨y,hy⟩:∃y,x / 2 ^ i=y:=⟨_,rfl⟩
 rw [e,hy]
 rw [hy] at h1
 rw [and_one_u64 _ (by omega) (by omega)]
 congr 1
 rw [IntWalk.wrap64_in _ (by omega)]
 omega
def BitsPost (w:World) (N:Nat) (e:Ending) (w':World):Prop:=
 ∃g,e=.returned (.slice (some ⟨g,0,none⟩) 128 128)∧w.heap.size≤g∧KN.row w' w.heap.size (.slice (some ⟨g,0,none⟩) 128 128) (bitsL N 128)∧Upd [] w w'
theorem bitsC (N:Nat) (hN:W128 N) (w:World):Calls Tryz.prog 165 #[wideV N] w (BitsPost w N):=by
 obtain ⟨hi,hhi⟩:∃h,N / 18446744073709551616=h:=⟨_,rfl⟩
 obtain ⟨lo,hlo⟩:∃h,N % 18446744073709551616=h:=⟨_,rfl⟩
 unfold wideV
 rw [hhi,hlo]
 obtain ⟨W,hW⟩:∃W,w.alloc (.cells #[.int .u64 (hi:Int),.int .u64 (lo:Int)] 37)=W:=⟨_,rfl⟩
 have hmk:=kn_make W 128 (by decide)
 obtain ⟨W2,hW2⟩:∃W2,W.alloc (.cells (madeCells #[.int .i64 0] (128*1)) 3)=W2:=⟨_,rfl⟩
 rw [hW2] at hmk
 have hmk1:(Instr.makeSlice 138 (.int .i64 128) (.int .i64 128)).run Tryz.prog W=.ok (.slice (some ⟨W.heap.size,0,none⟩) 128 128) W2:=hmk.1
 have hWs:w.heap.size<W.heap.size:=by rw [←hW];simp
 have hu1:Upd [] w W:=by rw [←hW];exact (Upd.refl _ _).alloc _
 have hu2:Upd [] w W2:=by rw [←hW2];exact hu1.alloc _
 have c0:W2.cell? ⟨w.heap.size,0,none⟩=some (.int .u64 (hi:Int)):=by
  rw [←hW2,World.cell?_alloc_past _ _ _ hWs,←hW,World.cell?_alloc_at _ _ _ _ rfl];rfl
 have c1:W2.cell? ⟨w.heap.size,1,none⟩=some (.int .u64 (lo:Int)):=by
  rw [←hW2,World.cell?_alloc_past _ _ _ hWs,←hW,World.cell?_alloc_at _ _ _ _ rfl];rfl
 have HR:=Lib.hid (And.intro hmk.2 (And.intro hu2 (And.intro c0 c1)))
 have HW:=Lib.hid hW
 have hhb:hi<18446744073709551616:=by rw [←hhi];exact hN
 have hlb:lo<18446744073709551616:=by omega
 have HH:=Lib.hid (And.intro hhi hhb)
 have HL:=Lib.hid (And.intro hlo hlb)
 clear hW hW2 hmk hu1 hu2 c0 c1 hhi hlo hhb hlb hN
 obtain ⟨q,hq⟩:∃q,W.heap.size=q:=⟨_,rfl⟩
 rw [hq] at hmk1 hWs HR
 have HQ:=Lib.hid hq
 clear hq
 go_enter Tryz.func165,Tryz.ntmps165
 go_upto_region 1 with fail
 rw [HW.out]
 go_wp2_with fail
 go_loopg [4] 64 (fun m s4 wr=>∃i,m+i=64∧s4=.int .i64 (i:Int)∧KN.row wr q (.slice (some ⟨q,0,none⟩) 128 128) (bitsF N i)∧Upd [q] W2 wr∧Upd [] w wr)
 case atStart=>exact ⟨0,rfl,rfl,by rw [bitsF_zero];exact HR.out.1,Upd.refl _ _,HR.out.2.1⟩
 case round=>
  obtain ⟨i,hi',rfl,hrow,hu,hu0⟩:=hrel
  have HI:=Lib.hid hi'
  have hqs:w.heap.size≠q:=by omega
  have x0:=(hu.cell (p:=⟨w.heap.size,0,none⟩) (World.block_lt_of_cell? _ _ HR.out.2.2.1) (by simpa using hqs)).trans HR.out.2.2.1
  have x1:=(hu.cell (p:=⟨w.heap.size,1,none⟩) (World.block_lt_of_cell? _ _ HR.out.2.2.2) (by simpa using hqs)).trans HR.out.2.2.2
  by_cases hlt:i<64
  ·have b0:(0:Int)≤(i:Int):=Int.natCast_nonneg _
   have b1:(i:Int)<64:=by omega
   obtain ⟨g1,hg1,-,d1,f1⟩:=kn_row hrow (bitsF_at N i (j:=i) (by omega))
   obtain ⟨g2,hg2,-,d2,f2⟩:=kn_row hrow (bitsF_at N i (j:=64+i) (by omega))
   cases hg1
   cases hg2
   have v1:=bit_val lo i HL.out.2
   rw [bit_low HL.out.1 (by omega)] at v1
   have v2:=bit_val hi i HH.out.2
   rw [bit_high HH.out.1] at v2
   have hst:=kn_set (by rw [List.length_set,bitsF_len]) (kn_set (bitsF_len N i) hrow i (N / 2 ^ i % 2)) (64+i) (N / 2 ^ (64+i) % 2)
   rw [bitsF_step N i (by omega)] at hst
   have hus:∀(F:List Nat) (W0:World),(q∈F∨W0.heap.size≤q)→Upd F W0 wr→Upd F W0 ((wr.setCell ⟨q,i,none⟩ (.int .i64 ((N / 2 ^ i % 2:Nat):Int))).setCell ⟨q,64+i,none⟩ (.int .i64 ((N / 2 ^ (64+i) % 2:Nat):Int))):=fun F W0 h h'=>(h'.setCell (p:=⟨q,i,none⟩) h _).setCell (p:=⟨q,64+i,none⟩) h _
   have HE:=Lib.hid (And.intro hst (And.intro (hus _ _ (.inl (by simp)) hu) (hus _ _ (.inr (Nat.le_of_lt hWs)) hu0)))
   obtain ⟨y1,hy1⟩:∃y,N / 2 ^ i % 2=y:=⟨_,rfl⟩
   obtain ⟨y2,hy2⟩:∃y,N / 2 ^ (64+i) % 2=y:=⟨_,rfl⟩
   rw [hy1] at v1 HE
   rw [hy2] at v2 HE
   have HV1:=Lib.hid v1
   have HV2:=Lib.hid v2
   clear hi' hrow hu hu0 hst hus hy1 hy2 v1 v2
   go_upto_region 6 with fail
   rw [HV1.out]
   go_wp2_with fail
   rw [HV2.out]
   go_roundg (64 - (i+1))
   case measure=>have:=HI.out;omega
   case rel=>exact ⟨i+1,by have:=HI.out;omega,by go_num,HE.out.1,HE.out.2.1,HE.out.2.2⟩
  ·have hi64:i=64:=by omega
   subst hi64
   rw [bitsF_end] at hrow
   have HE:=Lib.hid (And.intro hrow hu0)
   clear hi' hrow hu hu0
   go_wp2_with fail
   go_ret
   exact ⟨q,rfl,Nat.le_of_lt hWs,own_base HE.out.1 (Nat.le_of_lt hWs),HE.out.2⟩
theorem high_bd {l:List Nat} (hb:Bits01 l) (hW:W128 (valL l)) (i:Nat):highN l i<18446744073709551616:=by
 have h1:=highN_le l i
 have h2:=(wide_parts hb).1
 unfold W128 at hW
 omega
def WdAt (w:World) (p h l:Nat):Prop:=w.heap[p]? = some (.cells #[.int .u64 (h:Int),.int .u64 (l:Int)] 37 (0,0))
theorem WdAt.cells {w:World} {p h l:Nat} (H:WdAt w p h l):w.cell? ⟨p,0,none⟩=some (.int .u64 (h:Int))∧w.cell? ⟨p,1,none⟩=some (.int .u64 (l:Int))∧∀j,w.frozen? ⟨p,j,none⟩=false:=by
 have h':w.heap[p]? = some (.cells #[.int .u64 (h:Int),.int .u64 (l:Int)] 37 (0,0)):=H
 refine ⟨?_,?_,fun j=>?_⟩<;>simp [World.cell?,World.frozen?,h']
theorem WdAt.set0 {w:World} {p h l:Nat} (H:WdAt w p h l) (x:Nat):WdAt (w.setCell ⟨p,0,none⟩ (.int .u64 (x:Int))) p x l:=heap_set H 0 _
theorem WdAt.set1 {w:World} {p h l:Nat} (H:WdAt w p h l) (x:Nat):WdAt (w.setCell ⟨p,1,none⟩ (.int .u64 (x:Int))) p h x:=heap_set H 1 _
theorem WdAt.upd {F:List Nat} {w w':World} {p h l:Nat} (H:WdAt w p h l) (hu:Upd F w w') (hp:p∉F):WdAt w' p h l:=by
 unfold WdAt at H ⊢
 rw [hu.block p (lt_of_block H) hp];exact H
theorem shl_val (a i b:Nat) (h:a+2 ^ i=b) (hb:b<18446744073709551616):Value.int .u64 (IntKind.u64.wrap ((a:Int)+IntKind.u64.wrap (2 ^ i)))=Value.int .u64 (b:Int):=by
 have e:(2:Int) ^ i=((2 ^ i:Nat):Int):=by simp
 obtain ⟨y,hy⟩:∃y,2 ^ i=y:=⟨_,rfl⟩
 rw [e,hy]
 rw [hy] at h
 congr 1
 rw [IntWalk.u64_in (y:Int) (by omega),IntWalk.u64_in _ (by omega)]
 omega
theorem numberC (v:Value) (l:List Nat) (w:World) (hs:See KN w v l) (hl:l.length<1000) (hb:Bits01 l) (hW:W128 (valL l)) :
 Calls Tryz.prog 164 #[v] w fun e w'=>e=.returned (.tuple #[wideV (valL l),.bool true])∧Upd [] w w':=by
 obtain ⟨A,C,rfl⟩:=hs.form
 obtain ⟨n,hn⟩:∃n,l.length=n:=⟨_,rfl⟩
 obtain ⟨V,hV⟩:∃V,valL l=V:=⟨_,rfl⟩
 have HS:=Lib.hid hs
 have HN:=Lib.hid hn
 have HB:=Lib.hid (And.intro hb (And.intro hW hV))
 rw [hn] at hl ⊢
 rw [hV]
 clear hs hn hb hW hV
 go_enter Tryz.func164,Tryz.ntmps164
 go_wp2_with fail
 go_loopg [5] n (fun m s5 wr=>∃i,m+i=n∧s5=.int .i64 (i:Int)∧WdAt wr (w.heap.size+1) (highN l i) (lowN l i)∧WdAt wr w.heap.size 0 0∧Upd [] w wr)
 case atStart=>
  refine ⟨0,rfl,rfl,?_,((Upd.refl [] _).alloc _).block _ (by simp) (by simp) |>.trans (heap_alloc_new w _),((Upd.refl _ _).alloc _).alloc _⟩
  rw [highN_zero,lowN_zero]
  have:=heap_alloc_new (w.alloc (.cells #[.int .u64 0,.int .u64 0] 37)) (.cells #[.int .u64 0,.int .u64 0] 37)
  rw [show (w.alloc (.cells #[.int .u64 0,.int .u64 0] 37)).heap.size=w.heap.size+1 by simp] at this
  exact this
 case round=>
  obtain ⟨i,hi,rfl,hw,hr,hu⟩:=hrel
  have HR:=Lib.hid hr
  obtain ⟨r0,r1,hrf⟩:=hr.cells
  have rf0:=hrf 0
  have rf1:=hrf 1
  have HI:=Lib.hid hi
  have HU:=Lib.hid hu
  have HW:=Lib.hid hw
  obtain ⟨c0,c1,hf⟩:=hw.cells
  have f0:=hf 0
  have f1:=hf 1
  have b0:(0:Int)≤(i:Int):=Int.natCast_nonneg _
  clear hf hw hr hrf
  by_cases hlt:i<n
  ·obtain ⟨x,hx⟩:∃x,l[i]? = some x:=⟨_,List.getElem?_eq_getElem (by rw [HN.out];exact hlt)⟩
   obtain ⟨g,o,hA,-,-,cx⟩:=kn_at (HS.out.upd0 hu) hx
   subst hA
   have hx1:=HB.out.1.at hx
   have hls:=lowN_step hx
   have hhs:=highN_step hx
   have hlate:=fun h=>bit_late hx h
   have b1:(i:Int)<(n:Int):=by omega
   have b2:(n:Int)<1000:=by omega
   have hlow:=lowN_lt HB.out.1 (i+1)
   have hhigh:=high_bd HB.out.1 HB.out.2.1 (i+1)
   rcases (by omega:x=0∨x=1) with rfl | rfl
   ·have e1:lowN l (i+1)=lowN l i:=by rw [hls];split<;>simp
    have e2:highN l (i+1)=highN l i:=by rw [hhs];split;rw [highN_early (by omega)];simp
    have HE:=Lib.hid (And.intro e1 e2)
    clear hx hu hi hls hhs hlate hlow hhigh e1 e2
    go_wp2_with fail
    go_roundg (n - (i+1))
    case measure=>have:=HI.out;omega
    case rel=>exact ⟨i+1,by have:=HI.out;omega,by go_num,by rw [HE.out.1,HE.out.2];exact HW.out,HR.out,HU.out⟩
   ·by_cases h64:i<64
    ·have hv:=shl_val (lowN l i) i (lowN l (i+1)) (by rw [hls,if_pos h64];simp) hlow
     have e2:highN l (i+1)=highN l i:=by rw [hhs,if_pos h64,highN_early (by omega)]
     have HV:=Lib.hid hv
     have HE:=Lib.hid e2
     clear hx hu hi hls hhs hlate hlow hhigh e2 hv
     go_wp2_with fail
     rw [HV.out]
     go_roundg (n - (i+1))
     case measure=>have:=HI.out;omega
     case rel=>exact ⟨i+1,by have:=HI.out;omega,by go_num,by rw [HE.out];exact HW.out.set1 _,HR.out.upd ((Upd.refl [w.heap.size+1] _).setCell (.inl (by simp)) _) (by simp),HU.out.setCell (p:=⟨w.heap.size+1,1,none⟩) (.inr (Nat.le_succ _)) _⟩
    ·have hi128:i<128:=by
      rcases Nat.lt_or_ge i 128 with h | h
      ·exact h
      ·have:=hlate h (by rw [HB.out.2.2];have:=HB.out.2.1;rw [HB.out.2.2] at this;unfold W128 at this;omega)
       omega
     have hv:=shl_val (highN l i) (i - 64) (highN l (i+1)) (by rw [hhs,if_neg h64];simp) hhigh
     have e2:lowN l (i+1)=lowN l i:=by rw [hls,if_neg h64]
     have HV:=Lib.hid hv
     have HE:=Lib.hid e2
     clear hx hu hi hls hhs hlate hlow hhigh e2 hv
     go_wp2_with fail
     rw [HV.out]
     go_roundg (n - (i+1))
     case measure=>have:=HI.out;omega
     case rel=>exact ⟨i+1,by have:=HI.out;omega,by go_num,by rw [HE.out];exact HW.out.set0 _,HR.out.upd ((Upd.refl [w.heap.size+1] _).setCell (.inl (by simp)) _) (by simp),HU.out.setCell (p:=⟨w.heap.size+1,0,none⟩) (.inr (Nat.le_succ _)) _⟩
  ·have hin:i=n:=by omega
   subst hin
   have hp:=wide_parts HB.out.1
   rw [HB.out.2.2,HN.out] at hp
   rw [hp.1] at c0
   rw [hp.2] at c1
   obtain ⟨vh,hvh⟩:∃x,V / 18446744073709551616=x:=⟨_,rfl⟩
   obtain ⟨vl,hvl⟩:∃x,V % 18446744073709551616=x:=⟨_,rfl⟩
   rw [hvh] at c0
   rw [hvl] at c1
   have hwv:wideV V=.agg #[.int .u64 (vh:Int),.int .u64 (vl:Int)]:=by unfold wideV;rw [hvh,hvl]
   have HWV:=Lib.hid hwv
   clear hu hi hp hvh hvl hwv
   go_wp2_with fail
   obtain ⟨g0,g1,-⟩:=((HR.out.set0 vh).set1 vl).cells
   have HUE:=Lib.hid ((HU.out.setCell (p:=⟨w.heap.size,0,none⟩) (.inr (Nat.le_refl _)) (.int .u64 (vh:Int))).setCell (p:=⟨w.heap.size,1,none⟩) (.inr (Nat.le_refl _)) (.int .u64 (vl:Int)))
   generalize (wr.setCell ⟨w.heap.size,0,none⟩ (.int .u64 (vh:Int))).setCell ⟨w.heap.size,1,none⟩ (.int .u64 (vl:Int))=W2 at g0 g1 HUE ⊢
   exact bodyPost_ret (v:=.tuple #[wideV V,.bool true]) (by rw [HWV.out];simp [results,Tryz.results164,go_sem,g0,g1]) rfl ⟨rfl,HUE.out⟩
theorem rb_kp4 {w w':World} {a1 a2 a3 a4:Addr} {v1 v2 v3 v4:Value} (h:w.cell? a1=some v1∧w.cell? a2=some v2∧w.cell? a3=some v3∧w.cell? a4=some v4) (hu:Upd [] w w') :
 w'.cell? a1=some v1∧w'.cell? a2=some v2∧w'.cell? a3=some v3∧w'.cell? a4=some v4:=by
 have e:∀{a:Addr} {v:Value},w.cell? a=some v→w'.cell? a=some v:=fun {a v} ha=>(hu.cell (World.block_lt_of_cell? w _ ha) (by simp)).trans ha
 exact ⟨e h.1,e h.2.1,e h.2.2.1,e h.2.2.2⟩
def CmpPost (w:World) (e:Ending) (w':World):Prop:=∃z:Int,e=.returned (.int .i64 z)∧0≤z∧Upd [] w w'
theorem rcmpC (a b:Nat) (ha:W128 a) (hb:W128 b) (hab:b≤a) (w:World):Calls Tryz.prog 200 #[wideV a,wideV b] w (CmpPost w):=by
 obtain ⟨ah,hah⟩:∃h,a / 18446744073709551616=h:=⟨_,rfl⟩
 obtain ⟨al,hal⟩:∃h,a % 18446744073709551616=h:=⟨_,rfl⟩
 obtain ⟨bh,hbh⟩:∃h,b / 18446744073709551616=h:=⟨_,rfl⟩
 obtain ⟨bl,hbl⟩:∃h,b % 18446744073709551616=h:=⟨_,rfl⟩
 have hba:∀w,Calls Tryz.prog 165 #[.agg #[.int .u64 (ah:Int),.int .u64 (al:Int)]] w (BitsPost w a):=fun w=>by
  have:=bitsC a ha w
  unfold wideV at this
  rw [hah,hal] at this
  exact this
 have hbb:∀w,Calls Tryz.prog 165 #[.agg #[.int .u64 (bh:Int),.int .u64 (bl:Int)]] w (BitsPost w b):=fun w=>by
  have:=bitsC b hb w
  unfold wideV at this
  rw [hbh,hbl] at this
  exact this
 have hva:a<2 ^ 128:=by unfold W128 at ha;omega
 have hvb:b<2 ^ 128:=by unfold W128 at hb;omega
 unfold wideV
 rw [hah,hal,hbh,hbl]
 have HA:=Lib.hid hba
 have HB:=Lib.hid hbb
 have BA:=Lib.hid (BL_bits hva)
 have BB:=Lib.hid (BL_bits hvb)
 have HAB:=Lib.hid hab
 obtain ⟨p,hp⟩:∃p,w.heap.size=p:=⟨_,rfl⟩
 have hn1:=heap_alloc_new w (.cells #[.int .u64 (ah:Int),.int .u64 (al:Int)] 37)
 obtain ⟨W1,hW1⟩:∃W1,w.alloc (.cells #[.int .u64 (ah:Int),.int .u64 (al:Int)] 37)=W1:=⟨_,rfl⟩
 have hu1:Upd [] w W1:=by rw [←hW1];exact (Upd.refl _ _).alloc _
 have hq0:W1.heap.size=p+1:=by rw [←hW1,←hp];simp
 rw [hW1,hp] at hn1
 have hn2:=heap_alloc_new W1 (.cells #[.int .u64 (bh:Int),.int .u64 (bl:Int)] 37)
 obtain ⟨W2,hW2⟩:∃W2,W1.alloc (.cells #[.int .u64 (bh:Int),.int .u64 (bl:Int)] 37)=W2:=⟨_,rfl⟩
 have hu2:Upd [] W1 W2:=by rw [←hW2];exact (Upd.refl _ _).alloc _
 rw [hW2,hq0] at hn2
 have hn1':=(hu2.block p (lt_of_block hn1) (by simp)).trans hn1
 obtain ⟨a0,a1,-⟩:=WdAt.cells (p:=p) hn1'
 obtain ⟨c0,c1,-⟩:=WdAt.cells (p:=p+1) hn2
 have HC:=Lib.hid (And.intro a0 (And.intro a1 (And.intro c0 c1)))
 have HU:=Lib.hid (hu1.trans hu2)
 have HW1:=Lib.hid hW1
 have HW2:=Lib.hid hW2
 have HP:=Lib.hid hp
 clear hba hbb hva hvb ha hb hab hah hal hbh hbl hn1 hn2 hn1' a0 a1 c0 c1 hu1 hu2 hW1 hW2 hp hq0
 go_enter Tryz.func200,Tryz.ntmps200
 go_upto_region 1 with fail
 rw [HW1.out,HW2.out,HP.out]
 refine GoT.start [] (fun w'=>w'.cell? ⟨p,0,none⟩=some (.int .u64 (ah:Int))∧w'.cell? ⟨p,1,none⟩=some (.int .u64 (al:Int))∧w'.cell? ⟨p+1,0,none⟩=some (.int .u64 (bh:Int))∧w'.cell? ⟨p+1,1,none⟩=some (.int .u64 (bl:Int))) (by kernel_rfl) ?_ fun hS=>?_
 ·exact HC.out
 refine' GoT.tk 1 (i:=0) (oi:=⟨some 8,_,_,_,_,_⟩) rfl (by rfl) ?y1_0 ?_
 case y1_0=>intro w hSw;go_simp<;>with_reducible rfl
 simp only [Act.put,sA,sZ,sS]
 refine' GoT.tk 1 (i:=2) (oi:=⟨some 10,_,_,_,_,_⟩) rfl (by rfl) ?y1_2 ?_
 case y1_2=>intro w hSw;go_simp<;>with_reducible rfl
 simp only [Act.put,sA,sZ,sS]
 refine GoT.one (i:=1) (o:=⟨some 9,_,_,_,_,_⟩) rfl (by kernel_rfl) fun K hK=>?_
 go_simp
 go_at_call 165
 (with_reducible refine (HA.out _).mono ?_)
 rintro e w3 ⟨g1,rfl,hg1,hr1,hu3⟩
 have HR1:=Lib.hid (And.intro hg1 (And.intro hr1 hu3))
 clear hg1 hr1 hu3
 refine hK.out _ _ (fun _ h=>?_) ?_
 ·exact rb_kp4 h HR1.out.2.2
 clear hK K
 try simp only [Act.put,sA,sZ,sS]
 refine GoT.one (i:=3) (o:=⟨some 11,_,_,_,_,_⟩) rfl (by kernel_rfl) fun K hK=>?_
 go_simp
 go_at_call 165
 (with_reducible refine (HB.out _).mono ?_)
 rintro e w4 ⟨g2,rfl,hg2,hr2,hu4⟩
 have HR2:=Lib.hid (And.intro hg2 (And.intro hr2 hu4))
 clear hg2 hr2 hu4
 refine hK.out _ _ (fun _ h=>?_) ?_
 ·exact rb_kp4 h HR2.out.2.2
 clear hK K
 try simp only [Act.put,sA,sZ,sS]
 refine' GoT.mv (i:=4) (oi:=⟨some 5,_,_,_,_,_⟩) rfl (by rfl) ?y1_4 ?_
 case y1_4=>intro w;go_simp<;>with_reducible rfl
 simp only [Act.put,sA,sZ,sS]
 refine' GoT.mv (i:=5) (oi:=⟨some 6,_,_,_,_,_⟩) rfl (by rfl) ?y1_5 ?_
 case y1_5=>intro w;go_simp<;>with_reducible rfl
 simp only [Act.put,sA,sZ,sS]
 refine GoT.done (by kernel_rfl) ?_
 have hsA:See KN w4 (.slice (some ⟨g1,0,none⟩) 128 128) (bitsL a 128):=(See.of_row HR1.out.2.1).upd0 HR2.out.2.2
 have hsB:See KN w4 (.slice (some ⟨g2,0,none⟩) 128 128) (bitsL b 128):=See.of_row HR2.out.2.1
 have hu4:Upd [] w w4:=(HU.out.trans (Upd.refl _ _).drew).trans (HR1.out.2.2.trans HR2.out.2.2)
 obtain ⟨A,hA⟩:∃A,bitsL a 128=A:=⟨_,rfl⟩
 obtain ⟨B,hB⟩:∃B,bitsL b 128=B:=⟨_,rfl⟩
 rw [hA] at hsA
 rw [hB] at hsB
 have hbA:=BA.out
 have hbB:=BB.out
 rw [hA] at hbA
 rw [hB] at hbB
 have HSA:=Lib.hid (And.intro hsA hbA)
 have HSB:=Lib.hid (And.intro hsB hbB)
 have HU4:=Lib.hid hu4
 clear hsA hsB hbA hbB hu4 hA hB hS
 go_wp2_with fail
 go_loopg [7] 128 (fun m s7 wr=>∃k z,m=k∧s7=.int .i64 z∧z=(k:Int) - 1∧k≤128∧A.drop k=B.drop k∧∃q,wr=w4.drewN q)
 case atStart=>exact ⟨128,_,rfl,rfl,by first | rfl | go_num,Nat.le_refl _,by rw [List.drop_eq_nil_of_le (by rw [HSA.out.2.1];omega),List.drop_eq_nil_of_le (by rw [HSB.out.2.1];omega)],0,rfl⟩
 case round=>
  obtain ⟨k,z,hm,rfl,hz,hk,hd,q,rfl⟩:=hrel
  have HM:=Lib.hid hm
  have HD:=Lib.hid hd
  clear hd hm
  rcases k with _ | j
  ·have hzn:z<0:=by omega
   have hd0:decide ((0:Int)≤z)=false:=decide_eq_false (by omega)
   clear hz hk
   go_wp2_with fail
   go_ret
   exact ⟨0,rfl,by omega,HU4.out.drewN q⟩
  ·obtain rfl:z=(j:Int):=by omega
   obtain ⟨x,hx⟩:∃x,A[j]? = some x:=⟨_,List.getElem?_eq_getElem (by rw [HSA.out.2.1];omega)⟩
   obtain ⟨y,hy⟩:∃y,B[j]? = some y:=⟨_,List.getElem?_eq_getElem (by rw [HSB.out.2.1];omega)⟩
   obtain ⟨q1,o1,e1,-,-,x0⟩:=kn_at HSA.out.1 hx
   obtain ⟨q2,o2,e2,-,-,y0⟩:=kn_at HSB.out.1 hy
   cases e1
   cases e2
   rw [Nat.zero_add] at x0 y0
   have hx1:=HSA.out.2.2.1.at hx
   have hy1:=HSB.out.2.2.1.at hy
   have bx0:(0:Int)≤(x:Int):=Int.natCast_nonneg _
   have bx1:(x:Int)≤1:=by omega
   have by0:(0:Int)≤(y:Int):=Int.natCast_nonneg _
   have by1:(y:Int)≤1:=by omega
   have j0:(0:Int)≤(j:Int):=Int.natCast_nonneg _
   have j1:(j:Int)<128:=by omega
   have jn:j<128:=by omega
   have HX:=Lib.hid (And.intro hx hy)
   clear hx hy hz
   by_cases hxy:x=y
   ·have hq:((x:Int)==(y:Int))=true:=by rw [beq_iff_eq];omega
    have HXY:=Lib.hid hxy
    clear hxy
    go_upto_region 5 with fail
    go_quiet (fail)
    go_wp2_with fail
    go_roundg j
    case measure=>have:=HM.out;omega
    case rel=>exact ⟨j,_,rfl,rfl,by first | rfl | go_num,by omega,drop_at HX.out.1 (by rw [HXY.out];exact HX.out.2) HD.out,_,rfl⟩
   ·have hq:((x:Int)==(y:Int))=false:=by rw [beq_eq_false_iff_ne];omega
    have HXY:=Lib.hid hxy
    clear hxy
    go_upto_region 5 with fail
    go_quiet (fail)
    go_wp2_with fail
    go_quiet (fail)
    go_wp2_with fail
    go_ret
    refine ⟨_,rfl,?_,((HU4.out.drewN _).drewN _).drewN _⟩
    rcases Nat.lt_or_ge x y with h | h
    ·have:=cmp_at HSA.out.2.2.1 HX.out.1 HX.out.2 HD.out h
     rw [HSA.out.2.2.2,HSB.out.2.2.2] at this
     have:=HAB.out
     omega
    ·omega
def SubPost (w:World) (D:Nat) (e:Ending) (w':World):Prop:=e=.returned (.tuple #[wideV D,.bool true])∧Upd [] w w'
theorem rsubC (a b:Nat) (ha:W128 a) (hb:W128 b) (hab:b≤a) (w:World):Calls Tryz.prog 162 #[wideV a,wideV b] w (SubPost w (a - b)):=by
 obtain ⟨ah,hah⟩:∃h,a / 18446744073709551616=h:=⟨_,rfl⟩
 obtain ⟨al,hal⟩:∃h,a % 18446744073709551616=h:=⟨_,rfl⟩
 obtain ⟨bh,hbh⟩:∃h,b / 18446744073709551616=h:=⟨_,rfl⟩
 obtain ⟨bl,hbl⟩:∃h,b % 18446744073709551616=h:=⟨_,rfl⟩
 have hba:∀w,Calls Tryz.prog 165 #[.agg #[.int .u64 (ah:Int),.int .u64 (al:Int)]] w (BitsPost w a):=fun w=>by
  have:=bitsC a ha w
  unfold wideV at this
  rw [hah,hal] at this
  exact this
 have hbb:∀w,Calls Tryz.prog 165 #[.agg #[.int .u64 (bh:Int),.int .u64 (bl:Int)]] w (BitsPost w b):=fun w=>by
  have:=bitsC b hb w
  unfold wideV at this
  rw [hbh,hbl] at this
  exact this
 have hva:a<2 ^ 128:=by unfold W128 at ha;omega
 have hvb:b<2 ^ 128:=by unfold W128 at hb;omega
 have hsub:∀Q,Calls Tryz.prog 162 #[.agg #[.int .u64 (ah:Int),.int .u64 (al:Int)],.agg #[.int .u64 (bh:Int),.int .u64 (bl:Int)]] w Q→Calls Tryz.prog 162 #[wideV a,wideV b] w Q:=fun Q h=>by unfold wideV;rw [hah,hal,hbh,hbl];exact h
 refine hsub _ ?_
 have HA:=Lib.hid hba
 have HB:=Lib.hid hbb
 have BA:=Lib.hid (BL_bits hva)
 have BB:=Lib.hid (BL_bits hvb)
 have HAB:=Lib.hid hab
 have hcmp:∀w,Calls Tryz.prog 200 #[.agg #[.int .u64 (ah:Int),.int .u64 (al:Int)],.agg #[.int .u64 (bh:Int),.int .u64 (bl:Int)]] w (CmpPost w):=fun w=>by
  have:=rcmpC a b ha hb hab w
  unfold wideV at this
  rw [hah,hal,hbh,hbl] at this
  exact this
 have HCMP:=Lib.hid hcmp
 obtain ⟨D,hD⟩:∃D,a - b=D:=⟨_,rfl⟩
 have hWD:W128 D:=ha.mono (by omega)
 obtain ⟨dh,hdh⟩:∃h,D / 18446744073709551616=h:=⟨_,rfl⟩
 obtain ⟨dl,hdl⟩:∃h,D % 18446744073709551616=h:=⟨_,rfl⟩
 have hwv:wideV D=.agg #[.int .u64 (dh:Int),.int .u64 (dl:Int)]:=by unfold wideV;rw [hdh,hdl]
 have HWV:=Lib.hid (And.intro hD (And.intro hWD hwv))
 rw [hD]
 obtain ⟨p,hp⟩:∃p,w.heap.size=p:=⟨_,rfl⟩
 have hn1:=heap_alloc_new w (.cells #[.int .u64 (ah:Int),.int .u64 (al:Int)] 37)
 obtain ⟨W1,hW1⟩:∃W1,w.alloc (.cells #[.int .u64 (ah:Int),.int .u64 (al:Int)] 37)=W1:=⟨_,rfl⟩
 have hu1:Upd [] w W1:=by rw [←hW1];exact (Upd.refl _ _).alloc _
 have hq0:W1.heap.size=p+1:=by rw [←hW1,←hp];simp
 rw [hW1,hp] at hn1
 have hn2:=heap_alloc_new W1 (.cells #[.int .u64 (bh:Int),.int .u64 (bl:Int)] 37)
 obtain ⟨W2,hW2⟩:∃W2,W1.alloc (.cells #[.int .u64 (bh:Int),.int .u64 (bl:Int)] 37)=W2:=⟨_,rfl⟩
 have hu2:Upd [] W1 W2:=by rw [←hW2];exact (Upd.refl _ _).alloc _
 rw [hW2,hq0] at hn2
 have hn1':=(hu2.block p (lt_of_block hn1) (by simp)).trans hn1
 have hq2:W2.heap.size=p+2:=by rw [←hW2];simp;omega
 have hn3:=heap_alloc_new W2 (.cells #[.int .u64 0,.int .u64 0] 37)
 obtain ⟨W3,hW3⟩:∃W3,W2.alloc (.cells #[.int .u64 0,.int .u64 0] 37)=W3:=⟨_,rfl⟩
 have hu3:Upd [] W2 W3:=by rw [←hW3];exact (Upd.refl _ _).alloc _
 rw [hW3,hq2] at hn3
 replace hn1':=(hu3.block p (lt_of_block hn1') (by simp)).trans hn1'
 replace hn2:=(hu3.block (p+1) (lt_of_block hn2) (by simp)).trans hn2
 obtain ⟨a0,a1,-⟩:=WdAt.cells (p:=p) hn1'
 obtain ⟨c0,c1,-⟩:=WdAt.cells (p:=p+1) hn2
 have HC:=Lib.hid (And.intro a0 (And.intro a1 (And.intro c0 c1)))
 have HU:=Lib.hid ((hu1.trans hu2).trans hu3)
 have HW3:=Lib.hid hW3
 have HN3:=Lib.hid (show WdAt W3 (p+2) 0 0 from hn3)
 have HW1:=Lib.hid hW1
 have HW2:=Lib.hid hW2
 have HP:=Lib.hid hp
 clear hsub hcmp hD hWD hdh hdl hwv hn3 hu3 hW3 hq2 hba hbb hva hvb ha hb hab hah hal hbh hbl hn1 hn2 hn1' a0 a1 c0 c1 hu1 hu2 hW1 hW2 hp hq0
 go_enter Tryz.func162,Tryz.ntmps162
 go_upto_region 1 with fail
 rw [HW1.out,HW2.out,HW3.out,HP.out]
 obtain ⟨a0,a1,c0,c1⟩:=HC.out
 go_wp2_with fail
 (with_reducible refine (HCMP.out _).mono ?_)
 rintro e W4 ⟨z,rfl,hz,hu4⟩
 have HCC:=Lib.hid (rb_kp4 (And.intro a0 (And.intro a1 (And.intro c0 c1))) hu4)
 have HU4:=Lib.hid (HU.out.trans hu4)
 have HN4:=Lib.hid (HN3.out.upd hu4 (by simp))
 have hz':decide (z<0)=false:=decide_eq_false (by omega)
 clear a0 a1 c0 c1 hu4
 go_upto_region 3 with fail
 refine GoT.start [] (fun w'=>w'.cell? ⟨p,0,none⟩=some (.int .u64 (ah:Int))∧w'.cell? ⟨p,1,none⟩=some (.int .u64 (al:Int))∧w'.cell? ⟨p+1,0,none⟩=some (.int .u64 (bh:Int))∧w'.cell? ⟨p+1,1,none⟩=some (.int .u64 (bl:Int))) (by kernel_rfl) ?_ fun hS=>?_
 ·exact rb_kp4 HCC.out (Upd.refl _ _).drew
 refine' GoT.tk 1 (i:=0) (oi:=⟨some 17,_,_,_,_,_⟩) rfl (by rfl) ?y3_0 ?_
 case y3_0=>intro w hSw;go_simp<;>with_reducible rfl
 simp only [Act.put,sA,sZ,sS]
 refine' GoT.tk 1 (i:=2) (oi:=⟨some 19,_,_,_,_,_⟩) rfl (by rfl) ?y3_2 ?_
 case y3_2=>intro w hSw;go_simp<;>with_reducible rfl
 simp only [Act.put,sA,sZ,sS]
 refine GoT.one (i:=1) (o:=⟨some 18,_,_,_,_,_⟩) rfl (by kernel_rfl) fun K hK=>?_
 go_simp
 go_at_call 165
 (with_reducible refine (HA.out _).mono ?_)
 rintro e w3 ⟨g1,rfl,hg1,hr1,hu3⟩
 have HR1:=Lib.hid (And.intro hg1 (And.intro hr1 hu3))
 clear hg1 hr1 hu3
 refine hK.out _ _ (fun _ h=>?_) ?_
 ·exact rb_kp4 h HR1.out.2.2
 clear hK K
 try simp only [Act.put,sA,sZ,sS]
 refine GoT.one (i:=3) (o:=⟨some 20,_,_,_,_,_⟩) rfl (by kernel_rfl) fun K hK=>?_
 go_simp
 go_at_call 165
 (with_reducible refine (HB.out _).mono ?_)
 rintro e w4 ⟨g2,rfl,hg2,hr2,hu4⟩
 have HR2:=Lib.hid (And.intro hg2 (And.intro hr2 hu4))
 clear hg2 hr2 hu4
 refine hK.out _ _ (fun _ h=>?_) ?_
 ·exact rb_kp4 h HR2.out.2.2
 clear hK K
 try simp only [Act.put,sA,sZ,sS]
 refine' GoT.mv (i:=4) (oi:=⟨some 6,_,_,_,_,_⟩) rfl (by rfl) ?y3_4 ?_
 case y3_4=>intro w;go_simp<;>with_reducible rfl
 simp only [Act.put,sA,sZ,sS]
 refine' GoT.mv (i:=5) (oi:=⟨some 7,_,_,_,_,_⟩) rfl (by rfl) ?y3_5 ?_
 case y3_5=>intro w;go_simp<;>with_reducible rfl
 simp only [Act.put,sA,sZ,sS]
 refine GoT.done (by kernel_rfl) ?_
 have hmk:=kn_make w4 128 (by decide)
 obtain ⟨w5,hw5⟩:∃W,w4.alloc (.cells (madeCells #[.int .i64 0] (128*1)) 3)=W:=⟨_,rfl⟩
 have hu5:Upd [] w4 w5:=by rw [←hw5];exact (Upd.refl _ _).alloc _
 rw [hw5] at hmk
 have hmk1:(Instr.makeSlice 138 (.int .i64 128) (.int .i64 128)).run Tryz.prog w4=.ok (.slice (some ⟨w4.heap.size,0,none⟩) 128 128) w5:=hmk.1
 obtain ⟨g3,hg3⟩:∃g,w4.heap.size=g:=⟨_,rfl⟩
 rw [hg3] at hmk1 hmk
 have l1:w.heap.size≤g1:=by have h1:=HR1.out.1;have h2:=HU4.out.size;simp at h1;omega
 have l2:w.heap.size≤g2:=by have h1:=HR2.out.1;have h2:=HR1.out.2.2.size;have h3:=HU4.out.size;simp at h2;omega
 have l12:g1<g2:=by have h1:=own_lt HR1.out.2.1 g1 (by simp [blk]);have h2:=HR2.out.1;omega
 have l23:g2<g3:=by have h1:=own_lt HR2.out.2.1 g2 (by simp [blk]);omega
 have lp1:p+2<g1:=by have h1:=lt_of_block HN4.out;have h2:=HR1.out.1;simp at h2;omega
 have l3:w.heap.size≤g3:=by omega
 have hxr:KN.row w5 0 (.slice (some ⟨g1,0,none⟩) 128 128) (bitsL a 128):=own_base (own_upd (own_upd HR1.out.2.1 HR2.out.2.2 (by simp)) hu5 (by simp)) (Nat.zero_le _)
 have hyr:KN.row w5 0 (.slice (some ⟨g2,0,none⟩) 128 128) (bitsL b 128):=own_base (own_upd HR2.out.2.1 hu5 (by simp)) (Nat.zero_le _)
 have hor:KN.row w5 0 (.slice (some ⟨g3,0,none⟩) 128 128) (List.replicate 128 0):=own_base hmk.2 (Nat.zero_le _)
 have hu0:Upd [] w w5:=(HU4.out.trans ((Upd.refl _ _).drew.trans (HR1.out.2.2.trans HR2.out.2.2))).trans hu5
 have hn0:WdAt w5 (p+2) 0 0:=HN4.out.upd (((Upd.refl _ _).drew.trans (HR1.out.2.2.trans HR2.out.2.2)).trans hu5) (by simp)
 obtain ⟨Y,hY⟩:∃Y,bitsL b 128=Y:=⟨_,rfl⟩
 have hyb:=BB.out
 have hst:SubAt (bitsL a 128) Y (List.replicate 128 0) 0 D:=by
  refine ⟨BA.out.1,BA.out.2.1,by simp,Bits01.rep _ (by omega),?_,?_⟩
  ·rw [List.drop_zero,List.drop_zero,BA.out.2.2,←hY,BB.out.2.2];exact HAB.out
  ·rw [List.drop_zero,List.drop_zero,BA.out.2.2,←hY,BB.out.2.2,List.take_zero,←HWV.out.1];simp [valL]
 rw [hY] at hyr hyb
 have HST:=Lib.hid (And.intro hst (And.intro hxr (And.intro hyr hor)))
 have HY:=Lib.hid hyb
 have HU5:=Lib.hid (And.intro hu0 hn0)
 have HL:=Lib.hid (And.intro l1 (And.intro l3 (And.intro lp1 (And.intro l12 l23))))
 clear hmk hw5 hu5 hxr hyr hor hu0 hn0 hst hyb hY l1 l2 l12 l23 l3 lp1 hS hg3
 go_wp2_with fail
 go_loopg [9,10,11] 128 (fun m s9 _ _ wr=>∃i X O,m+i=128∧s9=.int .i64 (i:Int)∧SubAt X Y O i D∧KN.row wr 0 (.slice (some ⟨g1,0,none⟩) 128 128) X∧KN.row wr 0 (.slice (some ⟨g3,0,none⟩) 128 128) O∧Upd [g1,g3] w5 wr)
 case atStart=>exact ⟨0,_,_,rfl,rfl,HST.out.1,HST.out.2.1,HST.out.2.2.2,Upd.refl _ _⟩
 case round=>
  obtain ⟨i,X,O,hi,rfl,hst,hxr,hor,hu⟩:=hrel
  obtain ⟨wl,rfl⟩:∃wl:World,wl=wr:=⟨_,rfl⟩
  have i0:(0:Int)≤(i:Int):=Int.natCast_nonneg _
  by_cases hlt:i<128
  ·have i1:(i:Int)<128:=by omega
   obtain ⟨x,hx⟩:∃x,X[i]? = some x:=⟨_,List.getElem?_eq_getElem (by rw [hst.lx];exact hlt)⟩
   obtain ⟨y,hy⟩:∃y,Y[i]? = some y:=⟨_,List.getElem?_eq_getElem (by rw [HY.out.1];exact hlt)⟩
   obtain ⟨o,ho⟩:∃y,O[i]? = some y:=⟨_,List.getElem?_eq_getElem (by rw [hst.lo];exact hlt)⟩
   have hyr:KN.row wl 0 (.slice (some ⟨g2,0,none⟩) 128 128) Y:=own_upd HST.out.2.2.1 hu (by have:=HL.out;simp [blk];omega)
   obtain ⟨q1,e1,-,x0,-⟩:=kn_row hxr hx
   cases e1
   obtain ⟨q1,e1,-,y0,-⟩:=kn_row hyr hy
   cases e1
   obtain ⟨q1,e1,-,o0,of⟩:=kn_row hor ho
   cases e1
   have hx1:=hst.bx.at hx
   have hy1:=HY.out.2.1.at hy
   have bx0:(0:Int)≤(x:Int):=Int.natCast_nonneg _
   have bx1:(x:Int)≤1:=by omega
   have by0:(0:Int)≤(y:Int):=Int.natCast_nonneg _
   have by1:(y:Int)≤1:=by omega
   have HI:=Lib.hid hi
   have HS:=Lib.hid (And.intro hst (And.intro hxr (And.intro hor hu)))
   have HX:=Lib.hid (And.intro hx (And.intro hy ho))
   clear hi hst hxr hor hu hx hy ho hyr
   go_upto_region 8 with fail
   go_quiet (fail)
   by_cases hxy:y≤x
   ·obtain ⟨n,hn⟩:∃n,x - y=n:=⟨_,rfl⟩
    have hd0:decide ((x:Int) - (y:Int)<0)=false:=decide_eq_false (by omega)
    have hv:Value.int .i64 ((x:Int) - (y:Int))=Value.int .i64 (n:Int):=by congr 1;omega
    have HN:=Lib.hid hn
    have HXY:=Lib.hid hxy
    have HV:=Lib.hid hv
    clear hn hxy hv
    go_wp2_with fail
    rw [HV.out]
    go_roundg (128 - (i+1))
    case measure=>have:=HI.out;omega
    case rel=>
     have h1:=HS.out.1.step (n:=n) hlt HX.out.1 HX.out.2.1 (by have:=HN.out;omega) HS.out.1.lx HS.out.1.bx (by have:=HN.out;have:=HXY.out;omega)
     refine ⟨i+1,X,_,by have:=HI.out;omega,by go_num,h1,?_,kn_set HS.out.1.lo (own_upd HS.out.2.2.1 ((Upd.refl [] _).drewN _) (by simp)) i n,?_⟩
     ·exact own_upd (own_upd HS.out.2.1 ((Upd.refl [] _).drewN _) (by simp)) ((Upd.refl [g3] _).setCell (.inl (by simp)) _) (by have:=HL.out;simp [blk];omega)
     ·exact (HS.out.2.2.2.drewN _).setCell (.inl (by simp)) _
   ·have hx0:x=0:=by omega
    have hy0:y=1:=by omega
    have hv:Value.int .i64 ((x:Int) - (y:Int))=Value.int .i64 (-1):=by congr 1;omega
    rw [hv]
    subst hx0 hy0
    clear hxy hv x0 y0 hx1 hy1 bx0 bx1 by0 by1
    have hX1:0<valL (X.drop (i+1)):=by
     have h1:=HS.out.1.le
     rw [valL_at HX.out.1,valL_at HX.out.2.1] at h1
     omega
    have hrow:KN.row (wl.drewN nq) 0 (.slice (some ⟨g1,0,none⟩) 128 128) (lendL X i (i+1)):=by rw [lendL_start];exact own_upd HS.out.2.1 ((Upd.refl [] _).drewN _) (by simp)
    have HX1:=Lib.hid (And.intro hX1 hrow)
    clear hX1 hrow
    go_wp2_with fail
    go_loopg [11] (128 - (i+1)) (fun m s11 wr=>∃k,m+k=128∧s11=.int .i64 (k:Int)∧i<k∧(∀j,i<j→j<k→X[j]? = some 0)∧KN.row wr 0 (.slice (some ⟨g1,0,none⟩) 128 128) (lendL X i k)∧Upd [g1] (wl.drewN nq) wr)
    case atStart=>exact ⟨i+1,by omega,by go_num,by omega,fun j h1 h2=>by omega,HX1.out.2,Upd.refl _ _⟩
    case round=>
     obtain ⟨k,hk,rfl,hik,hz0,hrw,hu⟩:=hrel
     have hmore:=lend_more hik (by rw [HS.out.1.lx];omega) hz0 HX1.out.1
     have hk128:k<128:=by have:=hmore.2;rw [HS.out.1.lx] at this;exact this
     obtain ⟨x,hx⟩:∃x,X[k]? = some x:=⟨_,List.getElem?_eq_getElem hmore.2⟩
     have hxk:(lendL X i k)[k]? = some x:=by rw [lendL_at hik (by rw [HS.out.1.lx];omega)];exact hx
     obtain ⟨q1,e1,-,x0,xf⟩:=kn_row hrw hxk
     cases e1
     have hx1:=HS.out.1.bx.at hx
     have k0:(0:Int)≤(k:Int):=Int.natCast_nonneg _
     have k1:(k:Int)<128:=by omega
     have hkm:k≤X.length:=by rw [HS.out.1.lx];omega
     have HK:=Lib.hid (And.intro hk (And.intro hik (And.intro hz0 (And.intro hrw (And.intro hu (And.intro hx hkm))))))
     clear hk hik hz0 hrw hu hx hxk hmore hkm
     rcases (by omega:x=0∨x=1) with rfl | rfl
     ·go_wp2_with fail
      go_roundg (128 - (k+1))
      case measure=>have:=HK.out.1;omega
      case rel=>
       have h:=kn_set (by rw [lendL_len HK.out.2.1 HK.out.2.2.2.2.2.2];exact HS.out.1.lx) HK.out.2.2.2.1 k 1
       rw [lendL_step HK.out.2.1 (by rw [HS.out.1.lx];exact hk128)] at h
       refine ⟨k+1,by omega,by go_num,by have:=HK.out.2.1;omega,fun j h1 h2=>?_,h,HK.out.2.2.2.2.1.setCell (.inl (by simp)) _⟩
       rcases Nat.lt_or_ge j k with h3 | h3
       ·exact HK.out.2.2.1 j h1 h3
       ·have:j=k:=by omega
        rw [this];exact HK.out.2.2.2.2.2.1
     ·have ho2:KN.row (wr.setCell ⟨g1,k,none⟩ (.int .i64 0)) 0 (.slice (some ⟨g3,0,none⟩) 128 128) O:=
       own_upd (own_upd (own_upd HS.out.2.2.1 ((Upd.refl [] _).drewN _) (by simp)) HK.out.2.2.2.2.1 (by have:=HL.out;simp [blk];omega)) ((Upd.refl [g1] _).setCell (.inl (by simp)) _) (by have:=HL.out;simp [blk];omega)
      obtain ⟨q1,e1,-,o1,of1⟩:=kn_row ho2 HX.out.2.2
      cases e1
      have HO2:=Lib.hid ho2
      clear ho2
      go_wp2_with fail
      go_roundg (128 - (i+1))
      case measure=>have:=HI.out;omega
      case rel=>
       have hlen:(lendL X i k).length=128:=by rw [lendL_len HK.out.2.1 HK.out.2.2.2.2.2.2];exact HS.out.1.lx
       have hdone:=lend_done HK.out.2.1 HK.out.2.2.2.2.2.1 rfl HK.out.2.2.1 HX1.out.1
       have h1:=HS.out.1.step (X':=(lendL X i k).set k 0) (n:=1) hlt HX.out.1 HX.out.2.1 (by omega) (by rw [List.length_set];exact hlen) ((lendL_01 HS.out.1.bx i k).set k (by omega)) (by omega)
       have hr1:=kn_set hlen HK.out.2.2.2.1 k 0
       refine ⟨i+1,_,_,by have:=HI.out;omega,by go_num,h1,?_,kn_set HS.out.1.lo HO2.out i 1,?_⟩
       ·exact own_upd hr1 ((Upd.refl [g3] _).setCell (.inl (by simp)) _) (by have:=HL.out;simp [blk];omega)
       ·exact (((HS.out.2.2.2.drewN nq).trans (HK.out.2.2.2.2.1.mono (by simp))).setCell (.inl (by simp)) _).setCell (.inl (by simp)) _
  ·have hi128:i=128:=by omega
   subst hi128
   have hdn:=hst.done HY.out.1
   have hsee:See KN wl (.slice (some ⟨g3,0,none⟩) 128 128) O:=by have:=See.of_row hor;exact this
   have hnum:=numberC _ O wl hsee (by rw [hdn.1];omega) hdn.2.1 (by rw [hdn.2.2];exact HWV.out.2.1)
   rw [hdn.2.2,HWV.out.2.2] at hnum
   have hn5:WdAt wl (p+2) 0 0:=HU5.out.2.upd hu (by have:=HL.out;simp;omega)
   have huw:Upd [] w wl:=HU5.out.1.trans' hu (fun k hk=>by have:=HL.out;simp at hk;right;omega)
   have HNUM:=Lib.hid hnum
   have HE:=Lib.hid (And.intro hn5 huw)
   clear hi hst hxr hor hu hdn hsee hnum hn5 huw
   go_wp2_with fail
   (with_reducible refine HNUM.out.mono ?_)
   rintro e w7 ⟨rfl,hu7⟩
   have HE7:=Lib.hid (And.intro (HE.out.1.upd hu7 (by simp)) (HE.out.2.trans hu7))
   clear hu7
   obtain ⟨r0,r1,rf⟩:=HE7.out.1.cells
   have rf0:=rf 0
   have rf1:=rf 1
   clear rf
   go_wp2_with fail
   obtain ⟨e0,e1,-⟩:=((HE7.out.1.set0 dh).set1 dl).cells
   have HUE:=Lib.hid ((HE7.out.2.setCell (p:=⟨p+2,0,none⟩) (.inr (by have:=HP.out;simp;omega)) (.int .u64 (dh:Int))).setCell (p:=⟨p+2,1,none⟩) (.inr (by have:=HP.out;simp;omega)) (.int .u64 (dl:Int)))
   have ep:p+1+1=p+2:=rfl
   rw [ep]
   generalize (w7.setCell ⟨p+2,0,none⟩ (.int .u64 (dh:Int))).setCell ⟨p+2,1,none⟩ (.int .u64 (dl:Int))=Wf at e0 e1 HUE ⊢
   exact bodyPost_ret (v:=.tuple #[wideV D,.bool true]) (by rw [HWV.out.2.2];simp [results,Tryz.results162,go_sem,e0,e1]) rfl ⟨rfl,HUE.out⟩
theorem wide_small {x:Nat} (h:x<18446744073709551616):wideV x=.agg #[.int .u64 0,.int .u64 (x:Int)]:=by
 unfold wideV
 rw [Nat.div_eq_of_lt h,Nat.mod_eq_of_lt h];rfl
theorem up_val {a:Int} {x:Nat} (h1 : -9223372036854775808≤a) (h2:a≤9223372036854775807) (h:(x:Int)=a+9223372036854775808) :
 Value.int .u64 (IntKind.u64.wrap (IntKind.u64.wrap a+9223372036854775808))=Value.int .u64 (x:Int):=by
 congr 1
 rw [IntKind.wrap_u64,IntKind.wrap_u64]
 omega
theorem rdiffC (a b:Int) (ha : -9223372036854775808≤a) (hab:a≤b) (hb:b≤9223372036854775807) (w:World) :
 Calls Tryz.prog 138 #[.int .i64 a,.int .i64 b] w fun e w'=>e=.returned (.int .u64 (b - a))∧Upd [] w w':=by
 obtain ⟨x,hx⟩:∃x:Nat,(x:Int)=a+9223372036854775808:=⟨(a+9223372036854775808).toNat,by omega⟩
 obtain ⟨y,hy⟩:∃y:Nat,(y:Int)=b+9223372036854775808:=⟨(b+9223372036854775808).toNat,by omega⟩
 have v1:=up_val ha (by omega) hx
 have v2:=up_val (by omega) hb hy
 have hxs:x<18446744073709551616:=by omega
 have hys:y<18446744073709551616:=by omega
 have hsub:=fun w=>rsubC y x (by unfold W128;omega) (by unfold W128;omega) (by omega) w
 have e1:=wide_small hxs
 have e2:=wide_small hys
 have e3:=wide_small (x:=y - x) (by omega)
 rw [e1,e2] at hsub
 have hd:((y - x:Nat):Int)=b - a:=by omega
 obtain ⟨d,hdd⟩:∃d,y - x=d:=⟨_,rfl⟩
 rw [hdd] at hd hsub e3
 have hsub':∀w,Calls Tryz.prog 162 #[.agg #[.int .u64 0,.int .u64 (y:Int)],.agg #[.int .u64 0,.int .u64 (x:Int)]] w fun e w'=>e=.returned (.tuple #[.agg #[.int .u64 0,.int .u64 (d:Int)],.bool true])∧Upd [] w w':=fun w=>by
  have:=hsub w
  unfold SubPost at this
  rw [e3] at this
  exact this
 have HS:=Lib.hid hsub'
 have HV1:=Lib.hid v1
 have HV2:=Lib.hid v2
 have HD:=Lib.hid hd
 clear hsub hsub' e1 e2 e3 hd v1 v2 hdd hx hy hxs hys ha hab hb
 go_enter Tryz.func138,Tryz.ntmps138
 go_upto_region 2 with fail
 rw [HV1.out]
 go_upto_region 3 with fail
 rw [HV2.out]
 have hu:Upd [] w ((w.alloc (.cells #[.int .u64 0,.int .u64 (x:Int)] 37)).alloc (.cells #[.int .u64 0,.int .u64 (y:Int)] 37)):=((Upd.refl _ _).alloc _).alloc _
 have c0:((w.alloc (.cells #[.int .u64 0,.int .u64 (x:Int)] 37)).alloc (.cells #[.int .u64 0,.int .u64 (y:Int)] 37)).cell? ⟨w.heap.size,0,none⟩=some (.int .u64 0):=by
  rw [World.cell?_alloc_past _ _ _ (by simp),World.cell?_alloc_at _ _ _ _ rfl];rfl
 have c1:((w.alloc (.cells #[.int .u64 0,.int .u64 (x:Int)] 37)).alloc (.cells #[.int .u64 0,.int .u64 (y:Int)] 37)).cell? ⟨w.heap.size,1,none⟩=some (.int .u64 (x:Int)):=by
  rw [World.cell?_alloc_past _ _ _ (by simp),World.cell?_alloc_at _ _ _ _ rfl];rfl
 have d0:((w.alloc (.cells #[.int .u64 0,.int .u64 (x:Int)] 37)).alloc (.cells #[.int .u64 0,.int .u64 (y:Int)] 37)).cell? ⟨w.heap.size+1,0,none⟩=some (.int .u64 0):=by
  rw [World.cell?_alloc_at _ _ _ _ (by simp)];rfl
 have d1:((w.alloc (.cells #[.int .u64 0,.int .u64 (x:Int)] 37)).alloc (.cells #[.int .u64 0,.int .u64 (y:Int)] 37)).cell? ⟨w.heap.size+1,1,none⟩=some (.int .u64 (y:Int)):=by
  rw [World.cell?_alloc_at _ _ _ _ (by simp)];rfl
 have HU:=Lib.hid hu
 clear hu
 generalize (w.alloc (.cells #[.int .u64 0,.int .u64 (x:Int)] 37)).alloc (.cells #[.int .u64 0,.int .u64 (y:Int)] 37)=W2 at c0 c1 d0 d1 HU ⊢
 go_wp2_with fail
 (with_reducible refine (HS.out _).mono ?_)
 rintro e w3 ⟨rfl,hu3⟩
 have HU3:=Lib.hid (HU.out.trans hu3)
 clear hu3 c0 c1 d0 d1
 go_wp2_with fail
 go_ret
 exact ⟨by rw [HD.out];rfl,HU3.out.alloc _⟩
end Go.Proofs.YtkmnbodlciepaaaGreat
