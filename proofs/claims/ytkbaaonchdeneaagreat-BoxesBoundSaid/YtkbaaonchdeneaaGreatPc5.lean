/- Run equations of single operations, in a form that a walk can take: slices cut, shifts, bits. No -/
import Derived.Test.YtkbaaonchdeneaaGreatRows
import Derived.Test.YtkbaaonchdeneaaGreatPc3
set_option maxHeartbeats 400000
set_option maxRecDepth 100000
namespace Go.Proofs.YtkbaaonchdeneaaGreat
section
open Go.RowKit
section
variable {P:Program}
theorem oV (p:Nat) (h:p<9223372036854775808):IntKind.i64.wrap (p:Int)=(p:Int):=IntWalk.i64_in _ (by omega)
theorem oW (a b:Nat) (ha:a<2 ^ 62) (hb:b<2 ^ 62):IntKind.i64.wrap ((BitVec.ofInt IntKind.i64.bits (a:Int) &&& BitVec.ofInt IntKind.i64.bits (b:Int)).toNat:Int)=((a &&& b:Nat):Int):=by
 have h1:(BitVec.ofInt IntKind.i64.bits (a:Int) &&& BitVec.ofInt IntKind.i64.bits (b:Int)).toNat=a &&& b:=by
  rw [BitVec.toNat_and];simp only [BitVec.ofInt_natCast,BitVec.toNat_ofNat];rw [Nat.mod_eq_of_lt (by simp only [IntKind.bits];omega),Nat.mod_eq_of_lt (by simp only [IntKind.bits];omega)]
 rw [h1];have h2:a &&& b<=a:=Nat.and_le_left;exact oV _ (by omega)
theorem QF (a m:Nat):(a &&& 2 ^ m)=if a.testBit m then 2 ^ m else 0:=by
 apply Nat.eq_of_testBit_eq
 intro i;rw [Nat.testBit_and,Nat.testBit_two_pow];by_cases h:m=i
 ·subst h
  cases hb:a.testBit m<;>simp
 ·cases hb:a.testBit m<;>simp [h]
theorem VA (m p:Nat) (hm:m<62) (hp:2 ^ m=p):wrap64 ((2:Int) ^ m)=(p:Int):=by
 have h1:(2:Int) ^ m=(p:Int):=by rw [<-hp];simp
 have h2:(2:Nat) ^ m<2 ^ 62:=Nat.pow_lt_pow_right (by omega) hm;rw [h1];exact IntWalk.wrap64_in _ ⟨by omega,by omega⟩
theorem VB (a b c:Nat) (ha:a<2 ^ 62) (hb:b<2 ^ 62) (hc:a &&& b=c):bits .and .i64 (a:Int) (b:Int)=(c:Int):=by
 rw [<-hc];exact oW a b ha hb
variable {w:World} {size:Nat} {v:Value} {n:Nat} {xs:List Value}
theorem G6 {P:Program} {t e:TypeId} (ht:P.underlying t=some (.slice e)):P.underlying t=some (.slice (P.elem t)):=by
 have:P.elem t=e:=by simp [Program.elem,ht]
 rw [this];exact ht
theorem ZE {t e:TypeId} {i:TypeInfo} (ht:P.underlying t=some (.slice e)) (hi:P.info? e=some i) (hsize:i.size=size) (h:D5 w size v n xs) (k:Nat) (hk:k<=n) :
 ∃A C,(∀w',(Instr.slice t v none (some (.int .i64 (k:Int))) none).run P w'=.ok (.slice A k C) w')/\
  (∀w',D5 w' size v n xs->D5 w' size (.slice A k C) k (xs.take (k*size)))/\blk (.slice A k C)=blk v:=by
 subst hsize;have hel:P.elem t=e:=by simp [Program.elem,ht]
 rcases h.2 with ⟨rfl,rfl⟩ | ⟨b,o,s,cap,rfl,h3,h4,h5,h6⟩
 ·have hk0:k=0:=by omega
  subst hk0;refine ⟨none,0,λw'=>?_,λw' hs=>?_,rfl⟩
  ·rw [run_slice_h w' t none 0 0 (G6 ht) .i64 _ (by omega) (by omega)];simp [hel,sizeOf,typeInfo,hi,sliced]
  ·exact ⟨by simp,.inl ⟨rfl,rfl⟩⟩
 ·refine ⟨some ⟨b,o,s⟩,cap,λw'=>?_,λw' hs=>?_,rfl⟩
  ·rw [run_slice_h w' t _ n cap (G6 ht) .i64 _ (by omega) (by omega)];simp [hel,sizeOf,typeInfo,hi,sliced,Addr.add]
  ·refine ⟨by rw [Bf,hs.1];exact Nat.min_eq_left (Nat.mul_le_mul_right _ hk),.inr ⟨b,o,s,cap,rfl,h3,by omega,h5,λj u hu=>?_⟩⟩
   rw [List.getElem?_take] at hu;split at hu
   ·rcases hs.2 with ⟨hc,_⟩ | ⟨b',o',s',cap',hc,_,_,_,h5'⟩
    ·cases hc
    ·cases hc;exact h5' j u hu
   ·cases hu
theorem Jw {t e:TypeId} {i:TypeInfo} (ht:P.underlying t=some (.slice e)) (hi:P.info? e=some i) (hsize:i.size=size) (h:D5 w size v n xs) (k:Nat) (hk:k<=n) :
 ∃A C,(∀w',(Instr.slice t v (some (.int .i64 (k:Int))) none none).run P w'=.ok (.slice A (n - k) C) w')/\
  (∀w',D5 w' size v n xs->D5 w' size (.slice A (n - k) C) (n - k) (xs.drop (k*size)))/\blk (.slice A (n - k) C)=blk v:=by
 subst hsize;have hel:P.elem t=e:=by simp [Program.elem,ht]
 rcases h.2 with ⟨rfl,rfl⟩ | ⟨b,o,s,cap,rfl,h3,h4,h5,h6⟩
 ·have hk0:k=0:=by omega
  subst hk0;refine ⟨none,0,λw'=>?_,λw' hs=>?_,rfl⟩
  ·rw [run_slice_l w' t none 0 0 (G6 ht) .i64 _ (by omega) (by omega)];simp [hel,sizeOf,typeInfo,hi,sliced]
  ·exact ⟨by simpa using hs.1,.inl ⟨rfl,rfl⟩⟩
 ·refine ⟨if cap=k then some ⟨b,o,s⟩ else some ⟨b,o+k*i.size,none⟩,cap - k,λw'=>?_,λw' hs=>?_,?_⟩
  ·rw [run_slice_l w' t _ n cap (G6 ht) .i64 _ (by omega) (by omega)];by_cases hck:cap=k
   ·simp [hel,sizeOf,typeInfo,hi,sliced,hck]
   ·have hs0:=h3 (by omega);subst hs0;simp [hel,sizeOf,typeInfo,hi,sliced,addr_add,hck]
  ·refine ⟨by rw [List.length_drop,hs.1,Nat.sub_mul],.inr ⟨b,if cap=k then o else o+k*i.size,if cap=k then s else none,cap - k,?_,?_,by omega,by omega,λj u hu=>?_⟩⟩
   ·split<;>rfl
   ·intro hp;rw [if_neg (by omega)]
   ·rcases hs.2 with ⟨hc,_⟩ | ⟨b',o',s',cap',hc,_,_,_,h5'⟩
    ·cases hc
    ·cases hc
     rw [List.getElem?_drop] at hu
     have hlt:k*i.size+j<n*i.size:=by
      rcases Nat.lt_or_ge (k*i.size+j) (n*i.size) with h' | h'
      ·exact h'
      ·rw [List.getElem?_eq_none (by rw [hs.1];exact h')] at hu;cases hu
     have hkc:cap≠k:=by
      intro e;subst e;have:n=cap:=by omega
      subst this;omega
     rw [if_neg hkc];have:=h5' _ u hu;rwa [show o+(k*i.size+j)=o+k*i.size+j from by omega] at this
  ·split<;>rfl
end
section
variable {α:Type}
def See (K:Kind α) (w:World) (v:Value) (l:List α):Prop:=D5 w K.sz v l.length (K.all l)
theorem See.form {K:Kind α} {w:World} {v:Value} {l:List α} (h:See K w v l):∃A C,v=.slice A l.length C:=Iq h
theorem Kind.MR (K:Kind α) (l:List α):∀(k j:Nat) (hk:k<l.length) (u:Value),(K.enc l[k])[j]? = some u->(K.all l)[k*K.sz+j]? = some u:=by
 induction l with
 |nil=>intro k j hk;simp at hk
 |cons a l ih=>
  intro k j hk u hu;have e:K.all (a::l)=K.enc a++K.all l:=by simp [Kind.all]
  rw [e];rcases k with _ | k
  ·have hj:=(AZ hu).1;rw [Nat.zero_mul,Nat.zero_add];exact (List.getElem?_append_left (l₁:=K.enc a) hj).trans hu
  ·have hl:=K.len a;rw [List.getElem?_append_right (by rw [hl,Nat.add_mul,Nat.one_mul];omega),hl];rw [show (k+1)*K.sz+j - K.sz=k*K.sz+j by rw [Nat.add_mul,Nat.one_mul];omega];exact ih k j (by simpa using hk) u (by simpa using hu)
theorem See.at {K:Kind α} {w:World} {A:Option Addr} {n C:Nat} {l:List α} (h:See K w (.slice A n C) l) {k:Nat} {x:α} (hx:l[k]? = some x) :
 ∃b o,A=some ⟨b,o,none⟩/\n<=C/\C<=maxLen/\∀j u,(K.enc x)[j]? = some u->w.cell? ⟨b,o+k*K.sz+j,none⟩=some u:=by
 obtain ⟨hk,hx⟩:=AZ hx;rcases h.2 with ⟨h1,h2⟩ | ⟨b,o,s,cap,h1,h2,h3,h4,h5⟩
 ·omega
 ·cases h1
  have:=h2 (by omega);subst this;refine ⟨b,o,rfl,h3,h4,λj u hu=>?_⟩
  rw [<-hx] at hu;have:=h5 _ _ (K.MR l k j hk u hu);rwa [<-Nat.add_assoc] at this
theorem See.upd {K:Kind α} {F:List Nat} {w w':World} {v:Value} {l:List α} (h:See K w v l) (hu:Bj F w w') (hd:0<l.length->∀k∈blk v,k<w.heap.size->k∉F):See K w' v l:=Dh h hu hd
theorem See.BF {K:Kind α} {w w':World} {v:Value} {l:List α} (h:See K w v l) (hu:Bj [] w w'):See K w' v l:=Dh h hu (by simp)
theorem See.BU {K:Kind α} {w:World} {base:Nat} {v:Value} {l:List α} (h:K.row w base v l):See K w v l:=CV h
theorem See.take {K:Kind α} {P:Program} {i:TypeInfo} (ht:P.underlying K.sT=some (.slice K.eT)) (hi:P.info? K.eT=some i) (hsize:i.size=K.sz) {w:World} {v:Value} {l:List α} (h:See K w v l) (k:Nat) (hk:k<=l.length) :
 ∃A C,(∀w',(Instr.slice K.sT v none (some (.int .i64 (k:Int))) none).run P w'=.ok (.slice A k C) w')/\(∀w',See K w' v l->See K w' (.slice A k C) (l.take k))/\blk (.slice A k C)=blk v:=by
 obtain ⟨A,C,h1,h2,h3⟩:=ZE (P:=P) ht hi hsize h k hk;refine ⟨A,C,h1,λw' hw=>?_,h3⟩
 have:=h2 w' hw;unfold See;rw [Kind.Iw,Bf,Nat.min_eq_left hk];exact this
end
theorem S9 {w:World} {base:Nat} {e:TypeId} {size g n C:Nat} {xs:List Value} (h:w.ownsRow base e size (.slice (some ⟨g,0,none⟩) n C) n xs) (k:Nat) (hk:k<=n) :
 w.ownsRow base e size (.slice (some ⟨g,0,none⟩) k C) k (xs.take (k*size)):=by
 obtain ⟨h1,h2⟩:=h;have hks:k*size<=n*size:=Nat.mul_le_mul_right _ hk;refine ⟨by rw [Bf,h1];exact Nat.min_eq_left hks,?_⟩
 rcases h2 with ⟨h2,_⟩ | ⟨g',cap,cur,h2,h3,h4,h5,h6,h7,h8⟩
 ·cases h2
 ·cases h2
  exact .inr ⟨g,C,cur,rfl,h3,h4,Bh hk h5,h6,h7,by rw [<-h8,List.take_take,Nat.min_eq_left hks]⟩
theorem MS {w:World} {base:Nat} {e:TypeId} {size g n C:Nat} {xs:List Value} (h:w.ownsRow base e size (.slice (some ⟨g,0,none⟩) n C) n xs):n<=C:=by
 rcases h.2 with ⟨h2,_⟩ | ⟨g',cap,cur,h2,h3,h4,h5,h6,h7,h8⟩
 ·cases h2
 ·cases h2;exact h5
theorem Tc {P:Program} {t e:TypeId} {i:TypeInfo} (ht:P.underlying t=some (.slice e)) (hi:P.info? e=some i) (q n C k:Nat) (hk:k<=C) (w:World) :
 (Instr.slice t (.slice (some ⟨q,0,none⟩) n C) none (some (.int .i64 (k:Int))) none).run P w=.ok (.slice (some ⟨q,0,none⟩) k C) w:=by
 have hel:P.elem t=e:=by simp [Program.elem,ht]
 rw [run_slice_h w t _ n C (G6 ht) .i64 _ (by omega) (by omega)];simp [hel,sizeOf,typeInfo,hi,sliced,Addr.add]
def KL:Kind Int:={ T:=0,sT:=57,eT:=2,sz:=1,enc:=λx=>[x],len:=λ_=>rfl,one:=λx u hu=>by simp at hu;subst hu;rfl }
def KN:Kind Nat:={ T:=0,sT:=163,eT:=3,sz:=1,enc:=λx=>[(x:Int)],len:=λ_=>rfl,one:=λx u hu=>by simp at hu;subst hu;rfl }
def KB:Kind Bool:={ T:=0,sT:=162,eT:=4,sz:=1,enc:=λx=>[.bool x],len:=λ_=>rfl,one:=λx u hu=>by simp at hu;subst hu;rfl }
theorem KL.at {w:World} {A:Option Addr} {n C:Nat} {l:List Int} (h:See KL w (.slice A n C) l) {k:Nat} {x:Int} (hx:l[k]? = some x) :
 ∃b o,A=some ⟨b,o,none⟩/\n<=C/\C<=maxLen/\w.cell? ⟨b,o+k,none⟩=some (.int .i64 x):=by
 obtain ⟨b,o,h1,h2,h3,h4⟩:=h.at hx;have:=h4 0 _ rfl;exact ⟨b,o,h1,h2,h3,by simpa [KL] using this⟩
open Go.Maps (Keyed Tidy IsMap)
structure MK (α:Type) where
 T:TypeId
 k:TypeId
 e:TypeId
 enc:α->Value
 zero:α
 hT:Tryz.prog.underlying T=some (.map k e)
 hk:Tryz.prog.underlying k=some (.int .u32)
 hz:∀w,(zeroValue e).run Tryz.prog w=.ok (enc zero) w
 inj:∀x y,enc x=enc y->x=y
open Classical in
noncomputable def RV {α:Type} (enc:α->Value) (v:Value):Option (DataW Value×List MemPlace):=if ∃x,v=enc x then some (.held v,[]) else none
section
variable {α:Type} (K:MK α) {w w':World} {b r n:Nat} {f:Nat->Option α}
theorem oZ (enc:α->Value) (x:α):RV enc (enc x)=some (.held (enc x),[]):=by
 unfold RV;rw [if_pos ⟨x,rfl⟩]
theorem ZF {enc:α->Value} {v:Value} {z:DataW Value×List MemPlace} (h:RV enc v=some z):∃x,v=enc x/\z=(.held (enc x),[]):=by
 unfold RV at h;split at h
 ·rename_i hx
  obtain ⟨x,rfl⟩:=hx
  cases h
  exact ⟨x,rfl,rfl⟩
 ·cases h
theorem MK.keyed:Keyed Tryz.prog K.k:=Maps.int_keyed K.hk
def Yc (K:MK α) (D:DataW Value) (f:Nat->Option α):Prop:=
 (∀x:Nat,x<4294967296->Maps.has D (.int .u32 (x:Int))=(f x).isSome)/\∀x y,f x=some y->x<4294967296/\∀z,D.atKey (.int .u32 (x:Int)) z=.held (K.enc y)
def MapU (w:World) (b:Nat) (f:Nat->Option α) (n:Nat):Prop:=∃D,w.ownsMap Tryz.prog K.k (RV K.enc) b n D/\Maps.size D=n/\Yc K D f
variable {K}
theorem wf_u32 {x:Nat} (h:x<4294967296):(Lit.int .u32 (x:Int)).wf=true:=by
 have h1:(0:Int)<=(x:Int):=AY _;have h2:(x:Int)<4294967296:=by omega
 simp [Lit.wf,IntKind.min,IntKind.max,IntKind.signed,IntKind.bits];omega
theorem WO (K:MK α) {x:Nat} (h:x<4294967296):keyOf Tryz.prog K.k (.int .u32 (x:Int))=some (.int .u32 (x:Int)):=Maps.keyOf_int_mk K.hk (wf_u32 h)
theorem Td (x:Nat):WideAt.IsKeyLit (.int .u32 (x:Int)):=by simp [WideAt.IsKeyLit]
theorem LC {x y:Nat} (h:y≠x):(Lit.int .u32 (y:Int))≠(Lit.int .u32 (x:Int)):=by
 intro e;simp at e;omega
theorem MapU.lt (h:MapU K w b f n):b<w.heap.size:=by
 obtain ⟨D,h1,_⟩:=h;exact h1.lt
theorem MapU.upd {F:List Nat} (h:MapU K w b f n) (hu:Bj F w w') (hb:b∉F):MapU K w' b f n:=by
 obtain ⟨D,h1,h2⟩:=h;have hlt:=h1.lt;obtain ⟨es,clock,hb',hr⟩:=h1;exact ⟨D,⟨es,clock,(hu.block b hlt hb).trans hb',hr⟩,h2⟩
theorem MapU.made (K:MK α) (w:World):MapU K (w.alloc (.map #[] 0)) w.heap.size (λ_=>none) 0:=
 ⟨.map [],World.ownsMap_made _ _ _ _,rfl,λx _=>by simp [Maps.has],λx y h=>by cases h⟩
theorem MapU.look1 (h:MapU K w b f n) {x:Nat} (hx:x<4294967296) :
 (Instr.lookup K.T (.map (some b)) (.int .u32 (x:Int)) false).run Tryz.prog w=.ok (K.enc ((f x).getD K.zero)) w:=by
 obtain ⟨D,h1,h2,h3,h4⟩:=h;obtain ⟨v,ps,hrun,hv⟩:=h1.lookup K.keyed K.hT (K.hz w) (oZ K.enc K.zero) (WO K hx);rw [hrun];obtain ⟨y,rfl,hy⟩:=ZF hv
 cases hf:f x with
 |none=>
  have hn:Maps.has D (.int .u32 (x:Int))=false:=by rw [h3 x hx,hf];rfl
  rw [Maps.atKey_of_not_has hn] at hy;simp only [Prod.mk.injEq,DataW.held.injEq] at hy;rw [<-hy.1];rfl
 |some z=>
  rw [(h4 x z hf).2] at hy;simp only [Prod.mk.injEq,DataW.held.injEq] at hy;rw [<-hy.1];rfl
theorem MapU.len (h:MapU K w b f n) (ty:TypeId):(Builtin.len_ #[K.T] ty #[.map (some b)]).run Tryz.prog w=.ok (.int .i64 n) w:=by
 obtain ⟨D,h1,h2,_⟩:=h;rw [h1.len K.hT ty,h2]
theorem Yc.put {D:DataW Value} (h:Yc K D f) (hm:IsMap D) {x:Nat} (hx:x<4294967296) (v:α):Yc K (D.put (.int .u32 (x:Int)) (.held (K.enc v))) (λy=>if y=x then some v else f y):=by
 refine ⟨λy hy=>?_,λy z hz=>?_⟩
 ·show _=(if y=x then some v else f y).isSome
  by_cases e:y=x
  ·subst e;rw [if_pos rfl,Maps.has_put_same hm (Td y)];rfl
  ·rw [if_neg e,Maps.has_put_other (LC e),h.1 y hy]
 ·replace hz:(if y=x then some v else f y)=some z:=hz;by_cases e:y=x
  ·subst e;rw [if_pos rfl] at hz;cases hz;exact ⟨hx,λz=>Maps.atKey_put_same hm (Td y) _ _⟩
  ·rw [if_neg e] at hz;exact ⟨(h.2 y z hz).1,λu=>by rw [Maps.atKey_put_other (LC e),(h.2 y z hz).2]⟩
theorem Yc.del {D:DataW Value} (h:Yc K D f) {x:Nat}:Yc K (D.del (.int .u32 (x:Int))) (λy=>if y=x then none else f y):=by
 refine ⟨λy hy=>?_,λy z hz=>?_⟩
 ·show _=(if y=x then none else f y).isSome
  by_cases e:y=x
  ·subst e;rw [if_pos rfl,Maps.has_del_same];rfl
  ·rw [if_neg e,Maps.has_del_other (LC e),h.1 y hy]
 ·replace hz:(if y=x then none else f y)=some z:=hz;by_cases e:y=x
  ·subst e;rw [if_pos rfl] at hz;cases hz
  ·rw [if_neg e] at hz;exact ⟨(h.2 y z hz).1,λu=>by rw [Maps.atKey_del_other (LC e),(h.2 y z hz).2]⟩
theorem NV {row:Nat} (h:w.grownBy w' (some row)):Bj [row] w w':=(Bj.refl _ _).grown h λk hk=>.inl (by simpa using hk.symm)
theorem MapU.put (h:MapU K w b f n) {x:Nat} (hx:x<4294967296) (v:α) (hn:n<maxLen) :
 ∃w',(Instr.mapUpdate K.T (.map (some b)) (.int .u32 (x:Int)) (K.enc v)).run Tryz.prog w=.ok () w'/\MapU K w' b (λy=>if y=x then some v else f y) (if (f x).isSome then n else n+1)/\Bj [b] w w'/\w'.heap.size=w.heap.size:=by
 obtain ⟨D,h1,h2,h3⟩:=h;have ht:=h1.tidy K.keyed;obtain ⟨w',hrun,ho,hturn⟩:=h1.store K.keyed K.hT hn (WO K hx) (oZ K.enc v)
 have hsz:Maps.size (D.put (.int .u32 (x:Int)) (.held (K.enc v)))=if (f x).isSome then n else n+1:=by
  rw [Maps.size_put ht,h3.1 x hx,h2]
 refine ⟨w',hrun,⟨_,?_,hsz,h3.put h1.isMap hx v⟩,NV hturn.grown,?_⟩
 ·obtain ⟨es,clock,hb,F,_,hD⟩:=ho;refine ⟨es,clock,hb,F,?_,hD⟩
  rw [<-hsz,hD];simp [Maps.size,length_sorted]
 ·obtain ⟨es,clock,es',clock',hb,rfl⟩:=hturn;simp [Go.ChangeMaps.setBlock]
theorem MapU.drop (h:MapU K w b f n) {x:Nat} (hx:x<4294967296) (ty:TypeId) :
 ∃w',(Builtin.delete_ #[K.T,K.k] ty #[.map (some b),.int .u32 (x:Int)]).run Tryz.prog w=.ok (.tuple #[]) w'/\MapU K w' b (λy=>if y=x then none else f y) (if (f x).isSome then n - 1 else n)/\Bj [b] w w'/\w'.heap.size=w.heap.size:=by
 obtain ⟨D,h1,h2,h3⟩:=h;have ht:=h1.tidy K.keyed;obtain ⟨w',hrun,ho,hturn⟩:=h1.drop K.keyed K.hT (WO K hx) ty
 have hsz:Maps.size (D.del (.int .u32 (x:Int)))=if (f x).isSome then n - 1 else n:=by
  have:=Maps.size_del (k:=.int .u32 (x:Int)) ht;rw [h3.1 x hx,h2] at this;split<;>simp_all<;>omega
 refine ⟨w',hrun,⟨_,?_,hsz,h3.del⟩,NV hturn.grown,?_⟩
 ·obtain ⟨es,clock,hb,F,_,hD⟩:=ho;refine ⟨es,clock,hb,F,?_,hD⟩
  rw [<-hsz,hD];simp [Maps.size,length_sorted]
 ·obtain ⟨es,clock,es',clock',hb,rfl⟩:=hturn;simp [Go.ChangeMaps.setBlock]
def NW (K:MK α) (w:World) (b r:Nat) (f:Nat->Option α) (n:Nat) (left:Nat->Bool) (cnt:Nat):Prop:=
 ∃D l',w.ranges Tryz.prog K.k (RV K.enc) b r n D l' cnt/\Maps.size D=n/\Yc K D f/\(∀x:Nat,x<4294967296->l' (.int .u32 (x:Int))=left x)/\∀x,left x=true->x<4294967296/\(f x).isSome=true
theorem NW.upd {F:List Nat} {left:Nat->Bool} {cnt:Nat} (h:NW K w b r f n left cnt) (hu:Bj F w w') (hb:b∉F) (hr:r∉F):NW K w' b r f n left cnt:=by
 obtain ⟨D,l',h1,h2⟩:=h;have l1:=h1.owns.lt;have l2:=h1.lt;obtain ⟨es,clock,since,seen,c0,hb',F',hs,hD,hr',rest⟩:=h1;exact ⟨D,l',⟨es,clock,since,seen,c0,(hu.block b l1 hb).trans hb',F',hs,hD,(hu.block r l2 hr).trans hr',rest⟩,h2⟩
variable {ops:Array Oper} {rest:List Oper} {o:Oper} {a:Act} {Q:Exit->Act->World->Prop}
theorem Ve (w:World) (hg:o.guard=none) (m:Operand) (hop:o.op=Op.range K.T m) (hm:a.eval m=.map (some b)) (h:MapU K w b f n)
 (hK:∀w',NW K w' b w.heap.size f n (λx=>(f x).isSome) n->Bj [] w w'->w'.heap.size=w.heap.size+1->wpList Tryz.prog ops Q rest (a.put o.dst (.pointer (some w.heap.size))) w') :
 wpList Tryz.prog ops Q (o::rest) a w:=by
 obtain ⟨D,h1,h2,h3⟩:=h;refine wpList_range_own w hg m K.T hop K.k K.e K.keyed K.hT (RV K.enc) b n D hm h1 λw' g1 g2 g3=>?_
 rw [h2] at g1
 exact hK w' ⟨D,_,g1,h2,h3,λx hx=>h3.1 x hx,λx hx=>by
  obtain ⟨y,hy⟩:=Option.isSome_iff_exists.1 hx;exact ⟨(h3.2 x y hy).1,hx⟩⟩ ((Bj.refl _ _).grown g2 (by simp)) g3
theorem WQ (w:World) {left:Nat->Bool} {cnt:Nat} (hg:o.guard=none) (it:Operand) (hop:o.op=Op.next it false) (hit:a.eval it=.pointer (some r)) (h:NW K w b r f n left cnt)
 (hDone:(∀x,left x=false)->wpList Tryz.prog ops Q rest (a.put o.dst (.tuple #[.bool false])) w)
 (hMore:∀(x:Nat) (y:α) (w':World) (cnt':Nat),x<4294967296->left x=true->f x=some y->NW K w' b r f n (λz=>left z&&z != x) cnt'->cnt'<cnt->Bj [r] w w'->w'.heap.size=w.heap.size->
  (Instr.entry (.pointer (some r))).run Tryz.prog w'=.ok (.tuple #[.int .u32 (x:Int),K.enc y]) w'->wpList Tryz.prog ops Q rest (a.put o.dst (.tuple #[.bool true,.int .u32 (x:Int),K.enc y])) w') :
 wpList Tryz.prog ops Q (o::rest) a w:=by
 obtain ⟨D,l',h1,h2,h3,h4,h5⟩:=h
 refine wpList_next_ranges w hg it hop K.k K.keyed (RV K.enc) (Value.int .u32) K.enc (λkey kl hkey=>by obtain ⟨x,rfl,_⟩:=Maps.keyOf_int_inv K.hk hkey;exact ⟨x,rfl⟩) (λv y hv=>by obtain ⟨x,rfl,_⟩:=ZF hv;exact ⟨x,rfl⟩)
  b r n D l' cnt hit h1 (λ_ hl=>hDone λx=>?_) (λxi c kl y w' cnt' hkey hlk hv hat hrg hlt hgr hsz hen=>?_)
 ·cases hx:left x with
  |false=>rfl
  |true=>
   have:=h4 x (h5 x hx).1;rw [hl,hx] at this
   cases this
 ·obtain ⟨x',ex,rfl,hwx⟩:=Maps.keyOf_int_inv K.hk hkey
  cases ex
  have hb:0<=xi/\xi<4294967296:=by
   simp [Lit.wf,IntKind.min,IntKind.max,IntKind.signed,IntKind.bits] at hwx;omega
  obtain ⟨x,rfl⟩:∃x:Nat,xi=(x:Int):=⟨xi.toNat,by omega⟩;have hx:x<4294967296:=by omega
  have hleft:left x=true:=by rw [<-h4 x hx];exact hlk
  obtain ⟨z,hz⟩:=Option.isSome_iff_exists.1 (h5 x hleft).2;obtain ⟨c',ec,hy⟩:=ZF hv
  have hcz:c=z:=by
   have h6:=(h3.2 x z hz).2 (.nil);rw [hat,hy] at h6;simp only [DataW.held.injEq] at h6;have:=K.inj _ _ ec;have:=K.inj _ _ h6;simp_all
  subst hcz;refine hMore x c w' cnt' hx hleft hz ⟨D,_,hrg,h2,h3,λu hu=>?_,λu hu=>?_⟩ hlt (NV hgr) hsz hen
  ·show (l' _&&!_)=(left u&&u != x)
   rw [h4 u hu];by_cases e:u=x
   ·subst e;rw [WideAt.sameKey_self (Td u)];simp
   ·rw [Maps.sameKey_ne (LC e)];have e2:(u != x)=true:=by simpa using e
    rw [e2];rfl
  ·simp only [Bool.and_eq_true] at hu;exact h5 u hu.1
end
theorem DF:(Tryz.prog.info? 2).map (λi=>(i.zero,i.size,i.bytes))=some (some (.int .i64 0),1,8):=by kernel_rfl
theorem DL (s:Value) (n:Nat) (xs:List Value) (w:World) (hs:D5 w 1 s n xs) (h1:∀u∈xs,u.oneCell'=true) (hb:n*8<=140737488355328) :
 Calls Tryz.prog 152 #[s] w λe w'=>∃A C,e=.returned (.slice A n C)/\w'.ownsRow w.heap.size 2 1 (.slice A n C) n xs/\Below w.heap.size w w':=by
 obtain ⟨i0,hi,hz0,hz1,hz2⟩:=info_parts DF;have HS:=AX hs;have H1:=AX h1;clear h1;have HB:=AX hb;clear hb;rcases hs.2 with ⟨rfl,rfl⟩ | ⟨b,o,sp,cap,rfl,_⟩
 ·clear hs;have he:=λw=>Lib.run_eql_slice_nil (P:=Tryz.prog) (w:=w) 57 2 none 0 0 0 0 Tryz.underlying57
  go_enter Tryz.func152,Tryz.ntmps152
  go_wp2
  go_ret
  have hx:xs = []:=List.eq_nil_of_length_eq_zero (by simpa using HS.1);subst hx;exact ⟨_,_,rfl,World.ownsRow_nil _ _ _ _,Below.refl _ _⟩
 ·clear hs;have he:=λw=>Lib.run_eql_slice_nil (P:=Tryz.prog) (w:=w) 57 2 (some ⟨b,o,sp⟩) n cap 0 0 Tryz.underlying57
  go_enter Tryz.func152,Tryz.ntmps152
  go_wp2_with (at_builtin;refine BM _ rfl _ _ 57 rfl w.heap.size 2 i0 (.int .i64 0) 1 8 Tryz.underlying57 hi hz0 hz1 hz2 rfl (by decide) _ 0 [] rfl (World.ownsRow_made w #[] 0 (Nat.le_refl _) (by decide) rfl) _ n xs rfl (Dh HS.out ((Bj.refl [] w).alloc _) (by simp)) H1.out (by have:=HB.out;unfold maxLen;omega) (Ac HB) (by simp) ?_)
  intro A C w1 HP;have HU:=HP.upd;have hb1:Below w.heap.size w w1:=(((Bj.refl [] w).alloc _).trans' HU (λk hk=>by simp [blk] at hk;omega)).below;have hown:w1.ownsRow w.heap.size 2 1 (.slice A n C) n xs:=by simpa using HP.own
  clear he;go_wp2
  go_ret
  exact ⟨_,_,rfl,hown,hb1⟩
theorem o7 (cs:List Int):KL.all cs=cs.map λx=>(.int .i64 x:Value):=by
 induction cs with
 |nil=>rfl
 |cons x cs ih=>
  rw [List.map_cons,<-ih];rfl
theorem rowAt {α:Type} {K:Kind α} {w:World} {base:Nat} {A:Option Addr} {n C:Nat} {l:List α} (h:K.row w base (.slice A n C) l) {k:Nat} {x:α} (hx:l[k]? = some x) :
 ∃g,A=some ⟨g,0,none⟩/\base<=g/\(∀j u,(K.enc x)[j]? = some u->w.cell? ⟨g,k*K.sz+j,none⟩=some u)/\∀j,w.frozen? ⟨g,j,none⟩=false:=by
 obtain ⟨hk,he⟩:=AZ hx;have h':w.ownsRow base K.eT K.sz (.slice A n C) l.length (K.all l):=h;obtain ⟨g,cap,hA,hg,_⟩:=h'.form (by omega)
 cases hA
 refine ⟨g,rfl,hg,λj u hu=>?_,λj=>World.ownsRow.frozenAt h' j⟩
 rw [<-he] at hu;have h2:=K.MR l k j hk u hu;have:=World.ownsRow.cells h' (g:=g) rfl _ u h2;rwa [addr_add,Nat.zero_add] at this
end
section
def mid (f t:Nat):Nat:=t - (t - f) / 2
theorem Dt {f t:Nat} (h:f+1<t):f<mid f t/\mid f t<t:=by unfold mid;omega
section
variable {α:Type}
def FD (g:Nat->Nat->Nat->Nat->Nat->α) (f t pf pt o:Nat):List α:=
 if _h:f+1<t then
  FD g f (mid f t) f t o++(FD g (mid f t) t f t (o+2*(mid f t - f) - 1)++[g f t pf pt (o+2*(t - f) - 2)])
 else [g f t pf pt o]
termination_by t - f
decreasing_by all_goals (have:=Dt (by assumption);omega)
theorem DW (g:Nat->Nat->Nat->Nat->Nat->α) {f t:Nat} (pf pt o:Nat) (h:¬f+1<t):FD g f t pf pt o = [g f t pf pt o]:=by
 rw [FD,dif_neg h]
theorem DX (g:Nat->Nat->Nat->Nat->Nat->α) {f t:Nat} (pf pt o:Nat) (h:f+1<t) :
 FD g f t pf pt o=FD g f (mid f t) f t o++(FD g (mid f t) t f t (o+2*(mid f t - f) - 1)++[g f t pf pt (o+2*(t - f) - 2)]):=by
 rw [FD,dif_pos h]
theorem jl (g:Nat->Nat->Nat->Nat->Nat->α):∀(d f t pf pt o:Nat),t - f<=d->f<t->(FD g f t pf pt o).length=2*(t - f) - 1:=by
 intro d;induction d with
 |zero=>intro f t pf pt o h1 h2;omega
 |succ d ih=>
  intro f t pf pt o h1 h2;by_cases h:f+1<t
  ·have:=Dt h;rw [DX g pf pt o h,Bc,Bc,ih f (mid f t) f t o (by omega) (by omega),ih (mid f t) t f t _ (by omega) (by omega)];simp only [List.length_singleton];omega
  ·rw [DW g pf pt o h];simp only [List.length_singleton];omega
theorem Io (g:Nat->Nat->Nat->Nat->Nat->α) {f t:Nat} (pf pt o:Nat) (h:f<t):(FD g f t pf pt o).length=2*(t - f) - 1:=
 jl g (t - f) f t pf pt o (Nat.le_refl _) h
def o9 (g:Nat->Nat->Nat->Nat->Nat->α) (f t o:Nat):List α:=
 if f+1<t then FD g f (mid f t) f t o++FD g (mid f t) t f t (o+2*(mid f t - f) - 1) else []
theorem Tf (g:Nat->Nat->Nat->Nat->Nat->α) {f t:Nat} (pf pt o:Nat) (h:f<t):FD g f t pf pt o=o9 g f t o++[g f t pf pt (o+2*(t - f) - 2)]:=by
 unfold o9;by_cases h1:f+1<t
 ·rw [DX g pf pt o h1,if_pos h1,List.append_assoc]
 ·rw [DW g pf pt o h1,if_neg h1,show o+2*(t - f) - 2=o by omega];rfl
theorem WR (g:Nat->Nat->Nat->Nat->Nat->α) {f t:Nat} (o:Nat) (h:f<t):(o9 g f t o).length=2*(t - f) - 2:=by
 have h1:=Io g 0 0 o h;rw [Tf g 0 0 o h,Bc,List.length_singleton] at h1;omega
theorem LD (g g':Nat->Nat->Nat->Nat->Nat->α):∀(d f t pf pt o:Nat),t - f<=d->f<t->
 (∀o',g f t pf pt o'=g' f t pf pt o')->(∀f' t' KF KG o',f<=f'->f'<t'->t'<=t->f<=KF->KG<=t->g f' t' KF KG o'=g' f' t' KF KG o')->FD g f t pf pt o=FD g' f t pf pt o:=by
 intro d;induction d with
 |zero=>intro f t pf pt o h1 h2;omega
 |succ d ih=>
  intro f t pf pt o h1 h2 hr hk;by_cases h:f+1<t
  ·have:=Dt h
   rw [DX g pf pt o h,DX g' pf pt o h,hr,
    ih f (mid f t) f t o (by omega) (by omega) (λo'=>hk _ _ _ _ _ (by omega) (by omega) (by omega) (by omega) (by omega)) (λf' t' KF KG o' a1 a2 a3 a4 a5=>hk _ _ _ _ _ (by omega) (by omega) (by omega) (by omega) (by omega)),
    ih (mid f t) t f t _ (by omega) (by omega) (λo'=>hk _ _ _ _ _ (by omega) (by omega) (by omega) (by omega) (by omega)) (λf' t' KF KG o' a1 a2 a3 a4 a5=>hk _ _ _ _ _ (by omega) (by omega) (by omega) (by omega) (by omega))]
  ·rw [DW g pf pt o h,DW g' pf pt o h,hr]
end
end
section
abbrev Cnt:=Nat->Nat->Nat->Nat->Int
structure Part where
 long:Int
 runs:Int
 first:Bool
 last:Bool
deriving DecidableEq
def QG (p q:Part):Part:=⟨p.long+q.long,p.runs+q.runs - (if p.last&&q.first then 1 else 0),p.first,q.last⟩
def Dn (c:Cnt) (M:Nat->Int) (f t pf pt:Nat):Part:=
 if 0<c f t pf pt then ⟨M t - M f,1,true,true⟩
 else if _h:f+1<t then QG (Dn c M f (mid f t) f t) (Dn c M (mid f t) t f t)
 else ⟨0,0,false,false⟩
termination_by t - f
decreasing_by all_goals (have:=Dt (by assumption);omega)
def GI (c:Cnt) (f t pf pt:Nat):List Bool:=
 if 0<c f t pf pt then List.replicate (t - f) true
 else if _h:f+1<t then GI c f (mid f t) f t++GI c (mid f t) t f t
 else [false]
termination_by t - f
decreasing_by all_goals (have:=Dt (by assumption);omega)
def ent (a b:Nat) (f t:Nat):Nat:=
 if t<=a\/b<=f then 1 else if a<=f/\t<=b then 1
 else if _h:f+1<t then 1+(ent a b f (mid f t)+ent a b (mid f t) t) else 1
termination_by t - f
decreasing_by all_goals (have:=Dt (by assumption);omega)
theorem Ir {c:Cnt} {M:Nat->Int} {f t pf pt:Nat} (h:0<c f t pf pt):Dn c M f t pf pt=⟨M t - M f,1,true,true⟩:=by rw [Dn,if_pos h]
theorem IB {c:Cnt} {M:Nat->Int} {f t pf pt:Nat} (h:¬0<c f t pf pt) (h1:f+1<t):Dn c M f t pf pt=QG (Dn c M f (mid f t) f t) (Dn c M (mid f t) t f t):=by rw [Dn,if_neg h,dif_pos h1]
theorem FH {c:Cnt} {M:Nat->Int} {f t pf pt:Nat} (h:¬0<c f t pf pt) (h1:¬f+1<t):Dn c M f t pf pt=⟨0,0,false,false⟩:=by rw [Dn,if_neg h,dif_neg h1]
theorem P9 {c:Cnt} {f t pf pt:Nat} (h:0<c f t pf pt):GI c f t pf pt=List.replicate (t - f) true:=by rw [GI,if_pos h]
theorem NY {c:Cnt} {f t pf pt:Nat} (h:¬0<c f t pf pt) (h1:f+1<t):GI c f t pf pt=GI c f (mid f t) f t++GI c (mid f t) t f t:=by rw [GI,if_neg h,dif_pos h1]
theorem NZ {c:Cnt} {f t pf pt:Nat} (h:¬0<c f t pf pt) (h1:¬f+1<t):GI c f t pf pt = [false]:=by rw [GI,if_neg h,dif_neg h1]
theorem I9 {a b f t:Nat} (h:t<=a\/b<=f):ent a b f t=1:=by rw [ent,if_pos h]
theorem Qa {a b f t:Nat} (h:a<=f/\t<=b):ent a b f t=1:=by
 rw [ent];by_cases h0:t<=a\/b<=f
 ·rw [if_pos h0]
 ·rw [if_neg h0,if_pos h]
theorem OM {a b f t:Nat} (h:¬(t<=a\/b<=f)) (h1:¬(a<=f/\t<=b)) (h2:f+1<t):ent a b f t=1+(ent a b f (mid f t)+ent a b (mid f t) t):=by rw [ent,if_neg h,if_neg h1,dif_pos h2]
def FU (c c':Cnt) (f t pf pt:Nat):Prop:=
 c f t pf pt=c' f t pf pt/\∀f' t' KF KG,f<=f'->f'<t'->t'<=t->f<=KF->KG<=t->c f' t' KF KG=c' f' t' KF KG
theorem FU.left {c c':Cnt} {f t pf pt:Nat} (h:FU c c' f t pf pt) (h1:f+1<t):FU c c' f (mid f t) f t:=by
 have:=Dt h1;exact ⟨h.2 _ _ _ _ (by omega) (by omega) (by omega) (by omega) (by omega),λf' t' KF KG a1 a2 a3 a4 a5=>h.2 _ _ _ _ (by omega) (by omega) (by omega) (by omega) (by omega)⟩
theorem FU.right {c c':Cnt} {f t pf pt:Nat} (h:FU c c' f t pf pt) (h1:f+1<t):FU c c' (mid f t) t f t:=by
 have:=Dt h1;exact ⟨h.2 _ _ _ _ (by omega) (by omega) (by omega) (by omega) (by omega),λf' t' KF KG a1 a2 a3 a4 a5=>h.2 _ _ _ _ (by omega) (by omega) (by omega) (by omega) (by omega)⟩
theorem Ti {c c':Cnt} {M:Nat->Int}:∀(d f t pf pt:Nat),t - f<=d->FU c c' f t pf pt->Dn c M f t pf pt=Dn c' M f t pf pt:=by
 intro d;induction d with
 |zero=>
  intro f t pf pt hd h;by_cases h0:0<c f t pf pt
  ·rw [Ir h0,Ir (by rw [<-h.1];exact h0)]
  ·rw [FH h0 (by omega),FH (by rw [<-h.1];exact h0) (by omega)]
 |succ d ih=>
  intro f t pf pt hd h;by_cases h0:0<c f t pf pt
  ·rw [Ir h0,Ir (by rw [<-h.1];exact h0)]
  ·by_cases h1:f+1<t
   ·have:=Dt h1;rw [IB h0 h1,IB (by rw [<-h.1];exact h0) h1,ih _ _ _ _ (by omega) (h.left h1),ih _ _ _ _ (by omega) (h.right h1)]
   ·rw [FH h0 h1,FH (by rw [<-h.1];exact h0) h1]
def can (s:Nat×Nat):Cnt:=λf t pf pt=>if s.1<=f/\t<=s.2/\¬(s.1<=pf/\pt<=s.2) then 1 else 0
def Ey (H:List (Nat×Nat)):Cnt:=λf t pf pt=>(H.map λs=>can s f t pf pt).sum
theorem ZG (s:Nat×Nat) (f t pf pt:Nat):0<=can s f t pf pt:=by unfold can;split<;>simp
theorem Jy (s:Nat×Nat) (H:List (Nat×Nat)) (f t pf pt:Nat):Ey (s::H) f t pf pt=can s f t pf pt+Ey H f t pf pt:=by simp [Ey]
theorem QH (H:List (Nat×Nat)) (f t pf pt:Nat):0<=Ey H f t pf pt:=by
 induction H with
 |nil=>simp [Ey]
 |cons s H ih=>rw [Jy];have:=ZG s f t pf pt;omega
theorem jm {H H':List (Nat×Nat)} (h:H.Perm H'):Ey H=Ey H':=by
 funext f t pf pt
 unfold Ey;induction h with
 |nil=>rfl
 |cons _ _ ih=>simp only [List.map_cons,List.sum_cons,ih]
 |swap _ _ _=>simp only [List.map_cons,List.sum_cons];omega
 |trans _ _ ih1 ih2=>exact ih1.trans ih2
theorem Yd {H:List (Nat×Nat)} {f t pf pt:Nat}:0<Ey H f t pf pt↔∃s∈H,s.1<=f/\t<=s.2/\¬(s.1<=pf/\pt<=s.2):=by
 induction H with
 |nil=>simp [Ey]
 |cons s H ih=>
  rw [Jy];have h0:=QH H f t pf pt;by_cases hs:s.1<=f/\t<=s.2/\¬(s.1<=pf/\pt<=s.2)
  ·have h1:can s f t pf pt=1:=by unfold can;rw [if_pos hs]
   rw [h1];exact ⟨λ_=>⟨s,by simp,hs⟩,λ_=>by omega⟩
  ·have h1:can s f t pf pt=0:=by unfold can;rw [if_neg hs]
   rw [h1,Int.zero_add,ih];constructor
   ·rintro ⟨x,hx,h⟩;exact ⟨x,by simp [hx],h⟩
   ·rintro ⟨x,hx,h⟩;rcases List.mem_cons.1 hx with rfl | hx
    ·exact (hs h).elim
    ·exact ⟨x,hx,h⟩
theorem eH {s:Nat×Nat} {f t:Nat} (h:t<=s.1\/s.2<=f) {f' t' KF KG:Nat} (h1:f<=f') (h2:f'<t') (h3:t'<=t):can s f' t' KF KG=0:=by
 unfold can;rw [if_neg (by omega)]
theorem jo {s:Nat×Nat} {f t:Nat} (h:s.1<=f/\t<=s.2) {f' t' KF KG:Nat} (h1:f<=KF) (h2:KG<=t):can s f' t' KF KG=0:=by
 unfold can;rw [if_neg (by omega)]
def LH (H:List (Nat×Nat)) (i:Nat):Bool:=H.any λs=>decide (s.1<=i)&&decide (i<s.2)
theorem jq {c:Cnt}:∀(d f t pf pt:Nat),t - f<=d->f<t->(GI c f t pf pt).length=t - f:=by
 intro d;induction d with
 |zero=>intro f t pf pt h1 h2;omega
 |succ d ih=>
  intro f t pf pt h1 h2;by_cases h0:0<c f t pf pt
  ·rw [P9 h0,List.length_replicate]
  ·by_cases h:f+1<t
   ·have:=Dt h;rw [NY h0 h,Bc,ih _ _ _ _ (by omega) (by omega),ih _ _ _ _ (by omega) (by omega)];omega
   ·rw [NZ h0 h];simp only [List.length_singleton];omega
theorem Gt {c:Cnt} {f t:Nat} (pf pt:Nat) (h:f<t):(GI c f t pf pt).length=t - f:=jq (t - f) f t pf pt (Nat.le_refl _) h
theorem jr {H:List (Nat×Nat)}:∀(d f t pf pt i:Nat),t - f<=d->pf<=f->t<=pt->f<=i->i<t->
 (GI (Ey H) f t pf pt)[i - f]? = some (H.any λs=>decide (s.1<=i)&&decide (i<s.2)&&!(decide (s.1<=pf)&&decide (pt<=s.2))):=by
 intro d;induction d with
 |zero=>intro f t pf pt i h1 h2 h3 h4 h5;omega
 |succ d ih=>
  intro f t pf pt i h1 h2 h3 h4 h5;by_cases h0:0<Ey H f t pf pt
  ·rw [P9 h0,List.getElem?_replicate,if_pos (by omega)];obtain ⟨s,hs,hs1,hs2,hs3⟩:=Yd.1 h0;congr 1
   symm
   rw [List.any_eq_true];refine ⟨s,hs,?_⟩
   have e1:decide (s.1<=i)=true:=decide_eq_true (by omega);have e2:decide (i<s.2)=true:=decide_eq_true (by omega);rw [e1,e2];by_cases h7:s.1<=pf
   ·have e4:decide (pt<=s.2)=false:=decide_eq_false (by omega);rw [e4];simp
   ·have e4:decide (s.1<=pf)=false:=decide_eq_false h7;rw [e4];simp
  ·have hno:∀s∈H,s.1<=f->t<=s.2->s.1<=pf/\pt<=s.2:=λs hs a b=>by
    by_cases hc:s.1<=pf/\pt<=s.2
    ·exact hc
    ·exact (h0 (Yd.2 ⟨s,hs,a,b,hc⟩)).elim
   have hsame:(H.any λs=>decide (s.1<=i)&&decide (i<s.2)&&!(decide (s.1<=f)&&decide (t<=s.2)))=(H.any λs=>decide (s.1<=i)&&decide (i<s.2)&&!(decide (s.1<=pf)&&decide (pt<=s.2))):=by
    rw [Bool.eq_iff_iff,List.any_eq_true,List.any_eq_true];constructor
    ·rintro ⟨s,hs,h⟩;refine ⟨s,hs,?_⟩
     simp only [Bool.and_eq_true,decide_eq_true_eq,Bool.not_eq_true',Bool.and_eq_false_imp,decide_eq_false_iff_not] at h |-;refine ⟨h.1,λa b=>?_⟩
     exact h.2 (by omega) (by omega)
    ·rintro ⟨s,hs,h⟩;refine ⟨s,hs,?_⟩
     simp only [Bool.and_eq_true,decide_eq_true_eq,Bool.not_eq_true',Bool.and_eq_false_imp,decide_eq_false_iff_not] at h |-;refine ⟨h.1,λa b=>?_⟩
     have:=hno s hs a b;exact h.2 this.1 this.2
   by_cases h:f+1<t
   ·have hm:=Dt h;rw [NY h0 h,<-hsame];have hl:=Gt (c:=Ey H) f t hm.1;by_cases him:i<mid f t
    ·rw [List.getElem?_append_left (by omega)];exact ih f (mid f t) f t i (by omega) (by omega) (by omega) h4 him
    ·rw [List.getElem?_append_right (by omega),hl,show i - f - (mid f t - f)=i - mid f t by omega];exact ih (mid f t) t f t i (by omega) (by omega) (by omega) (by omega) h5
   ·rw [NZ h0 h,<-hsame,show i - f=0 by omega];simp only [List.getElem?_cons_zero,Option.some.injEq];symm
    rw [Bool.eq_false_iff];intro hc;rw [List.any_eq_true] at hc;obtain ⟨s,hs,h⟩:=hc;simp only [Bool.and_eq_true,decide_eq_true_eq,Bool.not_eq_true',Bool.and_eq_false_imp,decide_eq_false_iff_not] at h;exact h.2 (by omega) (by omega)
theorem pz {H:List (Nat×Nat)} {n:Nat} (hn:0<n) (hH:∀s∈H,s.2<=n):GI (Ey H) 0 n 0 (n+1)=(List.range n).map (LH H):=by
 have hl:=Gt (c:=Ey H) 0 (n+1) hn;refine List.ext_getElem? λi=>?_
 by_cases hi:i<n
 ·have:=jr (H:=H) n 0 n 0 (n+1) i (by omega) (by omega) (by omega) (by omega) hi;rw [Nat.sub_zero] at this;rw [this,List.getElem?_map,List.getElem?_range hi,Option.map_some];congr 1
  unfold LH;rw [Bool.eq_iff_iff,List.any_eq_true,List.any_eq_true];constructor
  ·rintro ⟨s,hs,h⟩;refine ⟨s,hs,?_⟩
   simp only [Bool.and_eq_true] at h |-;exact h.1
  ·rintro ⟨s,hs,h⟩;refine ⟨s,hs,?_⟩
   have h2:=hH s hs;have e:decide (n+1<=s.2)=false:=decide_eq_false (by omega);rw [e];simpa using h
 ·rw [List.getElem?_eq_none (by omega),List.getElem?_eq_none (by simp;omega)]
def Hl (M:Nat->Int):Nat->List Bool->Int
 |_,[]=>0
 |f,b::G=>(if b then M (f+1) - M f else 0)+Hl M (f+1) G
def Fj:Bool->List Bool->Nat
 |_,[]=>0
 |p,b::G=>(if b&&!p then 1 else 0)+Fj b G
theorem VD (M:Nat->Int) (A B:List Bool):∀f,Hl M f (A++B)=Hl M f A+Hl M (f+A.length) B:=by
 induction A with
 |nil=>intro f;simp [Hl]
 |cons a A ih=>
  intro f;simp only [List.cons_append,Hl,ih,List.length_cons];rw [show f+1+A.length=f+(A.length+1) by omega];omega
theorem ZH (M:Nat->Int) (k:Nat):∀f,Hl M f (List.replicate k true)=M (f+k) - M f:=by
 induction k with
 |zero=>intro f;simp [Hl]
 |succ k ih=>
  intro f;rw [List.replicate_succ,Hl,ih,if_pos rfl,show f+1+k=f+(k+1) by omega];omega
theorem jv (A B:List Bool):∀p,Fj p (A++B)=Fj p A+Fj (A.getLastD p) B:=by
 induction A with
 |nil=>intro p;simp [Fj]
 |cons a A ih=>
  intro p;rw [List.cons_append,Fj,Fj,ih,List.getLastD_cons];omega
theorem ZI (B:List Bool):Fj true B+(if B.headD false then 1 else 0)=Fj false B:=by
 cases B with
 |nil=>rfl
 |cons b B=>cases b<;>simp [Fj]<;>omega
theorem ZJ (k:Nat):∀p,Fj p (List.replicate k true)=if 0<k/\p=false then 1 else 0:=by
 induction k with
 |zero=>intro p;simp [Fj]
 |succ k ih=>
  intro p;rw [List.replicate_succ,Fj,ih]
  cases p<;>simp
def KH (M:Nat->Int) (f:Nat) (G:List Bool):Part:=⟨Hl M f G,Fj false G,G.headD false,G.getLastD false⟩
theorem OO (A B:List Bool) (hB:B≠[]) (d:Bool):(A++B).getLastD d=B.getLastD d:=by
 rw [List.getLastD_eq_getLast?,List.getLastD_eq_getLast?,List.getLast?_append]
 cases h:B.getLast? with
 |none=>exact (hB (List.getLast?_eq_none_iff.1 h)).elim
 |some x=>rfl
theorem jw (A B:List Bool) (hA:A≠[]) (d:Bool):(A++B).headD d=A.headD d:=by
 cases A with
 |nil=>exact (hA rfl).elim
 |cons a A=>rfl
theorem jy (M:Nat->Int) (f:Nat) (A B:List Bool) (hA:A≠[]) (hB:B≠[]):KH M f (A++B)=QG (KH M f A) (KH M (f+A.length) B):=by
 unfold KH QG;have h2:=ZI B;simp only [VD,jv,jw A B hA,OO A B hB,Part.mk.injEq,true_and,and_true]
 cases hl:A.getLastD false
 ·simp
 ·cases hh:B.headD false
  ·rw [hh] at h2;simp at h2 |-;omega
  ·rw [hh] at h2;simp at h2 |-;omega
theorem Tj {c:Cnt} {M:Nat->Int}:∀(d f t pf pt:Nat),t - f<=d->f<t->Dn c M f t pf pt=KH M f (GI c f t pf pt):=by
 intro d;induction d with
 |zero=>intro f t pf pt h1 h2;omega
 |succ d ih=>
  intro f t pf pt h1 h2;by_cases h0:0<c f t pf pt
  ·rw [Ir h0,P9 h0];unfold KH;obtain ⟨k,hk⟩:∃k,t - f=k+1:=⟨t - f - 1,by omega⟩;rw [ZH,ZJ,show f+(t - f)=t by omega,hk,if_pos ⟨by omega,rfl⟩];simp only [Part.mk.injEq,true_and];refine ⟨rfl,rfl,?_⟩
   rw [List.replicate_succ',OO _ _ (by simp)];rfl
  ·by_cases h:f+1<t
   ·have hm:=Dt h;have l1:=Gt (c:=c) f t hm.1;have l2:=Gt (c:=c) f t hm.2;rw [IB h0 h,NY h0 h,ih _ _ _ _ (by omega) (by omega),ih _ _ _ _ (by omega) (by omega),jy,l1,show f+(mid f t - f)=mid f t by omega]
    ·intro e;rw [e] at l1;simp at l1;omega
    ·intro e;rw [e] at l2;simp at l2;omega
   ·rw [FH h0 h,NZ h0 h];rfl
end
section
def lg (n:Nat):Nat:=BA (n - 1)
theorem Tm (d e:Nat) (hd:0<d) (he:e<=d / 2):BA e+1<=BA d:=by
 have h1:=Di d;have hb:BA d≠0:=λh=>by rw [h] at h1;omega
 obtain ⟨b,hbb⟩:∃b,BA d=b+1:=⟨BA d - 1,by omega⟩;rw [hbb] at h1 |-;have:BA e<=b:=BP e b (by rw [Nat.pow_succ] at h1;omega);omega
theorem WS {f t:Nat} (h:f+1<t):lg (mid f t - f)+1<=lg (t - f):=Tm _ _ (by omega) (by unfold mid;omega)
theorem Tq {f t:Nat} (h:f+1<t):lg (t - mid f t)+1<=lg (t - f):=Tm _ _ (by omega) (by unfold mid;omega)
theorem yg (a b f t:Nat):0<ent a b f t:=by
 rw [ent];split
 ·omega
 ·split
  ·omega
  ·split<;>omega
theorem Jz {a b f t:Nat} (h:¬f+1<t):ent a b f t=1:=by
 rw [ent];by_cases h0:t<=a\/b<=f
 ·rw [if_pos h0]
 ·rw [if_neg h0];by_cases h1:a<=f/\t<=b
  ·rw [if_pos h1]
  ·rw [if_neg h1,dif_neg h]
theorem yh {a b:Nat}:∀(d f t:Nat),t - f<=d->a<=f->ent a b f t<=2*lg (t - f)+1:=by
 intro d;induction d with
 |zero=>intro f t hd ha;rw [Jz (by omega)];omega
 |succ d ih=>
  intro f t hd ha;by_cases h1:t<=a\/b<=f
  ·rw [I9 h1];omega
  ·by_cases h2:a<=f/\t<=b
   ·rw [Qa h2];omega
   ·by_cases h:f+1<t
    ·have hm:=Dt h;have g1:=WS h;have g2:=Tq h;rw [OM h1 h2 h];by_cases hb:mid f t<=b
     ·rw [Qa (t:=mid f t) ⟨ha,hb⟩];have:=ih (mid f t) t (by omega) (by omega);omega
     ·rw [I9 (f:=mid f t) (.inr (by omega))];have:=ih f (mid f t) (by omega) ha;omega
    ·rw [Jz h];omega
theorem yj {a b:Nat}:∀(d f t:Nat),t - f<=d->t<=b->ent a b f t<=2*lg (t - f)+1:=by
 intro d;induction d with
 |zero=>intro f t hd ha;rw [Jz (by omega)];omega
 |succ d ih=>
  intro f t hd ha;by_cases h1:t<=a\/b<=f
  ·rw [I9 h1];omega
  ·by_cases h2:a<=f/\t<=b
   ·rw [Qa h2];omega
   ·by_cases h:f+1<t
    ·have hm:=Dt h;have g1:=WS h;have g2:=Tq h;rw [OM h1 h2 h];by_cases hb:a<=mid f t
     ·rw [Qa (f:=mid f t) ⟨hb,ha⟩];have:=ih f (mid f t) (by omega) (by omega);omega
     ·rw [I9 (t:=mid f t) (.inl (by omega))];have:=ih (mid f t) t (by omega) ha;omega
    ·rw [Jz h];omega
theorem eU {a b:Nat}:∀(d f t:Nat),t - f<=d->ent a b f t<=4*lg (t - f)+1:=by
 intro d;induction d with
 |zero=>intro f t hd;rw [Jz (by omega)];omega
 |succ d ih=>
  intro f t hd;by_cases h1:t<=a\/b<=f
  ·rw [I9 h1];omega
  ·by_cases h2:a<=f/\t<=b
   ·rw [Qa h2];omega
   ·by_cases h:f+1<t
    ·have hm:=Dt h;have g1:=WS h;have g2:=Tq h;rw [OM h1 h2 h];by_cases hb:b<=mid f t
     ·rw [I9 (f:=mid f t) (.inr hb)];have:=ih f (mid f t) (by omega);omega
     ·by_cases hb2:mid f t<=a
      ·rw [I9 (t:=mid f t) (.inl hb2)];have:=ih (mid f t) t (by omega);omega
      ·have e1:=yj (a:=a) (b:=b) (mid f t - f) f (mid f t) (Nat.le_refl _) (by omega);have e2:=yh (a:=a) (b:=b) (t - mid f t) (mid f t) t (Nat.le_refl _) (by omega);omega
    ·rw [Jz h];omega
end
namespace Nm
structure NS where
 cs:List (Nat×Nat)
 al:List Bool
 pl:List Nat
 n:Nat
 wk:Nat
def place (S:NS) (x:Nat):Option Nat:=match S.cs.lookup x with
 |some k=>if S.al.getD k false then some (S.pl.getD k 0) else none
 |none=>none
def jA (o:Option Nat):Int:=match o with | some k=>(k:Int) | none=>-1
structure ED (S:NS):Prop where
 ids:(S.cs.map (·.1)).Nodup
 nums:(S.cs.map (·.2)).Nodup
 lt:∀y∈S.cs,y.2<S.al.length
 pll:S.pl.length=S.al.length
 cnt:S.n=S.al.count true
 all:∀k:Nat,S.al[k]? = some true->∃y∈S.cs,y.2=k
theorem Eu {cs:List (Nat×Nat)} (h:(cs.map (·.1)).Nodup) (x k:Nat):cs.lookup x=some k↔(x,k)∈cs:=by
 induction cs with
 |nil=>simp
 |cons a cs ih=>
  rcases a with ⟨y,m⟩;rw [List.map_cons,List.nodup_cons] at h;rw [List.lookup_cons];by_cases e:x=y
  ·subst e;simp only [beq_self_eq_true,List.mem_cons,Prod.mk.injEq,true_and,Option.some.injEq];constructor
   ·intro e;exact .inl e.symm
   ·rintro (e | e)
    ·exact e.symm
    ·exact (h.1 (List.mem_map.2 ⟨_,e,rfl⟩)).elim
  ·have:(x==y)=false:=by simpa using e
   rw [this];simp only [List.mem_cons,Prod.mk.injEq,e,false_and,false_or];exact ih h.2
theorem Ho {cs:List (Nat×Nat)} (x:Nat):cs.lookup x=none↔∀y∈cs,y.1≠x:=by
 rw [List.lookup_eq_none_iff];constructor
 ·intro h y hy e;have:=h y hy;simp [e] at this
 ·intro h y hy;have:=h y hy;simp;exact λe=>this e.symm
def WT (bs bk:List (List (Nat×Nat))):Prop:=bk.length=bs.length/\∀(i:Nat) (l m:List (Nat×Nat)),bk[i]? = some l->bs[i]? = some m->l.Perm m/\l.Pairwise λa b=>a.1<=b.1
theorem WT.mem {bs bk:List (List (Nat×Nat))} (h:WT bs bk) (y:Nat×Nat):y∈bk.flatten↔y∈bs.flatten:=by
 simp only [List.mem_flatten];constructor
 ·rintro ⟨l,hl,hy⟩;obtain ⟨i,hi⟩:=List.mem_iff_getElem?.1 hl;have hlt:=(AZ hi).1;have hm:bs[i]? = some (bs[i]'(by rw [<-h.1];exact hlt)):=Ba _;exact ⟨_,List.mem_of_getElem? hm,(h.2 i l _ hi hm).1.mem_iff.1 hy⟩
 ·rintro ⟨m,hm,hy⟩;obtain ⟨i,hi⟩:=List.mem_iff_getElem?.1 hm;have hlt:=(AZ hi).1;have hl:bk[i]? = some (bk[i]'(by rw [h.1];exact hlt)):=Ba _;exact ⟨_,List.mem_of_getElem? hl,(h.2 i _ m hl hi).1.mem_iff.2 hy⟩
theorem Ye (cs:List (Nat×Nat)) (y:Nat×Nat):y∈(setB cs).flatten↔y∈cs:=by
 conv=>rhs;rw [<-OI cs]
 simp [List.mem_flatten]
theorem Yf {l:List (Nat×Nat)} (h:l.Pairwise λa b=>a.1<=b.1) (x:Nat):l=l.filter (λs=>decide (s.1<x))++l.filter (λs=>!decide (s.1<x)):=by
 induction l with
 |nil=>rfl
 |cons a l ih=>
  rw [List.pairwise_cons] at h;by_cases hx:a.1<x
  ·simp only [List.filter_cons,hx,decide_true,if_true,Bool.not_true,Bool.false_eq_true,if_false,List.cons_append];exact congrArg _ (ih h.2)
  ·have e1:l.filter (λs=>decide (s.1<x)) = []:=List.filter_eq_nil_iff.2 λs hs hc=>by have:=h.1 s hs;simp at hc;omega
   have e2:l.filter (λs=>!decide (s.1<x))=l:=List.filter_eq_self.2 λs hs=>by have:=h.1 s hs;simp;omega
   simp only [List.filter_cons,hx,decide_false,Bool.false_eq_true,if_false,Bool.not_false,if_true,e1,e2,List.nil_append]
theorem pF {l:List (Nat×Nat)} (h:l.Pairwise λa b=>a.1<=b.1) {x:Nat} (hx:∃y∈l,y.1=x):∃y,l[(l.filter λs=>decide (s.1<x)).length]? = some y/\y.1=x:=by
 obtain ⟨y,hy,e⟩:=hx;have hs:=Yf h x;obtain ⟨D,hD⟩:∃D,l.filter (λs=>!decide (s.1<x))=D:=⟨_,rfl⟩;have hyD:y∈D:=by rw [<-hD,List.mem_filter];exact ⟨hy,by simp;omega⟩
 have hDg:∀z∈D,x<=z.1:=λz hz=>by rw [<-hD,List.mem_filter] at hz;have:=hz.2;simp at this;exact this
 rw [hD] at hs;have hp:=h;rw [hs,List.pairwise_append] at hp
 cases D with
 |nil=>simp at hyD
 |cons d D=>
  refine ⟨d,?_,?_⟩
  ·conv=>lhs;rw [hs]
   have:l.filter (λs=>decide (s.1<x))++d::D=l:=hs.symm;rw [this];conv=>lhs;lhs;rw [hs]
   rw [List.getElem?_append_right (Nat.le_refl _),Nat.sub_self];rfl
  ·have h1:=hDg d (by simp);rcases List.mem_cons.1 hyD with e2 | hyD
   ·rw [<-e2,e]
   ·have:=(List.pairwise_cons.1 hp.2.1).1 y hyD;omega
