/- Lists of things of any number of cells, seen; the kinds of this seat. Maps from names (32 bits) to things of any kind: what a block of such a map has, as a function. Literals of numbers and of truth values, seen; rows that are made and stored into. No program but for the numbers of types. slices.Clone at []int64: a new row that holds the same. -/
import Derived.Test.YtkmnbodlciepaaaGreatRows
import Derived.Maps.OwnSet
import Derived.Maps.RangeWalk
import Derived.Laws.OwnMore
import Derived.Test.YtkmnbodlciepaaaGreatPk2
set_option maxHeartbeats 400000
set_option maxRecDepth 100000
namespace Go.Proofs.YtkmnbodlciepaaaGreat
open Go.RowKit
section
variable {α:Type}
def See (K:Kind α) (w:World) (v:Value) (l:List α):Prop:=Sees w K.sz v l.length (K.all l)
theorem See.form {K:Kind α} {w:World} {v:Value} {l:List α} (h:See K w v l):∃A C,v=.slice A l.length C:=sees_form h
theorem Kind.all_get (K:Kind α) (l:List α):∀(k j:Nat) (hk:k<l.length) (u:Value),(K.enc l[k])[j]? = some u→(K.all l)[k*K.sz+j]? = some u:=by
 induction l with
 |nil=>intro k j hk;simp at hk
 |cons a l ih=>
  intro k j hk u hu
  have e:K.all (a::l)=K.enc a++K.all l:=by simp [Kind.all]
  rw [e]
  rcases k with _ | k
  ·have hj:=(List.getElem?_eq_some_iff.1 hu).1
   rw [Nat.zero_mul,Nat.zero_add]
   exact (List.getElem?_append_left (l₁:=K.enc a) hj).trans hu
  ·have hl:=K.len a
   rw [List.getElem?_append_right (by rw [hl,Nat.add_mul,Nat.one_mul];omega),hl]
   rw [show (k+1)*K.sz+j - K.sz=k*K.sz+j by rw [Nat.add_mul,Nat.one_mul];omega]
   exact ih k j (by simpa using hk) u (by simpa using hu)
theorem See.at {K:Kind α} {w:World} {A:Option Addr} {n C:Nat} {l:List α} (h:See K w (.slice A n C) l) {k:Nat} {x:α} (hx:l[k]? = some x) :
 ∃b o,A=some ⟨b,o,none⟩∧n≤C∧C≤maxLen∧∀j u,(K.enc x)[j]? = some u→w.cell? ⟨b,o+k*K.sz+j,none⟩=some u:=by
 obtain ⟨hk,hx⟩:=List.getElem?_eq_some_iff.1 hx
 rcases h.2 with ⟨h1,h2⟩ | ⟨b,o,s,cap,h1,h2,h3,h4,h5⟩
 ·omega
 ·cases h1
  have:=h2 (by omega)
  subst this
  refine ⟨b,o,rfl,h3,h4,fun j u hu=>?_⟩
  rw [←hx] at hu
  have:=h5 _ _ (K.all_get l k j hk u hu)
  rwa [←Nat.add_assoc] at this
theorem See.upd {K:Kind α} {F:List Nat} {w w':World} {v:Value} {l:List α} (h:See K w v l) (hu:Upd F w w') (hd:0<l.length→∀k∈blk v,k<w.heap.size→k∉F):See K w' v l:=sees_upd h hu hd
theorem See.upd0 {K:Kind α} {w w':World} {v:Value} {l:List α} (h:See K w v l) (hu:Upd [] w w'):See K w' v l:=sees_upd h hu (by simp)
theorem See.of_row {K:Kind α} {w:World} {base:Nat} {v:Value} {l:List α} (h:K.row w base v l):See K w v l:=sees_of_own h
end
def KL:Kind Int:={ T:=0,sT:=82,eT:=2,sz:=1,enc:=fun x=>[.int .i64 x],len:=fun _=>rfl,one:=fun x u hu=>by simp at hu;subst hu;rfl }
def KN:Kind Nat:={ T:=0,sT:=138,eT:=3,sz:=1,enc:=fun x=>[.int .i64 (x:Int)],len:=fun _=>rfl,one:=fun x u hu=>by simp at hu;subst hu;rfl }
def KB:Kind Bool:={ T:=0,sT:=181,eT:=4,sz:=1,enc:=fun x=>[.bool x],len:=fun _=>rfl,one:=fun x u hu=>by simp at hu;subst hu;rfl }
theorem KL.at {w:World} {A:Option Addr} {n C:Nat} {l:List Int} (h:See KL w (.slice A n C) l) {k:Nat} {x:Int} (hx:l[k]? = some x) :
 ∃b o,A=some ⟨b,o,none⟩∧n≤C∧C≤maxLen∧w.cell? ⟨b,o+k,none⟩=some (.int .i64 x):=by
 obtain ⟨b,o,h1,h2,h3,h4⟩:=h.at hx
 have:=h4 0 _ rfl
 exact ⟨b,o,h1,h2,h3,by simpa [KL] using this⟩
open Go.Maps (Keyed Tidy IsMap)
structure MK (α:Type) where
 T:TypeId
 k:TypeId
 e:TypeId
 enc:α→Value
 zero:α
 hT:Tryz.prog.underlying T=some (.map k e)
 hk:Tryz.prog.underlying k=some (.int .u32)
 hz:∀w,(zeroValue e).run Tryz.prog w=.ok (enc zero) w
 inj:∀x y,enc x=enc y→x=y
open Classical in
noncomputable def RV {α:Type} (enc:α→Value) (v:Value):Option (DataW Value×List MemPlace):=if ∃x,v=enc x then some (.held v,[]) else none
section
variable {α:Type} (K:MK α) {w w':World} {b r n:Nat} {f:Nat→Option α}
theorem RV_enc (enc:α→Value) (x:α):RV enc (enc x)=some (.held (enc x),[]):=by
 unfold RV;rw [if_pos ⟨x,rfl⟩]
theorem RV_inv {enc:α→Value} {v:Value} {z:DataW Value×List MemPlace} (h:RV enc v=some z):∃x,v=enc x∧z=(.held (enc x),[]):=by
 unfold RV at h
 split at h
 ·rename_i hx
  obtain ⟨x,rfl⟩:=hx
  cases h
  exact ⟨x,rfl,rfl⟩
 ·cases h
theorem MK.keyed:Keyed Tryz.prog K.k:=Maps.int_keyed K.hk
def FnOf (K:MK α) (D:DataW Value) (f:Nat→Option α):Prop:=
 (∀x:Nat,x<4294967296→Maps.has D (.int .u32 (x:Int))=(f x).isSome)∧∀x y,f x=some y→x<4294967296∧∀z,D.atKey (.int .u32 (x:Int)) z=.held (K.enc y)
def MapU (w:World) (b:Nat) (f:Nat→Option α) (n:Nat):Prop:=∃D,w.ownsMap Tryz.prog K.k (RV K.enc) b n D∧Maps.size D=n∧FnOf K D f
variable {K}
theorem wf_u32 {x:Nat} (h:x<4294967296):(Lit.int .u32 (x:Int)).wf=true:=by
 have h1:(0:Int)≤(x:Int):=Int.natCast_nonneg _
 have h2:(x:Int)<4294967296:=by omega
 simp [Lit.wf,IntKind.min,IntKind.max,IntKind.signed,IntKind.bits]
 omega
theorem key_u32 (K:MK α) {x:Nat} (h:x<4294967296):keyOf Tryz.prog K.k (.int .u32 (x:Int))=some (.int .u32 (x:Int)):=Maps.keyOf_int_mk K.hk (wf_u32 h)
theorem klit_u32 (x:Nat):WideAt.IsKeyLit (.int .u32 (x:Int)):=by simp [WideAt.IsKeyLit]
theorem lit_ne32 {x y:Nat} (h:y≠x):(Lit.int .u32 (y:Int))≠(Lit.int .u32 (x:Int)):=by
 intro e;simp at e;omega
theorem MapU.lt (h:MapU K w b f n):b<w.heap.size:=by
 obtain ⟨D,h1,_⟩:=h
 exact h1.lt
theorem MapU.upd {F:List Nat} (h:MapU K w b f n) (hu:Upd F w w') (hb:b∉F):MapU K w' b f n:=by
 obtain ⟨D,h1,h2⟩:=h
 have hlt:=h1.lt
 obtain ⟨es,clock,hb',hr⟩:=h1
 exact ⟨D,⟨es,clock,(hu.block b hlt hb).trans hb',hr⟩,h2⟩
theorem MapU.made (K:MK α) (w:World):MapU K (w.alloc (.map #[] 0)) w.heap.size (fun _=>none) 0:=
 ⟨.map [],World.ownsMap_made _ _ _ _,rfl,fun x _=>by simp [Maps.has],fun x y h=>by cases h⟩
theorem MapU.look (h:MapU K w b f n) {x:Nat} (hx:x<4294967296) :
 (Instr.lookup K.T (.map (some b)) (.int .u32 (x:Int)) true).run Tryz.prog w=.ok (.tuple #[K.enc ((f x).getD K.zero),.bool (f x).isSome]) w:=by
 obtain ⟨D,h1,h2,h3,h4⟩:=h
 obtain ⟨v,ps,hrun,hv⟩:=h1.look_ok K.keyed K.hT (K.hz w) (RV_enc K.enc K.zero) (key_u32 K hx)
 rw [hrun,h3 x hx]
 obtain ⟨y,rfl,hy⟩:=RV_inv hv
 cases hf:f x with
 |none=>
  have hn:Maps.has D (.int .u32 (x:Int))=false:=by rw [h3 x hx,hf];rfl
  rw [Maps.atKey_of_not_has hn] at hy
  simp only [Prod.mk.injEq,DataW.held.injEq] at hy
  rw [←hy.1];rfl
 |some z=>
  rw [(h4 x z hf).2] at hy
  simp only [Prod.mk.injEq,DataW.held.injEq] at hy
  rw [←hy.1];rfl
theorem MapU.look1 (h:MapU K w b f n) {x:Nat} (hx:x<4294967296) :
 (Instr.lookup K.T (.map (some b)) (.int .u32 (x:Int)) false).run Tryz.prog w=.ok (K.enc ((f x).getD K.zero)) w:=by
 obtain ⟨D,h1,h2,h3,h4⟩:=h
 obtain ⟨v,ps,hrun,hv⟩:=h1.lookup K.keyed K.hT (K.hz w) (RV_enc K.enc K.zero) (key_u32 K hx)
 rw [hrun]
 obtain ⟨y,rfl,hy⟩:=RV_inv hv
 cases hf:f x with
 |none=>
  have hn:Maps.has D (.int .u32 (x:Int))=false:=by rw [h3 x hx,hf];rfl
  rw [Maps.atKey_of_not_has hn] at hy
  simp only [Prod.mk.injEq,DataW.held.injEq] at hy
  rw [←hy.1];rfl
 |some z=>
  rw [(h4 x z hf).2] at hy
  simp only [Prod.mk.injEq,DataW.held.injEq] at hy
  rw [←hy.1];rfl
theorem MapU.len (h:MapU K w b f n) (ty:TypeId):(Builtin.len_ #[K.T] ty #[.map (some b)]).run Tryz.prog w=.ok (.int .i64 n) w:=by
 obtain ⟨D,h1,h2,_⟩:=h
 rw [h1.len K.hT ty,h2]
theorem FnOf.put {D:DataW Value} (h:FnOf K D f) (hm:IsMap D) {x:Nat} (hx:x<4294967296) (v:α):FnOf K (D.put (.int .u32 (x:Int)) (.held (K.enc v))) (fun y=>if y=x then some v else f y):=by
 refine ⟨fun y hy=>?_,fun y z hz=>?_⟩
 ·show _=(if y=x then some v else f y).isSome
  by_cases e:y=x
  ·subst e;rw [if_pos rfl,Maps.has_put_same hm (klit_u32 y)];rfl
  ·rw [if_neg e,Maps.has_put_other (lit_ne32 e),h.1 y hy]
 ·replace hz:(if y=x then some v else f y)=some z:=hz
  by_cases e:y=x
  ·subst e;rw [if_pos rfl] at hz;cases hz
   exact ⟨hx,fun z=>Maps.atKey_put_same hm (klit_u32 y) _ _⟩
  ·rw [if_neg e] at hz
   exact ⟨(h.2 y z hz).1,fun u=>by rw [Maps.atKey_put_other (lit_ne32 e),(h.2 y z hz).2]⟩
theorem FnOf.del {D:DataW Value} (h:FnOf K D f) {x:Nat}:FnOf K (D.del (.int .u32 (x:Int))) (fun y=>if y=x then none else f y):=by
 refine ⟨fun y hy=>?_,fun y z hz=>?_⟩
 ·show _=(if y=x then none else f y).isSome
  by_cases e:y=x
  ·subst e;rw [if_pos rfl,Maps.has_del_same];rfl
  ·rw [if_neg e,Maps.has_del_other (lit_ne32 e),h.1 y hy]
 ·replace hz:(if y=x then none else f y)=some z:=hz
  by_cases e:y=x
  ·subst e;rw [if_pos rfl] at hz;cases hz
  ·rw [if_neg e] at hz
   exact ⟨(h.2 y z hz).1,fun u=>by rw [Maps.atKey_del_other (lit_ne32 e),(h.2 y z hz).2]⟩
theorem grown_updU {row:Nat} (h:w.grownBy w' (some row)):Upd [row] w w':=(Upd.refl _ _).grown h fun k hk=>.inl (by simpa using hk.symm)
theorem MapU.put (h:MapU K w b f n) {x:Nat} (hx:x<4294967296) (v:α) (hn:n<maxLen) :
 ∃w',(Instr.mapUpdate K.T (.map (some b)) (.int .u32 (x:Int)) (K.enc v)).run Tryz.prog w=.ok () w'∧MapU K w' b (fun y=>if y=x then some v else f y) (if (f x).isSome then n else n+1)∧Upd [b] w w'∧w'.heap.size=w.heap.size:=by
 obtain ⟨D,h1,h2,h3⟩:=h
 have ht:=h1.tidy K.keyed
 obtain ⟨w',hrun,ho,hturn⟩:=h1.store K.keyed K.hT hn (key_u32 K hx) (RV_enc K.enc v)
 have hsz:Maps.size (D.put (.int .u32 (x:Int)) (.held (K.enc v)))=if (f x).isSome then n else n+1:=by
  rw [Maps.size_put ht,h3.1 x hx,h2]
 refine ⟨w',hrun,⟨_,?_,hsz,h3.put h1.isMap hx v⟩,grown_updU hturn.grown,?_⟩
 ·obtain ⟨es,clock,hb,F,_,hD⟩:=ho
  refine ⟨es,clock,hb,F,?_,hD⟩
  rw [←hsz,hD]
  simp [Maps.size,length_sorted]
 ·obtain ⟨es,clock,es',clock',hb,rfl⟩:=hturn
  simp [Go.ChangeMaps.setBlock]
theorem MapU.drop (h:MapU K w b f n) {x:Nat} (hx:x<4294967296) (ty:TypeId) :
 ∃w',(Builtin.delete_ #[K.T,K.k] ty #[.map (some b),.int .u32 (x:Int)]).run Tryz.prog w=.ok (.tuple #[]) w'∧MapU K w' b (fun y=>if y=x then none else f y) (if (f x).isSome then n - 1 else n)∧Upd [b] w w'∧w'.heap.size=w.heap.size:=by
 obtain ⟨D,h1,h2,h3⟩:=h
 have ht:=h1.tidy K.keyed
 obtain ⟨w',hrun,ho,hturn⟩:=h1.drop K.keyed K.hT (key_u32 K hx) ty
 have hsz:Maps.size (D.del (.int .u32 (x:Int)))=if (f x).isSome then n - 1 else n:=by
  have:=Maps.size_del (k:=.int .u32 (x:Int)) ht
  rw [h3.1 x hx,h2] at this
  split<;>simp_all<;>omega
 refine ⟨w',hrun,⟨_,?_,hsz,h3.del⟩,grown_updU hturn.grown,?_⟩
 ·obtain ⟨es,clock,hb,F,_,hD⟩:=ho
  refine ⟨es,clock,hb,F,?_,hD⟩
  rw [←hsz,hD]
  simp [Maps.size,length_sorted]
 ·obtain ⟨es,clock,es',clock',hb,rfl⟩:=hturn
  simp [Go.ChangeMaps.setBlock]
def RangeU (K:MK α) (w:World) (b r:Nat) (f:Nat→Option α) (n:Nat) (left:Nat→Bool) (cnt:Nat):Prop:=
 ∃D l',w.ranges Tryz.prog K.k (RV K.enc) b r n D l' cnt∧Maps.size D=n∧FnOf K D f∧(∀x:Nat,x<4294967296→l' (.int .u32 (x:Int))=left x)∧∀x,left x=true→x<4294967296∧(f x).isSome=true
theorem RangeU.upd {F:List Nat} {left:Nat→Bool} {cnt:Nat} (h:RangeU K w b r f n left cnt) (hu:Upd F w w') (hb:b∉F) (hr:r∉F):RangeU K w' b r f n left cnt:=by
 obtain ⟨D,l',h1,h2⟩:=h
 have l1:=h1.owns.lt
 have l2:=h1.lt
 obtain ⟨es,clock,since,seen,c0,hb',F',hs,hD,hr',rest⟩:=h1
 exact ⟨D,l',⟨es,clock,since,seen,c0,(hu.block b l1 hb).trans hb',F',hs,hD,(hu.block r l2 hr).trans hr',rest⟩,h2⟩
variable {ops:Array Oper} {rest:List Oper} {o:Oper} {a:Act} {Q:Exit→Act→World→Prop}
theorem wpList_rangeU (w:World) (hg:o.guard=none) (m:Operand) (hop:o.op=Op.range K.T m) (hm:a.eval m=.map (some b)) (h:MapU K w b f n)
 (hK:∀w',RangeU K w' b w.heap.size f n (fun x=>(f x).isSome) n→Upd [] w w'→w'.heap.size=w.heap.size+1→wpList Tryz.prog ops Q rest (a.put o.dst (.pointer (some ⟨w.heap.size,0,none⟩))) w') :
 wpList Tryz.prog ops Q (o::rest) a w:=by
 obtain ⟨D,h1,h2,h3⟩:=h
 refine wpList_range_own w hg m K.T hop K.k K.e K.keyed K.hT (RV K.enc) b n D hm h1 fun w' g1 g2 g3=>?_
 rw [h2] at g1
 exact hK w' ⟨D,_,g1,h2,h3,fun x hx=>h3.1 x hx,fun x hx=>by
  obtain ⟨y,hy⟩:=Option.isSome_iff_exists.1 hx
  exact ⟨(h3.2 x y hy).1,hx⟩⟩ ((Upd.refl _ _).grown g2 (by simp)) g3
theorem wpList_nextU (w:World) {left:Nat→Bool} {cnt:Nat} (hg:o.guard=none) (it:Operand) (hop:o.op=Op.next it false) (hit:a.eval it=.pointer (some ⟨r,0,none⟩)) (h:RangeU K w b r f n left cnt)
 (hDone:(∀x,left x=false)→wpList Tryz.prog ops Q rest (a.put o.dst (.tuple #[.bool false])) w)
 (hMore:∀(x:Nat) (y:α) (w':World) (cnt':Nat),x<4294967296→left x=true→f x=some y→RangeU K w' b r f n (fun z=>left z&&z != x) cnt'→cnt'<cnt→Upd [r] w w'→w'.heap.size=w.heap.size→
  (Instr.entry (.pointer (some ⟨r,0,none⟩))).run Tryz.prog w'=.ok (.tuple #[.int .u32 (x:Int),K.enc y]) w'→wpList Tryz.prog ops Q rest (a.put o.dst (.tuple #[.bool true,.int .u32 (x:Int),K.enc y])) w') :
 wpList Tryz.prog ops Q (o::rest) a w:=by
 obtain ⟨D,l',h1,h2,h3,h4,h5⟩:=h
 refine wpList_next_ranges w hg it hop K.k K.keyed (RV K.enc) (Value.int .u32) K.enc (fun key kl hkey=>by obtain ⟨x,rfl,_⟩:=Maps.keyOf_int_inv K.hk hkey;exact ⟨x,rfl⟩) (fun v y hv=>by obtain ⟨x,rfl,_⟩:=RV_inv hv;exact ⟨x,rfl⟩)
  b r n D l' cnt hit h1 (fun _ hl=>hDone fun x=>?_) (fun xi c kl y w' cnt' hkey hlk hv hat hrg hlt hgr hsz hen=>?_)
 ·cases hx:left x with
  |false=>rfl
  |true=>
   have:=h4 x (h5 x hx).1
   rw [hl,hx] at this
   cases this
 ·obtain ⟨x',ex,rfl,hwx⟩:=Maps.keyOf_int_inv K.hk hkey
  cases ex
  have hb:0≤xi∧xi<4294967296:=by
   simp [Lit.wf,IntKind.min,IntKind.max,IntKind.signed,IntKind.bits] at hwx
   omega
  obtain ⟨x,rfl⟩:∃x:Nat,xi=(x:Int):=⟨xi.toNat,by omega⟩
  have hx:x<4294967296:=by omega
  have hleft:left x=true:=by rw [←h4 x hx];exact hlk
  obtain ⟨z,hz⟩:=Option.isSome_iff_exists.1 (h5 x hleft).2
  obtain ⟨c',ec,hy⟩:=RV_inv hv
  have hcz:c=z:=by
   have h6:=(h3.2 x z hz).2 (.nil)
   rw [hat,hy] at h6
   simp only [DataW.held.injEq] at h6
   have:=K.inj _ _ ec
   have:=K.inj _ _ h6
   simp_all
  subst hcz
  refine hMore x c w' cnt' hx hleft hz ⟨D,_,hrg,h2,h3,fun u hu=>?_,fun u hu=>?_⟩ hlt (grown_updU hgr) hsz hen
  ·show (l' _&&!_)=(left u&&u != x)
   rw [h4 u hu]
   by_cases e:u=x
   ·subst e;rw [WideAt.sameKey_self (klit_u32 u)];simp
   ·rw [Maps.sameKey_ne (lit_ne32 e)]
    have e2:(u != x)=true:=by simpa using e
    rw [e2];rfl
  ·simp only [Bool.and_eq_true] at hu
   exact h5 u hu.1
end
theorem KL_all (cs:List Int):KL.all cs=cs.map fun x=>(.int .i64 x:Value):=by
 induction cs with
 |nil=>rfl
 |cons x cs ih=>
  rw [List.map_cons,←ih]
  rfl
theorem KB_all (cs:List Bool):KB.all cs=cs.map fun x=>(.bool x:Value):=by
 induction cs with
 |nil=>rfl
 |cons x cs ih=>
  rw [List.map_cons,←ih]
  rfl
theorem rowAt {α:Type} {K:Kind α} {w:World} {base:Nat} {A:Option Addr} {n C:Nat} {l:List α} (h:K.row w base (.slice A n C) l) {k:Nat} {x:α} (hx:l[k]? = some x) :
 ∃g,A=some ⟨g,0,none⟩∧base≤g∧(∀j u,(K.enc x)[j]? = some u→w.cell? ⟨g,k*K.sz+j,none⟩=some u)∧∀j,w.frozen? ⟨g,j,none⟩=false:=by
 obtain ⟨hk,he⟩:=List.getElem?_eq_some_iff.1 hx
 have h':w.ownsRow base K.eT K.sz (.slice A n C) l.length (K.all l):=h
 obtain ⟨g,cap,hA,hg,_⟩:=h'.form (by omega)
 cases hA
 refine ⟨g,rfl,hg,fun j u hu=>?_,fun j=>World.ownsRow.frozenAt h' j⟩
 rw [←he] at hu
 have h2:=K.all_get l k j hk u hu
 have:=World.ownsRow.cells h' (g:=g) rfl _ u h2
 rwa [addr_add,Nat.zero_add] at this
def rowL (n:Nat) (p:Nat→Bool):List Bool:=(List.range n).map p
theorem rowL_len (n:Nat) (p:Nat→Bool):(rowL n p).length=n:=by simp [rowL]
theorem rowL_get {n:Nat} {p:Nat→Bool} {i:Nat} (h:i<n):(rowL n p)[i]? = some (p i):=by
 unfold rowL;rw [List.getElem?_map,List.getElem?_range h];rfl
theorem rowL_congr {n:Nat} {p q:Nat→Bool} (h:∀i,i<n→p i=q i):rowL n p=rowL n q:=by
 unfold rowL
 exact List.map_congr_left fun i hi=>h i (List.mem_range.1 hi)
theorem rowL_set (n:Nat) (p:Nat→Bool) (k:Nat) (b:Bool):(rowL n p).set k b=rowL n (fun i=>if i=k then b else p i):=by
 refine List.ext_getElem? fun i=>?_
 rw [List.getElem?_set]
 by_cases hk:k=i
 ·subst hk
  rw [if_pos rfl]
  by_cases hn:k<n
  ·rw [if_pos (by rw [rowL_len];exact hn),rowL_get hn,if_pos rfl]
  ·rw [if_neg (by rw [rowL_len];exact hn),List.getElem?_eq_none (by rw [rowL_len];omega)]
 ·rw [if_neg hk]
  by_cases hn:i<n
  ·rw [rowL_get hn,rowL_get hn,if_neg (Ne.symm hk)]
  ·rw [List.getElem?_eq_none (by rw [rowL_len];omega),List.getElem?_eq_none (by rw [rowL_len];omega)]
theorem KB_row_made {w':World} {base g n:Nat} (h:w'.ownsRow base 4 1 (.slice (some ⟨g,0,none⟩) n n) n (madeCells #[.bool false] (n*1)).toList):KB.row w' base (.slice (some ⟨g,0,none⟩) n n) (rowL n (fun _=>false)):=by
 unfold Kind.row
 rw [rowL_len,KB_all]
 rw [Nat.mul_one,toList_madeCells_one] at h
 have e:(rowL n fun _=>false).map Value.bool=List.replicate n (.bool false):=by
  refine List.ext_getElem? fun i=>?_
  rw [List.getElem?_map,List.getElem?_replicate]
  by_cases hi:i<n
  ·rw [rowL_get hi,if_pos hi];rfl
  ·rw [List.getElem?_eq_none (by rw [rowL_len];omega),if_neg hi];rfl
 rw [e]
 exact h
theorem KB_row_stored {w:World} {base g n:Nat} {p:Nat→Bool} (h:KB.row w base (.slice (some ⟨g,0,none⟩) n n) (rowL n p)) (k:Nat) (b:Bool) :
 KB.row (w.setCell ⟨g,k,none⟩ (.bool b)) base (.slice (some ⟨g,0,none⟩) n n) (rowL n (fun i=>if i=k then b else p i)):=by
 have hl:=rowL_len n p
 have h':w.ownsRow base 4 1 (.slice (some ⟨g,0,none⟩) n n) n (KB.all (rowL n p)):=by
  have h2:=h
  unfold Kind.row at h2
  rw [hl] at h2
  exact h2
 have:=(World.ownsRow.stored h' k (.bool b)).1
 unfold Kind.row
 rw [rowL_len,←rowL_set,KB_all,List.map_set,←KB_all]
 exact this
theorem info_int64:(Tryz.prog.info? 2).map (fun i=>(i.zero,i.size,i.bytes))=some (some (.int .i64 0),1,8):=by kernel_rfl
theorem clone_int64 (s:Value) (n:Nat) (xs:List Value) (w:World) (hs:Sees w 1 s n xs) (h1:∀u∈xs,u.oneCell'=true) (hb:n*8≤140737488355328) :
 Calls Tryz.prog 97 #[s] w fun e w'=>∃A C,e=.returned (.slice A n C)∧w'.ownsRow w.heap.size 2 1 (.slice A n C) n xs∧Below w.heap.size w w':=by
 obtain ⟨i0,hi,hz0,hz1,hz2⟩:=info_parts info_int64
 have HS:=Lib.hid hs
 have H1:=Lib.hid h1;clear h1
 have HB:=Lib.hid hb;clear hb
 rcases hs.2 with ⟨rfl,rfl⟩ | ⟨b,o,sp,cap,rfl,_⟩
 ·clear hs
  have he:=fun w=>Lib.run_eql_slice_nil (P:=Tryz.prog) (w:=w) 82 2 none 0 0 0 0 Tryz.underlying82
  go_enter Tryz.func97,Tryz.ntmps97
  go_wp2
  go_ret
  have hx:xs = []:=List.eq_nil_of_length_eq_zero (by simpa using HS.out.1)
  subst hx
  exact ⟨_,_,rfl,World.ownsRow_nil _ _ _ _,Below.refl _ _⟩
 ·clear hs
  have he:=fun w=>Lib.run_eql_slice_nil (P:=Tryz.prog) (w:=w) 82 2 (some ⟨b,o,sp⟩) n cap 0 0 Tryz.underlying82
  go_enter Tryz.func97,Tryz.ntmps97
  go_wp2_with (at_builtin;refine wpList_app _ rfl _ _ 82 rfl w.heap.size 2 i0 (.int .i64 0) 1 8 Tryz.underlying82 hi hz0 hz1 hz2 rfl (by decide) _ 0 [] rfl (World.ownsRow_made w #[] 0 (Nat.le_refl _) (by decide) rfl) _ n xs rfl (sees_upd HS.out ((Upd.refl [] w).alloc _) (by simp)) H1.out (by have:=HB.out;unfold maxLen;omega) (by have:=HB.out;omega) (by simp) ?_)
  intro A C w1 HP
  have HU:=HP.upd
  have hb1:Below w.heap.size w w1:=(((Upd.refl [] w).alloc _).trans' HU (fun k hk=>by simp [blk] at hk;omega)).below
  have hown:w1.ownsRow w.heap.size 2 1 (.slice A n C) n xs:=by simpa using HP.own
  clear he
  go_wp2
  go_ret
  exact ⟨_,_,rfl,hown,hb1⟩
end Go.Proofs.YtkmnbodlciepaaaGreat
