/- Spans: how they lie in memory; are they right; the names of those that a number stabs. What -/
import Derived.Test.YtkbaaonchdeneaaGreatPb14
import Derived.Test.YtkbaaonchdeneaaGreatPb9
set_option maxHeartbeats 4000000
set_option maxRecDepth 100000
namespace Go.Proofs.YtkbaaonchdeneaaGreat
open Go.RowKit
def KR (s:Sp):Value:=.agg #[.int .i64 s.lo,.int .i64 s.hi,.int .u32 (s.id:Int)]
def Dt:Kind Sp:={ T:=0,sT:=56,eT:=62,sz:=3,enc:=fun p=>[.int .i64 p.lo,.int .i64 p.hi,.int .u32 (p.id:Int)],len:=fun _=>rfl,one:=fun b u hu=>by simp at hu;rcases hu with rfl | rfl | rfl<;>rfl }
def MKI:MK Nat:={ T:=60,k:=26,e:=3,enc:=fun n=>.int .i64 (n:Int),zero:=0,hT:=Tryz.underlying60,hk:=Tryz.underlying26,hz:=fun w=>(by kernel_rfl),inj:=fun x y h=>by simp at h;omega }
def RN (l:List Sp):Bool:=l.all (fun s=>decide (s.lo≤s.hi))&&decide ((l.map Sp.id).Nodup)
theorem Oq {l:List Sp}:RN l=true↔(∀s∈l,s.lo≤s.hi)∧(l.map Sp.id).Nodup:=by
 unfold RN;simp
structure jd (l:List Sp) (k:Nat) (f:Nat→Option Nat) (n:Nat):Prop where
 has:∀x:Nat,(f x).isSome=true↔x∈(l.take k).map Sp.id
 le:n≤k
 eq:n=k↔((l.take k).map Sp.id).Nodup
theorem jd.start (l:List Sp):jd l 0 (fun _=>none) 0:=⟨by simp,Nat.le_refl _,by simp⟩
theorem jd.step {l:List Sp} {k:Nat} {f:Nat→Option Nat} {n:Nat} (h:jd l k f n) {s:Sp} (hs:l[k]? = some s) (v:Nat) :
 jd l (k+1) (fun y=>if y=s.id then some v else f y) (if (f s.id).isSome then n else n+1):=by
 obtain ⟨h1,h2⟩:=AV hs;have e:(l.take (k+1)).map Sp.id=(l.take k).map Sp.id++[s.id]:=by rw [AZ h1,h2,List.map_append];rfl
 have hle:=h.le;have heq:=h.eq;have hin:=h.has s.id;refine ⟨fun x=>?_,?_,?_⟩
 ·rw [e,List.mem_append];by_cases hx:x=s.id
  ·simp [hx]
  ·have:=h.has x;simp [hx] at this ⊢;exact this
 ·split<;>omega
 ·rw [e,List.nodup_append];by_cases hf:(f s.id).isSome=true
  ·rw [if_pos hf];have:=hin.1 hf;constructor
   ·intro hc;omega
   ·rintro ⟨-,-,hc⟩;exact absurd rfl (hc _ this _ (by simp))
  ·rw [if_neg hf];have hni:s.id∉(l.take k).map Sp.id:=fun hc=>hf (hin.2 hc)
   constructor
   ·intro hc;refine ⟨heq.1 (by omega),by simp,?_⟩
    intro a ha b hb hab;simp at hb;subst hb;exact hni (hab ▸ ha)
   ·rintro ⟨hc,-,-⟩;have:=heq.2 hc;omega
theorem je (s:Sp) (w:World):Calls Tryz.prog 82 #[KR s] w fun e w'=>e=.returned (.bool (decide (s.lo≤s.hi)))∧Bf [] w w':=by
 unfold KR;go_enter Tryz.func82,Tryz.ntmps82
 go_wp2_with fail
 go_ret
 exact ⟨rfl,(Bf.refl _ _).alloc _⟩
def JI (l:List Sp):List Int:=l.flatMap fun s=>[s.lo,s.hi]
def Vr (l:List Sp):List Int:=Dv (JI l)
theorem UN (l:List Sp):(JI l).length=2*l.length:=by
 induction l with
 |nil=>rfl
 |cons s l ih=>
  have e:JI (s::l) = [s.lo,s.hi]++JI l:=by simp [JI]
  rw [e,AY,ih,List.length_cons];simp;omega
theorem pO (a b:List Sp):JI (a++b)=JI a++JI b:=by simp [JI]
theorem pR (l:List Sp):(Vr l).length≤2*l.length:=by
 have:=J5 (JI l);rw [UN] at this;exact this
theorem jf (l:List Sp):(Vr l).Pairwise (· < ·):=Px _
instance b1X:DecidableEq Sp:=fun a b=>if h:a.lo=b.lo∧a.hi=b.hi∧a.id=b.id then isTrue (by cases a;cases b;simp_all) else isFalse (fun e=>h (by rw [e];exact ⟨rfl,rfl,rfl⟩))
def without (S:List Sp) (x:Sp):List Sp:=S.filter fun s=>decide (s≠x)
theorem Md {S:List Sp} {x:Sp} (h:x∉S):without S x=S:=by
 unfold without;rw [List.filter_eq_self];intro s hs;simp only [decide_eq_true_eq];rintro rfl;exact h hs
theorem Xe {S:List Sp} (h:(S.map Sp.id).Nodup):S.Nodup:=by
 induction S with
 |nil=>exact List.nodup_nil
 |cons s S ih=>
  rw [List.map_cons,List.nodup_cons] at h;exact List.nodup_cons.2 ⟨fun hc=>h.1 (List.mem_map_of_mem hc),ih h.2⟩
theorem OM {l:List Sp} (h:l.Nodup):∀{i:Nat} {x:Sp},l[i]? = some x→l.eraseIdx i=l.filter fun s=>decide (s≠x):=by
 induction l with
 |nil=>intro i x hx;simp at hx
 |cons a l ih=>
  intro i x hx;rw [List.nodup_cons] at h
  cases i with
  |zero=>
   simp at hx;subst hx;rw [List.eraseIdx_zero,List.tail_cons,List.filter_cons,if_neg (by simp)];symm
   rw [List.filter_eq_self];intro s hs;simp only [decide_eq_true_eq];rintro rfl;exact h.1 hs
  |succ i=>
   have hx':l[i]? = some x:=by simpa using hx
   have hne:a≠x:=fun e=>h.1 (by rw [e];exact List.mem_of_getElem? hx')
   rw [List.eraseIdx_cons_succ,ih h.2 hx',List.filter_cons,if_pos (by simpa using hne)]
theorem a5Z (a b:Sp) (w:World):(binOp .eql 62 (KR a) (KR b)).run Tryz.prog w=.ok (.bool (decide (a=b))) w:=by
 unfold KR;rw [run_eql_struct,run_equalIn_agg _ _ _ _ _ (by kernel_rfl) (by kernel_rfl)];go_simp
 obtain ⟨a1,a2,a3⟩:=a;obtain ⟨b1,b2,b3⟩:=b;by_cases h1:a1=b1<;>by_cases h2:a2=b2<;>by_cases h3:a3=b3<;>simp_all<;>omega
theorem Py {l m:List Nat} (h:l.Perm m):GZ l=GZ m:=bW ((KO l).trans h) (bV l)
def EU (S:List Sp) (x:Int):List Nat:=GZ ((S.filter fun s=>JY s.lo s.hi x).map Sp.id)
theorem pU (S:List Sp) (x:Int):(EU S x).length≤S.length:=by
 unfold EU;rw [Hl,List.length_map];exact List.length_filter_le _ _
theorem KU.atS {w:World} {A:Option Addr} {n C:Nat} {l:List Nat} (h:See KU w (.slice A n C) l) {k:Nat} {x:Nat} (hx:l[k]? = some x) :
 ∃b o,A=some ⟨b,o,none⟩∧n≤C∧C≤maxLen∧w.cell? ⟨b,o+k,none⟩=some (.int .u32 (x:Int)):=by
 obtain ⟨b,o,h1,h2,h3,h4⟩:=h.at hx;have:=h4 0 _ rfl;exact ⟨b,o,h1,h2,h3,by simpa [KU] using this⟩
theorem jg {l m:List Sp} (h:l.Perm m) (x:Int):EU l x=EU m x:=Py ((h.filter _).map Sp.id)
theorem Xf:(Tryz.prog.info? 26).map (fun i=>(i.zero,i.size,i.bytes))=some (some (.int .u32 0),1,4):=by kernel_rfl
def Xg (w:World) (L:List Nat) (t:Nat) (e:Ending) (w':World):Prop:=∃A C,e=.returned (.tuple #[.slice A L.length C,.int .i64 (t:Int)])∧KU.row w' w.heap.size (.slice A L.length C) L∧Bf [] w w'
section
variable {P:Program} (w:World)
theorem Yu (base:Nat) (t ty e:TypeId) (i:TypeInfo) (size:Nat) (ht:P.underlying t=some (.slice e)) (hi:P.info? e=some i) (hsize:i.size=size)
 (g n cap:Nat) (xs:List Value) (hown:w.ownsRow base e size (.slice (some ⟨g,0,none⟩) n cap) n xs)
 (x:Value) (m:Nat) (news:List Value) (hx:Ed w size x m news) (h1:∀u∈news,u.oneCell'=true) (hroom:n+m≤cap) :
 ∃w',(Builtin.append_ #[t,t] ty #[.slice (some ⟨g,0,none⟩) n cap,x]).run P w=.ok (.slice (some ⟨g,0,none⟩) (n+m) cap) w'∧
  w'.ownsRow base e size (.slice (some ⟨g,0,none⟩) (n+m) cap) (n+m) (xs++news)∧w.grownBy w' (some g):=by
 rcases hx.2 with ⟨rfl,rfl⟩ | ⟨b,o,s,c,rfl,h3,h4,h5,h6⟩
 ·have hn:news = []:=List.eq_nil_of_length_eq_zero (by simpa using hx.1);subst hn;subst hsize;have hr:=run_append_owned_none (P:=P) (w:=w) base t ty e i i.size ht hi _ n xs hown;exact ⟨w,by simpa using hr,by simpa using hown,⟨rfl,rfl,rfl,Nat.le_refl _,fun _ _ _=>rfl⟩⟩
 ·refine run_append_fits (P:=P) w base t ty e i size ht hi hsize g n cap xs hown ⟨b,o,s⟩ m c news hx.1 (fun j u hu=>?_) h1 hroom
  have hm:0<m:=by
   rcases Nat.eq_zero_or_pos m with h0 | h0
   ·subst h0;have hx0:news = []:=List.eq_nil_of_length_eq_zero (by simpa using hx.1);subst hx0;simp at hu
   ·exact h0
  have hs:=h3 (by omega);subst hs;rw [addr_add];exact h6 j u hu
theorem Xh {ops:Array Oper} {o:Oper} {a:Act} {K:Act→World→Prop} {Q:Exit→Act→World→Prop} {E:Prop} (hgd:o.guard=none) (s x:Operand) (t:TypeId)
 (ho:o.op=.call { callee:=.builtin .append,args:=#[s,x],argTypes:=#[t,t] })
 (base:Nat) (e:TypeId) (i:TypeInfo) (size:Nat) (ht:P.underlying t=some (.slice e)) (hi:P.info? e=some i) (hsize:i.size=size)
 (g n cap:Nat) (xs:List Value) (hs:a.eval s=.slice (some ⟨g,0,none⟩) n cap) (hown:w.ownsRow base e size (.slice (some ⟨g,0,none⟩) n cap) n xs)
 (vx:Value) (m:Nat) (news:List Value) (hx:a.eval x=vx) (FD:Ed w size vx m news) (h1:∀u∈news,u.oneCell'=true) (hroom:n+m≤cap)
 (h:∀w',w'.ownsRow base e size (.slice (some ⟨g,0,none⟩) (n+m) cap) (n+m) (xs++news)→Bf [g] w w'→K (a.put o.dst (.slice (some ⟨g,0,none⟩) (n+m) cap)) w') :
 if Region.wanted o (yielded ops a.tmps)=true then Oper.wp P o a w K Q else E:=by
 have hw:Region.wanted o (yielded ops a.tmps)=true:=by simp [Region.wanted,hgd]
 rw [if_pos hw];obtain ⟨w',hr,h2,h3⟩:=Yu (P:=P) w base t o.type e i size ht hi hsize g n cap xs hown vx m news FD h1 hroom;unfold Oper.wp execOp;simp only [ho,resolve,invoke,builtin,Sem.run_bind,Sem.run_pure,Result.andThen_ok,List.map_toArray,List.map_cons,List.map_nil,hs,hx,hr];exact h w' h2 ((Bf.refl _ _).grown h3 fun k hk=>.inl (by simpa using hk.symm))
end
section
variable {P:Program} {w:World} {base:Nat} {e:TypeId} {size g n C:Nat} {xs:List Value}
theorem Xi (h:w.ownsRow base e size (.slice (some ⟨g,0,none⟩) n C) n xs) (j:Nat) (u:Value) (hj:n*size≤j):(w.setCell ⟨g,j,none⟩ u).ownsRow base e size (.slice (some ⟨g,0,none⟩) n C) n xs:=by
 have:=(World.ownsRow.stored h j u).1;rwa [List.set_eq_of_length_le (by rw [h.1];exact hj)] at this
theorem Ii:∀(l:List Value) (w:World) (j:Nat),w.ownsRow base e size (.slice (some ⟨g,0,none⟩) n C) n xs→n*size≤j→(w.setCells g j l).ownsRow base e size (.slice (some ⟨g,0,none⟩) n C) n xs
 | [],_,_,h,_=>h
 |v::l,w,j,h,hj=>Ii l (w.setCell ⟨g,j,none⟩ v) (j+1) (Xi h j v hj) (by omega)
theorem Pz:∀(l:List Value) (w:World) (j:Nat),Bf [g] w (w.setCells g j l)
 | [],_,_=>Bf.refl _ _
 |v::l,w,j=>((Bf.refl [g] w).setCell (p:=⟨g,j,none⟩) (.inl (by simp)) v).trans (Pz l _ (j+1))
theorem MQ (w:World) (t e ty:TypeId) (z:Value) (ht:P.underlying t=some (.slice e)) (hv:∀w,(zeroValue e).run P w=.ok z w) (hk:z.cells.size=size) (h1:∀u∈z.cells.toList,u.oneCell'=true) (hsz:0<size) (b o n c:Nat) (hn:0<n)
 (hc:∀j,j<n*size→(w.cell? ⟨b,o+j,none⟩).isSome=true) (hf:∀j,j<n*size→w.frozen? ⟨b,o+j,none⟩=false) :
 (Builtin.clear_ #[t] ty #[.slice (some ⟨b,o,none⟩) n c]).run P w=.ok (.tuple #[]) (w.setCells b o (Builtin.zeroCells z.cells n).toList):=by
 have hlen:(Builtin.zeroCells z.cells n).toList.length=n*size:=by simp [Builtin.zeroCells,hk]
 have hone:∀v∈(Builtin.zeroCells z.cells n).toList,v.oneCell'=true:=by
  intro v hv';simp only [Builtin.zeroCells,Array.toList_map,List.mem_map] at hv';obtain ⟨i,_,rfl⟩:=hv';refine h1 _ ?_
  have:i % z.cells.size<z.cells.size:=Nat.mod_lt _ (by omega);rw [getElem!_pos z.cells (i % z.cells.size) this];exact Array.getElem_mem_toList this
 have hst:=run_storeCells_cells (P:=P) b o (Builtin.zeroCells z.cells n).toList 0 w (by rw [hlen];simpa using hc) (by rw [hlen];simpa using hf) hone;simp only [Nat.add_zero] at hst;obtain ⟨m,rfl⟩:∃m,n=m+1:=⟨n - 1,by omega⟩;simp [Builtin.clear_,run_underlying ht,hv,hst]
theorem IW (h:w.ownsRow base e size (.slice (some ⟨g,0,none⟩) n C) n xs) (j:Nat) (hj:j<C*size):(w.cell? ⟨g,j,none⟩).isSome=true∧w.frozen? ⟨g,j,none⟩=false:=by
 rcases h.2 with ⟨h2,_⟩ | ⟨g',cap,cur,h2,h3,h4,h5,h6,h7,h8⟩
 ·cases h2
 ·cases h2
  refine ⟨?_,World.ownsRow.frozenAt h j⟩
  have hlt:j<cur.size:=by omega
  simp [World.cell?,h4,hlt]
theorem pV {t e:TypeId} {i:TypeInfo} (ht:P.underlying t=some (.slice e)) (hi:P.info? e=some i) (g n C k:Nat) (hk:k+1≤n) (hn:n≤C) :
 ∃v,∀w,(Instr.slice t (.slice (some ⟨g,0,none⟩) n C) (some (.int .i64 (k:Int))) (some (.int .i64 ((k:Int)+1))) (some (.int .i64 (n:Int)))).run P w=.ok v w:=by
 have hel:P.elem t=e:=by simp [Program.elem,ht]
 refine ⟨sliced (some ⟨g,0,none⟩) k (k+1) n i.size,fun w=>?_⟩
 rw [run_slice_lhm w t (some ⟨g,0,none⟩) n C (Ju ht) .i64 .i64 .i64 _ _ _ (by omega) (by omega) (by omega) (by omega)];simp [hel,sizeOf,typeInfo,hi]
theorem jh {t e:TypeId} {i:TypeInfo} (ht:P.underlying t=some (.slice e)) (hi:P.info? e=some i) (hsize:i.size=size) (g n C k:Nat) (hk:n<k) (hn:k≤C) (w:World) :
 (Instr.slice t (.slice (some ⟨g,0,none⟩) n C) (some (.int .i64 (n:Int))) (some (.int .i64 (k:Int))) none).run P w=.ok (.slice (some ⟨g,n*size,none⟩) (k - n) (C - n)) w:=by
 subst hsize;have hel:P.elem t=e:=by simp [Program.elem,ht]
 rw [run_slice_lh w t (some ⟨g,0,none⟩) n C (Ju ht) .i64 .i64 _ _ (by omega) (by omega) (by omega)];have hne:¬C=n:=by omega
 simp [hel,sizeOf,typeInfo,hi,sliced,addr_add,hne]
end
theorem QD:(Tryz.prog.info? 62).map (fun i=>(i.zero,i.size,i.bytes))=some (some (.agg #[.int .i64 0,.int .i64 0,.int .u32 0]),3,24):=by kernel_rfl
theorem YQ:∀w,(zeroValue 62).run Tryz.prog w=.ok (.agg #[.int .i64 0,.int .i64 0,.int .u32 0]) w:=fun w=>(by kernel_rfl)
theorem vw (l:List Sp) (k:Nat):Dt.all (l.drop k)=(Dt.all l).drop (k*3):=Dt.Nc l k
end Go.Proofs.YtkbaaonchdeneaaGreat
namespace Go.Proofs.YtkbaaonchdeneaaGreat
inductive Kn where
 |nil:Kn
 |node (m:Int) (b2b b1Y:List Sp) (l r:Kn):Kn
def EW (m:Int) (S:List Sp):List Sp:=S.filter fun s=>decide (s.hi<m)
def EX (m:Int) (S:List Sp):List Sp:=S.filter fun s=>!decide (s.hi<m)&&decide (m<s.lo)
def EY (m:Int) (S:List Sp):List Sp:=S.filter fun s=>!decide (s.hi<m)&&!decide (m<s.lo)
def Kn.depth:Kn→Nat
 |.nil=>0
 |.node _ _ _ l r=>1+max l.depth r.depth
def Kn.ok:Kn→List Sp→Prop
 |.nil,S=>S = []
 |.node m lo hi l r,S=>(lo.Perm (EY m S)∧lo.Pairwise (fun a b=>a.lo≤b.lo))∧(hi.Perm (EY m S)∧hi.Pairwise (fun a b=>b.hi≤a.hi))∧l.ok (EW m S)∧r.ok (EX m S)
def cO (x m:Int) (lo hi:List Sp):List Sp:=if m<x then hi else lo
def hasK (x m:Int) (s:Sp):Bool:=if m<x then decide (x≤s.hi) else decide (s.lo≤x)
def EZ (x m:Int) (lo hi:List Sp):List Sp:=(cO x m lo hi).takeWhile (hasK x m)
def Kn.Ho (x:Int):Kn→List Sp
 |.nil=>[]
 |.node m lo hi l r=>EZ x m lo hi++(if x<m then l.Ho x else if m<x then r.Ho x else [])
def FZ (x m:Int) (lo hi:List Sp):Nat:=(EZ x m lo hi).length+(if (EZ x m lo hi).length<(cO x m lo hi).length then 1 else 0)
def Kn.touch (x:Int):Kn→Nat
 |.nil=>0
 |.node m lo hi l r=>1+FZ x m lo hi+(if x<m then l.touch x else if m<x then r.touch x else 0)
def Kn.drop (x:Sp):Kn→Kn
 |.nil=>.nil
 |.node m lo hi l r=>if x.hi<m then .node m lo hi (l.drop x) r else if m<x.lo then .node m lo hi l (r.drop x) else .node m (without lo x) (without hi x) l r
theorem vC {α:Type} (p q:α→Bool):∀S:List α,((S.filter fun s=>!p s&&!q s)++(S.filter p++S.filter fun s=>!p s&&q s)).Perm S
 | []=>by simp
 |a::S=>by
  have ih:=vC p q S
  cases hp:p a<;>cases hq:q a
  ·simp only [List.filter_cons,hp,hq,Bool.not_false,Bool.and_self,if_true,Bool.false_eq_true,if_false,Bool.and_false];exact List.Perm.cons a ih
  ·simp only [List.filter_cons,hp,hq,Bool.not_false,Bool.not_true,Bool.and_self,if_true,Bool.false_eq_true,if_false,Bool.and_false];rw [←List.append_assoc];refine List.perm_middle.trans ?_
   rw [List.append_assoc];exact List.Perm.cons a ih
  ·simp only [List.filter_cons,hp,hq,Bool.not_false,Bool.not_true,Bool.and_self,if_true,Bool.false_eq_true,if_false,Bool.false_and];rw [List.cons_append];refine List.perm_middle.trans ?_
   exact List.Perm.cons a ih
  ·simp only [List.filter_cons,hp,hq,Bool.not_true,Bool.and_self,if_true,Bool.false_eq_true,if_false,Bool.and_true];rw [List.cons_append];refine List.perm_middle.trans ?_
   exact List.Perm.cons a ih
theorem ji (m:Int) (S:List Sp):(EY m S++(EW m S++EX m S)).Perm S:=vC (fun s:Sp=>decide (s.hi<m)) (fun s:Sp=>decide (m<s.lo)) S
theorem takeWhile_filter {α:Type} {p:α→Bool}:∀{l:List α},l.Pairwise (fun a b=>p b=true→p a=true)→l.takeWhile p=l.filter p
 | [],_=>rfl
 |a::l,h=>by
  rw [List.pairwise_cons] at h;by_cases hp:p a=true
  ·rw [List.takeWhile_cons_of_pos hp,List.filter_cons_of_pos hp,takeWhile_filter h.2]
  ·rw [List.takeWhile_cons_of_neg hp,List.filter_cons_of_neg hp];symm
   rw [List.filter_eq_nil_iff];intro b hb hc;exact hp (h.1 b hb hc)
theorem jk {x m:Int} {lo hi S:List Sp} (h1:lo.Perm (EY m S)) (h2:lo.Pairwise (fun a b=>a.lo≤b.lo)) (h3:hi.Perm (EY m S)) (h4:hi.Pairwise (fun a b=>b.hi≤a.hi)) :
 (EZ x m lo hi).Perm ((EY m S).filter fun s=>JY s.lo s.hi x):=by
 have hin:∀s∈EY m S,m≤s.hi∧s.lo≤m:=fun s hs=>by
  unfold EY at hs;simp at hs;exact hs.2
 have e:∀s∈EY m S,hasK x m s=JY s.lo s.hi x:=fun s hs=>by
  have:=hin s hs;unfold hasK JY;split
  ·have h5:s.lo≤x:=by omega
   simp [h5]
  ·have h5:x≤s.hi:=by omega
   simp [h5]
 unfold EZ cO;split
 ·rename_i hx
  rw [takeWhile_filter (h4.imp (by intro a b hab hb;unfold hasK at hb ⊢;rw [if_pos hx] at hb ⊢;simp at hb ⊢;omega))];refine (h3.filter _).trans (List.Perm.of_eq (List.filter_congr e))
 ·rename_i hx
  rw [takeWhile_filter (h2.imp (by intro a b hab hb;unfold hasK at hb ⊢;rw [if_neg hx] at hb ⊢;simp at hb ⊢;omega))];exact (h1.filter _).trans (List.Perm.of_eq (List.filter_congr e))
theorem PD {x:Int}:∀{T:Kn} {S:List Sp},T.ok S→(∀s∈S,s.lo≤s.hi)→(T.Ho x).Perm (S.filter fun s=>JY s.lo s.hi x)
 |.nil,S,h,_=>by
  have:S = []:=h;subst this;exact List.Perm.refl _
 |.node m lo hi l r,S,h,hr=>by
  obtain ⟨⟨h1,h2⟩,⟨h3,h4⟩,h5,h6⟩:=h;have ihl:=PD (x:=x) h5 (fun s hs=>hr s (List.mem_filter.1 hs).1);have ihr:=PD (x:=x) h6 (fun s hs=>hr s (List.mem_filter.1 hs).1);have hp:=jk (x:=x) h1 h2 h3 h4;have hS:=((ji m S).filter fun s=>JY s.lo s.hi x).symm;rw [List.filter_append,List.filter_append] at hS;refine List.Perm.trans ?_ hS.symm
  have nl:¬x<m→(EW m S).filter (fun s=>JY s.lo s.hi x) = []:=fun hx=>by
   rw [List.filter_eq_nil_iff];intro s hs hc;unfold EW at hs;unfold JY at hc;simp at hs hc;omega
  have nr:¬m<x→(EX m S).filter (fun s=>JY s.lo s.hi x) = []:=fun hx=>by
   rw [List.filter_eq_nil_iff];intro s hs hc;unfold EX at hs;unfold JY at hc;simp at hs hc;omega
  show (EZ x m lo hi++(if x<m then l.Ho x else if m<x then r.Ho x else [])).Perm _
  refine List.Perm.append hp ?_
  by_cases c1:x<m
  ·rw [if_pos c1,nr (by omega),List.append_nil];exact ihl
  ·rw [if_neg c1,nl c1,List.nil_append];by_cases c2:m<x
   ·rw [if_pos c2];exact ihr
   ·rw [if_neg c2,nr c2]
theorem RP (x:Int):∀T:Kn,(T.Ho x).length≤T.touch x∧T.touch x≤2*T.depth+(T.Ho x).length
 |.nil=>by simp [Kn.Ho,Kn.touch,Kn.depth]
 |.node m lo hi l r=>by
  have hl:=RP x l;have hr:=RP x r;simp only [Kn.Ho,Kn.touch,Kn.depth,AY];unfold FZ;have e:(if (EZ x m lo hi).length<(cO x m lo hi).length then 1 else 0)≤1:=by split<;>omega
  split
  ·omega
  ·split
   ·omega
   ·simp only [List.length_nil];omega
theorem PE (m:Int) (S:List Sp) (x:Sp):EY m (without S x)=without (EY m S) x:=by
 unfold EY without;rw [List.filter_filter,List.filter_filter];exact List.filter_congr fun s _=>Bool.and_comm _ _
theorem Ot (m:Int) (S:List Sp) (x:Sp):EW m (without S x)=without (EW m S) x:=by
 unfold EW without;rw [List.filter_filter,List.filter_filter];exact List.filter_congr fun s _=>Bool.and_comm _ _
theorem Ou (m:Int) (S:List Sp) (x:Sp):EX m (without S x)=without (EX m S) x:=by
 unfold EX without;rw [List.filter_filter,List.filter_filter];exact List.filter_congr fun s _=>Bool.and_comm _ _
theorem Tq {l m:List Sp} (h:l.Perm m) (x:Sp):(without l x).Perm (without m x):=h.filter _
theorem Zy {x:Sp} (hx:x.lo≤x.hi):∀{T:Kn} {S:List Sp},T.ok S→(T.drop x).ok (without S x)
 |.nil,S,h=>by
  have:S = []:=h;subst this;exact rfl
 |.node m lo hi l r,S,h=>by
  obtain ⟨⟨h1,h2⟩,⟨h3,h4⟩,h5,h6⟩:=h;have nm:x.hi<m∨m<x.lo→without (EY m S) x=EY m S:=fun hc=>Md (by unfold EY;simp;omega)
  have nl:¬x.hi<m→without (EW m S) x=EW m S:=fun hc=>Md (by unfold EW;simp;omega)
  have nr:¬m<x.lo→without (EX m S) x=EX m S:=fun hc=>Md (by unfold EX;simp;omega)
  unfold Kn.drop;by_cases c1:x.hi<m
  ·rw [if_pos c1];unfold Kn.ok;rw [PE,nm (.inl c1),Ot,Ou,nr (by omega)];exact ⟨⟨h1,h2⟩,⟨h3,h4⟩,Zy hx h5,h6⟩
  ·rw [if_neg c1];by_cases c2:m<x.lo
   ·rw [if_pos c2];unfold Kn.ok;rw [PE,nm (.inr c2),Ot,Ou,nl c1];exact ⟨⟨h1,h2⟩,⟨h3,h4⟩,h5,Zy hx h6⟩
   ·rw [if_neg c2];unfold Kn.ok;rw [PE,Ot,Ou,nl c1,nr c2];exact ⟨⟨Tq h1 x,h2.filter _⟩,⟨Tq h3 x,h4.filter _⟩,h5,h6⟩
theorem RQ (x:Sp):∀T:Kn,(T.drop x).depth=T.depth
 |.nil=>rfl
 |.node m lo hi l r=>by
  unfold Kn.drop;split
  ·simp only [Kn.depth,RQ x l]
  ·split
   ·simp only [Kn.depth,RQ x r]
   ·rfl
theorem Jg {n:Nat} (h:0<n) {k:Nat} (hk:2*k≤n):BA k+1≤BA n:=by
 have h1:=D7 n;have hb:0<BA n:=by unfold BA;rw [if_neg (by omega)];omega
 have h2:2 ^ BA n=2*2 ^ (BA n - 1):=by rw [←Nat.pow_succ'];congr 1;omega
 have:=CQ k (BA n - 1) (by omega);omega
open Go.RowKit
theorem vF (v:Value) (l:List Sp) (w:World) (h:See Dt w v l) (hid:∀s∈l,s.id<4294967296) (hl:l.length<1000000) :
 Calls Tryz.prog 169 #[v] w fun e w'=>e=.returned (.bool (RN l))∧Bf [] w w':=by
 obtain ⟨A,C,rfl⟩:=h.form;obtain ⟨N,hN⟩:=AO l.length;have hm0:=MapU.made MKI w;have hu0:Bf [] w (w.alloc (.map #[] 0)):=(Bf.refl _ _).alloc _;have hsz:w.heap.size<(w.alloc (.map #[] 0)).heap.size:=by simp
 have H:=AQ h;have HN:=AQ hN;have HI:=AQ hid;have HM0:=AQ hm0;have ET:=AQ hu0;rw [hN] at hl ⊢;clear h hN hid hm0 hu0;have hmm:=@run_makeMap Tryz.prog;go_enter Tryz.func169,Tryz.ntmps169
 go_upto_region 2 with fail
 clear hmm;generalize w.alloc (.map #[] 0)=W0 at HM0 ET hsz ⊢;go_wp2_with fail
 go_loopg [9] N (fun m s9 wr=>∃(k n:Nat) (f:Nat→Option Nat),m+k=N∧s9=.int .i64 (k:Int)∧MapU MKI wr w.heap.size f n∧jd l k f n∧(∀s∈l.take k,s.lo≤s.hi)∧Bf [w.heap.size] W0 wr)
 case atStart=>exact ⟨0,0,_,rfl,rfl,HM0.out,jd.start l,by simp,Bf.refl _ _⟩
 case round=>
  obtain ⟨k,n,f,hk,rfl,hm,hc,iU,hup⟩:=hrel;have k0:(0:Int)≤(k:Int):=AU _;have hkN:k≤N:=by omega
  have HK:=AQ hk;have HM:=AQ hm;have HC:=AQ hc;have HR:=AQ iU;have HU:=AQ hup;clear hk hm hc iU hup;by_cases hlt:k<N
  ·obtain ⟨s,hs⟩:∃s,l[k]? = some s:=⟨_,AX (by rw [HN.out];exact hlt)⟩;have hw1:Bf [] w wr:=ET.out.trans' HU.out (fun x hx=>.inr (by simp at hx;omega));have hse:See Dt wr (.slice A l.length C) l:=H.out.Bh hw1;have a6a:=HI.out s (List.mem_of_getElem? hs);have hcs:=HC.out.step hs k;obtain ⟨lo,hi,id⟩:=s;obtain ⟨g,o,rfl,-,-,ey⟩:=hse.at hs;have y0:wr.cell? ⟨g,o+k*3,none⟩=some (.int .i64 lo):=ey 0 _ rfl;have y1:wr.cell? ⟨g,o+k*3+1,none⟩=some (.int .i64 hi):=ey 1 _ rfl;have y2:wr.cell? ⟨g,o+k*3+2,none⟩=some (.int .u32 (id:Int)):=ey 2 _ rfl;have b1:(k:Int)<(N:Int):=by omega
   have hnb:n≤k:=HC.out.le;have hwz:=HU.out.size;have HS:=Aj hs hcs hw1;clear hs hcs hw1 hse ey;dsimp only at a6a;obtain ⟨wl,hwl⟩:∃wl:World,wl=wr:=⟨_,rfl⟩;subst hwl;go_upto_region 5 with fail
   have hu2:Bf [] wl (wl.alloc (.cells #[.int .i64 lo,.int .i64 hi,.int .u32 (id:Int)] 62)):=(Bf.refl _ _).alloc _;have hz2:wl.heap.size<(wl.alloc (.cells #[.int .i64 lo,.int .i64 hi,.int .u32 (id:Int)] 62)).heap.size:=by simp
   have d0:(wl.alloc (.cells #[.int .i64 lo,.int .i64 hi,.int .u32 (id:Int)] 62)).cell? ⟨wl.heap.size,0,none⟩=some (.int .i64 lo):=by rw [World.cell?_alloc_at _ _ _ _ rfl];rfl
   have d1:(wl.alloc (.cells #[.int .i64 lo,.int .i64 hi,.int .u32 (id:Int)] 62)).cell? ⟨wl.heap.size,1,none⟩=some (.int .i64 hi):=by rw [World.cell?_alloc_at _ _ _ _ rfl];rfl
   have d2:(wl.alloc (.cells #[.int .i64 lo,.int .i64 hi,.int .u32 (id:Int)] 62)).cell? ⟨wl.heap.size,2,none⟩=some (.int .u32 (id:Int)):=by rw [World.cell?_alloc_at _ _ _ _ rfl];rfl
   have hm2:=HM.out.upd hu2 (by simp);generalize (wl.alloc (.cells #[.int .i64 lo,.int .i64 hi,.int .u32 (id:Int)] 62))=W2 at hu2 hz2 d0 d1 d2 hm2 ⊢;obtain ⟨w5,hput,tN,GR,hz5⟩:=hm2.put a6a k (by unfold maxLen;omega);have hne:(wl.heap.size:Nat)∉[w.heap.size]:=by simp;omega
   have e0:=(GR.cell (p:=⟨wl.heap.size,0,none⟩) hz2 hne).trans d0;have e1:=(GR.cell (p:=⟨wl.heap.size,1,none⟩) hz2 hne).trans d1;have e2:=(GR.cell (p:=⟨wl.heap.size,2,none⟩) hz2 hne).trans d2;have cZ:(Instr.mapUpdate 60 (.map (some w.heap.size)) (.int .u32 (id:Int)) (.int .i64 (k:Int))).run Tryz.prog W2=.ok () w5:=hput;have HRS:=AQ (je ⟨lo,hi,id⟩ w5);unfold KR at HRS;dsimp only at HRS;have H5:=Ai tN ((HU.out.trans (hu2.mono (G:=[w.heap.size]) (by simp))).trans GR);clear hput tN GR hu2 hm2 y0 y1 y2 d0 d1;have b2c:W0.heap.size≤w5.heap.size:=H5.2.size;by_cases hb:lo≤hi
   ·have hbd:decide (lo≤hi)=true:=decide_eq_true hb;rw [hbd] at HRS;go_wp2_with fail
    (with_reducible refine HRS.out.mono ?_);rintro e w6 ⟨rfl,u6⟩;have Jv:=AQ u6;clear u6;go_wp2_with fail
    go_roundg (N - (k+1))
    case measure=>have:=HK.out;omega
    case rel=>
     refine ⟨k+1,_,_,Ac HK,by go_num,H5.1.upd Jv.out (by simp),HS.2.1,fun s hs=>?_,H5.2.trans (Jv.out.mono (by simp))⟩
     obtain ⟨g1,g2⟩:=AV HS.1;rw [AZ g1,g2,List.mem_append] at hs;rcases hs with hs | hs
     ·exact HR.out s hs
     ·simp at hs;subst hs;exact hb
   ·have hbd:decide (lo≤hi)=false:=decide_eq_false hb;rw [hbd] at HRS;go_wp2_with fail
    (with_reducible refine HRS.out.mono ?_);rintro e w6 ⟨rfl,u6⟩;have Jv:=AQ u6;clear u6;go_wp2_with fail
    go_ret
    refine ⟨?_,(ET.out.trans' H5.2 (fun x hx=>.inr (by simp at hx;omega))).trans Jv.out⟩
    have:RN l=false:=by
     rw [Bool.eq_false_iff];intro hc;have h7:lo≤hi:=(Oq.1 hc).1 _ (List.mem_of_getElem? HS.1);exact absurd h7 (by omega)
    rw [this];rfl
  ·have a0L:k=N:=by omega
   have hL':l.take k=l:=by rw [a0L,←HN.out];exact List.take_length
   have iU:=HR.out;have hcn:=HC.out.eq;rw [hL'] at iU hcn
   have hfin:((n:Int)==(N:Int))=RN l:=by
    rw [Bool.eq_iff_iff,Oq];simp;constructor
    ·intro hc;exact ⟨iU,hcn.1 (by omega)⟩
    ·rintro ⟨-,hc⟩;have:=hcn.2 hc;omega
   have hlen:=HM.out.len 3;have hlen2:(Builtin.len_ #[60] 3 #[.map (some w.heap.size)]).run Tryz.prog wr=.ok (.int .i64 (n:Int)) wr:=hlen;have HF:=AQ hfin;clear hL' iU hcn hfin hlen;go_wp2_with fail
   go_ret
   exact ⟨by rw [←HF.out];rfl,ET.out.trans' HU.out (fun x hx=>.inr (by simp at hx;omega))⟩
