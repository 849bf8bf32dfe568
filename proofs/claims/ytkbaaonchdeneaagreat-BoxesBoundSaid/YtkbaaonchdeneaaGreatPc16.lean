/- Spans: how they lie in memory; are they right; the names of those that a number stabs. What -/
import Derived.Test.YtkbaaonchdeneaaGreatPc15
import Derived.Test.YtkbaaonchdeneaaGreatPc10
set_option maxHeartbeats 4000000
set_option maxRecDepth 100000
namespace Go.Proofs.YtkbaaonchdeneaaGreat
section
open Go.RowKit
def IE (s:Sp):Value:=.agg #[s.lo,s.hi,.int .u32 (s.id:Int)]
def CY:Kind Sp:={ T:=0,sT:=56,eT:=62,sz:=3,enc:=λp=>[p.lo,p.hi,.int .u32 (p.id:Int)],len:=λ_=>rfl,one:=λb u hu=>by simp at hu;rcases hu with rfl | rfl | rfl<;>rfl }
def MKI:MK Nat:={ T:=60,k:=26,e:=3,enc:=λn=>.int .i64 (n:Int),zero:=0,hT:=Tryz.underlying60,hk:=Tryz.underlying26,hz:=λw=>(by kernel_rfl),inj:=λx y h=>by simp at h;omega }
def Oc (l:List Sp):Bool:=l.all (λs=>decide (s.lo<=s.hi))&&decide ((l.map Sp.id).Nodup)
theorem J4 {l:List Sp}:Oc l=true↔(∀s∈l,s.lo<=s.hi)/\(l.map Sp.id).Nodup:=by
 unfold Oc;simp
structure Z5 (l:List Sp) (k:Nat) (f:Nat->Option Nat) (n:Nat):Prop where
 has:∀x:Nat,(f x).isSome=true↔x∈(l.take k).map Sp.id
 le:n<=k
 eq:n=k↔((l.take k).map Sp.id).Nodup
theorem Z5.start (l:List Sp):Z5 l 0 (λ_=>none) 0:=⟨by simp,Nat.le_refl _,by simp⟩
theorem Z5.step {l:List Sp} {k:Nat} {f:Nat->Option Nat} {n:Nat} (h:Z5 l k f n) {s:Sp} (hs:l[k]? = some s) (v:Nat) :
 Z5 l (k+1) (λy=>if y=s.id then some v else f y) (if (f s.id).isSome then n else n+1):=by
 obtain ⟨h1,h2⟩:=AZ hs;have e:(l.take (k+1)).map Sp.id=(l.take k).map Sp.id++[s.id]:=by rw [Bd h1,h2,List.map_append];rfl
 have hle:=h.le;have heq:=h.eq;have hin:=h.has s.id;refine ⟨λx=>?_,?_,?_⟩
 ·rw [e,List.mem_append];by_cases hx:x=s.id
  ·simp [hx]
  ·have:=h.has x;simp [hx] at this |-;exact this
 ·split<;>omega
 ·rw [e,List.nodup_append];by_cases hf:(f s.id).isSome=true
  ·rw [if_pos hf];have:=hin.1 hf;constructor
   ·intro hc;omega
   ·rintro ⟨-,-,hc⟩;exact absurd rfl (hc _ this _ (by simp))
  ·rw [if_neg hf];have hni:s.id∉(l.take k).map Sp.id:=λhc=>hf (hin.2 hc)
   constructor
   ·intro hc;refine ⟨heq.1 (by omega),by simp,?_⟩
    intro a ha b hb hab;simp at hb;subst hb;exact hni (hab ▸ ha)
   ·rintro ⟨hc,-,-⟩;have:=heq.2 hc;omega
theorem Z7 (s:Sp) (w:World):Calls Tryz.prog 82 #[IE s] w λe w'=>e=.returned (.bool (decide (s.lo<=s.hi)))/\Bj [] w w':=by
 unfold IE;go_enter Tryz.func82,Tryz.ntmps82
 go_wp2_with fail
 go_ret
 exact ⟨rfl,(Bj.refl _ _).alloc _⟩
def Ht (l:List Sp):List Int:=l.flatMap λs=>[s.lo,s.hi]
def QO (l:List Sp):List Int:=Fq (Ht l)
theorem Qg (l:List Sp):(Ht l).length=2*l.length:=by
 induction l with
 |nil=>rfl
 |cons s l ih=>
  have e:Ht (s::l) = [s.lo,s.hi]++Ht l:=by simp [Ht]
  rw [e,Bc,ih,List.length_cons];simp;omega
theorem jP (a b:List Sp):Ht (a++b)=Ht a++Ht b:=by simp [Ht]
theorem jQ (l:List Sp):(QO l).length<=2*l.length:=by
 have:=OU (Ht l);rw [Qg] at this;exact this
theorem Z8 (l:List Sp):(QO l).Pairwise (· < ·):=TI _
instance a8i:DecidableEq Sp:=λa b=>if h:a.lo=b.lo/\a.hi=b.hi/\a.id=b.id then isTrue (by cases a;cases b;simp_all) else isFalse (λe=>h (by rw [e];exact ⟨rfl,rfl,rfl⟩))
def without (S:List Sp) (x:Sp):List Sp:=S.filter λs=>decide (s≠x)
theorem Jc {S:List Sp} {x:Sp} (h:x∉S):without S x=S:=by
 unfold without;rw [List.filter_eq_self];intro s hs;simp only [decide_eq_true_eq];rintro rfl;exact h hs
theorem TM {S:List Sp} (h:(S.map Sp.id).Nodup):S.Nodup:=by
 induction S with
 |nil=>exact List.nodup_nil
 |cons s S ih=>
  rw [List.map_cons,List.nodup_cons] at h;exact List.nodup_cons.2 ⟨λhc=>h.1 (List.mem_map_of_mem hc),ih h.2⟩
theorem KJ {l:List Sp} (h:l.Nodup):∀{i:Nat} {x:Sp},l[i]? = some x->l.eraseIdx i=l.filter λs=>decide (s≠x):=by
 induction l with
 |nil=>intro i x hx;simp at hx
 |cons a l ih=>
  intro i x hx;rw [List.nodup_cons] at h
  cases i with
  |zero=>
   simp at hx;subst hx;rw [List.eraseIdx_zero,List.tail_cons,List.filter_cons,if_neg (by simp)];symm
   rw [List.filter_eq_self];intro s hs;simp only [decide_eq_true_eq];rintro rfl;exact h.1 hs
  |succ i=>
   have hx':l[i]? = some x:=by simpa using hx
   have hne:a≠x:=λe=>h.1 (by rw [e];exact List.mem_of_getElem? hx')
   rw [List.eraseIdx_cons_succ,ih h.2 hx',List.filter_cons,if_pos (by simpa using hne)]
theorem a3O (a b:Sp) (w:World):(binOp .eql 62 (IE a) (IE b)).run Tryz.prog w=.ok (.bool (decide (a=b))) w:=by
 unfold IE;rw [run_eql_struct,run_equalIn_agg _ _ _ _ _ (by kernel_rfl) (by kernel_rfl)];go_simp
 obtain ⟨a1,a2,a3⟩:=a;obtain ⟨b1,b2,b3⟩:=b;by_cases h1:a1=b1<;>by_cases h2:a2=b2<;>by_cases h3:a3=b3<;>simp_all<;>omega
theorem LV {l m:List Nat} (h:l.Perm m):FX l=FX m:=Yi ((IC l).trans h) (Yh l)
def Ea (S:List Sp) (x:Int):List Nat:=FX ((S.filter λs=>Es s.lo s.hi x).map Sp.id)
theorem jR (S:List Sp) (x:Int):(Ea S x).length<=S.length:=by
 unfold Ea;rw [EF,List.length_map];exact List.length_filter_le _ _
theorem KU.atS {w:World} {A:Option Addr} {n C:Nat} {l:List Nat} (h:See KU w (.slice A n C) l) {k:Nat} {x:Nat} (hx:l[k]? = some x) :
 ∃b o,A=some ⟨b,o,none⟩/\n<=C/\C<=maxLen/\w.cell? ⟨b,o+k,none⟩=some (.int .u32 (x:Int)):=by
 obtain ⟨b,o,h1,h2,h3,h4⟩:=h.at hx;have:=h4 0 _ rfl;exact ⟨b,o,h1,h2,h3,by simpa [KU] using this⟩
theorem Z9 {l m:List Sp} (h:l.Perm m) (x:Int):Ea l x=Ea m x:=LV ((h.filter _).map Sp.id)
theorem TN:(Tryz.prog.info? 26).map (λi=>(i.zero,i.size,i.bytes))=some (some (.int .u32 0),1,4):=by kernel_rfl
def OW (w:World) (L:List Nat) (t:Nat) (e:Ending) (w':World):Prop:=∃A C,e=.returned (.tuple #[.slice A L.length C,(t:Int)])/\KU.row w' w.heap.size (.slice A L.length C) L/\Bj [] w w'
section
variable {P:Program} (w:World)
theorem Vh (base:Nat) (t ty e:TypeId) (i:TypeInfo) (size:Nat) (ht:P.underlying t=some (.slice e)) (hi:P.info? e=some i) (hsize:i.size=size)
 (g n cap:Nat) (xs:List Value) (hown:w.ownsRow base e size (.slice (some ⟨g,0,none⟩) n cap) n xs)
 (x:Value) (m:Nat) (news:List Value) (hx:D5 w size x m news) (h1:∀u∈news,u.oneCell'=true) (hroom:n+m<=cap) :
 ∃w',(Builtin.append_ #[t,t] ty #[.slice (some ⟨g,0,none⟩) n cap,x]).run P w=.ok (.slice (some ⟨g,0,none⟩) (n+m) cap) w'/\
  w'.ownsRow base e size (.slice (some ⟨g,0,none⟩) (n+m) cap) (n+m) (xs++news)/\w.grownBy w' (some g):=by
 rcases hx.2 with ⟨rfl,rfl⟩ | ⟨b,o,s,c,rfl,h3,h4,h5,h6⟩
 ·have hn:news = []:=List.eq_nil_of_length_eq_zero (by simpa using hx.1);subst hn;subst hsize;have hr:=run_append_owned_none (P:=P) (w:=w) base t ty e i i.size ht hi _ n xs hown;exact ⟨w,by simpa using hr,by simpa using hown,⟨rfl,rfl,rfl,Nat.le_refl _,λ_ _ _=>rfl⟩⟩
 ·refine run_append_fits (P:=P) w base t ty e i size ht hi hsize g n cap xs hown ⟨b,o,s⟩ m c news hx.1 (λj u hu=>?_) h1 hroom
  have hm:0<m:=by
   rcases Nat.eq_zero_or_pos m with h0 | h0
   ·subst h0;have hx0:news = []:=List.eq_nil_of_length_eq_zero (by simpa using hx.1);subst hx0;simp at hu
   ·exact h0
  have hs:=h3 (by omega);subst hs;rw [addr_add];exact h6 j u hu
theorem TP {ops:Array Oper} {o:Oper} {a:Act} {K:Act->World->Prop} {Q:Exit->Act->World->Prop} {E:Prop} (hgd:o.guard=none) (s x:Operand) (t:TypeId)
 (ho:o.op=.call { callee:=.builtin .append,args:=#[s,x],argTypes:=#[t,t] })
 (base:Nat) (e:TypeId) (i:TypeInfo) (size:Nat) (ht:P.underlying t=some (.slice e)) (hi:P.info? e=some i) (hsize:i.size=size)
 (g n cap:Nat) (xs:List Value) (hs:a.eval s=.slice (some ⟨g,0,none⟩) n cap) (hown:w.ownsRow base e size (.slice (some ⟨g,0,none⟩) n cap) n xs)
 (vx:Value) (m:Nat) (news:List Value) (hx:a.eval x=vx) (EP:D5 w size vx m news) (h1:∀u∈news,u.oneCell'=true) (hroom:n+m<=cap)
 (h:∀w',w'.ownsRow base e size (.slice (some ⟨g,0,none⟩) (n+m) cap) (n+m) (xs++news)->Bj [g] w w'->K (a.put o.dst (.slice (some ⟨g,0,none⟩) (n+m) cap)) w') :
 if Region.wanted o (yielded ops a.tmps)=true then Oper.wp P o a w K Q else E:=by
 have hw:Region.wanted o (yielded ops a.tmps)=true:=by simp [Region.wanted,hgd]
 rw [if_pos hw];obtain ⟨w',hr,h2,h3⟩:=Vh (P:=P) w base t o.type e i size ht hi hsize g n cap xs hown vx m news EP h1 hroom;unfold Oper.wp execOp;simp only [ho,resolve,invoke,builtin,Sem.run_bind,Sem.run_pure,Result.andThen_ok,List.map_toArray,List.map_cons,List.map_nil,hs,hx,hr];exact h w' h2 ((Bj.refl _ _).grown h3 λk hk=>.inl (by simpa using hk.symm))
end
section
variable {P:Program} {w:World} {base:Nat} {e:TypeId} {size g n C:Nat} {xs:List Value}
theorem TQ (h:w.ownsRow base e size (.slice (some ⟨g,0,none⟩) n C) n xs) (j:Nat) (u:Value) (hj:n*size<=j):(w.setCell ⟨g,j,none⟩ u).ownsRow base e size (.slice (some ⟨g,0,none⟩) n C) n xs:=by
 have:=(World.ownsRow.stored h j u).1;rwa [List.set_eq_of_length_le (by rw [h.1];exact hj)] at this
theorem F5:∀(l:List Value) (w:World) (j:Nat),w.ownsRow base e size (.slice (some ⟨g,0,none⟩) n C) n xs->n*size<=j->(w.setCells g j l).ownsRow base e size (.slice (some ⟨g,0,none⟩) n C) n xs
 | [],_,_,h,_=>h
 |v::l,w,j,h,hj=>F5 l (w.setCell ⟨g,j,none⟩ v) (j+1) (TQ h j v hj) (by omega)
theorem LW:∀(l:List Value) (w:World) (j:Nat),Bj [g] w (w.setCells g j l)
 | [],_,_=>Bj.refl _ _
 |v::l,w,j=>((Bj.refl [g] w).setCell (p:=⟨g,j,none⟩) (.inl (by simp)) v).trans (LW l _ (j+1))
theorem Jl (w:World) (t e ty:TypeId) (z:Value) (ht:P.underlying t=some (.slice e)) (hv:∀w,(zeroValue e).run P w=.ok z w) (hk:z.cells.size=size) (h1:∀u∈z.cells.toList,u.oneCell'=true) (hsz:0<size) (b o n c:Nat) (hn:0<n)
 (hc:∀j,j<n*size->(w.cell? ⟨b,o+j,none⟩).isSome=true) (hf:∀j,j<n*size->w.frozen? ⟨b,o+j,none⟩=false) :
 (Builtin.clear_ #[t] ty #[.slice (some ⟨b,o,none⟩) n c]).run P w=.ok (.tuple #[]) (w.setCells b o (Builtin.zeroCells z.cells n).toList):=by
 have hlen:(Builtin.zeroCells z.cells n).toList.length=n*size:=by simp [Builtin.zeroCells,hk]
 have hone:∀v∈(Builtin.zeroCells z.cells n).toList,v.oneCell'=true:=by
  intro v hv';simp only [Builtin.zeroCells,Array.toList_map,List.mem_map] at hv';obtain ⟨i,_,rfl⟩:=hv';refine h1 _ ?_
  have:i % z.cells.size<z.cells.size:=Nat.mod_lt _ (by omega);rw [getElem!_pos z.cells (i % z.cells.size) this];exact Array.getElem_mem_toList this
 have hst:=run_storeCells_cells (P:=P) b o (Builtin.zeroCells z.cells n).toList 0 w (by rw [hlen];simpa using hc) (by rw [hlen];simpa using hf) hone;simp only [Nat.add_zero] at hst;obtain ⟨m,rfl⟩:∃m,n=m+1:=⟨n - 1,by omega⟩;simp [Builtin.clear_,run_underlying ht,hv,hst]
theorem Gx (h:w.ownsRow base e size (.slice (some ⟨g,0,none⟩) n C) n xs) (j:Nat) (hj:j<C*size):(w.cell? ⟨g,j,none⟩).isSome=true/\w.frozen? ⟨g,j,none⟩=false:=by
 rcases h.2 with ⟨h2,_⟩ | ⟨g',cap,cur,h2,h3,h4,h5,h6,h7,h8⟩
 ·cases h2
 ·cases h2
  refine ⟨?_,World.ownsRow.frozenAt h j⟩
  have hlt:j<cur.size:=by omega
  simp [World.cell?,h4,hlt]
theorem jS {t e:TypeId} {i:TypeInfo} (ht:P.underlying t=some (.slice e)) (hi:P.info? e=some i) (g n C k:Nat) (hk:k+1<=n) (hn:n<=C) :
 ∃v,∀w,(Instr.slice t (.slice (some ⟨g,0,none⟩) n C) (some (.int .i64 (k:Int))) (some (.int .i64 ((k:Int)+1))) (some (.int .i64 (n:Int)))).run P w=.ok v w:=by
 have hel:P.elem t=e:=by simp [Program.elem,ht]
 refine ⟨sliced (some ⟨g,0,none⟩) k (k+1) n i.size,λw=>?_⟩
 rw [run_slice_lhm w t (some ⟨g,0,none⟩) n C (G6 ht) .i64 .i64 .i64 _ _ _ (by omega) (by omega) (by omega) (by omega)];simp [hel,sizeOf,typeInfo,hi]
theorem aj {t e:TypeId} {i:TypeInfo} (ht:P.underlying t=some (.slice e)) (hi:P.info? e=some i) (hsize:i.size=size) (g n C k:Nat) (hk:n<k) (hn:k<=C) (w:World) :
 (Instr.slice t (.slice (some ⟨g,0,none⟩) n C) (some (.int .i64 (n:Int))) (some (.int .i64 (k:Int))) none).run P w=.ok (.slice (some ⟨g,n*size,none⟩) (k - n) (C - n)) w:=by
 subst hsize;have hel:P.elem t=e:=by simp [Program.elem,ht]
 rw [run_slice_lh w t (some ⟨g,0,none⟩) n C (G6 ht) .i64 .i64 _ _ (by omega) (by omega) (by omega)];have hne:¬C=n:=by omega
 simp [hel,sizeOf,typeInfo,hi,sliced,addr_add,hne]
end
theorem Nc:(Tryz.prog.info? 62).map (λi=>(i.zero,i.size,i.bytes))=some (some (.agg #[.int .i64 0,.int .i64 0,.int .u32 0]),3,24):=by kernel_rfl
theorem VJ:∀w,(zeroValue 62).run Tryz.prog w=.ok (.agg #[.int .i64 0,.int .i64 0,.int .u32 0]) w:=λw=>(by kernel_rfl)
theorem qF (l:List Sp) (k:Nat):CY.all (l.drop k)=(CY.all l).drop (k*3):=CY.Js l k
def TR (w:World) (l:List Sp) (e:Ending) (w':World):Prop:=
 Bj [] w w'/\∃A C,e=.returned (.slice A l.length C)/\CY.row w' w.heap.size (.slice A l.length C) l
theorem fO (v:Value) (l:List Sp) (w:World) (hs:See CY w v l) (hb:l.length<1000000) :
 Calls Tryz.prog 170 #[v] w (TR w l):=by
 obtain ⟨i0,hi,hz0,hz1,hz2⟩:=info_parts Nc;obtain ⟨n,hn⟩:=AU l.length;have hx1:∀u∈CY.all l,u.oneCell'=true:=CY.DU l;have hs':D5 w 3 v n (CY.all l):=by rw [<-hn];exact hs
 have HS:=AX hs';have HX:=AX hx1;have HN:=AX hn;rw [hn] at hb;have HB:=AX hb;clear hx1 hn hb hs;unfold TR;rcases hs'.2 with ⟨rfl,rfl⟩ | ⟨b,o,sp,cap,rfl,_⟩
 ·clear hs';have he:=λw=>Lib.run_eql_slice_nil (P:=Tryz.prog) (w:=w) 56 62 none 0 0 0 0 Tryz.underlying56
  go_enter Tryz.func170,Tryz.ntmps170
  go_wp2
  go_ret
  have hx:l = []:=List.eq_nil_of_length_eq_zero HN.out;subst hx;exact ⟨Bj.refl _ _,none,0,rfl,World.ownsRow_nil _ _ _ _⟩
 ·clear hs';have he:=λw=>Lib.run_eql_slice_nil (P:=Tryz.prog) (w:=w) 56 62 (some ⟨b,o,sp⟩) n cap 0 0 Tryz.underlying56
  go_enter Tryz.func170,Tryz.ntmps170
  go_wp2_with (at_builtin;refine BM _ rfl _ _ 56 rfl w.heap.size 62 i0 _ 3 24 Tryz.underlying56 hi hz0 hz1 hz2 rfl (by decide) _ 0 [] rfl (World.ownsRow_made w #[] 0 (Nat.le_refl _) (by decide) rfl) _ n (CY.all l) rfl (Dh HS.out ((Bj.refl [] w).alloc _) (by simp)) HX.out (by have:=HB.out;unfold maxLen;omega) (Ac HB) (by simp) ?_)
  intro A C w1 HP;have HU:=HP.upd;have hb1:Bj [] w w1:=(((Bj.refl [] w).alloc _).trans' HU (λk hk=>by simp [blk] at hk;omega));have hown:w1.ownsRow w.heap.size 62 3 (.slice A n C) n (CY.all l):=by simpa using HP.own
  clear he;go_wp2
  go_ret
  refine ⟨hb1,A,C,by rw [HN.out];rfl,?_⟩
  unfold Kind.row;rw [HN.out];exact hown
def GH (x y:Int):Int:=if x<y then -1 else if y<x then 1 else 0
def byI (a b x y:Int):Int:=if GH a b=0 then GH x y else GH a b
theorem OX {x y:Int} (h:x<y):GH x y = -1:=by unfold GH;rw [if_pos h]
theorem RP {x y:Int} (h:y<x):GH x y=1:=by unfold GH;rw [if_neg (by omega),if_pos h]
theorem RQ {x y:Int} (h:x=y):GH x y=0:=by unfold GH;rw [if_neg (by omega),if_neg (by omega)]
theorem a3P (x:Int) (w:World):Calls Tryz.prog 240 #[x] w λe w'=>e=.returned (.bool false)/\w=w':=by
 go_enter Tryz.func240,Tryz.ntmps240
 go_wp2_with fail
 go_ret
 exact ⟨by simp,rfl⟩
theorem a3Q (x:Int) (w:World):Calls Tryz.prog 204 #[.int .u32 x] w λe w'=>e=.returned (.bool false)/\w=w':=by
 go_enter Tryz.func204,Tryz.ntmps204
 go_wp2_with fail
 go_ret
 exact ⟨by simp,rfl⟩
theorem cmpInt (x y:Int) (w:World):Calls Tryz.prog 182 #[x,y] w λe w'=>e=.returned (.int .i64 (GH x y))/\w=w':=by
 have H1:=AX (a3P x w);have H2:=AX (a3P y w);obtain ⟨r,hr⟩:=AU (GH x y);rw [hr];rcases Int.lt_trichotomy x y with h | h | h
 ·have e1:decide (x<y)=true:=decide_eq_true h;have HR:=AX ((OX h).symm.trans hr);clear hr;go_enter Tryz.func182,Tryz.ntmps182
  go_wp2_with fail
  go_fit H1.out
  rintro e w' ⟨rfl,rfl⟩;go_wp2_with fail
  go_fit H2.out
  rintro e w' ⟨rfl,rfl⟩;go_wp2_with fail
  go_ret
  exact ⟨by rw [<-HR.out];rfl,rfl⟩
 ·have HR:=AX ((RQ h).symm.trans hr);have h1:¬x<y:=by omega
  have h2:¬y<x:=by omega
  clear hr h;go_enter Tryz.func182,Tryz.ntmps182
  go_wp2_with fail
  go_fit H1.out
  rintro e w' ⟨rfl,rfl⟩;go_wp2_with fail
  go_fit H2.out
  rintro e w' ⟨rfl,rfl⟩;go_wp2_with fail
  go_ret
  exact ⟨by rw [<-HR.out];rfl,rfl⟩
 ·have HR:=AX ((RP h).symm.trans hr);have h1:¬x<y:=by omega
  clear hr;go_enter Tryz.func182,Tryz.ntmps182
  go_wp2_with fail
  go_fit H1.out
  rintro e w' ⟨rfl,rfl⟩;go_wp2_with fail
  go_fit H2.out
  rintro e w' ⟨rfl,rfl⟩;go_wp2_with fail
  go_ret
  exact ⟨by rw [<-HR.out];rfl,rfl⟩
theorem Xe (x y:Int) (w:World):Calls Tryz.prog 136 #[.int .u32 x,.int .u32 y] w λe w'=>e=.returned (.int .i64 (GH x y))/\w=w':=by
 have H1:=AX (a3Q x w);have H2:=AX (a3Q y w);obtain ⟨r,hr⟩:=AU (GH x y);rw [hr];rcases Int.lt_trichotomy x y with h | h | h
 ·have e1:decide (x<y)=true:=decide_eq_true h;have HR:=AX ((OX h).symm.trans hr);clear hr;go_enter Tryz.func136,Tryz.ntmps136
  go_wp2_with fail
  go_fit H1.out
  rintro e w' ⟨rfl,rfl⟩;go_wp2_with fail
  go_fit H2.out
  rintro e w' ⟨rfl,rfl⟩;go_wp2_with fail
  go_ret
  exact ⟨by rw [<-HR.out];rfl,rfl⟩
 ·have HR:=AX ((RQ h).symm.trans hr);have h1:¬x<y:=by omega
  have h2:¬y<x:=by omega
  clear hr h;go_enter Tryz.func136,Tryz.ntmps136
  go_wp2_with fail
  go_fit H1.out
  rintro e w' ⟨rfl,rfl⟩;go_wp2_with fail
  go_fit H2.out
  rintro e w' ⟨rfl,rfl⟩;go_wp2_with fail
  go_ret
  exact ⟨by rw [<-HR.out];rfl,rfl⟩
 ·have HR:=AX ((RP h).symm.trans hr);have h1:¬x<y:=by omega
  clear hr;go_enter Tryz.func136,Tryz.ntmps136
  go_wp2_with fail
  go_fit H1.out
  rintro e w' ⟨rfl,rfl⟩;go_wp2_with fail
  go_fit H2.out
  rintro e w' ⟨rfl,rfl⟩;go_wp2_with fail
  go_ret
  exact ⟨by rw [<-HR.out];rfl,rfl⟩
theorem jT (w:World) (g:Nat) (a b z:Int) (C:Nat) (h0:w.cell? g=some (.int .i64 a)) (h1:w.cell? ⟨g,1,none⟩=some (.int .i64 b)) (hz:(if a=0 then b else a)=z) :
 Calls Tryz.prog 279 #[.slice (some ⟨g,0,none⟩) 2 C] w λe w'=>e=.returned z/\w=w':=by
 have HZ:=AX hz;clear hz;go_enter Tryz.func279,Tryz.ntmps279
 go_wp2_with fail
 go_loopg [7] 2 (λm s7 wr=>∃k:Nat,m+k=2/\s7=.int .i64 (k:Int)/\(0<k->a=0)/\(1<k->b=0)/\wr=w)
 case atStart=>exact ⟨0,rfl,rfl,by omega,by omega,rfl⟩
 case round=>
  obtain ⟨k,hk,rfl,ha,hb,rfl⟩:=hrel;have hk3:k=0\/k=1\/k=2:=by omega
  rcases hk3 with rfl | rfl | rfl
  ·clear ha hb;by_cases hz:a=0
   ·have hq:(a != 0)=false:=by simpa using hz
    have HA:=AX hz;clear hz;go_wp2_with fail
    go_roundg 1
    case measure=>omega
    case rel=>exact ⟨1,by omega,by go_num,λ_=>HA.out,by omega,rfl⟩
   ·have hq:(a != 0)=true:=by simpa using hz
    have HA:=AX hz;clear hz;go_wp2_with fail
    go_ret
    exact ⟨by rw [<-HZ.out,if_neg HA.out];rfl,rfl⟩
  ·have HA:=AX (ha (by omega));clear ha hb;by_cases hz:b=0
   ·have hq:(b != 0)=false:=by simpa using hz
    have HB:=AX hz;clear hz;go_wp2_with fail
    go_roundg 0
    case measure=>omega
    case rel=>exact ⟨2,by omega,by go_num,λ_=>HA.out,λ_=>HB.out,rfl⟩
   ·have hq:(b != 0)=true:=by simpa using hz
    clear hz;go_wp2_with fail
    go_ret
    exact ⟨by rw [<-HZ.out,if_pos HA.out];rfl,rfl⟩
  ·have HA:=AX (ha (by omega));have HB:=AX (hb (by omega));clear ha hb;go_wp2_with fail
   go_ret
   exact ⟨by rw [<-HZ.out,if_pos HA.out,HB.out];rfl,rfl⟩
theorem byC (a b x y:Int) (w:World):Calls Tryz.prog 236 #[a,b,.int .u32 x,.int .u32 y] w λe w'=>e=.returned (.int .i64 (byI a b x y))/\∃o,w'=w.alloc o:=by
 have H1:=AX (cmpInt a b w);have H2:=AX (Xe x y w);obtain ⟨z,hz⟩:=AU (byI a b x y);rw [hz];unfold byI at hz;generalize GH a b=r at H1 hz;generalize GH x y=q at H2 hz;have H3:=AX (jT (w.alloc (.cells #[r,q] 3)) w.heap.size r q z 2 (by rw [World.cell?_alloc_at _ _ _ _ rfl];rfl) (by rw [World.cell?_alloc_at _ _ _ _ rfl];rfl) hz);clear hz;go_enter Tryz.func236,Tryz.ntmps236
 go_wp2_with fail
 go_fit H1.out
 rintro e w' ⟨rfl,rfl⟩;go_wp2_with fail
 go_fit H2.out
 rintro e w' ⟨rfl,rfl⟩;go_wp2_with fail
 go_fit H3.out
 rintro e w' ⟨rfl,rfl⟩;go_wp2_with fail
 go_ret
 exact ⟨rfl,_,rfl⟩
def OY (s t:Sp):Int:=byI s.lo t.lo s.id t.id
def LX (s t:Sp):Int:=byI s.hi t.hi s.id t.id
theorem a3R (s t:Sp) (w:World):Calls Tryz.prog 172 #[IE s,IE t] w λe w'=>e=.returned (.int .i64 (OY s t))/\∃a b c,w'=((w.alloc a).alloc b).alloc c:=by
 obtain ⟨a,b,x⟩:=s;obtain ⟨c,d,y⟩:=t;have H:=λw=>byC a c (x:Int) (y:Int) w
 have H1:=AX H;unfold IE OY;dsimp only;clear H;go_enter Tryz.func172,Tryz.ntmps172
 go_wp2_with fail
 go_fit (H1.out _)
 rintro e w' ⟨rfl,o,rfl⟩;go_wp2_with fail
 go_ret
 exact ⟨rfl,_,_,_,rfl⟩
theorem a3S (s t:Sp) (w:World):Calls Tryz.prog 238 #[IE s,IE t] w λe w'=>e=.returned (.int .i64 (LX s t))/\∃a b c,w'=((w.alloc a).alloc b).alloc c:=by
 obtain ⟨a,b,x⟩:=s;obtain ⟨c,d,y⟩:=t;have H:=λw=>byC b d (x:Int) (y:Int) w
 have H1:=AX H;unfold IE LX;dsimp only;clear H;go_enter Tryz.func238,Tryz.ntmps238
 go_wp2_with fail
 go_fit (H1.out _)
 rintro e w' ⟨rfl,o,rfl⟩;go_wp2_with fail
 go_ret
 exact ⟨rfl,_,_,_,rfl⟩
theorem yQ (s t:Sp) (w:World):Calls Tryz.prog 237 #[IE s,IE t] w λe w'=>e=.returned (.int .i64 (LX t s))/\∃a b c d e,w'=((((w.alloc a).alloc b).alloc c).alloc d).alloc e:=by
 have H1:=AX (λw=>a3S t s w);obtain ⟨z,hz⟩:=AU (LX t s);rw [hz] at H1 |-;clear hz;obtain ⟨a,b,x⟩:=s;obtain ⟨c,d,y⟩:=t;unfold IE at H1 |-;dsimp only at H1 |-;go_enter Tryz.func237,Tryz.ntmps237
 go_wp2_with fail
 go_fit (H1.out _)
 rintro e w' ⟨rfl,o,o1,o2,rfl⟩;go_wp2_with fail
 go_ret
 exact ⟨rfl,_,_,_,_,_,rfl⟩
end
section
inductive Kn where
 |nil:Kn
 |node (m:Int) (a8y a8j:List Sp) (l r:Kn):Kn
def Em (m:Int) (S:List Sp):List Sp:=S.filter λs=>decide (s.hi<m)
def En (m:Int) (S:List Sp):List Sp:=S.filter λs=>!decide (s.hi<m)&&decide (m<s.lo)
def Eo (m:Int) (S:List Sp):List Sp:=S.filter λs=>!decide (s.hi<m)&&!decide (m<s.lo)
def Kn.depth:Kn->Nat
 |.nil=>0
 |.node _ _ _ l r=>1+max l.depth r.depth
def Kn.ok:Kn->List Sp->Prop
 |.nil,S=>S = []
 |.node m lo hi l r,S=>(lo.Perm (Eo m S)/\lo.Pairwise (λa b=>a.lo<=b.lo))/\(hi.Perm (Eo m S)/\hi.Pairwise (λa b=>b.hi<=a.hi))/\l.ok (Em m S)/\r.ok (En m S)
def Yo (x m:Int) (lo hi:List Sp):List Sp:=if m<x then hi else lo
def hasK (x m:Int) (s:Sp):Bool:=if m<x then decide (x<=s.hi) else decide (s.lo<=x)
def Ep (x m:Int) (lo hi:List Sp):List Sp:=(Yo x m lo hi).takeWhile (hasK x m)
def Kn.FQ (x:Int):Kn->List Sp
 |.nil=>[]
 |.node m lo hi l r=>Ep x m lo hi++(if x<m then l.FQ x else if m<x then r.FQ x else [])
def EK (x m:Int) (lo hi:List Sp):Nat:=(Ep x m lo hi).length+(if (Ep x m lo hi).length<(Yo x m lo hi).length then 1 else 0)
def Kn.touch (x:Int):Kn->Nat
 |.nil=>0
 |.node m lo hi l r=>1+EK x m lo hi+(if x<m then l.touch x else if m<x then r.touch x else 0)
def Kn.drop (x:Sp):Kn->Kn
 |.nil=>.nil
 |.node m lo hi l r=>if x.hi<m then .node m lo hi (l.drop x) r else if m<x.lo then .node m lo hi l (r.drop x) else .node m (without lo x) (without hi x) l r
theorem qG {α:Type} (p q:α->Bool):∀S:List α,((S.filter λs=>!p s&&!q s)++(S.filter p++S.filter λs=>!p s&&q s)).Perm S
 | []=>by simp
 |a::S=>by
  have ih:=qG p q S
  cases hp:p a<;>cases hq:q a
  ·simp only [List.filter_cons,hp,hq,Bool.not_false,Bool.and_self,if_true,Bool.false_eq_true,if_false,Bool.and_false];exact List.Perm.cons a ih
  ·simp only [List.filter_cons,hp,hq,Bool.not_false,Bool.not_true,Bool.and_self,if_true,Bool.false_eq_true,if_false,Bool.and_false];rw [<-List.append_assoc];refine List.perm_middle.trans ?_
   rw [List.append_assoc];exact List.Perm.cons a ih
  ·simp only [List.filter_cons,hp,hq,Bool.not_false,Bool.not_true,Bool.and_self,if_true,Bool.false_eq_true,if_false,Bool.false_and];rw [List.cons_append];refine List.perm_middle.trans ?_
   exact List.Perm.cons a ih
  ·simp only [List.filter_cons,hp,hq,Bool.not_true,Bool.and_self,if_true,Bool.false_eq_true,if_false,Bool.and_true];rw [List.cons_append];refine List.perm_middle.trans ?_
   exact List.Perm.cons a ih
theorem ak (m:Int) (S:List Sp):(Eo m S++(Em m S++En m S)).Perm S:=qG (λs:Sp=>decide (s.hi<m)) (λs:Sp=>decide (m<s.lo)) S
theorem takeWhile_filter {α:Type} {p:α->Bool}:∀{l:List α},l.Pairwise (λa b=>p b=true->p a=true)->l.takeWhile p=l.filter p
 | [],_=>rfl
 |a::l,h=>by
  rw [List.pairwise_cons] at h;by_cases hp:p a=true
  ·rw [List.takeWhile_cons_of_pos hp,List.filter_cons_of_pos hp,takeWhile_filter h.2]
  ·rw [List.takeWhile_cons_of_neg hp,List.filter_cons_of_neg hp];symm
   rw [List.filter_eq_nil_iff];intro b hb hc;exact hp (h.1 b hb hc)
theorem au {x m:Int} {lo hi S:List Sp} (h1:lo.Perm (Eo m S)) (h2:lo.Pairwise (λa b=>a.lo<=b.lo)) (h3:hi.Perm (Eo m S)) (h4:hi.Pairwise (λa b=>b.hi<=a.hi)) :
 (Ep x m lo hi).Perm ((Eo m S).filter λs=>Es s.lo s.hi x):=by
 have hin:∀s∈Eo m S,m<=s.hi/\s.lo<=m:=λs hs=>by
  unfold Eo at hs;simp at hs;exact hs.2
 have e:∀s∈Eo m S,hasK x m s=Es s.lo s.hi x:=λs hs=>by
  have:=hin s hs;unfold hasK Es;split
  ·have h5:s.lo<=x:=by omega
   simp [h5]
  ·have h5:x<=s.hi:=by omega
   simp [h5]
 unfold Ep Yo;split
 ·rename_i hx
  rw [takeWhile_filter (h4.imp (by intro a b hab hb;unfold hasK at hb |-;rw [if_pos hx] at hb |-;simp at hb |-;omega))];refine (h3.filter _).trans (List.Perm.of_eq (List.filter_congr e))
 ·rename_i hx
  rw [takeWhile_filter (h2.imp (by intro a b hab hb;unfold hasK at hb |-;rw [if_neg hx] at hb |-;simp at hb |-;omega))];exact (h1.filter _).trans (List.Perm.of_eq (List.filter_congr e))
theorem LY {x:Int}:∀{T:Kn} {S:List Sp},T.ok S->(∀s∈S,s.lo<=s.hi)->(T.FQ x).Perm (S.filter λs=>Es s.lo s.hi x)
 |.nil,S,h,_=>by
  have:S = []:=h;subst this;exact List.Perm.refl _
 |.node m lo hi l r,S,h,hr=>by
  obtain ⟨⟨h1,h2⟩,⟨h3,h4⟩,h5,h6⟩:=h;have ihl:=LY (x:=x) h5 (λs hs=>hr s (List.mem_filter.1 hs).1);have ihr:=LY (x:=x) h6 (λs hs=>hr s (List.mem_filter.1 hs).1);have hp:=au (x:=x) h1 h2 h3 h4;have hS:=((ak m S).filter λs=>Es s.lo s.hi x).symm;rw [List.filter_append,List.filter_append] at hS;refine List.Perm.trans ?_ hS.symm
  have nl:¬x<m->(Em m S).filter (λs=>Es s.lo s.hi x) = []:=λhx=>by
   rw [List.filter_eq_nil_iff];intro s hs hc;unfold Em at hs;unfold Es at hc;simp at hs hc;omega
  have nr:¬m<x->(En m S).filter (λs=>Es s.lo s.hi x) = []:=λhx=>by
   rw [List.filter_eq_nil_iff];intro s hs hc;unfold En at hs;unfold Es at hc;simp at hs hc;omega
  show (Ep x m lo hi++(if x<m then l.FQ x else if m<x then r.FQ x else [])).Perm _
  refine List.Perm.append hp ?_
  by_cases c1:x<m
  ·rw [if_pos c1,nr (by omega),List.append_nil];exact ihl
  ·rw [if_neg c1,nl c1,List.nil_append];by_cases c2:m<x
   ·rw [if_pos c2];exact ihr
   ·rw [if_neg c2,nr c2]
theorem Oe (x:Int):∀T:Kn,(T.FQ x).length<=T.touch x/\T.touch x<=2*T.depth+(T.FQ x).length
 |.nil=>by simp [Kn.FQ,Kn.touch,Kn.depth]
 |.node m lo hi l r=>by
  have hl:=Oe x l;have hr:=Oe x r;simp only [Kn.FQ,Kn.touch,Kn.depth,Bc];unfold EK;have e:(if (Ep x m lo hi).length<(Yo x m lo hi).length then 1 else 0)<=1:=by split<;>omega
  split
  ·omega
  ·split
   ·omega
   ·simp only [List.length_nil];omega
theorem LZ (m:Int) (S:List Sp) (x:Sp):Eo m (without S x)=without (Eo m S) x:=by
 unfold Eo without;rw [List.filter_filter,List.filter_filter];exact List.filter_congr λs _=>Bool.and_comm _ _
theorem J5 (m:Int) (S:List Sp) (x:Sp):Em m (without S x)=without (Em m S) x:=by
 unfold Em without;rw [List.filter_filter,List.filter_filter];exact List.filter_congr λs _=>Bool.and_comm _ _
theorem J6 (m:Int) (S:List Sp) (x:Sp):En m (without S x)=without (En m S) x:=by
 unfold En without;rw [List.filter_filter,List.filter_filter];exact List.filter_congr λs _=>Bool.and_comm _ _
theorem OZ {l m:List Sp} (h:l.Perm m) (x:Sp):(without l x).Perm (without m x):=h.filter _
theorem Xf {x:Sp} (hx:x.lo<=x.hi):∀{T:Kn} {S:List Sp},T.ok S->(T.drop x).ok (without S x)
 |.nil,S,h=>by
  have:S = []:=h;subst this;exact rfl
 |.node m lo hi l r,S,h=>by
  obtain ⟨⟨h1,h2⟩,⟨h3,h4⟩,h5,h6⟩:=h;have nm:x.hi<m\/m<x.lo->without (Eo m S) x=Eo m S:=λhc=>Jc (by unfold Eo;simp;omega)
  have nl:¬x.hi<m->without (Em m S) x=Em m S:=λhc=>Jc (by unfold Em;simp;omega)
  have nr:¬m<x.lo->without (En m S) x=En m S:=λhc=>Jc (by unfold En;simp;omega)
  unfold Kn.drop;by_cases c1:x.hi<m
  ·rw [if_pos c1];unfold Kn.ok;rw [LZ,nm (.inl c1),J5,J6,nr (by omega)];exact ⟨⟨h1,h2⟩,⟨h3,h4⟩,Xf hx h5,h6⟩
  ·rw [if_neg c1];by_cases c2:m<x.lo
   ·rw [if_pos c2];unfold Kn.ok;rw [LZ,nm (.inr c2),J5,J6,nl c1];exact ⟨⟨h1,h2⟩,⟨h3,h4⟩,h5,Xf hx h6⟩
   ·rw [if_neg c2];unfold Kn.ok;rw [LZ,J5,J6,nl c1,nr c2];exact ⟨⟨OZ h1 x,h2.filter _⟩,⟨OZ h3 x,h4.filter _⟩,h5,h6⟩
theorem Og (x:Sp):∀T:Kn,(T.drop x).depth=T.depth
 |.nil=>rfl
 |.node m lo hi l r=>by
  unfold Kn.drop;split
  ·simp only [Kn.depth,Og x l]
  ·split
   ·simp only [Kn.depth,Og x r]
   ·rfl
theorem GV {n:Nat} (h:0<n) {k:Nat} (hk:2*k<=n):BA k+1<=BA n:=by
 have h1:=Di n;have hb:0<BA n:=by unfold BA;rw [if_neg (by omega)];omega
 have h2:2 ^ BA n=2*2 ^ (BA n - 1):=by rw [<-Nat.pow_succ'];congr 1;omega
 have:=BP k (BA n - 1) (by omega);omega
open Go.RowKit
theorem qH (v:Value) (l:List Sp) (w:World) (h:See CY w v l) (hid:∀s∈l,s.id<4294967296) (hl:l.length<1000000) :
 Calls Tryz.prog 169 #[v] w λe w'=>e=.returned (.bool (Oc l))/\Bj [] w w':=by
 obtain ⟨A,C,rfl⟩:=h.form;obtain ⟨N,hN⟩:=AU l.length;have hm0:=MapU.made MKI w;have hu0:Bj [] w (w.alloc (.map #[] 0)):=(Bj.refl _ _).alloc _;have hsz:w.heap.size<(w.alloc (.map #[] 0)).heap.size:=by simp
 have H:=AX h;have HN:=AX hN;have HI:=AX hid;have HM0:=AX hm0;have Gu:=AX hu0;rw [hN] at hl |-;clear h hN hid hm0 hu0;have hmm:=@run_makeMap Tryz.prog;go_enter Tryz.func169,Tryz.ntmps169
 go_upto_region 2 with fail
 clear hmm;generalize w.alloc (.map #[] 0)=W0 at HM0 Gu hsz |-;go_wp2_with fail
 go_loopg [9] N (λm s9 wr=>∃(k n:Nat) (f:Nat->Option Nat),m+k=N/\s9=.int .i64 (k:Int)/\MapU MKI wr w.heap.size f n/\Z5 l k f n/\(∀s∈l.take k,s.lo<=s.hi)/\Bj [w.heap.size] W0 wr)
 case atStart=>exact ⟨0,0,_,rfl,rfl,HM0.out,Z5.start l,by simp,Bj.refl _ _⟩
 case round=>
  obtain ⟨k,n,f,hk,rfl,hm,hc,ZR,hup⟩:=hrel;have k0:(0:Int)<=(k:Int):=AY _;have hkN:k<=N:=by omega
  have HK:=AX hk;have HM:=AX hm;have HC:=AX hc;have HR:=AX ZR;have HU:=AX hup;clear hk hm hc ZR hup;by_cases hlt:k<N
  ·obtain ⟨s,hs⟩:∃s,l[k]? = some s:=⟨_,Ba (by rw [HN.out];exact hlt)⟩;have hw1:Bj [] w wr:=Gu.out.trans' HU.out (λx hx=>.inr (by simp at hx;omega));have hse:See CY wr (.slice A l.length C) l:=H.out.BF hw1;have a3T:=HI.out s (List.mem_of_getElem? hs);have hcs:=HC.out.step hs k;obtain ⟨lo,hi,id⟩:=s;obtain ⟨g,o,rfl,-,-,ey⟩:=hse.at hs;have y0:wr.cell? ⟨g,o+k*3,none⟩=some (.int .i64 lo):=ey 0 _ rfl;have y1:wr.cell? ⟨g,o+k*3+1,none⟩=some (.int .i64 hi):=ey 1 _ rfl;have y2:wr.cell? ⟨g,o+k*3+2,none⟩=some (.int .u32 (id:Int)):=ey 2 _ rfl;have b1:(k:Int)<(N:Int):=by omega
   have hnb:n<=k:=HC.out.le;have hwz:=HU.out.size;have HS:=Aq hs hcs hw1;clear hs hcs hw1 hse ey;dsimp only at a3T;obtain ⟨wl,hwl⟩:∃wl:World,wl=wr:=⟨_,rfl⟩;subst hwl;go_upto_region 5 with fail
   have hu2:Bj [] wl (wl.alloc (.cells #[lo,hi,.int .u32 (id:Int)] 62)):=(Bj.refl _ _).alloc _;have hz2:wl.heap.size<(wl.alloc (.cells #[lo,hi,.int .u32 (id:Int)] 62)).heap.size:=by simp
   have d0:(wl.alloc (.cells #[lo,hi,.int .u32 (id:Int)] 62)).cell? wl.heap.size=some (.int .i64 lo):=by rw [World.cell?_alloc_at _ _ _ _ rfl];rfl
   have d1:(wl.alloc (.cells #[lo,hi,.int .u32 (id:Int)] 62)).cell? ⟨wl.heap.size,1,none⟩=some (.int .i64 hi):=by rw [World.cell?_alloc_at _ _ _ _ rfl];rfl
   have d2:(wl.alloc (.cells #[lo,hi,.int .u32 (id:Int)] 62)).cell? ⟨wl.heap.size,2,none⟩=some (.int .u32 (id:Int)):=by rw [World.cell?_alloc_at _ _ _ _ rfl];rfl
   have hm2:=HM.out.upd hu2 (by simp);generalize (wl.alloc (.cells #[lo,hi,.int .u32 (id:Int)] 62))=W2 at hu2 hz2 d0 d1 d2 hm2 |-;obtain ⟨w5,hput,nV,EZ,hz5⟩:=hm2.put a3T k (by unfold maxLen;omega);have hne:(wl.heap.size:Nat)∉[w.heap.size]:=by simp;omega
   have e0:=(EZ.cell (p:=⟨wl.heap.size,0,none⟩) hz2 hne).trans d0;have e1:=(EZ.cell (p:=⟨wl.heap.size,1,none⟩) hz2 hne).trans d1;have e2:=(EZ.cell (p:=⟨wl.heap.size,2,none⟩) hz2 hne).trans d2;have Yp:(Instr.mapUpdate 60 (.map (some w.heap.size)) (.int .u32 (id:Int)) (.int .i64 (k:Int))).run Tryz.prog W2=.ok () w5:=hput;have xP:=AX (Z7 ⟨lo,hi,id⟩ w5);unfold IE at xP;dsimp only at xP;have H5:=Ap nV ((HU.out.trans (hu2.mono (G:=[w.heap.size]) (by simp))).trans EZ);clear hput nV EZ hu2 hm2 y0 y1 y2 d0 d1;have a8z:W0.heap.size<=w5.heap.size:=H5.2.size;by_cases hb:lo<=hi
   ·have hbd:decide (lo<=hi)=true:=decide_eq_true hb;rw [hbd] at xP;go_wp2_with fail
    go_fit xP.out
    rintro e w6 ⟨rfl,u6⟩;have Ik:=AX u6;clear u6;go_wp2_with fail
    go_roundg (N - (k+1))
    case measure=>have:=HK.out;omega
    case rel=>
     refine ⟨k+1,_,_,Ac HK,by go_num,H5.1.upd Ik.out (by simp),HS.2.1,λs hs=>?_,H5.2.trans (Ik.out.mono (by simp))⟩
     obtain ⟨g1,g2⟩:=AZ HS.1;rw [Bd g1,g2,List.mem_append] at hs;rcases hs with hs | hs
     ·exact HR.out s hs
     ·simp at hs;subst hs;exact hb
   ·have hbd:decide (lo<=hi)=false:=decide_eq_false hb;rw [hbd] at xP;go_wp2_with fail
    go_fit xP.out
    rintro e w6 ⟨rfl,u6⟩;have Ik:=AX u6;clear u6;go_wp2_with fail
    go_ret
    refine ⟨?_,(Gu.out.trans' H5.2 (λx hx=>.inr (by simp at hx;omega))).trans Ik.out⟩
    have:Oc l=false:=by
     rw [Bool.eq_false_iff];intro hc;have h7:lo<=hi:=(J4.1 hc).1 _ (List.mem_of_getElem? HS.1);exact absurd h7 (by omega)
    rw [this];rfl
  ·have yR:k=N:=by omega
   have hL':l.take k=l:=by rw [yR,<-HN.out];exact List.take_length
   have ZR:=HR.out;have hcn:=HC.out.eq;rw [hL'] at ZR hcn
   have hfin:((n:Int)==(N:Int))=Oc l:=by
    rw [Bool.eq_iff_iff,J4];simp;constructor
    ·intro hc;exact ⟨ZR,hcn.1 (by omega)⟩
    ·rintro ⟨-,hc⟩;have:=hcn.2 hc;omega
   have hlen:=HM.out.len 3;have hlen2:(Builtin.len_ #[60] 3 #[.map (some w.heap.size)]).run Tryz.prog wr=.ok (.int .i64 (n:Int)) wr:=hlen;have HF:=AX hfin;clear hL' ZR hcn hfin hlen;go_wp2_with fail
   go_ret
   exact ⟨by rw [<-HF.out];rfl,Gu.out.trans' HU.out (λx hx=>.inr (by simp at hx;omega))⟩
def ay (w:World) (l:List Sp) (x:Sp) (e:Ending) (w':World):Prop:=
 Bj [] w w'/\((x∉l/\e=.returned (.int .i64 (-1)))\/∃k:Nat,l[k]? = some x/\e=.returned (k:Int))
theorem qI (v:Value) (l:List Sp) (x:Sp) (w:World) (hs:See CY w v l) (hb:l.length<1000000) :
 Calls Tryz.prog 174 #[v,IE x] w (ay w l x):=by
 obtain ⟨A,C,rfl⟩:=hs.form;obtain ⟨N,hN⟩:=AU l.length;rw [hN] at hs hb |-;have H:=AX hs;have HN:=AX hN;clear hs hN;obtain ⟨lo,hi,id⟩:=x;have HW0:=AX ((Bj.refl [] w).alloc (.cells #[lo,hi,.int .u32 (id:Int)] 62));have hz0:w.heap.size<(w.alloc (.cells #[lo,hi,.int .u32 (id:Int)] 62)).heap.size:=by simp
 have d0:(w.alloc (.cells #[lo,hi,.int .u32 (id:Int)] 62)).cell? w.heap.size=some (.int .i64 lo):=by rw [World.cell?_alloc_at _ _ _ _ rfl];rfl
 have d1:(w.alloc (.cells #[lo,hi,.int .u32 (id:Int)] 62)).cell? ⟨w.heap.size,1,none⟩=some (.int .i64 hi):=by rw [World.cell?_alloc_at _ _ _ _ rfl];rfl
 have d2:(w.alloc (.cells #[lo,hi,.int .u32 (id:Int)] 62)).cell? ⟨w.heap.size,2,none⟩=some (.int .u32 (id:Int)):=by rw [World.cell?_alloc_at _ _ _ _ rfl];rfl
 unfold IE;dsimp only;go_enter Tryz.func174,Tryz.ntmps174
 go_upto_region 1 with fail
 generalize (w.alloc (.cells #[lo,hi,.int .u32 (id:Int)] 62))=W0 at HW0 hz0 d0 d1 d2 |-;go_wp2_with fail
 go_loopg [8] N (λm s8 wr=>∃k:Nat,m+k=N/\s8=.int .i64 (k:Int)/\(⟨lo,hi,id⟩:Sp)∉l.take k/\Bj [] W0 wr)
 case atStart=>exact ⟨0,rfl,rfl,by simp,Bj.refl _ _⟩
 case round=>
  obtain ⟨k,hk,rfl,hno,hup⟩:=hrel;have k0:(0:Int)<=(k:Int):=AY _;have hkN:k<=N:=by omega
  have hw1:Bj [] w wr:=HW0.out.trans hup;have e0:=(hup.cell (p:=⟨w.heap.size,0,none⟩) hz0 (by simp)).trans d0;have e1:=(hup.cell (p:=⟨w.heap.size,1,none⟩) hz0 (by simp)).trans d1;have e2:=(hup.cell (p:=⟨w.heap.size,2,none⟩) hz0 (by simp)).trans d2;have HK:=Au hk hno hup hw1;clear hk hno hup;by_cases hlt:k<N
  ·obtain ⟨s,hs⟩:∃s,l[k]? = some s:=⟨_,Ba (by rw [HN.out];exact hlt)⟩;have hse:See CY wr (.slice A N C) l:=H.out.BF hw1;have HS:=AX hs;obtain ⟨lo2,hi2,id2⟩:=s;obtain ⟨g,o,rfl,-,-,ey⟩:=hse.at hs;have y0:wr.cell? ⟨g,o+k*3,none⟩=some (.int .i64 lo2):=ey 0 _ rfl;have y1:wr.cell? ⟨g,o+k*3+1,none⟩=some (.int .i64 hi2):=ey 1 _ rfl;have y2:wr.cell? ⟨g,o+k*3+2,none⟩=some (.int .u32 (id2:Int)):=ey 2 _ rfl;have b1:(k:Int)<(N:Int):=by omega
   have heq:=λw=>a3O ⟨lo,hi,id⟩ ⟨lo2,hi2,id2⟩ w
   clear hs hse ey hw1 d0 d1 d2;by_cases hxy:(⟨lo,hi,id⟩:Sp)=⟨lo2,hi2,id2⟩
   ·rw [decide_eq_true hxy] at heq;unfold IE at heq;dsimp only at heq;have HE:=AX hxy;clear hxy;go_wp2_with fail
    go_quiet (fail)
    go_wp2_with fail
    go_ret
    exact ⟨HK.2.2.2.drewN _,.inr ⟨k,by rw [HS.out,HE.out],rfl⟩⟩
   ·rw [decide_eq_false hxy] at heq;unfold IE at heq;dsimp only at heq;have HE:=AX hxy;clear hxy;go_wp2_with fail
    go_quiet (fail)
    go_wp2_with fail
    go_roundg (N - (k+1))
    case measure=>have:=HK.1;omega
    case rel=>
     refine ⟨k+1,Ac HK.1,by go_num,?_,HK.2.2.1.drewN _⟩
     obtain ⟨h1,h2⟩:=AZ HS.out;rw [Bd h1,h2,List.mem_append];rintro (hc | hc)
     ·exact HK.2.1 hc
     ·exact HE.out (by simpa using hc)
  ·have hkn:k=N:=by omega
   have hno:=HK.2.1;rw [hkn,<-HN.out,List.take_length] at hno;have nX:=AX hno;clear hno hkn;go_wp2_with fail
   go_ret
   exact ⟨HK.2.2.2,.inl ⟨nX.out,rfl⟩⟩
def yS (w:World) (base g C:Nat) (l:List Sp) (k:Nat) (e:Ending) (w':World):Prop:=
 e=.returned (.slice (some ⟨g,0,none⟩) (l.length - 1) C)/\CY.row w' base (.slice (some ⟨g,0,none⟩) (l.length - 1) C) (l.eraseIdx k)/\Bj [g] w w'
theorem yT (base g n C:Nat) (l:List Sp) (k:Nat) (w:World) (h:CY.row w base (.slice (some ⟨g,0,none⟩) n C) l) (hn:l.length=n) (hk:k<n) (hb:n<1000000) :
 Calls Tryz.prog 175 #[.slice (some ⟨g,0,none⟩) n C,(k:Int),.int .i64 ((k:Int)+1)] w (yS w base g C l k):=by
 obtain ⟨i1,hi1,hy0,hy1,hy2⟩:=info_parts Nc
 have hown:w.ownsRow base 62 3 (.slice (some ⟨g,0,none⟩) n C) n (CY.all l):=by
  have:=h;unfold Kind.row at this;rwa [hn] at this
 have Xg:=MS hown;have hse:D5 w 3 (.slice (some ⟨g,0,none⟩) n C) n (CY.all l):=CV hown
 have hCm:C<=maxLen:=by
  rcases hown.2 with ⟨h2,_⟩ | ⟨g',cap,cur,h2,h3,h4,h5,h6,h7,h8⟩
  ·cases h2
  ·cases h2;exact h6
 obtain ⟨v3,c3⟩:=jS (P:=Tryz.prog) Tryz.underlying56 hi1 g n C k hk Xg;have c1:=Tc (P:=Tryz.prog) Tryz.underlying56 hi1 g n C k (by omega);obtain ⟨A2,C2,c2,s2,-⟩:=Jw (P:=Tryz.prog) (t:=56) Tryz.underlying56 hi1 hy1 hse (k+1) (by omega);have c2':∀w',(Instr.slice 56 (.slice (some ⟨g,0,none⟩) n C) (some (.int .i64 ((k:Int)+1))) none none).run Tryz.prog w'=.ok (.slice A2 (n - (k+1)) C2) w':=c2;obtain ⟨m,hm⟩:=AU (n - (k+1));rw [hm] at c2' s2;have c4:=aj (P:=Tryz.prog) Tryz.underlying56 hi1 hy1 g (k+m) C n (by omega) Xg;have e1:((k+m:Nat):Int)=(k:Int)+(m:Int):=by omega
 have e2:n - (k+m)=1:=by omega
 rw [e1,e2] at c4;have hkn:((k:Int)==(k:Int)+1)=false:=by rw [beq_eq_false_iff_ne];omega
 have k0:(0:Int)<=(k:Int):=AY _;have k1:(k:Int)<(n:Int):=by omega
 have n0:(n:Int)<1000000:=by omega
 have m0:(0:Int)<=(m:Int):=AY _;have m1:(m:Int)<1000000:=by omega
 have htake:=S9 hown k (by omega);have HS:=AX (s2 w.drew (D5.drew hse));have HT:=AX (EY htake);have HN:=Aq hn hm hk;have HC:=AX Xg;clear h hown hse c2 s2 htake e1 e2 hn hm hk Xg;go_enter Tryz.func175,Tryz.ntmps175
 go_upto_region 5 with fail
 go_region_law (refine TP _ rfl (.tmp 22) (.tmp 25) 56 rfl base 62 i1 3 Tryz.underlying56 hi1 hy1 g k C _ (by simp [Act.eval,Act.put]) HT.out _ m _ (by simp [Act.eval,Act.put]) HS.out (by rw [<-qF];exact CY.DU _) (Ad HN HC) ?_;intro w2 ho2 hu2)
 have HO2:=AX ho2;have Ej:=AX hu2
 have hcl:∀ty,(Builtin.clear_ #[56] ty #[.slice (some ⟨g,(k+m)*3,none⟩) 1 (C - (k+m))]).run Tryz.prog w2=.ok (.tuple #[]) (w2.setCells g ((k+m)*3) (Builtin.zeroCells (Value.agg #[.int .i64 0,.int .i64 0,.int .u32 0]).cells 1).toList):=λty=>
  Jl (size:=3) w2 _ 62 ty _ Tryz.underlying56 VJ rfl (by simp [Value.oneCell',Value.cells]) (by decide) g _ 1 _ (by decide)
   (λj hj=>by have h1:=HN.out;have h2:=HC.out;exact (Gx ho2 ((k+m)*3+j) (by omega)).1) (λj hj=>by have h1:=HN.out;have h2:=HC.out;exact (Gx ho2 ((k+m)*3+j) (by omega)).2)
 obtain ⟨LL,QT⟩:=AU ((Builtin.zeroCells (Value.agg #[.int .i64 0,.int .i64 0,.int .u32 0]).cells 1).toList);rw [QT] at hcl;clear ho2 hu2 QT c1 c2' c3;go_wp2_with fail
 go_ret
 refine ⟨?_,?_,?_⟩
 ·have:=HN.out;rw [show l.length - 1=k+m by omega];rfl
 ·have h1:=HN.out;have h2:=F5 LL w2 ((k+m)*3) HO2.out (Nat.le_refl _);have h3:(l.eraseIdx k).length=k+m:=by rw [List.length_eraseIdx_of_lt (by omega)];omega
  unfold Kind.row;rw [show l.length - 1=k+m by omega,h3]
  have h4:CY.all (l.eraseIdx k)=(CY.all l).take (k*3)++(CY.all l).drop ((k+1)*3):=by
   rw [List.eraseIdx_eq_take_drop_succ,CY.BZ,CY.Iw,CY.Js];rfl
  rw [h4];exact h2
 ·exact ((Bj.refl [g] w).drew.trans Ej.out).trans (LW LL w2 _)
