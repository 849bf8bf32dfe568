/- Spans: how they lie in memory; are they right; the names of those that a number stabs. What slices.Delete and its like need: an append within the room of an owned row, 'clear' on a slice of structs, stores behind a row's end. No program. slices.Delete of one span. slices.Clone, Index and IndexFunc at spans. cmp.Compare at int64 and uint32; item.first, by, ByLo, ByHi. An interval tree, plainly: what it tells of a number, what it touches, what a drop leaves. No program. ivl.right: are these spans, of unlike names? slices.Index at spans. slices.Delete of one span. -/
import Derived.Laws.OwnMore
import Derived.Laws.StructEq
import Derived.Deep.RegionLaw
import Derived.BigQuiet
import Derived.WalkMore
import Derived.Test.YtkbaaonchdeneaaGreatPkSpansTellP2
import Derived.Test.YtkbaaonchdeneaaGreatPk6
import Derived.Test.YtkbaaonchdeneaaGreatPk8
import Derived.Test.YtkbaaonchdeneaaGreatPkSpansTellP4
set_option maxHeartbeats 4000000
set_option maxRecDepth 100000
namespace Go.Proofs.YtkbaaonchdeneaaGreat
open Go.RowKit
def spV (s:Sp):Value:=.agg #[.int .i64 s.lo,.int .i64 s.hi,.int .u32 (s.id:Int)]
def KSp:Kind Sp:={ T:=0,sT:=56,eT:=62,sz:=3,enc:=fun p=>[.int .i64 p.lo,.int .i64 p.hi,.int .u32 (p.id:Int)],len:=fun _=>rfl,one:=fun b u hu=>by simp at hu;rcases hu with rfl | rfl | rfl<;>rfl }
def MKI:MK Nat:={ T:=60,k:=26,e:=3,enc:=fun n=>.int .i64 (n:Int),zero:=0,hT:=Tryz.underlying60,hk:=Tryz.underlying26,hz:=fun w=>(by kernel_rfl),inj:=fun x y h=>by simp at h;omega }
def rightS (l:List Sp):Bool:=l.all (fun s=>decide (s.lo≤s.hi))&&decide ((l.map Sp.id).Nodup)
theorem rightS_iff {l:List Sp}:rightS l=true↔(∀s∈l,s.lo≤s.hi)∧(l.map Sp.id).Nodup:=by
 unfold rightS
 simp
structure CntR (l:List Sp) (k:Nat) (f:Nat→Option Nat) (n:Nat):Prop where
 has:∀x:Nat,(f x).isSome=true↔x∈(l.take k).map Sp.id
 le:n≤k
 eq:n=k↔((l.take k).map Sp.id).Nodup
theorem CntR.start (l:List Sp):CntR l 0 (fun _=>none) 0:=⟨by simp,Nat.le_refl _,by simp⟩
theorem CntR.step {l:List Sp} {k:Nat} {f:Nat→Option Nat} {n:Nat} (h:CntR l k f n) {s:Sp} (hs:l[k]? = some s) (v:Nat) :
 CntR l (k+1) (fun y=>if y=s.id then some v else f y) (if (f s.id).isSome then n else n+1):=by
 obtain ⟨h1,h2⟩:=List.getElem?_eq_some_iff.1 hs
 have e:(l.take (k+1)).map Sp.id=(l.take k).map Sp.id++[s.id]:=by rw [List.take_succ_eq_append_getElem h1,h2,List.map_append];rfl
 have hle:=h.le
 have heq:=h.eq
 have hin:=h.has s.id
 refine ⟨fun x=>?_,?_,?_⟩
 ·rw [e,List.mem_append]
  by_cases hx:x=s.id
  ·simp [hx]
  ·have:=h.has x
   simp [hx] at this ⊢
   exact this
 ·split<;>omega
 ·rw [e,List.nodup_append]
  by_cases hf:(f s.id).isSome=true
  ·rw [if_pos hf]
   have:=hin.1 hf
   constructor
   ·intro hc;omega
   ·rintro ⟨-,-,hc⟩
    exact absurd rfl (hc _ this _ (by simp))
  ·rw [if_neg hf]
   have hni:s.id∉(l.take k).map Sp.id:=fun hc=>hf (hin.2 hc)
   constructor
   ·intro hc
    refine ⟨heq.1 (by omega),by simp,?_⟩
    intro a ha b hb hab
    simp at hb
    subst hb
    exact hni (hab ▸ ha)
   ·rintro ⟨hc,-,-⟩
    have:=heq.2 hc
    omega
theorem rightSpanC (s:Sp) (w:World):Calls Tryz.prog 82 #[spV s] w fun e w'=>e=.returned (.bool (decide (s.lo≤s.hi)))∧Upd [] w w':=by
 unfold spV
 go_enter Tryz.func82,Tryz.ntmps82
 go_wp2_with fail
 go_ret
 exact ⟨rfl,(Upd.refl _ _).alloc _⟩
def endsL (l:List Sp):List Int:=l.flatMap fun s=>[s.lo,s.hi]
def endsS (l:List Sp):List Int:=sqz (endsL l)
theorem endsL_len (l:List Sp):(endsL l).length=2*l.length:=by
 induction l with
 |nil=>rfl
 |cons s l ih=>
  have e:endsL (s::l) = [s.lo,s.hi]++endsL l:=by simp [endsL]
  rw [e,List.length_append,ih,List.length_cons];simp;omega
theorem endsL_app (a b:List Sp):endsL (a++b)=endsL a++endsL b:=by simp [endsL]
theorem endsS_len (l:List Sp):(endsS l).length≤2*l.length:=by
 have:=sqz_len (endsL l)
 rw [endsL_len] at this
 exact this
theorem endsS_rise (l:List Sp):(endsS l).Pairwise (· < ·):=sqz_rise _
instance decSp:DecidableEq Sp:=fun a b=>if h:a.lo=b.lo∧a.hi=b.hi∧a.id=b.id then isTrue (by cases a;cases b;simp_all) else isFalse (fun e=>h (by rw [e];exact ⟨rfl,rfl,rfl⟩))
def without (S:List Sp) (x:Sp):List Sp:=S.filter fun s=>decide (s≠x)
theorem without_not {S:List Sp} {x:Sp} (h:x∉S):without S x=S:=by
 unfold without
 rw [List.filter_eq_self]
 intro s hs
 simp only [decide_eq_true_eq]
 rintro rfl
 exact h hs
theorem nodup_of_names {S:List Sp} (h:(S.map Sp.id).Nodup):S.Nodup:=by
 induction S with
 |nil=>exact List.nodup_nil
 |cons s S ih=>
  rw [List.map_cons,List.nodup_cons] at h
  exact List.nodup_cons.2 ⟨fun hc=>h.1 (List.mem_map_of_mem hc),ih h.2⟩
theorem eraseIdx_filter {l:List Sp} (h:l.Nodup):∀{i:Nat} {x:Sp},l[i]? = some x→l.eraseIdx i=l.filter fun s=>decide (s≠x):=by
 induction l with
 |nil=>intro i x hx;simp at hx
 |cons a l ih=>
  intro i x hx
  rw [List.nodup_cons] at h
  cases i with
  |zero=>
   simp at hx;subst hx
   rw [List.eraseIdx_zero,List.tail_cons,List.filter_cons,if_neg (by simp)]
   symm
   rw [List.filter_eq_self]
   intro s hs
   simp only [decide_eq_true_eq]
   rintro rfl
   exact h.1 hs
  |succ i=>
   have hx':l[i]? = some x:=by simpa using hx
   have hne:a≠x:=fun e=>h.1 (by rw [e];exact List.mem_of_getElem? hx')
   rw [List.eraseIdx_cons_succ,ih h.2 hx',List.filter_cons,if_pos (by simpa using hne)]
theorem without_len {S:List Sp} (h:S.Nodup) {x:Sp} (hx:x∈S):(without S x).length+1=S.length:=by
 obtain ⟨i,hi⟩:=List.mem_iff_getElem?.1 hx
 have hl:=(List.getElem?_eq_some_iff.1 hi).1
 unfold without
 rw [←eraseIdx_filter h hi,List.length_eraseIdx_of_lt hl]
 omega
theorem eqSp (a b:Sp) (w:World):(binOp .eql 62 (spV a) (spV b)).run Tryz.prog w=.ok (.bool (decide (a=b))) w:=by
 unfold spV
 rw [run_eql_struct,run_equalIn_agg _ _ _ _ _ (by kernel_rfl) (by kernel_rfl)]
 go_simp
 obtain ⟨a1,a2,a3⟩:=a
 obtain ⟨b1,b2,b3⟩:=b
 by_cases h1:a1=b1<;>by_cases h2:a2=b2<;>by_cases h3:a3=b3<;>simp_all<;>omega
theorem sortN_congr {l m:List Nat} (h:l.Perm m):sortN l=sortN m:=sortN_eq ((sortN_perm l).trans h) (sortN_le l)
def stabL (S:List Sp) (x:Int):List Nat:=sortN ((S.filter fun s=>stabBM s.lo s.hi x).map Sp.id)
theorem stabL_len (S:List Sp) (x:Int):(stabL S x).length≤S.length:=by
 unfold stabL
 rw [sortN_len,List.length_map]
 exact List.length_filter_le _ _
theorem KU.atS {w:World} {A:Option Addr} {n C:Nat} {l:List Nat} (h:See KU w (.slice A n C) l) {k:Nat} {x:Nat} (hx:l[k]? = some x) :
 ∃b o,A=some ⟨b,o,none⟩∧n≤C∧C≤maxLen∧w.cell? ⟨b,o+k,none⟩=some (.int .u32 (x:Int)):=by
 obtain ⟨b,o,h1,h2,h3,h4⟩:=h.at hx
 have:=h4 0 _ rfl
 exact ⟨b,o,h1,h2,h3,by simpa [KU] using this⟩
theorem stabL_perm {l m:List Sp} (h:l.Perm m) (x:Int):stabL l x=stabL m x:=sortN_congr ((h.filter _).map Sp.id)
theorem stabL_lit {S:List Sp} {x:Int} {L:List Nat} (h:((S.filter fun s=>stabBM s.lo s.hi x).map Sp.id)=L) (hs:L.Pairwise (·≤·)):decide (stabL S x=L)=true:=by
 rw [decide_eq_true_iff]
 unfold stabL
 rw [h]
 exact (sortN_eq (List.Perm.refl _) hs).symm
theorem infoU32S:(Tryz.prog.info? 26).map (fun i=>(i.zero,i.size,i.bytes))=some (some (.int .u32 0),1,4):=by kernel_rfl
def StabPost (w:World) (L:List Nat) (t:Nat) (e:Ending) (w':World):Prop:=∃A C,e=.returned (.tuple #[.slice A L.length C,.int .i64 (t:Int)])∧KU.row w' w.heap.size (.slice A L.length C) L∧Upd [] w w'
section
variable {P:Program} (w:World)
theorem run_app_spare (base:Nat) (t ty e:TypeId) (i:TypeInfo) (size:Nat) (ht:P.underlying t=some (.slice e)) (hi:P.info? e=some i) (hsize:i.size=size)
 (g n cap:Nat) (xs:List Value) (hown:w.ownsRow base e size (.slice (some ⟨g,0,none⟩) n cap) n xs)
 (x:Value) (m:Nat) (news:List Value) (hx:Sees w size x m news) (h1:∀u∈news,u.oneCell'=true) (hroom:n+m≤cap) :
 ∃w',(Builtin.append_ #[t,t] ty #[.slice (some ⟨g,0,none⟩) n cap,x]).run P w=.ok (.slice (some ⟨g,0,none⟩) (n+m) cap) w'∧
  w'.ownsRow base e size (.slice (some ⟨g,0,none⟩) (n+m) cap) (n+m) (xs++news)∧w.grownBy w' (some g):=by
 rcases hx.2 with ⟨rfl,rfl⟩ | ⟨b,o,s,c,rfl,h3,h4,h5,h6⟩
 ·have hn:news = []:=List.eq_nil_of_length_eq_zero (by simpa using hx.1)
  subst hn
  subst hsize
  have hr:=run_append_owned_none (P:=P) (w:=w) base t ty e i i.size ht hi _ n xs hown
  exact ⟨w,by simpa using hr,by simpa using hown,⟨rfl,rfl,rfl,Nat.le_refl _,fun _ _ _=>rfl⟩⟩
 ·refine run_append_fits (P:=P) w base t ty e i size ht hi hsize g n cap xs hown ⟨b,o,s⟩ m c news hx.1 (fun j u hu=>?_) h1 hroom
  have hm:0<m:=by
   rcases Nat.eq_zero_or_pos m with h0 | h0
   ·subst h0
    have hx0:news = []:=List.eq_nil_of_length_eq_zero (by simpa using hx.1)
    subst hx0;simp at hu
   ·exact h0
  have hs:=h3 (by omega)
  subst hs
  rw [addr_add];exact h6 j u hu
theorem step_app_spare {ops:Array Oper} {o:Oper} {a:Act} {K:Act→World→Prop} {Q:Exit→Act→World→Prop} {E:Prop} (hgd:o.guard=none) (s x:Operand) (t:TypeId)
 (ho:o.op=.call { callee:=.builtin .append,args:=#[s,x],argTypes:=#[t,t] })
 (base:Nat) (e:TypeId) (i:TypeInfo) (size:Nat) (ht:P.underlying t=some (.slice e)) (hi:P.info? e=some i) (hsize:i.size=size)
 (g n cap:Nat) (xs:List Value) (hs:a.eval s=.slice (some ⟨g,0,none⟩) n cap) (hown:w.ownsRow base e size (.slice (some ⟨g,0,none⟩) n cap) n xs)
 (vx:Value) (m:Nat) (news:List Value) (hx:a.eval x=vx) (hsee:Sees w size vx m news) (h1:∀u∈news,u.oneCell'=true) (hroom:n+m≤cap)
 (h:∀w',w'.ownsRow base e size (.slice (some ⟨g,0,none⟩) (n+m) cap) (n+m) (xs++news)→Upd [g] w w'→K (a.put o.dst (.slice (some ⟨g,0,none⟩) (n+m) cap)) w') :
 if Region.wanted o (yielded ops a.tmps)=true then Oper.wp P o a w K Q else E:=by
 have hw:Region.wanted o (yielded ops a.tmps)=true:=by simp [Region.wanted,hgd]
 rw [if_pos hw]
 obtain ⟨w',hr,h2,h3⟩:=run_app_spare (P:=P) w base t o.type e i size ht hi hsize g n cap xs hown vx m news hsee h1 hroom
 unfold Oper.wp execOp
 simp only [ho,resolve,invoke,builtin,Sem.run_bind,Sem.run_pure,Result.andThen_ok,List.map_toArray,List.map_cons,List.map_nil,hs,hx,hr]
 exact h w' h2 ((Upd.refl _ _).grown h3 fun k hk=>.inl (by simpa using hk.symm))
end
section
variable {P:Program} {w:World} {base:Nat} {e:TypeId} {size g n C:Nat} {xs:List Value}
theorem own_set_behind (h:w.ownsRow base e size (.slice (some ⟨g,0,none⟩) n C) n xs) (j:Nat) (u:Value) (hj:n*size≤j):(w.setCell ⟨g,j,none⟩ u).ownsRow base e size (.slice (some ⟨g,0,none⟩) n C) n xs:=by
 have:=(World.ownsRow.stored h j u).1
 rwa [List.set_eq_of_length_le (by rw [h.1];exact hj)] at this
theorem own_sets_behind:∀(l:List Value) (w:World) (j:Nat),w.ownsRow base e size (.slice (some ⟨g,0,none⟩) n C) n xs→n*size≤j→(w.setCells g j l).ownsRow base e size (.slice (some ⟨g,0,none⟩) n C) n xs
 | [],_,_,h,_=>h
 |v::l,w,j,h,hj=>own_sets_behind l (w.setCell ⟨g,j,none⟩ v) (j+1) (own_set_behind h j v hj) (by omega)
theorem upd_sets:∀(l:List Value) (w:World) (j:Nat),Upd [g] w (w.setCells g j l)
 | [],_,_=>Upd.refl _ _
 |v::l,w,j=>((Upd.refl [g] w).setCell (p:=⟨g,j,none⟩) (.inl (by simp)) v).trans (upd_sets l _ (j+1))
theorem run_clear_any (w:World) (t e ty:TypeId) (z:Value) (ht:P.underlying t=some (.slice e)) (hv:∀w,(zeroValue e).run P w=.ok z w) (hk:z.cells.size=size) (h1:∀u∈z.cells.toList,u.oneCell'=true) (hsz:0<size) (b o n c:Nat) (hn:0<n)
 (hc:∀j,j<n*size→(w.cell? ⟨b,o+j,none⟩).isSome=true) (hf:∀j,j<n*size→w.frozen? ⟨b,o+j,none⟩=false) :
 (Builtin.clear_ #[t] ty #[.slice (some ⟨b,o,none⟩) n c]).run P w=.ok (.tuple #[]) (w.setCells b o (Builtin.zeroCells z.cells n).toList):=by
 have hlen:(Builtin.zeroCells z.cells n).toList.length=n*size:=by simp [Builtin.zeroCells,hk]
 have hone:∀v∈(Builtin.zeroCells z.cells n).toList,v.oneCell'=true:=by
  intro v hv'
  simp only [Builtin.zeroCells,Array.toList_map,List.mem_map] at hv'
  obtain ⟨i,_,rfl⟩:=hv'
  refine h1 _ ?_
  have:i % z.cells.size<z.cells.size:=Nat.mod_lt _ (by omega)
  rw [getElem!_pos z.cells (i % z.cells.size) this]
  exact Array.getElem_mem_toList this
 have hst:=run_storeCells_cells (P:=P) b o (Builtin.zeroCells z.cells n).toList 0 w (by rw [hlen];simpa using hc) (by rw [hlen];simpa using hf) hone
 simp only [Nat.add_zero] at hst
 obtain ⟨m,rfl⟩:∃m,n=m+1:=⟨n - 1,by omega⟩
 simp [Builtin.clear_,run_underlying ht,hv,hst]
theorem own_room (h:w.ownsRow base e size (.slice (some ⟨g,0,none⟩) n C) n xs) (j:Nat) (hj:j<C*size):(w.cell? ⟨g,j,none⟩).isSome=true∧w.frozen? ⟨g,j,none⟩=false:=by
 rcases h.2 with ⟨h2,_⟩ | ⟨g',cap,cur,h2,h3,h4,h5,h6,h7,h8⟩
 ·cases h2
 ·cases h2
  refine ⟨?_,World.ownsRow.frozenAt h j⟩
  have hlt:j<cur.size:=by omega
  simp [World.cell?,h4,hlt]
theorem cut_three {t e:TypeId} {i:TypeInfo} (ht:P.underlying t=some (.slice e)) (hi:P.info? e=some i) (g n C k:Nat) (hk:k+1≤n) (hn:n≤C) :
 ∃v,∀w,(Instr.slice t (.slice (some ⟨g,0,none⟩) n C) (some (.int .i64 (k:Int))) (some (.int .i64 ((k:Int)+1))) (some (.int .i64 (n:Int)))).run P w=.ok v w:=by
 have hel:P.elem t=e:=by simp [Program.elem,ht]
 refine ⟨sliced (some ⟨g,0,none⟩) k (k+1) n i.size,fun w=>?_⟩
 rw [run_slice_lhm w t (some ⟨g,0,none⟩) n C (elem_of ht) .i64 .i64 .i64 _ _ _ (by omega) (by omega) (by omega) (by omega)]
 simp [hel,sizeOf,typeInfo,hi]
theorem cut_behind {t e:TypeId} {i:TypeInfo} (ht:P.underlying t=some (.slice e)) (hi:P.info? e=some i) (hsize:i.size=size) (g n C k:Nat) (hk:n<k) (hn:k≤C) (w:World) :
 (Instr.slice t (.slice (some ⟨g,0,none⟩) n C) (some (.int .i64 (n:Int))) (some (.int .i64 (k:Int))) none).run P w=.ok (.slice (some ⟨g,n*size,none⟩) (k - n) (C - n)) w:=by
 subst hsize
 have hel:P.elem t=e:=by simp [Program.elem,ht]
 rw [run_slice_lh w t (some ⟨g,0,none⟩) n C (elem_of ht) .i64 .i64 _ _ (by omega) (by omega) (by omega)]
 have hne:¬C=n:=by omega
 simp [hel,sizeOf,typeInfo,hi,sliced,addr_add,hne]
end
theorem infoSpanD:(Tryz.prog.info? 62).map (fun i=>(i.zero,i.size,i.bytes))=some (some (.agg #[.int .i64 0,.int .i64 0,.int .u32 0]),3,24):=by kernel_rfl
theorem zeroSpanD:∀w,(zeroValue 62).run Tryz.prog w=.ok (.agg #[.int .i64 0,.int .i64 0,.int .u32 0]) w:=fun w=>(by kernel_rfl)
theorem kh_dropS (l:List Sp) (k:Nat):KSp.all (l.drop k)=(KSp.all l).drop (k*3):=KSp.all_drop l k
def CloneSPost (w:World) (l:List Sp) (e:Ending) (w':World):Prop:=
 Upd [] w w'∧∃A C,e=.returned (.slice A l.length C)∧KSp.row w' w.heap.size (.slice A l.length C) l
theorem cloneSp (v:Value) (l:List Sp) (w:World) (hs:See KSp w v l) (hb:l.length<1000000) :
 Calls Tryz.prog 170 #[v] w (CloneSPost w l):=by
 obtain ⟨i0,hi,hz0,hz1,hz2⟩:=info_parts infoSpanD
 obtain ⟨n,hn⟩:∃n,l.length=n:=⟨_,rfl⟩
 have hx1:∀u∈KSp.all l,u.oneCell'=true:=KSp.all_one l
 have hs':Sees w 3 v n (KSp.all l):=by rw [←hn];exact hs
 have HS:=Lib.hid hs'
 have HX:=Lib.hid hx1
 have HN:=Lib.hid hn
 rw [hn] at hb
 have HB:=Lib.hid hb
 clear hx1 hn hb hs
 unfold CloneSPost
 rcases hs'.2 with ⟨rfl,rfl⟩ | ⟨b,o,sp,cap,rfl,_⟩
 ·clear hs'
  have he:=fun w=>Lib.run_eql_slice_nil (P:=Tryz.prog) (w:=w) 56 62 none 0 0 0 0 Tryz.underlying56
  go_enter Tryz.func170,Tryz.ntmps170
  go_wp2
  go_ret
  have hx:l = []:=List.eq_nil_of_length_eq_zero HN.out
  subst hx
  exact ⟨Upd.refl _ _,none,0,rfl,World.ownsRow_nil _ _ _ _⟩
 ·clear hs'
  have he:=fun w=>Lib.run_eql_slice_nil (P:=Tryz.prog) (w:=w) 56 62 (some ⟨b,o,sp⟩) n cap 0 0 Tryz.underlying56
  go_enter Tryz.func170,Tryz.ntmps170
  go_wp2_with (at_builtin;refine wpList_app _ rfl _ _ 56 rfl w.heap.size 62 i0 _ 3 24 Tryz.underlying56 hi hz0 hz1 hz2 rfl (by decide) _ 0 [] rfl (World.ownsRow_made w #[] 0 (Nat.le_refl _) (by decide) rfl) _ n (KSp.all l) rfl (sees_upd HS.out ((Upd.refl [] w).alloc _) (by simp)) HX.out (by have:=HB.out;unfold maxLen;omega) (by have:=HB.out;omega) (by simp) ?_)
  intro A C w1 HP
  have HU:=HP.upd
  have hb1:Upd [] w w1:=(((Upd.refl [] w).alloc _).trans' HU (fun k hk=>by simp [blk] at hk;omega))
  have hown:w1.ownsRow w.heap.size 62 3 (.slice A n C) n (KSp.all l):=by simpa using HP.own
  clear he
  go_wp2
  go_ret
  refine ⟨hb1,A,C,by rw [HN.out];rfl,?_⟩
  unfold Kind.row
  rw [HN.out]
  exact hown
def cmpI (x y:Int):Int:=if x<y then -1 else if y<x then 1 else 0
def byI (a b x y:Int):Int:=if cmpI a b=0 then cmpI x y else cmpI a b
theorem cmpI_lt {x y:Int} (h:x<y):cmpI x y = -1:=by unfold cmpI;rw [if_pos h]
theorem cmpI_gt {x y:Int} (h:y<x):cmpI x y=1:=by unfold cmpI;rw [if_neg (by omega),if_pos h]
theorem cmpI_eq {x y:Int} (h:x=y):cmpI x y=0:=by unfold cmpI;rw [if_neg (by omega),if_neg (by omega)]
theorem nanI (x:Int) (w:World):Calls Tryz.prog 240 #[.int .i64 x] w fun e w'=>e=.returned (.bool false)∧w=w':=by
 go_enter Tryz.func240,Tryz.ntmps240
 go_wp2_with fail
 go_ret
 exact ⟨by simp,rfl⟩
theorem nanN (x:Int) (w:World):Calls Tryz.prog 204 #[.int .u32 x] w fun e w'=>e=.returned (.bool false)∧w=w':=by
 go_enter Tryz.func204,Tryz.ntmps204
 go_wp2_with fail
 go_ret
 exact ⟨by simp,rfl⟩
theorem cmpInt (x y:Int) (w:World):Calls Tryz.prog 182 #[.int .i64 x,.int .i64 y] w fun e w'=>e=.returned (.int .i64 (cmpI x y))∧w=w':=by
 have H1:=Lib.hid (nanI x w)
 have H2:=Lib.hid (nanI y w)
 obtain ⟨r,hr⟩:∃r,cmpI x y=r:=⟨_,rfl⟩
 rw [hr]
 rcases Int.lt_trichotomy x y with h | h | h
 ·have e1:decide (x<y)=true:=decide_eq_true h
  have HR:=Lib.hid ((cmpI_lt h).symm.trans hr)
  clear hr
  go_enter Tryz.func182,Tryz.ntmps182
  go_wp2_with fail
  (with_reducible refine H1.out.mono ?_)
  rintro e w' ⟨rfl,rfl⟩
  go_wp2_with fail
  (with_reducible refine H2.out.mono ?_)
  rintro e w' ⟨rfl,rfl⟩
  go_wp2_with fail
  go_ret
  exact ⟨by rw [←HR.out];rfl,rfl⟩
 ·have HR:=Lib.hid ((cmpI_eq h).symm.trans hr)
  have h1:¬x<y:=by omega
  have h2:¬y<x:=by omega
  clear hr h
  go_enter Tryz.func182,Tryz.ntmps182
  go_wp2_with fail
  (with_reducible refine H1.out.mono ?_)
  rintro e w' ⟨rfl,rfl⟩
  go_wp2_with fail
  (with_reducible refine H2.out.mono ?_)
  rintro e w' ⟨rfl,rfl⟩
  go_wp2_with fail
  go_ret
  exact ⟨by rw [←HR.out];rfl,rfl⟩
 ·have HR:=Lib.hid ((cmpI_gt h).symm.trans hr)
  have h1:¬x<y:=by omega
  clear hr
  go_enter Tryz.func182,Tryz.ntmps182
  go_wp2_with fail
  (with_reducible refine H1.out.mono ?_)
  rintro e w' ⟨rfl,rfl⟩
  go_wp2_with fail
  (with_reducible refine H2.out.mono ?_)
  rintro e w' ⟨rfl,rfl⟩
  go_wp2_with fail
  go_ret
  exact ⟨by rw [←HR.out];rfl,rfl⟩
theorem cmpNum (x y:Int) (w:World):Calls Tryz.prog 136 #[.int .u32 x,.int .u32 y] w fun e w'=>e=.returned (.int .i64 (cmpI x y))∧w=w':=by
 have H1:=Lib.hid (nanN x w)
 have H2:=Lib.hid (nanN y w)
 obtain ⟨r,hr⟩:∃r,cmpI x y=r:=⟨_,rfl⟩
 rw [hr]
 rcases Int.lt_trichotomy x y with h | h | h
 ·have e1:decide (x<y)=true:=decide_eq_true h
  have HR:=Lib.hid ((cmpI_lt h).symm.trans hr)
  clear hr
  go_enter Tryz.func136,Tryz.ntmps136
  go_wp2_with fail
  (with_reducible refine H1.out.mono ?_)
  rintro e w' ⟨rfl,rfl⟩
  go_wp2_with fail
  (with_reducible refine H2.out.mono ?_)
  rintro e w' ⟨rfl,rfl⟩
  go_wp2_with fail
  go_ret
  exact ⟨by rw [←HR.out];rfl,rfl⟩
 ·have HR:=Lib.hid ((cmpI_eq h).symm.trans hr)
  have h1:¬x<y:=by omega
  have h2:¬y<x:=by omega
  clear hr h
  go_enter Tryz.func136,Tryz.ntmps136
  go_wp2_with fail
  (with_reducible refine H1.out.mono ?_)
  rintro e w' ⟨rfl,rfl⟩
  go_wp2_with fail
  (with_reducible refine H2.out.mono ?_)
  rintro e w' ⟨rfl,rfl⟩
  go_wp2_with fail
  go_ret
  exact ⟨by rw [←HR.out];rfl,rfl⟩
 ·have HR:=Lib.hid ((cmpI_gt h).symm.trans hr)
  have h1:¬x<y:=by omega
  clear hr
  go_enter Tryz.func136,Tryz.ntmps136
  go_wp2_with fail
  (with_reducible refine H1.out.mono ?_)
  rintro e w' ⟨rfl,rfl⟩
  go_wp2_with fail
  (with_reducible refine H2.out.mono ?_)
  rintro e w' ⟨rfl,rfl⟩
  go_wp2_with fail
  go_ret
  exact ⟨by rw [←HR.out];rfl,rfl⟩
theorem cmpFirstC (w:World) (g:Nat) (a b z:Int) (C:Nat) (h0:w.cell? ⟨g,0,none⟩=some (.int .i64 a)) (h1:w.cell? ⟨g,1,none⟩=some (.int .i64 b)) (hz:(if a=0 then b else a)=z) :
 Calls Tryz.prog 279 #[.slice (some ⟨g,0,none⟩) 2 C] w fun e w'=>e=.returned (.int .i64 z)∧w=w':=by
 have HZ:=Lib.hid hz
 clear hz
 go_enter Tryz.func279,Tryz.ntmps279
 go_wp2_with fail
 go_loopg [7] 2 (fun m s7 wr=>∃k:Nat,m+k=2∧s7=.int .i64 (k:Int)∧(0<k→a=0)∧(1<k→b=0)∧wr=w)
 case atStart=>exact ⟨0,rfl,rfl,by omega,by omega,rfl⟩
 case round=>
  obtain ⟨k,hk,rfl,ha,hb,rfl⟩:=hrel
  have hk3:k=0∨k=1∨k=2:=by omega
  rcases hk3 with rfl | rfl | rfl
  ·clear ha hb
   by_cases hz:a=0
   ·have hq:(a != 0)=false:=by simpa using hz
    have HA:=Lib.hid hz
    clear hz
    go_wp2_with fail
    go_roundg 1
    case measure=>omega
    case rel=>exact ⟨1,by omega,by go_num,fun _=>HA.out,by omega,rfl⟩
   ·have hq:(a != 0)=true:=by simpa using hz
    have HA:=Lib.hid hz
    clear hz
    go_wp2_with fail
    go_ret
    exact ⟨by rw [←HZ.out,if_neg HA.out];rfl,rfl⟩
  ·have HA:=Lib.hid (ha (by omega))
   clear ha hb
   by_cases hz:b=0
   ·have hq:(b != 0)=false:=by simpa using hz
    have HB:=Lib.hid hz
    clear hz
    go_wp2_with fail
    go_roundg 0
    case measure=>omega
    case rel=>exact ⟨2,by omega,by go_num,fun _=>HA.out,fun _=>HB.out,rfl⟩
   ·have hq:(b != 0)=true:=by simpa using hz
    clear hz
    go_wp2_with fail
    go_ret
    exact ⟨by rw [←HZ.out,if_pos HA.out];rfl,rfl⟩
  ·have HA:=Lib.hid (ha (by omega))
   have HB:=Lib.hid (hb (by omega))
   clear ha hb
   go_wp2_with fail
   go_ret
   exact ⟨by rw [←HZ.out,if_pos HA.out,HB.out];rfl,rfl⟩
theorem byC (a b x y:Int) (w:World):Calls Tryz.prog 236 #[.int .i64 a,.int .i64 b,.int .u32 x,.int .u32 y] w fun e w'=>e=.returned (.int .i64 (byI a b x y))∧∃o,w'=w.alloc o:=by
 have H1:=Lib.hid (cmpInt a b w)
 have H2:=Lib.hid (cmpNum x y w)
 obtain ⟨z,hz⟩:∃z,byI a b x y=z:=⟨_,rfl⟩
 rw [hz]
 unfold byI at hz
 generalize cmpI a b=r at H1 hz
 generalize cmpI x y=q at H2 hz
 have H3:=Lib.hid (cmpFirstC (w.alloc (.cells #[.int .i64 r,.int .i64 q] 3)) w.heap.size r q z 2 (by rw [World.cell?_alloc_at _ _ _ _ rfl];rfl) (by rw [World.cell?_alloc_at _ _ _ _ rfl];rfl) hz)
 clear hz
 go_enter Tryz.func236,Tryz.ntmps236
 go_wp2_with fail
 (with_reducible refine H1.out.mono ?_)
 rintro e w' ⟨rfl,rfl⟩
 go_wp2_with fail
 (with_reducible refine H2.out.mono ?_)
 rintro e w' ⟨rfl,rfl⟩
 go_wp2_with fail
 (with_reducible refine H3.out.mono ?_)
 rintro e w' ⟨rfl,rfl⟩
 go_wp2_with fail
 go_ret
 exact ⟨rfl,_,rfl⟩
def cmpLo (s t:Sp):Int:=byI s.lo t.lo s.id t.id
def cmpHi (s t:Sp):Int:=byI s.hi t.hi s.id t.id
theorem byLoC (s t:Sp) (w:World):Calls Tryz.prog 172 #[spV s,spV t] w fun e w'=>e=.returned (.int .i64 (cmpLo s t))∧∃a b c,w'=((w.alloc a).alloc b).alloc c:=by
 obtain ⟨a,b,x⟩:=s
 obtain ⟨c,d,y⟩:=t
 have H:=fun w=>byC a c (x:Int) (y:Int) w
 have H1:=Lib.hid H
 unfold spV cmpLo
 dsimp only
 clear H
 go_enter Tryz.func172,Tryz.ntmps172
 go_wp2_with fail
 (with_reducible refine (H1.out _).mono ?_)
 rintro e w' ⟨rfl,o,rfl⟩
 go_wp2_with fail
 go_ret
 exact ⟨rfl,_,_,_,rfl⟩
theorem byHiC (s t:Sp) (w:World):Calls Tryz.prog 238 #[spV s,spV t] w fun e w'=>e=.returned (.int .i64 (cmpHi s t))∧∃a b c,w'=((w.alloc a).alloc b).alloc c:=by
 obtain ⟨a,b,x⟩:=s
 obtain ⟨c,d,y⟩:=t
 have H:=fun w=>byC b d (x:Int) (y:Int) w
 have H1:=Lib.hid H
 unfold spV cmpHi
 dsimp only
 clear H
 go_enter Tryz.func238,Tryz.ntmps238
 go_wp2_with fail
 (with_reducible refine (H1.out _).mono ?_)
 rintro e w' ⟨rfl,o,rfl⟩
 go_wp2_with fail
 go_ret
 exact ⟨rfl,_,_,_,rfl⟩
theorem fallHiC (s t:Sp) (w:World):Calls Tryz.prog 237 #[spV s,spV t] w fun e w'=>e=.returned (.int .i64 (cmpHi t s))∧∃a b c d e,w'=((((w.alloc a).alloc b).alloc c).alloc d).alloc e:=by
 have H1:=Lib.hid (fun w=>byHiC t s w)
 obtain ⟨z,hz⟩:∃z,cmpHi t s=z:=⟨_,rfl⟩
 rw [hz] at H1 ⊢
 clear hz
 obtain ⟨a,b,x⟩:=s
 obtain ⟨c,d,y⟩:=t
 unfold spV at H1 ⊢
 dsimp only at H1 ⊢
 go_enter Tryz.func237,Tryz.ntmps237
 go_wp2_with fail
 (with_reducible refine (H1.out _).mono ?_)
 rintro e w' ⟨rfl,o,o1,o2,rfl⟩
 go_wp2_with fail
 go_ret
 exact ⟨rfl,_,_,_,_,_,rfl⟩
end Go.Proofs.YtkbaaonchdeneaaGreat
namespace Go.Proofs.YtkbaaonchdeneaaGreat
inductive Kn where
 |nil:Kn
 |node (m:Int) (lows highs:List Sp) (l r:Kn):Kn
def lessS (m:Int) (S:List Sp):List Sp:=S.filter fun s=>decide (s.hi<m)
def moreS (m:Int) (S:List Sp):List Sp:=S.filter fun s=>!decide (s.hi<m)&&decide (m<s.lo)
def midS (m:Int) (S:List Sp):List Sp:=S.filter fun s=>!decide (s.hi<m)&&!decide (m<s.lo)
def Kn.depth:Kn→Nat
 |.nil=>0
 |.node _ _ _ l r=>1+max l.depth r.depth
def Kn.ok:Kn→List Sp→Prop
 |.nil,S=>S = []
 |.node m lo hi l r,S=>(lo.Perm (midS m S)∧lo.Pairwise (fun a b=>a.lo≤b.lo))∧(hi.Perm (midS m S)∧hi.Pairwise (fun a b=>b.hi≤a.hi))∧l.ok (lessS m S)∧r.ok (moreS m S)
def rowK (x m:Int) (lo hi:List Sp):List Sp:=if m<x then hi else lo
def hasK (x m:Int) (s:Sp):Bool:=if m<x then decide (x≤s.hi) else decide (s.lo≤x)
def partK (x m:Int) (lo hi:List Sp):List Sp:=(rowK x m lo hi).takeWhile (hasK x m)
def Kn.stab (x:Int):Kn→List Sp
 |.nil=>[]
 |.node m lo hi l r=>partK x m lo hi++(if x<m then l.stab x else if m<x then r.stab x else [])
def lookK (x m:Int) (lo hi:List Sp):Nat:=(partK x m lo hi).length+(if (partK x m lo hi).length<(rowK x m lo hi).length then 1 else 0)
def Kn.touch (x:Int):Kn→Nat
 |.nil=>0
 |.node m lo hi l r=>1+lookK x m lo hi+(if x<m then l.touch x else if m<x then r.touch x else 0)
def Kn.drop (x:Sp):Kn→Kn
 |.nil=>.nil
 |.node m lo hi l r=>if x.hi<m then .node m lo hi (l.drop x) r else if m<x.lo then .node m lo hi l (r.drop x) else .node m (without lo x) (without hi x) l r
theorem split3 {α:Type} (p q:α→Bool):∀S:List α,((S.filter fun s=>!p s&&!q s)++(S.filter p++S.filter fun s=>!p s&&q s)).Perm S
 | []=>by simp
 |a::S=>by
  have ih:=split3 p q S
  cases hp:p a<;>cases hq:q a
  ·simp only [List.filter_cons,hp,hq,Bool.not_false,Bool.and_self,if_true,Bool.false_eq_true,if_false,Bool.and_false]
   exact List.Perm.cons a ih
  ·simp only [List.filter_cons,hp,hq,Bool.not_false,Bool.not_true,Bool.and_self,if_true,Bool.false_eq_true,if_false,Bool.and_false]
   rw [←List.append_assoc]
   refine List.perm_middle.trans ?_
   rw [List.append_assoc]
   exact List.Perm.cons a ih
  ·simp only [List.filter_cons,hp,hq,Bool.not_false,Bool.not_true,Bool.and_self,if_true,Bool.false_eq_true,if_false,Bool.false_and]
   rw [List.cons_append]
   refine List.perm_middle.trans ?_
   exact List.Perm.cons a ih
  ·simp only [List.filter_cons,hp,hq,Bool.not_true,Bool.and_self,if_true,Bool.false_eq_true,if_false,Bool.and_true]
   rw [List.cons_append]
   refine List.perm_middle.trans ?_
   exact List.Perm.cons a ih
theorem parts_perm (m:Int) (S:List Sp):(midS m S++(lessS m S++moreS m S)).Perm S:=split3 (fun s:Sp=>decide (s.hi<m)) (fun s:Sp=>decide (m<s.lo)) S
theorem takeWhile_filter {α:Type} {p:α→Bool}:∀{l:List α},l.Pairwise (fun a b=>p b=true→p a=true)→l.takeWhile p=l.filter p
 | [],_=>rfl
 |a::l,h=>by
  rw [List.pairwise_cons] at h
  by_cases hp:p a=true
  ·rw [List.takeWhile_cons_of_pos hp,List.filter_cons_of_pos hp,takeWhile_filter h.2]
  ·rw [List.takeWhile_cons_of_neg hp,List.filter_cons_of_neg hp]
   symm
   rw [List.filter_eq_nil_iff]
   intro b hb hc
   exact hp (h.1 b hb hc)
theorem partK_perm {x m:Int} {lo hi S:List Sp} (h1:lo.Perm (midS m S)) (h2:lo.Pairwise (fun a b=>a.lo≤b.lo)) (h3:hi.Perm (midS m S)) (h4:hi.Pairwise (fun a b=>b.hi≤a.hi)) :
 (partK x m lo hi).Perm ((midS m S).filter fun s=>stabBM s.lo s.hi x):=by
 have hin:∀s∈midS m S,m≤s.hi∧s.lo≤m:=fun s hs=>by
  unfold midS at hs
  simp at hs
  exact hs.2
 have e:∀s∈midS m S,hasK x m s=stabBM s.lo s.hi x:=fun s hs=>by
  have:=hin s hs
  unfold hasK stabBM
  split
  ·have h5:s.lo≤x:=by omega
   simp [h5]
  ·have h5:x≤s.hi:=by omega
   simp [h5]
 unfold partK rowK
 split
 ·rename_i hx
  rw [takeWhile_filter (h4.imp (by intro a b hab hb;unfold hasK at hb ⊢;rw [if_pos hx] at hb ⊢;simp at hb ⊢;omega))]
  refine (h3.filter _).trans (List.Perm.of_eq (List.filter_congr e))
 ·rename_i hx
  rw [takeWhile_filter (h2.imp (by intro a b hab hb;unfold hasK at hb ⊢;rw [if_neg hx] at hb ⊢;simp at hb ⊢;omega))]
  exact (h1.filter _).trans (List.Perm.of_eq (List.filter_congr e))
theorem knStab_perm {x:Int}:∀{T:Kn} {S:List Sp},T.ok S→(∀s∈S,s.lo≤s.hi)→(T.stab x).Perm (S.filter fun s=>stabBM s.lo s.hi x)
 |.nil,S,h,_=>by
  have:S = []:=h
  subst this
  exact List.Perm.refl _
 |.node m lo hi l r,S,h,hr=>by
  obtain ⟨⟨h1,h2⟩,⟨h3,h4⟩,h5,h6⟩:=h
  have ihl:=knStab_perm (x:=x) h5 (fun s hs=>hr s (List.mem_filter.1 hs).1)
  have ihr:=knStab_perm (x:=x) h6 (fun s hs=>hr s (List.mem_filter.1 hs).1)
  have hp:=partK_perm (x:=x) h1 h2 h3 h4
  have hS:=((parts_perm m S).filter fun s=>stabBM s.lo s.hi x).symm
  rw [List.filter_append,List.filter_append] at hS
  refine List.Perm.trans ?_ hS.symm
  have nl:¬x<m→(lessS m S).filter (fun s=>stabBM s.lo s.hi x) = []:=fun hx=>by
   rw [List.filter_eq_nil_iff]
   intro s hs hc
   unfold lessS at hs
   unfold stabBM at hc
   simp at hs hc
   omega
  have nr:¬m<x→(moreS m S).filter (fun s=>stabBM s.lo s.hi x) = []:=fun hx=>by
   rw [List.filter_eq_nil_iff]
   intro s hs hc
   unfold moreS at hs
   unfold stabBM at hc
   simp at hs hc
   omega
  show (partK x m lo hi++(if x<m then l.stab x else if m<x then r.stab x else [])).Perm _
  refine List.Perm.append hp ?_
  by_cases c1:x<m
  ·rw [if_pos c1,nr (by omega),List.append_nil];exact ihl
  ·rw [if_neg c1,nl c1,List.nil_append]
   by_cases c2:m<x
   ·rw [if_pos c2];exact ihr
   ·rw [if_neg c2,nr c2]
theorem touch_many (x:Int):∀T:Kn,(T.stab x).length≤T.touch x∧T.touch x≤2*T.depth+(T.stab x).length
 |.nil=>by simp [Kn.stab,Kn.touch,Kn.depth]
 |.node m lo hi l r=>by
  have hl:=touch_many x l
  have hr:=touch_many x r
  simp only [Kn.stab,Kn.touch,Kn.depth,List.length_append]
  unfold lookK
  have e:(if (partK x m lo hi).length<(rowK x m lo hi).length then 1 else 0)≤1:=by split<;>omega
  split
  ·omega
  ·split
   ·omega
   ·simp only [List.length_nil];omega
theorem mid_without (m:Int) (S:List Sp) (x:Sp):midS m (without S x)=without (midS m S) x:=by
 unfold midS without
 rw [List.filter_filter,List.filter_filter]
 exact List.filter_congr fun s _=>Bool.and_comm _ _
theorem less_without (m:Int) (S:List Sp) (x:Sp):lessS m (without S x)=without (lessS m S) x:=by
 unfold lessS without
 rw [List.filter_filter,List.filter_filter]
 exact List.filter_congr fun s _=>Bool.and_comm _ _
theorem more_without (m:Int) (S:List Sp) (x:Sp):moreS m (without S x)=without (moreS m S) x:=by
 unfold moreS without
 rw [List.filter_filter,List.filter_filter]
 exact List.filter_congr fun s _=>Bool.and_comm _ _
theorem without_perm {l m:List Sp} (h:l.Perm m) (x:Sp):(without l x).Perm (without m x):=h.filter _
theorem drop_ok {x:Sp} (hx:x.lo≤x.hi):∀{T:Kn} {S:List Sp},T.ok S→(T.drop x).ok (without S x)
 |.nil,S,h=>by
  have:S = []:=h
  subst this
  exact rfl
 |.node m lo hi l r,S,h=>by
  obtain ⟨⟨h1,h2⟩,⟨h3,h4⟩,h5,h6⟩:=h
  have nm:x.hi<m∨m<x.lo→without (midS m S) x=midS m S:=fun hc=>without_not (by unfold midS;simp;omega)
  have nl:¬x.hi<m→without (lessS m S) x=lessS m S:=fun hc=>without_not (by unfold lessS;simp;omega)
  have nr:¬m<x.lo→without (moreS m S) x=moreS m S:=fun hc=>without_not (by unfold moreS;simp;omega)
  unfold Kn.drop
  by_cases c1:x.hi<m
  ·rw [if_pos c1]
   unfold Kn.ok
   rw [mid_without,nm (.inl c1),less_without,more_without,nr (by omega)]
   exact ⟨⟨h1,h2⟩,⟨h3,h4⟩,drop_ok hx h5,h6⟩
  ·rw [if_neg c1]
   by_cases c2:m<x.lo
   ·rw [if_pos c2]
    unfold Kn.ok
    rw [mid_without,nm (.inr c2),less_without,more_without,nl c1]
    exact ⟨⟨h1,h2⟩,⟨h3,h4⟩,h5,drop_ok hx h6⟩
   ·rw [if_neg c2]
    unfold Kn.ok
    rw [mid_without,less_without,more_without,nl c1,nr c2]
    exact ⟨⟨without_perm h1 x,h2.filter _⟩,⟨without_perm h3 x,h4.filter _⟩,h5,h6⟩
theorem drop_depth (x:Sp):∀T:Kn,(T.drop x).depth=T.depth
 |.nil=>rfl
 |.node m lo hi l r=>by
  unfold Kn.drop
  split
  ·simp only [Kn.depth,drop_depth x l]
  ·split
   ·simp only [Kn.depth,drop_depth x r]
   ·rfl
theorem bitsN_half {n:Nat} (h:0<n) {k:Nat} (hk:2*k≤n):bitsN k+1≤bitsN n:=by
 have h1:=bitsN_lt n
 have hb:0<bitsN n:=by unfold bitsN;rw [if_neg (by omega)];omega
 have h2:2 ^ bitsN n=2*2 ^ (bitsN n - 1):=by rw [←Nat.pow_succ'];congr 1;omega
 have:=bitsN_le k (bitsN n - 1) (by omega)
 omega
open Go.RowKit
theorem ivlRight (v:Value) (l:List Sp) (w:World) (h:See KSp w v l) (hid:∀s∈l,s.id<4294967296) (hl:l.length<1000000) :
 Calls Tryz.prog 169 #[v] w fun e w'=>e=.returned (.bool (rightS l))∧Upd [] w w':=by
 obtain ⟨A,C,rfl⟩:=h.form
 obtain ⟨N,hN⟩:∃N,l.length=N:=⟨_,rfl⟩
 have hm0:=MapU.made MKI w
 have hu0:Upd [] w (w.alloc (.map #[] 0)):=(Upd.refl _ _).alloc _
 have hsz:w.heap.size<(w.alloc (.map #[] 0)).heap.size:=by simp
 have H:=Lib.hid h
 have HN:=Lib.hid hN
 have HI:=Lib.hid hid
 have HM0:=Lib.hid hm0
 have HU0:=Lib.hid hu0
 rw [hN] at hl ⊢
 clear h hN hid hm0 hu0
 have hmm:=@run_makeMap Tryz.prog
 go_enter Tryz.func169,Tryz.ntmps169
 go_upto_region 2 with fail
 clear hmm
 generalize w.alloc (.map #[] 0)=W0 at HM0 HU0 hsz ⊢
 go_wp2_with fail
 go_loopg [9] N (fun m s9 wr=>∃(k n:Nat) (f:Nat→Option Nat),m+k=N∧s9=.int .i64 (k:Int)∧MapU MKI wr w.heap.size f n∧CntR l k f n∧(∀s∈l.take k,s.lo≤s.hi)∧Upd [w.heap.size] W0 wr)
 case atStart=>exact ⟨0,0,_,rfl,rfl,HM0.out,CntR.start l,by simp,Upd.refl _ _⟩
 case round=>
  obtain ⟨k,n,f,hk,rfl,hm,hc,hri,hup⟩:=hrel
  have k0:(0:Int)≤(k:Int):=Int.natCast_nonneg _
  have hkN:k≤N:=by omega
  have HK:=Lib.hid hk
  have HM:=Lib.hid hm
  have HC:=Lib.hid hc
  have HR:=Lib.hid hri
  have HU:=Lib.hid hup
  clear hk hm hc hri hup
  by_cases hlt:k<N
  ·obtain ⟨s,hs⟩:∃s,l[k]? = some s:=⟨_,List.getElem?_eq_getElem (by rw [HN.out];exact hlt)⟩
   have hw1:Upd [] w wr:=HU0.out.trans' HU.out (fun x hx=>.inr (by simp at hx;omega))
   have hse:See KSp wr (.slice A l.length C) l:=H.out.upd0 hw1
   have hidb:=HI.out s (List.mem_of_getElem? hs)
   have hcs:=HC.out.step hs k
   obtain ⟨lo,hi,id⟩:=s
   obtain ⟨g,o,rfl,-,-,ey⟩:=hse.at hs
   have y0:wr.cell? ⟨g,o+k*3,none⟩=some (.int .i64 lo):=ey 0 _ rfl
   have y1:wr.cell? ⟨g,o+k*3+1,none⟩=some (.int .i64 hi):=ey 1 _ rfl
   have y2:wr.cell? ⟨g,o+k*3+2,none⟩=some (.int .u32 (id:Int)):=ey 2 _ rfl
   have b1:(k:Int)<(N:Int):=by omega
   have hnb:n≤k:=HC.out.le
   have hwz:=HU.out.size
   have HS:=Lib.hid (And.intro hs (And.intro hcs hw1))
   clear hs hcs hw1 hse ey
   dsimp only at hidb
   obtain ⟨wl,hwl⟩:∃wl:World,wl=wr:=⟨_,rfl⟩
   subst hwl
   go_upto_region 5 with fail
   have hu2:Upd [] wl (wl.alloc (.cells #[.int .i64 lo,.int .i64 hi,.int .u32 (id:Int)] 62)):=(Upd.refl _ _).alloc _
   have hz2:wl.heap.size<(wl.alloc (.cells #[.int .i64 lo,.int .i64 hi,.int .u32 (id:Int)] 62)).heap.size:=by simp
   have d0:(wl.alloc (.cells #[.int .i64 lo,.int .i64 hi,.int .u32 (id:Int)] 62)).cell? ⟨wl.heap.size,0,none⟩=some (.int .i64 lo):=by rw [World.cell?_alloc_at _ _ _ _ rfl];rfl
   have d1:(wl.alloc (.cells #[.int .i64 lo,.int .i64 hi,.int .u32 (id:Int)] 62)).cell? ⟨wl.heap.size,1,none⟩=some (.int .i64 hi):=by rw [World.cell?_alloc_at _ _ _ _ rfl];rfl
   have d2:(wl.alloc (.cells #[.int .i64 lo,.int .i64 hi,.int .u32 (id:Int)] 62)).cell? ⟨wl.heap.size,2,none⟩=some (.int .u32 (id:Int)):=by rw [World.cell?_alloc_at _ _ _ _ rfl];rfl
   have hm2:=HM.out.upd hu2 (by simp)
   generalize (wl.alloc (.cells #[.int .i64 lo,.int .i64 hi,.int .u32 (id:Int)] 62))=W2 at hu2 hz2 d0 d1 d2 hm2 ⊢
   obtain ⟨w5,hput,hm5,hu5,hz5⟩:=hm2.put hidb k (by unfold maxLen;omega)
   have hne:(wl.heap.size:Nat)∉[w.heap.size]:=by simp;omega
   have e0:=(hu5.cell (p:=⟨wl.heap.size,0,none⟩) hz2 hne).trans d0
   have e1:=(hu5.cell (p:=⟨wl.heap.size,1,none⟩) hz2 hne).trans d1
   have e2:=(hu5.cell (p:=⟨wl.heap.size,2,none⟩) hz2 hne).trans d2
   have hput2:(Instr.mapUpdate 60 (.map (some w.heap.size)) (.int .u32 (id:Int)) (.int .i64 (k:Int))).run Tryz.prog W2=.ok () w5:=hput
   have HRS:=Lib.hid (rightSpanC ⟨lo,hi,id⟩ w5)
   unfold spV at HRS
   dsimp only at HRS
   have H5:=Lib.hid (And.intro hm5 ((HU.out.trans (hu2.mono (G:=[w.heap.size]) (by simp))).trans hu5))
   clear hput hm5 hu5 hu2 hm2 y0 y1 y2 d0 d1
   have hwz5:W0.heap.size≤w5.heap.size:=H5.out.2.size
   by_cases hb:lo≤hi
   ·have hbd:decide (lo≤hi)=true:=decide_eq_true hb
    rw [hbd] at HRS
    go_wp2_with fail
    (with_reducible refine HRS.out.mono ?_)
    rintro e w6 ⟨rfl,u6⟩
    have HU6:=Lib.hid u6
    clear u6
    go_wp2_with fail
    go_roundg (N - (k+1))
    case measure=>have:=HK.out;omega
    case rel=>
     refine ⟨k+1,_,_,by have:=HK.out;omega,by go_num,H5.out.1.upd HU6.out (by simp),HS.out.2.1,fun s hs=>?_,H5.out.2.trans (HU6.out.mono (by simp))⟩
     obtain ⟨g1,g2⟩:=List.getElem?_eq_some_iff.1 HS.out.1
     rw [List.take_succ_eq_append_getElem g1,g2,List.mem_append] at hs
     rcases hs with hs | hs
     ·exact HR.out s hs
     ·simp at hs;subst hs;exact hb
   ·have hbd:decide (lo≤hi)=false:=decide_eq_false hb
    rw [hbd] at HRS
    go_wp2_with fail
    (with_reducible refine HRS.out.mono ?_)
    rintro e w6 ⟨rfl,u6⟩
    have HU6:=Lib.hid u6
    clear u6
    go_wp2_with fail
    go_ret
    refine ⟨?_,(HU0.out.trans' H5.out.2 (fun x hx=>.inr (by simp at hx;omega))).trans HU6.out⟩
    have:rightS l=false:=by
     rw [Bool.eq_false_iff]
     intro hc
     have h7:lo≤hi:=(rightS_iff.1 hc).1 _ (List.mem_of_getElem? HS.out.1)
     exact absurd h7 (by omega)
    rw [this]
    rfl
  ·have hkN':k=N:=by omega
   have hL':l.take k=l:=by rw [hkN',←HN.out];exact List.take_length
   have hri:=HR.out
   have hcn:=HC.out.eq
   rw [hL'] at hri hcn
   have hfin:((n:Int)==(N:Int))=rightS l:=by
    rw [Bool.eq_iff_iff,rightS_iff]
    simp
    constructor
    ·intro hc;exact ⟨hri,hcn.1 (by omega)⟩
    ·rintro ⟨-,hc⟩;have:=hcn.2 hc;omega
   have hlen:=HM.out.len 3
   have hlen2:(Builtin.len_ #[60] 3 #[.map (some w.heap.size)]).run Tryz.prog wr=.ok (.int .i64 (n:Int)) wr:=hlen
   have HF:=Lib.hid hfin
   clear hL' hri hcn hfin hlen
   go_wp2_with fail
   go_ret
   exact ⟨by rw [←HF.out];rfl,HU0.out.trans' HU.out (fun x hx=>.inr (by simp at hx;omega))⟩
def IndexSPost (w:World) (l:List Sp) (x:Sp) (e:Ending) (w':World):Prop:=
 Upd [] w w'∧((x∉l∧e=.returned (.int .i64 (-1)))∨∃k:Nat,l[k]? = some x∧e=.returned (.int .i64 (k:Int)))
theorem indexS (v:Value) (l:List Sp) (x:Sp) (w:World) (hs:See KSp w v l) (hb:l.length<1000000) :
 Calls Tryz.prog 174 #[v,spV x] w (IndexSPost w l x):=by
 obtain ⟨A,C,rfl⟩:=hs.form
 obtain ⟨N,hN⟩:∃N,l.length=N:=⟨_,rfl⟩
 rw [hN] at hs hb ⊢
 have H:=Lib.hid hs
 have HN:=Lib.hid hN
 clear hs hN
 obtain ⟨lo,hi,id⟩:=x
 have HW0:=Lib.hid ((Upd.refl [] w).alloc (.cells #[.int .i64 lo,.int .i64 hi,.int .u32 (id:Int)] 62))
 have hz0:w.heap.size<(w.alloc (.cells #[.int .i64 lo,.int .i64 hi,.int .u32 (id:Int)] 62)).heap.size:=by simp
 have d0:(w.alloc (.cells #[.int .i64 lo,.int .i64 hi,.int .u32 (id:Int)] 62)).cell? ⟨w.heap.size,0,none⟩=some (.int .i64 lo):=by rw [World.cell?_alloc_at _ _ _ _ rfl];rfl
 have d1:(w.alloc (.cells #[.int .i64 lo,.int .i64 hi,.int .u32 (id:Int)] 62)).cell? ⟨w.heap.size,1,none⟩=some (.int .i64 hi):=by rw [World.cell?_alloc_at _ _ _ _ rfl];rfl
 have d2:(w.alloc (.cells #[.int .i64 lo,.int .i64 hi,.int .u32 (id:Int)] 62)).cell? ⟨w.heap.size,2,none⟩=some (.int .u32 (id:Int)):=by rw [World.cell?_alloc_at _ _ _ _ rfl];rfl
 unfold spV
 dsimp only
 go_enter Tryz.func174,Tryz.ntmps174
 go_upto_region 1 with fail
 generalize (w.alloc (.cells #[.int .i64 lo,.int .i64 hi,.int .u32 (id:Int)] 62))=W0 at HW0 hz0 d0 d1 d2 ⊢
 go_wp2_with fail
 go_loopg [8] N (fun m s8 wr=>∃k:Nat,m+k=N∧s8=.int .i64 (k:Int)∧(⟨lo,hi,id⟩:Sp)∉l.take k∧Upd [] W0 wr)
 case atStart=>exact ⟨0,rfl,rfl,by simp,Upd.refl _ _⟩
 case round=>
  obtain ⟨k,hk,rfl,hno,hup⟩:=hrel
  have k0:(0:Int)≤(k:Int):=Int.natCast_nonneg _
  have hkN:k≤N:=by omega
  have hw1:Upd [] w wr:=HW0.out.trans hup
  have e0:=(hup.cell (p:=⟨w.heap.size,0,none⟩) hz0 (by simp)).trans d0
  have e1:=(hup.cell (p:=⟨w.heap.size,1,none⟩) hz0 (by simp)).trans d1
  have e2:=(hup.cell (p:=⟨w.heap.size,2,none⟩) hz0 (by simp)).trans d2
  have HK:=Lib.hid (And.intro hk (And.intro hno (And.intro hup hw1)))
  clear hk hno hup
  by_cases hlt:k<N
  ·obtain ⟨s,hs⟩:∃s,l[k]? = some s:=⟨_,List.getElem?_eq_getElem (by rw [HN.out];exact hlt)⟩
   have hse:See KSp wr (.slice A N C) l:=H.out.upd0 hw1
   have HS:=Lib.hid hs
   obtain ⟨lo2,hi2,id2⟩:=s
   obtain ⟨g,o,rfl,-,-,ey⟩:=hse.at hs
   have y0:wr.cell? ⟨g,o+k*3,none⟩=some (.int .i64 lo2):=ey 0 _ rfl
   have y1:wr.cell? ⟨g,o+k*3+1,none⟩=some (.int .i64 hi2):=ey 1 _ rfl
   have y2:wr.cell? ⟨g,o+k*3+2,none⟩=some (.int .u32 (id2:Int)):=ey 2 _ rfl
   have b1:(k:Int)<(N:Int):=by omega
   have heq:=fun w=>eqSp ⟨lo,hi,id⟩ ⟨lo2,hi2,id2⟩ w
   clear hs hse ey hw1 d0 d1 d2
   by_cases hxy:(⟨lo,hi,id⟩:Sp)=⟨lo2,hi2,id2⟩
   ·rw [decide_eq_true hxy] at heq
    unfold spV at heq
    dsimp only at heq
    have HE:=Lib.hid hxy
    clear hxy
    go_wp2_with fail
    go_quiet (fail)
    go_wp2_with fail
    go_ret
    exact ⟨HK.out.2.2.2.drewN _,.inr ⟨k,by rw [HS.out,HE.out],rfl⟩⟩
   ·rw [decide_eq_false hxy] at heq
    unfold spV at heq
    dsimp only at heq
    have HE:=Lib.hid hxy
    clear hxy
    go_wp2_with fail
    go_quiet (fail)
    go_wp2_with fail
    go_roundg (N - (k+1))
    case measure=>have:=HK.out.1;omega
    case rel=>
     refine ⟨k+1,by have:=HK.out.1;omega,by go_num,?_,HK.out.2.2.1.drewN _⟩
     obtain ⟨h1,h2⟩:=List.getElem?_eq_some_iff.1 HS.out
     rw [List.take_succ_eq_append_getElem h1,h2,List.mem_append]
     rintro (hc | hc)
     ·exact HK.out.2.1 hc
     ·exact HE.out (by simpa using hc)
  ·have hkn:k=N:=by omega
   have hno:=HK.out.2.1
   rw [hkn,←HN.out,List.take_length] at hno
   have HNO:=Lib.hid hno
   clear hno hkn
   go_wp2_with fail
   go_ret
   exact ⟨HK.out.2.2.2,.inl ⟨HNO.out,rfl⟩⟩
def DelPost (w:World) (base g C:Nat) (l:List Sp) (k:Nat) (e:Ending) (w':World):Prop:=
 e=.returned (.slice (some ⟨g,0,none⟩) (l.length - 1) C)∧KSp.row w' base (.slice (some ⟨g,0,none⟩) (l.length - 1) C) (l.eraseIdx k)∧Upd [g] w w'
theorem deleteC (base g n C:Nat) (l:List Sp) (k:Nat) (w:World) (h:KSp.row w base (.slice (some ⟨g,0,none⟩) n C) l) (hn:l.length=n) (hk:k<n) (hb:n<1000000) :
 Calls Tryz.prog 175 #[.slice (some ⟨g,0,none⟩) n C,.int .i64 (k:Int),.int .i64 ((k:Int)+1)] w (DelPost w base g C l k):=by
 obtain ⟨i1,hi1,hy0,hy1,hy2⟩:=info_parts infoSpanD
 have hown:w.ownsRow base 62 3 (.slice (some ⟨g,0,none⟩) n C) n (KSp.all l):=by
  have:=h
  unfold Kind.row at this
  rwa [hn] at this
 have hnC:=own_cap hown
 have hse:Sees w 3 (.slice (some ⟨g,0,none⟩) n C) n (KSp.all l):=sees_of_own hown
 have hCm:C≤maxLen:=by
  rcases hown.2 with ⟨h2,_⟩ | ⟨g',cap,cur,h2,h3,h4,h5,h6,h7,h8⟩
  ·cases h2
  ·cases h2;exact h6
 obtain ⟨v3,c3⟩:=cut_three (P:=Tryz.prog) Tryz.underlying56 hi1 g n C k hk hnC
 have c1:=cut_head (P:=Tryz.prog) Tryz.underlying56 hi1 g n C k (by omega)
 obtain ⟨A2,C2,c2,s2,-⟩:=cut_from (P:=Tryz.prog) (t:=56) Tryz.underlying56 hi1 hy1 hse (k+1) (by omega)
 have c2':∀w',(Instr.slice 56 (.slice (some ⟨g,0,none⟩) n C) (some (.int .i64 ((k:Int)+1))) none none).run Tryz.prog w'=.ok (.slice A2 (n - (k+1)) C2) w':=c2
 obtain ⟨m,hm⟩:∃m,n - (k+1)=m:=⟨_,rfl⟩
 rw [hm] at c2' s2
 have c4:=cut_behind (P:=Tryz.prog) Tryz.underlying56 hi1 hy1 g (k+m) C n (by omega) hnC
 have e1:((k+m:Nat):Int)=(k:Int)+(m:Int):=by omega
 have e2:n - (k+m)=1:=by omega
 rw [e1,e2] at c4
 have hkn:((k:Int)==(k:Int)+1)=false:=by rw [beq_eq_false_iff_ne];omega
 have k0:(0:Int)≤(k:Int):=Int.natCast_nonneg _
 have k1:(k:Int)<(n:Int):=by omega
 have n0:(n:Int)<1000000:=by omega
 have m0:(0:Int)≤(m:Int):=Int.natCast_nonneg _
 have m1:(m:Int)<1000000:=by omega
 have htake:=own_take hown k (by omega)
 have HS:=Lib.hid (s2 w.drew (Sees.drew hse))
 have HT:=Lib.hid (owns_drew htake)
 have HN:=Lib.hid (And.intro hn (And.intro hm hk))
 have HC:=Lib.hid hnC
 clear h hown hse c2 s2 htake e1 e2 hn hm hk hnC
 go_enter Tryz.func175,Tryz.ntmps175
 go_upto_region 5 with fail
 go_region_law (refine step_app_spare _ rfl (.tmp 22) (.tmp 25) 56 rfl base 62 i1 3 Tryz.underlying56 hi1 hy1 g k C _ (by simp [Act.eval,Act.put]) HT.out _ m _ (by simp [Act.eval,Act.put]) HS.out (by rw [←kh_dropS];exact KSp.all_one _) (by have:=HN.out;have:=HC.out;omega) ?_;intro w2 ho2 hu2)
 have HO2:=Lib.hid ho2
 have HU2:=Lib.hid hu2
 have hcl:∀ty,(Builtin.clear_ #[56] ty #[.slice (some ⟨g,(k+m)*3,none⟩) 1 (C - (k+m))]).run Tryz.prog w2=.ok (.tuple #[]) (w2.setCells g ((k+m)*3) (Builtin.zeroCells (Value.agg #[.int .i64 0,.int .i64 0,.int .u32 0]).cells 1).toList):=fun ty=>
  run_clear_any (size:=3) w2 _ 62 ty _ Tryz.underlying56 zeroSpanD rfl (by simp [Value.oneCell',Value.cells]) (by decide) g _ 1 _ (by decide)
   (fun j hj=>by have h1:=HN.out;have h2:=HC.out;exact (own_room ho2 ((k+m)*3+j) (by omega)).1) (fun j hj=>by have h1:=HN.out;have h2:=HC.out;exact (own_room ho2 ((k+m)*3+j) (by omega)).2)
 obtain ⟨LL,hLL⟩:∃LL,(Builtin.zeroCells (Value.agg #[.int .i64 0,.int .i64 0,.int .u32 0]).cells 1).toList=LL:=⟨_,rfl⟩
 rw [hLL] at hcl
 clear ho2 hu2 hLL c1 c2' c3
 go_wp2_with fail
 go_ret
 refine ⟨?_,?_,?_⟩
 ·have:=HN.out
  rw [show l.length - 1=k+m by omega]
  rfl
 ·have h1:=HN.out
  have h2:=own_sets_behind LL w2 ((k+m)*3) HO2.out (Nat.le_refl _)
  have h3:(l.eraseIdx k).length=k+m:=by rw [List.length_eraseIdx_of_lt (by omega)];omega
  unfold Kind.row
  rw [show l.length - 1=k+m by omega,h3]
  have h4:KSp.all (l.eraseIdx k)=(KSp.all l).take (k*3)++(KSp.all l).drop ((k+1)*3):=by
   rw [List.eraseIdx_eq_take_drop_succ,KSp.all_app,KSp.all_take,KSp.all_drop]
   rfl
  rw [h4]
  exact h2
 ·exact ((Upd.refl [g] w).drew.trans HU2.out).trans (upd_sets LL w2 _)
end Go.Proofs.YtkbaaonchdeneaaGreat
