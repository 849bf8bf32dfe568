/- Plain lemmas on worlds, owned rows and updates that the walks of this seat use. No program. Run equations of single operations, in a form that a walk can take: slices cut, shifts, bits. No program. Buckets, plainly: what Add and Set make of them; and how they lie in memory. Lists of things in the order of their names; plainly. No program. Chapter 26 plainly: what a model has, what each operation does and tells. No program. What chapter 26's laws lean on, plainly: which items lie in 64 bits, which points lie over others, which is the lowest. No program. Buckets, plainly: what Set makes; how it goes bucket by bucket. The tree over some leaves, as the list of its nodes: left, right, the node. No program. A cover, plainly: how often the nodes are covered, what is known of them, which gaps that is. No program. A cover, plainly: how many nodes are entered, at most. No program. -/
import Derived.WalkKit
import Derived.WalkSpells
import Derived.WalkLawsBesides
import Derived.Lib.Hide
import Derived.Lib.SliceRun
import Derived.Deep.AppendLies
import Derived.IntWalk
import Derived.Test.YtkmnbodlciepaaaGreatPk1
namespace Go.Proofs.YtkmnbodlciepaaaGreat
open Go.RowKit
structure Upd (F:List Nat) (w w':World):Prop where
 os:w'.os=w.os
 tape:w'.tape=w.tape
 output:w'.output=w.output
 size:w.heap.size≤w'.heap.size
 block:∀k,k<w.heap.size→k∉F→w'.heap[k]? = w.heap[k]?
theorem Upd.refl (F:List Nat) (w:World):Upd F w w:=⟨rfl,rfl,rfl,Nat.le_refl _,fun _ _ _=>rfl⟩
theorem Upd.trans' {F G:List Nat} {a b c:World} (h:Upd F a b) (k:Upd G b c) (hg:∀x∈G,x∈F∨a.heap.size≤x):Upd F a c:=
 ⟨k.os.trans h.os,k.tape.trans h.tape,k.output.trans h.output,Nat.le_trans h.size k.size,fun i hi hf=>
  (k.block i (Nat.lt_of_lt_of_le hi h.size) (fun hx=>by rcases hg i hx with h1 | h1;exact hf h1;omega)).trans (h.block i hi hf)⟩
theorem Upd.trans {F:List Nat} {a b c:World} (h:Upd F a b) (k:Upd F b c):Upd F a c:=h.trans' k fun _ hx=>.inl hx
theorem Upd.mono {F G:List Nat} {a b:World} (h:Upd F a b) (hg:∀x∈F,x∈G∨a.heap.size≤x):Upd G a b:=
 ⟨h.os,h.tape,h.output,h.size,fun i hi hf=>h.block i hi (fun hx=>by rcases hg i hx with h1 | h1;exact hf h1;omega)⟩
theorem Upd.alloc {F:List Nat} {a w:World} (h:Upd F a w) (o:Obj):Upd F a (w.alloc o):=
 h.trans ⟨rfl,rfl,rfl,by simp,fun k hk _=>Below.heap_alloc _ _ _ hk⟩
theorem Upd.drew {F:List Nat} {a w:World} (h:Upd F a w):Upd F a w.drew:=⟨h.os,h.tape,h.output,h.size,h.block⟩
theorem Upd.drewN {F:List Nat} {a w:World} (h:Upd F a w) (n:Nat):Upd F a (w.drewN n):=⟨h.os,h.tape,h.output,h.size,h.block⟩
theorem Upd.setCell {F:List Nat} {a w:World} (h:Upd F a w) {p:Addr} (hp:p.block∈F∨a.heap.size≤p.block) (u:Value):Upd F a (w.setCell p u):=
 h.trans' (G:=[p.block]) ⟨rfl,rfl,rfl,by simp [World.setCell],fun k _ hk=>Below.heap_setCell _ _ _ _ (fun e=>hk (by simp [e]))⟩
  (fun x hx=>by simp at hx;rw [hx];exact hp)
theorem Upd.grown {F:List Nat} {a w w':World} {row:Option Nat} (h:Upd F a w) (hg:w.grownBy w' row) (hr:∀k,row=some k→k∈F∨a.heap.size≤k):Upd F a w':=
 h.trans' (G:=row.toList) ⟨hg.os,hg.tape,hg.output,hg.size,fun k hk hn=>hg.block k hk (fun e=>hn (by simp [←e]))⟩
  (fun x hx=>hr x (by simpa using hx))
theorem Upd.of_below {w w':World} (h:Below w.heap.size w w'):Upd [] w w':=⟨h.os,h.tape,h.output,h.size,fun k hk _=>h.block k hk⟩
theorem Upd.below {w w':World} (h:Upd [] w w'):Below w.heap.size w w':=⟨h.os,h.tape,h.output,h.size,fun k hk=>h.block k hk (by simp)⟩
theorem Upd.cell {F:List Nat} {w w':World} (h:Upd F w w') {p:Addr} (hp:p.block<w.heap.size) (hf:p.block∉F):w'.cell? p=w.cell? p:=
 World.cell?_of_block (w:=w) (h.block p.block hp hf)
def blk:Value→List Nat
 |.slice (some a) _ _=>[a.block]
 |.pointer (some a)=>[a.block]
 |.map (some r)=>[r]
 |_=>[]
theorem own_same {w w':World} {base:Nat} {e:TypeId} {size:Nat} {v:Value} {n:Nat} {xs:List Value} (h:w.ownsRow base e size v n xs)
 (hb:∀k∈blk v,w'.heap[k]? = w.heap[k]?):w'.ownsRow base e size v n xs:=by
 obtain ⟨h1,h2⟩:=h
 refine ⟨h1,?_⟩
 rcases h2 with h2 | ⟨g,cap,cur,hv,hg,hh,r⟩
 ·exact .inl h2
 ·subst hv
  exact .inr ⟨g,cap,cur,rfl,hg,by rw [hb g (by simp [blk])];exact hh,r⟩
theorem own_lt {w:World} {base:Nat} {e:TypeId} {size:Nat} {v:Value} {n:Nat} {xs:List Value} (h:w.ownsRow base e size v n xs) :
 ∀k∈blk v,k<w.heap.size:=by
 obtain ⟨_,h2⟩:=h
 rcases h2 with ⟨rfl,_⟩ | ⟨g,cap,cur,rfl,hg,hh,_⟩
 ·simp [blk]
 ·intro k hk
  simp [blk] at hk
  subst hk
  exact lt_of_block hh
theorem own_upd {F:List Nat} {w w':World} {base:Nat} {e:TypeId} {size:Nat} {v:Value} {n:Nat} {xs:List Value} (h:w.ownsRow base e size v n xs)
 (hu:Upd F w w') (hd:∀k∈blk v,k∉F):w'.ownsRow base e size v n xs:=
 own_same h fun k hk=>hu.block k (own_lt h k hk) (hd k hk)
theorem own_base {w:World} {base base':Nat} {e:TypeId} {size:Nat} {v:Value} {n:Nat} {xs:List Value} (h:w.ownsRow base e size v n xs) (hb:base'≤base):w.ownsRow base' e size v n xs:=by
 refine ⟨h.1,?_⟩
 rcases h.2 with h2 | ⟨g,cap,cur,hv,hg,hh⟩
 ·exact .inl h2
 ·exact .inr ⟨g,cap,cur,hv,Nat.le_trans hb hg,hh⟩
theorem own_ge {w:World} {base:Nat} {e:TypeId} {size:Nat} {v:Value} {n:Nat} {xs:List Value} (h:w.ownsRow base e size v n xs):∀k∈blk v,base≤k:=by
 intro k hk
 rcases h.2 with ⟨rfl,_⟩ | ⟨g,cap,cur,rfl,hg,hh⟩
 ·simp [blk] at hk
 ·simp [blk] at hk;omega
theorem own_form {w:World} {base:Nat} {e:TypeId} {size:Nat} {v:Value} {n:Nat} {xs:List Value} (h:w.ownsRow base e size v n xs) :
 ∃A C,v=.slice A n C:=by
 rcases h.2 with ⟨rfl,rfl⟩ | ⟨g,cap,cur,rfl,_⟩
 ·exact ⟨_,_,rfl⟩
 ·exact ⟨_,_,rfl⟩
theorem addr_add (b o j:Nat):(⟨b,o,none⟩:Addr).add j=⟨b,o+j,none⟩:=by
 unfold Addr.add
 split<;>simp_all
def Sees (w:World) (size:Nat) (v:Value) (n:Nat) (xs:List Value):Prop:=
 xs.length=n*size∧((v=.slice none 0 0∧n=0)∨∃b o s cap,v=.slice (some ⟨b,o,s⟩) n cap∧(0<cap→s=none)∧n≤cap∧cap≤maxLen∧∀j u,xs[j]? = some u→w.cell? ⟨b,o+j,none⟩=some u)
theorem sees_of_own {w:World} {base:Nat} {e:TypeId} {size:Nat} {v:Value} {n:Nat} {xs:List Value} (h:w.ownsRow base e size v n xs):Sees w size v n xs:=by
 refine ⟨h.1,?_⟩
 rcases h.2 with ⟨rfl,rfl⟩ | ⟨g,cap,cur,rfl,h3,h4,h5,h6,h7,h8⟩
 ·exact .inl ⟨rfl,rfl⟩
 ·refine .inr ⟨g,0,none,cap,rfl,fun _=>rfl,h5,h6,fun j u hu=>?_⟩
  have:=World.ownsRow.cells h (g:=g) rfl j u hu
  rwa [addr_add] at this
theorem sees_form {w:World} {size:Nat} {v:Value} {n:Nat} {xs:List Value} (h:Sees w size v n xs):∃A C,v=.slice A n C:=by
 rcases h.2 with ⟨rfl,rfl⟩ | ⟨g,o,s,cap,rfl,_⟩
 ·exact ⟨_,_,rfl⟩
 ·exact ⟨_,_,rfl⟩
theorem sees_upd {F:List Nat} {w w':World} {size:Nat} {v:Value} {n:Nat} {xs:List Value} (h:Sees w size v n xs) (hu:Upd F w w') (hd:0<n→∀k∈blk v,k<w.heap.size→k∉F):Sees w' size v n xs:=by
 refine ⟨h.1,?_⟩
 rcases h.2 with h2 | ⟨b,o,s,cap,rfl,h3,h4,h5,h6⟩
 ·exact .inl h2
 ·refine .inr ⟨b,o,s,cap,rfl,h3,h4,h5,fun j u hx=>?_⟩
  have hc:=h6 j u hx
  have hlt:=World.block_lt_of_cell? w _ hc
  have hn:0<n:=by
   rcases Nat.eq_zero_or_pos n with h0 | h0
   ·subst h0
    have hx0:xs = []:=List.eq_nil_of_length_eq_zero (by simpa using h.1)
    subst hx0;simp at hx
   ·exact h0
  rw [hu.cell (p:=⟨b,o+j,none⟩) hlt (hd hn b (by simp [blk]) hlt)]
  exact hc
theorem sees_lit (w:World) (cs:Array Value) (t:TypeId) (size n:Nat) (hs:cs.size=n*size) (hm:n≤maxLen) :
 Sees (w.alloc (.cells cs t)) size (.slice (some ⟨w.heap.size,0,none⟩) n n) n cs.toList:=by
 refine ⟨by simpa using hs,.inr ⟨w.heap.size,0,none,n,rfl,fun _=>rfl,Nat.le_refl _,hm,fun j u hu=>?_⟩⟩
 rw [World.cell?_alloc_at _ _ _ _ rfl]
 simpa using hu
def AppPost (w w':World) (base:Nat) (e:TypeId) (size:Nat) (v:Value) (n:Nat) (xs:List Value) (m:Nat) (news:List Value) (A:Option Addr) (C:Nat):Prop:=
 w'.ownsRow base e size (.slice A (n+m) C) (n+m) (xs++news)∧w.grownBy w' v.ownBlock∧((.slice A (n+m) C:Value)=.slice none 0 0↔v=.slice none 0 0∧m=0)∧(blk (.slice A (n+m) C)=blk v∨blk (.slice A (n+m) C) = [w.heap.size])
theorem ownBlock_blk {v:Value} {k:Nat} (h:v.ownBlock=some k):k∈blk v:=by
 cases v<;>simp [Value.ownBlock] at h
 rename_i a _ _
 cases a<;>simp at h
 simp [blk,h]
theorem AppPost.upd {w w':World} {base:Nat} {e:TypeId} {size:Nat} {v:Value} {n:Nat} {xs:List Value} {m:Nat} {news:List Value} {A:Option Addr} {C:Nat} (h:AppPost w w' base e size v n xs m news A C):Upd (blk v) w w':=
 (Upd.refl _ _).grown h.2.1 fun _ hk=>.inl (ownBlock_blk hk)
theorem AppPost.own {w w':World} {base:Nat} {e:TypeId} {size:Nat} {v:Value} {n:Nat} {xs:List Value} {m:Nat} {news:List Value} {A:Option Addr} {C:Nat} (h:AppPost w w' base e size v n xs m news A C) :
 w'.ownsRow base e size (.slice A (n+m) C) (n+m) (xs++news):=h.1
theorem AppPost.at {w w':World} {base:Nat} {e:TypeId} {size:Nat} {v:Value} {n:Nat} {xs:List Value} {m:Nat} {news:List Value} {A:Option Addr} {C:Nat} (h:AppPost w w' base e size v n xs m news A C) :
 blk (.slice A (n+m) C)=blk v∨blk (.slice A (n+m) C) = [w.heap.size]:=h.2.2.2
section
variable {P:Program} (w:World)
theorem run_app (base:Nat) (t ty e:TypeId) (i:TypeInfo) (z:Value) (size bytes:Nat) (ht:P.underlying t=some (.slice e)) (hi:P.info? e=some i) (hz:i.zero=some z)
 (hsize:i.size=size) (hby:i.bytes=bytes) (hzs:z.cells.size=size) (hsz:0<size)
 (v:Value) (n:Nat) (xs:List Value) (hown:w.ownsRow base e size v n xs)
 (x:Value) (m:Nat) (news:List Value) (hx:Sees w size x m news) (h1:∀u∈news,u.oneCell'=true)
 (h63:n+m≤maxLen) (hbytes:(n+m)*bytes≤140737488355328) (hbase:base≤w.heap.size) :
 ∃A C w',(Builtin.append_ #[t,t] ty #[v,x]).run P w=.ok (.slice A (n+m) C) w'∧w'.ownsRow base e size (.slice A (n+m) C) (n+m) (xs++news)∧w.grownBy w' v.ownBlock∧
  ((.slice A (n+m) C:Value)=.slice none 0 0↔v=.slice none 0 0∧m=0)∧(blk (.slice A (n+m) C)=blk v∨blk (.slice A (n+m) C) = [w.heap.size]):=by
 have fin:∀(w0:World) (v':Value),w0.ownsRow base e size v' (n+m) (xs++news)→(v'.ownBlock=v.ownBlock∨v'.ownBlock=some w.heap.size)→
  ∃A C,v'=.slice A (n+m) C∧(blk v'=blk v∨blk v' = [w.heap.size]):=by
  intro w0 v' ho hb
  obtain ⟨A,C,rfl⟩:=own_form ho
  obtain ⟨A0,C0,rfl⟩:=own_form hown
  refine ⟨A,C,rfl,?_⟩
  cases A<;>cases A0<;>simp_all [Value.ownBlock,blk]
 rcases hx.2 with ⟨rfl,rfl⟩ | ⟨b,o,s,cap,rfl,h3,h4,h5,h6⟩
 ·have hn:news = []:=List.eq_nil_of_length_eq_zero (by simpa using hx.1)
  subst hn
  obtain ⟨A,C,rfl⟩:=own_form hown
  have hr:=run_append_owned_none (P:=P) (w:=w) base t ty e i size ht hi _ n xs hown
  refine ⟨A,C,w,?_,?_,⟨rfl,rfl,rfl,Nat.le_refl _,fun _ _ _=>rfl⟩,?_,.inl rfl⟩
  ·simpa using hr
  ·simpa using hown
  ·simp
 ·obtain ⟨v',w',hr,h2,h3',h4',h5'⟩:=run_append_own_at (P:=P) w base t ty e i z size bytes ht hi hz hsize hby hzs hsz v n xs hown ⟨b,o,s⟩ m cap news hx.1
   (fun j u hu=>by
    have hm:0<m:=by
     rcases Nat.eq_zero_or_pos m with h0 | h0
     ·subst h0
      have hx0:news = []:=List.eq_nil_of_length_eq_zero (by simpa using hx.1)
      subst hx0;simp at hu
     ·exact h0
    have hs:=h3 (by omega)
    subst hs
    rw [addr_add];exact h6 j u hu) h1 h63 hbytes hbase
  obtain ⟨A,C,rfl,hblk⟩:=fin w' v' h2 h5'
  exact ⟨A,C,w',hr,h2,h3',h4',hblk⟩
theorem wp_app {o:Oper} {a:Act} {K:Act→World→Prop} {Q:Exit→Act→World→Prop} (s x:Operand) (t:TypeId)
 (ho:o.op=.call { callee:=.builtin .append,args:=#[s,x],argTypes:=#[t,t] })
 (base:Nat) (e:TypeId) (i:TypeInfo) (z:Value) (size bytes:Nat) (ht:P.underlying t=some (.slice e)) (hi:P.info? e=some i) (hz:i.zero=some z)
 (hsize:i.size=size) (hby:i.bytes=bytes) (hzs:z.cells.size=size) (hsz:0<size)
 (v:Value) (n:Nat) (xs:List Value) (hs:a.eval s=v) (hown:w.ownsRow base e size v n xs)
 (vx:Value) (m:Nat) (news:List Value) (hx:a.eval x=vx) (hsee:Sees w size vx m news) (h1:∀u∈news,u.oneCell'=true)
 (h63:n+m≤maxLen) (hbytes:(n+m)*bytes≤140737488355328) (hbase:base≤w.heap.size)
 (h:∀A C w',AppPost w w' base e size v n xs m news A C→K (a.put o.dst (.slice A (n+m) C)) w'):o.wp P a w K Q:=by
 obtain ⟨A,C,w',hr,h2,h3,h4,h5⟩:=run_app (P:=P) w base t o.type e i z size bytes ht hi hz hsize hby hzs hsz v n xs hown vx m news hsee h1 h63 hbytes hbase
 unfold Oper.wp execOp
 simp only [ho,resolve,invoke,builtin,Sem.run_bind,Sem.run_pure,Result.andThen_ok,List.map_toArray,List.map_cons,List.map_nil,hs,hx,hr]
 exact h A C w' ⟨h2,h3,h4,h5⟩
theorem wpList_app {ops:Array Oper} {rest:List Oper} {o:Oper} {a:Act} {Q:Exit→Act→World→Prop} (hgd:o.guard=none) (s x:Operand) (t:TypeId)
 (ho:o.op=.call { callee:=.builtin .append,args:=#[s,x],argTypes:=#[t,t] })
 (base:Nat) (e:TypeId) (i:TypeInfo) (z:Value) (size bytes:Nat) (ht:P.underlying t=some (.slice e)) (hi:P.info? e=some i) (hz:i.zero=some z)
 (hsize:i.size=size) (hby:i.bytes=bytes) (hzs:z.cells.size=size) (hsz:0<size)
 (v:Value) (n:Nat) (xs:List Value) (hs:a.eval s=v) (hown:w.ownsRow base e size v n xs)
 (vx:Value) (m:Nat) (news:List Value) (hx:a.eval x=vx) (hsee:Sees w size vx m news) (h1:∀u∈news,u.oneCell'=true)
 (h63:n+m≤maxLen) (hbytes:(n+m)*bytes≤140737488355328) (hbase:base≤w.heap.size)
 (h:∀A C w',AppPost w w' base e size v n xs m news A C→wpList P ops Q rest (a.put o.dst (.slice A (n+m) C)) w'):wpList P ops Q (o::rest) a w:=
 wpList_plain hgd fun _ hK=>wp_app w s x t ho base e i z size bytes ht hi hz hsize hby hzs hsz v n xs hs hown vx m news hx hsee h1 h63 hbytes hbase fun A C w' h2=>hK _ _ (h A C w' h2)
theorem step_app {ops:Array Oper} {o:Oper} {a:Act} {K:Act→World→Prop} {Q:Exit→Act→World→Prop} {E:Prop} (hgd:o.guard=none) (s x:Operand) (t:TypeId)
 (ho:o.op=.call { callee:=.builtin .append,args:=#[s,x],argTypes:=#[t,t] })
 (base:Nat) (e:TypeId) (i:TypeInfo) (z:Value) (size bytes:Nat) (ht:P.underlying t=some (.slice e)) (hi:P.info? e=some i) (hz:i.zero=some z)
 (hsize:i.size=size) (hby:i.bytes=bytes) (hzs:z.cells.size=size) (hsz:0<size)
 (v:Value) (n:Nat) (xs:List Value) (hs:a.eval s=v) (hown:w.ownsRow base e size v n xs)
 (vx:Value) (m:Nat) (news:List Value) (hx:a.eval x=vx) (hsee:Sees w size vx m news) (h1:∀u∈news,u.oneCell'=true)
 (h63:n+m≤maxLen) (hbytes:(n+m)*bytes≤140737488355328) (hbase:base≤w.heap.size)
 (h:∀A C w',AppPost w w' base e size v n xs m news A C→K (a.put o.dst (.slice A (n+m) C)) w') :
 if Region.wanted o (yielded ops a.tmps)=true then Oper.wp P o a w K Q else E:=by
 have hw:Region.wanted o (yielded ops a.tmps)=true:=by simp [Region.wanted,hgd]
 rw [if_pos hw]
 exact wp_app w s x t ho base e i z size bytes ht hi hz hsize hby hzs hsz v n xs hs hown vx m news hx hsee h1 h63 hbytes hbase h
end
section
variable {P:Program}
variable {w:World} {size:Nat} {v:Value} {n:Nat} {xs:List Value}
theorem elem_of {P:Program} {t e:TypeId} (ht:P.underlying t=some (.slice e)):P.underlying t=some (.slice (P.elem t)):=by
 have:P.elem t=e:=by simp [Program.elem,ht]
 rw [this];exact ht
theorem cut_to {t e:TypeId} {i:TypeInfo} (ht:P.underlying t=some (.slice e)) (hi:P.info? e=some i) (hsize:i.size=size) (h:Sees w size v n xs) (k:Nat) (hk:k≤n) :
 ∃A C,(∀w',(Instr.slice t v none (some (.int .i64 (k:Int))) none).run P w'=.ok (.slice A k C) w')∧
  (∀w',Sees w' size v n xs→Sees w' size (.slice A k C) k (xs.take (k*size)))∧blk (.slice A k C)=blk v:=by
 subst hsize
 have hel:P.elem t=e:=by simp [Program.elem,ht]
 rcases h.2 with ⟨rfl,rfl⟩ | ⟨b,o,s,cap,rfl,h3,h4,h5,h6⟩
 ·have hk0:k=0:=by omega
  subst hk0
  refine ⟨none,0,fun w'=>?_,fun w' hs=>?_,rfl⟩
  ·rw [run_slice_h w' t none 0 0 (elem_of ht) .i64 _ (by omega) (by omega)]
   simp [hel,sizeOf,typeInfo,hi,sliced]
  ·exact ⟨by simp,.inl ⟨rfl,rfl⟩⟩
 ·refine ⟨some ⟨b,o,s⟩,cap,fun w'=>?_,fun w' hs=>?_,rfl⟩
  ·rw [run_slice_h w' t _ n cap (elem_of ht) .i64 _ (by omega) (by omega)]
   simp [hel,sizeOf,typeInfo,hi,sliced,Addr.add]
  ·refine ⟨by rw [List.length_take,hs.1];exact Nat.min_eq_left (Nat.mul_le_mul_right _ hk),.inr ⟨b,o,s,cap,rfl,h3,by omega,h5,fun j u hu=>?_⟩⟩
   rw [List.getElem?_take] at hu
   split at hu
   ·rcases hs.2 with ⟨hc,_⟩ | ⟨b',o',s',cap',hc,_,_,_,h5'⟩
    ·cases hc
    ·cases hc;exact h5' j u hu
   ·cases hu
theorem cut_from {t e:TypeId} {i:TypeInfo} (ht:P.underlying t=some (.slice e)) (hi:P.info? e=some i) (hsize:i.size=size) (h:Sees w size v n xs) (k:Nat) (hk:k≤n) :
 ∃A C,(∀w',(Instr.slice t v (some (.int .i64 (k:Int))) none none).run P w'=.ok (.slice A (n - k) C) w')∧
  (∀w',Sees w' size v n xs→Sees w' size (.slice A (n - k) C) (n - k) (xs.drop (k*size)))∧blk (.slice A (n - k) C)=blk v:=by
 subst hsize
 have hel:P.elem t=e:=by simp [Program.elem,ht]
 rcases h.2 with ⟨rfl,rfl⟩ | ⟨b,o,s,cap,rfl,h3,h4,h5,h6⟩
 ·have hk0:k=0:=by omega
  subst hk0
  refine ⟨none,0,fun w'=>?_,fun w' hs=>?_,rfl⟩
  ·rw [run_slice_l w' t none 0 0 (elem_of ht) .i64 _ (by omega) (by omega)]
   simp [hel,sizeOf,typeInfo,hi,sliced]
  ·exact ⟨by simpa using hs.1,.inl ⟨rfl,rfl⟩⟩
 ·refine ⟨if cap=k then some ⟨b,o,s⟩ else some ⟨b,o+k*i.size,none⟩,cap - k,fun w'=>?_,fun w' hs=>?_,?_⟩
  ·rw [run_slice_l w' t _ n cap (elem_of ht) .i64 _ (by omega) (by omega)]
   by_cases hck:cap=k
   ·simp [hel,sizeOf,typeInfo,hi,sliced,hck]
   ·have hs0:=h3 (by omega)
    subst hs0
    simp [hel,sizeOf,typeInfo,hi,sliced,addr_add,hck]
  ·refine ⟨by rw [List.length_drop,hs.1,Nat.sub_mul],.inr ⟨b,if cap=k then o else o+k*i.size,if cap=k then s else none,cap - k,?_,?_,by omega,by omega,fun j u hu=>?_⟩⟩
   ·split<;>rfl
   ·intro hp;rw [if_neg (by omega)]
   ·rcases hs.2 with ⟨hc,_⟩ | ⟨b',o',s',cap',hc,_,_,_,h5'⟩
    ·cases hc
    ·cases hc
     rw [List.getElem?_drop] at hu
     have hlt:k*i.size+j<n*i.size:=by
      rcases Nat.lt_or_ge (k*i.size+j) (n*i.size) with h' | h'
      ·exact h'
      ·rw [List.getElem?_eq_none (by rw [hs.1];exact h')] at hu;cases hu
     have hkc:cap≠k:=by
      intro e;subst e
      have:n=cap:=by omega
      subst this;omega
     rw [if_neg hkc]
     have:=h5' _ u hu
     rwa [show o+(k*i.size+j)=o+k*i.size+j from by omega] at this
  ·split<;>rfl
end
section plain
variable {α:Type}
end plain
structure Kind (α:Type) where
 T:TypeId
 sT:TypeId
 eT:TypeId
 sz:Nat
 enc:α→List Value
 len:∀x,(enc x).length=sz
 one:∀x,∀u∈enc x,u.oneCell'=true
variable {α:Type}
def Kind.all (K:Kind α) (l:List α):List Value:=l.flatMap K.enc
theorem Kind.all_len (K:Kind α) (l:List α):(K.all l).length=l.length*K.sz:=by
 induction l with
 |nil=>simp [Kind.all]
 |cons a l ih=>simp only [Kind.all,List.flatMap_cons,List.length_append,K.len,List.length_cons,Nat.add_mul,Nat.one_mul] at *;omega
theorem Kind.all_one (K:Kind α) (l:List α):∀u∈K.all l,u.oneCell'=true:=by
 intro u hu
 simp only [Kind.all,List.mem_flatMap] at hu
 obtain ⟨x,_,hx⟩:=hu
 exact K.one x u hx
theorem Kind.all_app (K:Kind α) (a b:List α):K.all (a++b)=K.all a++K.all b:=by simp [Kind.all]
theorem Kind.all_take (K:Kind α) (l:List α) (k:Nat):K.all (l.take k)=(K.all l).take (k*K.sz):=by
 rcases Nat.lt_or_ge k l.length with h | h
 ·have e:K.all l=K.all (l.take k)++K.all (l.drop k):=by rw [←Kind.all_app,List.take_append_drop]
  have hl:(K.all (l.take k)).length=k*K.sz:=by rw [K.all_len,List.length_take,Nat.min_eq_left (by omega)]
  rw [e,←hl,List.take_left]
 ·rw [List.take_of_length_le h,List.take_of_length_le (by rw [K.all_len];exact Nat.mul_le_mul_right _ h)]
theorem Kind.all_drop (K:Kind α) (l:List α) (k:Nat):K.all (l.drop k)=(K.all l).drop (k*K.sz):=by
 rcases Nat.lt_or_ge k l.length with h | h
 ·have e:K.all l=K.all (l.take k)++K.all (l.drop k):=by rw [←Kind.all_app,List.take_append_drop]
  have hl:(K.all (l.take k)).length=k*K.sz:=by rw [K.all_len,List.length_take,Nat.min_eq_left (by omega)]
  rw [e,←hl,List.drop_left]
 ·rw [List.drop_eq_nil_of_le h,List.drop_eq_nil_of_le (by rw [K.all_len];exact Nat.mul_le_mul_right _ h)]
  rfl
def Kind.row (K:Kind α) (w:World) (base:Nat) (v:Value) (l:List α):Prop:=w.ownsRow base K.eT K.sz v l.length (K.all l)
theorem heap_set {w:World} {b:Nat} {cs:Array Value} {t:TypeId} (h:w.heap[b]? = some (.cells cs t (0,0))) (i:Nat) (u:Value) :
 (w.setCell ⟨b,i,none⟩ u).heap[b]? = some (.cells (cs.setIfInBounds i u) t (0,0)):=heap_setCell_same w b i cs t u h
end Go.Proofs.YtkmnbodlciepaaaGreat
namespace Go.Proofs.YtkmnbodlciepaaaGreat
section
variable {α:Type} (key:α→Nat)
def Asc (l:List α):Prop:=(l.map key).Pairwise (· < ·)
def findK (l:List α) (k:Nat):Option α:=l.find? fun x=>key x==k
def insA (x:α) (l:List α):List α:=(l.filter fun y=>decide (key y<key x))++x::l.filter fun y=>decide (key x<key y)
def delA (k:Nat) (l:List α):List α:=l.filter fun y=>key y != k
variable {key} {l:List α}
theorem Asc.nil:Asc key ([]:List α):=List.Pairwise.nil
theorem findK_some {k:Nat} {x:α} (h:findK key l k=some x):x∈l∧key x=k:=by
 unfold findK at h
 exact ⟨List.mem_of_find?_eq_some h,by have:=List.find?_some h;simpa using this⟩
theorem Asc.inj (h:Asc key l) {x y:α} (hx:x∈l) (hy:y∈l) (e:key x=key y):x=y:=by
 unfold Asc at h
 obtain ⟨i,hi,rfl⟩:=List.getElem_of_mem hx
 obtain ⟨j,hj,rfl⟩:=List.getElem_of_mem hy
 rw [List.pairwise_map,List.pairwise_iff_getElem] at h
 rcases Nat.lt_trichotomy i j with h1 | h1 | h1
 ·have:=h i j hi hj h1;omega
 ·subst h1;rfl
 ·have:=h j i hj hi h1;omega
theorem Asc.find (h:Asc key l) {x:α} (hx:x∈l):findK key l (key x)=some x:=by
 cases e:findK key l (key x) with
 |none=>
  unfold findK at e
  rw [List.find?_eq_none] at e
  exact absurd (by simp) (e x hx)
 |some y=>
  obtain ⟨h1,h2⟩:=findK_some e
  rw [h.inj h1 hx h2]
theorem findK_none {k:Nat}:findK key l k=none↔∀x∈l,key x≠k:=by
 unfold findK
 rw [List.find?_eq_none]
 simp
theorem Asc.filter (h:Asc key l) (p:α→Bool):Asc key (l.filter p):=by
 unfold Asc at h ⊢
 rw [List.pairwise_map] at h ⊢
 exact h.filter p
theorem mem_insA {x y:α} (hn:∀z∈l,key z≠key x):y∈insA key x l↔y=x∨y∈l:=by
 unfold insA
 simp only [List.mem_append,List.mem_filter,List.mem_cons,decide_eq_true_eq]
 constructor
 ·rintro (h | h | h)
  ·exact .inr h.1
  ·exact .inl h
  ·exact .inr h.1
 ·rintro (h | h)
  ·exact .inr (.inl h)
  ·have:=hn y h
   rcases Nat.lt_or_gt_of_ne this with h1 | h1
   ·exact .inl ⟨h,h1⟩
   ·exact .inr (.inr ⟨h,h1⟩)
theorem Asc.ins (h:Asc key l) (x:α):Asc key (insA key x l):=by
 unfold Asc insA at *
 rw [List.pairwise_map] at *
 rw [List.pairwise_append]
 refine ⟨h.filter _,?_,?_⟩
 ·rw [List.pairwise_cons]
  refine ⟨fun y hy=>?_,h.filter _⟩
  have:=(List.mem_filter.1 hy).2
  simpa using this
 ·intro a ha b hb
  have h1:=(List.mem_filter.1 ha).2
  simp at h1
  rcases List.mem_cons.1 hb with rfl | hb
  ·exact h1
  ·have h2:=(List.mem_filter.1 hb).2
   simp at h2
   omega
theorem Asc.del (h:Asc key l) (k:Nat):Asc key (delA key k l):=h.filter _
theorem findK_ins (h:Asc key l) {x:α} (hn:findK key l (key x)=none) (k:Nat):findK key (insA key x l) k=if k=key x then some x else findK key l k:=by
 have hn':=findK_none.1 hn
 by_cases e:k=key x
 ·rw [if_pos e,e]
  exact (h.ins x).find ((mem_insA hn').2 (.inl rfl))
 ·rw [if_neg e]
  cases e2:findK key l k with
  |none=>
   rw [findK_none] at e2 ⊢
   intro y hy
   rcases (mem_insA hn').1 hy with rfl | hy
   ·exact Ne.symm e
   ·exact e2 y hy
  |some y=>
   obtain ⟨h1,rfl⟩:=findK_some e2
   exact (h.ins x).find ((mem_insA hn').2 (.inr h1))
theorem findK_del (h:Asc key l) (k j:Nat):findK key (delA key k l) j=if j=k then none else findK key l j:=by
 by_cases e:j=k
 ·subst e
  rw [if_pos rfl,findK_none]
  intro y hy
  have:=(List.mem_filter.1 hy).2
  simpa using this
 ·rw [if_neg e]
  cases e2:findK key l j with
  |none=>
   rw [findK_none] at e2 ⊢
   exact fun y hy=>e2 y (List.mem_filter.1 hy).1
  |some y=>
   obtain ⟨h1,rfl⟩:=findK_some e2
   exact (h.del k).find (List.mem_filter.2 ⟨h1,by simpa using e⟩)
theorem filter_split (h:Asc key l) (k:Nat):(l.filter fun y=>decide (key y<k))++(l.filter fun y=>decide (k≤key y))=l:=by
 induction l with
 |nil=>rfl
 |cons a l ih=>
  have h':Asc key l:=by unfold Asc at *;exact (List.pairwise_cons.1 h).2
  have hall:∀y∈l,key a<key y:=by
   unfold Asc at h
   rw [List.map_cons,List.pairwise_cons] at h
   exact fun y hy=>h.1 _ (List.mem_map.2 ⟨y,hy,rfl⟩)
  by_cases e:key a<k
  ·rw [List.filter_cons,List.filter_cons,if_pos (by simpa using e),if_neg (by simpa using e),List.cons_append,ih h']
  ·have e1:(l.filter fun y=>decide (key y<k)) = []:=by
    rw [List.filter_eq_nil_iff]
    intro y hy
    have:=hall y hy
    simp;omega
   have e2:(l.filter fun y=>decide (k≤key y))=l:=by
    rw [List.filter_eq_self]
    intro y hy
    have:=hall y hy
    simp;omega
   rw [List.filter_cons,List.filter_cons,if_neg (by simpa using e),if_pos (by simp;omega),e1,e2];rfl
theorem ins_len (h:Asc key l) {x:α} (hn:findK key l (key x)=none):(insA key x l).length=l.length+1:=by
 have hn':=findK_none.1 hn
 unfold insA
 have e:(l.filter fun y=>decide (key x<key y))=l.filter fun y=>decide (key x≤key y):=by
  refine List.filter_congr fun y hy=>?_
  have:=hn' y hy
  rw [decide_eq_decide];omega
 have:=congrArg List.length (filter_split h (key x))
 rw [List.length_append] at this
 rw [List.length_append,List.length_cons,e]
 omega
theorem del_len (h:Asc key l) {x:α} {k:Nat} (hs:findK key l k=some x):(delA key k l).length+1=l.length:=by
 obtain ⟨h1,rfl⟩:=findK_some hs
 unfold delA
 clear hs
 induction l with
 |nil=>cases h1
 |cons a l ih=>
  have h':Asc key l:=by unfold Asc at *;exact (List.pairwise_cons.1 h).2
  have hall:∀y∈l,key a<key y:=by
   unfold Asc at h
   rw [List.map_cons,List.pairwise_cons] at h
   exact fun y hy=>h.1 _ (List.mem_map.2 ⟨y,hy,rfl⟩)
  rcases List.mem_cons.1 h1 with rfl | h1
  ·rw [List.filter_cons,if_neg (by simp),List.filter_eq_self.2 fun y hy=>by have:=hall y hy;simp;omega];rfl
  ·have:=hall x h1
   rw [List.filter_cons,if_pos (by simp;omega),List.length_cons,List.length_cons,ih h' h1]
end
end Go.Proofs.YtkmnbodlciepaaaGreat
namespace Go.Proofs.YtkmnbodlciepaaaGreat
structure Pt where
 x:Int
 y:Int
 id:Nat
structure Sp where
 lo:Int
 hi:Int
 id:Nat
structure OpP where
 code:Nat
 a:Int
 b:Int
 c:Int
 d:Int
 id:Nat
structure RepP where
 err:Nat
 ids:List Nat
 cnt:Nat
 yes:Bool
 wide:Nat
structure Md where
 room:Nat
 ps:List Pt
 ss:List Sp
 bs:List Bx
def stabBM (lo hi x:Int):Bool:=decide (lo≤x)&&decide (x≤hi)
def inBM (b:Bx) (x y:Int):Bool:=stabBM b.x1 b.x2 x&&stabBM b.y1 b.y2 y
def overB (p q:Pt):Bool:=decide (q.x≤p.x)&&(decide (q.y≤p.y)&&(!decide (p.x=q.x)||!decide (p.y=q.y)))
def lowB (p q:Pt):Bool:=decide (p.y<q.y)||(decide (p.y=q.y)&&decide (p.id<q.id))
def meetB (s:Sp) (lo hi:Int):Bool:=decide (max s.lo lo≤min s.hi hi)
def cornB (p:Pt) (a b c:Int):Bool:=
 if c=0 then decide (p.x≤a)&&decide (p.y≤b) else
 if c=1 then decide (a≤p.x)&&decide (p.y≤b) else
 if c=2 then decide (p.x≤a)&&decide (b≤p.y) else
 if c=3 then decide (a≤p.x)&&decide (b≤p.y) else false
def err (e:Nat):RepP:=⟨e,[],0,false,0⟩
def cntR (n:Nat):RepP:=⟨0,[],n,false,0⟩
def idsR (l:List Nat):RepP:=⟨0,l,0,false,0⟩
def yesR (b:Bool):RepP:=⟨0,[],0,b,0⟩
def wideR (n:Nat):RepP:=⟨0,[],0,false,n⟩
section
variable {α:Type} (key:α→Nat)
def comeM (room:Nat) (l:List α) (x:α):List α×RepP:=
 if (findK key l (key x)).isSome then (l,err 262) else if room≤l.length then (l,err 5) else (insA key x l,cntR (l.length+1))
def loseM (l:List α) (k:Nat):List α×RepP:=
 if (findK key l k).isSome then (delA key k l,cntR (l.length - 1)) else (l,err 263)
def namesM (l:List α) (p:α→Bool):List Nat:=(l.filter p).map key
end
def OpP.pt (o:OpP):Pt:=⟨o.a,o.b,o.id⟩
def OpP.sp (o:OpP):Sp:=⟨o.a,o.b,o.id⟩
def OpP.bx (o:OpP):Bx:=⟨o.a,o.b,o.c,o.d,o.id⟩
def changeM (m:Md) (o:OpP):Md×RepP:=
 if o.code=1 then ((({ m with ps:=(comeM Pt.id m.room m.ps o.pt).1 }):Md),(comeM Pt.id m.room m.ps o.pt).2) else
 if o.code=2 then (if o.a≤o.b then ((({ m with ss:=(comeM Sp.id m.room m.ss o.sp).1 }):Md),(comeM Sp.id m.room m.ss o.sp).2) else (m,err 261)) else
 if o.code=3 then (if o.a≤o.b∧o.c≤o.d then ((({ m with bs:=(comeM Bx.id m.room m.bs o.bx).1 }):Md),(comeM Bx.id m.room m.bs o.bx).2) else (m,err 261)) else
 if o.code=4 then ((({ m with ps:=(loseM Pt.id m.ps o.id).1 }):Md),(loseM Pt.id m.ps o.id).2) else
 if o.code=5 then ((({ m with ss:=(loseM Sp.id m.ss o.id).1 }):Md),(loseM Sp.id m.ss o.id).2) else
 ((({ m with bs:=(loseM Bx.id m.bs o.id).1 }):Md),(loseM Bx.id m.bs o.id).2)
def askP (l:List Pt) (o:OpP) (p:Pt):Bool:=
 if o.code=7∨o.code=8 then inBM ⟨o.a,o.b,o.c,o.d,0⟩ p.x p.y else
 if o.code=9∨o.code=10 then inBM ⟨o.a,o.b,-9223372036854775808,o.c,0⟩ p.x p.y else
 if o.code=11∨o.code=12 then cornB p o.a o.b o.c else
 if o.code=13 then (inBM ⟨o.a,o.b,-9223372036854775808,9223372036854775807,0⟩ p.x p.y&&(namesM Pt.id l fun q=>inBM ⟨o.a,o.b,-9223372036854775808,9223372036854775807,0⟩ q.x q.y&&lowB q p).isEmpty) else
 (namesM Pt.id l fun q=>overB q p).isEmpty
def pointM (m:Md) (o:OpP):RepP:=
 let ids:=namesM Pt.id m.ps (askP m.ps o)
 if o.code=8∨o.code=12 then cntR ids.length else if o.code=10 then yesR (decide (0<ids.length)) else idsR ids
def otherM (A R:List Bx→Nat) (m:Md) (o:OpP):RepP:=
 if o.code=15 then idsR (namesM Sp.id m.ss fun s=>stabBM s.lo s.hi o.a) else
 if o.code=16 then cntR (namesM Sp.id m.ss fun s=>stabBM s.lo s.hi o.a).length else
 if o.code=17 then idsR (namesM Sp.id m.ss fun s=>meetB s o.a o.b) else
 if o.code=18 then wideR (A m.bs) else
 if o.code=19 then wideR (R m.bs) else
 idsR (namesM Bx.id m.bs fun b=>inBM b o.a o.b)
def doM (A R:List Bx→Nat) (m:Md) (o:OpP):Md×RepP:=
 if o.code<1∨20<o.code then (m,err 260) else
 if o.code≤6 then changeM m o else
 if o.code≤14 then (m,pointM m o) else (m,otherM A R m o)
structure Md.ok (m:Md):Prop where
 ps:Asc Pt.id m.ps
 ss:Asc Sp.id m.ss
 bs:Asc Bx.id m.bs
 pi:∀x∈m.ps,x.id<4294967296
 si:∀x∈m.ss,x.id<4294967296
 bi:∀x∈m.bs,x.id<4294967296
theorem names_rise {α:Type} {key:α→Nat} {l:List α} (h:Asc key l) (p:α→Bool):(namesM key l p).Pairwise (· < ·):=h.filter p
theorem mem_names {α:Type} {key:α→Nat} {l:List α} (h:Asc key l) (p:α→Bool) (k:Nat):k∈namesM key l p↔∃x,findK key l k=some x∧p x=true:=by
 unfold namesM
 simp only [List.mem_map,List.mem_filter]
 constructor
 ·rintro ⟨x,⟨h1,h2⟩,rfl⟩
  exact ⟨x,h.find h1,h2⟩
 ·rintro ⟨x,h1,h2⟩
  obtain ⟨h3,rfl⟩:=findK_some h1
  exact ⟨x,⟨h3,h2⟩,rfl⟩
section
variable {α:Type} {key:α→Nat} {l:List α}
theorem comeM_asc (h:Asc key l) (room:Nat) (x:α):Asc key (comeM key room l x).1:=by
 unfold comeM;split
 ·exact h
 ·split
  ·exact h
  ·exact h.ins x
theorem loseM_asc (h:Asc key l) (k:Nat):Asc key (loseM key l k).1:=by
 unfold loseM;split
 ·exact h.del k
 ·exact h
theorem comeM_mem (room:Nat) (x:α) {y:α} (hy:y∈(comeM key room l x).1):y=x∨y∈l:=by
 unfold comeM at hy;split at hy
 ·exact .inr hy
 ·rename_i hn
  split at hy
  ·exact .inr hy
  ·exact (mem_insA (findK_none.1 (by simpa using hn))).1 hy
theorem loseM_mem (k:Nat) {y:α} (hy:y∈(loseM key l k).1):y∈l:=by
 unfold loseM at hy;split at hy
 ·exact (List.mem_filter.1 hy).1
 ·exact hy
theorem comeM_len (h:Asc key l) (room:Nat) (x:α):(comeM key room l x).1.length≤l.length+1:=by
 unfold comeM;split
 ·simp
 ·rename_i hn
  split
  ·simp
  ·rw [ins_len h (by simpa using hn)];exact Nat.le_refl _
theorem loseM_len (k:Nat):(loseM key l k).1.length≤l.length:=by
 unfold loseM;split
 ·exact List.length_filter_le _ _
 ·exact Nat.le_refl _
end
theorem doM_ok {A R:List Bx→Nat} {m:Md} (h:m.ok) {o:OpP} (ho:o.id<4294967296):(doM A R m o).1.ok:=by
 have k1:∀x∈(comeM Pt.id m.room m.ps o.pt).1,x.id<4294967296:=fun x hx=>by
  rcases comeM_mem _ _ hx with e | hx
  ·rw [e];exact ho
  ·exact h.pi x hx
 have k2:∀x∈(comeM Sp.id m.room m.ss o.sp).1,x.id<4294967296:=fun x hx=>by
  rcases comeM_mem _ _ hx with e | hx
  ·rw [e];exact ho
  ·exact h.si x hx
 have k3:∀x∈(comeM Bx.id m.room m.bs o.bx).1,x.id<4294967296:=fun x hx=>by
  rcases comeM_mem _ _ hx with e | hx
  ·rw [e];exact ho
  ·exact h.bi x hx
 obtain ⟨r,hr⟩:∃r,doM A R m o=r:=⟨_,rfl⟩
 rw [hr]
 unfold doM changeM at hr
 split at hr
 ·subst hr;exact h
 split at hr
 ·split at hr
  ·subst hr;exact ⟨comeM_asc h.ps _ _,h.ss,h.bs,k1,h.si,h.bi⟩
  split at hr
  ·split at hr
   ·subst hr;exact ⟨h.ps,comeM_asc h.ss _ _,h.bs,h.pi,k2,h.bi⟩
   ·subst hr;exact h
  split at hr
  ·split at hr
   ·subst hr;exact ⟨h.ps,h.ss,comeM_asc h.bs _ _,h.pi,h.si,k3⟩
   ·subst hr;exact h
  split at hr
  ·subst hr;exact ⟨loseM_asc h.ps _,h.ss,h.bs,fun x hx=>h.pi x (loseM_mem _ hx),h.si,h.bi⟩
  split at hr
  ·subst hr;exact ⟨h.ps,loseM_asc h.ss _,h.bs,h.pi,fun x hx=>h.si x (loseM_mem _ hx),h.bi⟩
  ·subst hr;exact ⟨h.ps,h.ss,loseM_asc h.bs _,h.pi,h.si,fun x hx=>h.bi x (loseM_mem _ hx)⟩
 split at hr<;>(subst hr;exact h)
theorem doM_len {A R:List Bx→Nat} {m:Md} (h:m.ok) {o:OpP} {N:Nat} (h1:m.ps.length≤N) (h2:m.ss.length≤N) (h3:m.bs.length≤N) :
 (doM A R m o).1.ps.length≤N+1∧(doM A R m o).1.ss.length≤N+1∧(doM A R m o).1.bs.length≤N+1:=by
 have k1:(comeM Pt.id m.room m.ps o.pt).1.length≤m.ps.length+1:=comeM_len h.ps _ _
 have k2:(comeM Sp.id m.room m.ss o.sp).1.length≤m.ss.length+1:=comeM_len h.ss _ _
 have k3:(comeM Bx.id m.room m.bs o.bx).1.length≤m.bs.length+1:=comeM_len h.bs _ _
 have k4:(loseM Pt.id m.ps o.id).1.length≤m.ps.length:=loseM_len _
 have k5:(loseM Sp.id m.ss o.id).1.length≤m.ss.length:=loseM_len _
 have k6:(loseM Bx.id m.bs o.id).1.length≤m.bs.length:=loseM_len _
 obtain ⟨r,hr⟩:∃r,doM A R m o=r:=⟨_,rfl⟩
 rw [hr]
 unfold doM changeM at hr
 split at hr
 ·subst hr;exact ⟨by dsimp only;omega,by dsimp only;omega,by dsimp only;omega⟩
 split at hr
 ·split at hr
  ·subst hr;exact ⟨by dsimp only;omega,by dsimp only;omega,by dsimp only;omega⟩
  split at hr
  ·split at hr<;>(subst hr;exact ⟨by dsimp only;omega,by dsimp only;omega,by dsimp only;omega⟩)
  split at hr
  ·split at hr<;>(subst hr;exact ⟨by dsimp only;omega,by dsimp only;omega,by dsimp only;omega⟩)
  split at hr
  ·subst hr;exact ⟨by dsimp only;omega,by dsimp only;omega,by dsimp only;omega⟩
  split at hr
  ·subst hr;exact ⟨by dsimp only;omega,by dsimp only;omega,by dsimp only;omega⟩
  ·subst hr;exact ⟨by dsimp only;omega,by dsimp only;omega,by dsimp only;omega⟩
 split at hr<;>(subst hr;exact ⟨by dsimp only;omega,by dsimp only;omega,by dsimp only;omega⟩)
theorem doM_room {A R:List Bx→Nat} {m:Md} {o:OpP}:(doM A R m o).1.room=m.room:=by
 unfold doM changeM
 repeat' split
 all_goals rfl
end Go.Proofs.YtkmnbodlciepaaaGreat
namespace Go.Proofs.YtkmnbodlciepaaaGreat
def z64 (x:Int):Prop:=-9223372036854775808≤x∧x≤9223372036854775807
structure Md.in64 (m:Md):Prop where
 ps:∀p∈m.ps,z64 p.x∧z64 p.y
 ss:∀s∈m.ss,z64 s.lo∧z64 s.hi
 bs:∀b∈m.bs,b.in64
def OpP.in64 (o:OpP):Prop:=(z64 o.a∧z64 o.b∧z64 o.c∧z64 o.d)∧o.id<4294967296∧o.code<256
theorem in64_nil (room:Nat):Md.in64 ⟨room,[],[],[]⟩:=⟨by simp,by simp,by simp⟩
theorem doM_in64 {A R:List Bx→Nat} {m:Md} (h:m.in64) {o:OpP} (ho:o.in64):(doM A R m o).1.in64:=by
 obtain ⟨⟨oa,ob,oc,od⟩,_,_⟩:=ho
 have k1:∀x∈(comeM Pt.id m.room m.ps o.pt).1,z64 x.x∧z64 x.y:=fun x hx=>by
  rcases comeM_mem _ _ hx with e | hx
  ·rw [e];exact ⟨oa,ob⟩
  ·exact h.ps x hx
 have k2:∀x∈(comeM Sp.id m.room m.ss o.sp).1,z64 x.lo∧z64 x.hi:=fun x hx=>by
  rcases comeM_mem _ _ hx with e | hx
  ·rw [e];exact ⟨oa,ob⟩
  ·exact h.ss x hx
 have k3:∀x∈(comeM Bx.id m.room m.bs o.bx).1,x.in64:=fun x hx=>by
  rcases comeM_mem _ _ hx with e | hx
  ·rw [e];exact ⟨oa,ob,oc,od⟩
  ·exact h.bs x hx
 obtain ⟨r,hr⟩:∃r,doM A R m o=r:=⟨_,rfl⟩
 rw [hr]
 unfold doM changeM at hr
 split at hr
 ·subst hr;exact h
 split at hr
 ·split at hr
  ·subst hr;exact ⟨k1,h.ss,h.bs⟩
  split at hr
  ·split at hr
   ·subst hr;exact ⟨h.ps,k2,h.bs⟩
   ·subst hr;exact h
  split at hr
  ·split at hr
   ·subst hr;exact ⟨h.ps,h.ss,k3⟩
   ·subst hr;exact h
  split at hr
  ·subst hr;exact ⟨fun x hx=>h.ps x (loseM_mem _ hx),h.ss,h.bs⟩
  split at hr
  ·subst hr;exact ⟨h.ps,fun x hx=>h.ss x (loseM_mem _ hx),h.bs⟩
  ·subst hr;exact ⟨h.ps,h.ss,fun x hx=>h.bs x (loseM_mem _ hx)⟩
 split at hr<;>(subst hr;exact h)
theorem names_empty {α:Type} {key:α→Nat} {l:List α} {p:α→Bool}:(namesM key l p).isEmpty=true↔∀x∈l,p x=false:=by
 unfold namesM
 simp [List.filter_eq_nil_iff]
end Go.Proofs.YtkmnbodlciepaaaGreat
namespace Go.Proofs.YtkmnbodlciepaaaGreat
def bitsN (n:Nat):Nat:=if n=0 then 0 else n.log2+1
theorem bitsN_lt (n:Nat):n<2 ^ bitsN n:=by
 unfold bitsN
 split
 ·omega
 ·exact Nat.lt_log2_self
theorem bitsN_le (n k:Nat) (h:n<2 ^ k):bitsN n≤k:=by
 unfold bitsN
 split
 ·omega
 ·rename_i hn
  have:=(Nat.log2_lt hn).2 h
  omega
section
variable {α:Type}
end
end Go.Proofs.YtkmnbodlciepaaaGreat
namespace Go.Proofs.YtkmnbodlciepaaaGreat
def mid (f t:Nat):Nat:=t - (t - f) / 2
theorem mid_in {f t:Nat} (h:f+1<t):f<mid f t∧mid f t<t:=by unfold mid;omega
section
variable {α:Type}
def postL (g:Nat→Nat→Nat→Nat→Nat→α) (f t pf pt o:Nat):List α:=
 if _h:f+1<t then
  postL g f (mid f t) f t o++(postL g (mid f t) t f t (o+2*(mid f t - f) - 1)++[g f t pf pt (o+2*(t - f) - 2)])
 else [g f t pf pt o]
termination_by t - f
decreasing_by all_goals (have:=mid_in (by assumption);omega)
theorem postL_leaf (g:Nat→Nat→Nat→Nat→Nat→α) {f t:Nat} (pf pt o:Nat) (h:¬f+1<t):postL g f t pf pt o = [g f t pf pt o]:=by
 rw [postL,dif_neg h]
theorem postL_node (g:Nat→Nat→Nat→Nat→Nat→α) {f t:Nat} (pf pt o:Nat) (h:f+1<t) :
 postL g f t pf pt o=postL g f (mid f t) f t o++(postL g (mid f t) t f t (o+2*(mid f t - f) - 1)++[g f t pf pt (o+2*(t - f) - 2)]):=by
 rw [postL,dif_pos h]
theorem postL_len (g:Nat→Nat→Nat→Nat→Nat→α):∀(d f t pf pt o:Nat),t - f≤d→f<t→(postL g f t pf pt o).length=2*(t - f) - 1:=by
 intro d
 induction d with
 |zero=>intro f t pf pt o h1 h2;omega
 |succ d ih=>
  intro f t pf pt o h1 h2
  by_cases h:f+1<t
  ·have:=mid_in h
   rw [postL_node g pf pt o h,List.length_append,List.length_append,ih f (mid f t) f t o (by omega) (by omega),ih (mid f t) t f t _ (by omega) (by omega)]
   simp only [List.length_singleton]
   omega
  ·rw [postL_leaf g pf pt o h]
   simp only [List.length_singleton]
   omega
theorem postL_length (g:Nat→Nat→Nat→Nat→Nat→α) {f t:Nat} (pf pt o:Nat) (h:f<t):(postL g f t pf pt o).length=2*(t - f) - 1:=
 postL_len g (t - f) f t pf pt o (Nat.le_refl _) h
def kidsL (g:Nat→Nat→Nat→Nat→Nat→α) (f t o:Nat):List α:=
 if f+1<t then postL g f (mid f t) f t o++postL g (mid f t) t f t (o+2*(mid f t - f) - 1) else []
theorem postL_kids (g:Nat→Nat→Nat→Nat→Nat→α) {f t:Nat} (pf pt o:Nat) (h:f<t):postL g f t pf pt o=kidsL g f t o++[g f t pf pt (o+2*(t - f) - 2)]:=by
 unfold kidsL
 by_cases h1:f+1<t
 ·rw [postL_node g pf pt o h1,if_pos h1,List.append_assoc]
 ·rw [postL_leaf g pf pt o h1,if_neg h1,show o+2*(t - f) - 2=o by omega]
  rfl
theorem kidsL_length (g:Nat→Nat→Nat→Nat→Nat→α) {f t:Nat} (o:Nat) (h:f<t):(kidsL g f t o).length=2*(t - f) - 2:=by
 have h1:=postL_length g 0 0 o h
 rw [postL_kids g 0 0 o h,List.length_append,List.length_singleton] at h1
 omega
end
end Go.Proofs.YtkmnbodlciepaaaGreat
namespace Go.Proofs.YtkmnbodlciepaaaGreat
structure Part where
 long:Int
 runs:Int
 first:Bool
 last:Bool
deriving DecidableEq
def ent (a b:Nat) (f t:Nat):Nat:=
 if t≤a∨b≤f then 1 else if a≤f∧t≤b then 1
 else if _h:f+1<t then 1+(ent a b f (mid f t)+ent a b (mid f t) t) else 1
termination_by t - f
decreasing_by all_goals (have:=mid_in (by assumption);omega)
theorem ent_out {a b f t:Nat} (h:t≤a∨b≤f):ent a b f t=1:=by rw [ent,if_pos h]
theorem ent_in {a b f t:Nat} (h:a≤f∧t≤b):ent a b f t=1:=by
 rw [ent]
 by_cases h0:t≤a∨b≤f
 ·rw [if_pos h0]
 ·rw [if_neg h0,if_pos h]
theorem ent_node {a b f t:Nat} (h:¬(t≤a∨b≤f)) (h1:¬(a≤f∧t≤b)) (h2:f+1<t):ent a b f t=1+(ent a b f (mid f t)+ent a b (mid f t) t):=by rw [ent,if_neg h,if_neg h1,dif_pos h2]
end Go.Proofs.YtkmnbodlciepaaaGreat
namespace Go.Proofs.YtkmnbodlciepaaaGreat
def lg (n:Nat):Nat:=bitsN (n - 1)
theorem bits_halfL (d e:Nat) (hd:0<d) (he:e≤d / 2):bitsN e+1≤bitsN d:=by
 have h1:=bitsN_lt d
 have hb:bitsN d≠0:=fun h=>by rw [h] at h1;omega
 obtain ⟨b,hbb⟩:∃b,bitsN d=b+1:=⟨bitsN d - 1,by omega⟩
 rw [hbb] at h1 ⊢
 have:bitsN e≤b:=bitsN_le e b (by rw [Nat.pow_succ] at h1;omega)
 omega
theorem lg_left {f t:Nat} (h:f+1<t):lg (mid f t - f)+1≤lg (t - f):=bits_halfL _ _ (by omega) (by unfold mid;omega)
theorem lg_right {f t:Nat} (h:f+1<t):lg (t - mid f t)+1≤lg (t - f):=bits_halfL _ _ (by omega) (by unfold mid;omega)
theorem ent_leaf {a b f t:Nat} (h:¬f+1<t):ent a b f t=1:=by
 rw [ent]
 by_cases h0:t≤a∨b≤f
 ·rw [if_pos h0]
 ·rw [if_neg h0]
  by_cases h1:a≤f∧t≤b
  ·rw [if_pos h1]
  ·rw [if_neg h1,dif_neg h]
theorem ent_pre {a b:Nat}:∀(d f t:Nat),t - f≤d→a≤f→ent a b f t≤2*lg (t - f)+1:=by
 intro d
 induction d with
 |zero=>intro f t hd ha;rw [ent_leaf (by omega)];omega
 |succ d ih=>
  intro f t hd ha
  by_cases h1:t≤a∨b≤f
  ·rw [ent_out h1];omega
  ·by_cases h2:a≤f∧t≤b
   ·rw [ent_in h2];omega
   ·by_cases h:f+1<t
    ·have hm:=mid_in h
     have g1:=lg_left h
     have g2:=lg_right h
     rw [ent_node h1 h2 h]
     by_cases hb:mid f t≤b
     ·rw [ent_in (t:=mid f t) ⟨ha,hb⟩]
      have:=ih (mid f t) t (by omega) (by omega)
      omega
     ·rw [ent_out (f:=mid f t) (.inr (by omega))]
      have:=ih f (mid f t) (by omega) ha
      omega
    ·rw [ent_leaf h];omega
theorem ent_suf {a b:Nat}:∀(d f t:Nat),t - f≤d→t≤b→ent a b f t≤2*lg (t - f)+1:=by
 intro d
 induction d with
 |zero=>intro f t hd ha;rw [ent_leaf (by omega)];omega
 |succ d ih=>
  intro f t hd ha
  by_cases h1:t≤a∨b≤f
  ·rw [ent_out h1];omega
  ·by_cases h2:a≤f∧t≤b
   ·rw [ent_in h2];omega
   ·by_cases h:f+1<t
    ·have hm:=mid_in h
     have g1:=lg_left h
     have g2:=lg_right h
     rw [ent_node h1 h2 h]
     by_cases hb:a≤mid f t
     ·rw [ent_in (f:=mid f t) ⟨hb,ha⟩]
      have:=ih f (mid f t) (by omega) (by omega)
      omega
     ·rw [ent_out (t:=mid f t) (.inl (by omega))]
      have:=ih (mid f t) t (by omega) ha
      omega
    ·rw [ent_leaf h];omega
theorem ent_any {a b:Nat}:∀(d f t:Nat),t - f≤d→ent a b f t≤4*lg (t - f)+1:=by
 intro d
 induction d with
 |zero=>intro f t hd;rw [ent_leaf (by omega)];omega
 |succ d ih=>
  intro f t hd
  by_cases h1:t≤a∨b≤f
  ·rw [ent_out h1];omega
  ·by_cases h2:a≤f∧t≤b
   ·rw [ent_in h2];omega
   ·by_cases h:f+1<t
    ·have hm:=mid_in h
     have g1:=lg_left h
     have g2:=lg_right h
     rw [ent_node h1 h2 h]
     by_cases hb:b≤mid f t
     ·rw [ent_out (f:=mid f t) (.inr hb)]
      have:=ih f (mid f t) (by omega)
      omega
     ·by_cases hb2:mid f t≤a
      ·rw [ent_out (t:=mid f t) (.inl hb2)]
       have:=ih (mid f t) t (by omega)
       omega
      ·have e1:=ent_suf (a:=a) (b:=b) (mid f t - f) f (mid f t) (Nat.le_refl _) (by omega)
       have e2:=ent_pre (a:=a) (b:=b) (t - mid f t) (mid f t) t (Nat.le_refl _) (by omega)
       omega
    ·rw [ent_leaf h];omega
end Go.Proofs.YtkmnbodlciepaaaGreat
