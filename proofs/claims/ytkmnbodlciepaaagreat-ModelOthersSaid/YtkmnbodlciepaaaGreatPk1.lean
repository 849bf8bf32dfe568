/- Plain lemmas on worlds, owned rows and updates that the walks of this seat use. No program. Run equations of single operations, in a form that a walk can take: slices cut, shifts, bits. No program. Buckets, plainly: what Add and Set make of them; and how they lie in memory. Buckets, plainly: what Set makes; how it goes bucket by bucket. -/
import Derived.WalkKit
import Derived.WalkSpells
import Derived.WalkLawsBesides
import Derived.Lib.Hide
import Derived.Lib.SliceRun
import Derived.Deep.AppendLies
import Derived.IntWalk
namespace Go.Proofs.YtkmnbodlciepaaaGreat
open Go.RowKit
structure Upd (F:List Nat) (w w':World):Prop where
 os:w'.os=w.os
 tape:w'.tape=w.tape
 output:w'.output=w.output
 size:w.heap.size≤w'.heap.size
 block:∀k,k<w.heap.size→k∉F→w'.heap[k]? = w.heap[k]?
theorem Upd.refl (F:List Nat) (w:World):Upd F w w:=⟨rfl,rfl,rfl,Nat.le_refl _,fun _ _ _=>rfl⟩
theorem Upd.trans' {F G:List Nat} {a b c:World} (h:Upd F a b) (k:Upd G b c) (hg:∀x∈G,x∈F∨a.heap.size≤x):Upd F a c:=
 ⟨k.os.trans h.os,k.tape.trans h.tape,k.output.trans h.output,Nat.le_trans h.size k.size,fun i hi hf=>
  (k.block i (Nat.lt_of_lt_of_le hi h.size) (fun hx=>by rcases hg i hx with h1 | h1;exact hf h1;omega)).trans (h.block i hi hf)⟩
theorem Upd.trans {F:List Nat} {a b c:World} (h:Upd F a b) (k:Upd F b c):Upd F a c:=h.trans' k fun _ hx=>.inl hx
theorem Upd.mono {F G:List Nat} {a b:World} (h:Upd F a b) (hg:∀x∈F,x∈G∨a.heap.size≤x):Upd G a b:=
 ⟨h.os,h.tape,h.output,h.size,fun i hi hf=>h.block i hi (fun hx=>by rcases hg i hx with h1 | h1;exact hf h1;omega)⟩
theorem Upd.alloc {F:List Nat} {a w:World} (h:Upd F a w) (o:Obj):Upd F a (w.alloc o):=
 h.trans ⟨rfl,rfl,rfl,by simp,fun k hk _=>Below.heap_alloc _ _ _ hk⟩
theorem Upd.drew {F:List Nat} {a w:World} (h:Upd F a w):Upd F a w.drew:=⟨h.os,h.tape,h.output,h.size,h.block⟩
theorem Upd.drewN {F:List Nat} {a w:World} (h:Upd F a w) (n:Nat):Upd F a (w.drewN n):=⟨h.os,h.tape,h.output,h.size,h.block⟩
theorem Upd.setCell {F:List Nat} {a w:World} (h:Upd F a w) {p:Addr} (hp:p.block∈F∨a.heap.size≤p.block) (u:Value):Upd F a (w.setCell p u):=
 h.trans' (G:=[p.block]) ⟨rfl,rfl,rfl,by simp [World.setCell],fun k _ hk=>Below.heap_setCell _ _ _ _ (fun e=>hk (by simp [e]))⟩
  (fun x hx=>by simp at hx;rw [hx];exact hp)
theorem Upd.grown {F:List Nat} {a w w':World} {row:Option Nat} (h:Upd F a w) (hg:w.grownBy w' row) (hr:∀k,row=some k→k∈F∨a.heap.size≤k):Upd F a w':=
 h.trans' (G:=row.toList) ⟨hg.os,hg.tape,hg.output,hg.size,fun k hk hn=>hg.block k hk (fun e=>hn (by simp [←e]))⟩
  (fun x hx=>hr x (by simpa using hx))
theorem Upd.of_below {w w':World} (h:Below w.heap.size w w'):Upd [] w w':=⟨h.os,h.tape,h.output,h.size,fun k hk _=>h.block k hk⟩
theorem Upd.below {w w':World} (h:Upd [] w w'):Below w.heap.size w w':=⟨h.os,h.tape,h.output,h.size,fun k hk=>h.block k hk (by simp)⟩
theorem Upd.cell {F:List Nat} {w w':World} (h:Upd F w w') {p:Addr} (hp:p.block<w.heap.size) (hf:p.block∉F):w'.cell? p=w.cell? p:=
 World.cell?_of_block (w:=w) (h.block p.block hp hf)
theorem Upd.frozen {F:List Nat} {w w':World} (h:Upd F w w') {p:Addr} (hp:p.block<w.heap.size) (hf:p.block∉F):w'.frozen? p=w.frozen? p:=
 World.frozen?_of_block (w:=w) (h.block p.block hp hf)
def blk:Value→List Nat
 |.slice (some a) _ _=>[a.block]
 |.pointer (some a)=>[a.block]
 |.map (some r)=>[r]
 |_=>[]
theorem own_same {w w':World} {base:Nat} {e:TypeId} {size:Nat} {v:Value} {n:Nat} {xs:List Value} (h:w.ownsRow base e size v n xs)
 (hb:∀k∈blk v,w'.heap[k]? = w.heap[k]?):w'.ownsRow base e size v n xs:=by
 obtain ⟨h1,h2⟩:=h
 refine ⟨h1,?_⟩
 rcases h2 with h2 | ⟨g,cap,cur,hv,hg,hh,r⟩
 ·exact .inl h2
 ·subst hv
  exact .inr ⟨g,cap,cur,rfl,hg,by rw [hb g (by simp [blk])];exact hh,r⟩
theorem own_lt {w:World} {base:Nat} {e:TypeId} {size:Nat} {v:Value} {n:Nat} {xs:List Value} (h:w.ownsRow base e size v n xs) :
 ∀k∈blk v,k<w.heap.size:=by
 obtain ⟨_,h2⟩:=h
 rcases h2 with ⟨rfl,_⟩ | ⟨g,cap,cur,rfl,hg,hh,_⟩
 ·simp [blk]
 ·intro k hk
  simp [blk] at hk
  subst hk
  exact lt_of_block hh
theorem own_upd {F:List Nat} {w w':World} {base:Nat} {e:TypeId} {size:Nat} {v:Value} {n:Nat} {xs:List Value} (h:w.ownsRow base e size v n xs)
 (hu:Upd F w w') (hd:∀k∈blk v,k∉F):w'.ownsRow base e size v n xs:=
 own_same h fun k hk=>hu.block k (own_lt h k hk) (hd k hk)
theorem own_base {w:World} {base base':Nat} {e:TypeId} {size:Nat} {v:Value} {n:Nat} {xs:List Value} (h:w.ownsRow base e size v n xs) (hb:base'≤base):w.ownsRow base' e size v n xs:=by
 refine ⟨h.1,?_⟩
 rcases h.2 with h2 | ⟨g,cap,cur,hv,hg,hh⟩
 ·exact .inl h2
 ·exact .inr ⟨g,cap,cur,hv,Nat.le_trans hb hg,hh⟩
theorem own_ge {w:World} {base:Nat} {e:TypeId} {size:Nat} {v:Value} {n:Nat} {xs:List Value} (h:w.ownsRow base e size v n xs):∀k∈blk v,base≤k:=by
 intro k hk
 rcases h.2 with ⟨rfl,_⟩ | ⟨g,cap,cur,rfl,hg,hh⟩
 ·simp [blk] at hk
 ·simp [blk] at hk;omega
theorem own_form {w:World} {base:Nat} {e:TypeId} {size:Nat} {v:Value} {n:Nat} {xs:List Value} (h:w.ownsRow base e size v n xs) :
 ∃A C,v=.slice A n C:=by
 rcases h.2 with ⟨rfl,rfl⟩ | ⟨g,cap,cur,rfl,_⟩
 ·exact ⟨_,_,rfl⟩
 ·exact ⟨_,_,rfl⟩
theorem addr_add (b o j:Nat):(⟨b,o,none⟩:Addr).add j=⟨b,o+j,none⟩:=by
 unfold Addr.add
 split<;>simp_all
def Sees (w:World) (size:Nat) (v:Value) (n:Nat) (xs:List Value):Prop:=
 xs.length=n*size∧((v=.slice none 0 0∧n=0)∨∃b o s cap,v=.slice (some ⟨b,o,s⟩) n cap∧(0<cap→s=none)∧n≤cap∧cap≤maxLen∧∀j u,xs[j]? = some u→w.cell? ⟨b,o+j,none⟩=some u)
theorem sees_of_own {w:World} {base:Nat} {e:TypeId} {size:Nat} {v:Value} {n:Nat} {xs:List Value} (h:w.ownsRow base e size v n xs):Sees w size v n xs:=by
 refine ⟨h.1,?_⟩
 rcases h.2 with ⟨rfl,rfl⟩ | ⟨g,cap,cur,rfl,h3,h4,h5,h6,h7,h8⟩
 ·exact .inl ⟨rfl,rfl⟩
 ·refine .inr ⟨g,0,none,cap,rfl,fun _=>rfl,h5,h6,fun j u hu=>?_⟩
  have:=World.ownsRow.cells h (g:=g) rfl j u hu
  rwa [addr_add] at this
theorem sees_form {w:World} {size:Nat} {v:Value} {n:Nat} {xs:List Value} (h:Sees w size v n xs):∃A C,v=.slice A n C:=by
 rcases h.2 with ⟨rfl,rfl⟩ | ⟨g,o,s,cap,rfl,_⟩
 ·exact ⟨_,_,rfl⟩
 ·exact ⟨_,_,rfl⟩
theorem sees_upd {F:List Nat} {w w':World} {size:Nat} {v:Value} {n:Nat} {xs:List Value} (h:Sees w size v n xs) (hu:Upd F w w') (hd:0<n→∀k∈blk v,k<w.heap.size→k∉F):Sees w' size v n xs:=by
 refine ⟨h.1,?_⟩
 rcases h.2 with h2 | ⟨b,o,s,cap,rfl,h3,h4,h5,h6⟩
 ·exact .inl h2
 ·refine .inr ⟨b,o,s,cap,rfl,h3,h4,h5,fun j u hx=>?_⟩
  have hc:=h6 j u hx
  have hlt:=World.block_lt_of_cell? w _ hc
  have hn:0<n:=by
   rcases Nat.eq_zero_or_pos n with h0 | h0
   ·subst h0
    have hx0:xs = []:=List.eq_nil_of_length_eq_zero (by simpa using h.1)
    subst hx0;simp at hx
   ·exact h0
  rw [hu.cell (p:=⟨b,o+j,none⟩) hlt (hd hn b (by simp [blk]) hlt)]
  exact hc
theorem sees_lit (w:World) (cs:Array Value) (t:TypeId) (size n:Nat) (hs:cs.size=n*size) (hm:n≤maxLen) :
 Sees (w.alloc (.cells cs t)) size (.slice (some ⟨w.heap.size,0,none⟩) n n) n cs.toList:=by
 refine ⟨by simpa using hs,.inr ⟨w.heap.size,0,none,n,rfl,fun _=>rfl,Nat.le_refl _,hm,fun j u hu=>?_⟩⟩
 rw [World.cell?_alloc_at _ _ _ _ rfl]
 simpa using hu
theorem Sees.drew {w:World} {size:Nat} {v:Value} {n:Nat} {xs:List Value} (h:Sees w size v n xs):Sees w.drew size v n xs:=h
theorem owns_drew {w:World} {base:Nat} {e:TypeId} {size:Nat} {v:Value} {n:Nat} {xs:List Value} (h:w.ownsRow base e size v n xs):w.drew.ownsRow base e size v n xs:=h
def AppPost (w w':World) (base:Nat) (e:TypeId) (size:Nat) (v:Value) (n:Nat) (xs:List Value) (m:Nat) (news:List Value) (A:Option Addr) (C:Nat):Prop:=
 w'.ownsRow base e size (.slice A (n+m) C) (n+m) (xs++news)∧w.grownBy w' v.ownBlock∧((.slice A (n+m) C:Value)=.slice none 0 0↔v=.slice none 0 0∧m=0)∧(blk (.slice A (n+m) C)=blk v∨blk (.slice A (n+m) C) = [w.heap.size])
theorem ownBlock_blk {v:Value} {k:Nat} (h:v.ownBlock=some k):k∈blk v:=by
 cases v<;>simp [Value.ownBlock] at h
 rename_i a _ _
 cases a<;>simp at h
 simp [blk,h]
theorem AppPost.upd {w w':World} {base:Nat} {e:TypeId} {size:Nat} {v:Value} {n:Nat} {xs:List Value} {m:Nat} {news:List Value} {A:Option Addr} {C:Nat} (h:AppPost w w' base e size v n xs m news A C):Upd (blk v) w w':=
 (Upd.refl _ _).grown h.2.1 fun _ hk=>.inl (ownBlock_blk hk)
theorem AppPost.own {w w':World} {base:Nat} {e:TypeId} {size:Nat} {v:Value} {n:Nat} {xs:List Value} {m:Nat} {news:List Value} {A:Option Addr} {C:Nat} (h:AppPost w w' base e size v n xs m news A C) :
 w'.ownsRow base e size (.slice A (n+m) C) (n+m) (xs++news):=h.1
theorem AppPost.at {w w':World} {base:Nat} {e:TypeId} {size:Nat} {v:Value} {n:Nat} {xs:List Value} {m:Nat} {news:List Value} {A:Option Addr} {C:Nat} (h:AppPost w w' base e size v n xs m news A C) :
 blk (.slice A (n+m) C)=blk v∨blk (.slice A (n+m) C) = [w.heap.size]:=h.2.2.2
section
variable {P:Program} (w:World)
theorem run_app (base:Nat) (t ty e:TypeId) (i:TypeInfo) (z:Value) (size bytes:Nat) (ht:P.underlying t=some (.slice e)) (hi:P.info? e=some i) (hz:i.zero=some z)
 (hsize:i.size=size) (hby:i.bytes=bytes) (hzs:z.cells.size=size) (hsz:0<size)
 (v:Value) (n:Nat) (xs:List Value) (hown:w.ownsRow base e size v n xs)
 (x:Value) (m:Nat) (news:List Value) (hx:Sees w size x m news) (h1:∀u∈news,u.oneCell'=true)
 (h63:n+m≤maxLen) (hbytes:(n+m)*bytes≤140737488355328) (hbase:base≤w.heap.size) :
 ∃A C w',(Builtin.append_ #[t,t] ty #[v,x]).run P w=.ok (.slice A (n+m) C) w'∧w'.ownsRow base e size (.slice A (n+m) C) (n+m) (xs++news)∧w.grownBy w' v.ownBlock∧
  ((.slice A (n+m) C:Value)=.slice none 0 0↔v=.slice none 0 0∧m=0)∧(blk (.slice A (n+m) C)=blk v∨blk (.slice A (n+m) C) = [w.heap.size]):=by
 have fin:∀(w0:World) (v':Value),w0.ownsRow base e size v' (n+m) (xs++news)→(v'.ownBlock=v.ownBlock∨v'.ownBlock=some w.heap.size)→
  ∃A C,v'=.slice A (n+m) C∧(blk v'=blk v∨blk v' = [w.heap.size]):=by
  intro w0 v' ho hb
  obtain ⟨A,C,rfl⟩:=own_form ho
  obtain ⟨A0,C0,rfl⟩:=own_form hown
  refine ⟨A,C,rfl,?_⟩
  cases A<;>cases A0<;>simp_all [Value.ownBlock,blk]
 rcases hx.2 with ⟨rfl,rfl⟩ | ⟨b,o,s,cap,rfl,h3,h4,h5,h6⟩
 ·have hn:news = []:=List.eq_nil_of_length_eq_zero (by simpa using hx.1)
  subst hn
  obtain ⟨A,C,rfl⟩:=own_form hown
  have hr:=run_append_owned_none (P:=P) (w:=w) base t ty e i size ht hi _ n xs hown
  refine ⟨A,C,w,?_,?_,⟨rfl,rfl,rfl,Nat.le_refl _,fun _ _ _=>rfl⟩,?_,.inl rfl⟩
  ·simpa using hr
  ·simpa using hown
  ·simp
 ·obtain ⟨v',w',hr,h2,h3',h4',h5'⟩:=run_append_own_at (P:=P) w base t ty e i z size bytes ht hi hz hsize hby hzs hsz v n xs hown ⟨b,o,s⟩ m cap news hx.1
   (fun j u hu=>by
    have hm:0<m:=by
     rcases Nat.eq_zero_or_pos m with h0 | h0
     ·subst h0
      have hx0:news = []:=List.eq_nil_of_length_eq_zero (by simpa using hx.1)
      subst hx0;simp at hu
     ·exact h0
    have hs:=h3 (by omega)
    subst hs
    rw [addr_add];exact h6 j u hu) h1 h63 hbytes hbase
  obtain ⟨A,C,rfl,hblk⟩:=fin w' v' h2 h5'
  exact ⟨A,C,w',hr,h2,h3',h4',hblk⟩
theorem wp_app {o:Oper} {a:Act} {K:Act→World→Prop} {Q:Exit→Act→World→Prop} (s x:Operand) (t:TypeId)
 (ho:o.op=.call { callee:=.builtin .append,args:=#[s,x],argTypes:=#[t,t] })
 (base:Nat) (e:TypeId) (i:TypeInfo) (z:Value) (size bytes:Nat) (ht:P.underlying t=some (.slice e)) (hi:P.info? e=some i) (hz:i.zero=some z)
 (hsize:i.size=size) (hby:i.bytes=bytes) (hzs:z.cells.size=size) (hsz:0<size)
 (v:Value) (n:Nat) (xs:List Value) (hs:a.eval s=v) (hown:w.ownsRow base e size v n xs)
 (vx:Value) (m:Nat) (news:List Value) (hx:a.eval x=vx) (hsee:Sees w size vx m news) (h1:∀u∈news,u.oneCell'=true)
 (h63:n+m≤maxLen) (hbytes:(n+m)*bytes≤140737488355328) (hbase:base≤w.heap.size)
 (h:∀A C w',AppPost w w' base e size v n xs m news A C→K (a.put o.dst (.slice A (n+m) C)) w'):o.wp P a w K Q:=by
 obtain ⟨A,C,w',hr,h2,h3,h4,h5⟩:=run_app (P:=P) w base t o.type e i z size bytes ht hi hz hsize hby hzs hsz v n xs hown vx m news hsee h1 h63 hbytes hbase
 unfold Oper.wp execOp
 simp only [ho,resolve,invoke,builtin,Sem.run_bind,Sem.run_pure,Result.andThen_ok,List.map_toArray,List.map_cons,List.map_nil,hs,hx,hr]
 exact h A C w' ⟨h2,h3,h4,h5⟩
theorem wpList_app {ops:Array Oper} {rest:List Oper} {o:Oper} {a:Act} {Q:Exit→Act→World→Prop} (hgd:o.guard=none) (s x:Operand) (t:TypeId)
 (ho:o.op=.call { callee:=.builtin .append,args:=#[s,x],argTypes:=#[t,t] })
 (base:Nat) (e:TypeId) (i:TypeInfo) (z:Value) (size bytes:Nat) (ht:P.underlying t=some (.slice e)) (hi:P.info? e=some i) (hz:i.zero=some z)
 (hsize:i.size=size) (hby:i.bytes=bytes) (hzs:z.cells.size=size) (hsz:0<size)
 (v:Value) (n:Nat) (xs:List Value) (hs:a.eval s=v) (hown:w.ownsRow base e size v n xs)
 (vx:Value) (m:Nat) (news:List Value) (hx:a.eval x=vx) (hsee:Sees w size vx m news) (h1:∀u∈news,u.oneCell'=true)
 (h63:n+m≤maxLen) (hbytes:(n+m)*bytes≤140737488355328) (hbase:base≤w.heap.size)
 (h:∀A C w',AppPost w w' base e size v n xs m news A C→wpList P ops Q rest (a.put o.dst (.slice A (n+m) C)) w'):wpList P ops Q (o::rest) a w:=
 wpList_plain hgd fun _ hK=>wp_app w s x t ho base e i z size bytes ht hi hz hsize hby hzs hsz v n xs hs hown vx m news hx hsee h1 h63 hbytes hbase fun A C w' h2=>hK _ _ (h A C w' h2)
theorem step_app {ops:Array Oper} {o:Oper} {a:Act} {K:Act→World→Prop} {Q:Exit→Act→World→Prop} {E:Prop} (hgd:o.guard=none) (s x:Operand) (t:TypeId)
 (ho:o.op=.call { callee:=.builtin .append,args:=#[s,x],argTypes:=#[t,t] })
 (base:Nat) (e:TypeId) (i:TypeInfo) (z:Value) (size bytes:Nat) (ht:P.underlying t=some (.slice e)) (hi:P.info? e=some i) (hz:i.zero=some z)
 (hsize:i.size=size) (hby:i.bytes=bytes) (hzs:z.cells.size=size) (hsz:0<size)
 (v:Value) (n:Nat) (xs:List Value) (hs:a.eval s=v) (hown:w.ownsRow base e size v n xs)
 (vx:Value) (m:Nat) (news:List Value) (hx:a.eval x=vx) (hsee:Sees w size vx m news) (h1:∀u∈news,u.oneCell'=true)
 (h63:n+m≤maxLen) (hbytes:(n+m)*bytes≤140737488355328) (hbase:base≤w.heap.size)
 (h:∀A C w',AppPost w w' base e size v n xs m news A C→K (a.put o.dst (.slice A (n+m) C)) w') :
 if Region.wanted o (yielded ops a.tmps)=true then Oper.wp P o a w K Q else E:=by
 have hw:Region.wanted o (yielded ops a.tmps)=true:=by simp [Region.wanted,hgd]
 rw [if_pos hw]
 exact wp_app w s x t ho base e i z size bytes ht hi hz hsize hby hzs hsz v n xs hs hown vx m news hx hsee h1 h63 hbytes hbase h
end
section
variable {P:Program}
variable {w:World} {size:Nat} {v:Value} {n:Nat} {xs:List Value}
theorem elem_of {P:Program} {t e:TypeId} (ht:P.underlying t=some (.slice e)):P.underlying t=some (.slice (P.elem t)):=by
 have:P.elem t=e:=by simp [Program.elem,ht]
 rw [this];exact ht
theorem cut_to {t e:TypeId} {i:TypeInfo} (ht:P.underlying t=some (.slice e)) (hi:P.info? e=some i) (hsize:i.size=size) (h:Sees w size v n xs) (k:Nat) (hk:k≤n) :
 ∃A C,(∀w',(Instr.slice t v none (some (.int .i64 (k:Int))) none).run P w'=.ok (.slice A k C) w')∧
  (∀w',Sees w' size v n xs→Sees w' size (.slice A k C) k (xs.take (k*size)))∧blk (.slice A k C)=blk v:=by
 subst hsize
 have hel:P.elem t=e:=by simp [Program.elem,ht]
 rcases h.2 with ⟨rfl,rfl⟩ | ⟨b,o,s,cap,rfl,h3,h4,h5,h6⟩
 ·have hk0:k=0:=by omega
  subst hk0
  refine ⟨none,0,fun w'=>?_,fun w' hs=>?_,rfl⟩
  ·rw [run_slice_h w' t none 0 0 (elem_of ht) .i64 _ (by omega) (by omega)]
   simp [hel,sizeOf,typeInfo,hi,sliced]
  ·exact ⟨by simp,.inl ⟨rfl,rfl⟩⟩
 ·refine ⟨some ⟨b,o,s⟩,cap,fun w'=>?_,fun w' hs=>?_,rfl⟩
  ·rw [run_slice_h w' t _ n cap (elem_of ht) .i64 _ (by omega) (by omega)]
   simp [hel,sizeOf,typeInfo,hi,sliced,Addr.add]
  ·refine ⟨by rw [List.length_take,hs.1];exact Nat.min_eq_left (Nat.mul_le_mul_right _ hk),.inr ⟨b,o,s,cap,rfl,h3,by omega,h5,fun j u hu=>?_⟩⟩
   rw [List.getElem?_take] at hu
   split at hu
   ·rcases hs.2 with ⟨hc,_⟩ | ⟨b',o',s',cap',hc,_,_,_,h5'⟩
    ·cases hc
    ·cases hc;exact h5' j u hu
   ·cases hu
theorem cut_from {t e:TypeId} {i:TypeInfo} (ht:P.underlying t=some (.slice e)) (hi:P.info? e=some i) (hsize:i.size=size) (h:Sees w size v n xs) (k:Nat) (hk:k≤n) :
 ∃A C,(∀w',(Instr.slice t v (some (.int .i64 (k:Int))) none none).run P w'=.ok (.slice A (n - k) C) w')∧
  (∀w',Sees w' size v n xs→Sees w' size (.slice A (n - k) C) (n - k) (xs.drop (k*size)))∧blk (.slice A (n - k) C)=blk v:=by
 subst hsize
 have hel:P.elem t=e:=by simp [Program.elem,ht]
 rcases h.2 with ⟨rfl,rfl⟩ | ⟨b,o,s,cap,rfl,h3,h4,h5,h6⟩
 ·have hk0:k=0:=by omega
  subst hk0
  refine ⟨none,0,fun w'=>?_,fun w' hs=>?_,rfl⟩
  ·rw [run_slice_l w' t none 0 0 (elem_of ht) .i64 _ (by omega) (by omega)]
   simp [hel,sizeOf,typeInfo,hi,sliced]
  ·exact ⟨by simpa using hs.1,.inl ⟨rfl,rfl⟩⟩
 ·refine ⟨if cap=k then some ⟨b,o,s⟩ else some ⟨b,o+k*i.size,none⟩,cap - k,fun w'=>?_,fun w' hs=>?_,?_⟩
  ·rw [run_slice_l w' t _ n cap (elem_of ht) .i64 _ (by omega) (by omega)]
   by_cases hck:cap=k
   ·simp [hel,sizeOf,typeInfo,hi,sliced,hck]
   ·have hs0:=h3 (by omega)
    subst hs0
    simp [hel,sizeOf,typeInfo,hi,sliced,addr_add,hck]
  ·refine ⟨by rw [List.length_drop,hs.1,Nat.sub_mul],.inr ⟨b,if cap=k then o else o+k*i.size,if cap=k then s else none,cap - k,?_,?_,by omega,by omega,fun j u hu=>?_⟩⟩
   ·split<;>rfl
   ·intro hp;rw [if_neg (by omega)]
   ·rcases hs.2 with ⟨hc,_⟩ | ⟨b',o',s',cap',hc,_,_,_,h5'⟩
    ·cases hc
    ·cases hc
     rw [List.getElem?_drop] at hu
     have hlt:k*i.size+j<n*i.size:=by
      rcases Nat.lt_or_ge (k*i.size+j) (n*i.size) with h' | h'
      ·exact h'
      ·rw [List.getElem?_eq_none (by rw [hs.1];exact h')] at hu;cases hu
     have hkc:cap≠k:=by
      intro e;subst e
      have:n=cap:=by omega
      subst this;omega
     rw [if_neg hkc]
     have:=h5' _ u hu
     rwa [show o+(k*i.size+j)=o+k*i.size+j from by omega] at this
  ·split<;>rfl
end
section plain
variable {α:Type}
end plain
structure Kind (α:Type) where
 T:TypeId
 sT:TypeId
 eT:TypeId
 sz:Nat
 enc:α→List Value
 len:∀x,(enc x).length=sz
 one:∀x,∀u∈enc x,u.oneCell'=true
variable {α:Type}
def Kind.all (K:Kind α) (l:List α):List Value:=l.flatMap K.enc
theorem Kind.all_len (K:Kind α) (l:List α):(K.all l).length=l.length*K.sz:=by
 induction l with
 |nil=>simp [Kind.all]
 |cons a l ih=>simp only [Kind.all,List.flatMap_cons,List.length_append,K.len,List.length_cons,Nat.add_mul,Nat.one_mul] at *;omega
theorem Kind.all_one (K:Kind α) (l:List α):∀u∈K.all l,u.oneCell'=true:=by
 intro u hu
 simp only [Kind.all,List.mem_flatMap] at hu
 obtain ⟨x,_,hx⟩:=hu
 exact K.one x u hx
theorem Kind.all_app (K:Kind α) (a b:List α):K.all (a++b)=K.all a++K.all b:=by simp [Kind.all]
theorem Kind.all_take (K:Kind α) (l:List α) (k:Nat):K.all (l.take k)=(K.all l).take (k*K.sz):=by
 rcases Nat.lt_or_ge k l.length with h | h
 ·have e:K.all l=K.all (l.take k)++K.all (l.drop k):=by rw [←Kind.all_app,List.take_append_drop]
  have hl:(K.all (l.take k)).length=k*K.sz:=by rw [K.all_len,List.length_take,Nat.min_eq_left (by omega)]
  rw [e,←hl,List.take_left]
 ·rw [List.take_of_length_le h,List.take_of_length_le (by rw [K.all_len];exact Nat.mul_le_mul_right _ h)]
theorem Kind.all_drop (K:Kind α) (l:List α) (k:Nat):K.all (l.drop k)=(K.all l).drop (k*K.sz):=by
 rcases Nat.lt_or_ge k l.length with h | h
 ·have e:K.all l=K.all (l.take k)++K.all (l.drop k):=by rw [←Kind.all_app,List.take_append_drop]
  have hl:(K.all (l.take k)).length=k*K.sz:=by rw [K.all_len,List.length_take,Nat.min_eq_left (by omega)]
  rw [e,←hl,List.drop_left]
 ·rw [List.drop_eq_nil_of_le h,List.drop_eq_nil_of_le (by rw [K.all_len];exact Nat.mul_le_mul_right _ h)]
  rfl
def Kind.row (K:Kind α) (w:World) (base:Nat) (v:Value) (l:List α):Prop:=w.ownsRow base K.eT K.sz v l.length (K.all l)
theorem heap_set {w:World} {b:Nat} {cs:Array Value} {t:TypeId} (h:w.heap[b]? = some (.cells cs t (0,0))) (i:Nat) (u:Value) :
 (w.setCell ⟨b,i,none⟩ u).heap[b]? = some (.cells (cs.setIfInBounds i u) t (0,0)):=heap_setCell_same w b i cs t u h
theorem row_set_other {w:World} {base:Nat} {e:TypeId} {size:Nat} {v:Value} {n:Nat} {xs:List Value} (h:w.ownsRow base e size v n xs) {p:Addr} (hp:p.block∉blk v) (u:Value) :
 (w.setCell p u).ownsRow base e size v n xs:=
 own_same h fun k hk=>Below.heap_setCell _ _ _ _ (fun e=>hp (by rw [←e];exact hk))
end Go.Proofs.YtkmnbodlciepaaaGreat
namespace Go.Proofs.YtkmnbodlciepaaaGreat
def bitsN (n:Nat):Nat:=if n=0 then 0 else n.log2+1
theorem bitsN_lt (n:Nat):n<2 ^ bitsN n:=by
 unfold bitsN
 split
 ·omega
 ·exact Nat.lt_log2_self
theorem bitsN_le (n k:Nat) (h:n<2 ^ k):bitsN n≤k:=by
 unfold bitsN
 split
 ·omega
 ·rename_i hn
  have:=(Nat.log2_lt hn).2 h
  omega
section
variable {α:Type}
end
end Go.Proofs.YtkmnbodlciepaaaGreat
