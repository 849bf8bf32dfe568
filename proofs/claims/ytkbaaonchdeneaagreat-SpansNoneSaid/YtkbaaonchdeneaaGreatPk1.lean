/- Plain lemmas on worlds, owned rows and updates that the walks of this seat use. No program. -/
import Derived.WalkKit
import Derived.WalkSpells
import Derived.WalkLawsBesides
import Derived.Lib.Hide
import Derived.Lib.SliceRun
import Derived.Deep.AppendLies
namespace Go.Proofs.YtkbaaonchdeneaaGreat
open Go.RowKit
structure Upd (F:List Nat) (w w':World):Prop where
 os:w'.os=w.os
 tape:w'.tape=w.tape
 output:w'.output=w.output
 size:w.heap.size≤w'.heap.size
 block:∀k,k<w.heap.size→k∉F→w'.heap[k]? = w.heap[k]?
theorem Upd.refl (F:List Nat) (w:World):Upd F w w:=⟨rfl,rfl,rfl,Nat.le_refl _,fun _ _ _=>rfl⟩
theorem Upd.trans' {F G:List Nat} {a b c:World} (h:Upd F a b) (k:Upd G b c) (hg:∀x∈G,x∈F∨a.heap.size≤x):Upd F a c:=
 ⟨k.os.trans h.os,k.tape.trans h.tape,k.output.trans h.output,Nat.le_trans h.size k.size,fun i hi hf=>
  (k.block i (Nat.lt_of_lt_of_le hi h.size) (fun hx=>by rcases hg i hx with h1 | h1;exact hf h1;omega)).trans (h.block i hi hf)⟩
theorem Upd.trans {F:List Nat} {a b c:World} (h:Upd F a b) (k:Upd F b c):Upd F a c:=h.trans' k fun _ hx=>.inl hx
theorem Upd.mono {F G:List Nat} {a b:World} (h:Upd F a b) (hg:∀x∈F,x∈G∨a.heap.size≤x):Upd G a b:=
 ⟨h.os,h.tape,h.output,h.size,fun i hi hf=>h.block i hi (fun hx=>by rcases hg i hx with h1 | h1;exact hf h1;omega)⟩
theorem Upd.alloc {F:List Nat} {a w:World} (h:Upd F a w) (o:Obj):Upd F a (w.alloc o):=
 h.trans ⟨rfl,rfl,rfl,by simp,fun k hk _=>Below.heap_alloc _ _ _ hk⟩
theorem Upd.drew {F:List Nat} {a w:World} (h:Upd F a w):Upd F a w.drew:=⟨h.os,h.tape,h.output,h.size,h.block⟩
theorem Upd.drewN {F:List Nat} {a w:World} (h:Upd F a w) (n:Nat):Upd F a (w.drewN n):=⟨h.os,h.tape,h.output,h.size,h.block⟩
theorem Upd.setCell {F:List Nat} {a w:World} (h:Upd F a w) {p:Addr} (hp:p.block∈F∨a.heap.size≤p.block) (u:Value):Upd F a (w.setCell p u):=
 h.trans' (G:=[p.block]) ⟨rfl,rfl,rfl,by simp [World.setCell],fun k _ hk=>Below.heap_setCell _ _ _ _ (fun e=>hk (by simp [e]))⟩
  (fun x hx=>by simp at hx;rw [hx];exact hp)
theorem Upd.grown {F:List Nat} {a w w':World} {row:Option Nat} (h:Upd F a w) (hg:w.grownBy w' row) (hr:∀k,row=some k→k∈F∨a.heap.size≤k):Upd F a w':=
 h.trans' (G:=row.toList) ⟨hg.os,hg.tape,hg.output,hg.size,fun k hk hn=>hg.block k hk (fun e=>hn (by simp [←e]))⟩
  (fun x hx=>hr x (by simpa using hx))
theorem Upd.of_below {w w':World} (h:Below w.heap.size w w'):Upd [] w w':=⟨h.os,h.tape,h.output,h.size,fun k hk _=>h.block k hk⟩
theorem Upd.below {w w':World} (h:Upd [] w w'):Below w.heap.size w w':=⟨h.os,h.tape,h.output,h.size,fun k hk=>h.block k hk (by simp)⟩
theorem Upd.cell {F:List Nat} {w w':World} (h:Upd F w w') {p:Addr} (hp:p.block<w.heap.size) (hf:p.block∉F):w'.cell? p=w.cell? p:=
 World.cell?_of_block (w:=w) (h.block p.block hp hf)
theorem Upd.frozen {F:List Nat} {w w':World} (h:Upd F w w') {p:Addr} (hp:p.block<w.heap.size) (hf:p.block∉F):w'.frozen? p=w.frozen? p:=
 World.frozen?_of_block (w:=w) (h.block p.block hp hf)
def blk:Value→List Nat
 |.slice (some a) _ _=>[a.block]
 |.pointer (some a)=>[a.block]
 |.map (some r)=>[r]
 |_=>[]
theorem own_same {w w':World} {base:Nat} {e:TypeId} {size:Nat} {v:Value} {n:Nat} {xs:List Value} (h:w.ownsRow base e size v n xs)
 (hb:∀k∈blk v,w'.heap[k]? = w.heap[k]?):w'.ownsRow base e size v n xs:=by
 obtain ⟨h1,h2⟩:=h
 refine ⟨h1,?_⟩
 rcases h2 with h2 | ⟨g,cap,cur,hv,hg,hh,r⟩
 ·exact .inl h2
 ·subst hv
  exact .inr ⟨g,cap,cur,rfl,hg,by rw [hb g (by simp [blk])];exact hh,r⟩
theorem own_lt {w:World} {base:Nat} {e:TypeId} {size:Nat} {v:Value} {n:Nat} {xs:List Value} (h:w.ownsRow base e size v n xs) :
 ∀k∈blk v,k<w.heap.size:=by
 obtain ⟨_,h2⟩:=h
 rcases h2 with ⟨rfl,_⟩ | ⟨g,cap,cur,rfl,hg,hh,_⟩
 ·simp [blk]
 ·intro k hk
  simp [blk] at hk
  subst hk
  exact lt_of_block hh
theorem own_upd {F:List Nat} {w w':World} {base:Nat} {e:TypeId} {size:Nat} {v:Value} {n:Nat} {xs:List Value} (h:w.ownsRow base e size v n xs)
 (hu:Upd F w w') (hd:∀k∈blk v,k∉F):w'.ownsRow base e size v n xs:=
 own_same h fun k hk=>hu.block k (own_lt h k hk) (hd k hk)
theorem own_base {w:World} {base base':Nat} {e:TypeId} {size:Nat} {v:Value} {n:Nat} {xs:List Value} (h:w.ownsRow base e size v n xs) (hb:base'≤base):w.ownsRow base' e size v n xs:=by
 refine ⟨h.1,?_⟩
 rcases h.2 with h2 | ⟨g,cap,cur,hv,hg,hh⟩
 ·exact .inl h2
 ·exact .inr ⟨g,cap,cur,hv,Nat.le_trans hb hg,hh⟩
theorem own_ge {w:World} {base:Nat} {e:TypeId} {size:Nat} {v:Value} {n:Nat} {xs:List Value} (h:w.ownsRow base e size v n xs):∀k∈blk v,base≤k:=by
 intro k hk
 rcases h.2 with ⟨rfl,_⟩ | ⟨g,cap,cur,rfl,hg,hh⟩
 ·simp [blk] at hk
 ·simp [blk] at hk;omega
theorem own_form {w:World} {base:Nat} {e:TypeId} {size:Nat} {v:Value} {n:Nat} {xs:List Value} (h:w.ownsRow base e size v n xs) :
 ∃A C,v=.slice A n C:=by
 rcases h.2 with ⟨rfl,rfl⟩ | ⟨g,cap,cur,rfl,_⟩
 ·exact ⟨_,_,rfl⟩
 ·exact ⟨_,_,rfl⟩
theorem addr_add (b o j:Nat):(⟨b,o,none⟩:Addr).add j=⟨b,o+j,none⟩:=by
 unfold Addr.add
 split<;>simp_all
def Sees (w:World) (size:Nat) (v:Value) (n:Nat) (xs:List Value):Prop:=
 xs.length=n*size∧((v=.slice none 0 0∧n=0)∨∃b o s cap,v=.slice (some ⟨b,o,s⟩) n cap∧(0<cap→s=none)∧n≤cap∧cap≤maxLen∧∀j u,xs[j]? = some u→w.cell? ⟨b,o+j,none⟩=some u)
theorem sees_of_own {w:World} {base:Nat} {e:TypeId} {size:Nat} {v:Value} {n:Nat} {xs:List Value} (h:w.ownsRow base e size v n xs):Sees w size v n xs:=by
 refine ⟨h.1,?_⟩
 rcases h.2 with ⟨rfl,rfl⟩ | ⟨g,cap,cur,rfl,h3,h4,h5,h6,h7,h8⟩
 ·exact .inl ⟨rfl,rfl⟩
 ·refine .inr ⟨g,0,none,cap,rfl,fun _=>rfl,h5,h6,fun j u hu=>?_⟩
  have:=World.ownsRow.cells h (g:=g) rfl j u hu
  rwa [addr_add] at this
theorem sees_form {w:World} {size:Nat} {v:Value} {n:Nat} {xs:List Value} (h:Sees w size v n xs):∃A C,v=.slice A n C:=by
 rcases h.2 with ⟨rfl,rfl⟩ | ⟨g,o,s,cap,rfl,_⟩
 ·exact ⟨_,_,rfl⟩
 ·exact ⟨_,_,rfl⟩
theorem sees_upd {F:List Nat} {w w':World} {size:Nat} {v:Value} {n:Nat} {xs:List Value} (h:Sees w size v n xs) (hu:Upd F w w') (hd:0<n→∀k∈blk v,k<w.heap.size→k∉F):Sees w' size v n xs:=by
 refine ⟨h.1,?_⟩
 rcases h.2 with h2 | ⟨b,o,s,cap,rfl,h3,h4,h5,h6⟩
 ·exact .inl h2
 ·refine .inr ⟨b,o,s,cap,rfl,h3,h4,h5,fun j u hx=>?_⟩
  have hc:=h6 j u hx
  have hlt:=World.block_lt_of_cell? w _ hc
  have hn:0<n:=by
   rcases Nat.eq_zero_or_pos n with h0 | h0
   ·subst h0
    have hx0:xs = []:=List.eq_nil_of_length_eq_zero (by simpa using h.1)
    subst hx0;simp at hx
   ·exact h0
  rw [hu.cell (p:=⟨b,o+j,none⟩) hlt (hd hn b (by simp [blk]) hlt)]
  exact hc
theorem sees_lit (w:World) (cs:Array Value) (t:TypeId) (size n:Nat) (hs:cs.size=n*size) (hm:n≤maxLen) :
 Sees (w.alloc (.cells cs t)) size (.slice (some ⟨w.heap.size,0,none⟩) n n) n cs.toList:=by
 refine ⟨by simpa using hs,.inr ⟨w.heap.size,0,none,n,rfl,fun _=>rfl,Nat.le_refl _,hm,fun j u hu=>?_⟩⟩
 rw [World.cell?_alloc_at _ _ _ _ rfl]
 simpa using hu
theorem Sees.drew {w:World} {size:Nat} {v:Value} {n:Nat} {xs:List Value} (h:Sees w size v n xs):Sees w.drew size v n xs:=h
theorem owns_drew {w:World} {base:Nat} {e:TypeId} {size:Nat} {v:Value} {n:Nat} {xs:List Value} (h:w.ownsRow base e size v n xs):w.drew.ownsRow base e size v n xs:=h
def AppPost (w w':World) (base:Nat) (e:TypeId) (size:Nat) (v:Value) (n:Nat) (xs:List Value) (m:Nat) (news:List Value) (A:Option Addr) (C:Nat):Prop:=
 w'.ownsRow base e size (.slice A (n+m) C) (n+m) (xs++news)∧w.grownBy w' v.ownBlock∧((.slice A (n+m) C:Value)=.slice none 0 0↔v=.slice none 0 0∧m=0)∧(blk (.slice A (n+m) C)=blk v∨blk (.slice A (n+m) C) = [w.heap.size])
theorem ownBlock_blk {v:Value} {k:Nat} (h:v.ownBlock=some k):k∈blk v:=by
 cases v<;>simp [Value.ownBlock] at h
 rename_i a _ _
 cases a<;>simp at h
 simp [blk,h]
theorem AppPost.upd {w w':World} {base:Nat} {e:TypeId} {size:Nat} {v:Value} {n:Nat} {xs:List Value} {m:Nat} {news:List Value} {A:Option Addr} {C:Nat} (h:AppPost w w' base e size v n xs m news A C):Upd (blk v) w w':=
 (Upd.refl _ _).grown h.2.1 fun _ hk=>.inl (ownBlock_blk hk)
theorem AppPost.own {w w':World} {base:Nat} {e:TypeId} {size:Nat} {v:Value} {n:Nat} {xs:List Value} {m:Nat} {news:List Value} {A:Option Addr} {C:Nat} (h:AppPost w w' base e size v n xs m news A C) :
 w'.ownsRow base e size (.slice A (n+m) C) (n+m) (xs++news):=h.1
theorem AppPost.at {w w':World} {base:Nat} {e:TypeId} {size:Nat} {v:Value} {n:Nat} {xs:List Value} {m:Nat} {news:List Value} {A:Option Addr} {C:Nat} (h:AppPost w w' base e size v n xs m news A C) :
 blk (.slice A (n+m) C)=blk v∨blk (.slice A (n+m) C) = [w.heap.size]:=h.2.2.2
section
variable {P:Program} (w:World)
theorem run_app (base:Nat) (t ty e:TypeId) (i:TypeInfo) (z:Value) (size bytes:Nat) (ht:P.underlying t=some (.slice e)) (hi:P.info? e=some i) (hz:i.zero=some z)
 (hsize:i.size=size) (hby:i.bytes=bytes) (hzs:z.cells.size=size) (hsz:0<size)
 (v:Value) (n:Nat) (xs:List Value) (hown:w.ownsRow base e size v n xs)
 (x:Value) (m:Nat) (news:List Value) (hx:Sees w size x m news) (h1:∀u∈news,u.oneCell'=true)
 (h63:n+m≤maxLen) (hbytes:(n+m)*bytes≤140737488355328) (hbase:base≤w.heap.size) :
 ∃A C w',(Builtin.append_ #[t,t] ty #[v,x]).run P w=.ok (.slice A (n+m) C) w'∧w'.ownsRow base e size (.slice A (n+m) C) (n+m) (xs++news)∧w.grownBy w' v.ownBlock∧
  ((.slice A (n+m) C:Value)=.slice none 0 0↔v=.slice none 0 0∧m=0)∧(blk (.slice A (n+m) C)=blk v∨blk (.slice A (n+m) C) = [w.heap.size]):=by
 have fin:∀(w0:World) (v':Value),w0.ownsRow base e size v' (n+m) (xs++news)→(v'.ownBlock=v.ownBlock∨v'.ownBlock=some w.heap.size)→
  ∃A C,v'=.slice A (n+m) C∧(blk v'=blk v∨blk v' = [w.heap.size]):=by
  intro w0 v' ho hb
  obtain ⟨A,C,rfl⟩:=own_form ho
  obtain ⟨A0,C0,rfl⟩:=own_form hown
  refine ⟨A,C,rfl,?_⟩
  cases A<;>cases A0<;>simp_all [Value.ownBlock,blk]
 rcases hx.2 with ⟨rfl,rfl⟩ | ⟨b,o,s,cap,rfl,h3,h4,h5,h6⟩
 ·have hn:news = []:=List.eq_nil_of_length_eq_zero (by simpa using hx.1)
  subst hn
  obtain ⟨A,C,rfl⟩:=own_form hown
  have hr:=run_append_owned_none (P:=P) (w:=w) base t ty e i size ht hi _ n xs hown
  refine ⟨A,C,w,?_,?_,⟨rfl,rfl,rfl,Nat.le_refl _,fun _ _ _=>rfl⟩,?_,.inl rfl⟩
  ·simpa using hr
  ·simpa using hown
  ·simp
 ·obtain ⟨v',w',hr,h2,h3',h4',h5'⟩:=run_append_own_at (P:=P) w base t ty e i z size bytes ht hi hz hsize hby hzs hsz v n xs hown ⟨b,o,s⟩ m cap news hx.1
   (fun j u hu=>by
    have hm:0<m:=by
     rcases Nat.eq_zero_or_pos m with h0 | h0
     ·subst h0
      have hx0:news = []:=List.eq_nil_of_length_eq_zero (by simpa using hx.1)
      subst hx0;simp at hu
     ·exact h0
    have hs:=h3 (by omega)
    subst hs
    rw [addr_add];exact h6 j u hu) h1 h63 hbytes hbase
  obtain ⟨A,C,rfl,hblk⟩:=fin w' v' h2 h5'
  exact ⟨A,C,w',hr,h2,h3',h4',hblk⟩
theorem wp_app {o:Oper} {a:Act} {K:Act→World→Prop} {Q:Exit→Act→World→Prop} (s x:Operand) (t:TypeId)
 (ho:o.op=.call { callee:=.builtin .append,args:=#[s,x],argTypes:=#[t,t] })
 (base:Nat) (e:TypeId) (i:TypeInfo) (z:Value) (size bytes:Nat) (ht:P.underlying t=some (.slice e)) (hi:P.info? e=some i) (hz:i.zero=some z)
 (hsize:i.size=size) (hby:i.bytes=bytes) (hzs:z.cells.size=size) (hsz:0<size)
 (v:Value) (n:Nat) (xs:List Value) (hs:a.eval s=v) (hown:w.ownsRow base e size v n xs)
 (vx:Value) (m:Nat) (news:List Value) (hx:a.eval x=vx) (hsee:Sees w size vx m news) (h1:∀u∈news,u.oneCell'=true)
 (h63:n+m≤maxLen) (hbytes:(n+m)*bytes≤140737488355328) (hbase:base≤w.heap.size)
 (h:∀A C w',AppPost w w' base e size v n xs m news A C→K (a.put o.dst (.slice A (n+m) C)) w'):o.wp P a w K Q:=by
 obtain ⟨A,C,w',hr,h2,h3,h4,h5⟩:=run_app (P:=P) w base t o.type e i z size bytes ht hi hz hsize hby hzs hsz v n xs hown vx m news hsee h1 h63 hbytes hbase
 unfold Oper.wp execOp
 simp only [ho,resolve,invoke,builtin,Sem.run_bind,Sem.run_pure,Result.andThen_ok,List.map_toArray,List.map_cons,List.map_nil,hs,hx,hr]
 exact h A C w' ⟨h2,h3,h4,h5⟩
theorem wpList_app {ops:Array Oper} {rest:List Oper} {o:Oper} {a:Act} {Q:Exit→Act→World→Prop} (hgd:o.guard=none) (s x:Operand) (t:TypeId)
 (ho:o.op=.call { callee:=.builtin .append,args:=#[s,x],argTypes:=#[t,t] })
 (base:Nat) (e:TypeId) (i:TypeInfo) (z:Value) (size bytes:Nat) (ht:P.underlying t=some (.slice e)) (hi:P.info? e=some i) (hz:i.zero=some z)
 (hsize:i.size=size) (hby:i.bytes=bytes) (hzs:z.cells.size=size) (hsz:0<size)
 (v:Value) (n:Nat) (xs:List Value) (hs:a.eval s=v) (hown:w.ownsRow base e size v n xs)
 (vx:Value) (m:Nat) (news:List Value) (hx:a.eval x=vx) (hsee:Sees w size vx m news) (h1:∀u∈news,u.oneCell'=true)
 (h63:n+m≤maxLen) (hbytes:(n+m)*bytes≤140737488355328) (hbase:base≤w.heap.size)
 (h:∀A C w',AppPost w w' base e size v n xs m news A C→wpList P ops Q rest (a.put o.dst (.slice A (n+m) C)) w'):wpList P ops Q (o::rest) a w:=
 wpList_plain hgd fun _ hK=>wp_app w s x t ho base e i z size bytes ht hi hz hsize hby hzs hsz v n xs hs hown vx m news hx hsee h1 h63 hbytes hbase fun A C w' h2=>hK _ _ (h A C w' h2)
theorem step_app {ops:Array Oper} {o:Oper} {a:Act} {K:Act→World→Prop} {Q:Exit→Act→World→Prop} {E:Prop} (hgd:o.guard=none) (s x:Operand) (t:TypeId)
 (ho:o.op=.call { callee:=.builtin .append,args:=#[s,x],argTypes:=#[t,t] })
 (base:Nat) (e:TypeId) (i:TypeInfo) (z:Value) (size bytes:Nat) (ht:P.underlying t=some (.slice e)) (hi:P.info? e=some i) (hz:i.zero=some z)
 (hsize:i.size=size) (hby:i.bytes=bytes) (hzs:z.cells.size=size) (hsz:0<size)
 (v:Value) (n:Nat) (xs:List Value) (hs:a.eval s=v) (hown:w.ownsRow base e size v n xs)
 (vx:Value) (m:Nat) (news:List Value) (hx:a.eval x=vx) (hsee:Sees w size vx m news) (h1:∀u∈news,u.oneCell'=true)
 (h63:n+m≤maxLen) (hbytes:(n+m)*bytes≤140737488355328) (hbase:base≤w.heap.size)
 (h:∀A C w',AppPost w w' base e size v n xs m news A C→K (a.put o.dst (.slice A (n+m) C)) w') :
 if Region.wanted o (yielded ops a.tmps)=true then Oper.wp P o a w K Q else E:=by
 have hw:Region.wanted o (yielded ops a.tmps)=true:=by simp [Region.wanted,hgd]
 rw [if_pos hw]
 exact wp_app w s x t ho base e i z size bytes ht hi hz hsize hby hzs hsz v n xs hs hown vx m news hx hsee h1 h63 hbytes hbase h
end
end Go.Proofs.YtkbaaonchdeneaaGreat
