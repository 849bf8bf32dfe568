/- Plain lemmas on worlds, owned rows and updates that the walks of this seat use. No program. -/
import Derived.WalkSpells
import Derived.WalkLawsBesides
import Derived.Lib.Hide
import Derived.Deep.AppendLies
namespace Go.Proofs.YtkbaaonchdeneaaGreat
theorem Ac {p0 g : Prop} (hp0 : p0) (h : p0 -> g := by (try simp only [Go.RowKit.Hid]); intros; omega) : g := h hp0
theorem Ad {p0 p1 g : Prop} (hp0 : p0) (hp1 : p1) (h : p0 -> p1 -> g := by (try simp only [Go.RowKit.Hid]); intros; omega) : g := h hp0 hp1
theorem Af {p0 p1 p2 p3 g : Prop} (hp0 : p0) (hp1 : p1) (hp2 : p2) (hp3 : p3) (h : p0 -> p1 -> p2 -> p3 -> g := by (try simp only [Go.RowKit.Hid]); intros; omega) : g := h hp0 hp1 hp2 hp3
theorem Ag {p0 p1 p2 g : Prop} (hp0 : p0) (hp1 : p1) (hp2 : p2) (h : p0 -> p1 -> p2 -> g := by (try simp only [Go.RowKit.Hid]); intros; omega) : g := h hp0 hp1 hp2
theorem Ah {p0 p1 p2 p3 p4 g : Prop} (hp0 : p0) (hp1 : p1) (hp2 : p2) (hp3 : p3) (QB : p4) (h : p0 -> p1 -> p2 -> p3 -> p4 -> g := by (try simp only [Go.RowKit.Hid]); intros; omega) : g := h hp0 hp1 hp2 hp3 QB
theorem Ai {p0 p1 p2 p3 p4 p5 g : Prop} (hp0 : p0) (hp1 : p1) (hp2 : p2) (hp3 : p3) (QB : p4) (Vb : p5) (h : p0 -> p1 -> p2 -> p3 -> p4 -> p5 -> g := by (try simp only [Go.RowKit.Hid]); intros; omega) : g := h hp0 hp1 hp2 hp3 QB Vb
theorem Aj {p0 p1 p2 p3 p4 p5 p6 g : Prop} (hp0 : p0) (hp1 : p1) (hp2 : p2) (hp3 : p3) (QB : p4) (Vb : p5) (Zx : p6) (h : p0 -> p1 -> p2 -> p3 -> p4 -> p5 -> p6 -> g := by (try simp only [Go.RowKit.Hid]); intros; omega) : g := h hp0 hp1 hp2 hp3 QB Vb Zx
theorem Ap {p0 p1 : Prop} (hp0 : p0) (hp1 : p1) : Go.RowKit.Hid (p0 /\ p1) := ⟨hp0, hp1⟩
theorem Aq {p0 p1 p2 : Prop} (hp0 : p0) (hp1 : p1) (hp2 : p2) : Go.RowKit.Hid (p0 /\ p1 /\ p2) := ⟨hp0, hp1, hp2⟩
theorem Au {p0 p1 p2 p3 : Prop} (hp0 : p0) (hp1 : p1) (hp2 : p2) (hp3 : p3) : Go.RowKit.Hid (p0 /\ p1 /\ p2 /\ p3) := ⟨hp0, hp1, hp2, hp3⟩
theorem Aw {p0 p1 p2 p3 p4 : Prop} (hp0 : p0) (hp1 : p1) (hp2 : p2) (hp3 : p3) (QB : p4) : Go.RowKit.Hid (p0 /\ p1 /\ p2 /\ p3 /\ p4) := ⟨hp0, hp1, hp2, hp3, QB⟩
theorem Az {p0 p1 p2 p3 p4 p5 : Prop} (hp0 : p0) (hp1 : p1) (hp2 : p2) (hp3 : p3) (QB : p4) (Vb : p5) : Go.RowKit.Hid (p0 /\ p1 /\ p2 /\ p3 /\ p4 /\ p5) := ⟨hp0, hp1, hp2, hp3, QB, Vb⟩
theorem AB {p0 p1 p2 p3 p4 p5 p6 : Prop} (hp0 : p0) (hp1 : p1) (hp2 : p2) (hp3 : p3) (QB : p4) (Vb : p5) (Zx : p6) : Go.RowKit.Hid (p0 /\ p1 /\ p2 /\ p3 /\ p4 /\ p5 /\ p6) := ⟨hp0, hp1, hp2, hp3, QB, Vb, Zx⟩
theorem AL {p0 p1 p2 p3 p4 p5 p6 p7 : Prop} (hp0 : p0) (hp1 : p1) (hp2 : p2) (hp3 : p3) (QB : p4) (Vb : p5) (Zx : p6) (hp7 : p7) : Go.RowKit.Hid (p0 /\ p1 /\ p2 /\ p3 /\ p4 /\ p5 /\ p6 /\ p7) := ⟨hp0, hp1, hp2, hp3, QB, Vb, Zx, hp7⟩
theorem AO {p0 p1 p2 p3 p4 p5 p6 p7 p8 : Prop} (hp0 : p0) (hp1 : p1) (hp2 : p2) (hp3 : p3) (QB : p4) (Vb : p5) (Zx : p6) (hp7 : p7) (hp8 : p8) : Go.RowKit.Hid (p0 /\ p1 /\ p2 /\ p3 /\ p4 /\ p5 /\ p6 /\ p7 /\ p8) := ⟨hp0, hp1, hp2, hp3, QB, Vb, Zx, hp7, hp8⟩
theorem AP {p0 p1 p2 p3 p4 p5 p6 p7 p8 p9 : Prop} (hp0 : p0) (hp1 : p1) (hp2 : p2) (hp3 : p3) (QB : p4) (Vb : p5) (Zx : p6) (hp7 : p7) (hp8 : p8) (oH : p9) : Go.RowKit.Hid (p0 /\ p1 /\ p2 /\ p3 /\ p4 /\ p5 /\ p6 /\ p7 /\ p8 /\ p9) := ⟨hp0, hp1, hp2, hp3, QB, Vb, Zx, hp7, hp8, oH⟩
theorem AQ {p0 p1 p2 p3 p4 p5 p6 p7 p8 p9 p10 : Prop} (hp0 : p0) (hp1 : p1) (hp2 : p2) (hp3 : p3) (QB : p4) (Vb : p5) (Zx : p6) (hp7 : p7) (hp8 : p8) (oH : p9) (a6F : p10) : Go.RowKit.Hid (p0 /\ p1 /\ p2 /\ p3 /\ p4 /\ p5 /\ p6 /\ p7 /\ p8 /\ p9 /\ p10) := ⟨hp0, hp1, hp2, hp3, QB, Vb, Zx, hp7, hp8, oH, a6F⟩
theorem AU {α : Sort _} (a : α) : ∃ x, a = x := ⟨_, rfl⟩
theorem AV {a b : Prop} (h : a) (k : b) : a /\ b := ⟨h, k⟩
theorem AX {p : Prop} (h : p) : Go.RowKit.Hid p := h
theorem AY (n : Nat) : 0 <= (n : Int) := Int.natCast_nonneg n
theorem AZ {α : Type _} {l : List α} {i : Nat} {a : α} (h : l[i]? = some a) : ∃ h : i < l.length, l[i] = a := List.getElem?_eq_some_iff.1 h
theorem Ba {α : Type _} {l : List α} {i : Nat} (h : i < l.length) : l[i]? = some l[i] := List.getElem?_eq_getElem h
theorem Bc {α : Type _} {a b : List α} : (a ++ b).length = a.length + b.length := List.length_append
theorem Bd {α : Type _} {i : Nat} {l : List α} (h : i < l.length) : l.take (i + 1) = l.take i ++ [l[i]] := List.take_succ_eq_append_getElem h
theorem Bf {α : Type _} {i : Nat} {l : List α} : (l.take i).length = min i l.length := List.length_take
theorem Bg {a b c : Nat} (h : a < b) (k : b <= c) : a < c := Nat.lt_of_lt_of_le h k
theorem Bh {a b c : Nat} (h : a <= b) (k : b <= c) : a <= c := Nat.le_trans h k
instance : Coe Nat Go.Value := ⟨λn => .int .i64 (n : Int)⟩
instance : Coe Nat Go.Addr := ⟨λq => ⟨q, 0, none⟩⟩
instance : Coe Int Go.Value := ⟨λk => .int .i64 k⟩
open Go.RowKit
structure Bj (F:List Nat) (w w':World):Prop where
 os:w'.os=w.os
 tape:w'.tape=w.tape
 output:w'.output=w.output
 size:w.heap.size<=w'.heap.size
 block:∀k,k<w.heap.size->k∉F->w'.heap[k]? = w.heap[k]?
theorem Bj.refl (F:List Nat) (w:World):Bj F w w:=⟨rfl,rfl,rfl,Nat.le_refl _,λ_ _ _=>rfl⟩
theorem Bj.trans' {F G:List Nat} {a b c:World} (h:Bj F a b) (k:Bj G b c) (hg:∀x∈G,x∈F\/a.heap.size<=x):Bj F a c:=
 ⟨k.os.trans h.os,k.tape.trans h.tape,k.output.trans h.output,Bh h.size k.size,λi hi hf=>
  (k.block i (Bg hi h.size) (λhx=>by rcases hg i hx with h1 | h1;exact hf h1;omega)).trans (h.block i hi hf)⟩
theorem Bj.trans {F:List Nat} {a b c:World} (h:Bj F a b) (k:Bj F b c):Bj F a c:=h.trans' k λ_ hx=>.inl hx
theorem Bj.mono {F G:List Nat} {a b:World} (h:Bj F a b) (hg:∀x∈F,x∈G\/a.heap.size<=x):Bj G a b:=
 ⟨h.os,h.tape,h.output,h.size,λi hi hf=>h.block i hi (λhx=>by rcases hg i hx with h1 | h1;exact hf h1;omega)⟩
theorem Bj.alloc {F:List Nat} {a w:World} (h:Bj F a w) (o:Obj):Bj F a (w.alloc o):=
 h.trans ⟨rfl,rfl,rfl,by simp,λk hk _=>Below.heap_alloc _ _ _ hk⟩
theorem Bj.drew {F:List Nat} {a w:World} (h:Bj F a w):Bj F a w.drew:=⟨h.os,h.tape,h.output,h.size,h.block⟩
theorem Bj.drewN {F:List Nat} {a w:World} (h:Bj F a w) (n:Nat):Bj F a (w.drewN n):=⟨h.os,h.tape,h.output,h.size,h.block⟩
theorem Bj.setCell {F:List Nat} {a w:World} (h:Bj F a w) {p:Addr} (hp:p.block∈F\/a.heap.size<=p.block) (u:Value):Bj F a (w.setCell p u):=
 h.trans' (G:=[p.block]) ⟨rfl,rfl,rfl,by simp [World.setCell],λk _ hk=>Below.heap_setCell _ _ _ _ (λe=>hk (by simp [e]))⟩
  (λx hx=>by simp at hx;rw [hx];exact hp)
theorem Bj.grown {F:List Nat} {a w w':World} {row:Option Nat} (h:Bj F a w) (hg:w.grownBy w' row) (hr:∀k,row=some k->k∈F\/a.heap.size<=k):Bj F a w':=
 h.trans' (G:=row.toList) ⟨hg.os,hg.tape,hg.output,hg.size,λk hk hn=>hg.block k hk (λe=>hn (by simp [<-e]))⟩
  (λx hx=>hr x (by simpa using hx))
theorem Bj.of_below {w w':World} (h:Below w.heap.size w w'):Bj [] w w':=⟨h.os,h.tape,h.output,h.size,λk hk _=>h.block k hk⟩
theorem Bj.below {w w':World} (h:Bj [] w w'):Below w.heap.size w w':=⟨h.os,h.tape,h.output,h.size,λk hk=>h.block k hk (by simp)⟩
theorem Bj.cell {F:List Nat} {w w':World} (h:Bj F w w') {p:Addr} (hp:p.block<w.heap.size) (hf:p.block∉F):w'.cell? p=w.cell? p:=
 World.cell?_of_block (w:=w) (h.block p.block hp hf)
theorem Bj.frozen {F:List Nat} {w w':World} (h:Bj F w w') {p:Addr} (hp:p.block<w.heap.size) (hf:p.block∉F):w'.frozen? p=w.frozen? p:=
 World.frozen?_of_block (w:=w) (h.block p.block hp hf)
def blk:Value->List Nat
 |.slice (some a) _ _=>[a.block]
 |.pointer (some a)=>[a.block]
 |.map (some r)=>[r]
 |_=>[]
theorem Ez {w w':World} {base:Nat} {e:TypeId} {size:Nat} {v:Value} {n:Nat} {xs:List Value} (h:w.ownsRow base e size v n xs)
 (hb:∀k∈blk v,w'.heap[k]? = w.heap[k]?):w'.ownsRow base e size v n xs:=by
 obtain ⟨h1,h2⟩:=h;refine ⟨h1,?_⟩
 rcases h2 with h2 | ⟨g,cap,cur,hv,hg,hh,r⟩
 ·exact .inl h2
 ·subst hv;exact .inr ⟨g,cap,cur,rfl,hg,by rw [hb g (by simp [blk])];exact hh,r⟩
theorem BJ {w:World} {base:Nat} {e:TypeId} {size:Nat} {v:Value} {n:Nat} {xs:List Value} (h:w.ownsRow base e size v n xs) :
 ∀k∈blk v,k<w.heap.size:=by
 obtain ⟨_,h2⟩:=h;rcases h2 with ⟨rfl,_⟩ | ⟨g,cap,cur,rfl,hg,hh,_⟩
 ·simp [blk]
 ·intro k hk;simp [blk] at hk;subst hk;exact lt_of_block hh
theorem Bl {F:List Nat} {w w':World} {base:Nat} {e:TypeId} {size:Nat} {v:Value} {n:Nat} {xs:List Value} (h:w.ownsRow base e size v n xs)
 (hu:Bj F w w') (hd:∀k∈blk v,k∉F):w'.ownsRow base e size v n xs:=
 Ez h λk hk=>hu.block k (BJ h k hk) (hd k hk)
theorem own_base {w:World} {base base':Nat} {e:TypeId} {size:Nat} {v:Value} {n:Nat} {xs:List Value} (h:w.ownsRow base e size v n xs) (hb:base'<=base):w.ownsRow base' e size v n xs:=by
 refine ⟨h.1,?_⟩
 rcases h.2 with h2 | ⟨g,cap,cur,hv,hg,hh⟩
 ·exact .inl h2
 ·exact .inr ⟨g,cap,cur,hv,Bh hb hg,hh⟩
theorem BH {w:World} {base:Nat} {e:TypeId} {size:Nat} {v:Value} {n:Nat} {xs:List Value} (h:w.ownsRow base e size v n xs):∀k∈blk v,base<=k:=by
 intro k hk;rcases h.2 with ⟨rfl,_⟩ | ⟨g,cap,cur,rfl,hg,hh⟩
 ·simp [blk] at hk
 ·simp [blk] at hk;omega
theorem BD {w:World} {base:Nat} {e:TypeId} {size:Nat} {v:Value} {n:Nat} {xs:List Value} (h:w.ownsRow base e size v n xs) :
 ∃A C,v=.slice A n C:=by
 rcases h.2 with ⟨rfl,rfl⟩ | ⟨g,cap,cur,rfl,_⟩
 ·exact ⟨_,_,rfl⟩
 ·exact ⟨_,_,rfl⟩
theorem addr_add (b o j:Nat):(⟨b,o,none⟩:Addr).add j=⟨b,o+j,none⟩:=by
 unfold Addr.add;split<;>simp_all
def D5 (w:World) (size:Nat) (v:Value) (n:Nat) (xs:List Value):Prop:=
 xs.length=n*size/\((v=.slice none 0 0/\n=0)\/∃b o s cap,v=.slice (some ⟨b,o,s⟩) n cap/\(0<cap->s=none)/\n<=cap/\cap<=maxLen/\∀j u,xs[j]? = some u->w.cell? ⟨b,o+j,none⟩=some u)
theorem CV {w:World} {base:Nat} {e:TypeId} {size:Nat} {v:Value} {n:Nat} {xs:List Value} (h:w.ownsRow base e size v n xs):D5 w size v n xs:=by
 refine ⟨h.1,?_⟩
 rcases h.2 with ⟨rfl,rfl⟩ | ⟨g,cap,cur,rfl,h3,h4,h5,h6,h7,h8⟩
 ·exact .inl ⟨rfl,rfl⟩
 ·refine .inr ⟨g,0,none,cap,rfl,λ_=>rfl,h5,h6,λj u hu=>?_⟩
  have:=World.ownsRow.cells h (g:=g) rfl j u hu;rwa [addr_add] at this
theorem Iq {w:World} {size:Nat} {v:Value} {n:Nat} {xs:List Value} (h:D5 w size v n xs):∃A C,v=.slice A n C:=by
 rcases h.2 with ⟨rfl,rfl⟩ | ⟨g,o,s,cap,rfl,_⟩
 ·exact ⟨_,_,rfl⟩
 ·exact ⟨_,_,rfl⟩
theorem Dh {F:List Nat} {w w':World} {size:Nat} {v:Value} {n:Nat} {xs:List Value} (h:D5 w size v n xs) (hu:Bj F w w') (hd:0<n->∀k∈blk v,k<w.heap.size->k∉F):D5 w' size v n xs:=by
 refine ⟨h.1,?_⟩
 rcases h.2 with h2 | ⟨b,o,s,cap,rfl,h3,h4,h5,h6⟩
 ·exact .inl h2
 ·refine .inr ⟨b,o,s,cap,rfl,h3,h4,h5,λj u hx=>?_⟩
  have hc:=h6 j u hx;have hlt:=World.block_lt_of_cell? w _ hc
  have hn:0<n:=by
   rcases Nat.eq_zero_or_pos n with h0 | h0
   ·subst h0;have hx0:xs = []:=List.eq_nil_of_length_eq_zero (by simpa using h.1);subst hx0;simp at hx
   ·exact h0
  rw [hu.cell (p:=⟨b,o+j,none⟩) hlt (hd hn b (by simp [blk]) hlt)];exact hc
theorem BK (w:World) (cs:Array Value) (t:TypeId) (size n:Nat) (hs:cs.size=n*size) (hm:n<=maxLen) :
 D5 (w.alloc (.cells cs t)) size (.slice (some ⟨w.heap.size,0,none⟩) n n) n cs.toList:=by
 refine ⟨by simpa using hs,.inr ⟨w.heap.size,0,none,n,rfl,λ_=>rfl,Nat.le_refl _,hm,λj u hu=>?_⟩⟩
 rw [World.cell?_alloc_at _ _ _ _ rfl];simpa using hu
theorem D5.drew {w:World} {size:Nat} {v:Value} {n:Nat} {xs:List Value} (h:D5 w size v n xs):D5 w.drew size v n xs:=h
theorem EY {w:World} {base:Nat} {e:TypeId} {size:Nat} {v:Value} {n:Nat} {xs:List Value} (h:w.ownsRow base e size v n xs):w.drew.ownsRow base e size v n xs:=h
def DK (w w':World) (base:Nat) (e:TypeId) (size:Nat) (v:Value) (n:Nat) (xs:List Value) (m:Nat) (news:List Value) (A:Option Addr) (C:Nat):Prop:=
 w'.ownsRow base e size (.slice A (n+m) C) (n+m) (xs++news)/\w.grownBy w' v.ownBlock/\((.slice A (n+m) C:Value)=.slice none 0 0↔v=.slice none 0 0/\m=0)/\(blk (.slice A (n+m) C)=blk v\/blk (.slice A (n+m) C) = [w.heap.size])
theorem WH {v:Value} {k:Nat} (h:v.ownBlock=some k):k∈blk v:=by
 cases v<;>simp [Value.ownBlock] at h
 rename_i a _ _
 cases a<;>simp at h
 simp [blk,h]
theorem DK.upd {w w':World} {base:Nat} {e:TypeId} {size:Nat} {v:Value} {n:Nat} {xs:List Value} {m:Nat} {news:List Value} {A:Option Addr} {C:Nat} (h:DK w w' base e size v n xs m news A C):Bj (blk v) w w':=
 (Bj.refl _ _).grown h.2.1 λ_ hk=>.inl (WH hk)
theorem DK.own {w w':World} {base:Nat} {e:TypeId} {size:Nat} {v:Value} {n:Nat} {xs:List Value} {m:Nat} {news:List Value} {A:Option Addr} {C:Nat} (h:DK w w' base e size v n xs m news A C) :
 w'.ownsRow base e size (.slice A (n+m) C) (n+m) (xs++news):=h.1
theorem DK.at {w w':World} {base:Nat} {e:TypeId} {size:Nat} {v:Value} {n:Nat} {xs:List Value} {m:Nat} {news:List Value} {A:Option Addr} {C:Nat} (h:DK w w' base e size v n xs m news A C) :
 blk (.slice A (n+m) C)=blk v\/blk (.slice A (n+m) C) = [w.heap.size]:=h.2.2.2
section
variable {P:Program} (w:World)
theorem dX (base:Nat) (t ty e:TypeId) (i:TypeInfo) (z:Value) (size bytes:Nat) (ht:P.underlying t=some (.slice e)) (hi:P.info? e=some i) (hz:i.zero=some z)
 (hsize:i.size=size) (hby:i.bytes=bytes) (hzs:z.cells.size=size) (hsz:0<size)
 (v:Value) (n:Nat) (xs:List Value) (hown:w.ownsRow base e size v n xs)
 (x:Value) (m:Nat) (news:List Value) (hx:D5 w size x m news) (h1:∀u∈news,u.oneCell'=true)
 (h63:n+m<=maxLen) (hbytes:(n+m)*bytes<=140737488355328) (hbase:base<=w.heap.size) :
 ∃A C w',(Builtin.append_ #[t,t] ty #[v,x]).run P w=.ok (.slice A (n+m) C) w'/\w'.ownsRow base e size (.slice A (n+m) C) (n+m) (xs++news)/\w.grownBy w' v.ownBlock/\
  ((.slice A (n+m) C:Value)=.slice none 0 0↔v=.slice none 0 0/\m=0)/\(blk (.slice A (n+m) C)=blk v\/blk (.slice A (n+m) C) = [w.heap.size]):=by
 have fin:∀(w0:World) (v':Value),w0.ownsRow base e size v' (n+m) (xs++news)->(v'.ownBlock=v.ownBlock\/v'.ownBlock=some w.heap.size)->
  ∃A C,v'=.slice A (n+m) C/\(blk v'=blk v\/blk v' = [w.heap.size]):=by
  intro w0 v' ho hb;obtain ⟨A,C,rfl⟩:=BD ho;obtain ⟨A0,C0,rfl⟩:=BD hown;refine ⟨A,C,rfl,?_⟩
  cases A<;>cases A0<;>simp_all [Value.ownBlock,blk]
 rcases hx.2 with ⟨rfl,rfl⟩ | ⟨b,o,s,cap,rfl,h3,h4,h5,h6⟩
 ·have hn:news = []:=List.eq_nil_of_length_eq_zero (by simpa using hx.1);subst hn;obtain ⟨A,C,rfl⟩:=BD hown;have hr:=run_append_owned_none (P:=P) (w:=w) base t ty e i size ht hi _ n xs hown;refine ⟨A,C,w,?_,?_,⟨rfl,rfl,rfl,Nat.le_refl _,λ_ _ _=>rfl⟩,?_,.inl rfl⟩
  ·simpa using hr
  ·simpa using hown
  ·simp
 ·obtain ⟨v',w',hr,h2,h3',h4',h5'⟩:=run_append_own_at (P:=P) w base t ty e i z size bytes ht hi hz hsize hby hzs hsz v n xs hown ⟨b,o,s⟩ m cap news hx.1
   (λj u hu=>by
    have hm:0<m:=by
     rcases Nat.eq_zero_or_pos m with h0 | h0
     ·subst h0;have hx0:news = []:=List.eq_nil_of_length_eq_zero (by simpa using hx.1);subst hx0;simp at hu
     ·exact h0
    have hs:=h3 (by omega);subst hs;rw [addr_add];exact h6 j u hu) h1 h63 hbytes hbase
  obtain ⟨A,C,rfl,hblk⟩:=fin w' v' h2 h5';exact ⟨A,C,w',hr,h2,h3',h4',hblk⟩
theorem SK {o:Oper} {a:Act} {K:Act->World->Prop} {Q:Exit->Act->World->Prop} (s x:Operand) (t:TypeId)
 (ho:o.op=.call { callee:=.builtin .append,args:=#[s,x],argTypes:=#[t,t] })
 (base:Nat) (e:TypeId) (i:TypeInfo) (z:Value) (size bytes:Nat) (ht:P.underlying t=some (.slice e)) (hi:P.info? e=some i) (hz:i.zero=some z)
 (hsize:i.size=size) (hby:i.bytes=bytes) (hzs:z.cells.size=size) (hsz:0<size)
 (v:Value) (n:Nat) (xs:List Value) (hs:a.eval s=v) (hown:w.ownsRow base e size v n xs)
 (vx:Value) (m:Nat) (news:List Value) (hx:a.eval x=vx) (EP:D5 w size vx m news) (h1:∀u∈news,u.oneCell'=true)
 (h63:n+m<=maxLen) (hbytes:(n+m)*bytes<=140737488355328) (hbase:base<=w.heap.size)
 (h:∀A C w',DK w w' base e size v n xs m news A C->K (a.put o.dst (.slice A (n+m) C)) w'):o.wp P a w K Q:=by
 obtain ⟨A,C,w',hr,h2,h3,h4,h5⟩:=dX (P:=P) w base t o.type e i z size bytes ht hi hz hsize hby hzs hsz v n xs hown vx m news EP h1 h63 hbytes hbase;unfold Oper.wp execOp;simp only [ho,resolve,invoke,builtin,Sem.run_bind,Sem.run_pure,Result.andThen_ok,List.map_toArray,List.map_cons,List.map_nil,hs,hx,hr];exact h A C w' ⟨h2,h3,h4,h5⟩
theorem BM {ops:Array Oper} {rest:List Oper} {o:Oper} {a:Act} {Q:Exit->Act->World->Prop} (hgd:o.guard=none) (s x:Operand) (t:TypeId)
 (ho:o.op=.call { callee:=.builtin .append,args:=#[s,x],argTypes:=#[t,t] })
 (base:Nat) (e:TypeId) (i:TypeInfo) (z:Value) (size bytes:Nat) (ht:P.underlying t=some (.slice e)) (hi:P.info? e=some i) (hz:i.zero=some z)
 (hsize:i.size=size) (hby:i.bytes=bytes) (hzs:z.cells.size=size) (hsz:0<size)
 (v:Value) (n:Nat) (xs:List Value) (hs:a.eval s=v) (hown:w.ownsRow base e size v n xs)
 (vx:Value) (m:Nat) (news:List Value) (hx:a.eval x=vx) (EP:D5 w size vx m news) (h1:∀u∈news,u.oneCell'=true)
 (h63:n+m<=maxLen) (hbytes:(n+m)*bytes<=140737488355328) (hbase:base<=w.heap.size)
 (h:∀A C w',DK w w' base e size v n xs m news A C->wpList P ops Q rest (a.put o.dst (.slice A (n+m) C)) w'):wpList P ops Q (o::rest) a w:=
 wpList_plain hgd λ_ hK=>SK w s x t ho base e i z size bytes ht hi hz hsize hby hzs hsz v n xs hs hown vx m news hx EP h1 h63 hbytes hbase λA C w' h2=>hK _ _ (h A C w' h2)
theorem ER {ops:Array Oper} {o:Oper} {a:Act} {K:Act->World->Prop} {Q:Exit->Act->World->Prop} {E:Prop} (hgd:o.guard=none) (s x:Operand) (t:TypeId)
 (ho:o.op=.call { callee:=.builtin .append,args:=#[s,x],argTypes:=#[t,t] })
 (base:Nat) (e:TypeId) (i:TypeInfo) (z:Value) (size bytes:Nat) (ht:P.underlying t=some (.slice e)) (hi:P.info? e=some i) (hz:i.zero=some z)
 (hsize:i.size=size) (hby:i.bytes=bytes) (hzs:z.cells.size=size) (hsz:0<size)
 (v:Value) (n:Nat) (xs:List Value) (hs:a.eval s=v) (hown:w.ownsRow base e size v n xs)
 (vx:Value) (m:Nat) (news:List Value) (hx:a.eval x=vx) (EP:D5 w size vx m news) (h1:∀u∈news,u.oneCell'=true)
 (h63:n+m<=maxLen) (hbytes:(n+m)*bytes<=140737488355328) (hbase:base<=w.heap.size)
 (h:∀A C w',DK w w' base e size v n xs m news A C->K (a.put o.dst (.slice A (n+m) C)) w') :
 if Region.wanted o (yielded ops a.tmps)=true then Oper.wp P o a w K Q else E:=by
 have hw:Region.wanted o (yielded ops a.tmps)=true:=by simp [Region.wanted,hgd]
 rw [if_pos hw];exact SK w s x t ho base e i z size bytes ht hi hz hsize hby hzs hsz v n xs hs hown vx m news hx EP h1 h63 hbytes hbase h
end
section plain
variable {α:Type}
def Bv:List (List α)->Nat
 | []=>0
 |l::r=>if l.isEmpty then 0 else Bv r+1
theorem DT (bs:List (List α)):Bv bs<=bs.length:=by
 induction bs with
 |nil=>simp [Bv]
 |cons l r ih=>simp only [Bv];split<;>simp<;>omega
theorem Lm (bs:List (List α)):∀j l,j<Bv bs->bs[j]? = some l->l≠[]:=by
 induction bs with
 |nil=>simp
 |cons a r ih=>
  intro j l hj hl;simp only [Bv] at hj;split at hj
  ·omega
  ·rename_i ha
   cases j with
   |zero=>simp at hl;subst hl;simpa using ha
   |succ j=>exact ih j l (by omega) (by simpa using hl)
theorem JR (bs:List (List α)):∀l,bs[Bv bs]? = some l->l = []:=by
 induction bs with
 |nil=>simp
 |cons a r ih=>
  intro l hl;simp only [Bv] at hl;split at hl
  ·rename_i ha;simp at hl;subst hl;simpa using ha
  ·exact ih l (by simpa using hl)
theorem OC (bs:List (List α)) (i m:Nat):((bs.take i).drop m).reverse.flatten.length<=bs.flatten.length:=by
 have h1:∀(l:List (List α)),l.reverse.flatten.length=l.flatten.length:=by
  intro l;induction l with
  |nil=>rfl
  |cons a l ih=>simp [ih];omega
 have h2:∀(l:List (List α)) (k:Nat),(l.drop k).flatten.length<=l.flatten.length:=by
  intro l k;have:=congrArg (λx=>x.flatten.length) (List.take_append_drop k l);simp only [List.flatten_append,Bc] at this;omega
 have h3:∀(l:List (List α)) (k:Nat),(l.take k).flatten.length<=l.flatten.length:=by
  intro l k;have:=congrArg (λx=>x.flatten.length) (List.take_append_drop k l);simp only [List.flatten_append,Bc] at this;omega
 rw [h1];exact Bh (h2 _ _) (h3 _ _)
theorem PV (bs:List (List α)) (i m:Nat) (l:List α) (hm:m<i) (hl:bs[m]? = some l) :
 ((bs.take i).drop m).reverse.flatten=((bs.take i).drop (m+1)).reverse.flatten++l:=by
 have hml:(bs.take i)[m]? = some l:=by rw [List.getElem?_take,if_pos (by omega),hl]
 obtain ⟨hlt,he⟩:=AZ hml;rw [List.drop_eq_getElem_cons hlt,he];simp
def Ec (bs:List (List α)) (x:α):List α:=(bs.take (Bv bs)).reverse.flatten++[x]
def Nu (bs:List (List α)) (x:α):List (List α):=
 List.replicate (Bv bs) []++Ec bs x::bs.drop (Bv bs+1)
end plain
structure Kind (α:Type) where
 T:TypeId
 sT:TypeId
 eT:TypeId
 sz:Nat
 enc:α->List Value
 len:∀x,(enc x).length=sz
 one:∀x,∀u∈enc x,u.oneCell'=true
variable {α:Type}
def Kind.all (K:Kind α) (l:List α):List Value:=l.flatMap K.enc
theorem Kind.Gm (K:Kind α) (l:List α):(K.all l).length=l.length*K.sz:=by
 induction l with
 |nil=>simp [Kind.all]
 |cons a l ih=>simp only [Kind.all,List.flatMap_cons,Bc,K.len,List.length_cons,Nat.add_mul,Nat.one_mul] at *;omega
theorem Kind.DU (K:Kind α) (l:List α):∀u∈K.all l,u.oneCell'=true:=by
 intro u hu;simp only [Kind.all,List.mem_flatMap] at hu;obtain ⟨x,_,hx⟩:=hu;exact K.one x u hx
theorem Kind.BZ (K:Kind α) (a b:List α):K.all (a++b)=K.all a++K.all b:=by simp [Kind.all]
theorem Kind.Iw (K:Kind α) (l:List α) (k:Nat):K.all (l.take k)=(K.all l).take (k*K.sz):=by
 rcases Nat.lt_or_ge k l.length with h | h
 ·have e:K.all l=K.all (l.take k)++K.all (l.drop k):=by rw [<-Kind.BZ,List.take_append_drop]
  have hl:(K.all (l.take k)).length=k*K.sz:=by rw [K.Gm,Bf,Nat.min_eq_left (by omega)]
  rw [e,<-hl,List.take_left]
 ·rw [List.take_of_length_le h,List.take_of_length_le (by rw [K.Gm];exact Nat.mul_le_mul_right _ h)]
theorem Kind.Js (K:Kind α) (l:List α) (k:Nat):K.all (l.drop k)=(K.all l).drop (k*K.sz):=by
 rcases Nat.lt_or_ge k l.length with h | h
 ·have e:K.all l=K.all (l.take k)++K.all (l.drop k):=by rw [<-Kind.BZ,List.take_append_drop]
  have hl:(K.all (l.take k)).length=k*K.sz:=by rw [K.Gm,Bf,Nat.min_eq_left (by omega)]
  rw [e,<-hl,List.drop_left]
 ·rw [List.drop_eq_nil_of_le h,List.drop_eq_nil_of_le (by rw [K.Gm];exact Nat.mul_le_mul_right _ h)];rfl
def Kind.row (K:Kind α) (w:World) (base:Nat) (v:Value) (l:List α):Prop:=w.ownsRow base K.eT K.sz v l.length (K.all l)
structure BR (K:Kind α) (w:World) (b:Nat) (vb:Value) (vs:List Value) (bs:List (List α)) (n work:Nat):Prop where
 head:w.heap[b]? = some (.cells #[.bool true,vb,.int .i64 n,.int .i64 work] K.T (0,0))
 list:w.ownsRow 0 K.sT 1 vb vs.length vs
 len:vs.length=bs.length
 rows:∀(i:Nat) (v:Value) (l:List α),vs[i]? = some v->bs[i]? = some l->K.row w 0 v l
 self:b∉blk vb
 away:∀(i:Nat) (v:Value) (k:Nat),vs[i]? = some v->k∈blk v->k≠b/\k∉blk vb
 apart:∀(i j:Nat) (v u:Value) (k:Nat),vs[i]? = some v->vs[j]? = some u->k∈blk v->k∈blk u->i=j
def foot (b:Nat) (vb:Value) (vs:List Value):List Nat:=b::(blk vb++vs.flatMap blk)
theorem BR.lt {K:Kind α} {w:World} {b:Nat} {vb:Value} {vs:List Value} {bs:List (List α)} {n work:Nat} (h:BR K w b vb vs bs n work) :
 ∀k∈foot b vb vs,k<w.heap.size:=by
 intro k hk;simp only [foot,List.mem_cons,List.mem_append,List.mem_flatMap] at hk;rcases hk with rfl | hk | ⟨v,hv,hk⟩
 ·exact lt_of_block h.head
 ·exact BJ h.list k hk
 ·obtain ⟨i,hi⟩:=List.mem_iff_getElem?.1 hv
  have hl:i<vs.length:=by
   rcases Nat.lt_or_ge i vs.length with h' | h'
   ·exact h'
   ·rw [List.getElem?_eq_none h'] at hi;cases hi
  have:=h.rows i v (bs[i]'(by rw [<-h.len];exact hl)) hi (by simp);exact BJ this k hk
theorem BR.upd {K:Kind α} {w w':World} {b:Nat} {vb:Value} {vs:List Value} {bs:List (List α)} {n work:Nat} (h:BR K w b vb vs bs n work)
 {F:List Nat} (hu:Bj F w w') (hd:∀k∈foot b vb vs,k∉F):BR K w' b vb vs bs n work where
 head:=by rw [hu.block b (lt_of_block h.head) (hd b (by simp [foot]))];exact h.head
 list:=Bl h.list hu λk hk=>hd k (by simp [foot,hk])
 len:=h.len
 rows:=λi v l hv hl=>Bl (h.rows i v l hv hl) hu λk hk=>hd k (by
  simp only [foot,List.mem_cons,List.mem_append,List.mem_flatMap];exact .inr (.inr ⟨v,List.mem_of_getElem? hv,hk⟩))
 self:=h.self
 away:=h.away
 apart:=h.apart
theorem BR.cell {K:Kind α} {w:World} {b:Nat} {vb:Value} {vs:List Value} {bs:List (List α)} {n work:Nat} (h:BR K w b vb vs bs n work) :
 w.cell? ⟨b,0,none⟩=some (.bool true)/\w.cell? ⟨b,1,none⟩=some vb/\w.cell? ⟨b,2,none⟩=some (.int .i64 n)/\w.cell? ⟨b,3,none⟩=some (.int .i64 work)/\
  (∀j,w.frozen? ⟨b,j,none⟩=false):=by
 have:=h.head;refine ⟨?_,?_,?_,?_,?_⟩<;>simp [World.cell?,World.frozen?,this]
theorem BR.at {K:Kind α} {w:World} {b:Nat} {A:Option Addr} {N C:Nat} {vs:List Value} {bs:List (List α)} {n work:Nat} (h0:BR K w b (.slice A N C) vs bs n work)
 {k:Nat} (hk:k<vs.length):∃(g:Nat) (Ak:Option Addr) (Ck:Nat) (l:List α),A=some ⟨g,0,none⟩/\bs[k]? = some l/\vs[k]? = some (.slice Ak l.length Ck)/\
  w.cell? ⟨g,k,none⟩=some (.slice Ak l.length Ck)/\w.frozen? ⟨g,k,none⟩=false/\g≠b/\K.row w 0 (.slice Ak l.length Ck) l:=by
 have hN:N=vs.length:=by
  obtain ⟨g,cap,hA,_,_⟩:=h0.list.form (by omega)
  cases hA;rfl
 have h:BR K w b (.slice A vs.length C) vs bs n work:=by rw [<-hN];rw [hN] at h0 |-;exact h0
 have hl:bs[k]? = some (bs[k]'(by rw [<-h.len];exact hk)):=by simp
 have hv:vs[k]? = some vs[k]:=by simp
 obtain ⟨Ak,Ck,he⟩:=BD (h.rows k _ _ hv hl);obtain ⟨g,cap,hA,_,_⟩:=h.list.form (by omega)
 cases hA
 refine ⟨g,Ak,Ck,_,rfl,hl,by rw [hv,he],?_,World.ownsRow.frozenAt h.list k,?_,by rw [<-he];exact h.rows k _ _ hv hl⟩
 ·rw [World.ownsRow.cellAt h.list k (by omega),hv,he]
 ·intro e;subst e;exact h.self (by simp [blk])
theorem BI {b:Nat} {vb:Value} {vs:List Value} {k:Nat}:k∈foot b vb vs↔k=b\/k∈blk vb\/∃(i:Nat) (v:Value),vs[i]? = some v/\k∈blk v:=by
 simp only [foot,List.mem_cons,List.mem_append,List.mem_flatMap];constructor
 ·rintro (h | h | ⟨v,hv,hk⟩)
  ·exact .inl h
  ·exact .inr (.inl h)
  ·obtain ⟨i,hi⟩:=List.mem_iff_getElem?.1 hv;exact .inr (.inr ⟨i,v,hi,hk⟩)
 ·rintro (h | h | ⟨i,v,hv,hk⟩)
  ·exact .inl h
  ·exact .inr (.inl h)
  ·exact .inr (.inr ⟨v,List.mem_of_getElem? hv,hk⟩)
theorem heap_set {w:World} {b:Nat} {cs:Array Value} {t:TypeId} (h:w.heap[b]? = some (.cells cs t (0,0))) (i:Nat) (u:Value) :
 (w.setCell ⟨b,i,none⟩ u).heap[b]? = some (.cells (cs.setIfInBounds i u) t (0,0)):=heap_setCell_same w b i cs t u h
theorem BG {w:World} {base:Nat} {e:TypeId} {size:Nat} {v:Value} {n:Nat} {xs:List Value} (h:w.ownsRow base e size v n xs) {p:Addr} (hp:p.block∉blk v) (u:Value) :
 (w.setCell p u).ownsRow base e size v n xs:=
 Ez h λk hk=>Below.heap_setCell _ _ _ _ (λe=>hp (by rw [<-e];exact hk))
theorem BR.snoc {K:Kind α} {w w1:World} {b:Nat} {vb:Value} {vs:List Value} {bs:List (List α)} {n work:Nat} (h:BR K w b vb vs bs n work)
 {A:Option Addr} {C:Nat} (hown:w1.ownsRow 0 K.sT 1 (.slice A (vs.length+1) C) (vs.length+1) (vs++[.slice none 0 0])) (hu:Bj (blk vb) w w1)
 (hb:blk (.slice A (vs.length+1) C)=blk vb\/∃k,blk (.slice A (vs.length+1) C) = [k]/\w.heap.size<=k) :
 BR K (w1.setCell ⟨b,1,none⟩ (.slice A (vs.length+1) C)) b (.slice A (vs.length+1) C) (vs++[.slice none 0 0]) (bs++[[]]) n work:=by
 have hnew:∀k,k∈blk (.slice A (vs.length+1) C)->k<w.heap.size->k∈blk vb:=by
  intro k hk hlt;rcases hb with hb | ⟨k',hb,hge⟩
  ·rw [<-hb];exact hk
  ·rw [hb] at hk;simp at hk;omega
 have hself:b∉blk (.slice A (vs.length+1) C):=λhk=>h.self (hnew b hk (lt_of_block h.head))
 have hrow:∀(i:Nat) (v:Value) (k:Nat),vs[i]? = some v->k∈blk v->k<w.heap.size:=λi v k hv hk=>h.lt k (BI.2 (.inr (.inr ⟨i,v,hv,hk⟩)))
 have hget:∀(i:Nat) (v:Value),(vs++[.slice none 0 0])[i]? = some v->vs[i]? = some v\/v=.slice none 0 0:=by
  intro i v hv;rw [List.getElem?_append] at hv;split at hv
  ·exact .inl hv
  ·right
   have:i - vs.length=0:=by
    rcases Nat.eq_zero_or_pos (i - vs.length) with h' | h'
    ·exact h'
    ·rw [List.getElem?_eq_none (by simp;omega)] at hv;cases hv
   rw [this] at hv;simpa using hv.symm
 refine ⟨?_,?_,by simp [h.len],?_,hself,?_,?_⟩
 ·have:=hu.block b (lt_of_block h.head) h.self;exact heap_set (this.trans h.head) 1 _
 ·have:=BG hown (p:=⟨b,1,none⟩) hself (.slice A (vs.length+1) C);simpa using this
 ·intro i v l hv hl;rw [List.getElem?_append] at hv hl;rw [<-h.len] at hl;split at hv
  ·rename_i hi
   rw [if_pos hi] at hl;have h1:=Bl (h.rows i v l hv hl) hu λk hk=>(h.away i v k hv hk).2
   exact BG h1 (λhk=>(h.away i v b hv hk).1 rfl) _
  ·rename_i hi
   rw [if_neg hi] at hl
   have hz:i - vs.length=0:=by
    rcases Nat.eq_zero_or_pos (i - vs.length) with h' | h'
    ·exact h'
    ·rw [List.getElem?_eq_none (by simp;omega)] at hv;cases hv
   rw [hz] at hv hl;simp at hv hl;subst hv hl;exact World.ownsRow_nil _ _ _ _
 ·intro i v k hv hk;rcases hget i v hv with hv | rfl
  ·exact ⟨(h.away i v k hv hk).1,λhc=>(h.away i v k hv hk).2 (hnew k hc (hrow i v k hv hk))⟩
  ·simp [blk] at hk
 ·intro i j v u k hv hu' hk hk';rcases hget i v hv with hv | rfl
  ·rcases hget j u hu' with hu' | rfl
   ·exact h.apart i j v u k hv hu' hk hk'
   ·simp [blk] at hk'
  ·simp [blk] at hk
theorem BR.put {K:Kind α} {w:World} {b:Nat} {g:Nat} {vs:List Value} {C:Nat} {bs:List (List α)} {n work:Nat} (h:BR K w b (.slice (some ⟨g,0,none⟩) vs.length C) vs bs n work)
 (i:Nat) (v:Value) (l:List α) (hrow:K.row w 0 v l) (hap:∀k∈blk v,k∉foot b (.slice (some ⟨g,0,none⟩) vs.length C) vs) :
 BR K (w.setCell ⟨g,i,none⟩ v) b (.slice (some ⟨g,0,none⟩) vs.length C) (vs.set i v) (bs.set i l) n work:=by
 have hgb:g≠b:=λe=>h.self (by simp [blk,e])
 have hget:∀(j:Nat) (u:Value),(vs.set i v)[j]? = some u->(i=j/\u=v)\/(i≠j/\vs[j]? = some u):=by
  intro j u hu;rw [List.getElem?_set] at hu;split at hu
  ·rename_i he
   split at hu
   ·simp at hu;exact .inl ⟨he,hu.symm⟩
   ·cases hu
  ·rename_i he
   exact .inr ⟨he,hu⟩
 refine ⟨?_,?_,by simp [h.len],?_,h.self,?_,?_⟩
 ·rw [Below.heap_setCell _ _ _ _ (by simpa using Ne.symm hgb)];exact h.head
 ·have:=(World.ownsRow.stored h.list i v).1;rw [show (vs.set i v).length=vs.length from by simp];exact this
 ·intro j u m hu hm;rcases hget j u hu with ⟨rfl,rfl⟩ | ⟨hne,hu⟩
  ·rw [List.getElem?_set] at hm;simp only [if_true] at hm;split at hm
   ·simp at hm;subst hm;exact BG hrow (λhk=>hap g hk (BI.2 (.inr (.inl (by simp [blk]))))) _
   ·cases hm
  ·rw [List.getElem?_set_ne hne] at hm;exact BG (h.rows j u m hu hm) (λhk=>(h.away j u g hu hk).2 (by simp [blk])) _
 ·intro j u k hu hk;rcases hget j u hu with ⟨rfl,rfl⟩ | ⟨hne,hu⟩
  ·have:=hap k hk;rw [BI] at this;exact ⟨λe=>this (.inl e),λe=>this (.inr (.inl e))⟩
  ·exact h.away j u k hu hk
 ·intro j m u t k hu ht hk hk';rcases hget j u hu with ⟨e1,e2⟩ | ⟨hne,hu2⟩
  ·rcases hget m t ht with ⟨e3,e4⟩ | ⟨hne',ht2⟩
   ·rw [<-e1,<-e3]
   ·rw [e2] at hk;exact (hap k hk (BI.2 (.inr (.inr ⟨m,t,ht2,hk'⟩)))).elim
  ·rcases hget m t ht with ⟨e3,e4⟩ | ⟨hne',ht2⟩
   ·rw [e4] at hk';exact (hap k hk' (BI.2 (.inr (.inr ⟨j,u,hu2,hk⟩)))).elim
   ·exact h.apart j m u t k hu2 ht2 hk hk'
theorem BR.count {K:Kind α} {w:World} {b:Nat} {vb:Value} {vs:List Value} {bs:List (List α)} {n work:Nat} (h:BR K w b vb vs bs n work) (n':Nat) :
 BR K (w.setCell ⟨b,2,none⟩ (.int .i64 n')) b vb vs bs n' work:=
 ⟨heap_set h.head 2 _,BG h.list h.self _,h.len,λi v l hv hl=>BG (h.rows i v l hv hl) (λhk=>(h.away i v b hv hk).1 rfl) _,h.self,h.away,h.apart⟩
theorem BR.worked {K:Kind α} {w:World} {b:Nat} {vb:Value} {vs:List Value} {bs:List (List α)} {n work:Nat} (h:BR K w b vb vs bs n work) (k':Nat) :
 BR K (w.setCell ⟨b,3,none⟩ (.int .i64 k')) b vb vs bs n k':=
 ⟨heap_set h.head 3 _,BG h.list h.self _,h.len,λi v l hv hl=>BG (h.rows i v l hv hl) (λhk=>(h.away i v b hv hk).1 rfl) _,h.self,h.away,h.apart⟩
def Gn (K:Kind α) (w0 wr:World) (F:List Nat) (b:Nat) (bs:List (List α)) (n work i m:Nat) (all:Value):Prop:=
 ∃vb vs,BR K wr b vb vs (bs.take m++List.replicate (i - m) []++bs.drop i) n work/\K.row wr 0 all ((bs.take i).drop m).reverse.flatten/\
  (∀k∈blk all,w0.heap.size<=k/\k∉foot b vb vs)/\Bj F w0 wr/\(∀k∈foot b vb vs,k∈F\/w0.heap.size<=k)/\m<=i/\i<bs.length/\w0.heap.size<=wr.heap.size
theorem Gn.start {K:Kind α} {w0 wr:World} {F:List Nat} {b:Nat} {vb:Value} {vs:List Value} {bs:List (List α)} {n work i:Nat} (h:BR K wr b vb vs bs n work)
 (hu:Bj F w0 wr) (hF:∀k∈foot b vb vs,k∈F\/w0.heap.size<=k) (hi:i<bs.length):Gn K w0 wr F b bs n work i i (.slice none 0 0):=by
 refine ⟨vb,vs,by simpa using h,?_,by simp [blk],hu,hF,Nat.le_refl _,hi,hu.size⟩
 rw [List.drop_eq_nil_of_le (by simp;omega)];exact World.ownsRow_nil _ _ _ _
theorem Gn.step {K:Kind α} {w0 wr w1:World} {F:List Nat} {b g:Nat} {C:Nat} {vs:List Value} {bs:List (List α)} {n work i m:Nat} {all all':Value}
 (h:BR K wr b (.slice (some ⟨g,0,none⟩) vs.length C) vs (bs.take (m+1)++List.replicate (i - (m+1)) []++bs.drop i) n work)
 (ha:∀k∈blk all,w0.heap.size<=k/\k∉foot b (.slice (some ⟨g,0,none⟩) vs.length C) vs) (hu:Bj F w0 wr)
 (hF:∀k∈foot b (.slice (some ⟨g,0,none⟩) vs.length C) vs,k∈F\/w0.heap.size<=k) (hm:m+1<=i) (hi:i<bs.length) (hsz:w0.heap.size<=wr.heap.size)
 {l:List α} (hl:bs[m]? = some l) (hown:K.row w1 0 all' (((bs.take i).drop (m+1)).reverse.flatten++l)) (hg:wr.grownBy w1 all.ownBlock)
 (hb:blk all'=blk all\/blk all' = [wr.heap.size]) :
 Gn K w0 (w1.setCell ⟨g,m,none⟩ (.slice none 0 0)) F b bs n work i m all':=by
 have hlt:=h.lt
 have hrow:∀k,all.ownBlock=some k->k∈blk all:=by
  intro k hk
  cases all<;>simp [Value.ownBlock] at hk
  rename_i a _ _
  cases a<;>simp at hk
  simp [blk,hk]
 have hup:Bj (blk all) wr w1:=(Bj.refl _ _).grown hg λk hk=>.inl (hrow k hk)
 have h1:=h.upd hup λk hk hc=>(ha k hc).2 hk
 have ha':∀k∈blk all',w0.heap.size<=k/\k∉foot b (.slice (some ⟨g,0,none⟩) vs.length C) vs:=by
  intro k hk;rcases hb with hb | hb
  ·rw [hb] at hk;exact ha k hk
  ·rw [hb] at hk;simp at hk;subst hk;exact ⟨hsz,λhc=>by have:=hlt _ hc;omega⟩
 have hp:=h1.put m (.slice none 0 0) [] (World.ownsRow_nil _ _ _ _) (by simp [blk])
 have hbs:(bs.take (m+1)++List.replicate (i - (m+1)) []++bs.drop i).set m []=bs.take m++List.replicate (i - m) []++bs.drop i:=by
  rw [List.append_assoc,List.set_append_left _ _ (by simp;omega),List.append_assoc];rw [show bs.take (m+1)=bs.take m++[bs[m]'(by omega)] from by rw [Bd (by omega)]];rw [List.set_append_right _ _ (by simp;omega)];simp only [Bf,Nat.min_eq_left (show m<=bs.length by omega),Nat.sub_self,List.set_cons_zero,List.append_assoc];congr 1
  rw [show i - m=(i - (m+1))+1 from by omega,List.replicate_succ];rfl
 rw [hbs] at hp;have hgF:g∈F\/w0.heap.size<=g:=hF g (BI.2 (.inr (.inl (by simp [blk]))))
 have hset:∀k,k∈foot b (.slice (some ⟨g,0,none⟩) vs.length C) (vs.set m (.slice none 0 0))->k∈foot b (.slice (some ⟨g,0,none⟩) vs.length C) vs:=by
  intro k hk;rw [BI] at hk |-;rcases hk with hk | hk | ⟨j,v,hv,hk⟩
  ·exact .inl hk
  ·exact .inr (.inl hk)
  ·rw [List.getElem?_set] at hv;split at hv
   ·split at hv
    ·simp at hv;subst hv;simp [blk] at hk
    ·cases hv
   ·exact .inr (.inr ⟨j,v,hv,hk⟩)
 refine ⟨_,vs.set m (.slice none 0 0),hp,?_,?_,?_,?_,by omega,hi,by simp [World.setCell];exact Bh hsz hup.size⟩
 ·have e:=PV bs i m l (by omega) hl;rw [e];exact BG hown (λhk=>(ha' g hk).2 (BI.2 (.inr (.inl (by simp [blk]))))) _
 ·intro k hk;exact ⟨(ha' k hk).1,λhc=>(ha' k hk).2 (hset k hc)⟩
 ·exact (hu.trans' hup λk hk=>.inr (ha k hk).1).setCell hgF _
 ·intro k hk;exact hF k (hset k hk)
theorem Gn.fill {K:Kind α} {w0 wr w2:World} {F:List Nat} {b g:Nat} {C:Nat} {vs:List Value} {bs bs':List (List α)} {n work i:Nat} {x:α} {L:List α} {v:Value} (hfi:Bv bs=i)
 (h:BR K wr b (.slice (some ⟨g,0,none⟩) vs.length C) vs (bs'.take 0++List.replicate (i - 0) []++bs'.drop i) n work) (hib:i<bs'.length)
 (hd:bs'.drop (i+1)=bs.drop (i+1)) (hL:L=(bs.take i).reverse.flatten)
 {G:List Nat} (hu2:Bj G wr w2) (hG:∀k∈G,w0.heap.size<=k/\k∉foot b (.slice (some ⟨g,0,none⟩) vs.length C) vs)
 (hu:Bj F w0 wr) (hF:∀k∈foot b (.slice (some ⟨g,0,none⟩) vs.length C) vs,k∈F\/w0.heap.size<=k)
 (hown:K.row w2 0 v (L++[x])) (hv:∀k∈blk v,w0.heap.size<=k/\k∉foot b (.slice (some ⟨g,0,none⟩) vs.length C) vs) :
 BR K (w2.setCell ⟨g,i,none⟩ v) b (.slice (some ⟨g,0,none⟩) vs.length C) (vs.set i v) (Nu bs x) n work/\Bj F w0 (w2.setCell ⟨g,i,none⟩ v)/\
  (∀k∈foot b (.slice (some ⟨g,0,none⟩) vs.length C) (vs.set i v),k∈F\/w0.heap.size<=k)/\Ec bs x=L++[x]:=by
 have h2:=h.upd hu2 λk hk hc=>(hG k hc).2 hk
 have h3:=h2.put i v (L++[x]) hown λk hk=>(hv k hk).2
 have hgx:Ec bs x=L++[x]:=by unfold Ec;rw [hfi,<-hL]
 have hbs:(bs'.take 0++List.replicate (i - 0) []++bs'.drop i).set i (L++[x])=Nu bs x:=by
  unfold Nu;rw [hfi,hgx,List.drop_eq_getElem_cons hib,hd];simp only [List.take_zero,List.nil_append,Nat.sub_zero];rw [List.set_append_right _ _ (by simp)];simp
 rw [hbs] at h3;refine ⟨h3,(hu.trans' hu2 λk hk=>.inr (hG k hk).1).setCell (p:=⟨g,i,none⟩) (hF g (BI.2 (.inr (.inl (by simp [blk]))))) _,?_,hgx⟩
 intro k hk;rw [BI] at hk;rcases hk with hk | hk | ⟨j,u,hu',hk⟩
 ·exact hF k (BI.2 (.inl hk))
 ·exact hF k (BI.2 (.inr (.inl hk)))
 ·rw [List.getElem?_set] at hu';split at hu'
  ·split at hu'
   ·simp at hu';subst hu';exact .inr (hv k hk).1
   ·cases hu'
  ·exact hF k (BI.2 (.inr (.inr ⟨j,u,hu',hk⟩)))
theorem RG (bs:List (List α)) (x:α):(Nu bs x)[Bv bs]? = some (Ec bs x):=by
 unfold Nu;rw [List.getElem?_append_right (by simp)];simp
theorem BR.drew {K:Kind α} {w:World} {b:Nat} {vb:Value} {vs:List Value} {bs:List (List α)} {n work:Nat} (h:BR K w b vb vs bs n work):BR K w.drew b vb vs bs n work:=
 ⟨h.head,h.list,h.len,h.rows,h.self,h.away,h.apart⟩
theorem BR.reset {K:Kind α} {w:World} {b:Nat} {vb:Value} {vs:List Value} {bs:List (List α)} {n work:Nat} (h:BR K w b vb vs bs n work) :
 BR K (w.setCell ⟨b,1,none⟩ (.slice none 0 0)) b (.slice none 0 0) [] [] n work:=
 ⟨heap_set h.head 1 _,World.ownsRow_nil _ _ _ _,rfl,by simp,by simp [blk],by simp,by simp⟩
def Dc (K:Kind α) (w:World) (b:Nat) (F:List Nat) (bs:List (List α)) (n work:Nat):Prop:=
 ∃vb vs,BR K w b vb vs bs n work/\F=foot b vb vs
theorem Dc.lt {K:Kind α} {w:World} {b:Nat} {F:List Nat} {bs:List (List α)} {n work:Nat} (h:Dc K w b F bs n work):∀k∈F,k<w.heap.size:=by
 obtain ⟨vb,vs,h,rfl⟩:=h;exact h.lt
theorem Dc.upd {K:Kind α} {w w':World} {b:Nat} {F:List Nat} {bs:List (List α)} {n work:Nat} (h:Dc K w b F bs n work)
 {G:List Nat} (hu:Bj G w w') (hd:∀k∈F,k∉G):Dc K w' b F bs n work:=by
 obtain ⟨vb,vs,h,rfl⟩:=h;exact ⟨vb,vs,h.upd hu hd,rfl⟩
def Ci (K:Kind α) (w w':World) (b:Nat) (F:List Nat) (bs:List (List α)) (n work:Nat):Prop:=
 ∃F',Dc K w' b F' bs n work/\Bj F w w'/\∀k∈F',k∈F\/w.heap.size<=k
def Vp (K:Kind α) (w w':World) (b:Nat) (F:List Nat) (bs:List (List α)) (n work:Nat) (v:Value) (l:List α):Prop:=
 ∃F',Dc K w' b F' bs n work/\Bj F w w'/\(∀k∈F',k∈F\/w.heap.size<=k)/\K.row w' w.heap.size v l/\∀k∈blk v,k∉F'
theorem Ci.mk {K:Kind α} {w w':World} {b:Nat} {F:List Nat} {vb:Value} {vs:List Value} {bs:List (List α)} {n work:Nat} (h:BR K w' b vb vs bs n work) (hu:Bj F w w')
 (hF:∀k∈foot b vb vs,k∈F\/w.heap.size<=k):Ci K w w' b F bs n work:=⟨_,⟨vb,vs,h,rfl⟩,hu,hF⟩
theorem Ci.out {K:Kind α} {w w':World} {b:Nat} {F:List Nat} {bs:List (List α)} {n work:Nat} (h:Ci K w w' b F bs n work) :
 ∃vb vs,BR K w' b vb vs bs n work/\Bj F w w'/\∀k∈foot b vb vs,k∈F\/w.heap.size<=k:=by
 obtain ⟨F',⟨vb,vs,h,rfl⟩,hu,hF⟩:=h;exact ⟨vb,vs,h,hu,hF⟩
theorem Ci.snoc {K:Kind α} {w wr w1:World} {b:Nat} {F:List Nat} {vb:Value} {vs:List Value} {bs:List (List α)} {n work:Nat} (h:BR K wr b vb vs bs n work) (hu:Bj F w wr)
 (hF:∀k∈foot b vb vs,k∈F\/w.heap.size<=k) {o:Obj} {A:Option Addr} {C:Nat} (HP:DK (wr.alloc o) w1 0 K.sT 1 vb vs.length vs 1 [.slice none 0 0] A C) :
 Ci K w (w1.setCell ⟨b,1,none⟩ (.slice A (vs.length+1) C)) b F (bs++[[]]) n work:=by
 have hup:Bj (blk vb) wr w1:=((Bj.refl _ _).alloc _).trans HP.upd;have hs:=h.snoc HP.own hup (by rcases HP.at with h' | h';exact .inl h';exact .inr ⟨_,h',by simp⟩);refine .mk hs ?_ ?_
 ·exact (hu.trans' hup λk hk=>hF k (BI.2 (.inr (.inl hk)))).setCell (p:=⟨b,1,none⟩) (hF b (BI.2 (.inl rfl))) _
 ·intro k hk;rw [BI] at hk;rcases hk with rfl | hk | ⟨j,v,hv,hk⟩
  ·exact hF _ (BI.2 (.inl rfl))
  ·rcases HP.at with h' | h'
   ·rw [h'] at hk;exact hF k (BI.2 (.inr (.inl hk)))
   ·rw [h'] at hk;simp at hk;have:=hu.size;right;omega
  ·rw [List.getElem?_append] at hv;split at hv
   ·exact hF k (BI.2 (.inr (.inr ⟨j,v,hv,hk⟩)))
   ·have:v=.slice none 0 0:=by
     have:=List.mem_of_getElem? hv;simpa using this
    subst this;simp [blk] at hk
theorem Ci.put {K:Kind α} {w wr w1:World} {b g:Nat} {F:List Nat} {N C:Nat} {vs:List Value} {bs:List (List α)} {n work:Nat} (h:BR K wr b (.slice (some ⟨g,0,none⟩) N C) vs bs n work) (hN:N=vs.length) (hu:Bj F w wr)
 (hF:∀k∈foot b (.slice (some ⟨g,0,none⟩) N C) vs,k∈F\/w.heap.size<=k) (hb:Bj [] wr w1) (i:Nat) {v:Value} {l:List α} (hrow:K.row w1 0 v l) (hv:∀k∈blk v,wr.heap.size<=k) :
 Ci K w (w1.setCell ⟨g,i,none⟩ v) b F (bs.set i l) n work:=by
 subst hN;have h1:=h.upd hb (by simp);have h2:=h1.put i v l hrow λk hk hc=>by have:=h.lt k hc;have:=hv k hk;omega
 refine .mk h2 ((hu.trans' hb (by simp)).setCell (p:=⟨g,i,none⟩) (hF g (BI.2 (.inr (.inl (by simp [blk]))))) _) ?_
 intro k hk;rw [BI] at hk;rcases hk with hk | hk | ⟨j,u,hu',hk⟩
 ·exact hF k (BI.2 (.inl hk))
 ·exact hF k (BI.2 (.inr (.inl hk)))
 ·rw [List.getElem?_set] at hu';split at hu'
  ·split at hu'
   ·simp at hu';subst hu';have:=hv k hk;have:=hu.size;right;omega
   ·cases hu'
  ·exact hF k (BI.2 (.inr (.inr ⟨j,u,hu',hk⟩)))
