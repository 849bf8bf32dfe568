/- A slice of structs that came in, as the form of the statements tells it: what it is seen to have. A slice of structs of any fields that came in: what it is seen to have, row by row. -/
import Derived.Deep.Slices
import Derived.Deep.Fields
import Derived.ChangeSame
import Derived.Test.YtkbaaonchdeneaaGreatPkSpansTellP1
namespace Go.Proofs.YtkbaaonchdeneaaGreat
open Go.ChangeShapes Go.WideShapes Go.Deep Go.RowKit
section
variable {H:Type} {enc:TypeId×Value→H} {P:Program} {w:World} {base:Nat} {spare:Nat→Bool} {held:Bool}
theorem open_fields {t e:TypeId} {fs:Array Field} {fuel:Nat} {cs:List Value} {x:DataW H×List MemPlace} (ht:P.underlying t=some (.slice e)) (he:P.underlying e=some (.struct fs))
 (hone:oneCellFields P fs=true) (hC:P.cellsOf e=fs.size) (h:DataW.trod enc P w base spare held fuel t cs=some x) :
 cs = [.slice none 0 0]∨
 ∃(a:Addr) (len cap m:Nat),cs = [.slice (some a) len cap]∧len≤cap∧cap≤maxLen∧m=(if spare a.block then cap else len)∧
  ∀i,i<m→∀(j:Nat) (f:Field),fs[j]? = some f→∃(v:Value) (y:DataW H×List MemPlace) (n:Nat),w.cell? (a.add (i*fs.size+j))=some v∧DataW.trod enc P w base spare held n f.type [v]=some y:=by
 rcases open_slice ht h with h0 | ⟨a,len,cap,m,n,D,Pl,hcs,hb,hl,hm,hmm,hx,hi⟩
 ·exact .inl h0.1
 ·refine .inr ⟨a,len,cap,m,hcs,hl,hm,hmm,fun i him j f hj=>?_⟩
  obtain ⟨cs',hc,ht'⟩:=hi i him
  rw [hC] at hc
  obtain ⟨ys,n',hn',hy,hlen,hyl,hf⟩:=DataW.trod_struct he ht'
  obtain ⟨_,hcl,hat⟩:=World.cells?_some hc
  obtain ⟨ho,hk⟩:=hone_of hone j f hj
  have hjl:j<fs.size:=(Array.getElem?_eq_some_iff.1 hj).1
  have hcell:=hat j hjl
  have hv:cs'[j]? = some (cs'[j]'(by omega)):=List.getElem?_eq_getElem (by omega)
  have h1:=hf j f hj
  rw [ho,hk] at h1
  have hone':(cs'.drop j).take 1 = [cs'[j]'(by omega)]:=by
   rw [List.drop_eq_getElem_cons (by omega)]
   rfl
  rw [hone'] at h1
  have hys:ys[j]? = some (ys[j]'(by omega)):=List.getElem?_eq_getElem (by omega)
  refine ⟨_,_,n',?_,h1.trans hys⟩
  rw [←Go.Deep.add_add,hcell,hv]
theorem spot_none {a:Addr} {u:Value} (h:w.cell? (a.add 0)=some u):a.spot=none:=by
 unfold Addr.add at h
 rw [if_pos rfl] at h
 unfold World.cell? at h
 cases hs:a.spot with
 |none=>rfl
 |some q=>rw [hs] at h;simp at h;split at h<;>simp_all
def SeesRows (w:World) (size:Nat) (v:Value) (rows:List (List Value)):Prop:=(∀r∈rows,r.length=size)∧Sees w size v rows.length rows.flatten
theorem flat_len {rows:List (List Value)} {size:Nat} (h:∀r∈rows,r.length=size):rows.flatten.length=rows.length*size:=by
 induction rows with
 |nil=>simp
 |cons a rows ih=>
  rw [List.flatten_cons,List.length_append,ih (fun r hr=>h r (by simp [hr])),h a (by simp),List.length_cons,Nat.add_mul,Nat.one_mul,Nat.add_comm]
theorem flat_get {rows:List (List Value)} {size:Nat} (hsz:0<size) (h:∀r∈rows,r.length=size):∀(j:Nat) (u:Value),rows.flatten[j]? = some u→∃r,rows[j / size]? = some r∧r[j % size]? = some u:=by
 induction rows with
 |nil=>intro j u hu;simp at hu
 |cons a rows ih=>
  intro j u hu
  have ha:=h a (by simp)
  rw [List.flatten_cons] at hu
  rcases Nat.lt_or_ge j size with hj | hj
  ·rw [List.getElem?_append_left (by omega)] at hu
   rw [Nat.div_eq_of_lt hj,Nat.mod_eq_of_lt hj]
   exact ⟨a,rfl,hu⟩
  ·rw [List.getElem?_append_right (by omega),ha] at hu
   obtain ⟨r,h1,h2⟩:=ih (fun r hr=>h r (by simp [hr])) _ _ hu
   have e1:j / size=(j - size) / size+1:=by rw [Nat.div_eq_sub_div hsz hj]
   have e2:j % size=(j - size) % size:=by rw [Nat.mod_eq_sub_mod hj]
   rw [e1,e2]
   exact ⟨r,by simpa using h1,h2⟩
theorem structs_of_arg {t e:TypeId} {fs:Array Field} {fuel:Nat} {v:Value} {x:DataW H×List MemPlace} (ht:P.underlying t=some (.slice e)) (he:P.underlying e=some (.struct fs))
 (hone:oneCellFields P fs=true) (hC:P.cellsOf e=fs.size) (hsz:0<fs.size) (hsp:∀b,spare b=true) (h:DataW.trod enc P w base spare held fuel t [v]=some x) :
 ∃rows:List (List Value),SeesRows w fs.size v rows∧rows.length≤maxLen∧∀(i:Nat) (r:List Value),rows[i]? = some r→∀(j:Nat) (f:Field),fs[j]? = some f→∃(u:Value) (y:DataW H×List MemPlace) (n:Nat),r[j]? = some u∧DataW.trod enc P w base spare held n f.type [u]=some y:=by
 rcases open_fields ht he hone hC h with h0 | ⟨a,len,cap,m,h0,hl,hm,hmm,hi⟩
 ·injection h0 with h0 _
  subst h0
  exact ⟨[],⟨by simp,by simp,.inl ⟨rfl,rfl⟩⟩,Nat.zero_le _,by simp⟩
 ·injection h0 with h0 _
  subst h0
  rw [hsp,if_pos rfl] at hmm
  subst hmm
  have hcell:∀i,i<m→∀j,j<fs.size→∃u,w.cell? (a.add (i*fs.size+j))=some u:=fun i h1 j h2=>by
   obtain ⟨u,_,_,hu,_⟩:=hi i h1 j _ (Array.getElem?_eq_getElem h2)
   exact ⟨u,hu⟩
  have hspot:0<m→a.spot=none:=fun h0=>by
   obtain ⟨u,hu⟩:=hcell 0 h0 0 hsz
   exact spot_none (by simpa using hu)
  refine ⟨(List.range len).map fun i=>(List.range fs.size).map fun j=>(w.cell? (a.add (i*fs.size+j))).getD undef,⟨?_,?_,?_⟩,?_,?_⟩
  ·intro r hr
   obtain ⟨i,_,rfl⟩:=List.mem_map.1 hr
   simp
  ·rw [flat_len (size:=fs.size) (by intro r hr;obtain ⟨i,_,rfl⟩:=List.mem_map.1 hr;simp)]
  ·refine .inr ⟨a.block,a.off,a.spot,m,by simp,hspot,by simpa using hl,hm,fun j u hu=>?_⟩
   obtain ⟨r,h1,h2⟩:=flat_get hsz (by intro r hr;obtain ⟨i,_,rfl⟩:=List.mem_map.1 hr;simp) j u hu
   rw [List.getElem?_map] at h1
   obtain ⟨i,h3,h4⟩:=Option.map_eq_some_iff.1 h1
   have h5:=List.getElem?_eq_some_iff.1 h3
   obtain ⟨h6,h7⟩:=h5
   rw [List.getElem_range] at h7
   subst h4
   rw [List.getElem?_map] at h2
   obtain ⟨k,h8,h9⟩:=Option.map_eq_some_iff.1 h2
   obtain ⟨h10,h11⟩:=List.getElem?_eq_some_iff.1 h8
   rw [List.getElem_range] at h11
   rw [List.length_range] at h6 h10
   subst h7 h11
   obtain ⟨u',hu'⟩:=hcell (j / fs.size) (Nat.lt_of_lt_of_le h6 hl) (j % fs.size) h10
   have e:j / fs.size*fs.size+j % fs.size=j:=Nat.div_add_mod' j fs.size
   rw [e] at hu' h9
   rw [hu'] at h9
   simp at h9
   subst h9
   have hs:=hspot (Nat.lt_of_le_of_lt (Nat.zero_le _) (Nat.lt_of_lt_of_le h6 hl))
   obtain ⟨b,o,s⟩:=a
   simp only at hs
   subst hs
   rw [addr_add] at hu'
   exact hu'
  ·simp;omega
  ·intro i r hr j f hj
   rw [List.getElem?_map] at hr
   obtain ⟨i',h3,h4⟩:=Option.map_eq_some_iff.1 hr
   obtain ⟨h6,h7⟩:=List.getElem?_eq_some_iff.1 h3
   rw [List.getElem_range] at h7
   rw [List.length_range] at h6
   subst h7 h4
   obtain ⟨u,y,n,h8,h9⟩:=hi i (by omega) j f hj
   have hjl:j<fs.size:=(Array.getElem?_eq_some_iff.1 hj).1
   refine ⟨u,y,n,?_,h9⟩
   rw [List.getElem?_map,List.getElem?_range hjl]
   simp [h8]
end
end Go.Proofs.YtkbaaonchdeneaaGreat
namespace Go.Proofs.YtkbaaonchdeneaaGreat
open Go.ChangeShapes Go.WideShapes Go.Deep Go.RowKit
section
variable {H:Type} {enc:TypeId×Value→H} {P:Program} {w:World} {base:Nat} {spare:Nat→Bool} {held:Bool}
theorem rows_of_arg {t e:TypeId} {size fuel:Nat} {v:Value} {x:DataW H×List MemPlace} (ht:P.underlying t=some (.slice e)) (hC:P.cellsOf e=size) (hsz:0<size) (hsp:∀b,spare b=true) (h:DataW.trod enc P w base spare held fuel t [v]=some x) :
 ∃rows:List (List Value),SeesRows w size v rows∧rows.length≤maxLen∧∀r∈rows,∃(n:Nat) (y:DataW H×List MemPlace),DataW.trod enc P w base spare held n e r=some y:=by
 rcases open_slice ht h with h0 | ⟨a,len,cap,m,n,D,Pl,hcs,hb,hl,hm,hmm,hx,hi⟩
 ·obtain ⟨h0,-⟩:=h0
  injection h0 with h0 _
  subst h0
  exact ⟨[],⟨by simp,by simp,.inl ⟨rfl,rfl⟩⟩,Nat.zero_le _,by simp⟩
 ·injection hcs with h0 _
  subst h0
  rw [hsp,if_pos rfl] at hmm
  subst hmm
  rw [hC] at hi
  have hrow:∀i,i<m→∃cs',cs'.length=size∧(∀j,j<size→w.cell? (a.add (i*size+j))=cs'[j]?)∧(w.cells? base (a.add (i*size)) size).getD []=cs'∧DataW.trod enc P w base spare held n e cs'=some (D i,Pl i):=fun i h1=>by
   obtain ⟨cs',h2,h3⟩:=hi i h1
   obtain ⟨_,h4,h5⟩:=World.cells?_some h2
   refine ⟨cs',h4,fun j hj=>?_,by rw [h2];rfl,h3⟩
   rw [←h5 j hj,Go.Deep.add_add]
  have hspot:0<m→a.spot=none:=fun h0=>by
   obtain ⟨cs',h1,h2,-,-⟩:=hrow 0 h0
   have h3:=h2 0 hsz
   rw [List.getElem?_eq_getElem (by omega)] at h3
   exact spot_none (by simpa using h3)
  refine ⟨(List.range len).map fun i=>(w.cells? base (a.add (i*size)) size).getD [],⟨?_,?_,?_⟩,?_,?_⟩
  ·intro r hr
   obtain ⟨i,hi2,rfl⟩:=List.mem_map.1 hr
   obtain ⟨cs',h1,-,h3,-⟩:=hrow i (by have:=List.mem_range.1 hi2;omega)
   rw [h3,h1]
  ·rw [flat_len (size:=size) (by
    intro r hr
    obtain ⟨i,hi2,rfl⟩:=List.mem_map.1 hr
    obtain ⟨cs',h1,-,h3,-⟩:=hrow i (by have:=List.mem_range.1 hi2;omega)
    rw [h3,h1])]
  ·refine .inr ⟨a.block,a.off,a.spot,m,by simp,hspot,by simpa using hl,hm,fun j u hu=>?_⟩
   obtain ⟨r,h1,h2⟩:=flat_get hsz (by
    intro r hr
    obtain ⟨i,hi2,rfl⟩:=List.mem_map.1 hr
    obtain ⟨cs',h1,-,h3,-⟩:=hrow i (by have:=List.mem_range.1 hi2;omega)
    rw [h3,h1]) j u hu
   rw [List.getElem?_map] at h1
   obtain ⟨i,h3,h4⟩:=Option.map_eq_some_iff.1 h1
   obtain ⟨h6,h7⟩:=List.getElem?_eq_some_iff.1 h3
   rw [List.getElem_range] at h7
   rw [List.length_range] at h6
   subst h7
   have h8:j / size<m:=Nat.lt_of_lt_of_le h6 hl
   obtain ⟨cs',g1,g2,g3,-⟩:=hrow (j / size) h8
   rw [g3] at h4
   subst h4
   have hjl:j % size<size:=Nat.mod_lt _ hsz
   have g4:=g2 (j % size) hjl
   have e:j / size*size+j % size=j:=Nat.div_add_mod' j size
   rw [e,h2] at g4
   have hs:=hspot (Nat.lt_of_le_of_lt (Nat.zero_le _) h8)
   obtain ⟨b,o,s⟩:=a
   simp only at hs
   subst hs
   rw [addr_add] at g4
   exact g4
  ·simp;omega
  ·intro r hr
   obtain ⟨i,hi2,rfl⟩:=List.mem_map.1 hr
   obtain ⟨cs',h1,-,h3,h4⟩:=hrow i (by have:=List.mem_range.1 hi2;omega)
   exact ⟨n,_,by rw [h3];exact h4⟩
end
end Go.Proofs.YtkbaaonchdeneaaGreat
