/- A slice of structs that came in, as the form of the statements tells it: what it is seen to -/
import Derived.Deep.Fields
import Derived.Test.YtkbaaonchdeneaaGreatPc1
namespace Go.Proofs.YtkbaaonchdeneaaGreat
section
open Go.ChangeShapes Go.WideShapes Go.Deep Go.RowKit
section
variable {H:Type} {enc:TypeId×Value->H} {P:Program} {w:World} {base:Nat} {spare:Nat->Bool} {held:Bool}
theorem jH {a:Addr} {u:Value} (h:w.cell? (a.add 0)=some u):a.spot=none:=by
 unfold Addr.add at h;rw [if_pos rfl] at h;unfold World.cell? at h
 cases hs:a.spot with
 |none=>rfl
 |some q=>rw [hs] at h;simp at h;split at h<;>simp_all
def Yj (w:World) (size:Nat) (v:Value) (rows:List (List Value)):Prop:=(∀r∈rows,r.length=size)/\D5 w size v rows.length rows.flatten
theorem qh {rows:List (List Value)} {size:Nat} (h:∀r∈rows,r.length=size):rows.flatten.length=rows.length*size:=by
 induction rows with
 |nil=>simp
 |cons a rows ih=>
  rw [List.flatten_cons,Bc,ih (λr hr=>h r (by simp [hr])),h a (by simp),List.length_cons,Nat.add_mul,Nat.one_mul,Nat.add_comm]
theorem flat_get {rows:List (List Value)} {size:Nat} (hsz:0<size) (h:∀r∈rows,r.length=size):∀(j:Nat) (u:Value),rows.flatten[j]? = some u->∃r,rows[j / size]? = some r/\r[j % size]? = some u:=by
 induction rows with
 |nil=>intro j u hu;simp at hu
 |cons a rows ih=>
  intro j u hu;have ha:=h a (by simp);rw [List.flatten_cons] at hu;rcases Nat.lt_or_ge j size with hj | hj
  ·rw [List.getElem?_append_left (by omega)] at hu;rw [Nat.div_eq_of_lt hj,Nat.mod_eq_of_lt hj];exact ⟨a,rfl,hu⟩
  ·rw [List.getElem?_append_right (by omega),ha] at hu;obtain ⟨r,h1,h2⟩:=ih (λr hr=>h r (by simp [hr])) _ _ hu;have e1:j / size=(j - size) / size+1:=by rw [Nat.div_eq_sub_div hsz hj]
   have e2:j % size=(j - size) % size:=by rw [Nat.mod_eq_sub_mod hj]
   rw [e1,e2];exact ⟨r,by simpa using h1,h2⟩
end
end
section
open Go.ChangeShapes Go.WideShapes Go.Deep Go.RowKit
section
variable {H:Type} {enc:TypeId×Value->H} {P:Program} {w:World} {base:Nat} {spare:Nat->Bool} {held:Bool}
theorem Yk {t e:TypeId} {size fuel:Nat} {v:Value} {x:DataW H×List MemPlace} (ht:P.underlying t=some (.slice e)) (hC:P.cellsOf e=size) (hsz:0<size) (hsp:∀b,spare b=true) (h:DataW.trod enc P w base spare held fuel t [v]=some x) :
 ∃rows:List (List Value),Yj w size v rows/\rows.length<=maxLen/\∀r∈rows,∃(n:Nat) (y:DataW H×List MemPlace),DataW.trod enc P w base spare held n e r=some y:=by
 rcases open_slice ht h with h0 | ⟨a,len,cap,m,n,D,Pl,hcs,hb,hl,hm,hmm,hx,hi⟩
 ·obtain ⟨h0,-⟩:=h0;injection h0 with h0 _;subst h0;exact ⟨[],⟨by simp,by simp,.inl ⟨rfl,rfl⟩⟩,Nat.zero_le _,by simp⟩
 ·injection hcs with h0 _;subst h0;rw [hsp,if_pos rfl] at hmm;subst hmm;rw [hC] at hi
  have hrow:∀i,i<m->∃cs',cs'.length=size/\(∀j,j<size->w.cell? (a.add (i*size+j))=cs'[j]?)/\(w.cells? base (a.add (i*size)) size).getD []=cs'/\DataW.trod enc P w base spare held n e cs'=some (D i,Pl i):=λi h1=>by
   obtain ⟨cs',h2,h3⟩:=hi i h1;obtain ⟨_,h4,h5⟩:=World.cells?_some h2;refine ⟨cs',h4,λj hj=>?_,by rw [h2];rfl,h3⟩
   rw [<-h5 j hj,Go.Deep.add_add]
  have hspot:0<m->a.spot=none:=λh0=>by
   obtain ⟨cs',h1,h2,-,-⟩:=hrow 0 h0;have h3:=h2 0 hsz;rw [Ba (by omega)] at h3;exact jH (by simpa using h3)
  refine ⟨(List.range len).map λi=>(w.cells? base (a.add (i*size)) size).getD [],⟨?_,?_,?_⟩,?_,?_⟩
  ·intro r hr;obtain ⟨i,hi2,rfl⟩:=List.mem_map.1 hr;obtain ⟨cs',h1,-,h3,-⟩:=hrow i (by have:=List.mem_range.1 hi2;omega);rw [h3,h1]
  ·rw [qh (size:=size) (by
    intro r hr;obtain ⟨i,hi2,rfl⟩:=List.mem_map.1 hr;obtain ⟨cs',h1,-,h3,-⟩:=hrow i (by have:=List.mem_range.1 hi2;omega);rw [h3,h1])]
  ·refine .inr ⟨a.block,a.off,a.spot,m,by simp,hspot,by simpa using hl,hm,λj u hu=>?_⟩
   obtain ⟨r,h1,h2⟩:=flat_get hsz (by
    intro r hr;obtain ⟨i,hi2,rfl⟩:=List.mem_map.1 hr;obtain ⟨cs',h1,-,h3,-⟩:=hrow i (by have:=List.mem_range.1 hi2;omega);rw [h3,h1]) j u hu
   rw [List.getElem?_map] at h1;obtain ⟨i,h3,h4⟩:=Option.map_eq_some_iff.1 h1;obtain ⟨h6,h7⟩:=AZ h3;rw [List.getElem_range] at h7;rw [List.length_range] at h6;subst h7;have h8:j / size<m:=Bg h6 hl;obtain ⟨cs',g1,g2,g3,-⟩:=hrow (j / size) h8;rw [g3] at h4;subst h4;have hjl:j % size<size:=Nat.mod_lt _ hsz;have g4:=g2 (j % size) hjl;have e:j / size*size+j % size=j:=Nat.div_add_mod' j size;rw [e,h2] at g4;have hs:=hspot (Nat.lt_of_le_of_lt (Nat.zero_le _) h8);obtain ⟨b,o,s⟩:=a;simp only at hs;subst hs;rw [addr_add] at g4;exact g4
  ·simp;omega
  ·intro r hr;obtain ⟨i,hi2,rfl⟩:=List.mem_map.1 hr;obtain ⟨cs',h1,-,h3,h4⟩:=hrow i (by have:=List.mem_range.1 hi2;omega);exact ⟨n,_,by rw [h3];exact h4⟩
