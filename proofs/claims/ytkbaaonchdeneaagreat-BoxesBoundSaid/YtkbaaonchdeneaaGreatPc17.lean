/- slices.SortFunc at spans, at a comparison that writes nothing that was there. An interval tree -/
import Derived.Test.YtkbaaonchdeneaaGreatPc16
import Derived.Test.YtkbaaonchdeneaaGreatPc11
namespace Go.Proofs.YtkbaaonchdeneaaGreat
section
open Go.RowKit Go.Shelf Go.Sort Go.Lib
instance:Inhabited Sp:=⟨⟨0,0,0⟩⟩
theorem Nh (l:List Sp):(CY.all l).length=l.length*3:=by
 induction l with
 |nil=>rfl
 |cons a l ih=>
  have e:CY.all (a::l)=CY.enc a++CY.all l:=by simp [Kind.all]
  rw [e,Bc,ih,List.length_cons,CY.len];show 3+l.length*3=(l.length+1)*3
  omega
theorem TS (l:List Sp):flatK CY.enc 3 l.toArray=(CY.all l).toArray:=by
 refine ext_get! (by simp [Nh]) λt ht=>?_
 have ht':t<l.length*3:=by simpa using ht
 rw [get_flatK _ _ _ t (by simpa using ht')];have h1:t / 3<l.length:=by omega
 have h2:t % 3<(CY.enc l[t / 3]).length:=by rw [CY.len];show t % 3<3;omega
 have h:=CY.MR l (t / 3) (t % 3) h1 (CY.enc l[t / 3])[t % 3] (by rw [Ba h2]);have e3:t / 3*CY.sz+t % 3=t:=by show t / 3*3+t % 3=t;omega
 rw [e3] at h;obtain ⟨h4,h5⟩:=AZ h;rw [getElem!_pos l.toArray (t / 3) (by simpa using h1),getElem!_pos (CY.enc l.toArray[t / 3]) (t % 3) (by simpa using h2),getElem!_pos (CY.all l).toArray t (by simpa using h4)];simpa using h5.symm
theorem Yq {w:World} {base g n C:Nat} {l:List Sp} (h:CY.row w base (.slice (some ⟨g,0,none⟩) n C) l) (hn:l.length=n):HoldsK CY.enc 3 w g 0 l.toArray:=by
 unfold HoldsK;rw [TS]
 have hown:w.ownsRow base 62 3 (.slice (some ⟨g,0,none⟩) n C) n (CY.all l):=by
  have:=h;unfold Kind.row at this;rwa [hn] at this
 have Xg:=MS hown;intro j hj;have hj':j<(CY.all l).length:=by simpa using hj
 have hj3:j<l.length*3:=by rw [<-Nh];exact hj'
 rw [Nat.zero_add];refine ⟨?_,(Gx hown j (by omega)).2⟩
 rcases hown.2 with ⟨h2,_⟩ | ⟨g',cap,cur,h2,h3,h4,h5,h6,h7,h8⟩
 ·cases h2
 ·cases h2
  have hx:cur.toList[j]? = some (CY.all l)[j]:=by
   have:=congrArg (·[j]?) h8;simp only [List.getElem?_take] at this;rw [if_pos (by omega),Ba hj'] at this;exact this
  simp only [id_eq];rw [getElem!_pos (CY.all l).toArray j (by simpa using hj')];simp only [World.cell?,h4];simpa using hx
theorem jU {w:World} {base g n C m:Nat} {l l':List Sp} {os:Array Obj} (h:CY.row w base (.slice (some ⟨g,0,none⟩) n C) l) (hn:l.length=n) (hn':l'.length=n) :
 CY.row (sortWorldK CY.enc 3 w g 0 m l'.toArray os) base (.slice (some ⟨g,0,none⟩) n C) l'/\Bj [g] w (sortWorldK CY.enc 3 w g 0 m l'.toArray os):=by
 unfold sortWorldK putRowK;rw [TS]
 have hup:Bj [g] w (Sort.grow (Sort.putRow id (Sort.ahead w m) g 0 (CY.all l').toArray) os):=by
  refine ⟨rfl,rfl,rfl,by simp [Sort.grow,Sort.putRow,Sort.mapBlock,Sort.ahead],λk hk hf=>?_⟩
  have hk2:g≠k:=λe=>hf (by simp [e])
  have:(Sort.putRow id (Sort.ahead w m) g 0 (CY.all l').toArray).heap[k]? = w.heap[k]?:=by
   simp only [Sort.putRow,Sort.mapBlock,Sort.ahead,Array.getElem?_modify];rw [if_neg hk2]
  rw [heap_grow_old _ _ (by simpa [Sort.putRow,Sort.mapBlock,Sort.ahead] using hk),this]
 refine ⟨?_,hup⟩
 unfold Kind.row at h |-;rw [hn] at h;rw [hn'];have h':w.ownsRow base 62 3 (.slice (some ⟨g,0,none⟩) n C) n (CY.all l):=h;show World.ownsRow _ base 62 3 _ n (CY.all l')
 refine ⟨by rw [Nh,hn'],?_⟩
 rcases h'.2 with ⟨h2,_⟩ | ⟨g',cap,cur,h2,h3,h4,h5,h6,h7,h8⟩
 ·cases h2
 ·cases h2
  have hg:g<w.heap.size:=(Array.getElem?_eq_some_iff.1 h4).1;refine .inr ⟨g,C,Sort.putCells id 0 (CY.all l').toArray cur,rfl,h3,?_,h5,h6,by simp [Sort.putCells,h7],?_⟩
  ·rw [heap_grow_old _ _ (by simpa [Sort.putRow,Sort.mapBlock,Sort.ahead] using hg)];simp only [Sort.putRow,Sort.mapBlock,Sort.ahead,Array.getElem?_modify,if_true];rw [h4];rfl
  ·have hl:(CY.all l').length=n*3:=by rw [Nh,hn']
   refine List.ext_getElem? λj=>?_
   rw [List.getElem?_take];by_cases hj:j<n*3
   ·have hjc:j<cur.size:=by rw [h7];have:=Nat.mul_le_mul_right 3 h5;omega
    have hj':j<(CY.all l').length:=by omega
    rw [if_pos hj,Ba hj',Array.getElem?_toList];unfold Sort.putCells;rw [Array.getElem?_mapIdx,Array.getElem?_eq_getElem hjc,Option.map_some,if_pos (by simp;omega),Nat.sub_zero];rw [getElem!_pos (CY.all l').toArray j (by simpa using hj')];rfl
   ·rw [if_neg hj,List.getElem?_eq_none (by omega)]
def Qh (w:World) (base g n C:Nat) (l:List Sp) (cf:Sp->Sp->Int) (e:Ending) (w':World):Prop:=
 e=.returned (.tuple #[])/\Bj [g] w w'/\∃l':List Sp,l'.Perm l/\l'.Pairwise (λa b=>¬cf b a<0)/\CY.row w' base (.slice (some ⟨g,0,none⟩) n C) l'
theorem VK (f:Nat) (cf:Sp->Sp->Int) (hO:SWO (ltOf cf)) (eg:∀args w,(callFunc f args).run Tryz.prog w=.ok (.enter f args) w)
 (hc:∀s t w,Calls Tryz.prog f #[IE s,IE t] w λe w'=>e=.returned (.int .i64 (cf s t))/\∃os,w'=grow w os)
 (base g n C:Nat) (l:List Sp) (w:World) (h:CY.row w base (.slice (some ⟨g,0,none⟩) n C) l) (hn:l.length=n) (hb:n<1000000) :
 Calls Tryz.prog 171 #[.slice (some ⟨g,0,none⟩) n C,.func (.func f) #[] #[]] w (Qh w base g n C l cf):=by
 have hg:g<w.heap.size:=BJ h g (by simp [blk])
 have hcmp:CmpLays Tryz.prog f #[] CY.enc 3 cf g 0 l.toArray.size w:=λm os dk _ x y=>by
  refine (hc x y _).mono ?_
  rintro e w' ⟨rfl,os',rfl⟩;exact ⟨rfl,0,os',rfl⟩
 have:=AnyQ.slices_SortFunc Tryz.sortQ 3 Tryz.isAgg62 Tryz.sizeOf62 CY.enc CY.len CY.one cf hO f #[] g 0 C l.toArray w eg hcmp (Yq h hn) hg (by simp;omega);have e0:l.toArray.size=n:=by simp [hn]
 rw [e0] at this;refine Calls.mono this ?_
 rintro e w' ⟨rfl,d',m,os,hp,hs,rfl⟩;have hsz:d'.size=n:=by have:=hp.1;rw [e0] at this;exact this
 obtain ⟨l',rfl⟩:∃l':List Sp,d'=l'.toArray:=⟨d'.toList,rfl⟩;have hl':l'.length=n:=by simpa using hsz
 obtain ⟨h1,h2⟩:=jU (m:=m) (os:=os) h hn hl';refine ⟨rfl,h2,l',?_,?_,h1⟩
 ·have:=hp.2.2;rw [Array.extract_eq_self_of_le (by omega),Array.extract_eq_self_of_le (by omega)] at this;exact this
 ·rw [List.pairwise_iff_getElem];intro i j hi hj hij hc;have:=hs i j (Nat.zero_le _) hij (by omega);rw [getElem!_pos l'.toArray j (by simpa using hj),getElem!_pos l'.toArray i (by simpa using hi)] at this;unfold ltOf at this;simp at this;omega
theorem O4 (f:Nat) (C:Nat) (A:Option Addr) (w:World) :
 Calls Tryz.prog 171 #[.slice A 0 C,.func (.func f) #[] #[]] w λe w'=>e=.returned (.tuple #[])/\w'=w:=
 AnyF.slices_SortFunc_none Tryz.sortQ A C _ w
theorem L6 (a b x y:Int):byI a b x y<0↔a<b\/(a=b/\x<y):=by
 unfold byI GH;by_cases h1:a<b
 ·simp [h1]
 ·by_cases h2:b<a
  ·simp [h1,h2];omega
  ·have h3:a=b:=by omega
   subst h3;by_cases h4:x<y
   ·simp [h4]
   ·by_cases h5:y<x
    ·simp [h4,h5]
    ·simp [h4,h5]
theorem swoLo:SWO (ltOf OY) where
 irrefl x:=by unfold ltOf OY;simp [L6]
 trans x y z h1 h2:=by unfold ltOf OY at *;simp [L6] at *;omega
 ntrans x y z h1 h2:=by unfold ltOf OY at *;simp [L6] at *;omega
theorem a3U:SWO (ltOf λs t=>LX t s) where
 irrefl x:=by unfold ltOf LX;simp [L6]
 trans x y z h1 h2:=by unfold ltOf LX at *;simp [L6] at *;omega
 ntrans x y z h1 h2:=by unfold ltOf LX at *;simp [L6] at *;omega
theorem yU (base g n C:Nat) (l:List Sp) (w:World) (h:CY.row w base (.slice (some ⟨g,0,none⟩) n C) l) (hn:l.length=n) (hb:n<1000000) :
 Calls Tryz.prog 171 #[.slice (some ⟨g,0,none⟩) n C,.func (.func 172) #[] #[]] w (Qh w base g n C l OY):=
 VK _ OY swoLo (enters_of Tryz.func172 (by kernel_rfl) rfl) (λs t w=>(a3R s t w).mono (by
  rintro e w' ⟨rfl,a,b,c,rfl⟩;exact ⟨rfl,_,by rw [alloc_eq_grow,alloc_eq_grow,alloc_eq_grow,grow_grow,grow_grow]⟩)) base g n C l w h hn hb
theorem yV (base g n C:Nat) (l:List Sp) (w:World) (h:CY.row w base (.slice (some ⟨g,0,none⟩) n C) l) (hn:l.length=n) (hb:n<1000000) :
 Calls Tryz.prog 171 #[.slice (some ⟨g,0,none⟩) n C,.func (.func 237) #[] #[]] w (Qh w base g n C l λs t=>LX t s):=
 VK _ (λs t=>LX t s) a3U (enters_of Tryz.func237 (by kernel_rfl) rfl) (λs t w=>(yQ s t w).mono (by
  rintro e w' ⟨rfl,a,b,c,d,f,rfl⟩;exact ⟨rfl,_,by rw [alloc_eq_grow,alloc_eq_grow,alloc_eq_grow,alloc_eq_grow,alloc_eq_grow,grow_grow,grow_grow,grow_grow,grow_grow]⟩)) base g n C l w h hn hb
open Go.RowKit
def Gy (w:World):Kn->Value->List Nat->Prop
 |.nil,p,F=>p=.pointer none/\F = []
 |.node m lo hi l r,p,F=>∃(b:Nat) (Eb Gh pl pr:Value) (Fl Fr:List Nat),p=.pointer (some b)/\w.heap[b]? = some (.cells #[m,Eb,Gh,pl,pr] 258 (0,0))/\
  (CY.row w 0 Eb lo/\CY.row w 0 Gh hi)/\Gy w l pl Fl/\Gy w r pr Fr/\F=b::(blk Eb++(blk Gh++(Fl++Fr)))/\F.Nodup
theorem Gy.upd {w w':World} {G:List Nat} (hu:Bj G w w'):∀{T:Kn} {p:Value} {F:List Nat},Gy w T p F->(∀k∈F,k∉G)->Gy w' T p F
 |.nil,p,F,h,_=>h
 |.node m lo hi l r,p,F,h,hd=>by
  obtain ⟨b,Eb,Gh,pl,pr,Fl,Fr,rfl,h1,⟨h2,h3⟩,h4,h5,rfl,h6⟩:=h;simp only [List.mem_cons,List.mem_append] at hd
  exact ⟨b,Eb,Gh,pl,pr,Fl,Fr,rfl,(hu.block b (lt_of_block h1) (hd b (.inl rfl))).trans h1,⟨Bl h2 hu (λk hk=>hd k (.inr (.inl hk))),Bl h3 hu (λk hk=>hd k (.inr (.inr (.inl hk))))⟩,
   Gy.upd hu h4 (λk hk=>hd k (.inr (.inr (.inr (.inl hk))))),Gy.upd hu h5 (λk hk=>hd k (.inr (.inr (.inr (.inr hk))))),rfl,h6⟩
theorem Gy.BF {w w':World} (hu:Bj [] w w') {T:Kn} {p:Value} {F:List Nat} (h:Gy w T p F):Gy w' T p F:=h.upd hu (by simp)
theorem Gy.lt {w:World}:∀{T:Kn} {p:Value} {F:List Nat},Gy w T p F->∀k∈F,k<w.heap.size
 |.nil,p,F,h=>by obtain ⟨-,rfl⟩:=h;simp
 |.node m lo hi l r,p,F,h=>by
  obtain ⟨b,Eb,Gh,pl,pr,Fl,Fr,rfl,h1,⟨h2,h3⟩,h4,h5,rfl,h6⟩:=h;intro k hk;simp only [List.mem_cons,List.mem_append] at hk;rcases hk with rfl | hk | hk | hk | hk
  ·exact lt_of_block h1
  ·exact BJ h2 k hk
  ·exact BJ h3 k hk
  ·exact Gy.lt h4 k hk
  ·exact Gy.lt h5 k hk
structure Xh (w:World) (K:Nat) (m:Int) (Eb vu vv:Value) (lo u v:List Sp):Prop where
 head:w.heap[K]? = some (.cells #[m,Eb,.slice none 0 0,.pointer none,.pointer none] 258 (0,0))
 lo:CY.row w (K+1) Eb lo
 u:CY.row w (K+1) vu u
 v:CY.row w (K+1) vv v
 lu:∀y∈blk Eb,y∉blk vu
 lv:∀y∈blk Eb,y∉blk vv
 uv:∀y∈blk vu,y∉blk vv
theorem Xh.BF {w w':World} {K:Nat} {m:Int} {Eb vu vv:Value} {lo u v:List Sp} (h:Xh w K m Eb vu vv lo u v) (hu:Bj [] w w'):Xh w' K m Eb vu vv lo u v:=
 ⟨(hu.block K (lt_of_block h.head) (by simp)).trans h.head,Bl h.lo hu (by simp),Bl h.u hu (by simp),Bl h.v hu (by simp),h.lu,h.lv,h.uv⟩
theorem Xh.a6K {w w2:World} {K:Nat} {m:Int} {Eb vu vv vn:Value} {lo u v un:List Sp} (h:Xh w K m Eb vu vv lo u v) (hu:Bj (blk vu) w w2) (hr:CY.row w2 (K+1) vn un) (hb:blk vn=blk vu\/blk vn = [w.heap.size]) :
 Xh w2 K m Eb vn vv lo un v:=by
 have hK:K∉blk vu:=λhc=>by have:=BH h.u K hc;omega
 refine ⟨(hu.block K (lt_of_block h.head) hK).trans h.head,Bl h.lo hu h.lu,hr,Bl h.v hu (λy hy hc=>h.uv y hc hy),λy hy hc=>?_,h.lv,λy hy hc=>?_⟩
 ·rcases hb with hb | hb
  ·rw [hb] at hc;exact h.lu y hy hc
  ·rw [hb] at hc;simp at hc;have:=BJ h.lo y hy;omega
 ·rcases hb with hb | hb
  ·rw [hb] at hy;exact h.uv y hy hc
  ·rw [hb] at hy;simp at hy;have:=BJ h.v y hc;omega
theorem Xh.a6L {w w2:World} {K:Nat} {m:Int} {Eb vu vv vn:Value} {lo u v un:List Sp} (h:Xh w K m Eb vu vv lo u v) (hu:Bj (blk vv) w w2) (hr:CY.row w2 (K+1) vn un) (hb:blk vn=blk vv\/blk vn = [w.heap.size]) :
 Xh w2 K m Eb vu vn lo u un:=by
 have hK:K∉blk vv:=λhc=>by have:=BH h.v K hc;omega
 refine ⟨(hu.block K (lt_of_block h.head) hK).trans h.head,Bl h.lo hu h.lv,Bl h.u hu h.uv,hr,h.lu,λy hy hc=>?_,λy hy hc=>?_⟩
 ·rcases hb with hb | hb
  ·rw [hb] at hc;exact h.lv y hy hc
  ·rw [hb] at hc;simp at hc;have:=BJ h.lo y hy;omega
 ·rcases hb with hb | hb
  ·rw [hb] at hc;exact h.uv y hy hc
  ·rw [hb] at hc;simp at hc;have:=BJ h.u y hy;omega
theorem Xh.a6M {w w2:World} {K:Nat} {m:Int} {Eb vu vv vn:Value} {lo u v un:List Sp} (h:Xh w K m Eb vu vv lo u v) (hu:Bj (blk Eb) w w2) (hr:CY.row w2 (K+1) vn un) (hb:blk vn=blk Eb\/blk vn = [w.heap.size]) :
 Xh (w2.setCell ⟨K,1,none⟩ vn) K m vn vu vv un u v:=by
 have hK:K∉blk Eb:=λhc=>by have:=BH h.lo K hc;omega
 have hs:Bj [K] w2 (w2.setCell ⟨K,1,none⟩ vn):=(Bj.refl _ _).setCell (p:=⟨K,1,none⟩) (.inl (by simp)) _;have hn:∀{x:Value} {l:List Sp},CY.row w2 (K+1) x l->∀y∈blk x,y∉[K]:=λhx y hy hc=>by simp at hc;have:=BH hx y hy;omega
 have h2:=(hu.block K (lt_of_block h.head) hK).trans h.head;have r1:=Bl h.u hu (λy hy hc=>h.lu y hc hy);have r2:=Bl h.v hu (λy hy hc=>h.lv y hc hy);refine ⟨heap_set h2 1 _,Bl hr hs (hn hr),Bl r1 hs (hn r1),Bl r2 hs (hn r2),λy hy hc=>?_,λy hy hc=>?_,h.uv⟩
 ·rcases hb with hb | hb
  ·rw [hb] at hy;exact h.lu y hy hc
  ·rw [hb] at hy;simp at hy;have:=BJ h.u y hc;omega
 ·rcases hb with hb | hb
  ·rw [hb] at hy;exact h.lv y hy hc
  ·rw [hb] at hy;simp at hy;have:=BJ h.v y hc;omega
theorem Xh.cells {w:World} {K:Nat} {m:Int} {Eb vu vv:Value} {lo u v:List Sp} (h:Xh w K m Eb vu vv lo u v) :
 w.cell? K=some (.int .i64 m)/\w.cell? ⟨K,1,none⟩=some Eb/\w.cell? ⟨K,2,none⟩=some (.slice none 0 0)/\∀j,w.frozen? ⟨K,j,none⟩=false:=by
 have:=h.head;refine ⟨?_,?_,?_,?_⟩<;>simp [World.cell?,World.frozen?,this]
theorem jV (base:Nat) (v:Value) (l:List Sp) (w:World) (h:CY.row w base v l) (hb:l.length<1000000) :
 Calls Tryz.prog 171 #[v,.func (.func 237) #[] #[]] w λe w'=>
  e=.returned (.tuple #[])/\Bj (blk v) w w'/\∃l':List Sp,l'.Perm l/\l'.Pairwise (λa b=>b.hi<=a.hi)/\CY.row w' base v l':=by
 rcases h.2 with ⟨rfl,hn⟩ | ⟨g,cap,cur,rfl,h3⟩
 ·refine (O4 _ 0 none w).mono ?_
  rintro e w' ⟨rfl,rfl⟩;have hl:l = []:=List.eq_nil_of_length_eq_zero hn;subst hl;exact ⟨rfl,Bj.refl _ _,[],List.Perm.refl _,List.Pairwise.nil,h⟩
 ·refine (yV base g l.length cap l w h rfl hb).mono ?_
  rintro e w' ⟨rfl,h4,l',h5,h6,h7⟩;refine ⟨rfl,h4,l',h5,h6.imp ?_,h7⟩
  intro a b hab;unfold LX at hab;rw [L6] at hab;omega
theorem jW (base:Nat) (v:Value) (l:List Sp) (w:World) (h:CY.row w base v l) (hb:l.length<1000000) :
 Calls Tryz.prog 171 #[v,.func (.func 172) #[] #[]] w λe w'=>
  e=.returned (.tuple #[])/\Bj (blk v) w w'/\∃l':List Sp,l'.Perm l/\l'.Pairwise (λa b=>a.lo<=b.lo)/\CY.row w' base v l':=by
 rcases h.2 with ⟨rfl,hn⟩ | ⟨g,cap,cur,rfl,h3⟩
 ·refine (O4 _ 0 none w).mono ?_
  rintro e w' ⟨rfl,rfl⟩;have hl:l = []:=List.eq_nil_of_length_eq_zero hn;subst hl;exact ⟨rfl,Bj.refl _ _,[],List.Perm.refl _,List.Pairwise.nil,h⟩
 ·refine (yU base g l.length cap l w h rfl hb).mono ?_
  rintro e w' ⟨rfl,h4,l',h5,h6,h7⟩;refine ⟨rfl,h4,l',h5,h6.imp ?_,h7⟩
  intro a b hab;unfold OY at hab;rw [L6] at hab;omega
structure yX (w:World) (K:Nat) (m:Int) (Eb Gh:Value) (lo hi:List Sp):Prop where
 head:w.heap[K]? = some (.cells #[m,Eb,Gh,.pointer none,.pointer none] 258 (0,0))
 lo:CY.row w (K+1) Eb lo
 hi:CY.row w (K+1) Gh hi
 lh:∀y∈blk Eb,y∉blk Gh
theorem yX.BF {w w':World} {K:Nat} {m:Int} {Eb Gh:Value} {lo hi:List Sp} (h:yX w K m Eb Gh lo hi) (hu:Bj [] w w'):yX w' K m Eb Gh lo hi:=
 ⟨(hu.block K (lt_of_block h.head) (by simp)).trans h.head,Bl h.lo hu (by simp),Bl h.hi hu (by simp),h.lh⟩
theorem yX.cells {w:World} {K:Nat} {m:Int} {Eb Gh:Value} {lo hi:List Sp} (h:yX w K m Eb Gh lo hi) :
 w.cell? K=some (.int .i64 m)/\w.cell? ⟨K,1,none⟩=some Eb/\w.cell? ⟨K,2,none⟩=some Gh/\∀j,w.frozen? ⟨K,j,none⟩=false:=by
 have:=h.head;refine ⟨?_,?_,?_,?_⟩<;>simp [World.cell?,World.frozen?,this]
theorem fP (v:Value) {w:World} {base:Nat} {l:List Sp} (h:CY.row w base v l):(blk v).Nodup:=by
 rcases h.2 with ⟨rfl,-⟩ | ⟨g,cap,cur,rfl,-⟩<;>simp [blk]
theorem yX.kids {w:World} {K:Nat} {m:Int} {Eb Gh pl pr:Value} {lo hi:List Sp} {Tl Tr:Kn} {Fl Fr:List Nat} (h:yX w K m Eb Gh lo hi) (hl:Gy w Tl pl Fl) (hr:Gy w Tr pr Fr) {B:Nat}
 (hK:K<B) (h1:∀y∈blk Eb,y<B) (h2:∀y∈blk Gh,y<B) (hFl:∀k∈Fl,B<=k) (hFr:∀k∈Fr,B<=k) (hd:∀k∈Fl,k∉Fr) (hnl:Fl.Nodup) (hnr:Fr.Nodup) :
 Gy ((w.setCell ⟨K,3,none⟩ pl).setCell ⟨K,4,none⟩ pr) (.node m lo hi Tl Tr) (.pointer (some K)) (K::(blk Eb++(blk Gh++(Fl++Fr))))/\Bj [K] w ((w.setCell ⟨K,3,none⟩ pl).setCell ⟨K,4,none⟩ pr):=by
 have hs:Bj [K] w ((w.setCell ⟨K,3,none⟩ pl).setCell ⟨K,4,none⟩ pr):=((Bj.refl _ _).setCell (p:=⟨K,3,none⟩) (.inl (by simp)) _).setCell (p:=⟨K,4,none⟩) (.inl (by simp)) _;have gl:=BH h.lo;have gh:=BH h.hi
 refine ⟨⟨K,Eb,Gh,pl,pr,Fl,Fr,rfl,heap_set (heap_set h.head 3 _) 4 _,⟨own_base (Bl h.lo hs (λy hy hc=>by simp at hc;have:=gl y hy;omega)) (Nat.zero_le _),own_base (Bl h.hi hs (λy hy hc=>by simp at hc;have:=gh y hy;omega)) (Nat.zero_le _)⟩,
  hl.upd hs (λk hk hc=>by simp at hc;have:=hFl k hk;omega),hr.upd hs (λk hk hc=>by simp at hc;have:=hFr k hk;omega),rfl,?_⟩,hs⟩
 rw [List.nodup_cons,List.nodup_append,List.nodup_append,List.nodup_append];refine ⟨?_,fP _ h.lo,⟨fP _ h.hi,⟨hnl,hnr,λa ha b hb e=>hd a ha (e ▸ hb)⟩,?_⟩,?_⟩
 ·simp only [List.mem_append];rintro (hc | hc | hc | hc)
  ·have:=gl K hc;omega
  ·have:=gh K hc;omega
  ·have:=hFl K hc;omega
  ·have:=hFr K hc;omega
 ·intro a ha b hb e;subst e;rcases List.mem_append.1 hb with hb | hb
  ·have:=h2 a ha;have:=hFl a hb;omega
  ·have:=h2 a ha;have:=hFr a hb;omega
 ·intro a ha b hb e;subst e;simp only [List.mem_append] at hb;rcases hb with hb | hb | hb
  ·exact h.lh a ha hb
  ·have:=h1 a ha;have:=hFl a hb;omega
  ·have:=h1 a ha;have:=hFr a hb;omega
theorem Gy.ptr {w:World} {T:Kn} {p:Value} {F:List Nat} (h:Gy w T p F):∃q,p=.pointer q:=by
 cases T with
 |nil=>obtain ⟨rfl,-⟩:=h;exact ⟨_,rfl⟩
 |node m lo hi l r=>obtain ⟨_,_,_,_,_,_,_,rfl,-⟩:=h;exact ⟨_,rfl⟩
theorem Gy.nodup {w:World} {T:Kn} {p:Value} {F:List Nat} (h:Gy w T p F):F.Nodup:=by
 cases T with
 |nil=>obtain ⟨-,rfl⟩:=h;exact List.nodup_nil
 |node m lo hi l r=>obtain ⟨_,_,_,_,_,_,_,-,-,-,-,-,-,h6⟩:=h;exact h6
end
section
open Go.RowKit Go.Shelf Go.Sort Go.Lib
section
variable {α:Type} [Inhabited α]
theorem VL (K:Kind α) (h0:0<K.sz) (l:List α):flatK K.enc K.sz l.toArray=(K.all l).toArray:=by
 refine ext_get! (by simp [K.Gm]) λt ht=>?_
 have ht':t<l.length*K.sz:=by simpa using ht
 rw [get_flatK _ _ _ t (by simpa using ht')];have h1:t / K.sz<l.length:=(Nat.div_lt_iff_lt_mul h0).2 ht';have h2:t % K.sz<(K.enc l[t / K.sz]).length:=by rw [K.len];exact Nat.mod_lt _ h0
 have h:=K.MR l (t / K.sz) (t % K.sz) h1 (K.enc l[t / K.sz])[t % K.sz] (by rw [Ba h2]);have e3:t / K.sz*K.sz+t % K.sz=t:=by rw [Nat.mul_comm];exact Nat.div_add_mod t K.sz
 rw [e3] at h;obtain ⟨h4,h5⟩:=AZ h;rw [getElem!_pos l.toArray (t / K.sz) (by simpa using h1),getElem!_pos (K.enc l.toArray[t / K.sz]) (t % K.sz) (by simpa using h2),getElem!_pos (K.all l).toArray t (by simpa using h4)];simpa using h5.symm
theorem aA (K:Kind α) (h0:0<K.sz) {w:World} {base g n C:Nat} {l:List α} (h:K.row w base (.slice (some ⟨g,0,none⟩) n C) l) (hn:l.length=n):HoldsK K.enc K.sz w g 0 l.toArray:=by
 unfold HoldsK;rw [VL K h0]
 have hown:w.ownsRow base K.eT K.sz (.slice (some ⟨g,0,none⟩) n C) n (K.all l):=by
  have:=h;unfold Kind.row at this;rwa [hn] at this
 have Xg:=MS hown;intro j hj;have hj':j<(K.all l).length:=by simpa using hj
 have hj3:j<l.length*K.sz:=by rw [<-K.Gm];exact hj'
 have hj4:j<n*K.sz:=by rw [<-hn];exact hj3
 have hj5:j<C*K.sz:=Bg hj4 (Nat.mul_le_mul_right _ Xg);rw [Nat.zero_add];refine ⟨?_,(Gx hown j hj5).2⟩
 rcases hown.2 with ⟨h2,_⟩ | ⟨g',cap,cur,h2,h3,h4,h5,h6,h7,h8⟩
 ·cases h2
 ·cases h2
  have hx:cur.toList[j]? = some (K.all l)[j]:=by
   have:=congrArg (·[j]?) h8;simp only [List.getElem?_take] at this;rw [if_pos hj4,Ba hj'] at this;exact this
  simp only [id_eq];rw [getElem!_pos (K.all l).toArray j (by simpa using hj')];simp only [World.cell?,h4];simpa using hx
theorem qJ (K:Kind α) (h0:0<K.sz) {w:World} {base g n C m:Nat} {l l':List α} {os:Array Obj} (h:K.row w base (.slice (some ⟨g,0,none⟩) n C) l) (hn:l.length=n) (hn':l'.length=n) :
 K.row (sortWorldK K.enc K.sz w g 0 m l'.toArray os) base (.slice (some ⟨g,0,none⟩) n C) l'/\Bj [g] w (sortWorldK K.enc K.sz w g 0 m l'.toArray os):=by
 unfold sortWorldK putRowK;rw [VL K h0]
 have hup:Bj [g] w (Sort.grow (Sort.putRow id (Sort.ahead w m) g 0 (K.all l').toArray) os):=by
  refine ⟨rfl,rfl,rfl,by simp [Sort.grow,Sort.putRow,Sort.mapBlock,Sort.ahead],λk hk hf=>?_⟩
  have hk2:g≠k:=λe=>hf (by simp [e])
  have:(Sort.putRow id (Sort.ahead w m) g 0 (K.all l').toArray).heap[k]? = w.heap[k]?:=by
   simp only [Sort.putRow,Sort.mapBlock,Sort.ahead,Array.getElem?_modify];rw [if_neg hk2]
  rw [heap_grow_old _ _ (by simpa [Sort.putRow,Sort.mapBlock,Sort.ahead] using hk),this]
 refine ⟨?_,hup⟩
 unfold Kind.row at h |-;rw [hn] at h;rw [hn'];refine ⟨by rw [K.Gm,hn'],?_⟩
 rcases h.2 with ⟨h2,_⟩ | ⟨g',cap,cur,h2,h3,h4,h5,h6,h7,h8⟩
 ·cases h2
 ·cases h2
  have hg:g<w.heap.size:=(Array.getElem?_eq_some_iff.1 h4).1;refine .inr ⟨g,C,Sort.putCells id 0 (K.all l').toArray cur,rfl,h3,?_,h5,h6,by simp [Sort.putCells,h7],?_⟩
  ·rw [heap_grow_old _ _ (by simpa [Sort.putRow,Sort.mapBlock,Sort.ahead] using hg)];simp only [Sort.putRow,Sort.mapBlock,Sort.ahead,Array.getElem?_modify,if_true];rw [h4];rfl
  ·have hl:(K.all l').length=n*K.sz:=by rw [K.Gm,hn']
   refine List.ext_getElem? λj=>?_
   rw [List.getElem?_take];by_cases hj:j<n*K.sz
   ·have hjc:j<cur.size:=by rw [h7];have:=Nat.mul_le_mul_right K.sz h5;omega
    have hj':j<(K.all l').length:=by omega
    rw [if_pos hj,Ba hj',Array.getElem?_toList];unfold Sort.putCells;rw [Array.getElem?_mapIdx,Array.getElem?_eq_getElem hjc,Option.map_some,if_pos (by simp;omega),Nat.sub_zero];rw [getElem!_pos (K.all l').toArray j (by simpa using hj')];rfl
   ·rw [if_neg hj,List.getElem?_eq_none (by omega)]
def jX (K:Kind α) (w:World) (base g n C:Nat) (l:List α) (cf:α->α->Int) (e:Ending) (w':World):Prop:=
 e=.returned (.tuple #[])/\Bj [g] w w'/\∃l':List α,l'.Perm l/\l'.Pairwise (λa b=>¬cf b a<0)/\K.row w' base (.slice (some ⟨g,0,none⟩) n C) l'
theorem qK {ρ:Ren} (L:Go.Proofs.SlLaysF0.n6 Tryz.prog ρ) (K:Kind α) (h0:0<K.sz) (aE:∀w,(isAgg (ρ.t 24)).run Tryz.prog w=.ok true w) (zE:∀w,(Go.sizeOf (ρ.t 24)).run Tryz.prog w=.ok K.sz w)
 (f:Nat) (cf:α->α->Int) (hO:SWO (ltOf cf)) (eg:∀args w,(callFunc f args).run Tryz.prog w=.ok (.enter f args) w)
 (hc:∀s t w,Calls Tryz.prog f #[(Value.agg (K.enc s).toArray),(Value.agg (K.enc t).toArray)] w λe w'=>e=.returned (.int .i64 (cf s t))/\∃os,w'=grow w os)
 (base g n C:Nat) (l:List α) (w:World) (h:K.row w base (.slice (some ⟨g,0,none⟩) n C) l) (hn:l.length=n) (hb:n<1000000) :
 Calls Tryz.prog (ρ.f 6) #[.slice (some ⟨g,0,none⟩) n C,.func (.func f) #[] #[]] w (jX K w base g n C l cf):=by
 have hg:g<w.heap.size:=BJ h g (by simp [blk])
 have hcmp:CmpLays Tryz.prog f #[] K.enc K.sz cf g 0 l.toArray.size w:=λm os dk _ x y=>by
  refine (hc x y _).mono ?_
  rintro e w' ⟨rfl,os',rfl⟩;exact ⟨rfl,0,os',rfl⟩
 have e0:l.toArray.size=n:=by simp [hn]
 have:=AnyQ.slices_SortFunc L K.sz aE zE K.enc K.len K.one cf hO f #[] g 0 C l.toArray w eg hcmp (aA K h0 h hn) hg (by simp;omega);rw [e0] at this;refine Calls.mono this ?_
 rintro e w' ⟨rfl,d',m,os,hp,hs,rfl⟩;have hsz:d'.size=n:=by have:=hp.1;rw [e0] at this;exact this
 obtain ⟨l',rfl⟩:∃l':List α,d'=l'.toArray:=⟨d'.toList,rfl⟩;have hl':l'.length=n:=by simpa using hsz
 obtain ⟨h1,h2⟩:=qJ K h0 (m:=m) (os:=os) h hn hl';refine ⟨rfl,h2,l',?_,?_,h1⟩
 ·have:=hp.2.2;rw [Array.extract_eq_self_of_le (by omega),Array.extract_eq_self_of_le (by omega)] at this;exact this
 ·rw [List.pairwise_iff_getElem];intro i j hi hj hij hc;have:=hs i j (Nat.zero_le _) hij (by omega);rw [getElem!_pos l'.toArray j (by simpa using hj),getElem!_pos l'.toArray i (by simpa using hi)] at this;unfold ltOf at this;simp at this;omega
