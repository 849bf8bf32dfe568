/- slices.SortFunc at spans, at a comparison that writes nothing that was there. An interval tree in memory; what grown works on. ivl.grown: the tree over ends, of spans by Lo. Printed by mkgrown.py. ivl.Build: what it is made of. What SortFunc is told of rows of things of any kind. No program. -/
import Derived.BigQuiet
import Derived.WalkMore
import Derived.Shelf.SlSortCmp.NoneTotal
import Derived.Ground.SlsfProg
import Derived.Test.YtkbaaonchdeneaaGreatProg
import Derived.Test.YtkbaaonchdeneaaGreatPkSpansTellP5
import Derived.Test.YtkbaaonchdeneaaGreatPk17
import Derived.Test.YtkbaaonchdeneaaGreatPk19
import Derived.Test.YtkbaaonchdeneaaGreatPk6
set_option maxHeartbeats 8000000
set_option maxRecDepth 100000
namespace Go.Proofs.YtkbaaonchdeneaaGreat
open Go.RowKit Go.Shelf Go.Sort Go.Lib
instance:Inhabited Sp:=⟨⟨0,0,0⟩⟩
theorem spAll_len (l:List Sp):(KSp.all l).length=l.length*3:=by
 induction l with
 |nil=>rfl
 |cons a l ih=>
  have e:KSp.all (a::l)=KSp.enc a++KSp.all l:=by simp [Kind.all]
  rw [e,List.length_append,ih,List.length_cons,KSp.len]
  show 3+l.length*3=(l.length+1)*3
  omega
theorem flat_spans (l:List Sp):flatK KSp.enc 3 l.toArray=(KSp.all l).toArray:=by
 refine ext_get! (by simp [spAll_len]) fun t ht=>?_
 have ht':t<l.length*3:=by simpa using ht
 rw [get_flatK _ _ _ t (by simpa using ht')]
 have h1:t / 3<l.length:=by omega
 have h2:t % 3<(KSp.enc l[t / 3]).length:=by rw [KSp.len];show t % 3<3;omega
 have h:=KSp.all_get l (t / 3) (t % 3) h1 (KSp.enc l[t / 3])[t % 3] (by rw [List.getElem?_eq_getElem h2])
 have e3:t / 3*KSp.sz+t % 3=t:=by show t / 3*3+t % 3=t;omega
 rw [e3] at h
 obtain ⟨h4,h5⟩:=List.getElem?_eq_some_iff.1 h
 rw [getElem!_pos l.toArray (t / 3) (by simpa using h1),getElem!_pos (KSp.enc l.toArray[t / 3]) (t % 3) (by simpa using h2),getElem!_pos (KSp.all l).toArray t (by simpa using h4)]
 simpa using h5.symm
theorem holds_spans {w:World} {base g n C:Nat} {l:List Sp} (h:KSp.row w base (.slice (some ⟨g,0,none⟩) n C) l) (hn:l.length=n):HoldsK KSp.enc 3 w g 0 l.toArray:=by
 unfold HoldsK
 rw [flat_spans]
 have hown:w.ownsRow base 62 3 (.slice (some ⟨g,0,none⟩) n C) n (KSp.all l):=by
  have:=h
  unfold Kind.row at this
  rwa [hn] at this
 have hnC:=own_cap hown
 intro j hj
 have hj':j<(KSp.all l).length:=by simpa using hj
 have hj3:j<l.length*3:=by rw [←spAll_len];exact hj'
 rw [Nat.zero_add]
 refine ⟨?_,(own_room hown j (by omega)).2⟩
 rcases hown.2 with ⟨h2,_⟩ | ⟨g',cap,cur,h2,h3,h4,h5,h6,h7,h8⟩
 ·cases h2
 ·cases h2
  have hx:cur.toList[j]? = some (KSp.all l)[j]:=by
   have:=congrArg (·[j]?) h8
   simp only [List.getElem?_take] at this
   rw [if_pos (by omega),List.getElem?_eq_getElem hj'] at this
   exact this
  simp only [id_eq]
  rw [getElem!_pos (KSp.all l).toArray j (by simpa using hj')]
  simp only [World.cell?,h4]
  simpa using hx
theorem put_spans {w:World} {base g n C m:Nat} {l l':List Sp} {os:Array Obj} (h:KSp.row w base (.slice (some ⟨g,0,none⟩) n C) l) (hn:l.length=n) (hn':l'.length=n) :
 KSp.row (sortWorldK KSp.enc 3 w g 0 m l'.toArray os) base (.slice (some ⟨g,0,none⟩) n C) l'∧Upd [g] w (sortWorldK KSp.enc 3 w g 0 m l'.toArray os):=by
 unfold sortWorldK putRowK
 rw [flat_spans]
 have hup:Upd [g] w (Sort.grow (Sort.putRow id (Sort.ahead w m) g 0 (KSp.all l').toArray) os):=by
  refine ⟨rfl,rfl,rfl,by simp [Sort.grow,Sort.putRow,Sort.mapBlock,Sort.ahead],fun k hk hf=>?_⟩
  have hk2:g≠k:=fun e=>hf (by simp [e])
  have:(Sort.putRow id (Sort.ahead w m) g 0 (KSp.all l').toArray).heap[k]? = w.heap[k]?:=by
   simp only [Sort.putRow,Sort.mapBlock,Sort.ahead,Array.getElem?_modify]
   rw [if_neg hk2]
  rw [heap_grow_old _ _ (by simpa [Sort.putRow,Sort.mapBlock,Sort.ahead] using hk),this]
 refine ⟨?_,hup⟩
 unfold Kind.row at h ⊢
 rw [hn] at h
 rw [hn']
 have h':w.ownsRow base 62 3 (.slice (some ⟨g,0,none⟩) n C) n (KSp.all l):=h
 show World.ownsRow _ base 62 3 _ n (KSp.all l')
 refine ⟨by rw [spAll_len,hn'],?_⟩
 rcases h'.2 with ⟨h2,_⟩ | ⟨g',cap,cur,h2,h3,h4,h5,h6,h7,h8⟩
 ·cases h2
 ·cases h2
  have hg:g<w.heap.size:=(Array.getElem?_eq_some_iff.1 h4).1
  refine .inr ⟨g,C,Sort.putCells id 0 (KSp.all l').toArray cur,rfl,h3,?_,h5,h6,by simp [Sort.putCells,h7],?_⟩
  ·rw [heap_grow_old _ _ (by simpa [Sort.putRow,Sort.mapBlock,Sort.ahead] using hg)]
   simp only [Sort.putRow,Sort.mapBlock,Sort.ahead,Array.getElem?_modify,if_true]
   rw [h4]
   rfl
  ·have hl:(KSp.all l').length=n*3:=by rw [spAll_len,hn']
   refine List.ext_getElem? fun j=>?_
   rw [List.getElem?_take]
   by_cases hj:j<n*3
   ·have hjc:j<cur.size:=by rw [h7];have:=Nat.mul_le_mul_right 3 h5;omega
    have hj':j<(KSp.all l').length:=by omega
    rw [if_pos hj,List.getElem?_eq_getElem hj',Array.getElem?_toList]
    unfold Sort.putCells
    rw [Array.getElem?_mapIdx,Array.getElem?_eq_getElem hjc,Option.map_some,if_pos (by simp;omega),Nat.sub_zero]
    rw [getElem!_pos (KSp.all l').toArray j (by simpa using hj')]
    rfl
   ·rw [if_neg hj,List.getElem?_eq_none (by omega)]
def SortFPost (w:World) (base g n C:Nat) (l:List Sp) (cf:Sp→Sp→Int) (e:Ending) (w':World):Prop:=
 e=.returned (.tuple #[])∧Upd [g] w w'∧∃l':List Sp,l'.Perm l∧l'.Pairwise (fun a b=>¬cf b a<0)∧KSp.row w' base (.slice (some ⟨g,0,none⟩) n C) l'
theorem sortFuncC (f:Nat) (cf:Sp→Sp→Int) (hO:SWO (ltOf cf)) (eg:∀args w,(callFunc f args).run Tryz.prog w=.ok (.enter f args) w)
 (hc:∀s t w,Calls Tryz.prog f #[spV s,spV t] w fun e w'=>e=.returned (.int .i64 (cf s t))∧∃os,w'=grow w os)
 (base g n C:Nat) (l:List Sp) (w:World) (h:KSp.row w base (.slice (some ⟨g,0,none⟩) n C) l) (hn:l.length=n) (hb:n<1000000) :
 Calls Tryz.prog 171 #[.slice (some ⟨g,0,none⟩) n C,.func (.func f) #[] #[]] w (SortFPost w base g n C l cf):=by
 have hg:g<w.heap.size:=own_lt h g (by simp [blk])
 have hcmp:CmpLays Tryz.prog f #[] KSp.enc 3 cf g 0 l.toArray.size w:=fun m os dk _ x y=>by
  refine (hc x y _).mono ?_
  rintro e w' ⟨rfl,os',rfl⟩
  exact ⟨rfl,0,os',rfl⟩
 have:=AnyQ.slices_SortFunc Tryz.sortQ 3 Tryz.isAgg62 Tryz.sizeOf62 KSp.enc KSp.len KSp.one cf hO f #[] g 0 C l.toArray w eg hcmp (holds_spans h hn) hg (by simp;omega)
 have e0:l.toArray.size=n:=by simp [hn]
 rw [e0] at this
 refine Calls.mono this ?_
 rintro e w' ⟨rfl,d',m,os,hp,hs,rfl⟩
 have hsz:d'.size=n:=by have:=hp.1;rw [e0] at this;exact this
 obtain ⟨l',rfl⟩:∃l':List Sp,d'=l'.toArray:=⟨d'.toList,rfl⟩
 have hl':l'.length=n:=by simpa using hsz
 obtain ⟨h1,h2⟩:=put_spans (m:=m) (os:=os) h hn hl'
 refine ⟨rfl,h2,l',?_,?_,h1⟩
 ·have:=hp.2.2
  rw [Array.extract_eq_self_of_le (by omega),Array.extract_eq_self_of_le (by omega)] at this
  exact this
 ·rw [List.pairwise_iff_getElem]
  intro i j hi hj hij hc
  have:=hs i j (Nat.zero_le _) hij (by omega)
  rw [getElem!_pos l'.toArray j (by simpa using hj),getElem!_pos l'.toArray i (by simpa using hi)] at this
  unfold ltOf at this
  simp at this
  omega
theorem sortFuncNone (f:Nat) (C:Nat) (A:Option Addr) (w:World) :
 Calls Tryz.prog 171 #[.slice A 0 C,.func (.func f) #[] #[]] w fun e w'=>e=.returned (.tuple #[])∧w'=w:=
 AnyF.slices_SortFunc_none Tryz.sortQ A C _ w
theorem byI_lt (a b x y:Int):byI a b x y<0↔a<b∨(a=b∧x<y):=by
 unfold byI cmpI
 by_cases h1:a<b
 ·simp [h1]
 ·by_cases h2:b<a
  ·simp [h1,h2];omega
  ·have h3:a=b:=by omega
   subst h3
   by_cases h4:x<y
   ·simp [h4]
   ·by_cases h5:y<x
    ·simp [h4,h5]
    ·simp [h4,h5]
theorem swoLo:SWO (ltOf cmpLo) where
 irrefl x:=by unfold ltOf cmpLo;simp [byI_lt]
 trans x y z h1 h2:=by unfold ltOf cmpLo at *;simp [byI_lt] at *;omega
 ntrans x y z h1 h2:=by unfold ltOf cmpLo at *;simp [byI_lt] at *;omega
theorem swoHi:SWO (ltOf fun s t=>cmpHi t s) where
 irrefl x:=by unfold ltOf cmpHi;simp [byI_lt]
 trans x y z h1 h2:=by unfold ltOf cmpHi at *;simp [byI_lt] at *;omega
 ntrans x y z h1 h2:=by unfold ltOf cmpHi at *;simp [byI_lt] at *;omega
theorem sortLoC (base g n C:Nat) (l:List Sp) (w:World) (h:KSp.row w base (.slice (some ⟨g,0,none⟩) n C) l) (hn:l.length=n) (hb:n<1000000) :
 Calls Tryz.prog 171 #[.slice (some ⟨g,0,none⟩) n C,.func (.func 172) #[] #[]] w (SortFPost w base g n C l cmpLo):=
 sortFuncC _ cmpLo swoLo (enters_of Tryz.func172 (by kernel_rfl) rfl) (fun s t w=>(byLoC s t w).mono (by
  rintro e w' ⟨rfl,a,b,c,rfl⟩
  exact ⟨rfl,_,by rw [alloc_eq_grow,alloc_eq_grow,alloc_eq_grow,grow_grow,grow_grow]⟩)) base g n C l w h hn hb
theorem sortHiC (base g n C:Nat) (l:List Sp) (w:World) (h:KSp.row w base (.slice (some ⟨g,0,none⟩) n C) l) (hn:l.length=n) (hb:n<1000000) :
 Calls Tryz.prog 171 #[.slice (some ⟨g,0,none⟩) n C,.func (.func 237) #[] #[]] w (SortFPost w base g n C l fun s t=>cmpHi t s):=
 sortFuncC _ (fun s t=>cmpHi t s) swoHi (enters_of Tryz.func237 (by kernel_rfl) rfl) (fun s t w=>(fallHiC s t w).mono (by
  rintro e w' ⟨rfl,a,b,c,d,f,rfl⟩
  exact ⟨rfl,_,by rw [alloc_eq_grow,alloc_eq_grow,alloc_eq_grow,alloc_eq_grow,alloc_eq_grow,grow_grow,grow_grow,grow_grow,grow_grow]⟩)) base g n C l w h hn hb
open Go.RowKit
def KnAt (w:World):Kn→Value→List Nat→Prop
 |.nil,p,F=>p=.pointer none∧F = []
 |.node m lo hi l r,p,F=>∃(b:Nat) (vlo vhi pl pr:Value) (Fl Fr:List Nat),p=.pointer (some ⟨b,0,none⟩)∧w.heap[b]? = some (.cells #[.int .i64 m,vlo,vhi,pl,pr] 258 (0,0))∧
  (KSp.row w 0 vlo lo∧KSp.row w 0 vhi hi)∧KnAt w l pl Fl∧KnAt w r pr Fr∧F=b::(blk vlo++(blk vhi++(Fl++Fr)))∧F.Nodup
theorem KnAt.upd {w w':World} {G:List Nat} (hu:Upd G w w'):∀{T:Kn} {p:Value} {F:List Nat},KnAt w T p F→(∀k∈F,k∉G)→KnAt w' T p F
 |.nil,p,F,h,_=>h
 |.node m lo hi l r,p,F,h,hd=>by
  obtain ⟨b,vlo,vhi,pl,pr,Fl,Fr,rfl,h1,⟨h2,h3⟩,h4,h5,rfl,h6⟩:=h
  simp only [List.mem_cons,List.mem_append] at hd
  exact ⟨b,vlo,vhi,pl,pr,Fl,Fr,rfl,(hu.block b (lt_of_block h1) (hd b (.inl rfl))).trans h1,⟨own_upd h2 hu (fun k hk=>hd k (.inr (.inl hk))),own_upd h3 hu (fun k hk=>hd k (.inr (.inr (.inl hk))))⟩,
   KnAt.upd hu h4 (fun k hk=>hd k (.inr (.inr (.inr (.inl hk))))),KnAt.upd hu h5 (fun k hk=>hd k (.inr (.inr (.inr (.inr hk))))),rfl,h6⟩
theorem KnAt.upd0 {w w':World} (hu:Upd [] w w') {T:Kn} {p:Value} {F:List Nat} (h:KnAt w T p F):KnAt w' T p F:=h.upd hu (by simp)
theorem KnAt.lt {w:World}:∀{T:Kn} {p:Value} {F:List Nat},KnAt w T p F→∀k∈F,k<w.heap.size
 |.nil,p,F,h=>by obtain ⟨-,rfl⟩:=h;simp
 |.node m lo hi l r,p,F,h=>by
  obtain ⟨b,vlo,vhi,pl,pr,Fl,Fr,rfl,h1,⟨h2,h3⟩,h4,h5,rfl,h6⟩:=h
  intro k hk
  simp only [List.mem_cons,List.mem_append] at hk
  rcases hk with rfl | hk | hk | hk | hk
  ·exact lt_of_block h1
  ·exact own_lt h2 k hk
  ·exact own_lt h3 k hk
  ·exact KnAt.lt h4 k hk
  ·exact KnAt.lt h5 k hk
structure GrL (w:World) (K:Nat) (m:Int) (vlo vu vv:Value) (lo u v:List Sp):Prop where
 head:w.heap[K]? = some (.cells #[.int .i64 m,vlo,.slice none 0 0,.pointer none,.pointer none] 258 (0,0))
 lo:KSp.row w (K+1) vlo lo
 u:KSp.row w (K+1) vu u
 v:KSp.row w (K+1) vv v
 lu:∀y∈blk vlo,y∉blk vu
 lv:∀y∈blk vlo,y∉blk vv
 uv:∀y∈blk vu,y∉blk vv
theorem GrL.upd0 {w w':World} {K:Nat} {m:Int} {vlo vu vv:Value} {lo u v:List Sp} (h:GrL w K m vlo vu vv lo u v) (hu:Upd [] w w'):GrL w' K m vlo vu vv lo u v:=
 ⟨(hu.block K (lt_of_block h.head) (by simp)).trans h.head,own_upd h.lo hu (by simp),own_upd h.u hu (by simp),own_upd h.v hu (by simp),h.lu,h.lv,h.uv⟩
theorem GrL.appU {w w2:World} {K:Nat} {m:Int} {vlo vu vv vn:Value} {lo u v un:List Sp} (h:GrL w K m vlo vu vv lo u v) (hu:Upd (blk vu) w w2) (hr:KSp.row w2 (K+1) vn un) (hb:blk vn=blk vu∨blk vn = [w.heap.size]) :
 GrL w2 K m vlo vn vv lo un v:=by
 have hK:K∉blk vu:=fun hc=>by have:=own_ge h.u K hc;omega
 refine ⟨(hu.block K (lt_of_block h.head) hK).trans h.head,own_upd h.lo hu h.lu,hr,own_upd h.v hu (fun y hy hc=>h.uv y hc hy),fun y hy hc=>?_,h.lv,fun y hy hc=>?_⟩
 ·rcases hb with hb | hb
  ·rw [hb] at hc;exact h.lu y hy hc
  ·rw [hb] at hc;simp at hc;have:=own_lt h.lo y hy;omega
 ·rcases hb with hb | hb
  ·rw [hb] at hy;exact h.uv y hy hc
  ·rw [hb] at hy;simp at hy;have:=own_lt h.v y hc;omega
theorem GrL.appV {w w2:World} {K:Nat} {m:Int} {vlo vu vv vn:Value} {lo u v un:List Sp} (h:GrL w K m vlo vu vv lo u v) (hu:Upd (blk vv) w w2) (hr:KSp.row w2 (K+1) vn un) (hb:blk vn=blk vv∨blk vn = [w.heap.size]) :
 GrL w2 K m vlo vu vn lo u un:=by
 have hK:K∉blk vv:=fun hc=>by have:=own_ge h.v K hc;omega
 refine ⟨(hu.block K (lt_of_block h.head) hK).trans h.head,own_upd h.lo hu h.lv,own_upd h.u hu h.uv,hr,h.lu,fun y hy hc=>?_,fun y hy hc=>?_⟩
 ·rcases hb with hb | hb
  ·rw [hb] at hc;exact h.lv y hy hc
  ·rw [hb] at hc;simp at hc;have:=own_lt h.lo y hy;omega
 ·rcases hb with hb | hb
  ·rw [hb] at hc;exact h.uv y hy hc
  ·rw [hb] at hc;simp at hc;have:=own_lt h.u y hy;omega
theorem GrL.appL {w w2:World} {K:Nat} {m:Int} {vlo vu vv vn:Value} {lo u v un:List Sp} (h:GrL w K m vlo vu vv lo u v) (hu:Upd (blk vlo) w w2) (hr:KSp.row w2 (K+1) vn un) (hb:blk vn=blk vlo∨blk vn = [w.heap.size]) :
 GrL (w2.setCell ⟨K,1,none⟩ vn) K m vn vu vv un u v:=by
 have hK:K∉blk vlo:=fun hc=>by have:=own_ge h.lo K hc;omega
 have hs:Upd [K] w2 (w2.setCell ⟨K,1,none⟩ vn):=(Upd.refl _ _).setCell (p:=⟨K,1,none⟩) (.inl (by simp)) _
 have hn:∀{x:Value} {l:List Sp},KSp.row w2 (K+1) x l→∀y∈blk x,y∉[K]:=fun hx y hy hc=>by simp at hc;have:=own_ge hx y hy;omega
 have h2:=(hu.block K (lt_of_block h.head) hK).trans h.head
 have r1:=own_upd h.u hu (fun y hy hc=>h.lu y hc hy)
 have r2:=own_upd h.v hu (fun y hy hc=>h.lv y hc hy)
 refine ⟨heap_set h2 1 _,own_upd hr hs (hn hr),own_upd r1 hs (hn r1),own_upd r2 hs (hn r2),fun y hy hc=>?_,fun y hy hc=>?_,h.uv⟩
 ·rcases hb with hb | hb
  ·rw [hb] at hy;exact h.lu y hy hc
  ·rw [hb] at hy;simp at hy;have:=own_lt h.u y hc;omega
 ·rcases hb with hb | hb
  ·rw [hb] at hy;exact h.lv y hy hc
  ·rw [hb] at hy;simp at hy;have:=own_lt h.v y hc;omega
theorem GrL.cells {w:World} {K:Nat} {m:Int} {vlo vu vv:Value} {lo u v:List Sp} (h:GrL w K m vlo vu vv lo u v) :
 w.cell? ⟨K,0,none⟩=some (.int .i64 m)∧w.cell? ⟨K,1,none⟩=some vlo∧w.cell? ⟨K,2,none⟩=some (.slice none 0 0)∧∀j,w.frozen? ⟨K,j,none⟩=false:=by
 have:=h.head
 refine ⟨?_,?_,?_,?_⟩<;>simp [World.cell?,World.frozen?,this]
theorem sortHiAny (base:Nat) (v:Value) (l:List Sp) (w:World) (h:KSp.row w base v l) (hb:l.length<1000000) :
 Calls Tryz.prog 171 #[v,.func (.func 237) #[] #[]] w fun e w'=>
  e=.returned (.tuple #[])∧Upd (blk v) w w'∧∃l':List Sp,l'.Perm l∧l'.Pairwise (fun a b=>b.hi≤a.hi)∧KSp.row w' base v l':=by
 rcases h.2 with ⟨rfl,hn⟩ | ⟨g,cap,cur,rfl,h3⟩
 ·refine (sortFuncNone _ 0 none w).mono ?_
  rintro e w' ⟨rfl,rfl⟩
  have hl:l = []:=List.eq_nil_of_length_eq_zero hn
  subst hl
  exact ⟨rfl,Upd.refl _ _,[],List.Perm.refl _,List.Pairwise.nil,h⟩
 ·refine (sortHiC base g l.length cap l w h rfl hb).mono ?_
  rintro e w' ⟨rfl,h4,l',h5,h6,h7⟩
  refine ⟨rfl,h4,l',h5,h6.imp ?_,h7⟩
  intro a b hab
  unfold cmpHi at hab
  rw [byI_lt] at hab
  omega
theorem sortLoAny (base:Nat) (v:Value) (l:List Sp) (w:World) (h:KSp.row w base v l) (hb:l.length<1000000) :
 Calls Tryz.prog 171 #[v,.func (.func 172) #[] #[]] w fun e w'=>
  e=.returned (.tuple #[])∧Upd (blk v) w w'∧∃l':List Sp,l'.Perm l∧l'.Pairwise (fun a b=>a.lo≤b.lo)∧KSp.row w' base v l':=by
 rcases h.2 with ⟨rfl,hn⟩ | ⟨g,cap,cur,rfl,h3⟩
 ·refine (sortFuncNone _ 0 none w).mono ?_
  rintro e w' ⟨rfl,rfl⟩
  have hl:l = []:=List.eq_nil_of_length_eq_zero hn
  subst hl
  exact ⟨rfl,Upd.refl _ _,[],List.Perm.refl _,List.Pairwise.nil,h⟩
 ·refine (sortLoC base g l.length cap l w h rfl hb).mono ?_
  rintro e w' ⟨rfl,h4,l',h5,h6,h7⟩
  refine ⟨rfl,h4,l',h5,h6.imp ?_,h7⟩
  intro a b hab
  unfold cmpLo at hab
  rw [byI_lt] at hab
  omega
structure GrM (w:World) (K:Nat) (m:Int) (vlo vhi:Value) (lo hi:List Sp):Prop where
 head:w.heap[K]? = some (.cells #[.int .i64 m,vlo,vhi,.pointer none,.pointer none] 258 (0,0))
 lo:KSp.row w (K+1) vlo lo
 hi:KSp.row w (K+1) vhi hi
 lh:∀y∈blk vlo,y∉blk vhi
theorem GrM.upd0 {w w':World} {K:Nat} {m:Int} {vlo vhi:Value} {lo hi:List Sp} (h:GrM w K m vlo vhi lo hi) (hu:Upd [] w w'):GrM w' K m vlo vhi lo hi:=
 ⟨(hu.block K (lt_of_block h.head) (by simp)).trans h.head,own_upd h.lo hu (by simp),own_upd h.hi hu (by simp),h.lh⟩
theorem GrM.cells {w:World} {K:Nat} {m:Int} {vlo vhi:Value} {lo hi:List Sp} (h:GrM w K m vlo vhi lo hi) :
 w.cell? ⟨K,0,none⟩=some (.int .i64 m)∧w.cell? ⟨K,1,none⟩=some vlo∧w.cell? ⟨K,2,none⟩=some vhi∧∀j,w.frozen? ⟨K,j,none⟩=false:=by
 have:=h.head
 refine ⟨?_,?_,?_,?_⟩<;>simp [World.cell?,World.frozen?,this]
theorem blk_one (v:Value) {w:World} {base:Nat} {l:List Sp} (h:KSp.row w base v l):(blk v).Nodup:=by
 rcases h.2 with ⟨rfl,-⟩ | ⟨g,cap,cur,rfl,-⟩<;>simp [blk]
theorem GrM.kids {w:World} {K:Nat} {m:Int} {vlo vhi pl pr:Value} {lo hi:List Sp} {Tl Tr:Kn} {Fl Fr:List Nat} (h:GrM w K m vlo vhi lo hi) (hl:KnAt w Tl pl Fl) (hr:KnAt w Tr pr Fr) {B:Nat}
 (hK:K<B) (h1:∀y∈blk vlo,y<B) (h2:∀y∈blk vhi,y<B) (hFl:∀k∈Fl,B≤k) (hFr:∀k∈Fr,B≤k) (hd:∀k∈Fl,k∉Fr) (hnl:Fl.Nodup) (hnr:Fr.Nodup) :
 KnAt ((w.setCell ⟨K,3,none⟩ pl).setCell ⟨K,4,none⟩ pr) (.node m lo hi Tl Tr) (.pointer (some ⟨K,0,none⟩)) (K::(blk vlo++(blk vhi++(Fl++Fr))))∧Upd [K] w ((w.setCell ⟨K,3,none⟩ pl).setCell ⟨K,4,none⟩ pr):=by
 have hs:Upd [K] w ((w.setCell ⟨K,3,none⟩ pl).setCell ⟨K,4,none⟩ pr):=((Upd.refl _ _).setCell (p:=⟨K,3,none⟩) (.inl (by simp)) _).setCell (p:=⟨K,4,none⟩) (.inl (by simp)) _
 have gl:=own_ge h.lo
 have gh:=own_ge h.hi
 refine ⟨⟨K,vlo,vhi,pl,pr,Fl,Fr,rfl,heap_set (heap_set h.head 3 _) 4 _,⟨own_base (own_upd h.lo hs (fun y hy hc=>by simp at hc;have:=gl y hy;omega)) (Nat.zero_le _),own_base (own_upd h.hi hs (fun y hy hc=>by simp at hc;have:=gh y hy;omega)) (Nat.zero_le _)⟩,
  hl.upd hs (fun k hk hc=>by simp at hc;have:=hFl k hk;omega),hr.upd hs (fun k hk hc=>by simp at hc;have:=hFr k hk;omega),rfl,?_⟩,hs⟩
 rw [List.nodup_cons,List.nodup_append,List.nodup_append,List.nodup_append]
 refine ⟨?_,blk_one _ h.lo,⟨blk_one _ h.hi,⟨hnl,hnr,fun a ha b hb e=>hd a ha (e ▸ hb)⟩,?_⟩,?_⟩
 ·simp only [List.mem_append]
  rintro (hc | hc | hc | hc)
  ·have:=gl K hc;omega
  ·have:=gh K hc;omega
  ·have:=hFl K hc;omega
  ·have:=hFr K hc;omega
 ·intro a ha b hb e
  subst e
  rcases List.mem_append.1 hb with hb | hb
  ·have:=h2 a ha;have:=hFl a hb;omega
  ·have:=h2 a ha;have:=hFr a hb;omega
 ·intro a ha b hb e
  subst e
  simp only [List.mem_append] at hb
  rcases hb with hb | hb | hb
  ·exact h.lh a ha hb
  ·have:=h1 a ha;have:=hFl a hb;omega
  ·have:=h1 a ha;have:=hFr a hb;omega
theorem KnAt.ptr {w:World} {T:Kn} {p:Value} {F:List Nat} (h:KnAt w T p F):∃q,p=.pointer q:=by
 cases T with
 |nil=>obtain ⟨rfl,-⟩:=h;exact ⟨_,rfl⟩
 |node m lo hi l r=>obtain ⟨_,_,_,_,_,_,_,rfl,-⟩:=h;exact ⟨_,rfl⟩
theorem KnAt.nodup {w:World} {T:Kn} {p:Value} {F:List Nat} (h:KnAt w T p F):F.Nodup:=by
 cases T with
 |nil=>obtain ⟨-,rfl⟩:=h;exact List.nodup_nil
 |node m lo hi l r=>obtain ⟨_,_,_,_,_,_,_,-,-,-,-,-,-,h6⟩:=h;exact h6
def GrowIn (E:List Int) (L:List Sp):Prop:=E.Pairwise (· < ·)∧(∀s∈L,s.lo∈E∧s.hi∈E∧s.lo≤s.hi)∧L.Pairwise fun a b=>a.lo≤b.lo
theorem split_at {E:List Int} {a:Nat} {m:Int} (h:E[a]? = some m):E=E.take a++m::E.drop (a+1):=by
 obtain ⟨h1,rfl⟩:=List.getElem?_eq_some_iff.1 h
 rw [←List.drop_eq_getElem_cons h1,List.take_append_drop]
theorem GrowIn.less {E:List Int} {L:List Sp} (h:GrowIn E L) {a:Nat} {m:Int} (ha:E[a]? = some m):GrowIn (E.take a) (lessS m L):=by
 obtain ⟨h1,h2,h3⟩:=h
 have hs:=split_at ha
 have hp:=h1
 rw [hs,List.pairwise_append,List.pairwise_cons] at hp
 have hin:∀x∈E,x<m→x∈E.take a:=fun x hx hm=>by
  rw [hs,List.mem_append,List.mem_cons] at hx
  rcases hx with hx | hx | hx
  ·exact hx
  ·omega
  ·have:=hp.2.1.1 x hx;omega
 refine ⟨hp.1,fun s hs=>?_,h3.filter _⟩
 unfold lessS at hs
 simp at hs
 obtain ⟨g1,g2,g3⟩:=h2 s hs.1
 exact ⟨hin _ g1 (by omega),hin _ g2 hs.2,g3⟩
theorem GrowIn.more {E:List Int} {L:List Sp} (h:GrowIn E L) {a:Nat} {m:Int} (ha:E[a]? = some m):GrowIn (E.drop (a+1)) (moreS m L):=by
 obtain ⟨h1,h2,h3⟩:=h
 have hs:=split_at ha
 have hp:=h1
 rw [hs,List.pairwise_append,List.pairwise_cons] at hp
 have hin:∀x∈E,m<x→x∈E.drop (a+1):=fun x hx hm=>by
  rw [hs,List.mem_append,List.mem_cons] at hx
  rcases hx with hx | hx | hx
  ·have:=hp.2.2 x hx m (by simp);omega
  ·omega
  ·exact hx
 refine ⟨hp.2.1.2,fun s hs=>?_,h3.filter _⟩
 unfold moreS at hs
 simp at hs
 obtain ⟨g1,g2,g3⟩:=h2 s hs.1
 exact ⟨hin _ g1 hs.2.2,hin _ g2 (by omega),g3⟩
theorem step_less {L:List Sp} {k:Nat} {s:Sp} {m:Int} (h:L[k]? = some s) (h1:s.hi<m):lessS m (L.take (k+1))=lessS m (L.take k)++[s]∧midS m (L.take (k+1))=midS m (L.take k)∧moreS m (L.take (k+1))=moreS m (L.take k):=by
 obtain ⟨g1,g2⟩:=List.getElem?_eq_some_iff.1 h
 unfold lessS midS moreS
 rw [List.take_succ_eq_append_getElem g1,g2,List.filter_append,List.filter_append,List.filter_append]
 simp [h1]
theorem step_more {L:List Sp} {k:Nat} {s:Sp} {m:Int} (h:L[k]? = some s) (h1:¬s.hi<m) (h2:m<s.lo):lessS m (L.take (k+1))=lessS m (L.take k)∧midS m (L.take (k+1))=midS m (L.take k)∧moreS m (L.take (k+1))=moreS m (L.take k)++[s]:=by
 obtain ⟨g1,g2⟩:=List.getElem?_eq_some_iff.1 h
 unfold lessS midS moreS
 rw [List.take_succ_eq_append_getElem g1,g2,List.filter_append,List.filter_append,List.filter_append]
 have h1':m≤s.hi:=by omega
 simp [h1',h2]
theorem step_mid {L:List Sp} {k:Nat} {s:Sp} {m:Int} (h:L[k]? = some s) (h1:¬s.hi<m) (h2:¬m<s.lo):lessS m (L.take (k+1))=lessS m (L.take k)∧midS m (L.take (k+1))=midS m (L.take k)++[s]∧moreS m (L.take (k+1))=moreS m (L.take k):=by
 obtain ⟨g1,g2⟩:=List.getElem?_eq_some_iff.1 h
 unfold lessS midS moreS
 rw [List.take_succ_eq_append_getElem g1,g2,List.filter_append,List.filter_append,List.filter_append]
 have h1':m≤s.hi:=by omega
 have h2':s.lo≤m:=by omega
 simp [h1',h2']
def GrownPost (w:World) (E:List Int) (L:List Sp) (e:Ending) (w':World):Prop:=
 Upd [] w w'∧∃(p:Value) (F:List Nat) (T:Kn),e=.returned p∧KnAt w' T p F∧(∀k∈F,w.heap.size≤k)∧T.depth≤bitsN E.length∧T.ok L
def KeepG (w:World) (K q:Nat) (vlo:Value) (s:Sp):Prop:=
 w.cell? ⟨K,1,none⟩=some vlo∧w.cell? ⟨q,0,none⟩=some (.int .i64 s.lo)∧w.cell? ⟨q,1,none⟩=some (.int .i64 s.hi)∧w.cell? ⟨q,2,none⟩=some (.int .u32 (s.id:Int))
theorem KeepG.upd {w w':World} {K q:Nat} {vlo:Value} {s:Sp} (h:KeepG w K q vlo s) {F:List Nat} (hu:Upd F w w') (h1:K∉F) (h2:q∉F):KeepG w' K q vlo s:=
 ⟨(hu.cell (World.block_lt_of_cell? w _ h.1) h1).trans h.1,(hu.cell (World.block_lt_of_cell? w _ h.2.1) h2).trans h.2.1,(hu.cell (World.block_lt_of_cell? w _ h.2.2.1) h2).trans h.2.2.1,(hu.cell (World.block_lt_of_cell? w _ h.2.2.2) h2).trans h.2.2.2⟩
theorem row_app {w w1:World} {base:Nat} {v:Value} {l:List Sp} {s:Sp} {A:Option Addr} {C:Nat} (HP:AppPost w w1 base 62 3 v l.length (KSp.all l) 1 (KSp.enc s) A C):KSp.row w1 base (.slice A (l.length+1) C) (l++[s]):=by
 have h1:=HP.own
 unfold Kind.row
 rw [List.length_append,KSp.all_app]
 exact h1
theorem grownNil (E:List Int) (L:List Sp) (ve vl:Value) (w:World) (hE:E.length=0) (hin:GrowIn E L) (hve:See KL w ve E) :
 Calls Tryz.prog 173 #[ve,vl] w (GrownPost w E L):=by
 obtain ⟨A,C,rfl⟩:=hve.form
 have hE0:E = []:=List.eq_nil_of_length_eq_zero hE
 subst hE0
 have hL0:L = []:=List.eq_nil_iff_forall_not_mem.2 fun s hs=>by have:=(hin.2.1 s hs).1;simp at this
 clear hve hin hE
 go_enter Tryz.func173,Tryz.ntmps173
 go_wp2_with fail
 go_ret
 exact ⟨Upd.refl _ _,_,[],.nil,rfl,⟨rfl,rfl⟩,by simp,Nat.zero_le _,hL0⟩
theorem grownC:∀(h:Nat) (E:List Int) (L:List Sp) (ve vl:Value) (w:World),E.length≤h→E.length<1000000→L.length<1000000→GrowIn E L→See KL w ve E→See KSp w vl L→
 Calls Tryz.prog 173 #[ve,vl] w (GrownPost w E L):=by
 obtain ⟨i1,hi1,hy0,hy1,hy2⟩:=info_parts infoSpanD
 obtain ⟨i0,hi0,hx0,hx1,hx2⟩:=info_parts info_int64
 intro h
 induction h with
 |zero=>
  intro E L ve vl w hE hEb hLb hin hve hvl
  exact grownNil E L ve vl w (by omega) hin hve
 |succ h ih=>
  intro E L ve vl w hE hEb hLb hin hve hvl
  by_cases hE0:E.length=0
  ·exact grownNil E L ve vl w hE0 hin hve
  have hIH:=ih
  obtain ⟨A,C,rfl⟩:=hve.form
  obtain ⟨B,D,rfl⟩:=hvl.form
  obtain ⟨n,hn⟩:∃n,E.length=n:=⟨_,rfl⟩
  obtain ⟨N,hN⟩:∃N,L.length=N:=⟨_,rfl⟩
  obtain ⟨a,ha⟩:∃a,(n - 1) / 2=a:=⟨_,rfl⟩
  rw [hn] at hE hEb hE0 hve ⊢
  rw [hN] at hLb hvl ⊢
  have han:a<n:=by omega
  obtain ⟨m,hm⟩:∃m,E[a]? = some m:=⟨_,List.getElem?_eq_getElem (by omega)⟩
  obtain ⟨b,o,hA,-,-,hcell⟩:=KL.at hve hm
  subst hA
  have hcv:Value.int .i64 (((n:Int) - 1) / 2)=Value.int .i64 (a:Int):=by congr 1;omega
  have hq0:((n:Int)==0)=false:=by simpa using hE0
  have a0:(0:Int)≤(a:Int):=Int.natCast_nonneg _
  have a1:(a:Int)<(n:Int):=by omega
  have n1:(n:Int)<1000000:=by omega
  have n0:(1:Int)≤(n:Int):=by omega
  have HIH:=Lib.hid hIH
  have HV:=Lib.hid (And.intro hve hvl)
  have HN:=Lib.hid (And.intro hn (And.intro hN (And.intro ha hm)))
  have HIN:=Lib.hid hin
  have HW0:=Lib.hid ((Upd.refl [] w).alloc (.cells #[.int .i64 m,.slice none 0 0,.slice none 0 0,.pointer none,.pointer none] 258))
  have hz0:w.heap.size<(w.alloc (.cells #[.int .i64 m,.slice none 0 0,.slice none 0 0,.pointer none,.pointer none] 258)).heap.size:=by simp
  have hgr0:GrL (w.alloc (.cells #[.int .i64 m,.slice none 0 0,.slice none 0 0,.pointer none,.pointer none] 258)) w.heap.size m (.slice none 0 0) (.slice none 0 0) (.slice none 0 0) [] [] []:=
   ⟨by show (w.heap.push _)[w.heap.size]? = _;exact Array.getElem?_push_size,World.ownsRow_nil _ _ _ _,World.ownsRow_nil _ _ _ _,World.ownsRow_nil _ _ _ _,by simp [blk],by simp [blk],by simp [blk]⟩
  have HGR0:=Lib.hid hgr0
  have HEH:=Lib.hid hE
  have hwr:IntKind.i64.wrap ((a:Int)+1)=(a:Int)+1:=by simp [IntKind.wrap,IntKind.bits,IntKind.signed];omega
  have HWR:=Lib.hid hwr
  clear hIH ih hve hvl hn hN ha hm hin hgr0 hE hE0 hwr
  go_enter Tryz.func173,Tryz.ntmps173
  go_upto_region 5 with fail
  simp only [hcv]
  clear hcv
  generalize (w.alloc (.cells #[.int .i64 m,.slice none 0 0,.slice none 0 0,.pointer none,.pointer none] 258))=W0 at HW0 hz0 HGR0 ⊢
  obtain ⟨K,hK⟩:∃K,w.heap.size=K:=⟨_,rfl⟩
  rw [hK] at hz0 HGR0 ⊢
  have HK:=Lib.hid hK
  clear hcell hK
  go_wp2_with fail
  go_loopg [7,8,26] N (fun m' s7 s8 s26 wr=>∃(k:Nat) (vlo:Value),m'+k=N∧s26=.int .i64 (k:Int)∧GrL wr K m vlo s7 s8 (midS m (L.take k)) (lessS m (L.take k)) (moreS m (L.take k))∧Upd [] w wr)
  case atStart=>exact ⟨0,.slice none 0 0,rfl,rfl,HGR0.out,HW0.out⟩
  case round=>
   obtain ⟨k,vlo,hk,rfl,hg,hup⟩:=hrel
   have k0:(0:Int)≤(k:Int):=Int.natCast_nonneg _
   have hkN:k≤N:=by omega
   by_cases hlt:k<N
   ·obtain ⟨s,hs⟩:∃s,L[k]? = some s:=⟨_,List.getElem?_eq_getElem (by rw [HN.out.2.1];exact hlt)⟩
    have hse:See KSp wr (.slice B N D) L:=HV.out.2.upd0 hup
    obtain ⟨g,og,hB,-,-,ey⟩:=hse.at hs
    subst hB
    have y0:wr.cell? ⟨g,og+k*3,none⟩=some (.int .i64 s.lo):=ey 0 _ rfl
    have y1:wr.cell? ⟨g,og+k*3+1,none⟩=some (.int .i64 s.hi):=ey 1 _ rfl
    have y2:wr.cell? ⟨g,og+k*3+2,none⟩=some (.int .u32 (s.id:Int)):=ey 2 _ rfl
    have b1:(k:Int)<(N:Int):=by omega
    have hlen:(midS m (L.take k)).length≤k∧(lessS m (L.take k)).length≤k∧(moreS m (L.take k)).length≤k:=by
     have h0:(L.take k).length≤k:=by rw [List.length_take];omega
     exact ⟨Nat.le_trans (List.length_filter_le _ _) h0,Nat.le_trans (List.length_filter_le _ _) h0,Nat.le_trans (List.length_filter_le _ _) h0⟩
    have HLEN:=Lib.hid (And.intro (show (midS m (L.take k)).length+1≤1000000 by omega) (And.intro (show (lessS m (L.take k)).length+1≤1000000 by omega) (show (moreS m (L.take k)).length+1≤1000000 by omega)))
    have HS:=Lib.hid hs
    have HKK:=Lib.hid (And.intro hk hkN)
    have HG:=Lib.hid hg
    have HU:=Lib.hid hup
    clear hse ey hlen hs hg hup hk hkN
    obtain ⟨wl,hwl⟩:∃wl:World,wl=wr:=⟨_,rfl⟩
    subst hwl
    go_upto_region 10 with fail
    have hu2:Upd [] wl (wl.alloc (.cells #[.int .i64 s.lo,.int .i64 s.hi,.int .u32 (s.id:Int)] 62)):=(Upd.refl _ _).alloc _
    have d0:(wl.alloc (.cells #[.int .i64 s.lo,.int .i64 s.hi,.int .u32 (s.id:Int)] 62)).cell? ⟨wl.heap.size,0,none⟩=some (.int .i64 s.lo):=by rw [World.cell?_alloc_at _ _ _ _ rfl];rfl
    have d1:(wl.alloc (.cells #[.int .i64 s.lo,.int .i64 s.hi,.int .u32 (s.id:Int)] 62)).cell? ⟨wl.heap.size,1,none⟩=some (.int .i64 s.hi):=by rw [World.cell?_alloc_at _ _ _ _ rfl];rfl
    have d2:(wl.alloc (.cells #[.int .i64 s.lo,.int .i64 s.hi,.int .u32 (s.id:Int)] 62)).cell? ⟨wl.heap.size,2,none⟩=some (.int .u32 (s.id:Int)):=by rw [World.cell?_alloc_at _ _ _ _ rfl];rfl
    generalize (wl.alloc (.cells #[.int .i64 s.lo,.int .i64 s.hi,.int .u32 (s.id:Int)] 62))=W2 at hu2 d0 d1 d2 ⊢
    obtain ⟨q,hq⟩:∃q,wl.heap.size=q:=⟨_,rfl⟩
    have hqK:K<q:=by have h1:=lt_of_block HG.out.head;omega
    have hql:∀y∈blk vlo,y≠q:=fun y hy hc=>by have h1:=own_lt HG.out.lo y hy;omega
    rw [hq] at d0 d1 d2 ⊢
    have hg2:=HG.out.upd0 hu2
    have hK0:=hg2.cells.1
    have hz2:W0.heap.size≤W2.heap.size∨K+1≤W2.heap.size:=.inr (by have h1:=lt_of_block hg2.head;omega)
    have HG2:=Lib.hid hg2
    have HU2:=Lib.hid (HU.out.trans hu2)
    have HQ:=Lib.hid (And.intro hqK hql)
    clear hg2 hu2 y0 y1 y2 hq hqK hql hz2
    by_cases h1:s.hi<m
    ·have HST:=Lib.hid (step_less HS.out h1)
     go_wp2_with fail
     go_quiet (fail)
     (go_wp2_with (at_builtin;refine wpList_app _ rfl _ _ 56 rfl (K+1) 62 i1 _ 3 24 Tryz.underlying56 hi1 hy0 hy1 hy2 rfl (by decide) _ _ _ rfl (own_upd HG2.out.u (((Upd.refl [] W2).drewN _).alloc _) (by simp)) _ 1 (KSp.enc s) rfl (sees_lit _ #[.int .i64 s.lo,.int .i64 s.hi,.int .u32 (s.id:Int)] 62 3 1 rfl (by decide)) (KSp.one s) (by have:=HLEN.out.2.1;unfold maxLen;omega) (by have:=HLEN.out.2.1;omega) (by have h1:=lt_of_block HG2.out.head;simp;omega) ?_))
     intro A1 C1 w1 HP
     have hga:=GrL.appU (HG2.out.upd0 (((Upd.refl [] W2).drewN _).alloc _)) HP.upd (row_app HP) HP.at
     have hua:=(HU2.out.trans (((Upd.refl [] W2).drewN _).alloc _)).trans' HP.upd (fun y hy=>.inr (by have h1:=own_ge HG2.out.u y hy;have h2:=HK.out;omega))
     have HE:=Lib.hid (And.intro hga hua)
     clear hga hua HP
     go_wp2_with fail
     go_roundg (N - (k+1))
     case measure=>have:=HKK.out.1;omega
     case rel=>
      obtain ⟨e1,e2,e3⟩:=HST.out
      exact ⟨k+1,vlo,by have:=HKK.out.1;omega,by go_num,by rw [e1,e2,e3];exact HE.out.1,HE.out.2⟩
    ·by_cases h2:m<s.lo
     ·have HST:=Lib.hid (step_more HS.out h1 h2)
      have q1:decide (s.hi<m)=false:=decide_eq_false h1
      have H2:=Lib.hid (decide_eq_true h2)
      clear h1 h2
      go_wp2_with fail
      go_quiet (fail)
      clear q1
      have q2:decide (m<s.lo)=true:=H2.out
      go_wp2_with fail
      go_quiet (fail)
      clear q2
      (go_wp2_with (at_builtin;refine wpList_app _ rfl _ _ 56 rfl (K+1) 62 i1 _ 3 24 Tryz.underlying56 hi1 hy0 hy1 hy2 rfl (by decide) _ _ _ rfl (own_upd HG2.out.v (((Upd.refl [] W2).drewN _).alloc _) (by simp)) _ 1 (KSp.enc s) rfl (sees_lit _ #[.int .i64 s.lo,.int .i64 s.hi,.int .u32 (s.id:Int)] 62 3 1 rfl (by decide)) (KSp.one s) (by have:=HLEN.out.2.2;unfold maxLen;omega) (by have:=HLEN.out.2.2;omega) (by have h1:=lt_of_block HG2.out.head;simp;omega) ?_))
      intro A1 C1 w1 HP
      have hga:=GrL.appV (HG2.out.upd0 (((Upd.refl [] W2).drewN _).alloc _)) HP.upd (row_app HP) HP.at
      have hua:=(HU2.out.trans (((Upd.refl [] W2).drewN _).alloc _)).trans' HP.upd (fun y hy=>.inr (by have h1:=own_ge HG2.out.v y hy;have h2:=HK.out;omega))
      have HE:=Lib.hid (And.intro hga hua)
      clear hga hua HP
      go_wp2_with fail
      go_roundg (N - (k+1))
      case measure=>have:=HKK.out.1;omega
      case rel=>
       obtain ⟨e1,e2,e3⟩:=HST.out
       exact ⟨k+1,vlo,by have:=HKK.out.1;omega,by go_num,by rw [e1,e2,e3];exact HE.out.1,HE.out.2⟩
     ·have HST:=Lib.hid (step_mid HS.out h1 h2)
      have q1:decide (s.hi<m)=false:=decide_eq_false h1
      have H2:=Lib.hid (decide_eq_false h2)
      clear h1 h2
      go_wp2_with fail
      go_quiet (fail)
      clear q1
      have q2:decide (m<s.lo)=false:=H2.out
      go_wp2_with fail
      go_quiet (fail)
      clear q2
      go_upto_region 9 with fail
      generalize hwq:(W2.drewN _).drewN _=Wq
      have huq:Upd [] W2 Wq:=hwq ▸ ((Upd.refl [] W2).drewN _).drewN _
      have HKG:=Lib.hid (KeepG.upd (w':=Wq.drew) ⟨HG2.out.cells.2.1,d0,d1,d2⟩ huq.drew (by simp) (by simp))
      have HGA:=Lib.hid (HG2.out.upd0 (huq.drew.alloc (.cells #[.int .i64 s.lo,.int .i64 s.hi,.int .u32 (s.id:Int)] 62)))
      have HUA:=Lib.hid (HU2.out.trans (huq.drew.alloc (.cells #[.int .i64 s.lo,.int .i64 s.hi,.int .u32 (s.id:Int)] 62)))
      have HZA:=Lib.hid (show K+1≤(Wq.drew.alloc (.cells #[.int .i64 s.lo,.int .i64 s.hi,.int .u32 (s.id:Int)] 62)).heap.size from by have h1:=lt_of_block HGA.out.head;omega)
      clear huq hwq d0 d1 d2 hK0
      refine GoT.start [7,8,9,10] (fun w'=>KeepG w' K q vlo s) (by kernel_rfl) ?_ fun hS=>?_
      ·exact HKG.out
      refine' GoT.mv (i:=0) (oi:=⟨some 30,_,_,_,_,_⟩) rfl (by rfl) ?y9_0 ?_
      case y9_0=>intro w;go_simp<;>with_reducible rfl
      simp only [Act.put,sA,sZ,sS]
      refine' GoT.mv (i:=1) (oi:=⟨some 31,_,_,_,_,_⟩) rfl (by rfl) ?y9_1 ?_
      case y9_1=>intro w;go_simp<;>with_reducible rfl
      simp only [Act.put,sA,sZ,sS]
      refine' GoT.mv (i:=2) (oi:=⟨some 32,_,_,_,_,_⟩) rfl (by rfl) ?y9_2 ?_
      case y9_2=>intro w;go_simp<;>with_reducible rfl
      simp only [Act.put,sA,sZ,sS]
      refine' GoT.mv (i:=3) (oi:=⟨some 33,_,_,_,_,_⟩) rfl (by rfl) ?y9_3 ?_
      case y9_3=>intro w;go_simp<;>with_reducible rfl
      simp only [Act.put,sA,sZ,sS]
      refine' GoT.tk 2 (i:=4) (oi:=⟨some 34,_,_,_,_,_⟩) rfl (by rfl) ?y9_4 ?_
      case y9_4=>intro w hSw;obtain ⟨s0,s1,s2,s3⟩:=hSw;go_simp<;>with_reducible rfl
      simp only [Act.put,sA,sZ,sS]
      refine' GoT.tk 2 (i:=5) (oi:=⟨some 35,_,_,_,_,_⟩) rfl (by rfl) ?y9_5 ?_
      case y9_5=>intro w hSw;obtain ⟨s0,s1,s2,s3⟩:=hSw;go_simp<;>with_reducible rfl
      simp only [Act.put,sA,sZ,sS]
      refine GoT.one (i:=6) (o:=⟨some 36,_,_,_,_,_⟩) rfl (by kernel_rfl) fun Kt hK=>?_
      go_simp
      refine hK.out _ _ (fun _ h=>?_) ?_
      ·exact h.upd ((Upd.refl [] _).alloc _) (by simp) (by simp)
      clear hK Kt
      try simp only [Act.put,sA,sZ,sS]
      refine GoT.one (i:=7) (o:=⟨some 37,_,_,_,_,_⟩) rfl (by kernel_rfl) fun Kt hK=>?_
      refine step_app _ (by rfl) _ _ 56 (by rfl) (K+1) 62 i1 (.agg #[.int .i64 0,.int .i64 0,.int .u32 0]) 3 24 Tryz.underlying56 hi1 hy0 hy1 hy2 rfl (by decide) _ _ _ (by rfl) (HGA.out.lo) _ 1 (KSp.enc s) (by rfl) (sees_lit _ #[.int .i64 s.lo,.int .i64 s.hi,.int .u32 (s.id:Int)] 62 3 1 rfl (by decide)) (KSp.one s) (by have:=HLEN.out.1;unfold maxLen;omega) (by have:=HLEN.out.1;omega) HZA.out ?_
      intro A1 C1 w1 HP1
      have hgl:=GrL.appL HGA.out HP1.upd (row_app HP1) HP1.at
      have hkn:K∉blk vlo:=fun hc=>by have:=own_ge HGA.out.lo K hc;omega
      have hcK:w1.cell? ⟨K,1,none⟩=some vlo:=(HP1.upd.cell (World.block_lt_of_cell? _ _ HGA.out.cells.2.1) hkn).trans HGA.out.cells.2.1
      have hfK:w1.frozen? ⟨K,1,none⟩=false:=(HP1.upd.frozen (World.block_lt_of_cell? _ _ HGA.out.cells.2.1) hkn).trans (HGA.out.cells.2.2.2 1)
      have HEND:=Lib.hid (And.intro hgl HP1.upd)
      clear hgl hkn HP1
      refine hK.out _ _ (fun h=>(by cases h)) ?_
      clear hK Kt
      try simp only [Act.put,sA,sZ,sS]
      refine' GoT.mv (i:=8) (oi:=⟨some 38,_,_,_,_,_⟩) rfl (by rfl) ?y9_8 ?_
      case y9_8=>intro w;go_simp<;>with_reducible rfl
      simp only [Act.put,sA,sZ,sS]
      refine' GoT.mv (i:=9) (oi:=⟨some 39,_,_,_,_,_⟩) rfl (by rfl) ?y9_9 ?_
      case y9_9=>intro w;go_simp<;>with_reducible rfl
      simp only [Act.put,sA,sZ,sS]
      refine GoT.one (i:=10) (o:=⟨none,_,_,_,_,_⟩) rfl (by kernel_rfl) fun Kt hK=>?_
      go_simp
      clear hcK hfK
      refine hK.out _ _ (fun h=>(by cases h)) ?_
      clear hK Kt
      try simp only [Act.put,sA,sZ,sS]
      refine GoT.done (by kernel_rfl) ?_
      go_wp2_with fail
      go_roundg (N - (k+1))
      case measure=>have:=HKK.out.1;omega
      case rel=>
       obtain ⟨e1,e2,e3⟩:=HST.out
       exact ⟨k+1,_,by have:=HKK.out.1;omega,by go_num,by rw [e1,e2,e3];exact HEND.out.1,(HUA.out.trans' HEND.out.2 (fun y hy=>.inr (by have h1:=own_ge HGA.out.lo y hy;have h2:=HK.out;omega))).setCell (p:=⟨K,1,none⟩) (.inr (by have h2:=HK.out;show w.heap.size≤K;omega)) _⟩
   ·have hkN2:k=N:=by omega
    have hLL:L.take k=L:=by rw [hkN2,←HN.out.2.1];exact List.take_length
    rw [hLL] at hg
    have hlo:=hg.cells.2.1
    have hb1:(midS m L).length<1000000:=Nat.lt_of_le_of_lt (List.length_filter_le _ _) (by rw [HN.out.2.1];exact hLb)
    have HB1:=Lib.hid hb1
    have HCL:=Lib.hid (cloneSp vlo (midS m L) wr (See.of_row hg.lo) hb1)
    have HG:=Lib.hid hg
    have HU:=Lib.hid hup
    clear hLL hkN2 hk hg hup hb1 hkN
    go_wp2_with fail
    (with_reducible refine HCL.out.mono ?_)
    rintro e w1 ⟨u1,A1,C1,rfl,r1⟩
    have hK2:=(u1.cell (p:=⟨K,2,none⟩) (lt_of_block HG.out.head) (by simp)).trans HG.out.cells.2.2.1
    have hF2:=(u1.frozen (p:=⟨K,2,none⟩) (lt_of_block HG.out.head) (by simp)).trans (HG.out.cells.2.2.2 2)
    have HG1:=Lib.hid (HG.out.upd0 u1)
    have HU1:=Lib.hid (HU.out.trans u1)
    have HR1:=Lib.hid (And.intro r1 u1.size)
    clear u1 r1 hlo
    go_upto_region 16 with fail
    clear hK2 hF2
    have hs5:Upd [K] w1 (w1.setCell ⟨K,2,none⟩ (.slice A1 (midS m L).length C1)):=(Upd.refl _ _).setCell (p:=⟨K,2,none⟩) (.inl (by simp)) _
    have hgK:∀{x:Value} {l:List Sp},KSp.row w1 (K+1) x l→∀y∈blk x,y∉[K]:=fun hx y hy hc=>by simp at hc;have:=own_ge hx y hy;omega
    have hwz:K<wr.heap.size:=lt_of_block HG.out.head
    have hr1:KSp.row w1 (K+1) (.slice A1 (midS m L).length C1) (midS m L):=own_base HR1.out.1 (by omega)
    have hM5:GrM (w1.setCell ⟨K,2,none⟩ (.slice A1 (midS m L).length C1)) K m vlo (.slice A1 (midS m L).length C1) (midS m L) (midS m L):=
     ⟨heap_set HG1.out.head 2 _,own_upd HG1.out.lo hs5 (hgK HG1.out.lo),own_upd hr1 hs5 (hgK hr1),fun y hy hc=>by have h1:=own_lt HG.out.lo y hy;have h2:=own_ge HR1.out.1 y hc;omega⟩
    have hu5:=own_upd HG1.out.u hs5 (hgK HG1.out.u)
    have hv5:=own_upd HG1.out.v hs5 (hgK HG1.out.v)
    have hn5:∀{x:Value} {l:List Sp},KSp.row wr (K+1) x l→∀y∈blk x,y∉blk (.slice A1 (midS m L).length C1):=fun hx y hy hc=>by have h1:=own_lt hx y hy;have h2:=own_ge HR1.out.1 y hc;omega
    have HN5:=Lib.hid (And.intro (hn5 HG.out.u) (hn5 HG.out.v))
    have HU5:=Lib.hid (HU1.out.trans' hs5 (fun y hy=>.inr (by simp at hy;have h2:=HK.out;omega)))
    generalize (w1.setCell ⟨K,2,none⟩ (.slice A1 (midS m L).length C1))=W5 at hM5 hu5 hv5 HU5 ⊢
    generalize (Value.slice A1 (midS m L).length C1)=vhi at hM5 HN5 ⊢
    have c52:=hM5.cells.2.2.1
    have HSO:=Lib.hid (sortHiAny (K+1) vhi (midS m L) W5 hM5.hi HB1.out)
    have HM5:=Lib.hid (And.intro hM5 (And.intro hu5 hv5))
    clear hs5 hgK hwz hr1 hM5 hu5 hv5 hn5
    go_wp2_with fail
    (with_reducible refine HSO.out.mono ?_)
    rintro e w6 ⟨rfl,u6,l',hp,hpw,r6⟩
    have hM6:GrM w6 K m vlo vhi (midS m L) l':=
     ⟨(u6.block K (lt_of_block HM5.out.1.head) (fun hc=>by have:=own_ge HM5.out.1.hi K hc;omega)).trans HM5.out.1.head,own_upd HM5.out.1.lo u6 HM5.out.1.lh,r6,HM5.out.1.lh⟩
    have hU6:=HU5.out.trans' u6 (fun y hy=>.inr (by have h1:=own_ge HM5.out.1.hi y hy;have h2:=HK.out;omega))
    have hl6:=See.of_row (own_upd HM5.out.2.1 u6 HN5.out.1)
    have hv6:=See.of_row (own_upd HM5.out.2.2 u6 HN5.out.2)
    have hse6:=HV.out.1.upd0 hU6
    obtain ⟨X1,Y1,cut1,see1,-⟩:=See.take (K:=KL) (P:=Tryz.prog) Tryz.underlying57 hi0 hx1 hse6 a (by rw [HN.out.1];omega)
    have hse7:=hse6
    unfold See at hse7
    obtain ⟨X2,Y2,cut2,see2,-⟩:=cut_from (P:=Tryz.prog) (t:=57) Tryz.underlying57 hi0 hx1 hse7 (a+1) (by rw [HN.out.1];omega)
    rw [HN.out.1] at cut2
    have cut1':∀w',(Instr.slice 57 (.slice (some ⟨b,o,none⟩) n C) none (some (.int .i64 (a:Int))) none).run Tryz.prog w'=.ok (.slice X1 a Y1) w':=cut1
    have cut2':∀w',(Instr.slice 57 (.slice (some ⟨b,o,none⟩) n C) (some (.int .i64 ((a:Int)+1))) none none).run Tryz.prog w'=.ok (.slice X2 (n - (a+1)) Y2) w':=cut2
    have hdl:(E.drop (a+1)).length=n - (a+1):=by rw [List.length_drop,HN.out.1]
    have htl:(E.take a).length=a:=by rw [List.length_take,HN.out.1];omega
    have hdr:=(Upd.refl [] w6).drew
    have hless:(lessS m L).length<1000000:=Nat.lt_of_le_of_lt (List.length_filter_le _ _) (by rw [HN.out.2.1];exact hLb)
    have hmore:(moreS m L).length<1000000:=Nat.lt_of_le_of_lt (List.length_filter_le _ _) (by rw [HN.out.2.1];exact hLb)
    have HL1:=Lib.hid (HIH.out (E.take a) (lessS m L) _ _ w6.drew (by have:=HEH.out;omega) (by omega) hless (HIN.out.less HN.out.2.2.2) ((see1 w6 hse6).upd0 hdr) (hl6.upd0 hdr))
    have hs2:∀w',Upd [] w6 w'→See KL w' (.slice X2 (n - (a+1)) Y2) (E.drop (a+1)):=fun w' hu=>by
     have h8:=see2 w' (hse6.upd0 hu)
     rw [HN.out.1] at h8
     unfold See
     rw [hdl,Kind.all_drop]
     exact h8
    have HL2:=Lib.hid (fun w' (hu:Upd [] w6 w')=>HIH.out (E.drop (a+1)) (moreS m L) _ _ w' (by have:=HEH.out;omega) (by omega) hmore (HIN.out.more HN.out.2.2.2) (hs2 w' hu) (hv6.upd0 hu))
    have HM6:=Lib.hid (And.intro hM6 (And.intro hp hpw))
    have HU6:=Lib.hid hU6
    have HD6:=Lib.hid hdr
    have HTL:=Lib.hid (And.intro htl hdl)
    clear c52 u6 hp hpw r6 hM6 hU6 hl6 hv6 hse6 hse7 cut1 cut2 see1 see2 hdl htl hdr hless hmore hs2
    go_upto_region 17 with fail
    have hwr:=HWR.out
    refine GoT.start [0,1,2,3,4,5,6,7,8,9,10,11,12,13,14,15,16,17,18] (fun _=>True) (by kernel_rfl) ?_ fun hS=>?_
    ·trivial
    refine' GoT.mv (i:=0) (oi:=⟨some 78,_,_,_,_,_⟩) rfl (by rfl) ?y17_0 ?_
    case y17_0=>intro w;go_simp<;>with_reducible rfl
    simp only [Act.put,sA,sZ,sS]
    refine' GoT.mv (i:=1) (oi:=⟨some 79,_,_,_,_,_⟩) rfl (by rfl) ?y17_1 ?_
    case y17_1=>intro w;go_simp<;>with_reducible rfl
    simp only [Act.put,sA,sZ,sS]
    refine' GoT.mv (i:=2) (oi:=⟨some 80,_,_,_,_,_⟩) rfl (by rfl) ?y17_2 ?_
    case y17_2=>intro w;go_simp<;>with_reducible rfl
    simp only [Act.put,sA,sZ,sS]
    refine' GoT.mv (i:=3) (oi:=⟨some 81,_,_,_,_,_⟩) rfl (by rfl) ?y17_3 ?_
    case y17_3=>intro w;go_simp<;>with_reducible rfl
    simp only [Act.put,sA,sZ,sS]
    refine' GoT.mv (i:=4) (oi:=⟨some 82,_,_,_,_,_⟩) rfl (by rfl) ?y17_4 ?_
    case y17_4=>intro w;go_simp<;>with_reducible rfl
    simp only [Act.put,sA,sZ,sS]
    refine' GoT.mv (i:=5) (oi:=⟨some 83,_,_,_,_,_⟩) rfl (by rfl) ?y17_5 ?_
    case y17_5=>intro w;go_simp<;>with_reducible rfl
    simp only [Act.put,sA,sZ,sS]
    refine' GoT.mv (i:=7) (oi:=⟨some 85,_,_,_,_,_⟩) rfl (by rfl) ?y17_7 ?_
    case y17_7=>intro w;go_simp<;>with_reducible rfl
    simp only [Act.put,sA,sZ,sS]
    refine' GoT.mv (i:=8) (oi:=⟨some 86,_,_,_,_,_⟩) rfl (by rfl) ?y17_8 ?_
    case y17_8=>intro w;go_simp<;>with_reducible rfl
    simp only [Act.put,sA,sZ,sS]
    refine' GoT.mv (i:=9) (oi:=⟨some 87,_,_,_,_,_⟩) rfl (by rfl) ?y17_9 ?_
    case y17_9=>intro w;go_simp<;>with_reducible rfl
    simp only [Act.put,sA,sZ,sS]
    refine' GoT.mv (i:=10) (oi:=⟨some 88,_,_,_,_,_⟩) rfl (by rfl) ?y17_10 ?_
    case y17_10=>intro w;go_simp<;>with_reducible rfl
    simp only [Act.put,sA,sZ,sS]
    refine' GoT.mv (i:=11) (oi:=⟨some 89,_,_,_,_,_⟩) rfl (by rfl) ?y17_11 ?_
    case y17_11=>intro w;go_simp<;>with_reducible rfl
    simp only [Act.put,sA,sZ,sS]
    refine GoT.one (i:=6) (o:=⟨some 84,_,_,_,_,_⟩) rfl (by kernel_rfl) fun Kt hK=>?_
    go_simp
    go_at_call 173
    (with_reducible refine HL1.out.mono ?_)
    rintro e wA ⟨uA,pA,FA,TA,rfl,kA,gA,dA,oA⟩
    obtain ⟨qA,rfl⟩:=kA.ptr
    have HA:=Lib.hid (And.intro uA (And.intro kA (And.intro gA (And.intro dA oA))))
    clear uA kA gA dA oA
    refine hK.out _ _ (fun h=>(by cases h)) ?_
    clear hK Kt
    try simp only [Act.put,sA,sZ,sS]
    refine GoT.one (i:=12) (o:=⟨some 90,_,_,_,_,_⟩) rfl (by kernel_rfl) fun Kt hK=>?_
    go_simp
    go_at_call 173
    (with_reducible refine (HL2.out _ (HD6.out.trans HA.out.1)).mono ?_)
    rintro e wB ⟨uB,pB,FB,TB,rfl,kB,gB,dB,oB⟩
    obtain ⟨qB,rfl⟩:=kB.ptr
    have hMB:=HM6.out.1.upd0 ((HD6.out.trans HA.out.1).trans uB)
    have hkids:=hMB.kids (HA.out.2.1.upd0 uB) kB (B:=w6.heap.size) (lt_of_block HM6.out.1.head) (own_lt HM6.out.1.lo) (own_lt HM6.out.1.hi) (fun k hk=>Nat.le_trans HD6.out.size (HA.out.2.2.1 k hk)) (fun k hk=>by have h1:=gB k hk;have h2:=HA.out.1.size;have h3:=HD6.out.size;omega) (fun k hk hc=>by have h1:=HA.out.2.1.lt k hk;have h2:=gB k hc;omega) HA.out.2.1.nodup kB.nodup
    have HBB:=Lib.hid (And.intro uB (And.intro kB (And.intro gB (And.intro dB oB))))
    have hh3:=hMB.head
    have hh4:=heap_set hMB.head 3 (.pointer qA)
    have hc3:wB.cell? ⟨K,3,none⟩=some (.pointer none):=by simp [World.cell?,hh3]
    have hf3:wB.frozen? ⟨K,3,none⟩=false:=by simp [World.frozen?,hh3]
    have hc4:(wB.setCell ⟨K,3,none⟩ (.pointer qA)).cell? ⟨K,4,none⟩=some (.pointer none):=by simp [World.cell?,hh4]
    have hf4:(wB.setCell ⟨K,3,none⟩ (.pointer qA)).frozen? ⟨K,4,none⟩=false:=by simp [World.frozen?,hh4]
    clear uB kB gB dB oB hMB hh3 hh4
    refine hK.out _ _ (fun h=>(by cases h)) ?_
    clear hK Kt
    try simp only [Act.put,sA,sZ,sS]
    refine' GoT.mv (i:=13) (oi:=⟨some 91,_,_,_,_,_⟩) rfl (by rfl) ?y17_13 ?_
    case y17_13=>intro w;go_simp<;>with_reducible rfl
    simp only [Act.put,sA,sZ,sS]
    refine' GoT.mv (i:=14) (oi:=⟨some 92,_,_,_,_,_⟩) rfl (by rfl) ?y17_14 ?_
    case y17_14=>intro w;go_simp<;>with_reducible rfl
    simp only [Act.put,sA,sZ,sS]
    refine GoT.one (i:=15) (o:=⟨none,_,_,_,_,_⟩) rfl (by kernel_rfl) fun Kt hK=>?_
    go_simp
    clear hc3 hf3
    refine hK.out _ _ (fun h=>(by cases h)) ?_
    clear hK Kt
    try simp only [Act.put,sA,sZ,sS]
    refine' GoT.mv (i:=16) (oi:=⟨some 93,_,_,_,_,_⟩) rfl (by rfl) ?y17_16 ?_
    case y17_16=>intro w;go_simp<;>with_reducible rfl
    simp only [Act.put,sA,sZ,sS]
    refine' GoT.mv (i:=17) (oi:=⟨some 94,_,_,_,_,_⟩) rfl (by rfl) ?y17_17 ?_
    case y17_17=>intro w;go_simp<;>with_reducible rfl
    simp only [Act.put,sA,sZ,sS]
    refine GoT.one (i:=18) (o:=⟨none,_,_,_,_,_⟩) rfl (by kernel_rfl) fun Kt hK=>?_
    go_simp
    clear hc4 hf4
    refine hK.out _ _ (fun h=>(by cases h)) ?_
    clear hK Kt
    try simp only [Act.put,sA,sZ,sS]
    refine GoT.done (by kernel_rfl) ?_
    have HK12:=Lib.hid hkids
    clear hkids
    go_wp2_with fail
    go_ret
    have hfin:=HM6.out.1
    have hsz:w.heap.size≤w6.heap.size:=HU6.out.size
    refine ⟨((HU6.out.trans HD6.out).trans (HA.out.1.trans HBB.out.1)).trans' HK12.out.2 (fun y hy=>.inr (by simp at hy;have h2:=HK.out;omega)),_,_,_,rfl,HK12.out.1,fun k hk=>?_,?_,?_⟩
    ·have h2:=HK.out
     simp only [List.mem_cons,List.mem_append] at hk
     rcases hk with hk | hk | hk | hk | hk
     ·omega
     ·have:=own_ge hfin.lo k hk;omega
     ·have:=own_ge hfin.hi k hk;omega
     ·have h1:=HA.out.2.2.1 k hk;have h3:=HD6.out.size;omega
     ·have h1:=HBB.out.2.2.1 k hk;have h3:=HD6.out.size;have h4:=HA.out.1.size;omega
    ·have h1:=HA.out.2.2.2.1
     have h2:=HBB.out.2.2.2.1
     rw [HTL.out.1] at h1
     rw [HTL.out.2] at h2
     have h3:=HN.out.2.2.1
     have h4:=bitsN_half (n:=n) (by omega) (k:=a) (by omega)
     have h5:=bitsN_half (n:=n) (by omega) (k:=n - (a+1)) (by omega)
     rw [HN.out.1]
     simp only [Kn.depth]
     omega
    ·exact ⟨⟨List.Perm.refl _,HIN.out.2.2.filter _⟩,⟨HM6.out.2.1,HM6.out.2.2⟩,HA.out.2.2.2.2,HBB.out.2.2.2.2⟩
structure IvlAt (w:World) (b:Nat) (p vr:Value) (R:List Sp) (T:Kn) (Fk:List Nat):Prop where
 head:w.heap[b]? = some (.cells #[.bool true,p,vr] 182 (0,0))
 row:KSp.row w 0 vr R
 tree:KnAt w T p Fk
 bro:b∉blk vr
 btr:b∉Fk
 rtr:∀k∈blk vr,k∉Fk
theorem IvlAt.upd {w w':World} {b:Nat} {p vr:Value} {R:List Sp} {T:Kn} {Fk:List Nat} (h:IvlAt w b p vr R T Fk) {F:List Nat} (hu:Upd F w w') (h1:b∉F) (h2:∀k∈blk vr,k∉F) (h3:∀k∈Fk,k∉F):IvlAt w' b p vr R T Fk:=
 ⟨(hu.block b (lt_of_block h.head) h1).trans h.head,own_upd h.row hu h2,h.tree.upd hu h3,h.bro,h.btr,h.rtr⟩
theorem IvlAt.upd0 {w w':World} {b:Nat} {p vr:Value} {R:List Sp} {T:Kn} {Fk:List Nat} (h:IvlAt w b p vr R T Fk) (hu:Upd [] w w'):IvlAt w' b p vr R T Fk:=h.upd hu (by simp) (by simp) (by simp)
theorem IvlAt.cells {w:World} {b:Nat} {p vr:Value} {R:List Sp} {T:Kn} {Fk:List Nat} (h:IvlAt w b p vr R T Fk) :
 w.cell? ⟨b,0,none⟩=some (.bool true)∧w.cell? ⟨b,1,none⟩=some p∧w.cell? ⟨b,2,none⟩=some vr∧∀j,w.frozen? ⟨b,j,none⟩=false:=by
 have:=h.head
 refine ⟨?_,?_,?_,?_⟩<;>simp [World.cell?,World.frozen?,this]
structure IsIvl (w:World) (b:Nat) (F:List Nat) (S:List Sp) (N:Nat):Prop where
 at_:∃(p vr:Value) (R:List Sp) (T:Kn) (Fk:List Nat),IvlAt w b p vr R T Fk∧(∀k,k=b∨k∈blk vr∨k∈Fk→k∈F)∧R.Perm S∧R.Pairwise (fun a b=>a.lo≤b.lo)∧T.ok R∧T.depth≤bitsN (2*N)
 right:∀s∈S,s.lo≤s.hi
 names:(S.map Sp.id).Nodup
 many:S.length≤N
 few:N≤1000
 flt:∀k∈F,k<w.heap.size
theorem IsIvl.upd {w w':World} {b:Nat} {F:List Nat} {S:List Sp} {N:Nat} (h:IsIvl w b F S N) {G:List Nat} (hu:Upd G w w') (hd:∀k∈F,k∉G):IsIvl w' b F S N:=by
 obtain ⟨p,vr,R,T,Fk,h1,h2,h3⟩:=h.at_
 exact ⟨⟨p,vr,R,T,Fk,h1.upd hu (hd _ (h2 _ (.inl rfl))) (fun k hk=>hd _ (h2 _ (.inr (.inl hk)))) (fun k hk=>hd _ (h2 _ (.inr (.inr hk)))),h2,h3⟩,h.right,h.names,h.many,h.few,fun k hk=>Nat.lt_of_lt_of_le (h.flt k hk) hu.size⟩
theorem IsIvl.upd0 {w w':World} {b:Nat} {F:List Nat} {S:List Sp} {N:Nat} (h:IsIvl w b F S N) (hu:Upd [] w w'):IsIvl w' b F S N:=h.upd hu (by simp)
theorem growIn_ends {l R:List Sp} (hr:∀s∈l,s.lo≤s.hi) (hp:R.Perm l) (hs:R.Pairwise fun a b=>a.lo≤b.lo):GrowIn (endsS l) R:=by
 refine ⟨endsS_rise l,fun s h=>?_,hs⟩
 have h1:=hp.mem_iff.1 h
 exact ⟨mem_sqz (List.mem_flatMap.2 ⟨s,h1,by simp⟩),mem_sqz (List.mem_flatMap.2 ⟨s,h1,by simp⟩),hr s h1⟩
theorem bitsN_mono {a b:Nat} (h:a≤b):bitsN a≤bitsN b:=bitsN_le a _ (Nat.lt_of_le_of_lt h (bitsN_lt b))
theorem ivlBuildOk (v:Value) (l:List Sp) (w:World) (h:See KSp w v l) (hid:∀s∈l,s.id<4294967296) (hl:l.length≤1000) (hr:rightS l=true) :
 Calls Tryz.prog 109 #[v] w fun e w'=>Upd [] w w'∧∃b F,e=.returned (.tuple #[.pointer (some ⟨b,0,none⟩),.int .i64 0])∧IsIvl w' b F l l.length∧∀k∈F,w.heap.size≤k:=by
 obtain ⟨A,C,rfl⟩:=h.form
 have hri:=ivlRight _ l w h hid (by omega)
 rw [hr] at hri
 obtain ⟨hr1,hr2⟩:=rightS_iff.1 hr
 obtain ⟨N,hN⟩:∃N,l.length=N:=⟨_,rfl⟩
 rw [hN] at hri hl ⊢
 obtain ⟨i0,hi0,hz0,hz1,hz2⟩:=info_parts info_int64
 have HR:=Lib.hid hri
 have H:=Lib.hid h
 have HN:=Lib.hid hN
 have HR1:=Lib.hid (And.intro hr1 hr2)
 have b0:(0:Int)≤(N:Int):=Int.natCast_nonneg _
 have b1:(N:Int)≤1000:=by omega
 clear h hid hr hN hri hr1 hr2
 go_enter Tryz.func109,Tryz.ntmps109
 go_wp2_with fail
 (with_reducible refine HR.out.mono ?_)
 rintro e w0 ⟨rfl,u0⟩
 have hcl:=cloneSp _ l w0 (H.out.upd0 u0) (by rw [HN.out];omega)
 rw [HN.out] at hcl
 have HCL:=Lib.hid hcl
 have HU0:=Lib.hid u0
 clear u0 hcl
 go_wp2_with fail
 (with_reducible refine HCL.out.mono ?_)
 rintro e w3 ⟨u3,A3,C3,rfl,r3⟩
 have hso:=sortLoAny w0.heap.size _ l w3 r3 (by rw [HN.out];omega)
 rw [HN.out] at hso r3 ⊢
 have HSO:=Lib.hid hso
 have HU3:=Lib.hid (And.intro r3 (HU0.out.trans u3))
 clear u3 r3 hso
 go_wp2_with fail
 (with_reducible refine HSO.out.mono ?_)
 rintro e w1 ⟨rfl,u1,R,hp,hpw,r1⟩
 have hRl:R.length=N:=by rw [hp.length_eq,HN.out]
 obtain ⟨vr,hvr⟩:∃vr,Value.slice A3 N C3=vr:=⟨_,rfl⟩
 rw [hvr] at r1 u1 HU3 ⊢
 have HU:=Lib.hid (HU3.out.2.trans' u1 (fun y hy=>.inr (by have h1:=own_ge r1 y hy;have h2:=HU0.out.size;omega)))
 have HP:=Lib.hid (And.intro hp (And.intro hpw (And.intro r1 (And.intro hRl hvr))))
 clear u1 hp hpw r1 hRl hvr
 go_wp2_with fail
 go_loopg [5,20] N (fun m s5 s20 wr=>∃(k:Nat) (vo:Value),m+k=N∧s5=vo∧s20=.int .i64 (k:Int)∧KL.row wr w1.heap.size vo (endsL (l.take k))∧Upd [] w1 wr)
 case atStart=>exact ⟨0,_,rfl,rfl,rfl,World.ownsRow_nil _ _ _ _,Upd.refl _ _⟩
 case round=>
  obtain ⟨k,vo,hk,rfl,rfl,hrow,hup⟩:=hrel
  have k0:(0:Int)≤(k:Int):=Int.natCast_nonneg _
  have hkN:k≤N:=by omega
  have hwz:=hup.size
  have HK:=Lib.hid hk
  have HROW:=Lib.hid hrow
  have HUP:=Lib.hid hup
  clear hk hrow hup
  by_cases hlt:k<N
  ·obtain ⟨s,hs⟩:∃s,l[k]? = some s:=⟨_,List.getElem?_eq_getElem (by rw [HN.out];exact hlt)⟩
   have hse:See KSp wr (.slice A l.length C) l:=H.out.upd0 (HU.out.trans HUP.out)
   obtain ⟨g,o,rfl,-,-,ey⟩:=hse.at hs
   have htk:endsL (l.take (k+1))=endsL (l.take k)++[s.lo,s.hi]:=by
    obtain ⟨h1,h2⟩:=List.getElem?_eq_some_iff.1 hs
    rw [List.take_succ_eq_append_getElem h1,h2,endsL_app]
    simp [endsL]
   have hlen:(endsL (l.take k)).length=2*k:=by rw [endsL_len,List.length_take,HN.out];omega
   have y0:wr.cell? ⟨g,o+k*3,none⟩=some (.int .i64 s.lo):=ey 0 _ rfl
   have y1:wr.cell? ⟨g,o+k*3+1,none⟩=some (.int .i64 s.hi):=ey 1 _ rfl
   have y2:wr.cell? ⟨g,o+k*3+2,none⟩=some (.int .u32 (s.id:Int)):=ey 2 _ rfl
   have b2:(k:Int)<(N:Int):=by omega
   have HTK:=Lib.hid htk
   have HLE:=Lib.hid hlen
   have hrow2:=HROW.out
   unfold Kind.row at hrow2
   rw [hlen] at hrow2
   have HR2:=Lib.hid hrow2
   clear hs hse ey htk hlen hrow2
   obtain ⟨wl,hwl⟩:∃wl:World,wl=wr:=⟨_,rfl⟩
   subst hwl
   go_upto_region 11 with fail
   have hu2:Upd [] wl (wl.alloc (.cells #[.int .i64 s.lo,.int .i64 s.hi,.int .u32 (s.id:Int)] 62)):=(Upd.refl _ _).alloc _
   have d0:(wl.alloc (.cells #[.int .i64 s.lo,.int .i64 s.hi,.int .u32 (s.id:Int)] 62)).cell? ⟨wl.heap.size,0,none⟩=some (.int .i64 s.lo):=by rw [World.cell?_alloc_at _ _ _ _ rfl];rfl
   have d1:(wl.alloc (.cells #[.int .i64 s.lo,.int .i64 s.hi,.int .u32 (s.id:Int)] 62)).cell? ⟨wl.heap.size,1,none⟩=some (.int .i64 s.hi):=by rw [World.cell?_alloc_at _ _ _ _ rfl];rfl
   generalize (wl.alloc (.cells #[.int .i64 s.lo,.int .i64 s.hi,.int .u32 (s.id:Int)] 62))=W2 at hu2 d0 d1 ⊢
   have hwz2:w1.heap.size≤W2.heap.size:=Nat.le_trans hwz hu2.size
   have HU2:=Lib.hid (HUP.out.trans hu2)
   have HR3:=Lib.hid (own_upd HR2.out hu2 (by simp))
   clear hu2 y0 y1 y2
   go_wp2_with (at_builtin;refine wpList_app _ rfl _ _ 57 rfl w1.heap.size 2 i0 (.int .i64 0) 1 8 Tryz.underlying57 hi0 hz0 hz1 hz2 rfl (by decide) _ (2*k) (KL.all (endsL (l.take k))) rfl (own_upd HR3.out ((Upd.refl [] _).alloc _) (by simp)) _ 2 [.int .i64 s.lo,.int .i64 s.hi] rfl (sees_lit W2 #[.int .i64 s.lo,.int .i64 s.hi] 2 1 2 rfl (by decide)) (by simp [Value.oneCell']) (by unfold maxLen;omega) (by omega) (by simp;omega) ?_)
   intro A2 C2 W3 HP3
   have HP4:=Lib.hid HP3
   clear HP3 d0 d1
   go_wp2_with fail
   go_roundg (N - (k+1))
   case measure=>have:=HK.out;omega
   case rel=>
    have hu3:=((Upd.refl _ W2).alloc (.cells #[.int .i64 s.lo,.int .i64 s.hi] 2)).trans HP4.out.upd
    refine ⟨k+1,_,by have:=HK.out;omega,rfl,by go_num,?_,HU2.out.trans' hu3 (fun y hy=>.inr (own_ge HR3.out y hy))⟩
    rw [HTK.out]
    unfold Kind.row
    rw [List.length_append,HLE.out,KL.all_app]
    exact HP4.out.own
  ·have hkN':k=N:=by omega
   have hL':l.take k=l:=by rw [hkN',←HN.out];exact List.take_length
   have hrow:=HROW.out
   rw [hL'] at hrow
   obtain ⟨Ae,Ce,rfl⟩:=own_form hrow
   have hle:=endsL_len l
   rw [HN.out] at hle
   have hsq:=squeezeC _ (endsL l) wr (See.of_row hrow) (by omega)
   rw [hle] at hsq
   rw [hle]
   have HSQ:=Lib.hid hsq
   have HUW:=Lib.hid HUP.out
   clear hL' hrow hsq hle hkN'
   go_wp2_with fail
   (with_reducible refine HSQ.out.mono ?_)
   rintro e w2 ⟨A2,C2,rfl,s1,s2⟩
   have hE1:(endsS l).length≤2*N:=by have:=endsS_len l;rw [HN.out] at this;exact this
   have hu12:=HUW.out.trans s2
   have hgr:=grownC (endsS l).length (endsS l) R (.slice A2 (endsS l).length C2) vr w2 (Nat.le_refl _) (by omega) (by rw [HP.out.2.2.2.1];omega) (growIn_ends HR1.out.1 HP.out.1 HP.out.2.1) (See.of_row s1) (See.of_row (own_upd HP.out.2.2.1 hu12 (by simp)))
   have HGR:=Lib.hid hgr
   have HE1:=Lib.hid hE1
   have HU12:=Lib.hid hu12
   clear hgr hE1 s1 s2 hu12
   unfold endsS at HGR
   go_wp2_with fail
   (with_reducible refine HGR.out.mono ?_)
   rintro e w5 ⟨u5,p,Fk,T,rfl,kT,gT,dT,oT⟩
   obtain ⟨q,rfl⟩:=kT.ptr
   have HT:=Lib.hid (And.intro u5 (And.intro kT (And.intro gT (And.intro dT oT))))
   have HVR:=Lib.hid HP.out.2.2.2.2
   clear u5 kT gT dT oT
   subst vr
   go_wp2_with fail
   go_ret2
   have hu15:=HU12.out.trans HT.out.1
   have hua:Upd [] w5 (w5.alloc (.cells #[.bool true,.pointer q,.slice A3 N C3] 182)):=(Upd.refl _ _).alloc _
   have hrw:=HP.out.2.2.1
   have hlt1:=own_lt hrw
   have hge1:=own_ge hrw
   have hz0:=HU0.out.size
   have hz1:=HU.out.size
   have hz5:=hu15.size
   have hz2:=HU12.out.size
   refine ⟨(HU.out.trans hu15).trans hua,w5.heap.size,w5.heap.size::(blk (.slice A3 N C3)++Fk),rfl,⟨⟨.pointer q,.slice A3 N C3,R,T,Fk,⟨heap_alloc_new _ _,own_base (own_upd hrw (hu15.trans hua) (by simp)) (Nat.zero_le _),HT.out.2.1.upd0 hua,fun hc=>by have:=hlt1 _ hc;omega,fun hc=>by have:=HT.out.2.1.lt _ hc;omega,fun k hk hc=>by have h1:=hlt1 k hk;have h2:=HT.out.2.2.1 k hc;omega⟩,
    fun k hk=>?_,HP.out.1,HP.out.2.1,HT.out.2.2.2.2,Nat.le_trans HT.out.2.2.2.1 (bitsN_mono HE1.out)⟩,HR1.out.1,HR1.out.2,by rw [HN.out];omega,by omega,fun k hk=>?_⟩,fun k hk=>?_⟩
   ·simp only [List.mem_cons,List.mem_append]
    exact hk
   ·simp only [List.mem_cons,List.mem_append] at hk
    have hza:=hua.size
    have hzb:w5.heap.size<(w5.alloc (.cells #[.bool true,.pointer q,.slice A3 N C3] 182)).heap.size:=by simp
    rcases hk with hk | hk | hk
    ·omega
    ·have:=hlt1 k hk;omega
    ·have:=HT.out.2.1.lt k hk;omega
   ·simp only [List.mem_cons,List.mem_append] at hk
    rcases hk with hk | hk | hk
    ·omega
    ·have:=hge1 k hk;omega
    ·have:=HT.out.2.2.1 k hk;omega
end Go.Proofs.YtkbaaonchdeneaaGreat
namespace Go.Proofs.YtkbaaonchdeneaaGreat
open Go.RowKit Go.Shelf Go.Sort Go.Lib
section
variable {α:Type} [Inhabited α]
theorem flat_kind (K:Kind α) (h0:0<K.sz) (l:List α):flatK K.enc K.sz l.toArray=(K.all l).toArray:=by
 refine ext_get! (by simp [K.all_len]) fun t ht=>?_
 have ht':t<l.length*K.sz:=by simpa using ht
 rw [get_flatK _ _ _ t (by simpa using ht')]
 have h1:t / K.sz<l.length:=(Nat.div_lt_iff_lt_mul h0).2 ht'
 have h2:t % K.sz<(K.enc l[t / K.sz]).length:=by rw [K.len];exact Nat.mod_lt _ h0
 have h:=K.all_get l (t / K.sz) (t % K.sz) h1 (K.enc l[t / K.sz])[t % K.sz] (by rw [List.getElem?_eq_getElem h2])
 have e3:t / K.sz*K.sz+t % K.sz=t:=by rw [Nat.mul_comm];exact Nat.div_add_mod t K.sz
 rw [e3] at h
 obtain ⟨h4,h5⟩:=List.getElem?_eq_some_iff.1 h
 rw [getElem!_pos l.toArray (t / K.sz) (by simpa using h1),getElem!_pos (K.enc l.toArray[t / K.sz]) (t % K.sz) (by simpa using h2),getElem!_pos (K.all l).toArray t (by simpa using h4)]
 simpa using h5.symm
theorem holds_kind (K:Kind α) (h0:0<K.sz) {w:World} {base g n C:Nat} {l:List α} (h:K.row w base (.slice (some ⟨g,0,none⟩) n C) l) (hn:l.length=n):HoldsK K.enc K.sz w g 0 l.toArray:=by
 unfold HoldsK
 rw [flat_kind K h0]
 have hown:w.ownsRow base K.eT K.sz (.slice (some ⟨g,0,none⟩) n C) n (K.all l):=by
  have:=h
  unfold Kind.row at this
  rwa [hn] at this
 have hnC:=own_cap hown
 intro j hj
 have hj':j<(K.all l).length:=by simpa using hj
 have hj3:j<l.length*K.sz:=by rw [←K.all_len];exact hj'
 have hj4:j<n*K.sz:=by rw [←hn];exact hj3
 have hj5:j<C*K.sz:=Nat.lt_of_lt_of_le hj4 (Nat.mul_le_mul_right _ hnC)
 rw [Nat.zero_add]
 refine ⟨?_,(own_room hown j hj5).2⟩
 rcases hown.2 with ⟨h2,_⟩ | ⟨g',cap,cur,h2,h3,h4,h5,h6,h7,h8⟩
 ·cases h2
 ·cases h2
  have hx:cur.toList[j]? = some (K.all l)[j]:=by
   have:=congrArg (·[j]?) h8
   simp only [List.getElem?_take] at this
   rw [if_pos hj4,List.getElem?_eq_getElem hj'] at this
   exact this
  simp only [id_eq]
  rw [getElem!_pos (K.all l).toArray j (by simpa using hj')]
  simp only [World.cell?,h4]
  simpa using hx
theorem put_kind (K:Kind α) (h0:0<K.sz) {w:World} {base g n C m:Nat} {l l':List α} {os:Array Obj} (h:K.row w base (.slice (some ⟨g,0,none⟩) n C) l) (hn:l.length=n) (hn':l'.length=n) :
 K.row (sortWorldK K.enc K.sz w g 0 m l'.toArray os) base (.slice (some ⟨g,0,none⟩) n C) l'∧Upd [g] w (sortWorldK K.enc K.sz w g 0 m l'.toArray os):=by
 unfold sortWorldK putRowK
 rw [flat_kind K h0]
 have hup:Upd [g] w (Sort.grow (Sort.putRow id (Sort.ahead w m) g 0 (K.all l').toArray) os):=by
  refine ⟨rfl,rfl,rfl,by simp [Sort.grow,Sort.putRow,Sort.mapBlock,Sort.ahead],fun k hk hf=>?_⟩
  have hk2:g≠k:=fun e=>hf (by simp [e])
  have:(Sort.putRow id (Sort.ahead w m) g 0 (K.all l').toArray).heap[k]? = w.heap[k]?:=by
   simp only [Sort.putRow,Sort.mapBlock,Sort.ahead,Array.getElem?_modify]
   rw [if_neg hk2]
  rw [heap_grow_old _ _ (by simpa [Sort.putRow,Sort.mapBlock,Sort.ahead] using hk),this]
 refine ⟨?_,hup⟩
 unfold Kind.row at h ⊢
 rw [hn] at h
 rw [hn']
 refine ⟨by rw [K.all_len,hn'],?_⟩
 rcases h.2 with ⟨h2,_⟩ | ⟨g',cap,cur,h2,h3,h4,h5,h6,h7,h8⟩
 ·cases h2
 ·cases h2
  have hg:g<w.heap.size:=(Array.getElem?_eq_some_iff.1 h4).1
  refine .inr ⟨g,C,Sort.putCells id 0 (K.all l').toArray cur,rfl,h3,?_,h5,h6,by simp [Sort.putCells,h7],?_⟩
  ·rw [heap_grow_old _ _ (by simpa [Sort.putRow,Sort.mapBlock,Sort.ahead] using hg)]
   simp only [Sort.putRow,Sort.mapBlock,Sort.ahead,Array.getElem?_modify,if_true]
   rw [h4]
   rfl
  ·have hl:(K.all l').length=n*K.sz:=by rw [K.all_len,hn']
   refine List.ext_getElem? fun j=>?_
   rw [List.getElem?_take]
   by_cases hj:j<n*K.sz
   ·have hjc:j<cur.size:=by rw [h7];have:=Nat.mul_le_mul_right K.sz h5;omega
    have hj':j<(K.all l').length:=by omega
    rw [if_pos hj,List.getElem?_eq_getElem hj',Array.getElem?_toList]
    unfold Sort.putCells
    rw [Array.getElem?_mapIdx,Array.getElem?_eq_getElem hjc,Option.map_some,if_pos (by simp;omega),Nat.sub_zero]
    rw [getElem!_pos (K.all l').toArray j (by simpa using hj')]
    rfl
   ·rw [if_neg hj,List.getElem?_eq_none (by omega)]
def SortKPost (K:Kind α) (w:World) (base g n C:Nat) (l:List α) (cf:α→α→Int) (e:Ending) (w':World):Prop:=
 e=.returned (.tuple #[])∧Upd [g] w w'∧∃l':List α,l'.Perm l∧l'.Pairwise (fun a b=>¬cf b a<0)∧K.row w' base (.slice (some ⟨g,0,none⟩) n C) l'
theorem sortKC {ρ:Ren} (L:Go.Proofs.SlLaysF0.n6 Tryz.prog ρ) (K:Kind α) (h0:0<K.sz) (aE:∀w,(isAgg (ρ.t 24)).run Tryz.prog w=.ok true w) (zE:∀w,(Go.sizeOf (ρ.t 24)).run Tryz.prog w=.ok K.sz w)
 (f:Nat) (cf:α→α→Int) (hO:SWO (ltOf cf)) (eg:∀args w,(callFunc f args).run Tryz.prog w=.ok (.enter f args) w)
 (hc:∀s t w,Calls Tryz.prog f #[(Value.agg (K.enc s).toArray),(Value.agg (K.enc t).toArray)] w fun e w'=>e=.returned (.int .i64 (cf s t))∧∃os,w'=grow w os)
 (base g n C:Nat) (l:List α) (w:World) (h:K.row w base (.slice (some ⟨g,0,none⟩) n C) l) (hn:l.length=n) (hb:n<1000000) :
 Calls Tryz.prog (ρ.f 6) #[.slice (some ⟨g,0,none⟩) n C,.func (.func f) #[] #[]] w (SortKPost K w base g n C l cf):=by
 have hg:g<w.heap.size:=own_lt h g (by simp [blk])
 have hcmp:CmpLays Tryz.prog f #[] K.enc K.sz cf g 0 l.toArray.size w:=fun m os dk _ x y=>by
  refine (hc x y _).mono ?_
  rintro e w' ⟨rfl,os',rfl⟩
  exact ⟨rfl,0,os',rfl⟩
 have e0:l.toArray.size=n:=by simp [hn]
 have:=AnyQ.slices_SortFunc L K.sz aE zE K.enc K.len K.one cf hO f #[] g 0 C l.toArray w eg hcmp (holds_kind K h0 h hn) hg (by simp;omega)
 rw [e0] at this
 refine Calls.mono this ?_
 rintro e w' ⟨rfl,d',m,os,hp,hs,rfl⟩
 have hsz:d'.size=n:=by have:=hp.1;rw [e0] at this;exact this
 obtain ⟨l',rfl⟩:∃l':List α,d'=l'.toArray:=⟨d'.toList,rfl⟩
 have hl':l'.length=n:=by simpa using hsz
 obtain ⟨h1,h2⟩:=put_kind K h0 (m:=m) (os:=os) h hn hl'
 refine ⟨rfl,h2,l',?_,?_,h1⟩
 ·have:=hp.2.2
  rw [Array.extract_eq_self_of_le (by omega),Array.extract_eq_self_of_le (by omega)] at this
  exact this
 ·rw [List.pairwise_iff_getElem]
  intro i j hi hj hij hc
  have:=hs i j (Nat.zero_le _) hij (by omega)
  rw [getElem!_pos l'.toArray j (by simpa using hj),getElem!_pos l'.toArray i (by simpa using hi)] at this
  unfold ltOf at this
  simp at this
  omega
end
end Go.Proofs.YtkbaaonchdeneaaGreat
