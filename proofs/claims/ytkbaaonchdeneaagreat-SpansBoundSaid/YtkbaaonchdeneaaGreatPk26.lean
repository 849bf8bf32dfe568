/- ivl.Drop: down the tree, to the knot that has the span. ivl.Drop. Printed by mkdropi.py. -/
import Derived.StillTailTactics
import Derived.Test.YtkbaaonchdeneaaGreatPkSpansTellP6
import Derived.Test.YtkbaaonchdeneaaGreatPk25
import Derived.Test.YtkbaaonchdeneaaGreatPkSpansTellP7
import Derived.Test.YtkbaaonchdeneaaGreatPkSpansTellP5
import Derived.Test.YtkbaaonchdeneaaGreatPk23
set_option maxHeartbeats 16000000
set_option maxRecDepth 100000
namespace Go.Proofs.YtkbaaonchdeneaaGreat
open Go.RowKit
structure HoleK (w:World) (x:Sp) (T:Kn) (p:Value) (F:List Nat) (T':Kn) (p':Value) (F':List Nat) (S':List Sp):Prop where
 here:KnAt w T' p' F'
 sub:∀k∈F',k∈F
 ok:T'.ok S'
 has:x∈S'
 nodup:S'.Nodup
 few:S'.length≤1000
 plug:∀w'',Upd F' w w''→KnAt w'' (T'.drop x) p' F'→KnAt w'' (T.drop x) p F
theorem HoleK.start {w:World} {x:Sp} {T:Kn} {p:Value} {F:List Nat} {S:List Sp} (h:KnAt w T p F) (ho:T.ok S) (hx:x∈S) (hn:S.Nodup) (hf:S.length≤1000):HoleK w x T p F T p F S:=
 ⟨h,fun _ hk=>hk,ho,hx,hn,hf,fun _ _ hk=>hk⟩
theorem HoleK.node {w:World} {x:Sp} {T:Kn} {p:Value} {F:List Nat} {T':Kn} {p':Value} {F':List Nat} {S':List Sp} (h:HoleK w x T p F T' p' F' S') :
 ∃m lo hi l r,T'=.node m lo hi l r:=by
 cases T' with
 |nil=>have h1:=h.ok;have h2:=h.has;rw [show S' = [] from h1] at h2;simp at h2
 |node m lo hi l r=>exact ⟨m,lo,hi,l,r,rfl⟩
theorem knat_parts {b:Nat} {vlo vhi:Value} {Fl Fr:List Nat} (hn:(b::(blk vlo++(blk vhi++(Fl++Fr)))).Nodup) :
 (b∉blk vlo∧b∉blk vhi∧b∉Fl∧b∉Fr)∧(∀k∈blk vlo,k∉blk vhi∧k∉Fl∧k∉Fr)∧(∀k∈blk vhi,k∉Fl∧k∉Fr)∧∀k∈Fl,k∉Fr:=by
 rw [List.nodup_cons,List.nodup_append,List.nodup_append,List.nodup_append] at hn
 obtain ⟨h1,-,⟨-,⟨-,-,h4⟩,h3⟩,h2⟩:=hn
 simp only [List.mem_append] at h1 h2 h3
 refine ⟨⟨fun hc=>h1 (.inl hc),fun hc=>h1 (.inr (.inl hc)),fun hc=>h1 (.inr (.inr (.inl hc))),fun hc=>h1 (.inr (.inr (.inr hc)))⟩,fun k hk=>⟨fun hc=>h2 k hk k (.inl hc) rfl,fun hc=>h2 k hk k (.inr (.inl hc)) rfl,fun hc=>h2 k hk k (.inr (.inr hc)) rfl⟩,
  fun k hk=>⟨fun hc=>h3 k hk k (.inl hc) rfl,fun hc=>h3 k hk k (.inr hc) rfl⟩,fun k hk hc=>h4 k hk k hc rfl⟩
structure KnotOn (w:World) (x:Sp) (T:Kn) (p:Value) (F:List Nat) (m:Int) (lo hi:List Sp) (l r:Kn) (S':List Sp) (b:Nat) (vlo vhi pl pr:Value) (Fl Fr:List Nat):Prop where
 head:w.heap[b]? = some (.cells #[.int .i64 m,vlo,vhi,pl,pr] 258 (0,0))
 rlo:KSp.row w 0 vlo lo
 rhi:KSp.row w 0 vhi hi
 left:x.hi<m→HoleK w x T p F l pl Fl (lessS m S')
 right:¬x.hi<m→m<x.lo→HoleK w x T p F r pr Fr (moreS m S')
 inF:∀k,k=b∨k∈blk vlo∨k∈blk vhi→k∈F
 blo:b∉blk vlo
 bhi:b∉blk vhi
 lh:∀k∈blk vlo,k∉blk vhi
 flo:lo.length≤1000
 fhi:hi.length≤1000
 nlo:lo.Nodup
 nhi:hi.Nodup
 xlo:¬x.hi<m→¬m<x.lo→x∈lo
 xhi:¬x.hi<m→¬m<x.lo→x∈hi
 hit:¬x.hi<m→¬m<x.lo→∀(w'':World) (vn1 vn2:Value),Upd (b::(blk vlo++blk vhi)) w w''→w''.heap[b]? = some (.cells #[.int .i64 m,vn1,vn2,pl,pr] 258 (0,0))→KSp.row w'' 0 vn1 (without lo x)→KSp.row w'' 0 vn2 (without hi x)→
  blk vn1=blk vlo→blk vn2=blk vhi→KnAt w'' (T.drop x) p F
theorem HoleK.open {w:World} {x:Sp} {T:Kn} {p:Value} {F:List Nat} {m:Int} {lo hi:List Sp} {l r:Kn} {p':Value} {F':List Nat} {S':List Sp} (h:HoleK w x T p F (.node m lo hi l r) p' F' S') :
 ∃(b:Nat) (vlo vhi pl pr:Value) (Fl Fr:List Nat),p'=.pointer (some ⟨b,0,none⟩)∧KnotOn w x T p F m lo hi l r S' b vlo vhi pl pr Fl Fr:=by
 obtain ⟨b,vlo,vhi,pl,pr,Fl,Fr,rfl,h1,⟨h2,h3⟩,h4,h5,rfl,h6⟩:=h.here
 obtain ⟨⟨o1,o2⟩,⟨o3,o4⟩,o5,o6⟩:=h.ok
 obtain ⟨⟨a1,a2,a3,a4⟩,a5,a6,a7⟩:=knat_parts h6
 have hsub:=h.sub
 have hplug:=h.plug
 have hhas:=h.has
 have hnod:=h.nodup
 simp only [List.mem_cons,List.mem_append] at hsub
 have hmid:¬x.hi<m→¬m<x.lo→x∈midS m S':=fun c1 c2=>by unfold midS;rw [List.mem_filter];exact ⟨hhas,by simp;omega⟩
 refine ⟨b,vlo,vhi,pl,pr,Fl,Fr,rfl,⟨h1,h2,h3,fun c1=>?_,fun c1 c2=>?_,fun k hk=>?_,a1,a2,fun k hk=>(a5 k hk).1,by rw [o1.length_eq];exact Nat.le_trans (List.length_filter_le _ _) h.few,by rw [o3.length_eq];exact Nat.le_trans (List.length_filter_le _ _) h.few,o1.nodup_iff.2 (hnod.filter _),o3.nodup_iff.2 (hnod.filter _),
  fun c1 c2=>o1.mem_iff.2 (hmid c1 c2),fun c1 c2=>o3.mem_iff.2 (hmid c1 c2),fun c1 c2 w'' vn1 vn2 hu hh r1 r2 e1 e2=>?_⟩⟩
 ·refine ⟨h4,fun k hk=>hsub k (.inr (.inr (.inr (.inl hk)))),o5,by unfold lessS;rw [List.mem_filter];exact ⟨hhas,by simpa using c1⟩,hnod.filter _,Nat.le_trans (List.length_filter_le _ _) h.few,fun w'' hu hk=>hplug w'' (hu.mono fun y hy=>.inl (by simp only [List.mem_cons,List.mem_append];exact .inr (.inr (.inr (.inl hy))))) ?_⟩
  unfold Kn.drop
  rw [if_pos c1]
  exact ⟨b,vlo,vhi,pl,pr,Fl,Fr,rfl,(hu.block b (lt_of_block h1) a3).trans h1,⟨own_upd h2 hu (fun k hk=>(a5 k hk).2.1),own_upd h3 hu (fun k hk=>(a6 k hk).1)⟩,hk,h5.upd hu (fun k hk hc=>a7 k hc hk),rfl,h6⟩
 ·refine ⟨h5,fun k hk=>hsub k (.inr (.inr (.inr (.inr hk)))),o6,by unfold moreS;rw [List.mem_filter];exact ⟨hhas,by simp;omega⟩,hnod.filter _,Nat.le_trans (List.length_filter_le _ _) h.few,fun w'' hu hk=>hplug w'' (hu.mono fun y hy=>.inl (by simp only [List.mem_cons,List.mem_append];exact .inr (.inr (.inr (.inr hy))))) ?_⟩
  unfold Kn.drop
  rw [if_neg c1,if_pos c2]
  exact ⟨b,vlo,vhi,pl,pr,Fl,Fr,rfl,(hu.block b (lt_of_block h1) a4).trans h1,⟨own_upd h2 hu (fun k hk=>(a5 k hk).2.2),own_upd h3 hu (fun k hk=>(a6 k hk).2)⟩,h4.upd hu (fun k hk=>a7 k hk),hk,rfl,h6⟩
 ·rcases hk with hk | hk | hk
  ·exact hsub k (.inl hk)
  ·exact hsub k (.inr (.inl hk))
  ·exact hsub k (.inr (.inr (.inl hk)))
 ·have hnu:∀{k:Nat},(k∈Fl∨k∈Fr)→k∉b::(blk vlo++blk vhi):=fun hk hc=>by
   simp only [List.mem_cons,List.mem_append] at hc
   rcases hk with hk | hk<;>rcases hc with rfl | hc | hc
   ·exact a3 hk
   ·exact (a5 _ hc).2.1 hk
   ·exact (a6 _ hc).1 hk
   ·exact a4 hk
   ·exact (a5 _ hc).2.2 hk
   ·exact (a6 _ hc).2 hk
  refine hplug w'' (hu.mono fun y hy=>.inl (by simp only [List.mem_cons,List.mem_append] at hy ⊢;rcases hy with hy | hy | hy;exact .inl hy;exact .inr (.inl hy);exact .inr (.inr (.inl hy)))) ?_
  unfold Kn.drop
  rw [if_neg c1,if_neg c2]
  exact ⟨b,vn1,vn2,pl,pr,Fl,Fr,rfl,hh,⟨r1,r2⟩,h4.upd hu (fun k hk=>hnu (.inl hk)),h5.upd hu (fun k hk=>hnu (.inr hk)),by rw [e1,e2],h6⟩
def KeepD (w:World) (kb:Nat) (vlo vhi:Value):Prop:=w.cell? ⟨kb,1,none⟩=some vlo∧w.cell? ⟨kb,2,none⟩=some vhi
theorem KeepD.upd {w w':World} {kb:Nat} {vlo vhi:Value} (h:KeepD w kb vlo vhi) {F:List Nat} (hu:Upd F w w') (hk:kb∉F):KeepD w' kb vlo vhi:=
 ⟨(hu.cell (p:=⟨kb,1,none⟩) (World.block_lt_of_cell? w _ h.1) hk).trans h.1,(hu.cell (p:=⟨kb,2,none⟩) (World.block_lt_of_cell? w _ h.2) hk).trans h.2⟩
theorem ivlDropNo {w:World} {b:Nat} {p vr:Value} {R:List Sp} {T:Kn} {Fk:List Nat} (h:IvlAt w b p vr R T Fk) (x:Sp) (hx:x∉R) (hb:R.length≤1000) :
 Calls Tryz.prog 110 #[.pointer (some ⟨b,0,none⟩),spV x] w fun e w'=>e=.returned (.bool false)∧Upd [] w w':=by
 have hu:Upd [] w (w.alloc (.cells #[.int .i64 x.lo,.int .i64 x.hi,.int .u32 (x.id:Int)] 62)):=(Upd.refl _ _).alloc _
 have hbx:=BoxS.new w x
 have h0:=h.upd0 hu
 have HU:=Lib.hid hu
 have hix:=indexS vr R x (w.alloc (.cells #[.int .i64 x.lo,.int .i64 x.hi,.int .u32 (x.id:Int)] 62)).drew (See.of_row (own_upd h0.row (Upd.refl [] _).drew (by simp))) (by omega)
 unfold spV at hix ⊢
 have c0:=h0.cells.1
 have c2:=h0.cells.2.2.1
 have HX:=Lib.hid hx
 go_enter Tryz.func110,Tryz.ntmps110
 go_upto_region 1 with fail
 generalize (w.alloc (.cells #[.int .i64 x.lo,.int .i64 x.hi,.int .u32 (x.id:Int)] 62))=W0 at HU hbx hix c0 c2 ⊢
 obtain ⟨d0,d1,d2⟩:=hbx
 have HIX:=Lib.hid hix
 clear hix h h0 hu hx hb
 go_upto_region 3 with fail
 go_still_tail 5,(by kernel_rfl)
 change wpList _ _ _ _ _ W0.drew
 go_wp2_with fail
 (with_reducible refine HIX.out.mono ?_)
 rintro e w1 ⟨u1,(⟨-,rfl⟩ | ⟨k,hk,-⟩)⟩
 ·have HU1:=Lib.hid u1
  clear u1
  go_wp2_with fail
  go_ret
  exact ⟨rfl,(HU.out.trans (Upd.refl [] _).drew).trans HU1.out⟩
 ·exact absurd (List.mem_of_getElem? hk) HX.out
def DropKPost (w:World) (b:Nat) (p vr:Value) (R:List Sp) (T:Kn) (Fk:List Nat) (x:Sp) (e:Ending) (w':World):Prop:=
 e=.returned (.bool true)∧∃vn,IvlAt w' b p vn (without R x) (T.drop x) Fk∧blk vn=blk vr∧Upd (b::(blk vr++Fk)) w w'
theorem ivlDropYes {w:World} {b:Nat} {p vr:Value} {R:List Sp} {T:Kn} {Fk:List Nat} (h:IvlAt w b p vr R T Fk) (x:Sp) (hx:x∈R) (hnd:R.Nodup) (ho:T.ok R) (hb:R.length≤1000) :
 Calls Tryz.prog 110 #[.pointer (some ⟨b,0,none⟩),spV x] w (DropKPost w b p vr R T Fk x):=by
 have hu:Upd [] w (w.alloc (.cells #[.int .i64 x.lo,.int .i64 x.hi,.int .u32 (x.id:Int)] 62)):=(Upd.refl _ _).alloc _
 have hbx:=BoxS.new w x
 have h0:=h.upd0 hu
 have HU:=Lib.hid hu
 obtain ⟨pq,rfl⟩:=h.tree.ptr
 obtain ⟨k,hk⟩:=List.mem_iff_getElem?.1 hx
 obtain ⟨n,hn⟩:∃n,R.length=n:=⟨_,rfl⟩
 have hkn:k<n:=by rw [←hn];exact (List.getElem?_eq_some_iff.1 hk).1
 obtain ⟨g,C,hvr⟩:∃g C,vr=.slice (some ⟨g,0,none⟩) n C:=by
  rcases h.row.2 with ⟨-,h2⟩ | ⟨g,cap,cur,h2,-⟩
  ·omega
  ·exact ⟨g,cap,by rw [h2,hn]⟩
 subst hvr
 have hix:=indexS (.slice (some ⟨g,0,none⟩) n C) R x (w.alloc (.cells #[.int .i64 x.lo,.int .i64 x.hi,.int .u32 (x.id:Int)] 62)).drew (See.of_row (own_upd h0.row (Upd.refl [] _).drew (by simp))) (by omega)
 unfold spV at hix ⊢
 have c0:=h0.cells.1
 have c2:=h0.cells.2.2.1
 have hqf:∀y,y=b∨y∈blk (.slice (some ⟨g,0,none⟩) n C)∨y∈Fk→y<w.heap.size:=fun y hy=>by
  rcases hy with rfl | hy | hy
  ·exact lt_of_block h.head
  ·exact own_lt h.row y hy
  ·exact h.tree.lt y hy
 have HXF:=Lib.hid hb
 have HX:=Lib.hid (And.intro hx (And.intro hnd (And.intro ho (And.intro hk (And.intro hn hkn)))))
 have HQF:=Lib.hid hqf
 have HH:=Lib.hid h0
 have HA0:=Lib.hid (And.intro h.bro (And.intro h.btr h.rtr))
 have k0:(0:Int)≤(k:Int):=Int.natCast_nonneg _
 have k1:(k:Int)<(n:Int):=by omega
 have n1:(n:Int)≤1000:=by omega
 go_enter Tryz.func110,Tryz.ntmps110
 go_upto_region 1 with fail
 generalize (w.alloc (.cells #[.int .i64 x.lo,.int .i64 x.hi,.int .u32 (x.id:Int)] 62))=W0 at HU hbx hix c0 c2 HH ⊢
 obtain ⟨q,hq⟩:∃q,w.heap.size=q:=⟨_,rfl⟩
 rw [hq] at hbx HQF ⊢
 have HBX:=Lib.hid hbx
 obtain ⟨d0,d1,d2⟩:=hbx
 have HIX:=Lib.hid hix
 clear hix h h0 hu hx hb hnd ho hk hn hkn hqf hq
 go_upto_region 3 with fail
 go_still_tail 5,(by kernel_rfl)
 change wpList _ _ _ _ _ W0.drew
 go_wp2_with fail
 (with_reducible refine HIX.out.mono ?_)
 rintro e w1 ⟨u1,(⟨hc,-⟩ | ⟨k',hk',rfl⟩)⟩
 ·exact absurd HX.out.1 hc
 have hkk:k'=k:=by
  obtain ⟨g1,g2⟩:=List.getElem?_eq_some_iff.1 hk'
  obtain ⟨g3,g4⟩:=List.getElem?_eq_some_iff.1 HX.out.2.2.2.1
  rcases Nat.lt_trichotomy k' k with h1 | h1 | h1
  ·exact absurd (g2.trans g4.symm) (List.pairwise_iff_getElem.1 HX.out.2.1 k' k g1 g3 h1)
  ·exact h1
  ·exact absurd (g4.trans g2.symm) (List.pairwise_iff_getElem.1 HX.out.2.1 k k' g3 g1 h1)
 subst hkk
 have hu1:Upd [] W0 w1:=(Upd.refl [] W0).drew.trans u1
 have h1:=HH.out.upd0 hu1
 have hbx1:=HBX.out.upd hu1 (by simp)
 have hdel:=deleteC 0 g n C R k' w1 h1.row HX.out.2.2.2.2.1 HX.out.2.2.2.2.2 (by omega)
 have HDEL:=Lib.hid hdel
 have H1:=Lib.hid (And.intro h1 (And.intro hbx1 hu1))
 have c21:=h1.cells.2.2.1
 clear u1 hk' h1 hbx1 hdel d0 d1 d2 c0 c2 hu1
 go_wp2_with fail
 (with_reducible refine HDEL.out.mono ?_)
 rintro e w2 ⟨rfl,r2,u2⟩
 have hera:R.eraseIdx k'=without R x:=eraseIdx_filter HX.out.2.1 HX.out.2.2.2.1
 rw [hera] at r2
 have hgb:g≠b:=fun e=>HA0.out.1 (by simp [blk,e])
 have hbg:b∉[g]:=by simp;exact Ne.symm hgb
 have hh2:=(u2.block b (lt_of_block H1.out.1.head) hbg).trans H1.out.1.head
 have c22:w2.cell? ⟨b,2,none⟩=some (.slice (some ⟨g,0,none⟩) n C):=by simp [World.cell?,hh2]
 have f22:w2.frozen? ⟨b,2,none⟩=false:=by simp [World.frozen?,hh2]
 have hh3:=heap_set hh2 2 (.slice (some ⟨g,0,none⟩) (R.length - 1) C)
 have us:Upd [b] w2 (w2.setCell ⟨b,2,none⟩ (.slice (some ⟨g,0,none⟩) (R.length - 1) C)):=(Upd.refl _ _).setCell (p:=⟨b,2,none⟩) (.inl (by simp)) _
 have r3:=own_upd r2 us (by simpa [blk] using hgb)
 have t3:=(H1.out.1.tree.upd u2 (fun y hy hc=>by simp at hc;subst hc;exact HA0.out.2.2 y (by simp [blk]) hy)).upd us (fun y hy hc=>by simp at hc;subst hc;exact HA0.out.2.1 hy)
 have hqg:q∉[g]:=by simp;intro e;have:=HQF.out g (.inr (.inl (by simp [blk])));omega
 have hqb:q∉[b]:=by simp;intro e;have:=HQF.out b (.inl rfl);omega
 have b3:=(H1.out.2.1.upd u2 hqg).upd us hqb
 have HE3:=Lib.hid (And.intro (H1.out.2.2.mono (G:=[g,b]) (by simp)) (And.intro (u2.mono (G:=[g,b]) (by simp)) (us.mono (G:=[g,b]) (by simp))))
 clear hera u2 r2 c21 hgb hbg hh2 hqg hqb us
 go_upto_region 7 with fail
 clear c22 f22
 have HU3:=Lib.hid ((HE3.out.1.trans HE3.out.2.1).trans HE3.out.2.2)
 generalize (w2.setCell ⟨b,2,none⟩ (.slice (some ⟨g,0,none⟩) (R.length - 1) C))=W3 at hh3 r3 t3 b3 HU3 ⊢
 have c31:W3.cell? ⟨b,1,none⟩=some (.pointer pq):=by simp [World.cell?,hh3]
 have HHO:=Lib.hid (HoleK.start t3 HX.out.2.2.1 HX.out.1 HX.out.2.1 HXF.out)
 have H3:=Lib.hid (And.intro hh3 (And.intro r3 b3))
 clear hh3 r3 t3 b3
 go_wp2_with fail
 clear c31
 go_loopg [6] T.depth (fun m s6 wr=>∃(T':Kn) (F':List Nat) (S':List Sp),m=T'.depth∧HoleK W3 x T (.pointer pq) Fk T' s6 F' S'∧Upd [] W3 wr)
 case atStart=>exact ⟨T,Fk,R,rfl,HHO.out,Upd.refl _ _⟩
 case round=>
  obtain ⟨T',F',S',hmd,hho,hup⟩:=hrel
  obtain ⟨m',lo,hi2,l,r,rfl⟩:=hho.node
  obtain ⟨kb,vlo,vhi,pl,pr,Fl,Fr,rfl,hon⟩:=hho.open
  have hdep:=depth_l m' lo hi2 l r
  have hhk:=(hup.block kb (lt_of_block hon.head) (by simp)).trans hon.head
  have kc0:wr.cell? ⟨kb,0,none⟩=some (.int .i64 m'):=by simp [World.cell?,hhk]
  obtain ⟨e0,e1,e2⟩:=H3.out.2.2.upd hup (by simp)
  have HON:=Lib.hid hon
  have HUP:=Lib.hid (And.intro hup hhk)
  have HMD:=Lib.hid (And.intro hmd hdep)
  clear hho hon hhk hup hmd hdep
  by_cases c1:x.hi<m'
  ·have hl:=HON.out.left c1
   obtain ⟨ql,rfl⟩:=hl.here.ptr
   have kc3:wr.cell? ⟨kb,3,none⟩=some (.pointer ql):=by simp [World.cell?,HUP.out.2]
   have q1:decide (x.hi<m')=true:=decide_eq_true c1
   have HL:=Lib.hid hl
   clear hl c1
   go_wp2_with fail
   go_quiet (fail)
   go_wp2_with fail
   go_quiet (fail)
   go_wp2_with fail
   go_roundg l.depth
   case measure=>have h1:=HMD.out.1;have h2:=HMD.out.2.1;omega
   case rel=>exact ⟨l,Fl,_,rfl,HL.out,HUP.out.1.drewN _⟩
  ·by_cases c2:m'<x.lo
   ·have hl:=HON.out.right c1 c2
    obtain ⟨ql,rfl⟩:=hl.here.ptr
    have kc4:wr.cell? ⟨kb,4,none⟩=some (.pointer ql):=by simp [World.cell?,HUP.out.2]
    have q1:decide (x.hi<m')=false:=decide_eq_false c1
    have q2:decide (m'<x.lo)=true:=decide_eq_true c2
    have HL:=Lib.hid hl
    clear hl c1 c2
    go_wp2_with fail
    go_quiet (fail)
    go_wp2_with fail
    go_quiet (fail)
    go_wp2_with fail
    go_roundg r.depth
    case measure=>have h1:=HMD.out.1;have h2:=HMD.out.2.2.1;omega
    case rel=>exact ⟨r,Fr,_,rfl,HL.out,HUP.out.1.drewN _⟩
   ·have q1:decide (x.hi<m')=false:=decide_eq_false c1
    have q2:decide (m'<x.lo)=false:=decide_eq_false c2
    have HCX:=Lib.hid (And.intro c1 c2)
    clear c1 c2
    go_wp2_with fail
    go_quiet (fail)
    go_wp2_with fail
    go_upto_region 13 with fail
    generalize hwq:wr.drewN _=Wq
    have huq:Upd [] wr Wq:=hwq ▸ (Upd.refl [] wr).drewN _
    have hud:=huq.drew
    have hh6:=(hud.block kb (lt_of_block HUP.out.2) (by simp)).trans HUP.out.2
    have hw6:=HUP.out.1.trans hud
    have HKD:=Lib.hid (show KeepD Wq.drew kb vlo vhi from ⟨by simp [World.cell?,hh6],by simp [World.cell?,hh6]⟩)
    have hq6:=H3.out.2.2.upd hw6 (by simp)
    have hqF:∀y∈Fk,y≠q:=fun y hy hc=>by have:=HQF.out y (.inr (.inr hy));omega
    have HQN:=Lib.hid (And.intro (fun hc=>hqF q (HON.out.inF q (.inr (.inl hc))) rfl:q∉blk vlo) (fun hc=>hqF q (HON.out.inF q (.inr (.inr hc))) rfl:q∉blk vhi))
    have HLN:=Lib.hid (And.intro (show lo.length<1000000 by have:=HON.out.flo;omega) (show hi2.length<1000000 by have:=HON.out.fhi;omega))
    have HR6:=Lib.hid (And.intro hh6 (And.intro (own_upd HON.out.rhi hw6 (by simp)) hq6))
    have HD1:=Lib.hid (delFC 0 vlo lo x q Wq.drew (own_upd HON.out.rlo hw6 (by simp)) HON.out.nlo (HON.out.xlo (by have:=HCX.out;omega) (by have:=HCX.out;omega)) HLN.out.1 hq6 HQN.out.1)
    have HW6:=Lib.hid hw6
    clear hh6 hw6 hq6 hqF hud huq hwq e0 e1 e2 kc0 q1 q2
    refine GoT.start [13,14,15,16,17,18,19] (fun w'=>KeepD w' kb vlo vhi) (by kernel_rfl) ?_ fun hS=>?_
    ·exact HKD.out
    refine' GoT.mv (i:=0) (oi:=⟨some 72,_,_,_,_,_⟩) rfl (by rfl) ?y13_0 ?_
    case y13_0=>intro w;go_simp<;>with_reducible rfl
    simp only [Act.put,sA,sZ,sS]
    refine' GoT.mv (i:=1) (oi:=⟨some 73,_,_,_,_,_⟩) rfl (by rfl) ?y13_1 ?_
    case y13_1=>intro w;go_simp<;>with_reducible rfl
    simp only [Act.put,sA,sZ,sS]
    refine' GoT.mv (i:=2) (oi:=⟨some 74,_,_,_,_,_⟩) rfl (by rfl) ?y13_2 ?_
    case y13_2=>intro w;go_simp<;>with_reducible rfl
    simp only [Act.put,sA,sZ,sS]
    refine' GoT.mv (i:=3) (oi:=⟨some 75,_,_,_,_,_⟩) rfl (by rfl) ?y13_3 ?_
    case y13_3=>intro w;go_simp<;>with_reducible rfl
    simp only [Act.put,sA,sZ,sS]
    refine' GoT.mv (i:=4) (oi:=⟨some 76,_,_,_,_,_⟩) rfl (by rfl) ?y13_4 ?_
    case y13_4=>intro w;go_simp<;>with_reducible rfl
    simp only [Act.put,sA,sZ,sS]
    refine' GoT.tk 2 (i:=5) (oi:=⟨some 77,_,_,_,_,_⟩) rfl (by rfl) ?y13_5 ?_
    case y13_5=>intro w hSw;obtain ⟨s0,s1⟩:=hSw;go_simp<;>with_reducible rfl
    simp only [Act.put,sA,sZ,sS]
    refine' GoT.mv (i:=6) (oi:=⟨some 78,_,_,_,_,_⟩) rfl (by rfl) ?y13_6 ?_
    case y13_6=>intro w;go_simp<;>with_reducible rfl
    simp only [Act.put,sA,sZ,sS]
    refine' GoT.mv (i:=8) (oi:=⟨some 80,_,_,_,_,_⟩) rfl (by rfl) ?y13_8 ?_
    case y13_8=>intro w;go_simp<;>with_reducible rfl
    simp only [Act.put,sA,sZ,sS]
    refine' GoT.mv (i:=9) (oi:=⟨some 81,_,_,_,_,_⟩) rfl (by rfl) ?y13_9 ?_
    case y13_9=>intro w;go_simp<;>with_reducible rfl
    simp only [Act.put,sA,sZ,sS]
    refine' GoT.mv (i:=10) (oi:=⟨some 82,_,_,_,_,_⟩) rfl (by rfl) ?y13_10 ?_
    case y13_10=>intro w;go_simp<;>with_reducible rfl
    simp only [Act.put,sA,sZ,sS]
    refine' GoT.tk 2 (i:=11) (oi:=⟨some 83,_,_,_,_,_⟩) rfl (by rfl) ?y13_11 ?_
    case y13_11=>intro w hSw;obtain ⟨s0,s1⟩:=hSw;go_simp<;>with_reducible rfl
    simp only [Act.put,sA,sZ,sS]
    refine' GoT.mv (i:=12) (oi:=⟨some 84,_,_,_,_,_⟩) rfl (by rfl) ?y13_12 ?_
    case y13_12=>intro w;go_simp<;>with_reducible rfl
    simp only [Act.put,sA,sZ,sS]
    refine GoT.one (i:=7) (o:=⟨some 79,_,_,_,_,_⟩) rfl (by kernel_rfl) fun Kt hK=>?_
    go_simp
    go_at_call 177
    (with_reducible refine HD1.out.mono ?_)
    rintro e wA ⟨v1,rfl,k1,k2,k3⟩
    have hd2:=delFC 0 vhi hi2 x q wA (own_upd HR6.out.2.1 k3 (fun k hk hc=>HON.out.lh k hc hk)) HON.out.nhi (HON.out.xhi (by have:=HCX.out;omega) (by have:=HCX.out;omega)) HLN.out.2 (HR6.out.2.2.upd k3 HQN.out.1) HQN.out.2
    have HD2:=Lib.hid hd2
    have HA:=Lib.hid (And.intro k1 (And.intro k2 k3))
    clear k1 k2 k3 hd2
    refine hK.out _ _ (fun _ h=>?_) ?_
    ·exact h.upd HA.out.2.2 HON.out.blo
    clear hK Kt
    try simp only [Act.put,sA,sZ,sS]
    refine GoT.one (i:=13) (o:=⟨some 85,_,_,_,_,_⟩) rfl (by kernel_rfl) fun Kt hK=>?_
    go_simp
    go_at_call 177
    (with_reducible refine HD2.out.mono ?_)
    rintro e wB ⟨v2,rfl,k1,k2,k3⟩
    have hh0:=(k3.block kb (lt_of_block ((HA.out.2.2.block kb (lt_of_block HR6.out.1) HON.out.blo).trans HR6.out.1)) HON.out.bhi).trans ((HA.out.2.2.block kb (lt_of_block HR6.out.1) HON.out.blo).trans HR6.out.1)
    have hr1:=own_upd HA.out.1 k3 (fun k hk hc=>HON.out.lh k (by rw [←HA.out.2.1];exact hk) hc)
    obtain ⟨A1,C1,hv1⟩:=own_form hr1
    obtain ⟨A2,C2,hv2⟩:=own_form k1
    subst hv1 hv2
    have hh1:=heap_set hh0 1 (.slice A1 (without lo x).length C1)
    have hs1:wB.cell? ⟨kb,1,none⟩=some vlo:=by simp [World.cell?,hh0]
    have hf1:wB.frozen? ⟨kb,1,none⟩=false:=by simp [World.frozen?,hh0]
    have hs2:(wB.setCell ⟨kb,1,none⟩ (.slice A1 (without lo x).length C1)).cell? ⟨kb,2,none⟩=some vhi:=by simp [World.cell?,hh1]
    have hf2:(wB.setCell ⟨kb,1,none⟩ (.slice A1 (without lo x).length C1)).frozen? ⟨kb,2,none⟩=false:=by simp [World.frozen?,hh1]
    have hset:Upd [kb] wB ((wB.setCell ⟨kb,1,none⟩ (.slice A1 (without lo x).length C1)).setCell ⟨kb,2,none⟩ (.slice A2 (without hi2 x).length C2)):=((Upd.refl _ _).setCell (p:=⟨kb,1,none⟩) (.inl (by simp)) _).setCell (p:=⟨kb,2,none⟩) (.inl (by simp)) _
    have hh2:=heap_set hh1 2 (.slice A2 (without hi2 x).length C2)
    have HEND:=Lib.hid (And.intro hh2 (And.intro (own_upd hr1 hset (fun k hk hc=>HON.out.blo (by simp at hc;subst hc;rw [←HA.out.2.1];exact hk))) (And.intro (own_upd k1 hset (fun k hk hc=>HON.out.bhi (by simp at hc;subst hc;rw [←k2];exact hk))) (And.intro HA.out.2.1 (And.intro k2 (And.intro k3 hset))))))
    clear hh0 hh1 hh2 hr1 k1 k2 k3 hset
    refine hK.out _ _ (fun h=>(by cases h)) ?_
    clear hK Kt
    try simp only [Act.put,sA,sZ,sS]
    refine' GoT.mv (i:=14) (oi:=⟨some 86,_,_,_,_,_⟩) rfl (by rfl) ?y13_14 ?_
    case y13_14=>intro w;go_simp<;>with_reducible rfl
    simp only [Act.put,sA,sZ,sS]
    refine' GoT.mv (i:=15) (oi:=⟨some 87,_,_,_,_,_⟩) rfl (by rfl) ?y13_15 ?_
    case y13_15=>intro w;go_simp<;>with_reducible rfl
    simp only [Act.put,sA,sZ,sS]
    refine GoT.one (i:=16) (o:=⟨none,_,_,_,_,_⟩) rfl (by kernel_rfl) fun Kt hK=>?_
    go_simp
    clear hs1 hf1
    refine hK.out _ _ (fun h=>(by cases h)) ?_
    clear hK Kt
    try simp only [Act.put,sA,sZ,sS]
    refine' GoT.mv (i:=17) (oi:=⟨some 88,_,_,_,_,_⟩) rfl (by rfl) ?y13_17 ?_
    case y13_17=>intro w;go_simp<;>with_reducible rfl
    simp only [Act.put,sA,sZ,sS]
    refine' GoT.mv (i:=18) (oi:=⟨some 89,_,_,_,_,_⟩) rfl (by rfl) ?y13_18 ?_
    case y13_18=>intro w;go_simp<;>with_reducible rfl
    simp only [Act.put,sA,sZ,sS]
    refine GoT.one (i:=19) (o:=⟨none,_,_,_,_,_⟩) rfl (by kernel_rfl) fun Kt hK=>?_
    go_simp
    clear hs2 hf2
    refine hK.out _ _ (fun h=>(by cases h)) ?_
    clear hK Kt
    try simp only [Act.put,sA,sZ,sS]
    refine GoT.done (by kernel_rfl) ?_
    go_wp2_with fail
    go_ret
    obtain ⟨g1,g2,g3,g4,g5,g6,g7⟩:=HEND.out
    have uh:=(((HW6.out.mono (G:=kb::(blk vlo++blk vhi)) (by simp)).trans (HA.out.2.2.mono (G:=kb::(blk vlo++blk vhi)) (fun y hy=>.inl (by simp [hy])))).trans (g6.mono (G:=kb::(blk vlo++blk vhi)) (fun y hy=>.inl (by simp [hy])))).trans (g7.mono (G:=kb::(blk vlo++blk vhi)) (fun y hy=>.inl (by simp at hy;simp [hy])))
    have hin:∀y∈kb::(blk vlo++blk vhi),y∈Fk:=fun y hy=>HON.out.inF y (by simpa using hy)
    have ht:=HON.out.hit (by have:=HCX.out;omega) (by have:=HCX.out;omega) _ _ _ uh g1 g2 g3 g4 g5
    refine ⟨rfl,.slice (some ⟨g,0,none⟩) (R.length - 1) C,⟨(uh.block b (lt_of_block H3.out.1) (fun hc=>HA0.out.2.1 (hin b hc))).trans H3.out.1,own_upd H3.out.2.1 uh (fun y hy hc=>HA0.out.2.2 y (by simpa [blk] using hy) (hin y hc)),ht,by simpa [blk] using HA0.out.1,HA0.out.2.1,fun y hy=>HA0.out.2.2 y (by simpa [blk] using hy)⟩,rfl,?_⟩
    exact ((HU.out.mono (G:=b::(blk (.slice (some ⟨g,0,none⟩) n C)++Fk)) (by simp)).trans (HU3.out.mono (fun y hy=>.inl (by simp at hy;rcases hy with rfl | rfl<;>simp [blk])))).trans (uh.mono (fun y hy=>.inl (by simp [hin y hy])))
end Go.Proofs.YtkbaaonchdeneaaGreat
