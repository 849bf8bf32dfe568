/- carry.Carry of names.entry: what each call does to the buckets in memory. Printed by mkcar.py. -/
import Derived.Deep.RegionHeld3
import Derived.Deep.DeepCutAuto
import Derived.Deep.CutBlock
import Derived.Deep.Light
import Derived.BigQuiet
import Derived.Test.YtkbaaonchdeneaaGreatPb5
set_option maxHeartbeats 1000000
set_option maxRecDepth 100000
namespace Go.Proofs.YtkbaaonchdeneaaGreat.Rq
open Go.RowKit
def KI:Kind (Nat×Nat):={ T:=261,sT:=187,eT:=172,sz:=2,enc:=fun x=>[.int .u32 (x.1:Int),.int .i64 x.2],len:=fun _=>rfl,one:=fun x u hu=>by simp at hu;rcases hu with rfl | rfl<;>rfl }
theorem D9:(Tryz.prog.info? 172).map (fun i=>(i.zero,i.size,i.bytes))=some (some (.agg #[.int .u32 0,.int .i64 0]),2,16):=by kernel_rfl
theorem Eh (s:Value) (n:Nat) (xs:List Value) (w:World) (hs:Ed w 2 s n xs) (h1:∀u∈xs,u.oneCell'=true) (hb:n*16≤140737488355328) :
 Calls Tryz.prog 195 #[s] w fun e w'=>∃A C,e=.returned (.slice A n C)∧w'.ownsRow w.heap.size 172 2 (.slice A n C) n xs∧Below w.heap.size w w':=by
 obtain ⟨i0,hi,hz0,hz1,hz2⟩:=info_parts D9;have HS:=AQ hs;have H1:=AQ h1;clear h1;have HB:=AQ hb;clear hb;rcases hs.2 with ⟨rfl,rfl⟩ | ⟨b,o,sp,cap,rfl,_⟩
 ·clear hs;have he:=fun w=>Lib.run_eql_slice_nil (P:=Tryz.prog) (w:=w) 187 172 none 0 0 0 0 Tryz.underlying187
  go_enter Tryz.func195,Tryz.ntmps195
  go_wp2
  go_ret
  have hx:xs = []:=List.eq_nil_of_length_eq_zero (by simpa using HS.1);subst hx;exact ⟨_,_,rfl,World.ownsRow_nil _ _ _ _,Below.refl _ _⟩
 ·clear hs;have he:=fun w=>Lib.run_eql_slice_nil (P:=Tryz.prog) (w:=w) 187 172 (some ⟨b,o,sp⟩) n cap 0 0 Tryz.underlying187
  go_enter Tryz.func195,Tryz.ntmps195
  go_wp2_with (at_builtin;refine BL _ rfl _ _ 187 rfl w.heap.size 172 i0 (.agg #[.int .u32 0,.int .i64 0]) 2 16 Tryz.underlying187 hi hz0 hz1 hz2 rfl (by decide) _ 0 [] rfl (World.ownsRow_made w #[] 0 (Nat.le_refl _) (by decide) rfl) _ n xs rfl (Dq HS.out ((Bf.refl [] w).alloc _) (by simp)) H1.out (by have:=HB.out;unfold maxLen;omega) (Ac HB) (by simp) ?_)
  intro A C w1 HP;have HU:=HP.upd;have hb1:Below w.heap.size w w1:=(((Bf.refl [] w).alloc _).trans' HU (fun k hk=>by simp [blk] at hk;omega)).below;have hown:w1.ownsRow w.heap.size 172 2 (.slice A n C) n xs:=by simpa using HP.own
  clear he;go_wp2
  go_ret
  exact ⟨_,_,rfl,hown,hb1⟩
def Ints (w:World) (v:Value) (l:List (Nat×Nat)):Prop:=Ed w 2 v l.length (KI.all l)
theorem Ints.form {w:World} {v:Value} {l:List (Nat×Nat)} (h:Ints w v l):∃A C,v=.slice A l.length C:=Kv h
theorem Ints.cell {w:World} {A:Option Addr} {n C:Nat} {l:List (Nat×Nat)} (h:Ints w (.slice A n C) l) {k:Nat} (hk:k<l.length) :
 ∃b o,A=some ⟨b,o,none⟩∧w.cell? ⟨b,o+k*2,none⟩=some (.int .u32 (l[k].1:Int))∧w.cell? ⟨b,o+k*2+1,none⟩=some (.int .i64 l[k].2):=by
 obtain ⟨b,o,h1,_,_,h4⟩:=See.at (K:=KI) h (k:=k) (AX hk);exact ⟨b,o,h1,h4 0 _ rfl,h4 1 _ rfl⟩
theorem Ints.upd {F:List Nat} {w w':World} {v:Value} {l:List (Nat×Nat)} (h:Ints w v l) (hu:Bf F w w') (hd:0<l.length→∀k∈blk v,k<w.heap.size→k∉F):Ints w' v l:=Dq h hu hd
theorem Ints.Bh {w w':World} {v:Value} {l:List (Nat×Nat)} (h:Ints w v l) (hu:Bf [] w w'):Ints w' v l:=Dq h hu (by simp)
theorem Ints.BX {w:World} {base:Nat} {v:Value} {l:List (Nat×Nat)} (h:KI.row w base v l):Ints w v l:=CW h
theorem JK:(Tryz.prog.info? 187).map (fun i=>(i.zero,i.size,i.bytes))=some (some (.slice none 0 0),1,24):=by kernel_rfl
theorem PL (b:Nat) (w:World) (h:w.cell? ⟨b,0,none⟩=some (.bool true)) :
 Calls Tryz.prog 194 #[.pointer (some ⟨b,0,none⟩)] w fun e w'=>e=.returned (.bool false)∧w=w':=by
 go_enter Tryz.func194,Tryz.ntmps194
 go_wp2
 go_ret
 exact ⟨rfl,rfl⟩
theorem a4i (b:Nat) (F:List Nat) (x:(Nat×Nat)) (bs:List (List (Nat×Nat))) (n work:Nat) (w:World) (h':Dz KI w b F bs n work) (hn:bs.length<1000000) (htot:bs.flatten.length<1000000) (hnn:n<1000000) (hwk:work<1099511627776) :
 Calls Tryz.prog 126 #[.pointer (some ⟨b,0,none⟩),.agg #[.int .u32 (x.1:Int),.int .i64 x.2]] w fun e w'=>∃A C,e=.returned (.tuple #[.int .i64 (Bl bs),.slice A (EF bs x).length C])∧
  YB KI w w' b F (QZ bs x) (n+1) (work+(EF bs x).length) (.slice A (EF bs x).length C) (EF bs x):=by
 obtain ⟨vb,vs,h,rfl⟩:=h';obtain ⟨A,C,rfl⟩:=Bv h.list;obtain ⟨hc0,hc1,hc2,hc3,hfr⟩:=h.cell;have hlen:=AQ h.len;have hn':vs.length<1000000:=by rw [h.len];exact hn
 have hfb:Bl bs<1000000:=Nat.lt_of_le_of_lt (Eo bs) hn;have Si:=AQ htot;have hUb:Bf [] w (w.alloc (.cells #[.int .u32 (x.1:Int),.int .i64 x.2] 172)):=(Bf.refl [] w).alloc _;have hx0:(w.alloc (.cells #[.int .u32 (x.1:Int),.int .i64 x.2] 172)).cell? ⟨w.heap.size,0,none⟩=some (.int .u32 (x.1:Int)):=by rw [World.cell?_alloc_at _ _ _ _ rfl];rfl
 have hx1:(w.alloc (.cells #[.int .u32 (x.1:Int),.int .i64 x.2] 172)).cell? ⟨w.heap.size,1,none⟩=some (.int .i64 x.2):=by rw [World.cell?_alloc_at _ _ _ _ rfl];rfl
 have qL:w.heap.size∉foot b (.slice A vs.length C) vs:=fun hc=>Nat.lt_irrefl _ (h.lt _ hc)
 have hpb:w.heap.size<(w.alloc (.cells #[.int .u32 (x.1:Int),.int .i64 x.2] 172)).heap.size:=by simp
 have h':=h.upd hUb (by simp);obtain ⟨hc0,hc1,hc2,hc3,_⟩:=h'.cell;have H:=AQ h';clear h h' hfr hn htot;go_enter Tryz.func126,Tryz.ntmps126
 go_upto_block 0 with (go_at_call 194;refine (PL _ _ hc0).mono ?_;rintro e w' ⟨rfl,rfl⟩)
 generalize (w.alloc (.cells #[.int .u32 (x.1:Int),.int .i64 x.2] 172))=wb at *;have aX:=AQ hUb;clear hUb;go_cut [6] (fun s6 wc=>s6=.int .i64 (Bl bs)∧wb=wc)
 case first=>
  go_wp2_with fail
  go_loopg [6] vs.length (fun m i wr=>∃k:Nat,k≤Bl bs∧i=.int .i64 k∧m+k=vs.length∧wr=wb)
  case atStart=>exact ⟨0,Nat.zero_le _,rfl,rfl,rfl⟩
  case round=>
   obtain ⟨k,hk,rfl,hmk,rfl⟩:=hrel;have hfl:=Eo bs;by_cases hlt:k<vs.length
   ·obtain ⟨g,Ak,Ck,l,hA,hbk,hvk,hcell,hfro,hgb,hrow⟩:=H.out.at hlt;subst hA;have HR:=AQ hrow;clear hrow hvk hfro;have HB:=AQ hbk;clear hbk;have HM:=AQ hmk;clear hmk;by_cases hl:0<l.length
    ·go_wp2
     go_roundg (gk - 1)
     case measure=>have:=HM.out;omega
     case rel=>
      have hne:k≠Bl bs:=fun e=>by
       have:=Oc bs l (by rw [←e];exact HB.out);subst this;simp at hl
      exact ⟨k+1,by omega,by go_num,Ac HM,rfl⟩
    ·go_wp2
     go_meet
     case rel=>
      have hne:Bl bs=k:=by
       refine Nat.le_antisymm ?_ hk
       refine Nat.le_of_not_lt fun hh=>?_
       exact O9 bs k l hh HB.out (List.eq_nil_of_length_eq_zero (by omega))
      exact ⟨by rw [hne],rfl⟩
   ·go_wp2
    go_meet
    case rel=>
     have:=hlen.out;exact ⟨by rw [show k=Bl bs from by omega],rfl⟩
 case rest=>
  obtain ⟨rfl,rfl⟩:=hcut;obtain ⟨i0,hi0,hz0,hz1,hz2⟩:=info_parts JK;obtain ⟨i1,hi1,hy0,hy1,hy2⟩:=info_parts D9;have hfl:=Eo bs;go_upto_if 37 with fail
  go_cut [] (fun wc=>∃bs':List (List (Nat×Nat)),II KI wb wc (foot b (.slice A vs.length C) vs) b bs' n work (Bl bs) (Bl bs) (.slice none 0 0)∧bs'.take (Bl bs)=bs.take (Bl bs)∧bs'.drop (Bl bs+1)=bs.drop (Bl bs+1)∧bs'.length≤bs.length+1)
  case first=>
   by_cases hi:Bl bs<vs.length
   ·have hlt:((Bl bs:Int)==(vs.length:Int))=false:=by simp;omega
    go_wp2
    go_meet
    case rel=>
     have:=hlen.out;exact ⟨bs,II.start H.out (Bf.refl _ _) (fun k hk=>.inl hk) (by omega),rfl,rfl,by omega⟩
   ·have hle:Bl bs≤vs.length:=by rw [hlen.out];exact hfl
    have hlt:((Bl bs:Int)==(vs.length:Int))=true:=by simp;omega
    go_wp2_with (at_builtin;refine BL _ rfl _ _ 173 rfl 0 187 i0 (.slice none 0 0) 1 24 Tryz.underlying173 hi0 hz0 hz1 hz2 rfl (by decide) _ _ vs rfl (H.out.list.alloc _) _ 1 [.slice none 0 0] rfl (BM wb #[.slice none 0 0] 187 1 1 rfl (by decide)) (by simp [Value.oneCell']) (by unfold maxLen;omega) (by omega) (by simp) ?_)
    intro A' C' w1 HP;have hup:Bf (blk (.slice A vs.length C)) wb w1:=((Bf.refl _ _).alloc _).trans HP.upd;have hb1:=hup.block b (lt_of_block H.out.head) H.out.self;have hc1':w1.cell? ⟨b,1,none⟩=some (.slice A vs.length C):=(World.cell?_of_block hb1).trans hc1;have b0N:w1.frozen? ⟨b,1,none⟩=false:=(World.frozen?_of_block hb1).trans (H.out.cell.2.2.2.2 1);have HG:=AQ hup;clear hup hb1;go_wp2
    go_meet
    case rel=>
     have hs:=H.out.snoc HP.own HG.out (by rcases HP.at with h' | h';exact .inl h';exact .inr ⟨_,h',by simp⟩);have e1:=hlen.out;refine ⟨bs++[[]],II.start hs ?_ ?_ (by simp;omega),?_,?_,by simp⟩
     ·exact (HG.out.mono (G:=foot b (.slice A vs.length C) vs) fun k hk=>.inl (BI.2 (.inr (.inl hk)))).setCell (p:=⟨b,1,none⟩) (.inl (BI.2 (.inl rfl))) _
     ·intro k hk;rw [BI] at hk;rcases hk with rfl | hk | ⟨j,v,hv,hk⟩
      ·exact .inl (BI.2 (.inl rfl))
      ·rcases HP.at with h' | h'
       ·rw [h'] at hk;exact .inl (BI.2 (.inr (.inl hk)))
       ·rw [h'] at hk;simp at hk;right;omega
      ·rw [List.getElem?_append] at hv;split at hv
       ·exact .inl (BI.2 (.inr (.inr ⟨j,v,hv,hk⟩)))
       ·have:v=.slice none 0 0:=by
         have:=List.mem_of_getElem? hv;simpa using this
        subst this;simp [blk] at hk
     ·rw [List.take_append_of_le_length (by omega)]
     ·rw [List.drop_eq_nil_of_le (by simp;omega),List.drop_eq_nil_of_le (by omega)]
  case rest=>
   obtain ⟨bs',HS,htk,hdp,hbl⟩:=hcut;have b0O:bs'.length<1000001:=Ac hlen;clear hbl;have HT:=AQ htk;clear htk;have HD:=AQ hdp;clear hdp;have HA:=AQ HS;clear HS;clear hc0 hc1 hc2 hc3;go_upto_block 2 with fail
   go_cut [7] (fun s7 wc=>∃Al Cl,s7=.slice Al ((bs.take (Bl bs)).reverse.flatten).length Cl∧II KI wb wc (foot b (.slice A vs.length C) vs) b bs' n work (Bl bs) 0 (.slice Al ((bs.take (Bl bs)).reverse.flatten).length Cl))
   case first=>
    go_wp2_with fail
    go_loopg [7,8] (Bl bs) (fun m all k wr=>∃Al Cl,all=.slice Al (((bs.take (Bl bs)).drop m).reverse.flatten).length Cl∧k=.int .i64 ((m:Int) - 1)∧
     II KI wb wr (foot b (.slice A vs.length C) vs) b bs' n work (Bl bs) m (.slice Al (((bs.take (Bl bs)).drop m).reverse.flatten).length Cl))
    case atStart=>
     refine ⟨none,0,?_,rfl,?_⟩
     ·rw [List.drop_eq_nil_of_le (by simp;omega)];rfl
     ·rw [List.drop_eq_nil_of_le (by simp;omega)];exact HA.out
    case round=>
     obtain ⟨Al,Cl,rfl,rfl,vb,vs',hc,hrow,hal,hup,hF,Xo,hib,hsz⟩:=hrel;have hlen':=hc.len;by_cases hm:gk=0
     ·subst hm;go_wp2
      go_meet
      case rel=>exact ⟨Al,Cl,by simp,vb,vs',hc,hrow,hal,hup,hF,Xo,hib,hsz⟩
     ·obtain ⟨m,rfl⟩:∃m,gk=m+1:=⟨gk - 1,by omega⟩;obtain ⟨A1,C1,rfl⟩:=Bv hc.list;obtain ⟨g,Am,Cm,l,hA,hbk,hvk,hcell,hfro,hgb,JL⟩:=hc.at (k:=m) (by rw [hlen'];simp;omega);subst hA
      have hbk':bs'[m]? = some l:=by
       rw [List.append_assoc,List.getElem?_append_left (by simp;omega),List.getElem?_take,if_pos (by omega)] at hbk;exact hbk
      have hstep:=Uu bs' (Bl bs) m l (by omega) hbk';rw [HT.out] at hstep;have hbd:=SH bs (Bl bs) m;rw [hstep,AY] at hbd;have hcc:=hc.cell.2.1;have hmn:m<vs'.length:=by rw [hlen'];simp;omega
      have hbn:vs'.length<1000001:=by rw [hlen'];simp;omega
      have e8:(((m+1:Nat):Int) - 1)=(m:Int):=by omega
      rw [e8];rw [HT.out] at hrow;obtain ⟨L,hL⟩:∃L,L=((bs.take (Bl bs)).drop (m+1)).reverse.flatten:=⟨_,rfl⟩;rw [←hL] at hrow hal hstep hbd ⊢;have Xb:=AQ hL;clear hL;have HL:=AQ hlen';clear hlen';have HX:=AQ hstep;clear hstep;have HB:=AQ hbd;clear hbd;have HK:=AQ hbk';clear hbk' hbk hvk;have HC:=AQ hc;clear hc;have TF:=AQ hal;clear hal;have HF:=AQ hF;clear hF;have HR:=AQ hrow;clear hrow;have HRM:=AQ JL;clear JL;clear e8;go_wp2_with (at_builtin;refine BL _ rfl _ _ 187 rfl 0 172 i1 (.agg #[.int .u32 0,.int .i64 0]) 2 16 Tryz.underlying187 hi1 hy0 hy1 hy2 rfl (by decide) _ _ _ rfl HR.out _ l.length (KI.all l) rfl (CW HRM.out) (KI.DZ l) (by have:=HB.out;have:=Si.out;unfold maxLen;omega) (Ad HB Si) (Nat.zero_le _) ?_)
      intro A2 C2 w1 HP;have hc1:=HC.out.upd HP.upd fun k hk hc=>(TF.out k hc).2 hk
      have b0P:=hc1.cell.2.1;obtain ⟨g',_,_,l',hA',_,_,hcell1,a6y,_,_⟩:=hc1.at hmn
      cases hA'
      have HC1:=AQ hc1;clear hc1;go_wp2
      go_roundg m
      case measure=>omega
      case rel=>
       have hst:=II.step HC.out TF.out hup HF.out Xo hib hsz HK.out (all':=.slice A2 (L.length+l.length) C2) (by
        rw [HT.out,←Xb.out];unfold Kind.row;rw [Kind.Ci,AY];exact HP.own) HP.2.1 HP.at
       refine ⟨A2,C2,?_,rfl,?_⟩
       ·rw [HX.out,AY]
       ·rw [HX.out,AY];exact hst
   case rest=>
    obtain ⟨Al,Cl,rfl,vb,vs',hc,hrow,hal,hup,hF,_,hib,hsz⟩:=hcut;have hlen':=hc.len;obtain ⟨A1,C1,rfl⟩:=Bv hc.list;obtain ⟨g,Am,Cm,l,hA,hbk,hvk,hcell,hfro,hgb,JL⟩:=hc.at (k:=Bl bs) (by rw [hlen'];simp;omega);subst hA;have hcc:=hc.cell.2.1;have hmn:Bl bs<vs'.length:=by rw [hlen'];simp;omega
    have hbn:vs'.length<1000001:=by rw [hlen'];simp;omega
    rw [List.drop_zero,HT.out] at hrow;have hbd:=SH bs (Bl bs) 0;rw [List.drop_zero] at hbd;obtain ⟨L,hL⟩:∃L,L=(bs.take (Bl bs)).reverse.flatten:=⟨_,rfl⟩;rw [←hL] at hrow hal hbd ⊢;have Xb:=AQ hL;clear hL;have HL:=AQ hlen';clear hlen' hbk hvk;have HB:=AQ hbd;clear hbd;have HC:=AQ hc;clear hc;have TF:=AQ hal;clear hal;have Rk:=AQ hup;have HF:=AQ hF;clear hF;have HR:=AQ hrow;clear hrow;have HRM:=AQ JL;clear JL;have b0Q:(0:Int)≤(Bl bs:Int):=AU _;have b0R:(Bl bs:Int)<(vs'.length:Int):=by omega
    have hgl:g∉blk (.slice Al L.length Cl):=fun hk=>(TF.out g hk).2 (BI.2 (.inr (.inl (by simp [blk]))))
    have wu:b∉blk (.slice Al L.length Cl):=fun hk=>(TF.out b hk).2 (BI.2 (.inl rfl))
    have hgs:g<wc.heap.size:=World.block_lt_of_cell? wc _ hcell;have hbs':b<wc.heap.size:=World.block_lt_of_cell? wc _ hcc;have hfa:∀o,(wc.alloc o).frozen? ⟨g,Bl bs,none⟩=false:=fun o=>by rw [World.frozen?_alloc_past _ _ _ hgs];exact hfro
    have hca:∀o,(wc.alloc o).cell? ⟨g,Bl bs,none⟩=some (.slice Am l.length Cm):=fun o=>by rw [World.cell?_alloc_past _ _ _ hgs];exact hcell
    have hda:∀o,(wc.alloc o).cell? ⟨b,1,none⟩=some (.slice (some ⟨g,0,none⟩) vs'.length C1):=fun o=>by rw [World.cell?_alloc_past _ _ _ hbs'];exact hcc
    obtain ⟨p,hp⟩:=AO w.heap.size;rw [hp] at hx0 hx1 qL hpb ⊢;have hx0':=(Rk.out.cell (p:=⟨p,0,none⟩) hpb qL).trans hx0;have wC:=(Rk.out.cell (p:=⟨p,1,none⟩) hpb qL).trans hx1;have hpl:p∉blk (.slice Al L.length Cl):=fun hk=>by have:=(TF.out p hk).1;omega
    have hps:p<wc.heap.size:=World.block_lt_of_cell? wc _ hx0';have he0:∀o,(wc.alloc o).cell? ⟨p,0,none⟩=some (.int .u32 (x.1:Int)):=fun o=>by rw [World.cell?_alloc_past _ _ _ hps];exact hx0'
    have he1:∀o,(wc.alloc o).cell? ⟨p,1,none⟩=some (.int .i64 x.2):=fun o=>by rw [World.cell?_alloc_past _ _ _ hps];exact wC
    have hpg:p≠g:=by
     intro e;rcases HF.out g (BI.2 (.inr (.inl (by simp [blk])))) with h | h
     ·exact qL (by rw [e];exact h)
     ·omega
    have Yn:g≠p:=Ne.symm hpg;have wE:=AQ hp;clear hp hx0 hx1;go_upto_region 14 with fail
    go_region_held3 (fun w'=>w'.cell? ⟨b,1,none⟩=some (.slice (some ⟨g,0,none⟩) vs'.length C1)∧w'.cell? ⟨p,0,none⟩=some (.int .u32 (x.1:Int))∧w'.cell? ⟨p,1,none⟩=some (.int .i64 x.2))
     (first
      |go_keep
      |(exact ⟨hcc,hx0',wC⟩) | (have hu:=HP2.upd;exact ⟨(hu.cell (p:=⟨b,1,none⟩) (by simp;omega) wu).trans (hda _),(hu.cell (p:=⟨p,0,none⟩) (by simp;omega) hpl).trans (he0 _),(hu.cell (p:=⟨p,1,none⟩) (by simp;omega) hpl).trans (he1 _)⟩))
     ((refine FH _ (by rfl) _ _ 187 (by rfl) 0 172 i1 (.agg #[.int .u32 0,.int .i64 0]) 2 16 Tryz.underlying187 hi1 hy0 hy1 hy2 rfl (by decide) _ _ _ (by rfl) (ER (HR.out.alloc _)) _ 1 [.int .u32 (x.1:Int),.int .i64 x.2] (by rfl) (BM wc #[.int .u32 (x.1:Int),.int .i64 x.2] 172 2 1 rfl (by decide)).drew (by simp [Value.oneCell']) (by have:=HB.out;have:=Si.out;unfold maxLen;omega) (Ad HB Si) (Nat.zero_le _) ?_;intro A3 C3 w2 HP2;have hst1:=((HP2.upd).cell (p:=⟨g,Bl bs,none⟩) (by simp;omega) hgl).trans (hca _);have hst2:=((HP2.upd).frozen (p:=⟨g,Bl bs,none⟩) (by simp;omega) hgl).trans (hfa _)))
    have hG:∀k∈blk (.slice A3 (L.length+1) C3),wb.heap.size≤k∧k∉foot b (.slice (some ⟨g,0,none⟩) vs'.length C1) vs':=by
     intro k hk;rcases HP2.at with h' | h'
     ·rw [h'] at hk;exact TF.out k hk
     ·rw [h'] at hk;simp at hk;subst hk;exact ⟨by omega,fun hc=>by have:=HC.out.lt _ hc;omega⟩
    obtain ⟨hc3,hu3,hF3,hgx⟩:=II.fill (w0:=wb) (w2:=w2) (x:=x) (v:=.slice A3 (L.length+1) C3) rfl HC.out hib HD.out Xb.out (((Bf.refl _ _).alloc _).drew.trans HP2.upd) TF.out hup HF.out (by
     unfold Kind.row;rw [Kind.Ci,AY];exact HP2.own) hG
    clear hst1 hst2 hfa hca hda hcell hfro hcc;generalize w2.setCell ⟨g,Bl bs,none⟩ (.slice A3 (L.length+1) C3)=w3 at *;obtain ⟨_,hd1,hd2,hd3,hfr⟩:=hc3.cell;obtain ⟨g',A4,C4,l4,hA',hb4,_,jB,_,_,hrow4⟩:=hc3.at (k:=Bl bs) (by rw [List.length_set];omega)
    cases hA'
    rw [VT] at hb4
    cases hb4
    have a6D:(EF bs x).length<1000001:=by rw [hgx,AY];have:=HB.out;have:=Si.out;simp;omega
    have Xp:=AQ hc3;have HR4:=AQ hrow4;have HGX:=AQ hgx;have Gj:=AQ hu3;have HF3:=AQ hF3;clear hc3 hrow4 hgx hu3 hF3 hG;have a4j:=hfr 2;have a4k:=hfr 3;clear hfr hgl wu;go_upto_region 16 with fail
    go_region
    have e1:((n:Int)+1)=((n+1:Nat):Int):=by omega
    have e2:((work:Int)+((EF bs x).length:Int))=((work+(EF bs x).length:Nat):Int):=by omega
    rw [e1,e2];have hc5:=((Xp.out.count (n+1)).worked (work+(EF bs x).length)).drew;have GR:=((Gj.out.setCell (p:=⟨b,2,none⟩) (.inl (BI.2 (.inl rfl))) (.int .i64 ((n+1:Nat):Int))).setCell (p:=⟨b,3,none⟩) (.inl (BI.2 (.inl rfl))) (.int .i64 ((work+(EF bs x).length:Nat):Int))).drew;generalize (((w3.setCell ⟨b,2,none⟩ (.int .i64 ((n+1:Nat):Int))).setCell ⟨b,3,none⟩ (.int .i64 ((work+(EF bs x).length:Nat):Int))).drew)=w5 at *;clear e1 e2 hd1 hd2 hd3 a4j a4k jB;obtain ⟨_,hd1,_,_,_⟩:=hc5.cell;obtain ⟨g',A5,C5,l5,hA',hb5,_,a4l,_,_,Jc⟩:=hc5.at (k:=Bl bs) (by rw [List.length_set];omega)
    cases hA'
    rw [VT] at hb5
    cases hb5
    have Xq:=AQ hc5;have LJ:=AQ GR;have HR5:=AQ Jc;clear hc5 GR Jc;go_wp2_with (go_at_call 195;refine (Eh _ _ _ _ (CW HR5.out) (KI.DZ _) (by omega)).mono ?_;rintro e w' ⟨A6,C6,rfl,hown6,hbel⟩)
    go_ret2
    have ZG:=Bf.of_below hbel;refine ⟨A6,C6,rfl,_,⟨_,_,Xq.out.upd ZG (by simp),rfl⟩,(aX.out.mono (by simp)).trans' (LJ.out.trans' ZG (by simp)) (fun x hx=>.inl hx),fun k hk=>(HF3.out k hk).imp id (Bd aX.out.size),?_,?_⟩
    ·exact own_base hown6 (Bd aX.out.size LJ.out.size)
    ·intro k hk hc;have h1:=Xq.out.lt k hc;have h2:=BD hown6 k hk;omega
theorem a4m (b:Nat) (F:List Nat) (s:Value) (l:List (Nat×Nat)) (bs:List (List (Nat×Nat))) (n work:Nat) (w:World) (h':Dz KI w b F bs n work) (hs:Ed w 2 s l.length (KI.all l)) (hsF:0<l.length→∀k∈blk s,k∉F)
 (hl:l.length<1000000) (hwk:work<1099511627776) :
 Calls Tryz.prog 200 #[.pointer (some ⟨b,0,none⟩),s] w fun e w'=>e=.returned (.int .i64 l.length)∧CU KI w w' b F (setB l) l.length (work+l.length):=by
 obtain ⟨vb,vs,h,rfl⟩:=h';obtain ⟨A,C,rfl⟩:=Kv hs;obtain ⟨hc0,hc1,hc2,hc3,hfr⟩:=h.cell;have hf1:=hfr 1;have hf2:=hfr 2;obtain ⟨i0,hi0,hz0,hz1,hz2⟩:=info_parts JK;have H:=AQ h;have HS:=AQ hs;have HSF:=AQ hsF;clear h hs hsF hfr;go_enter Tryz.func200,Tryz.ntmps200
 go_upto_block 0 with (go_at_call 194;refine (PL _ _ hc0).mono ?_;rintro e w' ⟨rfl,rfl⟩)
 have hr:=(H.out.reset).count l.length;have hu:=((Bf.refl (foot b vb vs) w).setCell (p:=⟨b,1,none⟩) (.inl (BI.2 (.inl rfl))) (.slice none 0 0)).setCell (p:=⟨b,2,none⟩) (.inl (BI.2 (.inl rfl))) (.int .i64 l.length)
 have hst:CU KI w ((w.setCell ⟨b,1,none⟩ (.slice none 0 0)).setCell ⟨b,2,none⟩ (.int .i64 l.length)) b (foot b vb vs) [] l.length work:=
  .mk hr hu fun k hk=>by
   rw [BI] at hk;rcases hk with hk | hk | ⟨j,u,hu',hk⟩
   ·exact .inl (BI.2 (.inl hk))
   ·simp [blk] at hk
   ·simp at hu'
 have HST:=AQ hst;clear hst hr hu hc0 hc1 hc2 hc3 hf1 hf2;generalize ((w.setCell ⟨b,1,none⟩ (.slice none 0 0)).setCell ⟨b,2,none⟩ (.int .i64 l.length))=wa at *;go_cut [] (fun wc=>CU KI w wc b (foot b vb vs) (List.replicate (BA l.length) []) l.length work)
 case first=>
  go_wp2_with fail
  go_loopg [5] (l.length) (fun m i wr=>i=.int .i64 m∧∃k,m=l.length / 2 ^ k∧(k=0∨2 ^ (k - 1)≤l.length)∧CU KI w wr b (foot b vb vs) (List.replicate k []) l.length work)
  case atStart=>exact ⟨rfl,0,by simp,.inl rfl,by simpa using HST.out⟩
  case round=>
   obtain ⟨rfl,k,hk,hk1,hcs⟩:=hrel;have HK:=AQ hk;clear hk;have tu:=AQ hk1;clear hk1;obtain ⟨mX,vs',hc,hu,hF⟩:=hcs.out;obtain ⟨A1,C1,rfl⟩:=Bv hc.list;obtain ⟨_,hd1,_,_,hfr⟩:=hc.cell;have hf1:=hfr 1;have HC:=AQ hc;have HU:=AQ hu;have HF:=AQ hF;have qM:=AQ hcs;have hgk:gk≤l.length:=by rw [HK.out];exact Nat.div_le_self _ _
   have hlen:vs'.length≤1000000:=by
    rw [hc.len];simp;rcases tu.out with h | h
    ·omega
    ·have h2:k - 1<2 ^ (k - 1):=Nat.lt_two_pow_self;omega
   clear hc hu hF hcs hfr;by_cases hm:gk=0
   ·subst hm;go_wp2
    go_meet
    case rel=>
     have e:BA l.length=k:=bF l.length k (by
      have:=HK.out;rcases Nat.div_eq_zero_iff.1 this.symm with h | h
      ·have:=Nat.two_pow_pos k;omega
      ·exact h) tu.out
     rw [e];exact qM.out
   ·have b0S:(0:Int)<(gk:Int):=by omega
    go_wp2_with (at_builtin;refine BL _ rfl _ _ 173 rfl 0 187 i0 (.slice none 0 0) 1 24 Tryz.underlying173 hi0 hz0 hz1 hz2 rfl (by decide) _ _ vs' rfl (HC.out.list.alloc _) _ 1 [.slice none 0 0] rfl (BM wr #[.slice none 0 0] 187 1 1 rfl (by decide)) (by simp [Value.oneCell']) (by unfold maxLen;omega) (by omega) (Nat.zero_le _) ?_)
    intro A2 C2 w1 HP;have hc1:w1.cell? ⟨b,1,none⟩=some (.slice A1 vs'.length C1):=(World.cell?_of_block (((((Bf.refl _ _).alloc _).trans HP.upd:Bf (blk (.slice A1 vs'.length C1)) wr w1)).block b (lt_of_block HC.out.head) HC.out.self)).trans hd1;have hf2:w1.frozen? ⟨b,1,none⟩=false:=(World.frozen?_of_block (((((Bf.refl _ _).alloc _).trans HP.upd:Bf (blk (.slice A1 vs'.length C1)) wr w1)).block b (lt_of_block HC.out.head) HC.out.self)).trans hf1;go_wp2
    have h2:(gk:Int) / 2=((gk / 2:Nat):Int):=by omega
    rw [h2];go_roundg (gk / 2)
    case measure=>omega
    case rel=>
     refine ⟨rfl,k+1,?_,.inr ?_,?_⟩
     ·rw [HK.out,Nat.pow_succ,Nat.div_div_eq_div_mul]
     ·have h3:=HK.out;have h4:1≤l.length / 2 ^ k:=by omega
      have h5:=(Nat.le_div_iff_mul_le (Nat.two_pow_pos k)).1 h4;simpa using h5
     ·have:=CU.snoc HC.out HU.out HF.out HP;rw [List.replicate_succ',];exact this
 case rest=>
  obtain ⟨vb1,vs1,hc1,hu1,hF1⟩:=hcut.out;obtain ⟨A1,C1,rfl⟩:=Bv hc1.list;have hd1:=hc1.cell.2.1;have hB:BA l.length≤20:=CQ _ _ (by omega);have hv1:vs1.length=BA l.length:=by rw [hc1.len];simp
  have hv2:=hv1;rw [hv1] at hd1;have wF:=AQ hcut;have HV:=AQ hv1;obtain ⟨i1,hi1,hy0,hy1,hy2⟩:=info_parts D9;have dO:∀w',Bf (foot b vb vs) w w'→Ed w' 2 (.slice A l.length C) l.length (KI.all l):=fun w' hu'=>Dq HS.out hu' fun h0 k hk _=>HSF.out h0 k hk
  have wH:=AQ dO;clear hc1 hu1 hF1 hv1 hv2 hcut dO;go_upto_block 2 with fail
  go_cut [] (fun wz=>CU KI w wz b (foot b vb vs) (setB l) l.length work)
  case first=>
   go_wp2_with fail
   go_loopg [6,7] (BA l.length) (fun m r i wr=>i=.int .i64 ((m:Int) - 1)∧m≤BA l.length∧∃Ar Cr,r=.slice Ar (l.length % 2 ^ m) Cr∧
    (∀w',Bf (foot b vb vs) w w'→Ed w' 2 (.slice Ar (l.length % 2 ^ m) Cr) (l.length % 2 ^ m) ((KI.all l).drop (l.length / 2 ^ m*2 ^ m*2)))∧CU KI w wr b (foot b vb vs) (setFrom l m) l.length work)
   case atStart=>
    have h1:=Nat.mod_eq_of_lt (D7 l.length);have h2:=Nat.div_eq_of_lt (D7 l.length);refine ⟨?_,Nat.le_refl _,A,C,by rw [h1],?_,?_⟩
    ·rfl
    ·rw [h1,h2];intro w' hu';simpa using wH.out w' hu'
    ·rw [Vk];exact wF.out
   case round=>
    obtain ⟨rfl,hgb,Ar,Cr,rfl,FD,hcs⟩:=hrel;obtain ⟨mX,vs',hc,hu,hF⟩:=hcs.out;obtain ⟨A2,C2,rfl⟩:=Bv hc.list;have hdd:=hc.cell.2.1;have hvl:vs'.length=BA l.length:=by rw [hc.len];simp [setFrom]
    rw [hvl] at hdd;by_cases hm:gk=0
    ·subst hm;rw [SL] at hcs;have qM:=AQ hcs;clear FD hc hu hF hcs hvl;go_wp2
     go_meet
     case rel=>exact qM.out
    ·obtain ⟨m,rfl⟩:∃m,gk=m+1:=⟨gk - 1,by omega⟩;obtain ⟨g,Am,Cm,lm,hA,hbk,hvk,hcell,hfro,hgb',JL⟩:=hc.at (k:=m) (by omega);subst hA;have hpb:2 ^ m<2 ^ 62:=Nat.pow_lt_pow_right (by omega) (by omega);have hml:m<BA l.length:=by omega
     obtain ⟨p,hp⟩:=AO (2 ^ m);have hp0:0<p:=by rw [←hp];exact Nat.two_pow_pos m
     have b0T:Value.int .i64 (wrap64 ((2:Int) ^ m))=Value.int .i64 (p:Int):=by rw [YK m p (by omega) hp]
     have hand:=YL l.length (2 ^ m) _ (by omega) hpb (Vl _ _);rw [hp] at hand;have e8:(((m+1:Nat):Int) - 1)=(m:Int):=by omega
     rw [e8];clear e8;have hm0:(0:Int)≤(m:Int):=AU _;have hm1:(m:Int)<(BA l.length:Int):=by omega
     obtain ⟨n1,hn1⟩:=AO (l.length % 2 ^ (m+1));rw [hn1] at FD ⊢;have a6E:n1≤l.length:=by rw [←hn1];exact Nat.mod_le _ _
     by_cases hb:l.length.testBit m=true
     ·rw [if_pos hb] at hand;have hne:((p:Int)==0)=false:=by simp;omega
      have hne':((p:Int) != 0)=true:=by simp;omega
      have hpn:p≤n1:=by
       have:=Nh l.length m hb;omega
      have hsw:=FD wr hu;obtain ⟨A3,C3,hrun3,Xr,hblk3⟩:=iH (P:=Tryz.prog) Tryz.underlying187 hi1 hy1 hsw p hpn;obtain ⟨A4,C4,hrun4,Vx,wI⟩:=Nj (P:=Tryz.prog) Tryz.underlying187 hi1 hy1 hsw p hpn;have wJ:=Xr wr hsw;have HSW:=AQ hsw;have wK:=AQ Xr;have aW:=AQ Vx;have jC:=AQ FD;have a4n:=AQ wJ;have HC:=AQ hc;have HU:=AQ hu;have HF:=AQ hF;have HVL:=AQ hvl;have HP:=AQ hp;have VO:=AQ hn1;clear hsw Xr Vx hblk3 wI FD wJ hc hu hF hvl hbk hvk JL hp hn1 hcs hpb;have hgw:g<wr.heap.size:=World.block_lt_of_cell? wr _ hcell;have hbw:b<wr.heap.size:=World.block_lt_of_cell? wr _ hdd;go_upto_region 14 with fail
      have a4o:p*16≤140737488355328:=by omega
      go_region_held3 (fun w'=>w'.cell? ⟨b,1,none⟩=some (.slice (some ⟨g,0,none⟩) (BA l.length) C2))
       (first
        |go_keep
        |(exact (hbel.cell (p:=⟨b,1,none⟩) (by simp;omega)).trans hdd))
       ((go_at_call 195;refine (Eh _ p _ _ (Ed.drew a4n.out) (fun u hu=>KI.DZ l u (List.mem_of_mem_drop (List.mem_of_mem_take hu))) a4o).mono ?_;rintro e w1 ⟨A5,C5,rfl,hown5,hbel⟩;have hst1:=(hbel.cell (p:=⟨g,m,none⟩) (by simp;omega)).trans hcell;have hst2:=(hbel.frozen (p:=⟨g,m,none⟩) (by simp;omega)).trans hfro))
      go_wp2
      go_roundg m
      case measure=>omega
      case rel=>
       have hpos:l.length % 2 ^ m=n1 - p:=by
        have:=Nh l.length m hb;rw [VO.out,HP.out] at this;rw [HP.out];omega
       have htop:=SQ l.length m hb
       have hrow:KI.row w1 0 (.slice A5 p C5) (Bo l m):=by
        have hbu:Bo l m=(l.drop (l.length / 2 ^ (m+1)*2 ^ (m+1))).take p:=by unfold Bo;rw [if_pos hb,HP.out]
        have hlen:(Bo l m).length=p:=by
         rw [hbu,Ba,List.length_drop,Jt,VO.out];exact Nat.min_eq_left hpn
        unfold Kind.row;rw [hlen,hbu,Kind.KF,Kind.Nc];show w1.ownsRow 0 172 2 _ _ (List.take (p*2) (List.drop (_*2) _))
        exact own_base hown5 (Nat.zero_le _)
       have hst:=CU.put (w:=w) HC.out rfl HU.out HF.out (((Bf.refl [] wr).drew).trans (Bf.of_below hbel)) m hrow (BD hown5);rw [Og] at hst;refine ⟨rfl,by omega,A4,C4,by rw [hpos],?_,?_⟩
       ·rw [hpos];intro w' hu';have:=aW.out w' (jC.out w' hu');have e:l.length / 2 ^ (m+1)*2 ^ (m+1)+p=l.length / 2 ^ m*2 ^ m:=by rw [htop,HP.out]
        rw [List.drop_drop,←Nat.add_mul,e] at this;exact this
       ·exact hst
     ·have hb':l.length.testBit m=false:=by simpa using hb
      rw [if_neg hb] at hand;have jC:=AQ FD;have qM:=AQ hcs;have HP:=AQ hp;have VO:=AQ hn1;clear FD hc hu hF hvl hbk hvk JL hp hn1 hcs hpb;go_wp2
      go_roundg m
      case measure=>omega
      case rel=>
       have hpos:l.length % 2 ^ m=n1:=by rw [←Zl l.length m hb',VO.out]
       have htop:=Ux l.length m hb';refine ⟨rfl,by omega,Ar,Cr,by rw [hpos],?_,?_⟩
       ·rw [hpos,htop];exact jC.out
       ·rw [←SN l m hb'];exact qM.out
  case rest=>
   have hst:=hcut;obtain ⟨vb2,vs2,hc2,hu2,hF2⟩:=hcut.out;obtain ⟨_,_,_,hd3,hfr⟩:=hc2.cell;have hf3:=hfr 3;have HC:=AQ hc2;have HU:=AQ hu2;have HF:=AQ hF2;clear hc2 hu2 hF2 hfr hst hcut;go_wp2
   go_ret
   have e2:((work:Int)+(l.length:Int))=((work+l.length:Nat):Int):=by omega
   rw [e2];refine ⟨rfl,.mk (HC.out.worked _) (HU.out.setCell (p:=⟨b,3,none⟩) (HF.out b (BI.2 (.inl rfl))) _) HF.out⟩
theorem a4p (w:World) :
 Calls Tryz.prog 111 #[] w fun e w'=>∃b,e=.returned (.pointer (some ⟨b,0,none⟩))∧Dz KI w' b [b] [] 0 0∧w.heap.size≤b∧Bf [] w w':=by
 go_enter Tryz.func111,Tryz.ntmps111
 go_wp2
 go_ret
 refine ⟨w.heap.size,rfl,⟨.slice none 0 0,[],⟨heap_alloc_new w _,World.ownsRow_nil _ _ _ _,rfl,by simp,by simp [blk],by simp,by simp⟩,rfl⟩,Nat.le_refl _,(Bf.refl _ _).alloc _⟩
theorem a4q (b:Nat) (F:List Nat) (bs:List (List (Nat×Nat))) (n work:Nat) (w:World) (h:Dz KI w b F bs n work) :
 Calls Tryz.prog 130 #[.pointer (some ⟨b,0,none⟩)] w fun e w'=>e=.returned (.int .i64 n)∧w=w':=by
 obtain ⟨vb,vs,h,rfl⟩:=h;obtain ⟨hc0,hc1,hc2,hc3,_⟩:=h.cell;clear h;go_enter Tryz.func130,Tryz.ntmps130
 go_wp2_with (go_at_call 194;refine (PL _ _ hc0).mono ?_;rintro e w' ⟨rfl,rfl⟩)
 go_ret
 exact ⟨rfl,rfl⟩
theorem ZH (b:Nat) (F:List Nat) (bs:List (List (Nat×Nat))) (n work:Nat) (w:World) (h:Dz KI w b F bs n work) :
 Calls Tryz.prog 198 #[.pointer (some ⟨b,0,none⟩)] w fun e w'=>e=.returned (.int .i64 bs.length)∧w=w':=by
 obtain ⟨vb,vs,h,rfl⟩:=h;obtain ⟨A,C,rfl⟩:=Bv h.list;obtain ⟨hc0,hc1,hc2,hc3,_⟩:=h.cell;have hl:=h.len;rw [hl] at hc1;clear h;have HL:=AQ hl;clear hl;go_enter Tryz.func198,Tryz.ntmps198
 go_wp2_with (go_at_call 194;refine (PL _ _ hc0).mono ?_;rintro e w' ⟨rfl,rfl⟩)
 go_ret
 exact ⟨rfl,rfl⟩
theorem Sj (b:Nat) (F:List Nat) (i:Nat) (l:List (Nat×Nat)) (bs:List (List (Nat×Nat))) (n work:Nat) (w:World) (h:Dz KI w b F bs n work) (hi:bs[i]? = some l) (hb:l.length<1000000) :
 Calls Tryz.prog 199 #[.pointer (some ⟨b,0,none⟩),.int .i64 i] w fun e w'=>∃A C,e=.returned (.slice A l.length C)∧KI.row w' w.heap.size (.slice A l.length C) l∧Bf [] w w':=by
 obtain ⟨vb,vs,h,rfl⟩:=h;obtain ⟨A,C,rfl⟩:=Bv h.list;obtain ⟨hc0,hc1,hc2,hc3,_⟩:=h.cell;have hl:=h.len
 have hlt:i<bs.length:=by
  rcases Nat.lt_or_ge i bs.length with h' | h'
  ·exact h'
  ·rw [List.getElem?_eq_none h'] at hi;cases hi
 obtain ⟨g,Ak,Ck,l',hA,hbk,_,hcell,_,_,hrow⟩:=h.at (k:=i) (by omega);subst hA;rw [hi] at hbk
 cases hbk
 rw [hl] at hc1;clear h;have HL:=AQ hl;have HI:=AQ hi;have HR:=AQ hrow;clear hl hi hrow;have h0:(0:Int)≤(i:Int):=AU _;have h1:(i:Int)<(bs.length:Int):=by omega
 go_enter Tryz.func199,Tryz.ntmps199
 go_wp2_with (first | (go_at_call 194;refine (PL _ _ hc0).mono ?_;rintro e w' ⟨rfl,rfl⟩) | (go_at_call 195;refine (Eh _ _ _ _ (CW HR.out) (KI.DZ _) (by omega)).mono ?_;rintro e w' ⟨A6,C6,rfl,hown6,hbel⟩))
 go_ret
 exact ⟨A6,C6,rfl,hown6,Bf.of_below hbel⟩
end Go.Proofs.YtkbaaonchdeneaaGreat.Rq
namespace Go.Proofs.YtkbaaonchdeneaaGreat
open Go.RowKit
def below (L:List Int) (x:Int):Nat:=(L.filter fun y=>decide (y<x)).length
theorem below_le (L:List Int) (x:Int):below L x≤L.length:=List.length_filter_le _ _
theorem Nv {L:List Int} (hs:L.Pairwise (·≤·)) (x:Int):∀(k:Nat) (y:Int),L[k]? = some y→(y<x↔k<below L x):=by
 induction L with
 |nil=>intro k y h;simp at h
 |cons a L ih=>
  rw [List.pairwise_cons] at hs;intro k y h;by_cases ha:a<x
  ·have e:below (a::L) x=below L x+1:=by unfold below;rw [List.filter_cons,if_pos (by simpa using ha)];rfl
   rw [e];rcases k with _ | k
   ·simp at h;subst h;simp [ha]
   ·rw [ih hs.2 k y (by simpa using h)];omega
  ·have e:below (a::L) x=0:=by
    unfold below;rw [List.length_eq_zero_iff,List.filter_eq_nil_iff];intro z hz;rcases List.mem_cons.1 hz with rfl | hz
    ·simpa using ha
    ·have:=hs.1 z hz;simp;omega
   rw [e]
   have:a≤y:=by
    rcases k with _ | k
    ·simp at h;omega
    ·exact hs.1 y (List.mem_of_getElem? (by simpa using h))
   omega
theorem xE (bl bx:Nat) (v:Value) (L:List Int) (x y:Int) (k:Nat) (w:World) (hc1:w.cell? ⟨bl,0,none⟩=some v) (hc2:w.cell? ⟨bx,0,none⟩=some (.int .i64 x)) (h:See KL w v L) (hk:L[k]? = some y) :
 Calls Tryz.prog 257 #[.int .i64 (k:Int),.pointer (some ⟨bl,0,none⟩),.pointer (some ⟨bx,0,none⟩)] w fun e w'=>e=.returned (.bool (decide (x≤y)))∧∃n,w'=w.drewN n:=by
 obtain ⟨A,C,rfl⟩:=h.form;obtain ⟨b,o,rfl,h1,h2,h3⟩:=KL.at h hk;have hkl:=(AV hk).1;unfold maxLen at h2;have b0:(0:Int)≤(k:Int):=AU _;have b1:(k:Int)<(L.length:Int):=by omega
 clear h hk;go_enter Tryz.func257,Tryz.ntmps257
 go_wp2_with fail
 go_quiet (fail)
 go_wp2_with fail
 go_ret
 exact ⟨rfl,_,rfl⟩
theorem Y3 (d e:Nat) (hd:0<d) (he:e≤d / 2):BA e+1≤BA d:=by
 have h1:=D7 d;have hb:BA d≠0:=fun h=>by rw [h] at h1;omega
 obtain ⟨b,hbb⟩:∃b,BA d=b+1:=⟨BA d - 1,by omega⟩;rw [hbb] at h1 ⊢;have:BA e≤b:=CQ e b (by rw [Nat.pow_succ] at h1;omega);omega
theorem ZQ (bl bx:Nat) (v:Value) (L:List Int) (x:Int) (w:World) (hs:L.Pairwise (·≤·)) (hc1:w.cell? ⟨bl,0,none⟩=some v) (hc2:w.cell? ⟨bx,0,none⟩=some (.int .i64 x)) (h:See KL w v L) (hl:L.length<4611686018427387904) :
 Calls Tryz.prog 256 #[.int .i64 (L.length:Int),.func (.func 257) #[] #[.pointer (some ⟨bl,0,none⟩),.pointer (some ⟨bx,0,none⟩)]] w fun e w'=>
  (∃k:Nat,e=.returned (.tuple #[.int .i64 (below L x:Nat),.int .i64 (k:Int)])∧k≤BA L.length)∧∃n,w'=w.drewN n:=by
 obtain ⟨n,hn⟩:=AO L.length;obtain ⟨p,hp⟩:=AO (below L x);have hpn:=below_le L x;have hat:=Nv hs x;rw [hp] at hpn hat ⊢;rw [hn] at hl hpn ⊢;have b2m:BA n≤62:=CQ n 62 (by omega);have HC1:=AQ hc1;have HC2:=AQ hc2;have HH:=AQ h;have HN:=AQ hn;have HAT:=AQ hat;clear hc1 hc2 h hn hat hs hp;go_enter Tryz.func256,Tryz.ntmps256
 go_wp2_with fail
 go_loopg [6,7,8] n (fun m s6 s7 s8 wr=>∃(f t k q:Nat),m=t - f∧f≤p∧p≤t∧t≤n∧s6=.int .i64 (f:Int)∧s7=.int .i64 (t:Int)∧s8=.int .i64 (k:Int)∧k+BA (t - f)≤BA n∧wr=w.drewN q)
 case atStart=>exact ⟨0,n,0,0,rfl,Nat.zero_le _,hpn,Nat.le_refl _,rfl,rfl,rfl,by simp,rfl⟩
 case round=>
  obtain ⟨f,t,k,q,hm,hfp,hpt,htn,rfl,rfl,rfl,hk,rfl⟩:=hrel;by_cases hft:f<t
  ·obtain ⟨c,hc⟩:=AO (f+(t - f) / 2);have hcv:Value.int .i64 ((f:Int)+((t:Int) - (f:Int)) / 2)=Value.int .i64 (c:Int):=by congr 1;omega
   have hct:c<t:=by omega
   have hfc:f≤c:=by omega
   obtain ⟨y,hy⟩:∃y,L[c]? = some y:=⟨L[c]'(by rw [HN.out];omega),AX _⟩;have hiff:=HAT.out c y hy;have hd1:c - f≤(t - f) / 2:=by omega
   have hd2:t - (c+1)≤(t - f) / 2:=by omega
   have hk1:k+1+BA (c - f)≤BA n:=by have:=Y3 (t - f) _ (by omega) hd1;omega
   have hk2:k+1+BA (t - (c+1))≤BA n:=by have:=Y3 (t - f) _ (by omega) hd2;omega
   have hkb:k≤62:=by omega
   have HM:=AQ hm;have tu:=AQ hk1;have HK2:=AQ hk2;have HY:=AQ hy;have a7h:=AQ hiff;have HCC:=AQ hc;clear hm hk hk1 hk2 hy hiff hc hd1 hd2;go_wp2_with fail
   refine (xE bl bx v L x y c (w.drewN q) HC1.out HC2.out (HH.out.Bh ((Bf.refl [] w).drewN q)) HY.out).mono ?_
   rintro e w' ⟨rfl,q2,rfl⟩;obtain ⟨bb,hbb⟩:∃bb,decide (x≤y)=bb:=⟨_,rfl⟩;rw [hbb];have JG:=AQ hbb;clear hbb
   cases bb
   ·have hlt:c<p:=by
     have h1:=of_decide_eq_false JG.out;exact a7h.1 (by omega)
    go_wp2_with fail
    go_roundg (t - (c+1))
    case measure=>have:=HM.out;omega
    case rel=>exact ⟨c+1,t,k+1,q+q2,rfl,by omega,hpt,htn,by go_num,rfl,by go_num,HK2.out,rfl⟩
   ·have hge:p≤c:=by
     have h1:=of_decide_eq_true JG.out;refine Nat.le_of_not_lt fun h=>?_
     have:=a7h.2 h;omega
    go_wp2_with fail
    go_roundg (c - f)
    case measure=>have:=HM.out;have:=HCC.out;omega
    case rel=>exact ⟨f,c,k+1,q+q2,rfl,hfp,hge,by omega,rfl,rfl,by go_num,tu.out,rfl⟩
  ·have hfe:f=p:=by omega
   have V5:=AQ hfe;have HKK:=AQ (show k≤BA n by omega);clear hfe hk hm;go_wp2_with fail
   go_ret2
   exact ⟨⟨k,by rw [←V5.out];rfl,HKK.out⟩,q,rfl⟩
theorem a4B (v:Value) (L:List Int) (x:Int) (w:World) (hs:L.Pairwise (·≤·)) (h:See KL w v L) (hl:L.length<4611686018427387904) :
 Calls Tryz.prog 216 #[v,.int .i64 x] w fun e w'=>(∃k:Nat,e=.returned (.tuple #[.int .i64 (below L x:Nat),.int .i64 (k:Int)])∧k≤BA L.length)∧Bf [] w w':=by
 obtain ⟨A,C,rfl⟩:=h.form;have hu:Bf [] w ((w.alloc (.cells #[.slice A L.length C] 57)).alloc (.cells #[.int .i64 x] 2)):=((Bf.refl _ _).alloc _).alloc _
 have hc1:((w.alloc (.cells #[.slice A L.length C] 57)).alloc (.cells #[.int .i64 x] 2)).cell? ⟨w.heap.size,0,none⟩=some (.slice A L.length C):=by
  rw [World.cell?_alloc_past _ _ _ (by simp),World.cell?_alloc_at _ _ _ _ rfl];rfl
 have hc2:((w.alloc (.cells #[.slice A L.length C] 57)).alloc (.cells #[.int .i64 x] 2)).cell? ⟨w.heap.size+1,0,none⟩=some (.int .i64 x):=by
  rw [World.cell?_alloc_at _ _ _ _ (by simp)];rfl
 have hb:=ZQ w.heap.size (w.heap.size+1) _ L x _ hs hc1 hc2 (h.Bh hu) hl;have HB:=AQ hb;have HU:=AQ hu;clear hb hu h hc1 hc2 hs;go_enter Tryz.func216,Tryz.ntmps216
 go_wp2_with fail
 refine HB.out.mono ?_
 rintro e w' ⟨⟨k,rfl,hk⟩,q,rfl⟩;have HK:=AQ hk;clear hk;go_wp2_with fail
 go_ret2
 exact ⟨⟨k,rfl,HK.out⟩,HU.out.drewN q⟩
def PV (a b:Int):Int:=if b≤a then 0 else b - a
theorem JM (x:Int):IntKind.u64.wrap x=x % 18446744073709551616:=by simp [IntKind.wrap,IntKind.signed,IntKind.bits]
theorem a1h (a b:Int) (h:a≤b) (hd:b - a<18446744073709551616):IntKind.u64.wrap (IntKind.u64.wrap b - IntKind.u64.wrap a)=b - a:=by
 rw [JM,JM,JM];omega
theorem nG (a b:Int) (w:World) (ha : -9223372036854775808≤a∧a≤9223372036854775807) (hb : -9223372036854775808≤b∧b≤9223372036854775807) :
 Calls Tryz.prog 98 #[.int .i64 a,.int .i64 b] w fun e w'=>e=.returned (.int .u64 (PV a b))∧w=w':=by
 obtain ⟨ha1,ha2⟩:=ha;obtain ⟨hb1,hb2⟩:=hb;by_cases h:b≤a
 ·go_enter Tryz.func98,Tryz.ntmps98
  go_wp2_with fail
  go_ret
  exact ⟨by unfold PV;rw [if_pos h];rfl,rfl⟩
 ·go_enter Tryz.func98,Tryz.ntmps98
  go_wp2_with fail
  go_ret
  exact ⟨by unfold PV;rw [if_neg (by omega),←a1h a b (by omega) (by omega)];rfl,rfl⟩
