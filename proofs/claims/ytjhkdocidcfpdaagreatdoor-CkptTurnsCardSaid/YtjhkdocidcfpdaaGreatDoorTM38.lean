/-
  A part of the proof of a law (packed by program).
-/
import Derived.Test.YtjhkdocidcfpdaaGreatDoorTM34
import Derived.Test.YtjhkdocidcfpdaaGreatDoorTM35
import Derived.Test.YtjhkdocidcfpdaaGreatDoorTM37
set_option linter.unusedVariables false
set_option linter.unusedSimpArgs false
set_option maxRecDepth 100000
set_option maxHeartbeats 16000000
open List renaming length_append → Zl
namespace Go.Proofs.YtjhkdocidcfpdaaGreatDoor
open Go.RowKit Go.Shelf Go
def FY (w:World) (d:bE) (e:Ending) (w':World):Prop:=
 Below w.heap.size w w'∧((eK d=none∧∃er:Int,er≠0∧e=.returned (.tuple #[.slice none 0 0,.int .i64 er]))∨
  ∃p vps qs B,w.heap.size≤B∧eK d=some p∧e=.returned (.tuple #[vps,.int .i64 0])∧aV w' B B vps qs∧p.2=qs.map (·.sh)∧qs.length≤1000)
theorem SX (oi:Option Addr) (ci:Nat) (ol:Option Addr) (cl:Nat) (d:bE) (w:World) (h:eJ w (.slice oi d.input.length ci) (.slice ol d.lays.length cl) d) (hci:d.input.length≤ci):
  Calls Tryz.prog 121 #[.agg #[.slice oi d.input.length ci,.slice ol d.lays.length cl,.int .i64 d.loss]] w (FY w d):=by
 have hA:=Za (show ∀o:Obj,Below w.heap.size w (w.alloc o)from fun o=>(Zc _ _).alloc (Zb _) _);have HI:=Za (fun o=>N1 oi ci ol cl d _ (h.next (hA.o o)) hci);clear h;go_enter Tryz.func121,Tryz.ntmps121;go_wp2_with fail;refine(HI.o _).mono ?_;rintro e w1 ⟨hb,hout⟩;have HB:=Za ((hA.o _).trans (hb.mono (hA.o _).size));rcases hout with⟨hn,er,her,rfl⟩|⟨p,vo,vps,qs,hp,rfl,ho,hq,hps,hql⟩
 ·have HN:=Za hn;clear hn hb;go_wp2;go_ret2;exact⟨HB.o,.inl ⟨HN.o,er,her,rfl⟩⟩
 ·have HN:=Za hp;have HQ:=Za (Zd hq (Zd hps hql));obtain⟨o5,c5,rfl⟩:=aJ ho;obtain⟨o6,c6,rfl⟩:=aJ hq.row;have HS:=Za (show w.heap.size≤(w.alloc (.cells #[.slice oi d.input.length ci,.slice ol d.lays.length cl,.int .i64 d.loss] 33)).heap.size from(hA.o _).size);clear hp hb hq hps hql ho;go_wp2;go_ret2;exact⟨HB.o,.inr ⟨p,_,qs,_,HS.o,HN.o,rfl,HQ.o.1,HQ.o.2⟩⟩
def fU (w:World) (v:Value) (ss:List (List Int)):Prop:=∃o cap,v=.slice o ss.length cap∧∀(k:Nat) (hk:k<ss.length),∃b off u,o=some ⟨b,off,none⟩∧w.cell? ⟨b,off+k,none⟩=some u∧Rd w .i64 u ss[k]
theorem fU.below {w w':World} {B:Nat} {v:Value} {ss:List (List Int)} (h:fU w v ss) (hB:Below B w w') (hs:w.heap.size≤B):fU w' v ss:=by obtain⟨o,cap,rfl,h⟩:=h;refine⟨o,cap,rfl,fun k hk=>?_⟩;obtain⟨b,off,u,rfl,h1,h2⟩:=h k hk;exact⟨b,off,u,rfl,(hB.cell (p:=⟨b,off+k,none⟩) (Nat.lt_of_lt_of_le (aP h1) hs)).trans h1,h2.below hB hs⟩
theorem fU.next {w w':World} {v:Value} {ss:List (List Int)} (h:fU w v ss) (hB:Below w.heap.size w w'):fU w' v ss:=h.below hB (Zb _)
theorem fU.slice {w:World} {v:Value} {ss:List (List Int)} (h:fU w v ss):∃o cap,v=.slice o ss.length cap:=by obtain⟨o,cap,rfl,_⟩:=h;exact⟨o,cap,rfl⟩
theorem fU.at {w:World} {o:Option Addr} {n cap:Nat} {ss:List (List Int)} (h:fU w (.slice o n cap) ss) (k:Nat) (hk:k<ss.length):∃b off u,o=some ⟨b,off,none⟩∧w.cell? ⟨b,off+k,none⟩=some u∧Rd w .i64 u ss[k]:=by obtain⟨o',cap',he,h⟩:=h;simp at he;obtain⟨rfl,_,_⟩:=he;exact h k hk
theorem fU.of_own {w:World} {B:Nat} {e:TypeId} {v:Value} {us:List Value} {ss:List (List Int)} (h:w.ownsRow B e 1 v ss.length us) (hr:∀(k:Nat) (hk:k<ss.length),∃u,us[k]?=some u∧Rd w .i64 u ss[k]):fU w v ss:=by
 obtain⟨o,cap,hv,_⟩:=iV h;subst hv;refine⟨o,cap,rfl,fun k hk=>?_⟩;obtain⟨u,hu,hrd⟩:=hr k hk;rcases h.2 with⟨he,h0⟩|⟨g,cap',cur,he,_,hg,hcl,hle,h63,ht⟩
 ·omega
 ·injection he with h1 h2 h3;subst h1;refine⟨g,0,u,rfl,?_,hrd⟩;have hcur:cur[k]?=some u:=by
   rw[←ht,List.getElem?_take]at hu;split at hu
   ·simpa using hu
   ·cases hu
  have:=cell_of_row w g k cur _ _ hg;rw[Nat.zero_add];rw[this];exact hcur
theorem O0:(Tryz.prog.info? 30).map (fun i=>(i.zero,i.size,i.bytes))=some (some (.slice none 0 0),1,24):=by kernel_rfl
theorem OB (w:World) (o:Obj) (v:Value) (e:TypeId):∀(j:Nat) (u:Value),[v][j]?=some u→((w.alloc o).alloc (.cells #[v] e)).cell? ((⟨w.heap.size+1,0,none⟩:Addr).add j)=some u:=by have h:=cell_one_new (w.alloc o) v e;rw[World.size_alloc]at h;exact h
def QJ (w:World) (d:bE) (e:Ending) (w':World):Prop:=
 Below w.heap.size w w'∧((dN d=none∧∃v,e=.returned (.tuple #[v,.bool false]))∨∃v ss,dN d=some ss∧ss.length≤1000∧e=.returned (.tuple #[v,.bool true])∧fU w' v ss)
def xFS (w:World) (d:bE) (e:Ending) (w':World):Prop:=
 Below w.heap.size w w'∧((dN d=none∧∃v,e=.returned (.tuple #[v,.bool false]))∨∃v ss,dN d=some ss∧ss.length≤1000∧e=.returned (.tuple #[v,.bool true])∧fU w' v ss∧∀g,v.ownBlock=some g→w.heap.size≤g)
theorem yT (oi:Option Addr) (ci:Nat) (ol:Option Addr) (cl:Nat) (d:bE) (w:World) (h:eJ w (.slice oi d.input.length ci) (.slice ol d.lays.length cl) d) (hci:d.input.length≤ci):
  Calls Tryz.prog 77 #[.agg #[.slice oi d.input.length ci,.slice ol d.lays.length cl,.int .i64 d.loss]] w (xFS w d):=by
 obtain⟨i0,hi,hz0,hz1,hz2⟩:=info_parts O0;have hA:=Za (show ∀o:Obj,Below w.heap.size w (w.alloc o)from fun o=>(Zc _ _).alloc (Zb _) _);have HI:=Za (fun o=>SX oi ci ol cl d _ (h.next (hA.o o)) hci);clear h;go_enter Tryz.func77,Tryz.ntmps77;go_wp2_with fail;refine(HI.o _).mono ?_;rintro e w1 ⟨hb,hout⟩;have HB:=Za ((hA.o _).trans (hb.mono (hA.o _).size));rcases hout with⟨hn,er,her,rfl⟩|⟨p,vps,qs,B,hB0,hp,rfl,hq,hps,hql⟩
 ·have HN:=Za (show dN d=none by rw[dN,hn];rfl);have her2:(er==0)=false:=by simpa using her
  clear hn hb her;go_wp2;go_loopw[6,16] (fun v i wr=>v=.slice none 0 0∧i=.int .i64 0∧wr=w1) (fun i _ _=>0)
  case atStart=>exact⟨rfl,rfl,rfl⟩
  case round=>
   obtain⟨rfl,rfl,rfl⟩:=hrel;go_wp2;go_ret2;exact⟨HB.o,.inl ⟨HN.o,_,rfl⟩⟩
 ·have HN:=Za (show dN d=some p.2 by rw[dN,hp];rfl);have HQ:=Za (Zd hq (Zd hps hql));obtain⟨o6,c6,rfl⟩:=aJ hq.row;obtain⟨nq,hnq⟩:∃nq,nq=qs.length:=⟨_,rfl⟩;rw[←hnq]at hql;have HNQ:=Za hnq;have hss:(qs.map (·.sh)).length=nq:=by rw[List.length_map,hnq]
  clear hp hb hq hps hnq;go_wp2;rw[←HNQ.o];go_loopw[6,16] (fun v i wr=>∃k:Nat,k≤nq∧i=.int .i64 k∧wr.ownsRow w1.heap.size 30 1 v k ((qs.take k).map PD.vs)∧Below w1.heap.size w1 wr) (fun _ i _=>nq-(intOf i).toNat)
  case atStart=>exact⟨0,Ze _,rfl,World.ownsRow_nil _ _ _ _,Zc _ _⟩
  case round=>
   obtain⟨k,hk,rfl,hown,hBr⟩:=hrel;by_cases hlt:k<nq
   ·have hltq:k<qs.length:=by rw[←HNQ.o];exact hlt
    obtain⟨b,rfl,_,c0,c1,c2,c3,_⟩:=(HQ.o.1.below hBr).at k hltq;have HTS:=Za (show qs.take (k+1)=qs.take k++[qs[k]] from List.take_succ_eq_append_getElem hltq);have h1c:=HQ.o.1.one _ (List.getElem_mem hltq);obtain⟨os,cs,hvs⟩:=(HQ.o.1.sh _ (List.getElem_mem hltq)).slice;have HVS:=Za hvs;have HBR:=Za hBr;have HO:=Za hown;generalize qs[k]=q at c0 c1 c2 c3 HTS h1c HVS;rw[HVS.o]at c1;have hq0:q.vs=.slice os q.sh.length cs:=HVS.o;clear hvs hown hBr;go_wp2_with(at_builtin;refine wpList_append_own _ rfl _ _ 133 rfl w1.heap.size 30 i0 (.slice none 0 0) 1 24 Tryz.underlying133 hi hz0 hz1 hz2 rfl (by decide) _ _ _ rfl ((HO.o.alloc _).alloc _) ⟨wr.heap.size+1,0,none⟩ 1 1 [.slice os q.sh.length cs] rfl rfl (OB _ _ _ _) (by simp[Value.oneCell']) (by unfold maxLen;omega) (by omega) (by have:=HBR.o.size;simp;omega) ?_;intro v' w2 hown' hgrow _);have HB2:=Za (show Below w1.heap.size w1 w2 from((HBR.o.alloc HBR.o.size _).alloc (by have:=HBR.o.size;simp;omega) _).grown hgrow (by have:=HBR.o.size;simp;omega) fun k hk=>(HO.o.lt k hk).1);have HO2:=Za (show w2.ownsRow w1.heap.size 30 1 v' (k+1) ((qs.take (k+1)).map PD.vs) by rw[HTS.o,List.map_append];simpa [HVS.o]using hown');clear hown' hgrow;go_roundw
    case rel=>exact⟨k+1,by omega,by go_num,HO2.o,HB2.o⟩
    case measure=>simp[intOf];omega
   ·obtain rfl:k=nq:=by omega
    have HS:=Za (show fU wr u6 p.2 by
     have e:p.2.length=k:=by rw[HQ.o.2.1,hss]
     refine fU.of_own (us:=qs.map PD.vs) (B:=w1.heap.size) (e:=30) ?_ ?_
     ·rw[e];have:=hown
      rwa [List.take_of_length_le (by rw[←HNQ.o];exact Zb _)]at this
     ·intro j hj;rw[e,HNQ.o]at hj;refine⟨qs[j].vs,by simp[hj],?_⟩;have:=(HQ.o.1.sh _ (List.getElem_mem hj)).1.below hBr (Zb _);have e2:p.2[j]=qs[j].sh:=by simp[HQ.o.2.1]
      rw[e2];exact this)
    have HB3:=Za (HB.o.trans (hBr.mono HB.o.size));have HOB:=Za (show ∀g,u6.ownBlock=some g→w.heap.size≤g from fun g hg=>Nat.le_trans HB.o.size (hown.lt g hg).1);have HPL:=Za (show p.2.length≤1000 by rw[HQ.o.2.1,hss];exact hql);clear hown hBr;go_wp2;go_ret2;exact⟨HB3.o,.inr ⟨_,p.2,HN.o,HPL.o,rfl,HS.o,HOB.o⟩⟩
theorem JX (oi:Option Addr) (ci:Nat) (ol:Option Addr) (cl:Nat) (d:bE) (w:World) (h:eJ w (.slice oi d.input.length ci) (.slice ol d.lays.length cl) d) (hci:d.input.length≤ci):
  Calls Tryz.prog 77 #[.agg #[.slice oi d.input.length ci,.slice ol d.lays.length cl,.int .i64 d.loss]] w (QJ w d):=
 (yT oi ci ol cl d w h hci).mono fun e w' ⟨hb,ho⟩=>⟨hb,ho.imp id fun⟨v,ss,h1,h2,h3,h4,_⟩=>⟨v,ss,h1,h2,h3,h4⟩⟩
theorem CR {s:aX} {l:List (List Int)} (h:dN s.d=some l):dF s=(dU s.f&&(eM s.h s.f&&(s.ps.all cH&&(decide (bI s.ps=l)&&(dQ s.h s.m s.ps s.f&&(gK s.r.script.length s.r.s0 s.r.s1 s.r.s2 s.r.s3&&dP s.c.order s.c.at_ s.c.epoch s.c.order.length)))))):=by rw[dF,h]
theorem vO {s:aX} (h:dN s.d=none):dF s=false:=by rw[dF,h]
theorem yD (s:aX) (vi vl vp vm vv vr vc:Value) (w:World) (hr:eC w s vi vl vp vm vv vr vc) (hci:∀o n c,vi=.slice o n c→n≤c):
  Calls Tryz.prog 28 #[.agg (cW s vi vl vp vm vv vr vc)] w fun e w'=>e=.returned (.bool (dF s))∧Below w.heap.size w w':=by
 obtain⟨o1,c1,o2,c2,o3,c3,o4,c4,o5,c5,o6,c6,o7,c7,rfl,rfl,rfl,rfl,rfl,rfl,rfl⟩:=hr.slices;have hci':=hci _ _ _ rfl;have HR:=Za hr;obtain⟨W,hW⟩:∃W,W=w.alloc (.cells (dD s o1 c1 o2 c2 o3 c3 o4 c4 o5 c5 o6 c6 o7 c7) 47):=⟨_,rfl⟩;have hbx:aA W w.heap.size 47 (dD s o1 c1 o2 c2 o3 c3 o4 c4 o5 c5 o6 c6 o7 c7):=by rw[hW];exact aA.new _ _ _
 have hbw:Below w.heap.size w W:=by rw[hW];exact(Zc _ _).alloc (Zb _) _
 have HX0:=Za (Zd hbx hbw);have HW:=Za hW;simp only[cW];clear hr hci hbx hbw hW;go_enter Tryz.func28,Tryz.ntmps28;go_wp2_with(go_at_call 77;rw[←HW.o];refine(JX _ _ _ _ s.d _ (HR.o.below HX0.o.2 (Zb _)).d hci').mono ?_;rintro e w1 ⟨hb,(⟨hn,v,rfl⟩|⟨v,l,hn,hll,rfl,hsr⟩)⟩<;>refine aD ?_)
 all_goals have HX1:=Za (Zd (HX0.o.1.next hb) (HX0.o.2.trans (hb.mono HX0.o.2.size)))
 ·have HN:=Za (vO hn);clear hn hb;refine aC ?_;go_wp2;go_ret;exact⟨aF (by rw[HN.o]),HX1.o.2⟩
 have HN:=Za (CR hn);have HL:=Za hsr;obtain⟨ol,cl,rfl⟩:=hsr.slice;clear hn hb hsr;have x0:=HX1.o.1.q 0 rfl;have x1:=HX1.o.1.q 1 rfl;have x2:=HX1.o.1.q 2 rfl;have x3:=HX1.o.1.q 3 rfl;have x4:=HX1.o.1.q 4 rfl;have x5:=HX1.o.1.q 5 rfl;have x6:=HX1.o.1.q 6 rfl;have x7:=HX1.o.1.q 7 rfl;have x8:=HX1.o.1.q 8 rfl;have x9:=HX1.o.1.q 9 rfl;have x10:=HX1.o.1.q 10 rfl;have x11:=HX1.o.1.q 11 rfl;have x12:=HX1.o.1.q 12 rfl;have x13:=HX1.o.1.q 13 rfl;have x14:=HX1.o.1.q 14 rfl;have x15:=HX1.o.1.q 15 rfl;have x16:=HX1.o.1.q 16 rfl;have x17:=HX1.o.1.q 17 rfl;have x18:=HX1.o.1.q 18 rfl;have x19:=HX1.o.1.q 19 rfl;have x20:=HX1.o.1.q 20 rfl;have x21:=HX1.o.1.q 21 rfl;have x22:=HX1.o.1.q 22 rfl;have x23:=HX1.o.1.q 23 rfl;have x24:=HX1.o.1.q 24 rfl;have x25:=HX1.o.1.q 25 rfl;have x26:=HX1.o.1.q 26 rfl;refine aC ?_;go_wp2_with(go_at_call 74;refine(wI s.f _).mono ?_;rintro e w2 ⟨rfl,hsm⟩;refine aD ?_);have hb:Below w1.heap.size w1 w2:=hsm.below _;have HX2:=Za (Zd (HX1.o.1.next hb) (HX1.o.2.trans (hb.mono HX1.o.2.size)));have HL2:=Za (HL.o.next hb);clear x0 x1 x2 x3 x4 x5 x6 x7 x8 x9 x10 x11 x12 x13 x14 x15 x16 x17 x18 x19 x20 x21 x22 x23 x24 x25 x26;clear hb hsm;have x0:=HX2.o.1.q 0 rfl;have x1:=HX2.o.1.q 1 rfl;have x2:=HX2.o.1.q 2 rfl;have x3:=HX2.o.1.q 3 rfl;have x4:=HX2.o.1.q 4 rfl;have x5:=HX2.o.1.q 5 rfl;have x6:=HX2.o.1.q 6 rfl;have x7:=HX2.o.1.q 7 rfl;have x8:=HX2.o.1.q 8 rfl;have x9:=HX2.o.1.q 9 rfl;have x10:=HX2.o.1.q 10 rfl;have x11:=HX2.o.1.q 11 rfl;have x12:=HX2.o.1.q 12 rfl;have x13:=HX2.o.1.q 13 rfl;have x14:=HX2.o.1.q 14 rfl;have x15:=HX2.o.1.q 15 rfl;have x16:=HX2.o.1.q 16 rfl;have x17:=HX2.o.1.q 17 rfl;have x18:=HX2.o.1.q 18 rfl;have x19:=HX2.o.1.q 19 rfl;have x20:=HX2.o.1.q 20 rfl;have x21:=HX2.o.1.q 21 rfl;have x22:=HX2.o.1.q 22 rfl;have x23:=HX2.o.1.q 23 rfl;have x24:=HX2.o.1.q 24 rfl;have x25:=HX2.o.1.q 25 rfl;have x26:=HX2.o.1.q 26 rfl;refine aC ?_;cases p0:dU s.f with
 |false=>
  have Dp0:=Za p0;clear p0;go_wp2;go_ret;exact⟨aF (by rw[HN.o];simp[Dp0.o]),HX2.o.2⟩
 |true=>
  have Dp0:=Za p0;clear p0;go_wp2_with(go_at_call 80;refine(SF s.h s.f _).mono ?_;rintro e w3 ⟨rfl,hb⟩;refine aD ?_);have HX3:=Za (Zd (HX2.o.1.next hb) (HX2.o.2.trans (hb.mono HX2.o.2.size)));clear x0 x1 x2 x3 x4 x5 x6 x7 x8 x9 x10 x11 x12 x13 x14 x15 x16 x17 x18 x19 x20 x21 x22 x23 x24 x25 x26;have HL3:=Za (HL2.o.next hb);clear hb;have x0:=HX3.o.1.q 0 rfl;have x1:=HX3.o.1.q 1 rfl;have x2:=HX3.o.1.q 2 rfl;have x3:=HX3.o.1.q 3 rfl;have x4:=HX3.o.1.q 4 rfl;have x5:=HX3.o.1.q 5 rfl;have x6:=HX3.o.1.q 6 rfl;have x7:=HX3.o.1.q 7 rfl;have x8:=HX3.o.1.q 8 rfl;have x9:=HX3.o.1.q 9 rfl;have x10:=HX3.o.1.q 10 rfl;have x11:=HX3.o.1.q 11 rfl;have x12:=HX3.o.1.q 12 rfl;have x13:=HX3.o.1.q 13 rfl;have x14:=HX3.o.1.q 14 rfl;have x15:=HX3.o.1.q 15 rfl;have x16:=HX3.o.1.q 16 rfl;have x17:=HX3.o.1.q 17 rfl;have x18:=HX3.o.1.q 18 rfl;have x19:=HX3.o.1.q 19 rfl;have x20:=HX3.o.1.q 20 rfl;have x21:=HX3.o.1.q 21 rfl;have x22:=HX3.o.1.q 22 rfl;have x23:=HX3.o.1.q 23 rfl;have x24:=HX3.o.1.q 24 rfl;have x25:=HX3.o.1.q 25 rfl;have x26:=HX3.o.1.q 26 rfl;refine aC ?_;cases p1:eM s.h s.f with
  |false=>
   have Dp1:=Za p1;clear p1;go_wp2;go_ret;exact⟨aF (by rw[HN.o];simp[Dp0.o,Dp1.o]),HX3.o.2⟩
  |true=>
   have Dp1:=Za p1;clear p1;by_cases hlen:s.ps.length=l.length;rotate_left
   ·have hne:((s.ps.length:Int) != (l.length:Int))=true:=by simp;omega
    have DN:=Za (show decide (bI s.ps=l)=false from decide_eq_false fun h=>hlen (by rw[←h,bI,List.length_map]));clear hlen;go_wp2;go_ret;exact⟨aF (by rw[HN.o];simp[Dp0.o,Dp1.o,DN.o]),HX3.o.2⟩
   have hne:((s.ps.length:Int) != (l.length:Int))=false:=by simp[hlen]
   have HLEN:=Za hlen;clear hlen;go_wp2_with(go_at_call 81;refine(tU _ s.ps _ (HR.o.below HX3.o.2 (Zb _)).ps HR.o.lps).mono ?_;rintro e w4 ⟨rfl,hb⟩;refine aD ?_);have HX4:=Za (Zd (HX3.o.1.next hb) (HX3.o.2.trans (hb.mono HX3.o.2.size)));clear x0 x1 x2 x3 x4 x5 x6 x7 x8 x9 x10 x11 x12 x13 x14 x15 x16 x17 x18 x19 x20 x21 x22 x23 x24 x25 x26;have HL4:=Za (HL3.o.next hb);clear hb;have x0:=HX4.o.1.q 0 rfl;have x1:=HX4.o.1.q 1 rfl;have x2:=HX4.o.1.q 2 rfl;have x3:=HX4.o.1.q 3 rfl;have x4:=HX4.o.1.q 4 rfl;have x5:=HX4.o.1.q 5 rfl;have x6:=HX4.o.1.q 6 rfl;have x7:=HX4.o.1.q 7 rfl;have x8:=HX4.o.1.q 8 rfl;have x9:=HX4.o.1.q 9 rfl;have x10:=HX4.o.1.q 10 rfl;have x11:=HX4.o.1.q 11 rfl;have x12:=HX4.o.1.q 12 rfl;have x13:=HX4.o.1.q 13 rfl;have x14:=HX4.o.1.q 14 rfl;have x15:=HX4.o.1.q 15 rfl;have x16:=HX4.o.1.q 16 rfl;have x17:=HX4.o.1.q 17 rfl;have x18:=HX4.o.1.q 18 rfl;have x19:=HX4.o.1.q 19 rfl;have x20:=HX4.o.1.q 20 rfl;have x21:=HX4.o.1.q 21 rfl;have x22:=HX4.o.1.q 22 rfl;have x23:=HX4.o.1.q 23 rfl;have x24:=HX4.o.1.q 24 rfl;have x25:=HX4.o.1.q 25 rfl;have x26:=HX4.o.1.q 26 rfl;refine aC ?_;cases p2:s.ps.all cH with
   |false=>
    have Dp2:=Za p2;clear p2;go_wp2;go_ret;exact⟨aF (by rw[HN.o];simp[Dp0.o,Dp1.o,Dp2.o]),HX4.o.2⟩
   |true=>
    have Dp2:=Za p2;clear p2;have hlp:=HR.o.lps.1;go_wp2;go_loopw[46] (fun i wr=>∃k:Nat,k≤s.ps.length∧i=.int .i64 k∧Hid (∀j,j<k→(aQ s.ps j).sh=l.getD j [])∧Below w4.heap.size w4 wr) (fun i _=>s.ps.length-(intOf i).toNat)
    case atStart=>exact⟨0,Ze _,rfl,Za fun j hj=>absurd hj (Nat.not_lt_zero _),Zc _ _⟩
    case round=>
     obtain⟨k,hk,rfl,HA,hBr⟩:=hrel;have HBR:=Za hBr;have HXr:=Za (Zd (HX4.o.1.next hBr) (HX4.o.2.trans (hBr.mono HX4.o.2.size)));clear hBr x0 x1 x2 x3 x4 x5 x6 x7 x8 x9 x10 x11 x12 x13 x14 x15 x16 x17 x18 x19 x20 x21 x22 x23 x24 x25 x26;by_cases hlt:k<s.ps.length
     ·obtain⟨b,off,vs,vd,rfl,c0,c1,hs,hd⟩:=(HR.o.ps.below HXr.o.2 (Zb _)).tens k hlt;obtain⟨b2,off2,u,rfl,d0,hrd2⟩:=(HL4.o.below HBR.o (Zb _)).at k (by rw[←HLEN.o];exact hlt);have HS:=Za hs;have HLK:=Za (HR.o.lps.2 _ (jF s.ps k hlt));obtain⟨lk,hlk⟩:∃lk,lk=l[k]'(by rw[←HLEN.o];exact hlt):=⟨_,rfl⟩;have HG:=Za (show l.getD k []=lk by rw[hlk,List.getD_eq_getElem?_getD,List.getElem?_eq_getElem];rfl);rw[←hlk]at hrd2;have HD:=Za hrd2;obtain⟨a5,k5,rfl⟩:=aU hs;obtain⟨a6,k6,rfl⟩:=aU hd;obtain⟨a7,k7,rfl⟩:=aU hrd2;have hd0:∀o:Obj,(wr.alloc o).cell? ⟨b2,off2+k,none⟩=some (.slice a7 lk.length k7):=fun o=>aT ((Zc _ _).alloc (Zb _) o) d0;have hkl:k<l.length:=by rw[←HLEN.o];exact hlt
      clear hs hd hrd2 hlk;obtain⟨W5,hW5⟩:∃W5,W5=wr.alloc (.cells #[.slice a5 (aQ s.ps k).sh.length k5,.slice a6 (aQ s.ps k).da.length k6] 100):=⟨_,rfl⟩;have hb5:Below wr.heap.size wr W5:=by rw[hW5];exact(Zc _ _).alloc (Zb _) _
      have hx5:aA W5 wr.heap.size 100 #[.slice a5 (aQ s.ps k).sh.length k5,.slice a6 (aQ s.ps k).da.length k6]:=by rw[hW5];exact aA.new _ _ _
      have z0:=hx5.q 0 rfl;have z1:W5.cell? ⟨b2,off2+k,none⟩=some (.slice a7 lk.length k7):=by rw[hW5];exact hd0 _
      have HB5:=Za hb5;have HW5:=Za hW5;have HE:=Za fun(r:Bool) (h:decide ((aQ s.ps k).sh=lk)=r) (m:Nat)=>(show Calls Tryz.prog 82 #[.slice a5 (aQ s.ps k).sh.length k5,.slice a7 lk.length k7] (W5.drewN m) fun e w'=>e=.returned (.bool r)∧∃k,w'=(W5.drewN m).drewN k by
       rw[←h];exact wU _ _ _ _ _ ((HS.o.below HB5.o (Zb _)).same ⟨_,rfl⟩) ((HD.o.below HB5.o (Zb _)).same ⟨_,rfl⟩) HLK.o.1)
      clear hx5 hb5 hd0 d0 hW5;cases hq:decide ((aQ s.ps k).sh=lk)with
      |false=>
       have HQ:=Za hq;have DN:=Za (show decide (bI s.ps=l)=false from decide_eq_false fun h=>by
        refine of_decide_eq_false hq ?_;rw[←HG.o,←h,bI,List.getD_eq_getElem?_getD,List.getElem?_map,List.getElem?_eq_getElem hlt,fE _ _ hlt];rfl)
       have HB9:=Za (HXr.o.2.trans (HB5.o.mono HXr.o.2.size));clear hq;go_wp2;rw[←HW5.o];go_quiet(first|(go_at_call 82;exact Calls.quiet_of (HE.o _ HQ.o _)));go_wp2;go_ret;exact⟨aF (by rw[HN.o];simp[Dp0.o,Dp1.o,Dp2.o,DN.o]),below_drewN HB9.o _⟩
      |true=>
       have HQ:=Za hq;have HB9:=Za (HBR.o.trans (HB5.o.mono HBR.o.size));clear hq;go_wp2;rw[←HW5.o];go_quiet(first|(go_at_call 82;exact Calls.quiet_of (HE.o _ HQ.o _)));go_wp2;go_roundw
       case rel=>exact⟨k+1,by omega,by go_num,Za (fun j hj=>by rcases Nat.lt_succ_iff_lt_or_eq.1 hj with h|h;exact HA.o j h;rw[h,HG.o];exact of_decide_eq_true HQ.o),below_drewN HB9.o _⟩
       case measure=>simp[intOf];omega
     ·obtain rfl:k=s.ps.length:=by omega
      have DN:=Za (show decide (bI s.ps=l)=true from decide_eq_true (by
       apply List.ext_getElem
       ·rw[bI,List.length_map];exact HLEN.o
       ·intro j h1 h2;have hj:j<s.ps.length:=by simpa [bI]using h1
        have:=HA.o j hj;rw[fE _ _ hj,List.getD_eq_getElem?_getD,List.getElem?_eq_getElem h2]at this
        simpa [bI]using this))
      have x0:=HXr.o.1.q 0 rfl;have x1:=HXr.o.1.q 1 rfl;have x2:=HXr.o.1.q 2 rfl;have x3:=HXr.o.1.q 3 rfl;have x4:=HXr.o.1.q 4 rfl;have x5:=HXr.o.1.q 5 rfl;have x6:=HXr.o.1.q 6 rfl;have x7:=HXr.o.1.q 7 rfl;have x8:=HXr.o.1.q 8 rfl;have x9:=HXr.o.1.q 9 rfl;have x10:=HXr.o.1.q 10 rfl;have x11:=HXr.o.1.q 11 rfl;have x12:=HXr.o.1.q 12 rfl;have x13:=HXr.o.1.q 13 rfl;have x14:=HXr.o.1.q 14 rfl;have x15:=HXr.o.1.q 15 rfl;have x16:=HXr.o.1.q 16 rfl;have x17:=HXr.o.1.q 17 rfl;have x18:=HXr.o.1.q 18 rfl;have x19:=HXr.o.1.q 19 rfl;have x20:=HXr.o.1.q 20 rfl;have x21:=HXr.o.1.q 21 rfl;have x22:=HXr.o.1.q 22 rfl;have x23:=HXr.o.1.q 23 rfl;have x24:=HXr.o.1.q 24 rfl;have x25:=HXr.o.1.q 25 rfl;have x26:=HXr.o.1.q 26 rfl;go_wp2_with(go_at_call 83;refine(IS s.h s.m s.ps s.f _ _ _ _ (nH Dp0.o) (HR.o.below HXr.o.2 (Zb _)).m (HR.o.below HXr.o.2 (Zb _)).v (HR.o.below HXr.o.2 (Zb _)).ps HR.o.lm HR.o.lv HR.o.lps).mono ?_;rintro e w5 ⟨rfl,hb⟩;refine aD ?_);have HX5:=Za (Zd (HXr.o.1.next hb) (HXr.o.2.trans (hb.mono HXr.o.2.size)));clear x0 x1 x2 x3 x4 x5 x6 x7 x8 x9 x10 x11 x12 x13 x14 x15 x16 x17 x18 x19 x20 x21 x22 x23 x24 x25 x26 hb;have x0:=HX5.o.1.q 0 rfl;have x1:=HX5.o.1.q 1 rfl;have x2:=HX5.o.1.q 2 rfl;have x3:=HX5.o.1.q 3 rfl;have x4:=HX5.o.1.q 4 rfl;have x5:=HX5.o.1.q 5 rfl;have x6:=HX5.o.1.q 6 rfl;have x7:=HX5.o.1.q 7 rfl;have x8:=HX5.o.1.q 8 rfl;have x9:=HX5.o.1.q 9 rfl;have x10:=HX5.o.1.q 10 rfl;have x11:=HX5.o.1.q 11 rfl;have x12:=HX5.o.1.q 12 rfl;have x13:=HX5.o.1.q 13 rfl;have x14:=HX5.o.1.q 14 rfl;have x15:=HX5.o.1.q 15 rfl;have x16:=HX5.o.1.q 16 rfl;have x17:=HX5.o.1.q 17 rfl;have x18:=HX5.o.1.q 18 rfl;have x19:=HX5.o.1.q 19 rfl;have x20:=HX5.o.1.q 20 rfl;have x21:=HX5.o.1.q 21 rfl;have x22:=HX5.o.1.q 22 rfl;have x23:=HX5.o.1.q 23 rfl;have x24:=HX5.o.1.q 24 rfl;have x25:=HX5.o.1.q 25 rfl;have x26:=HX5.o.1.q 26 rfl;refine aC ?_;cases p3:dQ s.h s.m s.ps s.f with
      |false=>
       have Dp3:=Za p3;clear p3;go_wp2;go_ret;exact⟨aF (by rw[HN.o];simp[Dp0.o,Dp1.o,Dp2.o,DN.o,Dp3.o]),HX5.o.2⟩
      |true=>
       have Dp3:=Za p3;clear p3;go_wp2_with(go_at_call 84;refine(R9 _ _ _ _ _ _ _ _ HR.o.lr).mono ?_;rintro e w6 ⟨rfl,hb⟩;refine aD ?_);have HX6:=Za (Zd (HX5.o.1.next hb) (HX5.o.2.trans (hb.mono HX5.o.2.size)));clear x0 x1 x2 x3 x4 x5 x6 x7 x8 x9 x10 x11 x12 x13 x14 x15 x16 x17 x18 x19 x20 x21 x22 x23 x24 x25 x26 hb;have x0:=HX6.o.1.q 0 rfl;have x1:=HX6.o.1.q 1 rfl;have x2:=HX6.o.1.q 2 rfl;have x3:=HX6.o.1.q 3 rfl;have x4:=HX6.o.1.q 4 rfl;have x5:=HX6.o.1.q 5 rfl;have x6:=HX6.o.1.q 6 rfl;have x7:=HX6.o.1.q 7 rfl;have x8:=HX6.o.1.q 8 rfl;have x9:=HX6.o.1.q 9 rfl;have x10:=HX6.o.1.q 10 rfl;have x11:=HX6.o.1.q 11 rfl;have x12:=HX6.o.1.q 12 rfl;have x13:=HX6.o.1.q 13 rfl;have x14:=HX6.o.1.q 14 rfl;have x15:=HX6.o.1.q 15 rfl;have x16:=HX6.o.1.q 16 rfl;have x17:=HX6.o.1.q 17 rfl;have x18:=HX6.o.1.q 18 rfl;have x19:=HX6.o.1.q 19 rfl;have x20:=HX6.o.1.q 20 rfl;have x21:=HX6.o.1.q 21 rfl;have x22:=HX6.o.1.q 22 rfl;have x23:=HX6.o.1.q 23 rfl;have x24:=HX6.o.1.q 24 rfl;have x25:=HX6.o.1.q 25 rfl;have x26:=HX6.o.1.q 26 rfl;refine aC ?_;cases p4:gK s.r.script.length s.r.s0 s.r.s1 s.r.s2 s.r.s3 with
       |false=>
        have Dp4:=Za p4;clear p4;go_wp2;go_ret;exact⟨aF (by rw[HN.o];simp[Dp0.o,Dp1.o,Dp2.o,DN.o,Dp3.o,Dp4.o]),HX6.o.2⟩
       |true=>
        have Dp4:=Za p4;clear p4;go_wp2_with(go_at_call 85;refine(L0 _ s.c.order s.c.at_ s.c.epoch s.c.order.length _ (HR.o.below HX6.o.2 (Zb _)).c HR.o.lc HR.o.lc).mono ?_;rintro e w7 ⟨rfl,hb⟩;refine aD ?_);have HX7:=Za (HX6.o.2.trans (hb.mono HX6.o.2.size));clear x0 x1 x2 x3 x4 x5 x6 x7 x8 x9 x10 x11 x12 x13 x14 x15 x16 x17 x18 x19 x20 x21 x22 x23 x24 x25 x26 hb;refine aC ?_;go_wp2
        all_goals
         go_ret;exact⟨aF (by rw[HN.o];simp[Dp0.o,Dp1.o,Dp2.o,DN.o,Dp3.o,Dp4.o, *]),HX7.o⟩
structure cK (w:World) (C:Array Value) (v:Value) (L:List Int) (W:World):Prop where
 box:aA W w.heap.size 47 C
 low:Below w.heap.size w W
 own:aH W (w.heap.size+1) 5 .u8 v L
theorem cK.size {w:World} {C:Array Value} {v:Value} {L:List Int} {W:World} (h:cK w C v L W):w.heap.size+1≤W.heap.size:=h.box.lt
theorem cK.next {w W W':World} {C:Array Value} {v:Value} {L:List Int} (h:cK w C v L W) (hb:Below W.heap.size W W'):cK w C v L W':=⟨h.box.next hb,h.low.trans (hb.mono h.low.size),cF h.own hb (Zb _)⟩
theorem cK.put {w W W':World} {C:Array Value} {v v':Value} {L L':List Int} (h:cK w C v L W) (hg:dR (w.heap.size+1) v v' W W') (ho:aH W' (w.heap.size+1) 5 .u8 v' L'):cK w C v' L' W':=
 ⟨(hg.low.block w.heap.size (Nat.lt_succ_self _)).trans h.box,h.low.trans (hg.low.mono (Nat.le_succ _)),ho⟩
theorem aA.growsB {W W':World} {B g:Nat} {T:TypeId} {cs:Array Value} {v v':Value} {L:List Int} (h:aA W g T cs) (hg:dR B v v' W W') (ho:aH W B 5 .u8 v L) (hT:T≠5):aA W' g T cs:=by
 refine(hg.other g h.lt (fun e=>?_)).trans h;rcases ho.2 with⟨rfl,_⟩|⟨g',cap,cur,rfl,_,hgg,_⟩
 ·cases e
 ·injection e with e;simp only at e;subst e;unfold aA at h;rw[h]at hgg;injection hgg with hgg;injection hgg with _ h2;exact hT h2
theorem NY {w w1 w2:World} {B:Nat} {v v':Value} {L:List Int} (ho:aH w B 5 .u8 v L) (hb:Below w.heap.size w w1) (hB:B≤w.heap.size) (hg:w1.grownBy w2 v.ownBlock) (hob:v'.ownBlock=v.ownBlock∨v'.ownBlock=some w1.heap.size):dR B v v' w w2:=
 dR.pre ⟨(Zc B w1).grown hg (Nat.le_trans hB hb.size) (fun k hk=>(ho.lt k hk).1),fun q hq hne=>hg.block q hq (fun e=>hne e.symm),fun g hgo=>by
  rcases hob with h1|h1
  ·exact .inl (Eq.trans (Eq.symm h1) hgo)
  ·have h2:=Eq.trans (Eq.symm h1) hgo;right;injection h2 with h2;omega⟩ hb hB
theorem cK.grown {w W W':World} {C:Array Value} {v v':Value} {L L':List Int} (h:cK w C v L W) (hg:W.grownBy W' v.ownBlock) (ho:aH W' (w.heap.size+1) 5 .u8 v' L'):cK w C v' L' W':=
 ⟨(hg.block w.heap.size h.box.lt (fun e=>by have:=(h.own.lt _ e.symm).1;omega)).trans h.box,h.low.trans (((Zc w.heap.size W).grown hg h.low.size (fun k hk=>by have:=(h.own.lt k hk).1;omega))),ho⟩
theorem kR {w W:World} {C:Array Value} {v:Value} {L:List Int} (h:cK w C v L W) (k:Nat) (hk:k≤8) (xs:List Int) (m g:Nat) (hm:m=xs.length) (cs:Array Value) (hcs:cs=(xs.map (Value.int .i64)).toArray) (hb:aA W g 2 cs) (hl:L.length+8*xs.length≤90000000000000):
  Calls Tryz.prog 44 #[v,.int .i64 k,.slice (some ⟨g,0,none⟩) m m] W fun e w'=>∃v',e=.returned v'∧cK w C v' (L++bO k xs) w'∧(∀(q:Nat) (T:TypeId) (ds:Array Value),T≠5→aA W q T ds→aA w' q T ds):=by
 subst hm hcs;have hr:Rd W .i64 (.slice (some ⟨g,0,none⟩) xs.length xs.length) xs:=⟨_,_,rfl,fun j hj=>⟨g,0,rfl,by
  have:=hb.cell j (show((xs.map (Value.int .i64)).toArray)[j]?=some (.int .i64 (aE xs j)) by simp[dK xs j hj,hj]);rw[Nat.zero_add];exact this⟩⟩
 have ha:mC v (.slice (some ⟨g,0,none⟩) xs.length xs.length) xs.length:=fun b off m c e h0 h1=>by
  injection e with e1;injection e1 with e1;injection e1 with e1;subst e1;rcases h.own.2 with⟨hv,_⟩|⟨g',cap,cur,hv,_,hgg,_⟩
  ·rw[hv]at h1;cases h1
  ·rw[hv]at h1;injection h1 with h1;simp only at h1;subst h1;unfold aA at hb;rw[hgg]at hb;injection hb with hb;injection hb with _ h2;exact absurd h2 (by decide)
 refine(xS v _ L xs k (w.heap.size+1) W h.own hr h.size hk hl ha).mono ?_;rintro e w' ⟨v',rfl,ho,hg⟩;exact⟨v',rfl,h.put hg ho,fun q T ds hT hb2=>aA.growsB hb2 hg h.own hT⟩
theorem B6 {w W:World} {C:Array Value} {v:Value} {L:List Int} (h:cK w C v L W) (k:Nat) (hk:k≤8) (xs:List Int) (u:Value) (hr:Rd w .i64 u xs) (hl:L.length+8*xs.length≤90000000000000):
  Calls Tryz.prog 44 #[v,.int .i64 k,u] W fun e w'=>∃v',e=.returned v'∧cK w C v' (L++bO k xs) w'∧dR (w.heap.size+1) v v' W w':=by
 have ha:mC v u xs.length:=fun b off m c e h0 h1=>by
  have h2:=hr.lt b off m c e h0;have:=(h.own.lt b h1).1;omega
 refine(xS v u L xs k (w.heap.size+1) W h.own (hr.below h.low (Zb _)) h.size hk hl ha).mono ?_;rintro e w' ⟨v',rfl,ho,hg⟩;exact⟨v',rfl,h.put hg ho,hg⟩
theorem NQ (w:World) (o:Obj) (l:List Value) (e:TypeId):∀(j:Nat) (u:Value),l[j]?=some u→((w.alloc o).alloc (.cells l.toArray e)).cell? ((⟨w.heap.size+1,0,none⟩:Addr).add j)=some u:=by have h:=fS (w.alloc o) l e (0,0);rw[World.size_alloc]at h;exact h
theorem uU (w:World) (cs:Array Value) (T:TypeId):aA (w.alloc (.cells cs T)).drew w.heap.size T cs:=aA.new w T cs
theorem rK (w:World) (cs:Array Value) (T:TypeId) (o:Obj):aA ((w.alloc (.cells cs T)).alloc o).drew w.heap.size T cs:=(aA.new w T cs).next ((Zc _ _).alloc (Zb _) _).drew
theorem sR (w:World) (cs:Array Value) (T:TypeId) (o:Obj):aA ((w.alloc o).alloc (.cells cs T)).drew (w.heap.size+1) T cs:=by have h:=aA.new (w.alloc o) T cs;rw[World.size_alloc]at h;exact h
theorem iA (w:World) (o:Obj):Below w.heap.size w (w.alloc o):=(Zc _ _).alloc (Zb _) _
theorem kN (w:World) (o o':Obj):Below w.heap.size w ((w.alloc o).alloc o').drew:=(((Zc _ _).alloc (Zb _) _).alloc (by simp) _).drew
theorem kP (w:World) (o:Obj):Below w.heap.size w (w.alloc o).drew:=((Zc _ _).alloc (Zb _) _).drew
theorem J7 {w:World} {B:Nat} {v:Value} {xs:List Int} {l:List UInt8} {m:Nat} (h:w.ownsRow B 5 1 v (xs.length+m) (xs.map (Value.int .u8)++Lib.strCells ⟨l.toArray⟩)) (hm:m=l.length):aH w B 5 .u8 v (xs++iH l):=by
 have e:Lib.strCells ⟨l.toArray⟩=(iH l).map (Value.int .u8):=by simp[Lib.strCells,iH]
 rw[e]at h;exact wP h (by rw[hm,rX])
def IT (w:World) (s:aX) (e:Ending) (w':World):Prop:=Below w.heap.size w w'∧∃v,e=.returned (.tuple #[v,.int .i64 0])∧aH w' w.heap.size 5 .u8 v (cI s)
theorem DI {w W W':World} {C:Array Value} {v v' u:Value} {L:List Int} {e:TypeId} {sz n:Nat} {xs:List Value} (he:e≠5) (h:W.ownsRow (w.heap.size+1) e sz u n xs) (hE:cK w C v L W) (hg:dR (w.heap.size+1) v v' W W'):W'.ownsRow (w.heap.size+1) e sz u n xs:=by
 refine oB h fun g hug=>?_;have hlt:=(h.lt g hug).2;refine hg.other g hlt fun hv=>?_;rcases hE.own.2 with⟨hv1,_⟩|⟨g1,cap1,cur1,hv1,_,hg1,_⟩
 ·rw[hv1]at hv;cases hv
 ·rcases h.2 with⟨hu1,_⟩|⟨g2,cap2,cur2,hu1,_,hg2,_⟩
  ·rw[hu1]at hug;cases hug
  ·rw[hv1]at hv;rw[hu1]at hug;injection hv with hv;injection hug with hug;simp only at hv hug;subst hv hug;rw[hg1]at hg2;injection hg2 with hg2;injection hg2 with _ h2;exact he h2.symm
structure jS (w W:World) (u:Value) (ts:List aO):Prop where
 ex:∃cs,W.ownsRow (w.heap.size+1) 100 2 u ts.length cs∧∀k,k<ts.length→∃vs vd,cs[k*2]?=some vs∧cs[k*2+1]?=some vd∧Rd w .i64 vs (aQ ts k).sh∧Rd w .i64 vd (aQ ts k).da
theorem jS.next {w W W':World} {u:Value} {ts:List aO} (h:jS w W u ts) (hb:Below W.heap.size W W'):jS w W' u ts:=by obtain⟨cs,h1,h2⟩:=h.ex;exact⟨cs,cF h1 hb (Zb _),h2⟩
theorem jS.put {w W W':World} {C:Array Value} {v v' u:Value} {L:List Int} {ts:List aO} (h:jS w W u ts) (hE:cK w C v L W) (hg:dR (w.heap.size+1) v v' W W'):jS w W' u ts:=by obtain⟨cs,h1,h2⟩:=h.ex;exact⟨cs,DI (by decide) h1 hE hg,h2⟩
theorem jS.slice {w W:World} {u:Value} {ts:List aO} (h:jS w W u ts):∃o c,u=.slice o ts.length c:=by obtain⟨cs,h1,h2⟩:=h.ex;obtain⟨o,cap,hv,_⟩:=iV h1;exact⟨o,cap,hv⟩
theorem jS.tens {w W:World} {o:Option Addr} {n c:Nat} {ts:List aO} (h:jS w W (.slice o n c) ts) (k:Nat) (hk:k<ts.length):
  ∃g vs vd,o=some ⟨g,0,none⟩∧W.cell? ⟨g,k*2,none⟩=some vs∧W.cell? ⟨g,k*2+1,none⟩=some vd∧Rd w .i64 vs (aQ ts k).sh∧Rd w .i64 vd (aQ ts k).da:=by
 obtain⟨cs,h1,h2⟩:=h.ex;obtain⟨vs,vd,g1,g2,g3,g4⟩:=h2 k hk;rcases h1.2 with⟨he,h0⟩|⟨g,cap',cur,he,_,hg,hcl,hle,h63,ht⟩
 ·omega
 ·injection he with e1 e2 e3;subst e1;have key:∀j u,cs[j]?=some u→W.cell? ⟨g,j,none⟩=some u:=fun j u hj=>by
   rw[cell_of_row W g j cur _ _ hg];rw[←ht,List.getElem?_take]at hj;split at hj
   ·simpa using hj
   ·cases hj
  exact⟨g,vs,vd,rfl,key _ _ g1,key _ _ g2,g3,g4⟩
theorem OR {w W:World} (g:Nat) (v0 v1:Value) (a b:List aO) (hW:Below w.heap.size w W) (hs:w.heap.size+1≤W.heap.size) (h0:W.cell? ⟨g,0,none⟩=some v0) (h1:W.cell? ⟨g,1,none⟩=some v1) (r0:aY w v0 a) (r1:aY w v1 b) (hm:a.length+b.length≤1000000):
  Calls Tryz.prog 45 #[.slice (some ⟨g,0,none⟩) 2 2] W fun e w'=>∃v,e=.returned v∧jS w w' v (a++b)∧Below W.heap.size W w':=by
 obtain⟨ca,ha,ga⟩:=r0.cells;obtain⟨cb,hb,gb⟩:=r1.cells;refine(MT g 0 2 _ _ v0 v1 ca cb W h0 h1 (ha.below hW (Zb _)) (hb.below hW (Zb _)) hm).mono ?_;rintro e w' ⟨⟨v,rfl,hown⟩,hbl⟩;refine⟨v,rfl,⟨ca++cb,by rw[Zl];exact cD hown hs,fun k hk=>?_⟩,hbl⟩;rw[Zl]at hk;by_cases h:k<a.length
 ·obtain⟨vs,vd,g1,g2,g3,g4⟩:=ga k h;rw[PK h];exact⟨vs,vd,by rw[List.getElem?_append_left (by rw[ha.len];omega)];exact g1,by rw[List.getElem?_append_left (by rw[ha.len];omega)];exact g2,g3,g4⟩
 ·obtain⟨vs,vd,g1,g2,g3,g4⟩:=gb (k-a.length) (by omega);rw[NG (by omega) hk];refine⟨vs,vd,?_,?_,g3,g4⟩
  ·rw[List.getElem?_append_right (by rw[ha.len];omega),ha.len,show k*2-a.length*2=(k-a.length)*2 by omega];exact g1
  ·rw[List.getElem?_append_right (by rw[ha.len];omega),ha.len,show k*2+1-a.length*2=(k-a.length)*2+1 by omega];exact g2
theorem Q7 {w W:World} (g:Nat) (v0 v1:Value) (a b:List Int) (hs:w.heap.size+1≤W.heap.size) (h0:W.cell? ⟨g,0,none⟩=some v0) (h1:W.cell? ⟨g,1,none⟩=some v1) (r0:Rd W .u64 v0 a) (r1:Rd W .u64 v1 b) (hm:a.length+b.length≤1000000):
  Calls Tryz.prog 46 #[.slice (some ⟨g,0,none⟩) 2 2] W fun e w'=>∃v,e=.returned v∧aH w' (w.heap.size+1) 40 .u64 v (a++b)∧Below W.heap.size W w':=by refine(MM g 0 2 _ _ v0 v1 _ _ W h0 h1 (iQ.of_rd r0) (iQ.of_rd r1) hm).mono ?_;rintro e w' ⟨⟨v,rfl,hown⟩,hbl⟩;refine⟨v,rfl,cD (B:=W.heap.size) (show aH w' W.heap.size 40 .u64 v (a++b)from ?_) hs,hbl⟩;rw[←List.map_append,←Zl]at hown;exact hown
theorem OX {w W:World} {C:Array Value} {v:Value} {L:List Int} (h:cK w C v L W) (n:Nat) (hn:n<18446744073709551616) (hl:L.length≤100000000000000):
  Calls Tryz.prog 47 #[v,.int .u64 n,.int .i64 8] W fun e w'=>∃v',e=.returned v'∧cK w C v' (L++bB n 8) w'∧dR (w.heap.size+1) v v' W w':=by refine(AF v L n 8 (w.heap.size+1) W h.own h.size hn (by omega) hl).mono ?_;rintro e w' ⟨v',rfl,ho,hg⟩;exact⟨v',rfl,h.put hg ho,hg⟩
theorem qL (a b:List aO):cB (a++b)=cB a++cB b:=by rw[cB,List.flatMap_append];rfl
theorem uE (ts:List aO) (k:Nat) (hk:k<ts.length):cB (ts.take (k+1))=cB (ts.take k)++bO 8 (aQ ts k).da:=by
 rw[List.take_succ_eq_append_getElem hk,qL,fE _ _ hk]
 congr 1
 show cB [ts[k]]=_
 rw[cB,List.flatMap_cons,List.flatMap_nil,List.append_nil];rfl
theorem NS (ts:List aO) (k:Nat):(cB (ts.take k)).length≤(cB ts).length:=by
 conv=>rhs;rw[←List.take_append_drop k ts,qL,Zl]
 omega
theorem DP (ts:List aO) (k:Nat) (hk:k<ts.length):(cB (ts.take k)).length+8*(aQ ts k).da.length≤(cB ts).length:=by have h:=NS ts (k+1);rw[uE ts k hk,Zl,iJ]at h;exact h
theorem oC (n:Nat) (h:n<18446744073709551616):bH (n:Int)=n:=by unfold bH;omega
theorem tK {x:Int} (h0:0≤x) (h1:x<256):bB (bH x) 1=[x]:=by obtain⟨n,rfl⟩:∃n:Nat,x=n:=⟨x.toNat,by omega⟩;rw[oC n (by omega)];simp[bB];omega
structure AO (s:aX):Prop where
 ps:s.ps.length≤400000∧(cB s.ps).length≤1000000000000
 m:s.m.m.length≤400000∧(cB s.m.m).length≤1000000000000
 v:s.m.v.length≤400000∧(cB s.m.v).length≤1000000000000
theorem oT.fit {s:aX} (h:oT s):AO s:=by have h1:=nX s.ps;have h2:=nX s.m.m;have h3:=nX s.m.v;have:=h.ps;have:=h.m;have:=h.v;exact⟨⟨by omega,by omega⟩,⟨by omega,by omega⟩,⟨by omega,by omega⟩⟩
theorem N5 (s:aX) (hf:0≤s.f∧s.f<256) (hk:0≤s.h.kind∧s.h.kind<256) (hc:0≤s.h.sched∧s.h.sched<256) (hd:(dT s.d).length≤2600) (hr:s.r.script.length≤5000) (ho:s.c.order.length≤5000):
  ((((((((((((([82,67,75,80,1,s.f]++bO 4 [((dT s.d).length:Int)])++iH (dT s.d))++[s.h.kind,s.h.sched])++bO 8 [s.h.rate,s.h.mu,s.h.nu,s.h.eps,s.h.decay,s.h.clip])++bO 4 [s.h.every])++cB s.ps)++bO 8 [s.m.powMu,s.m.powNu])++bO 4 [s.m.steps])++cB (s.m.m++s.m.v))++bO 4 [(s.r.script.length:Int)])++bO 8 (s.r.script++[s.r.s0,s.r.s1,s.r.s2,s.r.s3]))++bO 4 [(s.c.order.length:Int)])++bO 4 s.c.order)++bO 4 [s.c.at_,s.c.epoch]=gB s:=by rw[gB,mD,jZ,mT,mZ,nA,lM,kK,tK hf.1 hf.2,tK hk.1 hk.2,tK hc.1 hc.2,qL];simp only[bO,eG,kC,List.flatMap_cons,List.flatMap_nil,List.flatMap_append,List.append_assoc,List.append_nil,oC (dT s.d).length (by omega),oC s.r.script.length (by omega),oC s.c.order.length (by omega)];rfl
theorem IB {n:Nat} {a b c d:Int} (h:gK n a b c d=true):n≤4096:=by simp only[gK,Bool.and_eq_true,decide_eq_true_eq]at h;exact h.1
theorem O5 {W:World} {g:Nat} {T:TypeId} {cs:Array Value} {a b c d:Int} (h:aA W g T cs) (h0:cs[20]?=some (.int .u64 a)) (h1:cs[21]?=some (.int .u64 b)) (h2:cs[22]?=some (.int .u64 c)) (h3:cs[23]?=some (.int .u64 d)):Rd W .u64 (.slice (some ⟨g,20,none⟩) 4 4) [a,b,c,d]:=by
 refine⟨_,_,rfl,fun j hj=>⟨g,20,rfl,?_⟩⟩;have hj':j<4:=hj
 match j,hj' with
 |0,_=>exact h.cell 20 h0
 |1,_=>exact h.cell 21 h1
 |2,_=>exact h.cell 22 h2
 |3,_=>exact h.cell 23 h3
theorem JI {w:World} {B:Nat} {v:Value} {css:List (List Value)} {ts:List aO} (h:w.ownsRow B 100 2 v css.length css.flatten) (hl:css.length=ts.length)
  (hc:∀k,k<ts.length→∃vs vd,css[k]?=some [vs,vd]∧Rd w .i64 vs (aQ ts k).sh∧Rd w .i64 vd (aQ ts k).da):aY w v ts:=by
 rw[hl]at h;have h2:∀c∈css,c.length=2:=fun c hm=>by
  obtain⟨k,hk,rfl⟩:=List.getElem_of_mem hm;obtain⟨vs,vd,h1,_⟩:=hc k (by omega);rw[List.getElem?_eq_getElem hk]at h1;simp at h1;rw[h1];rfl
 refine aY.of_own h fun k hk=>?_;obtain⟨vs,vd,h1,hs,hd⟩:=hc k hk;have hk':k<css.length:=by omega
 rw[List.getElem?_eq_getElem hk']at h1;simp only[Option.some.injEq]at h1;refine⟨vs,vd,?_,?_,hs,hd⟩
 ·have:=oG css h2 k 0 hk' (by omega);rw[h1]at this
  simpa using this
 ·have:=oG css h2 k 1 hk' (by omega);rw[h1]at this
  simpa using this
structure mL (R:Nat) (w:World) (v:Value) (ss:List (List Int)):Prop where
 rd:fU w v ss
 own:v.ownBlock≠some R
theorem cP.rbox {w:World} {R:Nat} {rem:List Int} (h:cP w R rem):∃o n c,aA w R 128 #[.slice o n c]:=by obtain⟨o,cap,hb,_⟩:=h;exact⟨_,_,_,hb⟩
theorem R4 {w w':World} {R:Nat} {v:Value} {xs:List Int} {rem:List Int} (h:Rd w .i64 v xs) (hr:cP w R rem) (hm:aZ w w' R):Rd w' .i64 v xs:=by
 obtain⟨ro,rn,rc,hb⟩:=hr.rbox;obtain⟨o,cap,rfl,hc⟩:=h;refine⟨o,cap,rfl,fun j hj=>?_⟩;obtain⟨b,off,rfl,hcell⟩:=hc j hj;refine⟨b,off,rfl,?_⟩;by_cases e:b=R
 ·exfalso;subst e;rw[cell_of_row w b (off+j) _ _ _ hb]at hcell;rcases Nat.eq_zero_or_pos (off+j)with h0|h0
  ·rw[h0]at hcell;simp at hcell
  ·rw[Array.getElem?_eq_none (by simp;omega)]at hcell;cases hcell
 ·exact(World.cell?_of_block (w:=w) (a:=⟨b,off+j,none⟩) (gG hm (aP hcell) e)).trans hcell
theorem mL.moved {w w':World} {R:Nat} {v:Value} {ss:List (List Int)} {rem:List Int} (h:mL R w v ss) (hr:cP w R rem) (hm:aZ w w' R):mL R w' v ss:=by refine⟨?_,h.own⟩;have hown:=h.own;obtain⟨o,cap,rfl,hc⟩:=h.rd;refine⟨o,cap,rfl,fun k hk=>?_⟩;obtain⟨b,off,u,rfl,hcell,hrd⟩:=hc k hk;exact⟨b,off,u,rfl,(World.cell?_of_block (w:=w) (a:=⟨b,off+k,none⟩) (gG hm (aP hcell) (fun e=>hown (by subst e;rfl)))).trans hcell,R4 hrd hr hm⟩
structure gX (w0:World) (R:Nat) (ts:List aO) (v:Value) (w:World) (css:List (List Value)):Prop where
 len:css.length=ts.length
 rows:fK w0.heap.size 100 2 w v css (fun W=>∀j,j<ts.length→∃vs vd,css[j]?=some [vs,vd]∧Rd W .i64 vs (aQ ts j).sh∧Rd W .i64 vd (aQ ts j).da)
theorem gX.start (w:World) (R:Nat):gX w R [] (.slice none 0 0) w []:=⟨rfl,fK.nil _ _ _ _ (fun W j hj=>absurd hj (Nat.not_lt_zero j))⟩
theorem gX.row {w0 w:World} {R:Nat} {ts:List aO} {v:Value} {css:List (List Value)} (h:gX w0 R ts v w css):w.ownsRow w0.heap.size 100 2 v ts.length css.flatten:=by
 have:=h.rows.row
 rwa [h.len]at this
theorem gX.next {w0 w w1:World} {R:Nat} {ts:List aO} {v:Value} {css:List (List Value)} (h:gX w0 R ts v w css) (hm:aZ w w1 R) (hR:R<w0.heap.size):gX w0 R ts v w1 css:=
 ⟨h.len,mV h.rows.row hm hR,(h.rows.all.step fun k hk=>gG hm hk.1.2 (by have:=hk.1.1;omega)).mono fun k hk=>⟨⟨hk.1.1,Nat.lt_of_lt_of_le hk.1.2 hm.size⟩,hk.2⟩⟩
theorem xP {ts:List aO} {t:aO}:aQ (ts++[t]) ts.length=t∧∀j,j<ts.length→aQ (ts++[t]) j=aQ ts j:=by refine⟨by simp[aQ,List.getD_eq_getElem?_getD],fun j hj=>?_⟩;rw[aQ,aQ,List.getD_eq_getElem?_getD,List.getD_eq_getElem?_getD,List.getElem?_append_left hj]
theorem gX.snoc {w0 w1 w2:World} {R:Nat} {ts:List aO} {t:aO} {v v' us ud:Value} {o:Obj} {css:List (List Value)} (h:gX w0 R ts v w1 css) (hB:w0.heap.size≤w1.heap.size) (hs:aI (fun k=>aL w0.heap.size w1 k∧v.ownBlock≠some k) w1 fun W=>Rd W .i64 us t.sh∧Rd W .i64 ud t.da)
  (hrow:w2.ownsRow w0.heap.size 100 2 v' (ts.length+1) (css.flatten++[us,ud])) (hg:(w1.alloc o).grownBy w2 v.ownBlock) (hob:v'.ownBlock=v.ownBlock∨v'.ownBlock=some (w1.alloc o).heap.size):gX w0 R (ts++[t]) v' w2 (css++[[us,ud]]):=by
 have hl:=h.len;rw[←hl]at hrow;have h3:=h.rows.put hB hs hrow hg hob;refine⟨by simp[hl],h3.row,h3.all.imp fun W hW j hj=>?_⟩;rw[Zl,List.length_singleton]at hj;by_cases e:j<ts.length
 ·have:=hW.1 j e;rw[List.getElem?_append_left (by omega),xP.2 j e];exact this
 ·obtain rfl:j=ts.length:=by omega
  refine⟨us,ud,?_,?_⟩
  ·rw[List.getElem?_append_right (by omega),hl];simp
  ·rw[xP.1];exact hW.2
theorem gX.fin {w0 w:World} {R:Nat} {ts:List aO} {v:Value} {css:List (List Value)} (h:gX w0 R ts v w css):aI (aL w0.heap.size w) w (fun W=>aY W v ts):=
 h.rows.fin.imp fun W hW=>JI hW.1 h.len hW.2
theorem IG {ss:List (List Int)} {k:Nat} (hk:k<ss.length) {rem rest:List Int} {ts:List aO} (he:dB ss rem=(dB (ss.drop k) rest).map fun q=>(ts++q.1,q.2)):
  dB ss rem=(bP (bD ss[k]).toNat rest).bind fun p=>(dB (ss.drop (k+1)) p.2).map fun q=>((ts++[⟨ss[k],p.1⟩])++q.1,q.2):=by
 rw[he,List.drop_eq_getElem_cons hk,dB];cases bP (bD ss[k]).toNat rest with
 |none=>rfl
 |some p=>
  simp only[Option.bind_some,Option.map_map]
  congr 1
  funext q
  simp
theorem cR.grown {w0 w w1:World} {R:Nat} {rem:List Int} {e:TypeId} {s n:Nat} {v:Value} {xs:List Value} {o:Obj} (h:cR w0 w R rem) (ho:w.ownsRow w0.heap.size e s v n xs) (hg:(w.alloc o).grownBy w1 v.ownBlock):cR w0 w1 R rem:=
 h.low (B:=w0.heap.size) ((Zc w0.heap.size w |>.alloc h.moved.size o).grown hg (by have:=h.moved.size;simp;omega) fun k hk=>(ho.lt k hk).1) (Zb _)
theorem QT (R:Nat) (vl:Value) (ss:List (List Int)) (rem rest0:List Int) (ts0:List aO) (w:World) (hq:cR w w R rem) (hs:mL R w vl ss) (hok:∀s∈ss,bA s=true) (hl:ss.length≤1000) (hp:dB ss rem=some (ts0,rest0)):
  Calls Tryz.prog 79 #[.pointer (some ⟨R,0,none⟩),vl] w fun e w'=>∃v,e=.returned v∧aI (aL w.heap.size w') w' (fun W=>aY W v ts0)∧cR w w' R rest0:=by
 obtain⟨i0,hi,hz0,hz1,hz2⟩:=info_parts oF;obtain⟨o,cap,rfl,_⟩:=hs.rd;have HS:=Za hs;have HQ:=Za hq;have HOK:=Za hok;have HP:=Za hp;clear hs hq hok hp;go_enter Tryz.func79,Tryz.ntmps79;go_wp2;go_loopw[4,9] (fun u i wr=>∃(k:Nat) (ts:List aO) (rest:List Int),k≤ss.length∧i=.int .i64 k∧Hid (∃a c,u=.slice a k c)∧Hid (ts.length=k)∧Hid (cR w wr R rest)∧Hid (∃css,gX w R ts u wr css)∧Hid (dB ss rem=(dB (ss.drop k) rest).map fun q=>(ts++q.1,q.2))) (fun _ i _=>ss.length-(intOf i).toNat)
 case atStart=>exact⟨0,[],rem,Ze _,rfl,Za ⟨_,_,rfl⟩,Za rfl,HQ,Za ⟨_,gX.start _ _⟩,Za (by simp)⟩
 case round=>
  obtain⟨k,ts,rest,hk,rfl,HU,HTL,HR,HA0,HE⟩:=hrel;obtain⟨w5,rfl⟩:∃w5,w5=wr:=⟨_,rfl⟩;obtain⟨au,cu,hu⟩:=HU.o;subst hu;obtain⟨css,hA⟩:=HA0.o;have HA:=Za hA;clear HU HA0 hA;by_cases hlt:k<ss.length
  ·have hS5:=HS.o.moved HQ.o.at_ HR.o.moved;obtain⟨o',cap',he,hrow⟩:=hS5.rd;cases he;obtain⟨b,off,u,rfl,hcell,hrd⟩:=hrow k hlt;obtain⟨ou,cu2,rfl⟩:=aU hrd;have hshp:=HOK.o _ (List.getElem_mem hlt);have HST:=Za (IG hlt HE.o);obtain⟨sh,hsh⟩:∃sh,sh=ss[k]:=⟨_,rfl⟩;rw[←hsh]at hcell hrd hshp HST;have hsp:=hshp;simp only[bA,Bool.and_eq_true,decide_eq_true_eq]at hsp;obtain⟨⟨hs4,hsd⟩,hsp⟩:=hsp;have hpr:=(qE sh hsd).1;obtain⟨pn,hpn⟩:∃pn:Nat,bD sh=pn:=⟨(bD sh).toNat,by omega⟩;have hpnb:pn≤65536:=by omega
   rw[hpn,Int.toNat_natCast]at HST;cases hw:bP pn rest with
   |none=>exfalso;have:=HST.o;rw[hw,HP.o]at this;cases this
   |some p=>
    obtain⟨xs,rest2⟩:=p;have HST2:=Za (show dB ss rem=(dB (ss.drop (k+1)) rest2).map fun q=>((ts++[⟨sh,xs⟩])++q.1,q.2) by rw[HST.o,hw,Option.bind_some]);have HWP:=Za hw;have HRD:=Za hrd;have HSD:=Za hsd;have HPN:=Za hpn;clear hw hrd hsh hS5 hrow hsd hpn HST HE;go_wp2_with(first
     |(go_at_call 123;refine(rT _ sh _ HRD.o (by omega)).mono ?_;rintro e w6 ⟨⟨us,rfl,hus⟩,hb6⟩;have HUS:=Za hus;have HB6:=Za hb6;clear hus hb6)
     |(go_at_call 124;refine(pU _ sh _ (HRD.o.below HB6.o (Zb _)) HSD.o hs4).mono ?_;rintro e w7 ⟨rfl,hsm⟩;have HB7:=Za (HB6.o.trans ((hsm.below _).mono HB6.o.size));have HSM:=Za hsm;clear hsm)
     |(go_at_call 78;refine(yJ HPN.o (HR.o.low HB7.o HR.o.moved.size) (by omega) HWP.o).mono ?_;rintro e w8 ⟨⟨ud,rfl,hud⟩,hq8,hm8⟩;have HUD:=Za hud;have HQ8:=Za hq8;have HM8:=Za hm8;clear hud hq8 hm8;refine aD ?_))
    have HM58:=Za ((gI (R:=R) HB7.o).trans HM8.o);have HUS8:=Za (mV (cF (lE HUS.o HSM.o) (Zc _ _) (Zb _)) HM8.o (by have:=HQ.o.lt;have:=HR.o.moved.size;omega));obtain⟨os,cs,rfl⟩:=aJ HUS8.o;obtain⟨od,cd,rfl⟩:=aJ HUD.o;have HA8:=Za (HA.o.next HM58.o HQ.o.lt);have HLT:=Za (fun k e=>(HA.o.row.lt k e).2);have hs58:=HM58.o.size;have hs5:=HR.o.moved.size;have hs57:=HB7.o.size;have HTL5:=Za (show w8.ownsRow w.heap.size 100 2 (.slice au k cu) k css.flatten by have:=HA8.o.row;rwa [HTL.o]at this);have HH:=Za (show aI (fun k'=>aL w.heap.size w8 k'∧(Value.slice au k cu).ownBlock≠some k') w8 fun W=>Rd W .i64 (.slice os sh.length cs) sh∧Rd W .i64 (.slice od xs.length cd) xs from
     ((aI.own HUS8.o).mono fun k' hk'=>⟨⟨by have:=hk'.1;omega,hk'.2⟩,fun e=>by have:=HLT.o k' e;have:=hk'.1;omega⟩).and ((aI.own HUD.o).mono fun k' hk'=>⟨⟨by have:=hk'.1;omega,hk'.2⟩,fun e=>by have:=HLT.o k' e;have:=hk'.1;omega⟩))
    clear hcell;refine aC ?_;go_wp2_with(at_builtin;refine wpList_append_own_at _ rfl _ _ 36 rfl w.heap.size 100 i0 (.agg #[.slice none 0 0,.slice none 0 0]) 2 48 Tryz.underlying36 hi hz0 hz1 hz2 rfl (by decide) _ _ _ rfl (cF HTL5.o ((Zc _ _).alloc (Zb _) _) (Zb _)) ⟨w8.heap.size,0,none⟩ 1 1 [.slice os sh.length cs,.slice od xs.length cd] rfl rfl (fS _ _ _ _) (by simp[Value.oneCell']) (by unfold maxLen;omega) (by omega) (by simp;omega) ?_;intro v9 w9 ho9 hg9 hn9 hat9;refine aD ?_);have HA9:=Za (HA8.o.snoc (t:=⟨sh,xs⟩) (by omega) HH.o (by rw[HTL.o];exact ho9) hg9 hat9);have HQ9:=Za (show cR w w9 R rest2 from cR.grown (w0:=w) ⟨HQ8.o.at_,HQ8.o.wf,HQ8.o.len,HR.o.moved.trans HM58.o,HQ.o.lt⟩ HTL5.o hg9);obtain⟨a9,k9,rfl⟩:=aJ ho9;clear ho9 hg9 hn9 hat9;refine aC ?_;go_wp2;go_roundw
    case rel=>exact⟨k+1,ts++[⟨sh,xs⟩],rest2,by omega,by go_num,Za ⟨_,_,rfl⟩,Za (by rw[Zl,HTL.o];rfl),HQ9,Za ⟨_,HA9.o⟩,HST2⟩
    case measure=>simp[intOf];omega
  ·obtain rfl:k=ss.length:=by omega
   have HF:=Za (show ts=ts0∧rest=rest0 by
    have:=HE.o;rw[HP.o,List.drop_eq_nil_of_le (Zb _),dB]at this;simp at this;exact⟨this.1.symm,this.2.symm⟩)
   have HFF:=Za HA.o.fin;go_wp2;go_ret;exact⟨_,rfl,by rw[←HF.o.1];exact HFF.o,by rw[←HF.o.2];exact HR.o⟩
end Go.Proofs.YtjhkdocidcfpdaaGreatDoor
namespace Go.Proofs.YtjhkdocidcfpdaaGreatDoor
open Go.RowKit Go.ChangeShapes Go.WideShapes
theorem NW {H:Type} {enc:TypeId×Value→H} {P:Program} {w:World} {t e:TypeId} {n fuel:Nat} {cs:List Value} {x:DataW H×List MemPlace} (ht:P.underlying t=some (.array n e)) (h:DataW.trod enc P w 0 (fun _=>true) true fuel t cs=some x):
  ∃(xs:List (DataW H×List MemPlace)) (m:Nat),fuel=m+1∧x=(.agg (xs.map (·.1)),xs.flatMap (·.2))∧cs.length=P.cellsOf t∧xs.length=n∧
   ∀(i:Nat),i<n→DataW.trod enc P w 0 (fun _=>true) true m e ((cs.drop (i*P.cellsOf e)).take (P.cellsOf e))=xs[i]?:=by
 cases fuel with
 |zero=>simp[DataW.trod]at h
 |succ m=>
  unfold DataW.trod at h;rw[ht]at h;split at h<;>simp_all
  obtain⟨hl,xs,hp,hd⟩:=h;exact⟨xs,hd.symm,by simpa using mapM_some_length hp,fun i hi=>mapM_some_get hp i i (by simp[hi])⟩
theorem RB.array {H:Type} {enc:TypeId×Value→H} {P:Program} {w:World} {t e:TypeId} {n:Nat} {cs:List Value} (h:RB enc P w t cs) (ht:P.underlying t=some (.array n e)):
  cs.length=P.cellsOf t∧∀i,i<n→RB enc P w e ((cs.drop (i*P.cellsOf e)).take (P.cellsOf e)):=by
 obtain⟨fuel,d,pl,h,hw⟩:=h;obtain⟨xs,m,rfl,hx,hl,hxl,hf⟩:=NW ht h;refine⟨hl,fun i hi=>?_⟩;have hk:=hf i hi;have hil:i<xs.length:=by omega
 rw[List.getElem?_eq_getElem hil]at hk;refine⟨m,xs[i].1,xs[i].2,hk,fun n hn=>hw n ?_⟩;simp only[Prod.mk.injEq]at hx;rw[hx.1];simp only[DataW.weights,ht];exact uY (List.mem_map.2 ⟨xs[i],List.getElem_mem hil,rfl⟩) n hn
theorem QV:Tryz.prog.cellsOf 33=3:=by kernel_rfl
theorem GJ:Tryz.prog.cellsOf 35=9:=by kernel_rfl
theorem MJ:Tryz.prog.cellsOf 38=5:=by kernel_rfl
theorem I8:Tryz.prog.cellsOf 43=5:=by kernel_rfl
theorem GG:Tryz.prog.cellsOf 45=3:=by kernel_rfl
theorem wN:Tryz.prog.cellsOf 47=27:=by kernel_rfl
theorem QB:Tryz.prog.cellsOf 41=4:=by kernel_rfl
theorem P1:Tryz.prog.bytesOf 47=328:=by kernel_rfl
theorem FU {α:Type} {l:List α} (h:l.length=27):∃a0 a1 a2 a3 a4 a5 a6 a7 a8 a9 a10 a11 a12 a13 a14 a15 a16 a17 a18 a19 a20 a21 a22 a23 a24 a25 a26,l=[a0,a1,a2,a3,a4,a5,a6,a7,a8,a9,a10,a11,a12,a13,a14,a15,a16,a17,a18,a19,a20,a21,a22,a23,a24,a25,a26]:=match l,h with|[a0,a1,a2,a3,a4,a5,a6,a7,a8,a9,a10,a11,a12,a13,a14,a15,a16,a17,a18,a19,a20,a21,a22,a23,a24,a25,a26],_=>⟨a0,a1,a2,a3,a4,a5,a6,a7,a8,a9,a10,a11,a12,a13,a14,a15,a16,a17,a18,a19,a20,a21,a22,a23,a24,a25,a26,rfl⟩
theorem RB.state {H:Type} {enc:TypeId×Value→H} {w:World} {cs:List Value} (h:RB enc Tryz.prog w 47 cs):
  ∃s vi vl vp vm vv vr vc,cs=(cW s vi vl vp vm vv vr vc).toList∧eC w s vi vl vp vm vv vr vc∧jC s∧∀o n c,vi=.slice o n c→n≤c:=by
 obtain⟨hl,hf⟩:=h.field Tryz.underlying47;rw[wN]at hl;obtain⟨v0,v1,v2,v3,v4,v5,v6,v7,v8,v9,v10,v11,v12,v13,v14,v15,v16,v17,v18,v19,v20,v21,v22,v23,v24,v25,v26,rfl⟩:=FU hl;have f0:RB enc Tryz.prog w 3 (([v0,v1,v2,v3,v4,v5,v6,v7,v8,v9,v10,v11,v12,v13,v14,v15,v16,v17,v18,v19,v20,v21,v22,v23,v24,v25,v26]:List Value).drop 0 |>.take (Tryz.prog.cellsOf 3)):=hf 0 _ rfl;rw[jL]at f0;have f1:RB enc Tryz.prog w 33 (([v0,v1,v2,v3,v4,v5,v6,v7,v8,v9,v10,v11,v12,v13,v14,v15,v16,v17,v18,v19,v20,v21,v22,v23,v24,v25,v26]:List Value).drop 1 |>.take (Tryz.prog.cellsOf 33)):=hf 1 _ rfl;rw[QV]at f1;have f2:RB enc Tryz.prog w 35 (([v0,v1,v2,v3,v4,v5,v6,v7,v8,v9,v10,v11,v12,v13,v14,v15,v16,v17,v18,v19,v20,v21,v22,v23,v24,v25,v26]:List Value).drop 4 |>.take (Tryz.prog.cellsOf 35)):=hf 2 _ rfl;rw[GJ]at f2;have f3:RB enc Tryz.prog w 36 (([v0,v1,v2,v3,v4,v5,v6,v7,v8,v9,v10,v11,v12,v13,v14,v15,v16,v17,v18,v19,v20,v21,v22,v23,v24,v25,v26]:List Value).drop 13 |>.take (Tryz.prog.cellsOf 36)):=hf 3 _ rfl;rw[wT]at f3;have f4:RB enc Tryz.prog w 38 (([v0,v1,v2,v3,v4,v5,v6,v7,v8,v9,v10,v11,v12,v13,v14,v15,v16,v17,v18,v19,v20,v21,v22,v23,v24,v25,v26]:List Value).drop 14 |>.take (Tryz.prog.cellsOf 38)):=hf 4 _ rfl;rw[MJ]at f4;have f5:RB enc Tryz.prog w 43 (([v0,v1,v2,v3,v4,v5,v6,v7,v8,v9,v10,v11,v12,v13,v14,v15,v16,v17,v18,v19,v20,v21,v22,v23,v24,v25,v26]:List Value).drop 19 |>.take (Tryz.prog.cellsOf 43)):=hf 5 _ rfl;rw[I8]at f5;have f6:RB enc Tryz.prog w 45 (([v0,v1,v2,v3,v4,v5,v6,v7,v8,v9,v10,v11,v12,v13,v14,v15,v16,v17,v18,v19,v20,v21,v22,v23,v24,v25,v26]:List Value).drop 24 |>.take (Tryz.prog.cellsOf 45)):=hf 6 _ rfl;rw[GG]at f6;obtain⟨_,dh⟩:=RB.field (cs:=[v1,v2,v3]) f1 Tryz.underlying33;have d0:RB enc Tryz.prog w 30 (([v1,v2,v3]:List Value).drop 0 |>.take (Tryz.prog.cellsOf 30)):=dh 0 _ rfl;rw[tT]at d0;have d1:RB enc Tryz.prog w 31 (([v1,v2,v3]:List Value).drop 1 |>.take (Tryz.prog.cellsOf 31)):=dh 1 _ rfl;rw[D5]at d1;have d2:RB enc Tryz.prog w 3 (([v1,v2,v3]:List Value).drop 2 |>.take (Tryz.prog.cellsOf 3)):=dh 2 _ rfl;rw[jL]at d2;obtain⟨_,hh⟩:=RB.field (cs:=[v4,v5,v6,v7,v8,v9,v10,v11,v12]) f2 Tryz.underlying35;have h0:RB enc Tryz.prog w 3 (([v4,v5,v6,v7,v8,v9,v10,v11,v12]:List Value).drop 0 |>.take (Tryz.prog.cellsOf 3)):=hh 0 _ rfl;rw[jL]at h0;have h1:RB enc Tryz.prog w 2 (([v4,v5,v6,v7,v8,v9,v10,v11,v12]:List Value).drop 1 |>.take (Tryz.prog.cellsOf 2)):=hh 1 _ rfl;rw[lX]at h1;have h2:RB enc Tryz.prog w 2 (([v4,v5,v6,v7,v8,v9,v10,v11,v12]:List Value).drop 2 |>.take (Tryz.prog.cellsOf 2)):=hh 2 _ rfl;rw[lX]at h2;have h3:RB enc Tryz.prog w 2 (([v4,v5,v6,v7,v8,v9,v10,v11,v12]:List Value).drop 3 |>.take (Tryz.prog.cellsOf 2)):=hh 3 _ rfl;rw[lX]at h3;have h4:RB enc Tryz.prog w 2 (([v4,v5,v6,v7,v8,v9,v10,v11,v12]:List Value).drop 4 |>.take (Tryz.prog.cellsOf 2)):=hh 4 _ rfl;rw[lX]at h4;have h5:RB enc Tryz.prog w 2 (([v4,v5,v6,v7,v8,v9,v10,v11,v12]:List Value).drop 5 |>.take (Tryz.prog.cellsOf 2)):=hh 5 _ rfl;rw[lX]at h5;have h6:RB enc Tryz.prog w 2 (([v4,v5,v6,v7,v8,v9,v10,v11,v12]:List Value).drop 6 |>.take (Tryz.prog.cellsOf 2)):=hh 6 _ rfl;rw[lX]at h6;have h7:RB enc Tryz.prog w 3 (([v4,v5,v6,v7,v8,v9,v10,v11,v12]:List Value).drop 7 |>.take (Tryz.prog.cellsOf 3)):=hh 7 _ rfl;rw[jL]at h7;have h8:RB enc Tryz.prog w 3 (([v4,v5,v6,v7,v8,v9,v10,v11,v12]:List Value).drop 8 |>.take (Tryz.prog.cellsOf 3)):=hh 8 _ rfl;rw[jL]at h8;obtain⟨_,mh⟩:=RB.field (cs:=[v14,v15,v16,v17,v18]) f4 Tryz.underlying38;have m0:RB enc Tryz.prog w 36 (([v14,v15,v16,v17,v18]:List Value).drop 0 |>.take (Tryz.prog.cellsOf 36)):=mh 0 _ rfl;rw[wT]at m0;have m1:RB enc Tryz.prog w 36 (([v14,v15,v16,v17,v18]:List Value).drop 1 |>.take (Tryz.prog.cellsOf 36)):=mh 1 _ rfl;rw[wT]at m1;have m2:RB enc Tryz.prog w 2 (([v14,v15,v16,v17,v18]:List Value).drop 2 |>.take (Tryz.prog.cellsOf 2)):=mh 2 _ rfl;rw[lX]at m2;have m3:RB enc Tryz.prog w 2 (([v14,v15,v16,v17,v18]:List Value).drop 3 |>.take (Tryz.prog.cellsOf 2)):=mh 3 _ rfl;rw[lX]at m3;have m4:RB enc Tryz.prog w 3 (([v14,v15,v16,v17,v18]:List Value).drop 4 |>.take (Tryz.prog.cellsOf 3)):=mh 4 _ rfl;rw[jL]at m4;obtain⟨_,rh⟩:=RB.field (cs:=[v19,v20,v21,v22,v23]) f5 Tryz.underlying43;have r0:RB enc Tryz.prog w 39 (([v19,v20,v21,v22,v23]:List Value).drop 0 |>.take (Tryz.prog.cellsOf 39)):=rh 0 _ rfl;rw[OH]at r0;have r1:RB enc Tryz.prog w 41 (([v19,v20,v21,v22,v23]:List Value).drop 1 |>.take (Tryz.prog.cellsOf 41)):=rh 1 _ rfl;rw[QB]at r1;obtain⟨_,ch⟩:=RB.field (cs:=[v24,v25,v26]) f6 Tryz.underlying45;have c0:RB enc Tryz.prog w 30 (([v24,v25,v26]:List Value).drop 0 |>.take (Tryz.prog.cellsOf 30)):=ch 0 _ rfl;rw[tT]at c0;have c1:RB enc Tryz.prog w 3 (([v24,v25,v26]:List Value).drop 1 |>.take (Tryz.prog.cellsOf 3)):=ch 1 _ rfl;rw[jL]at c1;have c2:RB enc Tryz.prog w 3 (([v24,v25,v26]:List Value).drop 2 |>.take (Tryz.prog.cellsOf 3)):=ch 2 _ rfl;rw[jL]at c2;obtain⟨_,ah⟩:=RB.array (cs:=[v20,v21,v22,v23]) r1 Tryz.underlying41;rw[CK]at ah;have a0:RB enc Tryz.prog w 40 [v20]:=ah 0 (by omega);have a1:RB enc Tryz.prog w 40 [v21]:=ah 1 (by omega);have a2:RB enc Tryz.prog w 40 [v22]:=ah 2 (by omega);have a3:RB enc Tryz.prog w 40 [v23]:=ah 3 (by omega);obtain⟨f,rfl,_⟩:=RB.int (v:=v0) f0 Tryz.underlying3;obtain⟨loss,rfl,_⟩:=RB.int (v:=v3) d2 Tryz.underlying3;obtain⟨kind,rfl,_⟩:=RB.int (v:=v4) h0 Tryz.underlying3;obtain⟨rate,rfl,_⟩:=RB.int (v:=v5) h1 Tryz.underlying2;obtain⟨mu,rfl,_⟩:=RB.int (v:=v6) h2 Tryz.underlying2;obtain⟨nu,rfl,_⟩:=RB.int (v:=v7) h3 Tryz.underlying2;obtain⟨eps,rfl,_⟩:=RB.int (v:=v8) h4 Tryz.underlying2;obtain⟨decay,rfl,_⟩:=RB.int (v:=v9) h5 Tryz.underlying2;obtain⟨clip,rfl,_⟩:=RB.int (v:=v10) h6 Tryz.underlying2;obtain⟨sched,rfl,_⟩:=RB.int (v:=v11) h7 Tryz.underlying3;obtain⟨every,rfl,_⟩:=RB.int (v:=v12) h8 Tryz.underlying3;obtain⟨pm,rfl,_⟩:=RB.int (v:=v16) m2 Tryz.underlying2;obtain⟨pn,rfl,_⟩:=RB.int (v:=v17) m3 Tryz.underlying2;obtain⟨steps,rfl,_⟩:=RB.int (v:=v18) m4 Tryz.underlying3;obtain⟨s0,rfl,hs0⟩:=RB.int (v:=v20) a0 Tryz.underlying40;obtain⟨s1,rfl,hs1⟩:=RB.int (v:=v21) a1 Tryz.underlying40;obtain⟨s2,rfl,hs2⟩:=RB.int (v:=v22) a2 Tryz.underlying40;obtain⟨s3,rfl,hs3⟩:=RB.int (v:=v23) a3 Tryz.underlying40;obtain⟨at_,rfl,_⟩:=RB.int (v:=v25) c1 Tryz.underlying3;obtain⟨epoch,rfl,_⟩:=RB.int (v:=v26) c2 Tryz.underlying3;have hcap:∀o n c,v1=.slice o n c→n≤c:=by obtain⟨o,len,cap,he,_,_,hlc,_⟩:=RB.slice (v:=v1) d0 Tryz.underlying30;intro o2 n c h2;rw[he]at h2;injection h2 with _ h3 h4;omega
 obtain⟨inp,inpr,inpw,inpl⟩:=RB.ints (v:=v1) d0 Tryz.underlying30 Tryz.underlying3 jL;rw[uK]at inpl;unfold reachBytes at inpl;obtain⟨script,scriptr,scriptw,scriptl⟩:=RB.ints (v:=v19) r0 Tryz.underlying39 Tryz.underlying40 CK;rw[GX]at scriptl;unfold reachBytes at scriptl;obtain⟨order,orderr,orderw,orderl⟩:=RB.ints (v:=v24) c0 Tryz.underlying30 Tryz.underlying3 jL;rw[uK]at orderl;unfold reachBytes at orderl;obtain⟨lays,hlays,hlim⟩:=RB.layers (v:=v2) d1;obtain⟨ps,hps,lps⟩:=RB.tensors (v:=v13) f3;obtain⟨mm,hmm,lmm⟩:=RB.tensors (v:=v14) m0;obtain⟨mv,hmv,lmv⟩:=RB.tensors (v:=v15) m1;refine⟨⟨f,⟨inp,lays,loss⟩,⟨kind,rate,mu,nu,eps,decay,clip,sched,every⟩,ps,⟨mm,mv,pm,pn,steps⟩,⟨script,s0,s1,s2,s3⟩,⟨order,at_,epoch⟩⟩,v1,v2,v13,v14,v15,v19,v24,rfl,⟨⟨inpr,hlays,by show inp.length≤_;omega,hlim⟩,hps,hmm,hmv,scriptr,orderr,lps,lmm,lmv,by show script.length≤_;omega,by show order.length≤_;omega⟩,⟨scriptw,hs0,hs1,hs2,hs3⟩,hcap⟩
theorem LK {w:World} {b off:Nat} {cs:Array Value} (h:∀j v,cs.toList[j]?=some v→w.cell? ⟨b,off+j,none⟩=some v) (j:Nat) (v:Value) (hj:cs[j]?=some v):w.cell? ⟨b,off+j,none⟩=some v:=h j v (by simpa using hj)
theorem RB.states {H:Type} {enc:TypeId×Value→H} {w:World} {v:Value} (h:RB enc Tryz.prog w 61 [v]):
  ∃o len cap,v=.slice o len cap∧len≤140737488351232∧∀i,i<len→∃b off s vi vl vp vm vv vr vc,o=some ⟨b,off,none⟩∧(∀j u,(cW s vi vl vp vm vv vr vc)[j]?=some u→w.cell? ⟨b,off+i*27+j,none⟩=some u)∧eC w s vi vl vp vm vv vr vc∧jC s∧∀o n c,vi=.slice o n c→n≤c:=by obtain⟨o,len,cap,rfl,hr,hel⟩:=h.rows Tryz.underlying61 (by rw[wN];omega);rw[P1]at hr;unfold reachBytes at hr;refine⟨o,len,cap,rfl,by omega,fun i hi=>?_⟩;obtain⟨b,off,cs,rfl,hl,hrb,hcell⟩:=hel i hi;rw[wN]at hcell;obtain⟨s,vi,vl,vp,vm,vv,vr,vc,rfl,h1,h2,h3⟩:=hrb.state;exact⟨b,off,s,vi,vl,vp,vm,vv,vr,vc,rfl,LK hcell,h1,h2,h3⟩
end Go.Proofs.YtjhkdocidcfpdaaGreatDoor
