/- A part of the proof. -/
import Derived.Test.YtjhkdocidcfpdaaGreatDoorEN27
import Derived.Test.YtjhkdocidcfpdaaGreatDoorEN28
import Derived.Test.YtjhkdocidcfpdaaGreatDoorEN31
set_option linter.unusedVariables false
set_option linter.unusedSimpArgs false
set_option maxRecDepth 100000
set_option maxHeartbeats 16000000
open List renaming setIfInBounds_toArray → Zf, set_cons_zero → Zg, set_cons_succ → Zh, length_append → Zl
namespace Go.Proofs.YtjhkdocidcfpdaaGreatDoor
open Go.RowKit Go.Shelf Go
theorem CA {s:aT} {l:List (List Int)} (h:dT s.d=some l):cX s=(eE s.f&&(eT s.h s.f&&(s.ps.all cK&&(decide (bK s.ps=l)&&(dZ s.h s.m s.ps s.f&&(gQ s.r.script.length s.r.s0 s.r.s1 s.r.s2 s.r.s3&&dX s.c.order s.c.at_ s.c.epoch s.c.order.length)))))):=by rw[cX,h]
theorem vS {s:aT} (h:dT s.d=none):cX s=false:=by rw[cX,h]
theorem tZ (s:aT) (vi vl vp vm vv vr vc:Value) (w:World) (hr:dN w s vi vl vp vm vv vr vc) (aa:∀o n c,vi=.slice o n c->n<=c):
  Calls Tryz.prog 28 #[.agg (cG s vi vl vp vm vv vr vc)] w fun e w'=>e=.returned (.bool (cX s))/\Below w.heap.size w w':=by
 obtain⟨o1,c1,o2,c2,o3,c3,o4,c4,o5,c5,o6,c6,o7,c7,rfl,rfl,rfl,rfl,rfl,rfl,rfl⟩:=hr.slices;have hci':=aa _ _ _ rfl;have D:=Za hr;obtain⟨W,hW⟩:=Zx (w.alloc (.cells (dJ s o1 c1 o2 c2 o3 c3 o4 c4 o5 c5 o6 c6 o7 c7) 47));have ab:aA W w.heap.size 47 (dJ s o1 c1 o2 c2 o3 c3 o4 c4 o5 c5 o6 c6 o7 c7):=by rw[hW];exact aA.new _ _ _
 have ac:Below w.heap.size w W:=by rw[hW];exact(Zc _ _).alloc (Zb _) _
 have R:=Za (Zd ab ac);have HW:=Za hW;simp only[cG];clear hr aa ab ac hW;go_enter Tryz.func28,Tryz.ntmps28;go_wp2_with(go_at_call 77;rw[<-HW.o];refine(SE _ _ _ _ s.d _ (D.o.below R.o.2 (Zb _)).d hci').mono ?_;rintro e w1 ⟨A,(⟨hn,v,rfl⟩|⟨v,l,hn,aq,rfl,V⟩)⟩<;>refine aD ?_)
 all_goals have I:=Za (Zd (R.o.1.next A) (R.o.2.trans (A.mono R.o.2.size)))
 ·have P:=Za (vS hn);clear hn A;refine aC ?_;go_wp2;go_ret;exact⟨aG (by rw[P.o]),I.o.2⟩
 have P:=Za (CA hn);have HL:=Za V;obtain⟨ol,cl,rfl⟩:=V.slice;clear hn A V;obtain⟨x0,x1,x2,x3,x4,x5,x6,x7,x8,x9,x10,x11,x12,x13,x14,x15,x16,x17,x18,x19,x20,x21,x22,x23,x24,x25,x26⟩:=I.o.1.r27;refine aC ?_;go_wp2_with(go_at_call 74;refine(yO s.f _).mono ?_;rintro e w2 ⟨rfl,ad⟩;refine aD ?_);have A:Below w1.heap.size w1 w2:=ad.below _;have J:=Za (Zd (I.o.1.next A) (I.o.2.trans (A.mono I.o.2.size)));have ai:=Za (HL.o.next A);clear x0 x1 x2 x3 x4 x5 x6 x7 x8 x9 x10 x11 x12 x13 x14 x15 x16 x17 x18 x19 x20 x21 x22 x23 x24 x25 x26;clear A ad;obtain⟨x0,x1,x2,x3,x4,x5,x6,x7,x8,x9,x10,x11,x12,x13,x14,x15,x16,x17,x18,x19,x20,x21,x22,x23,x24,x25,x26⟩:=J.o.1.r27;refine aC ?_;cases p0:eE s.f with
 |false=>
  have Dp0:=Za p0;clear p0;go_wp2;go_ret;exact⟨aG (by rw[P.o];simp[Dp0.o]),J.o.2⟩
 |true=>
  have Dp0:=Za p0;clear p0;go_wp2_with(go_at_call 80;refine(JI s.h s.f _).mono ?_;rintro e w3 ⟨rfl,A⟩;refine aD ?_);have E:=Za (Zd (J.o.1.next A) (J.o.2.trans (A.mono J.o.2.size)));clear x0 x1 x2 x3 x4 x5 x6 x7 x8 x9 x10 x11 x12 x13 x14 x15 x16 x17 x18 x19 x20 x21 x22 x23 x24 x25 x26;have aj:=Za (ai.o.next A);clear A;obtain⟨x0,x1,x2,x3,x4,x5,x6,x7,x8,x9,x10,x11,x12,x13,x14,x15,x16,x17,x18,x19,x20,x21,x22,x23,x24,x25,x26⟩:=E.o.1.r27;refine aC ?_;cases p1:eT s.h s.f with
  |false=>
   have Dp1:=Za p1;clear p1;go_wp2;go_ret;exact⟨aG (by rw[P.o];simp[Dp0.o,Dp1.o]),E.o.2⟩
  |true=>
   have Dp1:=Za p1;clear p1;by_cases C:s.ps.length=l.length;rotate_left
   ·have ak:((s.ps.length:Int) != (l.length:Int))=true:=by simp;omega
    have DN:=Za (show decide (bK s.ps=l)=false from decide_eq_false fun h=>C (by rw[<-h,bK,List.length_map]));clear C;go_wp2;go_ret;exact⟨aG (by rw[P.o];simp[Dp0.o,Dp1.o,DN.o]),E.o.2⟩
   have ak:((s.ps.length:Int) != (l.length:Int))=false:=by simp[C]
   have G:=Za C;clear C;go_wp2_with(go_at_call 81;refine(vK _ s.ps _ (D.o.below E.o.2 (Zb _)).ps D.o.lps).mono ?_;rintro e w4 ⟨rfl,A⟩;refine aD ?_);have L:=Za (Zd (E.o.1.next A) (E.o.2.trans (A.mono E.o.2.size)));clear x0 x1 x2 x3 x4 x5 x6 x7 x8 x9 x10 x11 x12 x13 x14 x15 x16 x17 x18 x19 x20 x21 x22 x23 x24 x25 x26;have al:=Za (aj.o.next A);clear A;obtain⟨x0,x1,x2,x3,x4,x5,x6,x7,x8,x9,x10,x11,x12,x13,x14,x15,x16,x17,x18,x19,x20,x21,x22,x23,x24,x25,x26⟩:=L.o.1.r27;refine aC ?_;cases p2:s.ps.all cK with
   |false=>
    have Dp2:=Za p2;clear p2;go_wp2;go_ret;exact⟨aG (by rw[P.o];simp[Dp0.o,Dp1.o,Dp2.o]),L.o.2⟩
   |true=>
    have Dp2:=Za p2;clear p2;have ar:=D.o.lps.1;go_wp2;go_loopw[46] (fun i wr=>∃k:Nat,k<=s.ps.length/\i=.int .i64 k/\Hid (∀j,j<k->(aR s.ps j).sh=l.getD j [])/\Below w4.heap.size w4 wr) (fun i _=>s.ps.length-(intOf i).toNat)
    case atStart=>exact⟨0,Ze _,rfl,Za fun j hj=>absurd hj (Nat.not_lt_zero _),Zc _ _⟩
    case round=>
     obtain⟨k,hk,rfl,HA,T⟩:=hrel;have X:=Za T;have B:=Za (Zd (L.o.1.next T) (L.o.2.trans (T.mono L.o.2.size)));clear T x0 x1 x2 x3 x4 x5 x6 x7 x8 x9 x10 x11 x12 x13 x14 x15 x16 x17 x18 x19 x20 x21 x22 x23 x24 x25 x26;by_cases F:k<s.ps.length
     ·obtain⟨b,off,vs,vd,rfl,c0,c1,hs,hd⟩:=(D.o.ps.below B.o.2 (Zb _)).tens k F;obtain⟨b2,off2,u,rfl,d0,H⟩:=(al.o.below X.o (Zb _)).at k (by rw[<-G.o];exact F);have HS:=Za hs;have ao:=Za (D.o.lps.2 _ (jR s.ps k F));obtain⟨lk,Y⟩:=Zx (l[k]'(by rw[<-G.o];exact F));have HG:=Za (show l.getD k []=lk by rw[Y,List.getD_eq_getElem?_getD,List.getElem?_eq_getElem];rfl);rw[<-Y]at H;have HD:=Za H;obtain⟨a5,k5,rfl⟩:=aU hs;obtain⟨a6,k6,rfl⟩:=aU hd;obtain⟨a7,k7,rfl⟩:=aU H;have ae:∀o:Obj,(wr.alloc o).cell? ⟨b2,off2+k,none⟩=some (.slice a7 lk.length k7):=fun o=>aX ((Zc _ _).alloc (Zb _) o) d0;have au:k<l.length:=by rw[<-G.o];exact F
      clear hs hd H Y;obtain⟨W5,M⟩:=Zx (wr.alloc (.cells #[.slice a5 (aR s.ps k).sh.length k5,.slice a6 (aR s.ps k).da.length k6] 100));have af:Below wr.heap.size wr W5:=by rw[M];exact(Zc _ _).alloc (Zb _) _
      have ag:aA W5 wr.heap.size 100 #[.slice a5 (aR s.ps k).sh.length k5,.slice a6 (aR s.ps k).da.length k6]:=by rw[M];exact aA.new _ _ _
      have z0:=ag.q 0 rfl;have z1:W5.cell? ⟨b2,off2+k,none⟩=some (.slice a7 lk.length k7):=by rw[M];exact ae _
      have U:=Za af;have ah:=Za M;have HE:=Za fun(r:Bool) (h:decide ((aR s.ps k).sh=lk)=r) (m:Nat)=>(show Calls Tryz.prog 82 #[.slice a5 (aR s.ps k).sh.length k5,.slice a7 lk.length k7] (W5.drewN m) fun e w'=>e=.returned (.bool r)/\∃k,w'=(W5.drewN m).drewN k by
       rw[<-h];exact wS _ _ _ _ _ ((HS.o.below U.o (Zb _)).same ⟨_,rfl⟩) ((HD.o.below U.o (Zb _)).same ⟨_,rfl⟩) ao.o.1)
      clear ag af ae d0 M;cases hq:decide ((aR s.ps k).sh=lk)with
      |false=>
       have HQ:=Za hq;have DN:=Za (show decide (bK s.ps=l)=false from decide_eq_false fun h=>by
        refine of_decide_eq_false hq ?_;rw[<-HG.o,<-h,bK,List.getD_eq_getElem?_getD,List.getElem?_map,List.getElem?_eq_getElem F,eY _ _ F];rfl)
       have Z:=Za (B.o.2.trans (U.o.mono B.o.2.size));clear hq;go_wp2;rw[<-ah.o];go_quiet(first|(go_at_call 82;exact Calls.quiet_of (HE.o _ HQ.o _)));go_wp2;go_ret;exact⟨aG (by rw[P.o];simp[Dp0.o,Dp1.o,Dp2.o,DN.o]),below_drewN Z.o _⟩
      |true=>
       have HQ:=Za hq;have Z:=Za (X.o.trans (U.o.mono X.o.size));clear hq;go_wp2;rw[<-ah.o];go_quiet(first|(go_at_call 82;exact Calls.quiet_of (HE.o _ HQ.o _)));go_wp2;go_roundw
       case rel=>exact⟨k+1,by omega,by go_num,Za (fun j hj=>by rcases Nat.lt_succ_iff_lt_or_eq.1 hj with h|h;exact HA.o j h;rw[h,HG.o];exact of_decide_eq_true HQ.o),below_drewN Z.o _⟩
       case measure=>simp[intOf];omega
     ·obtain rfl:k=s.ps.length:=by omega
      have DN:=Za (show decide (bK s.ps=l)=true from decide_eq_true (by
       apply List.ext_getElem
       ·rw[bK,List.length_map];exact G.o
       ·intro j h1 h2;have hj:j<s.ps.length:=by simpa [bK]using h1
        have:=HA.o j hj;rw[eY _ _ hj,List.getD_eq_getElem?_getD,List.getElem?_eq_getElem h2]at this
        simpa [bK]using this))
      obtain⟨x0,x1,x2,x3,x4,x5,x6,x7,x8,x9,x10,x11,x12,x13,x14,x15,x16,x17,x18,x19,x20,x21,x22,x23,x24,x25,x26⟩:=B.o.1.r27;go_wp2_with(go_at_call 83;refine(IS s.h s.m s.ps s.f _ _ _ _ (nB Dp0.o) (D.o.below B.o.2 (Zb _)).m (D.o.below B.o.2 (Zb _)).v (D.o.below B.o.2 (Zb _)).ps D.o.lm D.o.lv D.o.lps).mono ?_;rintro e w5 ⟨rfl,A⟩;refine aD ?_);have N:=Za (Zd (B.o.1.next A) (B.o.2.trans (A.mono B.o.2.size)));clear x0 x1 x2 x3 x4 x5 x6 x7 x8 x9 x10 x11 x12 x13 x14 x15 x16 x17 x18 x19 x20 x21 x22 x23 x24 x25 x26 A;obtain⟨x0,x1,x2,x3,x4,x5,x6,x7,x8,x9,x10,x11,x12,x13,x14,x15,x16,x17,x18,x19,x20,x21,x22,x23,x24,x25,x26⟩:=N.o.1.r27;refine aC ?_;cases p3:dZ s.h s.m s.ps s.f with
      |false=>
       have Dp3:=Za p3;clear p3;go_wp2;go_ret;exact⟨aG (by rw[P.o];simp[Dp0.o,Dp1.o,Dp2.o,DN.o,Dp3.o]),N.o.2⟩
      |true=>
       have Dp3:=Za p3;clear p3;go_wp2_with(go_at_call 84;refine(P2 _ _ _ _ _ _ _ _ D.o.lr).mono ?_;rintro e w6 ⟨rfl,A⟩;refine aD ?_);have O:=Za (Zd (N.o.1.next A) (N.o.2.trans (A.mono N.o.2.size)));clear x0 x1 x2 x3 x4 x5 x6 x7 x8 x9 x10 x11 x12 x13 x14 x15 x16 x17 x18 x19 x20 x21 x22 x23 x24 x25 x26 A;obtain⟨x0,x1,x2,x3,x4,x5,x6,x7,x8,x9,x10,x11,x12,x13,x14,x15,x16,x17,x18,x19,x20,x21,x22,x23,x24,x25,x26⟩:=O.o.1.r27;refine aC ?_;cases p4:gQ s.r.script.length s.r.s0 s.r.s1 s.r.s2 s.r.s3 with
       |false=>
        have Dp4:=Za p4;clear p4;go_wp2;go_ret;exact⟨aG (by rw[P.o];simp[Dp0.o,Dp1.o,Dp2.o,DN.o,Dp3.o,Dp4.o]),O.o.2⟩
       |true=>
        have Dp4:=Za p4;clear p4;go_wp2_with(go_at_call 85;refine(TQ _ s.c.order s.c.at_ s.c.epoch s.c.order.length _ (D.o.below O.o.2 (Zb _)).c D.o.lc D.o.lc).mono ?_;rintro e w7 ⟨rfl,A⟩;refine aD ?_);have ap:=Za (O.o.2.trans (A.mono O.o.2.size));clear x0 x1 x2 x3 x4 x5 x6 x7 x8 x9 x10 x11 x12 x13 x14 x15 x16 x17 x18 x19 x20 x21 x22 x23 x24 x25 x26 A;refine aC ?_;go_wp2
        all_goals
         go_ret;exact⟨aG (by rw[P.o];simp[Dp0.o,Dp1.o,Dp2.o,DN.o,Dp3.o,Dp4.o, *]),ap.o⟩
theorem VR {w:World} {B:Nat} {v:Value} {css:List (List Value)} {ts:List aO} (h:w.ownsRow B 100 2 v css.length css.flatten) (hl:css.length=ts.length)
  (hc:∀k,k<ts.length->∃vs vd,css[k]?=some [vs,vd]/\Rd w .i64 vs (aR ts k).sh/\Rd w .i64 vd (aR ts k).da):bD w v ts:=by
 rw[hl]at h;have h2:∀c∈css,c.length=2:=fun c hm=>by
  obtain⟨k,hk,rfl⟩:=List.getElem_of_mem hm;obtain⟨vs,vd,A,_⟩:=hc k (by omega);rw[List.getElem?_eq_getElem hk]at A;simp at A;rw[A];rfl
 refine bD.of_own h fun k hk=>?_;obtain⟨vs,vd,A,hs,hd⟩:=hc k hk;have hk':k<css.length:=by omega
 rw[List.getElem?_eq_getElem hk']at A;simp only[Option.some.injEq]at A;refine⟨vs,vd,?_,?_,hs,hd⟩
 ·have:=lW css h2 k 0 hk' (by omega);rw[A]at this
  simpa using this
 ·have:=lW css h2 k 1 hk' (by omega);rw[A]at this
  simpa using this
structure nR (R:Nat) (w:World) (v:Value) (ss:List (List Int)):Prop where
 rd:gF w v ss
 own:v.ownBlock≠some R
theorem cT.rbox {w:World} {R:Nat} {rem:List Int} (h:cT w R rem):∃o n c,aA w R 128 #[.slice o n c]:=by obtain⟨o,cap,hb,_⟩:=h;exact⟨_,_,_,hb⟩
theorem QB {w w':World} {R:Nat} {v:Value} {xs:List Int} {rem:List Int} (h:Rd w .i64 v xs) (hr:cT w R rem) (hm:bB w w' R):Rd w' .i64 v xs:=by
 obtain⟨ro,rn,rc,hb⟩:=hr.rbox;obtain⟨o,cap,rfl,hc⟩:=h;refine⟨o,cap,rfl,fun j hj=>?_⟩;obtain⟨b,off,rfl,A⟩:=hc j hj;refine⟨b,off,rfl,?_⟩;by_cases e:b=R
 ·exfalso;subst e;rw[cell_of_row w b (off+j) _ _ _ hb]at A;rcases Nat.eq_zero_or_pos (off+j)with h0|h0
  ·rw[h0]at A;simp at A
  ·rw[Array.getElem?_eq_none (by simp;omega)]at A;cases A
 ·exact(World.cell?_of_block (w:=w) (a:=⟨b,off+j,none⟩) (gP hm (aP A) e)).trans A
theorem nR.moved {w w':World} {R:Nat} {v:Value} {ss:List (List Int)} {rem:List Int} (h:nR R w v ss) (hr:cT w R rem) (hm:bB w w' R):nR R w' v ss:=by refine⟨?_,h.own⟩;have B:=h.own;obtain⟨o,cap,rfl,hc⟩:=h.rd;refine⟨o,cap,rfl,fun k hk=>?_⟩;obtain⟨b,off,u,rfl,A,C⟩:=hc k hk;exact⟨b,off,u,rfl,(World.cell?_of_block (w:=w) (a:=⟨b,off+k,none⟩) (gP hm (aP A) (fun e=>B (by subst e;rfl)))).trans A,QB C hr hm⟩
def uR (W:World) (vs vd:Value) (t:aO):Prop:=(aH W 0 3 .i64 vs t.sh/\aH W 0 2 .i64 vd t.da)/\t.sh.length<=1000000/\t.da.length<=1000000
structure iK (w0:World) (R:Nat) (ts:List aO) (v:Value) (w:World) (css:List (List Value)):Prop where
 len:css.length=ts.length
 rows:fM w0.heap.size 100 2 w v css (fun W=>∀j,j<ts.length->∃vs vd,css[j]?=some [vs,vd]/\uR W vs vd (aR ts j))
theorem iK.start (w:World) (R:Nat):iK w R [] (.slice none 0 0) w []:=⟨rfl,fM.nil _ _ _ _ (fun W j hj=>absurd hj (Nat.not_lt_zero j))⟩
theorem iK.row {w0 w:World} {R:Nat} {ts:List aO} {v:Value} {css:List (List Value)} (h:iK w0 R ts v w css):w.ownsRow w0.heap.size 100 2 v ts.length css.flatten:=by
 have:=h.rows.row
 rwa [h.len]at this
theorem iK.next {w0 w w1:World} {R:Nat} {ts:List aO} {v:Value} {css:List (List Value)} (h:iK w0 R ts v w css) (hm:bB w w1 R) (hR:R<w0.heap.size):iK w0 R ts v w1 css:=
 ⟨h.len,nM h.rows.row hm hR,(h.rows.all.step fun k A=>gP hm A.1.2 (by have:=A.1.1;omega)).mono fun k A=>⟨⟨A.1.1,Nat.lt_of_lt_of_le A.1.2 hm.size⟩,A.2⟩⟩
theorem CY {ts:List aO} {t:aO}:aR (ts++[t]) ts.length=t/\∀j,j<ts.length->aR (ts++[t]) j=aR ts j:=by refine⟨by simp[aR,List.getD_eq_getElem?_getD],fun j hj=>?_⟩;rw[aR,aR,List.getD_eq_getElem?_getD,List.getD_eq_getElem?_getD,List.getElem?_append_left hj]
theorem iK.snoc {w0 w1 w2:World} {R:Nat} {ts:List aO} {t:aO} {v v' us ud:Value} {o:Obj} {css:List (List Value)} (h:iK w0 R ts v w1 css) (hB:w0.heap.size<=w1.heap.size) (hs:aI (fun k=>aL w0.heap.size w1 k/\v.ownBlock≠some k) w1 fun W=>uR W us ud t)
  (A:w2.ownsRow w0.heap.size 100 2 v' (ts.length+1) (css.flatten++[us,ud])) (hg:(w1.alloc o).grownBy w2 v.ownBlock) (B:v'.ownBlock=v.ownBlock\/v'.ownBlock=some (w1.alloc o).heap.size):iK w0 R (ts++[t]) v' w2 (css++[[us,ud]]):=by
 have hl:=h.len;rw[<-hl]at A;have h3:=h.rows.put hB hs A hg B;refine⟨by simp[hl],h3.row,h3.all.imp fun W hW j hj=>?_⟩;rw[Zl,List.length_singleton]at hj;by_cases e:j<ts.length
 ·have:=hW.1 j e;rw[List.getElem?_append_left (by omega),CY.2 j e];exact this
 ·obtain rfl:j=ts.length:=by omega
  refine⟨us,ud,?_,?_⟩
  ·rw[List.getElem?_append_right (by omega),hl];simp
  ·rw[CY.1];exact hW.2
theorem iK.fin {w0 w:World} {R:Nat} {ts:List aO} {v:Value} {css:List (List Value)} (hn:ts.length<=1000000) (h:iK w0 R ts v w css):aI (aL w0.heap.size w) w (fun W=>lP W v ts):=
 (h.rows.fin.and (aI.mono (fun W A=>bY (mW h.rows.row fun g hg=>A g (h.rows.row.lt g hg)) (Ze _):aI (aL w0.heap.size w) w fun W=>W.ownsRow 0 100 2 v css.length css.flatten) fun k hk=>hk)).imp fun W A=>
  ⟨VR A.1.1 h.len fun k hk=>by
   obtain⟨vs,vd,h1,h2,_⟩:=A.1.2 k hk;exact⟨vs,vd,h1,Rd.of_own h2.1,Rd.of_own h2.2⟩,TG A.2 (by rw[h.len];exact hn) fun j hj=>by
   obtain⟨vs,vd,h1,h2,h3⟩:=A.1.2 j (by rw[<-h.len];exact hj);exact⟨vs,vd,h1,⟨_,h2.1,h3.1⟩,⟨_,h2.2,h3.2⟩⟩⟩
theorem GR {ss:List (List Int)} {k:Nat} (hk:k<ss.length) {rem rest:List Int} {ts:List aO} (he:dH ss rem=(dH (ss.drop k) rest).map fun q=>(ts++q.1,q.2)):
  dH ss rem=(bT (bG ss[k]).toNat rest).bind fun p=>(dH (ss.drop (k+1)) p.2).map fun q=>((ts++[⟨ss[k],p.1⟩])++q.1,q.2):=by
 rw[he,List.drop_eq_getElem_cons hk,dH];cases bT (bG ss[k]).toNat rest with
 |none=>rfl
 |some p=>
  simp only[Option.bind_some,Option.map_map]
  congr 1
  funext q
  simp
theorem cV.grown {w0 w w1:World} {R:Nat} {rem:List Int} {e:TypeId} {s n:Nat} {v:Value} {xs:List Value} {o:Obj} (h:cV w0 w R rem) (ho:w.ownsRow w0.heap.size e s v n xs) (hg:(w.alloc o).grownBy w1 v.ownBlock):cV w0 w1 R rem:=
 h.low (B:=w0.heap.size) ((Zc w0.heap.size w |>.alloc h.moved.size o).grown hg (by have:=h.moved.size;simp;omega) fun k hk=>(ho.lt k hk).1) (Zb _)
theorem KB (R:Nat) (vl:Value) (ss:List (List Int)) (rem rest0:List Int) (ts0:List aO) (w:World) (hq:cV w w R rem) (hs:nR R w vl ss) (Z:∀s∈ss,bA s=true) (hl:ss.length<=1000) (hp:dH ss rem=some (ts0,rest0)):
  Calls Tryz.prog 79 #[.pointer (some ⟨R,0,none⟩),vl] w fun e w'=>∃v,e=.returned v/\aI (aL w.heap.size w') w' (fun W=>lP W v ts0)/\cV w w' R rest0:=by
 obtain⟨i0,hi,aq,ar,av⟩:=info_parts pE;obtain⟨o,cap,rfl,_⟩:=hs.rd;have HS:=Za hs;have HQ:=Za hq;have aw:=Za Z;have HP:=Za hp;clear hs hq Z hp;go_enter Tryz.func79,Tryz.ntmps79;go_wp2;go_loopw[4,9] (fun u i wr=>∃(k:Nat) (ts:List aO) (rest:List Int),k<=ss.length/\i=.int .i64 k/\Hid (∃a c,u=.slice a k c)/\Hid (ts.length=k)/\Hid (cV w wr R rest)/\Hid (∃css,iK w R ts u wr css)/\Hid (dH ss rem=(dH (ss.drop k) rest).map fun q=>(ts++q.1,q.2))) (fun _ i _=>ss.length-(intOf i).toNat)
 case atStart=>exact⟨0,[],rem,Ze _,rfl,Za ⟨_,_,rfl⟩,Za rfl,HQ,Za ⟨_,iK.start _ _⟩,Za (by simp)⟩
 case round=>
  obtain⟨k,ts,rest,hk,rfl,HU,D,F,aa,HE⟩:=hrel;obtain⟨w5,rfl⟩:=Zx wr;obtain⟨au,cu,hu⟩:=HU.o;subst hu;obtain⟨css,hA⟩:=aa.o;have HA:=Za hA;clear HU aa hA;by_cases L:k<ss.length
  ·have ab:=HS.o.moved HQ.o.at_ F.o.moved;obtain⟨o',cap',he,G⟩:=ab.rd;cases he;obtain⟨b,off,u,rfl,A,E⟩:=G k L;obtain⟨ou,cu2,rfl⟩:=aU E;have H:=aw.o _ (List.getElem_mem L);have B:=Za (GR L HE.o);obtain⟨sh,ac⟩:=Zx (ss[k]);rw[<-ac]at A E H B;have M:=H;simp only[bA,Bool.and_eq_true,decide_eq_true_eq]at M;obtain⟨⟨ax,N⟩,M⟩:=M;have bl:=(qJ sh N).1;obtain⟨pn,O⟩:∃pn:Nat,bG sh=pn:=⟨(bG sh).toNat,by omega⟩;have bi:pn<=65536:=by omega
   rw[O,Int.toNat_natCast]at B;cases hw:bT pn rest with
   |none=>exfalso;have:=B.o;rw[hw,HP.o]at this;cases this
   |some p=>
    obtain⟨xs,rest2⟩:=p;have ad:=Za (show dH ss rem=(dH (ss.drop (k+1)) rest2).map fun q=>((ts++[⟨sh,xs⟩])++q.1,q.2) by rw[B.o,hw,Option.bind_some]);have ay:=Za hw;have az:=Za (show xs.length<=1000000 by have:=(vD pn hw F.o.wf).2.2.1;omega);have ae:=Za E;have ba:=Za N;have bb:=Za O;clear hw E ac ab G N O B HE;go_wp2_with(first
     |(go_at_call 123;refine(rW _ sh _ ae.o (by omega)).mono ?_;rintro e w6 ⟨⟨us,rfl,af⟩,ag⟩;have bc:=Za af;have P:=Za ag;clear af ag)
     |(go_at_call 124;refine(qO _ sh _ (ae.o.below P.o (Zb _)) ba.o ax).mono ?_;rintro e w7 ⟨rfl,T⟩;have U:=Za (P.o.trans ((T.below _).mono P.o.size));have bd:=Za T;clear T)
     |(go_at_call 78;refine(AD bb.o (F.o.low U.o F.o.moved.size) (by omega) ay.o).mono ?_;rintro e w8 ⟨⟨ud,rfl,ah⟩,ai,aj⟩;have ak:=Za ah;have V:=Za ai;have al:=Za aj;clear ah ai aj;refine aD ?_))
    have C:=Za ((gO (R:=R) U.o).trans al.o);have I:=Za (nM (cI (mA bc.o bd.o) (Zc _ _) (Zb _)) al.o (by have:=HQ.o.lt;have:=F.o.moved.size;omega));obtain⟨os,cs,rfl⟩:=aJ I.o;obtain⟨od,cd,rfl⟩:=aJ ak.o;have ao:=Za (HA.o.next C.o HQ.o.lt);have ap:=Za (fun k e=>(HA.o.row.lt k e).2);have bj:=C.o.size;have bm:=F.o.moved.size;have bk:=U.o.size;have J:=Za (show w8.ownsRow w.heap.size 100 2 (.slice au k cu) k css.flatten by have:=ao.o.row;rwa [D.o]at this);have HH:=Za (show aI (fun k'=>aL w.heap.size w8 k'/\(Value.slice au k cu).ownBlock≠some k') w8 fun W=>uR W (.slice os sh.length cs) (.slice od xs.length cd) ⟨sh,xs⟩ from
     (((aI.ownI I.o).mono fun k' hk'=>⟨⟨by have:=hk'.1;omega,hk'.2⟩,fun e=>by have:=ap.o k' e;have:=hk'.1;omega⟩).and ((aI.ownI ak.o).mono fun k' hk'=>⟨⟨by have:=hk'.1;omega,hk'.2⟩,fun e=>by have:=ap.o k' e;have:=hk'.1;omega⟩)).imp fun W hW=>⟨hW,by show sh.length<=_;omega,by show xs.length<=_;have:=az.o;omega⟩)
    clear A;refine aC ?_;go_wp2_with(at_builtin;refine wpList_append_own_at _ rfl _ _ 36 rfl w.heap.size 100 i0 (.agg #[.slice none 0 0,.slice none 0 0]) 2 48 Tryz.underlying36 hi aq ar av rfl (by decide) _ _ _ rfl (cI J.o ((Zc _ _).alloc (Zb _) _) (Zb _)) ⟨w8.heap.size,0,none⟩ 1 1 [.slice os sh.length cs,.slice od xs.length cd] rfl rfl (eD _ _ _ _) (by simp[Value.oneCell']) (by unfold maxLen;omega) (by omega) (by simp;omega) ?_;intro v9 w9 X Y be hat9;refine aD ?_);have bf:=Za (ao.o.snoc (t:=⟨sh,xs⟩) (by omega) HH.o (by rw[D.o];exact X) Y hat9);have bg:=Za (show cV w w9 R rest2 from cV.grown (w0:=w) ⟨V.o.at_,V.o.wf,V.o.len,F.o.moved.trans C.o,HQ.o.lt⟩ J.o Y);obtain⟨a9,k9,rfl⟩:=aJ X;clear X Y be hat9;refine aC ?_;go_wp2;go_roundw
    case rel=>exact⟨k+1,ts++[⟨sh,xs⟩],rest2,by omega,by go_num,Za ⟨_,_,rfl⟩,Za (by rw[Zl,D.o];rfl),bg,Za ⟨_,bf.o⟩,ad⟩
    case measure=>simp[intOf];omega
  ·obtain rfl:k=ss.length:=by omega
   have HF:=Za (show ts=ts0/\rest=rest0 by
    have:=HE.o;rw[HP.o,List.drop_eq_nil_of_le (Zb _),dH]at this;simp at this;exact⟨this.1.symm,this.2.symm⟩)
   have bh:=Za (HA.o.fin (by rw[D.o];omega));go_wp2;go_ret;exact⟨_,rfl,by rw[<-HF.o.1];exact bh.o,by rw[<-HF.o.2];exact F.o⟩
def uE (v:Value):Prop:=(∃n c,v=.slice none n c)\/∃b off n c,v=.slice (some ⟨b,off,none⟩) n c
theorem CK {w:World} {v:Value} {xs:List Int} (h:Rd w .u8 v xs) (hp:uE v):
  (convert 23 9 v).run Tryz.prog w=.ok (.string ⟨(gR xs).toArray⟩) w:=by
 obtain⟨o,cap,rfl,hc⟩:=h;rcases hp with⟨n,c,he⟩|⟨b,off,n,c,he⟩
 ·cases he;have h0:xs.length=0:=by
   rcases Nat.eq_zero_or_pos xs.length with h|h
   ·exact h
   ·obtain⟨b,off,h1,_⟩:=hc 0 h;cases h1
  rw[List.eq_nil_of_length_eq_zero h0];exact run_convert_bytes_nil w _ _ Tryz.underlying23 Tryz.underlying5 _ _ _ Tryz.underlying9
 ·cases he;refine run_convert_bytes_arg w _ _ Tryz.underlying23 Tryz.underlying5 b off _ cap xs rfl (fun i hi=>?_) _ Tryz.underlying9;obtain⟨b',off',e,A⟩:=hc i hi;cases e;rw[A,dO _ _ hi];simp[hi]
def OE (w:World) (xs:List Int) (e:Ending) (w':World):Prop:=
 Below w.heap.size w w'/\match gX (gR xs)with
 |none=>∃line:Int,e=.returned (.tuple #[.agg #[.slice none 0 0,.slice none 0 0,.int .i64 0],.int .i64 line,.int .i64 1])
 |some d=>∃vi vl,e=.returned (.tuple #[.agg #[vi,vl,.int .i64 d.loss],.int .i64 0,.int .i64 0])/\(∀o n c,vi=.slice o n c->n<=c)/\aI (aL w.heap.size w') w' (fun W=>oL W vi vl d)
def mR (B:Nat) (W:World) (k:Nat):Prop:=B<=k/\∃cs T fz,W.heap[k]?=some (.cells cs T fz)
structure gZ (B:Nat) (pre:List iH) (v:Value) (W:World):Prop where
 row:W.ownsRow B 143 1 v pre.length (pre.map (·.v))
 all:aI (fun k=>mR B W k/\v.ownBlock≠some k) W (fun W=>∀x∈pre,iU W B x.v x.ws)
theorem rX {W:World} {B:Nat} {e:TypeId} {s n:Nat} {v:Value} {xs:List Value} (h:W.ownsRow B e s v n xs):∀g,v.ownBlock=some g->mR B W g:=fun g hg=>by
 rcases h.2 with⟨rfl,_⟩|⟨g',cap,cur,rfl,hb,A,_⟩
 ·cases hg
 ·simp[Value.ownBlock]at hg;subst hg;exact⟨hb,_,_,_,A⟩
theorem gZ.start (B:Nat) (W:World):gZ B [] (.slice none 0 0) W:=⟨World.ownsRow_nil _ _ _ _,fun W' _ x hx=>by cases hx⟩
theorem gZ.keep {B:Nat} {pre:List iH} {v:Value} {W W':World} (h:gZ B pre v W) (hk:∀k,mR B W k->W'.heap[k]?=W.heap[k]?):gZ B pre v W':=
 ⟨mW h.row (fun g hg=>hk g (rX h.row g hg)),(h.all.step fun k hk'=>hk k hk'.1).mono fun k hk'=>⟨⟨hk'.1.1,by rw[hk k hk'.1];exact hk'.1.2⟩,hk'.2⟩⟩
theorem gZ.next {B:Nat} {pre:List iH} {v:Value} {W W':World} (h:gZ B pre v W) (hb:Below W.heap.size W W'):gZ B pre v W':=
 h.keep fun k hk=>hb.block k (by obtain⟨_,cs,T,fz,hc⟩:=hk;exact(Array.getElem?_eq_some_iff.1 hc).1)
theorem gZ.snoc {B:Nat} {pre:List iH} {v v':Value} {W1 W2:World} {x:iH} {o:Obj} (h:gZ B pre v W1) (hx:iU W1 B x.v x.ws) (E:W2.ownsRow B 143 1 v' (pre.length+1) (pre.map (·.v)++[x.v])) (hg:(W1.alloc o).grownBy W2 v.ownBlock) (H:v'.ownBlock=v.ownBlock\/v'.ownBlock=some (W1.alloc o).heap.size):gZ B (pre++[x]) v' W2:=by
 have D:∀k,mR B W1 k->k<W1.heap.size:=fun k C=>by obtain⟨_,cs,T,fz,hc⟩:=C;exact(Array.getElem?_eq_some_iff.1 hc).1
 have F:∀k,mR B W1 k/\v.ownBlock≠some k->W2.heap[k]?=W1.heap[k]?:=fun k C=>(hg.block k (by have:=D k C.1;simp;omega) (fun e=>C.2 e.symm)).trans (Below.heap_alloc W1 o k (D k C.1));have I:aI (fun k=>mR B W1 k/\v.ownBlock≠some k) W1 (fun W=>iU W B x.v x.ws):=fun W' hW=>mW hx fun g A=>hW g ⟨rX hx g A,fun e=>by
  rcases hx.2 with⟨h1,_⟩|⟨g1,c1,cur1,h1,_,J,_⟩
  ·rw[h1]at A;cases A
  ·rw[h1]at A;simp[Value.ownBlock]at A;subst A;rcases h.row.2 with⟨h2,_⟩|⟨g2,c2,cur2,h2,_,G,_⟩
   ·rw[h2]at e;cases e
   ·rw[h2]at e;simp[Value.ownBlock]at e;subst e;rw[J]at G;simp at G⟩
 refine⟨by simpa using E,((h.all.and I).step F).imp (fun W hW y hy=>?_) |>.mono fun k C=>⟨⟨C.1.1,by rw[F k C];exact C.1.2⟩,?_⟩⟩
 ·rcases List.mem_append.1 hy with hy|hy
  ·exact hW.1 y hy
  ·rw[List.mem_singleton.1 hy];exact hW.2
 ·rcases H with e1|e1
  ·rw[e1];exact C.2
  ·rw[e1];intro e2;simp at e2;have:=D k C.1;omega
theorem gZ.lines {B R:Nat} {pre:List iH} {a:Option Addr} {m c:Nat} {W:World} (h:gZ B pre (.slice a m c) W) (hR:R+1<=B) (hm:m=pre.length):aI (aL (R+1) W) W fun W=>sG (R+1) W (.slice a (pre.map (·.ws)).length c) (pre.map (·.ws)):=fun W' hW=>by
 subst hm;have D:∀k,mR B W k->W'.heap[k]?=W.heap[k]?:=fun k hk=>hW k ⟨by have:=hk.1;omega,by obtain⟨_,cs,T,fz,hc⟩:=hk;exact(Array.getElem?_eq_some_iff.1 hc).1⟩;have h':=h.keep D;refine⟨a,c,rfl,fun k hk=>?_⟩;have A:k<pre.length:=by simpa using hk
 rcases h'.row.2 with⟨he,h0⟩|⟨g,cap',cur,he,hb,hg,E,F,G,ht⟩
 ·omega
 ·injection he with h1 h2 h3;subst h1;have hu:(pre.map (·.v))[k]?=some (pre[k]).v:=by rw[List.getElem?_map,List.getElem?_eq_getElem A];rfl
  rw[<-ht,List.getElem?_take]at hu;have C:=h'.all.here _ (List.getElem_mem A);refine⟨g,0,(pre[k]).v,rfl,by omega,?_,FZ C,by rw[List.getElem_map];exact fQ.of_own C⟩;rw[Nat.zero_add,cell_of_row W' g k cur _ _ hg];split at hu
  ·simpa using hu
  ·cases hu
structure mB (w:World) (B n:Nat) (pre:List iH) (W:World):Prop where
 low:Below n w W
 big:B<=W.heap.size
 d:aA W n 33 #[.slice none 0 0,.slice none 0 0,.int .i64 0]
 p:aA W (n+2) 188 #[.pointer (some ⟨n+1,0,none⟩)]
 r:∃a c,aA W (n+1) 191 #[.slice a pre.length c,.int .i64 0,.int .i64 64]/\gZ B pre (.slice a pre.length c) W
theorem mB.keep {w W W':World} {B n:Nat} {pre:List iH} (h:mB w B n pre W) (hn:n+3<=B) (hl:Below n W W') (hs:W.heap.size<=W'.heap.size) (h3:∀k,n<=k->k<n+3->W'.heap[k]?=W.heap[k]?) (hk:∀k,mR B W k->W'.heap[k]?=W.heap[k]?):mB w B n pre W':=by obtain⟨h1,h2,h4,h5,a,c,h6,h7⟩:=h;exact⟨h1.trans hl,Nat.le_trans h2 hs,(h3 n (Zb _) (by omega)).trans h4,(h3 (n+2) (by omega) (by omega)).trans h5,a,c,(h3 (n+1) (by omega) (by omega)).trans h6,h7.keep hk⟩
theorem mB.own {w w3:World} {B n sb:Nat} (hn:n+3<=B) (E:n+3<=sb/\sb<B) (hB:B=w3.heap.size):mC sb w3.heap.size (fun pre W=>mB w B n pre W):=fun s W W' row hs C hr=>by
 subst hB;have key:∀k,(k<n+3\/mR w3.heap.size W k)->W'.heap[k]?=W.heap[k]?\/W.heap.size<=k:=fun k A=>by
  by_cases D:k<W.heap.size
  ·left;refine C.block k D (fun e=>?_);rcases hr k e.symm with rfl|⟨h1,o,h2,h3⟩
   ·rcases A with A|A
    ·omega
    ·have:=A.1;omega
   ·rcases A with A|⟨_,cs,T,fz,hc⟩
    ·omega
    ·rw[hc]at h2;cases h2;cases h3
  ·exact .inr (by omega)
 refine hs.keep hn ⟨C.os,C.tape,C.output,C.size,fun k A=>?_⟩ C.size (fun k h1 h2=>?_) (fun k A=>?_)
 ·rcases key k (.inl (by omega))with h|h
  ·exact h
  ·have:=hs.big;omega
 ·rcases key k (.inl h2)with h|h
  ·exact h
  ·have:=hs.big;omega
 ·rcases key k (.inr A)with h|h
  ·exact h
  ·obtain⟨_,cs,T,fz,hc⟩:=A;have:=(Array.getElem?_eq_some_iff.1 hc).1;omega
structure sE (B n L:Nat) (pre:List iH) (x:iH) (a:Act) (W:World):Prop where
 len:pre.length<L
 fr:∃v u0 u1 u2 u3 u4 u7 u8 u9 u10 u11 u12 u13 u14 u15 u16 u17 u18 u19 u20 u21 u22 u23 u24 u25 u26 u27 u28 u29 u30 u31 u32 u33 u34 u35 u36 u37 u38 u39 u40 u41 u42 u43 u44 u45 u46 u47 u48 u49 u50 u51 u52 u53 u54 u55 u56 u57 u58,a=⟨#[u0,u1,u2,u3,u4,.pointer (some ⟨n+2,0,none⟩),v,u7,u8,u9,u10,u11,u12,u13,u14,u15,u16,u17,u18,u19,u20,u21,u22,u23,u24,u25,u26,u27,u28,u29,u30,u31,u32,u33,u34,u35,u36,u37,u38,u39,u40,u41,u42,u43,u44,u45,u46,u47,u48,u49,u50,u51,u52,u53,u54,u55,u56,u57,u58],[]⟩/\v=x.v
 own:iU W B x.v x.ws
theorem sE.own' {B n sb L:Nat} {pre:List iH} {x:iH} {a:Act} (D:sb<B):mC sb B (fun(_:Unit) W=>sE B n L pre x a W):=fun s W W' row hs hg hr=>by
 refine⟨hs.len,hs.fr,mW hs.own fun g C=>?_⟩;have hc:=rX hs.own g C;obtain⟨hb,cs,T,fz,A⟩:=hc;refine hg.block g (Array.getElem?_eq_some_iff.1 A).1 (fun e=>?_);rcases hr g e.symm with rfl|⟨h1,o,h2,h3⟩
 ·omega
 ·rw[A]at h2;cases h2;cases h3
theorem OL (s:List UInt8):∀cur,(dR cur s).length<=s.length/\∀l∈dR cur s,l.length<=cur.length+s.length:=by
 induction s with
 |nil=>intro cur;simp[dR]
 |cons c r ih=>
  intro cur;rw[dR];split
  ·refine⟨by have:=(ih []).1;simp;omega,fun l hl=>?_⟩;rcases List.mem_cons.1 hl with rfl|hl
   ·simp
   ·have:=(ih []).2 l hl;simp at this ⊢;omega
  ·refine⟨by have:=(ih (cur++[c])).1;simp;omega,fun l hl=>?_⟩;have:=(ih (cur++[c])).2 l hl;simp at this ⊢;omega
theorem H7 (l:List UInt8):∀cur ws,eB cur l=some ws->ws.length<=l.length+1/\∀x∈ws,x.length<=cur.length+l.length:=by
 induction l with
 |nil=>
  intro cur ws h;rw[eB]at h;split at h
  ·cases h
  ·cases h;simp
 |cons c r ih=>
  intro cur ws h;rw[eB]at h;split at h
  ·split at h
   ·cases h
   ·rw[Option.map_eq_some_iff]at h;obtain⟨q,h1,rfl⟩:=h;have:=ih [] q h1;refine⟨by simp;omega,fun x hx=>?_⟩;rcases List.mem_cons.1 hx with rfl|hx
    ·simp
    ·have:=this.2 x hx;simp at this ⊢;omega
  ·have:=ih (cur++[c]) ws h;refine⟨by simp;omega,fun x hx=>?_⟩;have:=this.2 x hx;simp at this ⊢;omega
theorem GQ {s:List UInt8} (h:s.length<=8192):LOk ((dR [] s).map eI):=by
 have h1:=OL s [];refine⟨by rw[List.length_map];omega,fun ws A=>?_⟩;obtain⟨l,hl,rfl⟩:=List.mem_map.1 A;have h2:=h1.2 l hl;rw[eI];cases hw:eB [] l with
 |none=>simp
 |some q=>
  have h3:=H7 l [] q hw;simp only[Option.getD_some,List.length_nil]at h2 h3 ⊢;exact⟨by omega,fun x hx=>by have:=h3.2 x hx;omega⟩
structure iT (w:World) (n D:Nat) (cs:Array Value) (X:World):Prop where
 low:Below n w X
 d:aA X n 33 cs
 k:X.heap[D]?=some (.deferred (some []))
theorem iT.set {w X:World} {n D:Nat} {cs:Array Value} (h:iT w n D cs X) (hD:D≠n) (j:Nat) (v:Value):iT w n D (cs.setIfInBounds j v) (X.setCell ⟨n,j,none⟩ v):=
 ⟨h.low.setCell (p:=⟨n,j,none⟩) (Zb _) v,h.d.set j v,(Below.heap_setCell _ _ _ _ (by simpa using hD)).trans h.k⟩
theorem iT.set3 {w X:World} {n D:Nat} {x y z:Value} (h:iT w n D #[x,y,z] X) (hD:D≠n) (a b c:Value):iT w n D #[a,b,c] (((X.setCell ⟨n,0,none⟩ a).setCell ⟨n,1,none⟩ b).setCell ⟨n,2,none⟩ c):=
 ((h.set hD 0 a).set hD 1 b).set hD 2 c
theorem iT.drew {w X:World} {n D:Nat} {cs:Array Value} (h:iT w n D cs X):iT w n D cs X.drew:=⟨h.low.drew,h.d,h.k⟩
theorem iT.moved {w X X':World} {n D R:Nat} {cs:Array Value} (h:iT w n D cs X) (A:bB X X' R) (hR:n<R) (hD:D≠R):iT w n D cs X':=
 ⟨h.low.trans ⟨A.os,A.tape,A.output,A.size,fun k hk=>(A.block k (by have:=h.d.lt;omega) (fun e=>by cases e;omega))⟩,(gP A h.d.lt (by omega)).trans h.d,(gP A (Array.getElem?_eq_some_iff.1 h.k).1 hD).trans h.k⟩
theorem iT.fin {w X:World} {n D:Nat} {a b c:Value} (h:iT w n D #[a,b,c] X) (hn:n=w.heap.size) (hD:n<D):(X.putObj D (.deferred none)).cell? ⟨n,0,none⟩=some a/\(X.putObj D (.deferred none)).cell? ⟨n,1,none⟩=some b/\(X.putObj D (.deferred none)).cell? ⟨n,2,none⟩=some c/\Below w.heap.size w (X.putObj D (.deferred none)):=by have hb:=h.d.putObj h.k rfl (.deferred none);refine⟨hb.cell 0 rfl,hb.cell 1 rfl,hb.cell 2 rfl,?_⟩;subst hn;exact h.low.grown (grownBy_putObj' X D _) (by have:=h.d.lt;omega) (fun k e=>by cases e;omega)
theorem aI.putObj {B D:Nat} {b:World} {P:World->Prop} (h:aI (aL B b) b P) (hD:D<B) (o:Obj):aI (aL B (b.putObj D o)) (b.putObj D o) P:=
 (h.step fun k hk=>World.putObj_heap_other (by have:=hk.1;omega)).mono fun k hk=>⟨hk.1,by have:=hk.2;simpa [World.putObj]using this⟩
theorem JM {w:World} {R:Nat} {o:Option Addr} {cap:Nat} {all:aV} {args:Array Value} {res:Option bI} (h:Calls Tryz.prog 120 args w (qQ w R o cap all res)) (hn:res=none):
  Calls Tryz.prog 120 args w fun e w'=>(∃o1 n1 c1 o2 n2 c2 k,e=.returned (.tuple #[.agg #[.slice o1 n1 c1,.slice o2 n2 c2,.int .i64 k],.bool false]))/\bB w w' R/\∃at2 left2,cB w' R o cap all at2 left2:=
 h.mono fun e w' ⟨hm,at2,left2,hr,ho⟩=>⟨by rw[hn]at ho;exact ho,hm,at2,left2,hr⟩
theorem NC {w:World} {R:Nat} {o:Option Addr} {cap:Nat} {all:aV} {args:Array Value} {res:Option bI} {d:bI} (h:Calls Tryz.prog 120 args w (qQ w R o cap all res)) (hn:res=some d):
  Calls Tryz.prog 120 args w fun e w'=>∃vi vl,e=.returned (.tuple #[.agg #[vi,vl,.int .i64 d.loss],.bool true])/\(∀o n c,vi=.slice o n c->n<=c)/\aI (aL w.heap.size w') w' (fun W=>oL W vi vl d)/\bB w w' R/\∃at2 left2,cB w' R o cap all at2 left2:=
 h.mono fun e w' ⟨hm,at2,left2,hr,ho⟩=>by
  rw[hn]at ho;obtain⟨vi,vl,he,hc,hh⟩:=ho;exact⟨vi,vl,he,hc,hh,hm,at2,left2,hr⟩
theorem M9 {s:List UInt8} (h:eF ((dR [] s).map eI)=none):gX s=none:=by rw[gX,h];split<;>rfl
theorem QC {s:List UInt8} (h:s.getLast?≠some 10):gX s=none:=by
 rw[gX];split
 ·rfl
 ·split
  all_goals first|rfl|rw[if_neg h]
theorem T5 {s:List UInt8} {d:bI} (hl:s.length<=8192) (h:eF ((dR [] s).map eI)=some d) (h2:s.getLast?=some 10):gX s=some d:=by rw[gX,if_neg (by omega),h];simp only;rw[if_pos h2]
theorem AX {xs:List Int} {m:Nat} (hm:xs.length=m+1):(gR xs).getLast?=some (UInt8.ofNat (aF xs m).toNat):=by rw[gR,List.getLast?_map,List.getLast?_eq_getElem?,hm,Nat.add_sub_cancel,List.getElem?_eq_getElem (by omega),dO _ _ (by omega)];rfl
theorem LW:(Tryz.prog.info? 143).map (fun i=>(i.zero,i.size,i.bytes))=some (some (.slice none 0 0),1,24):=by kernel_rfl
theorem AC {w w4 W w6:World} {n:Nat} {pre:List iH} {x:iH} {a a6:Option Addr} {c k6:Nat} {o:Obj} (hz:w4.heap.size=n+4) (h1:Below n w W) (h2:w4.heap.size<=W.heap.size) (h4:aA W n 33 #[.slice none 0 0,.slice none 0 0,.int .i64 0]) (h5:aA W (n+2) 188 #[.pointer (some ⟨n+1,0,none⟩)]) (h6:aA W (n+1) 191 #[.slice a pre.length c,.int .i64 0,.int .i64 64]) (h7:gZ w4.heap.size pre (.slice a pre.length c) W) (C:iU W w4.heap.size x.v x.ws)
  (D:w6.ownsRow w4.heap.size 143 1 (.slice a6 (pre.length+1) k6) (pre.length+1) (pre.map (·.v)++[x.v])) (B:(W.drew.alloc o).grownBy w6 (Value.slice a pre.length c).ownBlock) (F:(Value.slice a6 (pre.length+1) k6).ownBlock=(Value.slice a pre.length c).ownBlock\/(Value.slice a6 (pre.length+1) k6).ownBlock=some (W.drew.alloc o).heap.size):
  aA w6 (n+1) 191 #[.slice a pre.length c,.int .i64 0,.int .i64 64]/\aA w6 (n+2) 188 #[.pointer (some ⟨n+1,0,none⟩)]/\
  KeepsFrom w4.heap.size W (w6.setCell ⟨n+1,0,none⟩ (.slice a6 (pre.length+1) k6))/\(W.heap.size<=(w6.setCell ⟨n+1,0,none⟩ (.slice a6 (pre.length+1) k6)).heap.size/\∀cs,aA W (n+3) 9 cs->aA (w6.setCell ⟨n+1,0,none⟩ (.slice a6 (pre.length+1) k6)) (n+3) 9 cs)/\
  mB w w4.heap.size n (pre++[x]) (w6.setCell ⟨n+1,0,none⟩ (.slice a6 (pre.length+1) k6)):=by
 have G:W.drew.heap.size=W.heap.size:=rfl;have hd:∀k,k<W.heap.size->(W.drew.alloc o).heap[k]?=W.heap[k]?:=fun k hk=>Below.heap_alloc W.drew o k hk;have E:W.heap.size<=w6.heap.size:=by have:=B.size;simp at this;omega
 have A:∀k,k<w4.heap.size->k<W.heap.size->w6.heap[k]?=W.heap[k]?:=fun k hk hl=>(B.block k (by simp;omega) (fun e=>by have:=(h7.row.lt k e.symm).1;omega)).trans (hd k hl);have k1:=(A (n+1) (by omega) (by omega)).trans h6;have k2:=(A (n+2) (by omega) (by omega)).trans h5;have hL:=(h7.next (Below.drew (Zc _ _))).snoc (show iU W.drew w4.heap.size x.v x.ws from cI C (Below.drew (Zc W.heap.size W)) (Zb _)) D B F;refine⟨k1,k2,?_,⟨by rw[World.size_setCell];exact E,fun cs hb=>aA.other ((A (n+3) (by omega) hb.lt).trans hb) (by simp) _⟩,?_⟩
 ·refine((((KeepsOthers.drew W).trans (KeepsOthers.alloc _ _)).trans (KeepsOthers.of_grownBy B fun j ob hj ho=>?_)).trans (KeepsOthers.setCell _ _ _)).from _;obtain⟨_,cs,T,fz,hc⟩:=rX h7.row j hj;rw[hd j (Array.getElem?_eq_some_iff.1 hc).1,hc]at ho;cases ho;rfl
 ·refine⟨?_,by rw[World.size_setCell];omega,aA.other ((A n (by omega) (by omega)).trans h4) (by simp) _,aA.other k2 (by simp) _,a6,k6,?_,?_⟩
  ·refine(h1.trans (?_:Below n W w6)).setCell (p:=⟨n+1,0,none⟩) (by simp) _;exact⟨B.os,B.tape,B.output,E,fun k hk=>A k (by omega) (by omega)⟩
  ·rw[Zl,List.length_singleton];exact aA.set k1 0 _
  ·rw[Zl,List.length_singleton];exact hL.keep fun k hk=>Below.heap_setCell _ _ _ _ (fun e=>by have:=hk.1;simp at e;omega)
attribute [local go_sem] Oper.semAt_some
theorem UY (v:Value) (xs:List Int) (w:World) (hr:Rd w .u8 v xs) (hw:Wf .u8 xs) (hp:uE v) (hl:xs.length<=8192):
  Calls Tryz.prog 75 #[v] w (OE w xs):=by
 have ay:=fun W (hb:Below w.heap.size w W)=>CK (w:=W) (hr.below hb (Zb _)) hp;obtain⟨o,cap,rfl⟩:=aU hr;have HR:=Za hr;have HW:=Za hw;obtain⟨st,aj⟩:=Zx (gR xs);have ak:=Za aj;have bc:st.length<=8192:=by rw[aj,gR,List.length_map];exact hl
 rw[<-aj]at ay;have br:=Za ay;obtain⟨n,hn⟩:=Zx w.heap.size;obtain⟨W3,Y⟩:=Zx (((w.alloc (.cells #[.slice none 0 0,.slice none 0 0,.int .i64 0] 33)).alloc (.cells #[.slice none 0 0,.int .i64 0,.int .i64 64] 191)).alloc (.cells #[.pointer (some ⟨w.heap.size+1,0,none⟩)] 188));have bd:Below n w W3:=by rw[Y,hn];exact(((Zc _ _).alloc (Zb _) _).alloc (by simp) _).alloc (by simp;omega) _
 have be:W3.heap.size=n+3:=by rw[Y,hn];simp
 have x0:aA W3 n 33 #[.slice none 0 0,.slice none 0 0,.int .i64 0]:=by rw[Y,hn];exact((aA.new _ _ _).next ((Zc _ _).alloc (Zb _) _)).next ((Zc _ _).alloc (Zb _) _)
 have x1:aA W3 (n+1) 191 #[.slice none 0 0,.int .i64 0,.int .i64 64]:=by rw[Y,hn,<-World.size_alloc w (.cells #[.slice none 0 0,.slice none 0 0,.int .i64 0] 33)];exact(aA.new _ _ _).next ((Zc _ _).alloc (Zb _) _)
 have x2:aA W3 (n+2) 188 #[.pointer (some ⟨n+1,0,none⟩)]:=by rw[Y,hn,show w.heap.size+2=((w.alloc (.cells #[.slice none 0 0,.slice none 0 0,.int .i64 0] 33)).alloc (.cells #[.slice none 0 0,.int .i64 0,.int .i64 64] 191)).heap.size by simp];exact aA.new _ _ _
 have HX:=Za (Zd x0 (Zd x1 (Zd x2 (Zd bd be))));have bf:=Za Y;have HN:=Za hn;clear hr hw hp aj ay x0 x1 x2 bd be Y;refine callsIn_wide.1 (?_:CallsIn Fence.wide 9 _ _ _ _ _);refine callsIn_of_wp_marks Tryz.func75 rfl trivial ?_ rfl;simp only[Tryz.ntmps75,List.size_toArray,List.length_cons,List.length_nil,Nat.reduceAdd,Nat.reduceSub,Array.replicate_succ,Array.replicate_zero,List.push_toArray,List.append_toArray,List.nil_append,List.cons_append];refine wpIn_wide.2 ?_;have bg:=br.o W3 (by have:=HX.o.2.2.2.1;rwa [hn]at this);rw[bf.o]at bg;clear hn;go_wp2_with(go_at_call 119;rw[<-bf.o];refine(PL st _).mono ?_;rintro e w4 ⟨rfl,ac⟩;refine aD ?_);have aa:=HX.o.2.2.2.2;have bh:aA w4 (n+3) 9 #[.string ⟨st.toArray⟩]:=by rw[ac,<-aa];exact aA.new _ _ _
 have N:Below W3.heap.size W3 w4:=by rw[ac];exact(Zc _ _).alloc (Zb _) _
 have az:w4.heap.size=n+4:=by rw[ac,World.size_alloc,aa]
 have bs:=Za (show mB w w4.heap.size n [] w4 from⟨HX.o.2.2.2.1.trans (N.mono (by omega)),Zb _,HX.o.1.next N,HX.o.2.2.1.next N,none,0,HX.o.2.1.next N,gZ.start _ _⟩);have bt:=Za (UH w4.heap.size (n+3) st w4 8 (by omega) bh (by omega) (Zb _));rw[aa];have al:=Za az
 try rw[<-ac]
 clear ac bh N bg aa;refine aC ?_;go_wp2_with fail;rw[<-HN.o];refine(wpIn_wide (n:=9)).1 ?_;refine UO rfl (by omega) (gf:=152) (lb:=#[.pointer (some ⟨n+3,0,none⟩)]) rfl trivial (enters_of Tryz.func152 (by kernel_rfl) rfl)
  bt.o (by omega) (fun h k=>⟨Nat.le_trans h.1 k.1,fun cs hb=>k.2 cs (h.2 cs hb)⟩) ?hkb (Zc _ _) (fun _=>rfl)
  (fun pre W=>mB w w4.heap.size n pre W) (fun c pre W=>False) (mB.own (sb:=n+3) (n:=n) (w:=w) (w3:=w4) (by omega) ⟨Zb _,by omega⟩ rfl) (fun c s W W' row h _ _=>h) bs.o
  (fun pre x a' W=>sE w4.heap.size n st.length pre x a' W) (fun p x a'=>sE.own' (sb:=n+3) (by omega))
  ?assign ?body ?done ?stop
 case hkb=>
  intro W l o o' hl ho hc _;exact⟨by simp[World.putObj],fun cs hb=>hb.putObj ho hc o'⟩
 case assign=>
  intro l pre x W K hI ⟨aw,F⟩ E;have HI:=Za hI;have HK:=Za E;have HO:=Za F;clear hI E F;simp only[vJ]
  gi_wp2
  exact HK.o _ _ (KeepsFrom.refl _ _) ⟨Zb _,fun cs h=>h⟩ HI.o ⟨aw,⟨_,_,_,_,_,_,_,_,_,_,_,_,_,_,_,_,_,_,_,_,_,_,_,_,_,_,_,_,_,_,_,_,_,_,_,_,_,_,_,_,_,_,_,_,_,_,_,_,_,_,_,_,_,_,_,_,_,_,rfl,rfl⟩,HO.o⟩
 case body=>
  rintro l pre x a' W hI ⟨aw,⟨v,u0,u1,u2,u3,u4,u7,u8,u9,u10,u11,u12,u13,u14,u15,u16,u17,u18,u19,u20,u21,u22,u23,u24,u25,u26,u27,u28,u29,u30,u31,u32,u33,u34,u35,u36,u37,u38,u39,u40,u41,u42,u43,u44,u45,u46,u47,u48,u49,u50,u51,u52,u53,u54,u55,u56,u57,u58,rfl,hv⟩,F⟩;obtain⟨h1,h2,h4,h5,a,c,h6,h7⟩:=hI;obtain⟨xws,xv⟩:=x;simp only at hv F;subst hv;obtain⟨ox,cx,rfl⟩:=aJ F;have L:=Za (Zd h1 (Zd h4 (Zd h5 (Zd h6 h7))));have HO:=Za F;obtain⟨i0,hi,bi,bj,bk⟩:=info_parts LW;have az:=al.o;clear h1 h4 h5 h6 h7 F;refine wpIn_block ?_;refine RY (S:=(fun w'=>w'.cell? ⟨n+2,0,none⟩=some (.pointer (some ⟨n+1,0,none⟩)))) (by kernel_rfl) (by kernel_rfl) (fun h=>by obtain⟨a,w,h⟩:=h;exact h) (L.o.2.2.1.cell 0 rfl) (fun bu=>?_);refine tq 0 ?_;refine tq 1 ?_;refine tq 2 ?_;refine tq 3 ?_;refine tq 5 ?_;refine wpAnyH_ready (rs:=[4,6]) (by kernel_rfl) (by simp) ?_;refine AllReadyH.cons rfl (fun K E=>?_) (AllReadyH.cons rfl (fun K E=>?_) AllReadyH.nil)
  ·have cl:=L.o.2.2.2.1.q 0 rfl
   go_simp
   refine E.out _ _ (L.o.2.2.1.cell 0 rfl) (fun ao=>?_);clear E K cl
   (try simp only[Act.put,Zf,Zg,Zh])
   refine wpAnyH_ready (rs:=[6]) (by kernel_rfl) (by simp) ?_;refine AllReadyH.cons rfl (fun K E=>?_) AllReadyH.nil
   go_simp
   obtain⟨w5,G⟩:=Zx ((W.alloc (.cells #[.slice ox xws.length cx] 143)).drew);rw[<-G];have M:=Za G;have ap:=Za (show aA w5 (n+2) 188 _ by rw[G];exact L.o.2.2.1.next ((Zc _ _).alloc (Zb _) _).drew);have bl:=Za (show aA w5 (n+1) 191 _ by rw[G];exact L.o.2.2.2.1.next ((Zc _ _).alloc (Zb _) _).drew);clear G;refine E.out _ _ (ap.o.cell 0 rfl) (fun aq=>?_);clear E K
   (try simp only[Act.put,Zf,Zg,Zh])
   refine wpAnyH_ready (rs:=[7]) (by kernel_rfl) (by simp) ?_;refine AllReadyH.cons rfl (fun K E=>?_) AllReadyH.nil;refine sS rfl _ _ 189 rfl w4.heap.size 143 i0 (.slice none 0 0) 1 24 Tryz.underlying189 hi bi bj bk rfl (by decide) _ _ _ rfl (show w5.ownsRow w4.heap.size 143 1 (.slice a pre.length c) pre.length (pre.map (·.v)) by rw[M.o];exact cI L.o.2.2.2.2.row ((Zc _ _).alloc (Zb _) _).drew (Zb _)) ⟨W.heap.size,0,none⟩ 1 1 [.slice ox xws.length cx] rfl rfl (by rw[M.o];exact eD W [.slice ox xws.length cx] 143 (0,0)) (by simp[Value.oneCell']) (by unfold maxLen;omega) (by omega) (by rw[M.o];simp;omega) ?_;intro v6 w6 B Z H;obtain⟨a6,k6,rfl⟩:=aJ B;rw[M.o]at Z H;have X:=Za (AC (x:=⟨xws,.slice ox xws.length cx⟩) al.o L.o.1 h2 L.o.2.1 L.o.2.2.1 L.o.2.2.2.1 L.o.2.2.2.2 HO.o B (show(W.drew.alloc _).grownBy w6 _ from Z) H);clear B Z H;refine E.out _ _ (X.o.2.1.cell 0 rfl) (fun ar=>?_);clear E K
   (try simp only[Act.put,Zf,Zg,Zh])
   refine tq 8 ?_;refine tq 9 ?_;refine wpAnyH_ready (rs:=[10]) (by kernel_rfl) (by simp) ?_;refine AllReadyH.cons rfl (fun K E=>?_) AllReadyH.nil;have cl:=X.o.1.q 0 rfl;have fl:=X.o.1.free 0
   go_simp
   refine E.out _ _ ((X.o.2.1.other (by simp) _).cell 0 rfl) (fun au=>?_);clear E K cl fl
   (try simp only[Act.put,Zf,Zg,Zh])
   refine wpAnyH_done (by kernel_rfl) ?_ _;exact X.o.2.2
  ·go_simp
   obtain⟨w5,G⟩:=Zx ((W.alloc (.cells #[.slice ox xws.length cx] 143)).drew);rw[<-G];have M:=Za G;have ap:=Za (show aA w5 (n+2) 188 _ by rw[G];exact L.o.2.2.1.next ((Zc _ _).alloc (Zb _) _).drew);have bl:=Za (show aA w5 (n+1) 191 _ by rw[G];exact L.o.2.2.2.1.next ((Zc _ _).alloc (Zb _) _).drew);clear G;refine E.out _ _ (ap.o.cell 0 rfl) (fun aq=>?_);clear E K
   (try simp only[Act.put,Zf,Zg,Zh])
   refine wpAnyH_ready (rs:=[4]) (by kernel_rfl) (by simp) ?_;refine AllReadyH.cons rfl (fun K E=>?_) AllReadyH.nil;have cl:=bl.o.q 0 rfl
   go_simp
   refine E.out _ _ (ap.o.cell 0 rfl) (fun ao=>?_);clear E K cl
   (try simp only[Act.put,Zf,Zg,Zh])
   refine wpAnyH_ready (rs:=[7]) (by kernel_rfl) (by simp) ?_;refine AllReadyH.cons rfl (fun K E=>?_) AllReadyH.nil;refine sS rfl _ _ 189 rfl w4.heap.size 143 i0 (.slice none 0 0) 1 24 Tryz.underlying189 hi bi bj bk rfl (by decide) _ _ _ rfl (show w5.ownsRow w4.heap.size 143 1 (.slice a pre.length c) pre.length (pre.map (·.v)) by rw[M.o];exact cI L.o.2.2.2.2.row ((Zc _ _).alloc (Zb _) _).drew (Zb _)) ⟨W.heap.size,0,none⟩ 1 1 [.slice ox xws.length cx] rfl rfl (by rw[M.o];exact eD W [.slice ox xws.length cx] 143 (0,0)) (by simp[Value.oneCell']) (by unfold maxLen;omega) (by omega) (by rw[M.o];simp;omega) ?_;intro v6 w6 B Z H;obtain⟨a6,k6,rfl⟩:=aJ B;rw[M.o]at Z H;have X:=Za (AC (x:=⟨xws,.slice ox xws.length cx⟩) al.o L.o.1 h2 L.o.2.1 L.o.2.2.1 L.o.2.2.2.1 L.o.2.2.2.2 HO.o B (show(W.drew.alloc _).grownBy w6 _ from Z) H);clear B Z H;refine E.out _ _ (X.o.2.1.cell 0 rfl) (fun ar=>?_);clear E K
   (try simp only[Act.put,Zf,Zg,Zh])
   refine tq 8 ?_;refine tq 9 ?_;refine wpAnyH_ready (rs:=[10]) (by kernel_rfl) (by simp) ?_;refine AllReadyH.cons rfl (fun K E=>?_) AllReadyH.nil;have cl:=X.o.1.q 0 rfl;have fl:=X.o.1.free 0
   go_simp
   refine E.out _ _ ((X.o.2.1.other (by simp) _).cell 0 rfl) (fun au=>?_);clear E K cl fl
   (try simp only[Act.put,Zf,Zg,Zh])
   refine wpAnyH_done (by kernel_rfl) ?_ _;exact X.o.2.2
 case done=>
  rintro D pre W hD hS hI E;obtain⟨h1,h2,h4,h5,a,c,h6,h7⟩:=hI;obtain⟨all,ad⟩:=Zx (pre.map (·.ws));have bm:pre.length=all.length:=by rw[ad,List.length_map]
  have az:=al.o;have ch:n+4<=D:=by omega
  have ba:=h7.lines (R:=n+1) (by omega) rfl;rw[<-ad]at ba hS;have bn:=Za (show LOk all by rw[hS];exact GQ bc);have ae:=Za hS;rw[bm]at h6;have bo:=Za (show cB W (n+1) a c all 0 64 from⟨h6,ba,Ze _,Zb _⟩);have X:=Za (show iT w n D #[.slice none 0 0,.slice none 0 0,.int .i64 0] W from⟨h1,h4,E⟩);have HP:=Za h5;have cj:=Za (HR.o.below h1 (by rw[HN.o];exact Zb _));have bw:=Za (show D<W.heap.size from(Array.getElem?_eq_some_iff.1 E).1);have av:=h5.q 0 rfl;clear h1 h4 h5 h6 h7 ba hS E ad bm;cases O:eF all with
  |none=>
   have P:=Za (show gX (gR xs)=none by rw[<-ak.o];exact M9 (by rw[<-ae.o];exact O));have HC:=Za (JM (EV (n+1) a c all W bo.o bn.o) O);clear O;go_wp2_with(go_at_call 120;refine HC.o.mono ?_;rintro e w7 ⟨⟨o1,n1,q1,o2,n2,q2,k,rfl⟩,T,at2,left2,U⟩;refine aD ?_);have C:=Za (X.o.moved T (by omega) (by omega));have bb:=Za (show aA w7 (n+2) 188 _ from(gP T HP.o.lt (by omega)).trans HP.o);have af:=Za U;have c0:=C.o.d.q 0 rfl;have cf0:=C.o.d.free 0;have c1:=C.o.d.q 1 rfl;have cf1:=C.o.d.free 1;have c2:=C.o.d.q 2 rfl;have cf2:=C.o.d.free 2;clear T U av;refine aC ?_;go_wp2_with fail;have A:=Za (C.o.set3 (by omega) (.slice o1 n1 q1) (.slice o2 n2 q2) (.int .i64 k));obtain⟨W8,I⟩:=Zx (((w7.setCell ⟨n,0,none⟩ (.slice o1 n1 q1)).setCell ⟨n,1,none⟩ (.slice o2 n2 q2)).setCell ⟨n,2,none⟩ (.int .i64 k));rw[<-I]at A ⊢;have av:W8.cell? ⟨n+2,0,none⟩=some (.pointer (some ⟨n+1,0,none⟩)):=by rw[I];exact(((bb.o.other (by simp) _).other (by simp) _).other (by simp) _).cell 0 rfl
   have bz:W8.cell? ⟨n+1,1,none⟩=some (.int .i64 at2):=by rw[I];exact(((af.o.box.other (by simp) _).other (by simp) _).other (by simp) _).cell 1 rfl
   clear I c0 c1 c2 cf0 cf1 cf2;have e0:=A.o.d.q 0 rfl;have ef0:=A.o.d.free 0;have e1:=A.o.d.q 1 rfl;have ef1:=A.o.d.free 1;have e2:=A.o.d.q 2 rfl;have ef2:=A.o.d.free 2;go_region;have V:=Za (A.o.set3 (by omega) (.slice none 0 0) (.slice none 0 0) (.int .i64 0)).drew;obtain⟨r0,r1,r2,r4⟩:=V.o.fin HN.o (by omega);have ag:=Za r4;have ah:=Za V.o.k;clear r4;go_wp2_with fail;refine⟨by simp,.inl ⟨_,_,rfl,run_takeDeferred ah.o,?_⟩⟩;refine⟨.tuple #[.agg #[.slice none 0 0,.slice none 0 0,.int .i64 0],.int .i64 at2,.int .i64 1],by simp[results,Tryz.results75,go_sem,r0,r1,r2],?_⟩;exact⟨ag.o,by rw[P.o];exact⟨_,rfl⟩⟩
  |some d=>
   have ck:0<xs.length:=by
    rcases Nat.eq_zero_or_pos xs.length with h|h
    ·exfalso;rw[ae.o,ak.o,List.eq_nil_of_length_eq_zero h]at O;simp[gR,dR,eF]at O
    ·exact h
   obtain⟨m,hm⟩:∃m,xs.length=m+1:=⟨xs.length-1,by omega⟩;have HC:=Za (NC (EV (n+1) a c all W bo.o bn.o) O);have ca:=Za O;have HM:=Za hm;obtain⟨bx,offx,rfl,cx0⟩:=HR.o.cell m (by omega);have cb:bx<n:=by have:=aP cx0;rw[HN.o];exact this
   have cx:W.cell? ⟨bx,offx+m,none⟩=some (.int .u8 (aF xs m)):=(X.o.low.cell (p:=⟨bx,offx+m,none⟩) cb).trans cx0;clear cx0;have cc:=kQ (HW.o.nth m (by omega));obtain⟨lb,ai⟩:=Zx (aF xs m);rw[<-ai]at cx cc;have bp:=Za ai;clear O ai;go_wp2_with(go_at_call 120;refine HC.o.mono ?_;rintro e w7 ⟨vi,vl,rfl,ax,hh,T,at2,left2,U⟩;refine aD ?_);obtain⟨oi,ci,rfl⟩:=aU hh.here.1.input;obtain⟨ol,cl,rfl⟩:=hh.here.1.lays.len;have C:=Za (X.o.moved T (by omega) (by omega));have bb:=Za (show aA w7 (n+2) 188 _ from(gP T HP.o.lt (by omega)).trans HP.o);have af:=Za U;have HH:=Za hh;have bq:=Za ax;have cx7:w7.cell? ⟨bx,offx+m,none⟩=some (.int .u8 lb):=(World.cell?_of_block (w:=W) (a:=⟨bx,offx+m,none⟩) (gP T (aP cx) (show bx≠n+1 by omega))).trans cx;have c0:=C.o.d.q 0 rfl;have cf0:=C.o.d.free 0;have c1:=C.o.d.q 1 rfl;have cf1:=C.o.d.free 1;have c2:=C.o.d.q 2 rfl;have cf2:=C.o.d.free 2;clear T U av hh ax cx;refine aC ?_;go_upto_region 8 with(fail);have A:=Za (C.o.set3 (by omega) (.slice oi d.input.length ci) (.slice ol d.lays.length cl) (.int .i64 d.loss));obtain⟨W8,I⟩:=Zx (((w7.setCell ⟨n,0,none⟩ (.slice oi d.input.length ci)).setCell ⟨n,1,none⟩ (.slice ol d.lays.length cl)).setCell ⟨n,2,none⟩ (.int .i64 d.loss));rw[<-I]at A ⊢;have ab:n<W.heap.size:=X.o.d.lt;have cd:=Za (show aI (aL W.heap.size W8) W8 (fun W=>oL W (.slice oi d.input.length ci) (.slice ol d.lays.length cl) d) by rw[I];exact((HH.o.set ab _).set ab _).set ab _);have av:W8.cell? ⟨n+2,0,none⟩=some (.pointer (some ⟨n+1,0,none⟩)):=by rw[I];exact(((bb.o.other (by simp) _).other (by simp) _).other (by simp) _).cell 0 rfl
   have bz:W8.cell? ⟨n+1,0,none⟩=some (.slice a all.length c):=by rw[I];exact(((af.o.box.other (by simp) _).other (by simp) _).other (by simp) _).cell 0 rfl
   have cx8:W8.cell? ⟨bx,offx+m,none⟩=some (.int .u8 lb):=by rw[I];refine Eq.trans ?_ cx7;refine World.cell?_of_block (w:=w7) (a:=⟨bx,offx+m,none⟩) ?_;rw[Below.heap_setCell _ _ _ _ (show bx≠n by omega),Below.heap_setCell _ _ _ _ (show bx≠n by omega),Below.heap_setCell _ _ _ _ (show bx≠n by omega)]
   clear I c0 c1 c2 cf0 cf1 cf2 cx7;have e0:=A.o.d.q 0 rfl;have ef0:=A.o.d.free 0;have e1:=A.o.d.q 1 rfl;have ef1:=A.o.d.free 1;have e2:=A.o.d.q 2 rfl;have ef2:=A.o.d.free 2;by_cases J:lb=10
   ·have ce:(lb==10)=true:=by rw[J];rfl
    have cf:(lb != 10)=false:=by rw[J];rfl
    have P:=Za (show gX (gR xs)=some d by
     refine T5 (by rw[<-ak.o];exact bc) (by rw[<-ak.o,<-ae.o];exact ca.o) ?_;rw[AX HM.o,<-bp.o,J];rfl)
    clear J;go_upto_region 12 with(fail);go_wp2_with fail;have V:=Za (A.o.set3 (by omega) (.slice oi d.input.length ci) (.slice ol d.lays.length cl) (.int .i64 d.loss));have cg:=Za (((cd.o.set ab _).set ab _).set ab _:aI (aL W.heap.size (((W8.setCell ⟨n,0,none⟩ (.slice oi d.input.length ci)).setCell ⟨n,1,none⟩ (.slice ol d.lays.length cl)).setCell ⟨n,2,none⟩ (.int .i64 d.loss))) (((W8.setCell ⟨n,0,none⟩ (.slice oi d.input.length ci)).setCell ⟨n,1,none⟩ (.slice ol d.lays.length cl)).setCell ⟨n,2,none⟩ (.int .i64 d.loss)) (fun W=>oL W (.slice oi d.input.length ci) (.slice ol d.lays.length cl) d));obtain⟨r0,r1,r2,r4⟩:=V.o.fin HN.o (by omega);have ag:=Za r4;have ah:=Za V.o.k;clear r4;refine⟨by simp,.inl ⟨_,_,rfl,run_takeDeferred ah.o,?_⟩⟩;refine⟨.tuple #[.agg #[.slice oi d.input.length ci,.slice ol d.lays.length cl,.int .i64 d.loss],.int .i64 0,.int .i64 0],by simp[results,Tryz.results75,go_sem,r0,r1,r2],?_⟩;exact⟨ag.o,by rw[P.o];exact⟨_,_,rfl,bq.o,(cg.o.putObj bw.o _).base (by rw[<-HN.o];omega)⟩⟩
   ·have ce:(lb==10)=false:=by rw[beq_eq_false_iff_ne];exact J
    have cf:(lb != 10)=true:=by rw[bne_iff_ne];exact J
    have P:=Za (show gX (gR xs)=none by
     refine QC (fun h=>?_);rw[AX HM.o,<-bp.o]at h;injection h with h;have h2:=congrArg UInt8.toNat h;rw[UInt8.toNat_ofNat']at h2;have h3:(10:UInt8).toNat=10:=rfl;omega)
    clear J;go_wp2_with fail;go_region;have V:=Za (A.o.set3 (by omega) (.slice none 0 0) (.slice none 0 0) (.int .i64 0)).drew;obtain⟨r0,r1,r2,r4⟩:=V.o.fin HN.o (by omega);have ag:=Za r4;have ah:=Za V.o.k;clear r4;go_wp2_with fail;refine⟨by simp,.inl ⟨_,_,rfl,run_takeDeferred ah.o,?_⟩⟩;refine⟨.tuple #[.agg #[.slice none 0 0,.slice none 0 0,.int .i64 0],.int .i64 all.length,.int .i64 1],by simp[results,Tryz.results75,go_sem,r0,r1,r2],?_⟩;exact⟨ag.o,by rw[P.o];exact⟨_,rfl⟩⟩
 case stop=>exact fun D c pre W _ _ h _=>h.elim
