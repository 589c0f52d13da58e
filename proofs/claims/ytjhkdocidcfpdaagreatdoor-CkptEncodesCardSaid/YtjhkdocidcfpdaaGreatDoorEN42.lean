/- A part of the proof. -/
import Derived.Test.YtjhkdocidcfpdaaGreatDoorEN40
set_option linter.unusedVariables false
set_option linter.unusedSimpArgs false
set_option maxRecDepth 100000
set_option maxHeartbeats 16000000
open List renaming setIfInBounds_toArray → Zf, set_cons_zero → Zg, set_cons_succ → Zh, getElem_cons_zero → Zi, getElem_cons_succ → Zj, getElem_toArray → Zk
namespace Go.Proofs.YtjhkdocidcfpdaaGreatDoor
open Go.RowKit Go.Shelf Go
theorem S3 (R:Nat) (rem rest0:List Int) (s0:aT) (w:World) (hq:cV w w R rem) (go:m8 rem=some (s0,rest0)):
  Calls Tryz.prog 27 #[.pointer (some ⟨R,0,none⟩)] w (RV w R s0 rest0):=by
 cases MS go with
 |mk r1 r2 r3 r4 r5 r6 r7 r8 r9 r10 r11 r12 r13 r14 r15 r16 r17 r18 r19 r20 r21 r22 r23 r24 r25 r26 r27 r28 f nt tx d ss kd sc y1 y2 y3 y4 y5 y6 ev ps pm pn sp mm mv ns sr a0 a1 a2 a3 no od at_ ep h1 h2 h3 fi h4 h5 hd gp h6 h7 gq gr gs gu gv gw fj gx gy gz fk ha hc fl hf hg hl hn ho fm hp r29 fn fo=>
 have kq:=nB fi;have hr:=Za fi;have HD:=Za hd;have fp:=Za gp;have kr:=(m9 h4).2;have ki:=(m9 fj).2;have kj:=(m9 fk).2;have kk:=(m9 fl).2;have kl:=(m9 fm).2;have km:=(m9 fn).2;have kn:=(m9 fo).2;have HQ:=Za hq;have H:=hq.lt;have jp:=(mD h1).1;have eh:=mD h5;have fq:=Za h1;have ht:=Za h2;have hu:=Za h3;have hv:=Za h4;have cb:=Za h5;have fr:=Za h6;have ft:=Za h7;have ei:=Za gq;have ej:=Za gr;have ek:=Za gs;have el:=Za gu;have em:=Za gv;have en:=Za gw;have eo:=Za fj;have ch:=Za gx;have eq:=Za gy;have er:=Za gz;have es:=Za fk;have cj:=Za ha;have ck:=Za hc;have hw:=Za fl;have et:=Za hf;have hx:=Za hg;have hy:=Za hl;have hz:=Za hn;have ia:=Za ho;have ib:=Za fm;have eu:=Za hp;have ic:=Za fn;have ie:=Za fo;have fu:=Za eh;clear hq go fi hd gp h1 h2 h3 h4 h5 h6 h7 gq gr gs gu gv gw fj gx gy gz fk ha hc fl hf hg hl hn ho fm hp fn fo eh;obtain⟨V0,F⟩:=Zx (w.alloc (.cells zR 47));obtain⟨E0,D⟩:∃E:Array Value,E=zR:=⟨_,rfl⟩;have fv:=Za D;have ig:=Za (show bM w R rem E0 V0 by
  rw[F,D];exact⟨HQ.o.low ((Zc w.heap.size w).alloc (Zb _) _) (Zb _),aA.new _ _ _⟩)
 have ih:=Za F;clear F D;go_enter Tryz.func27,Tryz.ntmps27;go_wp2_with(go_at_call 73;rw[<-ih.o];refine(BZ (n:=4) ig.o jp).mono ?_;rintro e w1 ⟨v,rfl,ao,B,A⟩;have cn:=Za B;have jq:=Za A;clear B A;refine aD ?_);rw[<-(mD fq.o).2.1]at ao;have HS1':=cn;clear cn;have cn:=Za (show bM w R r1 E0 w1 by have:=HS1'.o;rwa [<-(mD fq.o).2.2]at this);clear HS1';have jr:(convert 23 9 v).run Tryz.prog w1=.ok (.string ⟨#[82,67,75,80]⟩) w1:=CK ao (DE ao (by simp));refine aC ?_;go_wp2_with(first|(go_at_call 24;refine(gG _ _).mono ?_;rintro e w' ⟨rfl,rfl⟩)|(go_at_call 25;refine(lX cn.o (n:=1) (by omega) ht.o).mono ?_;rintro e w2 ⟨rfl,B,A⟩;have ii:=Za B;have js:=Za A;clear B A;refine aD ?_));clear jr ao;refine aC ?_;go_wp2_with(first|(go_at_call 24;refine(gG _ _).mono ?_;rintro e w' ⟨rfl,rfl⟩)|(go_at_call 25;refine(lX ii.o (n:=1) (by omega) hu.o).mono ?_;rintro e w3 ⟨rfl,B,A⟩;have dw:=Za B;have jt:=Za A;clear B A;refine aD ?_));have c0:w3.cell? ⟨w.heap.size,0,none⟩=some (.int .i64 0):=dw.o.box.cell 0 (by rw[fv.o];rfl);have f0:=dw.o.box.free 0;refine aC ?_;go_upto_region 3 with(fail);obtain⟨V4,F⟩:=Zx ((w3).setCell ⟨w.heap.size,0,none⟩ (.int .i64 f));obtain⟨E4,D⟩:=Zx ((E0).setIfInBounds 0 (.int .i64 f));rw[<-F];have dx:=Za (show bM w R r3 E4 V4 by rw[F,D];exact(dw.o.set 0 (.int .i64 f)));have af:=Za (show E4=#[.int .i64 f,.slice none 0 0,.slice none 0 0,.int .i64 0,.int .i64 0,.int .i64 0,.int .i64 0,.int .i64 0,.int .i64 0,.int .i64 0,.int .i64 0,.int .i64 0,.int .i64 0,.slice none 0 0,.slice none 0 0,.slice none 0 0,.int .i64 0,.int .i64 0,.int .i64 0,.slice none 0 0,.int .u64 0,.int .u64 0,.int .u64 0,.int .u64 0,.slice none 0 0,.int .i64 0,.int .i64 0] by rw[D,fv.o];simp only[Zf,Zg,Zh]);have ju:=Za (show aZ R w.heap.size w3 V4 by rw[F];exact aZ.set R w.heap.size (w3) 0 (.int .i64 f));clear F D;clear c0 f0;have c0:V4.cell? ⟨w.heap.size,0,none⟩=some (.int .i64 f):=dx.o.box.cell 0 (by rw[af.o];rfl);have f0:=dx.o.box.free 0;go_wp2_with(first|(go_at_call 24;refine(gG _ _).mono ?_;rintro e w' ⟨rfl,rfl⟩)|(go_at_call 74;refine(yO _ _).mono ?_;rintro e wg ⟨rfl,fw⟩;rw[hr.o];have fx:=Za (dx.o.next (fw.below _));have jv:=Za (aZ.of_below (R:=R) (n:=w.heap.size) (fw.below _));clear fw)|(go_at_call 76;refine(mZ fx.o (most:=8192) (by omega) hv.o).mono ?_;rintro e w5 ⟨rfl,B,A⟩;have fy:=Za B;have jw:=Za A;clear B A;refine aD ?_));clear c0 f0;refine aC ?_;have ij:nt<=r4.length:=(mD cb.o).1;go_wp2_with(go_at_call 73;refine(BZ (n:=nt) fy.o ij).mono ?_;rintro e w6 ⟨v6,rfl,ao,B,A⟩;have HS6':=Za B;have jx:=Za A;clear B A;refine aD ?_);rw[<-(mD cb.o).2.1]at ao;have fz:=Za (show bM w R r5 E4 w6 by have:=HS6'.o;rwa [<-(mD cb.o).2.2]at this);have ew:0<tx.length:=by
  rcases Nat.eq_zero_or_pos tx.length with h|h
  ·exfalso;have:=HD.o;rw[List.eq_nil_of_length_eq_zero h]at this;simp[gR,gX,dR,eF]at this
  ·exact h
 have ex:tx.length<=8192:=by rw[(mD cb.o).2.1,List.length_take];omega
 have ik:=Za (show Wf .u8 tx by rw[(mD cb.o).2.1];exact fy.o.q.wf.take nt);have cq:=Za ao;obtain⟨ot,kt,rfl⟩:=aU ao;clear HS6' ao ij;refine aC ?_;go_wp2_with(go_at_call 75;refine(PJ cq.o ik.o (DE cq.o ew) ex HD.o).mono ?_;rintro e w7 ⟨oi,ci,ol,cl,rfl,jy,hh,hb⟩;have ga:=Za hb;have gb:=Za hh;have il:=Za jy;clear hb hh;refine aD ?_);have gc:=Za (fz.o.next ga.o);have jz:=Za (aZ.of_below (R:=R) (n:=w.heap.size) ga.o);have im:w.heap.size<w6.heap.size:=fz.o.box.lt;clear ew ex;refine aC ?_;go_upto_region 5 with(fail);obtain⟨V8,F⟩:=Zx (w7.alloc (.cells #[.slice oi d.input.length ci,.slice ol d.lays.length cl,.int .i64 d.loss] 33));rw[<-F];have dy:=Za (show Below w7.heap.size w7 V8 by rw[F];exact(Zc _ _).alloc (Zb _) _);have cc:=Za (show aA V8 w7.heap.size 33 _ by rw[F];exact aA.new _ _ _);have gd:=Za (gc.o.next dy.o);have ip:=Za (aZ.of_below (R:=R) (n:=w.heap.size) dy.o);have iq:w.heap.size<w7.heap.size:=gc.o.box.lt;have ir:w.heap.size<V8.heap.size:=gd.o.box.lt;obtain⟨nb,iu⟩:=Zx w7.heap.size;have ka:=Za (show nb≠R/\nb≠w.heap.size by omega);rw[<-iu]at cc ⊢;have d0:=cc.o.cell 0 rfl;have d1:=cc.o.cell 1 rfl;have d2:=cc.o.cell 2 rfl;simp only[Zk,Zi,Zj]at d0 d1 d2;have ey:=Za ((gb.o.grow dy.o).here.1);clear F iu;go_wp2_with(go_at_call 77;refine(NN ey.o il.o fp.o).mono ?_;rintro e w9 ⟨os,cs9,rfl,cd,iv,iw,hb⟩;have dz:=Za hb;have ix:=Za iv;have gf:=Za iw;clear hb iv iw;refine aD ?_);have T:=Za (gd.o.next dz.o);have iy:=Za (aZ.of_below (R:=R) (n:=w.heap.size) dz.o);have ea:=Za (show nR R w9 (.slice os ss.length cs9) ss from⟨ix.o,fun e=>by have:=gf.o R e;omega⟩);have eb:=Za (show(Value.slice os ss.length cs9).ownBlock≠some w.heap.size from fun e=>by have:=gf.o _ e;omega);have ec:=Za (cc.o.next dz.o);clear d0 d1 d2;have d0:=ec.o.cell 0 rfl;have d1:=ec.o.cell 1 rfl;have d2:=ec.o.cell 2 rfl;simp only[Zk,Zi,Zj]at d0 d1 d2;have M:=Za (SP fp.o);have ed:=Za (show ∀(j:Nat) (x:Int),E4[j]?=some (.int .i64 x)->j≠0->x=0 from fun j x hj ks=>by
  rw[af.o]at hj;obtain⟨j',rfl⟩:∃j',j=j'+1:=⟨j-1,by omega⟩;rw[List.getElem?_toArray,List.getElem?_cons_succ]at hj;have hm:=List.mem_of_getElem? hj
  simpa using hm)
 have c1:w9.cell? ⟨w.heap.size,1,none⟩=some (.slice none 0 0):=T.o.box.cell 1 (by rw[af.o];rfl);have f1:=T.o.box.free 1;have c2:w9.cell? ⟨w.heap.size,2,none⟩=some (.slice none 0 0):=T.o.box.cell 2 (by rw[af.o];rfl);have f2:=T.o.box.free 2;have c3:w9.cell? ⟨w.heap.size,3,none⟩=some (.int .i64 0):=T.o.box.cell 3 (by rw[af.o];rfl);have f3:=T.o.box.free 3;refine aC ?_;go_upto_region 8 with((go_at_call 24;refine(gG _ _).mono ?_;rintro e w' ⟨rfl,rfl⟩));obtain⟨V10,F⟩:=Zx ((((w9).setCell ⟨w.heap.size,1,none⟩ (.slice oi d.input.length ci)).setCell ⟨w.heap.size,2,none⟩ (.slice ol d.lays.length cl)).setCell ⟨w.heap.size,3,none⟩ (.int .i64 d.loss));obtain⟨E10,D⟩:=Zx ((((E4).setIfInBounds 1 (.slice oi d.input.length ci)).setIfInBounds 2 (.slice ol d.lays.length cl)).setIfInBounds 3 (.int .i64 d.loss));rw[<-F];have cr:=Za (show bM w R r5 E10 V10 by rw[F,D];exact(((T.o.set 1 (.slice oi d.input.length ci)).set 2 (.slice ol d.lays.length cl)).set 3 (.int .i64 d.loss)));have bj:=Za (show E10=#[.int .i64 f,.slice oi d.input.length ci,.slice ol d.lays.length cl,.int .i64 d.loss,.int .i64 0,.int .i64 0,.int .i64 0,.int .i64 0,.int .i64 0,.int .i64 0,.int .i64 0,.int .i64 0,.int .i64 0,.slice none 0 0,.slice none 0 0,.slice none 0 0,.int .i64 0,.int .i64 0,.int .i64 0,.slice none 0 0,.int .u64 0,.int .u64 0,.int .u64 0,.int .u64 0,.slice none 0 0,.int .i64 0,.int .i64 0] by rw[D,af.o];simp only[Zf,Zg,Zh]);have ar:=Za (show aZ R w.heap.size w9 V10 by rw[F];exact((aZ.set R w.heap.size (w9) 1 (.slice oi d.input.length ci)).trans (aZ.set R w.heap.size ((w9).setCell ⟨w.heap.size,1,none⟩ (.slice oi d.input.length ci)) 2 (.slice ol d.lays.length cl))).trans (aZ.set R w.heap.size (((w9).setCell ⟨w.heap.size,1,none⟩ (.slice oi d.input.length ci)).setCell ⟨w.heap.size,2,none⟩ (.slice ol d.lays.length cl)) 3 (.int .i64 d.loss)));clear F D;clear c1 f1 c2 f2 c3 f3;clear d0 d1 d2;have kb:=zH fr.o cr.o.q.wf;go_wp2_with(first|(go_at_call 24;refine(gG _ _).mono ?_;rintro e w' ⟨rfl,rfl⟩)|(go_at_call 25;refine(lX cr.o (n:=1) (by omega) fr.o).mono ?_;rintro e w11 ⟨rfl,B,A⟩;have cw:=Za B;have av:=Za A;clear B A;refine aD ?_));have iz:=zH ft.o cw.o.q.wf;refine aC ?_;go_wp2_with(first|(go_at_call 24;refine(gG _ _).mono ?_;rintro e w' ⟨rfl,rfl⟩)|(go_at_call 25;refine(lX cw.o (n:=1) (by omega) ft.o).mono ?_;rintro e w12 ⟨rfl,B,A⟩;have ag:=Za B;have aw:=Za A;clear B A;refine aD ?_));have c4:w12.cell? ⟨w.heap.size,4,none⟩=some (.int .i64 0):=ag.o.box.cell 4 (by rw[bj.o];rfl);have f4:=ag.o.box.free 4;have c11:w12.cell? ⟨w.heap.size,11,none⟩=some (.int .i64 0):=ag.o.box.cell 11 (by rw[bj.o];rfl);have f11:=ag.o.box.free 11;refine aC ?_;go_upto_region 10 with(fail);obtain⟨V13,F⟩:=Zx (((w12).setCell ⟨w.heap.size,4,none⟩ (.int .i64 kd)).setCell ⟨w.heap.size,11,none⟩ (.int .i64 sc));obtain⟨E13,D⟩:=Zx (((E10).setIfInBounds 4 (.int .i64 kd)).setIfInBounds 11 (.int .i64 sc));rw[<-F];have cy:=Za (show bM w R r7 E13 V13 by rw[F,D];exact((ag.o.set 4 (.int .i64 kd)).set 11 (.int .i64 sc)));have Y:=Za (show E13=#[.int .i64 f,.slice oi d.input.length ci,.slice ol d.lays.length cl,.int .i64 d.loss,.int .i64 kd,.int .i64 0,.int .i64 0,.int .i64 0,.int .i64 0,.int .i64 0,.int .i64 0,.int .i64 sc,.int .i64 0,.slice none 0 0,.slice none 0 0,.slice none 0 0,.int .i64 0,.int .i64 0,.int .i64 0,.slice none 0 0,.int .u64 0,.int .u64 0,.int .u64 0,.int .u64 0,.slice none 0 0,.int .i64 0,.int .i64 0] by rw[D,bj.o];simp only[Zf,Zg,Zh]);have ax:=Za (show aZ R w.heap.size w12 V13 by rw[F];exact(aZ.set R w.heap.size (w12) 4 (.int .i64 kd)).trans (aZ.set R w.heap.size ((w12).setCell ⟨w.heap.size,4,none⟩ (.int .i64 kd)) 11 (.int .i64 sc)));clear F D;clear c4 f4 c11 f11;go_region;obtain⟨pb,ee⟩:=Zx V13.heap.size;obtain⟨V14,F⟩:=Zx ((V13.alloc (.cells #[.pointer (some ⟨w.heap.size,5,none⟩),.pointer (some ⟨w.heap.size,6,none⟩),.pointer (some ⟨w.heap.size,7,none⟩),.pointer (some ⟨w.heap.size,8,none⟩),.pointer (some ⟨w.heap.size,9,none⟩),.pointer (some ⟨w.heap.size,10,none⟩)] 137)).drew);rw[<-F,<-ee];have cz:Below V13.heap.size V13 V14:=by rw[F];exact((Zc _ _).alloc (Zb _) _).drew
 have da:=Za (show aA V14 pb 137 #[.pointer (some ⟨w.heap.size,5,none⟩),.pointer (some ⟨w.heap.size,6,none⟩),.pointer (some ⟨w.heap.size,7,none⟩),.pointer (some ⟨w.heap.size,8,none⟩),.pointer (some ⟨w.heap.size,9,none⟩),.pointer (some ⟨w.heap.size,10,none⟩)] by rw[F,ee];exact LL _ _ _);have ez:=Za (cy.o.next cz);have ay:=Za (aZ.of_below (R:=R) (n:=w.heap.size) cz);have db:w.heap.size<pb:=by rw[ee];exact cy.o.box.lt
 have fa:R<pb:=Nat.lt_trans H db;clear cz F ee;go_wp2;go_loopw[89] (fun i wr=>Hid (aZ R w.heap.size V14 wr)/\((i=.int .i64 0/\Hid (bM w R r7 E13 wr))\/(i=.int .i64 1/\Hid (bM w R r8 (E13.setIfInBounds 5 (.int .i64 y1)) wr))\/(i=.int .i64 2/\Hid (bM w R r9 ((E13.setIfInBounds 5 (.int .i64 y1)).setIfInBounds 6 (.int .i64 y2)) wr))\/(i=.int .i64 3/\Hid (bM w R r10 (((E13.setIfInBounds 5 (.int .i64 y1)).setIfInBounds 6 (.int .i64 y2)).setIfInBounds 7 (.int .i64 y3)) wr))\/(i=.int .i64 4/\Hid (bM w R r11 ((((E13.setIfInBounds 5 (.int .i64 y1)).setIfInBounds 6 (.int .i64 y2)).setIfInBounds 7 (.int .i64 y3)).setIfInBounds 8 (.int .i64 y4)) wr))\/(i=.int .i64 5/\Hid (bM w R r12 (((((E13.setIfInBounds 5 (.int .i64 y1)).setIfInBounds 6 (.int .i64 y2)).setIfInBounds 7 (.int .i64 y3)).setIfInBounds 8 (.int .i64 y4)).setIfInBounds 9 (.int .i64 y5)) wr))\/(i=.int .i64 6/\Hid (bM w R r13 ((((((E13.setIfInBounds 5 (.int .i64 y1)).setIfInBounds 6 (.int .i64 y2)).setIfInBounds 7 (.int .i64 y3)).setIfInBounds 8 (.int .i64 y4)).setIfInBounds 9 (.int .i64 y5)).setIfInBounds 10 (.int .i64 y6)) wr)))) (fun i _=>6-(intOf i).toNat)
 case atStart=>exact⟨Za (aZ.refl _ _ _),.inl ⟨rfl,ez⟩⟩
 case round=>
  obtain⟨L,be⟩:=hrel;obtain⟨wl,rfl⟩:=Zx wr;have V:=Za (da.o.keepSt L.o (Nat.ne_of_gt fa) (Nat.ne_of_gt db));rcases be with⟨rfl,G⟩|⟨rfl,G⟩|⟨rfl,G⟩|⟨rfl,G⟩|⟨rfl,G⟩|⟨rfl,G⟩|⟨rfl,G⟩
  ·have cp:=V.o.q 0 rfl;have cp':wl.cell? ⟨pb,0+0,none⟩=some (.pointer (some ⟨w.heap.size,5,none⟩)):=V.o.cell 0 rfl;go_wp2_with(go_at_call 78;refine(nL G.o ei.o).mono ?_;rintro e wm ⟨g,cg,rfl,bf,ce,B,A⟩;have C:=Za B;have I:=Za A;clear B A;refine aD ?_);have cs:wm.cell? ⟨w.heap.size,5,none⟩=some (.int .i64 0):=C.o.box.cell 5 (by rw[Y.o];simp);have fs:=C.o.box.free 5;refine aC ?_;go_wp2;go_roundw
   case rel=>exact⟨Za (L.o.trans (I.o.trans (aZ.set R w.heap.size wm 5 _))),(.inr (.inl ⟨by go_num,Za (C.o.set 5 (.int .i64 y1))⟩))⟩
   case measure=>simp[intOf]
  ·have cp:=V.o.q 1 rfl;have cp':wl.cell? ⟨pb,0+1,none⟩=some (.pointer (some ⟨w.heap.size,6,none⟩)):=V.o.cell 1 rfl;go_wp2_with(go_at_call 78;refine(nL G.o ej.o).mono ?_;rintro e wm ⟨g,cg,rfl,bf,ce,B,A⟩;have C:=Za B;have I:=Za A;clear B A;refine aD ?_);have cs:wm.cell? ⟨w.heap.size,6,none⟩=some (.int .i64 0):=C.o.box.cell 6 (by rw[Y.o];simp);have fs:=C.o.box.free 6;refine aC ?_;go_wp2;go_roundw
   case rel=>exact⟨Za (L.o.trans (I.o.trans (aZ.set R w.heap.size wm 6 _))),(.inr (.inr (.inl ⟨by go_num,Za (C.o.set 6 (.int .i64 y2))⟩)))⟩
   case measure=>simp[intOf]
  ·have cp:=V.o.q 2 rfl;have cp':wl.cell? ⟨pb,0+2,none⟩=some (.pointer (some ⟨w.heap.size,7,none⟩)):=V.o.cell 2 rfl;go_wp2_with(go_at_call 78;refine(nL G.o ek.o).mono ?_;rintro e wm ⟨g,cg,rfl,bf,ce,B,A⟩;have C:=Za B;have I:=Za A;clear B A;refine aD ?_);have cs:wm.cell? ⟨w.heap.size,7,none⟩=some (.int .i64 0):=C.o.box.cell 7 (by rw[Y.o];simp);have fs:=C.o.box.free 7;refine aC ?_;go_wp2;go_roundw
   case rel=>exact⟨Za (L.o.trans (I.o.trans (aZ.set R w.heap.size wm 7 _))),(.inr (.inr (.inr (.inl ⟨by go_num,Za (C.o.set 7 (.int .i64 y3))⟩))))⟩
   case measure=>simp[intOf]
  ·have cp:=V.o.q 3 rfl;have cp':wl.cell? ⟨pb,0+3,none⟩=some (.pointer (some ⟨w.heap.size,8,none⟩)):=V.o.cell 3 rfl;go_wp2_with(go_at_call 78;refine(nL G.o el.o).mono ?_;rintro e wm ⟨g,cg,rfl,bf,ce,B,A⟩;have C:=Za B;have I:=Za A;clear B A;refine aD ?_);have cs:wm.cell? ⟨w.heap.size,8,none⟩=some (.int .i64 0):=C.o.box.cell 8 (by rw[Y.o];simp);have fs:=C.o.box.free 8;refine aC ?_;go_wp2;go_roundw
   case rel=>exact⟨Za (L.o.trans (I.o.trans (aZ.set R w.heap.size wm 8 _))),(.inr (.inr (.inr (.inr (.inl ⟨by go_num,Za (C.o.set 8 (.int .i64 y4))⟩)))))⟩
   case measure=>simp[intOf]
  ·have cp:=V.o.q 4 rfl;have cp':wl.cell? ⟨pb,0+4,none⟩=some (.pointer (some ⟨w.heap.size,9,none⟩)):=V.o.cell 4 rfl;go_wp2_with(go_at_call 78;refine(nL G.o em.o).mono ?_;rintro e wm ⟨g,cg,rfl,bf,ce,B,A⟩;have C:=Za B;have I:=Za A;clear B A;refine aD ?_);have cs:wm.cell? ⟨w.heap.size,9,none⟩=some (.int .i64 0):=C.o.box.cell 9 (by rw[Y.o];simp);have fs:=C.o.box.free 9;refine aC ?_;go_wp2;go_roundw
   case rel=>exact⟨Za (L.o.trans (I.o.trans (aZ.set R w.heap.size wm 9 _))),(.inr (.inr (.inr (.inr (.inr (.inl ⟨by go_num,Za (C.o.set 9 (.int .i64 y5))⟩))))))⟩
   case measure=>simp[intOf]
  ·have cp:=V.o.q 5 rfl;have cp':wl.cell? ⟨pb,0+5,none⟩=some (.pointer (some ⟨w.heap.size,10,none⟩)):=V.o.cell 5 rfl;go_wp2_with(go_at_call 78;refine(nL G.o en.o).mono ?_;rintro e wm ⟨g,cg,rfl,bf,ce,B,A⟩;have C:=Za B;have I:=Za A;clear B A;refine aD ?_);have cs:wm.cell? ⟨w.heap.size,10,none⟩=some (.int .i64 0):=C.o.box.cell 10 (by rw[Y.o];simp);have fs:=C.o.box.free 10;refine aC ?_;go_wp2;go_roundw
   case rel=>exact⟨Za (L.o.trans (I.o.trans (aZ.set R w.heap.size wm 10 _))),(.inr (.inr (.inr (.inr (.inr (.inr ⟨by go_num,Za (C.o.set 10 (.int .i64 y6))⟩))))))⟩
   case measure=>simp[intOf]
  ·have dc:=G;have ah:=L;obtain⟨V15,F⟩:=Zx wl;obtain⟨E15,D⟩:=Zx (((((((E13.setIfInBounds 5 (.int .i64 y1)).setIfInBounds 6 (.int .i64 y2)).setIfInBounds 7 (.int .i64 y3)).setIfInBounds 8 (.int .i64 y4)).setIfInBounds 9 (.int .i64 y5)).setIfInBounds 10 (.int .i64 y6)));rw[<-D,<-F]at dc;rw[<-F]at ah ⊢;have dd:=Za (show E15=#[.int .i64 f,.slice oi d.input.length ci,.slice ol d.lays.length cl,.int .i64 d.loss,.int .i64 kd,.int .i64 y1,.int .i64 y2,.int .i64 y3,.int .i64 y4,.int .i64 y5,.int .i64 y6,.int .i64 sc,.int .i64 0,.slice none 0 0,.slice none 0 0,.slice none 0 0,.int .i64 0,.int .i64 0,.int .i64 0,.slice none 0 0,.int .u64 0,.int .u64 0,.int .u64 0,.int .u64 0,.slice none 0 0,.int .i64 0,.int .i64 0] by rw[D,Y.o];simp only[Zf,Zg,Zh]);clear D F G L V da;go_wp2_with(first|(go_at_call 24;refine(gG _ _).mono ?_;rintro e w' ⟨rfl,rfl⟩)|(go_at_call 76;refine(mZ dc.o (most:=1048576) (by omega) eo.o).mono ?_;rintro e w16 ⟨rfl,B,A⟩;have bk:=Za B;have az:=Za A;clear B A;refine aD ?_));have c12:w16.cell? ⟨w.heap.size,12,none⟩=some (.int .i64 0):=bk.o.box.cell 12 (by rw[dd.o];rfl);have f12:=bk.o.box.free 12;refine aC ?_;go_upto_region 16 with(fail);obtain⟨V17,F⟩:=Zx ((w16).setCell ⟨w.heap.size,12,none⟩ (.int .i64 ev));obtain⟨E17,D⟩:=Zx ((E15).setIfInBounds 12 (.int .i64 ev));rw[<-F];have bl:=Za (show bM w R r14 E17 V17 by rw[F,D];exact(bk.o.set 12 (.int .i64 ev)));have bm:=Za (show E17=#[.int .i64 f,.slice oi d.input.length ci,.slice ol d.lays.length cl,.int .i64 d.loss,.int .i64 kd,.int .i64 y1,.int .i64 y2,.int .i64 y3,.int .i64 y4,.int .i64 y5,.int .i64 y6,.int .i64 sc,.int .i64 ev,.slice none 0 0,.slice none 0 0,.slice none 0 0,.int .i64 0,.int .i64 0,.int .i64 0,.slice none 0 0,.int .u64 0,.int .u64 0,.int .u64 0,.int .u64 0,.slice none 0 0,.int .i64 0,.int .i64 0] by rw[D,dd.o];simp only[Zf,Zg,Zh]);have ba:=Za (show aZ R w.heap.size w16 V17 by rw[F];exact aZ.set R w.heap.size (w16) 12 (.int .i64 ev));clear F D;clear c12 f12;have cf:=Za (yK ea.o T.o.box T.o.q.at_ ed.o M.o.2 eb.o ((((((((ar.o).trans av.o).trans aw.o).trans ax.o).trans ay.o).trans ah.o).trans az.o).trans ba.o) bl.o.box (by rw[bm.o,af.o];rfl));have kc:=Za (yF ch.o bl.o.q.wf M.o.1 cd);go_wp2_with(first|(go_at_call 24;refine(gG _ _).mono ?_;rintro e w' ⟨rfl,rfl⟩)|(go_at_call 79;refine(vC bl.o cf.o M.o.1 cd ch.o).mono ?_;rintro e w18 ⟨op,cp,rfl,bb,B,A⟩;have bn:=Za B;have bo:=Za A;clear B A;refine aD ?_));have ja:=Za bb;clear bb cf;have c13:w18.cell? ⟨w.heap.size,13,none⟩=some (.slice none 0 0):=bn.o.box.cell 13 (by rw[bm.o];rfl);have f13:=bn.o.box.free 13;refine aC ?_;go_upto_region 17 with(fail);obtain⟨V19,F⟩:=Zx ((w18).setCell ⟨w.heap.size,13,none⟩ (.slice op ps.length cp));obtain⟨E19,D⟩:=Zx ((E17).setIfInBounds 13 (.slice op ps.length cp));rw[<-F];have fb:=Za (show bM w R r15 E19 V19 by rw[F,D];exact(bn.o.set 13 (.slice op ps.length cp)));have bp:=Za (show E19=#[.int .i64 f,.slice oi d.input.length ci,.slice ol d.lays.length cl,.int .i64 d.loss,.int .i64 kd,.int .i64 y1,.int .i64 y2,.int .i64 y3,.int .i64 y4,.int .i64 y5,.int .i64 y6,.int .i64 sc,.int .i64 ev,.slice op ps.length cp,.slice none 0 0,.slice none 0 0,.int .i64 0,.int .i64 0,.int .i64 0,.slice none 0 0,.int .u64 0,.int .u64 0,.int .u64 0,.int .u64 0,.slice none 0 0,.int .i64 0,.int .i64 0] by rw[D,bm.o];simp only[Zf,Zg,Zh]);have bc:=Za (show aZ R w.heap.size w18 V19 by rw[F];exact aZ.set R w.heap.size (w18) 13 (.slice op ps.length cp));clear F D;clear c13 f13;go_upto_region 18 with(fail);have ef:=Za (fb.o.next ((Zc _ _).drew));have jb:=Za (aZ.of_below (R:=R) (n:=w.heap.size) ((Zc V19.heap.size V19).drew))
   go_cut[110] (fun s110 wx=>s110=.pointer (some ⟨w.heap.size,14,none⟩)/\bM w R r17 (((E19).setIfInBounds 16 (.int .i64 pm)).setIfInBounds 17 (.int .i64 pn)) wx/\aZ R w.heap.size V19 wx)
   case first=>
    go_region_with(first|(go_at_call 78;(with_reducible refine(nL ef.o eq.o).mono ?_);rintro e w20 ⟨g,cg,rfl,bf,ce,B,A⟩;have bq:=Za B;have ac:=Za A;clear B A)|(go_at_call 78;(with_reducible refine(nL bq.o er.o).mono ?_);rintro e w21 ⟨g2,cg2,rfl,ko,kp,B,A⟩;have N:=Za B;have Z:=Za A;clear B A;have hgc':w21.cell? ⟨g,0,none⟩=some (.int .i64 pm):=VI Z.o bf (by have:=ef.o.box.lt;omega) (by have:=ef.o.box.lt;omega);have c16:w21.cell? ⟨w.heap.size,16,none⟩=some (.int .i64 0):=N.o.box.cell 16 (by rw[bp.o];rfl);have f16:=N.o.box.free 16;have c17:w21.cell? ⟨w.heap.size,17,none⟩=some (.int .i64 0):=N.o.box.cell 17 (by rw[bp.o];rfl);have f17:=N.o.box.free 17))
    all_goals(go_wp2_with fail;go_meet;exact⟨rfl,(N.o.set 16 _).set 17 _,jb.o.trans (ac.o.trans (Z.o.trans ((aZ.set R w.heap.size w21 16 _).trans (aZ.set R w.heap.size _ 17 _))))⟩)
   case rest=>
    as_aux_lemma=>
     obtain⟨rfl,B,A⟩:=hcut;obtain⟨w22,rfl⟩:=Zx wc;obtain⟨E20,D⟩:=Zx (((E19).setIfInBounds 16 (.int .i64 pm)).setIfInBounds 17 (.int .i64 pn));rw[<-D]at B;have bq:=Za B;have ac:=Za A;have de:=Za (show E20=#[.int .i64 f,.slice oi d.input.length ci,.slice ol d.lays.length cl,.int .i64 d.loss,.int .i64 kd,.int .i64 y1,.int .i64 y2,.int .i64 y3,.int .i64 y4,.int .i64 y5,.int .i64 y6,.int .i64 sc,.int .i64 ev,.slice op ps.length cp,.slice none 0 0,.slice none 0 0,.int .i64 pm,.int .i64 pn,.int .i64 0,.slice none 0 0,.int .u64 0,.int .u64 0,.int .u64 0,.int .u64 0,.slice none 0 0,.int .i64 0,.int .i64 0] by rw[D,bp.o];simp only[Zf,Zg,Zh]);clear D B A;clear ef jb;go_wp2_with(first|(go_at_call 24;refine(gG _ _).mono ?_;rintro e w' ⟨rfl,rfl⟩)|(go_at_call 76;refine(mZ bq.o (most:=1048576) (by omega) es.o).mono ?_;rintro e w23 ⟨rfl,B,A⟩;have N:=Za B;have Z:=Za A;clear B A;refine aD ?_));have c18:w23.cell? ⟨w.heap.size,18,none⟩=some (.int .i64 0):=N.o.box.cell 18 (by rw[de.o];rfl);have f18:=N.o.box.free 18;refine aC ?_;go_upto_region 20 with(fail);obtain⟨V22,F⟩:=Zx ((w23).setCell ⟨w.heap.size,18,none⟩ (.int .i64 sp));obtain⟨E22,D⟩:=Zx ((E20).setIfInBounds 18 (.int .i64 sp));rw[<-F];have aa:=Za (show bM w R r18 E22 V22 by rw[F,D];exact(N.o.set 18 (.int .i64 sp)));have ai:=Za (show E22=#[.int .i64 f,.slice oi d.input.length ci,.slice ol d.lays.length cl,.int .i64 d.loss,.int .i64 kd,.int .i64 y1,.int .i64 y2,.int .i64 y3,.int .i64 y4,.int .i64 y5,.int .i64 y6,.int .i64 sc,.int .i64 ev,.slice op ps.length cp,.slice none 0 0,.slice none 0 0,.int .i64 pm,.int .i64 pn,.int .i64 sp,.slice none 0 0,.int .u64 0,.int .u64 0,.int .u64 0,.int .u64 0,.slice none 0 0,.int .i64 0,.int .i64 0] by rw[D,de.o];simp only[Zf,Zg,Zh]);have bd:=Za (show aZ R w.heap.size w23 V22 by rw[F];exact aZ.set R w.heap.size (w23) 18 (.int .i64 sp));clear F D;clear c18 f18;have ke:=Za (show eR mm by rcases cj.o with h|h;exact yF h.2 aa.o.q.wf M.o.1 cd;rw[h.2.1];exact FH)
     go_cut[140] (fun b wx=>b=.bool (decide ((kd:Int)=2\/(kd:Int)=3))/\wx=V22)
     case first=>
      have c4:V22.cell? ⟨w.heap.size,4,none⟩=some (.int .i64 kd):=aa.o.box.cell 4 (by rw[ai.o];rfl);have f4:=aa.o.box.free 4;by_cases k2:kd=2
      ·have e2:decide ((kd:Int)=2)=true:=decide_eq_true (by omega);have e4:decide ((kd:Int)=2\/(kd:Int)=3)=true:=decide_eq_true (by omega);go_wp2_with fail;go_meet
       case rel=>exact⟨by rw[e4]<;>(simp<;>omega),rfl⟩
      ·have e2:decide ((kd:Int)=2)=false:=decide_eq_false (by omega);by_cases k3:kd=3
       ·have e3:decide ((kd:Int)=3)=true:=decide_eq_true (by omega);have e4:decide ((kd:Int)=2\/(kd:Int)=3)=true:=decide_eq_true (by omega);go_wp2_with fail;go_meet
        case rel=>exact⟨by rw[e4]<;>(simp<;>omega),rfl⟩
       ·have e3:decide ((kd:Int)=3)=false:=decide_eq_false (by omega);have e4:decide ((kd:Int)=2\/(kd:Int)=3)=false:=decide_eq_false (by omega);go_wp2_with fail;go_meet
        case rel=>exact⟨by rw[e4]<;>(simp<;>omega),rfl⟩
     case rest=>
      as_aux_lemma=>
       obtain⟨rfl,bg⟩:=hcut;have bg:=bg.symm;subst bg;go_upto_if 140 with fail
       go_cut[11] (fun p wx=>p=.pointer (some ⟨w.heap.size,14,none⟩)/\∃o c,bM w R r19 (E22.setIfInBounds 14 (.slice o mm.length c)) wx/\aZ R w.heap.size V22 wx/\aI (aL (w.heap.size+1) wx) wx (fun W=>lP W (.slice o mm.length c) mm))
       case first=>
        have ap:=cj;by_cases A:(kd:Int)=2\/(kd:Int)=3
        ·have dk:decide ((kd:Int)=2\/(kd:Int)=3)=true:=decide_eq_true A;have HT:=Za (show dH ss r18=some (mm,r19) by
          rcases ap.o with h|h
          ·exact h.2
          ·exact absurd A h.1)
         rw[dk];clear dk A ap;have cf:=Za (yK ea.o T.o.box T.o.q.at_ ed.o M.o.2 eb.o (((((((((((((ar.o).trans av.o).trans aw.o).trans ax.o).trans ay.o).trans ah.o).trans az.o).trans ba.o).trans bo.o).trans bc.o).trans ac.o).trans Z.o).trans bd.o) aa.o.box (by rw[ai.o,af.o];rfl));go_wp2_with(go_at_call 79;refine(vC aa.o cf.o M.o.1 cd HT.o).mono ?_;rintro e wt ⟨ot,ct,rfl,bb,B,A⟩;have gg:=Za bb;have bh:=Za B;have gh:=Za A;clear bb B A;refine aD ?_);have ct':wt.cell? ⟨w.heap.size,14,none⟩=some (.slice none 0 0):=bh.o.box.cell 14 (by rw[ai.o];rfl);have ft':=bh.o.box.free 14;refine aC ?_;go_wp2_with fail;go_meet
         case rel=>exact⟨rfl,ot,ct,bh.o.set 14 _,gh.o.trans (aZ.set R w.heap.size wt 14 _),(gg.o.keep (aZ.set R w.heap.size wt 14 _) (Nat.lt_succ_of_lt H) (Nat.lt_succ_self _)).mono fun k A=>A⟩
        ·have dk:decide ((kd:Int)=2\/(kd:Int)=3)=false:=decide_eq_false A;obtain⟨X,ad⟩:mm=[]/\r19=r18:=by
          rcases ap.o with h|h
          ·exact absurd h.1 A
          ·exact h.2
         rw[dk];clear dk A ap;have df:E22.setIfInBounds 14 (.slice none mm.length 0)=E22:=by rw[X,ai.o];simp only[Zf,Zg,Zh,List.length_nil]
         have gi:=Za (show bM w R r19 (E22.setIfInBounds 14 (.slice none mm.length 0)) V22 by rw[df,ad];exact aa.o);have gj:=Za (show aI (aL (w.heap.size+1) V22) V22 (fun W=>lP W (.slice none mm.length 0) mm) by rw[X];exact((iK.start V22 R).fin (by simp)).base (by have:=aa.o.box.lt;omega));clear X ad df;go_wp2_with fail;go_meet
         case rel=>exact⟨rfl,none,0,gi.o,aZ.refl _ _ _,gj.o⟩
       case rest=>
        as_aux_lemma=>
         obtain⟨rfl,om,cm,B,A,hh⟩:=hcut;obtain⟨w23,rfl⟩:=Zx wc;have jc:=Za hh;clear hh;obtain⟨E23,D⟩:=Zx (E22.setIfInBounds 14 (.slice om mm.length cm));rw[<-D]at B;have ab:=Za B;have br:=Za A;have aj:=Za (show E23=#[.int .i64 f,.slice oi d.input.length ci,.slice ol d.lays.length cl,.int .i64 d.loss,.int .i64 kd,.int .i64 y1,.int .i64 y2,.int .i64 y3,.int .i64 y4,.int .i64 y5,.int .i64 y6,.int .i64 sc,.int .i64 ev,.slice op ps.length cp,.slice om mm.length cm,.slice none 0 0,.int .i64 pm,.int .i64 pn,.int .i64 sp,.slice none 0 0,.int .u64 0,.int .u64 0,.int .u64 0,.int .u64 0,.slice none 0 0,.int .i64 0,.int .i64 0] by rw[D,ai.o];simp only[Zf,Zg,Zh]);clear D B A;go_upto_region 22 with(fail);have kf:=Za (show eR mv by rcases ck.o with h|h;exact yF h.2 ab.o.q.wf M.o.1 cd;rw[h.2.1];exact FH)
         go_cut[151] (fun b wx=>b=.bool (decide ((kd:Int)=3))/\wx=w23)
         case first=>
          have c4:w23.cell? ⟨w.heap.size,4,none⟩=some (.int .i64 kd):=ab.o.box.cell 4 (by rw[aj.o];rfl);have f4:=ab.o.box.free 4;go_wp2_with fail;go_meet
          case rel=>exact⟨by first|rfl|simp,rfl⟩
         case rest=>
          as_aux_lemma=>
           obtain⟨rfl,bg⟩:=hcut;have bg:=bg.symm;subst bg;go_upto_if 151 with fail
           go_cut[11] (fun p wx=>p=.pointer (some ⟨w.heap.size,14,none⟩)/\∃o c,bM w R r20 (E23.setIfInBounds 15 (.slice o mv.length c)) wx/\aZ R w.heap.size w23 wx/\aI (aL (w.heap.size+1) wx) wx (fun W=>lP W (.slice o mv.length c) mv))
           case first=>
            have ap:=ck;by_cases A:(kd:Int)=3
            ·have dk:decide ((kd:Int)=3)=true:=decide_eq_true A;have HT:=Za (show dH ss r19=some (mv,r20) by
              rcases ap.o with h|h
              ·exact h.2
              ·exact absurd A h.1)
             rw[dk];clear dk A ap;have cf:=Za (yK ea.o T.o.box T.o.q.at_ ed.o M.o.2 eb.o ((((((((((((((ar.o).trans av.o).trans aw.o).trans ax.o).trans ay.o).trans ah.o).trans az.o).trans ba.o).trans bo.o).trans bc.o).trans ac.o).trans Z.o).trans bd.o).trans br.o) ab.o.box (by rw[aj.o,af.o];rfl));go_wp2_with(go_at_call 79;refine(vC ab.o cf.o M.o.1 cd HT.o).mono ?_;rintro e wt ⟨ot,ct,rfl,bb,B,A⟩;have gg:=Za bb;have bh:=Za B;have gh:=Za A;clear bb B A;refine aD ?_);have ct':wt.cell? ⟨w.heap.size,15,none⟩=some (.slice none 0 0):=bh.o.box.cell 15 (by rw[aj.o];rfl);have ft':=bh.o.box.free 15;refine aC ?_;go_wp2_with fail;go_meet
             case rel=>exact⟨rfl,ot,ct,bh.o.set 15 _,gh.o.trans (aZ.set R w.heap.size wt 15 _),(gg.o.keep (aZ.set R w.heap.size wt 15 _) (Nat.lt_succ_of_lt H) (Nat.lt_succ_self _)).mono fun k A=>A⟩
            ·have dk:decide ((kd:Int)=3)=false:=decide_eq_false A;obtain⟨X,ad⟩:mv=[]/\r20=r19:=by
              rcases ap.o with h|h
              ·exact absurd h.1 A
              ·exact h.2
             rw[dk];clear dk A ap;have df:E23.setIfInBounds 15 (.slice none mv.length 0)=E23:=by rw[X,aj.o];simp only[Zf,Zg,Zh,List.length_nil]
             have gi:=Za (show bM w R r20 (E23.setIfInBounds 15 (.slice none mv.length 0)) w23 by rw[df,ad];exact ab.o);have gj:=Za (show aI (aL (w.heap.size+1) w23) w23 (fun W=>lP W (.slice none mv.length 0) mv) by rw[X];exact((iK.start w23 R).fin (by simp)).base (by have:=ab.o.box.lt;omega));clear X ad df;go_wp2_with fail;go_meet
             case rel=>exact⟨rfl,none,0,gi.o,aZ.refl _ _ _,gj.o⟩
           case rest=>
            as_aux_lemma=>
             obtain⟨rfl,ov,cv,B,A,hh⟩:=hcut;obtain⟨w24,rfl⟩:=Zx wc;have jd:=Za hh;clear hh;obtain⟨E24,D⟩:=Zx (E23.setIfInBounds 15 (.slice ov mv.length cv));rw[<-D]at B;have je:=Za B;have bs:=Za A;have dg:=Za (show E24=#[.int .i64 f,.slice oi d.input.length ci,.slice ol d.lays.length cl,.int .i64 d.loss,.int .i64 kd,.int .i64 y1,.int .i64 y2,.int .i64 y3,.int .i64 y4,.int .i64 y5,.int .i64 y6,.int .i64 sc,.int .i64 ev,.slice op ps.length cp,.slice om mm.length cm,.slice ov mv.length cv,.int .i64 pm,.int .i64 pn,.int .i64 sp,.slice none 0 0,.int .u64 0,.int .u64 0,.int .u64 0,.int .u64 0,.slice none 0 0,.int .i64 0,.int .i64 0] by rw[D,aj.o];simp only[Zf,Zg,Zh]);clear D B A;have jf:=Za (show aI (aL (w.heap.size+1) w24) w24 (fun U=>(oL U (.slice oi d.input.length ci) (.slice ol d.lays.length cl) d/\lP U (.slice op ps.length cp) ps)/\lP U (.slice om mm.length cm) mm/\lP U (.slice ov mv.length cv) mv)from(((gb.o.base (Nat.succ_le_of_lt im)).keep (((((((((((((((((ip.o).trans iy.o).trans ar.o).trans av.o).trans aw.o).trans ax.o).trans ay.o).trans ah.o).trans az.o).trans ba.o).trans bo.o).trans bc.o).trans ac.o).trans Z.o).trans bd.o).trans br.o).trans bs.o) (Nat.lt_succ_of_lt H) (Nat.lt_succ_self _)).and (ja.o.keep ((((((bc.o).trans ac.o).trans Z.o).trans bd.o).trans br.o).trans bs.o) (Nat.lt_succ_of_lt H) (Nat.lt_succ_self _))).and ((jc.o.keep (bs.o) (Nat.lt_succ_of_lt H) (Nat.lt_succ_self _)).and (jd.o.keep ((aZ.refl R w.heap.size w24)) (Nat.lt_succ_of_lt H) (Nat.lt_succ_self _))))
             try clear hr
             try clear HQ
             try clear ik
             try clear cq
             try clear ga
             try clear gb
             try clear ey
             try clear cc
             try clear ix
             try clear gf
             try clear ea
             try clear eb
             try clear ec
             try clear ed
             try clear M
             try clear ja
             try clear jc
             try clear jd
             try clear dy
             try clear dz
             try clear ka
             try clear HD
             try clear fp
             try clear fx
             try clear jv
             try clear ih
             try clear kb
             try clear iz
             try clear fx
             try clear im
             try clear iq
             try clear ir
             try clear db
             try clear fa
             try clear da
             try clear fq
             try clear ht
             try clear hu
             try clear hv
             try clear cb
             try clear fr
             try clear ft
             try clear ei
             try clear ej
             try clear ek
             try clear el
             try clear em
             try clear en
             try clear eo
             try clear ch
             try clear eq
             try clear er
             try clear es
             try clear cj
             try clear ck
             try clear fu
             try clear HK0
             try clear jq
             try clear js
             try clear jt
             try clear ju
             try clear jw
             try clear jx
             try clear jz
             try clear ip
             try clear iy
             try clear ar
             try clear av
             try clear aw
             try clear ax
             try clear ay
             try clear ah
             try clear az
             try clear ba
             try clear bo
             try clear bc
             try clear ac
             try clear Z
             try clear bd
             try clear br
             try clear bs
             try clear fc
             try clear fd
             try clear dh
             try clear di
             try clear dj
             try clear bt
             try clear bu
             try clear bw
             try clear HK33
             try clear HK34
             try clear HK35
             try clear HK36
             try clear HK37
             try clear HK38
             try clear HK39
             try clear HK40
             try clear HK41
             try clear HK42
             try clear HK43
             try clear HK44
             try clear HK45
             try clear HK46
             try clear HK47
             try clear HK48
             try clear HK49
             try clear HK50
             try clear HK51
             try clear HK52
             try clear HK53
             try clear HK54
             try clear HK55
             try clear HK56
             try clear HK57
             try clear HK58
             try clear HK59
             try clear ig
             try clear cn
             try clear ii
             try clear dw
             try clear dx
             try clear fy
             try clear fz
             try clear gc
             try clear gd
             try clear T
             try clear cr
             try clear cw
             try clear ag
             try clear cy
             try clear ez
             try clear dc
             try clear bk
             try clear bl
             try clear bn
             try clear fb
             try clear bq
             try clear N
             try clear aa
             try clear ab
             try clear dl
             try clear fe
             try clear ff
             try clear dm
             try clear fg
             try clear fh
             try clear ak
             try clear dn
             try clear HS33
             try clear HS34
             try clear HS35
             try clear HS36
             try clear HS37
             try clear HS38
             try clear HS39
             try clear HS40
             try clear HS41
             try clear HS42
             try clear HS43
             try clear HS44
             try clear HS45
             try clear HS46
             try clear HS47
             try clear HS48
             try clear HS49
             try clear HS50
             try clear HS51
             try clear HS52
             try clear HS53
             try clear HS54
             try clear HS55
             try clear HS56
             try clear HS57
             try clear HS58
             try clear HS59
             try clear fv
             try clear HE1
             try clear eg
             try clear HE3
             try clear af
             try clear HE5
             try clear HE6
             try clear HE7
             try clear HE8
             try clear HE9
             try clear bj
             try clear HE11
             try clear HE12
             try clear Y
             try clear HE14
             try clear dd
             try clear HE16
             try clear bm
             try clear HE18
             try clear bp
             try clear de
             try clear HE21
             try clear ai
             try clear aj
             try clear HE25
             try clear al
             try clear bx
             try clear HE28
             try clear bz
             try clear HE30
             try clear HE31
             try clear ca
             try clear HE33
             try clear HE34
             try clear HE35
             try clear HE36
             try clear HE37
             try clear HE38
             try clear HE39
             try clear HE40
             try clear HE41
             try clear HE42
             try clear HE43
             try clear HE44
             try clear HE45
             try clear HE46
             try clear HE47
             try clear HE48
             try clear HE49
             try clear HE50
             try clear HE51
             try clear HE52
             try clear HE53
             try clear HE54
             try clear HE55
             try clear HE56
             try clear HE57
             try clear HE58
             try clear HE59
             go_wp2_with(first|(go_at_call 24;refine(gG _ _).mono ?_;rintro e w' ⟨rfl,rfl⟩)|(go_at_call 76;refine(mZ je.o (most:=4096) (by omega) hw.o).mono ?_;rintro e w30 ⟨rfl,B,A⟩;have dl:=Za B;have fc:=Za A;clear B A;refine aD ?_));refine aC ?_;go_wp2;obtain⟨i0,hi,dp,X,ad⟩:=info_parts wQ;have O:w.heap.size<w30.heap.size:=dl.o.box.lt;have jg:=O;have J:19<E24.size:=by rw[dg.o];simp
             have dq:=Za (fT.start (R:=R) (e:=40) (K:=.u64) (j:=19) dl.o (by rw[dg.o];rfl));go_loopw[160] (fun i wr=>∃(k:Nat) (xs rk:List Int) (u:Value),k<=ns/\i=.int .i64 k/\Hid (xs.length=k)/\Hid (fT w w30 R 40 .u64 E24 19 rk xs u wr)/\Hid (fS ns r21=(fS (ns-k) rk).map fun q=>(xs++q.1,q.2))) (fun i _=>ns-(intOf i).toNat)
             case atStart=>exact⟨0,[],r21,.slice none 0 0,Ze _,rfl,Za rfl,dq,Za (by simp)⟩
             case round=>
              obtain⟨k,xs,rk,u,A,rfl,bi,HL,HE⟩:=hrel;obtain⟨wl,rfl⟩:=Zx wr;obtain⟨au,cu,rfl⟩:∃a c,u=.slice a xs.length c:=aJ HL.o.own;by_cases dr:k<ns
              ·obtain⟨x,rk2,ds,du⟩:=TT dr HE.o et.o;have gk:=bi.o;subst gk;have gl:=Za ds;have eg:=Za du;have HD:=Za (HL.o.drew H O);have cl:wl.cell? ⟨w.heap.size,19,none⟩=some (.slice au xs.length cu):=HL.o.cell J;have cld:wl.drew.cell? ⟨w.heap.size,19,none⟩=some (.slice au xs.length cu):=HD.o.cell J;clear ds du HE;go_wp2_with fail;go_region_law(first
                |(go_simp;go_at_call 25;refine(lX HD.o.s (n:=8) (by omega) gl.o).mono ?_;rintro e wm ⟨rfl,B,A⟩;have P:=Za (HD.o.step H O B A);clear B A;have cl1:wm.cell? ⟨w.heap.size,19,none⟩=some (.slice au xs.length cu):=P.o.cell J;have cl2:=P.o.cellA J)
                |(refine sS (by rfl) (.tmp 164) (.tmp 167) 39 (by rfl) w30.heap.size 40 i0 (.int .u64 0) 1 8 Tryz.underlying39 hi dp X ad rfl (by decide) (.slice au xs.length cu) xs.length _ rfl (cI P.o.own ((Zc _ _).alloc (Zb _) _) (Zb _)) ⟨wm.heap.size,0,none⟩ 1 1 [.int .u64 x] rfl rfl (eD _ _ _ _) (by simp[Value.oneCell']) (by unfold maxLen;omega) (by omega) (by have:=P.o.keep.size;simp;omega) ?_;intro v7 w7 ae aq hat7;obtain⟨a7,c7,rfl⟩:=aJ ae;have gm:=Za (P.o.put H O J ae aq).1;have cl7:=(P.o.put H O J ae aq).2.1;have fl7:=(P.o.put H O J ae aq).2.2;clear ae aq hat7))
               all_goals
                go_wp2;go_roundw
                case rel=>exact⟨xs.length+1,xs++[(x:Int)],rk2,_,by omega,by go_num,Za (by simp),gm,eg⟩
                case measure=>simp[intOf];omega
              ·obtain rfl:k=ns:=by omega
               obtain⟨e1,e2⟩:=NU HE.o et.o;subst e1 e2;obtain⟨ox,rfl⟩:=Zx au;obtain⟨cx,rfl⟩:=Zx cu;obtain⟨wl160,rfl⟩:=Zx wl;have kg:=Za HL.o.own;have jh:=Za bi.o;have B:=HL.o.s;have A:=HL.o.keep;clear HE HL dq O J bi dr hi dp X ad;obtain⟨E26,D⟩:=Zx (E24.setIfInBounds 19 (.slice ox sr.length cx));rw[<-D]at B;have fe:=Za B;have fd:=Za A;have al:=Za (show E26=#[.int .i64 f,.slice oi d.input.length ci,.slice ol d.lays.length cl,.int .i64 d.loss,.int .i64 kd,.int .i64 y1,.int .i64 y2,.int .i64 y3,.int .i64 y4,.int .i64 y5,.int .i64 y6,.int .i64 sc,.int .i64 ev,.slice op ps.length cp,.slice om mm.length cm,.slice ov mv.length cv,.int .i64 pm,.int .i64 pn,.int .i64 sp,.slice ox sr.length cx,.int .u64 0,.int .u64 0,.int .u64 0,.int .u64 0,.slice none 0 0,.int .i64 0,.int .i64 0] by rw[D,dg.o];simp only[Zf,Zg,Zh]);clear D B A;go_wp2;go_loopw[172] (fun i wr=>Hid (aZ R w.heap.size wl160 wr)/\((i=.int .i64 0/\Hid (bM w R r22 E26 wr))\/(i=.int .i64 1/\Hid (bM w R r23 (E26.setIfInBounds 20 (.int .u64 a0)) wr))\/(i=.int .i64 2/\Hid (bM w R r24 ((E26.setIfInBounds 20 (.int .u64 a0)).setIfInBounds 21 (.int .u64 a1)) wr))\/(i=.int .i64 3/\Hid (bM w R r25 (((E26.setIfInBounds 20 (.int .u64 a0)).setIfInBounds 21 (.int .u64 a1)).setIfInBounds 22 (.int .u64 a2)) wr))\/(i=.int .i64 4/\Hid (bM w R r26 ((((E26.setIfInBounds 20 (.int .u64 a0)).setIfInBounds 21 (.int .u64 a1)).setIfInBounds 22 (.int .u64 a2)).setIfInBounds 23 (.int .u64 a3)) wr)))) (fun i _=>4-(intOf i).toNat)
               case atStart=>exact⟨Za (aZ.refl _ _ _),.inl ⟨rfl,fe⟩⟩
               case round=>
                obtain⟨L,be⟩:=hrel;obtain⟨wl,rfl⟩:=Zx wr;rcases be with⟨rfl,G⟩|⟨rfl,G⟩|⟨rfl,G⟩|⟨rfl,G⟩|⟨rfl,G⟩
                ·go_wp2_with(go_at_call 25;refine(lX G.o (n:=8) (by omega) hx.o).mono ?_;rintro e wm ⟨rfl,B,A⟩;have C:=Za B;have I:=Za A;clear B A;refine aD ?_);have cs:wm.cell? ⟨w.heap.size,20,none⟩=some (.int .u64 0):=C.o.box.cell 20 (by rw[al.o];simp);have fs:=C.o.box.free 20;refine aC ?_;go_wp2;go_roundw
                 case rel=>exact⟨Za (L.o.trans (I.o.trans (aZ.set R w.heap.size wm 20 _))),(.inr (.inl ⟨by go_num,Za (C.o.set 20 (.int .u64 a0))⟩))⟩
                 case measure=>simp[intOf]
                ·go_wp2_with(go_at_call 25;refine(lX G.o (n:=8) (by omega) hy.o).mono ?_;rintro e wm ⟨rfl,B,A⟩;have C:=Za B;have I:=Za A;clear B A;refine aD ?_);have cs:wm.cell? ⟨w.heap.size,21,none⟩=some (.int .u64 0):=C.o.box.cell 21 (by rw[al.o];simp);have fs:=C.o.box.free 21;refine aC ?_;go_wp2;go_roundw
                 case rel=>exact⟨Za (L.o.trans (I.o.trans (aZ.set R w.heap.size wm 21 _))),(.inr (.inr (.inl ⟨by go_num,Za (C.o.set 21 (.int .u64 a1))⟩)))⟩
                 case measure=>simp[intOf]
                ·go_wp2_with(go_at_call 25;refine(lX G.o (n:=8) (by omega) hz.o).mono ?_;rintro e wm ⟨rfl,B,A⟩;have C:=Za B;have I:=Za A;clear B A;refine aD ?_);have cs:wm.cell? ⟨w.heap.size,22,none⟩=some (.int .u64 0):=C.o.box.cell 22 (by rw[al.o];simp);have fs:=C.o.box.free 22;refine aC ?_;go_wp2;go_roundw
                 case rel=>exact⟨Za (L.o.trans (I.o.trans (aZ.set R w.heap.size wm 22 _))),(.inr (.inr (.inr (.inl ⟨by go_num,Za (C.o.set 22 (.int .u64 a2))⟩))))⟩
                 case measure=>simp[intOf]
                ·go_wp2_with(go_at_call 25;refine(lX G.o (n:=8) (by omega) ia.o).mono ?_;rintro e wm ⟨rfl,B,A⟩;have C:=Za B;have I:=Za A;clear B A;refine aD ?_);have cs:wm.cell? ⟨w.heap.size,23,none⟩=some (.int .u64 0):=C.o.box.cell 23 (by rw[al.o];simp);have fs:=C.o.box.free 23;refine aC ?_;go_wp2;go_roundw
                 case rel=>exact⟨Za (L.o.trans (I.o.trans (aZ.set R w.heap.size wm 23 _))),(.inr (.inr (.inr (.inr ⟨by go_num,Za (C.o.set 23 (.int .u64 a3))⟩))))⟩
                 case measure=>simp[intOf]
                ·have B:=G.o;have A:=L.o;obtain⟨w172,rfl⟩:=Zx wl;clear G L;obtain⟨E27,D⟩:=Zx (((((E26.setIfInBounds 20 (.int .u64 a0)).setIfInBounds 21 (.int .u64 a1)).setIfInBounds 22 (.int .u64 a2)).setIfInBounds 23 (.int .u64 a3)));rw[<-D]at B;have ff:=Za B;have dh:=Za A;have bx:=Za (show E27=#[.int .i64 f,.slice oi d.input.length ci,.slice ol d.lays.length cl,.int .i64 d.loss,.int .i64 kd,.int .i64 y1,.int .i64 y2,.int .i64 y3,.int .i64 y4,.int .i64 y5,.int .i64 y6,.int .i64 sc,.int .i64 ev,.slice op ps.length cp,.slice om mm.length cm,.slice ov mv.length cv,.int .i64 pm,.int .i64 pn,.int .i64 sp,.slice ox sr.length cx,.int .u64 a0,.int .u64 a1,.int .u64 a2,.int .u64 a3,.slice none 0 0,.int .i64 0,.int .i64 0] by rw[D,al.o];simp only[Zf,Zg,Zh]);clear D B A;go_wp2_with(first|(go_at_call 24;refine(gG _ _).mono ?_;rintro e w' ⟨rfl,rfl⟩)|(go_at_call 76;refine(mZ ff.o (most:=1024) (by omega) ib.o).mono ?_;rintro e w40 ⟨rfl,B,A⟩;have dm:=Za B;have di:=Za A;clear B A;refine aD ?_));refine aC ?_;go_wp2;obtain⟨i0,hi,dp,X,ad⟩:=info_parts jX;have O:w.heap.size<w40.heap.size:=dm.o.box.lt;have ji:=O;have J:24<E27.size:=by rw[bx.o];simp
                 have dq:=Za (fT.start (R:=R) (e:=3) (K:=.i64) (j:=24) dm.o (by rw[bx.o];rfl));go_loopw[184] (fun i wr=>∃(k:Nat) (xs rk:List Int) (u:Value),k<=no/\i=.int .i64 k/\Hid (xs.length=k)/\Hid (fT w w40 R 3 .i64 E27 24 rk xs u wr)/\Hid (fW no r27=(fW (no-k) rk).map fun q=>(xs++q.1,q.2))) (fun i _=>no-(intOf i).toNat)
                 case atStart=>exact⟨0,[],r27,.slice none 0 0,Ze _,rfl,Za rfl,dq,Za (by simp)⟩
                 case round=>
                  obtain⟨k,xs,rk,u,A,rfl,bi,HL,HE⟩:=hrel;obtain⟨wl,rfl⟩:=Zx wr;obtain⟨au,cu,rfl⟩:∃a c,u=.slice a xs.length c:=aJ HL.o.own;by_cases dr:k<no
                  ·obtain⟨x,rk2,ds,du⟩:=M6 dr HE.o eu.o;have gk:=bi.o;subst gk;have gl:=Za ds;have eg:=Za du;have HD:=Za (HL.o.drew H O);have cl:wl.cell? ⟨w.heap.size,24,none⟩=some (.slice au xs.length cu):=HL.o.cell J;have cld:wl.drew.cell? ⟨w.heap.size,24,none⟩=some (.slice au xs.length cu):=HD.o.cell J;clear ds du HE;go_wp2_with fail;go_region_law(first
                    |(go_simp;go_at_call 76;refine(mZ HD.o.s (most:=1024) (by omega) gl.o).mono ?_;rintro e wm ⟨rfl,B,A⟩;have P:=Za (HD.o.step H O B A);clear B A;have cl1:wm.cell? ⟨w.heap.size,24,none⟩=some (.slice au xs.length cu):=P.o.cell J;have cl2:=P.o.cellA J)
                    |(refine sS (by rfl) (.tmp 188) (.tmp 191) 30 (by rfl) w40.heap.size 3 i0 (.int .i64 0) 1 8 Tryz.underlying30 hi dp X ad rfl (by decide) (.slice au xs.length cu) xs.length _ rfl (cI P.o.own ((Zc _ _).alloc (Zb _) _) (Zb _)) ⟨wm.heap.size,0,none⟩ 1 1 [.int .i64 x] rfl rfl (eD _ _ _ _) (by simp[Value.oneCell']) (by unfold maxLen;omega) (by omega) (by have:=P.o.keep.size;simp;omega) ?_;intro v7 w7 ae aq hat7;obtain⟨a7,c7,rfl⟩:=aJ ae;have gm:=Za (P.o.put H O J ae aq).1;have cl7:=(P.o.put H O J ae aq).2.1;have fl7:=(P.o.put H O J ae aq).2.2;clear ae aq hat7))
                   all_goals
                    go_wp2;go_roundw
                    case rel=>exact⟨xs.length+1,xs++[(x:Int)],rk2,_,by omega,by go_num,Za (by simp),gm,eg⟩
                    case measure=>simp[intOf];omega
                  ·obtain rfl:k=no:=by omega
                   obtain⟨e1,e2⟩:=IC HE.o eu.o;subst e1 e2;obtain⟨oo,rfl⟩:=Zx au;obtain⟨co,rfl⟩:=Zx cu;obtain⟨wl184,rfl⟩:=Zx wl;have kh:=Za HL.o.own;have jj:=Za bi.o;have B:=HL.o.s;have A:=HL.o.keep;clear HE HL dq O J bi dr hi dp X ad;obtain⟨E29,D⟩:=Zx (E27.setIfInBounds 24 (.slice oo od.length co));rw[<-D]at B;have fg:=Za B;have dj:=Za A;have bz:=Za (show E29=#[.int .i64 f,.slice oi d.input.length ci,.slice ol d.lays.length cl,.int .i64 d.loss,.int .i64 kd,.int .i64 y1,.int .i64 y2,.int .i64 y3,.int .i64 y4,.int .i64 y5,.int .i64 y6,.int .i64 sc,.int .i64 ev,.slice op ps.length cp,.slice om mm.length cm,.slice ov mv.length cv,.int .i64 pm,.int .i64 pn,.int .i64 sp,.slice ox sr.length cx,.int .u64 a0,.int .u64 a1,.int .u64 a2,.int .u64 a3,.slice oo od.length co,.int .i64 0,.int .i64 0] by rw[D,bx.o];simp only[Zf,Zg,Zh]);clear D B A;go_wp2_with(first|(go_at_call 24;refine(gG _ _).mono ?_;rintro e w' ⟨rfl,rfl⟩)|(go_at_call 76;refine(mZ fg.o (most:=1024) (by omega) ic.o).mono ?_;rintro e w50 ⟨rfl,B,A⟩;have fh:=Za B;have bt:=Za A;clear B A;refine aD ?_));refine aC ?_;go_wp2_with(first|(go_at_call 24;refine(gG _ _).mono ?_;rintro e w' ⟨rfl,rfl⟩)|(go_at_call 76;refine(mZ fh.o (most:=1048576) (by omega) ie.o).mono ?_;rintro e w51 ⟨rfl,B,A⟩;have ak:=Za B;have bu:=Za A;clear B A;refine aD ?_));have c25:w51.cell? ⟨w.heap.size,25,none⟩=some (.int .i64 0):=ak.o.box.cell 25 (by rw[bz.o];rfl);have f25:=ak.o.box.free 25;have c26:w51.cell? ⟨w.heap.size,26,none⟩=some (.int .i64 0):=ak.o.box.cell 26 (by rw[bz.o];rfl);have f26:=ak.o.box.free 26;refine aC ?_;go_upto_region 38 with(fail);obtain⟨V32,F⟩:=Zx (((w51).setCell ⟨w.heap.size,25,none⟩ (.int .i64 at_)).setCell ⟨w.heap.size,26,none⟩ (.int .i64 ep));obtain⟨E32,D⟩:=Zx (((E29).setIfInBounds 25 (.int .i64 at_)).setIfInBounds 26 (.int .i64 ep));rw[<-F];have dn:=Za (show bM w R rest0 E32 V32 by rw[F,D];exact((ak.o.set 25 (.int .i64 at_)).set 26 (.int .i64 ep)));have ca:=Za (show E32=#[.int .i64 f,.slice oi d.input.length ci,.slice ol d.lays.length cl,.int .i64 d.loss,.int .i64 kd,.int .i64 y1,.int .i64 y2,.int .i64 y3,.int .i64 y4,.int .i64 y5,.int .i64 y6,.int .i64 sc,.int .i64 ev,.slice op ps.length cp,.slice om mm.length cm,.slice ov mv.length cv,.int .i64 pm,.int .i64 pn,.int .i64 sp,.slice ox sr.length cx,.int .u64 a0,.int .u64 a1,.int .u64 a2,.int .u64 a3,.slice oo od.length co,.int .i64 at_,.int .i64 ep] by rw[D,bz.o];simp only[Zf,Zg,Zh]);have bw:=Za (show aZ R w.heap.size w51 V32 by rw[F];exact(aZ.set R w.heap.size (w51) 25 (.int .i64 at_)).trans (aZ.set R w.heap.size ((w51).setCell ⟨w.heap.size,25,none⟩ (.int .i64 at_)) 26 (.int .i64 ep)));clear F D;clear c25 f25 c26 f26;have dv:(Tryz.prog.info? 47).map (·.size)=some E32.size:=by rw[ca.o];kernel_rfl
                   have gn:E32.all (·.oneCell')=true:=by rw[ca.o];simp[Value.oneCell']
                   have row:V32.heap[w.heap.size]?=some (.cells E32 47 (0,0)):=dn.o.box;go_wp2_with(first|(refine wpList_load_row rfl 47 _ rfl w.heap.size rfl 47 E32 (0,0) _ row Tryz.underlying47 rfl dv ?_)|(refine wpList_store_row rfl 47 _ _ rfl w.heap.size E32 rfl rfl 47 _ row dv rfl gn ?_));have jk:=Za (dn.o.setRow E32);have ku:=jh.o;have kv:=jj.o;have jl:=jf.o.keep ((((((((fc.o).trans fd.o).trans dh.o).trans di.o).trans dj.o).trans bt.o).trans bu.o).trans bw.o) (Nat.lt_succ_of_lt H) (Nat.lt_succ_self _);have jm:=((aI.ownI (K:=.u64) kg.o).base (Nat.succ_le_of_lt jg)).keep ((((((dh.o).trans di.o).trans dj.o).trans bt.o).trans bu.o).trans bw.o) (Nat.lt_succ_of_lt H) (Nat.lt_succ_self _);have jn:=((aI.ownI (K:=.i64) kh.o).base (Nat.succ_le_of_lt ji)).keep (((bt.o).trans bu.o).trans bw.o) (Nat.lt_succ_of_lt H) (Nat.lt_succ_self _);have jo:=Za (((jl.and (jm.and jn)).setRow (S:=w.heap.size) (Nat.lt_succ_self _) E32).imp fun U h=>(⟨⟨h.1.1.1.1,h.1.1.2.1,h.1.2.1.1,h.1.2.2.1,Rd.of_own h.2.1,Rd.of_own h.2.2,kc.o,ke.o,kf.o,by simp only;omega,by simp only;omega⟩,h.1.1.1.2.1,h.1.1.1.2.2,h.1.1.2.2,h.1.2.1.2,h.1.2.2.2,⟨_,h.2.1,by omega⟩,⟨_,h.2.2,by omega⟩⟩:oP U ⟨f,d,⟨kd,y1,y2,y3,y4,y5,y6,sc,ev⟩,ps,⟨mm,mv,pm,pn,sp⟩,⟨sr,a0,a1,a2,a3⟩,⟨od,at_,ep⟩⟩ (.slice oi d.input.length ci) (.slice ol d.lays.length cl) (.slice op ps.length cp) (.slice om mm.length cm) (.slice ov mv.length cv) (.slice ox sr.length cx) (.slice oo od.length co)));clear jl jm jn;exact bodyPost_ret (v:=.agg E32) (results_cell_row rfl _ _ w.heap.size 47 _ (0,0) _ rfl jk.o.box Tryz.underlying47 rfl dv) rfl ⟨_,_,_,_,_,_,_,by rw[ca.o];rfl,jo.o,fun o n c h=>by cases h;exact il.o,jk.o.q⟩
