/-
  A part of the proof of a law (packed by program).
-/
import Derived.Test.YtjhkdocidcfpdaaGreatDoorTM46
set_option linter.unusedVariables false
set_option linter.unusedSimpArgs false
set_option maxRecDepth 100000
set_option maxHeartbeats 16000000
open List renaming setIfInBounds_toArray → Zf, set_cons_zero → Zg, set_cons_succ → Zh, getElem_cons_zero → Zi, getElem_cons_succ → Zj, getElem_toArray → Zk
namespace Go.Proofs.YtjhkdocidcfpdaaGreatDoor
open Go.RowKit Go.Shelf Go
theorem NT (R:Nat) (rem rest0:List Int) (s0:aX) (w:World) (hq:cR w w R rem) (hst:mS rem=some (s0,rest0)):
  Calls Tryz.prog 27 #[.pointer (some ⟨R,0,none⟩)] w (KL w R s0 rest0):=by
 cases EP hst with
 |mk r1 r2 r3 r4 r5 r6 r7 r8 r9 r10 r11 r12 r13 r14 r15 r16 r17 r18 r19 r20 r21 r22 r23 r24 r25 r26 r27 r28 f nt tx d ss kd sc y1 y2 y3 y4 y5 y6 ev ps pm pn sp mm mv ns sr a0 a1 a2 a3 no od at_ ep h1 h2 h3 hgf h4 h5 hd hss h6 h7 hy1 hy2 hy3 hy4 hy5 hy6 hev hps hpm hpn hsp hmm hmv hns hsr ha0 ha1 ha2 ha3 hno hod r29 hat hep=>
 have hf8:=nH hgf;have HGF:=Za hgf;have HD:=Za hd;have HSS:=Za hss;have hnl:=(mP h4).2;have hevl:=(mP hev).2;have hspl:=(mP hsp).2;have hnsl:=(mP hns).2;have hnol:=(mP hno).2;have hatl:=(mP hat).2;have hepl:=(mP hep).2;have HQ:=Za hq;have hRn:=hq.lt;have h4l:=(lP h1).1;have htxl:=lP h5;have H1X:=Za h1;have H2X:=Za h2;have H3X:=Za h3;have H4X:=Za h4;have H5X:=Za h5;have H6X:=Za h6;have H7X:=Za h7;have HY1X:=Za hy1;have HY2X:=Za hy2;have HY3X:=Za hy3;have HY4X:=Za hy4;have HY5X:=Za hy5;have HY6X:=Za hy6;have HEVX:=Za hev;have HPSX:=Za hps;have HPMX:=Za hpm;have HPNX:=Za hpn;have HSPX:=Za hsp;have HMMX:=Za hmm;have HMVX:=Za hmv;have HNSX:=Za hns;have HSRX:=Za hsr;have HA0X:=Za ha0;have HA1X:=Za ha1;have HA2X:=Za ha2;have HA3X:=Za ha3;have HNOX:=Za hno;have HODX:=Za hod;have HATX:=Za hat
 have HEPX:=Za hep;have HTXLX:=Za htxl;clear hq hst hgf hd hss h1 h2 h3 h4 h5 h6 h7 hy1 hy2 hy3 hy4 hy5 hy6 hev hps hpm hpn hsp hmm hmv hns hsr ha0 ha1 ha2 ha3 hno hod hat hep htxl;obtain⟨V0,hV⟩:∃V,V=w.alloc (.cells zR 47):=⟨_,rfl⟩;obtain⟨E0,hE⟩:∃E:Array Value,E=zR:=⟨_,rfl⟩;have HE0:=Za hE;have HS0:=Za (show bK w R rem E0 V0 by
  rw[hV,hE];exact⟨HQ.o.low ((Zc w.heap.size w).alloc (Zb _) _) (Zb _),aA.new _ _ _⟩)
 have HV0:=Za hV;clear hV hE;go_enter Tryz.func27,Tryz.ntmps27;go_wp2_with(go_at_call 73;rw[←HV0.o];refine(CJ (n:=4) HS0.o h4l).mono ?_;rintro e w1 ⟨v,rfl,hrd,hs,hk⟩;have HS1:=Za hs;have HK1:=Za hk;clear hs hk;refine aD ?_);rw[←(lP H1X.o).2.1]at hrd;have HS1':=HS1;clear HS1;have HS1:=Za (show bK w R r1 E0 w1 by have:=HS1'.o;rwa [←(lP H1X.o).2.2]at this);clear HS1';have hcv:(convert 23 9 v).run Tryz.prog w1=.ok (.string ⟨#[82,67,75,80]⟩) w1:=AX hrd (zH hrd (by simp));refine aC ?_;go_wp2_with(first|(go_at_call 24;refine(gC _ _).mono ?_;rintro e w' ⟨rfl,rfl⟩)|(go_at_call 25;refine(lN HS1.o (n:=1) (by omega) H2X.o).mono ?_;rintro e w2 ⟨rfl,hs,hk⟩;have HS2:=Za hs;have HK2:=Za hk;clear hs hk;refine aD ?_));clear hcv hrd;refine aC ?_;go_wp2_with(first|(go_at_call 24;refine(gC _ _).mono ?_;rintro e w' ⟨rfl,rfl⟩)|(go_at_call 25;refine(lN HS2.o (n:=1) (by omega) H3X.o).mono ?_;rintro e w3 ⟨rfl,hs,hk⟩;have HS3:=Za hs;have HK3:=Za hk;clear hs hk;refine aD ?_));have c0:w3.cell? ⟨w.heap.size,0,none⟩=some (.int .i64 0):=HS3.o.box.cell 0 (by rw[HE0.o];rfl);have f0:=HS3.o.box.free 0;refine aC ?_;go_upto_region 3 with(fail);obtain⟨V4,hV⟩:∃V,V=(w3).setCell ⟨w.heap.size,0,none⟩ (.int .i64 f):=⟨_,rfl⟩;obtain⟨E4,hE⟩:∃E,E=(E0).setIfInBounds 0 (.int .i64 f):=⟨_,rfl⟩;rw[←hV];have HS4:=Za (show bK w R r3 E4 V4 by rw[hV,hE];exact(HS3.o.set 0 (.int .i64 f)));have HE4:=Za (show E4=#[.int .i64 f,.slice none 0 0,.slice none 0 0,.int .i64 0,.int .i64 0,.int .i64 0,.int .i64 0,.int .i64 0,.int .i64 0,.int .i64 0,.int .i64 0,.int .i64 0,.int .i64 0,.slice none 0 0,.slice none 0 0,.slice none 0 0,.int .i64 0,.int .i64 0,.int .i64 0,.slice none 0 0,.int .u64 0,.int .u64 0,.int .u64 0,.int .u64 0,.slice none 0 0,.int .i64 0,.int .i64 0] by rw[hE,HE0.o];simp only[Zf,Zg,Zh]);have HK4:=Za (show aW R w.heap.size w3 V4 by rw[hV];exact aW.set R w.heap.size (w3) 0 (.int .i64 f));clear hV hE;clear c0 f0;have c0:V4.cell? ⟨w.heap.size,0,none⟩=some (.int .i64 f):=HS4.o.box.cell 0 (by rw[HE4.o];rfl);have f0:=HS4.o.box.free 0;go_wp2_with(first|(go_at_call 24;refine(gC _ _).mono ?_;rintro e w' ⟨rfl,rfl⟩)|(go_at_call 74;refine(wI _ _).mono ?_;rintro e wg ⟨rfl,hsm⟩;rw[HGF.o];have HSG:=Za (HS4.o.next (hsm.below _));have HKG:=Za (aW.of_below (R:=R) (n:=w.heap.size) (hsm.below _));clear hsm)|(go_at_call 76;refine(mO HSG.o (most:=8192) (by omega) H4X.o).mono ?_;rintro e w5 ⟨rfl,hs,hk⟩;have HS5:=Za hs;have HK5:=Za hk;clear hs hk;refine aD ?_));clear c0 f0;refine aC ?_;have h5l:nt≤r4.length:=(lP H5X.o).1;go_wp2_with(go_at_call 73;refine(CJ (n:=nt) HS5.o h5l).mono ?_;rintro e w6 ⟨v6,rfl,hrd,hs,hk⟩;have HS6':=Za hs;have HK6:=Za hk;clear hs hk;refine aD ?_);rw[←(lP H5X.o).2.1]at hrd;have HS6:=Za (show bK w R r5 E4 w6 by have:=HS6'.o;rwa [←(lP H5X.o).2.2]at this);have htx0:0<tx.length:=by
  rcases Nat.eq_zero_or_pos tx.length with h|h
  ·exfalso;have:=HD.o;rw[List.eq_nil_of_length_eq_zero h]at this;simp[gQ,gN,dJ,dZ]at this
  ·exact h
 have htxn:tx.length≤8192:=by rw[(lP H5X.o).2.1,List.length_take];omega
 have HTW:=Za (show Wf .u8 tx by rw[(lP H5X.o).2.1];exact HS5.o.q.wf.take nt);have HRDT:=Za hrd;obtain⟨ot,kt,rfl⟩:=aU hrd;clear HS6' hrd h5l;refine aC ?_;go_wp2_with(go_at_call 75;refine(JL HRDT.o HTW.o (zH HRDT.o htx0) htxn HD.o).mono ?_;rintro e w7 ⟨oi,ci,ol,cl,rfl,hci,hh,hb⟩;have HB7:=Za hb;have HH7:=Za hh;have HCI:=Za hci;clear hb hh;refine aD ?_);have HS7:=Za (HS6.o.next HB7.o);have HK7:=Za (aW.of_below (R:=R) (n:=w.heap.size) HB7.o);have hw6:w.heap.size<w6.heap.size:=HS6.o.box.lt;clear htx0 htxn;refine aC ?_;go_upto_region 5 with(fail);obtain⟨V8,hV⟩:∃V,V=w7.alloc (.cells #[.slice oi d.input.length ci,.slice ol d.lays.length cl,.int .i64 d.loss] 33):=⟨_,rfl⟩;rw[←hV];have HA8:=Za (show Below w7.heap.size w7 V8 by rw[hV];exact(Zc _ _).alloc (Zb _) _);have HD8:=Za (show aA V8 w7.heap.size 33 _ by rw[hV];exact aA.new _ _ _);have HS8:=Za (HS7.o.next HA8.o);have HK8:=Za (aW.of_below (R:=R) (n:=w.heap.size) HA8.o);have hw78:w.heap.size<w7.heap.size:=HS7.o.box.lt;have hw88:w.heap.size<V8.heap.size:=HS8.o.box.lt;obtain⟨nb,hnb⟩:∃nb,nb=w7.heap.size:=⟨_,rfl⟩;have HNB:=Za (show nb≠R∧nb≠w.heap.size by omega);rw[←hnb]at HD8 ⊢;have d0:=HD8.o.cell 0 rfl;have d1:=HD8.o.cell 1 rfl;have d2:=HD8.o.cell 2 rfl;simp only[Zk,Zi,Zj]at d0 d1 d2;have HDF8:=Za ((HH7.o.grow HA8.o).here);clear hV hnb;go_wp2_with(go_at_call 77;refine(J5 HDF8.o HCI.o HSS.o).mono ?_;rintro e w9 ⟨os,cs9,rfl,hsl,hsh,hso,hb⟩;have HB9:=Za hb;have HSH:=Za hsh;have HSO:=Za hso;clear hb hsh hso;refine aD ?_);have HS9:=Za (HS8.o.next HB9.o);have HK9:=Za (aW.of_below (R:=R) (n:=w.heap.size) HB9.o);have HF9:=Za (show mL R w9 (.slice os ss.length cs9) ss from⟨HSH.o,fun e=>by have:=HSO.o R e;omega⟩);have HN9:=Za (show(Value.slice os ss.length cs9).ownBlock≠some w.heap.size from fun e=>by have:=HSO.o _ e;omega);have HD9:=Za (HD8.o.next HB9.o);clear d0 d1 d2;have d0:=HD9.o.cell 0 rfl;have d1:=HD9.o.cell 1 rfl;have d2:=HD9.o.cell 2 rfl;simp only[Zk,Zi,Zj]at d0 d1 d2;have HOKS:=Za (NO HSS.o);have HZ9:=Za (show ∀(j:Nat) (x:Int),E4[j]?=some (.int .i64 x)→j≠0→x=0 from fun j x hj hne=>by
  rw[HE4.o]at hj;obtain⟨j',rfl⟩:∃j',j=j'+1:=⟨j-1,by omega⟩;rw[List.getElem?_toArray,List.getElem?_cons_succ]at hj;have hm:=List.mem_of_getElem? hj
  simpa using hm)
 have c1:w9.cell? ⟨w.heap.size,1,none⟩=some (.slice none 0 0):=HS9.o.box.cell 1 (by rw[HE4.o];rfl);have f1:=HS9.o.box.free 1;have c2:w9.cell? ⟨w.heap.size,2,none⟩=some (.slice none 0 0):=HS9.o.box.cell 2 (by rw[HE4.o];rfl);have f2:=HS9.o.box.free 2;have c3:w9.cell? ⟨w.heap.size,3,none⟩=some (.int .i64 0):=HS9.o.box.cell 3 (by rw[HE4.o];rfl);have f3:=HS9.o.box.free 3;refine aC ?_;go_upto_region 8 with((go_at_call 24;refine(gC _ _).mono ?_;rintro e w' ⟨rfl,rfl⟩));obtain⟨V10,hV⟩:∃V,V=(((w9).setCell ⟨w.heap.size,1,none⟩ (.slice oi d.input.length ci)).setCell ⟨w.heap.size,2,none⟩ (.slice ol d.lays.length cl)).setCell ⟨w.heap.size,3,none⟩ (.int .i64 d.loss):=⟨_,rfl⟩;obtain⟨E10,hE⟩:∃E,E=(((E4).setIfInBounds 1 (.slice oi d.input.length ci)).setIfInBounds 2 (.slice ol d.lays.length cl)).setIfInBounds 3 (.int .i64 d.loss):=⟨_,rfl⟩;rw[←hV];have HS10:=Za (show bK w R r5 E10 V10 by rw[hV,hE];exact(((HS9.o.set 1 (.slice oi d.input.length ci)).set 2 (.slice ol d.lays.length cl)).set 3 (.int .i64 d.loss)));have HE10:=Za (show E10=#[.int .i64 f,.slice oi d.input.length ci,.slice ol d.lays.length cl,.int .i64 d.loss,.int .i64 0,.int .i64 0,.int .i64 0,.int .i64 0,.int .i64 0,.int .i64 0,.int .i64 0,.int .i64 0,.int .i64 0,.slice none 0 0,.slice none 0 0,.slice none 0 0,.int .i64 0,.int .i64 0,.int .i64 0,.slice none 0 0,.int .u64 0,.int .u64 0,.int .u64 0,.int .u64 0,.slice none 0 0,.int .i64 0,.int .i64 0] by rw[hE,HE4.o];simp only[Zf,Zg,Zh]);have HK10:=Za (show aW R w.heap.size w9 V10 by rw[hV];exact((aW.set R w.heap.size (w9) 1 (.slice oi d.input.length ci)).trans (aW.set R w.heap.size ((w9).setCell ⟨w.heap.size,1,none⟩ (.slice oi d.input.length ci)) 2 (.slice ol d.lays.length cl))).trans (aW.set R w.heap.size (((w9).setCell ⟨w.heap.size,1,none⟩ (.slice oi d.input.length ci)).setCell ⟨w.heap.size,2,none⟩ (.slice ol d.lays.length cl)) 3 (.int .i64 d.loss)));clear hV hE;clear c1 f1 c2 f2 c3 f3;clear d0 d1 d2;have hkl:=zB H6X.o HS10.o.q.wf;go_wp2_with(first|(go_at_call 24;refine(gC _ _).mono ?_;rintro e w' ⟨rfl,rfl⟩)|(go_at_call 25;refine(lN HS10.o (n:=1) (by omega) H6X.o).mono ?_;rintro e w11 ⟨rfl,hs,hk⟩;have HS11:=Za hs;have HK11:=Za hk;clear hs hk;refine aD ?_));have hscl:=zB H7X.o HS11.o.q.wf;refine aC ?_;go_wp2_with(first|(go_at_call 24;refine(gC _ _).mono ?_;rintro e w' ⟨rfl,rfl⟩)|(go_at_call 25;refine(lN HS11.o (n:=1) (by omega) H7X.o).mono ?_;rintro e w12 ⟨rfl,hs,hk⟩;have HS12:=Za hs;have HK12:=Za hk;clear hs hk;refine aD ?_));have c4:w12.cell? ⟨w.heap.size,4,none⟩=some (.int .i64 0):=HS12.o.box.cell 4 (by rw[HE10.o];rfl);have f4:=HS12.o.box.free 4;have c11:w12.cell? ⟨w.heap.size,11,none⟩=some (.int .i64 0):=HS12.o.box.cell 11 (by rw[HE10.o];rfl);have f11:=HS12.o.box.free 11;refine aC ?_;go_upto_region 10 with(fail);obtain⟨V13,hV⟩:∃V,V=((w12).setCell ⟨w.heap.size,4,none⟩ (.int .i64 kd)).setCell ⟨w.heap.size,11,none⟩ (.int .i64 sc):=⟨_,rfl⟩;obtain⟨E13,hE⟩:∃E,E=((E10).setIfInBounds 4 (.int .i64 kd)).setIfInBounds 11 (.int .i64 sc):=⟨_,rfl⟩;rw[←hV];have HS13:=Za (show bK w R r7 E13 V13 by rw[hV,hE];exact((HS12.o.set 4 (.int .i64 kd)).set 11 (.int .i64 sc)));have HE13:=Za (show E13=#[.int .i64 f,.slice oi d.input.length ci,.slice ol d.lays.length cl,.int .i64 d.loss,.int .i64 kd,.int .i64 0,.int .i64 0,.int .i64 0,.int .i64 0,.int .i64 0,.int .i64 0,.int .i64 sc,.int .i64 0,.slice none 0 0,.slice none 0 0,.slice none 0 0,.int .i64 0,.int .i64 0,.int .i64 0,.slice none 0 0,.int .u64 0,.int .u64 0,.int .u64 0,.int .u64 0,.slice none 0 0,.int .i64 0,.int .i64 0] by rw[hE,HE10.o];simp only[Zf,Zg,Zh]);have HK13:=Za (show aW R w.heap.size w12 V13 by rw[hV];exact(aW.set R w.heap.size (w12) 4 (.int .i64 kd)).trans (aW.set R w.heap.size ((w12).setCell ⟨w.heap.size,4,none⟩ (.int .i64 kd)) 11 (.int .i64 sc)));clear hV hE;clear c4 f4 c11 f11;go_region;obtain⟨pb,hpb⟩:∃pb,pb=V13.heap.size:=⟨_,rfl⟩;obtain⟨V14,hV⟩:∃V,V=(V13.alloc (.cells #[.pointer (some ⟨w.heap.size,5,none⟩),.pointer (some ⟨w.heap.size,6,none⟩),.pointer (some ⟨w.heap.size,7,none⟩),.pointer (some ⟨w.heap.size,8,none⟩),.pointer (some ⟨w.heap.size,9,none⟩),.pointer (some ⟨w.heap.size,10,none⟩)] 137)).drew:=⟨_,rfl⟩;rw[←hV,←hpb];have hb14:Below V13.heap.size V13 V14:=by rw[hV];exact((Zc _ _).alloc (Zb _) _).drew
 have HP14:=Za (show aA V14 pb 137 #[.pointer (some ⟨w.heap.size,5,none⟩),.pointer (some ⟨w.heap.size,6,none⟩),.pointer (some ⟨w.heap.size,7,none⟩),.pointer (some ⟨w.heap.size,8,none⟩),.pointer (some ⟨w.heap.size,9,none⟩),.pointer (some ⟨w.heap.size,10,none⟩)] by rw[hV,hpb];exact JT _ _ _);have HS14:=Za (HS13.o.next hb14);have HK14:=Za (aW.of_below (R:=R) (n:=w.heap.size) hb14);have hnpb:w.heap.size<pb:=by rw[hpb];exact HS13.o.box.lt
 have hRpb:R<pb:=Nat.lt_trans hRn hnpb;clear hb14 hV hpb;go_wp2;go_loopw[89] (fun i wr=>Hid (aW R w.heap.size V14 wr)∧((i=.int .i64 0∧Hid (bK w R r7 E13 wr))∨(i=.int .i64 1∧Hid (bK w R r8 (E13.setIfInBounds 5 (.int .i64 y1)) wr))∨(i=.int .i64 2∧Hid (bK w R r9 ((E13.setIfInBounds 5 (.int .i64 y1)).setIfInBounds 6 (.int .i64 y2)) wr))∨(i=.int .i64 3∧Hid (bK w R r10 (((E13.setIfInBounds 5 (.int .i64 y1)).setIfInBounds 6 (.int .i64 y2)).setIfInBounds 7 (.int .i64 y3)) wr))∨(i=.int .i64 4∧Hid (bK w R r11 ((((E13.setIfInBounds 5 (.int .i64 y1)).setIfInBounds 6 (.int .i64 y2)).setIfInBounds 7 (.int .i64 y3)).setIfInBounds 8 (.int .i64 y4)) wr))∨(i=.int .i64 5∧Hid (bK w R r12 (((((E13.setIfInBounds 5 (.int .i64 y1)).setIfInBounds 6 (.int .i64 y2)).setIfInBounds 7 (.int .i64 y3)).setIfInBounds 8 (.int .i64 y4)).setIfInBounds 9 (.int .i64 y5)) wr))∨(i=.int .i64 6∧Hid (bK w R r13 ((((((E13.setIfInBounds 5 (.int .i64 y1)).setIfInBounds 6 (.int .i64 y2)).setIfInBounds 7 (.int .i64 y3)).setIfInBounds 8 (.int .i64 y4)).setIfInBounds 9 (.int .i64 y5)).setIfInBounds 10 (.int .i64 y6)) wr)))) (fun i _=>6-(intOf i).toNat)
 case atStart=>exact⟨Za (aW.refl _ _ _),.inl ⟨rfl,HS14⟩⟩
 case round=>
  obtain⟨HKL,hcase⟩:=hrel;obtain⟨wl,rfl⟩:∃wl,wl=wr:=⟨_,rfl⟩;have HPL:=Za (HP14.o.keepSt HKL.o (Nat.ne_of_gt hRpb) (Nat.ne_of_gt hnpb));rcases hcase with⟨rfl,HSL⟩|⟨rfl,HSL⟩|⟨rfl,HSL⟩|⟨rfl,HSL⟩|⟨rfl,HSL⟩|⟨rfl,HSL⟩|⟨rfl,HSL⟩
  ·have cp:=HPL.o.q 0 rfl;have cp':wl.cell? ⟨pb,0+0,none⟩=some (.pointer (some ⟨w.heap.size,5,none⟩)):=HPL.o.cell 0 rfl;go_wp2_with(go_at_call 78;refine(mU HSL.o HY1X.o).mono ?_;rintro e wm ⟨g,cg,rfl,hgc,hgl,hs,hk⟩;have HSM:=Za hs;have HKM:=Za hk;clear hs hk;refine aD ?_);have cs:wm.cell? ⟨w.heap.size,5,none⟩=some (.int .i64 0):=HSM.o.box.cell 5 (by rw[HE13.o];simp);have fs:=HSM.o.box.free 5;refine aC ?_;go_wp2;go_roundw
   case rel=>exact⟨Za (HKL.o.trans (HKM.o.trans (aW.set R w.heap.size wm 5 _))),(.inr (.inl ⟨by go_num,Za (HSM.o.set 5 (.int .i64 y1))⟩))⟩
   case measure=>simp[intOf]
  ·have cp:=HPL.o.q 1 rfl;have cp':wl.cell? ⟨pb,0+1,none⟩=some (.pointer (some ⟨w.heap.size,6,none⟩)):=HPL.o.cell 1 rfl;go_wp2_with(go_at_call 78;refine(mU HSL.o HY2X.o).mono ?_;rintro e wm ⟨g,cg,rfl,hgc,hgl,hs,hk⟩;have HSM:=Za hs;have HKM:=Za hk;clear hs hk;refine aD ?_);have cs:wm.cell? ⟨w.heap.size,6,none⟩=some (.int .i64 0):=HSM.o.box.cell 6 (by rw[HE13.o];simp);have fs:=HSM.o.box.free 6;refine aC ?_;go_wp2;go_roundw
   case rel=>exact⟨Za (HKL.o.trans (HKM.o.trans (aW.set R w.heap.size wm 6 _))),(.inr (.inr (.inl ⟨by go_num,Za (HSM.o.set 6 (.int .i64 y2))⟩)))⟩
   case measure=>simp[intOf]
  ·have cp:=HPL.o.q 2 rfl;have cp':wl.cell? ⟨pb,0+2,none⟩=some (.pointer (some ⟨w.heap.size,7,none⟩)):=HPL.o.cell 2 rfl;go_wp2_with(go_at_call 78;refine(mU HSL.o HY3X.o).mono ?_;rintro e wm ⟨g,cg,rfl,hgc,hgl,hs,hk⟩;have HSM:=Za hs;have HKM:=Za hk;clear hs hk;refine aD ?_);have cs:wm.cell? ⟨w.heap.size,7,none⟩=some (.int .i64 0):=HSM.o.box.cell 7 (by rw[HE13.o];simp);have fs:=HSM.o.box.free 7;refine aC ?_;go_wp2;go_roundw
   case rel=>exact⟨Za (HKL.o.trans (HKM.o.trans (aW.set R w.heap.size wm 7 _))),(.inr (.inr (.inr (.inl ⟨by go_num,Za (HSM.o.set 7 (.int .i64 y3))⟩))))⟩
   case measure=>simp[intOf]
  ·have cp:=HPL.o.q 3 rfl;have cp':wl.cell? ⟨pb,0+3,none⟩=some (.pointer (some ⟨w.heap.size,8,none⟩)):=HPL.o.cell 3 rfl;go_wp2_with(go_at_call 78;refine(mU HSL.o HY4X.o).mono ?_;rintro e wm ⟨g,cg,rfl,hgc,hgl,hs,hk⟩;have HSM:=Za hs;have HKM:=Za hk;clear hs hk;refine aD ?_);have cs:wm.cell? ⟨w.heap.size,8,none⟩=some (.int .i64 0):=HSM.o.box.cell 8 (by rw[HE13.o];simp);have fs:=HSM.o.box.free 8;refine aC ?_;go_wp2;go_roundw
   case rel=>exact⟨Za (HKL.o.trans (HKM.o.trans (aW.set R w.heap.size wm 8 _))),(.inr (.inr (.inr (.inr (.inl ⟨by go_num,Za (HSM.o.set 8 (.int .i64 y4))⟩)))))⟩
   case measure=>simp[intOf]
  ·have cp:=HPL.o.q 4 rfl;have cp':wl.cell? ⟨pb,0+4,none⟩=some (.pointer (some ⟨w.heap.size,9,none⟩)):=HPL.o.cell 4 rfl;go_wp2_with(go_at_call 78;refine(mU HSL.o HY5X.o).mono ?_;rintro e wm ⟨g,cg,rfl,hgc,hgl,hs,hk⟩;have HSM:=Za hs;have HKM:=Za hk;clear hs hk;refine aD ?_);have cs:wm.cell? ⟨w.heap.size,9,none⟩=some (.int .i64 0):=HSM.o.box.cell 9 (by rw[HE13.o];simp);have fs:=HSM.o.box.free 9;refine aC ?_;go_wp2;go_roundw
   case rel=>exact⟨Za (HKL.o.trans (HKM.o.trans (aW.set R w.heap.size wm 9 _))),(.inr (.inr (.inr (.inr (.inr (.inl ⟨by go_num,Za (HSM.o.set 9 (.int .i64 y5))⟩))))))⟩
   case measure=>simp[intOf]
  ·have cp:=HPL.o.q 5 rfl;have cp':wl.cell? ⟨pb,0+5,none⟩=some (.pointer (some ⟨w.heap.size,10,none⟩)):=HPL.o.cell 5 rfl;go_wp2_with(go_at_call 78;refine(mU HSL.o HY6X.o).mono ?_;rintro e wm ⟨g,cg,rfl,hgc,hgl,hs,hk⟩;have HSM:=Za hs;have HKM:=Za hk;clear hs hk;refine aD ?_);have cs:wm.cell? ⟨w.heap.size,10,none⟩=some (.int .i64 0):=HSM.o.box.cell 10 (by rw[HE13.o];simp);have fs:=HSM.o.box.free 10;refine aC ?_;go_wp2;go_roundw
   case rel=>exact⟨Za (HKL.o.trans (HKM.o.trans (aW.set R w.heap.size wm 10 _))),(.inr (.inr (.inr (.inr (.inr (.inr ⟨by go_num,Za (HSM.o.set 10 (.int .i64 y6))⟩))))))⟩
   case measure=>simp[intOf]
  ·have HS15:=HSL;have HK15:=HKL;obtain⟨V15,hV⟩:∃V,V=wl:=⟨_,rfl⟩;obtain⟨E15,hE⟩:∃E,E=((((((E13.setIfInBounds 5 (.int .i64 y1)).setIfInBounds 6 (.int .i64 y2)).setIfInBounds 7 (.int .i64 y3)).setIfInBounds 8 (.int .i64 y4)).setIfInBounds 9 (.int .i64 y5)).setIfInBounds 10 (.int .i64 y6)):=⟨_,rfl⟩;rw[←hE,←hV]at HS15;rw[←hV]at HK15 ⊢;have HE15:=Za (show E15=#[.int .i64 f,.slice oi d.input.length ci,.slice ol d.lays.length cl,.int .i64 d.loss,.int .i64 kd,.int .i64 y1,.int .i64 y2,.int .i64 y3,.int .i64 y4,.int .i64 y5,.int .i64 y6,.int .i64 sc,.int .i64 0,.slice none 0 0,.slice none 0 0,.slice none 0 0,.int .i64 0,.int .i64 0,.int .i64 0,.slice none 0 0,.int .u64 0,.int .u64 0,.int .u64 0,.int .u64 0,.slice none 0 0,.int .i64 0,.int .i64 0] by rw[hE,HE13.o];simp only[Zf,Zg,Zh]);clear hE hV HSL HKL HPL HP14;go_wp2_with(first|(go_at_call 24;refine(gC _ _).mono ?_;rintro e w' ⟨rfl,rfl⟩)|(go_at_call 76;refine(mO HS15.o (most:=1048576) (by omega) HEVX.o).mono ?_;rintro e w16 ⟨rfl,hs,hk⟩;have HS16:=Za hs;have HK16:=Za hk;clear hs hk;refine aD ?_));have c12:w16.cell? ⟨w.heap.size,12,none⟩=some (.int .i64 0):=HS16.o.box.cell 12 (by rw[HE15.o];rfl);have f12:=HS16.o.box.free 12;refine aC ?_;go_upto_region 16 with(fail);obtain⟨V17,hV⟩:∃V,V=(w16).setCell ⟨w.heap.size,12,none⟩ (.int .i64 ev):=⟨_,rfl⟩;obtain⟨E17,hE⟩:∃E,E=(E15).setIfInBounds 12 (.int .i64 ev):=⟨_,rfl⟩;rw[←hV];have HS17:=Za (show bK w R r14 E17 V17 by rw[hV,hE];exact(HS16.o.set 12 (.int .i64 ev)));have HE17:=Za (show E17=#[.int .i64 f,.slice oi d.input.length ci,.slice ol d.lays.length cl,.int .i64 d.loss,.int .i64 kd,.int .i64 y1,.int .i64 y2,.int .i64 y3,.int .i64 y4,.int .i64 y5,.int .i64 y6,.int .i64 sc,.int .i64 ev,.slice none 0 0,.slice none 0 0,.slice none 0 0,.int .i64 0,.int .i64 0,.int .i64 0,.slice none 0 0,.int .u64 0,.int .u64 0,.int .u64 0,.int .u64 0,.slice none 0 0,.int .i64 0,.int .i64 0] by rw[hE,HE15.o];simp only[Zf,Zg,Zh]);have HK17:=Za (show aW R w.heap.size w16 V17 by rw[hV];exact aW.set R w.heap.size (w16) 12 (.int .i64 ev));clear hV hE;clear c12 f12;have HFA:=Za (wF HF9.o HS9.o.box HS9.o.q.at_ HZ9.o HOKS.o.2 HN9.o ((((((((HK10.o).trans HK11.o).trans HK12.o).trans HK13.o).trans HK14.o).trans HK15.o).trans HK16.o).trans HK17.o) HS17.o.box (by rw[HE17.o,HE4.o];rfl));have HLP:=Za (xB HPSX.o HS17.o.q.wf HOKS.o.1 hsl);go_wp2_with(first|(go_at_call 24;refine(gC _ _).mono ?_;rintro e w' ⟨rfl,rfl⟩)|(go_at_call 79;refine(vL HS17.o HFA.o HOKS.o.1 hsl HPSX.o).mono ?_;rintro e w18 ⟨op,cp,rfl,hhp,hs,hk⟩;have HS18:=Za hs;have HK18:=Za hk;clear hs hk;refine aD ?_));have HHP:=Za hhp;clear hhp HFA;have c13:w18.cell? ⟨w.heap.size,13,none⟩=some (.slice none 0 0):=HS18.o.box.cell 13 (by rw[HE17.o];rfl);have f13:=HS18.o.box.free 13;refine aC ?_;go_upto_region 17 with(fail);obtain⟨V19,hV⟩:∃V,V=(w18).setCell ⟨w.heap.size,13,none⟩ (.slice op ps.length cp):=⟨_,rfl⟩;obtain⟨E19,hE⟩:∃E,E=(E17).setIfInBounds 13 (.slice op ps.length cp):=⟨_,rfl⟩;rw[←hV];have HS19:=Za (show bK w R r15 E19 V19 by rw[hV,hE];exact(HS18.o.set 13 (.slice op ps.length cp)));have HE19:=Za (show E19=#[.int .i64 f,.slice oi d.input.length ci,.slice ol d.lays.length cl,.int .i64 d.loss,.int .i64 kd,.int .i64 y1,.int .i64 y2,.int .i64 y3,.int .i64 y4,.int .i64 y5,.int .i64 y6,.int .i64 sc,.int .i64 ev,.slice op ps.length cp,.slice none 0 0,.slice none 0 0,.int .i64 0,.int .i64 0,.int .i64 0,.slice none 0 0,.int .u64 0,.int .u64 0,.int .u64 0,.int .u64 0,.slice none 0 0,.int .i64 0,.int .i64 0] by rw[hE,HE17.o];simp only[Zf,Zg,Zh]);have HK19:=Za (show aW R w.heap.size w18 V19 by rw[hV];exact aW.set R w.heap.size (w18) 13 (.slice op ps.length cp));clear hV hE;clear c13 f13;go_upto_region 18 with(fail);have HSD:=Za (HS19.o.next ((Zc _ _).drew));have HKD:=Za (aW.of_below (R:=R) (n:=w.heap.size) ((Zc V19.heap.size V19).drew))
   go_cut[110] (fun s110 wx=>s110=.pointer (some ⟨w.heap.size,14,none⟩)∧bK w R r17 (((E19).setIfInBounds 16 (.int .i64 pm)).setIfInBounds 17 (.int .i64 pn)) wx∧aW R w.heap.size V19 wx)
   case first=>
    go_region_with(first|(go_at_call 78;(with_reducible refine(mU HSD.o HPMX.o).mono ?_);rintro e w20 ⟨g,cg,rfl,hgc,hgl,hs,hk⟩;have HS20:=Za hs;have HK20:=Za hk;clear hs hk)|(go_at_call 78;(with_reducible refine(mU HS20.o HPNX.o).mono ?_);rintro e w21 ⟨g2,cg2,rfl,hgc2,hgl2,hs,hk⟩;have HS21:=Za hs;have HK21:=Za hk;clear hs hk;have hgc':w21.cell? ⟨g,0,none⟩=some (.int .i64 pm):=P0 HK21.o hgc (by have:=HSD.o.box.lt;omega) (by have:=HSD.o.box.lt;omega);have c16:w21.cell? ⟨w.heap.size,16,none⟩=some (.int .i64 0):=HS21.o.box.cell 16 (by rw[HE19.o];rfl);have f16:=HS21.o.box.free 16;have c17:w21.cell? ⟨w.heap.size,17,none⟩=some (.int .i64 0):=HS21.o.box.cell 17 (by rw[HE19.o];rfl);have f17:=HS21.o.box.free 17))
    all_goals(go_wp2_with fail;go_meet;exact⟨rfl,(HS21.o.set 16 _).set 17 _,HKD.o.trans (HK20.o.trans (HK21.o.trans ((aW.set R w.heap.size w21 16 _).trans (aW.set R w.heap.size _ 17 _))))⟩)
   case rest=>
    as_aux_lemma=>
     obtain⟨rfl,hs,hk⟩:=hcut;obtain⟨w22,rfl⟩:∃w22,w22=wc:=⟨_,rfl⟩;obtain⟨E20,hE⟩:∃E,E=((E19).setIfInBounds 16 (.int .i64 pm)).setIfInBounds 17 (.int .i64 pn):=⟨_,rfl⟩;rw[←hE]at hs;have HS20:=Za hs;have HK20:=Za hk;have HE20:=Za (show E20=#[.int .i64 f,.slice oi d.input.length ci,.slice ol d.lays.length cl,.int .i64 d.loss,.int .i64 kd,.int .i64 y1,.int .i64 y2,.int .i64 y3,.int .i64 y4,.int .i64 y5,.int .i64 y6,.int .i64 sc,.int .i64 ev,.slice op ps.length cp,.slice none 0 0,.slice none 0 0,.int .i64 pm,.int .i64 pn,.int .i64 0,.slice none 0 0,.int .u64 0,.int .u64 0,.int .u64 0,.int .u64 0,.slice none 0 0,.int .i64 0,.int .i64 0] by rw[hE,HE19.o];simp only[Zf,Zg,Zh]);clear hE hs hk;clear HSD HKD;go_wp2_with(first|(go_at_call 24;refine(gC _ _).mono ?_;rintro e w' ⟨rfl,rfl⟩)|(go_at_call 76;refine(mO HS20.o (most:=1048576) (by omega) HSPX.o).mono ?_;rintro e w23 ⟨rfl,hs,hk⟩;have HS21:=Za hs;have HK21:=Za hk;clear hs hk;refine aD ?_));have c18:w23.cell? ⟨w.heap.size,18,none⟩=some (.int .i64 0):=HS21.o.box.cell 18 (by rw[HE20.o];rfl);have f18:=HS21.o.box.free 18;refine aC ?_;go_upto_region 20 with(fail);obtain⟨V22,hV⟩:∃V,V=(w23).setCell ⟨w.heap.size,18,none⟩ (.int .i64 sp):=⟨_,rfl⟩;obtain⟨E22,hE⟩:∃E,E=(E20).setIfInBounds 18 (.int .i64 sp):=⟨_,rfl⟩;rw[←hV];have HS22:=Za (show bK w R r18 E22 V22 by rw[hV,hE];exact(HS21.o.set 18 (.int .i64 sp)));have HE22:=Za (show E22=#[.int .i64 f,.slice oi d.input.length ci,.slice ol d.lays.length cl,.int .i64 d.loss,.int .i64 kd,.int .i64 y1,.int .i64 y2,.int .i64 y3,.int .i64 y4,.int .i64 y5,.int .i64 y6,.int .i64 sc,.int .i64 ev,.slice op ps.length cp,.slice none 0 0,.slice none 0 0,.int .i64 pm,.int .i64 pn,.int .i64 sp,.slice none 0 0,.int .u64 0,.int .u64 0,.int .u64 0,.int .u64 0,.slice none 0 0,.int .i64 0,.int .i64 0] by rw[hE,HE20.o];simp only[Zf,Zg,Zh]);have HK22:=Za (show aW R w.heap.size w23 V22 by rw[hV];exact aW.set R w.heap.size (w23) 18 (.int .i64 sp));clear hV hE;clear c18 f18;have HLM:=Za (show eO mm by rcases HMMX.o with h|h;exact xB h.2 HS22.o.q.wf HOKS.o.1 hsl;rw[h.2.1];exact xO)
     go_cut[140] (fun b wx=>b=.bool (decide ((kd:Int)=2∨(kd:Int)=3))∧wx=V22)
     case first=>
      have c4:V22.cell? ⟨w.heap.size,4,none⟩=some (.int .i64 kd):=HS22.o.box.cell 4 (by rw[HE22.o];rfl);have f4:=HS22.o.box.free 4;by_cases k2:kd=2
      ·have e2:decide ((kd:Int)=2)=true:=decide_eq_true (by omega);have e4:decide ((kd:Int)=2∨(kd:Int)=3)=true:=decide_eq_true (by omega);go_wp2_with fail;go_meet
       case rel=>exact⟨by rw[e4]<;>(simp<;>omega),rfl⟩
      ·have e2:decide ((kd:Int)=2)=false:=decide_eq_false (by omega);by_cases k3:kd=3
       ·have e3:decide ((kd:Int)=3)=true:=decide_eq_true (by omega);have e4:decide ((kd:Int)=2∨(kd:Int)=3)=true:=decide_eq_true (by omega);go_wp2_with fail;go_meet
        case rel=>exact⟨by rw[e4]<;>(simp<;>omega),rfl⟩
       ·have e3:decide ((kd:Int)=3)=false:=decide_eq_false (by omega);have e4:decide ((kd:Int)=2∨(kd:Int)=3)=false:=decide_eq_false (by omega);go_wp2_with fail;go_meet
        case rel=>exact⟨by rw[e4]<;>(simp<;>omega),rfl⟩
     case rest=>
      as_aux_lemma=>
       obtain⟨rfl,hwc⟩:=hcut;have hwc:=hwc.symm;subst hwc;go_upto_if 140 with fail
       go_cut[11] (fun p wx=>p=.pointer (some ⟨w.heap.size,14,none⟩)∧∃o c,bK w R r19 (E22.setIfInBounds 14 (.slice o mm.length c)) wx∧aW R w.heap.size V22 wx∧aI (aL (w.heap.size+1) wx) wx (fun W=>aY W (.slice o mm.length c) mm))
       case first=>
        have HMX:=HMMX;by_cases hk:(kd:Int)=2∨(kd:Int)=3
        ·have dk:decide ((kd:Int)=2∨(kd:Int)=3)=true:=decide_eq_true hk;have HT:=Za (show dB ss r18=some (mm,r19) by
          rcases HMX.o with h|h
          ·exact h.2
          ·exact absurd hk h.1)
         rw[dk];clear dk hk HMX;have HFA:=Za (wF HF9.o HS9.o.box HS9.o.q.at_ HZ9.o HOKS.o.2 HN9.o (((((((((((((HK10.o).trans HK11.o).trans HK12.o).trans HK13.o).trans HK14.o).trans HK15.o).trans HK16.o).trans HK17.o).trans HK18.o).trans HK19.o).trans HK20.o).trans HK21.o).trans HK22.o) HS22.o.box (by rw[HE22.o,HE4.o];rfl));go_wp2_with(go_at_call 79;refine(vL HS22.o HFA.o HOKS.o.1 hsl HT.o).mono ?_;rintro e wt ⟨ot,ct,rfl,hhp,hs,hk⟩;have HHT:=Za hhp;have HST:=Za hs;have HKT:=Za hk;clear hhp hs hk;refine aD ?_);have ct':wt.cell? ⟨w.heap.size,14,none⟩=some (.slice none 0 0):=HST.o.box.cell 14 (by rw[HE22.o];rfl);have ft':=HST.o.box.free 14;refine aC ?_;go_wp2_with fail;go_meet
         case rel=>exact⟨rfl,ot,ct,HST.o.set 14 _,HKT.o.trans (aW.set R w.heap.size wt 14 _),(HHT.o.keep (aW.set R w.heap.size wt 14 _) (Nat.lt_succ_of_lt hRn) (Nat.lt_succ_self _)).mono fun k hk=>hk⟩
        ·have dk:decide ((kd:Int)=2∨(kd:Int)=3)=false:=decide_eq_false hk;obtain⟨hz1,hz2⟩:mm=[]∧r19=r18:=by
          rcases HMX.o with h|h
          ·exact absurd h.1 hk
          ·exact h.2
         rw[dk];clear dk hk HMX;have hz3:E22.setIfInBounds 14 (.slice none mm.length 0)=E22:=by rw[hz1,HE22.o];simp only[Zf,Zg,Zh,List.length_nil]
         have HZZ:=Za (show bK w R r19 (E22.setIfInBounds 14 (.slice none mm.length 0)) V22 by rw[hz3,hz2];exact HS22.o);have HZY:=Za (show aI (aL (w.heap.size+1) V22) V22 (fun W=>aY W (.slice none mm.length 0) mm) by rw[hz1];exact(gX.start V22 R).fin.base (by have:=HS22.o.box.lt;omega));clear hz1 hz2 hz3;go_wp2_with fail;go_meet
         case rel=>exact⟨rfl,none,0,HZZ.o,aW.refl _ _ _,HZY.o⟩
       case rest=>
        as_aux_lemma=>
         obtain⟨rfl,om,cm,hs,hk,hh⟩:=hcut;obtain⟨w23,rfl⟩:∃w23,w23=wc:=⟨_,rfl⟩;have HHM:=Za hh;clear hh;obtain⟨E23,hE⟩:∃E,E=E22.setIfInBounds 14 (.slice om mm.length cm):=⟨_,rfl⟩;rw[←hE]at hs;have HS23:=Za hs;have HK23:=Za hk;have HE23:=Za (show E23=#[.int .i64 f,.slice oi d.input.length ci,.slice ol d.lays.length cl,.int .i64 d.loss,.int .i64 kd,.int .i64 y1,.int .i64 y2,.int .i64 y3,.int .i64 y4,.int .i64 y5,.int .i64 y6,.int .i64 sc,.int .i64 ev,.slice op ps.length cp,.slice om mm.length cm,.slice none 0 0,.int .i64 pm,.int .i64 pn,.int .i64 sp,.slice none 0 0,.int .u64 0,.int .u64 0,.int .u64 0,.int .u64 0,.slice none 0 0,.int .i64 0,.int .i64 0] by rw[hE,HE22.o];simp only[Zf,Zg,Zh]);clear hE hs hk;go_upto_region 22 with(fail);have HLV:=Za (show eO mv by rcases HMVX.o with h|h;exact xB h.2 HS23.o.q.wf HOKS.o.1 hsl;rw[h.2.1];exact xO)
         go_cut[151] (fun b wx=>b=.bool (decide ((kd:Int)=3))∧wx=w23)
         case first=>
          have c4:w23.cell? ⟨w.heap.size,4,none⟩=some (.int .i64 kd):=HS23.o.box.cell 4 (by rw[HE23.o];rfl);have f4:=HS23.o.box.free 4;go_wp2_with fail;go_meet
          case rel=>exact⟨by first|rfl|simp,rfl⟩
         case rest=>
          as_aux_lemma=>
           obtain⟨rfl,hwc⟩:=hcut;have hwc:=hwc.symm;subst hwc;go_upto_if 151 with fail
           go_cut[11] (fun p wx=>p=.pointer (some ⟨w.heap.size,14,none⟩)∧∃o c,bK w R r20 (E23.setIfInBounds 15 (.slice o mv.length c)) wx∧aW R w.heap.size w23 wx∧aI (aL (w.heap.size+1) wx) wx (fun W=>aY W (.slice o mv.length c) mv))
           case first=>
            have HMX:=HMVX;by_cases hk:(kd:Int)=3
            ·have dk:decide ((kd:Int)=3)=true:=decide_eq_true hk;have HT:=Za (show dB ss r19=some (mv,r20) by
              rcases HMX.o with h|h
              ·exact h.2
              ·exact absurd hk h.1)
             rw[dk];clear dk hk HMX;have HFA:=Za (wF HF9.o HS9.o.box HS9.o.q.at_ HZ9.o HOKS.o.2 HN9.o ((((((((((((((HK10.o).trans HK11.o).trans HK12.o).trans HK13.o).trans HK14.o).trans HK15.o).trans HK16.o).trans HK17.o).trans HK18.o).trans HK19.o).trans HK20.o).trans HK21.o).trans HK22.o).trans HK23.o) HS23.o.box (by rw[HE23.o,HE4.o];rfl));go_wp2_with(go_at_call 79;refine(vL HS23.o HFA.o HOKS.o.1 hsl HT.o).mono ?_;rintro e wt ⟨ot,ct,rfl,hhp,hs,hk⟩;have HHT:=Za hhp;have HST:=Za hs;have HKT:=Za hk;clear hhp hs hk;refine aD ?_);have ct':wt.cell? ⟨w.heap.size,15,none⟩=some (.slice none 0 0):=HST.o.box.cell 15 (by rw[HE23.o];rfl);have ft':=HST.o.box.free 15;refine aC ?_;go_wp2_with fail;go_meet
             case rel=>exact⟨rfl,ot,ct,HST.o.set 15 _,HKT.o.trans (aW.set R w.heap.size wt 15 _),(HHT.o.keep (aW.set R w.heap.size wt 15 _) (Nat.lt_succ_of_lt hRn) (Nat.lt_succ_self _)).mono fun k hk=>hk⟩
            ·have dk:decide ((kd:Int)=3)=false:=decide_eq_false hk;obtain⟨hz1,hz2⟩:mv=[]∧r20=r19:=by
              rcases HMX.o with h|h
              ·exact absurd h.1 hk
              ·exact h.2
             rw[dk];clear dk hk HMX;have hz3:E23.setIfInBounds 15 (.slice none mv.length 0)=E23:=by rw[hz1,HE23.o];simp only[Zf,Zg,Zh,List.length_nil]
             have HZZ:=Za (show bK w R r20 (E23.setIfInBounds 15 (.slice none mv.length 0)) w23 by rw[hz3,hz2];exact HS23.o);have HZY:=Za (show aI (aL (w.heap.size+1) w23) w23 (fun W=>aY W (.slice none mv.length 0) mv) by rw[hz1];exact(gX.start w23 R).fin.base (by have:=HS23.o.box.lt;omega));clear hz1 hz2 hz3;go_wp2_with fail;go_meet
             case rel=>exact⟨rfl,none,0,HZZ.o,aW.refl _ _ _,HZY.o⟩
           case rest=>
            as_aux_lemma=>
             obtain⟨rfl,ov,cv,hs,hk,hh⟩:=hcut;obtain⟨w24,rfl⟩:∃w24,w24=wc:=⟨_,rfl⟩;have HHV:=Za hh;clear hh;obtain⟨E24,hE⟩:∃E,E=E23.setIfInBounds 15 (.slice ov mv.length cv):=⟨_,rfl⟩;rw[←hE]at hs;have HS24:=Za hs;have HK24:=Za hk;have HE24:=Za (show E24=#[.int .i64 f,.slice oi d.input.length ci,.slice ol d.lays.length cl,.int .i64 d.loss,.int .i64 kd,.int .i64 y1,.int .i64 y2,.int .i64 y3,.int .i64 y4,.int .i64 y5,.int .i64 y6,.int .i64 sc,.int .i64 ev,.slice op ps.length cp,.slice om mm.length cm,.slice ov mv.length cv,.int .i64 pm,.int .i64 pn,.int .i64 sp,.slice none 0 0,.int .u64 0,.int .u64 0,.int .u64 0,.int .u64 0,.slice none 0 0,.int .i64 0,.int .i64 0] by rw[hE,HE23.o];simp only[Zf,Zg,Zh]);clear hE hs hk;have HALL:=Za (show aI (aL (w.heap.size+1) w24) w24 (fun U=>(eJ U (.slice oi d.input.length ci) (.slice ol d.lays.length cl) d∧aY U (.slice op ps.length cp) ps)∧aY U (.slice om mm.length cm) mm∧aY U (.slice ov mv.length cv) mv)from(((HH7.o.base (Nat.succ_le_of_lt hw6)).keep (((((((((((((((((HK8.o).trans HK9.o).trans HK10.o).trans HK11.o).trans HK12.o).trans HK13.o).trans HK14.o).trans HK15.o).trans HK16.o).trans HK17.o).trans HK18.o).trans HK19.o).trans HK20.o).trans HK21.o).trans HK22.o).trans HK23.o).trans HK24.o) (Nat.lt_succ_of_lt hRn) (Nat.lt_succ_self _)).and (HHP.o.keep ((((((HK19.o).trans HK20.o).trans HK21.o).trans HK22.o).trans HK23.o).trans HK24.o) (Nat.lt_succ_of_lt hRn) (Nat.lt_succ_self _))).and ((HHM.o.keep (HK24.o) (Nat.lt_succ_of_lt hRn) (Nat.lt_succ_self _)).and (HHV.o.keep ((aW.refl R w.heap.size w24)) (Nat.lt_succ_of_lt hRn) (Nat.lt_succ_self _))))
             try clear HGF
             try clear HQ
             try clear HTW
             try clear HRDT
             try clear HB7
             try clear HH7
             try clear HDF8
             try clear HD8
             try clear HSH
             try clear HSO
             try clear HF9
             try clear HN9
             try clear HD9
             try clear HZ9
             try clear HOKS
             try clear HHP
             try clear HHM
             try clear HHV
             try clear HA8
             try clear HB9
             try clear HNB
             try clear HD
             try clear HSS
             try clear HSG
             try clear HKG
             try clear HV0
             try clear hkl
             try clear hscl
             try clear HSG
             try clear hw6
             try clear hw78
             try clear hw88
             try clear hnpb
             try clear hRpb
             try clear HP14
             try clear H1X
             try clear H2X
             try clear H3X
             try clear H4X
             try clear H5X
             try clear H6X
             try clear H7X
             try clear HY1X
             try clear HY2X
             try clear HY3X
             try clear HY4X
             try clear HY5X
             try clear HY6X
             try clear HEVX
             try clear HPSX
             try clear HPMX
             try clear HPNX
             try clear HSPX
             try clear HMMX
             try clear HMVX
             try clear HTXLX
             try clear HK0
             try clear HK1
             try clear HK2
             try clear HK3
             try clear HK4
             try clear HK5
             try clear HK6
             try clear HK7
             try clear HK8
             try clear HK9
             try clear HK10
             try clear HK11
             try clear HK12
             try clear HK13
             try clear HK14
             try clear HK15
             try clear HK16
             try clear HK17
             try clear HK18
             try clear HK19
             try clear HK20
             try clear HK21
             try clear HK22
             try clear HK23
             try clear HK24
             try clear HK25
             try clear HK26
             try clear HK27
             try clear HK28
             try clear HK29
             try clear HK30
             try clear HK31
             try clear HK32
             try clear HK33
             try clear HK34
             try clear HK35
             try clear HK36
             try clear HK37
             try clear HK38
             try clear HK39
             try clear HK40
             try clear HK41
             try clear HK42
             try clear HK43
             try clear HK44
             try clear HK45
             try clear HK46
             try clear HK47
             try clear HK48
             try clear HK49
             try clear HK50
             try clear HK51
             try clear HK52
             try clear HK53
             try clear HK54
             try clear HK55
             try clear HK56
             try clear HK57
             try clear HK58
             try clear HK59
             try clear HS0
             try clear HS1
             try clear HS2
             try clear HS3
             try clear HS4
             try clear HS5
             try clear HS6
             try clear HS7
             try clear HS8
             try clear HS9
             try clear HS10
             try clear HS11
             try clear HS12
             try clear HS13
             try clear HS14
             try clear HS15
             try clear HS16
             try clear HS17
             try clear HS18
             try clear HS19
             try clear HS20
             try clear HS21
             try clear HS22
             try clear HS23
             try clear HS25
             try clear HS26
             try clear HS27
             try clear HS28
             try clear HS29
             try clear HS30
             try clear HS31
             try clear HS32
             try clear HS33
             try clear HS34
             try clear HS35
             try clear HS36
             try clear HS37
             try clear HS38
             try clear HS39
             try clear HS40
             try clear HS41
             try clear HS42
             try clear HS43
             try clear HS44
             try clear HS45
             try clear HS46
             try clear HS47
             try clear HS48
             try clear HS49
             try clear HS50
             try clear HS51
             try clear HS52
             try clear HS53
             try clear HS54
             try clear HS55
             try clear HS56
             try clear HS57
             try clear HS58
             try clear HS59
             try clear HE0
             try clear HE1
             try clear HE2
             try clear HE3
             try clear HE4
             try clear HE5
             try clear HE6
             try clear HE7
             try clear HE8
             try clear HE9
             try clear HE10
             try clear HE11
             try clear HE12
             try clear HE13
             try clear HE14
             try clear HE15
             try clear HE16
             try clear HE17
             try clear HE18
             try clear HE19
             try clear HE20
             try clear HE21
             try clear HE22
             try clear HE23
             try clear HE25
             try clear HE26
             try clear HE27
             try clear HE28
             try clear HE29
             try clear HE30
             try clear HE31
             try clear HE32
             try clear HE33
             try clear HE34
             try clear HE35
             try clear HE36
             try clear HE37
             try clear HE38
             try clear HE39
             try clear HE40
             try clear HE41
             try clear HE42
             try clear HE43
             try clear HE44
             try clear HE45
             try clear HE46
             try clear HE47
             try clear HE48
             try clear HE49
             try clear HE50
             try clear HE51
             try clear HE52
             try clear HE53
             try clear HE54
             try clear HE55
             try clear HE56
             try clear HE57
             try clear HE58
             try clear HE59
             go_wp2_with(first|(go_at_call 24;refine(gC _ _).mono ?_;rintro e w' ⟨rfl,rfl⟩)|(go_at_call 76;refine(mO HS24.o (most:=4096) (by omega) HNSX.o).mono ?_;rintro e w30 ⟨rfl,hs,hk⟩;have HS25:=Za hs;have HK25:=Za hk;clear hs hk;refine aD ?_));refine aC ?_;go_wp2;obtain⟨i0,hi,hz0,hz1,hz2⟩:=info_parts uL;have hwb:w.heap.size<w30.heap.size:=HS25.o.box.lt;have hb30:=hwb;have hjE:19<E24.size:=by rw[HE24.o];simp
             have HLS:=Za (fM.start (R:=R) (e:=40) (K:=.u64) (j:=19) HS25.o (by rw[HE24.o];rfl));go_loopw[160] (fun i wr=>∃(k:Nat) (xs rk:List Int) (u:Value),k≤ns∧i=.int .i64 k∧Hid (xs.length=k)∧Hid (fM w w30 R 40 .u64 E24 19 rk xs u wr)∧Hid (fL ns r21=(fL (ns-k) rk).map fun q=>(xs++q.1,q.2))) (fun i _=>ns-(intOf i).toNat)
             case atStart=>exact⟨0,[],r21,.slice none 0 0,Ze _,rfl,Za rfl,HLS,Za (by simp)⟩
             case round=>
              obtain⟨k,xs,rk,u,hk,rfl,HXL,HL,HE⟩:=hrel;obtain⟨wl,rfl⟩:∃wl,wl=wr:=⟨_,rfl⟩;obtain⟨au,cu,rfl⟩:∃a c,u=.slice a xs.length c:=aJ HL.o.own;by_cases hlt:k<ns
              ·obtain⟨x,rk2,hn1,he2⟩:=JV hlt HE.o HSRX.o;have hxl:=HXL.o;subst hxl;have HN1:=Za hn1;have HE2:=Za he2;have HD:=Za (HL.o.drew hRn hwb);have cl:wl.cell? ⟨w.heap.size,19,none⟩=some (.slice au xs.length cu):=HL.o.cell hjE;have cld:wl.drew.cell? ⟨w.heap.size,19,none⟩=some (.slice au xs.length cu):=HD.o.cell hjE;clear hn1 he2 HE;go_wp2_with fail;go_region_law(first
                |(go_simp;go_at_call 25;refine(lN HD.o.s (n:=8) (by omega) HN1.o).mono ?_;rintro e wm ⟨rfl,hs,hk⟩;have HL1:=Za (HD.o.step hRn hwb hs hk);clear hs hk;have cl1:wm.cell? ⟨w.heap.size,19,none⟩=some (.slice au xs.length cu):=HL1.o.cell hjE;have cl2:=HL1.o.cellA hjE)
                |(refine qZ (by rfl) (.tmp 164) (.tmp 167) 39 (by rfl) w30.heap.size 40 i0 (.int .u64 0) 1 8 Tryz.underlying39 hi hz0 hz1 hz2 rfl (by decide) (.slice au xs.length cu) xs.length _ rfl (cF HL1.o.own ((Zc _ _).alloc (Zb _) _) (Zb _)) ⟨wm.heap.size,0,none⟩ 1 1 [.int .u64 x] rfl rfl (fS _ _ _ _) (by simp[Value.oneCell']) (by unfold maxLen;omega) (by omega) (by have:=HL1.o.keep.size;simp;omega) ?_;intro v7 w7 ho7 hg7 hat7;obtain⟨a7,c7,rfl⟩:=aJ ho7;have HPP:=Za (HL1.o.put hRn hwb hjE ho7 hg7).1;have cl7:=(HL1.o.put hRn hwb hjE ho7 hg7).2.1;have fl7:=(HL1.o.put hRn hwb hjE ho7 hg7).2.2;clear ho7 hg7 hat7))
               all_goals
                go_wp2;go_roundw
                case rel=>exact⟨xs.length+1,xs++[(x:Int)],rk2,_,by omega,by go_num,Za (by simp),HPP,HE2⟩
                case measure=>simp[intOf];omega
              ·obtain rfl:k=ns:=by omega
               obtain⟨e1,e2⟩:=K6 HE.o HSRX.o;subst e1 e2;obtain⟨ox,rfl⟩:∃a,a=au:=⟨_,rfl⟩;obtain⟨cx,rfl⟩:∃c,c=cu:=⟨_,rfl⟩;obtain⟨wl160,rfl⟩:∃W,W=wl:=⟨_,rfl⟩;have HOX:=Za HL.o.own;have HOXL:=Za HXL.o;have hs:=HL.o.s;have hk:=HL.o.keep;clear HE HL HLS hwb hjE HXL hlt hi hz0 hz1 hz2;obtain⟨E26,hE⟩:∃E,E=E24.setIfInBounds 19 (.slice ox sr.length cx):=⟨_,rfl⟩;rw[←hE]at hs;have HS26:=Za hs;have HK26:=Za hk;have HE26:=Za (show E26=#[.int .i64 f,.slice oi d.input.length ci,.slice ol d.lays.length cl,.int .i64 d.loss,.int .i64 kd,.int .i64 y1,.int .i64 y2,.int .i64 y3,.int .i64 y4,.int .i64 y5,.int .i64 y6,.int .i64 sc,.int .i64 ev,.slice op ps.length cp,.slice om mm.length cm,.slice ov mv.length cv,.int .i64 pm,.int .i64 pn,.int .i64 sp,.slice ox sr.length cx,.int .u64 0,.int .u64 0,.int .u64 0,.int .u64 0,.slice none 0 0,.int .i64 0,.int .i64 0] by rw[hE,HE24.o];simp only[Zf,Zg,Zh]);clear hE hs hk;go_wp2;go_loopw[172] (fun i wr=>Hid (aW R w.heap.size wl160 wr)∧((i=.int .i64 0∧Hid (bK w R r22 E26 wr))∨(i=.int .i64 1∧Hid (bK w R r23 (E26.setIfInBounds 20 (.int .u64 a0)) wr))∨(i=.int .i64 2∧Hid (bK w R r24 ((E26.setIfInBounds 20 (.int .u64 a0)).setIfInBounds 21 (.int .u64 a1)) wr))∨(i=.int .i64 3∧Hid (bK w R r25 (((E26.setIfInBounds 20 (.int .u64 a0)).setIfInBounds 21 (.int .u64 a1)).setIfInBounds 22 (.int .u64 a2)) wr))∨(i=.int .i64 4∧Hid (bK w R r26 ((((E26.setIfInBounds 20 (.int .u64 a0)).setIfInBounds 21 (.int .u64 a1)).setIfInBounds 22 (.int .u64 a2)).setIfInBounds 23 (.int .u64 a3)) wr)))) (fun i _=>4-(intOf i).toNat)
               case atStart=>exact⟨Za (aW.refl _ _ _),.inl ⟨rfl,HS26⟩⟩
               case round=>
                obtain⟨HKL,hcase⟩:=hrel;obtain⟨wl,rfl⟩:∃wl,wl=wr:=⟨_,rfl⟩;rcases hcase with⟨rfl,HSL⟩|⟨rfl,HSL⟩|⟨rfl,HSL⟩|⟨rfl,HSL⟩|⟨rfl,HSL⟩
                ·go_wp2_with(go_at_call 25;refine(lN HSL.o (n:=8) (by omega) HA0X.o).mono ?_;rintro e wm ⟨rfl,hs,hk⟩;have HSM:=Za hs;have HKM:=Za hk;clear hs hk;refine aD ?_);have cs:wm.cell? ⟨w.heap.size,20,none⟩=some (.int .u64 0):=HSM.o.box.cell 20 (by rw[HE26.o];simp);have fs:=HSM.o.box.free 20;refine aC ?_;go_wp2;go_roundw
                 case rel=>exact⟨Za (HKL.o.trans (HKM.o.trans (aW.set R w.heap.size wm 20 _))),(.inr (.inl ⟨by go_num,Za (HSM.o.set 20 (.int .u64 a0))⟩))⟩
                 case measure=>simp[intOf]
                ·go_wp2_with(go_at_call 25;refine(lN HSL.o (n:=8) (by omega) HA1X.o).mono ?_;rintro e wm ⟨rfl,hs,hk⟩;have HSM:=Za hs;have HKM:=Za hk;clear hs hk;refine aD ?_);have cs:wm.cell? ⟨w.heap.size,21,none⟩=some (.int .u64 0):=HSM.o.box.cell 21 (by rw[HE26.o];simp);have fs:=HSM.o.box.free 21;refine aC ?_;go_wp2;go_roundw
                 case rel=>exact⟨Za (HKL.o.trans (HKM.o.trans (aW.set R w.heap.size wm 21 _))),(.inr (.inr (.inl ⟨by go_num,Za (HSM.o.set 21 (.int .u64 a1))⟩)))⟩
                 case measure=>simp[intOf]
                ·go_wp2_with(go_at_call 25;refine(lN HSL.o (n:=8) (by omega) HA2X.o).mono ?_;rintro e wm ⟨rfl,hs,hk⟩;have HSM:=Za hs;have HKM:=Za hk;clear hs hk;refine aD ?_);have cs:wm.cell? ⟨w.heap.size,22,none⟩=some (.int .u64 0):=HSM.o.box.cell 22 (by rw[HE26.o];simp);have fs:=HSM.o.box.free 22;refine aC ?_;go_wp2;go_roundw
                 case rel=>exact⟨Za (HKL.o.trans (HKM.o.trans (aW.set R w.heap.size wm 22 _))),(.inr (.inr (.inr (.inl ⟨by go_num,Za (HSM.o.set 22 (.int .u64 a2))⟩))))⟩
                 case measure=>simp[intOf]
                ·go_wp2_with(go_at_call 25;refine(lN HSL.o (n:=8) (by omega) HA3X.o).mono ?_;rintro e wm ⟨rfl,hs,hk⟩;have HSM:=Za hs;have HKM:=Za hk;clear hs hk;refine aD ?_);have cs:wm.cell? ⟨w.heap.size,23,none⟩=some (.int .u64 0):=HSM.o.box.cell 23 (by rw[HE26.o];simp);have fs:=HSM.o.box.free 23;refine aC ?_;go_wp2;go_roundw
                 case rel=>exact⟨Za (HKL.o.trans (HKM.o.trans (aW.set R w.heap.size wm 23 _))),(.inr (.inr (.inr (.inr ⟨by go_num,Za (HSM.o.set 23 (.int .u64 a3))⟩))))⟩
                 case measure=>simp[intOf]
                ·have hs:=HSL.o;have hk:=HKL.o;obtain⟨w172,rfl⟩:∃W,W=wl:=⟨_,rfl⟩;clear HSL HKL;obtain⟨E27,hE⟩:∃E,E=((((E26.setIfInBounds 20 (.int .u64 a0)).setIfInBounds 21 (.int .u64 a1)).setIfInBounds 22 (.int .u64 a2)).setIfInBounds 23 (.int .u64 a3)):=⟨_,rfl⟩;rw[←hE]at hs;have HS27:=Za hs;have HK27:=Za hk;have HE27:=Za (show E27=#[.int .i64 f,.slice oi d.input.length ci,.slice ol d.lays.length cl,.int .i64 d.loss,.int .i64 kd,.int .i64 y1,.int .i64 y2,.int .i64 y3,.int .i64 y4,.int .i64 y5,.int .i64 y6,.int .i64 sc,.int .i64 ev,.slice op ps.length cp,.slice om mm.length cm,.slice ov mv.length cv,.int .i64 pm,.int .i64 pn,.int .i64 sp,.slice ox sr.length cx,.int .u64 a0,.int .u64 a1,.int .u64 a2,.int .u64 a3,.slice none 0 0,.int .i64 0,.int .i64 0] by rw[hE,HE26.o];simp only[Zf,Zg,Zh]);clear hE hs hk;go_wp2_with(first|(go_at_call 24;refine(gC _ _).mono ?_;rintro e w' ⟨rfl,rfl⟩)|(go_at_call 76;refine(mO HS27.o (most:=1024) (by omega) HNOX.o).mono ?_;rintro e w40 ⟨rfl,hs,hk⟩;have HS28:=Za hs;have HK28:=Za hk;clear hs hk;refine aD ?_));refine aC ?_;go_wp2;obtain⟨i0,hi,hz0,hz1,hz2⟩:=info_parts jJ;have hwb:w.heap.size<w40.heap.size:=HS28.o.box.lt;have hb40:=hwb;have hjE:24<E27.size:=by rw[HE27.o];simp
                 have HLS:=Za (fM.start (R:=R) (e:=3) (K:=.i64) (j:=24) HS28.o (by rw[HE27.o];rfl));go_loopw[184] (fun i wr=>∃(k:Nat) (xs rk:List Int) (u:Value),k≤no∧i=.int .i64 k∧Hid (xs.length=k)∧Hid (fM w w40 R 3 .i64 E27 24 rk xs u wr)∧Hid (fN no r27=(fN (no-k) rk).map fun q=>(xs++q.1,q.2))) (fun i _=>no-(intOf i).toNat)
                 case atStart=>exact⟨0,[],r27,.slice none 0 0,Ze _,rfl,Za rfl,HLS,Za (by simp)⟩
                 case round=>
                  obtain⟨k,xs,rk,u,hk,rfl,HXL,HL,HE⟩:=hrel;obtain⟨wl,rfl⟩:∃wl,wl=wr:=⟨_,rfl⟩;obtain⟨au,cu,rfl⟩:∃a c,u=.slice a xs.length c:=aJ HL.o.own;by_cases hlt:k<no
                  ·obtain⟨x,rk2,hn1,he2⟩:=ME hlt HE.o HODX.o;have hxl:=HXL.o;subst hxl;have HN1:=Za hn1;have HE2:=Za he2;have HD:=Za (HL.o.drew hRn hwb);have cl:wl.cell? ⟨w.heap.size,24,none⟩=some (.slice au xs.length cu):=HL.o.cell hjE;have cld:wl.drew.cell? ⟨w.heap.size,24,none⟩=some (.slice au xs.length cu):=HD.o.cell hjE;clear hn1 he2 HE;go_wp2_with fail;go_region_law(first
                    |(go_simp;go_at_call 76;refine(mO HD.o.s (most:=1024) (by omega) HN1.o).mono ?_;rintro e wm ⟨rfl,hs,hk⟩;have HL1:=Za (HD.o.step hRn hwb hs hk);clear hs hk;have cl1:wm.cell? ⟨w.heap.size,24,none⟩=some (.slice au xs.length cu):=HL1.o.cell hjE;have cl2:=HL1.o.cellA hjE)
                    |(refine qZ (by rfl) (.tmp 188) (.tmp 191) 30 (by rfl) w40.heap.size 3 i0 (.int .i64 0) 1 8 Tryz.underlying30 hi hz0 hz1 hz2 rfl (by decide) (.slice au xs.length cu) xs.length _ rfl (cF HL1.o.own ((Zc _ _).alloc (Zb _) _) (Zb _)) ⟨wm.heap.size,0,none⟩ 1 1 [.int .i64 x] rfl rfl (fS _ _ _ _) (by simp[Value.oneCell']) (by unfold maxLen;omega) (by omega) (by have:=HL1.o.keep.size;simp;omega) ?_;intro v7 w7 ho7 hg7 hat7;obtain⟨a7,c7,rfl⟩:=aJ ho7;have HPP:=Za (HL1.o.put hRn hwb hjE ho7 hg7).1;have cl7:=(HL1.o.put hRn hwb hjE ho7 hg7).2.1;have fl7:=(HL1.o.put hRn hwb hjE ho7 hg7).2.2;clear ho7 hg7 hat7))
                   all_goals
                    go_wp2;go_roundw
                    case rel=>exact⟨xs.length+1,xs++[(x:Int)],rk2,_,by omega,by go_num,Za (by simp),HPP,HE2⟩
                    case measure=>simp[intOf];omega
                  ·obtain rfl:k=no:=by omega
                   obtain⟨e1,e2⟩:=FR HE.o HODX.o;subst e1 e2;obtain⟨oo,rfl⟩:∃a,a=au:=⟨_,rfl⟩;obtain⟨co,rfl⟩:∃c,c=cu:=⟨_,rfl⟩;obtain⟨wl184,rfl⟩:∃W,W=wl:=⟨_,rfl⟩;have HOO:=Za HL.o.own;have HOOL:=Za HXL.o;have hs:=HL.o.s;have hk:=HL.o.keep;clear HE HL HLS hwb hjE HXL hlt hi hz0 hz1 hz2;obtain⟨E29,hE⟩:∃E,E=E27.setIfInBounds 24 (.slice oo od.length co):=⟨_,rfl⟩;rw[←hE]at hs;have HS29:=Za hs;have HK29:=Za hk;have HE29:=Za (show E29=#[.int .i64 f,.slice oi d.input.length ci,.slice ol d.lays.length cl,.int .i64 d.loss,.int .i64 kd,.int .i64 y1,.int .i64 y2,.int .i64 y3,.int .i64 y4,.int .i64 y5,.int .i64 y6,.int .i64 sc,.int .i64 ev,.slice op ps.length cp,.slice om mm.length cm,.slice ov mv.length cv,.int .i64 pm,.int .i64 pn,.int .i64 sp,.slice ox sr.length cx,.int .u64 a0,.int .u64 a1,.int .u64 a2,.int .u64 a3,.slice oo od.length co,.int .i64 0,.int .i64 0] by rw[hE,HE27.o];simp only[Zf,Zg,Zh]);clear hE hs hk;go_wp2_with(first|(go_at_call 24;refine(gC _ _).mono ?_;rintro e w' ⟨rfl,rfl⟩)|(go_at_call 76;refine(mO HS29.o (most:=1024) (by omega) HATX.o).mono ?_;rintro e w50 ⟨rfl,hs,hk⟩;have HS30:=Za hs;have HK30:=Za hk;clear hs hk;refine aD ?_));refine aC ?_;go_wp2_with(first|(go_at_call 24;refine(gC _ _).mono ?_;rintro e w' ⟨rfl,rfl⟩)|(go_at_call 76;refine(mO HS30.o (most:=1048576) (by omega) HEPX.o).mono ?_;rintro e w51 ⟨rfl,hs,hk⟩;have HS31:=Za hs;have HK31:=Za hk;clear hs hk;refine aD ?_));have c25:w51.cell? ⟨w.heap.size,25,none⟩=some (.int .i64 0):=HS31.o.box.cell 25 (by rw[HE29.o];rfl);have f25:=HS31.o.box.free 25;have c26:w51.cell? ⟨w.heap.size,26,none⟩=some (.int .i64 0):=HS31.o.box.cell 26 (by rw[HE29.o];rfl);have f26:=HS31.o.box.free 26;refine aC ?_;go_upto_region 38 with(fail);obtain⟨V32,hV⟩:∃V,V=((w51).setCell ⟨w.heap.size,25,none⟩ (.int .i64 at_)).setCell ⟨w.heap.size,26,none⟩ (.int .i64 ep):=⟨_,rfl⟩;obtain⟨E32,hE⟩:∃E,E=((E29).setIfInBounds 25 (.int .i64 at_)).setIfInBounds 26 (.int .i64 ep):=⟨_,rfl⟩;rw[←hV];have HS32:=Za (show bK w R rest0 E32 V32 by rw[hV,hE];exact((HS31.o.set 25 (.int .i64 at_)).set 26 (.int .i64 ep)));have HE32:=Za (show E32=#[.int .i64 f,.slice oi d.input.length ci,.slice ol d.lays.length cl,.int .i64 d.loss,.int .i64 kd,.int .i64 y1,.int .i64 y2,.int .i64 y3,.int .i64 y4,.int .i64 y5,.int .i64 y6,.int .i64 sc,.int .i64 ev,.slice op ps.length cp,.slice om mm.length cm,.slice ov mv.length cv,.int .i64 pm,.int .i64 pn,.int .i64 sp,.slice ox sr.length cx,.int .u64 a0,.int .u64 a1,.int .u64 a2,.int .u64 a3,.slice oo od.length co,.int .i64 at_,.int .i64 ep] by rw[hE,HE29.o];simp only[Zf,Zg,Zh]);have HK32:=Za (show aW R w.heap.size w51 V32 by rw[hV];exact(aW.set R w.heap.size (w51) 25 (.int .i64 at_)).trans (aW.set R w.heap.size ((w51).setCell ⟨w.heap.size,25,none⟩ (.int .i64 at_)) 26 (.int .i64 ep)));clear hV hE;clear c25 f25 c26 f26;have hszE:(Tryz.prog.info? 47).map (·.size)=some E32.size:=by rw[HE32.o];kernel_rfl
                   have honeE:E32.all (·.oneCell')=true:=by rw[HE32.o];simp[Value.oneCell']
                   have row:V32.heap[w.heap.size]?=some (.cells E32 47 (0,0)):=HS32.o.box;go_wp2_with(first|(refine wpList_load_row rfl 47 _ rfl w.heap.size rfl 47 E32 (0,0) _ row Tryz.underlying47 rfl hszE ?_)|(refine wpList_store_row rfl 47 _ _ rfl w.heap.size E32 rfl rfl 47 _ row hszE rfl honeE ?_));have HSR:=Za (HS32.o.setRow E32);have hrl:=HOXL.o;have hol:=HOOL.o;have hh1:=HALL.o.keep ((((((((HK25.o).trans HK26.o).trans HK27.o).trans HK28.o).trans HK29.o).trans HK30.o).trans HK31.o).trans HK32.o) (Nat.lt_succ_of_lt hRn) (Nat.lt_succ_self _);have hh2:=((aI.own (K:=.u64) HOX.o).base (Nat.succ_le_of_lt hb30)).keep ((((((HK27.o).trans HK28.o).trans HK29.o).trans HK30.o).trans HK31.o).trans HK32.o) (Nat.lt_succ_of_lt hRn) (Nat.lt_succ_self _);have hh3:=((aI.own (K:=.i64) HOO.o).base (Nat.succ_le_of_lt hb40)).keep (((HK30.o).trans HK31.o).trans HK32.o) (Nat.lt_succ_of_lt hRn) (Nat.lt_succ_self _);have HEND:=Za (((hh1.and (hh2.and hh3)).setRow (S:=w.heap.size) (Nat.lt_succ_self _) E32).imp fun U h=>(⟨h.1.1.1,h.1.1.2,h.1.2.1,h.1.2.2,h.2.1,h.2.2,HLP.o,HLM.o,HLV.o,by simp only;omega,by simp only;omega⟩:eC U ⟨f,d,⟨kd,y1,y2,y3,y4,y5,y6,sc,ev⟩,ps,⟨mm,mv,pm,pn,sp⟩,⟨sr,a0,a1,a2,a3⟩,⟨od,at_,ep⟩⟩ (.slice oi d.input.length ci) (.slice ol d.lays.length cl) (.slice op ps.length cp) (.slice om mm.length cm) (.slice ov mv.length cv) (.slice ox sr.length cx) (.slice oo od.length co)));clear hh1 hh2 hh3;exact bodyPost_ret (v:=.agg E32) (results_cell_row rfl _ _ w.heap.size 47 _ (0,0) _ rfl HSR.o.box Tryz.underlying47 rfl hszE) rfl ⟨_,_,_,_,_,_,_,by rw[HE32.o];rfl,HEND.o,fun o n c h=>by cases h;exact HCI.o,HSR.o.q⟩
end Go.Proofs.YtjhkdocidcfpdaaGreatDoor
