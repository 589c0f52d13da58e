/- A part of the proof. -/
import Derived.Test.YtjhkdocidcfpdaaGreatDoorEN37
import Derived.Test.YtjhkdocidcfpdaaGreatDoorEN43
set_option linter.unusedVariables false
set_option linter.unusedSimpArgs false
set_option maxRecDepth 100000
set_option maxHeartbeats 16000000
namespace Go.Proofs.YtjhkdocidcfpdaaGreatDoor
open Go.RowKit Go.Shelf Go
def AL (h:hH) (m:lV) (ps:List aO) (p:Int):Bool:=
 (decide (0<=m.steps)&&decide (m.steps<=1048576)&&decide (0<=m.powMu)&&decide (m.powMu<=p)&&decide (0<=m.powNu)&&decide (m.powNu<=p))&&
 ((decide (h.kind=3) || (decide (m.powMu=p)&&decide (m.powNu=p)&&decide (m.v.length=0)))&&((decide (h.kind≠1) || decide (m.m.length=0))&&
 ((decide (h.kind=1) || gJ m.m ps)&&((decide (h.kind≠3) || gJ m.v ps)&&m.v.all dI))))
theorem GS (h:hH) (m:lV) (ps:List aO) (f:Int):AL h m ps (2^f.toNat)=dZ h m ps f:=by
 obtain⟨kind,rate,mu,nu,eps,decay,clip,sched,every⟩:=h;obtain⟨mm,mv,powMu,powNu,steps⟩:=m;obtain⟨p,hp⟩:∃p:Int,p=2^f.toNat:=⟨_,rfl⟩;have e:(mv.all fun t=>t.da.all fun x=>decide (0<=x))=mv.all dI:=rfl;rw[Bool.eq_iff_iff];simp only[AL,dZ,nU,gJ,e,<-hp,Bool.and_eq_true,Bool.or_eq_true,decide_eq_true_eq,Bool.not_eq_true',decide_eq_false_iff_not];generalize (mv.all dI=true)=S;constructor
 ·rintro⟨⟨⟨⟨⟨⟨a0,a1⟩,a2⟩,a3⟩,a4⟩,a5⟩,b,c,d,e,s⟩;refine⟨a0,a1,?_,?_,a2,a3,a4,a5,?_,s,?_,?_⟩
  ·rcases d with d|d
   ·rcases c with c|c
    ·exact absurd d c
    ·rw[List.length_eq_zero_iff.1 c];rfl
   ·exact d.1
  ·rcases e with e|e
   ·rcases b with b|b
    ·exact absurd b e
    ·rw[List.length_eq_zero_iff.1 b.2];rfl
   ·exact e.1
  ·rcases b with b|b
   ·exact .inl b
   ·exact .inr b.1
  ·rcases d with d|d
   ·rcases c with c|c
    ·exact absurd d c
    ·exact .inr ⟨fun h=>h d,c⟩
   ·by_cases k:kind=1
    ·rcases c with c|c
     ·exact absurd k c
     ·exact .inr ⟨fun h=>h k,c⟩
    ·exact .inl ⟨k,d.2⟩
  ·rcases e with e|e
   ·rcases b with b|b
    ·exact absurd b e
    ·exact .inr ⟨e,b.2⟩
   ·by_cases k:kind=3
    ·exact .inl ⟨k,e.2⟩
    ·rcases b with b|b
     ·exact absurd b k
     ·exact .inr ⟨k,b.2⟩
 ·rintro⟨a0,a1,t1,t2,a2,a3,a4,a5,b,s,c,d⟩;refine⟨⟨⟨⟨⟨⟨a0,a1⟩,a2⟩,a3⟩,a4⟩,a5⟩,?_,?_,?_,?_,s⟩
  ·rcases d with d|d
   ·exact .inl d.1
   ·rcases b with b|b
    ·exact .inl b
    ·exact .inr ⟨b,d.2⟩
  ·rcases c with c|c
   ·exact .inl c.1
   ·exact .inr c.2
  ·rcases c with c|c
   ·exact .inr ⟨t1,c.2⟩
   ·by_cases k:kind=1
    ·exact .inl k
    ·exact absurd k c.1
  ·rcases d with d|d
   ·exact .inr ⟨t2,d.2⟩
   ·exact .inl d.1
theorem vM {t:aO} (j:Nat) (hj:j<t.da.length) (h:aF t.da j<0):dI t=false:=by rw[dI,List.all_eq_false];refine⟨aF t.da j,?_,by simp;omega⟩;rw[dO _ _ hj];exact List.getElem_mem hj
theorem yG {t:aO} (h:∀j,j<t.da.length->0<=aF t.da j):dI t=true:=by
 rw[dI,List.all_eq_true];intro x hx;obtain⟨j,hj,rfl⟩:=List.getElem_of_mem hx;have:=h j hj;rw[dO _ _ hj]at this
 simpa using this
theorem RR (h:hH) (m:lV) (ps:List aO) (f:Int) (vm vv vp:Value) (w:World) (hf:8<=f/\f<=32) (hm:bD w vm m.m) (hv:bD w vv m.v) (hp:bD w vp ps) (lm:eR m.m) (lv:eR m.v):
  Calls Tryz.prog 60 #[.agg #[.int .i64 h.kind,.int .i64 h.rate,.int .i64 h.mu,.int .i64 h.nu,.int .i64 h.eps,.int .i64 h.decay,.int .i64 h.clip,.int .i64 h.sched,.int .i64 h.every],.agg #[vm,vv,.int .i64 m.powMu,.int .i64 m.powNu,.int .i64 m.steps],vp,.int .i64 f] w fun e w'=>e=.returned (.bool (dZ h m ps f))/\Below w.heap.size w w':=by
 obtain⟨R,hR⟩:=Zx (dZ h m ps f);simp only[<-hR];rw[<-GS]at hR;obtain⟨o1,c1,rfl⟩:=hm.slice;obtain⟨o2,c2,rfl⟩:=hv.slice;obtain⟨o3,c3,rfl⟩:=hp.slice;obtain⟨kind,rate,mu,nu,eps,decay,clip,sched,every⟩:=h;obtain⟨mm,mv,powMu,powNu,steps⟩:=m;simp only at hm hv lm lv hR ⊢;obtain⟨p,ai⟩:∃p:Int,p=2^f.toNat:=⟨_,rfl⟩;have aq:=rS f hf p ai;rw[<-ai]at hR;have B:=Za (show R=((decide (0<=steps)&&decide (steps<=1048576)&&decide (0<=powMu)&&decide (powMu<=p)&&decide (0<=powNu)&&decide (powNu<=p))&&
 ((decide (kind=3) || (decide (powMu=p)&&decide (powNu=p)&&decide (mv.length=0)))&&((decide (kind≠1) || decide (mm.length=0))&&
 ((decide (kind=1) || gJ mm ps)&&((decide (kind≠3) || gJ mv ps)&&mv.all dI)))))from hR)
 clear hf hR ai;have H:=Za (Zd hm (Zd hv hp));have HL:=Za (Zd lm lv);have ar:∀(fn:Fn) (first cap:Array Value) (w:World),(Instr.makeFunc fn first cap).run Tryz.prog w=.ok (.func fn first cap) w:=fun _ _ _ _=>rfl;obtain⟨W,hW⟩:=Zx ((w.alloc (.cells #[.int .i64 kind,.int .i64 rate,.int .i64 mu,.int .i64 nu,.int .i64 eps,.int .i64 decay,.int .i64 clip,.int .i64 sched,.int .i64 every] 35)).alloc (.cells #[.slice o1 mm.length c1,.slice o2 mv.length c2,.int .i64 powMu,.int .i64 powNu,.int .i64 steps] 38));have aj:aA W w.heap.size 35 #[.int .i64 kind,.int .i64 rate,.int .i64 mu,.int .i64 nu,.int .i64 eps,.int .i64 decay,.int .i64 clip,.int .i64 sched,.int .i64 every]:=by rw[hW];exact(aA.new w _ _).next ((Zc _ _).alloc (Zb _) _)
 have ak:aA W (w.heap.size+1) 38 #[.slice o1 mm.length c1,.slice o2 mv.length c2,.int .i64 powMu,.int .i64 powNu,.int .i64 steps]:=by rw[hW,<-World.size_alloc w];exact aA.new _ _ _
 have al:Below w.heap.size w W:=by rw[hW];exact((Zc _ _).alloc (Zb _) _).alloc (by simp) _
 have A:=Za (Zd aj (Zd ak al));have HW:=Za hW;clear hm hv hp lm lv aj ak al hW;go_enter Tryz.func60,Tryz.ntmps60;go_upto_region 1 with(fail);rw[<-HW.o];have x0:=A.o.1.q 0 rfl;obtain⟨y0,y1,y2,y3,y4⟩:=A.o.2.1.r5;by_cases p0:0<=steps;rotate_left
 ·have np0:steps<0:=by omega
  have Dp0:=Za (decide_eq_false p0);clear p0;go_wp2;go_ret;exact⟨aG (by rw[B.o];simp[Dp0.o]),A.o.2.2⟩
 have np0:¬steps<0:=by omega
 have Dp0:=Za (decide_eq_true p0);clear p0;by_cases p1:steps<=1048576;rotate_left
 ·have np1:1048576<steps:=by omega
  have Dp1:=Za (decide_eq_false p1);clear p1;go_wp2;go_ret;exact⟨aG (by rw[B.o];simp[Dp0.o,Dp1.o]),A.o.2.2⟩
 have np1:¬1048576<steps:=by omega
 have Dp1:=Za (decide_eq_true p1);clear p1;by_cases p2:0<=powMu;rotate_left
 ·have np2:powMu<0:=by omega
  have Dp2:=Za (decide_eq_false p2);clear p2;go_wp2;go_ret;exact⟨aG (by rw[B.o];simp[Dp0.o,Dp1.o,Dp2.o]),A.o.2.2⟩
 have np2:¬powMu<0:=by omega
 have Dp2:=Za (decide_eq_true p2);clear p2;by_cases p3:powMu<=p;rotate_left
 ·have np3:p<powMu:=by omega
  have Dp3:=Za (decide_eq_false p3);clear p3;go_wp2;go_ret;exact⟨aG (by rw[B.o];simp[Dp0.o,Dp1.o,Dp2.o,Dp3.o]),A.o.2.2⟩
 have np3:¬p<powMu:=by omega
 have Dp3:=Za (decide_eq_true p3);clear p3;by_cases p4:0<=powNu;rotate_left
 ·have np4:powNu<0:=by omega
  have Dp4:=Za (decide_eq_false p4);clear p4;go_wp2;go_ret;exact⟨aG (by rw[B.o];simp[Dp0.o,Dp1.o,Dp2.o,Dp3.o,Dp4.o]),A.o.2.2⟩
 have np4:¬powNu<0:=by omega
 have Dp4:=Za (decide_eq_true p4);clear p4;by_cases p5:powNu<=p;rotate_left
 ·have np5:p<powNu:=by omega
  have Dp5:=Za (decide_eq_false p5);clear p5;go_wp2;go_ret;exact⟨aG (by rw[B.o];simp[Dp0.o,Dp1.o,Dp2.o,Dp3.o,Dp4.o,Dp5.o]),A.o.2.2⟩
 have np5:¬p<powNu:=by omega
 have Dp5:=Za (decide_eq_true p5);clear p5;by_cases V:kind=1
 ·subst V;have DK:=Za (Zd (show decide ((1:Int)=3)=false by decide) (Zd (show decide ((1:Int)≠1)=false by decide) (Zd (show decide ((1:Int)=1)=true by decide) (show decide ((1:Int)≠3)=true by decide))));by_cases q1:powMu=p;rotate_left
  ·have e1:(powMu != p)=true:=by simpa using q1
   have Dq:=Za (decide_eq_false q1);clear q1;go_wp2;go_ret;exact⟨aG (by rw[B.o];simp[Dp0.o,Dp1.o,Dp2.o,Dp3.o,Dp4.o,Dp5.o,DK.o,Dq.o]),A.o.2.2⟩
  have e1:(powMu != p)=false:=by simpa using q1
  have Dq1:=Za (decide_eq_true q1);clear q1;by_cases q2:powNu=p;rotate_left
  ·have e2:(powNu != p)=true:=by simpa using q2
   have Dq:=Za (decide_eq_false q2);clear q2;go_wp2;go_ret;exact⟨aG (by rw[B.o];simp[Dp0.o,Dp1.o,Dp2.o,Dp3.o,Dp4.o,Dp5.o,DK.o,Dq1.o,Dq.o]),A.o.2.2⟩
  have e2:(powNu != p)=false:=by simpa using q2
  have Dq2:=Za (decide_eq_true q2);clear q2;by_cases q3:mv.length=0;rotate_left
  ·have e3:0<mv.length:=by omega
   have Dq:=Za (show ¬mv=[] from fun h=>q3 (by rw[h];rfl));clear q3;go_wp2;go_ret;exact⟨aG (by rw[B.o];simp[Dp0.o,Dp1.o,Dp2.o,Dp3.o,Dp4.o,Dp5.o,DK.o,Dq1.o,Dq2.o,Dq.o]),A.o.2.2⟩
  have e3:¬0<mv.length:=by omega
  have Dq3:=Za (List.length_eq_zero_iff.1 q3);clear q3;by_cases q4:mm.length=0;rotate_left
  ·have e4:0<mm.length:=by omega
   have Dq:=Za (show ¬mm=[] from fun h=>q4 (by rw[h];rfl));clear q4;go_wp2;go_ret;exact⟨aG (by rw[B.o];simp[Dp0.o,Dp1.o,Dp2.o,Dp3.o,Dp4.o,Dp5.o,DK.o,Dq1.o,Dq2.o,Dq3.o,Dq.o]),A.o.2.2⟩
  have e4:¬0<mm.length:=by omega
  have Dq4:=Za (List.length_eq_zero_iff.1 q4);clear q4;go_wp2
  try clear e3
  go_loopw[10] (fun i wr=>∃k:Nat,k<=mv.length/\i=.int .i64 k/\Hid ((mv.take k).all dI=true)/\Below W.heap.size W wr) (fun i _=>mv.length-(intOf i).toNat)
  case atStart=>exact⟨0,Ze _,rfl,Za rfl,Zc _ _⟩
  case round=>
   obtain⟨k,hk,rfl,HA,F⟩:=hrel;obtain⟨w5,rfl⟩:=Zx wr;have C:=Za (Zd (A.o.2.1.next F) (A.o.2.2.trans (F.mono A.o.2.2.size)));have I:=Za F;clear F y1;have y1:=C.o.1.q 1 rfl;by_cases G:k<mv.length
   ·obtain⟨b,off,vs,vd,rfl,d0,d1,hs,T⟩:=(H.o.2.1.below C.o.2 (Zb _)).tens k G;have J:=Za (HL.o.2.2 _ (jR mv k G));obtain⟨o5,k5,rfl⟩:=aU T;have HS:=Za (qV dI mv k G);have HF:=Za (rA dI mv k G);obtain⟨t,Y⟩:=Zx (aR mv k);rw[<-Y]at J d1 T HS HF;have HD:=Za T;have Z:=Za d1;have HT:=Za Y;have ao:=J.o.2;have ap:=HL.o.2.1;clear hs d0 Y T;go_wp2;go_loopw[11] (fun i wr=>∃j:Nat,j<=t.da.length/\i=.int .i64 j/\Hid (∀l,l<j->0<=aF t.da l)/\Hid (aN w5 wr)) (fun i _=>t.da.length-(intOf i).toNat)
    case atStart=>exact⟨0,Ze _,rfl,Za (fun l h=>absurd h (Nat.not_lt_zero l)),Za (aN.refl _)⟩
    case round=>
     obtain⟨j,hj,rfl,HJ,L⟩:=hrel;obtain⟨w6,rfl⟩:=Zx wr;have E:=Za (L.o.below w5.heap.size);clear y1 d1;have y1:w6.cell? ⟨w.heap.size+1,1,none⟩=some (.slice (some ⟨b,off,none⟩) mv.length c2):=aX E.o (C.o.1.cell 1 rfl);have d1:=aX E.o Z.o;by_cases M:j<t.da.length
     ·obtain⟨oq,cq,aa,N⟩:=HD.o.below E.o (Zb _);injection aa with ab ac ad;subst ab;clear ac ad;obtain⟨b6,off6,rfl,e1⟩:=N j M;clear N;by_cases O:aF t.da j<0
      ·have D9:=Za (HF.o (vM j M O));have ae:=Za (C.o.2.trans (E.o.mono C.o.2.size));go_wp2;go_ret;exact⟨aG (by rw[B.o,D9.o];simp),ae.o⟩
      ·have af:=Za (show ∀l,l<j+1->0<=aF t.da l from fun l hl=>by
        by_cases e:l=j
        ·subst e;omega
        ·exact HJ.o l (by omega))
       go_wp2;go_roundw
       case rel=>exact⟨j+1,by omega,by go_num,af,L⟩
       case measure=>simp[intOf];omega
     ·obtain rfl:j=t.da.length:=by omega
      have ag:=Za (show(mv.take (k+1)).all dI=true by rw[HS.o,HA.o,yG HJ.o];rfl);have ah:=Za (I.o.trans (E.o.mono I.o.size));go_wp2;go_roundw
      case rel=>exact⟨k+1,by omega,by go_num,ag,ah.o⟩
      case measure=>simp[intOf];omega
   ·obtain rfl:k=mv.length:=by omega
    have D9:=Za (show mv.all dI=true by have:=HA.o;rwa [List.take_length]at this);go_wp2;go_ret;exact⟨aG (by rw[B.o];simp[Dp0.o,Dp1.o,Dp2.o,Dp3.o,Dp4.o,Dp5.o,DK.o,Dq1.o,Dq2.o,Dq3.o,Dq4.o,D9.o]),C.o.2⟩
 by_cases X:kind=3
 ·subst X;have DK:=Za (Zd (show decide ((3:Int)=3)=true by decide) (Zd (show decide ((3:Int)≠1)=true by decide) (Zd (show decide ((3:Int)=1)=false by decide) (show decide ((3:Int)≠3)=false by decide))));go_wp2_with(go_at_call 58;refine(tR _ _ mm ps _ (H.o.1.below A.o.2.2 (Zb _)) (H.o.2.2.below A.o.2.2 (Zb _)) HL.o.1).mono ?_;rintro e w1 ⟨rfl,U⟩;refine aD ?_);have D:=Za (Zd (A.o.1.next U) (Zd (A.o.2.1.next U) (A.o.2.2.trans (U.mono A.o.2.2.size))));clear U x0 y0 y1 y2 y3 y4;have x0:=D.o.1.q 0 rfl;have y0:=D.o.2.1.q 0 rfl;have y1:=D.o.2.1.q 1 rfl;have y2:True:=trivial;have y3:True:=trivial;have y4:True:=trivial;refine aC ?_;cases q5:gJ mm ps with
  |false=>
   have Dq:=Za q5;clear q5;go_wp2;go_ret;exact⟨aG (by rw[B.o];simp[Dp0.o,Dp1.o,Dp2.o,Dp3.o,Dp4.o,Dp5.o,DK.o,Dq.o]),D.o.2.2⟩
  |true=>
   have Dq5:=Za q5;clear q5;go_wp2_with(go_at_call 58;refine(tR _ _ mv ps _ (H.o.2.1.below D.o.2.2 (Zb _)) (H.o.2.2.below D.o.2.2 (Zb _)) HL.o.2).mono ?_;rintro e w2 ⟨rfl,U⟩;refine aD ?_);have P:=Za (Zd (D.o.1.next U) (Zd (D.o.2.1.next U) (D.o.2.2.trans (U.mono D.o.2.2.size))));clear U x0 y0 y1 y2 y3 y4;have x0:=P.o.1.q 0 rfl;have y0:=P.o.2.1.q 0 rfl;have y1:=P.o.2.1.q 1 rfl;have y2:True:=trivial;have y3:True:=trivial;have y4:True:=trivial;refine aC ?_;cases q6:gJ mv ps with
   |false=>
    have Dq:=Za q6;clear q6;go_wp2;go_ret;exact⟨aG (by rw[B.o];simp[Dp0.o,Dp1.o,Dp2.o,Dp3.o,Dp4.o,Dp5.o,DK.o,Dq5.o,Dq.o]),P.o.2.2⟩
   |true=>
    have Dq6:=Za q6;clear q6;go_wp2
    try clear e3
    go_loopw[10] (fun i wr=>∃k:Nat,k<=mv.length/\i=.int .i64 k/\Hid ((mv.take k).all dI=true)/\Below w2.heap.size w2 wr) (fun i _=>mv.length-(intOf i).toNat)
    case atStart=>exact⟨0,Ze _,rfl,Za rfl,Zc _ _⟩
    case round=>
     obtain⟨k,hk,rfl,HA,F⟩:=hrel;obtain⟨w5,rfl⟩:=Zx wr;have C:=Za (Zd (P.o.2.1.next F) (P.o.2.2.trans (F.mono P.o.2.2.size)));have I:=Za F;clear F y1;have y1:=C.o.1.q 1 rfl;by_cases G:k<mv.length
     ·obtain⟨b,off,vs,vd,rfl,d0,d1,hs,T⟩:=(H.o.2.1.below C.o.2 (Zb _)).tens k G;have J:=Za (HL.o.2.2 _ (jR mv k G));obtain⟨o5,k5,rfl⟩:=aU T;have HS:=Za (qV dI mv k G);have HF:=Za (rA dI mv k G);obtain⟨t,Y⟩:=Zx (aR mv k);rw[<-Y]at J d1 T HS HF;have HD:=Za T;have Z:=Za d1;have HT:=Za Y;have ao:=J.o.2;have ap:=HL.o.2.1;clear hs d0 Y T;go_wp2;go_loopw[11] (fun i wr=>∃j:Nat,j<=t.da.length/\i=.int .i64 j/\Hid (∀l,l<j->0<=aF t.da l)/\Hid (aN w5 wr)) (fun i _=>t.da.length-(intOf i).toNat)
      case atStart=>exact⟨0,Ze _,rfl,Za (fun l h=>absurd h (Nat.not_lt_zero l)),Za (aN.refl _)⟩
      case round=>
       obtain⟨j,hj,rfl,HJ,L⟩:=hrel;obtain⟨w6,rfl⟩:=Zx wr;have E:=Za (L.o.below w5.heap.size);clear y1 d1;have y1:w6.cell? ⟨w.heap.size+1,1,none⟩=some (.slice (some ⟨b,off,none⟩) mv.length c2):=aX E.o (C.o.1.cell 1 rfl);have d1:=aX E.o Z.o;by_cases M:j<t.da.length
       ·obtain⟨oq,cq,aa,N⟩:=HD.o.below E.o (Zb _);injection aa with ab ac ad;subst ab;clear ac ad;obtain⟨b6,off6,rfl,e1⟩:=N j M;clear N;by_cases O:aF t.da j<0
        ·have D9:=Za (HF.o (vM j M O));have ae:=Za (C.o.2.trans (E.o.mono C.o.2.size));go_wp2;go_ret;exact⟨aG (by rw[B.o,D9.o];simp),ae.o⟩
        ·have af:=Za (show ∀l,l<j+1->0<=aF t.da l from fun l hl=>by
          by_cases e:l=j
          ·subst e;omega
          ·exact HJ.o l (by omega))
         go_wp2;go_roundw
         case rel=>exact⟨j+1,by omega,by go_num,af,L⟩
         case measure=>simp[intOf];omega
       ·obtain rfl:j=t.da.length:=by omega
        have ag:=Za (show(mv.take (k+1)).all dI=true by rw[HS.o,HA.o,yG HJ.o];rfl);have ah:=Za (I.o.trans (E.o.mono I.o.size));go_wp2;go_roundw
        case rel=>exact⟨k+1,by omega,by go_num,ag,ah.o⟩
        case measure=>simp[intOf];omega
     ·obtain rfl:k=mv.length:=by omega
      have D9:=Za (show mv.all dI=true by have:=HA.o;rwa [List.take_length]at this);go_wp2;go_ret;exact⟨aG (by rw[B.o];simp[Dp0.o,Dp1.o,Dp2.o,Dp3.o,Dp4.o,Dp5.o,DK.o,Dq5.o,Dq6.o,D9.o]),C.o.2⟩
 have DK:=Za (Zd (decide_eq_false X) (Zd (decide_eq_true (show kind≠1 from V)) (Zd (decide_eq_false V) (decide_eq_true (show kind≠3 from X)))));have f1:(kind != 1)=true:=by simpa using V
 have f3:(kind != 3)=true:=by simpa using X
 have g1:(kind==1)=false:=by simpa using V
 have g3:(kind==3)=false:=by simpa using X
 clear V X;by_cases q1:powMu=p;rotate_left
 ·have e1:(powMu != p)=true:=by simpa using q1
  have Dq:=Za (decide_eq_false q1);clear q1;go_wp2;go_ret;exact⟨aG (by rw[B.o];simp[Dp0.o,Dp1.o,Dp2.o,Dp3.o,Dp4.o,Dp5.o,DK.o,Dq.o]),A.o.2.2⟩
 have e1:(powMu != p)=false:=by simpa using q1
 have Dq1:=Za (decide_eq_true q1);clear q1;by_cases q2:powNu=p;rotate_left
 ·have e2:(powNu != p)=true:=by simpa using q2
  have Dq:=Za (decide_eq_false q2);clear q2;go_wp2;go_ret;exact⟨aG (by rw[B.o];simp[Dp0.o,Dp1.o,Dp2.o,Dp3.o,Dp4.o,Dp5.o,DK.o,Dq1.o,Dq.o]),A.o.2.2⟩
 have e2:(powNu != p)=false:=by simpa using q2
 have Dq2:=Za (decide_eq_true q2);clear q2;by_cases q3:mv.length=0;rotate_left
 ·have e3:0<mv.length:=by omega
  have Dq:=Za (show ¬mv=[] from fun h=>q3 (by rw[h];rfl));clear q3;go_wp2;go_ret;exact⟨aG (by rw[B.o];simp[Dp0.o,Dp1.o,Dp2.o,Dp3.o,Dp4.o,Dp5.o,DK.o,Dq1.o,Dq2.o,Dq.o]),A.o.2.2⟩
 have e3:¬0<mv.length:=by omega
 have Dq3:=Za (List.length_eq_zero_iff.1 q3);clear q3;go_wp2_with(go_at_call 58;refine(tR _ _ mm ps _ (H.o.1.below A.o.2.2 (Zb _)) (H.o.2.2.below A.o.2.2 (Zb _)) HL.o.1).mono ?_;rintro e w1 ⟨rfl,U⟩;refine aD ?_);have D:=Za (Zd (A.o.1.next U) (Zd (A.o.2.1.next U) (A.o.2.2.trans (U.mono A.o.2.2.size))));clear U x0 y0 y1 y2 y3 y4;have x0:=D.o.1.q 0 rfl;have y0:=D.o.2.1.q 0 rfl;have y1:=D.o.2.1.q 1 rfl;have y2:True:=trivial;have y3:True:=trivial;have y4:True:=trivial;refine aC ?_;cases q5:gJ mm ps with
 |false=>
  have Dq:=Za q5;clear q5;go_wp2;go_ret;exact⟨aG (by rw[B.o];simp[Dp0.o,Dp1.o,Dp2.o,Dp3.o,Dp4.o,Dp5.o,DK.o,Dq1.o,Dq2.o,Dq3.o,Dq.o]),D.o.2.2⟩
 |true=>
  have Dq5:=Za q5;clear q5;go_wp2
  try clear e3
  go_loopw[10] (fun i wr=>∃k:Nat,k<=mv.length/\i=.int .i64 k/\Hid ((mv.take k).all dI=true)/\Below w1.heap.size w1 wr) (fun i _=>mv.length-(intOf i).toNat)
  case atStart=>exact⟨0,Ze _,rfl,Za rfl,Zc _ _⟩
  case round=>
   obtain⟨k,hk,rfl,HA,F⟩:=hrel;obtain⟨w5,rfl⟩:=Zx wr;have C:=Za (Zd (D.o.2.1.next F) (D.o.2.2.trans (F.mono D.o.2.2.size)));have I:=Za F;clear F y1;have y1:=C.o.1.q 1 rfl;by_cases G:k<mv.length
   ·obtain⟨b,off,vs,vd,rfl,d0,d1,hs,T⟩:=(H.o.2.1.below C.o.2 (Zb _)).tens k G;have J:=Za (HL.o.2.2 _ (jR mv k G));obtain⟨o5,k5,rfl⟩:=aU T;have HS:=Za (qV dI mv k G);have HF:=Za (rA dI mv k G);obtain⟨t,Y⟩:=Zx (aR mv k);rw[<-Y]at J d1 T HS HF;have HD:=Za T;have Z:=Za d1;have HT:=Za Y;have ao:=J.o.2;have ap:=HL.o.2.1;clear hs d0 Y T;go_wp2;go_loopw[11] (fun i wr=>∃j:Nat,j<=t.da.length/\i=.int .i64 j/\Hid (∀l,l<j->0<=aF t.da l)/\Hid (aN w5 wr)) (fun i _=>t.da.length-(intOf i).toNat)
    case atStart=>exact⟨0,Ze _,rfl,Za (fun l h=>absurd h (Nat.not_lt_zero l)),Za (aN.refl _)⟩
    case round=>
     obtain⟨j,hj,rfl,HJ,L⟩:=hrel;obtain⟨w6,rfl⟩:=Zx wr;have E:=Za (L.o.below w5.heap.size);clear y1 d1;have y1:w6.cell? ⟨w.heap.size+1,1,none⟩=some (.slice (some ⟨b,off,none⟩) mv.length c2):=aX E.o (C.o.1.cell 1 rfl);have d1:=aX E.o Z.o;by_cases M:j<t.da.length
     ·obtain⟨oq,cq,aa,N⟩:=HD.o.below E.o (Zb _);injection aa with ab ac ad;subst ab;clear ac ad;obtain⟨b6,off6,rfl,e1⟩:=N j M;clear N;by_cases O:aF t.da j<0
      ·have D9:=Za (HF.o (vM j M O));have ae:=Za (C.o.2.trans (E.o.mono C.o.2.size));go_wp2;go_ret;exact⟨aG (by rw[B.o,D9.o];simp),ae.o⟩
      ·have af:=Za (show ∀l,l<j+1->0<=aF t.da l from fun l hl=>by
        by_cases e:l=j
        ·subst e;omega
        ·exact HJ.o l (by omega))
       go_wp2;go_roundw
       case rel=>exact⟨j+1,by omega,by go_num,af,L⟩
       case measure=>simp[intOf];omega
     ·obtain rfl:j=t.da.length:=by omega
      have ag:=Za (show(mv.take (k+1)).all dI=true by rw[HS.o,HA.o,yG HJ.o];rfl);have ah:=Za (I.o.trans (E.o.mono I.o.size));go_wp2;go_roundw
      case rel=>exact⟨k+1,by omega,by go_num,ag,ah.o⟩
      case measure=>simp[intOf];omega
   ·obtain rfl:k=mv.length:=by omega
    have D9:=Za (show mv.all dI=true by have:=HA.o;rwa [List.take_length]at this);go_wp2;go_ret;exact⟨aG (by rw[B.o];simp[Dp0.o,Dp1.o,Dp2.o,Dp3.o,Dp4.o,Dp5.o,DK.o,Dq1.o,Dq2.o,Dq3.o,Dq5.o,D9.o]),C.o.2⟩
