/- A part of the proof. -/
import Derived.Test.YtjhkdocidcfpdaaGreatDoorEN26
set_option linter.unusedVariables false
set_option linter.unusedSimpArgs false
set_option maxRecDepth 100000
set_option maxHeartbeats 16000000
namespace Go.Proofs.YtjhkdocidcfpdaaGreatDoor
open Go.RowKit Go.Shelf Go
theorem CR (v u:Value) (has:Bool) (a b:List aO) (g:Nat) (w:World) (hb:aA w g 36 #[u]) (hr:bD w v a) (hs:bD w u b) (hl:eR a):
  Calls Tryz.prog 128 #[v,.bool has,.pointer (some ⟨g,0,none⟩)] w fun e w'=>e=.returned (.bool (nU has a b))/\Below w.heap.size w w':=by
 obtain⟨o,cap,rfl⟩:=hr.slice;obtain⟨o2,cap2,rfl⟩:=hs.slice;have A:=Za (VB _ _ a b w hr hs hl);have c0:=hb.q 0 rfl;clear hr hs hb;cases has with
 |true=>
  go_enter Tryz.func128,Tryz.ntmps128;go_wp2_with(go_at_call 129;refine A.o.mono ?_;rintro e w' ⟨rfl,hb⟩;refine aD ?_);refine aC ?_;have B:=Za hb;clear hb c0;go_wp2
  all_goals
   go_ret;exact⟨aG (by simp[nU, *]),B.o⟩
 |false=>
  have hd:((a.length:Int)==0)=decide (a=[]):=by rw[Bool.eq_iff_iff,beq_iff_eq,decide_eq_true_eq,<-List.length_eq_zero_iff];omega
  go_enter Tryz.func128,Tryz.ntmps128;go_wp2
  all_goals
   go_ret;exact⟨aG (by simp[nU,hd, *]),Zc _ _⟩
theorem RN (v:Int) (w:World):
  Calls Tryz.prog 131 #[.int .i64 v] w fun e w'=>e=.returned (.bool (decide (v<0)))/\aN w w':=by
 go_enter Tryz.func131,Tryz.ntmps131;go_wp2
 all_goals
  go_ret;exact⟨aG (by simp[*]),aN.refl _⟩
def dI (t:aO):Bool:=t.da.all fun x=>decide (0<=x)
theorem VE (l:List Int):(l.any fun x=>decide (x<0))=!(l.all fun x=>decide (0<=x)):=by
 rw[List.not_all_eq_any_not]
 congr 1
 funext x
 by_cases h:x<0
 ·simp[h]
 ·simp[h];omega
theorem IS (h:hH) (m:lV) (ps:List aO) (f:Int) (vm vv vp:Value) (w:World) (hf:8<=f/\f<=32) (hm:bD w vm m.m) (hv:bD w vv m.v) (hp:bD w vp ps) (lm:eR m.m) (lv:eR m.v) (lp:eR ps):
  Calls Tryz.prog 83 #[.agg #[.int .i64 h.kind,.int .i64 h.rate,.int .i64 h.mu,.int .i64 h.nu,.int .i64 h.eps,.int .i64 h.decay,.int .i64 h.clip,.int .i64 h.sched,.int .i64 h.every],.agg #[vm,vv,.int .i64 m.powMu,.int .i64 m.powNu,.int .i64 m.steps],vp,.int .i64 f] w fun e w'=>e=.returned (.bool (dZ h m ps f))/\Below w.heap.size w w':=by
 obtain⟨o1,c1,rfl⟩:=hm.slice;obtain⟨o2,c2,rfl⟩:=hv.slice;obtain⟨o3,c3,rfl⟩:=hp.slice;obtain⟨kind,rate,mu,nu,eps,decay,clip,sched,every⟩:=h;obtain⟨mm,mv,powMu,powNu,steps⟩:=m;simp only at hm hv lm lv ⊢;have ar:∀(fn:Fn) (first cap:Array Value) (w:World),(Instr.makeFunc fn first cap).run Tryz.prog w=.ok (.func fn first cap) w:=fun _ _ _ _=>rfl;obtain⟨p,N⟩:∃p:Int,p=2^f.toNat:=⟨_,rfl⟩;have au:=rS f hf p N;have B:=Za N;clear hf;have H:=Za (Zd hm (Zd hv hp));have V:=Za (Zd lm (Zd lv lp));obtain⟨W,X⟩:=Zx (((w.alloc (.cells #[.int .i64 kind,.int .i64 rate,.int .i64 mu,.int .i64 nu,.int .i64 eps,.int .i64 decay,.int .i64 clip,.int .i64 sched,.int .i64 every] 35)).alloc (.cells #[.slice o1 mm.length c1,.slice o2 mv.length c2,.int .i64 powMu,.int .i64 powNu,.int .i64 steps] 38)).alloc (.cells #[.slice o3 ps.length c3] 36));have Y:aA W w.heap.size 35 #[.int .i64 kind,.int .i64 rate,.int .i64 mu,.int .i64 nu,.int .i64 eps,.int .i64 decay,.int .i64 clip,.int .i64 sched,.int .i64 every]:=by rw[X];exact((aA.new w _ _).next ((Zc _ _).alloc (Zb _) _)).next ((Zc _ _).alloc (Zb _) _)
 have Z:aA W (w.heap.size+1) 38 #[.slice o1 mm.length c1,.slice o2 mv.length c2,.int .i64 powMu,.int .i64 powNu,.int .i64 steps]:=by rw[X,<-World.size_alloc w];exact(aA.new _ _ _).next ((Zc _ _).alloc (Zb _) _)
 have aa:aA W (w.heap.size+2) 36 #[.slice o3 ps.length c3]:=by rw[X,show w.heap.size+2=((w.alloc (.cells #[.int .i64 kind,.int .i64 rate,.int .i64 mu,.int .i64 nu,.int .i64 eps,.int .i64 decay,.int .i64 clip,.int .i64 sched,.int .i64 every] 35)).alloc (.cells #[.slice o1 mm.length c1,.slice o2 mv.length c2,.int .i64 powMu,.int .i64 powNu,.int .i64 steps] 38)).heap.size by simp];exact aA.new _ _ _
 have ab:Below w.heap.size w W:=by rw[X];exact(((Zc _ _).alloc (Zb _) _).alloc (by simp) _).alloc (by simp;omega) _
 have F:=Za (Zd Y (Zd Z (Zd aa ab)));have HW:=Za X;clear hm hv hp lm lv lp N Y Z aa ab X;go_enter Tryz.func83,Tryz.ntmps83;by_cases p0:0<=steps;rotate_left
 ·have np0:steps<0:=by omega
  have Dp0:=Za (decide_eq_false p0);clear p0;go_wp2;go_ret;exact⟨aG (by rw[dZ,<-B.o];simp[Dp0.o]),(by have:=F.o.2.2.2;rw[HW.o]at this;exact this)⟩
 have np0:¬steps<0:=by omega
 have Dp0:=Za (decide_eq_true p0);clear p0;by_cases p1:steps<=1048576;rotate_left
 ·have np1:1048576<steps:=by omega
  have Dp1:=Za (decide_eq_false p1);clear p1;go_wp2;go_ret;exact⟨aG (by rw[dZ,<-B.o];simp[Dp0.o,Dp1.o]),(by have:=F.o.2.2.2;rw[HW.o]at this;exact this)⟩
 have np1:¬1048576<steps:=by omega
 have Dp1:=Za (decide_eq_true p1);clear p1;go_wp2_with(go_at_call 81;rw[<-HW.o];refine(vK _ mm _ (H.o.1.below F.o.2.2.2 (Zb _)) V.o.1).mono ?_;rintro e w1 ⟨rfl,D⟩;refine aD ?_);have E:=Za (Zd (F.o.1.next D) (Zd (F.o.2.1.next D) (Zd (F.o.2.2.1.next D) (F.o.2.2.2.trans (D.mono F.o.2.2.2.size)))));clear D;have x0:=E.o.1.q 0 rfl;obtain⟨y0,y1,y2,y3,y4⟩:=E.o.2.1.r5;refine aC ?_;cases p2:mm.all cK with
 |false=>
  have Dp2:=Za p2;clear p2;go_wp2;go_ret;exact⟨aG (by rw[dZ,<-B.o];simp[Dp0.o,Dp1.o,Dp2.o]),E.o.2.2.2⟩
 |true=>
  have Dp2:=Za p2;clear p2;go_wp2_with(go_at_call 81;refine(vK _ mv _ (H.o.2.1.below E.o.2.2.2 (Zb _)) V.o.2.1).mono ?_;rintro e w2 ⟨rfl,D⟩;refine aD ?_);have A:=Za (Zd (E.o.1.next D) (Zd (E.o.2.1.next D) (Zd (E.o.2.2.1.next D) (E.o.2.2.2.trans (D.mono E.o.2.2.2.size)))));clear x0 y0 y1 y2 y3 y4;clear D;have x0:=A.o.1.q 0 rfl;obtain⟨y0,y1,y2,y3,y4⟩:=A.o.2.1.r5;refine aC ?_;cases p3:mv.all cK with
  |false=>
   have Dp3:=Za p3;clear p3;go_wp2;go_ret;exact⟨aG (by rw[dZ,<-B.o];simp[Dp0.o,Dp1.o,Dp2.o,Dp3.o]),A.o.2.2.2⟩
  |true=>
   have Dp3:=Za p3;clear p3;by_cases p4:0<=powMu;rotate_left
   ·have np4:powMu<0:=by omega
    have Dp4:=Za (decide_eq_false p4);clear p4;go_wp2;go_ret;exact⟨aG (by rw[dZ,<-B.o];simp[Dp0.o,Dp1.o,Dp2.o,Dp3.o,Dp4.o]),A.o.2.2.2⟩
   have np4:¬powMu<0:=by omega
   have Dp4:=Za (decide_eq_true p4);clear p4;by_cases p5:powMu<=p;rotate_left
   ·have np5:p<powMu:=by omega
    have Dp5:=Za (decide_eq_false p5);clear p5;go_wp2;go_ret;exact⟨aG (by rw[dZ,<-B.o];simp[Dp0.o,Dp1.o,Dp2.o,Dp3.o,Dp4.o,Dp5.o]),A.o.2.2.2⟩
   have np5:¬p<powMu:=by omega
   have Dp5:=Za (decide_eq_true p5);clear p5;by_cases p6:0<=powNu;rotate_left
   ·have np6:powNu<0:=by omega
    have Dp6:=Za (decide_eq_false p6);clear p6;go_wp2;go_ret;exact⟨aG (by rw[dZ,<-B.o];simp[Dp0.o,Dp1.o,Dp2.o,Dp3.o,Dp4.o,Dp5.o,Dp6.o]),A.o.2.2.2⟩
   have np6:¬powNu<0:=by omega
   have Dp6:=Za (decide_eq_true p6);clear p6;by_cases p7:powNu<=p;rotate_left
   ·have np7:p<powNu:=by omega
    have Dp7:=Za (decide_eq_false p7);clear p7;go_wp2;go_ret;exact⟨aG (by rw[dZ,<-B.o];simp[Dp0.o,Dp1.o,Dp2.o,Dp3.o,Dp4.o,Dp5.o,Dp6.o,Dp7.o]),A.o.2.2.2⟩
   have np7:¬p<powNu:=by omega
   have Dp7:=Za (decide_eq_true p7);clear p7;have O:(decide (kind=3) || (decide (powMu=p)&&decide (powNu=p)))=true\/(kind≠3/\(powMu≠p\/powNu≠p)):=by
    by_cases P:kind=3
    ·left;simp[P]
    ·by_cases R:powMu=p
     ·by_cases h3:powNu=p
      ·left;simp[R,h3]
      ·right;exact⟨P,.inr h3⟩
     ·right;exact⟨P,.inl R⟩
   rcases O with O|⟨J,ac⟩;rotate_left
   ·have D8:=Za (show(decide (kind=3) || (decide (powMu=p)&&decide (powNu=p)))=false by rcases ac with h|h<;>simp[J,h]);have e1:(kind != 3)=true:=by simpa using J
    rcases ac with h|h
    ·have e2:(powMu != p)=true:=by simpa using h
     clear J h;go_wp2;go_ret;exact⟨aG (by rw[dZ,<-B.o];simp[Dp0.o,Dp1.o,Dp2.o,Dp3.o,Dp4.o,Dp5.o,Dp6.o,Dp7.o,D8.o]),A.o.2.2.2⟩
    ·have e3:(powNu != p)=true:=by simpa using h
     clear J h;by_cases R:powMu=p
     ·have e2:(powMu != p)=false:=by simpa using R
      clear R;go_wp2;go_ret;exact⟨aG (by rw[dZ,<-B.o];simp[Dp0.o,Dp1.o,Dp2.o,Dp3.o,Dp4.o,Dp5.o,Dp6.o,Dp7.o,D8.o]),A.o.2.2.2⟩
     ·have e2:(powMu != p)=true:=by simpa using R
      clear R;go_wp2;go_ret;exact⟨aG (by rw[dZ,<-B.o];simp[Dp0.o,Dp1.o,Dp2.o,Dp3.o,Dp4.o,Dp5.o,Dp6.o,Dp7.o,D8.o]),A.o.2.2.2⟩
   have D8:=Za O;have T:(kind != 3)=false\/(kind != 3)=true/\(powMu != p)=false/\(powNu != p)=false:=by
    by_cases P:kind=3
    ·left;simp[P]
    ·right;simp[P]at O;simp[P,O]
   clear O;have av:=V.o.2.1.1;rcases T with T|⟨T,aw,ax⟩
   all_goals
    go_wp2;go_loopw[76] (fun i wr=>∃k:Nat,k<=mv.length/\i=.int .i64 k/\Hid ((mv.take k).all dI=true)/\Below w2.heap.size w2 wr) (fun i _=>mv.length-(intOf i).toNat)
    case atStart=>exact⟨0,Ze _,rfl,Za rfl,Zc _ _⟩
    case round=>
     obtain⟨k,O,rfl,HA,I⟩:=hrel;have C:=Za (Zd (A.o.1.next I) (Zd (A.o.2.1.next I) (Zd (A.o.2.2.1.next I) (A.o.2.2.2.trans (I.mono A.o.2.2.2.size)))));have ad:=Za I;clear I;by_cases L:k<mv.length
     ·obtain⟨b,off,vs,vd,rfl,c0,c1,hs,hd⟩:=(H.o.2.1.below C.o.2.2.2 (Zb _)).tens k L;have HD:=Za hd;have ak:=Za (V.o.2.1.2 _ (jR mv k L));obtain⟨o5,k5,rfl⟩:=aU hd;obtain⟨o6,k6,rfl⟩:=aU hs;have HS:=Za (qV dI mv k L);have HF:=Za (rA dI mv k L);clear hs hd;go_wp2_with(go_at_call 130;refine(zJ _ (aR mv k).da 131 #[] (fun x=>decide (x<0)) _ (HD.o.below ((Zc _ _).alloc (Zb _) _) (Zb _)) ak.o.2 (enters_of Tryz.func131 (by kernel_rfl) rfl) (fun j hj n=>RN _ _)).mono ?_;rintro e wy ⟨rfl,ae⟩;refine aD ?_);rw[VE];have af:=Za (((Zc wr.heap.size wr).alloc (Zb _) _).trans (ae.below _));clear ae;refine aC ?_;have ag:dI (aR mv k)=(aR mv k).da.all fun x=>decide (0<=x):=rfl;rw[<-ag];clear ag;cases hq:dI (aR mv k)with
      |false=>
       have D9:=Za (HF.o hq);have U:=Za (C.o.2.2.2.trans (af.o.mono C.o.2.2.2.size));clear hq c0 c1;go_wp2;go_ret;have this:(mv.all fun t=>t.da.all fun x=>decide (0<=x))=false:=D9.o;exact⟨aG (by rw[dZ,<-B.o];simp only[Dp0.o,Dp1.o,Dp2.o,Dp3.o,Dp4.o,Dp5.o,Dp6.o,Dp7.o,D8.o,this,Bool.true_and,Bool.false_and]),U.o⟩
      |true=>
       have al:=Za (show(mv.take (k+1)).all dI=true by rw[HS.o,HA.o,hq];rfl);have U:=Za (ad.o.trans (af.o.mono ad.o.size));clear hq c0 c1;go_wp2;go_roundw
       case rel=>exact⟨k+1,by omega,by go_num,al,U.o⟩
       case measure=>simp[intOf];omega
     ·obtain rfl:k=mv.length:=by omega
      have D9:=Za (show mv.all dI=true by have:=HA.o;rwa [List.take_length]at this);clear x0 y0 y1 y2 y3 y4;have x0:=C.o.1.q 0 rfl;have y0:=C.o.2.1.q 0 rfl;obtain⟨kb,ao⟩:=Zy (kind != 1);obtain⟨kt,ap⟩:=Zy (kind==3);have ah:=Za (show decide (kind≠1)=kb by rw[<-ao,Bool.eq_iff_iff];simp);have ai:=Za (show decide (kind=3)=kt by rw[<-ap,Bool.eq_iff_iff];simp);go_wp2_with(go_at_call 128;refine(CR _ _ kb mm ps (w.heap.size+2) _ C.o.2.2.1 (H.o.1.below C.o.2.2.2 (Zb _)) (H.o.2.2.below C.o.2.2.2 (Zb _)) V.o.1).mono ?_;rintro e wz ⟨rfl,D⟩;refine aD ?_);have G:=Za (Zd (C.o.1.next D) (Zd (C.o.2.1.next D) (Zd (C.o.2.2.1.next D) (C.o.2.2.2.trans (D.mono C.o.2.2.2.size)))));clear D x0 y0;have x0:=G.o.1.q 0 rfl;have y1:=G.o.2.1.q 1 rfl;refine aC ?_;have this:(mv.all fun t=>t.da.all fun x=>decide (0<=x))=true:=D9.o;have aj:=Za this;clear this;cases M:nU kb mm ps with
      |false=>
       have DL:=Za M;clear M;go_wp2;go_ret;exact⟨aG (by rw[dZ,<-B.o];simp only[Dp0.o,Dp1.o,Dp2.o,Dp3.o,Dp4.o,Dp5.o,Dp6.o,Dp7.o,D8.o,aj.o,Bool.true_and,ah.o,DL.o,Bool.false_and]),G.o.2.2.2⟩
      |true=>
       have DL:=Za M;clear M;go_wp2_with(go_at_call 128;refine(CR _ _ kt mv ps (w.heap.size+2) _ G.o.2.2.1 (H.o.2.1.below G.o.2.2.2 (Zb _)) (H.o.2.2.below G.o.2.2.2 (Zb _)) V.o.2.1).mono ?_;rintro e wq ⟨rfl,D⟩;refine aD ?_);have aq:=Za (G.o.2.2.2.trans (D.mono G.o.2.2.2.size));clear D x0 y1;refine aC ?_;go_wp2
       all_goals
        go_ret;exact⟨aG (by have h8:=D8.o;rw[ai.o]at h8;rw[dZ,<-B.o];simp only[Dp0.o,Dp1.o,Dp2.o,Dp3.o,Dp4.o,Dp5.o,Dp6.o,Dp7.o,h8,aj.o,Bool.true_and,ah.o,DL.o,ai.o]),aq.o⟩
def kG (n:aE):Bool:=decide (iS n.kind≠[])&&kL n.kind (dK n)&&decide (cW n.kind (dK n)=n)
mutual
def hZ (deep:Nat):aB->Bool
 |.mk n b=>kG n&&(bif decide (n.kind=13) then decide (deep≠4)&&eO (deep+1) b else decide (b.length=0))
def eO (deep:Nat):List aB->Bool
 |[]=>true
 |l::r=>hZ deep l&&eO deep r
end
theorem RA (deep:Nat) (l:aB):hZ deep l=(kG l.n&&(bif decide (l.n.kind=13) then decide (deep≠4)&&eO (deep+1) l.body else decide (l.body.length=0))):=by
 cases l with
 |mk n b=>rw[hZ,aB.body,aB.n]
theorem IQ (deep:Nat) (ls:List aB) (h:∀j (hj:j<ls.length),hZ deep ls[j]=true):eO deep ls=true:=by
 induction ls with
 |nil=>rw[eO]
 |cons l r ih=>
  rw[eO,Bool.and_eq_true];exact⟨h 0 (by simp),ih fun j hj=>h (j+1) (by simpa using hj)⟩
theorem K9 (deep:Nat) (ls:List aB) (k:Nat) (hk:k<ls.length) (h:hZ deep ls[k]=false):eO deep ls=false:=by
 induction ls generalizing k with
 |nil=>simp at hk
 |cons l r ih=>
  rw[eO,Bool.and_eq_false_iff];cases k with
  |zero=>exact .inl h
  |succ k=>exact .inr (ih k (by simpa using hk) h)
def rR (ls:List aB):Prop:=∀(deep:Nat) (v:Value) (w:World),bO w v ls->ls.length<=140737488351232->deep<=4->
 Calls Tryz.prog 109 #[v,.int .i64 deep] w fun e w'=>e=.returned (.bool (eO deep ls))/\Below w.heap.size w w'
theorem CO {w4 W:World} {b o:Nat} {v0 v1 v2 v3 v4 v5 v6 v7 v8:Value} (A:w4.cell? ⟨b,o,none⟩=some v0/\w4.cell? ⟨b,o+1,none⟩=some v1/\w4.cell? ⟨b,o+2,none⟩=some v2/\w4.cell? ⟨b,o+3,none⟩=some v3/\w4.cell? ⟨b,o+4,none⟩=some v4/\w4.cell? ⟨b,o+5,none⟩=some v5/\w4.cell? ⟨b,o+6,none⟩=some v6/\w4.cell? ⟨b,o+7,none⟩=some v7/\w4.cell? ⟨b,o+8,none⟩=some v8) (h:Below w4.heap.size w4 W):W.cell? ⟨b,o,none⟩=some v0/\W.cell? ⟨b,o+1,none⟩=some v1/\W.cell? ⟨b,o+2,none⟩=some v2/\W.cell? ⟨b,o+3,none⟩=some v3/\W.cell? ⟨b,o+4,none⟩=some v4/\W.cell? ⟨b,o+5,none⟩=some v5/\W.cell? ⟨b,o+6,none⟩=some v6/\W.cell? ⟨b,o+7,none⟩=some v7/\W.cell? ⟨b,o+8,none⟩=some v8:=⟨aX h A.1,aX h A.2.1,aX h A.2.2.1,aX h A.2.2.2.1,aX h A.2.2.2.2.1,aX h A.2.2.2.2.2.1,aX h A.2.2.2.2.2.2.1,aX h A.2.2.2.2.2.2.2.1,aX h A.2.2.2.2.2.2.2.2⟩
theorem EF {w:World} {C:Nat} {T:TypeId} {u0 u1 u2 u3 u4 u5 u6 u7 u8 v0 v1 v2 v3 v4 v5 v6 v7 v8:Value} (h:aA w C T #[u0,u1,u2,u3,u4,u5,u6,u7,u8]):aA (((((((((w.setCell ⟨C,0,none⟩ v0).setCell ⟨C,1,none⟩ v1).setCell ⟨C,2,none⟩ v2).setCell ⟨C,3,none⟩ v3).setCell ⟨C,4,none⟩ v4).setCell ⟨C,5,none⟩ v5).setCell ⟨C,6,none⟩ v6).setCell ⟨C,7,none⟩ v7).setCell ⟨C,8,none⟩ v8) C T #[v0,v1,v2,v3,v4,v5,v6,v7,v8]:=by have h0:aA _ C T #[v0,u1,u2,u3,u4,u5,u6,u7,u8]:=h.set 0 v0;have h1:aA _ C T #[v0,v1,u2,u3,u4,u5,u6,u7,u8]:=h0.set 1 v1;have h2:aA _ C T #[v0,v1,v2,u3,u4,u5,u6,u7,u8]:=h1.set 2 v2;have h3:aA _ C T #[v0,v1,v2,v3,u4,u5,u6,u7,u8]:=h2.set 3 v3;have h4:aA _ C T #[v0,v1,v2,v3,v4,u5,u6,u7,u8]:=h3.set 4 v4;have h5:aA _ C T #[v0,v1,v2,v3,v4,v5,u6,u7,u8]:=h4.set 5 v5;have h6:aA _ C T #[v0,v1,v2,v3,v4,v5,v6,u7,u8]:=h5.set 6 v6;have h7:aA _ C T #[v0,v1,v2,v3,v4,v5,v6,v7,u8]:=h6.set 7 v7;exact h7.set 8 v8
theorem KI (n:aE):(dK n).length<=100000:=by rw[yE];have:=zV n.kind;omega
theorem FO (ls:List aB) (af:∀l∈ls,rR l.body):rR ls:=by
 intro deep v w hr hl bm;obtain⟨o,cap,rfl⟩:=hr.len;have HR:=Za hr;have ap:=Za af;clear hr af;obtain⟨d,hd⟩:=Zx (eO deep ls);rw[<-hd];have HD:=Za hd;clear hd;go_enter Tryz.func109,Tryz.ntmps109;go_wp2;go_loopw[5] (fun i wr=>∃(k:Nat),k<=ls.length/\i=.int .i64 k/\Hid (∀j (hj:j<ls.length),j<k->hZ deep ls[j]=true)/\Below w.heap.size w wr) (fun i _=>ls.length-(intOf i).toNat)
 case atStart=>exact⟨0,Ze _,rfl,Za (fun j hj h=>absurd h (Nat.not_lt_zero j)),Zc _ _⟩
 case round=>
  obtain⟨k,hk,rfl,HA,hB⟩:=hrel;obtain⟨w3,rfl⟩:=Zx wr;have HB:=Za hB;clear hB;by_cases ag:k<ls.length
  ·obtain⟨b,off,vb,rfl,I,T,U⟩:=(HR.o.below HB.o (Zb _)).lay k ag;have HQ:=Za (ap.o _ (List.getElem_mem ag));have J:=Za (fun h=>HD.o.trans (K9 deep ls k ag h));have L:=Za (RA deep ls[k]);have ah:=Za (fun(h:hZ deep ls[k]=true)=>show ∀j (hj:j<ls.length),j<k+1->hZ deep ls[j]=true from fun j hj h2=>by
    by_cases e:j=k
    ·subst e;exact h
    ·exact HA.o j hj (by omega))
   generalize ls[k]=x at I T U HQ J L ah;obtain⟨n,body⟩:=x;simp only[aB.n,aB.body]at I T U HQ L;have be:=Za T;obtain⟨o5,c5,rfl⟩:=T.len;have a0:=I 0 _ rfl;have a1:=I 1 _ rfl;have a2:=I 2 _ rfl;have a3:=I 3 _ rfl;have a4:=I 4 _ rfl;have a5:=I 5 _ rfl;have a6:=I 6 _ rfl;have a7:=I 7 _ rfl;have a8:=I 8 _ rfl;simp only[Nat.add_zero]at a0;clear I T;have D:=Za (Zd a0 (Zd a1 (Zd a2 (Zd a3 (Zd a4 (Zd a5 (Zd a6 (Zd a7 a8))))))));have A:=Za (show Below w3.heap.size w3 w3.drew from Below.drew (Zc _ _));cases O:iS n.kind with
   |nil=>
    have V:=Za (J.o (by rw[L.o,kG,O];rfl));have ai:=Za (fun w=>O▸wR n.kind w);clear O;go_wp2_with fail;go_quiet(first|(go_at_call 144;exact Calls.quiet_of ((ai.o _).mono fun _ _ h=>⟨h.1,h.2▸aN.refl _⟩)));go_wp2_with fail;go_ret;exact⟨aG V.o.symm,HB.o.trans ((show aN w3 _ from⟨_,rfl⟩).below _)⟩
   |cons nb nr=>
    have bf:=Za (show iS n.kind≠[] by rw[O];simp);have ai:=Za (fun w=>O▸wR n.kind w);clear O;go_wp2_with fail;go_region_held3 (fun w'=>w'.cell? ⟨b,off+k*9,none⟩=some (.int .i64 n.kind)/\w'.cell? ⟨b,off+k*9+1,none⟩=some (.int .i64 n.inn)/\w'.cell? ⟨b,off+k*9+2,none⟩=some (.int .i64 n.o)/\w'.cell? ⟨b,off+k*9+3,none⟩=some (.int .i64 n.size)/\w'.cell? ⟨b,off+k*9+4,none⟩=some (.int .i64 n.stride)/\w'.cell? ⟨b,off+k*9+5,none⟩=some (.int .i64 n.pad)/\w'.cell? ⟨b,off+k*9+6,none⟩=some (.int .i64 n.percent)/\w'.cell? ⟨b,off+k*9+7,none⟩=some (.int .i64 n.heads)/\w'.cell? ⟨b,off+k*9+8,none⟩=some (.slice o5 body.length c5))
     (exact⟨aX A.o D.o.1,aX A.o D.o.2.1,aX A.o D.o.2.2.1,aX A.o D.o.2.2.2.1,aX A.o D.o.2.2.2.2.1,aX A.o D.o.2.2.2.2.2.1,aX A.o D.o.2.2.2.2.2.2.1,aX A.o D.o.2.2.2.2.2.2.2.1,aX A.o D.o.2.2.2.2.2.2.2.2⟩)
     (first
     |(go_at_call 144;refine(ai.o _).mono ?_;rintro e wy ⟨rfl,aq⟩;have A:=Za (show Below w3.heap.size w3 wy by rw[<-aq];exact A.o);clear aq)
     |(go_at_call 146;refine(sZ n (.slice o5 body.length c5) _).mono ?_;rintro e wy ⟨⟨u,rfl,hu⟩,F⟩;have HU:=Za (Rd.of_own hu);have A:=Za (A.o.trans (F.mono A.o.size));clear hu F)
     |(go_at_call 145;refine(UA n.kind u (dK n) _ HU.o (KI n)).mono ?_;rintro e wy ⟨rfl,F⟩;have A:=Za (A.o.trans (F.mono A.o.size));clear F))
    clear a0 a1 a2 a3 a4 a5 a6 a7 a8;obtain⟨w4,Y⟩:=Zx wy;rw[<-Y];have aj:=Za (show Below w.heap.size w w4 by rw[Y];exact HB.o.trans (A.o.mono HB.o.size));have ar:=Za (show bO w4 (.slice o5 body.length c5) body by rw[Y];exact be.o.next A.o);have au:w4.cell? ⟨b,off+k*9,none⟩=some (.int .i64 n.kind)/\w4.cell? ⟨b,off+k*9+1,none⟩=some (.int .i64 n.inn)/\w4.cell? ⟨b,off+k*9+2,none⟩=some (.int .i64 n.o)/\w4.cell? ⟨b,off+k*9+3,none⟩=some (.int .i64 n.size)/\w4.cell? ⟨b,off+k*9+4,none⟩=some (.int .i64 n.stride)/\w4.cell? ⟨b,off+k*9+5,none⟩=some (.int .i64 n.pad)/\w4.cell? ⟨b,off+k*9+6,none⟩=some (.int .i64 n.percent)/\w4.cell? ⟨b,off+k*9+7,none⟩=some (.int .i64 n.heads)/\w4.cell? ⟨b,off+k*9+8,none⟩=some (.slice o5 body.length c5):=by rw[Y];exact⟨aX A.o D.o.1,aX A.o D.o.2.1,aX A.o D.o.2.2.1,aX A.o D.o.2.2.2.1,aX A.o D.o.2.2.2.2.1,aX A.o D.o.2.2.2.2.2.1,aX A.o D.o.2.2.2.2.2.2.1,aX A.o D.o.2.2.2.2.2.2.2.1,aX A.o D.o.2.2.2.2.2.2.2.2⟩
    have ak:=Za au;obtain⟨a0,a1,a2,a3,a4,a5,a6,a7,a8⟩:=au;have A:=Za (show Below w4.heap.size w4 w4.drew from Below.drew (Zc _ _));clear Y;cases M:kL n.kind (dK n)with
    |false=>
     have V:=Za (J.o (by rw[L.o,kG,M,Bool.and_false];rfl));clear M;go_wp2_with fail;go_ret;exact⟨aG V.o.symm,aj.o⟩
    |true=>
     have av:=Za M;clear M;obtain⟨m,hm⟩:=Zx (cW n.kind (dK n));have HM:=Za hm;have bg:=Za (show((cW n.kind (dK n)).cells (.slice none 0 0)).toArray=#[.int .i64 m.kind,.int .i64 m.inn,.int .i64 m.o,.int .i64 m.size,.int .i64 m.stride,.int .i64 m.pad,.int .i64 m.percent,.int .i64 m.heads,.slice none 0 0] by rw[<-hm];rfl);clear hm;have zl:∀X:World,aA (X.alloc (.cells (madeCells (Value.agg (bN.cells (.slice none 0 0)).toArray).cells 9) 175)) X.heap.size 175 _:=fun X=>aA.new X _ _;have bn:=Za zl;clear zl;go_wp2_with fail
     go_cut[6] (fun x6 wx=>∃lb,x6=.pointer (some ⟨lb,0,none⟩)/\w4.heap.size<=lb/\aA wx lb 175 #[.int .i64 m.kind,.int .i64 m.inn,.int .i64 m.o,.int .i64 m.size,.int .i64 m.stride,.int .i64 m.pad,.int .i64 m.percent,.int .i64 m.heads,.slice none 0 0]/\Below w4.heap.size w4 wx)
     case first=>
      go_region_held3 (fun w'=>w'.cell? ⟨b,off+k*9,none⟩=some (.int .i64 n.kind)/\w'.cell? ⟨b,off+k*9+1,none⟩=some (.int .i64 n.inn)/\w'.cell? ⟨b,off+k*9+2,none⟩=some (.int .i64 n.o)/\w'.cell? ⟨b,off+k*9+3,none⟩=some (.int .i64 n.size)/\w'.cell? ⟨b,off+k*9+4,none⟩=some (.int .i64 n.stride)/\w'.cell? ⟨b,off+k*9+5,none⟩=some (.int .i64 n.pad)/\w'.cell? ⟨b,off+k*9+6,none⟩=some (.int .i64 n.percent)/\w'.cell? ⟨b,off+k*9+7,none⟩=some (.int .i64 n.heads)/\w'.cell? ⟨b,off+k*9+8,none⟩=some (.slice o5 body.length c5))
       ((refine CO ak.o ?_;(repeat(first|with_reducible exact A.o|with_reducible exact Zc _ _|with_reducible refine Below.drew ?_|with_reducible refine Below.alloc ?_ (by first|with_reducible exact A.o.size|with_reducible exact H.o.size|simp) _|with_reducible refine Below.setCell ?_ (by first|with_reducible exact A.o.size|with_reducible exact H.o.size|simp) _))))
       (first
       |(go_at_call 146;refine(sZ n (.slice o5 body.length c5) _).mono ?_;rintro e wa ⟨⟨u2,rfl,hu⟩,F⟩;have aw:=Za (Rd.of_own hu);(first|with_reducible (have C:=Za (aA.next (aA.next (aA.new w4 175 _) (Below.drew (Zc _ _))) F))|skip);have A:=Za (show Below w4.heap.size w4 wa from Below.trans (by(repeat(first|with_reducible exact A.o|with_reducible exact Zc _ _|with_reducible refine Below.drew ?_|with_reducible refine Below.alloc ?_ (by first|with_reducible exact A.o.size|with_reducible exact H.o.size|simp) _|with_reducible refine Below.setCell ?_ (by first|with_reducible exact A.o.size|with_reducible exact H.o.size|simp) _))) (F.mono (Below.size (B:=w4.heap.size) (w:=w4) (by(repeat(first|with_reducible exact A.o|with_reducible exact Zc _ _|with_reducible refine Below.drew ?_|with_reducible refine Below.alloc ?_ (by first|with_reducible exact A.o.size|with_reducible exact H.o.size|simp) _|with_reducible refine Below.setCell ?_ (by first|with_reducible exact A.o.size|with_reducible exact H.o.size|simp) _))))));have H:=A;clear hu F)
       |(go_at_call 147;refine(LJ n.kind u2 (dK n) _ (by first|exact aw.o|exact aw.o.alloc _) (yE n)).mono ?_;rintro e wb ⟨rfl,F⟩;rw[bg.o];(first|(have C:=Za (aA.next C.o F);have z0:=C.o.q 0 rfl;have f0:=C.o.free 0;have z1:=C.o.q 1 rfl;have f1:=C.o.free 1;have z2:=C.o.q 2 rfl;have f2:=C.o.free 2;have z3:=C.o.q 3 rfl;have f3:=C.o.free 3;have z4:=C.o.q 4 rfl;have f4:=C.o.free 4;have z5:=C.o.q 5 rfl;have f5:=C.o.free 5;have z6:=C.o.q 6 rfl;have f6:=C.o.free 6;have z7:=C.o.q 7 rfl;have f7:=C.o.free 7;have z8:=C.o.q 8 rfl;have f8:=C.o.free 8)|(with_reducible (have C:=Za (aA.next (aA.new wa 175 _) F));have z0:=C.o.q 0 rfl;have f0:=C.o.free 0;have z1:=C.o.q 1 rfl;have f1:=C.o.free 1;have z2:=C.o.q 2 rfl;have f2:=C.o.free 2;have z3:=C.o.q 3 rfl;have f3:=C.o.free 3;have z4:=C.o.q 4 rfl;have f4:=C.o.free 4;have z5:=C.o.q 5 rfl;have f5:=C.o.free 5;have z6:=C.o.q 6 rfl;have f6:=C.o.free 6;have z7:=C.o.q 7 rfl;have f7:=C.o.free 7;have z8:=C.o.q 8 rfl;have f8:=C.o.free 8)|skip);have A:=Za (show Below w4.heap.size w4 wb from Below.trans (by(repeat(first|with_reducible exact A.o|with_reducible exact Zc _ _|with_reducible refine Below.drew ?_|with_reducible refine Below.alloc ?_ (by first|with_reducible exact A.o.size|with_reducible exact H.o.size|simp) _|with_reducible refine Below.setCell ?_ (by first|with_reducible exact A.o.size|with_reducible exact H.o.size|simp) _))) (F.mono (Below.size (B:=w4.heap.size) (w:=w4) (by(repeat(first|with_reducible exact A.o|with_reducible exact Zc _ _|with_reducible refine Below.drew ?_|with_reducible refine Below.alloc ?_ (by first|with_reducible exact A.o.size|with_reducible exact H.o.size|simp) _|with_reducible refine Below.setCell ?_ (by first|with_reducible exact A.o.size|with_reducible exact H.o.size|simp) _))))));clear F))
      ·go_wp2_with fail;go_meet;exact⟨_,rfl,A.o.size,aA.new _ _ _,A.o.alloc A.o.size _⟩
      ·go_wp2_with fail;go_meet;refine⟨_,rfl,H.o.size,EF C.o,?_⟩
       (repeat(first|with_reducible exact A.o|with_reducible refine Below.alloc ?_ (by first|with_reducible exact A.o.size|with_reducible exact H.o.size|simp) _|with_reducible refine Below.setCell ?_ (by first|with_reducible exact A.o.size|with_reducible exact H.o.size|simp) _))
      ·go_wp2_with fail;go_meet;refine⟨_,rfl,Zb _,EF C.o,?_⟩
       (repeat(first|with_reducible exact A.o|with_reducible refine Below.alloc ?_ (by first|with_reducible exact A.o.size|with_reducible exact H.o.size|simp) _|with_reducible refine Below.setCell ?_ (by first|with_reducible exact A.o.size|with_reducible exact H.o.size|simp) _))
     case rest=>
      clear a0 a1 a2 a3 a4 a5 a6 a7 a8 A;obtain⟨lb,rfl,bh,ac,al⟩:=hcut;obtain⟨w5,rfl⟩:=Zx wc;have a8:=aX al ak.o.2.2.2.2.2.2.2.2;have z8:=ac.q 8 rfl;have f8:=ac.free 8;obtain⟨w6,ad⟩:=Zx (w5.setCell ⟨lb,8,none⟩ (.slice o5 body.length c5));have G:aA w6 lb 175 #[.int .i64 m.kind,.int .i64 m.inn,.int .i64 m.o,.int .i64 m.size,.int .i64 m.stride,.int .i64 m.pad,.int .i64 m.percent,.int .i64 m.heads,(.slice o5 body.length c5)]:=by rw[ad];exact ac.set 8 _
      have ae:Below w4.heap.size w4 w6:=by rw[ad];exact al.setCell (p:=⟨lb,8,none⟩) bh _
      have bl:=Za G;have ax:=Za ae;have bi:=Za ad;clear ac al ad;go_wp2_with fail;rw[<-bi.o];clear a8 z8 f8;have hz:w6.cell? ⟨lb,0,none⟩=some (.int .i64 m.kind)/\w6.cell? ⟨lb,1,none⟩=some (.int .i64 m.inn)/\w6.cell? ⟨lb,2,none⟩=some (.int .i64 m.o)/\w6.cell? ⟨lb,3,none⟩=some (.int .i64 m.size)/\w6.cell? ⟨lb,4,none⟩=some (.int .i64 m.stride)/\w6.cell? ⟨lb,5,none⟩=some (.int .i64 m.pad)/\w6.cell? ⟨lb,6,none⟩=some (.int .i64 m.percent)/\w6.cell? ⟨lb,7,none⟩=some (.int .i64 m.heads)/\w6.cell? ⟨lb,8,none⟩=some (.slice o5 body.length c5):=⟨G.cell 0 rfl,G.cell 1 rfl,G.cell 2 rfl,G.cell 3 rfl,G.cell 4 rfl,G.cell 5 rfl,G.cell 6 rfl,G.cell 7 rfl,G.cell 8 rfl⟩;have ha:w6.cell? ⟨b,off+k*9,none⟩=some (.int .i64 n.kind)/\w6.cell? ⟨b,off+k*9+1,none⟩=some (.int .i64 n.inn)/\w6.cell? ⟨b,off+k*9+2,none⟩=some (.int .i64 n.o)/\w6.cell? ⟨b,off+k*9+3,none⟩=some (.int .i64 n.size)/\w6.cell? ⟨b,off+k*9+4,none⟩=some (.int .i64 n.stride)/\w6.cell? ⟨b,off+k*9+5,none⟩=some (.int .i64 n.pad)/\w6.cell? ⟨b,off+k*9+6,none⟩=some (.int .i64 n.percent)/\w6.cell? ⟨b,off+k*9+7,none⟩=some (.int .i64 n.heads)/\w6.cell? ⟨b,off+k*9+8,none⟩=some (.slice o5 body.length c5):=CO ak.o ae;have ao:=Za ha;have bo:=Za hz;obtain⟨z0,z1,z2,z3,z4,z5,z6,z7,z8⟩:=hz;obtain⟨a0,a1,a2,a3,a4,a5,a6,a7,a8⟩:=ha;have E:=Za (Zd z0 (Zd z1 (Zd z2 (Zd z3 (Zd z4 (Zd z5 (Zd z6 (Zd z7 (Zd z8 (ao.o))))))))));have A:=Za (show Below w6.heap.size w6 w6.drew from Below.drew (Zc _ _));have Z:=Za (ar.o.below ae (Zb _));clear G ae;go_wp2_with fail;go_region_held3 (fun w'=>w'.cell? ⟨lb,0,none⟩=some (.int .i64 m.kind)/\w'.cell? ⟨lb,1,none⟩=some (.int .i64 m.inn)/\w'.cell? ⟨lb,2,none⟩=some (.int .i64 m.o)/\w'.cell? ⟨lb,3,none⟩=some (.int .i64 m.size)/\w'.cell? ⟨lb,4,none⟩=some (.int .i64 m.stride)/\w'.cell? ⟨lb,5,none⟩=some (.int .i64 m.pad)/\w'.cell? ⟨lb,6,none⟩=some (.int .i64 m.percent)/\w'.cell? ⟨lb,7,none⟩=some (.int .i64 m.heads)/\w'.cell? ⟨lb,8,none⟩=some (.slice o5 body.length c5)/\w'.cell? ⟨b,off+k*9,none⟩=some (.int .i64 n.kind)/\w'.cell? ⟨b,off+k*9+1,none⟩=some (.int .i64 n.inn)/\w'.cell? ⟨b,off+k*9+2,none⟩=some (.int .i64 n.o)/\w'.cell? ⟨b,off+k*9+3,none⟩=some (.int .i64 n.size)/\w'.cell? ⟨b,off+k*9+4,none⟩=some (.int .i64 n.stride)/\w'.cell? ⟨b,off+k*9+5,none⟩=some (.int .i64 n.pad)/\w'.cell? ⟨b,off+k*9+6,none⟩=some (.int .i64 n.percent)/\w'.cell? ⟨b,off+k*9+7,none⟩=some (.int .i64 n.heads)/\w'.cell? ⟨b,off+k*9+8,none⟩=some (.slice o5 body.length c5))
       (exact⟨aX A.o E.o.1,aX A.o E.o.2.1,aX A.o E.o.2.2.1,aX A.o E.o.2.2.2.1,aX A.o E.o.2.2.2.2.1,aX A.o E.o.2.2.2.2.2.1,aX A.o E.o.2.2.2.2.2.2.1,aX A.o E.o.2.2.2.2.2.2.2.1,aX A.o E.o.2.2.2.2.2.2.2.2.1,aX A.o E.o.2.2.2.2.2.2.2.2.2.1,aX A.o E.o.2.2.2.2.2.2.2.2.2.2.1,aX A.o E.o.2.2.2.2.2.2.2.2.2.2.2.1,aX A.o E.o.2.2.2.2.2.2.2.2.2.2.2.2.1,aX A.o E.o.2.2.2.2.2.2.2.2.2.2.2.2.2.1,aX A.o E.o.2.2.2.2.2.2.2.2.2.2.2.2.2.2.1,aX A.o E.o.2.2.2.2.2.2.2.2.2.2.2.2.2.2.2.1,aX A.o E.o.2.2.2.2.2.2.2.2.2.2.2.2.2.2.2.2.1,aX A.o E.o.2.2.2.2.2.2.2.2.2.2.2.2.2.2.2.2.2⟩)
       (first
       |(go_at_call 138;refine(TH m n body body (.slice o5 body.length c5) (.slice o5 body.length c5) _ (Z.o.next A.o) (Z.o.next A.o) U U).mono ?_;rintro e wq ⟨⟨r,rfl,hr⟩,F⟩;have ay:=Za hr;have A:=Za (A.o.trans (F.mono A.o.size));clear F hr))
      clear a0 a1 a2 a3 a4 a5 a6 a7 a8 z0 z1 z2 z3 z4 z5 z6 z7 z8;have P:=Za (show Below w.heap.size w wq from aj.o.trans ((ax.o.trans (A.o.mono ax.o.size)).mono aj.o.size));cases r with
      |false=>
       have V:=Za (J.o (by
        have:¬cW n.kind (dK n)=n:=fun e=>Bool.noConfusion (ay.o.2 ⟨HM.o.trans e,by first|exact trivial|exact rfl⟩);rw[L.o,kG,decide_eq_false this,Bool.and_false];rfl))
       go_wp2_with fail;go_ret;exact⟨aG V.o.symm,P.o⟩
      |true=>
       have aa:=Za (show kG n=true by
        rw[kG,av.o,decide_eq_true bf.o,decide_eq_true (HM.o.symm.trans (ay.o.1 rfl).1)];rfl)
       have a0:=aX A.o ao.o.1;have a8:=aX A.o ao.o.2.2.2.2.2.2.2.2;have az:=Za (Z.o.next A.o);by_cases R:n.kind=13
       ·have ba:(n.kind != 13)=false:=by simp[R]
        have ab:=Za (show hZ deep (.mk n body)=(decide (deep≠4)&&eO (deep+1) body) by rw[L.o,aa.o];simp[R]);clear R;by_cases hd4':deep=4
        ·have bj:((deep:Int)==4)=true:=by simp;omega
         have V:=Za (J.o (by rw[ab.o,decide_eq_false (by omega)];rfl));clear hd4';go_wp2_with fail;go_ret;exact⟨aG V.o.symm,P.o⟩
        ·have bj:((deep:Int)==4)=false:=by simp;omega
         have bp:IntKind.i64.wrap ((deep:Int)+1)=((deep+1:Nat):Int):=by rw[IntKind.wrap_i64];omega
         have bb:=Za (show hZ deep (.mk n body)=eO (deep+1) body by rw[ab.o,decide_eq_true hd4'];rfl);have bk:=Za (HQ.o (deep+1) (.slice o5 body.length c5) wq az.o U (by omega));clear hd4';go_wp2_with(go_at_call 109;refine bk.o.mono ?_;rintro e w8 ⟨rfl,bc⟩;refine aD ?_);have bd:=Za (P.o.trans (bc.mono P.o.size));clear bc;refine aC ?_;cases N:eO (deep+1) body with
         |false=>
          have V:=Za (J.o (bb.o.trans N));clear N;go_wp2;go_ret;exact⟨aG V.o.symm,bd.o⟩
         |true=>
          have HT:=Za (ah.o (bb.o.trans N));clear N;go_wp2;go_roundw
          case rel=>exact⟨k+1,by omega,by go_num,HT,bd.o⟩
          case measure=>simp[intOf];omega
       ·have ba:(n.kind != 13)=true:=by simp[R]
        have ab:=Za (show hZ deep (.mk n body)=decide (body.length=0) by rw[L.o,aa.o];simp[R]);clear R;by_cases bq:0<body.length
        ·have V:=Za (J.o (by rw[ab.o,decide_eq_false (by omega)]));go_wp2_with fail;go_ret;exact⟨aG V.o.symm,P.o⟩
        ·have HT:=Za (ah.o (by rw[ab.o,decide_eq_true (by omega)]));go_wp2_with fail;go_roundw
         case rel=>exact⟨k+1,by omega,by go_num,HT,P.o⟩
         case measure=>simp[intOf];omega
  ·obtain rfl:k=ls.length:=by omega
   have HY:=Za (HD.o.trans (IQ deep ls fun j hj=>HA.o j hj hj));go_wp2;go_ret;exact⟨aG HY.o.symm,HB.o⟩
theorem LN:∀l:aB,rR l.body:=aB.ind fun n body h=>FO body h
theorem OF (ls:List aB):rR ls:=FO ls fun l _=>LN l
