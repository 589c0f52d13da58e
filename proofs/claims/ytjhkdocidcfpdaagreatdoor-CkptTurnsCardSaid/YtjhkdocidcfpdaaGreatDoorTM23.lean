/-
  A part of the proof of a law (packed by program).
-/
import Derived.Test.YtjhkdocidcfpdaaGreatDoorTM15
set_option linter.unusedVariables false
set_option linter.unusedSimpArgs false
set_option maxRecDepth 100000
set_option maxHeartbeats 16000000
namespace Go.Proofs.YtjhkdocidcfpdaaGreatDoor
open Go.RowKit Go.Shelf Go
theorem zK (v u:Value) (has:Bool) (a b:List aO) (g:Nat) (w:World) (hb:aA w g 36 #[u]) (hr:aY w v a) (hs:aY w u b) (hl:eO a):
  Calls Tryz.prog 128 #[v,.bool has,.pointer (some ⟨g,0,none⟩)] w fun e w'=>e=.returned (.bool (mE has a b))∧Below w.heap.size w w':=by
 obtain⟨o,cap,rfl⟩:=hr.slice;obtain⟨o2,cap2,rfl⟩:=hs.slice;have HR:=Za (OO _ _ a b w hr hs hl);have c0:=hb.q 0 rfl;clear hr hs hb;cases has with
 |true=>
  go_enter Tryz.func128,Tryz.ntmps128;go_wp2_with(go_at_call 129;refine HR.o.mono ?_;rintro e w' ⟨rfl,hb⟩;refine aD ?_);refine aC ?_;have HB:=Za hb;clear hb c0;go_wp2
  all_goals
   go_ret;exact⟨aF (by simp[mE, *]),HB.o⟩
 |false=>
  have hd:((a.length:Int)==0)=decide (a=[]):=by rw[Bool.eq_iff_iff,beq_iff_eq,decide_eq_true_eq,←List.length_eq_zero_iff];omega
  go_enter Tryz.func128,Tryz.ntmps128;go_wp2
  all_goals
   go_ret;exact⟨aF (by simp[mE,hd, *]),Zc _ _⟩
theorem MI (v:Int) (w:World):
  Calls Tryz.prog 131 #[.int .i64 v] w fun e w'=>e=.returned (.bool (decide (v<0)))∧aN w w':=by
 go_enter Tryz.func131,Tryz.ntmps131;go_wp2
 all_goals
  go_ret;exact⟨aF (by simp[*]),aN.refl _⟩
def cY (t:aO):Bool:=t.da.all fun x=>decide (0≤x)
theorem PY (l:List Int):(l.any fun x=>decide (x<0))=!(l.all fun x=>decide (0≤x)):=by
 rw[List.not_all_eq_any_not]
 congr 1
 funext x
 by_cases h:x<0
 ·simp[h]
 ·simp[h];omega
theorem IS (h:iB) (m:lS) (ps:List aO) (f:Int) (vm vv vp:Value) (w:World) (hf:8≤f∧f≤32) (hm:aY w vm m.m) (hv:aY w vv m.v) (hp:aY w vp ps) (lm:eO m.m) (lv:eO m.v) (lp:eO ps):
  Calls Tryz.prog 83 #[.agg #[.int .i64 h.kind,.int .i64 h.rate,.int .i64 h.mu,.int .i64 h.nu,.int .i64 h.eps,.int .i64 h.decay,.int .i64 h.clip,.int .i64 h.sched,.int .i64 h.every],.agg #[vm,vv,.int .i64 m.powMu,.int .i64 m.powNu,.int .i64 m.steps],vp,.int .i64 f] w fun e w'=>e=.returned (.bool (dQ h m ps f))∧Below w.heap.size w w':=by
 obtain⟨o1,c1,rfl⟩:=hm.slice;obtain⟨o2,c2,rfl⟩:=hv.slice;obtain⟨o3,c3,rfl⟩:=hp.slice;obtain⟨kind,rate,mu,nu,eps,decay,clip,sched,every⟩:=h;obtain⟨mm,mv,powMu,powNu,steps⟩:=m;simp only at hm hv lm lv ⊢;have hmf:∀(fn:Fn) (first cap:Array Value) (w:World),(Instr.makeFunc fn first cap).run Tryz.prog w=.ok (.func fn first cap) w:=fun _ _ _ _=>rfl;obtain⟨p,hpw⟩:∃p:Int,p=2^f.toNat:=⟨_,rfl⟩;have hsh:=sV f hf p hpw;have HPW:=Za hpw;clear hf;have HRD:=Za (Zd hm (Zd hv hp));have HL:=Za (Zd lm (Zd lv lp));obtain⟨W,hW⟩:∃W,W=((w.alloc (.cells #[.int .i64 kind,.int .i64 rate,.int .i64 mu,.int .i64 nu,.int .i64 eps,.int .i64 decay,.int .i64 clip,.int .i64 sched,.int .i64 every] 35)).alloc (.cells #[.slice o1 mm.length c1,.slice o2 mv.length c2,.int .i64 powMu,.int .i64 powNu,.int .i64 steps] 38)).alloc (.cells #[.slice o3 ps.length c3] 36):=⟨_,rfl⟩;have hx0:aA W w.heap.size 35 #[.int .i64 kind,.int .i64 rate,.int .i64 mu,.int .i64 nu,.int .i64 eps,.int .i64 decay,.int .i64 clip,.int .i64 sched,.int .i64 every]:=by rw[hW];exact((aA.new w _ _).next ((Zc _ _).alloc (Zb _) _)).next ((Zc _ _).alloc (Zb _) _)
 have hx1:aA W (w.heap.size+1) 38 #[.slice o1 mm.length c1,.slice o2 mv.length c2,.int .i64 powMu,.int .i64 powNu,.int .i64 steps]:=by rw[hW,←World.size_alloc w];exact(aA.new _ _ _).next ((Zc _ _).alloc (Zb _) _)
 have hx2:aA W (w.heap.size+2) 36 #[.slice o3 ps.length c3]:=by rw[hW,show w.heap.size+2=((w.alloc (.cells #[.int .i64 kind,.int .i64 rate,.int .i64 mu,.int .i64 nu,.int .i64 eps,.int .i64 decay,.int .i64 clip,.int .i64 sched,.int .i64 every] 35)).alloc (.cells #[.slice o1 mm.length c1,.slice o2 mv.length c2,.int .i64 powMu,.int .i64 powNu,.int .i64 steps] 38)).heap.size by simp];exact aA.new _ _ _
 have hbw:Below w.heap.size w W:=by rw[hW];exact(((Zc _ _).alloc (Zb _) _).alloc (by simp) _).alloc (by simp;omega) _
 have HX0:=Za (Zd hx0 (Zd hx1 (Zd hx2 hbw)));have HW:=Za hW;clear hm hv hp lm lv lp hpw hx0 hx1 hx2 hbw hW;go_enter Tryz.func83,Tryz.ntmps83;by_cases p0:0≤steps;rotate_left
 ·have np0:steps<0:=by omega
  have Dp0:=Za (decide_eq_false p0);clear p0;go_wp2;go_ret;exact⟨aF (by rw[dQ,←HPW.o];simp[Dp0.o]),(by have:=HX0.o.2.2.2;rw[HW.o]at this;exact this)⟩
 have np0:¬steps<0:=by omega
 have Dp0:=Za (decide_eq_true p0);clear p0;by_cases p1:steps≤1048576;rotate_left
 ·have np1:1048576<steps:=by omega
  have Dp1:=Za (decide_eq_false p1);clear p1;go_wp2;go_ret;exact⟨aF (by rw[dQ,←HPW.o];simp[Dp0.o,Dp1.o]),(by have:=HX0.o.2.2.2;rw[HW.o]at this;exact this)⟩
 have np1:¬1048576<steps:=by omega
 have Dp1:=Za (decide_eq_true p1);clear p1;go_wp2_with(go_at_call 81;rw[←HW.o];refine(tU _ mm _ (HRD.o.1.below HX0.o.2.2.2 (Zb _)) HL.o.1).mono ?_;rintro e w1 ⟨rfl,hb⟩;refine aD ?_);have HX1:=Za (Zd (HX0.o.1.next hb) (Zd (HX0.o.2.1.next hb) (Zd (HX0.o.2.2.1.next hb) (HX0.o.2.2.2.trans (hb.mono HX0.o.2.2.2.size)))));clear hb;have x0:=HX1.o.1.q 0 rfl;have y0:=HX1.o.2.1.q 0 rfl;have y1:=HX1.o.2.1.q 1 rfl;have y2:=HX1.o.2.1.q 2 rfl;have y3:=HX1.o.2.1.q 3 rfl;have y4:=HX1.o.2.1.q 4 rfl;refine aC ?_;cases p2:mm.all cH with
 |false=>
  have Dp2:=Za p2;clear p2;go_wp2;go_ret;exact⟨aF (by rw[dQ,←HPW.o];simp[Dp0.o,Dp1.o,Dp2.o]),HX1.o.2.2.2⟩
 |true=>
  have Dp2:=Za p2;clear p2;go_wp2_with(go_at_call 81;refine(tU _ mv _ (HRD.o.2.1.below HX1.o.2.2.2 (Zb _)) HL.o.2.1).mono ?_;rintro e w2 ⟨rfl,hb⟩;refine aD ?_);have HX2:=Za (Zd (HX1.o.1.next hb) (Zd (HX1.o.2.1.next hb) (Zd (HX1.o.2.2.1.next hb) (HX1.o.2.2.2.trans (hb.mono HX1.o.2.2.2.size)))));clear x0 y0 y1 y2 y3 y4;clear hb;have x0:=HX2.o.1.q 0 rfl;have y0:=HX2.o.2.1.q 0 rfl;have y1:=HX2.o.2.1.q 1 rfl;have y2:=HX2.o.2.1.q 2 rfl;have y3:=HX2.o.2.1.q 3 rfl;have y4:=HX2.o.2.1.q 4 rfl;refine aC ?_;cases p3:mv.all cH with
  |false=>
   have Dp3:=Za p3;clear p3;go_wp2;go_ret;exact⟨aF (by rw[dQ,←HPW.o];simp[Dp0.o,Dp1.o,Dp2.o,Dp3.o]),HX2.o.2.2.2⟩
  |true=>
   have Dp3:=Za p3;clear p3;by_cases p4:0≤powMu;rotate_left
   ·have np4:powMu<0:=by omega
    have Dp4:=Za (decide_eq_false p4);clear p4;go_wp2;go_ret;exact⟨aF (by rw[dQ,←HPW.o];simp[Dp0.o,Dp1.o,Dp2.o,Dp3.o,Dp4.o]),HX2.o.2.2.2⟩
   have np4:¬powMu<0:=by omega
   have Dp4:=Za (decide_eq_true p4);clear p4;by_cases p5:powMu≤p;rotate_left
   ·have np5:p<powMu:=by omega
    have Dp5:=Za (decide_eq_false p5);clear p5;go_wp2;go_ret;exact⟨aF (by rw[dQ,←HPW.o];simp[Dp0.o,Dp1.o,Dp2.o,Dp3.o,Dp4.o,Dp5.o]),HX2.o.2.2.2⟩
   have np5:¬p<powMu:=by omega
   have Dp5:=Za (decide_eq_true p5);clear p5;by_cases p6:0≤powNu;rotate_left
   ·have np6:powNu<0:=by omega
    have Dp6:=Za (decide_eq_false p6);clear p6;go_wp2;go_ret;exact⟨aF (by rw[dQ,←HPW.o];simp[Dp0.o,Dp1.o,Dp2.o,Dp3.o,Dp4.o,Dp5.o,Dp6.o]),HX2.o.2.2.2⟩
   have np6:¬powNu<0:=by omega
   have Dp6:=Za (decide_eq_true p6);clear p6;by_cases p7:powNu≤p;rotate_left
   ·have np7:p<powNu:=by omega
    have Dp7:=Za (decide_eq_false p7);clear p7;go_wp2;go_ret;exact⟨aF (by rw[dQ,←HPW.o];simp[Dp0.o,Dp1.o,Dp2.o,Dp3.o,Dp4.o,Dp5.o,Dp6.o,Dp7.o]),HX2.o.2.2.2⟩
   have np7:¬p<powNu:=by omega
   have Dp7:=Za (decide_eq_true p7);clear p7;have hk:(decide (kind=3) || (decide (powMu=p)&&decide (powNu=p)))=true∨(kind≠3∧(powMu≠p∨powNu≠p)):=by
    by_cases h1:kind=3
    ·left;simp[h1]
    ·by_cases h2:powMu=p
     ·by_cases h3:powNu=p
      ·left;simp[h2,h3]
      ·right;exact⟨h1,.inr h3⟩
     ·right;exact⟨h1,.inl h2⟩
   rcases hk with hk|⟨hk1,hk2⟩;rotate_left
   ·have D8:=Za (show(decide (kind=3) || (decide (powMu=p)&&decide (powNu=p)))=false by rcases hk2 with h|h<;>simp[hk1,h]);have e1:(kind != 3)=true:=by simpa using hk1
    rcases hk2 with h|h
    ·have e2:(powMu != p)=true:=by simpa using h
     clear hk1 h;go_wp2;go_ret;exact⟨aF (by rw[dQ,←HPW.o];simp[Dp0.o,Dp1.o,Dp2.o,Dp3.o,Dp4.o,Dp5.o,Dp6.o,Dp7.o,D8.o]),HX2.o.2.2.2⟩
    ·have e3:(powNu != p)=true:=by simpa using h
     clear hk1 h;by_cases h2:powMu=p
     ·have e2:(powMu != p)=false:=by simpa using h2
      clear h2;go_wp2;go_ret;exact⟨aF (by rw[dQ,←HPW.o];simp[Dp0.o,Dp1.o,Dp2.o,Dp3.o,Dp4.o,Dp5.o,Dp6.o,Dp7.o,D8.o]),HX2.o.2.2.2⟩
     ·have e2:(powMu != p)=true:=by simpa using h2
      clear h2;go_wp2;go_ret;exact⟨aF (by rw[dQ,←HPW.o];simp[Dp0.o,Dp1.o,Dp2.o,Dp3.o,Dp4.o,Dp5.o,Dp6.o,Dp7.o,D8.o]),HX2.o.2.2.2⟩
   have D8:=Za hk;have hk3:(kind != 3)=false∨(kind != 3)=true∧(powMu != p)=false∧(powNu != p)=false:=by
    by_cases h1:kind=3
    ·left;simp[h1]
    ·right;simp[h1]at hk;simp[h1,hk]
   clear hk;have hlv:=HL.o.2.1.1;rcases hk3 with hk3|⟨hk3,hk4,hk5⟩
   all_goals
    go_wp2;go_loopw[76] (fun i wr=>∃k:Nat,k≤mv.length∧i=.int .i64 k∧Hid ((mv.take k).all cY=true)∧Below w2.heap.size w2 wr) (fun i _=>mv.length-(intOf i).toNat)
    case atStart=>exact⟨0,Ze _,rfl,Za rfl,Zc _ _⟩
    case round=>
     obtain⟨k,hk,rfl,HA,hBr⟩:=hrel;have HX3:=Za (Zd (HX2.o.1.next hBr) (Zd (HX2.o.2.1.next hBr) (Zd (HX2.o.2.2.1.next hBr) (HX2.o.2.2.2.trans (hBr.mono HX2.o.2.2.2.size)))));have HBR:=Za hBr;clear hBr;by_cases hlt:k<mv.length
     ·obtain⟨b,off,vs,vd,rfl,c0,c1,hs,hd⟩:=(HRD.o.2.1.below HX3.o.2.2.2 (Zb _)).tens k hlt;have HD:=Za hd;have HLK:=Za (HL.o.2.1.2 _ (jF mv k hlt));obtain⟨o5,k5,rfl⟩:=aU hd;obtain⟨o6,k6,rfl⟩:=aU hs;have HS:=Za (pO cY mv k hlt);have HF:=Za (pF cY mv k hlt);clear hs hd;go_wp2_with(go_at_call 130;refine(A8 _ (aQ mv k).da 131 #[] (fun x=>decide (x<0)) _ (HD.o.below ((Zc _ _).alloc (Zb _) _) (Zb _)) HLK.o.2 (enters_of Tryz.func131 (by kernel_rfl) rfl) (fun j hj n=>MI _ _)).mono ?_;rintro e wy ⟨rfl,hsy⟩;refine aD ?_);rw[PY];have hby:=Za (((Zc wr.heap.size wr).alloc (Zb _) _).trans (hsy.below _));clear hsy;refine aC ?_;have hnn:cY (aQ mv k)=(aQ mv k).da.all fun x=>decide (0≤x):=rfl;rw[←hnn];clear hnn;cases hq:cY (aQ mv k)with
      |false=>
       have D9:=Za (HF.o hq);have HB9:=Za (HX3.o.2.2.2.trans (hby.o.mono HX3.o.2.2.2.size));clear hq c0 c1;go_wp2;go_ret;have this:(mv.all fun t=>t.da.all fun x=>decide (0≤x))=false:=D9.o;exact⟨aF (by rw[dQ,←HPW.o];simp only[Dp0.o,Dp1.o,Dp2.o,Dp3.o,Dp4.o,Dp5.o,Dp6.o,Dp7.o,D8.o,this,Bool.true_and,Bool.false_and]),HB9.o⟩
      |true=>
       have HA2:=Za (show(mv.take (k+1)).all cY=true by rw[HS.o,HA.o,hq];rfl);have HB9:=Za (HBR.o.trans (hby.o.mono HBR.o.size));clear hq c0 c1;go_wp2;go_roundw
       case rel=>exact⟨k+1,by omega,by go_num,HA2,HB9.o⟩
       case measure=>simp[intOf];omega
     ·obtain rfl:k=mv.length:=by omega
      have D9:=Za (show mv.all cY=true by have:=HA.o;rwa [List.take_length]at this);clear x0 y0 y1 y2 y3 y4;have x0:=HX3.o.1.q 0 rfl;have y0:=HX3.o.2.1.q 0 rfl;obtain⟨kb,hkb⟩:∃kb,(kind != 1)=kb:=⟨_,rfl⟩;obtain⟨kt,hkt⟩:∃kt,(kind==3)=kt:=⟨_,rfl⟩;have HN1:=Za (show decide (kind≠1)=kb by rw[←hkb,Bool.eq_iff_iff];simp);have HN3:=Za (show decide (kind=3)=kt by rw[←hkt,Bool.eq_iff_iff];simp);go_wp2_with(go_at_call 128;refine(zK _ _ kb mm ps (w.heap.size+2) _ HX3.o.2.2.1 (HRD.o.1.below HX3.o.2.2.2 (Zb _)) (HRD.o.2.2.below HX3.o.2.2.2 (Zb _)) HL.o.1).mono ?_;rintro e wz ⟨rfl,hb⟩;refine aD ?_);have HX4:=Za (Zd (HX3.o.1.next hb) (Zd (HX3.o.2.1.next hb) (Zd (HX3.o.2.2.1.next hb) (HX3.o.2.2.2.trans (hb.mono HX3.o.2.2.2.size)))));clear hb x0 y0;have x0:=HX4.o.1.q 0 rfl;have y1:=HX4.o.2.1.q 1 rfl;refine aC ?_;have this:(mv.all fun t=>t.da.all fun x=>decide (0≤x))=true:=D9.o;have HTH:=Za this;clear this;cases hl1:mE kb mm ps with
      |false=>
       have DL:=Za hl1;clear hl1;go_wp2;go_ret;exact⟨aF (by rw[dQ,←HPW.o];simp only[Dp0.o,Dp1.o,Dp2.o,Dp3.o,Dp4.o,Dp5.o,Dp6.o,Dp7.o,D8.o,HTH.o,Bool.true_and,HN1.o,DL.o,Bool.false_and]),HX4.o.2.2.2⟩
      |true=>
       have DL:=Za hl1;clear hl1;go_wp2_with(go_at_call 128;refine(zK _ _ kt mv ps (w.heap.size+2) _ HX4.o.2.2.1 (HRD.o.2.1.below HX4.o.2.2.2 (Zb _)) (HRD.o.2.2.below HX4.o.2.2.2 (Zb _)) HL.o.2.1).mono ?_;rintro e wq ⟨rfl,hb⟩;refine aD ?_);have HB5:=Za (HX4.o.2.2.2.trans (hb.mono HX4.o.2.2.2.size));clear hb x0 y1;refine aC ?_;go_wp2
       all_goals
        go_ret;exact⟨aF (by have h8:=D8.o;rw[HN3.o]at h8;rw[dQ,←HPW.o];simp only[Dp0.o,Dp1.o,Dp2.o,Dp3.o,Dp4.o,Dp5.o,Dp6.o,Dp7.o,h8,HTH.o,Bool.true_and,HN1.o,DL.o,HN3.o]),HB5.o⟩
end Go.Proofs.YtjhkdocidcfpdaaGreatDoor
