/- A part of the proof. -/
import Derived.Test.YtjhkdocidcfpdaaGreatDoorEN22
set_option linter.unusedVariables false
set_option linter.unusedSimpArgs false
set_option maxRecDepth 100000
set_option maxHeartbeats 16000000
namespace Go.Proofs.YtjhkdocidcfpdaaGreatDoor
open Go.RowKit Go.Shelf Go
def f9 (v b:Int):Bool:=decide (0<=v)&&decide (v<b)
theorem lG (v b:Int) (w:World):Calls Tryz.prog 110 #[.int .i64 v,.int .i64 b] w fun e w'=>e=.returned (.bool (f9 v b))/\aN w w':=by
 go_enter Tryz.func110,Tryz.ntmps110;go_wp2
 all_goals
  go_ret;exact⟨aG (by first|(simp[f9, *];done)|(simp[f9, *];intros;omega)),aN.refl _⟩
def qU (h:hH) (f:Int):Bool:=(decide (1<=h.kind)&&decide (h.kind<=3))&&(f9 h.rate 140737488355328&&(f9 h.decay 140737488355328&&(f9 h.clip 140737488355328&&(f9 h.mu (2^f.toNat)&&f9 h.nu (2^f.toNat)))))&&
 ((fD h&&(decide (h.kind≠3) || bU h.eps))&&cY h.sched h.every)
theorem I6 (h:hH) (f:Int) (hf:eE f=true):qU h f=eT h f:=by
 obtain⟨kind,rate,mu,nu,eps,decay,clip,sched,every⟩:=h;obtain⟨p,hp⟩:∃p:Int,p=2^f.toNat:=⟨_,rfl⟩;rw[Bool.eq_iff_iff];simp only[qU,eT,hf,f9,bU,fD,<-hp,Bool.true_and,Bool.and_eq_true,Bool.or_eq_true,decide_eq_true_eq];generalize (cY sched every=true)=S;constructor
 ·rintro⟨⟨⟨h1,h2⟩,⟨a1,a2⟩,⟨b1,b2⟩,⟨c1,c2⟩,⟨d1,d2⟩,e1,e2⟩,⟨hk,A⟩,hs⟩;refine⟨⟨by omega,a2⟩,⟨by omega,b2⟩,⟨by omega,c2⟩,a1,b1,c1,d1,d2,e1,e2,?_,hk,hs⟩;rcases hk with(⟨rfl,_,_,rfl⟩|⟨rfl,_,rfl⟩)|⟨rfl,hk⟩
  ·omega
  ·omega
  ·rcases A with A|A
   ·exact absurd rfl A
   ·exact A
 ·rintro⟨⟨_,a2⟩,⟨_,b2⟩,⟨_,c2⟩,a1,b1,c1,d1,d2,e1,e2,A,hk,hs⟩;refine⟨⟨by omega,⟨a1,a2⟩,⟨b1,b2⟩,⟨c1,c2⟩,⟨d1,d2⟩,e1,e2⟩,⟨hk,.inr A⟩,hs⟩
theorem F7 (h:hH) (f:Int) (w:World) (hf:eE f=true):
  Calls Tryz.prog 56 #[.agg #[.int .i64 h.kind,.int .i64 h.rate,.int .i64 h.mu,.int .i64 h.nu,.int .i64 h.eps,.int .i64 h.decay,.int .i64 h.clip,.int .i64 h.sched,.int .i64 h.every],.int .i64 f] w fun e w'=>e=.returned (.bool (qU h f))/\Below w.heap.size w w':=by
 obtain⟨kind,rate,mu,nu,eps,decay,clip,sched,every⟩:=h;obtain⟨p,hp⟩:∃p:Int,p=2^f.toNat:=⟨_,rfl⟩;have M:=rS f (nB hf) p hp;obtain⟨R,hR⟩:=Zx (qU ⟨kind,rate,mu,nu,eps,decay,clip,sched,every⟩ f);simp only[<-hR];have D:=Za (show R=((decide (1<=kind)&&decide (kind<=3))&&(f9 rate 140737488355328&&(f9 decay 140737488355328&&(f9 clip 140737488355328&&(f9 mu p&&f9 nu p))))&&((fD ⟨kind,rate,mu,nu,eps,decay,clip,sched,every⟩&&(decide (kind≠3) || bU eps))&&cY sched every)) by rw[hR,qU,<-hp]);obtain⟨W,hW⟩:=Zx (w.alloc (.cells #[.int .i64 kind,.int .i64 rate,.int .i64 mu,.int .i64 nu,.int .i64 eps,.int .i64 decay,.int .i64 clip,.int .i64 sched,.int .i64 every] 35));have C:aA W w.heap.size 35 #[.int .i64 kind,.int .i64 rate,.int .i64 mu,.int .i64 nu,.int .i64 eps,.int .i64 decay,.int .i64 clip,.int .i64 sched,.int .i64 every]:=by rw[hW];exact aA.new _ _ _
 have A:=Za (show Below w.heap.size w W by rw[hW];exact(Zc _ _).alloc (Zb _) _);have c0:=C.cell 0 rfl;have c1:=C.cell 1 rfl;have c2:=C.cell 2 rfl;have c3:=C.cell 3 rfl;have c4:=C.cell 4 rfl;have c5:=C.cell 5 rfl;have c6:=C.cell 6 rfl;have c7:=C.cell 7 rfl;have c8:=C.cell 8 rfl;have J:=Za hW;clear hR hp hf hW C;by_cases k13:1<=kind/\kind<=3
 ·obtain⟨k1,k3⟩:=k13;have d1:decide (kind<1)=false:=decide_eq_false (by omega);have d3:decide (3<kind)=false:=decide_eq_false (by omega);cases q0:f9 rate 140737488355328 with
  |false=>
   have E:=Za fun(m:Nat)=>(show Calls Tryz.prog 110 #[.int .i64 rate,.int .i64 140737488355328] (W.drewN m) fun e w'=>e=.returned (.bool false)/\∃j,w'=(W.drewN m).drewN j by rw[<-q0];exact lG _ _ _);have Q0:=Za q0;clear q0;go_enter Tryz.func56,Tryz.ntmps56;go_wp2_with fail;rw[<-J.o];go_quiet(first|(go_at_call_of 110 rate;exact Calls.quiet_of (E.o _)));go_wp2;go_ret;exact⟨aG (by rw[D.o,Q0.o];simp),below_drewN A.o _⟩
  |true=>
   have E:=Za fun(m:Nat)=>(show Calls Tryz.prog 110 #[.int .i64 rate,.int .i64 140737488355328] (W.drewN m) fun e w'=>e=.returned (.bool true)/\∃j,w'=(W.drewN m).drewN j by rw[<-q0];exact lG _ _ _);have Q0:=Za q0;clear q0;cases q1:f9 decay 140737488355328 with
   |false=>
    have F:=Za fun(m:Nat)=>(show Calls Tryz.prog 110 #[.int .i64 decay,.int .i64 140737488355328] (W.drewN m) fun e w'=>e=.returned (.bool false)/\∃j,w'=(W.drewN m).drewN j by rw[<-q1];exact lG _ _ _);have Q1:=Za q1;clear q1;go_enter Tryz.func56,Tryz.ntmps56;go_wp2_with fail;rw[<-J.o];go_quiet(first|(go_at_call_of 110 rate;exact Calls.quiet_of (E.o _))|(go_at_call_of 110 decay;exact Calls.quiet_of (F.o _)));go_wp2;go_ret;exact⟨aG (by rw[D.o,Q1.o];simp),below_drewN A.o _⟩
   |true=>
    have F:=Za fun(m:Nat)=>(show Calls Tryz.prog 110 #[.int .i64 decay,.int .i64 140737488355328] (W.drewN m) fun e w'=>e=.returned (.bool true)/\∃j,w'=(W.drewN m).drewN j by rw[<-q1];exact lG _ _ _);have Q1:=Za q1;clear q1;cases q2:f9 clip 140737488355328 with
    |false=>
     have G:=Za fun(m:Nat)=>(show Calls Tryz.prog 110 #[.int .i64 clip,.int .i64 140737488355328] (W.drewN m) fun e w'=>e=.returned (.bool false)/\∃j,w'=(W.drewN m).drewN j by rw[<-q2];exact lG _ _ _);have Q2:=Za q2;clear q2;go_enter Tryz.func56,Tryz.ntmps56;go_wp2_with fail;rw[<-J.o];go_quiet(first|(go_at_call_of 110 rate;exact Calls.quiet_of (E.o _))|(go_at_call_of 110 decay;exact Calls.quiet_of (F.o _))|(go_at_call_of 110 clip;exact Calls.quiet_of (G.o _)));go_wp2;go_ret;exact⟨aG (by rw[D.o,Q2.o];simp),below_drewN A.o _⟩
    |true=>
     have G:=Za fun(m:Nat)=>(show Calls Tryz.prog 110 #[.int .i64 clip,.int .i64 140737488355328] (W.drewN m) fun e w'=>e=.returned (.bool true)/\∃j,w'=(W.drewN m).drewN j by rw[<-q2];exact lG _ _ _);have Q2:=Za q2;clear q2;cases q3:f9 mu p with
     |false=>
      have H:=Za fun(m:Nat)=>(show Calls Tryz.prog 110 #[.int .i64 mu,.int .i64 p] (W.drewN m) fun e w'=>e=.returned (.bool false)/\∃j,w'=(W.drewN m).drewN j by rw[<-q3];exact lG _ _ _);have Q3:=Za q3;clear q3;go_enter Tryz.func56,Tryz.ntmps56;go_wp2_with fail;rw[<-J.o];go_quiet(first|(go_at_call_of 110 rate;exact Calls.quiet_of (E.o _))|(go_at_call_of 110 decay;exact Calls.quiet_of (F.o _))|(go_at_call_of 110 clip;exact Calls.quiet_of (G.o _))|(go_at_call_of 110 mu;exact Calls.quiet_of (H.o _)));go_wp2;go_ret;exact⟨aG (by rw[D.o,Q3.o];simp),below_drewN A.o _⟩
     |true=>
      have H:=Za fun(m:Nat)=>(show Calls Tryz.prog 110 #[.int .i64 mu,.int .i64 p] (W.drewN m) fun e w'=>e=.returned (.bool true)/\∃j,w'=(W.drewN m).drewN j by rw[<-q3];exact lG _ _ _);have Q3:=Za q3;clear q3;cases q4:f9 nu p with
      |false=>
       have I:=Za fun(m:Nat)=>(show Calls Tryz.prog 110 #[.int .i64 nu,.int .i64 p] (W.drewN m) fun e w'=>e=.returned (.bool false)/\∃j,w'=(W.drewN m).drewN j by rw[<-q4];exact lG _ _ _);have Q4:=Za q4;clear q4;go_enter Tryz.func56,Tryz.ntmps56;go_wp2_with fail;rw[<-J.o];go_quiet(first|(go_at_call_of 110 rate;exact Calls.quiet_of (E.o _))|(go_at_call_of 110 decay;exact Calls.quiet_of (F.o _))|(go_at_call_of 110 clip;exact Calls.quiet_of (G.o _))|(go_at_call_of 110 mu;exact Calls.quiet_of (H.o _))|(go_at_call_of 110 nu;exact Calls.quiet_of (I.o _)));go_wp2;go_ret;exact⟨aG (by rw[D.o,Q4.o];simp),below_drewN A.o _⟩
      |true=>
       have I:=Za fun(m:Nat)=>(show Calls Tryz.prog 110 #[.int .i64 nu,.int .i64 p] (W.drewN m) fun e w'=>e=.returned (.bool true)/\∃j,w'=(W.drewN m).drewN j by rw[<-q4];exact lG _ _ _);have Q4:=Za q4;clear q4;go_enter Tryz.func56,Tryz.ntmps56;go_wp2_with fail;rw[<-J.o];go_quiet(first|(go_at_call_of 110 rate;exact Calls.quiet_of (E.o _))|(go_at_call_of 110 decay;exact Calls.quiet_of (F.o _))|(go_at_call_of 110 clip;exact Calls.quiet_of (G.o _))|(go_at_call_of 110 mu;exact Calls.quiet_of (H.o _))|(go_at_call_of 110 nu;exact Calls.quiet_of (I.o _)));have L:=Za (show R=((fD ⟨kind,rate,mu,nu,eps,decay,clip,sched,every⟩&&(decide (kind≠3) || bU eps))&&cY sched every) by rw[D.o,Q0.o,Q1.o,Q2.o,Q3.o,Q4.o];simp[k1,k3]);clear D E F G H I d1 d3;have fin:∀b:Bool,(fD ⟨kind,rate,mu,nu,eps,decay,clip,sched,every⟩&&(decide (kind≠3) || bU eps))=b->Hid (R=(b&&cY sched every)):=fun b hb=>Za (by rw[L.o,hb]);have kk:kind=1\/kind=2\/kind=3:=by omega
       clear k1 k3 L;rcases kk with rfl|rfl|rfl
       ·by_cases z1:mu=0/\nu=0/\eps=0
        ·obtain⟨rfl,rfl,rfl⟩:=z1;have B:=fin true (by simp[fD]);clear fin;by_cases s1:sched=1
         ·subst s1;go_wp2
          all_goals
           go_ret;exact⟨aG (by rw[B.o,cY];first|(simp;done)|(simp[Bool.beq_eq_decide_eq];done)|(simp;omega)|(simp_all;done)|(simp_all [Bool.beq_eq_decide_eq];done)|(simp_all;omega)),below_drewN A.o _⟩
         ·by_cases s2:sched=2
          ·subst s2;go_wp2
           all_goals
            go_ret;exact⟨aG (by rw[B.o,cY];first|(simp;done)|(simp[Bool.beq_eq_decide_eq];done)|(simp;omega)|(simp_all;done)|(simp_all [Bool.beq_eq_decide_eq];done)|(simp_all;omega)),below_drewN A.o _⟩
          ·by_cases s3:sched=3
           ·subst s3;go_wp2
            all_goals
             go_ret;exact⟨aG (by rw[B.o,cY];first|(simp;done)|(simp[Bool.beq_eq_decide_eq];done)|(simp;omega)|(simp_all;done)|(simp_all [Bool.beq_eq_decide_eq];done)|(simp_all;omega)),below_drewN A.o _⟩
           ·go_wp2
            all_goals
             go_ret;exact⟨aG (by rw[B.o,cY];simp[s1,s2,s3]),below_drewN A.o _⟩
        ·have B:=fin false (by simp[fD];omega);clear fin;have z2:mu≠0\/mu=0/\(nu≠0\/nu=0/\eps≠0):=by omega
         clear z1;rcases z2 with z2|⟨rfl,z2|⟨rfl,z2⟩⟩
         all_goals
          go_wp2
          all_goals
           go_ret;exact⟨aG (by rw[B.o];rfl),below_drewN A.o _⟩
       ·by_cases z1:nu=0/\eps=0
        ·obtain⟨rfl,rfl⟩:=z1;have B:=fin true (by simp[fD]);clear fin;by_cases s1:sched=1
         ·subst s1;go_wp2
          all_goals
           go_ret;exact⟨aG (by rw[B.o,cY];first|(simp;done)|(simp[Bool.beq_eq_decide_eq];done)|(simp;omega)|(simp_all;done)|(simp_all [Bool.beq_eq_decide_eq];done)|(simp_all;omega)),below_drewN A.o _⟩
         ·by_cases s2:sched=2
          ·subst s2;go_wp2
           all_goals
            go_ret;exact⟨aG (by rw[B.o,cY];first|(simp;done)|(simp[Bool.beq_eq_decide_eq];done)|(simp;omega)|(simp_all;done)|(simp_all [Bool.beq_eq_decide_eq];done)|(simp_all;omega)),below_drewN A.o _⟩
          ·by_cases s3:sched=3
           ·subst s3;go_wp2
            all_goals
             go_ret;exact⟨aG (by rw[B.o,cY];first|(simp;done)|(simp[Bool.beq_eq_decide_eq];done)|(simp;omega)|(simp_all;done)|(simp_all [Bool.beq_eq_decide_eq];done)|(simp_all;omega)),below_drewN A.o _⟩
           ·go_wp2
            all_goals
             go_ret;exact⟨aG (by rw[B.o,cY];simp[s1,s2,s3]),below_drewN A.o _⟩
        ·have B:=fin false (by simp[fD];omega);clear fin;have z2:nu≠0\/nu=0/\eps≠0:=by omega
         clear z1;rcases z2 with z2|⟨rfl,z2⟩
         all_goals
          go_wp2
          all_goals
           go_ret;exact⟨aG (by rw[B.o];rfl),below_drewN A.o _⟩
       ·by_cases z1:0<eps
        ·go_wp2_with(go_at_call 111;refine(AT eps _).mono ?_;rintro e w' ⟨rfl,n11,rfl⟩;refine aD ?_);refine aC ?_;cases hw:bU eps with
         |false=>
          have B:=fin false (by simp[hw]);clear fin hw;go_wp2;go_ret;exact⟨aG (by rw[B.o];rfl),below_drewN A.o _⟩
         |true=>
          have B:=fin true (by simp[fD,z1,hw]);clear fin hw;by_cases s1:sched=1
          ·subst s1;go_wp2
           all_goals
            go_ret;exact⟨aG (by rw[B.o,cY];first|(simp;done)|(simp[Bool.beq_eq_decide_eq];done)|(simp;omega)|(simp_all;done)|(simp_all [Bool.beq_eq_decide_eq];done)|(simp_all;omega)),below_drewN A.o _⟩
          ·by_cases s2:sched=2
           ·subst s2;go_wp2
            all_goals
             go_ret;exact⟨aG (by rw[B.o,cY];first|(simp;done)|(simp[Bool.beq_eq_decide_eq];done)|(simp;omega)|(simp_all;done)|(simp_all [Bool.beq_eq_decide_eq];done)|(simp_all;omega)),below_drewN A.o _⟩
           ·by_cases s3:sched=3
            ·subst s3;go_wp2
             all_goals
              go_ret;exact⟨aG (by rw[B.o,cY];first|(simp;done)|(simp[Bool.beq_eq_decide_eq];done)|(simp;omega)|(simp_all;done)|(simp_all [Bool.beq_eq_decide_eq];done)|(simp_all;omega)),below_drewN A.o _⟩
            ·go_wp2
             all_goals
              go_ret;exact⟨aG (by rw[B.o,cY];simp[s1,s2,s3]),below_drewN A.o _⟩
        ·have B:=fin false (by simp[fD];omega);clear fin;go_wp2
         all_goals
          go_ret;exact⟨aG (by rw[B.o];rfl),below_drewN A.o _⟩
 ·have k2:kind<1\/3<kind:=by omega
  clear k13;rcases k2 with k2|k2
  ·have d1:decide (kind<1)=true:=decide_eq_true k2;go_enter Tryz.func56,Tryz.ntmps56;go_wp2_with fail;rw[<-J.o];go_quiet(fail);go_wp2;go_ret;exact⟨aG (by rw[D.o,decide_eq_false (show ¬1<=kind by omega)];simp),below_drewN A.o _⟩
  ·have d1:decide (kind<1)=false:=decide_eq_false (by omega);have d3:decide (3<kind)=true:=decide_eq_true k2;go_enter Tryz.func56,Tryz.ntmps56;go_wp2_with fail;rw[<-J.o];go_quiet(fail);go_wp2;go_ret;exact⟨aG (by rw[D.o,decide_eq_false (show ¬kind<=3 by omega),Bool.and_false];simp),below_drewN A.o _⟩
