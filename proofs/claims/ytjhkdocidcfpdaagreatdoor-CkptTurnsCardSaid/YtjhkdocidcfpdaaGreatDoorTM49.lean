/-
  A part of the proof of a law (packed by program).
-/
import Derived.Test.YtjhkdocidcfpdaaGreatDoorTM13
set_option linter.unusedVariables false
set_option linter.unusedSimpArgs false
set_option maxRecDepth 100000
set_option maxHeartbeats 16000000
namespace Go.Proofs.YtjhkdocidcfpdaaGreatDoor
open Go.RowKit Go.Shelf Go
def fR (v b:Int):Bool:=decide (0≤v)&&decide (v<b)
theorem kW (v b:Int) (w:World):Calls Tryz.prog 110 #[.int .i64 v,.int .i64 b] w fun e w'=>e=.returned (.bool (fR v b))∧aN w w':=by
 go_enter Tryz.func110,Tryz.ntmps110;go_wp2
 all_goals
  go_ret;exact⟨aF (by first|(simp[fR, *];done)|(simp[fR, *];intros;omega)),aN.refl _⟩
def pS (h:iB) (f:Int):Bool:=(decide (1≤h.kind)&&decide (h.kind≤3))&&(fR h.rate 140737488355328&&(fR h.decay 140737488355328&&(fR h.clip 140737488355328&&(fR h.mu (2^f.toNat)&&fR h.nu (2^f.toNat)))))&&
 ((eS h&&(decide (h.kind≠3) || bS h.eps))&&cT h.sched h.every)
theorem MN (h:iB) (f:Int) (hf:dU f=true):pS h f=eM h f:=by
 obtain⟨kind,rate,mu,nu,eps,decay,clip,sched,every⟩:=h;obtain⟨p,hp⟩:∃p:Int,p=2^f.toNat:=⟨_,rfl⟩;rw[Bool.eq_iff_iff];simp only[pS,eM,hf,fR,bS,eS,←hp,Bool.true_and,Bool.and_eq_true,Bool.or_eq_true,decide_eq_true_eq];generalize (cT sched every=true)=S;constructor
 ·rintro⟨⟨⟨h1,h2⟩,⟨a1,a2⟩,⟨b1,b2⟩,⟨c1,c2⟩,⟨d1,d2⟩,e1,e2⟩,⟨hk,hw⟩,hs⟩;refine⟨⟨by omega,a2⟩,⟨by omega,b2⟩,⟨by omega,c2⟩,a1,b1,c1,d1,d2,e1,e2,?_,hk,hs⟩;rcases hk with(⟨rfl,_,_,rfl⟩|⟨rfl,_,rfl⟩)|⟨rfl,hk⟩
  ·omega
  ·omega
  ·rcases hw with hw|hw
   ·exact absurd rfl hw
   ·exact hw
 ·rintro⟨⟨_,a2⟩,⟨_,b2⟩,⟨_,c2⟩,a1,b1,c1,d1,d2,e1,e2,hw,hk,hs⟩;refine⟨⟨by omega,⟨a1,a2⟩,⟨b1,b2⟩,⟨c1,c2⟩,⟨d1,d2⟩,e1,e2⟩,⟨hk,.inr hw⟩,hs⟩
theorem OF (h:iB) (f:Int) (w:World) (hf:dU f=true):
  Calls Tryz.prog 56 #[.agg #[.int .i64 h.kind,.int .i64 h.rate,.int .i64 h.mu,.int .i64 h.nu,.int .i64 h.eps,.int .i64 h.decay,.int .i64 h.clip,.int .i64 h.sched,.int .i64 h.every],.int .i64 f] w fun e w'=>e=.returned (.bool (pS h f))∧Below w.heap.size w w':=by
 obtain⟨kind,rate,mu,nu,eps,decay,clip,sched,every⟩:=h;obtain⟨p,hp⟩:∃p:Int,p=2^f.toNat:=⟨_,rfl⟩;have hsh:=sV f (nH hf) p hp;obtain⟨R,hR⟩:∃R,R=pS ⟨kind,rate,mu,nu,eps,decay,clip,sched,every⟩ f:=⟨_,rfl⟩;simp only[←hR];have HRR:=Za (show R=((decide (1≤kind)&&decide (kind≤3))&&(fR rate 140737488355328&&(fR decay 140737488355328&&(fR clip 140737488355328&&(fR mu p&&fR nu p))))&&((eS ⟨kind,rate,mu,nu,eps,decay,clip,sched,every⟩&&(decide (kind≠3) || bS eps))&&cT sched every)) by rw[hR,pS,←hp]);obtain⟨W,hW⟩:∃W,W=w.alloc (.cells #[.int .i64 kind,.int .i64 rate,.int .i64 mu,.int .i64 nu,.int .i64 eps,.int .i64 decay,.int .i64 clip,.int .i64 sched,.int .i64 every] 35):=⟨_,rfl⟩;have hbx:aA W w.heap.size 35 #[.int .i64 kind,.int .i64 rate,.int .i64 mu,.int .i64 nu,.int .i64 eps,.int .i64 decay,.int .i64 clip,.int .i64 sched,.int .i64 every]:=by rw[hW];exact aA.new _ _ _
 have HB:=Za (show Below w.heap.size w W by rw[hW];exact(Zc _ _).alloc (Zb _) _);have c0:=hbx.cell 0 rfl;have c1:=hbx.cell 1 rfl;have c2:=hbx.cell 2 rfl;have c3:=hbx.cell 3 rfl;have c4:=hbx.cell 4 rfl;have c5:=hbx.cell 5 rfl;have c6:=hbx.cell 6 rfl;have c7:=hbx.cell 7 rfl;have c8:=hbx.cell 8 rfl;have HW:=Za hW;clear hR hp hf hW hbx;by_cases k13:1≤kind∧kind≤3
 ·obtain⟨k1,k3⟩:=k13;have d1:decide (kind<1)=false:=decide_eq_false (by omega);have d3:decide (3<kind)=false:=decide_eq_false (by omega);cases q0:fR rate 140737488355328 with
  |false=>
   have HF0:=Za fun(m:Nat)=>(show Calls Tryz.prog 110 #[.int .i64 rate,.int .i64 140737488355328] (W.drewN m) fun e w'=>e=.returned (.bool false)∧∃j,w'=(W.drewN m).drewN j by rw[←q0];exact kW _ _ _);have Q0:=Za q0;clear q0;go_enter Tryz.func56,Tryz.ntmps56;go_wp2_with fail;rw[←HW.o];go_quiet(first|(go_at_call_of 110 rate;exact Calls.quiet_of (HF0.o _)));go_wp2;go_ret;exact⟨aF (by rw[HRR.o,Q0.o];simp),below_drewN HB.o _⟩
  |true=>
   have HF0:=Za fun(m:Nat)=>(show Calls Tryz.prog 110 #[.int .i64 rate,.int .i64 140737488355328] (W.drewN m) fun e w'=>e=.returned (.bool true)∧∃j,w'=(W.drewN m).drewN j by rw[←q0];exact kW _ _ _);have Q0:=Za q0;clear q0;cases q1:fR decay 140737488355328 with
   |false=>
    have HF1:=Za fun(m:Nat)=>(show Calls Tryz.prog 110 #[.int .i64 decay,.int .i64 140737488355328] (W.drewN m) fun e w'=>e=.returned (.bool false)∧∃j,w'=(W.drewN m).drewN j by rw[←q1];exact kW _ _ _);have Q1:=Za q1;clear q1;go_enter Tryz.func56,Tryz.ntmps56;go_wp2_with fail;rw[←HW.o];go_quiet(first|(go_at_call_of 110 rate;exact Calls.quiet_of (HF0.o _))|(go_at_call_of 110 decay;exact Calls.quiet_of (HF1.o _)));go_wp2;go_ret;exact⟨aF (by rw[HRR.o,Q1.o];simp),below_drewN HB.o _⟩
   |true=>
    have HF1:=Za fun(m:Nat)=>(show Calls Tryz.prog 110 #[.int .i64 decay,.int .i64 140737488355328] (W.drewN m) fun e w'=>e=.returned (.bool true)∧∃j,w'=(W.drewN m).drewN j by rw[←q1];exact kW _ _ _);have Q1:=Za q1;clear q1;cases q2:fR clip 140737488355328 with
    |false=>
     have HF2:=Za fun(m:Nat)=>(show Calls Tryz.prog 110 #[.int .i64 clip,.int .i64 140737488355328] (W.drewN m) fun e w'=>e=.returned (.bool false)∧∃j,w'=(W.drewN m).drewN j by rw[←q2];exact kW _ _ _);have Q2:=Za q2;clear q2;go_enter Tryz.func56,Tryz.ntmps56;go_wp2_with fail;rw[←HW.o];go_quiet(first|(go_at_call_of 110 rate;exact Calls.quiet_of (HF0.o _))|(go_at_call_of 110 decay;exact Calls.quiet_of (HF1.o _))|(go_at_call_of 110 clip;exact Calls.quiet_of (HF2.o _)));go_wp2;go_ret;exact⟨aF (by rw[HRR.o,Q2.o];simp),below_drewN HB.o _⟩
    |true=>
     have HF2:=Za fun(m:Nat)=>(show Calls Tryz.prog 110 #[.int .i64 clip,.int .i64 140737488355328] (W.drewN m) fun e w'=>e=.returned (.bool true)∧∃j,w'=(W.drewN m).drewN j by rw[←q2];exact kW _ _ _);have Q2:=Za q2;clear q2;cases q3:fR mu p with
     |false=>
      have HF3:=Za fun(m:Nat)=>(show Calls Tryz.prog 110 #[.int .i64 mu,.int .i64 p] (W.drewN m) fun e w'=>e=.returned (.bool false)∧∃j,w'=(W.drewN m).drewN j by rw[←q3];exact kW _ _ _);have Q3:=Za q3;clear q3;go_enter Tryz.func56,Tryz.ntmps56;go_wp2_with fail;rw[←HW.o];go_quiet(first|(go_at_call_of 110 rate;exact Calls.quiet_of (HF0.o _))|(go_at_call_of 110 decay;exact Calls.quiet_of (HF1.o _))|(go_at_call_of 110 clip;exact Calls.quiet_of (HF2.o _))|(go_at_call_of 110 mu;exact Calls.quiet_of (HF3.o _)));go_wp2;go_ret;exact⟨aF (by rw[HRR.o,Q3.o];simp),below_drewN HB.o _⟩
     |true=>
      have HF3:=Za fun(m:Nat)=>(show Calls Tryz.prog 110 #[.int .i64 mu,.int .i64 p] (W.drewN m) fun e w'=>e=.returned (.bool true)∧∃j,w'=(W.drewN m).drewN j by rw[←q3];exact kW _ _ _);have Q3:=Za q3;clear q3;cases q4:fR nu p with
      |false=>
       have HF4:=Za fun(m:Nat)=>(show Calls Tryz.prog 110 #[.int .i64 nu,.int .i64 p] (W.drewN m) fun e w'=>e=.returned (.bool false)∧∃j,w'=(W.drewN m).drewN j by rw[←q4];exact kW _ _ _);have Q4:=Za q4;clear q4;go_enter Tryz.func56,Tryz.ntmps56;go_wp2_with fail;rw[←HW.o];go_quiet(first|(go_at_call_of 110 rate;exact Calls.quiet_of (HF0.o _))|(go_at_call_of 110 decay;exact Calls.quiet_of (HF1.o _))|(go_at_call_of 110 clip;exact Calls.quiet_of (HF2.o _))|(go_at_call_of 110 mu;exact Calls.quiet_of (HF3.o _))|(go_at_call_of 110 nu;exact Calls.quiet_of (HF4.o _)));go_wp2;go_ret;exact⟨aF (by rw[HRR.o,Q4.o];simp),below_drewN HB.o _⟩
      |true=>
       have HF4:=Za fun(m:Nat)=>(show Calls Tryz.prog 110 #[.int .i64 nu,.int .i64 p] (W.drewN m) fun e w'=>e=.returned (.bool true)∧∃j,w'=(W.drewN m).drewN j by rw[←q4];exact kW _ _ _);have Q4:=Za q4;clear q4;go_enter Tryz.func56,Tryz.ntmps56;go_wp2_with fail;rw[←HW.o];go_quiet(first|(go_at_call_of 110 rate;exact Calls.quiet_of (HF0.o _))|(go_at_call_of 110 decay;exact Calls.quiet_of (HF1.o _))|(go_at_call_of 110 clip;exact Calls.quiet_of (HF2.o _))|(go_at_call_of 110 mu;exact Calls.quiet_of (HF3.o _))|(go_at_call_of 110 nu;exact Calls.quiet_of (HF4.o _)));have HR2:=Za (show R=((eS ⟨kind,rate,mu,nu,eps,decay,clip,sched,every⟩&&(decide (kind≠3) || bS eps))&&cT sched every) by rw[HRR.o,Q0.o,Q1.o,Q2.o,Q3.o,Q4.o];simp[k1,k3]);clear HRR HF0 HF1 HF2 HF3 HF4 d1 d3;have fin:∀b:Bool,(eS ⟨kind,rate,mu,nu,eps,decay,clip,sched,every⟩&&(decide (kind≠3) || bS eps))=b→Hid (R=(b&&cT sched every)):=fun b hb=>Za (by rw[HR2.o,hb]);have kk:kind=1∨kind=2∨kind=3:=by omega
       clear k1 k3 HR2;rcases kk with rfl|rfl|rfl
       ·by_cases z1:mu=0∧nu=0∧eps=0
        ·obtain⟨rfl,rfl,rfl⟩:=z1;have HK:=fin true (by simp[eS]);clear fin;by_cases s1:sched=1
         ·subst s1;go_wp2
          all_goals
           go_ret;exact⟨aF (by rw[HK.o,cT];first|(simp;done)|(simp[Bool.beq_eq_decide_eq];done)|(simp;omega)|(simp_all;done)|(simp_all [Bool.beq_eq_decide_eq];done)|(simp_all;omega)),below_drewN HB.o _⟩
         ·by_cases s2:sched=2
          ·subst s2;go_wp2
           all_goals
            go_ret;exact⟨aF (by rw[HK.o,cT];first|(simp;done)|(simp[Bool.beq_eq_decide_eq];done)|(simp;omega)|(simp_all;done)|(simp_all [Bool.beq_eq_decide_eq];done)|(simp_all;omega)),below_drewN HB.o _⟩
          ·by_cases s3:sched=3
           ·subst s3;go_wp2
            all_goals
             go_ret;exact⟨aF (by rw[HK.o,cT];first|(simp;done)|(simp[Bool.beq_eq_decide_eq];done)|(simp;omega)|(simp_all;done)|(simp_all [Bool.beq_eq_decide_eq];done)|(simp_all;omega)),below_drewN HB.o _⟩
           ·go_wp2
            all_goals
             go_ret;exact⟨aF (by rw[HK.o,cT];simp[s1,s2,s3]),below_drewN HB.o _⟩
        ·have HK:=fin false (by simp[eS];omega);clear fin;have z2:mu≠0∨mu=0∧(nu≠0∨nu=0∧eps≠0):=by omega
         clear z1;rcases z2 with z2|⟨rfl,z2|⟨rfl,z2⟩⟩
         all_goals
          go_wp2
          all_goals
           go_ret;exact⟨aF (by rw[HK.o];rfl),below_drewN HB.o _⟩
       ·by_cases z1:nu=0∧eps=0
        ·obtain⟨rfl,rfl⟩:=z1;have HK:=fin true (by simp[eS]);clear fin;by_cases s1:sched=1
         ·subst s1;go_wp2
          all_goals
           go_ret;exact⟨aF (by rw[HK.o,cT];first|(simp;done)|(simp[Bool.beq_eq_decide_eq];done)|(simp;omega)|(simp_all;done)|(simp_all [Bool.beq_eq_decide_eq];done)|(simp_all;omega)),below_drewN HB.o _⟩
         ·by_cases s2:sched=2
          ·subst s2;go_wp2
           all_goals
            go_ret;exact⟨aF (by rw[HK.o,cT];first|(simp;done)|(simp[Bool.beq_eq_decide_eq];done)|(simp;omega)|(simp_all;done)|(simp_all [Bool.beq_eq_decide_eq];done)|(simp_all;omega)),below_drewN HB.o _⟩
          ·by_cases s3:sched=3
           ·subst s3;go_wp2
            all_goals
             go_ret;exact⟨aF (by rw[HK.o,cT];first|(simp;done)|(simp[Bool.beq_eq_decide_eq];done)|(simp;omega)|(simp_all;done)|(simp_all [Bool.beq_eq_decide_eq];done)|(simp_all;omega)),below_drewN HB.o _⟩
           ·go_wp2
            all_goals
             go_ret;exact⟨aF (by rw[HK.o,cT];simp[s1,s2,s3]),below_drewN HB.o _⟩
        ·have HK:=fin false (by simp[eS];omega);clear fin;have z2:nu≠0∨nu=0∧eps≠0:=by omega
         clear z1;rcases z2 with z2|⟨rfl,z2⟩
         all_goals
          go_wp2
          all_goals
           go_ret;exact⟨aF (by rw[HK.o];rfl),below_drewN HB.o _⟩
       ·by_cases z1:0<eps
        ·go_wp2_with(go_at_call 111;refine(xI eps _).mono ?_;rintro e w' ⟨rfl,n11,rfl⟩;refine aD ?_);refine aC ?_;cases hw:bS eps with
         |false=>
          have HK:=fin false (by simp[hw]);clear fin hw;go_wp2;go_ret;exact⟨aF (by rw[HK.o];rfl),below_drewN HB.o _⟩
         |true=>
          have HK:=fin true (by simp[eS,z1,hw]);clear fin hw;by_cases s1:sched=1
          ·subst s1;go_wp2
           all_goals
            go_ret;exact⟨aF (by rw[HK.o,cT];first|(simp;done)|(simp[Bool.beq_eq_decide_eq];done)|(simp;omega)|(simp_all;done)|(simp_all [Bool.beq_eq_decide_eq];done)|(simp_all;omega)),below_drewN HB.o _⟩
          ·by_cases s2:sched=2
           ·subst s2;go_wp2
            all_goals
             go_ret;exact⟨aF (by rw[HK.o,cT];first|(simp;done)|(simp[Bool.beq_eq_decide_eq];done)|(simp;omega)|(simp_all;done)|(simp_all [Bool.beq_eq_decide_eq];done)|(simp_all;omega)),below_drewN HB.o _⟩
           ·by_cases s3:sched=3
            ·subst s3;go_wp2
             all_goals
              go_ret;exact⟨aF (by rw[HK.o,cT];first|(simp;done)|(simp[Bool.beq_eq_decide_eq];done)|(simp;omega)|(simp_all;done)|(simp_all [Bool.beq_eq_decide_eq];done)|(simp_all;omega)),below_drewN HB.o _⟩
            ·go_wp2
             all_goals
              go_ret;exact⟨aF (by rw[HK.o,cT];simp[s1,s2,s3]),below_drewN HB.o _⟩
        ·have HK:=fin false (by simp[eS];omega);clear fin;go_wp2
         all_goals
          go_ret;exact⟨aF (by rw[HK.o];rfl),below_drewN HB.o _⟩
 ·have k2:kind<1∨3<kind:=by omega
  clear k13;rcases k2 with k2|k2
  ·have d1:decide (kind<1)=true:=decide_eq_true k2;go_enter Tryz.func56,Tryz.ntmps56;go_wp2_with fail;rw[←HW.o];go_quiet(fail);go_wp2;go_ret;exact⟨aF (by rw[HRR.o,decide_eq_false (show ¬1≤kind by omega)];simp),below_drewN HB.o _⟩
  ·have d1:decide (kind<1)=false:=decide_eq_false (by omega);have d3:decide (3<kind)=true:=decide_eq_true k2;go_enter Tryz.func56,Tryz.ntmps56;go_wp2_with fail;rw[←HW.o];go_quiet(fail);go_wp2;go_ret;exact⟨aF (by rw[HRR.o,decide_eq_false (show ¬kind≤3 by omega),Bool.and_false];simp),below_drewN HB.o _⟩
end Go.Proofs.YtjhkdocidcfpdaaGreatDoor
