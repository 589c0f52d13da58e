/- A part of the proof. -/
import Derived.Test.YtjhkdocidcfpdaaGreatDoorEN02
set_option linter.unusedVariables false
set_option linter.unusedSimpArgs false
set_option maxRecDepth 100000
set_option maxHeartbeats 16000000
namespace Go.Proofs.YtjhkdocidcfpdaaGreatDoor
open Go.RowKit Go.Shelf Go
def cY (s e:Int):Bool:=decide (s=1)&&decide (e=0) || (decide (s=2) || decide (s=3))&&(decide (1<=e)&&decide (e<=1048576))
def fD (h:hH):Bool:=decide (h.kind=1)&&(decide (h.mu=0)&&(decide (h.nu=0)&&decide (h.eps=0))) || decide (h.kind=2)&&(decide (h.nu=0)&&decide (h.eps=0)) || decide (h.kind=3)&&decide (0<h.eps)
def eT (h:hH) (f:Int):Bool:=
 eE f&&(bU h.rate&&(bU h.decay&&(bU h.clip&&(decide (0<=h.rate)&&(decide (0<=h.decay)&&(decide (0<=h.clip)&&
  (decide (0<=h.mu)&&(decide (h.mu<2^f.toNat)&&(decide (0<=h.nu)&&(decide (h.nu<2^f.toNat)&&(bU h.eps&&(fD h&&cY h.sched h.every))))))))))))
theorem nB {f:Int} (h:eE f=true):8<=f/\f<=32:=by simpa [eE]using h
theorem rS (f:Int) (h:8<=f/\f<=32) (p:Int) (hp:p=2^f.toNat) (w:World):(Op.shift .shl .i64 1 .i64 f).run Tryz.prog w=.ok (.int .i64 p) w:=by
 subst hp;have:∀n:Nat,8<=n->n<=32->∀w,(Op.shift .shl .i64 1 .i64 (n:Int)).run Tryz.prog w=.ok (.int .i64 (2^n)) w:=by
  intro n h1 h2;have:n=8\/n=9\/n=10\/n=11\/n=12\/n=13\/n=14\/n=15\/n=16\/n=17\/n=18\/n=19\/n=20\/n=21\/n=22\/n=23\/n=24\/n=25\/n=26\/n=27\/n=28\/n=29\/n=30\/n=31\/n=32:=by omega
  rcases this with rfl|rfl|rfl|rfl|rfl|rfl|rfl|rfl|rfl|rfl|rfl|rfl|rfl|rfl|rfl|rfl|rfl|rfl|rfl|rfl|rfl|rfl|rfl|rfl|rfl<;>exact fun w=>by kernel_rfl
 obtain⟨n,rfl⟩:∃n:Nat,f=n:=⟨f.toNat,by omega⟩;exact this n (by omega) (by omega) w
theorem JI (h:hH) (f:Int) (w:World):
  Calls Tryz.prog 80 #[.agg #[.int .i64 h.kind,.int .i64 h.rate,.int .i64 h.mu,.int .i64 h.nu,.int .i64 h.eps,.int .i64 h.decay,.int .i64 h.clip,.int .i64 h.sched,.int .i64 h.every],.int .i64 f] w fun e w'=>e=.returned (.bool (eT h f))/\Below w.heap.size w w':=by
 obtain⟨kind,rate,mu,nu,eps,decay,clip,sched,every⟩:=h;go_enter Tryz.func80,Tryz.ntmps80;go_wp2_with(go_at_call 74;refine(yO f _).mono ?_;rintro e w' ⟨rfl,n0,rfl⟩;refine aD ?_);refine aC ?_;cases q0:eE f
 ·have Q0:=Za q0;clear q0;go_wp2;go_ret;exact⟨aG (by simp only[eT,Q0.o];simp),below_drewN ((Zc _ _).alloc (Zb _) _) _⟩
 ·have Q0:=Za q0;clear q0;go_wp2_with(go_at_call 122;refine(pV rate _).mono ?_;rintro e w' ⟨rfl,n1,rfl⟩;refine aD ?_);refine aC ?_;cases q1:bU rate
  ·have Q1:=Za q1;clear q1;go_wp2;go_ret;exact⟨aG (by simp only[eT,Q0.o,Q1.o];simp),below_drewN ((Zc _ _).alloc (Zb _) _) _⟩
  ·have Q1:=Za q1;clear q1;go_wp2_with(go_at_call 122;refine(pV decay _).mono ?_;rintro e w' ⟨rfl,n2,rfl⟩;refine aD ?_);refine aC ?_;cases q2:bU decay
   ·have Q2:=Za q2;clear q2;go_wp2;go_ret;exact⟨aG (by simp only[eT,Q0.o,Q1.o,Q2.o];simp),below_drewN ((Zc _ _).alloc (Zb _) _) _⟩
   ·have Q2:=Za q2;clear q2;go_wp2_with(go_at_call 122;refine(pV clip _).mono ?_;rintro e w' ⟨rfl,n3,rfl⟩;refine aD ?_);refine aC ?_;cases q3:bU clip
    ·have Q3:=Za q3;clear q3;go_wp2;go_ret;exact⟨aG (by simp only[eT,Q0.o,Q1.o,Q2.o,Q3.o];simp),below_drewN ((Zc _ _).alloc (Zb _) _) _⟩
    ·have Q3:=Za q3;clear q3;obtain⟨p,hp⟩:∃p:Int,p=2^f.toNat:=⟨_,rfl⟩;have C:=rS f (nB Q0.o) p hp;have B:=Za hp;clear hp;by_cases q4:0<=rate/\0<=decay/\0<=clip;rotate_left
     ·have wq4:(decide (rate<0) || decide (decay<0) || decide (clip<0))=true:=by simp;omega
      go_wp2
      all_goals
       go_ret;exact⟨aG (by simp only[eT,Q0.o,Q1.o,Q2.o,Q3.o,<-B.o];simp;intros;omega),below_drewN ((Zc _ _).alloc (Zb _) _) _⟩
     have wq4:(decide (rate<0) || decide (decay<0) || decide (clip<0))=false:=by simp;omega
     by_cases q7:0<=mu;rotate_left
     ·go_wp2
      all_goals
       go_ret;exact⟨aG (by simp only[eT,Q0.o,Q1.o,Q2.o,Q3.o,<-B.o];simp;intros;omega),below_drewN ((Zc _ _).alloc (Zb _) _) _⟩
     by_cases q8:mu<p;rotate_left
     ·go_wp2
      all_goals
       go_ret;exact⟨aG (by simp only[eT,Q0.o,Q1.o,Q2.o,Q3.o,<-B.o];simp;intros;omega),below_drewN ((Zc _ _).alloc (Zb _) _) _⟩
     by_cases q9:0<=nu;rotate_left
     ·go_wp2
      all_goals
       go_ret;exact⟨aG (by simp only[eT,Q0.o,Q1.o,Q2.o,Q3.o,<-B.o];simp;intros;omega),below_drewN ((Zc _ _).alloc (Zb _) _) _⟩
     by_cases q10:nu<p;rotate_left
     ·go_wp2
      all_goals
       go_ret;exact⟨aG (by simp only[eT,Q0.o,Q1.o,Q2.o,Q3.o,<-B.o];simp;intros;omega),below_drewN ((Zc _ _).alloc (Zb _) _) _⟩
     go_wp2_with(go_at_call 122;refine(pV eps _).mono ?_;rintro e w' ⟨rfl,n11,rfl⟩;refine aD ?_);refine aC ?_;cases q11:bU eps
     ·have Q11:=Za q11;clear q11;go_wp2;go_ret;exact⟨aG (by simp only[eT,Q11.o];simp),below_drewN ((Zc _ _).alloc (Zb _) _) _⟩
     ·have Q11:=Za q11;clear q11;have D:Hid (eT ⟨kind,rate,mu,nu,eps,decay,clip,sched,every⟩ f=(fD ⟨kind,rate,mu,nu,eps,decay,clip,sched,every⟩&&cY sched every)):=Za (by
       simp only[eT,Q0.o,Q1.o,Q2.o,Q3.o,Q11.o,<-B.o];simp[q4,q7,q8,q9,q10])
      have fin:∀b:Bool,fD ⟨kind,rate,mu,nu,eps,decay,clip,sched,every⟩=b->Hid (eT ⟨kind,rate,mu,nu,eps,decay,clip,sched,every⟩ f=(b&&cY sched every)):=fun b hb=>Za (by rw[D.o,hb]);by_cases k1:kind=1
      ·subst k1;by_cases z1:mu=0/\nu=0/\eps=0
       ·obtain⟨rfl,rfl,rfl⟩:=z1;have A:=fin true (by simp[fD]);clear fin;by_cases s1:sched=1
        ·subst s1;go_wp2
         all_goals
          go_ret;exact⟨aG (by rw[A.o,cY];first|(simp;done)|(simp[Bool.beq_eq_decide_eq];done)|(simp;omega)|(simp_all;done)|(simp_all [Bool.beq_eq_decide_eq];done)|(simp_all;omega)),below_drewN ((Zc _ _).alloc (Zb _) _) _⟩
        ·by_cases s2:sched=2
         ·subst s2;go_wp2
          all_goals
           go_ret;exact⟨aG (by rw[A.o,cY];first|(simp;done)|(simp[Bool.beq_eq_decide_eq];done)|(simp;omega)|(simp_all;done)|(simp_all [Bool.beq_eq_decide_eq];done)|(simp_all;omega)),below_drewN ((Zc _ _).alloc (Zb _) _) _⟩
         ·by_cases s3:sched=3
          ·subst s3;go_wp2
           all_goals
            go_ret;exact⟨aG (by rw[A.o,cY];first|(simp;done)|(simp[Bool.beq_eq_decide_eq];done)|(simp;omega)|(simp_all;done)|(simp_all [Bool.beq_eq_decide_eq];done)|(simp_all;omega)),below_drewN ((Zc _ _).alloc (Zb _) _) _⟩
          ·go_wp2
           all_goals
            go_ret;exact⟨aG (by rw[A.o,cY];simp[s1,s2,s3]),below_drewN ((Zc _ _).alloc (Zb _) _) _⟩
       ·have A:=fin false (by simp only[fD];simp;omega);clear fin;have z2:mu≠0\/mu=0/\(nu≠0\/nu=0/\eps≠0):=by omega
        clear z1;rcases z2 with z2|⟨rfl,z2|⟨rfl,z2⟩⟩
        all_goals
         go_wp2
         all_goals
          go_ret;exact⟨aG (by rw[A.o];rfl),below_drewN ((Zc _ _).alloc (Zb _) _) _⟩
      ·by_cases k2:kind=2
       ·subst k2;by_cases z1:nu=0/\eps=0
        ·obtain⟨rfl,rfl⟩:=z1;have A:=fin true (by simp[fD]);clear fin;by_cases s1:sched=1
         ·subst s1;go_wp2
          all_goals
           go_ret;exact⟨aG (by rw[A.o,cY];first|(simp;done)|(simp[Bool.beq_eq_decide_eq];done)|(simp;omega)|(simp_all;done)|(simp_all [Bool.beq_eq_decide_eq];done)|(simp_all;omega)),below_drewN ((Zc _ _).alloc (Zb _) _) _⟩
         ·by_cases s2:sched=2
          ·subst s2;go_wp2
           all_goals
            go_ret;exact⟨aG (by rw[A.o,cY];first|(simp;done)|(simp[Bool.beq_eq_decide_eq];done)|(simp;omega)|(simp_all;done)|(simp_all [Bool.beq_eq_decide_eq];done)|(simp_all;omega)),below_drewN ((Zc _ _).alloc (Zb _) _) _⟩
          ·by_cases s3:sched=3
           ·subst s3;go_wp2
            all_goals
             go_ret;exact⟨aG (by rw[A.o,cY];first|(simp;done)|(simp[Bool.beq_eq_decide_eq];done)|(simp;omega)|(simp_all;done)|(simp_all [Bool.beq_eq_decide_eq];done)|(simp_all;omega)),below_drewN ((Zc _ _).alloc (Zb _) _) _⟩
           ·go_wp2
            all_goals
             go_ret;exact⟨aG (by rw[A.o,cY];simp[s1,s2,s3]),below_drewN ((Zc _ _).alloc (Zb _) _) _⟩
        ·have A:=fin false (by simp only[fD];simp;omega);clear fin;have z2:nu≠0\/nu=0/\eps≠0:=by omega
         clear z1;rcases z2 with z2|⟨rfl,z2⟩
         all_goals
          go_wp2
          all_goals
           go_ret;exact⟨aG (by rw[A.o];rfl),below_drewN ((Zc _ _).alloc (Zb _) _) _⟩
       ·by_cases k3:kind=3
        ·subst k3;by_cases z1:0<eps
         ·have A:=fin true (by simp[fD,z1]);clear fin;by_cases s1:sched=1
          ·subst s1;go_wp2
           all_goals
            go_ret;exact⟨aG (by rw[A.o,cY];first|(simp;done)|(simp[Bool.beq_eq_decide_eq];done)|(simp;omega)|(simp_all;done)|(simp_all [Bool.beq_eq_decide_eq];done)|(simp_all;omega)),below_drewN ((Zc _ _).alloc (Zb _) _) _⟩
          ·by_cases s2:sched=2
           ·subst s2;go_wp2
            all_goals
             go_ret;exact⟨aG (by rw[A.o,cY];first|(simp;done)|(simp[Bool.beq_eq_decide_eq];done)|(simp;omega)|(simp_all;done)|(simp_all [Bool.beq_eq_decide_eq];done)|(simp_all;omega)),below_drewN ((Zc _ _).alloc (Zb _) _) _⟩
           ·by_cases s3:sched=3
            ·subst s3;go_wp2
             all_goals
              go_ret;exact⟨aG (by rw[A.o,cY];first|(simp;done)|(simp[Bool.beq_eq_decide_eq];done)|(simp;omega)|(simp_all;done)|(simp_all [Bool.beq_eq_decide_eq];done)|(simp_all;omega)),below_drewN ((Zc _ _).alloc (Zb _) _) _⟩
            ·go_wp2
             all_goals
              go_ret;exact⟨aG (by rw[A.o,cY];simp[s1,s2,s3]),below_drewN ((Zc _ _).alloc (Zb _) _) _⟩
         ·have A:=fin false (by simp only[fD];simp;omega);clear fin;go_wp2
          all_goals
           go_ret;exact⟨aG (by rw[A.o];rfl),below_drewN ((Zc _ _).alloc (Zb _) _) _⟩
        ·have A:=fin false (by simp only[fD];simp[k1,k2,k3]);clear fin;go_wp2
         all_goals
          go_ret;exact⟨aG (by rw[A.o];rfl),below_drewN ((Zc _ _).alloc (Zb _) _) _⟩
