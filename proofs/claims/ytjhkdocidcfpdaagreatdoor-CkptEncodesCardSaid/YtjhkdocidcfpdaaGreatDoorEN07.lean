/- A part of the proof. -/
import Derived.Test.YtjhkdocidcfpdaaGreatDoorEN05
set_option linter.unusedVariables false
set_option linter.unusedSimpArgs false
set_option maxRecDepth 100000
set_option maxHeartbeats 16000000
open List renaming getElem_cons_zero → Zi, getElem_cons_succ → Zj, getElem_toArray → Zk
namespace Go.Proofs.YtjhkdocidcfpdaaGreatDoor
open Go.RowKit Go.Shelf Go
theorem zT (w:World):
  Calls Tryz.prog 142 #[] w fun e w'=>(∃b,e=.returned (.slice (some ⟨b,0,none⟩) 12 12)/\kU w' b)/\Below w.heap.size w w':=by
 go_enter Tryz.func142,Tryz.ntmps142;go_wp2;go_ret;refine⟨⟨w.heap.size+21,?_,?_⟩,?_⟩
 ·rfl
 ·exact DH w
 ·exact BB (iI w.heap.size) w (Zc _ _) (Zb _)
def pD (L:Nat) (res:Option Int) (w:World) (e:Ending) (w':World):Prop:=
 e=.returned (.bool res.isSome)/\(∃k,aA w' L 3 #[.int .i64 k]/\∀j,res=some j->k=j/\0<=j/\j<=64)/\bB w w' L
def tW (l:aB):Prop:=∀(deep:Nat) (left:Int) (L:Nat) (v:Value) (w:World),bO w v l.body->l.body.length<=140737488351232->deep<=4->0<=left/\left<=64->aA w L 3 #[.int .i64 left]->
 Calls Tryz.prog 170 #[.agg (l.n.cells v).toArray,.int .i64 deep,.pointer (some ⟨L,0,none⟩)] w (pD L (cD deep left l) w)
theorem VS {w:World} {b off i L:Nat} {c:Int} {n:aE} {v:Value} (h:∀j u,(n.cells v)[j]?=some u->w.cell? ⟨b,off+i*9+j,none⟩=some u) (A:aA w L 3 #[.int .i64 c]):b≠L:=by intro e;subst e;have:=h 8 v rfl;rw[cell_of_row w b _ _ 3 (0,0) A]at this;simp at this
theorem G1 {w w':World} {L b o:Nat} {u:Value} (hm:bB w w' L) (h:w.cell? ⟨b,o,none⟩=some u) (hb:b≠L):w'.cell? ⟨b,o,none⟩=some u:=
 (World.cell?_of_block (w:=w) (a:=⟨b,o,none⟩) (hm.block b (aP h) (fun e=>hb (by cases e;rfl)))).trans h
mutual
theorem fR.moved {w w':World} {L:Nat} {c:Int} (hm:bB w w' L) (A:aA w L 3 #[.int .i64 c]):∀(l:aB) {o:Option Addr} {i:Nat},fR w o i l->fR w' o i l
 |.mk n body,o,i,h=>by
  rw[fR]at h ⊢;obtain⟨b,off,ob,cb,rfl,B,hc,hl⟩:=h;have C:=VS hc A;exact⟨b,off,ob,cb,rfl,B,fun j u hj=>G1 hm (hc j u hj) C,cS.moved hm A body hl⟩
theorem cS.moved {w w':World} {L:Nat} {c:Int} (hm:bB w w' L) (A:aA w L 3 #[.int .i64 c]):∀(ls:List aB) {o:Option Addr} {i:Nat},cS w o i ls->cS w' o i ls
 |[],o,i,_=>by rw[cS];trivial
 |l::r,o,i,h=>by
  rw[cS]at h ⊢;exact⟨fR.moved hm A l h.1,cS.moved hm A r h.2⟩
end
theorem bO.moved {w w':World} {L:Nat} {c:Int} {v:Value} {ls:List aB} (h:bO w v ls) (hm:bB w w' L) (A:aA w L 3 #[.int .i64 c]):bO w' v ls:=by obtain⟨o,cap,rfl,h⟩:=h;exact⟨o,cap,rfl,cS.moved hm A ls h⟩
theorem rH (deep:Nat) (left:Int) (l:aB) (r:List aB):bS deep left (l::r)=(cD deep left l).bind fun k=>bS deep k r:=by rw[bS];cases cD deep left l<;>rfl
theorem EE (deep:Nat) (left:Int) (ls:List aB):∀(k:Nat) (hk:k<ls.length),bS deep left (ls.take (k+1))=(bS deep left (ls.take k)).bind fun j=>cD deep j ls[k]:=by
 induction ls generalizing left with
 |nil=>intro k hk;simp at hk
 |cons l r ih=>
  intro k hk;cases k with
  |zero=>
   rw[List.take_succ_cons,List.take_zero,List.take_zero,rH,bS]
   show _=cD deep left l
   cases cD deep left l with
   |none=>rfl
   |some j=>simp[bS]
  |succ k=>
   rw[List.take_succ_cons,rH,List.take_succ_cons,rH];cases cD deep left l with
   |none=>rfl
   |some j=>exact ih j k (by simpa using hk)
theorem KV (deep:Nat) (left:Int) (ls:List aB) (k:Nat) (h:bS deep left (ls.take k)=none):bS deep left ls=none:=by
 induction ls generalizing left k with
 |nil=>simp[bS]at h
 |cons l r ih=>
  cases k with
  |zero=>simp[bS]at h
  |succ k=>
   rw[List.take_succ_cons,rH]at h;rw[rH];cases hl:cD deep left l with
   |none=>rfl
   |some j=>
    rw[hl]at h;exact ih j k h
theorem FP (ls:List aB) (G:∀l∈ls,tW l) (deep:Nat) (left:Int) (L:Nat) (v:Value) (w:World) (hr:bO w v ls) (hl:ls.length<=140737488351232) (hd:deep<=4) (H:0<=left/\left<=64) (P:aA w L 3 #[.int .i64 left]):
  Calls Tryz.prog 140 #[v,.int .i64 deep,.pointer (some ⟨L,0,none⟩)] w (pD L (bS deep left ls) w):=by
 have HR:=Za hr;have R:=Za P;have T:=Za G;obtain⟨o,cap,rfl⟩:=hr.len;clear hr P G;go_enter Tryz.func140,Tryz.ntmps140;go_wp2;go_loopw[11] (fun i wr=>∃(k:Nat) (j:Int),k<=ls.length/\i=.int .i64 k/\Hid (bS deep left (ls.take k)=some j)/\(0<=j/\j<=64)/\aA wr L 3 #[.int .i64 j]/\bB w wr L) (fun i _=>ls.length-(intOf i).toNat)
 case atStart=>exact⟨0,left,Ze _,rfl,Za (by rw[List.take_zero,bS]),H,R.o,bB.refl _ _⟩
 case round=>
  obtain⟨k,j,hk,rfl,Y,hj,hb,hm⟩:=hrel;obtain⟨w3,rfl⟩:=Zx wr;have Z:=Za hb;have HM:=Za hm;clear hb hm;by_cases E:k<ls.length
  ·obtain⟨b,off,vb,rfl,B,F,C⟩:=(HR.o.moved HM.o R.o).lay k E;have D:ls[k]∈ls:=List.getElem_mem E;obtain⟨l,I⟩:=Zx (ls[k]);rw[<-I]at B F C D;have U:=Za I;obtain⟨ob,cb,rfl⟩:=F.len;have aa:=Za F;have HA:=Za (T.o l D);have HL:=Za C;obtain⟨⟨k0,k1,k2,k3,k4,k5,k6,k7⟩,body⟩:=l;have c0:=B 0 _ rfl;have c1:=B 1 _ rfl;have c2:=B 2 _ rfl;have c3:=B 3 _ rfl;have c4:=B 4 _ rfl;have c5:=B 5 _ rfl;have c6:=B 6 _ rfl;have c7:=B 7 _ rfl;have c8:=B 8 _ rfl;simp only[aB.n,Nat.add_zero]at c0 c1 c2 c3 c4 c5 c6 c7 c8;clear B F I D C;go_wp2_with fail;refine(HA.o deep j L _ _ (aa.o.below ((Zc _ _).alloc (Zb _) _) (Zb _)) HL.o hd hj (Z.o.below ((Zc _ _).alloc (Zb _) _) Z.o.lt)).mono ?_;rintro e w' ⟨rfl,⟨m,J,M⟩,N⟩;have V:=Za (HM.o.trans (((gO ((Zc w3.heap.size w3).alloc (Zb _) _):bB w3 _ L)).trans N));have X:=Za J;cases A:cD deep j (.mk ⟨k0,k1,k2,k3,k4,k5,k6,k7⟩ body)with
   |none=>
    have hN:bS deep left ls=none:=KV deep left ls (k+1) (by rw[EE deep left ls k E,Y.o,<-U.o];exact A);have O:=Za hN;clear hN A M N J;go_wp2;go_ret;exact⟨by rw[O.o];rfl,⟨m,X.o,fun j h=>by rw[O.o]at h;cases h⟩,V.o⟩
   |some q=>
    obtain⟨rfl,hq⟩:=M q A;have hN:bS deep left (ls.take (k+1))=some m:=by rw[EE deep left ls k E,Y.o,<-U.o];exact A
    have O:=Za hN;clear hN A M N J;go_wp2;go_roundw
    case rel=>exact⟨k+1,m,by omega,by go_num,O,hq,X.o,V.o⟩
    case measure=>simp[intOf];omega
  ·obtain rfl:k=ls.length:=by omega
   have O:Hid (bS deep left ls=some j):=Za (by have:=Y.o;rwa [List.take_length]at this);go_wp2;go_ret;exact⟨by rw[O.o];rfl,⟨j,Z.o,fun q h=>by rw[O.o]at h;cases h;exact⟨rfl,hj⟩⟩,HM.o⟩
structure GAt (w0:World) (L lb rb:Nat) (left:Int) (n:aE) (vb:Value) (W:World):Prop where
 lay:aA W lb 175 (n.cells vb).toArray
 rows:kU W rb
 left:aA W L 3 #[.int .i64 left]
 mv:bB w0 W L
 lb:w0.heap.size<=lb
theorem GAt.next {w0 W W':World} {L lb rb:Nat} {left:Int} {n:aE} {vb:Value} (h:GAt w0 L lb rb left n vb W) (hb:Below W.heap.size W W'):GAt w0 L lb rb left n vb W':=
 ⟨h.lay.next hb,h.rows.below hb (Zb _),h.left.next hb,h.mv.trans (gO hb),h.lb⟩
theorem E6 (n:Int):∀(l:List bX) (k:Nat) (hk:k<l.length),(∀j (hj:j<k),l[j].kind≠n)->l[k].kind=n->l.find? (fun r=>r.kind==n)=some l[k]
 |[],k,hk,_,_=>by simp at hk
 |r::l,0,hk,_,h=>by simp at h;simp[h]
 |r::l,k+1,hk,A,h=>by
  have h0:r.kind≠n:=A 0 (Nat.succ_pos k);rw[List.find?_cons_of_neg (by simp[h0])];exact E6 n l k (by simpa using hk) (fun j hj=>A (j+1) (by omega)) h
theorem JC (n:Int) (l:List bX) (h:∀j (hj:j<l.length),l[j].kind≠n):l.find? (fun r=>r.kind==n)=none:=by rw[List.find?_eq_none];intro r hr;obtain⟨i,hi,rfl⟩:=List.mem_iff_getElem.1 hr;simp[h i hi]
theorem aA.new_at {w:World} {T:TypeId} {cs:Array Value} {B:Nat} (h:w.heap.size=B):aA (w.alloc (.cells cs T)) B T cs:=by subst h;exact aA.new w T cs
theorem mN {L:Nat} {res:Option Int} {w w':World} {k:Int} (h:res=none) (hb:aA w' L 3 #[.int .i64 k]) (hm:bB w w' L):pD L res w (.returned (.bool false)) w':=by rw[h];exact⟨rfl,⟨_,hb,fun j hj=>by cases hj⟩,hm⟩
theorem BJ {L:Nat} {res:Option Int} {w w':World} {k:Int} (h:res=some k) (hk:0<=k/\k<=64) (hb:aA w' L 3 #[.int .i64 k]) (hm:bB w w' L):pD L res w (.returned (.bool true)) w':=by rw[h];exact⟨rfl,⟨_,hb,fun j hj=>by cases hj;exact⟨rfl,hk⟩⟩,hm⟩
theorem wH:∀r∈bJ,r.low.length=r.at_.length/\r.high.length=r.at_.length/\(∀i∈r.at_,1<=i/\i<=7)/\r.at_.length<=5:=by decide
theorem iN.at {w:World} {o:Option Addr} {n cap:Nat} {ats:List Nat} (h:iN w (.slice o n cap) ats) (j:Nat) (hj:j<ats.length):∃b off,o=some ⟨b,off,none⟩/\w.cell? ⟨b,off+j,none⟩=some (.func (.func (lL ats[j])) #[] #[]):=by obtain⟨o',cap',he,h⟩:=h;simp at he;obtain⟨rfl,_,_⟩:=he;exact h j hj
theorem aE.cell_fld (n:aE) (v:Value) (i:Nat) (h:1<=i/\i<=7):((n.cells v).toArray)[i]?=some (.int .i64 (n.fld i)):=by obtain⟨h1,h2⟩:=h;rcases(show i=1\/i=2\/i=3\/i=4\/i=5\/i=6\/i=7 by omega)with rfl|rfl|rfl|rfl|rfl|rfl|rfl<;>rfl
theorem aE.cell_put (n:aE) (v:Value) (i:Nat) (x:Int) (h:1<=i/\i<=7):((n.cells v).toArray).setIfInBounds i (.int .i64 x)=((n.put i x).cells v).toArray:=by obtain⟨h1,h2⟩:=h;rcases(show i=1\/i=2\/i=3\/i=4\/i=5\/i=6\/i=7 by omega)with rfl|rfl|rfl|rfl|rfl|rfl|rfl<;>rfl
theorem wU (r:bX) (n:aE):∀(m j:Nat),j<m->r.fits n j=false->r.fitsTo n m=false
 |0,j,h,_=>absurd h (Nat.not_lt_zero j)
 |m+1,j,h,hf=>by
  rw[bX.fitsTo];rcases Nat.lt_succ_iff_lt_or_eq.1 h with h|rfl
  ·rw[wU r n m j h hf,Bool.false_and]
  ·rw[hf,Bool.and_false]
theorem OI (n:aE) (body:List aB) (ao:∀l∈body,tW l):tW (.mk n body):=by
 intro deep left L v w hr hl hd bz I;obtain⟨k0,k1,k2,k3,k4,k5,k6,k7⟩:=n;simp only[aB.body]at hr hl;obtain⟨ob,cb,rfl⟩:=hr.len
 show Calls Tryz.prog 170 #[.agg #[.int .i64 k0,.int .i64 k1,.int .i64 k2,.int .i64 k3,.int .i64 k4,.int .i64 k5,.int .i64 k6,.int .i64 k7,.slice ob body.length cb],.int .i64 deep,.pointer (some ⟨L,0,none⟩)] w (pD L _ w)
 have ap:=Za ao;have HR:=Za hr;have hL:=I.lt;obtain⟨W,hW⟩:=Zx ((w.setCell ⟨L,0,none⟩ (.int .i64 (left-1))).alloc (.cells #[.int .i64 k0,.int .i64 k1,.int .i64 k2,.int .i64 k3,.int .i64 k4,.int .i64 k5,.int .i64 k6,.int .i64 k7,.slice ob body.length cb] 175));have hz:(w.setCell ⟨L,0,none⟩ (.int .i64 (left-1))).heap.size=w.heap.size:=by simp
 have ba:aA W L 3 #[.int .i64 (left-1)]:=by rw[hW];exact(I.set 0 _).next ((Zc _ _).alloc (Zb _) _)
 have bb:aA W w.heap.size 175 (aE.cells ⟨k0,k1,k2,k3,k4,k5,k6,k7⟩ (.slice ob body.length cb)).toArray:=by rw[hW,<-hz];exact aA.new _ _ _
 have au:bB w W L:=by rw[hW];exact(uT _ _ _).trans (gO ((Zc _ _).alloc (Zb _) _))
 have cc:W.heap.size=w.heap.size+1:=by rw[hW];simp
 have bc:=Za (hr.moved au I);have P:=Za ba;have av:=Za bb;have R:=Za au;have cA:=I.cell 0 rfl;have fA:=I.free 0;have HW:=Za hW;clear ao hr ba bb au hW I;by_cases bd:left-1<0
 ·have B:cD deep left (.mk ⟨k0,k1,k2,k3,k4,k5,k6,k7⟩ body)=none:=by rw[cD,decide_eq_true bd];rfl
  have A:=Za B;clear B;go_enter Tryz.func170,Tryz.ntmps170;go_wp2;go_ret;rw[<-HW.o];exact mN A.o P.o R.o
 ·have ae:=Za (decide_eq_false bd);by_cases hk:k0=13
  ·subst hk;by_cases be:deep<4
   ·have cd:decide ((deep:Int)<4)=true:=decide_eq_true (by omega);go_enter Tryz.func170,Tryz.ntmps170;go_wp2_with(go_at_call 189;rw[<-HW.o];refine(FK ⟨13,k1,k2,k3,k4,k5,k6,k7⟩ bN (.slice ob body.length cb) (.slice none 0 0) _).mono ?_;rintro e w2 ⟨rfl,D⟩;refine aD ?_);refine aC ?_;have aq:=Za (R.o.trans (gO D));have ar:=Za (P.o.next D);have bg:=Za (av.o.next D);have bi:=Za (bc.o.next D);clear D;cases hp:gA ⟨13,k1,k2,k3,k4,k5,k6,k7⟩ bN with
    |false=>
     have B:cD deep left (.mk ⟨13,k1,k2,k3,k4,k5,k6,k7⟩ body)=none:=by rw[cD,ae.o,decide_eq_true (show(⟨13,k1,k2,k3,k4,k5,k6,k7⟩:aE).kind=13 from rfl),hp,Bool.and_false];rfl
     have A:=Za B;clear B hp;go_wp2;go_ret;exact mN A.o ar.o aq.o
    |true=>
     have B:cD deep left (.mk ⟨13,k1,k2,k3,k4,k5,k6,k7⟩ body)=bS (deep+1) (left-1) body:=by rw[cD,ae.o,decide_eq_true (show(⟨13,k1,k2,k3,k4,k5,k6,k7⟩:aE).kind=13 from rfl),hp,decide_eq_true be];rfl
     have A:=Za B;clear B hp;have c8:=bg.o.cell 8 rfl;go_wp2_with(go_at_call 140;refine aD ?_);refine aC ?_;refine(FP body ap.o (deep+1) (left-1) L _ _ bi.o hl (by omega) (by omega) ar.o).mono ?_;rintro e w3 ⟨rfl,⟨k,T,bj⟩,bk⟩;have U:=Za T;have bm:=Za (aq.o.trans bk);have ce:=Za bj;clear T bk bj;cases hg:bS (deep+1) (left-1) body with
     |none=>
      have E:=Za (A.o.trans hg);clear hg;go_wp2;go_ret;exact mN E.o U.o bm.o
     |some j=>
      have E:=Za (A.o.trans hg);have HK:=Za (ce.o j hg);clear hg;go_wp2;go_ret;obtain⟨rfl,J⟩:=HK.o;exact BJ E.o J U.o bm.o
   ·have cd:decide ((deep:Int)<4)=false:=decide_eq_false (by omega);have B:cD deep left (.mk ⟨13,k1,k2,k3,k4,k5,k6,k7⟩ body)=none:=by rw[cD,ae.o,decide_eq_true (show(⟨13,k1,k2,k3,k4,k5,k6,k7⟩:aE).kind=13 from rfl),decide_eq_false be,Bool.false_and];rfl
    have A:=Za B;clear B;go_enter Tryz.func170,Tryz.ntmps170;go_wp2;go_ret;rw[<-HW.o];exact mN A.o P.o R.o
  ·have B:cD deep left (.mk ⟨k0,k1,k2,k3,k4,k5,k6,k7⟩ body)=bif fJ ⟨k0,k1,k2,k3,k4,k5,k6,k7⟩ body then some (left-1) else none:=by rw[cD,ae.o,decide_eq_false (show ¬(⟨k0,k1,k2,k3,k4,k5,k6,k7⟩:aE).kind=13 from hk)];rfl
   have A:=Za B;clear B;go_enter Tryz.func170,Tryz.ntmps170;go_wp2_with(go_at_call 142;rw[<-HW.o];refine(zT _).mono ?_;rintro e w2 ⟨⟨rb,rfl,bn⟩,D⟩;refine aD ?_);refine aC ?_;have E:=Za (show GAt w L w.heap.size rb (left-1) ⟨k0,k1,k2,k3,k4,k5,k6,k7⟩ (.slice ob body.length cb) w2 from⟨av.o.next D,bn,P.o.next D,R.o.trans (gO D),Zb _⟩);clear bn D HW P av R bc ap cA fA cc hz;go_wp2;go_loopw[42] (fun i wr=>∃k:Nat,k<=12/\i=.int .i64 k/\Hid (∀j (J:j<k) (h:j<bJ.length),bJ[j].kind≠k0)/\GAt w L w.heap.size rb (left-1) ⟨k0,k1,k2,k3,k4,k5,k6,k7⟩ (.slice ob body.length cb) wr) (fun i _=>12-(intOf i).toNat)
   case atStart=>exact⟨0,Ze _,rfl,Za (fun j J=>absurd J (Nat.not_lt_zero j)),E.o⟩
   case round=>
    obtain⟨k,cs,rfl,af,hg⟩:=hrel;obtain⟨w3,rfl⟩:=Zx wr;have E:=Za hg;clear hg;by_cases aw:k<12
    ·have ax:k<bJ.length:=aw;obtain⟨va,vl,vh,r0,r1,r2,r3,r4,ag,V,X⟩:=E.o.rows k ax;have bo:=wH _ (List.getElem_mem ax);obtain⟨r,ay⟩:=Zx (bJ[k]);rw[<-ay]at r0 r1 ag V X bo;obtain⟨ok1,ok2,ok3,ok4⟩:=bo;obtain⟨rk,word,ats,lo,Y⟩:=r;simp only at r0 r1 ag V X ok1 ok2 ok3 ok4;have az:=Za ay;have cg:=Za ag;have ci:=Za V;have cj:=Za X;have OK3:=Za ok3;obtain⟨ofn,cfn,rfl,_⟩:=ag;obtain⟨olo,clo,rfl⟩:=aU V;obtain⟨ohi,chi,rfl⟩:=aU X;have OK1:=Za ok1;have OK2:=Za ok2;have x0a:∀o:Obj,(w3.alloc o).cell? ⟨w.heap.size,0,none⟩=some (.int .i64 k0):=fun o=>(E.o.lay.next ((Zc w3.heap.size w3).alloc (Zb _) o)).cell 0 rfl;clear ay V X ok1 ok2 ok3;by_cases ah:rk=k0
     ·have ck:=Za ah;have Z:fJ ⟨k0,k1,k2,k3,k4,k5,k6,k7⟩ body=iL ⟨rk,word,ats,lo,Y⟩ ⟨k0,k1,k2,k3,k4,k5,k6,k7⟩ body:=by rw[fJ,cP,E6 k0 bJ k ax (fun j J=>af.o j J (by omega)) (by rw[<-az.o];exact ah),<-az.o]
      have G:=Za Z;subst ah;clear Z;obtain⟨W4,aa⟩:=Zx ((w3.alloc (.cells #[.int .i64 rk,.string ⟨word.toArray⟩,.slice ofn ats.length cfn,.slice olo lo.length clo,.slice ohi Y.length chi] 219)).alloc (.cells #[.int .i64 0,.int .i64 0,.int .i64 0,.int .i64 0,.int .i64 0,.int .i64 0,.int .i64 0,.int .i64 0,.slice none 0 0] 175));have b1:aA W4 w3.heap.size 219 #[.int .i64 rk,.string ⟨word.toArray⟩,.slice ofn ats.length cfn,.slice olo lo.length clo,.slice ohi Y.length chi]:=by rw[aa];exact(aA.new _ _ _).next ((Zc _ _).alloc (Zb _) _)
      have b2:aA W4 (w3.heap.size+1) 175 (bN.cells (.slice none 0 0)).toArray:=by rw[aa];exact aA.new_at (by simp)
      have b3:Below w3.heap.size w3 W4:=by rw[aa];exact((Zc _ _).alloc (Zb _) _).alloc (by simp) _
      have bp:=Za b1;have bq:=Za b2;have U:=Za b3;have br:=Za aa;clear b1 b2 b3 aa;go_wp2;rw[<-br.o];obtain⟨N,hN⟩:∃N:aE,N=⟨rk,k1,k2,k3,k4,k5,k6,k7⟩:=⟨_,rfl⟩;rw[<-hN]at E G A;have bs:=Za E.o.lay;have ct:=Za E.o.lay.lt;have HN:=Za hN;clear hN br af x0a r0 r1 r2 r3 r4 ck;go_loopw[54] (fun i wr=>∃j:Nat,j<=ats.length/\i=.int .i64 j/\Hid (bX.fitsTo ⟨rk,word,ats,lo,Y⟩ N j=true)/\aA wr w3.heap.size 219 #[.int .i64 rk,.string ⟨word.toArray⟩,.slice ofn ats.length cfn,.slice olo lo.length clo,.slice ohi Y.length chi]/\aA wr (w3.heap.size+1) 175 ((bX.made ⟨rk,word,ats,lo,Y⟩ N j).cells (.slice none 0 0)).toArray/\Below w3.heap.size w3 wr) (fun i _=>ats.length-(intOf i).toNat)
      case atStart=>exact⟨0,Ze _,rfl,Za rfl,bp.o,bq.o,U.o⟩
      case round=>
       obtain⟨j,J,rfl,ai,ab,D,T⟩:=hrel;obtain⟨w5,rfl⟩:=Zx wr;have B1:=Za ab;have B2:=Za D;have B3:=Za T;have d2:=ab.cell 2 rfl;have d3:=ab.cell 3 rfl;have d4:=ab.cell 4 rfl;clear ab D T bp bq U;by_cases H:j<ats.length
       ·obtain⟨bf,of_,rfl,cf⟩:=(cg.o.below B3.o (Zb _)).at j H;obtain⟨a,ha⟩:=Zx (ats[j]);rw[<-ha]at cf;have ac:=OK3.o a (by rw[ha];exact List.getElem_mem H);have cn:=Za ac;have bt:=Za (show ats.getD j 0=a by rw[ha];simp[List.getD_eq_getElem?_getD,H]);obtain⟨F,hF⟩:=Zx (lL a);have he:∀args w,(callFunc F args).run Tryz.prog w=.ok (.enter F args) w:=by rw[hF];exact yL a
        have HF:=Za (show ∀b w,Calls Tryz.prog F #[.pointer (some ⟨b,0,none⟩)] w fun e w'=>e=.returned (.pointer (some ⟨b,a,none⟩))/\w=w' from fun b w=>by rw[hF];exact xX a ac b w);rw[<-hF]at cf;have co:j<lo.length:=by rw[OK1.o];exact H
        have cp:j<Y.length:=by rw[OK2.o];exact H
        obtain⟨bl,ol,rfl,cl⟩:=(ci.o.below B3.o (Zb _)).cell j co;obtain⟨bh,oh,rfl,ch⟩:=(cj.o.below B3.o (Zb _)).cell j cp;obtain⟨x,hx⟩:=Zx (N.fld a);obtain⟨xl,aj⟩:=Zx (aF lo j);obtain⟨xh,ak⟩:=Zx (aF Y j);have ca:=(bs.o.next B3.o).cell a (N.cell_fld _ a ac);have cm:=B2.o.cell a (aE.cell_fld _ _ a ac);have fm:=B2.o.free a;rw[<-hx]at ca;rw[<-aj]at cl;rw[<-ak]at ch;have HX:=Za hx;have cu:=Za aj;have cv:=Za ak;have ad:=Za (show bX.fits ⟨rk,word,ats,lo,Y⟩ N j=(decide (xl<=x)&&decide (x<=xh)) by
         simp only[bX.fits];rw[bt.o,<-hx,aj,ak,aF,aF])
        clear ha hF ac hx aj ak;go_wp2_with fail;refine(HF.o _ _).mono ?_;rintro e w' ⟨rfl,rfl⟩;by_cases q1:x<xl
        ·have C:Hid (cD deep left (.mk N body)=none):=Za (by
          rw[A.o,G.o,iL,wU _ N _ j H (by rw[ad.o,decide_eq_false (by omega)];rfl)];rfl)
         go_wp2;go_ret;rw[HN.o]at C;exact mN C.o (E.o.next B3.o).left (E.o.next B3.o).mv
        ·by_cases q2:xh<x
         ·have C:Hid (cD deep left (.mk N body)=none):=Za (by
           rw[A.o,G.o,iL,wU _ N _ j H (by rw[ad.o,decide_eq_false (show ¬x<=xh by omega),Bool.and_false])];rfl)
          go_wp2;go_ret;rw[HN.o]at C;exact mN C.o (E.o.next B3.o).left (E.o.next B3.o).mv
         ·have bu:Hid (bX.fitsTo ⟨rk,word,ats,lo,Y⟩ N (j+1)=true):=Za (by
           rw[bX.fitsTo,ai.o,ad.o,decide_eq_true (show xl<=x by omega),decide_eq_true (show x<=xh by omega)];rfl)
          go_wp2_with fail;refine(HF.o _ _).mono ?_;rintro e w' ⟨rfl,rfl⟩;go_wp2;go_roundw
          case rel=>
           refine⟨j+1,by omega,by go_num,bu,B1.o.other (by simp) _,?_,B3.o.setCell (p:=⟨w3.heap.size+1,a,none⟩) (by simp) _⟩;have:=B2.o.set a (.int .i64 x);rw[aE.cell_put _ _ a x cn.o]at this;rw[bX.made];simp only;rw[bt.o,<-HX.o];exact this
          case measure=>simp[intOf];omega
       ·obtain rfl:j=ats.length:=by omega
        have B4:=Za (bs.o.next B3.o);rw[HN.o]at B4;obtain⟨M,hM⟩:=Zx (bX.made ⟨rk,word,ats,lo,Y⟩ N ats.length);rw[<-hM]at B2;have HM:=Za hM;clear hM;obtain⟨m0,m1,m2,m3,m4,m5,m6,m7⟩:=M;have e0:=B4.o.cell 0 rfl;have e1:=B4.o.cell 1 rfl;have e2:=B4.o.cell 2 rfl;have e3:=B4.o.cell 3 rfl;have e4:=B4.o.cell 4 rfl;have e5:=B4.o.cell 5 rfl;have e6:=B4.o.cell 6 rfl;have e7:=B4.o.cell 7 rfl;have e8:=B4.o.cell 8 rfl;have g0:=B2.o.cell 0 rfl;have g1:=B2.o.cell 1 rfl;have g2:=B2.o.cell 2 rfl;have g3:=B2.o.cell 3 rfl;have g4:=B2.o.cell 4 rfl;have g5:=B2.o.cell 5 rfl;have g6:=B2.o.cell 6 rfl;have g7:=B2.o.cell 7 rfl;have g8:=B2.o.cell 8 rfl;simp only[aE.cells,Zk,Zi,Zj]at e0 e1 e2 e3 e4 e5 e6 e7 e8 g0 g1 g2 g3 g4 g5 g6 g7 g8;clear d2 d3 d4;by_cases O:body.length=0
        ·have cq:((body.length:Int)==0)=true:=vQ _ O;have cr:=Za O;clear O;go_wp2_with(go_at_call 189;refine(FK ⟨rk,k1,k2,k3,k4,k5,k6,k7⟩ ⟨m0,m1,m2,m3,m4,m5,m6,m7⟩ _ _ _).mono ?_;rintro e w6 ⟨rfl,bw⟩;refine aD ?_);refine aC ?_;have al:=Za ((E.o.next B3.o).next bw);clear bw;cases hp:gA ⟨rk,k1,k2,k3,k4,k5,k6,k7⟩ ⟨m0,m1,m2,m3,m4,m5,m6,m7⟩with
         |false=>
          have C:Hid (cD deep left (.mk N body)=none):=Za (by
           rw[A.o,G.o,iL,ai.o,<-HM.o,HN.o,hp,Bool.and_false];rfl)
          clear hp;go_wp2;go_ret;rw[HN.o]at C;exact mN C.o al.o.left al.o.mv
         |true=>
          have C:Hid (cD deep left (.mk N body)=some (left-1)):=Za (by
           rw[A.o,G.o,iL,ai.o,<-HM.o,HN.o,hp,decide_eq_true cr.o];rfl)
          clear hp;go_wp2;go_ret;rw[HN.o]at C;exact BJ C.o (by omega) al.o.left al.o.mv
        ·have cq:((body.length:Int)==0)=false:=xA _ O;have C:Hid (cD deep left (.mk N body)=none):=Za (by
          rw[A.o,G.o,iL,ai.o,decide_eq_false O];rfl)
         clear O;go_wp2;go_ret;rw[HN.o]at C;exact mN C.o (E.o.next B3.o).left (E.o.next B3.o).mv
     ·have bx:Hid (∀j (J:j<k+1) (h:j<bJ.length),bJ[j].kind≠k0):=Za (fun j J h=>by
       rcases Nat.lt_succ_iff_lt_or_eq.1 J with h'|rfl
       ·exact af.o j h' h
       ·rw[<-az.o];exact ah)
      go_wp2;go_roundw
      case rel=>exact⟨k+1,by omega,by go_num,bx,E.o.next ((Zc _ _).alloc (Zb _) _)⟩
      case measure=>simp[intOf];omega
    ·obtain rfl:k=12:=by omega
     have Z:fJ ⟨k0,k1,k2,k3,k4,k5,k6,k7⟩ body=false:=by rw[fJ,cP,JC k0 bJ (fun j J=>af.o j J J)]
     have G:=Za (show cD deep left (.mk ⟨k0,k1,k2,k3,k4,k5,k6,k7⟩ body)=none by rw[A.o,Z];rfl);clear Z;go_wp2;go_ret;exact mN G.o E.o.left E.o.mv
theorem OW:∀l,tW l:=aB.ind OI
theorem MJ (ls:List aB) (deep:Nat) (left:Int) (L:Nat) (v:Value) (w:World) (hr:bO w v ls) (hl:ls.length<=140737488351232) (hd:deep<=4) (A:0<=left/\left<=64) (B:aA w L 3 #[.int .i64 left]):
  Calls Tryz.prog 140 #[v,.int .i64 deep,.pointer (some ⟨L,0,none⟩)] w (pD L (bS deep left ls) w):=
 FP ls (fun l _=>OW l) deep left L v w hr hl hd A B
