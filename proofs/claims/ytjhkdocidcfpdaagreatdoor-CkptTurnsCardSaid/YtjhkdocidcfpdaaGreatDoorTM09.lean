/-
  A part of the proof of a law (packed by program).
-/
import Derived.Test.YtjhkdocidcfpdaaGreatDoorTM06
set_option linter.unusedVariables false
set_option linter.unusedSimpArgs false
set_option maxRecDepth 100000
set_option maxHeartbeats 16000000
open List renaming getElem_cons_zero → Zi, getElem_cons_succ → Zj, getElem_toArray → Zk
namespace Go.Proofs.YtjhkdocidcfpdaaGreatDoor
open Go.RowKit Go.Shelf Go
def nZ (L:Nat) (res:Option Int) (w:World) (e:Ending) (w':World):Prop:=
 e=.returned (.bool res.isSome)∧(∃k,aA w' L 3 #[.int .i64 k]∧∀j,res=some j→k=j∧0≤j∧j≤64)∧aZ w w' L
def sL (l:aB):Prop:=∀(deep:Nat) (left:Int) (L:Nat) (v:Value) (w:World),bF w v l.body→l.body.length≤140737488351232→deep≤4→0≤left∧left≤64→aA w L 3 #[.int .i64 left]→
 Calls Tryz.prog 170 #[.agg (l.n.cells v).toArray,.int .i64 deep,.pointer (some ⟨L,0,none⟩)] w (nZ L (bY deep left l) w)
theorem GF {w:World} {b off i L:Nat} {c:Int} {n:aG} {v:Value} (h:∀j u,(n.cells v)[j]?=some u→w.cell? ⟨b,off+i*9+j,none⟩=some u) (hbx:aA w L 3 #[.int .i64 c]):b≠L:=by intro e;subst e;have:=h 8 v rfl;rw[cell_of_row w b _ _ 3 (0,0) hbx]at this;simp at this
theorem S8 {w w':World} {L b o:Nat} {u:Value} (hm:aZ w w' L) (h:w.cell? ⟨b,o,none⟩=some u) (hb:b≠L):w'.cell? ⟨b,o,none⟩=some u:=
 (World.cell?_of_block (w:=w) (a:=⟨b,o,none⟩) (hm.block b (aP h) (fun e=>hb (by cases e;rfl)))).trans h
mutual
theorem fH.moved {w w':World} {L:Nat} {c:Int} (hm:aZ w w' L) (hbx:aA w L 3 #[.int .i64 c]):∀(l:aB) {o:Option Addr} {i:Nat},fH w o i l→fH w' o i l
 |.mk n body,o,i,h=>by
  rw[fH]at h ⊢;obtain⟨b,off,ob,cb,rfl,hlim,hc,hl⟩:=h;have hne:=GF hc hbx;exact⟨b,off,ob,cb,rfl,hlim,fun j u hj=>S8 hm (hc j u hj) hne,cO.moved hm hbx body hl⟩
theorem cO.moved {w w':World} {L:Nat} {c:Int} (hm:aZ w w' L) (hbx:aA w L 3 #[.int .i64 c]):∀(ls:List aB) {o:Option Addr} {i:Nat},cO w o i ls→cO w' o i ls
 |[],o,i,_=>by rw[cO];trivial
 |l::r,o,i,h=>by
  rw[cO]at h ⊢;exact⟨fH.moved hm hbx l h.1,cO.moved hm hbx r h.2⟩
end
theorem bF.moved {w w':World} {L:Nat} {c:Int} {v:Value} {ls:List aB} (h:bF w v ls) (hm:aZ w w' L) (hbx:aA w L 3 #[.int .i64 c]):bF w' v ls:=by obtain⟨o,cap,rfl,h⟩:=h;exact⟨o,cap,rfl,cO.moved hm hbx ls h⟩
theorem qG (deep:Nat) (left:Int) (l:aB) (r:List aB):bQ deep left (l::r)=(bY deep left l).bind fun k=>bQ deep k r:=by rw[bQ];cases bY deep left l<;>rfl
theorem BA (deep:Nat) (left:Int) (ls:List aB):∀(k:Nat) (hk:k<ls.length),bQ deep left (ls.take (k+1))=(bQ deep left (ls.take k)).bind fun j=>bY deep j ls[k]:=by
 induction ls generalizing left with
 |nil=>intro k hk;simp at hk
 |cons l r ih=>
  intro k hk;cases k with
  |zero=>
   rw[List.take_succ_cons,List.take_zero,List.take_zero,qG,bQ]
   show _=bY deep left l
   cases bY deep left l with
   |none=>rfl
   |some j=>simp[bQ]
  |succ k=>
   rw[List.take_succ_cons,qG,List.take_succ_cons,qG];cases bY deep left l with
   |none=>rfl
   |some j=>exact ih j k (by simpa using hk)
theorem IN (deep:Nat) (left:Int) (ls:List aB) (k:Nat) (h:bQ deep left (ls.take k)=none):bQ deep left ls=none:=by
 induction ls generalizing left k with
 |nil=>simp[bQ]at h
 |cons l r ih=>
  cases k with
  |zero=>simp[bQ]at h
  |succ k=>
   rw[List.take_succ_cons,qG]at h;rw[qG];cases hl:bY deep left l with
   |none=>rfl
   |some j=>
    rw[hl]at h;exact ih j k h
theorem AB (ls:List aB) (hall:∀l∈ls,sL l) (deep:Nat) (left:Int) (L:Nat) (v:Value) (w:World) (hr:bF w v ls) (hl:ls.length≤140737488351232) (hd:deep≤4) (hleft:0≤left∧left≤64) (hbx:aA w L 3 #[.int .i64 left]):
  Calls Tryz.prog 140 #[v,.int .i64 deep,.pointer (some ⟨L,0,none⟩)] w (nZ L (bQ deep left ls) w):=by
 have HR:=Za hr;have HBX:=Za hbx;have HALL:=Za hall;obtain⟨o,cap,rfl⟩:=hr.len;clear hr hbx hall;go_enter Tryz.func140,Tryz.ntmps140;go_wp2;go_loopw[11] (fun i wr=>∃(k:Nat) (j:Int),k≤ls.length∧i=.int .i64 k∧Hid (bQ deep left (ls.take k)=some j)∧(0≤j∧j≤64)∧aA wr L 3 #[.int .i64 j]∧aZ w wr L) (fun i _=>ls.length-(intOf i).toNat)
 case atStart=>exact⟨0,left,Ze _,rfl,Za (by rw[List.take_zero,bQ]),hleft,HBX.o,aZ.refl _ _⟩
 case round=>
  obtain⟨k,j,hk,rfl,HJ,hj,hb,hm⟩:=hrel;obtain⟨w3,rfl⟩:∃w3,w3=wr:=⟨_,rfl⟩;have HB:=Za hb;have HM:=Za hm;clear hb hm;by_cases hlt:k<ls.length
  ·obtain⟨b,off,vb,rfl,hc,hlb,hlim⟩:=(HR.o.moved HM.o HBX.o).lay k hlt;have hmem:ls[k]∈ls:=List.getElem_mem hlt;obtain⟨l,hle⟩:∃l,l=ls[k]:=⟨_,rfl⟩;rw[←hle]at hc hlb hlim hmem;have HLE:=Za hle;obtain⟨ob,cb,rfl⟩:=hlb.len;have HLB:=Za hlb;have HA:=Za (HALL.o l hmem);have HL:=Za hlim;obtain⟨⟨k0,k1,k2,k3,k4,k5,k6,k7⟩,body⟩:=l;have c0:=hc 0 _ rfl;have c1:=hc 1 _ rfl;have c2:=hc 2 _ rfl;have c3:=hc 3 _ rfl;have c4:=hc 4 _ rfl;have c5:=hc 5 _ rfl;have c6:=hc 6 _ rfl;have c7:=hc 7 _ rfl;have c8:=hc 8 _ rfl;simp only[aB.n,Nat.add_zero]at c0 c1 c2 c3 c4 c5 c6 c7 c8;clear hc hlb hle hmem hlim;go_wp2_with fail;refine(HA.o deep j L _ _ (HLB.o.below ((Zc _ _).alloc (Zb _) _) (Zb _)) HL.o hd hj (HB.o.below ((Zc _ _).alloc (Zb _) _) HB.o.lt)).mono ?_;rintro e w' ⟨rfl,⟨m,hbm,hmj⟩,hmv⟩;have HMV:=Za (HM.o.trans (((gI ((Zc w3.heap.size w3).alloc (Zb _) _):aZ w3 _ L)).trans hmv));have HBM:=Za hbm;cases hres:bY deep j (.mk ⟨k0,k1,k2,k3,k4,k5,k6,k7⟩ body)with
   |none=>
    have hN:bQ deep left ls=none:=IN deep left ls (k+1) (by rw[BA deep left ls k hlt,HJ.o,←HLE.o];exact hres);have HN:=Za hN;clear hN hres hmj hmv hbm;go_wp2;go_ret;exact⟨by rw[HN.o];rfl,⟨m,HBM.o,fun j h=>by rw[HN.o]at h;cases h⟩,HMV.o⟩
   |some q=>
    obtain⟨rfl,hq⟩:=hmj q hres;have hN:bQ deep left (ls.take (k+1))=some m:=by rw[BA deep left ls k hlt,HJ.o,←HLE.o];exact hres
    have HN:=Za hN;clear hN hres hmj hmv hbm;go_wp2;go_roundw
    case rel=>exact⟨k+1,m,by omega,by go_num,HN,hq,HBM.o,HMV.o⟩
    case measure=>simp[intOf];omega
  ·obtain rfl:k=ls.length:=by omega
   have HN:Hid (bQ deep left ls=some j):=Za (by have:=HJ.o;rwa [List.take_length]at this);go_wp2;go_ret;exact⟨by rw[HN.o];rfl,⟨j,HB.o,fun q h=>by rw[HN.o]at h;cases h;exact⟨rfl,hj⟩⟩,HM.o⟩
structure GAt (w0:World) (L lb rb:Nat) (left:Int) (n:aG) (vb:Value) (W:World):Prop where
 lay:aA W lb 175 (n.cells vb).toArray
 rows:j8 W rb
 left:aA W L 3 #[.int .i64 left]
 mv:aZ w0 W L
 lb:w0.heap.size≤lb
theorem GAt.next {w0 W W':World} {L lb rb:Nat} {left:Int} {n:aG} {vb:Value} (h:GAt w0 L lb rb left n vb W) (hb:Below W.heap.size W W'):GAt w0 L lb rb left n vb W':=
 ⟨h.lay.next hb,h.rows.below hb (Zb _),h.left.next hb,h.mv.trans (gI hb),h.lb⟩
theorem CZ (n:Int):∀(l:List bU) (k:Nat) (hk:k<l.length),(∀j (hj:j<k),l[j].kind≠n)→l[k].kind=n→l.find? (fun r=>r.kind==n)=some l[k]
 |[],k,hk,_,_=>by simp at hk
 |r::l,0,hk,_,h=>by simp at h;simp[h]
 |r::l,k+1,hk,hno,h=>by
  have h0:r.kind≠n:=hno 0 (Nat.succ_pos k);rw[List.find?_cons_of_neg (by simp[h0])];exact CZ n l k (by simpa using hk) (fun j hj=>hno (j+1) (by omega)) h
theorem GU (n:Int) (l:List bU) (h:∀j (hj:j<l.length),l[j].kind≠n):l.find? (fun r=>r.kind==n)=none:=by rw[List.find?_eq_none];intro r hr;obtain⟨i,hi,rfl⟩:=List.mem_iff_getElem.1 hr;simp[h i hi]
theorem aA.new_at {w:World} {T:TypeId} {cs:Array Value} {B:Nat} (h:w.heap.size=B):aA (w.alloc (.cells cs T)) B T cs:=by subst h;exact aA.new w T cs
theorem l0 {L:Nat} {res:Option Int} {w w':World} {k:Int} (h:res=none) (hb:aA w' L 3 #[.int .i64 k]) (hm:aZ w w' L):nZ L res w (.returned (.bool false)) w':=by rw[h];exact⟨rfl,⟨_,hb,fun j hj=>by cases hj⟩,hm⟩
theorem D7 {L:Nat} {res:Option Int} {w w':World} {k:Int} (h:res=some k) (hk:0≤k∧k≤64) (hb:aA w' L 3 #[.int .i64 k]) (hm:aZ w w' L):nZ L res w (.returned (.bool true)) w':=by rw[h];exact⟨rfl,⟨_,hb,fun j hj=>by cases hj;exact⟨rfl,hk⟩⟩,hm⟩
theorem uS:∀r∈bG,r.low.length=r.at_.length∧r.high.length=r.at_.length∧(∀i∈r.at_,1≤i∧i≤7)∧r.at_.length≤5:=by decide
theorem iE.at {w:World} {o:Option Addr} {n cap:Nat} {ats:List Nat} (h:iE w (.slice o n cap) ats) (j:Nat) (hj:j<ats.length):∃b off,o=some ⟨b,off,none⟩∧w.cell? ⟨b,off+j,none⟩=some (.func (.func (lA ats[j])) #[] #[]):=by obtain⟨o',cap',he,h⟩:=h;simp at he;obtain⟨rfl,_,_⟩:=he;exact h j hj
theorem aG.cell_fld (n:aG) (v:Value) (i:Nat) (h:1≤i∧i≤7):((n.cells v).toArray)[i]?=some (.int .i64 (n.fld i)):=by obtain⟨h1,h2⟩:=h;rcases(show i=1∨i=2∨i=3∨i=4∨i=5∨i=6∨i=7 by omega)with rfl|rfl|rfl|rfl|rfl|rfl|rfl<;>rfl
theorem aG.cell_put (n:aG) (v:Value) (i:Nat) (x:Int) (h:1≤i∧i≤7):((n.cells v).toArray).setIfInBounds i (.int .i64 x)=((n.put i x).cells v).toArray:=by obtain⟨h1,h2⟩:=h;rcases(show i=1∨i=2∨i=3∨i=4∨i=5∨i=6∨i=7 by omega)with rfl|rfl|rfl|rfl|rfl|rfl|rfl<;>rfl
theorem vS (r:bU) (n:aG):∀(m j:Nat),j<m→r.fits n j=false→r.fitsTo n m=false
 |0,j,h,_=>absurd h (Nat.not_lt_zero j)
 |m+1,j,h,hf=>by
  rw[bU.fitsTo];rcases Nat.lt_succ_iff_lt_or_eq.1 h with h|rfl
  ·rw[vS r n m j h hf,Bool.false_and]
  ·rw[hf,Bool.and_false]
theorem M6 (n:aG) (body:List aB) (hall:∀l∈body,sL l):sL (.mk n body):=by
 intro deep left L v w hr hl hd hleft hbx;obtain⟨k0,k1,k2,k3,k4,k5,k6,k7⟩:=n;simp only[aB.body]at hr hl;obtain⟨ob,cb,rfl⟩:=hr.len
 show Calls Tryz.prog 170 #[.agg #[.int .i64 k0,.int .i64 k1,.int .i64 k2,.int .i64 k3,.int .i64 k4,.int .i64 k5,.int .i64 k6,.int .i64 k7,.slice ob body.length cb],.int .i64 deep,.pointer (some ⟨L,0,none⟩)] w (nZ L _ w)
 have HALL:=Za hall;have HR:=Za hr;have hL:=hbx.lt;obtain⟨W,hW⟩:∃W,W=(w.setCell ⟨L,0,none⟩ (.int .i64 (left-1))).alloc (.cells #[.int .i64 k0,.int .i64 k1,.int .i64 k2,.int .i64 k3,.int .i64 k4,.int .i64 k5,.int .i64 k6,.int .i64 k7,.slice ob body.length cb] 175):=⟨_,rfl⟩;have hz:(w.setCell ⟨L,0,none⟩ (.int .i64 (left-1))).heap.size=w.heap.size:=by simp
 have hbL:aA W L 3 #[.int .i64 (left-1)]:=by rw[hW];exact(hbx.set 0 _).next ((Zc _ _).alloc (Zb _) _)
 have hbX:aA W w.heap.size 175 (aG.cells ⟨k0,k1,k2,k3,k4,k5,k6,k7⟩ (.slice ob body.length cb)).toArray:=by rw[hW,←hz];exact aA.new _ _ _
 have hmv:aZ w W L:=by rw[hW];exact(uB _ _ _).trans (gI ((Zc _ _).alloc (Zb _) _))
 have hwz:W.heap.size=w.heap.size+1:=by rw[hW];simp
 have HRW:=Za (hr.moved hmv hbx);have HBL:=Za hbL;have HBX:=Za hbX;have HMV:=Za hmv;have cA:=hbx.cell 0 rfl;have fA:=hbx.free 0;have HW:=Za hW;clear hall hr hbL hbX hmv hW hbx;by_cases hlt:left-1<0
 ·have hres:bY deep left (.mk ⟨k0,k1,k2,k3,k4,k5,k6,k7⟩ body)=none:=by rw[bY,decide_eq_true hlt];rfl
  have HRES:=Za hres;clear hres;go_enter Tryz.func170,Tryz.ntmps170;go_wp2;go_ret;rw[←HW.o];exact l0 HRES.o HBL.o HMV.o
 ·have HLT:=Za (decide_eq_false hlt);by_cases hk:k0=13
  ·subst hk;by_cases hd4:deep<4
   ·have hdd:decide ((deep:Int)<4)=true:=decide_eq_true (by omega);go_enter Tryz.func170,Tryz.ntmps170;go_wp2_with(go_at_call 189;rw[←HW.o];refine(ED ⟨13,k1,k2,k3,k4,k5,k6,k7⟩ bM (.slice ob body.length cb) (.slice none 0 0) _).mono ?_;rintro e w2 ⟨rfl,hb2⟩;refine aD ?_);refine aC ?_;have HMV2:=Za (HMV.o.trans (gI hb2));have HBL2:=Za (HBL.o.next hb2);have HBX2:=Za (HBX.o.next hb2);have HRW2:=Za (HRW.o.next hb2);clear hb2;cases hp:gD ⟨13,k1,k2,k3,k4,k5,k6,k7⟩ bM with
    |false=>
     have hres:bY deep left (.mk ⟨13,k1,k2,k3,k4,k5,k6,k7⟩ body)=none:=by rw[bY,HLT.o,decide_eq_true (show(⟨13,k1,k2,k3,k4,k5,k6,k7⟩:aG).kind=13 from rfl),hp,Bool.and_false];rfl
     have HRES:=Za hres;clear hres hp;go_wp2;go_ret;exact l0 HRES.o HBL2.o HMV2.o
    |true=>
     have hres:bY deep left (.mk ⟨13,k1,k2,k3,k4,k5,k6,k7⟩ body)=bQ (deep+1) (left-1) body:=by rw[bY,HLT.o,decide_eq_true (show(⟨13,k1,k2,k3,k4,k5,k6,k7⟩:aG).kind=13 from rfl),hp,decide_eq_true hd4];rfl
     have HRES:=Za hres;clear hres hp;have c8:=HBX2.o.cell 8 rfl;go_wp2_with(go_at_call 140;refine aD ?_);refine aC ?_;refine(AB body HALL.o (deep+1) (left-1) L _ _ HRW2.o hl (by omega) (by omega) HBL2.o).mono ?_;rintro e w3 ⟨rfl,⟨k,hb3,hk3⟩,hm3⟩;have HB3:=Za hb3;have HM3:=Za (HMV2.o.trans hm3);have HK3:=Za hk3;clear hb3 hm3 hk3;cases hg:bQ (deep+1) (left-1) body with
     |none=>
      have HG:=Za (HRES.o.trans hg);clear hg;go_wp2;go_ret;exact l0 HG.o HB3.o HM3.o
     |some j=>
      have HG:=Za (HRES.o.trans hg);have HK:=Za (HK3.o j hg);clear hg;go_wp2;go_ret;obtain⟨rfl,hj⟩:=HK.o;exact D7 HG.o hj HB3.o HM3.o
   ·have hdd:decide ((deep:Int)<4)=false:=decide_eq_false (by omega);have hres:bY deep left (.mk ⟨13,k1,k2,k3,k4,k5,k6,k7⟩ body)=none:=by rw[bY,HLT.o,decide_eq_true (show(⟨13,k1,k2,k3,k4,k5,k6,k7⟩:aG).kind=13 from rfl),decide_eq_false hd4,Bool.false_and];rfl
    have HRES:=Za hres;clear hres;go_enter Tryz.func170,Tryz.ntmps170;go_wp2;go_ret;rw[←HW.o];exact l0 HRES.o HBL.o HMV.o
  ·have hres:bY deep left (.mk ⟨k0,k1,k2,k3,k4,k5,k6,k7⟩ body)=bif eZ ⟨k0,k1,k2,k3,k4,k5,k6,k7⟩ body then some (left-1) else none:=by rw[bY,HLT.o,decide_eq_false (show ¬(⟨k0,k1,k2,k3,k4,k5,k6,k7⟩:aG).kind=13 from hk)];rfl
   have HRES:=Za hres;clear hres;go_enter Tryz.func170,Tryz.ntmps170;go_wp2_with(go_at_call 142;rw[←HW.o];refine(zF _).mono ?_;rintro e w2 ⟨⟨rb,rfl,hrb⟩,hb2⟩;refine aD ?_);refine aC ?_;have HG:=Za (show GAt w L w.heap.size rb (left-1) ⟨k0,k1,k2,k3,k4,k5,k6,k7⟩ (.slice ob body.length cb) w2 from⟨HBX.o.next hb2,hrb,HBL.o.next hb2,HMV.o.trans (gI hb2),Zb _⟩);clear hrb hb2 HW HBL HBX HMV HRW HALL cA fA hwz hz;go_wp2;go_loopw[42] (fun i wr=>∃k:Nat,k≤12∧i=.int .i64 k∧Hid (∀j (hj:j<k) (h:j<bG.length),bG[j].kind≠k0)∧GAt w L w.heap.size rb (left-1) ⟨k0,k1,k2,k3,k4,k5,k6,k7⟩ (.slice ob body.length cb) wr) (fun i _=>12-(intOf i).toNat)
   case atStart=>exact⟨0,Ze _,rfl,Za (fun j hj=>absurd hj (Nat.not_lt_zero j)),HG.o⟩
   case round=>
    obtain⟨k,hk12,rfl,HNO,hg⟩:=hrel;obtain⟨w3,rfl⟩:∃w3,w3=wr:=⟨_,rfl⟩;have HG:=Za hg;clear hg;by_cases hlt12:k<12
    ·have hkl:k<bG.length:=hlt12;obtain⟨va,vl,vh,r0,r1,r2,r3,r4,hfn,hlo,hhi⟩:=HG.o.rows k hkl;have hok:=uS _ (List.getElem_mem hkl);obtain⟨r,hre⟩:∃r,r=bG[k]:=⟨_,rfl⟩;rw[←hre]at r0 r1 hfn hlo hhi hok;obtain⟨ok1,ok2,ok3,ok4⟩:=hok;obtain⟨rk,word,ats,lo,hi⟩:=r;simp only at r0 r1 hfn hlo hhi ok1 ok2 ok3 ok4;have HRE:=Za hre;have HFN:=Za hfn;have HLO:=Za hlo;have HHI:=Za hhi;have OK3:=Za ok3;obtain⟨ofn,cfn,rfl,_⟩:=hfn;obtain⟨olo,clo,rfl⟩:=aU hlo;obtain⟨ohi,chi,rfl⟩:=aU hhi;have OK1:=Za ok1;have OK2:=Za ok2;have x0a:∀o:Obj,(w3.alloc o).cell? ⟨w.heap.size,0,none⟩=some (.int .i64 k0):=fun o=>(HG.o.lay.next ((Zc w3.heap.size w3).alloc (Zb _) o)).cell 0 rfl;clear hre hlo hhi ok1 ok2 ok3;by_cases hkk:rk=k0
     ·have HKK:=Za hkk;have hlf:eZ ⟨k0,k1,k2,k3,k4,k5,k6,k7⟩ body=hZ ⟨rk,word,ats,lo,hi⟩ ⟨k0,k1,k2,k3,k4,k5,k6,k7⟩ body:=by rw[eZ,cQ,CZ k0 bG k hkl (fun j hj=>HNO.o j hj (by omega)) (by rw[←HRE.o];exact hkk),←HRE.o]
      have HLF:=Za hlf;subst hkk;clear hlf;obtain⟨W4,hW4⟩:∃W4,W4=(w3.alloc (.cells #[.int .i64 rk,.string ⟨word.toArray⟩,.slice ofn ats.length cfn,.slice olo lo.length clo,.slice ohi hi.length chi] 219)).alloc (.cells #[.int .i64 0,.int .i64 0,.int .i64 0,.int .i64 0,.int .i64 0,.int .i64 0,.int .i64 0,.int .i64 0,.slice none 0 0] 175):=⟨_,rfl⟩;have b1:aA W4 w3.heap.size 219 #[.int .i64 rk,.string ⟨word.toArray⟩,.slice ofn ats.length cfn,.slice olo lo.length clo,.slice ohi hi.length chi]:=by rw[hW4];exact(aA.new _ _ _).next ((Zc _ _).alloc (Zb _) _)
      have b2:aA W4 (w3.heap.size+1) 175 (bM.cells (.slice none 0 0)).toArray:=by rw[hW4];exact aA.new_at (by simp)
      have b3:Below w3.heap.size w3 W4:=by rw[hW4];exact((Zc _ _).alloc (Zb _) _).alloc (by simp) _
      have HB1:=Za b1;have HB2:=Za b2;have HB3:=Za b3;have HW4:=Za hW4;clear b1 b2 b3 hW4;go_wp2;rw[←HW4.o];obtain⟨N,hN⟩:∃N:aG,N=⟨rk,k1,k2,k3,k4,k5,k6,k7⟩:=⟨_,rfl⟩;rw[←hN]at HG HLF HRES;have HLB:=Za HG.o.lay;have HLZ:=Za HG.o.lay.lt;have HN:=Za hN;clear hN HW4 HNO x0a r0 r1 r2 r3 r4 HKK;go_loopw[54] (fun i wr=>∃j:Nat,j≤ats.length∧i=.int .i64 j∧Hid (bU.fitsTo ⟨rk,word,ats,lo,hi⟩ N j=true)∧aA wr w3.heap.size 219 #[.int .i64 rk,.string ⟨word.toArray⟩,.slice ofn ats.length cfn,.slice olo lo.length clo,.slice ohi hi.length chi]∧aA wr (w3.heap.size+1) 175 ((bU.made ⟨rk,word,ats,lo,hi⟩ N j).cells (.slice none 0 0)).toArray∧Below w3.heap.size w3 wr) (fun i _=>ats.length-(intOf i).toNat)
      case atStart=>exact⟨0,Ze _,rfl,Za rfl,HB1.o,HB2.o,HB3.o⟩
      case round=>
       obtain⟨j,hj,rfl,HFT,hb1,hb2,hb3⟩:=hrel;obtain⟨w5,rfl⟩:∃w5,w5=wr:=⟨_,rfl⟩;have B1:=Za hb1;have B2:=Za hb2;have B3:=Za hb3;have d2:=hb1.cell 2 rfl;have d3:=hb1.cell 3 rfl;have d4:=hb1.cell 4 rfl;clear hb1 hb2 hb3 HB1 HB2 HB3;by_cases hjl:j<ats.length
       ·obtain⟨bf,of_,rfl,cf⟩:=(HFN.o.below B3.o (Zb _)).at j hjl;obtain⟨a,ha⟩:∃a,a=ats[j]:=⟨_,rfl⟩;rw[←ha]at cf;have ha7:=OK3.o a (by rw[ha];exact List.getElem_mem hjl);have HA7:=Za ha7;have HAD:=Za (show ats.getD j 0=a by rw[ha];simp[List.getD_eq_getElem?_getD,hjl]);obtain⟨F,hF⟩:∃F,F=lA a:=⟨_,rfl⟩;have he:∀args w,(callFunc F args).run Tryz.prog w=.ok (.enter F args) w:=by rw[hF];exact wR a
        have HF:=Za (show ∀b w,Calls Tryz.prog F #[.pointer (some ⟨b,0,none⟩)] w fun e w'=>e=.returned (.pointer (some ⟨b,a,none⟩))∧w=w' from fun b w=>by rw[hF];exact uO a ha7 b w);rw[←hF]at cf;have hlj:j<lo.length:=by rw[OK1.o];exact hjl
        have hhj:j<hi.length:=by rw[OK2.o];exact hjl
        obtain⟨bl,ol,rfl,cl⟩:=(HLO.o.below B3.o (Zb _)).cell j hlj;obtain⟨bh,oh,rfl,ch⟩:=(HHI.o.below B3.o (Zb _)).cell j hhj;obtain⟨x,hx⟩:∃x,x=N.fld a:=⟨_,rfl⟩;obtain⟨xl,hxl⟩:∃x,x=aE lo j:=⟨_,rfl⟩;obtain⟨xh,hxh⟩:∃x,x=aE hi j:=⟨_,rfl⟩;have ca:=(HLB.o.next B3.o).cell a (N.cell_fld _ a ha7);have cm:=B2.o.cell a (aG.cell_fld _ _ a ha7);have fm:=B2.o.free a;rw[←hx]at ca;rw[←hxl]at cl;rw[←hxh]at ch;have HX:=Za hx;have HXL:=Za hxl;have HXH:=Za hxh;have HFT1:=Za (show bU.fits ⟨rk,word,ats,lo,hi⟩ N j=(decide (xl≤x)&&decide (x≤xh)) by
         simp only[bU.fits];rw[HAD.o,←hx,hxl,hxh,aE,aE])
        clear ha hF ha7 hx hxl hxh;go_wp2_with fail;refine(HF.o _ _).mono ?_;rintro e w' ⟨rfl,rfl⟩;by_cases q1:x<xl
        ·have HNF:Hid (bY deep left (.mk N body)=none):=Za (by
          rw[HRES.o,HLF.o,hZ,vS _ N _ j hjl (by rw[HFT1.o,decide_eq_false (by omega)];rfl)];rfl)
         go_wp2;go_ret;rw[HN.o]at HNF;exact l0 HNF.o (HG.o.next B3.o).left (HG.o.next B3.o).mv
        ·by_cases q2:xh<x
         ·have HNF:Hid (bY deep left (.mk N body)=none):=Za (by
           rw[HRES.o,HLF.o,hZ,vS _ N _ j hjl (by rw[HFT1.o,decide_eq_false (show ¬x≤xh by omega),Bool.and_false])];rfl)
          go_wp2;go_ret;rw[HN.o]at HNF;exact l0 HNF.o (HG.o.next B3.o).left (HG.o.next B3.o).mv
         ·have HFN2:Hid (bU.fitsTo ⟨rk,word,ats,lo,hi⟩ N (j+1)=true):=Za (by
           rw[bU.fitsTo,HFT.o,HFT1.o,decide_eq_true (show xl≤x by omega),decide_eq_true (show x≤xh by omega)];rfl)
          go_wp2_with fail;refine(HF.o _ _).mono ?_;rintro e w' ⟨rfl,rfl⟩;go_wp2;go_roundw
          case rel=>
           refine⟨j+1,by omega,by go_num,HFN2,B1.o.other (by simp) _,?_,B3.o.setCell (p:=⟨w3.heap.size+1,a,none⟩) (by simp) _⟩;have:=B2.o.set a (.int .i64 x);rw[aG.cell_put _ _ a x HA7.o]at this;rw[bU.made];simp only;rw[HAD.o,←HX.o];exact this
          case measure=>simp[intOf];omega
       ·obtain rfl:j=ats.length:=by omega
        have B4:=Za (HLB.o.next B3.o);rw[HN.o]at B4;obtain⟨M,hM⟩:∃M,M=bU.made ⟨rk,word,ats,lo,hi⟩ N ats.length:=⟨_,rfl⟩;rw[←hM]at B2;have HM:=Za hM;clear hM;obtain⟨m0,m1,m2,m3,m4,m5,m6,m7⟩:=M;have e0:=B4.o.cell 0 rfl;have e1:=B4.o.cell 1 rfl;have e2:=B4.o.cell 2 rfl;have e3:=B4.o.cell 3 rfl;have e4:=B4.o.cell 4 rfl;have e5:=B4.o.cell 5 rfl;have e6:=B4.o.cell 6 rfl;have e7:=B4.o.cell 7 rfl;have e8:=B4.o.cell 8 rfl;have g0:=B2.o.cell 0 rfl;have g1:=B2.o.cell 1 rfl;have g2:=B2.o.cell 2 rfl;have g3:=B2.o.cell 3 rfl;have g4:=B2.o.cell 4 rfl;have g5:=B2.o.cell 5 rfl;have g6:=B2.o.cell 6 rfl;have g7:=B2.o.cell 7 rfl;have g8:=B2.o.cell 8 rfl;simp only[aG.cells,Zk,Zi,Zj]at e0 e1 e2 e3 e4 e5 e6 e7 e8 g0 g1 g2 g3 g4 g5 g6 g7 g8;clear d2 d3 d4;by_cases hbd:body.length=0
        ·have hbb:((body.length:Int)==0)=true:=vJ _ hbd;have HBD:=Za hbd;clear hbd;go_wp2_with(go_at_call 189;refine(ED ⟨rk,k1,k2,k3,k4,k5,k6,k7⟩ ⟨m0,m1,m2,m3,m4,m5,m6,m7⟩ _ _ _).mono ?_;rintro e w6 ⟨rfl,hb6⟩;refine aD ?_);refine aC ?_;have HG6:=Za ((HG.o.next B3.o).next hb6);clear hb6;cases hp:gD ⟨rk,k1,k2,k3,k4,k5,k6,k7⟩ ⟨m0,m1,m2,m3,m4,m5,m6,m7⟩with
         |false=>
          have HNF:Hid (bY deep left (.mk N body)=none):=Za (by
           rw[HRES.o,HLF.o,hZ,HFT.o,←HM.o,HN.o,hp,Bool.and_false];rfl)
          clear hp;go_wp2;go_ret;rw[HN.o]at HNF;exact l0 HNF.o HG6.o.left HG6.o.mv
         |true=>
          have HNF:Hid (bY deep left (.mk N body)=some (left-1)):=Za (by
           rw[HRES.o,HLF.o,hZ,HFT.o,←HM.o,HN.o,hp,decide_eq_true HBD.o];rfl)
          clear hp;go_wp2;go_ret;rw[HN.o]at HNF;exact D7 HNF.o (by omega) HG6.o.left HG6.o.mv
        ·have hbb:((body.length:Int)==0)=false:=tO _ hbd;have HNF:Hid (bY deep left (.mk N body)=none):=Za (by
          rw[HRES.o,HLF.o,hZ,HFT.o,decide_eq_false hbd];rfl)
         clear hbd;go_wp2;go_ret;rw[HN.o]at HNF;exact l0 HNF.o (HG.o.next B3.o).left (HG.o.next B3.o).mv
     ·have HNO2:Hid (∀j (hj:j<k+1) (h:j<bG.length),bG[j].kind≠k0):=Za (fun j hj h=>by
       rcases Nat.lt_succ_iff_lt_or_eq.1 hj with h'|rfl
       ·exact HNO.o j h' h
       ·rw[←HRE.o];exact hkk)
      go_wp2;go_roundw
      case rel=>exact⟨k+1,by omega,by go_num,HNO2,HG.o.next ((Zc _ _).alloc (Zb _) _)⟩
      case measure=>simp[intOf];omega
    ·obtain rfl:k=12:=by omega
     have hlf:eZ ⟨k0,k1,k2,k3,k4,k5,k6,k7⟩ body=false:=by rw[eZ,cQ,GU k0 bG (fun j hj=>HNO.o j hj hj)]
     have HLF:=Za (show bY deep left (.mk ⟨k0,k1,k2,k3,k4,k5,k6,k7⟩ body)=none by rw[HRES.o,hlf];rfl);clear hlf;go_wp2;go_ret;exact l0 HLF.o HG.o.left HG.o.mv
theorem P2:∀l,sL l:=aB.ind M6
theorem OG (ls:List aB) (deep:Nat) (left:Int) (L:Nat) (v:Value) (w:World) (hr:bF w v ls) (hl:ls.length≤140737488351232) (hd:deep≤4) (hleft:0≤left∧left≤64) (hbx:aA w L 3 #[.int .i64 left]):
  Calls Tryz.prog 140 #[v,.int .i64 deep,.pointer (some ⟨L,0,none⟩)] w (nZ L (bQ deep left ls) w):=
 AB ls (fun l _=>P2 l) deep left L v w hr hl hd hleft hbx
structure eJ (w:World) (vi vl:Value) (d:bE):Prop where
 input:Rd w .i64 vi d.input
 lays:bF w vl d.lays
 lim1:d.input.length≤140737488351232
 lim2:d.lays.length≤140737488351232
theorem eJ.next {w w':World} {vi vl:Value} {d:bE} (h:eJ w vi vl d) (hb:Below w.heap.size w w'):eJ w' vi vl d:=⟨h.input.below hb (Zb _),h.lays.next hb,h.lim1,h.lim2⟩
theorem wW (vi vl:Value) (d:bE) (w:World) (h:eJ w vi vl d):
  Calls Tryz.prog 99 #[.agg #[vi,vl,.int .i64 d.loss]] w fun e w'=>e=.returned (.bool (dL d))∧Below w.heap.size w w':=by
 obtain⟨input,lays,loss⟩:=d;have HI:=Za h.input;have HL:=Za h.lays;have hl1:=h.lim1;have HL2:=Za h.lim2;obtain⟨oi,ci,rfl⟩:=aU h.input;obtain⟨ol,cl,rfl⟩:=h.lays.len;clear h;simp only at HI HL hl1 HL2 ⊢;by_cases hn:1≤input.length∧input.length≤3
 ·obtain⟨hn1,hn3⟩:=hn;cases hls:kG loss with
  |false=>
   have HG:=Za (show dL ⟨input,lays,loss⟩=false by rw[dL,hls,Bool.and_false];rfl);have h1:¬loss=1:=by intro e;subst e;simp[kG]at hls
   have h2:¬loss=2:=by intro e;subst e;simp[kG]at hls
   have b1:(loss != 1)=true:=by simpa using h1
   have b2:(loss != 2)=true:=by simpa using h2
   clear hls h1 h2;go_enter Tryz.func99,Tryz.ntmps99;go_wp2
   all_goals
    go_ret;exact⟨aF HG.o.symm,(Zc _ _).alloc (Zb _) _⟩
  |true=>
   have HLS:=Za hls;have h12:loss=1∨loss=2:=by simpa [kG]using hls
   clear hls;obtain⟨W,hW⟩:∃W,W=w.alloc (.cells #[.slice oi input.length ci,.slice ol lays.length cl,.int .i64 loss] 33):=⟨_,rfl⟩;have hbx:aA W w.heap.size 33 #[.slice oi input.length ci,.slice ol lays.length cl,.int .i64 loss]:=by rw[hW];exact aA.new _ _ _
   have hB:Below w.heap.size w W:=by rw[hW];exact(Zc _ _).alloc (Zb _) _
   have HBX:=Za hbx;have HB:=Za hB;have HW:=Za hW;have c0:=hbx.cell 0 rfl;have c1:=hbx.cell 1 rfl;clear hW hbx hB;obtain⟨gd,hgd⟩:∃gd,gd=dL ⟨input,lays,loss⟩:=⟨_,rfl⟩;have HGF:=Za (show input.all bW=false→gd=false from fun h=>by rw[hgd,dL,lR,h,Bool.and_false];rfl);have HGT:=Za (show input.all bW=true→gd=(bQ 0 64 lays).isSome from fun h=>by rw[hgd,dL,lR,h,HLS.o,decide_eq_true hn1,decide_eq_true hn3];rfl);rw[←hgd];clear hgd HLS;have main:Calls Tryz.prog 99 #[.agg #[.slice oi input.length ci,.slice ol lays.length cl,.int .i64 loss]] w fun e w'=>e=.returned (.bool gd)∧Below w.heap.size w w':=by
    rcases h12 with rfl|rfl
    all_goals
     go_enter Tryz.func99,Tryz.ntmps99;go_wp2;rw[←HW.o];go_loopw[29] (fun i wr=>∃k:Nat,k≤input.length∧i=.int .i64 k∧Hid ((input.take k).all bW=true)∧wr=W) (fun i _=>input.length-(intOf i).toNat)
     case atStart=>exact⟨0,Ze _,rfl,Za rfl,rfl⟩
     case round=>
      obtain⟨k,hk,rfl,HA,rfl⟩:=hrel;by_cases hlt:k<input.length
      ·obtain⟨b,off,rfl,hc⟩:=(HI.o.below HB.o (Zb _)).cell k hlt;cases hd:bW (aE input k)with
       |false=>
        have HG:=Za (HGF.o (nE _ _ k hlt hd));have hdd:=(tB _).1 hd;clear hd;rcases hdd with h1|h1
        ·go_wp2;go_ret;exact⟨aF HG.o.symm,HB.o⟩
        ·have h0:¬aE input k<1:=by omega
         go_wp2;go_ret;exact⟨aF HG.o.symm,HB.o⟩
       |true=>
        have HA2:=Za (show(input.take (k+1)).all bW=true by rw[oE _ _ _ hlt,HA.o,hd];rfl);obtain⟨hd1,hd2⟩:=(lG _).1 hd;clear hd;go_wp2;go_roundw
        case rel=>exact⟨k+1,by omega,by go_num,HA2,by first|trivial|rfl⟩
        case measure=>simp[intOf];omega
      ·obtain rfl:k=input.length:=by omega
       have HA2:=Za (show input.all bW=true by rw[←List.take_length (l:=input)];exact HA.o);have HG:=Za (HGT.o HA2.o);have c1a:=fun o:Obj=>(HBX.o.next ((Zc _ _).alloc (Zb _) o)).cell 1 rfl;simp only[Zk,Zi,Zj]at c1a;go_wp2_with fail;refine(OG lays 0 64 _ _ _ ((HL.o.next HB.o).next ((Zc _ _).alloc (Zb _) _)) HL2.o (by omega) (by omega) (aA.new _ _ _)).mono ?_;rintro e w3 ⟨rfl,_,hm⟩;have HM:=Za (HB.o.trans ((((Zc w.heap.size _).alloc HB.o.size _)).trans (hm.below HB.o.size (by have:=HB.o.size;simp;omega))));clear hm;go_wp2;go_ret;exact⟨aF HG.o.symm,HM.o⟩
   exact main
 ·have HG:=Za (show dL ⟨input,lays,loss⟩=false by rw[dL,lR];simp;omega);have h2:input.length<1∨3<input.length:=by omega
  clear hn;rcases h2 with h2|h2
  all_goals
   go_enter Tryz.func99,Tryz.ntmps99;go_wp2;go_ret;exact⟨aF HG.o.symm,(Zc _ _).alloc (Zb _) _⟩
section
variable {F:Fence} {n:Nat} {P:Program}
theorem GH {α:Type} {ik:Obj→Prop} {g:Operand} {ps:Array Tmp} {assign body:Code} {Q:Exit→Act→World→Prop} {a:Act} {w:World}
  (hro:F.round=none) (h1:1≤n) {gf:Nat} {lb:Array Value} (hg:a.eval g=.func (.func gf) #[] lb) (hFg:F.fn gf) (eg:∀args w,(callFunc gf args).run P w=.ok (.enter gf args) w)
  {encs:α→Array Value} {Rdy:List α→α→World→Prop} {Kp:World→World→Prop} {S Sp:List α→Prop} {w0:World} (hseq:SeqR ik F (n-1) P gf lb encs Rdy Kp S Sp w0)
  (hil:∀r,¬ik (.loop r)) (hid:∀d,¬ik (.deferred d))
  (hKt:∀{A B C:World},Kp A B→Kp B C→Kp A C) (hKb:∀(W:World) (l:Nat) (o o':Obj),w.heap.size≤l→W.heap[l]?=some o→o.isCells=false→o.isWalk=false→Kp W (W.putObj l o')) (hb0:Below w0.heap.size w0 w) (hps:∀x,(encs x).size=ps.size)
  (I:List α→World→Prop) (Ix:Code→List α→World→Prop) (hI:kY ik w.heap.size I) (hIx:∀c,kY ik w.heap.size (Ix c)) (h0:I [] w) (Ax:List α→α→Act→World→Prop) (hAx:∀p x a',kY (fun _=>False) w.heap.size (fun(_:Unit) W=>Ax p x a' W))
  (hassign:∀(l:Nat) (pre:List α) (x:α) (W:World) (K:Act→World→Prop),I pre W→Rdy pre x W→(∀a' W',KeepsFrom w.heap.size W W'→Kp W W'→I pre W'→Ax pre x a' W'→K a' W')→
   assign.wpIn (F.inRound l) (n-1-1) P (Exit.then K (fun _ _ _=>False)) {tmps:=(ps.zip (encs x)).foldl (fun t (p,v)=>t.setIfInBounds p v) a.tmps,defers:=[]} W)
  (hbody:∀(l:Nat) (pre:List α) (x:α) (a':Act) (W:World),I pre W→Ax pre x a' W→body.wpIn (F.inRound l) (n-1-1) P (ownPostG w.heap.size Kp I Ix (pre++[x]) W) a' W)
  (hdone:∀(D:Nat) (xs:List α) (W:World),w.heap.size≤D→S xs→I xs W→W.heap[D]?=some (.deferred (some []))→Q .normal {a with defers:={target:=.collected D,args:=#[]}::a.defers} W)
  (hstop:∀(D:Nat) (c:Code) (pre:List α) (W:World),w.heap.size≤D→Sp pre→Ix c pre W→W.heap[D]?=some (.deferred (some []))→c.wpIn F n P Q {a with defers:={target:=.collected D,args:=#[]}::a.defers} W):
  (Code.rangeFunc g ps assign body).wpIn F n P Q a w:=by
 refine wpIn_rangeFunc ?_;intro fn hfn;rw[hro];obtain⟨rec,hrec⟩:∃rec:LoopState→Option Code→Loop,rec=fun st pe=>{state:=st,pending:=pe,fn,tmps:=a.tmps,params:=ps,assign,body,defers:=w.heap.size}:=⟨_,rfl⟩;obtain⟨L,hL⟩:∃L,L=w.heap.size+1:=⟨_,rfl⟩;obtain⟨D,hD⟩:∃D,D=w.heap.size:=⟨_,rfl⟩;obtain⟨W1,hW1⟩:∃W1,(w.alloc (.deferred (some []))).alloc (.loop (rec .ready none))=W1:=⟨_,rfl⟩;have hL1:W1.heap[L]?=some (.loop (rec .ready none)):=by
  rw[hL,←hW1];have:=World.alloc_heap_new (w.alloc (.deferred (some []))) (.loop (rec .ready none))
  rwa [World.size_alloc]at this
 have hD1:W1.heap[D]?=some (.deferred (some [])):=by rw[hD,←hW1];exact(Below.heap_alloc _ _ _ (by simp)).trans (World.alloc_heap_new w _)
 have hs1:w.heap.size≤W1.heap.size:=by rw[←hW1];simp;omega
 have hLD:w.heap.size≤L∧w.heap.size≤D∧L≠D:=by omega
 have hrec2:∀{A B:World} {row:Option Nat} {st:LoopState} {pe:Option Code},A.grownBy B row→(∀r,row=some r→W1.heap.size≤r∧∃o:Obj,A.heap[r]?=some o∧ik o)→A.heap[L]?=some (.loop (rec st pe))→A.heap[D]?=some (.deferred (some []))→
   B.heap[L]?=some (.loop (rec st pe))∧B.heap[D]?=some (.deferred (some [])):=fun hg' hr hl hd=>⟨zP hg' hr hl (hil _),zP hg' hr hd (hid _)⟩
 have hrow:∀{A:World} {row:Option Nat},(∀r,row=some r→W1.heap.size≤r∧∃o:Obj,A.heap[r]?=some o∧ik o)→∀r,row=some r→w.heap.size≤r∧∃o:Obj,A.heap[r]?=some o∧(o.isCells=false∨ik o):=
  fun hr r e=>by obtain⟨h2,o,ho,hi⟩:=hr r e;exact⟨by omega,o,ho,.inr hi⟩
 refine⟨L,[{target:=.collected D,args:=#[]}],W1,{target:=.fn (.func gf) lb,args:=#[.func (.yield L) #[] #[]]},W1,gf,#[.func (.yield L) #[] #[]]++lb,W1,?_,?_,?_,?_,fun _=>h1,?_⟩
 ·rw[←hW1,hrec,hL,hD];exact run_enterLoop_outer _ _ _ _ _
 ·simp only[resolve,hg];simp[go_sem]
 ·intro f' hf';simp[Target.leads]at hf';subst hf';exact hFg
 ·simp[invoke,go_sem,eg]
 have hcall:=hseq L (fun pre W=>I pre W∧W.heap[L]?=some (.loop (rec .ready none))∧W.heap[D]?=some (.deferred (some [])))
  (fun pre W=>∃c,Ix c pre W∧W.heap[L]?=some (.loop (rec .done (some c)))∧W.heap[D]?=some (.deferred (some []))) W1
  (by rw[←hW1];exact hb0.trans ((((Zc _ w).alloc (Zb _) _).alloc (by simp) _).mono hb0.size))
  (fun s A B row hs hg' hr=>⟨hI s A B row hs.1 hg' (hrow hr),hrec2 hg' hr hs.2.1 hs.2.2⟩)
  (fun s A B row hs hg' hr=>by obtain⟨c,hc,hl,hd⟩:=hs;exact⟨c,hIx c s A B row hc hg' (hrow hr),hrec2 hg' hr hl hd⟩)
  ?round ⟨by rw[←hW1];exact hI.alloc _ (hI.alloc _ h0),hL1,hD1⟩
 case round=>
  rintro pre x W ⟨hi,hl,hd⟩ hx;have hlt:L<W.heap.size:=(Array.getElem?_eq_some_iff.1 hl).1;have hy:=run_yield (P:=P) (args:=encs x) hl (by rw[hrec];exact hps x);rw[hrec]at hy;refine⟨fn,_,assign,body,hy,roundIn_of_wpIn hfn (hassign _ pre x W _ hi hx ?_)⟩;clear hy;intro a' Wa hka hkpa hia hax;have hla:=hka.same _ _ hLD.1 hl rfl;have hda:=hka.same _ _ hLD.2.1 hd rfl;have hlta:L<Wa.heap.size:=(Array.getElem?_eq_some_iff.1 hla).1;refine⟨_,run_beginRound hla (by rw[hrec]),?_⟩;obtain⟨busy,hbusy⟩:∃busy:Loop,busy={rec .ready none with state:=.busy}:=⟨_,rfl⟩;rw[←hbusy];have hl2:(Wa.putObj L (.loop busy)).heap[L]?=some (.loop busy):=World.putObj_heap_same hlta;have hd2:(Wa.putObj L (.loop busy)).heap[D]?=some (.deferred (some [])):=(World.putObj_heap_other hLD.2.2.symm).trans hda;refine wpIn_mono (hbody _ pre x a' _ (hI.put _ hia hLD.1 hla rfl) ((hAx pre x a').put (s:=()) _ hax hLD.1 hla rfl)) ?_;have fin:∀(jump:Option Code) (W3:World),KeepsFrom w.heap.size (Wa.putObj L (.loop busy)) W3→
    (Instr.endRound L jump).run P W3=.ok (.bool jump.isNone) (W3.putObj L (.loop (rec (if jump.isNone then .ready else .done) jump)))∧
    W3.heap[L]?=some (.loop busy)∧
    (W3.putObj L (.loop (rec (if jump.isNone then .ready else .done) jump))).heap[L]?=some (.loop (rec (if jump.isNone then .ready else .done) jump))∧
    (W3.putObj L (.loop (rec (if jump.isNone then .ready else .done) jump))).heap[D]?=some (.deferred (some [])):=fun jump W3 hk=>by
   have hl3:=hk.same _ _ hLD.1 hl2 rfl;have he:=run_endRound (P:=P) jump hl3;rw[hbusy,hrec]at he;rw[hrec]at*;exact⟨he,hl3,World.putObj_heap_same (Array.getElem?_eq_some_iff.1 hl3).1,(World.putObj_heap_other hLD.2.2.symm).trans (hk.same _ _ hLD.2.1 hd2 rfl)⟩
  rintro e a3 W3 hp;have out:∀c,KeepsFrom w.heap.size (Wa.putObj L (.loop busy)) W3→Ix c (pre++[x]) W3→∃v W4,(Instr.endRound L (some c)).run P W3=.ok v W4∧(((Ending.returned v=.returned (.bool true)∧(I (pre++[x]) W4∧W4.heap[L]?=some (.loop (rec .ready none))∧W4.heap[D]?=some (.deferred (some [])))∧Kp W W4))∨
    (Ending.returned v=.returned (.bool false)∧∃c,Ix c (pre++[x]) W4∧W4.heap[L]?=some (.loop (rec .done (some c)))∧W4.heap[D]?=some (.deferred (some [])))):=fun c hk3 hi3=>by
   obtain⟨hr,hl3,hl4,hd4⟩:=fin (some c) W3 hk3;exact⟨_,_,hr,.inr ⟨rfl,c,(hIx _).put _ hi3 hLD.1 hl3 rfl,hl4,hd4⟩⟩
  cases e with
  |normal=>
   obtain⟨hk3,hkp3,hi3⟩:=hp;obtain⟨hr,hl3,hl4,hd4⟩:=fin none W3 hk3;exact⟨_,_,hr,.inl ⟨rfl,⟨hI.put _ hi3 hLD.1 hl3 rfl,hl4,hd4⟩,hKt hkpa (hKt (hKt (hKb _ _ _ _ hLD.1 hla rfl rfl) hkp3) (hKb _ _ _ _ hLD.1 hl3 rfl rfl))⟩⟩
  |ret=>exact out _ hp.1 hp.2
  |exit id=>exact out _ hp.1 hp.2
  |goto t=>exact out _ hp.1 hp.2
  |panic ch=>exact hp.elim
  |outgrown=>exact hp.elim
 refine hcall.mono ?_;rintro e W2 ⟨⟨v,rfl⟩,(⟨xs,hS,hi,hl,hd⟩|⟨pre,hSp,c,hi,hl,hd⟩)⟩
 ·exact⟨none,_,by have:=run_endLoop (P:=P) hl (by rw[hrec];simp);rw[hrec]at this;exact this,hdone _ xs _ hLD.2.1 hS (hI.put _ hi hLD.1 hl rfl) ((World.putObj_heap_other hLD.2.2.symm).trans hd)⟩
 ·exact⟨some c,_,by have:=run_endLoop (P:=P) hl (by rw[hrec];simp);rw[hrec]at this;exact this,hstop _ c pre _ hLD.2.1 hSp ((hIx c).put _ hi hLD.1 hl rfl) ((World.putObj_heap_other hLD.2.2.symm).trans hd)⟩
end
def yC {β:Type} (sb:Nat) (J:β→World→Prop):Prop:=∀s W W' row,J s W→W.grownBy W' row→(∀r,row=some r→r=sb)→J s W'
def SeqS {α:Type} (sb:Nat) (F:Fence) (n:Nat) (P:Program) (g:Nat) (lb:Array Value) (encs:α→Array Value) (Rdy:List α→α→World→Prop) (Kp:World→World→Prop) (S Sp:List α→Prop) (w:World):Prop:=
 ∀(l:Nat) (J Jx:List α→World→Prop) (W:World),Below w.heap.size w W→yC sb J→yC sb Jx→
  (∀pre x W1,J pre W1→Rdy pre x W1→YieldAt F (n-1) P l (encs x) W1 fun e W'=>
   (e=.returned (.bool true)∧J (pre++[x]) W'∧Kp W1 W')∨(e=.returned (.bool false)∧Jx (pre++[x]) W'))→
  J [] W→
  CallsIn F n P g (#[.func (.yield l) #[] #[]]++lb) W fun e W'=>(∃v,e=.returned v)∧((∃xs,S xs∧J xs W')∨(∃pre,Sp pre∧Jx pre W'))
def lY {β:Type} (sb B:Nat) (I:β→World→Prop):Prop:=
 ∀s W W' row,I s W→W.grownBy W' row→(∀r,row=some r→r=sb∨B≤r∧∃o:Obj,W.heap[r]?=some o∧o.isCells=false)→I s W'
theorem lY.put {β:Type} {sb B:Nat} {I:β→World→Prop} (h:lY sb B I) {s:β} {W:World} {l:Nat} {o:Obj} (o':Obj) (hs:I s W) (hB:B≤l) (hl:W.heap[l]?=some o) (ho:o.isCells=false):I s (W.putObj l o'):=
 h s W _ (some l) hs (grownBy_putObj' W l o') (fun r e=>by cases e;exact .inr ⟨hB,o,hl,ho⟩)
theorem lY.alloc {β:Type} {sb B:Nat} {I:β→World→Prop} (h:lY sb B I) {s:β} {W:World} (o:Obj) (hs:I s W):I s (W.alloc o):=
 h s W _ none hs (World.grownBy_alloc W o none) (fun r e=>by cases e)
section
variable {F:Fence} {n:Nat} {P:Program}
theorem KB {α:Type} {sb:Nat} {g:Operand} {ps:Array Tmp} {assign body:Code} {Q:Exit→Act→World→Prop} {a:Act} {w:World}
  (hro:F.round=none) (h1:1≤n) {gf:Nat} {lb:Array Value} (hg:a.eval g=.func (.func gf) #[] lb) (hFg:F.fn gf) (eg:∀args w,(callFunc gf args).run P w=.ok (.enter gf args) w)
  {encs:α→Array Value} {Rdy:List α→α→World→Prop} {Kp:World→World→Prop} {S Sp:List α→Prop} {w0:World} (hseq:SeqS sb F (n-1) P gf lb encs Rdy Kp S Sp w0)
  (hsb:sb<w.heap.size)
  (hKt:∀{A B C:World},Kp A B→Kp B C→Kp A C) (hKb:∀(W:World) (l:Nat) (o o':Obj),w.heap.size≤l→W.heap[l]?=some o→o.isCells=false→o.isWalk=false→Kp W (W.putObj l o')) (hb0:Below w0.heap.size w0 w) (hps:∀x,(encs x).size=ps.size)
  (I:List α→World→Prop) (Ix:Code→List α→World→Prop) (hI:lY sb w.heap.size I) (hIx:∀c,lY sb w.heap.size (Ix c)) (h0:I [] w) (Ax:List α→α→Act→World→Prop) (hAx:∀p x a',lY sb w.heap.size (fun(_:Unit) W=>Ax p x a' W))
  (hassign:∀(l:Nat) (pre:List α) (x:α) (W:World) (K:Act→World→Prop),I pre W→Rdy pre x W→(∀a' W',KeepsFrom w.heap.size W W'→Kp W W'→I pre W'→Ax pre x a' W'→K a' W')→
   assign.wpIn (F.inRound l) (n-1-1) P (Exit.then K (fun _ _ _=>False)) {tmps:=(ps.zip (encs x)).foldl (fun t (p,v)=>t.setIfInBounds p v) a.tmps,defers:=[]} W)
  (hbody:∀(l:Nat) (pre:List α) (x:α) (a':Act) (W:World),I pre W→Ax pre x a' W→body.wpIn (F.inRound l) (n-1-1) P (ownPostG w.heap.size Kp I Ix (pre++[x]) W) a' W)
  (hdone:∀(D:Nat) (xs:List α) (W:World),w.heap.size≤D→S xs→I xs W→W.heap[D]?=some (.deferred (some []))→Q .normal {a with defers:={target:=.collected D,args:=#[]}::a.defers} W)
  (hstop:∀(D:Nat) (c:Code) (pre:List α) (W:World),w.heap.size≤D→Sp pre→Ix c pre W→W.heap[D]?=some (.deferred (some []))→c.wpIn F n P Q {a with defers:={target:=.collected D,args:=#[]}::a.defers} W):
  (Code.rangeFunc g ps assign body).wpIn F n P Q a w:=by
 refine wpIn_rangeFunc ?_;intro fn hfn;rw[hro];obtain⟨rec,hrec⟩:∃rec:LoopState→Option Code→Loop,rec=fun st pe=>{state:=st,pending:=pe,fn,tmps:=a.tmps,params:=ps,assign,body,defers:=w.heap.size}:=⟨_,rfl⟩;obtain⟨L,hL⟩:∃L,L=w.heap.size+1:=⟨_,rfl⟩;obtain⟨D,hD⟩:∃D,D=w.heap.size:=⟨_,rfl⟩;obtain⟨W1,hW1⟩:∃W1,(w.alloc (.deferred (some []))).alloc (.loop (rec .ready none))=W1:=⟨_,rfl⟩;have hL1:W1.heap[L]?=some (.loop (rec .ready none)):=by
  rw[hL,←hW1];have:=World.alloc_heap_new (w.alloc (.deferred (some []))) (.loop (rec .ready none))
  rwa [World.size_alloc]at this
 have hD1:W1.heap[D]?=some (.deferred (some [])):=by rw[hD,←hW1];exact(Below.heap_alloc _ _ _ (by simp)).trans (World.alloc_heap_new w _)
 have hs1:w.heap.size≤W1.heap.size:=by rw[←hW1];simp;omega
 have hLD:w.heap.size≤L∧w.heap.size≤D∧L≠D:=by omega
 have hrec2:∀{A B:World} {row:Option Nat} {st:LoopState} {pe:Option Code},A.grownBy B row→(∀r,row=some r→r=sb)→A.heap[L]?=some (.loop (rec st pe))→A.heap[D]?=some (.deferred (some []))→
   B.heap[L]?=some (.loop (rec st pe))∧B.heap[D]?=some (.deferred (some [])):=fun hg' hr hl hd=>⟨(hg'.block L (Array.getElem?_eq_some_iff.1 hl).1 (fun e=>by have:=hr _ e.symm;omega)).trans hl,(hg'.block D (Array.getElem?_eq_some_iff.1 hd).1 (fun e=>by have:=hr _ e.symm;omega)).trans hd⟩
 have hrow:∀{A:World} {row:Option Nat},(∀r,row=some r→r=sb)→∀r,row=some r→r=sb∨w.heap.size≤r∧∃o:Obj,A.heap[r]?=some o∧o.isCells=false:=fun hr r e=>.inl (hr r e);refine⟨L,[{target:=.collected D,args:=#[]}],W1,{target:=.fn (.func gf) lb,args:=#[.func (.yield L) #[] #[]]},W1,gf,#[.func (.yield L) #[] #[]]++lb,W1,?_,?_,?_,?_,fun _=>h1,?_⟩
 ·rw[←hW1,hrec,hL,hD];exact run_enterLoop_outer _ _ _ _ _
 ·simp only[resolve,hg];simp[go_sem]
 ·intro f' hf';simp[Target.leads]at hf';subst hf';exact hFg
 ·simp[invoke,go_sem,eg]
 have hcall:=hseq L (fun pre W=>I pre W∧W.heap[L]?=some (.loop (rec .ready none))∧W.heap[D]?=some (.deferred (some [])))
  (fun pre W=>∃c,Ix c pre W∧W.heap[L]?=some (.loop (rec .done (some c)))∧W.heap[D]?=some (.deferred (some []))) W1
  (by rw[←hW1];exact hb0.trans ((((Zc _ w).alloc (Zb _) _).alloc (by simp) _).mono hb0.size))
  (fun s A B row hs hg' hr=>⟨hI s A B row hs.1 hg' (hrow hr),hrec2 hg' hr hs.2.1 hs.2.2⟩)
  (fun s A B row hs hg' hr=>by obtain⟨c,hc,hl,hd⟩:=hs;exact⟨c,hIx c s A B row hc hg' (hrow hr),hrec2 hg' hr hl hd⟩)
  ?round ⟨by rw[←hW1];exact hI.alloc _ (hI.alloc _ h0),hL1,hD1⟩
 case round=>
  rintro pre x W ⟨hi,hl,hd⟩ hx;have hlt:L<W.heap.size:=(Array.getElem?_eq_some_iff.1 hl).1;have hy:=run_yield (P:=P) (args:=encs x) hl (by rw[hrec];exact hps x);rw[hrec]at hy;refine⟨fn,_,assign,body,hy,roundIn_of_wpIn hfn (hassign _ pre x W _ hi hx ?_)⟩;clear hy;intro a' Wa hka hkpa hia hax;have hla:=hka.same _ _ hLD.1 hl rfl;have hda:=hka.same _ _ hLD.2.1 hd rfl;have hlta:L<Wa.heap.size:=(Array.getElem?_eq_some_iff.1 hla).1;refine⟨_,run_beginRound hla (by rw[hrec]),?_⟩;obtain⟨busy,hbusy⟩:∃busy:Loop,busy={rec .ready none with state:=.busy}:=⟨_,rfl⟩;rw[←hbusy];have hl2:(Wa.putObj L (.loop busy)).heap[L]?=some (.loop busy):=World.putObj_heap_same hlta;have hd2:(Wa.putObj L (.loop busy)).heap[D]?=some (.deferred (some [])):=(World.putObj_heap_other hLD.2.2.symm).trans hda;refine wpIn_mono (hbody _ pre x a' _ (hI.put _ hia hLD.1 hla rfl) ((hAx pre x a').put (s:=()) _ hax hLD.1 hla rfl)) ?_;have fin:∀(jump:Option Code) (W3:World),KeepsFrom w.heap.size (Wa.putObj L (.loop busy)) W3→
    (Instr.endRound L jump).run P W3=.ok (.bool jump.isNone) (W3.putObj L (.loop (rec (if jump.isNone then .ready else .done) jump)))∧
    W3.heap[L]?=some (.loop busy)∧
    (W3.putObj L (.loop (rec (if jump.isNone then .ready else .done) jump))).heap[L]?=some (.loop (rec (if jump.isNone then .ready else .done) jump))∧
    (W3.putObj L (.loop (rec (if jump.isNone then .ready else .done) jump))).heap[D]?=some (.deferred (some [])):=fun jump W3 hk=>by
   have hl3:=hk.same _ _ hLD.1 hl2 rfl;have he:=run_endRound (P:=P) jump hl3;rw[hbusy,hrec]at he;rw[hrec]at*;exact⟨he,hl3,World.putObj_heap_same (Array.getElem?_eq_some_iff.1 hl3).1,(World.putObj_heap_other hLD.2.2.symm).trans (hk.same _ _ hLD.2.1 hd2 rfl)⟩
  rintro e a3 W3 hp;have out:∀c,KeepsFrom w.heap.size (Wa.putObj L (.loop busy)) W3→Ix c (pre++[x]) W3→∃v W4,(Instr.endRound L (some c)).run P W3=.ok v W4∧(((Ending.returned v=.returned (.bool true)∧(I (pre++[x]) W4∧W4.heap[L]?=some (.loop (rec .ready none))∧W4.heap[D]?=some (.deferred (some [])))∧Kp W W4))∨
    (Ending.returned v=.returned (.bool false)∧∃c,Ix c (pre++[x]) W4∧W4.heap[L]?=some (.loop (rec .done (some c)))∧W4.heap[D]?=some (.deferred (some [])))):=fun c hk3 hi3=>by
   obtain⟨hr,hl3,hl4,hd4⟩:=fin (some c) W3 hk3;exact⟨_,_,hr,.inr ⟨rfl,c,(hIx _).put _ hi3 hLD.1 hl3 rfl,hl4,hd4⟩⟩
  cases e with
  |normal=>
   obtain⟨hk3,hkp3,hi3⟩:=hp;obtain⟨hr,hl3,hl4,hd4⟩:=fin none W3 hk3;exact⟨_,_,hr,.inl ⟨rfl,⟨hI.put _ hi3 hLD.1 hl3 rfl,hl4,hd4⟩,hKt hkpa (hKt (hKt (hKb _ _ _ _ hLD.1 hla rfl rfl) hkp3) (hKb _ _ _ _ hLD.1 hl3 rfl rfl))⟩⟩
  |ret=>exact out _ hp.1 hp.2
  |exit id=>exact out _ hp.1 hp.2
  |goto t=>exact out _ hp.1 hp.2
  |panic ch=>exact hp.elim
  |outgrown=>exact hp.elim
 refine hcall.mono ?_;rintro e W2 ⟨⟨v,rfl⟩,(⟨xs,hS,hi,hl,hd⟩|⟨pre,hSp,c,hi,hl,hd⟩)⟩
 ·exact⟨none,_,by have:=run_endLoop (P:=P) hl (by rw[hrec];simp);rw[hrec]at this;exact this,hdone _ xs _ hLD.2.1 hS (hI.put _ hi hLD.1 hl rfl) ((World.putObj_heap_other hLD.2.2.symm).trans hd)⟩
 ·exact⟨some c,_,by have:=run_endLoop (P:=P) hl (by rw[hrec];simp);rw[hrec]at this;exact this,hstop _ c pre _ hLD.2.1 hSp ((hIx c).put _ hi hLD.1 hl rfl) ((World.putObj_heap_other hLD.2.2.symm).trans hd)⟩
end
end Go.Proofs.YtjhkdocidcfpdaaGreatDoor
