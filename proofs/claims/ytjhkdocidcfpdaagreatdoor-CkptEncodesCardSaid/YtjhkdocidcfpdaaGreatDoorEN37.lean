/- A part of the proof. -/
import Derived.Test.YtjhkdocidcfpdaaGreatDoorEN28
set_option linter.unusedVariables false
set_option linter.unusedSimpArgs false
set_option maxRecDepth 100000
set_option maxHeartbeats 16000000
open List renaming setIfInBounds_toArray → Zf, set_cons_zero → Zg, set_cons_succ → Zh, getElem_cons_zero → Zi, getElem_cons_succ → Zj, getElem_toArray → Zk
namespace Go.Proofs.YtjhkdocidcfpdaaGreatDoor
open Go.RowKit Go.Shelf Go
def gJ (ts us:List aO):Bool:=ts.all cK&&decide (bK ts=bK us)
theorem N0 {ts us:List aO} (k:Nat) (hk:k<ts.length) (hl:ts.length=us.length) (h:cK (aR ts k)=false\/(aR ts k).sh≠(aR us k).sh):gJ ts us=false:=by
 rw[gJ];rcases h with h|h
 ·have:ts.all cK=false:=by rw[List.all_eq_false];exact⟨aR ts k,jR ts k hk,by simp[h]⟩
  rw[this];rfl
 ·rw[decide_eq_false,Bool.and_false];intro e;have h1:=congrArg (fun l=>l[k]?) e;simp only[bK,List.getElem?_map]at h1;rw[List.getElem?_eq_getElem hk,List.getElem?_eq_getElem (by omega)]at h1;simp only[Option.map_some,Option.some.injEq]at h1;rw[eY _ _ hk,eY _ _ (by omega)]at h;exact h h1
theorem SU {ts us:List aO} (hl:ts.length=us.length) (h:∀k,k<ts.length->cK (aR ts k)=true/\(aR ts k).sh=(aR us k).sh):gJ ts us=true:=by
 rw[gJ,Bool.and_eq_true,decide_eq_true_eq];constructor
 ·rw[List.all_eq_true];intro t ht;obtain⟨k,hk,rfl⟩:=List.getElem_of_mem ht;have:=(h k hk).1
  rwa [eY _ _ hk]at this
 ·apply List.ext_getElem (by simp[bK,hl]);intro k h1 h2;simp only[bK,List.length_map]at h1 h2;have:=(h k h1).2;rw[eY _ _ h1,eY _ _ h2]at this
  simpa [bK]using this
theorem tR (v u:Value) (ts us:List aO) (w:World) (hr:bD w v ts) (L:bD w u us) (hl:eR ts):
  Calls Tryz.prog 58 #[v,u] w fun e w'=>e=.returned (.bool (gJ ts us))/\Below w.heap.size w w':=by
 obtain⟨o,cap,rfl⟩:=hr.slice;obtain⟨o2,cap2,rfl⟩:=L.slice;have HR:=Za hr;have HS:=Za L;obtain⟨ab,O⟩:=hl;have HL:=Za O;clear hr L O;by_cases B:ts.length=us.length
 ·have hb:((ts.length:Int) != us.length)=false:=by simp[B]
  have P:=Za B;clear B;go_enter Tryz.func58,Tryz.ntmps58;go_wp2;go_loopw[5] (fun i wr=>∃k:Nat,k<=ts.length/\i=.int .i64 k/\Hid (∀j,j<k->cK (aR ts j)=true/\(aR ts j).sh=(aR us j).sh)/\Below w.heap.size w wr) (fun i _=>ts.length-(intOf i).toNat)
  case atStart=>exact⟨0,Ze _,rfl,Za (fun j h=>absurd h (Nat.not_lt_zero j)),Zc _ _⟩
  case round=>
   obtain⟨k,hk,rfl,HP,hB⟩:=hrel;obtain⟨w3,rfl⟩:=Zx wr;have M:=Za hB;clear hB;by_cases G:k<ts.length
   ·obtain⟨ba,offa,vs,vd,rfl,a0,a1,L,hd⟩:=(HR.o.below M.o (Zb _)).tens k G;have R:k<us.length:=by rw[<-P.o];exact G
    obtain⟨bb,offb,us',ud,rfl,b0,b1,gs,gd⟩:=(HS.o.below M.o (Zb _)).tens k R;have H:=Za (HL.o _ (jR ts k G));have C:=Za (Zd L (Zd hd gs));have N:=Za (fun h=>N0 k G P.o h);obtain⟨o1,c1,rfl⟩:=aU L;obtain⟨o3,c3,rfl⟩:=aU gs;obtain⟨o4,c4,rfl⟩:=aU hd;clear L hd gs gd;obtain⟨t,ht⟩:=Zx (aR ts k);obtain⟨t2,I⟩:=Zx (aR us k);have HT:=Za (Zd ht I);rw[<-ht,<-I]at N;rw[<-ht]at C H a0 a1;rw[<-I]at C b0;clear ht I b1;have D:=Za (Zd a0 (Zd a1 b0));have A:=Za (show Below w3.heap.size w3 w3.drew from Below.drew (Zc _ _));cases E:cK t with
    |false=>
     have X:=Za (N.o (.inl E));have J:=Za E;clear E;go_wp2_with fail;refine wp_region_held_drew (S:=fun w'=>w'.cell? ⟨ba,offa+k*2,none⟩=some (.slice o1 t.sh.length c1)/\w'.cell? ⟨ba,offa+k*2+1,none⟩=some (.slice o4 t.da.length c4)) (by kernel_rfl) ?_ (fun Y=>?_)
     ·exact⟨aX A.o D.o.1,aX A.o D.o.2.1⟩
     refine tq 0 ?_;refine tq 1 ?_;refine tq 2 ?_;refine tq 3 ?_;refine wpAnyH_ready (rs:=[4]) (by kernel_rfl) (by simp) ?_;refine AllReadyH.cons rfl (fun K hK=>?_) AllReadyH.nil
     go_simp
     go_at_call 112
     refine(BH _ _ t _ (C.o.1.below A.o (Zb _)) (C.o.2.1.below A.o (Zb _)) H.o).mono ?_;rintro e wy ⟨rfl,F⟩;rw[J.o];have A:=Za (A.o.trans (F.mono A.o.size));clear F;go_wp2_with fail;refine hK.out _ _ ⟨aX A.o D.o.1,aX A.o D.o.2.1⟩ (fun V=>?_);clear hK K
     (try simp only[Act.put,Zk,Zi,Zj,Zf,Zg,Zh])
     refine tq 5 ?_;refine tq 6 ?_;refine sq 7 ?_;refine sq 8 ?_;refine sq 9 ?_;refine sq 10 ?_;refine sq 11 ?_;refine sq 12 ?_;refine sq 13 ?_;refine sq 14 ?_;refine sq 15 ?_;refine sq 16 ?_;refine sq 17 ?_;refine sq 18 ?_;refine tq 19 ?_;refine wpAnyH_done (by kernel_rfl) ?_ _;clear a0 a1 b0;go_wp2_with fail;go_ret;exact⟨aG X.o.symm,M.o.trans (A.o.mono M.o.size)⟩
    |true=>
     have J:=Za E;obtain⟨q,hq⟩:=Zx (decide (t.sh=t2.sh));have T:=Za hq;have Z:=Za (fun(W:World) (hv:Rd W .i64 (.slice o1 t.sh.length c1) t.sh) (hu:Rd W .i64 (.slice o3 t2.sh.length c3) t2.sh)=>(show Calls Tryz.prog 94 #[.slice o1 t.sh.length c1,.slice o3 t2.sh.length c3] W (fun e w'=>e=.returned (.bool q)/\aN W w') by rw[hq];exact pI _ _ t.sh t2.sh W hv hu H.o.1));clear E hq;go_wp2_with fail;go_region_held3 (fun w'=>w'.cell? ⟨ba,offa+k*2,none⟩=some (.slice o1 t.sh.length c1)/\w'.cell? ⟨ba,offa+k*2+1,none⟩=some (.slice o4 t.da.length c4)/\w'.cell? ⟨bb,offb+k*2,none⟩=some (.slice o3 t2.sh.length c3))
      (exact⟨aX A.o D.o.1,aX A.o D.o.2.1,aX A.o D.o.2.2⟩)
      (first
      |(go_at_call 112;refine(BH _ _ t _ (C.o.1.below A.o (Zb _)) (C.o.2.1.below A.o (Zb _)) H.o).mono ?_;rintro e wy ⟨rfl,F⟩;rw[J.o];have A:=Za (A.o.trans (F.mono A.o.size));clear F)
      |(go_at_call 94;refine(Z.o _ (C.o.1.below A.o (Zb _)) (C.o.2.2.below A.o (Zb _))).mono ?_;rintro e wz ⟨rfl,U⟩;have A:=Za (A.o.trans ((U.below _).mono A.o.size));clear U))
     clear a0 a1 b0;have HN:=Za (M.o.trans (A.o.mono M.o.size));cases q with
     |true=>
      have aa:=Za (show ∀j,j<k+1->cK (aR ts j)=true/\(aR ts j).sh=(aR us j).sh from fun j hj=>by
       by_cases e:j=k
       ·subst e;rw[<-HT.o.1,<-HT.o.2];exact⟨J.o,of_decide_eq_true T.o.symm⟩
       ·exact HP.o j (by omega))
      go_wp2_with fail;go_roundw
      case rel=>exact⟨k+1,by omega,by go_num,aa,HN.o⟩
      case measure=>simp[intOf];omega
     |false=>
      have X:=Za (N.o (.inr (of_decide_eq_false T.o.symm)));go_wp2_with fail;go_ret;exact⟨aG X.o.symm,HN.o⟩
   ·obtain rfl:k=ts.length:=by omega
    have A:=Za (SU P.o HP.o);go_wp2;go_ret;exact⟨aG A.o.symm,M.o⟩
 ·have hb:((ts.length:Int) != us.length)=true:=by simp;omega
  have P:=Za (show gJ ts us=false by
   rw[gJ,decide_eq_false,Bool.and_false];intro e;have:=congrArg List.length e;simp[bK]at this;exact B this)
  clear B;go_enter Tryz.func58,Tryz.ntmps58;go_wp2;go_ret;exact⟨aG P.o.symm,Zc _ _⟩
def nZ:Nat->Nat
 |0=>0
 |n+1=>64*(1+nZ n)
def qX (ls:List aB):Prop:=∀n:Nat,gC ((n:Int)-1) ls=true->aS ls<=nZ n
theorem OC (n:Nat) (ls:List aB) (A:∀l∈ls,qX l.body) (h:jF ((n+1:Nat)-1:Int) ls=true):aS ls<=ls.length*(1+nZ n):=by
 induction ls with
 |nil=>simp[aS]
 |cons l r ih=>
  rw[jF,Bool.and_eq_true]at h;have h1:=ih (fun x hx=>A x (List.mem_cons_of_mem _ hx)) h.2;have h2:aS l.body<=nZ n:=by
   have B:=h.1;rw[BC,Bool.or_eq_true,decide_eq_true_eq]at B;rcases B with B|B
   ·rw[List.length_eq_zero_iff.1 B,aS];omega
   ·refine A l (by simp) n ?_;rw[show((n+1:Nat)-1:Int)-1=(n:Int)-1 by omega]at B;exact B
  rw[aS,aB.count_eq,List.length_cons,Nat.succ_mul];omega
theorem AY (ls:List aB) (A:∀l∈ls,qX l.body):qX ls:=by
 intro n h;have hh:=h;rw[gC,Bool.and_eq_true,Bool.and_eq_true,decide_eq_true_eq,decide_eq_true_eq]at hh;obtain⟨⟨h0,B⟩,hL⟩:=hh;cases n with
 |zero=>omega
 |succ n=>
  have:=OC n ls A hL;rw[nZ];exact Nat.le_trans this (Nat.mul_le_mul_right _ B)
theorem T9:∀l:aB,qX l.body:=aB.ind fun n body h=>AY body h
theorem SX (ls:List aB):qX ls:=AY ls fun l _=>T9 l
theorem SK (ls:List aB) (h:gC 4 ls=true):aS ls<=1000000000000000:=by
 have:=SX ls 5 h;have h5:nZ 5<=1000000000000000:=by simp[nZ]
 omega
def j9 (d:bI):Bool:=mJ d.input&&kO d.loss&&gC 4 d.lays&&decide (aS d.lays<=64)&&eO 0 d.lays
theorem QI (vi vl:Value) (d:bI) (w:World) (h:fZ w vi vl d):
  Calls Tryz.prog 55 #[.agg #[vi,vl,.int .i64 d.loss]] w fun e w'=>e=.returned (.bool (j9 d))/\Below w.heap.size w w':=by
 obtain⟨input,lays,loss⟩:=d;have HI:=Za h.input;have Y:=Za h.lays;have Z:=h.lim1;have F:=Za h.lim2;obtain⟨oi,ci,rfl⟩:=aU h.input;obtain⟨ol,cl,rfl⟩:=h.lays.len;clear h;simp only at HI Y Z F ⊢;by_cases hn:1<=input.length/\input.length<=3
 ·obtain⟨aa,ab⟩:=hn;cases A:kO loss with
  |false=>
   have C:=Za (show j9 ⟨input,lays,loss⟩=false by rw[j9,A,Bool.and_false];rfl);have h1:¬loss=1:=by intro e;subst e;simp[kO]at A
   have J:¬loss=2:=by intro e;subst e;simp[kO]at A
   have b1:(loss != 1)=true:=by simpa using h1
   have b2:(loss != 2)=true:=by simpa using J
   clear A h1 J;go_enter Tryz.func55,Tryz.ntmps55;go_wp2
   all_goals
    go_ret;exact⟨aG C.o.symm,(Zc _ _).alloc (Zb _) _⟩
  |true=>
   have U:=Za A;have V:loss=1\/loss=2:=by simpa [kO]using A
   clear A;obtain⟨gd,D⟩:=Zx (j9 ⟨input,lays,loss⟩);have ac:=Za (show input.all cC=false->gd=false from fun h=>by rw[D,j9,mJ,h,Bool.and_false];rfl);have ad:=Za (show gC 4 lays=false->gd=false from fun h=>by rw[D,j9,h,Bool.and_false];rfl);have ae:=Za (show input.all cC=true->gC 4 lays=true->gd=(decide (aS lays<=64)&&eO 0 lays)from fun h J=>by rw[D,j9,mJ,h,J,U.o,decide_eq_true aa,decide_eq_true ab];rfl);rw[<-D];clear D U;obtain⟨W,hW⟩:=Zx (w.alloc (.cells #[.slice oi input.length ci,.slice ol lays.length cl,.int .i64 loss] 33));have G:aA W w.heap.size 33 #[.slice oi input.length ci,.slice ol lays.length cl,.int .i64 loss]:=by rw[hW];exact aA.new _ _ _
   have hB:Below w.heap.size w W:=by rw[hW];exact(Zc _ _).alloc (Zb _) _
   have aj:=Za G;have H:=Za hB;have HW:=Za hW;have c0:=G.cell 0 rfl;have c1:=G.cell 1 rfl;have I:=Za (JT lays 4 _ W (Y.o.next hB) F.o (by omega));clear hW G hB;have main:Calls Tryz.prog 55 #[.agg #[.slice oi input.length ci,.slice ol lays.length cl,.int .i64 loss]] w fun e w'=>e=.returned (.bool gd)/\Below w.heap.size w w':=by
    cases B:gC 4 lays with
    |false=>
     have C:=Za (ad.o B);have E:=Za (B▸I.o);clear B I;rcases V with rfl|rfl
     all_goals
      go_enter Tryz.func55,Tryz.ntmps55;go_wp2_with(rw[<-HW.o];go_at_call 107;refine E.o.mono ?_;rintro e w8 ⟨rfl,rfl⟩;refine aD ?_);refine aC ?_;go_wp2;go_ret;exact⟨aG C.o.symm,H.o⟩
    |true=>
     have HC:=Za (SK lays B);have af:=Za (fun h=>ae.o h B);have E:=Za (B▸I.o);clear B I;rcases V with rfl|rfl
     all_goals
      go_enter Tryz.func55,Tryz.ntmps55;go_wp2_with(rw[<-HW.o];go_at_call 107;refine E.o.mono ?_;rintro e w8 ⟨rfl,rfl⟩;refine aD ?_);refine aC ?_;go_wp2;go_loopw[3] (fun i wr=>∃k:Nat,k<=input.length/\i=.int .i64 k/\Hid ((input.take k).all cC=true)/\wr=W) (fun i _=>input.length-(intOf i).toNat)
      case atStart=>exact⟨0,Ze _,rfl,Za rfl,rfl⟩
      case round=>
       obtain⟨k,hk,rfl,HA,rfl⟩:=hrel;by_cases M:k<input.length
       ·obtain⟨b,off,rfl,hc⟩:=(HI.o.below H.o (Zb _)).cell k M;cases T:cC (aF input k)with
        |false=>
         have C:=Za (ac.o (oI _ _ k M T));have ag:=(tQ _).1 T;clear T;rcases ag with h1|h1
         ·go_wp2;go_ret;exact⟨aG C.o.symm,H.o⟩
         ·have h0:¬aF input k<1:=by omega
          go_wp2;go_ret;exact⟨aG C.o.symm,H.o⟩
        |true=>
         have N:=Za (show(input.take (k+1)).all cC=true by rw[pU _ _ _ M,HA.o,T];rfl);obtain⟨ak,al⟩:=(kZ _).1 T;clear T;go_wp2;go_roundw
         case rel=>exact⟨k+1,by omega,by go_num,N,by first|trivial|rfl⟩
         case measure=>simp[intOf];omega
       ·obtain rfl:k=input.length:=by omega
        have N:=Za (show input.all cC=true by rw[<-List.take_length (l:=input)];exact HA.o);have C:=Za (af.o N.o);have O:=Za (N4 lays _ _ (Y.o.next H.o) F.o HC.o);have ah:=Za (OF lays 0 _ _ (Y.o.next H.o) F.o (by omega));obtain⟨q,hq⟩:=Zx (aS lays);rw[<-hq]at O C;clear hq;by_cases L:q<=64
        ·have P:=Za (show gd=eO 0 lays by rw[C.o,decide_eq_true L];rfl);go_wp2_with(first
          |(go_at_call 108;refine O.o.mono ?_;rintro e w8 ⟨rfl,R⟩;subst R)
          |(go_at_call 109;refine ah.o.mono ?_;rintro e w8 ⟨rfl,X⟩;refine aD ?_))
         have ai:=Za (H.o.trans (X.mono H.o.size));clear X;refine aC ?_;go_wp2;go_ret;exact⟨aG P.o.symm,ai.o⟩
        ·have P:=Za (show gd=false by rw[C.o,decide_eq_false L];rfl);go_wp2_with(go_at_call 108;refine O.o.mono ?_;rintro e w8 ⟨rfl,R⟩;subst R);go_ret;exact⟨aG P.o.symm,H.o⟩
   exact main
 ·have C:=Za (show j9 ⟨input,lays,loss⟩=false by rw[j9,mJ];simp;omega);have J:input.length<1\/3<input.length:=by omega
  clear hn;rcases J with J|J
  all_goals
   go_enter Tryz.func55,Tryz.ntmps55;go_wp2;go_ret;exact⟨aG C.o.symm,(Zc _ _).alloc (Zb _) _⟩
theorem SI (k:Int) (h:k<1\/12<k):cP k=none:=by
 rw[cP,List.find?_eq_none];intro r hr;have:∀r∈bJ,1<=r.kind/\r.kind<=12:=by decide
 have:=this r hr;simp;omega
theorem R3 (n:aE) (h:n.kind=13):kG n=gA n bN:=by obtain⟨k,k1,k2,k3,k4,k5,k6,k7⟩:=n;simp only at h;subst h;rw[Bool.eq_iff_iff];rw[show gA ⟨13,k1,k2,k3,k4,k5,k6,k7⟩ bN=(decide (k1=0)&&decide (k2=0)&&decide (k3=0)&&decide (k4=0)&&decide (k5=0)&&decide (k6=0)&&decide (k7=0))from rfl];simp[kG,iS,cP,bJ,dE,kL,dK,eA,cW,bN];omega
theorem ME (n:aE) (h:n.kind≠13) (body:List aB):(kG n&&decide (body.length=0))=fJ n body:=by
 obtain⟨k,k1,k2,k3,k4,k5,k6,k7⟩:=n;simp only at h;by_cases hk:k<1\/12<k
 ·rw[fJ,SI _ hk,kG,DQ k (by omega)];rfl
 ·have:k=1\/k=2\/k=3\/k=4\/k=5\/k=6\/k=7\/k=8\/k=9\/k=10\/k=11\/k=12:=by omega
  clear h hk;rw[Bool.eq_iff_iff];rcases this with rfl|rfl|rfl|rfl|rfl|rfl|rfl|rfl|rfl|rfl|rfl|rfl
  all_goals
   simp[kG,fJ,iL,iS,cP,bJ,kL,dK,eA,cW,gA,bN,eQ,eP,gT,aF,aE.fld,aE.put,bX.fitsTo,bX.fits,bX.made,List.range_succ];by_cases hb:body=[]
   ·simp only[hb,and_true,true_and];omega
   ·simp only[hb,and_false,false_and]
mutual
theorem RW (deep:Nat) (left:Int) (hd:deep<=4) (h0:0<=left):∀l:aB,cD deep left l=if hZ deep l=true/\(l.count:Int)<=left then some (left-l.count) else none
 |.mk n body=>by
  have hc:(aB.mk n body).count=1+aS body:=by rw[aB.count]
  rw[cD,hc,hZ];by_cases hl:left-1<0
  ·rw[decide_eq_true hl,cond_true,if_neg (by omega)]
  rw[decide_eq_false hl,cond_false];by_cases hk:n.kind=13
  ·rw[decide_eq_true hk,cond_true,cond_true,R3 n hk];cases hp:gA n bN with
   |false=>rw[Bool.and_false,cond_false,if_neg (by simp)]
   |true=>
    by_cases A:deep<4
    ·rw[decide_eq_true A,Bool.and_self,cond_true,yB (deep+1) (left-1) (by omega) (by omega) body];have hd4':deep≠4:=by omega
     simp only[Bool.true_and,decide_eq_true hd4'];by_cases hm:eO (deep+1) body=true/\(aS body:Int)<=left-1
     ·rw[if_pos hm,if_pos ⟨hm.1,by omega⟩]
      congr 1
      omega
     ·rw[if_neg hm,if_neg (fun h=>hm ⟨h.1,by omega⟩)]
    ·rw[decide_eq_false A,Bool.false_and,cond_false,if_neg];intro h;have:=h.1;simp at this;omega
  ·rw[decide_eq_false hk,cond_false,cond_false,ME n hk body];cases hb:fJ n body with
   |false=>rw[cond_false,if_neg (by simp)]
   |true=>
    have:=sY hb;subst this;rw[cond_true,if_pos ⟨rfl,by simp[aS];omega⟩];simp[aS]
theorem yB (deep:Nat) (left:Int) (hd:deep<=4) (h0:0<=left):∀ls:List aB,bS deep left ls=if eO deep ls=true/\(aS ls:Int)<=left then some (left-aS ls) else none
 |[]=>by rw[bS,eO,aS,if_pos ⟨rfl,by omega⟩];simp
 |l::r=>by
  rw[bS,RW deep left hd h0 l,eO,aS];by_cases hm:hZ deep l=true/\(l.count:Int)<=left
  ·rw[if_pos hm];dsimp only;rw[yB deep (left-l.count) hd (by omega) r,hm.1,Bool.true_and];by_cases hr:eO deep r=true/\(aS r:Int)<=left-l.count
   ·rw[if_pos hr,if_pos ⟨hr.1,by omega⟩]
    congr 1
    omega
   ·rw[if_neg hr,if_neg (fun h=>hr ⟨h.1,by omega⟩)]
  ·rw[if_neg hm,if_neg];intro h;rw[Bool.and_eq_true]at h;exact hm ⟨h.1.1,by omega⟩
end
theorem uX:∀ls:List aB,ls.length<=aS ls
 |[]=>by simp
 |l::r=>by
  have:=uX r;have h:=l.count_eq;rw[aS,List.length_cons];omega
mutual
theorem TE (deep:Nat) (hd:deep<=4):∀l:aB,hZ deep l=true->l.count<=65->lK (4-(deep:Int)) l=true
 |.mk n body,h,hc=>by
  have hc:(aB.mk n body).count=1+aS body:=by rw[aB.count]
  rw[hZ,Bool.and_eq_true]at h;have h2:=h.2;rw[lK];by_cases hk:n.kind=13
  ·rw[decide_eq_true hk,cond_true,Bool.and_eq_true,decide_eq_true_eq]at h2;have hl:=uX body;have hb:=xG (deep+1) (by omega) body h2.2 (by omega);rw[show(4-((deep+1:Nat):Int))=4-(deep:Int)-1 by omega]at hb;rw[hb,decide_eq_true (show 0<=4-(deep:Int)-1 by omega),decide_eq_true (show body.length<=64 by omega)];simp
  ·rw[decide_eq_false hk,cond_false]at h2;rw[h2];rfl
theorem xG (deep:Nat) (hd:deep<=4):∀ls:List aB,eO deep ls=true->aS ls<=64->jF (4-(deep:Int)) ls=true
 |[],_,_=>by rw[jF]
 |l::r,h,hc=>by
  rw[eO,Bool.and_eq_true]at h;rw[aS]at hc;rw[jF,TE deep hd l h.1 (by omega),xG deep hd r h.2 (by omega)];rfl
end
theorem BW (d:bI):j9 d=dM d:=by
 rw[j9,dM,yB 0 64 (by omega) (by omega) d.lays];cases hm:eO 0 d.lays with
 |false=>simp
 |true=>
  by_cases hc:aS d.lays<=64
  ·have hl:=uX d.lays;have A:=xG 0 (by omega) d.lays hm hc;have:gC 4 d.lays=true:=by
    rw[gC,decide_eq_true (show(0:Int)<=4 by omega),decide_eq_true (show d.lays.length<=64 by omega)]
    simpa using A
   rw[this,decide_eq_true hc,if_pos ⟨rfl,by omega⟩];simp
  ·rw[decide_eq_false hc,if_neg (by omega)];simp
theorem LZ (CV:Array Value) (vi vl vp vm vv vr vc:Value) (a b c:Int) (B:Nat) (w:World) (h:mX w B vi vl vp vm vv vr vc) (J:B<=w.heap.size)
  (k1:CV[1]?=some vi) (k2:CV[2]?=some vl) (k13:CV[13]?=some vp) (k14:CV[14]?=some vm) (k15:CV[15]?=some vv) (k16:CV[16]?=some (.int .i64 a)) (k17:CV[17]?=some (.int .i64 b)) (k18:CV[18]?=some (.int .i64 c)) (k19:CV[19]?=some vr) (k24:CV[24]?=some vc):
  Calls Tryz.prog 15 #[.agg CV] w fun e w'=>e=.returned (.tuple #[])/\bH B w w':=by
 have T:=Za (fun(W:World) (A:bH B w W)=>wG vi B W (h.input.sp oR A) (Nat.le_trans J A.low.size));have V:=Za (fun(W:World) (A:bH B w W)=>show Calls _ _ _ _ _ from JD B w vl h.lays J W A);have X:=Za (fun(W:World) (A:bH B w W)=>vR vp B W (h.ps.sp A) (Nat.le_trans J A.low.size));have Y:=Za (fun(W:World) (A:bH B w W)=>QK vm vv a b c B W (h.m.sp A) (h.v.sp A) (Nat.le_trans J A.low.size));have Z:=Za (fun(W:World) (A:bH B w W)=>wG vc B W (h.order.sp oR A) (Nat.le_trans J A.low.size));obtain⟨xs,ho,hl⟩:=id h.script;have HF:=Za (fun(W:World) (A:bH B w W)=>dC.sp spU ⟨xs,ho,hl⟩ A);obtain⟨o1,n1,c1,rfl⟩:=h.input.slice;obtain⟨o2,n2,c2,rfl⟩:=h.lays.slice;obtain⟨o3,n3,c3,rfl⟩:=h.ps.slice;obtain⟨o4,n4,c4,rfl⟩:=h.m.slice;obtain⟨o5,n5,c5,rfl⟩:=h.v.slice;obtain⟨o,cap,rfl⟩:=aJ ho;obtain⟨o7,n7,c7,rfl⟩:=h.order.slice;obtain⟨W,hW⟩:=Zx (w.alloc (.cells CV 47));have HW:=Za hW;have H:=Za (show bH B w W by rw[hW];exact bH.below ((Zc w.heap.size w).alloc (Zb _) _) J);have D:aA W w.heap.size 47 CV:=by rw[hW];exact aA.new _ _ _
 have L:∀j u,¬fK 47 j u:=fun j u h=>h.1.elim (by decide) (by decide);have E:=Za (fun(U:World) (A:bH B W U)=>A.box D L);have d1:=D.cell _ k1;have N:=D.lt;clear h ho D L;go_enter Tryz.func15,Tryz.ntmps15;rw[hW]at d1;clear hW;go_wp2_with fail;rw[<-HW.o];clear d1;refine(T.o _ H.o).mono ?_;rintro e w1 ⟨rfl,A⟩;have I:=Za A;have d2:=(E.o _ A).cell _ k2;clear A T;go_wp2_with fail;clear d2;refine(V.o _ (H.o.trans I.o)).mono ?_;rintro e w2 ⟨rfl,A⟩;have F:=Za (I.o.trans A);have d3:=(E.o _ F.o).cell _ k13;clear A V I;go_wp2_with fail;clear d3;refine(X.o _ (H.o.trans F.o)).mono ?_;rintro e w3 ⟨rfl,A⟩;have C:=Za (F.o.trans A);have d4:=(E.o _ C.o).cell _ k14;have d5:=(E.o _ C.o).cell _ k15;have d6:=(E.o _ C.o).cell _ k16;have d7:=(E.o _ C.o).cell _ k17;have d8:=(E.o _ C.o).cell _ k18;clear A X F;go_wp2_with fail;clear d4 d5 d6 d7 d8;refine(Y.o _ (H.o.trans C.o)).mono ?_;rintro e w4 ⟨rfl,A⟩;have G:=Za (C.o.trans A);have d9:=(E.o _ G.o).cell _ k24;clear A Y C;go_wp2_with fail;clear d9;refine(Z.o _ (H.o.trans G.o)).mono ?_;rintro e w5 ⟨rfl,A⟩;have O:=Za (G.o.trans A);clear A Z G;go_wp2_with fail;go_loopw[2] (fun i wr=>∃k:Nat,k<=xs.length/\i=.int .i64 k/\bH B W wr) (fun i _=>xs.length-(intOf i).toNat)
 case atStart=>exact⟨0,Ze _,rfl,O.o⟩
 case round=>
  obtain⟨k,hk,rfl,hS⟩:=hrel;obtain⟨w6,rfl⟩:=Zx wr;have P:=Za hS;have d1:=(E.o _ hS).cell _ k19;clear hS;by_cases N:k<xs.length
  ·obtain⟨ys,hy,R⟩:=HF.o w6 (H.o.trans P.o);have M:xs.length=ys.length:=by obtain⟨a,c,e⟩:=aJ hy;injection e
   rw[aH,<-M]at hy;obtain⟨g,rfl,hb,hg,hc,hf⟩:=oM hy (by omega);have aa:=hc k (.int .u64 (aF ys k)) (by rw[List.getElem?_map,List.getElem?_eq_getElem (by omega),dO ys k (by omega)];rfl);have ab:=hf k;have HY:=Za (iW.set ⟨P.o,hg⟩ hb k (.int .u64 77) ⟨_,rfl⟩).sp;clear hc hf hg hb hy M R;go_wp2;go_roundw
   case rel=>exact⟨k+1,by omega,by go_num,HY.o⟩
   case measure=>simp[intOf];omega
  ·obtain rfl:k=xs.length:=by omega
   go_wp2;go_end0;exact⟨rfl,H.o.trans P.o⟩
