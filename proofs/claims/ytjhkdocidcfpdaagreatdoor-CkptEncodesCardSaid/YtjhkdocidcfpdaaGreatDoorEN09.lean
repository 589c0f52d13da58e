/- A part of the proof. -/
import Derived.Test.YtjhkdocidcfpdaaGreatDoorEN07
import Derived.Test.YtjhkdocidcfpdaaGreatDoorEN08
set_option linter.unusedVariables false
set_option linter.unusedSimpArgs false
set_option maxRecDepth 100000
set_option maxHeartbeats 16000000
open List renaming getElem_cons_zero → Zi, getElem_cons_succ → Zj, getElem_toArray → Zk, length_append → Zl
namespace Go.Proofs.YtjhkdocidcfpdaaGreatDoor
open Go.RowKit Go.Shelf Go
structure fZ (w:World) (vi vl:Value) (d:bI):Prop where
 input:Rd w .i64 vi d.input
 lays:bO w vl d.lays
 lim1:d.input.length<=140737488351232
 lim2:d.lays.length<=140737488351232
theorem fZ.next {w w':World} {vi vl:Value} {d:bI} (h:fZ w vi vl d) (hb:Below w.heap.size w w'):fZ w' vi vl d:=⟨h.input.below hb (Zb _),h.lays.next hb,h.lim1,h.lim2⟩
theorem vO (vi vl:Value) (d:bI) (w:World) (h:fZ w vi vl d):
  Calls Tryz.prog 99 #[.agg #[vi,vl,.int .i64 d.loss]] w fun e w'=>e=.returned (.bool (dM d))/\Below w.heap.size w w':=by
 obtain⟨input,lays,loss⟩:=d;have X:=Za h.input;have Y:=Za h.lays;have M:=h.lim1;have J:=Za h.lim2;obtain⟨oi,ci,rfl⟩:=aU h.input;obtain⟨ol,cl,rfl⟩:=h.lays.len;clear h;simp only at X Y M J ⊢;by_cases hn:1<=input.length/\input.length<=3
 ·obtain⟨N,O⟩:=hn;cases A:kO loss with
  |false=>
   have D:=Za (show dM ⟨input,lays,loss⟩=false by rw[dM,A,Bool.and_false];rfl);have h1:¬loss=1:=by intro e;subst e;simp[kO]at A
   have H:¬loss=2:=by intro e;subst e;simp[kO]at A
   have b1:(loss != 1)=true:=by simpa using h1
   have b2:(loss != 2)=true:=by simpa using H
   clear A h1 H;go_enter Tryz.func99,Tryz.ntmps99;go_wp2
   all_goals
    go_ret;exact⟨aG D.o.symm,(Zc _ _).alloc (Zb _) _⟩
  |true=>
   have L:=Za A;have P:loss=1\/loss=2:=by simpa [kO]using A
   clear A;obtain⟨W,hW⟩:=Zx (w.alloc (.cells #[.slice oi input.length ci,.slice ol lays.length cl,.int .i64 loss] 33));have B:aA W w.heap.size 33 #[.slice oi input.length ci,.slice ol lays.length cl,.int .i64 loss]:=by rw[hW];exact aA.new _ _ _
   have hB:Below w.heap.size w W:=by rw[hW];exact(Zc _ _).alloc (Zb _) _
   have R:=Za B;have E:=Za hB;have HW:=Za hW;have c0:=B.cell 0 rfl;have c1:=B.cell 1 rfl;clear hW B hB;obtain⟨gd,C⟩:=Zx (dM ⟨input,lays,loss⟩);have T:=Za (show input.all cC=false->gd=false from fun h=>by rw[C,dM,mJ,h,Bool.and_false];rfl);have U:=Za (show input.all cC=true->gd=(bS 0 64 lays).isSome from fun h=>by rw[C,dM,mJ,h,L.o,decide_eq_true N,decide_eq_true O];rfl);rw[<-C];clear C L;have main:Calls Tryz.prog 99 #[.agg #[.slice oi input.length ci,.slice ol lays.length cl,.int .i64 loss]] w fun e w'=>e=.returned (.bool gd)/\Below w.heap.size w w':=by
    rcases P with rfl|rfl
    all_goals
     go_enter Tryz.func99,Tryz.ntmps99;go_wp2;rw[<-HW.o];go_loopw[29] (fun i wr=>∃k:Nat,k<=input.length/\i=.int .i64 k/\Hid ((input.take k).all cC=true)/\wr=W) (fun i _=>input.length-(intOf i).toNat)
     case atStart=>exact⟨0,Ze _,rfl,Za rfl,rfl⟩
     case round=>
      obtain⟨k,hk,rfl,Z,rfl⟩:=hrel;by_cases F:k<input.length
      ·obtain⟨b,off,rfl,hc⟩:=(X.o.below E.o (Zb _)).cell k F;cases I:cC (aF input k)with
       |false=>
        have D:=Za (T.o (oI _ _ k F I));have V:=(tQ _).1 I;clear I;rcases V with h1|h1
        ·go_wp2;go_ret;exact⟨aG D.o.symm,E.o⟩
        ·have h0:¬aF input k<1:=by omega
         go_wp2;go_ret;exact⟨aG D.o.symm,E.o⟩
       |true=>
        have G:=Za (show(input.take (k+1)).all cC=true by rw[pU _ _ _ F,Z.o,I];rfl);obtain⟨aa,ab⟩:=(kZ _).1 I;clear I;go_wp2;go_roundw
        case rel=>exact⟨k+1,by omega,by go_num,G,by first|trivial|rfl⟩
        case measure=>simp[intOf];omega
      ·obtain rfl:k=input.length:=by omega
       have G:=Za (show input.all cC=true by rw[<-List.take_length (l:=input)];exact Z.o);have D:=Za (U.o G.o);have c1a:=fun o:Obj=>(R.o.next ((Zc _ _).alloc (Zb _) o)).cell 1 rfl;simp only[Zk,Zi,Zj]at c1a;go_wp2_with fail;refine(MJ lays 0 64 _ _ _ ((Y.o.next E.o).next ((Zc _ _).alloc (Zb _) _)) J.o (by omega) (by omega) (aA.new _ _ _)).mono ?_;rintro e w3 ⟨rfl,_,hm⟩;have HM:=Za (E.o.trans ((((Zc w.heap.size _).alloc E.o.size _)).trans (hm.below E.o.size (by have:=E.o.size;simp;omega))));clear hm;go_wp2;go_ret;exact⟨aG D.o.symm,HM.o⟩
   exact main
 ·have D:=Za (show dM ⟨input,lays,loss⟩=false by rw[dM,mJ];simp;omega);have H:input.length<1\/3<input.length:=by omega
  clear hn;rcases H with H|H
  all_goals
   go_enter Tryz.func99,Tryz.ntmps99;go_wp2;go_ret;exact⟨aG D.o.symm,(Zc _ _).alloc (Zb _) _⟩
mutual
theorem UT (deep:Nat) (left k:Int):∀l:aB,cD deep left l=some k->0<=left->k+1<=left
 |.mk n body,h,h0=>by
  obtain⟨hl,⟨hk,A,hn,hb⟩|⟨hk,hb,rfl⟩⟩:=oK h
  ·have:=pP (deep+1) (left-1) k body hb (by omega);omega
  ·omega
theorem pP (deep:Nat) (left k:Int):∀ls:List aB,bS deep left ls=some k->0<=left->(ls.length:Int)+k<=left
 |[],h,h0=>by rw[bS]at h;cases h;simp
 |l::r,h,h0=>by
  rw[bS]at h;cases h1:cD deep left l with
  |none=>rw[h1]at h;cases h
  |some j=>
   rw[h1]at h;have a:=UT deep left j l h1 h0;have c:=qB deep left j l h1 h0;have b:=pP deep j k r h c.1;simp only[List.length_cons];omega
end
theorem JF (v u:Value) (xs ys:List Int) (w:World) (hr:Rd w .u64 v xs) (hs:Rd w .u64 u ys) (hl:xs.length<=140737488351232):
  Calls Tryz.prog 97 #[v,u] w fun e w'=>e=.returned (.bool (decide (xs=ys)))/\aN w w':=by
 obtain⟨o,cap,rfl,hc⟩:=hr;obtain⟨o2,cap2,rfl,D⟩:=hs;have J:=Za hc;have G:=Za D;clear hc D;by_cases A:xs.length=ys.length
 ·have H:=Za A;clear A;rw[<-H.o];go_enter Tryz.func97,Tryz.ntmps97;go_wp2;go_loopw[5] (fun i wr=>∃k:Nat,k<=xs.length/\i=.int .i64 k/\(∀j,j<k->aF xs j=aF ys j)/\aN w wr) (fun i _=>xs.length-(intOf i).toNat)
  case atStart=>exact⟨0,Ze _,rfl,fun _ h=>absurd h (Nat.not_lt_zero _),aN.refl _⟩
  case round=>
   obtain⟨k,hk,rfl,C,nq,rfl⟩:=hrel;have I:=Za C;clear C;by_cases E:k<xs.length
   ·obtain⟨b,off,rfl,h1⟩:=J.o k E;obtain⟨b2,off2,rfl,h2⟩:=G.o k (by rw[<-H.o];exact E);go_wp2;go_quiet(fail);go_wp2
    ·go_ret;rename_i B;exact⟨by rw[decide_eq_false];rfl;intro e;rw[e]at B;simp at B,by first|exact⟨_,rfl⟩|exact⟨_,World.drewN_drewN _ _ _⟩⟩
    ·rename_i he;have F:=Za he;clear he;go_roundw
     case rel=>exact⟨k+1,by omega,by go_num,fun j hj=>by rcases Nat.lt_succ_iff_lt_or_eq.1 hj with h|h;exact I.o j h;rw[h];simpa using F.o,by first|exact⟨_,rfl⟩|exact⟨_,World.drewN_drewN _ _ _⟩⟩
     case measure=>simp[intOf];omega
   ·obtain rfl:k=xs.length:=by omega
    have F:Hid (xs=ys):=Za (rE H.o I.o);go_wp2;go_ret;exact⟨by rw[decide_eq_true F.o];rfl,_,rfl⟩
 ·go_enter Tryz.func97,Tryz.ntmps97;have hb:(((xs.length:Nat):Int) != ((ys.length:Nat):Int))=true:=by simp[bne_iff_ne];omega
  have B:xs≠ys:=fun e=>A (congrArg List.length e);have F:=Za (decide_eq_false B);clear A B;go_wp2;go_ret;exact⟨by rw[F.o];rfl,aN.refl _⟩
theorem oJ (w:World) (T:TypeId) (cs ds:Array Value) {W:World} (hW:W=(w.alloc (.cells cs T)).alloc (.cells ds T)):aA W w.heap.size T cs/\aA W (w.heap.size+1) T ds/\Below w.heap.size w W:=by subst hW;have h2:aA ((w.alloc (.cells cs T)).alloc (.cells ds T)) (w.alloc (.cells cs T)).heap.size T ds:=aA.new _ _ _;rw[World.size_alloc]at h2;exact⟨(aA.new w T cs).next ((Zc _ _).alloc (Zb _) _),h2,((Zc _ _).alloc (Zb _) _).alloc (by simp) _⟩
theorem jM {w W W':World} {T:TypeId} {cs ds:Array Value} (h:aA W w.heap.size T cs/\aA W (w.heap.size+1) T ds/\Below w.heap.size w W) (hb:Below W.heap.size W W'):aA W' w.heap.size T cs/\aA W' (w.heap.size+1) T ds/\Below w.heap.size w W':=
 ⟨h.1.next hb,h.2.1.next hb,h.2.2.trans (hb.mono h.2.2.size)⟩
theorem qR {w w':World} {p:Prop} [Decidable p] {e:Ending} (h:e=.returned (.bool (decide p))/\aN w w'):bR w p e w':=⟨⟨_,h.1,by simp⟩,h.2.below _⟩
theorem TC (vs vd us ud:Value) (t t2:aO) (w:World) (hs:Rd w .i64 vs t.sh) (hd:Rd w .i64 vd t.da) (gs:Rd w .i64 us t2.sh) (gd:Rd w .i64 ud t2.da) (hl:t.Lim):
  Calls Tryz.prog 96 #[.agg #[vs,vd],.agg #[us,ud]] w (bR w (t=t2)):=by
 obtain⟨o1,c1,rfl⟩:=aU hs;obtain⟨o2,c2,rfl⟩:=aU hd;obtain⟨o3,c3,rfl⟩:=aU gs;obtain⟨o4,c4,rfl⟩:=aU gd;have H:=Za (Zd hs (Zd hd (Zd gs gd)));have I:=Za hl;clear hs hd gs gd hl;obtain⟨W,hW⟩:=Zx ((w.alloc (.cells #[.slice o1 t.sh.length c1,.slice o2 t.da.length c2] 100)).alloc (.cells #[.slice o3 t2.sh.length c3,.slice o4 t2.da.length c4] 100));have E:=Za (oJ w _ _ _ hW);have J:=Za hW;clear hW;go_enter Tryz.func96,Tryz.ntmps96;go_wp2_with(go_at_call 94;rw[<-J.o];refine(((pI _ _ t.sh t2.sh _ (H.o.1.below E.o.2.2 (Zb _)) (H.o.2.2.1.below E.o.2.2 (Zb _)) I.o.1).mono fun e w h=>qR h)).mono ?_;rintro e w1 ⟨⟨r0,rfl,F⟩,C⟩;refine aD ?_);have A:=Za (jM E.o C);have Q0:=Za F;clear C F;have x0:=A.o.1.q 0 rfl;have y0:=A.o.2.1.q 0 rfl;have x1:=A.o.1.q 1 rfl;have y1:=A.o.2.1.q 1 rfl;refine aC ?_;cases r0 with
 |false=>
  go_wp2;go_ret;exact bR.no (fun h=>by have:=Q0.o.2 (by rw[h]);cases this) A.o.2.2
 |true=>
  go_wp2_with(go_at_call 139;refine(((QX _ _ t.da t2.da _ (H.o.2.1.below A.o.2.2 (Zb _)) (H.o.2.2.2.below A.o.2.2 (Zb _)) I.o.2).mono fun e w h=>qR h)).mono ?_;rintro e w2 ⟨⟨r1,rfl,G⟩,D⟩;refine aD ?_);have B:=Za (jM A.o D);have Q1:=Za G;clear x0 y0 x1 y1;clear D G;have x0:=B.o.1.q 0 rfl;have y0:=B.o.2.1.q 0 rfl;have x1:=B.o.1.q 1 rfl;have y1:=B.o.2.1.q 1 rfl;refine aC ?_;cases r1 with
  |false=>
   go_wp2;go_ret;exact bR.no (fun h=>by have:=Q1.o.2 (by rw[h]);cases this) B.o.2.2
  |true=>
   go_wp2;go_ret;exact bR.yes (by have h1:t.sh=t2.sh:=(by simpa using Q0.o);have h2:t.da=t2.da:=(by simpa using Q1.o);cases t;cases t2;simp only at h1 h2;rw[h1,h2]) B.o.2.2
theorem xO (v u:Value) (xs ys:List aO) (w:World) (H:bD w v xs) (G:bD w u ys) (hl:eR xs):
  Calls Tryz.prog 38 #[v,u] w (bR w (xs=ys)):=by
 obtain⟨o,cap,rfl⟩:=H.slice;obtain⟨o2,cap2,rfl⟩:=G.slice;have Y:=Za H;have Z:=Za G;obtain⟨aa,I⟩:=hl;have HL:=Za I;clear H G I;by_cases A:xs.length=ys.length
 ·have hb:((xs.length:Int) != ys.length)=false:=by simp[A]
  have N:=Za A;clear A;go_enter Tryz.func38,Tryz.ntmps38;go_wp2;go_loopw[5] (fun i wr=>∃k:Nat,k<=xs.length/\i=.int .i64 k/\Hid (xs.take k=ys.take k)/\Below w.heap.size w wr) (fun i _=>xs.length-(intOf i).toNat)
  case atStart=>exact⟨0,Ze _,rfl,Za rfl,Zc _ _⟩
  case round=>
   obtain⟨k,hk,rfl,V,hB⟩:=hrel;obtain⟨w3,rfl⟩:=Zx wr;have J:=Za hB;clear hB;by_cases C:k<xs.length
   ·obtain⟨ba,offa,vs,vd,rfl,a0,a1,G,hd⟩:=(Y.o.below J.o (Zb _)).tens k C;have F:k<ys.length:=by rw[<-N.o];exact C
    obtain⟨bb,offb,us,ud,rfl,b0,b1,gs,gd⟩:=(Z.o.below J.o (Zb _)).tens k F;have HT:=Za (tK xs k C);have O:=Za (tK ys k F);have P:=Za (fun h:xs=ys=>show aR xs k=aR ys k by subst h;rfl);have R:=Za (HL.o _ (jR xs k C));have D:=Za (Zd G (Zd hd (Zd gs gd)));obtain⟨o1,c1,rfl⟩:=aU G;obtain⟨o3,c3,rfl⟩:=aU gs;obtain⟨o4,c4,rfl⟩:=aU hd;obtain⟨o5,c5,rfl⟩:=aU gd;clear G hd gs gd;have E:=Za (Zd a0 (Zd a1 (Zd b0 b1)));have B:=Za (show Below w3.heap.size w3 w3.drew from Below.drew (Zc _ _));go_wp2_with fail;go_region_held3 (fun w'=>w'.cell? ⟨ba,offa+k*2,none⟩=some (.slice o1 (aR xs k).sh.length c1)/\w'.cell? ⟨ba,offa+k*2+1,none⟩=some (.slice o4 (aR xs k).da.length c4)/\w'.cell? ⟨bb,offb+k*2,none⟩=some (.slice o3 (aR ys k).sh.length c3)/\w'.cell? ⟨bb,offb+k*2+1,none⟩=some (.slice o5 (aR ys k).da.length c5))
     (exact⟨aX B.o E.o.1,aX B.o E.o.2.1,aX B.o E.o.2.2.1,aX B.o E.o.2.2.2⟩)
     (first
     |(go_at_call 96;refine(TC _ _ _ _ (aR xs k) (aR ys k) _ (D.o.1.below B.o (Zb _)) (D.o.2.1.below B.o (Zb _)) (D.o.2.2.1.below B.o (Zb _)) (D.o.2.2.2.below B.o (Zb _)) R.o).mono ?_;rintro e wy ⟨⟨r,rfl,H⟩,L⟩;have M:=Za H;have B:=Za (B.o.trans (L.mono B.o.size));clear L H))
    clear a0 a1 b0 b1;have X:=Za (J.o.trans (B.o.mono J.o.size));cases r with
    |false=>
     have T:=Za (show ¬xs=ys from fun h=>Bool.noConfusion (M.o.2 (P.o h)));go_wp2_with fail;go_ret;exact bR.no T.o X.o
    |true=>
     have U:=Za (show xs.take (k+1)=ys.take (k+1) by
      rw[HT.o,O.o,V.o,M.o.1 rfl])
     go_wp2_with fail;go_roundw
     case rel=>exact⟨k+1,by omega,by go_num,U,X.o⟩
     case measure=>simp[intOf];omega
   ·obtain rfl:k=xs.length:=by omega
    have B:=Za (show xs=ys by have:=V.o;rw[List.take_of_length_le (Zb _),List.take_of_length_le (by rw[N.o];exact Zb _)]at this;exact this);go_wp2;go_ret;exact bR.yes B.o J.o
 ·have hb:((xs.length:Int) != ys.length)=true:=by simp;omega
  have N:=Za A;clear A;go_enter Tryz.func38,Tryz.ntmps38;go_wp2;go_ret;exact bR.no (fun h=>N.o (congrArg List.length h)) (Zc _ _)
theorem K6 (vi vl ui ul:Value) (d d2:bI) (w:World) (hr:fZ w vi vl d) (hs:fZ w ui ul d2):
  Calls Tryz.prog 37 #[.agg #[vi,vl,.int .i64 d.loss],.agg #[ui,ul,.int .i64 d2.loss]] w (bR w (d=d2)):=by
 obtain⟨o1,c1,rfl⟩:=aU hr.input;obtain⟨o2,c2,rfl⟩:=hr.lays.len;obtain⟨o3,c3,rfl⟩:=aU hs.input;obtain⟨o4,c4,rfl⟩:=hs.lays.len;have H:=Za hr;have I:=Za hs;clear hr hs;obtain⟨W,hW⟩:=Zx ((w.alloc (.cells #[.slice o1 d.input.length c1,.slice o2 d.lays.length c2,.int .i64 d.loss] 33)).alloc (.cells #[.slice o3 d2.input.length c3,.slice o4 d2.lays.length c4,.int .i64 d2.loss] 33));have E:=Za (oJ w _ _ _ hW);have L:=Za hW;clear hW;go_enter Tryz.func37,Tryz.ntmps37;go_wp2_with(go_at_call 94;rw[<-L.o];refine(((pI _ _ d.input d2.input _ (H.o.input.below E.o.2.2 (Zb _)) (I.o.input.below E.o.2.2 (Zb _)) H.o.lim1).mono fun e w h=>qR h)).mono ?_;rintro e w1 ⟨⟨r0,rfl,F⟩,C⟩;refine aD ?_);have A:=Za (jM E.o C);have Q0:=Za F;clear C F;have x0:=A.o.1.q 0 rfl;have y0:=A.o.2.1.q 0 rfl;have x1:=A.o.1.q 1 rfl;have y1:=A.o.2.1.q 1 rfl;have x2:=A.o.1.q 2 rfl;have y2:=A.o.2.1.q 2 rfl;refine aC ?_;cases r0 with
 |false=>
  go_wp2;go_ret;exact bR.no (fun h=>by have:=Q0.o.2 (by rw[h]);cases this) A.o.2.2
 |true=>
  go_wp2_with(go_at_call 95;refine(zP d.lays _ _ d2.lays _ (H.o.lays.below A.o.2.2 (Zb _)) (I.o.lays.below A.o.2.2 (Zb _)) H.o.lim2 I.o.lim2).mono ?_;rintro e w2 ⟨⟨r1,rfl,G⟩,D⟩;refine aD ?_);have B:=Za (jM A.o D);have Q1:=Za G;clear x0 y0 x1 y1 x2 y2;clear D G;have x0:=B.o.1.q 0 rfl;have y0:=B.o.2.1.q 0 rfl;have x1:=B.o.1.q 1 rfl;have y1:=B.o.2.1.q 1 rfl;have x2:=B.o.1.q 2 rfl;have y2:=B.o.2.1.q 2 rfl;refine aC ?_;cases r1 with
  |false=>
   go_wp2;go_ret;exact bR.no (fun h=>by have:=Q1.o.2 (by rw[h]);cases this) B.o.2.2
  |true=>
   by_cases q2:d.loss=d2.loss;rotate_left
   ·have J:(d.loss==d2.loss)=false:=by simp[q2]
    have Q2:=Za q2;clear q2;go_wp2;go_ret;exact bR.no (fun h=>Q2.o (by rw[h])) B.o.2.2
   have J:(d.loss==d2.loss)=true:=by simp[q2]
   have Q2:=Za q2;clear q2;go_wp2;go_ret;exact bR.yes (by have h1:d.input=d2.input:=(by simpa using Q0.o);have h2:d.lays=d2.lays:=(by simpa using Q1.o);have h3:=Q2.o;cases d;cases d2;simp only at h1 h2 h3;rw[h1,h2,h3]) B.o.2.2
theorem NO (vm vv um uv:Value) (m m2:lV) (w:World) (F:bD w vm m.m) (G:bD w vv m.v) (g1:bD w um m2.m) (g2:bD w uv m2.v) (l1:eR m.m) (l2:eR m.v):
  Calls Tryz.prog 39 #[.agg #[vm,vv,.int .i64 m.powMu,.int .i64 m.powNu,.int .i64 m.steps],.agg #[um,uv,.int .i64 m2.powMu,.int .i64 m2.powNu,.int .i64 m2.steps]] w (bR w (m=m2)):=by
 obtain⟨o1,c1,rfl⟩:=F.slice;obtain⟨o2,c2,rfl⟩:=G.slice;obtain⟨o3,c3,rfl⟩:=g1.slice;obtain⟨o4,c4,rfl⟩:=g2.slice;have J:=Za (Zd F (Zd G (Zd g1 g2)));have O:=Za (Zd l1 l2);clear F G g1 g2 l1 l2;obtain⟨W,hW⟩:=Zx ((w.alloc (.cells #[.slice o1 m.m.length c1,.slice o2 m.v.length c2,.int .i64 m.powMu,.int .i64 m.powNu,.int .i64 m.steps] 38)).alloc (.cells #[.slice o3 m2.m.length c3,.slice o4 m2.v.length c4,.int .i64 m2.powMu,.int .i64 m2.powNu,.int .i64 m2.steps] 38));have E:=Za (oJ w _ _ _ hW);have P:=Za hW;clear hW;go_enter Tryz.func39,Tryz.ntmps39;go_wp2_with(go_at_call 38;rw[<-P.o];refine(xO _ _ m.m m2.m _ (J.o.1.below E.o.2.2 (Zb _)) (J.o.2.2.1.below E.o.2.2 (Zb _)) O.o.1).mono ?_;rintro e w1 ⟨⟨r0,rfl,H⟩,C⟩;refine aD ?_);have B:=Za (jM E.o C);have Q0:=Za H;clear C H;have x0:=B.o.1.q 0 rfl;have y0:=B.o.2.1.q 0 rfl;have x1:=B.o.1.q 1 rfl;have y1:=B.o.2.1.q 1 rfl;have x2:=B.o.1.q 2 rfl;have y2:=B.o.2.1.q 2 rfl;have x3:=B.o.1.q 3 rfl;have y3:=B.o.2.1.q 3 rfl;have x4:=B.o.1.q 4 rfl;have y4:=B.o.2.1.q 4 rfl;refine aC ?_;cases r0 with
 |false=>
  go_wp2;go_ret;exact bR.no (fun h=>by have:=Q0.o.2 (by rw[h]);cases this) B.o.2.2
 |true=>
  go_wp2_with(go_at_call 38;refine(xO _ _ m.v m2.v _ (J.o.2.1.below B.o.2.2 (Zb _)) (J.o.2.2.2.below B.o.2.2 (Zb _)) O.o.2).mono ?_;rintro e w2 ⟨⟨r1,rfl,I⟩,D⟩;refine aD ?_);have A:=Za (jM B.o D);have Q1:=Za I;clear x0 y0 x1 y1 x2 y2 x3 y3 x4 y4;clear D I;have x0:=A.o.1.q 0 rfl;have y0:=A.o.2.1.q 0 rfl;have x1:=A.o.1.q 1 rfl;have y1:=A.o.2.1.q 1 rfl;have x2:=A.o.1.q 2 rfl;have y2:=A.o.2.1.q 2 rfl;have x3:=A.o.1.q 3 rfl;have y3:=A.o.2.1.q 3 rfl;have x4:=A.o.1.q 4 rfl;have y4:=A.o.2.1.q 4 rfl;refine aC ?_;cases r1 with
  |false=>
   go_wp2;go_ret;exact bR.no (fun h=>by have:=Q1.o.2 (by rw[h]);cases this) A.o.2.2
  |true=>
   by_cases q2:m.powMu=m2.powMu;rotate_left
   ·have L:(m.powMu==m2.powMu)=false:=by simp[q2]
    have Q2:=Za q2;clear q2;go_wp2;go_ret;exact bR.no (fun h=>Q2.o (by rw[h])) A.o.2.2
   have L:(m.powMu==m2.powMu)=true:=by simp[q2]
   have Q2:=Za q2;clear q2;by_cases q3:m.powNu=m2.powNu;rotate_left
   ·have M:(m.powNu==m2.powNu)=false:=by simp[q3]
    have Q3:=Za q3;clear q3;go_wp2;go_ret;exact bR.no (fun h=>Q3.o (by rw[h])) A.o.2.2
   have M:(m.powNu==m2.powNu)=true:=by simp[q3]
   have Q3:=Za q3;clear q3;by_cases q4:m.steps=m2.steps;rotate_left
   ·have N:(m.steps==m2.steps)=false:=by simp[q4]
    have Q4:=Za q4;clear q4;go_wp2;go_ret;exact bR.no (fun h=>Q4.o (by rw[h])) A.o.2.2
   have N:(m.steps==m2.steps)=true:=by simp[q4]
   have Q4:=Za q4;clear q4;go_wp2;go_ret;exact bR.yes (by have F:m.m=m2.m:=(by simpa using Q0.o);have G:m.v=m2.v:=(by simpa using Q1.o);have h3:=Q2.o;have h4:=Q3.o;have h5:=Q4.o;cases m;cases m2;simp only at F G h3 h4 h5;rw[F,G,h3,h4,h5]) A.o.2.2
theorem LE (vs us:Value) (r r2:A9) (w:World) (E:Rd w .u64 vs r.script) (g1:Rd w .u64 us r2.script) (l1:r.script.length<=140737488351232):
  Calls Tryz.prog 40 #[.agg #[vs,.int .u64 r.s0,.int .u64 r.s1,.int .u64 r.s2,.int .u64 r.s3],.agg #[us,.int .u64 r2.s0,.int .u64 r2.s1,.int .u64 r2.s2,.int .u64 r2.s3]] w (bR w (r=r2)):=by
 obtain⟨o1,c1,rfl⟩:=aU E;obtain⟨o3,c3,rfl⟩:=aU g1;have I:=Za (Zd E g1);have J:=Za l1;clear E g1 l1;have G:=D4 r.s0 r.s1 r.s2 r.s3 r2.s0 r2.s1 r2.s2 r2.s3;obtain⟨q4,C⟩:=Zx ((r.s0==r2.s0&&(r.s1==r2.s1&&(r.s2==r2.s2&&r.s3==r2.s3))));rw[<-C]at G;have H:=Za C;clear C;obtain⟨W,hW⟩:=Zx ((w.alloc (.cells #[.slice o1 r.script.length c1,.int .u64 r.s0,.int .u64 r.s1,.int .u64 r.s2,.int .u64 r.s3] 43)).alloc (.cells #[.slice o3 r2.script.length c3,.int .u64 r2.s0,.int .u64 r2.s1,.int .u64 r2.s2,.int .u64 r2.s3] 43));have D:=Za (oJ w _ _ _ hW);have L:=Za hW;clear hW;go_enter Tryz.func40,Tryz.ntmps40;go_wp2_with(go_at_call 97;rw[<-L.o];refine(((JF _ _ r.script r2.script _ (I.o.1.below D.o.2.2 (Zb _)) (I.o.2.below D.o.2.2 (Zb _)) J.o).mono fun e w h=>qR h)).mono ?_;rintro e w1 ⟨⟨r0,rfl,F⟩,B⟩;refine aD ?_);have A:=Za (jM D.o B);have Q0:=Za F;clear B F;have x0:=A.o.1.q 0 rfl;have y0:=A.o.2.1.q 0 rfl;have x1:=A.o.1.q 1 rfl;have y1:=A.o.2.1.q 1 rfl;have x2:=A.o.1.q 2 rfl;have y2:=A.o.2.1.q 2 rfl;have x3:=A.o.1.q 3 rfl;have y3:=A.o.2.1.q 3 rfl;have x4:=A.o.1.q 4 rfl;have y4:=A.o.2.1.q 4 rfl;refine aC ?_;cases r0 with
 |false=>
  go_wp2;go_ret;exact bR.no (fun h=>by have:=Q0.o.2 (by rw[h]);cases this) A.o.2.2
 |true=>
  go_wp2;go_ret;exact bR.of (by
   have E:r.script=r2.script:=by simpa using Q0.o
   rw[H.o];cases r;cases r2;simp only at E;simp[E]) A.o.2.2
theorem GU (vs us:Value) (c d:CurD) (w:World) (D:Rd w .i64 vs c.order) (g1:Rd w .i64 us d.order) (l1:c.order.length<=140737488351232):
  Calls Tryz.prog 41 #[.agg #[vs,.int .i64 c.at_,.int .i64 c.epoch],.agg #[us,.int .i64 d.at_,.int .i64 d.epoch]] w (bR w (c=d)):=by
 obtain⟨o1,c1,rfl⟩:=aU D;obtain⟨o3,c3,rfl⟩:=aU g1;have H:=Za (Zd D g1);have I:=Za l1;clear D g1 l1;obtain⟨W,hW⟩:=Zx ((w.alloc (.cells #[.slice o1 c.order.length c1,.int .i64 c.at_,.int .i64 c.epoch] 45)).alloc (.cells #[.slice o3 d.order.length c3,.int .i64 d.at_,.int .i64 d.epoch] 45));have C:=Za (oJ w _ _ _ hW);have J:=Za hW;clear hW;go_enter Tryz.func41,Tryz.ntmps41;go_wp2_with(go_at_call 94;rw[<-J.o];refine(((pI _ _ c.order d.order _ (H.o.1.below C.o.2.2 (Zb _)) (H.o.2.below C.o.2.2 (Zb _)) I.o).mono fun e w h=>qR h)).mono ?_;rintro e w1 ⟨⟨r0,rfl,E⟩,B⟩;refine aD ?_);have A:=Za (jM C.o B);have Q0:=Za E;clear B E;have x0:=A.o.1.q 0 rfl;have y0:=A.o.2.1.q 0 rfl;have x1:=A.o.1.q 1 rfl;have y1:=A.o.2.1.q 1 rfl;have x2:=A.o.1.q 2 rfl;have y2:=A.o.2.1.q 2 rfl;refine aC ?_;cases r0 with
 |false=>
  go_wp2;go_ret;exact bR.no (fun h=>by have:=Q0.o.2 (by rw[h]);cases this) A.o.2.2
 |true=>
  by_cases q1:c.at_=d.at_;rotate_left
  ·have F:(c.at_==d.at_)=false:=by simp[q1]
   have Q1:=Za q1;clear q1;go_wp2;go_ret;exact bR.no (fun h=>Q1.o (by rw[h])) A.o.2.2
  have F:(c.at_==d.at_)=true:=by simp[q1]
  have Q1:=Za q1;clear q1;by_cases q2:c.epoch=d.epoch;rotate_left
  ·have G:(c.epoch==d.epoch)=false:=by simp[q2]
   have Q2:=Za q2;clear q2;go_wp2;go_ret;exact bR.no (fun h=>Q2.o (by rw[h])) A.o.2.2
  have G:(c.epoch==d.epoch)=true:=by simp[q2]
  have Q2:=Za q2;clear q2;go_wp2;go_ret;exact bR.yes (by have D:c.order=d.order:=(by simpa using Q0.o);have h2:=Q1.o;have h3:=Q2.o;cases c;cases d;simp only at D h2 h3;rw[D,h2,h3]) A.o.2.2
def cG (s:aT) (vi vl vp vm vv vr vc:Value):Array Value:=#[.int .i64 s.f,vi,vl,.int .i64 s.d.loss,.int .i64 s.h.kind,.int .i64 s.h.rate,.int .i64 s.h.mu,.int .i64 s.h.nu,.int .i64 s.h.eps,.int .i64 s.h.decay,.int .i64 s.h.clip,.int .i64 s.h.sched,.int .i64 s.h.every,vp,vm,vv,.int .i64 s.m.powMu,.int .i64 s.m.powNu,.int .i64 s.m.steps,vr,.int .u64 s.r.s0,.int .u64 s.r.s1,.int .u64 s.r.s2,.int .u64 s.r.s3,vc,.int .i64 s.c.at_,.int .i64 s.c.epoch]
structure dN (w:World) (s:aT) (vi vl vp vm vv vr vc:Value):Prop where
 d:fZ w vi vl s.d
 ps:bD w vp s.ps
 m:bD w vm s.m.m
 v:bD w vv s.m.v
 r:Rd w .u64 vr s.r.script
 c:Rd w .i64 vc s.c.order
 lps:eR s.ps
 lm:eR s.m.m
 lv:eR s.m.v
 lr:s.r.script.length<=140737488351232
 lc:s.c.order.length<=140737488351232
theorem dN.below {w w':World} {B:Nat} {s:aT} {vi vl vp vm vv vr vc:Value} (h:dN w s vi vl vp vm vv vr vc) (A:Below B w w') (C:w.heap.size<=B):dN w' s vi vl vp vm vv vr vc:=
 ⟨⟨h.d.input.below A C,h.d.lays.below A C,h.d.lim1,h.d.lim2⟩,h.ps.below A C,h.m.below A C,h.v.below A C,h.r.below A C,h.c.below A C,h.lps,h.lm,h.lv,h.lr,h.lc⟩
theorem dN.next {w w':World} {s:aT} {vi vl vp vm vv vr vc:Value} (h:dN w s vi vl vp vm vv vr vc) (hb:Below w.heap.size w w'):dN w' s vi vl vp vm vv vr vc:=h.below hb (Zb _)
theorem dN.slices {w:World} {s:aT} {vi vl vp vm vv vr vc:Value} (h:dN w s vi vl vp vm vv vr vc):
  ∃o1 c1 o2 c2 o3 c3 o4 c4 o5 c5 o6 c6 o7 c7,vi=.slice o1 s.d.input.length c1/\vl=.slice o2 s.d.lays.length c2/\vp=.slice o3 s.ps.length c3/\vm=.slice o4 s.m.m.length c4/\vv=.slice o5 s.m.v.length c5/\vr=.slice o6 s.r.script.length c6/\vc=.slice o7 s.c.order.length c7:=by obtain⟨o1,c1,h1⟩:=aU h.d.input;obtain⟨o2,c2,h2⟩:=h.d.lays.len;obtain⟨o3,c3,h3⟩:=h.ps.slice;obtain⟨o4,c4,h4⟩:=h.m.slice;obtain⟨o5,c5,h5⟩:=h.v.slice;obtain⟨o6,c6,h6⟩:=aU h.r;obtain⟨o7,c7,h7⟩:=aU h.c;exact⟨o1,c1,o2,c2,o3,c3,o4,c4,o5,c5,o6,c6,o7,c7,h1,h2,h3,h4,h5,h6,h7⟩
theorem ID (h g:hH):∃r,(∀w,(Op.equalIn 10000 35 (.agg #[.int .i64 h.kind,.int .i64 h.rate,.int .i64 h.mu,.int .i64 h.nu,.int .i64 h.eps,.int .i64 h.decay,.int .i64 h.clip,.int .i64 h.sched,.int .i64 h.every]) (.agg #[.int .i64 g.kind,.int .i64 g.rate,.int .i64 g.mu,.int .i64 g.nu,.int .i64 g.eps,.int .i64 g.decay,.int .i64 g.clip,.int .i64 g.sched,.int .i64 g.every])).run Tryz.prog w=.ok r w)/\(r=true↔h=g):=by
 refine⟨decide (h=g),fun w=>?_,by simp⟩;have key:∀(d:Nat) (x y:Int) (w:World),(Op.equalIn (d+1) 3 (.int .i64 x) (.int .i64 y)).run Tryz.prog w=.ok (x==y) w:=fun d x y w=>run_equalIn_int w d 3 .i64 .i64 x y Tryz.underlying3;have key2:∀(d:Nat) (x y:Int) (w:World),(Op.equalIn (d+1) 2 (.int .i64 x) (.int .i64 y)).run Tryz.prog w=.ok (x==y) w:=fun d x y w=>run_equalIn_int w d 2 .i64 .i64 x y Tryz.underlying2;obtain⟨a0,a1,a2,a3,a4,a5,a6,a7,a8⟩:=h;obtain⟨b0,b1,b2,b3,b4,b5,b6,b7,b8⟩:=g;have hA:∀w,(isAgg 3).run Tryz.prog w=.ok false w:=fun w=>by kernel_rfl
 have C:∀w,(isAgg 2).run Tryz.prog w=.ok false w:=fun w=>by kernel_rfl
 have B:∀(cs:Array Value) (i:Nat) (v:Value) (w:World),cs[i]?=some v->(part 3 cs i).run Tryz.prog w=.ok v w:=by intro cs i v w hv;simp only[part,Sem.run_bind,hA,Result.andThen_ok,Bool.false_eq_true,if_false,hv,Sem.run_pure]
 have A:∀(cs:Array Value) (i:Nat) (v:Value) (w:World),cs[i]?=some v->(part 2 cs i).run Tryz.prog w=.ok v w:=by intro cs i v w hv;simp only[part,Sem.run_bind,C,Result.andThen_ok,Bool.false_eq_true,if_false,hv,Sem.run_pure]
 rw[run_equalIn_struct w 9999 35 _ _ (by simp[Program.fieldsOf,Tryz.underlying35]) (by kernel_rfl)];simp only[Program.fieldsOf,Tryz.underlying35,Op.eqFields];have e:(decide ((⟨a0,a1,a2,a3,a4,a5,a6,a7,a8⟩:hH)=⟨b0,b1,b2,b3,b4,b5,b6,b7,b8⟩))=(a0==b0&&(a1==b1&&(a2==b2&&(a3==b3&&(a4==b4&&(a5==b5&&(a6==b6&&(a7==b7&&a8==b8)))))))):=by rw[Bool.eq_iff_iff];simp
 rw[e];clear e;rw[if_pos (by decide),Sem.run_bind,B _ 0 (.int .i64 a0) _ rfl];simp only[Result.andThen_ok];rw[Sem.run_bind,B _ 0 (.int .i64 b0) _ rfl];simp only[Result.andThen_ok];rw[Sem.run_bind,key 9998];simp only[Result.andThen_ok];cases a0==b0
 ·simp
 simp only[Bool.not_true,Bool.false_eq_true,if_false,Bool.true_and];rw[if_pos (by decide),Sem.run_bind,A _ 1 (.int .i64 a1) _ rfl];simp only[Result.andThen_ok];rw[Sem.run_bind,A _ 1 (.int .i64 b1) _ rfl];simp only[Result.andThen_ok];rw[Sem.run_bind,key2 9998];simp only[Result.andThen_ok];cases a1==b1
 ·simp
 simp only[Bool.not_true,Bool.false_eq_true,if_false,Bool.true_and];rw[if_pos (by decide),Sem.run_bind,A _ 2 (.int .i64 a2) _ rfl];simp only[Result.andThen_ok];rw[Sem.run_bind,A _ 2 (.int .i64 b2) _ rfl];simp only[Result.andThen_ok];rw[Sem.run_bind,key2 9998];simp only[Result.andThen_ok];cases a2==b2
 ·simp
 simp only[Bool.not_true,Bool.false_eq_true,if_false,Bool.true_and];rw[if_pos (by decide),Sem.run_bind,A _ 3 (.int .i64 a3) _ rfl];simp only[Result.andThen_ok];rw[Sem.run_bind,A _ 3 (.int .i64 b3) _ rfl];simp only[Result.andThen_ok];rw[Sem.run_bind,key2 9998];simp only[Result.andThen_ok];cases a3==b3
 ·simp
 simp only[Bool.not_true,Bool.false_eq_true,if_false,Bool.true_and];rw[if_pos (by decide),Sem.run_bind,A _ 4 (.int .i64 a4) _ rfl];simp only[Result.andThen_ok];rw[Sem.run_bind,A _ 4 (.int .i64 b4) _ rfl];simp only[Result.andThen_ok];rw[Sem.run_bind,key2 9998];simp only[Result.andThen_ok];cases a4==b4
 ·simp
 simp only[Bool.not_true,Bool.false_eq_true,if_false,Bool.true_and];rw[if_pos (by decide),Sem.run_bind,A _ 5 (.int .i64 a5) _ rfl];simp only[Result.andThen_ok];rw[Sem.run_bind,A _ 5 (.int .i64 b5) _ rfl];simp only[Result.andThen_ok];rw[Sem.run_bind,key2 9998];simp only[Result.andThen_ok];cases a5==b5
 ·simp
 simp only[Bool.not_true,Bool.false_eq_true,if_false,Bool.true_and];rw[if_pos (by decide),Sem.run_bind,A _ 6 (.int .i64 a6) _ rfl];simp only[Result.andThen_ok];rw[Sem.run_bind,A _ 6 (.int .i64 b6) _ rfl];simp only[Result.andThen_ok];rw[Sem.run_bind,key2 9998];simp only[Result.andThen_ok];cases a6==b6
 ·simp
 simp only[Bool.not_true,Bool.false_eq_true,if_false,Bool.true_and];rw[if_pos (by decide),Sem.run_bind,B _ 7 (.int .i64 a7) _ rfl];simp only[Result.andThen_ok];rw[Sem.run_bind,B _ 7 (.int .i64 b7) _ rfl];simp only[Result.andThen_ok];rw[Sem.run_bind,key 9998];simp only[Result.andThen_ok];cases a7==b7
 ·simp
 simp only[Bool.not_true,Bool.false_eq_true,if_false,Bool.true_and];rw[if_pos (by decide),Sem.run_bind,B _ 8 (.int .i64 a8) _ rfl];simp only[Result.andThen_ok];rw[Sem.run_bind,B _ 8 (.int .i64 b8) _ rfl];simp only[Result.andThen_ok];rw[Sem.run_bind,key 9998];simp only[Result.andThen_ok];cases a8==b8
 ·simp
 simp only[Bool.not_true,Bool.false_eq_true,if_false,Bool.true_and];rfl
theorem PV (s t:aT) (vi vl vp vm vv vr vc ui ul up um uv ur uc:Value) (w:World) (hr:dN w s vi vl vp vm vv vr vc) (hs:dN w t ui ul up um uv ur uc):
  Calls Tryz.prog 11 #[.agg (cG s vi vl vp vm vv vr vc),.agg (cG t ui ul up um uv ur uc)] w (bR w (s=t)):=by
 obtain⟨o1,c1,o2,c2,o3,c3,o4,c4,o5,c5,o6,c6,o7,c7,rfl,rfl,rfl,rfl,rfl,rfl,rfl⟩:=hr.slices;obtain⟨do1,dc1,do2,dc2,do3,dc3,do4,dc4,do5,dc5,do6,dc6,do7,dc7,rfl,rfl,rfl,rfl,rfl,rfl,rfl⟩:=hs.slices;have F:=Za hr;have N:=Za hs;clear hr hs;simp only[cG];obtain⟨W,hW⟩:=Zx ((w.alloc (.cells (dJ s o1 c1 o2 c2 o3 c3 o4 c4 o5 c5 o6 c6 o7 c7) 47)).alloc (.cells #[.int .i64 t.f,.slice do1 t.d.input.length dc1,.slice do2 t.d.lays.length dc2,.int .i64 t.d.loss,.int .i64 t.h.kind,.int .i64 t.h.rate,.int .i64 t.h.mu,.int .i64 t.h.nu,.int .i64 t.h.eps,.int .i64 t.h.decay,.int .i64 t.h.clip,.int .i64 t.h.sched,.int .i64 t.h.every,.slice do3 t.ps.length dc3,.slice do4 t.m.m.length dc4,.slice do5 t.m.v.length dc5,.int .i64 t.m.powMu,.int .i64 t.m.powNu,.int .i64 t.m.steps,.slice do6 t.r.script.length dc6,.int .u64 t.r.s0,.int .u64 t.r.s1,.int .u64 t.r.s2,.int .u64 t.r.s3,.slice do7 t.c.order.length dc7,.int .i64 t.c.at_,.int .i64 t.c.epoch] 47));have G:=Za (oJ w _ _ _ hW);have X:=Za hW;clear hW;go_enter Tryz.func11,Tryz.ntmps11;by_cases q0:s.f=t.f;rotate_left
 ·have V:(s.f==t.f)=false:=by simp[q0]
  have Q0:=Za q0;clear q0;go_wp2;go_ret;exact bR.no (fun h=>Q0.o (by rw[h])) (by have:=G.o.2.2;rw[X.o]at this;exact this)
 have V:(s.f==t.f)=true:=by simp[q0]
 have Q0:=Za q0;clear q0;go_wp2_with(go_at_call 37;rw[<-X.o];refine(K6 _ _ _ _ s.d t.d _ (F.o.below G.o.2.2 (Zb _)).d (N.o.below G.o.2.2 (Zb _)).d).mono ?_;rintro e w1 ⟨⟨r1,rfl,O⟩,H⟩;refine aD ?_);have B:=Za (jM G.o H);have Q1:=Za O;clear H O;have x0:=B.o.1.q 0 rfl;have y0:=B.o.2.1.q 0 rfl;have x1:=B.o.1.q 1 rfl;have y1:=B.o.2.1.q 1 rfl;have x2:=B.o.1.q 2 rfl;have y2:=B.o.2.1.q 2 rfl;have x3:=B.o.1.q 3 rfl;have y3:=B.o.2.1.q 3 rfl;have x4:=B.o.1.q 4 rfl;have y4:=B.o.2.1.q 4 rfl;have x5:=B.o.1.q 5 rfl;have y5:=B.o.2.1.q 5 rfl;have x6:=B.o.1.q 6 rfl;have y6:=B.o.2.1.q 6 rfl;have x7:=B.o.1.q 7 rfl;have y7:=B.o.2.1.q 7 rfl;have x8:=B.o.1.q 8 rfl;have y8:=B.o.2.1.q 8 rfl;have x9:=B.o.1.q 9 rfl;have y9:=B.o.2.1.q 9 rfl;have x10:=B.o.1.q 10 rfl;have y10:=B.o.2.1.q 10 rfl;have x11:=B.o.1.q 11 rfl;have y11:=B.o.2.1.q 11 rfl;have x12:=B.o.1.q 12 rfl;have y12:=B.o.2.1.q 12 rfl;have x13:=B.o.1.q 13 rfl;have y13:=B.o.2.1.q 13 rfl;have x14:=B.o.1.q 14 rfl;have y14:=B.o.2.1.q 14 rfl;have x15:=B.o.1.q 15 rfl;have y15:=B.o.2.1.q 15 rfl;have x16:=B.o.1.q 16 rfl;have y16:=B.o.2.1.q 16 rfl;have x17:=B.o.1.q 17 rfl;have y17:=B.o.2.1.q 17 rfl;have x18:=B.o.1.q 18 rfl;have y18:=B.o.2.1.q 18 rfl;have x19:=B.o.1.q 19 rfl;have y19:=B.o.2.1.q 19 rfl;have x20:=B.o.1.q 20 rfl;have y20:=B.o.2.1.q 20 rfl;have x21:=B.o.1.q 21 rfl;have y21:=B.o.2.1.q 21 rfl;have x22:=B.o.1.q 22 rfl;have y22:=B.o.2.1.q 22 rfl;have x23:=B.o.1.q 23 rfl;have y23:=B.o.2.1.q 23 rfl;have x24:=B.o.1.q 24 rfl;have y24:=B.o.2.1.q 24 rfl;have x25:=B.o.1.q 25 rfl;have y25:=B.o.2.1.q 25 rfl;have x26:=B.o.1.q 26 rfl;have y26:=B.o.2.1.q 26 rfl;refine aC ?_;cases r1 with
 |false=>
  go_wp2;go_ret;exact bR.no (fun h=>by have:=Q1.o.2 (by rw[h]);cases this) B.o.2.2
 |true=>
  obtain⟨r2,Y,kq2⟩:=ID s.h t.h;have Q2:=Za kq2;clear kq2;cases r2 with
  |false=>
   go_wp2;go_ret;exact bR.no (fun h=>by have:=Q2.o.2 (by rw[h]);cases this) B.o.2.2
  |true=>
   go_wp2_with(go_at_call 38;refine(xO _ _ s.ps t.ps _ (F.o.below B.o.2.2 (Zb _)).ps (N.o.below B.o.2.2 (Zb _)).ps F.o.lps).mono ?_;rintro e w2 ⟨⟨r3,rfl,P⟩,I⟩;refine aD ?_);have A:=Za (jM B.o I);have Q3:=Za P;clear x0 y0 x1 y1 x2 y2 x3 y3 x4 y4 x5 y5 x6 y6 x7 y7 x8 y8 x9 y9 x10 y10 x11 y11 x12 y12 x13 y13 x14 y14 x15 y15 x16 y16 x17 y17 x18 y18 x19 y19 x20 y20 x21 y21 x22 y22 x23 y23 x24 y24 x25 y25 x26 y26;clear I P;have x0:=A.o.1.q 0 rfl;have y0:=A.o.2.1.q 0 rfl;have x1:=A.o.1.q 1 rfl;have y1:=A.o.2.1.q 1 rfl;have x2:=A.o.1.q 2 rfl;have y2:=A.o.2.1.q 2 rfl;have x3:=A.o.1.q 3 rfl;have y3:=A.o.2.1.q 3 rfl;have x4:=A.o.1.q 4 rfl;have y4:=A.o.2.1.q 4 rfl;have x5:=A.o.1.q 5 rfl;have y5:=A.o.2.1.q 5 rfl;have x6:=A.o.1.q 6 rfl;have y6:=A.o.2.1.q 6 rfl;have x7:=A.o.1.q 7 rfl;have y7:=A.o.2.1.q 7 rfl;have x8:=A.o.1.q 8 rfl;have y8:=A.o.2.1.q 8 rfl;have x9:=A.o.1.q 9 rfl;have y9:=A.o.2.1.q 9 rfl;have x10:=A.o.1.q 10 rfl;have y10:=A.o.2.1.q 10 rfl;have x11:=A.o.1.q 11 rfl;have y11:=A.o.2.1.q 11 rfl;have x12:=A.o.1.q 12 rfl;have y12:=A.o.2.1.q 12 rfl;have x13:=A.o.1.q 13 rfl;have y13:=A.o.2.1.q 13 rfl;have x14:=A.o.1.q 14 rfl;have y14:=A.o.2.1.q 14 rfl;have x15:=A.o.1.q 15 rfl;have y15:=A.o.2.1.q 15 rfl;have x16:=A.o.1.q 16 rfl;have y16:=A.o.2.1.q 16 rfl;have x17:=A.o.1.q 17 rfl;have y17:=A.o.2.1.q 17 rfl;have x18:=A.o.1.q 18 rfl;have y18:=A.o.2.1.q 18 rfl;have x19:=A.o.1.q 19 rfl;have y19:=A.o.2.1.q 19 rfl;have x20:=A.o.1.q 20 rfl;have y20:=A.o.2.1.q 20 rfl;have x21:=A.o.1.q 21 rfl;have y21:=A.o.2.1.q 21 rfl;have x22:=A.o.1.q 22 rfl;have y22:=A.o.2.1.q 22 rfl;have x23:=A.o.1.q 23 rfl;have y23:=A.o.2.1.q 23 rfl;have x24:=A.o.1.q 24 rfl;have y24:=A.o.2.1.q 24 rfl;have x25:=A.o.1.q 25 rfl;have y25:=A.o.2.1.q 25 rfl;have x26:=A.o.1.q 26 rfl;have y26:=A.o.2.1.q 26 rfl;refine aC ?_;cases r3 with
   |false=>
    go_wp2;go_ret;exact bR.no (fun h=>by have:=Q3.o.2 (by rw[h]);cases this) A.o.2.2
   |true=>
    go_wp2_with(go_at_call 39;refine(NO _ _ _ _ s.m t.m _ (F.o.below A.o.2.2 (Zb _)).m (F.o.below A.o.2.2 (Zb _)).v (N.o.below A.o.2.2 (Zb _)).m (N.o.below A.o.2.2 (Zb _)).v F.o.lm F.o.lv).mono ?_;rintro e w3 ⟨⟨r4,rfl,R⟩,J⟩;refine aD ?_);have C:=Za (jM A.o J);have Q4:=Za R;clear x0 y0 x1 y1 x2 y2 x3 y3 x4 y4 x5 y5 x6 y6 x7 y7 x8 y8 x9 y9 x10 y10 x11 y11 x12 y12 x13 y13 x14 y14 x15 y15 x16 y16 x17 y17 x18 y18 x19 y19 x20 y20 x21 y21 x22 y22 x23 y23 x24 y24 x25 y25 x26 y26;clear J R;have x0:=C.o.1.q 0 rfl;have y0:=C.o.2.1.q 0 rfl;have x1:=C.o.1.q 1 rfl;have y1:=C.o.2.1.q 1 rfl;have x2:=C.o.1.q 2 rfl;have y2:=C.o.2.1.q 2 rfl;have x3:=C.o.1.q 3 rfl;have y3:=C.o.2.1.q 3 rfl;have x4:=C.o.1.q 4 rfl;have y4:=C.o.2.1.q 4 rfl;have x5:=C.o.1.q 5 rfl;have y5:=C.o.2.1.q 5 rfl;have x6:=C.o.1.q 6 rfl;have y6:=C.o.2.1.q 6 rfl;have x7:=C.o.1.q 7 rfl;have y7:=C.o.2.1.q 7 rfl;have x8:=C.o.1.q 8 rfl;have y8:=C.o.2.1.q 8 rfl;have x9:=C.o.1.q 9 rfl;have y9:=C.o.2.1.q 9 rfl;have x10:=C.o.1.q 10 rfl;have y10:=C.o.2.1.q 10 rfl;have x11:=C.o.1.q 11 rfl;have y11:=C.o.2.1.q 11 rfl;have x12:=C.o.1.q 12 rfl;have y12:=C.o.2.1.q 12 rfl;have x13:=C.o.1.q 13 rfl;have y13:=C.o.2.1.q 13 rfl;have x14:=C.o.1.q 14 rfl;have y14:=C.o.2.1.q 14 rfl;have x15:=C.o.1.q 15 rfl;have y15:=C.o.2.1.q 15 rfl;have x16:=C.o.1.q 16 rfl;have y16:=C.o.2.1.q 16 rfl;have x17:=C.o.1.q 17 rfl;have y17:=C.o.2.1.q 17 rfl;have x18:=C.o.1.q 18 rfl;have y18:=C.o.2.1.q 18 rfl;have x19:=C.o.1.q 19 rfl;have y19:=C.o.2.1.q 19 rfl;have x20:=C.o.1.q 20 rfl;have y20:=C.o.2.1.q 20 rfl;have x21:=C.o.1.q 21 rfl;have y21:=C.o.2.1.q 21 rfl;have x22:=C.o.1.q 22 rfl;have y22:=C.o.2.1.q 22 rfl;have x23:=C.o.1.q 23 rfl;have y23:=C.o.2.1.q 23 rfl;have x24:=C.o.1.q 24 rfl;have y24:=C.o.2.1.q 24 rfl;have x25:=C.o.1.q 25 rfl;have y25:=C.o.2.1.q 25 rfl;have x26:=C.o.1.q 26 rfl;have y26:=C.o.2.1.q 26 rfl;refine aC ?_;cases r4 with
    |false=>
     go_wp2;go_ret;exact bR.no (fun h=>by have:=Q4.o.2 (by rw[h]);cases this) C.o.2.2
    |true=>
     go_wp2_with(go_at_call 40;refine(LE _ _ s.r t.r _ (F.o.below C.o.2.2 (Zb _)).r (N.o.below C.o.2.2 (Zb _)).r F.o.lr).mono ?_;rintro e w4 ⟨⟨r5,rfl,T⟩,L⟩;refine aD ?_);have D:=Za (jM C.o L);have Q5:=Za T;clear x0 y0 x1 y1 x2 y2 x3 y3 x4 y4 x5 y5 x6 y6 x7 y7 x8 y8 x9 y9 x10 y10 x11 y11 x12 y12 x13 y13 x14 y14 x15 y15 x16 y16 x17 y17 x18 y18 x19 y19 x20 y20 x21 y21 x22 y22 x23 y23 x24 y24 x25 y25 x26 y26;clear L T;have x0:=D.o.1.q 0 rfl;have y0:=D.o.2.1.q 0 rfl;have x1:=D.o.1.q 1 rfl;have y1:=D.o.2.1.q 1 rfl;have x2:=D.o.1.q 2 rfl;have y2:=D.o.2.1.q 2 rfl;have x3:=D.o.1.q 3 rfl;have y3:=D.o.2.1.q 3 rfl;have x4:=D.o.1.q 4 rfl;have y4:=D.o.2.1.q 4 rfl;have x5:=D.o.1.q 5 rfl;have y5:=D.o.2.1.q 5 rfl;have x6:=D.o.1.q 6 rfl;have y6:=D.o.2.1.q 6 rfl;have x7:=D.o.1.q 7 rfl;have y7:=D.o.2.1.q 7 rfl;have x8:=D.o.1.q 8 rfl;have y8:=D.o.2.1.q 8 rfl;have x9:=D.o.1.q 9 rfl;have y9:=D.o.2.1.q 9 rfl;have x10:=D.o.1.q 10 rfl;have y10:=D.o.2.1.q 10 rfl;have x11:=D.o.1.q 11 rfl;have y11:=D.o.2.1.q 11 rfl;have x12:=D.o.1.q 12 rfl;have y12:=D.o.2.1.q 12 rfl;have x13:=D.o.1.q 13 rfl;have y13:=D.o.2.1.q 13 rfl;have x14:=D.o.1.q 14 rfl;have y14:=D.o.2.1.q 14 rfl;have x15:=D.o.1.q 15 rfl;have y15:=D.o.2.1.q 15 rfl;have x16:=D.o.1.q 16 rfl;have y16:=D.o.2.1.q 16 rfl;have x17:=D.o.1.q 17 rfl;have y17:=D.o.2.1.q 17 rfl;have x18:=D.o.1.q 18 rfl;have y18:=D.o.2.1.q 18 rfl;have x19:=D.o.1.q 19 rfl;have y19:=D.o.2.1.q 19 rfl;have x20:=D.o.1.q 20 rfl;have y20:=D.o.2.1.q 20 rfl;have x21:=D.o.1.q 21 rfl;have y21:=D.o.2.1.q 21 rfl;have x22:=D.o.1.q 22 rfl;have y22:=D.o.2.1.q 22 rfl;have x23:=D.o.1.q 23 rfl;have y23:=D.o.2.1.q 23 rfl;have x24:=D.o.1.q 24 rfl;have y24:=D.o.2.1.q 24 rfl;have x25:=D.o.1.q 25 rfl;have y25:=D.o.2.1.q 25 rfl;have x26:=D.o.1.q 26 rfl;have y26:=D.o.2.1.q 26 rfl;refine aC ?_;cases r5 with
     |false=>
      go_wp2;go_ret;exact bR.no (fun h=>by have:=Q5.o.2 (by rw[h]);cases this) D.o.2.2
     |true=>
      go_wp2_with(go_at_call 41;refine(GU _ _ s.c t.c _ (F.o.below D.o.2.2 (Zb _)).c (N.o.below D.o.2.2 (Zb _)).c F.o.lc).mono ?_;rintro e w5 ⟨⟨r6,rfl,U⟩,M⟩;refine aD ?_);have E:=Za (jM D.o M);have Q6:=Za U;clear x0 y0 x1 y1 x2 y2 x3 y3 x4 y4 x5 y5 x6 y6 x7 y7 x8 y8 x9 y9 x10 y10 x11 y11 x12 y12 x13 y13 x14 y14 x15 y15 x16 y16 x17 y17 x18 y18 x19 y19 x20 y20 x21 y21 x22 y22 x23 y23 x24 y24 x25 y25 x26 y26;clear M U;have x0:=E.o.1.q 0 rfl;have y0:=E.o.2.1.q 0 rfl;have x1:=E.o.1.q 1 rfl;have y1:=E.o.2.1.q 1 rfl;have x2:=E.o.1.q 2 rfl;have y2:=E.o.2.1.q 2 rfl;have x3:=E.o.1.q 3 rfl;have y3:=E.o.2.1.q 3 rfl;have x4:=E.o.1.q 4 rfl;have y4:=E.o.2.1.q 4 rfl;have x5:=E.o.1.q 5 rfl;have y5:=E.o.2.1.q 5 rfl;have x6:=E.o.1.q 6 rfl;have y6:=E.o.2.1.q 6 rfl;have x7:=E.o.1.q 7 rfl;have y7:=E.o.2.1.q 7 rfl;have x8:=E.o.1.q 8 rfl;have y8:=E.o.2.1.q 8 rfl;have x9:=E.o.1.q 9 rfl;have y9:=E.o.2.1.q 9 rfl;have x10:=E.o.1.q 10 rfl;have y10:=E.o.2.1.q 10 rfl;have x11:=E.o.1.q 11 rfl;have y11:=E.o.2.1.q 11 rfl;have x12:=E.o.1.q 12 rfl;have y12:=E.o.2.1.q 12 rfl;have x13:=E.o.1.q 13 rfl;have y13:=E.o.2.1.q 13 rfl;have x14:=E.o.1.q 14 rfl;have y14:=E.o.2.1.q 14 rfl;have x15:=E.o.1.q 15 rfl;have y15:=E.o.2.1.q 15 rfl;have x16:=E.o.1.q 16 rfl;have y16:=E.o.2.1.q 16 rfl;have x17:=E.o.1.q 17 rfl;have y17:=E.o.2.1.q 17 rfl;have x18:=E.o.1.q 18 rfl;have y18:=E.o.2.1.q 18 rfl;have x19:=E.o.1.q 19 rfl;have y19:=E.o.2.1.q 19 rfl;have x20:=E.o.1.q 20 rfl;have y20:=E.o.2.1.q 20 rfl;have x21:=E.o.1.q 21 rfl;have y21:=E.o.2.1.q 21 rfl;have x22:=E.o.1.q 22 rfl;have y22:=E.o.2.1.q 22 rfl;have x23:=E.o.1.q 23 rfl;have y23:=E.o.2.1.q 23 rfl;have x24:=E.o.1.q 24 rfl;have y24:=E.o.2.1.q 24 rfl;have x25:=E.o.1.q 25 rfl;have y25:=E.o.2.1.q 25 rfl;have x26:=E.o.1.q 26 rfl;have y26:=E.o.2.1.q 26 rfl;refine aC ?_;cases r6 with
      |false=>
       go_wp2;go_ret;exact bR.no (fun h=>by have:=Q6.o.2 (by rw[h]);cases this) E.o.2.2
      |true=>
       go_wp2;go_ret;exact bR.yes (by have h0:=Q0.o;have h1:s.d=t.d:=(by simpa using Q1.o);have h2:s.h=t.h:=(by simpa using Q2.o);have h3:s.ps=t.ps:=(by simpa using Q3.o);have h4:s.m=t.m:=(by simpa using Q4.o);have h5:s.r=t.r:=(by simpa using Q5.o);have h6:s.c=t.c:=(by simpa using Q6.o);cases s;cases t;simp only at h0 h1 h2 h3 h4 h5 h6;rw[h0,h1,h2,h3,h4,h5,h6]) E.o.2.2
def aI (S:Nat->Prop) (w:World) (P:World->Prop):Prop:=∀w',(∀k,S k->w'.heap[k]?=w.heap[k]?)->P w'
theorem aI.here {S:Nat->Prop} {w:World} {P:World->Prop} (h:aI S w P):P w:=h w fun _ _=>rfl
theorem aI.step {S:Nat->Prop} {w w2:World} {P:World->Prop} (h:aI S w P) (hs:∀k,S k->w2.heap[k]?=w.heap[k]?):aI S w2 P:=fun w' hw=>h w' fun k hk=>(hw k hk).trans (hs k hk)
theorem aI.mono {S S':Nat->Prop} {w:World} {P:World->Prop} (h:aI S w P) (hs:∀k,S k->S' k):aI S' w P:=fun w' hw=>h w' fun k hk=>hw k (hs k hk)
theorem aI.imp {S:Nat->Prop} {w:World} {P Q:World->Prop} (h:aI S w P) (A:∀W,P W->Q W):aI S w Q:=fun w' hw=>A _ (h w' hw)
theorem aI.and {S:Nat->Prop} {w:World} {P Q:World->Prop} (h:aI S w P) (k:aI S w Q):aI S w fun W=>P W/\Q W:=fun w' hw=>⟨h w' hw,k w' hw⟩
def Made (a b:World) (k:Nat):Prop:=a.heap.size<=k/\k<b.heap.size
def aL (B:Nat) (w:World) (k:Nat):Prop:=B<=k/\k<w.heap.size
theorem mW {w w':World} {B:Nat} {e:TypeId} {s n:Nat} {v:Value} {xs:List Value} (h:w.ownsRow B e s v n xs) (ha:∀g,v.ownBlock=some g->w'.heap[g]?=w.heap[g]?):w'.ownsRow B e s v n xs:=by
 refine⟨h.1,?_⟩;rcases h.2 with hn|⟨g,cap,cur,rfl,hb,hg,r⟩
 ·exact .inl hn
 ·exact .inr ⟨g,cap,cur,rfl,hb,(ha g rfl).trans hg,r⟩
theorem aI.own {w:World} {B:Nat} {e:TypeId} {K:IntKind} {v:Value} {xs:List Int} (h:aH w B e K v xs):aI (aL B w) w fun W=>Rd W K v xs:=fun w' hw=>
 Rd.of_own (mW h fun g hg=>hw g (h.lt g hg))
theorem aI.grow {B:Nat} {b c:World} {P:World->Prop} (h:aI (aL B b) b P) (hb:Below b.heap.size b c):aI (aL B c) c P:=
 (h.step fun k hk=>hb.block k hk.2).mono fun k hk=>⟨hk.1,Nat.lt_of_lt_of_le hk.2 hb.size⟩
theorem aI.base {B B':Nat} {b:World} {P:World->Prop} (h:aI (aL B b) b P) (hB:B'<=B):aI (aL B' b) b P:=h.mono fun k hk=>⟨Nat.le_trans hB hk.1,hk.2⟩
theorem aI.set {B:Nat} {b:World} {P:World->Prop} (h:aI (aL B b) b P) {S j:Nat} (hS:S<B) (u:Value):aI (aL B (b.setCell ⟨S,j,none⟩ u)) (b.setCell ⟨S,j,none⟩ u) P:=by refine(h.step fun k hk=>Below.heap_setCell _ _ _ _ (fun e=>?_)).mono fun k hk=>⟨hk.1,by simpa [World.setCell]using hk.2⟩;simp at e;have:=hk.1;omega
structure fM (B:Nat) (e:TypeId) (sz:Nat) (w:World) (v:Value) (css:List (List Value)) (P:World->Prop):Prop where
 row:w.ownsRow B e sz v css.length css.flatten
 all:aI (fun k=>aL B w k/\v.ownBlock≠some k) w P
theorem fM.nil (B:Nat) (e:TypeId) (sz:Nat) (w:World) {P:World->Prop} (h:∀W,P W):fM B e sz w (.slice none 0 0) [] P:=⟨World.ownsRow_nil _ _ _ _,fun W _=>h W⟩
theorem fM.snoc {B:Nat} {e:TypeId} {sz:Nat} {w w1 w2:World} {v v':Value} {css:List (List Value)} {cs:List Value} {P Q:World->Prop} {o:Obj} (h:fM B e sz w v css P) (hb:Below w.heap.size w w1) (hB:B<=w.heap.size) (hq:aI (Made w w1) w1 Q)
  (C:w2.ownsRow B e sz v' (css.length+1) (css.flatten++cs)) (hg:(w1.alloc o).grownBy w2 v.ownBlock) (D:v'.ownBlock=v.ownBlock\/v'.ownBlock=some (w1.alloc o).heap.size):fM B e sz w2 v' (css++[cs]) fun W=>P W/\Q W:=by
 have E:=fun g hg=>(h.row.lt g hg).2;have F:∀k,k<w1.heap.size->v.ownBlock≠some k->w2.heap[k]?=w1.heap[k]?:=fun k A G=>(hg.block k (by simp;omega) (fun e=>G e.symm)).trans (Below.heap_alloc w1 o k A);have hs:w1.heap.size<=w2.heap.size:=by have:=hg.size;simp at this;omega
 refine⟨by simpa using C,aI.and ?_ ?_⟩
 ·refine(h.all.step fun k A=>(F k (Nat.lt_of_lt_of_le A.1.2 hb.size) A.2).trans (hb.block k A.1.2)).mono fun k A=>⟨⟨A.1.1,by have:=A.1.2;have:=hb.size;omega⟩,?_⟩;rcases D with e1|e1
  ·rw[e1];exact A.2
  ·rw[e1];intro e2;simp at e2;have:=A.1.2;have:=hb.size;omega
 ·refine(hq.step fun k A=>F k A.2 (fun e2=>?_)).mono fun k A=>⟨⟨Nat.le_trans hB A.1,by have:=A.2;omega⟩,?_⟩
  ·have:=E k e2;have:=A.1;omega
  ·rcases D with e1|e1
   ·rw[e1];intro e2;have:=E k e2;have:=A.1;omega
   ·rw[e1];intro e2;simp at e2;have:=A.2;omega
theorem fM.fin {B:Nat} {e:TypeId} {sz:Nat} {w:World} {v:Value} {css:List (List Value)} {P:World->Prop} (h:fM B e sz w v css P):aI (aL B w) w fun W=>W.ownsRow B e sz v css.length css.flatten/\P W:=
 aI.and (fun w' hw=>mW h.row fun g hg=>hw g (h.row.lt g hg)) (h.all.mono fun k hk=>hk.1)
theorem lW {sz:Nat}:∀(css:List (List Value)) (hl:∀c∈css,c.length=sz) (i j:Nat) (hi:i<css.length) (hj:j<sz),css.flatten[i*sz+j]?=(css[i])[j]?
 |[],hl,i,j,hi,hj=>absurd hi (Nat.not_lt_zero _)
 |c::r,hl,i,j,hi,hj=>by
  have hc:=hl c (by simp);cases i with
  |zero=>rw[List.flatten_cons,Nat.zero_mul,Nat.zero_add,List.getElem?_append_left (by omega)];rfl
  |succ i=>
   have:=lW r (fun c hc=>hl c (by simp[hc])) i j (by simpa using hi) hj;rw[List.flatten_cons,List.getElem?_append_right (by rw[hc,Nat.succ_mul];omega),hc,show(i+1)*sz+j-sz=i*sz+j by rw[Nat.succ_mul];omega,this];rfl
theorem yS {B:Nat} {e:TypeId} {sz:Nat} {w:World} {o:Option Addr} {n cap:Nat} {css:List (List Value)} (h:w.ownsRow B e sz (.slice o n cap) css.length css.flatten) (hl:∀c∈css,c.length=sz) (i:Nat) (hi:i<css.length):
  ∃b,o=some ⟨b,0,none⟩/\∀j u,(css[i])[j]?=some u->w.cell? ⟨b,i*sz+j,none⟩=some u:=by
 rcases h.2 with⟨_,h0⟩|⟨g,cap',cur,he,_,hg,_,_,_,ht⟩
 ·omega
 ·injection he with A h2 h3;subst A;refine⟨g,rfl,fun j u hu=>?_⟩;have hj:j<sz:=by have:=(List.getElem?_eq_some_iff.1 hu).1;rw[hl _ (List.getElem_mem hi)]at this;exact this
  have A:=lW css hl i j hi hj;rw[hu]at A;rw[cell_of_row w g _ cur _ _ hg];rw[<-ht,List.getElem?_take]at A;split at A
  ·simpa using A
  ·cases A
def cQ (w W:World) (T:TypeId) (cs ds es:Array Value):Prop:=aA W w.heap.size T cs/\aA W (w.heap.size+1) T ds/\aA W (w.heap.size+2) T es/\Below w.heap.size w W
theorem oQ (w:World) (T:TypeId) (cs ds es:Array Value) {W:World} (hW:W=((w.alloc (.cells cs T)).alloc (.cells ds T)).alloc (.cells es T)):cQ w W T cs ds es:=by
 obtain⟨V,hV⟩:=Zx ((w.alloc (.cells cs T)).alloc (.cells ds T));obtain⟨h1,h2,h3⟩:=oJ w T cs ds hV;have hs:V.heap.size=w.heap.size+2:=by rw[hV];simp
 rw[<-hV]at hW;subst hW;have hb:=(Zc V.heap.size V).alloc (Zb _) (.cells es T);exact⟨h1.next hb,h2.next hb,by rw[<-hs];exact aA.new _ _ _,h3.trans (hb.mono h3.size)⟩
theorem cQ.next {w W W':World} {T:TypeId} {cs ds es:Array Value} (h:cQ w W T cs ds es) (hb:Below W.heap.size W W'):cQ w W' T cs ds es:=
 ⟨h.1.next hb,h.2.1.next hb,h.2.2.1.next hb,h.2.2.2.trans (hb.mono h.2.2.2.size)⟩
theorem cQ.set {w W:World} {T:TypeId} {cs ds es:Array Value} (h:cQ w W T cs ds es) (j:Nat) (u:Value):cQ w (W.setCell ⟨w.heap.size+2,j,none⟩ u) T cs ds (es.setIfInBounds j u):=
 ⟨h.1.other (by simp) _,h.2.1.other (by simp) _,h.2.2.1.set j u,h.2.2.2.setCell (p:=⟨w.heap.size+2,j,none⟩) (by simp) u⟩
theorem cQ.set2 {w W:World} {T:TypeId} {cs ds es:Array Value} (h:cQ w W T cs ds es) (j:Nat) (u:Value):cQ w (W.setCell ⟨w.heap.size+1,j,none⟩ u) T cs (ds.setIfInBounds j u) es:=
 ⟨h.1.other (by simp) _,h.2.1.set j u,h.2.2.1.other (by simp) _,h.2.2.2.setCell (p:=⟨w.heap.size+1,j,none⟩) (by simp) u⟩
def iX (w:World):Prop:=Lib.TabIs Tryz.prog w "internal/strconv.uint64pow10" .u64 Lib.pow10Tab
theorem iX.below {w w':World} {B:Nat} (h:iX w) (hb:Below B w w') (hs:w.heap.size<=B):iX w':=by
 unfold iX Lib.TabIs World.var? at*;cases hg:Tryz.prog.globalNamed "internal/strconv.uint64pow10" with
 |none=>rw[hg]at h;exact h
 |some g=>
  rw[hg]at h;simp only[Option.bind_some]at h ⊢;cases ho:w.heap[g]? with
  |none=>rw[ho]at h;cases h
  |some o=>
   rw[hb.block g (Nat.lt_of_lt_of_le (Array.getElem?_eq_some_iff.1 ho).1 hs)];exact h
theorem iX.next {w w':World} (h:iX w) (hb:Below w.heap.size w w'):iX w':=h.below hb (Zb _)
theorem eW (a b c:List UInt8) (hc:a++b=c) (hl:c.length<=1000000) (w:World):(Op.stringOp .add ⟨a.toArray⟩ ⟨b.toArray⟩).run Tryz.prog w=.ok (.string ⟨c.toArray⟩) w:=by subst hc;rw[Zl]at hl;exact run_string_add_lists w a b (by omega) (by omega)
theorem KA:∀i j:Fin 12,(bJ[i.val]'i.isLt).kind=(bJ[j.val]'j.isLt).kind->i=j:=by decide
theorem GY (i j:Nat) (hi:i<bJ.length) (hj:j<bJ.length) (h:bJ[i].kind=bJ[j].kind):i=j:=congrArg Fin.val (KA ⟨i,hi⟩ ⟨j,hj⟩ h)
theorem vE (deep:Nat) (left k:Int):∀(ls:List aB),bS deep left ls=some k->0<=left->∀(m:Nat) (hm:m<ls.length),∃lm j,cD deep lm ls[m]=some j/\0<=lm/\lm<=left/\0<=j
 |[],h,h0,m,hm=>absurd hm (Nat.not_lt_zero _)
 |l::r,h,h0,m,hm=>by
  rw[bS]at h;cases h1:cD deep left l with
  |none=>rw[h1]at h;cases h
  |some q=>
   rw[h1]at h;have a:=qB deep left q l h1 h0;cases m with
   |zero=>exact⟨left,q,h1,h0,Int.le_refl _,a.1⟩
   |succ m=>
    obtain⟨lm,j,b1,b2,b3,b4⟩:=vE deep q k r h a.1 m (by simpa using hm);exact⟨lm,j,b1,b2,by omega,b4⟩
theorem BN (a b:List aB):cN (a++b)=cN a++cN b:=by
 induction a with
 |nil=>simp[cN]
 |cons x r ih=>rw[List.cons_append,cN,cN,ih,List.append_assoc]
theorem BX (ls:List aB) (m:Nat) (h:m<ls.length):cN (ls.take (m+1))=cN (ls.take m)++jD ls[m]:=by rw[List.take_succ_eq_append_getElem h,BN,cN,cN,List.append_nil]
theorem F0 (ls:List aB) (m:Nat):(cN (ls.take m)).length<=(cN ls).length:=by have:=BN (ls.take m) (ls.drop m);rw[List.take_append_drop]at this;rw[this,Zl];omega
theorem DY (n:aE) (a b:List Nat):dS n (a++b)=dS n a++dS n b:=by
 induction a with
 |nil=>rfl
 |cons x r ih=>simp[dS,ih]
structure TAt (w0:World) (lb rb:Nat) (n:aE) (vb:Value) (W:World):Prop where
 lay:aA W lb 175 (n.cells vb).toArray
 rows:kU W rb
 low:Below w0.heap.size w0 W
 tab:iX W
theorem TAt.next {w0 W W':World} {lb rb:Nat} {n:aE} {vb:Value} (h:TAt w0 lb rb n vb W) (hb:Below W.heap.size W W'):TAt w0 lb rb n vb W':=
 ⟨h.lay.next hb,h.rows.below hb (Zb _),h.low.trans (hb.mono h.low.size),h.tab.next hb⟩
def tB (ls:List aB):Prop:=∀(deep:Nat) (left k:Int) (v:Value) (w:World),bS deep left ls=some k->0<=left->left<=64->bO w v ls->iX w->
 Calls Tryz.prog 101 #[v] w fun e w'=>e=.returned (.string ⟨(cN ls).toArray⟩)/\Below w.heap.size w w'
theorem FE (ls:List aB) (ao:∀l∈ls,tB l.body):tB ls:=by
 intro deep left k0 v w H h0 dq hr ap;obtain⟨o,cap,rfl⟩:=hr.len;have cj:=(nS deep left k0 ls H h0).1;have bl:=pP deep left k0 ls H h0;have dr:ls.length<=64:=by omega
 have ds:(cN ls).length<=2560:=by have:=(qK deep left k0 ls H).2.2;omega
 have HR:=Za hr;have bm:=Za ao;have ck:=Za (vE deep left k0 ls H h0);have HT:=Za ap;clear hr ao H ap cj bl;go_enter Tryz.func101,Tryz.ntmps101;go_wp2;go_loopw[2,11] (fun s i wr=>∃m:Nat,m<=ls.length/\i=.int .i64 m/\s=.string ⟨(cN (ls.take m)).toArray⟩/\Below w.heap.size w wr) (fun _ i _=>ls.length-(intOf i).toNat)
 case atStart=>exact⟨0,Ze _,rfl,rfl,Zc _ _⟩
 case round=>
  obtain⟨m,hm,rfl,rfl,hB⟩:=hrel;obtain⟨w3,rfl⟩:=Zx wr;have HB:=Za hB;clear hB;by_cases aa:m<ls.length
  ·obtain⟨b,off,vb,rfl,A,L,aq⟩:=(HR.o.below HB.o (Zb _)).lay m aa;have M:=Za (BX ls m aa);have D:=F0 ls (m+1);obtain⟨lm,j,ab,dj,dk,du⟩:=ck.o m aa;have HA:=Za (bm.o _ (List.getElem_mem aa));rw[M.o]at D;obtain⟨acc,ar⟩:=Zx (cN (ls.take m));rw[<-ar]at M D ⊢;generalize ls[m]=x at A L aq M D ab HA;obtain⟨n,body⟩:=x;simp only[aB.n,aB.body]at A L aq HA;rw[Zl]at D;have dv:=Za ab;obtain⟨_,ac⟩:=oK ab;have c0:=A 0 _ rfl;have c1:=A 1 _ rfl;have c2:=A 2 _ rfl;have c3:=A 3 _ rfl;have c4:=A 4 _ rfl;have c5:=A 5 _ rfl;have c6:=A 6 _ rfl;have c7:=A 7 _ rfl;have c8:=A 8 _ rfl;simp only[Nat.add_zero]at c0;have cl:=Za L;obtain⟨ob,cb,rfl⟩:=L.len;have bn:=Za (HT.o.below HB.o (Zb _));clear A L ab ar;obtain⟨N,hN⟩:∃N:Array Value,N=(n.cells (.slice ob body.length cb)).toArray:=⟨_,rfl⟩;obtain⟨W,hW⟩:=Zx (w3.alloc (.cells #[.int .i64 n.kind,.int .i64 n.inn,.int .i64 n.o,.int .i64 n.size,.int .i64 n.stride,.int .i64 n.pad,.int .i64 n.percent,.int .i64 n.heads,.slice ob body.length cb] 175));have bo:aA W w3.heap.size 175 (n.cells (.slice ob body.length cb)).toArray:=by rw[hW];exact aA.new _ _ _
   have bp:Below w3.heap.size w3 W:=by rw[hW];exact(Zc _ _).alloc (Zb _) _
   have Z:=Za (Zd bo bp);have HW:=Za hW;clear bo bp hW hN;rcases ac with⟨hk,cm,hn,bq⟩|⟨hk,ay,_⟩
   ·have cn:=Za bq;have co:(n.kind==13)=true:=by simp[hk]
    have B:jD (.mk n body)=dE++[10]++cN body++dA++[10]:=by rw[jD,decide_eq_true hk,cond_true]
    rw[B]at D;obtain⟨inn,O⟩:=Zx (cN body);rw[<-O]at B D;have cp:=Za O;have cq:=Za B;obtain⟨s1,J⟩:=Zy (dE++[10]++inn);obtain⟨s2,P⟩:=Zy (s1++[101,110,100,10]);obtain⟨s3,ad⟩:=Zy (acc++s2);have cr:s1.length<=3000:=by rw[<-J];simp[dE]at D ⊢;omega
    have cs:s2.length<=3000:=by rw[<-P,<-J];simp[dE,dA]at D ⊢;omega
    have ct:s3.length<=3000:=by rw[<-ad,<-P,<-J];simp[dE,dA]at D ⊢;omega
    have A1:=eW (dE++[10]) inn s1 J (by omega);have A2:=eW s1 [101,110,100,10] s2 P (by omega);have A3:=eW acc s2 s3 ad (by omega);have cu:=Za (show cN (ls.take (m+1))=s3 by rw[M.o,cq.o,<-ad,<-P,<-J];simp[dA]);clear hk cm hn bq B D J P ad O cr cs ct;simp only[dE,List.cons_append,List.nil_append]at A1;have k8:=Z.o.1.q 8 rfl;go_wp2_with(go_at_call 101;rw[<-HW.o];refine(HA.o (deep+1) (lm-1) j _ _ cn.o (by omega) (by omega) (cl.o.next Z.o.2) (bn.o.next Z.o.2)).mono ?_;rintro e w4 ⟨rfl,E⟩;refine aD ?_);rw[<-cp.o];have cv:=Za (HB.o.trans ((Z.o.2.trans (E.mono Z.o.2.size)).mono HB.o.size));clear E;refine aC ?_;go_wp2;go_roundw
    case rel=>exact⟨m+1,by omega,by go_num,by rw[cu.o],cv.o⟩
    case measure=>simp[intOf];omega
   ·have co:(n.kind==13)=false:=by simp[hk]
    obtain⟨r,au,av,br,ae,ax⟩:=nQ ay;obtain⟨q,hq,bs⟩:=List.getElem_of_mem br;have dl:q<12:=hq;have B:jD (.mk n body)=kN n:=by rw[jD,decide_eq_false hk,cond_false]
    rw[B]at D;have az:=AZ ay;have bt:kN n=r.text n:=by rw[kN,au]
    obtain⟨acc2,G⟩:=Zx (acc++kN n);have I:=fun k hk=>qP ax av k hk;have HQ:=Za (Zd bs (Zd ae (Zd bt (Zd G I))));have cw:=Za (show cN (ls.take (m+1))=acc2 by rw[M.o,B,G]);have dw:acc.length<=2560:=by omega
    have bu:acc2.length<=2600:=by rw[G,Zl];omega
    have dx:=Za (Z.o.2.mono HB.o.size);clear ay au av br ae ax bs B D az bt G I hk;go_wp2_with(go_at_call 142;rw[<-HW.o];refine(zT _).mono ?_;rintro e w4 ⟨⟨rb,rfl,bw⟩,E⟩;refine aD ?_);have HG:=Za (show TAt w3 w3.heap.size rb n (.slice ob body.length cb) w4 from⟨Z.o.1.next E,bw,Z.o.2.trans (E.mono Z.o.2.size),(bn.o.next Z.o.2).next E⟩);clear bw E;refine aC ?_;go_wp2;go_loopw[2,27] (fun s i wr=>∃k:Nat,k<=12/\i=.int .i64 k/\s=.string ⟨(if k<=q then acc else acc2).toArray⟩/\TAt w3 w3.heap.size rb n (.slice ob body.length cb) wr) (fun _ i _=>12-(intOf i).toNat)
    case atStart=>exact⟨0,Ze _,rfl,by rw[if_pos (Ze _)],HG.o⟩
    case round=>
     obtain⟨k,dm,rfl,rfl,hg⟩:=hrel;obtain⟨w5,rfl⟩:=Zx wr;have R:=Za hg;clear hg;by_cases ba:k<12
     ·have bb:k<bJ.length:=ba;obtain⟨va,vl,vh,r0,r1,r2,r3,r4,af,ag,ah⟩:=R.o.rows k bb;have bx:=wH _ (List.getElem_mem bb);have bc:=Za (GY k q bb hq);obtain⟨rr,bd⟩:=Zx (bJ[k]);rw[<-bd]at r0 r1 af ag ah bx bc;obtain⟨ok1,ok2,ok3,ok4⟩:=bx;obtain⟨rk,word,ats,lo,hi⟩:=rr;simp only at r0 r1 af ag ah ok1 ok2 ok3 ok4 bc;have bz:=Za bd;have cx:=Za af;have OK3:=Za ok3;obtain⟨ofn,cfn,rfl,_⟩:=af;obtain⟨olo,clo,rfl⟩:=aU ag;obtain⟨ohi,chi,rfl⟩:=aU ah;have x0a:∀o:Obj,(w5.alloc o).cell? ⟨w3.heap.size,0,none⟩=some (.int .i64 n.kind):=fun o=>(R.o.lay.next ((Zc w5.heap.size w5).alloc (Zb _) o)).cell 0 rfl;clear bd ag ah ok1 ok2 ok3;by_cases cc:k=q
      ·subst cc;have ae:rk=n.kind:=by have:=HQ.o.2.1;rw[<-HQ.o.1,<-bz.o]at this;exact this
       subst ae;rw[if_pos (Zb _)];have T:r=⟨n.kind,word,ats,lo,hi⟩:=by rw[<-HQ.o.1,<-bz.o]
       have I:=HQ.o.2.2.2.2;rw[T]at I;simp only at I;have cy:=Za I;have U:acc2=acc++word++dS n ats++[10]:=by rw[HQ.o.2.2.2.1,HQ.o.2.2.1,T,bX.text];simp
       have cz:=Za U;have da:acc.length+word.length+(dS n ats).length+1<=2600:=by rw[U]at bu;simp at bu;omega
       obtain⟨aw,ai⟩:=Zy (acc++word);have dn:aw.length+(dS n ats).length+1<=2600:=by rw[<-ai,Zl];omega
       have A1:=eW acc word aw ai (by omega);have db:=Za ai;have dp:(n.kind != n.kind)=false:=by simp
       obtain⟨W4,be⟩:=Zx (w5.alloc (.cells #[.int .i64 n.kind,.string ⟨word.toArray⟩,.slice ofn ats.length cfn,.slice olo lo.length clo,.slice ohi hi.length chi] 219));have E:Below w5.heap.size w5 W4:=by rw[be];exact(Zc _ _).alloc (Zb _) _
       have dc:=Za (R.o.next E);have cd:=Za (cx.o.below E (Zb _));have dd:=Za be;clear T I U da ai E be;go_wp2;rw[<-dd.o];go_loopw[2,43] (fun s i wr=>∃q:Nat,q<=ats.length/\i=.int .i64 q/\s=.string ⟨(aw++dS n (ats.take q)).toArray⟩/\Below W4.heap.size W4 wr) (fun _ i _=>ats.length-(intOf i).toNat)
       case atStart=>exact⟨0,Ze _,rfl,by simp[dS],Zc _ _⟩
       case round=>
        obtain⟨q,hq,rfl,rfl,bg⟩:=hrel;obtain⟨w6,rfl⟩:=Zx wr;have bh:=Za bg;have bi:=Za (dc.o.next bg);clear bg;by_cases V:q<ats.length
        ·obtain⟨bf,of_,rfl,cf⟩:=(cd.o.below bh.o (Zb _)).at q V;have X:=cy.o q V;have bj:ats.take (q+1)=ats.take q++[ats[q]]:=List.take_succ_eq_append_getElem V;have H:ats.getD q 0=ats[q]:=by simp[List.getD_eq_getElem?_getD,V]
         have Y:(dS n (ats.take (q+1))).length<=(dS n ats).length:=by have:=DY n (ats.take (q+1)) (ats.drop (q+1));rw[List.take_append_drop]at this;rw[this,Zl];omega
         rw[H]at X;have aj:=OK3.o _ (List.getElem_mem V);generalize ats[q]=a at cf X bj aj;obtain⟨F,hF⟩:=Zx (lL a);have he:∀args w,(callFunc F args).run Tryz.prog w=.ok (.enter F args) w:=by rw[hF];exact yL a
         have HF:=Za (show ∀b w,Calls Tryz.prog F #[.pointer (some ⟨b,0,none⟩)] w fun e w'=>e=.returned (.pointer (some ⟨b,a,none⟩))/\w=w' from fun b w=>by rw[hF];exact xX a aj b w);rw[<-hF]at cf;obtain⟨x,hx⟩:=Zx (n.fld a);have ca:=bi.o.lay.cell a (n.cell_fld _ a aj);rw[<-hx]at ca;have dy:0<=x:=by rw[hx];exact X.2.2.1
         have dz:x<=4096:=by rw[hx];exact X.2.2.2
         have bk:dS n (ats.take (q+1))=dS n (ats.take q)++(32::Lib.itoa x):=by rw[bj,DY,dS,dS,List.append_nil,<-hx]
         rw[bk]at Y;obtain⟨cur,C⟩:=Zx (aw++dS n (ats.take q));obtain⟨tx,ak⟩:∃tx,[32]++Lib.itoa x=tx:=⟨_,rfl⟩;obtain⟨nx,al⟩:=Zy (cur++tx);have de:cur.length+tx.length<=3000:=by rw[C,<-ak];simp at Y ⊢;omega
         have A2:=eW [32] (Lib.itoa x) tx ak (by omega);have A3:=eW cur tx nx al (by rw[<-al,Zl];omega);have df:=Za (show aw++dS n (ats.take (q+1))=nx by rw[bk,<-al,C,<-ak];simp);have ce:=Za (AB x (by omega) (by omega) _ bi.o.tab);rw[<-C];obtain⟨ix,cg⟩:=Zx (Lib.itoa x);rw[<-cg]at A2 ce;clear bj H Y X hF aj hx bk C ak al de cg;go_wp2_with fail;refine(HF.o _ _).mono ?_;rintro e w' ⟨rfl,rfl⟩;go_wp2_with fail;refine ce.o.mono ?_;rintro e w7 ⟨rfl,ch⟩;have dg:=Za (bh.o.trans (ch.mono bh.o.size));clear ch ca cf;go_wp2;go_roundw
         case rel=>exact⟨q+1,by omega,by go_num,by rw[df.o],dg.o⟩
         case measure=>simp[intOf];omega
        ·obtain rfl:q=ats.length:=by omega
         have ci:ats.take ats.length=ats:=List.take_length;rw[ci];obtain⟨cur,C⟩:=Zx (aw++dS n ats);have HC:=Za (show acc2=cur++[10] by rw[cz.o,C,db.o]);have A2:=eW cur [10] acc2 HC.o.symm (by omega);rw[<-C];clear ci C;go_wp2;go_roundw
         case rel=>exact⟨k+1,by omega,by go_num,by rw[if_neg (by omega)],bi.o⟩
         case measure=>simp[intOf];omega
      ·have ea:(rk != n.kind)=true:=by
        have:¬rk=n.kind:=fun h=>cc (by
         exact bc.o (by rw[h,HQ.o.1,HQ.o.2.1]))
        simpa using this
       have dh:=Za (show(if k<=q then acc else acc2)=(if k+1<=q then acc else acc2) by
        by_cases h:k<=q
        ·rw[if_pos h,if_pos (by omega)]
        ·rw[if_neg h,if_neg (by omega)])
       rw[dh.o];go_wp2;go_roundw
       case rel=>exact⟨k+1,by omega,by go_num,rfl,R.o.next ((Zc _ _).alloc (Zb _) _)⟩
       case measure=>simp[intOf];omega
     ·obtain rfl:k=12:=by omega
      have di:=Za (HB.o.trans (R.o.low.mono HB.o.size));rw[if_neg (by omega)];go_wp2;go_roundw
      case rel=>exact⟨m+1,by omega,by go_num,by rw[cw.o],di.o⟩
      case measure=>simp[intOf];omega
  ·obtain rfl:m=ls.length:=by omega
   have HE:=Za (show cN (ls.take ls.length)=cN ls by rw[List.take_length]);go_wp2;go_ret;exact⟨by rw[HE.o];rfl,HB.o⟩
theorem PY:∀l:aB,tB l.body:=aB.ind fun n body h=>FE body h
theorem xFS (ls:List aB):tB ls:=FE ls fun l _=>PY l
def gN (l:List UInt8) (low high:Int) (w:World) (e:Ending) (w':World):Prop:=
 (∃m,e=.returned (.tuple #[.int .i64 m,.bool (dY l low high).isSome])/\∀x,dY l low high=some x->m=x)/\w=w'
theorem gN.no {l:List UInt8} {low high m:Int} {w:World} (h:dY l low high=none):gN l low high w (.returned (.tuple #[.int .i64 m,.bool false])) w:=
 ⟨⟨m,by rw[h];rfl,fun x hx=>by rw[h]at hx;cases hx⟩,rfl⟩
theorem gN.yes {l:List UInt8} {low high m:Int} {w:World} (h:dY l low high=some m):gN l low high w (.returned (.tuple #[.int .i64 m,.bool true])) w:=
 ⟨⟨m,by rw[h];rfl,fun x hx=>by rw[h]at hx;cases hx;rfl⟩,rfl⟩
def xI (l:List UInt8):Prop:=∀c∈l,kC c=true
theorem NR (l:List UInt8) (h:xI l) (a:Nat):l.foldl (fun n c=>10*n+(c.toNat-48)) a+1<=(a+1)*10^l.length:=by
 induction l generalizing a with
 |nil=>simp
 |cons c l ih=>
  have h2:=h c (by simp);have h3:c.toNat-48<=9:=by simp only[kC,Bool.and_eq_true,decide_eq_true_eq,UInt8.le_iff_toNat_le]at h2;have:(57:UInt8).toNat=57:=rfl;omega
  have h4:=ih (fun x hx=>h x (by simp[hx])) (10*a+(c.toNat-48));have h5:=Nat.mul_le_mul_right (10^l.length) (show 10*a+(c.toNat-48)+1<=10*(a+1) by omega);rw[List.foldl_cons,List.length_cons,Nat.pow_succ];have h6:10*(a+1)*10^l.length=(a+1)*(10^l.length*10):=by rw[Nat.mul_comm 10 (a+1),Nat.mul_assoc,Nat.mul_comm 10]
  omega
theorem MX (l:List UInt8) (h:xI l) (hl:l.length<=4):iG l<10000:=by have h1:=NR l h 0;have h2:10^l.length<=10^4:=Nat.pow_le_pow_right (by omega) hl;rw[iG];omega
theorem wT (l:List UInt8) (k:Nat) (h:k<(⟨l.toArray⟩:ByteArray).size):(⟨l.toArray⟩:ByteArray)[k]'h=l[k]'(by simpa [ByteArray.size]using h):=by
 show l.toArray[k]'_=_
 simp
attribute [local go_sem] wT
theorem RH {l:List UInt8} {low high:Int} (h:4<l.length):dY l low high=none:=by rw[dY,if_pos (.inr (.inl h))]
theorem OU {l:List UInt8} {low high:Int} (h:l.head?=some 48) (h2:1<l.length):dY l low high=none:=by rw[dY,if_pos (.inr (.inr (.inl ⟨h,h2⟩)))]
theorem GW {l:List UInt8} {low high:Int} (h:l.all kC=false):dY l low high=none:=by rw[dY,if_pos (.inr (.inr (.inr h)))]
theorem RU {l:List UInt8} {low high:Int} (h0:l≠[]) (h1:¬4<l.length) (h2:¬(l.head?=some 48/\1<l.length)) (h3:l.all kC=true):
  dY l low high=if low<=iG l/\(iG l:Int)<=high then some (iG l:Int) else none:=by
 rw[dY,if_neg];rintro(h|h|h|h)
 ·exact h0 h
 ·exact h1 h
 ·exact h2 h
 ·rw[h3]at h;cases h
theorem TX {c:UInt8} (h:kC c=false):c.toNat<48\/57<c.toNat:=by simp only[kC,Bool.and_eq_false_iff,decide_eq_false_iff_not,UInt8.le_iff_toNat_le]at h;have h1:(48:UInt8).toNat=48:=rfl;have h2:(57:UInt8).toNat=57:=rfl;omega
theorem JK {c:UInt8} (h:kC c=true):48<=c.toNat/\c.toNat<=57:=by simp only[kC,Bool.and_eq_true,decide_eq_true_eq,UInt8.le_iff_toNat_le]at h;have h1:(48:UInt8).toNat=48:=rfl;have h2:(57:UInt8).toNat=57:=rfl;omega
theorem uZ (l:List UInt8) (low high:Int) (w:World) (hl:l.length<=100000):
  Calls Tryz.prog 155 #[.string ⟨l.toArray⟩,.int .i64 low,.int .i64 high] w (gN l low high w):=by
 cases l with
 |nil=>
  have E:=Za (show dY [] low high=none from by simp[dY]);go_enter Tryz.func155,Tryz.ntmps155;go_wp2;go_ret2;exact gN.no E.o
 |cons c r=>
  by_cases I:4<(c::r).length
  ·have E:=Za (RH (low:=low) (high:=high) I);have h4':(4:Int)<(r.length:Int)+1:=by simp at I;omega
   have M:decide ((4:Int)<(r.length:Int)+1)=true:=decide_eq_true h4';clear I;go_enter Tryz.func155,Tryz.ntmps155;go_wp2;go_ret2
   first|exact gN.no E.o|(rw[<-C.o];exact gN.no E.o)
  ·obtain⟨L,hL⟩:=Zx (c::r);by_cases A:c=48/\1<(c::r).length
   ·have E:=Za (OU (low:=low) (high:=high) (l:=c::r) (by rw[A.1];rfl) A.2);have h4':¬(4:Int)<(r.length:Int)+1:=by simp at I;omega
    have h1':(1:Int)<(r.length:Int)+1:=by have:=A.2;simp at this;omega
    have hc:(c.toNat:Int)=48:=by rw[A.1];rfl
    clear A I;go_enter Tryz.func155,Tryz.ntmps155;go_wp2;go_ret2
    first|exact gN.no E.o|(rw[<-C.o];exact gN.no E.o)
   ·have h4':¬(4:Int)<(r.length:Int)+1:=by simp at I;omega
    have P:=Za (show ¬((c::r).head?=some 48/\1<(c::r).length)from fun h=>A ⟨by simpa using h.1,h.2⟩);have R:(c.toNat:Int)=48->¬(1:Int)<(r.length:Int)+1:=fun h h2=>A ⟨by
     have:c.toNat=(48:UInt8).toNat:=by have:(48:UInt8).toNat=48:=rfl;omega
     exact UInt8.toNat_inj.1 this,by simp;omega⟩
    have T:=Za I;have aa:(c::r).length<=4:=by omega
    obtain⟨l,G⟩:=Zx (c::r);have U:(r.length:Int)+1=(l.length:Int):=by rw[G];simp
    rw[<-G]at aa P T;have C:=Za G;have ab:(c.toNat:Int)=48/\¬(1:Int)<(r.length:Int)+1\/¬(c.toNat:Int)=48:=by
     by_cases h:(c.toNat:Int)=48
     ·exact .inl ⟨h,R h⟩
     ·exact .inr h
    clear A I R G hL hl;rcases ab with⟨ac,ai⟩|ac
    all_goals
     go_enter Tryz.func155,Tryz.ntmps155;go_wp2;rw[<-C.o]
     try simp only[List.length_cons,Int.natCast_add,Int.natCast_one,Int.cast_ofNat_Int]at*
     try rw[U]
     go_loop[8,29] (fun x i=>∃k:Nat,k<=l.length/\i=.int .i64 k/\x=.int .i64 (iG (l.take k):Nat)/\xI (l.take k)) (fun _ i=>l.length-(intOf i).toNat)
     case atStart=>exact⟨0,Ze _,rfl,rfl,fun x N=>by simp at N⟩
     case round=>
      obtain⟨k,hk,rfl,rfl,M⟩:=hrel;by_cases O:k<l.length
      ·have V:l.take (k+1)=l.take k++[l[k]]:=List.take_succ_eq_append_getElem O;have ad:=MX _ M (by rw[List.length_take];omega);have X:=Za V;have HD:=Za M;have aj:k<(⟨l.toArray⟩:ByteArray).size:=by simpa [ByteArray.size]using O
       obtain⟨dv,B⟩:=Zx (iG (l.take k));rw[<-B]at ad ⊢;have ae:=Za B;clear V M B;cases D:kC l[k]with
       |true=>
        have hy:=JK D;have af:=Za D;have H:¬(l[k].toNat:Int)<48:=by omega
        have ag:¬(57:Int)<(l[k].toNat:Int):=by omega
        clear D;go_wp2;go_round
        case rel=>exact⟨k+1,by omega,by go_num,by rw[X.o,AW,<-ae.o];congr 1;omega,by rw[X.o];intro x N;rcases List.mem_append.1 N with N|N;exact HD.o x N;rw[List.mem_singleton.1 N];exact af.o⟩
        case measure=>simp[intOf];omega
       |false=>
        have hy:=TX D;have E:=Za (GW (low:=low) (high:=high) (l:=l) (List.all_eq_false.2 ⟨_,List.getElem_mem O,by rw[D];simp⟩));clear D;have H:(l[k].toNat:Int)<48\/¬(l[k].toNat:Int)<48/\(57:Int)<(l[k].toNat:Int):=by omega
        clear hy;rcases H with H|⟨H,ag⟩
        all_goals
         go_wp2;go_ret2
         first|exact gN.no E.o|(rw[<-C.o];exact gN.no E.o)
      ·obtain rfl:k=l.length:=by omega
       have ah:l≠[]:=by rw[C.o];simp
       rw[List.take_of_length_le (Zb _)]at M ⊢;have F:=RU (low:=low) (high:=high) ah T.o P.o (List.all_eq_true.2 M);obtain⟨dv,B⟩:=Zx (iG l);rw[<-B]at F ⊢;clear M B;by_cases Y:low<=(dv:Int)
       ·by_cases Z:(dv:Int)<=high
        ·rw[if_pos ⟨Y,Z⟩]at F;have J:=Za F;clear F;go_wp2;go_ret2
         first|exact gN.yes J.o|(rw[<-C.o];exact gN.yes J.o)
        ·rw[if_neg (fun h=>Z h.2)]at F;have J:=Za F;clear F;go_wp2;go_ret2
         first|exact gN.no J.o|(rw[<-C.o];exact gN.no J.o)
       ·rw[if_neg (fun h=>Y h.1)]at F;have J:=Za F;clear F;go_wp2;go_ret2
        first|exact gN.no J.o|(rw[<-C.o];exact gN.no J.o)
abbrev vT:=Nat->aV->Option (List aB×Nat×aV)
def wD (g:vT):Prop:=∀left rest p,g left rest=some p->p.2.2.length<=rest.length/\p.1.length+p.2.1<=left
theorem EA (inner:Option vT) (B:∀g,inner=some g->wD g):∀f left rest p,dW inner f left rest=some p->p.2.2.length<=rest.length/\p.1.length+p.2.1<=left:=by
 intro f
 induction f with
 |zero=>
  intro left rest p h;cases rest with
  |nil=>simp[dW]at h;subst h;simp
  |cons a b=>simp[dW]at h
 |succ f ih=>
  intro left rest p h;cases rest with
  |nil=>simp[dW]at h;subst h;simp
  |cons a r=>
   cases a with
   |nil=>simp[dW]at h
   |cons w ws=>
    rw[kH]at h;split at h
    ·injection h with h;subst h;simp
    ·split at h
     ·cases h
     ·rename_i h0;split at h
      ·cases inner with
       |none=>cases h
       |some g=>
        simp only at h;cases hg:g (left-1) r with
        |none=>rw[hg]at h;cases h
        |some q=>
         obtain⟨b,l2,r2⟩:=q;have hs:=B g rfl _ _ _ hg;rw[hg]at h;simp only at h hs;cases r2 with
         |nil=>cases h
         |cons x r3=>
          simp only at h;split at h
          ·cases A:dW (some g) f l2 r3 with
           |none=>rw[A]at h;cases h
           |some q2=>
            obtain⟨l3,a3,b3⟩:=q2;have h3:=ih _ _ _ A;rw[A]at h;injection h with h;subst h;simp only[List.length_cons]at h3 hs ⊢;omega
          ·cases h
      ·cases ho:eH (w::ws)with
       |none=>rw[ho]at h;cases h
       |some n=>
        rw[ho]at h;simp only at h;cases A:dW inner f (left-1) r with
        |none=>rw[A]at h;cases h
        |some q2=>
         obtain⟨l3,a3,b3⟩:=q2;have h3:=ih _ _ _ A;rw[A]at h;injection h with h;subst h;simp only[List.length_cons]at h3 ⊢;omega
theorem tJ:∀d,wD (dU d):=by
 intro d
 induction d with
 |zero=>intro left rest p h;rw[rC]at h;exact EA _ (fun g hg=>by cases hg) _ _ _ _ h
 |succ d ih=>intro left rest p h;rw[rC]at h;exact EA _ (fun g hg=>by cases hg;exact ih) _ _ _ _ h
theorem JG (inner:Option vT) (A:∀g,inner=some g->wD g):∀n f left rest,f<=n->rest.length<=f->dW inner f left rest=dW inner rest.length left rest:=by
 intro n
 induction n with
 |zero=>
  intro f left rest hf hr;have:f=rest.length:=by omega
  rw[this]
 |succ n ih=>
  intro f left rest hf hr;cases rest with
  |nil=>cases f<;>simp[dW]
  |cons a r=>
   cases f with
   |zero=>simp at hr
   |succ f=>
    rw[List.length_cons]at hr ⊢;cases a with
    |nil=>simp[dW]
    |cons w ws=>
     rw[kH,kH];have e1:=ih f (left-1) r (by omega) (by omega);rw[e1];cases inner with
     |none=>rfl
     |some g=>
      cases hg:g (left-1) r with
      |none=>simp only[hg]
      |some q=>
       obtain⟨b,l2,r2⟩:=q;have hs:=A g rfl _ _ _ hg;simp only[hg];cases r2 with
       |nil=>rfl
       |cons x r3=>
        simp only[List.length_cons]at hs ⊢;rw[ih f l2 r3 (by omega) (by omega),ih r.length l2 r3 (by omega) (by omega)]
def dL (d:Nat) (left:Nat) (rest:aV):Option (List aB×Nat×aV):=dW (nT d) rest.length left rest
theorem JY (d left:Nat) (rest:aV):dU d left rest=dL d left rest:=rC d left rest
theorem PR (d left:Nat):dL d left []=some ([],left,[]):=rfl
theorem TU (d left:Nat) (r:aV):dL d left ([]::r)=none:=rfl
theorem J6 (d left:Nat) (w:List UInt8) (ws:List (List UInt8)) (r:aV) (h:w=dA\/w=dV):dL d left ((w::ws)::r)=some ([],left,(w::ws)::r):=by rw[dL,List.length_cons,kH,if_pos h]
theorem LM (d:Nat) (w:List UInt8) (ws:List (List UInt8)) (r:aV) (h:¬(w=dA\/w=dV)):dL d 0 ((w::ws)::r)=none:=by rw[dL,List.length_cons,kH,if_neg h,if_pos rfl]
theorem UP (d left:Nat) (w:List UInt8) (ws:List (List UInt8)) (r:aV) (h:¬(w=dA\/w=dV)) (h0:left≠0) (hr:¬(w=dE/\ws=[])):
  dL d left ((w::ws)::r)=(eH (w::ws)).bind fun n=>(dL d (left-1) r).map fun q=>(.mk n []::q.1,q.2):=by
 rw[dL,List.length_cons,kH,if_neg h,if_neg h0,if_neg hr];cases eH (w::ws)with
 |none=>rfl
 |some n=>
  simp only[Option.bind_some,dL];cases dW (nT d) r.length (left-1) r<;>rfl
theorem IM (left:Nat) (w:List UInt8) (ws:List (List UInt8)) (r:aV) (h:¬(w=dA\/w=dV)) (h0:left≠0) (hr:w=dE/\ws=[]):
  dL 0 left ((w::ws)::r)=none:=by rw[dL,List.length_cons,kH,if_neg h,if_neg h0,if_pos hr];rfl
def pO (d:Nat) (body:List aB) (left2:Nat) (rest2:aV):Option (List aB×Nat×aV):=match rest2 with
 |[]=>none
 |l2::rest3=>if l2=[dA] then(dL (d+1) left2 rest3).map fun q=>(.mk {bN with kind:=13} body::q.1,q.2) else none
theorem GN (d left:Nat) (w:List UInt8) (ws:List (List UInt8)) (r:aV) (h:¬(w=dA\/w=dV)) (h0:left≠0) (hr:w=dE/\ws=[]):
  dL (d+1) left ((w::ws)::r)=(dU d (left-1) r).bind fun q=>pO d q.1 q.2.1 q.2.2:=by
 rw[dL,List.length_cons,kH,if_neg h,if_neg h0,if_pos hr];simp only[nT];cases hg:dU d (left-1) r with
 |none=>rfl
 |some q=>
  obtain⟨b,l2,r2⟩:=q;have hs:=tJ d _ _ _ hg;simp only[Option.bind_some,pO];cases r2 with
  |nil=>rfl
  |cons x r3=>
   simp only[List.length_cons]at hs ⊢;rw[JG (some (dU d)) (fun g hg=>by cases hg;exact tJ d) r.length r.length l2 r3 (Zb _) (by omega)];rw[show dW (some (dU d)) r3.length l2 r3=dL (d+1) l2 r3 from rfl];cases dL (d+1) l2 r3<;>rfl
def fK (T:TypeId) (j:Nat) (u:Value):Prop:=
 if T=100 then u=.slice none 0 0
 else if T=175 then(if j%9=8 then u=.slice none 0 0 else ∃x,u=.int .i64 x)
 else if T=40 then ∃x,u=.int .u64 x
 else(T=3\/T=2)/\∃x,u=.int .i64 x
structure bH (B:Nat) (w w':World):Prop where
 low:Below B w w'
 cells:∀(g:Nat) (cs:Array Value) (T:TypeId) (fr:Nat×Nat),w.heap[g]?=some (.cells cs T fr)->∃cs':Array Value,w'.heap[g]?=some (.cells cs' T fr)/\cs'.size=cs.size/\∀j,cs'[j]?=cs[j]?\/∃u,cs'[j]?=some u/\fK T j u
theorem bH.refl (B:Nat) (w:World):bH B w w:=⟨Zc _ _,fun g cs T fr h=>⟨cs,h,rfl,fun j=>.inl rfl⟩⟩
theorem bH.trans {B:Nat} {a b c:World} (h:bH B a b) (k:bH B b c):bH B a c:=by
 refine⟨h.low.trans k.low,fun g cs T fr hg=>?_⟩;obtain⟨c1,h1,h2,h3⟩:=h.cells g cs T fr hg;obtain⟨c2,k1,k2,k3⟩:=k.cells g c1 T fr h1;refine⟨c2,k1,k2.trans h2,fun j=>?_⟩;rcases k3 j with e|e
 ·rw[e];exact h3 j
 ·exact .inr e
theorem bH.below {B:Nat} {w w':World} (h:Below w.heap.size w w') (hB:B<=w.heap.size):bH B w w':=
 ⟨h.mono hB,fun g cs T fr hg=>⟨cs,(h.block g (Array.getElem?_eq_some_iff.1 hg).1).trans hg,rfl,fun j=>.inl rfl⟩⟩
structure iW (B:Nat) (T:TypeId) (g:Nat) (a w:World):Prop where
 sp:bH B a w
 at_:∃(cs:Array Value) (fr:Nat×Nat),w.heap[g]?=some (.cells cs T fr)
theorem iW.set {B:Nat} {T:TypeId} {g:Nat} {a w:World} (h:iW B T g a w) (hb:B<=g) (j:Nat) (u:Value) (hu:fK T j u):iW B T g a (w.setCell ⟨g,j,none⟩ u):=by
 obtain⟨cs,fr,hg⟩:=h.at_;have hn:(w.setCell ⟨g,j,none⟩ u).heap[g]?=some (.cells (cs.setIfInBounds j u) T fr):=by simp[World.setCell,Array.getElem?_modify,hg]
 refine⟨h.sp.trans ⟨(Zc _ _).setCell (p:=⟨g,j,none⟩) hb u,fun k ds T' fr' hk=>?_⟩,_,fr,hn⟩;by_cases e:k=g
 ·subst e;rw[hg]at hk;injection hk with hk;injection hk with h1 h2 h3;subst h1 h2 h3;refine⟨_,hn,by simp,fun i=>?_⟩;by_cases ei:j=i
  ·subst ei;by_cases A:j<cs.size
   ·exact .inr ⟨u,by simp[A],hu⟩
   ·exact .inl (by simp[A])
  ·exact .inl (by simp[Array.getElem?_setIfInBounds,ei])
 ·exact⟨ds,(Below.heap_setCell _ _ _ _ (fun e'=>e e')).trans hk,rfl,fun i=>.inl rfl⟩
theorem bH.box {B g:Nat} {T:TypeId} {cs:Array Value} {w w':World} (hs:bH B w w') (h:aA w g T cs) (hT:∀j u,¬fK T j u):aA w' g T cs:=by obtain⟨ds,h1,h2,h3⟩:=hs.cells g cs T (0,0) h;have e:ds=cs:=Array.ext_getElem? fun j=>(h3 j).elim id fun⟨u,_,hu⟩=>absurd hu (hT j u);rw[e]at h1;exact h1
theorem s9 {B C:Nat} {e:TypeId} {s n:Nat} {v:Value} {xs:List Value} {w w':World} (h:w.ownsRow B e s v n xs) (hs:bH C w w'):
  ∃xs',w'.ownsRow B e s v n xs'/\∀j,xs'[j]?=xs[j]?\/∃u,xs'[j]?=some u/\fK e j u:=by
 obtain⟨hl,⟨rfl,h0⟩|⟨g,cap,cur,rfl,hb,hg,hn,hm,hc,ht⟩⟩:=h
 ·exact⟨xs,⟨hl,.inl ⟨rfl,h0⟩⟩,fun j=>.inl rfl⟩
 ·obtain⟨cs,h1,h2,h3⟩:=hs.cells g cur e (0,0) hg;have A:n*s<=cs.size:=by rw[h2,hc];exact Nat.mul_le_mul_right _ hn
  refine⟨cs.toList.take (n*s),⟨by rw[List.length_take,Array.length_toList];omega,.inr ⟨g,cap,cs,rfl,hb,h1,hn,hm,by rw[h2,hc],rfl⟩⟩,fun j=>?_⟩;rw[<-ht,List.getElem?_take,List.getElem?_take];by_cases hj:j<n*s
  ·rw[if_pos hj,if_pos hj,Array.getElem?_toList,Array.getElem?_toList];exact h3 j
  ·rw[if_neg hj,if_neg hj];exact .inl rfl
theorem FG (K:IntKind):∀l:List Value,(∀j,j<l.length->∃x,l[j]?=some (.int K x))->∃ys:List Int,l=ys.map (Value.int K)
 |[],_=>⟨[],rfl⟩
 |a::r,h=>by
  obtain⟨x,hx⟩:=h 0 (by simp);obtain⟨ys,hy⟩:=FG K r fun j hj=>h (j+1) (by simpa using hj);refine⟨x::ys,?_⟩;simp at hx;rw[hx,hy];rfl
def dC (w:World) (B:Nat) (T:TypeId) (K:IntKind) (v:Value):Prop:=∃xs:List Int,aH w B T K v xs/\xs.length<=1000000
theorem dC.sp {w w':World} {B C:Nat} {T:TypeId} {K:IntKind} {v:Value} (hT:∀j u,fK T j u->∃x,u=.int K x) (h:dC w B T K v) (hs:bH C w w'):dC w' B T K v:=by
 obtain⟨xs,ho,hl⟩:=h;obtain⟨zs,h1,h2⟩:=s9 ho hs;have A:zs.length=xs.length:=by have:=h1.1;omega
 obtain⟨ys,rfl⟩:=FG K zs fun j hj=>by
  rcases h2 j with e|⟨u,e,hu⟩
  ·rw[e];exact⟨aF xs j,by rw[List.getElem?_map,List.getElem?_eq_getElem (by omega),dO xs j (by omega)];rfl⟩
  ·obtain⟨x,rfl⟩:=hT j u hu;exact⟨x,e⟩
 rw[List.length_map]at A;refine⟨ys,?_,by omega⟩;rw[aH,A];exact h1
theorem oR:∀j u,fK 3 j u->∃x,u=Value.int .i64 x:=fun j u h=>h.2
theorem spJ:∀j u,fK 2 j u->∃x,u=Value.int .i64 x:=fun j u h=>h.2
theorem spU:∀j u,fK 40 j u->∃x,u=Value.int .u64 x:=fun j u h=>h
theorem dC.nil (w:World) (B:Nat) (T:TypeId) (K:IntKind):dC w B T K (.slice none 0 0):=⟨[],World.ownsRow_nil _ _ _ _,by simp⟩
def iM (w:World) (B:Nat) (v:Value):Prop:=∃(n:Nat) (xs:List Value),w.ownsRow B 100 2 v n xs/\n<=1000000/\∀j,j<n->∃vs vd,xs[j*2]?=some vs/\xs[j*2+1]?=some vd/\dC w B 3 .i64 vs/\dC w B 2 .i64 vd
theorem iM.sp {w w':World} {B C:Nat} {v:Value} (h:iM w B v) (hs:bH C w w'):iM w' B v:=by
 obtain⟨n,xs,ho,hn,h⟩:=h;obtain⟨zs,h1,h2⟩:=s9 ho hs;have hz:∀j u,fK 100 j u->u=.slice none 0 0:=fun j u h=>h;refine⟨n,zs,h1,hn,fun j hj=>?_⟩;obtain⟨vs,vd,h3,h4,h5,h6⟩:=h j hj;have k1:∃us,zs[j*2]?=some us/\dC w' B 3 .i64 us:=by
  rcases h2 (j*2)with e|⟨u,e,hu⟩
  ·exact⟨vs,e.trans h3,h5.sp oR hs⟩
  ·rw[hz _ _ hu]at e;exact⟨_,e,dC.nil _ _ _ _⟩
 have k2:∃us,zs[j*2+1]?=some us/\dC w' B 2 .i64 us:=by
  rcases h2 (j*2+1)with e|⟨u,e,hu⟩
  ·exact⟨vd,e.trans h4,h6.sp spJ hs⟩
  ·rw[hz _ _ hu]at e;exact⟨_,e,dC.nil _ _ _ _⟩
 obtain⟨us,e1,f1⟩:=k1;obtain⟨ud,e2,f2⟩:=k2;exact⟨us,ud,e1,e2,f1,f2⟩
inductive fH (w:World) (B:Nat):Value->Prop
 |mk (v:Value) (n:Nat) (xs:List Value) (us:Nat->Value) (own:w.ownsRow B 175 9 v n xs) (hn:n<=1000000) (hi:∀j i,j<n->i<8->∃x,xs[j*9+i]?=some (.int .i64 x)) (hu:∀j,j<n->xs[j*9+8]?=some (us j)) (hf:∀j,j<n->fH w B (us j)):fH w B v
theorem fH.nil (w:World) (B:Nat):fH w B (.slice none 0 0):=.mk _ 0 [] (fun _=>.slice none 0 0) (World.ownsRow_nil _ _ _ _) (by omega) (fun j i h=>absurd h (Nat.not_lt_zero _)) (fun j h=>absurd h (Nat.not_lt_zero _)) (fun j h=>absurd h (Nat.not_lt_zero _))
theorem spL1:∀{j u},fK 175 j u->j%9=8->u=.slice none 0 0:=fun {j u} h e=>by
 have h':(if j%9=8 then u=.slice none 0 0 else ∃x,u=Value.int .i64 x):=h
 rwa [if_pos e]at h'
theorem spL2:∀{j u},fK 175 j u->j%9≠8->∃x,u=Value.int .i64 x:=fun {j u} h e=>by
 have h':(if j%9=8 then u=.slice none 0 0 else ∃x,u=Value.int .i64 x):=h
 rwa [if_neg e]at h'
theorem fH.sp {w w':World} {B C:Nat} {v:Value} (h:fH w B v) (hs:bH C w w'):fH w' B v:=by
 induction h with
 |mk v n xs us own hn hi hu hf ih=>
  obtain⟨zs,h1,h2⟩:=s9 own hs;have key:∀j,∃u,j<n->zs[j*9+8]?=some u/\fH w' B u:=fun j=>by
   by_cases A:j<n
   ·rcases h2 (j*9+8)with e|⟨u,e,hu'⟩
    ·exact⟨us j,fun _=>⟨e.trans (hu j A),ih j A⟩⟩
    ·rw[spL1 hu' (by omega)]at e;exact⟨_,fun _=>⟨e,fH.nil _ _⟩⟩
   ·exact⟨.slice none 0 0,fun h=>absurd h A⟩
  refine .mk v n zs (fun j=>Classical.choose (key j)) h1 hn (fun j i A hi'=>?_) (fun j A=>(Classical.choose_spec (key j) A).1) (fun j A=>(Classical.choose_spec (key j) A).2);rcases h2 (j*9+i)with e|⟨u,e,hu'⟩
  ·obtain⟨x,hx⟩:=hi j i A hi';exact⟨x,e.trans hx⟩
  ·obtain⟨x,rfl⟩:=spL2 hu' (by omega);exact⟨x,e⟩
structure mX (w:World) (B:Nat) (vi vl vp vm vv vr vc:Value):Prop where
 input:dC w B 3 .i64 vi
 lays:fH w B vl
 ps:iM w B vp
 m:iM w B vm
 v:iM w B vv
 script:dC w B 40 .u64 vr
 order:dC w B 3 .i64 vc
theorem U7 {T:TypeId} {j:Nat} {u:Value} (h:fK T j u):u.oneCell'=true:=by
 unfold fK at h;split at h
 ·subst h;rfl
 ·split at h
  ·split at h
   ·subst h;rfl
   ·obtain⟨x,rfl⟩:=h;rfl
  ·split at h
   ·obtain⟨x,rfl⟩:=h;rfl
   ·obtain⟨_,x,rfl⟩:=h;rfl
section
variable {P:Program} (w:World)
theorem UX (base:Nat) (t ty e:TypeId) (i:TypeInfo) (z:Value) (size bytes:Nat) (ht:P.underlying t=some (.slice e)) (hi:P.info? e=some i) (hz:i.zero=some z)
  (E:i.size=size) (N:i.bytes=bytes) (V:z.cells.size=size)
  (v:Value) (n:Nat) (xs:List Value) (C:w.ownsRow base e size v n xs)
  (a:Addr) (c:Nat) (news:List Value) (hl:news.length=size) (A:∀j u,news[j]?=some u->w.cell? (a.add j)=some u) (J:∀j u,news[j]?=some u->fK e (n*size+j) u)
  (O:n+1<=maxLen) (B:(n+1)*bytes<=140737488355328) (F:base<=w.heap.size):
  ∃v' w',(Builtin.append_ #[t,t] ty #[v,.slice (some a) 1 c]).run P w=.ok v' w'/\bH base w w':=by
 subst E;subst N;have h1:∀u∈news,u.oneCell'=true:=fun u hu=>by
  obtain⟨j,hj,rfl⟩:=List.getElem_of_mem hu;exact U7 (J j _ (List.getElem?_eq_getElem hj))
 have M:n+1<=9223372036854775807:=by simp only[maxLen]at O;omega
 have grown:∀o:Obj,bH base w (w.drew.alloc o):=fun o=>bH.below (((Zc _ _).drew).alloc (Zb _) o) F;rcases C.2 with⟨rfl,rfl⟩|⟨g,cap,cur,rfl,X,hg,Y,Z,R,U⟩
 ·have hr:=run_append_nil (P:=P) w t ty e i z ht hi hz a 1 c news (by simpa using hl) A (by omega) (by omega) (by have hb:=B;simp only[Nat.zero_add]at hb;omega);exact⟨_,_,hr,grown _⟩
 ·by_cases D:n+1<=cap
  ·have L:n*i.size+news.length<=cur.size:=by rw[hl,R,<-Nat.succ_mul];exact Nat.mul_le_mul_right _ D
   have hr:=run_append_room (P:=P) w t ty e i ht hi g n cap cur hg a 1 c news (by simpa using hl) A h1 D L;refine⟨_,_,hr,⟨⟨rfl,rfl,rfl,by simp,fun k I=>setRow_other w g k _ (fun e=>by omega)⟩,fun k ds T fr I=>?_⟩⟩;by_cases e:k=g
   ·subst e;rw[hg]at I;injection I with I;injection I with e1 e2 e3;subst e1 e2 e3;refine⟨_,setRow_heap w k cur _ _ _ hg,by simp only[List.size_toArray,Zl,List.length_take,List.length_drop,Array.length_toList];omega,fun j=>?_⟩;rw[List.getElem?_toArray,List.append_assoc];have ht:(cur.toList.take (n*i.size)).length=n*i.size:=by rw[List.length_take,Array.length_toList];omega
    by_cases hj:j<n*i.size
    ·left;rw[List.getElem?_append_left (by omega),List.getElem?_take,if_pos hj,Array.getElem?_toList]
    ·rw[List.getElem?_append_right (by omega),ht];by_cases G:j-n*i.size<news.length
     ·right;rw[List.getElem?_append_left G];refine⟨news[j-n*i.size],List.getElem?_eq_getElem G,?_⟩;have:=J (j-n*i.size) _ (List.getElem?_eq_getElem G)
      rwa [show n*i.size+(j-n*i.size)=j by omega]at this
     ·left;rw[List.getElem?_append_right (by omega),List.getElem?_drop,show n*i.size+news.length+(j-n*i.size-news.length)=j by omega,Array.getElem?_toList]
   ·exact⟨ds,(setRow_other w g k _ e).trans I,rfl,fun j=>.inl rfl⟩
  ·have H:∀j u,xs[j]?=some u->w.cell? ((⟨g,0,none⟩:Addr).add j)=some u:=C.cells (g:=g) rfl;have hr:=run_append_grow (P:=P) w t ty e i z ht hi hz ⟨g,0,none⟩ n cap xs C.1 H a 1 c news (by simpa using hl) A (by omega) (by omega) (growslice_fits (by omega) B);exact⟨_,_,hr,grown _⟩
theorem sD {ops:Array Oper} {rest:List Oper} {o:Oper} {a:Act} {Q:Exit->Act->World->Prop} (F:o.guard=none) (s x:Operand) (t:TypeId)
  (ho:o.op=.call {callee:=.builtin .append,args:=#[s,x],argTypes:=#[t,t]})
  (base:Nat) (e:TypeId) (i:TypeInfo) (z:Value) (size bytes:Nat) (ht:P.underlying t=some (.slice e)) (hi:P.info? e=some i) (hz:i.zero=some z)
  (B:i.size=size) (G:i.bytes=bytes) (H:z.cells.size=size)
  (v:Value) (n:Nat) (xs:List Value) (hs:a.eval s=v) (E:w.ownsRow base e size v n xs)
  (ad:Addr) (c:Nat) (news:List Value) (hx:a.eval x=.slice (some ad) 1 c) (hl:news.length=size) (C:∀j u,news[j]?=some u->w.cell? (ad.add j)=some u) (I:∀j u,news[j]?=some u->fK e (n*size+j) u)
  (J:n+1<=maxLen) (A:(n+1)*bytes<=140737488355328) (D:base<=w.heap.size)
  (h:∀v' w',bH base w w'->wpList P ops Q rest (a.put o.dst v') w'):wpList P ops Q (o::rest) a w:=
 wpList_plain F fun _ hK=>by
  obtain⟨v',w',hr,h2⟩:=UX (P:=P) w base t o.type e i z size bytes ht hi hz B G H v n xs E ad c news hl C I J A D;unfold Oper.wp execOp;simp only[ho,resolve,invoke,builtin,Sem.run_bind,Sem.run_pure,Result.andThen_ok,List.map_toArray,List.map_cons,List.map_nil,hs,hx,hr];exact hK _ _ (h v' w' h2)
end
