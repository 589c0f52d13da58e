/- A part of the proof. -/
import Derived.Test.YtjhkdocidcfpdaaGreatDoorEN09
set_option linter.unusedVariables false
set_option linter.unusedSimpArgs false
set_option maxRecDepth 100000
set_option maxHeartbeats 16000000
open List renaming length_append → Zl
namespace Go.Proofs.YtjhkdocidcfpdaaGreatDoor
open Go.RowKit Go.Shelf Go
theorem vL (w:World):Calls Tryz.prog 102 #[] w fun e w'=>e=.returned (.slice (some ⟨w.heap.size,0,none⟩) 3 3)/\w'=w.alloc (.cells #[.string ⟨#[]⟩,.string ⟨#[120,101,110,116]⟩,.string ⟨#[115,113,117,97,114,101]⟩] 9):=by go_enter Tryz.func102,Tryz.ntmps102;go_wp2;go_ret;exact⟨rfl,rfl⟩
theorem EB {w w':World} (k:Nat) (lt:List UInt8) (h:w'=w.alloc (.cells #[.string ⟨#[]⟩,.string ⟨#[120,101,110,116]⟩,.string ⟨#[115,113,117,97,114,101]⟩] 9)) (hk:k=1/\lt=[120,101,110,116]\/k=2/\lt=[115,113,117,97,114,101]):w'.cell? ⟨w.heap.size,k,none⟩=some (.string ⟨lt.toArray⟩):=by
 rw[h];rcases hk with⟨rfl,rfl⟩|⟨rfl,rfl⟩
 ·exact(aA.new _ _ _).cell 1 rfl
 ·exact(aA.new _ _ _).cell 2 rfl
theorem fY {w w':World} {b off:Nat} {v:Value} (hb:Below w.heap.size w w') (h:w.cell? ⟨b,off,none⟩=some v):w'.cell? ⟨b,off,none⟩=some v:=(hb.cell (p:=⟨b,off,none⟩) (aP h)).trans h
theorem wK {w w':World} (h:w'=w.alloc (.cells #[.string ⟨#[]⟩,.string ⟨#[120,101,110,116]⟩,.string ⟨#[115,113,117,97,114,101]⟩] 9)):Below w.heap.size w w':=by rw[h];exact(Zc _ _).alloc (Zb _) _
theorem BU (a b:List Int):cZ (a++b)=cZ a++cZ b:=by
 induction a with
 |nil=>rfl
 |cons x r ih=>simp[cZ,ih]
theorem yY (l:List Int) (k:Nat) (h:k<l.length):cZ (l.take (k+1))=cZ (l.take k)++([32]++Lib.itoa (aF l k)):=by rw[fG l k h,BU,cZ,cZ,List.append_nil];rfl
theorem EL (l:List Int) (k:Nat):(cZ (l.take k)).length<=(cZ l).length:=by have:=BU (l.take k) (l.drop k);rw[List.take_append_drop]at this;rw[this,Zl];omega
theorem QA (vi vl:Value) (d:bI) (w:World) (h:fZ w vi vl d) (hg:dM d=true) (ht:iX w):
  Calls Tryz.prog 43 #[.agg #[vi,vl,.int .i64 d.loss]] w fun e w'=>e=.returned (.tuple #[.string ⟨(dB d).toArray⟩,.int .i64 0])/\Below w.heap.size w w':=by
 obtain⟨oi,ci,rfl⟩:=aU h.input;obtain⟨ol,cl,rfl⟩:=h.lays.len;obtain⟨bd,be,ad,aw,k0,ae⟩:=nG hg;have P:=(oU hg).2.2;have HH:=Za h;have HG:=Za hg;have HT:=Za ht;have HK:=Za ae;have ax:=Za ad;obtain⟨dt,Y⟩:=Zx (dB d);rw[<-Y]at P ⊢;obtain⟨tl,Z⟩:=Zx (cN d.lays);have af:=Za Z;have ag:=Za (show dt=iQ++cZ d.input++[10]++tl++dV++[32]++eL d.loss++[10] by rw[Y,Z];rfl);have bc:(cZ d.input).length+tl.length<=2600:=by rw[ag.o]at P;simp at P;omega
 obtain⟨W,hW⟩:=Zx (w.alloc (.cells #[.slice oi d.input.length ci,.slice ol d.lays.length cl,.int .i64 d.loss] 33));have ah:aA W w.heap.size 33 #[.slice oi d.input.length ci,.slice ol d.lays.length cl,.int .i64 d.loss]:=by rw[hW];exact aA.new _ _ _
 have ai:Below w.heap.size w W:=by rw[hW];exact(Zc _ _).alloc (Zb _) _
 have R:=Za (Zd ah ai);have HW:=Za hW;clear h hg ht ae ad Y Z ah ai hW;go_enter Tryz.func43,Tryz.ntmps43;go_wp2_with(go_at_call 99;rw[<-HW.o];refine(vO _ _ d _ (HH.o.next R.o.2)).mono ?_;rintro e w1 ⟨rfl,hb⟩;rw[HG.o];refine aD ?_);have T:=Za (Zd (R.o.1.next hb) (R.o.2.trans (hb.mono R.o.2.size)));have x0:=T.o.1.q 0 rfl;clear hb;refine aC ?_;go_wp2;go_loopw[4,13] (fun s i wr=>∃k:Nat,k<=d.input.length/\i=.int .i64 k/\s=.string ⟨(iQ++cZ (d.input.take k)).toArray⟩/\Below w1.heap.size w1 wr) (fun _ i _=>d.input.length-(intOf i).toNat)
 case atStart=>exact⟨0,Ze _,rfl,rfl,Zc _ _⟩
 case round=>
  obtain⟨k,hk,rfl,rfl,U⟩:=hrel;have aj:=Za U;have C:=Za (Zd (T.o.1.next U) (T.o.2.trans (U.mono T.o.2.size)));clear U x0;obtain⟨cur,A⟩:=Zx (iQ++cZ (d.input.take k));by_cases V:k<d.input.length
  ·obtain⟨b,off,rfl,c0⟩:=(HH.o.input.below C.o.2 (Zb _)).cell k V;have aa:=List.all_eq_true.1 ax.o (aF d.input k) (by rw[dO _ _ V];exact List.getElem_mem V);have I:=yY d.input k V;have ak:=EL d.input (k+1);obtain⟨x,hx⟩:=Zx (aF d.input k);rw[<-hx]at c0 aa I;obtain⟨bf,bg⟩:=(kZ _).1 aa;obtain⟨tx,ab⟩:∃tx,[32]++Lib.itoa x=tx:=⟨_,rfl⟩;obtain⟨nx,X⟩:=Zy (cur++tx);rw[ab]at I;have ay:cur.length+tx.length<=3000:=by rw[I,Zl]at ak;rw[A,Zl];simp[iQ];omega
   have A2:=eW [32] (Lib.itoa x) tx ab (by omega);have A3:=eW cur tx nx X (by rw[<-X,Zl];omega);have az:=Za (show iQ++cZ (d.input.take (k+1))=nx by rw[I,<-X,A,List.append_assoc]);have al:=Za (AB x (by omega) (by omega) _ (HT.o.below C.o.2 (Zb _)));rw[<-A];obtain⟨ix,ao⟩:=Zx (Lib.itoa x);rw[<-ao]at A2 al;clear aa I ak hx A ab X ay ao;go_wp2_with fail;refine al.o.mono ?_;rintro e w7 ⟨rfl,ap⟩;have ba:=Za (aj.o.trans (ap.mono aj.o.size));clear ap c0;go_wp2;go_roundw
   case rel=>exact⟨k+1,by omega,by go_num,by rw[az.o],ba.o⟩
   case measure=>simp[intOf];omega
  ·obtain rfl:k=d.input.length:=by omega
   have aq:d.input.take d.input.length=d.input:=List.take_length;rw[aq]at A ⊢;have x1:=C.o.1.q 1 rfl;have x2:=C.o.1.q 2 rfl;obtain⟨lt,G⟩:=Zx (eL d.loss);have bb:=DR d.loss;rw[<-G]at bb;obtain⟨s1,D⟩:=Zy (cur++[10]);obtain⟨s2,E⟩:=Zy (s1++tl);obtain⟨s3,H⟩:=Zy (s2++[108,111,115,115,32]);obtain⟨s4,J⟩:=Zy (s3++lt);have L:s4++[10]=dt:=by rw[ag.o,<-G,<-J,<-H,<-E,<-D,A];simp[dV]
   have M:=P;rw[<-L,<-J,<-H,<-E,<-D]at M;simp only[Zl,List.length_cons,List.length_nil]at M;have A1:=eW cur [10] s1 D (by rw[<-D];simp;omega);have A2:=eW s1 tl s2 E (by rw[<-E,<-D];simp;omega);have A3:=eW s2 [108,111,115,115,32] s3 H (by rw[<-H,<-E,<-D];simp;omega);have A4:=eW s3 lt s4 J (by rw[<-J,<-H,<-E,<-D];simp;omega);have A5:=eW s4 [10] dt L (by omega);have ar:=Za G;have B:=Za (show Below wr.heap.size wr wr.drew from Below.drew (Zc _ _));have au:=Za (HH.o.lays.below C.o.2 (Zb _));have av:=Za (HT.o.below C.o.2 (Zb _));have O:=Za (Zd x1 x2);rw[<-A];clear aq A D E H J L M G;go_wp2_with fail;rcases aw with hl|hl
   ·have N:=Za (show [120,101,110,116].length=4/\(1=1/\lt=[120,101,110,116]\/(1:Nat)=2/\lt=[115,113,117,97,114,101])from⟨rfl,.inl ⟨rfl,by rw[ar.o,hl];rfl⟩⟩);have ac:=Za (fun(w w':World) h=>EB (w:=w) (w':=w') 1 lt h N.o.2);clear N;rw[hl]at x2 O;clear hl;go_region_law(first
     |(go_simp;go_at_call 101;refine(xFS d.lays 0 64 k0 _ _ HK.o (by omega) (by omega) (au.o.next B.o) (av.o.next B.o)).mono ?_;rintro e wy ⟨rfl,F⟩;rw[<-af.o];have B:=Za (B.o.trans (F.mono B.o.size));have y1:wy.cell? ⟨w.heap.size,1,none⟩=some (.slice ol d.lays.length cl):=fY B.o O.o.1;have y2:wy.cell? ⟨w.heap.size,2,none⟩=some (.int .i64 1):=fY B.o O.o.2;(first|(have lz2:=fY F lz)|skip);clear F)
     |(go_simp;go_at_call 102;refine(vL _).mono ?_;rintro e wy ⟨rfl,hw⟩;have lz:=ac.o _ _ hw;have B:=Za (B.o.trans ((wK hw).mono B.o.size));have y1:wy.cell? ⟨w.heap.size,1,none⟩=some (.slice ol d.lays.length cl):=fY B.o O.o.1;have y2:wy.cell? ⟨w.heap.size,2,none⟩=some (.int .i64 1):=fY B.o O.o.2;clear hw))
    all_goals
     have HF:=Za (C.o.2.trans (B.o.mono C.o.2.size));go_wp2_with fail;go_ret2;exact⟨rfl,HF.o⟩
   ·have N:=Za (show [120,101,110,116].length=4/\(2=1/\lt=[120,101,110,116]\/(2:Nat)=2/\lt=[115,113,117,97,114,101])from⟨rfl,.inr ⟨rfl,by rw[ar.o,hl];rfl⟩⟩);have ac:=Za (fun(w w':World) h=>EB (w:=w) (w':=w') 2 lt h N.o.2);clear N;rw[hl]at x2 O;clear hl;go_region_law(first
     |(go_simp;go_at_call 101;refine(xFS d.lays 0 64 k0 _ _ HK.o (by omega) (by omega) (au.o.next B.o) (av.o.next B.o)).mono ?_;rintro e wy ⟨rfl,F⟩;rw[<-af.o];have B:=Za (B.o.trans (F.mono B.o.size));have y1:wy.cell? ⟨w.heap.size,1,none⟩=some (.slice ol d.lays.length cl):=fY B.o O.o.1;have y2:wy.cell? ⟨w.heap.size,2,none⟩=some (.int .i64 2):=fY B.o O.o.2;(first|(have lz2:=fY F lz)|skip);clear F)
     |(go_simp;go_at_call 102;refine(vL _).mono ?_;rintro e wy ⟨rfl,hw⟩;have lz:=ac.o _ _ hw;have B:=Za (B.o.trans ((wK hw).mono B.o.size));have y1:wy.cell? ⟨w.heap.size,1,none⟩=some (.slice ol d.lays.length cl):=fY B.o O.o.1;have y2:wy.cell? ⟨w.heap.size,2,none⟩=some (.int .i64 2):=fY B.o O.o.2;clear hw))
    all_goals
     have HF:=Za (C.o.2.trans (B.o.mono C.o.2.size));go_wp2_with fail;go_ret2;exact⟨rfl,HF.o⟩
