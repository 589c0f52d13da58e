/-
  A part of the proof of a law (packed by program).
-/
import Derived.Test.YtjhkdocidcfpdaaGreatDoorTM10
set_option linter.unusedVariables false
set_option linter.unusedSimpArgs false
set_option maxRecDepth 100000
set_option maxHeartbeats 16000000
open List renaming length_append → Zl
namespace Go.Proofs.YtjhkdocidcfpdaaGreatDoor
open Go.RowKit Go.Shelf Go
theorem tJ (w:World):Calls Tryz.prog 102 #[] w fun e w'=>e=.returned (.slice (some ⟨w.heap.size,0,none⟩) 3 3)∧w'=w.alloc (.cells #[.string ⟨#[]⟩,.string ⟨#[120,101,110,116]⟩,.string ⟨#[115,113,117,97,114,101]⟩] 9):=by go_enter Tryz.func102,Tryz.ntmps102;go_wp2;go_ret;exact⟨rfl,rfl⟩
theorem DR {w w':World} (k:Nat) (lt:List UInt8) (h:w'=w.alloc (.cells #[.string ⟨#[]⟩,.string ⟨#[120,101,110,116]⟩,.string ⟨#[115,113,117,97,114,101]⟩] 9)) (hk:k=1∧lt=[120,101,110,116]∨k=2∧lt=[115,113,117,97,114,101]):w'.cell? ⟨w.heap.size,k,none⟩=some (.string ⟨lt.toArray⟩):=by
 rw[h];rcases hk with⟨rfl,rfl⟩|⟨rfl,rfl⟩
 ·exact(aA.new _ _ _).cell 1 rfl
 ·exact(aA.new _ _ _).cell 2 rfl
theorem kO {w w':World} {b off:Nat} {v:Value} (hb:Below w.heap.size w w') (h:w.cell? ⟨b,off,none⟩=some v):w'.cell? ⟨b,off,none⟩=some v:=(hb.cell (p:=⟨b,off,none⟩) (aP h)).trans h
theorem wB {w w':World} (h:w'=w.alloc (.cells #[.string ⟨#[]⟩,.string ⟨#[120,101,110,116]⟩,.string ⟨#[115,113,117,97,114,101]⟩] 9)):Below w.heap.size w w':=by rw[h];exact(Zc _ _).alloc (Zb _) _
theorem BQ (a b:List Int):eW (a++b)=eW a++eW b:=by
 induction a with
 |nil=>rfl
 |cons x r ih=>simp[eW,ih]
theorem ST (l:List Int) (k:Nat) (h:k<l.length):eW (l.take (k+1))=eW (l.take k)++([32]++Lib.itoa (aE l k)):=by rw[fF l k h,BQ,eW,eW,List.append_nil];rfl
theorem KY (l:List Int) (k:Nat):(eW (l.take k)).length≤(eW l).length:=by have:=BQ (l.take k) (l.drop k);rw[List.take_append_drop]at this;rw[this,Zl];omega
theorem EX (vi vl:Value) (d:bE) (w:World) (h:eJ w vi vl d) (hg:dL d=true) (ht:iY w):
  Calls Tryz.prog 43 #[.agg #[vi,vl,.int .i64 d.loss]] w fun e w'=>e=.returned (.tuple #[.string ⟨(dT d).toArray⟩,.int .i64 0])∧Below w.heap.size w w':=by
 obtain⟨oi,ci,rfl⟩:=aU h.input;obtain⟨ol,cl,rfl⟩:=h.lays.len;obtain⟨hi1,hi2,hi3,hi4,k0,hk0⟩:=mQ hg;have hdl:=(pQ hg).2.2;have HH:=Za h;have HG:=Za hg;have HT:=Za ht;have HK:=Za hk0;have HI3:=Za hi3;obtain⟨dt,hdt⟩:∃dt,dt=dT d:=⟨_,rfl⟩;rw[←hdt]at hdl ⊢;obtain⟨tl,htl⟩:∃tl,tl=dA d.lays:=⟨_,rfl⟩;have HTL:=Za htl;have HDT:=Za (show dt=jP++eW d.input++[10]++tl++eB++[32]++eX d.loss++[10] by rw[hdt,htl];rfl);have hsum:(eW d.input).length+tl.length≤2600:=by rw[HDT.o]at hdl;simp at hdl;omega
 obtain⟨W,hW⟩:∃W,W=w.alloc (.cells #[.slice oi d.input.length ci,.slice ol d.lays.length cl,.int .i64 d.loss] 33):=⟨_,rfl⟩;have hbx:aA W w.heap.size 33 #[.slice oi d.input.length ci,.slice ol d.lays.length cl,.int .i64 d.loss]:=by rw[hW];exact aA.new _ _ _
 have hbw:Below w.heap.size w W:=by rw[hW];exact(Zc _ _).alloc (Zb _) _
 have HX0:=Za (Zd hbx hbw);have HW:=Za hW;clear h hg ht hk0 hi3 hdt htl hbx hbw hW;go_enter Tryz.func43,Tryz.ntmps43;go_wp2_with(go_at_call 99;rw[←HW.o];refine(wW _ _ d _ (HH.o.next HX0.o.2)).mono ?_;rintro e w1 ⟨rfl,hb⟩;rw[HG.o];refine aD ?_);have HX1:=Za (Zd (HX0.o.1.next hb) (HX0.o.2.trans (hb.mono HX0.o.2.size)));have x0:=HX1.o.1.q 0 rfl;clear hb;refine aC ?_;go_wp2;go_loopw[4,13] (fun s i wr=>∃k:Nat,k≤d.input.length∧i=.int .i64 k∧s=.string ⟨(jP++eW (d.input.take k)).toArray⟩∧Below w1.heap.size w1 wr) (fun _ i _=>d.input.length-(intOf i).toNat)
 case atStart=>exact⟨0,Ze _,rfl,rfl,Zc _ _⟩
 case round=>
  obtain⟨k,hk,rfl,rfl,hBr⟩:=hrel;have HBR:=Za hBr;have HX2:=Za (Zd (HX1.o.1.next hBr) (HX1.o.2.trans (hBr.mono HX1.o.2.size)));clear hBr x0;obtain⟨cur,hcur⟩:∃cur,cur=jP++eW (d.input.take k):=⟨_,rfl⟩;by_cases hlt:k<d.input.length
  ·obtain⟨b,off,rfl,c0⟩:=(HH.o.input.below HX2.o.2 (Zb _)).cell k hlt;have hdm:=List.all_eq_true.1 HI3.o (aE d.input k) (by rw[dK _ _ hlt];exact List.getElem_mem hlt);have hts:=ST d.input k hlt;have hle:=KY d.input (k+1);obtain⟨x,hx⟩:∃x,x=aE d.input k:=⟨_,rfl⟩;rw[←hx]at c0 hdm hts;obtain⟨hx1,hx2⟩:=(lG _).1 hdm;obtain⟨tx,htx⟩:∃tx,[32]++Lib.itoa x=tx:=⟨_,rfl⟩;obtain⟨nx,hnx⟩:∃nx,cur++tx=nx:=⟨_,rfl⟩;rw[htx]at hts;have hlx:cur.length+tx.length≤3000:=by rw[hts,Zl]at hle;rw[hcur,Zl];simp[jP];omega
   have A2:=iO [32] (Lib.itoa x) tx htx (by omega);have A3:=iO cur tx nx hnx (by rw[←hnx,Zl];omega);have HNX:=Za (show jP++eW (d.input.take (k+1))=nx by rw[hts,←hnx,hcur,List.append_assoc]);have HIT:=Za (zO x (by omega) (by omega) _ (HT.o.below HX2.o.2 (Zb _)));rw[←hcur];obtain⟨ix,hix⟩:∃ix,ix=Lib.itoa x:=⟨_,rfl⟩;rw[←hix]at A2 HIT;clear hdm hts hle hx hcur htx hnx hlx hix;go_wp2_with fail;refine HIT.o.mono ?_;rintro e w7 ⟨rfl,hb7⟩;have HB7:=Za (HBR.o.trans (hb7.mono HBR.o.size));clear hb7 c0;go_wp2;go_roundw
   case rel=>exact⟨k+1,by omega,by go_num,by rw[HNX.o],HB7.o⟩
   case measure=>simp[intOf];omega
  ·obtain rfl:k=d.input.length:=by omega
   have hta:d.input.take d.input.length=d.input:=List.take_length;rw[hta]at hcur ⊢;have x1:=HX2.o.1.q 1 rfl;have x2:=HX2.o.1.q 2 rfl;obtain⟨lt,hlt2⟩:∃lt,lt=eX d.loss:=⟨_,rfl⟩;have hll:=zW d.loss;rw[←hlt2]at hll;obtain⟨s1,hs1⟩:∃s1,cur++[10]=s1:=⟨_,rfl⟩;obtain⟨s2,hs2⟩:∃s2,s1++tl=s2:=⟨_,rfl⟩;obtain⟨s3,hs3⟩:∃s3,s2++[108,111,115,115,32]=s3:=⟨_,rfl⟩;obtain⟨s4,hs4⟩:∃s4,s3++lt=s4:=⟨_,rfl⟩;have hfin:s4++[10]=dt:=by rw[HDT.o,←hlt2,←hs4,←hs3,←hs2,←hs1,hcur];simp[eB]
   have hdl2:=hdl;rw[←hfin,←hs4,←hs3,←hs2,←hs1]at hdl2;simp only[Zl,List.length_cons,List.length_nil]at hdl2;have A1:=iO cur [10] s1 hs1 (by rw[←hs1];simp;omega);have A2:=iO s1 tl s2 hs2 (by rw[←hs2,←hs1];simp;omega);have A3:=iO s2 [108,111,115,115,32] s3 hs3 (by rw[←hs3,←hs2,←hs1];simp;omega);have A4:=iO s3 lt s4 hs4 (by rw[←hs4,←hs3,←hs2,←hs1];simp;omega);have A5:=iO s4 [10] dt hfin (by omega);have HLT:=Za hlt2;have HX:=Za (show Below wr.heap.size wr wr.drew from Below.drew (Zc _ _));have HLR:=Za (HH.o.lays.below HX2.o.2 (Zb _));have HTR:=Za (HT.o.below HX2.o.2 (Zb _));have HC:=Za (Zd x1 x2);rw[←hcur];clear hta hcur hs1 hs2 hs3 hs4 hfin hdl2 hlt2;go_wp2_with fail;rcases hi4 with hl|hl
   ·have HLK:=Za (show [120,101,110,116].length=4∧(1=1∧lt=[120,101,110,116]∨(1:Nat)=2∧lt=[115,113,117,97,114,101])from⟨rfl,.inl ⟨rfl,by rw[HLT.o,hl];rfl⟩⟩);have HLC:=Za (fun(w w':World) h=>DR (w:=w) (w':=w') 1 lt h HLK.o.2);clear HLK;rw[hl]at x2 HC;clear hl;go_region_law(first
     |(go_simp;go_at_call 101;refine(DQ d.lays 0 64 k0 _ _ HK.o (by omega) (by omega) (HLR.o.next HX.o) (HTR.o.next HX.o)).mono ?_;rintro e wy ⟨rfl,hby⟩;rw[←HTL.o];have HX:=Za (HX.o.trans (hby.mono HX.o.size));have y1:wy.cell? ⟨w.heap.size,1,none⟩=some (.slice ol d.lays.length cl):=kO HX.o HC.o.1;have y2:wy.cell? ⟨w.heap.size,2,none⟩=some (.int .i64 1):=kO HX.o HC.o.2;(first|(have lz2:=kO hby lz)|skip);clear hby)
     |(go_simp;go_at_call 102;refine(tJ _).mono ?_;rintro e wy ⟨rfl,hw⟩;have lz:=HLC.o _ _ hw;have HX:=Za (HX.o.trans ((wB hw).mono HX.o.size));have y1:wy.cell? ⟨w.heap.size,1,none⟩=some (.slice ol d.lays.length cl):=kO HX.o HC.o.1;have y2:wy.cell? ⟨w.heap.size,2,none⟩=some (.int .i64 1):=kO HX.o HC.o.2;clear hw))
    all_goals
     have HF:=Za (HX2.o.2.trans (HX.o.mono HX2.o.2.size));go_wp2_with fail;go_ret2;exact⟨rfl,HF.o⟩
   ·have HLK:=Za (show [120,101,110,116].length=4∧(2=1∧lt=[120,101,110,116]∨(2:Nat)=2∧lt=[115,113,117,97,114,101])from⟨rfl,.inr ⟨rfl,by rw[HLT.o,hl];rfl⟩⟩);have HLC:=Za (fun(w w':World) h=>DR (w:=w) (w':=w') 2 lt h HLK.o.2);clear HLK;rw[hl]at x2 HC;clear hl;go_region_law(first
     |(go_simp;go_at_call 101;refine(DQ d.lays 0 64 k0 _ _ HK.o (by omega) (by omega) (HLR.o.next HX.o) (HTR.o.next HX.o)).mono ?_;rintro e wy ⟨rfl,hby⟩;rw[←HTL.o];have HX:=Za (HX.o.trans (hby.mono HX.o.size));have y1:wy.cell? ⟨w.heap.size,1,none⟩=some (.slice ol d.lays.length cl):=kO HX.o HC.o.1;have y2:wy.cell? ⟨w.heap.size,2,none⟩=some (.int .i64 2):=kO HX.o HC.o.2;(first|(have lz2:=kO hby lz)|skip);clear hby)
     |(go_simp;go_at_call 102;refine(tJ _).mono ?_;rintro e wy ⟨rfl,hw⟩;have lz:=HLC.o _ _ hw;have HX:=Za (HX.o.trans ((wB hw).mono HX.o.size));have y1:wy.cell? ⟨w.heap.size,1,none⟩=some (.slice ol d.lays.length cl):=kO HX.o HC.o.1;have y2:wy.cell? ⟨w.heap.size,2,none⟩=some (.int .i64 2):=kO HX.o HC.o.2;clear hw))
    all_goals
     have HF:=Za (HX2.o.2.trans (HX.o.mono HX2.o.2.size));go_wp2_with fail;go_ret2;exact⟨rfl,HF.o⟩
end Go.Proofs.YtjhkdocidcfpdaaGreatDoor
