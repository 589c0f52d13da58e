/-
  A part of the proof of a law (packed by program).
-/
import Derived.Test.YtjhkdocidcfpdaaGreatDoorTM28
import Derived.Test.YtjhkdocidcfpdaaGreatDoorTM27
set_option linter.unusedVariables false
set_option linter.unusedSimpArgs false
set_option maxRecDepth 100000
set_option maxHeartbeats 16000000
open List renaming getElem_cons_zero → Zi, getElem_cons_succ → Zj, getElem_toArray → Zk
namespace Go.Proofs.YtjhkdocidcfpdaaGreatDoor
open Go.RowKit Go.Shelf Go
def fJ (ws:List (List UInt8)) (k:Nat):List UInt8:=ws.getD k []
theorem oW (ws:List (List UInt8)) (k:Nat) (h:k<ws.length):fJ ws k=ws[k]:=by rw[fJ,List.getD_eq_getElem?_getD,List.getElem?_eq_getElem h];rfl
def fG (w:World) (v:Value) (ws:List (List UInt8)):Prop:=∃o cap,v=.slice o ws.length cap∧∀k,k<ws.length→∃b off,o=some ⟨b,off,none⟩∧w.cell? ⟨b,off+k,none⟩=some (.string ⟨(fJ ws k).toArray⟩)
theorem fG.below {w w':World} {B:Nat} {v:Value} {ws:List (List UInt8)} (h:fG w v ws) (hB:Below B w w') (hs:w.heap.size≤B):fG w' v ws:=by obtain⟨o,cap,rfl,h⟩:=h;refine⟨o,cap,rfl,fun k hk=>?_⟩;obtain⟨b,off,rfl,hc⟩:=h k hk;exact⟨b,off,rfl,(hB.cell (p:=⟨b,off+k,none⟩) (Nat.lt_of_lt_of_le (aP hc) hs)).trans hc⟩
theorem fG.slice {w:World} {v:Value} {ws:List (List UInt8)} (h:fG w v ws):∃o cap,v=.slice o ws.length cap:=by obtain⟨o,cap,rfl,_⟩:=h;exact⟨o,cap,rfl⟩
theorem fG.at {w:World} {o:Option Addr} {n cap:Nat} {ws:List (List UInt8)} (h:fG w (.slice o n cap) ws) (k:Nat) (hk:k<ws.length):∃b off,o=some ⟨b,off,none⟩∧w.cell? ⟨b,off+k,none⟩=some (.string ⟨(fJ ws k).toArray⟩):=by obtain⟨o',cap',he,h⟩:=h;simp at he;obtain⟨rfl,_,_⟩:=he;exact h k hk
theorem fG.of_own {w:World} {B:Nat} {v:Value} {ws:List (List UInt8)} (h:iW w B v ws):fG w v ws:=by
 obtain⟨o,cap,hv,_⟩:=iV h;subst hv;refine⟨o,cap,rfl,fun k hk=>?_⟩;rcases h.2 with⟨he,h0⟩|⟨g,cap',cur,he,_,hg,hcl,hle,h63,ht⟩
 ·omega
 ·injection he with h1 h2 h3;subst h1;refine⟨g,0,rfl,?_⟩;have hu:(ws.map strV)[k]?=some (.string ⟨(fJ ws k).toArray⟩):=by rw[List.getElem?_map,List.getElem?_eq_getElem hk,oW ws k hk];rfl
  rw[←ht,List.getElem?_take]at hu;rw[Nat.zero_add,cell_of_row w g k cur _ _ hg];split at hu
  ·simpa using hu
  ·cases hu
theorem oQ {w w':World} {b off:Nat} {v:Value} (hb:Below w.heap.size w w') (h:w.cell? ⟨b,off,none⟩=some v):w'.cell? ⟨b,off,none⟩=some v:=(hb.cell (p:=⟨b,off,none⟩) (aP h)).trans h
theorem sU {W:World} {g B:Nat} {T:TypeId} {x0 x1 x2 x3 x4 x5 x6 x7 x8 a0 a1 a2 a3 a4 a5 a6 a7 a8:Value} {w0:World} (h:aA W g T #[x0,x1,x2,x3,x4,x5,x6,x7,x8]) (hb:Below B w0 W) (hB:B≤g):
  aA (((((((((W.setCell ⟨g,0,none⟩ a0).setCell ⟨g,1,none⟩ a1).setCell ⟨g,2,none⟩ a2).setCell ⟨g,3,none⟩ a3).setCell ⟨g,4,none⟩ a4).setCell ⟨g,5,none⟩ a5).setCell ⟨g,6,none⟩ a6).setCell ⟨g,7,none⟩ a7).setCell ⟨g,8,none⟩ a8) g T #[a0,a1,a2,a3,a4,a5,a6,a7,a8]∧Below B w0 (((((((((W.setCell ⟨g,0,none⟩ a0).setCell ⟨g,1,none⟩ a1).setCell ⟨g,2,none⟩ a2).setCell ⟨g,3,none⟩ a3).setCell ⟨g,4,none⟩ a4).setCell ⟨g,5,none⟩ a5).setCell ⟨g,6,none⟩ a6).setCell ⟨g,7,none⟩ a7).setCell ⟨g,8,none⟩ a8):=by have b0:aA (W.setCell ⟨g,0,none⟩ a0) g T #[a0,x1,x2,x3,x4,x5,x6,x7,x8]:=h.set 0 a0;have b1:aA ((W.setCell ⟨g,0,none⟩ a0).setCell ⟨g,1,none⟩ a1) g T #[a0,a1,x2,x3,x4,x5,x6,x7,x8]:=b0.set 1 a1;have b2:aA (((W.setCell ⟨g,0,none⟩ a0).setCell ⟨g,1,none⟩ a1).setCell ⟨g,2,none⟩ a2) g T #[a0,a1,a2,x3,x4,x5,x6,x7,x8]:=b1.set 2 a2;have b3:aA ((((W.setCell ⟨g,0,none⟩ a0).setCell ⟨g,1,none⟩ a1).setCell ⟨g,2,none⟩ a2).setCell ⟨g,3,none⟩ a3) g T #[a0,a1,a2,a3,x4,x5,x6,x7,x8]:=b2.set 3 a3;have b4:aA (((((W.setCell ⟨g,0,none⟩ a0).setCell ⟨g,1,none⟩ a1).setCell ⟨g,2,none⟩ a2).setCell ⟨g,3,none⟩ a3).setCell ⟨g,4,none⟩ a4) g T #[a0,a1,a2,a3,a4,x5,x6,x7,x8]:=b3.set 4 a4;have b5:aA ((((((W.setCell ⟨g,0,none⟩ a0).setCell ⟨g,1,none⟩ a1).setCell ⟨g,2,none⟩ a2).setCell ⟨g,3,none⟩ a3).setCell ⟨g,4,none⟩ a4).setCell ⟨g,5,none⟩ a5) g T #[a0,a1,a2,a3,a4,a5,x6,x7,x8]:=b4.set 5 a5;have b6:aA (((((((W.setCell ⟨g,0,none⟩ a0).setCell ⟨g,1,none⟩ a1).setCell ⟨g,2,none⟩ a2).setCell ⟨g,3,none⟩ a3).setCell ⟨g,4,none⟩ a4).setCell ⟨g,5,none⟩ a5).setCell ⟨g,6,none⟩ a6) g T #[a0,a1,a2,a3,a4,a5,a6,x7,x8]:=b5.set 6 a6;have b7:aA ((((((((W.setCell ⟨g,0,none⟩ a0).setCell ⟨g,1,none⟩ a1).setCell ⟨g,2,none⟩ a2).setCell ⟨g,3,none⟩ a3).setCell ⟨g,4,none⟩ a4).setCell ⟨g,5,none⟩ a5).setCell ⟨g,6,none⟩ a6).setCell ⟨g,7,none⟩ a7) g T #[a0,a1,a2,a3,a4,a5,a6,a7,x8]:=b6.set 7 a7;have b8:aA (((((((((W.setCell ⟨g,0,none⟩ a0).setCell ⟨g,1,none⟩ a1).setCell ⟨g,2,none⟩ a2).setCell ⟨g,3,none⟩ a3).setCell ⟨g,4,none⟩ a4).setCell ⟨g,5,none⟩ a5).setCell ⟨g,6,none⟩ a6).setCell ⟨g,7,none⟩ a7).setCell ⟨g,8,none⟩ a8) g T #[a0,a1,a2,a3,a4,a5,a6,a7,a8]:=b7.set 8 a8;exact⟨b8,(((((((((hb.setCell (p:=⟨g,0,none⟩) hB a0).setCell (p:=⟨g,1,none⟩) hB a1).setCell (p:=⟨g,2,none⟩) hB a2).setCell (p:=⟨g,3,none⟩) hB a3).setCell (p:=⟨g,4,none⟩) hB a4).setCell (p:=⟨g,5,none⟩) hB a5).setCell (p:=⟨g,6,none⟩) hB a6).setCell (p:=⟨g,7,none⟩) hB a7).setCell (p:=⟨g,8,none⟩) hB a8)⟩
theorem oD (v:Value) (ws:List (List UInt8)) (x:List UInt8) (w:World) (h:fG w v ws) (hl:ws.length≤1000000):
  Calls Tryz.prog 179 #[v,.string ⟨x.toArray⟩] w fun e w'=>e=.returned (.bool (decide (ws=[x])))∧w=w':=by
 obtain⟨o,cap,rfl⟩:=h.slice;have HR:=Za h;clear h;by_cases h1:ws.length=1
 ·obtain⟨b,off,rfl,hc⟩:=HR.o.at 0 (by omega);rw[Nat.add_zero]at hc;obtain⟨y,hy⟩:∃y,ws=[y]:=List.length_eq_one_iff.1 h1;have hw0:fJ ws 0=y:=by rw[hy];rfl
  rw[hw0]at hc;have hd:(decide (ws=[x]))=(y==x):=by rw[hy,Bool.eq_iff_iff];simp
  have HD:=Za hd;have hl1:((ws.length:Int)==1)=true:=by simp[h1]
  have hpos:0<ws.length:=by omega
  clear hy hw0 hd h1 hl;cases hyx:y==x with
  |true=>
   have HY:=Za hyx;go_enter Tryz.func179,Tryz.ntmps179;go_wp2;go_ret;exact⟨aF (by rw[HD.o,HY.o]),rfl⟩
  |false=>
   have HY:=Za hyx;go_enter Tryz.func179,Tryz.ntmps179;go_wp2;go_ret;exact⟨aF (by rw[HD.o,HY.o]),rfl⟩
 ·have HD:=Za (show decide (ws=[x])=false from decide_eq_false (fun h=>h1 (by rw[h];rfl)));have hl1:((ws.length:Int)==1)=false:=by simp;omega
  clear h1 hl;go_enter Tryz.func179,Tryz.ntmps179;go_wp2;go_ret;exact⟨by rw[HD.o];rfl,rfl⟩
theorem yI (x:List UInt8):∀(l:List bU) (k:Nat) (hk:k<l.length),(∀j (hj:j<k),l[j].word≠x)→l[k].word=x→l.find? (fun r=>decide (r.word=x))=some l[k]
 |[],k,hk,_,_=>absurd hk (Nat.not_lt_zero _)
 |r::l,0,hk,_,he=>by rw[List.find?_cons];simp only[Zi]at he ⊢;rw[decide_eq_true he]
 |r::l,k+1,hk,hn,he=>by
  have h0:=hn 0 (by omega);simp only[Zi]at h0;rw[List.find?_cons,decide_eq_false h0];exact yI x l k (by simpa using hk) (fun j hj=>by have:=hn (j+1) (by omega);simpa using this) (by simpa using he)
theorem GB (x:List UInt8) (h:∀j (hj:j<bG.length),bG[j].word≠x):oX x=none:=by
 rw[oX,List.find?_eq_none];intro r hr;obtain⟨j,hj,he⟩:=List.getElem_of_mem hr;have:=h j hj;rw[he]at this
 simpa using this
theorem ND (w W:World) (h:∀k,w.heap.size≤k→k<(fC w (iC w.heap.size)).heap.size→W.heap[k]?=(fC w (iC w.heap.size)).heap[k]?) (hs:w.heap.size≤W.heap.size):j8 W (w.heap.size+21):=by
 obtain⟨V,hV⟩:∃V:World,V={W with heap:=W.heap.take w.heap.size}:=⟨_,rfl⟩;have hVs:V.heap.size=w.heap.size:=by rw[hV];simp;omega
 have h1:=EE V;rw[hVs]at h1;have hsz:(fC V (iC w.heap.size)).heap.size=(fC w (iC w.heap.size)).heap.size:=by rw[nQ,nQ,Array.size_append,Array.size_append,hVs]
 have hag:∀k,k<(fC V (iC w.heap.size)).heap.size→W.heap[k]?=(fC V (iC w.heap.size)).heap[k]?:=fun k hk=>by
  by_cases hkn:k<w.heap.size
  ·rw[nQ,Array.getElem?_append_left (by rw[hVs];exact hkn),hV];simp only[Array.take_eq_extract];rw[Array.getElem?_extract];simp;omega
  ·rw[h k (by omega) (by rw[←hsz];exact hk),nQ,nQ,Array.getElem?_append_right (by omega),Array.getElem?_append_right (by omega),hVs]
 intro i hi;obtain⟨va,vl,vh,r0,r1,r2,r3,r4,hfn,hlo,hhi⟩:=h1 i hi;have key:∀(b off:Nat) (v:Value),(fC V (iC w.heap.size)).cell? ⟨b,off,none⟩=some v→W.cell? ⟨b,off,none⟩=some v:=fun b off v hc=>(World.cell?_of_block (w:=fC V (iC w.heap.size)) (a:=⟨b,off,none⟩) (hag b (aP hc))).trans hc;refine⟨va,vl,vh,key _ _ _ r0,key _ _ _ r1,key _ _ _ r2,key _ _ _ r3,key _ _ _ r4,?_,?_,?_⟩
 ·obtain⟨o,cap,he,hc⟩:=hfn;refine⟨o,cap,he,fun j hj=>?_⟩;obtain⟨b,off,ho,hcc⟩:=hc j hj;exact⟨b,off,ho,key _ _ _ hcc⟩
 ·obtain⟨o,cap,he,hc⟩:=hlo;refine⟨o,cap,he,fun j hj=>?_⟩;obtain⟨b,off,ho,hcc⟩:=hc j hj;exact⟨b,off,ho,key _ _ _ hcc⟩
 ·obtain⟨o,cap,he,hc⟩:=hhi;refine⟨o,cap,he,fun j hj=>?_⟩;obtain⟨b,off,ho,hcc⟩:=hc j hj;exact⟨b,off,ho,key _ _ _ hcc⟩
theorem OZ (w:World):
  Calls Tryz.prog 142 #[] w fun e w'=>(∃b,e=.returned (.slice (some ⟨b,0,none⟩) 12 12)∧aI (Made w w') w' (fun W=>j8 W b)∧w.heap.size≤b)∧Below w.heap.size w w':=by
 go_enter Tryz.func142,Tryz.ntmps142;go_wp2;go_ret;refine⟨⟨w.heap.size+21,rfl,?_,by omega⟩,yU (iC w.heap.size) w (Zc _ _) (Zb _)⟩;intro W hW;have hlt:w.heap.size<(fC w (iC w.heap.size)).heap.size:=by rw[nQ,Array.size_append];simp[iC]
 refine ND w W (fun k h1 h2=>hW k ⟨h1,h2⟩) ?_;have h3:W.heap[w.heap.size]?=(fC w (iC w.heap.size)).heap[w.heap.size]?:=hW w.heap.size ⟨Zb _,hlt⟩;rw[Array.getElem?_eq_getElem hlt]at h3;exact Nat.le_of_lt (Array.getElem?_eq_some_iff.1 h3).1
def lO (w:World) (ws:List (List UInt8)) (e:Ending) (w':World):Prop:=
 Below w.heap.size w w'∧e=.returned (match dY ws with
  |none=>.tuple #[.agg (bM.cells (.slice none 0 0)).toArray,.bool false]
  |some n=>.tuple #[.agg (n.cells (.slice none 0 0)).toArray,.bool true])
theorem lO.no {w w':World} {ws:List (List UInt8)} (h:dY ws=none) (hb:Below w.heap.size w w'):lO w ws (.returned (.tuple #[.agg #[.int .i64 0,.int .i64 0,.int .i64 0,.int .i64 0,.int .i64 0,.int .i64 0,.int .i64 0,.int .i64 0,.slice none 0 0],.bool false])) w':=⟨hb,by rw[h];rfl⟩
theorem lO.yes {w w':World} {ws:List (List UInt8)} {n:aG} (h:dY ws=some n) (hb:Below w.heap.size w w'):lO w ws (.returned (.tuple #[.agg #[.int .i64 n.kind,.int .i64 n.inn,.int .i64 n.o,.int .i64 n.size,.int .i64 n.stride,.int .i64 n.pad,.int .i64 n.percent,.int .i64 n.heads,.slice none 0 0],.bool true])) w':=⟨hb,by rw[h];rfl⟩
structure i7 (w0:World) (rb:Nat) (n:aG) (W:World):Prop where
 lay:aA W w0.heap.size 175 (n.cells (.slice none 0 0)).toArray
 rows:aI (aL (w0.heap.size+1) W) W fun W=>j8 W rb
 rb1:w0.heap.size+1≤rb
 low:Below w0.heap.size w0 W
theorem i7.next {w0 W W':World} {rb:Nat} {n:aG} (h:i7 w0 rb n W) (hb:Below W.heap.size W W'):i7 w0 rb n W':=⟨h.lay.next hb,h.rows.grow hb,h.rb1,h.low.trans (hb.mono h.low.size)⟩
theorem i7.put {w0 W:World} {rb:Nat} {n:aG} (h:i7 w0 rb n W) (i:Nat) (x:Int) (hi:1≤i∧i≤7):i7 w0 rb (n.put i x) (W.setCell ⟨w0.heap.size,i,none⟩ (.int .i64 x)):=
 ⟨by have:=h.lay.set i (.int .i64 x);rw[aG.cell_put _ _ i x hi]at this;exact this,h.rows.set (Nat.lt_succ_self _) _,h.rb1,h.low.setCell (p:=⟨w0.heap.size,i,none⟩) (Zb _) _⟩
theorem i7.kind {w0 W:World} {rb:Nat} {n:aG} (h:i7 w0 rb n W) (x:Int):i7 w0 rb {n with kind:=x} (W.setCell ⟨w0.heap.size,0,none⟩ (.int .i64 x)):=
 ⟨h.lay.set 0 (.int .i64 x),h.rows.set (Nat.lt_succ_self _) _,h.rb1,h.low.setCell (p:=⟨w0.heap.size,0,none⟩) (Zb _) _⟩
def tX (va vl vh:Value) (r:bU) (W:World):Prop:=iE W va r.at_∧Rd W .i64 vl r.low∧Rd W .i64 vh r.high
theorem PC {w:World} {B rb k:Nat} (h:aI (aL B w) w fun W=>j8 W rb) (hB:B≤rb) (hk:k<bG.length) {va vl vh:Value}
  (h2:w.cell? ⟨rb,k*5+2,none⟩=some va) (h3:w.cell? ⟨rb,k*5+3,none⟩=some vl) (h4:w.cell? ⟨rb,k*5+4,none⟩=some vh):aI (aL B w) w (tX va vl vh bG[k]):=fun W hW=>by
 obtain⟨va',vl',vh',_,_,g2,g3,g4,a,b,c⟩:=h W hW k hk;have hag:=hW rb ⟨hB,aP h2⟩;have key:∀off v,w.cell? ⟨rb,off,none⟩=some v→W.cell? ⟨rb,off,none⟩=some v:=fun off v hv=>(World.cell?_of_block (w:=w) (a:=⟨rb,off,none⟩) hag).trans hv;rw[key _ _ h2]at g2;rw[key _ _ h3]at g3;rw[key _ _ h4]at g4;cases g2;cases g3;cases g4;exact⟨a,b,c⟩
theorem DU (p v:Value) (ws:List (List UInt8)) (w:World) (h:fG w v ws) (h0:0<ws.length) (hl:ws.length≤1000000) (hw:∀x∈ws,x.length≤100000):
  Calls Tryz.prog 180 #[p,v] w (lO w ws):=by
 obtain⟨o,cap,rfl⟩:=h.slice;have HR:=Za h;have HWL:=Za hw;obtain⟨hd,hhd⟩:∃hd,hd=fJ ws 0:=⟨_,rfl⟩;have HHD:=Za (show ws.headD []=hd by rw[hhd];cases ws with|nil=>rfl|cons x r=>rfl);have HH0:=Za hhd;clear h hw hhd;go_enter Tryz.func180,Tryz.ntmps180;go_wp2_with(go_at_call 142;refine(OZ _).mono ?_;rintro e w1 ⟨⟨rb,rfl,hrb,hrb1⟩,hb1⟩;refine aD ?_);have HG:=Za (show i7 w rb bM w1 from⟨(aA.new w _ _).next hb1,hrb.mono (fun k hk=>⟨by simpa using hk.1,hk.2⟩),by simpa using hrb1,((Zc _ _).alloc (Zb _) _).trans (hb1.mono (by simp))⟩);clear hrb hrb1 hb1;refine aC ?_;go_wp2;go_loopw[14] (fun i wr=>∃k:Nat,k≤12∧i=.int .i64 k∧Hid (∀j (hj:j<k) (h:j<bG.length),bG[j].word≠hd)∧i7 w rb bM wr) (fun i _=>12-(intOf i).toNat)
 case atStart=>exact⟨0,Ze _,rfl,Za (fun j hj=>absurd hj (Nat.not_lt_zero j)),HG.o⟩
 case round=>
  obtain⟨k,hk12,rfl,HNO,hg⟩:=hrel;obtain⟨w3,rfl⟩:∃w3,w3=wr:=⟨_,rfl⟩;have HG3:=Za hg;clear hg;by_cases hlt12:k<12
  ·have hkl:k<bG.length:=hlt12;obtain⟨va,vl,vh,r0,r1,r2,r3,r4,hfn,hlo,hhi⟩:=HG3.o.rows.here k hkl;have hok:=uS _ (List.getElem_mem hkl);have HSL:=Za (PC HG3.o.rows HG3.o.rb1 hkl r2 r3 r4);obtain⟨rr,hre⟩:∃rr,rr=bG[k]:=⟨_,rfl⟩;have HSL2:=HSL;rw[←hre]at r0 r1 hfn hlo hhi hok HSL2;clear HSL;obtain⟨ok1,ok2,ok3,ok4⟩:=hok;obtain⟨rk,word,ats,lo,hi⟩:=rr;simp only at r0 r1 hfn hlo hhi ok1 ok2 ok3 ok4;have HRE:=Za hre;have HFN:=Za hfn;have HLO:=Za hlo;have HHI:=Za hhi;have OK1:=Za ok1;have OK2:=Za ok2;have OK3:=Za ok3;obtain⟨ofn,cfn,rfl,_⟩:=hfn;obtain⟨olo,clo,rfl⟩:=aU hlo;obtain⟨ohi,chi,rfl⟩:=aU hhi;clear hre hlo hhi ok1 ok2 ok3;obtain⟨bw,offw,rfl,cw⟩:=(HR.o.below HG3.o.low (Zb _)).at 0 h0;rw[Nat.add_zero,←HH0.o]at cw;obtain⟨W4,hW4⟩:∃W4,W4=w3.alloc (.cells #[.int .i64 rk,.string ⟨word.toArray⟩,.slice ofn ats.length cfn,.slice olo lo.length clo,.slice ohi hi.length chi] 219):=⟨_,rfl⟩;have b1:aA W4 w3.heap.size 219 #[.int .i64 rk,.string ⟨word.toArray⟩,.slice ofn ats.length cfn,.slice olo lo.length clo,.slice ohi hi.length chi]:=by rw[hW4];exact aA.new _ _ _
   have hb4:Below w3.heap.size w3 W4:=by rw[hW4];exact(Zc _ _).alloc (Zb _) _
   have HB4:=Za hb4;have HG4:=Za (HG3.o.next hb4);have HBX:=Za b1;have HW4:=Za hW4;have cw4:=oQ hb4 cw;have d1:=b1.cell 1 rfl;simp only[Zk,Zi,Zj]at d1;clear b1 hb4 hW4;by_cases hwd:word=hd
   ·have heq:(hd==word)=true:=by simp[hwd]
    have HRF:=Za (show oX hd=some ⟨rk,word,ats,lo,hi⟩ by
     rw[oX,yI hd bG k hkl (fun j hj=>HNO.o j hj (by omega)) (by rw[←HRE.o];exact hwd),←HRE.o])
    have HON:=Za (show dY ws=if ws.length=1+ats.length then kD ⟨rk,word,ats,lo,hi⟩ 0 ws.tail {bM with kind:=rk} else none by rw[dY,HHD.o,HRF.o]);have HXB:=Za HBX.o;clear hwd;go_wp2;rw[←HW4.o];clear r0 r1 r2 r3 r4 cw;go_region;obtain⟨W5,hW5⟩:∃W5,W5=W4.drew:=⟨_,rfl⟩;have hb5:Below W4.heap.size W4 W5:=by rw[hW5];exact(Zc _ _).drew
    rw[←hW5];have HG5:=Za (HG4.o.next hb5);have HX5:=Za (HBX.o.next hb5);have HB5:=Za (HB4.o.trans (hb5.mono HB4.o.size));clear hb5 hW5 cw4 d1 heq;have e0:=HG5.o.lay.q 0 rfl;have f0:=HG5.o.lay.free 0;have e1:=HG5.o.lay.q 1 rfl;have f1:=HG5.o.lay.free 1;have e2:=HG5.o.lay.q 2 rfl;have f2:=HG5.o.lay.free 2;have e3:=HG5.o.lay.q 3 rfl;have f3:=HG5.o.lay.free 3;have e4:=HG5.o.lay.q 4 rfl;have f4:=HG5.o.lay.free 4;have e5:=HG5.o.lay.q 5 rfl;have f5:=HG5.o.lay.free 5;have e6:=HG5.o.lay.q 6 rfl;have f6:=HG5.o.lay.free 6;have e7:=HG5.o.lay.q 7 rfl;have f7:=HG5.o.lay.free 7;have e8:=HG5.o.lay.q 8 rfl;have f8:=HG5.o.lay.free 8;have y0:=HX5.o.q 0 rfl;have y2:=HX5.o.q 2 rfl;have hne:w3.heap.size≠w.heap.size:=fun e=>by have:=HG3.o.lay.lt;omega
    obtain⟨W6,hW6⟩:∃W6,W6=W5.setCell ⟨w.heap.size,0,none⟩ (.int .i64 rk):=⟨_,rfl⟩;have HG6:=Za (show i7 w rb {bM with kind:=rk} W6 by rw[hW6];exact HG5.o.kind rk);have HSL6:=Za (show aI (aL (w.heap.size+1) W6) W6 (tX _ _ _ _) by rw[hW6];exact((HSL2.o.grow HB5.o)).set (Nat.lt_succ_self _) _);have HX6:=Za (show aA W6 w3.heap.size 219 #[.int .i64 rk,.string ⟨word.toArray⟩,.slice ofn ats.length cfn,.slice olo lo.length clo,.slice ohi hi.length chi] from by rw[hW6];exact HX5.o.other hne.symm _);have y6:=HX6.o.q 2 rfl;rw[hW6]at y6;by_cases hlen:ws.length=1+ats.length
    ·have HLEN:=Za hlen;have hln:((ws.length:Int) != 1+(ats.length:Int))=false:=by simp;omega
     have HTL:=Za (show ws.tail.length=ats.length by rw[List.length_tail];omega);have HST:=Za (show dY ws=kD ⟨rk,word,ats,lo,hi⟩ 0 (ws.tail.drop 0) {bM with kind:=rk} by rw[HON.o,if_pos hlen];rfl);clear hlen;go_wp2;rw[←hW6];clear hW6 y6 y0 y2 e0 f0 e1 f1 e2 f2 e3 f3 e4 f4 e5 f5 e6 f6 e7 f7 e8 f8;go_loopw[38] (fun i wr=>∃(j:Nat) (n:aG),j≤ats.length∧i=.int .i64 j∧i7 w rb n wr∧aA wr w3.heap.size 219 #[.int .i64 rk,.string ⟨word.toArray⟩,.slice ofn ats.length cfn,.slice olo lo.length clo,.slice ohi hi.length chi]∧aI (aL (w.heap.size+1) wr) wr (tX (.slice ofn ats.length cfn) (.slice olo lo.length clo) (.slice ohi hi.length chi) ⟨rk,word,ats,lo,hi⟩)∧Hid (dY ws=kD ⟨rk,word,ats,lo,hi⟩ j (ws.tail.drop j) n)) (fun i _=>ats.length-(intOf i).toNat)
     case atStart=>exact⟨0,_,Ze _,rfl,HG6.o,HX6.o,HSL6.o,HST⟩
     case round=>
      obtain⟨j,n,hj,rfl,ha,hbx,hsl,HF⟩:=hrel;obtain⟨w7,rfl⟩:∃w7,w7=wr:=⟨_,rfl⟩;have HA:=Za ha;have HBX7:=Za hbx;have HS7:=Za hsl;clear ha hbx hsl;by_cases hjl:j<ats.length
      ·obtain⟨bf,of_,rfl,cf⟩:=HS7.o.here.1.at j hjl;obtain⟨bl,ol,rfl,cl⟩:=HS7.o.here.2.1.cell j (by rw[OK1.o];exact hjl);obtain⟨bh,oh,rfl,ch⟩:=HS7.o.here.2.2.cell j (by rw[OK2.o];exact hjl);have hjw:1+j<ws.length:=by have:=HLEN.o;omega
       obtain⟨bx,ox,hox,cx⟩:=(HR.o.below HA.o.low (Zb _)).at (1+j) hjw;cases hox;have htd:ws.tail.drop j=fJ ws (1+j)::ws.tail.drop (j+1):=by
        rw[List.drop_eq_getElem_cons (by have:=HTL.o;omega),oW ws (1+j) hjw,List.getElem_tail]
        congr 2
        omega
       have hxl:=HWL.o (fJ ws (1+j)) (by rw[oW ws _ hjw];exact List.getElem_mem hjw);obtain⟨x,hx⟩:∃x,x=fJ ws (1+j):=⟨_,rfl⟩;rw[←hx]at cx htd hxl;obtain⟨xl,hxl2⟩:∃x,x=aE lo j:=⟨_,rfl⟩;obtain⟨xh,hxh2⟩:∃x,x=aE hi j:=⟨_,rfl⟩;rw[←hxl2]at cl;rw[←hxh2]at ch;have hgd:ats.getD j 0=ats[j]:=by simp[List.getD_eq_getElem?_getD,hjl]
       have HF2:=Za (show dY ws=match dO x xl xh with
         |none=>none
         |some y=>kD ⟨rk,word,ats,lo,hi⟩ (j+1) (ws.tail.drop (j+1)) (n.put ats[j] y) by
        rw[HF.o,htd,kD];simp only;rw[hgd,hxl2,hxh2,aE,aE];cases dO x (lo.getD j 0) (hi.getD j 0)<;>rfl)
       have ha7:=OK3.o _ (List.getElem_mem hjl);generalize ats[j]=a at cf HF2 ha7;obtain⟨F,hF⟩:∃F,F=lA a:=⟨_,rfl⟩;have he:∀args w,(callFunc F args).run Tryz.prog w=.ok (.enter F args) w:=by rw[hF];exact wR a
       have HFF:=Za (show ∀b w,Calls Tryz.prog F #[.pointer (some ⟨b,0,none⟩)] w fun e w'=>e=.returned (.pointer (some ⟨b,a,none⟩))∧w=w' from fun b w=>by rw[hF];exact uO a ha7 b w);rw[←hF]at cf;have HA7:=Za ha7;have z3:=HBX7.o.q 3 rfl;have z4:=HBX7.o.q 4 rfl;have hjlo:j<lo.length:=by rw[OK1.o];exact hjl
       have hjhi:j<hi.length:=by rw[OK2.o];exact hjl
       have HC:=Za (Zd cx (Zd z3 (Zd z4 (Zd cl ch))));have HX:=Za (show Below w7.heap.size w7 w7.drew from Below.drew (Zc _ _));have hw1:IntKind.i64.wrap (1+(j:Int))=((1+j:Nat):Int):=by rw[IntKind.wrap_i64];omega
       have htn:(1+(j:Int)).toNat=1+j:=by omega
       have hib1:(0:Int)≤1+(j:Int):=by omega
       have hib2:1+(j:Int)<(ws.length:Int):=by omega
       clear htd hx hxl2 hxh2 hgd hF ha7;go_wp2_with fail;go_region_held3 (fun w'=>w'.cell? ⟨bw,offw+(1+j),none⟩=some (.string ⟨x.toArray⟩)∧w'.cell? ⟨w3.heap.size,3,none⟩=some (.slice (some ⟨bl,ol,none⟩) lo.length clo)∧w'.cell? ⟨w3.heap.size,4,none⟩=some (.slice (some ⟨bh,oh,none⟩) hi.length chi)∧w'.cell? ⟨bl,ol+j,none⟩=some (.int .i64 xl)∧w'.cell? ⟨bh,oh+j,none⟩=some (.int .i64 xh))
        (exact⟨oQ HX.o HC.o.1,oQ HX.o HC.o.2.1,oQ HX.o HC.o.2.2.1,oQ HX.o HC.o.2.2.2.1,oQ HX.o HC.o.2.2.2.2⟩)
        (first
        |(go_at_call 155;refine(vK x xl xh _ hxl).mono ?_;rintro e wy ⟨⟨m,rfl,hm⟩,hwy⟩;have HX:=Za (show Below w7.heap.size w7 wy by rw[←hwy];exact HX.o);have HM:=Za hm;clear hm hwy))
       clear cx cl ch z3 z4 cf;have HA8:=Za (HA.o.next HX.o);have HBX8:=Za (HBX7.o.next HX.o);have HS8:=Za (HS7.o.grow HX.o);cases hnp:dO x xl xh with
       |none=>
        have HN:=Za (show dY ws=none by rw[HF2.o,hnp]);clear hnp;have e0:=HA8.o.lay.q 0 rfl;have f0:=HA8.o.lay.free 0;have e1:=HA8.o.lay.q 1 rfl;have f1:=HA8.o.lay.free 1;have e2:=HA8.o.lay.q 2 rfl;have f2:=HA8.o.lay.free 2;have e3:=HA8.o.lay.q 3 rfl;have f3:=HA8.o.lay.free 3;have e4:=HA8.o.lay.q 4 rfl;have f4:=HA8.o.lay.free 4;have e5:=HA8.o.lay.q 5 rfl;have f5:=HA8.o.lay.free 5;have e6:=HA8.o.lay.q 6 rfl;have f6:=HA8.o.lay.free 6;have e7:=HA8.o.lay.q 7 rfl;have f7:=HA8.o.lay.free 7;have e8:=HA8.o.lay.q 8 rfl;have f8:=HA8.o.lay.free 8;go_wp2_with fail;obtain⟨V,hV⟩:∃V,V=(((((((((wy.setCell ⟨w.heap.size,0,none⟩ (.int .i64 0)).setCell ⟨w.heap.size,1,none⟩ (.int .i64 0)).setCell ⟨w.heap.size,2,none⟩ (.int .i64 0)).setCell ⟨w.heap.size,3,none⟩ (.int .i64 0)).setCell ⟨w.heap.size,4,none⟩ (.int .i64 0)).setCell ⟨w.heap.size,5,none⟩ (.int .i64 0)).setCell ⟨w.heap.size,6,none⟩ (.int .i64 0)).setCell ⟨w.heap.size,7,none⟩ (.int .i64 0)).setCell ⟨w.heap.size,8,none⟩ (.slice none 0 0)):=⟨_,rfl⟩;have hz:aA V w.heap.size 175 #[.int .i64 0,.int .i64 0,.int .i64 0,.int .i64 0,.int .i64 0,.int .i64 0,.int .i64 0,.int .i64 0,.slice none 0 0]∧Below w.heap.size w V:=by rw[hV];exact sU HA8.o.lay HA8.o.low (Zb _)
        rw[←hV];have g0:=hz.1.cell 0 rfl;have g1:=hz.1.cell 1 rfl;have g2:=hz.1.cell 2 rfl;have g3:=hz.1.cell 3 rfl;have g4:=hz.1.cell 4 rfl;have g5:=hz.1.cell 5 rfl;have g6:=hz.1.cell 6 rfl;have g7:=hz.1.cell 7 rfl;have g8:=hz.1.cell 8 rfl;simp only[Zk,Zi,Zj]at g0 g1 g2 g3 g4 g5 g6 g7 g8;exact bodyPost_ret (v:=.tuple #[.agg #[.int .i64 0,.int .i64 0,.int .i64 0,.int .i64 0,.int .i64 0,.int .i64 0,.int .i64 0,.int .i64 0,.slice none 0 0],.bool false]) (by simp[results,Tryz.results180,go_sem,g0,g1,g2,g3,g4,g5,g6,g7,g8]) rfl (lO.no HN.o hz.2)
       |some y=>
        have HF3:=Za (show dY ws=kD ⟨rk,word,ats,lo,hi⟩ (j+1) (ws.tail.drop (j+1)) (n.put a y) by rw[HF2.o,hnp]);obtain rfl:m=y:=HM.o y hnp;have ea:=HA8.o.lay.cell a (aG.cell_fld n _ a HA7.o);have fa:=HA8.o.lay.free a;clear hnp;go_wp2_with fail;refine(HFF.o _ _).mono ?_;rintro e w' ⟨rfl,rfl⟩;have HA9:=Za (HA8.o.put a m HA7.o);have HB9:=Za (HBX8.o.other (p:=⟨w.heap.size,a,none⟩) hne.symm (.int .i64 m));have HS9:=Za (HS8.o.set (Nat.lt_succ_self w.heap.size) (j:=a) (.int .i64 m));go_wp2;go_roundw
        case rel=>exact⟨j+1,_,by omega,by go_num,HA9.o,HB9.o,HS9.o,HF3⟩
        case measure=>simp[intOf];omega
      ·obtain rfl:j=ats.length:=by omega
       have HN:=Za (show dY ws=some n by rw[HF.o,List.drop_of_length_le (by rw[HTL.o];exact Zb _),kD]);have e0:=HA.o.lay.q 0 rfl;have f0:=HA.o.lay.free 0;have e1:=HA.o.lay.q 1 rfl;have f1:=HA.o.lay.free 1;have e2:=HA.o.lay.q 2 rfl;have f2:=HA.o.lay.free 2;have e3:=HA.o.lay.q 3 rfl;have f3:=HA.o.lay.free 3;have e4:=HA.o.lay.q 4 rfl;have f4:=HA.o.lay.free 4;have e5:=HA.o.lay.q 5 rfl;have f5:=HA.o.lay.free 5;have e6:=HA.o.lay.q 6 rfl;have f6:=HA.o.lay.free 6;have e7:=HA.o.lay.q 7 rfl;have f7:=HA.o.lay.free 7;have e8:=HA.o.lay.q 8 rfl;have f8:=HA.o.lay.free 8;go_wp2_with fail;obtain⟨V,hV⟩:∃V,V=(((((((((w7.setCell ⟨w.heap.size,0,none⟩ (.int .i64 n.kind)).setCell ⟨w.heap.size,1,none⟩ (.int .i64 n.inn)).setCell ⟨w.heap.size,2,none⟩ (.int .i64 n.o)).setCell ⟨w.heap.size,3,none⟩ (.int .i64 n.size)).setCell ⟨w.heap.size,4,none⟩ (.int .i64 n.stride)).setCell ⟨w.heap.size,5,none⟩ (.int .i64 n.pad)).setCell ⟨w.heap.size,6,none⟩ (.int .i64 n.percent)).setCell ⟨w.heap.size,7,none⟩ (.int .i64 n.heads)).setCell ⟨w.heap.size,8,none⟩ (.slice none 0 0)):=⟨_,rfl⟩;have hz:aA V w.heap.size 175 #[.int .i64 n.kind,.int .i64 n.inn,.int .i64 n.o,.int .i64 n.size,.int .i64 n.stride,.int .i64 n.pad,.int .i64 n.percent,.int .i64 n.heads,.slice none 0 0]∧Below w.heap.size w V:=by rw[hV];exact sU HA.o.lay HA.o.low (Zb _)
       rw[←hV];have g0:=hz.1.cell 0 rfl;have g1:=hz.1.cell 1 rfl;have g2:=hz.1.cell 2 rfl;have g3:=hz.1.cell 3 rfl;have g4:=hz.1.cell 4 rfl;have g5:=hz.1.cell 5 rfl;have g6:=hz.1.cell 6 rfl;have g7:=hz.1.cell 7 rfl;have g8:=hz.1.cell 8 rfl;simp only[Zk,Zi,Zj]at g0 g1 g2 g3 g4 g5 g6 g7 g8;exact bodyPost_ret (v:=.tuple #[.agg #[.int .i64 n.kind,.int .i64 n.inn,.int .i64 n.o,.int .i64 n.size,.int .i64 n.stride,.int .i64 n.pad,.int .i64 n.percent,.int .i64 n.heads,.slice none 0 0],.bool true]) (by simp[results,Tryz.results180,go_sem,g0,g1,g2,g3,g4,g5,g6,g7,g8]) rfl (lO.yes HN.o hz.2)
    ·have HN:=Za (show dY ws=none by rw[HON.o,if_neg hlen]);have hln:((ws.length:Int) != 1+(ats.length:Int))=true:=by simp;omega
     clear hlen;go_wp2_with fail;rw[←hW6];obtain⟨V,hV⟩:∃V,V=(((((((((W6.setCell ⟨w.heap.size,0,none⟩ (.int .i64 0)).setCell ⟨w.heap.size,1,none⟩ (.int .i64 0)).setCell ⟨w.heap.size,2,none⟩ (.int .i64 0)).setCell ⟨w.heap.size,3,none⟩ (.int .i64 0)).setCell ⟨w.heap.size,4,none⟩ (.int .i64 0)).setCell ⟨w.heap.size,5,none⟩ (.int .i64 0)).setCell ⟨w.heap.size,6,none⟩ (.int .i64 0)).setCell ⟨w.heap.size,7,none⟩ (.int .i64 0)).setCell ⟨w.heap.size,8,none⟩ (.slice none 0 0)):=⟨_,rfl⟩;have hz:aA V w.heap.size 175 #[.int .i64 0,.int .i64 0,.int .i64 0,.int .i64 0,.int .i64 0,.int .i64 0,.int .i64 0,.int .i64 0,.slice none 0 0]∧Below w.heap.size w V:=by rw[hV];exact sU HG6.o.lay HG6.o.low (Zb _)
     rw[←hV];have g0:=hz.1.cell 0 rfl;have g1:=hz.1.cell 1 rfl;have g2:=hz.1.cell 2 rfl;have g3:=hz.1.cell 3 rfl;have g4:=hz.1.cell 4 rfl;have g5:=hz.1.cell 5 rfl;have g6:=hz.1.cell 6 rfl;have g7:=hz.1.cell 7 rfl;have g8:=hz.1.cell 8 rfl;simp only[Zk,Zi,Zj]at g0 g1 g2 g3 g4 g5 g6 g7 g8;exact bodyPost_ret (v:=.tuple #[.agg #[.int .i64 0,.int .i64 0,.int .i64 0,.int .i64 0,.int .i64 0,.int .i64 0,.int .i64 0,.int .i64 0,.slice none 0 0],.bool false]) (by simp[results,Tryz.results180,go_sem,g0,g1,g2,g3,g4,g5,g6,g7,g8]) rfl (lO.no HN.o hz.2)
   ·have hne:(hd==word)=false:=by simpa using fun h=>hwd h.symm
    have HNO2:=Za (show ∀j (hj:j<k+1) (h:j<bG.length),bG[j].word≠hd from fun j hj h=>by
     rcases Nat.lt_succ_iff_lt_or_eq.1 hj with hj|hj
     ·exact HNO.o j hj h
     ·subst hj;rw[←HRE.o];exact hwd)
    go_wp2;rw[←HW4.o];go_quiet(fail);go_wp2;go_roundw
    case rel=>exact⟨k+1,by omega,by go_num,HNO2,HG4.o.next (below_drewN (Zc _ _) _)⟩
    case measure=>simp[intOf];omega
  ·obtain rfl:k=12:=by omega
   have HN:=Za (show dY ws=none by rw[dY,HHD.o,GB hd (fun j hj=>HNO.o j (by simpa [bG]using hj) hj)]);have e0:=HG3.o.lay.q 0 rfl;have f0:=HG3.o.lay.free 0;have e1:=HG3.o.lay.q 1 rfl;have f1:=HG3.o.lay.free 1;have e2:=HG3.o.lay.q 2 rfl;have f2:=HG3.o.lay.free 2;have e3:=HG3.o.lay.q 3 rfl;have f3:=HG3.o.lay.free 3;have e4:=HG3.o.lay.q 4 rfl;have f4:=HG3.o.lay.free 4;have e5:=HG3.o.lay.q 5 rfl;have f5:=HG3.o.lay.free 5;have e6:=HG3.o.lay.q 6 rfl;have f6:=HG3.o.lay.free 6;have e7:=HG3.o.lay.q 7 rfl;have f7:=HG3.o.lay.free 7;have e8:=HG3.o.lay.q 8 rfl;have f8:=HG3.o.lay.free 8;go_wp2_with fail;obtain⟨V,hV⟩:∃V,V=(((((((((w3.setCell ⟨w.heap.size,0,none⟩ (.int .i64 0)).setCell ⟨w.heap.size,1,none⟩ (.int .i64 0)).setCell ⟨w.heap.size,2,none⟩ (.int .i64 0)).setCell ⟨w.heap.size,3,none⟩ (.int .i64 0)).setCell ⟨w.heap.size,4,none⟩ (.int .i64 0)).setCell ⟨w.heap.size,5,none⟩ (.int .i64 0)).setCell ⟨w.heap.size,6,none⟩ (.int .i64 0)).setCell ⟨w.heap.size,7,none⟩ (.int .i64 0)).setCell ⟨w.heap.size,8,none⟩ (.slice none 0 0)):=⟨_,rfl⟩;have hz:aA V w.heap.size 175 #[.int .i64 0,.int .i64 0,.int .i64 0,.int .i64 0,.int .i64 0,.int .i64 0,.int .i64 0,.int .i64 0,.slice none 0 0]∧Below w.heap.size w V:=by rw[hV];exact sU HG3.o.lay HG3.o.low (Zb _)
   rw[←hV];have g0:=hz.1.cell 0 rfl;have g1:=hz.1.cell 1 rfl;have g2:=hz.1.cell 2 rfl;have g3:=hz.1.cell 3 rfl;have g4:=hz.1.cell 4 rfl;have g5:=hz.1.cell 5 rfl;have g6:=hz.1.cell 6 rfl;have g7:=hz.1.cell 7 rfl;have g8:=hz.1.cell 8 rfl;simp only[Zk,Zi,Zj]at g0 g1 g2 g3 g4 g5 g6 g7 g8;exact bodyPost_ret (v:=.tuple #[.agg #[.int .i64 0,.int .i64 0,.int .i64 0,.int .i64 0,.int .i64 0,.int .i64 0,.int .i64 0,.int .i64 0,.slice none 0 0],.bool false]) (by simp[results,Tryz.results180,go_sem,g0,g1,g2,g3,g4,g5,g6,g7,g8]) rfl (lO.no HN.o hz.2)
end Go.Proofs.YtjhkdocidcfpdaaGreatDoor
