/- A part of the proof. -/
import Derived.Test.YtjhkdocidcfpdaaGreatDoorEN23
set_option linter.unusedVariables false
set_option linter.unusedSimpArgs false
set_option maxRecDepth 100000
set_option maxHeartbeats 16000000
open List renaming getElem_cons_zero → Zi, getElem_cons_succ → Zj, getElem_toArray → Zk
namespace Go.Proofs.YtjhkdocidcfpdaaGreatDoor
open Go.RowKit Go.Shelf Go
def fN (ws:List (List UInt8)) (k:Nat):List UInt8:=ws.getD k []
theorem pF (ws:List (List UInt8)) (k:Nat) (h:k<ws.length):fN ws k=ws[k]:=by rw[fN,List.getD_eq_getElem?_getD,List.getElem?_eq_getElem h];rfl
def fQ (w:World) (v:Value) (ws:List (List UInt8)):Prop:=∃o cap,v=.slice o ws.length cap/\∀k,k<ws.length->∃b off,o=some ⟨b,off,none⟩/\w.cell? ⟨b,off+k,none⟩=some (.string ⟨(fN ws k).toArray⟩)
theorem fQ.below {w w':World} {B:Nat} {v:Value} {ws:List (List UInt8)} (h:fQ w v ws) (hB:Below B w w') (hs:w.heap.size<=B):fQ w' v ws:=by obtain⟨o,cap,rfl,h⟩:=h;refine⟨o,cap,rfl,fun k hk=>?_⟩;obtain⟨b,off,rfl,hc⟩:=h k hk;exact⟨b,off,rfl,(hB.cell (p:=⟨b,off+k,none⟩) (Nat.lt_of_lt_of_le (aP hc) hs)).trans hc⟩
theorem fQ.slice {w:World} {v:Value} {ws:List (List UInt8)} (h:fQ w v ws):∃o cap,v=.slice o ws.length cap:=by obtain⟨o,cap,rfl,_⟩:=h;exact⟨o,cap,rfl⟩
theorem fQ.at {w:World} {o:Option Addr} {n cap:Nat} {ws:List (List UInt8)} (h:fQ w (.slice o n cap) ws) (k:Nat) (hk:k<ws.length):∃b off,o=some ⟨b,off,none⟩/\w.cell? ⟨b,off+k,none⟩=some (.string ⟨(fN ws k).toArray⟩):=by obtain⟨o',cap',he,h⟩:=h;simp at he;obtain⟨rfl,_,_⟩:=he;exact h k hk
theorem fQ.of_own {w:World} {B:Nat} {v:Value} {ws:List (List UInt8)} (h:iU w B v ws):fQ w v ws:=by
 obtain⟨o,cap,hv,_⟩:=jK h;subst hv;refine⟨o,cap,rfl,fun k hk=>?_⟩;rcases h.2 with⟨he,h0⟩|⟨g,cap',cur,he,_,hg,A,C,D,ht⟩
 ·omega
 ·injection he with h1 h2 h3;subst h1;refine⟨g,0,rfl,?_⟩;have hu:(ws.map strV)[k]?=some (.string ⟨(fN ws k).toArray⟩):=by rw[List.getElem?_map,List.getElem?_eq_getElem hk,pF ws k hk];rfl
  rw[<-ht,List.getElem?_take]at hu;rw[Nat.zero_add,cell_of_row w g k cur _ _ hg];split at hu
  ·simpa using hu
  ·cases hu
theorem pL {w w':World} {b off:Nat} {v:Value} (hb:Below w.heap.size w w') (h:w.cell? ⟨b,off,none⟩=some v):w'.cell? ⟨b,off,none⟩=some v:=(hb.cell (p:=⟨b,off,none⟩) (aP h)).trans h
theorem tP {W:World} {g B:Nat} {T:TypeId} {x0 x1 x2 x3 x4 x5 x6 x7 x8 a0 a1 a2 a3 a4 a5 a6 a7 a8:Value} {w0:World} (h:aA W g T #[x0,x1,x2,x3,x4,x5,x6,x7,x8]) (hb:Below B w0 W) (A:B<=g):
  aA (((((((((W.setCell ⟨g,0,none⟩ a0).setCell ⟨g,1,none⟩ a1).setCell ⟨g,2,none⟩ a2).setCell ⟨g,3,none⟩ a3).setCell ⟨g,4,none⟩ a4).setCell ⟨g,5,none⟩ a5).setCell ⟨g,6,none⟩ a6).setCell ⟨g,7,none⟩ a7).setCell ⟨g,8,none⟩ a8) g T #[a0,a1,a2,a3,a4,a5,a6,a7,a8]/\Below B w0 (((((((((W.setCell ⟨g,0,none⟩ a0).setCell ⟨g,1,none⟩ a1).setCell ⟨g,2,none⟩ a2).setCell ⟨g,3,none⟩ a3).setCell ⟨g,4,none⟩ a4).setCell ⟨g,5,none⟩ a5).setCell ⟨g,6,none⟩ a6).setCell ⟨g,7,none⟩ a7).setCell ⟨g,8,none⟩ a8):=by have b0:aA (W.setCell ⟨g,0,none⟩ a0) g T #[a0,x1,x2,x3,x4,x5,x6,x7,x8]:=h.set 0 a0;have b1:aA ((W.setCell ⟨g,0,none⟩ a0).setCell ⟨g,1,none⟩ a1) g T #[a0,a1,x2,x3,x4,x5,x6,x7,x8]:=b0.set 1 a1;have b2:aA (((W.setCell ⟨g,0,none⟩ a0).setCell ⟨g,1,none⟩ a1).setCell ⟨g,2,none⟩ a2) g T #[a0,a1,a2,x3,x4,x5,x6,x7,x8]:=b1.set 2 a2;have b3:aA ((((W.setCell ⟨g,0,none⟩ a0).setCell ⟨g,1,none⟩ a1).setCell ⟨g,2,none⟩ a2).setCell ⟨g,3,none⟩ a3) g T #[a0,a1,a2,a3,x4,x5,x6,x7,x8]:=b2.set 3 a3;have b4:aA (((((W.setCell ⟨g,0,none⟩ a0).setCell ⟨g,1,none⟩ a1).setCell ⟨g,2,none⟩ a2).setCell ⟨g,3,none⟩ a3).setCell ⟨g,4,none⟩ a4) g T #[a0,a1,a2,a3,a4,x5,x6,x7,x8]:=b3.set 4 a4;have b5:aA ((((((W.setCell ⟨g,0,none⟩ a0).setCell ⟨g,1,none⟩ a1).setCell ⟨g,2,none⟩ a2).setCell ⟨g,3,none⟩ a3).setCell ⟨g,4,none⟩ a4).setCell ⟨g,5,none⟩ a5) g T #[a0,a1,a2,a3,a4,a5,x6,x7,x8]:=b4.set 5 a5;have b6:aA (((((((W.setCell ⟨g,0,none⟩ a0).setCell ⟨g,1,none⟩ a1).setCell ⟨g,2,none⟩ a2).setCell ⟨g,3,none⟩ a3).setCell ⟨g,4,none⟩ a4).setCell ⟨g,5,none⟩ a5).setCell ⟨g,6,none⟩ a6) g T #[a0,a1,a2,a3,a4,a5,a6,x7,x8]:=b5.set 6 a6;have b7:aA ((((((((W.setCell ⟨g,0,none⟩ a0).setCell ⟨g,1,none⟩ a1).setCell ⟨g,2,none⟩ a2).setCell ⟨g,3,none⟩ a3).setCell ⟨g,4,none⟩ a4).setCell ⟨g,5,none⟩ a5).setCell ⟨g,6,none⟩ a6).setCell ⟨g,7,none⟩ a7) g T #[a0,a1,a2,a3,a4,a5,a6,a7,x8]:=b6.set 7 a7;have b8:aA (((((((((W.setCell ⟨g,0,none⟩ a0).setCell ⟨g,1,none⟩ a1).setCell ⟨g,2,none⟩ a2).setCell ⟨g,3,none⟩ a3).setCell ⟨g,4,none⟩ a4).setCell ⟨g,5,none⟩ a5).setCell ⟨g,6,none⟩ a6).setCell ⟨g,7,none⟩ a7).setCell ⟨g,8,none⟩ a8) g T #[a0,a1,a2,a3,a4,a5,a6,a7,a8]:=b7.set 8 a8;exact⟨b8,(((((((((hb.setCell (p:=⟨g,0,none⟩) A a0).setCell (p:=⟨g,1,none⟩) A a1).setCell (p:=⟨g,2,none⟩) A a2).setCell (p:=⟨g,3,none⟩) A a3).setCell (p:=⟨g,4,none⟩) A a4).setCell (p:=⟨g,5,none⟩) A a5).setCell (p:=⟨g,6,none⟩) A a6).setCell (p:=⟨g,7,none⟩) A a7).setCell (p:=⟨g,8,none⟩) A a8)⟩
theorem pX (v:Value) (ws:List (List UInt8)) (x:List UInt8) (w:World) (h:fQ w v ws) (hl:ws.length<=1000000):
  Calls Tryz.prog 179 #[v,.string ⟨x.toArray⟩] w fun e w'=>e=.returned (.bool (decide (ws=[x])))/\w=w':=by
 obtain⟨o,cap,rfl⟩:=h.slice;have G:=Za h;clear h;by_cases h1:ws.length=1
 ·obtain⟨b,off,rfl,hc⟩:=G.o.at 0 (by omega);rw[Nat.add_zero]at hc;obtain⟨y,hy⟩:∃y,ws=[y]:=List.length_eq_one_iff.1 h1;have A:fN ws 0=y:=by rw[hy];rfl
  rw[A]at hc;have hd:(decide (ws=[x]))=(y==x):=by rw[hy,Bool.eq_iff_iff];simp
  have C:=Za hd;have D:((ws.length:Int)==1)=true:=by simp[h1]
  have F:0<ws.length:=by omega
  clear hy A hd h1 hl;cases B:y==x with
  |true=>
   have E:=Za B;go_enter Tryz.func179,Tryz.ntmps179;go_wp2;go_ret;exact⟨aG (by rw[C.o,E.o]),rfl⟩
  |false=>
   have E:=Za B;go_enter Tryz.func179,Tryz.ntmps179;go_wp2;go_ret;exact⟨aG (by rw[C.o,E.o]),rfl⟩
 ·have C:=Za (show decide (ws=[x])=false from decide_eq_false (fun h=>h1 (by rw[h];rfl)));have D:((ws.length:Int)==1)=false:=by simp;omega
  clear h1 hl;go_enter Tryz.func179,Tryz.ntmps179;go_wp2;go_ret;exact⟨by rw[C.o];rfl,rfl⟩
theorem BM (x:List UInt8):∀(l:List bX) (k:Nat) (hk:k<l.length),(∀j (hj:j<k),l[j].word≠x)->l[k].word=x->l.find? (fun r=>decide (r.word=x))=some l[k]
 |[],k,hk,_,_=>absurd hk (Nat.not_lt_zero _)
 |r::l,0,hk,_,he=>by rw[List.find?_cons];simp only[Zi]at he ⊢;rw[decide_eq_true he]
 |r::l,k+1,hk,hn,he=>by
  have h0:=hn 0 (by omega);simp only[Zi]at h0;rw[List.find?_cons,decide_eq_false h0];exact BM x l k (by simpa using hk) (fun j hj=>by have:=hn (j+1) (by omega);simpa using this) (by simpa using he)
theorem GP (x:List UInt8) (h:∀j (hj:j<bJ.length),bJ[j].word≠x):pW x=none:=by
 rw[pW,List.find?_eq_none];intro r hr;obtain⟨j,hj,he⟩:=List.getElem_of_mem hr;have:=h j hj;rw[he]at this
 simpa using this
theorem I3 (w W:World) (h:∀k,w.heap.size<=k->k<(fP w (iI w.heap.size)).heap.size->W.heap[k]?=(fP w (iI w.heap.size)).heap[k]?) (hs:w.heap.size<=W.heap.size):kU W (w.heap.size+21):=by
 obtain⟨V,hV⟩:=Zx ({W with heap:=W.heap.take w.heap.size});have B:V.heap.size=w.heap.size:=by rw[hV];simp;omega
 have h1:=DH V;rw[B]at h1;have D:(fP V (iI w.heap.size)).heap.size=(fP w (iI w.heap.size)).heap.size:=by rw[oE,oE,Array.size_append,Array.size_append,B]
 have E:∀k,k<(fP V (iI w.heap.size)).heap.size->W.heap[k]?=(fP V (iI w.heap.size)).heap[k]?:=fun k hk=>by
  by_cases F:k<w.heap.size
  ·rw[oE,Array.getElem?_append_left (by rw[B];exact F),hV];simp only[Array.take_eq_extract];rw[Array.getElem?_extract];simp;omega
  ·rw[h k (by omega) (by rw[<-D];exact hk),oE,oE,Array.getElem?_append_right (by omega),Array.getElem?_append_right (by omega),B]
 intro i hi;obtain⟨va,vl,vh,r0,r1,r2,r3,r4,G,H,I⟩:=h1 i hi;have key:∀(b off:Nat) (v:Value),(fP V (iI w.heap.size)).cell? ⟨b,off,none⟩=some v->W.cell? ⟨b,off,none⟩=some v:=fun b off v C=>(World.cell?_of_block (w:=fP V (iI w.heap.size)) (a:=⟨b,off,none⟩) (E b (aP C))).trans C;refine⟨va,vl,vh,key _ _ _ r0,key _ _ _ r1,key _ _ _ r2,key _ _ _ r3,key _ _ _ r4,?_,?_,?_⟩
 ·obtain⟨o,cap,he,C⟩:=G;refine⟨o,cap,he,fun j hj=>?_⟩;obtain⟨b,off,ho,A⟩:=C j hj;exact⟨b,off,ho,key _ _ _ A⟩
 ·obtain⟨o,cap,he,C⟩:=H;refine⟨o,cap,he,fun j hj=>?_⟩;obtain⟨b,off,ho,A⟩:=C j hj;exact⟨b,off,ho,key _ _ _ A⟩
 ·obtain⟨o,cap,he,C⟩:=I;refine⟨o,cap,he,fun j hj=>?_⟩;obtain⟨b,off,ho,A⟩:=C j hj;exact⟨b,off,ho,key _ _ _ A⟩
theorem S1 (w:World):
  Calls Tryz.prog 142 #[] w fun e w'=>(∃b,e=.returned (.slice (some ⟨b,0,none⟩) 12 12)/\aI (Made w w') w' (fun W=>kU W b)/\w.heap.size<=b)/\Below w.heap.size w w':=by
 go_enter Tryz.func142,Tryz.ntmps142;go_wp2;go_ret;refine⟨⟨w.heap.size+21,rfl,?_,by omega⟩,BB (iI w.heap.size) w (Zc _ _) (Zb _)⟩;intro W hW;have A:w.heap.size<(fP w (iI w.heap.size)).heap.size:=by rw[oE,Array.size_append];simp[iI]
 refine I3 w W (fun k h1 h2=>hW k ⟨h1,h2⟩) ?_;have h3:W.heap[w.heap.size]?=(fP w (iI w.heap.size)).heap[w.heap.size]?:=hW w.heap.size ⟨Zb _,A⟩;rw[Array.getElem?_eq_getElem A]at h3;exact Nat.le_of_lt (Array.getElem?_eq_some_iff.1 h3).1
def mQ (w:World) (ws:List (List UInt8)) (e:Ending) (w':World):Prop:=
 Below w.heap.size w w'/\e=.returned (match eH ws with
  |none=>.tuple #[.agg (bN.cells (.slice none 0 0)).toArray,.bool false]
  |some n=>.tuple #[.agg (n.cells (.slice none 0 0)).toArray,.bool true])
theorem mQ.no {w w':World} {ws:List (List UInt8)} (h:eH ws=none) (hb:Below w.heap.size w w'):mQ w ws (.returned (.tuple #[.agg #[.int .i64 0,.int .i64 0,.int .i64 0,.int .i64 0,.int .i64 0,.int .i64 0,.int .i64 0,.int .i64 0,.slice none 0 0],.bool false])) w':=⟨hb,by rw[h];rfl⟩
theorem mQ.yes {w w':World} {ws:List (List UInt8)} {n:aE} (h:eH ws=some n) (hb:Below w.heap.size w w'):mQ w ws (.returned (.tuple #[.agg #[.int .i64 n.kind,.int .i64 n.inn,.int .i64 n.o,.int .i64 n.size,.int .i64 n.stride,.int .i64 n.pad,.int .i64 n.percent,.int .i64 n.heads,.slice none 0 0],.bool true])) w':=⟨hb,by rw[h];rfl⟩
structure jL (w0:World) (rb:Nat) (n:aE) (W:World):Prop where
 lay:aA W w0.heap.size 175 (n.cells (.slice none 0 0)).toArray
 rows:aI (aL (w0.heap.size+1) W) W fun W=>kU W rb
 rb1:w0.heap.size+1<=rb
 low:Below w0.heap.size w0 W
theorem jL.next {w0 W W':World} {rb:Nat} {n:aE} (h:jL w0 rb n W) (hb:Below W.heap.size W W'):jL w0 rb n W':=⟨h.lay.next hb,h.rows.grow hb,h.rb1,h.low.trans (hb.mono h.low.size)⟩
theorem jL.put {w0 W:World} {rb:Nat} {n:aE} (h:jL w0 rb n W) (i:Nat) (x:Int) (hi:1<=i/\i<=7):jL w0 rb (n.put i x) (W.setCell ⟨w0.heap.size,i,none⟩ (.int .i64 x)):=
 ⟨by have:=h.lay.set i (.int .i64 x);rw[aE.cell_put _ _ i x hi]at this;exact this,h.rows.set (Nat.lt_succ_self _) _,h.rb1,h.low.setCell (p:=⟨w0.heap.size,i,none⟩) (Zb _) _⟩
theorem jL.kind {w0 W:World} {rb:Nat} {n:aE} (h:jL w0 rb n W) (x:Int):jL w0 rb {n with kind:=x} (W.setCell ⟨w0.heap.size,0,none⟩ (.int .i64 x)):=
 ⟨h.lay.set 0 (.int .i64 x),h.rows.set (Nat.lt_succ_self _) _,h.rb1,h.low.setCell (p:=⟨w0.heap.size,0,none⟩) (Zb _) _⟩
def wI (va vl vh:Value) (r:bX) (W:World):Prop:=iN W va r.at_/\Rd W .i64 vl r.low/\Rd W .i64 vh r.high
theorem F3 {w:World} {B rb k:Nat} (h:aI (aL B w) w fun W=>kU W rb) (hB:B<=rb) (hk:k<bJ.length) {va vl vh:Value}
  (h2:w.cell? ⟨rb,k*5+2,none⟩=some va) (h3:w.cell? ⟨rb,k*5+3,none⟩=some vl) (h4:w.cell? ⟨rb,k*5+4,none⟩=some vh):aI (aL B w) w (wI va vl vh bJ[k]):=fun W hW=>by
 obtain⟨va',vl',vh',_,_,g2,g3,g4,a,b,c⟩:=h W hW k hk;have A:=hW rb ⟨hB,aP h2⟩;have key:∀off v,w.cell? ⟨rb,off,none⟩=some v->W.cell? ⟨rb,off,none⟩=some v:=fun off v hv=>(World.cell?_of_block (w:=w) (a:=⟨rb,off,none⟩) A).trans hv;rw[key _ _ h2]at g2;rw[key _ _ h3]at g3;rw[key _ _ h4]at g4;cases g2;cases g3;cases g4;exact⟨a,b,c⟩
theorem zF (p v:Value) (ws:List (List UInt8)) (w:World) (h:fQ w v ws) (h0:0<ws.length) (hl:ws.length<=1000000) (hw:∀x∈ws,x.length<=100000):
  Calls Tryz.prog 180 #[p,v] w (mQ w ws):=by
 obtain⟨o,cap,rfl⟩:=h.slice;have HR:=Za h;have cc:=Za hw;obtain⟨Z,ak⟩:=Zx (fN ws 0);have ba:=Za (show ws.headD []=Z by rw[ak];cases ws with|nil=>rfl|cons x r=>rfl);have cd:=Za ak;clear h hw ak;go_enter Tryz.func180,Tryz.ntmps180;go_wp2_with(go_at_call 142;refine(S1 _).mono ?_;rintro e w1 ⟨⟨rb,rfl,bb,ai⟩,al⟩;refine aD ?_);have HG:=Za (show jL w rb bN w1 from⟨(aA.new w _ _).next al,bb.mono (fun k hk=>⟨by simpa using hk.1,hk.2⟩),by simpa using ai,((Zc _ _).alloc (Zb _) _).trans (al.mono (by simp))⟩);clear bb ai al;refine aC ?_;go_wp2;go_loopw[14] (fun i wr=>∃k:Nat,k<=12/\i=.int .i64 k/\Hid (∀j (I:j<k) (h:j<bJ.length),bJ[j].word≠Z)/\jL w rb bN wr) (fun i _=>12-(intOf i).toNat)
 case atStart=>exact⟨0,Ze _,rfl,Za (fun j I=>absurd I (Nat.not_lt_zero j)),HG.o⟩
 case round=>
  obtain⟨k,ct,rfl,ao,hg⟩:=hrel;obtain⟨w3,rfl⟩:=Zx wr;have A:=Za hg;clear hg;by_cases ap:k<12
  ·have aa:k<bJ.length:=ap;obtain⟨va,vl,vh,r0,r1,r2,r3,r4,ab,M,N⟩:=A.o.rows.here k aa;have bc:=wH _ (List.getElem_mem aa);have bd:=Za (F3 A.o.rows A.o.rb1 aa r2 r3 r4);obtain⟨rr,aq⟩:=Zx (bJ[k]);have aj:=bd;rw[<-aq]at r0 r1 ab M N bc aj;clear bd;obtain⟨ok1,ok2,ok3,ok4⟩:=bc;obtain⟨rk,word,ats,lo,H⟩:=rr;simp only at r0 r1 ab M N ok1 ok2 ok3 ok4;have ar:=Za aq;have da:=Za ab;have db:=Za M;have dc:=Za N;have OK1:=Za ok1;have OK2:=Za ok2;have OK3:=Za ok3;obtain⟨ofn,cfn,rfl,_⟩:=ab;obtain⟨olo,clo,rfl⟩:=aU M;obtain⟨ohi,chi,rfl⟩:=aU N;clear aq M N ok1 ok2 ok3;obtain⟨bw,offw,rfl,cw⟩:=(HR.o.below A.o.low (Zb _)).at 0 h0;rw[Nat.add_zero,<-cd.o]at cw;obtain⟨W4,ac⟩:=Zx (w3.alloc (.cells #[.int .i64 rk,.string ⟨word.toArray⟩,.slice ofn ats.length cfn,.slice olo lo.length clo,.slice ohi H.length chi] 219));have b1:aA W4 w3.heap.size 219 #[.int .i64 rk,.string ⟨word.toArray⟩,.slice ofn ats.length cfn,.slice olo lo.length clo,.slice ohi H.length chi]:=by rw[ac];exact aA.new _ _ _
   have ad:Below w3.heap.size w3 W4:=by rw[ac];exact(Zc _ _).alloc (Zb _) _
   have be:=Za ad;have bg:=Za (A.o.next ad);have bi:=Za b1;have bj:=Za ac;have cw4:=pL ad cw;have d1:=b1.cell 1 rfl;simp only[Zk,Zi,Zj]at d1;clear b1 ad ac;by_cases O:word=Z
   ·have ce:(Z==word)=true:=by simp[O]
    have cg:=Za (show pW Z=some ⟨rk,word,ats,lo,H⟩ by
     rw[pW,BM Z bJ k aa (fun j I=>ao.o j I (by omega)) (by rw[<-ar.o];exact O),<-ar.o])
    have bk:=Za (show eH ws=if ws.length=1+ats.length then kT ⟨rk,word,ats,lo,H⟩ 0 ws.tail {bN with kind:=rk} else none by rw[eH,ba.o,cg.o]);have dd:=Za bi.o;clear O;go_wp2;rw[<-bj.o];clear r0 r1 r2 r3 r4 cw;go_region;obtain⟨W5,au⟩:=Zx W4.drew;have ae:Below W4.heap.size W4 W5:=by rw[au];exact(Zc _ _).drew
    rw[<-au];have D:=Za (bg.o.next ae);have av:=Za (bi.o.next ae);have ci:=Za (be.o.trans (ae.mono be.o.size));clear ae au cw4 d1 ce;have e0:=D.o.lay.q 0 rfl;have f0:=D.o.lay.free 0;have e1:=D.o.lay.q 1 rfl;have f1:=D.o.lay.free 1;have e2:=D.o.lay.q 2 rfl;have f2:=D.o.lay.free 2;have e3:=D.o.lay.q 3 rfl;have f3:=D.o.lay.free 3;have e4:=D.o.lay.q 4 rfl;have f4:=D.o.lay.free 4;have e5:=D.o.lay.q 5 rfl;have f5:=D.o.lay.free 5;have e6:=D.o.lay.q 6 rfl;have f6:=D.o.lay.free 6;have e7:=D.o.lay.q 7 rfl;have f7:=D.o.lay.free 7;have e8:=D.o.lay.q 8 rfl;have f8:=D.o.lay.free 8;have y0:=av.o.q 0 rfl;have y2:=av.o.q 2 rfl;have aw:w3.heap.size≠w.heap.size:=fun e=>by have:=A.o.lay.lt;omega
    obtain⟨W6,J⟩:=Zx (W5.setCell ⟨w.heap.size,0,none⟩ (.int .i64 rk));have ax:=Za (show jL w rb {bN with kind:=rk} W6 by rw[J];exact D.o.kind rk);have bm:=Za (show aI (aL (w.heap.size+1) W6) W6 (wI _ _ _ _) by rw[J];exact((aj.o.grow ci.o)).set (Nat.lt_succ_self _) _);have bn:=Za (show aA W6 w3.heap.size 219 #[.int .i64 rk,.string ⟨word.toArray⟩,.slice ofn ats.length cfn,.slice olo lo.length clo,.slice ohi H.length chi] from by rw[J];exact av.o.other aw.symm _);have y6:=bn.o.q 2 rfl;rw[J]at y6;by_cases G:ws.length=1+ats.length
    ·have bo:=Za G;have cj:((ws.length:Int) != 1+(ats.length:Int))=false:=by simp;omega
     have bp:=Za (show ws.tail.length=ats.length by rw[List.length_tail];omega);have ck:=Za (show eH ws=kT ⟨rk,word,ats,lo,H⟩ 0 (ws.tail.drop 0) {bN with kind:=rk} by rw[bk.o,if_pos G];rfl);clear G;go_wp2;rw[<-J];clear J y6 y0 y2 e0 f0 e1 f1 e2 f2 e3 f3 e4 f4 e5 f5 e6 f6 e7 f7 e8 f8;go_loopw[38] (fun i wr=>∃(j:Nat) (n:aE),j<=ats.length/\i=.int .i64 j/\jL w rb n wr/\aA wr w3.heap.size 219 #[.int .i64 rk,.string ⟨word.toArray⟩,.slice ofn ats.length cfn,.slice olo lo.length clo,.slice ohi H.length chi]/\aI (aL (w.heap.size+1) wr) wr (wI (.slice ofn ats.length cfn) (.slice olo lo.length clo) (.slice ohi H.length chi) ⟨rk,word,ats,lo,H⟩)/\Hid (eH ws=kT ⟨rk,word,ats,lo,H⟩ j (ws.tail.drop j) n)) (fun i _=>ats.length-(intOf i).toNat)
     case atStart=>exact⟨0,_,Ze _,rfl,ax.o,bn.o,bm.o,ck⟩
     case round=>
      obtain⟨j,n,I,rfl,ha,bq,br,HF⟩:=hrel;obtain⟨w7,rfl⟩:=Zx wr;have E:=Za ha;have P:=Za bq;have af:=Za br;clear ha bq br;by_cases L:j<ats.length
      ·obtain⟨bf,of_,rfl,cf⟩:=af.o.here.1.at j L;obtain⟨bl,ol,rfl,cl⟩:=af.o.here.2.1.cell j (by rw[OK1.o];exact L);obtain⟨bh,oh,rfl,ch⟩:=af.o.here.2.2.cell j (by rw[OK2.o];exact L);have ag:1+j<ws.length:=by have:=bo.o;omega
       obtain⟨bx,ox,cm,cx⟩:=(HR.o.below E.o.low (Zb _)).at (1+j) ag;cases cm;have ay:ws.tail.drop j=fN ws (1+j)::ws.tail.drop (j+1):=by
        rw[List.drop_eq_getElem_cons (by have:=bp.o;omega),pF ws (1+j) ag,List.getElem_tail]
        congr 2
        omega
       have bs:=cc.o (fN ws (1+j)) (by rw[pF ws _ ag];exact List.getElem_mem ag);obtain⟨x,hx⟩:=Zx (fN ws (1+j));rw[<-hx]at cx ay bs;obtain⟨xl,R⟩:=Zx (aF lo j);obtain⟨xh,T⟩:=Zx (aF H j);rw[<-R]at cl;rw[<-T]at ch;have bt:ats.getD j 0=ats[j]:=by simp[List.getD_eq_getElem?_getD,L]
       have az:=Za (show eH ws=match dY x xl xh with
         |none=>none
         |some y=>kT ⟨rk,word,ats,lo,H⟩ (j+1) (ws.tail.drop (j+1)) (n.put ats[j] y) by
        rw[HF.o,ay,kT];simp only;rw[bt,R,T,aF,aF];cases dY x (lo.getD j 0) (H.getD j 0)<;>rfl)
       have ah:=OK3.o _ (List.getElem_mem L);generalize ats[j]=a at cf az ah;obtain⟨F,hF⟩:=Zx (lL a);have he:∀args w,(callFunc F args).run Tryz.prog w=.ok (.enter F args) w:=by rw[hF];exact yL a
       have cn:=Za (show ∀b w,Calls Tryz.prog F #[.pointer (some ⟨b,0,none⟩)] w fun e w'=>e=.returned (.pointer (some ⟨b,a,none⟩))/\w=w' from fun b w=>by rw[hF];exact xX a ah b w);rw[<-hF]at cf;have bu:=Za ah;have z3:=P.o.q 3 rfl;have z4:=P.o.q 4 rfl;have cu:j<lo.length:=by rw[OK1.o];exact L
       have cv:j<H.length:=by rw[OK2.o];exact L
       have HC:=Za (Zd cx (Zd z3 (Zd z4 (Zd cl ch))));have Y:=Za (show Below w7.heap.size w7 w7.drew from Below.drew (Zc _ _));have de:IntKind.i64.wrap (1+(j:Int))=((1+j:Nat):Int):=by rw[IntKind.wrap_i64];omega
       have df:(1+(j:Int)).toNat=1+j:=by omega
       have cy:(0:Int)<=1+(j:Int):=by omega
       have cz:1+(j:Int)<(ws.length:Int):=by omega
       clear ay hx R T bt hF ah;go_wp2_with fail;go_region_held3 (fun w'=>w'.cell? ⟨bw,offw+(1+j),none⟩=some (.string ⟨x.toArray⟩)/\w'.cell? ⟨w3.heap.size,3,none⟩=some (.slice (some ⟨bl,ol,none⟩) lo.length clo)/\w'.cell? ⟨w3.heap.size,4,none⟩=some (.slice (some ⟨bh,oh,none⟩) H.length chi)/\w'.cell? ⟨bl,ol+j,none⟩=some (.int .i64 xl)/\w'.cell? ⟨bh,oh+j,none⟩=some (.int .i64 xh))
        (exact⟨pL Y.o HC.o.1,pL Y.o HC.o.2.1,pL Y.o HC.o.2.2.1,pL Y.o HC.o.2.2.2.1,pL Y.o HC.o.2.2.2.2⟩)
        (first
        |(go_at_call 155;refine(uZ x xl xh _ bs).mono ?_;rintro e wy ⟨⟨m,rfl,hm⟩,bz⟩;have Y:=Za (show Below w7.heap.size w7 wy by rw[<-bz];exact Y.o);have HM:=Za hm;clear hm bz))
       clear cx cl ch z3 z4 cf;have B:=Za (E.o.next Y.o);have ca:=Za (P.o.next Y.o);have co:=Za (af.o.grow Y.o);cases U:dY x xl xh with
       |none=>
        have HN:=Za (show eH ws=none by rw[az.o,U]);clear U;have e0:=B.o.lay.q 0 rfl;have f0:=B.o.lay.free 0;have e1:=B.o.lay.q 1 rfl;have f1:=B.o.lay.free 1;have e2:=B.o.lay.q 2 rfl;have f2:=B.o.lay.free 2;have e3:=B.o.lay.q 3 rfl;have f3:=B.o.lay.free 3;have e4:=B.o.lay.q 4 rfl;have f4:=B.o.lay.free 4;have e5:=B.o.lay.q 5 rfl;have f5:=B.o.lay.free 5;have e6:=B.o.lay.q 6 rfl;have f6:=B.o.lay.free 6;have e7:=B.o.lay.q 7 rfl;have f7:=B.o.lay.free 7;have e8:=B.o.lay.q 8 rfl;have f8:=B.o.lay.free 8;go_wp2_with fail;obtain⟨V,X⟩:=Zx ((((((((((wy.setCell ⟨w.heap.size,0,none⟩ (.int .i64 0)).setCell ⟨w.heap.size,1,none⟩ (.int .i64 0)).setCell ⟨w.heap.size,2,none⟩ (.int .i64 0)).setCell ⟨w.heap.size,3,none⟩ (.int .i64 0)).setCell ⟨w.heap.size,4,none⟩ (.int .i64 0)).setCell ⟨w.heap.size,5,none⟩ (.int .i64 0)).setCell ⟨w.heap.size,6,none⟩ (.int .i64 0)).setCell ⟨w.heap.size,7,none⟩ (.int .i64 0)).setCell ⟨w.heap.size,8,none⟩ (.slice none 0 0)));have C:aA V w.heap.size 175 #[.int .i64 0,.int .i64 0,.int .i64 0,.int .i64 0,.int .i64 0,.int .i64 0,.int .i64 0,.int .i64 0,.slice none 0 0]/\Below w.heap.size w V:=by rw[X];exact tP B.o.lay B.o.low (Zb _)
        rw[<-X];have g0:=C.1.cell 0 rfl;have g1:=C.1.cell 1 rfl;have g2:=C.1.cell 2 rfl;have g3:=C.1.cell 3 rfl;have g4:=C.1.cell 4 rfl;have g5:=C.1.cell 5 rfl;have g6:=C.1.cell 6 rfl;have g7:=C.1.cell 7 rfl;have g8:=C.1.cell 8 rfl;simp only[Zk,Zi,Zj]at g0 g1 g2 g3 g4 g5 g6 g7 g8;exact bodyPost_ret (v:=.tuple #[.agg #[.int .i64 0,.int .i64 0,.int .i64 0,.int .i64 0,.int .i64 0,.int .i64 0,.int .i64 0,.int .i64 0,.slice none 0 0],.bool false]) (by simp[results,Tryz.results180,go_sem,g0,g1,g2,g3,g4,g5,g6,g7,g8]) rfl (mQ.no HN.o C.2)
       |some y=>
        have cp:=Za (show eH ws=kT ⟨rk,word,ats,lo,H⟩ (j+1) (ws.tail.drop (j+1)) (n.put a y) by rw[az.o,U]);obtain rfl:m=y:=HM.o y U;have ea:=B.o.lay.cell a (aE.cell_fld n _ a bu.o);have fa:=B.o.lay.free a;clear U;go_wp2_with fail;refine(cn.o _ _).mono ?_;rintro e w' ⟨rfl,rfl⟩;have cq:=Za (B.o.put a m bu.o);have cr:=Za (ca.o.other (p:=⟨w.heap.size,a,none⟩) aw.symm (.int .i64 m));have cs:=Za (co.o.set (Nat.lt_succ_self w.heap.size) (j:=a) (.int .i64 m));go_wp2;go_roundw
        case rel=>exact⟨j+1,_,by omega,by go_num,cq.o,cr.o,cs.o,cp⟩
        case measure=>simp[intOf];omega
      ·obtain rfl:j=ats.length:=by omega
       have HN:=Za (show eH ws=some n by rw[HF.o,List.drop_of_length_le (by rw[bp.o];exact Zb _),kT]);have e0:=E.o.lay.q 0 rfl;have f0:=E.o.lay.free 0;have e1:=E.o.lay.q 1 rfl;have f1:=E.o.lay.free 1;have e2:=E.o.lay.q 2 rfl;have f2:=E.o.lay.free 2;have e3:=E.o.lay.q 3 rfl;have f3:=E.o.lay.free 3;have e4:=E.o.lay.q 4 rfl;have f4:=E.o.lay.free 4;have e5:=E.o.lay.q 5 rfl;have f5:=E.o.lay.free 5;have e6:=E.o.lay.q 6 rfl;have f6:=E.o.lay.free 6;have e7:=E.o.lay.q 7 rfl;have f7:=E.o.lay.free 7;have e8:=E.o.lay.q 8 rfl;have f8:=E.o.lay.free 8;go_wp2_with fail;obtain⟨V,X⟩:=Zx ((((((((((w7.setCell ⟨w.heap.size,0,none⟩ (.int .i64 n.kind)).setCell ⟨w.heap.size,1,none⟩ (.int .i64 n.inn)).setCell ⟨w.heap.size,2,none⟩ (.int .i64 n.o)).setCell ⟨w.heap.size,3,none⟩ (.int .i64 n.size)).setCell ⟨w.heap.size,4,none⟩ (.int .i64 n.stride)).setCell ⟨w.heap.size,5,none⟩ (.int .i64 n.pad)).setCell ⟨w.heap.size,6,none⟩ (.int .i64 n.percent)).setCell ⟨w.heap.size,7,none⟩ (.int .i64 n.heads)).setCell ⟨w.heap.size,8,none⟩ (.slice none 0 0)));have C:aA V w.heap.size 175 #[.int .i64 n.kind,.int .i64 n.inn,.int .i64 n.o,.int .i64 n.size,.int .i64 n.stride,.int .i64 n.pad,.int .i64 n.percent,.int .i64 n.heads,.slice none 0 0]/\Below w.heap.size w V:=by rw[X];exact tP E.o.lay E.o.low (Zb _)
       rw[<-X];have g0:=C.1.cell 0 rfl;have g1:=C.1.cell 1 rfl;have g2:=C.1.cell 2 rfl;have g3:=C.1.cell 3 rfl;have g4:=C.1.cell 4 rfl;have g5:=C.1.cell 5 rfl;have g6:=C.1.cell 6 rfl;have g7:=C.1.cell 7 rfl;have g8:=C.1.cell 8 rfl;simp only[Zk,Zi,Zj]at g0 g1 g2 g3 g4 g5 g6 g7 g8;exact bodyPost_ret (v:=.tuple #[.agg #[.int .i64 n.kind,.int .i64 n.inn,.int .i64 n.o,.int .i64 n.size,.int .i64 n.stride,.int .i64 n.pad,.int .i64 n.percent,.int .i64 n.heads,.slice none 0 0],.bool true]) (by simp[results,Tryz.results180,go_sem,g0,g1,g2,g3,g4,g5,g6,g7,g8]) rfl (mQ.yes HN.o C.2)
    ·have HN:=Za (show eH ws=none by rw[bk.o,if_neg G]);have cj:((ws.length:Int) != 1+(ats.length:Int))=true:=by simp;omega
     clear G;go_wp2_with fail;rw[<-J];obtain⟨V,X⟩:=Zx ((((((((((W6.setCell ⟨w.heap.size,0,none⟩ (.int .i64 0)).setCell ⟨w.heap.size,1,none⟩ (.int .i64 0)).setCell ⟨w.heap.size,2,none⟩ (.int .i64 0)).setCell ⟨w.heap.size,3,none⟩ (.int .i64 0)).setCell ⟨w.heap.size,4,none⟩ (.int .i64 0)).setCell ⟨w.heap.size,5,none⟩ (.int .i64 0)).setCell ⟨w.heap.size,6,none⟩ (.int .i64 0)).setCell ⟨w.heap.size,7,none⟩ (.int .i64 0)).setCell ⟨w.heap.size,8,none⟩ (.slice none 0 0)));have C:aA V w.heap.size 175 #[.int .i64 0,.int .i64 0,.int .i64 0,.int .i64 0,.int .i64 0,.int .i64 0,.int .i64 0,.int .i64 0,.slice none 0 0]/\Below w.heap.size w V:=by rw[X];exact tP ax.o.lay ax.o.low (Zb _)
     rw[<-X];have g0:=C.1.cell 0 rfl;have g1:=C.1.cell 1 rfl;have g2:=C.1.cell 2 rfl;have g3:=C.1.cell 3 rfl;have g4:=C.1.cell 4 rfl;have g5:=C.1.cell 5 rfl;have g6:=C.1.cell 6 rfl;have g7:=C.1.cell 7 rfl;have g8:=C.1.cell 8 rfl;simp only[Zk,Zi,Zj]at g0 g1 g2 g3 g4 g5 g6 g7 g8;exact bodyPost_ret (v:=.tuple #[.agg #[.int .i64 0,.int .i64 0,.int .i64 0,.int .i64 0,.int .i64 0,.int .i64 0,.int .i64 0,.int .i64 0,.slice none 0 0],.bool false]) (by simp[results,Tryz.results180,go_sem,g0,g1,g2,g3,g4,g5,g6,g7,g8]) rfl (mQ.no HN.o C.2)
   ·have aw:(Z==word)=false:=by simpa using fun h=>O h.symm
    have cb:=Za (show ∀j (I:j<k+1) (h:j<bJ.length),bJ[j].word≠Z from fun j I h=>by
     rcases Nat.lt_succ_iff_lt_or_eq.1 I with I|I
     ·exact ao.o j I h
     ·subst I;rw[<-ar.o];exact O)
    go_wp2;rw[<-bj.o];go_quiet(fail);go_wp2;go_roundw
    case rel=>exact⟨k+1,by omega,by go_num,cb,bg.o.next (below_drewN (Zc _ _) _)⟩
    case measure=>simp[intOf];omega
  ·obtain rfl:k=12:=by omega
   have HN:=Za (show eH ws=none by rw[eH,ba.o,GP Z (fun j I=>ao.o j (by simpa [bJ]using I) I)]);have e0:=A.o.lay.q 0 rfl;have f0:=A.o.lay.free 0;have e1:=A.o.lay.q 1 rfl;have f1:=A.o.lay.free 1;have e2:=A.o.lay.q 2 rfl;have f2:=A.o.lay.free 2;have e3:=A.o.lay.q 3 rfl;have f3:=A.o.lay.free 3;have e4:=A.o.lay.q 4 rfl;have f4:=A.o.lay.free 4;have e5:=A.o.lay.q 5 rfl;have f5:=A.o.lay.free 5;have e6:=A.o.lay.q 6 rfl;have f6:=A.o.lay.free 6;have e7:=A.o.lay.q 7 rfl;have f7:=A.o.lay.free 7;have e8:=A.o.lay.q 8 rfl;have f8:=A.o.lay.free 8;go_wp2_with fail;obtain⟨V,X⟩:=Zx ((((((((((w3.setCell ⟨w.heap.size,0,none⟩ (.int .i64 0)).setCell ⟨w.heap.size,1,none⟩ (.int .i64 0)).setCell ⟨w.heap.size,2,none⟩ (.int .i64 0)).setCell ⟨w.heap.size,3,none⟩ (.int .i64 0)).setCell ⟨w.heap.size,4,none⟩ (.int .i64 0)).setCell ⟨w.heap.size,5,none⟩ (.int .i64 0)).setCell ⟨w.heap.size,6,none⟩ (.int .i64 0)).setCell ⟨w.heap.size,7,none⟩ (.int .i64 0)).setCell ⟨w.heap.size,8,none⟩ (.slice none 0 0)));have C:aA V w.heap.size 175 #[.int .i64 0,.int .i64 0,.int .i64 0,.int .i64 0,.int .i64 0,.int .i64 0,.int .i64 0,.int .i64 0,.slice none 0 0]/\Below w.heap.size w V:=by rw[X];exact tP A.o.lay A.o.low (Zb _)
   rw[<-X];have g0:=C.1.cell 0 rfl;have g1:=C.1.cell 1 rfl;have g2:=C.1.cell 2 rfl;have g3:=C.1.cell 3 rfl;have g4:=C.1.cell 4 rfl;have g5:=C.1.cell 5 rfl;have g6:=C.1.cell 6 rfl;have g7:=C.1.cell 7 rfl;have g8:=C.1.cell 8 rfl;simp only[Zk,Zi,Zj]at g0 g1 g2 g3 g4 g5 g6 g7 g8;exact bodyPost_ret (v:=.tuple #[.agg #[.int .i64 0,.int .i64 0,.int .i64 0,.int .i64 0,.int .i64 0,.int .i64 0,.int .i64 0,.int .i64 0,.slice none 0 0],.bool false]) (by simp[results,Tryz.results180,go_sem,g0,g1,g2,g3,g4,g5,g6,g7,g8]) rfl (mQ.no HN.o C.2)
