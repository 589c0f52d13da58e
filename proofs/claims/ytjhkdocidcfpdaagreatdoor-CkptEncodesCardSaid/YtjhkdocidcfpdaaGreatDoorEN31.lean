/- A part of the proof. -/
import Derived.Test.YtjhkdocidcfpdaaGreatDoorEN30
set_option linter.unusedVariables false
set_option linter.unusedSimpArgs false
set_option maxRecDepth 100000
set_option maxHeartbeats 16000000
open List renaming length_append → Zl
namespace Go.Proofs.YtjhkdocidcfpdaaGreatDoor
open Go.RowKit Go.Shelf Go
theorem cB.lineK {w:World} {R:Nat} {o:Option Addr} {cap:Nat} {all:aV} {at_ left:Nat} (h:cB w R o cap all at_ left) (k:Nat) (hk:k<all.length):∃b off ou cu,(all[k]).length<=cu/\o=some ⟨b,off,none⟩/\aI (aL (R+1) w) w fun W=>W.cell? ⟨b,off+k,none⟩=some (.slice ou (all[k]).length cu)/\fQ W (.slice ou (all[k]).length cu) all[k]:=by obtain⟨b,off,u,ho,A,hc,B,hw⟩:=h.rows.here.at k hk;obtain⟨ou,cu,rfl⟩:=hw.slice;refine⟨b,off,ou,cu,B _ _ _ rfl,ho,fun W hW=>?_⟩;obtain⟨b',off',u',ho',_,hc',_,hw'⟩:=(h.rows W hW).at k hk;rw[ho]at ho';cases ho';have C:W.heap[b]?=w.heap[b]?:=hW b ⟨A,aP hc⟩;have e:W.cell? ⟨b,off+k,none⟩=w.cell? ⟨b,off+k,none⟩:=World.cell?_of_block (w:=w) (a:=⟨b,off+k,none⟩) C;rw[e,hc]at hc';cases hc';exact⟨by rw[e];exact hc,hw'⟩
def qQ (w:World) (R:Nat) (o:Option Addr) (cap:Nat) (all:aV) (res:Option bI) (e:Ending) (w':World):Prop:=
 bB w w' R/\∃at2 left2,cB w' R o cap all at2 left2/\match res with
 |none=>∃o1 n1 c1 o2 n2 c2 k,e=.returned (.tuple #[.agg #[.slice o1 n1 c1,.slice o2 n2 c2,.int .i64 k],.bool false])
 |some d=>∃vi vl,e=.returned (.tuple #[.agg #[vi,vl,.int .i64 d.loss],.bool true])/\(∀o n c,vi=.slice o n c->n<=c)/\aI (aL w.heap.size w') w' (fun W=>oL W vi vl d)
structure eS (w:World) (R:Nat) (o:Option Addr) (cap:Nat) (all:aV) (at_ left:Nat) (cs:Array Value) (W:World):Prop where
 low:bB w W R
 rd:cB W R o cap all at_ left
 box:aA W w.heap.size 33 cs
theorem eS.next {w W W':World} {R:Nat} {o:Option Addr} {cap:Nat} {all:aV} {at_ left:Nat} {cs:Array Value} (h:eS w R o cap all at_ left cs W) (hb:Below W.heap.size W W'):eS w R o cap all at_ left cs W':=⟨h.low.trans (gO hb),h.rd.next hb,h.box.next hb⟩
theorem EM {w W:World} {R n j:Nat} {v:Value} (h:bB w W R) (hn:w.heap.size<=n):bB w (W.setCell ⟨n,j,none⟩ v) R:=
 ⟨h.os,h.tape,h.output,by simp[World.setCell];exact h.size,fun k hk A=>(Below.heap_setCell _ _ _ _ (fun e=>by simp at e;omega)).trans (h.block k hk A)⟩
theorem eS.set {w W:World} {R:Nat} {o:Option Addr} {cap:Nat} {all:aV} {at0 left0 at_ left:Nat} {cs:Array Value} (h0:cB w R o cap all at0 left0) (h:eS w R o cap all at_ left cs W) (j:Nat) (v:Value):eS w R o cap all at_ left (cs.setIfInBounds j v) (W.setCell ⟨w.heap.size,j,none⟩ v):=
 ⟨EM h.low (Zb _),h0.back (EM h.low (Zb _)) (h.rd.box.other (by have:=h0.box.lt;show w.heap.size≠R;omega) _) h.rd.le h.rd.lt,h.box.set j v⟩
theorem eS.set3 {w W:World} {R:Nat} {o:Option Addr} {cap:Nat} {all:aV} {at0 left0 at_ left:Nat} {x y z:Value} (h0:cB w R o cap all at0 left0) (h:eS w R o cap all at_ left #[x,y,z] W) (a b c:Value):
  eS w R o cap all at_ left #[a,b,c] (((W.setCell ⟨w.heap.size,0,none⟩ a).setCell ⟨w.heap.size,1,none⟩ b).setCell ⟨w.heap.size,2,none⟩ c):=
 ((h.set h0 0 a).set h0 1 b).set h0 2 c
theorem eS.grown {w W W':World} {R:Nat} {o:Option Addr} {cap:Nat} {all:aV} {at0 left0 at_ left:Nat} {cs:Array Value} (h0:cB w R o cap all at0 left0) (h:eS w R o cap all at_ left cs W) {e:TypeId} {s n:Nat} {v:Value} {xs:List Value} {ob:Obj} (ho:W.ownsRow (w.heap.size+1) e s v n xs) (hg:(W.alloc ob).grownBy W' v.ownBlock):eS w R o cap all at_ left cs W':=by have A:∀k,v.ownBlock=some k->w.heap.size+1<=k:=fun k hk=>(ho.lt k hk).1;have B:=h0.box.lt;have key:∀k,k<=w.heap.size->k<W.heap.size->W'.heap[k]?=W.heap[k]?:=fun k hk hl=>(hg.block k (by simp;omega) (fun e=>by have:=A k e.symm;omega)).trans (Below.heap_alloc W ob k hl);have hm:bB w W' R:=⟨hg.os.trans h.low.os,hg.tape.trans h.low.tape,hg.output.trans h.low.output,by have:=hg.size;have:=h.low.size;simp at*;omega,fun k hk A=>(key k (by omega) (by have:=h.low.size;omega)).trans (h.low.block k hk A)⟩;exact⟨hm,h0.back hm ((key R (by omega) h.rd.box.lt).trans h.rd.box) h.rd.le h.rd.lt,(key w.heap.size (Zb _) h.box.lt).trans h.box⟩
theorem eS.setAt {w W:World} {R:Nat} {o:Option Addr} {cap:Nat} {all:aV} {at_ left:Nat} {cs:Array Value} (hR:R<w.heap.size) (h:eS w R o cap all at_ left cs W) (k:Nat) (hk:k<=all.length):eS w R o cap all k left cs (W.setCell ⟨R,1,none⟩ (.int .i64 k)):=
 ⟨h.low.trans (oH _ _ _ _),h.rd.setAt k hk,h.box.other (by show R≠w.heap.size;omega) _⟩
theorem eS.moved {w W W':World} {R:Nat} {o:Option Addr} {cap:Nat} {all:aV} {at_ left at2 left2:Nat} {cs:Array Value} (hR:R<w.heap.size) (h:eS w R o cap all at_ left cs W) (hm:bB W W' R) (hr:cB W' R o cap all at2 left2):eS w R o cap all at2 left2 cs W':=
 ⟨h.low.trans hm,hr,(gP hm h.box.lt (by omega)).trans h.box⟩
structure fB (w:World) (R:Nat) (o:Option Addr) (cap:Nat) (all:aV) (at_ left:Nat) (u v:Value) (nums:List Int) (ls:List aB) (k:Int) (W:World):Prop where
 here:eS w R o cap all at_ left #[u,v,.int .i64 k] W
 hu:aI (aL (w.heap.size+1) W) W fun W=>NumF W u nums
 hv:aI (aL (w.heap.size+1) W) W fun W=>lZ W v ls
theorem fB.next {w W W':World} {R:Nat} {o:Option Addr} {cap:Nat} {all:aV} {at_ left:Nat} {u v:Value} {nums:List Int} {ls:List aB} {k:Int} (h:fB w R o cap all at_ left u v nums ls k W) (hb:Below W.heap.size W W'):fB w R o cap all at_ left u v nums ls k W':=⟨h.here.next hb,h.hu.grow hb,h.hv.grow hb⟩
theorem fB.set3 {w W:World} {R:Nat} {o:Option Addr} {cap:Nat} {all:aV} {at0 left0 at_ left:Nat} {u v:Value} {nums:List Int} {ls:List aB} {k:Int} (h0:cB w R o cap all at0 left0) (h:fB w R o cap all at_ left u v nums ls k W):fB w R o cap all at_ left u v nums ls k (((W.setCell ⟨w.heap.size,0,none⟩ u).setCell ⟨w.heap.size,1,none⟩ v).setCell ⟨w.heap.size,2,none⟩ (.int .i64 k)):=
 ⟨h.here.set3 h0 _ _ _,((h.hu.set (Nat.lt_succ_self _) _).set (Nat.lt_succ_self _) _).set (Nat.lt_succ_self _) _,((h.hv.set (Nat.lt_succ_self _) _).set (Nat.lt_succ_self _) _).set (Nat.lt_succ_self _) _⟩
theorem fB.loss {w W:World} {R:Nat} {o:Option Addr} {cap:Nat} {all:aV} {at0 left0 at_ left:Nat} {u v:Value} {nums:List Int} {ls:List aB} {k:Int} (h0:cB w R o cap all at0 left0) (h:fB w R o cap all at_ left u v nums ls k W) (k':Int):fB w R o cap all at_ left u v nums ls k' (W.setCell ⟨w.heap.size,2,none⟩ (.int .i64 k')):=
 ⟨h.here.set h0 2 _,h.hu.set (Nat.lt_succ_self _) _,h.hv.set (Nat.lt_succ_self _) _⟩
theorem fB.setAt {w W:World} {R:Nat} {o:Option Addr} {cap:Nat} {all:aV} {at_ left:Nat} {u v:Value} {nums:List Int} {ls:List aB} {k:Int} (hR:R<w.heap.size) (h:fB w R o cap all at_ left u v nums ls k W) (q:Nat) (hq:q<=all.length):fB w R o cap all q left u v nums ls k (W.setCell ⟨R,1,none⟩ (.int .i64 q)):=
 ⟨h.here.setAt hR q hq,h.hu.set (by omega) _,h.hv.set (by omega) _⟩
theorem B8 {w W W':World} {R:Nat} {o:Option Addr} {cap:Nat} {all:aV} {at_ left:Nat} {u v:Value} {nums:List Int} {ls:List aB} {k:Int} (h:fB w R o cap all at_ left u v nums ls k W) (hs:∃m,W'=W.drewN m):fB w R o cap all at_ left u v nums ls k W':=h.next (aN.below hs _)
def mU (inp:List Int) (l:List aB) (r2:aV):Option bI:=match r2 with
 |[w]=>if w.length=2/\w.headD []=dV then(kK (w.getD 1 [])).map (fun k=>⟨inp,l,k⟩) else none
 |_=>none
theorem B6 {inp:List Int} {l:List aB} {w:List (List UInt8)} {r:aV} (h:¬(w.length=2/\w.headD []=dV)):mU inp l (w::r)=none:=by
 cases r with
 |nil=>rw[mU,if_neg h]
 |cons a b=>rfl
theorem R6 {inp:List Int} {l:List aB} {w:List (List UInt8)} {r:aV} (h:r≠[]):mU inp l (w::r)=none:=by
 cases r with
 |nil=>exact absurd rfl h
 |cons a b=>rfl
theorem N7 {inp:List Int} {l:List aB} {x0 x1:List UInt8} {r:aV} (h:kK x1=none):mU inp l ([x0,x1]::r)=none:=by
 cases r with
 |nil=>
  rw[mU];split
  ·rw[show([x0,x1]:List (List UInt8)).getD 1 []=x1 from rfl,h];rfl
  ·rfl
 |cons a b=>rfl
theorem S7 {inp:List Int} {l:List aB} {x1:List UInt8} {k:Int} (h:kK x1=some k):mU inp l [[dV,x1]]=some ⟨inp,l,k⟩:=by rw[mU,if_pos ⟨rfl,rfl⟩,show([dV,x1]:List (List UInt8)).getD 1 []=x1 from rfl,h];rfl
def eV (k:Nat) (x:List UInt8):Int:=if 2<=k/\x=eL 1 then 1 else if 3<=k/\x=eL 2 then 2 else 0
theorem IG {x:List UInt8} (h:eV 3 x=0):kK x=none:=by
 rw[eV]at h;rw[kK];split at h
 ·cases h
 ·rename_i h1;split at h
  ·cases h
  ·rename_i h2;rw[if_neg (fun e=>h1 ⟨by omega,e⟩),if_neg (fun e=>h2 ⟨by omega,e⟩)]
theorem ST {x:List UInt8} (h:eV 3 x≠0):kK x=some (eV 3 x):=by
 by_cases h1:x=eL 1
 ·rw[kK,if_pos h1,eV,if_pos ⟨by omega,h1⟩]
 ·by_cases h2:x=eL 2
  ·rw[kK,if_neg h1,if_pos h2,eV,if_neg (fun e=>h1 e.2),if_pos ⟨by omega,h2⟩]
  ·exact absurd (by rw[eV,if_neg (fun e=>h1 e.2),if_neg (fun e=>h2 e.2)]) h
theorem FZ {w:World} {B:Nat} {e:TypeId} {s n:Nat} {v:Value} {xs:List Value} (h:w.ownsRow B e s v n xs):∀o m c,v=.slice o m c->m<=c:=fun o m c hv=>by
 rcases h.2 with⟨rfl,_⟩|⟨g,cap,cur,rfl,_,_,hc,_⟩
 ·cases hv;exact Zb _
 ·cases hv;exact hc
theorem KX:(Tryz.prog.info? 3).map (fun i=>(i.zero,i.size,i.bytes))=some (some (.int .i64 0),1,8):=by kernel_rfl
theorem KQ {w:World} {B:Nat} {e:TypeId} {s:Nat} {v:Value} {n:Nat} {xs:List Value} (h:w.ownsRow B e s v n xs) {S j:Nat} (hS:S<B) (u:Value):(w.setCell ⟨S,j,none⟩ u).ownsRow B e s v n xs:=
 nM h (oH w S j u) hS
theorem kS {w W:World} {R:Nat} {o:Option Addr} {cap:Nat} {all:aV} {at_ left:Nat} {res:Option bI} {o1 o2:Option Addr} {n1 c1 n2 c2:Nat} {k:Int} (A:res=none) (h:eS w R o cap all at_ left #[.slice o1 n1 c1,.slice o2 n2 c2,.int .i64 k] W):
  qQ w R o cap all res (.returned (.tuple #[.agg #[.slice o1 n1 c1,.slice o2 n2 c2,.int .i64 k],.bool false])) W:=
 ⟨h.low,at_,left,h.rd,by rw[A];exact⟨_,_,_,_,_,_,_,rfl⟩⟩
theorem TB (l:List (List UInt8)) (k:Nat) (nums:List Int) (h:k<l.length) {x:Int} (hx:dY (fN l k) 1 4096=some x) (he:gE l=(gE (l.drop k)).map (nums++·)):gE l=(gE (l.drop (k+1))).map ((nums++[x])++·):=by
 rw[he,List.drop_eq_getElem_cons h,gE,<-pF l k h,hx];simp only[Option.map_map]
 congr 1
 funext q
 simp
theorem QR (l:List (List UInt8)) (k:Nat) (nums:List Int) (h:k<l.length) (hx:dY (fN l k) 1 4096=none) (he:gE l=(gE (l.drop k)).map (nums++·)):gE l=none:=by rw[he,List.drop_eq_getElem_cons h,gE,<-pF l k h,hx];rfl
theorem vV {first:List (List UInt8)} {rest:aV} (h:¬(2<=first.length/\first.length<=4/\first.headD []=iQ)):eF (first::rest)=none:=by rw[eF,if_neg h]
theorem KN {l:List UInt8} {low high:Int} (w:World) (hl:l.length<=100000) (hn:dY l low high=none):
  Calls Tryz.prog 155 #[.string ⟨l.toArray⟩,.int .i64 low,.int .i64 high] w fun e w'=>(∃m:Int,e=.returned (.tuple #[.int .i64 m,.bool false]))/\w=w':=
 (uZ l low high w hl).mono fun e w' ⟨⟨m,he,_⟩,hw⟩=>⟨⟨m,by rw[he,hn];rfl⟩,hw⟩
theorem N9 {l:List UInt8} {low high x:Int} (w:World) (hl:l.length<=100000) (hn:dY l low high=some x):
  Calls Tryz.prog 155 #[.string ⟨l.toArray⟩,.int .i64 low,.int .i64 high] w fun e w'=>e=.returned (.tuple #[.int .i64 x,.bool true])/\w=w':=
 (uZ l low high w hl).mono fun e w' ⟨⟨m,he,hx⟩,hw⟩=>⟨by rw[he,hn,hx x hn];rfl,hw⟩
theorem EV (R:Nat) (o:Option Addr) (cap:Nat) (all:aV) (w:World) (h:cB w R o cap all 0 64) (bs:LOk all):
  Calls Tryz.prog 120 #[.pointer (some ⟨R,0,none⟩)] w (qQ w R o cap all (eF all)):=by
 have bt:=Za bs;have M:=Za h;have ac:=Za h.box.lt;have N:=bs.len;obtain⟨W0,aw⟩:=Zx (w.alloc (.cells #[.slice none 0 0,.slice none 0 0,.int .i64 0] 33));have ax:=Za (show eS w R o cap all 0 64 #[.slice none 0 0,.slice none 0 0,.int .i64 0] W0 by
  have hb:Below w.heap.size w W0:=by rw[aw];exact(Zc _ _).alloc (Zb _) _
  exact⟨gO hb,h.next hb,by rw[aw];exact aA.new _ _ _⟩)
 have cj:=Za aw;clear h bs aw;by_cases bh:all.length=0
 ·have B:=Za (show eF all=none by rw[List.eq_nil_of_length_eq_zero bh];rfl);go_enter Tryz.func120,Tryz.ntmps120;go_wp2_with(go_at_call 154;rw[<-cj.o];refine(oB ax.o.rd N).mono ?_;rintro e w4 ⟨rfl,F⟩;rw[decide_eq_false (by omega)];refine aD ?_);have A:=Za (ax.o.next (F.below _));clear F;refine aC ?_;have c0:=A.o.box.q 0 rfl;have f0:=A.o.box.free 0;have c1:=A.o.box.q 1 rfl;have f1:=A.o.box.free 1;have c2:=A.o.box.q 2 rfl;have f2:=A.o.box.free 2;go_wp2;have C:=Za (A.o.set3 M.o (.slice none 0 0) (.slice none 0 0) (.int .i64 0));have d0:=C.o.box.cell 0 rfl;have d1:=C.o.box.cell 1 rfl;have d2:=C.o.box.cell 2 rfl;exact bodyPost_ret (v:=.tuple #[.agg #[.slice none 0 0,.slice none 0 0,.int .i64 0],.bool false]) (by simp[results,Tryz.results120,go_sem,d0,d1,d2]) rfl (kS B.o C.o)
 have ab:0<all.length:=by omega
 have dj:(0:Int)<(all.length:Int):=by omega
 obtain⟨b,off,ou,cu,ck,rfl,hL⟩:=M.o.lineK 0 ab;obtain⟨first,bu⟩:=Zx (all[0]);have ay:=Za (show all=first::all.drop 1 by rw[bu];have:=sF ab;rwa [List.drop_zero]at this);have ak:=Za (bt.o.words _ (List.getElem_mem ab));rw[<-bu]at hL ck ak;rw[Nat.add_zero]at hL;have HL:=Za hL;have dk:=ak.o.1;clear hL bu bh;go_enter Tryz.func120,Tryz.ntmps120;go_wp2_with(go_at_call 154;rw[<-cj.o];refine(oB ax.o.rd N).mono ?_;rintro e w4 ⟨rfl,F⟩;rw[decide_eq_true ab];refine aD ?_);have A:=Za (ax.o.next (F.below _));clear F;have cl:=Za (HL.o.movedB A.o.low (Nat.lt_succ_self R)).here;have r0:=A.o.rd.box.q 0 rfl;have cL:w4.cell? ⟨b,off,none⟩=some (.slice ou first.length cu):=cl.o.1;refine aC ?_;by_cases h2:first.length<2
 ·have B:=Za (show eF all=none by rw[ay.o];exact vV (by omega));have q1:decide ((first.length:Int)<2)=true:=decide_eq_true (by omega);have c0:=A.o.box.q 0 rfl;have f0:=A.o.box.free 0;have c1:=A.o.box.q 1 rfl;have f1:=A.o.box.free 1;have c2:=A.o.box.q 2 rfl;have f2:=A.o.box.free 2;go_wp2;have C:=Za (A.o.set3 M.o (.slice none 0 0) (.slice none 0 0) (.int .i64 0));have d0:=C.o.box.cell 0 rfl;have d1:=C.o.box.cell 1 rfl;have d2:=C.o.box.cell 2 rfl;exact bodyPost_ret (v:=.tuple #[.agg #[.slice none 0 0,.slice none 0 0,.int .i64 0],.bool false]) (by simp[results,Tryz.results120,go_sem,d0,d1,d2]) rfl (kS B.o C.o)
 have q1:decide ((first.length:Int)<2)=false:=decide_eq_false (by omega);by_cases h4:4<first.length
 ·have B:=Za (show eF all=none by rw[ay.o];exact vV (by omega));have q2:decide ((4:Int)<(first.length:Int))=true:=decide_eq_true (by omega);have c0:=A.o.box.q 0 rfl;have f0:=A.o.box.free 0;have c1:=A.o.box.q 1 rfl;have f1:=A.o.box.free 1;have c2:=A.o.box.q 2 rfl;have f2:=A.o.box.free 2;go_wp2;have C:=Za (A.o.set3 M.o (.slice none 0 0) (.slice none 0 0) (.int .i64 0));have d0:=C.o.box.cell 0 rfl;have d1:=C.o.box.cell 1 rfl;have d2:=C.o.box.cell 2 rfl;exact bodyPost_ret (v:=.tuple #[.agg #[.slice none 0 0,.slice none 0 0,.int .i64 0],.bool false]) (by simp[results,Tryz.results120,go_sem,d0,d1,d2]) rfl (kS B.o C.o)
 have q2:decide ((4:Int)<(first.length:Int))=false:=decide_eq_false (by omega);obtain⟨hd,tl,bx⟩:∃hd tl,first=hd::tl:=by
  cases first with
  |nil=>simp at h2
  |cons a r=>exact⟨a,r,rfl⟩
 obtain⟨bw,offw,rfl,cw⟩:=cl.o.2.at 0 (by omega);rw[Nat.add_zero,show fN first 0=hd by rw[bx];rfl]at cw;have dl:(0:Int)<(first.length:Int):=by omega
 have X:=Za bx;clear bx;by_cases ad:hd=iQ;rotate_left
 ·have B:=Za (show eF all=none by rw[ay.o];exact vV (fun h=>ad (by rw[X.o]at h;exact h.2.2)));have q3:(hd==[105,110,112,117,116])=false:=by rw[beq_eq_false_iff_ne];exact ad
  clear ad;have c0:=A.o.box.q 0 rfl;have f0:=A.o.box.free 0;have c1:=A.o.box.q 1 rfl;have f1:=A.o.box.free 1;have c2:=A.o.box.q 2 rfl;have f2:=A.o.box.free 2;go_wp2;have C:=Za (A.o.set3 M.o (.slice none 0 0) (.slice none 0 0) (.int .i64 0));have d0:=C.o.box.cell 0 rfl;have d1:=C.o.box.cell 1 rfl;have d2:=C.o.box.cell 2 rfl;exact bodyPost_ret (v:=.tuple #[.agg #[.slice none 0 0,.slice none 0 0,.int .i64 0],.bool false]) (by simp[results,Tryz.results120,go_sem,d0,d1,d2]) rfl (kS B.o C.o)
 have q3:(hd==[105,110,112,117,116])=true:=by rw[ad];rfl
 obtain⟨m,hm⟩:=Zx tl.length;have HM:=Za hm;have az:first.length=m+1:=by rw[X.o,hm];rfl
 have ba:=Za (show eF all=match gE tl with
   |none=>none
   |some inp=>match dU 4 64 (all.drop 1)with
    |none=>none
    |some (l,_,rest2)=>mU inp l rest2 by
  conv=>lhs;rw[ay.o,X.o]
  rw[eF,if_pos ⟨by rw[<-X.o];omega,by rw[<-X.o];omega,ad⟩];rfl)
 have ed:¬cu=1:=by omega
 have dm:=Za az;clear ad hm;rw[az]at cL ck dk;rw[az]at HL;have q1:decide ((m:Int)+1<2)=false:=decide_eq_false (by omega);have q2:decide ((4:Int)<(m:Int)+1)=false:=decide_eq_false (by omega);have ej:m<=3:=by omega
 have ek:1<=m:=by omega
 clear h2 h4 az;obtain⟨i0,hi,dn,dp,dq⟩:=info_parts KX;go_wp2;go_loopw[55] (fun i wr=>∃(k:Nat) (nums:List Int) (u:Value),k<=m/\i=.int .i64 k/\Hid (∃a c,u=.slice a k c)/\nums.length=k/\Hid (eS w R (some ⟨b,off,none⟩) cap all 0 64 #[u,.slice none 0 0,.int .i64 0] wr)/\Hid (aH wr (w.heap.size+1) 3 .i64 u nums)/\Hid (gE tl=(gE (tl.drop k)).map (nums++·))) (fun i _=>m-(intOf i).toNat)
 case atStart=>exact⟨0,[],.slice none 0 0,Ze _,rfl,Za ⟨_,_,rfl⟩,rfl,A,Za ⟨rfl,.inl ⟨rfl,rfl⟩⟩,Za (by simp)⟩
 case round=>
  clear q1 q2 q3 cL cw r0;obtain⟨k,nums,u,hk,rfl,HU,cm,V,HO,HN⟩:=hrel;obtain⟨w5,rfl⟩:=Zx wr;obtain⟨au,cu2,hu⟩:=HU.o;subst hu;have al:=Za cm;clear cm HU;by_cases bb:k<m
  ·obtain⟨b5,o5,h5,cw5⟩:=(HL.o.movedB V.o.low (Nat.lt_succ_self R)).here.2.at (1+k) (by rw[dm.o];omega);cases h5;obtain⟨wd,bc⟩:=Zx (fN tl k);have cn:fN first (1+k)=wd:=by rw[bc,X.o,fN,fN,Nat.add_comm];rfl
   have co:wd.length<=100000:=by
    have cp:k<tl.length:=by rw[<-HM.o];exact bb
    refine ak.o.2 wd ?_;rw[bc,X.o,pF tl k cp];exact List.mem_cons_of_mem _ (List.getElem_mem cp)
   rw[cn,<-Nat.add_assoc]at cw5;have ee:(k:Int)<(m:Int):=by omega
   have cq:=Za bc;clear cn bc;cases ae:dY wd 1 4096 with
   |none=>
    have B:=Za (show eF all=none by rw[ba.o,QR tl k nums (by rw[<-HM.o];exact bb) (by rw[<-cq.o];exact ae) HN.o]);have bz:=Za (fun w=>KN (low:=1) (high:=4096) w co ae);clear ae;go_wp2_with(go_at_call 155;refine(bz.o _).mono ?_;rintro e w' ⟨⟨mm,rfl⟩,rfl⟩;refine aD ?_);refine aC ?_;have c0:=V.o.box.q 0 rfl;have f0:=V.o.box.free 0;have c1:=V.o.box.q 1 rfl;have f1:=V.o.box.free 1;have c2:=V.o.box.q 2 rfl;have f2:=V.o.box.free 2;go_wp2;have C:=Za (V.o.set3 M.o (.slice none 0 0) (.slice none 0 0) (.int .i64 0));have d0:=C.o.box.cell 0 rfl;have d1:=C.o.box.cell 1 rfl;have d2:=C.o.box.cell 2 rfl;exact bodyPost_ret (v:=.tuple #[.agg #[.slice none 0 0,.slice none 0 0,.int .i64 0],.bool false]) (by simp[results,Tryz.results120,go_sem,d0,d1,d2]) rfl (kS B.o C.o)
   |some x=>
    have bz:=Za (fun w=>N9 (low:=1) (high:=4096) w co ae);have dr:=Za (TB tl k nums (by rw[<-HM.o];exact bb) (by rw[<-cq.o];exact ae) HN.o);have ef:=V.o.box.lt;have c0:=V.o.box.q 0 rfl;have cr:=Za (show w5.ownsRow (w.heap.size+1) 3 1 (.slice au k cu2) k (nums.map (.int .i64)) by simpa only[aH,al.o]using HO.o);clear ae;go_wp2_with(first|(go_at_call 155;refine(bz.o _).mono ?_;rintro e w' ⟨rfl,rfl⟩)|(at_builtin;refine wpList_append_own _ rfl _ _ 30 rfl (w.heap.size+1) 3 i0 (.int .i64 0) 1 8 Tryz.underlying30 hi dn dp dq rfl (by decide) _ _ _ rfl (cr.o.alloc _) ⟨w5.heap.size,0,none⟩ 1 1 [.int .i64 x] rfl rfl (cell_one_new _ _ _) (by simp[Value.oneCell']) (by unfold maxLen;omega) (by omega) (by simp;omega) ?_;intro v7 w7 ao ap _;refine aD ?_));have G:=Za (V.o.grown M.o cr.o ap);obtain⟨a7,k7,rfl⟩:=aJ ao;have ca:=Za ao;have c7:=G.o.box.q 0 rfl;have f7:=G.o.box.free 0;clear ao ap c0;refine aC ?_;go_wp2;have ds:=Za (G.o.set M.o 0 (.slice a7 (k+1) k7));have du:=Za (KQ (S:=w.heap.size) (j:=0) ca.o (Nat.lt_succ_self _) (.slice a7 (k+1) k7));go_roundw
    case rel=>exact⟨k+1,nums++[x],.slice a7 (k+1) k7,by omega,by go_num,Za ⟨_,_,rfl⟩,by rw[Zl,al.o];rfl,ds,Za (mV (by rw[al.o];exact du.o)),dr⟩
    case measure=>simp[intOf];omega
  ·obtain rfl:k=m:=by omega
   have cs:=Za (show gE tl=some nums by rw[HN.o,List.drop_eq_nil_of_le (by rw[<-HM.o];exact Zb _)];simp[gE]);clear HN bb;have r1:=V.o.rd.box.q 1 rfl;have g1:=V.o.rd.box.free 1;obtain⟨W6,bd⟩:=Zx (w5.setCell ⟨R,1,none⟩ (.int .i64 1));have be:=Za (show eS w R (some ⟨b,off,none⟩) cap all 1 64 #[.slice au k cu2,.slice none 0 0,.int .i64 0] W6 by rw[bd];exact V.o.setAt ac.o 1 (by omega));have ct:=Za (show aH W6 (w.heap.size+1) 3 .i64 (.slice au k cu2) nums by rw[bd];exact nM HO.o (oH _ _ _ _) (by have:=ac.o;omega));have cb:=Za bd;have HB:=Za (show Calls Tryz.prog 156 #[.pointer (some ⟨R,0,none⟩),.int .i64 0] W6 (gY W6 R (some ⟨b,off,none⟩) cap all (dU 4 64 (all.drop 1)))from GV 4 R (some ⟨b,off,none⟩) cap all 1 64 0 W6 be.o.rd bt.o rfl);have cx:=Za (FZ ct.o);clear bd;cases Y:dU 4 64 (all.drop 1)with
   |none=>
    have B:=Za (show eF all=none by rw[ba.o,cs.o,Y]);have bf:=Za (AR HB.o Y);have c1:=V.o.box.q 1 rfl;clear Y;go_wp2_with(go_at_call 156;rw[<-cb.o];refine bf.o.mono ?_;rintro e w7 ⟨rfl,af,at2,left2,T⟩;refine aD ?_);have G:=Za (be.o.moved ac.o af T);clear r1 g1 c1 af T;refine aC ?_;have c0:=G.o.box.q 0 rfl;have f0:=G.o.box.free 0;have c1:=G.o.box.q 1 rfl;have f1:=G.o.box.free 1;have c2:=G.o.box.q 2 rfl;have f2:=G.o.box.free 2;go_wp2;have C:=Za ((G.o.set M.o 1 (.slice none 0 0)).set3 M.o (.slice none 0 0) (.slice none 0 0) (.int .i64 0));have d0:=C.o.box.cell 0 rfl;have d1:=C.o.box.cell 1 rfl;have d2:=C.o.box.cell 2 rfl;exact bodyPost_ret (v:=.tuple #[.agg #[.slice none 0 0,.slice none 0 0,.int .i64 0],.bool false]) (by simp[results,Tryz.results120,go_sem,d0,d1,d2]) rfl (kS B.o C.o)
   |some q=>
    obtain⟨ls,l2,r2⟩:=q;have bf:=Za (FC HB.o Y);have dv:=Za (tJ 4 _ _ _ Y);have ag:=Za (show eF all=mU nums ls r2 by rw[ba.o,cs.o,Y]);have c1:=V.o.box.q 1 rfl;clear Y ba;go_wp2_with(go_at_call 156;rw[<-cb.o];refine bf.o.mono ?_;rintro e w7 ⟨vb,rfl,af,⟨at2,T,cy⟩,cc⟩;have cz:=Za cy;clear cy;refine aD ?_);have G:=Za (be.o.moved ac.o af T);have ca:=Za (nM ct.o af (by have:=ac.o;omega));obtain⟨ov,cv,rfl⟩:=cc.here.1.len;have dw:=Za cc;have el:=be.o.box.lt;obtain⟨W8,cd⟩:=Zx (w7.setCell ⟨w.heap.size,1,none⟩ (.slice ov ls.length cv));have aq:=Za (show fB w R (some ⟨b,off,none⟩) cap all at2 l2 (.slice au k cu2) (.slice ov ls.length cv) nums ls 0 W8 by
     rw[cd];exact⟨G.o.set M.o 1 _,(aI.num ca.o (by have:=al.o;omega)).set (Nat.lt_succ_self _) _,(dw.o.base (by omega)).set (Nat.lt_succ_self _) _⟩)
    have da:=Za cd;clear r1 g1 c1 af T cc cd HB bf cb;have c1:=G.o.box.q 1 rfl;have f1:=G.o.box.free 1;refine aC ?_;by_cases O:at2<all.length;rotate_left
    ·have B:=Za (show eF all=none by rw[ag.o,<-cz.o,List.drop_eq_nil_of_le (by omega)];rfl);go_wp2_with(go_at_call 154;rw[<-da.o];refine(oB aq.o.here.rd N).mono ?_;rintro e w9 ⟨rfl,F⟩;rw[decide_eq_false O];refine aD ?_);have J:=Za (aq.o.next (F.below _));clear c1 f1 F;refine aC ?_;have c0:=J.o.here.box.q 0 rfl;have f0:=J.o.here.box.free 0;have c1:=J.o.here.box.q 1 rfl;have f1:=J.o.here.box.free 1;have c2:=J.o.here.box.q 2 rfl;have f2:=J.o.here.box.free 2;go_wp2;have C:=Za (J.o.here.set3 M.o (.slice none 0 0) (.slice none 0 0) (.int .i64 0));have d0:=C.o.box.cell 0 rfl;have d1:=C.o.box.cell 1 rfl;have d2:=C.o.box.cell 2 rfl;exact bodyPost_ret (v:=.tuple #[.agg #[.slice none 0 0,.slice none 0 0,.int .i64 0],.bool false]) (by simp[results,Tryz.results120,go_sem,d0,d1,d2]) rfl (kS B.o C.o)
    go_wp2_with(go_at_call 154;rw[<-da.o];refine(oB aq.o.here.rd N).mono ?_;rintro e w9 ⟨rfl,F⟩;rw[decide_eq_true O];refine aD ?_);have J:=Za (aq.o.next (F.below _));obtain⟨b2,off2,ou2,cuu,_,dx,ce⟩:=M.o.lineK at2 O;cases dx;have ah:=Za (show r2=all[at2]::all.drop (at2+1) by rw[<-cz.o];exact sF O);have Z:=Za (bt.o.words _ (List.getElem_mem O));obtain⟨ws2,bi⟩:=Zx (all[at2]);rw[<-bi]at ce ah Z;have cf:=Za ce;have dy:=Za (cf.o.movedB J.o.here.low (Nat.lt_succ_self R)).here;have cL2:w9.cell? ⟨b,off+at2,none⟩=some (.slice ou2 ws2.length cuu):=dy.o.1;have r0:=J.o.here.rd.box.q 0 rfl;have r1:=J.o.here.rd.box.q 1 rfl;have dz:(at2:Int)<(all.length:Int):=by omega
    have eg:=Z.o.1;clear c1 f1 F ce bi;refine aC ?_;go_wp2;go_quiet(fail);obtain⟨w10,ar⟩:=Zx (w9.drewN nq);rw[<-ar];have D:=Za (show fB w R (some ⟨b,off,none⟩) cap all at2 l2 (.slice au k cu2) (.slice ov ls.length cv) nums ls 0 w10 from J.o.next (aN.below ⟨nq,ar⟩ _));have db:=Za (cf.o.movedB D.o.here.low (Nat.lt_succ_self R)).here;clear ar r0 r1 cL2;by_cases ai:ws2.length=2;rotate_left
    ·have cg:((ws2.length:Int)==2)=false:=by rw[beq_eq_false_iff_ne];omega
     have em:((ws2.length:Int) != 2)=true:=by rw[bne_iff_ne];omega
     have B:=Za (show eF all=none by rw[ag.o,ah.o];exact B6 (fun h=>ai h.1));clear ai;have c0:=D.o.here.box.q 0 rfl;have f0:=D.o.here.box.free 0;have c1:=D.o.here.box.q 1 rfl;have f1:=D.o.here.box.free 1;have c2:=D.o.here.box.q 2 rfl;have f2:=D.o.here.box.free 2;go_wp2;have C:=Za (D.o.here.set3 M.o (.slice none 0 0) (.slice none 0 0) (.int .i64 0));have d0:=C.o.box.cell 0 rfl;have d1:=C.o.box.cell 1 rfl;have d2:=C.o.box.cell 2 rfl;exact bodyPost_ret (v:=.tuple #[.agg #[.slice none 0 0,.slice none 0 0,.int .i64 0],.bool false]) (by simp[results,Tryz.results120,go_sem,d0,d1,d2]) rfl (kS B.o C.o)
    obtain⟨x0,x1,hx⟩:=qG ai;obtain⟨bw2,offw2,rfl,cx0⟩:=db.o.2.at 0 (by omega);rw[Nat.add_zero,show fN ws2 0=x0 by rw[hx];rfl]at cx0;have HX:=Za hx;have eh:x1.length<=100000:=Z.o.2 x1 (by rw[hx];simp);have ei:=Za ai;clear hx;rw[ai]at*;clear ai;by_cases aj:x0=dV;rotate_left
    ·have cg:(x0==[108,111,115,115])=false:=by rw[beq_eq_false_iff_ne];exact aj
     have B:=Za (show eF all=none by rw[ag.o,ah.o];exact B6 (fun h=>aj (by rw[HX.o]at h;exact h.2)));clear aj;have c0:=D.o.here.box.q 0 rfl;have f0:=D.o.here.box.free 0;have c1:=D.o.here.box.q 1 rfl;have f1:=D.o.here.box.free 1;have c2:=D.o.here.box.q 2 rfl;have f2:=D.o.here.box.free 2;go_wp2;have C:=Za (D.o.here.set3 M.o (.slice none 0 0) (.slice none 0 0) (.int .i64 0));have d0:=C.o.box.cell 0 rfl;have d1:=C.o.box.cell 1 rfl;have d2:=C.o.box.cell 2 rfl;exact bodyPost_ret (v:=.tuple #[.agg #[.slice none 0 0,.slice none 0 0,.int .i64 0],.bool false]) (by simp[results,Tryz.results120,go_sem,d0,d1,d2]) rfl (kS B.o C.o)
    have cg:(x0==[108,111,115,115])=true:=by rw[aj];rfl
    have ea:=Za aj;clear aj;go_wp2_with(go_at_call 102;refine(vL _).mono ?_;rintro e w11 ⟨rfl,bj⟩;have bk:=Za bj;clear bj;refine aD ?_);have bl:=Za (D.o.next (wK bk.o));have bm:=Za (show aA w11 w10.heap.size 9 #[.string ⟨#[]⟩,.string ⟨#[120,101,110,116]⟩,.string ⟨#[115,113,117,97,114,101]⟩] by rw[bk.o];exact aA.new _ _ _);obtain⟨sB,ch⟩:=Zx w10.heap.size;have eb:=Za (show w.heap.size<sB by rw[ch];exact D.o.here.box.lt);rw[<-ch]at bm ⊢;clear cg cx0 ch;refine aC ?_;go_wp2;go_loopw[117] (fun i wr=>∃q:Nat,q<=3/\i=.int .i64 q/\Hid (fB w R (some ⟨b,off,none⟩) cap all at2 l2 (.slice au k cu2) (.slice ov ls.length cv) nums ls (eV q x1) wr)/\Hid (aA wr sB 9 #[.string ⟨#[]⟩,.string ⟨#[120,101,110,116]⟩,.string ⟨#[115,113,117,97,114,101]⟩])) (fun i _=>3-(intOf i).toNat)
    case atStart=>exact⟨0,Ze _,rfl,bl,bm⟩
    case round=>
     obtain⟨q,hq,rfl,HI,L⟩:=hrel;obtain⟨w12,rfl⟩:=Zx wr;have bn:w.heap.size≠sB:=by have:=eb.o;omega
     by_cases en:q<3
     ·have bo:eV 0 x1=0:=by rw[eV,if_neg (by omega),if_neg (by omega)]
      have bp:eV 1 x1=0:=by rw[eV,if_neg (by omega),if_neg (by omega)]
      have dc:=Za (cf.o.movedB HI.o.here.low (Nat.lt_succ_self R)).here;obtain⟨b9,o9,h9,cx1⟩:=dc.o.2.at 1 (by rw[HX.o];simp);cases h9;rw[show fN ws2 1=x1 by rw[HX.o];rfl]at cx1;have dd:=Za bo;have bq:=Za bp;clear bo bp;obtain rfl|rfl|rfl:q=0\/q=1\/q=2:=by omega
      ·have s0:=L.o.q 0 rfl;go_wp2;go_roundw
       case rel=>exact⟨1,by omega,rfl,Za (by have:=HI.o;rw[dd.o,<-bq.o]at this;exact this),L⟩
       case measure=>simp[intOf]
      ·have s1:=L.o.q 1 rfl;have E:=Za (show fB w R (some ⟨b,off,none⟩) cap all at2 l2 (.slice au k cu2) (.slice ov ls.length cv) nums ls 0 w12 by have:=HI.o;rw[bq.o]at this;exact this);have c2:=E.o.here.box.q 2 rfl;have f2:=E.o.here.box.free 2;by_cases H:x1=eL 1
       ·have he:(([120,101,110,116]:List UInt8)==x1)=true:=by rw[H];rfl
        have aa:=Za (show eV 2 x1=1 by rw[eV,if_pos ⟨by omega,H⟩]);clear H;go_wp2;go_roundw
        case rel=>exact⟨2,by omega,rfl,Za (by rw[aa.o];exact E.o.loss M.o 1),Za (L.o.other bn _)⟩
        case measure=>simp[intOf]
       ·have he:(([120,101,110,116]:List UInt8)==x1)=false:=by rw[beq_eq_false_iff_ne];exact fun h=>H h.symm
        have aa:=Za (show eV 2 x1=0 by rw[eV,if_neg (fun h=>H h.2),if_neg (by omega)]);clear H;go_wp2;go_roundw
        case rel=>exact⟨2,by omega,rfl,Za (by rw[aa.o];exact E.o),L⟩
        case measure=>simp[intOf]
      ·have s2:=L.o.q 2 rfl;obtain⟨lv,U⟩:=Zx (eV 2 x1);have E:=Za (show fB w R (some ⟨b,off,none⟩) cap all at2 l2 (.slice au k cu2) (.slice ov ls.length cv) nums ls lv w12 by rw[U];exact HI.o);have c2:=E.o.here.box.q 2 rfl;have f2:=E.o.here.box.free 2;by_cases H:x1=eL 2
       ·have he:(([115,113,117,97,114,101]:List UInt8)==x1)=true:=by rw[H];rfl
        have aa:=Za (show eV 3 x1=2 by rw[eV,if_neg (fun h=>by rw[H]at h;exact absurd h.2 (by decide)),if_pos ⟨by omega,H⟩]);clear H U;go_wp2;go_roundw
        case rel=>exact⟨3,by omega,rfl,Za (by rw[aa.o];exact E.o.loss M.o 2),Za (L.o.other bn _)⟩
        case measure=>simp[intOf]
       ·have he:(([115,113,117,97,114,101]:List UInt8)==x1)=false:=by rw[beq_eq_false_iff_ne];exact fun h=>H h.symm
        have aa:=Za (show eV 3 x1=lv by
         rw[U,eV,eV];by_cases h1:x1=eL 1
         ·rw[if_pos ⟨by omega,h1⟩,if_pos ⟨by omega,h1⟩]
         ·rw[if_neg (fun h=>h1 h.2),if_neg (fun h=>H h.2),if_neg (fun h=>h1 h.2),if_neg (fun h=>H h.2)])
        clear H U;go_wp2;go_roundw
        case rel=>exact⟨3,by omega,rfl,Za (by rw[aa.o];exact E.o),L⟩
        case measure=>simp[intOf]
     ·obtain rfl:q=3:=by omega
      obtain⟨lv,U⟩:=Zx (eV 3 x1);have E:=Za (show fB w R (some ⟨b,off,none⟩) cap all at2 l2 (.slice au k cu2) (.slice ov ls.length cv) nums ls lv w12 by rw[U];exact HI.o);have ci:=Za U;have c2:=E.o.here.box.q 2 rfl;clear U HI aq J D bl;by_cases hz:lv=0
      ·have de:(lv==0)=true:=by rw[hz];rfl
       have B:=Za (show eF all=none by rw[ag.o,ah.o,HX.o];exact N7 (IG (by rw[<-ci.o];exact hz)));clear c2 hz;have c0:=E.o.here.box.q 0 rfl;have f0:=E.o.here.box.free 0;have c1:=E.o.here.box.q 1 rfl;have f1:=E.o.here.box.free 1;have c2:=E.o.here.box.q 2 rfl;have f2:=E.o.here.box.free 2;go_wp2;have C:=Za (E.o.here.set3 M.o (.slice none 0 0) (.slice none 0 0) (.int .i64 0));have d0:=C.o.box.cell 0 rfl;have d1:=C.o.box.cell 1 rfl;have d2:=C.o.box.cell 2 rfl;exact bodyPost_ret (v:=.tuple #[.agg #[.slice none 0 0,.slice none 0 0,.int .i64 0],.bool false]) (by simp[results,Tryz.results120,go_sem,d0,d1,d2]) rfl (kS B.o C.o)
      have de:(lv==0)=false:=by rw[beq_eq_false_iff_ne];exact hz
      have ec:=Za (show kK x1=some lv by rw[ci.o];exact ST (by rw[<-ci.o];exact hz));have r1:=E.o.here.rd.box.q 1 rfl;have g1:=E.o.here.rd.box.free 1;obtain⟨W13,av⟩:=Zx (w12.setCell ⟨R,1,none⟩ (.int .i64 ((at2:Int)+1)));have P:=Za (show fB w R (some ⟨b,off,none⟩) cap all (at2+1) l2 (.slice au k cu2) (.slice ov ls.length cv) nums ls lv W13 by rw[av];exact E.o.setAt ac.o (at2+1) O);have df:=Za av;clear hz av;go_upto_region 28 with(fail);rw[<-df.o];clear c2 r1 g1 de;obtain⟨e0,e1,e2⟩:=P.o.here.box.r3;have g0:=P.o.here.box.free 0;have g1:=P.o.here.box.free 1;have g2:=P.o.here.box.free 2;have dg:=Za (P.o.next (Below.drew (Zc _ _)));have dh:=Za ((P.o.next (Below.drew (Zc _ _))).set3 M.o);obtain⟨mb,bg⟩:=Zx (decide (at2+1<all.length));have di:=Za bg;have br:=Za (show ∀W,fB w R (some ⟨b,off,none⟩) cap all (at2+1) l2 (.slice au k cu2) (.slice ov ls.length cv) nums ls lv W->qQ w R (some ⟨b,off,none⟩) cap all (eF all) (.returned (.tuple #[.agg #[.slice au k cu2,.slice ov ls.length cv,.int .i64 lv],.bool (!mb)])) W from fun W hI=>by
       cases hm:mb with
       |true=>
        refine kS ?_ hI.here;rw[bg,decide_eq_true_eq]at hm;rw[ag.o,ah.o];refine R6 (fun e=>?_);have:=congrArg List.length e;rw[List.length_drop,List.length_nil]at this;omega
       |false=>
        rw[bg,decide_eq_false_iff_not]at hm;refine⟨hI.here.low,_,_,hI.here.rd,?_⟩;rw[ag.o,ah.o,List.drop_eq_nil_of_le (by omega),HX.o,ea.o,S7 ec.o];refine⟨_,_,rfl,cx.o,((hI.hu.and hI.hv).base (Nat.le_succ _)).imp fun W hW=>⟨⟨hW.1.1,hW.2.1,?_,?_⟩,hW.1.2,hW.2.2⟩⟩
        ·have:=al.o;simp only;omega
        ·have:=dv.o.2;simp only at this ⊢;omega)
      clear bg;go_region_with(first|(go_at_call 154;(with_reducible refine(tA dg.o.here.rd N di.o.symm).mono ?_);rintro e w15 ⟨rfl,F⟩;have I:=Za (B8 dg.o F);clear F;have e0':=I.o.here.box.q 0 rfl;have g0':=I.o.here.box.free 0;have e1':=I.o.here.box.q 1 rfl;have g1':=I.o.here.box.free 1;have e2':=I.o.here.box.q 2 rfl;have g2':=I.o.here.box.free 2)|(go_at_call 154;(with_reducible refine(tA dh.o.here.rd N di.o.symm).mono ?_);rintro e w15 ⟨rfl,F⟩;have I:=Za (B8 dh.o F);clear F;have e0':=I.o.here.box.q 0 rfl;have g0':=I.o.here.box.free 0;have e1':=I.o.here.box.q 1 rfl;have g1':=I.o.here.box.free 1;have e2':=I.o.here.box.q 2 rfl;have g2':=I.o.here.box.free 2))
      all_goals
       clear e0 e1 e2 g0 g1 g2;go_wp2
       first
       |(have C:=Za (I.o.set3 M.o);have d0:=C.o.here.box.cell 0 rfl;have d1:=C.o.here.box.cell 1 rfl;have d2:=C.o.here.box.cell 2 rfl;exact bodyPost_ret (v:=.tuple #[.agg #[.slice au k cu2,.slice ov ls.length cv,.int .i64 lv],.bool (!mb)]) (by simp[results,Tryz.results120,go_sem,d0,d1,d2]) rfl (br.o _ C.o))
       |(have C:=Za (I.o);have d0:=C.o.here.box.cell 0 rfl;have d1:=C.o.here.box.cell 1 rfl;have d2:=C.o.here.box.cell 2 rfl;exact bodyPost_ret (v:=.tuple #[.agg #[.slice au k cu2,.slice ov ls.length cv,.int .i64 lv],.bool (!mb)]) (by simp[results,Tryz.results120,go_sem,d0,d1,d2]) rfl (br.o _ C.o))
