/-
  A part of the proof of a law (packed by program).
-/
import Derived.Test.YtjhkdocidcfpdaaGreatDoorTM37
import Derived.Test.YtjhkdocidcfpdaaGreatDoorTM35
set_option linter.unusedVariables false
set_option linter.unusedSimpArgs false
set_option maxRecDepth 100000
set_option maxHeartbeats 16000000
open List renaming length_append → Zl
namespace Go.Proofs.YtjhkdocidcfpdaaGreatDoor
open Go.RowKit Go.Shelf Go
theorem bX.lineK {w:World} {R:Nat} {o:Option Addr} {cap:Nat} {all:aS} {at_ left:Nat} (h:bX w R o cap all at_ left) (k:Nat) (hk:k<all.length):∃b off ou cu,(all[k]).length≤cu∧o=some ⟨b,off,none⟩∧aI (aL (R+1) w) w fun W=>W.cell? ⟨b,off+k,none⟩=some (.slice ou (all[k]).length cu)∧fG W (.slice ou (all[k]).length cu) all[k]:=by obtain⟨b,off,u,ho,hb0,hc,hcp,hw⟩:=h.rows.here.at k hk;obtain⟨ou,cu,rfl⟩:=hw.slice;refine⟨b,off,ou,cu,hcp _ _ _ rfl,ho,fun W hW=>?_⟩;obtain⟨b',off',u',ho',_,hc',_,hw'⟩:=(h.rows W hW).at k hk;rw[ho]at ho';cases ho';have hbl:W.heap[b]?=w.heap[b]?:=hW b ⟨hb0,aP hc⟩;have e:W.cell? ⟨b,off+k,none⟩=w.cell? ⟨b,off+k,none⟩:=World.cell?_of_block (w:=w) (a:=⟨b,off+k,none⟩) hbl;rw[e,hc]at hc';cases hc';exact⟨by rw[e];exact hc,hw'⟩
def pW (w:World) (R:Nat) (o:Option Addr) (cap:Nat) (all:aS) (res:Option bE) (e:Ending) (w':World):Prop:=
 aZ w w' R∧∃at2 left2,bX w' R o cap all at2 left2∧match res with
 |none=>∃o1 n1 c1 o2 n2 c2 k,e=.returned (.tuple #[.agg #[.slice o1 n1 c1,.slice o2 n2 c2,.int .i64 k],.bool false])
 |some d=>∃vi vl,e=.returned (.tuple #[.agg #[vi,vl,.int .i64 d.loss],.bool true])∧(∀o n c,vi=.slice o n c→n≤c)∧aI (aL w.heap.size w') w' (fun W=>eJ W vi vl d)
structure eR (w:World) (R:Nat) (o:Option Addr) (cap:Nat) (all:aS) (at_ left:Nat) (cs:Array Value) (W:World):Prop where
 low:aZ w W R
 rd:bX W R o cap all at_ left
 box:aA W w.heap.size 33 cs
theorem eR.next {w W W':World} {R:Nat} {o:Option Addr} {cap:Nat} {all:aS} {at_ left:Nat} {cs:Array Value} (h:eR w R o cap all at_ left cs W) (hb:Below W.heap.size W W'):eR w R o cap all at_ left cs W':=⟨h.low.trans (gI hb),h.rd.next hb,h.box.next hb⟩
theorem DA {w W:World} {R n j:Nat} {v:Value} (h:aZ w W R) (hn:w.heap.size≤n):aZ w (W.setCell ⟨n,j,none⟩ v) R:=
 ⟨h.os,h.tape,h.output,by simp[World.setCell];exact h.size,fun k hk hne=>(Below.heap_setCell _ _ _ _ (fun e=>by simp at e;omega)).trans (h.block k hk hne)⟩
theorem eR.set {w W:World} {R:Nat} {o:Option Addr} {cap:Nat} {all:aS} {at0 left0 at_ left:Nat} {cs:Array Value} (h0:bX w R o cap all at0 left0) (h:eR w R o cap all at_ left cs W) (j:Nat) (v:Value):eR w R o cap all at_ left (cs.setIfInBounds j v) (W.setCell ⟨w.heap.size,j,none⟩ v):=
 ⟨DA h.low (Zb _),h0.back (DA h.low (Zb _)) (h.rd.box.other (by have:=h0.box.lt;show w.heap.size≠R;omega) _) h.rd.le h.rd.lt,h.box.set j v⟩
theorem eR.set3 {w W:World} {R:Nat} {o:Option Addr} {cap:Nat} {all:aS} {at0 left0 at_ left:Nat} {x y z:Value} (h0:bX w R o cap all at0 left0) (h:eR w R o cap all at_ left #[x,y,z] W) (a b c:Value):
  eR w R o cap all at_ left #[a,b,c] (((W.setCell ⟨w.heap.size,0,none⟩ a).setCell ⟨w.heap.size,1,none⟩ b).setCell ⟨w.heap.size,2,none⟩ c):=
 ((h.set h0 0 a).set h0 1 b).set h0 2 c
theorem eR.grown {w W W':World} {R:Nat} {o:Option Addr} {cap:Nat} {all:aS} {at0 left0 at_ left:Nat} {cs:Array Value} (h0:bX w R o cap all at0 left0) (h:eR w R o cap all at_ left cs W) {e:TypeId} {s n:Nat} {v:Value} {xs:List Value} {ob:Obj} (ho:W.ownsRow (w.heap.size+1) e s v n xs) (hg:(W.alloc ob).grownBy W' v.ownBlock):eR w R o cap all at_ left cs W':=by have hne:∀k,v.ownBlock=some k→w.heap.size+1≤k:=fun k hk=>(ho.lt k hk).1;have hRl:=h0.box.lt;have key:∀k,k≤w.heap.size→k<W.heap.size→W'.heap[k]?=W.heap[k]?:=fun k hk hl=>(hg.block k (by simp;omega) (fun e=>by have:=hne k e.symm;omega)).trans (Below.heap_alloc W ob k hl);have hm:aZ w W' R:=⟨hg.os.trans h.low.os,hg.tape.trans h.low.tape,hg.output.trans h.low.output,by have:=hg.size;have:=h.low.size;simp at*;omega,fun k hk hne=>(key k (by omega) (by have:=h.low.size;omega)).trans (h.low.block k hk hne)⟩;exact⟨hm,h0.back hm ((key R (by omega) h.rd.box.lt).trans h.rd.box) h.rd.le h.rd.lt,(key w.heap.size (Zb _) h.box.lt).trans h.box⟩
theorem eR.setAt {w W:World} {R:Nat} {o:Option Addr} {cap:Nat} {all:aS} {at_ left:Nat} {cs:Array Value} (hR:R<w.heap.size) (h:eR w R o cap all at_ left cs W) (k:Nat) (hk:k≤all.length):eR w R o cap all k left cs (W.setCell ⟨R,1,none⟩ (.int .i64 k)):=
 ⟨h.low.trans (nK _ _ _ _),h.rd.setAt k hk,h.box.other (by show R≠w.heap.size;omega) _⟩
theorem eR.moved {w W W':World} {R:Nat} {o:Option Addr} {cap:Nat} {all:aS} {at_ left at2 left2:Nat} {cs:Array Value} (hR:R<w.heap.size) (h:eR w R o cap all at_ left cs W) (hm:aZ W W' R) (hr:bX W' R o cap all at2 left2):eR w R o cap all at2 left2 cs W':=
 ⟨h.low.trans hm,hr,(gG hm h.box.lt (by omega)).trans h.box⟩
structure eT (w:World) (R:Nat) (o:Option Addr) (cap:Nat) (all:aS) (at_ left:Nat) (u v:Value) (nums:List Int) (ls:List aB) (k:Int) (W:World):Prop where
 here:eR w R o cap all at_ left #[u,v,.int .i64 k] W
 hu:aI (aL (w.heap.size+1) W) W fun W=>Rd W .i64 u nums
 hv:aI (aL (w.heap.size+1) W) W fun W=>bF W v ls
theorem eT.next {w W W':World} {R:Nat} {o:Option Addr} {cap:Nat} {all:aS} {at_ left:Nat} {u v:Value} {nums:List Int} {ls:List aB} {k:Int} (h:eT w R o cap all at_ left u v nums ls k W) (hb:Below W.heap.size W W'):eT w R o cap all at_ left u v nums ls k W':=⟨h.here.next hb,h.hu.grow hb,h.hv.grow hb⟩
theorem eT.set3 {w W:World} {R:Nat} {o:Option Addr} {cap:Nat} {all:aS} {at0 left0 at_ left:Nat} {u v:Value} {nums:List Int} {ls:List aB} {k:Int} (h0:bX w R o cap all at0 left0) (h:eT w R o cap all at_ left u v nums ls k W):eT w R o cap all at_ left u v nums ls k (((W.setCell ⟨w.heap.size,0,none⟩ u).setCell ⟨w.heap.size,1,none⟩ v).setCell ⟨w.heap.size,2,none⟩ (.int .i64 k)):=
 ⟨h.here.set3 h0 _ _ _,((h.hu.set (Nat.lt_succ_self _) _).set (Nat.lt_succ_self _) _).set (Nat.lt_succ_self _) _,((h.hv.set (Nat.lt_succ_self _) _).set (Nat.lt_succ_self _) _).set (Nat.lt_succ_self _) _⟩
theorem eT.loss {w W:World} {R:Nat} {o:Option Addr} {cap:Nat} {all:aS} {at0 left0 at_ left:Nat} {u v:Value} {nums:List Int} {ls:List aB} {k:Int} (h0:bX w R o cap all at0 left0) (h:eT w R o cap all at_ left u v nums ls k W) (k':Int):eT w R o cap all at_ left u v nums ls k' (W.setCell ⟨w.heap.size,2,none⟩ (.int .i64 k')):=
 ⟨h.here.set h0 2 _,h.hu.set (Nat.lt_succ_self _) _,h.hv.set (Nat.lt_succ_self _) _⟩
theorem eT.setAt {w W:World} {R:Nat} {o:Option Addr} {cap:Nat} {all:aS} {at_ left:Nat} {u v:Value} {nums:List Int} {ls:List aB} {k:Int} (hR:R<w.heap.size) (h:eT w R o cap all at_ left u v nums ls k W) (q:Nat) (hq:q≤all.length):eT w R o cap all q left u v nums ls k (W.setCell ⟨R,1,none⟩ (.int .i64 q)):=
 ⟨h.here.setAt hR q hq,h.hu.set (by omega) _,h.hv.set (by omega) _⟩
theorem EK {w W W':World} {R:Nat} {o:Option Addr} {cap:Nat} {all:aS} {at_ left:Nat} {u v:Value} {nums:List Int} {ls:List aB} {k:Int} (h:eT w R o cap all at_ left u v nums ls k W) (hs:∃m,W'=W.drewN m):eT w R o cap all at_ left u v nums ls k W':=h.next (aN.below hs _)
def lH (inp:List Int) (l:List aB) (r2:aS):Option bE:=match r2 with
 |[w]=>if w.length=2∧w.headD []=eB then(kF (w.getD 1 [])).map (fun k=>⟨inp,l,k⟩) else none
 |_=>none
theorem zA {inp:List Int} {l:List aB} {w:List (List UInt8)} {r:aS} (h:¬(w.length=2∧w.headD []=eB)):lH inp l (w::r)=none:=by
 cases r with
 |nil=>rw[lH,if_neg h]
 |cons a b=>rfl
theorem J3 {inp:List Int} {l:List aB} {w:List (List UInt8)} {r:aS} (h:r≠[]):lH inp l (w::r)=none:=by
 cases r with
 |nil=>exact absurd rfl h
 |cons a b=>rfl
theorem JG {inp:List Int} {l:List aB} {x0 x1:List UInt8} {r:aS} (h:kF x1=none):lH inp l ([x0,x1]::r)=none:=by
 cases r with
 |nil=>
  rw[lH];split
  ·rw[show([x0,x1]:List (List UInt8)).getD 1 []=x1 from rfl,h];rfl
  ·rfl
 |cons a b=>rfl
theorem O6 {inp:List Int} {l:List aB} {x1:List UInt8} {k:Int} (h:kF x1=some k):lH inp l [[eB,x1]]=some ⟨inp,l,k⟩:=by rw[lH,if_pos ⟨rfl,rfl⟩,show([eB,x1]:List (List UInt8)).getD 1 []=x1 from rfl,h];rfl
def eN (k:Nat) (x:List UInt8):Int:=if 2≤k∧x=eX 1 then 1 else if 3≤k∧x=eX 2 then 2 else 0
theorem S2 {x:List UInt8} (h:eN 3 x=0):kF x=none:=by
 rw[eN]at h;rw[kF];split at h
 ·cases h
 ·rename_i h1;split at h
  ·cases h
  ·rename_i h2;rw[if_neg (fun e=>h1 ⟨by omega,e⟩),if_neg (fun e=>h2 ⟨by omega,e⟩)]
theorem RX {x:List UInt8} (h:eN 3 x≠0):kF x=some (eN 3 x):=by
 by_cases h1:x=eX 1
 ·rw[kF,if_pos h1,eN,if_pos ⟨by omega,h1⟩]
 ·by_cases h2:x=eX 2
  ·rw[kF,if_neg h1,if_pos h2,eN,if_neg (fun e=>h1 e.2),if_pos ⟨by omega,h2⟩]
  ·exact absurd (by rw[eN,if_neg (fun e=>h1 e.2),if_neg (fun e=>h2 e.2)]) h
theorem DM {w:World} {B:Nat} {e:TypeId} {s n:Nat} {v:Value} {xs:List Value} (h:w.ownsRow B e s v n xs):∀o m c,v=.slice o m c→m≤c:=fun o m c hv=>by
 rcases h.2 with⟨rfl,_⟩|⟨g,cap,cur,rfl,_,_,hc,_⟩
 ·cases hv;exact Zb _
 ·cases hv;exact hc
theorem N9:(Tryz.prog.info? 3).map (fun i=>(i.zero,i.size,i.bytes))=some (some (.int .i64 0),1,8):=by kernel_rfl
theorem QW {w:World} {B:Nat} {e:TypeId} {s:Nat} {v:Value} {n:Nat} {xs:List Value} (h:w.ownsRow B e s v n xs) {S j:Nat} (hS:S<B) (u:Value):(w.setCell ⟨S,j,none⟩ u).ownsRow B e s v n xs:=
 mV h (nK w S j u) hS
theorem j9 {w W:World} {R:Nat} {o:Option Addr} {cap:Nat} {all:aS} {at_ left:Nat} {res:Option bE} {o1 o2:Option Addr} {n1 c1 n2 c2:Nat} {k:Int} (hres:res=none) (h:eR w R o cap all at_ left #[.slice o1 n1 c1,.slice o2 n2 c2,.int .i64 k] W):
  pW w R o cap all res (.returned (.tuple #[.agg #[.slice o1 n1 c1,.slice o2 n2 c2,.int .i64 k],.bool false])) W:=
 ⟨h.low,at_,left,h.rd,by rw[hres];exact⟨_,_,_,_,_,_,_,rfl⟩⟩
theorem I0 (l:List (List UInt8)) (k:Nat) (nums:List Int) (h:k<l.length) {x:Int} (hx:dO (fJ l k) 1 4096=some x) (he:fW l=(fW (l.drop k)).map (nums++·)):fW l=(fW (l.drop (k+1))).map ((nums++[x])++·):=by
 rw[he,List.drop_eq_getElem_cons h,fW,←oW l k h,hx];simp only[Option.map_map]
 congr 1
 funext q
 simp
theorem RS (l:List (List UInt8)) (k:Nat) (nums:List Int) (h:k<l.length) (hx:dO (fJ l k) 1 4096=none) (he:fW l=(fW (l.drop k)).map (nums++·)):fW l=none:=by rw[he,List.drop_eq_getElem_cons h,fW,←oW l k h,hx];rfl
theorem vA {first:List (List UInt8)} {rest:aS} (h:¬(2≤first.length∧first.length≤4∧first.headD []=jP)):dZ (first::rest)=none:=by rw[dZ,if_neg h]
theorem JJ {l:List UInt8} {low high:Int} (w:World) (hl:l.length≤100000) (hn:dO l low high=none):
  Calls Tryz.prog 155 #[.string ⟨l.toArray⟩,.int .i64 low,.int .i64 high] w fun e w'=>(∃m:Int,e=.returned (.tuple #[.int .i64 m,.bool false]))∧w=w':=
 (vK l low high w hl).mono fun e w' ⟨⟨m,he,_⟩,hw⟩=>⟨⟨m,by rw[he,hn];rfl⟩,hw⟩
theorem GO {l:List UInt8} {low high x:Int} (w:World) (hl:l.length≤100000) (hn:dO l low high=some x):
  Calls Tryz.prog 155 #[.string ⟨l.toArray⟩,.int .i64 low,.int .i64 high] w fun e w'=>e=.returned (.tuple #[.int .i64 x,.bool true])∧w=w':=
 (vK l low high w hl).mono fun e w' ⟨⟨m,he,hx⟩,hw⟩=>⟨by rw[he,hn,hx x hn];rfl,hw⟩
theorem zI (R:Nat) (o:Option Addr) (cap:Nat) (all:aS) (w:World) (h:bX w R o cap all 0 64) (hok:LOk all):
  Calls Tryz.prog 120 #[.pointer (some ⟨R,0,none⟩)] w (pW w R o cap all (dZ all)):=by
 have HOK:=Za hok;have HH:=Za h;have HRL:=Za h.box.lt;have hlen:=hok.len;obtain⟨W0,hW0⟩:∃W0,W0=w.alloc (.cells #[.slice none 0 0,.slice none 0 0,.int .i64 0] 33):=⟨_,rfl⟩;have HA0:=Za (show eR w R o cap all 0 64 #[.slice none 0 0,.slice none 0 0,.int .i64 0] W0 by
  have hb:Below w.heap.size w W0:=by rw[hW0];exact(Zc _ _).alloc (Zb _) _
  exact⟨gI hb,h.next hb,by rw[hW0];exact aA.new _ _ _⟩)
 have HW0:=Za hW0;clear h hok hW0;by_cases hall:all.length=0
 ·have HRES:=Za (show dZ all=none by rw[List.eq_nil_of_length_eq_zero hall];rfl);go_enter Tryz.func120,Tryz.ntmps120;go_wp2_with(go_at_call 154;rw[←HW0.o];refine(nV HA0.o.rd hlen).mono ?_;rintro e w4 ⟨rfl,hsm⟩;rw[decide_eq_false (by omega)];refine aD ?_);have HA4:=Za (HA0.o.next (hsm.below _));clear hsm;refine aC ?_;have c0:=HA4.o.box.q 0 rfl;have f0:=HA4.o.box.free 0;have c1:=HA4.o.box.q 1 rfl;have f1:=HA4.o.box.free 1;have c2:=HA4.o.box.q 2 rfl;have f2:=HA4.o.box.free 2;go_wp2;have HZ:=Za (HA4.o.set3 HH.o (.slice none 0 0) (.slice none 0 0) (.int .i64 0));have d0:=HZ.o.box.cell 0 rfl;have d1:=HZ.o.box.cell 1 rfl;have d2:=HZ.o.box.cell 2 rfl;exact bodyPost_ret (v:=.tuple #[.agg #[.slice none 0 0,.slice none 0 0,.int .i64 0],.bool false]) (by simp[results,Tryz.results120,go_sem,d0,d1,d2]) rfl (j9 HRES.o HZ.o)
 have hpos:0<all.length:=by omega
 have hposI:(0:Int)<(all.length:Int):=by omega
 obtain⟨b,off,ou,cu,hcu,rfl,hL⟩:=HH.o.lineK 0 hpos;obtain⟨first,hfi⟩:∃first,first=all[0]:=⟨_,rfl⟩;have HAL:=Za (show all=first::all.drop 1 by rw[hfi];have:=rW hpos;rwa [List.drop_zero]at this);have HOKW:=Za (HOK.o.words _ (List.getElem_mem hpos));rw[←hfi]at hL hcu HOKW;rw[Nat.add_zero]at hL;have HL:=Za hL;have hfl:=HOKW.o.1;clear hL hfi hall;go_enter Tryz.func120,Tryz.ntmps120;go_wp2_with(go_at_call 154;rw[←HW0.o];refine(nV HA0.o.rd hlen).mono ?_;rintro e w4 ⟨rfl,hsm⟩;rw[decide_eq_true hpos];refine aD ?_);have HA4:=Za (HA0.o.next (hsm.below _));clear hsm;have HL4:=Za (HL.o.movedB HA4.o.low (Nat.lt_succ_self R)).here;have r0:=HA4.o.rd.box.q 0 rfl;have cL:w4.cell? ⟨b,off,none⟩=some (.slice ou first.length cu):=HL4.o.1;refine aC ?_;by_cases h2:first.length<2
 ·have HRES:=Za (show dZ all=none by rw[HAL.o];exact vA (by omega));have q1:decide ((first.length:Int)<2)=true:=decide_eq_true (by omega);have c0:=HA4.o.box.q 0 rfl;have f0:=HA4.o.box.free 0;have c1:=HA4.o.box.q 1 rfl;have f1:=HA4.o.box.free 1;have c2:=HA4.o.box.q 2 rfl;have f2:=HA4.o.box.free 2;go_wp2;have HZ:=Za (HA4.o.set3 HH.o (.slice none 0 0) (.slice none 0 0) (.int .i64 0));have d0:=HZ.o.box.cell 0 rfl;have d1:=HZ.o.box.cell 1 rfl;have d2:=HZ.o.box.cell 2 rfl;exact bodyPost_ret (v:=.tuple #[.agg #[.slice none 0 0,.slice none 0 0,.int .i64 0],.bool false]) (by simp[results,Tryz.results120,go_sem,d0,d1,d2]) rfl (j9 HRES.o HZ.o)
 have q1:decide ((first.length:Int)<2)=false:=decide_eq_false (by omega);by_cases h4:4<first.length
 ·have HRES:=Za (show dZ all=none by rw[HAL.o];exact vA (by omega));have q2:decide ((4:Int)<(first.length:Int))=true:=decide_eq_true (by omega);have c0:=HA4.o.box.q 0 rfl;have f0:=HA4.o.box.free 0;have c1:=HA4.o.box.q 1 rfl;have f1:=HA4.o.box.free 1;have c2:=HA4.o.box.q 2 rfl;have f2:=HA4.o.box.free 2;go_wp2;have HZ:=Za (HA4.o.set3 HH.o (.slice none 0 0) (.slice none 0 0) (.int .i64 0));have d0:=HZ.o.box.cell 0 rfl;have d1:=HZ.o.box.cell 1 rfl;have d2:=HZ.o.box.cell 2 rfl;exact bodyPost_ret (v:=.tuple #[.agg #[.slice none 0 0,.slice none 0 0,.int .i64 0],.bool false]) (by simp[results,Tryz.results120,go_sem,d0,d1,d2]) rfl (j9 HRES.o HZ.o)
 have q2:decide ((4:Int)<(first.length:Int))=false:=decide_eq_false (by omega);obtain⟨hd,tl,hft⟩:∃hd tl,first=hd::tl:=by
  cases first with
  |nil=>simp at h2
  |cons a r=>exact⟨a,r,rfl⟩
 obtain⟨bw,offw,rfl,cw⟩:=HL4.o.2.at 0 (by omega);rw[Nat.add_zero,show fJ first 0=hd by rw[hft];rfl]at cw;have hposF:(0:Int)<(first.length:Int):=by omega
 have HFT:=Za hft;clear hft;by_cases hin:hd=jP;rotate_left
 ·have HRES:=Za (show dZ all=none by rw[HAL.o];exact vA (fun h=>hin (by rw[HFT.o]at h;exact h.2.2)));have q3:(hd==[105,110,112,117,116])=false:=by rw[beq_eq_false_iff_ne];exact hin
  clear hin;have c0:=HA4.o.box.q 0 rfl;have f0:=HA4.o.box.free 0;have c1:=HA4.o.box.q 1 rfl;have f1:=HA4.o.box.free 1;have c2:=HA4.o.box.q 2 rfl;have f2:=HA4.o.box.free 2;go_wp2;have HZ:=Za (HA4.o.set3 HH.o (.slice none 0 0) (.slice none 0 0) (.int .i64 0));have d0:=HZ.o.box.cell 0 rfl;have d1:=HZ.o.box.cell 1 rfl;have d2:=HZ.o.box.cell 2 rfl;exact bodyPost_ret (v:=.tuple #[.agg #[.slice none 0 0,.slice none 0 0,.int .i64 0],.bool false]) (by simp[results,Tryz.results120,go_sem,d0,d1,d2]) rfl (j9 HRES.o HZ.o)
 have q3:(hd==[105,110,112,117,116])=true:=by rw[hin];rfl
 obtain⟨m,hm⟩:∃m,m=tl.length:=⟨_,rfl⟩;have HM:=Za hm;have hm1:first.length=m+1:=by rw[HFT.o,hm];rfl
 have HWF:=Za (show dZ all=match fW tl with
   |none=>none
   |some inp=>match dI 4 64 (all.drop 1)with
    |none=>none
    |some (l,_,rest2)=>lH inp l rest2 by
  conv=>lhs;rw[HAL.o,HFT.o]
  rw[dZ,if_pos ⟨by rw[←HFT.o];omega,by rw[←HFT.o];omega,hin⟩];rfl)
 have hcu1:¬cu=1:=by omega
 have HM1:=Za hm1;clear hin hm;rw[hm1]at cL hcu hfl;rw[hm1]at HL;have q1:decide ((m:Int)+1<2)=false:=decide_eq_false (by omega);have q2:decide ((4:Int)<(m:Int)+1)=false:=decide_eq_false (by omega);have hm4:m≤3:=by omega
 have hm0:1≤m:=by omega
 clear h2 h4 hm1;obtain⟨i0,hi,hz0,hz1,hz2⟩:=info_parts N9;go_wp2;go_loopw[55] (fun i wr=>∃(k:Nat) (nums:List Int) (u:Value),k≤m∧i=.int .i64 k∧Hid (∃a c,u=.slice a k c)∧nums.length=k∧Hid (eR w R (some ⟨b,off,none⟩) cap all 0 64 #[u,.slice none 0 0,.int .i64 0] wr)∧Hid (aH wr (w.heap.size+1) 3 .i64 u nums)∧Hid (fW tl=(fW (tl.drop k)).map (nums++·))) (fun i _=>m-(intOf i).toNat)
 case atStart=>exact⟨0,[],.slice none 0 0,Ze _,rfl,Za ⟨_,_,rfl⟩,rfl,HA4,Za ⟨rfl,.inl ⟨rfl,rfl⟩⟩,Za (by simp)⟩
 case round=>
  clear q1 q2 q3 cL cw r0;obtain⟨k,nums,u,hk,rfl,HU,hnl,HA,HO,HN⟩:=hrel;obtain⟨w5,rfl⟩:∃w5,w5=wr:=⟨_,rfl⟩;obtain⟨au,cu2,hu⟩:=HU.o;subst hu;have HNL:=Za hnl;clear hnl HU;by_cases hlt:k<m
  ·obtain⟨b5,o5,h5,cw5⟩:=(HL.o.movedB HA.o.low (Nat.lt_succ_self R)).here.2.at (1+k) (by rw[HM1.o];omega);cases h5;obtain⟨wd,hwd⟩:∃wd,wd=fJ tl k:=⟨_,rfl⟩;have hwe:fJ first (1+k)=wd:=by rw[hwd,HFT.o,fJ,fJ,Nat.add_comm];rfl
   have hwl:wd.length≤100000:=by
    have hkt:k<tl.length:=by rw[←HM.o];exact hlt
    refine HOKW.o.2 wd ?_;rw[hwd,HFT.o,oW tl k hkt];exact List.mem_cons_of_mem _ (List.getElem_mem hkt)
   rw[hwe,←Nat.add_assoc]at cw5;have hlti:(k:Int)<(m:Int):=by omega
   have HWD:=Za hwd;clear hwe hwd;cases hnm:dO wd 1 4096 with
   |none=>
    have HRES:=Za (show dZ all=none by rw[HWF.o,RS tl k nums (by rw[←HM.o];exact hlt) (by rw[←HWD.o];exact hnm) HN.o]);have HNM:=Za (fun w=>JJ (low:=1) (high:=4096) w hwl hnm);clear hnm;go_wp2_with(go_at_call 155;refine(HNM.o _).mono ?_;rintro e w' ⟨⟨mm,rfl⟩,rfl⟩;refine aD ?_);refine aC ?_;have c0:=HA.o.box.q 0 rfl;have f0:=HA.o.box.free 0;have c1:=HA.o.box.q 1 rfl;have f1:=HA.o.box.free 1;have c2:=HA.o.box.q 2 rfl;have f2:=HA.o.box.free 2;go_wp2;have HZ:=Za (HA.o.set3 HH.o (.slice none 0 0) (.slice none 0 0) (.int .i64 0));have d0:=HZ.o.box.cell 0 rfl;have d1:=HZ.o.box.cell 1 rfl;have d2:=HZ.o.box.cell 2 rfl;exact bodyPost_ret (v:=.tuple #[.agg #[.slice none 0 0,.slice none 0 0,.int .i64 0],.bool false]) (by simp[results,Tryz.results120,go_sem,d0,d1,d2]) rfl (j9 HRES.o HZ.o)
   |some x=>
    have HNM:=Za (fun w=>GO (low:=1) (high:=4096) w hwl hnm);have HN2:=Za (I0 tl k nums (by rw[←HM.o];exact hlt) (by rw[←HWD.o];exact hnm) HN.o);have hsz5:=HA.o.box.lt;have c0:=HA.o.box.q 0 rfl;have HO5:=Za (show w5.ownsRow (w.heap.size+1) 3 1 (.slice au k cu2) k (nums.map (.int .i64)) by simpa only[aH,HNL.o]using HO.o);clear hnm;go_wp2_with(first|(go_at_call 155;refine(HNM.o _).mono ?_;rintro e w' ⟨rfl,rfl⟩)|(at_builtin;refine wpList_append_own _ rfl _ _ 30 rfl (w.heap.size+1) 3 i0 (.int .i64 0) 1 8 Tryz.underlying30 hi hz0 hz1 hz2 rfl (by decide) _ _ _ rfl (HO5.o.alloc _) ⟨w5.heap.size,0,none⟩ 1 1 [.int .i64 x] rfl rfl (cell_one_new _ _ _) (by simp[Value.oneCell']) (by unfold maxLen;omega) (by omega) (by simp;omega) ?_;intro v7 w7 hown hgrow _;refine aD ?_));have HA7:=Za (HA.o.grown HH.o HO5.o hgrow);obtain⟨a7,k7,rfl⟩:=aJ hown;have HO7:=Za hown;have c7:=HA7.o.box.q 0 rfl;have f7:=HA7.o.box.free 0;clear hown hgrow c0;refine aC ?_;go_wp2;have HA8:=Za (HA7.o.set HH.o 0 (.slice a7 (k+1) k7));have HO8:=Za (QW (S:=w.heap.size) (j:=0) HO7.o (Nat.lt_succ_self _) (.slice a7 (k+1) k7));go_roundw
    case rel=>exact⟨k+1,nums++[x],.slice a7 (k+1) k7,by omega,by go_num,Za ⟨_,_,rfl⟩,by rw[Zl,HNL.o];rfl,HA8,Za (lL (by rw[HNL.o];exact HO8.o)),HN2⟩
    case measure=>simp[intOf];omega
  ·obtain rfl:k=m:=by omega
   have HNS:=Za (show fW tl=some nums by rw[HN.o,List.drop_eq_nil_of_le (by rw[←HM.o];exact Zb _)];simp[fW]);clear HN hlt;have r1:=HA.o.rd.box.q 1 rfl;have g1:=HA.o.rd.box.free 1;obtain⟨W6,hW6⟩:∃W6,W6=w5.setCell ⟨R,1,none⟩ (.int .i64 1):=⟨_,rfl⟩;have HA6:=Za (show eR w R (some ⟨b,off,none⟩) cap all 1 64 #[.slice au k cu2,.slice none 0 0,.int .i64 0] W6 by rw[hW6];exact HA.o.setAt HRL.o 1 (by omega));have HO6:=Za (show aH W6 (w.heap.size+1) 3 .i64 (.slice au k cu2) nums by rw[hW6];exact mV HO.o (nK _ _ _ _) (by have:=HRL.o;omega));have HW6:=Za hW6;have HB:=Za (show Calls Tryz.prog 156 #[.pointer (some ⟨R,0,none⟩),.int .i64 0] W6 (gH W6 R (some ⟨b,off,none⟩) cap all (dI 4 64 (all.drop 1)))from I6 4 R (some ⟨b,off,none⟩) cap all 1 64 0 W6 HA6.o.rd HOK.o rfl);have HCAP:=Za (DM HO6.o);clear hW6;cases hbp:dI 4 64 (all.drop 1)with
   |none=>
    have HRES:=Za (show dZ all=none by rw[HWF.o,HNS.o,hbp]);have HCC:=Za (A9 HB.o hbp);have c1:=HA.o.box.q 1 rfl;clear hbp;go_wp2_with(go_at_call 156;rw[←HW6.o];refine HCC.o.mono ?_;rintro e w7 ⟨rfl,hm7,at2,left2,hrd7⟩;refine aD ?_);have HA7:=Za (HA6.o.moved HRL.o hm7 hrd7);clear r1 g1 c1 hm7 hrd7;refine aC ?_;have c0:=HA7.o.box.q 0 rfl;have f0:=HA7.o.box.free 0;have c1:=HA7.o.box.q 1 rfl;have f1:=HA7.o.box.free 1;have c2:=HA7.o.box.q 2 rfl;have f2:=HA7.o.box.free 2;go_wp2;have HZ:=Za ((HA7.o.set HH.o 1 (.slice none 0 0)).set3 HH.o (.slice none 0 0) (.slice none 0 0) (.int .i64 0));have d0:=HZ.o.box.cell 0 rfl;have d1:=HZ.o.box.cell 1 rfl;have d2:=HZ.o.box.cell 2 rfl;exact bodyPost_ret (v:=.tuple #[.agg #[.slice none 0 0,.slice none 0 0,.int .i64 0],.bool false]) (by simp[results,Tryz.results120,go_sem,d0,d1,d2]) rfl (j9 HRES.o HZ.o)
   |some q=>
    obtain⟨ls,l2,r2⟩:=q;have HCC:=Za (yA HB.o hbp);have HBS:=Za (tH 4 _ _ _ hbp);have HWB:=Za (show dZ all=lH nums ls r2 by rw[HWF.o,HNS.o,hbp]);have c1:=HA.o.box.q 1 rfl;clear hbp HWF;go_wp2_with(go_at_call 156;rw[←HW6.o];refine HCC.o.mono ?_;rintro e w7 ⟨vb,rfl,hm7,⟨at2,hrd7,hr2⟩,hvb⟩;have HR2:=Za hr2;clear hr2;refine aD ?_);have HA7:=Za (HA6.o.moved HRL.o hm7 hrd7);have HO7:=Za (mV HO6.o hm7 (by have:=HRL.o;omega));obtain⟨ov,cv,rfl⟩:=hvb.here.len;have HV7:=Za hvb;have hn6:=HA6.o.box.lt;obtain⟨W8,hW8⟩:∃W8,W8=w7.setCell ⟨w.heap.size,1,none⟩ (.slice ov ls.length cv):=⟨_,rfl⟩;have HI8:=Za (show eT w R (some ⟨b,off,none⟩) cap all at2 l2 (.slice au k cu2) (.slice ov ls.length cv) nums ls 0 W8 by
     rw[hW8];exact⟨HA7.o.set HH.o 1 _,(aI.own (K:=.i64) HO7.o).set (Nat.lt_succ_self _) _,(HV7.o.base (by omega)).set (Nat.lt_succ_self _) _⟩)
    have HW8:=Za hW8;clear r1 g1 c1 hm7 hrd7 hvb hW8 HB HCC HW6;have c1:=HA7.o.box.q 1 rfl;have f1:=HA7.o.box.free 1;refine aC ?_;by_cases hlt2:at2<all.length;rotate_left
    ·have HRES:=Za (show dZ all=none by rw[HWB.o,←HR2.o,List.drop_eq_nil_of_le (by omega)];rfl);go_wp2_with(go_at_call 154;rw[←HW8.o];refine(nV HI8.o.here.rd hlen).mono ?_;rintro e w9 ⟨rfl,hsm⟩;rw[decide_eq_false hlt2];refine aD ?_);have HI9:=Za (HI8.o.next (hsm.below _));clear c1 f1 hsm;refine aC ?_;have c0:=HI9.o.here.box.q 0 rfl;have f0:=HI9.o.here.box.free 0;have c1:=HI9.o.here.box.q 1 rfl;have f1:=HI9.o.here.box.free 1;have c2:=HI9.o.here.box.q 2 rfl;have f2:=HI9.o.here.box.free 2;go_wp2;have HZ:=Za (HI9.o.here.set3 HH.o (.slice none 0 0) (.slice none 0 0) (.int .i64 0));have d0:=HZ.o.box.cell 0 rfl;have d1:=HZ.o.box.cell 1 rfl;have d2:=HZ.o.box.cell 2 rfl;exact bodyPost_ret (v:=.tuple #[.agg #[.slice none 0 0,.slice none 0 0,.int .i64 0],.bool false]) (by simp[results,Tryz.results120,go_sem,d0,d1,d2]) rfl (j9 HRES.o HZ.o)
    go_wp2_with(go_at_call 154;rw[←HW8.o];refine(nV HI8.o.here.rd hlen).mono ?_;rintro e w9 ⟨rfl,hsm⟩;rw[decide_eq_true hlt2];refine aD ?_);have HI9:=Za (HI8.o.next (hsm.below _));obtain⟨b2,off2,ou2,cuu,_,hob,hL2⟩:=HH.o.lineK at2 hlt2;cases hob;have HD2:=Za (show r2=all[at2]::all.drop (at2+1) by rw[←HR2.o];exact rW hlt2);have HOKW2:=Za (HOK.o.words _ (List.getElem_mem hlt2));obtain⟨ws2,hws2⟩:∃ws2,ws2=all[at2]:=⟨_,rfl⟩;rw[←hws2]at hL2 HD2 HOKW2;have HL2:=Za hL2;have HL9:=Za (HL2.o.movedB HI9.o.here.low (Nat.lt_succ_self R)).here;have cL2:w9.cell? ⟨b,off+at2,none⟩=some (.slice ou2 ws2.length cuu):=HL9.o.1;have r0:=HI9.o.here.rd.box.q 0 rfl;have r1:=HI9.o.here.rd.box.q 1 rfl;have hlt2i:(at2:Int)<(all.length:Int):=by omega
    have hwl2:=HOKW2.o.1;clear c1 f1 hsm hL2 hws2;refine aC ?_;go_wp2;go_quiet(fail);obtain⟨w10,hw10⟩:∃w10,w10=w9.drewN nq:=⟨_,rfl⟩;rw[←hw10];have HI10:=Za (show eT w R (some ⟨b,off,none⟩) cap all at2 l2 (.slice au k cu2) (.slice ov ls.length cv) nums ls 0 w10 from HI9.o.next (aN.below ⟨nq,hw10⟩ _));have HL10:=Za (HL2.o.movedB HI10.o.here.low (Nat.lt_succ_self R)).here;clear hw10 r0 r1 cL2;by_cases hl2:ws2.length=2;rotate_left
    ·have hq1:((ws2.length:Int)==2)=false:=by rw[beq_eq_false_iff_ne];omega
     have hq2:((ws2.length:Int) != 2)=true:=by rw[bne_iff_ne];omega
     have HRES:=Za (show dZ all=none by rw[HWB.o,HD2.o];exact zA (fun h=>hl2 h.1));clear hl2;have c0:=HI10.o.here.box.q 0 rfl;have f0:=HI10.o.here.box.free 0;have c1:=HI10.o.here.box.q 1 rfl;have f1:=HI10.o.here.box.free 1;have c2:=HI10.o.here.box.q 2 rfl;have f2:=HI10.o.here.box.free 2;go_wp2;have HZ:=Za (HI10.o.here.set3 HH.o (.slice none 0 0) (.slice none 0 0) (.int .i64 0));have d0:=HZ.o.box.cell 0 rfl;have d1:=HZ.o.box.cell 1 rfl;have d2:=HZ.o.box.cell 2 rfl;exact bodyPost_ret (v:=.tuple #[.agg #[.slice none 0 0,.slice none 0 0,.int .i64 0],.bool false]) (by simp[results,Tryz.results120,go_sem,d0,d1,d2]) rfl (j9 HRES.o HZ.o)
    obtain⟨x0,x1,hx⟩:=pN hl2;obtain⟨bw2,offw2,rfl,cx0⟩:=HL10.o.2.at 0 (by omega);rw[Nat.add_zero,show fJ ws2 0=x0 by rw[hx];rfl]at cx0;have HX:=Za hx;have hx1l:x1.length≤100000:=HOKW2.o.2 x1 (by rw[hx];simp);have HL2E:=Za hl2;clear hx;rw[hl2]at*;clear hl2;by_cases hx0:x0=eB;rotate_left
    ·have hq1:(x0==[108,111,115,115])=false:=by rw[beq_eq_false_iff_ne];exact hx0
     have HRES:=Za (show dZ all=none by rw[HWB.o,HD2.o];exact zA (fun h=>hx0 (by rw[HX.o]at h;exact h.2)));clear hx0;have c0:=HI10.o.here.box.q 0 rfl;have f0:=HI10.o.here.box.free 0;have c1:=HI10.o.here.box.q 1 rfl;have f1:=HI10.o.here.box.free 1;have c2:=HI10.o.here.box.q 2 rfl;have f2:=HI10.o.here.box.free 2;go_wp2;have HZ:=Za (HI10.o.here.set3 HH.o (.slice none 0 0) (.slice none 0 0) (.int .i64 0));have d0:=HZ.o.box.cell 0 rfl;have d1:=HZ.o.box.cell 1 rfl;have d2:=HZ.o.box.cell 2 rfl;exact bodyPost_ret (v:=.tuple #[.agg #[.slice none 0 0,.slice none 0 0,.int .i64 0],.bool false]) (by simp[results,Tryz.results120,go_sem,d0,d1,d2]) rfl (j9 HRES.o HZ.o)
    have hq1:(x0==[108,111,115,115])=true:=by rw[hx0];rfl
    have HX0:=Za hx0;clear hx0;go_wp2_with(go_at_call 102;refine(tJ _).mono ?_;rintro e w11 ⟨rfl,hw11⟩;have HW11:=Za hw11;clear hw11;refine aD ?_);have HI11:=Za (HI10.o.next (wB HW11.o));have HB11:=Za (show aA w11 w10.heap.size 9 #[.string ⟨#[]⟩,.string ⟨#[120,101,110,116]⟩,.string ⟨#[115,113,117,97,114,101]⟩] by rw[HW11.o];exact aA.new _ _ _);obtain⟨sB,hsB⟩:∃sB,sB=w10.heap.size:=⟨_,rfl⟩;have HSB:=Za (show w.heap.size<sB by rw[hsB];exact HI10.o.here.box.lt);rw[←hsB]at HB11 ⊢;clear hq1 cx0 hsB;refine aC ?_;go_wp2;go_loopw[117] (fun i wr=>∃q:Nat,q≤3∧i=.int .i64 q∧Hid (eT w R (some ⟨b,off,none⟩) cap all at2 l2 (.slice au k cu2) (.slice ov ls.length cv) nums ls (eN q x1) wr)∧Hid (aA wr sB 9 #[.string ⟨#[]⟩,.string ⟨#[120,101,110,116]⟩,.string ⟨#[115,113,117,97,114,101]⟩])) (fun i _=>3-(intOf i).toNat)
    case atStart=>exact⟨0,Ze _,rfl,HI11,HB11⟩
    case round=>
     obtain⟨q,hq,rfl,HI,HBS2⟩:=hrel;obtain⟨w12,rfl⟩:∃w12,w12=wr:=⟨_,rfl⟩;have hsbn:w.heap.size≠sB:=by have:=HSB.o;omega
     by_cases hq3:q<3
     ·have hl01:eN 0 x1=0:=by rw[eN,if_neg (by omega),if_neg (by omega)]
      have hl11:eN 1 x1=0:=by rw[eN,if_neg (by omega),if_neg (by omega)]
      have HL12:=Za (HL2.o.movedB HI.o.here.low (Nat.lt_succ_self R)).here;obtain⟨b9,o9,h9,cx1⟩:=HL12.o.2.at 1 (by rw[HX.o];simp);cases h9;rw[show fJ ws2 1=x1 by rw[HX.o];rfl]at cx1;have HH01:=Za hl01;have HH11:=Za hl11;clear hl01 hl11;obtain rfl|rfl|rfl:q=0∨q=1∨q=2:=by omega
      ·have s0:=HBS2.o.q 0 rfl;go_wp2;go_roundw
       case rel=>exact⟨1,by omega,rfl,Za (by have:=HI.o;rw[HH01.o,←HH11.o]at this;exact this),HBS2⟩
       case measure=>simp[intOf]
      ·have s1:=HBS2.o.q 1 rfl;have HI1:=Za (show eT w R (some ⟨b,off,none⟩) cap all at2 l2 (.slice au k cu2) (.slice ov ls.length cv) nums ls 0 w12 by have:=HI.o;rw[HH11.o]at this;exact this);have c2:=HI1.o.here.box.q 2 rfl;have f2:=HI1.o.here.box.free 2;by_cases hxe:x1=eX 1
       ·have he:(([120,101,110,116]:List UInt8)==x1)=true:=by rw[hxe];rfl
        have HLA:=Za (show eN 2 x1=1 by rw[eN,if_pos ⟨by omega,hxe⟩]);clear hxe;go_wp2;go_roundw
        case rel=>exact⟨2,by omega,rfl,Za (by rw[HLA.o];exact HI1.o.loss HH.o 1),Za (HBS2.o.other hsbn _)⟩
        case measure=>simp[intOf]
       ·have he:(([120,101,110,116]:List UInt8)==x1)=false:=by rw[beq_eq_false_iff_ne];exact fun h=>hxe h.symm
        have HLA:=Za (show eN 2 x1=0 by rw[eN,if_neg (fun h=>hxe h.2),if_neg (by omega)]);clear hxe;go_wp2;go_roundw
        case rel=>exact⟨2,by omega,rfl,Za (by rw[HLA.o];exact HI1.o),HBS2⟩
        case measure=>simp[intOf]
      ·have s2:=HBS2.o.q 2 rfl;obtain⟨lv,hlv⟩:∃lv,lv=eN 2 x1:=⟨_,rfl⟩;have HI1:=Za (show eT w R (some ⟨b,off,none⟩) cap all at2 l2 (.slice au k cu2) (.slice ov ls.length cv) nums ls lv w12 by rw[hlv];exact HI.o);have c2:=HI1.o.here.box.q 2 rfl;have f2:=HI1.o.here.box.free 2;by_cases hxe:x1=eX 2
       ·have he:(([115,113,117,97,114,101]:List UInt8)==x1)=true:=by rw[hxe];rfl
        have HLA:=Za (show eN 3 x1=2 by rw[eN,if_neg (fun h=>by rw[hxe]at h;exact absurd h.2 (by decide)),if_pos ⟨by omega,hxe⟩]);clear hxe hlv;go_wp2;go_roundw
        case rel=>exact⟨3,by omega,rfl,Za (by rw[HLA.o];exact HI1.o.loss HH.o 2),Za (HBS2.o.other hsbn _)⟩
        case measure=>simp[intOf]
       ·have he:(([115,113,117,97,114,101]:List UInt8)==x1)=false:=by rw[beq_eq_false_iff_ne];exact fun h=>hxe h.symm
        have HLA:=Za (show eN 3 x1=lv by
         rw[hlv,eN,eN];by_cases h1:x1=eX 1
         ·rw[if_pos ⟨by omega,h1⟩,if_pos ⟨by omega,h1⟩]
         ·rw[if_neg (fun h=>h1 h.2),if_neg (fun h=>hxe h.2),if_neg (fun h=>h1 h.2),if_neg (fun h=>hxe h.2)])
        clear hxe hlv;go_wp2;go_roundw
        case rel=>exact⟨3,by omega,rfl,Za (by rw[HLA.o];exact HI1.o),HBS2⟩
        case measure=>simp[intOf]
     ·obtain rfl:q=3:=by omega
      obtain⟨lv,hlv⟩:∃lv,lv=eN 3 x1:=⟨_,rfl⟩;have HI1:=Za (show eT w R (some ⟨b,off,none⟩) cap all at2 l2 (.slice au k cu2) (.slice ov ls.length cv) nums ls lv w12 by rw[hlv];exact HI.o);have HLV:=Za hlv;have c2:=HI1.o.here.box.q 2 rfl;clear hlv HI HI8 HI9 HI10 HI11;by_cases hz:lv=0
      ·have hze:(lv==0)=true:=by rw[hz];rfl
       have HRES:=Za (show dZ all=none by rw[HWB.o,HD2.o,HX.o];exact JG (S2 (by rw[←HLV.o];exact hz)));clear c2 hz;have c0:=HI1.o.here.box.q 0 rfl;have f0:=HI1.o.here.box.free 0;have c1:=HI1.o.here.box.q 1 rfl;have f1:=HI1.o.here.box.free 1;have c2:=HI1.o.here.box.q 2 rfl;have f2:=HI1.o.here.box.free 2;go_wp2;have HZ:=Za (HI1.o.here.set3 HH.o (.slice none 0 0) (.slice none 0 0) (.int .i64 0));have d0:=HZ.o.box.cell 0 rfl;have d1:=HZ.o.box.cell 1 rfl;have d2:=HZ.o.box.cell 2 rfl;exact bodyPost_ret (v:=.tuple #[.agg #[.slice none 0 0,.slice none 0 0,.int .i64 0],.bool false]) (by simp[results,Tryz.results120,go_sem,d0,d1,d2]) rfl (j9 HRES.o HZ.o)
      have hze:(lv==0)=false:=by rw[beq_eq_false_iff_ne];exact hz
      have HLS:=Za (show kF x1=some lv by rw[HLV.o];exact RX (by rw[←HLV.o];exact hz));have r1:=HI1.o.here.rd.box.q 1 rfl;have g1:=HI1.o.here.rd.box.free 1;obtain⟨W13,hW13⟩:∃W13,W13=w12.setCell ⟨R,1,none⟩ (.int .i64 ((at2:Int)+1)):=⟨_,rfl⟩;have HI13:=Za (show eT w R (some ⟨b,off,none⟩) cap all (at2+1) l2 (.slice au k cu2) (.slice ov ls.length cv) nums ls lv W13 by rw[hW13];exact HI1.o.setAt HRL.o (at2+1) hlt2);have HW13:=Za hW13;clear hz hW13;go_upto_region 28 with(fail);rw[←HW13.o];clear c2 r1 g1 hze;have e0:=HI13.o.here.box.q 0 rfl;have e1:=HI13.o.here.box.q 1 rfl;have e2:=HI13.o.here.box.q 2 rfl;have g0:=HI13.o.here.box.free 0;have g1:=HI13.o.here.box.free 1;have g2:=HI13.o.here.box.free 2;have HIA:=Za (HI13.o.next (Below.drew (Zc _ _)));have HIB:=Za ((HI13.o.next (Below.drew (Zc _ _))).set3 HH.o);obtain⟨mb,hmb⟩:∃mb,mb=decide (at2+1<all.length):=⟨_,rfl⟩;have HMB:=Za hmb;have HFIN:=Za (show ∀W,eT w R (some ⟨b,off,none⟩) cap all (at2+1) l2 (.slice au k cu2) (.slice ov ls.length cv) nums ls lv W→pW w R (some ⟨b,off,none⟩) cap all (dZ all) (.returned (.tuple #[.agg #[.slice au k cu2,.slice ov ls.length cv,.int .i64 lv],.bool (!mb)])) W from fun W hI=>by
       cases hm:mb with
       |true=>
        refine j9 ?_ hI.here;rw[hmb,decide_eq_true_eq]at hm;rw[HWB.o,HD2.o];refine J3 (fun e=>?_);have:=congrArg List.length e;rw[List.length_drop,List.length_nil]at this;omega
       |false=>
        rw[hmb,decide_eq_false_iff_not]at hm;refine⟨hI.here.low,_,_,hI.here.rd,?_⟩;rw[HWB.o,HD2.o,List.drop_eq_nil_of_le (by omega),HX.o,HX0.o,O6 HLS.o];refine⟨_,_,rfl,HCAP.o,((hI.hu.and hI.hv).base (Nat.le_succ _)).imp fun W hW=>⟨hW.1,hW.2,?_,?_⟩⟩
        ·have:=HNL.o;simp only;omega
        ·have:=HBS.o.2;simp only at this ⊢;omega)
      clear hmb;go_region_with(first|(go_at_call 154;(with_reducible refine(qW HIA.o.here.rd hlen HMB.o.symm).mono ?_);rintro e w15 ⟨rfl,hsm⟩;have HIC:=Za (EK HIA.o hsm);clear hsm;have e0':=HIC.o.here.box.q 0 rfl;have g0':=HIC.o.here.box.free 0;have e1':=HIC.o.here.box.q 1 rfl;have g1':=HIC.o.here.box.free 1;have e2':=HIC.o.here.box.q 2 rfl;have g2':=HIC.o.here.box.free 2)|(go_at_call 154;(with_reducible refine(qW HIB.o.here.rd hlen HMB.o.symm).mono ?_);rintro e w15 ⟨rfl,hsm⟩;have HIC:=Za (EK HIB.o hsm);clear hsm;have e0':=HIC.o.here.box.q 0 rfl;have g0':=HIC.o.here.box.free 0;have e1':=HIC.o.here.box.q 1 rfl;have g1':=HIC.o.here.box.free 1;have e2':=HIC.o.here.box.q 2 rfl;have g2':=HIC.o.here.box.free 2))
      all_goals
       clear e0 e1 e2 g0 g1 g2;go_wp2
       first
       |(have HZ:=Za (HIC.o.set3 HH.o);have d0:=HZ.o.here.box.cell 0 rfl;have d1:=HZ.o.here.box.cell 1 rfl;have d2:=HZ.o.here.box.cell 2 rfl;exact bodyPost_ret (v:=.tuple #[.agg #[.slice au k cu2,.slice ov ls.length cv,.int .i64 lv],.bool (!mb)]) (by simp[results,Tryz.results120,go_sem,d0,d1,d2]) rfl (HFIN.o _ HZ.o))
       |(have HZ:=Za (HIC.o);have d0:=HZ.o.here.box.cell 0 rfl;have d1:=HZ.o.here.box.cell 1 rfl;have d2:=HZ.o.here.box.cell 2 rfl;exact bodyPost_ret (v:=.tuple #[.agg #[.slice au k cu2,.slice ov ls.length cv,.int .i64 lv],.bool (!mb)]) (by simp[results,Tryz.results120,go_sem,d0,d1,d2]) rfl (HFIN.o _ HZ.o))
end Go.Proofs.YtjhkdocidcfpdaaGreatDoor
