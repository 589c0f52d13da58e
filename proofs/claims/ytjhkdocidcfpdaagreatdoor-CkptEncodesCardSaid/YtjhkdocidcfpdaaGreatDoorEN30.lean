/- A part of the proof. -/
import Derived.Test.YtjhkdocidcfpdaaGreatDoorEN29
import Derived.Test.YtjhkdocidcfpdaaGreatDoorEN26
set_option linter.unusedVariables false
set_option linter.unusedSimpArgs false
set_option maxRecDepth 100000
set_option maxHeartbeats 16000000
open List renaming length_append → Zl
namespace Go.Proofs.YtjhkdocidcfpdaaGreatDoor
open Go.RowKit Go.Shelf Go
theorem CF {w:World} {o:Option Addr}:∀(ls:List aB) (i:Nat),(∀(j:Nat) (hj:j<ls.length),fR w o (i+j) ls[j])->cS w o i ls
 |[],i,_=>by rw[cS];trivial
 |l::r,i,h=>by
  rw[cS];refine⟨h 0 (by simp),CF r (i+1) fun j hj=>?_⟩;have:=h (j+1) (by simpa using hj)
  rwa [show i+(j+1)=i+1+j by omega]at this
theorem O4:(Tryz.prog.info? 175).map (fun i=>(i.zero,i.size,i.bytes))=some (some (.agg #[.int .i64 0,.int .i64 0,.int .i64 0,.int .i64 0,.int .i64 0,.int .i64 0,.int .i64 0,.int .i64 0,.slice none 0 0]),9,88):=by kernel_rfl
def sG (B:Nat) (w:World) (v:Value) (all:aV):Prop:=∃o cap,v=.slice o all.length cap/\∀k (hk:k<all.length),∃b off u,o=some ⟨b,off,none⟩/\B<=b/\w.cell? ⟨b,off+k,none⟩=some u/\(∀o n c,u=.slice o n c->n<=c)/\fQ w u all[k]
theorem sG.at {B:Nat} {w:World} {o:Option Addr} {n cap:Nat} {all:aV} (h:sG B w (.slice o n cap) all) (k:Nat) (hk:k<all.length):∃b off u,o=some ⟨b,off,none⟩/\B<=b/\w.cell? ⟨b,off+k,none⟩=some u/\(∀o n c,u=.slice o n c->n<=c)/\fQ w u all[k]:=by obtain⟨o',cap',he,h⟩:=h;injection he with h1 h2 h3;subst h1;exact h k hk
structure LOk (all:aV):Prop where
 len:all.length<=100000
 words:∀ws∈all,ws.length<=1000000/\∀x∈ws,x.length<=100000
structure cB (w:World) (R:Nat) (o:Option Addr) (cap:Nat) (all:aV) (at_ left:Nat):Prop where
 box:aA w R 191 #[.slice o all.length cap,.int .i64 at_,.int .i64 left]
 rows:aI (aL (R+1) w) w fun W=>sG (R+1) W (.slice o all.length cap) all
 le:at_<=all.length
 lt:left<=64
theorem cB.next {w w':World} {R:Nat} {o:Option Addr} {cap:Nat} {all:aV} {at_ left:Nat} (h:cB w R o cap all at_ left) (hb:Below w.heap.size w w'):cB w' R o cap all at_ left:=⟨h.box.next hb,h.rows.grow hb,h.le,h.lt⟩
theorem cB.same {w w':World} {R:Nat} {o:Option Addr} {cap:Nat} {all:aV} {at_ left:Nat} (h:cB w R o cap all at_ left) (hs:aN w w'):cB w' R o cap all at_ left:=h.next (hs.below _)
theorem cB.setAt {w:World} {R:Nat} {o:Option Addr} {cap:Nat} {all:aV} {at_ left:Nat} (h:cB w R o cap all at_ left) (k:Nat) (hk:k<=all.length):cB (w.setCell ⟨R,1,none⟩ (.int .i64 k)) R o cap all k left:=
 ⟨h.box.set 1 (.int .i64 k),h.rows.set (Nat.lt_succ_self _) _,hk,h.lt⟩
theorem cB.setLeft {w:World} {R:Nat} {o:Option Addr} {cap:Nat} {all:aV} {at_ left:Nat} (h:cB w R o cap all at_ left) (k:Nat) (hk:k<=64):cB (w.setCell ⟨R,2,none⟩ (.int .i64 k)) R o cap all at_ k:=
 ⟨h.box.set 2 (.int .i64 k),h.rows.set (Nat.lt_succ_self _) _,h.le,hk⟩
theorem oH (w:World) (R j:Nat) (v:Value):bB w (w.setCell ⟨R,j,none⟩ v) R:=
 ⟨rfl,rfl,rfl,by simp[World.setCell],fun k _ hk=>Below.heap_setCell _ _ _ _ (fun e=>hk (by simp at e;rw[e]))⟩
theorem aN.moved {w w':World} {R:Nat} (h:aN w w'):bB w w' R:=gO (h.below _)
theorem cB.line {w:World} {R:Nat} {o:Option Addr} {cap:Nat} {all:aV} {at_ left:Nat} (h:cB w R o cap all at_ left) (hk:at_<all.length):∃b off ou cu,(all[at_]).length<=cu/\o=some ⟨b,off,none⟩/\w.cell? ⟨b,off+at_,none⟩=some (.slice ou (all[at_]).length cu)/\aI (aL (R+1) w) w fun W=>fQ W (.slice ou (all[at_]).length cu) all[at_]:=by obtain⟨b,off,u,ho,A,hc,B,hw⟩:=h.rows.here.at at_ hk;obtain⟨ou,cu,rfl⟩:=hw.slice;refine⟨b,off,ou,cu,B _ _ _ rfl,ho,hc,fun W hW=>?_⟩;obtain⟨b',off',u',ho',_,hc',_,hw'⟩:=(h.rows W hW).at at_ hk;rw[ho]at ho';cases ho';obtain⟨ou',cu',rfl⟩:=hw'.slice;have C:W.heap[b]?=w.heap[b]?:=hW b ⟨A,aP hc⟩;have:W.cell? ⟨b,off+at_,none⟩=w.cell? ⟨b,off+at_,none⟩:=World.cell?_of_block (w:=w) (a:=⟨b,off+at_,none⟩) C;rw[this,hc]at hc';cases hc';exact hw'
theorem oB {R:Nat} {o:Option Addr} {cap:Nat} {all:aV} {at_ left:Nat} {w:World} (h:cB w R o cap all at_ left) (hl:all.length<=100000):
  Calls Tryz.prog 154 #[.pointer (some ⟨R,0,none⟩)] w fun e w'=>e=.returned (.bool (decide (at_<all.length)))/\aN w w':=by have c0:=h.box.q 0 rfl;have c1:=h.box.q 1 rfl;clear h;go_enter Tryz.func154,Tryz.ntmps154;go_wp2;go_quiet(fail);go_wp2;go_ret;exact⟨aG (by simp),⟨_,rfl⟩⟩
theorem fM.put {B:Nat} {e:TypeId} {sz:Nat} {w1 w2:World} {v v':Value} {css:List (List Value)} {cs:List Value} {P Q:World->Prop} {o:Obj} (h:fM B e sz w1 v css P) (hB:B<=w1.heap.size) (hq:aI (fun k=>aL B w1 k/\v.ownBlock≠some k) w1 Q)
  (C:w2.ownsRow B e sz v' (css.length+1) (css.flatten++cs)) (hg:(w1.alloc o).grownBy w2 v.ownBlock) (D:v'.ownBlock=v.ownBlock\/v'.ownBlock=some (w1.alloc o).heap.size):fM B e sz w2 v' (css++[cs]) fun W=>P W/\Q W:=by
 have E:∀k,k<w1.heap.size->v.ownBlock≠some k->w2.heap[k]?=w1.heap[k]?:=fun k A F=>(hg.block k (by simp;omega) (fun e=>F e.symm)).trans (Below.heap_alloc w1 o k A);have hs:w1.heap.size<=w2.heap.size:=by have:=hg.size;simp at this;omega
 refine⟨by simpa using C,?_⟩;refine((h.all.and hq).step fun k A=>E k A.1.2 A.2).mono fun k A=>⟨⟨A.1.1,by have:=A.1.2;omega⟩,?_⟩;rcases D with e1|e1
 ·rw[e1];exact A.2
 ·rw[e1];intro e2;simp at e2;have:=A.1.2;omega
structure gM (w0:World) (R:Nat) (ls:List aB) (v:Value) (w:World) (css:List (List Value)):Prop where
 low:bB w0 w R
 len:css.length=ls.length
 rows:fM w0.heap.size 175 9 w v css (fun W=>∀(j:Nat) (hl:j<ls.length),∃u,css[j]?=some (ls[j].n.cells u)/\lZ W u ls[j].body)
theorem gM.start (w:World) (R:Nat):gM w R [] (.slice none 0 0) w []:=⟨bB.refl _ _,rfl,fM.nil _ _ _ _ (fun W j hj=>absurd hj (Nat.not_lt_zero j))⟩
theorem gM.row {w0 w:World} {R:Nat} {ls:List aB} {v:Value} {css:List (List Value)} (h:gM w0 R ls v w css):w.ownsRow w0.heap.size 175 9 v ls.length css.flatten:=by
 have:=h.rows.row
 rwa [h.len]at this
theorem gP {w w':World} {R k:Nat} (h:bB w w' R) (hk:k<w.heap.size) (hR:k≠R):w'.heap[k]?=w.heap[k]?:=h.block k hk (fun e=>hR (by cases e;rfl))
theorem gM.next {w0 w w1:World} {R:Nat} {ls:List aB} {v:Value} {css:List (List Value)} (h:gM w0 R ls v w css) (hm:bB w w1 R) (hR:R<w0.heap.size):gM w0 R ls v w1 css:=
 ⟨h.low.trans hm,h.len,nM h.rows.row hm hR,(h.rows.all.step fun k A=>gP hm A.1.2 (by have:=A.1.1;omega)).mono fun k A=>⟨⟨A.1.1,Nat.lt_of_lt_of_le A.1.2 hm.size⟩,A.2⟩⟩
theorem gM.snoc {w0 w1 w2:World} {R:Nat} {ls:List aB} {v v' u:Value} {l:aB} {o:Obj} {css:List (List Value)} (h:gM w0 R ls v w1 css) (hR:R<w0.heap.size) (hs:aI (fun k=>aL w0.heap.size w1 k/\v.ownBlock≠some k) w1 fun W=>lZ W u l.body)
  (A:w2.ownsRow w0.heap.size 175 9 v' (ls.length+1) (css.flatten++l.n.cells u)) (C:(w1.alloc o).grownBy w2 v.ownBlock) (D:v'.ownBlock=v.ownBlock\/v'.ownBlock=some (w1.alloc o).heap.size):gM w0 R (ls++[l]) v' w2 (css++[l.n.cells u]):=by
 have hl:=h.len;have hr:=h.rows;have B:=h.low;rw[<-hl]at A;have h3:=hr.put B.size hs A C D;refine⟨?_,by simp[hl],h3.row,h3.all.imp fun W hW j hj=>?_⟩
 ·have F:bB w1 w2 R\/True:=.inr trivial;refine⟨C.os.trans B.os,C.tape.trans B.tape,C.output.trans B.output,by have:=C.size;have:=B.size;simp at*;omega,fun k hk E=>?_⟩;refine((C.block k (by have:=B.size;simp;omega) (fun e=>?_)).trans (Below.heap_alloc w1 o k (by have:=B.size;omega))).trans (B.block k hk E);have:=(hr.row.lt k e.symm).1;omega
 ·rw[Zl,List.length_singleton]at hj;by_cases e:j<ls.length
  ·have:=hW.1 j e;rw[List.getElem?_append_left (by omega),List.getElem_append_left e];exact this
  ·obtain rfl:j=ls.length:=by omega
   refine⟨u,?_,?_⟩
   ·rw[List.getElem?_append_right (by omega),hl];simp
   ·simpa using hW.2
theorem gM.fin {w0 w:World} {R:Nat} {ls:List aB} {v:Value} {css:List (List Value)} (hn:ls.length<=1000000) (E:∀l∈ls,l.body.length<=140737488351232) (h:gM w0 R ls v w css):aI (aL w0.heap.size w) w (fun W=>lZ W v ls):=by
 have G:=h.len;refine((h.rows.fin.and (aI.mono (fun W D=>bY (mW h.rows.row fun g hg=>D g (h.rows.row.lt g hg)) (Ze _):aI (aL w0.heap.size w) w fun W=>W.ownsRow 0 175 9 v css.length css.flatten) fun k hk=>hk))).imp fun W B=>⟨?_,TV B.2 (by omega) fun j hj=>by
  obtain⟨u,A,h2⟩:=B.1.2 j (by omega);exact⟨_,u,A,h2.2⟩⟩
 have D:=B.1;obtain⟨o,cap,hv,_⟩:=jK D.1;subst hv;rw[G];have h9:∀c∈css,c.length=9:=fun c hm=>by
  obtain⟨k,hk,rfl⟩:=List.getElem_of_mem hm;obtain⟨u,A,_⟩:=D.2 k (by omega);rw[List.getElem?_eq_getElem hk]at A;simp only[Option.some.injEq]at A;rw[A,aE.cells_len]
 refine⟨o,cap,rfl,CF ls 0 fun j hj=>?_⟩;obtain⟨u,A,h2,_⟩:=D.2 j hj;obtain⟨ou,cu,rfl⟩:=h2.len;have F:j<css.length:=by omega
 rw[List.getElem?_eq_getElem F]at A;simp only[Option.some.injEq]at A;obtain⟨b,hb,C⟩:=yS D.1 h9 j F;rw[Nat.zero_add,aB.eta ls[j],fR];obtain⟨ou',cu',he,H⟩:=h2;injection he with I L J;subst I J;exact⟨b,0,ou,cu,hb,E _ (List.getElem_mem hj),fun i x hx=>by rw[Nat.zero_add];exact C i x (by rw[A];exact hx),H⟩
def gY (w:World) (R:Nat) (o:Option Addr) (cap:Nat) (all:aV) (res:Option (List aB×Nat×aV)) (e:Ending) (w':World):Prop:=
 bB w w' R/\∃at2 left2,cB w' R o cap all at2 left2/\match res with
 |none=>e=.returned (.tuple #[.slice none 0 0,.bool false])
 |some (ls,l2,rest2)=>left2=l2/\all.drop at2=rest2/\∃v,e=.returned (.tuple #[v,.bool true])/\aI (aL w.heap.size w') w' (fun W=>lZ W v ls)
def wJ (d:Nat):Prop:=∀(R:Nat) (o:Option Addr) (cap:Nat) (all:aV) (at_ left deep:Nat) (w:World),cB w R o cap all at_ left->LOk all->deep+d=4->
 Calls Tryz.prog 156 #[.pointer (some ⟨R,0,none⟩),.int .i64 deep] w (gY w R o cap all (dU d left (all.drop at_)))
theorem sF {all:aV} {k:Nat} (h:k<all.length):all.drop k=all[k]::all.drop (k+1):=List.drop_eq_getElem_cons h
theorem gY.no {w w':World} {R:Nat} {o:Option Addr} {cap:Nat} {all:aV} {res:Option (List aB×Nat×aV)} {at2 left2:Nat} (A:res=none) (hm:bB w w' R) (hr:cB w' R o cap all at2 left2):gY w R o cap all res (.returned (.tuple #[.slice none 0 0,.bool false])) w':=
 ⟨hm,at2,left2,hr,by rw[A]⟩
theorem gY.yes {w w':World} {R:Nat} {o:Option Addr} {cap:Nat} {all:aV} {res:Option (List aB×Nat×aV)} {at2 left2:Nat} {ls:List aB} {v:Value} (A:res=some (ls,left2,all.drop at2)) (hm:bB w w' R) (hr:cB w' R o cap all at2 left2) (hv:aI (aL w.heap.size w') w' (fun W=>lZ W v ls)):gY w R o cap all res (.returned (.tuple #[v,.bool true])) w':=
 ⟨hm,at2,left2,hr,by rw[A];exact⟨rfl,rfl,v,rfl,hv⟩⟩
theorem aI.movedB {B R:Nat} {w w':World} {P:World->Prop} (h:aI (aL B w) w P) (hm:bB w w' R) (hR:R<B):aI (aL B w') w' P:=
 (h.step fun k hk=>gP hm hk.2 (by have:=hk.1;omega)).mono fun k hk=>⟨hk.1,Nat.lt_of_lt_of_le hk.2 hm.size⟩
theorem tA {R:Nat} {o:Option Addr} {cap:Nat} {all:aV} {at_ left:Nat} {w:World} (h:cB w R o cap all at_ left) (hl:all.length<=100000) {b:Bool} (hb:decide (at_<all.length)=b):
  Calls Tryz.prog 154 #[.pointer (some ⟨R,0,none⟩)] w fun e w'=>e=.returned (.bool b)/\∃m,w'=w.drewN m:=(oB h hl).mono fun e w' ⟨he,hs⟩=>⟨by rw[he,hb],hs⟩
theorem DU {v:Value} {ws:List (List UInt8)} {x:List UInt8} {w:World} (h:fQ w v ws) (hl:ws.length<=1000000) {b:Bool} (hb:decide (ws=[x])=b):
  Calls Tryz.prog 179 #[v,.string ⟨x.toArray⟩] w fun e w'=>e=.returned (.bool b)/\∃m,w'=w.drewN m:=(pX v ws x w h hl).mono fun e w' ⟨he,hs⟩=>⟨by rw[he,hb],0,hs.symm⟩
theorem KK (p v:Value) (ws:List (List UInt8)) (w:World) (h:fQ w v ws) (h0:0<ws.length) (hl:ws.length<=1000000) (hw:∀x∈ws,x.length<=100000) (hn:eH ws=none):
  Calls Tryz.prog 180 #[p,v] w fun e w'=>e=.returned (.tuple #[.agg #[.int .i64 0,.int .i64 0,.int .i64 0,.int .i64 0,.int .i64 0,.int .i64 0,.int .i64 0,.int .i64 0,.slice none 0 0],.bool false])/\Below w.heap.size w w':=
 (zF p v ws w h h0 hl hw).mono fun e w' ⟨hb,he⟩=>⟨by rw[he,hn];rfl,hb⟩
theorem QE (p v:Value) (ws:List (List UInt8)) (n:aE) (w:World) (h:fQ w v ws) (h0:0<ws.length) (hl:ws.length<=1000000) (hw:∀x∈ws,x.length<=100000) (hn:eH ws=some n):
  Calls Tryz.prog 180 #[p,v] w fun e w'=>e=.returned (.tuple #[.agg #[.int .i64 n.kind,.int .i64 n.inn,.int .i64 n.o,.int .i64 n.size,.int .i64 n.stride,.int .i64 n.pad,.int .i64 n.percent,.int .i64 n.heads,.slice none 0 0],.bool true])/\Below w.heap.size w w':=
 (zF p v ws w h h0 hl hw).mono fun e w' ⟨hb,he⟩=>⟨by rw[he,hn];rfl,hb⟩
theorem AR {w:World} {R:Nat} {o:Option Addr} {cap:Nat} {all:aV} {args:Array Value} {res:Option (List aB×Nat×aV)} (h:Calls Tryz.prog 156 args w (gY w R o cap all res)) (hn:res=none):
  Calls Tryz.prog 156 args w fun e w'=>e=.returned (.tuple #[.slice none 0 0,.bool false])/\bB w w' R/\∃at2 left2,cB w' R o cap all at2 left2:=
 h.mono fun e w' ⟨hm,at2,left2,hr,ho⟩=>⟨by rw[hn]at ho;exact ho,hm,at2,left2,hr⟩
theorem FC {w:World} {R:Nat} {o:Option Addr} {cap:Nat} {all:aV} {args:Array Value} {res:Option (List aB×Nat×aV)} {ls:List aB} {l2:Nat} {r2:aV} (h:Calls Tryz.prog 156 args w (gY w R o cap all res)) (hn:res=some (ls,l2,r2)):
  Calls Tryz.prog 156 args w fun e w'=>∃vb,e=.returned (.tuple #[vb,.bool true])/\bB w w' R/\(∃at2,cB w' R o cap all at2 l2/\all.drop at2=r2)/\aI (aL w.heap.size w') w' (fun W=>lZ W vb ls):=
 h.mono fun e w' ⟨hm,at2,left2,hr,ho⟩=>by
  rw[hn]at ho;obtain⟨rfl,h2,vb,he,hv⟩:=ho;exact⟨vb,he,hm,⟨at2,hr,h2⟩,hv⟩
theorem aA.grownBy {w1 w2:World} {g:Nat} {T:TypeId} {cs:Array Value} {row:Option Nat} (h:aA w1 g T cs) (hg:w1.grownBy w2 row) (A:∀k,row=some k->k≠g):aA w2 g T cs:=
 (hg.block g h.lt (fun e=>A g e.symm rfl)).trans h
theorem cB.back {w w':World} {R:Nat} {o:Option Addr} {cap:Nat} {all:aV} {at_ left at2 left2:Nat} (h:cB w R o cap all at_ left) (hm:bB w w' R) (hb:aA w' R 191 #[.slice o all.length cap,.int .i64 at2,.int .i64 left2]) (h1:at2<=all.length) (h2:left2<=64):cB w' R o cap all at2 left2:=
 ⟨hb,h.rows.movedB hm (Nat.lt_succ_self R),h1,h2⟩
theorem BR {d left:Nat} {res:Option (List aB×Nat×aV)} {rest:aV} {done:List aB} {l:aB} {X:Option (List aB×Nat×aV)} (h:res=(dL d left rest).map (fun q=>(done++q.1,q.2))) (hx:dL d left rest=X.map fun q=>(l::q.1,q.2)):
  res=X.map (fun q=>((done++[l])++q.1,q.2)):=by
 rw[h,hx,Option.map_map]
 congr 1
 funext q
 simp
theorem zA (d:Nat) (cp:∀d',d=d'+1->wJ d'):wJ d:=by
 intro R o cap all at_ left deep w h bz N;have cq:=Za cp;have ca:=Za bz;have B:=Za h.box.lt;have HH:=Za h;have ai:=bz.len;obtain⟨i0,hi,cr,cs,ct⟩:=info_parts O4;clear h bz cp;go_enter Tryz.func156,Tryz.ntmps156;go_wp2;go_step3;go_wp2;go_step3;go_wp2;go_loopg[4] (all.length-at_) (fun g v wr=>∃(at1 left1:Nat) (done:List aB),g=all.length-at1/\cB wr R o cap all at1 left1/\Hid (∃css,gM w R done v wr css)/\Hid (∃a c,v=.slice a done.length c)/\Hid (dU d left (all.drop at_)=(dL d left1 (all.drop at1)).map (fun q=>(done++q.1,q.2)))/\done.length+left1<=64/\Hid (∀l∈done,l.body.length<=64))
 case atStart=>exact⟨at_,left,[],rfl,HH.o,Za ⟨_,gM.start w R⟩,Za ⟨none,0,rfl⟩,Za (by rw[JY];simp),by have:=HH.o.lt;simp;omega,Za (fun l V=>by cases V)⟩
 case round=>
  obtain⟨at1,left1,done,hg,cc,cx,HV,E,ei,bk⟩:=hrel;obtain⟨w3,rfl⟩:=Zx wr;obtain⟨av,cv,hv⟩:=HV.o;subst hv;obtain⟨css,hB⟩:=cx.o;have HB:=Za hB;have au:=Za cc;have ej:=cc.le;clear HV cx hB cc;by_cases ba:at1<all.length
  ·have HD:=Za (sF ba);go_wp2_with(go_at_call 154;refine(oB au.o ai).mono ?_;rintro e w4 ⟨rfl,T⟩;rw[decide_eq_true ba];refine aD ?_);obtain⟨b,off,ou,cu,_,rfl,hc,hw⟩:=(au.o.same T).line ba;have aj:=Za (au.o.same T);have cy:=Za (HB.o.next T.moved B.o);have ak:=Za (ca.o.words _ (List.getElem_mem ba));obtain⟨ws,aa⟩:=Zx (all[at1]);rw[<-aa]at hc hw HD ak;have cz:=Za hw;clear T hw aa au HB;have c0:=aj.o.box.q 0 rfl;have c1:=aj.o.box.q 1 rfl;have ec:(at1:Int)<(all.length:Int):=by omega
   refine aC ?_;go_wp2;go_quiet(fail);obtain⟨w5,cd⟩:=Zx (w4.drewN nq);have al:aN w4 w5:=⟨nq,cd⟩;have G:=Za (aj.o.same al);have bb:=Za (cy.o.next al.moved B.o);have da:=Za (cz.o.grow (al.below _));rw[<-cd];clear al cd c0 c1 hc aj cy cz;have c2:=G.o.box.q 2 rfl;have f2:=G.o.box.free 2;have ed:=G.o.lt;by_cases hz:ws.length=0
   ·have dp:((ws.length:Int)==0)=true:=vQ _ hz;have A:=Za (show dU d left (all.drop at_)=none by
     rw[E.o,HD.o,List.eq_nil_of_length_eq_zero hz,TU];rfl)
    go_wp2
    (try rw[Exit.noGoto_ret])
    go_ret2;exact gY.no A.o bb.o.low G.o
   have dp:((ws.length:Int)==0)=false:=xA _ hz;obtain⟨N,wss,aa⟩:∃N wss,ws=N::wss:=by
    cases ws with
    |nil=>simp at hz
    |cons a r=>exact⟨a,r,rfl⟩
   have bc:0<ws.length:=by omega
   obtain⟨bw,offw,rfl,cw⟩:=da.o.here.at 0 bc;have db:fN ws 0=N:=by rw[aa];rfl
   rw[Nat.add_zero,db]at cw;have be:=Za (show all.drop at1=(N::wss)::all.drop (at1+1) by rw[HD.o,aa]);have ce:=Za aa;clear aa db hz HD;by_cases C:N=dA\/N=dV
   ·have A:=Za (show dU d left (all.drop at_)=some (done,left1,all.drop at1) by rw[E.o,be.o,J6 d left1 N wss _ C];simp);have HO:=Za (gY.yes A.o bb.o.low G.o (bb.o.fin (by omega) (fun l V=>by have:=bk.o l V;omega)));by_cases he:N=dA
    ·have h1:(N==[101,110,100])=true:=by rw[he];rfl
     clear he C;go_wp2
     (try rw[Exit.noGoto_ret])
     go_ret2;exact HO.o
    ·have h1:(N==[101,110,100])=false:=by rw[beq_eq_false_iff_ne];exact he
     have h2:(N==[108,111,115,115])=true:=by rw[C.resolve_left he];rfl
     clear he C;go_wp2
     (try rw[Exit.noGoto_ret])
     go_ret2;exact HO.o
   have h1:(N==[101,110,100])=false:=by rw[beq_eq_false_iff_ne];exact fun h=>C (.inl h)
   have h2:(N==[108,111,115,115])=false:=by rw[beq_eq_false_iff_ne];exact fun h=>C (.inr h)
   have U:=Za C;clear C;by_cases aw:left1=0
   ·have dc:((left1:Int)==0)=true:=vQ _ aw;have A:=Za (show dU d left (all.drop at_)=none by
     rw[E.o,be.o,aw,LM d N wss _ U.o];rfl)
    clear aw;go_wp2
    (try rw[Exit.noGoto_ret])
    go_ret2;exact gY.no A.o bb.o.low G.o
   have dc:((left1:Int)==0)=false:=xA _ aw;obtain⟨lm,dd⟩:∃lm,left1=lm+1:=⟨left1-1,by omega⟩;have ao:(left1:Int)-1=(lm:Int):=by omega
   have cf:=Za aw;have ax:=Za dd;clear aw dd;obtain⟨w6,bf⟩:=Zx (w5.setCell ⟨R,2,none⟩ (.int .i64 lm));have H:=Za (show cB w6 R (some ⟨b,off,none⟩) cap all at1 lm by rw[bf];exact G.o.setLeft lm (by have:=ax.o;omega));have bl:=Za (show gM w R done (.slice av done.length cv) w6 css by rw[bf];exact bb.o.next (oH _ _ _ _) B.o);have ab:=Za (show fQ w6 _ ws by rw[bf];exact(da.o.set (Nat.lt_succ_self _) _).here);have X:=Za bf;clear bf;have ek:=ak.o.1;by_cases O:ws=[dE]
   ·have bm:=Za (show N=dE/\wss=[] by have:=ce.o;rw[O]at this;injection this with h3 h4;exact⟨h3.symm,h4.symm⟩);have ay:=Za O;clear O;cases az:d with
    |zero=>
     have cg:((deep:Int)==4)=true:=by rw[beq_iff_eq];omega
     have A:=Za (show dU d left (all.drop at_)=none by rw[E.o,be.o,az,IM left1 N wss _ U.o cf.o bm.o];rfl);clear az;go_wp2_with(go_at_call 179;rw[<-X.o];refine(pX _ ws dE _ ab.o (by omega)).mono ?_;rintro e w7 ⟨rfl,rfl⟩;rw[decide_eq_true ay.o])
     (try rw[Exit.noGoto_ret])
     go_ret2;exact gY.no A.o bl.o.low H.o
    |succ d1=>
     have cg:((deep:Int)==4)=false:=by rw[beq_eq_false_iff_ne];omega
     have HC:=Za (fun(W:World) (h:cB W R (some ⟨b,off,none⟩) cap all (at1+1) lm)=>cq.o d1 az R (some ⟨b,off,none⟩) cap all (at1+1) lm (deep+1) W h ca.o (by omega));simp only[Int.natCast_add,Int.cast_ofNat_Int]at HC;have F:=Za (show dL d left1 (all.drop at1)=(dU d1 lm (all.drop (at1+1))).bind fun q=>pO d1 q.1 q.2.1 q.2.2 by
      rw[be.o,az,GN d1 left1 N wss _ U.o cf.o bm.o,ax.o];rfl)
     have el:deep<=4:=by omega
     have dq:=Za az;obtain⟨w7,bn⟩:=Zx (w6.setCell ⟨R,1,none⟩ (.int .i64 ((at1:Int)+1)));have I:=Za (show cB w7 R (some ⟨b,off,none⟩) cap all (at1+1) lm by rw[bn];exact H.o.setAt (at1+1) (by omega));have J:=Za (show gM w R done (.slice av done.length cv) w7 css by rw[bn];exact bl.o.next (oH _ _ _ _) B.o);have bs:=Za bn;have d1c:=H.o.box.q 1 rfl;have g1:=H.o.box.free 1;clear bn az cq;cases ac:dU d1 lm (all.drop (at1+1))with
     |none=>
      have A:=Za (show dU d left (all.drop at_)=none by rw[E.o,F.o,ac];rfl);have ch:=Za (AR (HC.o _ I.o) ac);clear ac;go_wp2_with(first|(go_at_call 179;rw[<-X.o];refine(pX _ ws dE _ ab.o (by omega)).mono ?_;rintro e w7x ⟨rfl,rfl⟩;rw[decide_eq_true ay.o])|(go_at_call 156;rw[<-bs.o];refine ch.o.mono ?_;rintro e w8 ⟨rfl,bg,at2,left2,Y⟩;refine aD ?_));clear c2 f2 cw h1 h2 ao d1c g1 cg;have ad:=Za (J.o.next bg B.o);have D:=Za Y;have bt:=Za (fun k e=>(J.o.row.lt k e).2);clear bg Y;refine aC ?_;go_wp2;go_quiet(fail);go_wp2
      (try rw[Exit.noGoto_ret])
      go_ret2;exact gY.no A.o (ad.o.low.trans (aN.moved ⟨_,rfl⟩)) (D.o.same ⟨_,rfl⟩)
     |some q=>
      obtain⟨bd,l2,r2⟩:=q;have dr:=Za (tJ d1 _ _ _ ac);have ch:=Za (FC (HC.o _ I.o) ac);go_wp2_with(first|(go_at_call 179;rw[<-X.o];refine(pX _ ws dE _ ab.o (by omega)).mono ?_;rintro e w7x ⟨rfl,rfl⟩;rw[decide_eq_true ay.o])|(go_at_call 156;rw[<-bs.o];refine ch.o.mono ?_;rintro e w8 ⟨vb,rfl,bg,⟨at2,Y,de⟩,df⟩;have dg:=Za de;clear de;refine aD ?_));clear c2 f2 cw h1 h2 ao d1c g1 cg;have ad:=Za (J.o.next bg B.o);have D:=Za Y;have bt:=Za (fun k e=>(J.o.row.lt k e).2);have ap:=Za (show dL d left1 (all.drop at1)=pO d1 bd l2 (all.drop at2) by rw[F.o,ac,dg.o];rfl);clear Y;have dh:=Za df;obtain⟨ob,cb,rfl⟩:=dh.o.here.1.len;have ee:=D.o.le;clear ac df bg F;refine aC ?_;by_cases Z:at2<all.length
      ·obtain⟨b2,off2,ou2,cu2,_,ds,di,ci⟩:=D.o.line Z;cases ds;have cj:=Za (sF Z);have ae:=Za (ca.o.words _ (List.getElem_mem Z));obtain⟨ws2,bu⟩:=Zx (all[at2]);rw[<-bu]at di ci cj ae;have dj:=Za ci;have c0:=D.o.box.q 0 rfl;have c1:=D.o.box.q 1 rfl;have bo:=Za (fun n=>tA (D.o.same (w':=w8.drewN n) ⟨n,rfl⟩) ai (decide_eq_true Z));have du:(at2:Int)<(all.length:Int):=by omega
       clear ci bu;by_cases L:ws2=[dA]
       ·have ck:=Za (fun n=>DU (x:=dA) (dj.o.grow (aN.below (w':=w8.drewN n) ⟨n,rfl⟩ _)).here ae.o.1 (decide_eq_true L));have bh:=Za (BR (l:=.mk {bN with kind:=13} bd) E.o (show dL d left1 (all.drop at1)=(dL d l2 (all.drop (at2+1))).map fun q=>(.mk {bN with kind:=13} bd::q.1,q.2) by rw[ap.o,cj.o,L,dq.o,pO,if_pos rfl]));have cl:=Za (show at1+1<=at2/\bd.length+l2<=lm by have:=dr.o;rw[<-dg.o]at this;simp only[List.length_drop]at this;omega);have ef:=Za L;clear L E ap;go_wp2;go_quiet(first|(go_at_call 154;exact Calls.quiet_of (bo.o _))|(go_at_call 179;exact Calls.quiet_of (ck.o _)));obtain⟨w9,cm⟩:=Zx (w8.drewN nq);have aq:aN w8 w9:=⟨nq,cm⟩;rw[<-cm];have ar:=Za (D.o.same aq);have bp:=Za (ad.o.next aq.moved B.o);have dk:=Za (dh.o.grow (aq.below _));obtain⟨W,hW⟩:=Zx (w9.setCell ⟨R,1,none⟩ (.int .i64 ((at2:Int)+1)));have em:=B.o;have dv:=J.o.low.size;have dl:=Za (show cB W R (some ⟨b,off,none⟩) cap all (at2+1) l2 by rw[hW];exact ar.o.setAt (at2+1) (by omega));have bq:=Za (show gM w R done (.slice av done.length cv) W css by rw[hW];exact bp.o.next (oH _ _ _ _) B.o);have dw:=Za (show aI (aL w7.heap.size W) W (fun W=>lZ W (.slice ob bd.length cb) bd) by rw[hW];exact dk.o.set (by omega) _);have dx:=Za hW;have cn:=Za (show W.heap.size=w9.heap.size by rw[hW,World.size_setCell]);have e1:=ar.o.box.q 1 rfl;have g1:=ar.o.box.free 1;clear aq cm c0 c1 di hW dv;go_wp2_with(at_builtin;rw[<-dx.o];refine wpList_append_own_at _ rfl _ _ 31 rfl w.heap.size 175 i0 (.agg #[.int .i64 0,.int .i64 0,.int .i64 0,.int .i64 0,.int .i64 0,.int .i64 0,.int .i64 0,.int .i64 0,.slice none 0 0]) 9 88 Tryz.underlying31 hi cr cs ct rfl (by decide) _ _ _ rfl (cI bq.o.row ((Zc _ _).alloc (Zb _) _) (Zb _)) ⟨w9.heap.size,0,none⟩ 1 1 (({bN with kind:=13}:aE).cells (.slice ob bd.length cb)) rfl rfl (fun j u hj=>by have:=eD W (({bN with kind:=13}:aE).cells (.slice ob bd.length cb)) 175 (0,0) j u hj;rw[cn.o]at this;exact this) (by simp[aE.cells,Value.oneCell']) (by unfold maxLen;omega) (by omega) (by have:=bq.o.low.size;simp;omega) ?_;intro v8 w11 af ag co hat8;refine aD ?_);have bx:=Za (bq.o.snoc (l:=.mk {bN with kind:=13} bd) B.o (u:=.slice ob bd.length cb) (dw.o.mono fun k hk=>⟨⟨Nat.le_trans J.o.low.size hk.1,hk.2⟩,fun e=>by have:=bt.o k e;have:=hk.1;omega⟩) af ag hat8);have M:aA w11 R 191 #[.slice (some ⟨b,off,none⟩) all.length cap,.int .i64 ((at2+1:Nat):Int),.int .i64 l2]:=(dl.o.box.next ((Zc _ _).alloc (Zb _) _)).grownBy ag (fun k e=>by have:=(bq.o.row.lt k e).1;have:=B.o;omega);have dm:=Za (HH.o.back bx.o.low M (by omega) (by have:=ar.o.lt;omega));obtain⟨a8,k8,rfl⟩:=aJ af;clear af ag co hat8 M e1 g1;refine aC ?_;go_wp2;go_roundg (all.length-(at2+1))
        case rel=>exact⟨at2+1,l2,done++[.mk {bN with kind:=13} bd],rfl,dm.o,Za ⟨_,bx.o⟩,Za ⟨a8,k8,by rw[Zl];rfl⟩,bh,by rw[Zl,List.length_singleton];have:=ax.o;have:=cl.o;omega,Za (fun l V=>by
         rcases List.mem_append.1 V with V|V
         ·exact bk.o l V
         ·rw[List.mem_singleton.1 V];have:=cl.o;have:=H.o.lt;simp only[aB.body];omega)⟩
        case measure=>have:=cl.o;omega
       ·have ck:=Za (fun n=>DU (x:=dA) (dj.o.grow (aN.below (w':=w8.drewN n) ⟨n,rfl⟩ _)).here ae.o.1 (decide_eq_false L));have A:=Za (show dU d left (all.drop at_)=none by rw[E.o,ap.o,cj.o,pO,if_neg L];rfl);clear L;go_wp2;go_quiet(first|(go_at_call 154;exact Calls.quiet_of (bo.o _))|(go_at_call 179;exact Calls.quiet_of (ck.o _)));go_wp2
        (try rw[Exit.noGoto_ret])
        go_ret2;exact gY.no A.o (ad.o.low.trans (aN.moved ⟨_,rfl⟩)) (D.o.same ⟨_,rfl⟩)
      ·have A:=Za (show dU d left (all.drop at_)=none by rw[E.o,ap.o,List.drop_eq_nil_of_le (by omega)];rfl);have bo:=Za (fun n=>tA (D.o.same (w':=w8.drewN n) ⟨n,rfl⟩) ai (decide_eq_false Z));go_wp2;go_quiet((go_at_call 154;exact Calls.quiet_of (bo.o _)));go_wp2
       (try rw[Exit.noGoto_ret])
       go_ret2;exact gY.no A.o (ad.o.low.trans (aN.moved ⟨_,rfl⟩)) (D.o.same ⟨_,rfl⟩)
   have bm:=Za (show ¬(N=dE/\wss=[])from fun h=>O (by rw[ce.o,h.1,h.2]));have ay:=Za O;clear O;have F:=Za (show dL d left1 (all.drop at1)=(eH ws).bind fun n=>(dL d lm (all.drop (at1+1))).map fun q=>(.mk n []::q.1,q.2) by
    rw[be.o,UP d left1 N wss _ U.o cf.o bm.o,<-ce.o,ax.o];rfl)
   cases P:eH ws with
   |none=>
    have bi:=Za (fun p=>KK p _ ws _ ab.o bc (by omega) ak.o.2 P);have A:=Za (show dU d left (all.drop at_)=none by rw[E.o,F.o,P];rfl);clear P;go_wp2_with(first|(go_at_call 179;rw[<-X.o];refine(pX _ ws dE _ ab.o (by omega)).mono ?_;rintro e w7 ⟨rfl,rfl⟩;rw[decide_eq_false ay.o])|(go_at_call 180;refine(bi.o _).mono ?_;rintro e w7 ⟨rfl,ah⟩;refine aD ?_));have I:=Za (H.o.next ah);have J:=Za (bl.o.next (gO ah) B.o);clear ah c2 f2 cw h1 h2 ao;refine aC ?_;go_wp2
    (try rw[Exit.noGoto_ret])
    go_ret2;exact gY.no A.o (J.o.low.trans (gO ((Zc _ _).alloc (Zb _) _))) (I.o.next ((Zc _ _).alloc (Zb _) _))
   |some n=>
    have bh:=Za (BR (l:=.mk n []) E.o (show dL d left1 (all.drop at1)=(dL d lm (all.drop (at1+1))).map fun q=>(.mk n []::q.1,q.2) by rw[F.o,P];rfl));have bi:=Za (fun p=>QE p _ ws n _ ab.o bc (by omega) ak.o.2 P);clear P E;go_wp2_with(first|(go_at_call 179;rw[<-X.o];refine(pX _ ws dE _ ab.o (by omega)).mono ?_;rintro e w7 ⟨rfl,rfl⟩;rw[decide_eq_false ay.o])|(go_at_call 180;refine(bi.o _).mono ?_;rintro e w7 ⟨rfl,ah⟩;refine aD ?_));have I:=Za (H.o.next ah);have J:=Za (bl.o.next (gO ah) B.o);clear ah c2 f2 cw h1 h2 ao;have en:=I.o.box.lt;have eg:=J.o.low.size;obtain⟨W7,bj⟩:=Zx (w7.alloc (.cells #[.int .i64 n.kind,.int .i64 n.inn,.int .i64 n.o,.int .i64 n.size,.int .i64 n.stride,.int .i64 n.pad,.int .i64 n.percent,.int .i64 n.heads,.slice none 0 0] 175));have br:=Za (show gM w R done (.slice av done.length cv) W7 css by rw[bj];exact J.o.next (gO ((Zc _ _).alloc (Zb _) _)) B.o);have dn:=Za (show cB W7 R (some ⟨b,off,none⟩) cap all at1 lm by rw[bj];exact I.o.next ((Zc _ _).alloc (Zb _) _));have dy:=Za bj;have cn:=Za (show W7.heap.size=w7.heap.size+1 by rw[bj];simp);clear bj;refine aC ?_;go_wp2_with(at_builtin;rw[<-dy.o];refine wpList_append_own_at _ rfl _ _ 31 rfl w.heap.size 175 i0 (.agg #[.int .i64 0,.int .i64 0,.int .i64 0,.int .i64 0,.int .i64 0,.int .i64 0,.int .i64 0,.int .i64 0,.slice none 0 0]) 9 88 Tryz.underlying31 hi cr cs ct rfl (by decide) _ _ _ rfl (cI br.o.row ((Zc _ _).alloc (Zb _) _) (Zb _)) ⟨w7.heap.size+1,0,none⟩ 1 1 (n.cells (.slice none 0 0)) rfl rfl (fun j u hj=>by have:=eD W7 (n.cells (.slice none 0 0)) 175 (0,0) j u hj;rw[cn.o]at this;exact this) (by simp[aE.cells,Value.oneCell']) (by unfold maxLen;omega) (by omega) (by have:=br.o.low.size;simp;omega) ?_;intro v8 w8 af ag co hat8;refine aD ?_);have ad:=Za (br.o.snoc (l:=.mk n []) B.o (u:=.slice none 0 0) (fun W _=>KR W) af ag hat8);have M:aA w8 R 191 #[.slice (some ⟨b,off,none⟩) all.length cap,.int .i64 at1,.int .i64 lm]:=(dn.o.box.next ((Zc _ _).alloc (Zb _) _)).grownBy ag (fun k e=>by have:=(br.o.row.lt k e).1;have:=B.o;omega);obtain⟨a8,k8,rfl⟩:=aJ af;have d1:=M.q 1 rfl;have g1:=M.free 1;have dz:=Za M;have eh:=B.o;clear af ag co hat8 M;refine aC ?_;go_wp2;have ea:=Za (oH w8 R 1 (.int .i64 ((at1+1:Nat):Int)));have bp:=Za (ad.o.next ea.o B.o);have eb:=Za (show cB (w8.setCell ⟨R,1,none⟩ (.int .i64 ((at1+1:Nat):Int))) R (some ⟨b,off,none⟩) cap all (at1+1) lm from HH.o.back bp.o.low (dz.o.set 1 _) (by omega) (by have:=ax.o;omega));go_roundg (all.length-(at1+1))
    case rel=>exact⟨at1+1,lm,done++[.mk n []],rfl,eb.o,Za ⟨_,bp.o⟩,Za ⟨a8,k8,by rw[Zl];rfl⟩,bh,by rw[Zl,List.length_singleton];have:=ax.o;omega,Za (fun l V=>by
     rcases List.mem_append.1 V with V|V
     ·exact bk.o l V
     ·rw[List.mem_singleton.1 V];simp[aB.body])⟩
    case measure=>omega
  ·have eo:at1=all.length:=by omega
   have HD:=Za (show all.drop at1=[] from List.drop_eq_nil_of_le (by omega));have A:=Za (show dU d left (all.drop at_)=some (done,left1,all.drop at1) by rw[E.o,HD.o,PR];simp);go_wp2_with(go_at_call 154;refine(oB au.o ai).mono ?_;rintro e w4 ⟨rfl,T⟩;rw[decide_eq_false ba];refine aD ?_);have HO:=Za (gY.yes A.o (HB.o.next T.moved B.o).low (au.o.same T) ((HB.o.next T.moved B.o).fin (by omega) (fun l V=>by have:=bk.o l V;omega)));clear T;refine aC ?_;go_wp2
   (try rw[Exit.noGoto_ret])
   go_ret2;exact HO.o
theorem GV:∀d,wJ d:=by
 intro d
 induction d with
 |zero=>exact zA 0 (fun d' h=>by cases h)
 |succ d ih=>exact zA (d+1) (fun d' h=>by cases h;exact ih)
