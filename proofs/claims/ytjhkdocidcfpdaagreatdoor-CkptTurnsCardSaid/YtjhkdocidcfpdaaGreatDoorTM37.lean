/-
  A part of the proof of a law (packed by program).
-/
import Derived.Test.YtjhkdocidcfpdaaGreatDoorTM36
import Derived.Test.YtjhkdocidcfpdaaGreatDoorTM30
set_option linter.unusedVariables false
set_option linter.unusedSimpArgs false
set_option maxRecDepth 100000
set_option maxHeartbeats 16000000
open List renaming length_append → Zl
namespace Go.Proofs.YtjhkdocidcfpdaaGreatDoor
open Go.RowKit Go.Shelf Go
theorem B9 {w:World} {o:Option Addr}:∀(ls:List aB) (i:Nat),(∀(j:Nat) (hj:j<ls.length),fH w o (i+j) ls[j])→cO w o i ls
 |[],i,_=>by rw[cO];trivial
 |l::r,i,h=>by
  rw[cO];refine⟨h 0 (by simp),B9 r (i+1) fun j hj=>?_⟩;have:=h (j+1) (by simpa using hj)
  rwa [show i+(j+1)=i+1+j by omega]at this
theorem ER:(Tryz.prog.info? 175).map (fun i=>(i.zero,i.size,i.bytes))=some (some (.agg #[.int .i64 0,.int .i64 0,.int .i64 0,.int .i64 0,.int .i64 0,.int .i64 0,.int .i64 0,.int .i64 0,.slice none 0 0]),9,88):=by kernel_rfl
def sW (B:Nat) (w:World) (v:Value) (all:aS):Prop:=∃o cap,v=.slice o all.length cap∧∀k (hk:k<all.length),∃b off u,o=some ⟨b,off,none⟩∧B≤b∧w.cell? ⟨b,off+k,none⟩=some u∧(∀o n c,u=.slice o n c→n≤c)∧fG w u all[k]
theorem sW.at {B:Nat} {w:World} {o:Option Addr} {n cap:Nat} {all:aS} (h:sW B w (.slice o n cap) all) (k:Nat) (hk:k<all.length):∃b off u,o=some ⟨b,off,none⟩∧B≤b∧w.cell? ⟨b,off+k,none⟩=some u∧(∀o n c,u=.slice o n c→n≤c)∧fG w u all[k]:=by obtain⟨o',cap',he,h⟩:=h;injection he with h1 h2 h3;subst h1;exact h k hk
structure LOk (all:aS):Prop where
 len:all.length≤100000
 words:∀ws∈all,ws.length≤1000000∧∀x∈ws,x.length≤100000
structure bX (w:World) (R:Nat) (o:Option Addr) (cap:Nat) (all:aS) (at_ left:Nat):Prop where
 box:aA w R 191 #[.slice o all.length cap,.int .i64 at_,.int .i64 left]
 rows:aI (aL (R+1) w) w fun W=>sW (R+1) W (.slice o all.length cap) all
 le:at_≤all.length
 lt:left≤64
theorem bX.next {w w':World} {R:Nat} {o:Option Addr} {cap:Nat} {all:aS} {at_ left:Nat} (h:bX w R o cap all at_ left) (hb:Below w.heap.size w w'):bX w' R o cap all at_ left:=⟨h.box.next hb,h.rows.grow hb,h.le,h.lt⟩
theorem bX.same {w w':World} {R:Nat} {o:Option Addr} {cap:Nat} {all:aS} {at_ left:Nat} (h:bX w R o cap all at_ left) (hs:aN w w'):bX w' R o cap all at_ left:=h.next (hs.below _)
theorem bX.setAt {w:World} {R:Nat} {o:Option Addr} {cap:Nat} {all:aS} {at_ left:Nat} (h:bX w R o cap all at_ left) (k:Nat) (hk:k≤all.length):bX (w.setCell ⟨R,1,none⟩ (.int .i64 k)) R o cap all k left:=
 ⟨h.box.set 1 (.int .i64 k),h.rows.set (Nat.lt_succ_self _) _,hk,h.lt⟩
theorem bX.setLeft {w:World} {R:Nat} {o:Option Addr} {cap:Nat} {all:aS} {at_ left:Nat} (h:bX w R o cap all at_ left) (k:Nat) (hk:k≤64):bX (w.setCell ⟨R,2,none⟩ (.int .i64 k)) R o cap all at_ k:=
 ⟨h.box.set 2 (.int .i64 k),h.rows.set (Nat.lt_succ_self _) _,h.le,hk⟩
theorem nK (w:World) (R j:Nat) (v:Value):aZ w (w.setCell ⟨R,j,none⟩ v) R:=
 ⟨rfl,rfl,rfl,by simp[World.setCell],fun k _ hk=>Below.heap_setCell _ _ _ _ (fun e=>hk (by simp at e;rw[e]))⟩
theorem aN.moved {w w':World} {R:Nat} (h:aN w w'):aZ w w' R:=gI (h.below _)
theorem bX.line {w:World} {R:Nat} {o:Option Addr} {cap:Nat} {all:aS} {at_ left:Nat} (h:bX w R o cap all at_ left) (hk:at_<all.length):∃b off ou cu,(all[at_]).length≤cu∧o=some ⟨b,off,none⟩∧w.cell? ⟨b,off+at_,none⟩=some (.slice ou (all[at_]).length cu)∧aI (aL (R+1) w) w fun W=>fG W (.slice ou (all[at_]).length cu) all[at_]:=by obtain⟨b,off,u,ho,hb0,hc,hcp,hw⟩:=h.rows.here.at at_ hk;obtain⟨ou,cu,rfl⟩:=hw.slice;refine⟨b,off,ou,cu,hcp _ _ _ rfl,ho,hc,fun W hW=>?_⟩;obtain⟨b',off',u',ho',_,hc',_,hw'⟩:=(h.rows W hW).at at_ hk;rw[ho]at ho';cases ho';obtain⟨ou',cu',rfl⟩:=hw'.slice;have hbl:W.heap[b]?=w.heap[b]?:=hW b ⟨hb0,aP hc⟩;have:W.cell? ⟨b,off+at_,none⟩=w.cell? ⟨b,off+at_,none⟩:=World.cell?_of_block (w:=w) (a:=⟨b,off+at_,none⟩) hbl;rw[this,hc]at hc';cases hc';exact hw'
theorem nV {R:Nat} {o:Option Addr} {cap:Nat} {all:aS} {at_ left:Nat} {w:World} (h:bX w R o cap all at_ left) (hl:all.length≤100000):
  Calls Tryz.prog 154 #[.pointer (some ⟨R,0,none⟩)] w fun e w'=>e=.returned (.bool (decide (at_<all.length)))∧aN w w':=by have c0:=h.box.q 0 rfl;have c1:=h.box.q 1 rfl;clear h;go_enter Tryz.func154,Tryz.ntmps154;go_wp2;go_quiet(fail);go_wp2;go_ret;exact⟨aF (by simp),⟨_,rfl⟩⟩
theorem fK.put {B:Nat} {e:TypeId} {sz:Nat} {w1 w2:World} {v v':Value} {css:List (List Value)} {cs:List Value} {P Q:World→Prop} {o:Obj} (h:fK B e sz w1 v css P) (hB:B≤w1.heap.size) (hq:aI (fun k=>aL B w1 k∧v.ownBlock≠some k) w1 Q)
  (hrow:w2.ownsRow B e sz v' (css.length+1) (css.flatten++cs)) (hg:(w1.alloc o).grownBy w2 v.ownBlock) (hob:v'.ownBlock=v.ownBlock∨v'.ownBlock=some (w1.alloc o).heap.size):fK B e sz w2 v' (css++[cs]) fun W=>P W∧Q W:=by
 have h12:∀k,k<w1.heap.size→v.ownBlock≠some k→w2.heap[k]?=w1.heap[k]?:=fun k hk hne=>(hg.block k (by simp;omega) (fun e=>hne e.symm)).trans (Below.heap_alloc w1 o k hk);have hs:w1.heap.size≤w2.heap.size:=by have:=hg.size;simp at this;omega
 refine⟨by simpa using hrow,?_⟩;refine((h.all.and hq).step fun k hk=>h12 k hk.1.2 hk.2).mono fun k hk=>⟨⟨hk.1.1,by have:=hk.1.2;omega⟩,?_⟩;rcases hob with e1|e1
 ·rw[e1];exact hk.2
 ·rw[e1];intro e2;simp at e2;have:=hk.1.2;omega
structure gA (w0:World) (R:Nat) (ls:List aB) (v:Value) (w:World) (css:List (List Value)):Prop where
 low:aZ w0 w R
 len:css.length=ls.length
 rows:fK w0.heap.size 175 9 w v css (fun W=>∀(j:Nat) (hl:j<ls.length),∃u,css[j]?=some (ls[j].n.cells u)∧bF W u ls[j].body)
theorem gA.start (w:World) (R:Nat):gA w R [] (.slice none 0 0) w []:=⟨aZ.refl _ _,rfl,fK.nil _ _ _ _ (fun W j hj=>absurd hj (Nat.not_lt_zero j))⟩
theorem gA.row {w0 w:World} {R:Nat} {ls:List aB} {v:Value} {css:List (List Value)} (h:gA w0 R ls v w css):w.ownsRow w0.heap.size 175 9 v ls.length css.flatten:=by
 have:=h.rows.row
 rwa [h.len]at this
theorem gG {w w':World} {R k:Nat} (h:aZ w w' R) (hk:k<w.heap.size) (hR:k≠R):w'.heap[k]?=w.heap[k]?:=h.block k hk (fun e=>hR (by cases e;rfl))
theorem gA.next {w0 w w1:World} {R:Nat} {ls:List aB} {v:Value} {css:List (List Value)} (h:gA w0 R ls v w css) (hm:aZ w w1 R) (hR:R<w0.heap.size):gA w0 R ls v w1 css:=
 ⟨h.low.trans hm,h.len,mV h.rows.row hm hR,(h.rows.all.step fun k hk=>gG hm hk.1.2 (by have:=hk.1.1;omega)).mono fun k hk=>⟨⟨hk.1.1,Nat.lt_of_lt_of_le hk.1.2 hm.size⟩,hk.2⟩⟩
theorem gA.snoc {w0 w1 w2:World} {R:Nat} {ls:List aB} {v v' u:Value} {l:aB} {o:Obj} {css:List (List Value)} (h:gA w0 R ls v w1 css) (hR:R<w0.heap.size) (hs:aI (fun k=>aL w0.heap.size w1 k∧v.ownBlock≠some k) w1 fun W=>bF W u l.body)
  (hrow:w2.ownsRow w0.heap.size 175 9 v' (ls.length+1) (css.flatten++l.n.cells u)) (hg:(w1.alloc o).grownBy w2 v.ownBlock) (hob:v'.ownBlock=v.ownBlock∨v'.ownBlock=some (w1.alloc o).heap.size):gA w0 R (ls++[l]) v' w2 (css++[l.n.cells u]):=by
 have hl:=h.len;have hr:=h.rows;have hB:=h.low;rw[←hl]at hrow;have h3:=hr.put hB.size hs hrow hg hob;refine⟨?_,by simp[hl],h3.row,h3.all.imp fun W hW j hj=>?_⟩
 ·have hg1:aZ w1 w2 R∨True:=.inr trivial;refine⟨hg.os.trans hB.os,hg.tape.trans hB.tape,hg.output.trans hB.output,by have:=hg.size;have:=hB.size;simp at*;omega,fun k hk hne=>?_⟩;refine((hg.block k (by have:=hB.size;simp;omega) (fun e=>?_)).trans (Below.heap_alloc w1 o k (by have:=hB.size;omega))).trans (hB.block k hk hne);have:=(hr.row.lt k e.symm).1;omega
 ·rw[Zl,List.length_singleton]at hj;by_cases e:j<ls.length
  ·have:=hW.1 j e;rw[List.getElem?_append_left (by omega),List.getElem_append_left e];exact this
  ·obtain rfl:j=ls.length:=by omega
   refine⟨u,?_,?_⟩
   ·rw[List.getElem?_append_right (by omega),hl];simp
   ·simpa using hW.2
theorem gA.fin {w0 w:World} {R:Nat} {ls:List aB} {v:Value} {css:List (List Value)} (hlim:∀l∈ls,l.body.length≤140737488351232) (h:gA w0 R ls v w css):aI (aL w0.heap.size w) w (fun W=>bF W v ls):=by
 refine h.rows.fin.imp fun W hW=>?_;have hln:=h.len;obtain⟨o,cap,hv,_⟩:=iV hW.1;subst hv;rw[hln];have h9:∀c∈css,c.length=9:=fun c hm=>by
  obtain⟨k,hk,rfl⟩:=List.getElem_of_mem hm;obtain⟨u,h1,_⟩:=hW.2 k (by omega);rw[List.getElem?_eq_getElem hk]at h1;simp only[Option.some.injEq]at h1;rw[h1,aG.cells_len]
 refine⟨o,cap,rfl,B9 ls 0 fun j hj=>?_⟩;obtain⟨u,h1,h2⟩:=hW.2 j hj;obtain⟨ou,cu,rfl⟩:=h2.len;have hjc:j<css.length:=by omega
 rw[List.getElem?_eq_getElem hjc]at h1;simp only[Option.some.injEq]at h1;obtain⟨b,hb,hcell⟩:=AP hW.1 h9 j hjc;rw[Nat.zero_add,aB.eta ls[j],fH];obtain⟨ou',cu',he,hla⟩:=h2;injection he with he1 he2 he3;subst he1 he3;exact⟨b,0,ou,cu,hb,hlim _ (List.getElem_mem hj),fun i x hx=>by rw[Nat.zero_add];exact hcell i x (by rw[h1];exact hx),hla⟩
def gH (w:World) (R:Nat) (o:Option Addr) (cap:Nat) (all:aS) (res:Option (List aB×Nat×aS)) (e:Ending) (w':World):Prop:=
 aZ w w' R∧∃at2 left2,bX w' R o cap all at2 left2∧match res with
 |none=>e=.returned (.tuple #[.slice none 0 0,.bool false])
 |some (ls,l2,rest2)=>left2=l2∧all.drop at2=rest2∧∃v,e=.returned (.tuple #[v,.bool true])∧aI (aL w.heap.size w') w' (fun W=>bF W v ls)
def wV (d:Nat):Prop:=∀(R:Nat) (o:Option Addr) (cap:Nat) (all:aS) (at_ left deep:Nat) (w:World),bX w R o cap all at_ left→LOk all→deep+d=4→
 Calls Tryz.prog 156 #[.pointer (some ⟨R,0,none⟩),.int .i64 deep] w (gH w R o cap all (dI d left (all.drop at_)))
theorem rW {all:aS} {k:Nat} (h:k<all.length):all.drop k=all[k]::all.drop (k+1):=List.drop_eq_getElem_cons h
theorem gH.no {w w':World} {R:Nat} {o:Option Addr} {cap:Nat} {all:aS} {res:Option (List aB×Nat×aS)} {at2 left2:Nat} (hres:res=none) (hm:aZ w w' R) (hr:bX w' R o cap all at2 left2):gH w R o cap all res (.returned (.tuple #[.slice none 0 0,.bool false])) w':=
 ⟨hm,at2,left2,hr,by rw[hres]⟩
theorem gH.yes {w w':World} {R:Nat} {o:Option Addr} {cap:Nat} {all:aS} {res:Option (List aB×Nat×aS)} {at2 left2:Nat} {ls:List aB} {v:Value} (hres:res=some (ls,left2,all.drop at2)) (hm:aZ w w' R) (hr:bX w' R o cap all at2 left2) (hv:aI (aL w.heap.size w') w' (fun W=>bF W v ls)):gH w R o cap all res (.returned (.tuple #[v,.bool true])) w':=
 ⟨hm,at2,left2,hr,by rw[hres];exact⟨rfl,rfl,v,rfl,hv⟩⟩
theorem aI.movedB {B R:Nat} {w w':World} {P:World→Prop} (h:aI (aL B w) w P) (hm:aZ w w' R) (hR:R<B):aI (aL B w') w' P:=
 (h.step fun k hk=>gG hm hk.2 (by have:=hk.1;omega)).mono fun k hk=>⟨hk.1,Nat.lt_of_lt_of_le hk.2 hm.size⟩
theorem qW {R:Nat} {o:Option Addr} {cap:Nat} {all:aS} {at_ left:Nat} {w:World} (h:bX w R o cap all at_ left) (hl:all.length≤100000) {b:Bool} (hb:decide (at_<all.length)=b):
  Calls Tryz.prog 154 #[.pointer (some ⟨R,0,none⟩)] w fun e w'=>e=.returned (.bool b)∧∃m,w'=w.drewN m:=(nV h hl).mono fun e w' ⟨he,hs⟩=>⟨by rw[he,hb],hs⟩
theorem BB {v:Value} {ws:List (List UInt8)} {x:List UInt8} {w:World} (h:fG w v ws) (hl:ws.length≤1000000) {b:Bool} (hb:decide (ws=[x])=b):
  Calls Tryz.prog 179 #[v,.string ⟨x.toArray⟩] w fun e w'=>e=.returned (.bool b)∧∃m,w'=w.drewN m:=(oD v ws x w h hl).mono fun e w' ⟨he,hs⟩=>⟨by rw[he,hb],0,hs.symm⟩
theorem JR (p v:Value) (ws:List (List UInt8)) (w:World) (h:fG w v ws) (h0:0<ws.length) (hl:ws.length≤1000000) (hw:∀x∈ws,x.length≤100000) (hn:dY ws=none):
  Calls Tryz.prog 180 #[p,v] w fun e w'=>e=.returned (.tuple #[.agg #[.int .i64 0,.int .i64 0,.int .i64 0,.int .i64 0,.int .i64 0,.int .i64 0,.int .i64 0,.int .i64 0,.slice none 0 0],.bool false])∧Below w.heap.size w w':=
 (DU p v ws w h h0 hl hw).mono fun e w' ⟨hb,he⟩=>⟨by rw[he,hn];rfl,hb⟩
theorem RQ (p v:Value) (ws:List (List UInt8)) (n:aG) (w:World) (h:fG w v ws) (h0:0<ws.length) (hl:ws.length≤1000000) (hw:∀x∈ws,x.length≤100000) (hn:dY ws=some n):
  Calls Tryz.prog 180 #[p,v] w fun e w'=>e=.returned (.tuple #[.agg #[.int .i64 n.kind,.int .i64 n.inn,.int .i64 n.o,.int .i64 n.size,.int .i64 n.stride,.int .i64 n.pad,.int .i64 n.percent,.int .i64 n.heads,.slice none 0 0],.bool true])∧Below w.heap.size w w':=
 (DU p v ws w h h0 hl hw).mono fun e w' ⟨hb,he⟩=>⟨by rw[he,hn];rfl,hb⟩
theorem A9 {w:World} {R:Nat} {o:Option Addr} {cap:Nat} {all:aS} {args:Array Value} {res:Option (List aB×Nat×aS)} (h:Calls Tryz.prog 156 args w (gH w R o cap all res)) (hn:res=none):
  Calls Tryz.prog 156 args w fun e w'=>e=.returned (.tuple #[.slice none 0 0,.bool false])∧aZ w w' R∧∃at2 left2,bX w' R o cap all at2 left2:=
 h.mono fun e w' ⟨hm,at2,left2,hr,ho⟩=>⟨by rw[hn]at ho;exact ho,hm,at2,left2,hr⟩
theorem yA {w:World} {R:Nat} {o:Option Addr} {cap:Nat} {all:aS} {args:Array Value} {res:Option (List aB×Nat×aS)} {ls:List aB} {l2:Nat} {r2:aS} (h:Calls Tryz.prog 156 args w (gH w R o cap all res)) (hn:res=some (ls,l2,r2)):
  Calls Tryz.prog 156 args w fun e w'=>∃vb,e=.returned (.tuple #[vb,.bool true])∧aZ w w' R∧(∃at2,bX w' R o cap all at2 l2∧all.drop at2=r2)∧aI (aL w.heap.size w') w' (fun W=>bF W vb ls):=
 h.mono fun e w' ⟨hm,at2,left2,hr,ho⟩=>by
  rw[hn]at ho;obtain⟨rfl,h2,vb,he,hv⟩:=ho;exact⟨vb,he,hm,⟨at2,hr,h2⟩,hv⟩
theorem aA.grownBy {w1 w2:World} {g:Nat} {T:TypeId} {cs:Array Value} {row:Option Nat} (h:aA w1 g T cs) (hg:w1.grownBy w2 row) (hne:∀k,row=some k→k≠g):aA w2 g T cs:=
 (hg.block g h.lt (fun e=>hne g e.symm rfl)).trans h
theorem bX.back {w w':World} {R:Nat} {o:Option Addr} {cap:Nat} {all:aS} {at_ left at2 left2:Nat} (h:bX w R o cap all at_ left) (hm:aZ w w' R) (hb:aA w' R 191 #[.slice o all.length cap,.int .i64 at2,.int .i64 left2]) (h1:at2≤all.length) (h2:left2≤64):bX w' R o cap all at2 left2:=
 ⟨hb,h.rows.movedB hm (Nat.lt_succ_self R),h1,h2⟩
theorem yL {d left:Nat} {res:Option (List aB×Nat×aS)} {rest:aS} {done:List aB} {l:aB} {X:Option (List aB×Nat×aS)} (h:res=(dE d left rest).map (fun q=>(done++q.1,q.2))) (hx:dE d left rest=X.map fun q=>(l::q.1,q.2)):
  res=X.map (fun q=>((done++[l])++q.1,q.2)):=by
 rw[h,hx,Option.map_map]
 congr 1
 funext q
 simp
theorem A7 (d:Nat) (hin:∀d',d=d'+1→wV d'):wV d:=by
 intro R o cap all at_ left deep w h hok hd;have HIN:=Za hin;have HOK:=Za hok;have HRL:=Za h.box.lt;have HH:=Za h;have hlen:=hok.len;obtain⟨i0,hi,hz0,hz1,hz2⟩:=info_parts ER;clear h hok hin;go_enter Tryz.func156,Tryz.ntmps156;go_wp2;go_step3;go_wp2;go_step3;go_wp2;go_loopg[4] (all.length-at_) (fun g v wr=>∃(at1 left1:Nat) (done:List aB),g=all.length-at1∧bX wr R o cap all at1 left1∧Hid (∃css,gA w R done v wr css)∧Hid (∃a c,v=.slice a done.length c)∧Hid (dI d left (all.drop at_)=(dE d left1 (all.drop at1)).map (fun q=>(done++q.1,q.2)))∧done.length+left1≤64∧Hid (∀l∈done,l.body.length≤64))
 case atStart=>exact⟨at_,left,[],rfl,HH.o,Za ⟨_,gA.start w R⟩,Za ⟨none,0,rfl⟩,Za (by rw[OL];simp),by have:=HH.o.lt;simp;omega,Za (fun l hl=>by cases hl)⟩
 case round=>
  obtain⟨at1,left1,done,hg,hrd,HB0,HV,HEQ,hdl,HBL⟩:=hrel;obtain⟨w3,rfl⟩:∃w3,w3=wr:=⟨_,rfl⟩;obtain⟨av,cv,hv⟩:=HV.o;subst hv;obtain⟨css,hB⟩:=HB0.o;have HB:=Za hB;have HRD:=Za hrd;have hle:=hrd.le;clear HV HB0 hB hrd;by_cases hlt:at1<all.length
  ·have HD:=Za (rW hlt);go_wp2_with(go_at_call 154;refine(nV HRD.o hlen).mono ?_;rintro e w4 ⟨rfl,hsm⟩;rw[decide_eq_true hlt];refine aD ?_);obtain⟨b,off,ou,cu,_,rfl,hc,hw⟩:=(HRD.o.same hsm).line hlt;have HRD4:=Za (HRD.o.same hsm);have HB4:=Za (HB.o.next hsm.moved HRL.o);have HOKW:=Za (HOK.o.words _ (List.getElem_mem hlt));obtain⟨ws,hws⟩:∃ws,ws=all[at1]:=⟨_,rfl⟩;rw[←hws]at hc hw HD HOKW;have HW4:=Za hw;clear hsm hw hws HRD HB;have c0:=HRD4.o.box.q 0 rfl;have c1:=HRD4.o.box.q 1 rfl;have hlti:(at1:Int)<(all.length:Int):=by omega
   refine aC ?_;go_wp2;go_quiet(fail);obtain⟨w5,hw5⟩:∃w5,w5=w4.drewN nq:=⟨_,rfl⟩;have hsm5:aN w4 w5:=⟨nq,hw5⟩;have HRD5:=Za (HRD4.o.same hsm5);have HB5:=Za (HB4.o.next hsm5.moved HRL.o);have HW5:=Za (HW4.o.grow (hsm5.below _));rw[←hw5];clear hsm5 hw5 c0 c1 hc HRD4 HB4 HW4;have c2:=HRD5.o.box.q 2 rfl;have f2:=HRD5.o.box.free 2;have hle1:=HRD5.o.lt;by_cases hz:ws.length=0
   ·have hze:((ws.length:Int)==0)=true:=vJ _ hz;have HRES:=Za (show dI d left (all.drop at_)=none by
     rw[HEQ.o,HD.o,List.eq_nil_of_length_eq_zero hz,PJ];rfl)
    go_wp2
    (try rw[Exit.noGoto_ret])
    go_ret2;exact gH.no HRES.o HB5.o.low HRD5.o
   have hze:((ws.length:Int)==0)=false:=tO _ hz;obtain⟨hd,wss,hws⟩:∃hd wss,ws=hd::wss:=by
    cases ws with
    |nil=>simp at hz
    |cons a r=>exact⟨a,r,rfl⟩
   have hpos:0<ws.length:=by omega
   obtain⟨bw,offw,rfl,cw⟩:=HW5.o.here.at 0 hpos;have hw0:fJ ws 0=hd:=by rw[hws];rfl
   rw[Nat.add_zero,hw0]at cw;have HD2:=Za (show all.drop at1=(hd::wss)::all.drop (at1+1) by rw[HD.o,hws]);have HWS:=Za hws;clear hws hw0 hz HD;by_cases hstop:hd=cV∨hd=eB
   ·have HRES:=Za (show dI d left (all.drop at_)=some (done,left1,all.drop at1) by rw[HEQ.o,HD2.o,K5 d left1 hd wss _ hstop];simp);have HO:=Za (gH.yes HRES.o HB5.o.low HRD5.o (HB5.o.fin (fun l hl=>by have:=HBL.o l hl;omega)));by_cases he:hd=cV
    ·have h1:(hd==[101,110,100])=true:=by rw[he];rfl
     clear he hstop;go_wp2
     (try rw[Exit.noGoto_ret])
     go_ret2;exact HO.o
    ·have h1:(hd==[101,110,100])=false:=by rw[beq_eq_false_iff_ne];exact he
     have h2:(hd==[108,111,115,115])=true:=by rw[hstop.resolve_left he];rfl
     clear he hstop;go_wp2
     (try rw[Exit.noGoto_ret])
     go_ret2;exact HO.o
   have h1:(hd==[101,110,100])=false:=by rw[beq_eq_false_iff_ne];exact fun h=>hstop (.inl h)
   have h2:(hd==[108,111,115,115])=false:=by rw[beq_eq_false_iff_ne];exact fun h=>hstop (.inr h)
   have HSTOP:=Za hstop;clear hstop;by_cases hl0:left1=0
   ·have hl0e:((left1:Int)==0)=true:=vJ _ hl0;have HRES:=Za (show dI d left (all.drop at_)=none by
     rw[HEQ.o,HD2.o,hl0,LG d hd wss _ HSTOP.o];rfl)
    clear hl0;go_wp2
    (try rw[Exit.noGoto_ret])
    go_ret2;exact gH.no HRES.o HB5.o.low HRD5.o
   have hl0e:((left1:Int)==0)=false:=tO _ hl0;obtain⟨lm,hlm⟩:∃lm,left1=lm+1:=⟨left1-1,by omega⟩;have hlmI:(left1:Int)-1=(lm:Int):=by omega
   have HL0:=Za hl0;have HLM:=Za hlm;clear hl0 hlm;obtain⟨w6,hw6⟩:∃w6,w6=w5.setCell ⟨R,2,none⟩ (.int .i64 lm):=⟨_,rfl⟩;have HRD6:=Za (show bX w6 R (some ⟨b,off,none⟩) cap all at1 lm by rw[hw6];exact HRD5.o.setLeft lm (by have:=HLM.o;omega));have HB6:=Za (show gA w R done (.slice av done.length cv) w6 css by rw[hw6];exact HB5.o.next (nK _ _ _ _) HRL.o);have HW6:=Za (show fG w6 _ ws by rw[hw6];exact(HW5.o.set (Nat.lt_succ_self _) _).here);have HW6e:=Za hw6;clear hw6;have hwl:=HOKW.o.1;by_cases hres:ws=[dC]
   ·have HRS:=Za (show hd=dC∧wss=[] by have:=HWS.o;rw[hres]at this;injection this with h3 h4;exact⟨h3.symm,h4.symm⟩);have HRZ:=Za hres;clear hres;cases hdd:d with
    |zero=>
     have hdp:((deep:Int)==4)=true:=by rw[beq_iff_eq];omega
     have HRES:=Za (show dI d left (all.drop at_)=none by rw[HEQ.o,HD2.o,hdd,RF left1 hd wss _ HSTOP.o HL0.o HRS.o];rfl);clear hdd;go_wp2_with(go_at_call 179;rw[←HW6e.o];refine(oD _ ws dC _ HW6.o (by omega)).mono ?_;rintro e w7 ⟨rfl,rfl⟩;rw[decide_eq_true HRZ.o])
     (try rw[Exit.noGoto_ret])
     go_ret2;exact gH.no HRES.o HB6.o.low HRD6.o
    |succ d1=>
     have hdp:((deep:Int)==4)=false:=by rw[beq_eq_false_iff_ne];omega
     have HC:=Za (fun(W:World) (h:bX W R (some ⟨b,off,none⟩) cap all (at1+1) lm)=>HIN.o d1 hdd R (some ⟨b,off,none⟩) cap all (at1+1) lm (deep+1) W h HOK.o (by omega));simp only[Int.natCast_add,Int.cast_ofNat_Int]at HC;have HSTEP:=Za (show dE d left1 (all.drop at1)=(dI d1 lm (all.drop (at1+1))).bind fun q=>oK d1 q.1 q.2.1 q.2.2 by
      rw[HD2.o,hdd,SY d1 left1 hd wss _ HSTOP.o HL0.o HRS.o,HLM.o];rfl)
     have hd4:deep≤4:=by omega
     have HDD:=Za hdd;obtain⟨w7,hw7⟩:∃w7,w7=w6.setCell ⟨R,1,none⟩ (.int .i64 ((at1:Int)+1)):=⟨_,rfl⟩;have HRD7:=Za (show bX w7 R (some ⟨b,off,none⟩) cap all (at1+1) lm by rw[hw7];exact HRD6.o.setAt (at1+1) (by omega));have HB7:=Za (show gA w R done (.slice av done.length cv) w7 css by rw[hw7];exact HB6.o.next (nK _ _ _ _) HRL.o);have HW7e:=Za hw7;have d1c:=HRD6.o.box.q 1 rfl;have g1:=HRD6.o.box.free 1;clear hw7 hdd HIN;cases hbp:dI d1 lm (all.drop (at1+1))with
     |none=>
      have HRES:=Za (show dI d left (all.drop at_)=none by rw[HEQ.o,HSTEP.o,hbp];rfl);have HCC:=Za (A9 (HC.o _ HRD7.o) hbp);clear hbp;go_wp2_with(first|(go_at_call 179;rw[←HW6e.o];refine(oD _ ws dC _ HW6.o (by omega)).mono ?_;rintro e w7x ⟨rfl,rfl⟩;rw[decide_eq_true HRZ.o])|(go_at_call 156;rw[←HW7e.o];refine HCC.o.mono ?_;rintro e w8 ⟨rfl,hm8,at2,left2,hrd8⟩;refine aD ?_));clear c2 f2 cw h1 h2 hlmI d1c g1 hdp;have HB8:=Za (HB7.o.next hm8 HRL.o);have HRD8:=Za hrd8;have HLT7:=Za (fun k e=>(HB7.o.row.lt k e).2);clear hm8 hrd8;refine aC ?_;go_wp2;go_quiet(fail);go_wp2
      (try rw[Exit.noGoto_ret])
      go_ret2;exact gH.no HRES.o (HB8.o.low.trans (aN.moved ⟨_,rfl⟩)) (HRD8.o.same ⟨_,rfl⟩)
     |some q=>
      obtain⟨bd,l2,r2⟩:=q;have HBS:=Za (tH d1 _ _ _ hbp);have HCC:=Za (yA (HC.o _ HRD7.o) hbp);go_wp2_with(first|(go_at_call 179;rw[←HW6e.o];refine(oD _ ws dC _ HW6.o (by omega)).mono ?_;rintro e w7x ⟨rfl,rfl⟩;rw[decide_eq_true HRZ.o])|(go_at_call 156;rw[←HW7e.o];refine HCC.o.mono ?_;rintro e w8 ⟨vb,rfl,hm8,⟨at2,hrd8,hr2⟩,hvb⟩;have HR2:=Za hr2;clear hr2;refine aD ?_));clear c2 f2 cw h1 h2 hlmI d1c g1 hdp;have HB8:=Za (HB7.o.next hm8 HRL.o);have HRD8:=Za hrd8;have HLT7:=Za (fun k e=>(HB7.o.row.lt k e).2);have HST2:=Za (show dE d left1 (all.drop at1)=oK d1 bd l2 (all.drop at2) by rw[HSTEP.o,hbp,HR2.o];rfl);clear hrd8;have HVB:=Za hvb;obtain⟨ob,cb,rfl⟩:=HVB.o.here.len;have hle2:=HRD8.o.le;clear hbp hvb hm8 HSTEP;refine aC ?_;by_cases hlt2:at2<all.length
      ·obtain⟨b2,off2,ou2,cu2,_,hob,hc2,hw2⟩:=HRD8.o.line hlt2;cases hob;have HD8:=Za (rW hlt2);have HOKW2:=Za (HOK.o.words _ (List.getElem_mem hlt2));obtain⟨ws2,hws2⟩:∃ws2,ws2=all[at2]:=⟨_,rfl⟩;rw[←hws2]at hc2 hw2 HD8 HOKW2;have HW8:=Za hw2;have c0:=HRD8.o.box.q 0 rfl;have c1:=HRD8.o.box.q 1 rfl;have HMO:=Za (fun n=>qW (HRD8.o.same (w':=w8.drewN n) ⟨n,rfl⟩) hlen (decide_eq_true hlt2));have hlt2i:(at2:Int)<(all.length:Int):=by omega
       clear hw2 hws2;by_cases hend:ws2=[cV]
       ·have HIS:=Za (fun n=>BB (x:=cV) (HW8.o.grow (aN.below (w':=w8.drewN n) ⟨n,rfl⟩ _)).here HOKW2.o.1 (decide_eq_true hend));have HEQ2:=Za (yL (l:=.mk {bM with kind:=13} bd) HEQ.o (show dE d left1 (all.drop at1)=(dE d l2 (all.drop (at2+1))).map fun q=>(.mk {bM with kind:=13} bd::q.1,q.2) by rw[HST2.o,HD8.o,hend,HDD.o,oK,if_pos rfl]));have HL2:=Za (show at1+1≤at2∧bd.length+l2≤lm by have:=HBS.o;rw[←HR2.o]at this;simp only[List.length_drop]at this;omega);have HEND:=Za hend;clear hend HEQ HST2;go_wp2;go_quiet(first|(go_at_call 154;exact Calls.quiet_of (HMO.o _))|(go_at_call 179;exact Calls.quiet_of (HIS.o _)));obtain⟨w9,hw9⟩:∃w9,w9=w8.drewN nq:=⟨_,rfl⟩;have hsm9:aN w8 w9:=⟨nq,hw9⟩;rw[←hw9];have HRD9:=Za (HRD8.o.same hsm9);have HB9:=Za (HB8.o.next hsm9.moved HRL.o);have HVB9:=Za (HVB.o.grow (hsm9.below _));obtain⟨W,hW⟩:∃W,W=w9.setCell ⟨R,1,none⟩ (.int .i64 ((at2:Int)+1)):=⟨_,rfl⟩;have hRL:=HRL.o;have hs7:=HB7.o.low.size;have HRDW:=Za (show bX W R (some ⟨b,off,none⟩) cap all (at2+1) l2 by rw[hW];exact HRD9.o.setAt (at2+1) (by omega));have HBW:=Za (show gA w R done (.slice av done.length cv) W css by rw[hW];exact HB9.o.next (nK _ _ _ _) HRL.o);have HVW:=Za (show aI (aL w7.heap.size W) W (fun W=>bF W (.slice ob bd.length cb) bd) by rw[hW];exact HVB9.o.set (by omega) _);have HWE:=Za hW;have HSW:=Za (show W.heap.size=w9.heap.size by rw[hW,World.size_setCell]);have e1:=HRD9.o.box.q 1 rfl;have g1:=HRD9.o.box.free 1;clear hsm9 hw9 c0 c1 hc2 hW hs7;go_wp2_with(at_builtin;rw[←HWE.o];refine wpList_append_own_at _ rfl _ _ 31 rfl w.heap.size 175 i0 (.agg #[.int .i64 0,.int .i64 0,.int .i64 0,.int .i64 0,.int .i64 0,.int .i64 0,.int .i64 0,.int .i64 0,.slice none 0 0]) 9 88 Tryz.underlying31 hi hz0 hz1 hz2 rfl (by decide) _ _ _ rfl (cF HBW.o.row ((Zc _ _).alloc (Zb _) _) (Zb _)) ⟨w9.heap.size,0,none⟩ 1 1 (({bM with kind:=13}:aG).cells (.slice ob bd.length cb)) rfl rfl (fun j u hj=>by have:=fS W (({bM with kind:=13}:aG).cells (.slice ob bd.length cb)) 175 (0,0) j u hj;rw[HSW.o]at this;exact this) (by simp[aG.cells,Value.oneCell']) (by unfold maxLen;omega) (by omega) (by have:=HBW.o.low.size;simp;omega) ?_;intro v8 w11 ho8 hg8 hn8 hat8;refine aD ?_);have HB11:=Za (HBW.o.snoc (l:=.mk {bM with kind:=13} bd) HRL.o (u:=.slice ob bd.length cb) (HVW.o.mono fun k hk=>⟨⟨Nat.le_trans HB7.o.low.size hk.1,hk.2⟩,fun e=>by have:=HLT7.o k e;have:=hk.1;omega⟩) ho8 hg8 hat8);have hbx8:aA w11 R 191 #[.slice (some ⟨b,off,none⟩) all.length cap,.int .i64 ((at2+1:Nat):Int),.int .i64 l2]:=(HRDW.o.box.next ((Zc _ _).alloc (Zb _) _)).grownBy hg8 (fun k e=>by have:=(HBW.o.row.lt k e).1;have:=HRL.o;omega);have HX11:=Za (HH.o.back HB11.o.low hbx8 (by omega) (by have:=HRD9.o.lt;omega));obtain⟨a8,k8,rfl⟩:=aJ ho8;clear ho8 hg8 hn8 hat8 hbx8 e1 g1;refine aC ?_;go_wp2;go_roundg (all.length-(at2+1))
        case rel=>exact⟨at2+1,l2,done++[.mk {bM with kind:=13} bd],rfl,HX11.o,Za ⟨_,HB11.o⟩,Za ⟨a8,k8,by rw[Zl];rfl⟩,HEQ2,by rw[Zl,List.length_singleton];have:=HLM.o;have:=HL2.o;omega,Za (fun l hl=>by
         rcases List.mem_append.1 hl with hl|hl
         ·exact HBL.o l hl
         ·rw[List.mem_singleton.1 hl];have:=HL2.o;have:=HRD6.o.lt;simp only[aB.body];omega)⟩
        case measure=>have:=HL2.o;omega
       ·have HIS:=Za (fun n=>BB (x:=cV) (HW8.o.grow (aN.below (w':=w8.drewN n) ⟨n,rfl⟩ _)).here HOKW2.o.1 (decide_eq_false hend));have HRES:=Za (show dI d left (all.drop at_)=none by rw[HEQ.o,HST2.o,HD8.o,oK,if_neg hend];rfl);clear hend;go_wp2;go_quiet(first|(go_at_call 154;exact Calls.quiet_of (HMO.o _))|(go_at_call 179;exact Calls.quiet_of (HIS.o _)));go_wp2
        (try rw[Exit.noGoto_ret])
        go_ret2;exact gH.no HRES.o (HB8.o.low.trans (aN.moved ⟨_,rfl⟩)) (HRD8.o.same ⟨_,rfl⟩)
      ·have HRES:=Za (show dI d left (all.drop at_)=none by rw[HEQ.o,HST2.o,List.drop_eq_nil_of_le (by omega)];rfl);have HMO:=Za (fun n=>qW (HRD8.o.same (w':=w8.drewN n) ⟨n,rfl⟩) hlen (decide_eq_false hlt2));go_wp2;go_quiet((go_at_call 154;exact Calls.quiet_of (HMO.o _)));go_wp2
       (try rw[Exit.noGoto_ret])
       go_ret2;exact gH.no HRES.o (HB8.o.low.trans (aN.moved ⟨_,rfl⟩)) (HRD8.o.same ⟨_,rfl⟩)
   have HRS:=Za (show ¬(hd=dC∧wss=[])from fun h=>hres (by rw[HWS.o,h.1,h.2]));have HRZ:=Za hres;clear hres;have HSTEP:=Za (show dE d left1 (all.drop at1)=(dY ws).bind fun n=>(dE d lm (all.drop (at1+1))).map fun q=>(.mk n []::q.1,q.2) by
    rw[HD2.o,R7 d left1 hd wss _ HSTOP.o HL0.o HRS.o,←HWS.o,HLM.o];rfl)
   cases hone:dY ws with
   |none=>
    have HONE:=Za (fun p=>JR p _ ws _ HW6.o hpos (by omega) HOKW.o.2 hone);have HRES:=Za (show dI d left (all.drop at_)=none by rw[HEQ.o,HSTEP.o,hone];rfl);clear hone;go_wp2_with(first|(go_at_call 179;rw[←HW6e.o];refine(oD _ ws dC _ HW6.o (by omega)).mono ?_;rintro e w7 ⟨rfl,rfl⟩;rw[decide_eq_false HRZ.o])|(go_at_call 180;refine(HONE.o _).mono ?_;rintro e w7 ⟨rfl,hb7⟩;refine aD ?_));have HRD7:=Za (HRD6.o.next hb7);have HB7:=Za (HB6.o.next (gI hb7) HRL.o);clear hb7 c2 f2 cw h1 h2 hlmI;refine aC ?_;go_wp2
    (try rw[Exit.noGoto_ret])
    go_ret2;exact gH.no HRES.o (HB7.o.low.trans (gI ((Zc _ _).alloc (Zb _) _))) (HRD7.o.next ((Zc _ _).alloc (Zb _) _))
   |some n=>
    have HEQ2:=Za (yL (l:=.mk n []) HEQ.o (show dE d left1 (all.drop at1)=(dE d lm (all.drop (at1+1))).map fun q=>(.mk n []::q.1,q.2) by rw[HSTEP.o,hone];rfl));have HONE:=Za (fun p=>RQ p _ ws n _ HW6.o hpos (by omega) HOKW.o.2 hone);clear hone HEQ;go_wp2_with(first|(go_at_call 179;rw[←HW6e.o];refine(oD _ ws dC _ HW6.o (by omega)).mono ?_;rintro e w7 ⟨rfl,rfl⟩;rw[decide_eq_false HRZ.o])|(go_at_call 180;refine(HONE.o _).mono ?_;rintro e w7 ⟨rfl,hb7⟩;refine aD ?_));have HRD7:=Za (HRD6.o.next hb7);have HB7:=Za (HB6.o.next (gI hb7) HRL.o);clear hb7 c2 f2 cw h1 h2 hlmI;have hR7:=HRD7.o.box.lt;have hsz7:=HB7.o.low.size;obtain⟨W7,hW7⟩:∃W7,W7=w7.alloc (.cells #[.int .i64 n.kind,.int .i64 n.inn,.int .i64 n.o,.int .i64 n.size,.int .i64 n.stride,.int .i64 n.pad,.int .i64 n.percent,.int .i64 n.heads,.slice none 0 0] 175):=⟨_,rfl⟩;have HBA:=Za (show gA w R done (.slice av done.length cv) W7 css by rw[hW7];exact HB7.o.next (gI ((Zc _ _).alloc (Zb _) _)) HRL.o);have HRDA:=Za (show bX W7 R (some ⟨b,off,none⟩) cap all at1 lm by rw[hW7];exact HRD7.o.next ((Zc _ _).alloc (Zb _) _));have HW7:=Za hW7;have HSW:=Za (show W7.heap.size=w7.heap.size+1 by rw[hW7];simp);clear hW7;refine aC ?_;go_wp2_with(at_builtin;rw[←HW7.o];refine wpList_append_own_at _ rfl _ _ 31 rfl w.heap.size 175 i0 (.agg #[.int .i64 0,.int .i64 0,.int .i64 0,.int .i64 0,.int .i64 0,.int .i64 0,.int .i64 0,.int .i64 0,.slice none 0 0]) 9 88 Tryz.underlying31 hi hz0 hz1 hz2 rfl (by decide) _ _ _ rfl (cF HBA.o.row ((Zc _ _).alloc (Zb _) _) (Zb _)) ⟨w7.heap.size+1,0,none⟩ 1 1 (n.cells (.slice none 0 0)) rfl rfl (fun j u hj=>by have:=fS W7 (n.cells (.slice none 0 0)) 175 (0,0) j u hj;rw[HSW.o]at this;exact this) (by simp[aG.cells,Value.oneCell']) (by unfold maxLen;omega) (by omega) (by have:=HBA.o.low.size;simp;omega) ?_;intro v8 w8 ho8 hg8 hn8 hat8;refine aD ?_);have HB8:=Za (HBA.o.snoc (l:=.mk n []) HRL.o (u:=.slice none 0 0) (fun W _=>⟨none,0,rfl,by rw[aB.body,cO];trivial⟩) ho8 hg8 hat8);have hbx8:aA w8 R 191 #[.slice (some ⟨b,off,none⟩) all.length cap,.int .i64 at1,.int .i64 lm]:=(HRDA.o.box.next ((Zc _ _).alloc (Zb _) _)).grownBy hg8 (fun k e=>by have:=(HBA.o.row.lt k e).1;have:=HRL.o;omega);obtain⟨a8,k8,rfl⟩:=aJ ho8;have d1:=hbx8.q 1 rfl;have g1:=hbx8.free 1;have HX8:=Za hbx8;have hle8:=HRL.o;clear ho8 hg8 hn8 hat8 hbx8;refine aC ?_;go_wp2;have HM9:=Za (nK w8 R 1 (.int .i64 ((at1+1:Nat):Int)));have HB9:=Za (HB8.o.next HM9.o HRL.o);have HX9:=Za (show bX (w8.setCell ⟨R,1,none⟩ (.int .i64 ((at1+1:Nat):Int))) R (some ⟨b,off,none⟩) cap all (at1+1) lm from HH.o.back HB9.o.low (HX8.o.set 1 _) (by omega) (by have:=HLM.o;omega));go_roundg (all.length-(at1+1))
    case rel=>exact⟨at1+1,lm,done++[.mk n []],rfl,HX9.o,Za ⟨_,HB9.o⟩,Za ⟨a8,k8,by rw[Zl];rfl⟩,HEQ2,by rw[Zl,List.length_singleton];have:=HLM.o;omega,Za (fun l hl=>by
     rcases List.mem_append.1 hl with hl|hl
     ·exact HBL.o l hl
     ·rw[List.mem_singleton.1 hl];simp[aB.body])⟩
    case measure=>omega
  ·have hae:at1=all.length:=by omega
   have HD:=Za (show all.drop at1=[] from List.drop_eq_nil_of_le (by omega));have HRES:=Za (show dI d left (all.drop at_)=some (done,left1,all.drop at1) by rw[HEQ.o,HD.o,LS];simp);go_wp2_with(go_at_call 154;refine(nV HRD.o hlen).mono ?_;rintro e w4 ⟨rfl,hsm⟩;rw[decide_eq_false hlt];refine aD ?_);have HO:=Za (gH.yes HRES.o (HB.o.next hsm.moved HRL.o).low (HRD.o.same hsm) ((HB.o.next hsm.moved HRL.o).fin (fun l hl=>by have:=HBL.o l hl;omega)));clear hsm;refine aC ?_;go_wp2
   (try rw[Exit.noGoto_ret])
   go_ret2;exact HO.o
theorem I6:∀d,wV d:=by
 intro d
 induction d with
 |zero=>exact A7 0 (fun d' h=>by cases h)
 |succ d ih=>exact A7 (d+1) (fun d' h=>by cases h;exact ih)
end Go.Proofs.YtjhkdocidcfpdaaGreatDoor
