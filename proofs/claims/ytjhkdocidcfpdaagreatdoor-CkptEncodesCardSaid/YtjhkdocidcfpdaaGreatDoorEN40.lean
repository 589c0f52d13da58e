/- A part of the proof. -/
import Derived.Test.YtjhkdocidcfpdaaGreatDoorEN33
import Derived.Test.YtjhkdocidcfpdaaGreatDoorEN39
set_option linter.unusedVariables false
set_option linter.unusedSimpArgs false
set_option maxRecDepth 100000
set_option maxHeartbeats 16000000
open List renaming length_append → Zl
namespace Go.Proofs.YtjhkdocidcfpdaaGreatDoor
open Go.RowKit Go.Shelf Go
theorem O7 {d:bI} {p:List Int×List (List Int)} (h:eN d=some p):p.2.all bA=true:=by
 rw[eN]at h;cases hg:(dM d&&dQ d.input)with
 |false=>rw[hg]at h;cases h
 |true=>
  rw[hg]at h;simp only[if_true]at h;cases hw:bV true d.input d.lays with
  |none=>rw[hw]at h;cases h
  |some q=>
   rw[hw]at h;simp only at h;split at h
   ·cases h
   ·cases h;exact(nP true d.input (by simp only[Bool.and_eq_true]at hg;exact hg.2) d.lays _ hw).2
theorem SP {d:bI} {ss:List (List Int)} (h:dT d=some ss):(∀s∈ss,bA s=true)/\∀s∈ss,∀x∈s,x≠0:=by rw[dT,Option.map_eq_some_iff]at h;obtain⟨p,h1,rfl⟩:=h;have h2:=List.all_eq_true.1 (O7 h1);refine⟨h2,fun s hs x hx=>?_⟩;have h3:=h2 s hs;simp only[bA,Bool.and_eq_true]at h3;have:=(kZ x).1 (List.all_eq_true.1 h3.1.2 x hx);omega
def oP (W:World) (s:aT) (vi vl vp vm vv vr vc:Value):Prop:=dN W s vi vl vp vm vv vr vc/\mX W 0 vi vl vp vm vv vr vc
def RV (w:World) (R:Nat) (s:aT) (rest:List Int) (e:Ending) (w':World):Prop:=
 ∃vi vl vp vm vv vr vc,e=.returned (.agg (cG s vi vl vp vm vv vr vc))/\aI (aL (w.heap.size+1) w') w' (fun W=>oP W s vi vl vp vm vv vr vc)/\(∀o n c,vi=.slice o n c->n<=c)/\cV w w' R rest
theorem LL (w:World) (cs:Array Value) (T:TypeId):aA (w.alloc (.cells cs T)).drew w.heap.size T cs:=aA.new w T cs
theorem aA.keepSt {R n B:Nat} {a b:World} {T:TypeId} {cs:Array Value} (h:aA a B T cs) (hk:aZ R n a b) (hR:B≠R) (hn:B≠n):aA b B T cs:=(hk.block B h.lt hR hn).trans h
theorem VI {R n g j:Nat} {a b:World} {v:Value} (hk:aZ R n a b) (h:a.cell? ⟨g,j,none⟩=some v) (hR:g≠R) (hn:g≠n):b.cell? ⟨g,j,none⟩=some v:=(World.cell?_of_block (hk.block g (aP h) hR hn)).trans h
theorem AS {w w':World} {B:Nat} {e:TypeId} {s:Nat} {v:Value} {m R n:Nat} {xs:List Value} (h:w.ownsRow B e s v m xs) (hm:aZ R n w w') (hR:R<B) (hn:n<B):w'.ownsRow B e s v m xs:=by
 refine⟨h.1,?_⟩;rcases h.2 with hh|⟨g,cap,cur,rfl,hb,A,rest⟩
 ·exact .inl hh
 ·exact .inr ⟨g,cap,cur,rfl,hb,by rw[hm.block g (Array.getElem?_eq_some_iff.1 A).1 (by intro e;cases e;omega) (by intro e;cases e;omega)];exact A,rest⟩
theorem S2 {B:Nat} {W w':World} {e:TypeId} {s m:Nat} {v:Value} {xs:List Value} {o:Obj} (ho:W.ownsRow B e s v m xs) (hB:B<=W.heap.size) (hg:(W.alloc o).grownBy w' v.ownBlock):Below B W w':=
 ((Zc B W).alloc hB o).grown hg (by simp;omega) fun k hk=>(ho.lt k hk).1
theorem bM.belowB {w0 W w':World} {R B:Nat} {rem:List Int} {cs:Array Value} (h:bM w0 R rem cs W) (hb:Below B W w') (hB:w0.heap.size<B):bM w0 R rem cs w':=
 ⟨h.q.low (hb.mono (Nat.le_of_lt hB)) (Zb _),(hb.block _ hB).trans h.box⟩
theorem aZ.belowB {R n:Nat} {a W w':World} (hk:aZ R n a W) (hb:Below a.heap.size W w'):aZ R n a w':=⟨Nat.le_trans hk.size hb.size,fun k h1 h2 h3=>(hb.block k h1).trans (hk.block k h1 h2 h3)⟩
structure fT (w0 wb:World) (R:Nat) (e:TypeId) (K:IntKind) (E:Array Value) (j:Nat) (rem xs:List Int) (v:Value) (W:World):Prop where
 s:bM w0 R rem (E.setIfInBounds j v) W
 own:aH W wb.heap.size e K v xs
 keep:aZ R w0.heap.size wb W
section
variable {w0 wb W W':World} {R:Nat} {e:TypeId} {K:IntKind} {E:Array Value} {j:Nat} {rem rem' xs:List Int} {v:Value}
theorem fT.start {e:TypeId} {K:IntKind} (h:bM w0 R rem E wb) (hE:E[j]?=some (.slice none 0 0)):fT w0 wb R e K E j rem [] (.slice none 0 0) wb:=
 ⟨by rw[show E.setIfInBounds j (.slice none 0 0)=E from by
    obtain⟨hj,he⟩:=Array.getElem?_eq_some_iff.1 hE;rw[Array.setIfInBounds_def,dif_pos hj,<-he,Array.set_getElem_self]];exact h,World.ownsRow_nil _ _ _ _,aZ.refl _ _ _⟩
theorem fT.step (h:fT w0 wb R e K E j rem xs v W) (hR:R<w0.heap.size) (hw:w0.heap.size<wb.heap.size) (hs:bM w0 R rem' (E.setIfInBounds j v) W') (hk:aZ R w0.heap.size W W'):fT w0 wb R e K E j rem' xs v W':=
 ⟨hs,AS h.own hk (by omega) hw,h.keep.trans hk⟩
theorem fT.drew (h:fT w0 wb R e K E j rem xs v W) (hR:R<w0.heap.size) (hw:w0.heap.size<wb.heap.size):fT w0 wb R e K E j rem xs v W.drew:=
 h.step hR hw (h.s.next ((Zc _ _).drew)) (aZ.of_below ((Zc _ _).drew))
theorem fT.cell (h:fT w0 wb R e K E j rem xs v W) (hj:j<E.size):W.cell? ⟨w0.heap.size,j,none⟩=some v:=h.s.box.cell j (by simp[hj])
theorem fT.cellA (h:fT w0 wb R e K E j rem xs v W) (hj:j<E.size) (o:Obj):(W.alloc o).cell? ⟨w0.heap.size,j,none⟩=some v:=(h.s.next ((Zc _ _).alloc (Zb _) o)).box.cell j (by simp[hj])
theorem fT.put {x:Int} {v':Value} {o:Obj} (h:fT w0 wb R e K E j rem xs v W) (hR:R<w0.heap.size) (hw:w0.heap.size<wb.heap.size) (hj:j<E.size) (ho:W'.ownsRow wb.heap.size e 1 v' (xs.length+1) (xs.map (.int K)++[.int K x])) (hg:(W.alloc o).grownBy W' v.ownBlock):
  fT w0 wb R e K E j rem (xs++[x]) v' (W'.setCell ⟨w0.heap.size,j,none⟩ v')/\W'.cell? ⟨w0.heap.size,j,none⟩=some v/\W'.frozen? ⟨w0.heap.size,j,none⟩=false:=by
 have hb:=S2 h.own h.keep.size hg;have hs:=h.s.belowB hb hw;have ho':aH W' wb.heap.size e K v' (xs++[x]):=by
  show W'.ownsRow _ _ _ _ _ _
  rw[Zl,List.length_singleton,List.map_append];exact ho
 refine⟨⟨?_,AS ho' (aZ.set R w0.heap.size W' j v') (by omega) hw,(h.keep.belowB hb).trans (aZ.set R w0.heap.size W' j v')⟩,hs.box.cell j (by simp[hj]),hs.box.free j⟩;have:=hs.set j v'
 rwa [show(E.setIfInBounds j v).setIfInBounds j v'=E.setIfInBounds j v' from by simp]at this
end
theorem TT {n k:Nat} (hk:k<n) {rem rk xs:List Int} {fin:List Int×List Int} (he:fS n rem=(fS (n-k) rk).map fun q=>(xs++q.1,q.2)) (hp:fS n rem=some fin):
  ∃(x:Nat) (rk2:List Int),bL 8 rk=some (x,rk2)/\fS n rem=(fS (n-(k+1)) rk2).map fun q=>((xs++[(x:Int)])++q.1,q.2):=by
 obtain⟨m,hm⟩:∃m,n-k=m+1:=⟨n-k-1,by omega⟩;rw[show n-(k+1)=m by omega];rw[hm,fS]at he;cases hx:bL 8 rk with
 |none=>rw[hx,hp]at he;cases he
 |some p=>
  rw[hx,Option.bind_some,Option.map_map]at he;refine⟨p.1,p.2,rfl,he.trans ?_⟩
  congr 1
  funext q
  simp
theorem M6 {n k:Nat} (hk:k<n) {rem rk xs:List Int} {fin:List Int×List Int} (he:fW n rem=(fW (n-k) rk).map fun q=>(xs++q.1,q.2)) (hp:fW n rem=some fin):
  ∃(x:Nat) (rk2:List Int),cH 1024 rk=some (x,rk2)/\fW n rem=(fW (n-(k+1)) rk2).map fun q=>((xs++[(x:Int)])++q.1,q.2):=by
 obtain⟨m,hm⟩:∃m,n-k=m+1:=⟨n-k-1,by omega⟩;rw[show n-(k+1)=m by omega];rw[hm,fW]at he;cases hx:cH 1024 rk with
 |none=>rw[hx,hp]at he;cases he
 |some p=>
  rw[hx,Option.bind_some,Option.map_map]at he;refine⟨p.1,p.2,rfl,he.trans ?_⟩
  congr 1
  funext q
  simp
theorem NU {n:Nat} {rem rk xs fin rest:List Int} (he:fS n rem=(fS (n-n) rk).map fun q=>(xs++q.1,q.2)) (hp:fS n rem=some (fin,rest)):fin=xs/\rest=rk:=by rw[hp,Nat.sub_self,fS,Option.map_some]at he;have:=Option.some.inj he;simp only[List.append_nil,Prod.mk.injEq]at this;exact this
theorem IC {n:Nat} {rem rk xs fin rest:List Int} (he:fW n rem=(fW (n-n) rk).map fun q=>(xs++q.1,q.2)) (hp:fW n rem=some (fin,rest)):fin=xs/\rest=rk:=by rw[hp,Nat.sub_self,fW,Option.map_some]at he;have:=Option.some.inj he;simp only[List.append_nil,Prod.mk.injEq]at this;exact this
theorem IU (ss:List (List Int)):∀{rem rest:List Int} {ts:List aO},dH ss rem=some (ts,rest)->Wf .u8 rem->(∀s∈ss,bA s=true)->ts.length=ss.length/\∀t∈ts,t.Lim:=by
 induction ss with
 |nil=>intro rem rest ts h _ _;rw[dH]at h;cases h;exact⟨rfl,fun t ht=>absurd ht (List.not_mem_nil)⟩
 |cons s ss ih=>
  intro rem rest ts h hw hs;rw[dH,Option.bind_eq_some_iff]at h;obtain⟨p,h1,h2⟩:=h;rw[Option.map_eq_some_iff]at h2;obtain⟨q,h3,h4⟩:=h2;cases h4;obtain⟨hr,_,hl,_⟩:=vD _ h1 hw;obtain⟨i1,i2⟩:=ih h3 hr fun s' hs'=>hs s' (List.mem_cons_of_mem _ hs');have A:=hs s List.mem_cons_self;simp only[bA,Bool.and_eq_true,decide_eq_true_eq]at A;refine⟨by simp[i1],fun t ht=>?_⟩;rcases List.mem_cons.1 ht with rfl|ht
  ·refine⟨?_,?_⟩
   ·have:=A.1.1;simp only;omega
   ·have:=A.2;simp only;omega
  ·exact i2 t ht
theorem yF {ss:List (List Int)} {rem rest:List Int} {ts:List aO} (h:dH ss rem=some (ts,rest)) (hw:Wf .u8 rem) (hs:∀s∈ss,bA s=true) (hl:ss.length<=1000):eR ts:=by obtain⟨h1,h2⟩:=IU ss h hw hs;exact⟨by omega,h2⟩
theorem FH:eR []:=⟨by simp,fun t ht=>absurd ht (List.not_mem_nil)⟩
theorem bM.setRow {w0 W:World} {R:Nat} {rem:List Int} {cs:Array Value} (h:bM w0 R rem cs W) (ds:Array Value):bM w0 R rem ds (W.setRow w0.heap.size ds):=
 ⟨h.q.low (B:=w0.heap.size) (lO (Zc _ _) (Zb _) ds) (Zb _),h.box.setRow ds⟩
