/-
  A part of the proof of a law (packed by program).
-/
import Derived.WalkSpells
import Derived.WalkLawsBesides
import Derived.BigQuiet
import Derived.Lib.Hide
import Derived.Lib.SlBytesConst
import Derived.OrdersHeld
import Derived.Test.YtjhkdocidcfpdaaGreatDoorRows
set_option linter.unusedVariables false
set_option linter.unusedSimpArgs false
set_option maxRecDepth 100000
set_option maxHeartbeats 16000000
namespace Go.Proofs.YtjhkdocidcfpdaaGreatDoor
open Go.RowKit Go
def aE (l:List Int) (k:Nat):Int:=l.getD k 0
theorem fF (l:List Int) (k:Nat) (h:k<l.length):l.take (k+1)=l.take k++[aE l k]:=by rw[List.take_succ_eq_append_getElem h,aE,List.getD_eq_getElem?_getD,List.getElem?_eq_getElem h];rfl
theorem dK (l:List Int) (k:Nat) (h:k<l.length):aE l k=l[k]:=by rw[aE,List.getD_eq_getElem?_getD,List.getElem?_eq_getElem h];rfl
theorem mI (l:List Int) (k:Nat) (h:k<l.length):aE l k∈l:=by rw[dK l k h];exact List.getElem_mem h
theorem pH {a b:List Int} (hl:a.length=b.length) (h:∀k,k<a.length→aE a k=aE b k):a=b:=by
 apply List.ext_getElem hl;intro k h1 h2;have:=h k h1
 rwa [dK a k h1,dK b k h2]at this
theorem tO (n:Nat) (h:n≠0):((n:Int)==0)=false:=by rw[beq_eq_false_iff_ne];omega
theorem vJ (n:Nat) (h:n=0):((n:Int)==0)=true:=by rw[beq_iff_eq];omega
theorem NK (l:List Int) (j:Nat) (x:Int) (h:j<l.length):(l.set j x).set j (aE l j)=l:=by rw[List.set_set,dK l j h,List.set_getElem_self]
theorem xT (l:List Int) (j:Nat) (x:Int) (h:j<l.length):aE (l.set j x) j=x:=by rw[dK _ _ (by simpa using h),List.getElem_set_self]
theorem list1 {α:Type} {l:List α} (h:l.length=1):∃a,l=[a]:=match l,h with|[a],_=>⟨a,rfl⟩
theorem pN {α:Type} {l:List α} (h:l.length=2):∃a b,l=[a,b]:=match l,h with|[a,b],_=>⟨a,b,rfl⟩
theorem AK {α:Type} {l:List α} (h:l.length=3):∃a b c,l=[a,b,c]:=match l,h with|[a,b,c],_=>⟨a,b,c,rfl⟩
def o8 (x:Nat):Nat:=if x%2=1 then(x / 2)^^^3988292384 else x / 2
def jN:Nat→Nat→Nat
 |0,x=>x
 |n+1,x=>jN n (o8 x)
theorem CT (n x:Nat):jN (n+1) x=o8 (jN n x):=by
 induction n generalizing x with
 |zero=>rfl
 |succ n ih=>rw[jN,ih];rfl
def jI (k:Nat):Nat:=jN 8 k
def iP (s c:Nat):Nat:=(s / 256)^^^jI ((s%256)^^^c)
def iK (s:Nat) (l:List Int):Nat:=l.foldl (fun s c=>iP s c.toNat) s
def jU (l:List Int):Nat:=iK 4294967295 l^^^4294967295
theorem TQ (x:Nat) (h:x<4294967296):o8 x<4294967296:=by
 unfold o8;split
 ·exact Nat.xor_lt_two_pow (n:=32) (by omega) (by omega)
 ·omega
theorem BM (n x:Nat) (h:x<4294967296):jN n x<4294967296:=by
 induction n generalizing x with
 |zero=>exact h
 |succ n ih=>exact ih _ (TQ x h)
theorem xQ (k:Nat) (h:k<256):jI k<4294967296:=BM 8 k (by omega)
theorem oU (s c:Nat) (hs:s<4294967296) (hc:c<256):iP s c<4294967296:=
 Nat.xor_lt_two_pow (n:=32) (by omega) (xQ _ (Nat.xor_lt_two_pow (n:=8) (by omega) (by omega)))
theorem G2 (s:Nat) (l:List Int) (c:Int):iK s (l++[c])=iP (iK s l) c.toNat:=by simp[iK]
theorem xC (s:Nat) (l:List Int) (hs:s<4294967296) (h:∀x∈l,0≤x∧x<256):iK s l<4294967296:=by
 induction l generalizing s with
 |nil=>exact hs
 |cons c l ih=>
  have hc:=h c (List.mem_cons_self ..);exact ih _ (oU s c.toNat hs (by omega)) (fun x hx=>h x (List.mem_cons_of_mem _ hx))
def Rd (w:World) (K:IntKind) (v:Value) (xs:List Int):Prop:=
 ∃o cap,v=.slice o xs.length cap∧∀j,j<xs.length→∃b off,o=some ⟨b,off,none⟩∧w.cell? ⟨b,off+j,none⟩=some (.int K (aE xs j))
def Wf (K:IntKind) (xs:List Int):Prop:=∀x∈xs,(Lit.int K x).wf=true
theorem Wf.nth {K:IntKind} {xs:List Int} (h:Wf K xs) (k:Nat) (hk:k<xs.length):(Lit.int K (aE xs k)).wf=true:=h _ (mI xs k hk)
theorem Wf.take {K:IntKind} {xs:List Int} (h:Wf K xs) (k:Nat):Wf K (xs.take k):=fun x hx=>h x (List.mem_of_mem_take hx)
theorem kT {x:Int} (h:(Lit.int .u8 x).wf=true):0≤x∧x<256:=by simp[Lit.wf,IntKind.min,IntKind.max,IntKind.signed,IntKind.bits]at h;omega
def aN (w w':World):Prop:=∃n,w'=w.drewN n
theorem aN.refl (w:World):aN w w:=⟨0,rfl⟩
theorem aN.trans {a b c:World} (h:aN a b) (k:aN b c):aN a c:=by obtain⟨n,rfl⟩:=h;obtain⟨m,rfl⟩:=k;exact⟨n+m,World.drewN_drewN _ _ _⟩
theorem aN.below {w w':World} (h:aN w w') (B:Nat):Below B w w':=by obtain⟨n,rfl⟩:=h;exact⟨rfl,rfl,rfl,Nat.le_refl _,fun _ _=>rfl⟩
theorem aN.heap {w w':World} (h:aN w w'):w'.heap=w.heap:=by obtain⟨n,rfl⟩:=h;rfl
theorem aP {w:World} {b o:Nat} {v:Value} (h:w.cell? ⟨b,o,none⟩=some v):b<w.heap.size:=World.block_lt_of_cell? w _ h
theorem Rd.below {w w':World} {K:IntKind} {v:Value} {xs:List Int} {B:Nat} (h:Rd w K v xs) (hB:Below B w w') (hs:w.heap.size≤B):Rd w' K v xs:=by obtain⟨o,cap,rfl,hc⟩:=h;refine⟨o,cap,rfl,fun j hj=>?_⟩;obtain⟨b,off,rfl,h⟩:=hc j hj;exact⟨b,off,rfl,(hB.cell (p:=⟨b,off+j,none⟩) (Nat.lt_of_lt_of_le (aP h) hs)).trans h⟩
theorem Rd.nil (w:World) (K:IntKind) (o:Option Addr) (cap:Nat):Rd w K (.slice o 0 cap) []:=⟨o,cap,rfl,fun _ h=>absurd h (Nat.not_lt_zero _)⟩
theorem Rd.of_own {w:World} {B:Nat} {e:TypeId} {K:IntKind} {v:Value} {n:Nat} {xs:List Int} (h:w.ownsRow B e 1 v n (xs.map (.int K))):Rd w K v xs:=by
 obtain⟨h1,h2⟩:=h;have hl:xs.length=n:=by simpa using h1
 subst hl;rcases h2 with⟨rfl,h0⟩|⟨g,cap,cur,rfl,_,hg,_,_,_,ht⟩
 ·have:xs=[]:=List.eq_nil_of_length_eq_zero h0;subst this;exact Rd.nil _ _ _ _
 ·refine⟨_,cap,rfl,fun j hj=>⟨g,0,rfl,?_⟩⟩;have hx:(xs.map (Value.int K))[j]?=some (.int K (aE xs j)):=by rw[List.getElem?_map,List.getElem?_eq_getElem hj,dK xs j hj];rfl
  rw[←ht,List.getElem?_take,if_pos (by omega)]at hx;rw[Nat.zero_add,cell_of_row w g j cur e (0,0) hg]
  simpa using hx
theorem Rd.alloc {w:World} {K:IntKind} {v:Value} {xs:List Int} (h:Rd w K v xs) (o:Obj):Rd (w.alloc o) K v xs:=
 h.below ((Below.refl _ _).alloc (Nat.le_refl _) o) (Nat.le_refl _)
theorem cF {w w':World} {B C:Nat} {e:TypeId} {s:Nat} {v:Value} {n:Nat} {xs:List Value} (h:w.ownsRow B e s v n xs) (hB:Below C w w') (hs:w.heap.size≤C):w'.ownsRow B e s v n xs:=by
 refine⟨h.1,?_⟩;rcases h.2 with hn|⟨g,cap,cur,rfl,hb,hgg,rest⟩
 ·exact .inl hn
 ·exact .inr ⟨g,cap,cur,rfl,hb,by rw[hB.block g (Nat.lt_of_lt_of_le (Array.getElem?_eq_some_iff.1 hgg).1 hs)];exact hgg,rest⟩
theorem Rd.same {w w':World} {K:IntKind} {v:Value} {xs:List Int} (h:Rd w K v xs) (hs:aN w w'):Rd w' K v xs:=h.below (hs.below w.heap.size) (Nat.le_refl _)
theorem lE {w w':World} {B:Nat} {e:TypeId} {s:Nat} {v:Value} {n:Nat} {xs:List Value} (h:w.ownsRow B e s v n xs) (hs:aN w w'):w'.ownsRow B e s v n xs:=cF h (hs.below w.heap.size) (Nat.le_refl _)
theorem Rd.new (w:World) (K:IntKind) (xs:List Int) (e:TypeId) (c:Nat) (fz:Nat×Nat):Rd (w.alloc (.cells (xs.map (Value.int K)).toArray e fz)) K (.slice (some ⟨w.heap.size,0,none⟩) xs.length c) xs:=by refine⟨_,c,rfl,fun j hj=>⟨w.heap.size,0,rfl,?_⟩⟩;rw[Nat.zero_add,cell_of_row _ w.heap.size j _ e fz (heap_alloc_new w _)];simp[dK xs j hj,hj]
abbrev aH (w:World) (B:Nat) (e:TypeId) (K:IntKind) (v:Value) (xs:List Int):Prop:=w.ownsRow B e 1 v xs.length (xs.map (.int K))
theorem aJ {w:World} {B:Nat} {e:TypeId} {s:Nat} {v:Value} {n:Nat} {xs:List Value} (h:w.ownsRow B e s v n xs):∃a cap,v=.slice a n cap:=by
 rcases h.2 with⟨rfl,rfl⟩|⟨g,cap,cur,rfl,_⟩
 ·exact⟨none,0,rfl⟩
 ·exact⟨_,cap,rfl⟩
theorem cD {w:World} {B C:Nat} {e:TypeId} {s:Nat} {v:Value} {n:Nat} {xs:List Value} (h:w.ownsRow B e s v n xs) (hC:C≤B):w.ownsRow C e s v n xs:=by
 refine⟨h.1,?_⟩;rcases h.2 with hn|⟨g,cap,cur,rfl,hb,rest⟩
 ·exact .inl hn
 ·exact .inr ⟨g,cap,cur,rfl,Nat.le_trans hC hb,rest⟩
theorem rG (K:IntKind) (n:Nat):(madeCells (Value.int K 0).cells (n*1)).toList=(List.replicate n (0:Int)).map (Value.int K):=by
 rw[Nat.mul_one];apply List.ext_getElem
 ·simp[madeCells]
 ·intro i h1 h2;simp[madeCells,Value.cells,Nat.mod_one]
theorem aH.made {w:World} {B:Nat} {e:TypeId} {K:IntKind} {v:Value} {n:Nat} (h:w.ownsRow B e 1 v n (madeCells (Value.int K 0).cells (n*1)).toList):aH w B e K v (List.replicate n 0):=by
 rw[rG]at h
 simpa [aH]using h
theorem lW {w w':World} (h:w.grownBy w' none):Below w.heap.size w w':=
 (Below.refl _ _).grown h (Nat.le_refl _) (fun _ e=>by cases e)
theorem aU {w:World} {K:IntKind} {v:Value} {xs:List Int} (h:Rd w K v xs):∃o cap,v=.slice o xs.length cap:=by obtain⟨o,cap,rfl,_⟩:=h;exact⟨o,cap,rfl⟩
theorem Rd.cell {w:World} {K:IntKind} {o:Option Addr} {n cap:Nat} {xs:List Int} (h:Rd w K (.slice o n cap) xs) (j:Nat) (hj:j<xs.length):
  ∃b off,o=some ⟨b,off,none⟩∧w.cell? ⟨b,off+j,none⟩=some (.int K (aE xs j)):=by obtain⟨o',cap',he,hc⟩:=h;simp at he;obtain⟨rfl,_,_⟩:=he;exact hc j hj
def aA (w:World) (B:Nat) (T:TypeId) (cs:Array Value):Prop:=w.heap[B]?=some (.cells cs T (0,0))
theorem aA.new (w:World) (T:TypeId) (cs:Array Value):aA (w.alloc (.cells cs T)) w.heap.size T cs:=heap_alloc_new w _
theorem aA.below {w w':World} {B C:Nat} {T:TypeId} {cs:Array Value} (h:aA w B T cs) (hB:Below C w w') (hC:B<C):aA w' B T cs:=(hB.block B hC).trans h
theorem aA.lt {w:World} {B:Nat} {T:TypeId} {cs:Array Value} (h:aA w B T cs):B<w.heap.size:=(Array.getElem?_eq_some_iff.1 h).1
theorem aA.same {w w':World} {B:Nat} {T:TypeId} {cs:Array Value} (h:aA w B T cs) (hs:aN w w'):aA w' B T cs:=h.below (hs.below w.heap.size) h.lt
theorem aA.next {w w':World} {B:Nat} {T:TypeId} {cs:Array Value} (h:aA w B T cs) (hB:Below w.heap.size w w'):aA w' B T cs:=h.below hB h.lt
theorem aA.cell {w:World} {B:Nat} {T:TypeId} {cs:Array Value} (h:aA w B T cs) (j:Nat) {v:Value} (hj:cs[j]?=some v):w.cell? ⟨B,j,none⟩=some v:=by rw[cell_of_row w B j cs T (0,0) h];exact hj
theorem aA.free {w:World} {B:Nat} {T:TypeId} {cs:Array Value} (h:aA w B T cs) (j:Nat):w.frozen? ⟨B,j,none⟩=false:=by unfold aA at h;simp[World.frozen?,h]
theorem aA.set {w:World} {B:Nat} {T:TypeId} {cs:Array Value} (h:aA w B T cs) (j:Nat) (v:Value):aA (w.setCell ⟨B,j,none⟩ v) B T (cs.setIfInBounds j v):=by unfold aA at h ⊢;simp[World.setCell,Array.getElem?_modify,h]
theorem aA.other {w:World} {B:Nat} {T:TypeId} {cs:Array Value} (h:aA w B T cs) {p:Addr} (hp:p.block≠B) (v:Value):aA (w.setCell p v) B T cs:=by unfold aA at h ⊢;rw[Below.heap_setCell _ _ _ _ (fun e=>hp e.symm)];exact h
theorem lL {w:World} {B:Nat} {e:TypeId} {K:IntKind} {v:Value} {xs:List Int} {x:Int} (h:w.ownsRow B e 1 v (xs.length+1) (xs.map (Value.int K)++[.int K x])):aH w B e K v (xs++[x]):=by simpa [aH]using h
theorem wP {w:World} {B:Nat} {e:TypeId} {K:IntKind} {v:Value} {xs ys:List Int} {m:Nat} (h:w.ownsRow B e 1 v (xs.length+m) (xs.map (Value.int K)++ys.map (Value.int K))) (hm:m=ys.length):aH w B e K v (xs++ys):=by
 subst hm
 simpa [aH]using h
theorem vG {w wr w1:World} {B C:Nat} {e:TypeId} {s:Nat} {v:Value} {n:Nat} {xs:List Value} {o:Obj} (hB:Below C w wr) (hb:C≤w.heap.size) (h:wr.ownsRow B e s v n xs) (hg:(wr.alloc o).grownBy w1 v.ownBlock) (hC:C≤B:=by exact Nat.le_refl _):Below C w w1:=
 (hB.alloc (Nat.le_trans hb hB.size) o).grown hg (by have:=hB.size;simp;omega) fun k hk=>Nat.le_trans hC (h.lt k hk).1
theorem fS (w:World) (l:List Value) (e:TypeId) (fz:Nat×Nat):∀(j:Nat) (u:Value),l[j]?=some u→(w.alloc (.cells l.toArray e fz)).cell? ((⟨w.heap.size,0,none⟩:Addr).add j)=some u:=fun j u h=>by
 rw[Addr.add_lit,Nat.zero_add,cell_of_row _ w.heap.size j _ e fz (heap_alloc_new w _)]
 simpa using h
theorem aD {p:Prop} (h:Hid p):p:=h
theorem aC {p:Prop} (h:p):Hid p:=h
theorem aH.at {w:World} {B:Nat} {e:TypeId} {K:IntKind} {v:Value} {xs:List Int} (h:aH w B e K v xs) (h0:0<xs.length):
  ∃g cap,v=.slice (some ⟨g,0,none⟩) xs.length cap∧B≤g∧g<w.heap.size:=by
 rcases h.2 with⟨rfl,hn⟩|⟨g,cap,cur,rfl,hb,hg,_⟩
 ·omega
 ·exact⟨g,cap,rfl,hb,(Array.getElem?_eq_some_iff.1 hg).1⟩
theorem aH.cell {w:World} {B:Nat} {e:TypeId} {K:IntKind} {g n cap:Nat} {xs:List Int} (h:aH w B e K (.slice (some ⟨g,0,none⟩) n cap) xs) (j:Nat) (hj:j<xs.length):
  w.cell? ⟨g,j,none⟩=some (.int K (aE xs j))∧w.frozen? ⟨g,j,none⟩=false:=by
 rcases h.2 with⟨h1,_⟩|⟨g',cap',cur,h1,hb,hg,_,_,_,ht⟩
 ·simp at h1
 ·simp at h1;obtain⟨rfl,_,_⟩:=h1;have hx:(xs.map (Value.int K))[j]?=some (.int K (aE xs j)):=by rw[List.getElem?_map,List.getElem?_eq_getElem hj,dK xs j hj];rfl
  rw[←ht,List.getElem?_take,if_pos (by omega)]at hx;refine⟨?_,?_⟩
  ·rw[cell_of_row w g j cur e (0,0) hg];simpa using hx
  ·simp[World.frozen?,hg]
theorem aH.set {w:World} {B:Nat} {e:TypeId} {K:IntKind} {g n cap:Nat} {xs:List Int} (h:aH w B e K (.slice (some ⟨g,0,none⟩) n cap) xs) (j:Nat) (x:Int):
  aH (w.setCell ⟨g,j,none⟩ (.int K x)) B e K (.slice (some ⟨g,0,none⟩) n cap) (xs.set j x):=by
 refine⟨by simp,?_⟩;rcases h.2 with⟨h1,_⟩|⟨g',cap',cur,h1,hb,hg,h4,h5,h6,ht⟩
 ·simp at h1
 ·simp at h1;obtain⟨rfl,rfl,rfl⟩:=h1;refine .inr ⟨g,cap,cur.setIfInBounds j (.int K x),by simp,hb,by simp[World.setCell,Array.getElem?_modify,hg],by simpa using h4,h5,by simpa using h6,?_⟩;rw[Array.toList_setIfInBounds,List.take_set,List.length_set,ht,List.map_set]
theorem _root_.Go.RowKit.Hid.o {p:Prop} (h:Hid p):p:=h.out
theorem Za {p:Prop} (h:p):Hid p:=h
theorem Zb (n:Nat):n≤n:=Nat.le_refl n
theorem Zc (B:Nat) (w:World):Below B w w:=Below.refl B w
theorem Zd {a b:Prop} (h:a) (k:b):a∧b:=⟨h,k⟩
theorem Ze (n:Nat):0≤n:=Nat.zero_le n
def gL {α:Type}:List α→Nat→Option α
 |[],_=>none
 |a::_,0=>some a
 |_::l,n+1=>gL l n
theorem CG {α:Type}:∀(l:List α) (n:Nat),gL l n=l[n]?
 |[],_=>rfl
 |_::_,0=>rfl
 |_::l,n+1=>by rw[gL,CG l n];rfl
theorem aA.q {w:World} {B:Nat} {T:TypeId} {cs:Array Value} (h:aA w B T cs) (j:Nat) {v:Value} (hj:gL cs.toList j=some v):w.cell? ⟨B,j,none⟩=some v:=
 h.cell j (by rw[CG]at hj;simpa using hj)
section
variable {P:Program} {ops:Array Oper} {Q:Exit→Act→World→Prop} {md:Region.Mode} {S:World→Prop}
theorem tk (i:Nat) {oi:Oper} (v:Value) {fuel:Nat} {listed:Array Bool} {a:Act} {w:World} (hy:∀w,S w→(execOp a.eval oi).run P w=.ok (.value v) w)
  (h:wpAnyH P md ops Q S fuel (listed.setIfInBounds i true) (a.put oi.dst v) w) (hi:ops[i]?=some oi:=by rfl)
  (hs:Region.noSelect ops=true:=by kernel_rfl) (hf:Region.free md ops listed i=true:=by kernel_rfl) (hr:(Region.ready md ops listed).contains i=true:=by kernel_rfl)
  (hQ:∀c a w,Q (.panic c) (a.put oi.dst v) w→Q (.panic c) a w:=by exact fun _ _ _ h=>h) (hw:Region.wanted oi (yielded ops a.tmps)=true:=by rfl) (hS:S w:=by assumption):wpAnyH P md ops Q S (fuel+1) listed a w:=
 wpAnyH_take hi hs hf hr hQ (Or.inl ⟨hw,hy⟩) hS h
theorem sk (i:Nat) {oi:Oper} {fuel:Nat} {listed:Array Bool} {a:Act} {w:World}
  (h:wpAnyH P md ops Q S fuel (listed.setIfInBounds i true) (a.put oi.dst undef) w) (hi:ops[i]?=some oi:=by rfl)
  (hs:Region.noSelect ops=true:=by kernel_rfl) (hf:Region.free md ops listed i=true:=by kernel_rfl) (hr:(Region.ready md ops listed).contains i=true:=by kernel_rfl)
  (hQ:∀c a w,Q (.panic c) (a.put oi.dst undef) w→Q (.panic c) a w:=by exact fun _ _ _ h=>h) (hw:Region.wanted oi (yielded ops a.tmps)=false:=by rfl) (hS:S w:=by assumption):wpAnyH P md ops Q S (fuel+1) listed a w:=
 wpAnyH_take hi hs hf hr hQ (Or.inr ⟨hw,rfl⟩) hS h
end
end Go.Proofs.YtjhkdocidcfpdaaGreatDoor
