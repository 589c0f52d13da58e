/- A part of the proof. -/
import Derived.WalkSpells
import Derived.WalkLawsBesides
import Derived.BigQuiet
import Derived.Lib.Hide
import Derived.Lib.SlBytesConst
import Derived.OrdersHeld
import Derived.Test.YtjhkdocidcfpdaaGreatDoorRows
set_option linter.unusedVariables false
set_option linter.unusedSimpArgs false
set_option maxRecDepth 100000
set_option maxHeartbeats 16000000
namespace Go.Proofs.YtjhkdocidcfpdaaGreatDoor
open Go.RowKit Go
def aF (l:List Int) (k:Nat):Int:=l.getD k 0
theorem fG (l:List Int) (k:Nat) (h:k<l.length):l.take (k+1)=l.take k++[aF l k]:=by rw[List.take_succ_eq_append_getElem h,aF,List.getD_eq_getElem?_getD,List.getElem?_eq_getElem h];rfl
theorem dO (l:List Int) (k:Nat) (h:k<l.length):aF l k=l[k]:=by rw[aF,List.getD_eq_getElem?_getD,List.getElem?_eq_getElem h];rfl
theorem mS (l:List Int) (k:Nat) (h:k<l.length):aF l k∈l:=by rw[dO l k h];exact List.getElem_mem h
theorem rE {a b:List Int} (hl:a.length=b.length) (h:∀k,k<a.length->aF a k=aF b k):a=b:=by
 apply List.ext_getElem hl;intro k h1 h2;have:=h k h1
 rwa [dO a k h1,dO b k h2]at this
theorem xA (n:Nat) (h:n≠0):((n:Int)==0)=false:=by rw[beq_eq_false_iff_ne];omega
theorem vQ (n:Nat) (h:n=0):((n:Int)==0)=true:=by rw[beq_iff_eq];omega
theorem list1 {α:Type} {l:List α} (h:l.length=1):∃a,l=[a]:=match l,h with|[a],_=>⟨a,rfl⟩
theorem qG {α:Type} {l:List α} (h:l.length=2):∃a b,l=[a,b]:=match l,h with|[a,b],_=>⟨a,b,rfl⟩
theorem CI {α:Type} {l:List α} (h:l.length=3):∃a b c,l=[a,b,c]:=match l,h with|[a,b,c],_=>⟨a,b,c,rfl⟩
def kD (x:Nat):Nat:=if x%2=1 then(x / 2)^^^3988292384 else x / 2
def eX:Nat->Nat->Nat
 |0,x=>x
 |n+1,x=>eX n (kD x)
theorem FQ (n x:Nat):eX (n+1) x=kD (eX n x):=by
 induction n generalizing x with
 |zero=>rfl
 |succ n ih=>rw[eX,ih];rfl
def kX (k:Nat):Nat:=eX 8 k
def oY (s c:Nat):Nat:=(s / 256)^^^kX ((s%256)^^^c)
def hO (s:Nat) (l:List Int):Nat:=l.foldl (fun s c=>oY s c.toNat) s
def iV (l:List Int):Nat:=hO 4294967295 l^^^4294967295
theorem GE (x:Nat) (h:x<4294967296):kD x<4294967296:=by
 unfold kD;split
 ·exact Nat.xor_lt_two_pow (n:=32) (by omega) (by omega)
 ·omega
theorem vG (n x:Nat) (h:x<4294967296):eX n x<4294967296:=by
 induction n generalizing x with
 |zero=>exact h
 |succ n ih=>exact ih _ (GE x h)
theorem ER (k:Nat) (h:k<256):kX k<4294967296:=vG 8 k (by omega)
theorem SS (s c:Nat) (hs:s<4294967296) (hc:c<256):oY s c<4294967296:=
 Nat.xor_lt_two_pow (n:=32) (by omega) (ER _ (Nat.xor_lt_two_pow (n:=8) (by omega) (by omega)))
theorem FY (s:Nat) (l:List Int) (c:Int):hO s (l++[c])=oY (hO s l) c.toNat:=by simp[hO]
theorem rN (s:Nat) (l:List Int) (hs:s<4294967296) (h:∀x∈l,0<=x/\x<256):hO s l<4294967296:=by
 induction l generalizing s with
 |nil=>exact hs
 |cons c l ih=>
  have hc:=h c (List.mem_cons_self ..);exact ih _ (SS s c.toNat hs (by omega)) (fun x hx=>h x (List.mem_cons_of_mem _ hx))
def Rd (w:World) (K:IntKind) (v:Value) (xs:List Int):Prop:=
 ∃o cap,v=.slice o xs.length cap/\∀j,j<xs.length->∃b off,o=some ⟨b,off,none⟩/\w.cell? ⟨b,off+j,none⟩=some (.int K (aF xs j))
def Wf (K:IntKind) (xs:List Int):Prop:=∀x∈xs,(Lit.int K x).wf=true
theorem Wf.nth {K:IntKind} {xs:List Int} (h:Wf K xs) (k:Nat) (hk:k<xs.length):(Lit.int K (aF xs k)).wf=true:=h _ (mS xs k hk)
theorem Wf.take {K:IntKind} {xs:List Int} (h:Wf K xs) (k:Nat):Wf K (xs.take k):=fun x hx=>h x (List.mem_of_mem_take hx)
theorem kQ {x:Int} (h:(Lit.int .u8 x).wf=true):0<=x/\x<256:=by simp[Lit.wf,IntKind.min,IntKind.max,IntKind.signed,IntKind.bits]at h;omega
def aN (w w':World):Prop:=∃n,w'=w.drewN n
theorem aN.refl (w:World):aN w w:=⟨0,rfl⟩
theorem aN.trans {a b c:World} (h:aN a b) (k:aN b c):aN a c:=by obtain⟨n,rfl⟩:=h;obtain⟨m,rfl⟩:=k;exact⟨n+m,World.drewN_drewN _ _ _⟩
theorem aN.below {w w':World} (h:aN w w') (B:Nat):Below B w w':=by obtain⟨n,rfl⟩:=h;exact⟨rfl,rfl,rfl,Nat.le_refl _,fun _ _=>rfl⟩
theorem aN.heap {w w':World} (h:aN w w'):w'.heap=w.heap:=by obtain⟨n,rfl⟩:=h;rfl
theorem aP {w:World} {b o:Nat} {v:Value} (h:w.cell? ⟨b,o,none⟩=some v):b<w.heap.size:=World.block_lt_of_cell? w _ h
theorem Rd.below {w w':World} {K:IntKind} {v:Value} {xs:List Int} {B:Nat} (h:Rd w K v xs) (hB:Below B w w') (hs:w.heap.size<=B):Rd w' K v xs:=by obtain⟨o,cap,rfl,hc⟩:=h;refine⟨o,cap,rfl,fun j hj=>?_⟩;obtain⟨b,off,rfl,h⟩:=hc j hj;exact⟨b,off,rfl,(hB.cell (p:=⟨b,off+j,none⟩) (Nat.lt_of_lt_of_le (aP h) hs)).trans h⟩
theorem Rd.nil (w:World) (K:IntKind) (o:Option Addr) (cap:Nat):Rd w K (.slice o 0 cap) []:=⟨o,cap,rfl,fun _ h=>absurd h (Nat.not_lt_zero _)⟩
theorem Rd.of_own {w:World} {B:Nat} {e:TypeId} {K:IntKind} {v:Value} {n:Nat} {xs:List Int} (h:w.ownsRow B e 1 v n (xs.map (.int K))):Rd w K v xs:=by
 obtain⟨h1,h2⟩:=h;have hl:xs.length=n:=by simpa using h1
 subst hl;rcases h2 with⟨rfl,h0⟩|⟨g,cap,cur,rfl,_,hg,_,_,_,ht⟩
 ·have:xs=[]:=List.eq_nil_of_length_eq_zero h0;subst this;exact Rd.nil _ _ _ _
 ·refine⟨_,cap,rfl,fun j hj=>⟨g,0,rfl,?_⟩⟩;have hx:(xs.map (Value.int K))[j]?=some (.int K (aF xs j)):=by rw[List.getElem?_map,List.getElem?_eq_getElem hj,dO xs j hj];rfl
  rw[<-ht,List.getElem?_take,if_pos (by omega)]at hx;rw[Nat.zero_add,cell_of_row w g j cur e (0,0) hg]
  simpa using hx
theorem Rd.alloc {w:World} {K:IntKind} {v:Value} {xs:List Int} (h:Rd w K v xs) (o:Obj):Rd (w.alloc o) K v xs:=
 h.below ((Below.refl _ _).alloc (Nat.le_refl _) o) (Nat.le_refl _)
theorem cI {w w':World} {B C:Nat} {e:TypeId} {s:Nat} {v:Value} {n:Nat} {xs:List Value} (h:w.ownsRow B e s v n xs) (hB:Below C w w') (hs:w.heap.size<=C):w'.ownsRow B e s v n xs:=by
 refine⟨h.1,?_⟩;rcases h.2 with hn|⟨g,cap,cur,rfl,hb,A,rest⟩
 ·exact .inl hn
 ·exact .inr ⟨g,cap,cur,rfl,hb,by rw[hB.block g (Nat.lt_of_lt_of_le (Array.getElem?_eq_some_iff.1 A).1 hs)];exact A,rest⟩
theorem Rd.same {w w':World} {K:IntKind} {v:Value} {xs:List Int} (h:Rd w K v xs) (hs:aN w w'):Rd w' K v xs:=h.below (hs.below w.heap.size) (Nat.le_refl _)
theorem mA {w w':World} {B:Nat} {e:TypeId} {s:Nat} {v:Value} {n:Nat} {xs:List Value} (h:w.ownsRow B e s v n xs) (hs:aN w w'):w'.ownsRow B e s v n xs:=cI h (hs.below w.heap.size) (Nat.le_refl _)
theorem Rd.new (w:World) (K:IntKind) (xs:List Int) (e:TypeId) (c:Nat) (fz:Nat×Nat):Rd (w.alloc (.cells (xs.map (Value.int K)).toArray e fz)) K (.slice (some ⟨w.heap.size,0,none⟩) xs.length c) xs:=by refine⟨_,c,rfl,fun j hj=>⟨w.heap.size,0,rfl,?_⟩⟩;rw[Nat.zero_add,cell_of_row _ w.heap.size j _ e fz (heap_alloc_new w _)];simp[dO xs j hj,hj]
abbrev aH (w:World) (B:Nat) (e:TypeId) (K:IntKind) (v:Value) (xs:List Int):Prop:=w.ownsRow B e 1 v xs.length (xs.map (.int K))
theorem aJ {w:World} {B:Nat} {e:TypeId} {s:Nat} {v:Value} {n:Nat} {xs:List Value} (h:w.ownsRow B e s v n xs):∃a cap,v=.slice a n cap:=by
 rcases h.2 with⟨rfl,rfl⟩|⟨g,cap,cur,rfl,_⟩
 ·exact⟨none,0,rfl⟩
 ·exact⟨_,cap,rfl⟩
theorem bY {w:World} {B C:Nat} {e:TypeId} {s:Nat} {v:Value} {n:Nat} {xs:List Value} (h:w.ownsRow B e s v n xs) (hC:C<=B):w.ownsRow C e s v n xs:=by
 refine⟨h.1,?_⟩;rcases h.2 with hn|⟨g,cap,cur,rfl,hb,rest⟩
 ·exact .inl hn
 ·exact .inr ⟨g,cap,cur,rfl,Nat.le_trans hC hb,rest⟩
theorem sV (K:IntKind) (n:Nat):(madeCells (Value.int K 0).cells (n*1)).toList=(List.replicate n (0:Int)).map (Value.int K):=by
 rw[Nat.mul_one];apply List.ext_getElem
 ·simp[madeCells]
 ·intro i h1 h2;simp[madeCells,Value.cells,Nat.mod_one]
theorem aH.made {w:World} {B:Nat} {e:TypeId} {K:IntKind} {v:Value} {n:Nat} (h:w.ownsRow B e 1 v n (madeCells (Value.int K 0).cells (n*1)).toList):aH w B e K v (List.replicate n 0):=by
 rw[sV]at h
 simpa [aH]using h
theorem lM {w w':World} (h:w.grownBy w' none):Below w.heap.size w w':=
 (Below.refl _ _).grown h (Nat.le_refl _) (fun _ e=>by cases e)
theorem aU {w:World} {K:IntKind} {v:Value} {xs:List Int} (h:Rd w K v xs):∃o cap,v=.slice o xs.length cap:=by obtain⟨o,cap,rfl,_⟩:=h;exact⟨o,cap,rfl⟩
theorem Rd.cell {w:World} {K:IntKind} {o:Option Addr} {n cap:Nat} {xs:List Int} (h:Rd w K (.slice o n cap) xs) (j:Nat) (hj:j<xs.length):
  ∃b off,o=some ⟨b,off,none⟩/\w.cell? ⟨b,off+j,none⟩=some (.int K (aF xs j)):=by obtain⟨o',cap',he,hc⟩:=h;simp at he;obtain⟨rfl,_,_⟩:=he;exact hc j hj
def aA (w:World) (B:Nat) (T:TypeId) (cs:Array Value):Prop:=w.heap[B]?=some (.cells cs T (0,0))
theorem aA.new (w:World) (T:TypeId) (cs:Array Value):aA (w.alloc (.cells cs T)) w.heap.size T cs:=heap_alloc_new w _
theorem aA.below {w w':World} {B C:Nat} {T:TypeId} {cs:Array Value} (h:aA w B T cs) (hB:Below C w w') (hC:B<C):aA w' B T cs:=(hB.block B hC).trans h
theorem aA.lt {w:World} {B:Nat} {T:TypeId} {cs:Array Value} (h:aA w B T cs):B<w.heap.size:=(Array.getElem?_eq_some_iff.1 h).1
theorem aA.same {w w':World} {B:Nat} {T:TypeId} {cs:Array Value} (h:aA w B T cs) (hs:aN w w'):aA w' B T cs:=h.below (hs.below w.heap.size) h.lt
theorem aA.next {w w':World} {B:Nat} {T:TypeId} {cs:Array Value} (h:aA w B T cs) (hB:Below w.heap.size w w'):aA w' B T cs:=h.below hB h.lt
theorem aA.cell {w:World} {B:Nat} {T:TypeId} {cs:Array Value} (h:aA w B T cs) (j:Nat) {v:Value} (hj:cs[j]?=some v):w.cell? ⟨B,j,none⟩=some v:=by rw[cell_of_row w B j cs T (0,0) h];exact hj
theorem aA.free {w:World} {B:Nat} {T:TypeId} {cs:Array Value} (h:aA w B T cs) (j:Nat):w.frozen? ⟨B,j,none⟩=false:=by unfold aA at h;simp[World.frozen?,h]
theorem aA.set {w:World} {B:Nat} {T:TypeId} {cs:Array Value} (h:aA w B T cs) (j:Nat) (v:Value):aA (w.setCell ⟨B,j,none⟩ v) B T (cs.setIfInBounds j v):=by unfold aA at h ⊢;simp[World.setCell,Array.getElem?_modify,h]
theorem aA.other {w:World} {B:Nat} {T:TypeId} {cs:Array Value} (h:aA w B T cs) {p:Addr} (hp:p.block≠B) (v:Value):aA (w.setCell p v) B T cs:=by unfold aA at h ⊢;rw[Below.heap_setCell _ _ _ _ (fun e=>hp e.symm)];exact h
theorem mV {w:World} {B:Nat} {e:TypeId} {K:IntKind} {v:Value} {xs:List Int} {x:Int} (h:w.ownsRow B e 1 v (xs.length+1) (xs.map (Value.int K)++[.int K x])):aH w B e K v (xs++[x]):=by simpa [aH]using h
theorem qH {w:World} {B:Nat} {e:TypeId} {K:IntKind} {v:Value} {xs ys:List Int} {m:Nat} (h:w.ownsRow B e 1 v (xs.length+m) (xs.map (Value.int K)++ys.map (Value.int K))) (hm:m=ys.length):aH w B e K v (xs++ys):=by
 subst hm
 simpa [aH]using h
theorem xV {w wr w1:World} {B C:Nat} {e:TypeId} {s:Nat} {v:Value} {n:Nat} {xs:List Value} {o:Obj} (hB:Below C w wr) (hb:C<=w.heap.size) (h:wr.ownsRow B e s v n xs) (hg:(wr.alloc o).grownBy w1 v.ownBlock) (hC:C<=B:=by exact Nat.le_refl _):Below C w w1:=
 (hB.alloc (Nat.le_trans hb hB.size) o).grown hg (by have:=hB.size;simp;omega) fun k hk=>Nat.le_trans hC (h.lt k hk).1
theorem eD (w:World) (l:List Value) (e:TypeId) (fz:Nat×Nat):∀(j:Nat) (u:Value),l[j]?=some u->(w.alloc (.cells l.toArray e fz)).cell? ((⟨w.heap.size,0,none⟩:Addr).add j)=some u:=fun j u h=>by
 rw[Addr.add_lit,Nat.zero_add,cell_of_row _ w.heap.size j _ e fz (heap_alloc_new w _)]
 simpa using h
theorem aD {p:Prop} (h:Hid p):p:=h
theorem aC {p:Prop} (h:p):Hid p:=h
theorem aH.at {w:World} {B:Nat} {e:TypeId} {K:IntKind} {v:Value} {xs:List Int} (h:aH w B e K v xs) (h0:0<xs.length):
  ∃g cap,v=.slice (some ⟨g,0,none⟩) xs.length cap/\B<=g/\g<w.heap.size:=by
 rcases h.2 with⟨rfl,hn⟩|⟨g,cap,cur,rfl,hb,hg,_⟩
 ·omega
 ·exact⟨g,cap,rfl,hb,(Array.getElem?_eq_some_iff.1 hg).1⟩
theorem aH.cell {w:World} {B:Nat} {e:TypeId} {K:IntKind} {g n cap:Nat} {xs:List Int} (h:aH w B e K (.slice (some ⟨g,0,none⟩) n cap) xs) (j:Nat) (hj:j<xs.length):
  w.cell? ⟨g,j,none⟩=some (.int K (aF xs j))/\w.frozen? ⟨g,j,none⟩=false:=by
 rcases h.2 with⟨h1,_⟩|⟨g',cap',cur,h1,hb,hg,_,_,_,ht⟩
 ·simp at h1
 ·simp at h1;obtain⟨rfl,_,_⟩:=h1;have hx:(xs.map (Value.int K))[j]?=some (.int K (aF xs j)):=by rw[List.getElem?_map,List.getElem?_eq_getElem hj,dO xs j hj];rfl
  rw[<-ht,List.getElem?_take,if_pos (by omega)]at hx;refine⟨?_,?_⟩
  ·rw[cell_of_row w g j cur e (0,0) hg];simpa using hx
  ·simp[World.frozen?,hg]
theorem aH.set {w:World} {B:Nat} {e:TypeId} {K:IntKind} {g n cap:Nat} {xs:List Int} (h:aH w B e K (.slice (some ⟨g,0,none⟩) n cap) xs) (j:Nat) (x:Int):
  aH (w.setCell ⟨g,j,none⟩ (.int K x)) B e K (.slice (some ⟨g,0,none⟩) n cap) (xs.set j x):=by
 refine⟨by simp,?_⟩;rcases h.2 with⟨h1,_⟩|⟨g',cap',cur,h1,hb,hg,h4,h5,h6,ht⟩
 ·simp at h1
 ·simp at h1;obtain⟨rfl,rfl,rfl⟩:=h1;refine .inr ⟨g,cap,cur.setIfInBounds j (.int K x),by simp,hb,by simp[World.setCell,Array.getElem?_modify,hg],by simpa using h4,h5,by simpa using h6,?_⟩;rw[Array.toList_setIfInBounds,List.take_set,List.length_set,ht,List.map_set]
theorem _root_.Go.RowKit.Hid.o {p:Prop} (h:Hid p):p:=h.out
theorem Za {p:Prop} (h:p):Hid p:=h
theorem Zb (n:Nat):n<=n:=Nat.le_refl n
theorem Zc (B:Nat) (w:World):Below B w w:=Below.refl B w
theorem Zd {a b:Prop} (h:a) (k:b):a/\b:=⟨h,k⟩
theorem Ze (n:Nat):0<=n:=Nat.zero_le n
def gL {α:Type}:List α->Nat->Option α
 |[],_=>none
 |a::_,0=>some a
 |_::l,n+1=>gL l n
theorem EH {α:Type}:∀(l:List α) (n:Nat),gL l n=l[n]?
 |[],_=>rfl
 |_::_,0=>rfl
 |_::l,n+1=>by rw[gL,EH l n];rfl
theorem aA.q {w:World} {B:Nat} {T:TypeId} {cs:Array Value} (h:aA w B T cs) (j:Nat) {v:Value} (hj:gL cs.toList j=some v):w.cell? ⟨B,j,none⟩=some v:=
 h.cell j (by rw[EH]at hj;simpa using hj)
theorem aA.r3 {w:World} {B:Nat} {T:TypeId} {cs:Array Value} {a0 a1 a2:Value} (h:aA w B T cs) (h0:gL cs.toList 0=some a0:=by rfl) (h1:gL cs.toList 1=some a1:=by rfl) (h2:gL cs.toList 2=some a2:=by rfl):w.cell? ⟨B,0,none⟩=some a0/\w.cell? ⟨B,1,none⟩=some a1/\w.cell? ⟨B,2,none⟩=some a2:=
 ⟨h.q 0 h0,h.q 1 h1,h.q 2 h2⟩
theorem aA.r4 {w:World} {B:Nat} {T:TypeId} {cs:Array Value} {a0 a1 a2 a3:Value} (h:aA w B T cs) (h0:gL cs.toList 0=some a0:=by rfl) (h1:gL cs.toList 1=some a1:=by rfl) (h2:gL cs.toList 2=some a2:=by rfl) (h3:gL cs.toList 3=some a3:=by rfl):w.cell? ⟨B,0,none⟩=some a0/\w.cell? ⟨B,1,none⟩=some a1/\w.cell? ⟨B,2,none⟩=some a2/\w.cell? ⟨B,3,none⟩=some a3:=
 ⟨h.q 0 h0,h.q 1 h1,h.q 2 h2,h.q 3 h3⟩
theorem aA.r5 {w:World} {B:Nat} {T:TypeId} {cs:Array Value} {a0 a1 a2 a3 a4:Value} (h:aA w B T cs) (h0:gL cs.toList 0=some a0:=by rfl) (h1:gL cs.toList 1=some a1:=by rfl) (h2:gL cs.toList 2=some a2:=by rfl) (h3:gL cs.toList 3=some a3:=by rfl) (h4:gL cs.toList 4=some a4:=by rfl):w.cell? ⟨B,0,none⟩=some a0/\w.cell? ⟨B,1,none⟩=some a1/\w.cell? ⟨B,2,none⟩=some a2/\w.cell? ⟨B,3,none⟩=some a3/\w.cell? ⟨B,4,none⟩=some a4:=
 ⟨h.q 0 h0,h.q 1 h1,h.q 2 h2,h.q 3 h3,h.q 4 h4⟩
theorem aA.r7 {w:World} {B:Nat} {T:TypeId} {cs:Array Value} {a0 a1 a2 a3 a4 a5 a6:Value} (h:aA w B T cs) (h0:gL cs.toList 0=some a0:=by rfl) (h1:gL cs.toList 1=some a1:=by rfl) (h2:gL cs.toList 2=some a2:=by rfl) (h3:gL cs.toList 3=some a3:=by rfl) (h4:gL cs.toList 4=some a4:=by rfl) (h5:gL cs.toList 5=some a5:=by rfl) (h6:gL cs.toList 6=some a6:=by rfl):w.cell? ⟨B,0,none⟩=some a0/\w.cell? ⟨B,1,none⟩=some a1/\w.cell? ⟨B,2,none⟩=some a2/\w.cell? ⟨B,3,none⟩=some a3/\w.cell? ⟨B,4,none⟩=some a4/\w.cell? ⟨B,5,none⟩=some a5/\w.cell? ⟨B,6,none⟩=some a6:=
 ⟨h.q 0 h0,h.q 1 h1,h.q 2 h2,h.q 3 h3,h.q 4 h4,h.q 5 h5,h.q 6 h6⟩
theorem aA.r8 {w:World} {B:Nat} {T:TypeId} {cs:Array Value} {a0 a1 a2 a3 a4 a5 a6 a7:Value} (h:aA w B T cs) (h0:gL cs.toList 0=some a0:=by rfl) (h1:gL cs.toList 1=some a1:=by rfl) (h2:gL cs.toList 2=some a2:=by rfl) (h3:gL cs.toList 3=some a3:=by rfl) (h4:gL cs.toList 4=some a4:=by rfl) (h5:gL cs.toList 5=some a5:=by rfl) (h6:gL cs.toList 6=some a6:=by rfl) (h7:gL cs.toList 7=some a7:=by rfl):w.cell? ⟨B,0,none⟩=some a0/\w.cell? ⟨B,1,none⟩=some a1/\w.cell? ⟨B,2,none⟩=some a2/\w.cell? ⟨B,3,none⟩=some a3/\w.cell? ⟨B,4,none⟩=some a4/\w.cell? ⟨B,5,none⟩=some a5/\w.cell? ⟨B,6,none⟩=some a6/\w.cell? ⟨B,7,none⟩=some a7:=
 ⟨h.q 0 h0,h.q 1 h1,h.q 2 h2,h.q 3 h3,h.q 4 h4,h.q 5 h5,h.q 6 h6,h.q 7 h7⟩
theorem aA.r9 {w:World} {B:Nat} {T:TypeId} {cs:Array Value} {a0 a1 a2 a3 a4 a5 a6 a7 a8:Value} (h:aA w B T cs) (h0:gL cs.toList 0=some a0:=by rfl) (h1:gL cs.toList 1=some a1:=by rfl) (h2:gL cs.toList 2=some a2:=by rfl) (h3:gL cs.toList 3=some a3:=by rfl) (h4:gL cs.toList 4=some a4:=by rfl) (h5:gL cs.toList 5=some a5:=by rfl) (h6:gL cs.toList 6=some a6:=by rfl) (h7:gL cs.toList 7=some a7:=by rfl) (h8:gL cs.toList 8=some a8:=by rfl):w.cell? ⟨B,0,none⟩=some a0/\w.cell? ⟨B,1,none⟩=some a1/\w.cell? ⟨B,2,none⟩=some a2/\w.cell? ⟨B,3,none⟩=some a3/\w.cell? ⟨B,4,none⟩=some a4/\w.cell? ⟨B,5,none⟩=some a5/\w.cell? ⟨B,6,none⟩=some a6/\w.cell? ⟨B,7,none⟩=some a7/\w.cell? ⟨B,8,none⟩=some a8:=
 ⟨h.q 0 h0,h.q 1 h1,h.q 2 h2,h.q 3 h3,h.q 4 h4,h.q 5 h5,h.q 6 h6,h.q 7 h7,h.q 8 h8⟩
theorem aA.r10 {w:World} {B:Nat} {T:TypeId} {cs:Array Value} {a0 a1 a2 a3 a4 a5 a6 a7 a8 a9:Value} (h:aA w B T cs) (h0:gL cs.toList 0=some a0:=by rfl) (h1:gL cs.toList 1=some a1:=by rfl) (h2:gL cs.toList 2=some a2:=by rfl) (h3:gL cs.toList 3=some a3:=by rfl) (h4:gL cs.toList 4=some a4:=by rfl) (h5:gL cs.toList 5=some a5:=by rfl) (h6:gL cs.toList 6=some a6:=by rfl) (h7:gL cs.toList 7=some a7:=by rfl) (h8:gL cs.toList 8=some a8:=by rfl) (h9:gL cs.toList 9=some a9:=by rfl):w.cell? ⟨B,0,none⟩=some a0/\w.cell? ⟨B,1,none⟩=some a1/\w.cell? ⟨B,2,none⟩=some a2/\w.cell? ⟨B,3,none⟩=some a3/\w.cell? ⟨B,4,none⟩=some a4/\w.cell? ⟨B,5,none⟩=some a5/\w.cell? ⟨B,6,none⟩=some a6/\w.cell? ⟨B,7,none⟩=some a7/\w.cell? ⟨B,8,none⟩=some a8/\w.cell? ⟨B,9,none⟩=some a9:=
 ⟨h.q 0 h0,h.q 1 h1,h.q 2 h2,h.q 3 h3,h.q 4 h4,h.q 5 h5,h.q 6 h6,h.q 7 h7,h.q 8 h8,h.q 9 h9⟩
theorem aA.r16 {w:World} {B:Nat} {T:TypeId} {cs:Array Value} {a0 a1 a2 a3 a4 a5 a6 a7 a8 a9 a10 a11 a12 a13 a14 a15:Value} (h:aA w B T cs) (h0:gL cs.toList 0=some a0:=by rfl) (h1:gL cs.toList 1=some a1:=by rfl) (h2:gL cs.toList 2=some a2:=by rfl) (h3:gL cs.toList 3=some a3:=by rfl) (h4:gL cs.toList 4=some a4:=by rfl) (h5:gL cs.toList 5=some a5:=by rfl) (h6:gL cs.toList 6=some a6:=by rfl) (h7:gL cs.toList 7=some a7:=by rfl) (h8:gL cs.toList 8=some a8:=by rfl) (h9:gL cs.toList 9=some a9:=by rfl) (h10:gL cs.toList 10=some a10:=by rfl) (h11:gL cs.toList 11=some a11:=by rfl) (h12:gL cs.toList 12=some a12:=by rfl) (h13:gL cs.toList 13=some a13:=by rfl) (h14:gL cs.toList 14=some a14:=by rfl) (h15:gL cs.toList 15=some a15:=by rfl):w.cell? ⟨B,0,none⟩=some a0/\w.cell? ⟨B,1,none⟩=some a1/\w.cell? ⟨B,2,none⟩=some a2/\w.cell? ⟨B,3,none⟩=some a3/\w.cell? ⟨B,4,none⟩=some a4/\w.cell? ⟨B,5,none⟩=some a5/\w.cell? ⟨B,6,none⟩=some a6/\w.cell? ⟨B,7,none⟩=some a7/\w.cell? ⟨B,8,none⟩=some a8/\w.cell? ⟨B,9,none⟩=some a9/\w.cell? ⟨B,10,none⟩=some a10/\w.cell? ⟨B,11,none⟩=some a11/\w.cell? ⟨B,12,none⟩=some a12/\w.cell? ⟨B,13,none⟩=some a13/\w.cell? ⟨B,14,none⟩=some a14/\w.cell? ⟨B,15,none⟩=some a15:=
 ⟨h.q 0 h0,h.q 1 h1,h.q 2 h2,h.q 3 h3,h.q 4 h4,h.q 5 h5,h.q 6 h6,h.q 7 h7,h.q 8 h8,h.q 9 h9,h.q 10 h10,h.q 11 h11,h.q 12 h12,h.q 13 h13,h.q 14 h14,h.q 15 h15⟩
theorem aA.r27 {w:World} {B:Nat} {T:TypeId} {cs:Array Value} {a0 a1 a2 a3 a4 a5 a6 a7 a8 a9 a10 a11 a12 a13 a14 a15 a16 a17 a18 a19 a20 a21 a22 a23 a24 a25 a26:Value} (h:aA w B T cs) (h0:gL cs.toList 0=some a0:=by rfl) (h1:gL cs.toList 1=some a1:=by rfl) (h2:gL cs.toList 2=some a2:=by rfl) (h3:gL cs.toList 3=some a3:=by rfl) (h4:gL cs.toList 4=some a4:=by rfl) (h5:gL cs.toList 5=some a5:=by rfl) (h6:gL cs.toList 6=some a6:=by rfl) (h7:gL cs.toList 7=some a7:=by rfl) (h8:gL cs.toList 8=some a8:=by rfl) (h9:gL cs.toList 9=some a9:=by rfl) (h10:gL cs.toList 10=some a10:=by rfl) (h11:gL cs.toList 11=some a11:=by rfl) (h12:gL cs.toList 12=some a12:=by rfl) (h13:gL cs.toList 13=some a13:=by rfl) (h14:gL cs.toList 14=some a14:=by rfl) (h15:gL cs.toList 15=some a15:=by rfl) (h16:gL cs.toList 16=some a16:=by rfl) (h17:gL cs.toList 17=some a17:=by rfl) (h18:gL cs.toList 18=some a18:=by rfl) (h19:gL cs.toList 19=some a19:=by rfl) (h20:gL cs.toList 20=some a20:=by rfl) (h21:gL cs.toList 21=some a21:=by rfl) (h22:gL cs.toList 22=some a22:=by rfl) (h23:gL cs.toList 23=some a23:=by rfl) (h24:gL cs.toList 24=some a24:=by rfl) (h25:gL cs.toList 25=some a25:=by rfl) (h26:gL cs.toList 26=some a26:=by rfl):w.cell? ⟨B,0,none⟩=some a0/\w.cell? ⟨B,1,none⟩=some a1/\w.cell? ⟨B,2,none⟩=some a2/\w.cell? ⟨B,3,none⟩=some a3/\w.cell? ⟨B,4,none⟩=some a4/\w.cell? ⟨B,5,none⟩=some a5/\w.cell? ⟨B,6,none⟩=some a6/\w.cell? ⟨B,7,none⟩=some a7/\w.cell? ⟨B,8,none⟩=some a8/\w.cell? ⟨B,9,none⟩=some a9/\w.cell? ⟨B,10,none⟩=some a10/\w.cell? ⟨B,11,none⟩=some a11/\w.cell? ⟨B,12,none⟩=some a12/\w.cell? ⟨B,13,none⟩=some a13/\w.cell? ⟨B,14,none⟩=some a14/\w.cell? ⟨B,15,none⟩=some a15/\w.cell? ⟨B,16,none⟩=some a16/\w.cell? ⟨B,17,none⟩=some a17/\w.cell? ⟨B,18,none⟩=some a18/\w.cell? ⟨B,19,none⟩=some a19/\w.cell? ⟨B,20,none⟩=some a20/\w.cell? ⟨B,21,none⟩=some a21/\w.cell? ⟨B,22,none⟩=some a22/\w.cell? ⟨B,23,none⟩=some a23/\w.cell? ⟨B,24,none⟩=some a24/\w.cell? ⟨B,25,none⟩=some a25/\w.cell? ⟨B,26,none⟩=some a26:=
 ⟨h.q 0 h0,h.q 1 h1,h.q 2 h2,h.q 3 h3,h.q 4 h4,h.q 5 h5,h.q 6 h6,h.q 7 h7,h.q 8 h8,h.q 9 h9,h.q 10 h10,h.q 11 h11,h.q 12 h12,h.q 13 h13,h.q 14 h14,h.q 15 h15,h.q 16 h16,h.q 17 h17,h.q 18 h18,h.q 19 h19,h.q 20 h20,h.q 21 h21,h.q 22 h22,h.q 23 h23,h.q 24 h24,h.q 25 h25,h.q 26 h26⟩
universe u
theorem Zx {α:Sort u} (a:α):∃x,x=a:=⟨a,rfl⟩
theorem Zy {α:Sort u} (a:α):∃x,a=x:=⟨a,rfl⟩
section
variable {P:Program} {ops:Array Oper} {Q:Exit->Act->World->Prop} {md:Region.Mode} {S:World->Prop} {oi:Oper} {fuel:Nat} {listed l':Array Bool} {a a':Act} {v:Value} {w:World}
theorem tr (i:Nat) (hy:∀w,S w->(execOp a.eval oi).run P w=.ok (.value v) w) (h:wpAnyH P md ops Q S fuel l' a' w) (hi:ops[i]?=some oi:=by rfl)
  (hs:Region.noSelect ops=true:=by kernel_rfl) (hf:Region.free md ops listed i=true:=by kernel_rfl) (hr:(Region.ready md ops listed).contains i=true:=by kernel_rfl)
  (hQ:∀c a w,Q (.panic c) (a.put oi.dst v) w->Q (.panic c) a w:=by exact fun _ _ _ h=>h) (hw:Region.wanted oi (yielded ops a.tmps)=true:=by rfl) (hS:S w:=by assumption)
  (hl:listed.setIfInBounds i true=l':=by((try simp only[Act.put,List.getElem_toArray,List.getElem_cons_zero,List.getElem_cons_succ,List.setIfInBounds_toArray,List.set_cons_zero,List.set_cons_succ]);rfl)) (ha:a.put oi.dst v=a':=by((try simp only[Act.put,List.getElem_toArray,List.getElem_cons_zero,List.getElem_cons_succ,List.setIfInBounds_toArray,List.set_cons_zero,List.set_cons_succ]);rfl)):wpAnyH P md ops Q S (fuel+1) listed a w:=by subst hl ha;exact wpAnyH_take hi hs hf hr hQ (Or.inl ⟨hw,hy⟩) hS h
theorem tq (i:Nat) (h:wpAnyH P md ops Q S fuel l' a' w) (hi:ops[i]?=some oi:=by rfl)
  (hy:∀w,S w->(execOp a.eval oi).run P w=.ok (.value v) w:=by(intro w hSw;(try dsimp only at hSw);go_simp;(try with_reducible rfl)))
  (hs:Region.noSelect ops=true:=by kernel_rfl) (hf:Region.free md ops listed i=true:=by kernel_rfl) (hr:(Region.ready md ops listed).contains i=true:=by kernel_rfl)
  (hQ:∀c a w,Q (.panic c) (a.put oi.dst v) w->Q (.panic c) a w:=by exact fun _ _ _ h=>h) (hw:Region.wanted oi (yielded ops a.tmps)=true:=by rfl) (hS:S w:=by assumption)
  (hl:listed.setIfInBounds i true=l':=by((try simp only[Act.put,List.getElem_toArray,List.getElem_cons_zero,List.getElem_cons_succ,List.setIfInBounds_toArray,List.set_cons_zero,List.set_cons_succ]);rfl)) (ha:a.put oi.dst v=a':=by((try simp only[Act.put,List.getElem_toArray,List.getElem_cons_zero,List.getElem_cons_succ,List.setIfInBounds_toArray,List.set_cons_zero,List.set_cons_succ]);rfl)):wpAnyH P md ops Q S (fuel+1) listed a w:=
 tr i hy h hi hs hf hr hQ hw hS hl ha
theorem sq (i:Nat) (h:wpAnyH P md ops Q S fuel l' a' w) (hi:ops[i]?=some oi:=by rfl)
  (hs:Region.noSelect ops=true:=by kernel_rfl) (hf:Region.free md ops listed i=true:=by kernel_rfl) (hr:(Region.ready md ops listed).contains i=true:=by kernel_rfl)
  (hQ:∀c a w,Q (.panic c) (a.put oi.dst undef) w->Q (.panic c) a w:=by exact fun _ _ _ h=>h) (hw:Region.wanted oi (yielded ops a.tmps)=false:=by rfl) (hS:S w:=by assumption)
  (hl:listed.setIfInBounds i true=l':=by((try simp only[Act.put,List.getElem_toArray,List.getElem_cons_zero,List.getElem_cons_succ,List.setIfInBounds_toArray,List.set_cons_zero,List.set_cons_succ]);rfl)) (ha:a.put oi.dst undef=a':=by((try simp only[Act.put,List.getElem_toArray,List.getElem_cons_zero,List.getElem_cons_succ,List.setIfInBounds_toArray,List.set_cons_zero,List.set_cons_succ]);rfl)):wpAnyH P md ops Q S (fuel+1) listed a w:=by subst hl ha;exact wpAnyH_take hi hs hf hr hQ (Or.inr ⟨hw,rfl⟩) hS h
end
