/- A part of the proof. -/
import Derived.Test.YtjhkdocidcfpdaaGreatDoorEN05
import Derived.Test.YtjhkdocidcfpdaaGreatDoorEN04
set_option linter.unusedVariables false
set_option linter.unusedSimpArgs false
set_option maxRecDepth 100000
set_option maxHeartbeats 16000000
open List renaming getElem_cons_zero → Zi, getElem_cons_succ → Zj, getElem_toArray → Zk, length_append → Zl
namespace Go.Proofs.YtjhkdocidcfpdaaGreatDoor
open Go.RowKit Go.Shelf Go
def bR (w:World) (p:Prop) (e:Ending) (w':World):Prop:=(∃r,e=.returned (.bool r)/\(r=true↔p))/\Below w.heap.size w w'
theorem bR.no {w w':World} {p:Prop} (h:¬p) (hb:Below w.heap.size w w'):bR w p (.returned (.bool false)) w':=⟨⟨false,rfl,by simp[h]⟩,hb⟩
theorem bR.yes {w w':World} {p:Prop} (h:p) (hb:Below w.heap.size w w'):bR w p (.returned (.bool true)) w':=⟨⟨true,rfl,by simp[h]⟩,hb⟩
theorem bR.of {w w':World} {p:Prop} {r:Bool} (h:r=true↔p) (hb:Below w.heap.size w w'):bR w p (.returned (.bool r)) w':=⟨⟨r,rfl,h⟩,hb⟩
theorem aX {w w':World} {b off:Nat} {v:Value} (hb:Below w.heap.size w w') (h:w.cell? ⟨b,off,none⟩=some v):w'.cell? ⟨b,off,none⟩=some v:=(hb.cell (p:=⟨b,off,none⟩) (aP h)).trans h
def rL (xs:List aB):Prop:=∀(v u:Value) (ys:List aB) (w:World),bO w v xs->bO w u ys->xs.length<=140737488351232->ys.length<=140737488351232->
 Calls Tryz.prog 95 #[v,u] w (bR w (xs=ys))
theorem zZ (n m:aE) (body c:List aB) (A:rL body) (v u:Value) (w:World) (hv:bO w v body) (hu:bO w u c) (hl:body.length<=140737488351232) (B:c.length<=140737488351232):
  Calls Tryz.prog 138 #[.agg (n.cells v).toArray,.agg (m.cells u).toArray] w (bR w (n=m/\body=c)):=by
 obtain⟨o1,c1,rfl⟩:=hv.len;obtain⟨o2,c2,rfl⟩:=hu.len;have hB:=Za (show ∀o1 o2:Obj,Below w.heap.size w ((w.alloc o1).alloc o2)from fun o1 o2=>((Zc _ _).alloc (Zb _) _).alloc (by simp) _);have D:=Za (fun o3 o4=>A _ _ c _ (hv.next (hB.o o3 o4)) (hu.next (hB.o o3 o4)) hl B);clear hv hu A;obtain⟨k0,k1,k2,k3,k4,k5,k6,k7⟩:=n;obtain⟨j0,j1,j2,j3,j4,j5,j6,j7⟩:=m;simp only[aE.cells];go_enter Tryz.func138,Tryz.ntmps138;go_wp2_with(go_at_call 95;refine(D.o _ _).mono ?_;rintro e w' ⟨⟨r,rfl,hr⟩,hb⟩;refine aD ?_)
 all_goals first
  |(refine aC ?_
    have E:=Za hr;have C:=Za ((hB.o _ _).trans (hb.mono (hB.o _ _).size));clear hr hb;go_wp2;go_ret;exact bR.of (by simp[E.o, *]) C.o)
  |(go_ret
    exact bR.no (by simp[*]) (hB.o _ _))
theorem yQ (xs:List aB) (I:∀l∈xs,rL l.body):rL xs:=by
 intro v u ys w O hs hl ad;obtain⟨o,cap,rfl⟩:=O.len;obtain⟨o2,cap2,rfl⟩:=hs.len;have P:=Za O;have HS:=Za hs;have HA:=Za I;clear O hs I;by_cases E:xs.length=ys.length
 ·have hb:((xs.length:Int) != ys.length)=false:=by simp[E]
  have V:=Za E;clear E;go_enter Tryz.func95,Tryz.ntmps95;go_wp2;go_loopw[5] (fun i wr=>∃k:Nat,k<=xs.length/\i=.int .i64 k/\Hid (xs.take k=ys.take k)/\Below w.heap.size w wr) (fun i _=>xs.length-(intOf i).toNat)
  case atStart=>exact⟨0,Ze _,rfl,Za rfl,Zc _ _⟩
  case round=>
   obtain⟨k,hk,rfl,HP,hB⟩:=hrel;obtain⟨w3,rfl⟩:=Zx wr;have R:=Za hB;clear hB;by_cases H:k<xs.length
   ·obtain⟨ba,offa,va,rfl,C,F,L⟩:=(P.o.below R.o (Zb _)).lay k H;have J:k<ys.length:=by rw[<-V.o];exact H
    obtain⟨bb,offb,vb,rfl,D,G,M⟩:=(HS.o.below R.o (Zb _)).lay k J;have HT:=Za (show xs.take (k+1)=xs.take k++[xs[k]] from List.take_succ_eq_append_getElem H);have T:=Za (show ys.take (k+1)=ys.take k++[ys[k]] from List.take_succ_eq_append_getElem J);have X:=Za (HA.o _ (List.getElem_mem H));have N:=Za (fun h:xs=ys=>show xs[k]=ys[k] by subst h;rfl);generalize xs[k]=x at C F L HT X N;generalize ys[k]=y at D G M T N;obtain⟨n,body⟩:=x;obtain⟨m,c⟩:=y;simp only[aB.n,aB.body]at C F L D G M X;have Y:=Za (zZ n m body c X.o va vb);have Z:=Za F;have aa:=Za G;obtain⟨o5,c5,rfl⟩:=F.len;obtain⟨o6,c6,rfl⟩:=G.len;have a0:=C 0 _ rfl;have a1:=C 1 _ rfl;have a2:=C 2 _ rfl;have a3:=C 3 _ rfl;have a4:=C 4 _ rfl;have a5:=C 5 _ rfl;have a6:=C 6 _ rfl;have a7:=C 7 _ rfl;have a8:=C 8 _ rfl;have b0:=D 0 _ rfl;have b1:=D 1 _ rfl;have b2:=D 2 _ rfl;have b3:=D 3 _ rfl;have b4:=D 4 _ rfl;have b5:=D 5 _ rfl;have b6:=D 6 _ rfl;have b7:=D 7 _ rfl;have b8:=D 8 _ rfl;simp only[Nat.add_zero]at a0 b0;clear C D F G;have A:=Za (Zd a0 (Zd a1 (Zd a2 (Zd a3 (Zd a4 (Zd a5 (Zd a6 (Zd a7 (Zd a8 (Zd b0 (Zd b1 (Zd b2 (Zd b3 (Zd b4 (Zd b5 (Zd b6 (Zd b7 (b8))))))))))))))))));have B:=Za (show Below w3.heap.size w3 w3.drew from Below.drew (Zc _ _));go_wp2_with fail;go_region_held3 (fun w'=>w'.cell? ⟨ba,offa+k*9,none⟩=some (.int .i64 n.kind)/\w'.cell? ⟨ba,offa+k*9+1,none⟩=some (.int .i64 n.inn)/\w'.cell? ⟨ba,offa+k*9+2,none⟩=some (.int .i64 n.o)/\w'.cell? ⟨ba,offa+k*9+3,none⟩=some (.int .i64 n.size)/\w'.cell? ⟨ba,offa+k*9+4,none⟩=some (.int .i64 n.stride)/\w'.cell? ⟨ba,offa+k*9+5,none⟩=some (.int .i64 n.pad)/\w'.cell? ⟨ba,offa+k*9+6,none⟩=some (.int .i64 n.percent)/\w'.cell? ⟨ba,offa+k*9+7,none⟩=some (.int .i64 n.heads)/\w'.cell? ⟨ba,offa+k*9+8,none⟩=some (.slice o5 body.length c5)/\w'.cell? ⟨bb,offb+k*9,none⟩=some (.int .i64 m.kind)/\w'.cell? ⟨bb,offb+k*9+1,none⟩=some (.int .i64 m.inn)/\w'.cell? ⟨bb,offb+k*9+2,none⟩=some (.int .i64 m.o)/\w'.cell? ⟨bb,offb+k*9+3,none⟩=some (.int .i64 m.size)/\w'.cell? ⟨bb,offb+k*9+4,none⟩=some (.int .i64 m.stride)/\w'.cell? ⟨bb,offb+k*9+5,none⟩=some (.int .i64 m.pad)/\w'.cell? ⟨bb,offb+k*9+6,none⟩=some (.int .i64 m.percent)/\w'.cell? ⟨bb,offb+k*9+7,none⟩=some (.int .i64 m.heads)/\w'.cell? ⟨bb,offb+k*9+8,none⟩=some (.slice o6 c.length c6))
     (exact⟨aX B.o A.o.1,aX B.o A.o.2.1,aX B.o A.o.2.2.1,aX B.o A.o.2.2.2.1,aX B.o A.o.2.2.2.2.1,aX B.o A.o.2.2.2.2.2.1,aX B.o A.o.2.2.2.2.2.2.1,aX B.o A.o.2.2.2.2.2.2.2.1,aX B.o A.o.2.2.2.2.2.2.2.2.1,aX B.o A.o.2.2.2.2.2.2.2.2.2.1,aX B.o A.o.2.2.2.2.2.2.2.2.2.2.1,aX B.o A.o.2.2.2.2.2.2.2.2.2.2.2.1,aX B.o A.o.2.2.2.2.2.2.2.2.2.2.2.2.1,aX B.o A.o.2.2.2.2.2.2.2.2.2.2.2.2.2.1,aX B.o A.o.2.2.2.2.2.2.2.2.2.2.2.2.2.2.1,aX B.o A.o.2.2.2.2.2.2.2.2.2.2.2.2.2.2.2.1,aX B.o A.o.2.2.2.2.2.2.2.2.2.2.2.2.2.2.2.2.1,aX B.o A.o.2.2.2.2.2.2.2.2.2.2.2.2.2.2.2.2.2⟩)
     (first
     |(go_at_call 138;refine(Y.o _ (Z.o.next B.o) (aa.o.next B.o) L M).mono ?_;rintro e wy ⟨⟨r,rfl,O⟩,U⟩;have P:=Za O;have B:=Za (B.o.trans (U.mono B.o.size));clear U O))
    clear a0 a1 a2 a3 a4 a5 a6 a7 a8 b0 b1 b2 b3 b4 b5 b6 b7 b8;have HN:=Za (R.o.trans (B.o.mono R.o.size));cases r with
    |false=>
     have ab:=Za (show ¬xs=ys from fun h=>by
      have h1:=N.o h;injection h1 with h2 h3;exact Bool.noConfusion (P.o.2 ⟨h2,h3⟩))
     go_wp2_with fail;go_ret;exact bR.no ab.o HN.o
    |true=>
     have ac:=Za (show xs.take (k+1)=ys.take (k+1) by
      rw[HT.o,T.o,HP.o,(P.o.1 rfl).1,(P.o.1 rfl).2])
     go_wp2_with fail;go_roundw
     case rel=>exact⟨k+1,by omega,by go_num,ac,HN.o⟩
     case measure=>simp[intOf];omega
   ·obtain rfl:k=xs.length:=by omega
    have B:=Za (show xs=ys by have:=HP.o;rw[List.take_of_length_le (Zb _),List.take_of_length_le (by rw[V.o];exact Zb _)]at this;exact this);go_wp2;go_ret;exact bR.yes B.o R.o
 ·have hb:((xs.length:Int) != ys.length)=true:=by simp;omega
  have V:=Za E;clear E;go_enter Tryz.func95,Tryz.ntmps95;go_wp2;go_ret;exact bR.no (fun h=>V.o (congrArg List.length h)) (Zc _ _)
theorem RJ:∀l:aB,rL l.body:=aB.ind fun n body h=>yQ body h
theorem zP (xs:List aB):rL xs:=yQ xs fun l _=>RJ l
theorem TH (n m:aE) (body c:List aB) (v u:Value) (w:World) (hv:bO w v body) (hu:bO w u c) (hl:body.length<=140737488351232) (A:c.length<=140737488351232):
  Calls Tryz.prog 138 #[.agg (n.cells v).toArray,.agg (m.cells u).toArray] w (bR w (n=m/\body=c)):=zZ n m body c (zP body) v u w hv hu hl A
theorem CU:(Tryz.prog.info? 27).map (fun i=>(i.zero,i.size,i.bytes))=some (some (.int .u32 0),1,4):=by kernel_rfl
def jC (n i:Nat):Int:=((48+n / 10^i%10:Nat):Int)
def jI (n k:Nat):List Int:=(List.range k).map (jC n)
theorem PG (n k:Nat):jI n (k+1)=jI n k++[jC n k]:=by simp[jI,List.range_succ]
theorem sT (n k:Nat):(jI n k).length=k:=by simp[jI]
theorem AI (n k i:Nat) (h:i<k):aF (jI n k) i=jC n i:=by rw[dO _ _ (by rw[sT];exact h)];simp[jI]
def iZ (n c k:Nat):List Int:=(List.range k).map fun j=>jC n (c-1-j)
theorem AJ (n c k:Nat):iZ n c (k+1)=iZ n c k++[jC n (c-1-k)]:=by simp[iZ,List.range_succ]
theorem wL (n c k:Nat):(iZ n c k).length=k:=by simp[iZ]
theorem BF:∀(c n:Nat),n<10^(c+1)->(0<c->10^c<=n)->(Lib.decDigits n).map (fun b=>(b.toNat:Int))=iZ n (c+1) (c+1)
 |0,n,h,_=>by
  have A:n<10:=by simpa using h
  rw[Lib.decDigits,dif_pos A];have:(UInt8.ofNat (48+n)).toNat=48+n:=by simp;omega
  simp only[List.map_cons,List.map_nil,this];simp[iZ,jC,List.range_succ];omega
 |c+1,n,h,h0=>by
  have h1:=h0 (by omega);have hp:10^(c+1)=10^c*10:=Nat.pow_succ ..;have D:0<10^c:=Nat.pow_pos (by omega);have E:10^(c+1+1)=10^(c+1)*10:=Nat.pow_succ ..;have A:¬n<10:=by omega
  have B:n / 10<10^(c+1):=by omega
  have C:10^c<=n / 10:=by omega
  rw[Lib.decDigits,dif_neg A,List.map_append,BF c (n / 10) B (fun _=>C),AJ n (c+1+1) (c+1)];have h2:c+1+1-1-(c+1)=0:=by omega
  have hu:(UInt8.ofNat (48+n%10)).toNat=48+n%10:=by simp;omega
  rw[h2]
  congr 1
  ·simp only[iZ];apply List.map_congr_left;intro j hj;have hj:=List.mem_range.1 hj;have e:c+1+1-1-j=(c+1-1-j)+1:=by omega
   rw[e,jC,jC,Nat.div_div_eq_div_mul,<-Nat.pow_succ']
  ·simp only[List.map_cons,List.map_nil,hu];simp[jC]
theorem wF (v:Value) (xs:List Int) (w:World) (h:Rd w .u32 v xs) (hl:xs.length<=100) (hc:∀o n c,v=.slice o n c->n<=c):
  Calls Tryz.prog 197 #[v] w fun e w'=>(∃o k cap,v=.slice o xs.length cap/\e=.returned (.slice o k cap)/\k<=xs.length/\(∀j,k<=j->j<xs.length->aF xs j=0)/\(0<k->aF xs (k-1)≠0))/\w=w':=by
 obtain⟨o,cap,rfl⟩:=aU h;have D:=hc _ _ _ rfl;have F:=Za h;clear h hc;go_enter Tryz.func197,Tryz.ntmps197;go_wp2;go_loopw[3] (fun i wr=>∃k:Nat,k<=xs.length/\i=.int .i64 k/\Hid (∀j,k<=j->j<xs.length->aF xs j=0)/\Hid (wr=w)) (fun i _=>(intOf i).toNat)
 case atStart=>exact⟨xs.length,Zb _,rfl,Za (fun j h1 h2=>absurd h2 (by omega)),Za rfl⟩
 case round=>
  obtain⟨k,hk,rfl,C,G⟩:=hrel;rw[G.o];by_cases h0:0<k
  ·obtain⟨b,off,rfl,A⟩:=F.o.cell (k-1) (by omega);have H:IntKind.i64.wrap ((k:Int)-1)=((k-1:Nat):Int):=by rw[IntKind.wrap_i64];omega
   have I:k-1<xs.length:=by omega
   have J:(0:Int)<(k:Int):=by omega
   obtain⟨x,hx⟩:=Zx (aF xs (k-1));rw[<-hx]at A;have E:=Za hx;clear hx;by_cases B:x=0
   ·subst B;go_wp2;go_roundw
    case rel=>exact⟨k-1,by omega,rfl,Za (fun j h1 h2=>by
     by_cases e:j=k-1
     ·rw[e];exact E.o.symm
     ·exact C.o j (by omega) h2),(by first|exact Za trivial|exact Za rfl)⟩
    case measure=>simp[intOf];omega
   ·have L:(x==0)=false:=by simpa using B
    have M:k<=cap:=by omega
    go_wp2;go_ret;exact⟨⟨_,k,_,rfl,rfl,hk,C.o,fun _=>by rw[<-E.o];exact B⟩,rfl⟩
  ·obtain rfl:k=0:=by omega
   go_wp2;go_ret;exact⟨⟨_,0,_,rfl,rfl,Ze _,C.o,fun h=>absurd h (by omega)⟩,rfl⟩
theorem I1 (v:Value) (xs:List Int) (w:World) (h:Rd w .u64 v xs) (hl:xs.length<=100) (hc:∀o n c,v=.slice o n c->n<=c):
  Calls Tryz.prog 188 #[v] w fun e w'=>(∃o k cap,v=.slice o xs.length cap/\e=.returned (.slice o k cap)/\k<=xs.length/\(∀j,k<=j->j<xs.length->aF xs j=0)/\(0<k->aF xs (k-1)≠0))/\w=w':=by
 obtain⟨o,cap,rfl⟩:=aU h;have D:=hc _ _ _ rfl;have F:=Za h;clear h hc;go_enter Tryz.func188,Tryz.ntmps188;go_wp2;go_loopw[3] (fun i wr=>∃k:Nat,k<=xs.length/\i=.int .i64 k/\Hid (∀j,k<=j->j<xs.length->aF xs j=0)/\Hid (wr=w)) (fun i _=>(intOf i).toNat)
 case atStart=>exact⟨xs.length,Zb _,rfl,Za (fun j h1 h2=>absurd h2 (by omega)),Za rfl⟩
 case round=>
  obtain⟨k,hk,rfl,C,G⟩:=hrel;rw[G.o];by_cases h0:0<k
  ·obtain⟨b,off,rfl,A⟩:=F.o.cell (k-1) (by omega);have H:IntKind.i64.wrap ((k:Int)-1)=((k-1:Nat):Int):=by rw[IntKind.wrap_i64];omega
   have I:k-1<xs.length:=by omega
   have J:(0:Int)<(k:Int):=by omega
   obtain⟨x,hx⟩:=Zx (aF xs (k-1));rw[<-hx]at A;have E:=Za hx;clear hx;by_cases B:x=0
   ·subst B;go_wp2;go_roundw
    case rel=>exact⟨k-1,by omega,rfl,Za (fun j h1 h2=>by
     by_cases e:j=k-1
     ·rw[e];exact E.o.symm
     ·exact C.o j (by omega) h2),(by first|exact Za trivial|exact Za rfl)⟩
    case measure=>simp[intOf];omega
   ·have L:(x==0)=false:=by simpa using B
    have M:k<=cap:=by omega
    go_wp2;go_ret;exact⟨⟨_,k,_,rfl,rfl,hk,C.o,fun _=>by rw[<-E.o];exact B⟩,rfl⟩
  ·obtain rfl:k=0:=by omega
   go_wp2;go_ret;exact⟨⟨_,0,_,rfl,rfl,Ze _,C.o,fun h=>absurd h (by omega)⟩,rfl⟩
theorem Rd.setFree {w:World} {K:IntKind} {o:Option Addr} {n c:Nat} {xs:List Int} {p:Addr} (h:Rd w K (.slice o n c) xs) (hb:∀b off,o=some ⟨b,off,none⟩->b≠p.block) (u:Value):Rd (w.setCell p u) K (.slice o n c) xs:=by obtain⟨o',c',he,hc⟩:=h;refine⟨o',c',he,fun j hj=>?_⟩;obtain⟨b,off,rfl,A⟩:=hc j hj;injection he with h1 _ _;exact⟨b,off,rfl,(World.cell?_of_block (w:=w) (a:=⟨b,off+j,none⟩) (Below.heap_setCell _ _ _ _ (hb b off h1))).trans A⟩
theorem Rd.next' {w w':World} {K:IntKind} {v:Value} {xs:List Int} (h:Rd w K v xs) (hb:Below w.heap.size w w'):Rd w' K v xs:=h.below hb (Zb _)
def kJ (w:World) (v:Value) (n:Nat):Prop:=Rd w .u64 v (if n=0 then [] else [(n:Int)])
theorem AP (n:Nat) (w:World) (hn:n<1000000000000):
  Calls Tryz.prog 137 #[.int .i64 n] w fun e w'=>(∃v,e=.returned (.agg #[.bool false,v])/\kJ w' v n)/\Below w.heap.size w w':=by
 have size:∀W,Calls Tryz.prog 169 #[.int .i64 n] W fun e w'=>e=.returned (.int .u64 n)/\W=w':=by
  intro W;have B:¬(n:Int)<0:=by omega
  have hu:IntKind.u64.wrap (n:Int)=(n:Int):=by rw[IntKind.wrap_u64];omega
  go_enter Tryz.func169,Tryz.ntmps169;go_wp2;go_ret;exact⟨rfl,rfl⟩
 have nof:∀W,Calls Tryz.prog 168 #[.int .u64 n] W fun e w'=>(∃v,e=.returned v/\kJ w' v n/\∃o m c,v=.slice o m c/\(∀b off,o=some ⟨b,off,none⟩->W.heap.size<=b))/\Below W.heap.size W w':=by
  intro W;have G:Rd (W.alloc (.cells #[.int .u64 n] 40)) .u64 (.slice (some ⟨W.heap.size,0,none⟩) 1 1) [(n:Int)]:=Rd.new W .u64 [(n:Int)] 40 1 (0,0);have HT:=Za (I1 _ [(n:Int)] _ G (by simp) (fun o m c e=>by cases e;omega));have O:=Za G;clear G size;go_enter Tryz.func168,Tryz.ntmps168;go_wp2_with(go_at_call 188;refine HT.o.mono ?_;rintro e w2 ⟨⟨o,k,cap,he,rfl,hk,F,C⟩,rfl⟩;have HK:=Za (Zd he (Zd hk (Zd F C)));clear he hk F C);go_ret;obtain⟨he,hk,F,C⟩:=HK.o;injection he with P ab R;subst P R;simp only[List.length_cons,List.length_nil,Nat.zero_add]at hk F;have J:k=0↔n=0:=by
   constructor
   ·intro B;have:=F 0 (by omega) (by omega);simp[aF]at this;exact this
   ·intro B;by_cases T:0<k
    ·have:=C T;have h1:k-1=0:=by omega
     rw[h1]at this;simp[aF]at this;exact absurd B this
    ·omega
  refine⟨⟨_,rfl,?_,_,_,_,rfl,fun b off e=>(by cases e;exact Zb _)⟩,(Zc _ _).alloc (Zb _) _⟩;unfold kJ;by_cases B:n=0
  ·rw[if_pos B,J.2 B];exact Rd.nil _ _ _ _
  ·rw[if_neg B];have U:k=1:=by have:k≠0:=fun h=>B (J.1 h);omega
   subst U;exact O.o
 have made:∀(o:Option Addr) (m c:Nat) W,Calls Tryz.prog 167 #[.bool false,.slice o m c] W fun e w'=>e=.returned (.agg #[.bool false,.slice o m c])/\Below W.heap.size W w':=by intro o m c W;clear size nof;go_enter Tryz.func167,Tryz.ntmps167;go_wp2;have g0:(W.alloc (.cells #[.bool false,.slice o m c] 209)).cell? ⟨W.heap.size,0,none⟩=some (.bool false):=(aA.new W 209 #[.bool false,.slice o m c]).cell 0 rfl;have g1:(W.alloc (.cells #[.bool false,.slice o m c] 209)).cell? ⟨W.heap.size,1,none⟩=some (.slice o m c):=(aA.new W 209 #[.bool false,.slice o m c]).cell 1 rfl;exact bodyPost_ret (v:=.agg #[.bool false,.slice o m c]) (by simp[results,Tryz.results167,go_sem,g0,g1]) rfl ⟨rfl,(Zc _ _).alloc (Zb _) _⟩
 have HS:=Za size;have HN:=Za nof;have HM:=Za made;clear size nof made;have B:¬(n:Int)<0:=by omega
 obtain⟨W,hW⟩:=Zx (w.alloc (.cells #[.bool false,.slice none 0 0] 209));have L:aA W w.heap.size 209 #[.bool false,.slice none 0 0]:=by rw[hW];exact aA.new _ _ _
 have M:Below w.heap.size w W:=by rw[hW];exact(Zc _ _).alloc (Zb _) _
 have D:=Za (Zd L M);have HW:=Za hW;clear L M hW;go_enter Tryz.func137,Tryz.ntmps137;go_wp2_with(first
  |(go_at_call 169;rw[<-HW.o];refine(HS.o _).mono ?_;rintro e wq ⟨rfl,X⟩;subst X)
  |(go_at_call 168;refine(HN.o _).mono ?_;rintro e w2 ⟨⟨v,rfl,hv,o,m,c,rfl,hm⟩,H⟩;have HV:=Za (Zd hv hm);have I:=Za (Zd (D.o.1.next H) (D.o.2.trans (H.mono D.o.2.size)));clear hv hm H)
  |(go_at_call 167;refine(HM.o _ _ _ _).mono ?_;rintro e w3 ⟨rfl,E⟩;have A:=Za (Zd (I.o.1.next E) (I.o.2.trans (E.mono I.o.2.size)));have Y:=Za (Rd.below HV.o.1 E (Zb _));have e0:=A.o.1.cell 0 rfl;have e1:=A.o.1.cell 1 rfl;have f0:=A.o.1.free 0;have f1:=A.o.1.free 1;clear E))
 obtain⟨V,hV⟩:=Zx ((w3.setCell ⟨w.heap.size,0,none⟩ (.bool false)).setCell ⟨w.heap.size,1,none⟩ (.slice o m c));have F:aA V w.heap.size 209 #[.bool false,.slice o m c]:=by rw[hV];exact(A.o.1.set 0 (.bool false)).set 1 (.slice o m c)
 have hs:=A.o.1.lt;have Z:Below w.heap.size w V:=by rw[hV];exact(A.o.2.setCell (p:=⟨w.heap.size,0,none⟩) (Zb _) _).setCell (p:=⟨w.heap.size,1,none⟩) (Zb _) _
 have N:∀b off,o=some ⟨b,off,none⟩->b≠w.heap.size:=fun b off e h=>by
  have:=HV.o.2 b off e;have:=D.o.1.lt;omega
 have aa:kJ V (.slice o m c) n:=by rw[hV];exact Rd.setFree (Rd.setFree Y.o (p:=⟨w.heap.size,0,none⟩) N _) (p:=⟨w.heap.size,1,none⟩) N _
 rw[<-hV];have g0:=F.cell 0 rfl;have g1:=F.cell 1 rfl;simp only[Zk,Zi,Zj]at g0 g1;exact bodyPost_ret (v:=.agg #[.bool false,.slice o m c]) (by simp[results,Tryz.results137,go_sem,g0,g1]) rfl ⟨⟨_,rfl,aa⟩,Z⟩
theorem J0 (n:Nat) (v:Value) (w:World) (h:kJ w v n) (hn:n<1000000000):
  Calls Tryz.prog 186 #[v] w fun e w'=>(∃o m c,e=.returned (.slice o m c)/\Rd w' .u32 (.slice o m c) (if n=0 then [] else [(n:Int)])/\m=(if n=0 then 0 else 1)/\m<=c)/\Below w.heap.size w w':=by
 obtain⟨i0,hi,I,J,L⟩:=info_parts CU;by_cases h0:n=0
 ·subst h0;rw[kJ,if_pos rfl]at h;obtain⟨o,cap,rfl⟩:=aU h;have X:=Za fun W=>wF (.slice none 0 0) [] W (Rd.nil _ _ _ _) (by simp) (fun o m c e=>by cases e;omega);clear h;go_enter Tryz.func186,Tryz.ntmps186;go_wp2;go_loopw[3,4] (fun l i wr=>l=.slice none 0 0/\i=.int .i64 0/\Hid (wr=w)) (fun _ _ _=>0)
  case atStart=>exact⟨rfl,rfl,Za rfl⟩
  case round=>
   obtain⟨rfl,rfl,M⟩:=hrel;rw[M.o];go_wp2_with(go_at_call 197;refine(X.o _).mono ?_;rintro e w2 ⟨⟨o2,k,c2,E,rfl,B,_⟩,rfl⟩;have N:=Za (Zd E B);clear E B);go_ret;obtain⟨E,B⟩:=N.o;simp only[List.length_nil,Nat.le_zero]at B;subst B;exact⟨⟨_,_,_,rfl,Rd.nil _ _ _ _,rfl,Ze _⟩,Zc _ _⟩
 ·rw[kJ,if_neg h0]at h;obtain⟨o,cap,rfl⟩:=aU h;obtain⟨b,off,rfl,hc⟩:=h.cell 0 (by simp);go_enter Tryz.func186,Tryz.ntmps186;have hu:IntKind.u32.wrap (n:Int)=(n:Int):=by rw[IntKind.wrap_u32];omega
  have Y:IntKind.u32.wrap ((n:Int) / 4294967296)=0:=by
   rw[IntKind.wrap_u32];have:(n:Int) / 4294967296=0:=by omega
   rw[this];rfl
  have X:=Za hc;have O:=Za h0;simp only[Nat.add_zero,aF,List.getD_cons_zero]at hc;clear h h0;go_wp2;go_loopw[3,4] (fun l i wr=>(∃a c,l=.slice a 0 c/\i=.int .i64 0/\Hid (wr=w)/\Hid (w.ownsRow w.heap.size 27 1 (.slice a 0 c) 0 []))\/(∃g cap,l=.slice (some ⟨g,0,none⟩) 2 cap/\i=.int .i64 1/\Hid (wr.ownsRow w.heap.size 27 1 (.slice (some ⟨g,0,none⟩) 2 cap) 2 ([(n:Int),0].map (Value.int .u32))/\Below w.heap.size w wr))) (fun _ i _=>1-(intOf i).toNat)
  case atStart=>exact .inl ⟨none,0,rfl,rfl,Za rfl,Za (World.ownsRow_nil _ _ _ _)⟩
  case round=>
   rcases hrel with⟨a0,c0,rfl,rfl,M,F⟩|⟨g,c2,rfl,rfl,G⟩
   ·rw[M.o];go_wp2_with fail;go_region_law(refine step_append_lies _ (by rfl) (.tmp 11) (.tmp 23) 257 (by rfl) w.heap.size 27 i0 (.int .u32 0) 1 4 Tryz.underlying257 hi I J L rfl (by decide) (.slice a0 0 c0) 0 [] ?_ (cI F.o (((Zc _ _).alloc (Zb _) _).drew) (Zb _)) ⟨w.heap.size,0,none⟩ 2 2 ([(n:Int),0].map (Value.int .u32)) ?_ rfl (fun j u h=>eD w ([(n:Int),0].map (Value.int .u32)) 27 (0,0) j u h) ?_ (by decide) ?_ ?_ ?_ (w.heap.size+1) ?_ ?_;rfl;rfl;simp[Value.oneCell'];(unfold maxLen;omega);omega;simp;simp;intro gg cap6 w6 C A P hlt6;have Z:=Za (Zd C ((((Zc _ _).alloc (Zb _) _).drew).grown A (by simp) (fun k B=>(F.o.lt k B).1)));clear C A P hlt6)
    all_goals
     go_wp2_with fail;go_roundw
     case rel=>exact .inr ⟨_,_,rfl,by go_num,Z⟩
     case measure=>simp[intOf]
   ·have R:=Za (wF (.slice (some ⟨g,0,none⟩) 2 c2) [(n:Int),0] wr (Rd.of_own (xs:=[(n:Int),0]) G.o.1) (by simp) (fun o m c e=>by obtain⟨o',c',e2,H⟩:=jK G.o.1;cases e;cases e2;exact H));go_wp2_with(go_at_call 197;refine R.o.mono ?_;rintro e w2 ⟨⟨o2,k,c3,E,rfl,B,hz,D⟩,rfl⟩;have N:=Za (Zd E (Zd B (Zd hz D)));clear E B hz D);go_ret;obtain⟨E,B,hz,D⟩:=N.o;injection E with T aa U;subst T U;simp only[List.length_cons,List.length_nil]at B hz;have V:k=1:=by
     have h0:¬k=0:=fun e=>by
      subst e;have:=hz 0 (by omega) (by omega);simp[aF]at this;exact O.o this
     have h2:¬k=2:=fun e=>by
      subst e;have:=D (by omega);simp[aF]at this
     omega
    subst V;refine⟨⟨_,_,_,rfl,?_,rfl,?_⟩,G.o.2⟩
    ·exact(Rd.of_own (xs:=[(n:Int),0]) G.o.1).take 1 (by simp)
    ·obtain⟨o',c',e2,H⟩:=jK G.o.1;cases e2;omega
theorem G6 (n:Nat) (o:Option Addr) (c:Nat) (w:World) (h:Rd w .u32 (.slice o 1 c) [(n:Int)]) (hn:n<1000000000):
  Calls Tryz.prog 187 #[.slice o 1 c,.int .u32 1000000000] w fun e w'=>(∃o2 c2,e=.returned (.tuple #[.slice o2 0 c2,.int .u32 n]))/\Below w.heap.size w w':=by
 obtain⟨i0,hi,B,C,D⟩:=info_parts CU;obtain⟨b,off,rfl,hc⟩:=h.cell 0 (by simp);simp only[Nat.add_zero,aF,List.getD_cons_zero]at hc;have L:=Za hc;clear h hc;have P:IntKind.u64.wrap ((0:Int)*4294967296)=0:=by rw[IntKind.wrap_u64];rfl
 have R:bits BinOp.or IntKind.u64 0 (n:Int)=(n:Int):=by rw[u64_or _ _ (by omega) (by omega) (by omega) (by omega)];simp
 have T:IntKind.u64.wrap (n:Int)=(n:Int):=by rw[IntKind.wrap_u64];omega
 have M:IntKind.u32.wrap (n:Int)=(n:Int):=by rw[IntKind.wrap_u32];omega
 go_enter Tryz.func187,Tryz.ntmps187;go_wp2_with(at_make;refine wpList_make_full _ rfl _ _ 257 rfl w.heap.size 27 i0 (.int .u32 0) 1 Tryz.underlying257 hi B C .i64 .i64 _ _ 1 rfl rfl rfl rfl (by rw[D];omega) (by unfold maxLen;omega) (Zb _) ?_;intro w1 E hg;refine aD ?_);have F:=Za (show aH w1 w.heap.size 27 .u32 (.slice (some ⟨w.heap.size,0,none⟩) 1 1) [0] from aH.made E);have G:=Za (lM hg);clear hi B C D E hg;refine aC ?_;go_wp2;go_loopw[7,8] (fun r i wr=>(r=.int .u64 0/\i=.int .i64 0/\Hid (wr=w1))\/(r=.int .u64 n/\i=.int .i64 (-1)/\Hid (aH wr w.heap.size 27 .u32 (.slice (some ⟨w.heap.size,0,none⟩) 1 1) [0]/\Below w.heap.size w wr))) (fun _ i _=>(intOf i+1).toNat)
 case atStart=>exact .inl ⟨rfl,rfl,Za rfl⟩
 case round=>
  rcases hrel with⟨rfl,rfl,U⟩|⟨rfl,rfl,N⟩
  ·rw[U.o];have V:=(G.o.cell (p:=⟨b,off,none⟩) (aP L.o)).trans L.o;obtain⟨q0,f0⟩:=F.o.cell 0 (by simp);simp only[aF,List.getD_cons_zero]at q0;have O:(n:Int) / 1000000000=0:=by omega
   have H:(n:Int)%1000000000=(n:Int):=by omega
   go_wp2_with fail;rw[H];exact⟨.inr ⟨rfl,rfl,Za ⟨F.o.set 0 0,G.o.setCell (p:=⟨w.heap.size,0,none⟩) (Zb _) _⟩⟩,by simp[intOf]⟩
  ·have I:=Za (wF (.slice (some ⟨w.heap.size,0,none⟩) 1 1) [0] wr (Rd.of_own N.o.1) (by simp) (fun o m c e=>by cases e;omega));go_wp2_with(go_at_call 197;refine I.o.mono ?_;rintro e w2 ⟨⟨o2,k,c3,he,rfl,hk,hz,A⟩,rfl⟩;have X:=Za (Zd he (Zd hk (Zd hz A)));clear he hk hz A);obtain⟨he,hk,hz,A⟩:=X.o;have J:k=0:=by
    by_cases h0:0<k
    ·simp only[List.length_singleton]at hk;have h1:k=1:=by omega
     subst h1;exact absurd rfl (A h0)
    ·omega
   subst J;exact bodyPost_ret (v:=.tuple #[.slice o2 0 c3,.int .u32 n]) (by simp[results,Tryz.results187,go_sem]) rfl ⟨⟨_,_,rfl⟩,N.o.2⟩
theorem JL {w:World} {v:Value} {xs:List Int} (h:Rd w .u8 v xs) (h0:0<xs.length):
  (convert 23 9 v).run Tryz.prog w=.ok (.string (strOfNums xs)) w:=by obtain⟨o,cap,rfl,hc⟩:=h;obtain⟨b,off,rfl,_⟩:=hc 0 h0;refine run_convert_bytes_arg w _ _ Tryz.underlying23 Tryz.underlying5 b off _ cap xs rfl (fun i hi=>?_) _ Tryz.underlying9;obtain⟨b',off',e,A⟩:=hc i hi;simp at e;obtain⟨rfl,rfl⟩:=e;rw[A,dO _ _ hi];simp[hi]
theorem GM (n c:Nat) (h0:0<n) (h:n<10^(c+1)) (hc:10^c<=n):strOfNums (iZ n (c+1) (c+1))=⟨(Lib.decDigits n).toArray⟩:=by
 rw[<-BF c n h (fun _=>hc)];have e:((fun m:Int=>UInt8.ofNat m.toNat)∘fun b:UInt8=>(b.toNat:Int))=id:=by funext b;simp
 simp[strOfNums,List.map_map,e]
theorem JH (n:Nat) (v:Value) (w:World) (h:kJ w v n) (hn:n<1000000000):
  Calls Tryz.prog 166 #[v] w fun e w'=>e=.returned (.string ⟨(Lib.decDigits n).toArray⟩)/\Below w.heap.size w w':=by
 obtain⟨i0,hi,M,N,O⟩:=info_parts BA;have HH:=Za (J0 n v w h hn);by_cases h0:n=0
 ·have P:=Za (show(Lib.decDigits n).toArray=#[48] by rw[h0,Lib.decDigits,dif_pos (by omega)];rfl);obtain⟨o0,m0,c0,rfl⟩:∃o m c,v=.slice o m c:=by obtain⟨o,c,e⟩:=aU h;exact⟨_,_,_,e⟩
  clear h;go_enter Tryz.func166,Tryz.ntmps166;go_wp2_with(go_at_call 186;refine HH.o.mono ?_;rintro e w2 ⟨⟨o,m,c,rfl,_,G,_⟩,D⟩;rw[if_pos h0]at G;subst G;have H:=Za D;clear D);go_ret;exact⟨by rw[P.o];rfl,H.o⟩
 ·obtain⟨o0,m0,c0,rfl⟩:∃o m c,v=.slice o m c:=by obtain⟨o,c,e⟩:=aU h;exact⟨_,_,_,e⟩
  have J:=Za h0;clear h h0;go_enter Tryz.func166,Tryz.ntmps166;go_wp2_with(go_at_call 186;refine HH.o.mono ?_;rintro e w2 ⟨⟨o,m,c,rfl,hr,G,_⟩,D⟩;rw[if_neg J.o]at G hr;subst G;have H:=Za D;have Y:=Za hr;clear D hr);have Z:=Za (G6 n o c w2 Y.o hn);go_loopw[3,4] (fun x ds wr=>(∃o3 c3,x=.slice o3 0 c3/\Hid (∃d3 e3,ds=.slice d3 9 e3)/\Hid (aH wr w.heap.size 5 .u8 ds (jI n 9)/\Below w.heap.size w wr))\/(x=.slice o 1 c/\ds=.slice none 0 0/\Hid (wr=w2))) (fun x _ _=>match x with|.slice _ m _=>m|_=>0)
  case atStart=>exact .inr ⟨rfl,rfl,Za rfl⟩
  case round=>
   rcases hrel with⟨o3,c3,rfl,P,I⟩|⟨rfl,rfl,HE⟩
   ·obtain⟨d3,e3,rfl⟩:=P.o;obtain⟨w5,rfl⟩:=Zx wr;have R:=Za (Rd.of_own I.o.1);have h5:9<=(jI n 9).length:=by rw[sT];omega
    go_wp2_with fail;go_loopw[8] (fun i wr=>∃k:Nat,i=.int .i64 k/\k<=9/\Hid (n<10^k)/\Hid (wr=w5)) (fun i _=>(intOf i).toNat)
    case atStart=>exact⟨9,rfl,by omega,Za (by omega),Za rfl⟩
    case round=>
     obtain⟨k,rfl,hk,HK,HE⟩:=hrel;rw[HE.o];have aa:0<k:=by
      rcases Nat.eq_zero_or_pos k with h|h
      ·subst h;have:=HK.o;simp at this;exact absurd this J.o
      ·exact h
     obtain⟨b,off,ab,B⟩:=R.o.cell (k-1) (by omega);subst ab;rw[AI n 9 (k-1) (by omega)]at B;obtain⟨x,hx⟩:=Zx (jC n (k-1));rw[<-hx]at B;have HX:=Za hx;clear hx;have ac:IntKind.i64.wrap ((k:Int)-1)=((k-1:Nat):Int):=by rw[IntKind.wrap_i64];omega
     by_cases E:x=48
     ·subst E;have ad:=Za (show n<10^(k-1) by
       have h1:=HX.o;have h2:=HK.o;have h3:10^k=10^(k-1)*10:=by rw[<-Nat.pow_succ];congr 1;omega
       have hp:0<10^(k-1):=Nat.pow_pos (by omega);rw[h3]at h2;have h4:n / 10^(k-1)<10:=(Nat.div_lt_iff_lt_mul hp).2 (by rw[Nat.mul_comm];exact h2);rw[jC]at h1;have h6:n / 10^(k-1)=0:=by generalize n / 10^(k-1)=q at h1 h4;omega
       rcases(Nat.div_eq_zero_iff (a:=n) (b:=10^(k-1))).1 h6 with h7|h7
       ·omega
       ·exact h7)
      go_wp2_with fail;go_roundw
      case rel=>exact⟨k-1,by go_num,by omega,ad,by first|exact Za trivial|exact Za rfl⟩
      case measure=>simp[intOf];omega
     ·have aq:(x==48)=false:=by simpa using E
      have HG:=Za (show 10^(k-1)<=n by
       have h1:=HX.o;rcases Nat.lt_or_ge n (10^(k-1))with h|h
       ·rw[jC,Nat.div_eq_of_lt h]at h1;exact absurd h1 E
       ·exact h)
      go_wp2_with fail;clear B ac;go_loopw[9,10] (fun bs i wr=>∃j:Nat,j<=k/\i=.int .i64 ((k:Int)-1-j)/\Hid (∃d4 e4,bs=.slice d4 j e4)/\Hid (aH wr w5.heap.size 5 .u8 bs (iZ n k j)/\Below w5.heap.size w5 wr)) (fun _ i _=>(intOf i+1).toNat)
      case atStart=>exact⟨0,by omega,by go_num,Za ⟨_,_,rfl⟩,Za ⟨World.ownsRow_nil _ _ _ _,Zc _ _⟩⟩
      case round=>
       obtain⟨j,hj,rfl,ae,C⟩:=hrel;obtain⟨d4,e4,af⟩:=ae.o;subst af;by_cases ag:j<k
       ·obtain⟨b2,off2,T,U⟩:=(R.o.next' C.o.2).cell (k-1-j) (by omega);cases T;rw[AI n 9 (k-1-j) (by omega)]at U;obtain⟨y,hy⟩:=Zx (jC n (k-1-j));rw[<-hy]at U;have HY:=Za (show iZ n k (j+1)=iZ n k j++[y] by rw[AJ,hy]);clear hy;have ar:((k:Int)-1-j).toNat=k-1-j:=by omega
        have F:=Za (show wr.ownsRow w5.heap.size 5 1 (.slice d4 j e4) j ((iZ n k j).map (.int .u8)) by have:=C.o.1;rw[aH,wL]at this;exact this);have au:(0:Int)<=(k:Int)-1-j:=by omega
        have av:(k:Int)-1-j<9:=by omega
        have ah:=Za C.o.2.size;go_wp2_with(at_builtin;refine wpList_append_own _ rfl _ _ 23 rfl w5.heap.size 5 i0 (.int .u8 0) 1 1 Tryz.underlying23 hi M N O rfl (by decide) _ _ _ rfl (F.o.alloc _) ⟨wr.heap.size,0,none⟩ 1 1 [.int .u8 y] rfl rfl (cell_one_new _ _ _) (by simp[Value.oneCell']) (by unfold maxLen;omega) (by omega) (by have:=ah.o;simp;omega) ?_;intro v' w1 hown' A _;refine aD ?_);have L:=Za (Zd hown' (oG C.o.2 (Zb _) F.o A));clear hown' A;refine aC ?_;go_wp2_with fail;go_roundw
        case rel=>exact⟨j+1,by omega,by go_num,Za (by obtain⟨a,c9,e⟩:=aJ L.o.1;exact⟨_,_,e⟩),Za ⟨by rw[HY.o,aH,Zl,wL,List.map_append];exact L.o.1,L.o.2⟩⟩
        case measure=>simp[intOf];omega
       ·obtain rfl:j=k:=by omega
        have ap:¬(0:Int)<=(j:Int)-1-j:=by omega
        have ai:=JL (Rd.of_own C.o.1) (by rw[wL];exact aa);have V:strOfNums (iZ n j j)=⟨(Lib.decDigits n).toArray⟩:=by obtain⟨q,rfl⟩:∃q,j=q+1:=⟨j-1,by omega⟩;exact GM n q (Nat.pos_of_ne_zero J.o) HK.o HG.o
        rw[V]at ai;have aj:=Za (I.o.2.trans (C.o.2.mono I.o.2.size));clear V;go_wp2_with fail;go_ret;exact⟨rfl,aj.o⟩
   ·rw[HE.o];go_wp2_with(go_at_call 187;refine Z.o.mono ?_;rintro e w4 ⟨⟨o4,c4,rfl⟩,X⟩;have ak:=Za (H.o.trans (X.mono H.o.size));clear X);go_loopw[4,6,7] (fun ds r i wr=>∃k:Nat,k<=9/\i=.int .i64 k/\r=.int .u32 ((n / 10^k:Nat):Int)/\Hid (∃d3 e3,ds=.slice d3 k e3)/\Hid (aH wr w.heap.size 5 .u8 ds (jI n k)/\Below w.heap.size w wr)) (fun _ _ i _=>9-(intOf i).toNat)
    case atStart=>exact⟨0,by omega,rfl,by simp,Za ⟨_,_,rfl⟩,Za ⟨World.ownsRow_nil _ _ _ _,ak.o⟩⟩
    case round=>
     obtain⟨k,hk,rfl,rfl,P,I⟩:=hrel;obtain⟨d3,e3,al⟩:=P.o;subst al;by_cases ag:k<9
     ·obtain⟨m,G⟩:=Zx (n / 10^k);have aw:m<=n:=by rw[G];exact Nat.div_le_self _ _
      have HM:=Za G;rw[<-G];clear G;have ax:IntKind.u32.wrap (48+(m:Int)%10)=48+(m:Int)%10:=by rw[IntKind.wrap_u32];omega
      have ay:IntKind.u8.wrap (48+(m:Int)%10)=48+(m:Int)%10:=by rw[IntKind.wrap_u8];omega
      have az:IntKind.u32.wrap ((m:Int) / 10)=(m:Int) / 10:=by rw[IntKind.wrap_u32];omega
      have HN:=Za (show jI n (k+1)=jI n k++[48+(m:Int)%10] by rw[PG,jC,<-HM.o];simp);have ao:=Za (show n / 10^(k+1)=m / 10 by rw[HM.o,Nat.div_div_eq_div_mul,<-Nat.pow_succ]);have F:=Za (show wr.ownsRow w.heap.size 5 1 (.slice d3 k e3) k ((jI n k).map (.int .u8)) by have:=I.o.1;rw[aH,sT]at this;exact this);go_wp2_with(at_builtin;refine wpList_append_own _ rfl _ _ 23 rfl w.heap.size 5 i0 (.int .u8 0) 1 1 Tryz.underlying23 hi M N O rfl (by decide) _ _ _ rfl (F.o.alloc _) ⟨wr.heap.size,0,none⟩ 1 1 [.int .u8 (48+(m:Int)%10)] rfl rfl (cell_one_new _ _ _) (by simp[Value.oneCell']) (by unfold maxLen;omega) (by omega) (by have:=I.o.2.size;simp;omega) ?_;intro v' w1 hown' A _;refine aD ?_);have L:=Za (Zd hown' (oG I.o.2 (Zb _) F.o A));clear hown' A;refine aC ?_;go_wp2_with fail;go_roundw
      case rel=>exact⟨k+1,by omega,by go_num,by rw[ao.o];simp,Za (by obtain⟨a,c9,e⟩:=aJ L.o.1;exact⟨_,_,e⟩),Za ⟨by rw[HN.o,aH,Zl,sT,List.map_append];exact L.o.1,L.o.2⟩⟩
      case measure=>simp[intOf];omega
     ·obtain rfl:k=9:=by omega
      go_wp2_with fail;go_roundw
      case rel=>exact .inl ⟨_,_,rfl,Za ⟨_,_,rfl⟩,I⟩
      case measure=>simp
theorem CH (n:Nat) (v:Value) (w:World) (h:kJ w v n) (hn:n<1000000000):
  Calls Tryz.prog 136 #[.agg #[.bool false,v]] w fun e w'=>e=.returned (.string ⟨(Lib.itoa n).toArray⟩)/\Below w.heap.size w w':=by
 obtain⟨W,hW⟩:=Zx (w.alloc (.cells #[.bool false,v] 209));have A:aA W w.heap.size 209 #[.bool false,v]:=by rw[hW];exact aA.new _ _ _
 have B:Below w.heap.size w W:=by rw[hW];exact(Zc _ _).alloc (Zb _) _
 have F:=Za (JH n v W (Rd.next' h B) hn);have G:=Za (show Lib.itoa (n:Int)=Lib.decDigits n from xJ n);obtain⟨o0,m0,c0,rfl⟩:∃o m c,v=.slice o m c:=by obtain⟨o,c,e⟩:=aU h;exact⟨_,_,_,e⟩
 have E:=Za B;have H:=Za hW;have c0':=A.q 0 rfl;have c1':=A.q 1 rfl;rw[hW]at c0' c1';clear h A B hW;go_enter Tryz.func136,Tryz.ntmps136;go_wp2_with(go_at_call 166;rw[<-H.o];refine F.o.mono ?_;rintro e w2 ⟨rfl,C⟩;have D:=Za (E.o.trans (C.mono E.o.size));clear C);go_ret;exact⟨by rw[G.o];rfl,D.o⟩
