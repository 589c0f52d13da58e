/- A part of the proof. -/
import Derived.Test.YtjhkdocidcfpdaaGreatDoorEN06
import Derived.Test.YtjhkdocidcfpdaaGreatDoorEN08
set_option linter.unusedVariables false
set_option linter.unusedSimpArgs false
set_option maxRecDepth 100000
set_option maxHeartbeats 16000000
open List renaming getElem_cons_zero → Zi, getElem_cons_succ → Zj, getElem_toArray → Zk, length_append → Zl
namespace Go.Proofs.YtjhkdocidcfpdaaGreatDoor
open Go.RowKit Go.Shelf Go
def jT (x size stride pad:Int):Int:=if x+2*pad-(size-1)-1<0 then 0 else(x+2*pad-(size-1)-1) / stride+1
theorem P3 (x size stride pad:Int) (w:World) (hs:1<=size/\size<=4096) (ht:1<=stride/\stride<=4096) (hp:0<=pad/\pad<=4096) (hx:0<=x/\x<=4096):
  Calls Tryz.prog 204 #[.int .i64 x,.int .i64 size,.int .i64 stride,.int .i64 pad,.int .i64 1] w fun e w'=>e=.returned (.int .i64 (jT x size stride pad))/\aN w w':=by
 obtain⟨room,A⟩:=Zx (x+2*pad-(size-1)-1);have G:=Za (show jT x size stride pad=if room<0 then 0 else room / stride+1 by rw[jT,<-A]);have m1:IntKind.i64.wrap (2*pad)=2*pad:=by rw[IntWalk.i64_in _ (by omega)]
 have m2:IntKind.i64.wrap (x+2*pad)=x+2*pad:=by rw[IntWalk.i64_in _ (by omega)]
 have m3:IntKind.i64.wrap (size-1)=size-1:=by rw[IntWalk.i64_in _ (by omega)]
 have m4:IntKind.i64.wrap (1*(size-1))=size-1:=by rw[Int.one_mul,m3]
 have m5:IntKind.i64.wrap (x+2*pad-(size-1))=x+2*pad-(size-1):=by rw[IntWalk.i64_in _ (by omega)]
 have m6:IntKind.i64.wrap (x+2*pad-(size-1)-1)=room:=by rw[A];exact IntWalk.i64_in _ (by omega)
 have E:-9000<=room/\room<=20000:=by omega
 clear A;by_cases B:room<0
 ·have F:=Za (show jT x size stride pad=0 by rw[G.o,if_pos B]);go_enter Tryz.func204,Tryz.ntmps204;go_wp2_with fail;go_ret;exact⟨by rw[F.o];rfl,aN.refl _⟩
 ·obtain⟨I,J⟩:=ht;have F:=Za (show jT x size stride pad=room / stride+1 by rw[G.o,if_neg B]);have C:0<=room:=by omega
  have L:0<=room / stride:=Int.ediv_nonneg C (by omega);have M:room / stride<=20000:=Int.le_trans (Int.ediv_le_self _ C) E.2;have N:IntKind.i64.wrap (room.tdiv stride)=room / stride:=IntWalk.i64_quo _ _ (by omega);have O:IntKind.i64.wrap (room / stride+1)=room / stride+1:=IntWalk.i64_in _ (by omega);have D:¬stride=0:=by omega
  have H:(stride==0)=false:=by simp[D]
  go_enter Tryz.func204,Tryz.ntmps204;go_wp2_with fail;go_ret;exact⟨by rw[F.o];rfl,aN.refl _⟩
theorem N2 (x size stride pad:Int) (hs:1<=size/\size<=4096) (ht:1<=stride/\stride<=4096) (hp:0<=pad/\pad<=4096) (hx:0<=x/\x<=4096):0<=jT x size stride pad/\jT x size stride pad<=20001:=by
 rw[jT];split
 ·omega
 ·rename_i h;have A:0<=x+2*pad-(size-1)-1:=by omega
  have B:0<=(x+2*pad-(size-1)-1) / stride:=Int.ediv_nonneg A (by omega);have C:=Int.ediv_le_self stride A;omega
theorem RC {x size stride pad:Int} (ht:1<=stride):jT x size stride pad<1↔x+2*pad-(size-1)-1<0:=by
 rw[jT];split
 ·simp[*]
 ·rename_i h;have A:0<=(x+2*pad-(size-1)-1) / stride:=Int.ediv_nonneg (by omega) (by omega);constructor
  ·intro h2;omega
  ·intro h2;exact absurd h2 h
def pQ (w0:World) (res:Option (List Int)) (e:Ending) (w':World):Prop:=
 Below w0.heap.size w0 w'/\match res with
 |none=>e=.returned (.tuple #[.slice none 0 0,.bool false])
 |some ys=>∃v,e=.returned (.tuple #[v,.bool true])/\aH w' w0.heap.size 3 .i64 v ys
theorem J2 (size stride pad x0 x1:Int) (xs:List Int) (u:Value) (o1 o2 o3 o4 o5:Option Addr) (c1 c2 c3 c4 c5 n m:Nat) (w:World) (hs:1<=size/\size<=4096) (ht:1<=stride/\stride<=4096) (hp:0<=pad/\pad<=4096)
  (O:∀x∈xs,0<=x/\x<=4096) (hn:n=xs.length) (hm:m=n+2) (hl:xs.length<=4)
  (h1:Rd w .i64 (.slice o1 m c1) (x0::x1::xs)) (h2:Rd w .i64 (.slice o2 n c2) (List.replicate n size)) (h3:Rd w .i64 (.slice o3 n c3) (List.replicate n stride)) (h4:Rd w .i64 (.slice o4 n c4) (List.replicate n pad)) (h5:Rd w .i64 (.slice o5 n c5) (List.replicate n 1)):
  Calls Tryz.prog 196 #[.slice o1 m c1,.slice o2 n c2,.agg #[u,.slice o3 n c3,.slice o4 n c4,.slice o5 n c5]] w (pQ w (cR size stride pad xs)):=by
 obtain⟨i0,hi,Z,aa,ab⟩:=info_parts nH;have HR:=Za (Zd h1 (Zd h2 (Zd h3 (Zd h4 h5))));have HX:=Za O;have HN:=Za hn;have HM:=Za hm;obtain⟨W0,E⟩:=Zx (w.alloc (.cells #[u,.slice o3 n c3,.slice o4 n c4,.slice o5 n c5] 254));have R:Below w.heap.size w W0:=by rw[E];exact(Zc _ _).alloc (Zb _) _
 have T:aA W0 w.heap.size 254 #[u,.slice o3 n c3,.slice o4 n c4,.slice o5 n c5]:=by rw[E];exact aA.new _ _ _
 have ac:=Za E;have A:=Za (Zd R T);have ag:n<=4:=by omega
 have ah:m<=6:=by omega
 clear E R h1 h2 h3 h4 h5 O hn hm T;go_enter Tryz.func196,Tryz.ntmps196;go_wp2;rw[<-ac.o];go_loopw[8,9] (fun v i wr=>∃(k:Nat) (ys:List Int) (o7:Option Addr) (c7:Nat),k<=n/\i=.int .i64 k/\v=.slice o7 k c7/\ys.length=k/\Hid (cR size stride pad (xs.take k)=some ys)/\Hid (aH wr W0.heap.size 3 .i64 (.slice o7 k c7) ys/\Below W0.heap.size W0 wr)) (fun _ i _=>n-(intOf i).toNat)
 case atStart=>exact⟨0,[],none,0,Ze _,rfl,rfl,rfl,Za rfl,Za ⟨World.ownsRow_nil _ _ _ _,Zc _ _⟩⟩
 case round=>
  obtain⟨k,ys,o7,c7,hk,rfl,rfl,H,HY,G⟩:=hrel;obtain⟨w1,rfl⟩:=Zx wr;by_cases B:k<n
  ·obtain⟨r1,r2,r3,r4,r5⟩:=HR.o;have U:k<xs.length:=by rw[<-HN.o];exact B
   obtain⟨q1,p1,rfl,d1⟩:=r1.cell (k+2) (by simp;omega);have V:aF (x0::x1::xs) (k+2)=aF xs k:=by rw[aF,aF];simp[List.getD_eq_getElem?_getD]
   rw[V]at d1;obtain⟨q2,p2,rfl,d2⟩:=nA r2 k B;obtain⟨q3,p3,rfl,d3⟩:=nA r3 k B;obtain⟨q4,p4,rfl,d4⟩:=nA r4 k B;obtain⟨q5,p5,rfl,d5⟩:=nA r5 k B;have P:Below w.heap.size w w1:=A.o.1.trans (G.o.2.mono A.o.1.size);have e1:=(P.cell (p:=⟨q1,p1+(k+2),none⟩) (aP d1)).trans d1;have e2:=(P.cell (p:=⟨q2,p2+k,none⟩) (aP d2)).trans d2;have e3:=(P.cell (p:=⟨q3,p3+k,none⟩) (aP d3)).trans d3;have e4:=(P.cell (p:=⟨q4,p4+k,none⟩) (aP d4)).trans d4;have e5:=(P.cell (p:=⟨q5,p5+k,none⟩) (aP d5)).trans d5;have F:=A.o.2.next G.o.2;have a1:=F.q 1 rfl;have a2:=F.q 2 rfl;have a3:=F.q 3 rfl;have I:=HX.o _ (mS xs k U);obtain⟨x,O⟩:=Zx (aF xs k);rw[<-O]at I e1;have J:=Za (show cR size stride pad (xs.take (k+1))=if x+2*pad-(size-1)-1<0 then none else some (ys++[jT x size stride pad]) by
    rw[fG xs k U,vI,HY.o,Option.bind_some,<-O];split
    ·rfl
    ·rename_i h;rw[jT,if_neg h])
   have X:=Za (fun W=>P3 x size stride pad W hs ht hp I);have ad:=N2 x size stride pad hs ht hp I;have L:=Za (RC (x:=x) (size:=size) (stride:=stride) (pad:=pad) ht.1);obtain⟨y,hy⟩:=Zx (jT x size stride pad);rw[<-hy]at J X ad L;have ai:(2+(k:Int)).toNat=k+2:=by omega
   have aj:IntKind.i64.wrap (2+(k:Int))=2+(k:Int):=by rw[IntKind.wrap_i64];omega
   clear r1 r2 r3 r4 r5 d1 d2 d3 d4 d5 P O V F hy;have ak:2+(k:Int)<(m:Int):=by have:=HM.o;omega
   have al:(0:Int)<=2+(k:Int):=by omega
   go_wp2_with fail;go_quiet(first|(go_at_call 204;exact Calls.quiet_of (X.o _)));obtain⟨w2,hw2'⟩:∃w2,w2=w1.drewN nq:=⟨_,rfl⟩;rw[<-hw2'];have M:aN w1 w2:=⟨nq,hw2'⟩;have C:=Za (show w2.ownsRow W0.heap.size 3 1 (.slice o7 k c7) k (ys.map (.int .i64))/\Below W0.heap.size W0 w2 from⟨by have:=mA G.o.1 M;unfold aH at this;rw[H]at this;exact this,G.o.2.trans (M.below _)⟩);clear e1 e2 e3 e4 e5 a1 a2 a3 G M hw2';by_cases Y:y<1
   ·have ae:=Za (zQ size stride pad xs (k+1) (by rw[J.o,if_pos (L.o.1 Y)]));have af:=Za (A.o.1.trans (C.o.2.mono A.o.1.size));go_wp2_with fail;refine bodyPost_ret (v:=.tuple #[.slice none 0 0,.bool false]) (by simp[results,Tryz.results196,go_sem]) rfl ⟨af.o,?_⟩;rw[ae.o]
   ·have N:=Za (show cR size stride pad (xs.take (k+1))=some (ys++[y]) by rw[J.o,if_neg (fun h=>Y (L.o.2 h))]);go_wp2_with(at_builtin;refine wpList_append_own _ rfl _ _ 30 rfl W0.heap.size 3 i0 (.int .i64 0) 1 8 Tryz.underlying30 hi Z aa ab rfl (by decide) _ _ _ rfl (C.o.1.alloc _) ⟨w2.heap.size,0,none⟩ 1 1 [.int .i64 y] rfl rfl (cell_one_new _ _ _) (by simp[Value.oneCell']) (by unfold maxLen;omega) (by omega) (by have:=C.o.2.size;simp;omega) ?_;intro v' w6 hown' D _;refine aD ?_);have HV:=Za (Zd hown' (oG C.o.2 (Zb _) C.o.1 D));clear hown' D;obtain⟨o9,c9,rfl⟩:=aJ HV.o.1;refine aC ?_;go_wp2_with fail;go_roundw
    case rel=>exact⟨k+1,ys++[y],o9,c9,by omega,by go_num,rfl,by simp[H],N,Za ⟨by rw[aH,Zl,List.map_append,H];exact HV.o.1,HV.o.2⟩⟩
    case measure=>simp[intOf];omega
  ·obtain rfl:k=n:=by omega
   have N:=Za (show cR size stride pad xs=some ys by have:=HY.o;rwa [List.take_of_length_le (by rw[<-HN.o];exact Zb _)]at this);have HF:=Za (Zd (bY G.o.1 A.o.1.size) (A.o.1.trans (G.o.2.mono A.o.1.size)));clear G;go_wp2_with fail;refine bodyPost_ret (v:=.tuple #[.slice o7 k c7,.bool true]) (by simp[results,Tryz.results196,go_sem]) rfl ⟨HF.o.2,?_⟩;rw[N.o];exact⟨_,rfl,HF.o.1⟩
def fO (u v:Value):Prop:=∀g,u.ownBlock=some g->v.ownBlock≠some g
structure kM (B:Nat) (w:World) (v1 v2 v3 v4:Value) (x1 x2 x3 x4:List Int):Prop where
 o1:aH w B 3 .i64 v1 x1
 o2:aH w B 3 .i64 v2 x2
 o3:aH w B 3 .i64 v3 x3
 o4:aH w B 3 .i64 v4 x4
 n12:fO v1 v2
 n13:fO v1 v3
 n14:fO v1 v4
 n23:fO v2 v3
 n24:fO v2 v4
 n34:fO v3 v4
theorem fO.symm {u v:Value} (h:fO u v):fO v u:=fun g hv hu=>h g hu hv
theorem kM.rot {B:Nat} {w:World} {v1 v2 v3 v4:Value} {x1 x2 x3 x4:List Int} (h:kM B w v1 v2 v3 v4 x1 x2 x3 x4):kM B w v2 v3 v4 v1 x2 x3 x4 x1:=
 ⟨h.o2,h.o3,h.o4,h.o1,h.n23,h.n24,h.n12.symm,h.n34,h.n13.symm,h.n14.symm⟩
theorem tT {w w1 w2:World} {B:Nat} {e:TypeId} {s n:Nat} {u v:Value} {xs:List Value} (h:w.ownsRow B e s v n xs) (hb:Below w.heap.size w w1) (hg:w1.grownBy w2 u.ownBlock) (hn:fO u v):w2.ownsRow B e s v n xs:=by
 refine⟨h.1,?_⟩;rcases h.2 with hn'|⟨g,cap,cur,rfl,D,A,r⟩
 ·exact .inl hn'
 ·have C:=(Array.getElem?_eq_some_iff.1 A).1;exact .inr ⟨g,cap,cur,rfl,D,((hg.block g (Nat.lt_of_lt_of_le C hb.size) (fun e=>hn g e.symm rfl)).trans (hb.block g C)).trans A,r⟩
theorem zM {w:World} {B:Nat} {e:TypeId} {s n:Nat} {v:Value} {xs:List Value} (h:w.ownsRow B e s v n xs) {g:Nat} (hg:v.ownBlock=some g):g<w.heap.size:=(h.lt g hg).2
theorem kM.step {B:Nat} {w w1 w2:World} {v1 v2 v3 v4 v':Value} {x1 x2 x3 x4:List Int} {x:Int} (h:kM B w v1 v2 v3 v4 x1 x2 x3 x4) (hb:Below w.heap.size w w1) (hg:w1.grownBy w2 v1.ownBlock)
  (ho:w2.ownsRow B 3 1 v' (x1.length+1) (x1.map (Value.int .i64)++[.int .i64 x])) (A:v'.ownBlock=v1.ownBlock\/∃g,v'.ownBlock=some g/\w.heap.size<=g):kM B w2 v' v2 v3 v4 (x1++[x]) x2 x3 x4:=by
 have key:∀{v:Value} {xs:List Int},aH w B 3 .i64 v xs->fO v1 v->fO v' v:=fun hv hn g h1 h2=>by
  rcases A with e|⟨g',e,C⟩
  ·rw[e]at h1;exact hn g h1 h2
  ·rw[e]at h1;cases h1;have:=zM hv h2;omega
 exact⟨mV ho,tT h.o2 hb hg h.n12,tT h.o3 hb hg h.n13,tT h.o4 hb hg h.n14,key h.o2 h.n12,key h.o3 h.n13,key h.o4 h.n14,h.n23,h.n24,h.n34⟩
theorem qI {w:World} {B:Nat} {e:TypeId} {s n:Nat} {v:Value} {xs:List Value} {T:TypeId} {cs:Array Value} {C j:Nat} (h:w.ownsRow B e s v n xs) (hc:aA w C T cs) (hT:T≠e) (u:Value):(w.setCell ⟨C,j,none⟩ u).ownsRow B e s v n xs:=by
 refine⟨h.1,?_⟩;rcases h.2 with hn'|⟨g,cap,cur,rfl,D,A,r⟩
 ·exact .inl hn'
 ·refine .inr ⟨g,cap,cur,rfl,D,?_,r⟩;rw[Below.heap_setCell _ _ _ _ (fun e=>?_)]
  ·exact A
  ·simp only at e;subst e;unfold aA at hc;rw[hc]at A;injection A with A;injection A with _ h2;exact hT h2
theorem kM.setC {B:Nat} {w:World} {v1 v2 v3 v4:Value} {x1 x2 x3 x4:List Int} {T:TypeId} {cs:Array Value} {C j:Nat} (h:kM B w v1 v2 v3 v4 x1 x2 x3 x4) (hc:aA w C T cs) (hT:T≠3) (u:Value):kM B (w.setCell ⟨C,j,none⟩ u) v1 v2 v3 v4 x1 x2 x3 x4:=
 ⟨qI h.o1 hc hT u,qI h.o2 hc hT u,qI h.o3 hc hT u,qI h.o4 hc hT u,h.n12,h.n13,h.n14,h.n23,h.n24,h.n34⟩
theorem aA.grownC {w w1 w2:World} {B C:Nat} {e T:TypeId} {s n:Nat} {v:Value} {xs:List Value} {cs:Array Value} (h:aA w C T cs) (hb:Below w.heap.size w w1) (ho:w.ownsRow B e s v n xs) (hT:T≠e) (hg:w1.grownBy w2 v.ownBlock):aA w2 C T cs:=by
 refine((hg.block C (Nat.lt_of_lt_of_le h.lt hb.size) (fun e'=>?_)).trans (hb.block C h.lt)).trans h;rcases ho.2 with⟨rfl,_⟩|⟨g,cap,cur,rfl,_,A,_⟩
 ·cases e'
 ·simp[Value.ownBlock]at e';subst e';unfold aA at h;rw[h]at A;injection A with A;injection A with _ h2;exact hT h2
structure eM (w:World) (C:Nat) (v1 v2 v3 v4:Value) (x1 x2 x3 x4:List Int) (W:World):Prop where
 box:aA W C 254 #[v1,v2,v3,v4]
 low:Below w.heap.size w W
 quad:kM w.heap.size W v1 v2 v3 v4 x1 x2 x3 x4
 res:aA W w.heap.size 254 #[.slice none 0 0,.slice none 0 0,.slice none 0 0,.slice none 0 0]
 ne:C=w.heap.size+1
theorem eM.step0 {w W w1 w2:World} {C:Nat} {v1 v2 v3 v4 v':Value} {x1 x2 x3 x4:List Int} {x:Int} (h:eM w C v1 v2 v3 v4 x1 x2 x3 x4 W) (hb:Below W.heap.size W w1) (hg:w1.grownBy w2 v1.ownBlock)
  (ho:w2.ownsRow w.heap.size 3 1 v' (x1.length+1) (x1.map (Value.int .i64)++[.int .i64 x])) (B:v'.ownBlock=v1.ownBlock\/∃g,v'.ownBlock=some g/\W.heap.size<=g):
  (w2.cell? ⟨C,0,none⟩=some v1/\w2.frozen? ⟨C,0,none⟩=false)/\eM w C v' v2 v3 v4 (x1++[x]) x2 x3 x4 (w2.setCell ⟨C,0,none⟩ v'):=by have A:=h.box.grownC hb h.quad.o1 (by decide) hg;have D:=h.res.grownC hb h.quad.o1 (by decide) hg;have hq:=((h.quad).step hb hg ho B);have hl:Below w.heap.size w w2:=(h.low.trans (hb.mono h.low.size)).grown hg (by have:=h.low.size;have:=hb.size;omega) (fun k hk=>(h.quad.o1.lt k hk).1);refine⟨⟨A.cell 0 rfl,A.free 0⟩,A.set 0 v',hl.setCell (p:=⟨C,0,none⟩) (by rw[h.ne];show w.heap.size<=w.heap.size+1;omega) _,hq.setC A (by decide) _,D.other (p:=⟨C,0,none⟩) (by rw[h.ne];show w.heap.size+1≠w.heap.size;omega) _,h.ne⟩
theorem eM.step1 {w W w1 w2:World} {C:Nat} {v1 v2 v3 v4 v':Value} {x1 x2 x3 x4:List Int} {x:Int} (h:eM w C v1 v2 v3 v4 x1 x2 x3 x4 W) (hb:Below W.heap.size W w1) (hg:w1.grownBy w2 v2.ownBlock)
  (ho:w2.ownsRow w.heap.size 3 1 v' (x2.length+1) (x2.map (Value.int .i64)++[.int .i64 x])) (B:v'.ownBlock=v2.ownBlock\/∃g,v'.ownBlock=some g/\W.heap.size<=g):
  (w2.cell? ⟨C,1,none⟩=some v2/\w2.frozen? ⟨C,1,none⟩=false)/\eM w C v1 v' v3 v4 x1 (x2++[x]) x3 x4 (w2.setCell ⟨C,1,none⟩ v'):=by have A:=h.box.grownC hb h.quad.rot.o1 (by decide) hg;have D:=h.res.grownC hb h.quad.rot.o1 (by decide) hg;have hq:=((h.quad.rot).step hb hg ho B).rot.rot.rot;have hl:Below w.heap.size w w2:=(h.low.trans (hb.mono h.low.size)).grown hg (by have:=h.low.size;have:=hb.size;omega) (fun k hk=>(h.quad.rot.o1.lt k hk).1);refine⟨⟨A.cell 1 rfl,A.free 1⟩,A.set 1 v',hl.setCell (p:=⟨C,1,none⟩) (by rw[h.ne];show w.heap.size<=w.heap.size+1;omega) _,hq.setC A (by decide) _,D.other (p:=⟨C,1,none⟩) (by rw[h.ne];show w.heap.size+1≠w.heap.size;omega) _,h.ne⟩
theorem eM.step2 {w W w1 w2:World} {C:Nat} {v1 v2 v3 v4 v':Value} {x1 x2 x3 x4:List Int} {x:Int} (h:eM w C v1 v2 v3 v4 x1 x2 x3 x4 W) (hb:Below W.heap.size W w1) (hg:w1.grownBy w2 v3.ownBlock)
  (ho:w2.ownsRow w.heap.size 3 1 v' (x3.length+1) (x3.map (Value.int .i64)++[.int .i64 x])) (B:v'.ownBlock=v3.ownBlock\/∃g,v'.ownBlock=some g/\W.heap.size<=g):
  (w2.cell? ⟨C,2,none⟩=some v3/\w2.frozen? ⟨C,2,none⟩=false)/\eM w C v1 v2 v' v4 x1 x2 (x3++[x]) x4 (w2.setCell ⟨C,2,none⟩ v'):=by have A:=h.box.grownC hb h.quad.rot.rot.o1 (by decide) hg;have D:=h.res.grownC hb h.quad.rot.rot.o1 (by decide) hg;have hq:=((h.quad.rot.rot).step hb hg ho B).rot.rot;have hl:Below w.heap.size w w2:=(h.low.trans (hb.mono h.low.size)).grown hg (by have:=h.low.size;have:=hb.size;omega) (fun k hk=>(h.quad.rot.rot.o1.lt k hk).1);refine⟨⟨A.cell 2 rfl,A.free 2⟩,A.set 2 v',hl.setCell (p:=⟨C,2,none⟩) (by rw[h.ne];show w.heap.size<=w.heap.size+1;omega) _,hq.setC A (by decide) _,D.other (p:=⟨C,2,none⟩) (by rw[h.ne];show w.heap.size+1≠w.heap.size;omega) _,h.ne⟩
theorem eM.step3 {w W w1 w2:World} {C:Nat} {v1 v2 v3 v4 v':Value} {x1 x2 x3 x4:List Int} {x:Int} (h:eM w C v1 v2 v3 v4 x1 x2 x3 x4 W) (hb:Below W.heap.size W w1) (hg:w1.grownBy w2 v4.ownBlock)
  (ho:w2.ownsRow w.heap.size 3 1 v' (x4.length+1) (x4.map (Value.int .i64)++[.int .i64 x])) (B:v'.ownBlock=v4.ownBlock\/∃g,v'.ownBlock=some g/\W.heap.size<=g):
  (w2.cell? ⟨C,3,none⟩=some v4/\w2.frozen? ⟨C,3,none⟩=false)/\eM w C v1 v2 v3 v' x1 x2 x3 (x4++[x]) (w2.setCell ⟨C,3,none⟩ v'):=by have A:=h.box.grownC hb h.quad.rot.rot.rot.o1 (by decide) hg;have D:=h.res.grownC hb h.quad.rot.rot.rot.o1 (by decide) hg;have hq:=((h.quad.rot.rot.rot).step hb hg ho B).rot;have hl:Below w.heap.size w w2:=(h.low.trans (hb.mono h.low.size)).grown hg (by have:=h.low.size;have:=hb.size;omega) (fun k hk=>(h.quad.rot.rot.rot.o1.lt k hk).1);refine⟨⟨A.cell 3 rfl,A.free 3⟩,A.set 3 v',hl.setCell (p:=⟨C,3,none⟩) (by rw[h.ne];show w.heap.size<=w.heap.size+1;omega) _,hq.setC A (by decide) _,D.other (p:=⟨C,3,none⟩) (by rw[h.ne];show w.heap.size+1≠w.heap.size;omega) _,h.ne⟩
theorem GG {w W0:World} (h0:W0=(w.alloc (.cells #[.slice none 0 0,.slice none 0 0,.slice none 0 0,.slice none 0 0] 254)).alloc (.cells #[.slice none 0 0,.slice none 0 0,.slice none 0 0,.slice none 0 0] 254)):
  eM w (w.heap.size+1) (.slice none 0 0) (.slice none 0 0) (.slice none 0 0) (.slice none 0 0) [] [] [] [] W0:=by
 have hb:aA W0 (w.heap.size+1) 254 #[.slice none 0 0,.slice none 0 0,.slice none 0 0,.slice none 0 0]:=by
  rw[h0];have:=aA.new (w.alloc (.cells #[.slice none 0 0,.slice none 0 0,.slice none 0 0,.slice none 0 0] 254)) 254 #[.slice none 0 0,.slice none 0 0,.slice none 0 0,.slice none 0 0]
  rwa [World.size_alloc]at this
 have hr:aA W0 w.heap.size 254 #[.slice none 0 0,.slice none 0 0,.slice none 0 0,.slice none 0 0]:=by rw[h0];exact(aA.new _ _ _).next ((Zc _ _).alloc (Zb _) _)
 have hl:Below w.heap.size w W0:=by rw[h0];exact((Zc _ _).alloc (Zb _) _).alloc (by simp) _
 have nn:fO (.slice none 0 0) (.slice none 0 0):=fun g h=>by cases h
 have on:∀W:World,aH W w.heap.size 3 .i64 (.slice none 0 0) []:=fun W=>World.ownsRow_nil _ _ _ _;exact⟨hb,hl,⟨on _,on _,on _,on _,nn,nn,nn,nn,nn,nn⟩,hr,rfl⟩
theorem QW {w w1 V:World} {C:Nat} {v1 v2 v3 v4:Value} {x1 x2 x3 x4:List Int} (h:eM w C v1 v2 v3 v4 x1 x2 x3 x4 w1)
  (hV:V=(((w1.setCell ⟨w.heap.size,0,none⟩ v1).setCell ⟨w.heap.size,1,none⟩ v2).setCell ⟨w.heap.size,2,none⟩ v3).setCell ⟨w.heap.size,3,none⟩ v4):aA V w.heap.size 254 #[v1,v2,v3,v4]/\Below w.heap.size w V/\kM w.heap.size V v1 v2 v3 v4 x1 x2 x3 x4:=by have r0:aA (w1.setCell ⟨w.heap.size,0,none⟩ v1) w.heap.size 254 #[v1,.slice none 0 0,.slice none 0 0,.slice none 0 0]:=h.res.set 0 v1;have r1:aA ((w1.setCell ⟨w.heap.size,0,none⟩ v1).setCell ⟨w.heap.size,1,none⟩ v2) w.heap.size 254 #[v1,v2,.slice none 0 0,.slice none 0 0]:=r0.set 1 v2;have r2:aA (((w1.setCell ⟨w.heap.size,0,none⟩ v1).setCell ⟨w.heap.size,1,none⟩ v2).setCell ⟨w.heap.size,2,none⟩ v3) w.heap.size 254 #[v1,v2,v3,.slice none 0 0]:=r1.set 2 v3;have q0:=h.quad.setC h.res (by decide) v1 (j:=0);have q1:=q0.setC r0 (by decide) v2 (j:=1);have q2:=q1.setC r1 (by decide) v3 (j:=2);have q3:=q2.setC r2 (by decide) v4 (j:=3);rw[hV];exact⟨r2.set 3 v4,(((h.low.setCell (p:=⟨w.heap.size,0,none⟩) (Zb _) _).setCell (p:=⟨w.heap.size,1,none⟩) (Zb _) _).setCell (p:=⟨w.heap.size,2,none⟩) (Zb _) _).setCell (p:=⟨w.heap.size,3,none⟩) (Zb _) _,q3⟩
theorem p8 (k:Nat) (x:Int):List.replicate k x++[x]=List.replicate (k+1) x:=by rw[List.replicate_succ']
theorem LG (size stride pad:Int) (n:Nat) (w:World) (hn:n<=4):
  Calls Tryz.prog 184 #[.int .i64 size,.int .i64 stride,.int .i64 pad,.int .i64 n] w fun e w'=>(∃o1 c1 o2 c2 o3 c3 o4 c4,e=.returned (.agg #[.slice o1 n c1,.slice o2 n c2,.slice o3 n c3,.slice o4 n c4])/\Rd w' .i64 (.slice o1 n c1) (List.replicate n size)/\Rd w' .i64 (.slice o2 n c2) (List.replicate n stride)/\Rd w' .i64 (.slice o3 n c3) (List.replicate n pad)/\Rd w' .i64 (.slice o4 n c4) (List.replicate n 1))/\Below w.heap.size w w':=by
 obtain⟨i0,hi,J,L,M⟩:=info_parts nH;obtain⟨W0,U⟩:=Zx ((w.alloc (.cells #[.slice none 0 0,.slice none 0 0,.slice none 0 0,.slice none 0 0] 254)).alloc (.cells #[.slice none 0 0,.slice none 0 0,.slice none 0 0,.slice none 0 0] 254));have HC:=Za (GG U);have HW:=Za U;clear U;go_enter Tryz.func184,Tryz.ntmps184;go_wp2;rw[<-HW.o];go_loopw[10] (fun i wr=>∃k:Nat,k<=n/\i=.int .i64 k/\∃v1 v2 v3 v4,Hid (eM w (w.heap.size+1) v1 v2 v3 v4 (List.replicate k size) (List.replicate k stride) (List.replicate k pad) (List.replicate k 1) wr)) (fun i _=>n-(intOf i).toNat)
 case atStart=>exact⟨0,Ze _,rfl,_,_,_,_,HC⟩
 case round=>
  obtain⟨k,hk,rfl,v1,v2,v3,v4,A⟩:=hrel;obtain⟨w1,rfl⟩:=Zx wr;by_cases aj:k<n
  ·have HZ:=Za (show w.heap.size<=w1.heap.size from A.o.low.size);have q0:=A.o.box.q 0 rfl;have ab:=Za (show w1.ownsRow w.heap.size 3 1 v1 k ((List.replicate k size).map (.int .i64)) by have:=A.o.quad.o1;unfold aH at this;rwa [List.length_replicate]at this);obtain⟨a0,b0,rfl⟩:=aJ ab.o;have af:=Za (show w.heap.size<=w1.heap.size from A.o.low.size);go_wp2_with(at_builtin;refine wpList_append_own_at _ rfl _ _ 30 rfl w.heap.size 3 i0 (.int .i64 0) 1 8 Tryz.underlying30 hi J L M rfl (by decide) _ _ _ rfl (ab.o.alloc _) ⟨w1.heap.size,0,none⟩ 1 1 [.int .i64 size] rfl rfl (cell_one_new _ _ _) (by simp[Value.oneCell']) (by unfold maxLen;omega) (by omega) (by have:=af.o;simp;omega) ?_;intro u0 y0 B F _ hob0;obtain⟨c0,d0,rfl⟩:=aJ B;have N:=Za (eM.step0 A.o ((Zc _ _).alloc (Zb _) _) F (by rw[List.length_replicate];exact B) (hob0.imp id (fun e=>⟨_,e,by simp⟩)));have p0:=N.o.1.1;have f0:=N.o.1.2;clear B F hob0;refine aD ?_);clear q0;refine aC ?_;go_upto_region 6 with(fail);obtain⟨w2,X⟩:=Zx (y0.setCell ⟨w.heap.size+1,0,none⟩ (.slice c0 (k+1) d0));have H0:=Za (show eM w (w.heap.size+1) (.slice c0 (k+1) d0) v2 v3 v4 (List.replicate (k+1) size) (List.replicate k stride) (List.replicate k pad) (List.replicate k 1) w2 by rw[X];have:=N.o.2;rw[p8]at this;exact this);rw[<-X];clear p0 f0 X N;have q1:=H0.o.box.q 1 rfl;have ac:=Za (show w2.ownsRow w.heap.size 3 1 v2 k ((List.replicate k stride).map (.int .i64)) by have:=H0.o.quad.rot.o1;unfold aH at this;rwa [List.length_replicate]at this);obtain⟨a1,b1,rfl⟩:=aJ ac.o;have ag:=Za (show w.heap.size<=w2.heap.size from H0.o.low.size);go_wp2_with(at_builtin;refine wpList_append_own_at _ rfl _ _ 30 rfl w.heap.size 3 i0 (.int .i64 0) 1 8 Tryz.underlying30 hi J L M rfl (by decide) _ _ _ rfl (ac.o.alloc _) ⟨w2.heap.size,0,none⟩ 1 1 [.int .i64 stride] rfl rfl (cell_one_new _ _ _) (by simp[Value.oneCell']) (by unfold maxLen;omega) (by omega) (by have:=ag.o;simp;omega) ?_;intro u1 y1 C G _ hob1;obtain⟨c1,d1,rfl⟩:=aJ C;have O:=Za (eM.step1 H0.o ((Zc _ _).alloc (Zb _) _) G (by rw[List.length_replicate];exact C) (hob1.imp id (fun e=>⟨_,e,by simp⟩)));have p1:=O.o.1.1;have f1:=O.o.1.2;clear C G hob1;refine aD ?_);clear q1;refine aC ?_;go_upto_region 7 with(fail);obtain⟨w3,Y⟩:=Zx (y1.setCell ⟨w.heap.size+1,1,none⟩ (.slice c1 (k+1) d1));have H1:=Za (show eM w (w.heap.size+1) (.slice c0 (k+1) d0) (.slice c1 (k+1) d1) v3 v4 (List.replicate (k+1) size) (List.replicate (k+1) stride) (List.replicate k pad) (List.replicate k 1) w3 by rw[Y];have:=O.o.2;rw[p8]at this;exact this);rw[<-Y];clear p1 f1 Y O;have q2:=H1.o.box.q 2 rfl;have ad:=Za (show w3.ownsRow w.heap.size 3 1 v3 k ((List.replicate k pad).map (.int .i64)) by have:=H1.o.quad.rot.rot.o1;unfold aH at this;rwa [List.length_replicate]at this);obtain⟨a2,b2,rfl⟩:=aJ ad.o;have ah:=Za (show w.heap.size<=w3.heap.size from H1.o.low.size);go_wp2_with(at_builtin;refine wpList_append_own_at _ rfl _ _ 30 rfl w.heap.size 3 i0 (.int .i64 0) 1 8 Tryz.underlying30 hi J L M rfl (by decide) _ _ _ rfl (ad.o.alloc _) ⟨w3.heap.size,0,none⟩ 1 1 [.int .i64 pad] rfl rfl (cell_one_new _ _ _) (by simp[Value.oneCell']) (by unfold maxLen;omega) (by omega) (by have:=ah.o;simp;omega) ?_;intro u2 y2 D H _ hob2;obtain⟨c2,d2,rfl⟩:=aJ D;have P:=Za (eM.step2 H1.o ((Zc _ _).alloc (Zb _) _) H (by rw[List.length_replicate];exact D) (hob2.imp id (fun e=>⟨_,e,by simp⟩)));have p2:=P.o.1.1;have f2:=P.o.1.2;clear D H hob2;refine aD ?_);clear q2;refine aC ?_;go_upto_region 8 with(fail);obtain⟨w4,Z⟩:=Zx (y2.setCell ⟨w.heap.size+1,2,none⟩ (.slice c2 (k+1) d2));have H2:=Za (show eM w (w.heap.size+1) (.slice c0 (k+1) d0) (.slice c1 (k+1) d1) (.slice c2 (k+1) d2) v4 (List.replicate (k+1) size) (List.replicate (k+1) stride) (List.replicate (k+1) pad) (List.replicate k 1) w4 by rw[Z];have:=P.o.2;rw[p8]at this;exact this);rw[<-Z];clear p2 f2 Z P;have q3:=H2.o.box.q 3 rfl;have ae:=Za (show w4.ownsRow w.heap.size 3 1 v4 k ((List.replicate k 1).map (.int .i64)) by have:=H2.o.quad.rot.rot.rot.o1;unfold aH at this;rwa [List.length_replicate]at this);obtain⟨a3,b3,rfl⟩:=aJ ae.o;have ai:=Za (show w.heap.size<=w4.heap.size from H2.o.low.size);go_wp2_with(at_builtin;refine wpList_append_own_at _ rfl _ _ 30 rfl w.heap.size 3 i0 (.int .i64 0) 1 8 Tryz.underlying30 hi J L M rfl (by decide) _ _ _ rfl (ae.o.alloc _) ⟨w4.heap.size,0,none⟩ 1 1 [.int .i64 1] rfl rfl (cell_one_new _ _ _) (by simp[Value.oneCell']) (by unfold maxLen;omega) (by omega) (by have:=ai.o;simp;omega) ?_;intro u3 y3 E I _ hob3;obtain⟨c3,d3,rfl⟩:=aJ E;have R:=Za (eM.step3 H2.o ((Zc _ _).alloc (Zb _) _) I (by rw[List.length_replicate];exact E) (hob3.imp id (fun e=>⟨_,e,by simp⟩)));have p3:=R.o.1.1;have f3:=R.o.1.2;clear E I hob3;refine aD ?_);clear q3;refine aC ?_;go_wp2_with fail;obtain⟨w5,aa⟩:=Zx (y3.setCell ⟨w.heap.size+1,3,none⟩ (.slice c3 (k+1) d3));have H3:=Za (show eM w (w.heap.size+1) (.slice c0 (k+1) d0) (.slice c1 (k+1) d1) (.slice c2 (k+1) d2) (.slice c3 (k+1) d3) (List.replicate (k+1) size) (List.replicate (k+1) stride) (List.replicate (k+1) pad) (List.replicate (k+1) 1) w5 by rw[aa];have:=R.o.2;rw[p8]at this;exact this);rw[<-aa];clear p3 f3 aa R;go_wp2_with fail;go_roundw
   case rel=>exact⟨k+1,by omega,by go_num,_,_,_,_,H3⟩
   case measure=>simp[intOf];omega
  ·obtain rfl:k=n:=by omega
   obtain⟨e1,g1,rfl⟩:=aJ A.o.quad.o1;obtain⟨e2,g2,rfl⟩:=aJ A.o.quad.o2;obtain⟨e3,g3,rfl⟩:=aJ A.o.quad.o3;obtain⟨e4,g4,rfl⟩:=aJ A.o.quad.o4;have q0:=A.o.box.cell 0 rfl;have q1:=A.o.box.cell 1 rfl;have q2:=A.o.box.cell 2 rfl;have q3:=A.o.box.cell 3 rfl;obtain⟨p0,p1,p2,p3⟩:=A.o.res.r4;have f0:=A.o.res.free 0;have f1:=A.o.res.free 1;have f2:=A.o.res.free 2;have f3:=A.o.res.free 3;simp only[List.length_replicate,Zk,Zi,Zj]at q0 q1 q2 q3;go_wp2_with fail;obtain⟨V,hV⟩:=Zx ((((w1.setCell ⟨w.heap.size,0,none⟩ (.slice e1 k g1)).setCell ⟨w.heap.size,1,none⟩ (.slice e2 k g2)).setCell ⟨w.heap.size,2,none⟩ (.slice e3 k g3)).setCell ⟨w.heap.size,3,none⟩ (.slice e4 k g4));have T:=QW (show eM w (w.heap.size+1) (.slice e1 k g1) (.slice e2 k g2) (.slice e3 k g3) (.slice e4 k g4) (List.replicate k size) (List.replicate k stride) (List.replicate k pad) (List.replicate k 1) w1 by have:=A.o;simp only[List.length_replicate]at this;exact this) hV;rw[<-hV];clear p0 p1 p2 p3 f0 f1 f2 f3 q0 q1 q2 q3 hV;have g0':=T.1.cell 0 rfl;have g1':=T.1.cell 1 rfl;have g2':=T.1.cell 2 rfl;have g3':=T.1.cell 3 rfl;simp only[Zk,Zi,Zj]at g0' g1' g2' g3';refine bodyPost_ret (v:=.agg #[.slice e1 k g1,.slice e2 k g2,.slice e3 k g3,.slice e4 k g4]) (by simp[results,Tryz.results184,go_sem,g0',g1',g2',g3']) rfl ⟨⟨e1,g1,e2,g2,e3,g3,e4,g4,rfl,?_,?_,?_,?_⟩,T.2.1⟩
   ·have:=Rd.of_own T.2.2.o1;exact this
   ·have:=Rd.of_own T.2.2.o2;exact this
   ·have:=Rd.of_own T.2.2.o3;exact this
   ·have:=Rd.of_own T.2.2.o4;exact this
theorem tE (size stride pad x0:Int) (xs:List Int) (o o1 o2 o3 o4:Option Addr) (c c1 c2 c3 c4 n m:Nat) (w:World) (hs:1<=size/\size<=4096) (ht:1<=stride/\stride<=4096) (hp:0<=pad/\pad<=4096)
  (hx:∀x∈xs,0<=x/\x<=4096) (hn:n=xs.length) (hm:m=n+1) (hl:xs.length<=4)
  (h0:Rd w .i64 (.slice o m c) (x0::xs)) (h1:Rd w .i64 (.slice o1 n c1) (List.replicate n size)) (h2:Rd w .i64 (.slice o2 n c2) (List.replicate n stride)) (h3:Rd w .i64 (.slice o3 n c3) (List.replicate n pad)) (h4:Rd w .i64 (.slice o4 n c4) (List.replicate n 1)):
  Calls Tryz.prog 183 #[.slice o m c,.agg #[.slice o1 n c1,.slice o2 n c2,.slice o3 n c3,.slice o4 n c4]] w (pQ w (cR size stride pad xs)):=by
 obtain⟨i0,hi,R,T,U⟩:=info_parts nH;obtain⟨W,hW⟩:=Zx (w.alloc (.cells #[.slice o1 n c1,.slice o2 n c2,.slice o3 n c3,.slice o4 n c4] 254));have D:Below w.heap.size w W:=by rw[hW];exact(Zc _ _).alloc (Zb _) _
 have E:aA W w.heap.size 254 #[.slice o1 n c1,.slice o2 n c2,.slice o3 n c3,.slice o4 n c4]:=by rw[hW];exact aA.new _ _ _
 have P:=Za (Zd (Rd.next' h0 D) (Zd (Rd.next' h1 D) (Zd (Rd.next' h2 D) (Zd (Rd.next' h3 D) (Rd.next' h4 D)))));have G:=Za (Zd D E);have Y:=Za hW;have F:=Za (show m=(x0::xs).length by rw[hm,hn];rfl);have M:=Za (fun(W2:World) (v:Option Addr) (cv:Nat) (hb:Below W.heap.size W W2) (hv:Rd W2 .i64 (.slice v (xs.length+1+1) cv) ([1]++(x0::xs)))=>J2 size stride pad 1 x0 xs (.slice o1 n c1) v o1 o2 o3 o4 cv c1 c2 c3 c4 n (xs.length+1+1) W2 hs ht hp hx hn (by omega) hl hv (Rd.next' P.o.2.1 hb) (Rd.next' P.o.2.2.1 hb) (Rd.next' P.o.2.2.2.1 hb) (Rd.next' P.o.2.2.2.2 hb));have Z:m<=5:=by omega
 obtain⟨y0,y1,y2,y3⟩:=E.r4;have Y0:∀o,(W.alloc o).cell? ⟨w.heap.size,0,none⟩=some (.slice o1 n c1):=E.cellA 0 rfl;have Y1:∀o,(W.alloc o).cell? ⟨w.heap.size,1,none⟩=some (.slice o2 n c2):=E.cellA 1 rfl;have Y2:∀o,(W.alloc o).cell? ⟨w.heap.size,2,none⟩=some (.slice o3 n c3):=E.cellA 2 rfl;have Y3:∀o,(W.alloc o).cell? ⟨w.heap.size,3,none⟩=some (.slice o4 n c4):=E.cellA 3 rfl;have J:=Za (show aH (W.alloc (.cells #[.int .i64 1] 3)).drew W.heap.size 3 .i64 (.slice (some ⟨W.heap.size,0,none⟩) 1 1) [1] from mA (aH.lit W .i64 [1] _ (by unfold maxLen;simp)) ⟨1,rfl⟩);have C:=Za (show Below W.heap.size W (W.alloc (.cells #[.int .i64 1] 3)).drew from((Zc _ _).alloc (Zb _) _).drew);clear h0 h1 h2 h3 h4 hx hn hm hl D E hW;go_enter Tryz.func183,Tryz.ntmps183;go_wp2_with fail;rw[<-Y.o];obtain⟨res,H⟩:=Zx (cR size stride pad xs);rw[<-H]at M;have L:=Za H;clear H;cases res with
 |none=>
  go_region_law(first
   |(refine oZ (by rfl) (.tmp 6) (.tmp 7) 30 (by rfl) W.heap.size 3 .i64 i0 8 Tryz.underlying30 hi R T U _ [1] rfl J.o _ (x0::xs) rfl (Rd.next' P.o.1 C.o) (by unfold maxLen;rw[<-F.o];simp;omega) (by rw[<-F.o];simp;omega) C.o.size ?_;intro v' w2 B hg _;have V:=Za (Rd.of_own B);have A:=Za (C.o.grown hg C.o.size (fun k hk=>(J.o.lt k hk).1));obtain⟨oq,kq,rfl⟩:=aJ B;have e0:=(G.o.2.next A.o).cell 0 rfl;have e1:=(G.o.2.next A.o).cell 1 rfl;have e2:=(G.o.2.next A.o).cell 2 rfl;have e3:=(G.o.2.next A.o).cell 3 rfl;clear B hg)
   |(go_simp;go_at_call 196;refine(M.o _ _ _ A.o V.o).mono ?_;rintro e w3 ⟨I,rfl⟩;have N:=Za (A.o.trans (I.mono A.o.size));clear I))
  all_goals
   go_wp2_with fail;exact bodyPost_ret (v:=.tuple #[.slice none 0 0,.bool false]) (by simp[results,Tryz.results183,go_sem]) rfl ⟨G.o.1.trans (N.o.mono G.o.1.size),by rw[<-L.o]⟩
 |some ys=>
  go_region_law(first
   |(refine oZ (by rfl) (.tmp 6) (.tmp 7) 30 (by rfl) W.heap.size 3 .i64 i0 8 Tryz.underlying30 hi R T U _ [1] rfl J.o _ (x0::xs) rfl (Rd.next' P.o.1 C.o) (by unfold maxLen;rw[<-F.o];simp;omega) (by rw[<-F.o];simp;omega) C.o.size ?_;intro v' w2 B hg _;have V:=Za (Rd.of_own B);have A:=Za (C.o.grown hg C.o.size (fun k hk=>(J.o.lt k hk).1));obtain⟨oq,kq,rfl⟩:=aJ B;have e0:=(G.o.2.next A.o).cell 0 rfl;have e1:=(G.o.2.next A.o).cell 1 rfl;have e2:=(G.o.2.next A.o).cell 2 rfl;have e3:=(G.o.2.next A.o).cell 3 rfl;clear B hg)
   |(go_simp;go_at_call 196;refine(M.o _ _ _ A.o V.o).mono ?_;rintro e w3 ⟨I,u3,rfl,O⟩;have N:=Za (A.o.trans (I.mono A.o.size));have X:=Za (bY O (Nat.le_trans G.o.1.size A.o.size));obtain⟨o9,k9,rfl⟩:=aJ O;clear I O))
  all_goals
   go_wp2_with fail;exact bodyPost_ret (v:=.tuple #[.slice o9 ys.length k9,.bool true]) (by simp[results,Tryz.results183,go_sem]) rfl ⟨G.o.1.trans (N.o.mono G.o.1.size),by rw[<-L.o];exact⟨_,rfl,X.o⟩⟩
