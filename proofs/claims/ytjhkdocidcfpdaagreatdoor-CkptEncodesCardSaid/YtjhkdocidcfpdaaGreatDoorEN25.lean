/- A part of the proof. -/
import Derived.Test.YtjhkdocidcfpdaaGreatDoorEN21
import Derived.Test.YtjhkdocidcfpdaaGreatDoorEN24
set_option linter.unusedVariables false
set_option linter.unusedSimpArgs false
set_option maxRecDepth 100000
set_option maxHeartbeats 16000000
namespace Go.Proofs.YtjhkdocidcfpdaaGreatDoor
open Go.RowKit Go.Shelf Go
theorem fI.box {g n₀:Nat} {vps:Value} {qs:List PD} {vs:Value} {s:List Int} {w W0:World} (h:fI g n₀ vps false qs vs s w) (n:aE) (vb:Value) (h0:W0=w.alloc (.cells (oW n vb) 175)):eK g n₀ w.heap.size n vb vps 0 qs vs s w W0:=by
 have hb:Below w.heap.size w W0:=by rw[h0];exact(Zc _ _).alloc (Zb _) _
 exact⟨cF.below hb (Nat.le_of_lt h.wk.lt),h.wk.next hb,by rw[h0];exact aA.new _ _ _,h.row.below hb,h.sh.below hb,h.hn,h.wk.lt⟩
theorem bP.pre {g n₀:Nat} {qs:List PD} {res:Option (List Int×List (List Int))} {w W:World} {e:Ending} {w':World} (h:bP g n₀ qs res W e w') (hs:cF g w W):bP g n₀ qs res w e w':=⟨hs.trans h.1,h.2⟩
theorem nK (size stride pad nn:Int) (n:Nat) (w:World) (A:nn=n) (hn:n<=4):
  Calls Tryz.prog 184 #[.int .i64 size,.int .i64 stride,.int .i64 pad,.int .i64 nn] w fun e w'=>(∃o1 c1 o2 c2 o3 c3 o4 c4,e=.returned (.agg #[.slice o1 n c1,.slice o2 n c2,.slice o3 n c3,.slice o4 n c4])/\Rd w' .i64 (.slice o1 n c1) (List.replicate n size)/\Rd w' .i64 (.slice o2 n c2) (List.replicate n stride)/\Rd w' .i64 (.slice o3 n c3) (List.replicate n pad)/\Rd w' .i64 (.slice o4 n c4) (List.replicate n 1))/\Below w.heap.size w w':=by subst A;exact LG size stride pad n w hn
theorem pZ {n:aE} {first:Bool} {s:List Int} (hk:n.kind=8\/n.kind=9):aK n first s=match bZ n s with
  |none=>none
  |some p=>some (aF s 0::p,[]):=by rw[aK,if_neg (by omega),if_neg (by omega),if_pos hk];cases bZ n s<;>rfl
theorem nN {n:aE} {first:Bool} {s:List Int} (hk:n.kind=2):aK n first s=match bZ n s with
  |none=>none
  |some p=>if aF s 0=n.inn then some (n.o::p,[[n.o,n.inn]++List.replicate (s.length-1) n.size,[n.o]++List.replicate (s.length-1) 1]) else none:=by rw[aK,if_neg (by omega),if_pos hk];cases bZ n s<;>rfl
theorem sX {s:List Int} (h:s.all cC=true):∀x∈s.tail,0<=x/\x<=4096:=fun x hx=>by
 have:=List.all_eq_true.1 h x (List.mem_of_mem_tail hx);simp[cC]at this;omega
theorem yW (g n₀:Nat) (n1 n2 n3 n4 n5 n6 n7:Int) (ob:Option Addr) (nb cb:Nat) (vps:Value) (first:Bool) (nm:ByteArray) (qs:List PD) (o:Option Addr) (m cap:Nat) (s:List Int) (w:World) (k:Int) (J:k=8\/k=9) (T:jN ⟨k,n1,n2,n3,n4,n5,n6,n7⟩)
  (h:fI g n₀ vps false qs (.slice o m cap) s w) (hm:m=s.length) (ap:nm.size<=1000000):
  Calls Tryz.prog 165 #[.pointer (some ⟨g,0,none⟩),.agg #[.int .i64 k,.int .i64 n1,.int .i64 n2,.int .i64 n3,.int .i64 n4,.int .i64 n5,.int .i64 n6,.int .i64 n7,.slice ob nb cb],.slice o m cap,.string nm] w (bP g n₀ qs (aK ⟨k,n1,n2,n3,n4,n5,n6,n7⟩ first s) w):=by
 obtain⟨i0,hi,ae,af,ag⟩:=info_parts nH;obtain⟨W1,U⟩:=Zx (w.alloc (.cells #[.int .i64 k,.int .i64 n1,.int .i64 n2,.int .i64 n3,.int .i64 n4,.int .i64 n5,.int .i64 n6,.int .i64 n7,.slice ob nb cb] 175));have L:=Za (h.box ⟨k,n1,n2,n3,n4,n5,n6,n7⟩ (.slice ob nb cb) U);have HW:=Za U;obtain⟨al,ah,ai⟩:=jB h.fit;have aq:m<=3:=by omega
 have aj:=Za (Zd ah ai);have HQ:=Za h.hq;have HM:=Za hm;have A:=Za T;have hl2':¬9223372036854775807<nm.size+2:=by omega
 clear h U ah ai al hm T;obtain⟨a0,a1,a2,a3,a4,a5,a6,a7,a8⟩:=L.o.lay.r9;have x2:=L.o.wk.q 2 rfl;have f2:=L.o.wk.free 2;go_enter Tryz.func165,Tryz.ntmps165;go_upto_region 1 with(fail);rw[<-HW.o];have ar:(k==2)=false:=by rcases J with rfl|rfl<;>rfl
 have hk2':(k != 2)=true:=by rcases J with rfl|rfl<;>rfl
 have ak:=Za (show eZ ⟨k,n1,n2,n3,n4,n5,n6,n7⟩=n3 by rw[eZ,if_neg (by show ¬k=2;omega)]);have ao:m=0\/m=1\/m=2\/m=3:=by omega
 rcases ao with rfl|rfl|rfl|rfl
 ·have HN:=Za (show aK ⟨k,n1,n2,n3,n4,n5,n6,n7⟩ first s=none by rw[pZ J,bZ,if_neg (by have:=HM.o;omega)]);go_wp2_with fail;go_quiet(fail);go_wp2_with fail;go_ret;exact bP.no ((L.o.next (fC _)).bad 2) (by decide) HN.o (by omega) none 0 0
 ·have HN:=Za (show aK ⟨k,n1,n2,n3,n4,n5,n6,n7⟩ first s=none by rw[pZ J,bZ,if_neg (by have:=HM.o;omega)]);go_wp2_with fail;go_quiet(fail);go_wp2_with fail;go_ret;exact bP.no ((L.o.next (fC _)).bad 2) (by decide) HN.o (by omega) none 0 0
 ·obtain⟨x0,x1,rfl⟩:=qG HM.o.symm;obtain⟨res,D⟩:=Zx (cR n3 n3 n5 [x1]);have X:bZ ⟨k,n1,n2,n3,n4,n5,n6,n7⟩ [x0,x1]=res:=by rw[bZ,if_pos (by simp),ak.o,D];rfl
  have HD:=Za (show(res=none->aK ⟨k,n1,n2,n3,n4,n5,n6,n7⟩ first [x0,x1]=none)/\∀p,res=some p->aK ⟨k,n1,n2,n3,n4,n5,n6,n7⟩ first [x0,x1]=some (x0::p,[])from⟨fun h=>by rw[pZ J,X,h],fun p h=>by rw[pZ J,X,h];rfl⟩);clear X;have M:=Za (fun(W:World) (o1 o2 o3 o4:Option Addr) (c1 c2 c3 c4:Nat) h0 h1 h2 h3 h4=>show Calls Tryz.prog 183 #[.slice o 2 cap,.agg #[.slice o1 1 c1,.slice o2 1 c2,.slice o3 1 c3,.slice o4 1 c4]] W (pQ W res) by
   rw[D];exact tE n3 n3 n5 x0 [x1] o o1 o2 o3 o4 cap c1 c2 c3 c4 1 2 W ⟨A.o.s1,A.o.s2⟩ ⟨A.o.s1,A.o.s2⟩ ⟨A.o.p1,A.o.p2⟩ (sX aj.o.1) rfl rfl (by simp) h0 h1 h2 h3 h4)
  have Y:=Za (show ∀ys,res=some ys->ys.length=1 from fun ys h=>by rw[D]at h;exact mT h);clear D;obtain⟨b,off,rfl,Z⟩:=L.o.sh.1.cell 0 (by simp);go_wp2_with fail;go_quiet(fail);obtain⟨V,hV⟩:=Zx (W1.drewN nq);have N:=Za (show eK g n₀ w.heap.size ⟨k,n1,n2,n3,n4,n5,n6,n7⟩ (.slice ob nb cb) vps 0 qs (.slice (some ⟨b,off,none⟩) 2 cap) [x0,x1] w V by rw[hV];exact L.o.next (fC _));rw[<-hV];clear hV Z x2 f2 a0 a1 a2 a3 a4 a5 a6 a7 a8 L;have a0:=N.o.lay.q 0 rfl;have a3:=N.o.lay.q 3 rfl;have a5:=N.o.lay.q 5 rfl;cases res with
  |none=>
   go_wp2_with(first
    |(go_at_call 184;refine(nK _ _ _ _ 1 _ rfl (by omega)).mono ?_;rintro e w2 ⟨⟨o1,c1,o2,c2,o3,c3,o4,c4,rfl,r1,r2,r3,r4⟩,E⟩;have H:=Za (Zd r1 (Zd r2 (Zd r3 r4)));have F:=Za (N.o.next E);clear r1 r2 r3 r4 E)
    |(go_at_call 183;refine(M.o _ _ _ _ _ _ _ _ _ F.o.sh.1 H.o.1 H.o.2.1 H.o.2.2.1 H.o.2.2.2).mono ?_;rintro e w3 ⟨G,rfl⟩;have B:=Za (F.o.next G);clear G;refine aD ?_))
   clear a0 a3 a5;have x2:=B.o.wk.q 2 rfl;have f2:=B.o.wk.free 2;refine aC ?_;go_wp2_with fail;go_ret;exact bP.no (B.o.bad 2) (by decide) (HD.o.1 (by trivial)) (by omega) none 0 0
  |some ys=>
   go_wp2_with(first
    |(go_at_call 184;refine(nK _ _ _ _ 1 _ rfl (by omega)).mono ?_;rintro e w2 ⟨⟨o1,c1,o2,c2,o3,c3,o4,c4,rfl,r1,r2,r3,r4⟩,E⟩;have H:=Za (Zd r1 (Zd r2 (Zd r3 r4)));have F:=Za (N.o.next E);clear r1 r2 r3 r4 E)
    |(go_at_call 183;refine(M.o _ _ _ _ _ _ _ _ _ F.o.sh.1 H.o.1 H.o.2.1 H.o.2.2.1 H.o.2.2.2).mono ?_;rintro e w3 ⟨G,v3,rfl,I⟩;have B:=Za (F.o.next G);have aa:=Za I;obtain⟨o9,c9,rfl⟩:=aJ I;clear G I;refine aD ?_))
   clear a0 a3 a5;have a0:=B.o.lay.q 0 rfl;obtain⟨b',off',ab,Z⟩:=B.o.sh.1.cell 0 (by simp);cases ab;simp only[Nat.add_zero,aF,List.getD_cons_zero]at Z;have O:=Za (fV w3 x0);have P:=Za (show [x0].length+ys.length<=maxLen/\([x0].length+ys.length)*8<=140737488355328 by have:=Y.o ys rfl;rw[this];unfold maxLen;simp);refine aC ?_;go_wp2_with(at_builtin;refine kI rfl _ _ 30 rfl w3.heap.size 3 .i64 i0 8 Tryz.underlying30 hi ae af ag _ [x0] rfl O.o _ ys rfl ((Rd.of_own aa.o).alloc _) P.o.1 P.o.2 (by simp) ?_;intro v5 w5 C R _;have ac:=Za C;have ad:=Za (((Zc _ _).alloc (Zb _) _).grown R (by simp) (fun k J=>(O.o.lt k J).1));obtain⟨o5,c5,rfl⟩:=aJ C;clear C R);go_ret;exact bP.yes (B.o.next ad.o) (HD.o.2 _ rfl) (by simp) (by simp) (by simp) (aM.of_own ac.o)
 ·obtain⟨x0,x1,x9,rfl⟩:=CI HM.o.symm;obtain⟨res,D⟩:=Zx (cR n3 n3 n5 [x1,x9]);have X:bZ ⟨k,n1,n2,n3,n4,n5,n6,n7⟩ [x0,x1,x9]=res:=by rw[bZ,if_pos (by simp),ak.o,D];rfl
  have HD:=Za (show(res=none->aK ⟨k,n1,n2,n3,n4,n5,n6,n7⟩ first [x0,x1,x9]=none)/\∀p,res=some p->aK ⟨k,n1,n2,n3,n4,n5,n6,n7⟩ first [x0,x1,x9]=some (x0::p,[])from⟨fun h=>by rw[pZ J,X,h],fun p h=>by rw[pZ J,X,h];rfl⟩);clear X;have M:=Za (fun(W:World) (o1 o2 o3 o4:Option Addr) (c1 c2 c3 c4:Nat) h0 h1 h2 h3 h4=>show Calls Tryz.prog 183 #[.slice o 3 cap,.agg #[.slice o1 2 c1,.slice o2 2 c2,.slice o3 2 c3,.slice o4 2 c4]] W (pQ W res) by
   rw[D];exact tE n3 n3 n5 x0 [x1,x9] o o1 o2 o3 o4 cap c1 c2 c3 c4 2 3 W ⟨A.o.s1,A.o.s2⟩ ⟨A.o.s1,A.o.s2⟩ ⟨A.o.p1,A.o.p2⟩ (sX aj.o.1) rfl rfl (by simp) h0 h1 h2 h3 h4)
  have Y:=Za (show ∀ys,res=some ys->ys.length=2 from fun ys h=>by rw[D]at h;exact mT h);clear D;obtain⟨b,off,rfl,Z⟩:=L.o.sh.1.cell 0 (by simp);go_wp2_with fail;go_quiet(fail);obtain⟨V,hV⟩:=Zx (W1.drewN nq);have N:=Za (show eK g n₀ w.heap.size ⟨k,n1,n2,n3,n4,n5,n6,n7⟩ (.slice ob nb cb) vps 0 qs (.slice (some ⟨b,off,none⟩) 3 cap) [x0,x1,x9] w V by rw[hV];exact L.o.next (fC _));rw[<-hV];clear hV Z x2 f2 a0 a1 a2 a3 a4 a5 a6 a7 a8 L;have a0:=N.o.lay.q 0 rfl;have a3:=N.o.lay.q 3 rfl;have a5:=N.o.lay.q 5 rfl;cases res with
  |none=>
   go_wp2_with(first
    |(go_at_call 184;refine(nK _ _ _ _ 2 _ rfl (by omega)).mono ?_;rintro e w2 ⟨⟨o1,c1,o2,c2,o3,c3,o4,c4,rfl,r1,r2,r3,r4⟩,E⟩;have H:=Za (Zd r1 (Zd r2 (Zd r3 r4)));have F:=Za (N.o.next E);clear r1 r2 r3 r4 E)
    |(go_at_call 183;refine(M.o _ _ _ _ _ _ _ _ _ F.o.sh.1 H.o.1 H.o.2.1 H.o.2.2.1 H.o.2.2.2).mono ?_;rintro e w3 ⟨G,rfl⟩;have B:=Za (F.o.next G);clear G;refine aD ?_))
   clear a0 a3 a5;have x2:=B.o.wk.q 2 rfl;have f2:=B.o.wk.free 2;refine aC ?_;go_wp2_with fail;go_ret;exact bP.no (B.o.bad 2) (by decide) (HD.o.1 (by trivial)) (by omega) none 0 0
  |some ys=>
   go_wp2_with(first
    |(go_at_call 184;refine(nK _ _ _ _ 2 _ rfl (by omega)).mono ?_;rintro e w2 ⟨⟨o1,c1,o2,c2,o3,c3,o4,c4,rfl,r1,r2,r3,r4⟩,E⟩;have H:=Za (Zd r1 (Zd r2 (Zd r3 r4)));have F:=Za (N.o.next E);clear r1 r2 r3 r4 E)
    |(go_at_call 183;refine(M.o _ _ _ _ _ _ _ _ _ F.o.sh.1 H.o.1 H.o.2.1 H.o.2.2.1 H.o.2.2.2).mono ?_;rintro e w3 ⟨G,v3,rfl,I⟩;have B:=Za (F.o.next G);have aa:=Za I;obtain⟨o9,c9,rfl⟩:=aJ I;clear G I;refine aD ?_))
   clear a0 a3 a5;have a0:=B.o.lay.q 0 rfl;obtain⟨b',off',ab,Z⟩:=B.o.sh.1.cell 0 (by simp);cases ab;simp only[Nat.add_zero,aF,List.getD_cons_zero]at Z;have O:=Za (fV w3 x0);have P:=Za (show [x0].length+ys.length<=maxLen/\([x0].length+ys.length)*8<=140737488355328 by have:=Y.o ys rfl;rw[this];unfold maxLen;simp);refine aC ?_;go_wp2_with(at_builtin;refine kI rfl _ _ 30 rfl w3.heap.size 3 .i64 i0 8 Tryz.underlying30 hi ae af ag _ [x0] rfl O.o _ ys rfl ((Rd.of_own aa.o).alloc _) P.o.1 P.o.2 (by simp) ?_;intro v5 w5 C R _;have ac:=Za C;have ad:=Za (((Zc _ _).alloc (Zb _) _).grown R (by simp) (fun k J=>(O.o.lt k J).1));obtain⟨o5,c5,rfl⟩:=aJ C;clear C R);go_ret;exact bP.yes (B.o.next ad.o) (HD.o.2 _ rfl) (by simp) (by simp) (by simp) (aM.of_own ac.o)
theorem zO (n by_ nn:Int) (often:Nat) (w:World) (A:nn=often) (ho:often<=4):
  Calls Tryz.prog 185 #[.int .i64 n,.int .i64 by_,.int .i64 nn] w fun e w'=>(∃x,e=.returned (.int .i64 x))/\w=w':=by
 subst A;go_enter Tryz.func185,Tryz.ntmps185;go_wp2;go_loopw[0,7] (fun x i wr=>∃(k:Nat) (m:Int),k<=often/\i=.int .i64 k/\x=.int .i64 m/\Hid (wr=w)) (fun _ i _=>often-(intOf i).toNat)
 case atStart=>exact⟨0,n,Ze _,rfl,rfl,Za rfl⟩
 case round=>
  obtain⟨k,m,hk,rfl,rfl,B⟩:=hrel;rw[B.o];by_cases C:k<often
  ·by_cases D:m<=65536
   ·obtain⟨q,hq⟩:=Zx (IntKind.i64.wrap (m*by_));have hq':IntKind.i64.wrap (m*by_)=q:=hq.symm;clear hq;go_wp2;go_roundw
    case rel=>exact⟨k+1,q,by omega,by go_num,rfl,by first|exact Za trivial|exact Za rfl⟩
    case measure=>simp[intOf];omega
   ·go_wp2;go_ret;exact⟨⟨_,rfl⟩,rfl⟩
  ·obtain rfl:k=often:=by omega
   go_wp2;go_ret;exact⟨⟨_,rfl⟩,rfl⟩
theorem tV {w w1 w2:World} {B:Nat} {u v u':Value} {xs ys:List Int} {x:Int} (hu:aH w B 3 .i64 u xs) (hv:aH w B 3 .i64 v ys) (hn:fO u v) (hb:Below w.heap.size w w1) (hB:B<=w.heap.size) (hg:w1.grownBy w2 u.ownBlock)
  (ho:w2.ownsRow B 3 1 u' (xs.length+1) (xs.map (Value.int .i64)++[.int .i64 x])) (A:u'.ownBlock=u.ownBlock\/∃g,u'.ownBlock=some g/\w.heap.size<=g):aH w2 B 3 .i64 u' (xs++[x])/\aH w2 B 3 .i64 v ys/\fO u' v/\Below B w w2:=
 ⟨mV ho,tT hv hb hg hn,fun g h1 h2=>by
  rcases A with e|⟨g',e,C⟩
  ·rw[e]at h1;exact hn g h1 h2
  ·rw[e]at h1;cases h1;have:=zM hv h2;omega,(hb.mono hB).grown hg (by have:=hb.size;omega) (fun k hk=>(hu.lt k hk).1)⟩
theorem eK.cell {g n₀ lb:Nat} {n:aE} {vb vps:Value} {bad:Int} {qs:List PD} {vs:Value} {s:List Int} {w W:World} (h:eK g n₀ lb n vb vps bad qs vs s w W):W.cell? ⟨lb,1,none⟩=some (.int .i64 n.inn)/\W.cell? ⟨lb,2,none⟩=some (.int .i64 n.o)/\W.cell? ⟨lb,3,none⟩=some (.int .i64 n.size):=⟨h.lay.cell 1 rfl,h.lay.cell 2 rfl,h.lay.cell 3 rfl⟩
theorem BS (w:World) (x y z:Int) {W:World} (hW:W=(w.alloc (.cells #[.int .i64 x,.int .i64 y] 3)).alloc (.cells #[.int .i64 z] 3)):
  aH W w.heap.size 3 .i64 (.slice (some ⟨w.heap.size,0,none⟩) 2 2) ([x,y]++List.replicate 0 0)/\aH W w.heap.size 3 .i64 (.slice (some ⟨w.heap.size+1,0,none⟩) 1 1) ([z]++List.replicate 0 1)/\fO (.slice (some ⟨w.heap.size,0,none⟩) 2 2) (.slice (some ⟨w.heap.size+1,0,none⟩) 1 1)/\Below w.heap.size w W:=by have h1:=iE w x y;have h2:=fV (w.alloc (.cells #[.int .i64 x,.int .i64 y] 3)) z;rw[World.size_alloc]at h2;rw[hW];refine⟨cI h1 ((Zc _ _).alloc (Zb _) _) (Zb _),bY h2 (Nat.le_succ _),fun g h1 h2=>?_,((Zc _ _).alloc (Zb _) _).alloc (by simp) _⟩;simp[Value.ownBlock]at h1 h2;omega
theorem OJ (g n₀:Nat) (n1 n2 n3 n4 n5 n6 n7:Int) (ob:Option Addr) (nb cb:Nat) (vps:Value) (first:Bool) (nm:ByteArray) (qs:List PD) (o:Option Addr) (m cap:Nat) (s:List Int) (w:World) (bb:jN ⟨2,n1,n2,n3,n4,n5,n6,n7⟩)
  (h:fI g n₀ vps false qs (.slice o m cap) s w) (hm:m=s.length) (cd:nm.size<=1000000):
  Calls Tryz.prog 165 #[.pointer (some ⟨g,0,none⟩),.agg #[.int .i64 2,.int .i64 n1,.int .i64 n2,.int .i64 n3,.int .i64 n4,.int .i64 n5,.int .i64 n6,.int .i64 n7,.slice ob nb cb],.slice o m cap,.string nm] w (bP g n₀ qs (aK ⟨2,n1,n2,n3,n4,n5,n6,n7⟩ first s) w):=by
 obtain⟨i0,hi,ad,ae,af⟩:=info_parts nH;obtain⟨W1,bc⟩:=Zx (w.alloc (.cells #[.int .i64 2,.int .i64 n1,.int .i64 n2,.int .i64 n3,.int .i64 n4,.int .i64 n5,.int .i64 n6,.int .i64 n7,.slice ob nb cb] 175));have HA:=Za (h.box ⟨2,n1,n2,n3,n4,n5,n6,n7⟩ (.slice ob nb cb) bc);have HW:=Za bc;obtain⟨bz,bs,bt⟩:=jB h.fit;have ce:m<=3:=by omega
 have bu:=Za (Zd bs bt);have HQ:=Za h.hq;have HM:=Za hm;have B:=Za bb;have hl2':¬9223372036854775807<nm.size+2:=by omega
 clear h bc bs bt bz hm bb;obtain⟨a0,a1,a2,a3,a4,a5,a6,a7,a8⟩:=HA.o.lay.r9;have x2:=HA.o.wk.q 2 rfl;have f2:=HA.o.wk.free 2;go_enter Tryz.func165,Tryz.ntmps165;go_upto_region 1 with(fail);rw[<-HW.o];have bw:=Za (show eZ ⟨2,n1,n2,n3,n4,n5,n6,n7⟩=n4 by rw[eZ,if_pos rfl]);have ca:m=0\/m=1\/m=2\/m=3:=by omega
 rcases ca with rfl|rfl|rfl|rfl
 ·have HN:=Za (show aK ⟨2,n1,n2,n3,n4,n5,n6,n7⟩ first s=none by rw[nN rfl,bZ,if_neg (by have:=HM.o;omega)]);go_wp2_with fail;go_quiet(fail);go_wp2_with fail;go_ret;exact bP.no ((HA.o.next (fC _)).bad 2) (by decide) HN.o (by omega) none 0 0
 ·have HN:=Za (show aK ⟨2,n1,n2,n3,n4,n5,n6,n7⟩ first s=none by rw[nN rfl,bZ,if_neg (by have:=HM.o;omega)]);go_wp2_with fail;go_quiet(fail);go_wp2_with fail;go_ret;exact bP.no ((HA.o.next (fC _)).bad 2) (by decide) HN.o (by omega) none 0 0
 ·obtain⟨x0,x1,rfl⟩:=qG HM.o.symm;obtain⟨b,off,rfl,hc⟩:=HA.o.sh.1.cell 0 (by simp);simp only[Nat.add_zero,aF,List.getD_cons_zero]at hc;by_cases X:x0=n1
  ·subst X;obtain⟨res,G⟩:=Zx (cR n3 n4 n5 [x1]);have he:bZ ⟨2,x0,n2,n3,n4,n5,n6,n7⟩ [x0,x1]=res:=by rw[bZ,if_pos (by simp),bw.o,G];rfl
   have HD:=Za (show(res=none->aK ⟨2,x0,n2,n3,n4,n5,n6,n7⟩ first [x0,x1]=none)/\∀p,res=some p->aK ⟨2,x0,n2,n3,n4,n5,n6,n7⟩ first [x0,x1]=some (n2::p,[[n2,x0]++List.replicate 1 n3,[n2]++List.replicate 1 1])from⟨fun h=>by rw[nN rfl,he,h],fun p h=>by rw[nN rfl,he,h];exact if_pos rfl⟩);clear he;have ag:=Za (fun(W:World) (o1 o2 o3 o4:Option Addr) (c1 c2 c3 c4:Nat) h0 h1 h2 h3 h4=>show Calls Tryz.prog 183 #[.slice (some ⟨b,off,none⟩) 2 cap,.agg #[.slice o1 1 c1,.slice o2 1 c2,.slice o3 1 c3,.slice o4 1 c4]] W (pQ W res) by
    rw[G];exact tE n3 n4 n5 x0 [x1] (some ⟨b,off,none⟩) o1 o2 o3 o4 cap c1 c2 c3 c4 1 2 W ⟨B.o.s1,B.o.s2⟩ ⟨B.o.t1,B.o.t2⟩ ⟨B.o.p1,B.o.p2⟩ (sX bu.o.1) rfl rfl (by simp) h0 h1 h2 h3 h4)
   have bd:=Za (show ∀ys,res=some ys->ys.length=1 from fun ys h=>by rw[G]at h;exact mT h);clear G;go_wp2_with fail;go_quiet(fail);obtain⟨V,hV⟩:=Zx (W1.drewN nq);have HV:=Za (show eK g n₀ w.heap.size ⟨2,x0,n2,n3,n4,n5,n6,n7⟩ (.slice ob nb cb) vps 0 qs (.slice (some ⟨b,off,none⟩) 2 cap) [x0,x1] w V by rw[hV];exact HA.o.next (fC _));rw[<-hV];clear hV hc x2 f2 a0 a1 a2 a3 a4 a5 a6 a7 a8 HA;have a0:=HV.o.lay.q 0 rfl;have a3:=HV.o.lay.q 3 rfl;have a4:=HV.o.lay.q 4 rfl;have a5:=HV.o.lay.q 5 rfl;cases res with
   |none=>
    go_wp2_with(first
     |(go_at_call 184;refine(nK _ _ _ _ 1 _ rfl (by omega)).mono ?_;rintro e w2 ⟨⟨o1,c1,o2,c2,o3,c3,o4,c4,rfl,r1,r2,r3,r4⟩,L⟩;have P:=Za (Zd r1 (Zd r2 (Zd r3 r4)));have M:=Za (HV.o.next L);clear r1 r2 r3 r4 L)
     |(go_at_call 183;refine(ag.o _ _ _ _ _ _ _ _ _ M.o.sh.1 P.o.1 P.o.2.1 P.o.2.2.1 P.o.2.2.2).mono ?_;rintro e w3 ⟨N,rfl⟩;have C:=Za (M.o.next N);clear N;refine aD ?_))
    clear a0 a3 a4 a5;have x2:=C.o.wk.q 2 rfl;have f2:=C.o.wk.free 2;refine aC ?_;go_wp2_with fail;go_ret;exact bP.no (C.o.bad 2) (by decide) (HD.o.1 (by trivial)) (by omega) none 0 0
   |some ys=>
    go_wp2_with(first
     |(go_at_call 184;refine(nK _ _ _ _ 1 _ rfl (by omega)).mono ?_;rintro e w2 ⟨⟨o1,c1,o2,c2,o3,c3,o4,c4,rfl,r1,r2,r3,r4⟩,L⟩;have P:=Za (Zd r1 (Zd r2 (Zd r3 r4)));have M:=Za (HV.o.next L);clear r1 r2 r3 r4 L)
     |(go_at_call 183;refine(ag.o _ _ _ _ _ _ _ _ _ M.o.sh.1 P.o.1 P.o.2.1 P.o.2.2.1 P.o.2.2.2).mono ?_;rintro e w3 ⟨N,v3,rfl,Y⟩;have C:=Za (M.o.next N);have be:=Za Y;obtain⟨o9,c9,rfl⟩:=aJ Y;clear N Y;refine aD ?_))
    clear a0 a3 a4 a5;obtain⟨a0,a1,a2⟩:=C.o.lay.r3;have A2:∀o,(w3.alloc o).cell? ⟨w.heap.size,2,none⟩=some (.int .i64 n2):=C.o.lay.cellA 2 rfl;obtain⟨V2,Z⟩:=Zx ((w3.alloc (.cells #[.int .i64 n2,.int .i64 x0] 3)).alloc (.cells #[.int .i64 n2] 3));have bf:=Za (BS w3 n2 x0 n2 Z);have bg:=Za Z;clear Z;refine aC ?_;go_wp2_with fail;rw[<-bg.o];clear a0 a1 a2 A2;go_loopw[13,14,15] (fun u v i wr=>∃k:Nat,k<=1/\i=.int .i64 k/\Hid (∃a c,u=.slice a (2+k) c)/\Hid (∃a c,v=.slice a (1+k) c)/\Hid (aH wr w3.heap.size 3 .i64 u ([n2,x0]++List.replicate k n3)/\aH wr w3.heap.size 3 .i64 v ([n2]++List.replicate k 1)/\fO u v/\Below w3.heap.size w3 wr)) (fun _ _ i _=>1-(intOf i).toNat)
    case atStart=>exact⟨0,by omega,rfl,Za ⟨_,_,rfl⟩,Za ⟨_,_,rfl⟩,bf⟩
    case round=>
     obtain⟨k,hk,rfl,HU,bh,O⟩:=hrel;obtain⟨w4,rfl⟩:=Zx wr;obtain⟨au,cu,hu⟩:=HU.o;obtain⟨av,cv,hv⟩:=bh.o;subst hu hv;have A:=Za (C.o.next O.o.2.2.2);by_cases cc:k<1
     ·have a3:=A.o.lay.q 3 rfl;have aa:([n2,x0]++List.replicate k n3).length=2+k:=by simp;omega
      have ah:([n2]++List.replicate k (1:Int)).length=1+k:=by simp;omega
      have bi:=Za (show w4.ownsRow w3.heap.size 3 1 (.slice au (2+k) cu) (2+k) (([n2,x0]++List.replicate k n3).map (.int .i64)) by have:=O.o.1;unfold aH at this;rwa [aa]at this);have ai:=Za O.o.2.2.2.size;have ab:=Za (Zd aa ah);clear aa ah;go_wp2_with(at_builtin;refine wpList_append_own_at _ rfl _ _ 30 rfl w3.heap.size 3 i0 (.int .i64 0) 1 8 Tryz.underlying30 hi ad ae af rfl (by decide) _ _ _ rfl (bi.o.alloc _) ⟨w4.heap.size,0,none⟩ 1 1 [.int .i64 n3] rfl rfl (cell_one_new _ _ _) (by simp[Value.oneCell']) (by unfold maxLen;omega) (by omega) (by have:=ai.o;simp;omega) ?_;intro u5 w5 D H _ hob5;have HF:=Za (tV (x:=n3) O.o.1 O.o.2.1 O.o.2.2.1 ((Zc _ _).alloc (Zb _) _) ai.o H (by rw[ab.o.1];exact D) (hob5.imp id (fun e=>⟨_,e,by simp⟩)));obtain⟨a5,c5,rfl⟩:=aJ D;clear D H hob5;refine aD ?_);have aj:=Za (O.o.2.2.2.trans HF.o.2.2.2);have bj:=Za (show w5.ownsRow w3.heap.size 3 1 (.slice av (1+k) cv) (1+k) (([n2]++List.replicate k 1).map (.int .i64)) by have:=HF.o.2.1;unfold aH at this;rwa [ab.o.2]at this);have U:=Za aj.o.size;clear a3;refine aC ?_;go_wp2_with(at_builtin;refine wpList_append_own_at _ rfl _ _ 30 rfl w3.heap.size 3 i0 (.int .i64 0) 1 8 Tryz.underlying30 hi ad ae af rfl (by decide) _ _ _ rfl (bj.o.alloc _) ⟨w5.heap.size,0,none⟩ 1 1 [.int .i64 1] rfl rfl (cell_one_new _ _ _) (by simp[Value.oneCell']) (by unfold maxLen;omega) (by omega) (by have:=U.o;simp;omega) ?_;intro u6 w6 E I _ hob6;have R:=Za (tV (x:=1) HF.o.2.1 HF.o.1 HF.o.2.2.1.symm ((Zc _ _).alloc (Zb _) _) U.o I (by rw[ab.o.2];exact E) (hob6.imp id (fun e=>⟨_,e,by simp⟩)));obtain⟨a6,c6,rfl⟩:=aJ E;clear E I hob6;refine aD ?_);have bk:=Za (show aH w6 w3.heap.size 3 .i64 (.slice a5 (2+k+1) c5) ([n2,x0]++List.replicate (k+1) n3)/\aH w6 w3.heap.size 3 .i64 (.slice a6 (1+k+1) c6) ([n2]++List.replicate (k+1) 1)/\fO (.slice a5 (2+k+1) c5) (.slice a6 (1+k+1) c6)/\Below w3.heap.size w3 w6 by
       have h1:=R.o.2.1;have h2:=R.o.1;rw[List.append_assoc,p8]at h1 h2;exact⟨h1,h2,R.o.2.2.1.symm,aj.o.trans R.o.2.2.2⟩)
      refine aC ?_;go_wp2_with fail;go_roundw
      case rel=>exact⟨k+1,by omega,by go_num,Za ⟨_,_,rfl⟩,Za ⟨_,_,rfl⟩,bk⟩
      case measure=>simp[intOf];omega
     ·obtain rfl:k=1:=by omega
      have a1:=A.o.lay.q 1 rfl;have a2:=A.o.lay.q 2 rfl;have a3:=A.o.lay.q 3 rfl;have HX:=Za (show Below w4.heap.size w4 w4.drew from Below.drew (Zc _ _));go_wp2_with fail;go_region_held3 (fun w'=>w'.cell? ⟨w.heap.size,1,none⟩=some (.int .i64 x0)/\w'.cell? ⟨w.heap.size,2,none⟩=some (.int .i64 n2)/\w'.cell? ⟨w.heap.size,3,none⟩=some (.int .i64 n3))
       (first|with_reducible exact bl.o|exact(A.o.next HX.o).cell)
       (first
       |(go_at_call 185;refine(zO _ _ _ 1 _ rfl (by omega)).mono ?_;rintro e wy ⟨⟨tt,rfl⟩,bm⟩;subst bm)
       |(go_at_call 164;refine(lQ g n₀ vps false 0 _ qs _ _ _ _ _ ([n2,x0]++List.replicate 1 n3) _ (A.o.next HX.o).wk (A.o.next HX.o).row (by have:=HQ.o;omega) A.o.hn rfl ((aM.of_own O.o.1).below HX.o) (by simp)).mono ?_;rintro e w5 ⟨rfl,⟨vps5,q5,ak,al,ao⟩,T⟩;have J:=Za ((A.o.next HX.o).par T ak al);have bn:=Za ao;have ap:=Za (Zd (((aM.of_own (n₀:=n₀) O.o.2.1).below HX.o).keepR T A.o.hn) (((((aM.of_own (n₀:=n₀) be.o).below O.o.2.2.2).below HX.o)).keepR T A.o.hn));have bl:=Za (show w5.cell? ⟨w.heap.size,1,none⟩=some (.int .i64 x0)/\w5.cell? ⟨w.heap.size,2,none⟩=some (.int .i64 n2)/\w5.cell? ⟨w.heap.size,3,none⟩=some (.int .i64 n3)from J.o.cell);clear T ak al ao))
      clear a1 a2 a3;go_wp2_with(go_at_call 164;refine(lQ g n₀ vps5 false _ (nm++{data:=#[46,98]}) (qs++[q5]) 0 0 av 2 cv ([n2]++List.replicate 1 1) w5 J.o.wk J.o.row (by have:=HQ.o;simp;omega) J.o.hn rfl ap.o.1 (by simp)).mono ?_;rintro e w6 ⟨rfl,⟨vps6,q6,aq,ar,aw⟩,ac⟩;have ax:=Za (J.o.par ac aq ar);have bo:=Za aw;have bp:=Za (ap.o.2.keepR ac J.o.hn);clear ac aq ar aw;refine aD ?_);have a2:=ax.o.lay.q 2 rfl;have ay:=Za (fV w6 n2);have az:=Za (show [n2].length+ys.length<=maxLen/\([n2].length+ys.length)*8<=140737488355328 by have:=bd.o ys rfl;rw[this];unfold maxLen;simp);refine aC ?_;go_wp2_with(at_builtin;refine kI rfl _ _ 30 rfl w6.heap.size 3 .i64 i0 8 Tryz.underlying30 hi ad ae af _ [n2] rfl ay.o _ ys rfl (bp.o.1.alloc _) az.o.1 az.o.2 (by simp) ?_;intro v7 w7 F ba _;have bq:=Za F;have br:=Za (((Zc _ _).alloc (Zb _) _).grown ba (by simp) (fun k hk=>(ay.o.lt k hk).1));obtain⟨o7,c7,rfl⟩:=aJ F;clear F ba);go_ret;refine bP.yes (ax.o.next br.o) (HD.o.2 _ rfl) ?_ ?_ (by simp) (aM.of_own bq.o)
      ·rw[qY,qL];simp
      ·simp[bn.o,bo.o]
  ·have bx:(x0 != n1)=true:=by simpa using X
   have HN:=Za (show aK ⟨2,n1,n2,n3,n4,n5,n6,n7⟩ first [x0,x1]=none by
    rw[nN rfl];cases bZ ⟨2,n1,n2,n3,n4,n5,n6,n7⟩ [x0,x1]with
    |none=>rfl
    |some p=>exact if_neg X)
   go_wp2_with fail;go_quiet(fail);go_wp2_with fail;go_ret;exact bP.no ((HA.o.next (fC _)).bad 2) (by decide) HN.o (by omega) none 0 0
 ·obtain⟨x0,x1,x9,rfl⟩:=CI HM.o.symm;obtain⟨b,off,rfl,hc⟩:=HA.o.sh.1.cell 0 (by simp);simp only[Nat.add_zero,aF,List.getD_cons_zero]at hc;by_cases X:x0=n1
  ·subst X;obtain⟨res,G⟩:=Zx (cR n3 n4 n5 [x1,x9]);have he:bZ ⟨2,x0,n2,n3,n4,n5,n6,n7⟩ [x0,x1,x9]=res:=by rw[bZ,if_pos (by simp),bw.o,G];rfl
   have HD:=Za (show(res=none->aK ⟨2,x0,n2,n3,n4,n5,n6,n7⟩ first [x0,x1,x9]=none)/\∀p,res=some p->aK ⟨2,x0,n2,n3,n4,n5,n6,n7⟩ first [x0,x1,x9]=some (n2::p,[[n2,x0]++List.replicate 2 n3,[n2]++List.replicate 2 1])from⟨fun h=>by rw[nN rfl,he,h],fun p h=>by rw[nN rfl,he,h];exact if_pos rfl⟩);clear he;have ag:=Za (fun(W:World) (o1 o2 o3 o4:Option Addr) (c1 c2 c3 c4:Nat) h0 h1 h2 h3 h4=>show Calls Tryz.prog 183 #[.slice (some ⟨b,off,none⟩) 3 cap,.agg #[.slice o1 2 c1,.slice o2 2 c2,.slice o3 2 c3,.slice o4 2 c4]] W (pQ W res) by
    rw[G];exact tE n3 n4 n5 x0 [x1,x9] (some ⟨b,off,none⟩) o1 o2 o3 o4 cap c1 c2 c3 c4 2 3 W ⟨B.o.s1,B.o.s2⟩ ⟨B.o.t1,B.o.t2⟩ ⟨B.o.p1,B.o.p2⟩ (sX bu.o.1) rfl rfl (by simp) h0 h1 h2 h3 h4)
   have bd:=Za (show ∀ys,res=some ys->ys.length=2 from fun ys h=>by rw[G]at h;exact mT h);clear G;go_wp2_with fail;go_quiet(fail);obtain⟨V,hV⟩:=Zx (W1.drewN nq);have HV:=Za (show eK g n₀ w.heap.size ⟨2,x0,n2,n3,n4,n5,n6,n7⟩ (.slice ob nb cb) vps 0 qs (.slice (some ⟨b,off,none⟩) 3 cap) [x0,x1,x9] w V by rw[hV];exact HA.o.next (fC _));rw[<-hV];clear hV hc x2 f2 a0 a1 a2 a3 a4 a5 a6 a7 a8 HA;have a0:=HV.o.lay.q 0 rfl;have a3:=HV.o.lay.q 3 rfl;have a4:=HV.o.lay.q 4 rfl;have a5:=HV.o.lay.q 5 rfl;cases res with
   |none=>
    go_wp2_with(first
     |(go_at_call 184;refine(nK _ _ _ _ 2 _ rfl (by omega)).mono ?_;rintro e w2 ⟨⟨o1,c1,o2,c2,o3,c3,o4,c4,rfl,r1,r2,r3,r4⟩,L⟩;have P:=Za (Zd r1 (Zd r2 (Zd r3 r4)));have M:=Za (HV.o.next L);clear r1 r2 r3 r4 L)
     |(go_at_call 183;refine(ag.o _ _ _ _ _ _ _ _ _ M.o.sh.1 P.o.1 P.o.2.1 P.o.2.2.1 P.o.2.2.2).mono ?_;rintro e w3 ⟨N,rfl⟩;have C:=Za (M.o.next N);clear N;refine aD ?_))
    clear a0 a3 a4 a5;have x2:=C.o.wk.q 2 rfl;have f2:=C.o.wk.free 2;refine aC ?_;go_wp2_with fail;go_ret;exact bP.no (C.o.bad 2) (by decide) (HD.o.1 (by trivial)) (by omega) none 0 0
   |some ys=>
    go_wp2_with(first
     |(go_at_call 184;refine(nK _ _ _ _ 2 _ rfl (by omega)).mono ?_;rintro e w2 ⟨⟨o1,c1,o2,c2,o3,c3,o4,c4,rfl,r1,r2,r3,r4⟩,L⟩;have P:=Za (Zd r1 (Zd r2 (Zd r3 r4)));have M:=Za (HV.o.next L);clear r1 r2 r3 r4 L)
     |(go_at_call 183;refine(ag.o _ _ _ _ _ _ _ _ _ M.o.sh.1 P.o.1 P.o.2.1 P.o.2.2.1 P.o.2.2.2).mono ?_;rintro e w3 ⟨N,v3,rfl,Y⟩;have C:=Za (M.o.next N);have be:=Za Y;obtain⟨o9,c9,rfl⟩:=aJ Y;clear N Y;refine aD ?_))
    clear a0 a3 a4 a5;obtain⟨a0,a1,a2⟩:=C.o.lay.r3;have A2:∀o,(w3.alloc o).cell? ⟨w.heap.size,2,none⟩=some (.int .i64 n2):=C.o.lay.cellA 2 rfl;obtain⟨V2,Z⟩:=Zx ((w3.alloc (.cells #[.int .i64 n2,.int .i64 x0] 3)).alloc (.cells #[.int .i64 n2] 3));have bf:=Za (BS w3 n2 x0 n2 Z);have bg:=Za Z;clear Z;refine aC ?_;go_wp2_with fail;rw[<-bg.o];clear a0 a1 a2 A2;go_loopw[13,14,15] (fun u v i wr=>∃k:Nat,k<=2/\i=.int .i64 k/\Hid (∃a c,u=.slice a (2+k) c)/\Hid (∃a c,v=.slice a (1+k) c)/\Hid (aH wr w3.heap.size 3 .i64 u ([n2,x0]++List.replicate k n3)/\aH wr w3.heap.size 3 .i64 v ([n2]++List.replicate k 1)/\fO u v/\Below w3.heap.size w3 wr)) (fun _ _ i _=>2-(intOf i).toNat)
    case atStart=>exact⟨0,by omega,rfl,Za ⟨_,_,rfl⟩,Za ⟨_,_,rfl⟩,bf⟩
    case round=>
     obtain⟨k,hk,rfl,HU,bh,O⟩:=hrel;obtain⟨w4,rfl⟩:=Zx wr;obtain⟨au,cu,hu⟩:=HU.o;obtain⟨av,cv,hv⟩:=bh.o;subst hu hv;have A:=Za (C.o.next O.o.2.2.2);by_cases cc:k<2
     ·have a3:=A.o.lay.q 3 rfl;have aa:([n2,x0]++List.replicate k n3).length=2+k:=by simp;omega
      have ah:([n2]++List.replicate k (1:Int)).length=1+k:=by simp;omega
      have bi:=Za (show w4.ownsRow w3.heap.size 3 1 (.slice au (2+k) cu) (2+k) (([n2,x0]++List.replicate k n3).map (.int .i64)) by have:=O.o.1;unfold aH at this;rwa [aa]at this);have ai:=Za O.o.2.2.2.size;have ab:=Za (Zd aa ah);clear aa ah;go_wp2_with(at_builtin;refine wpList_append_own_at _ rfl _ _ 30 rfl w3.heap.size 3 i0 (.int .i64 0) 1 8 Tryz.underlying30 hi ad ae af rfl (by decide) _ _ _ rfl (bi.o.alloc _) ⟨w4.heap.size,0,none⟩ 1 1 [.int .i64 n3] rfl rfl (cell_one_new _ _ _) (by simp[Value.oneCell']) (by unfold maxLen;omega) (by omega) (by have:=ai.o;simp;omega) ?_;intro u5 w5 D H _ hob5;have HF:=Za (tV (x:=n3) O.o.1 O.o.2.1 O.o.2.2.1 ((Zc _ _).alloc (Zb _) _) ai.o H (by rw[ab.o.1];exact D) (hob5.imp id (fun e=>⟨_,e,by simp⟩)));obtain⟨a5,c5,rfl⟩:=aJ D;clear D H hob5;refine aD ?_);have aj:=Za (O.o.2.2.2.trans HF.o.2.2.2);have bj:=Za (show w5.ownsRow w3.heap.size 3 1 (.slice av (1+k) cv) (1+k) (([n2]++List.replicate k 1).map (.int .i64)) by have:=HF.o.2.1;unfold aH at this;rwa [ab.o.2]at this);have U:=Za aj.o.size;clear a3;refine aC ?_;go_wp2_with(at_builtin;refine wpList_append_own_at _ rfl _ _ 30 rfl w3.heap.size 3 i0 (.int .i64 0) 1 8 Tryz.underlying30 hi ad ae af rfl (by decide) _ _ _ rfl (bj.o.alloc _) ⟨w5.heap.size,0,none⟩ 1 1 [.int .i64 1] rfl rfl (cell_one_new _ _ _) (by simp[Value.oneCell']) (by unfold maxLen;omega) (by omega) (by have:=U.o;simp;omega) ?_;intro u6 w6 E I _ hob6;have R:=Za (tV (x:=1) HF.o.2.1 HF.o.1 HF.o.2.2.1.symm ((Zc _ _).alloc (Zb _) _) U.o I (by rw[ab.o.2];exact E) (hob6.imp id (fun e=>⟨_,e,by simp⟩)));obtain⟨a6,c6,rfl⟩:=aJ E;clear E I hob6;refine aD ?_);have bk:=Za (show aH w6 w3.heap.size 3 .i64 (.slice a5 (2+k+1) c5) ([n2,x0]++List.replicate (k+1) n3)/\aH w6 w3.heap.size 3 .i64 (.slice a6 (1+k+1) c6) ([n2]++List.replicate (k+1) 1)/\fO (.slice a5 (2+k+1) c5) (.slice a6 (1+k+1) c6)/\Below w3.heap.size w3 w6 by
       have h1:=R.o.2.1;have h2:=R.o.1;rw[List.append_assoc,p8]at h1 h2;exact⟨h1,h2,R.o.2.2.1.symm,aj.o.trans R.o.2.2.2⟩)
      refine aC ?_;go_wp2_with fail;go_roundw
      case rel=>exact⟨k+1,by omega,by go_num,Za ⟨_,_,rfl⟩,Za ⟨_,_,rfl⟩,bk⟩
      case measure=>simp[intOf];omega
     ·obtain rfl:k=2:=by omega
      have a1:=A.o.lay.q 1 rfl;have a2:=A.o.lay.q 2 rfl;have a3:=A.o.lay.q 3 rfl;have HX:=Za (show Below w4.heap.size w4 w4.drew from Below.drew (Zc _ _));go_wp2_with fail;go_region_held3 (fun w'=>w'.cell? ⟨w.heap.size,1,none⟩=some (.int .i64 x0)/\w'.cell? ⟨w.heap.size,2,none⟩=some (.int .i64 n2)/\w'.cell? ⟨w.heap.size,3,none⟩=some (.int .i64 n3))
       (first|with_reducible exact bl.o|exact(A.o.next HX.o).cell)
       (first
       |(go_at_call 185;refine(zO _ _ _ 2 _ rfl (by omega)).mono ?_;rintro e wy ⟨⟨tt,rfl⟩,bm⟩;subst bm)
       |(go_at_call 164;refine(lQ g n₀ vps false 0 _ qs _ _ _ _ _ ([n2,x0]++List.replicate 2 n3) _ (A.o.next HX.o).wk (A.o.next HX.o).row (by have:=HQ.o;omega) A.o.hn rfl ((aM.of_own O.o.1).below HX.o) (by simp)).mono ?_;rintro e w5 ⟨rfl,⟨vps5,q5,ak,al,ao⟩,T⟩;have J:=Za ((A.o.next HX.o).par T ak al);have bn:=Za ao;have ap:=Za (Zd (((aM.of_own (n₀:=n₀) O.o.2.1).below HX.o).keepR T A.o.hn) (((((aM.of_own (n₀:=n₀) be.o).below O.o.2.2.2).below HX.o)).keepR T A.o.hn));have bl:=Za (show w5.cell? ⟨w.heap.size,1,none⟩=some (.int .i64 x0)/\w5.cell? ⟨w.heap.size,2,none⟩=some (.int .i64 n2)/\w5.cell? ⟨w.heap.size,3,none⟩=some (.int .i64 n3)from J.o.cell);clear T ak al ao))
      clear a1 a2 a3;go_wp2_with(go_at_call 164;refine(lQ g n₀ vps5 false _ (nm++{data:=#[46,98]}) (qs++[q5]) 0 0 av 3 cv ([n2]++List.replicate 2 1) w5 J.o.wk J.o.row (by have:=HQ.o;simp;omega) J.o.hn rfl ap.o.1 (by simp)).mono ?_;rintro e w6 ⟨rfl,⟨vps6,q6,aq,ar,aw⟩,ac⟩;have ax:=Za (J.o.par ac aq ar);have bo:=Za aw;have bp:=Za (ap.o.2.keepR ac J.o.hn);clear ac aq ar aw;refine aD ?_);have a2:=ax.o.lay.q 2 rfl;have ay:=Za (fV w6 n2);have az:=Za (show [n2].length+ys.length<=maxLen/\([n2].length+ys.length)*8<=140737488355328 by have:=bd.o ys rfl;rw[this];unfold maxLen;simp);refine aC ?_;go_wp2_with(at_builtin;refine kI rfl _ _ 30 rfl w6.heap.size 3 .i64 i0 8 Tryz.underlying30 hi ad ae af _ [n2] rfl ay.o _ ys rfl (bp.o.1.alloc _) az.o.1 az.o.2 (by simp) ?_;intro v7 w7 F ba _;have bq:=Za F;have br:=Za (((Zc _ _).alloc (Zb _) _).grown ba (by simp) (fun k hk=>(ay.o.lt k hk).1));obtain⟨o7,c7,rfl⟩:=aJ F;clear F ba);go_ret;refine bP.yes (ax.o.next br.o) (HD.o.2 _ rfl) ?_ ?_ (by simp) (aM.of_own bq.o)
      ·rw[qY,qL];simp
      ·simp[bn.o,bo.o]
  ·have bx:(x0 != n1)=true:=by simpa using X
   have HN:=Za (show aK ⟨2,n1,n2,n3,n4,n5,n6,n7⟩ first [x0,x1,x9]=none by
    rw[nN rfl];cases bZ ⟨2,n1,n2,n3,n4,n5,n6,n7⟩ [x0,x1,x9]with
    |none=>rfl
    |some p=>exact if_neg X)
   go_wp2_with fail;go_quiet(fail);go_wp2_with fail;go_ret;exact bP.no ((HA.o.next (fC _)).bad 2) (by decide) HN.o (by omega) none 0 0
def eP (k:Int) (i:Nat):Int:=if k=7 then 0 else if k=2/\i=4 then 0 else 1
def gT (k:Int):Int:=if k=7 then 99 else 4096
def eQ (k:Int) (xs:List Int) (i:Nat):Bool:=decide (eP k i<=aF xs i)&&decide (aF xs i<=gT k)
def kL (k:Int) (xs:List Int):Bool:=decide (xs.length=(eA k).length)&&(List.range xs.length).all (eQ k xs)
theorem nJ {k:Int} {xs:List Int} (i:Nat) (hi:i<xs.length) (h:eQ k xs i=false):kL k xs=false:=by rw[kL,Bool.and_eq_false_iff];right;rw[List.all_eq_false];exact⟨i,List.mem_range.2 hi,by simp[h]⟩
theorem yN {k:Int} {xs:List Int} (hl:xs.length=(eA k).length) (h:∀i<xs.length,eQ k xs i=true):kL k xs=true:=by rw[kL,Bool.and_eq_true,decide_eq_true_eq];exact⟨hl,List.all_eq_true.2 fun i hi=>h i (List.mem_range.1 hi)⟩
theorem OD (k:Int):({bN with kind:=k}:aE).kind=k:=rfl
theorem zV (k:Int):(eA k).length<=5:=by
 unfold eA;cases h:cP k with
 |none=>simp
 |some r=>
  have:r∈bJ:=List.mem_of_find?_eq_some h;have:∀r∈bJ,r.at_.length<=5:=by decide
  exact this r ‹_›
theorem UA (k:Int) (v:Value) (xs:List Int) (w:World) (h:Rd w .i64 v xs) (hx:xs.length<=100000):
  Calls Tryz.prog 145 #[.int .i64 k,v] w fun e w'=>e=.returned (.bool (kL k xs))/\Below w.heap.size w w':=by
 obtain⟨o,cap,rfl,hc⟩:=h;have V:=Za hc;clear hc;go_enter Tryz.func145,Tryz.ntmps145;go_wp2_with(go_at_call 146;refine(sZ {bN with kind:=k} (.slice none 0 0) _).mono ?_;rintro e w1 ⟨⟨u,rfl,hu⟩,hB⟩;refine aD ?_);have R:=yE {bN with kind:=k};obtain⟨o2,cap2,rfl⟩:=aJ hu;rw[R,OD];have I:=Za hB;obtain⟨m,hm⟩:=Zx ((eA k).length);obtain⟨n,hn⟩:=Zx xs.length;have h5:=zV k;rw[<-hm]at h5 ⊢;rw[<-hn]at hx ⊢;have U:=Za hm;have H:=Za hn;clear hu R hB hm hn;refine aC ?_;by_cases he:n=m
 ·subst he;by_cases N:k=7
  ·subst N;go_wp2;go_loop[5] (fun i=>∃k':Nat,k'<=n/\i=.int .i64 k'/\Hid (∀j<k',eQ 7 xs j=true)) (fun i=>n-(intOf i).toNat)
   case atStart=>exact⟨0,Ze _,rfl,Za fun j J=>absurd J (Nat.not_lt_zero j)⟩
   case round=>
    obtain⟨k',hk',rfl,M⟩:=hrel;by_cases F:k'<n
    ·obtain⟨b,off,rfl,B⟩:=V.o k' (H.o▸F);have d0:=(I.o.cell (p:=⟨b,off+k',none⟩) (aP B)).trans B;clear B;obtain⟨x,G⟩:=Zx (aF xs k');rw[<-G]at d0;have L:=Za G;clear G;by_cases O:x<0
     ·have A:=nJ (k:=7) k' (H.o▸F) (by rw[eQ,<-L.o,show eP 7 k'=0 from rfl,show gT 7=99 from rfl];simp;omega);have C:=Za A;clear A;go_wp2;go_ret;exact⟨aG C.o.symm,I.o⟩
     ·by_cases P:99<x
      ·have A:=nJ (k:=7) k' (H.o▸F) (by rw[eQ,<-L.o,show eP 7 k'=0 from rfl,show gT 7=99 from rfl];simp;omega);have C:=Za A;clear A;go_wp2;go_ret;exact⟨aG C.o.symm,I.o⟩
      ·have D:eQ 7 xs k'=true:=by rw[eQ,<-L.o,show eP 7 k'=0 from rfl,show gT 7=99 from rfl];simp;omega
       have E:=Za D;clear D;go_wp2;go_round
       case rel=>exact⟨k'+1,by omega,by go_num,Za fun j J=>by
        by_cases e:j=k'
        ·subst e;exact E.o
        ·exact M.o j (by omega)⟩
       case measure=>simp[intOf];omega
    ·obtain rfl:k'=n:=by omega
     have T:=Za (yN (k:=7) (H.o▸U.o) (fun j J=>M.o j (H.o▸J)));go_wp2;go_ret;exact⟨aG T.o.symm,I.o⟩
  ·by_cases h2:k=2
   ·subst h2;go_wp2;go_loop[5] (fun i=>∃k':Nat,k'<=n/\i=.int .i64 k'/\Hid (∀j<k',eQ 2 xs j=true)) (fun i=>n-(intOf i).toNat)
    case atStart=>exact⟨0,Ze _,rfl,Za fun j J=>absurd J (Nat.not_lt_zero j)⟩
    case round=>
     obtain⟨k',hk',rfl,M⟩:=hrel;by_cases F:k'<n
     ·obtain⟨b,off,rfl,B⟩:=V.o k' (H.o▸F);have d0:=(I.o.cell (p:=⟨b,off+k',none⟩) (aP B)).trans B;clear B;obtain⟨x,G⟩:=Zx (aF xs k');rw[<-G]at d0;have L:=Za G;clear G;by_cases h4:k'=4
      ·subst h4;by_cases O:x<0
       ·have A:=nJ (k:=2) 4 (H.o▸F) (by rw[eQ,<-L.o,show eP 2 4=0 by rw[eP,if_neg (by omega),if_pos ⟨rfl,by omega⟩],show gT 2=4096 from rfl];simp;omega);have C:=Za A;clear A;go_wp2;go_ret;exact⟨aG C.o.symm,I.o⟩
       ·by_cases P:4096<x
        ·have A:=nJ (k:=2) 4 (H.o▸F) (by rw[eQ,<-L.o,show eP 2 4=0 by rw[eP,if_neg (by omega),if_pos ⟨rfl,by omega⟩],show gT 2=4096 from rfl];simp;omega);have C:=Za A;clear A;go_wp2;go_ret;exact⟨aG C.o.symm,I.o⟩
        ·have D:eQ 2 xs 4=true:=by rw[eQ,<-L.o,show eP 2 4=0 by rw[eP,if_neg (by omega),if_pos ⟨rfl,by omega⟩],show gT 2=4096 from rfl];simp;omega
         have E:=Za D;clear D;go_wp2;go_round
         case rel=>exact⟨4+1,by omega,by go_num,Za fun j J=>by
          by_cases e:j=4
          ·subst e;exact E.o
          ·exact M.o j (by omega)⟩
         case measure=>simp[intOf];omega
      ·have h4':¬(k':Int)=4:=by omega
       by_cases O:x<1
       ·have A:=nJ (k:=2) k' (H.o▸F) (by rw[eQ,<-L.o,show eP 2 k'=1 by rw[eP,if_neg (by omega),if_neg (by omega)],show gT 2=4096 from rfl];simp;omega);have C:=Za A;clear A;go_wp2;go_ret;exact⟨aG C.o.symm,I.o⟩
       ·by_cases P:4096<x
        ·have A:=nJ (k:=2) k' (H.o▸F) (by rw[eQ,<-L.o,show eP 2 k'=1 by rw[eP,if_neg (by omega),if_neg (by omega)],show gT 2=4096 from rfl];simp;omega);have C:=Za A;clear A;go_wp2;go_ret;exact⟨aG C.o.symm,I.o⟩
        ·have D:eQ 2 xs k'=true:=by rw[eQ,<-L.o,show eP 2 k'=1 by rw[eP,if_neg (by omega),if_neg (by omega)],show gT 2=4096 from rfl];simp;omega
         have E:=Za D;clear D;go_wp2;go_round
         case rel=>exact⟨k'+1,by omega,by go_num,Za fun j J=>by
          by_cases e:j=k'
          ·subst e;exact E.o
          ·exact M.o j (by omega)⟩
         case measure=>simp[intOf];omega
     ·obtain rfl:k'=n:=by omega
      have T:=Za (yN (k:=2) (H.o▸U.o) (fun j J=>M.o j (H.o▸J)));go_wp2;go_ret;exact⟨aG T.o.symm,I.o⟩
   ·skip
    go_wp2;go_loop[5] (fun i=>∃k':Nat,k'<=n/\i=.int .i64 k'/\Hid (∀j<k',eQ k xs j=true)) (fun i=>n-(intOf i).toNat)
    case atStart=>exact⟨0,Ze _,rfl,Za fun j J=>absurd J (Nat.not_lt_zero j)⟩
    case round=>
     obtain⟨k',hk',rfl,M⟩:=hrel;by_cases F:k'<n
     ·obtain⟨b,off,rfl,B⟩:=V.o k' (H.o▸F);have d0:=(I.o.cell (p:=⟨b,off+k',none⟩) (aP B)).trans B;clear B;obtain⟨x,G⟩:=Zx (aF xs k');rw[<-G]at d0;have L:=Za G;clear G;by_cases O:x<1
      ·have A:=nJ (k:=k) k' (H.o▸F) (by rw[eQ,<-L.o,show eP k k'=1 by rw[eP,if_neg N,if_neg (fun h=>h2 h.1)],show gT k=4096 by rw[gT,if_neg N]];simp;omega);have C:=Za A;clear A;go_wp2;go_ret;exact⟨aG C.o.symm,I.o⟩
      ·by_cases P:4096<x
       ·have A:=nJ (k:=k) k' (H.o▸F) (by rw[eQ,<-L.o,show eP k k'=1 by rw[eP,if_neg N,if_neg (fun h=>h2 h.1)],show gT k=4096 by rw[gT,if_neg N]];simp;omega);have C:=Za A;clear A;go_wp2;go_ret;exact⟨aG C.o.symm,I.o⟩
       ·have D:eQ k xs k'=true:=by rw[eQ,<-L.o,show eP k k'=1 by rw[eP,if_neg N,if_neg (fun h=>h2 h.1)],show gT k=4096 by rw[gT,if_neg N]];simp;omega
        have E:=Za D;clear D;go_wp2;go_round
        case rel=>exact⟨k'+1,by omega,by go_num,Za fun j J=>by
         by_cases e:j=k'
         ·subst e;exact E.o
         ·exact M.o j (by omega)⟩
        case measure=>simp[intOf];omega
     ·obtain rfl:k'=n:=by omega
      have T:=Za (yN (k:=k) (H.o▸U.o) (fun j J=>M.o j (H.o▸J)));go_wp2;go_ret;exact⟨aG T.o.symm,I.o⟩
 ·have he':¬(n:Int)=(m:Int):=by omega
  have X:=Za (show kL k xs=false by rw[kL,<-H.o,<-U.o,decide_eq_false he];rfl);go_wp2;go_ret;exact⟨aG X.o.symm,I.o⟩
