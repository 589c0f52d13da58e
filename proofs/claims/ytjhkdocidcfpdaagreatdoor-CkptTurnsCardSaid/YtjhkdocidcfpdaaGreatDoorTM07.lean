/-
  A part of the proof of a law (packed by program).
-/
import Derived.Test.YtjhkdocidcfpdaaGreatDoorTM04
import Derived.Test.YtjhkdocidcfpdaaGreatDoorTM05
set_option linter.unusedVariables false
set_option linter.unusedSimpArgs false
set_option maxRecDepth 100000
set_option maxHeartbeats 16000000
namespace Go.Proofs.YtjhkdocidcfpdaaGreatDoor
open Go.RowKit Go.Shelf Go
theorem uG (size stride pad:Int) (a:List Int) (x:Int):cN size stride pad (a++[x])=(cN size stride pad a).bind fun t=>if x+2*pad-(size-1)-1<0 then none else some (t++[(x+2*pad-(size-1)-1) / stride+1]):=by
 induction a with
 |nil=>simp[cN]
 |cons y a ih=>
  rw[List.cons_append,cN,cN,ih];split
  ·rfl
  ·cases cN size stride pad a with
   |none=>rfl
   |some t=>
    simp only[Option.bind_some,Option.map_some];split<;>simp
theorem BO (size stride pad:Int) (a:List Int) (k:Nat) (h:cN size stride pad (a.take k)=none):cN size stride pad a=none:=by
 induction a generalizing k with
 |nil=>simp[cN]at h
 |cons y a ih=>
  cases k with
  |zero=>simp[cN]at h
  |succ k=>
   rw[List.take_succ_cons,cN]at h;rw[cN];split
   ·rfl
   ·rename_i hn;rw[if_neg hn]at h;cases ho:cN size stride pad (a.take k)with
    |none=>rw[ih k ho];rfl
    |some t=>rw[ho]at h;simp at h
theorem lU {size stride pad:Int} {a t:List Int} (h:cN size stride pad a=some t):t.length=a.length:=by
 induction a generalizing t with
 |nil=>simp[cN]at h;subst h;rfl
 |cons y a ih=>
  rw[cN]at h;split at h
  ·cases h
  ·cases ho:cN size stride pad a with
   |none=>rw[ho]at h;simp at h
   |some s=>rw[ho]at h;simp at h;subst h;simp[ih ho]
def QP (w0:World) (res:Option (List Int)) (e:Ending) (w':World):Prop:=
 Below w0.heap.size w0 w'∧match res with
 |none=>e=.returned (.tuple #[.agg #[.slice none 0 0,.slice none 0 0,.slice none 0 0,.slice none 0 0,.slice none 0 0,.slice none 0 0,.slice none 0 0],.bool false])
 |some ys=>∃o1 n1 c1 o2 n2 c2 o3 n3 c3 o4 n4 c4 o5 n5 c5 o6 n6 c6 o7 c7,e=.returned (.tuple #[.agg #[.slice o1 n1 c1,.slice o2 n2 c2,.slice o7 ys.length c7,.slice o3 n3 c3,.slice o4 n4 c4,.slice o5 n5 c5,.slice o6 n6 c6],.bool true])∧aH w' w0.heap.size 3 .i64 (.slice o7 ys.length c7) ys
theorem nD {w:World} {K:IntKind} {o:Option Addr} {n c:Nat} {x:Int} (h:Rd w K (.slice o n c) (List.replicate n x)) (k:Nat) (hk:k<n):∃b off,o=some ⟨b,off,none⟩∧w.cell? ⟨b,off+k,none⟩=some (.int K x):=by obtain⟨b,off,ho,hc⟩:=h.cell k (by simpa using hk);refine⟨b,off,ho,?_⟩;rw[hc,dK _ _ (by simpa using hk),List.getElem_replicate]
structure pC (w wr:World) (v1 v2 v3 v4 v5 vo:Value) (ys:List Int):Prop where
 low:Below w.heap.size w wr
 cv:aA wr w.heap.size 254 #[.slice none 0 0,v3,v4,v5]
 win:aA wr (w.heap.size+1) 290 #[v1,v2,vo,.slice none 0 0,v3,v4,v5]
 own:aH wr (w.heap.size+2) 3 .i64 vo ys
theorem qT (w:World) (R:Nat) (a b c d e f g:Value):aZ w (((((((w.setCell ⟨R,0,none⟩ a).setCell ⟨R,1,none⟩ b).setCell ⟨R,2,none⟩ c).setCell ⟨R,3,none⟩ d).setCell ⟨R,4,none⟩ e).setCell ⟨R,5,none⟩ f).setCell ⟨R,6,none⟩ g) R:=by have m:∀(u:World) (j:Nat) (v:Value),aZ u (u.setCell ⟨R,j,none⟩ v) R:=fun u j v=>⟨rfl,rfl,rfl,by simp[World.setCell],fun k _ hk=>Below.heap_setCell _ _ _ _ (fun e=>hk (by simp at e;rw[e]))⟩;exact(((((((m w 0 a).trans (m _ 1 b)).trans (m _ 2 c)).trans (m _ 3 d)).trans (m _ 4 e)).trans (m _ 5 f)).trans (m _ 6 g))
theorem sT {w:World} {C:Nat} {T:TypeId} {a b c d e f g a' b' c' d' e' f' g':Value} (h:aA w C T #[a,b,c,d,e,f,g]):aA (((((((w.setCell ⟨C,0,none⟩ a').setCell ⟨C,1,none⟩ b').setCell ⟨C,2,none⟩ c').setCell ⟨C,3,none⟩ d').setCell ⟨C,4,none⟩ e').setCell ⟨C,5,none⟩ f').setCell ⟨C,6,none⟩ g') C T #[a',b',c',d',e',f',g']:=
 by
 have h0:aA _ C T #[a',b,c,d,e,f,g]:=h.set 0 a';have h1:aA _ C T #[a',b',c,d,e,f,g]:=h0.set 1 b';have h2:aA _ C T #[a',b',c',d,e,f,g]:=h1.set 2 c';have h3:aA _ C T #[a',b',c',d',e,f,g]:=h2.set 3 d';have h4:aA _ C T #[a',b',c',d',e',f,g]:=h3.set 4 e';have h5:aA _ C T #[a',b',c',d',e',f',g]:=h4.set 5 f';exact h5.set 6 g'
theorem aA.mv {w w':World} {R B:Nat} {T:TypeId} {cs:Array Value} (h:aA w B T cs) (hm:aZ w w' R) (hne:B≠R):aA w' B T cs:=(hm.block B h.lt (fun e=>hne (Option.some.inj e))).trans h
theorem pC.grow {w w1 w6:World} {v1 v2 v3 v4 v5 vo v':Value} {ys:List Int} {y:Int} (h:pC w w1 v1 v2 v3 v4 v5 vo ys) {w2:World} (h12:Below w1.heap.size w1 w2)
  (hown:w6.ownsRow (w.heap.size+2) 3 1 v' (ys.length+1) (ys.map (Value.int .i64)++[.int .i64 y])) (hg:w2.grownBy w6 vo.ownBlock):
  (w6.cell? ⟨w.heap.size+1,2,none⟩=some vo∧w6.frozen? ⟨w.heap.size+1,2,none⟩=false)∧pC w (w6.setCell ⟨w.heap.size+1,2,none⟩ v') v1 v2 v3 v4 v5 v' (ys++[y]):=by
 have hlow:Below (w.heap.size+2) w1 w6:=by have h0:Below (w.heap.size+2) w1 w2:=h12.mono (by have:=h.win.lt;omega);exact h0.grown hg (by have:=h.win.lt;have:=h12.size;omega) (fun k hk=>((cF h.own h12 (Zb _)).lt k hk).1)
 have hw6:=h.win.below hlow (Nat.lt_succ_self _);have hc6:=h.cv.below hlow (Nat.lt_succ_of_lt (Nat.lt_succ_self _));refine⟨⟨hw6.cell 2 rfl,hw6.free 2⟩,⟨((h.low.trans (hlow.mono (by omega))).setCell (p:=⟨w.heap.size+1,2,none⟩) (Nat.le_succ _) _),?_,hw6.set 2 v',?_⟩⟩
 ·exact hc6.other (p:=⟨w.heap.size+1,2,none⟩) (by simp) _
 ·have ho:=lL hown;refine⟨ho.1,?_⟩;rcases ho.2 with hn|⟨b,cap,cur,rfl,hbb,hgg,r⟩
  ·exact .inl hn
  ·exact .inr ⟨b,cap,cur,rfl,hbb,by rw[Below.heap_setCell _ _ _ _ (by simp;omega)];exact hgg,r⟩
theorem AD (size stride pad:Int) (xs:List Int) (o1 o2 o3 o4 o5:Option Addr) (c1 c2 c3 c4 c5 n:Nat) (w:World) (hs:1≤size∧size≤4096) (ht:1≤stride∧stride≤4096) (hp:0≤pad∧pad≤4096)
  (hx:∀x∈xs,0≤x∧x≤4096) (hn:n=xs.length) (hl:xs.length≤4)
  (h1:Rd w .i64 (.slice o1 n c1) xs) (h2:Rd w .i64 (.slice o2 n c2) (List.replicate n size)) (h3:Rd w .i64 (.slice o3 n c3) (List.replicate n stride)) (h4:Rd w .i64 (.slice o4 n c4) (List.replicate n pad)) (h5:Rd w .i64 (.slice o5 n c5) (List.replicate n 1)):
  Calls Tryz.prog 215 #[.slice o1 n c1,.slice o2 n c2,.agg #[.slice none 0 0,.slice o3 n c3,.slice o4 n c4,.slice o5 n c5]] w (QP w (cN size stride pad xs)):=by
 obtain⟨i0,hi,hz0,hz1,hz2⟩:=info_parts jJ;subst hn;have HR:=Za (Zd h1 (Zd h2 (Zd h3 (Zd h4 h5))));have HX:=Za hx;obtain⟨W0,hW0⟩:∃W0,W0=(w.alloc (.cells #[.slice none 0 0,.slice o3 xs.length c3,.slice o4 xs.length c4,.slice o5 xs.length c5] 254)).alloc (.cells #[.slice none 0 0,.slice none 0 0,.slice none 0 0,.slice none 0 0,.slice none 0 0,.slice none 0 0,.slice none 0 0] 290):=⟨_,rfl⟩;have hB0:Below w.heap.size w W0:=by rw[hW0];exact((Zc _ _).alloc (Zb _) _).alloc (by simp) _
 have hZ0:W0.heap.size=w.heap.size+2:=by rw[hW0];simp
 have hbc:aA W0 w.heap.size 254 #[.slice none 0 0,.slice o3 xs.length c3,.slice o4 xs.length c4,.slice o5 xs.length c5]:=by rw[hW0];exact(aA.new _ _ _).next ((Zc _ _).alloc (Zb _) _)
 have hbw:aA W0 (w.heap.size+1) 290 #[.slice none 0 0,.slice none 0 0,.slice none 0 0,.slice none 0 0,.slice none 0 0,.slice none 0 0,.slice none 0 0]:=by
  rw[hW0];have:=aA.new (w.alloc (.cells #[.slice none 0 0,.slice o3 xs.length c3,.slice o4 xs.length c4,.slice o5 xs.length c5] 254)) 290 #[.slice none 0 0,.slice none 0 0,.slice none 0 0,.slice none 0 0,.slice none 0 0,.slice none 0 0,.slice none 0 0]
  rwa [World.size_alloc]at this
 have HW0:=Za hW0;have HB0:=Za hB0;have HZ0:=Za hZ0;have HBC:=Za hbc;have HBW:=Za hbw;clear hW0 hB0 hZ0 h1 h2 h3 h4 h5 hx;go_enter Tryz.func215,Tryz.ntmps215;go_upto_region 1 with(fail);rw[←HW0.o];have a0:=hbc.q 0 rfl;have a1:=hbc.q 1 rfl;have a2:=hbc.q 2 rfl;have a3:=hbc.q 3 rfl;have b0:=hbw.q 0 rfl;have b1:=hbw.q 1 rfl;have b2:=hbw.q 2 rfl;have b3:=hbw.q 3 rfl;have b4:=hbw.q 4 rfl;have b5:=hbw.q 5 rfl;have b6:=hbw.q 6 rfl;have f0:=hbw.free 0;have f1:=hbw.free 1;have f2:=hbw.free 2;have f3:=hbw.free 3;have f4:=hbw.free 4;have f5:=hbw.free 5;have f6:=hbw.free 6;clear hbc hbw HW0;go_upto_region 3 with(fail);have hm7:=qT W0 (w.heap.size+1) (.slice o1 xs.length c1) (.slice o2 xs.length c2) (.slice none 0 0) (.slice none 0 0) (.slice o3 xs.length c3) (.slice o4 xs.length c4) (.slice o5 xs.length c5);have hw7:=sT (a':=.slice o1 xs.length c1) (b':=.slice o2 xs.length c2) (c':=.slice none 0 0) (d':=.slice none 0 0) (e':=.slice o3 xs.length c3) (f':=.slice o4 xs.length c4) (g':=.slice o5 xs.length c5) HBW.o;clear a0 a1 a2 a3 b0 b1 b2 b3 b4 b5 b6 f0 f1 f2 f3 f4 f5 f6;generalize (((((((W0.setCell ⟨w.heap.size+1,0,none⟩ (.slice o1 xs.length c1)).setCell ⟨w.heap.size+1,1,none⟩ (.slice o2 xs.length c2)).setCell ⟨w.heap.size+1,2,none⟩ (.slice none 0 0)).setCell ⟨w.heap.size+1,3,none⟩ (.slice none 0 0)).setCell ⟨w.heap.size+1,4,none⟩ (.slice o3 xs.length c3)).setCell ⟨w.heap.size+1,5,none⟩ (.slice o4 xs.length c4)).setCell ⟨w.heap.size+1,6,none⟩ (.slice o5 xs.length c5))=W1 at hm7 hw7 ⊢;have HOA:=Za (show pC w W1 (.slice o1 xs.length c1) (.slice o2 xs.length c2) (.slice o3 xs.length c3) (.slice o4 xs.length c4) (.slice o5 xs.length c5) (.slice none 0 0) [] from
  ⟨HB0.o.trans (hm7.below (Nat.le_succ _) HB0.o.size),HBC.o.mv hm7 (by omega),hw7,World.ownsRow_nil _ _ _ _⟩)
 clear hm7 hw7 HBC HBW HB0 HZ0;go_loopg[17] xs.length (fun g i wr=>∃(k:Nat) (ys:List Int) (o7:Option Addr) (c7:Nat),g=xs.length-k∧k≤xs.length∧i=.int .i64 k∧Hid (cN size stride pad (xs.take k)=some ys)∧ys.length=k∧Hid (pC w wr (.slice o1 xs.length c1) (.slice o2 xs.length c2) (.slice o3 xs.length c3) (.slice o4 xs.length c4) (.slice o5 xs.length c5) (.slice o7 k c7) ys))
 case atStart=>exact⟨0,[],none,0,rfl,Ze _,rfl,Za rfl,rfl,HOA⟩
 case round=>
  obtain⟨k,ys,o7,c7,hgv,hk,rfl,HY,hyl,HOK⟩:=hrel;clear HOA;obtain⟨w1,rfl⟩:∃w1,w1=wr:=⟨_,rfl⟩;by_cases hlt:k<xs.length
  ·obtain⟨r1,r2,r3,r4,r5⟩:=HR.o;obtain⟨q1,p1,rfl,d1⟩:=r1.cell k hlt;obtain⟨q2,p2,rfl,d2⟩:=nD r2 k hlt;obtain⟨q3,p3,rfl,d3⟩:=nD r3 k hlt;obtain⟨q4,p4,rfl,d4⟩:=nD r4 k hlt;obtain⟨q5,p5,rfl,d5⟩:=nD r5 k hlt;have hb:=HOK.o.low;have e1:=(hb.cell (p:=⟨q1,p1+k,none⟩) (aP d1)).trans d1;have e2:=(hb.cell (p:=⟨q2,p2+k,none⟩) (aP d2)).trans d2;have e3:=(hb.cell (p:=⟨q3,p3+k,none⟩) (aP d3)).trans d3;have e4:=(hb.cell (p:=⟨q4,p4+k,none⟩) (aP d4)).trans d4;have e5:=(hb.cell (p:=⟨q5,p5+k,none⟩) (aP d5)).trans d5;have a1:=HOK.o.cv.q 1 rfl;have a2:=HOK.o.cv.q 2 rfl;have a3:=HOK.o.cv.q 3 rfl;have hxk:=HX.o _ (mI xs k hlt);obtain⟨x,hx⟩:∃x,x=aE xs k:=⟨_,rfl⟩;rw[←hx]at hxk e1;have HXE:=Za hx;clear r1 r2 r3 r4 r5 d1 d2 d3 d4 d5 hb hx;obtain⟨room,hroom⟩:∃room,room=x+2*pad-(size-1)-1:=⟨_,rfl⟩;have m1:IntKind.i64.wrap (2*pad)=2*pad:=by rw[IntWalk.i64_in _ (by omega)]
   have m2:IntKind.i64.wrap (x+2*pad)=x+2*pad:=by rw[IntWalk.i64_in _ (by omega)]
   have m3:IntKind.i64.wrap (size-1)=size-1:=by rw[IntWalk.i64_in _ (by omega)]
   have m4:IntKind.i64.wrap (1*(size-1))=size-1:=by rw[Int.one_mul,m3]
   have m5:IntKind.i64.wrap (x+2*pad-(size-1))=x+2*pad-(size-1):=by rw[IntWalk.i64_in _ (by omega)]
   have m6:IntKind.i64.wrap (x+2*pad-(size-1)-1)=room:=by rw[hroom];exact IntWalk.i64_in _ (by omega)
   have HROOM:=Za hroom;have hr1:-9000≤room∧room≤20000:=by omega
   clear hroom;go_wp2_with fail;go_quiet(fail);obtain⟨w2,hw2⟩:∃w2,w2=w1.drewN nq:=⟨_,rfl⟩;rw[←hw2];have hsm:aN w1 w2:=⟨nq,hw2⟩;have HO2:=Za (show pC w w2 (.slice (some ⟨q1,p1,none⟩) xs.length c1) (.slice (some ⟨q2,p2,none⟩) xs.length c2) (.slice (some ⟨q3,p3,none⟩) xs.length c3) (.slice (some ⟨q4,p4,none⟩) xs.length c4) (.slice (some ⟨q5,p5,none⟩) xs.length c5) (.slice o7 k c7) ys from⟨HOK.o.low.trans (hsm.below _),HOK.o.cv.same hsm,HOK.o.win.same hsm,lE HOK.o.own hsm⟩);have b3:=(hsm.below w1.heap.size).cell (p:=⟨q3,p3+k,none⟩) (aP e3) |>.trans e3;have a1:=HO2.o.cv.q 1 rfl;clear e1 e2 e3 e4 e5 a2 a3 HOK hsm hw2 m1 m2 m3 m4 m5 m6;by_cases hneg:room<0
   ·have b0:=HO2.o.win.q 0 rfl;have b1:=HO2.o.win.q 1 rfl;have b2:=HO2.o.win.q 2 rfl;have b3:=HO2.o.win.q 3 rfl;have b4:=HO2.o.win.q 4 rfl;have b5:=HO2.o.win.q 5 rfl;have b6:=HO2.o.win.q 6 rfl;have f0:=HO2.o.win.free 0;have f1:=HO2.o.win.free 1;have f2:=HO2.o.win.free 2;have f3:=HO2.o.win.free 3;have f4:=HO2.o.win.free 4;have f5:=HO2.o.win.free 5;have f6:=HO2.o.win.free 6;have hm:=qT w2 (w.heap.size+1) (.slice none 0 0) (.slice none 0 0) (.slice none 0 0) (.slice none 0 0) (.slice none 0 0) (.slice none 0 0) (.slice none 0 0);have hw:=sT (a':=.slice none 0 0) (b':=.slice none 0 0) (c':=.slice none 0 0) (d':=.slice none 0 0) (e':=.slice none 0 0) (f':=.slice none 0 0) (g':=.slice none 0 0) HO2.o.win;have HM:=Za (HO2.o.low.trans (hm.below (B:=w.heap.size) (Nat.le_succ _) HO2.o.low.size));have HW:=Za hw;have HN:Hid (cN size stride pad xs=none):=Za (BO size stride pad xs (k+1) (by rw[fF xs k hlt,uG,HY.o,Option.bind_some,←HXE.o,←HROOM.o,if_pos hneg]));clear hm hw;go_wp2_with fail;clear b0 b1 b2 b3 b4 b5 b6 f0 f1 f2 f3 f4 f5 f6 HO2;generalize (((((((w2.setCell ⟨w.heap.size+1,0,none⟩ (.slice none 0 0)).setCell ⟨w.heap.size+1,1,none⟩ (.slice none 0 0)).setCell ⟨w.heap.size+1,2,none⟩ (.slice none 0 0)).setCell ⟨w.heap.size+1,3,none⟩ (.slice none 0 0)).setCell ⟨w.heap.size+1,4,none⟩ (.slice none 0 0)).setCell ⟨w.heap.size+1,5,none⟩ (.slice none 0 0)).setCell ⟨w.heap.size+1,6,none⟩ (.slice none 0 0))=w3 at HM HW ⊢;have b0:=HW.o.q 0 rfl;have b1:=HW.o.q 1 rfl;have b2:=HW.o.q 2 rfl;have b3:=HW.o.q 3 rfl;have b4:=HW.o.q 4 rfl;have b5:=HW.o.q 5 rfl;have b6:=HW.o.q 6 rfl;refine bodyPost_ret (v:=.tuple #[.agg #[.slice none 0 0,.slice none 0 0,.slice none 0 0,.slice none 0 0,.slice none 0 0,.slice none 0 0,.slice none 0 0],.bool false]) (by simp[results,Tryz.results215,go_sem,b0,b1,b2,b3,b4,b5,b6]) rfl ⟨HM.o,?_⟩;rw[HN.o]
   ·obtain⟨ht1,ht2⟩:=ht;have hr0:0≤room:=by omega
    have hq1:0≤room / stride:=Int.ediv_nonneg hr0 (by omega);have hq2:room / stride≤20000:=Int.le_trans (Int.ediv_le_self _ hr0) hr1.2;have hwq:IntKind.i64.wrap (room.tdiv stride)=room / stride:=IntWalk.i64_quo _ _ (by omega);have hws:IntKind.i64.wrap (room / stride+1)=room / stride+1:=IntWalk.i64_in _ (by omega);have hne0:¬stride=0:=by omega
    have hne1:(stride==0)=false:=by simp[hne0]
    have b2:=HO2.o.win.q 2 rfl;have HO3:=Za (show w2.ownsRow (w.heap.size+2) 3 1 (.slice o7 k c7) k (ys.map (.int .i64)) by have:=HO2.o.own;unfold aH at this;rw[hyl]at this;exact this);have hz2w:=HO2.o.low.size;have hwl:=HO2.o.win.lt;go_wp2_with fail;go_region_law(refine step_append_lies _ (by rfl) (.tmp 47) (.tmp 56) 30 (by rfl) (w.heap.size+2) 3 i0 (.int .i64 0) 1 8 Tryz.underlying30 hi hz0 hz1 hz2 rfl (by decide) (.slice o7 k c7) _ _ ?_ (cF HO3.o ((Zc _ _).drew.alloc (Zb _) _) (Zb _)) ⟨w2.heap.size,0,none⟩ 1 1 [.int .i64 (room / stride+1)] ?_ rfl (fS w2.drew _ _ _) ?_ (by decide) ?_ ?_ ?_ (w2.heap.size+1) ?_ ?_;rfl;rfl;simp[Value.oneCell'];(unfold maxLen;omega);omega;(simp;omega);simp;intro gg cap6 w6 hown6 hgrow6 hat hlt6;have HF:=Za (HO2.o.grow (y:=room / stride+1) (show Below w2.heap.size w2 (w2.alloc (Obj.cells #[Value.int IntKind.i64 (room / stride+1)] 3)).drew from((Zc _ _).alloc (Zb _) _).drew) (by rw[hyl];exact hown6) hgrow6);have e3:=HF.o.1.1;have e4:=HF.o.1.2;clear hown6 hgrow6 hat hlt6)
    all_goals
     have HK:=Za HF.o.2;have HY2:Hid (cN size stride pad (xs.take (k+1))=some (ys++[room / stride+1])):=Za (by rw[fF xs k hlt,uG,HY.o,Option.bind_some,←HXE.o,←HROOM.o,if_neg (by omega)]);clear HF e3 e4 b2 a1;go_wp2_with fail;go_roundg (xs.length-(k+1))
     case measure=>omega
     case rel=>exact⟨k+1,_,some ⟨gg,0,none⟩,cap6,rfl,hlt,by go_num,HY2,by simp[hyl],HK⟩
  ·obtain rfl:k=xs.length:=by omega
   have HY2:=Za (show cN size stride pad xs=some ys by have:=HY.o;rwa [List.take_length]at this);have b0:=HOK.o.win.q 0 rfl;have b1:=HOK.o.win.q 1 rfl;have b2:=HOK.o.win.q 2 rfl;have b3:=HOK.o.win.q 3 rfl;have b4:=HOK.o.win.q 4 rfl;have b5:=HOK.o.win.q 5 rfl;have b6:=HOK.o.win.q 6 rfl;have f0:=HOK.o.win.free 0;have f1:=HOK.o.win.free 1;have f2:=HOK.o.win.free 2;have f3:=HOK.o.win.free 3;have f4:=HOK.o.win.free 4;have f5:=HOK.o.win.free 5;have f6:=HOK.o.win.free 6;have hm:=qT w1 (w.heap.size+1) (.slice o1 xs.length c1) (.slice o2 xs.length c2) (.slice o7 xs.length c7) (.slice none 0 0) (.slice o3 xs.length c3) (.slice o4 xs.length c4) (.slice o5 xs.length c5);have hw:=sT (a':=.slice o1 xs.length c1) (b':=.slice o2 xs.length c2) (c':=.slice o7 xs.length c7) (d':=.slice none 0 0) (e':=.slice o3 xs.length c3) (f':=.slice o4 xs.length c4) (g':=.slice o5 xs.length c5) HOK.o.win;have HM:=Za (HOK.o.low.trans (hm.below (B:=w.heap.size) (Nat.le_succ _) HOK.o.low.size));have HW:=Za hw;have HOW:=Za (cD (mV HOK.o.own hm (Nat.lt_succ_self _)) (Nat.le_succ_of_le (Nat.le_succ w.heap.size)));clear hm hw;go_wp2_with fail;clear b0 b1 b2 b3 b4 b5 b6 f0 f1 f2 f3 f4 f5 f6 HOK;generalize (((((((w1.setCell ⟨w.heap.size+1,0,none⟩ (.slice o1 xs.length c1)).setCell ⟨w.heap.size+1,1,none⟩ (.slice o2 xs.length c2)).setCell ⟨w.heap.size+1,2,none⟩ (.slice o7 xs.length c7)).setCell ⟨w.heap.size+1,3,none⟩ (.slice none 0 0)).setCell ⟨w.heap.size+1,4,none⟩ (.slice o3 xs.length c3)).setCell ⟨w.heap.size+1,5,none⟩ (.slice o4 xs.length c4)).setCell ⟨w.heap.size+1,6,none⟩ (.slice o5 xs.length c5))=w3 at HM HW HOW ⊢;have b0:=HW.o.q 0 rfl;have b1:=HW.o.q 1 rfl;have b2:=HW.o.q 2 rfl;have b3:=HW.o.q 3 rfl;have b4:=HW.o.q 4 rfl;have b5:=HW.o.q 5 rfl;have b6:=HW.o.q 6 rfl;refine bodyPost_ret (v:=.tuple #[.agg #[.slice o1 xs.length c1,.slice o2 xs.length c2,.slice o7 xs.length c7,.slice none 0 0,.slice o3 xs.length c3,.slice o4 xs.length c4,.slice o5 xs.length c5],.bool true]) (by simp[results,Tryz.results215,go_sem,b0,b1,b2,b3,b4,b5,b6]) rfl ⟨HM.o,?_⟩;rw[HY2.o];refine⟨_,_,_,_,_,_,_,_,_,_,_,_,_,_,_,_,_,_,o7,c7,by rw[hyl],?_⟩;rw[hyl];exact HOW.o
structure jE (n:aG):Prop where
 s1:1≤n.size
 s2:n.size≤4096
 t1:1≤eU n
 t2:eU n≤4096
 p1:0≤n.pad
 p2:n.pad≤4096
theorem BW {w:World} {o:Option Addr} {n cap:Nat} {s:List Int} (h:Rd w .i64 (.slice o n cap) s) (h1:1≤s.length) {c:Nat}:Rd w .i64 (.slice (o.map (·.add 1)) (s.length-1) c) s.tail:=by
 have:=h.drop 1 h1 (c:=c)
 rwa [List.drop_one]at this
theorem tD {w:World} {C:Nat} {a b c d:Value} (h:aA w C 254 #[.slice none 0 0,.slice none 0 0,.slice none 0 0,.slice none 0 0]) {B:Nat} {v:Value} {xs:List Int} (ho:aH w B 3 .i64 v xs):aH ((((w.setCell ⟨C,0,none⟩ a).setCell ⟨C,1,none⟩ b).setCell ⟨C,2,none⟩ c).setCell ⟨C,3,none⟩ d) B 3 .i64 v xs:=pR ho h (by decide)
def qC (w wx:World) (m:Nat) (n:aG) (a b:Value):Prop:=∃(bc:Nat) (o1 o2 o3 o4:Option Addr) (k1 k2 k3 k4:Nat),a=.pointer (some ⟨bc,0,none⟩)∧aA wx bc 254 #[.slice none 0 0,.slice o1 m k1,.slice o2 m k2,.slice o3 m k3]∧b=.slice o4 m k4∧
 aH wx w.heap.size 3 .i64 (.slice o1 m k1) (List.replicate m (eU n))∧aH wx w.heap.size 3 .i64 (.slice o2 m k2) (List.replicate m n.pad)∧aH wx w.heap.size 3 .i64 (.slice o3 m k3) (List.replicate m 1)∧aH wx w.heap.size 3 .i64 (.slice o4 m k4) (List.replicate m n.size)∧Below w.heap.size w wx
theorem tP {w w0 wk:World} {m:Nat} {n:aG} {o1 o2 o3 o4:Option Addr} {k1 k2 k3 k4:Nat} (h0:Below w.heap.size w w0) (hbk:Below w0.heap.size w0 wk)
  (h1:aH wk w0.heap.size 3 .i64 (.slice o1 m k1) (List.replicate m (eU n))) (h2:aH wk w0.heap.size 3 .i64 (.slice o2 m k2) (List.replicate m n.pad)) (h3:aH wk w0.heap.size 3 .i64 (.slice o3 m k3) (List.replicate m 1)) (h4:aH wk w0.heap.size 3 .i64 (.slice o4 m k4) (List.replicate m n.size)):
  qC w (wk.alloc (.cells #[.slice none 0 0,.slice o1 m k1,.slice o2 m k2,.slice o3 m k3] 254)) m n (.pointer (some ⟨wk.heap.size,0,none⟩)) (.slice o4 m k4):=by have hb:Below wk.heap.size wk (wk.alloc (.cells #[.slice none 0 0,.slice o1 m k1,.slice o2 m k2,.slice o3 m k3] 254)):=(Zc _ _).alloc (Zb _) _;have up:∀{v:Value} {xs:List Int},aH wk w0.heap.size 3 .i64 v xs→aH (wk.alloc (.cells #[.slice none 0 0,.slice o1 m k1,.slice o2 m k2,.slice o3 m k3] 254)) w.heap.size 3 .i64 v xs:=fun h=>cD (cF h hb (Zb _)) h0.size;exact⟨wk.heap.size,o1,o2,o3,o4,k1,k2,k3,k4,rfl,aA.new _ _ _,rfl,up h1,up h2,up h3,up h4,(h0.trans (hbk.mono h0.size)).trans (hb.mono (Nat.le_trans h0.size hbk.size))⟩
theorem uD {w w0 wk:World} {bc m:Nat} {n:aG} {o1 o2 o3 o4:Option Addr} {k1 k2 k3 k4:Nat} (h0:Below w.heap.size w w0) (hbk:Below w0.heap.size w0 wk) (hbx:aA wk bc 254 #[.slice none 0 0,.slice none 0 0,.slice none 0 0,.slice none 0 0]) (hbc:w.heap.size≤bc)
  (h1:aH wk w0.heap.size 3 .i64 (.slice o1 m k1) (List.replicate m (eU n))) (h2:aH wk w0.heap.size 3 .i64 (.slice o2 m k2) (List.replicate m n.pad)) (h3:aH wk w0.heap.size 3 .i64 (.slice o3 m k3) (List.replicate m 1)) (h4:aH wk w0.heap.size 3 .i64 (.slice o4 m k4) (List.replicate m n.size)):
  qC w ((((wk.setCell ⟨bc,0,none⟩ (.slice none 0 0)).setCell ⟨bc,1,none⟩ (.slice o1 m k1)).setCell ⟨bc,2,none⟩ (.slice o2 m k2)).setCell ⟨bc,3,none⟩ (.slice o3 m k3)) m n (.pointer (some ⟨bc,0,none⟩)) (.slice o4 m k4):=by refine⟨bc,o1,o2,o3,o4,k1,k2,k3,k4,rfl,zT hbx,rfl,tD hbx (cD h1 h0.size),tD hbx (cD h2 h0.size),tD hbx (cD h3 h0.size),tD hbx (cD h4 h0.size),?_⟩;exact yX (h0.trans (hbk.mono h0.size)) hbc
def nY (w wx:World) (res:Option (List Int)) (a b:Value):Prop:=∃(bw:Nat) (v0 v1 vo v3 v4 v5 v6:Value),a=.pointer (some ⟨bw,0,none⟩)∧aA wx bw 290 #[v0,v1,vo,v3,v4,v5,v6]∧b=.bool res.isSome∧
 (∀p,res=some p→aH wx w.heap.size 3 .i64 vo p)∧Below w.heap.size w wx
theorem sM {w wc w0 wk:World} {res:Option (List Int)} {v0 v1 vo v3 v4 v5 v6:Value} (hw:Below w.heap.size w wc) (h0:Below wc.heap.size wc w0) (hbk:Below w0.heap.size w0 wk) (ho:∀p,res=some p→aH wk w0.heap.size 3 .i64 vo p):
  nY w (wk.alloc (.cells #[v0,v1,vo,v3,v4,v5,v6] 290)) res (.pointer (some ⟨wk.heap.size,0,none⟩)) (.bool res.isSome):=by have hb:Below wk.heap.size wk (wk.alloc (.cells #[v0,v1,vo,v3,v4,v5,v6] 290)):=(Zc _ _).alloc (Zb _) _;have hs:w.heap.size≤w0.heap.size:=Nat.le_trans hw.size h0.size;exact⟨wk.heap.size,v0,v1,vo,v3,v4,v5,v6,rfl,aA.new _ _ _,rfl,fun p hp=>cD (cF (ho p hp) hb (Zb _)) hs,((hw.trans (h0.mono hw.size)).trans (hbk.mono hs)).trans (hb.mono (Nat.le_trans hs hbk.size))⟩
theorem qU {w wc w0 wk:World} {bw:Nat} {res:Option (List Int)} {v0 v1 vo v3 v4 v5 v6 z0 z1 z2 z3 z4 z5 z6:Value} (hw:Below w.heap.size w wc) (h0:Below wc.heap.size wc w0) (hbk:Below w0.heap.size w0 wk) (hbx:aA wk bw 290 #[z0,z1,z2,z3,z4,z5,z6]) (hbc:w.heap.size≤bw) (ho:∀p,res=some p→aH wk w0.heap.size 3 .i64 vo p):
  nY w (((((((wk.setCell ⟨bw,0,none⟩ v0).setCell ⟨bw,1,none⟩ v1).setCell ⟨bw,2,none⟩ vo).setCell ⟨bw,3,none⟩ v3).setCell ⟨bw,4,none⟩ v4).setCell ⟨bw,5,none⟩ v5).setCell ⟨bw,6,none⟩ v6) res (.pointer (some ⟨bw,0,none⟩)) (.bool res.isSome):=by
 have hs:w.heap.size≤w0.heap.size:=Nat.le_trans hw.size h0.size;have hm:=qT wk bw v0 v1 vo v3 v4 v5 v6;refine⟨bw,v0,v1,vo,v3,v4,v5,v6,rfl,sT hbx,rfl,fun p hp=>?_,(((hw.trans (h0.mono hw.size)).trans (hbk.mono hs))).trans (hm.below hbc (Nat.le_trans hs hbk.size))⟩;have h:=ho p hp;refine⟨h.1,?_⟩;rcases h.2 with hn|⟨g,cap,cur,rfl,hbb,hg,r⟩
 ·exact .inl hn
 ·refine .inr ⟨g,cap,cur,rfl,Nat.le_trans hs hbb,?_,r⟩;exact(hm.block g (Array.getElem?_eq_some_iff.1 hg).1 (fun e=>by cases e;unfold aA at hbx;rw[hbx]at hg;simp at hg)).trans hg
def FK (w:World) (res:Option (List Int)) (e:Ending) (w':World):Prop:=Below w.heap.size w w'∧∃v,e=.returned (.tuple #[v,.bool res.isSome])∧∀p,res=some p→aH w' w.heap.size 3 .i64 v p
theorem qI (g n₀:Nat) (n:aG) (vb vout vps:Value) (first:Bool) (nm:ByteArray) (bad:Int) (fin:Bool) (o:Option Addr) (cap:Nat) (s:List Int) (w:World)
  (hb:aA w g 251 (cG n vb (.slice o s.length cap) vout vps first nm bad fin)) (hs:aM n₀ w (.slice o s.length cap) s) (hd:s.all bW=true) (hl:s.length≤140737488351232) (hn:jE n):
  Calls Tryz.prog 211 #[.pointer (some ⟨g,0,none⟩)] w (FK w (bV n s)):=by
 have HB:=Za hb;have HS:=Za hs;have c9:=hb.q 9 rfl;obtain⟨m,hm⟩:∃m,m=s.length:=⟨_,rfl⟩;by_cases h23:m=2∨m=3
 ·have HI:Hid (bV n s=cN n.size (eU n) n.pad s.tail):=Za (by rw[bV,if_pos (by omega)]);have c0:=hb.q 0 rfl;have c1:=hb.q 1 rfl;have c2:=hb.q 2 rfl;have c3:=hb.q 3 rfl;have c4:=hb.q 4 rfl;have c5:=hb.q 5 rfl;have c6:=hb.q 6 rfl;have c7:=hb.q 7 rfl;have c8:=hb.q 8 rfl;have hgl:=hb.lt;rw[←hm]at c9 HB HS;have HM:=Za hm;have hb1:(m != 2)=true∨(m != 2)=false:=by cases(m != 2)<;>simp
  clear hb hs hl hm;rcases h23 with rfl|rfl
  ·have HK:=Za (fun w=>rI n (eU n) vb o 2 cap w (.inl rfl) rfl);rw[qF]at HK;go_enter Tryz.func211,Tryz.ntmps211;go_wp2_with fail
   go_cut[4,5] (fun a b wx=>qC w wx 1 n a b)
   case first=>
    go_region_law(go_simp;go_at_call 212;refine(HK.o _).mono ?_;rintro e wk ⟨⟨v1,v2,v3,v4,rfl,hr1,hr2,hr3,hr4⟩,hbk⟩;obtain⟨a1,k1,rfl⟩:=aJ hr1;obtain⟨a2,k2,rfl⟩:=aJ hr2;obtain⟨a3,k3,rfl⟩:=aJ hr3;obtain⟨a4,k4,rfl⟩:=aJ hr4;first|(have hbx:=aA.next (show aA (w.alloc (.cells #[.slice none 0 0,.slice none 0 0,.slice none 0 0,.slice none 0 0] 254)).drew w.heap.size 254 #[.slice none 0 0,.slice none 0 0,.slice none 0 0,.slice none 0 0] from aA.new w _ _) hbk;have x0:=hbx.cell 0 rfl;have x1:=hbx.cell 1 rfl;have x2:=hbx.cell 2 rfl;have x3:=hbx.cell 3 rfl;have y0:=hbx.free 0;have y1:=hbx.free 1;have y2:=hbx.free 2;have y3:=hbx.free 3)|skip)
    all_goals(go_wp2_with fail;go_meet;first|(have hbx:=hbx;exact uD ((Zc _ _).alloc (Zb _) _).drew hbk hbx (Zb _) hr1 hr2 hr3 hr4)|exact tP (Zc _ _).drew hbk hr1 hr2 hr3 hr4)
   case rest=>
    obtain⟨bc,o1,o2,o3,o4,k1,k2,k3,k4,rfl,hbc,rfl,h1,h2,h3,h4,hbw⟩:=hcut;obtain⟨w1,rfl⟩:∃w1,w1=wc:=⟨_,rfl⟩;obtain⟨b,off,rfl,_⟩:=HS.o.1.cell 0 (by have:=HM.o;omega);have HT:=Za (show Rd w1 .i64 (.slice (some ⟨b,off+1,none⟩) 1 (cap-1)) s.tail from by have:=(BW (HS.o.1.below hbw (Zb _)) (c:=cap-1) (by have:=HM.o;omega));rw[←HM.o]at this;exact this);have HR:=Za (Zd (Rd.of_own h4) (Zd (Rd.of_own h1) (Zd (Rd.of_own h2) (Rd.of_own h3))));have HD:=Za (show ∀x∈s.tail,0≤x∧x≤4096 from fun x hx=>by have:=List.all_eq_true.1 hd x (List.mem_of_mem_tail hx);simp[bW]at this;omega);have HTL:=Za (show 1=s.tail.length by rw[List.length_tail,←HM.o]);have HBW:=Za hbw;have d0:=hbc.q 0 rfl;have d1:=hbc.q 1 rfl;have d2:=hbc.q 2 rfl;have d3:=hbc.q 3 rfl;have hcap:¬cap=1:=by have:=HS.o.2.2 _ _ _ rfl;omega
    have e9:w1.cell? ⟨g,9,none⟩=some (.slice (some ⟨b,off,none⟩) 2 cap):=(HB.o.next hbw).cell 9 rfl;have D0:∀o,(w1.alloc o).cell? ⟨bc,0,none⟩=some (.slice none 0 0):=fun o=>((Zc _ w1).alloc (Zb _) o).cell (p:=⟨bc,0,none⟩) (aP d0) |>.trans d0;have D1:∀o,(w1.alloc o).cell? ⟨bc,1,none⟩=some _:=fun o=>((Zc _ w1).alloc (Zb _) o).cell (p:=⟨bc,1,none⟩) (aP d1) |>.trans d1;have D2:∀o,(w1.alloc o).cell? ⟨bc,2,none⟩=some _:=fun o=>((Zc _ w1).alloc (Zb _) o).cell (p:=⟨bc,2,none⟩) (aP d2) |>.trans d2;have D3:∀o,(w1.alloc o).cell? ⟨bc,3,none⟩=some _:=fun o=>((Zc _ w1).alloc (Zb _) o).cell (p:=⟨bc,3,none⟩) (aP d3) |>.trans d3;have E9:∀o,(w1.alloc o).cell? ⟨g,9,none⟩=some _:=fun o=>((Zc _ w1).alloc (Zb _) o).cell (p:=⟨g,9,none⟩) (aP e9) |>.trans e9;clear hbc h1 h2 h3 h4 hbw HK;have HOV:=Za (fun(W:World) (hW:Below w1.heap.size w1 W)=>AD n.size (eU n) n.pad s.tail (some ⟨b,off+1,none⟩) o4 o1 o2 o3 (cap-1) k4 k1 k2 k3 1 W ⟨hn.s1,hn.s2⟩ ⟨hn.t1,hn.t2⟩ ⟨hn.p1,hn.p2⟩ HD.o HTL.o (by have:=HTL.o;omega) (HT.o.below hW (Zb _)) (HR.o.1.below hW (Zb _)) (HR.o.2.1.below hW (Zb _)) (HR.o.2.2.1.below hW (Zb _)) (HR.o.2.2.2.below hW (Zb _)));rw[←HI.o]at HOV;clear HT HR HD HTL;obtain⟨res,hres⟩:∃res,res=bV n s:=⟨_,rfl⟩;rw[←hres]at HOV;have HRES:=Za hres;clear hres HI;cases res with
    |none=>
     go_wp2_with fail
     go_cut[6,7] (fun a b wx=>nY w wx none a b)
     case first=>
      go_region_law(go_simp;go_at_call 215;refine(HOV.o _ (by first|exact((Zc _ _).alloc (Zb _) _).drew|exact(Zc _ _).drew)).mono ?_;rintro e wk ⟨hbk,rfl⟩;first|(have hbx:=aA.next (show aA (w1.alloc (.cells #[.slice none 0 0,.slice none 0 0,.slice none 0 0,.slice none 0 0,.slice none 0 0,.slice none 0 0,.slice none 0 0] 290)).drew w1.heap.size 290 #[.slice none 0 0,.slice none 0 0,.slice none 0 0,.slice none 0 0,.slice none 0 0,.slice none 0 0,.slice none 0 0] from aA.new w1 _ _) hbk;have x0:=hbx.cell 0 rfl;have x1:=hbx.cell 1 rfl;have x2:=hbx.cell 2 rfl;have x3:=hbx.cell 3 rfl;have x4:=hbx.cell 4 rfl;have x5:=hbx.cell 5 rfl;have x6:=hbx.cell 6 rfl;have y0:=hbx.free 0;have y1:=hbx.free 1;have y2:=hbx.free 2;have y3:=hbx.free 3;have y4:=hbx.free 4;have y5:=hbx.free 5;have y6:=hbx.free 6)|skip)
      all_goals(go_wp2_with fail;go_meet;first|(have hbx:=hbx;exact qU HBW.o ((Zc _ _).alloc (Zb _) _).drew hbk hbx HBW.o.size (fun p hp=>by cases hp))|exact sM HBW.o (Zc _ _).drew hbk (fun p hp=>by cases hp))
     case rest=>
      obtain⟨bw,v0,v1,vo,v3,v4,v5,v6,rfl,hbw,rfl,hown,hlow⟩:=hcut;have x2:=hbw.cell 2 rfl;go_wp2_with fail;refine bodyPost_ret (v:=.tuple #[vo,.bool false]) (by simp[results,Tryz.results211,go_sem]) rfl ?_;rw[←HRES.o];exact⟨hlow,_,rfl,fun p hp=>by cases hp⟩
    |some q=>
     go_wp2_with fail
     go_cut[6,7] (fun a b wx=>nY w wx (some q) a b)
     case first=>
      go_region_law(go_simp;go_at_call 215;refine(HOV.o _ (by first|exact((Zc _ _).alloc (Zb _) _).drew|exact(Zc _ _).drew)).mono ?_;rintro e wk ⟨hbk,a1,n1,c1,a2,n2,c2,a3,n3,c3,a4,n4,c4,a5,n5,c5,a6,n6,c6,a7,c7,rfl,hown⟩;first|(have hbx:=aA.next (show aA (w1.alloc (.cells #[.slice none 0 0,.slice none 0 0,.slice none 0 0,.slice none 0 0,.slice none 0 0,.slice none 0 0,.slice none 0 0] 290)).drew w1.heap.size 290 #[.slice none 0 0,.slice none 0 0,.slice none 0 0,.slice none 0 0,.slice none 0 0,.slice none 0 0,.slice none 0 0] from aA.new w1 _ _) hbk;have x0:=hbx.cell 0 rfl;have x1:=hbx.cell 1 rfl;have x2:=hbx.cell 2 rfl;have x3:=hbx.cell 3 rfl;have x4:=hbx.cell 4 rfl;have x5:=hbx.cell 5 rfl;have x6:=hbx.cell 6 rfl;have y0:=hbx.free 0;have y1:=hbx.free 1;have y2:=hbx.free 2;have y3:=hbx.free 3;have y4:=hbx.free 4;have y5:=hbx.free 5;have y6:=hbx.free 6)|skip)
      all_goals(go_wp2_with fail;go_meet;first|(have hbx:=hbx;exact qU HBW.o ((Zc _ _).alloc (Zb _) _).drew hbk hbx HBW.o.size (fun p hp=>by cases hp;exact hown))|exact sM HBW.o (Zc _ _).drew hbk (fun p hp=>by cases hp;exact hown))
     case rest=>
      obtain⟨bw,v0,v1,vo,v3,v4,v5,v6,rfl,hbw,rfl,hown,hlow⟩:=hcut;obtain⟨oo,co,rfl⟩:=aJ (hown q rfl);have x2:=hbw.cell 2 rfl;go_wp2_with fail;refine bodyPost_ret (v:=.tuple #[.slice oo q.length co,.bool true]) (by simp[results,Tryz.results211,go_sem]) rfl ?_;rw[←HRES.o];exact⟨hlow,_,rfl,hown⟩
  ·have HK:=Za (fun w=>rI n (eU n) vb o 3 cap w (.inr rfl) rfl);rw[qF]at HK;go_enter Tryz.func211,Tryz.ntmps211;go_wp2_with fail
   go_cut[4,5] (fun a b wx=>qC w wx 2 n a b)
   case first=>
    go_region_law(go_simp;go_at_call 212;refine(HK.o _).mono ?_;rintro e wk ⟨⟨v1,v2,v3,v4,rfl,hr1,hr2,hr3,hr4⟩,hbk⟩;obtain⟨a1,k1,rfl⟩:=aJ hr1;obtain⟨a2,k2,rfl⟩:=aJ hr2;obtain⟨a3,k3,rfl⟩:=aJ hr3;obtain⟨a4,k4,rfl⟩:=aJ hr4;first|(have hbx:=aA.next (show aA (w.alloc (.cells #[.slice none 0 0,.slice none 0 0,.slice none 0 0,.slice none 0 0] 254)).drew w.heap.size 254 #[.slice none 0 0,.slice none 0 0,.slice none 0 0,.slice none 0 0] from aA.new w _ _) hbk;have x0:=hbx.cell 0 rfl;have x1:=hbx.cell 1 rfl;have x2:=hbx.cell 2 rfl;have x3:=hbx.cell 3 rfl;have y0:=hbx.free 0;have y1:=hbx.free 1;have y2:=hbx.free 2;have y3:=hbx.free 3)|skip)
    all_goals(go_wp2_with fail;go_meet;first|(have hbx:=hbx;exact uD ((Zc _ _).alloc (Zb _) _).drew hbk hbx (Zb _) hr1 hr2 hr3 hr4)|exact tP (Zc _ _).drew hbk hr1 hr2 hr3 hr4)
   case rest=>
    obtain⟨bc,o1,o2,o3,o4,k1,k2,k3,k4,rfl,hbc,rfl,h1,h2,h3,h4,hbw⟩:=hcut;obtain⟨w1,rfl⟩:∃w1,w1=wc:=⟨_,rfl⟩;obtain⟨b,off,rfl,_⟩:=HS.o.1.cell 0 (by have:=HM.o;omega);have HT:=Za (show Rd w1 .i64 (.slice (some ⟨b,off+1,none⟩) 2 (cap-1)) s.tail from by have:=(BW (HS.o.1.below hbw (Zb _)) (c:=cap-1) (by have:=HM.o;omega));rw[←HM.o]at this;exact this);have HR:=Za (Zd (Rd.of_own h4) (Zd (Rd.of_own h1) (Zd (Rd.of_own h2) (Rd.of_own h3))));have HD:=Za (show ∀x∈s.tail,0≤x∧x≤4096 from fun x hx=>by have:=List.all_eq_true.1 hd x (List.mem_of_mem_tail hx);simp[bW]at this;omega);have HTL:=Za (show 2=s.tail.length by rw[List.length_tail,←HM.o]);have HBW:=Za hbw;have d0:=hbc.q 0 rfl;have d1:=hbc.q 1 rfl;have d2:=hbc.q 2 rfl;have d3:=hbc.q 3 rfl;have hcap:¬cap=1:=by have:=HS.o.2.2 _ _ _ rfl;omega
    have e9:w1.cell? ⟨g,9,none⟩=some (.slice (some ⟨b,off,none⟩) 3 cap):=(HB.o.next hbw).cell 9 rfl;have D0:∀o,(w1.alloc o).cell? ⟨bc,0,none⟩=some (.slice none 0 0):=fun o=>((Zc _ w1).alloc (Zb _) o).cell (p:=⟨bc,0,none⟩) (aP d0) |>.trans d0;have D1:∀o,(w1.alloc o).cell? ⟨bc,1,none⟩=some _:=fun o=>((Zc _ w1).alloc (Zb _) o).cell (p:=⟨bc,1,none⟩) (aP d1) |>.trans d1;have D2:∀o,(w1.alloc o).cell? ⟨bc,2,none⟩=some _:=fun o=>((Zc _ w1).alloc (Zb _) o).cell (p:=⟨bc,2,none⟩) (aP d2) |>.trans d2;have D3:∀o,(w1.alloc o).cell? ⟨bc,3,none⟩=some _:=fun o=>((Zc _ w1).alloc (Zb _) o).cell (p:=⟨bc,3,none⟩) (aP d3) |>.trans d3;have E9:∀o,(w1.alloc o).cell? ⟨g,9,none⟩=some _:=fun o=>((Zc _ w1).alloc (Zb _) o).cell (p:=⟨g,9,none⟩) (aP e9) |>.trans e9;clear hbc h1 h2 h3 h4 hbw HK;have HOV:=Za (fun(W:World) (hW:Below w1.heap.size w1 W)=>AD n.size (eU n) n.pad s.tail (some ⟨b,off+1,none⟩) o4 o1 o2 o3 (cap-1) k4 k1 k2 k3 2 W ⟨hn.s1,hn.s2⟩ ⟨hn.t1,hn.t2⟩ ⟨hn.p1,hn.p2⟩ HD.o HTL.o (by have:=HTL.o;omega) (HT.o.below hW (Zb _)) (HR.o.1.below hW (Zb _)) (HR.o.2.1.below hW (Zb _)) (HR.o.2.2.1.below hW (Zb _)) (HR.o.2.2.2.below hW (Zb _)));rw[←HI.o]at HOV;clear HT HR HD HTL;obtain⟨res,hres⟩:∃res,res=bV n s:=⟨_,rfl⟩;rw[←hres]at HOV;have HRES:=Za hres;clear hres HI;cases res with
    |none=>
     go_wp2_with fail
     go_cut[6,7] (fun a b wx=>nY w wx none a b)
     case first=>
      go_region_law(go_simp;go_at_call 215;first|(refine(HOV.o _ (show Below w1.heap.size w1 w1.drew from(Zc _ _).drew)).mono ?_;rintro e wk ⟨hbk,rfl⟩)|(refine(HOV.o _ (show Below w1.heap.size w1 (w1.alloc (.cells #[.slice none 0 0,.slice none 0 0,.slice none 0 0,.slice none 0 0,.slice none 0 0,.slice none 0 0,.slice none 0 0] 290)).drew from((Zc _ _).alloc (Zb _) _).drew)).mono ?_;rintro e wk ⟨hbk,rfl⟩;have hbx:=aA.next (show aA (w1.alloc (.cells #[.slice none 0 0,.slice none 0 0,.slice none 0 0,.slice none 0 0,.slice none 0 0,.slice none 0 0,.slice none 0 0] 290)).drew w1.heap.size 290 #[.slice none 0 0,.slice none 0 0,.slice none 0 0,.slice none 0 0,.slice none 0 0,.slice none 0 0,.slice none 0 0] from aA.new w1 _ _) hbk;have x0:=hbx.cell 0 rfl;have x1:=hbx.cell 1 rfl;have x2:=hbx.cell 2 rfl;have x3:=hbx.cell 3 rfl;have x4:=hbx.cell 4 rfl;have x5:=hbx.cell 5 rfl;have x6:=hbx.cell 6 rfl;have y0:=hbx.free 0;have y1:=hbx.free 1;have y2:=hbx.free 2;have y3:=hbx.free 3;have y4:=hbx.free 4;have y5:=hbx.free 5;have y6:=hbx.free 6))
      all_goals(go_wp2_with fail;go_meet;first|(have hbx:=hbx;exact qU HBW.o ((Zc _ _).alloc (Zb _) _).drew hbk hbx HBW.o.size (fun p hp=>by cases hp))|exact sM HBW.o (Zc _ _).drew hbk (fun p hp=>by cases hp))
     case rest=>
      obtain⟨bw,v0,v1,vo,v3,v4,v5,v6,rfl,hbw,rfl,hown,hlow⟩:=hcut;have x2:=hbw.cell 2 rfl;go_wp2_with fail;refine bodyPost_ret (v:=.tuple #[vo,.bool false]) (by simp[results,Tryz.results211,go_sem]) rfl ?_;rw[←HRES.o];exact⟨hlow,_,rfl,fun p hp=>by cases hp⟩
    |some q=>
     go_wp2_with fail
     go_cut[6,7] (fun a b wx=>nY w wx (some q) a b)
     case first=>
      go_region_law(go_simp;go_at_call 215;first|(refine(HOV.o _ (show Below w1.heap.size w1 w1.drew from(Zc _ _).drew)).mono ?_;rintro e wk ⟨hbk,a1,n1,c1,a2,n2,c2,a3,n3,c3,a4,n4,c4,a5,n5,c5,a6,n6,c6,a7,c7,rfl,hown⟩)|(refine(HOV.o _ (show Below w1.heap.size w1 (w1.alloc (.cells #[.slice none 0 0,.slice none 0 0,.slice none 0 0,.slice none 0 0,.slice none 0 0,.slice none 0 0,.slice none 0 0] 290)).drew from((Zc _ _).alloc (Zb _) _).drew)).mono ?_;rintro e wk ⟨hbk,a1,n1,c1,a2,n2,c2,a3,n3,c3,a4,n4,c4,a5,n5,c5,a6,n6,c6,a7,c7,rfl,hown⟩;have hbx:=aA.next (show aA (w1.alloc (.cells #[.slice none 0 0,.slice none 0 0,.slice none 0 0,.slice none 0 0,.slice none 0 0,.slice none 0 0,.slice none 0 0] 290)).drew w1.heap.size 290 #[.slice none 0 0,.slice none 0 0,.slice none 0 0,.slice none 0 0,.slice none 0 0,.slice none 0 0,.slice none 0 0] from aA.new w1 _ _) hbk;have x0:=hbx.cell 0 rfl;have x1:=hbx.cell 1 rfl;have x2:=hbx.cell 2 rfl;have x3:=hbx.cell 3 rfl;have x4:=hbx.cell 4 rfl;have x5:=hbx.cell 5 rfl;have x6:=hbx.cell 6 rfl;have y0:=hbx.free 0;have y1:=hbx.free 1;have y2:=hbx.free 2;have y3:=hbx.free 3;have y4:=hbx.free 4;have y5:=hbx.free 5;have y6:=hbx.free 6))
      all_goals(go_wp2_with fail;go_meet;first|(have hbx:=hbx;exact qU HBW.o ((Zc _ _).alloc (Zb _) _).drew hbk hbx HBW.o.size (fun p hp=>by cases hp;exact hown))|exact sM HBW.o (Zc _ _).drew hbk (fun p hp=>by cases hp;exact hown))
     case rest=>
      obtain⟨bw,v0,v1,vo,v3,v4,v5,v6,rfl,hbw,rfl,hown,hlow⟩:=hcut;obtain⟨oo,co,rfl⟩:=aJ (hown q rfl);have x2:=hbw.cell 2 rfl;go_wp2_with fail;refine bodyPost_ret (v:=.tuple #[.slice oo q.length co,.bool true]) (by simp[results,Tryz.results211,go_sem]) rfl ?_;rw[←HRES.o];exact⟨hlow,_,rfl,hown⟩
 ·have HN:Hid (bV n s=none):=Za (by rw[bV,if_neg (by omega)]);rw[hm]at h23;have n2:((s.length:Int) != 2)=true:=by rw[bne_iff_ne];omega
  have n3:((s.length:Int) != 3)=true:=by rw[bne_iff_ne];omega
  clear h23 hm;go_enter Tryz.func211,Tryz.ntmps211;go_wp2_with fail;refine bodyPost_ret (v:=.tuple #[.slice none 0 0,.bool false]) (by simp[results,Tryz.results211,go_sem]) rfl ?_;rw[HN.o];exact⟨Zc _ _,_,rfl,fun p hp=>by cases hp⟩
end Go.Proofs.YtjhkdocidcfpdaaGreatDoor
