/-
  A part of the proof of a law (packed by program).
-/
import Derived.Test.YtjhkdocidcfpdaaGreatDoorTM28
set_option linter.unusedVariables false
set_option linter.unusedSimpArgs false
set_option maxRecDepth 100000
set_option maxHeartbeats 16000000
namespace Go.Proofs.YtjhkdocidcfpdaaGreatDoor
open Go.RowKit Go.Shelf Go
theorem EC (n by_ nn:Int) (often:Nat) (w:World) (hnn:nn=often) (ho:often≤4):
  Calls Tryz.prog 185 #[.int .i64 n,.int .i64 by_,.int .i64 nn] w fun e w'=>(∃x,e=.returned (.int .i64 x))∧w=w':=by
 subst hnn;go_enter Tryz.func185,Tryz.ntmps185;go_wp2;go_loopw[0,7] (fun x i wr=>∃(k:Nat) (m:Int),k≤often∧i=.int .i64 k∧x=.int .i64 m∧Hid (wr=w)) (fun _ i _=>often-(intOf i).toNat)
 case atStart=>exact⟨0,n,Ze _,rfl,rfl,Za rfl⟩
 case round=>
  obtain⟨k,m,hk,rfl,rfl,HE⟩:=hrel;rw[HE.o];by_cases hlt:k<often
  ·by_cases hm2:m≤65536
   ·obtain⟨q,hq⟩:∃q,q=IntKind.i64.wrap (m*by_):=⟨_,rfl⟩;have hq':IntKind.i64.wrap (m*by_)=q:=hq.symm;clear hq;go_wp2;go_roundw
    case rel=>exact⟨k+1,q,by omega,by go_num,rfl,by first|exact Za trivial|exact Za rfl⟩
    case measure=>simp[intOf];omega
   ·go_wp2;go_ret;exact⟨⟨_,rfl⟩,rfl⟩
  ·obtain rfl:k=often:=by omega
   go_wp2;go_ret;exact⟨⟨_,rfl⟩,rfl⟩
theorem s9 {w w1 w2:World} {B:Nat} {u v u':Value} {xs ys:List Int} {x:Int} (hu:aH w B 3 .i64 u xs) (hv:aH w B 3 .i64 v ys) (hn:fD u v) (hb:Below w.heap.size w w1) (hB:B≤w.heap.size) (hg:w1.grownBy w2 u.ownBlock)
  (ho:w2.ownsRow B 3 1 u' (xs.length+1) (xs.map (Value.int .i64)++[.int .i64 x])) (hat:u'.ownBlock=u.ownBlock∨∃g,u'.ownBlock=some g∧w.heap.size≤g):aH w2 B 3 .i64 u' (xs++[x])∧aH w2 B 3 .i64 v ys∧fD u' v∧Below B w w2:=
 ⟨lL ho,rV hv hb hg hn,fun g h1 h2=>by
  rcases hat with e|⟨g',e,hge⟩
  ·rw[e]at h1;exact hn g h1 h2
  ·rw[e]at h1;cases h1;have:=yG hv h2;omega,(hb.mono hB).grown hg (by have:=hb.size;omega) (fun k hk=>(hu.lt k hk).1)⟩
theorem eE.cell {g n₀ lb:Nat} {n:aG} {vb vps:Value} {bad:Int} {qs:List PD} {vs:Value} {s:List Int} {w W:World} (h:eE g n₀ lb n vb vps bad qs vs s w W):W.cell? ⟨lb,1,none⟩=some (.int .i64 n.inn)∧W.cell? ⟨lb,2,none⟩=some (.int .i64 n.o)∧W.cell? ⟨lb,3,none⟩=some (.int .i64 n.size):=⟨h.lay.cell 1 rfl,h.lay.cell 2 rfl,h.lay.cell 3 rfl⟩
theorem AV (w:World) (x y z:Int) {W:World} (hW:W=(w.alloc (.cells #[.int .i64 x,.int .i64 y] 3)).alloc (.cells #[.int .i64 z] 3)):
  aH W w.heap.size 3 .i64 (.slice (some ⟨w.heap.size,0,none⟩) 2 2) ([x,y]++List.replicate 0 0)∧aH W w.heap.size 3 .i64 (.slice (some ⟨w.heap.size+1,0,none⟩) 1 1) ([z]++List.replicate 0 1)∧fD (.slice (some ⟨w.heap.size,0,none⟩) 2 2) (.slice (some ⟨w.heap.size+1,0,none⟩) 1 1)∧Below w.heap.size w W:=by have h1:=gY w x y;have h2:=fO (w.alloc (.cells #[.int .i64 x,.int .i64 y] 3)) z;rw[World.size_alloc]at h2;rw[hW];refine⟨cF h1 ((Zc _ _).alloc (Zb _) _) (Zb _),cD h2 (Nat.le_succ _),fun g h1 h2=>?_,((Zc _ _).alloc (Zb _) _).alloc (by simp) _⟩;simp[Value.ownBlock]at h1 h2;omega
theorem SN (g n₀:Nat) (n1 n2 n3 n4 n5 n6 n7:Int) (ob:Option Addr) (nb cb:Nat) (vps:Value) (first:Bool) (nm:ByteArray) (qs:List PD) (o:Option Addr) (m cap:Nat) (s:List Int) (w:World) (hwin:jE ⟨2,n1,n2,n3,n4,n5,n6,n7⟩)
  (h:fB g n₀ vps false qs (.slice o m cap) s w) (hm:m=s.length) (hnm:nm.size≤1000000):
  Calls Tryz.prog 165 #[.pointer (some ⟨g,0,none⟩),.agg #[.int .i64 2,.int .i64 n1,.int .i64 n2,.int .i64 n3,.int .i64 n4,.int .i64 n5,.int .i64 n6,.int .i64 n7,.slice ob nb cb],.slice o m cap,.string nm] w (bL g n₀ qs (aK ⟨2,n1,n2,n3,n4,n5,n6,n7⟩ first s) w):=by
 obtain⟨i0,hi,hz0,hz1,hz2⟩:=info_parts nC;obtain⟨W1,hW1⟩:∃W1,W1=w.alloc (.cells #[.int .i64 2,.int .i64 n1,.int .i64 n2,.int .i64 n3,.int .i64 n4,.int .i64 n5,.int .i64 n6,.int .i64 n7,.slice ob nb cb] 175):=⟨_,rfl⟩;have HA:=Za (h.box ⟨2,n1,n2,n3,n4,n5,n6,n7⟩ (.slice ob nb cb) hW1);have HW:=Za hW1;obtain⟨hs3,hsd,hsp⟩:=iN h.fit;have hm3:m≤3:=by omega
 have HSD:=Za (Zd hsd hsp);have HQ:=Za h.hq;have HM:=Za hm;have HWIN:=Za hwin;have hl2':¬9223372036854775807<nm.size+2:=by omega
 clear h hW1 hsd hsp hs3 hm hwin;have a0:=HA.o.lay.q 0 rfl;have a1:=HA.o.lay.q 1 rfl;have a2:=HA.o.lay.q 2 rfl;have a3:=HA.o.lay.q 3 rfl;have a4:=HA.o.lay.q 4 rfl;have a5:=HA.o.lay.q 5 rfl;have a6:=HA.o.lay.q 6 rfl;have a7:=HA.o.lay.q 7 rfl;have a8:=HA.o.lay.q 8 rfl;have x2:=HA.o.wk.q 2 rfl;have f2:=HA.o.wk.free 2;go_enter Tryz.func165,Tryz.ntmps165;go_upto_region 1 with(fail);rw[←HW.o];have HST:=Za (show eU ⟨2,n1,n2,n3,n4,n5,n6,n7⟩=n4 by rw[eU,if_pos rfl]);have hm4:m=0∨m=1∨m=2∨m=3:=by omega
 rcases hm4 with rfl|rfl|rfl|rfl
 ·have HN:=Za (show aK ⟨2,n1,n2,n3,n4,n5,n6,n7⟩ first s=none by rw[mY rfl,bV,if_neg (by have:=HM.o;omega)]);go_wp2_with fail;go_quiet(fail);go_wp2_with fail;go_ret;exact bL.no ((HA.o.next (eV _)).bad 2) (by decide) HN.o (by omega) none 0 0
 ·have HN:=Za (show aK ⟨2,n1,n2,n3,n4,n5,n6,n7⟩ first s=none by rw[mY rfl,bV,if_neg (by have:=HM.o;omega)]);go_wp2_with fail;go_quiet(fail);go_wp2_with fail;go_ret;exact bL.no ((HA.o.next (eV _)).bad 2) (by decide) HN.o (by omega) none 0 0
 ·obtain⟨x0,x1,rfl⟩:=pN HM.o.symm;obtain⟨b,off,rfl,hc⟩:=HA.o.sh.1.cell 0 (by simp);simp only[Nat.add_zero,aE,List.getD_cons_zero]at hc;by_cases hxn:x0=n1
  ·subst hxn;obtain⟨res,hres⟩:∃res,res=cN n3 n4 n5 [x1]:=⟨_,rfl⟩;have he:bV ⟨2,x0,n2,n3,n4,n5,n6,n7⟩ [x0,x1]=res:=by rw[bV,if_pos (by simp),HST.o,hres];rfl
   have HD:=Za (show(res=none→aK ⟨2,x0,n2,n3,n4,n5,n6,n7⟩ first [x0,x1]=none)∧∀p,res=some p→aK ⟨2,x0,n2,n3,n4,n5,n6,n7⟩ first [x0,x1]=some (n2::p,[[n2,x0]++List.replicate 1 n3,[n2]++List.replicate 1 1])from⟨fun h=>by rw[mY rfl,he,h],fun p h=>by rw[mY rfl,he,h];exact if_pos rfl⟩);clear he;have HPL:=Za (fun(W:World) (o1 o2 o3 o4:Option Addr) (c1 c2 c3 c4:Nat) h0 h1 h2 h3 h4=>show Calls Tryz.prog 183 #[.slice (some ⟨b,off,none⟩) 2 cap,.agg #[.slice o1 1 c1,.slice o2 1 c2,.slice o3 1 c3,.slice o4 1 c4]] W (pD W res) by
    rw[hres];exact sH n3 n4 n5 x0 [x1] (some ⟨b,off,none⟩) o1 o2 o3 o4 cap c1 c2 c3 c4 1 2 W ⟨HWIN.o.s1,HWIN.o.s2⟩ ⟨HWIN.o.t1,HWIN.o.t2⟩ ⟨HWIN.o.p1,HWIN.o.p2⟩ (sF HSD.o.1) rfl rfl (by simp) h0 h1 h2 h3 h4)
   have HLN:=Za (show ∀ys,res=some ys→ys.length=1 from fun ys h=>by rw[hres]at h;exact lU h);clear hres;go_wp2_with fail;go_quiet(fail);obtain⟨V,hV⟩:∃V,V=W1.drewN nq:=⟨_,rfl⟩;have HV:=Za (show eE g n₀ w.heap.size ⟨2,x0,n2,n3,n4,n5,n6,n7⟩ (.slice ob nb cb) vps 0 qs (.slice (some ⟨b,off,none⟩) 2 cap) [x0,x1] w V by rw[hV];exact HA.o.next (eV _));rw[←hV];clear hV hc x2 f2 a0 a1 a2 a3 a4 a5 a6 a7 a8 HA;have a0:=HV.o.lay.q 0 rfl;have a3:=HV.o.lay.q 3 rfl;have a4:=HV.o.lay.q 4 rfl;have a5:=HV.o.lay.q 5 rfl;cases res with
   |none=>
    go_wp2_with(first
     |(go_at_call 184;refine(mJ _ _ _ _ 1 _ rfl (by omega)).mono ?_;rintro e w2 ⟨⟨o1,c1,o2,c2,o3,c3,o4,c4,rfl,r1,r2,r3,r4⟩,hb2⟩;have HR:=Za (Zd r1 (Zd r2 (Zd r3 r4)));have HA2:=Za (HV.o.next hb2);clear r1 r2 r3 r4 hb2)
     |(go_at_call 183;refine(HPL.o _ _ _ _ _ _ _ _ _ HA2.o.sh.1 HR.o.1 HR.o.2.1 HR.o.2.2.1 HR.o.2.2.2).mono ?_;rintro e w3 ⟨hb3,rfl⟩;have HA3:=Za (HA2.o.next hb3);clear hb3;refine aD ?_))
    clear a0 a3 a4 a5;have x2:=HA3.o.wk.q 2 rfl;have f2:=HA3.o.wk.free 2;refine aC ?_;go_wp2_with fail;go_ret;exact bL.no (HA3.o.bad 2) (by decide) (HD.o.1 (by trivial)) (by omega) none 0 0
   |some ys=>
    go_wp2_with(first
     |(go_at_call 184;refine(mJ _ _ _ _ 1 _ rfl (by omega)).mono ?_;rintro e w2 ⟨⟨o1,c1,o2,c2,o3,c3,o4,c4,rfl,r1,r2,r3,r4⟩,hb2⟩;have HR:=Za (Zd r1 (Zd r2 (Zd r3 r4)));have HA2:=Za (HV.o.next hb2);clear r1 r2 r3 r4 hb2)
     |(go_at_call 183;refine(HPL.o _ _ _ _ _ _ _ _ _ HA2.o.sh.1 HR.o.1 HR.o.2.1 HR.o.2.2.1 HR.o.2.2.2).mono ?_;rintro e w3 ⟨hb3,v3,rfl,ho3⟩;have HA3:=Za (HA2.o.next hb3);have HO3:=Za ho3;obtain⟨o9,c9,rfl⟩:=aJ ho3;clear hb3 ho3;refine aD ?_))
    clear a0 a3 a4 a5;have a0:=HA3.o.lay.q 0 rfl;have a1:=HA3.o.lay.q 1 rfl;have a2:=HA3.o.lay.q 2 rfl;have A2:∀o,(w3.alloc o).cell? ⟨w.heap.size,2,none⟩=some (.int .i64 n2):=HA3.o.lay.cellA 2 rfl;obtain⟨V2,hV2⟩:∃V2,V2=(w3.alloc (.cells #[.int .i64 n2,.int .i64 x0] 3)).alloc (.cells #[.int .i64 n2] 3):=⟨_,rfl⟩;have HR2:=Za (AV w3 n2 x0 n2 hV2);have HV2:=Za hV2;clear hV2;refine aC ?_;go_wp2_with fail;rw[←HV2.o];clear a0 a1 a2 A2;go_loopw[13,14,15] (fun u v i wr=>∃k:Nat,k≤1∧i=.int .i64 k∧Hid (∃a c,u=.slice a (2+k) c)∧Hid (∃a c,v=.slice a (1+k) c)∧Hid (aH wr w3.heap.size 3 .i64 u ([n2,x0]++List.replicate k n3)∧aH wr w3.heap.size 3 .i64 v ([n2]++List.replicate k 1)∧fD u v∧Below w3.heap.size w3 wr)) (fun _ _ i _=>1-(intOf i).toNat)
    case atStart=>exact⟨0,by omega,rfl,Za ⟨_,_,rfl⟩,Za ⟨_,_,rfl⟩,HR2⟩
    case round=>
     obtain⟨k,hk,rfl,HU,HV9,HP⟩:=hrel;obtain⟨w4,rfl⟩:∃w4,w4=wr:=⟨_,rfl⟩;obtain⟨au,cu,hu⟩:=HU.o;obtain⟨av,cv,hv⟩:=HV9.o;subst hu hv;have HA4:=Za (HA3.o.next HP.o.2.2.2);by_cases hlt:k<1
     ·have a3:=HA4.o.lay.q 3 rfl;have hlu:([n2,x0]++List.replicate k n3).length=2+k:=by simp;omega
      have hlv:([n2]++List.replicate k (1:Int)).length=1+k:=by simp;omega
      have HO1:=Za (show w4.ownsRow w3.heap.size 3 1 (.slice au (2+k) cu) (2+k) (([n2,x0]++List.replicate k n3).map (.int .i64)) by have:=HP.o.1;unfold aH at this;rwa [hlu]at this);have HSZ:=Za HP.o.2.2.2.size;have HLU:=Za (Zd hlu hlv);clear hlu hlv;go_wp2_with(at_builtin;refine wpList_append_own_at _ rfl _ _ 30 rfl w3.heap.size 3 i0 (.int .i64 0) 1 8 Tryz.underlying30 hi hz0 hz1 hz2 rfl (by decide) _ _ _ rfl (HO1.o.alloc _) ⟨w4.heap.size,0,none⟩ 1 1 [.int .i64 n3] rfl rfl (cell_one_new _ _ _) (by simp[Value.oneCell']) (by unfold maxLen;omega) (by omega) (by have:=HSZ.o;simp;omega) ?_;intro u5 w5 hown5 hgrow5 _ hob5;have HF:=Za (s9 (x:=n3) HP.o.1 HP.o.2.1 HP.o.2.2.1 ((Zc _ _).alloc (Zb _) _) HSZ.o hgrow5 (by rw[HLU.o.1];exact hown5) (hob5.imp id (fun e=>⟨_,e,by simp⟩)));obtain⟨a5,c5,rfl⟩:=aJ hown5;clear hown5 hgrow5 hob5;refine aD ?_);have HB5:=Za (HP.o.2.2.2.trans HF.o.2.2.2);have HO2:=Za (show w5.ownsRow w3.heap.size 3 1 (.slice av (1+k) cv) (1+k) (([n2]++List.replicate k 1).map (.int .i64)) by have:=HF.o.2.1;unfold aH at this;rwa [HLU.o.2]at this);have HSZ5:=Za HB5.o.size;clear a3;refine aC ?_;go_wp2_with(at_builtin;refine wpList_append_own_at _ rfl _ _ 30 rfl w3.heap.size 3 i0 (.int .i64 0) 1 8 Tryz.underlying30 hi hz0 hz1 hz2 rfl (by decide) _ _ _ rfl (HO2.o.alloc _) ⟨w5.heap.size,0,none⟩ 1 1 [.int .i64 1] rfl rfl (cell_one_new _ _ _) (by simp[Value.oneCell']) (by unfold maxLen;omega) (by omega) (by have:=HSZ5.o;simp;omega) ?_;intro u6 w6 hown6 hgrow6 _ hob6;have HF6:=Za (s9 (x:=1) HF.o.2.1 HF.o.1 HF.o.2.2.1.symm ((Zc _ _).alloc (Zb _) _) HSZ5.o hgrow6 (by rw[HLU.o.2];exact hown6) (hob6.imp id (fun e=>⟨_,e,by simp⟩)));obtain⟨a6,c6,rfl⟩:=aJ hown6;clear hown6 hgrow6 hob6;refine aD ?_);have HN6:=Za (show aH w6 w3.heap.size 3 .i64 (.slice a5 (2+k+1) c5) ([n2,x0]++List.replicate (k+1) n3)∧aH w6 w3.heap.size 3 .i64 (.slice a6 (1+k+1) c6) ([n2]++List.replicate (k+1) 1)∧fD (.slice a5 (2+k+1) c5) (.slice a6 (1+k+1) c6)∧Below w3.heap.size w3 w6 by
       have h1:=HF6.o.2.1;have h2:=HF6.o.1;rw[List.append_assoc,pA]at h1 h2;exact⟨h1,h2,HF6.o.2.2.1.symm,HB5.o.trans HF6.o.2.2.2⟩)
      refine aC ?_;go_wp2_with fail;go_roundw
      case rel=>exact⟨k+1,by omega,by go_num,Za ⟨_,_,rfl⟩,Za ⟨_,_,rfl⟩,HN6⟩
      case measure=>simp[intOf];omega
     ·obtain rfl:k=1:=by omega
      have a1:=HA4.o.lay.q 1 rfl;have a2:=HA4.o.lay.q 2 rfl;have a3:=HA4.o.lay.q 3 rfl;have HX:=Za (show Below w4.heap.size w4 w4.drew from Below.drew (Zc _ _));go_wp2_with fail;go_region_held3 (fun w'=>w'.cell? ⟨w.heap.size,1,none⟩=some (.int .i64 x0)∧w'.cell? ⟨w.heap.size,2,none⟩=some (.int .i64 n2)∧w'.cell? ⟨w.heap.size,3,none⟩=some (.int .i64 n3))
       (first|with_reducible exact HCC.o|exact(HA4.o.next HX.o).cell)
       (first
       |(go_at_call 185;refine(EC _ _ _ 1 _ rfl (by omega)).mono ?_;rintro e wy ⟨⟨tt,rfl⟩,hwy⟩;subst hwy)
       |(go_at_call 164;refine(kM g n₀ vps false 0 _ qs _ _ _ _ _ ([n2,x0]++List.replicate 1 n3) _ (HA4.o.next HX.o).wk (HA4.o.next HX.o).row (by have:=HQ.o;omega) HA4.o.hn rfl ((aM.of_own HP.o.1).below HX.o) (by simp)).mono ?_;rintro e w5 ⟨rfl,⟨vps5,q5,hb5,hr5,hq5⟩,hs5⟩;have HA5:=Za ((HA4.o.next HX.o).par hs5 hb5 hr5);have HQ5:=Za hq5;have HRV:=Za (Zd (((aM.of_own (n₀:=n₀) HP.o.2.1).below HX.o).keepR hs5 HA4.o.hn) (((((aM.of_own (n₀:=n₀) HO3.o).below HP.o.2.2.2).below HX.o)).keepR hs5 HA4.o.hn));have HCC:=Za (show w5.cell? ⟨w.heap.size,1,none⟩=some (.int .i64 x0)∧w5.cell? ⟨w.heap.size,2,none⟩=some (.int .i64 n2)∧w5.cell? ⟨w.heap.size,3,none⟩=some (.int .i64 n3)from HA5.o.cell);clear hs5 hb5 hr5 hq5))
      clear a1 a2 a3;go_wp2_with(go_at_call 164;refine(kM g n₀ vps5 false _ (nm++{data:=#[46,98]}) (qs++[q5]) 0 0 av 2 cv ([n2]++List.replicate 1 1) w5 HA5.o.wk HA5.o.row (by have:=HQ.o;simp;omega) HA5.o.hn rfl HRV.o.1 (by simp)).mono ?_;rintro e w6 ⟨rfl,⟨vps6,q6,hb6,hr6,hq6⟩,hs6⟩;have HA6:=Za (HA5.o.par hs6 hb6 hr6);have HQ6:=Za hq6;have HRP:=Za (HRV.o.2.keepR hs6 HA5.o.hn);clear hs6 hb6 hr6 hq6;refine aD ?_);have a2:=HA6.o.lay.q 2 rfl;have HOW:=Za (fO w6 n2);have HYL:=Za (show [n2].length+ys.length≤maxLen∧([n2].length+ys.length)*8≤140737488355328 by have:=HLN.o ys rfl;rw[this];unfold maxLen;simp);refine aC ?_;go_wp2_with(at_builtin;refine kI rfl _ _ 30 rfl w6.heap.size 3 .i64 i0 8 Tryz.underlying30 hi hz0 hz1 hz2 _ [n2] rfl HOW.o _ ys rfl (HRP.o.1.alloc _) HYL.o.1 HYL.o.2 (by simp) ?_;intro v7 w7 hown7 hg7 _;have HO7:=Za hown7;have HB7:=Za (((Zc _ _).alloc (Zb _) _).grown hg7 (by simp) (fun k hk=>(HOW.o.lt k hk).1));obtain⟨o7,c7,rfl⟩:=aJ hown7;clear hown7 hg7);go_ret;refine bL.yes (HA6.o.next HB7.o) (HD.o.2 _ rfl) ?_ ?_ (by simp) (aM.of_own HO7.o)
      ·rw[qB,qA];simp
      ·simp[HQ5.o,HQ6.o]
  ·have hxn2:(x0 != n1)=true:=by simpa using hxn
   have HN:=Za (show aK ⟨2,n1,n2,n3,n4,n5,n6,n7⟩ first [x0,x1]=none by
    rw[mY rfl];cases bV ⟨2,n1,n2,n3,n4,n5,n6,n7⟩ [x0,x1]with
    |none=>rfl
    |some p=>exact if_neg hxn)
   go_wp2_with fail;go_quiet(fail);go_wp2_with fail;go_ret;exact bL.no ((HA.o.next (eV _)).bad 2) (by decide) HN.o (by omega) none 0 0
 ·obtain⟨x0,x1,x9,rfl⟩:=AK HM.o.symm;obtain⟨b,off,rfl,hc⟩:=HA.o.sh.1.cell 0 (by simp);simp only[Nat.add_zero,aE,List.getD_cons_zero]at hc;by_cases hxn:x0=n1
  ·subst hxn;obtain⟨res,hres⟩:∃res,res=cN n3 n4 n5 [x1,x9]:=⟨_,rfl⟩;have he:bV ⟨2,x0,n2,n3,n4,n5,n6,n7⟩ [x0,x1,x9]=res:=by rw[bV,if_pos (by simp),HST.o,hres];rfl
   have HD:=Za (show(res=none→aK ⟨2,x0,n2,n3,n4,n5,n6,n7⟩ first [x0,x1,x9]=none)∧∀p,res=some p→aK ⟨2,x0,n2,n3,n4,n5,n6,n7⟩ first [x0,x1,x9]=some (n2::p,[[n2,x0]++List.replicate 2 n3,[n2]++List.replicate 2 1])from⟨fun h=>by rw[mY rfl,he,h],fun p h=>by rw[mY rfl,he,h];exact if_pos rfl⟩);clear he;have HPL:=Za (fun(W:World) (o1 o2 o3 o4:Option Addr) (c1 c2 c3 c4:Nat) h0 h1 h2 h3 h4=>show Calls Tryz.prog 183 #[.slice (some ⟨b,off,none⟩) 3 cap,.agg #[.slice o1 2 c1,.slice o2 2 c2,.slice o3 2 c3,.slice o4 2 c4]] W (pD W res) by
    rw[hres];exact sH n3 n4 n5 x0 [x1,x9] (some ⟨b,off,none⟩) o1 o2 o3 o4 cap c1 c2 c3 c4 2 3 W ⟨HWIN.o.s1,HWIN.o.s2⟩ ⟨HWIN.o.t1,HWIN.o.t2⟩ ⟨HWIN.o.p1,HWIN.o.p2⟩ (sF HSD.o.1) rfl rfl (by simp) h0 h1 h2 h3 h4)
   have HLN:=Za (show ∀ys,res=some ys→ys.length=2 from fun ys h=>by rw[hres]at h;exact lU h);clear hres;go_wp2_with fail;go_quiet(fail);obtain⟨V,hV⟩:∃V,V=W1.drewN nq:=⟨_,rfl⟩;have HV:=Za (show eE g n₀ w.heap.size ⟨2,x0,n2,n3,n4,n5,n6,n7⟩ (.slice ob nb cb) vps 0 qs (.slice (some ⟨b,off,none⟩) 3 cap) [x0,x1,x9] w V by rw[hV];exact HA.o.next (eV _));rw[←hV];clear hV hc x2 f2 a0 a1 a2 a3 a4 a5 a6 a7 a8 HA;have a0:=HV.o.lay.q 0 rfl;have a3:=HV.o.lay.q 3 rfl;have a4:=HV.o.lay.q 4 rfl;have a5:=HV.o.lay.q 5 rfl;cases res with
   |none=>
    go_wp2_with(first
     |(go_at_call 184;refine(mJ _ _ _ _ 2 _ rfl (by omega)).mono ?_;rintro e w2 ⟨⟨o1,c1,o2,c2,o3,c3,o4,c4,rfl,r1,r2,r3,r4⟩,hb2⟩;have HR:=Za (Zd r1 (Zd r2 (Zd r3 r4)));have HA2:=Za (HV.o.next hb2);clear r1 r2 r3 r4 hb2)
     |(go_at_call 183;refine(HPL.o _ _ _ _ _ _ _ _ _ HA2.o.sh.1 HR.o.1 HR.o.2.1 HR.o.2.2.1 HR.o.2.2.2).mono ?_;rintro e w3 ⟨hb3,rfl⟩;have HA3:=Za (HA2.o.next hb3);clear hb3;refine aD ?_))
    clear a0 a3 a4 a5;have x2:=HA3.o.wk.q 2 rfl;have f2:=HA3.o.wk.free 2;refine aC ?_;go_wp2_with fail;go_ret;exact bL.no (HA3.o.bad 2) (by decide) (HD.o.1 (by trivial)) (by omega) none 0 0
   |some ys=>
    go_wp2_with(first
     |(go_at_call 184;refine(mJ _ _ _ _ 2 _ rfl (by omega)).mono ?_;rintro e w2 ⟨⟨o1,c1,o2,c2,o3,c3,o4,c4,rfl,r1,r2,r3,r4⟩,hb2⟩;have HR:=Za (Zd r1 (Zd r2 (Zd r3 r4)));have HA2:=Za (HV.o.next hb2);clear r1 r2 r3 r4 hb2)
     |(go_at_call 183;refine(HPL.o _ _ _ _ _ _ _ _ _ HA2.o.sh.1 HR.o.1 HR.o.2.1 HR.o.2.2.1 HR.o.2.2.2).mono ?_;rintro e w3 ⟨hb3,v3,rfl,ho3⟩;have HA3:=Za (HA2.o.next hb3);have HO3:=Za ho3;obtain⟨o9,c9,rfl⟩:=aJ ho3;clear hb3 ho3;refine aD ?_))
    clear a0 a3 a4 a5;have a0:=HA3.o.lay.q 0 rfl;have a1:=HA3.o.lay.q 1 rfl;have a2:=HA3.o.lay.q 2 rfl;have A2:∀o,(w3.alloc o).cell? ⟨w.heap.size,2,none⟩=some (.int .i64 n2):=HA3.o.lay.cellA 2 rfl;obtain⟨V2,hV2⟩:∃V2,V2=(w3.alloc (.cells #[.int .i64 n2,.int .i64 x0] 3)).alloc (.cells #[.int .i64 n2] 3):=⟨_,rfl⟩;have HR2:=Za (AV w3 n2 x0 n2 hV2);have HV2:=Za hV2;clear hV2;refine aC ?_;go_wp2_with fail;rw[←HV2.o];clear a0 a1 a2 A2;go_loopw[13,14,15] (fun u v i wr=>∃k:Nat,k≤2∧i=.int .i64 k∧Hid (∃a c,u=.slice a (2+k) c)∧Hid (∃a c,v=.slice a (1+k) c)∧Hid (aH wr w3.heap.size 3 .i64 u ([n2,x0]++List.replicate k n3)∧aH wr w3.heap.size 3 .i64 v ([n2]++List.replicate k 1)∧fD u v∧Below w3.heap.size w3 wr)) (fun _ _ i _=>2-(intOf i).toNat)
    case atStart=>exact⟨0,by omega,rfl,Za ⟨_,_,rfl⟩,Za ⟨_,_,rfl⟩,HR2⟩
    case round=>
     obtain⟨k,hk,rfl,HU,HV9,HP⟩:=hrel;obtain⟨w4,rfl⟩:∃w4,w4=wr:=⟨_,rfl⟩;obtain⟨au,cu,hu⟩:=HU.o;obtain⟨av,cv,hv⟩:=HV9.o;subst hu hv;have HA4:=Za (HA3.o.next HP.o.2.2.2);by_cases hlt:k<2
     ·have a3:=HA4.o.lay.q 3 rfl;have hlu:([n2,x0]++List.replicate k n3).length=2+k:=by simp;omega
      have hlv:([n2]++List.replicate k (1:Int)).length=1+k:=by simp;omega
      have HO1:=Za (show w4.ownsRow w3.heap.size 3 1 (.slice au (2+k) cu) (2+k) (([n2,x0]++List.replicate k n3).map (.int .i64)) by have:=HP.o.1;unfold aH at this;rwa [hlu]at this);have HSZ:=Za HP.o.2.2.2.size;have HLU:=Za (Zd hlu hlv);clear hlu hlv;go_wp2_with(at_builtin;refine wpList_append_own_at _ rfl _ _ 30 rfl w3.heap.size 3 i0 (.int .i64 0) 1 8 Tryz.underlying30 hi hz0 hz1 hz2 rfl (by decide) _ _ _ rfl (HO1.o.alloc _) ⟨w4.heap.size,0,none⟩ 1 1 [.int .i64 n3] rfl rfl (cell_one_new _ _ _) (by simp[Value.oneCell']) (by unfold maxLen;omega) (by omega) (by have:=HSZ.o;simp;omega) ?_;intro u5 w5 hown5 hgrow5 _ hob5;have HF:=Za (s9 (x:=n3) HP.o.1 HP.o.2.1 HP.o.2.2.1 ((Zc _ _).alloc (Zb _) _) HSZ.o hgrow5 (by rw[HLU.o.1];exact hown5) (hob5.imp id (fun e=>⟨_,e,by simp⟩)));obtain⟨a5,c5,rfl⟩:=aJ hown5;clear hown5 hgrow5 hob5;refine aD ?_);have HB5:=Za (HP.o.2.2.2.trans HF.o.2.2.2);have HO2:=Za (show w5.ownsRow w3.heap.size 3 1 (.slice av (1+k) cv) (1+k) (([n2]++List.replicate k 1).map (.int .i64)) by have:=HF.o.2.1;unfold aH at this;rwa [HLU.o.2]at this);have HSZ5:=Za HB5.o.size;clear a3;refine aC ?_;go_wp2_with(at_builtin;refine wpList_append_own_at _ rfl _ _ 30 rfl w3.heap.size 3 i0 (.int .i64 0) 1 8 Tryz.underlying30 hi hz0 hz1 hz2 rfl (by decide) _ _ _ rfl (HO2.o.alloc _) ⟨w5.heap.size,0,none⟩ 1 1 [.int .i64 1] rfl rfl (cell_one_new _ _ _) (by simp[Value.oneCell']) (by unfold maxLen;omega) (by omega) (by have:=HSZ5.o;simp;omega) ?_;intro u6 w6 hown6 hgrow6 _ hob6;have HF6:=Za (s9 (x:=1) HF.o.2.1 HF.o.1 HF.o.2.2.1.symm ((Zc _ _).alloc (Zb _) _) HSZ5.o hgrow6 (by rw[HLU.o.2];exact hown6) (hob6.imp id (fun e=>⟨_,e,by simp⟩)));obtain⟨a6,c6,rfl⟩:=aJ hown6;clear hown6 hgrow6 hob6;refine aD ?_);have HN6:=Za (show aH w6 w3.heap.size 3 .i64 (.slice a5 (2+k+1) c5) ([n2,x0]++List.replicate (k+1) n3)∧aH w6 w3.heap.size 3 .i64 (.slice a6 (1+k+1) c6) ([n2]++List.replicate (k+1) 1)∧fD (.slice a5 (2+k+1) c5) (.slice a6 (1+k+1) c6)∧Below w3.heap.size w3 w6 by
       have h1:=HF6.o.2.1;have h2:=HF6.o.1;rw[List.append_assoc,pA]at h1 h2;exact⟨h1,h2,HF6.o.2.2.1.symm,HB5.o.trans HF6.o.2.2.2⟩)
      refine aC ?_;go_wp2_with fail;go_roundw
      case rel=>exact⟨k+1,by omega,by go_num,Za ⟨_,_,rfl⟩,Za ⟨_,_,rfl⟩,HN6⟩
      case measure=>simp[intOf];omega
     ·obtain rfl:k=2:=by omega
      have a1:=HA4.o.lay.q 1 rfl;have a2:=HA4.o.lay.q 2 rfl;have a3:=HA4.o.lay.q 3 rfl;have HX:=Za (show Below w4.heap.size w4 w4.drew from Below.drew (Zc _ _));go_wp2_with fail;go_region_held3 (fun w'=>w'.cell? ⟨w.heap.size,1,none⟩=some (.int .i64 x0)∧w'.cell? ⟨w.heap.size,2,none⟩=some (.int .i64 n2)∧w'.cell? ⟨w.heap.size,3,none⟩=some (.int .i64 n3))
       (first|with_reducible exact HCC.o|exact(HA4.o.next HX.o).cell)
       (first
       |(go_at_call 185;refine(EC _ _ _ 2 _ rfl (by omega)).mono ?_;rintro e wy ⟨⟨tt,rfl⟩,hwy⟩;subst hwy)
       |(go_at_call 164;refine(kM g n₀ vps false 0 _ qs _ _ _ _ _ ([n2,x0]++List.replicate 2 n3) _ (HA4.o.next HX.o).wk (HA4.o.next HX.o).row (by have:=HQ.o;omega) HA4.o.hn rfl ((aM.of_own HP.o.1).below HX.o) (by simp)).mono ?_;rintro e w5 ⟨rfl,⟨vps5,q5,hb5,hr5,hq5⟩,hs5⟩;have HA5:=Za ((HA4.o.next HX.o).par hs5 hb5 hr5);have HQ5:=Za hq5;have HRV:=Za (Zd (((aM.of_own (n₀:=n₀) HP.o.2.1).below HX.o).keepR hs5 HA4.o.hn) (((((aM.of_own (n₀:=n₀) HO3.o).below HP.o.2.2.2).below HX.o)).keepR hs5 HA4.o.hn));have HCC:=Za (show w5.cell? ⟨w.heap.size,1,none⟩=some (.int .i64 x0)∧w5.cell? ⟨w.heap.size,2,none⟩=some (.int .i64 n2)∧w5.cell? ⟨w.heap.size,3,none⟩=some (.int .i64 n3)from HA5.o.cell);clear hs5 hb5 hr5 hq5))
      clear a1 a2 a3;go_wp2_with(go_at_call 164;refine(kM g n₀ vps5 false _ (nm++{data:=#[46,98]}) (qs++[q5]) 0 0 av 3 cv ([n2]++List.replicate 2 1) w5 HA5.o.wk HA5.o.row (by have:=HQ.o;simp;omega) HA5.o.hn rfl HRV.o.1 (by simp)).mono ?_;rintro e w6 ⟨rfl,⟨vps6,q6,hb6,hr6,hq6⟩,hs6⟩;have HA6:=Za (HA5.o.par hs6 hb6 hr6);have HQ6:=Za hq6;have HRP:=Za (HRV.o.2.keepR hs6 HA5.o.hn);clear hs6 hb6 hr6 hq6;refine aD ?_);have a2:=HA6.o.lay.q 2 rfl;have HOW:=Za (fO w6 n2);have HYL:=Za (show [n2].length+ys.length≤maxLen∧([n2].length+ys.length)*8≤140737488355328 by have:=HLN.o ys rfl;rw[this];unfold maxLen;simp);refine aC ?_;go_wp2_with(at_builtin;refine kI rfl _ _ 30 rfl w6.heap.size 3 .i64 i0 8 Tryz.underlying30 hi hz0 hz1 hz2 _ [n2] rfl HOW.o _ ys rfl (HRP.o.1.alloc _) HYL.o.1 HYL.o.2 (by simp) ?_;intro v7 w7 hown7 hg7 _;have HO7:=Za hown7;have HB7:=Za (((Zc _ _).alloc (Zb _) _).grown hg7 (by simp) (fun k hk=>(HOW.o.lt k hk).1));obtain⟨o7,c7,rfl⟩:=aJ hown7;clear hown7 hg7);go_ret;refine bL.yes (HA6.o.next HB7.o) (HD.o.2 _ rfl) ?_ ?_ (by simp) (aM.of_own HO7.o)
      ·rw[qB,qA];simp
      ·simp[HQ5.o,HQ6.o]
  ·have hxn2:(x0 != n1)=true:=by simpa using hxn
   have HN:=Za (show aK ⟨2,n1,n2,n3,n4,n5,n6,n7⟩ first [x0,x1,x9]=none by
    rw[mY rfl];cases bV ⟨2,n1,n2,n3,n4,n5,n6,n7⟩ [x0,x1,x9]with
    |none=>rfl
    |some p=>exact if_neg hxn)
   go_wp2_with fail;go_quiet(fail);go_wp2_with fail;go_ret;exact bL.no ((HA.o.next (eV _)).bad 2) (by decide) HN.o (by omega) none 0 0
end Go.Proofs.YtjhkdocidcfpdaaGreatDoor
