/- A part of the proof. -/
import Derived.Test.YtjhkdocidcfpdaaGreatDoorEN18
import Derived.Test.YtjhkdocidcfpdaaGreatDoorEN19
import Derived.Test.YtjhkdocidcfpdaaGreatDoorEN20
import Derived.Test.YtjhkdocidcfpdaaGreatDoorEN16
import Derived.Test.YtjhkdocidcfpdaaGreatDoorEN26
set_option linter.unusedVariables false
set_option linter.unusedSimpArgs false
set_option maxRecDepth 100000
set_option maxHeartbeats 16000000
open List renaming length_append → Zl
namespace Go.Proofs.YtjhkdocidcfpdaaGreatDoor
open Go.RowKit Go.Shelf Go
structure LayOk (n:aE):Prop where
 win:n.kind=2\/n.kind=8\/n.kind=9->jN n
 att:n.kind=12->(1<=n.heads/\n.heads<=4096)/\(0<=n.inn/\n.inn<=4096)
theorem LR (g n₀:Nat) (n:aE) (ob:Option Addr) (nb cb:Nat) (o:Option Addr) (cap:Nat) (first:Bool) (nm:ByteArray) (s:List Int) (w:World) (h:fL g n₀ n (.slice ob nb cb) o cap first nm s w) (hk:LayOk n):
  Calls Tryz.prog 207 #[.pointer (some ⟨g,0,none⟩)] w (fF g n₀ n (.slice ob nb cb) (.slice o s.length cap) first nm w (aK n first s)):=by
 by_cases k1:n.kind=1
 ·have hl:=(eC h.sh).1;by_cases h0:s.length=0
  ·exact TD g n₀ n ob nb cb o cap first nm s w h k1 h0
  by_cases h3:3<=s.length
  ·exact IP g n₀ n ob nb cb o cap first nm s w h k1 h3
  by_cases h1:s.length=1
  ·by_cases A:aF s 0=n.inn
   ·exact K1 g n₀ n ob nb cb o cap first nm s w h k1 h1 A
   ·exact P8 g n₀ n ob nb cb o cap first nm s w h k1 h1 A
  ·have B:s.length=2:=by omega
   by_cases A:aF s 1=n.inn
   ·exact QQ g n₀ n ob nb cb o cap first nm s w h k1 B A
   ·exact MO g n₀ n ob nb cb o cap first nm s w h k1 B A
 by_cases k2:n.kind=2
 ·have hw:=hk.win (.inl k2);cases C:bZ n s with
  |none=>exact G8 g n₀ n ob nb cb o cap first nm s w h k2 hw C.symm
  |some p=>
   by_cases A:aF s 0=n.inn
   ·exact JN g n₀ n ob nb cb o cap first nm s w h k2 hw p C.symm A
   ·exact RM g n₀ n ob nb cb o cap first nm s w h k2 hw p C.symm A
 by_cases k8:n.kind=8
 ·exact RS g n₀ n ob nb cb o cap first nm s w h k8 (hk.win (.inr (.inl k8)))
 by_cases k9:n.kind=9
 ·exact K3 g n₀ n ob nb cb o cap first nm s w h k9 (hk.win (.inr (.inr k9)))
 by_cases k10:n.kind=10
 ·exact LC g n₀ n ob nb cb o cap first nm s w h k10
 by_cases k11:n.kind=11
 ·exact RL g n₀ n ob nb cb o cap first nm s w h k11
 by_cases k12:n.kind=12
 ·obtain⟨hh,C⟩:=hk.att k12;by_cases B:s.length=2
  ·by_cases A:aF s 1=n.inn
   ·by_cases hm:n.inn%n.heads=0
    ·exact NA g n₀ n ob nb cb o cap first nm s w h k12 B A hh C hm
    ·exact G0 g n₀ n ob nb cb o cap first nm s w h k12 B A hh C hm
   ·exact MG g n₀ n ob nb cb o cap first nm s w h k12 B A
  ·exact F9 g n₀ n ob nb cb o cap first nm s w h k12 B
 exact OT g n₀ n ob nb cb o cap first nm s w h ⟨k1,k2,k8,k9,k10,k11,k12⟩
theorem EG:yI:=fun g n₀ n ob nb cb o cap first nm s w h hk=>JP g n₀ n _ _ first nm s w (eC h.sh).1 h.box.lt (LR g n₀ n ob nb cb o cap first nm s w h ⟨hk.1,hk.2⟩)
theorem LO {Q:Exit->Act->World->Prop}:∀e a w,pK (fun a w=>Q .normal a w) e a w->Q e a w
 |.normal,_,_,h=>h
 |.ret,_,_,h=>(h:False).elim
 |.exit _,_,_,h=>(h:False).elim
 |.goto _,_,_,h=>(h:False).elim
 |.panic _,_,_,h=>(h:False).elim
 |.outgrown,_,_,h=>(h:False).elim
theorem CT {n₀ c:Nat} {J Jx:List bW->World->Prop} {pre xs xs':List bW} {none_:Prop} {s:List Int} {res:Option (List Int×List (List Int))} {v:Value} {W W':World} (hx:gU xs) (hn:none_->res=none) (h:xB J Jx (pre++xs) xs' none_ W'):
  EO n₀ J Jx c pre s res W (.returned (.tuple #[v,.bool false])) W':=by
 refine .inr ⟨v,xs++xs',rfl,?_⟩;rcases h with⟨h1,h2⟩|⟨h1,h2⟩
 ·exact .inl ⟨by rw[<-List.append_assoc];exact h1,fun h=>h2 (jJ.1 h).2⟩
 ·exact .inr ⟨by rw[<-List.append_assoc];exact h1,fun h=>hn (h2 fun h'=>h (jJ.2 ⟨hx,h'⟩))⟩
theorem KU (first:Bool) (lb k:Nat) (k0 k1 k2 k3 k4 k5 k6 k7:Int) (ob:Option Addr) (nb cb:Nat) (os:Option Addr) (ns cs:Nat) (name:ByteArray) (w5:World) (u0 u4 u5 u6 u7 u8 u9 u10 u11 u14 u15 u16 u17 u18 u19 u20 u21 u22 u23 u24 u25 u26 u27 u28 u29 u30 u31 u32 u33 u34 u35 u36 u37 u38 u39 u40 u41 u42 u43 u44 u45 u46 u47 u48 u49 u50 u51 u52 u53 u54 u55 u56 u57 u58 u59 u60 u61 u62 u63 u64 u65 u66 u67 u68 u69 u70 u71 u72 u73 u74 u75 u76 u77 u78 u79 u80 u81 u82 u83 u84 u85 u86 u87 u88 u89 u90:Value)
  (hl:aA w5 lb 175 #[.int .i64 k0,.int .i64 k1,.int .i64 k2,.int .i64 k3,.int .i64 k4,.int .i64 k5,.int .i64 k6,.int .i64 k7,.slice ob nb cb]) (hk:k<100) (hn:name.size<=1000)
  (K:Act->World->Prop) (hQ:∀(nk:ByteArray),nk.size<=21->∀(t24 t25 t26 t27 t28 t29 t30 t31 t32 t33 t34 t35:Value) (w':World),Below w5.heap.size w5 w'->w'.heap.size=w5.heap.size+1->aA w' w5.heap.size 251 (cJ ⟨k0,k1,k2,k3,k4,k5,k6,k7⟩ (.slice ob nb cb) (.slice os ns cs) (.slice none 0 0) (.slice none 0 0) (first&&decide (k=0)) (name++nk) 0 false)->K ⟨#[u0,.string name,.bool first,.slice os ns cs,u4,u5,u6,u7,u8,u9,u10,u11,.int .i64 k,.pointer (some ⟨lb,0,none⟩),.pointer (some ⟨w5.heap.size,0,none⟩),u15,u16,u17,u18,u19,u20,u21,u22,u23,t24,t25,t26,t27,t28,t29,t30,t31,t32,t33,t34,t35,u36,u37,u38,u39,u40,u41,u42,u43,u44,u45,u46,u47,u48,u49,u50,u51,u52,u53,u54,u55,u56,u57,u58,u59,u60,u61,u62,u63,u64,u65,u66,u67,u68,u69,u70,u71,u72,u73,u74,u75,u76,u77,u78,u79,u80,u81,u82,u83,u84,u85,u86,u87,u88,u89,u90],[]⟩ w'):
  Code.wp Tryz.prog (uN 4) (pK K) ⟨#[u0,.string name,.bool first,.slice os ns cs,u4,u5,u6,u7,u8,u9,u10,u11,.int .i64 k,.pointer (some ⟨lb,0,none⟩),u14,u15,u16,u17,u18,u19,u20,u21,u22,u23,u24,u25,u26,u27,u28,u29,u30,u31,u32,u33,u34,u35,u36,u37,u38,u39,u40,u41,u42,u43,u44,u45,u46,u47,u48,u49,u50,u51,u52,u53,u54,u55,u56,u57,u58,u59,u60,u61,u62,u63,u64,u65,u66,u67,u68,u69,u70,u71,u72,u73,u74,u75,u76,u77,u78,u79,u80,u81,u82,u83,u84,u85,u86,u87,u88,u89,u90],[]⟩ w5:=by
 cases first with
 |false=>exact PH lb k k0 k1 k2 k3 k4 k5 k6 k7 ob nb cb os ns cs name w5 _ _ _ _ _ _ _ _ _ _ _ _ _ _ _ _ _ _ _ _ _ _ _ _ _ _ _ _ _ _ _ _ _ _ _ _ _ _ _ _ _ _ _ _ _ _ _ _ _ _ _ _ _ _ _ _ _ _ _ _ _ _ _ _ _ _ _ _ _ _ _ _ _ _ _ _ _ _ _ _ _ _ _ _ _ _ hl hk hn K hQ
 |true=>
  have e:((k:Int)==0)=(true&&decide (k=0)):=by rw[Bool.true_and,Bool.eq_iff_iff,beq_iff_eq,decide_eq_true_eq];omega
  refine PZ lb k k0 k1 k2 k3 k4 k5 k6 k7 ob nb cb os ns cs name w5 _ _ _ _ _ _ _ _ _ _ _ _ _ _ _ _ _ _ _ _ _ _ _ _ _ _ _ _ _ _ _ _ _ _ _ _ _ _ _ _ _ _ _ _ _ _ _ _ _ _ _ _ _ _ _ _ _ _ _ _ _ _ _ _ _ _ _ _ _ _ _ _ _ _ _ _ _ _ _ _ _ _ _ _ _ _ hl hk hn K ?_;rw[e];exact hQ
attribute [local go_sem] Oper.semAt_some
theorem BY (av:yI) (w₀:World) (l B0:Nat) (aw:w₀.heap.size<=B0) (J Jx:List bW->World->Prop) (hJ:gH iB B0 J) (ax:gH iB B0 Jx) (hY:uJ Tryz.prog w₀.heap.size l J Jx)
  (ls:List aB) (ac:∀x∈ls,qD Tryz.prog 195 w₀ l B0 J Jx x.body):qD Tryz.prog 195 w₀ l B0 J Jx ls:=by
 intro m d vl name first o cap s pre W ah ay bw az ba hs bb bx bz bc;obtain⟨ol,cl,rfl⟩:=ah.len;have bn:=Za ah;have bo:=Za ay;have HY:=Za hY;have I:=Za (Zd hJ ax);have bp:=Za av;have bd:=Za ac;have Z:=Za (Zd az (Zd ba (Zd hs (Zd bb bc))));have be:=Za aw;clear ah ay hY hJ ax ac az ba hs bb bc av aw;refine callsIn_of_wp Tryz.func195 rfl trivial ?_ rfl;simp only[Tryz.ntmps195,List.size_toArray,List.length_cons,List.length_nil,Nat.reduceAdd,Nat.reduceSub,Array.replicate_succ,Array.replicate_zero,List.push_toArray,List.append_toArray,List.nil_append,List.cons_append]
 gi_wp2
 gi_loopw [3,19] (fun vs i wr=>∃(k:Nat) (s2:List Int) (o2:Option Addr) (c2:Nat) (xs:List bW) (ps:List (List Int)),k<=ls.length/\i=.int .i64 k/\vs=.slice o2 s2.length c2/\Hid (bV first s (ls.take k)=some (s2,ps))/\Hid (aM w₀.heap.size wr (.slice o2 s2.length c2) s2)/\Hid (bA s2=true)/\Hid (J (pre++xs) wr)/\Hid (gU xs/\jV xs=ps/\iA s xs=s2)/\Hid (dG w₀.heap.size W wr)/\Hid (xs.length<=2*aS (ls.take k))) (fun _ i _=>ls.length-(intOf i).toNat)
 case atStart=>exact⟨0,s,o,cap,[],[],Ze _,rfl,rfl,Za (by rw[List.take_zero,sL]),Za Z.o.2.2.1,Za Z.o.2.2.2.1,Za (by rw[List.append_nil];exact Z.o.2.2.2.2),Za ⟨fun x h=>by simp at h,rfl,rfl⟩,Za (dG.refl _ _),Za (by simp)⟩
 case round=>
  obtain⟨k,s2,o2,c2,xs,ps,hk,rfl,rfl,HP,HS,ai,HJ,N,G,aj⟩:=hrel;obtain⟨w1,rfl⟩:=Zx wr;by_cases L:k<ls.length
  ·obtain⟨b,off,vb,rfl,B,C,bf⟩:=bn.o.lay k L;obtain⟨ob,cb,rfl⟩:=C.len;have ad:=Z.o.1.trans G.o.low;obtain⟨n,hn⟩:=Zx ((ls[k]).n);obtain⟨body,D⟩:=Zx ((ls[k]).body);rw[<-hn,<-D]at B;rw[<-D]at C bf;have e:∀j u,(n.cells (.slice ob body.length cb))[j]?=some u->w1.cell? ⟨b,off+k*9+j,none⟩=some u:=fun j u hu=>(ad.cell (p:=⟨b,off+k*9+j,none⟩) (aP (B j u hu))).trans (B j u hu);have a0:=e 0 _ rfl;have a1:=e 1 _ rfl;have a2:=e 2 _ rfl;have a3:=e 3 _ rfl;have a4:=e 4 _ rfl;have a5:=e 5 _ rfl;have a6:=e 6 _ rfl;have a7:=e 7 _ rfl;have a8:=e 8 _ rfl;rw[Nat.add_zero]at a0;have aa:=Za (show ls[k]=.mk n body by rw[hn,D];exact aB.eta _);have bq:=Za C;clear e B hn D C
   gi_wp2
   obtain⟨W2,O⟩:=Zx (w1.alloc (.cells #[.int .i64 n.kind,.int .i64 n.inn,.int .i64 n.o,.int .i64 n.size,.int .i64 n.stride,.int .i64 n.pad,.int .i64 n.percent,.int .i64 n.heads,.slice ob body.length cb] 175));have ak:aA W2 w1.heap.size 175 #[.int .i64 n.kind,.int .i64 n.inn,.int .i64 n.o,.int .i64 n.size,.int .i64 n.stride,.int .i64 n.pad,.int .i64 n.percent,.int .i64 n.heads,.slice ob body.length cb]:=by rw[O];exact aA.new _ _ _
   have ab:Below w1.heap.size w1 W2:=by rw[O];exact(Zc _ _).alloc (Zb _) _
   rw[<-O];obtain⟨lb,C⟩:=Zx w1.heap.size;have bg:lb<W2.heap.size:=by rw[C,O];simp
   have bt:W.heap.size<=lb:=by rw[C];exact G.o.low.size
   rw[<-C]at ak ⊢;have al:=Za ak;have bh:=Za (HS.o.below ab);have bi:=Za (I.o.1.below HJ.o ab);have P:=Za (G.o.past ab G.o.low.size (Nat.le_trans (Nat.le_trans be.o Z.o.2.1) G.o.low.size));clear O ab ak C a0 a1 a2 a3 a4 a5 a6 a7 a8 HS HJ G ad;have br:name.size<=1000:=by omega
   have bj:=Za (show B0<=W.heap.size/\w₀.heap.size<=W.heap.size from⟨Z.o.2.1,Nat.le_trans be.o Z.o.2.1⟩);obtain⟨kd,k1,k2,k3,k4,k5,k6,k7⟩:=n;refine wpIn_wide.2 ?_;refine Code.wp_mono LO ?_;refine KU first lb k kd k1 k2 k3 k4 k5 k6 k7 ob body.length cb o2 s2.length c2 name W2 _ _ _ _ _ _ _ _ _ _ _ _ _ _ _ _ _ _ _ _ _ _ _ _ _ _ _ _ _ _ _ _ _ _ _ _ _ _ _ _ _ _ _ _ _ _ _ _ _ _ _ _ _ _ _ _ _ _ _ _ _ _ _ _ _ _ _ _ _ _ _ _ _ _ _ _ _ _ _ _ _ _ _ _ _ _ al.o (by omega) br _ ?_;intro nk ca t24 t25 t26 t27 t28 t29 t30 t31 t32 t33 t34 t35 W3 R ao E;obtain⟨nm,T⟩:=Zx (name++nk);have bu:nm.size<=name.size+21:=by rw[T,ByteArray.size_append];omega
   rw[<-T]at E;obtain⟨fb,ap⟩:=Zx ((first&&decide (k=0)));rw[<-ap]at E;obtain⟨g,hg⟩:=Zx W2.heap.size;rw[<-hg]at E ao ⊢;have U:=Za (al.o.next R);have bk:=Za (bh.o.below R);have bl:=Za (I.o.1.below bi.o R);have bm:=Za (P.o.past R P.o.low.size (by have:=bj.o;have:=P.o.low.size;omega));have HG:=Za (show W.heap.size<=g/\B0<=g/\w₀.heap.size<=g from by have h1:=bj.o;have M:=P.o.low.size;omega);have V:=Za (DI L HP.o);rw[aa.o,<-ap]at V;have X:=Za (bo.o.at k L);rw[aa.o]at X;have ae:=Za E;clear E R ap T al bh bi P hg bg
   gi_step
   gi_step
   gi_step
   have af:nm.size<=1100:=by omega
   have ag:k<64:=by omega
   have aq:=(xW L).2;have ar:=(xW L).1;rw[aa.o]at aq ar;have cc:=aj.o;by_cases H:kd=13
   ·subst H;have h:=X.o;rw[mK]at h;rcases h.2 with M|M
    ·refine SR w₀ l B0 J Jx I.o.1 I.o.2 HY.o m g lb k k1 k2 k3 k4 k5 k6 k7 body ob cb o2 c2 s2 fb nm (pre++xs) W W3 _ _ _ _ _ _ _ _ _ _ _ _ _ _ _ _ _ _ _ _ _ _ _ _ _ _ _ _ _ _ _ _ _ _ _ _ _ _ _ _ _ _ _ _ _ _ _ _ _ _ _ _ _ _ _ _ _ _ _ _ _ _ _ _ _ _ _ _ _ _ _ _ _ _ _ _ _ _ _ _ _ _ _ _ _ _ U.o ae.o ao bk.o ai.o bl.o bm.o HG.o af ag (by rw[aB.count]at aq;rw[Zl];omega) d M.2.1 M.2.2 h.1 bq.o (by omega) (by have:=bd.o ls[k] (List.getElem_mem L);rw[aa.o]at this;exact this) ⟨Z.o.1,Z.o.2.1⟩ _ ?_ ?_
     ·rintro t3 t15 t16 t36 t37 t38 t39 t40 t41 t42 t43 t44 t45 t46 t47 t48 t49 t50 t51 t52 t53 t54 t55 t56 t57 t58 t59 t60 t61 t62 t63 t64 t65 t66 t67 t68 t69 t70 t71 t72 t73 t74 t75 t76 t77 t78 t79 t80 t81 t82 t83 t84 t85 t86 t87 t88 W' xs' F;have Y:=Za F;clear F h M
      gi_wp2
      go_ret2;exact CT N.o.1 V.o.2 Y.o
     ·rintro t10 t11 t15 t16 t36 t37 t38 t39 t40 t41 t42 t43 t44 t45 t46 t47 t48 t49 t50 t51 t52 t53 t54 t55 t56 t57 t58 t59 t60 t61 t62 t63 t64 t65 t66 t67 t68 t69 t70 t71 t72 t73 t74 t75 t76 t77 t78 t79 t80 t81 t82 t83 t84 t85 t86 t87 t88 W' xs' oo no co ⟨p,bs,h1,h3,h4,h5,h6,h7,h8,h9⟩;have au:=sQ h3;subst au;have HN:=Za (V.o.1 p h1);have A:=Za (Zd h3 (Zd h4 (Zd h5 (Zd h6 (Zd h7 (Zd h8 h9))))));clear h M h1 h3 h4 h5 h6 h7 h8 h9
      gi_wp2
      go_roundw
      case rel=>exact⟨k+1,p.1,oo,co,xs++xs',ps++p.2,by omega,by go_num,rfl,HN,Za A.o.1,Za A.o.2.1,Za (by rw[<-List.append_assoc];exact A.o.2.2.1),Za ⟨jJ.2 ⟨N.o.1,A.o.2.2.2.1⟩,by rw[qT,N.o.2.1,A.o.2.2.2.2.1],by rw[tN,N.o.2.2,A.o.2.2.2.2.2.1]⟩,Za A.o.2.2.2.2.2.2,Za (by rw[ar,Zl];omega)⟩
      case measure=>simp[intOf];omega
    ·exact absurd rfl M.1
   ·have h:=X.o;rw[mK]at h;rcases h.2 with M|M
    ·exact absurd M.1 H
    ·refine O0 l m g lb k kd k1 k2 k3 k4 k5 k6 k7 (.slice ob body.length cb) o2 c2 s2 W3 _ _ _ _ _ _ _ _ _ _ _ _ _ _ _ _ _ _ _ _ _ _ _ _ _ _ _ _ _ _ _ _ _ _ _ _ _ _ _ _ _ _ _ _ _ _ _ _ _ _ _ _ _ _ _ _ _ _ _ _ _ _ _ _ _ _ _ _ _ _ _ _ _ _ _ _ _ _ _ _ _ _ _ _ _ _ U.o H _ ?_;intro t36 t37 t38
     gi_step
     gi_step
     refine Q8 bp.o w₀ l B0 J Jx I.o.1 I.o.2 HY.o m g lb k kd k1 k2 k3 k4 k5 k6 k7 body ob cb o2 c2 s2 fb nm (pre++xs) W W3 _ _ _ _ _ _ _ _ _ _ _ _ _ _ _ _ _ _ _ _ _ _ _ _ _ _ _ _ _ _ _ _ _ _ _ _ _ _ _ _ _ _ _ _ _ _ _ _ _ _ _ _ _ _ _ _ _ _ _ _ _ _ _ _ _ _ _ _ _ _ _ _ _ _ _ _ _ _ _ _ _ _ _ _ _ _ U.o ae.o ao bk.o ai.o bl.o bm.o HG.o af ag (by rw[aB.count]at aq;rw[Zl];omega) H M.2 _ ?_ ?_
     ·rintro t3 t15 t16 t36 t37 t38 t39 t40 t41 t42 t43 t44 t45 t46 t47 t48 t49 t50 t51 t52 t53 t54 t55 t56 t57 t58 t59 t60 t61 t62 t63 t64 t65 t66 t67 t68 t69 t70 t71 t72 t73 t74 t75 t76 t77 t78 t79 t80 t81 t82 t83 t84 t85 t86 t87 t88 W' xs' F;have Y:=Za F;clear F h M
      gi_wp2
      go_ret2;exact CT N.o.1 V.o.2 Y.o
     ·rintro t10 t11 t15 t16 t36 t37 t38 t39 t40 t41 t42 t43 t44 t45 t46 t47 t48 t49 t50 t51 t52 t53 t54 t55 t56 t57 t58 t59 t60 t61 t62 t63 t64 t65 t66 t67 t68 t69 t70 t71 t72 t73 t74 t75 t76 t77 t78 t79 t80 t81 t82 t83 t84 t85 t86 t87 t88 W' xs' oo no co ⟨p,bs,h1,h3,h4,h5,h6,h7,h8,h9⟩;have au:=sQ h3;subst au;have HN:=Za (V.o.1 p h1);have A:=Za (Zd h3 (Zd h4 (Zd h5 (Zd h6 (Zd h7 (Zd h8 h9))))));clear h M h1 h3 h4 h5 h6 h7 h8 h9
      gi_wp2
      go_roundw
      case rel=>exact⟨k+1,p.1,oo,co,xs++xs',ps++p.2,by omega,by go_num,rfl,HN,Za A.o.1,Za A.o.2.1,Za (by rw[<-List.append_assoc];exact A.o.2.2.1),Za ⟨jJ.2 ⟨N.o.1,A.o.2.2.2.1⟩,by rw[qT,N.o.2.1,A.o.2.2.2.2.1],by rw[tN,N.o.2.2,A.o.2.2.2.2.2.1]⟩,Za A.o.2.2.2.2.2.2,Za (by rw[ar,Zl];omega)⟩
      case measure=>simp[intOf];omega
  ·obtain rfl:k=ls.length:=by omega
   rw[List.take_of_length_le (Zb _)]at HP aj
   gi_wp2
   go_ret2;exact .inl ⟨_,xs,(s2,ps),G.o,rfl,aj.o,HP.o,HS.o,ai.o,HJ.o,N.o.1,N.o.2.1,N.o.2.2⟩
theorem MV (w₀:World) (l B0:Nat) (A:w₀.heap.size<=B0) (J Jx:List bW->World->Prop) (hJ:gH iB B0 J) (B:gH iB B0 Jx) (hY:uJ Tryz.prog w₀.heap.size l J Jx) (ls:List aB):qD Tryz.prog 195 w₀ l B0 J Jx ls:=
 BY EG w₀ l B0 A J Jx hJ B hY ls fun x _=>aB.ind (P:=fun x=>qD Tryz.prog 195 w₀ l B0 J Jx x.body) (fun n body ih=>BY EG w₀ l B0 A J Jx hJ B hY body fun y hy=>ih y hy) x
theorem TN {n:aE} {body:List aB} (h:fJ n body=true):uK n:=by
 obtain⟨r,hr,ok,hm,hk,ho⟩:=nQ h;obtain⟨kd,k1,k2,k3,k4,k5,k6,k7⟩:=n;simp only at hk;simp only[bJ,List.mem_cons,List.not_mem_nil,or_false]at hm;have A:=fun k hk=>qP ho ok k hk;rw[iL,Bool.and_eq_true,Bool.and_eq_true]at ho;have hp:=ho.2.2;rcases hm with rfl|rfl|rfl|rfl|rfl|rfl|rfl|rfl|rfl|rfl|rfl|rfl<;>simp only at hk<;>subst hk
 ·exact⟨fun h=>by simp at h,fun h=>by simp at h⟩
 ·have f2:=A 2 (by decide);have f3:=A 3 (by decide);have f4:=A 4 (by decide);simp[aE.fld]at f2 f3 f4;exact⟨fun _=>⟨by simp;omega,by simp;omega,by simp[eZ];omega,by simp[eZ];omega,by simp;omega,by simp;omega⟩,fun h=>by simp at h⟩
 ·exact⟨fun h=>by simp at h,fun h=>by simp at h⟩
 ·exact⟨fun h=>by simp at h,fun h=>by simp at h⟩
 ·exact⟨fun h=>by simp at h,fun h=>by simp at h⟩
 ·exact⟨fun h=>by simp at h,fun h=>by simp at h⟩
 ·exact⟨fun h=>by simp at h,fun h=>by simp at h⟩
 ·exact⟨fun h=>by simp at h,fun h=>by simp at h⟩
 ·have f0:=A 0 (by decide);simp[aE.fld]at f0;simp[gA,bX.made,aE.put,aE.fld,bN]at hp;exact⟨fun _=>⟨by simp;omega,by simp;omega,by simp[eZ];omega,by simp[eZ];omega,by simp;omega,by simp;omega⟩,fun h=>by simp at h⟩
 ·have f0:=A 0 (by decide);simp[aE.fld]at f0;simp[gA,bX.made,aE.put,aE.fld,bN]at hp;exact⟨fun _=>⟨by simp;omega,by simp;omega,by simp[eZ];omega,by simp[eZ];omega,by simp;omega,by simp;omega⟩,fun h=>by simp at h⟩
 ·exact⟨fun h=>by simp at h,fun h=>by simp at h⟩
 ·have f0:=A 0 (by decide);have f1:=A 1 (by decide);simp[aE.fld]at f0 f1;exact⟨fun h=>by simp at h,fun _=>⟨⟨by simp;omega,by simp;omega⟩,by simp;omega,by simp;omega⟩⟩
mutual
theorem I9 (deep d:Nat) (left k:Int) (hd:deep+d=4):∀l:aB,cD deep left l=some k->0<=left->left<=64->mK l d
 |.mk n body,h,h0,h1=>by
  obtain⟨hl,⟨hk,B,hn,A⟩|⟨hk,A,rfl⟩⟩:=oK h
  ·have hc:=pP (deep+1) (left-1) k body A (by omega);have C:=(nS (deep+1) (left-1) k body A (by omega)).1;rw[mK];exact⟨by omega,.inl ⟨hk,by omega,uQ (deep+1) (d-1) (left-1) k (by omega) body A (by omega) (by omega)⟩⟩
  ·rw[mK];exact⟨by rw[sY A];simp,.inr ⟨hk,TN A⟩⟩
theorem uQ (deep d:Nat) (left k:Int) (hd:deep+d=4):∀ls:List aB,bS deep left ls=some k->0<=left->left<=64->i7 ls d
 |[],h,h0,h1=>by rw[i7];trivial
 |l::r,h,h0,h1=>by
  rw[bS]at h;cases hj:cD deep left l with
  |none=>rw[hj]at h;cases h
  |some j=>
   rw[hj]at h;have a:=qB deep left j l hj h0;rw[i7];exact⟨I9 deep d left j hd l hj h0 h1,uQ deep d j k hd r h a.1 (by omega)⟩
end
theorem ED {d:bI} (h:dM d=true):i7 d.lays 4/\d.lays.length<=64:=by obtain⟨_,_,_,_,k,hk⟩:=nG h;have h0:=(nS 0 64 k d.lays hk (by omega)).1;have h1:=pP 0 64 k d.lays hk (by omega);exact⟨uQ 0 4 64 k (by omega) d.lays hk (by omega) (by omega),by omega⟩
theorem KW {n m:Nat} {P:Program} {l:Nat} {f:FuncId} {tmps:Array Value} {assign body:Code} {w:World} {R:Ending->World->Prop} (h:RoundIn Fence.wide n P l f tmps assign body w R):RoundIn Fence.wide m P l f tmps assign body w R:=
 ⟨h.1,fun c cs _=>h.2 c cs (room_wide _)⟩
theorem JE {n m:Nat} {P:Program} {l:Nat} {args:Array Value} {w:World} {R:Ending->World->Prop} (h:YieldAt Fence.wide n P l args w R):YieldAt Fence.wide m P l args w R:=by obtain⟨fn,tmps,assign,body,hy,hR⟩:=h;exact⟨fn,tmps,assign,body,hy,KW hR⟩
def EX (d:bI) (xs:List bW):Prop:=gU xs->∃p,bV true d.input d.lays=some p/\jV xs=p.2/\iA d.input xs=p.1
def S9 (d:bI) (xs:List bW):Prop:=¬gU xs->bV true d.input d.lays=none
attribute [local go_sem] Oper.semAt_some
theorem SA (w₀ w:World) (n db:Nat) (o:Option Addr) (c:Nat) (vl:Value) (d:bI) (hw:Below w₀.heap.size w₀ w) (hb:aA w db 33 #[.slice o d.input.length c,vl,.int .i64 d.loss])
  (hr:aM w₀.heap.size w (.slice o d.input.length c) d.input) (F:bA d.input=true) (hl:bO w₀ vl d.lays) (G:i7 d.lays 4) (H:d.lays.length<=64) (T:aS d.lays<=64):
  SeqR iB Fence.wide n Tryz.prog 194 #[.pointer (some ⟨db,0,none⟩)] nW (fun pre x W=>pre.length<200/\pS w₀.heap.size x W) (dG w₀.heap.size) (EX d) (S9 d) w:=by
 intro l J Jx W B hJ D A h0;have I:w₀.heap.size<=W.heap.size:=Nat.le_trans hw.size B.size;have N:=hl.len;obtain⟨ol,cl,rfl⟩:=N;have E:=hb.next B;have c0:=E.q 0 rfl;have c1:=E.q 1 rfl;have U:=Za (Zd hJ D);have O:=Za (fun mm=>MV w₀ l W.heap.size I J Jx hJ D (fun m pre x W1 hp hj hx=>JE (A pre x W1 hj ⟨hp,hx⟩)) d.lays mm 4 (.slice ol d.lays.length cl) ⟨#[]⟩ true o c d.input [] W hl G H (hw.trans (B.mono hw.size)) (Zb _) (hr.below B) F (by decide) (by simp only[List.length_nil];omega) h0);clear hw hb hr F hl G H B hJ D A h0 E I;refine callsIn_of_wp Tryz.func194 rfl trivial ?_ rfl;simp only[Tryz.ntmps194,List.size_toArray,List.length_cons,List.length_nil,Nat.reduceAdd,Nat.reduceSub,Array.replicate_succ,Array.replicate_zero,List.push_toArray,List.append_toArray,List.nil_append,List.cons_append]
 gi_wp2_with (refine⟨trivial,(by simp[Fence.wide]),?_⟩;gi_at_call 195;refine(O.o _).mono ?_;rintro e W6 (⟨v,xs,p,hk,rfl,P,h1,h2,h3,h4,h5,h6,h7⟩|⟨v,xs,rfl,C⟩)<;>refine aD ?_)
 ·have M:=Za (show J xs W6/\EX d xs from⟨h4,fun _=>⟨p,h1,h6,h7⟩⟩);clear hk P h1 h2 h3 h4 h5 h6 h7 O c0 c1;refine aC ?_
  gi_wp2
  go_end0;exact⟨⟨_,rfl⟩,.inl ⟨xs,M.o.2,M.o.1⟩⟩
 ·have M:=Za C;clear C O c0 c1;refine aC ?_
  gi_wp2
  go_end0;refine⟨⟨_,rfl⟩,?_⟩;rcases M.o with⟨hj,R⟩|⟨hj,L⟩
  ·exact .inl ⟨xs,fun h=>absurd h R,hj⟩
  ·exact .inr ⟨xs,L,hj⟩
mutual
theorem QP (deep:Nat) (left k:Int):∀l:aB,cD deep left l=some k->0<=left->(l.count:Int)+k<=left
 |.mk n body,h,h0=>by
  obtain⟨hl,⟨hk,A,hn,hb⟩|⟨hk,hb,rfl⟩⟩:=oK h
  ·have:=yD (deep+1) (left-1) k body hb (by omega);rw[aB.count];omega
  ·rw[sY hb,aB.count,aS];omega
theorem yD (deep:Nat) (left k:Int):∀ls:List aB,bS deep left ls=some k->0<=left->(aS ls:Int)+k<=left
 |[],h,h0=>by rw[bS]at h;cases h;simp[aS]
 |l::r,h,h0=>by
  rw[bS]at h;cases h1:cD deep left l with
  |none=>rw[h1]at h;cases h
  |some j=>
   rw[h1]at h;have a:=QP deep left j l h1 h0;have c:=qB deep left j l h1 h0;have b:=yD deep j k r h c.1;rw[aS];omega
end
theorem FI {d:bI} (h:dM d=true):aS d.lays<=64:=by obtain⟨_,_,_,_,k,hk⟩:=nG h;have h0:=(nS 0 64 k d.lays hk (by omega)).1;have h1:=yD 0 64 k d.lays hk (by omega);omega
structure iJ (n₀:Nat) (W W':World):Prop where
 low:Below n₀ W W'
 kept:∀(k:Nat) (cs:Array Value) (T:TypeId) (fz:Nat×Nat),T≠251->W.heap[k]?=some (.cells cs T fz)->W'.heap[k]?=some (.cells cs T fz)
theorem iJ.of_below {n₀:Nat} {W W':World} (h:Below W.heap.size W W') (hn:n₀<=W.heap.size):iJ n₀ W W':=⟨h.mono hn,fun k cs T fz _ hk=>(h.block k (Array.getElem?_eq_some_iff.1 hk).1).trans hk⟩
theorem iJ.of_grown {n₀ B:Nat} {W W':World} {row:Option Nat} (hg:W.grownBy W' row) (hr:∀r,row=some r->B<=r/\∃o:Obj,W.heap[r]?=some o/\(o.isCells=false\/iB o)) (hn:n₀<=B) (hw:n₀<=W.heap.size):iJ n₀ W W':=
 ⟨(Zc n₀ W).grown hg hw (fun k e=>Nat.le_trans hn (hr k e).1),fun k cs T fz hT hk=>(hg.block k (Array.getElem?_eq_some_iff.1 hk).1 (fun e=>by
  obtain⟨_,o,ho,h⟩:=hr k e.symm;rw[hk]at ho;cases ho;rcases h with h|⟨cs',fz',h⟩
  ·cases h
  ·injection h with _ h2;exact hT h2)).trans hk⟩
theorem aA.lie {n₀ g:Nat} {w w':World} {T:TypeId} {cs:Array Value} (h:aA w g T cs) (hs:iJ n₀ w w') (hT:T≠251):aA w' g T cs:=hs.kept g cs T _ hT h
theorem aM.lie {n₀:Nat} {w w':World} {v:Value} {xs:List Int} (h:aM n₀ w v xs) (hs:iJ n₀ w w'):aM n₀ w' v xs:=by
 have key:∀b,(b<n₀\/∃cs fz,w.heap[b]?=some (.cells cs 3 fz))->b<w.heap.size->w'.heap[b]?=w.heap[b]?:=fun b B D=>by
  rcases B with B|⟨cs,fz,B⟩
  ·exact hs.low.block b B
  ·rw[B];exact hs.kept b cs _ fz (by decide) B
 obtain⟨o,cap,rfl,hc⟩:=h.1;have C:=h.2.1;refine⟨⟨o,cap,rfl,fun j hj=>?_⟩,fun b off n c e' h0=>?_,h.2.2⟩
 ·obtain⟨b,off,rfl,A⟩:=hc j hj;exact⟨b,off,rfl,(World.cell?_of_block (w:=w) (a:=⟨b,off+j,none⟩) (key b (C b off _ _ rfl (by omega)) (aP A))).trans A⟩
 ·rcases C b off n c e' h0 with hh|⟨cs,fz,hh⟩
  ·exact .inl hh
  ·exact .inr ⟨cs,fz,(key b (.inr ⟨cs,fz,hh⟩) (Array.getElem?_eq_some_iff.1 hh).1).trans hh⟩
theorem aY.lie {w w':World} {n₀ B:Nat} {v:Value} {qs:List PD} (h:aY w n₀ B v qs) (hs:iJ n₀ w w'):aY w' n₀ B v qs:=by
 refine⟨⟨h.row.1,?_⟩,fun p hp=>(h.sh p hp).lie hs,h.one⟩;rcases h.row.2 with hn|⟨g,cap,cur,rfl,hb,hg,r⟩
 ·exact .inl hn
 ·exact .inr ⟨g,cap,cur,rfl,hb,hs.kept g cur _ _ (by decide) hg,r⟩
theorem MT (w:World) (n₀ B C:Nat) (v u:Value) (qs rs:List PD) (D:aY w n₀ B v qs) (hu:aY w n₀ C u rs) (hl:qs.length+rs.length<=100000) (hB:B<=w.heap.size) (hn:n₀<=B):
  ∃v' w',(Builtin.append_ #[79,79] 79 #[v,u]).run Tryz.prog w=.ok v' w'/\aY w' n₀ B v' (qs++rs)/\w.grownBy w' v.ownBlock/\(∀k,v.ownBlock=some k->B<=k/\∃cur,w.heap[k]?=some (.cells cur 161 (0,0))):=by
 obtain⟨i0,hi,I,J,L⟩:=info_parts wB;have E:∀k,v.ownBlock=some k->B<=k/\∃cur,w.heap[k]?=some (.cells cur 161 (0,0)):=fun k hk=>by
  rcases D.row.2 with⟨rfl,_⟩|⟨b,cap,cur,rfl,G,F,_⟩
  ·simp[Value.ownBlock]at hk
  ·simp[Value.ownBlock]at hk;subst hk;exact⟨G,cur,F⟩
 by_cases h0:rs.length=0
 ·have:rs=[]:=List.eq_nil_of_length_eq_zero h0;subst this;obtain⟨ov,cv,rfl,M⟩:=jK D.row;obtain⟨ou,cu,rfl⟩:=aJ hu.row;refine⟨_,w,xT w 79 79 161 i0 Tryz.underlying79 hi _ _ _ _ _ M,?_,⟨rfl,rfl,rfl,Zb _,fun _ _ _=>rfl⟩,E⟩;rw[List.append_nil];exact D
 ·rcases hu.row.2 with⟨_,h1⟩|⟨g,cap,cur,rfl,G,F,h4,h5,h6,ht⟩
  ·omega
  ·obtain⟨v',w',H,h2,h3,_,h7⟩:=run_append_own_at (P:=Tryz.prog) w B 79 79 161 i0 (.agg #[.string ⟨#[]⟩,.slice none 0 0,.int .i64 0,.int .i64 0]) 4 56 Tryz.underlying79 hi I J L rfl (by decide) v qs.length _ D.row ⟨g,0,none⟩ rs.length cap (gD rs) (OG rs) (fun j x hj=>by
     have N:j<(gD rs).length:=(List.getElem?_eq_some_iff.1 hj).1;rw[Addr.add_lit,Nat.zero_add,cell_of_row w g j cur _ _ F];rw[<-ht,List.getElem?_take]at hj;split at hj
     ·simpa using hj
     ·cases hj) (fun x hx=>by
     obtain⟨q,A,hx⟩:=List.mem_flatMap.1 hx;simp only[PD.cells,List.mem_cons,List.not_mem_nil,or_false]at hx;rcases hx with rfl|rfl|rfl|rfl
     ·rfl
     ·exact hu.one q A
     ·rfl
     ·rfl) (by unfold maxLen;omega) (by omega) hB
   refine⟨v',w',H,⟨?_,fun q A=>?_,fun q A=>?_⟩,h3,E⟩
   ·rw[PO,Zl];exact h2
   ·rcases List.mem_append.1 A with A|A
    ·exact(D.sh q A).grown D.row (by decide) hn h3
    ·exact(hu.sh q A).grown D.row (by decide) hn h3
   ·rcases List.mem_append.1 A with A|A
    ·exact D.one q A
    ·exact hu.one q A
theorem OH (o1 o2:Option Addr) (n1 c1 n2 c2:Nat) (k:Int) (w:World):
  Calls Tryz.prog 182 #[.agg #[.slice o1 n1 c1,.slice o2 n2 c2,.int .i64 k]] w fun e w'=>e=.returned (.func (.func 194) #[] #[.pointer (some ⟨w.heap.size,0,none⟩)])/\w'=w.alloc (.cells #[.slice o1 n1 c1,.slice o2 n2 c2,.int .i64 k] 33):=by have A:∀(fn:Fn) (first cap:Array Value) (w:World),(Instr.makeFunc fn first cap).run Tryz.prog w=.ok (.func fn first cap) w:=fun _ _ _ _=>rfl;go_enter Tryz.func182,Tryz.ntmps182;go_wp2;go_ret;exact⟨rfl,rfl⟩
def EP (w:World) (d:bI) (e:Ending) (w':World):Prop:=
 Below w.heap.size w w'/\((eN d=none/\∃er:Int,er≠0/\e=.returned (.tuple #[.slice none 0 0,.slice none 0 0,.int .i64 er]))\/
  ∃p vo vps qs,eN d=some p/\e=.returned (.tuple #[vo,vps,.int .i64 0])/\aH w' w.heap.size 3 .i64 vo p.1/\aY w' w.heap.size w.heap.size vps qs/\p.2=qs.map (·.sh)/\qs.length<=1000)
structure cM (n₀:Nat) (Ts:TypeId->Prop) (W W':World):Prop where
 low:Below n₀ W W'
 kept:∀(k:Nat) (cs:Array Value) (T:TypeId) (fz:Nat×Nat),¬Ts T->W.heap[k]?=some (.cells cs T fz)->W'.heap[k]?=some (.cells cs T fz)
theorem cM.trans {n₀:Nat} {Ts:TypeId->Prop} {a b c:World} (h:cM n₀ Ts a b) (k:cM n₀ Ts b c):cM n₀ Ts a c:=⟨h.low.trans k.low,fun i cs T fz hT hi=>k.kept i cs T fz hT (h.kept i cs T fz hT hi)⟩
theorem cM.of_below {n₀:Nat} {Ts:TypeId->Prop} {W W':World} (h:Below W.heap.size W W') (hn:n₀<=W.heap.size):cM n₀ Ts W W':=⟨h.mono hn,fun k cs T fz _ hk=>(h.block k (Array.getElem?_eq_some_iff.1 hk).1).trans hk⟩
theorem cM.mono {n₀:Nat} {Ts Ts':TypeId->Prop} {a b:World} (h:cM n₀ Ts a b) (hi:∀T,Ts T->Ts' T):cM n₀ Ts' a b:=⟨h.low,fun i cs T fz hT hk=>h.kept i cs T fz (fun h'=>hT (hi T h')) hk⟩
theorem cM.set {n₀ k:Nat} {Ts:TypeId->Prop} {W:World} {T:TypeId} {cs:Array Value} (h:aA W k T cs) (hn:n₀<=k) (hT:Ts T) (j:Nat) (u:Value):cM n₀ Ts W (W.setCell ⟨k,j,none⟩ u):=
 ⟨(Zc _ _).setCell (p:=⟨k,j,none⟩) hn u,fun i cs' T' fz hT' hi=>by
  rw[Below.heap_setCell _ _ _ _ (fun e=>?_)]
  ·exact hi
  ·simp at e;subst e;unfold aA at h;rw[h]at hi;simp at hi;rw[<-hi.2.1]at hT';exact hT' hT⟩
theorem cM.grown {n₀:Nat} {Ts:TypeId->Prop} {W W':World} {row:Option Nat} (hg:W.grownBy W' row) (hr:∀k,row=some k->n₀<=k/\∃cur,W.heap[k]?=some (.cells cur 161 (0,0))) (hw:n₀<=W.heap.size) (hT:Ts 161):cM n₀ Ts W W':=
 ⟨(Zc _ _).grown hg hw (fun k e=>(hr k e).1),fun i cs T fz hT' hi=>(hg.block i (Array.getElem?_eq_some_iff.1 hi).1 (fun e=>by
  obtain⟨_,cur,hc⟩:=hr i e.symm;rw[hi]at hc;cases hc;exact hT' hT)).trans hi⟩
theorem aA.lieT {n₀ g:Nat} {Ts:TypeId->Prop} {w w':World} {T:TypeId} {cs:Array Value} (h:aA w g T cs) (hs:cM n₀ Ts w w') (hT:¬Ts T):aA w' g T cs:=hs.kept g cs T _ hT h
theorem aM.lieT {n₀:Nat} {Ts:TypeId->Prop} {w w':World} {v:Value} {xs:List Int} (h:aM n₀ w v xs) (hs:cM n₀ Ts w w') (hT:¬Ts 3):aM n₀ w' v xs:=by
 have key:∀b,(b<n₀\/∃cs fz,w.heap[b]?=some (.cells cs 3 fz))->b<w.heap.size->w'.heap[b]?=w.heap[b]?:=fun b B D=>by
  rcases B with B|⟨cs,fz,B⟩
  ·exact hs.low.block b B
  ·rw[B];exact hs.kept b cs _ fz hT B
 obtain⟨o,cap,rfl,hc⟩:=h.1;have C:=h.2.1;refine⟨⟨o,cap,rfl,fun j hj=>?_⟩,fun b off n c e' h0=>?_,h.2.2⟩
 ·obtain⟨b,off,rfl,A⟩:=hc j hj;exact⟨b,off,rfl,(World.cell?_of_block (w:=w) (a:=⟨b,off+j,none⟩) (key b (C b off _ _ rfl (by omega)) (aP A))).trans A⟩
 ·rcases C b off n c e' h0 with hh|⟨cs,fz,hh⟩
  ·exact .inl hh
  ·exact .inr ⟨cs,fz,(key b (.inr ⟨cs,fz,hh⟩) (Array.getElem?_eq_some_iff.1 hh).1).trans hh⟩
theorem aY.lieT {w w':World} {n₀ B:Nat} {Ts:TypeId->Prop} {v:Value} {qs:List PD} (h:aY w n₀ B v qs) (hs:cM n₀ Ts w w') (hT:¬Ts 3) (A:¬Ts 161):aY w' n₀ B v qs:=by
 refine⟨⟨h.row.1,?_⟩,fun p hp=>(h.sh p hp).lieT hs hT,h.one⟩;rcases h.row.2 with hn|⟨g,cap,cur,rfl,hb,hg,r⟩
 ·exact .inl hn
 ·exact .inr ⟨g,cap,cur,rfl,hb,hs.kept g cur _ _ A hg,r⟩
theorem KY {n:aE} {first:Bool} {s:List Int} {p:List Int×List (List Int)} (h:aK n first s=some p):p.2.length<=4:=by
 have ok:∀q:List Int×List (List Int),q.2.length<=4->some q=some p->p.2.length<=4:=fun q hq e=>by injection e with e;rw[<-e];exact hq
 rw[aK]at h;by_cases h1:n.kind=1
 ·rw[if_pos h1]at h;split at h
  ·exact ok _ (Nat.le_of_ble_eq_true rfl) h
  ·cases h
 rw[if_neg h1]at h;by_cases h2:n.kind=2
 ·rw[if_pos h2]at h;cases hi:bZ n s with
  |none=>rw[hi]at h;cases h
  |some q=>
   rw[hi]at h;simp only at h;split at h
   ·exact ok _ (Nat.le_of_ble_eq_true rfl) h
   ·cases h
 rw[if_neg h2]at h;by_cases h3:n.kind=8\/n.kind=9
 ·rw[if_pos h3]at h;cases hi:bZ n s with
  |none=>rw[hi]at h;cases h
  |some q=>
   rw[hi]at h;exact ok _ (Nat.le_of_ble_eq_true rfl) h
 rw[if_neg h3]at h;by_cases h4:n.kind=10
 ·rw[if_pos h4]at h;exact ok _ (Nat.le_of_ble_eq_true rfl) h
 rw[if_neg h4]at h;by_cases h5:n.kind=11
 ·rw[if_pos h5]at h;split at h
  ·exact ok _ (Nat.le_of_ble_eq_true rfl) h
  ·cases h
 rw[if_neg h5]at h;by_cases h6:n.kind=12
 ·rw[if_pos h6]at h;split at h
  ·exact ok _ (Nat.le_of_ble_eq_true rfl) h
  ·cases h
 rw[if_neg h6]at h;exact ok _ (Nat.le_of_ble_eq_true rfl) h
mutual
theorem P6:∀(l:aB) (first:Bool) (s:List Int) (p:List Int×List (List Int)),dD first s l=some p->p.2.length<=4*l.count
 |.mk n body,first,s,p,h=>by
  rw[dD]at h;rw[aB.count];split at h
  ·cases hb:bV false s body with
   |none=>rw[hb]at h;exact nomatch h
   |some q=>
    rw[hb]at h;have:=uM body false s q hb;simp only at h;split at h
    ·injection h with h;rw[<-h];simp only;omega
    ·exact nomatch h
  ·rw[gK]at h;cases hd:aK n first s with
   |none=>rw[hd]at h;cases h
   |some q=>
    rw[hd]at h;have:=KY hd;simp only at h;split at h
    ·injection h with h;rw[<-h];omega
    ·exact nomatch h
theorem uM:∀(ls:List aB) (first:Bool) (s:List Int) (p:List Int×List (List Int)),bV first s ls=some p->p.2.length<=4*aS ls
 |[],first,s,p,h=>by rw[bV]at h;injection h with h;rw[<-h];exact Ze _
 |l::r,first,s,p,h=>by
  rw[bV]at h;rw[aS];cases h1:dD first s l with
  |none=>rw[h1]at h;cases h
  |some q=>
   rw[h1]at h;have a:=P6 l first s q h1;simp only at h;cases h2:bV false q.1 r with
   |none=>rw[h2]at h;cases h
   |some q2=>
    rw[h2]at h;have b:=uM r false q.1 q2 h2;injection h with h;rw[<-h];simp only[Zl];omega
end
def lF (T:TypeId):Prop:=T=48\/T=30\/T=79
def sA (T:TypeId):Prop:=lF T\/T=161
instance (T:TypeId):Decidable (lF T):=by unfold lF;infer_instance
instance (T:TypeId):Decidable (sA T):=by unfold sA;infer_instance
theorem cM.keepI {n₀:Nat} {W W':World} (h:cM n₀ sA W W'):dG n₀ W W':=⟨h.low,fun k cs T fz hT hk=>h.kept k cs T fz (by rcases hT with rfl|rfl|rfl|rfl<;>decide) hk⟩
structure oT (w:World) (B b:Nat) (oi:Option Addr) (ci:Nat) (ol:Option Addr) (cl:Nat) (d:bI) (pre:List bW) (W:World):Prop where
 ok:gU pre
 low:Below w.heap.size w W
 big:B<=W.heap.size
 df:aA W b 33 #[.slice oi d.input.length ci,.slice ol d.lays.length cl,.int .i64 d.loss]
 er:aA W (b+3) 48 #[.int .i64 0]
 rest:∃oo co ov nv cv qs,aA W (b+1) 30 #[.slice oo (iA d.input pre).length co]/\aA W (b+2) 79 #[.slice ov nv cv]/\aM w.heap.size W (.slice oo (iA d.input pre).length co) (iA d.input pre)/\aY W w.heap.size w.heap.size (.slice ov nv cv) qs/\jV pre=qs.map (·.sh)/\qs.length<=4*pre.length/\(iA d.input pre).length<=8
structure pG (w:World) (b:Nat) (d:bI) (pre:List bW) (W:World):Prop where
 no:¬gU pre
 low:Below w.heap.size w W
 rest:∃er v1 v2 v3 o2 n2 c2 o3 n3 c3,er≠0/\aA W b 33 #[v1,v2,.int .i64 v3]/\aA W (b+1) 30 #[.slice o2 n2 c2]/\aA W (b+2) 79 #[.slice o3 n3 c3]/\aA W (b+3) 48 #[.int .i64 er]
theorem oT.lie {w W W':World} {B b:Nat} {oi:Option Addr} {ci:Nat} {ol:Option Addr} {cl:Nat} {d:bI} {pre:List bW} (h:oT w B b oi ci ol cl d pre W) (A:iJ w.heap.size W W'):oT w B b oi ci ol cl d pre W':=by obtain⟨h1,h2,C,h3,h4,oo,co,ov,nv,cv,qs,h5,h6,h7,h8,h9,D,E⟩:=h;exact⟨h1,h2.trans A.low,Nat.le_trans C A.low.size,h3.lie A (by decide),h4.lie A (by decide),oo,co,ov,nv,cv,qs,h5.lie A (by decide),h6.lie A (by decide),h7.lie A,h8.lie A,h9,D,E⟩
theorem pG.lie {w W W':World} {b:Nat} {d:bI} {pre:List bW} (h:pG w b d pre W) (hs:iJ w.heap.size W W'):pG w b d pre W':=by obtain⟨h1,h2,er,v1,v2,v3,o2,n2,c2,o3,n3,c3,h3,h4,h5,h6,h7⟩:=h;exact⟨h1,h2.trans hs.low,er,v1,v2,v3,o2,n2,c2,o3,n3,c3,h3,h4.lie hs (by decide),h5.lie hs (by decide),h6.lie hs (by decide),h7.lie hs (by decide)⟩
structure FU (n₀ B b:Nat) (pre:List bW) (x:bW) (a:Act) (W:World):Prop where
 len:pre.length<200
 box:∃g u0 u5 u7 u8 u9 u10 u11 u12 u13 u14 u15 u16 u17 u18 u19 u20 u21 u22 u23 u24 u25 u26 u27 u28 u29 u30 u31 u32 u33 u34 u35 u36 u37 u38 u39 u40 u41 u42 u43 u44 u45 u46 u47,a=⟨#[u0,.pointer (some ⟨b,0,none⟩),.pointer (some ⟨b+1,0,none⟩),.pointer (some ⟨b+2,0,none⟩),.pointer (some ⟨b+3,0,none⟩),u5,.pointer (some ⟨g,0,none⟩),u7,u8,u9,u10,u11,u12,u13,u14,u15,u16,u17,u18,u19,u20,u21,u22,u23,u24,u25,u26,u27,u28,u29,u30,u31,u32,u33,u34,u35,u36,u37,u38,u39,u40,u41,u42,u43,u44,u45,u46,u47],[]⟩/\B<=g/\aA W g 251 x.cs
 rdy:pS n₀ x W
theorem pS.lie {n₀:Nat} {x:bW} {W W':World} (h:pS n₀ x W) (hs:iJ n₀ W W'):pS n₀ x W':=by obtain⟨n,ob,nb,cb,oi,ni,ci,oo,no,co,ov,nv,cv,first,nm,fin,h1,h2⟩:=h;refine⟨n,ob,nb,cb,oi,ni,ci,oo,no,co,ov,nv,cv,first,nm,fin,h1,fun hb=>?_⟩;obtain⟨qs,r1,r2,r3⟩:=h2 hb;exact⟨qs,r1.lie hs,r2.lie hs,r3⟩
theorem R5 {w w2:World} {b:Nat} {oi:Option Addr} {ci:Nat} {ol:Option Addr} {cl:Nat} {d:bI} (h:w.heap.size<=w2.heap.size):lB iB w2.heap.size (fun pre W=>oT w w2.heap.size b oi ci ol cl d pre W):=
 fun s W W' row hs hg hr=>hs.lie (iJ.of_grown hg hr h hs.low.size)
theorem LY {w w2:World} {b:Nat} {d:bI} (c:Code) (h:w.heap.size<=w2.heap.size):lB iB w2.heap.size (fun pre W=>c=.exit 0/\pG w b d pre W):=
 fun s W W' row hs hg hr=>⟨hs.1,hs.2.lie (iJ.of_grown hg hr h hs.2.low.size)⟩
theorem K5 {n₀ B b:Nat} {pre:List bW} {x:bW} {a:Act} (h:n₀<=B):lB (fun _=>False) B (fun(_:Unit) W=>FU n₀ B b pre x a W/\n₀<=W.heap.size):=fun s W W' row hs hg hr=>by
 have hl:iJ n₀ W W':=iJ.of_grown hg (fun r e=>by obtain⟨h1,o,h2,A⟩:=hr r e;exact⟨h1,o,h2,A.elim .inl False.elim⟩) h hs.2;refine⟨⟨hs.1.len,?_,hs.1.rdy.lie hl⟩,Nat.le_trans hs.2 hg.size⟩;obtain⟨g,u0,u5,u7,u8,u9,u10,u11,u12,u13,u14,u15,u16,u17,u18,u19,u20,u21,u22,u23,u24,u25,u26,u27,u28,u29,u30,u31,u32,u33,u34,u35,u36,u37,u38,u39,u40,u41,u42,u43,u44,u45,u46,u47,h1,h2,A⟩:=hs.1.box;refine⟨g,u0,u5,u7,u8,u9,u10,u11,u12,u13,u14,u15,u16,u17,u18,u19,u20,u21,u22,u23,u24,u25,u26,u27,u28,u29,u30,u31,u32,u33,u34,u35,u36,u37,u38,u39,u40,u41,u42,u43,u44,u45,u46,u47,h1,h2,(hg.block g A.lt (fun e=>?_)).trans A⟩;obtain⟨_,o,ho,hf⟩:=hr g e.symm;unfold aA at A;rw[A]at ho;cases ho;rcases hf with hf|hf
 ·cases hf
 ·exact hf
theorem M4 {F:Fence} {n:Nat} (w:World) {ops:Array Oper} {rest:List Oper} {o:Oper} {a:Act} {Q:Exit->Act->World->Prop}
  (E:o.guard=none) (s x:Operand) (A:o.op=Op.call {callee:=Callee.builtin Builtin.append,args:=#[s,x],argTypes:=#[79,79]}) (G:o.type=79)
  (n₀ B C:Nat) (v u:Value) (qs rs:List PD) (hs:a.eval s=v) (hx:a.eval x=u) (hv:aY w n₀ B v qs) (hu:aY w n₀ C u rs) (hl:qs.length+rs.length<=100000) (hB:B<=w.heap.size) (hn:n₀<=B)
  (hK:∀v' w',aY w' n₀ B v' (qs++rs)->w.grownBy w' v.ownBlock->wpListIn F n Tryz.prog ops Q rest (a.put o.dst v') w'):wpListIn F n Tryz.prog ops Q (o::rest) a w:=by
 refine wpListIn_plain E fun K hK'=>?_;obtain⟨v',w',D,r1,r2,_⟩:=MT w n₀ B C v u qs rs hv hu hl hB hn;unfold Oper.wpIn;refine⟨?_,?_⟩
 ·simp[Oper.about,A,resolve,Target.leads,Sem.run_pure]
 ·rw[Oper.semAt_plain F _ _ (by rw[A];intro c hc';cases hc')];simp[execOp,A,G,resolve,invoke,builtin,hs,hx,D,Result.andThen];exact hK' _ _ (hK v' w' r1 r2)
theorem aA.putObj {W:World} {g D:Nat} {T:TypeId} {cs:Array Value} {o:Obj} (h:aA W g T cs) (hD:W.heap[D]?=some o) (ho:o.isCells=false) (o':Obj):aA (W.putObj D o') g T cs:=by refine(World.putObj_heap_other (fun e=>?_)).trans h;subst e;unfold aA at h;rw[hD]at h;cases h;cases ho
theorem JB {w:World} {b D:Nat} {v1 v2 v3:Value} {o:Obj} (h:w.heap[D]?=some o) (h1:D≠b+1) (h2:D≠b+2) (h3:D≠b+3):
  (((w.setCell ⟨b+1,0,none⟩ v1).setCell ⟨b+2,0,none⟩ v2).setCell ⟨b+3,0,none⟩ v3).heap[D]?=some o:=by rw[Below.heap_setCell _ _ _ _ (by simpa using h3),Below.heap_setCell _ _ _ _ (by simpa using h2),Below.heap_setCell _ _ _ _ (by simpa using h1)];exact h
theorem aA.ne_def {W:World} {g D:Nat} {T:TypeId} {cs:Array Value} {ds:Option (List Deferred)} (h:aA W g T cs) (hD:W.heap[D]?=some (.deferred ds)):D≠g:=fun e=>by
 subst e;unfold aA at h;rw[hD]at h;cases h
theorem fin0 {w0 w X:World} {b D:Nat} {T1 T2 T3:TypeId} {x1 x2 x3 v1 v2 v3:Value} (h1:aA w (b+1) T1 #[x1]) (h2:aA w (b+2) T2 #[x2]) (h3:aA w (b+3) T3 #[x3]) (hD:w.heap[D]?=some (.deferred (some []))) (hb:Below b w0 w) (A:b<=D)
  (hX:X=((((w.setCell ⟨b+1,0,none⟩ v1).setCell ⟨b+1+1,0,none⟩ v2).setCell ⟨b+1+1+1,0,none⟩ v3))):
  X.heap[D]?=some (.deferred (some []))/\(X.putObj D (.deferred none)).cell? ⟨b+1,0,none⟩=some v1/\(X.putObj D (.deferred none)).cell? ⟨b+1+1,0,none⟩=some v2/\(X.putObj D (.deferred none)).cell? ⟨b+1+1+1,0,none⟩=some v3/\Below b w0 (X.putObj D (.deferred none)):=by subst hX;have a1:aA (w.setCell ⟨b+1,0,none⟩ v1) (b+1) T1 #[v1]:=h1.set 0 v1;have a2:aA (w.setCell ⟨b+1,0,none⟩ v1) (b+2) T2 #[x2]:=h2.other (by simp) _;have a3:aA (w.setCell ⟨b+1,0,none⟩ v1) (b+3) T3 #[x3]:=h3.other (by simp) _;have b1:aA ((w.setCell ⟨b+1,0,none⟩ v1).setCell ⟨b+2,0,none⟩ v2) (b+1) T1 #[v1]:=a1.other (by simp) _;have b2:aA ((w.setCell ⟨b+1,0,none⟩ v1).setCell ⟨b+2,0,none⟩ v2) (b+2) T2 #[v2]:=a2.set 0 v2;have b3:aA ((w.setCell ⟨b+1,0,none⟩ v1).setCell ⟨b+2,0,none⟩ v2) (b+3) T3 #[x3]:=a3.other (by simp) _;have d1:aA (((w.setCell ⟨b+1,0,none⟩ v1).setCell ⟨b+2,0,none⟩ v2).setCell ⟨b+3,0,none⟩ v3) (b+1) T1 #[v1]:=b1.other (by simp) _;have d2:aA (((w.setCell ⟨b+1,0,none⟩ v1).setCell ⟨b+2,0,none⟩ v2).setCell ⟨b+3,0,none⟩ v3) (b+2) T2 #[v2]:=b2.other (by simp) _;have d3:aA (((w.setCell ⟨b+1,0,none⟩ v1).setCell ⟨b+2,0,none⟩ v2).setCell ⟨b+3,0,none⟩ v3) (b+3) T3 #[v3]:=b3.set 0 v3;have hd:(((w.setCell ⟨b+1,0,none⟩ v1).setCell ⟨b+2,0,none⟩ v2).setCell ⟨b+3,0,none⟩ v3).heap[D]?=some (.deferred (some [])):=JB hD (h1.ne_def hD) (h2.ne_def hD) (h3.ne_def hD);have e1:=(show aA (((w.setCell ⟨b+1,0,none⟩ v1).setCell ⟨b+2,0,none⟩ v2).setCell ⟨b+3,0,none⟩ v3) (b+1) T1 #[v1] from d1).putObj hd rfl (.deferred none);have e2:=(show aA (((w.setCell ⟨b+1,0,none⟩ v1).setCell ⟨b+2,0,none⟩ v2).setCell ⟨b+3,0,none⟩ v3) (b+2) T2 #[v2] from d2).putObj hd rfl (.deferred none);have e3:=(show aA (((w.setCell ⟨b+1,0,none⟩ v1).setCell ⟨b+2,0,none⟩ v2).setCell ⟨b+3,0,none⟩ v3) (b+3) T3 #[v3] from d3).putObj hd rfl (.deferred none);have hB:Below b w0 (((w.setCell ⟨b+1,0,none⟩ v1).setCell ⟨b+2,0,none⟩ v2).setCell ⟨b+3,0,none⟩ v3):=(((hb.setCell (p:=⟨b+1,0,none⟩) (by simp) _).setCell (p:=⟨b+2,0,none⟩) (by simp) _).setCell (p:=⟨b+3,0,none⟩) (by simp) _);exact⟨hd,e1.cell 0 rfl,e2.cell 0 rfl,e3.cell 0 rfl,hB.grown (grownBy_putObj' _ D _) (by have h9:=h1.lt;have hs:(((w.setCell ⟨b+1,0,none⟩ v1).setCell ⟨b+2,0,none⟩ v2).setCell ⟨b+3,0,none⟩ v3).heap.size=w.heap.size:=(by simp[World.setCell]);rw[hs];omega) (fun k e=>by cases e;exact A)⟩
theorem UR {Y w0:World} {D b:Nat} {o o':Obj} {p1 p2 p3:Addr} {v1 v2 v3:Value} (h:Y.heap[D]?=some o) (h1:(Y.putObj D o').cell? p1=some v1) (h2:(Y.putObj D o').cell? p2=some v2) (h3:(Y.putObj D o').cell? p3=some v3) (h4:Below b w0 (Y.putObj D o')):
  Y.drew.heap[D]?=some o/\(Y.drew.putObj D o').cell? p1=some v1/\(Y.drew.putObj D o').cell? p2=some v2/\(Y.drew.putObj D o').cell? p3=some v3/\Below b w0 (Y.drew.putObj D o'):=⟨h,h1,h2,h3,h4.drew⟩
theorem AO {w0 w X:World} {b D:Nat} {T1 T2 T3:TypeId} {x1 x2 x3 v1 v2 v3:Value} (h1:aA w (b+1) T1 #[x1]) (h2:aA w (b+2) T2 #[x2]) (h3:aA w (b+3) T3 #[x3]) (hD:w.heap[D]?=some (.deferred (some []))) (hb:Below b w0 w) (A:b<=D)
  (hX:X=((((w.setCell ⟨b+1,0,none⟩ v1).setCell ⟨b+1+1,0,none⟩ v2).setCell ⟨b+1+1+1,0,none⟩ v3).drew)):
  X.heap[D]?=some (.deferred (some []))/\(X.putObj D (.deferred none)).cell? ⟨b+1,0,none⟩=some v1/\(X.putObj D (.deferred none)).cell? ⟨b+1+1,0,none⟩=some v2/\(X.putObj D (.deferred none)).cell? ⟨b+1+1+1,0,none⟩=some v3/\Below b w0 (X.putObj D (.deferred none)):=by obtain⟨Y,hY⟩:=Zx ((((w.setCell ⟨b+1,0,none⟩ v1).setCell ⟨b+1+1,0,none⟩ v2).setCell ⟨b+1+1+1,0,none⟩ v3));rw[<-hY]at hX;obtain⟨k1,r1,r2,r3,r4⟩:=fin0 (w0:=w0) h1 h2 h3 hD hb A hY;clear hY;subst hX;exact UR k1 r1 r2 r3 r4
theorem VM {n₀ b:Nat} {w:World} {x1 x2 x3 v1 v2 v3:Value} (h1:aA w (b+1) 30 #[x1]) (h2:aA w (b+2) 79 #[x2]) (h3:aA w (b+3) 48 #[x3]) (hn:n₀<=b):
  cM n₀ lF w (((w.setCell ⟨b+1,0,none⟩ v1).setCell ⟨b+1+1,0,none⟩ v2).setCell ⟨b+1+1+1,0,none⟩ v3):=by have a2:aA (w.setCell ⟨b+1,0,none⟩ v1) (b+2) 79 #[x2]:=h2.other (by simp) _;have a3:aA (w.setCell ⟨b+1,0,none⟩ v1) (b+3) 48 #[x3]:=h3.other (by simp) _;have b3:aA ((w.setCell ⟨b+1,0,none⟩ v1).setCell ⟨b+2,0,none⟩ v2) (b+3) 48 #[x3]:=a3.other (by simp) _;exact((cM.set h1 (by omega) (.inr (.inl rfl)) 0 _).trans (cM.set a2 (by omega) (.inr (.inr rfl)) 0 _)).trans (cM.set b3 (by omega) (.inl rfl) 0 _)
theorem cM.putObj {n₀ D:Nat} {Ts:TypeId->Prop} {W:World} {o o':Obj} (hD:W.heap[D]?=some o) (ho:o.isCells=false) (hn:n₀<=D):cM n₀ Ts W (W.putObj D o'):=
 ⟨(Zc n₀ W).grown (grownBy_putObj' W D o') (by have:=(Array.getElem?_eq_some_iff.1 hD).1;omega) (fun k e=>by cases e;exact hn),fun k cs T fz hT hk=>by
  refine(World.putObj_heap_other (fun e=>?_)).trans hk;subst e;rw[hD]at hk;cases hk;cases ho⟩
theorem UV {w w':World} {n₀ B:Nat} {Ts:TypeId->Prop} {e:TypeId} {s n:Nat} {v:Value} {xs:List Value} (h:w.ownsRow B e s v n xs) (hs:cM n₀ Ts w w') (hT:¬Ts e):w'.ownsRow B e s v n xs:=by
 refine⟨h.1,?_⟩;rcases h.2 with hn|⟨g,cap,cur,rfl,hb,hg,r⟩
 ·exact .inl hn
 ·exact .inr ⟨g,cap,cur,rfl,hb,hs.kept g cur _ _ hT hg,r⟩
theorem uH {d:bI} (hg:dM d=true) (hf:dQ d.input=true):eN d=match bV true d.input d.lays with
  |none=>none
  |some p=>if d.loss=1/\p.1.length≠1 then none else some p:=by rw[eN,hg,hf];rfl
theorem ET {w w0:World} {b:Nat} {T1 T2 T3:TypeId} {x1 x2 x3 v1 v2 v3:Value} (h1:aA w (b+1) T1 #[x1]) (h2:aA w (b+2) T2 #[x2]) (h3:aA w (b+3) T3 #[x3]) (hb:Below b w0 w):
  (((w.setCell ⟨b+1,0,none⟩ v1).setCell ⟨b+2,0,none⟩ v2).setCell ⟨b+3,0,none⟩ v3).cell? ⟨b+1,0,none⟩=some v1/\(((w.setCell ⟨b+1,0,none⟩ v1).setCell ⟨b+2,0,none⟩ v2).setCell ⟨b+3,0,none⟩ v3).cell? ⟨b+2,0,none⟩=some v2/\
  (((w.setCell ⟨b+1,0,none⟩ v1).setCell ⟨b+2,0,none⟩ v2).setCell ⟨b+3,0,none⟩ v3).cell? ⟨b+3,0,none⟩=some v3/\Below b w0 (((w.setCell ⟨b+1,0,none⟩ v1).setCell ⟨b+2,0,none⟩ v2).setCell ⟨b+3,0,none⟩ v3)/\
  (w.setCell ⟨b+1,0,none⟩ v1).frozen? ⟨b+2,0,none⟩=false/\((w.setCell ⟨b+1,0,none⟩ v1).setCell ⟨b+2,0,none⟩ v2).frozen? ⟨b+3,0,none⟩=false/\(w.setCell ⟨b+1,0,none⟩ v1).cell? ⟨b+2,0,none⟩=some x2/\((w.setCell ⟨b+1,0,none⟩ v1).setCell ⟨b+2,0,none⟩ v2).cell? ⟨b+3,0,none⟩=some x3:=by have a1:aA (w.setCell ⟨b+1,0,none⟩ v1) (b+1) T1 #[v1]:=h1.set 0 v1;have a2:aA (w.setCell ⟨b+1,0,none⟩ v1) (b+2) T2 #[x2]:=h2.other (by simp) _;have a3:aA (w.setCell ⟨b+1,0,none⟩ v1) (b+3) T3 #[x3]:=h3.other (by simp) _;have b1:aA ((w.setCell ⟨b+1,0,none⟩ v1).setCell ⟨b+2,0,none⟩ v2) (b+1) T1 #[v1]:=a1.other (by simp) _;have b2:aA ((w.setCell ⟨b+1,0,none⟩ v1).setCell ⟨b+2,0,none⟩ v2) (b+2) T2 #[v2]:=a2.set 0 v2;have b3:aA ((w.setCell ⟨b+1,0,none⟩ v1).setCell ⟨b+2,0,none⟩ v2) (b+3) T3 #[x3]:=a3.other (by simp) _;have d1:aA (((w.setCell ⟨b+1,0,none⟩ v1).setCell ⟨b+2,0,none⟩ v2).setCell ⟨b+3,0,none⟩ v3) (b+1) T1 #[v1]:=b1.other (by simp) _;have d2:aA (((w.setCell ⟨b+1,0,none⟩ v1).setCell ⟨b+2,0,none⟩ v2).setCell ⟨b+3,0,none⟩ v3) (b+2) T2 #[v2]:=b2.other (by simp) _;have d3:aA (((w.setCell ⟨b+1,0,none⟩ v1).setCell ⟨b+2,0,none⟩ v2).setCell ⟨b+3,0,none⟩ v3) (b+3) T3 #[v3]:=b3.set 0 v3;exact⟨d1.cell 0 rfl,d2.cell 0 rfl,d3.cell 0 rfl,((hb.setCell (p:=⟨b+1,0,none⟩) (by simp) _).setCell (p:=⟨b+2,0,none⟩) (by simp) _).setCell (p:=⟨b+3,0,none⟩) (by simp) _,a2.free 0,b3.free 0,a2.cell 0 rfl,b3.cell 0 rfl⟩
attribute [local go_sem] Oper.semAt_some
theorem LS (oi:Option Addr) (ci:Nat) (ol:Option Addr) (cl:Nat) (d:bI) (w:World) (h:fZ w (.slice oi d.input.length ci) (.slice ol d.lays.length cl) d) (dl:d.input.length<=ci):
  Calls Tryz.prog 157 #[.agg #[.slice oi d.input.length ci,.slice ol d.lays.length cl,.int .i64 d.loss]] w (EP w d):=by
 have HD:=Za h;clear h;refine callsIn_wide.1 (?_:CallsIn Fence.wide 9 _ _ _ _ _);refine callsIn_of_wp_marks Tryz.func157 rfl trivial ?_ rfl;simp only[Tryz.ntmps157,List.size_toArray,List.length_cons,List.length_nil,Nat.reduceAdd,Nat.reduceSub,Array.replicate_succ,Array.replicate_zero,List.push_toArray,List.append_toArray,List.nil_append,List.cons_append];refine wpIn_wide.2 ?_;go_wp2_with fail;obtain⟨b,hb⟩:=Zx w.heap.size;obtain⟨W4,ad⟩:=Zx ((((w.alloc (.cells #[.slice oi d.input.length ci,.slice ol d.lays.length cl,.int .i64 d.loss] 33)).alloc (.cells #[.slice none 0 0] 30)).alloc (.cells #[.slice none 0 0] 79)).alloc (.cells #[.int .i64 0] 48));have al:aA W4 b 33 #[.slice oi d.input.length ci,.slice ol d.lays.length cl,.int .i64 d.loss]:=by rw[ad,hb];exact(((aA.new w _ _).next ((Zc _ _).alloc (Zb _) _)).next ((Zc _ _).alloc (Zb _) _)).next ((Zc _ _).alloc (Zb _) _)
 have B:aA W4 (b+1) 30 #[.slice none 0 0]:=by rw[ad,hb,<-World.size_alloc w];exact((aA.new _ _ _).next ((Zc _ _).alloc (Zb _) _)).next ((Zc _ _).alloc (Zb _) _)
 have C:aA W4 (b+2) 79 #[.slice none 0 0]:=by rw[ad,hb,show w.heap.size+2=((w.alloc (.cells #[.slice oi d.input.length ci,.slice ol d.lays.length cl,.int .i64 d.loss] 33)).alloc (.cells #[.slice none 0 0] 30)).heap.size by simp];exact(aA.new _ _ _).next ((Zc _ _).alloc (Zb _) _)
 have ae:aA W4 (b+3) 48 #[.int .i64 0]:=by rw[ad,hb,show w.heap.size+3=(((w.alloc (.cells #[.slice oi d.input.length ci,.slice ol d.lays.length cl,.int .i64 d.loss] 33)).alloc (.cells #[.slice none 0 0] 30)).alloc (.cells #[.slice none 0 0] 79)).heap.size by simp];exact aA.new _ _ _
 have A:Below w.heap.size w W4:=by rw[ad];exact(((((Zc _ _).alloc (Zb _) _).alloc (by simp) _).alloc (by simp;omega) _).alloc (by simp;omega) _)
 rw[<-ad,<-hb];have HX:=Za (Zd al (Zd B (Zd C (Zd ae A))));have Y:=Za hb;obtain⟨c0,c1,c2⟩:=al.r3;have bj:=Za (HD.o.next A);clear ad al B C ae A hb;refine wp_scope_straight ?_;cases hg:dM d with
 |false=>
  have HN:=Za (show eN d=none from by rw[eN,hg];rfl);have HG:=Za hg;clear hg;go_wp2_with(go_at_call 99;refine(vO _ _ d _ bj.o).mono ?_;rintro e w1 ⟨rfl,H⟩;rw[HG.o];refine aD ?_);have N:=Za (ET (v1:=.slice none 0 0) (v2:=.slice none 0 0) (v3:=.int .i64 1) (HX.o.2.1.next H) (HX.o.2.2.1.next H) (HX.o.2.2.2.1.next H) (by rw[Y.o];exact HX.o.2.2.2.2.trans (H.mono HX.o.2.2.2.2.size)));have d1:w1.cell? ⟨b+1,0,none⟩=some (.slice none 0 0):=(HX.o.2.1.next H).cell 0 rfl;have f1:=(HX.o.2.1.next H).free 0;have r1:=N.o.1;have r2:=N.o.2.1;have r3:=N.o.2.2.1;have f2:=N.o.2.2.2.2.1;have f3:=N.o.2.2.2.2.2.1;have d2:=N.o.2.2.2.2.2.2.1;have d3:=N.o.2.2.2.2.2.2.2;clear H c0 c1 c2;refine aC ?_;go_wp2_with fail;refine⟨.tuple #[.slice none 0 0,.slice none 0 0,.int .i64 1],by simp[results,Tryz.results157,go_sem,r1,r2,r3],?_⟩;exact⟨by have:=N.o.2.2.2.1;rw[Y.o]at this ⊢;exact this,.inl ⟨HN.o,1,by decide,rfl⟩⟩
 |true=>
  obtain⟨eg,eh,ei,ej,_⟩:=nG hg;have HG:=Za hg;clear hg;go_wp2_with(go_at_call 99;refine(vO _ _ d _ bj.o).mono ?_;rintro e w1 ⟨rfl,H⟩;rw[HG.o];refine aD ?_);have I:=Za (Zd (HX.o.1.next H) (Zd (HX.o.2.1.next H) (Zd (HX.o.2.2.1.next H) (Zd (HX.o.2.2.2.1.next H) (HX.o.2.2.2.2.trans (H.mono HX.o.2.2.2.2.size))))));have ch:=Za (bj.o.next H);have c0:=I.o.1.q 0 rfl;clear H c1 c2 HX bj;refine aC ?_;cases hf:dQ d.input with
  |false=>
   have HN:=Za (show eN d=none from by rw[eN,HG.o,hf];rfl);have HF:=Za hf;clear hf;go_wp2_with(go_at_call 181;refine(tY _ _ _ d.input _ ch.o.input (by omega)).mono ?_;rintro e w2 ⟨rfl,G⟩;rw[HF.o];refine aD ?_);have N:=Za (ET (v1:=.slice none 0 0) (v2:=.slice none 0 0) (v3:=.int .i64 5) (I.o.2.1.next G) (I.o.2.2.1.next G) (I.o.2.2.2.1.next G) (by rw[Y.o];exact I.o.2.2.2.2.trans (G.mono I.o.2.2.2.2.size)));have d1:w2.cell? ⟨b+1,0,none⟩=some (.slice none 0 0):=(I.o.2.1.next G).cell 0 rfl;have f1:=(I.o.2.1.next G).free 0;have r1:=N.o.1;have r2:=N.o.2.1;have r3:=N.o.2.2.1;have f2:=N.o.2.2.2.2.1;have f3:=N.o.2.2.2.2.2.1;have d2:=N.o.2.2.2.2.2.2.1;have d3:=N.o.2.2.2.2.2.2.2;clear G c0;refine aC ?_;go_wp2_with fail;refine⟨.tuple #[.slice none 0 0,.slice none 0 0,.int .i64 5],by simp[results,Tryz.results157,go_sem,r1,r2,r3],?_⟩;exact⟨by have:=N.o.2.2.2.1;rw[Y.o]at this ⊢;exact this,.inl ⟨HN.o,5,by decide,rfl⟩⟩
  |true=>
   have HF:=Za hf;clear hf;go_wp2_with(go_at_call 181;refine(tY _ _ _ d.input _ ch.o.input (by omega)).mono ?_;rintro e w2 ⟨rfl,G⟩;rw[HF.o];refine aD ?_);have cj:=I.o.1.next G;have af:=I.o.2.1.next G;have Z:=I.o.2.2.1.next G;have O:=I.o.2.2.2.1.next G;have ar:=I.o.2.2.2.2.trans (G.mono I.o.2.2.2.2.size);have c0:=cj.q 0 rfl;have d1:=af.q 0 rfl;have f1:=af.free 0;have cq:aA (w2.setCell ⟨b+1,0,none⟩ (.slice oi d.input.length ci)) b 33 _:=cj.other (by simp) _;have cr:aA (w2.setCell ⟨b+1,0,none⟩ (.slice oi d.input.length ci)) (b+1) 30 #[.slice oi d.input.length ci]:=af.set 0 _;have au:aA (w2.setCell ⟨b+1,0,none⟩ (.slice oi d.input.length ci)) (b+2) 79 _:=Z.other (by simp) _;have ct:aA (w2.setCell ⟨b+1,0,none⟩ (.slice oi d.input.length ci)) (b+3) 48 _:=O.other (by simp) _;have av:Below w.heap.size w (w2.setCell ⟨b+1,0,none⟩ (.slice oi d.input.length ci)):=ar.setCell (p:=⟨b+1,0,none⟩) (by rw[Y.o];simp) _;have HZ:=Za (Zd cq (Zd cr (Zd au (Zd ct av))));clear G cj af Z O ar cq cr au ct av I ch;refine aC ?_;go_wp2_with fail;refine wp_label ?_;clear c0 d1 f1;obtain⟨W5,cu⟩:=Zx (w2.setCell ⟨b+1,0,none⟩ (.slice oi d.input.length ci));rw[<-cu]at HZ ⊢;clear cu;obtain⟨e0,e1,e2⟩:=HZ.o.1.r3;go_wp2_with(go_at_call 182;refine(OH _ _ _ _ _ _ _ _).mono ?_;rintro e w3 ⟨rfl,bk⟩;refine aD ?_);have ao:Below W5.heap.size W5 w3:=by rw[bk];exact(Zc _ _).alloc (Zb _) _
   have cw:aA w3 W5.heap.size 33 #[.slice oi d.input.length ci,.slice ol d.lays.length cl,.int .i64 d.loss]:=by rw[bk];exact aA.new _ _ _
   have P:=HZ.o.2.2.2.2.trans (ao.mono HZ.o.2.2.2.2.size);have ck:aM w.heap.size w3 (.slice oi d.input.length ci) d.input:=(aM.of_rd (n₀:=w.heap.size) HD.o.input (Zb _) (fun o n c e=>by cases e;exact dl)).below P;have dm:=Za (show oT w w3.heap.size b oi ci ol cl d [] w3 from⟨fun x hx=>by simp at hx,P,Zb _,HZ.o.1.next ao,HZ.o.2.2.2.1.next ao,oi,ci,none,0,0,[],HZ.o.2.1.next ao,HZ.o.2.2.1.next ao,ck,aY.nil _ _ _,rfl,by simp,by simp only[iA,List.foldl_nil];omega⟩);obtain⟨bs,cx⟩:=ED HG.o;have cy:=SA w w3 8 W5.heap.size oi ci (.slice ol d.lays.length cl) d P cw ck (CM HF.o).1 HD.o.lays bs cx (FI HG.o);have bl:w.heap.size<=w3.heap.size:=P.size;have dn:=Za cy
   try rw[<-bk]
   clear ao cw P ck cy bk e0 e1 e2 HZ bs cx;refine aC ?_;go_wp2_with fail;refine(wpIn_wide (n:=9)).1 ?_;refine RZ (ik:=iB) rfl (by omega) (gf:=194) (lb:=#[.pointer (some ⟨W5.heap.size,0,none⟩)]) rfl trivial (enters_of Tryz.func194 (by kernel_rfl) rfl)
    dn.o (fun r ⟨cs,fz,h⟩=>by cases h) (fun r ⟨cs,fz,h⟩=>by cases h) (fun h k=>h.trans k) ?hkb (Zc _ _) (fun _=>rfl)
    (fun pre W=>oT w w3.heap.size b oi ci ol cl d pre W) (fun c pre W=>c=.exit 0/\pG w b d pre W) (R5 bl) (fun c=>LY c bl) dm.o
    (fun pre x a' W=>FU w.heap.size w3.heap.size b pre x a' W/\w.heap.size<=W.heap.size) (fun p x a'=>K5 bl)
    ?assign ?body ?done ?stop
   case hkb=>exact fun W l o o' hl ho hc _=>dG.put (Nat.le_trans bl hl) ho hc
   case assign=>
    intro l pre x W K hI ⟨bt,ak⟩ hK;have HI:=Za hI;have HR:=Za ak;have HK:=Za hK;obtain⟨n,ob,nb,cb,oi',ni,ci',oo,no,co,ov,nv,cv,first,nm,fin,aw,hz⟩:=ak;obtain⟨xk,xcs,xbad,xout,xps⟩:=x;simp only at aw;subst aw;simp only[nW,cJ];clear hI hK hz
    gi_wp2
    refine HK.o _ _ ((KeepsOthers.alloc _ _).from _) (dG.below ((Zc _ _).alloc (Zb _) _) HI.o.low.size) (HI.o.lie (iJ.of_below ((Zc _ _).alloc (Zb _) _) HI.o.low.size)) ?_;refine⟨⟨bt,⟨W.heap.size,_,_,_,_,_,_,_,_,_,_,_,_,_,_,_,_,_,_,_,_,_,_,_,_,_,_,_,_,_,_,_,_,_,_,_,_,_,_,_,_,_,_,_,rfl,HI.o.big,aA.new _ _ _⟩,HR.o.lie (iJ.of_below ((Zc _ _).alloc (Zb _) _) HI.o.low.size)⟩,?_⟩;have:=HI.o.low.size;simp;omega
   case body=>
    rintro l pre x a' W hI ⟨⟨bt,⟨g,u0,u5,u7,u8,u9,u10,u11,u12,u13,u14,u15,u16,u17,u18,u19,u20,u21,u22,u23,u24,u25,u26,u27,u28,u29,u30,u31,u32,u33,u34,u35,u36,u37,u38,u39,u40,u41,u42,u43,u44,u45,u46,u47,rfl,ek,ax⟩,ak⟩,dp⟩;obtain⟨n,ob,nb,cb,oi',ni,ci',oo,no,co,ov,nv,cv,first,nm,fin,aw,hz⟩:=ak;obtain⟨xk,xcs,xbad,xout,xps⟩:=x;simp only at aw hz;subst aw;obtain⟨ag,A,bu,aa,E,o1,c1,o2,n2,c2,qs,B,C,ah,ab,R,ap,cm⟩:=hI;have g14:=ax.q 14 rfl;have r3:=E.q 0 rfl;have f3:=E.free 0;have el:w.heap.size<=b:=by rw[Y.o];exact Zb _
    have aq:cM w.heap.size lF W (W.setCell ⟨b+3,0,none⟩ (.int .i64 xbad)):=cM.set E (by omega) (.inl rfl) 0 _;have O:aA (W.setCell ⟨b+3,0,none⟩ (.int .i64 xbad)) (b+3) 48 #[.int .i64 xbad]:=E.set 0 _;have s3:=O.cell 0 rfl;by_cases bm:xbad=0
    ·subst bm;obtain⟨qs2,ay,az,bw,ed,da⟩:=hz rfl;have bn:=sQ ay;subst bn;obtain⟨ov',cv',db⟩:=aJ az.row;have dq:nv=qs2.length:=by injection db
     subst dq;clear db;obtain⟨ow',cw',how⟩:=aJ ab.row;have dr:n2=qs.length:=by injection how
     subst dr;clear how;have bx:aA (W.setCell ⟨b+3,0,none⟩ (.int .i64 0)) g 251 _:=ax.lieT aq (by decide);have g10:=bx.q 10 rfl;have hx1':aA (W.setCell ⟨b+3,0,none⟩ (.int .i64 0)) (b+1) 30 _:=B.other (by simp) _;have hx2':aA (W.setCell ⟨b+3,0,none⟩ (.int .i64 0)) (b+2) 79 _:=C.other (by simp) _;have r1:=hx1'.cell 0 rfl;have f1:=hx1'.free 0;obtain⟨W2,ac⟩:=Zx ((W.setCell ⟨b+3,0,none⟩ (.int .i64 0)).setCell ⟨b+1,0,none⟩ (.slice oo xout.length co));have M:cM w.heap.size lF W W2:=by rw[ac];exact aq.trans (cM.set hx1' (by omega) (.inr (.inl rfl)) 0 _)
     have dc:KeepsOthers W W2:=by rw[ac];exact(KeepsOthers.setCell _ _ _).trans (KeepsOthers.setCell _ _ _)
     have G:aA W2 g 251 _:=ax.lieT M (by decide);have bz:aA W2 (b+1) 30 #[.slice oo xout.length co]:=by rw[ac];exact hx1'.set 0 _
     have ba:aA W2 (b+2) 79 #[.slice o2 qs.length c2]:=by rw[ac];exact hx2'.other (by simp) _
     have ca:aA W2 (b+3) 48 #[.int .i64 0]:=by rw[ac];exact O.other (by simp) _
     have k2:=ba.q 0 rfl;have k11:=G.q 11 rfl;have dd:=ab.lieT M (by decide) (by decide);have cc:=az.lieT M (by decide) (by decide);have bc:=ay.lieT M (by decide);have cd:=aa.lieT M (by decide);rw[ac]at k2 k11;have HQ:=Za (Zd dd cc);have ds:=Za ac;have au:w.heap.size<=W2.heap.size:=Nat.le_trans dp M.low.size;have U:=Za (Zd bz (Zd ba (Zd ca (Zd bc (Zd cd (Zd M (Zd dc A)))))));have bo:=Za (Zd ag (Zd R (Zd ap bw)));clear aa E B C ah ab aq M O ag A R ax bx hx1' hx2' G bz ba ca dd cc bc cd ay az bw hz dc ac
     gi_wp2_with (gi_at_builtin;refine aD ?_)
     refine aC ?_;rw[<-ds.o];clear k2 k11;refine M4 W2 rfl _ _ rfl rfl w.heap.size w.heap.size w.heap.size _ _ qs qs2 rfl rfl HQ.o.1 HQ.o.2 (by omega) au (Zb _) ?_;intro v' W3 L ai;have bd:∀k,(Value.slice o2 qs.length c2).ownBlock=some k->w.heap.size<=k/\∃cur,W2.heap[k]?=some (.cells cur 161 (0,0)):=fun k hk=>by
      rcases HQ.o.1.row.2 with⟨h1,_⟩|⟨bb,cap,cur,h1,de,du,_⟩
      ·rw[h1]at hk;simp[Value.ownBlock]at hk
      ·rw[h1]at hk;simp[Value.ownBlock]at hk;subst hk;exact⟨de,cur,du⟩
     have aj:cM w.heap.size (fun T=>T=161) W2 W3:=cM.grown ai bd au rfl;obtain⟨oz,cz,rfl⟩:=aJ L.row;obtain⟨nq,df⟩:=Zx ((qs++qs2).length);rw[<-df]at L ⊢;clear df;have af:=U.o.1.lieT aj (by decide);have Z:=U.o.2.1.lieT aj (by decide);have O:=U.o.2.2.1.lieT aj (by decide);have ce:=U.o.2.2.2.1.lieT aj (by decide);have cf:=U.o.2.2.2.2.1.lieT aj (by decide);have bp:cM w.heap.size lF W3 (W3.setCell ⟨b+2,0,none⟩ (.slice oz nq cz)):=cM.set Z (by omega) (.inr (.inr rfl)) 0 _;have cg:KeepsOthers W2 W3:=KeepsOthers.of_grownBy ai (fun j o hj ho=>by obtain⟨_,cur,hc⟩:=bd j hj;rw[ho]at hc;cases hc;rfl);have k2:=Z.q 0 rfl;have f2:=Z.free 0;have bq:cM w.heap.size sA W (W3.setCell ⟨b+2,0,none⟩ (.slice oz nq cz)):=(U.o.2.2.2.2.2.1.mono (fun T h=>.inl h)).trans ((aj.mono (fun T h=>.inr h)).trans (bp.mono (fun T h=>.inl h)));have HF:=Za (show KeepsFrom w3.heap.size W (W3.setCell ⟨b+2,0,none⟩ (.slice oz nq cz))/\dG w.heap.size W (W3.setCell ⟨b+2,0,none⟩ (.slice oz nq cz))/\
       oT w w3.heap.size b oi ci ol cl d (pre++[⟨xk,cJ n (.slice ob nb cb) (.slice oi' ni ci') (.slice oo xout.length co) (.slice ov qs2.length cv) first nm 0 fin,0,xout,xps⟩]) (W3.setCell ⟨b+2,0,none⟩ (.slice oz nq cz))from by
      refine⟨((U.o.2.2.2.2.2.2.1.trans cg).trans (KeepsOthers.setCell _ _ _)).from _,bq.keepI,jJ.2 ⟨bo.o.1,mG rfl⟩,U.o.2.2.2.2.2.2.2.trans bq.low,Nat.le_trans bu bq.low.size,cf.other (by simp) _,O.other (by simp) _,?_⟩;have dv:iA d.input (pre++[(⟨xk,cJ n (.slice ob nb cb) (.slice oi' ni ci') (.slice oo xout.length co) (.slice ov qs2.length cv) first nm 0 fin,0,xout,xps⟩:bW)])=xout:=by rw[tN];rfl
      rw[dv];exact⟨oo,co,oz,_,cz,qs++qs2,af.other (by simp) _,Z.set 0 _,ce.lieT bp (by decide),L.lieT bp (by decide) (by decide),by rw[qT,bo.o.2.1,List.map_append,<-bo.o.2.2.2];simp[jV],by rw[Zl,Zl,List.length_singleton];have:=bo.o.2.2.1;omega,da⟩)
     clear aj af Z O ce cf bp cg bq L ai bd U
     gi_wp2
     exact HF.o
    ·have de:(xbad != 0)=true:=by simpa using bm
     have hE:pG w b d (pre++[⟨xk,cJ n (.slice ob nb cb) (.slice oi' ni ci') (.slice oo no co) (.slice ov nv cv) first nm xbad fin,xbad,xout,xps⟩]) (W.setCell ⟨b+3,0,none⟩ (.int .i64 xbad)):=
      ⟨fun h=>bm ((jJ.1 h).2 _ (List.mem_singleton.2 rfl)),A.trans aq.low,xbad,_,_,_,_,_,_,_,_,_,bm,aa.lieT aq (by decide),B.other (by simp) _,C.other (by simp) _,O⟩
     have HE:=Za hE;clear hE aa E B C ah ab aq O hz ag A R ap cm ax
     gi_wp2
     exact⟨(KeepsOthers.setCell _ _ _).from _,rfl,HE.o⟩
   case done=>
    rintro D xs W hD hS hI hK;obtain⟨ag,A,bu,aa,E,o1,c1,o2,n2,c2,qs,B,C,ah,ab,R,ap,cm⟩:=hI;obtain⟨p,hp,cn,cp⟩:=hS ag;rw[cp]at B ah cm;have HK:=Za hK;have b2:=aa.q 2 rfl;have e1:=B.q 0 rfl;have e2:=C.q 0 rfl;have e3:=E.q 0 rfl;have f1:=B.free 0;have f2:=C.free 0;have f3:=E.free 0;have N:=Za (Zd hp (Zd cn (Zd R ap)));by_cases be:d.loss=1/\p.1.length≠1
    ·have HN:=Za (show eN d=none from by rw[uH HG.o HF.o,hp];simp only;rw[if_pos be]);obtain⟨em,en⟩:=be;have hl2':((p.1.length:Int) != 1)=true:=by simpa using(by omega:¬(p.1.length:Int)=1)
     have dg:=B.ne_def hK;have eo:=C.ne_def hK;have dw:=E.ne_def hK;have q3:(W.setCell ⟨b+3,0,none⟩ (.int .i64 2)).cell? ⟨b+3,0,none⟩=some (.int .i64 2):=(E.set 0 _).cell 0 rfl;have w1x:aA (W.setCell ⟨b+3,0,none⟩ (.int .i64 2)) (b+1) 30 _:=B.other (by simp) _;have w2x:aA (W.setCell ⟨b+3,0,none⟩ (.int .i64 2)) (b+2) 79 _:=C.other (by simp) _;have w3x:aA (W.setCell ⟨b+3,0,none⟩ (.int .i64 2)) (b+3) 48 _:=E.set 0 _;have dh:(W.setCell ⟨b+3,0,none⟩ (.int .i64 2)).heap[D]?=some (.deferred (some [])):=(Below.heap_setCell _ _ _ _ (by simpa using dw)).trans hK;have av:Below w.heap.size w (W.setCell ⟨b+3,0,none⟩ (.int .i64 2)):=A.setCell (p:=⟨b+3,0,none⟩) (by rw[Y.o];simp) _;have F:=Za (Zd w1x (Zd w2x (Zd w3x (Zd dh av))));clear B C E aa ah ab R ap cp cn hp hS hK A w1x w2x w3x dh av ag;go_wp2_with fail;obtain⟨V,hV⟩:=Zx (W.setCell ⟨b+3,0,none⟩ (.int .i64 2));rw[<-hV]at F q3 ⊢;clear hV b2 e1 e2 e3 f1 f2 f3;have q1:=F.o.1.q 0 rfl;have q2:=F.o.2.1.q 0 rfl;have f1:=F.o.1.free 0;have f2:=F.o.2.1.free 0;have f3:=F.o.2.2.1.free 0;have bf:b<=D:=by have:=Y.o;omega
     go_region;obtain⟨X,hX⟩:=Zx (((((V.setCell ⟨b+1,0,none⟩ (.slice none 0 0)).setCell ⟨b+1+1,0,none⟩ (.slice none 0 0)).setCell ⟨b+1+1+1,0,none⟩ (.int .i64 2)).drew));obtain⟨k1,r1,r2,r3,r4⟩:=AO (w0:=w) F.o.1 F.o.2.1 F.o.2.2.1 F.o.2.2.2.1 (by rw[Y.o];exact F.o.2.2.2.2) bf hX;rw[<-hX];clear hX q1 q2 q3 f1 f2 f3;have bg:=Za r4;have bh:=Za k1;clear r4 k1;go_wp2_with fail;refine⟨by simp,.inl ⟨_,_,rfl,run_takeDeferred bh.o,?_⟩⟩;refine⟨.tuple #[.slice none 0 0,.slice none 0 0,.int .i64 2],by simp[results,Tryz.results157,go_sem,r1,r2,r3],?_⟩;exact⟨by have:=bg.o;rw[Y.o]at this;exact this,.inl ⟨HN.o,2,by decide,rfl⟩⟩
    ·have HN:=Za (show eN d=some p from by rw[uH HG.o HF.o,hp];simp only;rw[if_neg be]);have dx:=Za ah;have dy:=Za ab;have dg:=B.ne_def hK;have F:=Za (Zd B (Zd C (Zd E (Zd hK A))));have bf:b<=D:=by have:=Y.o;omega
     have bi:((d.loss==1)&&((p.1.length:Int) != 1))=false:=by
      cases h1:(d.loss==1)with
      |false=>rfl
      |true=>
       rw[Bool.true_and];have h2:d.loss=1:=by simpa using h1
       have h3:p.1.length=1:=Decidable.byContradiction fun h=>be ⟨h2,h⟩;rw[h3];rfl
     have br:(d.loss==1)=false\/((d.loss==1)=true/\((p.1.length:Int) != 1)=false):=by
      cases h1:(d.loss==1)with
      |false=>exact .inl rfl
      |true=>rw[h1,Bool.true_and]at bi;exact .inr ⟨rfl,bi⟩
     clear B C E aa ah ab R ap cp cn hp hS hK A ag be bi dg;rcases br with hc|⟨hc,ep⟩
     all_goals
      go_wp2_with fail;go_region_law(go_simp;go_at_call 123;refine(rW _ p.1 _ (dx.o.1.below (Zc _ W).drew (Zb _)) (by omega)).mono ?_;rintro e wk ⟨⟨v',rfl,L⟩,di⟩;have J:=Za (show Below W.heap.size W wk from((Zc _ W).drew).trans di);obtain⟨ovk,kvk,rfl⟩:=aJ L;have dz:=Za (bY L F.o.2.2.2.2.size);have q1:wk.cell? ⟨b+1,0,none⟩=some (.slice o1 p.1.length c1):=(F.o.1.next J.o).cell 0 rfl;have q2:wk.cell? ⟨b+2,0,none⟩=some (.slice o2 n2 c2):=(F.o.2.1.next J.o).cell 0 rfl;have q3:wk.cell? ⟨b+3,0,none⟩=some (.int .i64 0):=(F.o.2.2.1.next J.o).cell 0 rfl;have g1:=(F.o.1.next J.o).free 0;have g2:=(F.o.2.1.next J.o).free 0;have g3:=(F.o.2.2.1.next J.o).free 0;clear L di)
      all_goals
       have dj:wk.heap[D]?=some (.deferred (some [])):=(J.o.block D (Array.getElem?_eq_some_iff.1 F.o.2.2.2.1).1).trans F.o.2.2.2.1;obtain⟨X,hX⟩:=Zx (((wk.setCell ⟨b+1,0,none⟩ (.slice ovk p.1.length kvk)).setCell ⟨b+1+1,0,none⟩ (.slice o2 n2 c2)).setCell ⟨b+1+1+1,0,none⟩ (.int .i64 0));obtain⟨k1,r1,r2,r3,r4⟩:=fin0 (w0:=w) (F.o.1.next J.o) (F.o.2.1.next J.o) (F.o.2.2.1.next J.o) dj (by rw[Y.o];exact F.o.2.2.2.2.trans (J.o.mono F.o.2.2.2.2.size)) bf hX;have hL:cM w.heap.size lF wk X:=by rw[hX];exact VM (F.o.1.next J.o) (F.o.2.1.next J.o) (F.o.2.2.1.next J.o) (by rw[Y.o];exact Zb _)
       have M:cM w.heap.size lF X (X.putObj D (.deferred none)):=cM.putObj k1 rfl (by have:=Y.o;omega);have dk:cM w.heap.size lF W wk:=cM.of_below J.o F.o.2.2.2.2.size;have ea:=Za (UV dz.o (hL.trans M) (by decide));have eb:=Za (dy.o.lieT (dk.trans (hL.trans M)) (by decide) (by decide));rw[<-hX];have bg:=Za r4;have bh:=Za k1;clear dj hX hL M dk r4 k1 q1 q2 q3 g1 g2 g3;go_wp2_with fail;refine⟨by simp,.inl ⟨_,_,rfl,run_takeDeferred bh.o,?_⟩⟩;refine⟨.tuple #[.slice ovk p.1.length kvk,.slice o2 n2 c2,.int .i64 0],by simp[results,Tryz.results157,go_sem,r1,r2,r3],?_⟩;exact⟨by have:=bg.o;rw[Y.o]at this;exact this,.inr ⟨p,_,_,qs,HN.o,rfl,ea.o,eb.o,N.o.2.1.symm.trans N.o.2.2.1,by
        have h1:=uM _ _ _ _ N.o.1;have h2:=FI HG.o;have h3:=congrArg List.length (N.o.2.1.symm.trans N.o.2.2.1);rw[List.length_map]at h3;omega⟩⟩
   case stop=>
    rintro D c pre W hD hS ⟨rfl,bn,A,er,v1,v2,v3,o2,n2,c2,o3,n3,c3,E,al,B,C,ae⟩ hK;have e1:=B.q 0 rfl;have e2:=C.q 0 rfl;have e3:=ae.q 0 rfl;have f1:=B.free 0;have f2:=C.free 0;have f3:=ae.free 0;have b2:=al.q 2 rfl;have F:=Za (Zd B (Zd C (Zd ae (Zd hK A))));have HN:=Za (show eN d=none from by rw[uH HG.o HF.o,hS bn]);have bf:b<=D:=by have:=Y.o;omega
    have ee:(er != 0)=true:=by simpa using E
    have ef:(er==0)=false:=by simpa using E
    have ec:=Za E;clear al B C ae hK A hS bn E;refine wpIn_wide.2 ?_;go_wp2_with fail;go_region;obtain⟨X,hX⟩:=Zx (((((W.setCell ⟨b+1,0,none⟩ (.slice none 0 0)).setCell ⟨b+1+1,0,none⟩ (.slice none 0 0)).setCell ⟨b+1+1+1,0,none⟩ (.int .i64 er)).drew));obtain⟨k1,r1,r2,r3,r4⟩:=AO (w0:=w) F.o.1 F.o.2.1 F.o.2.2.1 F.o.2.2.2.1 (by rw[Y.o];exact F.o.2.2.2.2) bf hX;rw[<-hX];clear hX e1 e2 e3 f1 f2 f3;have bg:=Za r4;have bh:=Za k1;clear r4 k1;go_wp2_with fail;refine⟨by simp,.inl ⟨_,_,rfl,run_takeDeferred bh.o,?_⟩⟩;refine⟨.tuple #[.slice none 0 0,.slice none 0 0,.int .i64 er],by simp[results,Tryz.results157,go_sem,r1,r2,r3],?_⟩;exact⟨by have:=bg.o;rw[Y.o]at this;exact this,.inl ⟨HN.o,er,ec.o,rfl⟩⟩
def UN (w:World) (d:bI) (e:Ending) (w':World):Prop:=
 Below w.heap.size w w'/\((eN d=none/\∃er:Int,er≠0/\e=.returned (.tuple #[.slice none 0 0,.int .i64 er]))\/
  ∃p vps qs B,w.heap.size<=B/\eN d=some p/\e=.returned (.tuple #[vps,.int .i64 0])/\aY w' B B vps qs/\p.2=qs.map (·.sh)/\qs.length<=1000)
theorem NQ (oi:Option Addr) (ci:Nat) (ol:Option Addr) (cl:Nat) (d:bI) (w:World) (h:fZ w (.slice oi d.input.length ci) (.slice ol d.lays.length cl) d) (D:d.input.length<=ci):
  Calls Tryz.prog 121 #[.agg #[.slice oi d.input.length ci,.slice ol d.lays.length cl,.int .i64 d.loss]] w (UN w d):=by
 have hA:=Za (show ∀o:Obj,Below w.heap.size w (w.alloc o)from fun o=>(Zc _ _).alloc (Zb _) _);have I:=Za (fun o=>LS oi ci ol cl d _ (h.next (hA.o o)) D);clear h;go_enter Tryz.func121,Tryz.ntmps121;go_wp2_with fail;refine(I.o _).mono ?_;rintro e w1 ⟨hb,A⟩;have G:=Za ((hA.o _).trans (hb.mono (hA.o _).size));rcases A with⟨hn,er,E,rfl⟩|⟨p,vo,vps,qs,hp,rfl,ho,hq,B,C⟩
 ·have F:=Za hn;clear hn hb;go_wp2;go_ret2;exact⟨G.o,.inl ⟨F.o,er,E,rfl⟩⟩
 ·have F:=Za hp;have H:=Za (Zd hq (Zd B C));obtain⟨o5,c5,rfl⟩:=aJ ho;obtain⟨o6,c6,rfl⟩:=aJ hq.row;have J:=Za (show w.heap.size<=(w.alloc (.cells #[.slice oi d.input.length ci,.slice ol d.lays.length cl,.int .i64 d.loss] 33)).heap.size from(hA.o _).size);clear hp hb hq B C ho;go_wp2;go_ret2;exact⟨G.o,.inr ⟨p,_,qs,_,J.o,F.o,rfl,H.o.1,H.o.2⟩⟩
def gF (w:World) (v:Value) (ss:List (List Int)):Prop:=∃o cap,v=.slice o ss.length cap/\∀(k:Nat) (hk:k<ss.length),∃b off u,o=some ⟨b,off,none⟩/\w.cell? ⟨b,off+k,none⟩=some u/\Rd w .i64 u ss[k]
theorem gF.below {w w':World} {B:Nat} {v:Value} {ss:List (List Int)} (h:gF w v ss) (hB:Below B w w') (hs:w.heap.size<=B):gF w' v ss:=by obtain⟨o,cap,rfl,h⟩:=h;refine⟨o,cap,rfl,fun k hk=>?_⟩;obtain⟨b,off,u,rfl,h1,h2⟩:=h k hk;exact⟨b,off,u,rfl,(hB.cell (p:=⟨b,off+k,none⟩) (Nat.lt_of_lt_of_le (aP h1) hs)).trans h1,h2.below hB hs⟩
theorem gF.next {w w':World} {v:Value} {ss:List (List Int)} (h:gF w v ss) (hB:Below w.heap.size w w'):gF w' v ss:=h.below hB (Zb _)
theorem gF.slice {w:World} {v:Value} {ss:List (List Int)} (h:gF w v ss):∃o cap,v=.slice o ss.length cap:=by obtain⟨o,cap,rfl,_⟩:=h;exact⟨o,cap,rfl⟩
theorem gF.at {w:World} {o:Option Addr} {n cap:Nat} {ss:List (List Int)} (h:gF w (.slice o n cap) ss) (k:Nat) (hk:k<ss.length):∃b off u,o=some ⟨b,off,none⟩/\w.cell? ⟨b,off+k,none⟩=some u/\Rd w .i64 u ss[k]:=by obtain⟨o',cap',he,h⟩:=h;simp at he;obtain⟨rfl,_,_⟩:=he;exact h k hk
theorem gF.of_own {w:World} {B:Nat} {e:TypeId} {v:Value} {us:List Value} {ss:List (List Int)} (h:w.ownsRow B e 1 v ss.length us) (hr:∀(k:Nat) (hk:k<ss.length),∃u,us[k]?=some u/\Rd w .i64 u ss[k]):gF w v ss:=by
 obtain⟨o,cap,hv,_⟩:=jK h;subst hv;refine⟨o,cap,rfl,fun k hk=>?_⟩;obtain⟨u,hu,C⟩:=hr k hk;rcases h.2 with⟨he,h0⟩|⟨g,cap',cur,he,_,hg,D,E,F,ht⟩
 ·omega
 ·injection he with h1 h2 h3;subst h1;refine⟨g,0,u,rfl,?_,C⟩;have A:cur[k]?=some u:=by
   rw[<-ht,List.getElem?_take]at hu;split at hu
   ·simpa using hu
   ·cases hu
  have:=cell_of_row w g k cur _ _ hg;rw[Nat.zero_add];rw[this];exact A
theorem PA:(Tryz.prog.info? 30).map (fun i=>(i.zero,i.size,i.bytes))=some (some (.slice none 0 0),1,24):=by kernel_rfl
theorem I7 (w:World) (o:Obj) (v:Value) (e:TypeId):∀(j:Nat) (u:Value),[v][j]?=some u->((w.alloc o).alloc (.cells #[v] e)).cell? ((⟨w.heap.size+1,0,none⟩:Addr).add j)=some u:=by have h:=cell_one_new (w.alloc o) v e;rw[World.size_alloc]at h;exact h
def OO (w:World) (d:bI) (e:Ending) (w':World):Prop:=
 Below w.heap.size w w'/\((dT d=none/\∃v,e=.returned (.tuple #[v,.bool false]))\/∃v ss,dT d=some ss/\ss.length<=1000/\e=.returned (.tuple #[v,.bool true])/\gF w' v ss)
def OK (w:World) (d:bI) (e:Ending) (w':World):Prop:=
 Below w.heap.size w w'/\((dT d=none/\∃v,e=.returned (.tuple #[v,.bool false]))\/∃v ss,dT d=some ss/\ss.length<=1000/\e=.returned (.tuple #[v,.bool true])/\gF w' v ss/\∀g,v.ownBlock=some g->w.heap.size<=g)
theorem DT (oi:Option Addr) (ci:Nat) (ol:Option Addr) (cl:Nat) (d:bI) (w:World) (h:fZ w (.slice oi d.input.length ci) (.slice ol d.lays.length cl) d) (V:d.input.length<=ci):
  Calls Tryz.prog 77 #[.agg #[.slice oi d.input.length ci,.slice ol d.lays.length cl,.int .i64 d.loss]] w (OK w d):=by
 obtain⟨i0,hi,X,Y,Z⟩:=info_parts PA;have hA:=Za (show ∀o:Obj,Below w.heap.size w (w.alloc o)from fun o=>(Zc _ _).alloc (Zb _) _);have HI:=Za (fun o=>NQ oi ci ol cl d _ (h.next (hA.o o)) V);clear h;go_enter Tryz.func77,Tryz.ntmps77;go_wp2_with fail;refine(HI.o _).mono ?_;rintro e w1 ⟨hb,M⟩;have U:=Za ((hA.o _).trans (hb.mono (hA.o _).size));rcases M with⟨hn,er,N,rfl⟩|⟨p,vps,qs,B,ai,hp,rfl,hq,O,J⟩
 ·have HN:=Za (show dT d=none by rw[dT,hn];rfl);have ah:(er==0)=false:=by simpa using N
  clear hn hb N;go_wp2;go_loopw[6,16] (fun v i wr=>v=.slice none 0 0/\i=.int .i64 0/\wr=w1) (fun i _ _=>0)
  case atStart=>exact⟨rfl,rfl,rfl⟩
  case round=>
   obtain⟨rfl,rfl,rfl⟩:=hrel;go_wp2;go_ret2;exact⟨U.o,.inl ⟨HN.o,_,rfl⟩⟩
 ·have HN:=Za (show dT d=some p.2 by rw[dT,hp];rfl);have L:=Za (Zd hq (Zd O J));obtain⟨o6,c6,rfl⟩:=aJ hq.row;obtain⟨nq,G⟩:=Zx qs.length;rw[<-G]at J;have H:=Za G;have P:(qs.map (·.sh)).length=nq:=by rw[List.length_map,G]
  clear hp hb hq O G;go_wp2;rw[<-H.o];go_loopw[6,16] (fun v i wr=>∃k:Nat,k<=nq/\i=.int .i64 k/\wr.ownsRow w1.heap.size 30 1 v k ((qs.take k).map PD.vs)/\Below w1.heap.size w1 wr) (fun _ i _=>nq-(intOf i).toNat)
  case atStart=>exact⟨0,Ze _,rfl,World.ownsRow_nil _ _ _ _,Zc _ _⟩
  case round=>
   obtain⟨k,hk,rfl,A,D⟩:=hrel;by_cases aa:k<nq
   ·have C:k<qs.length:=by rw[<-H.o];exact aa
    obtain⟨b,rfl,_,c0,c1,c2,c3,_⟩:=(L.o.1.below D).at k C;have R:=Za (show qs.take (k+1)=qs.take k++[qs[k]] from List.take_succ_eq_append_getElem C);have ab:=L.o.1.one _ (List.getElem_mem C);obtain⟨os,cs,T⟩:=(L.o.1.sh _ (List.getElem_mem C)).slice;have I:=Za T;have E:=Za D;have HO:=Za A;generalize qs[k]=q at c0 c1 c2 c3 R ab I;rw[I.o]at c1;have aj:q.vs=.slice os q.sh.length cs:=I.o;clear T A D;go_wp2_with(at_builtin;refine wpList_append_own _ rfl _ _ 133 rfl w1.heap.size 30 i0 (.slice none 0 0) 1 24 Tryz.underlying133 hi X Y Z rfl (by decide) _ _ _ rfl ((HO.o.alloc _).alloc _) ⟨wr.heap.size+1,0,none⟩ 1 1 [.slice os q.sh.length cs] rfl rfl (I7 _ _ _ _) (by simp[Value.oneCell']) (by unfold maxLen;omega) (by omega) (by have:=E.o.size;simp;omega) ?_;intro v' w2 hown' F _);have ac:=Za (show Below w1.heap.size w1 w2 from((E.o.alloc E.o.size _).alloc (by have:=E.o.size;simp;omega) _).grown F (by have:=E.o.size;simp;omega) fun k hk=>(HO.o.lt k hk).1);have ad:=Za (show w2.ownsRow w1.heap.size 30 1 v' (k+1) ((qs.take (k+1)).map PD.vs) by rw[R.o,List.map_append];simpa [I.o]using hown');clear hown' F;go_roundw
    case rel=>exact⟨k+1,by omega,by go_num,ad.o,ac.o⟩
    case measure=>simp[intOf];omega
   ·obtain rfl:k=nq:=by omega
    have HS:=Za (show gF wr u6 p.2 by
     have e:p.2.length=k:=by rw[L.o.2.1,P]
     refine gF.of_own (us:=qs.map PD.vs) (B:=w1.heap.size) (e:=30) ?_ ?_
     ·rw[e];have:=A
      rwa [List.take_of_length_le (by rw[<-H.o];exact Zb _)]at this
     ·intro j hj;rw[e,H.o]at hj;refine⟨qs[j].vs,by simp[hj],?_⟩;have:=(L.o.1.sh _ (List.getElem_mem hj)).1.below D (Zb _);have e2:p.2[j]=qs[j].sh:=by simp[L.o.2.1]
      rw[e2];exact this)
    have ae:=Za (U.o.trans (D.mono U.o.size));have af:=Za (show ∀g,u6.ownBlock=some g->w.heap.size<=g from fun g hg=>Nat.le_trans U.o.size (A.lt g hg).1);have ag:=Za (show p.2.length<=1000 by rw[L.o.2.1,P];exact J);clear A D;go_wp2;go_ret2;exact⟨ae.o,.inr ⟨_,p.2,HN.o,ag.o,rfl,HS.o,af.o⟩⟩
theorem SE (oi:Option Addr) (ci:Nat) (ol:Option Addr) (cl:Nat) (d:bI) (w:World) (h:fZ w (.slice oi d.input.length ci) (.slice ol d.lays.length cl) d) (A:d.input.length<=ci):
  Calls Tryz.prog 77 #[.agg #[.slice oi d.input.length ci,.slice ol d.lays.length cl,.int .i64 d.loss]] w (OO w d):=
 (DT oi ci ol cl d w h A).mono fun e w' ⟨hb,ho⟩=>⟨hb,ho.imp id fun⟨v,ss,h1,h2,h3,h4,_⟩=>⟨v,ss,h1,h2,h3,h4⟩⟩
