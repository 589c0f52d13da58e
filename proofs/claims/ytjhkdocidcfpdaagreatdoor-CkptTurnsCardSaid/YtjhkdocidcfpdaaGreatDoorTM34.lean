/-
  A part of the proof of a law (packed by program).
-/
import Derived.Test.YtjhkdocidcfpdaaGreatDoorTM22
import Derived.Test.YtjhkdocidcfpdaaGreatDoorTM31
import Derived.Test.YtjhkdocidcfpdaaGreatDoorTM32
import Derived.Test.YtjhkdocidcfpdaaGreatDoorTM33
import Derived.Test.YtjhkdocidcfpdaaGreatDoorTM19
set_option linter.unusedVariables false
set_option linter.unusedSimpArgs false
set_option maxRecDepth 100000
set_option maxHeartbeats 16000000
open List renaming length_append → Zl
namespace Go.Proofs.YtjhkdocidcfpdaaGreatDoor
open Go.RowKit Go.Shelf Go
structure LayOk (n:aG):Prop where
 win:n.kind=2∨n.kind=8∨n.kind=9→jE n
 att:n.kind=12→(1≤n.heads∧n.heads≤4096)∧(0≤n.inn∧n.inn≤4096)
theorem RI (g n₀:Nat) (n:aG) (ob:Option Addr) (nb cb:Nat) (o:Option Addr) (cap:Nat) (first:Bool) (nm:ByteArray) (s:List Int) (w:World) (h:fI g n₀ n (.slice ob nb cb) o cap first nm s w) (hk:LayOk n):
  Calls Tryz.prog 207 #[.pointer (some ⟨g,0,none⟩)] w (eY g n₀ n (.slice ob nb cb) (.slice o s.length cap) first nm w (aK n first s)):=by
 by_cases k1:n.kind=1
 ·have hl:=(dX h.sh).1;by_cases h0:s.length=0
  ·exact PA g n₀ n ob nb cb o cap first nm s w h k1 h0
  by_cases h3:3≤s.length
  ·exact IL g n₀ n ob nb cb o cap first nm s w h k1 h3
  by_cases h1:s.length=1
  ·by_cases he:aE s 0=n.inn
   ·exact QI g n₀ n ob nb cb o cap first nm s w h k1 h1 he
   ·exact SZ g n₀ n ob nb cb o cap first nm s w h k1 h1 he
  ·have h2:s.length=2:=by omega
   by_cases he:aE s 1=n.inn
   ·exact QE g n₀ n ob nb cb o cap first nm s w h k1 h2 he
   ·exact F6 g n₀ n ob nb cb o cap first nm s w h k1 h2 he
 by_cases k2:n.kind=2
 ·have hw:=hk.win (.inl k2);cases hi:bV n s with
  |none=>exact PW g n₀ n ob nb cb o cap first nm s w h k2 hw hi.symm
  |some p=>
   by_cases he:aE s 0=n.inn
   ·exact K9 g n₀ n ob nb cb o cap first nm s w h k2 hw p hi.symm he
   ·exact M8 g n₀ n ob nb cb o cap first nm s w h k2 hw p hi.symm he
 by_cases k8:n.kind=8
 ·exact S3 g n₀ n ob nb cb o cap first nm s w h k8 (hk.win (.inr (.inl k8)))
 by_cases k9:n.kind=9
 ·exact P8 g n₀ n ob nb cb o cap first nm s w h k9 (hk.win (.inr (.inr k9)))
 by_cases k10:n.kind=10
 ·exact I7 g n₀ n ob nb cb o cap first nm s w h k10
 by_cases k11:n.kind=11
 ·exact S6 g n₀ n ob nb cb o cap first nm s w h k11
 by_cases k12:n.kind=12
 ·obtain⟨hh,hi⟩:=hk.att k12;by_cases h2:s.length=2
  ·by_cases he:aE s 1=n.inn
   ·by_cases hm:n.inn%n.heads=0
    ·exact JM g n₀ n ob nb cb o cap first nm s w h k12 h2 he hh hi hm
    ·exact NN g n₀ n ob nb cb o cap first nm s w h k12 h2 he hh hi hm
   ·exact TF g n₀ n ob nb cb o cap first nm s w h k12 h2 he
  ·exact JO g n₀ n ob nb cb o cap first nm s w h k12 h2
 exact TS g n₀ n ob nb cb o cap first nm s w h ⟨k1,k2,k8,k9,k10,k11,k12⟩
theorem DV:t6:=fun g n₀ n ob nb cb o cap first nm s w h hk=>I3 g n₀ n _ _ first nm s w (dX h.sh).1 h.box.lt (RI g n₀ n ob nb cb o cap first nm s w h ⟨hk.1,hk.2⟩)
theorem RL {Q:Exit→Act→World→Prop}:∀e a w,oA (fun a w=>Q .normal a w) e a w→Q e a w
 |.normal,_,_,h=>h
 |.ret,_,_,h=>(h:False).elim
 |.exit _,_,_,h=>(h:False).elim
 |.goto _,_,_,h=>(h:False).elim
 |.panic _,_,_,h=>(h:False).elim
 |.outgrown,_,_,h=>(h:False).elim
theorem xW {n₀ c:Nat} {J Jx:List bR→World→Prop} {pre xs xs':List bR} {none_:Prop} {s:List Int} {res:Option (List Int×List (List Int))} {v:Value} {W W':World} (hx:gR xs) (hn:none_→res=none) (h:tS J Jx (pre++xs) xs' none_ W'):
  zC n₀ J Jx c pre s res W (.returned (.tuple #[v,.bool false])) W':=by
 refine .inr ⟨v,xs++xs',rfl,?_⟩;rcases h with⟨h1,h2⟩|⟨h1,h2⟩
 ·exact .inl ⟨by rw[←List.append_assoc];exact h1,fun h=>h2 (jA.1 h).2⟩
 ·exact .inr ⟨by rw[←List.append_assoc];exact h1,fun h=>hn (h2 fun h'=>h (jA.2 ⟨hx,h'⟩))⟩
theorem S1 (first:Bool) (lb k:Nat) (k0 k1 k2 k3 k4 k5 k6 k7:Int) (ob:Option Addr) (nb cb:Nat) (os:Option Addr) (ns cs:Nat) (name:ByteArray) (w5:World) (u0 u4 u5 u6 u7 u8 u9 u10 u11 u14 u15 u16 u17 u18 u19 u20 u21 u22 u23 u24 u25 u26 u27 u28 u29 u30 u31 u32 u33 u34 u35 u36 u37 u38 u39 u40 u41 u42 u43 u44 u45 u46 u47 u48 u49 u50 u51 u52 u53 u54 u55 u56 u57 u58 u59 u60 u61 u62 u63 u64 u65 u66 u67 u68 u69 u70 u71 u72 u73 u74 u75 u76 u77 u78 u79 u80 u81 u82 u83 u84 u85 u86 u87 u88 u89 u90:Value)
  (hl:aA w5 lb 175 #[.int .i64 k0,.int .i64 k1,.int .i64 k2,.int .i64 k3,.int .i64 k4,.int .i64 k5,.int .i64 k6,.int .i64 k7,.slice ob nb cb]) (hk:k<100) (hn:name.size≤1000)
  (K:Act→World→Prop) (hQ:∀(nk:ByteArray),nk.size≤21→∀(t24 t25 t26 t27 t28 t29 t30 t31 t32 t33 t34 t35:Value) (w':World),Below w5.heap.size w5 w'→w'.heap.size=w5.heap.size+1→aA w' w5.heap.size 251 (cG ⟨k0,k1,k2,k3,k4,k5,k6,k7⟩ (.slice ob nb cb) (.slice os ns cs) (.slice none 0 0) (.slice none 0 0) (first&&decide (k=0)) (name++nk) 0 false)→K ⟨#[u0,.string name,.bool first,.slice os ns cs,u4,u5,u6,u7,u8,u9,u10,u11,.int .i64 k,.pointer (some ⟨lb,0,none⟩),.pointer (some ⟨w5.heap.size,0,none⟩),u15,u16,u17,u18,u19,u20,u21,u22,u23,t24,t25,t26,t27,t28,t29,t30,t31,t32,t33,t34,t35,u36,u37,u38,u39,u40,u41,u42,u43,u44,u45,u46,u47,u48,u49,u50,u51,u52,u53,u54,u55,u56,u57,u58,u59,u60,u61,u62,u63,u64,u65,u66,u67,u68,u69,u70,u71,u72,u73,u74,u75,u76,u77,u78,u79,u80,u81,u82,u83,u84,u85,u86,u87,u88,u89,u90],[]⟩ w'):
  Code.wp Tryz.prog (wS 4) (oA K) ⟨#[u0,.string name,.bool first,.slice os ns cs,u4,u5,u6,u7,u8,u9,u10,u11,.int .i64 k,.pointer (some ⟨lb,0,none⟩),u14,u15,u16,u17,u18,u19,u20,u21,u22,u23,u24,u25,u26,u27,u28,u29,u30,u31,u32,u33,u34,u35,u36,u37,u38,u39,u40,u41,u42,u43,u44,u45,u46,u47,u48,u49,u50,u51,u52,u53,u54,u55,u56,u57,u58,u59,u60,u61,u62,u63,u64,u65,u66,u67,u68,u69,u70,u71,u72,u73,u74,u75,u76,u77,u78,u79,u80,u81,u82,u83,u84,u85,u86,u87,u88,u89,u90],[]⟩ w5:=by
 cases first with
 |false=>exact E6 lb k k0 k1 k2 k3 k4 k5 k6 k7 ob nb cb os ns cs name w5 _ _ _ _ _ _ _ _ _ _ _ _ _ _ _ _ _ _ _ _ _ _ _ _ _ _ _ _ _ _ _ _ _ _ _ _ _ _ _ _ _ _ _ _ _ _ _ _ _ _ _ _ _ _ _ _ _ _ _ _ _ _ _ _ _ _ _ _ _ _ _ _ _ _ _ _ _ _ _ _ _ _ _ _ _ _ hl hk hn K hQ
 |true=>
  have e:((k:Int)==0)=(true&&decide (k=0)):=by rw[Bool.true_and,Bool.eq_iff_iff,beq_iff_eq,decide_eq_true_eq];omega
  refine O3 lb k k0 k1 k2 k3 k4 k5 k6 k7 ob nb cb os ns cs name w5 _ _ _ _ _ _ _ _ _ _ _ _ _ _ _ _ _ _ _ _ _ _ _ _ _ _ _ _ _ _ _ _ _ _ _ _ _ _ _ _ _ _ _ _ _ _ _ _ _ _ _ _ _ _ _ _ _ _ _ _ _ _ _ _ _ _ _ _ _ _ _ _ _ _ _ _ _ _ _ _ _ _ _ _ _ _ hl hk hn K ?_;rw[e];exact hQ
attribute [local go_sem] Oper.semAt_some
theorem xM (hJG:t6) (w₀:World) (l B0:Nat) (hB0:w₀.heap.size≤B0) (J Jx:List bR→World→Prop) (hJ:gE gW B0 J) (hJx:gE gW B0 Jx) (hY:rB Tryz.prog w₀.heap.size l J Jx)
  (ls:List aB) (hall:∀x∈ls,qH Tryz.prog 195 w₀ l B0 J Jx x.body):qH Tryz.prog 195 w₀ l B0 J Jx ls:=by
 intro m d vl name first o cap s pre W hlr hok hll hbw hBW hs hsh hnm hcl hJ0;obtain⟨ol,cl,rfl⟩:=hlr.len;have HLR:=Za hlr;have HOK:=Za hok;have HY:=Za hY;have HJA:=Za (Zd hJ hJx);have HJG:=Za hJG;have HALL:=Za hall;have H0:=Za (Zd hbw (Zd hBW (Zd hs (Zd hsh hJ0))));have HB0:=Za hB0;clear hlr hok hY hJ hJx hall hbw hBW hs hsh hJ0 hJG hB0;refine callsIn_of_wp Tryz.func195 rfl trivial ?_ rfl;simp only[Tryz.ntmps195,List.size_toArray,List.length_cons,List.length_nil,Nat.reduceAdd,Nat.reduceSub,Array.replicate_succ,Array.replicate_zero,List.push_toArray,List.append_toArray,List.nil_append,List.cons_append]
 gi_wp2
 gi_loopw [3,19] (fun vs i wr=>∃(k:Nat) (s2:List Int) (o2:Option Addr) (c2:Nat) (xs:List bR) (ps:List (List Int)),k≤ls.length∧i=.int .i64 k∧vs=.slice o2 s2.length c2∧Hid (bT first s (ls.take k)=some (s2,ps))∧Hid (aM w₀.heap.size wr (.slice o2 s2.length c2) s2)∧Hid (bA s2=true)∧Hid (J (pre++xs) wr)∧Hid (gR xs∧jM xs=ps∧hO s xs=s2)∧Hid (cZ w₀.heap.size W wr)∧Hid (xs.length≤2*aR (ls.take k))) (fun _ i _=>ls.length-(intOf i).toNat)
 case atStart=>exact⟨0,s,o,cap,[],[],Ze _,rfl,rfl,Za (by rw[List.take_zero,rR]),Za H0.o.2.2.1,Za H0.o.2.2.2.1,Za (by rw[List.append_nil];exact H0.o.2.2.2.2),Za ⟨fun x h=>by simp at h,rfl,rfl⟩,Za (cZ.refl _ _),Za (by simp)⟩
 case round=>
  obtain⟨k,s2,o2,c2,xs,ps,hk,rfl,rfl,HP,HS,HSH,HJ,HX,HKI,HCN⟩:=hrel;obtain⟨w1,rfl⟩:∃w1,w1=wr:=⟨_,rfl⟩;by_cases hlt:k<ls.length
  ·obtain⟨b,off,vb,rfl,hcell,hlb,hlim⟩:=HLR.o.lay k hlt;obtain⟨ob,cb,rfl⟩:=hlb.len;have hlow:=H0.o.1.trans HKI.o.low;obtain⟨n,hn⟩:∃n,n=(ls[k]).n:=⟨_,rfl⟩;obtain⟨body,hbody⟩:∃body,body=(ls[k]).body:=⟨_,rfl⟩;rw[←hn,←hbody]at hcell;rw[←hbody]at hlb hlim;have e:∀j u,(n.cells (.slice ob body.length cb))[j]?=some u→w1.cell? ⟨b,off+k*9+j,none⟩=some u:=fun j u hu=>(hlow.cell (p:=⟨b,off+k*9+j,none⟩) (aP (hcell j u hu))).trans (hcell j u hu);have a0:=e 0 _ rfl;have a1:=e 1 _ rfl;have a2:=e 2 _ rfl;have a3:=e 3 _ rfl;have a4:=e 4 _ rfl;have a5:=e 5 _ rfl;have a6:=e 6 _ rfl;have a7:=e 7 _ rfl;have a8:=e 8 _ rfl;rw[Nat.add_zero]at a0;have HLK:=Za (show ls[k]=.mk n body by rw[hn,hbody];exact aB.eta _);have HLB:=Za hlb;clear e hcell hn hbody hlb
   gi_wp2
   obtain⟨W2,hW2⟩:∃W2,W2=w1.alloc (.cells #[.int .i64 n.kind,.int .i64 n.inn,.int .i64 n.o,.int .i64 n.size,.int .i64 n.stride,.int .i64 n.pad,.int .i64 n.percent,.int .i64 n.heads,.slice ob body.length cb] 175):=⟨_,rfl⟩;have hbl:aA W2 w1.heap.size 175 #[.int .i64 n.kind,.int .i64 n.inn,.int .i64 n.o,.int .i64 n.size,.int .i64 n.stride,.int .i64 n.pad,.int .i64 n.percent,.int .i64 n.heads,.slice ob body.length cb]:=by rw[hW2];exact aA.new _ _ _
   have hb2:Below w1.heap.size w1 W2:=by rw[hW2];exact(Zc _ _).alloc (Zb _) _
   rw[←hW2];obtain⟨lb,hlb⟩:∃lb,lb=w1.heap.size:=⟨_,rfl⟩;have hlb2:lb<W2.heap.size:=by rw[hlb,hW2];simp
   have hlbW:W.heap.size≤lb:=by rw[hlb];exact HKI.o.low.size
   rw[←hlb]at hbl ⊢;have HBL:=Za hbl;have HS2:=Za (HS.o.below hb2);have HJ2:=Za (HJA.o.1.below HJ.o hb2);have HK2:=Za (HKI.o.past hb2 HKI.o.low.size (Nat.le_trans (Nat.le_trans HB0.o H0.o.2.1) HKI.o.low.size));clear hW2 hb2 hbl hlb a0 a1 a2 a3 a4 a5 a6 a7 a8 HS HJ HKI hlow;have hns:name.size≤1000:=by omega
   have HWS:=Za (show B0≤W.heap.size∧w₀.heap.size≤W.heap.size from⟨H0.o.2.1,Nat.le_trans HB0.o H0.o.2.1⟩);obtain⟨kd,k1,k2,k3,k4,k5,k6,k7⟩:=n;refine wpIn_wide.2 ?_;refine Code.wp_mono RL ?_;refine S1 first lb k kd k1 k2 k3 k4 k5 k6 k7 ob body.length cb o2 s2.length c2 name W2 _ _ _ _ _ _ _ _ _ _ _ _ _ _ _ _ _ _ _ _ _ _ _ _ _ _ _ _ _ _ _ _ _ _ _ _ _ _ _ _ _ _ _ _ _ _ _ _ _ _ _ _ _ _ _ _ _ _ _ _ _ _ _ _ _ _ _ _ _ _ _ _ _ _ _ _ _ _ _ _ _ _ _ _ _ _ HBL.o (by omega) hns _ ?_;intro nk hnk t24 t25 t26 t27 t28 t29 t30 t31 t32 t33 t34 t35 W3 hb3 hs3 hbx3;obtain⟨nm,hnm2⟩:∃nm,nm=name++nk:=⟨_,rfl⟩;have hnms:nm.size≤name.size+21:=by rw[hnm2,ByteArray.size_append];omega
   rw[←hnm2]at hbx3;obtain⟨fb,hfb⟩:∃fb,fb=(first&&decide (k=0)):=⟨_,rfl⟩;rw[←hfb]at hbx3;obtain⟨g,hg⟩:∃g,g=W2.heap.size:=⟨_,rfl⟩;rw[←hg]at hbx3 hs3 ⊢;have HBL3:=Za (HBL.o.next hb3);have HS3:=Za (HS2.o.below hb3);have HJ3:=Za (HJA.o.1.below HJ2.o hb3);have HK3:=Za (HK2.o.past hb3 HK2.o.low.size (by have:=HWS.o;have:=HK2.o.low.size;omega));have HG:=Za (show W.heap.size≤g∧B0≤g∧w₀.heap.size≤g from by have h1:=HWS.o;have h2:=HK2.o.low.size;omega);have HST:=Za (DW hlt HP.o);rw[HLK.o,←hfb]at HST;have HOKK:=Za (HOK.o.at k hlt);rw[HLK.o]at HOKK;have HBX3:=Za hbx3;clear hbx3 hb3 hfb hnm2 HBL HS2 HJ2 HK2 hg hlb2
   gi_step
   gi_step
   gi_step
   have hnm4:nm.size≤1100:=by omega
   have hk64:k<64:=by omega
   have hcs:=(vN hlt).2;have hct:=(vN hlt).1;rw[HLK.o]at hcs hct;have hcx:=HCN.o;by_cases hk13:kd=13
   ·subst hk13;have h:=HOKK.o;rw[lJ]at h;rcases h.2 with h2|h2
    ·refine F1 w₀ l B0 J Jx HJA.o.1 HJA.o.2 HY.o m g lb k k1 k2 k3 k4 k5 k6 k7 body ob cb o2 c2 s2 fb nm (pre++xs) W W3 _ _ _ _ _ _ _ _ _ _ _ _ _ _ _ _ _ _ _ _ _ _ _ _ _ _ _ _ _ _ _ _ _ _ _ _ _ _ _ _ _ _ _ _ _ _ _ _ _ _ _ _ _ _ _ _ _ _ _ _ _ _ _ _ _ _ _ _ _ _ _ _ _ _ _ _ _ _ _ _ _ _ _ _ _ _ HBL3.o HBX3.o hs3 HS3.o HSH.o HJ3.o HK3.o HG.o hnm4 hk64 (by rw[aB.count]at hcs;rw[Zl];omega) d h2.2.1 h2.2.2 h.1 HLB.o (by omega) (by have:=HALL.o ls[k] (List.getElem_mem hlt);rw[HLK.o]at this;exact this) ⟨H0.o.1,H0.o.2.1⟩ _ ?_ ?_
     ·rintro t3 t15 t16 t36 t37 t38 t39 t40 t41 t42 t43 t44 t45 t46 t47 t48 t49 t50 t51 t52 t53 t54 t55 t56 t57 t58 t59 t60 t61 t62 t63 t64 t65 t66 t67 t68 t69 t70 t71 t72 t73 t74 t75 t76 t77 t78 t79 t80 t81 t82 t83 t84 t85 t86 t87 t88 W' xs' hbad;have HBAD:=Za hbad;clear hbad h h2
      gi_wp2
      go_ret2;exact xW HX.o.1 HST.o.2 HBAD.o
     ·rintro t10 t11 t15 t16 t36 t37 t38 t39 t40 t41 t42 t43 t44 t45 t46 t47 t48 t49 t50 t51 t52 t53 t54 t55 t56 t57 t58 t59 t60 t61 t62 t63 t64 t65 t66 t67 t68 t69 t70 t71 t72 t73 t74 t75 t76 t77 t78 t79 t80 t81 t82 t83 t84 t85 t86 t87 t88 W' xs' oo no co ⟨p,hxl,h1,h3,h4,h5,h6,h7,h8,h9⟩;have hno:=sC h3;subst hno;have HN:=Za (HST.o.1 p h1);have HGO:=Za (Zd h3 (Zd h4 (Zd h5 (Zd h6 (Zd h7 (Zd h8 h9))))));clear h h2 h1 h3 h4 h5 h6 h7 h8 h9
      gi_wp2
      go_roundw
      case rel=>exact⟨k+1,p.1,oo,co,xs++xs',ps++p.2,by omega,by go_num,rfl,HN,Za HGO.o.1,Za HGO.o.2.1,Za (by rw[←List.append_assoc];exact HGO.o.2.2.1),Za ⟨jA.2 ⟨HX.o.1,HGO.o.2.2.2.1⟩,by rw[pZ,HX.o.2.1,HGO.o.2.2.2.2.1],by rw[sG,HX.o.2.2,HGO.o.2.2.2.2.2.1]⟩,Za HGO.o.2.2.2.2.2.2,Za (by rw[hct,Zl];omega)⟩
      case measure=>simp[intOf];omega
    ·exact absurd rfl h2.1
   ·have h:=HOKK.o;rw[lJ]at h;rcases h.2 with h2|h2
    ·exact absurd h2.1 hk13
    ·refine IU l m g lb k kd k1 k2 k3 k4 k5 k6 k7 (.slice ob body.length cb) o2 c2 s2 W3 _ _ _ _ _ _ _ _ _ _ _ _ _ _ _ _ _ _ _ _ _ _ _ _ _ _ _ _ _ _ _ _ _ _ _ _ _ _ _ _ _ _ _ _ _ _ _ _ _ _ _ _ _ _ _ _ _ _ _ _ _ _ _ _ _ _ _ _ _ _ _ _ _ _ _ _ _ _ _ _ _ _ _ _ _ _ HBL3.o hk13 _ ?_;intro t36 t37 t38
     gi_step
     gi_step
     refine NX HJG.o w₀ l B0 J Jx HJA.o.1 HJA.o.2 HY.o m g lb k kd k1 k2 k3 k4 k5 k6 k7 body ob cb o2 c2 s2 fb nm (pre++xs) W W3 _ _ _ _ _ _ _ _ _ _ _ _ _ _ _ _ _ _ _ _ _ _ _ _ _ _ _ _ _ _ _ _ _ _ _ _ _ _ _ _ _ _ _ _ _ _ _ _ _ _ _ _ _ _ _ _ _ _ _ _ _ _ _ _ _ _ _ _ _ _ _ _ _ _ _ _ _ _ _ _ _ _ _ _ _ _ HBL3.o HBX3.o hs3 HS3.o HSH.o HJ3.o HK3.o HG.o hnm4 hk64 (by rw[aB.count]at hcs;rw[Zl];omega) hk13 h2.2 _ ?_ ?_
     ·rintro t3 t15 t16 t36 t37 t38 t39 t40 t41 t42 t43 t44 t45 t46 t47 t48 t49 t50 t51 t52 t53 t54 t55 t56 t57 t58 t59 t60 t61 t62 t63 t64 t65 t66 t67 t68 t69 t70 t71 t72 t73 t74 t75 t76 t77 t78 t79 t80 t81 t82 t83 t84 t85 t86 t87 t88 W' xs' hbad;have HBAD:=Za hbad;clear hbad h h2
      gi_wp2
      go_ret2;exact xW HX.o.1 HST.o.2 HBAD.o
     ·rintro t10 t11 t15 t16 t36 t37 t38 t39 t40 t41 t42 t43 t44 t45 t46 t47 t48 t49 t50 t51 t52 t53 t54 t55 t56 t57 t58 t59 t60 t61 t62 t63 t64 t65 t66 t67 t68 t69 t70 t71 t72 t73 t74 t75 t76 t77 t78 t79 t80 t81 t82 t83 t84 t85 t86 t87 t88 W' xs' oo no co ⟨p,hxl,h1,h3,h4,h5,h6,h7,h8,h9⟩;have hno:=sC h3;subst hno;have HN:=Za (HST.o.1 p h1);have HGO:=Za (Zd h3 (Zd h4 (Zd h5 (Zd h6 (Zd h7 (Zd h8 h9))))));clear h h2 h1 h3 h4 h5 h6 h7 h8 h9
      gi_wp2
      go_roundw
      case rel=>exact⟨k+1,p.1,oo,co,xs++xs',ps++p.2,by omega,by go_num,rfl,HN,Za HGO.o.1,Za HGO.o.2.1,Za (by rw[←List.append_assoc];exact HGO.o.2.2.1),Za ⟨jA.2 ⟨HX.o.1,HGO.o.2.2.2.1⟩,by rw[pZ,HX.o.2.1,HGO.o.2.2.2.2.1],by rw[sG,HX.o.2.2,HGO.o.2.2.2.2.2.1]⟩,Za HGO.o.2.2.2.2.2.2,Za (by rw[hct,Zl];omega)⟩
      case measure=>simp[intOf];omega
  ·obtain rfl:k=ls.length:=by omega
   rw[List.take_of_length_le (Zb _)]at HP HCN
   gi_wp2
   go_ret2;exact .inl ⟨_,xs,(s2,ps),HKI.o,rfl,HCN.o,HP.o,HS.o,HSH.o,HJ.o,HX.o.1,HX.o.2.1,HX.o.2.2⟩
theorem R0 (w₀:World) (l B0:Nat) (hB0:w₀.heap.size≤B0) (J Jx:List bR→World→Prop) (hJ:gE gW B0 J) (hJx:gE gW B0 Jx) (hY:rB Tryz.prog w₀.heap.size l J Jx) (ls:List aB):qH Tryz.prog 195 w₀ l B0 J Jx ls:=
 xM DV w₀ l B0 hB0 J Jx hJ hJx hY ls fun x _=>aB.ind (P:=fun x=>qH Tryz.prog 195 w₀ l B0 J Jx x.body) (fun n body ih=>xM DV w₀ l B0 hB0 J Jx hJ hJx hY body fun y hy=>ih y hy) x
theorem JD {n:aG} {body:List aB} (h:eZ n body=true):sQ n:=by
 obtain⟨r,hr,ok,hm,hk,ho⟩:=nI h;obtain⟨kd,k1,k2,k3,k4,k5,k6,k7⟩:=n;simp only at hk;simp only[bG,List.mem_cons,List.not_mem_nil,or_false]at hm;have hf:=fun k hk=>sI ho ok k hk;rw[hZ,Bool.and_eq_true,Bool.and_eq_true]at ho;have hp:=ho.2.2;rcases hm with rfl|rfl|rfl|rfl|rfl|rfl|rfl|rfl|rfl|rfl|rfl|rfl<;>simp only at hk<;>subst hk
 ·exact⟨fun h=>by simp at h,fun h=>by simp at h⟩
 ·have f2:=hf 2 (by decide);have f3:=hf 3 (by decide);have f4:=hf 4 (by decide);simp[aG.fld]at f2 f3 f4;exact⟨fun _=>⟨by simp;omega,by simp;omega,by simp[eU];omega,by simp[eU];omega,by simp;omega,by simp;omega⟩,fun h=>by simp at h⟩
 ·exact⟨fun h=>by simp at h,fun h=>by simp at h⟩
 ·exact⟨fun h=>by simp at h,fun h=>by simp at h⟩
 ·exact⟨fun h=>by simp at h,fun h=>by simp at h⟩
 ·exact⟨fun h=>by simp at h,fun h=>by simp at h⟩
 ·exact⟨fun h=>by simp at h,fun h=>by simp at h⟩
 ·exact⟨fun h=>by simp at h,fun h=>by simp at h⟩
 ·have f0:=hf 0 (by decide);simp[aG.fld]at f0;simp[gD,bU.made,aG.put,aG.fld,bM]at hp;exact⟨fun _=>⟨by simp;omega,by simp;omega,by simp[eU];omega,by simp[eU];omega,by simp;omega,by simp;omega⟩,fun h=>by simp at h⟩
 ·have f0:=hf 0 (by decide);simp[aG.fld]at f0;simp[gD,bU.made,aG.put,aG.fld,bM]at hp;exact⟨fun _=>⟨by simp;omega,by simp;omega,by simp[eU];omega,by simp[eU];omega,by simp;omega,by simp;omega⟩,fun h=>by simp at h⟩
 ·exact⟨fun h=>by simp at h,fun h=>by simp at h⟩
 ·have f0:=hf 0 (by decide);have f1:=hf 1 (by decide);simp[aG.fld]at f0 f1;exact⟨fun h=>by simp at h,fun _=>⟨⟨by simp;omega,by simp;omega⟩,by simp;omega,by simp;omega⟩⟩
mutual
theorem P9 (deep d:Nat) (left k:Int) (hd:deep+d=4):∀l:aB,bY deep left l=some k→0≤left→left≤64→lJ l d
 |.mk n body,h,h0,h1=>by
  obtain⟨hl,⟨hk,hdp,hn,hb⟩|⟨hk,hb,rfl⟩⟩:=oH h
  ·have hc:=pX (deep+1) (left-1) k body hb (by omega);have hk0:=(nJ (deep+1) (left-1) k body hb (by omega)).1;rw[lJ];exact⟨by omega,.inl ⟨hk,by omega,wH (deep+1) (d-1) (left-1) k (by omega) body hb (by omega) (by omega)⟩⟩
  ·rw[lJ];exact⟨by rw[rP hb];simp,.inr ⟨hk,JD hb⟩⟩
theorem wH (deep d:Nat) (left k:Int) (hd:deep+d=4):∀ls:List aB,bQ deep left ls=some k→0≤left→left≤64→iU ls d
 |[],h,h0,h1=>by rw[iU];trivial
 |l::r,h,h0,h1=>by
  rw[bQ]at h;cases hj:bY deep left l with
  |none=>rw[hj]at h;cases h
  |some j=>
   rw[hj]at h;have a:=oS deep left j l hj h0;rw[iU];exact⟨P9 deep d left j hd l hj h0 h1,wH deep d j k hd r h a.1 (by omega)⟩
end
theorem yE {d:bE} (h:dL d=true):iU d.lays 4∧d.lays.length≤64:=by obtain⟨_,_,_,_,k,hk⟩:=mQ h;have h0:=(nJ 0 64 k d.lays hk (by omega)).1;have h1:=pX 0 64 k d.lays hk (by omega);exact⟨wH 0 4 64 k (by omega) d.lays hk (by omega) (by omega),by omega⟩
theorem J2 {n m:Nat} {P:Program} {l:Nat} {f:FuncId} {tmps:Array Value} {assign body:Code} {w:World} {R:Ending→World→Prop} (h:RoundIn Fence.wide n P l f tmps assign body w R):RoundIn Fence.wide m P l f tmps assign body w R:=
 ⟨h.1,fun c cs _=>h.2 c cs (room_wide _)⟩
theorem MS {n m:Nat} {P:Program} {l:Nat} {args:Array Value} {w:World} {R:Ending→World→Prop} (h:YieldAt Fence.wide n P l args w R):YieldAt Fence.wide m P l args w R:=by obtain⟨fn,tmps,assign,body,hy,hR⟩:=h;exact⟨fn,tmps,assign,body,hy,J2 hR⟩
def EF (d:bE) (xs:List bR):Prop:=gR xs→∃p,bT true d.input d.lays=some p∧jM xs=p.2∧hO d.input xs=p.1
def IR (d:bE) (xs:List bR):Prop:=¬gR xs→bT true d.input d.lays=none
attribute [local go_sem] Oper.semAt_some
theorem EQ (w₀ w:World) (n db:Nat) (o:Option Addr) (c:Nat) (vl:Value) (d:bE) (hw:Below w₀.heap.size w₀ w) (hb:aA w db 33 #[.slice o d.input.length c,vl,.int .i64 d.loss])
  (hr:aM w₀.heap.size w (.slice o d.input.length c) d.input) (hsh:bA d.input=true) (hl:bF w₀ vl d.lays) (hok:iU d.lays 4) (hll:d.lays.length≤64) (hcl:aR d.lays≤64):
  SeqR gW Fence.wide n Tryz.prog 194 #[.pointer (some ⟨db,0,none⟩)] mF (fun pre x W=>pre.length<200∧oI w₀.heap.size x W) (cZ w₀.heap.size) (EF d) (IR d) w:=by
 intro l J Jx W hWw hJ hJx hround h0;have hs0:w₀.heap.size≤W.heap.size:=Nat.le_trans hw.size hWw.size;have hlw:=hl.len;obtain⟨ol,cl,rfl⟩:=hlw;have hbW:=hb.next hWw;have c0:=hbW.q 0 rfl;have c1:=hbW.q 1 rfl;have HJ:=Za (Zd hJ hJx);have HR:=Za (fun mm=>R0 w₀ l W.heap.size hs0 J Jx hJ hJx (fun m pre x W1 hp hj hx=>MS (hround pre x W1 hj ⟨hp,hx⟩)) d.lays mm 4 (.slice ol d.lays.length cl) ⟨#[]⟩ true o c d.input [] W hl hok hll (hw.trans (hWw.mono hw.size)) (Zb _) (hr.below hWw) hsh (by decide) (by simp only[List.length_nil];omega) h0);clear hw hb hr hsh hl hok hll hWw hJ hJx hround h0 hbW hs0;refine callsIn_of_wp Tryz.func194 rfl trivial ?_ rfl;simp only[Tryz.ntmps194,List.size_toArray,List.length_cons,List.length_nil,Nat.reduceAdd,Nat.reduceSub,Array.replicate_succ,Array.replicate_zero,List.push_toArray,List.append_toArray,List.nil_append,List.cons_append]
 gi_wp2_with (refine⟨trivial,(by simp[Fence.wide]),?_⟩;gi_at_call 195;refine(HR.o _).mono ?_;rintro e W6 (⟨v,xs,p,hk,rfl,hxl,h1,h2,h3,h4,h5,h6,h7⟩|⟨v,xs,rfl,hout⟩)<;>refine aD ?_)
 ·have HX:=Za (show J xs W6∧EF d xs from⟨h4,fun _=>⟨p,h1,h6,h7⟩⟩);clear hk hxl h1 h2 h3 h4 h5 h6 h7 HR c0 c1;refine aC ?_
  gi_wp2
  go_end0;exact⟨⟨_,rfl⟩,.inl ⟨xs,HX.o.2,HX.o.1⟩⟩
 ·have HX:=Za hout;clear hout HR c0 c1;refine aC ?_
  gi_wp2
  go_end0;refine⟨⟨_,rfl⟩,?_⟩;rcases HX.o with⟨hj,hno⟩|⟨hj,himp⟩
  ·exact .inl ⟨xs,fun h=>absurd h hno,hj⟩
  ·exact .inr ⟨xs,himp,hj⟩
mutual
theorem TG (deep:Nat) (left k:Int):∀l:aB,bY deep left l=some k→0≤left→(l.count:Int)+k≤left
 |.mk n body,h,h0=>by
  obtain⟨hl,⟨hk,hdp,hn,hb⟩|⟨hk,hb,rfl⟩⟩:=oH h
  ·have:=vH (deep+1) (left-1) k body hb (by omega);rw[aB.count];omega
  ·rw[rP hb,aB.count,aR];omega
theorem vH (deep:Nat) (left k:Int):∀ls:List aB,bQ deep left ls=some k→0≤left→(aR ls:Int)+k≤left
 |[],h,h0=>by rw[bQ]at h;cases h;simp[aR]
 |l::r,h,h0=>by
  rw[bQ]at h;cases h1:bY deep left l with
  |none=>rw[h1]at h;cases h
  |some j=>
   rw[h1]at h;have a:=TG deep left j l h1 h0;have c:=oS deep left j l h1 h0;have b:=vH deep j k r h c.1;rw[aR];omega
end
theorem zX {d:bE} (h:dL d=true):aR d.lays≤64:=by obtain⟨_,_,_,_,k,hk⟩:=mQ h;have h0:=(nJ 0 64 k d.lays hk (by omega)).1;have h1:=vH 0 64 k d.lays hk (by omega);omega
structure gS (n₀:Nat) (W W':World):Prop where
 low:Below n₀ W W'
 kept:∀(k:Nat) (cs:Array Value) (T:TypeId) (fz:Nat×Nat),T≠251→W.heap[k]?=some (.cells cs T fz)→W'.heap[k]?=some (.cells cs T fz)
theorem gS.of_below {n₀:Nat} {W W':World} (h:Below W.heap.size W W') (hn:n₀≤W.heap.size):gS n₀ W W':=⟨h.mono hn,fun k cs T fz _ hk=>(h.block k (Array.getElem?_eq_some_iff.1 hk).1).trans hk⟩
theorem gS.of_grown {n₀ B:Nat} {W W':World} {row:Option Nat} (hg:W.grownBy W' row) (hr:∀r,row=some r→B≤r∧∃o:Obj,W.heap[r]?=some o∧(o.isCells=false∨gW o)) (hn:n₀≤B) (hw:n₀≤W.heap.size):gS n₀ W W':=
 ⟨(Zc n₀ W).grown hg hw (fun k e=>Nat.le_trans hn (hr k e).1),fun k cs T fz hT hk=>(hg.block k (Array.getElem?_eq_some_iff.1 hk).1 (fun e=>by
  obtain⟨_,o,ho,h⟩:=hr k e.symm;rw[hk]at ho;cases ho;rcases h with h|⟨cs',fz',h⟩
  ·cases h
  ·injection h with _ h2;exact hT h2)).trans hk⟩
theorem aA.lie {n₀ g:Nat} {w w':World} {T:TypeId} {cs:Array Value} (h:aA w g T cs) (hs:gS n₀ w w') (hT:T≠251):aA w' g T cs:=hs.kept g cs T _ hT h
theorem aM.lie {n₀:Nat} {w w':World} {v:Value} {xs:List Int} (h:aM n₀ w v xs) (hs:gS n₀ w w'):aM n₀ w' v xs:=by
 have key:∀b,(b<n₀∨∃cs fz,w.heap[b]?=some (.cells cs 3 fz))→b<w.heap.size→w'.heap[b]?=w.heap[b]?:=fun b hb hlt=>by
  rcases hb with hb|⟨cs,fz,hb⟩
  ·exact hs.low.block b hb
  ·rw[hb];exact hs.kept b cs _ fz (by decide) hb
 obtain⟨o,cap,rfl,hc⟩:=h.1;have hb2:=h.2.1;refine⟨⟨o,cap,rfl,fun j hj=>?_⟩,fun b off n c e' h0=>?_,h.2.2⟩
 ·obtain⟨b,off,rfl,hcell⟩:=hc j hj;exact⟨b,off,rfl,(World.cell?_of_block (w:=w) (a:=⟨b,off+j,none⟩) (key b (hb2 b off _ _ rfl (by omega)) (aP hcell))).trans hcell⟩
 ·rcases hb2 b off n c e' h0 with hh|⟨cs,fz,hh⟩
  ·exact .inl hh
  ·exact .inr ⟨cs,fz,(key b (.inr ⟨cs,fz,hh⟩) (Array.getElem?_eq_some_iff.1 hh).1).trans hh⟩
theorem aV.lie {w w':World} {n₀ B:Nat} {v:Value} {qs:List PD} (h:aV w n₀ B v qs) (hs:gS n₀ w w'):aV w' n₀ B v qs:=by
 refine⟨⟨h.row.1,?_⟩,fun p hp=>(h.sh p hp).lie hs,h.one⟩;rcases h.row.2 with hn|⟨g,cap,cur,rfl,hb,hg,r⟩
 ·exact .inl hn
 ·exact .inr ⟨g,cap,cur,rfl,hb,hs.kept g cur _ _ (by decide) hg,r⟩
theorem K8 (w:World) (n₀ B C:Nat) (v u:Value) (qs rs:List PD) (hv:aV w n₀ B v qs) (hu:aV w n₀ C u rs) (hl:qs.length+rs.length≤100000) (hB:B≤w.heap.size) (hn:n₀≤B):
  ∃v' w',(Builtin.append_ #[79,79] 79 #[v,u]).run Tryz.prog w=.ok v' w'∧aV w' n₀ B v' (qs++rs)∧w.grownBy w' v.ownBlock∧(∀k,v.ownBlock=some k→B≤k∧∃cur,w.heap[k]?=some (.cells cur 161 (0,0))):=by
 obtain⟨i0,hi,hz0,hz1,hz2⟩:=info_parts wD;have hrow:∀k,v.ownBlock=some k→B≤k∧∃cur,w.heap[k]?=some (.cells cur 161 (0,0)):=fun k hk=>by
  rcases hv.row.2 with⟨rfl,_⟩|⟨b,cap,cur,rfl,hbb,hgg,_⟩
  ·simp[Value.ownBlock]at hk
  ·simp[Value.ownBlock]at hk;subst hk;exact⟨hbb,cur,hgg⟩
 by_cases h0:rs.length=0
 ·have:rs=[]:=List.eq_nil_of_length_eq_zero h0;subst this;obtain⟨ov,cv,rfl,hle⟩:=iV hv.row;obtain⟨ou,cu,rfl⟩:=aJ hu.row;refine⟨_,w,tR w 79 79 161 i0 Tryz.underlying79 hi _ _ _ _ _ hle,?_,⟨rfl,rfl,rfl,Zb _,fun _ _ _=>rfl⟩,hrow⟩;rw[List.append_nil];exact hv
 ·rcases hu.row.2 with⟨_,h1⟩|⟨g,cap,cur,rfl,hbb,hgg,h4,h5,h6,ht⟩
  ·omega
  ·obtain⟨v',w',hrun,h2,h3,_,h7⟩:=run_append_own_at (P:=Tryz.prog) w B 79 79 161 i0 (.agg #[.string ⟨#[]⟩,.slice none 0 0,.int .i64 0,.int .i64 0]) 4 56 Tryz.underlying79 hi hz0 hz1 hz2 rfl (by decide) v qs.length _ hv.row ⟨g,0,none⟩ rs.length cap (fV rs) (FH rs) (fun j x hj=>by
     have hlt:j<(fV rs).length:=(List.getElem?_eq_some_iff.1 hj).1;rw[Addr.add_lit,Nat.zero_add,cell_of_row w g j cur _ _ hgg];rw[←ht,List.getElem?_take]at hj;split at hj
     ·simpa using hj
     ·cases hj) (fun x hx=>by
     obtain⟨q,hq,hx⟩:=List.mem_flatMap.1 hx;simp only[PD.cells,List.mem_cons,List.not_mem_nil,or_false]at hx;rcases hx with rfl|rfl|rfl|rfl
     ·rfl
     ·exact hu.one q hq
     ·rfl
     ·rfl) (by unfold maxLen;omega) (by omega) hB
   refine⟨v',w',hrun,⟨?_,fun q hq=>?_,fun q hq=>?_⟩,h3,hrow⟩
   ·rw[TH,Zl];exact h2
   ·rcases List.mem_append.1 hq with hq|hq
    ·exact(hv.sh q hq).grown hv.row (by decide) hn h3
    ·exact(hu.sh q hq).grown hv.row (by decide) hn h3
   ·rcases List.mem_append.1 hq with hq|hq
    ·exact hv.one q hq
    ·exact hu.one q hq
theorem JQ (o1 o2:Option Addr) (n1 c1 n2 c2:Nat) (k:Int) (w:World):
  Calls Tryz.prog 182 #[.agg #[.slice o1 n1 c1,.slice o2 n2 c2,.int .i64 k]] w fun e w'=>e=.returned (.func (.func 194) #[] #[.pointer (some ⟨w.heap.size,0,none⟩)])∧w'=w.alloc (.cells #[.slice o1 n1 c1,.slice o2 n2 c2,.int .i64 k] 33):=by have hmf:∀(fn:Fn) (first cap:Array Value) (w:World),(Instr.makeFunc fn first cap).run Tryz.prog w=.ok (.func fn first cap) w:=fun _ _ _ _=>rfl;go_enter Tryz.func182,Tryz.ntmps182;go_wp2;go_ret;exact⟨rfl,rfl⟩
def AR (w:World) (d:bE) (e:Ending) (w':World):Prop:=
 Below w.heap.size w w'∧((eK d=none∧∃er:Int,er≠0∧e=.returned (.tuple #[.slice none 0 0,.slice none 0 0,.int .i64 er]))∨
  ∃p vo vps qs,eK d=some p∧e=.returned (.tuple #[vo,vps,.int .i64 0])∧aH w' w.heap.size 3 .i64 vo p.1∧aV w' w.heap.size w.heap.size vps qs∧p.2=qs.map (·.sh)∧qs.length≤1000)
structure cJ (n₀:Nat) (Ts:TypeId→Prop) (W W':World):Prop where
 low:Below n₀ W W'
 kept:∀(k:Nat) (cs:Array Value) (T:TypeId) (fz:Nat×Nat),¬Ts T→W.heap[k]?=some (.cells cs T fz)→W'.heap[k]?=some (.cells cs T fz)
theorem cJ.trans {n₀:Nat} {Ts:TypeId→Prop} {a b c:World} (h:cJ n₀ Ts a b) (k:cJ n₀ Ts b c):cJ n₀ Ts a c:=⟨h.low.trans k.low,fun i cs T fz hT hi=>k.kept i cs T fz hT (h.kept i cs T fz hT hi)⟩
theorem cJ.of_below {n₀:Nat} {Ts:TypeId→Prop} {W W':World} (h:Below W.heap.size W W') (hn:n₀≤W.heap.size):cJ n₀ Ts W W':=⟨h.mono hn,fun k cs T fz _ hk=>(h.block k (Array.getElem?_eq_some_iff.1 hk).1).trans hk⟩
theorem cJ.mono {n₀:Nat} {Ts Ts':TypeId→Prop} {a b:World} (h:cJ n₀ Ts a b) (hi:∀T,Ts T→Ts' T):cJ n₀ Ts' a b:=⟨h.low,fun i cs T fz hT hk=>h.kept i cs T fz (fun h'=>hT (hi T h')) hk⟩
theorem cJ.set {n₀ k:Nat} {Ts:TypeId→Prop} {W:World} {T:TypeId} {cs:Array Value} (h:aA W k T cs) (hn:n₀≤k) (hT:Ts T) (j:Nat) (u:Value):cJ n₀ Ts W (W.setCell ⟨k,j,none⟩ u):=
 ⟨(Zc _ _).setCell (p:=⟨k,j,none⟩) hn u,fun i cs' T' fz hT' hi=>by
  rw[Below.heap_setCell _ _ _ _ (fun e=>?_)]
  ·exact hi
  ·simp at e;subst e;unfold aA at h;rw[h]at hi;simp at hi;rw[←hi.2.1]at hT';exact hT' hT⟩
theorem cJ.grown {n₀:Nat} {Ts:TypeId→Prop} {W W':World} {row:Option Nat} (hg:W.grownBy W' row) (hr:∀k,row=some k→n₀≤k∧∃cur,W.heap[k]?=some (.cells cur 161 (0,0))) (hw:n₀≤W.heap.size) (hT:Ts 161):cJ n₀ Ts W W':=
 ⟨(Zc _ _).grown hg hw (fun k e=>(hr k e).1),fun i cs T fz hT' hi=>(hg.block i (Array.getElem?_eq_some_iff.1 hi).1 (fun e=>by
  obtain⟨_,cur,hc⟩:=hr i e.symm;rw[hi]at hc;cases hc;exact hT' hT)).trans hi⟩
theorem aA.lieT {n₀ g:Nat} {Ts:TypeId→Prop} {w w':World} {T:TypeId} {cs:Array Value} (h:aA w g T cs) (hs:cJ n₀ Ts w w') (hT:¬Ts T):aA w' g T cs:=hs.kept g cs T _ hT h
theorem aM.lieT {n₀:Nat} {Ts:TypeId→Prop} {w w':World} {v:Value} {xs:List Int} (h:aM n₀ w v xs) (hs:cJ n₀ Ts w w') (hT:¬Ts 3):aM n₀ w' v xs:=by
 have key:∀b,(b<n₀∨∃cs fz,w.heap[b]?=some (.cells cs 3 fz))→b<w.heap.size→w'.heap[b]?=w.heap[b]?:=fun b hb hlt=>by
  rcases hb with hb|⟨cs,fz,hb⟩
  ·exact hs.low.block b hb
  ·rw[hb];exact hs.kept b cs _ fz hT hb
 obtain⟨o,cap,rfl,hc⟩:=h.1;have hb2:=h.2.1;refine⟨⟨o,cap,rfl,fun j hj=>?_⟩,fun b off n c e' h0=>?_,h.2.2⟩
 ·obtain⟨b,off,rfl,hcell⟩:=hc j hj;exact⟨b,off,rfl,(World.cell?_of_block (w:=w) (a:=⟨b,off+j,none⟩) (key b (hb2 b off _ _ rfl (by omega)) (aP hcell))).trans hcell⟩
 ·rcases hb2 b off n c e' h0 with hh|⟨cs,fz,hh⟩
  ·exact .inl hh
  ·exact .inr ⟨cs,fz,(key b (.inr ⟨cs,fz,hh⟩) (Array.getElem?_eq_some_iff.1 hh).1).trans hh⟩
theorem aV.lieT {w w':World} {n₀ B:Nat} {Ts:TypeId→Prop} {v:Value} {qs:List PD} (h:aV w n₀ B v qs) (hs:cJ n₀ Ts w w') (hT:¬Ts 3) (hT2:¬Ts 161):aV w' n₀ B v qs:=by
 refine⟨⟨h.row.1,?_⟩,fun p hp=>(h.sh p hp).lieT hs hT,h.one⟩;rcases h.row.2 with hn|⟨g,cap,cur,rfl,hb,hg,r⟩
 ·exact .inl hn
 ·exact .inr ⟨g,cap,cur,rfl,hb,hs.kept g cur _ _ hT2 hg,r⟩
theorem QK {n:aG} {first:Bool} {s:List Int} {p:List Int×List (List Int)} (h:aK n first s=some p):p.2.length≤4:=by
 have ok:∀q:List Int×List (List Int),q.2.length≤4→some q=some p→p.2.length≤4:=fun q hq e=>by injection e with e;rw[←e];exact hq
 rw[aK]at h;by_cases h1:n.kind=1
 ·rw[if_pos h1]at h;split at h
  ·exact ok _ (Nat.le_of_ble_eq_true rfl) h
  ·cases h
 rw[if_neg h1]at h;by_cases h2:n.kind=2
 ·rw[if_pos h2]at h;cases hi:bV n s with
  |none=>rw[hi]at h;cases h
  |some q=>
   rw[hi]at h;simp only at h;split at h
   ·exact ok _ (Nat.le_of_ble_eq_true rfl) h
   ·cases h
 rw[if_neg h2]at h;by_cases h3:n.kind=8∨n.kind=9
 ·rw[if_pos h3]at h;cases hi:bV n s with
  |none=>rw[hi]at h;cases h
  |some q=>
   rw[hi]at h;exact ok _ (Nat.le_of_ble_eq_true rfl) h
 rw[if_neg h3]at h;by_cases h4:n.kind=10
 ·rw[if_pos h4]at h;exact ok _ (Nat.le_of_ble_eq_true rfl) h
 rw[if_neg h4]at h;by_cases h5:n.kind=11
 ·rw[if_pos h5]at h;split at h
  ·exact ok _ (Nat.le_of_ble_eq_true rfl) h
  ·cases h
 rw[if_neg h5]at h;by_cases h6:n.kind=12
 ·rw[if_pos h6]at h;split at h
  ·exact ok _ (Nat.le_of_ble_eq_true rfl) h
  ·cases h
 rw[if_neg h6]at h;exact ok _ (Nat.le_of_ble_eq_true rfl) h
mutual
theorem GY:∀(l:aB) (first:Bool) (s:List Int) (p:List Int×List (List Int)),cU first s l=some p→p.2.length≤4*l.count
 |.mk n body,first,s,p,h=>by
  rw[cU]at h;rw[aB.count];split at h
  ·cases hb:bT false s body with
   |none=>rw[hb]at h;exact nomatch h
   |some q=>
    rw[hb]at h;have:=vP body false s q hb;simp only at h;split at h
    ·injection h with h;rw[←h];simp only;omega
    ·exact nomatch h
  ·rw[fT]at h;cases hd:aK n first s with
   |none=>rw[hd]at h;cases h
   |some q=>
    rw[hd]at h;have:=QK hd;simp only at h;split at h
    ·injection h with h;rw[←h];omega
    ·exact nomatch h
theorem vP:∀(ls:List aB) (first:Bool) (s:List Int) (p:List Int×List (List Int)),bT first s ls=some p→p.2.length≤4*aR ls
 |[],first,s,p,h=>by rw[bT]at h;injection h with h;rw[←h];exact Ze _
 |l::r,first,s,p,h=>by
  rw[bT]at h;rw[aR];cases h1:cU first s l with
  |none=>rw[h1]at h;cases h
  |some q=>
   rw[h1]at h;have a:=GY l first s q h1;simp only at h;cases h2:bT false q.1 r with
   |none=>rw[h2]at h;cases h
   |some q2=>
    rw[h2]at h;have b:=vP r false q.1 q2 h2;injection h with h;rw[←h];simp only[Zl];omega
end
def kL (T:TypeId):Prop:=T=48∨T=30∨T=79
def sK (T:TypeId):Prop:=kL T∨T=161
instance (T:TypeId):Decidable (kL T):=by unfold kL;infer_instance
instance (T:TypeId):Decidable (sK T):=by unfold sK;infer_instance
theorem cJ.keepI {n₀:Nat} {W W':World} (h:cJ n₀ sK W W'):cZ n₀ W W':=⟨h.low,fun k cs T fz hT hk=>h.kept k cs T fz (by rcases hT with rfl|rfl|rfl|rfl<;>decide) hk⟩
structure nM (w:World) (B b:Nat) (oi:Option Addr) (ci:Nat) (ol:Option Addr) (cl:Nat) (d:bE) (pre:List bR) (W:World):Prop where
 ok:gR pre
 low:Below w.heap.size w W
 big:B≤W.heap.size
 df:aA W b 33 #[.slice oi d.input.length ci,.slice ol d.lays.length cl,.int .i64 d.loss]
 er:aA W (b+3) 48 #[.int .i64 0]
 rest:∃oo co ov nv cv qs,aA W (b+1) 30 #[.slice oo (hO d.input pre).length co]∧aA W (b+2) 79 #[.slice ov nv cv]∧aM w.heap.size W (.slice oo (hO d.input pre).length co) (hO d.input pre)∧aV W w.heap.size w.heap.size (.slice ov nv cv) qs∧jM pre=qs.map (·.sh)∧qs.length≤4*pre.length∧(hO d.input pre).length≤8
structure oY (w:World) (b:Nat) (d:bE) (pre:List bR) (W:World):Prop where
 no:¬gR pre
 low:Below w.heap.size w W
 rest:∃er v1 v2 v3 o2 n2 c2 o3 n3 c3,er≠0∧aA W b 33 #[v1,v2,.int .i64 v3]∧aA W (b+1) 30 #[.slice o2 n2 c2]∧aA W (b+2) 79 #[.slice o3 n3 c3]∧aA W (b+3) 48 #[.int .i64 er]
theorem nM.lie {w W W':World} {B b:Nat} {oi:Option Addr} {ci:Nat} {ol:Option Addr} {cl:Nat} {d:bE} {pre:List bR} (h:nM w B b oi ci ol cl d pre W) (hs:gS w.heap.size W W'):nM w B b oi ci ol cl d pre W':=by obtain⟨h1,h2,hbg,h3,h4,oo,co,ov,nv,cv,qs,h5,h6,h7,h8,h9,h10,h11⟩:=h;exact⟨h1,h2.trans hs.low,Nat.le_trans hbg hs.low.size,h3.lie hs (by decide),h4.lie hs (by decide),oo,co,ov,nv,cv,qs,h5.lie hs (by decide),h6.lie hs (by decide),h7.lie hs,h8.lie hs,h9,h10,h11⟩
theorem oY.lie {w W W':World} {b:Nat} {d:bE} {pre:List bR} (h:oY w b d pre W) (hs:gS w.heap.size W W'):oY w b d pre W':=by obtain⟨h1,h2,er,v1,v2,v3,o2,n2,c2,o3,n3,c3,h3,h4,h5,h6,h7⟩:=h;exact⟨h1,h2.trans hs.low,er,v1,v2,v3,o2,n2,c2,o3,n3,c3,h3,h4.lie hs (by decide),h5.lie hs (by decide),h6.lie hs (by decide),h7.lie hs (by decide)⟩
structure BE (n₀ B b:Nat) (pre:List bR) (x:bR) (a:Act) (W:World):Prop where
 len:pre.length<200
 box:∃g u0 u5 u7 u8 u9 u10 u11 u12 u13 u14 u15 u16 u17 u18 u19 u20 u21 u22 u23 u24 u25 u26 u27 u28 u29 u30 u31 u32 u33 u34 u35 u36 u37 u38 u39 u40 u41 u42 u43 u44 u45 u46 u47,a=⟨#[u0,.pointer (some ⟨b,0,none⟩),.pointer (some ⟨b+1,0,none⟩),.pointer (some ⟨b+2,0,none⟩),.pointer (some ⟨b+3,0,none⟩),u5,.pointer (some ⟨g,0,none⟩),u7,u8,u9,u10,u11,u12,u13,u14,u15,u16,u17,u18,u19,u20,u21,u22,u23,u24,u25,u26,u27,u28,u29,u30,u31,u32,u33,u34,u35,u36,u37,u38,u39,u40,u41,u42,u43,u44,u45,u46,u47],[]⟩∧B≤g∧aA W g 251 x.cs
 rdy:oI n₀ x W
theorem oI.lie {n₀:Nat} {x:bR} {W W':World} (h:oI n₀ x W) (hs:gS n₀ W W'):oI n₀ x W':=by obtain⟨n,ob,nb,cb,oi,ni,ci,oo,no,co,ov,nv,cv,first,nm,fin,h1,h2⟩:=h;refine⟨n,ob,nb,cb,oi,ni,ci,oo,no,co,ov,nv,cv,first,nm,fin,h1,fun hb=>?_⟩;obtain⟨qs,r1,r2,r3⟩:=h2 hb;exact⟨qs,r1.lie hs,r2.lie hs,r3⟩
theorem PM {w w2:World} {b:Nat} {oi:Option Addr} {ci:Nat} {ol:Option Addr} {cl:Nat} {d:bE} (h:w.heap.size≤w2.heap.size):kY gW w2.heap.size (fun pre W=>nM w w2.heap.size b oi ci ol cl d pre W):=
 fun s W W' row hs hg hr=>hs.lie (gS.of_grown hg hr h hs.low.size)
theorem PO {w w2:World} {b:Nat} {d:bE} (c:Code) (h:w.heap.size≤w2.heap.size):kY gW w2.heap.size (fun pre W=>c=.exit 0∧oY w b d pre W):=
 fun s W W' row hs hg hr=>⟨hs.1,hs.2.lie (gS.of_grown hg hr h hs.2.low.size)⟩
theorem OJ {n₀ B b:Nat} {pre:List bR} {x:bR} {a:Act} (h:n₀≤B):kY (fun _=>False) B (fun(_:Unit) W=>BE n₀ B b pre x a W∧n₀≤W.heap.size):=fun s W W' row hs hg hr=>by
 have hl:gS n₀ W W':=gS.of_grown hg (fun r e=>by obtain⟨h1,o,h2,h3⟩:=hr r e;exact⟨h1,o,h2,h3.elim .inl False.elim⟩) h hs.2;refine⟨⟨hs.1.len,?_,hs.1.rdy.lie hl⟩,Nat.le_trans hs.2 hg.size⟩;obtain⟨g,u0,u5,u7,u8,u9,u10,u11,u12,u13,u14,u15,u16,u17,u18,u19,u20,u21,u22,u23,u24,u25,u26,u27,u28,u29,u30,u31,u32,u33,u34,u35,u36,u37,u38,u39,u40,u41,u42,u43,u44,u45,u46,u47,h1,h2,h3⟩:=hs.1.box;refine⟨g,u0,u5,u7,u8,u9,u10,u11,u12,u13,u14,u15,u16,u17,u18,u19,u20,u21,u22,u23,u24,u25,u26,u27,u28,u29,u30,u31,u32,u33,u34,u35,u36,u37,u38,u39,u40,u41,u42,u43,u44,u45,u46,u47,h1,h2,(hg.block g h3.lt (fun e=>?_)).trans h3⟩;obtain⟨_,o,ho,hf⟩:=hr g e.symm;unfold aA at h3;rw[h3]at ho;cases ho;rcases hf with hf|hf
 ·cases hf
 ·exact hf
theorem JK {F:Fence} {n:Nat} (w:World) {ops:Array Oper} {rest:List Oper} {o:Oper} {a:Act} {Q:Exit→Act→World→Prop}
  (hgd:o.guard=none) (s x:Operand) (hop:o.op=Op.call {callee:=Callee.builtin Builtin.append,args:=#[s,x],argTypes:=#[79,79]}) (hty:o.type=79)
  (n₀ B C:Nat) (v u:Value) (qs rs:List PD) (hs:a.eval s=v) (hx:a.eval x=u) (hv:aV w n₀ B v qs) (hu:aV w n₀ C u rs) (hl:qs.length+rs.length≤100000) (hB:B≤w.heap.size) (hn:n₀≤B)
  (hK:∀v' w',aV w' n₀ B v' (qs++rs)→w.grownBy w' v.ownBlock→wpListIn F n Tryz.prog ops Q rest (a.put o.dst v') w'):wpListIn F n Tryz.prog ops Q (o::rest) a w:=by
 refine wpListIn_plain hgd fun K hK'=>?_;obtain⟨v',w',hrun,r1,r2,_⟩:=K8 w n₀ B C v u qs rs hv hu hl hB hn;unfold Oper.wpIn;refine⟨?_,?_⟩
 ·simp[Oper.about,hop,resolve,Target.leads,Sem.run_pure]
 ·rw[Oper.semAt_plain F _ _ (by rw[hop];intro c hc';cases hc')];simp[execOp,hop,hty,resolve,invoke,builtin,hs,hx,hrun,Result.andThen];exact hK' _ _ (hK v' w' r1 r2)
theorem aA.putObj {W:World} {g D:Nat} {T:TypeId} {cs:Array Value} {o:Obj} (h:aA W g T cs) (hD:W.heap[D]?=some o) (ho:o.isCells=false) (o':Obj):aA (W.putObj D o') g T cs:=by refine(World.putObj_heap_other (fun e=>?_)).trans h;subst e;unfold aA at h;rw[hD]at h;cases h;cases ho
theorem M4 {w:World} {b D:Nat} {v1 v2 v3:Value} {o:Obj} (h:w.heap[D]?=some o) (h1:D≠b+1) (h2:D≠b+2) (h3:D≠b+3):
  (((w.setCell ⟨b+1,0,none⟩ v1).setCell ⟨b+2,0,none⟩ v2).setCell ⟨b+3,0,none⟩ v3).heap[D]?=some o:=by rw[Below.heap_setCell _ _ _ _ (by simpa using h3),Below.heap_setCell _ _ _ _ (by simpa using h2),Below.heap_setCell _ _ _ _ (by simpa using h1)];exact h
theorem aA.ne_def {W:World} {g D:Nat} {T:TypeId} {cs:Array Value} {ds:Option (List Deferred)} (h:aA W g T cs) (hD:W.heap[D]?=some (.deferred ds)):D≠g:=fun e=>by
 subst e;unfold aA at h;rw[hD]at h;cases h
theorem fin0 {w0 w X:World} {b D:Nat} {T1 T2 T3:TypeId} {x1 x2 x3 v1 v2 v3:Value} (h1:aA w (b+1) T1 #[x1]) (h2:aA w (b+2) T2 #[x2]) (h3:aA w (b+3) T3 #[x3]) (hD:w.heap[D]?=some (.deferred (some []))) (hb:Below b w0 w) (hbD:b≤D)
  (hX:X=((((w.setCell ⟨b+1,0,none⟩ v1).setCell ⟨b+1+1,0,none⟩ v2).setCell ⟨b+1+1+1,0,none⟩ v3))):
  X.heap[D]?=some (.deferred (some []))∧(X.putObj D (.deferred none)).cell? ⟨b+1,0,none⟩=some v1∧(X.putObj D (.deferred none)).cell? ⟨b+1+1,0,none⟩=some v2∧(X.putObj D (.deferred none)).cell? ⟨b+1+1+1,0,none⟩=some v3∧Below b w0 (X.putObj D (.deferred none)):=by subst hX;have a1:aA (w.setCell ⟨b+1,0,none⟩ v1) (b+1) T1 #[v1]:=h1.set 0 v1;have a2:aA (w.setCell ⟨b+1,0,none⟩ v1) (b+2) T2 #[x2]:=h2.other (by simp) _;have a3:aA (w.setCell ⟨b+1,0,none⟩ v1) (b+3) T3 #[x3]:=h3.other (by simp) _;have b1:aA ((w.setCell ⟨b+1,0,none⟩ v1).setCell ⟨b+2,0,none⟩ v2) (b+1) T1 #[v1]:=a1.other (by simp) _;have b2:aA ((w.setCell ⟨b+1,0,none⟩ v1).setCell ⟨b+2,0,none⟩ v2) (b+2) T2 #[v2]:=a2.set 0 v2;have b3:aA ((w.setCell ⟨b+1,0,none⟩ v1).setCell ⟨b+2,0,none⟩ v2) (b+3) T3 #[x3]:=a3.other (by simp) _;have d1:aA (((w.setCell ⟨b+1,0,none⟩ v1).setCell ⟨b+2,0,none⟩ v2).setCell ⟨b+3,0,none⟩ v3) (b+1) T1 #[v1]:=b1.other (by simp) _;have d2:aA (((w.setCell ⟨b+1,0,none⟩ v1).setCell ⟨b+2,0,none⟩ v2).setCell ⟨b+3,0,none⟩ v3) (b+2) T2 #[v2]:=b2.other (by simp) _;have d3:aA (((w.setCell ⟨b+1,0,none⟩ v1).setCell ⟨b+2,0,none⟩ v2).setCell ⟨b+3,0,none⟩ v3) (b+3) T3 #[v3]:=b3.set 0 v3;have hd:(((w.setCell ⟨b+1,0,none⟩ v1).setCell ⟨b+2,0,none⟩ v2).setCell ⟨b+3,0,none⟩ v3).heap[D]?=some (.deferred (some [])):=M4 hD (h1.ne_def hD) (h2.ne_def hD) (h3.ne_def hD);have e1:=(show aA (((w.setCell ⟨b+1,0,none⟩ v1).setCell ⟨b+2,0,none⟩ v2).setCell ⟨b+3,0,none⟩ v3) (b+1) T1 #[v1] from d1).putObj hd rfl (.deferred none);have e2:=(show aA (((w.setCell ⟨b+1,0,none⟩ v1).setCell ⟨b+2,0,none⟩ v2).setCell ⟨b+3,0,none⟩ v3) (b+2) T2 #[v2] from d2).putObj hd rfl (.deferred none);have e3:=(show aA (((w.setCell ⟨b+1,0,none⟩ v1).setCell ⟨b+2,0,none⟩ v2).setCell ⟨b+3,0,none⟩ v3) (b+3) T3 #[v3] from d3).putObj hd rfl (.deferred none);have hB:Below b w0 (((w.setCell ⟨b+1,0,none⟩ v1).setCell ⟨b+2,0,none⟩ v2).setCell ⟨b+3,0,none⟩ v3):=(((hb.setCell (p:=⟨b+1,0,none⟩) (by simp) _).setCell (p:=⟨b+2,0,none⟩) (by simp) _).setCell (p:=⟨b+3,0,none⟩) (by simp) _);exact⟨hd,e1.cell 0 rfl,e2.cell 0 rfl,e3.cell 0 rfl,hB.grown (grownBy_putObj' _ D _) (by have h9:=h1.lt;have hs:(((w.setCell ⟨b+1,0,none⟩ v1).setCell ⟨b+2,0,none⟩ v2).setCell ⟨b+3,0,none⟩ v3).heap.size=w.heap.size:=(by simp[World.setCell]);rw[hs];omega) (fun k e=>by cases e;exact hbD)⟩
theorem F2 {Y w0:World} {D b:Nat} {o o':Obj} {p1 p2 p3:Addr} {v1 v2 v3:Value} (h:Y.heap[D]?=some o) (h1:(Y.putObj D o').cell? p1=some v1) (h2:(Y.putObj D o').cell? p2=some v2) (h3:(Y.putObj D o').cell? p3=some v3) (h4:Below b w0 (Y.putObj D o')):
  Y.drew.heap[D]?=some o∧(Y.drew.putObj D o').cell? p1=some v1∧(Y.drew.putObj D o').cell? p2=some v2∧(Y.drew.putObj D o').cell? p3=some v3∧Below b w0 (Y.drew.putObj D o'):=⟨h,h1,h2,h3,h4.drew⟩
theorem BC {w0 w X:World} {b D:Nat} {T1 T2 T3:TypeId} {x1 x2 x3 v1 v2 v3:Value} (h1:aA w (b+1) T1 #[x1]) (h2:aA w (b+2) T2 #[x2]) (h3:aA w (b+3) T3 #[x3]) (hD:w.heap[D]?=some (.deferred (some []))) (hb:Below b w0 w) (hbD:b≤D)
  (hX:X=((((w.setCell ⟨b+1,0,none⟩ v1).setCell ⟨b+1+1,0,none⟩ v2).setCell ⟨b+1+1+1,0,none⟩ v3).drew)):
  X.heap[D]?=some (.deferred (some []))∧(X.putObj D (.deferred none)).cell? ⟨b+1,0,none⟩=some v1∧(X.putObj D (.deferred none)).cell? ⟨b+1+1,0,none⟩=some v2∧(X.putObj D (.deferred none)).cell? ⟨b+1+1+1,0,none⟩=some v3∧Below b w0 (X.putObj D (.deferred none)):=by obtain⟨Y,hY⟩:∃Y,Y=(((w.setCell ⟨b+1,0,none⟩ v1).setCell ⟨b+1+1,0,none⟩ v2).setCell ⟨b+1+1+1,0,none⟩ v3):=⟨_,rfl⟩;rw[←hY]at hX;obtain⟨k1,r1,r2,r3,r4⟩:=fin0 (w0:=w0) h1 h2 h3 hD hb hbD hY;clear hY;subst hX;exact F2 k1 r1 r2 r3 r4
theorem OI {n₀ b:Nat} {w:World} {x1 x2 x3 v1 v2 v3:Value} (h1:aA w (b+1) 30 #[x1]) (h2:aA w (b+2) 79 #[x2]) (h3:aA w (b+3) 48 #[x3]) (hn:n₀≤b):
  cJ n₀ kL w (((w.setCell ⟨b+1,0,none⟩ v1).setCell ⟨b+1+1,0,none⟩ v2).setCell ⟨b+1+1+1,0,none⟩ v3):=by have a2:aA (w.setCell ⟨b+1,0,none⟩ v1) (b+2) 79 #[x2]:=h2.other (by simp) _;have a3:aA (w.setCell ⟨b+1,0,none⟩ v1) (b+3) 48 #[x3]:=h3.other (by simp) _;have b3:aA ((w.setCell ⟨b+1,0,none⟩ v1).setCell ⟨b+2,0,none⟩ v2) (b+3) 48 #[x3]:=a3.other (by simp) _;exact((cJ.set h1 (by omega) (.inr (.inl rfl)) 0 _).trans (cJ.set a2 (by omega) (.inr (.inr rfl)) 0 _)).trans (cJ.set b3 (by omega) (.inl rfl) 0 _)
theorem cJ.putObj {n₀ D:Nat} {Ts:TypeId→Prop} {W:World} {o o':Obj} (hD:W.heap[D]?=some o) (ho:o.isCells=false) (hn:n₀≤D):cJ n₀ Ts W (W.putObj D o'):=
 ⟨(Zc n₀ W).grown (grownBy_putObj' W D o') (by have:=(Array.getElem?_eq_some_iff.1 hD).1;omega) (fun k e=>by cases e;exact hn),fun k cs T fz hT hk=>by
  refine(World.putObj_heap_other (fun e=>?_)).trans hk;subst e;rw[hD]at hk;cases hk;cases ho⟩
theorem LW {w w':World} {n₀ B:Nat} {Ts:TypeId→Prop} {e:TypeId} {s n:Nat} {v:Value} {xs:List Value} (h:w.ownsRow B e s v n xs) (hs:cJ n₀ Ts w w') (hT:¬Ts e):w'.ownsRow B e s v n xs:=by
 refine⟨h.1,?_⟩;rcases h.2 with hn|⟨g,cap,cur,rfl,hb,hg,r⟩
 ·exact .inl hn
 ·exact .inr ⟨g,cap,cur,rfl,hb,hs.kept g cur _ _ hT hg,r⟩
theorem sA {d:bE} (hg:dL d=true) (hf:dM d.input=true):eK d=match bT true d.input d.lays with
  |none=>none
  |some p=>if d.loss=1∧p.1.length≠1 then none else some p:=by rw[eK,hg,hf];rfl
theorem zD {w w0:World} {b:Nat} {T1 T2 T3:TypeId} {x1 x2 x3 v1 v2 v3:Value} (h1:aA w (b+1) T1 #[x1]) (h2:aA w (b+2) T2 #[x2]) (h3:aA w (b+3) T3 #[x3]) (hb:Below b w0 w):
  (((w.setCell ⟨b+1,0,none⟩ v1).setCell ⟨b+2,0,none⟩ v2).setCell ⟨b+3,0,none⟩ v3).cell? ⟨b+1,0,none⟩=some v1∧(((w.setCell ⟨b+1,0,none⟩ v1).setCell ⟨b+2,0,none⟩ v2).setCell ⟨b+3,0,none⟩ v3).cell? ⟨b+2,0,none⟩=some v2∧
  (((w.setCell ⟨b+1,0,none⟩ v1).setCell ⟨b+2,0,none⟩ v2).setCell ⟨b+3,0,none⟩ v3).cell? ⟨b+3,0,none⟩=some v3∧Below b w0 (((w.setCell ⟨b+1,0,none⟩ v1).setCell ⟨b+2,0,none⟩ v2).setCell ⟨b+3,0,none⟩ v3)∧
  (w.setCell ⟨b+1,0,none⟩ v1).frozen? ⟨b+2,0,none⟩=false∧((w.setCell ⟨b+1,0,none⟩ v1).setCell ⟨b+2,0,none⟩ v2).frozen? ⟨b+3,0,none⟩=false∧(w.setCell ⟨b+1,0,none⟩ v1).cell? ⟨b+2,0,none⟩=some x2∧((w.setCell ⟨b+1,0,none⟩ v1).setCell ⟨b+2,0,none⟩ v2).cell? ⟨b+3,0,none⟩=some x3:=by have a1:aA (w.setCell ⟨b+1,0,none⟩ v1) (b+1) T1 #[v1]:=h1.set 0 v1;have a2:aA (w.setCell ⟨b+1,0,none⟩ v1) (b+2) T2 #[x2]:=h2.other (by simp) _;have a3:aA (w.setCell ⟨b+1,0,none⟩ v1) (b+3) T3 #[x3]:=h3.other (by simp) _;have b1:aA ((w.setCell ⟨b+1,0,none⟩ v1).setCell ⟨b+2,0,none⟩ v2) (b+1) T1 #[v1]:=a1.other (by simp) _;have b2:aA ((w.setCell ⟨b+1,0,none⟩ v1).setCell ⟨b+2,0,none⟩ v2) (b+2) T2 #[v2]:=a2.set 0 v2;have b3:aA ((w.setCell ⟨b+1,0,none⟩ v1).setCell ⟨b+2,0,none⟩ v2) (b+3) T3 #[x3]:=a3.other (by simp) _;have d1:aA (((w.setCell ⟨b+1,0,none⟩ v1).setCell ⟨b+2,0,none⟩ v2).setCell ⟨b+3,0,none⟩ v3) (b+1) T1 #[v1]:=b1.other (by simp) _;have d2:aA (((w.setCell ⟨b+1,0,none⟩ v1).setCell ⟨b+2,0,none⟩ v2).setCell ⟨b+3,0,none⟩ v3) (b+2) T2 #[v2]:=b2.other (by simp) _;have d3:aA (((w.setCell ⟨b+1,0,none⟩ v1).setCell ⟨b+2,0,none⟩ v2).setCell ⟨b+3,0,none⟩ v3) (b+3) T3 #[v3]:=b3.set 0 v3;exact⟨d1.cell 0 rfl,d2.cell 0 rfl,d3.cell 0 rfl,((hb.setCell (p:=⟨b+1,0,none⟩) (by simp) _).setCell (p:=⟨b+2,0,none⟩) (by simp) _).setCell (p:=⟨b+3,0,none⟩) (by simp) _,a2.free 0,b3.free 0,a2.cell 0 rfl,b3.cell 0 rfl⟩
attribute [local go_sem] Oper.semAt_some
theorem N1 (oi:Option Addr) (ci:Nat) (ol:Option Addr) (cl:Nat) (d:bE) (w:World) (h:eJ w (.slice oi d.input.length ci) (.slice ol d.lays.length cl) d) (hci:d.input.length≤ci):
  Calls Tryz.prog 157 #[.agg #[.slice oi d.input.length ci,.slice ol d.lays.length cl,.int .i64 d.loss]] w (AR w d):=by
 have HD:=Za h;clear h;refine callsIn_wide.1 (?_:CallsIn Fence.wide 9 _ _ _ _ _);refine callsIn_of_wp_marks Tryz.func157 rfl trivial ?_ rfl;simp only[Tryz.ntmps157,List.size_toArray,List.length_cons,List.length_nil,Nat.reduceAdd,Nat.reduceSub,Array.replicate_succ,Array.replicate_zero,List.push_toArray,List.append_toArray,List.nil_append,List.cons_append];refine wpIn_wide.2 ?_;go_wp2_with fail;obtain⟨b,hb⟩:∃b,b=w.heap.size:=⟨_,rfl⟩;obtain⟨W4,hW4⟩:∃W4,W4=(((w.alloc (.cells #[.slice oi d.input.length ci,.slice ol d.lays.length cl,.int .i64 d.loss] 33)).alloc (.cells #[.slice none 0 0] 30)).alloc (.cells #[.slice none 0 0] 79)).alloc (.cells #[.int .i64 0] 48):=⟨_,rfl⟩;have hx0:aA W4 b 33 #[.slice oi d.input.length ci,.slice ol d.lays.length cl,.int .i64 d.loss]:=by rw[hW4,hb];exact(((aA.new w _ _).next ((Zc _ _).alloc (Zb _) _)).next ((Zc _ _).alloc (Zb _) _)).next ((Zc _ _).alloc (Zb _) _)
 have hx1:aA W4 (b+1) 30 #[.slice none 0 0]:=by rw[hW4,hb,←World.size_alloc w];exact((aA.new _ _ _).next ((Zc _ _).alloc (Zb _) _)).next ((Zc _ _).alloc (Zb _) _)
 have hx2:aA W4 (b+2) 79 #[.slice none 0 0]:=by rw[hW4,hb,show w.heap.size+2=((w.alloc (.cells #[.slice oi d.input.length ci,.slice ol d.lays.length cl,.int .i64 d.loss] 33)).alloc (.cells #[.slice none 0 0] 30)).heap.size by simp];exact(aA.new _ _ _).next ((Zc _ _).alloc (Zb _) _)
 have hx3:aA W4 (b+3) 48 #[.int .i64 0]:=by rw[hW4,hb,show w.heap.size+3=(((w.alloc (.cells #[.slice oi d.input.length ci,.slice ol d.lays.length cl,.int .i64 d.loss] 33)).alloc (.cells #[.slice none 0 0] 30)).alloc (.cells #[.slice none 0 0] 79)).heap.size by simp];exact aA.new _ _ _
 have hlow:Below w.heap.size w W4:=by rw[hW4];exact(((((Zc _ _).alloc (Zb _) _).alloc (by simp) _).alloc (by simp;omega) _).alloc (by simp;omega) _)
 rw[←hW4,←hb];have HX:=Za (Zd hx0 (Zd hx1 (Zd hx2 (Zd hx3 hlow))));have HB:=Za hb;have c0:=hx0.q 0 rfl;have c1:=hx0.q 1 rfl;have c2:=hx0.q 2 rfl;have HD4:=Za (HD.o.next hlow);clear hW4 hx0 hx1 hx2 hx3 hlow hb;refine wp_scope_straight ?_;cases hg:dL d with
 |false=>
  have HN:=Za (show eK d=none from by rw[eK,hg];rfl);have HG:=Za hg;clear hg;go_wp2_with(go_at_call 99;refine(wW _ _ d _ HD4.o).mono ?_;rintro e w1 ⟨rfl,hb1⟩;rw[HG.o];refine aD ?_);have HP:=Za (zD (v1:=.slice none 0 0) (v2:=.slice none 0 0) (v3:=.int .i64 1) (HX.o.2.1.next hb1) (HX.o.2.2.1.next hb1) (HX.o.2.2.2.1.next hb1) (by rw[HB.o];exact HX.o.2.2.2.2.trans (hb1.mono HX.o.2.2.2.2.size)));have d1:w1.cell? ⟨b+1,0,none⟩=some (.slice none 0 0):=(HX.o.2.1.next hb1).cell 0 rfl;have f1:=(HX.o.2.1.next hb1).free 0;have r1:=HP.o.1;have r2:=HP.o.2.1;have r3:=HP.o.2.2.1;have f2:=HP.o.2.2.2.2.1;have f3:=HP.o.2.2.2.2.2.1;have d2:=HP.o.2.2.2.2.2.2.1;have d3:=HP.o.2.2.2.2.2.2.2;clear hb1 c0 c1 c2;refine aC ?_;go_wp2_with fail;refine⟨.tuple #[.slice none 0 0,.slice none 0 0,.int .i64 1],by simp[results,Tryz.results157,go_sem,r1,r2,r3],?_⟩;exact⟨by have:=HP.o.2.2.2.1;rw[HB.o]at this ⊢;exact this,.inl ⟨HN.o,1,by decide,rfl⟩⟩
 |true=>
  obtain⟨hi1,hi2,hi3,hi4,_⟩:=mQ hg;have HG:=Za hg;clear hg;go_wp2_with(go_at_call 99;refine(wW _ _ d _ HD4.o).mono ?_;rintro e w1 ⟨rfl,hb1⟩;rw[HG.o];refine aD ?_);have HX1:=Za (Zd (HX.o.1.next hb1) (Zd (HX.o.2.1.next hb1) (Zd (HX.o.2.2.1.next hb1) (Zd (HX.o.2.2.2.1.next hb1) (HX.o.2.2.2.2.trans (hb1.mono HX.o.2.2.2.2.size))))));have HD1:=Za (HD4.o.next hb1);have c0:=HX1.o.1.q 0 rfl;clear hb1 c1 c2 HX HD4;refine aC ?_;cases hf:dM d.input with
  |false=>
   have HN:=Za (show eK d=none from by rw[eK,HG.o,hf];rfl);have HF:=Za hf;clear hf;go_wp2_with(go_at_call 181;refine(rA _ _ _ d.input _ HD1.o.input (by omega)).mono ?_;rintro e w2 ⟨rfl,hb2⟩;rw[HF.o];refine aD ?_);have HP:=Za (zD (v1:=.slice none 0 0) (v2:=.slice none 0 0) (v3:=.int .i64 5) (HX1.o.2.1.next hb2) (HX1.o.2.2.1.next hb2) (HX1.o.2.2.2.1.next hb2) (by rw[HB.o];exact HX1.o.2.2.2.2.trans (hb2.mono HX1.o.2.2.2.2.size)));have d1:w2.cell? ⟨b+1,0,none⟩=some (.slice none 0 0):=(HX1.o.2.1.next hb2).cell 0 rfl;have f1:=(HX1.o.2.1.next hb2).free 0;have r1:=HP.o.1;have r2:=HP.o.2.1;have r3:=HP.o.2.2.1;have f2:=HP.o.2.2.2.2.1;have f3:=HP.o.2.2.2.2.2.1;have d2:=HP.o.2.2.2.2.2.2.1;have d3:=HP.o.2.2.2.2.2.2.2;clear hb2 c0;refine aC ?_;go_wp2_with fail;refine⟨.tuple #[.slice none 0 0,.slice none 0 0,.int .i64 5],by simp[results,Tryz.results157,go_sem,r1,r2,r3],?_⟩;exact⟨by have:=HP.o.2.2.2.1;rw[HB.o]at this ⊢;exact this,.inl ⟨HN.o,5,by decide,rfl⟩⟩
  |true=>
   have HF:=Za hf;clear hf;go_wp2_with(go_at_call 181;refine(rA _ _ _ d.input _ HD1.o.input (by omega)).mono ?_;rintro e w2 ⟨rfl,hb2⟩;rw[HF.o];refine aD ?_);have hy0:=HX1.o.1.next hb2;have hy1:=HX1.o.2.1.next hb2;have hy2:=HX1.o.2.2.1.next hb2;have hy3:=HX1.o.2.2.2.1.next hb2;have hlow2:=HX1.o.2.2.2.2.trans (hb2.mono HX1.o.2.2.2.2.size);have c0:=hy0.q 0 rfl;have d1:=hy1.q 0 rfl;have f1:=hy1.free 0;have hz0:aA (w2.setCell ⟨b+1,0,none⟩ (.slice oi d.input.length ci)) b 33 _:=hy0.other (by simp) _;have hz1:aA (w2.setCell ⟨b+1,0,none⟩ (.slice oi d.input.length ci)) (b+1) 30 #[.slice oi d.input.length ci]:=hy1.set 0 _;have hz2:aA (w2.setCell ⟨b+1,0,none⟩ (.slice oi d.input.length ci)) (b+2) 79 _:=hy2.other (by simp) _;have hz3:aA (w2.setCell ⟨b+1,0,none⟩ (.slice oi d.input.length ci)) (b+3) 48 _:=hy3.other (by simp) _;have hlz:Below w.heap.size w (w2.setCell ⟨b+1,0,none⟩ (.slice oi d.input.length ci)):=hlow2.setCell (p:=⟨b+1,0,none⟩) (by rw[HB.o];simp) _;have HZ:=Za (Zd hz0 (Zd hz1 (Zd hz2 (Zd hz3 hlz))));clear hb2 hy0 hy1 hy2 hy3 hlow2 hz0 hz1 hz2 hz3 hlz HX1 HD1;refine aC ?_;go_wp2_with fail;refine wp_label ?_;clear c0 d1 f1;obtain⟨W5,hW5⟩:∃W5,W5=w2.setCell ⟨b+1,0,none⟩ (.slice oi d.input.length ci):=⟨_,rfl⟩;rw[←hW5]at HZ ⊢;clear hW5;have e0:=HZ.o.1.q 0 rfl;have e1:=HZ.o.1.q 1 rfl;have e2:=HZ.o.1.q 2 rfl;go_wp2_with(go_at_call 182;refine(JQ _ _ _ _ _ _ _ _).mono ?_;rintro e w3 ⟨rfl,hw3⟩;refine aD ?_);have hb3:Below W5.heap.size W5 w3:=by rw[hw3];exact(Zc _ _).alloc (Zb _) _
   have hdb:aA w3 W5.heap.size 33 #[.slice oi d.input.length ci,.slice ol d.lays.length cl,.int .i64 d.loss]:=by rw[hw3];exact aA.new _ _ _
   have hlow3:=HZ.o.2.2.2.2.trans (hb3.mono HZ.o.2.2.2.2.size);have hrt:aM w.heap.size w3 (.slice oi d.input.length ci) d.input:=(aM.of_rd (n₀:=w.heap.size) HD.o.input (Zb _) (fun o n c e=>by cases e;exact hci)).below hlow3;have HI0:=Za (show nM w w3.heap.size b oi ci ol cl d [] w3 from⟨fun x hx=>by simp at hx,hlow3,Zb _,HZ.o.1.next hb3,HZ.o.2.2.2.1.next hb3,oi,ci,none,0,0,[],HZ.o.2.1.next hb3,HZ.o.2.2.1.next hb3,hrt,aV.nil _ _ _,rfl,by simp,by simp only[hO,List.foldl_nil];omega⟩);obtain⟨hlok,hll⟩:=yE HG.o;have hsq:=EQ w w3 8 W5.heap.size oi ci (.slice ol d.lays.length cl) d hlow3 hdb hrt (EB HF.o).1 HD.o.lays hlok hll (zX HG.o);have hn3:w.heap.size≤w3.heap.size:=hlow3.size;have HSQ:=Za hsq
   try rw[←hw3]
   clear hb3 hdb hlow3 hrt hsq hw3 e0 e1 e2 HZ hlok hll;refine aC ?_;go_wp2_with fail;refine(wpIn_wide (n:=9)).1 ?_;refine GH (ik:=gW) rfl (by omega) (gf:=194) (lb:=#[.pointer (some ⟨W5.heap.size,0,none⟩)]) rfl trivial (enters_of Tryz.func194 (by kernel_rfl) rfl)
    HSQ.o (fun r ⟨cs,fz,h⟩=>by cases h) (fun r ⟨cs,fz,h⟩=>by cases h) (fun h k=>h.trans k) ?hkb (Zc _ _) (fun _=>rfl)
    (fun pre W=>nM w w3.heap.size b oi ci ol cl d pre W) (fun c pre W=>c=.exit 0∧oY w b d pre W) (PM hn3) (fun c=>PO c hn3) HI0.o
    (fun pre x a' W=>BE w.heap.size w3.heap.size b pre x a' W∧w.heap.size≤W.heap.size) (fun p x a'=>OJ hn3)
    ?assign ?body ?done ?stop
   case hkb=>exact fun W l o o' hl ho hc _=>cZ.put (Nat.le_trans hn3 hl) ho hc
   case assign=>
    intro l pre x W K hI ⟨hlen,hrdy⟩ hK;have HI:=Za hI;have HR:=Za hrdy;have HK:=Za hK;obtain⟨n,ob,nb,cb,oi',ni,ci',oo,no,co,ov,nv,cv,first,nm,fin,hcs,hz⟩:=hrdy;obtain⟨xk,xcs,xbad,xout,xps⟩:=x;simp only at hcs;subst hcs;simp only[mF,cG];clear hI hK hz
    gi_wp2
    refine HK.o _ _ ((KeepsOthers.alloc _ _).from _) (cZ.below ((Zc _ _).alloc (Zb _) _) HI.o.low.size) (HI.o.lie (gS.of_below ((Zc _ _).alloc (Zb _) _) HI.o.low.size)) ?_;refine⟨⟨hlen,⟨W.heap.size,_,_,_,_,_,_,_,_,_,_,_,_,_,_,_,_,_,_,_,_,_,_,_,_,_,_,_,_,_,_,_,_,_,_,_,_,_,_,_,_,_,_,_,rfl,HI.o.big,aA.new _ _ _⟩,HR.o.lie (gS.of_below ((Zc _ _).alloc (Zb _) _) HI.o.low.size)⟩,?_⟩;have:=HI.o.low.size;simp;omega
   case body=>
    rintro l pre x a' W hI ⟨⟨hlen,⟨g,u0,u5,u7,u8,u9,u10,u11,u12,u13,u14,u15,u16,u17,u18,u19,u20,u21,u22,u23,u24,u25,u26,u27,u28,u29,u30,u31,u32,u33,u34,u35,u36,u37,u38,u39,u40,u41,u42,u43,u44,u45,u46,u47,rfl,hBg,hbx⟩,hrdy⟩,hsz⟩;obtain⟨n,ob,nb,cb,oi',ni,ci',oo,no,co,ov,nv,cv,first,nm,fin,hcs,hz⟩:=hrdy;obtain⟨xk,xcs,xbad,xout,xps⟩:=x;simp only at hcs hz;subst hcs;obtain⟨hok,hlow,hbig,hdf,her,o1,c1,o2,n2,c2,qs,hx1,hx2,hrd,hps,hpsq,hql,hol⟩:=hI;have g14:=hbx.q 14 rfl;have r3:=her.q 0 rfl;have f3:=her.free 0;have hnb:w.heap.size≤b:=by rw[HB.o];exact Zb _
    have hL1:cJ w.heap.size kL W (W.setCell ⟨b+3,0,none⟩ (.int .i64 xbad)):=cJ.set her (by omega) (.inl rfl) 0 _;have hy3:aA (W.setCell ⟨b+3,0,none⟩ (.int .i64 xbad)) (b+3) 48 #[.int .i64 xbad]:=her.set 0 _;have s3:=hy3.cell 0 rfl;by_cases hbd:xbad=0
    ·subst hbd;obtain⟨qs2,hrd2,hps2,hpq2,hql2,hol2⟩:=hz rfl;have hno:=sC hrd2;subst hno;obtain⟨ov',cv',hov⟩:=aJ hps2.row;have hnv:nv=qs2.length:=by injection hov
     subst hnv;clear hov;obtain⟨ow',cw',how⟩:=aJ hps.row;have hn2:n2=qs.length:=by injection how
     subst hn2;clear how;have hbx1:aA (W.setCell ⟨b+3,0,none⟩ (.int .i64 0)) g 251 _:=hbx.lieT hL1 (by decide);have g10:=hbx1.q 10 rfl;have hx1':aA (W.setCell ⟨b+3,0,none⟩ (.int .i64 0)) (b+1) 30 _:=hx1.other (by simp) _;have hx2':aA (W.setCell ⟨b+3,0,none⟩ (.int .i64 0)) (b+2) 79 _:=hx2.other (by simp) _;have r1:=hx1'.cell 0 rfl;have f1:=hx1'.free 0;obtain⟨W2,hW2⟩:∃W2,W2=(W.setCell ⟨b+3,0,none⟩ (.int .i64 0)).setCell ⟨b+1,0,none⟩ (.slice oo xout.length co):=⟨_,rfl⟩;have hL2:cJ w.heap.size kL W W2:=by rw[hW2];exact hL1.trans (cJ.set hx1' (by omega) (.inr (.inl rfl)) 0 _)
     have hk2:KeepsOthers W W2:=by rw[hW2];exact(KeepsOthers.setCell _ _ _).trans (KeepsOthers.setCell _ _ _)
     have hb2:aA W2 g 251 _:=hbx.lieT hL2 (by decide);have hx12:aA W2 (b+1) 30 #[.slice oo xout.length co]:=by rw[hW2];exact hx1'.set 0 _
     have hx22:aA W2 (b+2) 79 #[.slice o2 qs.length c2]:=by rw[hW2];exact hx2'.other (by simp) _
     have hx32:aA W2 (b+3) 48 #[.int .i64 0]:=by rw[hW2];exact hy3.other (by simp) _
     have k2:=hx22.q 0 rfl;have k11:=hb2.q 11 rfl;have hq2:=hps.lieT hL2 (by decide) (by decide);have hq22:=hps2.lieT hL2 (by decide) (by decide);have hrd22:=hrd2.lieT hL2 (by decide);have hdf2:=hdf.lieT hL2 (by decide);rw[hW2]at k2 k11;have HQ:=Za (Zd hq2 hq22);have HW2:=Za hW2;have hz2:w.heap.size≤W2.heap.size:=Nat.le_trans hsz hL2.low.size;have HXX:=Za (Zd hx12 (Zd hx22 (Zd hx32 (Zd hrd22 (Zd hdf2 (Zd hL2 (Zd hk2 hlow)))))));have HPP:=Za (Zd hok (Zd hpsq (Zd hql hpq2)));clear hdf her hx1 hx2 hrd hps hL1 hL2 hy3 hok hlow hpsq hbx hbx1 hx1' hx2' hb2 hx12 hx22 hx32 hq2 hq22 hrd22 hdf2 hrd2 hps2 hpq2 hz hk2 hW2
     gi_wp2_with (gi_at_builtin;refine aD ?_)
     refine aC ?_;rw[←HW2.o];clear k2 k11;refine JK W2 rfl _ _ rfl rfl w.heap.size w.heap.size w.heap.size _ _ qs qs2 rfl rfl HQ.o.1 HQ.o.2 (by omega) hz2 (Zb _) ?_;intro v' W3 hown hgrow;have hrow:∀k,(Value.slice o2 qs.length c2).ownBlock=some k→w.heap.size≤k∧∃cur,W2.heap[k]?=some (.cells cur 161 (0,0)):=fun k hk=>by
      rcases HQ.o.1.row.2 with⟨h1,_⟩|⟨bb,cap,cur,h1,hbb,hgg,_⟩
      ·rw[h1]at hk;simp[Value.ownBlock]at hk
      ·rw[h1]at hk;simp[Value.ownBlock]at hk;subst hk;exact⟨hbb,cur,hgg⟩
     have hL3:cJ w.heap.size (fun T=>T=161) W2 W3:=cJ.grown hgrow hrow hz2 rfl;obtain⟨oz,cz,rfl⟩:=aJ hown.row;obtain⟨nq,hnq⟩:∃nq,nq=(qs++qs2).length:=⟨_,rfl⟩;rw[←hnq]at hown ⊢;clear hnq;have hy1:=HXX.o.1.lieT hL3 (by decide);have hy2:=HXX.o.2.1.lieT hL3 (by decide);have hy3:=HXX.o.2.2.1.lieT hL3 (by decide);have hrd3:=HXX.o.2.2.2.1.lieT hL3 (by decide);have hdf3:=HXX.o.2.2.2.2.1.lieT hL3 (by decide);have hL4:cJ w.heap.size kL W3 (W3.setCell ⟨b+2,0,none⟩ (.slice oz nq cz)):=cJ.set hy2 (by omega) (.inr (.inr rfl)) 0 _;have hK23:KeepsOthers W2 W3:=KeepsOthers.of_grownBy hgrow (fun j o hj ho=>by obtain⟨_,cur,hc⟩:=hrow j hj;rw[ho]at hc;cases hc;rfl);have k2:=hy2.q 0 rfl;have f2:=hy2.free 0;have hLL:cJ w.heap.size sK W (W3.setCell ⟨b+2,0,none⟩ (.slice oz nq cz)):=(HXX.o.2.2.2.2.2.1.mono (fun T h=>.inl h)).trans ((hL3.mono (fun T h=>.inr h)).trans (hL4.mono (fun T h=>.inl h)));have HF:=Za (show KeepsFrom w3.heap.size W (W3.setCell ⟨b+2,0,none⟩ (.slice oz nq cz))∧cZ w.heap.size W (W3.setCell ⟨b+2,0,none⟩ (.slice oz nq cz))∧
       nM w w3.heap.size b oi ci ol cl d (pre++[⟨xk,cG n (.slice ob nb cb) (.slice oi' ni ci') (.slice oo xout.length co) (.slice ov qs2.length cv) first nm 0 fin,0,xout,xps⟩]) (W3.setCell ⟨b+2,0,none⟩ (.slice oz nq cz))from by
      refine⟨((HXX.o.2.2.2.2.2.2.1.trans hK23).trans (KeepsOthers.setCell _ _ _)).from _,hLL.keepI,jA.2 ⟨HPP.o.1,l9 rfl⟩,HXX.o.2.2.2.2.2.2.2.trans hLL.low,Nat.le_trans hbig hLL.low.size,hdf3.other (by simp) _,hy3.other (by simp) _,?_⟩;have hlo:hO d.input (pre++[(⟨xk,cG n (.slice ob nb cb) (.slice oi' ni ci') (.slice oo xout.length co) (.slice ov qs2.length cv) first nm 0 fin,0,xout,xps⟩:bR)])=xout:=by rw[sG];rfl
      rw[hlo];exact⟨oo,co,oz,_,cz,qs++qs2,hy1.other (by simp) _,hy2.set 0 _,hrd3.lieT hL4 (by decide),hown.lieT hL4 (by decide) (by decide),by rw[pZ,HPP.o.2.1,List.map_append,←HPP.o.2.2.2];simp[jM],by rw[Zl,Zl,List.length_singleton];have:=HPP.o.2.2.1;omega,hol2⟩)
     clear hL3 hy1 hy2 hy3 hrd3 hdf3 hL4 hK23 hLL hown hgrow hrow HXX
     gi_wp2
     exact HF.o
    ·have hbb:(xbad != 0)=true:=by simpa using hbd
     have hE:oY w b d (pre++[⟨xk,cG n (.slice ob nb cb) (.slice oi' ni ci') (.slice oo no co) (.slice ov nv cv) first nm xbad fin,xbad,xout,xps⟩]) (W.setCell ⟨b+3,0,none⟩ (.int .i64 xbad)):=
      ⟨fun h=>hbd ((jA.1 h).2 _ (List.mem_singleton.2 rfl)),hlow.trans hL1.low,xbad,_,_,_,_,_,_,_,_,_,hbd,hdf.lieT hL1 (by decide),hx1.other (by simp) _,hx2.other (by simp) _,hy3⟩
     have HE:=Za hE;clear hE hdf her hx1 hx2 hrd hps hL1 hy3 hz hok hlow hpsq hql hol hbx
     gi_wp2
     exact⟨(KeepsOthers.setCell _ _ _).from _,rfl,HE.o⟩
   case done=>
    rintro D xs W hD hS hI hK;obtain⟨hok,hlow,hbig,hdf,her,o1,c1,o2,n2,c2,qs,hx1,hx2,hrd,hps,hpsq,hql,hol⟩:=hI;obtain⟨p,hp,hpp,hpl⟩:=hS hok;rw[hpl]at hx1 hrd hol;have HK:=Za hK;have b2:=hdf.q 2 rfl;have e1:=hx1.q 0 rfl;have e2:=hx2.q 0 rfl;have e3:=her.q 0 rfl;have f1:=hx1.free 0;have f2:=hx2.free 0;have f3:=her.free 0;have HP:=Za (Zd hp (Zd hpp (Zd hpsq hql)));by_cases hlx:d.loss=1∧p.1.length≠1
    ·have HN:=Za (show eK d=none from by rw[sA HG.o HF.o,hp];simp only;rw[if_pos hlx]);obtain⟨hl1,hl2⟩:=hlx;have hl2':((p.1.length:Int) != 1)=true:=by simpa using(by omega:¬(p.1.length:Int)=1)
     have hd1:=hx1.ne_def hK;have hd2:=hx2.ne_def hK;have hd3:=her.ne_def hK;have q3:(W.setCell ⟨b+3,0,none⟩ (.int .i64 2)).cell? ⟨b+3,0,none⟩=some (.int .i64 2):=(her.set 0 _).cell 0 rfl;have w1x:aA (W.setCell ⟨b+3,0,none⟩ (.int .i64 2)) (b+1) 30 _:=hx1.other (by simp) _;have w2x:aA (W.setCell ⟨b+3,0,none⟩ (.int .i64 2)) (b+2) 79 _:=hx2.other (by simp) _;have w3x:aA (W.setCell ⟨b+3,0,none⟩ (.int .i64 2)) (b+3) 48 _:=her.set 0 _;have hKz:(W.setCell ⟨b+3,0,none⟩ (.int .i64 2)).heap[D]?=some (.deferred (some [])):=(Below.heap_setCell _ _ _ _ (by simpa using hd3)).trans hK;have hlz:Below w.heap.size w (W.setCell ⟨b+3,0,none⟩ (.int .i64 2)):=hlow.setCell (p:=⟨b+3,0,none⟩) (by rw[HB.o];simp) _;have HW:=Za (Zd w1x (Zd w2x (Zd w3x (Zd hKz hlz))));clear hx1 hx2 her hdf hrd hps hpsq hql hpl hpp hp hS hK hlow w1x w2x w3x hKz hlz hok;go_wp2_with fail;obtain⟨V,hV⟩:∃V,V=W.setCell ⟨b+3,0,none⟩ (.int .i64 2):=⟨_,rfl⟩;rw[←hV]at HW q3 ⊢;clear hV b2 e1 e2 e3 f1 f2 f3;have q1:=HW.o.1.q 0 rfl;have q2:=HW.o.2.1.q 0 rfl;have f1:=HW.o.1.free 0;have f2:=HW.o.2.1.free 0;have f3:=HW.o.2.2.1.free 0;have hbD:b≤D:=by have:=HB.o;omega
     go_region;obtain⟨X,hX⟩:∃X,X=((((V.setCell ⟨b+1,0,none⟩ (.slice none 0 0)).setCell ⟨b+1+1,0,none⟩ (.slice none 0 0)).setCell ⟨b+1+1+1,0,none⟩ (.int .i64 2)).drew):=⟨_,rfl⟩;obtain⟨k1,r1,r2,r3,r4⟩:=BC (w0:=w) HW.o.1 HW.o.2.1 HW.o.2.2.1 HW.o.2.2.2.1 (by rw[HB.o];exact HW.o.2.2.2.2) hbD hX;rw[←hX];clear hX q1 q2 q3 f1 f2 f3;have HR4:=Za r4;have HK1:=Za k1;clear r4 k1;go_wp2_with fail;refine⟨by simp,.inl ⟨_,_,rfl,run_takeDeferred HK1.o,?_⟩⟩;refine⟨.tuple #[.slice none 0 0,.slice none 0 0,.int .i64 2],by simp[results,Tryz.results157,go_sem,r1,r2,r3],?_⟩;exact⟨by have:=HR4.o;rw[HB.o]at this;exact this,.inl ⟨HN.o,2,by decide,rfl⟩⟩
    ·have HN:=Za (show eK d=some p from by rw[sA HG.o HF.o,hp];simp only;rw[if_neg hlx]);have HRD:=Za hrd;have HPS:=Za hps;have hd1:=hx1.ne_def hK;have HW:=Za (Zd hx1 (Zd hx2 (Zd her (Zd hK hlow))));have hbD:b≤D:=by have:=HB.o;omega
     have hlx2:((d.loss==1)&&((p.1.length:Int) != 1))=false:=by
      cases h1:(d.loss==1)with
      |false=>rfl
      |true=>
       rw[Bool.true_and];have h2:d.loss=1:=by simpa using h1
       have h3:p.1.length=1:=Decidable.byContradiction fun h=>hlx ⟨h2,h⟩;rw[h3];rfl
     have hcases:(d.loss==1)=false∨((d.loss==1)=true∧((p.1.length:Int) != 1)=false):=by
      cases h1:(d.loss==1)with
      |false=>exact .inl rfl
      |true=>rw[h1,Bool.true_and]at hlx2;exact .inr ⟨rfl,hlx2⟩
     clear hx1 hx2 her hdf hrd hps hpsq hql hpl hpp hp hS hK hlow hok hlx hlx2 hd1;rcases hcases with hc|⟨hc,hc2⟩
     all_goals
      go_wp2_with fail;go_region_law(go_simp;go_at_call 123;refine(rT _ p.1 _ (HRD.o.1.below (Zc _ W).drew (Zb _)) (by omega)).mono ?_;rintro e wk ⟨⟨v',rfl,hown⟩,hbk⟩;have HBK:=Za (show Below W.heap.size W wk from((Zc _ W).drew).trans hbk);obtain⟨ovk,kvk,rfl⟩:=aJ hown;have HOW:=Za (cD hown HW.o.2.2.2.2.size);have q1:wk.cell? ⟨b+1,0,none⟩=some (.slice o1 p.1.length c1):=(HW.o.1.next HBK.o).cell 0 rfl;have q2:wk.cell? ⟨b+2,0,none⟩=some (.slice o2 n2 c2):=(HW.o.2.1.next HBK.o).cell 0 rfl;have q3:wk.cell? ⟨b+3,0,none⟩=some (.int .i64 0):=(HW.o.2.2.1.next HBK.o).cell 0 rfl;have g1:=(HW.o.1.next HBK.o).free 0;have g2:=(HW.o.2.1.next HBK.o).free 0;have g3:=(HW.o.2.2.1.next HBK.o).free 0;clear hown hbk)
      all_goals
       have hDk:wk.heap[D]?=some (.deferred (some [])):=(HBK.o.block D (Array.getElem?_eq_some_iff.1 HW.o.2.2.2.1).1).trans HW.o.2.2.2.1;obtain⟨X,hX⟩:∃X,X=((wk.setCell ⟨b+1,0,none⟩ (.slice ovk p.1.length kvk)).setCell ⟨b+1+1,0,none⟩ (.slice o2 n2 c2)).setCell ⟨b+1+1+1,0,none⟩ (.int .i64 0):=⟨_,rfl⟩;obtain⟨k1,r1,r2,r3,r4⟩:=fin0 (w0:=w) (HW.o.1.next HBK.o) (HW.o.2.1.next HBK.o) (HW.o.2.2.1.next HBK.o) hDk (by rw[HB.o];exact HW.o.2.2.2.2.trans (HBK.o.mono HW.o.2.2.2.2.size)) hbD hX;have hL:cJ w.heap.size kL wk X:=by rw[hX];exact OI (HW.o.1.next HBK.o) (HW.o.2.1.next HBK.o) (HW.o.2.2.1.next HBK.o) (by rw[HB.o];exact Zb _)
       have hL2:cJ w.heap.size kL X (X.putObj D (.deferred none)):=cJ.putObj k1 rfl (by have:=HB.o;omega);have hLk:cJ w.heap.size kL W wk:=cJ.of_below HBK.o HW.o.2.2.2.2.size;have HOF:=Za (LW HOW.o (hL.trans hL2) (by decide));have HPF:=Za (HPS.o.lieT (hLk.trans (hL.trans hL2)) (by decide) (by decide));rw[←hX];have HR4:=Za r4;have HK1:=Za k1;clear hDk hX hL hL2 hLk r4 k1 q1 q2 q3 g1 g2 g3;go_wp2_with fail;refine⟨by simp,.inl ⟨_,_,rfl,run_takeDeferred HK1.o,?_⟩⟩;refine⟨.tuple #[.slice ovk p.1.length kvk,.slice o2 n2 c2,.int .i64 0],by simp[results,Tryz.results157,go_sem,r1,r2,r3],?_⟩;exact⟨by have:=HR4.o;rw[HB.o]at this;exact this,.inr ⟨p,_,_,qs,HN.o,rfl,HOF.o,HPF.o,HP.o.2.1.symm.trans HP.o.2.2.1,by
        have h1:=vP _ _ _ _ HP.o.1;have h2:=zX HG.o;have h3:=congrArg List.length (HP.o.2.1.symm.trans HP.o.2.2.1);rw[List.length_map]at h3;omega⟩⟩
   case stop=>
    rintro D c pre W hD hS ⟨rfl,hno,hlow,er,v1,v2,v3,o2,n2,c2,o3,n3,c3,her,hx0,hx1,hx2,hx3⟩ hK;have e1:=hx1.q 0 rfl;have e2:=hx2.q 0 rfl;have e3:=hx3.q 0 rfl;have f1:=hx1.free 0;have f2:=hx2.free 0;have f3:=hx3.free 0;have b2:=hx0.q 2 rfl;have HW:=Za (Zd hx1 (Zd hx2 (Zd hx3 (Zd hK hlow))));have HN:=Za (show eK d=none from by rw[sA HG.o HF.o,hS hno]);have hbD:b≤D:=by have:=HB.o;omega
    have her2:(er != 0)=true:=by simpa using her
    have her3:(er==0)=false:=by simpa using her
    have HER:=Za her;clear hx0 hx1 hx2 hx3 hK hlow hS hno her;refine wpIn_wide.2 ?_;go_wp2_with fail;go_region;obtain⟨X,hX⟩:∃X,X=((((W.setCell ⟨b+1,0,none⟩ (.slice none 0 0)).setCell ⟨b+1+1,0,none⟩ (.slice none 0 0)).setCell ⟨b+1+1+1,0,none⟩ (.int .i64 er)).drew):=⟨_,rfl⟩;obtain⟨k1,r1,r2,r3,r4⟩:=BC (w0:=w) HW.o.1 HW.o.2.1 HW.o.2.2.1 HW.o.2.2.2.1 (by rw[HB.o];exact HW.o.2.2.2.2) hbD hX;rw[←hX];clear hX e1 e2 e3 f1 f2 f3;have HR4:=Za r4;have HK1:=Za k1;clear r4 k1;go_wp2_with fail;refine⟨by simp,.inl ⟨_,_,rfl,run_takeDeferred HK1.o,?_⟩⟩;refine⟨.tuple #[.slice none 0 0,.slice none 0 0,.int .i64 er],by simp[results,Tryz.results157,go_sem,r1,r2,r3],?_⟩;exact⟨by have:=HR4.o;rw[HB.o]at this;exact this,.inl ⟨HN.o,er,HER.o,rfl⟩⟩
end Go.Proofs.YtjhkdocidcfpdaaGreatDoor
