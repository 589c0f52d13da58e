/-
  A part of the proof of a law (packed by program).
-/
import Derived.Test.YtjhkdocidcfpdaaGreatDoorTM17
set_option linter.unusedVariables false
set_option linter.unusedSimpArgs false
set_option maxRecDepth 100000
set_option maxHeartbeats 16000000
namespace Go.Proofs.YtjhkdocidcfpdaaGreatDoor
open Go.RowKit Go.Shelf Go
def lV (n:Nat):Code→Option Code
 |.seq (.region id ops d) b=>if id=n then some (.seq (.region id ops d) b) else lV n b
 |.seq a b=>match lV n a with
  |some c=>some c
  |none=>lV n b
 |.loop c=>lV n c
 |.block _ c=>lV n c
 |.scope c=>lV n c
 |.cond _ a b=>match lV n a with
  |some c=>some c
  |none=>lV n b
 |_=>none
noncomputable def uA (n:Nat):Code:=(Tryz.f195.body.bind (lV n)).getD .skip
def tS (J Jx:List bR→World→Prop) (pre xs:List bR) (none_:Prop) (W:World):Prop:=(J (pre++xs) W∧¬gR xs)∨(Jx (pre++xs) W∧(¬gR xs→none_))
def CD (n₀:Nat) (J:List bR→World→Prop) (c:Nat) (W:World) (pre xs:List bR) (s:List Int) (res:Option (List Int×List (List Int))) (v:Value) (W':World):Prop:=
 ∃p,xs.length≤2*c∧res=some p∧aM n₀ W' v p.1∧bA p.1=true∧J (pre++xs) W'∧gR xs∧jM xs=p.2∧hO s xs=p.1∧cZ n₀ W W'
theorem aV.setStep {w:World} {n₀ B g:Nat} {v:Value} {qs:List PD} {cs:Array Value} (h:aV w n₀ B v qs) (hb:aA w g 251 cs) (hn:n₀≤g) (j:Nat) (u:Value):aV (w.setCell ⟨g,j,none⟩ u) n₀ n₀ v qs∨¬n₀≤B:=by
 by_cases hB:n₀≤B
 ·refine .inl ⟨?_,fun q hq=>(h.sh q hq).keep (bC.set hb j u) hn,h.one⟩;have hr:=cD h.row hB;refine⟨hr.1,?_⟩;rcases hr.2 with hn'|⟨b,cap,cur,rfl,hbb,hgg,r⟩
  ·exact .inl hn'
  ·refine .inr ⟨b,cap,cur,rfl,hbb,?_,r⟩;rw[Below.heap_setCell _ _ _ _ (fun e=>?_)]
   ·exact hgg
   ·simp at e;subst e;unfold aA at hb;rw[hb]at hgg;simp at hgg
 ·exact .inr hB
theorem R3 {n:aG} {first:Bool} {s:List Int} {p:List Int×List (List Int)} (h:fT n first s=some p):aK n first s=some p:=by
 rw[fT]at h;split at h
 ·cases h
 ·rename_i q hq;split at h
  ·cases h;exact hq
  ·cases h
theorem l9 {x:bR} (h:x.bad=0):gR [x]:=fun y hy=>by rw[List.mem_singleton.1 hy];exact h
theorem sC {n₀:Nat} {w:World} {o:Option Addr} {n c:Nat} {xs:List Int} (h:aM n₀ w (.slice o n c) xs):n=xs.length:=by obtain⟨o',c',e⟩:=h.slice;simp at e;exact e.2.1
theorem sS {α:Type} (a b:List α) (x:α):a++b++[x]=a++(b++[x]):=List.append_assoc a b [x]
attribute [local go_sem] Oper.semAt_some
theorem IU (l m g lb k:Nat) (kd k1 k2 k3 k4 k5 k6 k7:Int) (v8:Value) (o2:Option Addr) (c2:Nat) (s2:List Int) (W3:World) (u0 u1 u2 u5 u6 u7 u8 u9 u10 u11 u15 u16 u17 u18 u19 u20 u21 u22 u23 u24 u25 u26 u27 u28 u29 u30 u31 u32 u33 u34 u35 u36 u37 u38 u39 u40 u41 u42 u43 u44 u45 u46 u47 u48 u49 u50 u51 u52 u53 u54 u55 u56 u57 u58 u59 u60 u61 u62 u63 u64 u65 u66 u67 u68 u69 u70 u71 u72 u73 u74 u75 u76 u77 u78 u79 u80 u81 u82 u83 u84 u85 u86 u87 u88 u89 u90:Value)
  (hbl:aA W3 lb 175 #[.int .i64 kd,.int .i64 k1,.int .i64 k2,.int .i64 k3,.int .i64 k4,.int .i64 k5,.int .i64 k6,.int .i64 k7,v8]) (hk13:¬kd=13)
  (Q:Exit→Act→World→Prop) (hgo:∀(t36 t37 t38:Value),Q .normal ⟨#[u0,u1,u2,.slice o2 s2.length c2,.func (.yield l) #[] #[],u5,u6,u7,u8,u9,u10,u11,.int .i64 k,.pointer (some ⟨lb,0,none⟩),.pointer (some ⟨g,0,none⟩),u15,u16,u17,u18,u19,u20,u21,u22,u23,u24,u25,u26,u27,u28,u29,u30,u31,u32,u33,u34,u35,t36,t37,t38,u39,u40,u41,u42,u43,u44,u45,u46,u47,u48,u49,u50,u51,u52,u53,u54,u55,u56,u57,u58,u59,u60,u61,u62,u63,u64,u65,u66,u67,u68,u69,u70,u71,u72,u73,u74,u75,u76,u77,u78,u79,u80,u81,u82,u83,u84,u85,u86,u87,u88,u89,u90],[]⟩ W3):Code.wpIn Fence.wide m Tryz.prog (uA 5) Q ⟨#[u0,u1,u2,.slice o2 s2.length c2,.func (.yield l) #[] #[],u5,u6,u7,u8,u9,u10,u11,.int .i64 k,.pointer (some ⟨lb,0,none⟩),.pointer (some ⟨g,0,none⟩),u15,u16,u17,u18,u19,u20,u21,u22,u23,u24,u25,u26,u27,u28,u29,u30,u31,u32,u33,u34,u35,u36,u37,u38,u39,u40,u41,u42,u43,u44,u45,u46,u47,u48,u49,u50,u51,u52,u53,u54,u55,u56,u57,u58,u59,u60,u61,u62,u63,u64,u65,u66,u67,u68,u69,u70,u71,u72,u73,u74,u75,u76,u77,u78,u79,u80,u81,u82,u83,u84,u85,u86,u87,u88,u89,u90],[]⟩ W3:=by
 have HE:=Za hgo;have b0:=hbl.q 0 rfl;clear hgo hbl
 conv=>arg 4;whnf
 gi_wp2
 exact HE.o _ _ _
theorem NX (hJG:t6) (w₀:World) (l B0:Nat) (J Jx:List bR→World→Prop) (hJ:gE gW B0 J) (hJx:gE gW B0 Jx) (hY:rB Tryz.prog w₀.heap.size l J Jx)
  (m g lb k:Nat) (kd k1 k2 k3 k4 k5 k6 k7:Int) (body:List aB) (ob:Option Addr) (cb:Nat) (o2:Option Addr) (c2:Nat) (s2:List Int) (fb:Bool) (nm:ByteArray) (pre:List bR) (W W3:World) (u0 u1 u2 u5 u6 u7 u8 u9 u10 u11 u15 u16 u17 u18 u19 u20 u21 u22 u23 u24 u25 u26 u27 u28 u29 u30 u31 u32 u33 u34 u35 u36 u37 u38 u39 u40 u41 u42 u43 u44 u45 u46 u47 u48 u49 u50 u51 u52 u53 u54 u55 u56 u57 u58 u59 u60 u61 u62 u63 u64 u65 u66 u67 u68 u69 u70 u71 u72 u73 u74 u75 u76 u77 u78 u79 u80 u81 u82 u83 u84 u85 u86 u87 u88 u89 u90:Value)
  (hbl:aA W3 lb 175 #[.int .i64 kd,.int .i64 k1,.int .i64 k2,.int .i64 k3,.int .i64 k4,.int .i64 k5,.int .i64 k6,.int .i64 k7,.slice ob body.length cb]) (hbx:aA W3 g 251 (cG ⟨kd,k1,k2,k3,k4,k5,k6,k7⟩ (.slice ob body.length cb) (.slice o2 s2.length c2) (.slice none 0 0) (.slice none 0 0) fb nm 0 false)) (hs3:W3.heap.size=g+1)
  (hS:aM w₀.heap.size W3 (.slice o2 s2.length c2) s2) (hsh:bA s2=true) (hJ3:J pre W3) (hK3:cZ w₀.heap.size W W3) (hG:W.heap.size≤g∧B0≤g∧w₀.heap.size≤g) (hnms:nm.size≤1100) (hlt:k<64)
  (hcnt:pre.length<200) (hk13:¬kd=13) (hLY:sQ ⟨kd,k1,k2,k3,k4,k5,k6,k7⟩)
  (Q:Exit→Act→World→Prop) (hret:∀{t3 t15 t16 t36 t37 t38 t39 t40 t41 t42 t43 t44 t45 t46 t47 t48 t49 t50 t51 t52 t53 t54 t55 t56 t57 t58 t59 t60 t61 t62 t63 t64 t65 t66 t67 t68 t69 t70 t71 t72 t73 t74 t75 t76 t77 t78 t79 t80 t81 t82 t83 t84 t85 t86 t87 t88:Value} {W':World} {xs':List bR},tS J Jx pre xs' (cU fb s2 (.mk ⟨kd,k1,k2,k3,k4,k5,k6,k7⟩ body)=none) W'→Q .ret ⟨#[u0,u1,u2,t3,.func (.yield l) #[] #[],u5,u6,u7,u8,u9,.slice none 0 0,.bool false,.int .i64 k,.pointer (some ⟨lb,0,none⟩),.pointer (some ⟨g,0,none⟩),t15,t16,u17,u18,u19,u20,u21,u22,u23,u24,u25,u26,u27,u28,u29,u30,u31,u32,u33,u34,u35,t36,t37,t38,t39,t40,t41,t42,t43,t44,t45,t46,t47,t48,t49,t50,t51,t52,t53,t54,t55,t56,t57,t58,t59,t60,t61,t62,t63,t64,t65,t66,t67,t68,t69,t70,t71,t72,t73,t74,t75,t76,t77,t78,t79,t80,t81,t82,t83,t84,t85,t86,t87,t88,u89,u90],[]⟩ W')
  (hgo:∀{t10 t11 t15 t16 t36 t37 t38 t39 t40 t41 t42 t43 t44 t45 t46 t47 t48 t49 t50 t51 t52 t53 t54 t55 t56 t57 t58 t59 t60 t61 t62 t63 t64 t65 t66 t67 t68 t69 t70 t71 t72 t73 t74 t75 t76 t77 t78 t79 t80 t81 t82 t83 t84 t85 t86 t87 t88:Value} {W':World} {xs':List bR} {oo:Option Addr} {no co:Nat},CD w₀.heap.size J (aB.mk ⟨kd,k1,k2,k3,k4,k5,k6,k7⟩ body).count W pre xs' s2 (cU fb s2 (.mk ⟨kd,k1,k2,k3,k4,k5,k6,k7⟩ body)) (.slice oo no co) W'→Q .normal ⟨#[u0,u1,u2,.slice oo no co,.func (.yield l) #[] #[],u5,u6,u7,u8,u9,t10,t11,.int .i64 k,.pointer (some ⟨lb,0,none⟩),.pointer (some ⟨g,0,none⟩),t15,t16,u17,u18,u19,u20,u21,u22,u23,u24,u25,u26,u27,u28,u29,u30,u31,u32,u33,u34,u35,t36,t37,t38,t39,t40,t41,t42,t43,t44,t45,t46,t47,t48,t49,t50,t51,t52,t53,t54,t55,t56,t57,t58,t59,t60,t61,t62,t63,t64,t65,t66,t67,t68,t69,t70,t71,t72,t73,t74,t75,t76,t77,t78,t79,t80,t81,t82,t83,t84,t85,t86,t87,t88,u89,u90],[]⟩ W'):
  Code.wpIn Fence.wide m Tryz.prog (uA 17) Q ⟨#[u0,u1,u2,.slice o2 s2.length c2,.func (.yield l) #[] #[],u5,u6,u7,u8,u9,u10,u11,.int .i64 k,.pointer (some ⟨lb,0,none⟩),.pointer (some ⟨g,0,none⟩),u15,u16,u17,u18,u19,u20,u21,u22,u23,u24,u25,u26,u27,u28,u29,u30,u31,u32,u33,u34,u35,u36,u37,u38,u39,u40,u41,u42,u43,u44,u45,u46,u47,u48,u49,u50,u51,u52,u53,u54,u55,u56,u57,u58,u59,u60,u61,u62,u63,u64,u65,u66,u67,u68,u69,u70,u71,u72,u73,u74,u75,u76,u77,u78,u79,u80,u81,u82,u83,u84,u85,u86,u87,u88,u89,u90],[]⟩ W3:=by
 have HE:=Za (Zd @hret @hgo);have HY:=Za hY;have HJA:=Za (Zd hJ hJx);have HBL3:=Za hbl;have HBX3:=Za hbx;have HS3:=Za hS;have HSH:=Za hsh;have HJ3:=Za hJ3;have HK3:=Za hK3;have HG:=Za hG;clear hret hgo hY hJ hJx hbl hbx hS hsh hJ3 hK3 hG
 conv=>arg 4;whnf
 have HJG:=Za hJG;have HLY:=Za hLY;clear hJG hLY;have HWP:=Za (show cU fb s2 (.mk ⟨kd,k1,k2,k3,k4,k5,k6,k7⟩ body)=fT ⟨kd,k1,k2,k3,k4,k5,k6,k7⟩ fb s2 from by rw[cU,if_neg hk13]);have hnm3:nm.size≤100000:=by omega
 gi_wp2_with (refine⟨trivial,(by simp[Fence.wide]),?_⟩;gi_at_call 203;refine callsIn_wide.2 ?_;refine(HJG.o g w₀.heap.size ⟨kd,k1,k2,k3,k4,k5,k6,k7⟩ ob body.length cb o2 c2 fb nm s2 W3 ⟨HBX3.o,HS3.o,HSH.o,HG.o.2.2,hnm3⟩ HLY.o).mono ?_;rintro e W4 ⟨hps,vout,vps,qs,bad,hb4,hq4,rfl,hnone,hsome,oo,no,co,rfl⟩;refine aD ?_)
 obtain⟨ov,cv,rfl⟩:=aJ hq4.row;have c14:=hb4.q 14 rfl;have f14:=hb4.free 14;have HJ4:=Za (HJA.o.1.last HJ3.o hps.low hs3 HG.o.2.1 HBX3.o);have HPS:=Za hps;have HB4:=Za hb4;have HQ4:=Za hq4;have HSM:=Za (Zd hnone hsome);clear hps hb4 hq4 hnone hsome;refine aC ?_;have HB5:=Za (show aA (W4.setCell ⟨g,14,none⟩ (.int .i64 bad)) g 251 (cG ⟨kd,k1,k2,k3,k4,k5,k6,k7⟩ (.slice ob body.length cb) (.slice o2 s2.length c2) (.slice oo no co) (.slice ov qs.length cv) fb nm bad false)from HB4.o.set 14 _);have HJ5:=Za (HJA.o.1.set HJ4.o HG.o.2.1 HB4.o 14 (.int .i64 bad));have HK5:=Za ((HK3.o.past HPS.o.low HG.o.1 HG.o.2.2).set HG.o.1 HG.o.2.2 14 (.int .i64 bad));have HW5:=Za (bC.set HB4.o 14 (.int .i64 bad));have e0:=HB5.o.q 0 rfl;have e1:=HB5.o.q 1 rfl;have e2:=HB5.o.q 2 rfl;have e3:=HB5.o.q 3 rfl;have e4:=HB5.o.q 4 rfl;have e5:=HB5.o.q 5 rfl;have e6:=HB5.o.q 6 rfl;have e7:=HB5.o.q 7 rfl;have e8:=HB5.o.q 8 rfl;have e9:=HB5.o.q 9 rfl;have e10:=HB5.o.q 10 rfl;have e11:=HB5.o.q 11 rfl;have e12:=HB5.o.q 12 rfl;have e13:=HB5.o.q 13 rfl;have e14:=HB5.o.q 14 rfl;have e15:=HB5.o.q 15 rfl;cases hj:fT ⟨kd,k1,k2,k3,k4,k5,k6,k7⟩ fb s2 with
 |none=>
  have hb0:=HSM.o.1 hj;have hbb:(bad != 0)=true:=by simpa using hb0
  have HN:=Za (show cU fb s2 (.mk ⟨kd,k1,k2,k3,k4,k5,k6,k7⟩ body)=none by rw[HWP.o,hj]);have HBB:=Za hb0;obtain⟨fn,tmps,assign,bodyY,hy,hR⟩:=HY.o (m-1) pre ⟨k,(cG ⟨kd,k1,k2,k3,k4,k5,k6,k7⟩ (.slice ob body.length cb) (.slice o2 s2.length c2) (.slice oo no co) (.slice ov qs.length cv) fb nm bad false),bad,[],[]⟩ (W4.setCell ⟨g,14,none⟩ (.int .i64 bad)) hcnt HJ5.o ⟨_,_,_,_,_,_,_,_,_,_,_,_,_,_,_,_,rfl,fun h=>absurd h hb0⟩;simp only[mF,cG]at hy;have HR:=Za hR;clear hR hj hb0
  gi_wp2_with (refine⟨(by simp[Fence.wide]),HR.o.mono ?_⟩;rintro e W6 (⟨rfl,hJ6,hK6⟩|⟨rfl,hJ6⟩)<;>refine aD ?_)
  ·have c14':W6.cell? ⟨g,14,none⟩=some (.int .i64 bad):=(HB5.o.keepI hK6 (.inr (.inl rfl))).cell 14 rfl;have HJ6:=Za hJ6;clear e0 e1 e2 e3 e4 e5 e6 e7 e8 e9 e10 e11 e12 e13 e14 e15 hJ6 hK6 HR hy;refine aC ?_
   gi_wp2
   exact HE.o.1 (.inl ⟨HJ6.o,fun h=>HBB.o (h _ (List.mem_singleton.2 rfl))⟩)
  ·have HJ6:=Za hJ6;clear e0 e1 e2 e3 e4 e5 e6 e7 e8 e9 e10 e11 e12 e13 e14 e15 hJ6 HR hy;refine aC ?_
   gi_wp2
   exact HE.o.1 (.inr ⟨HJ6.o,fun _=>HN.o⟩)
 |some p=>
  obtain⟨hb0,hrd,hps2⟩:=HSM.o.2 p hj;subst hb0;have hno:=sC hrd;subst hno;have hgood:=JH hj;have hlens:=vI (dX HSH.o).1 (R3 hj);have hql:qs.length≤4:=by have:=congrArg List.length hps2;simp at this;omega
  have hrd5:=hrd.keep HW5.o HG.o.2.2;have hq5:aV (W4.setCell ⟨g,14,none⟩ (.int .i64 0)) w₀.heap.size w₀.heap.size (.slice ov qs.length cv) qs:=(HQ4.o.setStep HB4.o HG.o.2.2 14 (.int .i64 0)).resolve_right (fun h=>h HG.o.2.2);have HN:=Za (show cU fb s2 (.mk ⟨kd,k1,k2,k3,k4,k5,k6,k7⟩ body)=some p by rw[HWP.o,hj]);have HP5:=Za (Zd hrd5 hgood);obtain⟨x,hx⟩:∃x:bR,x=⟨k,(cG ⟨kd,k1,k2,k3,k4,k5,k6,k7⟩ (.slice ob body.length cb) (.slice o2 s2.length c2) (.slice oo p.1.length co) (.slice ov qs.length cv) fb nm 0 false),0,p.1,p.2⟩:=⟨_,rfl⟩;obtain⟨fn,tmps,assign,bodyY,hy,hR⟩:=HY.o (m-1) pre x (W4.setCell ⟨g,14,none⟩ (.int .i64 0)) hcnt HJ5.o (by rw[hx];exact⟨_,_,_,_,_,_,_,_,_,_,_,_,_,_,_,_,rfl,fun _=>⟨qs,hrd5,hq5,hps2,hql,hlens.1⟩⟩);have hyx:mF x=#[.int .i64 k,.agg (cG ⟨kd,k1,k2,k3,k4,k5,k6,k7⟩ (.slice ob body.length cb) (.slice o2 s2.length c2) (.slice oo p.1.length co) (.slice ov qs.length cv) fb nm 0 false)]:=by rw[hx];rfl
  rw[hyx]at hy;simp only[cG]at hy;have HXX:=Za (show x.bad=0∧x.o=p.1∧x.ps=p.2 by rw[hx];exact⟨rfl,rfl,rfl⟩);have HR:=Za hR;clear hR hj hrd hrd5 hq5 hps2 hql hlens hgood hx hyx
  gi_wp2_with (refine⟨(by simp[Fence.wide]),HR.o.mono ?_⟩;rintro e W6 (⟨rfl,hJ6,hK6⟩|⟨rfl,hJ6⟩)<;>refine aD ?_)
  ·have c14':W6.cell? ⟨g,14,none⟩=some (.int .i64 0):=(HB5.o.keepI hK6 (.inr (.inl rfl))).cell 14 rfl;have c10':W6.cell? ⟨g,10,none⟩=some (.slice oo p.1.length co):=(HB5.o.keepI hK6 (.inr (.inl rfl))).cell 10 rfl;have HJ6:=Za hJ6;have HK6:=Za (HK5.o.trans hK6);have HS6:=Za (HP5.o.1.keepI hK6);clear e0 e1 e2 e3 e4 e5 e6 e7 e8 e9 e10 e11 e12 e13 e14 e15 hJ6 hK6 HR hy;refine aC ?_
   gi_wp2
   exact HE.o.2 ⟨p,by simp[aB.count];omega,HN.o,HS6.o,HP5.o.2.1,HJ6.o,l9 HXX.o.1,by simp[jM,HXX.o.2.2],by simp[hO,HXX.o.2.1],HK6.o⟩
  ·have HJ6:=Za hJ6;clear e0 e1 e2 e3 e4 e5 e6 e7 e8 e9 e10 e11 e12 e13 e14 e15 hJ6 HR hy;refine aC ?_
   gi_wp2
   exact HE.o.1 (.inr ⟨HJ6.o,fun h=>absurd (l9 HXX.o.1) h⟩)
end Go.Proofs.YtjhkdocidcfpdaaGreatDoor
