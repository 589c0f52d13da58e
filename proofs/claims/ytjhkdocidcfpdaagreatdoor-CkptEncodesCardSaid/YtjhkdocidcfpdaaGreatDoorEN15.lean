/- A part of the proof. -/
import Derived.Shelf.RegionOpen
import Derived.OwnWalkIn
import Derived.LoopNIn
import Derived.LoopIn
import Derived.Test.YtjhkdocidcfpdaaGreatDoorEN14
set_option linter.unusedVariables false
set_option linter.unusedSimpArgs false
set_option maxRecDepth 100000
set_option maxHeartbeats 16000000
namespace Go.Proofs.YtjhkdocidcfpdaaGreatDoor
open Go.RowKit Go.Shelf Go
def mP (n:Nat):Code->Option Code
 |.seq (.region id ops d) b=>if id=n then some (.seq (.region id ops d) b) else mP n b
 |.seq a b=>match mP n a with
  |some c=>some c
  |none=>mP n b
 |.loop c=>mP n c
 |.block _ c=>mP n c
 |.scope c=>mP n c
 |.cond _ a b=>match mP n a with
  |some c=>some c
  |none=>mP n b
 |_=>none
noncomputable def yP (n:Nat):Code:=(Tryz.f195.body.bind (mP n)).getD .skip
def xB (J Jx:List bW->World->Prop) (pre xs:List bW) (none_:Prop) (W:World):Prop:=(J (pre++xs) W/\¬gU xs)\/(Jx (pre++xs) W/\(¬gU xs->none_))
def D7 (n₀:Nat) (J:List bW->World->Prop) (c:Nat) (W:World) (pre xs:List bW) (s:List Int) (res:Option (List Int×List (List Int))) (v:Value) (W':World):Prop:=
 ∃p,xs.length<=2*c/\res=some p/\aM n₀ W' v p.1/\bA p.1=true/\J (pre++xs) W'/\gU xs/\jV xs=p.2/\iA s xs=p.1/\dG n₀ W W'
theorem aY.setStep {w:World} {n₀ B g:Nat} {v:Value} {qs:List PD} {cs:Array Value} (h:aY w n₀ B v qs) (hb:aA w g 251 cs) (hn:n₀<=g) (j:Nat) (u:Value):aY (w.setCell ⟨g,j,none⟩ u) n₀ n₀ v qs\/¬n₀<=B:=by
 by_cases hB:n₀<=B
 ·refine .inl ⟨?_,fun q hq=>(h.sh q hq).keep (bE.set hb j u) hn,h.one⟩;have hr:=bY h.row hB;refine⟨hr.1,?_⟩;rcases hr.2 with hn'|⟨b,cap,cur,rfl,C,A,r⟩
  ·exact .inl hn'
  ·refine .inr ⟨b,cap,cur,rfl,C,?_,r⟩;rw[Below.heap_setCell _ _ _ _ (fun e=>?_)]
   ·exact A
   ·simp at e;subst e;unfold aA at hb;rw[hb]at A;simp at A
 ·exact .inr hB
theorem GF {n:aE} {first:Bool} {s:List Int} {p:List Int×List (List Int)} (h:gK n first s=some p):aK n first s=some p:=by
 rw[gK]at h;split at h
 ·cases h
 ·rename_i q hq;split at h
  ·cases h;exact hq
  ·cases h
theorem mG {x:bW} (h:x.bad=0):gU [x]:=fun y hy=>by rw[List.mem_singleton.1 hy];exact h
theorem sQ {n₀:Nat} {w:World} {o:Option Addr} {n c:Nat} {xs:List Int} (h:aM n₀ w (.slice o n c) xs):n=xs.length:=by obtain⟨o',c',e⟩:=h.slice;simp at e;exact e.2.1
theorem tI {α:Type} (a b:List α) (x:α):a++b++[x]=a++(b++[x]):=List.append_assoc a b [x]
attribute [local go_sem] Oper.semAt_some
theorem O0 (l m g lb k:Nat) (kd k1 k2 k3 k4 k5 k6 k7:Int) (v8:Value) (o2:Option Addr) (c2:Nat) (s2:List Int) (W3:World) (u0 u1 u2 u5 u6 u7 u8 u9 u10 u11 u15 u16 u17 u18 u19 u20 u21 u22 u23 u24 u25 u26 u27 u28 u29 u30 u31 u32 u33 u34 u35 u36 u37 u38 u39 u40 u41 u42 u43 u44 u45 u46 u47 u48 u49 u50 u51 u52 u53 u54 u55 u56 u57 u58 u59 u60 u61 u62 u63 u64 u65 u66 u67 u68 u69 u70 u71 u72 u73 u74 u75 u76 u77 u78 u79 u80 u81 u82 u83 u84 u85 u86 u87 u88 u89 u90:Value)
  (A:aA W3 lb 175 #[.int .i64 kd,.int .i64 k1,.int .i64 k2,.int .i64 k3,.int .i64 k4,.int .i64 k5,.int .i64 k6,.int .i64 k7,v8]) (C:¬kd=13)
  (Q:Exit->Act->World->Prop) (B:∀(t36 t37 t38:Value),Q .normal ⟨#[u0,u1,u2,.slice o2 s2.length c2,.func (.yield l) #[] #[],u5,u6,u7,u8,u9,u10,u11,.int .i64 k,.pointer (some ⟨lb,0,none⟩),.pointer (some ⟨g,0,none⟩),u15,u16,u17,u18,u19,u20,u21,u22,u23,u24,u25,u26,u27,u28,u29,u30,u31,u32,u33,u34,u35,t36,t37,t38,u39,u40,u41,u42,u43,u44,u45,u46,u47,u48,u49,u50,u51,u52,u53,u54,u55,u56,u57,u58,u59,u60,u61,u62,u63,u64,u65,u66,u67,u68,u69,u70,u71,u72,u73,u74,u75,u76,u77,u78,u79,u80,u81,u82,u83,u84,u85,u86,u87,u88,u89,u90],[]⟩ W3):Code.wpIn Fence.wide m Tryz.prog (yP 5) Q ⟨#[u0,u1,u2,.slice o2 s2.length c2,.func (.yield l) #[] #[],u5,u6,u7,u8,u9,u10,u11,.int .i64 k,.pointer (some ⟨lb,0,none⟩),.pointer (some ⟨g,0,none⟩),u15,u16,u17,u18,u19,u20,u21,u22,u23,u24,u25,u26,u27,u28,u29,u30,u31,u32,u33,u34,u35,u36,u37,u38,u39,u40,u41,u42,u43,u44,u45,u46,u47,u48,u49,u50,u51,u52,u53,u54,u55,u56,u57,u58,u59,u60,u61,u62,u63,u64,u65,u66,u67,u68,u69,u70,u71,u72,u73,u74,u75,u76,u77,u78,u79,u80,u81,u82,u83,u84,u85,u86,u87,u88,u89,u90],[]⟩ W3:=by
 have D:=Za B;have b0:=A.q 0 rfl;clear B A
 conv=>arg 4;whnf
 gi_wp2
 exact D.o _ _ _
theorem Q8 (ac:yI) (w₀:World) (l B0:Nat) (J Jx:List bW->World->Prop) (hJ:gH iB B0 J) (ad:gH iB B0 Jx) (hY:uJ Tryz.prog w₀.heap.size l J Jx)
  (m g lb k:Nat) (kd k1 k2 k3 k4 k5 k6 k7:Int) (body:List aB) (ob:Option Addr) (cb:Nat) (o2:Option Addr) (c2:Nat) (s2:List Int) (fb:Bool) (nm:ByteArray) (pre:List bW) (W W3:World) (u0 u1 u2 u5 u6 u7 u8 u9 u10 u11 u15 u16 u17 u18 u19 u20 u21 u22 u23 u24 u25 u26 u27 u28 u29 u30 u31 u32 u33 u34 u35 u36 u37 u38 u39 u40 u41 u42 u43 u44 u45 u46 u47 u48 u49 u50 u51 u52 u53 u54 u55 u56 u57 u58 u59 u60 u61 u62 u63 u64 u65 u66 u67 u68 u69 u70 u71 u72 u73 u74 u75 u76 u77 u78 u79 u80 u81 u82 u83 u84 u85 u86 u87 u88 u89 u90:Value)
  (ae:aA W3 lb 175 #[.int .i64 kd,.int .i64 k1,.int .i64 k2,.int .i64 k3,.int .i64 k4,.int .i64 k5,.int .i64 k6,.int .i64 k7,.slice ob body.length cb]) (af:aA W3 g 251 (cJ ⟨kd,k1,k2,k3,k4,k5,k6,k7⟩ (.slice ob body.length cb) (.slice o2 s2.length c2) (.slice none 0 0) (.slice none 0 0) fb nm 0 false)) (ba:W3.heap.size=g+1)
  (hS:aM w₀.heap.size W3 (.slice o2 s2.length c2) s2) (ag:bA s2=true) (ah:J pre W3) (ai:dG w₀.heap.size W W3) (hG:W.heap.size<=g/\B0<=g/\w₀.heap.size<=g) (bp:nm.size<=1100) (br:k<64)
  (T:pre.length<200) (aj:¬kd=13) (ak:uK ⟨kd,k1,k2,k3,k4,k5,k6,k7⟩)
  (Q:Exit->Act->World->Prop) (U:∀{t3 t15 t16 t36 t37 t38 t39 t40 t41 t42 t43 t44 t45 t46 t47 t48 t49 t50 t51 t52 t53 t54 t55 t56 t57 t58 t59 t60 t61 t62 t63 t64 t65 t66 t67 t68 t69 t70 t71 t72 t73 t74 t75 t76 t77 t78 t79 t80 t81 t82 t83 t84 t85 t86 t87 t88:Value} {W':World} {xs':List bW},xB J Jx pre xs' (dD fb s2 (.mk ⟨kd,k1,k2,k3,k4,k5,k6,k7⟩ body)=none) W'->Q .ret ⟨#[u0,u1,u2,t3,.func (.yield l) #[] #[],u5,u6,u7,u8,u9,.slice none 0 0,.bool false,.int .i64 k,.pointer (some ⟨lb,0,none⟩),.pointer (some ⟨g,0,none⟩),t15,t16,u17,u18,u19,u20,u21,u22,u23,u24,u25,u26,u27,u28,u29,u30,u31,u32,u33,u34,u35,t36,t37,t38,t39,t40,t41,t42,t43,t44,t45,t46,t47,t48,t49,t50,t51,t52,t53,t54,t55,t56,t57,t58,t59,t60,t61,t62,t63,t64,t65,t66,t67,t68,t69,t70,t71,t72,t73,t74,t75,t76,t77,t78,t79,t80,t81,t82,t83,t84,t85,t86,t87,t88,u89,u90],[]⟩ W')
  (al:∀{t10 t11 t15 t16 t36 t37 t38 t39 t40 t41 t42 t43 t44 t45 t46 t47 t48 t49 t50 t51 t52 t53 t54 t55 t56 t57 t58 t59 t60 t61 t62 t63 t64 t65 t66 t67 t68 t69 t70 t71 t72 t73 t74 t75 t76 t77 t78 t79 t80 t81 t82 t83 t84 t85 t86 t87 t88:Value} {W':World} {xs':List bW} {oo:Option Addr} {no co:Nat},D7 w₀.heap.size J (aB.mk ⟨kd,k1,k2,k3,k4,k5,k6,k7⟩ body).count W pre xs' s2 (dD fb s2 (.mk ⟨kd,k1,k2,k3,k4,k5,k6,k7⟩ body)) (.slice oo no co) W'->Q .normal ⟨#[u0,u1,u2,.slice oo no co,.func (.yield l) #[] #[],u5,u6,u7,u8,u9,t10,t11,.int .i64 k,.pointer (some ⟨lb,0,none⟩),.pointer (some ⟨g,0,none⟩),t15,t16,u17,u18,u19,u20,u21,u22,u23,u24,u25,u26,u27,u28,u29,u30,u31,u32,u33,u34,u35,t36,t37,t38,t39,t40,t41,t42,t43,t44,t45,t46,t47,t48,t49,t50,t51,t52,t53,t54,t55,t56,t57,t58,t59,t60,t61,t62,t63,t64,t65,t66,t67,t68,t69,t70,t71,t72,t73,t74,t75,t76,t77,t78,t79,t80,t81,t82,t83,t84,t85,t86,t87,t88,u89,u90],[]⟩ W'):
  Code.wpIn Fence.wide m Tryz.prog (yP 17) Q ⟨#[u0,u1,u2,.slice o2 s2.length c2,.func (.yield l) #[] #[],u5,u6,u7,u8,u9,u10,u11,.int .i64 k,.pointer (some ⟨lb,0,none⟩),.pointer (some ⟨g,0,none⟩),u15,u16,u17,u18,u19,u20,u21,u22,u23,u24,u25,u26,u27,u28,u29,u30,u31,u32,u33,u34,u35,u36,u37,u38,u39,u40,u41,u42,u43,u44,u45,u46,u47,u48,u49,u50,u51,u52,u53,u54,u55,u56,u57,u58,u59,u60,u61,u62,u63,u64,u65,u66,u67,u68,u69,u70,u71,u72,u73,u74,u75,u76,u77,u78,u79,u80,u81,u82,u83,u84,u85,u86,u87,u88,u89,u90],[]⟩ W3:=by
 have HE:=Za (Zd @U @al);have HY:=Za hY;have ao:=Za (Zd hJ ad);have bq:=Za ae;have V:=Za af;have bb:=Za hS;have ap:=Za ag;have bc:=Za ah;have bd:=Za ai;have M:=Za hG;clear U al hY hJ ad ae af hS ag ah ai hG
 conv=>arg 4;whnf
 have be:=Za ac;have bf:=Za ak;clear ac ak;have aq:=Za (show dD fb s2 (.mk ⟨kd,k1,k2,k3,k4,k5,k6,k7⟩ body)=gK ⟨kd,k1,k2,k3,k4,k5,k6,k7⟩ fb s2 from by rw[dD,if_neg aj]);have ar:nm.size<=100000:=by omega
 gi_wp2_with (refine⟨trivial,(by simp[Fence.wide]),?_⟩;gi_at_call 203;refine callsIn_wide.2 ?_;refine(be.o g w₀.heap.size ⟨kd,k1,k2,k3,k4,k5,k6,k7⟩ ob body.length cb o2 c2 fb nm s2 W3 ⟨V.o,bb.o,ap.o,M.o.2.2,ar⟩ bf.o).mono ?_;rintro e W4 ⟨Z,vout,vps,qs,bad,N,aa,rfl,E,F,oo,no,co,rfl⟩;refine aD ?_)
 obtain⟨ov,cv,rfl⟩:=aJ aa.row;have c14:=N.q 14 rfl;have f14:=N.free 14;have bg:=Za (ao.o.1.last bc.o Z.low ba M.o.2.1 V.o);have bh:=Za Z;have O:=Za N;have bi:=Za aa;have au:=Za (Zd E F);clear Z N aa E F;refine aC ?_;have P:=Za (show aA (W4.setCell ⟨g,14,none⟩ (.int .i64 bad)) g 251 (cJ ⟨kd,k1,k2,k3,k4,k5,k6,k7⟩ (.slice ob body.length cb) (.slice o2 s2.length c2) (.slice oo no co) (.slice ov qs.length cv) fb nm bad false)from O.o.set 14 _);have av:=Za (ao.o.1.set bg.o M.o.2.1 O.o 14 (.int .i64 bad));have bj:=Za ((bd.o.past bh.o.low M.o.1 M.o.2.2).set M.o.1 M.o.2.2 14 (.int .i64 bad));have bk:=Za (bE.set O.o 14 (.int .i64 bad));obtain⟨e0,e1,e2,e3,e4,e5,e6,e7,e8,e9,e10,e11,e12,e13,e14,e15⟩:=P.o.r16;cases X:gK ⟨kd,k1,k2,k3,k4,k5,k6,k7⟩ fb s2 with
 |none=>
  have D:=au.o.1 X;have bs:(bad != 0)=true:=by simpa using D
  have HN:=Za (show dD fb s2 (.mk ⟨kd,k1,k2,k3,k4,k5,k6,k7⟩ body)=none by rw[aq.o,X]);have bl:=Za D;obtain⟨fn,tmps,assign,bodyY,Y,hR⟩:=HY.o (m-1) pre ⟨k,(cJ ⟨kd,k1,k2,k3,k4,k5,k6,k7⟩ (.slice ob body.length cb) (.slice o2 s2.length c2) (.slice oo no co) (.slice ov qs.length cv) fb nm bad false),bad,[],[]⟩ (W4.setCell ⟨g,14,none⟩ (.int .i64 bad)) T av.o ⟨_,_,_,_,_,_,_,_,_,_,_,_,_,_,_,_,rfl,fun h=>absurd h D⟩;simp only[nW,cJ]at Y;have HR:=Za hR;clear hR X D
  gi_wp2_with (refine⟨(by simp[Fence.wide]),HR.o.mono ?_⟩;rintro e W6 (⟨rfl,A,B⟩|⟨rfl,A⟩)<;>refine aD ?_)
  ·have c14':W6.cell? ⟨g,14,none⟩=some (.int .i64 bad):=(P.o.keepI B (.inr (.inl rfl))).cell 14 rfl;have C:=Za A;clear e0 e1 e2 e3 e4 e5 e6 e7 e8 e9 e10 e11 e12 e13 e14 e15 A B HR Y;refine aC ?_
   gi_wp2
   exact HE.o.1 (.inl ⟨C.o,fun h=>bl.o (h _ (List.mem_singleton.2 rfl))⟩)
  ·have C:=Za A;clear e0 e1 e2 e3 e4 e5 e6 e7 e8 e9 e10 e11 e12 e13 e14 e15 A HR Y;refine aC ?_
   gi_wp2
   exact HE.o.1 (.inr ⟨C.o,fun _=>HN.o⟩)
 |some p=>
  obtain⟨D,ab,G⟩:=au.o.2 p X;subst D;have bm:=sQ ab;subst bm;have H:=K0 X;have I:=xC (eC ap.o).1 (GF X);have aw:qs.length<=4:=by have:=congrArg List.length G;simp at this;omega
  have L:=ab.keep bk.o M.o.2.2;have ax:aY (W4.setCell ⟨g,14,none⟩ (.int .i64 0)) w₀.heap.size w₀.heap.size (.slice ov qs.length cv) qs:=(bi.o.setStep O.o M.o.2.2 14 (.int .i64 0)).resolve_right (fun h=>h M.o.2.2);have HN:=Za (show dD fb s2 (.mk ⟨kd,k1,k2,k3,k4,k5,k6,k7⟩ body)=some p by rw[aq.o,X]);have ay:=Za (Zd L H);obtain⟨x,hx⟩:∃x:bW,x=⟨k,(cJ ⟨kd,k1,k2,k3,k4,k5,k6,k7⟩ (.slice ob body.length cb) (.slice o2 s2.length c2) (.slice oo p.1.length co) (.slice ov qs.length cv) fb nm 0 false),0,p.1,p.2⟩:=⟨_,rfl⟩;obtain⟨fn,tmps,assign,bodyY,Y,hR⟩:=HY.o (m-1) pre x (W4.setCell ⟨g,14,none⟩ (.int .i64 0)) T av.o (by rw[hx];exact⟨_,_,_,_,_,_,_,_,_,_,_,_,_,_,_,_,rfl,fun _=>⟨qs,L,ax,G,aw,I.1⟩⟩);have az:nW x=#[.int .i64 k,.agg (cJ ⟨kd,k1,k2,k3,k4,k5,k6,k7⟩ (.slice ob body.length cb) (.slice o2 s2.length c2) (.slice oo p.1.length co) (.slice ov qs.length cv) fb nm 0 false)]:=by rw[hx];rfl
  rw[az]at Y;simp only[cJ]at Y;have R:=Za (show x.bad=0/\x.o=p.1/\x.ps=p.2 by rw[hx];exact⟨rfl,rfl,rfl⟩);have HR:=Za hR;clear hR X ab L ax G aw I H hx az
  gi_wp2_with (refine⟨(by simp[Fence.wide]),HR.o.mono ?_⟩;rintro e W6 (⟨rfl,A,B⟩|⟨rfl,A⟩)<;>refine aD ?_)
  ·have c14':W6.cell? ⟨g,14,none⟩=some (.int .i64 0):=(P.o.keepI B (.inr (.inl rfl))).cell 14 rfl;have c10':W6.cell? ⟨g,10,none⟩=some (.slice oo p.1.length co):=(P.o.keepI B (.inr (.inl rfl))).cell 10 rfl;have C:=Za A;have bn:=Za (bj.o.trans B);have bo:=Za (ay.o.1.keepI B);clear e0 e1 e2 e3 e4 e5 e6 e7 e8 e9 e10 e11 e12 e13 e14 e15 A B HR Y;refine aC ?_
   gi_wp2
   exact HE.o.2 ⟨p,by simp[aB.count];omega,HN.o,bo.o,ay.o.2.1,C.o,mG R.o.1,by simp[jV,R.o.2.2],by simp[iA,R.o.2.1],bn.o⟩
  ·have C:=Za A;clear e0 e1 e2 e3 e4 e5 e6 e7 e8 e9 e10 e11 e12 e13 e14 e15 A HR Y;refine aC ?_
   gi_wp2
   exact HE.o.1 (.inr ⟨C.o,fun h=>absurd (mG R.o.1) h⟩)
