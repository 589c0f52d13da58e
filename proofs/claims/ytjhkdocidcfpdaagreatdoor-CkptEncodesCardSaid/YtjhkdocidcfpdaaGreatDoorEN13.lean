/- A part of the proof. -/
import Derived.Test.YtjhkdocidcfpdaaGreatDoorEN12
import Derived.Test.YtjhkdocidcfpdaaGreatDoorEN11
set_option linter.unusedVariables false
set_option linter.unusedSimpArgs false
set_option maxRecDepth 100000
set_option maxHeartbeats 16000000
open List renaming length_append → Zl
namespace Go.Proofs.YtjhkdocidcfpdaaGreatDoor
open Go.RowKit Go.Shelf Go
theorem wV (n:aE) (first:Bool) (s:List Int) (hk:n.kind=2):aK n first s=(bZ n s).bind fun p=>if aF s 0=n.inn then some (n.o::p,[[n.o,n.inn]++List.replicate (s.length-1) n.size,[n.o]++List.replicate (s.length-1) 1]) else none:=by rw[aK,hk];cases bZ n s<;>rfl
theorem FM {n:aE} {s p:List Int} (h:some p=bZ n s):2<=s.length/\s.length<=3/\p.length=s.length-1:=by
 rw[bZ]at h;split at h
 ·have:=mT h.symm;rw[List.length_tail]at this;omega
 ·cases h
theorem G8 (g n₀:Nat) (n:aE) (ob:Option Addr) (nb cb:Nat) (o:Option Addr) (cap:Nat) (first:Bool) (nm:ByteArray) (s:List Int) (w:World) (h:fL g n₀ n (.slice ob nb cb) o cap first nm s w)
  (hk:n.kind=2) (hw:jN n) (C:none=bZ n s):
  Calls Tryz.prog 207 #[.pointer (some ⟨g,0,none⟩)] w (fF g n₀ n (.slice ob nb cb) (.slice o s.length cap) first nm w (aK n first s)):=by have L:=Za h;obtain⟨P,J,R⟩:=eC h.sh;have M:Hid (aK n first s=none):=Za (by rw[wV n first s hk,<-C];rfl);have T:=Za hw;have E:=Za C;clear hw C;obtain⟨k,k1,k2,k3,k4,k5,k6,k7⟩:=n;have hk:k=2:=hk;subst hk;obtain⟨c0,c1,c2,c3,c4,c5,c6,c7,c8,c9⟩:=h.box.r10;have F:=h.box.lt;clear h;go_enter Tryz.func207,Tryz.ntmps207;go_wp2_with fail;go_region;have D:Below w.heap.size w (w.alloc (.cells #[.int .i64 2,.int .i64 k1,.int .i64 k2,.int .i64 k3,.int .i64 k4,.int .i64 k5,.int .i64 k6,.int .i64 k7,.slice ob nb cb] 175)).drew:=((Zc _ _).alloc (Zb _) _).drew;have A:aA (w.alloc (.cells #[.int .i64 2,.int .i64 k1,.int .i64 k2,.int .i64 k3,.int .i64 k4,.int .i64 k5,.int .i64 k6,.int .i64 k7,.slice ob nb cb] 175)).drew w.heap.size 175 #[.int .i64 2,.int .i64 k1,.int .i64 k2,.int .i64 k3,.int .i64 k4,.int .i64 k5,.int .i64 k6,.int .i64 k7,.slice ob nb cb]:=aA.new w _ _;clear c0 c1 c2 c3 c4 c5 c6 c7 c8 c9;generalize (w.alloc (.cells #[.int .i64 2,.int .i64 k1,.int .i64 k2,.int .i64 k3,.int .i64 k4,.int .i64 k5,.int .i64 k6,.int .i64 k7,.slice ob nb cb] 175)).drew=W1 at D A ⊢;obtain⟨lb,G⟩:=Zx w.heap.size;rw[<-G]at A ⊢;have U:=Za A;have B:=Za (L.o.box.next D);have V:=Za (L.o.rd.below D);have X:=Za (bE.below D (Nat.le_of_lt F));have H:=Za (show g<lb/\lb<W1.heap.size from⟨by omega,A.lt⟩);obtain⟨c0,c1,c2,c3,c4,c5,c6,c7⟩:=A.r8;have d9:=B.o.q 9 rfl;have d10:=B.o.q 10 rfl;have d12:=B.o.q 12 rfl;have f10:=B.o.free 10;clear D A G F;have N:=Za (rG g n₀ ⟨2,k1,k2,k3,k4,k5,k6,k7⟩ (.slice ob nb cb) (.slice none 0 0) (.slice none 0 0) first nm 0 false o cap s W1 B.o V.o J (by omega) T.o);rw[<-E.o]at N;go_wp2_with(go_at_call 211;refine N.o.mono ?_;rintro e w2 ⟨I,v,rfl,_⟩;refine aD ?_);have O:=Za I;clear I;refine aC ?_;go_wp2_with fail;go_region;go_wp2_with fail;go_ret;exact⟨X.o.trans (bE.below (O.o.drew) (Nat.le_of_lt (Nat.lt_trans H.o.1 H.o.2))),_,_,[],B.o.next O.o.drew,aY.nil _ _ _,by rw[M.o];rfl,fun p hp=>(by rw[M.o]at hp;cases hp),fun _=>⟨_,_,_,rfl⟩⟩
theorem RM (g n₀:Nat) (n:aE) (ob:Option Addr) (nb cb:Nat) (o:Option Addr) (cap:Nat) (first:Bool) (nm:ByteArray) (s:List Int) (w:World) (h:fL g n₀ n (.slice ob nb cb) o cap first nm s w)
  (hk:n.kind=2) (hw:jN n) (p:List Int) (B:some p=bZ n s) (G:aF s 0≠n.inn):
  Calls Tryz.prog 207 #[.pointer (some ⟨g,0,none⟩)] w (fF g n₀ n (.slice ob nb cb) (.slice o s.length cap) first nm w (aK n first s)):=by
 have O:=Za h;obtain⟨Y,P,Z⟩:=eC h.sh;have T:Hid (aK n first s=none):=Za (by rw[wV n first s hk,<-B,Option.bind_some,if_neg G]);have hne':(aF s 0 != n.inn)=true:=by rw[bne_iff_ne];exact G
 clear G;have HW:=Za hw;have I:=Za B;obtain⟨aa,ab,ac⟩:=FM B;obtain⟨i0,hi,ad,ae,af⟩:=info_parts jX;clear hw B;obtain⟨k,k1,k2,k3,k4,k5,k6,k7⟩:=n;have hk:k=2:=hk;subst hk;obtain⟨c0,c1,c2,c3,c4,c5,c6,c7,c8,c9⟩:=h.box.r10;have J:=h.box.lt;clear h;go_enter Tryz.func207,Tryz.ntmps207;go_wp2_with fail;go_region;have D:Below w.heap.size w (w.alloc (.cells #[.int .i64 2,.int .i64 k1,.int .i64 k2,.int .i64 k3,.int .i64 k4,.int .i64 k5,.int .i64 k6,.int .i64 k7,.slice ob nb cb] 175)).drew:=((Zc _ _).alloc (Zb _) _).drew;have C:aA (w.alloc (.cells #[.int .i64 2,.int .i64 k1,.int .i64 k2,.int .i64 k3,.int .i64 k4,.int .i64 k5,.int .i64 k6,.int .i64 k7,.slice ob nb cb] 175)).drew w.heap.size 175 #[.int .i64 2,.int .i64 k1,.int .i64 k2,.int .i64 k3,.int .i64 k4,.int .i64 k5,.int .i64 k6,.int .i64 k7,.slice ob nb cb]:=aA.new w _ _;clear c0 c1 c2 c3 c4 c5 c6 c7 c8 c9;generalize (w.alloc (.cells #[.int .i64 2,.int .i64 k1,.int .i64 k2,.int .i64 k3,.int .i64 k4,.int .i64 k5,.int .i64 k6,.int .i64 k7,.slice ob nb cb] 175)).drew=W1 at D C ⊢;obtain⟨lb,L⟩:=Zx w.heap.size;rw[<-L]at C ⊢;have M:=Za C;have A:=Za (O.o.box.next D);have N:=Za (O.o.rd.below D);have U:=Za (bE.below D (Nat.le_of_lt J));have ag:=Za (show g<lb/\lb<W1.heap.size from⟨by omega,C.lt⟩);obtain⟨c0,c1,c2,c3,c4,c5,c6,c7⟩:=C.r8;have d9:=A.o.q 9 rfl;have d10:=A.o.q 10 rfl;have d12:=A.o.q 12 rfl;have f10:=A.o.free 10;clear D C L J;have R:=Za (rG g n₀ ⟨2,k1,k2,k3,k4,k5,k6,k7⟩ (.slice ob nb cb) (.slice none 0 0) (.slice none 0 0) first nm 0 false o cap s W1 A.o N.o P (by omega) HW.o);rw[<-I.o]at R;obtain⟨b,off,rfl,e0⟩:=N.o.1.cell 0 (by omega);rw[Nat.add_zero]at e0;have V:=Za (show dP g n₀ lb ⟨2,k1,k2,k3,k4,k5,k6,k7⟩ (.slice ob nb cb) (.slice (some ⟨b,off,none⟩) s.length cap) (.slice none 0 0) (.slice none 0 0) first nm [] [] w W1 from⟨U.o,A.o,M.o,aY.nil _ _ _,aM.nil _ _⟩);have X:(0:Int)<s.length:=by omega
 have ah:=O.o.n0;go_wp2_with(go_at_call 211;refine R.o.mono ?_;rintro e w2 ⟨F,v,rfl,ho⟩;refine aD ?_);have H:=ho p rfl;obtain⟨op,kp,rfl⟩:=aJ H;have E:=Za (V.o.alloc F);have ai:=Za (Rd.of_own H);have aj:=Za (N.o.below F);have d9':=E.o.box.q 9 rfl;have e0':w2.cell? ⟨b,off,none⟩=some (.int .i64 (aF s 0)):=(F.cell (p:=⟨b,off,none⟩) (aP e0)).trans e0;have c1':=E.o.lay.q 1 rfl;have c2':=E.o.lay.q 2 rfl;clear ho H F V R c0 c1 c2 c3 c4 c5 c6 c7 d9 d10 d12 f10 e0 A M U N;refine aC ?_;go_wp2_with fail;go_region;go_wp2_with fail;go_ret;exact⟨(E.o.alloc (Zc _ w2).drew).p,_,_,[],(E.o.alloc (Zc _ w2).drew).box,aY.nil _ _ _,by rw[T.o];rfl,fun p hp=>(by rw[T.o]at hp;cases hp),fun _=>⟨_,_,_,rfl⟩⟩
def lT (n:Nat):Code->Option Code
 |.region id ops d=>if id=n then some (.region id ops d) else none
 |.seq a b=>match lT n a with
  |some c=>some c
  |none=>lT n b
 |.loop c=>lT n c
 |.block _ c=>lT n c
 |.scope c=>lT n c
 |.cond _ a b=>match lT n a with
  |some c=>some c
  |none=>lT n b
 |_=>none
def pK (K:Act->World->Prop):Exit->Act->World->Prop
 |.normal,a,w=>K a w
 |_,_,_=>False
noncomputable def doesR (n:Nat):Code:=(Tryz.f207.body.bind (lT n)).getD .skip
theorem NM (g lb b off cap:Nat) (k1 k2 k3 k4 k5 k6 k7:Int) (ob:Option Addr) (nb cb:Nat) (s:List Int) (w5:World) (u1 u2 u4 u5 u6 u7 u8 u9 u10 u11 u12 u13 u14 u15 u16 u17 u18 u19 u20 u21 u22 u23 u24 u25 u26 u27 u28 u29 u30 u31 u32 u33 u34 u35 u36 u37 u38 u39 u40 u41 u42 u43 u44 u45 u46 u47 u48 u49 u50 u51 u52 u53 u54 u55 u56 u57 u58 u59 u60 u61 u62 u63 u64 u65 u66 u67 u68 u69 u70 u71 u72 u73 u74 u75 u76 u77 u78 u79 u80 u81 u82 u83 u84 u85 u86 u87 u88 u89 u90 u91 u92 u93 u94 u95 u96 u97 u98 u99 u100 u101 u102 u103 u104 u105 u106 u107 u108 u109 u110 u111 u112 u113 u114 u115 u116 u117 u118 u119 u120 u121 u122 u123 u124 u125 u126 u127 u128 u129 u130 u131 u132 u133 u134 u135 u136 u137 u138 u139 u140 u141 u142 u143 u144 u145 u146 u147 u148 u149 u150 u151 u152 u153 u154 u155 u156 u157 u158 u159 u160 u161 u162 u163 u164 u165 u166 u167 u168 u169 u170 u171 u172 u173 u174 u175 u176 u177 u178 u179 u180 u181 u182 u183 u184 u185 u186 u187 u188 u189 u190 u191 u192 u193 u194 u195 u196 u197 u198 u199 u200 u201 u202 u203 u204 u205 u206 u207 u208 u209 u210 u211 u212 u213 u214 u215 u216 u217 u218 u219 u220 u221 u222 u223 u224 u225 u226 u227 u228 u229 u230 u231 u232 u233 u234 u235 u236 u237 u238 u239 u240 u241 u242 u243 u244 u245 u246 u247 u248 u249 u250 u251 u252 u253 u254 u255 u256 u257 u258 u259 u260 u261 u262 u263 u264 u265 u266 u267 u268 u269 u270 u271 u272 u273 u274 u275 u276 u277 u278 u279 u280:Value)
  (B:aA w5 lb 175 #[.int .i64 2,.int .i64 k1,.int .i64 k2,.int .i64 k3,.int .i64 k4,.int .i64 k5,.int .i64 k6,.int .i64 k7,.slice ob nb cb]) (hb:w5.cell? ⟨g,9,none⟩=some (.slice (some ⟨b,off,none⟩) s.length cap)) (hB:∀o,(w5.alloc o).cell? ⟨g,9,none⟩=some (.slice (some ⟨b,off,none⟩) s.length cap)) (hm:s.length=2\/s.length=3)
  (K:Act->World->Prop) (hQ:∀(x7 x8 t118 t119 t120 t121 t122 t123 t124 t125 t126:Value) (w':World),rI w5 w' (s.length-1) ⟨2,k1,k2,k3,k4,k5,k6,k7⟩ x7 x8->K ⟨#[.pointer (some ⟨g,0,none⟩),u1,u2,.pointer (some ⟨lb,0,none⟩),u4,u5,u6,x7,x8,u9,u10,u11,u12,u13,u14,u15,u16,u17,u18,u19,u20,u21,u22,u23,u24,u25,u26,u27,u28,u29,u30,u31,u32,u33,u34,u35,u36,u37,u38,u39,u40,u41,u42,u43,u44,u45,u46,u47,u48,u49,u50,u51,u52,u53,u54,u55,u56,u57,u58,u59,u60,u61,u62,u63,u64,u65,u66,u67,u68,u69,u70,u71,u72,u73,u74,u75,u76,u77,u78,u79,u80,u81,u82,u83,u84,u85,u86,u87,u88,u89,u90,u91,u92,u93,u94,u95,u96,u97,u98,u99,u100,u101,u102,u103,u104,u105,u106,u107,u108,u109,u110,u111,u112,u113,u114,u115,u116,u117,t118,t119,t120,t121,t122,t123,t124,t125,t126,u127,u128,u129,u130,u131,u132,u133,u134,u135,u136,u137,u138,u139,u140,u141,u142,u143,u144,u145,u146,u147,u148,u149,u150,u151,u152,u153,u154,u155,u156,u157,u158,u159,u160,u161,u162,u163,u164,u165,u166,u167,u168,u169,u170,u171,u172,u173,u174,u175,u176,u177,u178,u179,u180,u181,u182,u183,u184,u185,u186,u187,u188,u189,u190,u191,u192,u193,u194,u195,u196,u197,u198,u199,u200,u201,u202,u203,u204,u205,u206,u207,u208,u209,u210,u211,u212,u213,u214,u215,u216,u217,u218,u219,u220,u221,u222,u223,u224,u225,u226,u227,u228,u229,u230,u231,u232,u233,u234,u235,u236,u237,u238,u239,u240,u241,u242,u243,u244,u245,u246,u247,u248,u249,u250,u251,u252,u253,u254,u255,u256,u257,u258,u259,u260,u261,u262,u263,u264,u265,u266,u267,u268,u269,u270,u271,u272,u273,u274,u275,u276,u277,u278,u279,u280],[]⟩ w'):
  Code.wp Tryz.prog (doesR 15) (pK K) ⟨#[.pointer (some ⟨g,0,none⟩),u1,u2,.pointer (some ⟨lb,0,none⟩),u4,u5,u6,u7,u8,u9,u10,u11,u12,u13,u14,u15,u16,u17,u18,u19,u20,u21,u22,u23,u24,u25,u26,u27,u28,u29,u30,u31,u32,u33,u34,u35,u36,u37,u38,u39,u40,u41,u42,u43,u44,u45,u46,u47,u48,u49,u50,u51,u52,u53,u54,u55,u56,u57,u58,u59,u60,u61,u62,u63,u64,u65,u66,u67,u68,u69,u70,u71,u72,u73,u74,u75,u76,u77,u78,u79,u80,u81,u82,u83,u84,u85,u86,u87,u88,u89,u90,u91,u92,u93,u94,u95,u96,u97,u98,u99,u100,u101,u102,u103,u104,u105,u106,u107,u108,u109,u110,u111,u112,u113,u114,u115,u116,u117,u118,u119,u120,u121,u122,u123,u124,u125,u126,u127,u128,u129,u130,u131,u132,u133,u134,u135,u136,u137,u138,u139,u140,u141,u142,u143,u144,u145,u146,u147,u148,u149,u150,u151,u152,u153,u154,u155,u156,u157,u158,u159,u160,u161,u162,u163,u164,u165,u166,u167,u168,u169,u170,u171,u172,u173,u174,u175,u176,u177,u178,u179,u180,u181,u182,u183,u184,u185,u186,u187,u188,u189,u190,u191,u192,u193,u194,u195,u196,u197,u198,u199,u200,u201,u202,u203,u204,u205,u206,u207,u208,u209,u210,u211,u212,u213,u214,u215,u216,u217,u218,u219,u220,u221,u222,u223,u224,u225,u226,u227,u228,u229,u230,u231,u232,u233,u234,u235,u236,u237,u238,u239,u240,u241,u242,u243,u244,u245,u246,u247,u248,u249,u250,u251,u252,u253,u254,u255,u256,u257,u258,u259,u260,u261,u262,u263,u264,u265,u266,u267,u268,u269,u270,u271,u272,u273,u274,u275,u276,u277,u278,u279,u280],[]⟩ w5:=by
 have H:=Za hQ;have I:=Za (fun w=>tX ⟨2,k1,k2,k3,k4,k5,k6,k7⟩ _ (.slice ob nb cb) (some ⟨b,off,none⟩) s.length cap w hm rfl);rw[rF]at I;have c0:=B.q 0 rfl;have C0:∀o,(w5.alloc o).cell? ⟨lb,0,none⟩=some (.int .i64 2):=B.cellA 0 rfl;have c1:=B.q 1 rfl;have C1:∀o,(w5.alloc o).cell? ⟨lb,1,none⟩=some (.int .i64 k1):=B.cellA 1 rfl;have c2:=B.q 2 rfl;have C2:∀o,(w5.alloc o).cell? ⟨lb,2,none⟩=some (.int .i64 k2):=B.cellA 2 rfl;have c3:=B.q 3 rfl;have C3:∀o,(w5.alloc o).cell? ⟨lb,3,none⟩=some (.int .i64 k3):=B.cellA 3 rfl;have c4:=B.q 4 rfl;have C4:∀o,(w5.alloc o).cell? ⟨lb,4,none⟩=some (.int .i64 k4):=B.cellA 4 rfl;have c5:=B.q 5 rfl;have C5:∀o,(w5.alloc o).cell? ⟨lb,5,none⟩=some (.int .i64 k5):=B.cellA 5 rfl;have c6:=B.q 6 rfl;have C6:∀o,(w5.alloc o).cell? ⟨lb,6,none⟩=some (.int .i64 k6):=B.cellA 6 rfl;have c7:=B.q 7 rfl;have C7:∀o,(w5.alloc o).cell? ⟨lb,7,none⟩=some (.int .i64 k7):=B.cellA 7 rfl;have c8:=B.q 8 rfl;have C8:∀o,(w5.alloc o).cell? ⟨lb,8,none⟩=some (.slice ob nb cb):=B.cellA 8 rfl;have J:=Za hB;have D9:=hB;clear B hm hQ hB
 conv=>arg 2;whnf
 go_region_law(go_simp;go_at_call 212;refine(I.o _).mono ?_;rintro e wk ⟨⟨v1,v2,v3,v4,rfl,C,D,E,F⟩,G⟩;obtain⟨a1,q1,rfl⟩:=aJ C;obtain⟨a2,q2,rfl⟩:=aJ D;obtain⟨a3,q3,rfl⟩:=aJ E;obtain⟨a4,q4,rfl⟩:=aJ F;simp only[List.length_replicate];first|(have A:=aA.next (show aA (w5.alloc (.cells #[.slice none 0 0,.slice none 0 0,.slice none 0 0,.slice none 0 0] 254)).drew w5.heap.size 254 #[.slice none 0 0,.slice none 0 0,.slice none 0 0,.slice none 0 0] from aA.new w5 _ _) G;have x0:=A.cell 0 rfl;have x1:=A.cell 1 rfl;have x2:=A.cell 2 rfl;have x3:=A.cell 3 rfl;have y0:=A.free 0;have y1:=A.free 1;have y2:=A.free 2;have y3:=A.free 3)|skip)
 all_goals first|(have A:=A;exact H.o _ _ _ _ _ _ _ _ _ _ _ _ (yA ((Zc _ _).alloc (Zb _) _).drew G A (Zb _) (jS C) (jS D) (jS E) (jS F)))|exact H.o _ _ _ _ _ _ _ _ _ _ _ _ (vN (Zc _ _).drew G (jS C) (jS D) (jS E) (jS F))
def aW (v:Int):Nat:=(v%18446744073709551616).toNat
def jU (l:List Int):List Int:=l.flatMap fun v=>aQ (aW v) 4
def eG (l:List Int):List Int:=l.flatMap fun v=>aQ (aW v) 8
theorem NI (l:List Int):(jU l).length=4*l.length:=by
 induction l with
 |nil=>rfl
 |cons x l ih=>rw[jU,List.flatMap_cons,Zl,cO,List.length_cons];have:(l.flatMap fun v=>aQ (aW v) 4).length=4*l.length:=ih;omega
theorem lA (l:List Int):(eG l).length=8*l.length:=by
 induction l with
 |nil=>rfl
 |cons x l ih=>rw[eG,List.flatMap_cons,Zl,cO,List.length_cons];have:(l.flatMap fun v=>aQ (aW v) 8).length=8*l.length:=ih;omega
theorem iO (v:Int):aW v<18446744073709551616:=by unfold aW;omega
theorem kR (v:Int):IntKind.u64.wrap v=(aW v:Nat):=by rw[IntKind.wrap_u64];unfold aW;omega
theorem uP (v:Int):Value.int .u64 (IntKind.u64.wrap v)=.int .u64 (aW v:Nat):=by rw[kR]
theorem wW (v:Int) (h0:0<=v) (h1:v<=9223372036854775807):((aW v:Nat):Int)=v:=by unfold aW;omega
theorem CN (w:World) (l:List Value) (e:TypeId) (fz:Nat×Nat) (o:Obj):∀(j:Nat) (u:Value),l[j]?=some u->((w.alloc (.cells l.toArray e fz)).alloc o).cell? ((⟨w.heap.size,0,none⟩:Addr).add j)=some u:=fun j u h=>by
 have h1:=eD w l e fz j u h;rw[Addr.add_lit]at h1 ⊢;rw[World.cell?_alloc_past _ _ _ (by simp)];exact h1
def bv (l:List Int):Nat:=l.foldl (fun n x=>n*256+x.toNat) 0
theorem Q9 (l:List Int) (a:Nat):l.foldl (fun n x=>n*256+x.toNat) a=a*256^l.length+bv l:=by
 induction l generalizing a with
 |nil=>simp[bv]
 |cons x l ih=>
  have h2:bv (x::l)=(0*256+x.toNat)*256^l.length+bv l:=by rw[bv,List.foldl_cons];exact ih _
  rw[List.foldl_cons,ih,h2,List.length_cons,Nat.pow_succ,Nat.add_mul];simp only[Nat.zero_mul,Nat.zero_add,Nat.mul_assoc,Nat.mul_comm,Nat.mul_left_comm,Nat.add_assoc]
theorem tO (x:Int) (l:List Int):bv (x::l)=x.toNat*256^l.length+bv l:=by rw[bv,List.foldl_cons,Q9];simp
theorem wE (l:List Int) (hw:Wf .u8 l):bv l<256^l.length:=by
 induction l with
 |nil=>simp[bv]
 |cons x l ih=>
  have h1:=kQ (hw x (by simp));have h2:=ih (fun y hy=>hw y (by simp[hy]));rw[tO,List.length_cons,Nat.pow_succ];have h3:x.toNat<=255:=by omega
  have:=Nat.mul_le_mul_right (256^l.length) h3;omega
theorem J8 (l:List Int):fU l=bv l%18446744073709551616:=by
 have h:∀(l:List Int) (a b:Nat),a%18446744073709551616=b%18446744073709551616->(l.foldl (fun n x=>(n*256+x.toNat)%18446744073709551616) a)%18446744073709551616=(l.foldl (fun n x=>n*256+x.toNat) b)%18446744073709551616:=by
  intro l
  induction l with
  |nil=>intro a b h;exact h
  |cons x l ih=>
   intro a b h;rw[List.foldl_cons,List.foldl_cons];exact ih _ _ (by omega)
 have h0:=h l 0 0 rfl;have h1:=Nat.mod_eq_of_lt (xQ l);rw[bv,<-h0];exact h1.symm
theorem EW (l:List Int) (hw:Wf .u8 l) (hl:l.length<=8):fU l=bv l:=by rw[J8,Nat.mod_eq_of_lt];exact Nat.lt_of_lt_of_le (wE l hw) (Nat.pow_le_pow_right (by omega) hl)
theorem DJ {x:Int} (h0:0<=x) (h1:x<256):(Lit.int .u8 x).wf=true:=by simp[Lit.wf,IntKind.min,IntKind.max,IntKind.signed,IntKind.bits];omega
theorem fX (n k:Nat):Wf .u8 (aQ n k):=by
 induction k with
 |zero=>intro x A;simp[aQ]at A
 |succ k ih=>
  intro x A;rw[aQ,List.mem_cons]at A;rcases A with rfl|A
  ·exact DJ (by omega) (by omega)
  ·exact ih x A
theorem TA (n k:Nat):bv (aQ n k)=n%256^k:=by
 induction k with
 |zero=>simp[bv,aQ,Nat.mod_one]
 |succ k ih=>
  rw[aQ,tO,cO,ih,Int.toNat_natCast,Nat.pow_succ,Nat.mod_mul];rw[Nat.add_comm,Nat.mul_comm]
theorem zU (n k j:Nat) (h:j<=k):aQ (n%256^k) j=aQ n j:=by
 induction j with
 |zero=>rfl
 |succ j ih=>
  rw[aQ,aQ,ih (by omega)]
  congr 2
  have e:256^k=256^j*(256*256^(k-j-1)):=by rw[<-Nat.pow_succ',<-Nat.pow_add];congr 1;omega
  rw[e,Nat.mod_mul_right_div_self,Nat.mod_mul_right_mod]
theorem O1 (l:List Int) (hw:Wf .u8 l):aQ (bv l) l.length=l:=by
 induction l with
 |nil=>rfl
 |cons x l ih=>
  have h1:=kQ (hw x (by simp));have A:Wf .u8 l:=fun y hy=>hw y (by simp[hy]);have h2:=wE l A;rw[List.length_cons,aQ];have hp:0<256^l.length:=Nat.pow_pos (by omega)
  congr 1
  ·rw[tO,Nat.mul_comm,Nat.mul_add_div hp,Nat.div_eq_of_lt h2,Nat.add_zero];omega
  ·rw[<-zU _ l.length l.length (Zb _),tO,Nat.mul_comm,Nat.mul_add_mod,zU _ _ _ (Zb _)];exact ih A
theorem zK (n k:Nat) (rest:List Int):(aQ n k++rest).take k=aQ n k/\(aQ n k++rest).drop k=rest:=by
 have h:=cO n k;constructor
 ·conv=>lhs;arg 1;rw[<-h]
  exact List.take_left
 ·conv=>lhs;arg 1;rw[<-h]
  exact List.drop_left
theorem EJ (n k:Nat) (hk:k<=8) (hn:n<256^k):fU (aQ n k)=n:=by rw[EW _ (fX n k) (by rw[cO];exact hk),TA,Nat.mod_eq_of_lt hn]
theorem CC {k:Nat} {rem:List Int} (hk:k<=rem.length) (B:k<=8) (hw:Wf .u8 rem):rem=aQ (fU (rem.take k)) k++rem.drop k/\fU (rem.take k)<256^k:=by
 have hl:(rem.take k).length=k:=by rw[List.length_take];omega
 have A:=hw.take k;have hb:=EW (rem.take k) A (by omega);have h2:=wE (rem.take k) A;have h3:=O1 (rem.take k) A;rw[hl]at h2 h3;rw[hb,h3];exact⟨(List.take_append_drop k rem).symm,h2⟩
theorem nY (x k:Nat) (rest:List Int) (hk:k<=8) (hx:x<256^k):bL k (aQ x k++rest)=some (x,rest):=by rw[wZ (by rw[Zl,cO];omega),(zK x k rest).1,(zK x k rest).2,EJ x k hk hx]
theorem DC {k x:Nat} {rem rest:List Int} (h:bL k rem=some (x,rest)) (hk:k<=8) (hw:Wf .u8 rem):rem=aQ x k++rest/\x<256^k/\Wf .u8 rest:=by
 unfold bL at h;split at h
 ·rename_i hl;cases h;exact⟨(CC hl hk hw).1,(CC hl hk hw).2,sM hw k⟩
 ·cases h
theorem GB (x:Int) (l:List Int):jU (x::l)=aQ (aW x) 4++jU l:=by rw[jU,List.flatMap_cons];rfl
theorem BV (x:Int) (l:List Int):eG (x::l)=aQ (aW x) 8++eG l:=by rw[eG,List.flatMap_cons];rfl
theorem QJ (v:Int) (h0:-9223372036854775808<=v) (h1:v<=9223372036854775807):l9 (aW v)=v:=by unfold l9 aW wrap64;omega
theorem N6 {v:Int} (h:bU v=true):-140737488355328<v/\v<140737488355328:=by simpa [bU]using h
theorem CJ (xs rest:List Int) (h:iR xs=true):bT xs.length (eG xs++rest)=some (xs,rest):=by
 induction xs with
 |nil=>rw[List.length_nil,qW];rfl
 |cons x xs ih=>
  rw[iR,List.all_cons,Bool.and_eq_true]at h;have hb:=N6 h.1;rw[List.length_cons,nC,BV,List.append_assoc,nY _ _ _ (by omega) (iO x),Option.bind_some,lJ,QJ x (by omega) (by omega),h.1,cond_true,Option.bind_some,ih h.2];rfl
def iS (k:Int):List UInt8:=match cP k with
 |some r=>r.word
 |none=>if k=13 then dE else []
theorem DQ (k:Int) (h:k<1\/13<k):iS k=[]:=by
 have:cP k=none:=by
  rw[cP,List.find?_eq_none];intro r hr;have:∀r∈bJ,1<=r.kind/\r.kind<=12:=by decide
  have:=this r hr;simp;omega
 rw[iS,this];simp;omega
theorem wR (k:Int) (w:World):Calls Tryz.prog 144 #[.int .i64 k] w fun e w'=>e=.returned (.string ⟨(iS k).toArray⟩)/\w=w':=by
 by_cases h:k<1\/13<k
 ·have A:=Za (DQ k h);have n1:¬k=1:=by omega
  have n2:¬k=2:=by omega
  have n3:¬k=3:=by omega
  have n4:¬k=4:=by omega
  have n5:¬k=5:=by omega
  have n6:¬k=6:=by omega
  have n7:¬k=7:=by omega
  have n8:¬k=8:=by omega
  have n9:¬k=9:=by omega
  have n10:¬k=10:=by omega
  have n11:¬k=11:=by omega
  have n12:¬k=12:=by omega
  have n13:¬k=13:=by omega
  clear h;go_enter Tryz.func144,Tryz.ntmps144;go_wp2;go_ret;exact⟨by rw[A.o];rfl,rfl⟩
 ·have:k=1\/k=2\/k=3\/k=4\/k=5\/k=6\/k=7\/k=8\/k=9\/k=10\/k=11\/k=12\/k=13:=by omega
  clear h;rcases this with rfl|rfl|rfl|rfl|rfl|rfl|rfl|rfl|rfl|rfl|rfl|rfl|rfl
  all_goals
   go_enter Tryz.func144,Tryz.ntmps144;go_wp2;go_ret;exact⟨rfl,rfl⟩
def dK (n:aE):List Int:=match cP n.kind with
 |some r=>r.at_.map n.fld
 |none=>[]
theorem TM (n:aE) (h:n.kind<1\/12<n.kind):dK n=[]:=by
 have:cP n.kind=none:=by
  rw[cP,List.find?_eq_none];intro r hr;have:∀r∈bJ,1<=r.kind/\r.kind<=12:=by decide
  have:=this r hr;simp;omega
 rw[dK,this]
theorem OM {w:World} {o:Obj} {xs:List Int} {e:TypeId} {n:Nat} (hn:n=xs.length) (h:xs.length<=10):aH ((w.alloc o).alloc (.cells (xs.map (Value.int .i64)).toArray e)) w.heap.size e .i64 (.slice (some ⟨w.heap.size+1,0,none⟩) n n) xs:=by subst hn;have:=aH.lit (w.alloc o) .i64 xs e (by unfold maxLen;omega);rw[World.size_alloc]at this;exact bY this (Nat.le_succ _)
theorem sZ (n:aE) (v:Value) (w:World):Calls Tryz.prog 146 #[.agg (n.cells v).toArray] w fun e w'=>(∃u,e=.returned u/\aH w' w.heap.size 3 .i64 u (dK n))/\Below w.heap.size w w':=by
 obtain⟨k,k1,k2,k3,k4,k5,k6,k7⟩:=n;simp only[aE.cells];by_cases h:k<1\/12<k
 ·have A:=Za (TM ⟨k,k1,k2,k3,k4,k5,k6,k7⟩ h);have n1:¬k=1:=by omega
  have n2:¬k=2:=by omega
  have n7:¬k=7:=by omega
  have n8:¬k=8:=by omega
  have n9:¬k=9:=by omega
  have n11:¬k=11:=by omega
  have n12:¬k=12:=by omega
  clear h;go_enter Tryz.func146,Tryz.ntmps146;go_wp2;go_ret;refine⟨⟨_,rfl,?_⟩,(Zc _ _).alloc (Zb _) _⟩;rw[A.o];exact World.ownsRow_nil _ _ _ _
 ·have:k=1\/k=2\/k=3\/k=4\/k=5\/k=6\/k=7\/k=8\/k=9\/k=10\/k=11\/k=12:=by omega
  clear h;rcases this with rfl|rfl|rfl|rfl|rfl|rfl|rfl|rfl|rfl|rfl|rfl|rfl
  all_goals
   go_enter Tryz.func146,Tryz.ntmps146;go_wp2
   try go_quiet(fail)
   try go_wp2
   go_ret;refine⟨⟨_,rfl,?_⟩,?_⟩
   ·first
    |exact World.ownsRow_nil _ _ _ _
    |exact OM (xs:=dK ⟨_,k1,k2,k3,k4,k5,k6,k7⟩) rfl (Nat.le_of_ble_eq_true rfl)
   ·first
    |exact(Zc _ _).alloc (Zb _) _
    |exact((Zc _ _).alloc (Zb _) _).alloc (by simp) _
theorem aI.ownI {w:World} {B:Nat} {e:TypeId} {K:IntKind} {v:Value} {xs:List Int} (h:aH w B e K v xs):aI (aL B w) w fun W=>aH W 0 e K v xs:=fun w' hw=>
 bY (mW h fun g hg=>hw g (h.lt g hg)) (Ze _)
def NumF (W:World) (v:Value) (xs:List Int):Prop:=Rd W .i64 v xs/\dC W 0 3 .i64 v
def lP (W:World) (v:Value) (ts:List aO):Prop:=bD W v ts/\iM W 0 v
def lZ (W:World) (v:Value) (ls:List aB):Prop:=bO W v ls/\fH W 0 v
def oL (W:World) (vi vl:Value) (d:bI):Prop:=fZ W vi vl d/\dC W 0 3 .i64 vi/\fH W 0 vl
theorem aI.num {w:World} {B:Nat} {v:Value} {xs:List Int} (h:aH w B 3 .i64 v xs) (hl:xs.length<=1000000):aI (aL B w) w fun W=>NumF W v xs:=(aI.ownI h).imp fun W hW=>⟨Rd.of_own hW,xs,hW,hl⟩
theorem TV {W:World} {v:Value} {css:List (List Value)} (h:W.ownsRow 0 175 9 v css.length css.flatten) (hn:css.length<=1000000) (hc:∀j,j<css.length->∃(n:aE) (u:Value),css[j]?=some (n.cells u)/\fH W 0 u):fH W 0 v:=by
 have h9:∀c∈css,c.length=9:=fun c hm=>by
  obtain⟨k,hk,rfl⟩:=List.getElem_of_mem hm;obtain⟨n,u,B,_⟩:=hc k hk;rw[List.getElem?_eq_getElem hk]at B;rw[Option.some.inj B,aE.cells_len]
 have key:∀j,∃u,∃n:aE,j<css.length->css[j]?=some (n.cells u)/\fH W 0 u:=fun j=>by
  by_cases A:j<css.length
  ·obtain⟨n,u,B,h2⟩:=hc j A;exact⟨u,n,fun _=>⟨B,h2⟩⟩
  ·exact⟨.bool true,⟨0,0,0,0,0,0,0,0⟩,fun h=>absurd h A⟩
 have at_:∀j i,j<css.length->i<9->∀(n:aE) (u:Value),css[j]?=some (n.cells u)->css.flatten[j*9+i]?=(n.cells u)[i]?:=fun j i A hi n u B=>by
  rw[lW css h9 j i A hi];rw[List.getElem?_eq_getElem A]at B;rw[Option.some.inj B]
 refine .mk v css.length css.flatten (fun j=>Classical.choose (key j)) h hn (fun j i A hi=>?_) (fun j A=>?_) (fun j A=>?_)
 ·obtain⟨n,u,B,_⟩:=hc j A;rw[at_ j i A (by omega) n u B]
  match i with
  |0|1|2|3|4|5|6|7=>exact⟨_,rfl⟩
  |i+8=>omega
 ·obtain⟨n,hn⟩:=Classical.choose_spec (key j);rw[at_ j 8 A (by omega) n _ (hn A).1];rfl
 ·obtain⟨n,hn⟩:=Classical.choose_spec (key j);exact(hn A).2
theorem KR (W:World):lZ W (.slice none 0 0) []:=⟨⟨none,0,rfl,by rw[cS];trivial⟩,fH.nil _ _⟩
theorem TG {W:World} {v:Value} {css:List (List Value)} (h:W.ownsRow 0 100 2 v css.length css.flatten) (hn:css.length<=1000000) (hc:∀j,j<css.length->∃vs vd,css[j]?=some [vs,vd]/\dC W 0 3 .i64 vs/\dC W 0 2 .i64 vd):iM W 0 v:=by
 have h2:∀c∈css,c.length=2:=fun c hm=>by
  obtain⟨k,hk,rfl⟩:=List.getElem_of_mem hm;obtain⟨vs,vd,A,_⟩:=hc k hk;rw[List.getElem?_eq_getElem hk]at A;rw[Option.some.inj A];rfl
 refine⟨css.length,css.flatten,h,hn,fun j hj=>?_⟩;obtain⟨vs,vd,A,f1,f2⟩:=hc j hj;rw[List.getElem?_eq_getElem hj]at A;refine⟨vs,vd,?_,?_,f1,f2⟩
 ·have:=lW css h2 j 0 hj (by omega);rw[Option.some.inj A]at this;exact this
 ·have:=lW css h2 j 1 hj (by omega);rw[Option.some.inj A]at this;exact this
def l0 (B:Nat) (w:World):World:={w with heap:=w.heap.mapIdx fun i o=>if i<B then .deferred none else o}
theorem VA (B:Nat) (w:World):∀k,aL B w k->(l0 B w).heap[k]?=w.heap[k]?:=fun k hk=>by
 have hn:¬k<B:=by have:=hk.1;omega
 simp only[l0,Array.getElem?_mapIdx,if_neg hn];cases w.heap[k]?<;>rfl
theorem yJ {B:Nat} {w:World} {e:TypeId} {s n:Nat} {v:Value} {xs:List Value} (h:(l0 B w).ownsRow 0 e s v n xs):w.ownsRow B e s v n xs:=by
 refine⟨h.1,?_⟩;rcases h.2 with hn|⟨g,cap,cur,rfl,_,A,r⟩
 ·exact .inl hn
 ·have hb:B<=g:=by
   rcases Nat.lt_or_ge g B with C|D
   ·simp only[l0,Array.getElem?_mapIdx,if_pos C]at A;cases hh:w.heap[g]? with
    |none=>rw[hh]at A;cases A
    |some o=>rw[hh]at A;cases A
   ·exact D
  refine .inr ⟨g,cap,cur,rfl,hb,?_,r⟩;simp only[l0,Array.getElem?_mapIdx,if_neg (show ¬g<B by omega)]at A;cases hh:w.heap[g]? with
  |none=>rw[hh]at A;cases A
  |some o=>rw[hh]at A;exact A
theorem qS {B:Nat} {w:World} {T:TypeId} {K:IntKind} {v:Value} (h:dC (l0 B w) 0 T K v):dC w B T K v:=by obtain⟨xs,ho,hl⟩:=h;exact⟨xs,yJ ho,hl⟩
theorem wY {B:Nat} {w:World} {v:Value} (h:iM (l0 B w) 0 v):iM w B v:=by
 obtain⟨n,xs,ho,hl,hc⟩:=h;exact⟨n,xs,yJ ho,hl,fun j hj=>by
  obtain⟨vs,vd,h1,h2,h3,h4⟩:=hc j hj;exact⟨vs,vd,h1,h2,qS h3,qS h4⟩⟩
theorem J4 {B:Nat} {w:World} {v:Value} (h:fH (l0 B w) 0 v):fH w B v:=by
 induction h with
 |mk v n xs us own hn hi hu hf ih=>exact .mk v n xs us (yJ own) hn hi hu ih
def iC (vps:Value) (first:Bool) (bad:Int):Array Value:=#[vps,.bool first,.int .i64 bad]
structure cF (g:Nat) (w w':World):Prop where
 low:Below g w w'
 kept:∀(k:Nat) (cs:Array Value) (T:TypeId) (fz:Nat×Nat),T≠161->T≠156->w.heap[k]?=some (.cells cs T fz)->w'.heap[k]?=some (.cells cs T fz)
theorem cF.refl (g:Nat) (w:World):cF g w w:=⟨Zc _ _,fun _ _ _ _ _ _ h=>h⟩
theorem cF.trans {g:Nat} {a b c:World} (h:cF g a b) (k:cF g b c):cF g a c:=⟨h.low.trans k.low,fun i cs T fz h1 h2 hi=>k.kept i cs T fz h1 h2 (h.kept i cs T fz h1 h2 hi)⟩
theorem cF.below {g:Nat} {w w':World} (h:Below w.heap.size w w') (hg:g<=w.heap.size):cF g w w':=⟨h.mono hg,fun k cs T fz _ _ hk=>(h.block k (Array.getElem?_eq_some_iff.1 hk).1).trans hk⟩
theorem cF.set {g:Nat} {w:World} {cs:Array Value} (h:aA w g 156 cs) (j:Nat) (v:Value):cF g w (w.setCell ⟨g,j,none⟩ v):=
 ⟨(Zc _ _).setCell (p:=⟨g,j,none⟩) (Zb _) v,fun k cs T fz _ h2 hk=>by
  rw[Below.heap_setCell _ _ _ _ (fun e=>?_)]
  ·exact hk
  ·simp at e;subst e;unfold aA at h;rw[h]at hk;simp at hk;exact h2 hk.2.1.symm⟩
theorem cF.grown {g B:Nat} {w w':World} {u:Value} {n s:Nat} {ys:List Value} (ho:w.ownsRow B 161 s u n ys) (hB:g<=B) (hw:g<=w.heap.size) (hg:w.grownBy w' u.ownBlock):cF g w w':=by
 have C:∀k,u.ownBlock=some k->B<=k/\∀cs T fz,T≠161->w.heap[k]?≠some (.cells cs T fz):=fun k A=>by
  rcases ho.2 with⟨rfl,_⟩|⟨b,cap,cur,rfl,D,E,_⟩
  ·simp[Value.ownBlock]at A
  ·simp[Value.ownBlock]at A;subst A;refine⟨D,fun cs T fz hT h=>?_⟩;rw[E]at h;simp at h;exact hT h.2.1.symm
 exact⟨(Zc _ _).grown hg hw (fun k A=>Nat.le_trans hB (C k A).1),fun k cs T fz h1 _ A=>(hg.block k (Array.getElem?_eq_some_iff.1 A).1 (fun e'=>(C k e'.symm).2 cs T fz h1 A)).trans A⟩
theorem aM.keepR {n₀ g:Nat} {w w':World} {v:Value} {xs:List Int} (h:aM n₀ w v xs) (hs:cF g w w') (hn:n₀<=g):aM n₀ w' v xs:=by
 have key:∀b,(b<n₀\/∃cs fz,w.heap[b]?=some (.cells cs 3 fz))->b<w.heap.size->w'.heap[b]?=w.heap[b]?:=fun b hb C=>by
  rcases hb with hb|⟨cs,fz,hb⟩
  ·exact hs.low.block b (by omega)
  ·rw[hb];exact hs.kept b cs _ fz (by decide) (by decide) hb
 obtain⟨o,cap,rfl,hc⟩:=h.1;have B:=h.2.1;refine⟨⟨o,cap,rfl,fun j hj=>?_⟩,fun b off n c e' h0=>?_,h.2.2⟩
 ·obtain⟨b,off,rfl,A⟩:=hc j hj;exact⟨b,off,rfl,(World.cell?_of_block (w:=w) (a:=⟨b,off+j,none⟩) (key b (B b off _ _ rfl (by omega)) (aP A))).trans A⟩
 ·rcases B b off n c e' h0 with hh|⟨cs,fz,hh⟩
  ·exact .inl hh
  ·exact .inr ⟨cs,fz,(key b (.inr ⟨cs,fz,hh⟩) (Array.getElem?_eq_some_iff.1 hh).1).trans hh⟩
theorem aA.keepR {g C:Nat} {w w':World} {T:TypeId} {cs:Array Value} (h:aA w C T cs) (hs:cF g w w') (h1:T≠161) (h2:T≠156):aA w' C T cs:=hs.kept C cs T _ h1 h2 h
theorem IR {g n₀:Nat} {vps v':Value} {first:Bool} {bad:Int} {qs:List PD} {q:PD} {w w1 w6:World}
  (hb:aA w g 156 (iC vps first bad)) (H:aY w n₀ g vps qs) (hn:n₀<=g) (h1:Below w.heap.size w w1) (M:aM n₀ w q.vs q.sh) (N:q.vs.oneCell'=true)
  (B:w6.ownsRow g 161 4 v' (qs.length+1) (gD qs++q.cells)) (hg:w1.grownBy w6 vps.ownBlock):
  (w6.cell? ⟨g,0,none⟩=some vps/\w6.frozen? ⟨g,0,none⟩=false)/\aA (w6.setCell ⟨g,0,none⟩ v') g 156 (iC v' first bad)/\aY (w6.setCell ⟨g,0,none⟩ v') n₀ g v' (qs++[q])/\cF g w (w6.setCell ⟨g,0,none⟩ v'):=by
 have L:g<=w.heap.size:=Nat.le_of_lt hb.lt;have C:=cI H.row h1 (Zb _);have I:cF g w w6:=(cF.below h1 L).trans (cF.grown C (Zb _) (Nat.le_trans L h1.size) hg);have A:aA w6 g 156 (iC vps first bad):=by
  have D:=hb.next h1;refine(hg.block g D.lt fun e=>?_).trans D;rcases C.2 with⟨rfl,_⟩|⟨b,cap,cur,rfl,J,E,_⟩
  ·simp[Value.ownBlock]at e
  ·simp[Value.ownBlock]at e;subst e;unfold aA at D;rw[E]at D;simp at D
 have F:=cF.set A 0 v';have O:∀k,v'.ownBlock=some k->g≠k:=fun k hk e=>by
  subst e;rcases B.2 with⟨rfl,_⟩|⟨b,cap,cur,rfl,J,E,_⟩
  ·simp[Value.ownBlock]at hk
  ·simp[Value.ownBlock]at hk;subst hk;unfold aA at A;rw[E]at A;simp at A
 refine⟨⟨A.cell 0 rfl,A.free 0⟩,A.set 0 v',⟨?_,fun r G=>?_,fun r G=>?_⟩,I.trans F⟩
 ·rw[yR,Zl,List.length_singleton];refine⟨B.1,?_⟩;rcases B.2 with hn'|⟨b,cap,cur,rfl,J,E,r⟩
  ·exact .inl hn'
  ·exact .inr ⟨b,cap,cur,rfl,J,by rw[Below.heap_setCell _ _ _ _ (fun e=>O b rfl e.symm)];exact E,r⟩
 ·rcases List.mem_append.1 G with G|G
  ·exact(H.sh r G).keepR (I.trans F) hn
  ·rw[List.mem_singleton.1 G];exact M.keepR (I.trans F) hn
 ·rcases List.mem_append.1 G with G|G
  ·exact H.one r G
  ·rw[List.mem_singleton.1 G];exact N
theorem aY.setR {w:World} {n₀ B g:Nat} {v:Value} {qs:List PD} {cs:Array Value} (h:aY w n₀ B v qs) (hb:aA w g 156 cs) (j:Nat) (u:Value) (hn:n₀<=g):aY (w.setCell ⟨g,j,none⟩ u) n₀ B v qs:=
 ⟨qI h.row hb (by decide) u,fun q hq=>(h.sh q hq).keepR (cF.set hb j u) hn,h.one⟩
theorem uO (v:Value) (xs:List Int) (w:World) (hr:Rd w .i64 v xs) (hl:xs.length<=140737488351232):Calls Tryz.prog 90 #[v] w fun e w'=>e=.returned (.bool (bA xs))/\aN w w':=zS v xs w hr hl
def kB (sh:List Int) (bad:Int):Int:=if bA sh=false/\bad=0 then 5 else bad
def BG (g n₀:Nat) (first:Bool) (bad:Int) (qs:List PD) (sh:List Int) (w:World) (e:Ending) (w':World):Prop:=
 e=.returned (.tuple #[])/\(∃vps' q,aA w' g 156 (iC vps' first (kB sh bad))/\aY w' n₀ g vps' (qs++[q])/\q.sh=sh)/\cF g w w'
theorem VN (g n₀:Nat) (vps:Value) (first:Bool) (bad:Int) (nm:ByteArray) (qs:List PD) (fi fo:Int) (o:Option Addr) (cap:Nat) (sh:List Int) (w:World)
  (hb:aA w g 156 (iC vps first bad)) (F:aY w n₀ g vps qs) (hq:qs.length<=100000) (hn:n₀<=g) (L:aM n₀ w (.slice o sh.length cap) sh) (Y:sh.length<=100000):
  Calls Tryz.prog 164 #[.pointer (some ⟨g,0,none⟩),.string nm,.slice o sh.length cap,.int .i64 fi,.int .i64 fo] w (BG g n₀ first bad qs sh w):=by
 obtain⟨i0,hi,R,T,U⟩:=info_parts wB;have V:=Za hb;have M:=Za F;have N:=Za L;obtain⟨ov,cv,rfl⟩:=aJ F.row;have c3:=hb.q 0 rfl;have Z:=hb.lt;clear hb F L;go_enter Tryz.func164,Tryz.ntmps164;go_wp2_with(at_builtin;refine wpList_append_own _ rfl _ _ 79 rfl g 161 i0 (.agg #[.string ⟨#[]⟩,.slice none 0 0,.int .i64 0,.int .i64 0]) 4 56 Tryz.underlying79 hi R T U rfl (by decide) _ _ _ rfl ((cI M.o.row ((Zc _ _).alloc (Zb _) _) (Zb _))) ⟨w.heap.size,0,none⟩ 1 1 [.string nm,.slice o sh.length cap,.int .i64 fi,.int .i64 fo] rfl rfl (eD w _ _ _) (by simp[Value.oneCell']) (by unfold maxLen;omega) (by omega) (by simp;omega) ?_;intro v' w6 D E _;have O:=Za (IR (q:=⟨nm,.slice o sh.length cap,fi,fo,sh⟩) V.o M.o hn ((Zc _ _).alloc (Zb _) _) N.o rfl D E);obtain⟨o6,c6,rfl⟩:=aJ D;have e3:=O.o.1.1;have e4:=O.o.1.2;clear D E;refine aD ?_);refine aC ?_;go_upto_region 1 with(fail);obtain⟨w7,G⟩:=Zx (w6.setCell ⟨g,0,none⟩ (.slice o6 (qs.length+1) c6));have A:=Za (show aA w7 g 156 (iC (.slice o6 (qs.length+1) c6) first bad)/\aY w7 n₀ g (.slice o6 (qs.length+1) c6) (qs++[⟨nm,.slice o sh.length cap,fi,fo,sh⟩])/\cF g w w7 by rw[G];exact O.o.2);rw[<-G];clear G e3 e4 O;have P:=Za (uO (.slice o sh.length cap) sh w7 (N.o.keepR A.o.2.2 hn).1 (by omega));obtain⟨sb,H⟩:=Zx (bA sh);rw[<-H]at P;have I:=Za H;clear H c3;cases sb with
 |true=>
  go_wp2_with(go_at_call 90;refine P.o.mono ?_;rintro e w8 ⟨rfl,C⟩;have B:=Za (show Below w7.heap.size w7 w8 from C.below _);clear C);go_end0;refine⟨rfl,⟨_,⟨nm,.slice o sh.length cap,fi,fo,sh⟩,?_,A.o.2.1.below B.o,rfl⟩,A.o.2.2.trans (cF.below B.o (Nat.le_of_lt A.o.1.lt))⟩;rw[kB,<-I.o,if_neg (by simp)];exact A.o.1.next B.o
 |false=>
  by_cases h0:bad=0
  ·subst h0;go_wp2_with(go_at_call 90;refine P.o.mono ?_;rintro e w8 ⟨rfl,C⟩;have B:=Za (show Below w7.heap.size w7 w8 from C.below _);clear C;have x2:w8.cell? ⟨g,2,none⟩=some (.int .i64 0):=(A.o.1.next B.o).cell 2 rfl;have f2:=(A.o.1.next B.o).free 2);go_end0;have J:=A.o.1.next B.o;have X:=cF.set J 2 (.int .i64 5);refine⟨rfl,⟨_,⟨nm,.slice o sh.length cap,fi,fo,sh⟩,?_,(A.o.2.1.below B.o).setR J 2 _ hn,rfl⟩,(A.o.2.2.trans (cF.below B.o (Nat.le_of_lt A.o.1.lt))).trans X⟩;rw[kB,<-I.o,if_pos ⟨rfl,rfl⟩];exact J.set 2 _
  ·have aa:(bad==0)=false:=by simpa using h0
   go_wp2_with(go_at_call 90;refine P.o.mono ?_;rintro e w8 ⟨rfl,C⟩;have B:=Za (show Below w7.heap.size w7 w8 from C.below _);clear C;have x2:w8.cell? ⟨g,2,none⟩=some (.int .i64 bad):=(A.o.1.next B.o).cell 2 rfl;have f2:=(A.o.1.next B.o).free 2);go_end0;refine⟨rfl,⟨_,⟨nm,.slice o sh.length cap,fi,fo,sh⟩,?_,A.o.2.1.below B.o,rfl⟩,A.o.2.2.trans (cF.below B.o (Nat.le_of_lt A.o.1.lt))⟩;rw[kB,<-I.o,if_neg (fun h=>h0 h.2)];exact A.o.1.next B.o
mutual
def lK (left:Int):aB->Bool
 |.mk _ b=>decide (b.length=0) || (decide (0<=left-1)&&decide (b.length<=64)&&jF (left-1) b)
def jF (left:Int):List aB->Bool
 |[]=>true
 |l::r=>lK left l&&jF left r
end
def gC (left:Int) (ls:List aB):Bool:=decide (0<=left)&&decide (ls.length<=64)&&jF left ls
theorem BC (left:Int) (l:aB):lK left l=(decide (l.body.length=0) || gC (left-1) l.body):=by
 cases l with
 |mk n b=>rw[lK,aB.body,gC]
theorem LT (left:Int) (ls:List aB) (h:∀j (hj:j<ls.length),lK left ls[j]=true):jF left ls=true:=by
 induction ls with
 |nil=>rw[jF]
 |cons l r ih=>
  rw[jF,Bool.and_eq_true];exact⟨h 0 (by simp),ih fun j hj=>h (j+1) (by simpa using hj)⟩
theorem T4 (left:Int) (ls:List aB) (k:Nat) (hk:k<ls.length) (h:lK left ls[k]=false):jF left ls=false:=by
 induction ls generalizing k with
 |nil=>simp at hk
 |cons l r ih=>
  rw[jF,Bool.and_eq_false_iff];cases k with
  |zero=>exact .inl h
  |succ k=>exact .inr (ih k (by simpa using hk) h)
def tC (ls:List aB):Prop:=∀(left:Int) (v:Value) (w:World),bO w v ls->ls.length<=140737488351232->-1<=left/\left<=4->
 Calls Tryz.prog 107 #[v,.int .i64 left] w fun e w'=>e=.returned (.bool (gC left ls))/\w=w'
theorem CL (ls:List aB) (E:∀l∈ls,tC l.body):tC ls:=by
 intro left v w hr hl ⟨V,X⟩;obtain⟨o,cap,rfl⟩:=hr.len;have Y:=Za hr;have M:=Za E;clear hr E;obtain⟨d,H⟩:=Zx (gC left ls);rw[<-H];by_cases T:left<0
 ·have L:=Za (show d=false by rw[H,gC,decide_eq_false (by omega)];rfl);clear H;go_enter Tryz.func107,Tryz.ntmps107;go_wp2;go_ret;exact⟨aG L.o.symm,rfl⟩
 by_cases P:64<ls.length
 ·have L:=Za (show d=false by rw[H,gC,decide_eq_false (p:=ls.length<=64) (by omega),Bool.and_false];rfl);clear H;go_enter Tryz.func107,Tryz.ntmps107;go_wp2;go_ret;exact⟨aG L.o.symm,rfl⟩
 have L:=Za (show d=jF left ls by rw[H,gC,decide_eq_true (by omega),decide_eq_true (by omega)];rfl);clear H;go_enter Tryz.func107,Tryz.ntmps107;go_wp2;go_loopw[5] (fun i wr=>∃(k:Nat),k<=ls.length/\i=.int .i64 k/\Hid (∀j (F:j<ls.length),j<k->lK left ls[j]=true)/\Hid (wr=w)) (fun i _=>ls.length-(intOf i).toNat)
 case atStart=>exact⟨0,Ze _,rfl,Za (fun j F h=>absurd h (Nat.not_lt_zero j)),Za rfl⟩
 case round=>
  obtain⟨k,hk,rfl,R,Z⟩:=hrel;rw[Z.o];by_cases I:k<ls.length
  ·obtain⟨b,off,vb,rfl,C,J,G⟩:=Y.o.lay k I;have c8:w.cell? ⟨b,off+k*9+8,none⟩=some vb:=C 8 _ rfl;have D:=Za (M.o _ (List.getElem_mem I) (left-1) vb w J G (by omega));have U:=Za (BC left ls[k]);obtain⟨ob,cb,rfl⟩:=J.len;obtain⟨q,hq⟩:=Zx ((ls[k]).body.length);rw[<-hq]at c8 D G;have N:=Za hq;clear C J hq;by_cases aa:0<q
   ·have O:=Za (show lK left ls[k]=gC (left-1) (ls[k]).body by rw[U.o,<-N.o,decide_eq_false (by omega)];rfl);go_wp2_with fail;refine D.o.mono ?_;rintro e w' ⟨rfl,rfl⟩;cases B:gC (left-1) (ls[k]).body with
    |true=>
     have A:=Za (O.o.trans B);clear B;go_wp2;go_roundw
     case rel=>exact⟨k+1,by omega,by go_num,Za (fun j F h=>by
      by_cases e:j=k
      ·subst e;exact A.o
      ·exact R.o j F (by omega)),(by first|exact Za trivial|exact Za rfl)⟩
     case measure=>simp[intOf];omega
    |false=>
     have A:=Za (L.o.trans (T4 left ls k I (O.o.trans B)));clear B;go_wp2;go_ret;exact⟨aG A.o.symm,rfl⟩
   ·obtain rfl:q=0:=by omega
    have A:=Za (show lK left ls[k]=true by rw[U.o,<-N.o,decide_eq_true rfl];rfl);go_wp2;go_roundw
    case rel=>exact⟨k+1,by omega,by go_num,Za (fun j F h=>by
      by_cases e:j=k
      ·subst e;exact A.o
      ·exact R.o j F (by omega)),(by first|exact Za trivial|exact Za rfl)⟩
    case measure=>simp[intOf];omega
  ·obtain rfl:k=ls.length:=by omega
   have HY:=Za (L.o.trans (LT left ls fun j F=>R.o j F F));go_wp2;go_ret;exact⟨aG HY.o.symm,rfl⟩
theorem JR:∀l:aB,tC l.body:=aB.ind fun n body h=>CL body h
theorem JT (ls:List aB):tC ls:=CL ls fun l _=>JR l
