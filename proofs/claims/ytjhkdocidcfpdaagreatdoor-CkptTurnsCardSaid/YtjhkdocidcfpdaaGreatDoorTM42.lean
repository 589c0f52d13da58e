/-
  A part of the proof of a law (packed by program).
-/
import Derived.Test.YtjhkdocidcfpdaaGreatDoorTM38
import Derived.Test.YtjhkdocidcfpdaaGreatDoorTM41
set_option linter.unusedVariables false
set_option linter.unusedSimpArgs false
set_option maxRecDepth 100000
set_option maxHeartbeats 16000000
namespace Go.Proofs.YtjhkdocidcfpdaaGreatDoor
open Go.RowKit Go.Shelf Go
structure aW (R n:Nat) (a b:World):Prop where
 size:a.heap.size≤b.heap.size
 block:∀k,k<a.heap.size→k≠R→k≠n→b.heap[k]?=a.heap[k]?
theorem aW.refl (R n:Nat) (a:World):aW R n a a:=⟨Zb _,fun _ _ _ _=>rfl⟩
theorem aW.trans {R n:Nat} {a b c:World} (h:aW R n a b) (k:aW R n b c):aW R n a c:=⟨Nat.le_trans h.size k.size,fun i hi h1 h2=>(k.block i (Nat.lt_of_lt_of_le hi h.size) h1 h2).trans (h.block i hi h1 h2)⟩
theorem aW.of_moved {R n:Nat} {a b:World} (h:aZ a b R):aW R n a b:=⟨h.size,fun k hk hR _=>gG h hk hR⟩
theorem aW.of_below {R n:Nat} {a b:World} (h:Below a.heap.size a b):aW R n a b:=⟨h.size,fun k hk _ _=>h.block k hk⟩
theorem aW.set (R n:Nat) (a:World) (j:Nat) (v:Value):aW R n a (a.setCell ⟨n,j,none⟩ v):=⟨by simp[World.setCell],fun k _ _ hn=>Below.heap_setCell _ _ _ _ (fun e=>hn (by simpa using e))⟩
theorem aI.keep {R n B:Nat} {a b:World} {P:World→Prop} (h:aI (aL B a) a P) (hk:aW R n a b) (hR:R<B) (hn:n<B):aI (aL B b) b P:=
 (h.step fun k h1=>hk.block k h1.2 (by have:=h1.1;omega) (by have:=h1.1;omega)).mono fun k h1=>⟨h1.1,Nat.lt_of_lt_of_le h1.2 hk.size⟩
structure bK (w0:World) (R:Nat) (rem:List Int) (cs:Array Value) (W:World):Prop where
 q:cR w0 W R rem
 box:aA W w0.heap.size 47 cs
theorem bK.ne {w0 W:World} {R:Nat} {rem:List Int} {cs:Array Value} (h:bK w0 R rem cs W):w0.heap.size≠R:=Nat.ne_of_gt h.q.lt
theorem bK.next {w0 W W':World} {R:Nat} {rem:List Int} {cs:Array Value} (h:bK w0 R rem cs W) (hb:Below W.heap.size W W'):bK w0 R rem cs W':=⟨h.q.low (hb.mono (h.q.moved.size)) (Zb _),h.box.next hb⟩
theorem bK.reader {w0 W W':World} {R:Nat} {rem rest:List Int} {cs:Array Value} (h:bK w0 R rem cs W) (hq:cR w0 W' R rest) (hm:aZ W W' R):bK w0 R rest cs W':=⟨hq,(gG hm h.box.lt h.ne).trans h.box⟩
theorem bK.set {w0 W:World} {R:Nat} {rem:List Int} {cs:Array Value} (h:bK w0 R rem cs W) (j:Nat) (v:Value):bK w0 R rem (cs.setIfInBounds j v) (W.setCell ⟨w0.heap.size,j,none⟩ v):=
 ⟨h.q.low (B:=w0.heap.size) ((Zc _ _).setCell (p:=⟨w0.heap.size,j,none⟩) (Zb _) v) (Zb _),h.box.set j v⟩
theorem lN {w0 W:World} {R n:Nat} {rem rest:List Int} {cs:Array Value} {x:Nat} (h:bK w0 R rem cs W) (hn8:n≤8) (hp:bJ n rem=some (x,rest)):
  Calls Tryz.prog 25 #[.pointer (some ⟨R,0,none⟩),.int .i64 n] W fun e w'=>e=.returned (.int .u64 (x:Nat))∧bK w0 R rest cs w'∧aW R w0.heap.size W w':=
 (vM h.q hn8 hp).mono fun e w' ⟨he,hq,hm⟩=>⟨he,h.reader hq hm,aW.of_moved hm⟩
theorem mO {w0 W:World} {R most:Nat} {rem rest:List Int} {cs:Array Value} {x:Nat} (h:bK w0 R rem cs W) (hm:most≤4294967296) (hp:cC most rem=some (x,rest)):
  Calls Tryz.prog 76 #[.pointer (some ⟨R,0,none⟩),.int .i64 most] W fun e w'=>e=.returned (.int .i64 (x:Nat))∧bK w0 R rest cs w'∧aW R w0.heap.size W w':=
 (MQ h.q hm hp).mono fun e w' ⟨he,hq,hm⟩=>⟨he,h.reader hq hm,aW.of_moved hm⟩
theorem mU {w0 W:World} {R:Nat} {rem rest:List Int} {cs:Array Value} {x:Int} (h:bK w0 R rem cs W) (hp:bP 1 rem=some ([x],rest)):
  Calls Tryz.prog 78 #[.pointer (some ⟨R,0,none⟩),.int .i64 1] W fun e w'=>∃g c,e=.returned (.slice (some ⟨g,0,none⟩) 1 c)∧w'.cell? ⟨g,0,none⟩=some (.int .i64 x)∧W.heap.size≤g∧bK w0 R rest cs w'∧aW R w0.heap.size W w':=
 (yJ (n:=1) (m:=1) rfl h.q (by omega) hp).mono fun e w' ⟨⟨v,he,ho⟩,hq,hm⟩=>by
  obtain⟨g,c,rfl,hg,_⟩:=ho.at (by simp);exact⟨g,c,he,(aH.cell ho 0 (by simp)).1,hg,h.reader hq hm,aW.of_moved hm⟩
theorem CJ {w0 W:World} {R n:Nat} {rem:List Int} {cs:Array Value} (h:bK w0 R rem cs W) (hn:n≤rem.length):
  Calls Tryz.prog 73 #[.pointer (some ⟨R,0,none⟩),.int .i64 n] W fun e w'=>∃v,e=.returned v∧Rd w' .u8 v (rem.take n)∧bK w0 R (rem.drop n) cs w'∧aW R w0.heap.size W w':=
 (EG R n rem W h.q.at_ hn (by have:=h.q.len;omega)).mono fun e w' ⟨v,he,hr,hq,hm⟩=>⟨v,he,hr,h.reader ⟨hq,tG h.q.wf n,by have:=h.q.len;rw[List.length_drop];omega,h.q.moved.trans hm,h.q.lt⟩ hm,aW.of_moved hm⟩
theorem zH {w:World} {v:Value} {xs:List Int} (h:Rd w .u8 v xs) (h0:0<xs.length):sO v:=by obtain⟨o,cap,rfl,hc⟩:=h;obtain⟨b,off,rfl,_⟩:=hc 0 h0;exact .inr ⟨b,off,_,_,rfl⟩
theorem JL {v:Value} {xs:List Int} {w:World} {d:bE} (hr:Rd w .u8 v xs) (hw:Wf .u8 xs) (hp:sO v) (hl:xs.length≤8192) (hd:gN (gQ xs)=some d):
  Calls Tryz.prog 75 #[v] w fun e w'=>∃oi ci ol cl,e=.returned (.tuple #[.agg #[.slice oi d.input.length ci,.slice ol d.lays.length cl,.int .i64 d.loss],.int .i64 0,.int .i64 0])∧d.input.length≤ci∧aI (aL w.heap.size w') w' (fun W=>eJ W (.slice oi d.input.length ci) (.slice ol d.lays.length cl) d)∧Below w.heap.size w w':=
 (KQ v xs w hr hw hp hl).mono fun e w' ⟨hb,ho⟩=>by
  rw[hd]at ho;obtain⟨vi,vl,he,hc,hh⟩:=ho;obtain⟨oi,ci,rfl⟩:=aU hh.here.input;obtain⟨ol,cl,rfl⟩:=hh.here.lays.len;exact⟨oi,ci,ol,cl,he,hc _ _ _ rfl,hh,hb⟩
theorem J5 {oi:Option Addr} {ci:Nat} {ol:Option Addr} {cl:Nat} {d:bE} {w:World} {ss:List (List Int)} (h:eJ w (.slice oi d.input.length ci) (.slice ol d.lays.length cl) d) (hci:d.input.length≤ci) (hs:dN d=some ss):
  Calls Tryz.prog 77 #[.agg #[.slice oi d.input.length ci,.slice ol d.lays.length cl,.int .i64 d.loss]] w fun e w'=>∃os cs,e=.returned (.tuple #[.slice os ss.length cs,.bool true])∧ss.length≤1000∧fU w' (.slice os ss.length cs) ss∧(∀g,(Value.slice os ss.length cs).ownBlock=some g→w.heap.size≤g)∧Below w.heap.size w w':=
 (yT oi ci ol cl d w h hci).mono fun e w' ⟨hb,ho⟩=>by
  rcases ho with⟨hn,_⟩|⟨v,ss',h1,h2,h3,h4,h5⟩
  ·rw[hs]at hn;cases hn
  ·rw[hs]at h1;cases h1;have h4':=h4;obtain⟨o,c,rfl,_⟩:=h4';exact⟨o,c,h3,h2,h4,h5,hb⟩
theorem wF {w6 W:World} {R n:Nat} {rem6:List Int} {cs cs6:Array Value} {v:Value} {ss:List (List Int)} (h6:mL R w6 v ss) (hb6:aA w6 n 47 cs6) (hr6:cP w6 R rem6) (hz:∀(j:Nat) (x:Int),cs6[j]?=some (.int .i64 x)→j≠0→x=0) (hpos:∀s∈ss,∀x∈s,x≠0) (hn:v.ownBlock≠some n) (hk:aW R n w6 W) (hb:aA W n 47 cs) (h0:cs[0]?=cs6[0]?):mL R W v ss:=by
 refine⟨?_,h6.own⟩;have hown:=h6.own;obtain⟨o,cap,rfl,hc⟩:=h6.rd;refine⟨o,cap,rfl,fun k hk'=>?_⟩;obtain⟨b,off,u,rfl,hcell,hrd⟩:=hc k hk';refine⟨b,off,u,rfl,(World.cell?_of_block (w:=w6) (a:=⟨b,off+k,none⟩) (hk.block b (aP hcell) (fun e=>hown (by subst e;rfl)) (fun e=>hn (by subst e;rfl)))).trans hcell,?_⟩;obtain⟨ro,rn,rc,hrb⟩:=hr6.rbox;obtain⟨o',cap',rfl,hcc⟩:=hrd;refine⟨o',cap',rfl,fun j hj=>?_⟩;obtain⟨b',off',rfl,hc'⟩:=hcc j hj;refine⟨b',off',rfl,?_⟩;by_cases e:b'=R
 ·exfalso;subst e;rw[cell_of_row w6 b' (off'+j) _ _ _ hrb]at hc';rcases Nat.eq_zero_or_pos (off'+j)with h0|h0
  ·rw[h0]at hc';simp at hc'
  ·rw[Array.getElem?_eq_none (by simp;omega)]at hc';cases hc'
 ·by_cases e2:b'=n
  ·subst e2;rw[cell_of_row w6 b' (off'+j) _ _ _ hb6]at hc';have hx:=hpos _ (List.getElem_mem hk') _ (mI _ j hj);have hj0:off'+j=0:=Decidable.byContradiction fun h=>hx (hz _ _ hc' h);rw[cell_of_row W b' (off'+j) _ _ _ hb,hj0,h0,←hj0];exact hc'
  ·exact(World.cell?_of_block (w:=w6) (a:=⟨b',off'+j,none⟩) (hk.block b' (aP hc') e e2)).trans hc'
theorem vL {w0 W:World} {R:Nat} {vl:Value} {ss:List (List Int)} {rem rest:List Int} {ts:List aO} {cs:Array Value} (h:bK w0 R rem cs W) (hs:mL R W vl ss) (hok:∀s∈ss,bA s=true) (hl:ss.length≤1000) (hp:dB ss rem=some (ts,rest)):
  Calls Tryz.prog 79 #[.pointer (some ⟨R,0,none⟩),vl] W fun e w'=>∃o c,e=.returned (.slice o ts.length c)∧aI (aL (w0.heap.size+1) w') w' (fun W=>aY W (.slice o ts.length c) ts)∧bK w0 R rest cs w'∧aW R w0.heap.size W w':=
 (QT R vl ss rem rest ts W ⟨h.q.at_,h.q.wf,h.q.len,aZ.refl _ _,by have:=h.q.lt;have:=h.q.moved.size;omega⟩ hs hok hl hp).mono fun e w' ⟨v,he,hh,hq⟩=>by
  obtain⟨o,c,rfl⟩:=hh.here.slice;exact⟨o,c,he,hh.base (by have:=h.box.lt;omega),h.reader ⟨hq.at_,hq.wf,hq.len,h.q.moved.trans hq.moved,h.q.lt⟩ hq.moved,aW.of_moved hq.moved⟩
theorem FI {n:Nat} {rem rest xs:List Int} (h:bP (n+1) rem=some (xs,rest)):∃x r ys,bP 1 rem=some ([x],r)∧bP n r=some (ys,rest)∧xs=x::ys:=by rw[mG,Option.bind_eq_some_iff]at h;obtain⟨p,h1,h⟩:=h;rw[Option.bind_eq_some_iff]at h;obtain⟨u,h2,h⟩:=h;rw[Option.map_eq_some_iff]at h;obtain⟨q,h3,h4⟩:=h;cases h4;exact⟨u,p.2,q.1,by rw[mG,h1,Option.bind_some,h2,Option.bind_some,pK];rfl,h3,rfl⟩
theorem mW {rem rest xs:List Int} (h:bP 1 rem=some (xs,rest)):∃x,xs=[x]:=by obtain⟨x,r,ys,h1,h2,h3⟩:=FI h;rw[pK]at h2;cases h2;exact⟨x,h3⟩
theorem lP {n:Nat} {rem a r:List Int} (h:jW n rem=some (a,r)):n≤rem.length∧a=rem.take n∧r=rem.drop n:=by
 rw[jW]at h;split at h
 ·cases h;exact⟨by assumption,rfl,rfl⟩
 ·cases h
theorem zB {rem r:List Int} {x:Nat} (h:bJ 1 rem=some (x,r)) (hw:Wf .u8 rem:=by assumption):x<256:=by
 have:=(AY h (by omega) hw).2.1
 simpa using this
theorem IA {rem rest:List Int} {s:aX} (h:mS rem=some (s,rest)):∃(r1 r2 r3 r4 r5 r6 r7 r8 r9 r10 r11 r12 r13 r14 r15 r16 r17 r18 r19 r20 r21 r22 r23 r24 r25 r26 r27 r28:List Int) (f nt:Nat) (tx:List Int) (d:bE) (ss:List (List Int)) (kd sc:Nat) (y1 y2 y3 y4 y5 y6:Int) (ev:Nat) (ps:List aO) (pm pn:Int) (sp:Nat) (mm mv:List aO) (ns:Nat) (sr:List Int) (a0 a1 a2 a3 no:Nat) (od:List Int) (at_ ep:Nat),
  jW 4 rem=some ([82,67,75,80],r1)∧True∧bJ 1 r1=some (1,r2)∧bJ 1 r2=some (f,r3)∧dU f=true∧cC 8192 r3=some (nt,r4)∧jW nt r4=some (tx,r5)∧gN (gQ tx)=some d∧dN d=some ss∧
  bJ 1 r5=some (kd,r6)∧bJ 1 r6=some (sc,r7)∧bP 1 r7=some ([y1],r8)∧bP 1 r8=some ([y2],r9)∧bP 1 r9=some ([y3],r10)∧bP 1 r10=some ([y4],r11)∧bP 1 r11=some ([y5],r12)∧bP 1 r12=some ([y6],r13)∧cC 1048576 r13=some (ev,r14)∧
  dB ss r14=some (ps,r15)∧bP 1 r15=some ([pm],r16)∧bP 1 r16=some ([pn],r17)∧cC 1048576 r17=some (sp,r18)∧
  ((((kd:Int)=2∨(kd:Int)=3)∧dB ss r18=some (mm,r19))∨(¬((kd:Int)=2∨(kd:Int)=3)∧mm=[]∧r19=r18))∧(((kd:Int)=3∧dB ss r19=some (mv,r20))∨(¬(kd:Int)=3∧mv=[]∧r20=r19))∧
  cC 4096 r20=some (ns,r21)∧fL ns r21=some (sr,r22)∧bJ 8 r22=some (a0,r23)∧bJ 8 r23=some (a1,r24)∧bJ 8 r24=some (a2,r25)∧bJ 8 r25=some (a3,r26)∧cC 1024 r26=some (no,r27)∧fN no r27=some (od,r28)∧
  (∃r29,cC 1024 r28=some (at_,r29)∧cC 1048576 r29=some (ep,rest))∧True∧
  s=⟨f,d,⟨kd,y1,y2,y3,y4,y5,y6,sc,ev⟩,ps,⟨mm,mv,pm,pn,sp⟩,⟨sr,a0,a1,a2,a3⟩,⟨od,at_,ep⟩⟩:=by
 rw[mS,Option.bind_eq_some_iff]at h;obtain⟨⟨mg,r1⟩,h1,h⟩:=h;dsimp only at h;by_cases hm0:mg=[82,67,75,80];rotate_left
 ·rw[if_neg hm0]at h;cases h
 subst hm0;rw[if_pos rfl,Option.bind_eq_some_iff]at h;obtain⟨⟨v1,r2⟩,h2,h⟩:=h;dsimp only at h;by_cases hv:v1=1;rotate_left
 ·rw[if_neg hv]at h;cases h
 subst hv;rw[if_pos rfl,Option.bind_eq_some_iff]at h;obtain⟨⟨f,r3⟩,h3,h⟩:=h;dsimp only at h;by_cases hg:dU f=true;rotate_left
 ·rw[if_neg hg]at h;cases h
 rw[if_pos hg,st1,Option.bind_eq_some_iff]at h;obtain⟨⟨nt,r4⟩,h4,h⟩:=h;dsimp only at h;rw[Option.bind_eq_some_iff]at h;obtain⟨⟨tx,r5⟩,h5,h⟩:=h;dsimp only at h;rw[Option.bind_eq_some_iff]at h;obtain⟨d,hd,h⟩:=h;rw[Option.bind_eq_some_iff]at h;obtain⟨ss,hss,h⟩:=h;rw[st2,Option.bind_eq_some_iff]at h;obtain⟨⟨kd,r6⟩,h6,h⟩:=h;dsimp only at h;rw[Option.bind_eq_some_iff]at h;obtain⟨⟨sc,r7⟩,h7,h⟩:=h;dsimp only at h;rw[st3,Option.bind_eq_some_iff]at h;obtain⟨⟨l1,r8⟩,hy1,h⟩:=h;dsimp only at h;rw[Option.bind_eq_some_iff]at h;obtain⟨⟨l2,r9⟩,hy2,h⟩:=h;dsimp only at h;rw[Option.bind_eq_some_iff]at h;obtain⟨⟨l3,r10⟩,hy3,h⟩:=h;dsimp only at h;rw[Option.bind_eq_some_iff]at h;obtain⟨⟨l4,r11⟩,hy4,h⟩:=h;dsimp only at h;rw[Option.bind_eq_some_iff]at h;obtain⟨⟨l5,r12⟩,hy5,h⟩:=h;dsimp only at h;rw[Option.bind_eq_some_iff]at h;obtain⟨⟨l6,r13⟩,hy6,h⟩:=h;dsimp only at h;rw[Option.bind_eq_some_iff]at h;obtain⟨⟨ev,r14⟩,hev,h⟩:=h;dsimp only at h;obtain⟨y1,rfl⟩:=mW hy1;obtain⟨y2,rfl⟩:=mW hy2;obtain⟨y3,rfl⟩:=mW hy3;obtain⟨y4,rfl⟩:=mW hy4;obtain⟨y5,rfl⟩:=mW hy5;obtain⟨y6,rfl⟩:=mW hy6;rw[st4,Option.bind_eq_some_iff]at h;obtain⟨⟨ps,r15⟩,hps,h⟩:=h;dsimp only at h;rw[Option.bind_eq_some_iff]at h;obtain⟨⟨l7,r16⟩,hpm,h⟩:=h;dsimp only at h;rw[Option.bind_eq_some_iff]at h;obtain⟨⟨l8,r17⟩,hpn,h⟩:=h;dsimp only at h;rw[Option.bind_eq_some_iff]at h;obtain⟨⟨sp,r18⟩,hsp,h⟩:=h;dsimp only at h;obtain⟨pm,rfl⟩:=mW hpm;obtain⟨pn,rfl⟩:=mW hpn;have fin:∀(t:aX) (r20:List Int),st7 t r20=some (s,rest)→∃(r21 r22 r23 r24 r25 r26 r27 r28:List Int) (ns:Nat) (sr:List Int) (a0 a1 a2 a3 no:Nat) (od:List Int) (at_ ep:Nat),
   cC 4096 r20=some (ns,r21)∧fL ns r21=some (sr,r22)∧bJ 8 r22=some (a0,r23)∧bJ 8 r23=some (a1,r24)∧bJ 8 r24=some (a2,r25)∧bJ 8 r25=some (a3,r26)∧cC 1024 r26=some (no,r27)∧fN no r27=some (od,r28)∧
   (∃r29,cC 1024 r28=some (at_,r29)∧cC 1048576 r29=some (ep,rest))∧s={t with r:=⟨sr,a0,a1,a2,a3⟩,c:=⟨od,at_,ep⟩}:=by intro t r20 h;rw[st7,Option.bind_eq_some_iff]at h;obtain⟨⟨ns,r21⟩,hns,h⟩:=h;dsimp only at h;rw[Option.bind_eq_some_iff]at h;obtain⟨⟨sr,r22⟩,hsr,h⟩:=h;dsimp only at h;rw[st8,Option.bind_eq_some_iff]at h;obtain⟨⟨a0,r23⟩,ha0,h⟩:=h;dsimp only at h;rw[Option.bind_eq_some_iff]at h;obtain⟨⟨a1,r24⟩,ha1,h⟩:=h;dsimp only at h;rw[Option.bind_eq_some_iff]at h;obtain⟨⟨a2,r25⟩,ha2,h⟩:=h;dsimp only at h;rw[Option.bind_eq_some_iff]at h;obtain⟨⟨a3,r26⟩,ha3,h⟩:=h;dsimp only at h;rw[st9,Option.bind_eq_some_iff]at h;obtain⟨⟨no,r27⟩,hno,h⟩:=h;dsimp only at h;rw[Option.bind_eq_some_iff]at h;obtain⟨⟨od,r28⟩,hod,h⟩:=h;dsimp only at h;rw[sE,Option.bind_eq_some_iff]at h;obtain⟨⟨at_,r29⟩,hat,h⟩:=h;dsimp only at h;rw[Option.map_eq_some_iff]at h;obtain⟨⟨ep,r30⟩,hep,h⟩:=h;simp only[Prod.mk.injEq]at h;obtain⟨hx,hy⟩:=h;subst hy;exact⟨r21,r22,r23,r24,r25,r26,r27,r28,ns,sr,a0,a1,a2,a3,no,od,at_,ep,hns,hsr,ha0,ha1,ha2,ha3,hno,hod,⟨r29,hat,hep⟩,hx.symm⟩
 rw[st5]at h;dsimp only at h;by_cases hk:(kd:Int)=2∨(kd:Int)=3
 ·rw[if_pos hk,Option.bind_eq_some_iff]at h;obtain⟨⟨mm,r19⟩,hmm,h⟩:=h;dsimp only at h;rw[st6]at h;dsimp only at h;by_cases hk3:(kd:Int)=3
  ·rw[if_pos hk3,Option.bind_eq_some_iff]at h;obtain⟨⟨mv,r20⟩,hmv,h⟩:=h;dsimp only at h;obtain⟨r21,r22,r23,r24,r25,r26,r27,r28,ns,sr,a0,a1,a2,a3,no,od,at_,ep,hns,hsr,ha0,ha1,ha2,ha3,hno,hod,hae,he⟩:=fin _ _ h;exact⟨r1,r2,r3,r4,r5,r6,r7,r8,r9,r10,r11,r12,r13,r14,r15,r16,r17,r18,r19,r20,r21,r22,r23,r24,r25,r26,r27,r28,f,nt,tx,d,ss,kd,sc,y1,y2,y3,y4,y5,y6,ev,ps,pm,pn,sp,mm,mv,ns,sr,a0,a1,a2,a3,no,od,at_,ep,h1,trivial,h2,h3,hg,h4,h5,hd,hss,h6,h7,hy1,hy2,hy3,hy4,hy5,hy6,hev,hps,hpm,hpn,hsp,.inl ⟨hk,hmm⟩,.inl ⟨hk3,hmv⟩,hns,hsr,ha0,ha1,ha2,ha3,hno,hod,hae,trivial,he⟩
  ·rw[if_neg hk3]at h;obtain⟨r21,r22,r23,r24,r25,r26,r27,r28,ns,sr,a0,a1,a2,a3,no,od,at_,ep,hns,hsr,ha0,ha1,ha2,ha3,hno,hod,hae,he⟩:=fin _ _ h;exact⟨r1,r2,r3,r4,r5,r6,r7,r8,r9,r10,r11,r12,r13,r14,r15,r16,r17,r18,r19,r19,r21,r22,r23,r24,r25,r26,r27,r28,f,nt,tx,d,ss,kd,sc,y1,y2,y3,y4,y5,y6,ev,ps,pm,pn,sp,mm,[],ns,sr,a0,a1,a2,a3,no,od,at_,ep,h1,trivial,h2,h3,hg,h4,h5,hd,hss,h6,h7,hy1,hy2,hy3,hy4,hy5,hy6,hev,hps,hpm,hpn,hsp,.inl ⟨hk,hmm⟩,.inr ⟨hk3,rfl,rfl⟩,hns,hsr,ha0,ha1,ha2,ha3,hno,hod,hae,trivial,he⟩
 ·rw[if_neg hk,st6]at h;dsimp only at h;rw[if_neg (fun e=>hk (.inr e))]at h;obtain⟨r21,r22,r23,r24,r25,r26,r27,r28,ns,sr,a0,a1,a2,a3,no,od,at_,ep,hns,hsr,ha0,ha1,ha2,ha3,hno,hod,hae,he⟩:=fin _ _ h;exact⟨r1,r2,r3,r4,r5,r6,r7,r8,r9,r10,r11,r12,r13,r14,r15,r16,r17,r18,r18,r18,r21,r22,r23,r24,r25,r26,r27,r28,f,nt,tx,d,ss,kd,sc,y1,y2,y3,y4,y5,y6,ev,ps,pm,pn,sp,[],[],ns,sr,a0,a1,a2,a3,no,od,at_,ep,h1,trivial,h2,h3,hg,h4,h5,hd,hss,h6,h7,hy1,hy2,hy3,hy4,hy5,hy6,hev,hps,hpm,hpn,hsp,.inr ⟨hk,rfl,rfl⟩,.inr ⟨fun e=>hk (.inr e),rfl,rfl⟩,hns,hsr,ha0,ha1,ha2,ha3,hno,hod,hae,trivial,he⟩
inductive B5 (rem rest:List Int):aX→Prop
 |mk (r1 r2 r3 r4 r5 r6 r7 r8 r9 r10 r11 r12 r13 r14 r15 r16 r17 r18 r19 r20 r21 r22 r23 r24 r25 r26 r27 r28:List Int) (f nt:Nat) (tx:List Int) (d:bE) (ss:List (List Int)) (kd sc:Nat) (y1 y2 y3 y4 y5 y6:Int) (ev:Nat) (ps:List aO) (pm pn:Int) (sp:Nat) (mm mv:List aO) (ns:Nat) (sr:List Int) (a0 a1 a2 a3 no:Nat) (od:List Int) (at_ ep:Nat) (h1:jW 4 rem=some ([82,67,75,80],r1)) (h2:bJ 1 r1=some (1,r2)) (h3:bJ 1 r2=some (f,r3)) (hgf:dU f=true) (h4:cC 8192 r3=some (nt,r4)) (h5:jW nt r4=some (tx,r5)) (hd:gN (gQ tx)=some d) (hss:dN d=some ss) (h6:bJ 1 r5=some (kd,r6)) (h7:bJ 1 r6=some (sc,r7)) (hy1:bP 1 r7=some ([y1],r8)) (hy2:bP 1 r8=some ([y2],r9)) (hy3:bP 1 r9=some ([y3],r10)) (hy4:bP 1 r10=some ([y4],r11)) (hy5:bP 1 r11=some ([y5],r12)) (hy6:bP 1 r12=some ([y6],r13)) (hev:cC 1048576 r13=some (ev,r14)) (hps:dB ss r14=some (ps,r15)) (hpm:bP 1 r15=some ([pm],r16)) (hpn:bP 1 r16=some ([pn],r17)) (hsp:cC 1048576 r17=some (sp,r18)) (hmm:((((kd:Int)=2∨(kd:Int)=3)∧dB ss r18=some (mm,r19))∨(¬((kd:Int)=2∨(kd:Int)=3)∧mm=[]∧r19=r18))) (hmv:(((kd:Int)=3∧dB ss r19=some (mv,r20))∨(¬(kd:Int)=3∧mv=[]∧r20=r19))) (hns:cC 4096 r20=some (ns,r21)) (hsr:fL ns r21=some (sr,r22)) (ha0:bJ 8 r22=some (a0,r23)) (ha1:bJ 8 r23=some (a1,r24)) (ha2:bJ 8 r24=some (a2,r25)) (ha3:bJ 8 r25=some (a3,r26)) (hno:cC 1024 r26=some (no,r27)) (hod:fN no r27=some (od,r28)) (r29:List Int) (hat:cC 1024 r28=some (at_,r29)) (hep:cC 1048576 r29=some (ep,rest)):B5 rem rest ⟨f,d,⟨kd,y1,y2,y3,y4,y5,y6,sc,ev⟩,ps,⟨mm,mv,pm,pn,sp⟩,⟨sr,a0,a1,a2,a3⟩,⟨od,at_,ep⟩⟩
theorem EP {rem rest:List Int} {s:aX} (h:mS rem=some (s,rest)):B5 rem rest s:=by obtain⟨r1,r2,r3,r4,r5,r6,r7,r8,r9,r10,r11,r12,r13,r14,r15,r16,r17,r18,r19,r20,r21,r22,r23,r24,r25,r26,r27,r28,f,nt,tx,d,ss,kd,sc,y1,y2,y3,y4,y5,y6,ev,ps,pm,pn,sp,mm,mv,ns,sr,a0,a1,a2,a3,no,od,at_,ep,h1,t1,h2,h3,hgf,h4,h5,hd,hss,h6,h7,hy1,hy2,hy3,hy4,hy5,hy6,hev,hps,hpm,hpn,hsp,hmm,hmv,hns,hsr,ha0,ha1,ha2,ha3,hno,hod,⟨r29,hat,hep⟩,t2,rfl⟩:=IA h;exact .mk r1 r2 r3 r4 r5 r6 r7 r8 r9 r10 r11 r12 r13 r14 r15 r16 r17 r18 r19 r20 r21 r22 r23 r24 r25 r26 r27 r28 f nt tx d ss kd sc y1 y2 y3 y4 y5 y6 ev ps pm pn sp mm mv ns sr a0 a1 a2 a3 no od at_ ep h1 h2 h3 hgf h4 h5 hd hss h6 h7 hy1 hy2 hy3 hy4 hy5 hy6 hev hps hpm hpn hsp hmm hmv hns hsr ha0 ha1 ha2 ha3 hno hod r29 hat hep
end Go.Proofs.YtjhkdocidcfpdaaGreatDoor
