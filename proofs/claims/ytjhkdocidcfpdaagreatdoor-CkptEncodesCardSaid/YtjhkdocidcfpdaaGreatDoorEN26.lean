/- A part of the proof. -/
import Derived.Lib.AppendZerosOnto
import Derived.Test.YtjhkdocidcfpdaaGreatDoorEN22
import Derived.Test.YtjhkdocidcfpdaaGreatDoorEN23
import Derived.Test.YtjhkdocidcfpdaaGreatDoorEN25
set_option linter.unusedVariables false
set_option linter.unusedSimpArgs false
set_option maxRecDepth 100000
set_option maxHeartbeats 16000000
open List renaming length_append → Zl
namespace Go.Proofs.YtjhkdocidcfpdaaGreatDoor
open Go.RowKit Go.Shelf Go
def iD (l:List UInt8):List Int:=l.map fun c=>(c.toNat:Int)
def gR (l:List Int):List UInt8:=l.map fun x=>UInt8.ofNat x.toNat
theorem OZ (l:List UInt8):gR (iD l)=l:=by
 rw[gR,iD,List.map_map]
 conv=>rhs;rw[<-List.map_id l]
 apply List.map_congr_left;intro c _;simp
theorem qF (l:List UInt8):(iD l).length=l.length:=by simp[iD]
theorem KF (l:List UInt8):Wf .u8 (iD l):=by intro x hx;obtain⟨c,_,rfl⟩:=List.mem_map.1 hx;have:=c.toNat_lt;exact DJ (by omega) (by omega)
def jZ (n:Nat) (rem:List Int):Option (List Int×List Int):=if n<=rem.length then some (rem.take n,rem.drop n) else none
def dH:List (List Int)->List Int->Option (List aO×List Int)
 |[],rem=>some ([],rem)
 |sh::r,rem=>(bT (bG sh).toNat rem).bind fun p=>(dH r p.2).map fun q=>(⟨sh,p.1⟩::q.1,q.2)
def fS:Nat->List Int->Option (List Int×List Int)
 |0,rem=>some ([],rem)
 |n+1,rem=>(bL 8 rem).bind fun p=>(fS n p.2).map fun q=>((p.1:Int)::q.1,q.2)
def fW:Nat->List Int->Option (List Int×List Int)
 |0,rem=>some ([],rem)
 |n+1,rem=>(cH 1024 rem).bind fun p=>(fW n p.2).map fun q=>((p.1:Int)::q.1,q.2)
def dT (d:bI):Option (List (List Int)):=(eN d).map (·.2)
def uC (s:aT) (rem:List Int):Option (aT×List Int):=(cH 1024 rem).bind fun p=>(cH 1048576 p.2).map fun q=>({s with c:={s.c with at_:=p.1,epoch:=q.1}},q.2)
def st9 (s:aT) (rem:List Int):Option (aT×List Int):=(cH 1024 rem).bind fun p=>(fW p.1 p.2).bind fun q=>uC {s with c:={s.c with order:=q.1}} q.2
def st8 (s:aT) (rem:List Int):Option (aT×List Int):=(bL 8 rem).bind fun a=>(bL 8 a.2).bind fun b=>(bL 8 b.2).bind fun c=>(bL 8 c.2).bind fun d=>st9 {s with r:={s.r with s0:=a.1,s1:=b.1,s2:=c.1,s3:=d.1}} d.2
def st7 (s:aT) (rem:List Int):Option (aT×List Int):=(cH 4096 rem).bind fun p=>(fS p.1 p.2).bind fun q=>st8 {s with r:={s.r with script:=q.1}} q.2
def st6 (l:List (List Int)) (s:aT) (rem:List Int):Option (aT×List Int):=if s.h.kind=3 then(dH l rem).bind fun p=>st7 {s with m:={s.m with v:=p.1}} p.2 else st7 s rem
def st5 (l:List (List Int)) (s:aT) (rem:List Int):Option (aT×List Int):=if s.h.kind=2\/s.h.kind=3 then(dH l rem).bind fun p=>st6 l {s with m:={s.m with m:=p.1}} p.2 else st6 l s rem
def jQ (l:List (List Int)) (s:aT) (rem:List Int):Option (aT×List Int):=(dH l rem).bind fun p=>(bT 1 p.2).bind fun a=>(bT 1 a.2).bind fun b=>(cH 1048576 b.2).bind fun c=>
 st5 l {s with ps:=p.1,m:={s.m with powMu:=aF a.1 0,powNu:=aF b.1 0,steps:=c.1}} c.2
def st3 (l:List (List Int)) (s:aT) (rem:List Int):Option (aT×List Int):=(bT 1 rem).bind fun a=>(bT 1 a.2).bind fun b=>(bT 1 b.2).bind fun c=>(bT 1 c.2).bind fun d=>(bT 1 d.2).bind fun e=>(bT 1 e.2).bind fun g=>(cH 1048576 g.2).bind fun n=>
 jQ l {s with h:={s.h with rate:=aF a.1 0,mu:=aF b.1 0,nu:=aF c.1 0,eps:=aF d.1 0,decay:=aF e.1 0,clip:=aF g.1 0,every:=n.1}} n.2
def st2 (l:List (List Int)) (s:aT) (rem:List Int):Option (aT×List Int):=(bL 1 rem).bind fun a=>(bL 1 a.2).bind fun b=>st3 l {s with h:={s.h with kind:=a.1,sched:=b.1}} b.2
def AG (f:Int) (d:bI):aT:=⟨f,d,⟨0,0,0,0,0,0,0,0,0⟩,[],⟨[],[],0,0,0⟩,⟨[],0,0,0,0⟩,⟨[],0,0⟩⟩
def st1 (f:Int) (rem:List Int):Option (aT×List Int):=(cH 8192 rem).bind fun p=>(jZ p.1 p.2).bind fun q=>(gX (gR q.1)).bind fun d=>(dT d).bind fun l=>st2 l (AG f d) q.2
def m8 (rem:List Int):Option (aT×List Int):=(jZ 4 rem).bind fun p=>if p.1=[82,67,75,80] then(bL 1 p.2).bind fun v=>if v.1=1 then(bL 1 v.2).bind fun f=>if eE f.1 then st1 f.1 f.2 else none else none else none
def nU (has:Bool) (a b:List aO):Bool:=has&&decide (bK a=bK b) || !has&&decide (a.length=0)
def dZ (h:hH) (m:lV) (ps:List aO) (f:Int):Bool:=
 decide (0<=m.steps)&&(decide (m.steps<=1048576)&&(m.m.all cK&&(m.v.all cK&&(decide (0<=m.powMu)&&(decide (m.powMu<=2^f.toNat)&&(decide (0<=m.powNu)&&(decide (m.powNu<=2^f.toNat)&&
 ((decide (h.kind=3) || (decide (m.powMu=2^f.toNat)&&decide (m.powNu=2^f.toNat)))&&(m.v.all (fun t=>t.da.all fun x=>decide (0<=x))&&(nU (decide (h.kind≠1)) m.m ps&&nU (decide (h.kind=3)) m.v ps))))))))))
def cX (s:aT):Bool:=match dT s.d with
 |none=>false
 |some l=>eE s.f&&(eT s.h s.f&&(s.ps.all cK&&(decide (bK s.ps=l)&&(dZ s.h s.m s.ps s.f&&(gQ s.r.script.length s.r.s0 s.r.s1 s.r.s2 s.r.s3&&dX s.c.order s.c.at_ s.c.epoch s.c.order.length)))))
def bQ (l:List aO):List Int:=l.flatMap fun t=>eG t.da
def kW (s:aT):List Int:=aQ s.c.order.length 4++(jU s.c.order++(aQ (aW s.c.at_) 4++aQ (aW s.c.epoch) 4))
def lC (s:aT):List Int:=aQ s.r.script.length 4++(eG s.r.script++(aQ (aW s.r.s0) 8++(aQ (aW s.r.s1) 8++(aQ (aW s.r.s2) 8++(aQ (aW s.r.s3) 8++kW s)))))
def lS (s:aT):List Int:=bQ s.m.m++(bQ s.m.v++lC s)
def lY (s:aT):List Int:=bQ s.ps++(eG [s.m.powMu]++(eG [s.m.powNu]++(aQ (aW s.m.steps) 4++lS s)))
def mH (s:aT):List Int:=eG [s.h.rate]++(eG [s.h.mu]++(eG [s.h.nu]++(eG [s.h.eps]++(eG [s.h.decay]++(eG [s.h.clip]++(aQ (aW s.h.every) 4++lY s))))))
def kF (s:aT):List Int:=aQ (aW s.h.kind) 1++(aQ (aW s.h.sched) 1++mH s)
def mF (s:aT):List Int:=aQ (dB s.d).length 4++(iD (dB s.d)++kF s)
def gS (s:aT):List Int:=[82,67,75,80]++(aQ 1 1++(aQ (aW s.f) 1++mF s))
structure iP (s:aT):Prop where
 script:Wf .u64 s.r.script
 s0:(Lit.int .u64 s.r.s0).wf=true
 s1:(Lit.int .u64 s.r.s1).wf=true
 s2:(Lit.int .u64 s.r.s2).wf=true
 s3:(Lit.int .u64 s.r.s3).wf=true
theorem nD {x:Int} (h:(Lit.int .u64 x).wf=true):0<=x/\x<18446744073709551616:=by simp[Lit.wf,IntKind.min,IntKind.max,IntKind.signed,IntKind.bits]at h;omega
theorem NF (xs rest:List Int) (h:Wf .u64 xs):fS xs.length (eG xs++rest)=some (xs,rest):=by
 induction xs with
 |nil=>rfl
 |cons x xs ih=>
  have hb:=nD (h x (by simp));have hu:((aW x:Nat):Int)=x:=by unfold aW;omega
  rw[List.length_cons,fS,BV,List.append_assoc,nY _ _ _ (by omega) (iO x),Option.bind_some,ih (fun y hy=>h y (by simp[hy])),Option.map_some,hu]
theorem G4 (xs rest:List Int) (h:∀x∈xs,0<=x/\x<=1024):fW xs.length (jU xs++rest)=some (xs,rest):=by
 induction xs with
 |nil=>rfl
 |cons x xs ih=>
  have hb:=h x (by simp);have hu:=wW x hb.1 (by omega);rw[List.length_cons,fW,GB,List.append_assoc,cH,nY _ _ _ (by omega) (by omega),Option.bind_some,if_pos (by dsimp only;omega),Option.bind_some,ih (fun y hy=>h y (by simp[hy])),Option.map_some];simp[hu]
theorem oN (x:Int) (most:Nat) (rest:List Int) (h0:0<=x) (h1:x<=most) (hm:most<=4294967295):cH most (aQ (aW x) 4++rest)=some (x.toNat,rest):=by
 have hu:=wW x h0 (by omega);have:aW x=x.toNat:=by omega
 rw[cH,nY _ _ _ (by omega) (by omega),Option.bind_some,if_pos (by dsimp only;omega),this]
theorem nO (x:Int) (rest:List Int) (h:bU x=true):bT 1 (eG [x]++rest)=some ([x],rest):=CJ [x] rest (by simpa [iR]using h)
theorem xN (ts:List aO) (rest:List Int) (h:ts.all cK=true):dH (bK ts) (bQ ts++rest)=some (ts,rest):=by
 induction ts with
 |nil=>rfl
 |cons t ts ih=>
  rw[List.all_cons,Bool.and_eq_true]at h;have h1:=h.1;rw[cK,Bool.and_eq_true,Bool.and_eq_true,decide_eq_true_eq]at h1;have e:bQ (t::ts)=eG t.da++bQ ts:=rfl;have hw:=CJ t.da (bQ ts++rest) h1.2.2;have hl:(bG t.sh).toNat=t.da.length:=by omega
  rw[bK,List.map_cons,dH,e,List.append_assoc,hl,hw,Option.bind_some];have ih':=ih h.2;rw[bK]at ih';rw[ih',Option.map_some]
theorem vW (x:Int) (rest:List Int) (h0:0<=x) (h1:x<256):bL 1 (aQ (aW x) 1++rest)=some (x.toNat,rest):=by
 have hu:=wW x h0 (by omega);have:aW x=x.toNat:=by omega
 rw[nY _ _ _ (by omega) (by omega),this]
theorem rZ (x:Int) (rest:List Int) (h:(Lit.int .u64 x).wf=true):bL 8 (aQ (aW x) 8++rest)=some (x.toNat,rest):=by
 have hb:=nD h;have:aW x=x.toNat:=by unfold aW;omega
 rw[nY _ _ _ (by omega) (iO x),this]
theorem mY {s:aT} (h:cX s=true):dT s.d=some (bK s.ps)/\eE s.f=true/\eT s.h s.f=true/\s.ps.all cK=true/\dZ s.h s.m s.ps s.f=true/\gQ s.r.script.length s.r.s0 s.r.s1 s.r.s2 s.r.s3=true/\dX s.c.order s.c.at_ s.c.epoch s.c.order.length=true:=by
 rw[cX]at h;cases hs:dT s.d with
 |none=>rw[hs]at h;cases h
 |some l=>
  rw[hs]at h;simp only[Bool.and_eq_true,decide_eq_true_eq]at h;obtain⟨h1,h2,h3,h4,h5,h6,h7⟩:=h;exact⟨by rw[h4],h1,h2,h3,h5,h6,h7⟩
theorem oS {d:bI} {l:List (List Int)} (h:dT d=some l):dM d=true:=by
 rw[dT,eN]at h;cases hg:(dM d&&dQ d.input)with
 |false=>rw[hg]at h;cases h
 |true=>exact(Bool.and_eq_true _ _▸hg).1
theorem FL (f:Int) (h:f<=32):(2:Int)^f.toNat<=2^32:=by
 have h1:2^f.toNat<=2^32:=Nat.pow_le_pow_right (by omega) (by omega);have h2:((2^f.toNat:Nat):Int)<=((2^32:Nat):Int):=Int.ofNat_le.2 h1
 simpa using h2
theorem pT {h:hH} {f:Int} (hh:eT h f=true):bU h.rate=true/\bU h.mu=true/\bU h.nu=true/\bU h.eps=true/\bU h.decay=true/\bU h.clip=true/\(1<=h.kind/\h.kind<=3)/\(1<=h.sched/\h.sched<=3)/\0<=h.every/\h.every<=1048576:=by
 simp only[eT,fD,cY,eE,Bool.and_eq_true,Bool.or_eq_true,decide_eq_true_eq]at hh;obtain⟨⟨D,E⟩,h1,h2,h3,h4,h5,h6,h7,h8,h9,F,A,G,H⟩:=hh;have hp:(2:Int)^f.toNat<=2^32:=FL f (by omega);have B:bU h.mu=true:=by simp[bU];omega
 have C:bU h.nu=true:=by simp[bU];omega
 exact⟨h1,B,C,A,h2,h3,by omega,by omega,by omega,by omega⟩
theorem SY {h:hH} {m:lV} {ps:List aO} {f:Int} (hf:eE f=true) (hh:dZ h m ps f=true):bU m.powMu=true/\bU m.powNu=true/\(0<=m.steps/\m.steps<=1048576)/\m.m.all cK=true/\m.v.all cK=true/\((h.kind≠1->bK m.m=bK ps)/\(h.kind=1->m.m=[]))/\((h.kind=3->bK m.v=bK ps)/\(h.kind≠3->m.v=[])):=by
 simp only[dZ,nU,eE,Bool.and_eq_true,Bool.or_eq_true,decide_eq_true_eq,Bool.not_eq_true',decide_eq_false_iff_not]at hh hf;obtain⟨h1,h2,h3,h4,h5,h6,h7,h8,h9,D,B,C⟩:=hh;have hp:(2:Int)^f.toNat<=2^32:=FL f (by omega);refine⟨by simp[bU];omega,by simp[bU];omega,⟨h1,h2⟩,h3,h4,⟨fun A=>?_,fun A=>?_⟩,⟨fun A=>?_,fun A=>?_⟩⟩
 ·rcases B with h|h
  ·exact h.2
  ·exact absurd A h.1
 ·rcases B with h|h
  ·exact absurd A h.1
  ·exact List.eq_nil_of_length_eq_zero h.2
 ·rcases C with h|h
  ·exact h.2
  ·exact absurd A h.1
 ·rcases C with h|h
  ·exact absurd h.1 A
  ·exact List.eq_nil_of_length_eq_zero h.2
theorem wP {l:List Int} {a e:Int} {n:Nat} (h:dX l a e n=true):n<=1024/\(∀x∈l,0<=x/\x<=1024)/\(0<=a/\a<=1024)/\0<=e/\e<=1048576:=by simp only[dX,jP,Bool.and_eq_true,decide_eq_true_eq]at h;obtain⟨h1,h2,h3,h4,h5,h6,h7⟩:=h;refine⟨h2,fun x hx=>?_,⟨h4,by omega⟩,h6,h7⟩;have:=List.all_eq_true.1 h3.1.1 x hx;simp only[gW,Bool.and_eq_true,decide_eq_true_eq]at this;omega
theorem M0 (s t:aT) (c3:0<=s.c.at_/\s.c.at_<=1024) (c4:0<=s.c.epoch) (c5:s.c.epoch<=1048576):uC t (aQ (aW s.c.at_) 4++aQ (aW s.c.epoch) 4)=some ({t with c:={t.c with at_:=s.c.at_,epoch:=s.c.epoch}},[]):=by have q:=oN s.c.epoch 1048576 [] c4 c5 (by omega);rw[List.append_nil]at q;rw[uC,oN s.c.at_ 1024 _ c3.1 c3.2 (by omega),Option.bind_some];simp only[q,Option.map_some];rw[Int.toNat_of_nonneg c3.1,Int.toNat_of_nonneg c4]
theorem LB (s t:aT) (hc:dX s.c.order s.c.at_ s.c.epoch s.c.order.length=true):st9 t (kW s)=some ({t with c:=s.c},[]):=by obtain⟨c1,c2,c3,c4,c5⟩:=wP hc;have q:=oN (s.c.order.length:Int) 1024 (jU s.c.order++(aQ (aW s.c.at_) 4++aQ (aW s.c.epoch) 4)) (by omega) (by omega) (by omega);rw[show aW (s.c.order.length:Int)=s.c.order.length by unfold aW;omega,Int.toNat_natCast]at q;rw[st9,kW,q,Option.bind_some];simp only[G4 s.c.order _ c2,Option.bind_some,M0 s _ c3 c4 c5]
theorem G7 (s t:aT) (A:iP s) (hc:dX s.c.order s.c.at_ s.c.epoch s.c.order.length=true):st8 t (aQ (aW s.r.s0) 8++(aQ (aW s.r.s1) 8++(aQ (aW s.r.s2) 8++(aQ (aW s.r.s3) 8++kW s))))=some ({t with r:={t.r with s0:=s.r.s0,s1:=s.r.s1,s2:=s.r.s2,s3:=s.r.s3},c:=s.c},[]):=by simp only[Option.bind_some,st8,rZ _ _ A.s0,rZ _ _ A.s1,rZ _ _ A.s2,rZ _ _ A.s3,LB s _ hc];rw[Int.toNat_of_nonneg (nD A.s0).1,Int.toNat_of_nonneg (nD A.s1).1,Int.toNat_of_nonneg (nD A.s2).1,Int.toNat_of_nonneg (nD A.s3).1]
theorem D6 (s t:aT) (hw:iP s) (hc:dX s.c.order s.c.at_ s.c.epoch s.c.order.length=true) (A:s.r.script.length<=4096):st7 t (lC s)=some ({t with r:=s.r,c:=s.c},[]):=by have q:=oN (s.r.script.length:Int) 4096 (eG s.r.script++(aQ (aW s.r.s0) 8++(aQ (aW s.r.s1) 8++(aQ (aW s.r.s2) 8++(aQ (aW s.r.s3) 8++kW s))))) (by omega) (by omega) (by omega);rw[show aW (s.r.script.length:Int)=s.r.script.length by unfold aW;omega,Int.toNat_natCast]at q;rw[st7,lC,q,Option.bind_some];simp only[NF s.r.script _ hw.script,Option.bind_some,G7 s _ hw hc]
theorem zN (s u:aT) (hw:iP s) (hc:dX s.c.order s.c.at_ s.c.epoch s.c.order.length=true) (A:s.r.script.length<=4096) (b5:s.m.v.all cK=true) (b7:(s.h.kind=3->bK s.m.v=bK s.ps)/\(s.h.kind≠3->s.m.v=[]))
  (hu:u.h=s.h) (hv:u.m.v=[]):st6 (bK s.ps) u (bQ s.m.v++lC s)=some ({u with m:={u.m with v:=s.m.v},r:=s.r,c:=s.c},[]):=by
 rw[st6,show u.h.kind=s.h.kind by rw[hu]];by_cases hk:s.h.kind=3
 ·rw[if_pos hk,<-b7.1 hk,xN _ _ b5,Option.bind_some,D6 s _ hw hc A]
 ·rw[if_neg hk,b7.2 hk,show bQ []=[] from rfl,List.nil_append,D6 s _ hw hc A,<-hv]
theorem SZ (s t:aT) (hw:iP s) (hc:dX s.c.order s.c.at_ s.c.epoch s.c.order.length=true) (A:s.r.script.length<=4096) (b4:s.m.m.all cK=true) (b5:s.m.v.all cK=true) (b6:(s.h.kind≠1->bK s.m.m=bK s.ps)/\(s.h.kind=1->s.m.m=[])) (b7:(s.h.kind=3->bK s.m.v=bK s.ps)/\(s.h.kind≠3->s.m.v=[]))
  (a7:1<=s.h.kind/\s.h.kind<=3) (ht:t.h=s.h) (C:t.m.m=[]) (B:t.m.v=[]):st5 (bK s.ps) t (lS s)=some ({t with m:={t.m with m:=s.m.m,v:=s.m.v},r:=s.r,c:=s.c},[]):=by
 rw[st5,show t.h.kind=s.h.kind by rw[ht],lS];by_cases hk:s.h.kind=1
 ·rw[if_neg (by omega),b6.2 hk,show bQ []=[] from rfl,List.nil_append,zN s t hw hc A b5 b7 ht B,<-C]
 ·rw[if_pos (by omega),<-b6.1 hk,xN _ _ b4,Option.bind_some,b6.1 hk];exact zN s {t with m:={t.m with m:=s.m.m}} hw hc A b5 b7 ht B
theorem vY (x:Int):aF [x] 0=x:=rfl
theorem P7 (s t:aT) (h:cX s=true) (hw:iP s) (A:s.r.script.length<=4096) (ht:t.h=s.h) (B:t.m.m=[]) (C:t.m.v=[]):jQ (bK s.ps) t (lY s)=some ({t with ps:=s.ps,m:=s.m,r:=s.r,c:=s.c},[]):=by obtain⟨hs,hf,hh,hp,hm,hr,hc⟩:=mY h;obtain⟨a1,a2,a3,a4,a5,a6,a7,a8,a9,a10⟩:=pT hh;obtain⟨b1,b2,b3,b4,b5,b6,b7⟩:=SY hf hm;rw[jQ,lY,xN _ _ hp,Option.bind_some];dsimp only;rw[nO _ _ b1,Option.bind_some];dsimp only;rw[nO _ _ b2,Option.bind_some];dsimp only;rw[oN s.m.steps 1048576 _ b3.1 b3.2 (by omega),Option.bind_some];dsimp only;rw[Int.toNat_of_nonneg b3.1,vY,vY];exact SZ s {t with ps:=s.ps,m:={t.m with powMu:=s.m.powMu,powNu:=s.m.powNu,steps:=s.m.steps}} hw hc A b4 b5 b6 b7 a7 ht B C
theorem J9 (s t:aT) (h:cX s=true) (hw:iP s) (A:s.r.script.length<=4096) (hk:t.h.kind=s.h.kind) (B:t.h.sched=s.h.sched) (C:t.m.m=[]) (D:t.m.v=[]):st3 (bK s.ps) t (mH s)=some ({t with h:=s.h,ps:=s.ps,m:=s.m,r:=s.r,c:=s.c},[]):=by obtain⟨hs,hf,hh,hp,hm,hr,hc⟩:=mY h;obtain⟨a1,a2,a3,a4,a5,a6,a7,a8,a9,a10⟩:=pT hh;rw[st3,mH];rw[nO _ _ a1,Option.bind_some];dsimp only;rw[nO _ _ a2,Option.bind_some];dsimp only;rw[nO _ _ a3,Option.bind_some];dsimp only;rw[nO _ _ a4,Option.bind_some];dsimp only;rw[nO _ _ a5,Option.bind_some];dsimp only;rw[nO _ _ a6,Option.bind_some];dsimp only;rw[oN s.h.every 1048576 _ a9 a10 (by omega),Option.bind_some];dsimp only;rw[Int.toNat_of_nonneg a9,hk,B];simp only[vY];exact P7 s {t with h:=s.h} h hw A rfl C D
theorem NH (s t:aT) (h:cX s=true) (hw:iP s) (A:s.r.script.length<=4096) (B:t.m.m=[]) (C:t.m.v=[]):st2 (bK s.ps) t (kF s)=some ({t with h:=s.h,ps:=s.ps,m:=s.m,r:=s.r,c:=s.c},[]):=by obtain⟨hs,hf,hh,hp,hm,hr,hc⟩:=mY h;obtain⟨a1,a2,a3,a4,a5,a6,a7,a8,a9,a10⟩:=pT hh;rw[st2,kF,vW s.h.kind _ (by omega) (by omega),Option.bind_some,vW s.h.sched _ (by omega) (by omega),Option.bind_some,Int.toNat_of_nonneg (show 0<=s.h.kind by omega),Int.toNat_of_nonneg (show 0<=s.h.sched by omega)];exact J9 s _ h hw A rfl rfl B C
theorem JA (s:aT) (h:cX s=true) (hw:iP s) (A:s.r.script.length<=4096):st1 s.f (mF s)=some (s,[]):=by
 obtain⟨hs,hf,hh,hp,hm,hr,hc⟩:=mY h;have hg:=oS hs;have B:=(oU hg).2.2;have q:=oN ((dB s.d).length:Int) 8192 (iD (dB s.d)++kF s) (by omega) (by omega) (by omega);rw[show aW ((dB s.d).length:Int)=(dB s.d).length by unfold aW;omega,Int.toNat_natCast]at q;have q2:jZ (dB s.d).length (iD (dB s.d)++kF s)=some (iD (dB s.d),kF s):=by have hl:=qF (dB s.d);rw[jZ,if_pos (by rw[Zl,hl];omega),<-hl,List.take_left,List.drop_left]
 rw[st1,mF,q,Option.bind_some];dsimp only;rw[q2,Option.bind_some];dsimp only;rw[OZ,OY hg,Option.bind_some,hs,Option.bind_some];exact NH s (AG s.f s.d) h hw A rfl rfl
theorem P4 (s:aT) (h:cX s=true) (hw:iP s):m8 (gS s)=some (s,[]):=by
 obtain⟨hs,hf,hh,hp,hm,hr,hc⟩:=mY h;have hf':=hf;simp only[eE,Bool.and_eq_true,decide_eq_true_eq]at hf';have A:s.r.script.length<=4096:=by simp only[gQ,Bool.and_eq_true,decide_eq_true_eq]at hr;exact hr.1
 have q0:∀r:List Int,jZ 4 ([82,67,75,80]++r)=some ([82,67,75,80],r):=fun r=>by
  rw[jZ,if_pos (by simp)];rfl
 have q1:∀r:List Int,bL 1 (aQ 1 1++r)=some (1,r):=fun r=>nY 1 1 r (by omega) (by omega);rw[m8,gS,q0,Option.bind_some];dsimp only;rw[if_pos rfl,q1,Option.bind_some];dsimp only;rw[if_pos rfl,vW s.f _ (show 0<=s.f by omega) (by omega),Option.bind_some];dsimp only;rw[Int.toNat_of_nonneg (show 0<=s.f by omega),if_pos hf];exact JA s h hw A
def bC (k:Nat) (l:List Int):List Int:=l.flatMap fun v=>aQ (aW v) k
theorem eU (k:Nat) (l:List Int):(bC k l).length=k*l.length:=by
 induction l with
 |nil=>rfl
 |cons x l ih=>rw[bC,List.flatMap_cons,Zl,cO,List.length_cons,<-bC,ih,Nat.mul_succ];omega
theorem nX (k:Nat) (l:List Int) (j:Nat) (h:j<l.length):bC k (l.take (j+1))=bC k (l.take j)++aQ (aW (aF l j)) k:=by rw[fG l j h,bC,bC,List.flatMap_append];simp
structure cU (B:Nat) (v v':Value) (w w':World):Prop where
 low:Below B w w'
 other:∀k,k<w.heap.size->v.ownBlock≠some k->w'.heap[k]?=w.heap[k]?
 own:∀g,v'.ownBlock=some g->v.ownBlock=some g\/w.heap.size<=g
theorem cU.refl (B:Nat) (v:Value) (w:World):cU B v v w w:=⟨Zc _ _,fun _ _ _=>rfl,fun _ h=>.inl h⟩
theorem cU.trans {B:Nat} {v v1 v2:Value} {w w1 w2:World} (h:cU B v v1 w w1) (k:cU B v1 v2 w1 w2):cU B v v2 w w2:=
 ⟨h.low.trans k.low,fun j hj A=>(k.other j (Nat.lt_of_lt_of_le hj h.low.size) (fun e=>(h.own j e).elim A (fun h2=>by omega))).trans (h.other j hj A),
  fun g hg=>(k.own g hg).elim (fun h2=>h.own g h2) (fun h2=>.inr (Nat.le_trans h.low.size h2))⟩
theorem cU.pre {B:Nat} {v v':Value} {w w1 w':World} (h:cU B v v' w1 w') (hb:Below w.heap.size w w1) (hB:B<=w.heap.size):cU B v v' w w':=
 ⟨(hb.mono hB).trans h.low,fun j hj A=>(h.other j (Nat.lt_of_lt_of_le hj hb.size) A).trans (hb.block j hj),fun g hg=>(h.own g hg).imp id fun h2=>Nat.le_trans hb.size h2⟩
def nV (v u:Value) (n:Nat):Prop:=∀b off m c,u=.slice (some ⟨b,off,none⟩) m c->0<n->v.ownBlock≠some b
theorem Rd.growsB {B:Nat} {v v' u:Value} {w w':World} {K:IntKind} {xs:List Int} (h:Rd w K u xs) (hg:cU B v v' w w') (ha:nV v u xs.length):Rd w' K u xs:=by obtain⟨o,cap,rfl,hc⟩:=h;refine⟨o,cap,rfl,fun j hj=>?_⟩;obtain⟨b,off,rfl,A⟩:=hc j hj;exact⟨b,off,rfl,(World.cell?_of_block (w:=w) (a:=⟨b,off+j,none⟩) (hg.other b (aP A) (ha b off _ _ rfl (by omega)))).trans A⟩
theorem nV.grows {B:Nat} {v v' u:Value} {w w':World} {n:Nat} (h:nV v u n) (hg:cU B v v' w w') (hu:∀b off m c,u=.slice (some ⟨b,off,none⟩) m c->0<n->b<w.heap.size):nV v' u n:=
 fun b off m c e h0 h1=>(hg.own b h1).elim (h b off m c e h0) fun h2=>by have:=hu b off m c e h0;omega
theorem Rd.lt {w:World} {K:IntKind} {u:Value} {xs:List Int} (h:Rd w K u xs):∀b off m c,u=.slice (some ⟨b,off,none⟩) m c->0<xs.length->b<w.heap.size:=fun b off m c e h0=>by
 obtain⟨o,cap,he,hc⟩:=h;obtain⟨b',off',ho,A⟩:=hc 0 h0;subst ho;rw[he]at e;injection e with e1;injection e1 with e1;injection e1 with e1;rw[<-e1];exact aP A
theorem B9 (v:Value) (bs:List Int) (n k:Nat) (B:Nat) (w:World) (A:aH w B 5 .u8 v bs) (hB:B<=w.heap.size) (hn:n<18446744073709551616) (hk:k<=8) (hl:bs.length<=100000000000000):
  Calls Tryz.prog 47 #[v,.int .u64 n,.int .i64 k] w fun e w'=>∃v',e=.returned v'/\aH w' B 5 .u8 v' (bs++aQ n k)/\cU B v v' w w':=by
 obtain⟨i0,hi,I,J,L⟩:=info_parts rV;have V:=Za hn;have O:=Za A;clear hn A;go_enter Tryz.func47,Tryz.ntmps47;go_wp2;go_loopw[0,7] (fun u i wr=>∃(j:Nat) (pre:List Int),j<=k/\i=.int .i64 ((j:Int)-1)/\aH wr B 5 .u8 u (bs++pre)/\cU B v u w wr/\pre++aQ n j=aQ n k) (fun _ i _=>(intOf i+1).toNat)
 case atStart=>exact⟨k,[],Zb _,rfl,by rw[List.append_nil];exact O.o,cU.refl _ _ _,rfl⟩
 case round=>
  obtain⟨j,pre,hj,rfl,A,D,E⟩:=hrel;have N:=Za E;have P:pre.length<=8:=by have:=congrArg List.length E;rw[Zl,cO,cO]at this;omega
  clear E;by_cases h0:j=0
  ·subst h0;have hown':Hid (aH wr B 5 .u8 u0 (bs++aQ n k)):=Za (by have:=N.o;rw[aQ,List.append_nil]at this;rw[<-this];exact A);have F:=Za D;clear A D;go_wp2;go_ret;exact⟨_,rfl,hown'.o,F.o⟩
  ·obtain⟨m,rfl⟩:∃m,j=m+1:=⟨j-1,by omega⟩;clear h0;have F:=Za D;have G:=Za A;have R:(bs++pre).length<=100000000000008:=by rw[Zl];omega
   have T:=D.low.size;clear D A;go_wp2_with(at_builtin;refine wpList_append_own_at _ rfl _ _ 23 rfl B 5 i0 (.int .u8 0) 1 1 Tryz.underlying23 hi I J L rfl (by decide) _ _ _ rfl (G.o.alloc _) ⟨wr.heap.size,0,none⟩ 1 1 [.int .u8 ((n:Int) / 2^(8*m)%256)] rfl rfl (cell_one_new _ _ _) (by simp[Value.oneCell']) (by unfold maxLen;omega) (by omega) (by simp;omega) ?_;intro v' w1 hown' C _ H);have he:(n:Int) / 2^(8*m)%256=((n / 256^m%256:Nat):Int):=by have h3:((2^(8*m):Nat):Int)=(2:Int)^(8*m):=Int.natCast_pow 2 _;rw[<-h3,Nat.pow_mul];rfl
   rw[he]at hown';have U:=Za (show cU B v v' w w1 from F.o.trans ⟨xV (Zc B _) (by omega) G.o C,fun q hq M=>(C.block q (by simp;omega) (fun e=>M e.symm)).trans (Below.heap_alloc _ _ q hq),fun g hg=>by
    rcases H with h1|h1
    ·exact .inl (Eq.trans (Eq.symm h1) hg)
    ·have h2:=Eq.trans (Eq.symm h1) hg;right;injection h2 with h2;rw[<-h2];simp⟩)
   clear C H;go_roundw
   case rel=>
    refine⟨m,pre++[((n / 256^m%256:Nat):Int)],by omega,by go_num,?_,U.o,by rw[List.append_assoc];exact N.o⟩;rw[<-List.append_assoc];exact mV hown'
   case measure=>simp[intOf]
theorem DM (v u:Value) (bs xs:List Int) (k:Nat) (B:Nat) (w:World) (A:aH w B 5 .u8 v bs) (hr:Rd w .i64 u xs) (hB:B<=w.heap.size) (hk:k<=8) (hl:bs.length+8*xs.length<=90000000000000) (ha:nV v u xs.length):
  Calls Tryz.prog 44 #[v,.int .i64 k,u] w fun e w'=>∃v',e=.returned v'/\aH w' B 5 .u8 v' (bs++bC k xs)/\cU B v v' w w':=by
 obtain⟨o,cap,rfl⟩:=aU hr;have HO:=Za A;have HR:=Za hr;have HA:=Za ha;have ab:xs.length<=20000000000000:=by omega
 have ac:=hB;clear A hr ha;go_enter Tryz.func44,Tryz.ntmps44;go_wp2;go_loopw[0,11] (fun b i wr=>∃j:Nat,j<=xs.length/\i=.int .i64 j/\aH wr B 5 .u8 b (bs++bC k (xs.take j))/\cU B v b w wr/\Rd wr .i64 (.slice o xs.length cap) xs/\nV b (.slice o xs.length cap) xs.length) (fun _ i _=>xs.length-(intOf i).toNat)
 case atStart=>exact⟨0,Ze _,rfl,by simpa [bC]using HO.o,cU.refl _ _ _,HR.o,HA.o⟩
 case round=>
  obtain⟨j,hj,rfl,A,F,G,L⟩:=hrel;have M:=Za L;clear L;have V:=Za A;have N:=Za F;have O:=Za G;by_cases P:j<xs.length
  ·obtain⟨b,off,rfl,hc⟩:=G.cell j P;have C:(bs++bC k (xs.take j)).length<=100000000000000:=by rw[Zl,eU,List.length_take];have:k*min j xs.length<=8*xs.length:=Nat.mul_le_mul hk (Nat.min_le_right _ _);omega
   have ad:=F.low.size;have H:=nX k xs j P;obtain⟨x,hx⟩:=Zx (aF xs j);rw[<-hx]at hc H;obtain⟨n,hn⟩:=Zx (aW x);have hu:IntKind.u64.wrap x=(n:Int):=by rw[hn];exact kR x
   have HN:=Za (show n<18446744073709551616 from by rw[hn];exact iO x);rw[<-hn]at H;obtain⟨cur,D⟩:=Zx (bs++bC k (xs.take j));rw[<-D]at A C;have X:=Za (show bs++bC k (xs.take (j+1))=cur++aQ n k by rw[H,D,List.append_assoc]);have R:=Za (B9 _ _ n k B wr A (by omega) HN.o hk C);obtain⟨ov,cv,Y⟩:=aJ A;subst Y;clear A F G hn hx C H D V;go_wp2_with fail;refine R.o.mono ?_;rintro e w2 ⟨v2,rfl,E,I⟩;have Z:=Za E;have aa:=Za (N.o.trans I);have T:Rd w2 .i64 (.slice (some ⟨b,off,none⟩) xs.length cap) xs:=by exact O.o.growsB I M.o
   have J:=M.o.grows I O.o.lt;have U:=Za J;clear E I hc J;go_wp2;go_roundw
   case rel=>exact⟨j+1,by omega,by go_num,by rw[X.o];exact Z.o,aa.o,T,U.o⟩
   case measure=>simp[intOf];omega
  ·obtain rfl:j=xs.length:=by omega
   rw[List.take_length]at A;have HF:=Za A;clear A F G;go_wp2;go_ret;exact⟨_,rfl,HF.o,N.o⟩
theorem wQ:(Tryz.prog.info? 40).map (fun i=>(i.zero,i.size,i.bytes))=some (some (.int .u64 0),1,8):=by kernel_rfl
theorem pE:(Tryz.prog.info? 100).map (fun i=>(i.zero,i.size,i.bytes))=some (some (.agg #[.slice none 0 0,.slice none 0 0]),2,48):=by kernel_rfl
theorem FN (n b:Nat) (h:n<=1000000) (hn:0<n) (hb:b<=100):Builtin.nextslicecap (0+n) 0*b<=281474976710656:=by refine growslice_fits (by omega) ?_;have:=Nat.mul_le_mul h hb;rw[Nat.zero_add];omega
theorem tG (z:Value) (k s:Nat) (h:z.cells.size=s):(Builtin.zeroCells z.cells k).size=k*s:=by rw[size_zeroCells,h]
theorem DB {w:World} {e:TypeId} {s cap:Nat} {cur:Array Value} (hs:cur.size=cap*s) (hc:cap<=maxLen):(w.drew.alloc (.cells cur e)).ownsRow w.heap.size e s (.slice (some ⟨w.heap.size,0,none⟩) 0 cap) 0 []:=
 ⟨by simp,.inr ⟨w.heap.size,cap,cur,rfl,Zb _,aA.new w.drew e cur,Ze _,hc,hs,by simp⟩⟩
theorem QY (n:Nat) (w:World) (hn:n<=1000000):
  Calls Tryz.prog 104 #[.slice none 0 0,.int .i64 n] w fun e w'=>(∃v,e=.returned v/\w'.ownsRow w.heap.size 40 1 v 0 [])/\Below w.heap.size w w':=by
 obtain⟨i0,hi,F,H,D⟩:=info_parts wQ;by_cases h0:n=0
 ·subst h0;go_enter Tryz.func104,Tryz.ntmps104;go_wp2;go_ret;exact⟨⟨_,rfl,World.ownsRow_nil _ _ _ _⟩,Zc _ _⟩
 ·have E:∀(ty:TypeId) (W:World),(Builtin.append_ #[39,3] ty #[.slice none 0 0,.int .i64 (n:Int)]).run Tryz.prog W=
    .ok (.slice (some ⟨W.heap.size,0,none⟩) n (grownCap W n 0 40)) (W.drew.alloc (.cells (#[]++Builtin.zeroCells (Value.cells (.int .u64 0)) n++Builtin.zeroCells (Value.cells (.int .u64 0)) (grownCap W n 0 40-n)) 40)):=fun ty W=>by
   have h:=Lib.run_append_grow_zeros W 39 3 ty 40 i0 (.int .u64 0) .i64 .i64 Tryz.underlying39 Tryz.underlying3 hi F none 0 0 [] (run_firstCells_none W.drew i0.size 0 0 0) n (by omega) (by rw[H];decide) (by omega) (by omega) (by rw[D];omega) (by rw[D];exact FN n 8 hn (by omega) (by omega))
   simpa using h
  have I:n<=grownCap w n 0 40:=grownCap_ge w _ _ _;have B:grownCap w n 0 40<=maxLen:=grownCap_le_maxLen w n 0 40 (by unfold maxLen;omega);have C:=fun ty=>E ty w;obtain⟨G,hG⟩:=Zx (grownCap w n 0 40);rw[<-hG]at C I B;have L:G<=9223372036854775807:=by unfold maxLen at B;omega
  have h1:¬((n:Int)<0):=by omega
  have h4:(n:Int) > 0:=by omega
  have h5:(0:Int)<(n:Int):=by omega
  obtain⟨cur,A⟩:=Zx ((#[]++Builtin.zeroCells (Value.cells (.int .u64 0)) n++Builtin.zeroCells (Value.cells (.int .u64 0)) (G-n)));rw[<-A]at C;have M:=Za (show cur.size=G*1 by
   rw[A,Array.size_append,Array.size_append,tG _ _ 1 rfl,tG _ _ 1 rfl];simp;omega)
  have J:=Za B;clear E hG A B;go_enter Tryz.func104,Tryz.ntmps104;go_wp2_with(at_builtin;refine Lib.wpList_append_run _ rfl _ _ _ _ rfl _ _ rfl rfl _ _ (C _) ?_)
  all_goals
   go_ret;exact⟨⟨_,rfl,DB M.o J.o⟩,((Zc _ _).drew).alloc (Zb _) _⟩
theorem F5 (n:Nat) (w:World) (hn:n<=1000000):
  Calls Tryz.prog 103 #[.slice none 0 0,.int .i64 n] w fun e w'=>(∃v,e=.returned v/\w'.ownsRow w.heap.size 100 2 v 0 [])/\Below w.heap.size w w':=by
 obtain⟨i0,hi,F,H,D⟩:=info_parts pE;by_cases h0:n=0
 ·subst h0;go_enter Tryz.func103,Tryz.ntmps103;go_wp2;go_ret;exact⟨⟨_,rfl,World.ownsRow_nil _ _ _ _⟩,Zc _ _⟩
 ·have E:∀(ty:TypeId) (W:World),(Builtin.append_ #[36,3] ty #[.slice none 0 0,.int .i64 (n:Int)]).run Tryz.prog W=
    .ok (.slice (some ⟨W.heap.size,0,none⟩) n (grownCap W n 0 100)) (W.drew.alloc (.cells (#[]++Builtin.zeroCells (Value.cells (.agg #[.slice none 0 0,.slice none 0 0])) n++Builtin.zeroCells (Value.cells (.agg #[.slice none 0 0,.slice none 0 0])) (grownCap W n 0 100-n)) 100)):=fun ty W=>by
   have h:=Lib.run_append_grow_zeros W 36 3 ty 100 i0 (.agg #[.slice none 0 0,.slice none 0 0]) .i64 .i64 Tryz.underlying36 Tryz.underlying3 hi F none 0 0 [] (run_firstCells_none W.drew i0.size 0 0 0) n (by omega) (by rw[H];decide) (by omega) (by omega) (by rw[D];omega) (by rw[D];exact FN n 48 hn (by omega) (by omega))
   simpa using h
  have I:n<=grownCap w n 0 100:=grownCap_ge w _ _ _;have B:grownCap w n 0 100<=maxLen:=grownCap_le_maxLen w n 0 100 (by unfold maxLen;omega);have C:=fun ty=>E ty w;obtain⟨G,hG⟩:=Zx (grownCap w n 0 100);rw[<-hG]at C I B;have L:G<=9223372036854775807:=by unfold maxLen at B;omega
  have h1:¬((n:Int)<0):=by omega
  have h4:(n:Int) > 0:=by omega
  have h5:(0:Int)<(n:Int):=by omega
  obtain⟨cur,A⟩:=Zx ((#[]++Builtin.zeroCells (Value.cells (.agg #[.slice none 0 0,.slice none 0 0])) n++Builtin.zeroCells (Value.cells (.agg #[.slice none 0 0,.slice none 0 0])) (G-n)));rw[<-A]at C;have M:=Za (show cur.size=G*2 by
   rw[A,Array.size_append,Array.size_append,tG _ _ 2 rfl,tG _ _ 2 rfl];simp;omega)
  have J:=Za B;clear E hG A B;go_enter Tryz.func103,Tryz.ntmps103;go_wp2_with(at_builtin;refine Lib.wpList_append_run _ rfl _ _ _ _ rfl _ _ rfl rfl _ _ (C _) ?_)
  all_goals
   go_ret;exact⟨⟨_,rfl,DB M.o J.o⟩,((Zc _ _).drew).alloc (Zb _) _⟩
structure jA (w:World) (sz:Nat) (u:Value) (m:Nat) (cs:List Value):Prop where
 len:cs.length=m*sz
 one:∀x∈cs,x.oneCell'=true
 at_:∃o c,u=.slice o m c/\∀j x,cs[j]?=some x->∃b off,o=some ⟨b,off,none⟩/\w.cell? ⟨b,off+j,none⟩=some x
theorem jA.below {w w':World} {B sz m:Nat} {u:Value} {cs:List Value} (h:jA w sz u m cs) (hb:Below B w w') (hs:w.heap.size<=B):jA w' sz u m cs:=by obtain⟨o,c,rfl,hc⟩:=h.at_;refine⟨h.len,h.one,o,c,rfl,fun j x hj=>?_⟩;obtain⟨b,off,rfl,A⟩:=hc j x hj;exact⟨b,off,rfl,(hb.cell (p:=⟨b,off+j,none⟩) (Nat.lt_of_lt_of_le (aP A) hs)).trans A⟩
theorem PW {P:Program} (w:World) (t ty:TypeId) (B:Nat) (e:TypeId) (z:Value) (sz:Nat) (i:TypeInfo) (bytes:Nat) (ht:P.underlying t=some (.slice e)) (hi:P.info? e=some i) (hz:i.zero=some z) (D:i.size=sz) (I:i.bytes=bytes) (J:z.cells.size=sz) (G:0<sz)
  (v:Value) (n:Nat) (xs:List Value) (A:w.ownsRow B e sz v n xs) (u:Value) (m:Nat) (ys:List Value) (hr:jA w sz u m ys)
  (L:n+m<=maxLen) (C:(n+m)*bytes<=140737488355328) (E:B<=w.heap.size):
  ∃v' w',(Builtin.append_ #[t,t] ty #[v,u]).run P w=.ok v' w'/\w'.ownsRow B e sz v' (n+m) (xs++ys)/\w.grownBy w' v.ownBlock:=by
 obtain⟨o,c,rfl,hc⟩:=hr.at_;by_cases h0:m=0
 ·subst h0;have:ys=[]:=List.eq_nil_of_length_eq_zero (by have:=hr.len;omega);subst this;obtain⟨ov,cap,rfl,M⟩:=jK A;refine⟨_,w,xT w t ty e i ht hi _ _ _ _ _ M,?_,⟨rfl,rfl,rfl,Zb _,fun _ _ _=>rfl⟩⟩;rw[List.append_nil];exact A
 ·have hl:0<ys.length:=by rw[hr.len];exact Nat.mul_pos (by omega) G
  obtain⟨b,off,rfl,_⟩:=hc 0 ys[0] (List.getElem?_eq_getElem hl);obtain⟨v',w',H,h2,h3,_,h5⟩:=run_append_own_at (P:=P) w B t ty e i z sz bytes ht hi hz D I J G v n _ A ⟨b,off,none⟩ m c ys hr.len (fun j x hj=>by
    obtain⟨b',off',he,F⟩:=hc j x hj;cases he;rw[Addr.add_lit];exact F) hr.one L C E
  exact⟨v',w',H,h2,h3⟩
theorem t6 {P:Program} {ops:Array Oper} {rest:List Oper} {o:Oper} {a:Act} {w:World} {Q:Exit->Act->World->Prop} (G:o.guard=none) (s x:Operand) (t:TypeId)
  (ho:o.op=.call {callee:=.builtin .append,args:=#[s,x],argTypes:=#[t,t]})
  (B:Nat) (e:TypeId) (z:Value) (sz:Nat) (i:TypeInfo) (bytes:Nat) (ht:P.underlying t=some (.slice e)) (hi:P.info? e=some i) (hz:i.zero=some z) (C:i.size=sz) (H:i.bytes=bytes) (I:z.cells.size=sz) (J:0<sz)
  (v:Value) (n:Nat) (xs:List Value) (hs:a.eval s=v) (E:w.ownsRow B e sz v n xs) (u:Value) (m:Nat) (ys:List Value) (hx:a.eval x=u) (hr:jA w sz u m ys)
  (L:n+m<=maxLen) (A:(n+m)*bytes<=140737488355328) (D:B<=w.heap.size)
  (h:∀v' w',w'.ownsRow B e sz v' (n+m) (xs++ys)->w.grownBy w' v.ownBlock->wpList P ops Q rest (a.put o.dst v') w'):
  wpList P ops Q (o::rest) a w:=by refine wpList_plain G fun K' hK=>?_;obtain⟨v',w',F,h2,h3⟩:=PW (P:=P) w t o.type B e z sz i bytes ht hi hz C H I J v n xs E u m ys hr L A D;unfold Oper.wp execOp;simp only[ho,resolve,invoke,builtin,Sem.run_bind,Sem.run_pure,Result.andThen_ok,List.map_toArray,List.map_cons,List.map_nil,hs,hx,F];exact hK _ _ (h v' w' h2 h3)
theorem M8 (g off cap m0 m1:Nat) (v0 v1:Value) (c0 c1:List Value) (w:World) (h0:w.cell? ⟨g,off,none⟩=some v0) (h1:w.cell? ⟨g,off+1,none⟩=some v1) (r0:jA w 1 v0 m0 c0) (r1:jA w 1 v1 m1 c1) (hm:m0+m1<=1000000):
  Calls Tryz.prog 46 #[.slice (some ⟨g,off,none⟩) 2 cap] w fun e w'=>(∃v,e=.returned v/\w'.ownsRow w.heap.size 40 1 v (m0+m1) (c0++c1))/\Below w.heap.size w w':=by
 obtain⟨i0,hi,I,J,L⟩:=info_parts wQ;obtain⟨oa,ca,N,_⟩:=r0.at_;obtain⟨ob,cb,O,_⟩:=r1.at_;subst N O;have P:=Za r0;have R:=Za r1;have V:=Za (Zd h0 h1);have Z:m0<=1000000:=by omega
 have aa:m1<=1000000:=by omega
 have M:IntKind.i64.wrap ((m0:Int)+(m1:Int))=((m0+m1:Nat):Int):=by rw[IntKind.wrap_i64];omega
 have T:¬((m0:Int)<0):=by omega
 have U:¬(((m0+m1:Nat):Int)<0):=by omega
 clear r0 r1;go_enter Tryz.func46,Tryz.ntmps46;go_wp2;go_loopw[3,11] (fun s i wr=>wr=w/\((i=.int .i64 0/\s=.int .i64 0)\/(i=.int .i64 1/\s=.int .i64 m0)\/(i=.int .i64 2/\s=.int .i64 (m0+m1:Nat)))) (fun _ i _=>2-(intOf i).toNat)
 case atStart=>exact⟨rfl,.inl ⟨rfl,rfl⟩⟩
 case round=>
  obtain⟨rfl,⟨rfl,rfl⟩|⟨rfl,rfl⟩|⟨rfl,rfl⟩⟩:=hrel
  ·go_wp2;go_roundw
   case rel=>exact⟨trivial,.inr (.inl ⟨rfl,by go_num⟩)⟩
   case measure=>simp[intOf]
  ·go_wp2;go_roundw
   case rel=>exact⟨trivial,.inr (.inr ⟨rfl,by go_num⟩)⟩
   case measure=>simp[intOf]
  ·obtain⟨W0,rfl⟩:=Zx wr;go_wp2_with(go_at_call 104;refine(QY (m0+m1) _ hm).mono ?_;rintro e w1 ⟨⟨v,rfl,A⟩,hb⟩;refine aD ?_);have X:=Za A;have Y:=Za hb;clear A hb h0 h1;refine aC ?_;obtain⟨ov,cv,rfl⟩:=aJ X.o;clear M T U;go_wp2;go_loopw[6,27] (fun v i wr=>W0.heap.size<=wr.heap.size/\Below W0.heap.size W0 wr/\((i=.int .i64 0/\wr.ownsRow W0.heap.size 40 1 v 0 [])\/(i=.int .i64 1/\wr.ownsRow W0.heap.size 40 1 v m0 c0)\/(i=.int .i64 2/\wr.ownsRow W0.heap.size 40 1 v (m0+m1) (c0++c1)))) (fun _ i _=>2-(intOf i).toNat)
   case atStart=>exact⟨Y.o.size,Y.o,.inl ⟨rfl,X.o⟩⟩
   case round=>
    obtain⟨F,G,⟨rfl,A⟩|⟨rfl,A⟩|⟨rfl,A⟩⟩:=hrel
    ·have C:=Za G;have D:=Za A;have d0:=aX G V.o.1;clear G A;go_wp2_with(at_builtin;refine t6 rfl _ _ 39 rfl W0.heap.size 40 (.int .u64 0) 1 i0 8 Tryz.underlying39 hi I J L rfl (by decide) _ _ _ rfl D.o _ m0 c0 rfl (P.o.below C.o (Zb _)) (by unfold maxLen;omega) (by omega) F ?_;intro v' w2 hown' B);rw[Nat.zero_add,List.nil_append]at hown';have E:=Za (C.o.trans (qC D.o B F));have H:=Za hown';clear hown' B d0;go_roundw
     case rel=>exact⟨E.o.size,E.o,.inr (.inl ⟨rfl,H.o⟩)⟩
     case measure=>simp[intOf]
    ·have C:=Za G;have D:=Za A;have d0:=aX G V.o.2;clear G A;go_wp2_with(at_builtin;refine t6 rfl _ _ 39 rfl W0.heap.size 40 (.int .u64 0) 1 i0 8 Tryz.underlying39 hi I J L rfl (by decide) _ _ _ rfl D.o _ m1 c1 rfl (R.o.below C.o (Zb _)) (by unfold maxLen;omega) (by omega) F ?_;intro v' w2 hown' B);have E:=Za (C.o.trans (qC D.o B F));have H:=Za hown';clear hown' B d0;go_roundw
     case rel=>exact⟨E.o.size,E.o,.inr (.inr ⟨rfl,H.o⟩)⟩
     case measure=>simp[intOf]
    ·have C:=Za G;have D:=Za A;clear G A;go_wp2;go_ret;exact⟨⟨_,rfl,D.o⟩,C.o⟩
theorem RG (g off cap m0 m1:Nat) (v0 v1:Value) (c0 c1:List Value) (w:World) (h0:w.cell? ⟨g,off,none⟩=some v0) (h1:w.cell? ⟨g,off+1,none⟩=some v1) (r0:jA w 2 v0 m0 c0) (r1:jA w 2 v1 m1 c1) (hm:m0+m1<=1000000):
  Calls Tryz.prog 45 #[.slice (some ⟨g,off,none⟩) 2 cap] w fun e w'=>(∃v,e=.returned v/\w'.ownsRow w.heap.size 100 2 v (m0+m1) (c0++c1))/\Below w.heap.size w w':=by
 obtain⟨i0,hi,I,J,L⟩:=info_parts pE;obtain⟨oa,ca,N,_⟩:=r0.at_;obtain⟨ob,cb,O,_⟩:=r1.at_;subst N O;have P:=Za r0;have R:=Za r1;have V:=Za (Zd h0 h1);have Z:m0<=1000000:=by omega
 have aa:m1<=1000000:=by omega
 have M:IntKind.i64.wrap ((m0:Int)+(m1:Int))=((m0+m1:Nat):Int):=by rw[IntKind.wrap_i64];omega
 have T:¬((m0:Int)<0):=by omega
 have U:¬(((m0+m1:Nat):Int)<0):=by omega
 clear r0 r1;go_enter Tryz.func45,Tryz.ntmps45;go_wp2;go_loopw[3,11] (fun s i wr=>wr=w/\((i=.int .i64 0/\s=.int .i64 0)\/(i=.int .i64 1/\s=.int .i64 m0)\/(i=.int .i64 2/\s=.int .i64 (m0+m1:Nat)))) (fun _ i _=>2-(intOf i).toNat)
 case atStart=>exact⟨rfl,.inl ⟨rfl,rfl⟩⟩
 case round=>
  obtain⟨rfl,⟨rfl,rfl⟩|⟨rfl,rfl⟩|⟨rfl,rfl⟩⟩:=hrel
  ·go_wp2;go_roundw
   case rel=>exact⟨trivial,.inr (.inl ⟨rfl,by go_num⟩)⟩
   case measure=>simp[intOf]
  ·go_wp2;go_roundw
   case rel=>exact⟨trivial,.inr (.inr ⟨rfl,by go_num⟩)⟩
   case measure=>simp[intOf]
  ·obtain⟨W0,rfl⟩:=Zx wr;go_wp2_with(go_at_call 103;refine(F5 (m0+m1) _ hm).mono ?_;rintro e w1 ⟨⟨v,rfl,A⟩,hb⟩;refine aD ?_);have X:=Za A;have Y:=Za hb;clear A hb h0 h1;refine aC ?_;obtain⟨ov,cv,rfl⟩:=aJ X.o;clear M T U;go_wp2;go_loopw[6,27] (fun v i wr=>W0.heap.size<=wr.heap.size/\Below W0.heap.size W0 wr/\((i=.int .i64 0/\wr.ownsRow W0.heap.size 100 2 v 0 [])\/(i=.int .i64 1/\wr.ownsRow W0.heap.size 100 2 v m0 c0)\/(i=.int .i64 2/\wr.ownsRow W0.heap.size 100 2 v (m0+m1) (c0++c1)))) (fun _ i _=>2-(intOf i).toNat)
   case atStart=>exact⟨Y.o.size,Y.o,.inl ⟨rfl,X.o⟩⟩
   case round=>
    obtain⟨F,G,⟨rfl,A⟩|⟨rfl,A⟩|⟨rfl,A⟩⟩:=hrel
    ·have C:=Za G;have D:=Za A;have d0:=aX G V.o.1;clear G A;go_wp2_with(at_builtin;refine t6 rfl _ _ 36 rfl W0.heap.size 100 (.agg #[.slice none 0 0,.slice none 0 0]) 2 i0 48 Tryz.underlying36 hi I J L rfl (by decide) _ _ _ rfl D.o _ m0 c0 rfl (P.o.below C.o (Zb _)) (by unfold maxLen;omega) (by omega) F ?_;intro v' w2 hown' B);rw[Nat.zero_add,List.nil_append]at hown';have E:=Za (C.o.trans (qC D.o B F));have H:=Za hown';clear hown' B d0;go_roundw
     case rel=>exact⟨E.o.size,E.o,.inr (.inl ⟨rfl,H.o⟩)⟩
     case measure=>simp[intOf]
    ·have C:=Za G;have D:=Za A;have d0:=aX G V.o.2;clear G A;go_wp2_with(at_builtin;refine t6 rfl _ _ 36 rfl W0.heap.size 100 (.agg #[.slice none 0 0,.slice none 0 0]) 2 i0 48 Tryz.underlying36 hi I J L rfl (by decide) _ _ _ rfl D.o _ m1 c1 rfl (R.o.below C.o (Zb _)) (by unfold maxLen;omega) (by omega) F ?_;intro v' w2 hown' B);have E:=Za (C.o.trans (qC D.o B F));have H:=Za hown';clear hown' B d0;go_roundw
     case rel=>exact⟨E.o.size,E.o,.inr (.inr ⟨rfl,H.o⟩)⟩
     case measure=>simp[intOf]
    ·have C:=Za G;have D:=Za A;clear G A;go_wp2;go_ret;exact⟨⟨_,rfl,D.o⟩,C.o⟩
theorem jA.of_rd {w:World} {K:IntKind} {v:Value} {xs:List Int} (h:Rd w K v xs):jA w 1 v xs.length (xs.map (Value.int K)):=by
 obtain⟨o,c,rfl,hc⟩:=h;refine⟨by simp,fun x hx=>by obtain⟨y,_,rfl⟩:=List.mem_map.1 hx;rfl,o,c,rfl,fun j x hj=>?_⟩;have A:j<xs.length:=by have:=(List.getElem?_eq_some_iff.1 hj).1;simpa using this
 obtain⟨b,off,rfl,B⟩:=hc j A;refine⟨b,off,rfl,?_⟩;rw[B,dO xs j A];rw[List.getElem?_map,List.getElem?_eq_getElem A]at hj;exact hj
theorem AU {w:World} {o:Option Addr}:∀(ts:List aO) (i:Nat),(∀k,k<ts.length->oC w o (i+k) (aR ts k))->
  ∃cs:List Value,cs.length=ts.length*2/\(∀x∈cs,x.oneCell'=true)/\(∀j x,cs[j]?=some x->∃b off,o=some ⟨b,off,none⟩/\w.cell? ⟨b,off+(i*2+j),none⟩=some x)/\∀k,k<ts.length->∃vs vd,cs[k*2]?=some vs/\cs[k*2+1]?=some vd/\Rd w .i64 vs (aR ts k).sh/\Rd w .i64 vd (aR ts k).da
 |[],i,h=>⟨[],rfl,(fun x B=>by simp at B),(fun j x A=>by simp at A),(fun k C=>absurd C (Nat.not_lt_zero _))⟩
 |t::r,i,h=>by
  obtain⟨cs,h1,h2,h3,h4⟩:=AU r (i+1) (fun k C=>by
   have:=h (k+1) (by simpa using C);rw[show i+1+k=i+(k+1) by omega];exact this)
  obtain⟨b,off,vs,vd,rfl,c0,c1,hs,hd⟩:=h 0 (by simp);have e0:aR (t::r) 0=t:=rfl;rw[e0]at hs hd;have o1:vs.oneCell'=true:=by obtain⟨o,c,rfl⟩:=aU hs;rfl
  have o2:vd.oneCell'=true:=by obtain⟨o,c,rfl⟩:=aU hd;rfl
  refine⟨vs::vd::cs,by simp[h1];omega,fun x B=>?_,fun j x A=>?_,fun k C=>?_⟩
  ·rcases List.mem_cons.1 B with rfl|B
   ·exact o1
   ·rcases List.mem_cons.1 B with rfl|B
    ·exact o2
    ·exact h2 x B
  ·refine⟨b,off,rfl,?_⟩
   match j,A with
   |0,A=>simp at A;rw[<-A];simpa using c0
   |1,A=>simp at A;rw[<-A];simpa [Nat.add_assoc]using c1
   |j+2,A=>
    obtain⟨b',off',he,D⟩:=h3 j x (by simpa using A);cases he;rw[show i*2+(j+2)=(i+1)*2+j by omega];exact D
  ·match k,C with
   |0,_=>exact⟨vs,vd,rfl,rfl,hs,hd⟩
   |k+1,C=>
    obtain⟨us,ud,g1,g2,g3,g4⟩:=h4 k (by simpa using C);refine⟨us,ud,?_,?_,g3,g4⟩
    ·rw[show(k+1)*2=k*2+2 by omega];simpa using g1
    ·rw[show(k+1)*2+1=k*2+1+2 by omega];simpa using g2
theorem bD.cells {w:World} {v:Value} {ts:List aO} (h:bD w v ts):
  ∃cs,jA w 2 v ts.length cs/\∀k,k<ts.length->∃vs vd,cs[k*2]?=some vs/\cs[k*2+1]?=some vd/\Rd w .i64 vs (aR ts k).sh/\Rd w .i64 vd (aR ts k).da:=by
 obtain⟨o,c,rfl,hr⟩:=h;obtain⟨cs,h1,h2,h3,h4⟩:=AU ts 0 (fun k hk=>by rw[Nat.zero_add];exact hr k hk);exact⟨cs,⟨h1,h2,o,c,rfl,fun j x hj=>by
  obtain⟨b,off,rfl,hc⟩:=h3 j x hj;exact⟨b,off,rfl,by simpa using hc⟩⟩,h4⟩
theorem bD.of_own {w:World} {B:Nat} {e:TypeId} {v:Value} {ts:List aO} {cs:List Value} (h:w.ownsRow B e 2 v ts.length cs) (hr:∀k,k<ts.length->∃vs vd,cs[k*2]?=some vs/\cs[k*2+1]?=some vd/\Rd w .i64 vs (aR ts k).sh/\Rd w .i64 vd (aR ts k).da):bD w v ts:=by
 obtain⟨o,cap,hv,_⟩:=jK h;subst hv;refine⟨o,cap,rfl,fun k hk=>?_⟩;obtain⟨vs,vd,g1,g2,g3,g4⟩:=hr k hk;rcases h.2 with⟨he,h0⟩|⟨g,cap',cur,he,_,hg,A,C,D,ht⟩
 ·omega
 ·injection he with h1 h2 h3;subst h1;have key:∀j u,cs[j]?=some u->w.cell? ⟨g,0+j,none⟩=some u:=fun j u hj=>by
   rw[Nat.zero_add,cell_of_row w g j cur _ _ hg];rw[<-ht,List.getElem?_take]at hj;split at hj
   ·simpa using hj
   ·cases hj
  exact⟨g,0,vs,vd,rfl,key _ _ g1,by rw[Nat.add_assoc];exact key _ _ g2,g3,g4⟩
theorem IL {a b:List aO} {k:Nat} (h:k<a.length):aR (a++b) k=aR a k:=by rw[eY _ _ (by rw[Zl];omega),eY _ _ h,List.getElem_append_left]
theorem S8 {a b:List aO} {k:Nat} (h1:a.length<=k) (h2:k<a.length+b.length):aR (a++b) k=aR b (k-a.length):=by rw[eY _ _ (by rw[Zl];omega),eY _ _ (by omega),List.getElem_append_right h1]
def wO (P:Prop) (e:Ending):Prop:=∃b:Bool,e=.returned (.bool b)/\(b=false->P)
def sH (ls:List aB):Prop:=∀(v:Value) (n deep:Int) (w:World),bO w v ls->ls.length<=140737488351232->0<=n/\n<=1000->0<=deep/\deep<=13->
 Calls Tryz.prog 106 #[v,.int .i64 n,.int .i64 deep] w fun e w'=>(∃m:Int,((0<=m/\m<=1000)/\(m<1000->m=n+aS ls))/\e=.returned (.int .i64 m))/\w=w'
theorem BO (ls:List aB) (B:∀l∈ls,sH l.body):sH ls:=by
 intro v n deep w hr hl hn hd;obtain⟨o,cap,rfl⟩:=hr.len;have N:=Za hr;have G:=Za B;clear hr B;obtain⟨H,I⟩:=hn;obtain⟨O,P⟩:=hd;by_cases R:12<deep
 ·go_enter Tryz.func106,Tryz.ntmps106;go_wp2;go_ret;exact⟨⟨1000,⟨by omega,fun h=>by omega⟩,rfl⟩,rfl⟩
 ·go_enter Tryz.func106,Tryz.ntmps106;go_wp2;go_loopw[1,7] (fun c i wr=>∃(k:Nat) (m:Int),k<=ls.length/\i=.int .i64 k/\c=.int .i64 m/\(0<=m/\m<=1000)/\Hid (m<1000->m=n+aS (ls.take k))/\Hid (wr=w)) (fun _ i _=>ls.length-(intOf i).toNat)
  case atStart=>exact⟨0,n,Ze _,rfl,rfl,⟨H,I⟩,Za (fun _=>by simp[aS]),Za rfl⟩
  case round=>
   obtain⟨k,m,hk,rfl,rfl,⟨T,U⟩,M,V⟩:=hrel;rw[V.o];by_cases D:k<ls.length
   ·by_cases J:m<1000
    ·obtain⟨b,off,vb,rfl,A,E,C⟩:=N.o.lay k D;have c8:w.cell? ⟨b,off+k*9+8,none⟩=some vb:=A 8 _ rfl;have F:=Za (G.o _ (List.getElem_mem D) vb (m+1) (deep+1) w E C ⟨by omega,by omega⟩ ⟨by omega,by omega⟩);obtain⟨ob,cb,rfl⟩:=E.len;clear A E C;go_wp2_with fail;refine F.o.mono ?_;rintro e w' ⟨⟨q,⟨hq,hc⟩,rfl⟩,rfl⟩;have L:=Za (show q<1000->q=n+aS (ls.take (k+1))from fun h=>by rw[hc h,M.o J,rU ls k D];omega);clear hc;go_wp2;go_roundw
     case rel=>exact⟨k+1,q,by omega,by go_num,rfl,hq,L,(by first|exact Za trivial|exact Za rfl)⟩
     case measure=>simp[intOf];omega
    ·go_wp2;go_ret;exact⟨⟨m,⟨by omega,fun h=>by omega⟩,rfl⟩,rfl⟩
   ·obtain rfl:k=ls.length:=by omega
    go_wp2;go_ret;exact⟨⟨m,⟨by omega,fun h=>by have:=M.o h;rwa [List.take_length]at this⟩,rfl⟩,rfl⟩
theorem MM:∀l:aB,sH l.body:=aB.ind fun n body h=>BO body h
theorem OV (ls:List aB):sH ls:=BO ls fun l _=>MM l
theorem K7 (vi vl:Value) (d:bI) (w:World) (h:fZ w vi vl d):
  Calls Tryz.prog 52 #[.agg #[vi,vl,.int .i64 d.loss]] w fun e w'=>wO (d.input.length<=1000/\aS d.lays<=1000) e/\Below w.heap.size w w':=by
 obtain⟨oi,ci,rfl⟩:=aU h.input;obtain⟨ol,cl,rfl⟩:=h.lays.len;obtain⟨W,hW⟩:=Zx (w.alloc (.cells #[.slice oi d.input.length ci,.slice ol d.lays.length cl,.int .i64 d.loss] 33));have A:aA W w.heap.size 33 #[.slice oi d.input.length ci,.slice ol d.lays.length cl,.int .i64 d.loss]:=by rw[hW];exact aA.new _ _ _
 have B:=Za (show Below w.heap.size w W by rw[hW];exact(Zc _ _).alloc (Zb _) _);have c0:=A.cell 0 rfl;have c1:=A.cell 1 rfl;have D:=Za (OV d.lays _ 0 0 W (h.lays.below B.o (Zb _)) h.lim2 ⟨by omega,by omega⟩ ⟨by omega,by omega⟩);have E:=Za hW;clear h A hW;go_enter Tryz.func52,Tryz.ntmps52;go_upto_region 1 with(fail);rw[<-E.o];by_cases hl:10<d.input.length
 ·go_wp2;go_ret;exact⟨⟨_,rfl,fun h=>by cases h⟩,B.o⟩
 ·go_wp2_with(go_at_call 106;refine D.o.mono ?_;rintro e w2 ⟨⟨q,⟨hq,hc⟩,rfl⟩,rfl⟩;refine aD ?_);have C:=Za hc;clear hc;by_cases F:200<q
  ·refine aC ?_;go_wp2;go_ret;exact⟨⟨_,rfl,fun h=>by first|(cases h;done)|(simp at h;omega)⟩,B.o⟩
  ·refine aC ?_;go_wp2;go_ret;exact⟨⟨_,rfl,fun _=>⟨by omega,by have:=C.o (by omega);omega⟩⟩,B.o⟩
def wt (ts:List aO):Nat:=(ts.map fun t=>t.da.length+t.sh.length).sum
theorem UU (ts:List aO) (k:Nat) (h:k<ts.length):wt (ts.take (k+1))=wt (ts.take k)+((aR ts k).da.length+(aR ts k).sh.length):=by rw[wt,tK ts k h,List.map_append,List.sum_append,<-wt];simp
theorem IH (ts:List aO) (k:Nat):wt (ts.take k)<=wt ts:=by
 have h:wt ts=wt (ts.take k)+wt (ts.drop k):=by
  conv=>lhs;rw[<-List.take_append_drop k ts,wt,List.map_append,List.sum_append]
  rfl
 omega
theorem xS (v:Value) (ts:List aO) (n:Nat) (w:World) (hr:bD w v ts) (hl:eR ts) (hn:n<=100000):
  Calls Tryz.prog 53 #[v,.int .i64 n] w fun e w'=>wO (wt ts<=n/\ts.length<=n) e/\aN w w':=by
 obtain⟨o,cap,rfl⟩:=hr.slice;have L:=Za hr;obtain⟨M,D⟩:=hl;have N:=Za D;clear hr D;go_enter Tryz.func53,Tryz.ntmps53;go_wp2;go_loopw[5,6] (fun c i wr=>∃k m:Nat,k<=ts.length/\i=.int .i64 k/\c=.int .i64 m/\m<=n/\Hid (m=wt (ts.take k))/\Hid (aN w wr)) (fun _ i _=>ts.length-(intOf i).toNat)
 case atStart=>exact⟨0,0,Ze _,rfl,rfl,Ze _,Za rfl,Za (aN.refl _)⟩
 case round=>
  obtain⟨k,m,hk,rfl,rfl,hm,H,E⟩:=hrel;obtain⟨w5,rfl⟩:=Zx wr;by_cases B:k<ts.length
  ·obtain⟨b,off,vs,vd,rfl,d0,d1,hs,hd⟩:=(L.o.same E.o).tens k B;obtain⟨o5,k5,rfl⟩:=aU hd;obtain⟨o6,k6,rfl⟩:=aU hs;have F:=N.o _ (jR ts k B);have A:=Za (UU ts k B);have I:=Za (IH ts (k+1));obtain⟨t,ht⟩:=Zx (aR ts k);rw[<-ht]at d0 d1 A F;obtain⟨l1,l2⟩:=F;clear hs hd ht;go_wp2_with fail;go_quiet(fail);by_cases J:n<m+(t.da.length+t.sh.length)
   ·have O:=Za (show ¬(wt ts<=n) by have:=I.o;rw[A.o,<-H.o]at this;omega);have G:(n:Int)<(m:Int)+t.da.length+t.sh.length:=by omega
    clear d0 d1;go_wp2;go_ret;exact⟨⟨true,rfl,fun h=>by cases h⟩,E.o.trans ⟨_,rfl⟩⟩
   ·have G:¬(n:Int)<(m:Int)+t.da.length+t.sh.length:=by omega
    have C:=Za (show m+(t.da.length+t.sh.length)=wt (ts.take (k+1)) by rw[A.o,<-H.o]);clear d0 d1;go_wp2;go_roundw
    case rel=>exact⟨k+1,m+(t.da.length+t.sh.length),by omega,by go_num,by go_num,by omega,C,Za (E.o.trans ⟨_,rfl⟩)⟩
    case measure=>simp[intOf];omega
  ·obtain rfl:k=ts.length:=by omega
   have C:=Za (show m=wt ts by rw[H.o,List.take_length]);by_cases J:n<ts.length
   ·go_wp2;go_ret;exact⟨⟨_,rfl,fun h=>by cases h⟩,E.o⟩
   ·go_wp2;go_ret;exact⟨⟨_,rfl,fun h=>⟨by rw[<-C.o];exact hm,by omega⟩⟩,E.o⟩
theorem G2 (g n₀:Nat) (n1 n2 n3 n4 n5 n6 n7:Int) (ob:Option Addr) (nb cb:Nat) (vps:Value) (first:Bool) (nm:ByteArray) (qs:List PD) (o:Option Addr) (m cap:Nat) (s:List Int) (w:World) (F:jN ⟨2,n1,n2,n3,n4,n5,n6,n7⟩)
  (h:fI g n₀ vps first qs (.slice o m cap) s w) (hm:m=s.length) (L:nm.size<=1000000):
  Calls Tryz.prog 135 #[.pointer (some ⟨g,0,none⟩),.agg #[.int .i64 2,.int .i64 n1,.int .i64 n2,.int .i64 n3,.int .i64 n4,.int .i64 n5,.int .i64 n6,.int .i64 n7,.slice ob nb cb],.slice o m cap,.string nm] w (bP g n₀ qs (aK ⟨2,n1,n2,n3,n4,n5,n6,n7⟩ first s) w):=by
 obtain⟨W0,A⟩:=Zx (w.alloc (.cells #[.int .i64 2,.int .i64 n1,.int .i64 n2,.int .i64 n3,.int .i64 n4,.int .i64 n5,.int .i64 n6,.int .i64 n7,.slice ob nb cb] 175));obtain⟨W1,E⟩:=Zx (W0.setCell ⟨g,1,none⟩ (.bool false));have B:=h.start ⟨2,n1,n2,n3,n4,n5,n6,n7⟩ (.slice ob nb cb) A E;have D:=Za B.2;have x1:=B.1.1;have f1:=B.1.2;have N:=Za (Zd A E);obtain⟨C,G,H⟩:=jB h.fit;have O:m<=3:=by omega
 have P:=Za (Zd G H);have I:=Za h.fit;have R:=Za h.hq;have T:=Za hm;have hl2':¬9223372036854775807<nm.size+2:=by omega
 rw[A]at x1 f1;clear h B A E G H C hm;obtain⟨a0,a1,a2,a3,a4,a5,a6,a7,a8⟩:=D.o.lay.r9;have x2:=D.o.wk.q 2 rfl;have f2:=D.o.wk.free 2;go_enter Tryz.func135,Tryz.ntmps135;go_upto_region 4 with(fail);rw[<-N.o.1,<-N.o.2];clear x1 f1;have U:=Za (show fI g n₀ vps false qs (.slice o m cap) s W1 from⟨D.o.wk,D.o.row,D.o.sh,D.o.hn,R.o,I.o⟩);go_wp2_with(go_at_call 165;refine(OJ g n₀ n1 n2 n3 n4 n5 n6 n7 ob nb cb vps first nm qs o m cap s W1 F U.o T.o L).mono ?_;rintro e w3 ⟨C,o3,m3,c3,vps3,qs3,bad3,rfl,J⟩;have M:=Za (show bP g n₀ qs (aK ⟨2,n1,n2,n3,n4,n5,n6,n7⟩ first s) W1 (.returned (.slice o3 m3 c3)) w3 from⟨C,o3,m3,c3,vps3,qs3,bad3,rfl,J⟩);clear C J);go_ret;exact bP.pre M.o D.o.st
theorem IV (g n₀:Nat) (n1 n2 n3 n4 n5 n6 n7:Int) (ob:Option Addr) (nb cb:Nat) (vps:Value) (first:Bool) (nm:ByteArray) (qs:List PD) (o:Option Addr) (m cap:Nat) (s:List Int) (w:World) (F:jN ⟨8,n1,n2,n3,n4,n5,n6,n7⟩)
  (h:fI g n₀ vps first qs (.slice o m cap) s w) (hm:m=s.length) (L:nm.size<=1000000):
  Calls Tryz.prog 135 #[.pointer (some ⟨g,0,none⟩),.agg #[.int .i64 8,.int .i64 n1,.int .i64 n2,.int .i64 n3,.int .i64 n4,.int .i64 n5,.int .i64 n6,.int .i64 n7,.slice ob nb cb],.slice o m cap,.string nm] w (bP g n₀ qs (aK ⟨8,n1,n2,n3,n4,n5,n6,n7⟩ first s) w):=by
 obtain⟨W0,A⟩:=Zx (w.alloc (.cells #[.int .i64 8,.int .i64 n1,.int .i64 n2,.int .i64 n3,.int .i64 n4,.int .i64 n5,.int .i64 n6,.int .i64 n7,.slice ob nb cb] 175));obtain⟨W1,E⟩:=Zx (W0.setCell ⟨g,1,none⟩ (.bool false));have B:=h.start ⟨8,n1,n2,n3,n4,n5,n6,n7⟩ (.slice ob nb cb) A E;have D:=Za B.2;have x1:=B.1.1;have f1:=B.1.2;have N:=Za (Zd A E);obtain⟨C,G,H⟩:=jB h.fit;have O:m<=3:=by omega
 have P:=Za (Zd G H);have I:=Za h.fit;have R:=Za h.hq;have T:=Za hm;have hl2':¬9223372036854775807<nm.size+2:=by omega
 rw[A]at x1 f1;clear h B A E G H C hm;obtain⟨a0,a1,a2,a3,a4,a5,a6,a7,a8⟩:=D.o.lay.r9;have x2:=D.o.wk.q 2 rfl;have f2:=D.o.wk.free 2;go_enter Tryz.func135,Tryz.ntmps135;go_upto_region 4 with(fail);rw[<-N.o.1,<-N.o.2];clear x1 f1;have U:=Za (show fI g n₀ vps false qs (.slice o m cap) s W1 from⟨D.o.wk,D.o.row,D.o.sh,D.o.hn,R.o,I.o⟩);go_wp2_with(go_at_call 165;refine(yW g n₀ n1 n2 n3 n4 n5 n6 n7 ob nb cb vps first nm qs o m cap s W1 8 (.inl rfl) F U.o T.o L).mono ?_;rintro e w3 ⟨C,o3,m3,c3,vps3,qs3,bad3,rfl,J⟩;have M:=Za (show bP g n₀ qs (aK ⟨8,n1,n2,n3,n4,n5,n6,n7⟩ first s) W1 (.returned (.slice o3 m3 c3)) w3 from⟨C,o3,m3,c3,vps3,qs3,bad3,rfl,J⟩);clear C J);go_ret;exact bP.pre M.o D.o.st
theorem SM (g n₀:Nat) (n1 n2 n3 n4 n5 n6 n7:Int) (ob:Option Addr) (nb cb:Nat) (vps:Value) (first:Bool) (nm:ByteArray) (qs:List PD) (o:Option Addr) (m cap:Nat) (s:List Int) (w:World) (F:jN ⟨9,n1,n2,n3,n4,n5,n6,n7⟩)
  (h:fI g n₀ vps first qs (.slice o m cap) s w) (hm:m=s.length) (L:nm.size<=1000000):
  Calls Tryz.prog 135 #[.pointer (some ⟨g,0,none⟩),.agg #[.int .i64 9,.int .i64 n1,.int .i64 n2,.int .i64 n3,.int .i64 n4,.int .i64 n5,.int .i64 n6,.int .i64 n7,.slice ob nb cb],.slice o m cap,.string nm] w (bP g n₀ qs (aK ⟨9,n1,n2,n3,n4,n5,n6,n7⟩ first s) w):=by
 obtain⟨W0,A⟩:=Zx (w.alloc (.cells #[.int .i64 9,.int .i64 n1,.int .i64 n2,.int .i64 n3,.int .i64 n4,.int .i64 n5,.int .i64 n6,.int .i64 n7,.slice ob nb cb] 175));obtain⟨W1,E⟩:=Zx (W0.setCell ⟨g,1,none⟩ (.bool false));have B:=h.start ⟨9,n1,n2,n3,n4,n5,n6,n7⟩ (.slice ob nb cb) A E;have D:=Za B.2;have x1:=B.1.1;have f1:=B.1.2;have N:=Za (Zd A E);obtain⟨C,G,H⟩:=jB h.fit;have O:m<=3:=by omega
 have P:=Za (Zd G H);have I:=Za h.fit;have R:=Za h.hq;have T:=Za hm;have hl2':¬9223372036854775807<nm.size+2:=by omega
 rw[A]at x1 f1;clear h B A E G H C hm;obtain⟨a0,a1,a2,a3,a4,a5,a6,a7,a8⟩:=D.o.lay.r9;have x2:=D.o.wk.q 2 rfl;have f2:=D.o.wk.free 2;go_enter Tryz.func135,Tryz.ntmps135;go_upto_region 4 with(fail);rw[<-N.o.1,<-N.o.2];clear x1 f1;have U:=Za (show fI g n₀ vps false qs (.slice o m cap) s W1 from⟨D.o.wk,D.o.row,D.o.sh,D.o.hn,R.o,I.o⟩);go_wp2_with(go_at_call 165;refine(yW g n₀ n1 n2 n3 n4 n5 n6 n7 ob nb cb vps first nm qs o m cap s W1 9 (.inr rfl) F U.o T.o L).mono ?_;rintro e w3 ⟨C,o3,m3,c3,vps3,qs3,bad3,rfl,J⟩;have M:=Za (show bP g n₀ qs (aK ⟨9,n1,n2,n3,n4,n5,n6,n7⟩ first s) W1 (.returned (.slice o3 m3 c3)) w3 from⟨C,o3,m3,c3,vps3,qs3,bad3,rfl,J⟩);clear C J);go_ret;exact bP.pre M.o D.o.st
def jE (first:Bool) (s:List Int):aB->Option (List Int×List (List Int))
 |.mk n body=>if n.kind=13 then(match bV false s body with
   |none=>none
   |some p=>if p.1=s then some (s,p.2) else none) else aK n first s
mutual
theorem PS (first:Bool) (s:List Int) (hf:dQ s=true):∀(l:aB) (p:List Int×List (List Int)),dD first s l=some p->dQ p.1=true/\p.2.all bA=true
 |.mk n body,p,h=>by
  rw[dD]at h;split at h
  ·cases hb:bV false s body with
   |none=>rw[hb]at h;cases h
   |some q=>
    rw[hb]at h;have hq:=nP false s hf body q hb;dsimp only at h;split at h
    ·cases h;exact⟨hf,hq.2⟩
    ·cases h
  ·rw[gK]at h;cases hd:aK n first s with
   |none=>rw[hd]at h;cases h
   |some q=>
    rw[hd]at h;dsimp only at h;split at h
    ·rename_i hc;cases h
     rwa [Bool.and_eq_true]at hc
    ·cases h
theorem nP (first:Bool) (s:List Int) (hf:dQ s=true):∀(ls:List aB) (p:List Int×List (List Int)),bV first s ls=some p->dQ p.1=true/\p.2.all bA=true
 |[],p,h=>by
  rw[bV]at h;cases h;exact⟨hf,rfl⟩
 |l::r,p,h=>by
  rw[bV]at h;cases hl:dD first s l with
  |none=>rw[hl]at h;cases h
  |some q=>
   rw[hl]at h;have h1:=PS first s hf l q hl;dsimp only at h;cases hr:bV false q.1 r with
   |none=>rw[hr]at h;cases h
   |some t=>
    rw[hr]at h;have h2:=nP false q.1 h1.1 r t hr;cases h;exact⟨h2.1,by rw[List.all_append,h1.2,h2.2];rfl⟩
end
theorem F2 (first:Bool) (s:List Int) (l:aB) (hf:dQ s=true):(jE first s l=none->dD first s l=none)/\∀p,jE first s l=some p->(p.2.all bA=false->dD first s l=none)/\(p.2.all bA=true->dQ p.1=false->dD first s l=none)/\(p.2.all bA=true->dQ p.1=true->dD first s l=some p):=by
 obtain⟨n,body⟩:=l;rw[jE,dD];by_cases hk:n.kind=13
 ·rw[if_pos hk,if_pos hk];cases hb:bV false s body with
  |none=>exact⟨fun _=>rfl,fun p h=>(by cases h)⟩
  |some q=>
   have hq:=nP false s hf body q hb;dsimp only;by_cases he:q.1=s
   ·rw[if_pos he];refine⟨fun h=>(by cases h),fun p h=>?_⟩;cases h;exact⟨fun h=>(by rw[hq.2]at h;cases h),fun _ h=>(by rw[hf]at h;cases h),fun _ _=>rfl⟩
   ·rw[if_neg he];exact⟨fun _=>rfl,fun p h=>(by cases h)⟩
 ·rw[if_neg hk,if_neg hk,gK];cases hd:aK n first s with
  |none=>exact⟨fun _=>rfl,fun p h=>(by cases h)⟩
  |some q=>
   refine⟨fun h=>(by cases h),fun p h=>?_⟩;cases h;dsimp only;refine⟨fun h=>(by rw[h,Bool.and_false];rfl),fun h1 h2=>(by rw[h2];rfl),fun h1 h2=>(by rw[h1,h2];rfl)⟩
def rM (g n₀:Nat) (qs:List PD) (c:Nat) (res:Option (List Int×List (List Int))) (w:World) (e:Ending) (w':World):Prop:=
 cF g w w'/\∃o m k vps' qs' bad',e=.returned (.slice o m k)/\aA w' g 156 (iC vps' false bad')/\aY w' n₀ g vps' qs'/\qs'.length<=qs.length+c/\(res=none->bad'≠0)/\
  ∀p,res=some p->(bad'=0↔p.2.all bA=true)/\(bad'=0->aM n₀ w' (.slice o m k) p.1/\qs'.map (·.sh)=qs.map (·.sh)++p.2)
theorem bP.d {g n₀:Nat} {qs:List PD} {c:Nat} {res:Option (List Int×List (List Int))} {w:World} {e:Ending} {w':World} (h:bP g n₀ qs res w e w') (hc:4<=c):rM g n₀ qs c res w e w':=by obtain⟨h1,o,m,k,vps',qs',bad',h2,h3,h4,h5,h6⟩:=h;exact⟨h1,o,m,k,vps',qs',bad',h2,h3,h4,by omega,h6⟩
def R2 (g n₀:Nat) (first:Bool) (qs:List PD) (c:Nat) (res:Option (List Int×List (List Int))) (w:World) (e:Ending) (w':World):Prop:=
 cF g w w'/\∃o m k vps' qs' first' bad',e=.returned (.slice o m k)/\aA w' g 156 (iC vps' first' bad')/\aY w' n₀ g vps' qs'/\qs'.length<=qs.length+c/\(first=false->first'=false)/\(res=none->bad'≠0)/\
  ∀p,res=some p->bad'=0/\aM n₀ w' (.slice o m k) p.1/\qs'.map (·.sh)=qs.map (·.sh)++p.2
def sW (ls:List aB):Prop:=∀(d g:Nat) (vps:Value) (first:Bool) (qs:List PD) (o:Option Addr) (m cap:Nat) (s:List Int) (vl:Value) (ahead:ByteArray) (w₀ w:World),bO w₀ vl ls->Below w₀.heap.size w₀ w->i7 ls d->ls.length<=64->
 fI g w₀.heap.size vps first qs (.slice o m cap) s w->qs.length+4*aS ls<=10000->m=s.length->ahead.size+100*d<=100000->
 Calls Tryz.prog 91 #[.pointer (some ⟨g,0,none⟩),vl,.slice o m cap,.string ahead] w (R2 g w₀.heap.size first qs (4*aS ls) (bV first s ls) w)
def xR (l:aB):Prop:=∀(d g:Nat) (vps:Value) (first:Bool) (qs:List PD) (o:Option Addr) (m cap:Nat) (s:List Int) (ob:Option Addr) (nb cb:Nat) (nm:ByteArray) (w₀ w:World),bO w₀ (.slice ob nb cb) l.body->Below w₀.heap.size w₀ w->mK l d->
 fI g w₀.heap.size vps first qs (.slice o m cap) s w->qs.length+4*l.count<=10000->m=s.length->nm.size+100*d<=100030->
 Calls Tryz.prog 135 #[.pointer (some ⟨g,0,none⟩),.agg (oW l.n (.slice ob nb cb)),.slice o m cap,.string nm] w (rM g w₀.heap.size qs (4*l.count) (jE first s l) w)
theorem OX (g n₀:Nat) (n1 n2 n3 n4 n5 n6 n7:Int) (ob:Option Addr) (nb cb:Nat) (vps:Value) (first:Bool) (nm:ByteArray) (qs:List PD) (o:Option Addr) (m cap:Nat) (s:List Int) (w:World) (body:List aB) (d c:Nat) (w₀:World) (T:sW body) (hr:bO w₀ (.slice ob nb cb) body) (af:Below w₀.heap.size w₀ w) (ah:w₀.heap.size=n₀) (ao:i7 body (d-1)) (av:body.length<=64) (hd:0<d) (aw:qs.length+4*aS body<=10000) (hc:4*aS body<=c) (az:nm.size+100*d<=100030)
  (h:fI g n₀ vps first qs (.slice o m cap) s w) (hm:m=s.length) (ba:nm.size<=1000000):
  Calls Tryz.prog 135 #[.pointer (some ⟨g,0,none⟩),.agg #[.int .i64 13,.int .i64 n1,.int .i64 n2,.int .i64 n3,.int .i64 n4,.int .i64 n5,.int .i64 n6,.int .i64 n7,.slice ob nb cb],.slice o m cap,.string nm] w (rM g n₀ qs c (jE first s (.mk ⟨13,n1,n2,n3,n4,n5,n6,n7⟩ body)) w):=by
 obtain⟨W0,ac⟩:=Zx (w.alloc (.cells #[.int .i64 13,.int .i64 n1,.int .i64 n2,.int .i64 n3,.int .i64 n4,.int .i64 n5,.int .i64 n6,.int .i64 n7,.slice ob nb cb] 175));obtain⟨W1,ai⟩:=Zx (W0.setCell ⟨g,1,none⟩ (.bool false));have ad:=h.start ⟨13,n1,n2,n3,n4,n5,n6,n7⟩ (.slice ob nb cb) ac ai;have R:=Za ad.2;have x1:=ad.1.1;have f1:=ad.1.2;have HW:=Za (Zd ac ai);obtain⟨C,ap,aq⟩:=jB h.fit;have bb:m<=3:=by omega
 have bc:=Za (Zd ap aq);have U:=Za h.fit;have HQ:=Za h.hq;have HM:=Za hm;have hl2':¬9223372036854775807<nm.size+2:=by omega
 rw[ac]at x1 f1;clear h ad ac ai ap aq C hm;obtain⟨a0,a1,a2,a3,a4,a5,a6,a7,a8⟩:=R.o.lay.r9;have x2:=R.o.wk.q 2 rfl;have f2:=R.o.wk.free 2;have P:=Za (show jE first s (.mk ⟨13,n1,n2,n3,n4,n5,n6,n7⟩ body)=match bV false s body with
   |none=>none
   |some p=>if p.1=s then some (s,p.2) else none by
  rw[jE,if_pos rfl]
  all_goals(cases bV false s body<;>rfl))
 have D:=Za (T (d-1) g vps false qs o m cap s (.slice ob nb cb) (nm++{data:=#[46]}) w₀ W1 hr (af.trans (R.o.st.low.mono (by rw[ah];exact R.o.hn))) ao av (by rw[ah];exact⟨R.o.wk,R.o.row,R.o.sh,R.o.hn,HQ.o,U.o⟩) aw HM.o (by
  have:(nm++{data:=#[46]}:ByteArray).size=nm.size+1:=by simp[ByteArray.size_append];rfl
  rw[this];omega))
 rw[ah]at D;have bd:¬9223372036854775807<nm.size+1:=by omega
 obtain⟨res,V⟩:=Zx (bV false s body);rw[<-V]at D P;have ag:=Za V;clear V T hr ao af;go_enter Tryz.func135,Tryz.ntmps135;go_upto_region 4 with(fail);rw[<-HW.o.1,<-HW.o.2];clear x1 f1;cases res with
 |none=>
  go_wp2_with(go_at_call 91;refine D.o.mono ?_;rintro e w3 ⟨C,o3,m3,c3,vps3,qs3,first3,bad3,rfl,E,F,G,H,ar,_⟩;obtain rfl:=H rfl;have B:=Za (R.o.par C E F);have I:=Za (Zd G (ar rfl));clear C E F G H ar;refine aD ?_);have x2:=B.o.wk.q 2 rfl;have be:(bad3==0)=false:=by simpa using I.o.2
  refine aC ?_;go_wp2_with(go_at_call 92;refine(jH _ s _ B.o.sh.1 (by rw[<-HM.o];omega)).mono ?_;rintro e w5 ⟨v5,rfl,A,J⟩;obtain⟨o5,c5,rfl⟩:=aJ A;have X:=Za J;clear A J);go_ret;have Y:=B.o.next X.o;exact⟨Y.st,_,_,_,_,_,_,rfl,Y.wk,Y.row,by have:=I.o.1;omega,fun _=>I.o.2,fun p hp=>(by rw[P.o]at hp;cases hp)⟩
 |some p=>
  have ax:=Za (nP false s U.o body p ag.o.symm).1;by_cases N:p.1=s
  ·have ae:=Za (show jE first s (.mk ⟨13,n1,n2,n3,n4,n5,n6,n7⟩ body)=some (s,p.2) by rw[P.o];exact if_pos N);go_wp2_with(go_at_call 91;refine D.o.mono ?_;rintro e w3 ⟨C,o3,m3,c3,vps3,qs3,first3,bad3,rfl,E,F,G,H,_,Z⟩;obtain rfl:=H rfl;obtain⟨rfl,L,M⟩:=Z p rfl;have B:=Za (R.o.par C E F);have I:=Za (Zd G M);have aa:=Za L;clear C E F G H Z L M;refine aD ?_);have x2:=B.o.wk.q 2 rfl;have au:=Za (nP false s U.o body p);have aj:=Za (show p.1.length<=140737488351232 by rw[N,<-HM.o];omega);have ak:=Za N;have al:=Za (fun(W:World) (hv:Rd W .i64 (.slice o3 m3 c3) p.1) (hu:Rd W .i64 (.slice o m cap) s)=>(pI _ _ p.1 s W hv hu aj.o).mono (fun e w' h=>(⟨by rw[h.1,decide_eq_true ak.o],h.2⟩:e=.returned (.bool true)/\aN W w')));clear N;refine aC ?_;go_wp2_with(first
    |(go_at_call 94;refine(al.o _ aa.o.1 B.o.sh.1).mono ?_;rintro e w4 ⟨rfl,ab⟩;have O:=Za (B.o.next (ab.below _));clear ab)
    |(go_at_call 92;refine(jH _ s _ O.o.sh.1 (by rw[<-HM.o];omega)).mono ?_;rintro e w5 ⟨v5,rfl,A,J⟩;have ay:=Za (show aH w5 w4.heap.size 3 .i64 v5 s from A);obtain⟨o5,c5,rfl⟩:=aJ A;have X:=Za J;clear A J))
   go_ret;have Y:=O.o.next X.o;exact⟨Y.st,_,_,_,_,_,_,rfl,Y.wk,Y.row,by have:=I.o.1;omega,fun h=>(by rw[ae.o]at h;cases h),fun q hq=>(by
    rw[ae.o]at hq;cases hq;exact⟨⟨fun _=>(au.o ag.o.symm).2,fun _=>rfl⟩,fun _=>⟨aM.of_own ay.o,I.o.2⟩⟩)⟩
  ·have ae:=Za (show jE first s (.mk ⟨13,n1,n2,n3,n4,n5,n6,n7⟩ body)=none by rw[P.o];exact if_neg N);have ak:=Za N;go_wp2_with(go_at_call 91;refine D.o.mono ?_;rintro e w3 ⟨C,o3,m3,c3,vps3,qs3,first3,bad3,rfl,E,F,G,H,_,Z⟩;obtain rfl:=H rfl;obtain⟨rfl,L,M⟩:=Z p rfl;have B:=Za (R.o.par C E F);have I:=Za (Zd G M);have aa:=Za L;clear C E F G H Z L M;refine aD ?_);have x2:=B.o.wk.q 2 rfl;have aj:=Za (show p.1.length<=140737488351232 by have:=(jB (ax.o)).1;omega);have al:=Za (fun(W:World) (hv:Rd W .i64 (.slice o3 m3 c3) p.1) (hu:Rd W .i64 (.slice o m cap) s)=>(pI _ _ p.1 s W hv hu aj.o).mono (fun e w' h=>(⟨by rw[h.1,decide_eq_false ak.o],h.2⟩:e=.returned (.bool false)/\aN W w')));clear N;refine aC ?_;go_wp2_with(first
    |(go_at_call 94;refine(al.o _ aa.o.1 B.o.sh.1).mono ?_;rintro e w4 ⟨rfl,ab⟩;have O:=Za (B.o.next (ab.below _));have x4:=O.o.wk.q 2 rfl;have f4:=O.o.wk.free 2;clear ab)
    |(go_at_call 92;refine(jH _ s _ (O.o.bad 2).sh.1 (by rw[<-HM.o];omega)).mono ?_;rintro e w5 ⟨v5,rfl,A,J⟩;obtain⟨o5,c5,rfl⟩:=aJ A;have X:=Za J;clear A J))
   go_ret;have Y:=(O.o.bad 2).next X.o;exact⟨Y.st,_,_,_,_,_,_,rfl,Y.wk,Y.row,by have:=I.o.1;omega,fun _=>by decide,fun q hq=>(by rw[ae.o]at hq;cases hq)⟩
theorem KT (k:Nat) (hk:k<=100):(⟨(Lib.itoa (k:Int)).toArray⟩:ByteArray).size<=21:=by
 show(Lib.itoa (k:Int)).toArray.size<=21
 rw[List.size_toArray];exact Lib.itoa_length_le (k:Int) (by omega) (by omega)
theorem M5 (k:Nat) (v:Value) (w:World) (h:kJ w v k) (hk:k<=100):Calls Tryz.prog 136 #[.agg #[.bool false,v]] w fun e w'=>(∃tx:ByteArray,e=.returned (.string tx)/\tx.size<=21)/\Below w.heap.size w w':=
 (CH k v w h (by omega)).mono fun e w' hh=>⟨⟨_,hh.1,KT k hk⟩,hh.2⟩
theorem R1 {first:Bool} {s:List Int} {l:aB} {p:List Int×List (List Int)} (hf:dQ s=true) (h:jE first s l=some p):p.1.length<=8:=by
 obtain⟨n,body⟩:=l;have hs:=(jB hf).1;rw[jE]at h;split at h
 ·cases hb:bV false s body with
  |none=>rw[hb]at h;cases h
  |some q=>
   rw[hb]at h;dsimp only at h;split at h
   ·cases h;dsimp only;omega
   ·cases h
 ·exact(xC (by omega) h).1
theorem FF {P:Program} {ops:Array Oper} {rest:List Oper} {o:Oper} {a:Act} {w:World} {Q:Exit->Act->World->Prop} (hw:Region.wanted o (yielded ops a.tmps)=true) (s x:Operand) (t:TypeId)
  (ho:o.op=.call {callee:=.builtin .append,args:=#[s,x],argTypes:=#[t,t]})
  (B:Nat) (e:TypeId) (K:IntKind) (i:TypeInfo) (bytes:Nat) (ht:P.underlying t=some (.slice e)) (hi:P.info? e=some i) (hz:i.zero=some (.int K 0)) (C:i.size=1) (G:i.bytes=bytes)
  (v:Value) (xs:List Int) (hs:a.eval s=v) (E:aH w B e K v xs) (u:Value) (ys:List Int) (hx:a.eval x=u) (hr:Rd w K u ys)
  (H:xs.length+ys.length<=maxLen) (A:(xs.length+ys.length)*bytes<=140737488355328) (D:B<=w.heap.size)
  (h:∀v' w',aH w' B e K v' (xs++ys)->w.grownBy w' v.ownBlock->(v'.ownBlock=v.ownBlock\/v'.ownBlock=some w.heap.size)->wpList P ops Q rest (a.put o.dst v') w'):
  wpList P ops Q (o::rest) a w:=by rw[wpList,if_pos hw];left;obtain⟨v',w',F,h2,h3,h4⟩:=vZ (P:=P) w t o.type B e K i bytes ht hi hz C G v xs E u ys hr H A D;unfold Oper.wp execOp;simp only[ho,resolve,invoke,builtin,Sem.run_bind,Sem.run_pure,Result.andThen_ok,List.map_toArray,List.map_cons,List.map_nil,hs,hx,F];exact h v' w' h2 h3 h4
theorem B5 (ls:List aB) (k:Nat):aS (ls.take k)<=aS ls:=by have:=xD (ls.take k) (ls.drop k);rw[List.take_append_drop]at this;omega
theorem vP {w4 W:World} {b o:Nat} {v0 v1 v2 v3 v4 v5 v6 v7 v8:Value} (hc:w4.cell? ⟨b,o,none⟩=some v0/\w4.cell? ⟨b,o+1,none⟩=some v1/\w4.cell? ⟨b,o+2,none⟩=some v2/\w4.cell? ⟨b,o+3,none⟩=some v3/\w4.cell? ⟨b,o+4,none⟩=some v4/\w4.cell? ⟨b,o+5,none⟩=some v5/\w4.cell? ⟨b,o+6,none⟩=some v6/\w4.cell? ⟨b,o+7,none⟩=some v7/\w4.cell? ⟨b,o+8,none⟩=some v8) (h:Below w4.heap.size w4 W):W.cell? ⟨b,o,none⟩=some v0/\W.cell? ⟨b,o+1,none⟩=some v1/\W.cell? ⟨b,o+2,none⟩=some v2/\W.cell? ⟨b,o+3,none⟩=some v3/\W.cell? ⟨b,o+4,none⟩=some v4/\W.cell? ⟨b,o+5,none⟩=some v5/\W.cell? ⟨b,o+6,none⟩=some v6/\W.cell? ⟨b,o+7,none⟩=some v7/\W.cell? ⟨b,o+8,none⟩=some v8:=by obtain⟨h0,h1,h2,h3,h4,h5,h6,h7,h8⟩:=hc;exact⟨(h.cell (p:=⟨b,o,none⟩) (aP h0)).trans h0,(h.cell (p:=⟨b,o+1,none⟩) (aP h1)).trans h1,(h.cell (p:=⟨b,o+2,none⟩) (aP h2)).trans h2,(h.cell (p:=⟨b,o+3,none⟩) (aP h3)).trans h3,(h.cell (p:=⟨b,o+4,none⟩) (aP h4)).trans h4,(h.cell (p:=⟨b,o+5,none⟩) (aP h5)).trans h5,(h.cell (p:=⟨b,o+6,none⟩) (aP h6)).trans h6,(h.cell (p:=⟨b,o+7,none⟩) (aP h7)).trans h7,(h.cell (p:=⟨b,o+8,none⟩) (aP h8)).trans h8⟩
theorem MU (n:aE) (body:List aB) (hb:sW body):xR (.mk n body):=by
 intro d g vps first qs o m cap s ob nb cb nm w₀ w hr F B h hq C H;rw[mK]at B;obtain⟨I,B⟩:=B;obtain⟨k,n1,n2,n3,n4,n5,n6,n7⟩:=n;have hc:(aB.mk ⟨k,n1,n2,n3,n4,n5,n6,n7⟩ body).count=1+aS body:=by rw[aB.count]
 rw[hc]at hq ⊢;have A:nm.size<=1000000:=by omega
 simp only[aB.n,aB.body,oW]at hr B ⊢;rcases B with⟨rfl,hd,G⟩|⟨D,B⟩
 ·exact OX g w₀.heap.size n1 n2 n3 n4 n5 n6 n7 ob nb cb vps first nm qs o m cap s w body d (4*(1+aS body)) w₀ hb hr F rfl G I hd (by omega) (by omega) H h C A
 ·have E:jE first s (.mk ⟨k,n1,n2,n3,n4,n5,n6,n7⟩ body)=aK ⟨k,n1,n2,n3,n4,n5,n6,n7⟩ first s:=by rw[jE,if_neg D]
  rw[E];have fin:∀{e:Ending} {w':World},bP g w₀.heap.size qs (aK ⟨k,n1,n2,n3,n4,n5,n6,n7⟩ first s) w e w'->rM g w₀.heap.size qs (4*(1+aS body)) (aK ⟨k,n1,n2,n3,n4,n5,n6,n7⟩ first s) w e w':=fun h=>h.d (by omega);clear E;by_cases k1:k=1
  ·subst k1;exact(G3 g _ n1 n2 n3 n4 n5 n6 n7 ob nb cb vps first nm qs o m cap s w h C A).mono fun e w' h=>fin h
  by_cases k2:k=2
  ·subst k2;exact(G2 g _ n1 n2 n3 n4 n5 n6 n7 ob nb cb vps first nm qs o m cap s w (B.1 (.inl rfl)) h C A).mono fun e w' h=>fin h
  by_cases k8:k=8
  ·subst k8;exact(IV g _ n1 n2 n3 n4 n5 n6 n7 ob nb cb vps first nm qs o m cap s w (B.1 (.inr (.inl rfl))) h C A).mono fun e w' h=>fin h
  by_cases k9:k=9
  ·subst k9;exact(SM g _ n1 n2 n3 n4 n5 n6 n7 ob nb cb vps first nm qs o m cap s w (B.1 (.inr (.inr rfl))) h C A).mono fun e w' h=>fin h
  by_cases k10:k=10
  ·subst k10;exact(KP g _ n1 n2 n3 n4 n5 n6 n7 ob nb cb vps first nm qs o m cap s w h C A).mono fun e w' h=>fin h
  by_cases k11:k=11
  ·subst k11;exact(GX g _ n1 n2 n3 n4 n5 n6 n7 ob nb cb vps first nm qs o m cap s w h C A).mono fun e w' h=>fin h
  by_cases k12:k=12
  ·subst k12;exact(LP g _ n1 n2 n3 n4 n5 n6 n7 ob nb cb vps first nm qs o m cap s w (B.2 rfl).1 (B.2 rfl).2 h C A).mono fun e w' h=>fin h
  exact(GA g _ n1 n2 n3 n4 n5 n6 n7 ob nb cb vps first nm qs o m cap s w k ⟨k1,k2,k8,k9,k10,k11,k12,D⟩ h C A).mono fun e w' h=>fin h
structure BAt (g n₀:Nat) (first:Bool) (qs:List PD) (ls:List aB) (s:List Int) (k:Nat) (o:Option Addr) (m c:Nat) (w W:World):Prop where
 st:cF g w W
 row:∃vps' qs' s' ps,aA W g 156 (iC vps' (first&&decide (k=0)) 0)/\aY W n₀ g vps' qs'/\qs'.length<=qs.length+4*aS (ls.take k)/\bV first s (ls.take k)=some (s',ps)/\dQ s'=true/\m=s'.length/\aM n₀ W (.slice o m c) s'/\qs'.map (·.sh)=qs.map (·.sh)++ps
structure yH (g n₀:Nat) (first:Bool) (qs:List PD) (ls:List aB) (s:List Int) (w W:World):Prop where
 st:cF g w W
 row:∃vps' qs' first' bad',aA W g 156 (iC vps' first' bad')/\aY W n₀ g vps' qs'/\qs'.length<=qs.length+4*aS ls/\(first=false->first'=false)/\bad'≠0/\bV first s ls=none
theorem AH (ls:List aB) (ai:∀l∈ls,xR l):sW ls:=by
 intro d g vps first qs o m cap s vl ahead w₀ w hr aj bf cv h bg hm cw;obtain⟨i0,hi,bh,bi,bj⟩:=info_parts nH;obtain⟨ol,cl,rfl⟩:=hr.len;have bk:=Za ai;have HR:=Za hr;have bl:=Za aj;have ck:=Za bf;have HN:=Za h.hn;have bm:=Za bg;have cm:=Za (show BAt g w₀.heap.size first qs ls s 0 o m cap w w from⟨cF.refl _ _,vps,qs,s,[],by rw[decide_eq_true rfl,Bool.and_true];exact h.wk,h.row,by simp[aS],by rw[List.take_zero,sL],h.fit,hm,h.sh,by simp⟩);clear ai hr aj bf h bg hm;go_enter Tryz.func91,Tryz.ntmps91;go_wp2;go_loopw[2,9] (fun v i wr=>(∃k:Nat,k<=ls.length/\i=.int .i64 k/\Hid (∃o' m' c',v=.slice o' m' c'/\BAt g w₀.heap.size first qs ls s k o' m' c' w wr))\/(∃k:Nat,k<=ls.length/\i=.int .i64 k/\Hid (∃o' m' c',v=.slice o' m' c')/\Hid (yH g w₀.heap.size first qs ls s w wr))) (fun _ i _=>ls.length-(intOf i).toNat)
 case atStart=>exact .inl ⟨0,Ze _,rfl,Za ⟨_,_,_,rfl,cm.o⟩⟩
 case round=>
  obtain⟨w1,rfl⟩:=Zx wr;rcases hrel with⟨k,hk,rfl,HB⟩|⟨k,hk,rfl,HV,HB⟩
  ·obtain⟨o1,m1,c1,rfl,hB⟩:=HB.o;obtain⟨R,vps1,qs1,s1,ps1,I,G,T,bn,bo,bp,ak,al⟩:=hB;have N:=Za (show fI g w₀.heap.size vps1 (first&&decide (k=0)) qs1 (.slice o1 m1 c1) s1 w1 from⟨I,G,ak,HN.o,by have:=B5 ls k;have:=bm.o;omega,bo⟩);have D:=Za (Zd R (Zd bn (Zd bp (Zd al T))));have x2:=I.q 2 rfl;clear R I G T bn bo bp ak al;by_cases O:k<ls.length
   ·have bq:=xW O;obtain⟨b,off,vb,rfl,A,U,ao⟩:=HR.o.lay k O;have HL:=Za (bk.o _ (List.getElem_mem O));have V:=Za (ck.o.at k O);have F:=Za (DI O D.o.2.1);have H:=Za (F2 (first&&decide (k=0)) s1 ls[k] N.o.fit);have L:=Za bq;clear bq;generalize ls[k]=x at A U ao HL V F H L;obtain⟨n,body⟩:=x;simp only[aB.n,aB.body]at A U ao HL V;obtain⟨ob,cb,rfl⟩:=U.len;have cn:=Za U;have c0:=A 0 _ rfl;have c1':=A 1 _ rfl;have c2:=A 2 _ rfl;have c3:=A 3 _ rfl;have c4:=A 4 _ rfl;have c5:=A 5 _ rfl;have c6:=A 6 _ rfl;have c7:=A 7 _ rfl;have c8:=A 8 _ rfl;simp only[Nat.add_zero]at c0;have ar:=Za (Zd c0 (Zd c1' (Zd c2 (Zd c3 (Zd c4 (Zd c5 (Zd c6 (Zd c7 c8))))))));have P:=Za (show Below w₀.heap.size w₀ w1 from bl.o.trans (D.o.1.low.mono HN.o));obtain⟨z0,z1,z2,z3,z4,z5,z6,z7,z8⟩:=vP ar.o P.o;clear A U c0 c1' c2 c3 c4 c5 c6 c7 c8;have HX:=Za (show Below w1.heap.size w1 w1.drew from Below.drew (Zc _ _));obtain⟨raw,X⟩:=Zx (jE (first&&decide (k=0)) s1 (.mk n body));have Y:=Za X;have br:=Za (fun(W:World) (hX:Below w1.heap.size w1 W) (tx:ByteArray) (au:tx.size<=21)=>show Calls Tryz.prog 135 #[.pointer (some ⟨g,0,none⟩),.agg #[.int .i64 n.kind,.int .i64 n.inn,.int .i64 n.o,.int .i64 n.size,.int .i64 n.stride,.int .i64 n.pad,.int .i64 n.percent,.int .i64 n.heads,.slice ob body.length cb],.slice o1 m1 c1,.string (ahead++tx)] W (rM g w₀.heap.size qs1 (4*(aB.mk n body).count) raw W) by
     rw[X];refine HL.o d g vps1 (first&&decide (k=0)) qs1 o1 m1 c1 s1 ob body.length cb (ahead++tx) w₀ W cn.o (P.o.trans (hX.mono P.o.size)) V.o ⟨N.o.wk.next hX,N.o.row.below hX,N.o.sh.below hX,N.o.hn,N.o.hq,N.o.fit⟩ ?_ D.o.2.2.1 ?_
     ·have h1:=L.o.1;have h2:=L.o.2;have h3:=D.o.2.2.2.2;have h4:=bm.o;omega
     ·rw[ByteArray.size_append];omega)
    have bs:k<=100:=by omega
    clear X;have co:=Za (show ∀t:ByteArray,t.size<=21->¬9223372036854775807<ahead.size+t.size from fun t ht=>by omega);go_wp2_with fail;go_region_held3 (fun w'=>w'.cell? ⟨b,off+k*9,none⟩=some (.int .i64 n.kind)/\w'.cell? ⟨b,off+k*9+1,none⟩=some (.int .i64 n.inn)/\w'.cell? ⟨b,off+k*9+2,none⟩=some (.int .i64 n.o)/\w'.cell? ⟨b,off+k*9+3,none⟩=some (.int .i64 n.size)/\w'.cell? ⟨b,off+k*9+4,none⟩=some (.int .i64 n.stride)/\w'.cell? ⟨b,off+k*9+5,none⟩=some (.int .i64 n.pad)/\w'.cell? ⟨b,off+k*9+6,none⟩=some (.int .i64 n.percent)/\w'.cell? ⟨b,off+k*9+7,none⟩=some (.int .i64 n.heads)/\w'.cell? ⟨b,off+k*9+8,none⟩=some (.slice ob body.length cb))
     (first|with_reducible exact cp.o|exact vP ar.o (P.o.trans (HX.o.mono P.o.size)))
     (first
     |(go_at_call 137;refine(AP k _ (by omega)).mono ?_;rintro e wf ⟨⟨vf,rfl,bt⟩,bu⟩;have cq:=Za bt;have HX:=Za (HX.o.trans (bu.mono HX.o.size));clear bt bu)
     |(go_at_call 136;refine(M5 k vf _ cq.o bs).mono ?_;rintro e wt ⟨⟨tx,rfl,au⟩,bw⟩;have HX:=Za (HX.o.trans (bw.mono HX.o.size));have cx:=co.o tx au;clear bw)
     |(go_at_call 135;refine(br.o _ HX.o tx au).mono ?_;rintro e w3 ⟨av,o3,m3,c3,vps3,qs3,bad3,rfl,bx,bz,ca,cd,ce⟩;have B:=Za (Zd bx (Zd bz (Zd ca (Zd cd ce))));have aw:=Za ((cF.below HX.o (Nat.le_of_lt N.o.wk.lt)).trans av);have cp:=Za (vP ar.o (P.o.trans (((cF.below HX.o (Nat.le_of_lt N.o.wk.lt)).trans av).low.mono HN.o)));clear av bx bz ca cd ce))
    clear z0 z1 z2 z3 z4 z5 z6 z7 z8 x2;have cf:=Za (show qs3.length<=qs.length+4*aS (ls.take (k+1)) by have h1:=L.o.1;have h3:=D.o.2.2.2.2;have h5:=B.o.2.2.1;omega);have ap:=Za (show qs3.length<=qs.length+4*aS ls by have:=B5 ls (k+1);have:=cf.o;omega);have x2:=B.o.1.q 2 rfl;have f2:=B.o.1.free 2;by_cases ae:bad3=0
    ·subst ae;cases raw with
     |none=>exact absurd rfl (B.o.2.2.2.1 rfl)
     |some p=>
      have HY:=Za (B.o.2.2.2.2 p rfl);have Z:=Za (HY.o.1.1 rfl);obtain⟨ax,aq⟩:=HY.o.2 rfl;have ay:=Za ax;have cr:=Za aq;have cg:m3=p.1.length:=by obtain⟨oo,cc,e⟩:=ax.slice;cases e;rfl
      have ch:=Za cg;have ci:p.1.length<=8:=R1 N.o.fit Y.o.symm;have cy:m3<=8:=by omega
      have af:=Za (show [(1:Int)].length+p.1.length<=maxLen/\([(1:Int)].length+p.1.length)*8<=140737488355328 by unfold maxLen;simp;omega);have ag:=Za (fV w3 1);clear ax aq ci cg;have M:=Za (fun(W:World) (v:Value) (hv:Rd W .i64 v ([1]++p.1))=>uO v ([1]++p.1) W hv (by have:=ch.o;simp;omega));have cs:=Za (show bA ([1]++p.1)=dQ p.1 from rfl);rw[cs.o]at M;obtain⟨fb,az⟩:=Zx (dQ p.1);rw[<-az]at M;have ba:=Za az;clear az;have hB:∀o:Obj,(w3.alloc o).heap.size=w3.heap.size+1:=fun o=>World.size_alloc _ _;clear hB;cases fb with
      |true=>
       go_wp2_with(first
        |(at_builtin;refine FF rfl _ _ 30 rfl w3.heap.size 3 .i64 i0 8 Tryz.underlying30 hi bh bi bj _ [1] rfl ag.o _ p.1 rfl (ay.o.1.alloc _) af.o.1 af.o.2 (by simp) ?_;intro v7 w7 C aa _;have bb:=Za (Rd.of_own C);have bc:=Za (((Zc _ _).alloc (Zb _) _).grown aa (by simp) (fun k hk=>(ag.o.lt k hk).1));obtain⟨o7,c7,rfl⟩:=aJ C;clear C aa)
        |(go_at_call 90;refine(M.o _ _ bb.o).mono ?_;rintro e w8 ⟨rfl,ab⟩;have E:=Za (bc.o.trans (ab.below _));clear ab))
       have ct:=Za (show BAt g w₀.heap.size first qs ls s (k+1) o3 m3 c3 w w8 from⟨(D.o.1.trans aw.o).trans (cF.below E.o (Nat.le_of_lt B.o.1.lt)),vps3,qs3,p.1,ps1++p.2,by rw[decide_eq_false (by omega),Bool.and_false];exact B.o.1.next E.o,B.o.2.1.below E.o,cf.o,F.o.1 p ((H.o.2 p Y.o.symm).2.2 Z.o ba.o.symm),ba.o.symm,ch.o,ay.o.below E.o,by rw[cr.o,D.o.2.2.2.1,List.append_assoc]⟩);clear x2 f2;go_wp2_with fail;go_roundw
       case rel=>exact .inl ⟨k+1,by omega,by go_num,Za ⟨_,_,_,rfl,ct.o⟩⟩
       case measure=>simp[intOf];omega
      |false=>
       go_wp2_with(first
        |(at_builtin;refine FF rfl _ _ 30 rfl w3.heap.size 3 .i64 i0 8 Tryz.underlying30 hi bh bi bj _ [1] rfl ag.o _ p.1 rfl (ay.o.1.alloc _) af.o.1 af.o.2 (by simp) ?_;intro v7 w7 C aa _;have bb:=Za (Rd.of_own C);have bc:=Za (((Zc _ _).alloc (Zb _) _).grown aa (by simp) (fun k hk=>(ag.o.lt k hk).1));obtain⟨o7,c7,rfl⟩:=aJ C;clear C aa)
        |(go_at_call 90;refine(M.o _ _ bb.o).mono ?_;rintro e w8 ⟨rfl,ab⟩;have E:=Za (bc.o.trans (ab.below _));have x3:w8.cell? ⟨g,2,none⟩=some (.int .i64 0):=(B.o.1.next E.o).cell 2 rfl;have f3:=(B.o.1.next E.o).free 2;clear ab))
       have J:=Za (F.o.2 ((H.o.2 p Y.o.symm).2.1 Z.o ba.o.symm));have ah:=B.o.1.next E.o;have bd:=Za (show yH g w₀.heap.size first qs ls s w (w8.setCell ⟨g,2,none⟩ (.int .i64 5))from⟨((D.o.1.trans aw.o).trans (cF.below E.o (Nat.le_of_lt B.o.1.lt))).trans (cF.set ah 2 _),vps3,qs3,false,5,ah.set 2 _,(B.o.2.1.below E.o).setR ah 2 _ HN.o,ap.o,fun _=>rfl,by decide,J.o⟩);clear x2 f2 ah;go_wp2_with fail;go_roundw
       case rel=>exact .inr ⟨k+1,by omega,by go_num,Za ⟨_,_,_,rfl⟩,bd⟩
       case measure=>simp[intOf];omega
    ·have cu:(bad3==0)=false:=by simpa using ae
     have J:=Za (show bV first s ls=none from F.o.2 (by
      cases be:raw with
      |none=>exact H.o.1 (by rw[<-Y.o];exact be)
      |some p=>
       have h1:=B.o.2.2.2.2 p be;refine(H.o.2 p (by rw[<-Y.o];exact be)).1 ?_;cases h2:p.2.all bA with
       |false=>rfl
       |true=>exact absurd (h1.1.2 h2) ae))
     have bd:=Za (show yH g w₀.heap.size first qs ls s w w3 from⟨D.o.1.trans aw.o,vps3,qs3,false,bad3,B.o.1,B.o.2.1,ap.o,fun _=>rfl,ae,J.o⟩);clear f2;go_wp2_with fail;go_roundw
     case rel=>exact .inr ⟨k+1,by omega,by go_num,Za ⟨_,_,_,rfl⟩,bd⟩
     case measure=>simp[intOf];omega
   ·obtain rfl:k=ls.length:=by omega
    go_wp2_with fail;go_ret;refine⟨D.o.1,o1,m1,c1,vps1,qs1,_,0,rfl,N.o.wk,N.o.row,?_,fun h=>by rw[h];rfl,fun h=>?_,fun p hp=>?_⟩
    ·have:=D.o.2.2.2.2;rwa [List.take_length]at this
    ·have:=D.o.2.1;rw[List.take_length,h]at this;cases this
    ·have h1:=D.o.2.1;rw[List.take_length,hp]at h1;cases h1;exact⟨rfl,N.o.sh,D.o.2.2.2.1⟩
  ·obtain⟨o1,m1,c1,rfl⟩:=HV.o;obtain⟨R,vps1,qs1,first1,bad1,I,G,T,cj,ac,ad⟩:=HB.o;have D:=Za (Zd R (Zd I (Zd G (Zd T (Zd cj (Zd ac ad))))));have x2:=I.q 2 rfl;have cu:(bad1==0)=false:=by simpa using ac
   clear R I G T cj ac ad;by_cases O:k<ls.length
   ·go_wp2_with fail;go_ret;exact⟨D.o.1,o1,m1,c1,vps1,qs1,first1,bad1,rfl,D.o.2.1,D.o.2.2.1,D.o.2.2.2.1,D.o.2.2.2.2.1,fun _=>D.o.2.2.2.2.2.1,fun p hp=>(by rw[D.o.2.2.2.2.2.2]at hp;cases hp)⟩
   ·obtain rfl:k=ls.length:=by omega
    go_wp2_with fail;go_ret;exact⟨D.o.1,o1,m1,c1,vps1,qs1,first1,bad1,rfl,D.o.2.1,D.o.2.2.1,D.o.2.2.2.1,D.o.2.2.2.2.1,fun _=>D.o.2.2.2.2.2.1,fun p hp=>(by rw[D.o.2.2.2.2.2.2]at hp;cases hp)⟩
theorem KS:∀l,xR l:=aB.ind fun n body h=>MU n body (AH body h)
theorem T8 (ls:List aB):sW ls:=AH ls fun l _=>KS l
theorem VC:(Tryz.prog.info? 3).map (fun i=>(i.zero,i.size,i.bytes))=some (some (.int .i64 0),1,8):=by kernel_rfl
theorem TP:(Tryz.prog.info? 2).map (fun i=>(i.zero,i.size,i.bytes))=some (some (.int .i64 0),1,8):=by kernel_rfl
theorem UF:(Tryz.prog.info? 100).map (fun i=>(i.zero,i.size,i.bytes))=some (some (.agg #[.slice none 0 0,.slice none 0 0]),2,48):=by kernel_rfl
theorem UC:(Tryz.prog.info? 175).map (fun i=>(i.zero,i.size,i.bytes))=some (some (.agg #[.int .i64 0,.int .i64 0,.int .i64 0,.int .i64 0,.int .i64 0,.int .i64 0,.int .i64 0,.int .i64 0,.slice none 0 0]),9,88):=by kernel_rfl
theorem oM {B:Nat} {e:TypeId} {s n cap:Nat} {o:Option Addr} {w:World} {xs:List Value} (h:w.ownsRow B e s (.slice o n cap) n xs) (h0:0<n):∃g,o=some ⟨g,0,none⟩/\B<=g/\(∃(cs:Array Value) (fr:Nat×Nat),w.heap[g]?=some (.cells cs e fr))/\(∀j u,xs[j]?=some u->w.cell? ⟨g,j,none⟩=some u)/\∀j,w.frozen? ⟨g,j,none⟩=false:=by
 obtain⟨hl,⟨he,h1⟩|⟨g,cap',cur,he,hb,hg,hn,hm,hc,ht⟩⟩:=h
 ·omega
 ·injection he with e1 e2 e3;subst e1 e3;refine⟨g,rfl,hb,⟨cur,_,hg⟩,fun j u hu=>?_,fun j=>by simp[World.frozen?,hg]⟩;rw[cell_of_row w g j cur e (0,0) hg];rw[<-ht,List.getElem?_take]at hu;split at hu
  ·rwa [Array.getElem?_toList]at hu
  ·cases hu
theorem dC.slice {w:World} {B:Nat} {T:TypeId} {K:IntKind} {v:Value} (h:dC w B T K v):∃o n c,v=.slice o n c:=by obtain⟨xs,ho,_⟩:=h;obtain⟨o,c,e⟩:=aJ ho;exact⟨o,_,c,e⟩
theorem wG (v:Value) (B:Nat) (w:World) (h:dC w B 3 .i64 v) (hB:B<=w.heap.size):
  Calls Tryz.prog 48 #[v] w fun e w'=>e=.returned (.tuple #[])/\bH B w w':=by
 obtain⟨i0,hi,D,E,F⟩:=info_parts VC;obtain⟨xs,ho,hl⟩:=h;obtain⟨o,cap,rfl⟩:=aJ ho;have L:=Za (fun(W:World) (hs:bH B w W)=>dC.sp oR ⟨xs,ho,hl⟩ hs);clear ho;go_enter Tryz.func48,Tryz.ntmps48;go_wp2;go_loopw[2] (fun i wr=>∃k:Nat,k<=xs.length/\i=.int .i64 k/\bH B w wr) (fun i _=>xs.length-(intOf i).toNat)
 case atStart=>exact⟨0,Ze _,rfl,bH.refl _ _⟩
 case round=>
  obtain⟨k,hk,rfl,hS⟩:=hrel;obtain⟨w3,rfl⟩:=Zx wr;obtain⟨ys,C,G⟩:=L.o w3 hS;have H:=Za hS;have A:xs.length=ys.length:=by obtain⟨a,c,e⟩:=aJ C;injection e
  rw[aH,<-A]at C;clear hS;by_cases M:k<xs.length
  ·obtain⟨g,rfl,hb,hg,hc,hf⟩:=oM C (by omega);have N:=hc k (.int .i64 (aF ys k)) (by rw[List.getElem?_map,List.getElem?_eq_getElem (by omega),dO ys k (by omega)];rfl);have O:=hf k;have P:=Za (iW.set ⟨H.o,hg⟩ hb k (.int .i64 (-99)) ⟨.inl rfl,_,rfl⟩).sp;clear hc hf hg hb C A G;go_wp2;go_roundw
   case rel=>exact⟨k+1,by omega,by go_num,P.o⟩
   case measure=>simp[intOf];omega
  ·obtain rfl:k=xs.length:=by omega
   have I:B<=w3.heap.size:=Nat.le_trans hB H.o.low.size;have R:=Za (cI C ((Zc _ _).alloc (Zb _) (.cells #[.int .i64 5] 3)) (Zb _));clear C A;go_wp2_with(at_builtin;refine sD _ rfl _ _ 30 rfl B 3 i0 (.int .i64 0) 1 8 Tryz.underlying30 hi D E F rfl _ _ _ rfl R.o ⟨w3.heap.size,0,none⟩ 1 [.int .i64 5] rfl rfl (eD _ _ _ _) (fun j u hu=>by cases j with|zero=>(cases hu;exact⟨.inl rfl,_,rfl⟩)|succ j=>simp at hu) (by unfold maxLen;omega) (by omega) (by simp;omega) ?_;intro v' w1 J);go_end0;exact⟨rfl,H.o.trans ((bH.below ((Zc _ _).alloc (Zb _) _) I).trans J)⟩
theorem AN (v:Value) (B:Nat) (w:World) (h:dC w B 2 .i64 v) (hB:B<=w.heap.size):
  Calls Tryz.prog 143 #[v] w fun e w'=>e=.returned (.tuple #[])/\bH B w w':=by
 obtain⟨i0,hi,D,E,F⟩:=info_parts TP;obtain⟨xs,ho,hl⟩:=h;obtain⟨o,cap,rfl⟩:=aJ ho;have L:=Za (fun(W:World) (hs:bH B w W)=>dC.sp spJ ⟨xs,ho,hl⟩ hs);clear ho;go_enter Tryz.func143,Tryz.ntmps143;go_wp2;go_loopw[2] (fun i wr=>∃k:Nat,k<=xs.length/\i=.int .i64 k/\bH B w wr) (fun i _=>xs.length-(intOf i).toNat)
 case atStart=>exact⟨0,Ze _,rfl,bH.refl _ _⟩
 case round=>
  obtain⟨k,hk,rfl,hS⟩:=hrel;obtain⟨w3,rfl⟩:=Zx wr;obtain⟨ys,C,G⟩:=L.o w3 hS;have H:=Za hS;have A:xs.length=ys.length:=by obtain⟨a,c,e⟩:=aJ C;injection e
  rw[aH,<-A]at C;clear hS;by_cases M:k<xs.length
  ·obtain⟨g,rfl,hb,hg,hc,hf⟩:=oM C (by omega);have N:=hc k (.int .i64 (aF ys k)) (by rw[List.getElem?_map,List.getElem?_eq_getElem (by omega),dO ys k (by omega)];rfl);have O:=hf k;have P:=Za (iW.set ⟨H.o,hg⟩ hb k (.int .i64 (-9999)) ⟨.inr rfl,_,rfl⟩).sp;clear hc hf hg hb C A G;go_wp2;go_roundw
   case rel=>exact⟨k+1,by omega,by go_num,P.o⟩
   case measure=>simp[intOf];omega
  ·obtain rfl:k=xs.length:=by omega
   have I:B<=w3.heap.size:=Nat.le_trans hB H.o.low.size;have R:=Za (cI C ((Zc _ _).alloc (Zb _) (.cells #[.int .i64 5] 2)) (Zb _));clear C A;go_wp2_with(at_builtin;refine sD _ rfl _ _ 82 rfl B 2 i0 (.int .i64 0) 1 8 Tryz.underlying82 hi D E F rfl _ _ _ rfl R.o ⟨w3.heap.size,0,none⟩ 1 [.int .i64 5] rfl rfl (eD _ _ _ _) (fun j u hu=>by cases j with|zero=>(cases hu;exact⟨.inr rfl,_,rfl⟩)|succ j=>simp at hu) (by unfold maxLen;omega) (by omega) (by simp;omega) ?_;intro v' w1 J);go_end0;exact⟨rfl,H.o.trans ((bH.below ((Zc _ _).alloc (Zb _) _) I).trans J)⟩
theorem MR (vs vd:Value) (B:Nat) (w:World) (h1:dC w B 3 .i64 vs) (h2:dC w B 2 .i64 vd) (hB:B<=w.heap.size):
  Calls Tryz.prog 105 #[.agg #[vs,vd]] w fun e w'=>e=.returned (.tuple #[])/\bH B w w':=by
 have I:=Za (fun(W:World) (C:bH B w W)=>wG vs B W (h1.sp oR C) (Nat.le_trans hB C.low.size));have M:=Za (fun(W:World) (C:bH B w W)=>AN vd B W (h2.sp spJ C) (Nat.le_trans hB C.low.size));obtain⟨o1,n1,c1,rfl⟩:=h1.slice;obtain⟨o2,n2,c2,rfl⟩:=h2.slice;have F:=Za (bH.below ((Zc w.heap.size w).alloc (Zb _) (.cells #[.slice o1 n1 c1,.slice o2 n2 c2] 100)) hB);have D:=aA.new w 100 #[.slice o1 n1 c1,.slice o2 n2 c2];have J:=Za (fun(W:World) (C:bH B (w.alloc (.cells #[.slice o1 n1 c1,.slice o2 n2 c2] 100)) W)=>show ∃o n c,W.cell? ⟨w.heap.size,1,none⟩=some (.slice o n c)/\dC W B 2 .i64 (.slice o n c)from by
  obtain⟨ds,k1,_,k3⟩:=C.cells _ _ _ _ D;rcases k3 1 with e|⟨u,e,hu⟩
  ·exact⟨o2,n2,c2,by rw[cell_of_row W _ 1 ds _ _ k1,e];rfl,h2.sp spJ (F.o.trans C)⟩
  ·obtain rfl:u=.slice none 0 0:=hu;exact⟨none,0,0,by rw[cell_of_row W _ 1 ds _ _ k1,e],dC.nil _ _ _ _⟩)
 clear h1 h2 D;go_enter Tryz.func105,Tryz.ntmps105;go_wp2_with fail;refine(I.o _ F.o).mono ?_;rintro e w1 ⟨rfl,A⟩;have G:=Za A;obtain⟨o,n,c,hc,hf⟩:=J.o _ A;have L:=Za (AN _ B w1 hf (Nat.le_trans hB (F.o.trans A).low.size));clear A hf I J;go_wp2_with fail;refine L.o.mono ?_;rintro e w2 ⟨rfl,E⟩;have H:=Za (F.o.trans (G.o.trans E));clear E;go_wp2;go_end0;exact⟨rfl,H.o⟩
theorem iW.two {B g:Nat} {a w:World} {T:TypeId} (h:iW B T g a w) (hb:B<=g) (hT:T=100) (j:Nat):iW B T g a ((w.setCell ⟨g,j,none⟩ (.slice none 0 0)).setCell ⟨g,j+1,none⟩ (.slice none 0 0)):=by subst hT;exact(h.set hb _ _ rfl).set hb _ _ rfl
theorem vR (v:Value) (B:Nat) (w:World) (h:iM w B v) (hB:B<=w.heap.size):
  Calls Tryz.prog 50 #[v] w fun e w'=>e=.returned (.tuple #[])/\bH B w w':=by
 obtain⟨i0,hi,H,I,J⟩:=info_parts UF;obtain⟨n,xs,ho,hl,_⟩:=id h;obtain⟨o,cap,rfl⟩:=aJ ho;have O:=Za (fun(W:World) (hs:bH B w W)=>h.sp hs);clear ho h;go_enter Tryz.func50,Tryz.ntmps50;go_wp2;go_loopw[2] (fun i wr=>∃k:Nat,k<=n/\i=.int .i64 k/\bH B w wr) (fun i _=>n-(intOf i).toNat)
 case atStart=>exact⟨0,Ze _,rfl,bH.refl _ _⟩
 case round=>
  obtain⟨k,hk,rfl,hS⟩:=hrel;obtain⟨w3,rfl⟩:=Zx wr;obtain⟨n',ys,A,_,D⟩:=O.o w3 hS;have G:=Za hS;obtain rfl:n=n':=by obtain⟨a,c,e⟩:=aJ A;injection e
  clear hS;by_cases E:k<n
  ·obtain⟨g,rfl,hb,hg,C,hf⟩:=oM A (by omega);obtain⟨vs,vd,e1,e2,f1,f2⟩:=D k E;have c0:=C _ _ e1;have c1:=C _ _ e2;have P:=Za (MR vs vd B w3 f1 f2 (Nat.le_trans hB G.o.low.size));obtain⟨o1,n1,c1',rfl⟩:=f1.slice;obtain⟨o2,n2,c2',rfl⟩:=f2.slice;have R:=Za hb;clear C hf hg hb A D e1 e2 f1 f2;go_wp2_with(go_at_call 105;refine P.o.mono ?_;rintro e w4 ⟨rfl,hs⟩;refine aD ?_);have F:=Za (G.o.trans hs);obtain⟨n',ys2,A,_,D⟩:=O.o w4 F.o;obtain rfl:n=n':=by obtain⟨a,c,e⟩:=aJ A;injection e
   obtain⟨g',L,_,hg,C,hf⟩:=oM A (by omega);cases L;obtain⟨vs,vd,e1,e2,_,_⟩:=D k E;have d0:=C _ _ e1;have d1:=C _ _ e2;have f0:=hf (k*2);have f1:=hf (k*2+1);have T:=Za (iW.two ⟨F.o,hg⟩ R.o rfl (k*2)).sp;clear C hf hg A D e1 e2 c0 c1 hs P;refine aC ?_;go_wp2;go_roundw
   case rel=>exact⟨k+1,by omega,by go_num,T.o⟩
   case measure=>simp[intOf];omega
  ·obtain rfl:k=n:=by omega
   have M:B<=w3.heap.size:=Nat.le_trans hB G.o.low.size;have U:=Za (cI A ((Zc _ _).alloc (Zb _) (.cells #[.slice none 0 0,.slice none 0 0] 100)) (Zb _));clear A D;go_wp2_with(at_builtin;refine sD _ rfl _ _ 36 rfl B 100 i0 (.agg #[.slice none 0 0,.slice none 0 0]) 2 48 Tryz.underlying36 hi H I J rfl _ _ _ rfl U.o ⟨w3.heap.size,0,none⟩ 1 [.slice none 0 0,.slice none 0 0] rfl rfl (eD _ _ _ _) (fun j u hu=>by match j with|0=>(cases hu;exact rfl)|1=>(cases hu;exact rfl)|j+2=>simp at hu) (by unfold maxLen;omega) (by omega) (by simp;omega) ?_;intro v' w1 N);go_end0;exact⟨rfl,G.o.trans ((bH.below ((Zc _ _).alloc (Zb _) _) M).trans N)⟩
theorem iW.nine {B g k:Nat} {a w:World} {T:TypeId} (h:iW B T g a w) (A:B<=g) (hT:T=175):iW B T g a (((((((((w.setCell ⟨g,k*9,none⟩ (.int .i64 99)).setCell ⟨g,k*9+1,none⟩ (.int .i64 0)).setCell ⟨g,k*9+2,none⟩ (.int .i64 0)).setCell ⟨g,k*9+3,none⟩ (.int .i64 0)).setCell ⟨g,k*9+4,none⟩ (.int .i64 0)).setCell ⟨g,k*9+5,none⟩ (.int .i64 0)).setCell ⟨g,k*9+6,none⟩ (.int .i64 0)).setCell ⟨g,k*9+7,none⟩ (.int .i64 0)).setCell ⟨g,k*9+8,none⟩ (.slice none 0 0)):=by
 subst hT;have C:∀(i:Nat) (x:Int),i<8->fK 175 (k*9+i) (.int .i64 x):=fun i x C=>by
  show(if(k*9+i)%9=8 then _ else _)
  rw[if_neg (by omega)];exact⟨_,rfl⟩
 have hu:fK 175 (k*9+8) (.slice none 0 0):=by
  show(if(k*9+8)%9=8 then _ else _)
  rw[if_pos (by omega)]
 exact((((((((h.set A _ _ (C 0 _ (by omega))).set A _ _ (C 1 _ (by omega))).set A _ _ (C 2 _ (by omega))).set A _ _ (C 3 _ (by omega))).set A _ _ (C 4 _ (by omega))).set A _ _ (C 5 _ (by omega))).set A _ _ (C 6 _ (by omega))).set A _ _ (C 7 _ (by omega))).set A _ _ hu
theorem RP {n j:Nat} {u:Value} (h:[Value.int .i64 0,.int .i64 0,.int .i64 0,.int .i64 0,.int .i64 0,.int .i64 0,.int .i64 0,.int .i64 0,.slice none 0 0][j]?=some u):fK 175 (n*9+j) u:=by
 show(if(n*9+j)%9=8 then _ else _)
 match j with
 |0|1|2|3|4|5|6|7=>rw[if_neg (by omega)];cases h;exact⟨_,rfl⟩
 |8=>rw[if_pos (by omega)];cases h;rfl
 |j+9=>simp at h
theorem GD {B n:Nat} {xs ys:List Value} {us:Nat->Value} (hi:∀j i,j<n->i<8->∃x,xs[j*9+i]?=some (.int .i64 x)) (hu:∀j,j<n->xs[j*9+8]?=some (us j)) (hq:∀j,ys[j]?=xs[j]?\/∃u,ys[j]?=some u/\fK 175 j u) (k:Nat) (hk:k<n):
  (∀i,i<8->∃x,ys[k*9+i]?=some (.int .i64 x))/\(ys[k*9+8]?=some (us k)\/ys[k*9+8]?=some (.slice none 0 0)):=by
 refine⟨fun i h8=>?_,?_⟩
 ·rcases hq (k*9+i)with e|⟨u,e,hu'⟩
  ·rw[e];exact hi k i hk h8
  ·obtain⟨x,rfl⟩:=spL2 hu' (by omega);exact⟨x,e⟩
 ·rcases hq (k*9+8)with e|⟨u,e,hu'⟩
  ·exact .inl (e.trans (hu k hk))
  ·rw[spL1 hu' (by omega)]at e;exact .inr e
def oD (B:Nat) (W:World) (v:Value):Prop:=Calls Tryz.prog 49 #[v] W fun e w'=>e=.returned (.tuple #[])/\bH B W w'
theorem EQ (B:Nat) (w:World) (v:Value) (n:Nat) (xs:List Value) (us:Nat->Value) (own:w.ownsRow B 175 9 v n xs) (hl:n<=1000000) (hi:∀j i,j<n->i<8->∃x,xs[j*9+i]?=some (.int .i64 x)) (hu:∀j,j<n->xs[j*9+8]?=some (us j))
  (ih:∀W,bH B w W->∀j,j<n->((∃o n c,us j=.slice o n c)/\oD B W (us j))/\oD B W (.slice none 0 0)) (hB:B<=w.heap.size) (W:World) (hW:bH B w W):oD B W v:=by
 obtain⟨i0,J,L,M,N⟩:=info_parts UC;have O:=Za (fun(W':World) (hs:bH B w W')=>s9 own hs);obtain⟨o,cap,rfl⟩:=aJ own;have X:=Za (fun(ys:List Value) E k hk=>GD (B:=B) (ys:=ys) hi hu E k hk);have P:=Za ih;have H:=Za hW;clear own hi hu ih hW;unfold oD;go_enter Tryz.func49,Tryz.ntmps49;go_wp2;go_loopw[2] (fun i wr=>∃k:Nat,k<=n/\i=.int .i64 k/\bH B W wr) (fun i _=>n-(intOf i).toNat)
 case atStart=>exact⟨0,Ze _,rfl,bH.refl _ _⟩
 case round=>
  obtain⟨k,hk,rfl,hS⟩:=hrel;obtain⟨w3,rfl⟩:=Zx wr;have G:=Za hS;clear hS;by_cases F:k<n
  ·obtain⟨ys,D,E⟩:=O.o w3 (H.o.trans G.o);obtain⟨g,rfl,hb,hg,A,hf⟩:=oM D (by omega);have Z:=Za hb;have R:∃o n c,w3.cell? ⟨g,k*9+8,none⟩=some (.slice o n c)/\oD B w3 (.slice o n c):=by
    obtain⟨⟨⟨o,m,c,e⟩,h1⟩,h2⟩:=P.o w3 (H.o.trans G.o) k F;rcases(X.o ys E k F).2 with e8|e8
    ·rw[e]at e8 h1;exact⟨_,_,_,A _ _ e8,h1⟩
    ·exact⟨_,_,_,A _ _ e8,h2⟩
   obtain⟨o1,n1,c1,c8,C⟩:=R;have Y:=Za (show Calls _ _ _ _ _ from C);clear A hf hg hb D E C;go_wp2_with(go_at_call 49;refine Y.o.mono ?_;rintro e w4 ⟨rfl,hs⟩;refine aD ?_);have I:=Za (G.o.trans hs);obtain⟨ys,D,E⟩:=O.o w4 (H.o.trans I.o);obtain⟨g',T,_,hg,A,hf⟩:=oM D (by omega);cases T;obtain⟨C,h9⟩:=X.o ys E k F;obtain⟨_,d0⟩:=C 0 (by omega);obtain⟨_,d1⟩:=C 1 (by omega);obtain⟨_,d2⟩:=C 2 (by omega);obtain⟨_,d3⟩:=C 3 (by omega);obtain⟨_,d4⟩:=C 4 (by omega);obtain⟨_,d5⟩:=C 5 (by omega);obtain⟨_,d6⟩:=C 6 (by omega);obtain⟨_,d7⟩:=C 7 (by omega);obtain⟨u8,d8⟩:∃u,ys[k*9+8]?=some u:=h9.elim (fun e=>⟨_,e⟩) fun e=>⟨_,e⟩
   replace d0:=A _ _ d0
   replace d1:=A _ _ d1
   replace d2:=A _ _ d2
   replace d3:=A _ _ d3
   replace d4:=A _ _ d4
   replace d5:=A _ _ d5
   replace d6:=A _ _ d6
   replace d7:=A _ _ d7
   replace d8:=A _ _ d8
   simp only[Nat.add_zero]at d0;have HX:=Za (iW.nine (k:=k) ⟨I.o,hg⟩ Z.o rfl).sp;clear A hg D E c8 hs Y C h9;refine aC ?_;go_wp2;go_roundw
   case rel=>exact⟨k+1,by omega,by go_num,HX.o⟩
   case measure=>simp[intOf];omega
  ·obtain rfl:k=n:=by omega
   have U:B<=w3.heap.size:=Nat.le_trans hB (H.o.trans G.o).low.size;obtain⟨ys,D,_⟩:=O.o w3 (H.o.trans G.o);have HY:=Za (cI D ((Zc _ _).alloc (Zb _) (.cells #[.int .i64 0,.int .i64 0,.int .i64 0,.int .i64 0,.int .i64 0,.int .i64 0,.int .i64 0,.int .i64 0,.slice none 0 0] 175)) (Zb _));clear D;go_wp2_with(at_builtin;refine sD _ rfl _ _ 31 rfl B 175 i0 (.agg #[.int .i64 0,.int .i64 0,.int .i64 0,.int .i64 0,.int .i64 0,.int .i64 0,.int .i64 0,.int .i64 0,.slice none 0 0]) 9 88 Tryz.underlying31 J L M N rfl _ _ _ rfl HY.o ⟨w3.heap.size,0,none⟩ 1 [.int .i64 0,.int .i64 0,.int .i64 0,.int .i64 0,.int .i64 0,.int .i64 0,.int .i64 0,.int .i64 0,.slice none 0 0] rfl rfl (eD _ _ _ _) (fun j u hu=>RP hu) (by unfold maxLen;omega) (by omega) (by simp;omega) ?_;intro v' w1 V);go_end0;exact⟨rfl,G.o.trans ((bH.below ((Zc _ _).alloc (Zb _) _) U).trans V)⟩
theorem QN (B:Nat) (W:World) (hB:B<=W.heap.size):oD B W (.slice none 0 0):=
 EQ B W _ 0 [] (fun _=>.slice none 0 0) (World.ownsRow_nil _ _ _ _) (by omega) (fun j i h=>absurd h (Nat.not_lt_zero _)) (fun j h=>absurd h (Nat.not_lt_zero _)) (fun _ _ j h=>absurd h (Nat.not_lt_zero _)) hB W (bH.refl _ _)
theorem fH.slice {w:World} {B:Nat} {v:Value} (h:fH w B v):∃o n c,v=.slice o n c:=by
 cases h with
 |mk v n xs us own=>obtain⟨o,c,e⟩:=aJ own;exact⟨o,n,c,e⟩
theorem JD (B:Nat) (w:World) (v:Value) (h:fH w B v) (hB:B<=w.heap.size):∀W,bH B w W->oD B W v:=by
 induction h with
 |mk v n xs us own hl hi hu hf ih=>exact fun W hW=>EQ B w v n xs us own hl hi hu (fun W' hW' j hj=>⟨⟨(hf j hj).slice,ih j hj W' hW'⟩,QN B W' (Nat.le_trans hB hW'.low.size)⟩) hB W hW
theorem iM.slice {w:World} {B:Nat} {v:Value} (h:iM w B v):∃o n c,v=.slice o n c:=by obtain⟨n,xs,ho,_⟩:=h;obtain⟨o,c,e⟩:=aJ ho;exact⟨o,n,c,e⟩
theorem QK (v1 v2:Value) (a b c:Int) (B:Nat) (w:World) (h1:iM w B v1) (h2:iM w B v2) (hB:B<=w.heap.size):
  Calls Tryz.prog 51 #[.agg #[v1,v2,.int .i64 a,.int .i64 b,.int .i64 c]] w fun e w'=>e=.returned (.tuple #[])/\bH B w w':=by have G:=Za (fun(W:World) (hs:bH B w W)=>vR v1 B W (h1.sp hs) (Nat.le_trans hB hs.low.size));have I:=Za (fun(W:World) (hs:bH B w W)=>vR v2 B W (h2.sp hs) (Nat.le_trans hB hs.low.size));obtain⟨o1,n1,c1,rfl⟩:=h1.slice;obtain⟨o2,n2,c2,rfl⟩:=h2.slice;have H:=Za (bH.below ((Zc w.heap.size w).alloc (Zb _) (.cells #[.slice o1 n1 c1,.slice o2 n2 c2,.int .i64 a,.int .i64 b,.int .i64 c] 38)) hB);have J:=Za (aA.new w 38 #[.slice o1 n1 c1,.slice o2 n2 c2,.int .i64 a,.int .i64 b,.int .i64 c]);have E:=Za (show ∀j u,¬fK 38 j u from fun j u h=>h.1.elim (by decide) (by decide));clear h1 h2;go_enter Tryz.func51,Tryz.ntmps51;go_wp2_with fail;refine(G.o _ H.o).mono ?_;rintro e w1 ⟨rfl,A⟩;have C:=Za (H.o.trans A);have hc:w1.cell? ⟨w.heap.size,1,none⟩=some (.slice o2 n2 c2):=(A.box J.o E.o).cell 1 rfl;clear A G;go_wp2_with fail;refine(I.o _ C.o).mono ?_;rintro e w2 ⟨rfl,D⟩;have F:=Za (C.o.trans D);clear D;go_wp2;go_end0;exact⟨rfl,F.o⟩
