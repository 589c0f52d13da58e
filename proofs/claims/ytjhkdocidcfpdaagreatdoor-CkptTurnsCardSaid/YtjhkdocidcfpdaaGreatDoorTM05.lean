/-
  A part of the proof of a law (packed by program).
-/
import Derived.Deep.RegionHeld3
import Derived.ProofKit
import Derived.OpenShut
import Derived.Deep.Slices
import Derived.Test.YtjhkdocidcfpdaaGreatDoorTM02
set_option linter.unusedVariables false
set_option linter.unusedSimpArgs false
set_option maxRecDepth 100000
set_option maxHeartbeats 16000000
open List renaming set_cons_zero → Zg, length_append → Zl
namespace Go.Proofs.YtjhkdocidcfpdaaGreatDoor
open Go.RowKit Go.Shelf Go
def zL (ops:Array Oper):Bool:=ops.all fun o=>match o.op with|.defer _=>false|_=>true
theorem PE {ops:Array Oper} (h:zL ops=true):∀(j:Nat) (o:Oper) c,ops[j]?=some o→o.op≠.defer c:=fun j o c hj he=>by
 obtain⟨hlt,rfl⟩:=Array.getElem?_eq_some_iff.1 hj;have:=(Array.all_eq_true.1 h) j hlt;rw[he]at this;cases this
theorem M3 {l n:Nat} {P:Program} {id:Nat} {ops:Array Oper} {Q:Exit→Act→World→Prop} {S:World→Prop} {a:Act} {w:World} (hm:P.follows .mixedOrders=true) (hd:zL ops=true) (hL:¬LetsOut Q) (hS:S w.drew)
  (h:S w.drew→wpAnyH P .any ops Q S ops.size (Array.replicate ops.size false) a w.drew):(Code.region id ops true).wpIn (Fence.wide.inRound l) n P Q a w:=
 LA hm (PE hd) hL (wpAny_of_held _ _ _ _ (h hS))
theorem qZ {P:Program} {ops:Array Oper} {o:Oper} {a:Act} {w:World} {K':Act→World→Prop} {Q:Exit→Act→World→Prop} {E:Prop} (hgd:o.guard=none) (s x:Operand) (t:TypeId)
  (ho:o.op=.call {callee:=.builtin .append,args:=#[s,x],argTypes:=#[t,t]})
  (B:Nat) (e:TypeId) (i:TypeInfo) (z:Value) (size bytes:Nat) (ht:P.underlying t=some (.slice e)) (hi:P.info? e=some i) (hz:i.zero=some z) (hsize:i.size=size) (hby:i.bytes=bytes) (hzs:z.cells.size=size) (hsz:0<size)
  (v:Value) (n:Nat) (xs:List Value) (hs:a.eval s=v) (hown:w.ownsRow B e size v n xs) (ad:Addr) (m c:Nat) (news:List Value) (hx:a.eval x=.slice (some ad) m c) (hl:news.length=m*size) (hnews:∀j u,news[j]?=some u→w.cell? (ad.add j)=some u) (h1:∀u∈news,u.oneCell'=true)
  (h63:n+m≤maxLen) (hbytes:(n+m)*bytes≤140737488355328) (hbase:B≤w.heap.size)
  (h:∀v' w',w'.ownsRow B e size v' (n+m) (xs++news)→w.grownBy w' v.ownBlock→(v'.ownBlock=v.ownBlock∨v'.ownBlock=some w.heap.size)→K' (a.put o.dst v') w'):
  if Region.wanted o (yielded ops a.tmps)=true then Oper.wp P o a w K' Q else E:=by
 have hw:Region.wanted o (yielded ops a.tmps)=true:=by simp[Region.wanted,hgd]
 rw[if_pos hw];obtain⟨v',w',hrun,h2,h3,_,h4⟩:=run_append_own_at (P:=P) w B t o.type e i z size bytes ht hi hz hsize hby hzs hsz v n xs hown ad m c news hl hnews h1 h63 hbytes hbase;unfold Oper.wp execOp;simp only[ho,resolve,invoke,builtin,Sem.run_bind,Sem.run_pure,Result.andThen_ok,List.map_toArray,List.map_cons,List.map_nil,hs,hx,hrun];exact h v' w' h2 h3 h4
def kS:PanicEntry:={v:=.iface 125 (.agg #[]),recovered:=false}
def cP (w:World) (R:Nat) (rem:List Int):Prop:=∃o cap,aA w R 128 #[.slice o rem.length cap]∧rem.length≤cap∧Rd w .u8 (.slice o rem.length cap) rem∧(0<rem.length→∀a,o=some a→a.block<R)
abbrev aZ (w w':World) (R:Nat):Prop:=w.grownBy w' (some R)
theorem EL {w:World} {a b:Addr} {u v:Value} (h:w.cell? b=some v) (hne:a.block≠b.block∨a.off≠b.off) (hs:b.spot=none):(w.setCell a u).cell? b=some v:=by
 obtain⟨bb,bo,bs⟩:=b;simp at hs;subst hs;obtain⟨ab,ao,asp⟩:=a;unfold World.cell? World.setCell at*;simp only[Array.getElem?_modify]at*;by_cases e:ab=bb
 ·subst e;simp only[if_true]at*;cases hh:w.heap[ab]? with
  |none=>rw[hh]at h;simp at h
  |some o=>
   rw[hh]at h;cases o<;>simp_all
   split
   ·exact h
   ·rw[Array.getElem?_setIfInBounds,if_neg (by omega)];exact h
 ·rw[if_neg (fun h=>e h)];exact h
theorem Rd.setOther {w:World} {K:IntKind} {v:Value} {xs:List Int} {R n cap:Nat} {o:Option Addr} (h:Rd w K v xs) (c:w.cell? ⟨R,0,none⟩=some (.slice o n cap)) {u:Value}:Rd (w.setCell ⟨R,0,none⟩ u) K v xs:=by
 obtain⟨o',cap',rfl,hc⟩:=h;refine⟨o',cap',rfl,fun j hj=>?_⟩;obtain⟨b,off,rfl,hcell⟩:=hc j hj;refine⟨b,off,rfl,EL hcell ?_ rfl⟩;by_cases e:R=b
 ·right;subst e;intro e2;simp at e2;rw[←e2,c]at hcell;simp at hcell
 ·exact .inl e
theorem Rd.take {w:World} {K:IntKind} {o:Option Addr} {n cap:Nat} {xs:List Int} (h:Rd w K (.slice o n cap) xs) (k:Nat) (hk:k≤xs.length) {c:Nat}:Rd w K (.slice o k c) (xs.take k):=by
 have hl:(xs.take k).length=k:=by rw[List.length_take];omega
 refine⟨o,c,by rw[hl],fun j hj=>?_⟩;rw[hl]at hj;obtain⟨b,off,ho,hc⟩:=h.cell j (by omega);refine⟨b,off,ho,?_⟩;rw[hc,dK _ _ (by omega:j<xs.length),dK _ _ (by omega:j<(xs.take k).length),List.getElem_take]
theorem Rd.drop {w:World} {K:IntKind} {o:Option Addr} {n cap:Nat} {xs:List Int} (h:Rd w K (.slice o n cap) xs) (k:Nat) (hk:k≤xs.length) {c:Nat}:Rd w K (.slice (o.map (·.add k)) (xs.length-k) c) (xs.drop k):=by refine⟨o.map (·.add k),c,by rw[List.length_drop],fun j hj=>?_⟩;rw[List.length_drop]at hj;obtain⟨b,off,ho,hc⟩:=h.cell (k+j) (by omega);refine⟨b,off+k,by rw[ho];simp[Addr.add_lit],?_⟩;rw[Nat.add_assoc,hc,dK _ _ (by omega:k+j<xs.length),dK _ _ (by rw[List.length_drop];omega),List.getElem_drop]
theorem uB (w:World) (R:Nat) (v:Value):aZ w (w.setCell ⟨R,0,none⟩ v) R:=
 ⟨rfl,rfl,rfl,by simp[World.setCell],fun k _ hk=>Below.heap_setCell _ _ _ _ (fun e=>hk (by simp at e;rw[e]))⟩
theorem aZ.trans {a b c:World} {R:Nat} (h:aZ a b R) (k:aZ b c R):aZ a c R:=
 ⟨k.os.trans h.os,k.tape.trans h.tape,k.output.trans h.output,Nat.le_trans h.size k.size,fun i hi hne=>(k.block i (Nat.lt_of_lt_of_le hi h.size) hne).trans (h.block i hi hne)⟩
theorem aZ.refl (w:World) (R:Nat):aZ w w R:=⟨rfl,rfl,rfl,Zb _,fun _ _ _=>rfl⟩
theorem aZ.below {w w':World} {R B:Nat} (h:aZ w w' R) (hB:B≤R) (hs:B≤w.heap.size):Below B w w':=
 (Zc B w).grown h hs (fun k e=>by cases e;exact hB)
theorem gI {w w':World} {R:Nat} (h:Below w.heap.size w w'):aZ w w' R:=⟨h.os,h.tape,h.output,h.size,fun k hk _=>h.block k hk⟩
theorem NF (p:Value) (w:World):Calls Tryz.prog 72 #[p] w fun e w'=>e=.panicked [kS]∧w=w':=by go_enter Tryz.func72,Tryz.ntmps72;go_wp2;exact⟨rfl,rfl,rfl⟩
theorem gC (p:Value) (w:World):Calls Tryz.prog 24 #[p,.bool true] w fun e w'=>e=.returned (.tuple #[])∧w=w':=by go_enter Tryz.func24,Tryz.ntmps24;go_wp2;go_end0;exact⟨rfl,rfl⟩
theorem qD (p:Value) (w:World):Calls Tryz.prog 24 #[p,.bool false] w fun e w'=>e=.panicked [kS]∧w=w':=by go_enter Tryz.func24,Tryz.ntmps24;go_wp2_with fail;refine(NF _ _).mono ?_;rintro e w' ⟨rfl,rfl⟩;go_wp2;exact⟨rfl,rfl,rfl⟩
theorem EG (R n:Nat) (rem:List Int) (w:World) (h:cP w R rem) (hn:n≤rem.length) (hl:rem.length≤140737488351232):
  Calls Tryz.prog 73 #[.pointer (some ⟨R,0,none⟩),.int .i64 n] w fun e w'=>∃v,e=.returned v∧Rd w' .u8 v (rem.take n)∧cP w' R (rem.drop n)∧aZ w w' R:=by
 obtain⟨o,cap,hbox,hcap,hrd,hlow⟩:=h;have c0:=hbox.cell 0 rfl;have f0:=hbox.free 0;have HBX:=Za hbox;have HR:=Za hrd;have HLW:=Za hlow;clear hbox hrd hlow;go_enter Tryz.func73,Tryz.ntmps73;go_wp2_with(go_at_call 24;refine(gC _ _).mono ?_;rintro e w' ⟨rfl,rfl⟩)
 all_goals go_ret
 ·have hR:=HR.o;have e:rem.length-n=0:=by omega
  have e2:rem.drop n=[]:=List.drop_eq_nil_of_le (by omega);exact⟨_,rfl,(hR.take n hn).setOther c0,⟨_,_,by rw[List.length_drop];exact HBX.o.set 0 _,by rw[List.length_drop];omega,by rw[e2];rw[e];exact Rd.nil _ _ _ _,by rw[e2];intro h;exact absurd h (Nat.lt_irrefl _)⟩,uB _ _ _⟩
 ·have hR:=HR.o;exact⟨_,rfl,(hR.take n hn).setOther c0,⟨_,_,by rw[List.length_drop];exact HBX.o.set 0 _,by rw[List.length_drop];omega,by rw[List.length_drop];exact(hR.drop n hn).setOther c0,fun h0 a ha=>by
   have hl0:0<rem.length:=by rw[List.length_drop]at h0;omega
   cases o with
   |none=>simp at ha
   |some b=>simp at ha;subst ha;have:=HLW.o hl0 b rfl;unfold Addr.add;split<;>exact this⟩,uB _ _ _⟩
theorem IY (R n:Nat) (rem:List Int) (w:World) (h:cP w R rem) (hn:rem.length<n) (hl:n≤140737488351232):
  Calls Tryz.prog 73 #[.pointer (some ⟨R,0,none⟩),.int .i64 n] w fun e w'=>e=.panicked [kS]∧w=w':=by obtain⟨o,cap,hbox,hcap,hrd,hlow⟩:=h;have c0:=hbox.cell 0 rfl;have hd:decide (n≤rem.length)=false:=decide_eq_false (by omega);clear hbox hrd hlow;go_enter Tryz.func73,Tryz.ntmps73;go_wp2_with(go_at_call 24;refine(qD _ _).mono ?_;rintro e w' ⟨rfl,rfl⟩);exact⟨rfl,rfl,rfl⟩
def fQ (l:List Int):Nat:=l.foldl (fun n x=>(n*256+x.toNat)%18446744073709551616) 0
theorem uQ (l:List Int):fQ l<18446744073709551616:=by
 rcases List.eq_nil_or_concat l with rfl|⟨l',x,rfl⟩
 ·decide
 ·rw[fQ,List.concat_eq_append,List.foldl_append];exact Nat.mod_lt _ (by omega)
theorem MP (S:Nat) (x:Int) (hx:0≤x∧x<256):bits BinOp.or IntKind.u64 (IntKind.u64.wrap ((S:Int)*256)) x=(((S*256+x.toNat)%18446744073709551616:Nat):Int):=by
 have e:IntKind.u64.wrap ((S:Int)*256)=((S*256%18446744073709551616:Nat):Int):=by rw[IntKind.wrap_u64];omega
 rw[e,u64_or _ _ (by omega) (by omega) hx.1 (by omega),Int.toNat_natCast,nat_join 8 _ _ (by omega) (by omega)]
 congr 1
 omega
theorem TJ (l:List Int) (x:Int):fQ (l++[x])=(fQ l*256+x.toNat)%18446744073709551616:=by simp[fQ]
theorem F4 (R n:Nat) (rem:List Int) (w:World) (h:cP w R rem) (hw:Wf .u8 rem) (hn:n≤rem.length) (hn8:n≤8) (hl:rem.length≤140737488351232):
  Calls Tryz.prog 25 #[.pointer (some ⟨R,0,none⟩),.int .i64 n] w fun e w'=>e=.returned (.int .u64 (fQ (rem.take n):Nat))∧cP w' R (rem.drop n)∧aZ w w' R:=by
 have HR:=Za h;have HW:=Za (Wf.take hw n);have htl:(rem.take n).length=n:=by rw[List.length_take];omega
 have HTL:=Za htl;clear h hw htl;go_enter Tryz.func25,Tryz.ntmps25;go_wp2_with fail;refine(EG R n rem _ HR.o hn hl).mono ?_;rintro e w1 ⟨v,rfl,hrd,hrr,hm⟩;obtain⟨o,cap,rfl,hc⟩:=hrd;have HC:=Za hc;have HRR:=Za hrr;have HM:=Za hm;clear hc hrr hm;rw[HTL.o]at HC ⊢;go_wp2;go_loop[4,11] (fun p i=>∃k:Nat,k≤n∧i=.int .i64 k∧p=.int .u64 (fQ ((rem.take n).take k):Nat)) (fun _ i=>n-(intOf i).toNat)
 case atStart=>exact⟨0,Ze _,rfl,rfl⟩
 case round=>
  obtain⟨k,hk,rfl,rfl⟩:=hrel;by_cases hlt:k<n
  ·obtain⟨b,off,rfl,h1⟩:=HC.o k hlt;have hx:=kT (HW.o.nth k (by rw[HTL.o];exact hlt));have hS:=uQ ((rem.take n).take k);obtain⟨S,hSe⟩:∃S,S=fQ ((rem.take n).take k):=⟨_,rfl⟩;rw[←hSe]at hS ⊢;have HS:=Za hSe;have HS2:=Za hS;clear hSe hS;have ho:=MP S (aE (rem.take n) k) hx;have HOr:=Za ho;clear ho;go_wp2;go_round
   case rel=>exact⟨k+1,by omega,by go_num,by rw[HOr.o,fF _ k (by rw[HTL.o];exact hlt),TJ,←HS.o]⟩
   case measure=>simp[intOf];omega
  ·obtain rfl:k=n:=by omega
   go_wp2;go_ret;exact⟨uF (by rw[List.take_of_length_le (Nat.le_of_eq HTL.o)]),HRR.o,HM.o⟩
theorem NE (R n:Nat) (rem:List Int) (w:World) (h:cP w R rem) (hn:rem.length<n) (hn8:n≤8):
  Calls Tryz.prog 25 #[.pointer (some ⟨R,0,none⟩),.int .i64 n] w fun e w'=>e=.panicked [kS]∧w=w':=by have HR:=Za h;clear h;go_enter Tryz.func25,Tryz.ntmps25;go_wp2_with fail;refine(IY R n rem _ HR.o hn (by omega)).mono ?_;rintro e w1 ⟨rfl,rfl⟩;go_wp2;exact⟨rfl,rfl,rfl⟩
def Out {α:Type} (w:World) (R:Nat) (res:Option (α×List Int)) (val:α→World→Value→Prop) (e:Ending) (w':World):Prop:=
 aZ w w' R∧match res with
 |some (x,rest)=>(∃v,e=.returned v∧val x w' v)∧cP w' R rest
 |none=>e=.panicked [kS]
def bJ (k:Nat) (rem:List Int):Option (Nat×List Int):=if k≤rem.length then some (fQ (rem.take k),rem.drop k) else none
theorem vV (R n:Nat) (rem:List Int) (w:World) (h:cP w R rem) (hw:Wf .u8 rem) (hn8:n≤8) (hl:rem.length≤140737488351232):
  Calls Tryz.prog 25 #[.pointer (some ⟨R,0,none⟩),.int .i64 n] w (Out w R (bJ n rem) fun x _ v=>v=.int .u64 (x:Nat)):=by
 unfold bJ;split
 ·rename_i hn;exact(F4 R n rem w h hw hn hn8 hl).mono fun e w' ⟨he,hr,hm⟩=>⟨hm,⟨_,he,rfl⟩,hr⟩
 ·rename_i hn;exact(NE R n rem w h (by omega) hn8).mono fun e w' ⟨he,hm⟩=>⟨by rw[←hm];exact aZ.refl _ _,he⟩
def cC (most:Nat) (rem:List Int):Option (Nat×List Int):=(bJ 4 rem).bind fun p=>if p.1≤most then some p else none
theorem TP {k:Nat} {rem:List Int} {p:Nat×List Int} (h:bJ k rem=some p):p.1<18446744073709551616:=by
 unfold bJ at h;split at h
 ·cases h;exact uQ _
 ·cases h
theorem FN (R most:Nat) (rem:List Int) (w:World) (h:cP w R rem) (hw:Wf .u8 rem) (hm:most≤4294967296) (hl:rem.length≤140737488351232):
  Calls Tryz.prog 76 #[.pointer (some ⟨R,0,none⟩),.int .i64 most] w (Out w R (cC most rem) fun x _ v=>v=.int .i64 (x:Nat)):=by
 have HR:=Za h;have HW:=Za hw;clear h hw;go_enter Tryz.func76,Tryz.ntmps76;go_wp2_with fail;refine(vV R 4 rem _ HR.o HW.o (by omega) hl).mono ?_;rintro e w1 ⟨hmv,ho⟩;cases hp:bJ 4 rem with
 |none=>
  rw[hp]at ho;have hs:cC most rem=none:=by unfold cC;rw[hp];rfl
  dsimp only at ho;subst ho;have HM:=Za hmv;have HS:=Za hs;clear hmv hp hs;go_wp2;refine⟨rfl,?_⟩;rw[HS.o];exact⟨HM.o,rfl⟩
 |some p=>
  obtain⟨n,rest⟩:=p;have hlt:=TP hp;dsimp only at hlt;rw[hp]at ho;obtain⟨⟨v,rfl,rfl⟩,hrr⟩:=ho;have HM:=Za hmv;have HRR:=Za hrr;have HLT:=Za hlt;by_cases hle:n≤most
  ·have hs:Hid (cC most rem=some (n,rest)):=Za (by unfold cC;rw[hp];simp[hle]);clear hmv hp hrr hlt;go_wp2_with(go_at_call 24;refine(gC _ _).mono ?_;rintro e w' ⟨rfl,rfl⟩);go_ret;rw[hs.o];exact⟨HM.o,⟨_,rfl,rfl⟩,HRR.o⟩
  ·have hs:Hid (cC most rem=none):=Za (by unfold cC;rw[hp];simp[hle]);clear hmv hp hrr hlt;go_wp2_with fail;refine(qD _ _).mono ?_;rintro e w' ⟨rfl,rfl⟩;go_wp2;refine⟨rfl,?_⟩;rw[hs.o];exact⟨HM.o,rfl⟩
def lI (n:Nat):Int:=wrap64 (n:Int)
def kQ (n:Nat):Option Int:=bif bS (lI n) then some (lI n) else none
theorem II {n:Nat} {u:Int} (hu:u=lI n) (h:bS u=true):kQ n=some u:=by subst hu;rw[kQ,h,cond_true]
theorem MB {n:Nat} {u:Int} (hu:u=lI n) (h:bS u=false):kQ n=none:=by subst hu;rw[kQ,h,cond_false]
def bP:Nat→List Int→Option (List Int×List Int)
 |0,rem=>some ([],rem)
 |n+1,rem=>(bJ 8 rem).bind fun p=>(kQ p.1).bind fun u=>(bP n p.2).map fun q=>(u::q.1,q.2)
theorem pK (rem:List Int):bP 0 rem=some ([],rem):=by rw[bP]
theorem mG (n:Nat) (rem:List Int):bP (n+1) rem=(bJ 8 rem).bind fun p=>(kQ p.1).bind fun u=>(bP n p.2).map fun q=>(u::q.1,q.2):=by rw[bP]
theorem N6 {k:Nat} {rem:List Int} (h:rem.length<k):bJ k rem=none:=by unfold bJ;rw[if_neg (by omega)]
theorem wX {k:Nat} {rem:List Int} (h:k≤rem.length):bJ k rem=some (fQ (rem.take k),rem.drop k):=by unfold bJ;rw[if_pos h]
theorem ON (n:Nat):∀rem:List Int,rem.length<8*n→bP n rem=none:=by
 induction n with
 |zero=>intro rem h;omega
 |succ n ih=>
  intro rem h;rw[mG];by_cases h8:8≤rem.length
  ·rw[wX h8,Option.bind_some];dsimp only;rw[ih _ (by rw[List.length_drop];omega)];cases kQ (fQ (List.take 8 rem))with
   |none=>rw[Option.bind_none]
   |some u=>rw[Option.bind_some,Option.map_none]
  ·rw[N6 (by omega),Option.bind_none]
theorem Rd.setOwn {w:World} {v:Value} {xs ys:List Int} {B g n cap:Nat} {e:TypeId} (h:Rd w .u8 v xs) (ho:aH w B e .i64 (.slice (some ⟨g,0,none⟩) n cap) ys) {k:Nat} (hk:k<ys.length) (u:Value):Rd (w.setCell ⟨g,k,none⟩ u) .u8 v xs:=by
 obtain⟨o',cap',rfl,hc⟩:=h;refine⟨o',cap',rfl,fun j hj=>?_⟩;obtain⟨b,off,rfl,hcell⟩:=hc j hj;refine⟨b,off,rfl,EL hcell ?_ rfl⟩;by_cases e:g=b
 ·right;subst e;intro e2;have:=(ho.cell k hk).1;simp at e2;rw[←e2,this]at hcell;simp at hcell
 ·exact .inl e
theorem cP.setOwn {w:World} {R:Nat} {xs ys:List Int} {B g n cap:Nat} {e:TypeId} (h:cP w R xs) (hR:R≠g) (ho:aH w B e .i64 (.slice (some ⟨g,0,none⟩) n cap) ys) {k:Nat} (hk:k<ys.length) (u:Value):cP (w.setCell ⟨g,k,none⟩ u) R xs:=by obtain⟨o,cap,hb,hc,hr,hlow⟩:=h;exact⟨o,cap,hb.other (fun e=>hR e.symm) _,hc,hr.setOwn ho hk u,hlow⟩
theorem MG {w w':World} {R g:Nat} (h:aZ w w' R) (hg:w.heap.size≤g) (k:Nat) (u:Value):aZ w (w'.setCell ⟨g,k,none⟩ u) R:=
 ⟨h.os,h.tape,h.output,by simpa [World.setCell]using h.size,fun i hi hne=>by rw[Below.heap_setCell _ _ _ _ (by simp;omega)];exact h.block i hi hne⟩
theorem mV {w w':World} {B:Nat} {e:TypeId} {s:Nat} {v:Value} {n R:Nat} {xs:List Value} (h:w.ownsRow B e s v n xs) (hm:aZ w w' R) (hR:R<B):w'.ownsRow B e s v n xs:=by
 refine⟨h.1,?_⟩;rcases h.2 with hn|⟨g,cap,cur,rfl,hb,hgg,rest⟩
 ·exact .inl hn
 ·exact .inr ⟨g,cap,cur,rfl,hb,by rw[hm.block g (Array.getElem?_eq_some_iff.1 hgg).1 (by intro e;cases e;omega)];exact hgg,rest⟩
theorem cP.below {w w':World} {R:Nat} {xs:List Int} (h:cP w R xs) (hB:Below w.heap.size w w') (hR:R<w.heap.size):cP w' R xs:=by obtain⟨o,cap,hb,hc,hr,hlow⟩:=h;exact⟨o,cap,hb.below hB hR,hc,hr.below hB (Zb _),hlow⟩
theorem tG {K:IntKind} {xs:List Int} (h:Wf K xs) (k:Nat):Wf K (xs.drop k):=fun x hx=>h x (List.mem_of_mem_drop hx)
theorem tE {k:Nat} {rem:List Int} {p:Nat×List Int} (h:bJ k rem=some p) (hw:Wf .u8 rem):Wf .u8 p.2∧p.2.length+k=rem.length:=by
 unfold bJ at h;split at h
 ·cases h;exact⟨tG hw k,by simp;omega⟩
 ·cases h
theorem IX (R n:Nat) (rem:List Int) (w:World) (h:cP w R rem) (hw:Wf .u8 rem) (hn:n≤9000000000000000000) (hl:rem.length≤140737488351232):
  Calls Tryz.prog 78 #[.pointer (some ⟨R,0,none⟩),.int .i64 n] w (Out w R (bP n rem) fun xs w' v=>aH w' w.heap.size 2 .i64 v xs):=by
 obtain⟨i0,hi,hz0,hz1,hz2⟩:=info_parts rL;obtain⟨o,cap,hbox,hcap,hrd,hlow⟩:=h;have c0:=hbox.q 0 rfl;have HR:=Za (show cP w R rem from⟨o,cap,hbox,hcap,hrd,hlow⟩);have HLT:=Za hbox.lt;have HW:=Za hw;clear hbox hrd hw hlow;by_cases hle:n≤rem.length / 8
 ·have hd:=Za (show decide ((n:Int)≤(rem.length:Int) / 8)=true from decide_eq_true (by omega));have HLE:=Za hle;clear hle;go_enter Tryz.func78,Tryz.ntmps78;go_wp2_with fail;rw[hd.o];refine(gC _ _).mono ?_;rintro e w' ⟨rfl,rfl⟩;have hle:=HLE.o;go_wp2_with(at_make;refine wpList_make_full _ rfl _ _ 82 rfl w.heap.size 2 i0 (.int .i64 0) 1 Tryz.underlying82 hi hz0 hz1 .i64 .i64 _ _ n rfl rfl rfl rfl (by rw[hz2];omega) (by unfold maxLen;omega) (Zb _) ?_;intro w1 hm hg;refine aD ?_);have hB1:aZ w w1 R:=gI (lW hg);have hO1:aH w1 w.heap.size 2 .i64 (.slice (some ⟨w.heap.size,0,none⟩) n n) ([]++List.replicate (n-0) 0):=aH.made hm;have hR1:cP w1 R rem:=HR.o.below (lW hg) HLT.o;have hN:n≤100000000000000:=by omega
  clear hi hz0 hz1 hz2 hm hg hle c0 hcap;have HO1:=Za hO1;have HB1:=Za hB1;have HR1:=Za hR1;clear hO1 hB1 hR1;refine aC ?_;go_wp2;go_loopw[25] (fun i wr=>∃(k:Nat) (done rest:List Int),k≤n∧i=.int .i64 k∧done.length=k∧aH wr w.heap.size 2 .i64 (.slice (some ⟨w.heap.size,0,none⟩) n n) (done++List.replicate (n-k) 0)∧cP wr R rest∧aZ w wr R∧Wf .u8 rest∧rest.length≤rem.length∧bP n rem=(bP (n-k) rest).map (fun q=>(done++q.1,q.2))) (fun i _=>n-(intOf i).toNat)
  case atStart=>exact⟨0,[],rem,Ze _,rfl,rfl,HO1.o,HR1.o,HB1.o,HW.o,Zb _,by simp⟩
  case round=>
   obtain⟨k,done,rest,hk,rfl,hdl,hown,hrr,hmv,hwr,hrl,heq⟩:=hrel;obtain⟨w3,rfl⟩:∃w3,w3=wr:=⟨_,rfl⟩;have HOW:=Za hown;have HRR:=Za hrr;have HMV:=Za hmv;have HWR:=Za hwr;have HEQ:=Za heq;have HDL:=Za hdl;have hrl':rest.length≤140737488351232:=by omega
   have HRL:=Za hrl;clear hown hrr hmv hwr heq hdl hrl;by_cases hlt:k<n
   ·have hkl:k<(done++List.replicate (n-k) (0:Int)).length:=by rw[Zl,HDL.o,List.length_replicate];omega
    have HKL:=Za hkl;clear hkl;go_wp2_with fail;refine(vV R 8 rest _ HRR.o HWR.o (by omega) hrl').mono ?_;rintro e w4 ⟨hmv4,ho⟩;cases hp:bJ 8 rest with
    |none=>
     rw[hp]at ho;have hs:bP n rem=none:=by rw[HEQ.o,show n-k=(n-k-1)+1 by omega,mG,hp,Option.bind_none,Option.map_none]
     dsimp only at ho;subst ho;have HM:=Za (HMV.o.trans hmv4);have HS:=Za hs;clear hmv4 hp hs;go_wp2;refine⟨rfl,?_⟩;rw[HS.o];exact⟨HM.o,rfl⟩
    |some p=>
     obtain⟨x,rest2⟩:=p;have hpr:=tE hp HWR.o;rw[hp]at ho;obtain⟨⟨v,rfl,rfl⟩,hrr4⟩:=ho;have HM4:=Za (HMV.o.trans hmv4);have hown4:=mV HOW.o hmv4 HLT.o;have hc4:=aH.cell hown4 k HKL.o;have c4:=hc4.1;have f4:=hc4.2;have HO4:=Za hown4;have HR4:=Za hrr4;have HPR:=Za hpr;have HP:=Za hp;clear hmv4 hpr hp hrr4 hown4 hc4;go_wp2_with fail;obtain⟨u,hu⟩:∃u,u=lI x:=⟨_,rfl⟩;rw[show wrap64 (x:Int)=u from hu.symm];have HU:=Za hu;clear hu;refine(pE _ _).mono ?_;rintro e w5 ⟨rfl,hsm⟩;have hO5:aH w5 w.heap.size 2 .i64 (.slice (some ⟨w.heap.size,0,none⟩) n n) ((done++[u])++List.replicate (n-(k+1)) 0):=by
      have:=lE (aH.set HO4.o k u) hsm;have e:(done++List.replicate (n-k) (0:Int)).set k u=(done++[u])++List.replicate (n-(k+1)) 0:=by rw[show n-k=(n-(k+1))+1 by omega,List.replicate_succ,List.set_append_right _ _ (by rw[HDL.o];exact Zb _),HDL.o,Nat.sub_self,Zg,List.append_assoc];rfl
      rw[e]at this;have e2:(done++List.replicate (n-k) (0:Int)).length=((done++[u])++List.replicate (n-(k+1)) 0).length:=by rw[←e,List.length_set]
      simpa only[aH,e2]using this
     have hR5:cP w5 R rest2:=(HR4.o.setOwn (Nat.ne_of_lt HLT.o) HO4.o HKL.o (.int .i64 u)).below (hsm.below _) (by simp[World.setCell];have:=HM4.o.size;have:=HLT.o;omega);have hM5:aZ w w5 R:=(MG HM4.o (Zb _) k (.int .i64 u)).trans (gI (hsm.below _));have HO5:=Za hO5;have HR5:=Za hR5;have HM5:=Za hM5;clear hO5 hR5 hM5 hsm c4 f4;cases hb:bS u with
     |true=>
      have HEB:=Za hb;clear hb;go_wp2_with(go_at_call 24;refine(gC _ _).mono ?_;rintro e w' ⟨rfl,rfl⟩);go_roundw
      case rel=>exact⟨k+1,done++[u],rest2,by omega,by go_num,by rw[Zl,HDL.o];rfl,HO5.o,HR5.o,HM5.o,HPR.o.1,by have:=HPR.o.2;have:=HRL.o;omega,by
       rw[HEQ.o,show n-k=(n-(k+1))+1 by omega,mG,HP.o,Option.bind_some,II HU.o HEB.o,Option.bind_some,Option.map_map]
       congr 1
       funext q
       simp⟩
      case measure=>simp[intOf];omega
     |false=>
      have hs:bP n rem=none:=by rw[HEQ.o,show n-k=(n-k-1)+1 by omega,mG,HP.o,Option.bind_some,MB HU.o hb,Option.bind_none,Option.map_none]
      have HS:=Za hs;clear hs hb;go_wp2_with fail;refine(qD _ _).mono ?_;rintro e w' ⟨rfl,rfl⟩;go_wp2;refine⟨rfl,?_⟩;rw[HS.o];exact⟨HM5.o,rfl⟩
   ·obtain rfl:k=n:=by omega
    go_wp2;go_ret;have e:bP k rem=some (done,rest):=by rw[HEQ.o,Nat.sub_self,pK,Option.map_some,List.append_nil]
    refine⟨HMV.o,?_⟩;rw[e];exact⟨⟨_,rfl,by have:=HOW.o;rw[Nat.sub_self,List.replicate_zero,List.append_nil]at this;exact this⟩,HRR.o⟩
 ·have hd:=Za (show decide ((n:Int)≤(rem.length:Int) / 8)=false from decide_eq_false (by omega));have HS:=Za (ON n rem (by omega));clear hle;go_enter Tryz.func78,Tryz.ntmps78;go_wp2_with fail;rw[hd.o];refine(qD _ _).mono ?_;rintro e w' ⟨rfl,rfl⟩;go_wp2;refine⟨rfl,?_⟩;rw[HS.o];exact⟨aZ.refl _ _,rfl⟩
theorem cP.low {w w':World} {R:Nat} {xs:List Int} (h:cP w R xs) (hB:Below (R+1) w w'):cP w' R xs:=by obtain⟨o,cap,hb,hc,hr,hlow⟩:=h;refine⟨o,cap,hb.below hB (Nat.lt_succ_self R),hc,?_,hlow⟩;obtain⟨o',cap',he,hcell⟩:=hr;refine⟨o',cap',he,fun j hj=>?_⟩;obtain⟨b,off,ho,h1⟩:=hcell j hj;refine⟨b,off,ho,?_⟩;simp only[Value.slice.injEq]at he;have hlt:=hlow (by omega) ⟨b,off,none⟩ (by rw[he.1,ho]);exact(hB.cell (p:=⟨b,off+j,none⟩) (Nat.lt_succ_of_lt hlt)).trans h1
structure cR (w0 w:World) (R:Nat) (rem:List Int):Prop where
 at_:cP w R rem
 wf:Wf .u8 rem
 len:rem.length≤100000
 moved:aZ w0 w R
 lt:R<w0.heap.size
theorem TL {w0 w w':World} {R B:Nat} (h:aZ w0 w R) (hB:Below B w w') (hb:w0.heap.size≤B):aZ w0 w' R:=
 ⟨hB.os.trans h.os,hB.tape.trans h.tape,hB.output.trans h.output,Nat.le_trans h.size hB.size,fun k hk hne=>(hB.block k (by omega)).trans (h.block k hk hne)⟩
theorem cR.low {w0 w w':World} {R B:Nat} {xs:List Int} (h:cR w0 w R xs) (hB:Below B w w') (hb:w0.heap.size≤B):cR w0 w' R xs:=
 ⟨h.at_.low (hB.mono (by have:=h.lt;omega)),h.wf,h.len,TL h.moved hB hb,h.lt⟩
theorem cR.start {w:World} {R:Nat} {xs:List Int} (h:cP w R xs) (hw:Wf .u8 xs) (hl:xs.length≤100000):cR w w R xs:=
 ⟨h,hw,hl,aZ.refl _ _,by obtain⟨o,cap,hb,_⟩:=h;exact hb.lt⟩
theorem vM {w0 w:World} {R n:Nat} {rem rest:List Int} {x:Nat} (h:cR w0 w R rem) (hn8:n≤8) (hp:bJ n rem=some (x,rest)):
  Calls Tryz.prog 25 #[.pointer (some ⟨R,0,none⟩),.int .i64 n] w fun e w'=>e=.returned (.int .u64 (x:Nat))∧cR w0 w' R rest∧aZ w w' R:=
 (vV R n rem w h.at_ h.wf hn8 (by have:=h.len;omega)).mono fun e w' ho=>by
  have hr:=tE hp h.wf;rw[hp]at ho;obtain⟨hm,⟨v,rfl,rfl⟩,hr2⟩:=ho;exact⟨rfl,⟨hr2,hr.1,by have:=h.len;have:=hr.2;dsimp only at this ⊢;omega,h.moved.trans hm,h.lt⟩,hm⟩
theorem mP {most:Nat} {rem rest:List Int} {x:Nat} (hp:cC most rem=some (x,rest)):bJ 4 rem=some (x,rest)∧x≤most:=by
 unfold cC at hp;rw[Option.bind_eq_some_iff]at hp;obtain⟨p,h1,h2⟩:=hp;split at h2
 ·cases h2;exact⟨h1,by assumption⟩
 ·cases h2
theorem MQ {w0 w:World} {R most:Nat} {rem rest:List Int} {x:Nat} (h:cR w0 w R rem) (hm:most≤4294967296) (hp:cC most rem=some (x,rest)):
  Calls Tryz.prog 76 #[.pointer (some ⟨R,0,none⟩),.int .i64 most] w fun e w'=>e=.returned (.int .i64 (x:Nat))∧cR w0 w' R rest∧aZ w w' R:=
 (FN R most rem w h.at_ h.wf hm (by have:=h.len;omega)).mono fun e w' ho=>by
  have hr:=tE (mP hp).1 h.wf;rw[hp]at ho;obtain⟨hm,⟨v,rfl,rfl⟩,hr2⟩:=ho;exact⟨rfl,⟨hr2,hr.1,by have:=h.len;have:=hr.2;dsimp only at this ⊢;omega,h.moved.trans hm,h.lt⟩,hm⟩
theorem MF {n:Nat} {u:Int} (h:kQ n=some u):u=lI n∧bS u=true:=by
 unfold kQ at h;cases hb:bS (lI n)with
 |true=>rw[hb,cond_true]at h;cases h;exact⟨rfl,hb⟩
 |false=>rw[hb,cond_false]at h;cases h
theorem xN (n:Nat):∀{rem rest xs:List Int},bP n rem=some (xs,rest)→Wf .u8 rem→Wf .u8 rest∧rest.length+8*n=rem.length∧xs.length=n∧iG xs=true:=by
 induction n with
 |zero=>intro rem rest xs h hw;rw[pK]at h;cases h;exact⟨hw,by omega,rfl,rfl⟩
 |succ n ih=>
  intro rem rest xs h hw;rw[mG,Option.bind_eq_some_iff]at h;obtain⟨p,h1,h2⟩:=h;rw[Option.bind_eq_some_iff]at h2;obtain⟨u,h3,h4⟩:=h2;rw[Option.map_eq_some_iff]at h4;obtain⟨q,h5,h6⟩:=h4;cases h6;have a:=tE h1 hw;obtain⟨b1,b2,b3,b4⟩:=ih h5 a.1;refine⟨b1,by omega,by simp[b3],?_⟩;rw[iG,List.all_cons,(MF h3).2,←iG,b4];rfl
theorem G1 {w0 w:World} {R n:Nat} {rem rest xs:List Int} (h:cR w0 w R rem) (hn:n≤9000000000000000000) (hp:bP n rem=some (xs,rest)):
  Calls Tryz.prog 78 #[.pointer (some ⟨R,0,none⟩),.int .i64 n] w fun e w'=>(∃v,e=.returned v∧aH w' w.heap.size 2 .i64 v xs)∧cR w0 w' R rest∧aZ w w' R:=
 (IX R n rem w h.at_ h.wf hn (by have:=h.len;omega)).mono fun e w' ho=>by
  have hr:=xN n hp h.wf;rw[hp]at ho;obtain⟨hm,hv,hr2⟩:=ho;exact⟨hv,⟨hr2,hr.1,by have:=h.len;have:=hr.2.1;omega,h.moved.trans hm,h.lt⟩,hm⟩
theorem K1 {p:Value} {w:World} {b:Bool} (hb:b=false):Calls Tryz.prog 24 #[p,.bool b] w fun e w'=>e=.panicked [kS]∧w=w':=by subst hb;exact qD p w
theorem yJ {w0 w:World} {R n:Nat} {m:Int} {rem rest xs:List Int} (hm:m=n) (h:cR w0 w R rem) (hn:n≤9000000000000000000) (hp:bP n rem=some (xs,rest)):
  Calls Tryz.prog 78 #[.pointer (some ⟨R,0,none⟩),.int .i64 m] w fun e w'=>(∃v,e=.returned v∧aH w' w.heap.size 2 .i64 v xs)∧cR w0 w' R rest∧aZ w w' R:=by subst hm;exact G1 h hn hp
theorem eqBytes_any (v u:Value) (xs ys:List Int) (w:World) (hr:Rd w .u8 v xs) (hs:Rd w .u8 u ys) (hl:xs.length≤140737488351232):
  Calls Tryz.prog 12 #[v,u] w fun e w'=>e=.returned (.bool (decide (xs=ys)))∧aN w w':=by
 obtain⟨o,cap,rfl,hc⟩:=hr;obtain⟨o2,cap2,rfl,hc2⟩:=hs;have HC:=Za hc;have HC2:=Za hc2;clear hc hc2;by_cases hlen:xs.length=ys.length
 ·have HL:=Za hlen;clear hlen;rw[←HL.o];go_enter Tryz.func12,Tryz.ntmps12;go_wp2;go_loopw[5] (fun i wr=>∃k:Nat,k≤xs.length∧i=.int .i64 k∧(∀j,j<k→aE xs j=aE ys j)∧aN w wr) (fun i _=>xs.length-(intOf i).toNat)
  case atStart=>exact⟨0,Ze _,rfl,fun _ h=>absurd h (Nat.not_lt_zero _),aN.refl _⟩
  case round=>
   obtain⟨k,hk,rfl,hpre,nq,rfl⟩:=hrel;have HP:=Za hpre;clear hpre;by_cases hlt:k<xs.length
   ·obtain⟨b,off,rfl,h1⟩:=HC.o k hlt;obtain⟨b2,off2,rfl,h2⟩:=HC2.o k (by rw[←HL.o];exact hlt);go_wp2;go_quiet(fail);go_wp2
    ·go_ret;rename_i hne;exact⟨by rw[decide_eq_false];rfl;intro e;rw[e]at hne;simp at hne,by first|exact⟨_,rfl⟩|exact⟨_,World.drewN_drewN _ _ _⟩⟩
    ·rename_i he;have HE:=Za he;clear he;go_roundw
     case rel=>exact⟨k+1,by omega,by go_num,fun j hj=>by rcases Nat.lt_succ_iff_lt_or_eq.1 hj with h|h;exact HP.o j h;rw[h];simpa using HE.o,by first|exact⟨_,rfl⟩|exact⟨_,World.drewN_drewN _ _ _⟩⟩
     case measure=>simp[intOf];omega
   ·obtain rfl:k=xs.length:=by omega
    have HE:Hid (xs=ys):=Za (pH HL.o HP.o);go_wp2;go_ret;exact⟨by rw[decide_eq_true HE.o];rfl,_,rfl⟩
 ·go_enter Tryz.func12,Tryz.ntmps12;have hb:(((xs.length:Nat):Int) != ((ys.length:Nat):Int))=true:=by simp[bne_iff_ne];omega
  have hne:xs≠ys:=fun e=>hlen (congrArg List.length e);have HE:=Za (decide_eq_false hne);clear hlen hne;go_wp2;go_ret;exact⟨by rw[HE.o];rfl,aN.refl _⟩
theorem IZ (v u:Value) (xs ys:List Int) (w:World) (hr:Rd w .i64 v xs) (hs:Rd w .i64 u ys) (hl:xs.length≤140737488351232):
  Calls Tryz.prog 139 #[v,u] w fun e w'=>e=.returned (.bool (decide (xs=ys)))∧aN w w':=by
 obtain⟨o,cap,rfl,hc⟩:=hr;obtain⟨o2,cap2,rfl,hc2⟩:=hs;have HC:=Za hc;have HC2:=Za hc2;clear hc hc2;by_cases hlen:xs.length=ys.length
 ·have HL:=Za hlen;clear hlen;rw[←HL.o];go_enter Tryz.func139,Tryz.ntmps139;go_wp2;go_loopw[5] (fun i wr=>∃k:Nat,k≤xs.length∧i=.int .i64 k∧(∀j,j<k→aE xs j=aE ys j)∧aN w wr) (fun i _=>xs.length-(intOf i).toNat)
  case atStart=>exact⟨0,Ze _,rfl,fun _ h=>absurd h (Nat.not_lt_zero _),aN.refl _⟩
  case round=>
   obtain⟨k,hk,rfl,hpre,nq,rfl⟩:=hrel;have HP:=Za hpre;clear hpre;by_cases hlt:k<xs.length
   ·obtain⟨b,off,rfl,h1⟩:=HC.o k hlt;obtain⟨b2,off2,rfl,h2⟩:=HC2.o k (by rw[←HL.o];exact hlt);go_wp2;go_quiet(fail);go_wp2
    ·go_ret;rename_i hne;exact⟨by rw[decide_eq_false];rfl;intro e;rw[e]at hne;simp at hne,by first|exact⟨_,rfl⟩|exact⟨_,World.drewN_drewN _ _ _⟩⟩
    ·rename_i he;have HE:=Za he;clear he;go_roundw
     case rel=>exact⟨k+1,by omega,by go_num,fun j hj=>by rcases Nat.lt_succ_iff_lt_or_eq.1 hj with h|h;exact HP.o j h;rw[h];simpa using HE.o,by first|exact⟨_,rfl⟩|exact⟨_,World.drewN_drewN _ _ _⟩⟩
     case measure=>simp[intOf];omega
   ·obtain rfl:k=xs.length:=by omega
    have HE:Hid (xs=ys):=Za (pH HL.o HP.o);go_wp2;go_ret;exact⟨by rw[decide_eq_true HE.o];rfl,_,rfl⟩
 ·go_enter Tryz.func139,Tryz.ntmps139;have hb:(((xs.length:Nat):Int) != ((ys.length:Nat):Int))=true:=by simp[bne_iff_ne];omega
  have hne:xs≠ys:=fun e=>hlen (congrArg List.length e);have HE:=Za (decide_eq_false hne);clear hlen hne;go_wp2;go_ret;exact⟨by rw[HE.o];rfl,aN.refl _⟩
theorem oR (v u:Value) (xs ys:List Int) (w:World) (hr:Rd w .i64 v xs) (hs:Rd w .i64 u ys) (hl:xs.length≤140737488351232):
  Calls Tryz.prog 94 #[v,u] w fun e w'=>e=.returned (.bool (decide (xs=ys)))∧aN w w':=by
 obtain⟨o,cap,rfl,hc⟩:=hr;obtain⟨o2,cap2,rfl,hc2⟩:=hs;have HC:=Za hc;have HC2:=Za hc2;clear hc hc2;by_cases hlen:xs.length=ys.length
 ·have HL:=Za hlen;clear hlen;rw[←HL.o];go_enter Tryz.func94,Tryz.ntmps94;go_wp2;go_loopw[5] (fun i wr=>∃k:Nat,k≤xs.length∧i=.int .i64 k∧(∀j,j<k→aE xs j=aE ys j)∧aN w wr) (fun i _=>xs.length-(intOf i).toNat)
  case atStart=>exact⟨0,Ze _,rfl,fun _ h=>absurd h (Nat.not_lt_zero _),aN.refl _⟩
  case round=>
   obtain⟨k,hk,rfl,hpre,nq,rfl⟩:=hrel;have HP:=Za hpre;clear hpre;by_cases hlt:k<xs.length
   ·obtain⟨b,off,rfl,h1⟩:=HC.o k hlt;obtain⟨b2,off2,rfl,h2⟩:=HC2.o k (by rw[←HL.o];exact hlt);go_wp2;go_quiet(fail);go_wp2
    ·go_ret;rename_i hne;exact⟨by rw[decide_eq_false];rfl;intro e;rw[e]at hne;simp at hne,by first|exact⟨_,rfl⟩|exact⟨_,World.drewN_drewN _ _ _⟩⟩
    ·rename_i he;have HE:=Za he;clear he;go_roundw
     case rel=>exact⟨k+1,by omega,by go_num,fun j hj=>by rcases Nat.lt_succ_iff_lt_or_eq.1 hj with h|h;exact HP.o j h;rw[h];simpa using HE.o,by first|exact⟨_,rfl⟩|exact⟨_,World.drewN_drewN _ _ _⟩⟩
     case measure=>simp[intOf];omega
   ·obtain rfl:k=xs.length:=by omega
    have HE:Hid (xs=ys):=Za (pH HL.o HP.o);go_wp2;go_ret;exact⟨by rw[decide_eq_true HE.o];rfl,_,rfl⟩
 ·go_enter Tryz.func94,Tryz.ntmps94;have hb:(((xs.length:Nat):Int) != ((ys.length:Nat):Int))=true:=by simp[bne_iff_ne];omega
  have hne:xs≠ys:=fun e=>hlen (congrArg List.length e);have HE:=Za (decide_eq_false hne);clear hlen hne;go_wp2;go_ret;exact⟨by rw[HE.o];rfl,aN.refl _⟩
def fC (w:World) (l:List Obj):World:=l.foldl World.alloc w
theorem nQ (l:List Obj):∀w:World,(fC w l).heap=w.heap++l.toArray:=by
 induction l with
 |nil=>intro w;simp[fC]
 |cons o l ih=>
  intro w
  show(fC (w.alloc o) l).heap=_
  rw[ih,show(w.alloc o).heap=w.heap.push o from rfl];simp
theorem yU (l:List Obj):∀(w:World) {B:Nat} {w0:World},Below B w0 w→B≤w.heap.size→Below B w0 (fC w l):=by
 induction l with
 |nil=>intro w B w0 h _;exact h
 |cons o l ih=>intro w B w0 h hB;exact ih (w.alloc o) (h.alloc hB o) (by simp;omega)
theorem FX (w:World) (l:List Obj) (i:Nat) (o:Obj) (h:l[i]?=some o):(fC w l).heap[w.heap.size+i]?=some o:=by
 rw[nQ,Array.getElem?_append_right (by omega)]
 simpa using h
theorem uR (w:World) (l:List Obj) (i:Nat) (cs:Array Value) (T:TypeId) (h:l[i]?=some (.cells cs T)) (j:Nat) (v:Value) (hj:cs[j]?=some v):(fC w l).cell? ⟨w.heap.size+i,j,none⟩=some v:=by rw[cell_of_row _ (w.heap.size+i) j cs T (0,0) (FX w l i _ h)];exact hj
def iC (n:Nat):List Obj:=[
 .cells #[.func (.func 172) #[] #[],.func (.func 173) #[] #[]] 220,
 .cells #[.int .i64 1,.int .i64 1] 3,
 .cells #[.int .i64 4096,.int .i64 4096] 3,
 .cells #[.func (.func 172) #[] #[],.func (.func 173) #[] #[],.func (.func 174) #[] #[],.func (.func 175) #[] #[],.func (.func 176) #[] #[]] 220,
 .cells #[.int .i64 1,.int .i64 1,.int .i64 1,.int .i64 1,.int .i64 0] 3,
 .cells #[.int .i64 4096,.int .i64 4096,.int .i64 4096,.int .i64 4096,.int .i64 4096] 3,
 .cells #[.func (.func 177) #[] #[]] 220,
 .cells #[.int .i64 0] 3,
 .cells #[.int .i64 99] 3,
 .cells #[.func (.func 174) #[] #[]] 220,
 .cells #[.int .i64 1] 3,
 .cells #[.int .i64 4096] 3,
 .cells #[.func (.func 174) #[] #[]] 220,
 .cells #[.int .i64 1] 3,
 .cells #[.int .i64 4096] 3,
 .cells #[.func (.func 172) #[] #[],.func (.func 173) #[] #[]] 220,
 .cells #[.int .i64 1,.int .i64 1] 3,
 .cells #[.int .i64 4096,.int .i64 4096] 3,
 .cells #[.func (.func 172) #[] #[],.func (.func 178) #[] #[]] 220,
 .cells #[.int .i64 1,.int .i64 1] 3,
 .cells #[.int .i64 4096,.int .i64 4096] 3,
 .cells #[.int .i64 1,.string {data:=#[108,105,110,101,97,114]},.slice (some ⟨n+0,0,none⟩) 2 2,.slice (some ⟨n+1,0,none⟩) 2 2,.slice (some ⟨n+2,0,none⟩) 2 2,.int .i64 2,.string {data:=#[99,111,110,118]},.slice (some ⟨n+3,0,none⟩) 5 5,.slice (some ⟨n+4,0,none⟩) 5 5,.slice (some ⟨n+5,0,none⟩) 5 5,.int .i64 3,.string {data:=#[114,101,108,117]},.slice none 0 0,.slice none 0 0,.slice none 0 0,.int .i64 4,.string {data:=#[116,97,110,104]},.slice none 0 0,.slice none 0 0,.slice none 0 0,.int .i64 5,.string {data:=#[115,105,103,109,111,105,100]},.slice none 0 0,.slice none 0 0,.slice none 0 0,.int .i64 6,.string {data:=#[110,111,114,109]},.slice none 0 0,.slice none 0 0,.slice none 0 0,.int .i64 10,.string {data:=#[102,108,97,116,116,101,110]},.slice none 0 0,.slice none 0 0,.slice none 0 0,.int .i64 7,.string {data:=#[100,114,111,112]},.slice (some ⟨n+6,0,none⟩) 1 1,.slice (some ⟨n+7,0,none⟩) 1 1,.slice (some ⟨n+8,0,none⟩) 1 1,.int .i64 8,.string {data:=#[109,97,120,112,111,111,108]},.slice (some ⟨n+9,0,none⟩) 1 1,.slice (some ⟨n+10,0,none⟩) 1 1,.slice (some ⟨n+11,0,none⟩) 1 1,.int .i64 9,.string {data:=#[97,118,103,112,111,111,108]},.slice (some ⟨n+12,0,none⟩) 1 1,.slice (some ⟨n+13,0,none⟩) 1 1,.slice (some ⟨n+14,0,none⟩) 1 1,.int .i64 11,.string {data:=#[101,109,98,101,100]},.slice (some ⟨n+15,0,none⟩) 2 2,.slice (some ⟨n+16,0,none⟩) 2 2,.slice (some ⟨n+17,0,none⟩) 2 2,.int .i64 12,.string {data:=#[97,116,116,101,110,116,105,111,110]},.slice (some ⟨n+18,0,none⟩) 2 2,.slice (some ⟨n+19,0,none⟩) 2 2,.slice (some ⟨n+20,0,none⟩) 2 2] 219]
def lA:Nat→FuncId
 |1=>172
 |2=>173
 |3=>174
 |4=>175
 |5=>176
 |6=>177
 |_=>178
def iE (w:World) (v:Value) (ats:List Nat):Prop:=∃o cap,v=.slice o ats.length cap∧∀j (hj:j<ats.length),∃b off,o=some ⟨b,off,none⟩∧w.cell? ⟨b,off+j,none⟩=some (.func (.func (lA ats[j])) #[] #[])
theorem iE.below {w w':World} {B:Nat} {v:Value} {ats:List Nat} (h:iE w v ats) (hB:Below B w w') (hs:w.heap.size≤B):iE w' v ats:=by obtain⟨o,cap,rfl,h⟩:=h;refine⟨o,cap,rfl,fun j hj=>?_⟩;obtain⟨b,off,rfl,hc⟩:=h j hj;exact⟨b,off,rfl,(hB.cell (p:=⟨b,off+j,none⟩) (Nat.lt_of_lt_of_le (aP hc) hs)).trans hc⟩
def qR (w:World) (b i:Nat) (r:bU):Prop:=∃va vl vh,w.cell? ⟨b,i*5,none⟩=some (.int .i64 r.kind)∧w.cell? ⟨b,i*5+1,none⟩=some (.string ⟨r.word.toArray⟩)∧
 w.cell? ⟨b,i*5+2,none⟩=some va∧w.cell? ⟨b,i*5+3,none⟩=some vl∧w.cell? ⟨b,i*5+4,none⟩=some vh∧iE w va r.at_∧Rd w .i64 vl r.low∧Rd w .i64 vh r.high
def j8 (w:World) (b:Nat):Prop:=∀i (hi:i<bG.length),qR w b i bG[i]
theorem qR.below {w w':World} {B b i:Nat} {r:bU} (h:qR w b i r) (hB:Below B w w') (hs:w.heap.size≤B):qR w' b i r:=by obtain⟨va,vl,vh,h0,h1,h2,h3,h4,h5,h6,h7⟩:=h;have k:∀{j:Nat} {u:Value},w.cell? ⟨b,j,none⟩=some u→w'.cell? ⟨b,j,none⟩=some u:=fun {j u} hc=>(hB.cell (p:=⟨b,j,none⟩) (Nat.lt_of_lt_of_le (aP hc) hs)).trans hc;exact⟨va,vl,vh,k h0,k h1,k h2,k h3,k h4,h5.below hB hs,h6.below hB hs,h7.below hB hs⟩
theorem j8.below {w w':World} {B b:Nat} (h:j8 w b) (hB:Below B w w') (hs:w.heap.size≤B):j8 w' b:=fun i hi=>(h i hi).below hB hs
theorem iE.nil (w:World):iE w (.slice none 0 0) []:=⟨none,0,rfl,fun j hj=>absurd hj (Nat.not_lt_zero j)⟩
theorem nN (w:World) (l:List Obj) (i:Nat) (ats:List Nat) (T:TypeId) (h:l[i]?=some (.cells (ats.map fun a=>Value.func (.func (lA a)) #[] #[]).toArray T)) (n:Nat) (hn:n=ats.length):iE (fC w l) (.slice (some ⟨w.heap.size+i,0,none⟩) n n) ats:=by subst hn;refine⟨_,_,rfl,fun j hj=>⟨w.heap.size+i,0,rfl,?_⟩⟩;rw[Nat.zero_add];exact uR w l i _ T h j _ (by simp[hj])
theorem iT (w:World) (l:List Obj) (i:Nat) (xs:List Int) (T:TypeId) (h:l[i]?=some (.cells (xs.map (Value.int .i64)).toArray T)) (n:Nat) (hn:n=xs.length):Rd (fC w l) .i64 (.slice (some ⟨w.heap.size+i,0,none⟩) n n) xs:=by subst hn;refine⟨_,_,rfl,fun j hj=>⟨w.heap.size+i,0,rfl,?_⟩⟩;rw[Nat.zero_add];exact uR w l i _ T h j _ (by simp[dK xs j hj,hj])
theorem EE (w:World):j8 (fC w (iC w.heap.size)) (w.heap.size+21):=by
 intro i hi;have hb:∀(j:Nat) (v:Value),_→(fC w (iC w.heap.size)).cell? ⟨w.heap.size+21,j,none⟩=some v:=fun j v hj=>uR w (iC w.heap.size) 21 _ 219 rfl j v hj;have hi':i<12:=hi;rcases(show i=0∨i=1∨i=2∨i=3∨i=4∨i=5∨i=6∨i=7∨i=8∨i=9∨i=10∨i=11 by omega)with rfl|rfl|rfl|rfl|rfl|rfl|rfl|rfl|rfl|rfl|rfl|rfl
 ·exact⟨_,_,_,hb 0 _ rfl,hb 1 _ rfl,hb 2 _ rfl,hb 3 _ rfl,hb 4 _ rfl,nN w _ 0 [1,2] _ rfl 2 rfl,iT w _ 1 [1,1] _ rfl 2 rfl,iT w _ 2 [4096,4096] _ rfl 2 rfl⟩
 ·exact⟨_,_,_,hb 5 _ rfl,hb 6 _ rfl,hb 7 _ rfl,hb 8 _ rfl,hb 9 _ rfl,nN w _ 3 [1,2,3,4,5] _ rfl 5 rfl,iT w _ 4 [1,1,1,1,0] _ rfl 5 rfl,iT w _ 5 [4096,4096,4096,4096,4096] _ rfl 5 rfl⟩
 ·exact⟨_,_,_,hb 10 _ rfl,hb 11 _ rfl,hb 12 _ rfl,hb 13 _ rfl,hb 14 _ rfl,iE.nil _,Rd.nil _ _ _ _,Rd.nil _ _ _ _⟩
 ·exact⟨_,_,_,hb 15 _ rfl,hb 16 _ rfl,hb 17 _ rfl,hb 18 _ rfl,hb 19 _ rfl,iE.nil _,Rd.nil _ _ _ _,Rd.nil _ _ _ _⟩
 ·exact⟨_,_,_,hb 20 _ rfl,hb 21 _ rfl,hb 22 _ rfl,hb 23 _ rfl,hb 24 _ rfl,iE.nil _,Rd.nil _ _ _ _,Rd.nil _ _ _ _⟩
 ·exact⟨_,_,_,hb 25 _ rfl,hb 26 _ rfl,hb 27 _ rfl,hb 28 _ rfl,hb 29 _ rfl,iE.nil _,Rd.nil _ _ _ _,Rd.nil _ _ _ _⟩
 ·exact⟨_,_,_,hb 30 _ rfl,hb 31 _ rfl,hb 32 _ rfl,hb 33 _ rfl,hb 34 _ rfl,iE.nil _,Rd.nil _ _ _ _,Rd.nil _ _ _ _⟩
 ·exact⟨_,_,_,hb 35 _ rfl,hb 36 _ rfl,hb 37 _ rfl,hb 38 _ rfl,hb 39 _ rfl,nN w _ 6 [6] _ rfl 1 rfl,iT w _ 7 [0] _ rfl 1 rfl,iT w _ 8 [99] _ rfl 1 rfl⟩
 ·exact⟨_,_,_,hb 40 _ rfl,hb 41 _ rfl,hb 42 _ rfl,hb 43 _ rfl,hb 44 _ rfl,nN w _ 9 [3] _ rfl 1 rfl,iT w _ 10 [1] _ rfl 1 rfl,iT w _ 11 [4096] _ rfl 1 rfl⟩
 ·exact⟨_,_,_,hb 45 _ rfl,hb 46 _ rfl,hb 47 _ rfl,hb 48 _ rfl,hb 49 _ rfl,nN w _ 12 [3] _ rfl 1 rfl,iT w _ 13 [1] _ rfl 1 rfl,iT w _ 14 [4096] _ rfl 1 rfl⟩
 ·exact⟨_,_,_,hb 50 _ rfl,hb 51 _ rfl,hb 52 _ rfl,hb 53 _ rfl,hb 54 _ rfl,nN w _ 15 [1,2] _ rfl 2 rfl,iT w _ 16 [1,1] _ rfl 2 rfl,iT w _ 17 [4096,4096] _ rfl 2 rfl⟩
 ·exact⟨_,_,_,hb 55 _ rfl,hb 56 _ rfl,hb 57 _ rfl,hb 58 _ rfl,hb 59 _ rfl,nN w _ 18 [1,7] _ rfl 2 rfl,iT w _ 19 [1,1] _ rfl 2 rfl,iT w _ 20 [4096,4096] _ rfl 2 rfl⟩
theorem aB.ind {P:aB→Prop} (h:∀n body,(∀l∈body,P l)→P (.mk n body)):∀l,P l
 |.mk n body=>h n body (indL h body)
 where indL {P:aB→Prop} (h:∀n body,(∀l∈body,P l)→P (.mk n body)):∀(b:List aB),∀l∈b,P l
 |[],l,hl=>nomatch hl
 |x::r,l,hl=>(List.mem_cons.1 hl).elim (fun e=>e▸aB.ind h x) (indL h r l)
theorem wR (i:Nat) (args:Array Value) (w:World):(callFunc (lA i) args).run Tryz.prog w=.ok (.enter (lA i) args) w:=by
 unfold lA;split
 ·exact enters_of Tryz.func172 (by kernel_rfl) rfl args w
 ·exact enters_of Tryz.func173 (by kernel_rfl) rfl args w
 ·exact enters_of Tryz.func174 (by kernel_rfl) rfl args w
 ·exact enters_of Tryz.func175 (by kernel_rfl) rfl args w
 ·exact enters_of Tryz.func176 (by kernel_rfl) rfl args w
 ·exact enters_of Tryz.func177 (by kernel_rfl) rfl args w
 ·exact enters_of Tryz.func178 (by kernel_rfl) rfl args w
theorem uO (i:Nat) (hi:1≤i∧i≤7) (b:Nat) (w:World):Calls Tryz.prog (lA i) #[.pointer (some ⟨b,0,none⟩)] w fun e w'=>e=.returned (.pointer (some ⟨b,i,none⟩))∧w=w':=by
 obtain⟨h1,h2⟩:=hi;rcases(show i=1∨i=2∨i=3∨i=4∨i=5∨i=6∨i=7 by omega)with rfl|rfl|rfl|rfl|rfl|rfl|rfl
 ·show Calls Tryz.prog 172 _ _ _
  go_enter Tryz.func172,Tryz.ntmps172;go_wp2;go_ret;exact⟨rfl,rfl⟩
 ·show Calls Tryz.prog 173 _ _ _
  go_enter Tryz.func173,Tryz.ntmps173;go_wp2;go_ret;exact⟨rfl,rfl⟩
 ·show Calls Tryz.prog 174 _ _ _
  go_enter Tryz.func174,Tryz.ntmps174;go_wp2;go_ret;exact⟨rfl,rfl⟩
 ·show Calls Tryz.prog 175 _ _ _
  go_enter Tryz.func175,Tryz.ntmps175;go_wp2;go_ret;exact⟨rfl,rfl⟩
 ·show Calls Tryz.prog 176 _ _ _
  go_enter Tryz.func176,Tryz.ntmps176;go_wp2;go_ret;exact⟨rfl,rfl⟩
 ·show Calls Tryz.prog 177 _ _ _
  go_enter Tryz.func177,Tryz.ntmps177;go_wp2;go_ret;exact⟨rfl,rfl⟩
 ·show Calls Tryz.prog 178 _ _ _
  go_enter Tryz.func178,Tryz.ntmps178;go_wp2;go_ret;exact⟨rfl,rfl⟩
theorem ED (l m:aG) (v u:Value) (w:World):
  Calls Tryz.prog 189 #[.agg (l.cells v).toArray,.agg (m.cells u).toArray] w fun e w'=>e=.returned (.bool (gD l m))∧Below w.heap.size w w':=by
 obtain⟨k0,k1,k2,k3,k4,k5,k6,k7⟩:=l;obtain⟨j0,j1,j2,j3,j4,j5,j6,j7⟩:=m;simp only[aG.cells];go_enter Tryz.func189,Tryz.ntmps189;go_wp2
 all_goals
  go_ret;exact⟨aF (by simp[gD,Bool.beq_eq_decide_eq, *]),((Zc _ _).alloc (Zb _) _).alloc (by simp) _⟩
def fX (l:List UInt8) (low high:Int) (w:World) (e:Ending) (w':World):Prop:=
 (∃m,e=.returned (.tuple #[.int .i64 m,.bool (dO l low high).isSome])∧∀x,dO l low high=some x→m=x)∧w=w'
theorem fX.no {l:List UInt8} {low high m:Int} {w:World} (h:dO l low high=none):fX l low high w (.returned (.tuple #[.int .i64 m,.bool false])) w:=
 ⟨⟨m,by rw[h];rfl,fun x hx=>by rw[h]at hx;cases hx⟩,rfl⟩
theorem fX.yes {l:List UInt8} {low high m:Int} {w:World} (h:dO l low high=some m):fX l low high w (.returned (.tuple #[.int .i64 m,.bool true])) w:=
 ⟨⟨m,by rw[h];rfl,fun x hx=>by rw[h]at hx;cases hx;rfl⟩,rfl⟩
def uH (l:List UInt8):Prop:=∀c∈l,jT c=true
theorem LL (l:List UInt8) (h:uH l) (a:Nat):l.foldl (fun n c=>10*n+(c.toNat-48)) a+1≤(a+1)*10^l.length:=by
 induction l generalizing a with
 |nil=>simp
 |cons c l ih=>
  have h2:=h c (by simp);have h3:c.toNat-48≤9:=by simp only[jT,Bool.and_eq_true,decide_eq_true_eq,UInt8.le_iff_toNat_le]at h2;have:(57:UInt8).toNat=57:=rfl;omega
  have h4:=ih (fun x hx=>h x (by simp[hx])) (10*a+(c.toNat-48));have h5:=Nat.mul_le_mul_right (10^l.length) (show 10*a+(c.toNat-48)+1≤10*(a+1) by omega);rw[List.foldl_cons,List.length_cons,Nat.pow_succ];have h6:10*(a+1)*10^l.length=(a+1)*(10^l.length*10):=by rw[Nat.mul_comm 10 (a+1),Nat.mul_assoc,Nat.mul_comm 10]
  omega
theorem KM (l:List UInt8) (h:uH l) (hl:l.length≤4):iD l<10000:=by have h1:=LL l h 0;have h2:10^l.length≤10^4:=Nat.pow_le_pow_right (by omega) hl;rw[iD];omega
theorem uC (l:List UInt8) (k:Nat) (h:k<(⟨l.toArray⟩:ByteArray).size):(⟨l.toArray⟩:ByteArray)[k]'h=l[k]'(by simpa [ByteArray.size]using h):=by
 show l.toArray[k]'_=_
 simp
attribute [local go_sem] uC
theorem EU {l:List UInt8} {low high:Int} (h:4<l.length):dO l low high=none:=by rw[dO,if_pos (.inr (.inl h))]
theorem QF {l:List UInt8} {low high:Int} (h:l.head?=some 48) (h2:1<l.length):dO l low high=none:=by rw[dO,if_pos (.inr (.inr (.inl ⟨h,h2⟩)))]
theorem I2 {l:List UInt8} {low high:Int} (h:l.all jT=false):dO l low high=none:=by rw[dO,if_pos (.inr (.inr (.inr h)))]
theorem SA {l:List UInt8} {low high:Int} (h0:l≠[]) (h1:¬4<l.length) (h2:¬(l.head?=some 48∧1<l.length)) (h3:l.all jT=true):
  dO l low high=if low≤iD l∧(iD l:Int)≤high then some (iD l:Int) else none:=by
 rw[dO,if_neg];rintro(h|h|h|h)
 ·exact h0 h
 ·exact h1 h
 ·exact h2 h
 ·rw[h3]at h;cases h
theorem KS {c:UInt8} (h:jT c=false):c.toNat<48∨57<c.toNat:=by simp only[jT,Bool.and_eq_false_iff,decide_eq_false_iff_not,UInt8.le_iff_toNat_le]at h;have h1:(48:UInt8).toNat=48:=rfl;have h2:(57:UInt8).toNat=57:=rfl;omega
theorem FT {c:UInt8} (h:jT c=true):48≤c.toNat∧c.toNat≤57:=by simp only[jT,Bool.and_eq_true,decide_eq_true_eq,UInt8.le_iff_toNat_le]at h;have h1:(48:UInt8).toNat=48:=rfl;have h2:(57:UInt8).toNat=57:=rfl;omega
theorem vK (l:List UInt8) (low high:Int) (w:World) (hl:l.length≤100000):
  Calls Tryz.prog 155 #[.string ⟨l.toArray⟩,.int .i64 low,.int .i64 high] w (fX l low high w):=by
 cases l with
 |nil=>
  have HN:=Za (show dO [] low high=none from by simp[dO]);go_enter Tryz.func155,Tryz.ntmps155;go_wp2;go_ret2;exact fX.no HN.o
 |cons c r=>
  by_cases h4:4<(c::r).length
  ·have HN:=Za (EU (low:=low) (high:=high) h4);have h4':(4:Int)<(r.length:Int)+1:=by simp at h4;omega
   have hd:decide ((4:Int)<(r.length:Int)+1)=true:=decide_eq_true h4';clear h4;go_enter Tryz.func155,Tryz.ntmps155;go_wp2;go_ret2
   first|exact fX.no HN.o|(rw[←HL2.o];exact fX.no HN.o)
  ·obtain⟨L,hL⟩:∃L,L=c::r:=⟨_,rfl⟩;by_cases hlead:c=48∧1<(c::r).length
   ·have HN:=Za (QF (low:=low) (high:=high) (l:=c::r) (by rw[hlead.1];rfl) hlead.2);have h4':¬(4:Int)<(r.length:Int)+1:=by simp at h4;omega
    have h1':(1:Int)<(r.length:Int)+1:=by have:=hlead.2;simp at this;omega
    have hc:(c.toNat:Int)=48:=by rw[hlead.1];rfl
    clear hlead h4;go_enter Tryz.func155,Tryz.ntmps155;go_wp2;go_ret2
    first|exact fX.no HN.o|(rw[←HL2.o];exact fX.no HN.o)
   ·have h4':¬(4:Int)<(r.length:Int)+1:=by simp at h4;omega
    have HLD:=Za (show ¬((c::r).head?=some 48∧1<(c::r).length)from fun h=>hlead ⟨by simpa using h.1,h.2⟩);have hcc:(c.toNat:Int)=48→¬(1:Int)<(r.length:Int)+1:=fun h h2=>hlead ⟨by
     have:c.toNat=(48:UInt8).toNat:=by have:(48:UInt8).toNat=48:=rfl;omega
     exact UInt8.toNat_inj.1 this,by simp;omega⟩
    have HH4:=Za h4;have hll:(c::r).length≤4:=by omega
    obtain⟨l,hl2⟩:∃l,l=c::r:=⟨_,rfl⟩;have hlen:(r.length:Int)+1=(l.length:Int):=by rw[hl2];simp
    rw[←hl2]at hll HLD HH4;have HL2:=Za hl2;have hc2:(c.toNat:Int)=48∧¬(1:Int)<(r.length:Int)+1∨¬(c.toNat:Int)=48:=by
     by_cases h:(c.toNat:Int)=48
     ·exact .inl ⟨h,hcc h⟩
     ·exact .inr h
    clear hlead h4 hcc hl2 hL hl;rcases hc2 with⟨hc3,hc4⟩|hc3
    all_goals
     go_enter Tryz.func155,Tryz.ntmps155;go_wp2;rw[←HL2.o]
     try simp only[List.length_cons,Int.natCast_add,Int.natCast_one,Int.cast_ofNat_Int]at*
     try rw[hlen]
     go_loop[8,29] (fun x i=>∃k:Nat,k≤l.length∧i=.int .i64 k∧x=.int .i64 (iD (l.take k):Nat)∧uH (l.take k)) (fun _ i=>l.length-(intOf i).toNat)
     case atStart=>exact⟨0,Ze _,rfl,rfl,fun x hx=>by simp at hx⟩
     case round=>
      obtain⟨k,hk,rfl,rfl,hd⟩:=hrel;by_cases hlt:k<l.length
      ·have hts:l.take (k+1)=l.take k++[l[k]]:=List.take_succ_eq_append_getElem hlt;have hdv:=KM _ hd (by rw[List.length_take];omega);have HTS:=Za hts;have HD:=Za hd;have hsz:k<(⟨l.toArray⟩:ByteArray).size:=by simpa [ByteArray.size]using hlt
       obtain⟨dv,hdve⟩:∃dv,dv=iD (l.take k):=⟨_,rfl⟩;rw[←hdve]at hdv ⊢;have HDV:=Za hdve;clear hts hd hdve;cases hdg:jT l[k]with
       |true=>
        have hy:=FT hdg;have HDG:=Za hdg;have hy1:¬(l[k].toNat:Int)<48:=by omega
        have hy2:¬(57:Int)<(l[k].toNat:Int):=by omega
        clear hdg;go_wp2;go_round
        case rel=>exact⟨k+1,by omega,by go_num,by rw[HTS.o,BH,←HDV.o];congr 1;omega,by rw[HTS.o];intro x hx;rcases List.mem_append.1 hx with hx|hx;exact HD.o x hx;rw[List.mem_singleton.1 hx];exact HDG.o⟩
        case measure=>simp[intOf];omega
       |false=>
        have hy:=KS hdg;have HN:=Za (I2 (low:=low) (high:=high) (l:=l) (List.all_eq_false.2 ⟨_,List.getElem_mem hlt,by rw[hdg];simp⟩));clear hdg;have hy1:(l[k].toNat:Int)<48∨¬(l[k].toNat:Int)<48∧(57:Int)<(l[k].toNat:Int):=by omega
        clear hy;rcases hy1 with hy1|⟨hy1,hy2⟩
        all_goals
         go_wp2;go_ret2
         first|exact fX.no HN.o|(rw[←HL2.o];exact fX.no HN.o)
      ·obtain rfl:k=l.length:=by omega
       have hne:l≠[]:=by rw[HL2.o];simp
       rw[List.take_of_length_le (Zb _)]at hd ⊢;have hv:=SA (low:=low) (high:=high) hne HH4.o HLD.o (List.all_eq_true.2 hd);obtain⟨dv,hdve⟩:∃dv,dv=iD l:=⟨_,rfl⟩;rw[←hdve]at hv ⊢;clear hd hdve;by_cases hlo:low≤(dv:Int)
       ·by_cases hhi:(dv:Int)≤high
        ·rw[if_pos ⟨hlo,hhi⟩]at hv;have HV:=Za hv;clear hv;go_wp2;go_ret2
         first|exact fX.yes HV.o|(rw[←HL2.o];exact fX.yes HV.o)
        ·rw[if_neg (fun h=>hhi h.2)]at hv;have HV:=Za hv;clear hv;go_wp2;go_ret2
         first|exact fX.no HV.o|(rw[←HL2.o];exact fX.no HV.o)
       ·rw[if_neg (fun h=>hlo h.1)]at hv;have HV:=Za hv;clear hv;go_wp2;go_ret2
        first|exact fX.no HV.o|(rw[←HL2.o];exact fX.no HV.o)
def mR (k:Int):List UInt8:=match cQ k with
 |some r=>r.word
 |none=>if k=13 then dC else []
theorem DX (k:Int) (h:k<1∨13<k):mR k=[]:=by
 have:cQ k=none:=by
  rw[cQ,List.find?_eq_none];intro r hr;have:∀r∈bG,1≤r.kind∧r.kind≤12:=by decide
  have:=this r hr;simp;omega
 rw[mR,this];simp;omega
theorem BJ (k:Int) (w:World):Calls Tryz.prog 144 #[.int .i64 k] w fun e w'=>e=.returned (.string ⟨(mR k).toArray⟩)∧w=w':=by
 by_cases h:k<1∨13<k
 ·have HN:=Za (DX k h);have n1:¬k=1:=by omega
  have n2:¬k=2:=by omega
  have n3:¬k=3:=by omega
  have n4:¬k=4:=by omega
  have n5:¬k=5:=by omega
  have n6:¬k=6:=by omega
  have n7:¬k=7:=by omega
  have n8:¬k=8:=by omega
  have n9:¬k=9:=by omega
  have n10:¬k=10:=by omega
  have n11:¬k=11:=by omega
  have n12:¬k=12:=by omega
  have n13:¬k=13:=by omega
  clear h;go_enter Tryz.func144,Tryz.ntmps144;go_wp2;go_ret;exact⟨by rw[HN.o];rfl,rfl⟩
 ·have:k=1∨k=2∨k=3∨k=4∨k=5∨k=6∨k=7∨k=8∨k=9∨k=10∨k=11∨k=12∨k=13:=by omega
  clear h;rcases this with rfl|rfl|rfl|rfl|rfl|rfl|rfl|rfl|rfl|rfl|rfl|rfl|rfl
  all_goals
   go_enter Tryz.func144,Tryz.ntmps144;go_wp2;go_ret;exact⟨rfl,rfl⟩
end Go.Proofs.YtjhkdocidcfpdaaGreatDoor
namespace Go.Proofs.YtjhkdocidcfpdaaGreatDoor
open Go.RowKit Go.ChangeShapes Go.WideShapes
def RB {H:Type} (enc:TypeId×Value→H) (P:Program) (w:World) (t:TypeId) (cs:List Value):Prop:=
 ∃(fuel:Nat) (d:DataW H) (pl:List MemPlace),DataW.trod enc P w 0 (fun _=>true) true fuel t cs=some (d,pl)∧∀n∈d.weights P t,n≤reachBytes
theorem uY {H:Type} {P:Program} {e:TypeId} {l:List (DataW H)} {d:DataW H} (h:d∈l):∀n∈d.weights P e,n∈DataW.weightsAll P e l:=by
 induction l with
 |nil=>cases h
 |cons x l ih=>
  intro n hn;simp only[DataW.weightsAll,List.mem_append];rcases List.mem_cons.1 h with rfl|h
  ·exact .inl hn
  ·exact .inr (ih h n hn)
theorem RB.slice {H:Type} {enc:TypeId×Value→H} {P:Program} {w:World} {t e:TypeId} {v:Value} (h:RB enc P w t [v]) (ht:P.underlying t=some (.slice e)):
  ∃o len cap,v=.slice o len cap∧len*P.bytesOf e≤reachBytes∧cap*P.bytesOf e≤reachBytes∧len≤cap∧∀i,i<len→∃a cs,o=some a∧w.cells? 0 (a.add (i*P.cellsOf e)) (P.cellsOf e)=some cs∧RB enc P w e cs:=by
 obtain⟨fuel,d,pl,h,hw⟩:=h;rcases Deep.open_slice ht h with⟨hcs,_⟩|⟨a,len,cap,m,n,D,Pl,hcs,_,hl,hm,hmm,hx,hel⟩
 ·simp at hcs;subst hcs;exact⟨none,0,0,rfl,by simp,by simp,by simp,fun i hi=>absurd hi (Nat.not_lt_zero _)⟩
 ·simp at hcs hmm hx;subst hcs;obtain⟨rfl,rfl⟩:=hx;subst hmm;have hk:m*P.bytesOf e≤reachBytes:=by
   have:=hw ((len+(m-len))*P.bytesOf e) (by simp[DataW.weights,ht])
   rwa [show len+(m-len)=m by omega]at this
  refine⟨some a,len,m,rfl,Nat.le_trans (Nat.mul_le_mul_right _ hl) hk,hk,hl,fun i hi=>?_⟩;obtain⟨cs',h1,h2⟩:=hel i (by omega);refine⟨a,cs',rfl,h1,n,D i,Pl i,h2,fun n hn=>hw n ?_⟩;simp only[DataW.weights,ht,List.mem_cons,List.mem_append];exact .inr (.inl (uY (List.mem_map.2 ⟨i,List.mem_range.2 hi,rfl⟩) n hn))
theorem oZ {w:World} {a:Addr} {n:Nat} {cs:List Value} (h:w.cells? 0 a n=some cs) (hn:0<n):
  ∃b off,a=⟨b,off,none⟩∧cs.length=n∧∀j v,cs[j]?=some v→w.cell? ⟨b,off+j,none⟩=some v:=by
 obtain⟨_,hl,hc⟩:=World.cells?_some h;obtain⟨b,off,spot⟩:=a;have h0:=hc 0 hn;have hspot:spot=none:=by
  obtain⟨v,hv⟩:∃v,cs[0]?=some v:=⟨cs[0],List.getElem?_eq_getElem (by omega)⟩;rw[hv]at h0
  simpa [Addr.add]using World.cell?_spot h0
 subst hspot;refine⟨b,off,rfl,hl,fun j v hj=>?_⟩;have hjl:j<cs.length:=(List.getElem?_eq_some_iff.1 hj).1;have:=hc j (by omega);rw[hj]at this
 simpa [Addr.add_lit]using this
theorem RB.int {H:Type} {enc:TypeId×Value→H} {P:Program} {w:World} {t:TypeId} {K:IntKind} {v:Value} (h:RB enc P w t [v]) (ht:P.underlying t=some (.int K)):
  ∃x,v=.int K x∧(Lit.int K x).wf=true:=by obtain⟨fuel,d,pl,h,_⟩:=h;obtain⟨x,e,_,hwf⟩:=DataW.trod_int ht h;simp at e;exact⟨x,e,hwf⟩
theorem RB.ints {H:Type} {enc:TypeId×Value→H} {P:Program} {w:World} {t e:TypeId} {K:IntKind} {v:Value} (h:RB enc P w t [v]) (ht:P.underlying t=some (.slice e)) (he:P.underlying e=some (.int K)) (hc:P.cellsOf e=1):
  ∃xs,Rd w K v xs∧Wf K xs∧xs.length*P.bytesOf e≤reachBytes:=by
 obtain⟨o,len,cap,rfl,hr,_,_,hel⟩:=h.slice ht;have key:∀i,i<len→∃x:Int,(Lit.int K x).wf=true∧∃b off,o=some ⟨b,off,none⟩∧w.cell? ⟨b,off+i,none⟩=some (.int K x):=fun i hi=>by
  obtain⟨a,cs,rfl,h1,h2⟩:=hel i hi;rw[hc,Nat.mul_one]at h1;obtain⟨b,off,ha,hl,hcc⟩:=oZ h1 (by omega)
  match cs,hl with
  |[u],_=>
   obtain⟨x,rfl,hx⟩:=h2.int he;obtain⟨b',off',spot⟩:=a;have hcell:=hcc 0 _ rfl;unfold Addr.add at ha;split at ha
   ·simp at ha;obtain⟨rfl,rfl,rfl⟩:=ha
    subst_vars
    exact⟨x,hx,_,_,rfl,by simpa using hcell⟩
   ·simp at ha;obtain⟨rfl,rfl⟩:=ha;cases spot with
    |none=>exact⟨x,hx,_,_,rfl,by simpa using hcell⟩
    |some s=>
     exfalso;obtain⟨a0,cs0,e0,h10,h20⟩:=hel 0 (by omega);simp at e0;subst e0;rw[hc,Nat.mul_one]at h10;obtain⟨_,_,ha0,_⟩:=oZ h10 (by omega);simp[Addr.add]at ha0
 obtain⟨f,hf⟩:=Deep.choose_lt (α:=Int) key;refine⟨(List.range len).map f,?_,fun x hx=>?_,by simpa using hr⟩
 ·refine⟨o,cap,by simp,fun j hj=>?_⟩;have hj':j<len:=by simpa using hj
  obtain⟨_,b,off,ho,hcell⟩:=hf j hj';refine⟨b,off,ho,?_⟩;rw[hcell,dK _ _ hj];simp
 ·obtain⟨i,hi,rfl⟩:=List.mem_map.1 hx;exact(hf i (List.mem_range.1 hi)).1
theorem vB {H:Type} {P:Program} {ts:List TypeId} {ds:List (DataW H)} {j:Nat} {t:TypeId} {d:DataW H} (h1:ts[j]?=some t) (h2:ds[j]?=some d):∀n∈d.weights P t,n∈DataW.weightsEach P ts ds:=
 DataW.weights_mem_each h1 h2
theorem RB.field {H:Type} {enc:TypeId×Value→H} {P:Program} {w:World} {t:TypeId} {cs:List Value} {fs:Array Field} (h:RB enc P w t cs) (ht:P.underlying t=some (.struct fs)):
  cs.length=P.cellsOf t∧∀(i:Nat) (f:Field),fs[i]?=some f→RB enc P w f.type ((cs.drop f.offset).take (P.cellsOf f.type)):=by
 obtain⟨fuel,d,pl,h,hw⟩:=h;obtain⟨xs,n,rfl,hx,hl,hxl,hf⟩:=DataW.trod_struct ht h;refine⟨hl,fun i f hi=>?_⟩;have hk:=hf i f hi;have hil:i<xs.length:=by rw[hxl];exact(Array.getElem?_eq_some_iff.1 hi).1
 rw[List.getElem?_eq_getElem hil]at hk;refine⟨n,xs[i].1,xs[i].2,hk,fun n hn=>hw n ?_⟩;simp only[Prod.mk.injEq]at hx;rw[hx.1];simp only[DataW.weights,ht];refine vB (j:=i) (t:=f.type) (d:=xs[i].1) ?_ ?_ n hn
 ·rw[List.getElem?_map];simp[hi]
 ·simp[List.getElem?_eq_getElem hil]
theorem RB.rows {H:Type} {enc:TypeId×Value→H} {P:Program} {w:World} {t e:TypeId} {v:Value} (h:RB enc P w t [v]) (ht:P.underlying t=some (.slice e)) (hc:0<P.cellsOf e):
  ∃o len cap,v=.slice o len cap∧len*P.bytesOf e≤reachBytes∧∀i,i<len→∃b off cs,o=some ⟨b,off,none⟩∧cs.length=P.cellsOf e∧RB enc P w e cs∧∀j v,cs[j]?=some v→w.cell? ⟨b,off+i*P.cellsOf e+j,none⟩=some v:=by
 obtain⟨o,len,cap,rfl,hr,_,_,hel⟩:=h.slice ht;refine⟨o,len,cap,rfl,hr,fun i hi=>?_⟩;obtain⟨a,cs,rfl,h1,h2⟩:=hel i hi;obtain⟨a0,cs0,e0,h10,h20⟩:=hel 0 (by omega);simp at e0;subst e0;rw[Nat.zero_mul]at h10;obtain⟨b,off,ha,_⟩:=oZ h10 hc;have ha':a=⟨b,off,none⟩:=by simpa [Addr.add]using ha
 subst ha';rw[Addr.add_lit]at h1;obtain⟨b',off',ha,hl,hcc⟩:=oZ h1 hc;simp at ha;obtain⟨rfl,rfl⟩:=ha;exact⟨b,off,cs,rfl,hl,h2,hcc⟩
end Go.Proofs.YtjhkdocidcfpdaaGreatDoor
