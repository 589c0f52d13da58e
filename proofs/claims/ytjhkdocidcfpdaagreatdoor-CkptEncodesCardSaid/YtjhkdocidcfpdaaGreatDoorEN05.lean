/- A part of the proof. -/
import Derived.Test.YtjhkdocidcfpdaaGreatDoorEN02
set_option linter.unusedVariables false
set_option linter.unusedSimpArgs false
set_option maxRecDepth 100000
set_option maxHeartbeats 16000000
open List renaming set_cons_zero → Zg, length_append → Zl
namespace Go.Proofs.YtjhkdocidcfpdaaGreatDoor
open Go.RowKit Go.Shelf Go
theorem oG {w wr w1:World} {B:Nat} {e:TypeId} {v:Value} {n:Nat} {xs:List Value} {o:Obj} (hB:Below B w wr) (hb:B<=w.heap.size) (h:wr.ownsRow B e 1 v n xs) (hg:(wr.alloc o).grownBy w1 v.ownBlock):Below B w w1:=
 (hB.alloc (Nat.le_trans hb hB.size) o).grown hg (by have:=hB.size;simp;omega) fun k hk=>(h.lt k hk).1
theorem BA:(Tryz.prog.info? 5).map (fun i=>(i.zero,i.size,i.bytes))=some (some (.int .u8 0),1,1):=by kernel_rfl
theorem t7:(Tryz.prog.info? 2).map (fun i=>(i.zero,i.size,i.bytes))=some (some (.int .i64 0),1,8):=by kernel_rfl
theorem nH:(Tryz.prog.info? 3).map (fun i=>(i.zero,i.size,i.bytes))=some (some (.int .i64 0),1,8):=by kernel_rfl
theorem copyBytes_any (v:Value) (xs:List Int) (w:World) (hr:Rd w .u8 v xs) (hl:xs.length*1<=140737488351232):
  Calls Tryz.prog 6 #[v] w fun e w'=>
   ∃v',e=.returned v'/\w'.ownsRow w.heap.size 5 1 v' xs.length (xs.map (.int .u8))/\Below w.heap.size w w':=by
 obtain⟨o,cap,rfl,hc⟩:=hr;obtain⟨i0,hi,E,F,G⟩:=info_parts BA;have H:=Za hc;clear hc;go_enter Tryz.func6,Tryz.ntmps6;go_wp2;go_loopw[3,4] (fun v i wr=>∃k:Nat,k<=xs.length/\i=.int .i64 k/\wr.ownsRow w.heap.size 5 1 v k ((xs.take k).map (.int .u8))/\Below w.heap.size w wr) (fun _ i _=>xs.length-(intOf i).toNat)
 case atStart=>exact⟨0,Ze _,rfl,World.ownsRow_nil _ _ _ _,Zc _ _⟩
 case round=>
  obtain⟨k,hk,rfl,B,hB⟩:=hrel;by_cases D:k<xs.length
  ·obtain⟨b,off,rfl,A⟩:=H.o k D;have hcell':=(hB.cell (p:=⟨b,off+k,none⟩) (aP A)).trans A;clear A;go_wp2_with(at_builtin;refine wpList_append_own _ rfl _ _ 23 rfl w.heap.size 5 i0 (.int .u8 0) 1 1 Tryz.underlying23 hi E F G rfl (by decide) _ _ _ rfl (B.alloc _) ⟨wr.heap.size,0,none⟩ 1 1 [.int .u8 (aF xs k)] rfl rfl (cell_one_new _ _ _) (by simp[Value.oneCell']) (by unfold maxLen;omega) (by omega) (by have:=hB.size;simp;omega) ?_;intro v' w1 hown' C _);go_roundw
   case rel=>exact⟨k+1,by omega,by go_num,by rw[fG xs k D,List.map_append];exact hown',oG hB (Zb _) B C⟩
   case measure=>simp[intOf];omega
  ·go_wp2;go_ret;obtain rfl:k=xs.length:=by omega
   rw[List.take_length]at B;exact⟨_,rfl,B,hB⟩
theorem QL (v:Value) (xs:List Int) (w:World) (hr:Rd w .i64 v xs) (hl:xs.length*8<=140737488351232):
  Calls Tryz.prog 151 #[v] w fun e w'=>
   ∃v',e=.returned v'/\w'.ownsRow w.heap.size 2 1 v' xs.length (xs.map (.int .i64))/\Below w.heap.size w w':=by
 obtain⟨o,cap,rfl,hc⟩:=hr;obtain⟨i0,hi,E,F,G⟩:=info_parts t7;have H:=Za hc;clear hc;go_enter Tryz.func151,Tryz.ntmps151;go_wp2;go_loopw[3,4] (fun v i wr=>∃k:Nat,k<=xs.length/\i=.int .i64 k/\wr.ownsRow w.heap.size 2 1 v k ((xs.take k).map (.int .i64))/\Below w.heap.size w wr) (fun _ i _=>xs.length-(intOf i).toNat)
 case atStart=>exact⟨0,Ze _,rfl,World.ownsRow_nil _ _ _ _,Zc _ _⟩
 case round=>
  obtain⟨k,hk,rfl,B,hB⟩:=hrel;by_cases D:k<xs.length
  ·obtain⟨b,off,rfl,A⟩:=H.o k D;have hcell':=(hB.cell (p:=⟨b,off+k,none⟩) (aP A)).trans A;clear A;go_wp2_with(at_builtin;refine wpList_append_own _ rfl _ _ 82 rfl w.heap.size 2 i0 (.int .i64 0) 1 8 Tryz.underlying82 hi E F G rfl (by decide) _ _ _ rfl (B.alloc _) ⟨wr.heap.size,0,none⟩ 1 1 [.int .i64 (aF xs k)] rfl rfl (cell_one_new _ _ _) (by simp[Value.oneCell']) (by unfold maxLen;omega) (by omega) (by have:=hB.size;simp;omega) ?_;intro v' w1 hown' C _);go_roundw
   case rel=>exact⟨k+1,by omega,by go_num,by rw[fG xs k D,List.map_append];exact hown',oG hB (Zb _) B C⟩
   case measure=>simp[intOf];omega
  ·go_wp2;go_ret;obtain rfl:k=xs.length:=by omega
   rw[List.take_length]at B;exact⟨_,rfl,B,hB⟩
theorem jH (v:Value) (xs:List Int) (w:World) (hr:Rd w .i64 v xs) (hl:xs.length*8<=140737488351232):
  Calls Tryz.prog 92 #[v] w fun e w'=>
   ∃v',e=.returned v'/\w'.ownsRow w.heap.size 3 1 v' xs.length (xs.map (.int .i64))/\Below w.heap.size w w':=by
 obtain⟨o,cap,rfl,hc⟩:=hr;obtain⟨i0,hi,E,F,G⟩:=info_parts nH;have H:=Za hc;clear hc;go_enter Tryz.func92,Tryz.ntmps92;go_wp2;go_loopw[3,4] (fun v i wr=>∃k:Nat,k<=xs.length/\i=.int .i64 k/\wr.ownsRow w.heap.size 3 1 v k ((xs.take k).map (.int .i64))/\Below w.heap.size w wr) (fun _ i _=>xs.length-(intOf i).toNat)
 case atStart=>exact⟨0,Ze _,rfl,World.ownsRow_nil _ _ _ _,Zc _ _⟩
 case round=>
  obtain⟨k,hk,rfl,B,hB⟩:=hrel;by_cases D:k<xs.length
  ·obtain⟨b,off,rfl,A⟩:=H.o k D;have hcell':=(hB.cell (p:=⟨b,off+k,none⟩) (aP A)).trans A;clear A;go_wp2_with(at_builtin;refine wpList_append_own _ rfl _ _ 30 rfl w.heap.size 3 i0 (.int .i64 0) 1 8 Tryz.underlying30 hi E F G rfl (by decide) _ _ _ rfl (B.alloc _) ⟨wr.heap.size,0,none⟩ 1 1 [.int .i64 (aF xs k)] rfl rfl (cell_one_new _ _ _) (by simp[Value.oneCell']) (by unfold maxLen;omega) (by omega) (by have:=hB.size;simp;omega) ?_;intro v' w1 hown' C _);go_roundw
   case rel=>exact⟨k+1,by omega,by go_num,by rw[fG xs k D,List.map_append];exact hown',oG hB (Zb _) B C⟩
   case measure=>simp[intOf];omega
  ·go_wp2;go_ret;obtain rfl:k=xs.length:=by omega
   rw[List.take_length]at B;exact⟨_,rfl,B,hB⟩
def oO:PanicEntry:={v:=.iface 125 (.agg #[]),recovered:=false}
def cT (w:World) (R:Nat) (rem:List Int):Prop:=∃o cap,aA w R 128 #[.slice o rem.length cap]/\rem.length<=cap/\Rd w .u8 (.slice o rem.length cap) rem/\(0<rem.length->∀a,o=some a->a.block<R)
abbrev bB (w w':World) (R:Nat):Prop:=w.grownBy w' (some R)
theorem EN {w:World} {a b:Addr} {u v:Value} (h:w.cell? b=some v) (A:a.block≠b.block\/a.off≠b.off) (hs:b.spot=none):(w.setCell a u).cell? b=some v:=by
 obtain⟨bb,bo,bs⟩:=b;simp at hs;subst hs;obtain⟨ab,ao,asp⟩:=a;unfold World.cell? World.setCell at*;simp only[Array.getElem?_modify]at*;by_cases e:ab=bb
 ·subst e;simp only[if_true]at*;cases hh:w.heap[ab]? with
  |none=>rw[hh]at h;simp at h
  |some o=>
   rw[hh]at h;cases o<;>simp_all
   split
   ·exact h
   ·rw[Array.getElem?_setIfInBounds,if_neg (by omega)];exact h
 ·rw[if_neg (fun h=>e h)];exact h
theorem Rd.setOther {w:World} {K:IntKind} {v:Value} {xs:List Int} {R n cap:Nat} {o:Option Addr} (h:Rd w K v xs) (c:w.cell? ⟨R,0,none⟩=some (.slice o n cap)) {u:Value}:Rd (w.setCell ⟨R,0,none⟩ u) K v xs:=by
 obtain⟨o',cap',rfl,hc⟩:=h;refine⟨o',cap',rfl,fun j hj=>?_⟩;obtain⟨b,off,rfl,A⟩:=hc j hj;refine⟨b,off,rfl,EN A ?_ rfl⟩;by_cases e:R=b
 ·right;subst e;intro e2;simp at e2;rw[<-e2,c]at A;simp at A
 ·exact .inl e
theorem Rd.take {w:World} {K:IntKind} {o:Option Addr} {n cap:Nat} {xs:List Int} (h:Rd w K (.slice o n cap) xs) (k:Nat) (hk:k<=xs.length) {c:Nat}:Rd w K (.slice o k c) (xs.take k):=by
 have hl:(xs.take k).length=k:=by rw[List.length_take];omega
 refine⟨o,c,by rw[hl],fun j hj=>?_⟩;rw[hl]at hj;obtain⟨b,off,ho,hc⟩:=h.cell j (by omega);refine⟨b,off,ho,?_⟩;rw[hc,dO _ _ (by omega:j<xs.length),dO _ _ (by omega:j<(xs.take k).length),List.getElem_take]
theorem Rd.drop {w:World} {K:IntKind} {o:Option Addr} {n cap:Nat} {xs:List Int} (h:Rd w K (.slice o n cap) xs) (k:Nat) (hk:k<=xs.length) {c:Nat}:Rd w K (.slice (o.map (·.add k)) (xs.length-k) c) (xs.drop k):=by refine⟨o.map (·.add k),c,by rw[List.length_drop],fun j hj=>?_⟩;rw[List.length_drop]at hj;obtain⟨b,off,ho,hc⟩:=h.cell (k+j) (by omega);refine⟨b,off+k,by rw[ho];simp[Addr.add_lit],?_⟩;rw[Nat.add_assoc,hc,dO _ _ (by omega:k+j<xs.length),dO _ _ (by rw[List.length_drop];omega),List.getElem_drop]
theorem uT (w:World) (R:Nat) (v:Value):bB w (w.setCell ⟨R,0,none⟩ v) R:=
 ⟨rfl,rfl,rfl,by simp[World.setCell],fun k _ hk=>Below.heap_setCell _ _ _ _ (fun e=>hk (by simp at e;rw[e]))⟩
theorem bB.trans {a b c:World} {R:Nat} (h:bB a b R) (k:bB b c R):bB a c R:=
 ⟨k.os.trans h.os,k.tape.trans h.tape,k.output.trans h.output,Nat.le_trans h.size k.size,fun i hi A=>(k.block i (Nat.lt_of_lt_of_le hi h.size) A).trans (h.block i hi A)⟩
theorem bB.refl (w:World) (R:Nat):bB w w R:=⟨rfl,rfl,rfl,Zb _,fun _ _ _=>rfl⟩
theorem bB.below {w w':World} {R B:Nat} (h:bB w w' R) (hB:B<=R) (hs:B<=w.heap.size):Below B w w':=
 (Zc B w).grown h hs (fun k e=>by cases e;exact hB)
theorem gO {w w':World} {R:Nat} (h:Below w.heap.size w w'):bB w w' R:=⟨h.os,h.tape,h.output,h.size,fun k hk _=>h.block k hk⟩
theorem IT (p:Value) (w:World):Calls Tryz.prog 72 #[p] w fun e w'=>e=.panicked [oO]/\w=w':=by go_enter Tryz.func72,Tryz.ntmps72;go_wp2;exact⟨rfl,rfl,rfl⟩
theorem gG (p:Value) (w:World):Calls Tryz.prog 24 #[p,.bool true] w fun e w'=>e=.returned (.tuple #[])/\w=w':=by go_enter Tryz.func24,Tryz.ntmps24;go_wp2;go_end0;exact⟨rfl,rfl⟩
theorem rK (p:Value) (w:World):Calls Tryz.prog 24 #[p,.bool false] w fun e w'=>e=.panicked [oO]/\w=w':=by go_enter Tryz.func24,Tryz.ntmps24;go_wp2_with fail;refine(IT _ _).mono ?_;rintro e w' ⟨rfl,rfl⟩;go_wp2;exact⟨rfl,rfl,rfl⟩
theorem DZ (R n:Nat) (rem:List Int) (w:World) (h:cT w R rem) (hn:n<=rem.length) (hl:rem.length<=140737488351232):
  Calls Tryz.prog 73 #[.pointer (some ⟨R,0,none⟩),.int .i64 n] w fun e w'=>∃v,e=.returned v/\Rd w' .u8 v (rem.take n)/\cT w' R (rem.drop n)/\bB w w' R:=by
 obtain⟨o,cap,A,G,C,B⟩:=h;have c0:=A.cell 0 rfl;have f0:=A.free 0;have D:=Za A;have H:=Za C;have E:=Za B;clear A C B;go_enter Tryz.func73,Tryz.ntmps73;go_wp2_with(go_at_call 24;refine(gG _ _).mono ?_;rintro e w' ⟨rfl,rfl⟩)
 all_goals go_ret
 ·have hR:=H.o;have e:rem.length-n=0:=by omega
  have e2:rem.drop n=[]:=List.drop_eq_nil_of_le (by omega);exact⟨_,rfl,(hR.take n hn).setOther c0,⟨_,_,by rw[List.length_drop];exact D.o.set 0 _,by rw[List.length_drop];omega,by rw[e2];rw[e];exact Rd.nil _ _ _ _,by rw[e2];intro h;exact absurd h (Nat.lt_irrefl _)⟩,uT _ _ _⟩
 ·have hR:=H.o;exact⟨_,rfl,(hR.take n hn).setOther c0,⟨_,_,by rw[List.length_drop];exact D.o.set 0 _,by rw[List.length_drop];omega,by rw[List.length_drop];exact(hR.drop n hn).setOther c0,fun h0 a ha=>by
   have F:0<rem.length:=by rw[List.length_drop]at h0;omega
   cases o with
   |none=>simp at ha
   |some b=>simp at ha;subst ha;have:=E.o F b rfl;unfold Addr.add;split<;>exact this⟩,uT _ _ _⟩
theorem UZ (R n:Nat) (rem:List Int) (w:World) (h:cT w R rem) (hn:rem.length<n) (hl:n<=140737488351232):
  Calls Tryz.prog 73 #[.pointer (some ⟨R,0,none⟩),.int .i64 n] w fun e w'=>e=.panicked [oO]/\w=w':=by obtain⟨o,cap,A,D,C,B⟩:=h;have c0:=A.cell 0 rfl;have hd:decide (n<=rem.length)=false:=decide_eq_false (by omega);clear A C B;go_enter Tryz.func73,Tryz.ntmps73;go_wp2_with(go_at_call 24;refine(rK _ _).mono ?_;rintro e w' ⟨rfl,rfl⟩);exact⟨rfl,rfl,rfl⟩
def fU (l:List Int):Nat:=l.foldl (fun n x=>(n*256+x.toNat)%18446744073709551616) 0
theorem xQ (l:List Int):fU l<18446744073709551616:=by
 rcases List.eq_nil_or_concat l with rfl|⟨l',x,rfl⟩
 ·decide
 ·rw[fU,List.concat_eq_append,List.foldl_append];exact Nat.mod_lt _ (by omega)
theorem SV (S:Nat) (x:Int) (hx:0<=x/\x<256):bits BinOp.or IntKind.u64 (IntKind.u64.wrap ((S:Int)*256)) x=(((S*256+x.toNat)%18446744073709551616:Nat):Int):=by
 have e:IntKind.u64.wrap ((S:Int)*256)=((S*256%18446744073709551616:Nat):Int):=by rw[IntKind.wrap_u64];omega
 rw[e,u64_or _ _ (by omega) (by omega) hx.1 (by omega),Int.toNat_natCast,nat_join 8 _ _ (by omega) (by omega)]
 congr 1
 omega
theorem R0 (l:List Int) (x:Int):fU (l++[x])=(fU l*256+x.toNat)%18446744073709551616:=by simp[fU]
theorem US (R n:Nat) (rem:List Int) (w:World) (h:cT w R rem) (hw:Wf .u8 rem) (hn:n<=rem.length) (J:n<=8) (hl:rem.length<=140737488351232):
  Calls Tryz.prog 25 #[.pointer (some ⟨R,0,none⟩),.int .i64 n] w fun e w'=>e=.returned (.int .u64 (fU (rem.take n):Nat))/\cT w' R (rem.drop n)/\bB w w' R:=by
 have L:=Za h;have M:=Za (Wf.take hw n);have D:(rem.take n).length=n:=by rw[List.length_take];omega
 have A:=Za D;clear h hw D;go_enter Tryz.func25,Tryz.ntmps25;go_wp2_with fail;refine(DZ R n rem _ L.o hn hl).mono ?_;rintro e w1 ⟨v,rfl,F,E,hm⟩;obtain⟨o,cap,rfl,hc⟩:=F;have I:=Za hc;have G:=Za E;have N:=Za hm;clear hc E hm;rw[A.o]at I ⊢;go_wp2;go_loop[4,11] (fun p i=>∃k:Nat,k<=n/\i=.int .i64 k/\p=.int .u64 (fU ((rem.take n).take k):Nat)) (fun _ i=>n-(intOf i).toNat)
 case atStart=>exact⟨0,Ze _,rfl,rfl⟩
 case round=>
  obtain⟨k,hk,rfl,rfl⟩:=hrel;by_cases B:k<n
  ·obtain⟨b,off,rfl,h1⟩:=I.o k B;have hx:=kQ (M.o.nth k (by rw[A.o];exact B));have hS:=xQ ((rem.take n).take k);obtain⟨S,C⟩:=Zx (fU ((rem.take n).take k));rw[<-C]at hS ⊢;have O:=Za C;have P:=Za hS;clear C hS;have ho:=SV S (aF (rem.take n) k) hx;have H:=Za ho;clear ho;go_wp2;go_round
   case rel=>exact⟨k+1,by omega,by go_num,by rw[H.o,fG _ k (by rw[A.o];exact B),R0,<-O.o]⟩
   case measure=>simp[intOf];omega
  ·obtain rfl:k=n:=by omega
   go_wp2;go_ret;exact⟨uV (by rw[List.take_of_length_le (Nat.le_of_eq A.o)]),G.o,N.o⟩
theorem MZ (R n:Nat) (rem:List Int) (w:World) (h:cT w R rem) (hn:rem.length<n) (A:n<=8):
  Calls Tryz.prog 25 #[.pointer (some ⟨R,0,none⟩),.int .i64 n] w fun e w'=>e=.panicked [oO]/\w=w':=by have B:=Za h;clear h;go_enter Tryz.func25,Tryz.ntmps25;go_wp2_with fail;refine(UZ R n rem _ B.o hn (by omega)).mono ?_;rintro e w1 ⟨rfl,rfl⟩;go_wp2;exact⟨rfl,rfl,rfl⟩
def Out {α:Type} (w:World) (R:Nat) (res:Option (α×List Int)) (val:α->World->Value->Prop) (e:Ending) (w':World):Prop:=
 bB w w' R/\match res with
 |some (x,rest)=>(∃v,e=.returned v/\val x w' v)/\cT w' R rest
 |none=>e=.panicked [oO]
def bL (k:Nat) (rem:List Int):Option (Nat×List Int):=if k<=rem.length then some (fU (rem.take k),rem.drop k) else none
theorem xZ (R n:Nat) (rem:List Int) (w:World) (h:cT w R rem) (hw:Wf .u8 rem) (A:n<=8) (hl:rem.length<=140737488351232):
  Calls Tryz.prog 25 #[.pointer (some ⟨R,0,none⟩),.int .i64 n] w (Out w R (bL n rem) fun x _ v=>v=.int .u64 (x:Nat)):=by
 unfold bL;split
 ·rename_i hn;exact(US R n rem w h hw hn A hl).mono fun e w' ⟨he,hr,hm⟩=>⟨hm,⟨_,he,rfl⟩,hr⟩
 ·rename_i hn;exact(MZ R n rem w h (by omega) A).mono fun e w' ⟨he,hm⟩=>⟨by rw[<-hm];exact bB.refl _ _,he⟩
def cH (most:Nat) (rem:List Int):Option (Nat×List Int):=(bL 4 rem).bind fun p=>if p.1<=most then some p else none
theorem KZ {k:Nat} {rem:List Int} {p:Nat×List Int} (h:bL k rem=some p):p.1<18446744073709551616:=by
 unfold bL at h;split at h
 ·cases h;exact xQ _
 ·cases h
theorem P9 (R most:Nat) (rem:List Int) (w:World) (h:cT w R rem) (hw:Wf .u8 rem) (hm:most<=4294967296) (hl:rem.length<=140737488351232):
  Calls Tryz.prog 76 #[.pointer (some ⟨R,0,none⟩),.int .i64 most] w (Out w R (cH most rem) fun x _ v=>v=.int .i64 (x:Nat)):=by
 have I:=Za h;have J:=Za hw;clear h hw;go_enter Tryz.func76,Tryz.ntmps76;go_wp2_with fail;refine(xZ R 4 rem _ I.o J.o (by omega) hl).mono ?_;rintro e w1 ⟨A,ho⟩;cases B:bL 4 rem with
 |none=>
  rw[B]at ho;have E:cH most rem=none:=by unfold cH;rw[B];rfl
  dsimp only at ho;subst ho;have G:=Za A;have L:=Za E;clear A B E;go_wp2;refine⟨rfl,?_⟩;rw[L.o];exact⟨G.o,rfl⟩
 |some p=>
  obtain⟨n,rest⟩:=p;have C:=KZ B;dsimp only at C;rw[B]at ho;obtain⟨⟨v,rfl,rfl⟩,D⟩:=ho;have G:=Za A;have H:=Za D;have M:=Za C;by_cases F:n<=most
  ·have E:Hid (cH most rem=some (n,rest)):=Za (by unfold cH;rw[B];simp[F]);clear A B D C;go_wp2_with(go_at_call 24;refine(gG _ _).mono ?_;rintro e w' ⟨rfl,rfl⟩);go_ret;rw[E.o];exact⟨G.o,⟨_,rfl,rfl⟩,H.o⟩
  ·have E:Hid (cH most rem=none):=Za (by unfold cH;rw[B];simp[F]);clear A B D C;go_wp2_with fail;refine(rK _ _).mono ?_;rintro e w' ⟨rfl,rfl⟩;go_wp2;refine⟨rfl,?_⟩;rw[E.o];exact⟨G.o,rfl⟩
def l9 (n:Nat):Int:=wrap64 (n:Int)
def lJ (n:Nat):Option Int:=bif bU (l9 n) then some (l9 n) else none
theorem ND {n:Nat} {u:Int} (hu:u=l9 n) (h:bU u=true):lJ n=some u:=by subst hu;rw[lJ,h,cond_true]
theorem M7 {n:Nat} {u:Int} (hu:u=l9 n) (h:bU u=false):lJ n=none:=by subst hu;rw[lJ,h,cond_false]
def bT:Nat->List Int->Option (List Int×List Int)
 |0,rem=>some ([],rem)
 |n+1,rem=>(bL 8 rem).bind fun p=>(lJ p.1).bind fun u=>(bT n p.2).map fun q=>(u::q.1,q.2)
theorem qW (rem:List Int):bT 0 rem=some ([],rem):=by rw[bT]
theorem nC (n:Nat) (rem:List Int):bT (n+1) rem=(bL 8 rem).bind fun p=>(lJ p.1).bind fun u=>(bT n p.2).map fun q=>(u::q.1,q.2):=by rw[bT]
theorem JJ {k:Nat} {rem:List Int} (h:rem.length<k):bL k rem=none:=by unfold bL;rw[if_neg (by omega)]
theorem wZ {k:Nat} {rem:List Int} (h:k<=rem.length):bL k rem=some (fU (rem.take k),rem.drop k):=by unfold bL;rw[if_pos h]
theorem SQ (n:Nat):∀rem:List Int,rem.length<8*n->bT n rem=none:=by
 induction n with
 |zero=>intro rem h;omega
 |succ n ih=>
  intro rem h;rw[nC];by_cases h8:8<=rem.length
  ·rw[wZ h8,Option.bind_some];dsimp only;rw[ih _ (by rw[List.length_drop];omega)];cases lJ (fU (List.take 8 rem))with
   |none=>rw[Option.bind_none]
   |some u=>rw[Option.bind_some,Option.map_none]
  ·rw[JJ (by omega),Option.bind_none]
theorem Rd.setOwn {w:World} {v:Value} {xs ys:List Int} {B g n cap:Nat} {e:TypeId} (h:Rd w .u8 v xs) (ho:aH w B e .i64 (.slice (some ⟨g,0,none⟩) n cap) ys) {k:Nat} (hk:k<ys.length) (u:Value):Rd (w.setCell ⟨g,k,none⟩ u) .u8 v xs:=by
 obtain⟨o',cap',rfl,hc⟩:=h;refine⟨o',cap',rfl,fun j hj=>?_⟩;obtain⟨b,off,rfl,A⟩:=hc j hj;refine⟨b,off,rfl,EN A ?_ rfl⟩;by_cases e:g=b
 ·right;subst e;intro e2;have:=(ho.cell k hk).1;simp at e2;rw[<-e2,this]at A;simp at A
 ·exact .inl e
theorem cT.setOwn {w:World} {R:Nat} {xs ys:List Int} {B g n cap:Nat} {e:TypeId} (h:cT w R xs) (hR:R≠g) (ho:aH w B e .i64 (.slice (some ⟨g,0,none⟩) n cap) ys) {k:Nat} (hk:k<ys.length) (u:Value):cT (w.setCell ⟨g,k,none⟩ u) R xs:=by obtain⟨o,cap,hb,hc,hr,A⟩:=h;exact⟨o,cap,hb.other (fun e=>hR e.symm) _,hc,hr.setOwn ho hk u,A⟩
theorem UJ {w w':World} {R g:Nat} (h:bB w w' R) (hg:w.heap.size<=g) (k:Nat) (u:Value):bB w (w'.setCell ⟨g,k,none⟩ u) R:=
 ⟨h.os,h.tape,h.output,by simpa [World.setCell]using h.size,fun i hi A=>by rw[Below.heap_setCell _ _ _ _ (by simp;omega)];exact h.block i hi A⟩
theorem nM {w w':World} {B:Nat} {e:TypeId} {s:Nat} {v:Value} {n R:Nat} {xs:List Value} (h:w.ownsRow B e s v n xs) (hm:bB w w' R) (hR:R<B):w'.ownsRow B e s v n xs:=by
 refine⟨h.1,?_⟩;rcases h.2 with hn|⟨g,cap,cur,rfl,hb,A,rest⟩
 ·exact .inl hn
 ·exact .inr ⟨g,cap,cur,rfl,hb,by rw[hm.block g (Array.getElem?_eq_some_iff.1 A).1 (by intro e;cases e;omega)];exact A,rest⟩
theorem cT.below {w w':World} {R:Nat} {xs:List Int} (h:cT w R xs) (hB:Below w.heap.size w w') (hR:R<w.heap.size):cT w' R xs:=by obtain⟨o,cap,hb,hc,hr,A⟩:=h;exact⟨o,cap,hb.below hB hR,hc,hr.below hB (Zb _),A⟩
theorem sM {K:IntKind} {xs:List Int} (h:Wf K xs) (k:Nat):Wf K (xs.drop k):=fun x hx=>h x (List.mem_of_mem_drop hx)
theorem uB {k:Nat} {rem:List Int} {p:Nat×List Int} (h:bL k rem=some p) (hw:Wf .u8 rem):Wf .u8 p.2/\p.2.length+k=rem.length:=by
 unfold bL at h;split at h
 ·cases h;exact⟨sM hw k,by simp;omega⟩
 ·cases h
theorem N5 (R n:Nat) (rem:List Int) (w:World) (h:cT w R rem) (hw:Wf .u8 rem) (hn:n<=9000000000000000000) (hl:rem.length<=140737488351232):
  Calls Tryz.prog 78 #[.pointer (some ⟨R,0,none⟩),.int .i64 n] w (Out w R (bT n rem) fun xs w' v=>aH w' w.heap.size 2 .i64 v xs):=by
 obtain⟨i0,hi,T,U,V⟩:=info_parts t7;obtain⟨o,cap,C,I,X,J⟩:=h;have c0:=C.q 0 rfl;have HR:=Za (show cT w R rem from⟨o,cap,C,I,X,J⟩);have E:=Za C.lt;have HW:=Za hw;clear C X hw J;by_cases D:n<=rem.length / 8
 ·have hd:=Za (show decide ((n:Int)<=(rem.length:Int) / 8)=true from decide_eq_true (by omega));have ay:=Za D;clear D;go_enter Tryz.func78,Tryz.ntmps78;go_wp2_with fail;rw[hd.o];refine(gG _ _).mono ?_;rintro e w' ⟨rfl,rfl⟩;have D:=ay.o;go_wp2_with(at_make;refine wpList_make_full _ rfl _ _ 82 rfl w.heap.size 2 i0 (.int .i64 0) 1 Tryz.underlying82 hi T U .i64 .i64 _ _ n rfl rfl rfl rfl (by rw[V];omega) (by unfold maxLen;omega) (Zb _) ?_;intro w1 hm hg;refine aD ?_);have Y:bB w w1 R:=gO (lM hg);have Z:aH w1 w.heap.size 2 .i64 (.slice (some ⟨w.heap.size,0,none⟩) n n) ([]++List.replicate (n-0) 0):=aH.made hm;have aa:cT w1 R rem:=HR.o.below (lM hg) E.o;have hN:n<=100000000000000:=by omega
  clear hi T U V hm hg D c0 I;have az:=Za Z;have ba:=Za Y;have bb:=Za aa;clear Z Y aa;refine aC ?_;go_wp2;go_loopw[25] (fun i wr=>∃(k:Nat) (done rest:List Int),k<=n/\i=.int .i64 k/\done.length=k/\aH wr w.heap.size 2 .i64 (.slice (some ⟨w.heap.size,0,none⟩) n n) (done++List.replicate (n-k) 0)/\cT wr R rest/\bB w wr R/\Wf .u8 rest/\rest.length<=rem.length/\bT n rem=(bT (n-k) rest).map (fun q=>(done++q.1,q.2))) (fun i _=>n-(intOf i).toNat)
  case atStart=>exact⟨0,[],rem,Ze _,rfl,rfl,az.o,bb.o,ba.o,HW.o,Zb _,by simp⟩
  case round=>
   obtain⟨k,done,rest,hk,rfl,ab,L,ac,ad,ae,af,ag⟩:=hrel;obtain⟨w3,rfl⟩:=Zx wr;have ah:=Za L;have ai:=Za ac;have N:=Za ad;have aj:=Za ae;have F:=Za ag;have G:=Za ab;have hrl':rest.length<=140737488351232:=by omega
   have bc:=Za af;clear L ac ad ae ag ab af;by_cases bh:k<n
   ·have ak:k<(done++List.replicate (n-k) (0:Int)).length:=by rw[Zl,G.o,List.length_replicate];omega
    have al:=Za ak;clear ak;go_wp2_with fail;refine(xZ R 8 rest _ ai.o aj.o (by omega) hrl').mono ?_;rintro e w4 ⟨A,ho⟩;cases O:bL 8 rest with
    |none=>
     rw[O]at ho;have hs:bT n rem=none:=by rw[F.o,show n-k=(n-k-1)+1 by omega,nC,O,Option.bind_none,Option.map_none]
     dsimp only at ho;subst ho;have HM:=Za (N.o.trans A);have HS:=Za hs;clear A O hs;go_wp2;refine⟨rfl,?_⟩;rw[HS.o];exact⟨HM.o,rfl⟩
    |some p=>
     obtain⟨x,rest2⟩:=p;have ao:=uB O aj.o;rw[O]at ho;obtain⟨⟨v,rfl,rfl⟩,M⟩:=ho;have ap:=Za (N.o.trans A);have B:=nM ah.o A E.o;have P:=aH.cell B k al.o;have c4:=P.1;have f4:=P.2;have aq:=Za B;have bd:=Za M;have ar:=Za ao;have HP:=Za O;clear A ao O M B P;go_wp2_with fail;obtain⟨u,hu⟩:=Zx (l9 x);rw[show wrap64 (x:Int)=u from hu.symm];have HU:=Za hu;clear hu;refine(pV _ _).mono ?_;rintro e w5 ⟨rfl,H⟩;have au:aH w5 w.heap.size 2 .i64 (.slice (some ⟨w.heap.size,0,none⟩) n n) ((done++[u])++List.replicate (n-(k+1)) 0):=by
      have:=mA (aH.set aq.o k u) H;have e:(done++List.replicate (n-k) (0:Int)).set k u=(done++[u])++List.replicate (n-(k+1)) 0:=by rw[show n-k=(n-(k+1))+1 by omega,List.replicate_succ,List.set_append_right _ _ (by rw[G.o];exact Zb _),G.o,Nat.sub_self,Zg,List.append_assoc];rfl
      rw[e]at this;have e2:(done++List.replicate (n-k) (0:Int)).length=((done++[u])++List.replicate (n-(k+1)) 0).length:=by rw[<-e,List.length_set]
      simpa only[aH,e2]using this
     have av:cT w5 R rest2:=(bd.o.setOwn (Nat.ne_of_lt E.o) aq.o al.o (.int .i64 u)).below (H.below _) (by simp[World.setCell];have:=ap.o.size;have:=E.o;omega);have aw:bB w w5 R:=(UJ ap.o (Zb _) k (.int .i64 u)).trans (gO (H.below _));have be:=Za au;have bf:=Za av;have ax:=Za aw;clear au av aw H c4 f4;cases hb:bU u with
     |true=>
      have bg:=Za hb;clear hb;go_wp2_with(go_at_call 24;refine(gG _ _).mono ?_;rintro e w' ⟨rfl,rfl⟩);go_roundw
      case rel=>exact⟨k+1,done++[u],rest2,by omega,by go_num,by rw[Zl,G.o];rfl,be.o,bf.o,ax.o,ar.o.1,by have:=ar.o.2;have:=bc.o;omega,by
       rw[F.o,show n-k=(n-(k+1))+1 by omega,nC,HP.o,Option.bind_some,ND HU.o bg.o,Option.bind_some,Option.map_map]
       congr 1
       funext q
       simp⟩
      case measure=>simp[intOf];omega
     |false=>
      have hs:bT n rem=none:=by rw[F.o,show n-k=(n-k-1)+1 by omega,nC,HP.o,Option.bind_some,M7 HU.o hb,Option.bind_none,Option.map_none]
      have HS:=Za hs;clear hs hb;go_wp2_with fail;refine(rK _ _).mono ?_;rintro e w' ⟨rfl,rfl⟩;go_wp2;refine⟨rfl,?_⟩;rw[HS.o];exact⟨ax.o,rfl⟩
   ·obtain rfl:k=n:=by omega
    go_wp2;go_ret;have e:bT k rem=some (done,rest):=by rw[F.o,Nat.sub_self,qW,Option.map_some,List.append_nil]
    refine⟨N.o,?_⟩;rw[e];exact⟨⟨_,rfl,by have:=ah.o;rw[Nat.sub_self,List.replicate_zero,List.append_nil]at this;exact this⟩,ai.o⟩
 ·have hd:=Za (show decide ((n:Int)<=(rem.length:Int) / 8)=false from decide_eq_false (by omega));have HS:=Za (SQ n rem (by omega));clear D;go_enter Tryz.func78,Tryz.ntmps78;go_wp2_with fail;rw[hd.o];refine(rK _ _).mono ?_;rintro e w' ⟨rfl,rfl⟩;go_wp2;refine⟨rfl,?_⟩;rw[HS.o];exact⟨bB.refl _ _,rfl⟩
theorem cT.low {w w':World} {R:Nat} {xs:List Int} (h:cT w R xs) (hB:Below (R+1) w w'):cT w' R xs:=by obtain⟨o,cap,hb,hc,hr,A⟩:=h;refine⟨o,cap,hb.below hB (Nat.lt_succ_self R),hc,?_,A⟩;obtain⟨o',cap',he,B⟩:=hr;refine⟨o',cap',he,fun j hj=>?_⟩;obtain⟨b,off,ho,h1⟩:=B j hj;refine⟨b,off,ho,?_⟩;simp only[Value.slice.injEq]at he;have C:=A (by omega) ⟨b,off,none⟩ (by rw[he.1,ho]);exact(hB.cell (p:=⟨b,off+j,none⟩) (Nat.lt_succ_of_lt C)).trans h1
structure cV (w0 w:World) (R:Nat) (rem:List Int):Prop where
 at_:cT w R rem
 wf:Wf .u8 rem
 len:rem.length<=100000
 moved:bB w0 w R
 lt:R<w0.heap.size
theorem OP {w0 w w':World} {R B:Nat} (h:bB w0 w R) (hB:Below B w w') (hb:w0.heap.size<=B):bB w0 w' R:=
 ⟨hB.os.trans h.os,hB.tape.trans h.tape,hB.output.trans h.output,Nat.le_trans h.size hB.size,fun k hk A=>(hB.block k (by omega)).trans (h.block k hk A)⟩
theorem cV.low {w0 w w':World} {R B:Nat} {xs:List Int} (h:cV w0 w R xs) (hB:Below B w w') (hb:w0.heap.size<=B):cV w0 w' R xs:=
 ⟨h.at_.low (hB.mono (by have:=h.lt;omega)),h.wf,h.len,OP h.moved hB hb,h.lt⟩
theorem cV.start {w:World} {R:Nat} {xs:List Int} (h:cT w R xs) (hw:Wf .u8 xs) (hl:xs.length<=100000):cV w w R xs:=
 ⟨h,hw,hl,bB.refl _ _,by obtain⟨o,cap,hb,_⟩:=h;exact hb.lt⟩
theorem vF {w0 w:World} {R n:Nat} {rem rest:List Int} {x:Nat} (h:cV w0 w R rem) (A:n<=8) (hp:bL n rem=some (x,rest)):
  Calls Tryz.prog 25 #[.pointer (some ⟨R,0,none⟩),.int .i64 n] w fun e w'=>e=.returned (.int .u64 (x:Nat))/\cV w0 w' R rest/\bB w w' R:=
 (xZ R n rem w h.at_ h.wf A (by have:=h.len;omega)).mono fun e w' ho=>by
  have hr:=uB hp h.wf;rw[hp]at ho;obtain⟨hm,⟨v,rfl,rfl⟩,B⟩:=ho;exact⟨rfl,⟨B,hr.1,by have:=h.len;have:=hr.2;dsimp only at this ⊢;omega,h.moved.trans hm,h.lt⟩,hm⟩
theorem m9 {most:Nat} {rem rest:List Int} {x:Nat} (hp:cH most rem=some (x,rest)):bL 4 rem=some (x,rest)/\x<=most:=by
 unfold cH at hp;rw[Option.bind_eq_some_iff]at hp;obtain⟨p,h1,h2⟩:=hp;split at h2
 ·cases h2;exact⟨h1,by assumption⟩
 ·cases h2
theorem VD {w0 w:World} {R most:Nat} {rem rest:List Int} {x:Nat} (h:cV w0 w R rem) (hm:most<=4294967296) (hp:cH most rem=some (x,rest)):
  Calls Tryz.prog 76 #[.pointer (some ⟨R,0,none⟩),.int .i64 most] w fun e w'=>e=.returned (.int .i64 (x:Nat))/\cV w0 w' R rest/\bB w w' R:=
 (P9 R most rem w h.at_ h.wf hm (by have:=h.len;omega)).mono fun e w' ho=>by
  have hr:=uB (m9 hp).1 h.wf;rw[hp]at ho;obtain⟨hm,⟨v,rfl,rfl⟩,A⟩:=ho;exact⟨rfl,⟨A,hr.1,by have:=h.len;have:=hr.2;dsimp only at this ⊢;omega,h.moved.trans hm,h.lt⟩,hm⟩
theorem QO {n:Nat} {u:Int} (h:lJ n=some u):u=l9 n/\bU u=true:=by
 unfold lJ at h;cases hb:bU (l9 n)with
 |true=>rw[hb,cond_true]at h;cases h;exact⟨rfl,hb⟩
 |false=>rw[hb,cond_false]at h;cases h
theorem vD (n:Nat):∀{rem rest xs:List Int},bT n rem=some (xs,rest)->Wf .u8 rem->Wf .u8 rest/\rest.length+8*n=rem.length/\xs.length=n/\iR xs=true:=by
 induction n with
 |zero=>intro rem rest xs h hw;rw[qW]at h;cases h;exact⟨hw,by omega,rfl,rfl⟩
 |succ n ih=>
  intro rem rest xs h hw;rw[nC,Option.bind_eq_some_iff]at h;obtain⟨p,h1,h2⟩:=h;rw[Option.bind_eq_some_iff]at h2;obtain⟨u,h3,h4⟩:=h2;rw[Option.map_eq_some_iff]at h4;obtain⟨q,h5,h6⟩:=h4;cases h6;have a:=uB h1 hw;obtain⟨b1,b2,b3,b4⟩:=ih h5 a.1;refine⟨b1,by omega,by simp[b3],?_⟩;rw[iR,List.all_cons,(QO h3).2,<-iR,b4];rfl
theorem S5 {w0 w:World} {R n:Nat} {rem rest xs:List Int} (h:cV w0 w R rem) (hn:n<=9000000000000000000) (hp:bT n rem=some (xs,rest)):
  Calls Tryz.prog 78 #[.pointer (some ⟨R,0,none⟩),.int .i64 n] w fun e w'=>(∃v,e=.returned v/\aH w' w.heap.size 2 .i64 v xs)/\cV w0 w' R rest/\bB w w' R:=
 (N5 R n rem w h.at_ h.wf hn (by have:=h.len;omega)).mono fun e w' ho=>by
  have hr:=vD n hp h.wf;rw[hp]at ho;obtain⟨hm,hv,A⟩:=ho;exact⟨hv,⟨A,hr.1,by have:=h.len;have:=hr.2.1;omega,h.moved.trans hm,h.lt⟩,hm⟩
theorem QH {p:Value} {w:World} {b:Bool} (hb:b=false):Calls Tryz.prog 24 #[p,.bool b] w fun e w'=>e=.panicked [oO]/\w=w':=by subst hb;exact rK p w
theorem AD {w0 w:World} {R n:Nat} {m:Int} {rem rest xs:List Int} (hm:m=n) (h:cV w0 w R rem) (hn:n<=9000000000000000000) (hp:bT n rem=some (xs,rest)):
  Calls Tryz.prog 78 #[.pointer (some ⟨R,0,none⟩),.int .i64 m] w fun e w'=>(∃v,e=.returned v/\aH w' w.heap.size 2 .i64 v xs)/\cV w0 w' R rest/\bB w w' R:=by subst hm;exact S5 h hn hp
def cK (t:aO):Bool:=bA t.sh&&(decide ((t.da.length:Int)=bG t.sh)&&iR t.da)
def aO.Lim (t:aO):Prop:=t.sh.length<=140737488351232/\t.da.length<=140737488351232
theorem IW (v:Int) (w:World):
  Calls Tryz.prog 160 #[.int .i64 v] w fun e w'=>e=.returned (.bool (!bU v))/\aN w w':=by go_enter Tryz.func160,Tryz.ntmps160;go_wp2_with fail;refine(pV v _).mono ?_;rintro e w' ⟨rfl,nq,rfl⟩;go_wp2;go_ret;exact⟨rfl,_,rfl⟩
theorem UE (vs vd:Value) (t:aO) (w:World) (hs:Rd w .i64 vs t.sh) (hd:Rd w .i64 vd t.da) (hl:t.Lim):
  Calls Tryz.prog 127 #[.agg #[vs,vd]] w fun e w'=>e=.returned (.bool (cK t))/\Below w.heap.size w w':=by
 obtain⟨o1,cap1,L⟩:=aU hs;obtain⟨o2,cap2,M⟩:=aU hd;subst L M;obtain⟨N,O⟩:=hl;obtain⟨W,B⟩:=Zx (w.alloc (.cells #[.slice o1 t.sh.length cap1,.slice o2 t.da.length cap2] 100));have D:aA W w.heap.size 100 #[.slice o1 t.sh.length cap1,.slice o2 t.da.length cap2]:=by rw[B];exact aA.new _ _ _
 have E:=Za (show Below w.heap.size w W by rw[B];exact(Zc _ _).alloc (Zb _) _);have hS:Rd W .i64 (.slice o1 t.sh.length cap1) t.sh:=hs.below E.o (Zb _);have hD:Rd W .i64 (.slice o2 t.da.length cap2) t.da:=hd.below E.o (Zb _);have c0:=D.cell 0 rfl;have c1:=D.cell 1 rfl;have J:=Za fun(r:Bool) (h:bA t.sh=r) (m:Nat)=>(show Calls Tryz.prog 159 #[.slice o1 t.sh.length cap1] (W.drewN m) fun e w'=>e=.returned (.bool r)/\∃k,w'=(W.drewN m).drewN k by
  rw[<-h];exact vH _ t.sh _ (hS.same ⟨_,rfl⟩) N)
 have H:=Za fun(r:Bool) (h:iR t.da=r) (m:Nat)=>(show Calls Tryz.prog 130 #[.slice o2 t.da.length cap2,.func (.func 160) #[] #[]] (W.drewN m) fun e w'=>e=.returned (.bool (!r))/\∃k,w'=(W.drewN m).drewN k by
  have:=zJ (.slice o2 t.da.length cap2) t.da 160 #[] (fun x=>!bU x) (W.drewN m) (hD.same ⟨_,rfl⟩) O (enters_of Tryz.func160 (by kernel_rfl) rfl) (fun k hk n=>IW _ _);rw[show(t.da.any fun x=>!bU x)=!r by rw[<-h,iR,List.not_all_eq_any_not]]at this;exact this)
 have C:=Za fun(h:bA t.sh=true) (m:Nat)=>(show Calls Tryz.prog 124 #[.slice o1 t.sh.length cap1] (W.drewN m) fun e w'=>e=.returned (.int .i64 (bG t.sh))/\∃k,w'=(W.drewN m).drewN k by
  have F:t.sh.length<=4/\t.sh.all cC=true:=by simp only[bA,Bool.and_eq_true,decide_eq_true_eq]at h;exact h.1
  exact qO _ t.sh _ (hS.same ⟨_,rfl⟩) F.2 F.1)
 clear hs hd hS hD D;cases hb:bA t.sh with
 |false=>
  have A:=Za hb;clear hb;go_enter Tryz.func127,Tryz.ntmps127;go_wp2_with fail;rw[<-B];clear B;go_quiet(first|(go_at_call 159;exact Calls.quiet_of (J.o _ A.o _)));go_wp2;go_ret;exact⟨aG (by rw[cK,A.o];rfl),below_drewN E.o _⟩
 |true=>
  have A:=Za hb;clear hb;obtain⟨p,F⟩:=Zx (bG t.sh);have T:=Za F;rw[<-F]at C;clear F;by_cases G:(t.da.length:Int)=p
  ·have P:((t.da.length:Int)==p)=true:=by simp[G]
   have R:=Za G;clear G;cases hw:iR t.da with
   |false=>
    have I:=Za hw;clear hw;go_enter Tryz.func127,Tryz.ntmps127;go_wp2_with fail;rw[<-B];clear B;go_quiet(first|(go_at_call 159;exact Calls.quiet_of (J.o _ A.o _))|(go_at_call 124;exact Calls.quiet_of (C.o A.o _))|(go_at_call 130;exact Calls.quiet_of (H.o _ I.o _)));go_wp2;go_ret;exact⟨aG (by rw[cK,A.o,I.o,Bool.and_false];rfl),below_drewN E.o _⟩
   |true=>
    have I:=Za hw;clear hw;go_enter Tryz.func127,Tryz.ntmps127;go_wp2_with fail;rw[<-B];clear B;go_quiet(first|(go_at_call 159;exact Calls.quiet_of (J.o _ A.o _))|(go_at_call 124;exact Calls.quiet_of (C.o A.o _))|(go_at_call 130;exact Calls.quiet_of (H.o _ I.o _)));go_wp2;go_ret;exact⟨aG (by rw[cK,A.o,I.o,decide_eq_true (R.o.trans T.o)];rfl),below_drewN E.o _⟩
  ·have P:((t.da.length:Int)==p)=false:=by simp[G]
   have R:=Za G;clear G;go_enter Tryz.func127,Tryz.ntmps127;go_wp2_with fail;rw[<-B];clear B;go_quiet(first|(go_at_call 159;exact Calls.quiet_of (J.o _ A.o _))|(go_at_call 124;exact Calls.quiet_of (C.o A.o _)));go_wp2;go_ret;exact⟨aG (by rw[cK,A.o,decide_eq_false (fun h=>R.o (h.trans T.o.symm))];rfl),below_drewN E.o _⟩
theorem BH (vs vd:Value) (t:aO) (w:World) (hs:Rd w .i64 vs t.sh) (hd:Rd w .i64 vd t.da) (hl:t.Lim):
  Calls Tryz.prog 112 #[.agg #[vs,vd]] w fun e w'=>e=.returned (.bool (cK t))/\Below w.heap.size w w':=by
 obtain⟨o1,cap1,H⟩:=aU hs;obtain⟨o2,cap2,I⟩:=aU hd;subst H I;obtain⟨J,L⟩:=hl;obtain⟨W,B⟩:=Zx (w.alloc (.cells #[.slice o1 t.sh.length cap1,.slice o2 t.da.length cap2] 100));have C:aA W w.heap.size 100 #[.slice o1 t.sh.length cap1,.slice o2 t.da.length cap2]:=by rw[B];exact aA.new _ _ _
 have G:=Za (show Below w.heap.size w W by rw[B];exact(Zc _ _).alloc (Zb _) _);have hS:Rd W .i64 (.slice o1 t.sh.length cap1) t.sh:=hs.below G.o (Zb _);have hD:Rd W .i64 (.slice o2 t.da.length cap2) t.da:=hd.below G.o (Zb _);have c0:=C.cell 0 rfl;have c1:=C.cell 1 rfl;have M:=Za fun(r:Bool) (h:bA t.sh=r) (m:Nat)=>(show Calls Tryz.prog 90 #[.slice o1 t.sh.length cap1] (W.drewN m) fun e w'=>e=.returned (.bool r)/\∃k,w'=(W.drewN m).drewN k by
  rw[<-h];exact zS _ t.sh _ (hS.same ⟨_,rfl⟩) J)
 have N:=Za fun(r:Bool) (h:iR t.da=r) (m:Nat)=>(show Calls Tryz.prog 148 #[.slice o2 t.da.length cap2] (W.drewN m) fun e w'=>e=.returned (.bool r)/\∃k,w'=(W.drewN m).drewN k by
  rw[<-h];exact RF _ t.da _ (hD.same ⟨_,rfl⟩) L)
 have D:=Za fun(h:bA t.sh=true) (m:Nat)=>(show Calls Tryz.prog 93 #[.slice o1 t.sh.length cap1] (W.drewN m) fun e w'=>e=.returned (.int .i64 (bG t.sh))/\∃k,w'=(W.drewN m).drewN k by
  have E:(t.sh.length<=4/\t.sh.all cC=true)/\bG t.sh<=65536:=by simp only[bA,Bool.and_eq_true,decide_eq_true_eq]at h;exact h
  have:=sN _ t.sh _ (hS.same ⟨m,rfl⟩) E.1.2 E.1.1;rw[lH,if_pos E.2]at this;exact this)
 clear hs hd hS hD C;cases hb:bA t.sh with
 |false=>
  have A:=Za hb;clear hb;go_enter Tryz.func112,Tryz.ntmps112;go_wp2_with fail;rw[<-B];clear B;go_quiet(first|(go_at_call 90;exact Calls.quiet_of (M.o _ A.o _)));go_wp2;go_ret;exact⟨aG (by rw[cK,A.o];rfl),below_drewN G.o _⟩
 |true=>
  have A:=Za hb;clear hb;obtain⟨p,E⟩:=Zx (bG t.sh);have R:=Za E;rw[<-E]at D;clear E;by_cases F:(t.da.length:Int)=p
  ·have O:((t.da.length:Int)==p)=true:=by simp[F]
   have P:=Za F;clear F;cases hw:iR t.da
   all_goals
    have T:=Za hw;clear hw;go_enter Tryz.func112,Tryz.ntmps112;go_wp2_with fail;rw[<-B];clear B;go_quiet(first|(go_at_call 90;exact Calls.quiet_of (M.o _ A.o _))|(go_at_call 93;exact Calls.quiet_of (D.o A.o _))|(go_at_call 148;exact Calls.quiet_of (N.o _ T.o _)));go_wp2;go_ret;exact⟨aG (by rw[cK,A.o,T.o,decide_eq_true (P.o.trans R.o)];rfl),below_drewN G.o _⟩
  ·have O:((t.da.length:Int)==p)=false:=by simp[F]
   have P:=Za F;clear F;go_enter Tryz.func112,Tryz.ntmps112;go_wp2_with fail;rw[<-B];clear B;go_quiet(first|(go_at_call 90;exact Calls.quiet_of (M.o _ A.o _))|(go_at_call 93;exact Calls.quiet_of (D.o A.o _)));go_wp2;go_ret;exact⟨aG (by rw[cK,A.o,decide_eq_false (fun h=>P.o (h.trans R.o.symm))];rfl),below_drewN G.o _⟩
theorem T0 (v u:Value) (xs ys:List Int) (w:World) (hr:Rd w .u8 v xs) (hs:Rd w .u8 u ys) (hl:xs.length<=140737488351232):
  Calls Tryz.prog 12 #[v,u] w fun e w'=>e=.returned (.bool (decide (xs=ys)))/\aN w w':=by
 obtain⟨o,cap,rfl,hc⟩:=hr;obtain⟨o2,cap2,rfl,D⟩:=hs;have J:=Za hc;have G:=Za D;clear hc D;by_cases A:xs.length=ys.length
 ·have H:=Za A;clear A;rw[<-H.o];go_enter Tryz.func12,Tryz.ntmps12;go_wp2;go_loopw[5] (fun i wr=>∃k:Nat,k<=xs.length/\i=.int .i64 k/\(∀j,j<k->aF xs j=aF ys j)/\aN w wr) (fun i _=>xs.length-(intOf i).toNat)
  case atStart=>exact⟨0,Ze _,rfl,fun _ h=>absurd h (Nat.not_lt_zero _),aN.refl _⟩
  case round=>
   obtain⟨k,hk,rfl,C,nq,rfl⟩:=hrel;have I:=Za C;clear C;by_cases E:k<xs.length
   ·obtain⟨b,off,rfl,h1⟩:=J.o k E;obtain⟨b2,off2,rfl,h2⟩:=G.o k (by rw[<-H.o];exact E);go_wp2;go_quiet(fail);go_wp2
    ·go_ret;rename_i B;exact⟨by rw[decide_eq_false];rfl;intro e;rw[e]at B;simp at B,by first|exact⟨_,rfl⟩|exact⟨_,World.drewN_drewN _ _ _⟩⟩
    ·rename_i he;have F:=Za he;clear he;go_roundw
     case rel=>exact⟨k+1,by omega,by go_num,fun j hj=>by rcases Nat.lt_succ_iff_lt_or_eq.1 hj with h|h;exact I.o j h;rw[h];simpa using F.o,by first|exact⟨_,rfl⟩|exact⟨_,World.drewN_drewN _ _ _⟩⟩
     case measure=>simp[intOf];omega
   ·obtain rfl:k=xs.length:=by omega
    have F:Hid (xs=ys):=Za (rE H.o I.o);go_wp2;go_ret;exact⟨by rw[decide_eq_true F.o];rfl,_,rfl⟩
 ·go_enter Tryz.func12,Tryz.ntmps12;have hb:(((xs.length:Nat):Int) != ((ys.length:Nat):Int))=true:=by simp[bne_iff_ne];omega
  have B:xs≠ys:=fun e=>A (congrArg List.length e);have F:=Za (decide_eq_false B);clear A B;go_wp2;go_ret;exact⟨by rw[F.o];rfl,aN.refl _⟩
theorem QX (v u:Value) (xs ys:List Int) (w:World) (hr:Rd w .i64 v xs) (hs:Rd w .i64 u ys) (hl:xs.length<=140737488351232):
  Calls Tryz.prog 139 #[v,u] w fun e w'=>e=.returned (.bool (decide (xs=ys)))/\aN w w':=by
 obtain⟨o,cap,rfl,hc⟩:=hr;obtain⟨o2,cap2,rfl,D⟩:=hs;have J:=Za hc;have G:=Za D;clear hc D;by_cases A:xs.length=ys.length
 ·have H:=Za A;clear A;rw[<-H.o];go_enter Tryz.func139,Tryz.ntmps139;go_wp2;go_loopw[5] (fun i wr=>∃k:Nat,k<=xs.length/\i=.int .i64 k/\(∀j,j<k->aF xs j=aF ys j)/\aN w wr) (fun i _=>xs.length-(intOf i).toNat)
  case atStart=>exact⟨0,Ze _,rfl,fun _ h=>absurd h (Nat.not_lt_zero _),aN.refl _⟩
  case round=>
   obtain⟨k,hk,rfl,C,nq,rfl⟩:=hrel;have I:=Za C;clear C;by_cases E:k<xs.length
   ·obtain⟨b,off,rfl,h1⟩:=J.o k E;obtain⟨b2,off2,rfl,h2⟩:=G.o k (by rw[<-H.o];exact E);go_wp2;go_quiet(fail);go_wp2
    ·go_ret;rename_i B;exact⟨by rw[decide_eq_false];rfl;intro e;rw[e]at B;simp at B,by first|exact⟨_,rfl⟩|exact⟨_,World.drewN_drewN _ _ _⟩⟩
    ·rename_i he;have F:=Za he;clear he;go_roundw
     case rel=>exact⟨k+1,by omega,by go_num,fun j hj=>by rcases Nat.lt_succ_iff_lt_or_eq.1 hj with h|h;exact I.o j h;rw[h];simpa using F.o,by first|exact⟨_,rfl⟩|exact⟨_,World.drewN_drewN _ _ _⟩⟩
     case measure=>simp[intOf];omega
   ·obtain rfl:k=xs.length:=by omega
    have F:Hid (xs=ys):=Za (rE H.o I.o);go_wp2;go_ret;exact⟨by rw[decide_eq_true F.o];rfl,_,rfl⟩
 ·go_enter Tryz.func139,Tryz.ntmps139;have hb:(((xs.length:Nat):Int) != ((ys.length:Nat):Int))=true:=by simp[bne_iff_ne];omega
  have B:xs≠ys:=fun e=>A (congrArg List.length e);have F:=Za (decide_eq_false B);clear A B;go_wp2;go_ret;exact⟨by rw[F.o];rfl,aN.refl _⟩
theorem pI (v u:Value) (xs ys:List Int) (w:World) (hr:Rd w .i64 v xs) (hs:Rd w .i64 u ys) (hl:xs.length<=140737488351232):
  Calls Tryz.prog 94 #[v,u] w fun e w'=>e=.returned (.bool (decide (xs=ys)))/\aN w w':=by
 obtain⟨o,cap,rfl,hc⟩:=hr;obtain⟨o2,cap2,rfl,D⟩:=hs;have J:=Za hc;have G:=Za D;clear hc D;by_cases A:xs.length=ys.length
 ·have H:=Za A;clear A;rw[<-H.o];go_enter Tryz.func94,Tryz.ntmps94;go_wp2;go_loopw[5] (fun i wr=>∃k:Nat,k<=xs.length/\i=.int .i64 k/\(∀j,j<k->aF xs j=aF ys j)/\aN w wr) (fun i _=>xs.length-(intOf i).toNat)
  case atStart=>exact⟨0,Ze _,rfl,fun _ h=>absurd h (Nat.not_lt_zero _),aN.refl _⟩
  case round=>
   obtain⟨k,hk,rfl,C,nq,rfl⟩:=hrel;have I:=Za C;clear C;by_cases E:k<xs.length
   ·obtain⟨b,off,rfl,h1⟩:=J.o k E;obtain⟨b2,off2,rfl,h2⟩:=G.o k (by rw[<-H.o];exact E);go_wp2;go_quiet(fail);go_wp2
    ·go_ret;rename_i B;exact⟨by rw[decide_eq_false];rfl;intro e;rw[e]at B;simp at B,by first|exact⟨_,rfl⟩|exact⟨_,World.drewN_drewN _ _ _⟩⟩
    ·rename_i he;have F:=Za he;clear he;go_roundw
     case rel=>exact⟨k+1,by omega,by go_num,fun j hj=>by rcases Nat.lt_succ_iff_lt_or_eq.1 hj with h|h;exact I.o j h;rw[h];simpa using F.o,by first|exact⟨_,rfl⟩|exact⟨_,World.drewN_drewN _ _ _⟩⟩
     case measure=>simp[intOf];omega
   ·obtain rfl:k=xs.length:=by omega
    have F:Hid (xs=ys):=Za (rE H.o I.o);go_wp2;go_ret;exact⟨by rw[decide_eq_true F.o];rfl,_,rfl⟩
 ·go_enter Tryz.func94,Tryz.ntmps94;have hb:(((xs.length:Nat):Int) != ((ys.length:Nat):Int))=true:=by simp[bne_iff_ne];omega
  have B:xs≠ys:=fun e=>A (congrArg List.length e);have F:=Za (decide_eq_false B);clear A B;go_wp2;go_ret;exact⟨by rw[F.o];rfl,aN.refl _⟩
theorem jR (l:List aO) (k:Nat) (h:k<l.length):aR l k∈l:=by rw[eY l k h];exact List.getElem_mem h
theorem tK (l:List aO) (k:Nat) (h:k<l.length):l.take (k+1)=l.take k++[aR l k]:=by rw[List.take_succ_eq_append_getElem h,eY l k h]
theorem qV (p:aO->Bool) (l:List aO) (k:Nat) (h:k<l.length):(l.take (k+1)).all p=((l.take k).all p&&p (aR l k)):=by rw[tK l k h,List.all_append];simp
theorem rA (p:aO->Bool) (l:List aO) (k:Nat) (h:k<l.length) (hp:p (aR l k)=false):l.all p=false:=by rw[List.all_eq_false];exact⟨_,jR l k h,by simp[hp]⟩
theorem MH (vs vd:Value) (t:aO) (w:World) (hs:Rd w .i64 vs t.sh) (hd:Rd w .i64 vd t.da) (hl:t.Lim):
  Calls Tryz.prog 126 #[.agg #[vs,vd]] w fun e w'=>e=.returned (.bool (!cK t))/\Below w.heap.size w w':=by have C:=Za hl;have D:=Za hs;have E:=Za hd;obtain⟨o1,cap1,A⟩:=aU hs;obtain⟨o2,cap2,B⟩:=aU hd;subst A B;clear hs hd hl;go_enter Tryz.func126,Tryz.ntmps126;go_wp2_with fail;refine(UE _ _ t _ (D.o.alloc _) (E.o.alloc _) C.o).mono ?_;rintro e w' ⟨rfl,hb⟩;go_wp2;go_ret;exact⟨rfl,((Zc w.heap.size w).alloc (Zb _) _).trans (hb.mono (by simp))⟩
def eR (ts:List aO):Prop:=ts.length<=140737488351232/\∀t∈ts,t.Lim
theorem KM (v:Value) (ts:List aO) (w:World) (hr:bD w v ts) (hl:eR ts):
  Calls Tryz.prog 158 #[v,.func (.func 126) #[] #[]] w fun e w'=>(∃i:Int,e=.returned (.int .i64 i)/\decide (0<=i)=!ts.all cK)/\Below w.heap.size w w':=by
 obtain⟨o,cap,rfl⟩:=hr.slice;have I:=Za hr;obtain⟨J,B⟩:=hl;have L:=Za B;have he:∀args w,(callFunc 126 args).run Tryz.prog w=.ok (.enter 126 args) w:=enters_of Tryz.func126 (by kernel_rfl) rfl;clear hr B;go_enter Tryz.func158,Tryz.ntmps158;go_wp2;go_loopw[8] (fun i wr=>∃k:Nat,k<=ts.length/\i=.int .i64 k/\(ts.take k).all cK=true/\Below w.heap.size w wr) (fun i _=>ts.length-(intOf i).toNat)
 case atStart=>exact⟨0,Ze _,rfl,rfl,Zc _ _⟩
 case round=>
  obtain⟨k,hk,rfl,hp,hB⟩:=hrel;obtain⟨w3,rfl⟩:=Zx wr;have H:=Za hp;have E:=Za hB;clear hp hB;by_cases A:k<ts.length
  ·obtain⟨b,off,vs,vd,rfl,c0,c1,hs,hd⟩:=(I.o.below E.o (Zb _)).tens k A;have M:=Za hs;have N:=Za hd;have F:=Za (L.o _ (jR ts k A));obtain⟨o1,cap1,rfl⟩:=aU hs;obtain⟨o2,cap2,rfl⟩:=aU hd;clear hs hd;cases hb:cK (aR ts k)
   all_goals
    have G:=Za hb;clear hb;go_wp2_with fail;refine(MH _ _ (aR ts k) _ M.o N.o F.o).mono ?_;rintro e w' ⟨rfl,C⟩;rw[G.o];have D:=Za (E.o.trans (C.mono E.o.size));clear C;go_wp2
   ·go_ret;exact⟨⟨_,rfl,by rw[rA _ _ k A G.o];simp⟩,D.o⟩
   ·go_roundw
    case rel=>exact⟨k+1,by omega,by go_num,by rw[qV _ _ _ A,H.o,G.o];rfl,D.o⟩
    case measure=>simp[intOf];omega
  ·obtain rfl:k=ts.length:=by omega
   have O:Hid (ts.all cK=true):=Za (by have:=H.o;rwa [List.take_length]at this);go_wp2;go_ret;exact⟨⟨_,rfl,by rw[O.o];simp⟩,E.o⟩
theorem vK (v:Value) (ts:List aO) (w:World) (hr:bD w v ts) (hl:eR ts):
  Calls Tryz.prog 81 #[v] w fun e w'=>e=.returned (.bool (ts.all cK))/\Below w.heap.size w w':=by
 have A:=Za (show Calls Tryz.prog 125 #[v,.func (.func 126) #[] #[]] w fun e w'=>e=.returned (.bool (!ts.all cK))/\Below w.heap.size w w' by
  have B:=Za (KM v ts w hr hl);clear hr hl;go_enter Tryz.func125,Tryz.ntmps125;go_wp2_with fail;refine B.o.mono ?_;rintro e w' ⟨⟨i,rfl,hi⟩,hs⟩;have C:=Za hi;have D:=Za hs;clear hi hs;go_wp2;go_ret;exact⟨aG C.o,D.o⟩)
 clear hr hl;go_enter Tryz.func81,Tryz.ntmps81;go_wp2_with fail;refine A.o.mono ?_;rintro e w' ⟨rfl,hb⟩;have E:=Za hb;clear hb;go_wp2;go_ret;exact⟨aG (by simp),E.o⟩
theorem wS (v u:Value) (xs ys:List Int) (w:World) (hr:Rd w .i64 v xs) (hs:Rd w .i64 u ys) (hl:xs.length<=140737488351232):
  Calls Tryz.prog 82 #[v,u] w fun e w'=>e=.returned (.bool (decide (xs=ys)))/\aN w w':=by
 obtain⟨o,cap,rfl,hc⟩:=hr;obtain⟨o2,cap2,rfl,D⟩:=hs;have J:=Za hc;have G:=Za D;clear hc D;by_cases A:xs.length=ys.length
 ·have H:=Za A;clear A;rw[<-H.o];go_enter Tryz.func82,Tryz.ntmps82;go_wp2;go_loopw[13] (fun i wr=>∃k:Nat,k<=xs.length/\i=.int .i64 k/\(∀j,j<k->aF xs j=aF ys j)/\aN w wr) (fun i _=>xs.length-(intOf i).toNat)
  case atStart=>exact⟨0,Ze _,rfl,fun _ h=>absurd h (Nat.not_lt_zero _),aN.refl _⟩
  case round=>
   obtain⟨k,hk,rfl,C,nq,rfl⟩:=hrel;have I:=Za C;clear C;by_cases E:k<xs.length
   ·obtain⟨b,off,rfl,h1⟩:=J.o k E;obtain⟨b2,off2,rfl,h2⟩:=G.o k (by rw[<-H.o];exact E);go_wp2;go_quiet(fail);go_wp2
    ·go_ret;rename_i B;exact⟨by rw[decide_eq_false];rfl;intro e;rw[e]at B;simp at B,by first|exact⟨_,rfl⟩|exact⟨_,World.drewN_drewN _ _ _⟩⟩
    ·rename_i he;have F:=Za he;clear he;go_roundw
     case rel=>exact⟨k+1,by omega,by go_num,fun j hj=>by rcases Nat.lt_succ_iff_lt_or_eq.1 hj with h|h;exact I.o j h;rw[h];simpa using F.o,by first|exact⟨_,rfl⟩|exact⟨_,World.drewN_drewN _ _ _⟩⟩
     case measure=>simp[intOf];omega
   ·obtain rfl:k=xs.length:=by omega
    have F:Hid (xs=ys):=Za (rE H.o I.o);go_wp2;go_ret;exact⟨by rw[decide_eq_true F.o];rfl,_,rfl⟩
 ·go_enter Tryz.func82,Tryz.ntmps82;have hb:(((xs.length:Nat):Int) != ((ys.length:Nat):Int))=true:=by simp[bne_iff_ne];omega
  have B:xs≠ys:=fun e=>A (congrArg List.length e);have F:=Za (decide_eq_false B);clear A B;go_wp2;go_ret;exact⟨by rw[F.o];rfl,aN.refl _⟩
def bK (l:List aO):List (List Int):=l.map aO.sh
theorem UG {a b:List aO} (hl:a.length=b.length) (h:∀k,k<a.length->(aR a k).sh=(aR b k).sh):bK a=bK b:=by
 apply List.ext_getElem
 ·simp[bK,hl]
 ·intro k h1 h2;have hk:k<a.length:=by simpa [bK]using h1
  have:=h k hk;rw[eY a k hk,eY b k (by omega)]at this
  simpa [bK]using this
theorem GC {a b:List aO} (h:bK a=bK b) (k:Nat) (hk:k<a.length):(aR a k).sh=(aR b k).sh:=by
 have hl:a.length=b.length:=by have:=congrArg List.length h;simpa [bK]using this
 have h1:(bK a)[k]?=(bK b)[k]?:=by rw[h]
 rw[eY a k hk,eY b k (by omega)]
 simpa [bK,hk,show k<b.length by omega]using h1
theorem JX (vs vd us ud:Value) (xs ys:List Int) (w:World) (hs:Rd w .i64 vs xs) (hd:Rd w .i64 us ys) (hl:xs.length<=140737488351232):
  Calls Tryz.prog 162 #[.agg #[vs,vd],.agg #[us,ud]] w fun e w'=>e=.returned (.bool (decide (xs=ys)))/\Below w.heap.size w w':=by have A:=Za hs;have B:=Za hd;obtain⟨o1,cap1,rfl⟩:=aU hs;obtain⟨o2,cap2,rfl⟩:=aU hd;clear hs hd;go_enter Tryz.func162,Tryz.ntmps162;go_wp2_with fail;refine(wS _ _ xs ys _ ((A.o.alloc _).alloc _) ((B.o.alloc _).alloc _) hl).mono ?_;rintro e w' ⟨rfl,nq,rfl⟩;go_wp2;go_ret;exact⟨rfl,below_drewN (((Zc w.heap.size w).alloc (Zb _) _).alloc (by simp) _) _⟩
theorem QF (v u:Value) (a b:List aO) (w:World) (hr:bD w v a) (C:bD w u b) (hl:eR a):
  Calls Tryz.prog 161 #[v,u,.func (.func 162) #[] #[]] w fun e w'=>e=.returned (.bool (decide (bK a=bK b)))/\Below w.heap.size w w':=by
 obtain⟨o,cap,rfl⟩:=hr.slice;obtain⟨o2,cap2,rfl⟩:=C.slice;have P:=Za hr;have R:=Za C;obtain⟨T,E⟩:=hl;have U:=Za E;have he:∀args w,(callFunc 162 args).run Tryz.prog w=.ok (.enter 162 args) w:=enters_of Tryz.func162 (by kernel_rfl) rfl;clear hr C E;by_cases A:a.length=b.length
 ·have hb:((a.length:Int) != b.length)=false:=by simp[A]
  have I:=Za A;clear A;go_enter Tryz.func161,Tryz.ntmps161;go_wp2;go_loopw[17] (fun i wr=>∃k:Nat,k<=a.length/\i=.int .i64 k/\(∀j,j<k->(aR a j).sh=(aR b j).sh)/\Below w.heap.size w wr) (fun i _=>a.length-(intOf i).toNat)
  case atStart=>exact⟨0,Ze _,rfl,fun _ h=>absurd h (Nat.not_lt_zero _),Zc _ _⟩
  case round=>
   obtain⟨k,hk,rfl,hp,hB⟩:=hrel;obtain⟨w3,rfl⟩:=Zx wr;have O:=Za hp;have D:=Za hB;clear hp hB;by_cases B:k<a.length
   ·obtain⟨ba,offa,vs,vd,rfl,c0,c1,C,hd⟩:=(P.o.below D.o (Zb _)).tens k B;have F:k<b.length:=by rw[<-I.o];exact B
    obtain⟨bb,offb,us,ud,rfl,d0,d1,gs,gd⟩:=(R.o.below D.o (Zb _)).tens k F;have J:=Za C;have L:=Za gs;have d0a:=fun o:Obj=>(((Zc w3.heap.size w3).alloc (Zb _) o).cell (p:=⟨bb,offb+k*2,none⟩) (aP d0)).trans d0;have d1a:=fun o:Obj=>(((Zc w3.heap.size w3).alloc (Zb _) o).cell (p:=⟨bb,offb+k*2+1,none⟩) (aP d1)).trans d1;have M:=Za (U.o _ (jR a k B));obtain⟨o1,cap1,rfl⟩:=aU C;obtain⟨o3,cap3,rfl⟩:=aU gs;obtain⟨o4,cap4,rfl⟩:=aU hd;obtain⟨o5,cap5,rfl⟩:=aU gd;clear C hd gs gd;cases hq:decide ((aR a k).sh=(aR b k).sh)
    all_goals
     have N:=Za hq;clear hq;go_wp2_with fail;refine(JX _ _ _ _ (aR a k).sh (aR b k).sh _ ((J.o.alloc _).alloc _) ((L.o.alloc _).alloc _) M.o.1).mono ?_;rintro e w' ⟨rfl,G⟩;rw[N.o];have H:=Za (((D.o.alloc D.o.size _).alloc (by have:=D.o.size;simp;omega) _).trans (G.mono (by have:=D.o.size;simp;omega)));clear G d0a d1a;go_wp2
    ·go_ret;exact⟨aG (decide_eq_false (fun h=>(of_decide_eq_false N.o) (GC h k B))).symm,H.o⟩
    ·go_roundw
     case rel=>exact⟨k+1,by omega,by go_num,fun j hj=>by rcases Nat.lt_succ_iff_lt_or_eq.1 hj with h|h;exact O.o j h;rw[h];exact of_decide_eq_true N.o,H.o⟩
     case measure=>simp[intOf];omega
   ·obtain rfl:k=a.length:=by omega
    have V:Hid (bK a=bK b):=Za (UG I.o O.o);go_wp2;go_ret;exact⟨aG (decide_eq_true V.o).symm,D.o⟩
 ·have hb:((a.length:Int) != b.length)=true:=by simp;omega
  have I:=Za A;clear A;go_enter Tryz.func161,Tryz.ntmps161;go_wp2;go_ret;exact⟨aG (decide_eq_false (fun h=>I.o (by have:=congrArg List.length h;simpa [bK]using this))).symm,Zc _ _⟩
theorem VB (v u:Value) (a b:List aO) (w:World) (hr:bD w v a) (hs:bD w u b) (hl:eR a):
  Calls Tryz.prog 129 #[v,u] w fun e w'=>e=.returned (.bool (decide (bK a=bK b)))/\Below w.heap.size w w':=by have A:=Za (QF v u a b w hr hs hl);clear hr hs hl;go_enter Tryz.func129,Tryz.ntmps129;go_wp2_with fail;refine A.o.mono ?_;rintro e w' ⟨rfl,hs⟩;have B:=Za hs;clear hs;go_wp2;go_ret;exact⟨rfl,B.o⟩
def fP (w:World) (l:List Obj):World:=l.foldl World.alloc w
theorem oE (l:List Obj):∀w:World,(fP w l).heap=w.heap++l.toArray:=by
 induction l with
 |nil=>intro w;simp[fP]
 |cons o l ih=>
  intro w
  show(fP (w.alloc o) l).heap=_
  rw[ih,show(w.alloc o).heap=w.heap.push o from rfl];simp
theorem BB (l:List Obj):∀(w:World) {B:Nat} {w0:World},Below B w0 w->B<=w.heap.size->Below B w0 (fP w l):=by
 induction l with
 |nil=>intro w B w0 h _;exact h
 |cons o l ih=>intro w B w0 h hB;exact ih (w.alloc o) (h.alloc hB o) (by simp;omega)
theorem UD (w:World) (l:List Obj) (i:Nat) (o:Obj) (h:l[i]?=some o):(fP w l).heap[w.heap.size+i]?=some o:=by
 rw[oE,Array.getElem?_append_right (by omega)]
 simpa using h
theorem uS (w:World) (l:List Obj) (i:Nat) (cs:Array Value) (T:TypeId) (h:l[i]?=some (.cells cs T)) (j:Nat) (v:Value) (hj:cs[j]?=some v):(fP w l).cell? ⟨w.heap.size+i,j,none⟩=some v:=by rw[cell_of_row _ (w.heap.size+i) j cs T (0,0) (UD w l i _ h)];exact hj
def iI (n:Nat):List Obj:=[
 .cells #[.func (.func 172) #[] #[],.func (.func 173) #[] #[]] 220,
 .cells #[.int .i64 1,.int .i64 1] 3,
 .cells #[.int .i64 4096,.int .i64 4096] 3,
 .cells #[.func (.func 172) #[] #[],.func (.func 173) #[] #[],.func (.func 174) #[] #[],.func (.func 175) #[] #[],.func (.func 176) #[] #[]] 220,
 .cells #[.int .i64 1,.int .i64 1,.int .i64 1,.int .i64 1,.int .i64 0] 3,
 .cells #[.int .i64 4096,.int .i64 4096,.int .i64 4096,.int .i64 4096,.int .i64 4096] 3,
 .cells #[.func (.func 177) #[] #[]] 220,
 .cells #[.int .i64 0] 3,
 .cells #[.int .i64 99] 3,
 .cells #[.func (.func 174) #[] #[]] 220,
 .cells #[.int .i64 1] 3,
 .cells #[.int .i64 4096] 3,
 .cells #[.func (.func 174) #[] #[]] 220,
 .cells #[.int .i64 1] 3,
 .cells #[.int .i64 4096] 3,
 .cells #[.func (.func 172) #[] #[],.func (.func 173) #[] #[]] 220,
 .cells #[.int .i64 1,.int .i64 1] 3,
 .cells #[.int .i64 4096,.int .i64 4096] 3,
 .cells #[.func (.func 172) #[] #[],.func (.func 178) #[] #[]] 220,
 .cells #[.int .i64 1,.int .i64 1] 3,
 .cells #[.int .i64 4096,.int .i64 4096] 3,
 .cells #[.int .i64 1,.string {data:=#[108,105,110,101,97,114]},.slice (some ⟨n+0,0,none⟩) 2 2,.slice (some ⟨n+1,0,none⟩) 2 2,.slice (some ⟨n+2,0,none⟩) 2 2,.int .i64 2,.string {data:=#[99,111,110,118]},.slice (some ⟨n+3,0,none⟩) 5 5,.slice (some ⟨n+4,0,none⟩) 5 5,.slice (some ⟨n+5,0,none⟩) 5 5,.int .i64 3,.string {data:=#[114,101,108,117]},.slice none 0 0,.slice none 0 0,.slice none 0 0,.int .i64 4,.string {data:=#[116,97,110,104]},.slice none 0 0,.slice none 0 0,.slice none 0 0,.int .i64 5,.string {data:=#[115,105,103,109,111,105,100]},.slice none 0 0,.slice none 0 0,.slice none 0 0,.int .i64 6,.string {data:=#[110,111,114,109]},.slice none 0 0,.slice none 0 0,.slice none 0 0,.int .i64 10,.string {data:=#[102,108,97,116,116,101,110]},.slice none 0 0,.slice none 0 0,.slice none 0 0,.int .i64 7,.string {data:=#[100,114,111,112]},.slice (some ⟨n+6,0,none⟩) 1 1,.slice (some ⟨n+7,0,none⟩) 1 1,.slice (some ⟨n+8,0,none⟩) 1 1,.int .i64 8,.string {data:=#[109,97,120,112,111,111,108]},.slice (some ⟨n+9,0,none⟩) 1 1,.slice (some ⟨n+10,0,none⟩) 1 1,.slice (some ⟨n+11,0,none⟩) 1 1,.int .i64 9,.string {data:=#[97,118,103,112,111,111,108]},.slice (some ⟨n+12,0,none⟩) 1 1,.slice (some ⟨n+13,0,none⟩) 1 1,.slice (some ⟨n+14,0,none⟩) 1 1,.int .i64 11,.string {data:=#[101,109,98,101,100]},.slice (some ⟨n+15,0,none⟩) 2 2,.slice (some ⟨n+16,0,none⟩) 2 2,.slice (some ⟨n+17,0,none⟩) 2 2,.int .i64 12,.string {data:=#[97,116,116,101,110,116,105,111,110]},.slice (some ⟨n+18,0,none⟩) 2 2,.slice (some ⟨n+19,0,none⟩) 2 2,.slice (some ⟨n+20,0,none⟩) 2 2] 219]
def lL:Nat->FuncId
 |1=>172
 |2=>173
 |3=>174
 |4=>175
 |5=>176
 |6=>177
 |_=>178
def iN (w:World) (v:Value) (ats:List Nat):Prop:=∃o cap,v=.slice o ats.length cap/\∀j (hj:j<ats.length),∃b off,o=some ⟨b,off,none⟩/\w.cell? ⟨b,off+j,none⟩=some (.func (.func (lL ats[j])) #[] #[])
theorem iN.below {w w':World} {B:Nat} {v:Value} {ats:List Nat} (h:iN w v ats) (hB:Below B w w') (hs:w.heap.size<=B):iN w' v ats:=by obtain⟨o,cap,rfl,h⟩:=h;refine⟨o,cap,rfl,fun j hj=>?_⟩;obtain⟨b,off,rfl,hc⟩:=h j hj;exact⟨b,off,rfl,(hB.cell (p:=⟨b,off+j,none⟩) (Nat.lt_of_lt_of_le (aP hc) hs)).trans hc⟩
def uD (w:World) (b i:Nat) (r:bX):Prop:=∃va vl vh,w.cell? ⟨b,i*5,none⟩=some (.int .i64 r.kind)/\w.cell? ⟨b,i*5+1,none⟩=some (.string ⟨r.word.toArray⟩)/\
 w.cell? ⟨b,i*5+2,none⟩=some va/\w.cell? ⟨b,i*5+3,none⟩=some vl/\w.cell? ⟨b,i*5+4,none⟩=some vh/\iN w va r.at_/\Rd w .i64 vl r.low/\Rd w .i64 vh r.high
def kU (w:World) (b:Nat):Prop:=∀i (hi:i<bJ.length),uD w b i bJ[i]
theorem uD.below {w w':World} {B b i:Nat} {r:bX} (h:uD w b i r) (hB:Below B w w') (hs:w.heap.size<=B):uD w' b i r:=by obtain⟨va,vl,vh,h0,h1,h2,h3,h4,h5,h6,h7⟩:=h;have k:∀{j:Nat} {u:Value},w.cell? ⟨b,j,none⟩=some u->w'.cell? ⟨b,j,none⟩=some u:=fun {j u} hc=>(hB.cell (p:=⟨b,j,none⟩) (Nat.lt_of_lt_of_le (aP hc) hs)).trans hc;exact⟨va,vl,vh,k h0,k h1,k h2,k h3,k h4,h5.below hB hs,h6.below hB hs,h7.below hB hs⟩
theorem kU.below {w w':World} {B b:Nat} (h:kU w b) (hB:Below B w w') (hs:w.heap.size<=B):kU w' b:=fun i hi=>(h i hi).below hB hs
theorem iN.nil (w:World):iN w (.slice none 0 0) []:=⟨none,0,rfl,fun j hj=>absurd hj (Nat.not_lt_zero j)⟩
theorem oA (w:World) (l:List Obj) (i:Nat) (ats:List Nat) (T:TypeId) (h:l[i]?=some (.cells (ats.map fun a=>Value.func (.func (lL a)) #[] #[]).toArray T)) (n:Nat) (hn:n=ats.length):iN (fP w l) (.slice (some ⟨w.heap.size+i,0,none⟩) n n) ats:=by subst hn;refine⟨_,_,rfl,fun j hj=>⟨w.heap.size+i,0,rfl,?_⟩⟩;rw[Nat.zero_add];exact uS w l i _ T h j _ (by simp[hj])
theorem i6 (w:World) (l:List Obj) (i:Nat) (xs:List Int) (T:TypeId) (h:l[i]?=some (.cells (xs.map (Value.int .i64)).toArray T)) (n:Nat) (hn:n=xs.length):Rd (fP w l) .i64 (.slice (some ⟨w.heap.size+i,0,none⟩) n n) xs:=by subst hn;refine⟨_,_,rfl,fun j hj=>⟨w.heap.size+i,0,rfl,?_⟩⟩;rw[Nat.zero_add];exact uS w l i _ T h j _ (by simp[dO xs j hj,hj])
theorem DH (w:World):kU (fP w (iI w.heap.size)) (w.heap.size+21):=by
 intro i hi;have A:∀(j:Nat) (v:Value),_->(fP w (iI w.heap.size)).cell? ⟨w.heap.size+21,j,none⟩=some v:=fun j v hj=>uS w (iI w.heap.size) 21 _ 219 rfl j v hj;have hi':i<12:=hi;rcases(show i=0\/i=1\/i=2\/i=3\/i=4\/i=5\/i=6\/i=7\/i=8\/i=9\/i=10\/i=11 by omega)with rfl|rfl|rfl|rfl|rfl|rfl|rfl|rfl|rfl|rfl|rfl|rfl
 ·exact⟨_,_,_,A 0 _ rfl,A 1 _ rfl,A 2 _ rfl,A 3 _ rfl,A 4 _ rfl,oA w _ 0 [1,2] _ rfl 2 rfl,i6 w _ 1 [1,1] _ rfl 2 rfl,i6 w _ 2 [4096,4096] _ rfl 2 rfl⟩
 ·exact⟨_,_,_,A 5 _ rfl,A 6 _ rfl,A 7 _ rfl,A 8 _ rfl,A 9 _ rfl,oA w _ 3 [1,2,3,4,5] _ rfl 5 rfl,i6 w _ 4 [1,1,1,1,0] _ rfl 5 rfl,i6 w _ 5 [4096,4096,4096,4096,4096] _ rfl 5 rfl⟩
 ·exact⟨_,_,_,A 10 _ rfl,A 11 _ rfl,A 12 _ rfl,A 13 _ rfl,A 14 _ rfl,iN.nil _,Rd.nil _ _ _ _,Rd.nil _ _ _ _⟩
 ·exact⟨_,_,_,A 15 _ rfl,A 16 _ rfl,A 17 _ rfl,A 18 _ rfl,A 19 _ rfl,iN.nil _,Rd.nil _ _ _ _,Rd.nil _ _ _ _⟩
 ·exact⟨_,_,_,A 20 _ rfl,A 21 _ rfl,A 22 _ rfl,A 23 _ rfl,A 24 _ rfl,iN.nil _,Rd.nil _ _ _ _,Rd.nil _ _ _ _⟩
 ·exact⟨_,_,_,A 25 _ rfl,A 26 _ rfl,A 27 _ rfl,A 28 _ rfl,A 29 _ rfl,iN.nil _,Rd.nil _ _ _ _,Rd.nil _ _ _ _⟩
 ·exact⟨_,_,_,A 30 _ rfl,A 31 _ rfl,A 32 _ rfl,A 33 _ rfl,A 34 _ rfl,iN.nil _,Rd.nil _ _ _ _,Rd.nil _ _ _ _⟩
 ·exact⟨_,_,_,A 35 _ rfl,A 36 _ rfl,A 37 _ rfl,A 38 _ rfl,A 39 _ rfl,oA w _ 6 [6] _ rfl 1 rfl,i6 w _ 7 [0] _ rfl 1 rfl,i6 w _ 8 [99] _ rfl 1 rfl⟩
 ·exact⟨_,_,_,A 40 _ rfl,A 41 _ rfl,A 42 _ rfl,A 43 _ rfl,A 44 _ rfl,oA w _ 9 [3] _ rfl 1 rfl,i6 w _ 10 [1] _ rfl 1 rfl,i6 w _ 11 [4096] _ rfl 1 rfl⟩
 ·exact⟨_,_,_,A 45 _ rfl,A 46 _ rfl,A 47 _ rfl,A 48 _ rfl,A 49 _ rfl,oA w _ 12 [3] _ rfl 1 rfl,i6 w _ 13 [1] _ rfl 1 rfl,i6 w _ 14 [4096] _ rfl 1 rfl⟩
 ·exact⟨_,_,_,A 50 _ rfl,A 51 _ rfl,A 52 _ rfl,A 53 _ rfl,A 54 _ rfl,oA w _ 15 [1,2] _ rfl 2 rfl,i6 w _ 16 [1,1] _ rfl 2 rfl,i6 w _ 17 [4096,4096] _ rfl 2 rfl⟩
 ·exact⟨_,_,_,A 55 _ rfl,A 56 _ rfl,A 57 _ rfl,A 58 _ rfl,A 59 _ rfl,oA w _ 18 [1,7] _ rfl 2 rfl,i6 w _ 19 [1,1] _ rfl 2 rfl,i6 w _ 20 [4096,4096] _ rfl 2 rfl⟩
theorem aB.ind {P:aB->Prop} (h:∀n body,(∀l∈body,P l)->P (.mk n body)):∀l,P l
 |.mk n body=>h n body (indL h body)
 where indL {P:aB->Prop} (h:∀n body,(∀l∈body,P l)->P (.mk n body)):∀(b:List aB),∀l∈b,P l
 |[],l,hl=>nomatch hl
 |x::r,l,hl=>(List.mem_cons.1 hl).elim (fun e=>e▸aB.ind h x) (indL h r l)
theorem yL (i:Nat) (args:Array Value) (w:World):(callFunc (lL i) args).run Tryz.prog w=.ok (.enter (lL i) args) w:=by
 unfold lL;split
 ·exact enters_of Tryz.func172 (by kernel_rfl) rfl args w
 ·exact enters_of Tryz.func173 (by kernel_rfl) rfl args w
 ·exact enters_of Tryz.func174 (by kernel_rfl) rfl args w
 ·exact enters_of Tryz.func175 (by kernel_rfl) rfl args w
 ·exact enters_of Tryz.func176 (by kernel_rfl) rfl args w
 ·exact enters_of Tryz.func177 (by kernel_rfl) rfl args w
 ·exact enters_of Tryz.func178 (by kernel_rfl) rfl args w
theorem xX (i:Nat) (hi:1<=i/\i<=7) (b:Nat) (w:World):Calls Tryz.prog (lL i) #[.pointer (some ⟨b,0,none⟩)] w fun e w'=>e=.returned (.pointer (some ⟨b,i,none⟩))/\w=w':=by
 obtain⟨h1,h2⟩:=hi;rcases(show i=1\/i=2\/i=3\/i=4\/i=5\/i=6\/i=7 by omega)with rfl|rfl|rfl|rfl|rfl|rfl|rfl
 ·show Calls Tryz.prog 172 _ _ _
  go_enter Tryz.func172,Tryz.ntmps172;go_wp2;go_ret;exact⟨rfl,rfl⟩
 ·show Calls Tryz.prog 173 _ _ _
  go_enter Tryz.func173,Tryz.ntmps173;go_wp2;go_ret;exact⟨rfl,rfl⟩
 ·show Calls Tryz.prog 174 _ _ _
  go_enter Tryz.func174,Tryz.ntmps174;go_wp2;go_ret;exact⟨rfl,rfl⟩
 ·show Calls Tryz.prog 175 _ _ _
  go_enter Tryz.func175,Tryz.ntmps175;go_wp2;go_ret;exact⟨rfl,rfl⟩
 ·show Calls Tryz.prog 176 _ _ _
  go_enter Tryz.func176,Tryz.ntmps176;go_wp2;go_ret;exact⟨rfl,rfl⟩
 ·show Calls Tryz.prog 177 _ _ _
  go_enter Tryz.func177,Tryz.ntmps177;go_wp2;go_ret;exact⟨rfl,rfl⟩
 ·show Calls Tryz.prog 178 _ _ _
  go_enter Tryz.func178,Tryz.ntmps178;go_wp2;go_ret;exact⟨rfl,rfl⟩
theorem FK (l m:aE) (v u:Value) (w:World):
  Calls Tryz.prog 189 #[.agg (l.cells v).toArray,.agg (m.cells u).toArray] w fun e w'=>e=.returned (.bool (gA l m))/\Below w.heap.size w w':=by
 obtain⟨k0,k1,k2,k3,k4,k5,k6,k7⟩:=l;obtain⟨j0,j1,j2,j3,j4,j5,j6,j7⟩:=m;simp only[aE.cells];go_enter Tryz.func189,Tryz.ntmps189;go_wp2
 all_goals
  go_ret;exact⟨aG (by simp[gA,Bool.beq_eq_decide_eq, *]),((Zc _ _).alloc (Zb _) _).alloc (by simp) _⟩
theorem rP:∀d:Fin 10,kC (UInt8.ofNat (48+d.val))=true/\(UInt8.ofNat (48+d.val)).toNat-48=d.val/\(UInt8.ofNat (48+d.val)=48->d.val=0):=by decide
theorem xP (u:Nat):∀c∈Lib.decDigits u,kC c=true:=by
 induction u using Nat.strongRecOn with
 |ind u ih=>
  intro c A;rw[Lib.decDigits]at A;split at A
  ·rw[List.mem_singleton.1 A];exact(rP ⟨u,by assumption⟩).1
  ·rcases List.mem_append.1 A with A|A
   ·exact ih _ (by omega) c A
   ·rw[List.mem_singleton.1 A];exact(rP ⟨u%10,by omega⟩).1
theorem AW (a:List UInt8) (c:UInt8):iG (a++[c])=10*iG a+(c.toNat-48):=by simp[iG]
theorem P1 (u:Nat):iG (Lib.decDigits u)=u:=by
 induction u using Nat.strongRecOn with
 |ind u ih=>
  rw[Lib.decDigits];split
  ·have:=(rP ⟨u,by assumption⟩).2.1;simp only[iG,List.foldl_cons,List.foldl_nil]at this ⊢;omega
  ·rw[AW,ih _ (by omega),(rP ⟨u%10,by omega⟩).2.1];simp only;omega
theorem wN (u:Nat):Lib.decDigits u≠[]:=by rw[Lib.decDigits];split<;>simp
theorem SC (u:Nat):(Lib.decDigits u).head?=some 48->u=0:=by
 induction u using Nat.strongRecOn with
 |ind u ih=>
  intro h;rw[Lib.decDigits]at h;split at h
  ·rename_i hu;simp only[List.head?_cons,Option.some.injEq]at h;exact(rP ⟨u,hu⟩).2.2 h
  ·rename_i hu;cases hd:Lib.decDigits (u / 10)with
   |nil=>exact absurd hd (wN _)
   |cons c r=>
    rw[hd]at h;have:=ih (u / 10) (by omega) (by rw[hd];simpa using h);omega
theorem A6 (u:Nat) (h:u<10000):Lib.nDigits u<=4:=by
 rw[Lib.nDigits];split
 ·omega
 rw[Lib.nDigits];split
 ·omega
 rw[Lib.nDigits];split
 ·omega
 rw[Lib.nDigits];split
 ·omega
 omega
theorem NX (u:Nat) (h:u<10):Lib.nDigits u=1:=by rw[Lib.nDigits,dif_pos h]
theorem xJ (u:Nat):Lib.itoa (u:Int)=Lib.decDigits u:=by rw[Lib.itoa,if_neg (by omega),Int.toNat_natCast]
theorem zL (x low high:Int) (h0:0<=x) (h1:x<=4096) (hl:low<=x) (hh:x<=high):dY (Lib.itoa x) low high=some x:=by
 obtain⟨u,rfl⟩:∃u:Nat,x=u:=⟨x.toNat,by omega⟩;rw[xJ,dY,P1,if_neg,if_pos ⟨hl,hh⟩];rintro(h|h|⟨h,h2⟩|h)
 ·exact wN u h
 ·rw[Lib.decDigits_length]at h;have:=A6 u (by omega);omega
 ·have:=SC u h;subst this;rw[Lib.decDigits_length,NX 0 (by omega)]at h2;omega
 ·rw[List.all_eq_true.2 (xP u)]at h;cases h
theorem DS (x:Int) (h0:0<=x) (h1:x<=4096):(Lib.itoa x).length<=4:=by obtain⟨u,rfl⟩:∃u:Nat,x=u:=⟨x.toNat,by omega⟩;rw[xJ,Lib.decDigits_length];exact A6 u (by omega)
def mI (w:List UInt8):Prop:=w≠[]/\(32:UInt8) ∉ w/\(10:UInt8) ∉ w
theorem BP (x:Int):mI (Lib.itoa x):=by
 have key:∀u,mI (Lib.decDigits u):=fun u=>⟨wN u,fun h=>by have:=xP u _ h;revert this;decide,fun h=>by have:=xP u _ h;revert this;decide⟩;rw[Lib.itoa];split
 ·have:=key x.natAbs;exact⟨by simp,by simp[this.2.1],by simp[this.2.2]⟩
 ·exact key _
theorem A8 (l:List UInt8):∀(cur r:List UInt8),(10:UInt8) ∉ l->dR cur (l++10::r)=(cur++l)::dR [] r:=by
 induction l with
 |nil=>intro cur r _;simp[dR]
 |cons c l ih=>
  intro cur r h;simp only[List.mem_cons,not_or]at h;rw[List.cons_append,dR,if_neg (fun e=>h.1 e.symm),ih _ _ h.2];simp
theorem LD (l:List UInt8):∀(cur:List UInt8),(32:UInt8) ∉ l->eB cur l=if cur++l=[] then none else some [cur++l]:=by
 induction l with
 |nil=>intro cur _;simp[eB]
 |cons c l ih=>
  intro cur h;simp only[List.mem_cons,not_or]at h;rw[eB,if_neg (fun e=>h.1 e.symm),ih _ h.2];simp
theorem PM (l:List UInt8):∀(cur r:List UInt8),(32:UInt8) ∉ l->eB cur (l++32::r)=if cur++l=[] then none else(eB [] r).map ((cur++l)::·):=by
 induction l with
 |nil=>intro cur r _;simp[eB]
 |cons c l ih=>
  intro cur r h;simp only[List.mem_cons,not_or]at h;rw[List.cons_append,eB,if_neg (fun e=>h.1 e.symm),ih _ _ h.2];simp
def iF:List (List UInt8)->List UInt8
 |[]=>[]
 |w::ws=>match ws with
  |[]=>w
  |_::_=>w++32::iF ws
theorem S6 (ws:List (List UInt8)) (A:ws≠[]) (hw:∀w∈ws,mI w):eB [] (iF ws)=some ws:=by
 induction ws with
 |nil=>exact absurd rfl A
 |cons w ws ih=>
  have h0:=hw w (by simp);cases ws with
  |nil=>rw[iF,LD _ _ h0.2.1,List.nil_append,if_neg h0.1]
  |cons v vs=>
   rw[iF];rw[PM _ _ _ h0.2.1,List.nil_append,if_neg h0.1,ih (by simp) (fun x hx=>hw x (by simp[hx]))];rfl
theorem NT (ws:List (List UInt8)) (hw:∀w∈ws,mI w):(10:UInt8) ∉ iF ws:=by
 induction ws with
 |nil=>simp[iF]
 |cons w ws ih=>
  have h0:=hw w (by simp);have ih':=ih (fun x hx=>hw x (by simp[hx]));cases ws with
  |nil=>rw[iF];exact h0.2.2
  |cons v vs=>
   rw[iF];simp only[List.mem_append,List.mem_cons,not_or];exact⟨h0.2.2,by decide,ih'⟩
def kP (ws:List (List UInt8)):List UInt8:=iF ws++[10]
def gB (L:aV):List UInt8:=L.flatMap kP
def nF (L:aV):Prop:=∀ws∈L,ws≠[]/\∀w∈ws,mI w
theorem TJ (a b:aV):gB (a++b)=gB a++gB b:=by simp[gB]
theorem nF.app {a b:aV} (ha:nF a) (hb:nF b):nF (a++b):=fun ws h=>(List.mem_append.1 h).elim (ha ws) (hb ws)
theorem VF (L:aV) (h:nF L):(dR [] (gB L)).map eI=L:=by
 induction L with
 |nil=>rfl
 |cons ws L ih=>
  have h0:=h ws (by simp);have e:gB (ws::L)=iF ws++10::gB L:=by simp[gB,kP]
  rw[e,A8 _ _ _ (NT ws h0.2),List.map_cons,ih (fun x hx=>h x (by simp[hx])),List.nil_append,eI,S6 ws h0.1 h0.2];rfl
def oV (n:aE):List (List UInt8):=match cP n.kind with
 |none=>[]
 |some r=>r.word::r.at_.map (fun i=>Lib.itoa (n.fld i))
mutual
def jO:aB->aV
 |.mk n body=>bif decide (n.kind=13) then [dE]::(gV body++[[dA]]) else [oV n]
def gV:List aB->aV
 |[]=>[]
 |l::r=>jO l++gV r
end
def oF (d:bI):aV:=(iQ::d.input.map Lib.itoa)::(gV d.lays++[[dV,eL d.loss]])
theorem FD (w:List UInt8) (ws:List (List UInt8)):iF (w::ws)=w++ws.flatMap (fun x=>32::x):=by
 induction ws generalizing w with
 |nil=>simp[iF]
 |cons v vs ih=>rw[iF,ih];simp
theorem T7 (n:aE) (l:List Nat):dS n l=(l.map (fun i=>Lib.itoa (n.fld i))).flatMap (fun x=>32::x):=by
 induction l with
 |nil=>rfl
 |cons i r ih=>rw[dS,ih];simp
theorem L0 (l:List Int):cZ l=(l.map Lib.itoa).flatMap (fun x=>32::x):=by
 induction l with
 |nil=>rfl
 |cons i r ih=>rw[cZ,ih];simp
theorem OB {k:Int} {r:bX} (h:cP k=some r):r∈bJ/\r.kind=k:=⟨List.mem_of_find?_eq_some h,by have:=List.find?_some h;simpa using this⟩
def DV (w:List UInt8):Bool:=!w.isEmpty&&!w.contains 32&&!w.contains 10
theorem pN {w:List UInt8} (h:DV w=true):mI w:=by simp[DV]at h;exact⟨h.1.1,h.1.2,h.2⟩
structure qE (r:bX):Prop where
 word:mI r.word
 find:pW r.word=some r
 noEnd:r.word≠dA
 noLoss:r.word≠dV
 noRes:r.word≠dE
 len:r.word.length<=9
 ats:r.at_.length<=5
 low:∀k,k<r.at_.length->0<=r.low.getD k 0
 high:∀k,k<r.at_.length->r.high.getD k 0<=4096
 ne13:r.kind≠13
theorem PK:∀r∈bJ,qE r:=by
 intro r hr;simp only[bJ,List.mem_cons,List.not_mem_nil,or_false]at hr;rcases hr with rfl|rfl|rfl|rfl|rfl|rfl|rfl|rfl|rfl|rfl|rfl|rfl<;>
  exact⟨pN (by decide),rfl,by decide,by decide,by decide,by decide,by decide,by decide,by decide,by decide⟩
theorem nQ {n:aE} {body:List aB} (h:fJ n body=true):∃r,cP n.kind=some r/\qE r/\r∈bJ/\r.kind=n.kind/\iL r n body=true:=by
 rw[fJ]at h;cases hr:cP n.kind with
 |none=>rw[hr]at h;cases h
 |some r=>
  rw[hr]at h;have:=OB hr;exact⟨r,rfl,PK r this.1,this.1,this.2,h⟩
theorem CZ {r:bX} {n:aE}:∀{m:Nat},r.fitsTo n m=true->∀k,k<m->r.fits n k=true
 |0,_,k,hk=>by omega
 |m+1,h,k,hk=>by
  rw[bX.fitsTo,Bool.and_eq_true]at h;by_cases e:k=m
  ·subst e;exact h.2
  ·exact CZ h.1 k (by omega)
theorem qP {r:bX} {n:aE} {body:List aB} (ho:iL r n body=true) (hr:qE r) (k:Nat) (hk:k<r.at_.length):r.low.getD k 0<=n.fld (r.at_.getD k 0)/\n.fld (r.at_.getD k 0)<=r.high.getD k 0/\0<=n.fld (r.at_.getD k 0)/\n.fld (r.at_.getD k 0)<=4096:=by rw[iL,Bool.and_eq_true]at ho;have:=CZ ho.1 k hk;rw[bX.fits,Bool.and_eq_true,decide_eq_true_eq,decide_eq_true_eq]at this;have h1:=hr.low k hk;have h2:=hr.high k hk;exact⟨this.1,this.2,by omega,by omega⟩
def qZ (r:bX) (n:aE):Nat->Nat->aE->aE
 |_,0,m=>m
 |k,c+1,m=>qZ r n (k+1) c (m.put (r.at_.getD k 0) (n.fld (r.at_.getD k 0)))
theorem BQ {r:bX} {n:aE} {body:List aB} (ho:iL r n body=true) (hr:qE r):∀(l:List Nat) (k:Nat) (m:aE),r.at_.drop k=l->kT r k (l.map fun i=>Lib.itoa (n.fld i)) m=some (qZ r n k l.length m)
 |[],k,m,_=>rfl
 |i::l,k,m,h=>by
  have hk:k<r.at_.length:=by
   rcases Nat.lt_or_ge k r.at_.length with h'|h'
   ·exact h'
   ·rw[List.drop_eq_nil_of_le h']at h;cases h
  have hi:r.at_.getD k 0=i:=by
   have:(r.at_.drop k)[0]?=some i:=by rw[h];rfl
   rw[List.getElem?_drop,Nat.add_zero]at this;rw[List.getD_eq_getElem?_getD,this];rfl
  have hd:r.at_.drop (k+1)=l:=by
   have:(r.at_.drop k).drop 1=l:=by rw[h];rfl
   rwa [List.drop_drop]at this
  have hf:=qP ho hr k hk;rw[hi]at hf;rw[List.map_cons,kT,zL _ _ _ hf.2.2.1 hf.2.2.2 hf.1 hf.2.1];simp only;rw[BQ ho hr l (k+1) _ hd,List.length_cons,qZ,hi]
theorem TR:∀r∈bJ,∀n:aE,n.kind=r.kind->gA n (r.made n r.at_.length)=true->qZ r n 0 r.at_.length {bN with kind:=r.kind}=n:=by
 intro r hr n hk hp;obtain⟨k,a,b,c,d,e,f,g⟩:=n;simp only[bJ,List.mem_cons,List.not_mem_nil,or_false]at hr;rcases hr with rfl|rfl|rfl|rfl|rfl|rfl|rfl|rfl|rfl|rfl|rfl|rfl<;>
  simp_all [qZ,aE.put,aE.fld,bN,gA,bX.made]
theorem I5 {n:aE} {body:List aB} (h:fJ n body=true):eH (oV n)=some n:=by obtain⟨r,hr,ok,hm,hk,ho⟩:=nQ h;rw[oV,hr];simp only;rw[eH];simp only[List.headD_cons,ok.find];rw[if_pos (by simp;omega),List.tail_cons,BQ ho ok r.at_ 0 _ (by simp),TR r hm n hk.symm];rw[iL,Bool.and_eq_true,Bool.and_eq_true]at ho;exact ho.2.2
theorem sY {n:aE} {body:List aB} (h:fJ n body=true):body=[]:=by obtain⟨r,hr,ok,hm,hk,ho⟩:=nQ h;rw[iL,Bool.and_eq_true,Bool.and_eq_true,decide_eq_true_eq]at ho;exact List.eq_nil_of_length_eq_zero ho.2.1
theorem EZ {n:aE} {body:List aB} (h:fJ n body=true):∃w ws,oV n=w::ws/\w≠dA/\w≠dV/\w≠dE/\(∀x∈w::ws,mI x):=by
 obtain⟨r,hr,ok,hm,hk,ho⟩:=nQ h;rw[oV,hr];refine⟨_,_,rfl,ok.noEnd,ok.noLoss,ok.noRes,fun x hx=>?_⟩;rcases List.mem_cons.1 hx with rfl|hx
 ·exact ok.word
 ·obtain⟨i,_,rfl⟩:=List.mem_map.1 hx;exact BP _
theorem R8 {n:aE} (hk:n.kind=13) (hp:gA n bN=true):{bN with kind:=13}=n:=by obtain⟨k,a,b,c,d,e,f,g⟩:=n;simp only at hk;simp only[bN,gA,Bool.and_eq_true]at hp;obtain⟨⟨⟨⟨⟨⟨h1,h2⟩,h3⟩,h4⟩,h5⟩,h6⟩,h7⟩:=hp;rw[hk,of_decide_eq_true h1,of_decide_eq_true h2,of_decide_eq_true h3,of_decide_eq_true h4,of_decide_eq_true h5,of_decide_eq_true h6,of_decide_eq_true h7];rfl
def yZ (t:aV):Prop:=∃w ws r,t=(w::ws)::r/\(w=dA\/w=dV)
def nT:Nat->Option (Nat->aV->Option (List aB×Nat×aV))
 |0=>none
 |d+1=>some (dU d)
theorem rC (d left:Nat) (rest:aV):dU d left rest=dW (nT d) rest.length left rest:=by cases d<;>rfl
mutual
theorem qB (deep:Nat) (left k:Int):∀l:aB,cD deep left l=some k->0<=left->0<=k/\k<left
 |.mk n body,h,h0=>by
  rw[cD]at h;cases h1:decide (left-1<0)with
  |true=>rw[h1]at h;cases h
  |false=>
   rw[h1]at h;have h1':¬left-1<0:=by simpa using h1
   cases h2:decide (n.kind=13)with
   |true=>
    rw[h2]at h;simp only[cond_false,cond_true]at h;cases h3:(decide (deep<4)&&gA n bN)with
    |false=>rw[h3]at h;cases h
    |true=>
     rw[h3]at h;have:=nS (deep+1) (left-1) k body h (by omega);omega
   |false=>
    rw[h2]at h;simp only[cond_false]at h;cases h3:fJ n body with
    |false=>rw[h3]at h;cases h
    |true=>rw[h3]at h;simp at h;omega
theorem nS (deep:Nat) (left k:Int):∀ls:List aB,bS deep left ls=some k->0<=left->0<=k/\k<=left
 |[],h,h0=>by rw[bS]at h;cases h;omega
 |l::r,h,h0=>by
  rw[bS]at h;cases h1:cD deep left l with
  |none=>rw[h1]at h;cases h
  |some j=>
   rw[h1]at h;have a:=qB deep left j l h1 h0;have b:=nS deep j k r h a.1;omega
end
theorem oK {deep:Nat} {left k:Int} {n:aE} {body:List aB} (h:cD deep left (.mk n body)=some k):¬left-1<0/\((n.kind=13/\deep<4/\{bN with kind:=13}=n/\bS (deep+1) (left-1) body=some k)\/(n.kind≠13/\fJ n body=true/\k=left-1)):=by
 rw[cD]at h;cases h1:decide (left-1<0)with
 |true=>rw[h1]at h;cases h
 |false=>
  rw[h1]at h;refine⟨by simpa using h1,?_⟩;cases h2:decide (n.kind=13)with
  |true=>
   rw[h2]at h;simp only[cond_false,cond_true]at h;cases A:(decide (deep<4)&&gA n bN)with
   |false=>rw[A]at h;cases h
   |true=>
    rw[A]at h;rw[Bool.and_eq_true,decide_eq_true_eq]at A;exact .inl ⟨by simpa using h2,A.1,R8 (by simpa using h2) A.2,h⟩
  |false=>
   rw[h2]at h;simp only[cond_false]at h;cases A:fJ n body with
   |false=>rw[A]at h;cases h
   |true=>rw[A]at h;simp at h;exact .inr ⟨by simpa using h2,rfl,h.symm⟩
theorem kH (inner:Option (Nat->aV->Option (List aB×Nat×aV))) (f left:Nat) (w:List UInt8) (ws:List (List UInt8)) (rest':aV):dW inner (f+1) left ((w::ws)::rest')=
  if w=dA\/w=dV then some ([],left,(w::ws)::rest')
    else if left=0 then none
    else if w=dE/\ws=[] then(match inner with
     |none=>none
     |some g=>match g (left-1) rest' with
      |none=>none
      |some (body,left2,rest2)=>match rest2 with
       |[]=>none
       |l2::rest3=>if l2=[dA] then(match dW inner f left2 rest3 with
         |none=>none
         |some (l,q)=>some (.mk {bN with kind:=13} body::l,q)) else none)
    else match eH (w::ws)with
     |none=>none
     |some n=>match dW inner f (left-1) rest' with
      |none=>none
      |some (l,q)=>some (.mk n []::l,q):=rfl
theorem PI (t:aV) (h:yZ t) (inner:Option (Nat->aV->Option (List aB×Nat×aV))) (f left:Nat) (hf:t.length<=f):dW inner f left t=some ([],left,t):=by
 obtain⟨w,ws,r,rfl,hw⟩:=h;cases f with
 |zero=>simp at hf
 |succ f=>rw[kH,if_pos hw]
mutual
theorem IZ (d deep:Nat) (left k:Int) (f:Nat) (rest:aV) (hd:d+deep=4) (h0:0<=left):∀l:aB,cD deep left l=some k->(jO l++rest).length<=f+1->
  dW (nT d) (f+1) left.toNat (jO l++rest)=match dW (nT d) f k.toNat rest with
   |none=>none
   |some (q,t)=>some (l::q,t)
 |.mk n body,h,hf=>by
  obtain⟨hl,⟨hk,D,hn,hb⟩|⟨hk,hb,rfl⟩⟩:=oK h
  ·cases d with
   |zero=>omega
   |succ d=>
    have e:jO (.mk n body)++rest=[dE]::(gV body++([[dA]]++rest)):=by rw[jO,hk];simp
    rw[e,kH,if_neg (by decide),if_neg (by omega),if_pos ⟨rfl,rfl⟩];have A:dU d (left.toNat-1) (gV body++([[dA]]++rest))=some (body,k.toNat,[[dA]]++rest):=by rw[rC,show left.toNat-1=(left-1).toNat by omega];exact xY d (deep+1) (left-1) k _ _ (by omega) (by omega) ⟨dA,[],rest,rfl,.inl rfl⟩ body hb (Zb _)
    simp only[List.cons_append,List.nil_append]at A ⊢;simp only[nT,A,if_true];rw[hn]
  ·obtain⟨w,ws,B,h1,h2,h3,_⟩:=EZ hb;have e:jO (.mk n body)++rest=(w::ws)::rest:=by rw[jO,show decide (n.kind=13)=false by simpa using hk,B];rfl
   have C:=I5 hb;rw[B]at C;rw[e,kH,if_neg (by intro hh;exact hh.elim h1 h2),if_neg (by omega),if_neg (fun hh=>h3 hh.1),C,sY hb,show left.toNat-1=(left-1).toNat by omega]
theorem xY (d deep:Nat) (left k:Int) (f:Nat) (t:aV) (hd:d+deep=4) (h0:0<=left) (ht:yZ t):∀ls:List aB,bS deep left ls=some k->(gV ls++t).length<=f->
  dW (nT d) f left.toNat (gV ls++t)=some (ls,k.toNat,t)
 |[],h,A=>by
  rw[bS]at h;cases h;exact PI t ht _ _ _ (by simpa [gV]using A)
 |l::r,h,A=>by
  rw[bS]at h;cases h1:cD deep left l with
  |none=>rw[h1]at h;cases h
  |some j=>
   rw[h1]at h;have hj:=qB deep left j l h1 h0;have B:1<=(jO l).length:=by
    cases l with
    |mk n body=>rw[jO];cases decide (n.kind=13)<;>simp
   rw[gV,List.append_assoc]at A ⊢;cases f with
   |zero=>rw[Zl]at A;omega
   |succ f=>
    rw[IZ d deep left j f (gV r++t) hd h0 l h1 A,xY d deep j k f t hd hj.1 ht r h (by rw[Zl]at A;omega)]
end
theorem EC {r:bX} {n:aE} {body:List aB} (ho:iL r n body=true) (hr:qE r):∀(l:List Nat) (k:Nat),r.at_.drop k=l->(dS n l).length<=5*l.length
 |[],k,_=>by simp[dS]
 |i::l,k,h=>by
  have hk:k<r.at_.length:=by
   rcases Nat.lt_or_ge k r.at_.length with h'|h'
   ·exact h'
   ·rw[List.drop_eq_nil_of_le h']at h;cases h
  have hi:r.at_.getD k 0=i:=by
   have:(r.at_.drop k)[0]?=some i:=by rw[h];rfl
   rw[List.getElem?_drop,Nat.add_zero]at this;rw[List.getD_eq_getElem?_getD,this];rfl
  have hd:r.at_.drop (k+1)=l:=by
   have:(r.at_.drop k).drop 1=l:=by rw[h];rfl
   rwa [List.drop_drop]at this
  have hf:=qP ho hr k hk;rw[hi]at hf;have h4:=DS _ hf.2.2.1 hf.2.2.2;have ih:=EC ho hr l (k+1) hd;rw[dS,List.length_cons,Zl,List.length_cons];omega
theorem AZ {n:aE} {body:List aB} (h:fJ n body=true):(kN n).length<=40:=by obtain⟨r,hr,ok,hm,hk,ho⟩:=nQ h;rw[kN,hr];simp only[bX.text,Zl,List.length_singleton];have h1:=EC ho ok r.at_ 0 (by simp);have h2:=ok.ats;have h3:=ok.len;omega
theorem OS {n:aE} {body:List aB} (h:fJ n body=true):kN n=kP (oV n):=by obtain⟨r,hr,ok,hm,hk,ho⟩:=nQ h;rw[kN,oV,hr];simp only[bX.text,kP,FD,T7]
mutual
theorem GZ (deep:Nat) (left k:Int):∀l:aB,cD deep left l=some k->jD l=gB (jO l)/\nF (jO l)/\((jD l).length:Int)+40*k<=40*left
 |.mk n body,h=>by
  obtain⟨hl,⟨hk,F,hn,hb⟩|⟨hk,hb,rfl⟩⟩:=oK h
  ·obtain⟨i1,i2,i3⟩:=qK (deep+1) (left-1) k body hb;rw[jD,jO,hk];simp only[decide_true,cond_true];refine⟨?_,?_,?_⟩
   ·have e:gB ([dE]::(gV body++[[dA]]))=kP [dE]++(gB (gV body)++kP [dA]):=by simp[gB]
    rw[e,<-i1];simp[kP,iF]
   ·intro ws A;rcases List.mem_cons.1 A with rfl|A
    ·exact⟨by simp,fun w hw=>by rw[List.mem_singleton.1 hw];exact pN (by decide)⟩
    ·rcases List.mem_append.1 A with A|A
     ·exact i2 ws A
     ·rw[List.mem_singleton.1 A];exact⟨by simp,fun w hw=>by rw[List.mem_singleton.1 hw];exact pN (by decide)⟩
   ·simp only[Zl,dE,dA,List.length_cons,List.length_nil];omega
  ·have E:=AZ hb;have B:=OS hb;obtain⟨w,ws,C,_,_,_,D⟩:=EZ hb;rw[jD,jO,show decide (n.kind=13)=false by simpa using hk];simp only[cond_false];refine⟨by rw[B];simp[gB],?_,by omega⟩;intro x hx;rw[List.mem_singleton.1 hx,C];exact⟨by simp,D⟩
theorem qK (deep:Nat) (left k:Int):∀ls:List aB,bS deep left ls=some k->cN ls=gB (gV ls)/\nF (gV ls)/\((cN ls).length:Int)+40*k<=40*left
 |[],h=>by
  rw[bS]at h;cases h;refine⟨rfl,fun x hx=>?_,by simp[cN]⟩;rw[gV]at hx;cases hx
 |l::r,h=>by
  rw[bS]at h;cases h1:cD deep left l with
  |none=>rw[h1]at h;cases h
  |some j=>
   rw[h1]at h;obtain⟨i1,i2,i3⟩:=GZ deep left j l h1;obtain⟨j1,j2,j3⟩:=qK deep j k r h;rw[cN,gV,TJ,<-i1,<-j1];refine⟨rfl,i2.app j2,?_⟩;rw[Zl];omega
end
theorem TW (l:List Int) (h:l.all cC=true):gE (l.map Lib.itoa)=some l:=by
 induction l with
 |nil=>rfl
 |cons x r ih=>
  rw[List.all_cons,Bool.and_eq_true,cC,Bool.and_eq_true,decide_eq_true_eq,decide_eq_true_eq]at h;rw[List.map_cons,gE,zL x 1 4096 (by omega) h.1.2 h.1.1 h.1.2];simp only;rw[ih h.2];rfl
theorem SO (l:List Int) (h:l.all cC=true):(cZ l).length<=5*l.length:=by
 induction l with
 |nil=>simp[cZ]
 |cons x r ih=>
  rw[List.all_cons,Bool.and_eq_true,cC,Bool.and_eq_true,decide_eq_true_eq,decide_eq_true_eq]at h;have:=DS x (by omega) h.1.2;have:=ih h.2;rw[cZ,List.length_cons,Zl,List.length_cons];omega
theorem nG {d:bI} (h:dM d=true):1<=d.input.length/\d.input.length<=3/\d.input.all cC=true/\(d.loss=1\/d.loss=2)/\∃k,bS 0 64 d.lays=some k:=by simp only[dM,mJ,kO,Bool.and_eq_true,Bool.or_eq_true,decide_eq_true_eq]at h;exact⟨h.1.1.1.1,h.1.1.1.2,h.1.1.2,h.1.2,Option.isSome_iff_exists.1 h.2⟩
theorem DR (k:Int):(eL k).length<=6:=by rw[eL];cases decide (k=1)<;>decide
theorem F6 (k:Int):mI (eL k):=by rw[eL];cases decide (k=1)<;>exact pN (by decide)
theorem KO (k:Int) (h:k=1\/k=2):kK (eL k)=some k:=by rcases h with rfl|rfl<;>decide
theorem oU {d:bI} (h:dM d=true):dB d=gB (oF d)/\nF (oF d)/\(dB d).length<=2600:=by
 obtain⟨h1,h2,h3,h4,k,hk⟩:=nG h;obtain⟨i1,i2,i3⟩:=qK 0 64 k d.lays hk;have C:=(nS 0 64 k d.lays hk (by omega)).1;refine⟨?_,?_,?_⟩
 ·have e:gB (oF d)=kP (iQ::d.input.map Lib.itoa)++(gB (gV d.lays)++kP [dV,eL d.loss]):=by simp[gB,oF]
  rw[e,<-i1,dB,kP,FD,<-L0,kP,iF,iF];simp
 ·intro ws A;rw[oF]at A;rcases List.mem_cons.1 A with rfl|A
  ·refine⟨by simp,fun w B=>?_⟩;rcases List.mem_cons.1 B with rfl|B
   ·exact pN (by decide)
   ·obtain⟨x,_,rfl⟩:=List.mem_map.1 B;exact BP x
  ·rcases List.mem_append.1 A with A|A
   ·exact i2 ws A
   ·rw[List.mem_singleton.1 A];refine⟨by simp,fun w B=>?_⟩;simp only[List.mem_cons,List.not_mem_nil,or_false]at B;rcases B with rfl|rfl
    ·exact pN (by decide)
    ·exact F6 _
 ·have:=SO d.input h3;have:=DR d.loss;simp only[dB,Zl,iQ,dV,List.length_cons,List.length_nil];omega
theorem OY {d:bI} (h:dM d=true):gX (dB d)=some d:=by
 obtain⟨h1,h2,h3,h4,k,hk⟩:=nG h;obtain⟨e,ok,hl⟩:=oU h;have hw:eF (oF d)=some d:=by rw[oF,eF];rw[if_pos ⟨by simp;omega,by simp;omega,rfl⟩,List.tail_cons,TW _ h3];simp only;have:=xY 4 0 64 k _ [[dV,eL d.loss]] (by omega) (by omega) ⟨dV,[eL d.loss],[],rfl,.inr rfl⟩ d.lays hk (Zb _);rw[rC,show(64:Nat)=(64:Int).toNat from rfl,this];simp only;rw[if_pos ⟨rfl,rfl⟩];simp only[List.getD_cons_succ,List.getD_cons_zero,KO d.loss h4,Option.map_some]
 have A:(dB d).getLast?=some 10:=by rw[dB,List.getLast?_append];rfl
 rw[gX,if_neg (by omega),A,e,VF _ ok,hw];rfl
