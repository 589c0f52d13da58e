/- A part of the proof. -/
import Derived.Test.YtjhkdocidcfpdaaGreatDoorEN32
set_option linter.unusedVariables false
set_option linter.unusedSimpArgs false
set_option maxRecDepth 100000
set_option maxHeartbeats 16000000
namespace Go.Proofs.YtjhkdocidcfpdaaGreatDoor
open Go.RowKit Go.Shelf Go
theorem zW (a b:Nat) (k:Nat):(a^^^b) / 2^k=a / 2^k^^^b / 2^k:=by rw[<-Nat.shiftRight_eq_div_pow,<-Nat.shiftRight_eq_div_pow,<-Nat.shiftRight_eq_div_pow,Nat.shiftRight_xor_distrib]
theorem FV (a b:Nat) (k:Nat):(a^^^b)%2^k=a%2^k^^^b%2^k:=by apply Nat.eq_of_testBit_eq;intro i;simp only[Nat.testBit_mod_two_pow,Nat.testBit_xor];by_cases h:i<k<;>simp[h]
theorem Q7 (x y:Nat):kD (x^^^y)=kD x^^^kD y:=by
 have hd:(x^^^y) / 2=x / 2^^^y / 2:=zW x y 1;have hm:(x^^^y)%2=x%2^^^y%2:=FV x y 1;unfold kD;rw[hd,hm];rcases Nat.mod_two_eq_zero_or_one x with hx|hx<;>rcases Nat.mod_two_eq_zero_or_one y with hy|hy<;>rw[hx,hy]
 ·rfl
 ·show(x / 2^^^y / 2)^^^3988292384=x / 2^^^(y / 2^^^3988292384)
  rw[Nat.xor_assoc]
 ·show(x / 2^^^y / 2)^^^3988292384=(x / 2^^^3988292384)^^^y / 2
  rw[Nat.xor_assoc,Nat.xor_assoc,Nat.xor_comm (y / 2)]
 ·show(x / 2^^^y / 2)=(x / 2^^^3988292384)^^^(y / 2^^^3988292384)
  rw[Nat.xor_assoc,Nat.xor_comm (y / 2) 3988292384,<-Nat.xor_assoc 3988292384,Nat.xor_self,Nat.zero_xor]
theorem MD (n x y:Nat):eX n (x^^^y)=eX n x^^^eX n y:=by
 induction n generalizing x y with
 |zero=>rfl
 |succ n ih=>rw[eX,Q7,ih];rfl
theorem RT:iV [49,50,51,52,53,54,55,56,57]=3421780262:=by decide+kernel
theorem xF (l:List Int) (hl:∀x∈l,0<=x/\x<256):iV l<4294967296:=
 Nat.xor_lt_two_pow (n:=32) (rN _ l (by omega) hl) (by omega)
attribute [local go_sem] Oper.semAt_some
abbrev KE (p:Fin 256):Array Value:=#[.int .i64 (p.1:Nat),.int .u32 (kX p.1:Nat)]
def lN (k:Nat):List (Fin 256):=(List.finRange 256).take k
theorem UL (k:Nat) (h:k<256):lN (k+1)=lN k++[⟨k,h⟩]:=by unfold lN;rw[List.take_succ_eq_append_getElem (by simpa using h)];simp
theorem QS (k:Nat) (h:k<=256):(lN k).length=k:=by simp[lN];omega
theorem PE:lN 256=List.finRange 256:=by unfold lN;exact List.take_of_length_le (by simp)
theorem EY (x m k:Nat) (hx:x<4294967296) (he:Hid (x=eX m k)) (h:(bits BinOp.and IntKind.u32 (↑x) 1==1)=true):
  bits BinOp.xor IntKind.u32 (↑x / 2) 3988292384=↑(eX (m+1) k):=by have h1:bits BinOp.and IntKind.u32 (↑x) (1:Int)=((x&&& 1:Nat):Int):=u32_and_nat x 1 hx (by omega);have h2:bits BinOp.xor IntKind.u32 ((x:Int) / 2) (3988292384:Int)=(((x / 2)^^^3988292384:Nat):Int):=u32_xor_nat (x / 2) 3988292384 (by omega) (by omega);rw[h1,nat_mask1]at h;rw[h2,FQ,<-he.o,kD,if_pos (by simp at h;omega)]
theorem FT (x m k:Nat) (hx:x<4294967296) (he:Hid (x=eX m k)) (h:(bits BinOp.and IntKind.u32 (↑x) 1==1)=false):
  ((x:Int) / 2)=↑(eX (m+1) k):=by have h1:bits BinOp.and IntKind.u32 (↑x) (1:Int)=((x&&& 1:Nat):Int):=u32_and_nat x 1 hx (by omega);rw[h1,nat_mask1]at h;rw[FQ,<-he.o,kD,if_neg (by simp at h;omega)];omega
theorem MI (F:Fence) (n:Nat) (h5:F.fn 98) (C:F.round=none) (hn:1<=n) (w:World):
  SeqStopsA F n Tryz.prog 98 #[] KE (fun xs=>xs=lN 256) (fun _=>True) 256 w:=fun l J Jx W _ _ _ hY h0=>by
 refine callsIn_of_wp Tryz.func98 rfl h5 ?_ C;simp only[Tryz.ntmps98,List.size_toArray,List.length_cons,List.length_nil,Nat.reduceAdd,Nat.reduceSub,Array.replicate_succ,Array.replicate_zero,List.push_toArray,List.append_toArray,List.nil_append,List.cons_append];have H:=Za hY;clear hY
 gi_wp2
 gi_loopw [2,5] (fun _ i wr=>∃k:Nat,k<=256/\i=.int .i64 k/\J (lN k) wr) (fun _ i _=>256-(intOf i).toNat)
 case atStart=>exact⟨0,by omega,rfl,h0⟩
 case round=>
  obtain⟨k,hk,rfl,hJ⟩:=hrel;have D:=Za hJ;clear hJ h0;by_cases A:k<256
  ·gi_wp2
   gi_loop [3,10] (fun x j=>∃m:Nat,m<=8/\j=.int .i64 m/\x=.int .u32 (eX m k:Nat)) (fun _ j=>8-(intOf j).toNat)
   case atStart=>exact⟨0,by omega,rfl,rfl⟩
   case round=>
    obtain⟨m,hm,rfl,rfl⟩:=hrel;have hx:=vG m k (by omega);obtain⟨x,B⟩:=Zx (eX m k);rw[<-B]at hx ⊢;have he:=Za B;clear B;by_cases E:m<8
    ·gi_wp2
     ·go_round
      case rel=>exact⟨m+1,by omega,by go_num,by rw[EY x m k hx he (by assumption)]⟩
      case measure=>simp[intOf];omega
     ·go_round
      case rel=>exact⟨m+1,by omega,by go_num,by rw[FT x m k hx he (by assumption)]⟩
      case measure=>simp[intOf];omega
    ·have e8:m=8:=by omega
     have ht:x=kX k:=by rw[he.o,e8];rfl
     clear e8;subst ht;obtain⟨fn,tmps,assign,body,hy,hR⟩:=H.o (lN k) ⟨k,A⟩ wr D.o (by rw[QS k (by omega)];exact A);have G:=Za hR;clear hR
     gi_wp2
     refine G.o.mono ?_;clear G hy;rintro e W' (⟨rfl,hJ',_⟩|⟨rfl,hJx'⟩)
     ·have HJ':=Za hJ';clear hJ'
      gi_wp2
      go_roundw
      case rel=>exact⟨k+1,by omega,by go_num,by rw[UL k A];exact HJ'.o⟩
      case measure=>simp[intOf];omega
     ·have HJx':=Za hJx';clear hJx'
      gi_wp2
      refine bodyPost_ret (results_none rfl _ _ _) rfl ?_;exact⟨⟨_,rfl⟩,.inr ⟨_,trivial,HJx'.o⟩⟩
  ·obtain rfl:k=256:=by omega
   gi_wp2
   go_end0;exact⟨⟨_,rfl⟩,.inl ⟨_,rfl,D.o⟩⟩
theorem SG (F:Fence) (n:Nat) (hF:F.fn 42) (A:F.round=none) (w:World):
  CallsIn F n Tryz.prog 42 #[] w fun e w'=>e=.returned (.func (.func 98) #[] #[])/\w=w':=by
 refine callsIn_of_wp Tryz.func42 rfl hF ?_ A;simp only[Tryz.ntmps42,List.size_toArray,List.length_cons,List.length_nil,Nat.reduceAdd,Nat.reduceSub,Array.replicate_succ,Array.replicate_zero,List.push_toArray,List.append_toArray,List.nil_append,List.cons_append]
 gi_wp2
 go_ret;exact⟨rfl,rfl⟩
theorem SH (n y:Nat):eX n (y*2^n)=y:=by
 induction n generalizing y with
 |zero=>simp[eX]
 |succ n ih=>
  have e:kD (y*2^n*2)=y*2^n:=by unfold kD;rw[if_neg (by omega)];omega
  rw[eX,Nat.pow_succ,<-Nat.mul_assoc,e,ih]
theorem P0 (s:Nat):(s / 256*256)^^^(s%256)=s:=by have h1:=zW (s / 256*256) (s%256) 8;have h2:=FV (s / 256*256) (s%256) 8;rw[show(2:Nat)^8=256 from rfl]at h1 h2;rw[Nat.mul_div_cancel _ (by decide),Nat.div_eq_of_lt (Nat.mod_lt _ (by decide)),Nat.xor_zero]at h1;rw[Nat.mul_mod_left,Nat.mod_mod,Nat.zero_xor]at h2;omega
theorem VL (s c:Nat):eX 8 (s^^^c)=oY s c:=by
 have e:s^^^c=(s / 256*256)^^^(s%256^^^c):=by rw[<-Nat.xor_assoc,P0]
 have h:=SH 8 (s / 256);rw[show(2:Nat)^8=256 from rfl]at h;rw[e,MD,h];rfl
theorem JQ (v:Value) (xs:List Int) (w:World) (hr:Rd w .u8 v xs) (hw:Wf .u8 xs) (hl:xs.length<=140737488351232):
  Calls Tryz.prog 7 #[v] w fun e w'=>e=.returned (.int .u32 (iV xs:Nat))/\w=w':=by
 obtain⟨o,cap,rfl,hc⟩:=hr;have L:=Za hc;have I:=Za hw;clear hc hw;go_enter Tryz.func7,Tryz.ntmps7;go_wp2;go_loop[3,4] (fun s i=>∃k:Nat,k<=xs.length/\i=.int .i64 k/\s=.int .u32 (hO 4294967295 (xs.take k):Nat)) (fun _ i=>xs.length-(intOf i).toNat)
 case atStart=>exact⟨0,Ze _,rfl,rfl⟩
 case round=>
  obtain⟨k,hk,rfl,rfl⟩:=hrel;by_cases C:k<xs.length
  ·obtain⟨b,off,rfl,A⟩:=L.o k C;have hc:=kQ (I.o.nth k C);have hS:hO 4294967295 (xs.take k)<4294967296:=rN _ _ (by omega) fun x B=>kQ (I.o.take k x B);have D:=FY 4294967295 (xs.take k) (aF xs k);rw[<-fG xs k C]at D;obtain⟨S,F⟩:=Zx (hO 4294967295 (xs.take k));rw[<-F]at hS D ⊢;obtain⟨c,G⟩:∃c:Nat,aF xs k=c:=⟨(aF xs k).toNat,by omega⟩;rw[G]at A hc D;have B:bits BinOp.xor IntKind.u32 (S:Int) (c:Int)=((S^^^c:Nat):Int):=u32_xor_nat S c hS (by omega);rw[Int.toNat_natCast,<-VL]at D;have hY:S^^^c<4294967296:=Nat.xor_lt_two_pow (n:=32) (by omega) (by omega);obtain⟨Y,H⟩:=Zx (S^^^c);rw[<-H]at B D hY;have M:=Za D;clear F G D H hS;go_wp2;clear B A;go_loop[3,5] (fun x j=>∃m:Nat,m<=8/\j=.int .i64 m/\x=.int .u32 (eX m Y:Nat)) (fun _ j=>8-(intOf j).toNat)
   case atStart=>exact⟨0,by omega,rfl,rfl⟩
   case round=>
    obtain⟨m,hm,rfl,rfl⟩:=hrel;have B:=vG m Y hY;obtain⟨x,E⟩:=Zx (eX m Y);rw[<-E]at B ⊢;have he:=Za E;clear E;by_cases J:m<8
    ·go_wp2
     ·go_round
      case rel=>exact⟨m+1,by omega,by go_num,by rw[EY x m Y B he (by assumption)]⟩
      case measure=>simp[intOf];omega
     ·go_round
      case rel=>exact⟨m+1,by omega,by go_num,by rw[FT x m Y B he (by assumption)]⟩
      case measure=>simp[intOf];omega
    ·have e8:m=8:=by omega
     have ht:x=hO 4294967295 (xs.take (k+1)):=by rw[he.o,e8,M.o]
     clear e8;go_wp2;go_round
     case rel=>exact⟨k+1,by omega,by go_num,by rw[ht]⟩
     case measure=>simp[intOf];omega
  ·obtain rfl:k=xs.length:=by omega
   have hS:hO 4294967295 xs<4294967296:=rN _ _ (by omega) fun x B=>kQ (I.o x B);have he:bits BinOp.xor IntKind.u32 IntKind.u32.max ↑(hO 4294967295 xs)=((iV xs:Nat):Int):=by
    show bits BinOp.xor IntKind.u32 ((4294967295:Nat):Int) _=_
    rw[u32_xor_nat _ _ (by omega) hS,Nat.xor_comm];rfl
   rw[List.take_length];go_wp2;go_ret;exact⟨rfl,rfl⟩
theorem RO (s:aT) (vi vl vp vm vv vr vc:Value) (w:World) (hr:dN w s vi vl vp vm vv vr vc) (G:∀o n c,vi=.slice o n c->n<=c) (b:Bool) (D:b=cX s):
  Calls Tryz.prog 21 #[.agg (cG s vi vl vp vm vv vr vc)] w fun e w'=>e=.returned (.int .i64 (if b then 0 else 1))/\Below w.heap.size w w':=by
 have E:=Za (fun(W:World) (D:Below w.heap.size w W)=>tZ s vi vl vp vm vv vr vc W (hr.next D) G);rw[<-D]at E;obtain⟨CVX,A⟩:=Zx (cG s vi vl vp vm vv vr vc);have C:(Tryz.prog.info? 47).map (·.size)=some CVX.size:=by rw[A];kernel_rfl
 obtain⟨W,hW⟩:=Zx (w.alloc (.cells CVX 47));have H:Below w.heap.size w W:=by rw[hW];exact(Zc _ _).alloc (Zb _) _
 have B:W.heap[w.heap.size]?=some (.cells CVX 47 (0,0)):=by rw[hW];exact aA.new _ _ _
 have F:=Za H;have J:=Za hW;rw[<-A]at E ⊢;rw[hW]at B;clear hr G D H hW A;go_enter Tryz.func21,Tryz.ntmps21;go_wp2_with(first|(refine wpList_load_row rfl 47 _ rfl w.heap.size rfl 47 CVX (0,0) _ B Tryz.underlying47 rfl C ?_)|(go_at_call 28;rw[<-J.o];refine(E.o _ F.o).mono ?_;rintro e w1 ⟨rfl,D⟩;refine aD ?_));have I:=Za (F.o.trans (D.mono F.o.size));clear D B C;cases b with
 |true=>
  refine aC ?_;go_wp2_with fail;go_ret;exact⟨rfl,I.o⟩
 |false=>
  refine aC ?_;go_wp2_with fail;go_ret;exact⟨rfl,I.o⟩
theorem UM (s:aT) (vi vl vp vm vv vr vc:Value) (w:World) (hr:dN w s vi vl vp vm vv vr vc) (F:∀o n c,vi=.slice o n c->n<=c) (hg:cX s=false):
  Calls Tryz.prog 14 #[.agg (cG s vi vl vp vm vv vr vc)] w fun e w'=>e=.returned (.tuple #[.slice none 0 0,.int .i64 1])/\Below w.heap.size w w':=by
 have D:=Za (fun(W:World) (hb:Below w.heap.size w W)=>tZ s vi vl vp vm vv vr vc W (hr.next hb) F);rw[hg]at D;obtain⟨CVX,A⟩:=Zx (cG s vi vl vp vm vv vr vc);have C:(Tryz.prog.info? 47).map (·.size)=some CVX.size:=by rw[A];kernel_rfl
 obtain⟨W,hW⟩:=Zx (w.alloc (.cells CVX 47));have G:Below w.heap.size w W:=by rw[hW];exact(Zc _ _).alloc (Zb _) _
 have B:W.heap[w.heap.size]?=some (.cells CVX 47 (0,0)):=by rw[hW];exact aA.new _ _ _
 have E:=Za G;have I:=Za hW;rw[<-A]at D ⊢;rw[hW]at B;clear hr F hg G hW A;go_enter Tryz.func14,Tryz.ntmps14;go_wp2_with(first|(refine wpList_load_row rfl 47 _ rfl w.heap.size rfl 47 CVX (0,0) _ B Tryz.underlying47 rfl C ?_)|(go_at_call 28;rw[<-I.o];refine(D.o _ E.o).mono ?_;rintro e w1 ⟨rfl,hb⟩;refine aD ?_));have H:=Za (E.o.trans (hb.mono E.o.size));clear hb B C;refine aC ?_;go_wp2_with fail;go_ret2;exact⟨rfl,H.o⟩
structure aZ (R n:Nat) (a b:World):Prop where
 size:a.heap.size<=b.heap.size
 block:∀k,k<a.heap.size->k≠R->k≠n->b.heap[k]?=a.heap[k]?
theorem aZ.refl (R n:Nat) (a:World):aZ R n a a:=⟨Zb _,fun _ _ _ _=>rfl⟩
theorem aZ.trans {R n:Nat} {a b c:World} (h:aZ R n a b) (k:aZ R n b c):aZ R n a c:=⟨Nat.le_trans h.size k.size,fun i hi h1 h2=>(k.block i (Nat.lt_of_lt_of_le hi h.size) h1 h2).trans (h.block i hi h1 h2)⟩
theorem aZ.of_moved {R n:Nat} {a b:World} (h:bB a b R):aZ R n a b:=⟨h.size,fun k hk hR _=>gP h hk hR⟩
theorem aZ.of_below {R n:Nat} {a b:World} (h:Below a.heap.size a b):aZ R n a b:=⟨h.size,fun k hk _ _=>h.block k hk⟩
theorem aZ.set (R n:Nat) (a:World) (j:Nat) (v:Value):aZ R n a (a.setCell ⟨n,j,none⟩ v):=⟨by simp[World.setCell],fun k _ _ hn=>Below.heap_setCell _ _ _ _ (fun e=>hn (by simpa using e))⟩
theorem aI.keep {R n B:Nat} {a b:World} {P:World->Prop} (h:aI (aL B a) a P) (hk:aZ R n a b) (hR:R<B) (hn:n<B):aI (aL B b) b P:=
 (h.step fun k A=>hk.block k A.2 (by have:=A.1;omega) (by have:=A.1;omega)).mono fun k A=>⟨A.1,Nat.lt_of_lt_of_le A.2 hk.size⟩
structure bM (w0:World) (R:Nat) (rem:List Int) (cs:Array Value) (W:World):Prop where
 q:cV w0 W R rem
 box:aA W w0.heap.size 47 cs
theorem bM.ne {w0 W:World} {R:Nat} {rem:List Int} {cs:Array Value} (h:bM w0 R rem cs W):w0.heap.size≠R:=Nat.ne_of_gt h.q.lt
theorem bM.next {w0 W W':World} {R:Nat} {rem:List Int} {cs:Array Value} (h:bM w0 R rem cs W) (hb:Below W.heap.size W W'):bM w0 R rem cs W':=⟨h.q.low (hb.mono (h.q.moved.size)) (Zb _),h.box.next hb⟩
theorem bM.reader {w0 W W':World} {R:Nat} {rem rest:List Int} {cs:Array Value} (h:bM w0 R rem cs W) (hq:cV w0 W' R rest) (hm:bB W W' R):bM w0 R rest cs W':=⟨hq,(gP hm h.box.lt h.ne).trans h.box⟩
theorem bM.set {w0 W:World} {R:Nat} {rem:List Int} {cs:Array Value} (h:bM w0 R rem cs W) (j:Nat) (v:Value):bM w0 R rem (cs.setIfInBounds j v) (W.setCell ⟨w0.heap.size,j,none⟩ v):=
 ⟨h.q.low (B:=w0.heap.size) ((Zc _ _).setCell (p:=⟨w0.heap.size,j,none⟩) (Zb _) v) (Zb _),h.box.set j v⟩
theorem lX {w0 W:World} {R n:Nat} {rem rest:List Int} {cs:Array Value} {x:Nat} (h:bM w0 R rem cs W) (A:n<=8) (hp:bL n rem=some (x,rest)):
  Calls Tryz.prog 25 #[.pointer (some ⟨R,0,none⟩),.int .i64 n] W fun e w'=>e=.returned (.int .u64 (x:Nat))/\bM w0 R rest cs w'/\aZ R w0.heap.size W w':=
 (vF h.q A hp).mono fun e w' ⟨he,hq,hm⟩=>⟨he,h.reader hq hm,aZ.of_moved hm⟩
theorem mZ {w0 W:World} {R most:Nat} {rem rest:List Int} {cs:Array Value} {x:Nat} (h:bM w0 R rem cs W) (hm:most<=4294967296) (hp:cH most rem=some (x,rest)):
  Calls Tryz.prog 76 #[.pointer (some ⟨R,0,none⟩),.int .i64 most] W fun e w'=>e=.returned (.int .i64 (x:Nat))/\bM w0 R rest cs w'/\aZ R w0.heap.size W w':=
 (VD h.q hm hp).mono fun e w' ⟨he,hq,hm⟩=>⟨he,h.reader hq hm,aZ.of_moved hm⟩
theorem nL {w0 W:World} {R:Nat} {rem rest:List Int} {cs:Array Value} {x:Int} (h:bM w0 R rem cs W) (hp:bT 1 rem=some ([x],rest)):
  Calls Tryz.prog 78 #[.pointer (some ⟨R,0,none⟩),.int .i64 1] W fun e w'=>∃g c,e=.returned (.slice (some ⟨g,0,none⟩) 1 c)/\w'.cell? ⟨g,0,none⟩=some (.int .i64 x)/\W.heap.size<=g/\bM w0 R rest cs w'/\aZ R w0.heap.size W w':=
 (AD (n:=1) (m:=1) rfl h.q (by omega) hp).mono fun e w' ⟨⟨v,he,ho⟩,hq,hm⟩=>by
  obtain⟨g,c,rfl,hg,_⟩:=ho.at (by simp);exact⟨g,c,he,(aH.cell ho 0 (by simp)).1,hg,h.reader hq hm,aZ.of_moved hm⟩
theorem BZ {w0 W:World} {R n:Nat} {rem:List Int} {cs:Array Value} (h:bM w0 R rem cs W) (hn:n<=rem.length):
  Calls Tryz.prog 73 #[.pointer (some ⟨R,0,none⟩),.int .i64 n] W fun e w'=>∃v,e=.returned v/\Rd w' .u8 v (rem.take n)/\bM w0 R (rem.drop n) cs w'/\aZ R w0.heap.size W w':=
 (DZ R n rem W h.q.at_ hn (by have:=h.q.len;omega)).mono fun e w' ⟨v,he,hr,hq,hm⟩=>⟨v,he,hr,h.reader ⟨hq,sM h.q.wf n,by have:=h.q.len;rw[List.length_drop];omega,h.q.moved.trans hm,h.q.lt⟩ hm,aZ.of_moved hm⟩
theorem DE {w:World} {v:Value} {xs:List Int} (h:Rd w .u8 v xs) (h0:0<xs.length):uE v:=by obtain⟨o,cap,rfl,hc⟩:=h;obtain⟨b,off,rfl,_⟩:=hc 0 h0;exact .inr ⟨b,off,_,_,rfl⟩
theorem PJ {v:Value} {xs:List Int} {w:World} {d:bI} (hr:Rd w .u8 v xs) (hw:Wf .u8 xs) (hp:uE v) (hl:xs.length<=8192) (hd:gX (gR xs)=some d):
  Calls Tryz.prog 75 #[v] w fun e w'=>∃oi ci ol cl,e=.returned (.tuple #[.agg #[.slice oi d.input.length ci,.slice ol d.lays.length cl,.int .i64 d.loss],.int .i64 0,.int .i64 0])/\d.input.length<=ci/\aI (aL w.heap.size w') w' (fun W=>oL W (.slice oi d.input.length ci) (.slice ol d.lays.length cl) d)/\Below w.heap.size w w':=
 (UY v xs w hr hw hp hl).mono fun e w' ⟨hb,ho⟩=>by
  rw[hd]at ho;obtain⟨vi,vl,he,hc,hh⟩:=ho;obtain⟨oi,ci,rfl⟩:=aU hh.here.1.input;obtain⟨ol,cl,rfl⟩:=hh.here.1.lays.len;exact⟨oi,ci,ol,cl,he,hc _ _ _ rfl,hh,hb⟩
theorem NN {oi:Option Addr} {ci:Nat} {ol:Option Addr} {cl:Nat} {d:bI} {w:World} {ss:List (List Int)} (h:fZ w (.slice oi d.input.length ci) (.slice ol d.lays.length cl) d) (A:d.input.length<=ci) (hs:dT d=some ss):
  Calls Tryz.prog 77 #[.agg #[.slice oi d.input.length ci,.slice ol d.lays.length cl,.int .i64 d.loss]] w fun e w'=>∃os cs,e=.returned (.tuple #[.slice os ss.length cs,.bool true])/\ss.length<=1000/\gF w' (.slice os ss.length cs) ss/\(∀g,(Value.slice os ss.length cs).ownBlock=some g->w.heap.size<=g)/\Below w.heap.size w w':=
 (DT oi ci ol cl d w h A).mono fun e w' ⟨hb,ho⟩=>by
  rcases ho with⟨hn,_⟩|⟨v,ss',h1,h2,h3,h4,h5⟩
  ·rw[hs]at hn;cases hn
  ·rw[hs]at h1;cases h1;have h4':=h4;obtain⟨o,c,rfl,_⟩:=h4';exact⟨o,c,h3,h2,h4,h5,hb⟩
theorem yK {w6 W:World} {R n:Nat} {rem6:List Int} {cs cs6:Array Value} {v:Value} {ss:List (List Int)} (h6:nR R w6 v ss) (E:aA w6 n 47 cs6) (F:cT w6 R rem6) (hz:∀(j:Nat) (x:Int),cs6[j]?=some (.int .i64 x)->j≠0->x=0) (B:∀s∈ss,∀x∈s,x≠0) (hn:v.ownBlock≠some n) (hk:aZ R n w6 W) (hb:aA W n 47 cs) (h0:cs[0]?=cs6[0]?):nR R W v ss:=by
 refine⟨?_,h6.own⟩;have C:=h6.own;obtain⟨o,cap,rfl,hc⟩:=h6.rd;refine⟨o,cap,rfl,fun k hk'=>?_⟩;obtain⟨b,off,u,rfl,A,G⟩:=hc k hk';refine⟨b,off,u,rfl,(World.cell?_of_block (w:=w6) (a:=⟨b,off+k,none⟩) (hk.block b (aP A) (fun e=>C (by subst e;rfl)) (fun e=>hn (by subst e;rfl)))).trans A,?_⟩;obtain⟨ro,rn,rc,H⟩:=F.rbox;obtain⟨o',cap',rfl,I⟩:=G;refine⟨o',cap',rfl,fun j hj=>?_⟩;obtain⟨b',off',rfl,hc'⟩:=I j hj;refine⟨b',off',rfl,?_⟩;by_cases e:b'=R
 ·exfalso;subst e;rw[cell_of_row w6 b' (off'+j) _ _ _ H]at hc';rcases Nat.eq_zero_or_pos (off'+j)with h0|h0
  ·rw[h0]at hc';simp at hc'
  ·rw[Array.getElem?_eq_none (by simp;omega)]at hc';cases hc'
 ·by_cases e2:b'=n
  ·subst e2;rw[cell_of_row w6 b' (off'+j) _ _ _ E]at hc';have hx:=B _ (List.getElem_mem hk') _ (mS _ j hj);have D:off'+j=0:=Decidable.byContradiction fun h=>hx (hz _ _ hc' h);rw[cell_of_row W b' (off'+j) _ _ _ hb,D,h0,<-D];exact hc'
  ·exact(World.cell?_of_block (w:=w6) (a:=⟨b',off'+j,none⟩) (hk.block b' (aP hc') e e2)).trans hc'
theorem vC {w0 W:World} {R:Nat} {vl:Value} {ss:List (List Int)} {rem rest:List Int} {ts:List aO} {cs:Array Value} (h:bM w0 R rem cs W) (hs:nR R W vl ss) (B:∀s∈ss,bA s=true) (hl:ss.length<=1000) (hp:dH ss rem=some (ts,rest)):
  Calls Tryz.prog 79 #[.pointer (some ⟨R,0,none⟩),vl] W fun e w'=>∃o c,e=.returned (.slice o ts.length c)/\aI (aL (w0.heap.size+1) w') w' (fun W=>lP W (.slice o ts.length c) ts)/\bM w0 R rest cs w'/\aZ R w0.heap.size W w':=
 (KB R vl ss rem rest ts W ⟨h.q.at_,h.q.wf,h.q.len,bB.refl _ _,by have:=h.q.lt;have:=h.q.moved.size;omega⟩ hs B hl hp).mono fun e w' ⟨v,he,hh,A⟩=>by
  obtain⟨o,c,rfl⟩:=hh.here.1.slice;exact⟨o,c,he,hh.base (by have:=h.box.lt;omega),h.reader ⟨A.at_,A.wf,A.len,h.q.moved.trans A.moved,h.q.lt⟩ A.moved,aZ.of_moved A.moved⟩
theorem MF {n:Nat} {rem rest xs:List Int} (h:bT (n+1) rem=some (xs,rest)):∃x r ys,bT 1 rem=some ([x],r)/\bT n r=some (ys,rest)/\xs=x::ys:=by rw[nC,Option.bind_eq_some_iff]at h;obtain⟨p,h1,h⟩:=h;rw[Option.bind_eq_some_iff]at h;obtain⟨u,h2,h⟩:=h;rw[Option.map_eq_some_iff]at h;obtain⟨q,h3,h4⟩:=h;cases h4;exact⟨u,p.2,q.1,by rw[nC,h1,Option.bind_some,h2,Option.bind_some,qW];rfl,h3,rfl⟩
theorem nE {rem rest xs:List Int} (h:bT 1 rem=some (xs,rest)):∃x,xs=[x]:=by obtain⟨x,r,ys,h1,h2,h3⟩:=MF h;rw[qW]at h2;cases h2;exact⟨x,h3⟩
theorem mD {n:Nat} {rem a r:List Int} (h:jZ n rem=some (a,r)):n<=rem.length/\a=rem.take n/\r=rem.drop n:=by
 rw[jZ]at h;split at h
 ·cases h;exact⟨by assumption,rfl,rfl⟩
 ·cases h
theorem zH {rem r:List Int} {x:Nat} (h:bL 1 rem=some (x,r)) (hw:Wf .u8 rem:=by assumption):x<256:=by
 have:=(DC h (by omega) hw).2.1
 simpa using this
theorem N3 {rem rest:List Int} {s:aT} (h:m8 rem=some (s,rest)):∃(r1 r2 r3 r4 r5 r6 r7 r8 r9 r10 r11 r12 r13 r14 r15 r16 r17 r18 r19 r20 r21 r22 r23 r24 r25 r26 r27 r28:List Int) (f nt:Nat) (tx:List Int) (d:bI) (ss:List (List Int)) (kd sc:Nat) (y1 y2 y3 y4 y5 y6:Int) (ev:Nat) (ps:List aO) (pm pn:Int) (sp:Nat) (mm mv:List aO) (ns:Nat) (sr:List Int) (a0 a1 a2 a3 no:Nat) (od:List Int) (at_ ep:Nat),
  jZ 4 rem=some ([82,67,75,80],r1)/\True/\bL 1 r1=some (1,r2)/\bL 1 r2=some (f,r3)/\eE f=true/\cH 8192 r3=some (nt,r4)/\jZ nt r4=some (tx,r5)/\gX (gR tx)=some d/\dT d=some ss/\
  bL 1 r5=some (kd,r6)/\bL 1 r6=some (sc,r7)/\bT 1 r7=some ([y1],r8)/\bT 1 r8=some ([y2],r9)/\bT 1 r9=some ([y3],r10)/\bT 1 r10=some ([y4],r11)/\bT 1 r11=some ([y5],r12)/\bT 1 r12=some ([y6],r13)/\cH 1048576 r13=some (ev,r14)/\
  dH ss r14=some (ps,r15)/\bT 1 r15=some ([pm],r16)/\bT 1 r16=some ([pn],r17)/\cH 1048576 r17=some (sp,r18)/\
  ((((kd:Int)=2\/(kd:Int)=3)/\dH ss r18=some (mm,r19))\/(¬((kd:Int)=2\/(kd:Int)=3)/\mm=[]/\r19=r18))/\(((kd:Int)=3/\dH ss r19=some (mv,r20))\/(¬(kd:Int)=3/\mv=[]/\r20=r19))/\
  cH 4096 r20=some (ns,r21)/\fS ns r21=some (sr,r22)/\bL 8 r22=some (a0,r23)/\bL 8 r23=some (a1,r24)/\bL 8 r24=some (a2,r25)/\bL 8 r25=some (a3,r26)/\cH 1024 r26=some (no,r27)/\fW no r27=some (od,r28)/\
  (∃r29,cH 1024 r28=some (at_,r29)/\cH 1048576 r29=some (ep,rest))/\True/\
  s=⟨f,d,⟨kd,y1,y2,y3,y4,y5,y6,sc,ev⟩,ps,⟨mm,mv,pm,pn,sp⟩,⟨sr,a0,a1,a2,a3⟩,⟨od,at_,ep⟩⟩:=by
 rw[m8,Option.bind_eq_some_iff]at h;obtain⟨⟨mg,r1⟩,h1,h⟩:=h;dsimp only at h;by_cases aa:mg=[82,67,75,80];rotate_left
 ·rw[if_neg aa]at h;cases h
 subst aa;rw[if_pos rfl,Option.bind_eq_some_iff]at h;obtain⟨⟨v1,r2⟩,h2,h⟩:=h;dsimp only at h;by_cases hv:v1=1;rotate_left
 ·rw[if_neg hv]at h;cases h
 subst hv;rw[if_pos rfl,Option.bind_eq_some_iff]at h;obtain⟨⟨f,r3⟩,h3,h⟩:=h;dsimp only at h;by_cases hg:eE f=true;rotate_left
 ·rw[if_neg hg]at h;cases h
 rw[if_pos hg,st1,Option.bind_eq_some_iff]at h;obtain⟨⟨nt,r4⟩,h4,h⟩:=h;dsimp only at h;rw[Option.bind_eq_some_iff]at h;obtain⟨⟨tx,r5⟩,h5,h⟩:=h;dsimp only at h;rw[Option.bind_eq_some_iff]at h;obtain⟨d,hd,h⟩:=h;rw[Option.bind_eq_some_iff]at h;obtain⟨ss,V,h⟩:=h;rw[st2,Option.bind_eq_some_iff]at h;obtain⟨⟨kd,r6⟩,h6,h⟩:=h;dsimp only at h;rw[Option.bind_eq_some_iff]at h;obtain⟨⟨sc,r7⟩,h7,h⟩:=h;dsimp only at h;rw[st3,Option.bind_eq_some_iff]at h;obtain⟨⟨l1,r8⟩,J,h⟩:=h;dsimp only at h;rw[Option.bind_eq_some_iff]at h;obtain⟨⟨l2,r9⟩,L,h⟩:=h;dsimp only at h;rw[Option.bind_eq_some_iff]at h;obtain⟨⟨l3,r10⟩,M,h⟩:=h;dsimp only at h;rw[Option.bind_eq_some_iff]at h;obtain⟨⟨l4,r11⟩,N,h⟩:=h;dsimp only at h;rw[Option.bind_eq_some_iff]at h;obtain⟨⟨l5,r12⟩,O,h⟩:=h;dsimp only at h;rw[Option.bind_eq_some_iff]at h;obtain⟨⟨l6,r13⟩,P,h⟩:=h;dsimp only at h;rw[Option.bind_eq_some_iff]at h;obtain⟨⟨ev,r14⟩,X,h⟩:=h;dsimp only at h;obtain⟨y1,rfl⟩:=nE J;obtain⟨y2,rfl⟩:=nE L;obtain⟨y3,rfl⟩:=nE M;obtain⟨y4,rfl⟩:=nE N;obtain⟨y5,rfl⟩:=nE O;obtain⟨y6,rfl⟩:=nE P;rw[jQ,Option.bind_eq_some_iff]at h;obtain⟨⟨ps,r15⟩,Y,h⟩:=h;dsimp only at h;rw[Option.bind_eq_some_iff]at h;obtain⟨⟨l7,r16⟩,R,h⟩:=h;dsimp only at h;rw[Option.bind_eq_some_iff]at h;obtain⟨⟨l8,r17⟩,T,h⟩:=h;dsimp only at h;rw[Option.bind_eq_some_iff]at h;obtain⟨⟨sp,r18⟩,Z,h⟩:=h;dsimp only at h;obtain⟨pm,rfl⟩:=nE R;obtain⟨pn,rfl⟩:=nE T;have fin:∀(t:aT) (r20:List Int),st7 t r20=some (s,rest)->∃(r21 r22 r23 r24 r25 r26 r27 r28:List Int) (ns:Nat) (sr:List Int) (a0 a1 a2 a3 no:Nat) (od:List Int) (at_ ep:Nat),
   cH 4096 r20=some (ns,r21)/\fS ns r21=some (sr,r22)/\bL 8 r22=some (a0,r23)/\bL 8 r23=some (a1,r24)/\bL 8 r24=some (a2,r25)/\bL 8 r25=some (a3,r26)/\cH 1024 r26=some (no,r27)/\fW no r27=some (od,r28)/\
   (∃r29,cH 1024 r28=some (at_,r29)/\cH 1048576 r29=some (ep,rest))/\s={t with r:=⟨sr,a0,a1,a2,a3⟩,c:=⟨od,at_,ep⟩}:=by intro t r20 h;rw[st7,Option.bind_eq_some_iff]at h;obtain⟨⟨ns,r21⟩,A,h⟩:=h;dsimp only at h;rw[Option.bind_eq_some_iff]at h;obtain⟨⟨sr,r22⟩,B,h⟩:=h;dsimp only at h;rw[st8,Option.bind_eq_some_iff]at h;obtain⟨⟨a0,r23⟩,C,h⟩:=h;dsimp only at h;rw[Option.bind_eq_some_iff]at h;obtain⟨⟨a1,r24⟩,D,h⟩:=h;dsimp only at h;rw[Option.bind_eq_some_iff]at h;obtain⟨⟨a2,r25⟩,E,h⟩:=h;dsimp only at h;rw[Option.bind_eq_some_iff]at h;obtain⟨⟨a3,r26⟩,F,h⟩:=h;dsimp only at h;rw[st9,Option.bind_eq_some_iff]at h;obtain⟨⟨no,r27⟩,G,h⟩:=h;dsimp only at h;rw[Option.bind_eq_some_iff]at h;obtain⟨⟨od,r28⟩,H,h⟩:=h;dsimp only at h;rw[uC,Option.bind_eq_some_iff]at h;obtain⟨⟨at_,r29⟩,ac,h⟩:=h;dsimp only at h;rw[Option.map_eq_some_iff]at h;obtain⟨⟨ep,r30⟩,ad,h⟩:=h;simp only[Prod.mk.injEq]at h;obtain⟨hx,hy⟩:=h;subst hy;exact⟨r21,r22,r23,r24,r25,r26,r27,r28,ns,sr,a0,a1,a2,a3,no,od,at_,ep,A,B,C,D,E,F,G,H,⟨r29,ac,ad⟩,hx.symm⟩
 rw[st5]at h;dsimp only at h;by_cases hk:(kd:Int)=2\/(kd:Int)=3
 ·rw[if_pos hk,Option.bind_eq_some_iff]at h;obtain⟨⟨mm,r19⟩,ab,h⟩:=h;dsimp only at h;rw[st6]at h;dsimp only at h;by_cases U:(kd:Int)=3
  ·rw[if_pos U,Option.bind_eq_some_iff]at h;obtain⟨⟨mv,r20⟩,ae,h⟩:=h;dsimp only at h;obtain⟨r21,r22,r23,r24,r25,r26,r27,r28,ns,sr,a0,a1,a2,a3,no,od,at_,ep,A,B,C,D,E,F,G,H,I,he⟩:=fin _ _ h;exact⟨r1,r2,r3,r4,r5,r6,r7,r8,r9,r10,r11,r12,r13,r14,r15,r16,r17,r18,r19,r20,r21,r22,r23,r24,r25,r26,r27,r28,f,nt,tx,d,ss,kd,sc,y1,y2,y3,y4,y5,y6,ev,ps,pm,pn,sp,mm,mv,ns,sr,a0,a1,a2,a3,no,od,at_,ep,h1,trivial,h2,h3,hg,h4,h5,hd,V,h6,h7,J,L,M,N,O,P,X,Y,R,T,Z,.inl ⟨hk,ab⟩,.inl ⟨U,ae⟩,A,B,C,D,E,F,G,H,I,trivial,he⟩
  ·rw[if_neg U]at h;obtain⟨r21,r22,r23,r24,r25,r26,r27,r28,ns,sr,a0,a1,a2,a3,no,od,at_,ep,A,B,C,D,E,F,G,H,I,he⟩:=fin _ _ h;exact⟨r1,r2,r3,r4,r5,r6,r7,r8,r9,r10,r11,r12,r13,r14,r15,r16,r17,r18,r19,r19,r21,r22,r23,r24,r25,r26,r27,r28,f,nt,tx,d,ss,kd,sc,y1,y2,y3,y4,y5,y6,ev,ps,pm,pn,sp,mm,[],ns,sr,a0,a1,a2,a3,no,od,at_,ep,h1,trivial,h2,h3,hg,h4,h5,hd,V,h6,h7,J,L,M,N,O,P,X,Y,R,T,Z,.inl ⟨hk,ab⟩,.inr ⟨U,rfl,rfl⟩,A,B,C,D,E,F,G,H,I,trivial,he⟩
 ·rw[if_neg hk,st6]at h;dsimp only at h;rw[if_neg (fun e=>hk (.inr e))]at h;obtain⟨r21,r22,r23,r24,r25,r26,r27,r28,ns,sr,a0,a1,a2,a3,no,od,at_,ep,A,B,C,D,E,F,G,H,I,he⟩:=fin _ _ h;exact⟨r1,r2,r3,r4,r5,r6,r7,r8,r9,r10,r11,r12,r13,r14,r15,r16,r17,r18,r18,r18,r21,r22,r23,r24,r25,r26,r27,r28,f,nt,tx,d,ss,kd,sc,y1,y2,y3,y4,y5,y6,ev,ps,pm,pn,sp,[],[],ns,sr,a0,a1,a2,a3,no,od,at_,ep,h1,trivial,h2,h3,hg,h4,h5,hd,V,h6,h7,J,L,M,N,O,P,X,Y,R,T,Z,.inr ⟨hk,rfl,rfl⟩,.inr ⟨fun e=>hk (.inr e),rfl,rfl⟩,A,B,C,D,E,F,G,H,I,trivial,he⟩
inductive FR (rem rest:List Int):aT->Prop
 |mk (r1 r2 r3 r4 r5 r6 r7 r8 r9 r10 r11 r12 r13 r14 r15 r16 r17 r18 r19 r20 r21 r22 r23 r24 r25 r26 r27 r28:List Int) (f nt:Nat) (tx:List Int) (d:bI) (ss:List (List Int)) (kd sc:Nat) (y1 y2 y3 y4 y5 y6:Int) (ev:Nat) (ps:List aO) (pm pn:Int) (sp:Nat) (mm mv:List aO) (ns:Nat) (sr:List Int) (a0 a1 a2 a3 no:Nat) (od:List Int) (at_ ep:Nat) (h1:jZ 4 rem=some ([82,67,75,80],r1)) (h2:bL 1 r1=some (1,r2)) (h3:bL 1 r2=some (f,r3)) (hgf:eE f=true) (h4:cH 8192 r3=some (nt,r4)) (h5:jZ nt r4=some (tx,r5)) (hd:gX (gR tx)=some d) (hss:dT d=some ss) (h6:bL 1 r5=some (kd,r6)) (h7:bL 1 r6=some (sc,r7)) (hy1:bT 1 r7=some ([y1],r8)) (hy2:bT 1 r8=some ([y2],r9)) (hy3:bT 1 r9=some ([y3],r10)) (hy4:bT 1 r10=some ([y4],r11)) (hy5:bT 1 r11=some ([y5],r12)) (hy6:bT 1 r12=some ([y6],r13)) (hev:cH 1048576 r13=some (ev,r14)) (hps:dH ss r14=some (ps,r15)) (hpm:bT 1 r15=some ([pm],r16)) (hpn:bT 1 r16=some ([pn],r17)) (hsp:cH 1048576 r17=some (sp,r18)) (hmm:((((kd:Int)=2\/(kd:Int)=3)/\dH ss r18=some (mm,r19))\/(¬((kd:Int)=2\/(kd:Int)=3)/\mm=[]/\r19=r18))) (hmv:(((kd:Int)=3/\dH ss r19=some (mv,r20))\/(¬(kd:Int)=3/\mv=[]/\r20=r19))) (hns:cH 4096 r20=some (ns,r21)) (hsr:fS ns r21=some (sr,r22)) (ha0:bL 8 r22=some (a0,r23)) (ha1:bL 8 r23=some (a1,r24)) (ha2:bL 8 r24=some (a2,r25)) (ha3:bL 8 r25=some (a3,r26)) (hno:cH 1024 r26=some (no,r27)) (hod:fW no r27=some (od,r28)) (r29:List Int) (hat:cH 1024 r28=some (at_,r29)) (hep:cH 1048576 r29=some (ep,rest)):FR rem rest ⟨f,d,⟨kd,y1,y2,y3,y4,y5,y6,sc,ev⟩,ps,⟨mm,mv,pm,pn,sp⟩,⟨sr,a0,a1,a2,a3⟩,⟨od,at_,ep⟩⟩
theorem MS {rem rest:List Int} {s:aT} (h:m8 rem=some (s,rest)):FR rem rest s:=by obtain⟨r1,r2,r3,r4,r5,r6,r7,r8,r9,r10,r11,r12,r13,r14,r15,r16,r17,r18,r19,r20,r21,r22,r23,r24,r25,r26,r27,r28,f,nt,tx,d,ss,kd,sc,y1,y2,y3,y4,y5,y6,ev,ps,pm,pn,sp,mm,mv,ns,sr,a0,a1,a2,a3,no,od,at_,ep,h1,t1,h2,h3,A,h4,h5,hd,B,h6,h7,C,D,E,F,G,H,I,J,L,M,N,O,P,R,T,U,V,X,Y,Z,aa,⟨r29,ab,ac⟩,t2,rfl⟩:=N3 h;exact .mk r1 r2 r3 r4 r5 r6 r7 r8 r9 r10 r11 r12 r13 r14 r15 r16 r17 r18 r19 r20 r21 r22 r23 r24 r25 r26 r27 r28 f nt tx d ss kd sc y1 y2 y3 y4 y5 y6 ev ps pm pn sp mm mv ns sr a0 a1 a2 a3 no od at_ ep h1 h2 h3 A h4 h5 hd B h6 h7 C D E F G H I J L M N O P R T U V X Y Z aa r29 ab ac
end Go.Proofs.YtjhkdocidcfpdaaGreatDoor
namespace Go.Proofs.YtjhkdocidcfpdaaGreatDoor
open Go.RowKit Go.ChangeShapes Go.WideShapes
def eJ {H:Type} (enc:TypeId×Value->H) (P:Program) (w:World) (fuel:Nat) (t:TypeId) (cs:List Value):Prop:=
 ∃(d:DataW H) (pl:List MemPlace),DataW.trod enc P w 0 (fun _=>true) true fuel t cs=some (d,pl)/\∀n∈d.weights P t,n<=reachBytes
theorem RB.fuel {H:Type} {enc:TypeId×Value->H} {P:Program} {w:World} {t:TypeId} {cs:List Value} (h:RB enc P w t cs):∃f,eJ enc P w f t cs:=h
theorem eJ.rb {H:Type} {enc:TypeId×Value->H} {P:Program} {w:World} {f:Nat} {t:TypeId} {cs:List Value} (h:eJ enc P w f t cs):RB enc P w t cs:=⟨f,h⟩
theorem eJ.slice {H:Type} {enc:TypeId×Value->H} {P:Program} {w:World} {f:Nat} {t e:TypeId} {v:Value} (h:eJ enc P w f t [v]) (ht:P.underlying t=some (.slice e)):
  ∃o len cap,v=.slice o len cap/\len*P.bytesOf e<=reachBytes/\len<=cap/\∀i,i<len->∃n,n<f/\∃a cs,o=some a/\w.cells? 0 (a.add (i*P.cellsOf e)) (P.cellsOf e)=some cs/\eJ enc P w n e cs:=by
 obtain⟨d,pl,h,hw⟩:=h;rcases DataW.trod_slice ht h with⟨A,_⟩|⟨a,len,cap,elems,rest,n,rfl,A,hx,hb,hl,hm,E,B,_,_⟩
 ·simp at A;subst A;exact⟨none,0,0,rfl,by simp,by simp,fun i hi=>absurd hi (Nat.not_lt_zero _)⟩
 ·simp at A;subst A;injection hx with C F;subst C;have hw':∀m∈(DataW.slice (elems.map (·.1)) (rest.map (·.1))).weights P t,m<=reachBytes:=hw;simp only[DataW.weights,ht]at hw';refine⟨some a,len,cap,rfl,?_,hl,fun i hi=>?_⟩
  ·have:=hw' ((elems.length+rest.length)*P.bytesOf e) (by simp);exact Nat.le_trans (Nat.mul_le_mul_right _ (by omega)) this
  ·have hk:=B i hi;have hi':i<elems.length:=by omega
   rw[List.getElem?_eq_getElem hi',Option.bind_eq_some_iff]at hk;obtain⟨cs,h1,h2⟩:=hk;refine⟨n,Nat.lt_succ_self n,a,cs,rfl,h1,elems[i].1,elems[i].2,h2,fun m D=>hw' m ?_⟩;simp only[List.mem_cons,List.mem_append];exact .inr (.inl (wC (List.mem_map.2 ⟨elems[i],List.getElem_mem hi',rfl⟩) m D))
theorem eJ.field {H:Type} {enc:TypeId×Value->H} {P:Program} {w:World} {fu:Nat} {t:TypeId} {cs:List Value} {fs:Array Field} (h:eJ enc P w fu t cs) (ht:P.underlying t=some (.struct fs)):
  cs.length=P.cellsOf t/\∃n,n<fu/\∀(i:Nat) (f:Field),fs[i]?=some f->eJ enc P w n f.type ((cs.drop f.offset).take (P.cellsOf f.type)):=by
 obtain⟨d,pl,h,hw⟩:=h;obtain⟨xs,n,rfl,hx,hl,B,hf⟩:=DataW.trod_struct ht h;refine⟨hl,n,Nat.lt_succ_self n,fun i f hi=>?_⟩;have hk:=hf i f hi;have A:i<xs.length:=by rw[B];exact(Array.getElem?_eq_some_iff.1 hi).1
 rw[List.getElem?_eq_getElem A]at hk;refine⟨xs[i].1,xs[i].2,hk,fun n hn=>hw n ?_⟩;simp only[Prod.mk.injEq]at hx;rw[hx.1];simp only[DataW.weights,ht];refine xM (j:=i) (t:=f.type) (d:=xs[i].1) ?_ ?_ n hn
 ·rw[List.getElem?_map];simp[hi]
 ·simp[List.getElem?_eq_getElem A]
theorem eJ.rows {H:Type} {enc:TypeId×Value->H} {P:Program} {w:World} {f:Nat} {t e:TypeId} {v:Value} (h:eJ enc P w f t [v]) (ht:P.underlying t=some (.slice e)) (hc:0<P.cellsOf e):
  ∃o len cap,v=.slice o len cap/\len*P.bytesOf e<=reachBytes/\len<=cap/\∀i,i<len->∃n,n<f/\∃b off cs,o=some ⟨b,off,none⟩/\cs.length=P.cellsOf e/\eJ enc P w n e cs/\∀j v,cs[j]?=some v->w.cell? ⟨b,off+i*P.cellsOf e+j,none⟩=some v:=by
 obtain⟨o,len,cap,rfl,hr,C,A⟩:=h.slice ht;refine⟨o,len,cap,rfl,hr,C,fun i hi=>?_⟩;obtain⟨n,hn,a,cs,rfl,h1,h2⟩:=A i hi;obtain⟨n0,_,a0,cs0,e0,B,E⟩:=A 0 (by omega);simp at e0;subst e0;rw[Nat.zero_mul]at B;obtain⟨b,off,ha,_⟩:=pA B hc;have ha':a=⟨b,off,none⟩:=by simpa [Addr.add]using ha
 subst ha';rw[Addr.add_lit]at h1;obtain⟨b',off',ha,hl,D⟩:=pA h1 hc;simp at ha;obtain⟨rfl,rfl⟩:=ha;exact⟨n,hn,b,off,cs,rfl,hl,h2,D⟩
theorem kE:Tryz.prog.cellsOf 3=1:=by kernel_rfl
theorem uY:Tryz.prog.bytesOf 3=8:=by kernel_rfl
theorem lU:Tryz.prog.cellsOf 2=1:=by kernel_rfl
theorem K4:Tryz.prog.bytesOf 2=8:=by kernel_rfl
theorem DX:Tryz.prog.cellsOf 40=1:=by kernel_rfl
theorem VK:Tryz.prog.bytesOf 40=8:=by kernel_rfl
theorem CG:Tryz.prog.cellsOf 175=9:=by kernel_rfl
theorem KL:Tryz.prog.bytesOf 175=88:=by kernel_rfl
theorem CB:Tryz.prog.cellsOf 100=2:=by kernel_rfl
theorem O9:Tryz.prog.bytesOf 100=48:=by kernel_rfl
theorem uW:Tryz.prog.cellsOf 30=1:=by kernel_rfl
theorem NS:Tryz.prog.cellsOf 82=1:=by kernel_rfl
theorem R7:Tryz.prog.cellsOf 39=1:=by kernel_rfl
theorem E7:Tryz.prog.cellsOf 31=1:=by kernel_rfl
theorem xL:Tryz.prog.cellsOf 36=1:=by kernel_rfl
theorem list9 {α:Type} {l:List α} (h:l.length=9):∃a b c d e f g i j,l=[a,b,c,d,e,f,g,i,j]:=match l,h with|[a,b,c,d,e,f,g,i,j],_=>⟨a,b,c,d,e,f,g,i,j,rfl⟩
theorem eJ.layers {H:Type} {enc:TypeId×Value->H} {w:World} (f:Nat):∀{v:Value},eJ enc Tryz.prog w f 31 [v]->∃ls,bO w v ls/\ls.length<=140737488351232:=by
 induction f using Nat.strongRecOn with
 |_ f ih=>
  intro v h;obtain⟨o,len,cap,rfl,hr,_,E⟩:=h.rows Tryz.underlying31 (by rw[CG];omega);rw[KL]at hr;have key:∀i,i<len->∃l:aB,fR w o i l:=fun i hi=>by
   obtain⟨n,hn,b,off,cs,rfl,hl,F,A⟩:=E i hi;rw[CG]at hl A;obtain⟨_,n2,G,B⟩:=F.field Tryz.underlying175;obtain⟨v0,v1,v2,v3,v4,v5,v6,v7,v8,rfl⟩:=list9 hl;have g0:eJ enc Tryz.prog w n2 3 (([v0,v1,v2,v3,v4,v5,v6,v7,v8]:List Value).drop 0 |>.take (Tryz.prog.cellsOf 3)):=B 0 _ rfl;have g1:eJ enc Tryz.prog w n2 3 (([v0,v1,v2,v3,v4,v5,v6,v7,v8]:List Value).drop 1 |>.take (Tryz.prog.cellsOf 3)):=B 1 _ rfl;have g2:eJ enc Tryz.prog w n2 3 (([v0,v1,v2,v3,v4,v5,v6,v7,v8]:List Value).drop 2 |>.take (Tryz.prog.cellsOf 3)):=B 2 _ rfl;have g3:eJ enc Tryz.prog w n2 3 (([v0,v1,v2,v3,v4,v5,v6,v7,v8]:List Value).drop 3 |>.take (Tryz.prog.cellsOf 3)):=B 3 _ rfl;have g4:eJ enc Tryz.prog w n2 3 (([v0,v1,v2,v3,v4,v5,v6,v7,v8]:List Value).drop 4 |>.take (Tryz.prog.cellsOf 3)):=B 4 _ rfl;have g5:eJ enc Tryz.prog w n2 3 (([v0,v1,v2,v3,v4,v5,v6,v7,v8]:List Value).drop 5 |>.take (Tryz.prog.cellsOf 3)):=B 5 _ rfl;have g6:eJ enc Tryz.prog w n2 3 (([v0,v1,v2,v3,v4,v5,v6,v7,v8]:List Value).drop 6 |>.take (Tryz.prog.cellsOf 3)):=B 6 _ rfl;have g7:eJ enc Tryz.prog w n2 3 (([v0,v1,v2,v3,v4,v5,v6,v7,v8]:List Value).drop 7 |>.take (Tryz.prog.cellsOf 3)):=B 7 _ rfl;have g8:eJ enc Tryz.prog w n2 31 (([v0,v1,v2,v3,v4,v5,v6,v7,v8]:List Value).drop 8 |>.take (Tryz.prog.cellsOf 31)):=B 8 _ rfl;rw[kE]at g0 g1 g2 g3 g4 g5 g6 g7;rw[E7]at g8;obtain⟨x0,rfl,_⟩:=RB.int (v:=v0) g0.rb Tryz.underlying3;obtain⟨x1,rfl,_⟩:=RB.int (v:=v1) g1.rb Tryz.underlying3;obtain⟨x2,rfl,_⟩:=RB.int (v:=v2) g2.rb Tryz.underlying3;obtain⟨x3,rfl,_⟩:=RB.int (v:=v3) g3.rb Tryz.underlying3;obtain⟨x4,rfl,_⟩:=RB.int (v:=v4) g4.rb Tryz.underlying3;obtain⟨x5,rfl,_⟩:=RB.int (v:=v5) g5.rb Tryz.underlying3;obtain⟨x6,rfl,_⟩:=RB.int (v:=v6) g6.rb Tryz.underlying3;obtain⟨x7,rfl,_⟩:=RB.int (v:=v7) g7.rb Tryz.underlying3;obtain⟨body,⟨ob,cb,he,hb⟩,D⟩:=ih n2 (Nat.lt_trans G hn) (v:=v8) g8;subst he;refine⟨.mk ⟨x0,x1,x2,x3,x4,x5,x6,x7⟩ body,?_⟩;rw[fR];exact⟨b,off,ob,cb,rfl,D,fun j u hj=>A j u hj,hb⟩
  obtain⟨fn,I⟩:=Deep.choose_lt (α:=aB) key;have C:((List.range len).map fn).length=len:=by simp
  refine⟨(List.range len).map fn,⟨o,cap,by rw[C],cS.mk _ fun k hk=>?_⟩,by unfold reachBytes at hr;rw[C];omega⟩;have hk':k<len:=by rw[C]at hk;exact hk
  have:((List.range len).map fn)[k]=fn k:=by simp
  rw[this,Nat.zero_add];exact I k hk'
theorem RB.layers {H:Type} {enc:TypeId×Value->H} {w:World} {v:Value} (h:RB enc Tryz.prog w 31 [v]):∃ls,bO w v ls/\ls.length<=140737488351232:=by obtain⟨f,h⟩:=h.fuel;exact eJ.layers f h
theorem RB.tensors {H:Type} {enc:TypeId×Value->H} {w:World} {v:Value} (h:RB enc Tryz.prog w 36 [v]):∃ts,bD w v ts/\eR ts:=by
 obtain⟨o,len,cap,rfl,hr,D⟩:=h.rows Tryz.underlying36 (by rw[CB];omega);rw[O9]at hr;have key:∀i,i<len->∃t:aO,oC w o i t/\t.Lim:=fun i B=>by
  obtain⟨b,off,cs,rfl,hl,E,A⟩:=D i B;rw[CB]at hl A;obtain⟨_,hf⟩:=E.field Tryz.underlying100;obtain⟨v0,v1,rfl⟩:=qG hl;have g0:RB enc Tryz.prog w 30 (([v0,v1]:List Value).drop 0 |>.take (Tryz.prog.cellsOf 30)):=hf 0 _ rfl;have g1:RB enc Tryz.prog w 82 (([v0,v1]:List Value).drop 1 |>.take (Tryz.prog.cellsOf 82)):=hf 1 _ rfl;rw[uW]at g0;rw[NS]at g1;obtain⟨xs,a1,_,c1⟩:=RB.ints (v:=v0) g0 Tryz.underlying30 Tryz.underlying3 kE;obtain⟨ys,a2,_,c2⟩:=RB.ints (v:=v1) g1 Tryz.underlying82 Tryz.underlying2 lU;rw[uY]at c1;rw[K4]at c2;unfold reachBytes at c1 c2;refine⟨⟨xs,ys⟩,⟨b,off,_,_,rfl,?_,?_,a1,a2⟩,by show xs.length<=_;omega,by show ys.length<=_;omega⟩
  ·have:=A 0 _ rfl;rwa [Nat.add_zero]at this
  ·exact A 1 _ rfl
 obtain⟨f,hf⟩:=Deep.choose_lt (α:=aO) key;have C:((List.range len).map f).length=len:=by simp
 refine⟨(List.range len).map f,⟨o,cap,by rw[C],fun i B=>?_⟩,by unfold reachBytes at hr;rw[C];omega,fun t ht=>?_⟩
 ·have hi':i<len:=by rw[C]at B;exact B
  have:aR ((List.range len).map f) i=f i:=by rw[eY _ _ B];simp
  rw[this];exact(hf i hi').1
 ·obtain⟨i,B,rfl⟩:=List.mem_map.1 ht;exact(hf i (List.mem_range.1 B)).2
