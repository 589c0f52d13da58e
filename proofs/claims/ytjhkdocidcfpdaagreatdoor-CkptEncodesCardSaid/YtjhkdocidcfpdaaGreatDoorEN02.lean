/- A part of the proof. -/
import Derived.RangeFuncNested
import Derived.RangeFuncBound
import Derived.Lib.ItoaLen
import Derived.Deep.AppendLies
import Derived.Laws.CopyOwn
import Derived.RangeFuncOne
import Derived.StillTail
import Derived.Stop.RegionWithIn
import Derived.Deep.RegionHeld3
import Derived.Shelf.Strconv.Itoa3
import Derived.Lib.AppendIntMem
import Derived.ProofKit
import Derived.OpenShut
import Derived.Deep.Slices
import Derived.Test.YtjhkdocidcfpdaaGreatDoorEN01
set_option linter.unusedVariables false
set_option linter.unusedSimpArgs false
set_option maxRecDepth 100000
set_option maxHeartbeats 16000000
namespace Go.Proofs.YtjhkdocidcfpdaaGreatDoor
open Go.RowKit Go.Shelf Go
def gH {β:Type} (ik:Obj->Prop) (B:Nat) (J:β->World->Prop):Prop:=
 ∀s W W' row,J s W->W.grownBy W' row->(∀r,row=some r->B<=r/\∃o:Obj,W.heap[r]?=some o/\ik o)->J s W'
theorem gH.new {β:Type} {ik:Obj->Prop} {B:Nat} {J:β->World->Prop} (h:gH ik B J) {s:β} {W W':World} (hs:J s W) (hg:W.grownBy W' none):J s W':=h s W W' none hs hg (fun r e=>by cases e)
def SeqR {α:Type} (ik:Obj->Prop) (F:Fence) (n:Nat) (P:Program) (g:Nat) (lb:Array Value) (encs:α->Array Value) (Rdy:List α->α->World->Prop) (Kp:World->World->Prop) (S Sp:List α->Prop) (w:World):Prop:=
 ∀(l:Nat) (J Jx:List α->World->Prop) (W:World),Below w.heap.size w W->gH ik W.heap.size J->gH ik W.heap.size Jx->
  (∀pre x W1,J pre W1->Rdy pre x W1->YieldAt F (n-1) P l (encs x) W1 fun e W'=>
   (e=.returned (.bool true)/\J (pre++[x]) W'/\Kp W1 W')\/(e=.returned (.bool false)/\Jx (pre++[x]) W'))->
  J [] W->
  CallsIn F n P g (#[.func (.yield l) #[] #[]]++lb) W fun e W'=>(∃v,e=.returned v)/\((∃xs,S xs/\J xs W')\/(∃pre,Sp pre/\Jx pre W'))
def lB {β:Type} (ik:Obj->Prop) (B:Nat) (I:β->World->Prop):Prop:=
 ∀s W W' row,I s W->W.grownBy W' row->(∀r,row=some r->B<=r/\∃o:Obj,W.heap[r]?=some o/\(o.isCells=false\/ik o))->I s W'
theorem lB.put {β:Type} {ik:Obj->Prop} {B:Nat} {I:β->World->Prop} (h:lB ik B I) {s:β} {W:World} {l:Nat} {o:Obj} (o':Obj) (hs:I s W) (hB:B<=l) (hl:W.heap[l]?=some o) (ho:o.isCells=false):I s (W.putObj l o'):=
 h s W _ (some l) hs (grownBy_putObj' W l o') (fun r e=>by cases e;exact⟨hB,o,hl,.inl ho⟩)
theorem lB.alloc {β:Type} {ik:Obj->Prop} {B:Nat} {I:β->World->Prop} (h:lB ik B I) {s:β} {W:World} (o:Obj) (hs:I s W):I s (W.alloc o):=
 h s W _ none hs (World.grownBy_alloc W o none) (fun r e=>by cases e)
theorem CW {ik:Obj->Prop} {W W':World} {row:Option Nat} (hg:W.grownBy W' row) {B:Nat} (hr:∀r,row=some r->B<=r/\∃o:Obj,W.heap[r]?=some o/\ik o) {k:Nat} {o:Obj} (hk:W.heap[k]?=some o) (hi:¬ik o):W'.heap[k]?=some o:=by refine(hg.block k (Array.getElem?_eq_some_iff.1 hk).1 (fun e=>?_)).trans hk;obtain⟨_,o',ho,A⟩:=hr k e.symm;rw[hk]at ho;cases ho;exact hi A
section
variable {F:Fence} {n:Nat} {P:Program}
end
def bU (v:Int):Bool:=decide (-140737488355328<v)&&decide (v<140737488355328)
def iR (l:List Int):Bool:=l.all bU
def cC (d:Int):Bool:=decide (1<=d)&&decide (d<=4096)
def bG (s:List Int):Int:=s.foldl (·*·) 1
def bA (s:List Int):Bool:=decide (s.length<=4)&&s.all cC&&decide (bG s<=65536)
theorem uG (l:List Int) (x:Int):bG (l++[x])=bG l*x:=by simp[bG]
theorem zC (l:List Int) (a:Int):l.foldl (·*·) a=a*bG l:=by
 induction l generalizing a with
 |nil=>simp[bG]
 |cons x l ih=>
  have h1:=ih (a*x);have h2:=ih (1*x);rw[List.foldl_cons,h1]
  show a*x*bG l=a*(x::l).foldl (·*·) 1
  rw[List.foldl_cons,h2,Int.one_mul,Int.mul_assoc]
theorem DO (x:Int) (l:List Int):bG (x::l)=x*bG l:=by rw[bG,List.foldl_cons,zC,Int.one_mul]
theorem pU (p:Int->Bool) (l:List Int) (k:Nat) (h:k<l.length):(l.take (k+1)).all p=((l.take k).all p&&p (aF l k)):=by rw[fG l k h];simp
theorem oI (p:Int->Bool) (l:List Int) (k:Nat) (h:k<l.length) (hp:p (aF l k)=false):l.all p=false:=by rw[List.all_eq_false];exact⟨_,mS l k h,by simp[hp]⟩
theorem kZ (d:Int):cC d=true↔1<=d/\d<=4096:=by simp[cC]
theorem tQ (d:Int):cC d=false↔d<1\/4096<d:=by rw[Bool.eq_false_iff,Ne,kZ];omega
theorem qJ (l:List Int) (h:l.all cC=true):1<=bG l/\bG l<=4096^l.length:=by
 induction l with
 |nil=>simp[bG]
 |cons x l ih=>
  rw[List.all_cons,Bool.and_eq_true,kZ]at h;obtain⟨⟨h1,h2⟩,h3⟩:=h;obtain⟨i1,i2⟩:=ih h3;rw[DO,List.length_cons,Int.pow_succ];refine⟨?_,?_⟩
  ·have:=Int.mul_le_mul h1 i1 (by omega) (by omega)
   simpa using this
  ·rw[Int.mul_comm (4096^l.length)];exact Int.mul_le_mul h2 i2 (by omega) (by omega)
theorem RE (p:Int->Bool) (l:List Int) (k:Nat) (h:k<l.length):(l.take (k+1)).any p=((l.take k).any p || p (aF l k)):=by rw[fG l k h];simp
theorem QG (p:Int->Bool) (l:List Int) (k:Nat) (h:k<l.length) (hp:p (aF l k)=true):l.any p=true:=by rw[List.any_eq_true];exact⟨_,mS l k h,hp⟩
theorem MP (n:Nat) (h:n<=4):(4096:Int)^n<=281474976710656:=by
 match n,h with
 |0,_=>decide
 |1,_=>decide
 |2,_=>decide
 |3,_=>decide
 |4,_=>decide
theorem CD (xs:List Int) (k:Nat) (h:(xs.take (k+1)).all cC=true) (hl:xs.length<=4) (hk:k<xs.length):
  1<=bG (xs.take k)*aF xs k/\bG (xs.take k)*aF xs k<=281474976710656:=by have h1:=qJ _ h;rw[fG xs k hk,uG]at h1;refine⟨h1.1,Int.le_trans h1.2 (MP _ ?_)⟩;simp;omega
theorem FB (p:Int->Bool) (xs:List Int) (k:Nat) (h:xs.all p=true):(xs.take k).all p=true:=by rw[List.all_eq_true]at h ⊢;exact fun x hx=>h x (List.mem_of_mem_take hx)
theorem yX (xs:List Int) (k:Nat) (h:xs.all cC=true) (hl:xs.length<=4) (hk:k<xs.length):
  1<=bG (xs.take k)*aF xs k/\bG (xs.take k)*aF xs k<=281474976710656:=CD xs k (FB _ _ _ h) hl hk
theorem TO (xs:List Int) (k:Nat) (h:xs.all cC=true):bG (xs.take k)<=bG xs:=by
 have h1:bG xs=bG (xs.take k)*bG (xs.drop k):=by
  conv=>lhs;rw[<-List.take_append_drop k xs]
  rw[bG,List.foldl_append];exact zC _ _
 have h2:=(qJ _ (FB _ xs k h)).1;have h3:1<=bG (xs.drop k):=(qJ _ (by rw[List.all_eq_true]at h ⊢;exact fun x hx=>h x (List.mem_of_mem_drop hx))).1;rw[h1];have:=Int.mul_le_mul (Int.le_refl (bG (xs.take k))) h3 (by omega) (by omega)
 simpa using this
def lH (s:List Int):Int:=if bG s<=65536 then bG s else 65537
theorem MK (s:List Int):decide (lH s<=65536)=decide (bG s<=65536):=by
 unfold lH;split
 ·rename_i h;simp[h]
 ·rename_i h;simp[h]
theorem aG {a b:Bool} (h:a=b):Ending.returned (.bool a)=.returned (.bool b):=by rw[h]
theorem uV {k:IntKind} {a b:Int} (h:a=b):Ending.returned (.int k a)=.returned (.int k b):=by rw[h]
theorem pV (v:Int) (w:World):
  Calls Tryz.prog 122 #[.int .i64 v] w fun e w'=>e=.returned (.bool (bU v))/\aN w w':=by
 by_cases h1:-140737488355328<v
 ·by_cases h2:v<140737488355328
  all_goals
   go_enter Tryz.func122,Tryz.ntmps122;go_wp2;go_ret;exact⟨aG (by simp[bU,h1,h2]),aN.refl _⟩
 ·go_enter Tryz.func122,Tryz.ntmps122;go_wp2;go_ret;exact⟨aG (by simp[bU];omega),aN.refl _⟩
theorem AT (v:Int) (w:World):
  Calls Tryz.prog 111 #[.int .i64 v] w fun e w'=>e=.returned (.bool (bU v))/\aN w w':=by
 by_cases h1:-140737488355328<v
 ·by_cases h2:v<140737488355328
  all_goals
   go_enter Tryz.func111,Tryz.ntmps111;go_wp2;go_ret;exact⟨aG (by simp[bU,h1,h2]),aN.refl _⟩
 ·go_enter Tryz.func111,Tryz.ntmps111;go_wp2;go_ret;exact⟨aG (by simp[bU];omega),aN.refl _⟩
theorem RF (v:Value) (xs:List Int) (w:World) (hr:Rd w .i64 v xs) (hl:xs.length<=140737488351232):
  Calls Tryz.prog 148 #[v] w fun e w'=>e=.returned (.bool (iR xs))/\aN w w':=by
 obtain⟨o,cap,rfl,hc⟩:=hr;have D:=Za hc;clear hc;go_enter Tryz.func148,Tryz.ntmps148;go_wp2;go_loopw[3] (fun i wr=>∃k:Nat,k<=xs.length/\i=.int .i64 k/\(xs.take k).all bU=true/\aN w wr) (fun i _=>xs.length-(intOf i).toNat)
 case atStart=>exact⟨0,Ze _,rfl,rfl,aN.refl _⟩
 case round=>
  obtain⟨k,hk,rfl,hp,n0,rfl⟩:=hrel;have C:=Za hp;clear hp;by_cases A:k<xs.length
  ·obtain⟨b,off,rfl,h1⟩:=D.o k A;cases hb:bU (aF xs k)
   all_goals
    have B:=Za hb;clear hb;go_wp2_with fail;refine(AT (aF xs k) _).mono ?_;rintro e w' ⟨rfl,nq,rfl⟩;rw[B.o];go_wp2
   ·go_ret;exact⟨aG (by rw[iR,oI _ _ k A B.o]),(by first|exact⟨_,rfl⟩|exact⟨_,World.drewN_drewN _ _ _⟩)⟩
   ·go_roundw
    case rel=>exact⟨k+1,by omega,by go_num,by rw[pU _ _ _ A,C.o,B.o];rfl,(by first|exact⟨_,rfl⟩|exact⟨_,World.drewN_drewN _ _ _⟩)⟩
    case measure=>simp[intOf];omega
  ·obtain rfl:k=xs.length:=by omega
   go_wp2;go_ret;exact⟨aG (by rw[iR,<-C.o,List.take_length]),⟨_,rfl⟩⟩
theorem UB (v:Value) (xs:List Int) (F:Nat) (cs:Array Value) (p:Int->Bool) (w:World) (hr:Rd w .i64 v xs) (hl:xs.length<=140737488351232) (he:∀args w,(callFunc F args).run Tryz.prog w=.ok (.enter F args) w)
  (hf:∀k,k<xs.length->∀n,Calls Tryz.prog F (#[.int .i64 (aF xs k)]++cs) (w.drewN n) fun e w'=>e=.returned (.bool (p (aF xs k)))/\aN (w.drewN n) w'):
  Calls Tryz.prog 163 #[v,.func (.func F) #[] cs] w fun e w'=>(∃i:Int,e=.returned (.int .i64 i)/\decide (0<=i)=xs.any p)/\aN w w':=by
 obtain⟨o,cap,rfl,hc⟩:=hr;have D:=Za hc;have E:=Za hf;clear hc hf;go_enter Tryz.func163,Tryz.ntmps163;go_wp2;go_loopw[8] (fun i wr=>∃k:Nat,k<=xs.length/\i=.int .i64 k/\(xs.take k).any p=false/\aN w wr) (fun i _=>xs.length-(intOf i).toNat)
 case atStart=>exact⟨0,Ze _,rfl,rfl,aN.refl _⟩
 case round=>
  obtain⟨k,hk,rfl,hp,n0,rfl⟩:=hrel;have C:=Za hp;clear hp;by_cases A:k<xs.length
  ·obtain⟨b,off,rfl,h1⟩:=D.o k A;cases hb:p (aF xs k)
   all_goals
    have B:=Za hb;clear hb;go_wp2_with fail;refine Calls.mono (E.o k A n0) ?_;rintro e w' ⟨rfl,nq,rfl⟩;rw[B.o];go_wp2
   ·go_roundw
    case rel=>exact⟨k+1,by omega,by go_num,by rw[RE _ _ _ A,C.o,B.o];rfl,(by first|exact⟨_,rfl⟩|exact⟨_,World.drewN_drewN _ _ _⟩)⟩
    case measure=>simp[intOf];omega
   ·go_ret;exact⟨⟨_,rfl,by rw[QG _ _ k A B.o];simp⟩,(by first|exact⟨_,rfl⟩|exact⟨_,World.drewN_drewN _ _ _⟩)⟩
  ·obtain rfl:k=xs.length:=by omega
   have G:Hid (xs.any p=false):=Za (by have:=C.o;rwa [List.take_length]at this);go_wp2;go_ret;exact⟨⟨_,rfl,by rw[G.o];simp⟩,⟨_,rfl⟩⟩
theorem zJ (v:Value) (xs:List Int) (F:Nat) (cs:Array Value) (p:Int->Bool) (w:World) (hr:Rd w .i64 v xs) (hl:xs.length<=140737488351232) (he:∀args w,(callFunc F args).run Tryz.prog w=.ok (.enter F args) w)
  (hf:∀k,k<xs.length->∀n,Calls Tryz.prog F (#[.int .i64 (aF xs k)]++cs) (w.drewN n) fun e w'=>e=.returned (.bool (p (aF xs k)))/\aN (w.drewN n) w'):
  Calls Tryz.prog 130 #[v,.func (.func F) #[] cs] w fun e w'=>e=.returned (.bool (xs.any p))/\aN w w':=by have A:=Za (UB v xs F cs p w hr hl he hf);clear hf hr he;go_enter Tryz.func130,Tryz.ntmps130;go_wp2_with fail;refine A.o.mono ?_;rintro e w' ⟨⟨i,rfl,hi⟩,hs⟩;have B:=Za hi;have C:=Za hs;clear hi hs;go_wp2;go_ret;exact⟨aG B.o,C.o⟩
theorem qO (v:Value) (xs:List Int) (w:World) (hr:Rd w .i64 v xs) (hs:xs.all cC=true) (hl:xs.length<=4):
  Calls Tryz.prog 124 #[v] w fun e w'=>e=.returned (.int .i64 (bG xs))/\aN w w':=by
 obtain⟨o,cap,rfl,hc⟩:=hr;have D:=Za hc;have E:=Za hs;clear hc hs;go_enter Tryz.func124,Tryz.ntmps124;go_wp2;go_loop[3,8] (fun p i=>∃k:Nat,k<=xs.length/\i=.int .i64 k/\p=.int .i64 (bG (xs.take k))) (fun _ i=>xs.length-(intOf i).toNat)
 case atStart=>exact⟨0,Ze _,rfl,rfl⟩
 case round=>
  obtain⟨k,hk,rfl,rfl⟩:=hrel;by_cases A:k<xs.length
  ·obtain⟨b,off,rfl,h1⟩:=D.o k A;obtain⟨B,C⟩:=yX xs k E.o hl A;obtain⟨P,hP⟩:=Zx (bG (xs.take k));rw[<-hP]at B C ⊢;have F:=Za hP;clear hP;go_wp2;go_round
   case rel=>exact⟨k+1,by omega,by go_num,by rw[fG xs k A,uG,F.o]⟩
   case measure=>simp[intOf];omega
  ·obtain rfl:k=xs.length:=by omega
   go_wp2;go_ret;exact⟨rfl,aN.refl _⟩
theorem vH (v:Value) (xs:List Int) (w:World) (hr:Rd w .i64 v xs) (hl:xs.length<=140737488351232):
  Calls Tryz.prog 159 #[v] w fun e w'=>e=.returned (.bool (bA xs))/\aN w w':=by
 obtain⟨o,cap,rfl,hc⟩:=hr;have L:=Za hc;clear hc;by_cases h4:4<xs.length
 ·go_enter Tryz.func159,Tryz.ntmps159;go_wp2;go_ret;exact⟨aG (by simp[bA];omega),aN.refl _⟩
 ·have F:xs.length<=4:=by omega
  clear h4;go_enter Tryz.func159,Tryz.ntmps159;go_wp2;go_loop[3,11] (fun p i=>∃k:Nat,k<=xs.length/\i=.int .i64 k/\p=.int .i64 (bG (xs.take k))/\(xs.take k).all cC=true) (fun _ i=>xs.length-(intOf i).toNat)
  case atStart=>exact⟨0,Ze _,rfl,rfl,rfl⟩
  case round=>
   obtain⟨k,hk,rfl,rfl,C⟩:=hrel;have J:=Za C;clear C;by_cases B:k<xs.length
   ·obtain⟨b,off,rfl,h1⟩:=L.o k B;cases E:cC (aF xs k)
    ·have G:=Za E;rcases(tQ _).1 E with h|h
     all_goals
      clear E;go_wp2;go_ret;exact⟨aG (by rw[bA,oI _ _ k B G.o];simp),aN.refl _⟩
    ·have G:=Za E;obtain⟨M,N⟩:=(kZ _).1 E;clear E;have A:(xs.take (k+1)).all cC=true:=by rw[pU _ _ _ B,J.o,G.o];rfl
     obtain⟨H,I⟩:=CD xs k A F B;have D:=Za A;clear A;obtain⟨P,hP⟩:=Zx (bG (xs.take k));rw[<-hP]at H I ⊢;have O:=Za hP;clear hP;go_wp2;go_round
     case rel=>exact⟨k+1,by omega,by go_num,by rw[fG xs k B,uG,O.o],D.o⟩
     case measure=>simp[intOf];omega
   ·obtain rfl:k=xs.length:=by omega
    have D:Hid (xs.all cC=true):=Za (by rw[<-List.take_length (l:=xs)];exact J.o);go_wp2
    all_goals go_ret
    all_goals exact⟨aG (by rw[bA,D.o];simp;omega),aN.refl _⟩
theorem sN (v:Value) (xs:List Int) (w:World) (hr:Rd w .i64 v xs) (hs:xs.all cC=true) (hl:xs.length<=4):
  Calls Tryz.prog 93 #[v] w fun e w'=>e=.returned (.int .i64 (lH xs))/\aN w w':=by
 obtain⟨o,cap,rfl,hc⟩:=hr;have H:=Za hc;have C:=Za hs;clear hc hs;go_enter Tryz.func93,Tryz.ntmps93;go_wp2;go_loop[3,4] (fun p i=>∃k:Nat,k<=xs.length/\i=.int .i64 k/\p=.int .i64 (bG (xs.take k))/\bG (xs.take k)<=65536) (fun _ i=>xs.length-(intOf i).toNat)
 case atStart=>exact⟨0,Ze _,rfl,rfl,by simp[bG]⟩
 case round=>
  obtain⟨k,hk,rfl,rfl,hp⟩:=hrel;by_cases B:k<xs.length
  ·obtain⟨b,off,rfl,h1⟩:=H.o k B;obtain⟨D,E⟩:=yX xs k C.o hl B;obtain⟨I,J⟩:=(kZ _).1 (List.all_eq_true.1 C.o _ (mS xs k B));have A:Hid (bG (xs.take (k+1))=bG (xs.take k)*aF xs k):=Za (by rw[fG xs k B,uG]);obtain⟨P,hP⟩:=Zx (bG (xs.take k));rw[<-hP]at D E hp A ⊢;have F:=Za hP;clear hP;by_cases G:65536<P*aF xs k
   ·go_wp2;go_ret;exact⟨uV (by rw[lH,if_neg];have:=TO xs (k+1) C.o;rw[A.o]at this;omega),aN.refl _⟩
   ·go_wp2;go_round
    case rel=>exact⟨k+1,by omega,by go_num,by rw[A.o],by rw[A.o];omega⟩
    case measure=>simp[intOf];omega
  ·obtain rfl:k=xs.length:=by omega
   have F:=Za hp;go_wp2;go_ret;exact⟨uV (by have h:=F.o;rw[List.take_length]at h;rw[lH,if_pos h]),aN.refl _⟩
theorem zS (v:Value) (xs:List Int) (w:World) (hr:Rd w .i64 v xs) (hl:xs.length<=140737488351232):
  Calls Tryz.prog 90 #[v] w fun e w'=>e=.returned (.bool (bA xs))/\aN w w':=by
 obtain⟨o,cap,rfl,hc⟩:=hr;have G:=Za hc;clear hc;by_cases h4:4<xs.length
 ·go_enter Tryz.func90,Tryz.ntmps90;go_wp2;go_ret;exact⟨aG (by simp[bA];omega),aN.refl _⟩
 ·have F:xs.length<=4:=by omega
  clear h4;go_enter Tryz.func90,Tryz.ntmps90;go_wp2;go_loop[3] (fun i=>∃k:Nat,k<=xs.length/\i=.int .i64 k/\(xs.take k).all cC=true) (fun i=>xs.length-(intOf i).toNat)
  case atStart=>exact⟨0,Ze _,rfl,rfl⟩
  case round=>
   obtain⟨k,hk,rfl,B⟩:=hrel;have H:=Za B;clear B;by_cases A:k<xs.length
   ·obtain⟨b,off,rfl,h1⟩:=G.o k A;cases C:cC (aF xs k)
    ·have E:=Za C;rcases(tQ _).1 C with h|h
     ·clear C;go_wp2;go_ret;exact⟨aG (by rw[bA,oI _ _ k A E.o];simp),aN.refl _⟩
     ·clear C;have h':¬aF xs k<1:=by omega
      go_wp2;go_ret;exact⟨aG (by rw[bA,oI _ _ k A E.o];simp),aN.refl _⟩
    ·have E:=Za C;obtain⟨I,J⟩:=(kZ _).1 C;clear C;go_wp2;go_round
     case rel=>exact⟨k+1,by omega,by go_num,by rw[pU _ _ _ A,H.o,E.o];rfl⟩
     case measure=>simp[intOf];omega
   ·obtain rfl:k=xs.length:=by omega
    have D:Hid (xs.all cC=true):=Za (by rw[<-List.take_length (l:=xs)];exact H.o);go_wp2_with fail;refine(sN _ xs _ ⟨_,_,rfl,G.o⟩ D.o F).mono ?_;rintro e w' ⟨rfl,nq,rfl⟩;go_wp2
    all_goals go_ret
    all_goals exact⟨aG (by rw[bA,D.o,<-MK];simp;omega),⟨_,rfl⟩⟩
structure aE where
 kind:Int
 inn:Int
 o:Int
 size:Int
 stride:Int
 pad:Int
 percent:Int
 heads:Int
 deriving DecidableEq
inductive aB where
 |mk (n:aE) (body:List aB)
def aB.n:aB->aE
 |.mk n _=>n
def aB.body:aB->List aB
 |.mk _ b=>b
theorem aB.eta (l:aB):l=.mk l.n l.body:=by cases l;rfl
def aE.cells (n:aE) (v:Value):List Value:=[.int .i64 n.kind,.int .i64 n.inn,.int .i64 n.o,.int .i64 n.size,.int .i64 n.stride,.int .i64 n.pad,.int .i64 n.percent,.int .i64 n.heads,v]
theorem aE.cells_len (n:aE) (v:Value):(n.cells v).length=9:=rfl
def aE.agg (n:aE) (v:Value):Value:=.agg #[.int .i64 n.kind,.int .i64 n.inn,.int .i64 n.o,.int .i64 n.size,.int .i64 n.stride,.int .i64 n.pad,.int .i64 n.percent,.int .i64 n.heads,v]
mutual
def fR (w:World) (o:Option Addr) (i:Nat):aB->Prop
 |.mk n body=>∃b off ob cb,o=some ⟨b,off,none⟩/\body.length<=140737488351232/\(∀j u,(n.cells (.slice ob body.length cb))[j]?=some u->w.cell? ⟨b,off+i*9+j,none⟩=some u)/\cS w ob 0 body
def cS (w:World) (o:Option Addr) (i:Nat):List aB->Prop
 |[]=>True
 |l::r=>fR w o i l/\cS w o (i+1) r
end
def bO (w:World) (v:Value) (ls:List aB):Prop:=∃o cap,v=.slice o ls.length cap/\cS w o 0 ls
mutual
theorem fR.below {w w':World} {B:Nat} (hB:Below B w w') (hs:w.heap.size<=B):∀(l:aB) {o:Option Addr} {i:Nat},fR w o i l->fR w' o i l
 |.mk n body,o,i,h=>by
  rw[fR]at h ⊢;obtain⟨b,off,ob,cb,rfl,A,hc,hl⟩:=h;exact⟨b,off,ob,cb,rfl,A,fun j u hj=>(hB.cell (p:=⟨b,off+i*9+j,none⟩) (Nat.lt_of_lt_of_le (aP (hc j u hj)) hs)).trans (hc j u hj),cS.below hB hs body hl⟩
theorem cS.below {w w':World} {B:Nat} (hB:Below B w w') (hs:w.heap.size<=B):∀(ls:List aB) {o:Option Addr} {i:Nat},cS w o i ls->cS w' o i ls
 |[],o,i,_=>by rw[cS];trivial
 |l::r,o,i,h=>by
  rw[cS]at h ⊢;exact⟨fR.below hB hs l h.1,cS.below hB hs r h.2⟩
end
theorem bO.below {w w':World} {B:Nat} {v:Value} {ls:List aB} (h:bO w v ls) (hB:Below B w w') (hs:w.heap.size<=B):bO w' v ls:=by obtain⟨o,cap,rfl,h⟩:=h;exact⟨o,cap,rfl,cS.below hB hs ls h⟩
theorem bO.next {w w':World} {v:Value} {ls:List aB} (h:bO w v ls) (hB:Below w.heap.size w w'):bO w' v ls:=h.below hB (Zb _)
theorem cS.at {w:World} {o:Option Addr} (ls:List aB):∀{i:Nat},cS w o i ls->∀k (hk:k<ls.length),fR w o (i+k) ls[k]:=by
 induction ls with
 |nil=>intro i h k hk;simp at hk
 |cons l r ih=>
  intro i h k hk;rw[cS]at h;cases k with
  |zero=>exact h.1
  |succ k=>
   have:=ih h.2 k (by simpa using hk);rw[show i+1+k=i+(k+1) by omega]at this;exact this
theorem cS.mk {w:World} {o:Option Addr} (ls:List aB):∀{i:Nat},(∀k (hk:k<ls.length),fR w o (i+k) ls[k])->cS w o i ls:=by
 induction ls with
 |nil=>intro i _;rw[cS];trivial
 |cons l r ih=>
  intro i h;rw[cS];refine⟨h 0 (by simp),ih fun k hk=>?_⟩;have:=h (k+1) (by simpa using hk);rw[show i+1+k=i+(k+1) by omega];exact this
theorem bO.lay {w:World} {o:Option Addr} {n cap:Nat} {ls:List aB} (h:bO w (.slice o n cap) ls) (k:Nat) (hk:k<ls.length):
  ∃b off vb,o=some ⟨b,off,none⟩/\(∀j u,((ls[k]).n.cells vb)[j]?=some u->w.cell? ⟨b,off+k*9+j,none⟩=some u)/\bO w vb (ls[k]).body/\(ls[k]).body.length<=140737488351232:=by
 obtain⟨o',cap',he,h⟩:=h;simp at he;obtain⟨rfl,_,_⟩:=he;have h1:=cS.at ls h k hk;rw[Nat.zero_add]at h1;generalize ls[k]=l at h1;cases l with
 |mk n body=>
  rw[fR]at h1;obtain⟨b,off,ob,cb,rfl,A,hc,hl⟩:=h1;exact⟨b,off,_,rfl,hc,⟨ob,cb,rfl,hl⟩,A⟩
theorem bO.len {w:World} {v:Value} {ls:List aB} (h:bO w v ls):∃o cap,v=.slice o ls.length cap:=by obtain⟨o,cap,rfl,_⟩:=h;exact⟨o,cap,rfl⟩
mutual
def aB.count:aB->Nat
 |.mk _ b=>1+aS b
def aS:List aB->Nat
 |[]=>0
 |l::r=>l.count+aS r
end
theorem aB.count_eq (l:aB):l.count=1+aS l.body:=by
 cases l with
 |mk n b=>rw[aB.count,aB.body]
structure aO where
 sh:List Int
 da:List Int
 deriving DecidableEq,Inhabited
structure hH where
 kind:Int
 rate:Int
 mu:Int
 nu:Int
 eps:Int
 decay:Int
 clip:Int
 sched:Int
 every:Int
 deriving DecidableEq,Inhabited
structure lV where
 m:List aO
 v:List aO
 powMu:Int
 powNu:Int
 steps:Int
 deriving DecidableEq,Inhabited
structure bI where
 input:List Int
 lays:List aB
 loss:Int
structure A9 where
 script:List Int
 s0:Int
 s1:Int
 s2:Int
 s3:Int
 deriving DecidableEq,Inhabited
structure CurD where
 order:List Int
 at_:Int
 epoch:Int
 deriving DecidableEq,Inhabited
structure aT where
 f:Int
 d:bI
 h:hH
 ps:List aO
 m:lV
 r:A9
 c:CurD
instance:Inhabited aB:=⟨.mk ⟨0,0,0,0,0,0,0,0⟩ []⟩
def aR (l:List aO) (k:Nat):aO:=l.getD k ⟨[],[]⟩
theorem eY (l:List aO) (k:Nat) (h:k<l.length):aR l k=l[k]:=by rw[aR,List.getD_eq_getElem?_getD,List.getElem?_eq_getElem h];rfl
def oC (w:World) (o:Option Addr) (i:Nat) (t:aO):Prop:=
 ∃b off vs vd,o=some ⟨b,off,none⟩/\w.cell? ⟨b,off+i*2,none⟩=some vs/\w.cell? ⟨b,off+i*2+1,none⟩=some vd/\Rd w .i64 vs t.sh/\Rd w .i64 vd t.da
def bD (w:World) (v:Value) (ts:List aO):Prop:=∃o cap,v=.slice o ts.length cap/\∀i,i<ts.length->oC w o i (aR ts i)
theorem oC.below {w w':World} {B:Nat} {o:Option Addr} {i:Nat} {t:aO} (h:oC w o i t) (hB:Below B w w') (hs:w.heap.size<=B):oC w' o i t:=by obtain⟨b,off,vs,vd,rfl,h1,h2,h3,h4⟩:=h;exact⟨b,off,vs,vd,rfl,(hB.cell (p:=⟨b,off+i*2,none⟩) (Nat.lt_of_lt_of_le (aP h1) hs)).trans h1,(hB.cell (p:=⟨b,off+i*2+1,none⟩) (Nat.lt_of_lt_of_le (aP h2) hs)).trans h2,h3.below hB hs,h4.below hB hs⟩
theorem bD.below {w w':World} {B:Nat} {v:Value} {ts:List aO} (h:bD w v ts) (hB:Below B w w') (hs:w.heap.size<=B):bD w' v ts:=by obtain⟨o,cap,rfl,h⟩:=h;exact⟨o,cap,rfl,fun i hi=>(h i hi).below hB hs⟩
theorem bD.next {w w':World} {v:Value} {ts:List aO} (h:bD w v ts) (hB:Below w.heap.size w w'):bD w' v ts:=h.below hB (Zb _)
theorem bD.same {w w':World} {v:Value} {ts:List aO} (h:bD w v ts) (hs:aN w w'):bD w' v ts:=h.next (hs.below _)
theorem bD.slice {w:World} {v:Value} {ts:List aO} (h:bD w v ts):∃o cap,v=.slice o ts.length cap:=by obtain⟨o,cap,rfl,_⟩:=h;exact⟨o,cap,rfl⟩
theorem bD.tens {w:World} {o:Option Addr} {n cap:Nat} {ts:List aO} (h:bD w (.slice o n cap) ts) (i:Nat) (hi:i<ts.length):oC w o i (aR ts i):=by obtain⟨o',cap',he,h⟩:=h;simp at he;obtain⟨rfl,_,_⟩:=he;exact h i hi
abbrev dJ (s:aT) (o1:Option Addr) (c1:Nat) (o2:Option Addr) (c2:Nat) (o3:Option Addr) (c3:Nat) (o4:Option Addr) (c4:Nat) (o5:Option Addr) (c5:Nat) (o6:Option Addr) (c6:Nat) (o7:Option Addr) (c7:Nat):Array Value:=#[.int .i64 s.f,.slice o1 s.d.input.length c1,.slice o2 s.d.lays.length c2,.int .i64 s.d.loss,.int .i64 s.h.kind,.int .i64 s.h.rate,.int .i64 s.h.mu,.int .i64 s.h.nu,.int .i64 s.h.eps,.int .i64 s.h.decay,.int .i64 s.h.clip,.int .i64 s.h.sched,.int .i64 s.h.every,.slice o3 s.ps.length c3,.slice o4 s.m.m.length c4,.slice o5 s.m.v.length c5,.int .i64 s.m.powMu,.int .i64 s.m.powNu,.int .i64 s.m.steps,.slice o6 s.r.script.length c6,.int .u64 s.r.s0,.int .u64 s.r.s1,.int .u64 s.r.s2,.int .u64 s.r.s3,.slice o7 s.c.order.length c7,.int .i64 s.c.at_,.int .i64 s.c.epoch]
abbrev zR:Array Value:=#[.int .i64 0,.slice none 0 0,.slice none 0 0,.int .i64 0,.int .i64 0,.int .i64 0,.int .i64 0,.int .i64 0,.int .i64 0,.int .i64 0,.int .i64 0,.int .i64 0,.int .i64 0,.slice none 0 0,.slice none 0 0,.slice none 0 0,.int .i64 0,.int .i64 0,.int .i64 0,.slice none 0 0,.int .u64 0,.int .u64 0,.int .u64 0,.int .u64 0,.slice none 0 0,.int .i64 0,.int .i64 0]
structure bX where
 kind:Int
 word:List UInt8
 at_:List Nat
 low:List Int
 high:List Int
def bJ:List bX:=[
 ⟨1,[108,105,110,101,97,114],[1,2],[1,1],[4096,4096]⟩,
 ⟨2,[99,111,110,118],[1,2,3,4,5],[1,1,1,1,0],[4096,4096,4096,4096,4096]⟩,
 ⟨3,[114,101,108,117],[],[],[]⟩,
 ⟨4,[116,97,110,104],[],[],[]⟩,
 ⟨5,[115,105,103,109,111,105,100],[],[],[]⟩,
 ⟨6,[110,111,114,109],[],[],[]⟩,
 ⟨10,[102,108,97,116,116,101,110],[],[],[]⟩,
 ⟨7,[100,114,111,112],[6],[0],[99]⟩,
 ⟨8,[109,97,120,112,111,111,108],[3],[1],[4096]⟩,
 ⟨9,[97,118,103,112,111,111,108],[3],[1],[4096]⟩,
 ⟨11,[101,109,98,101,100],[1,2],[1,1],[4096,4096]⟩,
 ⟨12,[97,116,116,101,110,116,105,111,110],[1,7],[1,1],[4096,4096]⟩]
def aE.fld (n:aE):Nat->Int
 |1=>n.inn
 |2=>n.o
 |3=>n.size
 |4=>n.stride
 |5=>n.pad
 |6=>n.percent
 |7=>n.heads
 |_=>n.kind
def aE.put (n:aE) (i:Nat) (x:Int):aE:=match i with
 |1=>{n with inn:=x}
 |2=>{n with o:=x}
 |3=>{n with size:=x}
 |4=>{n with stride:=x}
 |5=>{n with pad:=x}
 |6=>{n with percent:=x}
 |7=>{n with heads:=x}
 |_=>{n with kind:=x}
def bN:aE:=⟨0,0,0,0,0,0,0,0⟩
def gA (l m:aE):Bool:=decide (l.inn=m.inn)&&decide (l.o=m.o)&&decide (l.size=m.size)&&decide (l.stride=m.stride)&&decide (l.pad=m.pad)&&decide (l.percent=m.percent)&&decide (l.heads=m.heads)
def bX.fits (r:bX) (n:aE) (k:Nat):Bool:=decide (r.low.getD k 0<=n.fld (r.at_.getD k 0))&&decide (n.fld (r.at_.getD k 0)<=r.high.getD k 0)
def bX.fitsTo (r:bX) (n:aE):Nat->Bool
 |0=>true
 |k+1=>r.fitsTo n k&&r.fits n k
def bX.made (r:bX) (n:aE):Nat->aE
 |0=>bN
 |k+1=>(r.made n k).put (r.at_.getD k 0) (n.fld (r.at_.getD k 0))
def iL (r:bX) (n:aE) (body:List aB):Bool:=r.fitsTo n r.at_.length&&(decide (body.length=0)&&gA n (r.made n r.at_.length))
def cP (k:Int):Option bX:=bJ.find? fun r=>r.kind==k
def fJ (n:aE) (body:List aB):Bool:=match cP n.kind with
 |none=>false
 |some r=>iL r n body
mutual
def cD (deep:Nat) (left:Int):aB->Option Int
 |.mk n body=>bif decide (left-1<0) then none else bif decide (n.kind=13) then(bif decide (deep<4)&&gA n bN then bS (deep+1) (left-1) body else none) else bif fJ n body then some (left-1) else none
def bS (deep:Nat) (left:Int):List aB->Option Int
 |[]=>some left
 |l::r=>match cD deep left l with
  |none=>none
  |some k=>bS deep k r
end
def kO (k:Int):Bool:=decide (k=1) || decide (k=2)
def mJ (s:List Int):Bool:=decide (1<=s.length)&&decide (s.length<=3)&&s.all cC
def dM (d:bI):Bool:=mJ d.input&&kO d.loss&&(bS 0 64 d.lays).isSome
def dS (n:aE):List Nat->List UInt8
 |[]=>[]
 |i::r=>32::(Lib.itoa (n.fld i)++dS n r)
def bX.text (r:bX) (n:aE):List UInt8:=r.word++dS n r.at_++[10]
def kN (n:aE):List UInt8:=match cP n.kind with
 |none=>[]
 |some r=>r.text n
def dE:List UInt8:=[114,101,115,105,100,117,97,108]
def dA:List UInt8:=[101,110,100]
def dV:List UInt8:=[108,111,115,115]
def iQ:List UInt8:=[105,110,112,117,116]
mutual
def jD:aB->List UInt8
 |.mk n body=>bif decide (n.kind=13) then dE++[10]++cN body++dA++[10] else kN n
def cN:List aB->List UInt8
 |[]=>[]
 |l::r=>jD l++cN r
end
def cZ:List Int->List UInt8
 |[]=>[]
 |x::r=>32::(Lib.itoa x++cZ r)
def eL (k:Int):List UInt8:=bif decide (k=1) then [120,101,110,116] else [115,113,117,97,114,101]
def dB (d:bI):List UInt8:=iQ++cZ d.input++[10]++cN d.lays++dV++[32]++eL d.loss++[10]
def eE (f:Int):Bool:=decide (8<=f)&&decide (f<=32)
theorem yO (v:Int) (w:World):
  Calls Tryz.prog 74 #[.int .i64 v] w fun e w'=>e=.returned (.bool (eE v))/\aN w w':=by
 by_cases h1:8<=v
 ·by_cases h2:v<=32
  all_goals
   go_enter Tryz.func74,Tryz.ntmps74;go_wp2;go_ret;exact⟨aG (by simp[eE];omega),aN.refl _⟩
 ·go_enter Tryz.func74,Tryz.ntmps74;go_wp2;go_ret;exact⟨aG (by simp[eE];omega),aN.refl _⟩
theorem I2 (v:Int) (w:World):
  Calls Tryz.prog 54 #[.int .i64 v] w fun e w'=>e=.returned (.bool (eE v))/\aN w w':=by
 by_cases h1:8<=v
 ·by_cases h2:v<=32
  all_goals
   go_enter Tryz.func54,Tryz.ntmps54;go_wp2;go_ret;exact⟨aG (by simp[eE];omega),aN.refl _⟩
 ·go_enter Tryz.func54,Tryz.ntmps54;go_wp2;go_ret;exact⟨aG (by simp[eE];omega),aN.refl _⟩
theorem RD (w:World):(sizeOf 40).run Tryz.prog w=.ok 1 w:=by kernel_rfl
theorem OA (w:World):(isAgg 40).run Tryz.prog w=.ok false w:=by kernel_rfl
theorem D4 (a b c d e f g h:Int) (w:World):(Op.equalIn 10000 41 (.agg #[.int .u64 a,.int .u64 b,.int .u64 c,.int .u64 d]) (.agg #[.int .u64 e,.int .u64 f,.int .u64 g,.int .u64 h])).run Tryz.prog w=.ok (a==e&&(b==f&&(c==g&&d==h))) w:=by
 have key:∀x y:Int,(Op.equalIn 9999 40 (.int .u64 x) (.int .u64 y)).run Tryz.prog w=.ok (x==y) w:=fun x y=>run_equalIn_int w 9998 40 .u64 .u64 x y Tryz.underlying40;have A:∀(cs:Array Value) (i:Nat) (v:Value),cs[i]?=some v->(part 40 cs i).run Tryz.prog w=.ok v w:=by intro cs i v hv;simp only[part,Sem.run_bind,OA,Result.andThen_ok,Bool.false_eq_true,if_false,hv,Sem.run_pure]
 show(Op.equalIn (9999+1) _ _ _).run _ _=_
 rw[Op.equalIn];simp only[Sem.run_bind,run_underlying Tryz.underlying41,Result.andThen_ok,RD,Std.Legacy.Range.forIn_eq_forIn_range',Std.Legacy.Range.size,List.range',Nat.reduceSub,Nat.reduceAdd,Nat.reduceDiv,List.forIn_cons,List.forIn_nil,Nat.zero_mul,Nat.one_mul,Nat.reduceMul];rw[A _ 0 (.int .u64 a) rfl];simp only[Result.andThen_ok];rw[A _ 0 (.int .u64 e) rfl];simp only[Result.andThen_ok,key];cases h1:a==e
 ·simp
 simp only[Bool.not_true,Bool.false_eq_true,if_false,Sem.run_pure,Result.andThen_ok];rw[Sem.run_bind,Sem.run_bind,A _ 1 (.int .u64 b) rfl];simp only[Result.andThen_ok,Sem.run_bind];rw[A _ 1 (.int .u64 f) rfl];simp only[Result.andThen_ok,key];cases h2:b==f
 ·simp
 simp only[Bool.not_true,Bool.false_eq_true,if_false,Sem.run_pure,Result.andThen_ok];rw[Sem.run_bind,Sem.run_bind,A _ 2 (.int .u64 c) rfl];simp only[Result.andThen_ok,Sem.run_bind];rw[A _ 2 (.int .u64 g) rfl];simp only[Result.andThen_ok,key];cases h3:c==g
 ·simp
 simp only[Bool.not_true,Bool.false_eq_true,if_false,Sem.run_pure,Result.andThen_ok];rw[Sem.run_bind,Sem.run_bind,A _ 3 (.int .u64 d) rfl];simp only[Result.andThen_ok,Sem.run_bind];rw[A _ 3 (.int .u64 h) rfl];simp only[Result.andThen_ok,key];cases h4:d==h
 ·simp
 simp
def gQ (n:Nat) (a b c d:Int):Bool:=decide (n<=4096)&&(decide (a≠0) || decide (b≠0) || decide (c≠0) || decide (d≠0))
theorem P2 (o:Option Addr) (n cap:Nat) (a b c d:Int) (w:World) (hl:n<=140737488351232):
  Calls Tryz.prog 84 #[.agg #[.slice o n cap,.int .u64 a,.int .u64 b,.int .u64 c,.int .u64 d]] w fun e w'=>e=.returned (.bool (gQ n a b c d))/\Below w.heap.size w w':=by
 by_cases h1:n<=4096
 ·have A:=D4 a b c d 0 0 0 0;go_enter Tryz.func84,Tryz.ntmps84;go_wp2;go_ret;exact⟨aG (by simp[gQ,h1,Bool.beq_eq_decide_eq,Bool.or_assoc]),(Zc _ _).alloc (Zb _) _⟩
 ·go_enter Tryz.func84,Tryz.ntmps84;go_wp2;go_ret;exact⟨aG (by simp[gQ];omega),(Zc _ _).alloc (Zb _) _⟩
theorem VQ (o:Option Addr) (n cap:Nat) (a b c d:Int) (w:World) (hl:n<=140737488351232):
  Calls Tryz.prog 57 #[.agg #[.slice o n cap,.int .u64 a,.int .u64 b,.int .u64 c,.int .u64 d]] w fun e w'=>e=.returned (.bool (gQ n a b c d))/\Below w.heap.size w w':=by
 by_cases h1:n<=4096
 ·by_cases ha:a=0
  ·by_cases hb:b=0
   ·by_cases hc:c=0
    ·by_cases hd:d=0
     all_goals
      go_enter Tryz.func57,Tryz.ntmps57;go_wp2;go_ret;exact⟨aG (by simp[gQ, *]),(Zc _ _).alloc (Zb _) _⟩
    ·go_enter Tryz.func57,Tryz.ntmps57;go_wp2;go_ret;exact⟨aG (by simp[gQ, *]),(Zc _ _).alloc (Zb _) _⟩
   ·go_enter Tryz.func57,Tryz.ntmps57;go_wp2;go_ret;exact⟨aG (by simp[gQ, *]),(Zc _ _).alloc (Zb _) _⟩
  ·go_enter Tryz.func57,Tryz.ntmps57;go_wp2;go_ret;exact⟨aG (by simp[gQ, *]),(Zc _ _).alloc (Zb _) _⟩
 ·go_enter Tryz.func57,Tryz.ntmps57;go_wp2;go_ret;exact⟨aG (by simp[gQ];omega),(Zc _ _).alloc (Zb _) _⟩
theorem xT {P:Program} (w:World) (t ty:TypeId) (e:TypeId) (i:TypeInfo) (ht:P.underlying t=some (.slice e)) (hi:P.info? e=some i) (o o':Option Addr) (n cap c:Nat) (hc:n<=cap):
  (Builtin.append_ #[t,t] ty #[.slice o n cap,.slice o' 0 c]).run P w=.ok (.slice o n cap) w:=by cases o<;>cases o'<;>simp[Builtin.append_,run_underlying ht,sizeOf,typeInfo,hi,Builtin.lenOf,Builtin.firstCells,loadCells,loadCellsFrom,storeCells,hc,Result.andThen]
theorem jK {w:World} {B:Nat} {e:TypeId} {s n:Nat} {v:Value} {xs:List Value} (h:w.ownsRow B e s v n xs):∃o cap,v=.slice o n cap/\n<=cap:=by
 rcases h.2 with⟨rfl,rfl⟩|⟨g,cap,cur,rfl,hb,A,hn,rest⟩
 ·exact⟨none,0,rfl,Zb _⟩
 ·exact⟨_,_,rfl,hn⟩
theorem vZ {P:Program} (w:World) (t ty:TypeId) (B:Nat) (e:TypeId) (K:IntKind) (i:TypeInfo) (bytes:Nat) (ht:P.underlying t=some (.slice e)) (hi:P.info? e=some i) (hz:i.zero=some (.int K 0)) (D:i.size=1) (I:i.bytes=bytes)
  (v:Value) (xs:List Int) (A:aH w B e K v xs) (u:Value) (ys:List Int) (hr:Rd w K u ys)
  (J:xs.length+ys.length<=maxLen) (C:(xs.length+ys.length)*bytes<=140737488355328) (E:B<=w.heap.size):
  ∃v' w',(Builtin.append_ #[t,t] ty #[v,u]).run P w=.ok v' w'/\aH w' B e K v' (xs++ys)/\w.grownBy w' v.ownBlock/\(v'.ownBlock=v.ownBlock\/v'.ownBlock=some w.heap.size):=by
 obtain⟨o,c,rfl,hc⟩:=hr;by_cases h0:ys.length=0
 ·have:ys=[]:=List.eq_nil_of_length_eq_zero h0;subst this;obtain⟨ov,cap,rfl,L⟩:=jK A;refine⟨_,w,xT w t ty e i ht hi _ _ _ _ _ L,?_,⟨rfl,rfl,rfl,Zb _,fun _ _ _=>rfl⟩,.inl rfl⟩;rw[List.append_nil];exact A
 ·obtain⟨b,off,rfl,_⟩:=hc 0 (by omega);obtain⟨v',w',H,h2,h3,_,h5⟩:=run_append_own_at (P:=P) w B t ty e i (.int K 0) 1 bytes ht hi hz D I rfl (by decide) v xs.length _ A ⟨b,off,none⟩ ys.length c (ys.map (.int K)) (by simp) (fun j x hj=>by
    have F:j<ys.length:=by have:=(List.getElem?_eq_some_iff.1 hj).1;simpa using this
    obtain⟨b',off',he,G⟩:=hc j F;cases he;have hx:x=.int K (aF ys j):=by
     have h1:(ys.map (Value.int K))[j]?=some (.int K (aF ys j)):=by rw[List.getElem?_map,List.getElem?_eq_getElem F,dO ys j F];rfl
     rw[h1]at hj;exact(Option.some.inj hj).symm
    rw[hx,Addr.add_lit];exact G) (fun x hx=>by
    obtain⟨y,_,rfl⟩:=List.mem_map.1 hx;rfl) J C E
  exact⟨v',w',H,qH h2 rfl,h3,h5⟩
theorem oZ {P:Program} {ops:Array Oper} {o:Oper} {a:Act} {w:World} {K':Act->World->Prop} {Q:Exit->Act->World->Prop} {E:Prop} (H:o.guard=none) (s x:Operand) (t:TypeId)
  (ho:o.op=.call {callee:=.builtin .append,args:=#[s,x],argTypes:=#[t,t]})
  (B:Nat) (e:TypeId) (K:IntKind) (i:TypeInfo) (bytes:Nat) (ht:P.underlying t=some (.slice e)) (hi:P.info? e=some i) (hz:i.zero=some (.int K 0)) (C:i.size=1) (I:i.bytes=bytes)
  (v:Value) (xs:List Int) (hs:a.eval s=v) (F:aH w B e K v xs) (u:Value) (ys:List Int) (hx:a.eval x=u) (hr:Rd w K u ys)
  (J:xs.length+ys.length<=maxLen) (A:(xs.length+ys.length)*bytes<=140737488355328) (D:B<=w.heap.size)
  (h:∀v' w',aH w' B e K v' (xs++ys)->w.grownBy w' v.ownBlock->(v'.ownBlock=v.ownBlock\/v'.ownBlock=some w.heap.size)->K' (a.put o.dst v') w'):
  if Region.wanted o (yielded ops a.tmps)=true then Oper.wp P o a w K' Q else E:=by
 have hw:Region.wanted o (yielded ops a.tmps)=true:=by simp[Region.wanted,H]
 rw[if_pos hw];obtain⟨v',w',G,h2,h3,h4⟩:=vZ (P:=P) w t o.type B e K i bytes ht hi hz C I v xs F u ys hr J A D;unfold Oper.wp execOp;simp only[ho,resolve,invoke,builtin,Sem.run_bind,Sem.run_pure,Result.andThen_ok,List.map_toArray,List.map_cons,List.map_nil,hs,hx,G];exact h v' w' h2 h3 h4
theorem kI {P:Program} {ops:Array Oper} {rest:List Oper} {o:Oper} {a:Act} {w:World} {Q:Exit->Act->World->Prop} (G:o.guard=none) (s x:Operand) (t:TypeId)
  (ho:o.op=.call {callee:=.builtin .append,args:=#[s,x],argTypes:=#[t,t]})
  (B:Nat) (e:TypeId) (K:IntKind) (i:TypeInfo) (bytes:Nat) (ht:P.underlying t=some (.slice e)) (hi:P.info? e=some i) (hz:i.zero=some (.int K 0)) (C:i.size=1) (H:i.bytes=bytes)
  (v:Value) (xs:List Int) (hs:a.eval s=v) (E:aH w B e K v xs) (u:Value) (ys:List Int) (hx:a.eval x=u) (hr:Rd w K u ys)
  (I:xs.length+ys.length<=maxLen) (A:(xs.length+ys.length)*bytes<=140737488355328) (D:B<=w.heap.size)
  (h:∀v' w',aH w' B e K v' (xs++ys)->w.grownBy w' v.ownBlock->(v'.ownBlock=v.ownBlock\/v'.ownBlock=some w.heap.size)->wpList P ops Q rest (a.put o.dst v') w'):
  wpList P ops Q (o::rest) a w:=by refine wpList_plain G fun K' hK=>?_;obtain⟨v',w',F,h2,h3,h4⟩:=vZ (P:=P) w t o.type B e K i bytes ht hi hz C H v xs E u ys hr I A D;unfold Oper.wp execOp;simp only[ho,resolve,invoke,builtin,Sem.run_bind,Sem.run_pure,Result.andThen_ok,List.map_toArray,List.map_cons,List.map_nil,hs,hx,F];exact hK _ _ (h v' w' h2 h3 h4)
theorem aH.lit (w:World) (K:IntKind) (xs:List Int) (e:TypeId) (h0:xs.length<=maxLen):aH (w.alloc (.cells (xs.map (Value.int K)).toArray e)) w.heap.size e K (.slice (some ⟨w.heap.size,0,none⟩) xs.length xs.length) xs:=
 ⟨by simp,.inr ⟨w.heap.size,xs.length,_,rfl,Zb _,heap_alloc_new w _,Zb _,h0,by simp,by simp[List.take_of_length_le]⟩⟩
theorem qC {w w':World} {B:Nat} {e:TypeId} {s n:Nat} {v:Value} {xs:List Value} (h:w.ownsRow B e s v n xs) (hg:w.grownBy w' v.ownBlock) (hB:B<=w.heap.size):Below B w w':=
 (Zc B w).grown hg hB (fun k hk=>(h.lt k hk).1)
theorem jX:(Tryz.prog.info? 3).map (fun i=>(i.zero,i.size,i.bytes))=some (some (.int .i64 0),1,8):=by kernel_rfl
theorem rW (v:Value) (xs:List Int) (w:World) (hr:Rd w .i64 v xs) (hl:xs.length<=100000000):
  Calls Tryz.prog 123 #[v] w fun e w'=>(∃v',e=.returned v'/\aH w' w.heap.size 3 .i64 v' xs)/\Below w.heap.size w w':=by
 obtain⟨o,cap,rfl,hc⟩:=hr;cases o with
 |none=>
  have hx:xs=[]:=by
   cases xs with
   |nil=>rfl
   |cons x xs=>obtain⟨b,off,he,_⟩:=hc 0 (by simp);cases he
  subst hx;clear hc;have hq:=fun(W:World)=>Lib.run_eql_slice_nil (P:=Tryz.prog) W 30 3 none 0 cap 0 0 Tryz.underlying30;go_enter Tryz.func123,Tryz.ntmps123;go_wp2;go_ret;exact⟨⟨_,rfl,World.ownsRow_nil _ _ _ _⟩,Zc _ _⟩
 |some a=>
  have I:=Za (show Rd w .i64 (.slice (some a) xs.length cap) xs from⟨_,cap,rfl,hc⟩);clear hc;obtain⟨i0,hi,B,C,D⟩:=info_parts jX;have hb:Below w.heap.size w (w.alloc (.cells #[] 3)):=(Zc _ _).alloc (Zb _) _;have G:=Za (show aH (w.alloc (.cells #[] 3)) w.heap.size 3 .i64 (.slice (some ⟨w.heap.size,0,none⟩) 0 0) [] from aH.lit w .i64 [] 3 (Ze _));have H:=Za hb;clear hb;have hq:=fun(W:World)=>Lib.run_eql_slice_nil (P:=Tryz.prog) W 30 3 (some a) xs.length cap 0 0 Tryz.underlying30;go_enter Tryz.func123,Tryz.ntmps123;go_wp2_with(at_builtin;refine aD ?_);refine aC ?_;refine kI rfl _ _ 30 rfl w.heap.size 3 .i64 i0 8 Tryz.underlying30 hi B C D _ [] rfl G.o _ xs rfl (I.o.below H.o (Zb _)) (by unfold maxLen;simp;omega) (by simp;omega) (by simp) ?_;intro v' w1 A hg E;rw[List.nil_append]at A;obtain⟨a',k',rfl⟩:=aJ A;have J:=Za A;have F:=Za (H.o.trans (qC G.o hg (by simp)));clear A hg E;go_wp2_with fail;go_ret;exact⟨⟨_,rfl,J.o⟩,F.o⟩
theorem UW (c:Int) (hc:c=1\/c=2) (w:World):
  Calls Tryz.prog 219 #[.int .u64 1,.int .u64 c] w fun e w'=>e=.returned (.tuple #[.int .u64 0,.int .u64 c])/\w=w':=by
 rcases hc with rfl|rfl
 all_goals
  go_enter Tryz.func219,Tryz.ntmps219;go_wp2;go_ret2;exact⟨rfl,rfl⟩
theorem AF (c:Int) (hc:c=1\/c=2) (w:World):
  Calls Tryz.prog 217 #[.int .u64 1,.int .u64 c] w fun e w'=>e=.returned (.tuple #[.int .u64 0,.int .u64 c])/\w=w':=by
 have hm:=UW c hc;rcases hc with rfl|rfl
 all_goals
  go_enter Tryz.func217,Tryz.ntmps217;go_wp2_with fail;refine(hm _).mono ?_;rintro e w' ⟨rfl,rfl⟩;go_wp2;go_ret2;exact⟨rfl,rfl⟩
theorem D5 {w:World} {B:Nat} {e:TypeId} {g n:Nat} {xs:List Value} (h:w.ownsRow B e 1 (.slice (some ⟨g,0,none⟩) n n) n xs):w.heap[g]?=some (.cells xs.toArray e (0,0))/\B<=g:=by
 rcases h.2 with⟨h1,_⟩|⟨g',cap',cur,h1,hb,hg,h4,h5,h6,ht⟩
 ·simp at h1
 ·simp at h1;obtain⟨rfl,rfl⟩:=h1;have:cur=xs.toArray:=by rw[<-ht,List.take_of_length_le (by simp;omega)]
  rw[this]at hg;exact⟨hg,hb⟩
theorem EU {w:World} {B:Nat} {e:TypeId} {g:Nat} {xs:List Value} (hg:w.heap[g]?=some (.cells xs.toArray e (0,0))) (hB:B<=g) (hl:xs.length<=maxLen) (h1:∀v∈xs,v.oneCell'=true):w.ownsRow B e 1 (.slice (some ⟨g,0,none⟩) xs.length xs.length) xs.length xs:=
 ⟨by simp,.inr ⟨g,xs.length,_,rfl,hB,hg,Zb _,hl,by simp,by simp[List.take_of_length_le]⟩⟩
theorem vX:(Tryz.prog.info? 3).map (·.size)=some 1:=by kernel_rfl
theorem GT (b:Nat) (v:Int) (w:World) (hb:aA w b 3 #[.int .i64 v]):
  Calls Tryz.prog 216 #[.slice (some ⟨b,0,none⟩) 1 1,.int .i64 1] w fun e w'=>(∃v',e=.returned v'/\aH w' w.heap.size 3 .i64 v' [v])/\Below w.heap.size w w':=by
 obtain⟨i0,hi,G,H,I⟩:=info_parts jX;have c0:=hb.cell 0 rfl;have hm:=AF 1 (.inl rfl);go_enter Tryz.func216,Tryz.ntmps216;go_wp2_with fail;refine(hm _).mono ?_;rintro e w' ⟨rfl,rfl⟩;go_wp2_with(at_make;refine wpList_make_full _ rfl _ _ 30 rfl w.heap.size 3 i0 (.int .i64 0) 1 Tryz.underlying30 hi G H .i64 .i64 _ _ 1 rfl rfl rfl rfl (by rw[I];omega) (by unfold maxLen;omega) (Zb _) ?_;intro w1 E hg;refine aD ?_);rw[sV]at E;obtain⟨C,_⟩:=D5 E;have D:=Za C;have N:=Za (lM hg);have L:=Za (hb.next (lM hg));clear E hg C hi G H I hm;have J:=run_copy_row (P:=Tryz.prog) w1 30 30 3 3 w.heap.size 0 1 1 ⟨b,0,none⟩ 1 1 _ 3 [.int .i64 v] Tryz.underlying30 vX D.o rfl (fun j u hj=>by cases j with|zero=>(simp at hj;subst hj;exact L.o.cell 0 rfl)|succ j=>simp at hj) (by simp) (by simp[Value.oneCell']);obtain⟨w2,B⟩:=Zx (w1.setRow w.heap.size #[.int .i64 v]);have A:w2.heap[w.heap.size]?=some (.cells [Value.int .i64 v].toArray 3 (0,0)):=by rw[B];exact setRow_heap w1 _ _ _ 3 _ D.o
 have F:=Za A;have M:=Za (show Below w.heap.size w w2 by rw[B];exact below_setRow N.o (Zb _) _);simp only[List.take_zero,List.nil_append,List.map_cons,List.map_nil,List.replicate,List.length_singleton,List.length_cons,List.length_nil,Nat.zero_add,List.drop_succ_cons,List.drop_nil,List.append_nil,List.drop_zero,List.drop_one,List.tail_cons]at J;rw[<-B]at J;clear B A;refine aC ?_;go_wp2;go_loopw[8] (fun i wr=>i=.int .i64 1/\Hid (wr=w2)) (fun _ _=>0)
 case atStart=>exact⟨rfl,Za rfl⟩
 case round=>
  obtain⟨rfl,O⟩:=hrel;go_wp2;go_ret;rw[O.o];exact⟨⟨_,rfl,EU F.o (Zb _) (by unfold maxLen;simp) (by simp[Value.oneCell'])⟩,M.o⟩
theorem VH (b:Nat) (v:Int) (w:World) (hb:aA w b 3 #[.int .i64 v]):
  Calls Tryz.prog 216 #[.slice (some ⟨b,0,none⟩) 1 1,.int .i64 2] w fun e w'=>(∃v',e=.returned v'/\aH w' w.heap.size 3 .i64 v' [v,v])/\Below w.heap.size w w':=by
 obtain⟨i0,hi,O,R,T⟩:=info_parts jX;have c0:=hb.cell 0 rfl;have hm:=AF 2 (.inr rfl);go_enter Tryz.func216,Tryz.ntmps216;go_wp2_with fail;refine(hm _).mono ?_;rintro e w' ⟨rfl,rfl⟩;go_wp2_with(at_make;refine wpList_make_full _ rfl _ _ 30 rfl w.heap.size 3 i0 (.int .i64 0) 1 Tryz.underlying30 hi O R .i64 .i64 _ _ 2 rfl rfl rfl rfl (by rw[T];omega) (by unfold maxLen;omega) (Zb _) ?_;intro w1 H hg;refine aD ?_);rw[sV]at H;obtain⟨E,_⟩:=D5 H;have F:=Za (show w1.heap[w.heap.size]?=some (.cells #[.int .i64 0,.int .i64 0] 3 (0,0))from E);have HB:=Za (lM hg);have X:=Za (hb.next (lM hg));clear H hg E hi O R T hm;have I:=run_copy_row (P:=Tryz.prog) w1 30 30 3 3 w.heap.size 0 2 2 ⟨b,0,none⟩ 1 1 _ 3 [.int .i64 v] Tryz.underlying30 vX F.o rfl (fun j u J=>by cases j with|zero=>(simp at J;subst J;exact X.o.cell 0 rfl)|succ j=>simp at J) (by simp) (by simp[Value.oneCell']);obtain⟨w2,C⟩:=Zx (w1.setRow w.heap.size #[.int .i64 v,.int .i64 0]);have A:w2.heap[w.heap.size]?=some (.cells [Value.int .i64 v,.int .i64 0].toArray 3 (0,0)):=by rw[C];exact setRow_heap w1 _ _ _ 3 _ F.o
 have L:=Za A;have Y:=Za (show w2.cell? ⟨w.heap.size,0,none⟩=some (.int .i64 v) by rw[cell_of_row _ _ _ _ _ _ A];rfl);have Z:=Za (show Below w.heap.size w w2 by rw[C];exact below_setRow HB.o (Zb _) _)
 replace I:(Builtin.copy_ #[30,30] 3 #[.slice (some ⟨w.heap.size,0,none⟩) 2 2,.slice (some ⟨b,0,none⟩) 1 1]).run Tryz.prog w1=.ok (goInt 1) w2:=by rw[C];exact I
 clear C A;refine aC ?_;go_wp2;go_loopw[8] (fun i wr=>∃k:Nat,i=.int .i64 k/\Hid ((k=1/\wr=w2)\/(k=2/\wr.heap[w.heap.size]?=some (.cells [Value.int .i64 v,.int .i64 v].toArray 3 (0,0))/\Below w.heap.size w wr))) (fun i _=>2-(intOf i).toNat)
 case atStart=>exact⟨1,rfl,Za (.inl ⟨rfl,rfl⟩)⟩
 case round=>
  obtain⟨k,rfl,HK⟩:=hrel;rcases HK.o with⟨rfl,he⟩|⟨rfl,U,V⟩
  ·have HE:=Za he;clear HK he;rw[HE.o];go_wp2;have B:w2.drew.heap[w.heap.size]?=some (.cells [Value.int .i64 v,.int .i64 0].toArray 3 (0,0)):=L.o;have G:=run_copy_row (P:=Tryz.prog) w2.drew 30 30 3 3 w.heap.size 1 1 1 ⟨w.heap.size,0,none⟩ 1 2 _ 3 [.int .i64 v] Tryz.underlying30 vX B rfl (fun j u J=>by cases j with|zero=>(simp at J;subst J;exact Y.o)|succ j=>simp at J) (by simp) (by simp[Value.oneCell']);obtain⟨w3,D⟩:=Zx (w2.drew.setRow w.heap.size #[.int .i64 v,.int .i64 v]);have M:=Za (show w3.heap[w.heap.size]?=some (.cells [Value.int .i64 v,.int .i64 v].toArray 3 (0,0)) by rw[D];exact setRow_heap _ _ _ _ 3 _ B);have N:=Za (show Below w.heap.size w w3 by rw[D];exact below_setRow Z.o.drew (Zb _) _)
   replace G:(Builtin.copy_ #[30,30] 3 #[.slice (some ⟨w.heap.size,1,none⟩) 1 1,.slice (some ⟨w.heap.size,0,none⟩) 1 2]).run Tryz.prog w2.drew=.ok (goInt 1) w3:=by rw[D];exact G
   clear D B I;go_region;go_wp2;go_roundw
   case rel=>exact⟨2,rfl,Za (.inr ⟨rfl,M.o,N.o⟩)⟩
   case measure=>simp[intOf]
  ·have aa:=Za U;have N:=Za V;clear HK U V;go_wp2;go_ret;exact⟨⟨_,rfl,EU aa.o (Zb _) (by unfold maxLen;simp) (by simp[Value.oneCell'])⟩,N.o⟩
theorem qM (n:Int) (o:Option Addr) (m cap:Nat) (w:World) (hm:m=2\/m=3):
  Calls Tryz.prog 213 #[.int .i64 n,.slice o m cap] w fun e w'=>(∃v,e=.returned v/\aH w' w.heap.size 3 .i64 v (List.replicate (m-1) n))/\Below w.heap.size w w':=by
 have A:aA (w.alloc (.cells #[.int .i64 n] 3)) w.heap.size 3 #[.int .i64 n]:=aA.new w _ _;rcases hm with rfl|rfl
 ·have B:=Za (GT w.heap.size n _ A);clear A;go_enter Tryz.func213,Tryz.ntmps213;go_wp2_with fail;refine B.o.mono ?_;rintro e w' ⟨⟨v,rfl,ho⟩,hb⟩;have C:=Za (bY ho (show w.heap.size<=_ by simp));have D:=Za (((Zc _ w).alloc (Zb _) _).trans (hb.mono (by simp)));clear ho hb B;go_wp2;go_ret;exact⟨⟨_,rfl,C.o⟩,D.o⟩
 ·have B:=Za (VH w.heap.size n _ A);clear A;go_enter Tryz.func213,Tryz.ntmps213;go_wp2_with fail;refine B.o.mono ?_;rintro e w' ⟨⟨v,rfl,ho⟩,hb⟩;have C:=Za (bY ho (show w.heap.size<=_ by simp));have D:=Za (((Zc _ w).alloc (Zb _) _).trans (hb.mono (by simp)));clear ho hb B;go_wp2;go_ret;exact⟨⟨_,rfl,C.o⟩,D.o⟩
def cR (size stride pad:Int):List Int->Option (List Int)
 |[]=>some []
 |l::r=>if l+2*pad-(size-1)-1<0 then none else(cR size stride pad r).map (fun t=>((l+2*pad-(size-1)-1) / stride+1)::t)
def dQ (s:List Int):Bool:=bA (1::s)
def eZ (n:aE):Int:=if n.kind=2 then n.stride else n.size
def bZ (n:aE) (s:List Int):Option (List Int):=if s.length=2\/s.length=3 then cR n.size (eZ n) n.pad s.tail else none
def aK (n:aE) (first:Bool) (s:List Int):Option (List Int×List (List Int)):=
 if n.kind=1 then(if 1<=s.length/\s.length<=2/\aF s (s.length-1)=n.inn then some (s.take (s.length-1)++[n.o],[[n.inn,n.o],[n.o]]) else none)
 else if n.kind=2 then(match bZ n s with
  |none=>none
  |some p=>if aF s 0=n.inn then some (n.o::p,[[n.o,n.inn]++List.replicate (s.length-1) n.size,[n.o]++List.replicate (s.length-1) 1]) else none)
 else if n.kind=8\/n.kind=9 then(match bZ n s with
  |none=>none
  |some p=>some (aF s 0::p,[]))
 else if n.kind=10 then some ([bG s],[])
 else if n.kind=11 then(if first=true/\s.length=1 then some ([aF s 0,n.o],[[n.inn,n.o]]) else none)
 else if n.kind=12 then(if s.length=2/\aF s 1=n.inn/\n.inn%n.heads=0 then some (s,List.replicate 4 [n.inn,n.inn]) else none)
 else some (s,[])
def gK (n:aE) (first:Bool) (s:List Int):Option (List Int×List (List Int)):=
 match aK n first s with
 |none=>none
 |some p=>if dQ p.1&&p.2.all bA then some p else none
mutual
def dD (first:Bool) (s:List Int):aB->Option (List Int×List (List Int))
 |.mk n body=>if n.kind=13 then(match bV false s body with
   |none=>none
   |some p=>if p.1=s then some (s,p.2) else none)
  else gK n first s
def bV (first:Bool) (s:List Int):List aB->Option (List Int×List (List Int))
 |[]=>some (s,[])
 |l::r=>match dD first s l with
  |none=>none
  |some p=>match bV false p.1 r with
   |none=>none
   |some q=>some (q.1,p.2++q.2)
end
def eN (d:bI):Option (List Int×List (List Int)):=
 if dM d&&dQ d.input then(match bV true d.input d.lays with
  |none=>none
  |some p=>if d.loss=1/\p.1.length≠1 then none else some p) else none
end Go.Proofs.YtjhkdocidcfpdaaGreatDoor
namespace Go.Proofs.YtjhkdocidcfpdaaGreatDoor
open Go
theorem LU {l n:Nat} {P:Program} {f:FuncId} {args:Array Value} {w:World} {R:Ending->World->Prop} (h:Calls P f args w R):CallsIn (Fence.wide.inRound l) n P f args w R:=by have:=(callsIn_wide (n:=n)).2 h;exact⟨trivial,this.2⟩
theorem PQ {l n:Nat} {P:Program} {row:String} {args:Array Value} {w:World} {R:Value->World->Prop} (h:Rows P row args w R):RowsIn (Fence.wide.inRound l) n P row args w R:=fun c cs _=>by
 obtain⟨v,w',r,s⟩:=h c cs;exact⟨v,w',r,stepsIn_wide.2 s⟩
theorem NK {l n:Nat} {P:Program} {o:Oper} {a:Act} {K:Act->World->Prop} {Q:Exit->Act->World->Prop} {r:Result Next} (h:o.upon P a K Q r):o.uponIn (Fence.wide.inRound l) n P a K Q r:=by
 cases r with
 |ok x w'=>
  cases x<;>first
   |exact h
   |exact(h:False).elim
   |exact⟨fun h=>by simp[Fence.wide,Fence.inRound]at h,LU h⟩
   |exact⟨fun h=>by simp[Fence.wide,Fence.inRound]at h,PQ h⟩
 |halt x w'=>cases x<;>exact h
theorem IN {l n:Nat} {P:Program} {o:Oper} {a:Act} {w:World} {K:Act->World->Prop} {Q:Exit->Act->World->Prop} (hd:∀c,o.op≠.defer c) (h:o.wp P a w K Q):o.wpIn (Fence.wide.inRound l) n P a w K Q:=by refine⟨fun _ _=>trivial,?_⟩;rw[Fence.inRound_round,Oper.semAt_some l _ _ hd];exact NK h
theorem LH {l n:Nat} {P:Program} {ops:Array Oper} {i:Nat} {a:Act} {w:World} {K K':Act->World->Prop} {Q:Exit->Act->World->Prop} (hd:∀(j:Nat) (o:Oper) c,ops[j]?=some o->o.op≠.defer c) (hL:¬LetsOut Q)
  (hK:∀a w,K a w->K' a w) (h:wpOp P ops Q i K a w):wpOpIn (Fence.wide.inRound l) n P ops Q i K' a w:=by
 unfold wpOp at h;unfold wpOpIn;cases ho:ops[i]? with
 |none=>rw[ho]at h;exact hK _ _ h
 |some o=>
  rw[ho]at h;simp only at h ⊢;split
  ·rename_i hw;rw[if_pos hw]at h;rcases h with h|h
   ·exact Oper.wpIn_mono hK (IN (fun c=>hd i o c ho) h)
   ·exact absurd h.2 hL
  ·rename_i hw;rw[if_neg hw]at h;exact⟨fun _ _=>trivial,hK _ _ h⟩
theorem FX {l n:Nat} {P:Program} {md:Region.Mode} {ops:Array Oper} {Q:Exit->Act->World->Prop} (hd:∀(j:Nat) (o:Oper) c,ops[j]?=some o->o.op≠.defer c) (hL:¬LetsOut Q):
  ∀(fuel:Nat) (listed:Array Bool) (a:Act) (w:World),wpAny P md ops Q fuel listed a w->wpAnyIn (Fence.wide.inRound l) n P md ops Q fuel listed a w
 |0,_,_,_,h=>h
 |fuel+1,listed,a,w,h=>⟨h.1,fun i hi=>LH hd hL (fun a' w' h'=>FX hd hL fuel _ a' w' h') (h.2 i hi)⟩
theorem IE {l n:Nat} {P:Program} {id:Nat} {ops:Array Oper} {Q:Exit->Act->World->Prop} {a:Act} {w:World} (hm:P.follows .mixedOrders=true) (hd:∀(j:Nat) (o:Oper) c,ops[j]?=some o->o.op≠.defer c) (hL:¬LetsOut Q)
  (h:wpAny P .any ops Q ops.size (Array.replicate ops.size false) a w.drew):(Code.region id ops true).wpIn (Fence.wide.inRound l) n P Q a w:=
 wpIn_region_any hm (FX hd hL _ _ _ _ h)
end Go.Proofs.YtjhkdocidcfpdaaGreatDoor
namespace Go.Proofs.YtjhkdocidcfpdaaGreatDoor
open Go.RowKit Go.Shelf Go
def zY (ops:Array Oper):Bool:=ops.all fun o=>match o.op with|.defer _=>false|_=>true
theorem IF {ops:Array Oper} (h:zY ops=true):∀(j:Nat) (o:Oper) c,ops[j]?=some o->o.op≠.defer c:=fun j o c hj he=>by
 obtain⟨A,rfl⟩:=Array.getElem?_eq_some_iff.1 hj;have:=(Array.all_eq_true.1 h) j A;rw[he]at this;cases this
theorem RY {l n:Nat} {P:Program} {id:Nat} {ops:Array Oper} {Q:Exit->Act->World->Prop} {S:World->Prop} {a:Act} {w:World} (hm:P.follows .mixedOrders=true) (hd:zY ops=true) (hL:¬LetsOut Q) (hS:S w.drew)
  (h:S w.drew->wpAnyH P .any ops Q S ops.size (Array.replicate ops.size false) a w.drew):(Code.region id ops true).wpIn (Fence.wide.inRound l) n P Q a w:=
 IE hm (IF hd) hL (wpAny_of_held _ _ _ _ (h hS))
theorem sS {P:Program} {ops:Array Oper} {o:Oper} {a:Act} {w:World} {K':Act->World->Prop} {Q:Exit->Act->World->Prop} {E:Prop} (I:o.guard=none) (s x:Operand) (t:TypeId)
  (ho:o.op=.call {callee:=.builtin .append,args:=#[s,x],argTypes:=#[t,t]})
  (B:Nat) (e:TypeId) (i:TypeInfo) (z:Value) (size bytes:Nat) (ht:P.underlying t=some (.slice e)) (hi:P.info? e=some i) (hz:i.zero=some z) (C:i.size=size) (J:i.bytes=bytes) (L:z.cells.size=size) (M:0<size)
  (v:Value) (n:Nat) (xs:List Value) (hs:a.eval s=v) (G:w.ownsRow B e size v n xs) (ad:Addr) (m c:Nat) (news:List Value) (hx:a.eval x=.slice (some ad) m c) (hl:news.length=m*size) (D:∀j u,news[j]?=some u->w.cell? (ad.add j)=some u) (h1:∀u∈news,u.oneCell'=true)
  (N:n+m<=maxLen) (A:(n+m)*bytes<=140737488355328) (F:B<=w.heap.size)
  (h:∀v' w',w'.ownsRow B e size v' (n+m) (xs++news)->w.grownBy w' v.ownBlock->(v'.ownBlock=v.ownBlock\/v'.ownBlock=some w.heap.size)->K' (a.put o.dst v') w'):
  if Region.wanted o (yielded ops a.tmps)=true then Oper.wp P o a w K' Q else E:=by
 have hw:Region.wanted o (yielded ops a.tmps)=true:=by simp[Region.wanted,I]
 rw[if_pos hw];obtain⟨v',w',H,h2,h3,_,h4⟩:=run_append_own_at (P:=P) w B t o.type e i z size bytes ht hi hz C J L M v n xs G ad m c news hl D h1 N A F;unfold Oper.wp execOp;simp only[ho,resolve,invoke,builtin,Sem.run_bind,Sem.run_pure,Result.andThen_ok,List.map_toArray,List.map_cons,List.map_nil,hs,hx,H];exact h v' w' h2 h3 h4
def aQ (n:Nat):Nat->List Int
 |0=>[]
 |k+1=>((n / 256^k%256:Nat):Int)::aQ n k
theorem cO (n k:Nat):(aQ n k).length=k:=by induction k<;>simp[aQ, *]
theorem rV:(Tryz.prog.info? 5).map (fun i=>(i.zero,i.size,i.bytes))=some (some (.int .u8 0),1,1):=by kernel_rfl
theorem GK (n:Nat) (h:n<18446744073709551616):aQ (n / 4294967296) 4++aQ n 4=aQ n 8:=by
 have e:∀k,n / 4294967296 / 256^k=n / 256^(k+4):=fun k=>by rw[Nat.div_div_eq_div_mul,Nat.pow_add,Nat.mul_comm (256^k)]
 simp only[aQ,e];rfl
end Go.Proofs.YtjhkdocidcfpdaaGreatDoor
namespace Go.Proofs.YtjhkdocidcfpdaaGreatDoor
open Go.RowKit Go.Shelf Go.Sort
def GI:Go.Shelf.Ren:=⟨fun|171=>100|243=>141|246=>171|283=>190|284=>191|285=>192|286=>193|129=>199|317=>198|318=>200|319=>201|320=>202|337=>205|338=>206|n=>n,fun|3=>3|9=>9|2=>2|4=>4|171=>262|0=>0|53=>40|37=>23|5=>5|173=>265|212=>272|51=>27|20=>20|213=>273|46=>29|232=>281|233=>282|n=>n,fun|17=>0|18=>1|19=>2|n=>n⟩
theorem SN:Go.Proofs.LaysM.n171 Tryz.prog GI:={
 mixed:=by kernel_rfl
 f129:=Tryz.func199.trans (congrArg some (by kernel_rfl))
 f171:=Tryz.func100.trans (congrArg some (by kernel_rfl))
 f243:=Tryz.func141.trans (congrArg some (by kernel_rfl))
 f246:=Tryz.func171.trans (congrArg some (by kernel_rfl))
 f283:=Tryz.func190.trans (congrArg some (by kernel_rfl))
 f284:=Tryz.func191.trans (congrArg some (by kernel_rfl))
 f285:=Tryz.func192.trans (congrArg some (by kernel_rfl))
 f286:=Tryz.func193.trans (congrArg some (by kernel_rfl))
 f317:=Tryz.func198.trans (congrArg some (by kernel_rfl))
 f318:=Tryz.func200.trans (congrArg some (by kernel_rfl))
 f319:=Tryz.func201.trans (congrArg some (by kernel_rfl))
 f320:=Tryz.func202.trans (congrArg some (by kernel_rfl))
 f337:=Tryz.func205.trans (congrArg some (by kernel_rfl))
 f338:=Tryz.func206.trans (congrArg some (by kernel_rfl))
 t0:=Tryz.underlying0
 a0:=Tryz.isAgg0
 z0:=Tryz.sizeOf0
 v0:=Tryz.zeroValue0
 t2:=Tryz.underlying2
 a2:=Tryz.isAgg2
 z2:=Tryz.sizeOf2
 v2:=Tryz.zeroValue2
 t3:=Tryz.underlying3
 a3:=Tryz.isAgg3
 z3:=Tryz.sizeOf3
 v3:=Tryz.zeroValue3
 t4:=Tryz.underlying4
 a4:=Tryz.isAgg4
 z4:=Tryz.sizeOf4
 v4:=Tryz.zeroValue4
 t5:=Tryz.underlying5
 a5:=Tryz.isAgg5
 z5:=Tryz.sizeOf5
 v5:=Tryz.zeroValue5
 t9:=Tryz.underlying9
 a9:=Tryz.isAgg9
 z9:=Tryz.sizeOf9
 v9:=Tryz.zeroValue9
 t20:=Tryz.underlying20
 a20:=Tryz.isAgg20
 z20:=Tryz.sizeOf20
 v20:=Tryz.zeroValue20
 t37:=Tryz.underlying23
 a37:=Tryz.isAgg23
 z37:=Tryz.sizeOf23
 v37:=Tryz.zeroValue23
 t46:=Tryz.underlying29
 a46:=Tryz.isAgg29
 z46:=Tryz.sizeOf29
 v46:=Tryz.zeroValue29
 t51:=Tryz.underlying27
 a51:=Tryz.isAgg27
 z51:=Tryz.sizeOf27
 v51:=Tryz.zeroValue27
 t53:=Tryz.underlying40
 a53:=Tryz.isAgg40
 z53:=Tryz.sizeOf40
 v53:=Tryz.zeroValue40
 t171:=Tryz.underlying262
 a171:=Tryz.isAgg262
 z171:=Tryz.sizeOf262
 v171:=Tryz.zeroValue262
 t173:=Tryz.underlying265
 a173:=Tryz.isAgg265
 z173:=Tryz.sizeOf265
 v173:=Tryz.zeroValue265
 t212:=Tryz.underlying272
 a212:=Tryz.isAgg272
 z212:=Tryz.sizeOf272
 v212:=Tryz.zeroValue272
 t213:=Tryz.underlying273
 a213:=Tryz.isAgg273
 z213:=Tryz.sizeOf273
 t232:=Tryz.underlying281
 a232:=Tryz.isAgg281
 z232:=Tryz.sizeOf281
 v232:=Tryz.zeroValue281
 t233:=Tryz.underlying282
 a233:=Tryz.isAgg282
 z233:=Tryz.sizeOf282
 v233:=Tryz.zeroValue282
 g17:=by kernel_rfl
 g18:=by kernel_rfl
 g19:=by kernel_rfl
 i0:=by kernel_rfl
 i2:=by kernel_rfl
 i3:=by kernel_rfl
 i4:=by kernel_rfl
 i5:=by kernel_rfl
 i9:=by kernel_rfl
 i20:=by kernel_rfl
 i37:=by kernel_rfl
 i46:=by kernel_rfl
 i51:=by kernel_rfl
 i53:=by kernel_rfl
 i171:=by kernel_rfl
 i173:=by kernel_rfl
 i212:=by kernel_rfl
 i232:=by kernel_rfl
 i233:=by kernel_rfl
 m17:=by kernel_rfl
 m18:=by kernel_rfl
 m19:=by kernel_rfl}
def U6:Go.Shelf.Ren:=⟨fun|171=>100|243=>141|246=>171|283=>190|284=>191|285=>192|286=>193|129=>199|317=>198|318=>200|319=>201|320=>202|337=>205|338=>206|n=>n,fun|3=>3|9=>9|2=>2|4=>4|171=>262|0=>0|53=>40|37=>23|5=>5|173=>265|212=>272|51=>27|20=>20|213=>273|46=>29|232=>281|233=>282|n=>n,fun|17=>0|18=>1|19=>2|n=>n⟩
theorem TF:Go.Proofs.Lays.n171 Tryz.prog U6:={
 mixed:=by kernel_rfl
 f129:=Tryz.func199.trans (congrArg some (by kernel_rfl))
 f171:=Tryz.func100.trans (congrArg some (by kernel_rfl))
 f243:=Tryz.func141.trans (congrArg some (by kernel_rfl))
 f246:=Tryz.func171.trans (congrArg some (by kernel_rfl))
 f283:=Tryz.func190.trans (congrArg some (by kernel_rfl))
 f284:=Tryz.func191.trans (congrArg some (by kernel_rfl))
 f285:=Tryz.func192.trans (congrArg some (by kernel_rfl))
 f286:=Tryz.func193.trans (congrArg some (by kernel_rfl))
 f317:=Tryz.func198.trans (congrArg some (by kernel_rfl))
 f318:=Tryz.func200.trans (congrArg some (by kernel_rfl))
 f319:=Tryz.func201.trans (congrArg some (by kernel_rfl))
 f320:=Tryz.func202.trans (congrArg some (by kernel_rfl))
 f337:=Tryz.func205.trans (congrArg some (by kernel_rfl))
 f338:=Tryz.func206.trans (congrArg some (by kernel_rfl))
 t0:=Tryz.underlying0
 a0:=Tryz.isAgg0
 z0:=Tryz.sizeOf0
 v0:=Tryz.zeroValue0
 t2:=Tryz.underlying2
 a2:=Tryz.isAgg2
 z2:=Tryz.sizeOf2
 v2:=Tryz.zeroValue2
 t3:=Tryz.underlying3
 a3:=Tryz.isAgg3
 z3:=Tryz.sizeOf3
 v3:=Tryz.zeroValue3
 t4:=Tryz.underlying4
 a4:=Tryz.isAgg4
 z4:=Tryz.sizeOf4
 v4:=Tryz.zeroValue4
 t5:=Tryz.underlying5
 a5:=Tryz.isAgg5
 z5:=Tryz.sizeOf5
 v5:=Tryz.zeroValue5
 t9:=Tryz.underlying9
 a9:=Tryz.isAgg9
 z9:=Tryz.sizeOf9
 v9:=Tryz.zeroValue9
 t20:=Tryz.underlying20
 a20:=Tryz.isAgg20
 z20:=Tryz.sizeOf20
 v20:=Tryz.zeroValue20
 t37:=Tryz.underlying23
 a37:=Tryz.isAgg23
 z37:=Tryz.sizeOf23
 v37:=Tryz.zeroValue23
 t46:=Tryz.underlying29
 a46:=Tryz.isAgg29
 z46:=Tryz.sizeOf29
 v46:=Tryz.zeroValue29
 t51:=Tryz.underlying27
 a51:=Tryz.isAgg27
 z51:=Tryz.sizeOf27
 v51:=Tryz.zeroValue27
 t53:=Tryz.underlying40
 a53:=Tryz.isAgg40
 z53:=Tryz.sizeOf40
 v53:=Tryz.zeroValue40
 t171:=Tryz.underlying262
 a171:=Tryz.isAgg262
 z171:=Tryz.sizeOf262
 v171:=Tryz.zeroValue262
 t173:=Tryz.underlying265
 a173:=Tryz.isAgg265
 z173:=Tryz.sizeOf265
 v173:=Tryz.zeroValue265
 t212:=Tryz.underlying272
 a212:=Tryz.isAgg272
 z212:=Tryz.sizeOf272
 v212:=Tryz.zeroValue272
 t213:=Tryz.underlying273
 a213:=Tryz.isAgg273
 z213:=Tryz.sizeOf273
 t232:=Tryz.underlying281
 a232:=Tryz.isAgg281
 z232:=Tryz.sizeOf281
 v232:=Tryz.zeroValue281
 t233:=Tryz.underlying282
 a233:=Tryz.isAgg282
 z233:=Tryz.sizeOf282
 v233:=Tryz.zeroValue282
 g17:=by kernel_rfl
 g18:=by kernel_rfl
 g19:=by kernel_rfl}
end Go.Proofs.YtjhkdocidcfpdaaGreatDoor
namespace Go.Proofs.YtjhkdocidcfpdaaGreatDoor
open Go.RowKit Go.Shelf Go
theorem sK (i:Nat) (hi:i<100) (w:World):Calls Tryz.prog 100 #[.int .i64 i] w fun e w'=>(∃nm:ByteArray,e=.returned (.string nm)/\nm.size<=21)/\w'=w:=by
 have h:=Any.strconv_Itoa_small TF i hi w
 change Calls Tryz.prog 100 _ _ _ at h
 refine h.mono ?_;rintro e w' ⟨rfl,rfl⟩;refine⟨⟨_,rfl,?_⟩,rfl⟩;have:=Lib.itoa_length_le (i:Int) (by omega) (by omega);rw[Lib.itoa_nonneg]at this
 simpa [ByteArray.size]using this
theorem AB (n:Int) (h0:-9223372036854775808<=n) (h1:n<=9223372036854775807) (w:World) (A:Lib.TabIs Tryz.prog w "internal/strconv.uint64pow10" .u64 Lib.pow10Tab):
  Calls Tryz.prog 100 #[.int .i64 n] w fun e w'=>e=.returned (.string ⟨(Lib.itoa n).toArray⟩)/\Below w.heap.size w w':=by
 have h:=Any.strconv_Itoa SN n h0 h1 w A
 change Calls Tryz.prog 100 _ _ _ at h
 refine h.mono ?_;rintro e w' ⟨rfl,k,os,rfl⟩;exact⟨rfl,Lib.below_grow _ w (Zb _) k os⟩
def dR (cur:List UInt8):List UInt8->List (List UInt8)
 |[]=>[]
 |c::r=>if c=10 then cur::dR [] r else dR (cur++[c]) r
def eB (cur:List UInt8):List UInt8->Option (List (List UInt8))
 |[]=>if cur=[] then none else some [cur]
 |c::r=>if c=32 then(if cur=[] then none else(eB [] r).map (cur::·)) else eB (cur++[c]) r
def eI (s:List UInt8):List (List UInt8):=(eB [] s).getD []
def kC (c:UInt8):Bool:=decide (48<=c)&&decide (c<=57)
def iG (s:List UInt8):Nat:=s.foldl (fun n c=>10*n+(c.toNat-48)) 0
def dY (s:List UInt8) (low high:Int):Option Int:=
 if s=[]\/4<s.length\/(s.head?=some 48/\1<s.length)\/s.all kC=false then none
 else if low<=iG s/\(iG s:Int)<=high then some (iG s) else none
def pW (w:List UInt8):Option bX:=bJ.find? fun r=>decide (r.word=w)
def kT (r:bX):Nat->List (List UInt8)->aE->Option aE
 |_,[],n=>some n
 |k,w::ws,n=>match dY w (r.low.getD k 0) (r.high.getD k 0)with
  |none=>none
  |some x=>kT r (k+1) ws (n.put (r.at_.getD k 0) x)
def eH (words:List (List UInt8)):Option aE:=match pW (words.headD [])with
 |none=>none
 |some r=>if words.length=1+r.at_.length then kT r 0 words.tail {bN with kind:=r.kind} else none
abbrev aV:=List (List (List UInt8))
def dW (inner:Option (Nat->aV->Option (List aB×Nat×aV))):Nat->Nat->aV->Option (List aB×Nat×aV)
 |0,left,rest=>match rest with
  |[]=>some ([],left,[])
  |_::_=>none
 |f+1,left,rest=>match rest with
  |[]=>some ([],left,[])
  |words::rest'=>match words with
   |[]=>none
   |w::ws=>if w=dA\/w=dV then some ([],left,rest)
    else if left=0 then none
    else if w=dE/\ws=[] then(match inner with
     |none=>none
     |some g=>match g (left-1) rest' with
      |none=>none
      |some (body,left2,rest2)=>match rest2 with
       |[]=>none
       |l2::rest3=>if l2=[dA] then(match dW inner f left2 rest3 with
         |none=>none
         |some (l,q)=>some (.mk {bN with kind:=13} body::l,q)) else none)
    else match eH words with
     |none=>none
     |some n=>match dW inner f (left-1) rest' with
      |none=>none
      |some (l,q)=>some (.mk n []::l,q)
def dU:Nat->Nat->aV->Option (List aB×Nat×aV)
 |0,left,rest=>dW none rest.length left rest
 |d+1,left,rest=>dW (some (dU d)) rest.length left rest
def gE:List (List UInt8)->Option (List Int)
 |[]=>some []
 |w::ws=>match dY w 1 4096 with
  |none=>none
  |some x=>(gE ws).map (x::·)
def kK (w:List UInt8):Option Int:=if w=eL 1 then some 1 else if w=eL 2 then some 2 else none
def eF (all:aV):Option bI:=match all with
 |[]=>none
 |first::rest=>if 2<=first.length/\first.length<=4/\first.headD []=iQ then(match gE first.tail with
   |none=>none
   |some inp=>match dU 4 64 rest with
    |none=>none
    |some (l,_,rest2)=>match rest2 with
     |[w]=>if w.length=2/\w.headD []=dV then(kK (w.getD 1 [])).map (fun k=>⟨inp,l,k⟩) else none
     |_=>none) else none
def gX (b:List UInt8):Option bI:=
 if 8192<b.length then none else match eF ((dR [] b).map eI)with
  |none=>none
  |some d=>if b.getLast?=some 10 then some d else none
section
variable {F:Fence} {n:Nat} {P:Program}
theorem RZ {α:Type} {ik:Obj->Prop} {g:Operand} {ps:Array Tmp} {assign body:Code} {Q:Exit->Act->World->Prop} {a:Act} {w:World}
  (au:F.round=none) (h1:1<=n) {gf:Nat} {lb:Array Value} (hg:a.eval g=.func (.func gf) #[] lb) (av:F.fn gf) (eg:∀args w,(callFunc gf args).run P w=.ok (.enter gf args) w)
  {encs:α->Array Value} {Rdy:List α->α->World->Prop} {Kp:World->World->Prop} {S Sp:List α->Prop} {w0:World} (aj:SeqR ik F (n-1) P gf lb encs Rdy Kp S Sp w0)
  (aw:∀r,¬ik (.loop r)) (hid:∀d,¬ik (.deferred d))
  (Z:∀{A B C:World},Kp A B->Kp B C->Kp A C) (ak:∀(W:World) (l:Nat) (o o':Obj),w.heap.size<=l->W.heap[l]?=some o->o.isCells=false->o.isWalk=false->Kp W (W.putObj l o')) (al:Below w0.heap.size w0 w) (ax:∀x,(encs x).size=ps.size)
  (I:List α->World->Prop) (Ix:Code->List α->World->Prop) (hI:lB ik w.heap.size I) (aa:∀c,lB ik w.heap.size (Ix c)) (h0:I [] w) (Ax:List α->α->Act->World->Prop) (ay:∀p x a',lB (fun _=>False) w.heap.size (fun(_:Unit) W=>Ax p x a' W))
  (O:∀(l:Nat) (pre:List α) (x:α) (W:World) (K:Act->World->Prop),I pre W->Rdy pre x W->(∀a' W',KeepsFrom w.heap.size W W'->Kp W W'->I pre W'->Ax pre x a' W'->K a' W')->
   assign.wpIn (F.inRound l) (n-1-1) P (Exit.then K (fun _ _ _=>False)) {tmps:=(ps.zip (encs x)).foldl (fun t (p,v)=>t.setIfInBounds p v) a.tmps,defers:=[]} W)
  (ab:∀(l:Nat) (pre:List α) (x:α) (a':Act) (W:World),I pre W->Ax pre x a' W->body.wpIn (F.inRound l) (n-1-1) P (ownPostG w.heap.size Kp I Ix (pre++[x]) W) a' W)
  (ac:∀(D:Nat) (xs:List α) (W:World),w.heap.size<=D->S xs->I xs W->W.heap[D]?=some (.deferred (some []))->Q .normal {a with defers:={target:=.collected D,args:=#[]}::a.defers} W)
  (ad:∀(D:Nat) (c:Code) (pre:List α) (W:World),w.heap.size<=D->Sp pre->Ix c pre W->W.heap[D]?=some (.deferred (some []))->c.wpIn F n P Q {a with defers:={target:=.collected D,args:=#[]}::a.defers} W):
  (Code.rangeFunc g ps assign body).wpIn F n P Q a w:=by
 refine wpIn_rangeFunc ?_;intro fn az;rw[au];obtain⟨rec,G⟩:∃rec:LoopState->Option Code->Loop,rec=fun st pe=>{state:=st,pending:=pe,fn,tmps:=a.tmps,params:=ps,assign,body,defers:=w.heap.size}:=⟨_,rfl⟩;obtain⟨L,hL⟩:=Zx (w.heap.size+1);obtain⟨D,hD⟩:=Zx w.heap.size;obtain⟨W1,M⟩:=Zy ((w.alloc (.deferred (some []))).alloc (.loop (rec .ready none)));have ba:W1.heap[L]?=some (.loop (rec .ready none)):=by
  rw[hL,<-M];have:=World.alloc_heap_new (w.alloc (.deferred (some []))) (.loop (rec .ready none))
  rwa [World.size_alloc]at this
 have bb:W1.heap[D]?=some (.deferred (some [])):=by rw[hD,<-M];exact(Below.heap_alloc _ _ _ (by simp)).trans (World.alloc_heap_new w _)
 have bi:w.heap.size<=W1.heap.size:=by rw[<-M];simp;omega
 have E:w.heap.size<=L/\w.heap.size<=D/\L≠D:=by omega
 have R:∀{A B:World} {row:Option Nat} {st:LoopState} {pe:Option Code},A.grownBy B row->(∀r,row=some r->W1.heap.size<=r/\∃o:Obj,A.heap[r]?=some o/\ik o)->A.heap[L]?=some (.loop (rec st pe))->A.heap[D]?=some (.deferred (some []))->
   B.heap[L]?=some (.loop (rec st pe))/\B.heap[D]?=some (.deferred (some [])):=fun hg' J N V=>⟨CW hg' J N (aw _),CW hg' J V (hid _)⟩
 have Y:∀{A:World} {row:Option Nat},(∀r,row=some r->W1.heap.size<=r/\∃o:Obj,A.heap[r]?=some o/\ik o)->∀r,row=some r->w.heap.size<=r/\∃o:Obj,A.heap[r]?=some o/\(o.isCells=false\/ik o):=
  fun J r e=>by obtain⟨h2,o,ho,hi⟩:=J r e;exact⟨by omega,o,ho,.inr hi⟩
 refine⟨L,[{target:=.collected D,args:=#[]}],W1,{target:=.fn (.func gf) lb,args:=#[.func (.yield L) #[] #[]]},W1,gf,#[.func (.yield L) #[] #[]]++lb,W1,?_,?_,?_,?_,fun _=>h1,?_⟩
 ·rw[<-M,G,hL,hD];exact run_enterLoop_outer _ _ _ _ _
 ·simp only[resolve,hg];simp[go_sem]
 ·intro f' hf';simp[Target.leads]at hf';subst hf';exact av
 ·simp[invoke,go_sem,eg]
 have ae:=aj L (fun pre W=>I pre W/\W.heap[L]?=some (.loop (rec .ready none))/\W.heap[D]?=some (.deferred (some [])))
  (fun pre W=>∃c,Ix c pre W/\W.heap[L]?=some (.loop (rec .done (some c)))/\W.heap[D]?=some (.deferred (some []))) W1
  (by rw[<-M];exact al.trans ((((Zc _ w).alloc (Zb _) _).alloc (by simp) _).mono al.size))
  (fun s A B row hs hg' J=>⟨hI s A B row hs.1 hg' (Y J),R hg' J hs.2.1 hs.2.2⟩)
  (fun s A B row hs hg' J=>by obtain⟨c,hc,N,V⟩:=hs;exact⟨c,aa c s A B row hc hg' (Y J),R hg' J N V⟩)
  ?round ⟨by rw[<-M];exact hI.alloc _ (hI.alloc _ h0),ba,bb⟩
 case round=>
  rintro pre x W ⟨hi,N,V⟩ hx;have bj:L<W.heap.size:=(Array.getElem?_eq_some_iff.1 N).1;have hy:=run_yield (P:=P) (args:=encs x) N (by rw[G];exact ax x);rw[G]at hy;refine⟨fn,_,assign,body,hy,roundIn_of_wpIn az (O _ pre x W _ hi hx ?_)⟩;clear hy;intro a' Wa ao ap bc bd;have T:=ao.same _ _ E.1 N rfl;have be:=ao.same _ _ E.2.1 V rfl;have aq:L<Wa.heap.size:=(Array.getElem?_eq_some_iff.1 T).1;refine⟨_,run_beginRound T (by rw[G]),?_⟩;obtain⟨busy,U⟩:=Zx ({rec .ready none with state:=.busy});rw[<-U];have bf:(Wa.putObj L (.loop busy)).heap[L]?=some (.loop busy):=World.putObj_heap_same aq;have bg:(Wa.putObj L (.loop busy)).heap[D]?=some (.deferred (some [])):=(World.putObj_heap_other E.2.2.symm).trans be;refine wpIn_mono (ab _ pre x a' _ (hI.put _ bc E.1 T rfl) ((ay pre x a').put (s:=()) _ bd E.1 T rfl)) ?_;have fin:∀(jump:Option Code) (W3:World),KeepsFrom w.heap.size (Wa.putObj L (.loop busy)) W3->
    (Instr.endRound L jump).run P W3=.ok (.bool jump.isNone) (W3.putObj L (.loop (rec (if jump.isNone then .ready else .done) jump)))/\
    W3.heap[L]?=some (.loop busy)/\
    (W3.putObj L (.loop (rec (if jump.isNone then .ready else .done) jump))).heap[L]?=some (.loop (rec (if jump.isNone then .ready else .done) jump))/\
    (W3.putObj L (.loop (rec (if jump.isNone then .ready else .done) jump))).heap[D]?=some (.deferred (some [])):=fun jump W3 hk=>by
   have H:=hk.same _ _ E.1 bf rfl;have he:=run_endRound (P:=P) jump H;rw[U,G]at he;rw[G]at*;exact⟨he,H,World.putObj_heap_same (Array.getElem?_eq_some_iff.1 H).1,(World.putObj_heap_other E.2.2.symm).trans (hk.same _ _ E.2.1 bg rfl)⟩
  rintro e a3 W3 X;have out:∀c,KeepsFrom w.heap.size (Wa.putObj L (.loop busy)) W3->Ix c (pre++[x]) W3->∃v W4,(Instr.endRound L (some c)).run P W3=.ok v W4/\(((Ending.returned v=.returned (.bool true)/\(I (pre++[x]) W4/\W4.heap[L]?=some (.loop (rec .ready none))/\W4.heap[D]?=some (.deferred (some [])))/\Kp W W4))\/
    (Ending.returned v=.returned (.bool false)/\∃c,Ix c (pre++[x]) W4/\W4.heap[L]?=some (.loop (rec .done (some c)))/\W4.heap[D]?=some (.deferred (some [])))):=fun c af ag=>by
   obtain⟨J,H,ah,ai⟩:=fin (some c) W3 af;exact⟨_,_,J,.inr ⟨rfl,c,(aa _).put _ ag E.1 H rfl,ah,ai⟩⟩
  cases e with
  |normal=>
   obtain⟨af,ar,ag⟩:=X;obtain⟨J,H,ah,ai⟩:=fin none W3 af;exact⟨_,_,J,.inl ⟨rfl,⟨hI.put _ ag E.1 H rfl,ah,ai⟩,Z ap (Z (Z (ak _ _ _ _ E.1 T rfl rfl) ar) (ak _ _ _ _ E.1 H rfl rfl))⟩⟩
  |ret=>exact out _ X.1 X.2
  |exit id=>exact out _ X.1 X.2
  |goto t=>exact out _ X.1 X.2
  |panic ch=>exact X.elim
  |outgrown=>exact X.elim
 refine ae.mono ?_;rintro e W2 ⟨⟨v,rfl⟩,(⟨xs,hS,hi,N,V⟩|⟨pre,bh,c,hi,N,V⟩)⟩
 ·exact⟨none,_,by have:=run_endLoop (P:=P) N (by rw[G];simp);rw[G]at this;exact this,ac _ xs _ E.2.1 hS (hI.put _ hi E.1 N rfl) ((World.putObj_heap_other E.2.2.symm).trans V)⟩
 ·exact⟨some c,_,by have:=run_endLoop (P:=P) N (by rw[G];simp);rw[G]at this;exact this,ad _ c pre _ E.2.1 bh ((aa c).put _ hi E.1 N rfl) ((World.putObj_heap_other E.2.2.symm).trans V)⟩
end
end Go.Proofs.YtjhkdocidcfpdaaGreatDoor
namespace Go.Proofs.YtjhkdocidcfpdaaGreatDoor
open Go.RowKit Go.ChangeShapes Go.WideShapes
def RB {H:Type} (enc:TypeId×Value->H) (P:Program) (w:World) (t:TypeId) (cs:List Value):Prop:=
 ∃(fuel:Nat) (d:DataW H) (pl:List MemPlace),DataW.trod enc P w 0 (fun _=>true) true fuel t cs=some (d,pl)/\∀n∈d.weights P t,n<=reachBytes
theorem wC {H:Type} {P:Program} {e:TypeId} {l:List (DataW H)} {d:DataW H} (h:d∈l):∀n∈d.weights P e,n∈DataW.weightsAll P e l:=by
 induction l with
 |nil=>cases h
 |cons x l ih=>
  intro n hn;simp only[DataW.weightsAll,List.mem_append];rcases List.mem_cons.1 h with rfl|h
  ·exact .inl hn
  ·exact .inr (ih h n hn)
theorem RB.slice {H:Type} {enc:TypeId×Value->H} {P:Program} {w:World} {t e:TypeId} {v:Value} (h:RB enc P w t [v]) (ht:P.underlying t=some (.slice e)):
  ∃o len cap,v=.slice o len cap/\len*P.bytesOf e<=reachBytes/\cap*P.bytesOf e<=reachBytes/\len<=cap/\∀i,i<len->∃a cs,o=some a/\w.cells? 0 (a.add (i*P.cellsOf e)) (P.cellsOf e)=some cs/\RB enc P w e cs:=by
 obtain⟨fuel,d,pl,h,hw⟩:=h;rcases Deep.open_slice ht h with⟨A,_⟩|⟨a,len,cap,m,n,D,Pl,A,_,hl,hm,B,hx,C⟩
 ·simp at A;subst A;exact⟨none,0,0,rfl,by simp,by simp,by simp,fun i hi=>absurd hi (Nat.not_lt_zero _)⟩
 ·simp at A B hx;subst A;obtain⟨rfl,rfl⟩:=hx;subst B;have hk:m*P.bytesOf e<=reachBytes:=by
   have:=hw ((len+(m-len))*P.bytesOf e) (by simp[DataW.weights,ht])
   rwa [show len+(m-len)=m by omega]at this
  refine⟨some a,len,m,rfl,Nat.le_trans (Nat.mul_le_mul_right _ hl) hk,hk,hl,fun i hi=>?_⟩;obtain⟨cs',h1,h2⟩:=C i (by omega);refine⟨a,cs',rfl,h1,n,D i,Pl i,h2,fun n hn=>hw n ?_⟩;simp only[DataW.weights,ht,List.mem_cons,List.mem_append];exact .inr (.inl (wC (List.mem_map.2 ⟨i,List.mem_range.2 hi,rfl⟩) n hn))
theorem pA {w:World} {a:Addr} {n:Nat} {cs:List Value} (h:w.cells? 0 a n=some cs) (hn:0<n):
  ∃b off,a=⟨b,off,none⟩/\cs.length=n/\∀j v,cs[j]?=some v->w.cell? ⟨b,off+j,none⟩=some v:=by
 obtain⟨_,hl,hc⟩:=World.cells?_some h;obtain⟨b,off,spot⟩:=a;have h0:=hc 0 hn;have A:spot=none:=by
  obtain⟨v,hv⟩:∃v,cs[0]?=some v:=⟨cs[0],List.getElem?_eq_getElem (by omega)⟩;rw[hv]at h0
  simpa [Addr.add]using World.cell?_spot h0
 subst A;refine⟨b,off,rfl,hl,fun j v hj=>?_⟩;have B:j<cs.length:=(List.getElem?_eq_some_iff.1 hj).1;have:=hc j (by omega);rw[hj]at this
 simpa [Addr.add_lit]using this
theorem RB.int {H:Type} {enc:TypeId×Value->H} {P:Program} {w:World} {t:TypeId} {K:IntKind} {v:Value} (h:RB enc P w t [v]) (ht:P.underlying t=some (.int K)):
  ∃x,v=.int K x/\(Lit.int K x).wf=true:=by obtain⟨fuel,d,pl,h,_⟩:=h;obtain⟨x,e,_,A⟩:=DataW.trod_int ht h;simp at e;exact⟨x,e,A⟩
theorem RB.ints {H:Type} {enc:TypeId×Value->H} {P:Program} {w:World} {t e:TypeId} {K:IntKind} {v:Value} (h:RB enc P w t [v]) (ht:P.underlying t=some (.slice e)) (he:P.underlying e=some (.int K)) (hc:P.cellsOf e=1):
  ∃xs,Rd w K v xs/\Wf K xs/\xs.length*P.bytesOf e<=reachBytes:=by
 obtain⟨o,len,cap,rfl,hr,_,_,C⟩:=h.slice ht;have key:∀i,i<len->∃x:Int,(Lit.int K x).wf=true/\∃b off,o=some ⟨b,off,none⟩/\w.cell? ⟨b,off+i,none⟩=some (.int K x):=fun i hi=>by
  obtain⟨a,cs,rfl,h1,h2⟩:=C i hi;rw[hc,Nat.mul_one]at h1;obtain⟨b,off,B,hl,E⟩:=pA h1 (by omega)
  match cs,hl with
  |[u],_=>
   obtain⟨x,rfl,hx⟩:=h2.int he;obtain⟨b',off',spot⟩:=a;have A:=E 0 _ rfl;unfold Addr.add at B;split at B
   ·simp at B;obtain⟨rfl,rfl,rfl⟩:=B
    subst_vars
    exact⟨x,hx,_,_,rfl,by simpa using A⟩
   ·simp at B;obtain⟨rfl,rfl⟩:=B;cases spot with
    |none=>exact⟨x,hx,_,_,rfl,by simpa using A⟩
    |some s=>
     exfalso;obtain⟨a0,cs0,e0,D,G⟩:=C 0 (by omega);simp at e0;subst e0;rw[hc,Nat.mul_one]at D;obtain⟨_,_,F,_⟩:=pA D (by omega);simp[Addr.add]at F
 obtain⟨f,hf⟩:=Deep.choose_lt (α:=Int) key;refine⟨(List.range len).map f,?_,fun x hx=>?_,by simpa using hr⟩
 ·refine⟨o,cap,by simp,fun j hj=>?_⟩;have hj':j<len:=by simpa using hj
  obtain⟨_,b,off,ho,A⟩:=hf j hj';refine⟨b,off,ho,?_⟩;rw[A,dO _ _ hj];simp
 ·obtain⟨i,hi,rfl⟩:=List.mem_map.1 hx;exact(hf i (List.mem_range.1 hi)).1
theorem xM {H:Type} {P:Program} {ts:List TypeId} {ds:List (DataW H)} {j:Nat} {t:TypeId} {d:DataW H} (h1:ts[j]?=some t) (h2:ds[j]?=some d):∀n∈d.weights P t,n∈DataW.weightsEach P ts ds:=
 DataW.weights_mem_each h1 h2
theorem RB.field {H:Type} {enc:TypeId×Value->H} {P:Program} {w:World} {t:TypeId} {cs:List Value} {fs:Array Field} (h:RB enc P w t cs) (ht:P.underlying t=some (.struct fs)):
  cs.length=P.cellsOf t/\∀(i:Nat) (f:Field),fs[i]?=some f->RB enc P w f.type ((cs.drop f.offset).take (P.cellsOf f.type)):=by
 obtain⟨fuel,d,pl,h,hw⟩:=h;obtain⟨xs,n,rfl,hx,hl,B,hf⟩:=DataW.trod_struct ht h;refine⟨hl,fun i f hi=>?_⟩;have hk:=hf i f hi;have A:i<xs.length:=by rw[B];exact(Array.getElem?_eq_some_iff.1 hi).1
 rw[List.getElem?_eq_getElem A]at hk;refine⟨n,xs[i].1,xs[i].2,hk,fun n hn=>hw n ?_⟩;simp only[Prod.mk.injEq]at hx;rw[hx.1];simp only[DataW.weights,ht];refine xM (j:=i) (t:=f.type) (d:=xs[i].1) ?_ ?_ n hn
 ·rw[List.getElem?_map];simp[hi]
 ·simp[List.getElem?_eq_getElem A]
theorem RB.rows {H:Type} {enc:TypeId×Value->H} {P:Program} {w:World} {t e:TypeId} {v:Value} (h:RB enc P w t [v]) (ht:P.underlying t=some (.slice e)) (hc:0<P.cellsOf e):
  ∃o len cap,v=.slice o len cap/\len*P.bytesOf e<=reachBytes/\∀i,i<len->∃b off cs,o=some ⟨b,off,none⟩/\cs.length=P.cellsOf e/\RB enc P w e cs/\∀j v,cs[j]?=some v->w.cell? ⟨b,off+i*P.cellsOf e+j,none⟩=some v:=by
 obtain⟨o,len,cap,rfl,hr,_,_,A⟩:=h.slice ht;refine⟨o,len,cap,rfl,hr,fun i hi=>?_⟩;obtain⟨a,cs,rfl,h1,h2⟩:=A i hi;obtain⟨a0,cs0,e0,B,D⟩:=A 0 (by omega);simp at e0;subst e0;rw[Nat.zero_mul]at B;obtain⟨b,off,ha,_⟩:=pA B hc;have ha':a=⟨b,off,none⟩:=by simpa [Addr.add]using ha
 subst ha';rw[Addr.add_lit]at h1;obtain⟨b',off',ha,hl,C⟩:=pA h1 hc;simp at ha;obtain⟨rfl,rfl⟩:=ha;exact⟨b,off,cs,rfl,hl,h2,C⟩
