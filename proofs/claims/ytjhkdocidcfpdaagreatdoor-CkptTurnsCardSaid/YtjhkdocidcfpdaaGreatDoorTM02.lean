/-
  A part of the proof of a law (packed by program).
-/
import Derived.RangeFuncNested
import Derived.RangeFuncBound
import Derived.Shelf.Abstract
import Derived.Lib.ItoaLen
import Derived.Deep.AppendLies
import Derived.Laws.CopyOwn
import Derived.RangeFuncOne
import Derived.StillTail
import Derived.Stop.RegionWithIn
import Derived.Test.YtjhkdocidcfpdaaGreatDoorTM01
set_option linter.unusedVariables false
set_option linter.unusedSimpArgs false
set_option maxRecDepth 100000
set_option maxHeartbeats 16000000
open List renaming length_append → Zl
namespace Go.Proofs.YtjhkdocidcfpdaaGreatDoor
open Go.RowKit Go.Shelf Go
def gE {β:Type} (ik:Obj→Prop) (B:Nat) (J:β→World→Prop):Prop:=
 ∀s W W' row,J s W→W.grownBy W' row→(∀r,row=some r→B≤r∧∃o:Obj,W.heap[r]?=some o∧ik o)→J s W'
theorem gE.new {β:Type} {ik:Obj→Prop} {B:Nat} {J:β→World→Prop} (h:gE ik B J) {s:β} {W W':World} (hs:J s W) (hg:W.grownBy W' none):J s W':=h s W W' none hs hg (fun r e=>by cases e)
def SeqR {α:Type} (ik:Obj→Prop) (F:Fence) (n:Nat) (P:Program) (g:Nat) (lb:Array Value) (encs:α→Array Value) (Rdy:List α→α→World→Prop) (Kp:World→World→Prop) (S Sp:List α→Prop) (w:World):Prop:=
 ∀(l:Nat) (J Jx:List α→World→Prop) (W:World),Below w.heap.size w W→gE ik W.heap.size J→gE ik W.heap.size Jx→
  (∀pre x W1,J pre W1→Rdy pre x W1→YieldAt F (n-1) P l (encs x) W1 fun e W'=>
   (e=.returned (.bool true)∧J (pre++[x]) W'∧Kp W1 W')∨(e=.returned (.bool false)∧Jx (pre++[x]) W'))→
  J [] W→
  CallsIn F n P g (#[.func (.yield l) #[] #[]]++lb) W fun e W'=>(∃v,e=.returned v)∧((∃xs,S xs∧J xs W')∨(∃pre,Sp pre∧Jx pre W'))
def kY {β:Type} (ik:Obj→Prop) (B:Nat) (I:β→World→Prop):Prop:=
 ∀s W W' row,I s W→W.grownBy W' row→(∀r,row=some r→B≤r∧∃o:Obj,W.heap[r]?=some o∧(o.isCells=false∨ik o))→I s W'
theorem kY.put {β:Type} {ik:Obj→Prop} {B:Nat} {I:β→World→Prop} (h:kY ik B I) {s:β} {W:World} {l:Nat} {o:Obj} (o':Obj) (hs:I s W) (hB:B≤l) (hl:W.heap[l]?=some o) (ho:o.isCells=false):I s (W.putObj l o'):=
 h s W _ (some l) hs (grownBy_putObj' W l o') (fun r e=>by cases e;exact⟨hB,o,hl,.inl ho⟩)
theorem kY.alloc {β:Type} {ik:Obj→Prop} {B:Nat} {I:β→World→Prop} (h:kY ik B I) {s:β} {W:World} (o:Obj) (hs:I s W):I s (W.alloc o):=
 h s W _ none hs (World.grownBy_alloc W o none) (fun r e=>by cases e)
theorem zP {ik:Obj→Prop} {W W':World} {row:Option Nat} (hg:W.grownBy W' row) {B:Nat} (hr:∀r,row=some r→B≤r∧∃o:Obj,W.heap[r]?=some o∧ik o) {k:Nat} {o:Obj} (hk:W.heap[k]?=some o) (hi:¬ik o):W'.heap[k]?=some o:=by refine(hg.block k (Array.getElem?_eq_some_iff.1 hk).1 (fun e=>?_)).trans hk;obtain⟨_,o',ho,hio⟩:=hr k e.symm;rw[hk]at ho;cases ho;exact hi hio
section
variable {F:Fence} {n:Nat} {P:Program}
end
def bS (v:Int):Bool:=decide (-140737488355328<v)&&decide (v<140737488355328)
def iG (l:List Int):Bool:=l.all bS
def bW (d:Int):Bool:=decide (1≤d)&&decide (d≤4096)
def bD (s:List Int):Int:=s.foldl (·*·) 1
def bA (s:List Int):Bool:=decide (s.length≤4)&&s.all bW&&decide (bD s≤65536)
theorem sD (l:List Int) (x:Int):bD (l++[x])=bD l*x:=by simp[bD]
theorem yY (l:List Int) (a:Int):l.foldl (·*·) a=a*bD l:=by
 induction l generalizing a with
 |nil=>simp[bD]
 |cons x l ih=>
  have h1:=ih (a*x);have h2:=ih (1*x);rw[List.foldl_cons,h1]
  show a*x*bD l=a*(x::l).foldl (·*·) 1
  rw[List.foldl_cons,h2,Int.one_mul,Int.mul_assoc]
theorem DS (x:Int) (l:List Int):bD (x::l)=x*bD l:=by rw[bD,List.foldl_cons,yY,Int.one_mul]
theorem oE (p:Int→Bool) (l:List Int) (k:Nat) (h:k<l.length):(l.take (k+1)).all p=((l.take k).all p&&p (aE l k)):=by rw[fF l k h];simp
theorem nE (p:Int→Bool) (l:List Int) (k:Nat) (h:k<l.length) (hp:p (aE l k)=false):l.all p=false:=by rw[List.all_eq_false];exact⟨_,mI l k h,by simp[hp]⟩
theorem lG (d:Int):bW d=true↔1≤d∧d≤4096:=by simp[bW]
theorem tB (d:Int):bW d=false↔d<1∨4096<d:=by rw[Bool.eq_false_iff,Ne,lG];omega
theorem qE (l:List Int) (h:l.all bW=true):1≤bD l∧bD l≤4096^l.length:=by
 induction l with
 |nil=>simp[bD]
 |cons x l ih=>
  rw[List.all_cons,Bool.and_eq_true,lG]at h;obtain⟨⟨h1,h2⟩,h3⟩:=h;obtain⟨i1,i2⟩:=ih h3;rw[DS,List.length_cons,Int.pow_succ];refine⟨?_,?_⟩
  ·have:=Int.mul_le_mul h1 i1 (by omega) (by omega)
   simpa using this
  ·rw[Int.mul_comm (4096^l.length)];exact Int.mul_le_mul h2 i2 (by omega) (by omega)
theorem MK (p:Int→Bool) (l:List Int) (k:Nat) (h:k<l.length):(l.take (k+1)).any p=((l.take k).any p || p (aE l k)):=by rw[fF l k h];simp
theorem I1 (p:Int→Bool) (l:List Int) (k:Nat) (h:k<l.length) (hp:p (aE l k)=true):l.any p=true:=by rw[List.any_eq_true];exact⟨_,mI l k h,hp⟩
theorem NH (n:Nat) (h:n≤4):(4096:Int)^n≤281474976710656:=by
 match n,h with
 |0,_=>decide
 |1,_=>decide
 |2,_=>decide
 |3,_=>decide
 |4,_=>decide
theorem B7 (xs:List Int) (k:Nat) (h:(xs.take (k+1)).all bW=true) (hl:xs.length≤4) (hk:k<xs.length):
  1≤bD (xs.take k)*aE xs k∧bD (xs.take k)*aE xs k≤281474976710656:=by have h1:=qE _ h;rw[fF xs k hk,sD]at h1;refine⟨h1.1,Int.le_trans h1.2 (NH _ ?_)⟩;simp;omega
theorem DC (p:Int→Bool) (xs:List Int) (k:Nat) (h:xs.all p=true):(xs.take k).all p=true:=by rw[List.all_eq_true]at h ⊢;exact fun x hx=>h x (List.mem_of_mem_take hx)
theorem yV (xs:List Int) (k:Nat) (h:xs.all bW=true) (hl:xs.length≤4) (hk:k<xs.length):
  1≤bD (xs.take k)*aE xs k∧bD (xs.take k)*aE xs k≤281474976710656:=B7 xs k (DC _ _ _ h) hl hk
theorem P7 (xs:List Int) (k:Nat) (h:xs.all bW=true):bD (xs.take k)≤bD xs:=by
 have h1:bD xs=bD (xs.take k)*bD (xs.drop k):=by
  conv=>lhs;rw[←List.take_append_drop k xs]
  rw[bD,List.foldl_append];exact yY _ _
 have h2:=(qE _ (DC _ xs k h)).1;have h3:1≤bD (xs.drop k):=(qE _ (by rw[List.all_eq_true]at h ⊢;exact fun x hx=>h x (List.mem_of_mem_drop hx))).1;rw[h1];have:=Int.mul_le_mul (Int.le_refl (bD (xs.take k))) h3 (by omega) (by omega)
 simpa using this
def lD (s:List Int):Int:=if bD s≤65536 then bD s else 65537
theorem N8 (s:List Int):decide (lD s≤65536)=decide (bD s≤65536):=by
 unfold lD;split
 ·rename_i h;simp[h]
 ·rename_i h;simp[h]
theorem aF {a b:Bool} (h:a=b):Ending.returned (.bool a)=.returned (.bool b):=by rw[h]
theorem uF {k:IntKind} {a b:Int} (h:a=b):Ending.returned (.int k a)=.returned (.int k b):=by rw[h]
theorem pE (v:Int) (w:World):
  Calls Tryz.prog 122 #[.int .i64 v] w fun e w'=>e=.returned (.bool (bS v))∧aN w w':=by
 by_cases h1:-140737488355328<v
 ·by_cases h2:v<140737488355328
  all_goals
   go_enter Tryz.func122,Tryz.ntmps122;go_wp2;go_ret;exact⟨aF (by simp[bS,h1,h2]),aN.refl _⟩
 ·go_enter Tryz.func122,Tryz.ntmps122;go_wp2;go_ret;exact⟨aF (by simp[bS];omega),aN.refl _⟩
theorem xI (v:Int) (w:World):
  Calls Tryz.prog 111 #[.int .i64 v] w fun e w'=>e=.returned (.bool (bS v))∧aN w w':=by
 by_cases h1:-140737488355328<v
 ·by_cases h2:v<140737488355328
  all_goals
   go_enter Tryz.func111,Tryz.ntmps111;go_wp2;go_ret;exact⟨aF (by simp[bS,h1,h2]),aN.refl _⟩
 ·go_enter Tryz.func111,Tryz.ntmps111;go_wp2;go_ret;exact⟨aF (by simp[bS];omega),aN.refl _⟩
theorem M9 (v:Value) (xs:List Int) (w:World) (hr:Rd w .i64 v xs) (hl:xs.length≤140737488351232):
  Calls Tryz.prog 148 #[v] w fun e w'=>e=.returned (.bool (iG xs))∧aN w w':=by
 obtain⟨o,cap,rfl,hc⟩:=hr;have HC:=Za hc;clear hc;go_enter Tryz.func148,Tryz.ntmps148;go_wp2;go_loopw[3] (fun i wr=>∃k:Nat,k≤xs.length∧i=.int .i64 k∧(xs.take k).all bS=true∧aN w wr) (fun i _=>xs.length-(intOf i).toNat)
 case atStart=>exact⟨0,Ze _,rfl,rfl,aN.refl _⟩
 case round=>
  obtain⟨k,hk,rfl,hp,n0,rfl⟩:=hrel;have HP:=Za hp;clear hp;by_cases hlt:k<xs.length
  ·obtain⟨b,off,rfl,h1⟩:=HC.o k hlt;cases hb:bS (aE xs k)
   all_goals
    have HB:=Za hb;clear hb;go_wp2_with fail;refine(xI (aE xs k) _).mono ?_;rintro e w' ⟨rfl,nq,rfl⟩;rw[HB.o];go_wp2
   ·go_ret;exact⟨aF (by rw[iG,nE _ _ k hlt HB.o]),(by first|exact⟨_,rfl⟩|exact⟨_,World.drewN_drewN _ _ _⟩)⟩
   ·go_roundw
    case rel=>exact⟨k+1,by omega,by go_num,by rw[oE _ _ _ hlt,HP.o,HB.o];rfl,(by first|exact⟨_,rfl⟩|exact⟨_,World.drewN_drewN _ _ _⟩)⟩
    case measure=>simp[intOf];omega
  ·obtain rfl:k=xs.length:=by omega
   go_wp2;go_ret;exact⟨aF (by rw[iG,←HP.o,List.take_length]),⟨_,rfl⟩⟩
theorem KG (v:Value) (xs:List Int) (F:Nat) (cs:Array Value) (p:Int→Bool) (w:World) (hr:Rd w .i64 v xs) (hl:xs.length≤140737488351232) (he:∀args w,(callFunc F args).run Tryz.prog w=.ok (.enter F args) w)
  (hf:∀k,k<xs.length→∀n,Calls Tryz.prog F (#[.int .i64 (aE xs k)]++cs) (w.drewN n) fun e w'=>e=.returned (.bool (p (aE xs k)))∧aN (w.drewN n) w'):
  Calls Tryz.prog 163 #[v,.func (.func F) #[] cs] w fun e w'=>(∃i:Int,e=.returned (.int .i64 i)∧decide (0≤i)=xs.any p)∧aN w w':=by
 obtain⟨o,cap,rfl,hc⟩:=hr;have HC:=Za hc;have HF:=Za hf;clear hc hf;go_enter Tryz.func163,Tryz.ntmps163;go_wp2;go_loopw[8] (fun i wr=>∃k:Nat,k≤xs.length∧i=.int .i64 k∧(xs.take k).any p=false∧aN w wr) (fun i _=>xs.length-(intOf i).toNat)
 case atStart=>exact⟨0,Ze _,rfl,rfl,aN.refl _⟩
 case round=>
  obtain⟨k,hk,rfl,hp,n0,rfl⟩:=hrel;have HP:=Za hp;clear hp;by_cases hlt:k<xs.length
  ·obtain⟨b,off,rfl,h1⟩:=HC.o k hlt;cases hb:p (aE xs k)
   all_goals
    have HB:=Za hb;clear hb;go_wp2_with fail;refine Calls.mono (HF.o k hlt n0) ?_;rintro e w' ⟨rfl,nq,rfl⟩;rw[HB.o];go_wp2
   ·go_roundw
    case rel=>exact⟨k+1,by omega,by go_num,by rw[MK _ _ _ hlt,HP.o,HB.o];rfl,(by first|exact⟨_,rfl⟩|exact⟨_,World.drewN_drewN _ _ _⟩)⟩
    case measure=>simp[intOf];omega
   ·go_ret;exact⟨⟨_,rfl,by rw[I1 _ _ k hlt HB.o];simp⟩,(by first|exact⟨_,rfl⟩|exact⟨_,World.drewN_drewN _ _ _⟩)⟩
  ·obtain rfl:k=xs.length:=by omega
   have HA:Hid (xs.any p=false):=Za (by have:=HP.o;rwa [List.take_length]at this);go_wp2;go_ret;exact⟨⟨_,rfl,by rw[HA.o];simp⟩,⟨_,rfl⟩⟩
theorem A8 (v:Value) (xs:List Int) (F:Nat) (cs:Array Value) (p:Int→Bool) (w:World) (hr:Rd w .i64 v xs) (hl:xs.length≤140737488351232) (he:∀args w,(callFunc F args).run Tryz.prog w=.ok (.enter F args) w)
  (hf:∀k,k<xs.length→∀n,Calls Tryz.prog F (#[.int .i64 (aE xs k)]++cs) (w.drewN n) fun e w'=>e=.returned (.bool (p (aE xs k)))∧aN (w.drewN n) w'):
  Calls Tryz.prog 130 #[v,.func (.func F) #[] cs] w fun e w'=>e=.returned (.bool (xs.any p))∧aN w w':=by have HI:=Za (KG v xs F cs p w hr hl he hf);clear hf hr he;go_enter Tryz.func130,Tryz.ntmps130;go_wp2_with fail;refine HI.o.mono ?_;rintro e w' ⟨⟨i,rfl,hi⟩,hs⟩;have HX:=Za hi;have HS:=Za hs;clear hi hs;go_wp2;go_ret;exact⟨aF HX.o,HS.o⟩
theorem pU (v:Value) (xs:List Int) (w:World) (hr:Rd w .i64 v xs) (hs:xs.all bW=true) (hl:xs.length≤4):
  Calls Tryz.prog 124 #[v] w fun e w'=>e=.returned (.int .i64 (bD xs))∧aN w w':=by
 obtain⟨o,cap,rfl,hc⟩:=hr;have HC:=Za hc;have HS:=Za hs;clear hc hs;go_enter Tryz.func124,Tryz.ntmps124;go_wp2;go_loop[3,8] (fun p i=>∃k:Nat,k≤xs.length∧i=.int .i64 k∧p=.int .i64 (bD (xs.take k))) (fun _ i=>xs.length-(intOf i).toNat)
 case atStart=>exact⟨0,Ze _,rfl,rfl⟩
 case round=>
  obtain⟨k,hk,rfl,rfl⟩:=hrel;by_cases hlt:k<xs.length
  ·obtain⟨b,off,rfl,h1⟩:=HC.o k hlt;obtain⟨hb1,hb2⟩:=yV xs k HS.o hl hlt;obtain⟨P,hP⟩:∃P,P=bD (xs.take k):=⟨_,rfl⟩;rw[←hP]at hb1 hb2 ⊢;have HP:=Za hP;clear hP;go_wp2;go_round
   case rel=>exact⟨k+1,by omega,by go_num,by rw[fF xs k hlt,sD,HP.o]⟩
   case measure=>simp[intOf];omega
  ·obtain rfl:k=xs.length:=by omega
   go_wp2;go_ret;exact⟨rfl,aN.refl _⟩
theorem uI (v:Value) (xs:List Int) (w:World) (hr:Rd w .i64 v xs) (hl:xs.length≤140737488351232):
  Calls Tryz.prog 159 #[v] w fun e w'=>e=.returned (.bool (bA xs))∧aN w w':=by
 obtain⟨o,cap,rfl,hc⟩:=hr;have HC:=Za hc;clear hc;by_cases h4:4<xs.length
 ·go_enter Tryz.func159,Tryz.ntmps159;go_wp2;go_ret;exact⟨aF (by simp[bA];omega),aN.refl _⟩
 ·have hl4:xs.length≤4:=by omega
  clear h4;go_enter Tryz.func159,Tryz.ntmps159;go_wp2;go_loop[3,11] (fun p i=>∃k:Nat,k≤xs.length∧i=.int .i64 k∧p=.int .i64 (bD (xs.take k))∧(xs.take k).all bW=true) (fun _ i=>xs.length-(intOf i).toNat)
  case atStart=>exact⟨0,Ze _,rfl,rfl,rfl⟩
  case round=>
   obtain⟨k,hk,rfl,rfl,hall⟩:=hrel;have HA:=Za hall;clear hall;by_cases hlt:k<xs.length
   ·obtain⟨b,off,rfl,h1⟩:=HC.o k hlt;cases hd:bW (aE xs k)
    ·have HD:=Za hd;rcases(tB _).1 hd with h|h
     all_goals
      clear hd;go_wp2;go_ret;exact⟨aF (by rw[bA,nE _ _ k hlt HD.o];simp),aN.refl _⟩
    ·have HD:=Za hd;obtain⟨hd1,hd2⟩:=(lG _).1 hd;clear hd;have hall2:(xs.take (k+1)).all bW=true:=by rw[oE _ _ _ hlt,HA.o,HD.o];rfl
     obtain⟨hb1,hb2⟩:=B7 xs k hall2 hl4 hlt;have HA2:=Za hall2;clear hall2;obtain⟨P,hP⟩:∃P,P=bD (xs.take k):=⟨_,rfl⟩;rw[←hP]at hb1 hb2 ⊢;have HP:=Za hP;clear hP;go_wp2;go_round
     case rel=>exact⟨k+1,by omega,by go_num,by rw[fF xs k hlt,sD,HP.o],HA2.o⟩
     case measure=>simp[intOf];omega
   ·obtain rfl:k=xs.length:=by omega
    have HA2:Hid (xs.all bW=true):=Za (by rw[←List.take_length (l:=xs)];exact HA.o);go_wp2
    all_goals go_ret
    all_goals exact⟨aF (by rw[bA,HA2.o];simp;omega),aN.refl _⟩
theorem qV (v:Value) (xs:List Int) (w:World) (hr:Rd w .i64 v xs) (hs:xs.all bW=true) (hl:xs.length≤4):
  Calls Tryz.prog 93 #[v] w fun e w'=>e=.returned (.int .i64 (lD xs))∧aN w w':=by
 obtain⟨o,cap,rfl,hc⟩:=hr;have HC:=Za hc;have HS:=Za hs;clear hc hs;go_enter Tryz.func93,Tryz.ntmps93;go_wp2;go_loop[3,4] (fun p i=>∃k:Nat,k≤xs.length∧i=.int .i64 k∧p=.int .i64 (bD (xs.take k))∧bD (xs.take k)≤65536) (fun _ i=>xs.length-(intOf i).toNat)
 case atStart=>exact⟨0,Ze _,rfl,rfl,by simp[bD]⟩
 case round=>
  obtain⟨k,hk,rfl,rfl,hp⟩:=hrel;by_cases hlt:k<xs.length
  ·obtain⟨b,off,rfl,h1⟩:=HC.o k hlt;obtain⟨hb1,hb2⟩:=yV xs k HS.o hl hlt;obtain⟨hd1,hd2⟩:=(lG _).1 (List.all_eq_true.1 HS.o _ (mI xs k hlt));have hnext:Hid (bD (xs.take (k+1))=bD (xs.take k)*aE xs k):=Za (by rw[fF xs k hlt,sD]);obtain⟨P,hP⟩:∃P,P=bD (xs.take k):=⟨_,rfl⟩;rw[←hP]at hb1 hb2 hp hnext ⊢;have HP:=Za hP;clear hP;by_cases hbig:65536<P*aE xs k
   ·go_wp2;go_ret;exact⟨uF (by rw[lD,if_neg];have:=P7 xs (k+1) HS.o;rw[hnext.o]at this;omega),aN.refl _⟩
   ·go_wp2;go_round
    case rel=>exact⟨k+1,by omega,by go_num,by rw[hnext.o],by rw[hnext.o];omega⟩
    case measure=>simp[intOf];omega
  ·obtain rfl:k=xs.length:=by omega
   have HP:=Za hp;go_wp2;go_ret;exact⟨uF (by have h:=HP.o;rw[List.take_length]at h;rw[lD,if_pos h]),aN.refl _⟩
theorem CW (v:Value) (xs:List Int) (w:World) (hr:Rd w .i64 v xs) (hl:xs.length≤140737488351232):
  Calls Tryz.prog 90 #[v] w fun e w'=>e=.returned (.bool (bA xs))∧aN w w':=by
 obtain⟨o,cap,rfl,hc⟩:=hr;have HC:=Za hc;clear hc;by_cases h4:4<xs.length
 ·go_enter Tryz.func90,Tryz.ntmps90;go_wp2;go_ret;exact⟨aF (by simp[bA];omega),aN.refl _⟩
 ·have hl4:xs.length≤4:=by omega
  clear h4;go_enter Tryz.func90,Tryz.ntmps90;go_wp2;go_loop[3] (fun i=>∃k:Nat,k≤xs.length∧i=.int .i64 k∧(xs.take k).all bW=true) (fun i=>xs.length-(intOf i).toNat)
  case atStart=>exact⟨0,Ze _,rfl,rfl⟩
  case round=>
   obtain⟨k,hk,rfl,hall⟩:=hrel;have HA:=Za hall;clear hall;by_cases hlt:k<xs.length
   ·obtain⟨b,off,rfl,h1⟩:=HC.o k hlt;cases hd:bW (aE xs k)
    ·have HD:=Za hd;rcases(tB _).1 hd with h|h
     ·clear hd;go_wp2;go_ret;exact⟨aF (by rw[bA,nE _ _ k hlt HD.o];simp),aN.refl _⟩
     ·clear hd;have h':¬aE xs k<1:=by omega
      go_wp2;go_ret;exact⟨aF (by rw[bA,nE _ _ k hlt HD.o];simp),aN.refl _⟩
    ·have HD:=Za hd;obtain⟨hd1,hd2⟩:=(lG _).1 hd;clear hd;go_wp2;go_round
     case rel=>exact⟨k+1,by omega,by go_num,by rw[oE _ _ _ hlt,HA.o,HD.o];rfl⟩
     case measure=>simp[intOf];omega
   ·obtain rfl:k=xs.length:=by omega
    have HA2:Hid (xs.all bW=true):=Za (by rw[←List.take_length (l:=xs)];exact HA.o);go_wp2_with fail;refine(qV _ xs _ ⟨_,_,rfl,HC.o⟩ HA2.o hl4).mono ?_;rintro e w' ⟨rfl,nq,rfl⟩;go_wp2
    all_goals go_ret
    all_goals exact⟨aF (by rw[bA,HA2.o,←N8];simp;omega),⟨_,rfl⟩⟩
structure aG where
 kind:Int
 inn:Int
 o:Int
 size:Int
 stride:Int
 pad:Int
 percent:Int
 heads:Int
 deriving DecidableEq
inductive aB where
 |mk (n:aG) (body:List aB)
def aB.n:aB→aG
 |.mk n _=>n
def aB.body:aB→List aB
 |.mk _ b=>b
theorem aB.eta (l:aB):l=.mk l.n l.body:=by cases l;rfl
def aG.cells (n:aG) (v:Value):List Value:=[.int .i64 n.kind,.int .i64 n.inn,.int .i64 n.o,.int .i64 n.size,.int .i64 n.stride,.int .i64 n.pad,.int .i64 n.percent,.int .i64 n.heads,v]
theorem aG.cells_len (n:aG) (v:Value):(n.cells v).length=9:=rfl
def aG.agg (n:aG) (v:Value):Value:=.agg #[.int .i64 n.kind,.int .i64 n.inn,.int .i64 n.o,.int .i64 n.size,.int .i64 n.stride,.int .i64 n.pad,.int .i64 n.percent,.int .i64 n.heads,v]
mutual
def fH (w:World) (o:Option Addr) (i:Nat):aB→Prop
 |.mk n body=>∃b off ob cb,o=some ⟨b,off,none⟩∧body.length≤140737488351232∧(∀j u,(n.cells (.slice ob body.length cb))[j]?=some u→w.cell? ⟨b,off+i*9+j,none⟩=some u)∧cO w ob 0 body
def cO (w:World) (o:Option Addr) (i:Nat):List aB→Prop
 |[]=>True
 |l::r=>fH w o i l∧cO w o (i+1) r
end
def bF (w:World) (v:Value) (ls:List aB):Prop:=∃o cap,v=.slice o ls.length cap∧cO w o 0 ls
mutual
theorem fH.below {w w':World} {B:Nat} (hB:Below B w w') (hs:w.heap.size≤B):∀(l:aB) {o:Option Addr} {i:Nat},fH w o i l→fH w' o i l
 |.mk n body,o,i,h=>by
  rw[fH]at h ⊢;obtain⟨b,off,ob,cb,rfl,hlim,hc,hl⟩:=h;exact⟨b,off,ob,cb,rfl,hlim,fun j u hj=>(hB.cell (p:=⟨b,off+i*9+j,none⟩) (Nat.lt_of_lt_of_le (aP (hc j u hj)) hs)).trans (hc j u hj),cO.below hB hs body hl⟩
theorem cO.below {w w':World} {B:Nat} (hB:Below B w w') (hs:w.heap.size≤B):∀(ls:List aB) {o:Option Addr} {i:Nat},cO w o i ls→cO w' o i ls
 |[],o,i,_=>by rw[cO];trivial
 |l::r,o,i,h=>by
  rw[cO]at h ⊢;exact⟨fH.below hB hs l h.1,cO.below hB hs r h.2⟩
end
theorem bF.below {w w':World} {B:Nat} {v:Value} {ls:List aB} (h:bF w v ls) (hB:Below B w w') (hs:w.heap.size≤B):bF w' v ls:=by obtain⟨o,cap,rfl,h⟩:=h;exact⟨o,cap,rfl,cO.below hB hs ls h⟩
theorem bF.next {w w':World} {v:Value} {ls:List aB} (h:bF w v ls) (hB:Below w.heap.size w w'):bF w' v ls:=h.below hB (Zb _)
theorem cO.at {w:World} {o:Option Addr} (ls:List aB):∀{i:Nat},cO w o i ls→∀k (hk:k<ls.length),fH w o (i+k) ls[k]:=by
 induction ls with
 |nil=>intro i h k hk;simp at hk
 |cons l r ih=>
  intro i h k hk;rw[cO]at h;cases k with
  |zero=>exact h.1
  |succ k=>
   have:=ih h.2 k (by simpa using hk);rw[show i+1+k=i+(k+1) by omega]at this;exact this
theorem cO.mk {w:World} {o:Option Addr} (ls:List aB):∀{i:Nat},(∀k (hk:k<ls.length),fH w o (i+k) ls[k])→cO w o i ls:=by
 induction ls with
 |nil=>intro i _;rw[cO];trivial
 |cons l r ih=>
  intro i h;rw[cO];refine⟨h 0 (by simp),ih fun k hk=>?_⟩;have:=h (k+1) (by simpa using hk);rw[show i+1+k=i+(k+1) by omega];exact this
theorem bF.lay {w:World} {o:Option Addr} {n cap:Nat} {ls:List aB} (h:bF w (.slice o n cap) ls) (k:Nat) (hk:k<ls.length):
  ∃b off vb,o=some ⟨b,off,none⟩∧(∀j u,((ls[k]).n.cells vb)[j]?=some u→w.cell? ⟨b,off+k*9+j,none⟩=some u)∧bF w vb (ls[k]).body∧(ls[k]).body.length≤140737488351232:=by
 obtain⟨o',cap',he,h⟩:=h;simp at he;obtain⟨rfl,_,_⟩:=he;have h1:=cO.at ls h k hk;rw[Nat.zero_add]at h1;generalize ls[k]=l at h1;cases l with
 |mk n body=>
  rw[fH]at h1;obtain⟨b,off,ob,cb,rfl,hlim,hc,hl⟩:=h1;exact⟨b,off,_,rfl,hc,⟨ob,cb,rfl,hl⟩,hlim⟩
theorem bF.len {w:World} {v:Value} {ls:List aB} (h:bF w v ls):∃o cap,v=.slice o ls.length cap:=by obtain⟨o,cap,rfl,_⟩:=h;exact⟨o,cap,rfl⟩
mutual
def aB.count:aB→Nat
 |.mk _ b=>1+aR b
def aR:List aB→Nat
 |[]=>0
 |l::r=>l.count+aR r
end
theorem aB.count_eq (l:aB):l.count=1+aR l.body:=by
 cases l with
 |mk n b=>rw[aB.count,aB.body]
structure aO where
 sh:List Int
 da:List Int
 deriving DecidableEq,Inhabited
structure iB where
 kind:Int
 rate:Int
 mu:Int
 nu:Int
 eps:Int
 decay:Int
 clip:Int
 sched:Int
 every:Int
 deriving DecidableEq,Inhabited
structure lS where
 m:List aO
 v:List aO
 powMu:Int
 powNu:Int
 steps:Int
 deriving DecidableEq,Inhabited
structure bE where
 input:List Int
 lays:List aB
 loss:Int
structure AC where
 script:List Int
 s0:Int
 s1:Int
 s2:Int
 s3:Int
 deriving DecidableEq,Inhabited
structure CurD where
 order:List Int
 at_:Int
 epoch:Int
 deriving DecidableEq,Inhabited
structure aX where
 f:Int
 d:bE
 h:iB
 ps:List aO
 m:lS
 r:AC
 c:CurD
instance:Inhabited aB:=⟨.mk ⟨0,0,0,0,0,0,0,0⟩ []⟩
def aQ (l:List aO) (k:Nat):aO:=l.getD k ⟨[],[]⟩
theorem fE (l:List aO) (k:Nat) (h:k<l.length):aQ l k=l[k]:=by rw[aQ,List.getD_eq_getElem?_getD,List.getElem?_eq_getElem h];rfl
def nG (w:World) (o:Option Addr) (i:Nat) (t:aO):Prop:=
 ∃b off vs vd,o=some ⟨b,off,none⟩∧w.cell? ⟨b,off+i*2,none⟩=some vs∧w.cell? ⟨b,off+i*2+1,none⟩=some vd∧Rd w .i64 vs t.sh∧Rd w .i64 vd t.da
def aY (w:World) (v:Value) (ts:List aO):Prop:=∃o cap,v=.slice o ts.length cap∧∀i,i<ts.length→nG w o i (aQ ts i)
theorem nG.below {w w':World} {B:Nat} {o:Option Addr} {i:Nat} {t:aO} (h:nG w o i t) (hB:Below B w w') (hs:w.heap.size≤B):nG w' o i t:=by obtain⟨b,off,vs,vd,rfl,h1,h2,h3,h4⟩:=h;exact⟨b,off,vs,vd,rfl,(hB.cell (p:=⟨b,off+i*2,none⟩) (Nat.lt_of_lt_of_le (aP h1) hs)).trans h1,(hB.cell (p:=⟨b,off+i*2+1,none⟩) (Nat.lt_of_lt_of_le (aP h2) hs)).trans h2,h3.below hB hs,h4.below hB hs⟩
theorem aY.below {w w':World} {B:Nat} {v:Value} {ts:List aO} (h:aY w v ts) (hB:Below B w w') (hs:w.heap.size≤B):aY w' v ts:=by obtain⟨o,cap,rfl,h⟩:=h;exact⟨o,cap,rfl,fun i hi=>(h i hi).below hB hs⟩
theorem aY.next {w w':World} {v:Value} {ts:List aO} (h:aY w v ts) (hB:Below w.heap.size w w'):aY w' v ts:=h.below hB (Zb _)
theorem aY.same {w w':World} {v:Value} {ts:List aO} (h:aY w v ts) (hs:aN w w'):aY w' v ts:=h.next (hs.below _)
theorem aY.slice {w:World} {v:Value} {ts:List aO} (h:aY w v ts):∃o cap,v=.slice o ts.length cap:=by obtain⟨o,cap,rfl,_⟩:=h;exact⟨o,cap,rfl⟩
theorem aY.tens {w:World} {o:Option Addr} {n cap:Nat} {ts:List aO} (h:aY w (.slice o n cap) ts) (i:Nat) (hi:i<ts.length):nG w o i (aQ ts i):=by obtain⟨o',cap',he,h⟩:=h;simp at he;obtain⟨rfl,_,_⟩:=he;exact h i hi
abbrev dD (s:aX) (o1:Option Addr) (c1:Nat) (o2:Option Addr) (c2:Nat) (o3:Option Addr) (c3:Nat) (o4:Option Addr) (c4:Nat) (o5:Option Addr) (c5:Nat) (o6:Option Addr) (c6:Nat) (o7:Option Addr) (c7:Nat):Array Value:=#[.int .i64 s.f,.slice o1 s.d.input.length c1,.slice o2 s.d.lays.length c2,.int .i64 s.d.loss,.int .i64 s.h.kind,.int .i64 s.h.rate,.int .i64 s.h.mu,.int .i64 s.h.nu,.int .i64 s.h.eps,.int .i64 s.h.decay,.int .i64 s.h.clip,.int .i64 s.h.sched,.int .i64 s.h.every,.slice o3 s.ps.length c3,.slice o4 s.m.m.length c4,.slice o5 s.m.v.length c5,.int .i64 s.m.powMu,.int .i64 s.m.powNu,.int .i64 s.m.steps,.slice o6 s.r.script.length c6,.int .u64 s.r.s0,.int .u64 s.r.s1,.int .u64 s.r.s2,.int .u64 s.r.s3,.slice o7 s.c.order.length c7,.int .i64 s.c.at_,.int .i64 s.c.epoch]
abbrev zR:Array Value:=#[.int .i64 0,.slice none 0 0,.slice none 0 0,.int .i64 0,.int .i64 0,.int .i64 0,.int .i64 0,.int .i64 0,.int .i64 0,.int .i64 0,.int .i64 0,.int .i64 0,.int .i64 0,.slice none 0 0,.slice none 0 0,.slice none 0 0,.int .i64 0,.int .i64 0,.int .i64 0,.slice none 0 0,.int .u64 0,.int .u64 0,.int .u64 0,.int .u64 0,.slice none 0 0,.int .i64 0,.int .i64 0]
structure bU where
 kind:Int
 word:List UInt8
 at_:List Nat
 low:List Int
 high:List Int
def bG:List bU:=[
 ⟨1,[108,105,110,101,97,114],[1,2],[1,1],[4096,4096]⟩,
 ⟨2,[99,111,110,118],[1,2,3,4,5],[1,1,1,1,0],[4096,4096,4096,4096,4096]⟩,
 ⟨3,[114,101,108,117],[],[],[]⟩,
 ⟨4,[116,97,110,104],[],[],[]⟩,
 ⟨5,[115,105,103,109,111,105,100],[],[],[]⟩,
 ⟨6,[110,111,114,109],[],[],[]⟩,
 ⟨10,[102,108,97,116,116,101,110],[],[],[]⟩,
 ⟨7,[100,114,111,112],[6],[0],[99]⟩,
 ⟨8,[109,97,120,112,111,111,108],[3],[1],[4096]⟩,
 ⟨9,[97,118,103,112,111,111,108],[3],[1],[4096]⟩,
 ⟨11,[101,109,98,101,100],[1,2],[1,1],[4096,4096]⟩,
 ⟨12,[97,116,116,101,110,116,105,111,110],[1,7],[1,1],[4096,4096]⟩]
def aG.fld (n:aG):Nat→Int
 |1=>n.inn
 |2=>n.o
 |3=>n.size
 |4=>n.stride
 |5=>n.pad
 |6=>n.percent
 |7=>n.heads
 |_=>n.kind
def aG.put (n:aG) (i:Nat) (x:Int):aG:=match i with
 |1=>{n with inn:=x}
 |2=>{n with o:=x}
 |3=>{n with size:=x}
 |4=>{n with stride:=x}
 |5=>{n with pad:=x}
 |6=>{n with percent:=x}
 |7=>{n with heads:=x}
 |_=>{n with kind:=x}
def bM:aG:=⟨0,0,0,0,0,0,0,0⟩
def gD (l m:aG):Bool:=decide (l.inn=m.inn)&&decide (l.o=m.o)&&decide (l.size=m.size)&&decide (l.stride=m.stride)&&decide (l.pad=m.pad)&&decide (l.percent=m.percent)&&decide (l.heads=m.heads)
def bU.fits (r:bU) (n:aG) (k:Nat):Bool:=decide (r.low.getD k 0≤n.fld (r.at_.getD k 0))&&decide (n.fld (r.at_.getD k 0)≤r.high.getD k 0)
def bU.fitsTo (r:bU) (n:aG):Nat→Bool
 |0=>true
 |k+1=>r.fitsTo n k&&r.fits n k
def bU.made (r:bU) (n:aG):Nat→aG
 |0=>bM
 |k+1=>(r.made n k).put (r.at_.getD k 0) (n.fld (r.at_.getD k 0))
def hZ (r:bU) (n:aG) (body:List aB):Bool:=r.fitsTo n r.at_.length&&(decide (body.length=0)&&gD n (r.made n r.at_.length))
def cQ (k:Int):Option bU:=bG.find? fun r=>r.kind==k
def eZ (n:aG) (body:List aB):Bool:=match cQ n.kind with
 |none=>false
 |some r=>hZ r n body
mutual
def bY (deep:Nat) (left:Int):aB→Option Int
 |.mk n body=>bif decide (left-1<0) then none else bif decide (n.kind=13) then(bif decide (deep<4)&&gD n bM then bQ (deep+1) (left-1) body else none) else bif eZ n body then some (left-1) else none
def bQ (deep:Nat) (left:Int):List aB→Option Int
 |[]=>some left
 |l::r=>match bY deep left l with
  |none=>none
  |some k=>bQ deep k r
end
def kG (k:Int):Bool:=decide (k=1) || decide (k=2)
def lR (s:List Int):Bool:=decide (1≤s.length)&&decide (s.length≤3)&&s.all bW
def dL (d:bE):Bool:=lR d.input&&kG d.loss&&(bQ 0 64 d.lays).isSome
def eA (n:aG):List Nat→List UInt8
 |[]=>[]
 |i::r=>32::(Lib.itoa (n.fld i)++eA n r)
def bU.text (r:bU) (n:aG):List UInt8:=r.word++eA n r.at_++[10]
def lK (n:aG):List UInt8:=match cQ n.kind with
 |none=>[]
 |some r=>r.text n
def dC:List UInt8:=[114,101,115,105,100,117,97,108]
def cV:List UInt8:=[101,110,100]
def eB:List UInt8:=[108,111,115,115]
def jP:List UInt8:=[105,110,112,117,116]
mutual
def kJ:aB→List UInt8
 |.mk n body=>bif decide (n.kind=13) then dC++[10]++dA body++cV++[10] else lK n
def dA:List aB→List UInt8
 |[]=>[]
 |l::r=>kJ l++dA r
end
def eW:List Int→List UInt8
 |[]=>[]
 |x::r=>32::(Lib.itoa x++eW r)
def eX (k:Int):List UInt8:=bif decide (k=1) then [120,101,110,116] else [115,113,117,97,114,101]
def dT (d:bE):List UInt8:=jP++eW d.input++[10]++dA d.lays++eB++[32]++eX d.loss++[10]
def dU (f:Int):Bool:=decide (8≤f)&&decide (f≤32)
theorem wI (v:Int) (w:World):
  Calls Tryz.prog 74 #[.int .i64 v] w fun e w'=>e=.returned (.bool (dU v))∧aN w w':=by
 by_cases h1:8≤v
 ·by_cases h2:v≤32
  all_goals
   go_enter Tryz.func74,Tryz.ntmps74;go_wp2;go_ret;exact⟨aF (by simp[dU];omega),aN.refl _⟩
 ·go_enter Tryz.func74,Tryz.ntmps74;go_wp2;go_ret;exact⟨aF (by simp[dU];omega),aN.refl _⟩
theorem JP (v:Int) (w:World):
  Calls Tryz.prog 54 #[.int .i64 v] w fun e w'=>e=.returned (.bool (dU v))∧aN w w':=by
 by_cases h1:8≤v
 ·by_cases h2:v≤32
  all_goals
   go_enter Tryz.func54,Tryz.ntmps54;go_wp2;go_ret;exact⟨aF (by simp[dU];omega),aN.refl _⟩
 ·go_enter Tryz.func54,Tryz.ntmps54;go_wp2;go_ret;exact⟨aF (by simp[dU];omega),aN.refl _⟩
theorem S4 (w:World):(sizeOf 40).run Tryz.prog w=.ok 1 w:=by kernel_rfl
theorem J6 (w:World):(isAgg 40).run Tryz.prog w=.ok false w:=by kernel_rfl
theorem CS (a b c d e f g h:Int) (w:World):(Op.equalIn 10000 41 (.agg #[.int .u64 a,.int .u64 b,.int .u64 c,.int .u64 d]) (.agg #[.int .u64 e,.int .u64 f,.int .u64 g,.int .u64 h])).run Tryz.prog w=.ok (a==e&&(b==f&&(c==g&&d==h))) w:=by
 have key:∀x y:Int,(Op.equalIn 9999 40 (.int .u64 x) (.int .u64 y)).run Tryz.prog w=.ok (x==y) w:=fun x y=>run_equalIn_int w 9998 40 .u64 .u64 x y Tryz.underlying40;have hp:∀(cs:Array Value) (i:Nat) (v:Value),cs[i]?=some v→(part 40 cs i).run Tryz.prog w=.ok v w:=by intro cs i v hv;simp only[part,Sem.run_bind,J6,Result.andThen_ok,Bool.false_eq_true,if_false,hv,Sem.run_pure]
 show(Op.equalIn (9999+1) _ _ _).run _ _=_
 rw[Op.equalIn];simp only[Sem.run_bind,run_underlying Tryz.underlying41,Result.andThen_ok,S4,Std.Legacy.Range.forIn_eq_forIn_range',Std.Legacy.Range.size,List.range',Nat.reduceSub,Nat.reduceAdd,Nat.reduceDiv,List.forIn_cons,List.forIn_nil,Nat.zero_mul,Nat.one_mul,Nat.reduceMul];rw[hp _ 0 (.int .u64 a) rfl];simp only[Result.andThen_ok];rw[hp _ 0 (.int .u64 e) rfl];simp only[Result.andThen_ok,key];cases h1:a==e
 ·simp
 simp only[Bool.not_true,Bool.false_eq_true,if_false,Sem.run_pure,Result.andThen_ok];rw[Sem.run_bind,Sem.run_bind,hp _ 1 (.int .u64 b) rfl];simp only[Result.andThen_ok,Sem.run_bind];rw[hp _ 1 (.int .u64 f) rfl];simp only[Result.andThen_ok,key];cases h2:b==f
 ·simp
 simp only[Bool.not_true,Bool.false_eq_true,if_false,Sem.run_pure,Result.andThen_ok];rw[Sem.run_bind,Sem.run_bind,hp _ 2 (.int .u64 c) rfl];simp only[Result.andThen_ok,Sem.run_bind];rw[hp _ 2 (.int .u64 g) rfl];simp only[Result.andThen_ok,key];cases h3:c==g
 ·simp
 simp only[Bool.not_true,Bool.false_eq_true,if_false,Sem.run_pure,Result.andThen_ok];rw[Sem.run_bind,Sem.run_bind,hp _ 3 (.int .u64 d) rfl];simp only[Result.andThen_ok,Sem.run_bind];rw[hp _ 3 (.int .u64 h) rfl];simp only[Result.andThen_ok,key];cases h4:d==h
 ·simp
 simp
def gK (n:Nat) (a b c d:Int):Bool:=decide (n≤4096)&&(decide (a≠0) || decide (b≠0) || decide (c≠0) || decide (d≠0))
theorem R9 (o:Option Addr) (n cap:Nat) (a b c d:Int) (w:World) (hl:n≤140737488351232):
  Calls Tryz.prog 84 #[.agg #[.slice o n cap,.int .u64 a,.int .u64 b,.int .u64 c,.int .u64 d]] w fun e w'=>e=.returned (.bool (gK n a b c d))∧Below w.heap.size w w':=by
 by_cases h1:n≤4096
 ·have hEq:=CS a b c d 0 0 0 0;go_enter Tryz.func84,Tryz.ntmps84;go_wp2;go_ret;exact⟨aF (by simp[gK,h1,Bool.beq_eq_decide_eq,Bool.or_assoc]),(Zc _ _).alloc (Zb _) _⟩
 ·go_enter Tryz.func84,Tryz.ntmps84;go_wp2;go_ret;exact⟨aF (by simp[gK];omega),(Zc _ _).alloc (Zb _) _⟩
theorem EV (o:Option Addr) (n cap:Nat) (a b c d:Int) (w:World) (hl:n≤140737488351232):
  Calls Tryz.prog 57 #[.agg #[.slice o n cap,.int .u64 a,.int .u64 b,.int .u64 c,.int .u64 d]] w fun e w'=>e=.returned (.bool (gK n a b c d))∧Below w.heap.size w w':=by
 by_cases h1:n≤4096
 ·by_cases ha:a=0
  ·by_cases hb:b=0
   ·by_cases hc:c=0
    ·by_cases hd:d=0
     all_goals
      go_enter Tryz.func57,Tryz.ntmps57;go_wp2;go_ret;exact⟨aF (by simp[gK, *]),(Zc _ _).alloc (Zb _) _⟩
    ·go_enter Tryz.func57,Tryz.ntmps57;go_wp2;go_ret;exact⟨aF (by simp[gK, *]),(Zc _ _).alloc (Zb _) _⟩
   ·go_enter Tryz.func57,Tryz.ntmps57;go_wp2;go_ret;exact⟨aF (by simp[gK, *]),(Zc _ _).alloc (Zb _) _⟩
  ·go_enter Tryz.func57,Tryz.ntmps57;go_wp2;go_ret;exact⟨aF (by simp[gK, *]),(Zc _ _).alloc (Zb _) _⟩
 ·go_enter Tryz.func57,Tryz.ntmps57;go_wp2;go_ret;exact⟨aF (by simp[gK];omega),(Zc _ _).alloc (Zb _) _⟩
theorem tR {P:Program} (w:World) (t ty:TypeId) (e:TypeId) (i:TypeInfo) (ht:P.underlying t=some (.slice e)) (hi:P.info? e=some i) (o o':Option Addr) (n cap c:Nat) (hc:n≤cap):
  (Builtin.append_ #[t,t] ty #[.slice o n cap,.slice o' 0 c]).run P w=.ok (.slice o n cap) w:=by cases o<;>cases o'<;>simp[Builtin.append_,run_underlying ht,sizeOf,typeInfo,hi,Builtin.lenOf,Builtin.firstCells,loadCells,loadCellsFrom,storeCells,hc,Result.andThen]
theorem iV {w:World} {B:Nat} {e:TypeId} {s n:Nat} {v:Value} {xs:List Value} (h:w.ownsRow B e s v n xs):∃o cap,v=.slice o n cap∧n≤cap:=by
 rcases h.2 with⟨rfl,rfl⟩|⟨g,cap,cur,rfl,hb,hgg,hn,rest⟩
 ·exact⟨none,0,rfl,Zb _⟩
 ·exact⟨_,_,rfl,hn⟩
theorem uM {P:Program} (w:World) (t ty:TypeId) (B:Nat) (e:TypeId) (K:IntKind) (i:TypeInfo) (bytes:Nat) (ht:P.underlying t=some (.slice e)) (hi:P.info? e=some i) (hz:i.zero=some (.int K 0)) (hsize:i.size=1) (hby:i.bytes=bytes)
  (v:Value) (xs:List Int) (hown:aH w B e K v xs) (u:Value) (ys:List Int) (hr:Rd w K u ys)
  (h63:xs.length+ys.length≤maxLen) (hbytes:(xs.length+ys.length)*bytes≤140737488355328) (hbase:B≤w.heap.size):
  ∃v' w',(Builtin.append_ #[t,t] ty #[v,u]).run P w=.ok v' w'∧aH w' B e K v' (xs++ys)∧w.grownBy w' v.ownBlock∧(v'.ownBlock=v.ownBlock∨v'.ownBlock=some w.heap.size):=by
 obtain⟨o,c,rfl,hc⟩:=hr;by_cases h0:ys.length=0
 ·have:ys=[]:=List.eq_nil_of_length_eq_zero h0;subst this;obtain⟨ov,cap,rfl,hle⟩:=iV hown;refine⟨_,w,tR w t ty e i ht hi _ _ _ _ _ hle,?_,⟨rfl,rfl,rfl,Zb _,fun _ _ _=>rfl⟩,.inl rfl⟩;rw[List.append_nil];exact hown
 ·obtain⟨b,off,rfl,_⟩:=hc 0 (by omega);obtain⟨v',w',hrun,h2,h3,_,h5⟩:=run_append_own_at (P:=P) w B t ty e i (.int K 0) 1 bytes ht hi hz hsize hby rfl (by decide) v xs.length _ hown ⟨b,off,none⟩ ys.length c (ys.map (.int K)) (by simp) (fun j x hj=>by
    have hjl:j<ys.length:=by have:=(List.getElem?_eq_some_iff.1 hj).1;simpa using this
    obtain⟨b',off',he,hcell⟩:=hc j hjl;cases he;have hx:x=.int K (aE ys j):=by
     have h1:(ys.map (Value.int K))[j]?=some (.int K (aE ys j)):=by rw[List.getElem?_map,List.getElem?_eq_getElem hjl,dK ys j hjl];rfl
     rw[h1]at hj;exact(Option.some.inj hj).symm
    rw[hx,Addr.add_lit];exact hcell) (fun x hx=>by
    obtain⟨y,_,rfl⟩:=List.mem_map.1 hx;rfl) h63 hbytes hbase
  exact⟨v',w',hrun,wP h2 rfl,h3,h5⟩
theorem pB {P:Program} {ops:Array Oper} {o:Oper} {a:Act} {w:World} {K':Act→World→Prop} {Q:Exit→Act→World→Prop} {E:Prop} (hgd:o.guard=none) (s x:Operand) (t:TypeId)
  (ho:o.op=.call {callee:=.builtin .append,args:=#[s,x],argTypes:=#[t,t]})
  (B:Nat) (e:TypeId) (K:IntKind) (i:TypeInfo) (bytes:Nat) (ht:P.underlying t=some (.slice e)) (hi:P.info? e=some i) (hz:i.zero=some (.int K 0)) (hsize:i.size=1) (hby:i.bytes=bytes)
  (v:Value) (xs:List Int) (hs:a.eval s=v) (hown:aH w B e K v xs) (u:Value) (ys:List Int) (hx:a.eval x=u) (hr:Rd w K u ys)
  (h63:xs.length+ys.length≤maxLen) (hbytes:(xs.length+ys.length)*bytes≤140737488355328) (hbase:B≤w.heap.size)
  (h:∀v' w',aH w' B e K v' (xs++ys)→w.grownBy w' v.ownBlock→(v'.ownBlock=v.ownBlock∨v'.ownBlock=some w.heap.size)→K' (a.put o.dst v') w'):
  if Region.wanted o (yielded ops a.tmps)=true then Oper.wp P o a w K' Q else E:=by
 have hw:Region.wanted o (yielded ops a.tmps)=true:=by simp[Region.wanted,hgd]
 rw[if_pos hw];obtain⟨v',w',hrun,h2,h3,h4⟩:=uM (P:=P) w t o.type B e K i bytes ht hi hz hsize hby v xs hown u ys hr h63 hbytes hbase;unfold Oper.wp execOp;simp only[ho,resolve,invoke,builtin,Sem.run_bind,Sem.run_pure,Result.andThen_ok,List.map_toArray,List.map_cons,List.map_nil,hs,hx,hrun];exact h v' w' h2 h3 h4
theorem kI {P:Program} {ops:Array Oper} {rest:List Oper} {o:Oper} {a:Act} {w:World} {Q:Exit→Act→World→Prop} (hgd:o.guard=none) (s x:Operand) (t:TypeId)
  (ho:o.op=.call {callee:=.builtin .append,args:=#[s,x],argTypes:=#[t,t]})
  (B:Nat) (e:TypeId) (K:IntKind) (i:TypeInfo) (bytes:Nat) (ht:P.underlying t=some (.slice e)) (hi:P.info? e=some i) (hz:i.zero=some (.int K 0)) (hsize:i.size=1) (hby:i.bytes=bytes)
  (v:Value) (xs:List Int) (hs:a.eval s=v) (hown:aH w B e K v xs) (u:Value) (ys:List Int) (hx:a.eval x=u) (hr:Rd w K u ys)
  (h63:xs.length+ys.length≤maxLen) (hbytes:(xs.length+ys.length)*bytes≤140737488355328) (hbase:B≤w.heap.size)
  (h:∀v' w',aH w' B e K v' (xs++ys)→w.grownBy w' v.ownBlock→(v'.ownBlock=v.ownBlock∨v'.ownBlock=some w.heap.size)→wpList P ops Q rest (a.put o.dst v') w'):
  wpList P ops Q (o::rest) a w:=by refine wpList_plain hgd fun K' hK=>?_;obtain⟨v',w',hrun,h2,h3,h4⟩:=uM (P:=P) w t o.type B e K i bytes ht hi hz hsize hby v xs hown u ys hr h63 hbytes hbase;unfold Oper.wp execOp;simp only[ho,resolve,invoke,builtin,Sem.run_bind,Sem.run_pure,Result.andThen_ok,List.map_toArray,List.map_cons,List.map_nil,hs,hx,hrun];exact hK _ _ (h v' w' h2 h3 h4)
theorem aH.lit (w:World) (K:IntKind) (xs:List Int) (e:TypeId) (h0:xs.length≤maxLen):aH (w.alloc (.cells (xs.map (Value.int K)).toArray e)) w.heap.size e K (.slice (some ⟨w.heap.size,0,none⟩) xs.length xs.length) xs:=
 ⟨by simp,.inr ⟨w.heap.size,xs.length,_,rfl,Zb _,heap_alloc_new w _,Zb _,h0,by simp,by simp[List.take_of_length_le]⟩⟩
theorem pI {w w':World} {B:Nat} {e:TypeId} {s n:Nat} {v:Value} {xs:List Value} (h:w.ownsRow B e s v n xs) (hg:w.grownBy w' v.ownBlock) (hB:B≤w.heap.size):Below B w w':=
 (Zc B w).grown hg hB (fun k hk=>(h.lt k hk).1)
theorem jJ:(Tryz.prog.info? 3).map (fun i=>(i.zero,i.size,i.bytes))=some (some (.int .i64 0),1,8):=by kernel_rfl
theorem rT (v:Value) (xs:List Int) (w:World) (hr:Rd w .i64 v xs) (hl:xs.length≤100000000):
  Calls Tryz.prog 123 #[v] w fun e w'=>(∃v',e=.returned v'∧aH w' w.heap.size 3 .i64 v' xs)∧Below w.heap.size w w':=by
 obtain⟨o,cap,rfl,hc⟩:=hr;cases o with
 |none=>
  have hx:xs=[]:=by
   cases xs with
   |nil=>rfl
   |cons x xs=>obtain⟨b,off,he,_⟩:=hc 0 (by simp);cases he
  subst hx;clear hc;have hq:=fun(W:World)=>Lib.run_eql_slice_nil (P:=Tryz.prog) W 30 3 none 0 cap 0 0 Tryz.underlying30;go_enter Tryz.func123,Tryz.ntmps123;go_wp2;go_ret;exact⟨⟨_,rfl,World.ownsRow_nil _ _ _ _⟩,Zc _ _⟩
 |some a=>
  have HR:=Za (show Rd w .i64 (.slice (some a) xs.length cap) xs from⟨_,cap,rfl,hc⟩);clear hc;obtain⟨i0,hi,hz0,hz1,hz2⟩:=info_parts jJ;have hb:Below w.heap.size w (w.alloc (.cells #[] 3)):=(Zc _ _).alloc (Zb _) _;have HO:=Za (show aH (w.alloc (.cells #[] 3)) w.heap.size 3 .i64 (.slice (some ⟨w.heap.size,0,none⟩) 0 0) [] from aH.lit w .i64 [] 3 (Ze _));have HB:=Za hb;clear hb;have hq:=fun(W:World)=>Lib.run_eql_slice_nil (P:=Tryz.prog) W 30 3 (some a) xs.length cap 0 0 Tryz.underlying30;go_enter Tryz.func123,Tryz.ntmps123;go_wp2_with(at_builtin;refine aD ?_);refine aC ?_;refine kI rfl _ _ 30 rfl w.heap.size 3 .i64 i0 8 Tryz.underlying30 hi hz0 hz1 hz2 _ [] rfl HO.o _ xs rfl (HR.o.below HB.o (Zb _)) (by unfold maxLen;simp;omega) (by simp;omega) (by simp) ?_;intro v' w1 hown hg hat
  rw[List.nil_append]at hown;obtain⟨a',k',rfl⟩:=aJ hown;have HW:=Za hown;have HB1:=Za (HB.o.trans (pI HO.o hg (by simp)));clear hown hg hat
  go_wp2_with fail;go_ret;exact⟨⟨_,rfl,HW.o⟩,HB1.o⟩
theorem QY (c:Int) (hc:c=1∨c=2) (w:World):
  Calls Tryz.prog 219 #[.int .u64 1,.int .u64 c] w fun e w'=>e=.returned (.tuple #[.int .u64 0,.int .u64 c])∧w=w':=by
 rcases hc with rfl|rfl
 all_goals
  go_enter Tryz.func219,Tryz.ntmps219;go_wp2;go_ret2;exact⟨rfl,rfl⟩
theorem yQ (c:Int) (hc:c=1∨c=2) (w:World):
  Calls Tryz.prog 217 #[.int .u64 1,.int .u64 c] w fun e w'=>e=.returned (.tuple #[.int .u64 0,.int .u64 c])∧w=w':=by
 have hm:=QY c hc;rcases hc with rfl|rfl
 all_goals
  go_enter Tryz.func217,Tryz.ntmps217;go_wp2_with fail;refine(hm _).mono ?_;rintro e w' ⟨rfl,rfl⟩;go_wp2;go_ret2;exact⟨rfl,rfl⟩
theorem yR {w:World} {B:Nat} {e:TypeId} {g n:Nat} {xs:List Value} (h:w.ownsRow B e 1 (.slice (some ⟨g,0,none⟩) n n) n xs):w.heap[g]?=some (.cells xs.toArray e (0,0))∧B≤g:=by
 rcases h.2 with⟨h1,_⟩|⟨g',cap',cur,h1,hb,hg,h4,h5,h6,ht⟩
 ·simp at h1
 ·simp at h1;obtain⟨rfl,rfl⟩:=h1;have:cur=xs.toArray:=by rw[←ht,List.take_of_length_le (by simp;omega)]
  rw[this]at hg;exact⟨hg,hb⟩
theorem xJ {w:World} {B:Nat} {e:TypeId} {g:Nat} {xs:List Value} (hg:w.heap[g]?=some (.cells xs.toArray e (0,0))) (hB:B≤g) (hl:xs.length≤maxLen) (h1:∀v∈xs,v.oneCell'=true):w.ownsRow B e 1 (.slice (some ⟨g,0,none⟩) xs.length xs.length) xs.length xs:=
 ⟨by simp,.inr ⟨g,xs.length,_,rfl,hB,hg,Zb _,hl,by simp,by simp[List.take_of_length_le]⟩⟩
theorem vZ:(Tryz.prog.info? 3).map (·.size)=some 1:=by kernel_rfl
theorem GP (b:Nat) (v:Int) (w:World) (hb:aA w b 3 #[.int .i64 v]):
  Calls Tryz.prog 216 #[.slice (some ⟨b,0,none⟩) 1 1,.int .i64 1] w fun e w'=>(∃v',e=.returned v'∧aH w' w.heap.size 3 .i64 v' [v])∧Below w.heap.size w w':=by
 obtain⟨i0,hi,hz0,hz1,hz2⟩:=info_parts jJ;have c0:=hb.cell 0 rfl;have hm:=yQ 1 (.inl rfl);go_enter Tryz.func216,Tryz.ntmps216;go_wp2_with fail;refine(hm _).mono ?_;rintro e w' ⟨rfl,rfl⟩;go_wp2_with(at_make;refine wpList_make_full _ rfl _ _ 30 rfl w.heap.size 3 i0 (.int .i64 0) 1 Tryz.underlying30 hi hz0 hz1 .i64 .i64 _ _ 1 rfl rfl rfl rfl (by rw[hz2];omega) (by unfold maxLen;omega) (Zb _) ?_;intro w1 hmk hg;refine aD ?_);rw[rG]at hmk;obtain⟨hrow,_⟩:=yR hmk;have HROW:=Za hrow;have HB:=Za (lW hg);have HBX:=Za (hb.next (lW hg));clear hmk hg hrow hi hz0 hz1 hz2 hm;have hcp:=run_copy_row (P:=Tryz.prog) w1 30 30 3 3 w.heap.size 0 1 1 ⟨b,0,none⟩ 1 1 _ 3 [.int .i64 v] Tryz.underlying30 vZ HROW.o rfl (fun j u hj=>by cases j with|zero=>(simp at hj;subst hj;exact HBX.o.cell 0 rfl)|succ j=>simp at hj) (by simp) (by simp[Value.oneCell']);obtain⟨w2,hw2⟩:∃w2,w2=w1.setRow w.heap.size #[.int .i64 v]:=⟨_,rfl⟩;have hrow2:w2.heap[w.heap.size]?=some (.cells [Value.int .i64 v].toArray 3 (0,0)):=by rw[hw2];exact setRow_heap w1 _ _ _ 3 _ HROW.o
 have HROW2:=Za hrow2;have HB2:=Za (show Below w.heap.size w w2 by rw[hw2];exact below_setRow HB.o (Zb _) _);simp only[List.take_zero,List.nil_append,List.map_cons,List.map_nil,List.replicate,List.length_singleton,List.length_cons,List.length_nil,Nat.zero_add,List.drop_succ_cons,List.drop_nil,List.append_nil,List.drop_zero,List.drop_one,List.tail_cons]at hcp;rw[←hw2]at hcp;clear hw2 hrow2;refine aC ?_;go_wp2;go_loopw[8] (fun i wr=>i=.int .i64 1∧Hid (wr=w2)) (fun _ _=>0)
 case atStart=>exact⟨rfl,Za rfl⟩
 case round=>
  obtain⟨rfl,HE⟩:=hrel;go_wp2;go_ret;rw[HE.o];exact⟨⟨_,rfl,xJ HROW2.o (Zb _) (by unfold maxLen;simp) (by simp[Value.oneCell'])⟩,HB2.o⟩
theorem GZ (b:Nat) (v:Int) (w:World) (hb:aA w b 3 #[.int .i64 v]):
  Calls Tryz.prog 216 #[.slice (some ⟨b,0,none⟩) 1 1,.int .i64 2] w fun e w'=>(∃v',e=.returned v'∧aH w' w.heap.size 3 .i64 v' [v,v])∧Below w.heap.size w w':=by
 obtain⟨i0,hi,hz0,hz1,hz2⟩:=info_parts jJ;have c0:=hb.cell 0 rfl;have hm:=yQ 2 (.inr rfl);go_enter Tryz.func216,Tryz.ntmps216;go_wp2_with fail;refine(hm _).mono ?_;rintro e w' ⟨rfl,rfl⟩;go_wp2_with(at_make;refine wpList_make_full _ rfl _ _ 30 rfl w.heap.size 3 i0 (.int .i64 0) 1 Tryz.underlying30 hi hz0 hz1 .i64 .i64 _ _ 2 rfl rfl rfl rfl (by rw[hz2];omega) (by unfold maxLen;omega) (Zb _) ?_;intro w1 hmk hg;refine aD ?_);rw[rG]at hmk;obtain⟨hrow,_⟩:=yR hmk;have HROW:=Za (show w1.heap[w.heap.size]?=some (.cells #[.int .i64 0,.int .i64 0] 3 (0,0))from hrow);have HB:=Za (lW hg);have HBX:=Za (hb.next (lW hg));clear hmk hg hrow hi hz0 hz1 hz2 hm;have hcp:=run_copy_row (P:=Tryz.prog) w1 30 30 3 3 w.heap.size 0 2 2 ⟨b,0,none⟩ 1 1 _ 3 [.int .i64 v] Tryz.underlying30 vZ HROW.o rfl (fun j u hj=>by cases j with|zero=>(simp at hj;subst hj;exact HBX.o.cell 0 rfl)|succ j=>simp at hj) (by simp) (by simp[Value.oneCell']);obtain⟨w2,hw2⟩:∃w2,w2=w1.setRow w.heap.size #[.int .i64 v,.int .i64 0]:=⟨_,rfl⟩;have hrow2:w2.heap[w.heap.size]?=some (.cells [Value.int .i64 v,.int .i64 0].toArray 3 (0,0)):=by rw[hw2];exact setRow_heap w1 _ _ _ 3 _ HROW.o
 have HROW2:=Za hrow2;have HS0:=Za (show w2.cell? ⟨w.heap.size,0,none⟩=some (.int .i64 v) by rw[cell_of_row _ _ _ _ _ _ hrow2];rfl);have HB2:=Za (show Below w.heap.size w w2 by rw[hw2];exact below_setRow HB.o (Zb _) _)
 replace hcp:(Builtin.copy_ #[30,30] 3 #[.slice (some ⟨w.heap.size,0,none⟩) 2 2,.slice (some ⟨b,0,none⟩) 1 1]).run Tryz.prog w1=.ok (goInt 1) w2:=by rw[hw2];exact hcp
 clear hw2 hrow2;refine aC ?_;go_wp2;go_loopw[8] (fun i wr=>∃k:Nat,i=.int .i64 k∧Hid ((k=1∧wr=w2)∨(k=2∧wr.heap[w.heap.size]?=some (.cells [Value.int .i64 v,.int .i64 v].toArray 3 (0,0))∧Below w.heap.size w wr))) (fun i _=>2-(intOf i).toNat)
 case atStart=>exact⟨1,rfl,Za (.inl ⟨rfl,rfl⟩)⟩
 case round=>
  obtain⟨k,rfl,HK⟩:=hrel;rcases HK.o with⟨rfl,he⟩|⟨rfl,hr3,hb3⟩
  ·have HE:=Za he;clear HK he;rw[HE.o];go_wp2;have hrowd:w2.drew.heap[w.heap.size]?=some (.cells [Value.int .i64 v,.int .i64 0].toArray 3 (0,0)):=HROW2.o;have hcp2:=run_copy_row (P:=Tryz.prog) w2.drew 30 30 3 3 w.heap.size 1 1 1 ⟨w.heap.size,0,none⟩ 1 2 _ 3 [.int .i64 v] Tryz.underlying30 vZ hrowd rfl (fun j u hj=>by cases j with|zero=>(simp at hj;subst hj;exact HS0.o)|succ j=>simp at hj) (by simp) (by simp[Value.oneCell']);obtain⟨w3,hw3⟩:∃w3,w3=w2.drew.setRow w.heap.size #[.int .i64 v,.int .i64 v]:=⟨_,rfl⟩;have HROW3:=Za (show w3.heap[w.heap.size]?=some (.cells [Value.int .i64 v,.int .i64 v].toArray 3 (0,0)) by rw[hw3];exact setRow_heap _ _ _ _ 3 _ hrowd);have HB3:=Za (show Below w.heap.size w w3 by rw[hw3];exact below_setRow HB2.o.drew (Zb _) _)
   replace hcp2:(Builtin.copy_ #[30,30] 3 #[.slice (some ⟨w.heap.size,1,none⟩) 1 1,.slice (some ⟨w.heap.size,0,none⟩) 1 2]).run Tryz.prog w2.drew=.ok (goInt 1) w3:=by rw[hw3];exact hcp2
   clear hw3 hrowd hcp;go_region;go_wp2;go_roundw
   case rel=>exact⟨2,rfl,Za (.inr ⟨rfl,HROW3.o,HB3.o⟩)⟩
   case measure=>simp[intOf]
  ·have HR3:=Za hr3;have HB3:=Za hb3;clear HK hr3 hb3;go_wp2;go_ret;exact⟨⟨_,rfl,xJ HR3.o (Zb _) (by unfold maxLen;simp) (by simp[Value.oneCell'])⟩,HB3.o⟩
theorem pP (n:Int) (o:Option Addr) (m cap:Nat) (w:World) (hm:m=2∨m=3):
  Calls Tryz.prog 213 #[.int .i64 n,.slice o m cap] w fun e w'=>(∃v,e=.returned v∧aH w' w.heap.size 3 .i64 v (List.replicate (m-1) n))∧Below w.heap.size w w':=by
 have HB0:aA (w.alloc (.cells #[.int .i64 n] 3)) w.heap.size 3 #[.int .i64 n]:=aA.new w _ _;rcases hm with rfl|rfl
 ·have HC:=Za (GP w.heap.size n _ HB0);clear HB0;go_enter Tryz.func213,Tryz.ntmps213;go_wp2_with fail;refine HC.o.mono ?_;rintro e w' ⟨⟨v,rfl,ho⟩,hb⟩;have HO:=Za (cD ho (show w.heap.size≤_ by simp));have HB:=Za (((Zc _ w).alloc (Zb _) _).trans (hb.mono (by simp)));clear ho hb HC;go_wp2;go_ret;exact⟨⟨_,rfl,HO.o⟩,HB.o⟩
 ·have HC:=Za (GZ w.heap.size n _ HB0);clear HB0;go_enter Tryz.func213,Tryz.ntmps213;go_wp2_with fail;refine HC.o.mono ?_;rintro e w' ⟨⟨v,rfl,ho⟩,hb⟩;have HO:=Za (cD ho (show w.heap.size≤_ by simp));have HB:=Za (((Zc _ w).alloc (Zb _) _).trans (hb.mono (by simp)));clear ho hb HC;go_wp2;go_ret;exact⟨⟨_,rfl,HO.o⟩,HB.o⟩
def cN (size stride pad:Int):List Int→Option (List Int)
 |[]=>some []
 |l::r=>if l+2*pad-(size-1)-1<0 then none else(cN size stride pad r).map (fun t=>((l+2*pad-(size-1)-1) / stride+1)::t)
def dM (s:List Int):Bool:=bA (1::s)
def eU (n:aG):Int:=if n.kind=2 then n.stride else n.size
def bV (n:aG) (s:List Int):Option (List Int):=if s.length=2∨s.length=3 then cN n.size (eU n) n.pad s.tail else none
def aK (n:aG) (first:Bool) (s:List Int):Option (List Int×List (List Int)):=
 if n.kind=1 then(if 1≤s.length∧s.length≤2∧aE s (s.length-1)=n.inn then some (s.take (s.length-1)++[n.o],[[n.inn,n.o],[n.o]]) else none)
 else if n.kind=2 then(match bV n s with
  |none=>none
  |some p=>if aE s 0=n.inn then some (n.o::p,[[n.o,n.inn]++List.replicate (s.length-1) n.size,[n.o]++List.replicate (s.length-1) 1]) else none)
 else if n.kind=8∨n.kind=9 then(match bV n s with
  |none=>none
  |some p=>some (aE s 0::p,[]))
 else if n.kind=10 then some ([bD s],[])
 else if n.kind=11 then(if first=true∧s.length=1 then some ([aE s 0,n.o],[[n.inn,n.o]]) else none)
 else if n.kind=12 then(if s.length=2∧aE s 1=n.inn∧n.inn%n.heads=0 then some (s,List.replicate 4 [n.inn,n.inn]) else none)
 else some (s,[])
def fT (n:aG) (first:Bool) (s:List Int):Option (List Int×List (List Int)):=
 match aK n first s with
 |none=>none
 |some p=>if dM p.1&&p.2.all bA then some p else none
mutual
def cU (first:Bool) (s:List Int):aB→Option (List Int×List (List Int))
 |.mk n body=>if n.kind=13 then(match bT false s body with
   |none=>none
   |some p=>if p.1=s then some (s,p.2) else none)
  else fT n first s
def bT (first:Bool) (s:List Int):List aB→Option (List Int×List (List Int))
 |[]=>some (s,[])
 |l::r=>match cU first s l with
  |none=>none
  |some p=>match bT false p.1 r with
   |none=>none
   |some q=>some (q.1,p.2++q.2)
end
def eK (d:bE):Option (List Int×List (List Int)):=
 if dL d&&dM d.input then(match bT true d.input d.lays with
  |none=>none
  |some p=>if d.loss=1∧p.1.length≠1 then none else some p) else none
end Go.Proofs.YtjhkdocidcfpdaaGreatDoor
namespace Go.Proofs.YtjhkdocidcfpdaaGreatDoor
open Go
theorem LT {l n:Nat} {P:Program} {f:FuncId} {args:Array Value} {w:World} {R:Ending→World→Prop} (h:Calls P f args w R):CallsIn (Fence.wide.inRound l) n P f args w R:=by have:=(callsIn_wide (n:=n)).2 h;exact⟨trivial,this.2⟩
theorem PX {l n:Nat} {P:Program} {row:String} {args:Array Value} {w:World} {R:Value→World→Prop} (h:Rows P row args w R):RowsIn (Fence.wide.inRound l) n P row args w R:=fun c cs _=>by
 obtain⟨v,w',r,s⟩:=h c cs;exact⟨v,w',r,stepsIn_wide.2 s⟩
theorem QL {l n:Nat} {P:Program} {o:Oper} {a:Act} {K:Act→World→Prop} {Q:Exit→Act→World→Prop} {r:Result Next} (h:o.upon P a K Q r):o.uponIn (Fence.wide.inRound l) n P a K Q r:=by
 cases r with
 |ok x w'=>
  cases x<;>first
   |exact h
   |exact(h:False).elim
   |exact⟨fun h=>by simp[Fence.wide,Fence.inRound]at h,LT h⟩
   |exact⟨fun h=>by simp[Fence.wide,Fence.inRound]at h,PX h⟩
 |halt x w'=>cases x<;>exact h
theorem N4 {l n:Nat} {P:Program} {o:Oper} {a:Act} {w:World} {K:Act→World→Prop} {Q:Exit→Act→World→Prop} (hd:∀c,o.op≠.defer c) (h:o.wp P a w K Q):o.wpIn (Fence.wide.inRound l) n P a w K Q:=by refine⟨fun _ _=>trivial,?_⟩;rw[Fence.inRound_round,Oper.semAt_some l _ _ hd];exact QL h
theorem LB {l n:Nat} {P:Program} {ops:Array Oper} {i:Nat} {a:Act} {w:World} {K K':Act→World→Prop} {Q:Exit→Act→World→Prop} (hd:∀(j:Nat) (o:Oper) c,ops[j]?=some o→o.op≠.defer c) (hL:¬LetsOut Q)
  (hK:∀a w,K a w→K' a w) (h:wpOp P ops Q i K a w):wpOpIn (Fence.wide.inRound l) n P ops Q i K' a w:=by
 unfold wpOp at h;unfold wpOpIn;cases ho:ops[i]? with
 |none=>rw[ho]at h;exact hK _ _ h
 |some o=>
  rw[ho]at h;simp only at h ⊢;split
  ·rename_i hw;rw[if_pos hw]at h;rcases h with h|h
   ·exact Oper.wpIn_mono hK (N4 (fun c=>hd i o c ho) h)
   ·exact absurd h.2 hL
  ·rename_i hw;rw[if_neg hw]at h;exact⟨fun _ _=>trivial,hK _ _ h⟩
theorem CO {l n:Nat} {P:Program} {md:Region.Mode} {ops:Array Oper} {Q:Exit→Act→World→Prop} (hd:∀(j:Nat) (o:Oper) c,ops[j]?=some o→o.op≠.defer c) (hL:¬LetsOut Q):
  ∀(fuel:Nat) (listed:Array Bool) (a:Act) (w:World),wpAny P md ops Q fuel listed a w→wpAnyIn (Fence.wide.inRound l) n P md ops Q fuel listed a w
 |0,_,_,_,h=>h
 |fuel+1,listed,a,w,h=>⟨h.1,fun i hi=>LB hd hL (fun a' w' h'=>CO hd hL fuel _ a' w' h') (h.2 i hi)⟩
theorem LA {l n:Nat} {P:Program} {id:Nat} {ops:Array Oper} {Q:Exit→Act→World→Prop} {a:Act} {w:World} (hm:P.follows .mixedOrders=true) (hd:∀(j:Nat) (o:Oper) c,ops[j]?=some o→o.op≠.defer c) (hL:¬LetsOut Q)
  (h:wpAny P .any ops Q ops.size (Array.replicate ops.size false) a w.drew):(Code.region id ops true).wpIn (Fence.wide.inRound l) n P Q a w:=
 wpIn_region_any hm (CO hd hL _ _ _ _ h)
end Go.Proofs.YtjhkdocidcfpdaaGreatDoor
namespace Go.Proofs.YtjhkdocidcfpdaaGreatDoor
open Go.RowKit Go.Shelf Go
def bB (n:Nat):Nat→List Int
 |0=>[]
 |k+1=>((n / 256^k%256:Nat):Int)::bB n k
theorem dH (n k:Nat):(bB n k).length=k:=by induction k<;>simp[bB, *]
theorem DO:(Tryz.prog.info? 5).map (fun i=>(i.zero,i.size,i.bytes))=some (some (.int .u8 0),1,1):=by kernel_rfl
theorem nF {w wr w1:World} {B:Nat} {e:TypeId} {v:Value} {n:Nat} {xs:List Value} {o:Obj} (hB:Below B w wr) (hb:B≤w.heap.size) (h:wr.ownsRow B e 1 v n xs) (hg:(wr.alloc o).grownBy w1 v.ownBlock):Below B w w1:=
 (hB.alloc (Nat.le_trans hb hB.size) o).grown hg (by have:=hB.size;simp;omega) fun k hk=>(h.lt k hk).1
theorem zM:(Tryz.prog.info? 5).map (fun i=>(i.zero,i.size,i.bytes))=some (some (.int .u8 0),1,1):=by kernel_rfl
theorem rL:(Tryz.prog.info? 2).map (fun i=>(i.zero,i.size,i.bytes))=some (some (.int .i64 0),1,8):=by kernel_rfl
theorem nC:(Tryz.prog.info? 3).map (fun i=>(i.zero,i.size,i.bytes))=some (some (.int .i64 0),1,8):=by kernel_rfl
theorem SV (v:Value) (xs:List Int) (w:World) (hr:Rd w .u8 v xs) (hl:xs.length*1≤140737488351232):
  Calls Tryz.prog 6 #[v] w fun e w'=>
   ∃v',e=.returned v'∧w'.ownsRow w.heap.size 5 1 v' xs.length (xs.map (.int .u8))∧Below w.heap.size w w':=by
 obtain⟨o,cap,rfl,hc⟩:=hr;obtain⟨i0,hi,hz0,hz1,hz2⟩:=info_parts zM;have HC:=Za hc;clear hc;go_enter Tryz.func6,Tryz.ntmps6;go_wp2;go_loopw[3,4] (fun v i wr=>∃k:Nat,k≤xs.length∧i=.int .i64 k∧wr.ownsRow w.heap.size 5 1 v k ((xs.take k).map (.int .u8))∧Below w.heap.size w wr) (fun _ i _=>xs.length-(intOf i).toNat)
 case atStart=>exact⟨0,Ze _,rfl,World.ownsRow_nil _ _ _ _,Zc _ _⟩
 case round=>
  obtain⟨k,hk,rfl,hown,hB⟩:=hrel;by_cases hlt:k<xs.length
  ·obtain⟨b,off,rfl,hcell⟩:=HC.o k hlt;have hcell':=(hB.cell (p:=⟨b,off+k,none⟩) (aP hcell)).trans hcell;clear hcell;go_wp2_with(at_builtin;refine wpList_append_own _ rfl _ _ 23 rfl w.heap.size 5 i0 (.int .u8 0) 1 1 Tryz.underlying23 hi hz0 hz1 hz2 rfl (by decide) _ _ _ rfl (hown.alloc _) ⟨wr.heap.size,0,none⟩ 1 1 [.int .u8 (aE xs k)] rfl rfl (cell_one_new _ _ _) (by simp[Value.oneCell']) (by unfold maxLen;omega) (by omega) (by have:=hB.size;simp;omega) ?_;intro v' w1 hown' hgrow _);go_roundw
   case rel=>exact⟨k+1,by omega,by go_num,by rw[fF xs k hlt,List.map_append];exact hown',nF hB (Zb _) hown hgrow⟩
   case measure=>simp[intOf];omega
  ·go_wp2;go_ret;obtain rfl:k=xs.length:=by omega
   rw[List.take_length]at hown;exact⟨_,rfl,hown,hB⟩
theorem LI (v:Value) (xs:List Int) (w:World) (hr:Rd w .i64 v xs) (hl:xs.length*8≤140737488351232):
  Calls Tryz.prog 151 #[v] w fun e w'=>
   ∃v',e=.returned v'∧w'.ownsRow w.heap.size 2 1 v' xs.length (xs.map (.int .i64))∧Below w.heap.size w w':=by
 obtain⟨o,cap,rfl,hc⟩:=hr;obtain⟨i0,hi,hz0,hz1,hz2⟩:=info_parts rL;have HC:=Za hc;clear hc;go_enter Tryz.func151,Tryz.ntmps151;go_wp2;go_loopw[3,4] (fun v i wr=>∃k:Nat,k≤xs.length∧i=.int .i64 k∧wr.ownsRow w.heap.size 2 1 v k ((xs.take k).map (.int .i64))∧Below w.heap.size w wr) (fun _ i _=>xs.length-(intOf i).toNat)
 case atStart=>exact⟨0,Ze _,rfl,World.ownsRow_nil _ _ _ _,Zc _ _⟩
 case round=>
  obtain⟨k,hk,rfl,hown,hB⟩:=hrel;by_cases hlt:k<xs.length
  ·obtain⟨b,off,rfl,hcell⟩:=HC.o k hlt;have hcell':=(hB.cell (p:=⟨b,off+k,none⟩) (aP hcell)).trans hcell;clear hcell;go_wp2_with(at_builtin;refine wpList_append_own _ rfl _ _ 82 rfl w.heap.size 2 i0 (.int .i64 0) 1 8 Tryz.underlying82 hi hz0 hz1 hz2 rfl (by decide) _ _ _ rfl (hown.alloc _) ⟨wr.heap.size,0,none⟩ 1 1 [.int .i64 (aE xs k)] rfl rfl (cell_one_new _ _ _) (by simp[Value.oneCell']) (by unfold maxLen;omega) (by omega) (by have:=hB.size;simp;omega) ?_;intro v' w1 hown' hgrow _);go_roundw
   case rel=>exact⟨k+1,by omega,by go_num,by rw[fF xs k hlt,List.map_append];exact hown',nF hB (Zb _) hown hgrow⟩
   case measure=>simp[intOf];omega
  ·go_wp2;go_ret;obtain rfl:k=xs.length:=by omega
   rw[List.take_length]at hown;exact⟨_,rfl,hown,hB⟩
theorem jD (v:Value) (xs:List Int) (w:World) (hr:Rd w .i64 v xs) (hl:xs.length*8≤140737488351232):
  Calls Tryz.prog 92 #[v] w fun e w'=>
   ∃v',e=.returned v'∧w'.ownsRow w.heap.size 3 1 v' xs.length (xs.map (.int .i64))∧Below w.heap.size w w':=by
 obtain⟨o,cap,rfl,hc⟩:=hr;obtain⟨i0,hi,hz0,hz1,hz2⟩:=info_parts nC;have HC:=Za hc;clear hc;go_enter Tryz.func92,Tryz.ntmps92;go_wp2;go_loopw[3,4] (fun v i wr=>∃k:Nat,k≤xs.length∧i=.int .i64 k∧wr.ownsRow w.heap.size 3 1 v k ((xs.take k).map (.int .i64))∧Below w.heap.size w wr) (fun _ i _=>xs.length-(intOf i).toNat)
 case atStart=>exact⟨0,Ze _,rfl,World.ownsRow_nil _ _ _ _,Zc _ _⟩
 case round=>
  obtain⟨k,hk,rfl,hown,hB⟩:=hrel;by_cases hlt:k<xs.length
  ·obtain⟨b,off,rfl,hcell⟩:=HC.o k hlt;have hcell':=(hB.cell (p:=⟨b,off+k,none⟩) (aP hcell)).trans hcell;clear hcell;go_wp2_with(at_builtin;refine wpList_append_own _ rfl _ _ 30 rfl w.heap.size 3 i0 (.int .i64 0) 1 8 Tryz.underlying30 hi hz0 hz1 hz2 rfl (by decide) _ _ _ rfl (hown.alloc _) ⟨wr.heap.size,0,none⟩ 1 1 [.int .i64 (aE xs k)] rfl rfl (cell_one_new _ _ _) (by simp[Value.oneCell']) (by unfold maxLen;omega) (by omega) (by have:=hB.size;simp;omega) ?_;intro v' w1 hown' hgrow _);go_roundw
   case rel=>exact⟨k+1,by omega,by go_num,by rw[fF xs k hlt,List.map_append];exact hown',nF hB (Zb _) hown hgrow⟩
   case measure=>simp[intOf];omega
  ·go_wp2;go_ret;obtain rfl:k=xs.length:=by omega
   rw[List.take_length]at hown;exact⟨_,rfl,hown,hB⟩
def dJ (cur:List UInt8):List UInt8→List (List UInt8)
 |[]=>[]
 |c::r=>if c=10 then cur::dJ [] r else dJ (cur++[c]) r
def eD (cur:List UInt8):List UInt8→Option (List (List UInt8))
 |[]=>if cur=[] then none else some [cur]
 |c::r=>if c=32 then(if cur=[] then none else(eD [] r).map (cur::·)) else eD (cur++[c]) r
def dV (s:List UInt8):List (List UInt8):=(eD [] s).getD []
def jT (c:UInt8):Bool:=decide (48≤c)&&decide (c≤57)
def iD (s:List UInt8):Nat:=s.foldl (fun n c=>10*n+(c.toNat-48)) 0
def dO (s:List UInt8) (low high:Int):Option Int:=
 if s=[]∨4<s.length∨(s.head?=some 48∧1<s.length)∨s.all jT=false then none
 else if low≤iD s∧(iD s:Int)≤high then some (iD s) else none
def oX (w:List UInt8):Option bU:=bG.find? fun r=>decide (r.word=w)
def kD (r:bU):Nat→List (List UInt8)→aG→Option aG
 |_,[],n=>some n
 |k,w::ws,n=>match dO w (r.low.getD k 0) (r.high.getD k 0)with
  |none=>none
  |some x=>kD r (k+1) ws (n.put (r.at_.getD k 0) x)
def dY (words:List (List UInt8)):Option aG:=match oX (words.headD [])with
 |none=>none
 |some r=>if words.length=1+r.at_.length then kD r 0 words.tail {bM with kind:=r.kind} else none
abbrev aS:=List (List (List UInt8))
def dS (inner:Option (Nat→aS→Option (List aB×Nat×aS))):Nat→Nat→aS→Option (List aB×Nat×aS)
 |0,left,rest=>match rest with
  |[]=>some ([],left,[])
  |_::_=>none
 |f+1,left,rest=>match rest with
  |[]=>some ([],left,[])
  |words::rest'=>match words with
   |[]=>none
   |w::ws=>if w=cV∨w=eB then some ([],left,rest)
    else if left=0 then none
    else if w=dC∧ws=[] then(match inner with
     |none=>none
     |some g=>match g (left-1) rest' with
      |none=>none
      |some (body,left2,rest2)=>match rest2 with
       |[]=>none
       |l2::rest3=>if l2=[cV] then(match dS inner f left2 rest3 with
         |none=>none
         |some (l,q)=>some (.mk {bM with kind:=13} body::l,q)) else none)
    else match dY words with
     |none=>none
     |some n=>match dS inner f (left-1) rest' with
      |none=>none
      |some (l,q)=>some (.mk n []::l,q)
def dI:Nat→Nat→aS→Option (List aB×Nat×aS)
 |0,left,rest=>dS none rest.length left rest
 |d+1,left,rest=>dS (some (dI d)) rest.length left rest
def fW:List (List UInt8)→Option (List Int)
 |[]=>some []
 |w::ws=>match dO w 1 4096 with
  |none=>none
  |some x=>(fW ws).map (x::·)
def kF (w:List UInt8):Option Int:=if w=eX 1 then some 1 else if w=eX 2 then some 2 else none
def dZ (all:aS):Option bE:=match all with
 |[]=>none
 |first::rest=>if 2≤first.length∧first.length≤4∧first.headD []=jP then(match fW first.tail with
   |none=>none
   |some inp=>match dI 4 64 rest with
    |none=>none
    |some (l,_,rest2)=>match rest2 with
     |[w]=>if w.length=2∧w.headD []=eB then(kF (w.getD 1 [])).map (fun k=>⟨inp,l,k⟩) else none
     |_=>none) else none
def gN (b:List UInt8):Option bE:=
 if 8192<b.length then none else match dZ ((dJ [] b).map dV)with
  |none=>none
  |some d=>if b.getLast?=some 10 then some d else none
theorem pM:∀d:Fin 10,jT (UInt8.ofNat (48+d.val))=true∧(UInt8.ofNat (48+d.val)).toNat-48=d.val∧(UInt8.ofNat (48+d.val)=48→d.val=0):=by decide
theorem t7 (u:Nat):∀c∈Lib.decDigits u,jT c=true:=by
 induction u using Nat.strongRecOn with
 |ind u ih=>
  intro c hc;rw[Lib.decDigits]at hc;split at hc
  ·rw[List.mem_singleton.1 hc];exact(pM ⟨u,by assumption⟩).1
  ·rcases List.mem_append.1 hc with hc|hc
   ·exact ih _ (by omega) c hc
   ·rw[List.mem_singleton.1 hc];exact(pM ⟨u%10,by omega⟩).1
theorem BH (a:List UInt8) (c:UInt8):iD (a++[c])=10*iD a+(c.toNat-48):=by simp[iD]
theorem GL (u:Nat):iD (Lib.decDigits u)=u:=by
 induction u using Nat.strongRecOn with
 |ind u ih=>
  rw[Lib.decDigits];split
  ·have:=(pM ⟨u,by assumption⟩).2.1;simp only[iD,List.foldl_cons,List.foldl_nil]at this ⊢;omega
  ·rw[BH,ih _ (by omega),(pM ⟨u%10,by omega⟩).2.1];simp only;omega
theorem uW (u:Nat):Lib.decDigits u≠[]:=by rw[Lib.decDigits];split<;>simp
theorem OC (u:Nat):(Lib.decDigits u).head?=some 48→u=0:=by
 induction u using Nat.strongRecOn with
 |ind u ih=>
  intro h;rw[Lib.decDigits]at h;split at h
  ·rename_i hu;simp only[List.head?_cons,Option.some.injEq]at h;exact(pM ⟨u,hu⟩).2.2 h
  ·rename_i hu;cases hd:Lib.decDigits (u / 10)with
   |nil=>exact absurd hd (uW _)
   |cons c r=>
    rw[hd]at h;have:=ih (u / 10) (by omega) (by rw[hd];simpa using h);omega
theorem yF (u:Nat) (h:u<10000):Lib.nDigits u≤4:=by
 rw[Lib.nDigits];split
 ·omega
 rw[Lib.nDigits];split
 ·omega
 rw[Lib.nDigits];split
 ·omega
 rw[Lib.nDigits];split
 ·omega
 omega
theorem RH (u:Nat) (h:u<10):Lib.nDigits u=1:=by rw[Lib.nDigits,dif_pos h]
theorem tN (u:Nat):Lib.itoa (u:Int)=Lib.decDigits u:=by rw[Lib.itoa,if_neg (by omega),Int.toNat_natCast]
theorem D4 (x low high:Int) (h0:0≤x) (h1:x≤4096) (hl:low≤x) (hh:x≤high):dO (Lib.itoa x) low high=some x:=by
 obtain⟨u,rfl⟩:∃u:Nat,x=u:=⟨x.toNat,by omega⟩;rw[tN,dO,GL,if_neg,if_pos ⟨hl,hh⟩];rintro(h|h|⟨h,h2⟩|h)
 ·exact uW u h
 ·rw[Lib.decDigits_length]at h;have:=yF u (by omega);omega
 ·have:=OC u h;subst this;rw[Lib.decDigits_length,RH 0 (by omega)]at h2;omega
 ·rw[List.all_eq_true.2 (t7 u)]at h;cases h
theorem AN (x:Int) (h0:0≤x) (h1:x≤4096):(Lib.itoa x).length≤4:=by obtain⟨u,rfl⟩:∃u:Nat,x=u:=⟨x.toNat,by omega⟩;rw[tN,Lib.decDigits_length];exact yF u (by omega)
def lQ (w:List UInt8):Prop:=w≠[]∧(32:UInt8) ∉ w∧(10:UInt8) ∉ w
theorem AA (x:Int):lQ (Lib.itoa x):=by
 have key:∀u,lQ (Lib.decDigits u):=fun u=>⟨uW u,fun h=>by have:=t7 u _ h;revert this;decide,fun h=>by have:=t7 u _ h;revert this;decide⟩;rw[Lib.itoa];split
 ·have:=key x.natAbs;exact⟨by simp,by simp[this.2.1],by simp[this.2.2]⟩
 ·exact key _
theorem DB (l:List UInt8):∀(cur r:List UInt8),(10:UInt8) ∉ l→dJ cur (l++10::r)=(cur++l)::dJ [] r:=by
 induction l with
 |nil=>intro cur r _;simp[dJ]
 |cons c l ih=>
  intro cur r h;simp only[List.mem_cons,not_or]at h;rw[List.cons_append,dJ,if_neg (fun e=>h.1 e.symm),ih _ _ h.2];simp
theorem S7 (l:List UInt8):∀(cur:List UInt8),(32:UInt8) ∉ l→eD cur l=if cur++l=[] then none else some [cur++l]:=by
 induction l with
 |nil=>intro cur _;simp[eD]
 |cons c l ih=>
  intro cur h;simp only[List.mem_cons,not_or]at h;rw[eD,if_neg (fun e=>h.1 e.symm),ih _ h.2];simp
theorem Q9 (l:List UInt8):∀(cur r:List UInt8),(32:UInt8) ∉ l→eD cur (l++32::r)=if cur++l=[] then none else(eD [] r).map ((cur++l)::·):=by
 induction l with
 |nil=>intro cur r _;simp[eD]
 |cons c l ih=>
  intro cur r h;simp only[List.mem_cons,not_or]at h;rw[List.cons_append,eD,if_neg (fun e=>h.1 e.symm),ih _ _ h.2];simp
def gT:List (List UInt8)→List UInt8
 |[]=>[]
 |w::ws=>match ws with
  |[]=>w
  |_::_=>w++32::gT ws
theorem QZ (ws:List (List UInt8)) (hne:ws≠[]) (hw:∀w∈ws,lQ w):eD [] (gT ws)=some ws:=by
 induction ws with
 |nil=>exact absurd rfl hne
 |cons w ws ih=>
  have h0:=hw w (by simp);cases ws with
  |nil=>rw[gT,S7 _ _ h0.2.1,List.nil_append,if_neg h0.1]
  |cons v vs=>
   rw[gT];rw[Q9 _ _ _ h0.2.1,List.nil_append,if_neg h0.1,ih (by simp) (fun x hx=>hw x (by simp[hx]))];rfl
theorem LO (ws:List (List UInt8)) (hw:∀w∈ws,lQ w):(10:UInt8) ∉ gT ws:=by
 induction ws with
 |nil=>simp[gT]
 |cons w ws ih=>
  have h0:=hw w (by simp);have ih':=ih (fun x hx=>hw x (by simp[hx]));cases ws with
  |nil=>rw[gT];exact h0.2.2
  |cons v vs=>
   rw[gT];simp only[List.mem_append,List.mem_cons,not_or];exact⟨h0.2.2,by decide,ih'⟩
def kA (ws:List (List UInt8)):List UInt8:=gT ws++[10]
def fZ (L:aS):List UInt8:=L.flatMap kA
def mM (L:aS):Prop:=∀ws∈L,ws≠[]∧∀w∈ws,lQ w
theorem G6 (a b:aS):fZ (a++b)=fZ a++fZ b:=by simp[fZ]
theorem mM.app {a b:aS} (ha:mM a) (hb:mM b):mM (a++b):=fun ws h=>(List.mem_append.1 h).elim (ha ws) (hb ws)
theorem JY (L:aS) (h:mM L):(dJ [] (fZ L)).map dV=L:=by
 induction L with
 |nil=>rfl
 |cons ws L ih=>
  have h0:=h ws (by simp);have e:fZ (ws::L)=gT ws++10::fZ L:=by simp[fZ,kA]
  rw[e,DB _ _ _ (LO ws h0.2),List.map_cons,ih (fun x hx=>h x (by simp[hx])),List.nil_append,dV,QZ ws h0.1 h0.2];rfl
def nU (n:aG):List (List UInt8):=match cQ n.kind with
 |none=>[]
 |some r=>r.word::r.at_.map (fun i=>Lib.itoa (n.fld i))
mutual
def iX:aB→aS
 |.mk n body=>bif decide (n.kind=13) then [dC]::(gP body++[[cV]]) else [nU n]
def gP:List aB→aS
 |[]=>[]
 |l::r=>iX l++gP r
end
def nR (d:bE):aS:=(jP::d.input.map Lib.itoa)::(gP d.lays++[[eB,eX d.loss]])
theorem xX (w:List UInt8) (ws:List (List UInt8)):gT (w::ws)=w++ws.flatMap (fun x=>32::x):=by
 induction ws generalizing w with
 |nil=>simp[gT]
 |cons v vs ih=>rw[gT,ih];simp
theorem N2 (n:aG) (l:List Nat):eA n l=(l.map (fun i=>Lib.itoa (n.fld i))).flatMap (fun x=>32::x):=by
 induction l with
 |nil=>rfl
 |cons i r ih=>rw[eA,ih];simp
theorem KX (l:List Int):eW l=(l.map Lib.itoa).flatMap (fun x=>32::x):=by
 induction l with
 |nil=>rfl
 |cons i r ih=>rw[eW,ih];simp
theorem MX {k:Int} {r:bU} (h:cQ k=some r):r∈bG∧r.kind=k:=⟨List.mem_of_find?_eq_some h,by have:=List.find?_some h;simpa using this⟩
def yO (w:List UInt8):Bool:=!w.isEmpty&&!w.contains 32&&!w.contains 10
theorem oP {w:List UInt8} (h:yO w=true):lQ w:=by simp[yO]at h;exact⟨h.1.1,h.1.2,h.2⟩
structure pG (r:bU):Prop where
 word:lQ r.word
 find:oX r.word=some r
 noEnd:r.word≠cV
 noLoss:r.word≠eB
 noRes:r.word≠dC
 len:r.word.length≤9
 ats:r.at_.length≤5
 low:∀k,k<r.at_.length→0≤r.low.getD k 0
 high:∀k,k<r.at_.length→r.high.getD k 0≤4096
 ne13:r.kind≠13
theorem KN:∀r∈bG,pG r:=by
 intro r hr;simp only[bG,List.mem_cons,List.not_mem_nil,or_false]at hr;rcases hr with rfl|rfl|rfl|rfl|rfl|rfl|rfl|rfl|rfl|rfl|rfl|rfl<;>
  exact⟨oP (by decide),rfl,by decide,by decide,by decide,by decide,by decide,by decide,by decide,by decide⟩
theorem nI {n:aG} {body:List aB} (h:eZ n body=true):∃r,cQ n.kind=some r∧pG r∧r∈bG∧r.kind=n.kind∧hZ r n body=true:=by
 rw[eZ]at h;cases hr:cQ n.kind with
 |none=>rw[hr]at h;cases h
 |some r=>
  rw[hr]at h;have:=MX hr;exact⟨r,rfl,KN r this.1,this.1,this.2,h⟩
theorem AI {r:bU} {n:aG}:∀{m:Nat},r.fitsTo n m=true→∀k,k<m→r.fits n k=true
 |0,_,k,hk=>by omega
 |m+1,h,k,hk=>by
  rw[bU.fitsTo,Bool.and_eq_true]at h;by_cases e:k=m
  ·subst e;exact h.2
  ·exact AI h.1 k (by omega)
theorem sI {r:bU} {n:aG} {body:List aB} (ho:hZ r n body=true) (hr:pG r) (k:Nat) (hk:k<r.at_.length):r.low.getD k 0≤n.fld (r.at_.getD k 0)∧n.fld (r.at_.getD k 0)≤r.high.getD k 0∧0≤n.fld (r.at_.getD k 0)∧n.fld (r.at_.getD k 0)≤4096:=by rw[hZ,Bool.and_eq_true]at ho;have:=AI ho.1 k hk;rw[bU.fits,Bool.and_eq_true,decide_eq_true_eq,decide_eq_true_eq]at this;have h1:=hr.low k hk;have h2:=hr.high k hk;exact⟨this.1,this.2,by omega,by omega⟩
def pT (r:bU) (n:aG):Nat→Nat→aG→aG
 |_,0,m=>m
 |k,c+1,m=>pT r n (k+1) c (m.put (r.at_.getD k 0) (n.fld (r.at_.getD k 0)))
theorem DY {r:bU} {n:aG} {body:List aB} (ho:hZ r n body=true) (hr:pG r):∀(l:List Nat) (k:Nat) (m:aG),r.at_.drop k=l→kD r k (l.map fun i=>Lib.itoa (n.fld i)) m=some (pT r n k l.length m)
 |[],k,m,_=>rfl
 |i::l,k,m,h=>by
  have hk:k<r.at_.length:=by
   rcases Nat.lt_or_ge k r.at_.length with h'|h'
   ·exact h'
   ·rw[List.drop_eq_nil_of_le h']at h;cases h
  have hi:r.at_.getD k 0=i:=by
   have:(r.at_.drop k)[0]?=some i:=by rw[h];rfl
   rw[List.getElem?_drop,Nat.add_zero]at this;rw[List.getD_eq_getElem?_getD,this];rfl
  have hd:r.at_.drop (k+1)=l:=by
   have:(r.at_.drop k).drop 1=l:=by rw[h];rfl
   rwa [List.drop_drop]at this
  have hf:=sI ho hr k hk;rw[hi]at hf;rw[List.map_cons,kD,D4 _ _ _ hf.2.2.1 hf.2.2.2 hf.1 hf.2.1];simp only;rw[DY ho hr l (k+1) _ hd,List.length_cons,pT,hi]
theorem JZ:∀r∈bG,∀n:aG,n.kind=r.kind→gD n (r.made n r.at_.length)=true→pT r n 0 r.at_.length {bM with kind:=r.kind}=n:=by
 intro r hr n hk hp;obtain⟨k,a,b,c,d,e,f,g⟩:=n;simp only[bG,List.mem_cons,List.not_mem_nil,or_false]at hr;rcases hr with rfl|rfl|rfl|rfl|rfl|rfl|rfl|rfl|rfl|rfl|rfl|rfl<;>
  simp_all [pT,aG.put,aG.fld,bM,gD,bU.made]
theorem RR {n:aG} {body:List aB} (h:eZ n body=true):dY (nU n)=some n:=by obtain⟨r,hr,ok,hm,hk,ho⟩:=nI h;rw[nU,hr];simp only;rw[dY];simp only[List.headD_cons,ok.find];rw[if_pos (by simp;omega),List.tail_cons,DY ho ok r.at_ 0 _ (by simp),JZ r hm n hk.symm];rw[hZ,Bool.and_eq_true,Bool.and_eq_true]at ho;exact ho.2.2
theorem rP {n:aG} {body:List aB} (h:eZ n body=true):body=[]:=by obtain⟨r,hr,ok,hm,hk,ho⟩:=nI h;rw[hZ,Bool.and_eq_true,Bool.and_eq_true,decide_eq_true_eq]at ho;exact List.eq_nil_of_length_eq_zero ho.2.1
theorem CM {n:aG} {body:List aB} (h:eZ n body=true):∃w ws,nU n=w::ws∧w≠cV∧w≠eB∧w≠dC∧(∀x∈w::ws,lQ x):=by
 obtain⟨r,hr,ok,hm,hk,ho⟩:=nI h;rw[nU,hr];refine⟨_,_,rfl,ok.noEnd,ok.noLoss,ok.noRes,fun x hx=>?_⟩;rcases List.mem_cons.1 hx with rfl|hx
 ·exact ok.word
 ·obtain⟨i,_,rfl⟩:=List.mem_map.1 hx;exact AA _
theorem QX {n:aG} (hk:n.kind=13) (hp:gD n bM=true):{bM with kind:=13}=n:=by obtain⟨k,a,b,c,d,e,f,g⟩:=n;simp only at hk;simp only[bM,gD,Bool.and_eq_true]at hp;obtain⟨⟨⟨⟨⟨⟨h1,h2⟩,h3⟩,h4⟩,h5⟩,h6⟩,h7⟩:=hp;rw[hk,of_decide_eq_true h1,of_decide_eq_true h2,of_decide_eq_true h3,of_decide_eq_true h4,of_decide_eq_true h5,of_decide_eq_true h6,of_decide_eq_true h7];rfl
def xZ (t:aS):Prop:=∃w ws r,t=(w::ws)::r∧(w=cV∨w=eB)
def m8:Nat→Option (Nat→aS→Option (List aB×Nat×aS))
 |0=>none
 |d+1=>some (dI d)
theorem pJ (d left:Nat) (rest:aS):dI d left rest=dS (m8 d) rest.length left rest:=by cases d<;>rfl
mutual
theorem oS (deep:Nat) (left k:Int):∀l:aB,bY deep left l=some k→0≤left→0≤k∧k<left
 |.mk n body,h,h0=>by
  rw[bY]at h;cases h1:decide (left-1<0)with
  |true=>rw[h1]at h;cases h
  |false=>
   rw[h1]at h;have h1':¬left-1<0:=by simpa using h1
   cases h2:decide (n.kind=13)with
   |true=>
    rw[h2]at h;simp only[cond_false,cond_true]at h;cases h3:(decide (deep<4)&&gD n bM)with
    |false=>rw[h3]at h;cases h
    |true=>
     rw[h3]at h;have:=nJ (deep+1) (left-1) k body h (by omega);omega
   |false=>
    rw[h2]at h;simp only[cond_false]at h;cases h3:eZ n body with
    |false=>rw[h3]at h;cases h
    |true=>rw[h3]at h;simp at h;omega
theorem nJ (deep:Nat) (left k:Int):∀ls:List aB,bQ deep left ls=some k→0≤left→0≤k∧k≤left
 |[],h,h0=>by rw[bQ]at h;cases h;omega
 |l::r,h,h0=>by
  rw[bQ]at h;cases h1:bY deep left l with
  |none=>rw[h1]at h;cases h
  |some j=>
   rw[h1]at h;have a:=oS deep left j l h1 h0;have b:=nJ deep j k r h a.1;omega
end
theorem oH {deep:Nat} {left k:Int} {n:aG} {body:List aB} (h:bY deep left (.mk n body)=some k):¬left-1<0∧((n.kind=13∧deep<4∧{bM with kind:=13}=n∧bQ (deep+1) (left-1) body=some k)∨(n.kind≠13∧eZ n body=true∧k=left-1)):=by
 rw[bY]at h;cases h1:decide (left-1<0)with
 |true=>rw[h1]at h;cases h
 |false=>
  rw[h1]at h;refine⟨by simpa using h1,?_⟩;cases h2:decide (n.kind=13)with
  |true=>
   rw[h2]at h;simp only[cond_false,cond_true]at h;cases h3:(decide (deep<4)&&gD n bM)with
   |false=>rw[h3]at h;cases h
   |true=>
    rw[h3]at h;rw[Bool.and_eq_true,decide_eq_true_eq]at h3;exact .inl ⟨by simpa using h2,h3.1,QX (by simpa using h2) h3.2,h⟩
  |false=>
   rw[h2]at h;simp only[cond_false]at h;cases h3:eZ n body with
   |false=>rw[h3]at h;cases h
   |true=>rw[h3]at h;simp at h;exact .inr ⟨by simpa using h2,rfl,h.symm⟩
theorem jY (inner:Option (Nat→aS→Option (List aB×Nat×aS))) (f left:Nat) (w:List UInt8) (ws:List (List UInt8)) (rest':aS):dS inner (f+1) left ((w::ws)::rest')=
  if w=cV∨w=eB then some ([],left,(w::ws)::rest')
    else if left=0 then none
    else if w=dC∧ws=[] then(match inner with
     |none=>none
     |some g=>match g (left-1) rest' with
      |none=>none
      |some (body,left2,rest2)=>match rest2 with
       |[]=>none
       |l2::rest3=>if l2=[cV] then(match dS inner f left2 rest3 with
         |none=>none
         |some (l,q)=>some (.mk {bM with kind:=13} body::l,q)) else none)
    else match dY (w::ws)with
     |none=>none
     |some n=>match dS inner f (left-1) rest' with
      |none=>none
      |some (l,q)=>some (.mk n []::l,q):=rfl
theorem IP (t:aS) (h:xZ t) (inner:Option (Nat→aS→Option (List aB×Nat×aS))) (f left:Nat) (hf:t.length≤f):dS inner f left t=some ([],left,t):=by
 obtain⟨w,ws,r,rfl,hw⟩:=h;cases f with
 |zero=>simp at hf
 |succ f=>rw[jY,if_pos hw]
mutual
theorem H4 (d deep:Nat) (left k:Int) (f:Nat) (rest:aS) (hd:d+deep=4) (h0:0≤left):∀l:aB,bY deep left l=some k→(iX l++rest).length≤f+1→
  dS (m8 d) (f+1) left.toNat (iX l++rest)=match dS (m8 d) f k.toNat rest with
   |none=>none
   |some (q,t)=>some (l::q,t)
 |.mk n body,h,hf=>by
  obtain⟨hl,⟨hk,hdp,hn,hb⟩|⟨hk,hb,rfl⟩⟩:=oH h
  ·cases d with
   |zero=>omega
   |succ d=>
    have e:iX (.mk n body)++rest=[dC]::(gP body++([[cV]]++rest)):=by rw[iX,hk];simp
    rw[e,jY,if_neg (by decide),if_neg (by omega),if_pos ⟨rfl,rfl⟩];have hin:dI d (left.toNat-1) (gP body++([[cV]]++rest))=some (body,k.toNat,[[cV]]++rest):=by rw[pJ,show left.toNat-1=(left-1).toNat by omega];exact vT d (deep+1) (left-1) k _ _ (by omega) (by omega) ⟨cV,[],rest,rfl,.inl rfl⟩ body hb (Zb _)
    simp only[List.cons_append,List.nil_append]at hin ⊢;simp only[m8,hin,if_true];rw[hn]
  ·obtain⟨w,ws,hlw,h1,h2,h3,_⟩:=CM hb;have e:iX (.mk n body)++rest=(w::ws)::rest:=by rw[iX,show decide (n.kind=13)=false by simpa using hk,hlw];rfl
   have h1p:=RR hb;rw[hlw]at h1p;rw[e,jY,if_neg (by intro hh;exact hh.elim h1 h2),if_neg (by omega),if_neg (fun hh=>h3 hh.1),h1p,rP hb,show left.toNat-1=(left-1).toNat by omega]
theorem vT (d deep:Nat) (left k:Int) (f:Nat) (t:aS) (hd:d+deep=4) (h0:0≤left) (ht:xZ t):∀ls:List aB,bQ deep left ls=some k→(gP ls++t).length≤f→
  dS (m8 d) f left.toNat (gP ls++t)=some (ls,k.toNat,t)
 |[],h,hf=>by
  rw[bQ]at h;cases h;exact IP t ht _ _ _ (by simpa [gP]using hf)
 |l::r,h,hf=>by
  rw[bQ]at h;cases h1:bY deep left l with
  |none=>rw[h1]at h;cases h
  |some j=>
   rw[h1]at h;have hj:=oS deep left j l h1 h0;have hll:1≤(iX l).length:=by
    cases l with
    |mk n body=>rw[iX];cases decide (n.kind=13)<;>simp
   rw[gP,List.append_assoc]at hf ⊢;cases f with
   |zero=>rw[Zl]at hf;omega
   |succ f=>
    rw[H4 d deep left j f (gP r++t) hd h0 l h1 hf,vT d deep j k f t hd hj.1 ht r h (by rw[Zl]at hf;omega)]
end
theorem BY {r:bU} {n:aG} {body:List aB} (ho:hZ r n body=true) (hr:pG r):∀(l:List Nat) (k:Nat),r.at_.drop k=l→(eA n l).length≤5*l.length
 |[],k,_=>by simp[eA]
 |i::l,k,h=>by
  have hk:k<r.at_.length:=by
   rcases Nat.lt_or_ge k r.at_.length with h'|h'
   ·exact h'
   ·rw[List.drop_eq_nil_of_le h']at h;cases h
  have hi:r.at_.getD k 0=i:=by
   have:(r.at_.drop k)[0]?=some i:=by rw[h];rfl
   rw[List.getElem?_drop,Nat.add_zero]at this;rw[List.getD_eq_getElem?_getD,this];rfl
  have hd:r.at_.drop (k+1)=l:=by
   have:(r.at_.drop k).drop 1=l:=by rw[h];rfl
   rwa [List.drop_drop]at this
  have hf:=sI ho hr k hk;rw[hi]at hf;have h4:=AN _ hf.2.2.1 hf.2.2.2;have ih:=BY ho hr l (k+1) hd;rw[eA,List.length_cons,Zl,List.length_cons];omega
theorem xH {n:aG} {body:List aB} (h:eZ n body=true):(lK n).length≤40:=by obtain⟨r,hr,ok,hm,hk,ho⟩:=nI h;rw[lK,hr];simp only[bU.text,Zl,List.length_singleton];have h1:=BY ho ok r.at_ 0 (by simp);have h2:=ok.ats;have h3:=ok.len;omega
theorem H9 {n:aG} {body:List aB} (h:eZ n body=true):lK n=kA (nU n):=by obtain⟨r,hr,ok,hm,hk,ho⟩:=nI h;rw[lK,nU,hr];simp only[bU.text,kA,xX,N2]
mutual
theorem SS (deep:Nat) (left k:Int):∀l:aB,bY deep left l=some k→kJ l=fZ (iX l)∧mM (iX l)∧((kJ l).length:Int)+40*k≤40*left
 |.mk n body,h=>by
  obtain⟨hl,⟨hk,hdp,hn,hb⟩|⟨hk,hb,rfl⟩⟩:=oH h
  ·obtain⟨i1,i2,i3⟩:=tF (deep+1) (left-1) k body hb;rw[kJ,iX,hk];simp only[decide_true,cond_true];refine⟨?_,?_,?_⟩
   ·have e:fZ ([dC]::(gP body++[[cV]]))=kA [dC]++(fZ (gP body)++kA [cV]):=by simp[fZ]
    rw[e,←i1];simp[kA,gT]
   ·intro ws hws;rcases List.mem_cons.1 hws with rfl|hws
    ·exact⟨by simp,fun w hw=>by rw[List.mem_singleton.1 hw];exact oP (by decide)⟩
    ·rcases List.mem_append.1 hws with hws|hws
     ·exact i2 ws hws
     ·rw[List.mem_singleton.1 hws];exact⟨by simp,fun w hw=>by rw[List.mem_singleton.1 hw];exact oP (by decide)⟩
   ·simp only[Zl,dC,cV,List.length_cons,List.length_nil];omega
  ·have hl40:=xH hb;have hwd:=H9 hb;obtain⟨w,ws,hlw,_,_,_,hok⟩:=CM hb;rw[kJ,iX,show decide (n.kind=13)=false by simpa using hk];simp only[cond_false];refine⟨by rw[hwd];simp[fZ],?_,by omega⟩;intro x hx;rw[List.mem_singleton.1 hx,hlw];exact⟨by simp,hok⟩
theorem tF (deep:Nat) (left k:Int):∀ls:List aB,bQ deep left ls=some k→dA ls=fZ (gP ls)∧mM (gP ls)∧((dA ls).length:Int)+40*k≤40*left
 |[],h=>by
  rw[bQ]at h;cases h;refine⟨rfl,fun x hx=>?_,by simp[dA]⟩;rw[gP]at hx;cases hx
 |l::r,h=>by
  rw[bQ]at h;cases h1:bY deep left l with
  |none=>rw[h1]at h;cases h
  |some j=>
   rw[h1]at h;obtain⟨i1,i2,i3⟩:=SS deep left j l h1;obtain⟨j1,j2,j3⟩:=tF deep j k r h;rw[dA,gP,G6,←i1,←j1];refine⟨rfl,i2.app j2,?_⟩;rw[Zl];omega
end
theorem RO (l:List Int) (h:l.all bW=true):fW (l.map Lib.itoa)=some l:=by
 induction l with
 |nil=>rfl
 |cons x r ih=>
  rw[List.all_cons,Bool.and_eq_true,bW,Bool.and_eq_true,decide_eq_true_eq,decide_eq_true_eq]at h;rw[List.map_cons,fW,D4 x 1 4096 (by omega) h.1.2 h.1.1 h.1.2];simp only;rw[ih h.2];rfl
theorem MV (l:List Int) (h:l.all bW=true):(eW l).length≤5*l.length:=by
 induction l with
 |nil=>simp[eW]
 |cons x r ih=>
  rw[List.all_cons,Bool.and_eq_true,bW,Bool.and_eq_true,decide_eq_true_eq,decide_eq_true_eq]at h;have:=AN x (by omega) h.1.2;have:=ih h.2;rw[eW,List.length_cons,Zl,List.length_cons];omega
theorem mQ {d:bE} (h:dL d=true):1≤d.input.length∧d.input.length≤3∧d.input.all bW=true∧(d.loss=1∨d.loss=2)∧∃k,bQ 0 64 d.lays=some k:=by simp only[dL,lR,kG,Bool.and_eq_true,Bool.or_eq_true,decide_eq_true_eq]at h;exact⟨h.1.1.1.1,h.1.1.1.2,h.1.1.2,h.1.2,Option.isSome_iff_exists.1 h.2⟩
theorem zW (k:Int):(eX k).length≤6:=by rw[eX];cases decide (k=1)<;>decide
theorem NA (k:Int):lQ (eX k):=by rw[eX];cases decide (k=1)<;>exact oP (by decide)
theorem I4 (k:Int) (h:k=1∨k=2):kF (eX k)=some k:=by rcases h with rfl|rfl<;>decide
theorem pQ {d:bE} (h:dL d=true):dT d=fZ (nR d)∧mM (nR d)∧(dT d).length≤2600:=by
 obtain⟨h1,h2,h3,h4,k,hk⟩:=mQ h;obtain⟨i1,i2,i3⟩:=tF 0 64 k d.lays hk;have hk0:=(nJ 0 64 k d.lays hk (by omega)).1;refine⟨?_,?_,?_⟩
 ·have e:fZ (nR d)=kA (jP::d.input.map Lib.itoa)++(fZ (gP d.lays)++kA [eB,eX d.loss]):=by simp[fZ,nR]
  rw[e,←i1,dT,kA,xX,←KX,kA,gT,gT];simp
 ·intro ws hws;rw[nR]at hws;rcases List.mem_cons.1 hws with rfl|hws
  ·refine⟨by simp,fun w hw=>?_⟩;rcases List.mem_cons.1 hw with rfl|hw
   ·exact oP (by decide)
   ·obtain⟨x,_,rfl⟩:=List.mem_map.1 hw;exact AA x
  ·rcases List.mem_append.1 hws with hws|hws
   ·exact i2 ws hws
   ·rw[List.mem_singleton.1 hws];refine⟨by simp,fun w hw=>?_⟩;simp only[List.mem_cons,List.not_mem_nil,or_false]at hw;rcases hw with rfl|rfl
    ·exact oP (by decide)
    ·exact NA _
 ·have:=MV d.input h3;have:=zW d.loss;simp only[dT,Zl,jP,eB,List.length_cons,List.length_nil];omega
theorem SI {d:bE} (h:dL d=true):gN (dT d)=some d:=by
 obtain⟨h1,h2,h3,h4,k,hk⟩:=mQ h;obtain⟨e,ok,hl⟩:=pQ h;have hw:dZ (nR d)=some d:=by rw[nR,dZ];rw[if_pos ⟨by simp;omega,by simp;omega,rfl⟩,List.tail_cons,RO _ h3];simp only;have:=vT 4 0 64 k _ [[eB,eX d.loss]] (by omega) (by omega) ⟨eB,[eX d.loss],[],rfl,.inr rfl⟩ d.lays hk (Zb _);rw[pJ,show(64:Nat)=(64:Int).toNat from rfl,this];simp only;rw[if_pos ⟨rfl,rfl⟩];simp only[List.getD_cons_succ,List.getD_cons_zero,I4 d.loss h4,Option.map_some]
 have hlast:(dT d).getLast?=some 10:=by rw[dT,List.getLast?_append];rfl
 rw[gN,if_neg (by omega),hlast,e,JY _ ok,hw];rfl
mutual
theorem PS (deep:Nat) (left k:Int):∀l:aB,bY deep left l=some k→0≤left→k+1≤left
 |.mk n body,h,h0=>by
  obtain⟨hl,⟨hk,hdp,hn,hb⟩|⟨hk,hb,rfl⟩⟩:=oH h
  ·have:=pX (deep+1) (left-1) k body hb (by omega);omega
  ·omega
theorem pX (deep:Nat) (left k:Int):∀ls:List aB,bQ deep left ls=some k→0≤left→(ls.length:Int)+k≤left
 |[],h,h0=>by rw[bQ]at h;cases h;simp
 |l::r,h,h0=>by
  rw[bQ]at h;cases h1:bY deep left l with
  |none=>rw[h1]at h;cases h
  |some j=>
   rw[h1]at h;have a:=PS deep left j l h1 h0;have c:=oS deep left j l h1 h0;have b:=pX deep j k r h c.1;simp only[List.length_cons];omega
end
end Go.Proofs.YtjhkdocidcfpdaaGreatDoor
