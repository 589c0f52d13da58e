/-
  A part of the proof of a law (packed by program).
-/
import Derived.Test.YtjhkdocidcfpdaaGreatDoorTM10
set_option linter.unusedVariables false
set_option linter.unusedSimpArgs false
set_option maxRecDepth 100000
set_option maxHeartbeats 16000000
namespace Go.Proofs.YtjhkdocidcfpdaaGreatDoor
open Go.RowKit Go.Shelf Go
def dW (k:Int):List Nat:=match cQ k with
 |some r=>r.at_
 |none=>[]
theorem F3 (k:Int) (h:k<1∨12<k):dW k=[]:=by
 have:cQ k=none:=by
  rw[cQ,List.find?_eq_none];intro r hr;have:∀r∈bG,1≤r.kind∧r.kind≤12:=by decide
  have:=this r hr;simp;omega
 rw[dW,this]
def cS (k:Int) (xs:List Int):aG:=((dW k).zip xs).foldl (fun n p=>n.put p.1 p.2) {bM with kind:=k}
theorem vR (n:aG):(gM n).length=(dW n.kind).length:=by
 unfold gM dW;cases cQ n.kind with
 |none=>rfl
 |some r=>simp
theorem SQ (k:Int) (v:Value) (xs:List Int) (w:World) (h:Rd w .i64 v xs) (hl:xs.length=(dW k).length):
  Calls Tryz.prog 147 #[.int .i64 k,v] w fun e w'=>e=.returned (.agg ((cS k xs).cells (.slice none 0 0)).toArray)∧Below w.heap.size w w':=by
 obtain⟨o,cap,rfl⟩:=aU h;by_cases hk:k<1∨12<k
 ·have HN:=Za (show cS k xs={bM with kind:=k} by rw[cS,F3 k hk];rfl);have n1:¬k=1:=by omega
  have n2:¬k=2:=by omega
  have n7:¬k=7:=by omega
  have n8:¬k=8:=by omega
  have n9:¬k=9:=by omega
  have n11:¬k=11:=by omega
  have n12:¬k=12:=by omega
  clear h hk hl;go_enter Tryz.func147,Tryz.ntmps147;go_wp2;refine bodyPost_ret (v:=.agg ((cS k xs).cells (.slice none 0 0)).toArray) (by rw[HN.o];simp[results,Tryz.results147,go_sem,aG.cells,bM]) rfl ⟨rfl,?_⟩
  repeat(first|exact Zc _ _|refine Below.setCell ?_ (by simp) _|refine Below.alloc ?_ (by simp) _)
 ·have:k=1∨k=2∨k=3∨k=4∨k=5∨k=6∨k=7∨k=8∨k=9∨k=10∨k=11∨k=12:=by omega
  clear hk;have HR:=Za h;have two:∀(a b:Int),xs=[a,b]→∃bb off,o=some ⟨bb,off,none⟩∧w.cell? ⟨bb,off,none⟩=some (.int .i64 a)∧w.cell? ⟨bb,off+1,none⟩=some (.int .i64 b):=fun a b e=>by
   obtain⟨bb,off,rfl,c0⟩:=HR.o.cell 0 (by rw[e];simp);obtain⟨b2,off2,he,c1⟩:=HR.o.cell 1 (by rw[e];simp);cases he;rw[e]at c0 c1;exact⟨bb,off,rfl,by simpa [aE]using c0,by simpa [aE]using c1⟩
  have one:∀(a:Int),xs=[a]→∃bb off,o=some ⟨bb,off,none⟩∧w.cell? ⟨bb,off,none⟩=some (.int .i64 a):=fun a e=>by
   obtain⟨bb,off,rfl,c0⟩:=HR.o.cell 0 (by rw[e];simp);rw[e]at c0;exact⟨bb,off,rfl,by simpa [aE]using c0⟩
  have five:∀(a b c d e:Int),xs=[a,b,c,d,e]→∃bb off,o=some ⟨bb,off,none⟩∧w.cell? ⟨bb,off,none⟩=some (.int .i64 a)∧w.cell? ⟨bb,off+1,none⟩=some (.int .i64 b)∧w.cell? ⟨bb,off+2,none⟩=some (.int .i64 c)∧w.cell? ⟨bb,off+3,none⟩=some (.int .i64 d)∧w.cell? ⟨bb,off+4,none⟩=some (.int .i64 e):=fun a b c d e he=>by
   obtain⟨bb,off,rfl,c0⟩:=HR.o.cell 0 (by rw[he];simp);obtain⟨b1,o1,e1,c1⟩:=HR.o.cell 1 (by rw[he];simp);cases e1;obtain⟨b1,o1,e1,c2⟩:=HR.o.cell 2 (by rw[he];simp);cases e1;obtain⟨b1,o1,e1,c3⟩:=HR.o.cell 3 (by rw[he];simp);cases e1;obtain⟨b1,o1,e1,c4⟩:=HR.o.cell 4 (by rw[he];simp);cases e1;rw[he]at c0 c1 c2 c3 c4;exact⟨bb,off,rfl,by simpa [aE]using c0,by simpa [aE]using c1,by simpa [aE]using c2,by simpa [aE]using c3,by simpa [aE]using c4⟩
  have len0:xs.length=0→xs=[]:=List.length_eq_zero_iff.1;have len1:xs.length=1→∃a,xs=[a]:=fun e=>List.length_eq_one_iff.1 e;have len2:xs.length=2→∃a b,xs=[a,b]:=fun e=>by
   match xs,e with
   |[a,b],_=>exact⟨a,b,rfl⟩
  have len5:xs.length=5→∃a b c d f,xs=[a,b,c,d,f]:=fun e=>by
   match xs,e with
   |[a,b,c,d,f],_=>exact⟨a,b,c,d,f,rfl⟩
  clear h;rcases this with rfl|rfl|rfl|rfl|rfl|rfl|rfl|rfl|rfl|rfl|rfl|rfl
  ·obtain⟨a,b,e⟩:=len2 hl;obtain⟨bb,off,rfl,d0,d1⟩:=two a b e;subst e;clear len0 len1 len2 len5 one two five HR hl;have hlt:bb<w.heap.size:=aP d0;go_enter Tryz.func147,Tryz.ntmps147;go_wp2;refine bodyPost_ret (v:=.agg ((cS 1 ([a,b])).cells (.slice none 0 0)).toArray) (by simp[results,Tryz.results147,go_sem,cS,dW,cQ,bG,aG.cells,aG.put,bM]) rfl ⟨rfl,?_⟩
   repeat(first|exact Zc _ _|refine Below.setCell ?_ (by simp) _|refine Below.alloc ?_ (by simp) _)
  ·obtain⟨a,b,c,d,f,e⟩:=len5 hl;obtain⟨bb,off,rfl,d0,d1,d2,d3,d4⟩:=five a b c d f e;subst e;clear len0 len1 len2 len5 one two five HR hl;have hlt:bb<w.heap.size:=aP d0;go_enter Tryz.func147,Tryz.ntmps147;go_wp2;refine bodyPost_ret (v:=.agg ((cS 2 ([a,b,c,d,f])).cells (.slice none 0 0)).toArray) (by simp[results,Tryz.results147,go_sem,cS,dW,cQ,bG,aG.cells,aG.put,bM]) rfl ⟨rfl,?_⟩
   repeat(first|exact Zc _ _|refine Below.setCell ?_ (by simp) _|refine Below.alloc ?_ (by simp) _)
  ·obtain rfl:=len0 hl;clear len0 len1 len2 len5 one two five HR hl;go_enter Tryz.func147,Tryz.ntmps147;go_wp2;refine bodyPost_ret (v:=.agg ((cS 3 ([])).cells (.slice none 0 0)).toArray) (by simp[results,Tryz.results147,go_sem,cS,dW,cQ,bG,aG.cells,aG.put,bM]) rfl ⟨rfl,?_⟩
   repeat(first|exact Zc _ _|refine Below.setCell ?_ (by simp) _|refine Below.alloc ?_ (by simp) _)
  ·obtain rfl:=len0 hl;clear len0 len1 len2 len5 one two five HR hl;go_enter Tryz.func147,Tryz.ntmps147;go_wp2;refine bodyPost_ret (v:=.agg ((cS 4 ([])).cells (.slice none 0 0)).toArray) (by simp[results,Tryz.results147,go_sem,cS,dW,cQ,bG,aG.cells,aG.put,bM]) rfl ⟨rfl,?_⟩
   repeat(first|exact Zc _ _|refine Below.setCell ?_ (by simp) _|refine Below.alloc ?_ (by simp) _)
  ·obtain rfl:=len0 hl;clear len0 len1 len2 len5 one two five HR hl;go_enter Tryz.func147,Tryz.ntmps147;go_wp2;refine bodyPost_ret (v:=.agg ((cS 5 ([])).cells (.slice none 0 0)).toArray) (by simp[results,Tryz.results147,go_sem,cS,dW,cQ,bG,aG.cells,aG.put,bM]) rfl ⟨rfl,?_⟩
   repeat(first|exact Zc _ _|refine Below.setCell ?_ (by simp) _|refine Below.alloc ?_ (by simp) _)
  ·obtain rfl:=len0 hl;clear len0 len1 len2 len5 one two five HR hl;go_enter Tryz.func147,Tryz.ntmps147;go_wp2;refine bodyPost_ret (v:=.agg ((cS 6 ([])).cells (.slice none 0 0)).toArray) (by simp[results,Tryz.results147,go_sem,cS,dW,cQ,bG,aG.cells,aG.put,bM]) rfl ⟨rfl,?_⟩
   repeat(first|exact Zc _ _|refine Below.setCell ?_ (by simp) _|refine Below.alloc ?_ (by simp) _)
  ·obtain⟨a,e⟩:=len1 hl;obtain⟨bb,off,rfl,d0⟩:=one a e;subst e;clear len0 len1 len2 len5 one two five HR hl;have hlt:bb<w.heap.size:=aP d0;go_enter Tryz.func147,Tryz.ntmps147;go_wp2;refine bodyPost_ret (v:=.agg ((cS 7 ([a])).cells (.slice none 0 0)).toArray) (by simp[results,Tryz.results147,go_sem,cS,dW,cQ,bG,aG.cells,aG.put,bM]) rfl ⟨rfl,?_⟩
   repeat(first|exact Zc _ _|refine Below.setCell ?_ (by simp) _|refine Below.alloc ?_ (by simp) _)
  ·obtain⟨a,e⟩:=len1 hl;obtain⟨bb,off,rfl,d0⟩:=one a e;subst e;clear len0 len1 len2 len5 one two five HR hl;have hlt:bb<w.heap.size:=aP d0;go_enter Tryz.func147,Tryz.ntmps147;go_wp2;refine bodyPost_ret (v:=.agg ((cS 8 ([a])).cells (.slice none 0 0)).toArray) (by simp[results,Tryz.results147,go_sem,cS,dW,cQ,bG,aG.cells,aG.put,bM]) rfl ⟨rfl,?_⟩
   repeat(first|exact Zc _ _|refine Below.setCell ?_ (by simp) _|refine Below.alloc ?_ (by simp) _)
  ·obtain⟨a,e⟩:=len1 hl;obtain⟨bb,off,rfl,d0⟩:=one a e;subst e;clear len0 len1 len2 len5 one two five HR hl;have hlt:bb<w.heap.size:=aP d0;go_enter Tryz.func147,Tryz.ntmps147;go_wp2;refine bodyPost_ret (v:=.agg ((cS 9 ([a])).cells (.slice none 0 0)).toArray) (by simp[results,Tryz.results147,go_sem,cS,dW,cQ,bG,aG.cells,aG.put,bM]) rfl ⟨rfl,?_⟩
   repeat(first|exact Zc _ _|refine Below.setCell ?_ (by simp) _|refine Below.alloc ?_ (by simp) _)
  ·obtain rfl:=len0 hl;clear len0 len1 len2 len5 one two five HR hl;go_enter Tryz.func147,Tryz.ntmps147;go_wp2;refine bodyPost_ret (v:=.agg ((cS 10 ([])).cells (.slice none 0 0)).toArray) (by simp[results,Tryz.results147,go_sem,cS,dW,cQ,bG,aG.cells,aG.put,bM]) rfl ⟨rfl,?_⟩
   repeat(first|exact Zc _ _|refine Below.setCell ?_ (by simp) _|refine Below.alloc ?_ (by simp) _)
  ·obtain⟨a,b,e⟩:=len2 hl;obtain⟨bb,off,rfl,d0,d1⟩:=two a b e;subst e;clear len0 len1 len2 len5 one two five HR hl;have hlt:bb<w.heap.size:=aP d0;go_enter Tryz.func147,Tryz.ntmps147;go_wp2;refine bodyPost_ret (v:=.agg ((cS 11 ([a,b])).cells (.slice none 0 0)).toArray) (by simp[results,Tryz.results147,go_sem,cS,dW,cQ,bG,aG.cells,aG.put,bM]) rfl ⟨rfl,?_⟩
   repeat(first|exact Zc _ _|refine Below.setCell ?_ (by simp) _|refine Below.alloc ?_ (by simp) _)
  ·obtain⟨a,b,e⟩:=len2 hl;obtain⟨bb,off,rfl,d0,d1⟩:=two a b e;subst e;clear len0 len1 len2 len5 one two five HR hl;have hlt:bb<w.heap.size:=aP d0;go_enter Tryz.func147,Tryz.ntmps147;go_wp2;refine bodyPost_ret (v:=.agg ((cS 12 ([a,b])).cells (.slice none 0 0)).toArray) (by simp[results,Tryz.results147,go_sem,cS,dW,cQ,bG,aG.cells,aG.put,bM]) rfl ⟨rfl,?_⟩
   repeat(first|exact Zc _ _|refine Below.setCell ?_ (by simp) _|refine Below.alloc ?_ (by simp) _)
end Go.Proofs.YtjhkdocidcfpdaaGreatDoor
