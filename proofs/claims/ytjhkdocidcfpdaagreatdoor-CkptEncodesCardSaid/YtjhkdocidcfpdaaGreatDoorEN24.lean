/- A part of the proof. -/
import Derived.Test.YtjhkdocidcfpdaaGreatDoorEN13
set_option linter.unusedVariables false
set_option linter.unusedSimpArgs false
set_option maxRecDepth 100000
set_option maxHeartbeats 16000000
namespace Go.Proofs.YtjhkdocidcfpdaaGreatDoor
open Go.RowKit Go.Shelf Go
def eA (k:Int):List Nat:=match cP k with
 |some r=>r.at_
 |none=>[]
theorem U8 (k:Int) (h:k<1\/12<k):eA k=[]:=by
 have:cP k=none:=by
  rw[cP,List.find?_eq_none];intro r hr;have:∀r∈bJ,1<=r.kind/\r.kind<=12:=by decide
  have:=this r hr;simp;omega
 rw[eA,this]
def cW (k:Int) (xs:List Int):aE:=((eA k).zip xs).foldl (fun n p=>n.put p.1 p.2) {bN with kind:=k}
theorem yE (n:aE):(dK n).length=(eA n.kind).length:=by
 unfold dK eA;cases cP n.kind with
 |none=>rfl
 |some r=>simp
theorem LJ (k:Int) (v:Value) (xs:List Int) (w:World) (h:Rd w .i64 v xs) (A:xs.length=(eA k).length):
  Calls Tryz.prog 147 #[.int .i64 k,v] w fun e w'=>e=.returned (.agg ((cW k xs).cells (.slice none 0 0)).toArray)/\Below w.heap.size w w':=by
 obtain⟨o,cap,rfl⟩:=aU h;by_cases hk:k<1\/12<k
 ·have E:=Za (show cW k xs={bN with kind:=k} by rw[cW,U8 k hk];rfl);have n1:¬k=1:=by omega
  have n2:¬k=2:=by omega
  have n7:¬k=7:=by omega
  have n8:¬k=8:=by omega
  have n9:¬k=9:=by omega
  have n11:¬k=11:=by omega
  have n12:¬k=12:=by omega
  clear h hk A;go_enter Tryz.func147,Tryz.ntmps147;go_wp2;refine bodyPost_ret (v:=.agg ((cW k xs).cells (.slice none 0 0)).toArray) (by rw[E.o];simp[results,Tryz.results147,go_sem,aE.cells,bN]) rfl ⟨rfl,?_⟩
  repeat(first|exact Zc _ _|refine Below.setCell ?_ (by simp) _|refine Below.alloc ?_ (by simp) _)
 ·have:k=1\/k=2\/k=3\/k=4\/k=5\/k=6\/k=7\/k=8\/k=9\/k=10\/k=11\/k=12:=by omega
  clear hk;have B:=Za h;have two:∀(a b:Int),xs=[a,b]->∃bb off,o=some ⟨bb,off,none⟩/\w.cell? ⟨bb,off,none⟩=some (.int .i64 a)/\w.cell? ⟨bb,off+1,none⟩=some (.int .i64 b):=fun a b e=>by
   obtain⟨bb,off,rfl,c0⟩:=B.o.cell 0 (by rw[e];simp);obtain⟨b2,off2,D,c1⟩:=B.o.cell 1 (by rw[e];simp);cases D;rw[e]at c0 c1;exact⟨bb,off,rfl,by simpa [aF]using c0,by simpa [aF]using c1⟩
  have one:∀(a:Int),xs=[a]->∃bb off,o=some ⟨bb,off,none⟩/\w.cell? ⟨bb,off,none⟩=some (.int .i64 a):=fun a e=>by
   obtain⟨bb,off,rfl,c0⟩:=B.o.cell 0 (by rw[e];simp);rw[e]at c0;exact⟨bb,off,rfl,by simpa [aF]using c0⟩
  have five:∀(a b c d e:Int),xs=[a,b,c,d,e]->∃bb off,o=some ⟨bb,off,none⟩/\w.cell? ⟨bb,off,none⟩=some (.int .i64 a)/\w.cell? ⟨bb,off+1,none⟩=some (.int .i64 b)/\w.cell? ⟨bb,off+2,none⟩=some (.int .i64 c)/\w.cell? ⟨bb,off+3,none⟩=some (.int .i64 d)/\w.cell? ⟨bb,off+4,none⟩=some (.int .i64 e):=fun a b c d e D=>by
   obtain⟨bb,off,rfl,c0⟩:=B.o.cell 0 (by rw[D];simp);obtain⟨b1,o1,e1,c1⟩:=B.o.cell 1 (by rw[D];simp);cases e1;obtain⟨b1,o1,e1,c2⟩:=B.o.cell 2 (by rw[D];simp);cases e1;obtain⟨b1,o1,e1,c3⟩:=B.o.cell 3 (by rw[D];simp);cases e1;obtain⟨b1,o1,e1,c4⟩:=B.o.cell 4 (by rw[D];simp);cases e1;rw[D]at c0 c1 c2 c3 c4;exact⟨bb,off,rfl,by simpa [aF]using c0,by simpa [aF]using c1,by simpa [aF]using c2,by simpa [aF]using c3,by simpa [aF]using c4⟩
  have len0:xs.length=0->xs=[]:=List.length_eq_zero_iff.1;have len1:xs.length=1->∃a,xs=[a]:=fun e=>List.length_eq_one_iff.1 e;have len2:xs.length=2->∃a b,xs=[a,b]:=fun e=>by
   match xs,e with
   |[a,b],_=>exact⟨a,b,rfl⟩
  have len5:xs.length=5->∃a b c d f,xs=[a,b,c,d,f]:=fun e=>by
   match xs,e with
   |[a,b,c,d,f],_=>exact⟨a,b,c,d,f,rfl⟩
  clear h;rcases this with rfl|rfl|rfl|rfl|rfl|rfl|rfl|rfl|rfl|rfl|rfl|rfl
  ·obtain⟨a,b,e⟩:=len2 A;obtain⟨bb,off,rfl,d0,d1⟩:=two a b e;subst e;clear len0 len1 len2 len5 one two five B A;have C:bb<w.heap.size:=aP d0;go_enter Tryz.func147,Tryz.ntmps147;go_wp2;refine bodyPost_ret (v:=.agg ((cW 1 ([a,b])).cells (.slice none 0 0)).toArray) (by simp[results,Tryz.results147,go_sem,cW,eA,cP,bJ,aE.cells,aE.put,bN]) rfl ⟨rfl,?_⟩
   repeat(first|exact Zc _ _|refine Below.setCell ?_ (by simp) _|refine Below.alloc ?_ (by simp) _)
  ·obtain⟨a,b,c,d,f,e⟩:=len5 A;obtain⟨bb,off,rfl,d0,d1,d2,d3,d4⟩:=five a b c d f e;subst e;clear len0 len1 len2 len5 one two five B A;have C:bb<w.heap.size:=aP d0;go_enter Tryz.func147,Tryz.ntmps147;go_wp2;refine bodyPost_ret (v:=.agg ((cW 2 ([a,b,c,d,f])).cells (.slice none 0 0)).toArray) (by simp[results,Tryz.results147,go_sem,cW,eA,cP,bJ,aE.cells,aE.put,bN]) rfl ⟨rfl,?_⟩
   repeat(first|exact Zc _ _|refine Below.setCell ?_ (by simp) _|refine Below.alloc ?_ (by simp) _)
  ·obtain rfl:=len0 A;clear len0 len1 len2 len5 one two five B A;go_enter Tryz.func147,Tryz.ntmps147;go_wp2;refine bodyPost_ret (v:=.agg ((cW 3 ([])).cells (.slice none 0 0)).toArray) (by simp[results,Tryz.results147,go_sem,cW,eA,cP,bJ,aE.cells,aE.put,bN]) rfl ⟨rfl,?_⟩
   repeat(first|exact Zc _ _|refine Below.setCell ?_ (by simp) _|refine Below.alloc ?_ (by simp) _)
  ·obtain rfl:=len0 A;clear len0 len1 len2 len5 one two five B A;go_enter Tryz.func147,Tryz.ntmps147;go_wp2;refine bodyPost_ret (v:=.agg ((cW 4 ([])).cells (.slice none 0 0)).toArray) (by simp[results,Tryz.results147,go_sem,cW,eA,cP,bJ,aE.cells,aE.put,bN]) rfl ⟨rfl,?_⟩
   repeat(first|exact Zc _ _|refine Below.setCell ?_ (by simp) _|refine Below.alloc ?_ (by simp) _)
  ·obtain rfl:=len0 A;clear len0 len1 len2 len5 one two five B A;go_enter Tryz.func147,Tryz.ntmps147;go_wp2;refine bodyPost_ret (v:=.agg ((cW 5 ([])).cells (.slice none 0 0)).toArray) (by simp[results,Tryz.results147,go_sem,cW,eA,cP,bJ,aE.cells,aE.put,bN]) rfl ⟨rfl,?_⟩
   repeat(first|exact Zc _ _|refine Below.setCell ?_ (by simp) _|refine Below.alloc ?_ (by simp) _)
  ·obtain rfl:=len0 A;clear len0 len1 len2 len5 one two five B A;go_enter Tryz.func147,Tryz.ntmps147;go_wp2;refine bodyPost_ret (v:=.agg ((cW 6 ([])).cells (.slice none 0 0)).toArray) (by simp[results,Tryz.results147,go_sem,cW,eA,cP,bJ,aE.cells,aE.put,bN]) rfl ⟨rfl,?_⟩
   repeat(first|exact Zc _ _|refine Below.setCell ?_ (by simp) _|refine Below.alloc ?_ (by simp) _)
  ·obtain⟨a,e⟩:=len1 A;obtain⟨bb,off,rfl,d0⟩:=one a e;subst e;clear len0 len1 len2 len5 one two five B A;have C:bb<w.heap.size:=aP d0;go_enter Tryz.func147,Tryz.ntmps147;go_wp2;refine bodyPost_ret (v:=.agg ((cW 7 ([a])).cells (.slice none 0 0)).toArray) (by simp[results,Tryz.results147,go_sem,cW,eA,cP,bJ,aE.cells,aE.put,bN]) rfl ⟨rfl,?_⟩
   repeat(first|exact Zc _ _|refine Below.setCell ?_ (by simp) _|refine Below.alloc ?_ (by simp) _)
  ·obtain⟨a,e⟩:=len1 A;obtain⟨bb,off,rfl,d0⟩:=one a e;subst e;clear len0 len1 len2 len5 one two five B A;have C:bb<w.heap.size:=aP d0;go_enter Tryz.func147,Tryz.ntmps147;go_wp2;refine bodyPost_ret (v:=.agg ((cW 8 ([a])).cells (.slice none 0 0)).toArray) (by simp[results,Tryz.results147,go_sem,cW,eA,cP,bJ,aE.cells,aE.put,bN]) rfl ⟨rfl,?_⟩
   repeat(first|exact Zc _ _|refine Below.setCell ?_ (by simp) _|refine Below.alloc ?_ (by simp) _)
  ·obtain⟨a,e⟩:=len1 A;obtain⟨bb,off,rfl,d0⟩:=one a e;subst e;clear len0 len1 len2 len5 one two five B A;have C:bb<w.heap.size:=aP d0;go_enter Tryz.func147,Tryz.ntmps147;go_wp2;refine bodyPost_ret (v:=.agg ((cW 9 ([a])).cells (.slice none 0 0)).toArray) (by simp[results,Tryz.results147,go_sem,cW,eA,cP,bJ,aE.cells,aE.put,bN]) rfl ⟨rfl,?_⟩
   repeat(first|exact Zc _ _|refine Below.setCell ?_ (by simp) _|refine Below.alloc ?_ (by simp) _)
  ·obtain rfl:=len0 A;clear len0 len1 len2 len5 one two five B A;go_enter Tryz.func147,Tryz.ntmps147;go_wp2;refine bodyPost_ret (v:=.agg ((cW 10 ([])).cells (.slice none 0 0)).toArray) (by simp[results,Tryz.results147,go_sem,cW,eA,cP,bJ,aE.cells,aE.put,bN]) rfl ⟨rfl,?_⟩
   repeat(first|exact Zc _ _|refine Below.setCell ?_ (by simp) _|refine Below.alloc ?_ (by simp) _)
  ·obtain⟨a,b,e⟩:=len2 A;obtain⟨bb,off,rfl,d0,d1⟩:=two a b e;subst e;clear len0 len1 len2 len5 one two five B A;have C:bb<w.heap.size:=aP d0;go_enter Tryz.func147,Tryz.ntmps147;go_wp2;refine bodyPost_ret (v:=.agg ((cW 11 ([a,b])).cells (.slice none 0 0)).toArray) (by simp[results,Tryz.results147,go_sem,cW,eA,cP,bJ,aE.cells,aE.put,bN]) rfl ⟨rfl,?_⟩
   repeat(first|exact Zc _ _|refine Below.setCell ?_ (by simp) _|refine Below.alloc ?_ (by simp) _)
  ·obtain⟨a,b,e⟩:=len2 A;obtain⟨bb,off,rfl,d0,d1⟩:=two a b e;subst e;clear len0 len1 len2 len5 one two five B A;have C:bb<w.heap.size:=aP d0;go_enter Tryz.func147,Tryz.ntmps147;go_wp2;refine bodyPost_ret (v:=.agg ((cW 12 ([a,b])).cells (.slice none 0 0)).toArray) (by simp[results,Tryz.results147,go_sem,cW,eA,cP,bJ,aE.cells,aE.put,bN]) rfl ⟨rfl,?_⟩
   repeat(first|exact Zc _ _|refine Below.setCell ?_ (by simp) _|refine Below.alloc ?_ (by simp) _)
