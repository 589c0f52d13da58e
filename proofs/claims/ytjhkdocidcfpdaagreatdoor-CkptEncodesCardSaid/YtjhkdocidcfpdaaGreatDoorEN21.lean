/- A part of the proof. -/
import Derived.Test.YtjhkdocidcfpdaaGreatDoorEN13
set_option linter.unusedVariables false
set_option linter.unusedSimpArgs false
set_option maxRecDepth 100000
set_option maxHeartbeats 16000000
namespace Go.Proofs.YtjhkdocidcfpdaaGreatDoor
open Go.RowKit Go.Shelf Go
def gW (n:Nat) (a:Int):Bool:=decide (0<=a)&&decide (a<n)
def jP (l:List Int) (n:Nat):Bool:=l.all (gW n)&&decide l.Nodup&&decide (l.length=n)
theorem EK (l:List Int) (k:Nat) (h:k<l.length):(l.take (k+1)).Nodup↔(l.take k).Nodup/\aF l k ∉ l.take k:=by
 rw[fG l k h,List.nodup_append];constructor
 ·rintro⟨h1,_,h3⟩;exact⟨h1,fun hm=>h3 _ hm _ (List.mem_singleton.2 rfl) rfl⟩
 ·rintro⟨h1,h2⟩;refine⟨h1,(by simp),fun a ha b hb e=>?_⟩;rw[List.mem_singleton.1 hb]at e;exact h2 (e▸ha)
def mL (l:List Int) (n:Nat):List Bool:=(List.range n).map fun j:Nat=>decide ((j:Int)∈l)
theorem TS (l:List Int) (n j:Nat) (x:Int) (hx:x=j) (hj:j<n):(mL l n).set j true=mL (l++[x]) n:=by
 subst hx;apply List.ext_getElem
 ·simp[mL]
 ·intro i h1 h2;rw[List.getElem_set];simp only[mL,List.getElem_map,List.getElem_range,List.mem_append,List.mem_singleton];split
  ·next h=>subst h;simp
  ·next h=>
   have:¬((i:Int)=(j:Int)):=by omega
   simp[this]
theorem II {w:World} {B:Nat} {e:TypeId} {g n cap m:Nat} {xs:List Value} (h:w.ownsRow B e 1 (.slice (some ⟨g,0,none⟩) n cap) m xs) (j:Nat) {u:Value} (hj:xs[j]?=some u):
  w.cell? ⟨g,j,none⟩=some u/\w.frozen? ⟨g,j,none⟩=false:=by
 rcases h.2 with⟨h1,_⟩|⟨g',cap',cur,h1,hb,hg,_,_,_,ht⟩
 ·simp at h1
 ·simp at h1;obtain⟨rfl,rfl,_⟩:=h1;have hl:=(List.getElem?_eq_some_iff.1 hj).1;have hx:=hj;rw[<-ht,List.getElem?_take,if_pos (by rw[h.1]at hl;omega)]at hx;refine⟨?_,?_⟩
  ·rw[cell_of_row w g j cur e (0,0) hg];simpa using hx
  ·simp[World.frozen?,hg]
theorem I8 {w:World} {B:Nat} {e:TypeId} {g n cap m:Nat} {xs:List Value} (h:w.ownsRow B e 1 (.slice (some ⟨g,0,none⟩) n cap) m xs) (j:Nat) (u:Value):
  (w.setCell ⟨g,j,none⟩ u).ownsRow B e 1 (.slice (some ⟨g,0,none⟩) n cap) m (xs.set j u):=by
 refine⟨by simpa using h.1,?_⟩;rcases h.2 with⟨h1,_⟩|⟨g',cap',cur,h1,hb,hg,h4,h5,h6,ht⟩
 ·simp at h1
 ·simp at h1;obtain⟨rfl,rfl,rfl⟩:=h1;refine .inr ⟨g,cap,cur.setIfInBounds j u,by simp,hb,by simp[World.setCell,Array.getElem?_modify,hg],by simpa using h4,h5,by simpa using h6,?_⟩;rw[Array.toList_setIfInBounds,List.take_set,ht]
theorem KC (n:Nat):(madeCells (Value.bool false).cells (n*1)).toList=(mL [] n).map Value.bool:=by
 rw[Nat.mul_one];apply List.ext_getElem
 ·simp[madeCells,mL]
 ·intro i h1 h2;simp[madeCells,Value.cells,Nat.mod_one,mL]
theorem MQ:(Tryz.prog.info? 4).map (fun i=>(i.zero,i.size,i.bytes))=some (some (.bool false),1,1):=by kernel_rfl
theorem UK (a b:Nat):((a:Int)==(b:Int))=decide (a=b):=by by_cases h:a=b<;>simp[h];omega
theorem RX {n:Nat} {a:Int} (h:gW n a=false):a<0\/(n:Int)<=a:=by simp only[gW,Bool.and_eq_false_iff,decide_eq_false_iff_not]at h;omega
theorem o8 {n:Nat} {a:Int} (h:gW n a=true):0<=a/\a<n:=by simp only[gW,Bool.and_eq_true,decide_eq_true_eq]at h;exact h
theorem rQ (v:Value) (xs:List Int) (n:Nat) (w:World) (hr:Rd w .i64 v xs) (hl:xs.length<=140737488351232) (hn:n<=100000):
  Calls Tryz.prog 132 #[v,.int .i64 n] w fun e w'=>e=.returned (.bool (jP xs n))/\Below w.heap.size w w':=by
 obtain⟨o,cap,rfl,hc⟩:=hr;obtain⟨i0,hi,H,I,J⟩:=info_parts MQ;have Z:=Za hc;clear hc;go_enter Tryz.func132,Tryz.ntmps132;go_wp2_with(at_make;refine wpList_make_full _ rfl _ _ 237 rfl w.heap.size 4 i0 (.bool false) 1 Tryz.underlying237 hi H I .i64 .i64 _ _ n rfl rfl rfl rfl (by rw[J];omega) (by unfold maxLen;omega) (Zb _) ?_;intro w1 hm hg;refine aD ?_);rw[KC]at hm;have T:=Za hm;have U:=Za (lM hg);clear hm hg hi H I J;refine aC ?_;go_wp2;go_loopw[12] (fun i wr=>∃k:Nat,k<=xs.length/\i=.int .i64 k/\wr.ownsRow w.heap.size 4 1 (.slice (some ⟨w.heap.size,0,none⟩) n n) n ((mL (xs.take k) n).map .bool)/\Below w.heap.size w wr/\(xs.take k).all (gW n)=true/\(xs.take k).Nodup) (fun i _=>xs.length-(intOf i).toNat)
 case atStart=>exact⟨0,Ze _,rfl,T.o,U.o,rfl,List.nodup_nil⟩
 case round=>
  obtain⟨k,hk,rfl,E,hB,F,L⟩:=hrel;obtain⟨w3,rfl⟩:=Zx wr;have V:=Za E;have C:=Za hB;have X:=Za F;have Y:=Za L;clear E hB F L T U;by_cases D:k<xs.length
  ·obtain⟨b,off,rfl,A⟩:=Z.o k D;have hcell':=(C.o.cell (p:=⟨b,off+k,none⟩) (aP A)).trans A;clear A;obtain⟨x,hx⟩:=Zx (aF xs k);rw[<-hx]at hcell';have M:=Za hx;clear hx;cases B:gW n x with
   |false=>
    have O:=Za (show xs.all (gW n)=false from oI _ _ k D (by rw[<-M.o];exact B));rcases RX B with h1|h1
    ·clear B;go_wp2;go_ret;exact⟨aG (by rw[jP,O.o];rfl),C.o⟩
    ·clear B;have h0:¬x<0:=by omega
     go_wp2;go_ret;exact⟨aG (by rw[jP,O.o];rfl),C.o⟩
   |true=>
    obtain⟨h0,h1⟩:=o8 B;have O:=Za B;clear B;obtain⟨j,rfl⟩:∃j:Nat,x=j:=⟨x.toNat,by omega⟩;have hj:j<n:=by omega
    have HJ:=Za hj;have P:=II V.o j (u:=.bool (decide ((j:Int)∈xs.take k))) (by simp[mL,hj]);obtain⟨N,aa⟩:=P;cases G:decide ((j:Int)∈xs.take k)with
    |true=>
     rw[G]at N;have R:=Za (of_decide_eq_true G);clear G;go_wp2;go_ret;refine⟨aG ?_,C.o⟩;rw[jP,decide_eq_false (p:=xs.Nodup) (fun h=>?_)]
     ·simp
     ·have:=(EK xs k D).1 (h.sublist (List.take_sublist _ _));exact this.2 (by rw[<-M.o];exact R.o)
    |false=>
     rw[G]at N;have R:=Za (of_decide_eq_false G);clear G;go_wp2;go_roundw
     case rel=>
      refine⟨k+1,by omega,by go_num,?_,C.o.setCell (p:=⟨w.heap.size,j,none⟩) (Zb _) _,?_,?_⟩
      ·have:=I8 V.o j (.bool true);rw[<-List.map_set,TS _ n j (aF xs k) M.o.symm HJ.o,<-fG xs k D]at this;exact this
      ·rw[pU _ _ _ D,X.o,<-M.o,O.o];rfl
      ·exact(EK xs k D).2 ⟨Y.o,by rw[<-M.o];exact R.o⟩
     case measure=>simp[intOf];omega
  ·obtain rfl:k=xs.length:=by omega
   have HA':=Za (show xs.all (gW n)=true by rw[<-List.take_length (l:=xs)];exact X.o);have HN':=Za (show xs.Nodup by rw[<-List.take_length (l:=xs)];exact Y.o);go_wp2;go_ret;exact⟨aG (by rw[jP,HA'.o,decide_eq_true HN'.o,Bool.true_and,Bool.true_and,<-UK]),C.o⟩
theorem FJ (v:Value) (xs:List Int) (x:Int) (w:World) (hr:Rd w .i64 v xs) (hl:xs.length<=140737488351232):
  Calls Tryz.prog 149 #[v,.int .i64 x] w fun e w'=>e=.returned (.bool (decide (x∈xs)))/\aN w w':=by
 obtain⟨o,cap,rfl,hc⟩:=hr;have F:=Za hc;clear hc;go_enter Tryz.func149,Tryz.ntmps149;go_wp2;go_loop[5] (fun i=>∃k:Nat,k<=xs.length/\i=.int .i64 k/\x ∉ xs.take k) (fun i=>xs.length-(intOf i).toNat)
 case atStart=>exact⟨0,Ze _,rfl,by simp⟩
 case round=>
  obtain⟨k,hk,rfl,C⟩:=hrel;have E:=Za C;clear C;by_cases A:k<xs.length
  ·obtain⟨b,off,rfl,h1⟩:=F.o k A;by_cases B:aF xs k=x
   ·have hd:(aF xs k==x)=true:=by simp[B]
    have D:=Za B;clear B;go_wp2;go_ret;exact⟨aG (decide_eq_true (by rw[<-D.o];exact mS xs k A)).symm,aN.refl _⟩
   ·have hd:(aF xs k==x)=false:=by simp[B]
    have D:=Za B;clear B;go_wp2;go_round
    case rel=>exact⟨k+1,by omega,by go_num,by rw[fG xs k A,List.mem_append,List.mem_singleton];exact fun h=>h.elim E.o (fun h=>D.o h.symm)⟩
    case measure=>simp[intOf];omega
  ·obtain rfl:k=xs.length:=by omega
   have HN':=Za (show x ∉ xs by rw[<-List.take_length (l:=xs)];exact E.o);go_wp2;go_ret;exact⟨aG (decide_eq_false HN'.o).symm,aN.refl _⟩
theorem zX:∀(n:Nat) (l:List Int),l.length=n->(∀i:Nat,i<n->(i:Int)∈l)->(∀x∈l,gW n x=true)/\l.Nodup
 |0,l,hl,_=>by
  obtain rfl:=List.eq_nil_of_length_eq_zero hl;exact⟨fun x A=>(by cases A),List.nodup_nil⟩
 |n+1,l,hl,h=>by
  have hm:=h n (Nat.lt_succ_self n);have hp:=List.perm_cons_erase hm;have B:(l.erase (n:Int)).length=n:=by rw[List.length_erase_of_mem hm,hl];rfl
  obtain⟨h1,h2⟩:=zX n (l.erase (n:Int)) B fun i hi=>(List.mem_erase_of_ne (by omega)).2 (h i (by omega));refine⟨fun x A=>?_,?_⟩
  ·rcases List.mem_cons.1 (hp.mem_iff.1 A)with rfl|A
   ·simp[gW];omega
   ·have:=o8 (h1 x A);simp only[gW,Bool.and_eq_true,decide_eq_true_eq];omega
  ·rw[hp.nodup_iff,List.nodup_cons];exact⟨fun A=>by have:=o8 (h1 _ A);omega,h2⟩
theorem yM:∀(n:Nat) (l:List Int),l.length=n->(∀x∈l,gW n x=true)->l.Nodup->∀i:Nat,i<n->(i:Int)∈l
 |0,l,hl,_,_,i,hi=>absurd hi (Nat.not_lt_zero i)
 |n+1,l,hl,h,hn,i,hi=>by
  by_cases hm:(n:Int)∈l
  ·by_cases he:i=n
   ·subst he;exact hm
   ·have C:(l.erase (n:Int)).length=n:=by rw[List.length_erase_of_mem hm,hl];rfl
    refine List.mem_of_mem_erase (yM n (l.erase (n:Int)) C (fun x B=>?_) (hn.erase _) i (by omega));have h1:=o8 (h x (List.mem_of_mem_erase B));have h2:x≠n:=fun e=>(List.Nodup.mem_erase_iff hn).1 (e▸B) |>.1 rfl;simp only[gW,Bool.and_eq_true,decide_eq_true_eq];omega
  ·exfalso;have A:∀x∈l,gW n x=true:=fun x B=>by
    have h1:=o8 (h x B);have h2:x≠n:=fun e=>hm (e▸B);simp only[gW,Bool.and_eq_true,decide_eq_true_eq];omega
   cases l with
   |nil=>simp at hl
   |cons a r=>
    have hr:r.length=n:=by simpa using hl
    have:=yM n r hr (fun x B=>A x (List.mem_cons_of_mem _ B)) (List.nodup_cons.1 hn).2;have ha:=o8 (A a (List.mem_cons_self ..));have:=this a.toNat (by omega);rw[show((a.toNat:Nat):Int)=a by omega]at this;exact(List.nodup_cons.1 hn).1 this
theorem BE (l:List Int) (n:Nat):jP l n=true↔l.length=n/\∀i:Nat,i<n->(i:Int)∈l:=by
 simp only[jP,Bool.and_eq_true,decide_eq_true_eq,List.all_eq_true];constructor
 ·rintro⟨⟨h1,h2⟩,h3⟩;exact⟨h3,yM n l h3 h1 h2⟩
 ·rintro⟨h1,h2⟩;exact⟨zX n l h1 h2,h1⟩
theorem rJ (v:Value) (xs:List Int) (n:Nat) (w:World) (hr:Rd w .i64 v xs) (hl:xs.length<=140737488351232) (hn:n<=100000):
  Calls Tryz.prog 113 #[v,.int .i64 n] w fun e w'=>e=.returned (.bool (jP xs n))/\aN w w':=by
 obtain⟨o,cap,rfl⟩:=aU hr;have G:=Za hr;clear hr;by_cases hx:xs.length=n
 ·have hd:((xs.length:Int) != n)=false:=by simp[hx]
  have D:=Za hx;clear hx;go_enter Tryz.func113,Tryz.ntmps113;go_wp2;go_loopw[5] (fun i wr=>∃k:Nat,k<=n/\i=.int .i64 k/\(∀j:Nat,j<k->(j:Int)∈xs)/\aN w wr) (fun i _=>n-(intOf i).toNat)
  case atStart=>exact⟨0,Ze _,rfl,fun j hj=>absurd hj (Nat.not_lt_zero j),aN.refl _⟩
  case round=>
   obtain⟨k,hk,rfl,A,nq,rfl⟩:=hrel;have H:=Za A;clear A;by_cases E:k<n
   ·cases C:decide ((k:Int)∈xs)with
    |false=>
     have F:=Za (of_decide_eq_false C);have B:=Za C;clear C;go_wp2_with fail;refine(FJ _ xs k _ (G.o.same ⟨nq,rfl⟩) hl).mono ?_;rintro e w' ⟨rfl,nr,rfl⟩;rw[B.o];go_wp2;go_ret;refine⟨aG ?_,(by first|exact⟨_,rfl⟩|exact⟨_,World.drewN_drewN _ _ _⟩)⟩;rw[eq_comm,<-Bool.not_eq_true,BE];exact fun h=>F.o (h.2 k E)
    |true=>
     have F:=Za (of_decide_eq_true C);have B:=Za C;clear C;go_wp2_with fail;refine(FJ _ xs k _ (G.o.same ⟨nq,rfl⟩) hl).mono ?_;rintro e w' ⟨rfl,nr,rfl⟩;rw[B.o];go_wp2;go_roundw
     case rel=>exact⟨k+1,by omega,by go_num,fun j hj=>if h:j=k then h▸F.o else H.o j (by omega),(by first|exact⟨_,rfl⟩|exact⟨_,World.drewN_drewN _ _ _⟩)⟩
     case measure=>simp[intOf];omega
   ·obtain rfl:k=n:=by omega
    go_wp2;go_ret;exact⟨aG ((BE xs _).2 ⟨D.o,H.o⟩).symm,⟨nq,rfl⟩⟩
 ·have hd:((xs.length:Int) != n)=true:=by simp;omega
  have D:=Za hx;clear hx;go_enter Tryz.func113,Tryz.ntmps113;go_wp2;go_ret;exact⟨aG (by rw[jP,decide_eq_false D.o,Bool.and_false]),aN.refl _⟩
def dX (l:List Int) (at_ epoch:Int) (n:Nat):Bool:=decide (1<=n)&&(decide (n<=1024)&&(jP l n&&(decide (0<=at_)&&(decide (at_<=n)&&(decide (0<=epoch)&&decide (epoch<=1048576))))))
theorem TQ (v:Value) (xs:List Int) (at_ epoch:Int) (n:Nat) (w:World) (hr:Rd w .i64 v xs) (hl:xs.length<=140737488351232) (hn:n<=140737488351232):
  Calls Tryz.prog 85 #[.agg #[v,.int .i64 at_,.int .i64 epoch],.int .i64 n] w fun e w'=>e=.returned (.bool (dX xs at_ epoch n))/\Below w.heap.size w w':=by
 obtain⟨o,cap,rfl⟩:=aU hr;have E:=Za hr;clear hr;by_cases D:1<=n
 ·by_cases h2:n<=1024
  ·cases ho:jP xs n with
   |false=>
    have C:=Za ho;clear ho;go_enter Tryz.func85,Tryz.ntmps85;go_wp2_with(go_at_call 132;refine(rQ _ xs n _ (E.o.alloc _) hl (by omega)).mono ?_;rintro e w' ⟨rfl,B⟩;rw[C.o]);go_ret;exact⟨aG (by rw[dX,C.o];simp),((Zc w.heap.size w).alloc (Zb _) _).trans (B.mono (by simp))⟩
   |true=>
    have C:=Za ho;clear ho;by_cases h3:0<=at_
    ·by_cases h4:at_<=n
     ·by_cases h5:0<=epoch
      ·by_cases h6:epoch<=1048576
       all_goals
        go_enter Tryz.func85,Tryz.ntmps85;go_wp2_with(go_at_call 132;refine(rQ _ xs n _ (E.o.alloc _) hl (by omega)).mono ?_;rintro e w' ⟨rfl,B⟩;rw[C.o];have A:=(aA.new w 45 #[.slice o xs.length cap,.int .i64 at_,.int .i64 epoch]).next B;have c1:=A.cell 1 rfl;have c2:=A.cell 2 rfl;clear A);go_ret;exact⟨aG (by rw[dX,C.o];simp[D,h2,h3,h4,h5,h6]<;>(intros;omega)),((Zc w.heap.size w).alloc (Zb _) _).trans (B.mono (by simp))⟩
      ·go_enter Tryz.func85,Tryz.ntmps85;go_wp2_with(go_at_call 132;refine(rQ _ xs n _ (E.o.alloc _) hl (by omega)).mono ?_;rintro e w' ⟨rfl,B⟩;rw[C.o];have A:=(aA.new w 45 #[.slice o xs.length cap,.int .i64 at_,.int .i64 epoch]).next B;have c1:=A.cell 1 rfl;have c2:=A.cell 2 rfl;clear A);go_ret;exact⟨aG (by rw[dX,C.o];simp[D,h2,h3,h4,h5]<;>(intros;omega)),((Zc w.heap.size w).alloc (Zb _) _).trans (B.mono (by simp))⟩
     ·go_enter Tryz.func85,Tryz.ntmps85;go_wp2_with(go_at_call 132;refine(rQ _ xs n _ (E.o.alloc _) hl (by omega)).mono ?_;rintro e w' ⟨rfl,B⟩;rw[C.o];have A:=(aA.new w 45 #[.slice o xs.length cap,.int .i64 at_,.int .i64 epoch]).next B;have c1:=A.cell 1 rfl;have c2:=A.cell 2 rfl;clear A);go_ret;exact⟨aG (by rw[dX,C.o];simp[D,h2,h3,h4]<;>(intros;omega)),((Zc w.heap.size w).alloc (Zb _) _).trans (B.mono (by simp))⟩
    ·go_enter Tryz.func85,Tryz.ntmps85;go_wp2_with(go_at_call 132;refine(rQ _ xs n _ (E.o.alloc _) hl (by omega)).mono ?_;rintro e w' ⟨rfl,B⟩;rw[C.o];have A:=(aA.new w 45 #[.slice o xs.length cap,.int .i64 at_,.int .i64 epoch]).next B;have c1:=A.cell 1 rfl;have c2:=A.cell 2 rfl;clear A);go_ret;exact⟨aG (by rw[dX,C.o];simp[D,h2,h3]<;>(intros;omega)),((Zc w.heap.size w).alloc (Zb _) _).trans (B.mono (by simp))⟩
  ·go_enter Tryz.func85,Tryz.ntmps85;go_wp2;go_ret;exact⟨aG (by rw[dX];simp[D,h2]),(Zc _ _).alloc (Zb _) _⟩
 ·go_enter Tryz.func85,Tryz.ntmps85;go_wp2;go_ret;exact⟨aG (by rw[dX];simp[D]),(Zc _ _).alloc (Zb _) _⟩
theorem SL (v:Value) (xs:List Int) (at_ epoch:Int) (n:Nat) (w:World) (hr:Rd w .i64 v xs) (hl:xs.length<=140737488351232) (hn:n<=140737488351232):
  Calls Tryz.prog 61 #[.agg #[v,.int .i64 at_,.int .i64 epoch],.int .i64 n] w fun e w'=>e=.returned (.bool (dX xs at_ epoch n))/\Below w.heap.size w w':=by
 obtain⟨o,cap,rfl⟩:=aU hr;have E:=Za hr;clear hr;by_cases D:1<=n
 ·by_cases h2:n<=1024
  ·cases ho:jP xs n with
   |false=>
    have C:=Za ho;clear ho;go_enter Tryz.func61,Tryz.ntmps61;go_wp2_with(go_at_call 113;refine(rJ _ xs n _ (E.o.alloc _) hl (by omega)).mono ?_;rintro e w' ⟨rfl,B⟩;rw[C.o]);go_ret;exact⟨aG (by rw[dX,C.o];simp),((Zc w.heap.size w).alloc (Zb _) _).trans (B.below _)⟩
   |true=>
    have C:=Za ho;clear ho;by_cases h3:0<=at_
    ·by_cases h4:at_<=n
     ·by_cases h5:0<=epoch
      ·by_cases h6:epoch<=1048576
       all_goals
        go_enter Tryz.func61,Tryz.ntmps61;go_wp2_with(go_at_call 113;refine(rJ _ xs n _ (E.o.alloc _) hl (by omega)).mono ?_;rintro e w' ⟨rfl,B⟩;rw[C.o];have A:=(aA.new w 45 #[.slice o xs.length cap,.int .i64 at_,.int .i64 epoch]).same B;have c1:=A.cell 1 rfl;have c2:=A.cell 2 rfl;clear A);go_ret;exact⟨aG (by rw[dX,C.o];simp[D,h2,h3,h4,h5,h6]<;>(intros;omega)),((Zc w.heap.size w).alloc (Zb _) _).trans (B.below _)⟩
      ·go_enter Tryz.func61,Tryz.ntmps61;go_wp2_with(go_at_call 113;refine(rJ _ xs n _ (E.o.alloc _) hl (by omega)).mono ?_;rintro e w' ⟨rfl,B⟩;rw[C.o];have A:=(aA.new w 45 #[.slice o xs.length cap,.int .i64 at_,.int .i64 epoch]).same B;have c1:=A.cell 1 rfl;have c2:=A.cell 2 rfl;clear A);go_ret;exact⟨aG (by rw[dX,C.o];simp[D,h2,h3,h4,h5]<;>(intros;omega)),((Zc w.heap.size w).alloc (Zb _) _).trans (B.below _)⟩
     ·go_enter Tryz.func61,Tryz.ntmps61;go_wp2_with(go_at_call 113;refine(rJ _ xs n _ (E.o.alloc _) hl (by omega)).mono ?_;rintro e w' ⟨rfl,B⟩;rw[C.o];have A:=(aA.new w 45 #[.slice o xs.length cap,.int .i64 at_,.int .i64 epoch]).same B;have c1:=A.cell 1 rfl;have c2:=A.cell 2 rfl;clear A);go_ret;exact⟨aG (by rw[dX,C.o];simp[D,h2,h3,h4]<;>(intros;omega)),((Zc w.heap.size w).alloc (Zb _) _).trans (B.below _)⟩
    ·go_enter Tryz.func61,Tryz.ntmps61;go_wp2_with(go_at_call 113;refine(rJ _ xs n _ (E.o.alloc _) hl (by omega)).mono ?_;rintro e w' ⟨rfl,B⟩;rw[C.o];have A:=(aA.new w 45 #[.slice o xs.length cap,.int .i64 at_,.int .i64 epoch]).same B;have c1:=A.cell 1 rfl;have c2:=A.cell 2 rfl;clear A);go_ret;exact⟨aG (by rw[dX,C.o];simp[D,h2,h3]<;>(intros;omega)),((Zc w.heap.size w).alloc (Zb _) _).trans (B.below _)⟩
  ·go_enter Tryz.func61,Tryz.ntmps61;go_wp2;go_ret;exact⟨aG (by rw[dX];simp[D,h2]),(Zc _ _).alloc (Zb _) _⟩
 ·go_enter Tryz.func61,Tryz.ntmps61;go_wp2;go_ret;exact⟨aG (by rw[dX];simp[D]),(Zc _ _).alloc (Zb _) _⟩
def oW (n:aE) (vb:Value):Array Value:=#[.int .i64 n.kind,.int .i64 n.inn,.int .i64 n.o,.int .i64 n.size,.int .i64 n.stride,.int .i64 n.pad,.int .i64 n.percent,.int .i64 n.heads,vb]
structure fI (g n₀:Nat) (vps:Value) (first:Bool) (qs:List PD) (vs:Value) (s:List Int) (w:World):Prop where
 wk:aA w g 156 (iC vps first 0)
 row:aY w n₀ g vps qs
 sh:aM n₀ w vs s
 hn:n₀<=g
 hq:qs.length<=10000
 fit:dQ s=true
theorem jB {s:List Int} (h:dQ s=true):s.length<=3/\s.all cC=true/\bG s<=65536:=by
 rw[dQ,bA,Bool.and_eq_true,Bool.and_eq_true,decide_eq_true_eq,decide_eq_true_eq,List.length_cons,List.all_cons,Bool.and_eq_true]at h;refine⟨by omega,h.1.2.2,?_⟩;have:=h.2
 simpa [bG]using this
structure eK (g n₀ lb:Nat) (n:aE) (vb vps:Value) (bad:Int) (qs:List PD) (vs:Value) (s:List Int) (w W:World):Prop where
 st:cF g w W
 wk:aA W g 156 (iC vps false bad)
 lay:aA W lb 175 (oW n vb)
 row:aY W n₀ g vps qs
 sh:aM n₀ W vs s
 hn:n₀<=g
 hlb:g<lb
theorem eK.next {g n₀ lb:Nat} {n:aE} {vb vps:Value} {bad:Int} {qs:List PD} {vs:Value} {s:List Int} {w W W':World} (h:eK g n₀ lb n vb vps bad qs vs s w W) (hb:Below W.heap.size W W'):eK g n₀ lb n vb vps bad qs vs s w W':=
 ⟨h.st.trans (cF.below hb (Nat.le_of_lt h.wk.lt)),h.wk.next hb,h.lay.next hb,h.row.below hb,h.sh.below hb,h.hn,h.hlb⟩
theorem eK.par {g n₀ lb:Nat} {n:aE} {vb vps vps':Value} {bad bad':Int} {qs qs':List PD} {vs:Value} {s:List Int} {w W W':World} (h:eK g n₀ lb n vb vps bad qs vs s w W) (hs:cF g W W') (hb:aA W' g 156 (iC vps' false bad')) (hr:aY W' n₀ g vps' qs'):eK g n₀ lb n vb vps' bad' qs' vs s w W':=
 ⟨h.st.trans hs,hb,h.lay.keepR hs (by decide) (by decide),hr,h.sh.keepR hs h.hn,h.hn,h.hlb⟩
theorem eK.bad {g n₀ lb:Nat} {n:aE} {vb vps:Value} {bad:Int} {qs:List PD} {vs:Value} {s:List Int} {w W:World} (h:eK g n₀ lb n vb vps bad qs vs s w W) (b:Int):eK g n₀ lb n vb vps b qs vs s w (W.setCell ⟨g,2,none⟩ (.int .i64 b)):=
 h.par (cF.set h.wk 2 _) (h.wk.set 2 _) (h.row.setR h.wk 2 _ h.hn)
theorem fI.start {g n₀:Nat} {vps:Value} {first:Bool} {qs:List PD} {vs:Value} {s:List Int} {w W0 W1:World} (h:fI g n₀ vps first qs vs s w) (n:aE) (vb:Value) (h0:W0=w.alloc (.cells (oW n vb) 175)) (h1:W1=W0.setCell ⟨g,1,none⟩ (.bool false)):
  (W0.cell? ⟨g,1,none⟩=some (.bool first)/\W0.frozen? ⟨g,1,none⟩=false)/\eK g n₀ w.heap.size n vb vps 0 qs vs s w W1:=by
 have hb:Below w.heap.size w W0:=by rw[h0];exact(Zc _ _).alloc (Zb _) _
 have hw:=h.wk.next hb;have hl:aA W0 w.heap.size 175 (oW n vb):=by rw[h0];exact aA.new _ _ _
 have hs:=cF.set hw 1 (.bool false);refine⟨⟨hw.cell 1 rfl,hw.free 1⟩,?_⟩;rw[h1];exact⟨(cF.below hb (Nat.le_of_lt h.wk.lt)).trans hs,hw.set 1 _,hl.keepR hs (by decide) (by decide),(h.row.below hb).setR hw 1 _ h.hn,(h.sh.below hb).keepR hs h.hn,h.hn,h.wk.lt⟩
def bP (g n₀:Nat) (qs:List PD) (res:Option (List Int×List (List Int))) (w:World) (e:Ending) (w':World):Prop:=
 cF g w w'/\∃o m c vps' qs' bad',e=.returned (.slice o m c)/\aA w' g 156 (iC vps' false bad')/\aY w' n₀ g vps' qs'/\qs'.length<=qs.length+4/\(res=none->bad'≠0)/\
  ∀p,res=some p->(bad'=0↔p.2.all bA=true)/\(bad'=0->aM n₀ w' (.slice o m c) p.1/\qs'.map (·.sh)=qs.map (·.sh)++p.2)
theorem bP.no {g n₀ lb:Nat} {n:aE} {vb vps:Value} {bad:Int} {qs qs':List PD} {vs:Value} {s:List Int} {res:Option (List Int×List (List Int))} {w W:World} (h:eK g n₀ lb n vb vps bad qs' vs s w W) (hb:bad≠0) (hr:res=none) (hq:qs'.length<=qs.length+4) (o:Option Addr) (m c:Nat):bP g n₀ qs res w (.returned (.slice o m c)) W:=
 ⟨h.st,o,m,c,vps,qs',bad,rfl,h.wk,h.row,hq,fun _=>hb,fun p hp=>by rw[hr]at hp;cases hp⟩
theorem bP.yes {g n₀ lb:Nat} {n:aE} {vb vps:Value} {bad:Int} {qs qs':List PD} {vs:Value} {s out:List Int} {ps:List (List Int)} {res:Option (List Int×List (List Int))} {w W:World} {o:Option Addr} {m c:Nat} (h:eK g n₀ lb n vb vps bad qs' vs s w W) (hr:res=some (out,ps)) (hb:bad=0↔ps.all bA=true) (hq:qs'.map (·.sh)=qs.map (·.sh)++ps) (hp:ps.length<=4) (ho:aM n₀ W (.slice o m c) out):bP g n₀ qs res w (.returned (.slice o m c)) W:=
 ⟨h.st,o,m,c,vps,qs',bad,rfl,h.wk,h.row,by have:=congrArg List.length hq;simp at this;omega,fun hn=>(by rw[hr]at hn;cases hn),fun p hp=>by
  rw[hr]at hp;cases hp;exact⟨hb,fun _=>⟨ho,hq⟩⟩⟩
theorem lQ (g n₀:Nat) (vps:Value) (first:Bool) (bad:Int) (nm:ByteArray) (qs:List PD) (fi fo:Int) (o:Option Addr) (m cap:Nat) (sh:List Int) (w:World)
  (hb:aA w g 156 (iC vps first bad)) (A:aY w n₀ g vps qs) (hq:qs.length<=100000) (hn:n₀<=g) (hm:m=sh.length) (B:aM n₀ w (.slice o m cap) sh) (C:sh.length<=100000):
  Calls Tryz.prog 164 #[.pointer (some ⟨g,0,none⟩),.string nm,.slice o m cap,.int .i64 fi,.int .i64 fo] w (BG g n₀ first bad qs sh w):=by subst hm;exact VN g n₀ vps first bad nm qs fi fo o cap sh w hb A hq hn B C
theorem fC {W:World} (n:Nat):Below W.heap.size W (W.drewN n):=(show aN W (W.drewN n)from⟨_,rfl⟩).below _
theorem qL (sh:List Int):kB sh 0=0↔bA sh=true:=by rw[kB];cases bA sh<;>simp
theorem qY (sh:List Int) (b:Int):kB sh b=0↔b=0/\bA sh=true:=by
 rw[kB];by_cases hb:b=0
 ·subst hb;cases bA sh<;>simp
 ·rw[if_neg (fun h=>hb h.2)];simp[hb]
theorem G3 (g n₀:Nat) (n1 n2 n3 n4 n5 n6 n7:Int) (ob:Option Addr) (nb cb:Nat) (vps:Value) (first:Bool) (nm:ByteArray) (qs:List PD) (o:Option Addr) (m cap:Nat) (s:List Int) (w:World)
  (h:fI g n₀ vps first qs (.slice o m cap) s w) (hm:m=s.length) (al:nm.size<=1000000):
  Calls Tryz.prog 135 #[.pointer (some ⟨g,0,none⟩),.agg #[.int .i64 1,.int .i64 n1,.int .i64 n2,.int .i64 n3,.int .i64 n4,.int .i64 n5,.int .i64 n6,.int .i64 n7,.slice ob nb cb],.slice o m cap,.string nm] w (bP g n₀ qs (aK ⟨1,n1,n2,n3,n4,n5,n6,n7⟩ first s) w):=by
 obtain⟨W0,Z⟩:=Zx (w.alloc (.cells #[.int .i64 1,.int .i64 n1,.int .i64 n2,.int .i64 n3,.int .i64 n4,.int .i64 n5,.int .i64 n6,.int .i64 n7,.slice ob nb cb] 175));obtain⟨W1,ab⟩:=Zx (W0.setCell ⟨g,1,none⟩ (.bool false));have aa:=h.start ⟨1,n1,n2,n3,n4,n5,n6,n7⟩ (.slice ob nb cb) Z ab;have I:=Za aa.2;have x1:=aa.1.1;have f1:=aa.1.2;have HW:=Za (Zd Z ab);obtain⟨G,af,ag⟩:=jB h.fit;have ao:m<=3:=by omega
 have ap:=Za (Zd af ag);have ak:=Za h.fit;have HQ:=Za h.hq;have A:=Za hm;have hl2':¬9223372036854775807<nm.size+2:=by omega
 rw[Z]at x1 f1;clear h aa Z ab af ag G hm;obtain⟨a0,a1,a2,a3,a4,a5,a6,a7,a8⟩:=I.o.lay.r9;have x2:=I.o.wk.q 2 rfl;have f2:=I.o.wk.free 2;go_enter Tryz.func135,Tryz.ntmps135;go_upto_region 4 with(fail);rw[<-HW.o.1,<-HW.o.2];clear x1 f1;have aj:m=0\/m=1\/m=2\/m=3:=by omega
 rcases aj with rfl|rfl|rfl|rfl
 ·have HN:=Za (show aK ⟨1,n1,n2,n3,n4,n5,n6,n7⟩ first s=none by rw[aK,if_pos rfl,if_neg (by have:=A.o;omega)]);go_wp2_with fail;go_quiet(fail);go_wp2_with fail;go_ret;exact bP.no ((I.o.next (fC _)).bad 2) (by decide) HN.o (by omega) none 0 0
 ·obtain⟨b,off,rfl,hc⟩:=I.o.sh.1.cell 0 (by rw[<-A.o];omega);obtain⟨x,hx⟩:=Zx (aF s 0);rw[<-hx]at hc;rw[Nat.add_zero]at hc;have HX:=Za hx;clear hx;by_cases D:x=n1
  ·subst D;have HY:=Za (show aK ⟨1,x,n2,n3,n4,n5,n6,n7⟩ first s=some (s.take (0)++[n2],[[x,n2],[n2]]) by rw[aK,if_pos rfl,if_pos ⟨by have:=A.o;omega,by have:=A.o;omega,by rw[<-A.o];exact HX.o.symm⟩,<-A.o]);go_wp2_with fail;go_quiet(fail);obtain⟨V,hV⟩:=Zx (W1.drewN nq);have F:=Za (show eK g n₀ w.heap.size ⟨1,x,n2,n3,n4,n5,n6,n7⟩ (.slice ob nb cb) vps 0 qs (.slice (some ⟨b,off,none⟩) 1 cap) s w V by rw[hV];exact I.o.next (fC _));rw[<-hV];clear hV hc x2 f2 a0 a1 a2 a3 a4 a5 a6 a7 a8 I;have a1:=F.o.lay.q 1 rfl;have a2:=F.o.lay.q 2 rfl;have A1:∀o,(V.alloc o).cell? ⟨w.heap.size,1,none⟩=some (.int .i64 x):=F.o.lay.cellA 1 rfl;have A2:∀o,(V.alloc o).cell? ⟨w.heap.size,2,none⟩=some (.int .i64 n2):=F.o.lay.cellA 2 rfl;go_wp2_with(go_at_call 164;refine(lQ g n₀ vps false 0 _ qs _ _ _ 2 2 [x,n2] _ (F.o.next ((Zc _ _).alloc (Zb _) _)).wk (F.o.next ((Zc _ _).alloc (Zb _) _)).row (by have:=HQ.o;simp;omega) F.o.hn rfl (aM.of_own (iE V _ _)) (by simp)).mono ?_;rintro e w3 ⟨rfl,⟨vps3,q3,J,L,M⟩,G⟩;have B:=Za ((F.o.next ((Zc _ _).alloc (Zb _) _)).par G J L);have ac:=Za M;clear G J L M;refine aD ?_);refine aC ?_;clear a1 a2 A1 A2;have a2:=B.o.lay.q 2 rfl;go_wp2_with(go_at_call 164;refine(lQ g n₀ vps3 false (kB [x,n2] 0) _ (qs++[q3]) _ _ _ 1 1 [n2] _ (B.o.next ((Zc _ _).alloc (Zb _) _)).wk (B.o.next ((Zc _ _).alloc (Zb _) _)).row (by have:=HQ.o;simp;omega) B.o.hn rfl (aM.of_own (fV w3 _)) (by simp)).mono ?_;rintro e w4 ⟨rfl,⟨vps4,q4,N,O,P⟩,R⟩;have H:=Za ((B.o.next ((Zc _ _).alloc (Zb _) _)).par R N O);have ad:=Za P;clear R N O P;refine aD ?_);refine aC ?_;clear a2;go_wp2_with(go_at_call 92;refine(jH _ s _ H.o.sh.1 (by rw[<-A.o];omega)).mono ?_;rintro e w5 ⟨v5,rfl,C,T⟩;refine aD ?_);have E:=Za (show aH w5 w4.heap.size 3 .i64 v5 s from C);obtain⟨g5,c5,rfl,U,ah⟩:=E.o.at (by rw[<-A.o];omega);rw[<-A.o]at E;have X:=Za T;clear C T;rw[<-A.o];obtain⟨d5,e5⟩:=E.o.cell 0 (by rw[<-A.o];omega);have a2:w5.cell? ⟨w.heap.size,2,none⟩=some (.int .i64 n2):=(H.o.next X.o).lay.cell 2 rfl;refine aC ?_;go_wp2_with fail;go_ret;have Y:=E.o.set 0 n2;have ae:=X.o.setCell (p:=⟨g5,0,none⟩) U (.int .i64 n2);refine bP.yes (H.o.next ae) HY.o ?_ ?_ (by simp) ?_
   ·rw[qY,qL];simp
   ·simp[ac.o,ad.o]
   ·have e:s.set 0 n2=s.take 0++[n2]:=by obtain⟨a,rfl⟩:=list1 A.o.symm;rfl
    rw[e]at Y;exact aM.of_own Y
  ·have HN:=Za (show aK ⟨1,n1,n2,n3,n4,n5,n6,n7⟩ first s=none by rw[aK,if_pos rfl,if_neg (fun h=>D (by rw[HX.o];have:=h.2.2;rw[<-A.o]at this;exact this))]);have hxn':(x==n1)=false:=by simpa using D
   have ai:(x != n1)=true:=by simpa using D
   go_wp2_with fail;go_quiet(fail);go_wp2_with fail;go_ret;exact bP.no ((I.o.next (fC _)).bad 2) (by decide) HN.o (by omega) none 0 0
 ·obtain⟨b,off,rfl,hc⟩:=I.o.sh.1.cell 1 (by rw[<-A.o];omega);obtain⟨x,hx⟩:=Zx (aF s 1);rw[<-hx]at hc;have HX:=Za hx;clear hx;by_cases D:x=n1
  ·subst D;have HY:=Za (show aK ⟨1,x,n2,n3,n4,n5,n6,n7⟩ first s=some (s.take (1)++[n2],[[x,n2],[n2]]) by rw[aK,if_pos rfl,if_pos ⟨by have:=A.o;omega,by have:=A.o;omega,by rw[<-A.o];exact HX.o.symm⟩,<-A.o]);go_wp2_with fail;go_quiet(fail);obtain⟨V,hV⟩:=Zx (W1.drewN nq);have F:=Za (show eK g n₀ w.heap.size ⟨1,x,n2,n3,n4,n5,n6,n7⟩ (.slice ob nb cb) vps 0 qs (.slice (some ⟨b,off,none⟩) 2 cap) s w V by rw[hV];exact I.o.next (fC _));rw[<-hV];clear hV hc x2 f2 a0 a1 a2 a3 a4 a5 a6 a7 a8 I;have a1:=F.o.lay.q 1 rfl;have a2:=F.o.lay.q 2 rfl;have A1:∀o,(V.alloc o).cell? ⟨w.heap.size,1,none⟩=some (.int .i64 x):=F.o.lay.cellA 1 rfl;have A2:∀o,(V.alloc o).cell? ⟨w.heap.size,2,none⟩=some (.int .i64 n2):=F.o.lay.cellA 2 rfl;go_wp2_with(go_at_call 164;refine(lQ g n₀ vps false 0 _ qs _ _ _ 2 2 [x,n2] _ (F.o.next ((Zc _ _).alloc (Zb _) _)).wk (F.o.next ((Zc _ _).alloc (Zb _) _)).row (by have:=HQ.o;simp;omega) F.o.hn rfl (aM.of_own (iE V _ _)) (by simp)).mono ?_;rintro e w3 ⟨rfl,⟨vps3,q3,J,L,M⟩,G⟩;have B:=Za ((F.o.next ((Zc _ _).alloc (Zb _) _)).par G J L);have ac:=Za M;clear G J L M;refine aD ?_);refine aC ?_;clear a1 a2 A1 A2;have a2:=B.o.lay.q 2 rfl;go_wp2_with(go_at_call 164;refine(lQ g n₀ vps3 false (kB [x,n2] 0) _ (qs++[q3]) _ _ _ 1 1 [n2] _ (B.o.next ((Zc _ _).alloc (Zb _) _)).wk (B.o.next ((Zc _ _).alloc (Zb _) _)).row (by have:=HQ.o;simp;omega) B.o.hn rfl (aM.of_own (fV w3 _)) (by simp)).mono ?_;rintro e w4 ⟨rfl,⟨vps4,q4,N,O,P⟩,R⟩;have H:=Za ((B.o.next ((Zc _ _).alloc (Zb _) _)).par R N O);have ad:=Za P;clear R N O P;refine aD ?_);refine aC ?_;clear a2;go_wp2_with(go_at_call 92;refine(jH _ s _ H.o.sh.1 (by rw[<-A.o];omega)).mono ?_;rintro e w5 ⟨v5,rfl,C,T⟩;refine aD ?_);have E:=Za (show aH w5 w4.heap.size 3 .i64 v5 s from C);obtain⟨g5,c5,rfl,U,ah⟩:=E.o.at (by rw[<-A.o];omega);rw[<-A.o]at E;have X:=Za T;clear C T;rw[<-A.o];obtain⟨d5,e5⟩:=E.o.cell 1 (by rw[<-A.o];omega);have a2:w5.cell? ⟨w.heap.size,2,none⟩=some (.int .i64 n2):=(H.o.next X.o).lay.cell 2 rfl;refine aC ?_;go_wp2_with fail;go_ret;have Y:=E.o.set 1 n2;have ae:=X.o.setCell (p:=⟨g5,1,none⟩) U (.int .i64 n2);refine bP.yes (H.o.next ae) HY.o ?_ ?_ (by simp) ?_
   ·rw[qY,qL];simp
   ·simp[ac.o,ad.o]
   ·have e:s.set 1 n2=s.take 1++[n2]:=by obtain⟨a,b,rfl⟩:=qG A.o.symm;rfl
    rw[e]at Y;exact aM.of_own Y
  ·have HN:=Za (show aK ⟨1,n1,n2,n3,n4,n5,n6,n7⟩ first s=none by rw[aK,if_pos rfl,if_neg (fun h=>D (by rw[HX.o];have:=h.2.2;rw[<-A.o]at this;exact this))]);have hxn':(x==n1)=false:=by simpa using D
   have ai:(x != n1)=true:=by simpa using D
   go_wp2_with fail;go_quiet(fail);go_wp2_with fail;go_ret;exact bP.no ((I.o.next (fC _)).bad 2) (by decide) HN.o (by omega) none 0 0
 ·have HN:=Za (show aK ⟨1,n1,n2,n3,n4,n5,n6,n7⟩ first s=none by rw[aK,if_pos rfl,if_neg (by have:=A.o;omega)]);go_wp2_with fail;go_quiet(fail);go_wp2_with fail;go_ret;exact bP.no ((I.o.next (fC _)).bad 2) (by decide) HN.o (by omega) none 0 0
theorem KP (g n₀:Nat) (n1 n2 n3 n4 n5 n6 n7:Int) (ob:Option Addr) (nb cb:Nat) (vps:Value) (first:Bool) (nm:ByteArray) (qs:List PD) (o:Option Addr) (m cap:Nat) (s:List Int) (w:World)
  (h:fI g n₀ vps first qs (.slice o m cap) s w) (hm:m=s.length) (M:nm.size<=1000000):
  Calls Tryz.prog 135 #[.pointer (some ⟨g,0,none⟩),.agg #[.int .i64 10,.int .i64 n1,.int .i64 n2,.int .i64 n3,.int .i64 n4,.int .i64 n5,.int .i64 n6,.int .i64 n7,.slice ob nb cb],.slice o m cap,.string nm] w (bP g n₀ qs (aK ⟨10,n1,n2,n3,n4,n5,n6,n7⟩ first s) w):=by
 obtain⟨W0,A⟩:=Zx (w.alloc (.cells #[.int .i64 10,.int .i64 n1,.int .i64 n2,.int .i64 n3,.int .i64 n4,.int .i64 n5,.int .i64 n6,.int .i64 n7,.slice ob nb cb] 175));obtain⟨W1,D⟩:=Zx (W0.setCell ⟨g,1,none⟩ (.bool false));have B:=h.start ⟨10,n1,n2,n3,n4,n5,n6,n7⟩ (.slice ob nb cb) A D;have E:=Za B.2;have x1:=B.1.1;have f1:=B.1.2;have J:=Za (Zd A D);obtain⟨C,F,G⟩:=jB h.fit;have N:m<=3:=by omega
 have H:=Za (Zd F G);have L:=Za h.fit;have T:=Za h.hq;have O:=Za hm;have hl2':¬9223372036854775807<nm.size+2:=by omega
 rw[A]at x1 f1;clear h B A D F G C hm;obtain⟨a0,a1,a2,a3,a4,a5,a6,a7,a8⟩:=E.o.lay.r9;have x2:=E.o.wk.q 2 rfl;have f2:=E.o.wk.free 2;go_enter Tryz.func135,Tryz.ntmps135;go_upto_region 4 with(fail);rw[<-J.o.1,<-J.o.2];clear x1 f1;have P:=Za (show aK ⟨10,n1,n2,n3,n4,n5,n6,n7⟩ first s=some ([bG s],[]) by rw[aK,if_neg (show ¬((10:Int)=1) by decide),if_neg (show ¬((10:Int)=2) by decide),if_neg (show ¬((10:Int)=8\/(10:Int)=9) by decide),if_pos rfl]);have R:=Za (show lH s=bG s by rw[lH,if_pos H.o.2]);go_wp2_with(go_at_call 93;refine(sN _ s _ E.o.sh.1 H.o.1 (by rw[<-O.o];omega)).mono ?_;rintro e w3 ⟨rfl,C⟩;rw[R.o];have I:=Za (show Below W1.heap.size W1 w3 from C.below _);clear C);go_ret;refine bP.yes ((E.o.next I.o).next ((Zc _ _).alloc (Zb _) _)) P.o (by simp) (by simp) (by simp) ?_;exact aM.of_own (fV w3 _)
theorem GA (g n₀:Nat) (n1 n2 n3 n4 n5 n6 n7:Int) (ob:Option Addr) (nb cb:Nat) (vps:Value) (first:Bool) (nm:ByteArray) (qs:List PD) (o:Option Addr) (m cap:Nat) (s:List Int) (w:World) (k:Int) (hk:k≠1/\k≠2/\k≠8/\k≠9/\k≠10/\k≠11/\k≠12/\k≠13)
  (h:fI g n₀ vps first qs (.slice o m cap) s w) (hm:m=s.length) (O:nm.size<=1000000):
  Calls Tryz.prog 135 #[.pointer (some ⟨g,0,none⟩),.agg #[.int .i64 k,.int .i64 n1,.int .i64 n2,.int .i64 n3,.int .i64 n4,.int .i64 n5,.int .i64 n6,.int .i64 n7,.slice ob nb cb],.slice o m cap,.string nm] w (bP g n₀ qs (aK ⟨k,n1,n2,n3,n4,n5,n6,n7⟩ first s) w):=by
 obtain⟨W0,B⟩:=Zx (w.alloc (.cells #[.int .i64 k,.int .i64 n1,.int .i64 n2,.int .i64 n3,.int .i64 n4,.int .i64 n5,.int .i64 n6,.int .i64 n7,.slice ob nb cb] 175));obtain⟨W1,D⟩:=Zx (W0.setCell ⟨g,1,none⟩ (.bool false));have C:=h.start ⟨k,n1,n2,n3,n4,n5,n6,n7⟩ (.slice ob nb cb) B D;have E:=Za C.2;have x1:=C.1.1;have f1:=C.1.2;have M:=Za (Zd B D);obtain⟨I,F,G⟩:=jB h.fit;have P:m<=3:=by omega
 have R:=Za (Zd F G);have N:=Za h.fit;have V:=Za h.hq;have T:=Za hm;have hl2':¬9223372036854775807<nm.size+2:=by omega
 rw[B]at x1 f1;clear h C B D F G I hm;obtain⟨a0,a1,a2,a3,a4,a5,a6,a7,a8⟩:=E.o.lay.r9;have x2:=E.o.wk.q 2 rfl;have f2:=E.o.wk.free 2;go_enter Tryz.func135,Tryz.ntmps135;go_upto_region 4 with(fail);rw[<-M.o.1,<-M.o.2];clear x1 f1;obtain⟨k1,k2,k8,k9,k10,k11,k12,k13⟩:=hk;have U:=Za (show aK ⟨k,n1,n2,n3,n4,n5,n6,n7⟩ first s=some (s,[]) by rw[aK,if_neg k1,if_neg k2,if_neg (by rintro(h|h);exact k8 h;exact k9 h),if_neg k10,if_neg k11,if_neg k12]);go_wp2_with(go_at_call 92;refine(jH _ s _ E.o.sh.1 (by rw[<-T.o];omega)).mono ?_;rintro e w5 ⟨v5,rfl,A,H⟩;have J:=Za (show aH w5 W1.heap.size 3 .i64 v5 s from A);obtain⟨o5,c5,rfl⟩:=aJ A;have L:=Za H;clear A H);go_ret;exact bP.yes (E.o.next L.o) U.o (by simp) (by simp) (by simp) (aM.of_own J.o)
theorem GX (g n₀:Nat) (n1 n2 n3 n4 n5 n6 n7:Int) (ob:Option Addr) (nb cb:Nat) (vps:Value) (first:Bool) (nm:ByteArray) (qs:List PD) (o:Option Addr) (m cap:Nat) (s:List Int) (w:World)
  (h:fI g n₀ vps first qs (.slice o m cap) s w) (hm:m=s.length) (V:nm.size<=1000000):
  Calls Tryz.prog 135 #[.pointer (some ⟨g,0,none⟩),.agg #[.int .i64 11,.int .i64 n1,.int .i64 n2,.int .i64 n3,.int .i64 n4,.int .i64 n5,.int .i64 n6,.int .i64 n7,.slice ob nb cb],.slice o m cap,.string nm] w (bP g n₀ qs (aK ⟨11,n1,n2,n3,n4,n5,n6,n7⟩ first s) w):=by
 obtain⟨W0,B⟩:=Zx (w.alloc (.cells #[.int .i64 11,.int .i64 n1,.int .i64 n2,.int .i64 n3,.int .i64 n4,.int .i64 n5,.int .i64 n6,.int .i64 n7,.slice ob nb cb] 175));obtain⟨W1,E⟩:=Zx (W0.setCell ⟨g,1,none⟩ (.bool false));have C:=h.start ⟨11,n1,n2,n3,n4,n5,n6,n7⟩ (.slice ob nb cb) B E;have A:=Za C.2;have x1:=C.1.1;have f1:=C.1.2;have T:=Za (Zd B E);obtain⟨D,G,H⟩:=jB h.fit;have X:m<=3:=by omega
 have Y:=Za (Zd G H);have U:=Za h.fit;have Z:=Za h.hq;have N:=Za hm;have hl2':¬9223372036854775807<nm.size+2:=by omega
 rw[B]at x1 f1;clear h C B E G H D hm;obtain⟨a0,a1,a2,a3,a4,a5,a6,a7,a8⟩:=A.o.lay.r9;have x2:=A.o.wk.q 2 rfl;have f2:=A.o.wk.free 2;go_enter Tryz.func135,Tryz.ntmps135;go_upto_region 4 with(fail);rw[<-T.o.1,<-T.o.2];clear x1 f1;cases first with
 |false=>
  have O:=Za (show aK ⟨11,n1,n2,n3,n4,n5,n6,n7⟩ false s=none by rw[aK,if_neg (show ¬((11:Int)=1) by decide),if_neg (show ¬((11:Int)=2) by decide),if_neg (show ¬((11:Int)=8\/(11:Int)=9) by decide),if_neg (show ¬((11:Int)=10) by decide),if_pos rfl,if_neg (fun h=>Bool.noConfusion h.1)]);go_wp2_with fail;go_ret;exact bP.no (A.o.bad 2) (by decide) O.o (by omega) none 0 0
 |true=>
  by_cases I:m=1
  ·subst I;obtain⟨b,off,rfl,hc⟩:=A.o.sh.1.cell 0 (by rw[<-N.o];omega);rw[Nat.add_zero]at hc;obtain⟨x,hx⟩:=Zx (aF s 0);rw[<-hx]at hc;have HY:=Za (show aK ⟨11,n1,n2,n3,n4,n5,n6,n7⟩ true s=some ([x,n2],[[n1,n2]]) by rw[aK,if_neg (show ¬((11:Int)=1) by decide),if_neg (show ¬((11:Int)=2) by decide),if_neg (show ¬((11:Int)=8\/(11:Int)=9) by decide),if_neg (show ¬((11:Int)=10) by decide),if_pos rfl,if_pos ⟨rfl,N.o.symm⟩,hx]);have HX:=Za hx;clear hx hc a3 a4 a5 a6 a7 a8;have A1:∀o,(W1.alloc o).cell? ⟨w.heap.size,1,none⟩=some (.int .i64 n1):=A.o.lay.cellA 1 rfl;have A2:∀o,(W1.alloc o).cell? ⟨w.heap.size,2,none⟩=some (.int .i64 n2):=A.o.lay.cellA 2 rfl;go_wp2_with(go_at_call 164;refine(lQ g n₀ vps false 0 _ qs _ _ _ 2 2 [n1,n2] _ (A.o.next ((Zc _ _).alloc (Zb _) _)).wk (A.o.next ((Zc _ _).alloc (Zb _) _)).row (by have:=Z.o;simp;omega) A.o.hn rfl (aM.of_own (iE W1 _ _)) (by simp)).mono ?_;rintro e w3 ⟨rfl,⟨vps3,q3,J,L,M⟩,D⟩;have F:=Za ((A.o.next ((Zc _ _).alloc (Zb _) _)).par D J L);have P:=Za M;clear D J L M;refine aD ?_);refine aC ?_;clear a0 a1 a2 A1 A2 x2 f2;have a2:=F.o.lay.q 2 rfl;obtain⟨b',off',R,hc⟩:=F.o.sh.1.cell 0 (by rw[<-N.o];omega);cases R;rw[<-HX.o,Nat.add_zero]at hc;go_wp2_with fail;go_region
   all_goals
    go_wp2_with fail;go_ret;refine bP.yes (F.o.next ((Zc _ _).drew.alloc (Zb _) _)) HY.o ?_ ?_ (by simp) (aM.of_own (iE _ _ _))
    ·rw[qL];simp
    ·simp[P.o]
  ·have aa:((m:Int) != 1)=true:=by simp;omega
   have O:=Za (show aK ⟨11,n1,n2,n3,n4,n5,n6,n7⟩ true s=none by rw[aK,if_neg (show ¬((11:Int)=1) by decide),if_neg (show ¬((11:Int)=2) by decide),if_neg (show ¬((11:Int)=8\/(11:Int)=9) by decide),if_neg (show ¬((11:Int)=10) by decide),if_pos rfl,if_neg (fun h=>I (N.o.trans h.2))]);go_wp2_with fail;go_ret;exact bP.no (A.o.bad 2) (by decide) O.o (by omega) none 0 0
