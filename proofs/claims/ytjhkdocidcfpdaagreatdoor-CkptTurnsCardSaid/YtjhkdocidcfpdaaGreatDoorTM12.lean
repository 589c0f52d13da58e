/-
  A part of the proof of a law (packed by program).
-/
import Derived.Test.YtjhkdocidcfpdaaGreatDoorTM05
import Derived.Test.YtjhkdocidcfpdaaGreatDoorTM04
set_option linter.unusedVariables false
set_option linter.unusedSimpArgs false
set_option maxRecDepth 100000
set_option maxHeartbeats 16000000
open List renaming getElem_cons_zero → Zi, getElem_cons_succ → Zj, getElem_toArray → Zk, length_append → Zl
namespace Go.Proofs.YtjhkdocidcfpdaaGreatDoor
open Go.RowKit Go.Shelf Go
def gO (n:Nat) (a:Int):Bool:=decide (0≤a)&&decide (a<n)
def jB (l:List Int) (n:Nat):Bool:=l.all (gO n)&&decide l.Nodup&&decide (l.length=n)
theorem D6 (l:List Int) (k:Nat) (h:k<l.length):(l.take (k+1)).Nodup↔(l.take k).Nodup∧aE l k ∉ l.take k:=by
 rw[fF l k h,List.nodup_append];constructor
 ·rintro⟨h1,_,h3⟩;exact⟨h1,fun hm=>h3 _ hm _ (List.mem_singleton.2 rfl) rfl⟩
 ·rintro⟨h1,h2⟩;refine⟨h1,(by simp),fun a ha b hb e=>?_⟩;rw[List.mem_singleton.1 hb]at e;exact h2 (e▸ha)
def lT (l:List Int) (n:Nat):List Bool:=(List.range n).map fun j:Nat=>decide ((j:Int)∈l)
theorem TN (l:List Int) (n j:Nat) (x:Int) (hx:x=j) (hj:j<n):(lT l n).set j true=lT (l++[x]) n:=by
 subst hx;apply List.ext_getElem
 ·simp[lT]
 ·intro i h1 h2;rw[List.getElem_set];simp only[lT,List.getElem_map,List.getElem_range,List.mem_append,List.mem_singleton];split
  ·next h=>subst h;simp
  ·next h=>
   have:¬((i:Int)=(j:Int)):=by omega
   simp[this]
theorem TO {w:World} {B:Nat} {e:TypeId} {g n cap m:Nat} {xs:List Value} (h:w.ownsRow B e 1 (.slice (some ⟨g,0,none⟩) n cap) m xs) (j:Nat) {u:Value} (hj:xs[j]?=some u):
  w.cell? ⟨g,j,none⟩=some u∧w.frozen? ⟨g,j,none⟩=false:=by
 rcases h.2 with⟨h1,_⟩|⟨g',cap',cur,h1,hb,hg,_,_,_,ht⟩
 ·simp at h1
 ·simp at h1;obtain⟨rfl,rfl,_⟩:=h1;have hl:=(List.getElem?_eq_some_iff.1 hj).1;have hx:=hj;rw[←ht,List.getElem?_take,if_pos (by rw[h.1]at hl;omega)]at hx;refine⟨?_,?_⟩
  ·rw[cell_of_row w g j cur e (0,0) hg];simpa using hx
  ·simp[World.frozen?,hg]
theorem F8 {w:World} {B:Nat} {e:TypeId} {g n cap m:Nat} {xs:List Value} (h:w.ownsRow B e 1 (.slice (some ⟨g,0,none⟩) n cap) m xs) (j:Nat) (u:Value):
  (w.setCell ⟨g,j,none⟩ u).ownsRow B e 1 (.slice (some ⟨g,0,none⟩) n cap) m (xs.set j u):=by
 refine⟨by simpa using h.1,?_⟩;rcases h.2 with⟨h1,_⟩|⟨g',cap',cur,h1,hb,hg,h4,h5,h6,ht⟩
 ·simp at h1
 ·simp at h1;obtain⟨rfl,rfl,rfl⟩:=h1;refine .inr ⟨g,cap,cur.setIfInBounds j u,by simp,hb,by simp[World.setCell,Array.getElem?_modify,hg],by simpa using h4,h5,by simpa using h6,?_⟩;rw[Array.toList_setIfInBounds,List.take_set,ht]
theorem PQ (n:Nat):(madeCells (Value.bool false).cells (n*1)).toList=(lT [] n).map Value.bool:=by
 rw[Nat.mul_one];apply List.ext_getElem
 ·simp[madeCells,lT]
 ·intro i h1 h2;simp[madeCells,Value.cells,Nat.mod_one,lT]
theorem MO:(Tryz.prog.info? 4).map (fun i=>(i.zero,i.size,i.bytes))=some (some (.bool false),1,1):=by kernel_rfl
theorem NV (a b:Nat):((a:Int)==(b:Int))=decide (a=b):=by by_cases h:a=b<;>simp[h];omega
theorem IC {n:Nat} {a:Int} (h:gO n a=false):a<0∨(n:Int)≤a:=by simp only[gO,Bool.and_eq_false_iff,decide_eq_false_iff_not]at h;omega
theorem oV {n:Nat} {a:Int} (h:gO n a=true):0≤a∧a<n:=by simp only[gO,Bool.and_eq_true,decide_eq_true_eq]at h;exact h
theorem p9 (v:Value) (xs:List Int) (n:Nat) (w:World) (hr:Rd w .i64 v xs) (hl:xs.length≤140737488351232) (hn:n≤100000):
  Calls Tryz.prog 132 #[v,.int .i64 n] w fun e w'=>e=.returned (.bool (jB xs n))∧Below w.heap.size w w':=by
 obtain⟨o,cap,rfl,hc⟩:=hr;obtain⟨i0,hi,hz0,hz1,hz2⟩:=info_parts MO;have HC:=Za hc;clear hc;go_enter Tryz.func132,Tryz.ntmps132;go_wp2_with(at_make;refine wpList_make_full _ rfl _ _ 237 rfl w.heap.size 4 i0 (.bool false) 1 Tryz.underlying237 hi hz0 hz1 .i64 .i64 _ _ n rfl rfl rfl rfl (by rw[hz2];omega) (by unfold maxLen;omega) (Zb _) ?_;intro w1 hm hg;refine aD ?_);rw[PQ]at hm;have HM:=Za hm;have HB:=Za (lW hg);clear hm hg hi hz0 hz1 hz2;refine aC ?_;go_wp2;go_loopw[12] (fun i wr=>∃k:Nat,k≤xs.length∧i=.int .i64 k∧wr.ownsRow w.heap.size 4 1 (.slice (some ⟨w.heap.size,0,none⟩) n n) n ((lT (xs.take k) n).map .bool)∧Below w.heap.size w wr∧(xs.take k).all (gO n)=true∧(xs.take k).Nodup) (fun i _=>xs.length-(intOf i).toNat)
 case atStart=>exact⟨0,Ze _,rfl,HM.o,HB.o,rfl,List.nodup_nil⟩
 case round=>
  obtain⟨k,hk,rfl,hown,hB,hall,hnd⟩:=hrel;obtain⟨w3,rfl⟩:∃w3,w3=wr:=⟨_,rfl⟩;have HO:=Za hown;have HB3:=Za hB;have HA:=Za hall;have HN:=Za hnd;clear hown hB hall hnd HM HB;by_cases hlt:k<xs.length
  ·obtain⟨b,off,rfl,hcell⟩:=HC.o k hlt;have hcell':=(HB3.o.cell (p:=⟨b,off+k,none⟩) (aP hcell)).trans hcell;clear hcell;obtain⟨x,hx⟩:∃x,x=aE xs k:=⟨_,rfl⟩;rw[←hx]at hcell';have HX:=Za hx;clear hx;cases hib:gO n x with
   |false=>
    have HI:=Za (show xs.all (gO n)=false from nE _ _ k hlt (by rw[←HX.o];exact hib));rcases IC hib with h1|h1
    ·clear hib;go_wp2;go_ret;exact⟨aF (by rw[jB,HI.o];rfl),HB3.o⟩
    ·clear hib;have h0:¬x<0:=by omega
     go_wp2;go_ret;exact⟨aF (by rw[jB,HI.o];rfl),HB3.o⟩
   |true=>
    obtain⟨h0,h1⟩:=oV hib;have HI:=Za hib;clear hib;obtain⟨j,rfl⟩:∃j:Nat,x=j:=⟨x.toNat,by omega⟩;have hj:j<n:=by omega
    have HJ:=Za hj;have hcl:=TO HO.o j (u:=.bool (decide ((j:Int)∈xs.take k))) (by simp[lT,hj]);obtain⟨hc1,hf1⟩:=hcl;cases hd:decide ((j:Int)∈xs.take k)with
    |true=>
     rw[hd]at hc1;have HD:=Za (of_decide_eq_true hd);clear hd;go_wp2;go_ret;refine⟨aF ?_,HB3.o⟩;rw[jB,decide_eq_false (p:=xs.Nodup) (fun h=>?_)]
     ·simp
     ·have:=(D6 xs k hlt).1 (h.sublist (List.take_sublist _ _));exact this.2 (by rw[←HX.o];exact HD.o)
    |false=>
     rw[hd]at hc1;have HD:=Za (of_decide_eq_false hd);clear hd;go_wp2;go_roundw
     case rel=>
      refine⟨k+1,by omega,by go_num,?_,HB3.o.setCell (p:=⟨w.heap.size,j,none⟩) (Zb _) _,?_,?_⟩
      ·have:=F8 HO.o j (.bool true);rw[←List.map_set,TN _ n j (aE xs k) HX.o.symm HJ.o,←fF xs k hlt]at this;exact this
      ·rw[oE _ _ _ hlt,HA.o,←HX.o,HI.o];rfl
      ·exact(D6 xs k hlt).2 ⟨HN.o,by rw[←HX.o];exact HD.o⟩
     case measure=>simp[intOf];omega
  ·obtain rfl:k=xs.length:=by omega
   have HA':=Za (show xs.all (gO n)=true by rw[←List.take_length (l:=xs)];exact HA.o);have HN':=Za (show xs.Nodup by rw[←List.take_length (l:=xs)];exact HN.o);go_wp2;go_ret;exact⟨aF (by rw[jB,HA'.o,decide_eq_true HN'.o,Bool.true_and,Bool.true_and,←NV]),HB3.o⟩
theorem EH (v:Value) (xs:List Int) (x:Int) (w:World) (hr:Rd w .i64 v xs) (hl:xs.length≤140737488351232):
  Calls Tryz.prog 149 #[v,.int .i64 x] w fun e w'=>e=.returned (.bool (decide (x∈xs)))∧aN w w':=by
 obtain⟨o,cap,rfl,hc⟩:=hr;have HC:=Za hc;clear hc;go_enter Tryz.func149,Tryz.ntmps149;go_wp2;go_loop[5] (fun i=>∃k:Nat,k≤xs.length∧i=.int .i64 k∧x ∉ xs.take k) (fun i=>xs.length-(intOf i).toNat)
 case atStart=>exact⟨0,Ze _,rfl,by simp⟩
 case round=>
  obtain⟨k,hk,rfl,hno⟩:=hrel;have HN:=Za hno;clear hno;by_cases hlt:k<xs.length
  ·obtain⟨b,off,rfl,h1⟩:=HC.o k hlt;by_cases he:aE xs k=x
   ·have hd:(aE xs k==x)=true:=by simp[he]
    have HE:=Za he;clear he;go_wp2;go_ret;exact⟨aF (decide_eq_true (by rw[←HE.o];exact mI xs k hlt)).symm,aN.refl _⟩
   ·have hd:(aE xs k==x)=false:=by simp[he]
    have HE:=Za he;clear he;go_wp2;go_round
    case rel=>exact⟨k+1,by omega,by go_num,by rw[fF xs k hlt,List.mem_append,List.mem_singleton];exact fun h=>h.elim HN.o (fun h=>HE.o h.symm)⟩
    case measure=>simp[intOf];omega
  ·obtain rfl:k=xs.length:=by omega
   have HN':=Za (show x ∉ xs by rw[←List.take_length (l:=xs)];exact HN.o);go_wp2;go_ret;exact⟨aF (decide_eq_false HN'.o).symm,aN.refl _⟩
theorem DJ:∀(n:Nat) (l:List Int),l.length=n→(∀i:Nat,i<n→(i:Int)∈l)→(∀x∈l,gO n x=true)∧l.Nodup
 |0,l,hl,_=>by
  obtain rfl:=List.eq_nil_of_length_eq_zero hl;exact⟨fun x hx=>(by cases hx),List.nodup_nil⟩
 |n+1,l,hl,h=>by
  have hm:=h n (Nat.lt_succ_self n);have hp:=List.perm_cons_erase hm;have hle:(l.erase (n:Int)).length=n:=by rw[List.length_erase_of_mem hm,hl];rfl
  obtain⟨h1,h2⟩:=DJ n (l.erase (n:Int)) hle fun i hi=>(List.mem_erase_of_ne (by omega)).2 (h i (by omega));refine⟨fun x hx=>?_,?_⟩
  ·rcases List.mem_cons.1 (hp.mem_iff.1 hx)with rfl|hx
   ·simp[gO];omega
   ·have:=oV (h1 x hx);simp only[gO,Bool.and_eq_true,decide_eq_true_eq];omega
  ·rw[hp.nodup_iff,List.nodup_cons];exact⟨fun hx=>by have:=oV (h1 _ hx);omega,h2⟩
theorem xD:∀(n:Nat) (l:List Int),l.length=n→(∀x∈l,gO n x=true)→l.Nodup→∀i:Nat,i<n→(i:Int)∈l
 |0,l,hl,_,_,i,hi=>absurd hi (Nat.not_lt_zero i)
 |n+1,l,hl,h,hn,i,hi=>by
  by_cases hm:(n:Int)∈l
  ·by_cases he:i=n
   ·subst he;exact hm
   ·have hle:(l.erase (n:Int)).length=n:=by rw[List.length_erase_of_mem hm,hl];rfl
    refine List.mem_of_mem_erase (xD n (l.erase (n:Int)) hle (fun x hx=>?_) (hn.erase _) i (by omega));have h1:=oV (h x (List.mem_of_mem_erase hx));have h2:x≠n:=fun e=>(List.Nodup.mem_erase_iff hn).1 (e▸hx) |>.1 rfl;simp only[gO,Bool.and_eq_true,decide_eq_true_eq];omega
  ·exfalso;have hall:∀x∈l,gO n x=true:=fun x hx=>by
    have h1:=oV (h x hx);have h2:x≠n:=fun e=>hm (e▸hx);simp only[gO,Bool.and_eq_true,decide_eq_true_eq];omega
   cases l with
   |nil=>simp at hl
   |cons a r=>
    have hr:r.length=n:=by simpa using hl
    have:=xD n r hr (fun x hx=>hall x (List.mem_cons_of_mem _ hx)) (List.nodup_cons.1 hn).2;have ha:=oV (hall a (List.mem_cons_self ..));have:=this a.toNat (by omega);rw[show((a.toNat:Nat):Int)=a by omega]at this;exact(List.nodup_cons.1 hn).1 this
theorem BF (l:List Int) (n:Nat):jB l n=true↔l.length=n∧∀i:Nat,i<n→(i:Int)∈l:=by
 simp only[jB,Bool.and_eq_true,decide_eq_true_eq,List.all_eq_true];constructor
 ·rintro⟨⟨h1,h2⟩,h3⟩;exact⟨h3,xD n l h3 h1 h2⟩
 ·rintro⟨h1,h2⟩;exact⟨DJ n l h1 h2,h1⟩
theorem qN (v:Value) (xs:List Int) (n:Nat) (w:World) (hr:Rd w .i64 v xs) (hl:xs.length≤140737488351232) (hn:n≤100000):
  Calls Tryz.prog 113 #[v,.int .i64 n] w fun e w'=>e=.returned (.bool (jB xs n))∧aN w w':=by
 obtain⟨o,cap,rfl⟩:=aU hr;have HR:=Za hr;clear hr;by_cases hx:xs.length=n
 ·have hd:((xs.length:Int) != n)=false:=by simp[hx]
  have HX:=Za hx;clear hx;go_enter Tryz.func113,Tryz.ntmps113;go_wp2;go_loopw[5] (fun i wr=>∃k:Nat,k≤n∧i=.int .i64 k∧(∀j:Nat,j<k→(j:Int)∈xs)∧aN w wr) (fun i _=>n-(intOf i).toNat)
  case atStart=>exact⟨0,Ze _,rfl,fun j hj=>absurd hj (Nat.not_lt_zero j),aN.refl _⟩
  case round=>
   obtain⟨k,hk,rfl,hall,nq,rfl⟩:=hrel;have HA:=Za hall;clear hall;by_cases hlt:k<n
   ·cases hm:decide ((k:Int)∈xs)with
    |false=>
     have HM:=Za (of_decide_eq_false hm);have HMd:=Za hm;clear hm;go_wp2_with fail;refine(EH _ xs k _ (HR.o.same ⟨nq,rfl⟩) hl).mono ?_;rintro e w' ⟨rfl,nr,rfl⟩;rw[HMd.o];go_wp2;go_ret;refine⟨aF ?_,(by first|exact⟨_,rfl⟩|exact⟨_,World.drewN_drewN _ _ _⟩)⟩;rw[eq_comm,←Bool.not_eq_true,BF];exact fun h=>HM.o (h.2 k hlt)
    |true=>
     have HM:=Za (of_decide_eq_true hm);have HMd:=Za hm;clear hm;go_wp2_with fail;refine(EH _ xs k _ (HR.o.same ⟨nq,rfl⟩) hl).mono ?_;rintro e w' ⟨rfl,nr,rfl⟩;rw[HMd.o];go_wp2;go_roundw
     case rel=>exact⟨k+1,by omega,by go_num,fun j hj=>if h:j=k then h▸HM.o else HA.o j (by omega),(by first|exact⟨_,rfl⟩|exact⟨_,World.drewN_drewN _ _ _⟩)⟩
     case measure=>simp[intOf];omega
   ·obtain rfl:k=n:=by omega
    go_wp2;go_ret;exact⟨aF ((BF xs _).2 ⟨HX.o,HA.o⟩).symm,⟨nq,rfl⟩⟩
 ·have hd:((xs.length:Int) != n)=true:=by simp;omega
  have HX:=Za hx;clear hx;go_enter Tryz.func113,Tryz.ntmps113;go_wp2;go_ret;exact⟨aF (by rw[jB,decide_eq_false HX.o,Bool.and_false]),aN.refl _⟩
def dP (l:List Int) (at_ epoch:Int) (n:Nat):Bool:=decide (1≤n)&&(decide (n≤1024)&&(jB l n&&(decide (0≤at_)&&(decide (at_≤n)&&(decide (0≤epoch)&&decide (epoch≤1048576))))))
theorem L0 (v:Value) (xs:List Int) (at_ epoch:Int) (n:Nat) (w:World) (hr:Rd w .i64 v xs) (hl:xs.length≤140737488351232) (hn:n≤140737488351232):
  Calls Tryz.prog 85 #[.agg #[v,.int .i64 at_,.int .i64 epoch],.int .i64 n] w fun e w'=>e=.returned (.bool (dP xs at_ epoch n))∧Below w.heap.size w w':=by
 obtain⟨o,cap,rfl⟩:=aU hr;have HR:=Za hr;clear hr;by_cases h1:1≤n
 ·by_cases h2:n≤1024
  ·cases ho:jB xs n with
   |false=>
    have HO:=Za ho;clear ho;go_enter Tryz.func85,Tryz.ntmps85;go_wp2_with(go_at_call 132;refine(p9 _ xs n _ (HR.o.alloc _) hl (by omega)).mono ?_;rintro e w' ⟨rfl,hb⟩;rw[HO.o]);go_ret;exact⟨aF (by rw[dP,HO.o];simp),((Zc w.heap.size w).alloc (Zb _) _).trans (hb.mono (by simp))⟩
   |true=>
    have HO:=Za ho;clear ho;by_cases h3:0≤at_
    ·by_cases h4:at_≤n
     ·by_cases h5:0≤epoch
      ·by_cases h6:epoch≤1048576
       all_goals
        go_enter Tryz.func85,Tryz.ntmps85;go_wp2_with(go_at_call 132;refine(p9 _ xs n _ (HR.o.alloc _) hl (by omega)).mono ?_;rintro e w' ⟨rfl,hb⟩;rw[HO.o];have hbx:=(aA.new w 45 #[.slice o xs.length cap,.int .i64 at_,.int .i64 epoch]).next hb;have c1:=hbx.cell 1 rfl;have c2:=hbx.cell 2 rfl;clear hbx);go_ret;exact⟨aF (by rw[dP,HO.o];simp[h1,h2,h3,h4,h5,h6]<;>(intros;omega)),((Zc w.heap.size w).alloc (Zb _) _).trans (hb.mono (by simp))⟩
      ·go_enter Tryz.func85,Tryz.ntmps85;go_wp2_with(go_at_call 132;refine(p9 _ xs n _ (HR.o.alloc _) hl (by omega)).mono ?_;rintro e w' ⟨rfl,hb⟩;rw[HO.o];have hbx:=(aA.new w 45 #[.slice o xs.length cap,.int .i64 at_,.int .i64 epoch]).next hb;have c1:=hbx.cell 1 rfl;have c2:=hbx.cell 2 rfl;clear hbx);go_ret;exact⟨aF (by rw[dP,HO.o];simp[h1,h2,h3,h4,h5]<;>(intros;omega)),((Zc w.heap.size w).alloc (Zb _) _).trans (hb.mono (by simp))⟩
     ·go_enter Tryz.func85,Tryz.ntmps85;go_wp2_with(go_at_call 132;refine(p9 _ xs n _ (HR.o.alloc _) hl (by omega)).mono ?_;rintro e w' ⟨rfl,hb⟩;rw[HO.o];have hbx:=(aA.new w 45 #[.slice o xs.length cap,.int .i64 at_,.int .i64 epoch]).next hb;have c1:=hbx.cell 1 rfl;have c2:=hbx.cell 2 rfl;clear hbx);go_ret;exact⟨aF (by rw[dP,HO.o];simp[h1,h2,h3,h4]<;>(intros;omega)),((Zc w.heap.size w).alloc (Zb _) _).trans (hb.mono (by simp))⟩
    ·go_enter Tryz.func85,Tryz.ntmps85;go_wp2_with(go_at_call 132;refine(p9 _ xs n _ (HR.o.alloc _) hl (by omega)).mono ?_;rintro e w' ⟨rfl,hb⟩;rw[HO.o];have hbx:=(aA.new w 45 #[.slice o xs.length cap,.int .i64 at_,.int .i64 epoch]).next hb;have c1:=hbx.cell 1 rfl;have c2:=hbx.cell 2 rfl;clear hbx);go_ret;exact⟨aF (by rw[dP,HO.o];simp[h1,h2,h3]<;>(intros;omega)),((Zc w.heap.size w).alloc (Zb _) _).trans (hb.mono (by simp))⟩
  ·go_enter Tryz.func85,Tryz.ntmps85;go_wp2;go_ret;exact⟨aF (by rw[dP];simp[h1,h2]),(Zc _ _).alloc (Zb _) _⟩
 ·go_enter Tryz.func85,Tryz.ntmps85;go_wp2;go_ret;exact⟨aF (by rw[dP];simp[h1]),(Zc _ _).alloc (Zb _) _⟩
theorem J1 (v:Value) (xs:List Int) (at_ epoch:Int) (n:Nat) (w:World) (hr:Rd w .i64 v xs) (hl:xs.length≤140737488351232) (hn:n≤140737488351232):
  Calls Tryz.prog 61 #[.agg #[v,.int .i64 at_,.int .i64 epoch],.int .i64 n] w fun e w'=>e=.returned (.bool (dP xs at_ epoch n))∧Below w.heap.size w w':=by
 obtain⟨o,cap,rfl⟩:=aU hr;have HR:=Za hr;clear hr;by_cases h1:1≤n
 ·by_cases h2:n≤1024
  ·cases ho:jB xs n with
   |false=>
    have HO:=Za ho;clear ho;go_enter Tryz.func61,Tryz.ntmps61;go_wp2_with(go_at_call 113;refine(qN _ xs n _ (HR.o.alloc _) hl (by omega)).mono ?_;rintro e w' ⟨rfl,hs⟩;rw[HO.o]);go_ret;exact⟨aF (by rw[dP,HO.o];simp),((Zc w.heap.size w).alloc (Zb _) _).trans (hs.below _)⟩
   |true=>
    have HO:=Za ho;clear ho;by_cases h3:0≤at_
    ·by_cases h4:at_≤n
     ·by_cases h5:0≤epoch
      ·by_cases h6:epoch≤1048576
       all_goals
        go_enter Tryz.func61,Tryz.ntmps61;go_wp2_with(go_at_call 113;refine(qN _ xs n _ (HR.o.alloc _) hl (by omega)).mono ?_;rintro e w' ⟨rfl,hs⟩;rw[HO.o];have hbx:=(aA.new w 45 #[.slice o xs.length cap,.int .i64 at_,.int .i64 epoch]).same hs;have c1:=hbx.cell 1 rfl;have c2:=hbx.cell 2 rfl;clear hbx);go_ret;exact⟨aF (by rw[dP,HO.o];simp[h1,h2,h3,h4,h5,h6]<;>(intros;omega)),((Zc w.heap.size w).alloc (Zb _) _).trans (hs.below _)⟩
      ·go_enter Tryz.func61,Tryz.ntmps61;go_wp2_with(go_at_call 113;refine(qN _ xs n _ (HR.o.alloc _) hl (by omega)).mono ?_;rintro e w' ⟨rfl,hs⟩;rw[HO.o];have hbx:=(aA.new w 45 #[.slice o xs.length cap,.int .i64 at_,.int .i64 epoch]).same hs;have c1:=hbx.cell 1 rfl;have c2:=hbx.cell 2 rfl;clear hbx);go_ret;exact⟨aF (by rw[dP,HO.o];simp[h1,h2,h3,h4,h5]<;>(intros;omega)),((Zc w.heap.size w).alloc (Zb _) _).trans (hs.below _)⟩
     ·go_enter Tryz.func61,Tryz.ntmps61;go_wp2_with(go_at_call 113;refine(qN _ xs n _ (HR.o.alloc _) hl (by omega)).mono ?_;rintro e w' ⟨rfl,hs⟩;rw[HO.o];have hbx:=(aA.new w 45 #[.slice o xs.length cap,.int .i64 at_,.int .i64 epoch]).same hs;have c1:=hbx.cell 1 rfl;have c2:=hbx.cell 2 rfl;clear hbx);go_ret;exact⟨aF (by rw[dP,HO.o];simp[h1,h2,h3,h4]<;>(intros;omega)),((Zc w.heap.size w).alloc (Zb _) _).trans (hs.below _)⟩
    ·go_enter Tryz.func61,Tryz.ntmps61;go_wp2_with(go_at_call 113;refine(qN _ xs n _ (HR.o.alloc _) hl (by omega)).mono ?_;rintro e w' ⟨rfl,hs⟩;rw[HO.o];have hbx:=(aA.new w 45 #[.slice o xs.length cap,.int .i64 at_,.int .i64 epoch]).same hs;have c1:=hbx.cell 1 rfl;have c2:=hbx.cell 2 rfl;clear hbx);go_ret;exact⟨aF (by rw[dP,HO.o];simp[h1,h2,h3]<;>(intros;omega)),((Zc w.heap.size w).alloc (Zb _) _).trans (hs.below _)⟩
  ·go_enter Tryz.func61,Tryz.ntmps61;go_wp2;go_ret;exact⟨aF (by rw[dP];simp[h1,h2]),(Zc _ _).alloc (Zb _) _⟩
 ·go_enter Tryz.func61,Tryz.ntmps61;go_wp2;go_ret;exact⟨aF (by rw[dP];simp[h1]),(Zc _ _).alloc (Zb _) _⟩
theorem CH:(Tryz.prog.info? 27).map (fun i=>(i.zero,i.size,i.bytes))=some (some (.int .u32 0),1,4):=by kernel_rfl
def iI (n i:Nat):Int:=((48+n / 10^i%10:Nat):Int)
def i6 (n k:Nat):List Int:=(List.range k).map (iI n)
theorem MD (n k:Nat):i6 n (k+1)=i6 n k++[iI n k]:=by simp[i6,List.range_succ]
theorem qY (n k:Nat):(i6 n k).length=k:=by simp[i6]
theorem EA (n k i:Nat) (h:i<k):aE (i6 n k) i=iI n i:=by rw[dK _ _ (by rw[qY];exact h)];simp[i6]
def iR (n c k:Nat):List Int:=(List.range k).map fun j=>iI n (c-1-j)
theorem DF (n c k:Nat):iR n c (k+1)=iR n c k++[iI n (c-1-k)]:=by simp[iR,List.range_succ]
theorem tI (n c k:Nat):(iR n c k).length=k:=by simp[iR]
theorem EJ:∀(c n:Nat),n<10^(c+1)→(0<c→10^c≤n)→(Lib.decDigits n).map (fun b=>(b.toNat:Int))=iR n (c+1) (c+1)
 |0,n,h,_=>by
  have h10:n<10:=by simpa using h
  rw[Lib.decDigits,dif_pos h10];have:(UInt8.ofNat (48+n)).toNat=48+n:=by simp;omega
  simp only[List.map_cons,List.map_nil,this];simp[iR,iI,List.range_succ];omega
 |c+1,n,h,h0=>by
  have h1:=h0 (by omega);have hp:10^(c+1)=10^c*10:=Nat.pow_succ ..;have hp1:0<10^c:=Nat.pow_pos (by omega);have hp2:10^(c+1+1)=10^(c+1)*10:=Nat.pow_succ ..;have h10:¬n<10:=by omega
  have hlt:n / 10<10^(c+1):=by omega
  have hge:10^c≤n / 10:=by omega
  rw[Lib.decDigits,dif_neg h10,List.map_append,EJ c (n / 10) hlt (fun _=>hge),DF n (c+1+1) (c+1)];have h2:c+1+1-1-(c+1)=0:=by omega
  have hu:(UInt8.ofNat (48+n%10)).toNat=48+n%10:=by simp;omega
  rw[h2]
  congr 1
  ·simp only[iR];apply List.map_congr_left;intro j hj;have hj:=List.mem_range.1 hj;have e:c+1+1-1-j=(c+1-1-j)+1:=by omega
   rw[e,iI,iI,Nat.div_div_eq_div_mul,←Nat.pow_succ']
  ·simp only[List.map_cons,List.map_nil,hu];simp[iI]
theorem uJ (v:Value) (xs:List Int) (w:World) (h:Rd w .u32 v xs) (hl:xs.length≤100) (hc:∀o n c,v=.slice o n c→n≤c):
  Calls Tryz.prog 197 #[v] w fun e w'=>(∃o k cap,v=.slice o xs.length cap∧e=.returned (.slice o k cap)∧k≤xs.length∧(∀j,k≤j→j<xs.length→aE xs j=0)∧(0<k→aE xs (k-1)≠0))∧w=w':=by
 obtain⟨o,cap,rfl⟩:=aU h;have hcap:=hc _ _ _ rfl;have HR:=Za h;clear h hc;go_enter Tryz.func197,Tryz.ntmps197;go_wp2;go_loopw[3] (fun i wr=>∃k:Nat,k≤xs.length∧i=.int .i64 k∧Hid (∀j,k≤j→j<xs.length→aE xs j=0)∧Hid (wr=w)) (fun i _=>(intOf i).toNat)
 case atStart=>exact⟨xs.length,Zb _,rfl,Za (fun j h1 h2=>absurd h2 (by omega)),Za rfl⟩
 case round=>
  obtain⟨k,hk,rfl,HZ,HE⟩:=hrel;rw[HE.o];by_cases h0:0<k
  ·obtain⟨b,off,rfl,hcell⟩:=HR.o.cell (k-1) (by omega);have hw1:IntKind.i64.wrap ((k:Int)-1)=((k-1:Nat):Int):=by rw[IntKind.wrap_i64];omega
   have hk1:k-1<xs.length:=by omega
   have hgt:(0:Int)<(k:Int):=by omega
   obtain⟨x,hx⟩:∃x,x=aE xs (k-1):=⟨_,rfl⟩;rw[←hx]at hcell;have HX:=Za hx;clear hx;by_cases hx0:x=0
   ·subst hx0;go_wp2;go_roundw
    case rel=>exact⟨k-1,by omega,rfl,Za (fun j h1 h2=>by
     by_cases e:j=k-1
     ·rw[e];exact HX.o.symm
     ·exact HZ.o j (by omega) h2),(by first|exact Za trivial|exact Za rfl)⟩
    case measure=>simp[intOf];omega
   ·have hne:(x==0)=false:=by simpa using hx0
    have hks:k≤cap:=by omega
    go_wp2;go_ret;exact⟨⟨_,k,_,rfl,rfl,hk,HZ.o,fun _=>by rw[←HX.o];exact hx0⟩,rfl⟩
  ·obtain rfl:k=0:=by omega
   go_wp2;go_ret;exact⟨⟨_,0,_,rfl,rfl,Ze _,HZ.o,fun h=>absurd h (by omega)⟩,rfl⟩
theorem FG (v:Value) (xs:List Int) (w:World) (h:Rd w .u64 v xs) (hl:xs.length≤100) (hc:∀o n c,v=.slice o n c→n≤c):
  Calls Tryz.prog 188 #[v] w fun e w'=>(∃o k cap,v=.slice o xs.length cap∧e=.returned (.slice o k cap)∧k≤xs.length∧(∀j,k≤j→j<xs.length→aE xs j=0)∧(0<k→aE xs (k-1)≠0))∧w=w':=by
 obtain⟨o,cap,rfl⟩:=aU h;have hcap:=hc _ _ _ rfl;have HR:=Za h;clear h hc;go_enter Tryz.func188,Tryz.ntmps188;go_wp2;go_loopw[3] (fun i wr=>∃k:Nat,k≤xs.length∧i=.int .i64 k∧Hid (∀j,k≤j→j<xs.length→aE xs j=0)∧Hid (wr=w)) (fun i _=>(intOf i).toNat)
 case atStart=>exact⟨xs.length,Zb _,rfl,Za (fun j h1 h2=>absurd h2 (by omega)),Za rfl⟩
 case round=>
  obtain⟨k,hk,rfl,HZ,HE⟩:=hrel;rw[HE.o];by_cases h0:0<k
  ·obtain⟨b,off,rfl,hcell⟩:=HR.o.cell (k-1) (by omega);have hw1:IntKind.i64.wrap ((k:Int)-1)=((k-1:Nat):Int):=by rw[IntKind.wrap_i64];omega
   have hk1:k-1<xs.length:=by omega
   have hgt:(0:Int)<(k:Int):=by omega
   obtain⟨x,hx⟩:∃x,x=aE xs (k-1):=⟨_,rfl⟩;rw[←hx]at hcell;have HX:=Za hx;clear hx;by_cases hx0:x=0
   ·subst hx0;go_wp2;go_roundw
    case rel=>exact⟨k-1,by omega,rfl,Za (fun j h1 h2=>by
     by_cases e:j=k-1
     ·rw[e];exact HX.o.symm
     ·exact HZ.o j (by omega) h2),(by first|exact Za trivial|exact Za rfl)⟩
    case measure=>simp[intOf];omega
   ·have hne:(x==0)=false:=by simpa using hx0
    have hks:k≤cap:=by omega
    go_wp2;go_ret;exact⟨⟨_,k,_,rfl,rfl,hk,HZ.o,fun _=>by rw[←HX.o];exact hx0⟩,rfl⟩
  ·obtain rfl:k=0:=by omega
   go_wp2;go_ret;exact⟨⟨_,0,_,rfl,rfl,Ze _,HZ.o,fun h=>absurd h (by omega)⟩,rfl⟩
theorem Rd.setFree {w:World} {K:IntKind} {o:Option Addr} {n c:Nat} {xs:List Int} {p:Addr} (h:Rd w K (.slice o n c) xs) (hb:∀b off,o=some ⟨b,off,none⟩→b≠p.block) (u:Value):Rd (w.setCell p u) K (.slice o n c) xs:=by obtain⟨o',c',he,hc⟩:=h;refine⟨o',c',he,fun j hj=>?_⟩;obtain⟨b,off,rfl,hcell⟩:=hc j hj;injection he with h1 _ _;exact⟨b,off,rfl,(World.cell?_of_block (w:=w) (a:=⟨b,off+j,none⟩) (Below.heap_setCell _ _ _ _ (hb b off h1))).trans hcell⟩
theorem Rd.next' {w w':World} {K:IntKind} {v:Value} {xs:List Int} (h:Rd w K v xs) (hb:Below w.heap.size w w'):Rd w' K v xs:=h.below hb (Zb _)
def lC (w:World) (v:Value) (n:Nat):Prop:=Rd w .u64 v (if n=0 then [] else [(n:Int)])
theorem K3 (n:Nat) (w:World) (hn:n<1000000000000):
  Calls Tryz.prog 137 #[.int .i64 n] w fun e w'=>(∃v,e=.returned (.agg #[.bool false,v])∧lC w' v n)∧Below w.heap.size w w':=by
 have size:∀W,Calls Tryz.prog 169 #[.int .i64 n] W fun e w'=>e=.returned (.int .u64 n)∧W=w':=by
  intro W;have h0:¬(n:Int)<0:=by omega
  have hu:IntKind.u64.wrap (n:Int)=(n:Int):=by rw[IntKind.wrap_u64];omega
  go_enter Tryz.func169,Tryz.ntmps169;go_wp2;go_ret;exact⟨rfl,rfl⟩
 have nof:∀W,Calls Tryz.prog 168 #[.int .u64 n] W fun e w'=>(∃v,e=.returned v∧lC w' v n∧∃o m c,v=.slice o m c∧(∀b off,o=some ⟨b,off,none⟩→W.heap.size≤b))∧Below W.heap.size W w':=by
  intro W;have hrd:Rd (W.alloc (.cells #[.int .u64 n] 40)) .u64 (.slice (some ⟨W.heap.size,0,none⟩) 1 1) [(n:Int)]:=Rd.new W .u64 [(n:Int)] 40 1 (0,0);have HT:=Za (FG _ [(n:Int)] _ hrd (by simp) (fun o m c e=>by cases e;omega));have HRD:=Za hrd;clear hrd size;go_enter Tryz.func168,Tryz.ntmps168;go_wp2_with(go_at_call 188;refine HT.o.mono ?_;rintro e w2 ⟨⟨o,k,cap,he,rfl,hk,hz,hnz⟩,rfl⟩;have HK:=Za (Zd he (Zd hk (Zd hz hnz)));clear he hk hz hnz);go_ret;obtain⟨he,hk,hz,hnz⟩:=HK.o;injection he with he1 he2 he3;subst he1 he3;simp only[List.length_cons,List.length_nil,Nat.zero_add]at hk hz;have hkn:k=0↔n=0:=by
   constructor
   ·intro h0;have:=hz 0 (by omega) (by omega);simp[aE]at this;exact this
   ·intro h0;by_cases hk0:0<k
    ·have:=hnz hk0;have h1:k-1=0:=by omega
     rw[h1]at this;simp[aE]at this;exact absurd h0 this
    ·omega
  refine⟨⟨_,rfl,?_,_,_,_,rfl,fun b off e=>(by cases e;exact Zb _)⟩,(Zc _ _).alloc (Zb _) _⟩;unfold lC;by_cases h0:n=0
  ·rw[if_pos h0,hkn.2 h0];exact Rd.nil _ _ _ _
  ·rw[if_neg h0];have hk1:k=1:=by have:k≠0:=fun h=>h0 (hkn.1 h);omega
   subst hk1;exact HRD.o
 have made:∀(o:Option Addr) (m c:Nat) W,Calls Tryz.prog 167 #[.bool false,.slice o m c] W fun e w'=>e=.returned (.agg #[.bool false,.slice o m c])∧Below W.heap.size W w':=by intro o m c W;clear size nof;go_enter Tryz.func167,Tryz.ntmps167;go_wp2;have g0:(W.alloc (.cells #[.bool false,.slice o m c] 209)).cell? ⟨W.heap.size,0,none⟩=some (.bool false):=(aA.new W 209 #[.bool false,.slice o m c]).cell 0 rfl;have g1:(W.alloc (.cells #[.bool false,.slice o m c] 209)).cell? ⟨W.heap.size,1,none⟩=some (.slice o m c):=(aA.new W 209 #[.bool false,.slice o m c]).cell 1 rfl;exact bodyPost_ret (v:=.agg #[.bool false,.slice o m c]) (by simp[results,Tryz.results167,go_sem,g0,g1]) rfl ⟨rfl,(Zc _ _).alloc (Zb _) _⟩
 have HS:=Za size;have HN:=Za nof;have HM:=Za made;clear size nof made;have h0:¬(n:Int)<0:=by omega
 obtain⟨W,hW⟩:∃W,W=w.alloc (.cells #[.bool false,.slice none 0 0] 209):=⟨_,rfl⟩;have hbx:aA W w.heap.size 209 #[.bool false,.slice none 0 0]:=by rw[hW];exact aA.new _ _ _
 have hbw:Below w.heap.size w W:=by rw[hW];exact(Zc _ _).alloc (Zb _) _
 have HB0:=Za (Zd hbx hbw);have HW:=Za hW;clear hbx hbw hW;go_enter Tryz.func137,Tryz.ntmps137;go_wp2_with(first
  |(go_at_call 169;rw[←HW.o];refine(HS.o _).mono ?_;rintro e wq ⟨rfl,hwq⟩;subst hwq)
  |(go_at_call 168;refine(HN.o _).mono ?_;rintro e w2 ⟨⟨v,rfl,hv,o,m,c,rfl,hm⟩,hb2⟩;have HV:=Za (Zd hv hm);have HB2:=Za (Zd (HB0.o.1.next hb2) (HB0.o.2.trans (hb2.mono HB0.o.2.size)));clear hv hm hb2)
  |(go_at_call 167;refine(HM.o _ _ _ _).mono ?_;rintro e w3 ⟨rfl,hb3⟩;have HB3:=Za (Zd (HB2.o.1.next hb3) (HB2.o.2.trans (hb3.mono HB2.o.2.size)));have HV3:=Za (Rd.below HV.o.1 hb3 (Zb _));have e0:=HB3.o.1.cell 0 rfl;have e1:=HB3.o.1.cell 1 rfl;have f0:=HB3.o.1.free 0;have f1:=HB3.o.1.free 1;clear hb3))
 obtain⟨V,hV⟩:∃V,V=(w3.setCell ⟨w.heap.size,0,none⟩ (.bool false)).setCell ⟨w.heap.size,1,none⟩ (.slice o m c):=⟨_,rfl⟩;have hz:aA V w.heap.size 209 #[.bool false,.slice o m c]:=by rw[hV];exact(HB3.o.1.set 0 (.bool false)).set 1 (.slice o m c)
 have hs:=HB3.o.1.lt;have hbV:Below w.heap.size w V:=by rw[hV];exact(HB3.o.2.setCell (p:=⟨w.heap.size,0,none⟩) (Zb _) _).setCell (p:=⟨w.heap.size,1,none⟩) (Zb _) _
 have hne:∀b off,o=some ⟨b,off,none⟩→b≠w.heap.size:=fun b off e h=>by
  have:=HV.o.2 b off e;have:=HB0.o.1.lt;omega
 have hvV:lC V (.slice o m c) n:=by rw[hV];exact Rd.setFree (Rd.setFree HV3.o (p:=⟨w.heap.size,0,none⟩) hne _) (p:=⟨w.heap.size,1,none⟩) hne _
 rw[←hV];have g0:=hz.cell 0 rfl;have g1:=hz.cell 1 rfl;simp only[Zk,Zi,Zj]at g0 g1;exact bodyPost_ret (v:=.agg #[.bool false,.slice o m c]) (by simp[results,Tryz.results137,go_sem,g0,g1]) rfl ⟨⟨_,rfl,hvV⟩,hbV⟩
theorem GM (n:Nat) (v:Value) (w:World) (h:lC w v n) (hn:n<1000000000):
  Calls Tryz.prog 186 #[v] w fun e w'=>(∃o m c,e=.returned (.slice o m c)∧Rd w' .u32 (.slice o m c) (if n=0 then [] else [(n:Int)])∧m=(if n=0 then 0 else 1)∧m≤c)∧Below w.heap.size w w':=by
 obtain⟨i0,hi,hz0,hz1,hz2⟩:=info_parts CH;by_cases h0:n=0
 ·subst h0;rw[lC,if_pos rfl]at h;obtain⟨o,cap,rfl⟩:=aU h;have HC:=Za fun W=>uJ (.slice none 0 0) [] W (Rd.nil _ _ _ _) (by simp) (fun o m c e=>by cases e;omega);clear h;go_enter Tryz.func186,Tryz.ntmps186;go_wp2;go_loopw[3,4] (fun l i wr=>l=.slice none 0 0∧i=.int .i64 0∧Hid (wr=w)) (fun _ _ _=>0)
  case atStart=>exact⟨rfl,rfl,Za rfl⟩
  case round=>
   obtain⟨rfl,rfl,HE⟩:=hrel;rw[HE.o];go_wp2_with(go_at_call 197;refine(HC.o _).mono ?_;rintro e w2 ⟨⟨o2,k,c2,he,rfl,hk,_⟩,rfl⟩;have HK:=Za (Zd he hk);clear he hk);go_ret;obtain⟨he,hk⟩:=HK.o;simp only[List.length_nil,Nat.le_zero]at hk;subst hk;exact⟨⟨_,_,_,rfl,Rd.nil _ _ _ _,rfl,Ze _⟩,Zc _ _⟩
 ·rw[lC,if_neg h0]at h;obtain⟨o,cap,rfl⟩:=aU h;obtain⟨b,off,rfl,hc⟩:=h.cell 0 (by simp);go_enter Tryz.func186,Tryz.ntmps186;have hu:IntKind.u32.wrap (n:Int)=(n:Int):=by rw[IntKind.wrap_u32];omega
  have hu2:IntKind.u32.wrap ((n:Int) / 4294967296)=0:=by
   rw[IntKind.wrap_u32];have:(n:Int) / 4294967296=0:=by omega
   rw[this];rfl
  have HC:=Za hc;have HN0:=Za h0;simp only[Nat.add_zero,aE,List.getD_cons_zero]at hc;clear h h0;go_wp2;go_loopw[3,4] (fun l i wr=>(∃a c,l=.slice a 0 c∧i=.int .i64 0∧Hid (wr=w)∧Hid (w.ownsRow w.heap.size 27 1 (.slice a 0 c) 0 []))∨(∃g cap,l=.slice (some ⟨g,0,none⟩) 2 cap∧i=.int .i64 1∧Hid (wr.ownsRow w.heap.size 27 1 (.slice (some ⟨g,0,none⟩) 2 cap) 2 ([(n:Int),0].map (Value.int .u32))∧Below w.heap.size w wr))) (fun _ i _=>1-(intOf i).toNat)
  case atStart=>exact .inl ⟨none,0,rfl,rfl,Za rfl,Za (World.ownsRow_nil _ _ _ _)⟩
  case round=>
   rcases hrel with⟨a0,c0,rfl,rfl,HE,HO0⟩|⟨g,c2,rfl,rfl,HO⟩
   ·rw[HE.o];go_wp2_with fail;go_region_law(refine step_append_lies _ (by rfl) (.tmp 11) (.tmp 23) 257 (by rfl) w.heap.size 27 i0 (.int .u32 0) 1 4 Tryz.underlying257 hi hz0 hz1 hz2 rfl (by decide) (.slice a0 0 c0) 0 [] ?_ (cF HO0.o (((Zc _ _).alloc (Zb _) _).drew) (Zb _)) ⟨w.heap.size,0,none⟩ 2 2 ([(n:Int),0].map (Value.int .u32)) ?_ rfl (fun j u h=>fS w ([(n:Int),0].map (Value.int .u32)) 27 (0,0) j u h) ?_ (by decide) ?_ ?_ ?_ (w.heap.size+1) ?_ ?_;rfl;rfl;simp[Value.oneCell'];(unfold maxLen;omega);omega;simp;simp;intro gg cap6 w6 hown6 hgrow6 hat hlt6;have HF:=Za (Zd hown6 ((((Zc _ _).alloc (Zb _) _).drew).grown hgrow6 (by simp) (fun k hk=>(HO0.o.lt k hk).1)));clear hown6 hgrow6 hat hlt6)
    all_goals
     go_wp2_with fail;go_roundw
     case rel=>exact .inr ⟨_,_,rfl,by go_num,HF⟩
     case measure=>simp[intOf]
   ·have HC2:=Za (uJ (.slice (some ⟨g,0,none⟩) 2 c2) [(n:Int),0] wr (Rd.of_own (xs:=[(n:Int),0]) HO.o.1) (by simp) (fun o m c e=>by obtain⟨o',c',e2,hle⟩:=iV HO.o.1;cases e;cases e2;exact hle));go_wp2_with(go_at_call 197;refine HC2.o.mono ?_;rintro e w2 ⟨⟨o2,k,c3,he,rfl,hk,hz,hnz⟩,rfl⟩;have HK:=Za (Zd he (Zd hk (Zd hz hnz)));clear he hk hz hnz);go_ret;obtain⟨he,hk,hz,hnz⟩:=HK.o;injection he with he1 he2 he3;subst he1 he3;simp only[List.length_cons,List.length_nil]at hk hz;have hk1:k=1:=by
     have h0:¬k=0:=fun e=>by
      subst e;have:=hz 0 (by omega) (by omega);simp[aE]at this;exact HN0.o this
     have h2:¬k=2:=fun e=>by
      subst e;have:=hnz (by omega);simp[aE]at this
     omega
    subst hk1;refine⟨⟨_,_,_,rfl,?_,rfl,?_⟩,HO.o.2⟩
    ·exact(Rd.of_own (xs:=[(n:Int),0]) HO.o.1).take 1 (by simp)
    ·obtain⟨o',c',e2,hle⟩:=iV HO.o.1;cases e2;omega
theorem RW (n:Nat) (o:Option Addr) (c:Nat) (w:World) (h:Rd w .u32 (.slice o 1 c) [(n:Int)]) (hn:n<1000000000):
  Calls Tryz.prog 187 #[.slice o 1 c,.int .u32 1000000000] w fun e w'=>(∃o2 c2,e=.returned (.tuple #[.slice o2 0 c2,.int .u32 n]))∧Below w.heap.size w w':=by
 obtain⟨i0,hi,hz0,hz1,hz2⟩:=info_parts CH;obtain⟨b,off,rfl,hc⟩:=h.cell 0 (by simp);simp only[Nat.add_zero,aE,List.getD_cons_zero]at hc;have HC:=Za hc;clear h hc;have hsh:IntKind.u64.wrap ((0:Int)*4294967296)=0:=by rw[IntKind.wrap_u64];rfl
 have hor:bits BinOp.or IntKind.u64 0 (n:Int)=(n:Int):=by rw[u64_or _ _ (by omega) (by omega) (by omega) (by omega)];simp
 have hcv:IntKind.u64.wrap (n:Int)=(n:Int):=by rw[IntKind.wrap_u64];omega
 have hcv2:IntKind.u32.wrap (n:Int)=(n:Int):=by rw[IntKind.wrap_u32];omega
 go_enter Tryz.func187,Tryz.ntmps187;go_wp2_with(at_make;refine wpList_make_full _ rfl _ _ 257 rfl w.heap.size 27 i0 (.int .u32 0) 1 Tryz.underlying257 hi hz0 hz1 .i64 .i64 _ _ 1 rfl rfl rfl rfl (by rw[hz2];omega) (by unfold maxLen;omega) (Zb _) ?_;intro w1 hmk hg;refine aD ?_);have HO1:=Za (show aH w1 w.heap.size 27 .u32 (.slice (some ⟨w.heap.size,0,none⟩) 1 1) [0] from aH.made hmk);have HB1:=Za (lW hg);clear hi hz0 hz1 hz2 hmk hg;refine aC ?_;go_wp2;go_loopw[7,8] (fun r i wr=>(r=.int .u64 0∧i=.int .i64 0∧Hid (wr=w1))∨(r=.int .u64 n∧i=.int .i64 (-1)∧Hid (aH wr w.heap.size 27 .u32 (.slice (some ⟨w.heap.size,0,none⟩) 1 1) [0]∧Below w.heap.size w wr))) (fun _ i _=>(intOf i+1).toNat)
 case atStart=>exact .inl ⟨rfl,rfl,Za rfl⟩
 case round=>
  rcases hrel with⟨rfl,rfl,HE⟩|⟨rfl,rfl,HO⟩
  ·rw[HE.o];have hc1:=(HB1.o.cell (p:=⟨b,off,none⟩) (aP HC.o)).trans HC.o;obtain⟨q0,f0⟩:=HO1.o.cell 0 (by simp);simp only[aE,List.getD_cons_zero]at q0;have hdiv:(n:Int) / 1000000000=0:=by omega
   have hmod:(n:Int)%1000000000=(n:Int):=by omega
   go_wp2_with fail;rw[hmod];exact⟨.inr ⟨rfl,rfl,Za ⟨HO1.o.set 0 0,HB1.o.setCell (p:=⟨w.heap.size,0,none⟩) (Zb _) _⟩⟩,by simp[intOf]⟩
  ·have HC2:=Za (uJ (.slice (some ⟨w.heap.size,0,none⟩) 1 1) [0] wr (Rd.of_own HO.o.1) (by simp) (fun o m c e=>by cases e;omega));go_wp2_with(go_at_call 197;refine HC2.o.mono ?_;rintro e w2 ⟨⟨o2,k,c3,he,rfl,hk,hz,hnz⟩,rfl⟩;have HK:=Za (Zd he (Zd hk (Zd hz hnz)));clear he hk hz hnz);obtain⟨he,hk,hz,hnz⟩:=HK.o;have hk0:k=0:=by
    by_cases h0:0<k
    ·simp only[List.length_singleton]at hk;have h1:k=1:=by omega
     subst h1;exact absurd rfl (hnz h0)
    ·omega
   subst hk0;exact bodyPost_ret (v:=.tuple #[.slice o2 0 c3,.int .u32 n]) (by simp[results,Tryz.results187,go_sem]) rfl ⟨⟨_,_,rfl⟩,HO.o.2⟩
theorem IW {w:World} {v:Value} {xs:List Int} (h:Rd w .u8 v xs) (h0:0<xs.length):
  (convert 23 9 v).run Tryz.prog w=.ok (.string (strOfNums xs)) w:=by obtain⟨o,cap,rfl,hc⟩:=h;obtain⟨b,off,rfl,_⟩:=hc 0 h0;refine run_convert_bytes_arg w _ _ Tryz.underlying23 Tryz.underlying5 b off _ cap xs rfl (fun i hi=>?_) _ Tryz.underlying9;obtain⟨b',off',e,hcell⟩:=hc i hi;simp at e;obtain⟨rfl,rfl⟩:=e;rw[hcell,dK _ _ hi];simp[hi]
theorem KD (n c:Nat) (h0:0<n) (h:n<10^(c+1)) (hc:10^c≤n):strOfNums (iR n (c+1) (c+1))=⟨(Lib.decDigits n).toArray⟩:=by
 rw[←EJ c n h (fun _=>hc)];have e:((fun m:Int=>UInt8.ofNat m.toNat)∘fun b:UInt8=>(b.toNat:Int))=id:=by funext b;simp
 simp[strOfNums,List.map_map,e]
theorem O9 (n:Nat) (v:Value) (w:World) (h:lC w v n) (hn:n<1000000000):
  Calls Tryz.prog 166 #[v] w fun e w'=>e=.returned (.string ⟨(Lib.decDigits n).toArray⟩)∧Below w.heap.size w w':=by
 obtain⟨i0,hi,hz0,hz1,hz2⟩:=info_parts zM;have HH:=Za (GM n v w h hn);by_cases h0:n=0
 ·have HD:=Za (show(Lib.decDigits n).toArray=#[48] by rw[h0,Lib.decDigits,dif_pos (by omega)];rfl);obtain⟨o0,m0,c0,rfl⟩:∃o m c,v=.slice o m c:=by obtain⟨o,c,e⟩:=aU h;exact⟨_,_,_,e⟩
  clear h;go_enter Tryz.func166,Tryz.ntmps166;go_wp2_with(go_at_call 186;refine HH.o.mono ?_;rintro e w2 ⟨⟨o,m,c,rfl,_,hm,_⟩,hb2⟩;rw[if_pos h0]at hm;subst hm;have HB2:=Za hb2;clear hb2);go_ret;exact⟨by rw[HD.o];rfl,HB2.o⟩
 ·obtain⟨o0,m0,c0,rfl⟩:∃o m c,v=.slice o m c:=by obtain⟨o,c,e⟩:=aU h;exact⟨_,_,_,e⟩
  have HN0:=Za h0;clear h h0;go_enter Tryz.func166,Tryz.ntmps166;go_wp2_with(go_at_call 186;refine HH.o.mono ?_;rintro e w2 ⟨⟨o,m,c,rfl,hr,hm,_⟩,hb2⟩;rw[if_neg HN0.o]at hm hr;subst hm;have HB2:=Za hb2;have HR2:=Za hr;clear hb2 hr);have HSH:=Za (RW n o c w2 HR2.o hn);go_loopw[3,4] (fun x ds wr=>(∃o3 c3,x=.slice o3 0 c3∧Hid (∃d3 e3,ds=.slice d3 9 e3)∧Hid (aH wr w.heap.size 5 .u8 ds (i6 n 9)∧Below w.heap.size w wr))∨(x=.slice o 1 c∧ds=.slice none 0 0∧Hid (wr=w2))) (fun x _ _=>match x with|.slice _ m _=>m|_=>0)
  case atStart=>exact .inr ⟨rfl,rfl,Za rfl⟩
  case round=>
   rcases hrel with⟨o3,c3,rfl,HD,HO⟩|⟨rfl,rfl,HE⟩
   ·obtain⟨d3,e3,rfl⟩:=HD.o;obtain⟨w5,rfl⟩:∃w5,w5=wr:=⟨_,rfl⟩;have HR5:=Za (Rd.of_own HO.o.1);have h5:9≤(i6 n 9).length:=by rw[qY];omega
    go_wp2_with fail;go_loopw[8] (fun i wr=>∃k:Nat,i=.int .i64 k∧k≤9∧Hid (n<10^k)∧Hid (wr=w5)) (fun i _=>(intOf i).toNat)
    case atStart=>exact⟨9,rfl,by omega,Za (by omega),Za rfl⟩
    case round=>
     obtain⟨k,rfl,hk,HK,HE⟩:=hrel;rw[HE.o];have hk0:0<k:=by
      rcases Nat.eq_zero_or_pos k with h|h
      ·subst h;have:=HK.o;simp at this;exact absurd this HN0.o
      ·exact h
     obtain⟨b,off,hdo,hcell⟩:=HR5.o.cell (k-1) (by omega);subst hdo;rw[EA n 9 (k-1) (by omega)]at hcell;obtain⟨x,hx⟩:∃x,x=iI n (k-1):=⟨_,rfl⟩;rw[←hx]at hcell;have HX:=Za hx;clear hx;have hw1:IntKind.i64.wrap ((k:Int)-1)=((k-1:Nat):Int):=by rw[IntKind.wrap_i64];omega
     by_cases hx48:x=48
     ·subst hx48;have HK2:=Za (show n<10^(k-1) by
       have h1:=HX.o;have h2:=HK.o;have h3:10^k=10^(k-1)*10:=by rw[←Nat.pow_succ];congr 1;omega
       have hp:0<10^(k-1):=Nat.pow_pos (by omega);rw[h3]at h2;have h4:n / 10^(k-1)<10:=(Nat.div_lt_iff_lt_mul hp).2 (by rw[Nat.mul_comm];exact h2);rw[iI]at h1;have h6:n / 10^(k-1)=0:=by generalize n / 10^(k-1)=q at h1 h4;omega
       rcases(Nat.div_eq_zero_iff (a:=n) (b:=10^(k-1))).1 h6 with h7|h7
       ·omega
       ·exact h7)
      go_wp2_with fail;go_roundw
      case rel=>exact⟨k-1,by go_num,by omega,HK2,by first|exact Za trivial|exact Za rfl⟩
      case measure=>simp[intOf];omega
     ·have hne:(x==48)=false:=by simpa using hx48
      have HG:=Za (show 10^(k-1)≤n by
       have h1:=HX.o;rcases Nat.lt_or_ge n (10^(k-1))with h|h
       ·rw[iI,Nat.div_eq_of_lt h]at h1;exact absurd h1 hx48
       ·exact h)
      go_wp2_with fail;clear hcell hw1;go_loopw[9,10] (fun bs i wr=>∃j:Nat,j≤k∧i=.int .i64 ((k:Int)-1-j)∧Hid (∃d4 e4,bs=.slice d4 j e4)∧Hid (aH wr w5.heap.size 5 .u8 bs (iR n k j)∧Below w5.heap.size w5 wr)) (fun _ i _=>(intOf i+1).toNat)
      case atStart=>exact⟨0,by omega,by go_num,Za ⟨_,_,rfl⟩,Za ⟨World.ownsRow_nil _ _ _ _,Zc _ _⟩⟩
      case round=>
       obtain⟨j,hj,rfl,HD4,HO4⟩:=hrel;obtain⟨d4,e4,hbs⟩:=HD4.o;subst hbs;by_cases hlt:j<k
       ·obtain⟨b2,off2,hdo2,hc2⟩:=(HR5.o.next' HO4.o.2).cell (k-1-j) (by omega);cases hdo2;rw[EA n 9 (k-1-j) (by omega)]at hc2;obtain⟨y,hy⟩:∃y,y=iI n (k-1-j):=⟨_,rfl⟩;rw[←hy]at hc2;have HY:=Za (show iR n k (j+1)=iR n k j++[y] by rw[DF,hy]);clear hy;have htn:((k:Int)-1-j).toNat=k-1-j:=by omega
        have HOO:=Za (show wr.ownsRow w5.heap.size 5 1 (.slice d4 j e4) j ((iR n k j).map (.int .u8)) by have:=HO4.o.1;rw[aH,tI]at this;exact this);have hi0:(0:Int)≤(k:Int)-1-j:=by omega
        have hi9:(k:Int)-1-j<9:=by omega
        have HSZ:=Za HO4.o.2.size;go_wp2_with(at_builtin;refine wpList_append_own _ rfl _ _ 23 rfl w5.heap.size 5 i0 (.int .u8 0) 1 1 Tryz.underlying23 hi hz0 hz1 hz2 rfl (by decide) _ _ _ rfl (HOO.o.alloc _) ⟨wr.heap.size,0,none⟩ 1 1 [.int .u8 y] rfl rfl (cell_one_new _ _ _) (by simp[Value.oneCell']) (by unfold maxLen;omega) (by omega) (by have:=HSZ.o;simp;omega) ?_;intro v' w1 hown' hgrow _;refine aD ?_);have HV:=Za (Zd hown' (nF HO4.o.2 (Zb _) HOO.o hgrow));clear hown' hgrow;refine aC ?_;go_wp2_with fail;go_roundw
        case rel=>exact⟨j+1,by omega,by go_num,Za (by obtain⟨a,c9,e⟩:=aJ HV.o.1;exact⟨_,_,e⟩),Za ⟨by rw[HY.o,aH,Zl,tI,List.map_append];exact HV.o.1,HV.o.2⟩⟩
        case measure=>simp[intOf];omega
       ·obtain rfl:j=k:=by omega
        have hneg:¬(0:Int)≤(j:Int)-1-j:=by omega
        have hcv:=IW (Rd.of_own HO4.o.1) (by rw[tI];exact hk0);have hst:strOfNums (iR n j j)=⟨(Lib.decDigits n).toArray⟩:=by obtain⟨q,rfl⟩:∃q,j=q+1:=⟨j-1,by omega⟩;exact KD n q (Nat.pos_of_ne_zero HN0.o) HK.o HG.o
        rw[hst]at hcv;have HBW:=Za (HO.o.2.trans (HO4.o.2.mono HO.o.2.size));clear hst;go_wp2_with fail;go_ret;exact⟨rfl,HBW.o⟩
   ·rw[HE.o];go_wp2_with(go_at_call 187;refine HSH.o.mono ?_;rintro e w4 ⟨⟨o4,c4,rfl⟩,hb4⟩;have HB4:=Za (HB2.o.trans (hb4.mono HB2.o.size));clear hb4);go_loopw[4,6,7] (fun ds r i wr=>∃k:Nat,k≤9∧i=.int .i64 k∧r=.int .u32 ((n / 10^k:Nat):Int)∧Hid (∃d3 e3,ds=.slice d3 k e3)∧Hid (aH wr w.heap.size 5 .u8 ds (i6 n k)∧Below w.heap.size w wr)) (fun _ _ i _=>9-(intOf i).toNat)
    case atStart=>exact⟨0,by omega,rfl,by simp,Za ⟨_,_,rfl⟩,Za ⟨World.ownsRow_nil _ _ _ _,HB4.o⟩⟩
    case round=>
     obtain⟨k,hk,rfl,rfl,HD,HO⟩:=hrel;obtain⟨d3,e3,hds⟩:=HD.o;subst hds;by_cases hlt:k<9
     ·obtain⟨m,hm⟩:∃m,m=n / 10^k:=⟨_,rfl⟩;have hml:m≤n:=by rw[hm];exact Nat.div_le_self _ _
      have HM:=Za hm;rw[←hm];clear hm;have hu1:IntKind.u32.wrap (48+(m:Int)%10)=48+(m:Int)%10:=by rw[IntKind.wrap_u32];omega
      have hu2:IntKind.u8.wrap (48+(m:Int)%10)=48+(m:Int)%10:=by rw[IntKind.wrap_u8];omega
      have hu3:IntKind.u32.wrap ((m:Int) / 10)=(m:Int) / 10:=by rw[IntKind.wrap_u32];omega
      have HN:=Za (show i6 n (k+1)=i6 n k++[48+(m:Int)%10] by rw[MD,iI,←HM.o];simp);have HM2:=Za (show n / 10^(k+1)=m / 10 by rw[HM.o,Nat.div_div_eq_div_mul,←Nat.pow_succ]);have HOO:=Za (show wr.ownsRow w.heap.size 5 1 (.slice d3 k e3) k ((i6 n k).map (.int .u8)) by have:=HO.o.1;rw[aH,qY]at this;exact this);go_wp2_with(at_builtin;refine wpList_append_own _ rfl _ _ 23 rfl w.heap.size 5 i0 (.int .u8 0) 1 1 Tryz.underlying23 hi hz0 hz1 hz2 rfl (by decide) _ _ _ rfl (HOO.o.alloc _) ⟨wr.heap.size,0,none⟩ 1 1 [.int .u8 (48+(m:Int)%10)] rfl rfl (cell_one_new _ _ _) (by simp[Value.oneCell']) (by unfold maxLen;omega) (by omega) (by have:=HO.o.2.size;simp;omega) ?_;intro v' w1 hown' hgrow _;refine aD ?_);have HV:=Za (Zd hown' (nF HO.o.2 (Zb _) HOO.o hgrow));clear hown' hgrow;refine aC ?_;go_wp2_with fail;go_roundw
      case rel=>exact⟨k+1,by omega,by go_num,by rw[HM2.o];simp,Za (by obtain⟨a,c9,e⟩:=aJ HV.o.1;exact⟨_,_,e⟩),Za ⟨by rw[HN.o,aH,Zl,qY,List.map_append];exact HV.o.1,HV.o.2⟩⟩
      case measure=>simp[intOf];omega
     ·obtain rfl:k=9:=by omega
      go_wp2_with fail;go_roundw
      case rel=>exact .inl ⟨_,_,rfl,Za ⟨_,_,rfl⟩,HO⟩
      case measure=>simp
theorem OV (n:Nat) (v:Value) (w:World) (h:lC w v n) (hn:n<1000000000):
  Calls Tryz.prog 136 #[.agg #[.bool false,v]] w fun e w'=>e=.returned (.string ⟨(Lib.itoa n).toArray⟩)∧Below w.heap.size w w':=by
 obtain⟨W,hW⟩:∃W,W=w.alloc (.cells #[.bool false,v] 209):=⟨_,rfl⟩;have hbx:aA W w.heap.size 209 #[.bool false,v]:=by rw[hW];exact aA.new _ _ _
 have hbw:Below w.heap.size w W:=by rw[hW];exact(Zc _ _).alloc (Zb _) _
 have HT:=Za (O9 n v W (Rd.next' h hbw) hn);have HI:=Za (show Lib.itoa (n:Int)=Lib.decDigits n from tN n);obtain⟨o0,m0,c0,rfl⟩:∃o m c,v=.slice o m c:=by obtain⟨o,c,e⟩:=aU h;exact⟨_,_,_,e⟩
 have HB:=Za hbw;have HW:=Za hW;have c0':=hbx.q 0 rfl;have c1':=hbx.q 1 rfl;rw[hW]at c0' c1';clear h hbx hbw hW;go_enter Tryz.func136,Tryz.ntmps136;go_wp2_with(go_at_call 166;rw[←HW.o];refine HT.o.mono ?_;rintro e w2 ⟨rfl,hb2⟩;have HB2:=Za (HB.o.trans (hb2.mono HB.o.size));clear hb2);go_ret;exact⟨by rw[HI.o];rfl,HB2.o⟩
end Go.Proofs.YtjhkdocidcfpdaaGreatDoor
