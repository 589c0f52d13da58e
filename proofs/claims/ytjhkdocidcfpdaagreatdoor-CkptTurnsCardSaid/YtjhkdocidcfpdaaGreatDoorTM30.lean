/-
  A part of the proof of a law (packed by program).
-/
import Derived.Test.YtjhkdocidcfpdaaGreatDoorTM27
import Derived.Test.YtjhkdocidcfpdaaGreatDoorTM29
import Derived.Test.YtjhkdocidcfpdaaGreatDoorTM23
set_option linter.unusedVariables false
set_option linter.unusedSimpArgs false
set_option maxRecDepth 100000
set_option maxHeartbeats 16000000
open List renaming setIfInBounds_toArray → Zf, set_cons_zero → Zg, set_cons_succ → Zh, getElem_cons_zero → Zi, getElem_cons_succ → Zj, getElem_toArray → Zk, length_append → Zl
namespace Go.Proofs.YtjhkdocidcfpdaaGreatDoor
open Go.RowKit Go.Shelf Go
theorem uL:(Tryz.prog.info? 40).map (fun i=>(i.zero,i.size,i.bytes))=some (some (.int .u64 0),1,8):=by kernel_rfl
theorem oF:(Tryz.prog.info? 100).map (fun i=>(i.zero,i.size,i.bytes))=some (some (.agg #[.slice none 0 0,.slice none 0 0]),2,48):=by kernel_rfl
theorem zY (n b:Nat) (h:n≤1000000) (hn:0<n) (hb:b≤100):Builtin.nextslicecap (0+n) 0*b≤281474976710656:=by refine growslice_fits (by omega) ?_;have:=Nat.mul_le_mul h hb;rw[Nat.zero_add];omega
theorem rN (z:Value) (k s:Nat) (h:z.cells.size=s):(Builtin.zeroCells z.cells k).size=k*s:=by rw[size_zeroCells,h]
theorem BU {w:World} {e:TypeId} {s cap:Nat} {cur:Array Value} (hs:cur.size=cap*s) (hc:cap≤maxLen):(w.drew.alloc (.cells cur e)).ownsRow w.heap.size e s (.slice (some ⟨w.heap.size,0,none⟩) 0 cap) 0 []:=
 ⟨by simp,.inr ⟨w.heap.size,cap,cur,rfl,Zb _,aA.new w.drew e cur,Ze _,hc,hs,by simp⟩⟩
theorem NZ (n:Nat) (w:World) (hn:n≤1000000):
  Calls Tryz.prog 104 #[.slice none 0 0,.int .i64 n] w fun e w'=>(∃v,e=.returned v∧w'.ownsRow w.heap.size 40 1 v 0 [])∧Below w.heap.size w w':=by
 obtain⟨i0,hi,hz0,hz1,hz2⟩:=info_parts uL;by_cases h0:n=0
 ·subst h0;go_enter Tryz.func104,Tryz.ntmps104;go_wp2;go_ret;exact⟨⟨_,rfl,World.ownsRow_nil _ _ _ _⟩,Zc _ _⟩
 ·have hrz:∀(ty:TypeId) (W:World),(Builtin.append_ #[39,3] ty #[.slice none 0 0,.int .i64 (n:Int)]).run Tryz.prog W=
    .ok (.slice (some ⟨W.heap.size,0,none⟩) n (grownCap W n 0 40)) (W.drew.alloc (.cells (#[]++Builtin.zeroCells (Value.cells (.int .u64 0)) n++Builtin.zeroCells (Value.cells (.int .u64 0)) (grownCap W n 0 40-n)) 40)):=fun ty W=>by
   have h:=Lib.run_append_grow_zeros W 39 3 ty 40 i0 (.int .u64 0) .i64 .i64 Tryz.underlying39 Tryz.underlying3 hi hz0 none 0 0 [] (run_firstCells_none W.drew i0.size 0 0 0) n (by omega) (by rw[hz1];decide) (by omega) (by omega) (by rw[hz2];omega) (by rw[hz2];exact zY n 8 hn (by omega) (by omega))
   simpa using h
  have hGn:n≤grownCap w n 0 40:=grownCap_ge w _ _ _;have hGm:grownCap w n 0 40≤maxLen:=grownCap_le_maxLen w n 0 40 (by unfold maxLen;omega);have hrw:=fun ty=>hrz ty w;obtain⟨G,hG⟩:∃G,G=grownCap w n 0 40:=⟨_,rfl⟩;rw[←hG]at hrw hGn hGm;have hG63:G≤9223372036854775807:=by unfold maxLen at hGm;omega
  have h1:¬((n:Int)<0):=by omega
  have h4:(n:Int) > 0:=by omega
  have h5:(0:Int)<(n:Int):=by omega
  obtain⟨cur,hcur⟩:∃cur,cur=(#[]++Builtin.zeroCells (Value.cells (.int .u64 0)) n++Builtin.zeroCells (Value.cells (.int .u64 0)) (G-n)):=⟨_,rfl⟩;rw[←hcur]at hrw;have HS:=Za (show cur.size=G*1 by
   rw[hcur,Array.size_append,Array.size_append,rN _ _ 1 rfl,rN _ _ 1 rfl];simp;omega)
  have HGM:=Za hGm;clear hrz hG hcur hGm;go_enter Tryz.func104,Tryz.ntmps104;go_wp2_with(at_builtin;refine Lib.wpList_append_run _ rfl _ _ _ _ rfl _ _ rfl rfl _ _ (hrw _) ?_)
  all_goals
   go_ret;exact⟨⟨_,rfl,BU HS.o HGM.o⟩,((Zc _ _).drew).alloc (Zb _) _⟩
theorem IJ (n:Nat) (w:World) (hn:n≤1000000):
  Calls Tryz.prog 103 #[.slice none 0 0,.int .i64 n] w fun e w'=>(∃v,e=.returned v∧w'.ownsRow w.heap.size 100 2 v 0 [])∧Below w.heap.size w w':=by
 obtain⟨i0,hi,hz0,hz1,hz2⟩:=info_parts oF;by_cases h0:n=0
 ·subst h0;go_enter Tryz.func103,Tryz.ntmps103;go_wp2;go_ret;exact⟨⟨_,rfl,World.ownsRow_nil _ _ _ _⟩,Zc _ _⟩
 ·have hrz:∀(ty:TypeId) (W:World),(Builtin.append_ #[36,3] ty #[.slice none 0 0,.int .i64 (n:Int)]).run Tryz.prog W=
    .ok (.slice (some ⟨W.heap.size,0,none⟩) n (grownCap W n 0 100)) (W.drew.alloc (.cells (#[]++Builtin.zeroCells (Value.cells (.agg #[.slice none 0 0,.slice none 0 0])) n++Builtin.zeroCells (Value.cells (.agg #[.slice none 0 0,.slice none 0 0])) (grownCap W n 0 100-n)) 100)):=fun ty W=>by
   have h:=Lib.run_append_grow_zeros W 36 3 ty 100 i0 (.agg #[.slice none 0 0,.slice none 0 0]) .i64 .i64 Tryz.underlying36 Tryz.underlying3 hi hz0 none 0 0 [] (run_firstCells_none W.drew i0.size 0 0 0) n (by omega) (by rw[hz1];decide) (by omega) (by omega) (by rw[hz2];omega) (by rw[hz2];exact zY n 48 hn (by omega) (by omega))
   simpa using h
  have hGn:n≤grownCap w n 0 100:=grownCap_ge w _ _ _;have hGm:grownCap w n 0 100≤maxLen:=grownCap_le_maxLen w n 0 100 (by unfold maxLen;omega);have hrw:=fun ty=>hrz ty w;obtain⟨G,hG⟩:∃G,G=grownCap w n 0 100:=⟨_,rfl⟩;rw[←hG]at hrw hGn hGm;have hG63:G≤9223372036854775807:=by unfold maxLen at hGm;omega
  have h1:¬((n:Int)<0):=by omega
  have h4:(n:Int) > 0:=by omega
  have h5:(0:Int)<(n:Int):=by omega
  obtain⟨cur,hcur⟩:∃cur,cur=(#[]++Builtin.zeroCells (Value.cells (.agg #[.slice none 0 0,.slice none 0 0])) n++Builtin.zeroCells (Value.cells (.agg #[.slice none 0 0,.slice none 0 0])) (G-n)):=⟨_,rfl⟩;rw[←hcur]at hrw;have HS:=Za (show cur.size=G*2 by
   rw[hcur,Array.size_append,Array.size_append,rN _ _ 2 rfl,rN _ _ 2 rfl];simp;omega)
  have HGM:=Za hGm;clear hrz hG hcur hGm;go_enter Tryz.func103,Tryz.ntmps103;go_wp2_with(at_builtin;refine Lib.wpList_append_run _ rfl _ _ _ _ rfl _ _ rfl rfl _ _ (hrw _) ?_)
  all_goals
   go_ret;exact⟨⟨_,rfl,BU HS.o HGM.o⟩,((Zc _ _).drew).alloc (Zb _) _⟩
structure iQ (w:World) (sz:Nat) (u:Value) (m:Nat) (cs:List Value):Prop where
 len:cs.length=m*sz
 one:∀x∈cs,x.oneCell'=true
 at_:∃o c,u=.slice o m c∧∀j x,cs[j]?=some x→∃b off,o=some ⟨b,off,none⟩∧w.cell? ⟨b,off+j,none⟩=some x
theorem iQ.below {w w':World} {B sz m:Nat} {u:Value} {cs:List Value} (h:iQ w sz u m cs) (hb:Below B w w') (hs:w.heap.size≤B):iQ w' sz u m cs:=by obtain⟨o,c,rfl,hc⟩:=h.at_;refine⟨h.len,h.one,o,c,rfl,fun j x hj=>?_⟩;obtain⟨b,off,rfl,hcell⟩:=hc j x hj;exact⟨b,off,rfl,(hb.cell (p:=⟨b,off+j,none⟩) (Nat.lt_of_lt_of_le (aP hcell) hs)).trans hcell⟩
theorem LY {P:Program} (w:World) (t ty:TypeId) (B:Nat) (e:TypeId) (z:Value) (sz:Nat) (i:TypeInfo) (bytes:Nat) (ht:P.underlying t=some (.slice e)) (hi:P.info? e=some i) (hz:i.zero=some z) (hsize:i.size=sz) (hby:i.bytes=bytes) (hzs:z.cells.size=sz) (hsz:0<sz)
  (v:Value) (n:Nat) (xs:List Value) (hown:w.ownsRow B e sz v n xs) (u:Value) (m:Nat) (ys:List Value) (hr:iQ w sz u m ys)
  (h63:n+m≤maxLen) (hbytes:(n+m)*bytes≤140737488355328) (hbase:B≤w.heap.size):
  ∃v' w',(Builtin.append_ #[t,t] ty #[v,u]).run P w=.ok v' w'∧w'.ownsRow B e sz v' (n+m) (xs++ys)∧w.grownBy w' v.ownBlock:=by
 obtain⟨o,c,rfl,hc⟩:=hr.at_;by_cases h0:m=0
 ·subst h0;have:ys=[]:=List.eq_nil_of_length_eq_zero (by have:=hr.len;omega);subst this;obtain⟨ov,cap,rfl,hle⟩:=iV hown;refine⟨_,w,tR w t ty e i ht hi _ _ _ _ _ hle,?_,⟨rfl,rfl,rfl,Zb _,fun _ _ _=>rfl⟩⟩;rw[List.append_nil];exact hown
 ·have hl:0<ys.length:=by rw[hr.len];exact Nat.mul_pos (by omega) hsz
  obtain⟨b,off,rfl,_⟩:=hc 0 ys[0] (List.getElem?_eq_getElem hl);obtain⟨v',w',hrun,h2,h3,_,h5⟩:=run_append_own_at (P:=P) w B t ty e i z sz bytes ht hi hz hsize hby hzs hsz v n _ hown ⟨b,off,none⟩ m c ys hr.len (fun j x hj=>by
    obtain⟨b',off',he,hcell⟩:=hc j x hj;cases he;rw[Addr.add_lit];exact hcell) hr.one h63 hbytes hbase
  exact⟨v',w',hrun,h2,h3⟩
theorem rS {P:Program} {ops:Array Oper} {rest:List Oper} {o:Oper} {a:Act} {w:World} {Q:Exit→Act→World→Prop} (hgd:o.guard=none) (s x:Operand) (t:TypeId)
  (ho:o.op=.call {callee:=.builtin .append,args:=#[s,x],argTypes:=#[t,t]})
  (B:Nat) (e:TypeId) (z:Value) (sz:Nat) (i:TypeInfo) (bytes:Nat) (ht:P.underlying t=some (.slice e)) (hi:P.info? e=some i) (hz:i.zero=some z) (hsize:i.size=sz) (hby:i.bytes=bytes) (hzs:z.cells.size=sz) (hsz:0<sz)
  (v:Value) (n:Nat) (xs:List Value) (hs:a.eval s=v) (hown:w.ownsRow B e sz v n xs) (u:Value) (m:Nat) (ys:List Value) (hx:a.eval x=u) (hr:iQ w sz u m ys)
  (h63:n+m≤maxLen) (hbytes:(n+m)*bytes≤140737488355328) (hbase:B≤w.heap.size)
  (h:∀v' w',w'.ownsRow B e sz v' (n+m) (xs++ys)→w.grownBy w' v.ownBlock→wpList P ops Q rest (a.put o.dst v') w'):
  wpList P ops Q (o::rest) a w:=by refine wpList_plain hgd fun K' hK=>?_;obtain⟨v',w',hrun,h2,h3⟩:=LY (P:=P) w t o.type B e z sz i bytes ht hi hz hsize hby hzs hsz v n xs hown u m ys hr h63 hbytes hbase;unfold Oper.wp execOp;simp only[ho,resolve,invoke,builtin,Sem.run_bind,Sem.run_pure,Result.andThen_ok,List.map_toArray,List.map_cons,List.map_nil,hs,hx,hrun];exact hK _ _ (h v' w' h2 h3)
theorem MM (g off cap m0 m1:Nat) (v0 v1:Value) (c0 c1:List Value) (w:World) (h0:w.cell? ⟨g,off,none⟩=some v0) (h1:w.cell? ⟨g,off+1,none⟩=some v1) (r0:iQ w 1 v0 m0 c0) (r1:iQ w 1 v1 m1 c1) (hm:m0+m1≤1000000):
  Calls Tryz.prog 46 #[.slice (some ⟨g,off,none⟩) 2 cap] w fun e w'=>(∃v,e=.returned v∧w'.ownsRow w.heap.size 40 1 v (m0+m1) (c0++c1))∧Below w.heap.size w w':=by
 obtain⟨i0,hi,hz0,hz1,hz2⟩:=info_parts uL;obtain⟨oa,ca,hva,_⟩:=r0.at_;obtain⟨ob,cb,hvb,_⟩:=r1.at_;subst hva hvb;have HR0:=Za r0;have HR1:=Za r1;have HC:=Za (Zd h0 h1);have hm0:m0≤1000000:=by omega
 have hm1:m1≤1000000:=by omega
 have hs01:IntKind.i64.wrap ((m0:Int)+(m1:Int))=((m0+m1:Nat):Int):=by rw[IntKind.wrap_i64];omega
 have hn1:¬((m0:Int)<0):=by omega
 have hn2:¬(((m0+m1:Nat):Int)<0):=by omega
 clear r0 r1;go_enter Tryz.func46,Tryz.ntmps46;go_wp2;go_loopw[3,11] (fun s i wr=>wr=w∧((i=.int .i64 0∧s=.int .i64 0)∨(i=.int .i64 1∧s=.int .i64 m0)∨(i=.int .i64 2∧s=.int .i64 (m0+m1:Nat)))) (fun _ i _=>2-(intOf i).toNat)
 case atStart=>exact⟨rfl,.inl ⟨rfl,rfl⟩⟩
 case round=>
  obtain⟨rfl,⟨rfl,rfl⟩|⟨rfl,rfl⟩|⟨rfl,rfl⟩⟩:=hrel
  ·go_wp2;go_roundw
   case rel=>exact⟨trivial,.inr (.inl ⟨rfl,by go_num⟩)⟩
   case measure=>simp[intOf]
  ·go_wp2;go_roundw
   case rel=>exact⟨trivial,.inr (.inr ⟨rfl,by go_num⟩)⟩
   case measure=>simp[intOf]
  ·obtain⟨W0,rfl⟩:∃W0,W0=wr:=⟨_,rfl⟩;go_wp2_with(go_at_call 104;refine(NZ (m0+m1) _ hm).mono ?_;rintro e w1 ⟨⟨v,rfl,hown⟩,hb⟩;refine aD ?_);have HO:=Za hown;have HB:=Za hb;clear hown hb h0 h1;refine aC ?_;obtain⟨ov,cv,rfl⟩:=aJ HO.o;clear hs01 hn1 hn2;go_wp2;go_loopw[6,27] (fun v i wr=>W0.heap.size≤wr.heap.size∧Below W0.heap.size W0 wr∧((i=.int .i64 0∧wr.ownsRow W0.heap.size 40 1 v 0 [])∨(i=.int .i64 1∧wr.ownsRow W0.heap.size 40 1 v m0 c0)∨(i=.int .i64 2∧wr.ownsRow W0.heap.size 40 1 v (m0+m1) (c0++c1)))) (fun _ i _=>2-(intOf i).toNat)
   case atStart=>exact⟨HB.o.size,HB.o,.inl ⟨rfl,HO.o⟩⟩
   case round=>
    obtain⟨hsz,hB,⟨rfl,hown⟩|⟨rfl,hown⟩|⟨rfl,hown⟩⟩:=hrel
    ·have HB2:=Za hB;have HO2:=Za hown;have d0:=aT hB HC.o.1;clear hB hown;go_wp2_with(at_builtin;refine rS rfl _ _ 39 rfl W0.heap.size 40 (.int .u64 0) 1 i0 8 Tryz.underlying39 hi hz0 hz1 hz2 rfl (by decide) _ _ _ rfl HO2.o _ m0 c0 rfl (HR0.o.below HB2.o (Zb _)) (by unfold maxLen;omega) (by omega) hsz ?_;intro v' w2 hown' hgrow);rw[Nat.zero_add,List.nil_append]at hown';have HB3:=Za (HB2.o.trans (pI HO2.o hgrow hsz));have HO3:=Za hown';clear hown' hgrow d0;go_roundw
     case rel=>exact⟨HB3.o.size,HB3.o,.inr (.inl ⟨rfl,HO3.o⟩)⟩
     case measure=>simp[intOf]
    ·have HB2:=Za hB;have HO2:=Za hown;have d0:=aT hB HC.o.2;clear hB hown;go_wp2_with(at_builtin;refine rS rfl _ _ 39 rfl W0.heap.size 40 (.int .u64 0) 1 i0 8 Tryz.underlying39 hi hz0 hz1 hz2 rfl (by decide) _ _ _ rfl HO2.o _ m1 c1 rfl (HR1.o.below HB2.o (Zb _)) (by unfold maxLen;omega) (by omega) hsz ?_;intro v' w2 hown' hgrow);have HB3:=Za (HB2.o.trans (pI HO2.o hgrow hsz));have HO3:=Za hown';clear hown' hgrow d0;go_roundw
     case rel=>exact⟨HB3.o.size,HB3.o,.inr (.inr ⟨rfl,HO3.o⟩)⟩
     case measure=>simp[intOf]
    ·have HB2:=Za hB;have HO2:=Za hown;clear hB hown;go_wp2;go_ret;exact⟨⟨_,rfl,HO2.o⟩,HB2.o⟩
theorem MT (g off cap m0 m1:Nat) (v0 v1:Value) (c0 c1:List Value) (w:World) (h0:w.cell? ⟨g,off,none⟩=some v0) (h1:w.cell? ⟨g,off+1,none⟩=some v1) (r0:iQ w 2 v0 m0 c0) (r1:iQ w 2 v1 m1 c1) (hm:m0+m1≤1000000):
  Calls Tryz.prog 45 #[.slice (some ⟨g,off,none⟩) 2 cap] w fun e w'=>(∃v,e=.returned v∧w'.ownsRow w.heap.size 100 2 v (m0+m1) (c0++c1))∧Below w.heap.size w w':=by
 obtain⟨i0,hi,hz0,hz1,hz2⟩:=info_parts oF;obtain⟨oa,ca,hva,_⟩:=r0.at_;obtain⟨ob,cb,hvb,_⟩:=r1.at_;subst hva hvb;have HR0:=Za r0;have HR1:=Za r1;have HC:=Za (Zd h0 h1);have hm0:m0≤1000000:=by omega
 have hm1:m1≤1000000:=by omega
 have hs01:IntKind.i64.wrap ((m0:Int)+(m1:Int))=((m0+m1:Nat):Int):=by rw[IntKind.wrap_i64];omega
 have hn1:¬((m0:Int)<0):=by omega
 have hn2:¬(((m0+m1:Nat):Int)<0):=by omega
 clear r0 r1;go_enter Tryz.func45,Tryz.ntmps45;go_wp2;go_loopw[3,11] (fun s i wr=>wr=w∧((i=.int .i64 0∧s=.int .i64 0)∨(i=.int .i64 1∧s=.int .i64 m0)∨(i=.int .i64 2∧s=.int .i64 (m0+m1:Nat)))) (fun _ i _=>2-(intOf i).toNat)
 case atStart=>exact⟨rfl,.inl ⟨rfl,rfl⟩⟩
 case round=>
  obtain⟨rfl,⟨rfl,rfl⟩|⟨rfl,rfl⟩|⟨rfl,rfl⟩⟩:=hrel
  ·go_wp2;go_roundw
   case rel=>exact⟨trivial,.inr (.inl ⟨rfl,by go_num⟩)⟩
   case measure=>simp[intOf]
  ·go_wp2;go_roundw
   case rel=>exact⟨trivial,.inr (.inr ⟨rfl,by go_num⟩)⟩
   case measure=>simp[intOf]
  ·obtain⟨W0,rfl⟩:∃W0,W0=wr:=⟨_,rfl⟩;go_wp2_with(go_at_call 103;refine(IJ (m0+m1) _ hm).mono ?_;rintro e w1 ⟨⟨v,rfl,hown⟩,hb⟩;refine aD ?_);have HO:=Za hown;have HB:=Za hb;clear hown hb h0 h1;refine aC ?_;obtain⟨ov,cv,rfl⟩:=aJ HO.o;clear hs01 hn1 hn2;go_wp2;go_loopw[6,27] (fun v i wr=>W0.heap.size≤wr.heap.size∧Below W0.heap.size W0 wr∧((i=.int .i64 0∧wr.ownsRow W0.heap.size 100 2 v 0 [])∨(i=.int .i64 1∧wr.ownsRow W0.heap.size 100 2 v m0 c0)∨(i=.int .i64 2∧wr.ownsRow W0.heap.size 100 2 v (m0+m1) (c0++c1)))) (fun _ i _=>2-(intOf i).toNat)
   case atStart=>exact⟨HB.o.size,HB.o,.inl ⟨rfl,HO.o⟩⟩
   case round=>
    obtain⟨hsz,hB,⟨rfl,hown⟩|⟨rfl,hown⟩|⟨rfl,hown⟩⟩:=hrel
    ·have HB2:=Za hB;have HO2:=Za hown;have d0:=aT hB HC.o.1;clear hB hown;go_wp2_with(at_builtin;refine rS rfl _ _ 36 rfl W0.heap.size 100 (.agg #[.slice none 0 0,.slice none 0 0]) 2 i0 48 Tryz.underlying36 hi hz0 hz1 hz2 rfl (by decide) _ _ _ rfl HO2.o _ m0 c0 rfl (HR0.o.below HB2.o (Zb _)) (by unfold maxLen;omega) (by omega) hsz ?_;intro v' w2 hown' hgrow);rw[Nat.zero_add,List.nil_append]at hown';have HB3:=Za (HB2.o.trans (pI HO2.o hgrow hsz));have HO3:=Za hown';clear hown' hgrow d0;go_roundw
     case rel=>exact⟨HB3.o.size,HB3.o,.inr (.inl ⟨rfl,HO3.o⟩)⟩
     case measure=>simp[intOf]
    ·have HB2:=Za hB;have HO2:=Za hown;have d0:=aT hB HC.o.2;clear hB hown;go_wp2_with(at_builtin;refine rS rfl _ _ 36 rfl W0.heap.size 100 (.agg #[.slice none 0 0,.slice none 0 0]) 2 i0 48 Tryz.underlying36 hi hz0 hz1 hz2 rfl (by decide) _ _ _ rfl HO2.o _ m1 c1 rfl (HR1.o.below HB2.o (Zb _)) (by unfold maxLen;omega) (by omega) hsz ?_;intro v' w2 hown' hgrow);have HB3:=Za (HB2.o.trans (pI HO2.o hgrow hsz));have HO3:=Za hown';clear hown' hgrow d0;go_roundw
     case rel=>exact⟨HB3.o.size,HB3.o,.inr (.inr ⟨rfl,HO3.o⟩)⟩
     case measure=>simp[intOf]
    ·have HB2:=Za hB;have HO2:=Za hown;clear hB hown;go_wp2;go_ret;exact⟨⟨_,rfl,HO2.o⟩,HB2.o⟩
theorem iQ.of_rd {w:World} {K:IntKind} {v:Value} {xs:List Int} (h:Rd w K v xs):iQ w 1 v xs.length (xs.map (Value.int K)):=by
 obtain⟨o,c,rfl,hc⟩:=h;refine⟨by simp,fun x hx=>by obtain⟨y,_,rfl⟩:=List.mem_map.1 hx;rfl,o,c,rfl,fun j x hj=>?_⟩;have hjl:j<xs.length:=by have:=(List.getElem?_eq_some_iff.1 hj).1;simpa using this
 obtain⟨b,off,rfl,hcell⟩:=hc j hjl;refine⟨b,off,rfl,?_⟩;rw[hcell,dK xs j hjl];rw[List.getElem?_map,List.getElem?_eq_getElem hjl]at hj;exact hj
theorem BL {w:World} {o:Option Addr}:∀(ts:List aO) (i:Nat),(∀k,k<ts.length→nG w o (i+k) (aQ ts k))→
  ∃cs:List Value,cs.length=ts.length*2∧(∀x∈cs,x.oneCell'=true)∧(∀j x,cs[j]?=some x→∃b off,o=some ⟨b,off,none⟩∧w.cell? ⟨b,off+(i*2+j),none⟩=some x)∧∀k,k<ts.length→∃vs vd,cs[k*2]?=some vs∧cs[k*2+1]?=some vd∧Rd w .i64 vs (aQ ts k).sh∧Rd w .i64 vd (aQ ts k).da
 |[],i,h=>⟨[],rfl,(fun x hx=>by simp at hx),(fun j x hj=>by simp at hj),(fun k hk=>absurd hk (Nat.not_lt_zero _))⟩
 |t::r,i,h=>by
  obtain⟨cs,h1,h2,h3,h4⟩:=BL r (i+1) (fun k hk=>by
   have:=h (k+1) (by simpa using hk);rw[show i+1+k=i+(k+1) by omega];exact this)
  obtain⟨b,off,vs,vd,rfl,c0,c1,hs,hd⟩:=h 0 (by simp);have e0:aQ (t::r) 0=t:=rfl;rw[e0]at hs hd;have o1:vs.oneCell'=true:=by obtain⟨o,c,rfl⟩:=aU hs;rfl
  have o2:vd.oneCell'=true:=by obtain⟨o,c,rfl⟩:=aU hd;rfl
  refine⟨vs::vd::cs,by simp[h1];omega,fun x hx=>?_,fun j x hj=>?_,fun k hk=>?_⟩
  ·rcases List.mem_cons.1 hx with rfl|hx
   ·exact o1
   ·rcases List.mem_cons.1 hx with rfl|hx
    ·exact o2
    ·exact h2 x hx
  ·refine⟨b,off,rfl,?_⟩
   match j,hj with
   |0,hj=>simp at hj;rw[←hj];simpa using c0
   |1,hj=>simp at hj;rw[←hj];simpa [Nat.add_assoc]using c1
   |j+2,hj=>
    obtain⟨b',off',he,hcell⟩:=h3 j x (by simpa using hj);cases he;rw[show i*2+(j+2)=(i+1)*2+j by omega];exact hcell
  ·match k,hk with
   |0,_=>exact⟨vs,vd,rfl,rfl,hs,hd⟩
   |k+1,hk=>
    obtain⟨us,ud,g1,g2,g3,g4⟩:=h4 k (by simpa using hk);refine⟨us,ud,?_,?_,g3,g4⟩
    ·rw[show(k+1)*2=k*2+2 by omega];simpa using g1
    ·rw[show(k+1)*2+1=k*2+1+2 by omega];simpa using g2
theorem aY.cells {w:World} {v:Value} {ts:List aO} (h:aY w v ts):
  ∃cs,iQ w 2 v ts.length cs∧∀k,k<ts.length→∃vs vd,cs[k*2]?=some vs∧cs[k*2+1]?=some vd∧Rd w .i64 vs (aQ ts k).sh∧Rd w .i64 vd (aQ ts k).da:=by
 obtain⟨o,c,rfl,hr⟩:=h;obtain⟨cs,h1,h2,h3,h4⟩:=BL ts 0 (fun k hk=>by rw[Nat.zero_add];exact hr k hk);exact⟨cs,⟨h1,h2,o,c,rfl,fun j x hj=>by
  obtain⟨b,off,rfl,hc⟩:=h3 j x hj;exact⟨b,off,rfl,by simpa using hc⟩⟩,h4⟩
theorem aY.of_own {w:World} {B:Nat} {e:TypeId} {v:Value} {ts:List aO} {cs:List Value} (h:w.ownsRow B e 2 v ts.length cs) (hr:∀k,k<ts.length→∃vs vd,cs[k*2]?=some vs∧cs[k*2+1]?=some vd∧Rd w .i64 vs (aQ ts k).sh∧Rd w .i64 vd (aQ ts k).da):aY w v ts:=by
 obtain⟨o,cap,hv,_⟩:=iV h;subst hv;refine⟨o,cap,rfl,fun k hk=>?_⟩;obtain⟨vs,vd,g1,g2,g3,g4⟩:=hr k hk;rcases h.2 with⟨he,h0⟩|⟨g,cap',cur,he,_,hg,hcl,hle,h63,ht⟩
 ·omega
 ·injection he with h1 h2 h3;subst h1;have key:∀j u,cs[j]?=some u→w.cell? ⟨g,0+j,none⟩=some u:=fun j u hj=>by
   rw[Nat.zero_add,cell_of_row w g j cur _ _ hg];rw[←ht,List.getElem?_take]at hj;split at hj
   ·simpa using hj
   ·cases hj
  exact⟨g,0,vs,vd,rfl,key _ _ g1,by rw[Nat.add_assoc];exact key _ _ g2,g3,g4⟩
theorem PK {a b:List aO} {k:Nat} (h:k<a.length):aQ (a++b) k=aQ a k:=by rw[fE _ _ (by rw[Zl];omega),fE _ _ h,List.getElem_append_left]
theorem NG {a b:List aO} {k:Nat} (h1:a.length≤k) (h2:k<a.length+b.length):aQ (a++b) k=aQ b (k-a.length):=by rw[fE _ _ (by rw[Zl];omega),fE _ _ (by omega),List.getElem_append_right h1]
theorem KW (g n₀:Nat) (n1 n2 n3 n4 n5 n6 n7:Int) (ob:Option Addr) (nb cb:Nat) (vps:Value) (first:Bool) (nm:ByteArray) (qs:List PD) (o:Option Addr) (m cap:Nat) (s:List Int) (w:World) (hwin:jE ⟨2,n1,n2,n3,n4,n5,n6,n7⟩)
  (h:fB g n₀ vps first qs (.slice o m cap) s w) (hm:m=s.length) (hnm:nm.size≤1000000):
  Calls Tryz.prog 135 #[.pointer (some ⟨g,0,none⟩),.agg #[.int .i64 2,.int .i64 n1,.int .i64 n2,.int .i64 n3,.int .i64 n4,.int .i64 n5,.int .i64 n6,.int .i64 n7,.slice ob nb cb],.slice o m cap,.string nm] w (bL g n₀ qs (aK ⟨2,n1,n2,n3,n4,n5,n6,n7⟩ first s) w):=by
 obtain⟨W0,hW0⟩:∃W0,W0=w.alloc (.cells #[.int .i64 2,.int .i64 n1,.int .i64 n2,.int .i64 n3,.int .i64 n4,.int .i64 n5,.int .i64 n6,.int .i64 n7,.slice ob nb cb] 175):=⟨_,rfl⟩;obtain⟨W1,hW1⟩:∃W1,W1=W0.setCell ⟨g,1,none⟩ (.bool false):=⟨_,rfl⟩;have hst:=h.start ⟨2,n1,n2,n3,n4,n5,n6,n7⟩ (.slice ob nb cb) hW0 hW1;have HA:=Za hst.2;have x1:=hst.1.1;have f1:=hst.1.2;have HW:=Za (Zd hW0 hW1);obtain⟨hs3,hsd,hsp⟩:=iN h.fit;have hm3:m≤3:=by omega
 have HSD:=Za (Zd hsd hsp);have HFIT:=Za h.fit;have HQ:=Za h.hq;have HM:=Za hm;have hl2':¬9223372036854775807<nm.size+2:=by omega
 rw[hW0]at x1 f1;clear h hst hW0 hW1 hsd hsp hs3 hm;have a0:=HA.o.lay.q 0 rfl;have a1:=HA.o.lay.q 1 rfl;have a2:=HA.o.lay.q 2 rfl;have a3:=HA.o.lay.q 3 rfl;have a4:=HA.o.lay.q 4 rfl;have a5:=HA.o.lay.q 5 rfl;have a6:=HA.o.lay.q 6 rfl;have a7:=HA.o.lay.q 7 rfl;have a8:=HA.o.lay.q 8 rfl;have x2:=HA.o.wk.q 2 rfl;have f2:=HA.o.wk.free 2;go_enter Tryz.func135,Tryz.ntmps135;go_upto_region 4 with(fail);rw[←HW.o.1,←HW.o.2];clear x1 f1;have HL:=Za (show fB g n₀ vps false qs (.slice o m cap) s W1 from⟨HA.o.wk,HA.o.row,HA.o.sh,HA.o.hn,HQ.o,HFIT.o⟩);go_wp2_with(go_at_call 165;refine(SN g n₀ n1 n2 n3 n4 n5 n6 n7 ob nb cb vps first nm qs o m cap s W1 hwin HL.o HM.o hnm).mono ?_;rintro e w3 ⟨hs3,o3,m3,c3,vps3,qs3,bad3,rfl,hx3⟩;have HO3:=Za (show bL g n₀ qs (aK ⟨2,n1,n2,n3,n4,n5,n6,n7⟩ first s) W1 (.returned (.slice o3 m3 c3)) w3 from⟨hs3,o3,m3,c3,vps3,qs3,bad3,rfl,hx3⟩);clear hs3 hx3);go_ret;exact bL.pre HO3.o HA.o.st
theorem LD (g n₀:Nat) (n1 n2 n3 n4 n5 n6 n7:Int) (ob:Option Addr) (nb cb:Nat) (vps:Value) (first:Bool) (nm:ByteArray) (qs:List PD) (o:Option Addr) (m cap:Nat) (s:List Int) (w:World) (hwin:jE ⟨8,n1,n2,n3,n4,n5,n6,n7⟩)
  (h:fB g n₀ vps first qs (.slice o m cap) s w) (hm:m=s.length) (hnm:nm.size≤1000000):
  Calls Tryz.prog 135 #[.pointer (some ⟨g,0,none⟩),.agg #[.int .i64 8,.int .i64 n1,.int .i64 n2,.int .i64 n3,.int .i64 n4,.int .i64 n5,.int .i64 n6,.int .i64 n7,.slice ob nb cb],.slice o m cap,.string nm] w (bL g n₀ qs (aK ⟨8,n1,n2,n3,n4,n5,n6,n7⟩ first s) w):=by
 obtain⟨W0,hW0⟩:∃W0,W0=w.alloc (.cells #[.int .i64 8,.int .i64 n1,.int .i64 n2,.int .i64 n3,.int .i64 n4,.int .i64 n5,.int .i64 n6,.int .i64 n7,.slice ob nb cb] 175):=⟨_,rfl⟩;obtain⟨W1,hW1⟩:∃W1,W1=W0.setCell ⟨g,1,none⟩ (.bool false):=⟨_,rfl⟩;have hst:=h.start ⟨8,n1,n2,n3,n4,n5,n6,n7⟩ (.slice ob nb cb) hW0 hW1;have HA:=Za hst.2;have x1:=hst.1.1;have f1:=hst.1.2;have HW:=Za (Zd hW0 hW1);obtain⟨hs3,hsd,hsp⟩:=iN h.fit;have hm3:m≤3:=by omega
 have HSD:=Za (Zd hsd hsp);have HFIT:=Za h.fit;have HQ:=Za h.hq;have HM:=Za hm;have hl2':¬9223372036854775807<nm.size+2:=by omega
 rw[hW0]at x1 f1;clear h hst hW0 hW1 hsd hsp hs3 hm;have a0:=HA.o.lay.q 0 rfl;have a1:=HA.o.lay.q 1 rfl;have a2:=HA.o.lay.q 2 rfl;have a3:=HA.o.lay.q 3 rfl;have a4:=HA.o.lay.q 4 rfl;have a5:=HA.o.lay.q 5 rfl;have a6:=HA.o.lay.q 6 rfl;have a7:=HA.o.lay.q 7 rfl;have a8:=HA.o.lay.q 8 rfl;have x2:=HA.o.wk.q 2 rfl;have f2:=HA.o.wk.free 2;go_enter Tryz.func135,Tryz.ntmps135;go_upto_region 4 with(fail);rw[←HW.o.1,←HW.o.2];clear x1 f1;have HL:=Za (show fB g n₀ vps false qs (.slice o m cap) s W1 from⟨HA.o.wk,HA.o.row,HA.o.sh,HA.o.hn,HQ.o,HFIT.o⟩);go_wp2_with(go_at_call 165;refine(yB g n₀ n1 n2 n3 n4 n5 n6 n7 ob nb cb vps first nm qs o m cap s W1 8 (.inl rfl) hwin HL.o HM.o hnm).mono ?_;rintro e w3 ⟨hs3,o3,m3,c3,vps3,qs3,bad3,rfl,hx3⟩;have HO3:=Za (show bL g n₀ qs (aK ⟨8,n1,n2,n3,n4,n5,n6,n7⟩ first s) W1 (.returned (.slice o3 m3 c3)) w3 from⟨hs3,o3,m3,c3,vps3,qs3,bad3,rfl,hx3⟩);clear hs3 hx3);go_ret;exact bL.pre HO3.o HA.o.st
theorem SW (g n₀:Nat) (n1 n2 n3 n4 n5 n6 n7:Int) (ob:Option Addr) (nb cb:Nat) (vps:Value) (first:Bool) (nm:ByteArray) (qs:List PD) (o:Option Addr) (m cap:Nat) (s:List Int) (w:World) (hwin:jE ⟨9,n1,n2,n3,n4,n5,n6,n7⟩)
  (h:fB g n₀ vps first qs (.slice o m cap) s w) (hm:m=s.length) (hnm:nm.size≤1000000):
  Calls Tryz.prog 135 #[.pointer (some ⟨g,0,none⟩),.agg #[.int .i64 9,.int .i64 n1,.int .i64 n2,.int .i64 n3,.int .i64 n4,.int .i64 n5,.int .i64 n6,.int .i64 n7,.slice ob nb cb],.slice o m cap,.string nm] w (bL g n₀ qs (aK ⟨9,n1,n2,n3,n4,n5,n6,n7⟩ first s) w):=by
 obtain⟨W0,hW0⟩:∃W0,W0=w.alloc (.cells #[.int .i64 9,.int .i64 n1,.int .i64 n2,.int .i64 n3,.int .i64 n4,.int .i64 n5,.int .i64 n6,.int .i64 n7,.slice ob nb cb] 175):=⟨_,rfl⟩;obtain⟨W1,hW1⟩:∃W1,W1=W0.setCell ⟨g,1,none⟩ (.bool false):=⟨_,rfl⟩;have hst:=h.start ⟨9,n1,n2,n3,n4,n5,n6,n7⟩ (.slice ob nb cb) hW0 hW1;have HA:=Za hst.2;have x1:=hst.1.1;have f1:=hst.1.2;have HW:=Za (Zd hW0 hW1);obtain⟨hs3,hsd,hsp⟩:=iN h.fit;have hm3:m≤3:=by omega
 have HSD:=Za (Zd hsd hsp);have HFIT:=Za h.fit;have HQ:=Za h.hq;have HM:=Za hm;have hl2':¬9223372036854775807<nm.size+2:=by omega
 rw[hW0]at x1 f1;clear h hst hW0 hW1 hsd hsp hs3 hm;have a0:=HA.o.lay.q 0 rfl;have a1:=HA.o.lay.q 1 rfl;have a2:=HA.o.lay.q 2 rfl;have a3:=HA.o.lay.q 3 rfl;have a4:=HA.o.lay.q 4 rfl;have a5:=HA.o.lay.q 5 rfl;have a6:=HA.o.lay.q 6 rfl;have a7:=HA.o.lay.q 7 rfl;have a8:=HA.o.lay.q 8 rfl;have x2:=HA.o.wk.q 2 rfl;have f2:=HA.o.wk.free 2;go_enter Tryz.func135,Tryz.ntmps135;go_upto_region 4 with(fail);rw[←HW.o.1,←HW.o.2];clear x1 f1;have HL:=Za (show fB g n₀ vps false qs (.slice o m cap) s W1 from⟨HA.o.wk,HA.o.row,HA.o.sh,HA.o.hn,HQ.o,HFIT.o⟩);go_wp2_with(go_at_call 165;refine(yB g n₀ n1 n2 n3 n4 n5 n6 n7 ob nb cb vps first nm qs o m cap s W1 9 (.inr rfl) hwin HL.o HM.o hnm).mono ?_;rintro e w3 ⟨hs3,o3,m3,c3,vps3,qs3,bad3,rfl,hx3⟩;have HO3:=Za (show bL g n₀ qs (aK ⟨9,n1,n2,n3,n4,n5,n6,n7⟩ first s) W1 (.returned (.slice o3 m3 c3)) w3 from⟨hs3,o3,m3,c3,vps3,qs3,bad3,rfl,hx3⟩);clear hs3 hx3);go_ret;exact bL.pre HO3.o HA.o.st
def iL (first:Bool) (s:List Int):aB→Option (List Int×List (List Int))
 |.mk n body=>if n.kind=13 then(match bT false s body with
   |none=>none
   |some p=>if p.1=s then some (s,p.2) else none) else aK n first s
mutual
theorem IM (first:Bool) (s:List Int) (hf:dM s=true):∀(l:aB) (p:List Int×List (List Int)),cU first s l=some p→dM p.1=true∧p.2.all bA=true
 |.mk n body,p,h=>by
  rw[cU]at h;split at h
  ·cases hb:bT false s body with
   |none=>rw[hb]at h;cases h
   |some q=>
    rw[hb]at h;have hq:=m9 false s hf body q hb;dsimp only at h;split at h
    ·cases h;exact⟨hf,hq.2⟩
    ·cases h
  ·rw[fT]at h;cases hd:aK n first s with
   |none=>rw[hd]at h;cases h
   |some q=>
    rw[hd]at h;dsimp only at h;split at h
    ·rename_i hc;cases h
     rwa [Bool.and_eq_true]at hc
    ·cases h
theorem m9 (first:Bool) (s:List Int) (hf:dM s=true):∀(ls:List aB) (p:List Int×List (List Int)),bT first s ls=some p→dM p.1=true∧p.2.all bA=true
 |[],p,h=>by
  rw[bT]at h;cases h;exact⟨hf,rfl⟩
 |l::r,p,h=>by
  rw[bT]at h;cases hl:cU first s l with
  |none=>rw[hl]at h;cases h
  |some q=>
   rw[hl]at h;have h1:=IM first s hf l q hl;dsimp only at h;cases hr:bT false q.1 r with
   |none=>rw[hr]at h;cases h
   |some t=>
    rw[hr]at h;have h2:=m9 false q.1 h1.1 r t hr;cases h;exact⟨h2.1,by rw[List.all_append,h1.2,h2.2];rfl⟩
end
theorem PP (first:Bool) (s:List Int) (l:aB) (hf:dM s=true):(iL first s l=none→cU first s l=none)∧∀p,iL first s l=some p→(p.2.all bA=false→cU first s l=none)∧(p.2.all bA=true→dM p.1=false→cU first s l=none)∧(p.2.all bA=true→dM p.1=true→cU first s l=some p):=by
 obtain⟨n,body⟩:=l;rw[iL,cU];by_cases hk:n.kind=13
 ·rw[if_pos hk,if_pos hk];cases hb:bT false s body with
  |none=>exact⟨fun _=>rfl,fun p h=>(by cases h)⟩
  |some q=>
   have hq:=m9 false s hf body q hb;dsimp only;by_cases he:q.1=s
   ·rw[if_pos he];refine⟨fun h=>(by cases h),fun p h=>?_⟩;cases h;exact⟨fun h=>(by rw[hq.2]at h;cases h),fun _ h=>(by rw[hf]at h;cases h),fun _ _=>rfl⟩
   ·rw[if_neg he];exact⟨fun _=>rfl,fun p h=>(by cases h)⟩
 ·rw[if_neg hk,if_neg hk,fT];cases hd:aK n first s with
  |none=>exact⟨fun _=>rfl,fun p h=>(by cases h)⟩
  |some q=>
   refine⟨fun h=>(by cases h),fun p h=>?_⟩;cases h;dsimp only;refine⟨fun h=>(by rw[h,Bool.and_false];rfl),fun h1 h2=>(by rw[h2];rfl),fun h1 h2=>(by rw[h1,h2];rfl)⟩
def qK (g n₀:Nat) (qs:List PD) (c:Nat) (res:Option (List Int×List (List Int))) (w:World) (e:Ending) (w':World):Prop:=
 bZ g w w'∧∃o m k vps' qs' bad',e=.returned (.slice o m k)∧aA w' g 156 (gV vps' false bad')∧aV w' n₀ g vps' qs'∧qs'.length≤qs.length+c∧(res=none→bad'≠0)∧
  ∀p,res=some p→(bad'=0↔p.2.all bA=true)∧(bad'=0→aM n₀ w' (.slice o m k) p.1∧qs'.map (·.sh)=qs.map (·.sh)++p.2)
theorem bL.d {g n₀:Nat} {qs:List PD} {c:Nat} {res:Option (List Int×List (List Int))} {w:World} {e:Ending} {w':World} (h:bL g n₀ qs res w e w') (hc:4≤c):qK g n₀ qs c res w e w':=by obtain⟨h1,o,m,k,vps',qs',bad',h2,h3,h4,h5,h6⟩:=h;exact⟨h1,o,m,k,vps',qs',bad',h2,h3,h4,by omega,h6⟩
def gF (ts us:List aO):Bool:=ts.all cH&&decide (bI ts=bI us)
theorem NB {ts us:List aO} (k:Nat) (hk:k<ts.length) (hl:ts.length=us.length) (h:cH (aQ ts k)=false∨(aQ ts k).sh≠(aQ us k).sh):gF ts us=false:=by
 rw[gF];rcases h with h|h
 ·have:ts.all cH=false:=by rw[List.all_eq_false];exact⟨aQ ts k,jF ts k hk,by simp[h]⟩
  rw[this];rfl
 ·rw[decide_eq_false,Bool.and_false];intro e;have h1:=congrArg (fun l=>l[k]?) e;simp only[bI,List.getElem?_map]at h1;rw[List.getElem?_eq_getElem hk,List.getElem?_eq_getElem (by omega)]at h1;simp only[Option.map_some,Option.some.injEq]at h1;rw[fE _ _ hk,fE _ _ (by omega)]at h;exact h h1
theorem QQ {ts us:List aO} (hl:ts.length=us.length) (h:∀k,k<ts.length→cH (aQ ts k)=true∧(aQ ts k).sh=(aQ us k).sh):gF ts us=true:=by
 rw[gF,Bool.and_eq_true,decide_eq_true_eq];constructor
 ·rw[List.all_eq_true];intro t ht;obtain⟨k,hk,rfl⟩:=List.getElem_of_mem ht;have:=(h k hk).1
  rwa [fE _ _ hk]at this
 ·apply List.ext_getElem (by simp[bI,hl]);intro k h1 h2;simp only[bI,List.length_map]at h1 h2;have:=(h k h1).2;rw[fE _ _ h1,fE _ _ h2]at this
  simpa [bI]using this
theorem tA (v u:Value) (ts us:List aO) (w:World) (hr:aY w v ts) (hs:aY w u us) (hl:eO ts):
  Calls Tryz.prog 58 #[v,u] w fun e w'=>e=.returned (.bool (gF ts us))∧Below w.heap.size w w':=by
 obtain⟨o,cap,rfl⟩:=hr.slice;obtain⟨o2,cap2,rfl⟩:=hs.slice;have HR:=Za hr;have HS:=Za hs;obtain⟨hl1,hl2⟩:=hl;have HL:=Za hl2;clear hr hs hl2;by_cases hlen:ts.length=us.length
 ·have hb:((ts.length:Int) != us.length)=false:=by simp[hlen]
  have HE:=Za hlen;clear hlen;go_enter Tryz.func58,Tryz.ntmps58;go_wp2;go_loopw[5] (fun i wr=>∃k:Nat,k≤ts.length∧i=.int .i64 k∧Hid (∀j,j<k→cH (aQ ts j)=true∧(aQ ts j).sh=(aQ us j).sh)∧Below w.heap.size w wr) (fun i _=>ts.length-(intOf i).toNat)
  case atStart=>exact⟨0,Ze _,rfl,Za (fun j h=>absurd h (Nat.not_lt_zero j)),Zc _ _⟩
  case round=>
   obtain⟨k,hk,rfl,HP,hB⟩:=hrel;obtain⟨w3,rfl⟩:∃w3,w3=wr:=⟨_,rfl⟩;have HB:=Za hB;clear hB;by_cases hlt:k<ts.length
   ·obtain⟨ba,offa,vs,vd,rfl,a0,a1,hs,hd⟩:=(HR.o.below HB.o (Zb _)).tens k hlt;have hltb:k<us.length:=by rw[←HE.o];exact hlt
    obtain⟨bb,offb,us',ud,rfl,b0,b1,gs,gd⟩:=(HS.o.below HB.o (Zb _)).tens k hltb;have HLk:=Za (HL.o _ (jF ts k hlt));have HRD:=Za (Zd hs (Zd hd gs));have HNO:=Za (fun h=>NB k hlt HE.o h);obtain⟨o1,c1,rfl⟩:=aU hs;obtain⟨o3,c3,rfl⟩:=aU gs;obtain⟨o4,c4,rfl⟩:=aU hd;clear hs hd gs gd;obtain⟨t,ht⟩:∃t,t=aQ ts k:=⟨_,rfl⟩;obtain⟨t2,ht2⟩:∃t2,t2=aQ us k:=⟨_,rfl⟩;have HT:=Za (Zd ht ht2);rw[←ht,←ht2]at HNO;rw[←ht]at HRD HLk a0 a1;rw[←ht2]at HRD b0;clear ht ht2 b1;have HC0:=Za (Zd a0 (Zd a1 b0));have HX:=Za (show Below w3.heap.size w3 w3.drew from Below.drew (Zc _ _));cases htb:cH t with
    |false=>
     have HF:=Za (HNO.o (.inl htb));have HTB:=Za htb;clear htb;go_wp2_with fail;refine wp_region_held_drew (S:=fun w'=>w'.cell? ⟨ba,offa+k*2,none⟩=some (.slice o1 t.sh.length c1)∧w'.cell? ⟨ba,offa+k*2+1,none⟩=some (.slice o4 t.da.length c4)) (by kernel_rfl) ?_ (fun hHeld=>?_)
     ·exact⟨aT HX.o HC0.o.1,aT HX.o HC0.o.2.1⟩
     refine tk 0 ?_ ?_ ?_;rotate_left
     ·(intro w hSw;(try dsimp only at hSw);go_simp;(try with_reducible rfl))
     (try simp only[Act.put,Zk,Zi,Zj,Zf,Zg,Zh])
     refine tk 1 ?_ ?_ ?_;rotate_left
     ·(intro w hSw;(try dsimp only at hSw);go_simp;(try with_reducible rfl))
     (try simp only[Act.put,Zk,Zi,Zj,Zf,Zg,Zh])
     refine tk 2 ?_ ?_ ?_;rotate_left
     ·(intro w hSw;(try dsimp only at hSw);go_simp;(try with_reducible rfl))
     (try simp only[Act.put,Zk,Zi,Zj,Zf,Zg,Zh])
     refine tk 3 ?_ ?_ ?_;rotate_left
     ·(intro w hSw;(try dsimp only at hSw);go_simp;(try with_reducible rfl))
     (try simp only[Act.put,Zk,Zi,Zj,Zf,Zg,Zh])
     refine wpAnyH_ready (rs:=[4]) (by kernel_rfl) (by simp) ?_;refine AllReadyH.cons rfl (fun K hK=>?_) AllReadyH.nil
     go_simp
     go_at_call 112
     refine(yZ _ _ t _ (HRD.o.1.below HX.o (Zb _)) (HRD.o.2.1.below HX.o (Zb _)) HLk.o).mono ?_;rintro e wy ⟨rfl,hby⟩;rw[HTB.o];have HX:=Za (HX.o.trans (hby.mono HX.o.size));clear hby
     go_wp2_with fail;refine hK.out _ _ ⟨aT HX.o HC0.o.1,aT HX.o HC0.o.2.1⟩ (fun hHeld2=>?_);clear hK K
     (try simp only[Act.put,Zk,Zi,Zj,Zf,Zg,Zh])
     refine tk 5 ?_ ?_ ?_;rotate_left
     ·(intro w hSw;(try dsimp only at hSw);go_simp;(try with_reducible rfl))
     (try simp only[Act.put,Zk,Zi,Zj,Zf,Zg,Zh])
     refine tk 6 ?_ ?_ ?_;rotate_left
     ·(intro w hSw;(try dsimp only at hSw);go_simp;(try with_reducible rfl))
     (try simp only[Act.put,Zk,Zi,Zj,Zf,Zg,Zh])
     refine sk 7 ?_
     (try simp only[Act.put,Zk,Zi,Zj,Zf,Zg,Zh])
     refine sk 8 ?_
     (try simp only[Act.put,Zk,Zi,Zj,Zf,Zg,Zh])
     refine sk 9 ?_
     (try simp only[Act.put,Zk,Zi,Zj,Zf,Zg,Zh])
     refine sk 10 ?_
     (try simp only[Act.put,Zk,Zi,Zj,Zf,Zg,Zh])
     refine sk 11 ?_
     (try simp only[Act.put,Zk,Zi,Zj,Zf,Zg,Zh])
     refine sk 12 ?_
     (try simp only[Act.put,Zk,Zi,Zj,Zf,Zg,Zh])
     refine sk 13 ?_
     (try simp only[Act.put,Zk,Zi,Zj,Zf,Zg,Zh])
     refine sk 14 ?_
     (try simp only[Act.put,Zk,Zi,Zj,Zf,Zg,Zh])
     refine sk 15 ?_
     (try simp only[Act.put,Zk,Zi,Zj,Zf,Zg,Zh])
     refine sk 16 ?_
     (try simp only[Act.put,Zk,Zi,Zj,Zf,Zg,Zh])
     refine sk 17 ?_
     (try simp only[Act.put,Zk,Zi,Zj,Zf,Zg,Zh])
     refine sk 18 ?_
     (try simp only[Act.put,Zk,Zi,Zj,Zf,Zg,Zh])
     refine tk 19 ?_ ?_ ?_;rotate_left
     ·(intro w hSw;(try dsimp only at hSw);go_simp;(try with_reducible rfl))
     (try simp only[Act.put,Zk,Zi,Zj,Zf,Zg,Zh])
     refine wpAnyH_done (by kernel_rfl) ?_ _;clear a0 a1 b0;go_wp2_with fail;go_ret;exact⟨aF HF.o.symm,HB.o.trans (HX.o.mono HB.o.size)⟩
    |true=>
     have HTB:=Za htb;obtain⟨q,hq⟩:∃q,q=decide (t.sh=t2.sh):=⟨_,rfl⟩;have HQE:=Za hq;have HEQ:=Za (fun(W:World) (hv:Rd W .i64 (.slice o1 t.sh.length c1) t.sh) (hu:Rd W .i64 (.slice o3 t2.sh.length c3) t2.sh)=>(show Calls Tryz.prog 94 #[.slice o1 t.sh.length c1,.slice o3 t2.sh.length c3] W (fun e w'=>e=.returned (.bool q)∧aN W w') by rw[hq];exact oR _ _ t.sh t2.sh W hv hu HLk.o.1));clear htb hq;go_wp2_with fail;go_region_held3 (fun w'=>w'.cell? ⟨ba,offa+k*2,none⟩=some (.slice o1 t.sh.length c1)∧w'.cell? ⟨ba,offa+k*2+1,none⟩=some (.slice o4 t.da.length c4)∧w'.cell? ⟨bb,offb+k*2,none⟩=some (.slice o3 t2.sh.length c3))
      (exact⟨aT HX.o HC0.o.1,aT HX.o HC0.o.2.1,aT HX.o HC0.o.2.2⟩)
      (first
      |(go_at_call 112;refine(yZ _ _ t _ (HRD.o.1.below HX.o (Zb _)) (HRD.o.2.1.below HX.o (Zb _)) HLk.o).mono ?_;rintro e wy ⟨rfl,hby⟩;rw[HTB.o];have HX:=Za (HX.o.trans (hby.mono HX.o.size));clear hby)
      |(go_at_call 94;refine(HEQ.o _ (HRD.o.1.below HX.o (Zb _)) (HRD.o.2.2.below HX.o (Zb _))).mono ?_;rintro e wz ⟨rfl,hsz⟩;have HX:=Za (HX.o.trans ((hsz.below _).mono HX.o.size));clear hsz))
     clear a0 a1 b0;have HN:=Za (HB.o.trans (HX.o.mono HB.o.size));cases q with
     |true=>
      have HP2:=Za (show ∀j,j<k+1→cH (aQ ts j)=true∧(aQ ts j).sh=(aQ us j).sh from fun j hj=>by
       by_cases e:j=k
       ·subst e;rw[←HT.o.1,←HT.o.2];exact⟨HTB.o,of_decide_eq_true HQE.o.symm⟩
       ·exact HP.o j (by omega))
      go_wp2_with fail;go_roundw
      case rel=>exact⟨k+1,by omega,by go_num,HP2,HN.o⟩
      case measure=>simp[intOf];omega
     |false=>
      have HF:=Za (HNO.o (.inr (of_decide_eq_false HQE.o.symm)));go_wp2_with fail;go_ret;exact⟨aF HF.o.symm,HN.o⟩
   ·obtain rfl:k=ts.length:=by omega
    have HX:=Za (QQ HE.o HP.o);go_wp2;go_ret;exact⟨aF HX.o.symm,HB.o⟩
 ·have hb:((ts.length:Int) != us.length)=true:=by simp;omega
  have HE:=Za (show gF ts us=false by
   rw[gF,decide_eq_false,Bool.and_false];intro e;have:=congrArg List.length e;simp[bI]at this;exact hlen this)
  clear hlen;go_enter Tryz.func58,Tryz.ntmps58;go_wp2;go_ret;exact⟨aF HE.o.symm,Zc _ _⟩
def M0 (g n₀:Nat) (first:Bool) (qs:List PD) (c:Nat) (res:Option (List Int×List (List Int))) (w:World) (e:Ending) (w':World):Prop:=
 bZ g w w'∧∃o m k vps' qs' first' bad',e=.returned (.slice o m k)∧aA w' g 156 (gV vps' first' bad')∧aV w' n₀ g vps' qs'∧qs'.length≤qs.length+c∧(first=false→first'=false)∧(res=none→bad'≠0)∧
  ∀p,res=some p→bad'=0∧aM n₀ w' (.slice o m k) p.1∧qs'.map (·.sh)=qs.map (·.sh)++p.2
def rH (ls:List aB):Prop:=∀(d g:Nat) (vps:Value) (first:Bool) (qs:List PD) (o:Option Addr) (m cap:Nat) (s:List Int) (vl:Value) (ahead:ByteArray) (w₀ w:World),bF w₀ vl ls→Below w₀.heap.size w₀ w→iU ls d→ls.length≤64→
 fB g w₀.heap.size vps first qs (.slice o m cap) s w→qs.length+4*aR ls≤10000→m=s.length→ahead.size+100*d≤100000→
 Calls Tryz.prog 91 #[.pointer (some ⟨g,0,none⟩),vl,.slice o m cap,.string ahead] w (M0 g w₀.heap.size first qs (4*aR ls) (bT first s ls) w)
def vE (l:aB):Prop:=∀(d g:Nat) (vps:Value) (first:Bool) (qs:List PD) (o:Option Addr) (m cap:Nat) (s:List Int) (ob:Option Addr) (nb cb:Nat) (nm:ByteArray) (w₀ w:World),bF w₀ (.slice ob nb cb) l.body→Below w₀.heap.size w₀ w→lJ l d→
 fB g w₀.heap.size vps first qs (.slice o m cap) s w→qs.length+4*l.count≤10000→m=s.length→nm.size+100*d≤100030→
 Calls Tryz.prog 135 #[.pointer (some ⟨g,0,none⟩),.agg (oO l.n (.slice ob nb cb)),.slice o m cap,.string nm] w (qK g w₀.heap.size qs (4*l.count) (iL first s l) w)
theorem G9 (g n₀:Nat) (n1 n2 n3 n4 n5 n6 n7:Int) (ob:Option Addr) (nb cb:Nat) (vps:Value) (first:Bool) (nm:ByteArray) (qs:List PD) (o:Option Addr) (m cap:Nat) (s:List Int) (w:World) (body:List aB) (d c:Nat) (w₀:World) (hbody:rH body) (hr:bF w₀ (.slice ob nb cb) body) (hlow:Below w₀.heap.size w₀ w) (hn0:w₀.heap.size=n₀) (hok:iU body (d-1)) (hbl:body.length≤64) (hd:0<d) (hcq:qs.length+4*aR body≤10000) (hc:4*aR body≤c) (hnd:nm.size+100*d≤100030)
  (h:fB g n₀ vps first qs (.slice o m cap) s w) (hm:m=s.length) (hnm:nm.size≤1000000):
  Calls Tryz.prog 135 #[.pointer (some ⟨g,0,none⟩),.agg #[.int .i64 13,.int .i64 n1,.int .i64 n2,.int .i64 n3,.int .i64 n4,.int .i64 n5,.int .i64 n6,.int .i64 n7,.slice ob nb cb],.slice o m cap,.string nm] w (qK g n₀ qs c (iL first s (.mk ⟨13,n1,n2,n3,n4,n5,n6,n7⟩ body)) w):=by
 obtain⟨W0,hW0⟩:∃W0,W0=w.alloc (.cells #[.int .i64 13,.int .i64 n1,.int .i64 n2,.int .i64 n3,.int .i64 n4,.int .i64 n5,.int .i64 n6,.int .i64 n7,.slice ob nb cb] 175):=⟨_,rfl⟩;obtain⟨W1,hW1⟩:∃W1,W1=W0.setCell ⟨g,1,none⟩ (.bool false):=⟨_,rfl⟩;have hst:=h.start ⟨13,n1,n2,n3,n4,n5,n6,n7⟩ (.slice ob nb cb) hW0 hW1;have HA:=Za hst.2;have x1:=hst.1.1;have f1:=hst.1.2;have HW:=Za (Zd hW0 hW1);obtain⟨hs3,hsd,hsp⟩:=iN h.fit;have hm3:m≤3:=by omega
 have HSD:=Za (Zd hsd hsp);have HFIT:=Za h.fit;have HQ:=Za h.hq;have HM:=Za hm;have hl2':¬9223372036854775807<nm.size+2:=by omega
 rw[hW0]at x1 f1;clear h hst hW0 hW1 hsd hsp hs3 hm;have a0:=HA.o.lay.q 0 rfl;have a1:=HA.o.lay.q 1 rfl;have a2:=HA.o.lay.q 2 rfl;have a3:=HA.o.lay.q 3 rfl;have a4:=HA.o.lay.q 4 rfl;have a5:=HA.o.lay.q 5 rfl;have a6:=HA.o.lay.q 6 rfl;have a7:=HA.o.lay.q 7 rfl;have a8:=HA.o.lay.q 8 rfl;have x2:=HA.o.wk.q 2 rfl;have f2:=HA.o.wk.free 2;have HRAW:=Za (show iL first s (.mk ⟨13,n1,n2,n3,n4,n5,n6,n7⟩ body)=match bT false s body with
   |none=>none
   |some p=>if p.1=s then some (s,p.2) else none by
  rw[iL,if_pos rfl]
  all_goals(cases bT false s body<;>rfl))
 have HBOD:=Za (hbody (d-1) g vps false qs o m cap s (.slice ob nb cb) (nm++{data:=#[46]}) w₀ W1 hr (hlow.trans (HA.o.st.low.mono (by rw[hn0];exact HA.o.hn))) hok hbl (by rw[hn0];exact⟨HA.o.wk,HA.o.row,HA.o.sh,HA.o.hn,HQ.o,HFIT.o⟩) hcq HM.o (by
  have:(nm++{data:=#[46]}:ByteArray).size=nm.size+1:=by simp[ByteArray.size_append];rfl
  rw[this];omega))
 rw[hn0]at HBOD;have hl1:¬9223372036854775807<nm.size+1:=by omega
 obtain⟨res,hres⟩:∃res,res=bT false s body:=⟨_,rfl⟩;rw[←hres]at HBOD HRAW;have HRES:=Za hres;clear hres hbody hr hok hlow;go_enter Tryz.func135,Tryz.ntmps135;go_upto_region 4 with(fail);rw[←HW.o.1,←HW.o.2];clear x1 f1;cases res with
 |none=>
  go_wp2_with(go_at_call 91;refine HBOD.o.mono ?_;rintro e w3 ⟨hs3,o3,m3,c3,vps3,qs3,first3,bad3,rfl,hb3,hr3,hq3,hf3,hn3,_⟩;obtain rfl:=hf3 rfl;have HA3:=Za (HA.o.par hs3 hb3 hr3);have HQ3:=Za (Zd hq3 (hn3 rfl));clear hs3 hb3 hr3 hq3 hf3 hn3;refine aD ?_);have x2:=HA3.o.wk.q 2 rfl;have hne:(bad3==0)=false:=by simpa using HQ3.o.2
  refine aC ?_;go_wp2_with(go_at_call 92;refine(jD _ s _ HA3.o.sh.1 (by rw[←HM.o];omega)).mono ?_;rintro e w5 ⟨v5,rfl,hown5,hb5⟩;obtain⟨o5,c5,rfl⟩:=aJ hown5;have HB5:=Za hb5;clear hown5 hb5);go_ret;have hz:=HA3.o.next HB5.o;exact⟨hz.st,_,_,_,_,_,_,rfl,hz.wk,hz.row,by have:=HQ3.o.1;omega,fun _=>HQ3.o.2,fun p hp=>(by rw[HRAW.o]at hp;cases hp)⟩
 |some p=>
  have HFP:=Za (m9 false s HFIT.o body p HRES.o.symm).1;by_cases hps:p.1=s
  ·have HR2:=Za (show iL first s (.mk ⟨13,n1,n2,n3,n4,n5,n6,n7⟩ body)=some (s,p.2) by rw[HRAW.o];exact if_pos hps);go_wp2_with(go_at_call 91;refine HBOD.o.mono ?_;rintro e w3 ⟨hs3,o3,m3,c3,vps3,qs3,first3,bad3,rfl,hb3,hr3,hq3,hf3,_,hy3⟩;obtain rfl:=hf3 rfl;obtain⟨rfl,hrd3,hmp3⟩:=hy3 p rfl;have HA3:=Za (HA.o.par hs3 hb3 hr3);have HQ3:=Za (Zd hq3 hmp3);have HRD3:=Za hrd3;clear hs3 hb3 hr3 hq3 hf3 hy3 hrd3 hmp3;refine aD ?_);have x2:=HA3.o.wk.q 2 rfl;have HSHP:=Za (m9 false s HFIT.o body p);have HLP:=Za (show p.1.length≤140737488351232 by rw[hps,←HM.o];omega);have HPS:=Za hps;have HEQ:=Za (fun(W:World) (hv:Rd W .i64 (.slice o3 m3 c3) p.1) (hu:Rd W .i64 (.slice o m cap) s)=>(oR _ _ p.1 s W hv hu HLP.o).mono (fun e w' h=>(⟨by rw[h.1,decide_eq_true HPS.o],h.2⟩:e=.returned (.bool true)∧aN W w')));clear hps;refine aC ?_;go_wp2_with(first
    |(go_at_call 94;refine(HEQ.o _ HRD3.o.1 HA3.o.sh.1).mono ?_;rintro e w4 ⟨rfl,hs4⟩;have HA4:=Za (HA3.o.next (hs4.below _));clear hs4)
    |(go_at_call 92;refine(jD _ s _ HA4.o.sh.1 (by rw[←HM.o];omega)).mono ?_;rintro e w5 ⟨v5,rfl,hown5,hb5⟩;have HO5:=Za (show aH w5 w4.heap.size 3 .i64 v5 s from hown5);obtain⟨o5,c5,rfl⟩:=aJ hown5;have HB5:=Za hb5;clear hown5 hb5))
   go_ret;have hz:=HA4.o.next HB5.o;exact⟨hz.st,_,_,_,_,_,_,rfl,hz.wk,hz.row,by have:=HQ3.o.1;omega,fun h=>(by rw[HR2.o]at h;cases h),fun q hq=>(by
    rw[HR2.o]at hq;cases hq;exact⟨⟨fun _=>(HSHP.o HRES.o.symm).2,fun _=>rfl⟩,fun _=>⟨aM.of_own HO5.o,HQ3.o.2⟩⟩)⟩
  ·have HR2:=Za (show iL first s (.mk ⟨13,n1,n2,n3,n4,n5,n6,n7⟩ body)=none by rw[HRAW.o];exact if_neg hps);have HPS:=Za hps;go_wp2_with(go_at_call 91;refine HBOD.o.mono ?_;rintro e w3 ⟨hs3,o3,m3,c3,vps3,qs3,first3,bad3,rfl,hb3,hr3,hq3,hf3,_,hy3⟩;obtain rfl:=hf3 rfl;obtain⟨rfl,hrd3,hmp3⟩:=hy3 p rfl;have HA3:=Za (HA.o.par hs3 hb3 hr3);have HQ3:=Za (Zd hq3 hmp3);have HRD3:=Za hrd3;clear hs3 hb3 hr3 hq3 hf3 hy3 hrd3 hmp3;refine aD ?_);have x2:=HA3.o.wk.q 2 rfl;have HLP:=Za (show p.1.length≤140737488351232 by have:=(iN (HFP.o)).1;omega);have HEQ:=Za (fun(W:World) (hv:Rd W .i64 (.slice o3 m3 c3) p.1) (hu:Rd W .i64 (.slice o m cap) s)=>(oR _ _ p.1 s W hv hu HLP.o).mono (fun e w' h=>(⟨by rw[h.1,decide_eq_false HPS.o],h.2⟩:e=.returned (.bool false)∧aN W w')));clear hps;refine aC ?_;go_wp2_with(first
    |(go_at_call 94;refine(HEQ.o _ HRD3.o.1 HA3.o.sh.1).mono ?_;rintro e w4 ⟨rfl,hs4⟩;have HA4:=Za (HA3.o.next (hs4.below _));have x4:=HA4.o.wk.q 2 rfl;have f4:=HA4.o.wk.free 2;clear hs4)
    |(go_at_call 92;refine(jD _ s _ (HA4.o.bad 2).sh.1 (by rw[←HM.o];omega)).mono ?_;rintro e w5 ⟨v5,rfl,hown5,hb5⟩;obtain⟨o5,c5,rfl⟩:=aJ hown5;have HB5:=Za hb5;clear hown5 hb5))
   go_ret;have hz:=(HA4.o.bad 2).next HB5.o;exact⟨hz.st,_,_,_,_,_,_,rfl,hz.wk,hz.row,by have:=HQ3.o.1;omega,fun _=>by decide,fun q hq=>(by rw[HR2.o]at hq;cases hq)⟩
end Go.Proofs.YtjhkdocidcfpdaaGreatDoor
