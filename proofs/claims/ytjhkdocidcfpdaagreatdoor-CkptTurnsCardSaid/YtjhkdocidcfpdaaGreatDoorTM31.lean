/-
  A part of the proof of a law (packed by program).
-/
import Derived.Test.YtjhkdocidcfpdaaGreatDoorTM30
set_option linter.unusedVariables false
set_option linter.unusedSimpArgs false
set_option maxRecDepth 100000
set_option maxHeartbeats 16000000
namespace Go.Proofs.YtjhkdocidcfpdaaGreatDoor
open Go.RowKit Go.Shelf Go
theorem S3 (g n₀:Nat) (n:aG) (ob:Option Addr) (nb cb:Nat) (o:Option Addr) (cap:Nat) (first:Bool) (nm:ByteArray) (s:List Int) (w:World) (h:fI g n₀ n (.slice ob nb cb) o cap first nm s w)
  (hk:n.kind=8) (hw:jE n):
  Calls Tryz.prog 207 #[.pointer (some ⟨g,0,none⟩)] w (eY g n₀ n (.slice ob nb cb) (.slice o s.length cap) first nm w (aK n first s)):=by
 have HH:=Za h;obtain⟨hsl,hsd,hsp⟩:=dX h.sh;obtain⟨res,hres⟩:∃res,res=bV n s:=⟨_,rfl⟩;have HD:Hid (aK n first s=res.map (fun p=>(aE s 0::p,[]))):=Za (by rw[aK,hk,hres];cases bV n s<;>rfl);have HW:=Za hw;have HRES:=Za hres;obtain⟨i0,hi,hz0,hz1,hz2⟩:=info_parts jJ;clear hw hres;obtain⟨k,k1,k2,k3,k4,k5,k6,k7⟩:=n;have hk:k=8:=hk;subst hk;have c0:=h.box.q 0 rfl;have c1:=h.box.q 1 rfl;have c2:=h.box.q 2 rfl;have c3:=h.box.q 3 rfl;have c4:=h.box.q 4 rfl;have c5:=h.box.q 5 rfl;have c6:=h.box.q 6 rfl;have c7:=h.box.q 7 rfl;have c8:=h.box.q 8 rfl;have c9:=h.box.q 9 rfl;have hgl:=h.box.lt;clear h;go_enter Tryz.func207,Tryz.ntmps207;go_wp2_with fail;go_region;have hb1:Below w.heap.size w (w.alloc (.cells #[.int .i64 8,.int .i64 k1,.int .i64 k2,.int .i64 k3,.int .i64 k4,.int .i64 k5,.int .i64 k6,.int .i64 k7,.slice ob nb cb] 175)).drew:=((Zc _ _).alloc (Zb _) _).drew;have hbl:aA (w.alloc (.cells #[.int .i64 8,.int .i64 k1,.int .i64 k2,.int .i64 k3,.int .i64 k4,.int .i64 k5,.int .i64 k6,.int .i64 k7,.slice ob nb cb] 175)).drew w.heap.size 175 #[.int .i64 8,.int .i64 k1,.int .i64 k2,.int .i64 k3,.int .i64 k4,.int .i64 k5,.int .i64 k6,.int .i64 k7,.slice ob nb cb]:=aA.new w _ _;clear c0 c1 c2 c3 c4 c5 c6 c7 c8 c9;generalize (w.alloc (.cells #[.int .i64 8,.int .i64 k1,.int .i64 k2,.int .i64 k3,.int .i64 k4,.int .i64 k5,.int .i64 k6,.int .i64 k7,.slice ob nb cb] 175)).drew=W1 at hb1 hbl ⊢;obtain⟨lb,hlb⟩:∃lb,lb=w.heap.size:=⟨_,rfl⟩;rw[←hlb]at hbl ⊢;have HBL:=Za hbl;have HBX:=Za (HH.o.box.next hb1);have HS:=Za (HH.o.rd.below hb1);have HP:=Za (bC.below hb1 (Nat.le_of_lt hgl));have HLB:=Za (show g<lb∧lb<W1.heap.size from⟨by omega,hbl.lt⟩);have c0:=hbl.q 0 rfl;have c1:=hbl.q 1 rfl;have c2:=hbl.q 2 rfl;have c3:=hbl.q 3 rfl;have c4:=hbl.q 4 rfl;have c5:=hbl.q 5 rfl;have c6:=hbl.q 6 rfl;have c7:=hbl.q 7 rfl;have d9:=HBX.o.q 9 rfl;have d10:=HBX.o.q 10 rfl;have d12:=HBX.o.q 12 rfl;have f10:=HBX.o.free 10;clear hb1 hbl hlb hgl;have HI:=Za (qI g n₀ ⟨8,k1,k2,k3,k4,k5,k6,k7⟩ (.slice ob nb cb) (.slice none 0 0) (.slice none 0 0) first nm 0 false o cap s W1 HBX.o HS.o hsd (by omega) HW.o);rw[←HRES.o]at HI;cases res with
 |none=>
  go_wp2_with(go_at_call 211;refine HI.o.mono ?_;rintro e w2 ⟨hb2,v,rfl,_⟩;refine aD ?_);have HX:=Za hb2;clear hb2;refine aC ?_;go_wp2_with fail;go_ret;exact⟨HP.o.trans (bC.below HX.o (Nat.le_of_lt (Nat.lt_trans HLB.o.1 HLB.o.2))),_,_,[],HBX.o.next HX.o,aV.nil _ _ _,by rw[HD.o];rfl,fun p hp=>(by rw[HD.o]at hp;cases hp),fun _=>⟨_,_,_,rfl⟩⟩
 |some p=>
  have hs1:2≤s.length∧s.length≤3:=by
   have:=HRES.o;rw[bV]at this;split at this
   ·omega
   ·cases this
  have hpl:p.length≤4:=by
   have:=HRES.o;rw[bV]at this;split at this
   ·have:=lU this.symm;rw[List.length_tail]at this;omega
   ·cases this
  obtain⟨b,off,rfl,e0⟩:=HS.o.1.cell 0 (by omega);rw[Nat.add_zero]at e0;have HA:=Za (show dG g n₀ lb ⟨8,k1,k2,k3,k4,k5,k6,k7⟩ (.slice ob nb cb) (.slice (some ⟨b,off,none⟩) s.length cap) (.slice none 0 0) (.slice none 0 0) first nm [] [] w W1 from⟨HP.o,HBX.o,HBL.o,aV.nil _ _ _,aM.nil _ _⟩);have hlen:(0:Int)<s.length:=by omega
  have hgg:=HH.o.n0;go_wp2_with(go_at_call 211;refine HI.o.mono ?_;rintro e w2 ⟨hb2,v,rfl,ho⟩;refine aD ?_);have ho2:=ho p rfl;obtain⟨op,kp,rfl⟩:=aJ ho2;have HA2:=Za (HA.o.alloc hb2);have HO2:=Za (Rd.of_own ho2);have d9':=HA2.o.box.q 9 rfl;have e0':w2.cell? ⟨b,off,none⟩=some (.int .i64 (aE s 0)):=(hb2.cell (p:=⟨b,off,none⟩) (aP e0)).trans e0;clear ho ho2 hb2 HA HI c0 c1 c2 c3 c4 c5 c6 c7 d9 d10 d12 f10 e0 HBX HBL HP HS;refine aC ?_;go_wp2_with(at_builtin;refine aD ?_);refine aC ?_;have HOW:=Za (fO w2 (aE s 0));refine kI rfl _ _ 30 rfl w2.heap.size 3 .i64 i0 8 Tryz.underlying30 hi hz0 hz1 hz2 _ [aE s 0] rfl HOW.o _ p rfl (HO2.o.alloc _) (by unfold maxLen;simp;omega) (by simp;omega) (by simp) ?_;intro v' w3 hown hg _;have HF:=Za (HA2.o.put (out:=aE s 0::p) ((((Zc _ _).alloc (Zb _) _).grown hg (by simp) (fun k hk=>(HOW.o.lt k hk).1))) (aM.of_own hown) hgg);have e3:=HF.o.1.1;have e4:=HF.o.1.2;obtain⟨oq,kq,rfl⟩:=aJ hown;clear hown hg;go_wp2_with fail;go_ret;exact HF.o.2.fin HD.o rfl
theorem P8 (g n₀:Nat) (n:aG) (ob:Option Addr) (nb cb:Nat) (o:Option Addr) (cap:Nat) (first:Bool) (nm:ByteArray) (s:List Int) (w:World) (h:fI g n₀ n (.slice ob nb cb) o cap first nm s w)
  (hk:n.kind=9) (hw:jE n):
  Calls Tryz.prog 207 #[.pointer (some ⟨g,0,none⟩)] w (eY g n₀ n (.slice ob nb cb) (.slice o s.length cap) first nm w (aK n first s)):=by
 have HH:=Za h;obtain⟨hsl,hsd,hsp⟩:=dX h.sh;obtain⟨res,hres⟩:∃res,res=bV n s:=⟨_,rfl⟩;have HD:Hid (aK n first s=res.map (fun p=>(aE s 0::p,[]))):=Za (by rw[aK,hk,hres];cases bV n s<;>rfl);have HW:=Za hw;have HRES:=Za hres;obtain⟨i0,hi,hz0,hz1,hz2⟩:=info_parts jJ;clear hw hres;obtain⟨k,k1,k2,k3,k4,k5,k6,k7⟩:=n;have hk:k=9:=hk;subst hk;have c0:=h.box.q 0 rfl;have c1:=h.box.q 1 rfl;have c2:=h.box.q 2 rfl;have c3:=h.box.q 3 rfl;have c4:=h.box.q 4 rfl;have c5:=h.box.q 5 rfl;have c6:=h.box.q 6 rfl;have c7:=h.box.q 7 rfl;have c8:=h.box.q 8 rfl;have c9:=h.box.q 9 rfl;have hgl:=h.box.lt;clear h;go_enter Tryz.func207,Tryz.ntmps207;go_wp2_with fail;go_region;have hb1:Below w.heap.size w (w.alloc (.cells #[.int .i64 9,.int .i64 k1,.int .i64 k2,.int .i64 k3,.int .i64 k4,.int .i64 k5,.int .i64 k6,.int .i64 k7,.slice ob nb cb] 175)).drew:=((Zc _ _).alloc (Zb _) _).drew;have hbl:aA (w.alloc (.cells #[.int .i64 9,.int .i64 k1,.int .i64 k2,.int .i64 k3,.int .i64 k4,.int .i64 k5,.int .i64 k6,.int .i64 k7,.slice ob nb cb] 175)).drew w.heap.size 175 #[.int .i64 9,.int .i64 k1,.int .i64 k2,.int .i64 k3,.int .i64 k4,.int .i64 k5,.int .i64 k6,.int .i64 k7,.slice ob nb cb]:=aA.new w _ _;clear c0 c1 c2 c3 c4 c5 c6 c7 c8 c9;generalize (w.alloc (.cells #[.int .i64 9,.int .i64 k1,.int .i64 k2,.int .i64 k3,.int .i64 k4,.int .i64 k5,.int .i64 k6,.int .i64 k7,.slice ob nb cb] 175)).drew=W1 at hb1 hbl ⊢;obtain⟨lb,hlb⟩:∃lb,lb=w.heap.size:=⟨_,rfl⟩;rw[←hlb]at hbl ⊢;have HBL:=Za hbl;have HBX:=Za (HH.o.box.next hb1);have HS:=Za (HH.o.rd.below hb1);have HP:=Za (bC.below hb1 (Nat.le_of_lt hgl));have HLB:=Za (show g<lb∧lb<W1.heap.size from⟨by omega,hbl.lt⟩);have c0:=hbl.q 0 rfl;have c1:=hbl.q 1 rfl;have c2:=hbl.q 2 rfl;have c3:=hbl.q 3 rfl;have c4:=hbl.q 4 rfl;have c5:=hbl.q 5 rfl;have c6:=hbl.q 6 rfl;have c7:=hbl.q 7 rfl;have d9:=HBX.o.q 9 rfl;have d10:=HBX.o.q 10 rfl;have d12:=HBX.o.q 12 rfl;have f10:=HBX.o.free 10;clear hb1 hbl hlb hgl;have HI:=Za (qI g n₀ ⟨9,k1,k2,k3,k4,k5,k6,k7⟩ (.slice ob nb cb) (.slice none 0 0) (.slice none 0 0) first nm 0 false o cap s W1 HBX.o HS.o hsd (by omega) HW.o);rw[←HRES.o]at HI;cases res with
 |none=>
  go_wp2_with(go_at_call 211;refine HI.o.mono ?_;rintro e w2 ⟨hb2,v,rfl,_⟩;refine aD ?_);have HX:=Za hb2;clear hb2;refine aC ?_;go_wp2_with fail;go_ret;exact⟨HP.o.trans (bC.below HX.o (Nat.le_of_lt (Nat.lt_trans HLB.o.1 HLB.o.2))),_,_,[],HBX.o.next HX.o,aV.nil _ _ _,by rw[HD.o];rfl,fun p hp=>(by rw[HD.o]at hp;cases hp),fun _=>⟨_,_,_,rfl⟩⟩
 |some p=>
  have hs1:2≤s.length∧s.length≤3:=by
   have:=HRES.o;rw[bV]at this;split at this
   ·omega
   ·cases this
  have hpl:p.length≤4:=by
   have:=HRES.o;rw[bV]at this;split at this
   ·have:=lU this.symm;rw[List.length_tail]at this;omega
   ·cases this
  obtain⟨b,off,rfl,e0⟩:=HS.o.1.cell 0 (by omega);rw[Nat.add_zero]at e0;have HA:=Za (show dG g n₀ lb ⟨9,k1,k2,k3,k4,k5,k6,k7⟩ (.slice ob nb cb) (.slice (some ⟨b,off,none⟩) s.length cap) (.slice none 0 0) (.slice none 0 0) first nm [] [] w W1 from⟨HP.o,HBX.o,HBL.o,aV.nil _ _ _,aM.nil _ _⟩);have hlen:(0:Int)<s.length:=by omega
  have hgg:=HH.o.n0;go_wp2_with(go_at_call 211;refine HI.o.mono ?_;rintro e w2 ⟨hb2,v,rfl,ho⟩;refine aD ?_);have ho2:=ho p rfl;obtain⟨op,kp,rfl⟩:=aJ ho2;have HA2:=Za (HA.o.alloc hb2);have HO2:=Za (Rd.of_own ho2);have d9':=HA2.o.box.q 9 rfl;have e0':w2.cell? ⟨b,off,none⟩=some (.int .i64 (aE s 0)):=(hb2.cell (p:=⟨b,off,none⟩) (aP e0)).trans e0;clear ho ho2 hb2 HA HI c0 c1 c2 c3 c4 c5 c6 c7 d9 d10 d12 f10 e0 HBX HBL HP HS;refine aC ?_;go_wp2_with(at_builtin;refine aD ?_);refine aC ?_;have HOW:=Za (fO w2 (aE s 0));refine kI rfl _ _ 30 rfl w2.heap.size 3 .i64 i0 8 Tryz.underlying30 hi hz0 hz1 hz2 _ [aE s 0] rfl HOW.o _ p rfl (HO2.o.alloc _) (by unfold maxLen;simp;omega) (by simp;omega) (by simp) ?_;intro v' w3 hown hg _;have HF:=Za (HA2.o.put (out:=aE s 0::p) ((((Zc _ _).alloc (Zb _) _).grown hg (by simp) (fun k hk=>(HOW.o.lt k hk).1))) (aM.of_own hown) hgg);have e3:=HF.o.1.1;have e4:=HF.o.1.2;obtain⟨oq,kq,rfl⟩:=aJ hown;clear hown hg;go_wp2_with fail;go_ret;exact HF.o.2.fin HD.o rfl
theorem GQ (k:Nat) (hk:k≤100):(⟨(Lib.itoa (k:Int)).toArray⟩:ByteArray).size≤21:=by
 show(Lib.itoa (k:Int)).toArray.size≤21
 rw[List.size_toArray];exact Lib.itoa_length_le (k:Int) (by omega) (by omega)
theorem RU (k:Nat) (v:Value) (w:World) (h:lC w v k) (hk:k≤100):Calls Tryz.prog 136 #[.agg #[.bool false,v]] w fun e w'=>(∃tx:ByteArray,e=.returned (.string tx)∧tx.size≤21)∧Below w.heap.size w w':=
 (OV k v w h (by omega)).mono fun e w' hh=>⟨⟨_,hh.1,GQ k hk⟩,hh.2⟩
theorem KI {first:Bool} {s:List Int} {l:aB} {p:List Int×List (List Int)} (hf:dM s=true) (h:iL first s l=some p):p.1.length≤8:=by
 obtain⟨n,body⟩:=l;have hs:=(iN hf).1;rw[iL]at h;split at h
 ·cases hb:bT false s body with
  |none=>rw[hb]at h;cases h
  |some q=>
   rw[hb]at h;dsimp only at h;split at h
   ·cases h;dsimp only;omega
   ·cases h
 ·exact(vI (by omega) h).1
theorem CE {P:Program} {ops:Array Oper} {rest:List Oper} {o:Oper} {a:Act} {w:World} {Q:Exit→Act→World→Prop} (hw:Region.wanted o (yielded ops a.tmps)=true) (s x:Operand) (t:TypeId)
  (ho:o.op=.call {callee:=.builtin .append,args:=#[s,x],argTypes:=#[t,t]})
  (B:Nat) (e:TypeId) (K:IntKind) (i:TypeInfo) (bytes:Nat) (ht:P.underlying t=some (.slice e)) (hi:P.info? e=some i) (hz:i.zero=some (.int K 0)) (hsize:i.size=1) (hby:i.bytes=bytes)
  (v:Value) (xs:List Int) (hs:a.eval s=v) (hown:aH w B e K v xs) (u:Value) (ys:List Int) (hx:a.eval x=u) (hr:Rd w K u ys)
  (h63:xs.length+ys.length≤maxLen) (hbytes:(xs.length+ys.length)*bytes≤140737488355328) (hbase:B≤w.heap.size)
  (h:∀v' w',aH w' B e K v' (xs++ys)→w.grownBy w' v.ownBlock→(v'.ownBlock=v.ownBlock∨v'.ownBlock=some w.heap.size)→wpList P ops Q rest (a.put o.dst v') w'):
  wpList P ops Q (o::rest) a w:=by rw[wpList,if_pos hw];left;obtain⟨v',w',hrun,h2,h3,h4⟩:=uM (P:=P) w t o.type B e K i bytes ht hi hz hsize hby v xs hown u ys hr h63 hbytes hbase;unfold Oper.wp execOp;simp only[ho,resolve,invoke,builtin,Sem.run_bind,Sem.run_pure,Result.andThen_ok,List.map_toArray,List.map_cons,List.map_nil,hs,hx,hrun];exact h v' w' h2 h3 h4
theorem xK (ls:List aB) (k:Nat):aR (ls.take k)≤aR ls:=by have:=uV (ls.take k) (ls.drop k);rw[List.take_append_drop]at this;omega
theorem wL {w4 W:World} {b o:Nat} {v0 v1 v2 v3 v4 v5 v6 v7 v8:Value} (hc:w4.cell? ⟨b,o,none⟩=some v0∧w4.cell? ⟨b,o+1,none⟩=some v1∧w4.cell? ⟨b,o+2,none⟩=some v2∧w4.cell? ⟨b,o+3,none⟩=some v3∧w4.cell? ⟨b,o+4,none⟩=some v4∧w4.cell? ⟨b,o+5,none⟩=some v5∧w4.cell? ⟨b,o+6,none⟩=some v6∧w4.cell? ⟨b,o+7,none⟩=some v7∧w4.cell? ⟨b,o+8,none⟩=some v8) (h:Below w4.heap.size w4 W):W.cell? ⟨b,o,none⟩=some v0∧W.cell? ⟨b,o+1,none⟩=some v1∧W.cell? ⟨b,o+2,none⟩=some v2∧W.cell? ⟨b,o+3,none⟩=some v3∧W.cell? ⟨b,o+4,none⟩=some v4∧W.cell? ⟨b,o+5,none⟩=some v5∧W.cell? ⟨b,o+6,none⟩=some v6∧W.cell? ⟨b,o+7,none⟩=some v7∧W.cell? ⟨b,o+8,none⟩=some v8:=by obtain⟨h0,h1,h2,h3,h4,h5,h6,h7,h8⟩:=hc;exact⟨(h.cell (p:=⟨b,o,none⟩) (aP h0)).trans h0,(h.cell (p:=⟨b,o+1,none⟩) (aP h1)).trans h1,(h.cell (p:=⟨b,o+2,none⟩) (aP h2)).trans h2,(h.cell (p:=⟨b,o+3,none⟩) (aP h3)).trans h3,(h.cell (p:=⟨b,o+4,none⟩) (aP h4)).trans h4,(h.cell (p:=⟨b,o+5,none⟩) (aP h5)).trans h5,(h.cell (p:=⟨b,o+6,none⟩) (aP h6)).trans h6,(h.cell (p:=⟨b,o+7,none⟩) (aP h7)).trans h7,(h.cell (p:=⟨b,o+8,none⟩) (aP h8)).trans h8⟩
theorem SR (n:aG) (body:List aB) (hb:rH body):vE (.mk n body):=by
 intro d g vps first qs o m cap s ob nb cb nm w₀ w hr hlow hok h hq hm hnm;rw[lJ]at hok;obtain⟨hbl,hok⟩:=hok;obtain⟨k,n1,n2,n3,n4,n5,n6,n7⟩:=n;have hc:(aB.mk ⟨k,n1,n2,n3,n4,n5,n6,n7⟩ body).count=1+aR body:=by rw[aB.count]
 rw[hc]at hq ⊢;have hnm2:nm.size≤1000000:=by omega
 simp only[aB.n,aB.body,oO]at hr hok ⊢;rcases hok with⟨rfl,hd,hokb⟩|⟨hk13,hok⟩
 ·exact G9 g w₀.heap.size n1 n2 n3 n4 n5 n6 n7 ob nb cb vps first nm qs o m cap s w body d (4*(1+aR body)) w₀ hb hr hlow rfl hokb hbl hd (by omega) (by omega) hnm h hm hnm2
 ·have hraw:iL first s (.mk ⟨k,n1,n2,n3,n4,n5,n6,n7⟩ body)=aK ⟨k,n1,n2,n3,n4,n5,n6,n7⟩ first s:=by rw[iL,if_neg hk13]
  rw[hraw];have fin:∀{e:Ending} {w':World},bL g w₀.heap.size qs (aK ⟨k,n1,n2,n3,n4,n5,n6,n7⟩ first s) w e w'→qK g w₀.heap.size qs (4*(1+aR body)) (aK ⟨k,n1,n2,n3,n4,n5,n6,n7⟩ first s) w e w':=fun h=>h.d (by omega);clear hraw;by_cases k1:k=1
  ·subst k1;exact(GV g _ n1 n2 n3 n4 n5 n6 n7 ob nb cb vps first nm qs o m cap s w h hm hnm2).mono fun e w' h=>fin h
  by_cases k2:k=2
  ·subst k2;exact(KW g _ n1 n2 n3 n4 n5 n6 n7 ob nb cb vps first nm qs o m cap s w (hok.1 (.inl rfl)) h hm hnm2).mono fun e w' h=>fin h
  by_cases k8:k=8
  ·subst k8;exact(LD g _ n1 n2 n3 n4 n5 n6 n7 ob nb cb vps first nm qs o m cap s w (hok.1 (.inr (.inl rfl))) h hm hnm2).mono fun e w' h=>fin h
  by_cases k9:k=9
  ·subst k9;exact(SW g _ n1 n2 n3 n4 n5 n6 n7 ob nb cb vps first nm qs o m cap s w (hok.1 (.inr (.inr rfl))) h hm hnm2).mono fun e w' h=>fin h
  by_cases k10:k=10
  ·subst k10;exact(IK g _ n1 n2 n3 n4 n5 n6 n7 ob nb cb vps first nm qs o m cap s w h hm hnm2).mono fun e w' h=>fin h
  by_cases k11:k=11
  ·subst k11;exact(RC g _ n1 n2 n3 n4 n5 n6 n7 ob nb cb vps first nm qs o m cap s w h hm hnm2).mono fun e w' h=>fin h
  by_cases k12:k=12
  ·subst k12;exact(KT g _ n1 n2 n3 n4 n5 n6 n7 ob nb cb vps first nm qs o m cap s w (hok.2 rfl).1 (hok.2 rfl).2 h hm hnm2).mono fun e w' h=>fin h
  exact(TT g _ n1 n2 n3 n4 n5 n6 n7 ob nb cb vps first nm qs o m cap s w k ⟨k1,k2,k8,k9,k10,k11,k12,hk13⟩ h hm hnm2).mono fun e w' h=>fin h
structure BAt (g n₀:Nat) (first:Bool) (qs:List PD) (ls:List aB) (s:List Int) (k:Nat) (o:Option Addr) (m c:Nat) (w W:World):Prop where
 st:bZ g w W
 row:∃vps' qs' s' ps,aA W g 156 (gV vps' (first&&decide (k=0)) 0)∧aV W n₀ g vps' qs'∧qs'.length≤qs.length+4*aR (ls.take k)∧bT first s (ls.take k)=some (s',ps)∧dM s'=true∧m=s'.length∧aM n₀ W (.slice o m c) s'∧qs'.map (·.sh)=qs.map (·.sh)++ps
structure vQ (g n₀:Nat) (first:Bool) (qs:List PD) (ls:List aB) (s:List Int) (w W:World):Prop where
 st:bZ g w W
 row:∃vps' qs' first' bad',aA W g 156 (gV vps' first' bad')∧aV W n₀ g vps' qs'∧qs'.length≤qs.length+4*aR ls∧(first=false→first'=false)∧bad'≠0∧bT first s ls=none
theorem BZ (ls:List aB) (hall:∀l∈ls,vE l):rH ls:=by
 intro d g vps first qs o m cap s vl ahead w₀ w hr hlow hok hbl h hcq hm hnm;obtain⟨i0,hi,hz0,hz1,hz2⟩:=info_parts nC;obtain⟨ol,cl,rfl⟩:=hr.len;have HALL:=Za hall;have HR:=Za hr;have HLOW:=Za hlow;have HOK:=Za hok;have HN:=Za h.hn;have HCQ:=Za hcq;have HST:=Za (show BAt g w₀.heap.size first qs ls s 0 o m cap w w from⟨bZ.refl _ _,vps,qs,s,[],by rw[decide_eq_true rfl,Bool.and_true];exact h.wk,h.row,by simp[aR],by rw[List.take_zero,rR],h.fit,hm,h.sh,by simp⟩);clear hall hr hlow hok h hcq hm;go_enter Tryz.func91,Tryz.ntmps91;go_wp2;go_loopw[2,9] (fun v i wr=>(∃k:Nat,k≤ls.length∧i=.int .i64 k∧Hid (∃o' m' c',v=.slice o' m' c'∧BAt g w₀.heap.size first qs ls s k o' m' c' w wr))∨(∃k:Nat,k≤ls.length∧i=.int .i64 k∧Hid (∃o' m' c',v=.slice o' m' c')∧Hid (vQ g w₀.heap.size first qs ls s w wr))) (fun _ i _=>ls.length-(intOf i).toNat)
 case atStart=>exact .inl ⟨0,Ze _,rfl,Za ⟨_,_,_,rfl,HST.o⟩⟩
 case round=>
  obtain⟨w1,rfl⟩:∃w1,w1=wr:=⟨_,rfl⟩;rcases hrel with⟨k,hk,rfl,HB⟩|⟨k,hk,rfl,HV,HB⟩
  ·obtain⟨o1,m1,c1,rfl,hB⟩:=HB.o;obtain⟨hst,vps1,qs1,s1,ps1,hbx,hrow,hq1,hw1,hf1,hm1,hsh1,hmp1⟩:=hB;have HA:=Za (show fB g w₀.heap.size vps1 (first&&decide (k=0)) qs1 (.slice o1 m1 c1) s1 w1 from⟨hbx,hrow,hsh1,HN.o,by have:=xK ls k;have:=HCQ.o;omega,hf1⟩);have HS:=Za (Zd hst (Zd hw1 (Zd hm1 (Zd hmp1 hq1))));have x2:=hbx.q 2 rfl;clear hst hbx hrow hq1 hw1 hf1 hm1 hsh1 hmp1;by_cases hlt:k<ls.length
   ·have HCT:=vN hlt;obtain⟨b,off,vb,rfl,hcell,hlb,hlim⟩:=HR.o.lay k hlt;have HL:=Za (HALL.o _ (List.getElem_mem hlt));have HOKL:=Za (HOK.o.at k hlt);have HSTEP:=Za (DW hlt HS.o.2.1);have HRAW:=Za (PP (first&&decide (k=0)) s1 ls[k] HA.o.fit);have HCT2:=Za HCT;clear HCT;generalize ls[k]=x at hcell hlb hlim HL HOKL HSTEP HRAW HCT2;obtain⟨n,body⟩:=x;simp only[aB.n,aB.body]at hcell hlb hlim HL HOKL;obtain⟨ob,cb,rfl⟩:=hlb.len;have HLB:=Za hlb;have c0:=hcell 0 _ rfl;have c1':=hcell 1 _ rfl;have c2:=hcell 2 _ rfl;have c3:=hcell 3 _ rfl;have c4:=hcell 4 _ rfl;have c5:=hcell 5 _ rfl;have c6:=hcell 6 _ rfl;have c7:=hcell 7 _ rfl;have c8:=hcell 8 _ rfl;simp only[Nat.add_zero]at c0;have HC0:=Za (Zd c0 (Zd c1' (Zd c2 (Zd c3 (Zd c4 (Zd c5 (Zd c6 (Zd c7 c8))))))));have HXB:=Za (show Below w₀.heap.size w₀ w1 from HLOW.o.trans (HS.o.1.low.mono HN.o));obtain⟨z0,z1,z2,z3,z4,z5,z6,z7,z8⟩:=wL HC0.o HXB.o;clear hcell hlb c0 c1' c2 c3 c4 c5 c6 c7 c8;have HX:=Za (show Below w1.heap.size w1 w1.drew from Below.drew (Zc _ _));obtain⟨raw,hraw⟩:∃raw,raw=iL (first&&decide (k=0)) s1 (.mk n body):=⟨_,rfl⟩;have HRW:=Za hraw;have HLAY:=Za (fun(W:World) (hX:Below w1.heap.size w1 W) (tx:ByteArray) (hts:tx.size≤21)=>show Calls Tryz.prog 135 #[.pointer (some ⟨g,0,none⟩),.agg #[.int .i64 n.kind,.int .i64 n.inn,.int .i64 n.o,.int .i64 n.size,.int .i64 n.stride,.int .i64 n.pad,.int .i64 n.percent,.int .i64 n.heads,.slice ob body.length cb],.slice o1 m1 c1,.string (ahead++tx)] W (qK g w₀.heap.size qs1 (4*(aB.mk n body).count) raw W) by
     rw[hraw];refine HL.o d g vps1 (first&&decide (k=0)) qs1 o1 m1 c1 s1 ob body.length cb (ahead++tx) w₀ W HLB.o (HXB.o.trans (hX.mono HXB.o.size)) HOKL.o ⟨HA.o.wk.next hX,HA.o.row.below hX,HA.o.sh.below hX,HA.o.hn,HA.o.hq,HA.o.fit⟩ ?_ HS.o.2.2.1 ?_
     ·have h1:=HCT2.o.1;have h2:=HCT2.o.2;have h3:=HS.o.2.2.2.2;have h4:=HCQ.o;omega
     ·rw[ByteArray.size_append];omega)
    have hk10:k≤100:=by omega
    clear hraw;have HLX:=Za (show ∀t:ByteArray,t.size≤21→¬9223372036854775807<ahead.size+t.size from fun t ht=>by omega);go_wp2_with fail;go_region_held3 (fun w'=>w'.cell? ⟨b,off+k*9,none⟩=some (.int .i64 n.kind)∧w'.cell? ⟨b,off+k*9+1,none⟩=some (.int .i64 n.inn)∧w'.cell? ⟨b,off+k*9+2,none⟩=some (.int .i64 n.o)∧w'.cell? ⟨b,off+k*9+3,none⟩=some (.int .i64 n.size)∧w'.cell? ⟨b,off+k*9+4,none⟩=some (.int .i64 n.stride)∧w'.cell? ⟨b,off+k*9+5,none⟩=some (.int .i64 n.pad)∧w'.cell? ⟨b,off+k*9+6,none⟩=some (.int .i64 n.percent)∧w'.cell? ⟨b,off+k*9+7,none⟩=some (.int .i64 n.heads)∧w'.cell? ⟨b,off+k*9+8,none⟩=some (.slice ob body.length cb))
     (first|with_reducible exact HCC.o|exact wL HC0.o (HXB.o.trans (HX.o.mono HXB.o.size)))
     (first
     |(go_at_call 137;refine(K3 k _ (by omega)).mono ?_;rintro e wf ⟨⟨vf,rfl,hvf⟩,hbf⟩;have HVF:=Za hvf;have HX:=Za (HX.o.trans (hbf.mono HX.o.size));clear hvf hbf)
     |(go_at_call 136;refine(RU k vf _ HVF.o hk10).mono ?_;rintro e wt ⟨⟨tx,rfl,hts⟩,hbt⟩;have HX:=Za (HX.o.trans (hbt.mono HX.o.size));have hlx:=HLX.o tx hts;clear hbt)
     |(go_at_call 135;refine(HLAY.o _ HX.o tx hts).mono ?_;rintro e w3 ⟨hs3,o3,m3,c3,vps3,qs3,bad3,rfl,hb3,hr3,hq3,hn3,hy3⟩;have HL3:=Za (Zd hb3 (Zd hr3 (Zd hq3 (Zd hn3 hy3))));have HS3:=Za ((bZ.below HX.o (Nat.le_of_lt HA.o.wk.lt)).trans hs3);have HCC:=Za (wL HC0.o (HXB.o.trans (((bZ.below HX.o (Nat.le_of_lt HA.o.wk.lt)).trans hs3).low.mono HN.o)));clear hs3 hb3 hr3 hq3 hn3 hy3))
    clear z0 z1 z2 z3 z4 z5 z6 z7 z8 x2;have HQL:=Za (show qs3.length≤qs.length+4*aR (ls.take (k+1)) by have h1:=HCT2.o.1;have h3:=HS.o.2.2.2.2;have h5:=HL3.o.2.2.1;omega);have HQL2:=Za (show qs3.length≤qs.length+4*aR ls by have:=xK ls (k+1);have:=HQL.o;omega);have x2:=HL3.o.1.q 2 rfl;have f2:=HL3.o.1.free 2;by_cases hb0:bad3=0
    ·subst hb0;cases raw with
     |none=>exact absurd rfl (HL3.o.2.2.2.1 rfl)
     |some p=>
      have HY:=Za (HL3.o.2.2.2.2 p rfl);have HALL2:=Za (HY.o.1.1 rfl);obtain⟨hrd,hmap⟩:=HY.o.2 rfl;have HRD:=Za hrd;have HMP:=Za hmap;have hm3:m3=p.1.length:=by obtain⟨oo,cc,e⟩:=hrd.slice;cases e;rfl
      have HM3:=Za hm3;have hlen:p.1.length≤8:=KI HA.o.fit HRW.o.symm;have hm8:m3≤8:=by omega
      have HYL:=Za (show [(1:Int)].length+p.1.length≤maxLen∧([(1:Int)].length+p.1.length)*8≤140737488355328 by unfold maxLen;simp;omega);have HOW:=Za (fO w3 1);clear hrd hmap hlen hm3;have HMAY:=Za (fun(W:World) (v:Value) (hv:Rd W .i64 v ([1]++p.1))=>vY v ([1]++p.1) W hv (by have:=HM3.o;simp;omega));have HFB:=Za (show bA ([1]++p.1)=dM p.1 from rfl);rw[HFB.o]at HMAY;obtain⟨fb,hfb⟩:∃fb,fb=dM p.1:=⟨_,rfl⟩;rw[←hfb]at HMAY;have HFF:=Za hfb;clear hfb;have hB:∀o:Obj,(w3.alloc o).heap.size=w3.heap.size+1:=fun o=>World.size_alloc _ _;clear hB;cases fb with
      |true=>
       go_wp2_with(first
        |(at_builtin;refine CE rfl _ _ 30 rfl w3.heap.size 3 .i64 i0 8 Tryz.underlying30 hi hz0 hz1 hz2 _ [1] rfl HOW.o _ p.1 rfl (HRD.o.1.alloc _) HYL.o.1 HYL.o.2 (by simp) ?_;intro v7 w7 hown7 hg7 _;have HO7:=Za (Rd.of_own hown7);have HB7:=Za (((Zc _ _).alloc (Zb _) _).grown hg7 (by simp) (fun k hk=>(HOW.o.lt k hk).1));obtain⟨o7,c7,rfl⟩:=aJ hown7;clear hown7 hg7)
        |(go_at_call 90;refine(HMAY.o _ _ HO7.o).mono ?_;rintro e w8 ⟨rfl,hs8⟩;have HB8:=Za (HB7.o.trans (hs8.below _));clear hs8))
       have HBA:=Za (show BAt g w₀.heap.size first qs ls s (k+1) o3 m3 c3 w w8 from⟨(HS.o.1.trans HS3.o).trans (bZ.below HB8.o (Nat.le_of_lt HL3.o.1.lt)),vps3,qs3,p.1,ps1++p.2,by rw[decide_eq_false (by omega),Bool.and_false];exact HL3.o.1.next HB8.o,HL3.o.2.1.below HB8.o,HQL.o,HSTEP.o.1 p ((HRAW.o.2 p HRW.o.symm).2.2 HALL2.o HFF.o.symm),HFF.o.symm,HM3.o,HRD.o.below HB8.o,by rw[HMP.o,HS.o.2.2.2.1,List.append_assoc]⟩);clear x2 f2;go_wp2_with fail;go_roundw
       case rel=>exact .inl ⟨k+1,by omega,by go_num,Za ⟨_,_,_,rfl,HBA.o⟩⟩
       case measure=>simp[intOf];omega
      |false=>
       go_wp2_with(first
        |(at_builtin;refine CE rfl _ _ 30 rfl w3.heap.size 3 .i64 i0 8 Tryz.underlying30 hi hz0 hz1 hz2 _ [1] rfl HOW.o _ p.1 rfl (HRD.o.1.alloc _) HYL.o.1 HYL.o.2 (by simp) ?_;intro v7 w7 hown7 hg7 _;have HO7:=Za (Rd.of_own hown7);have HB7:=Za (((Zc _ _).alloc (Zb _) _).grown hg7 (by simp) (fun k hk=>(HOW.o.lt k hk).1));obtain⟨o7,c7,rfl⟩:=aJ hown7;clear hown7 hg7)
        |(go_at_call 90;refine(HMAY.o _ _ HO7.o).mono ?_;rintro e w8 ⟨rfl,hs8⟩;have HB8:=Za (HB7.o.trans (hs8.below _));have x3:w8.cell? ⟨g,2,none⟩=some (.int .i64 0):=(HL3.o.1.next HB8.o).cell 2 rfl;have f3:=(HL3.o.1.next HB8.o).free 2;clear hs8))
       have HNONE:=Za (HSTEP.o.2 ((HRAW.o.2 p HRW.o.symm).2.1 HALL2.o HFF.o.symm));have hb8:=HL3.o.1.next HB8.o;have HBB:=Za (show vQ g w₀.heap.size first qs ls s w (w8.setCell ⟨g,2,none⟩ (.int .i64 5))from⟨((HS.o.1.trans HS3.o).trans (bZ.below HB8.o (Nat.le_of_lt HL3.o.1.lt))).trans (bZ.set hb8 2 _),vps3,qs3,false,5,hb8.set 2 _,(HL3.o.2.1.below HB8.o).setR hb8 2 _ HN.o,HQL2.o,fun _=>rfl,by decide,HNONE.o⟩);clear x2 f2 hb8;go_wp2_with fail;go_roundw
       case rel=>exact .inr ⟨k+1,by omega,by go_num,Za ⟨_,_,_,rfl⟩,HBB⟩
       case measure=>simp[intOf];omega
    ·have hne:(bad3==0)=false:=by simpa using hb0
     have HNONE:=Za (show bT first s ls=none from HSTEP.o.2 (by
      cases hr9:raw with
      |none=>exact HRAW.o.1 (by rw[←HRW.o];exact hr9)
      |some p=>
       have h1:=HL3.o.2.2.2.2 p hr9;refine(HRAW.o.2 p (by rw[←HRW.o];exact hr9)).1 ?_;cases h2:p.2.all bA with
       |false=>rfl
       |true=>exact absurd (h1.1.2 h2) hb0))
     have HBB:=Za (show vQ g w₀.heap.size first qs ls s w w3 from⟨HS.o.1.trans HS3.o,vps3,qs3,false,bad3,HL3.o.1,HL3.o.2.1,HQL2.o,fun _=>rfl,hb0,HNONE.o⟩);clear f2;go_wp2_with fail;go_roundw
     case rel=>exact .inr ⟨k+1,by omega,by go_num,Za ⟨_,_,_,rfl⟩,HBB⟩
     case measure=>simp[intOf];omega
   ·obtain rfl:k=ls.length:=by omega
    go_wp2_with fail;go_ret;refine⟨HS.o.1,o1,m1,c1,vps1,qs1,_,0,rfl,HA.o.wk,HA.o.row,?_,fun h=>by rw[h];rfl,fun h=>?_,fun p hp=>?_⟩
    ·have:=HS.o.2.2.2.2;rwa [List.take_length]at this
    ·have:=HS.o.2.1;rw[List.take_length,h]at this;cases this
    ·have h1:=HS.o.2.1;rw[List.take_length,hp]at h1;cases h1;exact⟨rfl,HA.o.sh,HS.o.2.2.2.1⟩
  ·obtain⟨o1,m1,c1,rfl⟩:=HV.o;obtain⟨hst,vps1,qs1,first1,bad1,hbx,hrow,hq1,hff,hbad,hnone⟩:=HB.o;have HS:=Za (Zd hst (Zd hbx (Zd hrow (Zd hq1 (Zd hff (Zd hbad hnone))))));have x2:=hbx.q 2 rfl;have hne:(bad1==0)=false:=by simpa using hbad
   clear hst hbx hrow hq1 hff hbad hnone;by_cases hlt:k<ls.length
   ·go_wp2_with fail;go_ret;exact⟨HS.o.1,o1,m1,c1,vps1,qs1,first1,bad1,rfl,HS.o.2.1,HS.o.2.2.1,HS.o.2.2.2.1,HS.o.2.2.2.2.1,fun _=>HS.o.2.2.2.2.2.1,fun p hp=>(by rw[HS.o.2.2.2.2.2.2]at hp;cases hp)⟩
   ·obtain rfl:k=ls.length:=by omega
    go_wp2_with fail;go_ret;exact⟨HS.o.1,o1,m1,c1,vps1,qs1,first1,bad1,rfl,HS.o.2.1,HS.o.2.2.1,HS.o.2.2.2.1,HS.o.2.2.2.2.1,fun _=>HS.o.2.2.2.2.2.1,fun p hp=>(by rw[HS.o.2.2.2.2.2.2]at hp;cases hp)⟩
theorem KE:∀l,vE l:=aB.ind fun n body h=>SR n body (BZ body h)
theorem JB (ls:List aB):rH ls:=BZ ls fun l _=>KE l
end Go.Proofs.YtjhkdocidcfpdaaGreatDoor
