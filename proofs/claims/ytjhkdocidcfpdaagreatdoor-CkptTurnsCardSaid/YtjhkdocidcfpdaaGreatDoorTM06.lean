/-
  A part of the proof of a law (packed by program).
-/
import Derived.Test.YtjhkdocidcfpdaaGreatDoorTM04
import Derived.Test.YtjhkdocidcfpdaaGreatDoorTM05
set_option linter.unusedVariables false
set_option linter.unusedSimpArgs false
set_option maxRecDepth 100000
set_option maxHeartbeats 16000000
namespace Go.Proofs.YtjhkdocidcfpdaaGreatDoor
open Go.RowKit Go.Shelf Go
theorem rA (o:Option Addr) (n cap:Nat) (s:List Int) (w:World) (hr:Rd w .i64 (.slice o n cap) s) (hl:s.length≤100000):
  Calls Tryz.prog 181 #[.slice o n cap] w fun e w'=>e=.returned (.bool (dM s))∧Below w.heap.size w w':=by obtain⟨i0,hi,hz0,hz1,hz2⟩:=info_parts jJ;have HR:=Za hr;clear hr;go_enter Tryz.func181,Tryz.ntmps181;go_wp2_with(at_builtin;refine aD ?_);refine aC ?_;have HOW:=Za (show aH (w.alloc (.cells #[.int .i64 1] 3)) w.heap.size 3 .i64 (.slice (some ⟨w.heap.size,0,none⟩) 1 1) [1] from aH.lit w .i64 [1] _ (by unfold maxLen;simp));refine kI rfl _ _ 30 rfl w.heap.size 3 .i64 i0 8 Tryz.underlying30 hi hz0 hz1 hz2 _ [1] rfl HOW.o _ s rfl (HR.o.alloc _) (by unfold maxLen;simp;omega) (by simp;omega) (by simp) ?_;intro v' w2 hown hg _;have HO:=Za (Rd.of_own hown);have HB:=Za (((Zc _ _).alloc (Zb _) _).grown hg (by simp) (fun k hk=>(HOW.o.lt k hk).1));obtain⟨oq,kq,rfl⟩:=aJ hown;clear hown hg;go_wp2_with(go_at_call 159;refine(uI _ ([1]++s) _ HO.o (by simp;omega)).mono ?_;rintro e w3 ⟨rfl,hsm⟩;have HB3:=Za (HB.o.trans (hsm.below _)));go_ret;exact⟨aF rfl,HB3.o⟩
theorem aV.at {w:World} {n₀ B:Nat} {o:Option Addr} {n cap:Nat} {qs:List PD} (h:aV w n₀ B (.slice o n cap) qs) (k:Nat) (hk:k<qs.length):
  ∃b,o=some ⟨b,0,none⟩∧B≤b∧w.cell? ⟨b,k*4,none⟩=some (.string qs[k].nm)∧w.cell? ⟨b,k*4+1,none⟩=some qs[k].vs∧w.cell? ⟨b,k*4+2,none⟩=some (.int .i64 qs[k].fi)∧w.cell? ⟨b,k*4+3,none⟩=some (.int .i64 qs[k].fo)∧aM n₀ w qs[k].vs qs[k].sh:=by
 rcases h.row.2 with⟨h1,h2⟩|⟨b,cap',cur,h1,hb,hg,_,_,_,ht⟩
 ·omega
 ·simp at h1;obtain⟨rfl,rfl,rfl⟩:=h1;have key:∀(j:Nat) (u:Value),j<4→(qs[k].cells)[j]?=some u→w.cell? ⟨b,k*4+j,none⟩=some u:=fun j u hj hu=>by
   have h3:=RE qs k hk j hj;rw[hu]at h3;rw[cell_of_row w b _ cur _ (0,0) hg];rw[←ht,List.getElem?_take]at h3;split at h3
   ·simpa using h3
   ·cases h3
  exact⟨b,rfl,hb,key 0 _ (by omega) rfl,key 1 _ (by omega) rfl,key 2 _ (by omega) rfl,key 3 _ (by omega) rfl,h.sh _ (List.getElem_mem hk)⟩
theorem RG (nm:ByteArray) (o:Option Addr) (n cap:Nat) (fi fo:Int) (sh:List Int) (w:World) (hr:Rd w .i64 (.slice o n cap) sh) (hl:sh.length≤100000):
  Calls Tryz.prog 209 #[.agg #[.string nm,.slice o n cap,.int .i64 fi,.int .i64 fo]] w fun e w'=>e=.returned (.bool (!bA sh))∧Below w.heap.size w w':=by have HR:=Za hr;clear hr;go_enter Tryz.func209,Tryz.ntmps209;go_wp2_with(go_at_call 159;refine(uI _ sh _ (HR.o.alloc _) (by omega)).mono ?_;rintro e w3 ⟨rfl,hsm⟩;have HB:=Za (((Zc w.heap.size w).alloc (Zb _) (.cells #[.string nm,.slice o n cap,.int .i64 fi,.int .i64 fo] 161)).trans (hsm.below _)));go_ret;exact⟨rfl,HB.o⟩
theorem N0 (v:Value) (n₀ B:Nat) (qs:List PD) (w:World) (hr:aV w n₀ B v qs) (hl:qs.length≤100000) (hs:∀q∈qs,q.sh.length≤100000):
  Calls Tryz.prog 214 #[v,.func (.func 209) #[] #[]] w fun e w'=>(∃i:Int,e=.returned (.int .i64 i)∧decide (0≤i)=!(qs.map (·.sh)).all bA)∧Below w.heap.size w w':=by
 obtain⟨o,cap,rfl⟩:=aJ hr.row;have HR:=Za hr;have HL:=Za hs;have he:∀args w,(callFunc 209 args).run Tryz.prog w=.ok (.enter 209 args) w:=enters_of Tryz.func209 (by kernel_rfl) rfl;clear hr hs;go_enter Tryz.func214,Tryz.ntmps214;go_wp2;go_loopw[8] (fun i wr=>∃k:Nat,k≤qs.length∧i=.int .i64 k∧((qs.take k).map (·.sh)).all bA=true∧Below w.heap.size w wr) (fun i _=>qs.length-(intOf i).toNat)
 case atStart=>exact⟨0,Ze _,rfl,rfl,Zc _ _⟩
 case round=>
  obtain⟨k,hk,rfl,hp,hB⟩:=hrel;obtain⟨w3,rfl⟩:∃w3,w3=wr:=⟨_,rfl⟩;have HP:=Za hp;have HB:=Za hB;clear hp hB;by_cases hlt:k<qs.length
  ·obtain⟨b,rfl,_,c0,c1,c2,c3,hrd⟩:=(HR.o.below HB.o).at k hlt;obtain⟨q,hq⟩:∃q,q=qs[k]:=⟨_,rfl⟩;rw[←hq]at c0 c1 c2 c3 hrd;have HRD:=Za hrd.1;have HLk:=Za (HL.o q (by rw[hq];exact List.getElem_mem hlt));have HQ:=Za hq;obtain⟨o1,cap1,hv⟩:=hrd.slice;rw[hv]at c1 HRD;clear hrd hq hv;cases hb:bA q.sh
   all_goals
    have HT:=Za hb;clear hb;go_wp2_with fail;refine(RG _ _ _ _ _ _ q.sh _ HRD.o HLk.o).mono ?_;rintro e w' ⟨rfl,hbb⟩;rw[HT.o];have HB2:=Za (HB.o.trans (hbb.mono HB.o.size));clear hbb c0 c1 c2 c3;go_wp2
   ·go_ret;refine⟨⟨_,rfl,?_⟩,HB2.o⟩;have:(qs.map (·.sh)).all bA=false:=by rw[List.all_eq_false];exact⟨q.sh,by rw[HQ.o];exact List.mem_map_of_mem (List.getElem_mem hlt),by rw[HT.o];simp⟩
    rw[this];simp
   ·go_roundw
    case rel=>exact⟨k+1,by omega,by go_num,by rw[List.take_succ_eq_append_getElem hlt,List.map_append,List.all_append,HP.o,←HQ.o];simp[HT.o],HB2.o⟩
    case measure=>simp[intOf];omega
  ·obtain rfl:k=qs.length:=by omega
   have HA:Hid ((qs.map (·.sh)).all bA=true):=Za (by have:=HP.o;rwa [List.take_length]at this);go_wp2;go_ret;exact⟨⟨_,rfl,by rw[HA.o];simp⟩,HB.o⟩
theorem CL (v:Value) (n₀ B:Nat) (qs:List PD) (w:World) (hr:aV w n₀ B v qs) (hl:qs.length≤100000) (hs:∀q∈qs,q.sh.length≤100000):
  Calls Tryz.prog 208 #[v,.func (.func 209) #[] #[]] w fun e w'=>e=.returned (.bool (!(qs.map (·.sh)).all bA))∧Below w.heap.size w w':=by obtain⟨o,cap,rfl⟩:=aJ hr.row;have HI:=Za (N0 _ n₀ B qs w hr hl hs);clear hr hs;go_enter Tryz.func208,Tryz.ntmps208;go_wp2_with fail;refine HI.o.mono ?_;rintro e w' ⟨⟨i,rfl,hi⟩,hb⟩;have HX:=Za hi;have HB:=Za hb;clear hi hb;go_wp2;go_ret;exact⟨aF HX.o,HB.o⟩
def cH (t:aO):Bool:=bA t.sh&&(decide ((t.da.length:Int)=bD t.sh)&&iG t.da)
def aO.Lim (t:aO):Prop:=t.sh.length≤140737488351232∧t.da.length≤140737488351232
theorem S0 (v:Int) (w:World):
  Calls Tryz.prog 160 #[.int .i64 v] w fun e w'=>e=.returned (.bool (!bS v))∧aN w w':=by go_enter Tryz.func160,Tryz.ntmps160;go_wp2_with fail;refine(pE v _).mono ?_;rintro e w' ⟨rfl,nq,rfl⟩;go_wp2;go_ret;exact⟨rfl,_,rfl⟩
theorem O7 (vs vd:Value) (t:aO) (w:World) (hs:Rd w .i64 vs t.sh) (hd:Rd w .i64 vd t.da) (hl:t.Lim):
  Calls Tryz.prog 127 #[.agg #[vs,vd]] w fun e w'=>e=.returned (.bool (cH t))∧Below w.heap.size w w':=by
 obtain⟨o1,cap1,he1⟩:=aU hs;obtain⟨o2,cap2,he2⟩:=aU hd;subst he1 he2;obtain⟨hl1,hl2⟩:=hl;obtain⟨W,hW⟩:∃W,W=w.alloc (.cells #[.slice o1 t.sh.length cap1,.slice o2 t.da.length cap2] 100):=⟨_,rfl⟩;have hbx:aA W w.heap.size 100 #[.slice o1 t.sh.length cap1,.slice o2 t.da.length cap2]:=by rw[hW];exact aA.new _ _ _
 have HB:=Za (show Below w.heap.size w W by rw[hW];exact(Zc _ _).alloc (Zb _) _);have hS:Rd W .i64 (.slice o1 t.sh.length cap1) t.sh:=hs.below HB.o (Zb _);have hD:Rd W .i64 (.slice o2 t.da.length cap2) t.da:=hd.below HB.o (Zb _);have c0:=hbx.cell 0 rfl;have c1:=hbx.cell 1 rfl;have HG:=Za fun(r:Bool) (h:bA t.sh=r) (m:Nat)=>(show Calls Tryz.prog 159 #[.slice o1 t.sh.length cap1] (W.drewN m) fun e w'=>e=.returned (.bool r)∧∃k,w'=(W.drewN m).drewN k by
  rw[←h];exact uI _ t.sh _ (hS.same ⟨_,rfl⟩) hl1)
 have HWd:=Za fun(r:Bool) (h:iG t.da=r) (m:Nat)=>(show Calls Tryz.prog 130 #[.slice o2 t.da.length cap2,.func (.func 160) #[] #[]] (W.drewN m) fun e w'=>e=.returned (.bool (!r))∧∃k,w'=(W.drewN m).drewN k by
  have:=A8 (.slice o2 t.da.length cap2) t.da 160 #[] (fun x=>!bS x) (W.drewN m) (hD.same ⟨_,rfl⟩) hl2 (enters_of Tryz.func160 (by kernel_rfl) rfl) (fun k hk n=>S0 _ _);rw[show(t.da.any fun x=>!bS x)=!r by rw[←h,iG,List.not_all_eq_any_not]]at this;exact this)
 have HSz:=Za fun(h:bA t.sh=true) (m:Nat)=>(show Calls Tryz.prog 124 #[.slice o1 t.sh.length cap1] (W.drewN m) fun e w'=>e=.returned (.int .i64 (bD t.sh))∧∃k,w'=(W.drewN m).drewN k by
  have hp:t.sh.length≤4∧t.sh.all bW=true:=by simp only[bA,Bool.and_eq_true,decide_eq_true_eq]at h;exact h.1
  exact pU _ t.sh _ (hS.same ⟨_,rfl⟩) hp.2 hp.1)
 clear hs hd hS hD hbx;cases hb:bA t.sh with
 |false=>
  have HX:=Za hb;clear hb;go_enter Tryz.func127,Tryz.ntmps127;go_wp2_with fail;rw[←hW];clear hW;go_quiet(first|(go_at_call 159;exact Calls.quiet_of (HG.o _ HX.o _)));go_wp2;go_ret;exact⟨aF (by rw[cH,HX.o];rfl),below_drewN HB.o _⟩
 |true=>
  have HX:=Za hb;clear hb;obtain⟨p,hp⟩:∃p,p=bD t.sh:=⟨_,rfl⟩;have HP:=Za hp;rw[←hp]at HSz;clear hp;by_cases he:(t.da.length:Int)=p
  ·have hb1:((t.da.length:Int)==p)=true:=by simp[he]
   have HE:=Za he;clear he;cases hw:iG t.da with
   |false=>
    have HY:=Za hw;clear hw;go_enter Tryz.func127,Tryz.ntmps127;go_wp2_with fail;rw[←hW];clear hW;go_quiet(first|(go_at_call 159;exact Calls.quiet_of (HG.o _ HX.o _))|(go_at_call 124;exact Calls.quiet_of (HSz.o HX.o _))|(go_at_call 130;exact Calls.quiet_of (HWd.o _ HY.o _)));go_wp2;go_ret;exact⟨aF (by rw[cH,HX.o,HY.o,Bool.and_false];rfl),below_drewN HB.o _⟩
   |true=>
    have HY:=Za hw;clear hw;go_enter Tryz.func127,Tryz.ntmps127;go_wp2_with fail;rw[←hW];clear hW;go_quiet(first|(go_at_call 159;exact Calls.quiet_of (HG.o _ HX.o _))|(go_at_call 124;exact Calls.quiet_of (HSz.o HX.o _))|(go_at_call 130;exact Calls.quiet_of (HWd.o _ HY.o _)));go_wp2;go_ret;exact⟨aF (by rw[cH,HX.o,HY.o,decide_eq_true (HE.o.trans HP.o)];rfl),below_drewN HB.o _⟩
  ·have hb1:((t.da.length:Int)==p)=false:=by simp[he]
   have HE:=Za he;clear he;go_enter Tryz.func127,Tryz.ntmps127;go_wp2_with fail;rw[←hW];clear hW;go_quiet(first|(go_at_call 159;exact Calls.quiet_of (HG.o _ HX.o _))|(go_at_call 124;exact Calls.quiet_of (HSz.o HX.o _)));go_wp2;go_ret;exact⟨aF (by rw[cH,HX.o,decide_eq_false (fun h=>HE.o (h.trans HP.o.symm))];rfl),below_drewN HB.o _⟩
theorem yZ (vs vd:Value) (t:aO) (w:World) (hs:Rd w .i64 vs t.sh) (hd:Rd w .i64 vd t.da) (hl:t.Lim):
  Calls Tryz.prog 112 #[.agg #[vs,vd]] w fun e w'=>e=.returned (.bool (cH t))∧Below w.heap.size w w':=by
 obtain⟨o1,cap1,he1⟩:=aU hs;obtain⟨o2,cap2,he2⟩:=aU hd;subst he1 he2;obtain⟨hl1,hl2⟩:=hl;obtain⟨W,hW⟩:∃W,W=w.alloc (.cells #[.slice o1 t.sh.length cap1,.slice o2 t.da.length cap2] 100):=⟨_,rfl⟩;have hbx:aA W w.heap.size 100 #[.slice o1 t.sh.length cap1,.slice o2 t.da.length cap2]:=by rw[hW];exact aA.new _ _ _
 have HB:=Za (show Below w.heap.size w W by rw[hW];exact(Zc _ _).alloc (Zb _) _);have hS:Rd W .i64 (.slice o1 t.sh.length cap1) t.sh:=hs.below HB.o (Zb _);have hD:Rd W .i64 (.slice o2 t.da.length cap2) t.da:=hd.below HB.o (Zb _);have c0:=hbx.cell 0 rfl;have c1:=hbx.cell 1 rfl;have HG:=Za fun(r:Bool) (h:bA t.sh=r) (m:Nat)=>(show Calls Tryz.prog 90 #[.slice o1 t.sh.length cap1] (W.drewN m) fun e w'=>e=.returned (.bool r)∧∃k,w'=(W.drewN m).drewN k by
  rw[←h];exact CW _ t.sh _ (hS.same ⟨_,rfl⟩) hl1)
 have HWd:=Za fun(r:Bool) (h:iG t.da=r) (m:Nat)=>(show Calls Tryz.prog 148 #[.slice o2 t.da.length cap2] (W.drewN m) fun e w'=>e=.returned (.bool r)∧∃k,w'=(W.drewN m).drewN k by
  rw[←h];exact M9 _ t.da _ (hD.same ⟨_,rfl⟩) hl2)
 have HSz:=Za fun(h:bA t.sh=true) (m:Nat)=>(show Calls Tryz.prog 93 #[.slice o1 t.sh.length cap1] (W.drewN m) fun e w'=>e=.returned (.int .i64 (bD t.sh))∧∃k,w'=(W.drewN m).drewN k by
  have hp:(t.sh.length≤4∧t.sh.all bW=true)∧bD t.sh≤65536:=by simp only[bA,Bool.and_eq_true,decide_eq_true_eq]at h;exact h
  have:=qV _ t.sh _ (hS.same ⟨m,rfl⟩) hp.1.2 hp.1.1;rw[lD,if_pos hp.2]at this;exact this)
 clear hs hd hS hD hbx;cases hb:bA t.sh with
 |false=>
  have HX:=Za hb;clear hb;go_enter Tryz.func112,Tryz.ntmps112;go_wp2_with fail;rw[←hW];clear hW;go_quiet(first|(go_at_call 90;exact Calls.quiet_of (HG.o _ HX.o _)));go_wp2;go_ret;exact⟨aF (by rw[cH,HX.o];rfl),below_drewN HB.o _⟩
 |true=>
  have HX:=Za hb;clear hb;obtain⟨p,hp⟩:∃p,p=bD t.sh:=⟨_,rfl⟩;have HP:=Za hp;rw[←hp]at HSz;clear hp;by_cases he:(t.da.length:Int)=p
  ·have hb1:((t.da.length:Int)==p)=true:=by simp[he]
   have HE:=Za he;clear he;cases hw:iG t.da
   all_goals
    have HY:=Za hw;clear hw;go_enter Tryz.func112,Tryz.ntmps112;go_wp2_with fail;rw[←hW];clear hW;go_quiet(first|(go_at_call 90;exact Calls.quiet_of (HG.o _ HX.o _))|(go_at_call 93;exact Calls.quiet_of (HSz.o HX.o _))|(go_at_call 148;exact Calls.quiet_of (HWd.o _ HY.o _)));go_wp2;go_ret;exact⟨aF (by rw[cH,HX.o,HY.o,decide_eq_true (HE.o.trans HP.o)];rfl),below_drewN HB.o _⟩
  ·have hb1:((t.da.length:Int)==p)=false:=by simp[he]
   have HE:=Za he;clear he;go_enter Tryz.func112,Tryz.ntmps112;go_wp2_with fail;rw[←hW];clear hW;go_quiet(first|(go_at_call 90;exact Calls.quiet_of (HG.o _ HX.o _))|(go_at_call 93;exact Calls.quiet_of (HSz.o HX.o _)));go_wp2;go_ret;exact⟨aF (by rw[cH,HX.o,decide_eq_false (fun h=>HE.o (h.trans HP.o.symm))];rfl),below_drewN HB.o _⟩
theorem jF (l:List aO) (k:Nat) (h:k<l.length):aQ l k∈l:=by rw[fE l k h];exact List.getElem_mem h
theorem rM (l:List aO) (k:Nat) (h:k<l.length):l.take (k+1)=l.take k++[aQ l k]:=by rw[List.take_succ_eq_append_getElem h,fE l k h]
theorem pO (p:aO→Bool) (l:List aO) (k:Nat) (h:k<l.length):(l.take (k+1)).all p=((l.take k).all p&&p (aQ l k)):=by rw[rM l k h,List.all_append];simp
theorem pF (p:aO→Bool) (l:List aO) (k:Nat) (h:k<l.length) (hp:p (aQ l k)=false):l.all p=false:=by rw[List.all_eq_false];exact⟨_,jF l k h,by simp[hp]⟩
theorem S9 (vs vd:Value) (t:aO) (w:World) (hs:Rd w .i64 vs t.sh) (hd:Rd w .i64 vd t.da) (hl:t.Lim):
  Calls Tryz.prog 126 #[.agg #[vs,vd]] w fun e w'=>e=.returned (.bool (!cH t))∧Below w.heap.size w w':=by have HL:=Za hl;have HS:=Za hs;have HD:=Za hd;obtain⟨o1,cap1,he1⟩:=aU hs;obtain⟨o2,cap2,he2⟩:=aU hd;subst he1 he2;clear hs hd hl;go_enter Tryz.func126,Tryz.ntmps126;go_wp2_with fail;refine(O7 _ _ t _ (HS.o.alloc _) (HD.o.alloc _) HL.o).mono ?_;rintro e w' ⟨rfl,hb⟩;go_wp2;go_ret;exact⟨rfl,((Zc w.heap.size w).alloc (Zb _) _).trans (hb.mono (by simp))⟩
def eO (ts:List aO):Prop:=ts.length≤140737488351232∧∀t∈ts,t.Lim
theorem EY (v:Value) (ts:List aO) (w:World) (hr:aY w v ts) (hl:eO ts):
  Calls Tryz.prog 158 #[v,.func (.func 126) #[] #[]] w fun e w'=>(∃i:Int,e=.returned (.int .i64 i)∧decide (0≤i)=!ts.all cH)∧Below w.heap.size w w':=by
 obtain⟨o,cap,rfl⟩:=hr.slice;have HR:=Za hr;obtain⟨hl1,hl2⟩:=hl;have HL:=Za hl2;have he:∀args w,(callFunc 126 args).run Tryz.prog w=.ok (.enter 126 args) w:=enters_of Tryz.func126 (by kernel_rfl) rfl;clear hr hl2;go_enter Tryz.func158,Tryz.ntmps158;go_wp2;go_loopw[8] (fun i wr=>∃k:Nat,k≤ts.length∧i=.int .i64 k∧(ts.take k).all cH=true∧Below w.heap.size w wr) (fun i _=>ts.length-(intOf i).toNat)
 case atStart=>exact⟨0,Ze _,rfl,rfl,Zc _ _⟩
 case round=>
  obtain⟨k,hk,rfl,hp,hB⟩:=hrel;obtain⟨w3,rfl⟩:∃w3,w3=wr:=⟨_,rfl⟩;have HP:=Za hp;have HB:=Za hB;clear hp hB;by_cases hlt:k<ts.length
  ·obtain⟨b,off,vs,vd,rfl,c0,c1,hs,hd⟩:=(HR.o.below HB.o (Zb _)).tens k hlt;have HS:=Za hs;have HD:=Za hd;have HLk:=Za (HL.o _ (jF ts k hlt));obtain⟨o1,cap1,rfl⟩:=aU hs;obtain⟨o2,cap2,rfl⟩:=aU hd;clear hs hd;cases hb:cH (aQ ts k)
   all_goals
    have HT:=Za hb;clear hb;go_wp2_with fail;refine(S9 _ _ (aQ ts k) _ HS.o HD.o HLk.o).mono ?_;rintro e w' ⟨rfl,hbb⟩;rw[HT.o];have HB4:=Za (HB.o.trans (hbb.mono HB.o.size));clear hbb;go_wp2
   ·go_ret;exact⟨⟨_,rfl,by rw[pF _ _ k hlt HT.o];simp⟩,HB4.o⟩
   ·go_roundw
    case rel=>exact⟨k+1,by omega,by go_num,by rw[pO _ _ _ hlt,HP.o,HT.o];rfl,HB4.o⟩
    case measure=>simp[intOf];omega
  ·obtain rfl:k=ts.length:=by omega
   have HA:Hid (ts.all cH=true):=Za (by have:=HP.o;rwa [List.take_length]at this);go_wp2;go_ret;exact⟨⟨_,rfl,by rw[HA.o];simp⟩,HB.o⟩
theorem tU (v:Value) (ts:List aO) (w:World) (hr:aY w v ts) (hl:eO ts):
  Calls Tryz.prog 81 #[v] w fun e w'=>e=.returned (.bool (ts.all cH))∧Below w.heap.size w w':=by
 have HI:=Za (show Calls Tryz.prog 125 #[v,.func (.func 126) #[] #[]] w fun e w'=>e=.returned (.bool (!ts.all cH))∧Below w.heap.size w w' by
  have HJ:=Za (EY v ts w hr hl);clear hr hl;go_enter Tryz.func125,Tryz.ntmps125;go_wp2_with fail;refine HJ.o.mono ?_;rintro e w' ⟨⟨i,rfl,hi⟩,hs⟩;have HX:=Za hi;have HS:=Za hs;clear hi hs;go_wp2;go_ret;exact⟨aF HX.o,HS.o⟩)
 clear hr hl;go_enter Tryz.func81,Tryz.ntmps81;go_wp2_with fail;refine HI.o.mono ?_;rintro e w' ⟨rfl,hb⟩;have HB:=Za hb;clear hb;go_wp2;go_ret;exact⟨aF (by simp),HB.o⟩
theorem wU (v u:Value) (xs ys:List Int) (w:World) (hr:Rd w .i64 v xs) (hs:Rd w .i64 u ys) (hl:xs.length≤140737488351232):
  Calls Tryz.prog 82 #[v,u] w fun e w'=>e=.returned (.bool (decide (xs=ys)))∧aN w w':=by
 obtain⟨o,cap,rfl,hc⟩:=hr;obtain⟨o2,cap2,rfl,hc2⟩:=hs;have HC:=Za hc;have HC2:=Za hc2;clear hc hc2;by_cases hlen:xs.length=ys.length
 ·have HL:=Za hlen;clear hlen;rw[←HL.o];go_enter Tryz.func82,Tryz.ntmps82;go_wp2;go_loopw[13] (fun i wr=>∃k:Nat,k≤xs.length∧i=.int .i64 k∧(∀j,j<k→aE xs j=aE ys j)∧aN w wr) (fun i _=>xs.length-(intOf i).toNat)
  case atStart=>exact⟨0,Ze _,rfl,fun _ h=>absurd h (Nat.not_lt_zero _),aN.refl _⟩
  case round=>
   obtain⟨k,hk,rfl,hpre,nq,rfl⟩:=hrel;have HP:=Za hpre;clear hpre;by_cases hlt:k<xs.length
   ·obtain⟨b,off,rfl,h1⟩:=HC.o k hlt;obtain⟨b2,off2,rfl,h2⟩:=HC2.o k (by rw[←HL.o];exact hlt);go_wp2;go_quiet(fail);go_wp2
    ·go_ret;rename_i hne;exact⟨by rw[decide_eq_false];rfl;intro e;rw[e]at hne;simp at hne,by first|exact⟨_,rfl⟩|exact⟨_,World.drewN_drewN _ _ _⟩⟩
    ·rename_i he;have HE:=Za he;clear he;go_roundw
     case rel=>exact⟨k+1,by omega,by go_num,fun j hj=>by rcases Nat.lt_succ_iff_lt_or_eq.1 hj with h|h;exact HP.o j h;rw[h];simpa using HE.o,by first|exact⟨_,rfl⟩|exact⟨_,World.drewN_drewN _ _ _⟩⟩
     case measure=>simp[intOf];omega
   ·obtain rfl:k=xs.length:=by omega
    have HE:Hid (xs=ys):=Za (pH HL.o HP.o);go_wp2;go_ret;exact⟨by rw[decide_eq_true HE.o];rfl,_,rfl⟩
 ·go_enter Tryz.func82,Tryz.ntmps82;have hb:(((xs.length:Nat):Int) != ((ys.length:Nat):Int))=true:=by simp[bne_iff_ne];omega
  have hne:xs≠ys:=fun e=>hlen (congrArg List.length e);have HE:=Za (decide_eq_false hne);clear hlen hne;go_wp2;go_ret;exact⟨by rw[HE.o];rfl,aN.refl _⟩
def bI (l:List aO):List (List Int):=l.map aO.sh
theorem GA {a b:List aO} (hl:a.length=b.length) (h:∀k,k<a.length→(aQ a k).sh=(aQ b k).sh):bI a=bI b:=by
 apply List.ext_getElem
 ·simp[bI,hl]
 ·intro k h1 h2;have hk:k<a.length:=by simpa [bI]using h1
  have:=h k hk;rw[fE a k hk,fE b k (by omega)]at this
  simpa [bI]using this
theorem TK {a b:List aO} (h:bI a=bI b) (k:Nat) (hk:k<a.length):(aQ a k).sh=(aQ b k).sh:=by
 have hl:a.length=b.length:=by have:=congrArg List.length h;simpa [bI]using this
 have h1:(bI a)[k]?=(bI b)[k]?:=by rw[h]
 rw[fE a k hk,fE b k (by omega)]
 simpa [bI,hk,show k<b.length by omega]using h1
theorem H7 (vs vd us ud:Value) (xs ys:List Int) (w:World) (hs:Rd w .i64 vs xs) (hd:Rd w .i64 us ys) (hl:xs.length≤140737488351232):
  Calls Tryz.prog 162 #[.agg #[vs,vd],.agg #[us,ud]] w fun e w'=>e=.returned (.bool (decide (xs=ys)))∧Below w.heap.size w w':=by have HS:=Za hs;have HD:=Za hd;obtain⟨o1,cap1,rfl⟩:=aU hs;obtain⟨o2,cap2,rfl⟩:=aU hd;clear hs hd;go_enter Tryz.func162,Tryz.ntmps162;go_wp2_with fail;refine(wU _ _ xs ys _ ((HS.o.alloc _).alloc _) ((HD.o.alloc _).alloc _) hl).mono ?_;rintro e w' ⟨rfl,nq,rfl⟩;go_wp2;go_ret;exact⟨rfl,below_drewN (((Zc w.heap.size w).alloc (Zb _) _).alloc (by simp) _) _⟩
theorem LV (v u:Value) (a b:List aO) (w:World) (hr:aY w v a) (hs:aY w u b) (hl:eO a):
  Calls Tryz.prog 161 #[v,u,.func (.func 162) #[] #[]] w fun e w'=>e=.returned (.bool (decide (bI a=bI b)))∧Below w.heap.size w w':=by
 obtain⟨o,cap,rfl⟩:=hr.slice;obtain⟨o2,cap2,rfl⟩:=hs.slice;have HR:=Za hr;have HS:=Za hs;obtain⟨hl1,hl2⟩:=hl;have HL:=Za hl2;have he:∀args w,(callFunc 162 args).run Tryz.prog w=.ok (.enter 162 args) w:=enters_of Tryz.func162 (by kernel_rfl) rfl;clear hr hs hl2;by_cases hlen:a.length=b.length
 ·have hb:((a.length:Int) != b.length)=false:=by simp[hlen]
  have HE:=Za hlen;clear hlen;go_enter Tryz.func161,Tryz.ntmps161;go_wp2;go_loopw[17] (fun i wr=>∃k:Nat,k≤a.length∧i=.int .i64 k∧(∀j,j<k→(aQ a j).sh=(aQ b j).sh)∧Below w.heap.size w wr) (fun i _=>a.length-(intOf i).toNat)
  case atStart=>exact⟨0,Ze _,rfl,fun _ h=>absurd h (Nat.not_lt_zero _),Zc _ _⟩
  case round=>
   obtain⟨k,hk,rfl,hp,hB⟩:=hrel;obtain⟨w3,rfl⟩:∃w3,w3=wr:=⟨_,rfl⟩;have HP:=Za hp;have HB:=Za hB;clear hp hB;by_cases hlt:k<a.length
   ·obtain⟨ba,offa,vs,vd,rfl,c0,c1,hs,hd⟩:=(HR.o.below HB.o (Zb _)).tens k hlt;have hltb:k<b.length:=by rw[←HE.o];exact hlt
    obtain⟨bb,offb,us,ud,rfl,d0,d1,gs,gd⟩:=(HS.o.below HB.o (Zb _)).tens k hltb;have HS1:=Za hs;have HS2:=Za gs;have d0a:=fun o:Obj=>(((Zc w3.heap.size w3).alloc (Zb _) o).cell (p:=⟨bb,offb+k*2,none⟩) (aP d0)).trans d0;have d1a:=fun o:Obj=>(((Zc w3.heap.size w3).alloc (Zb _) o).cell (p:=⟨bb,offb+k*2+1,none⟩) (aP d1)).trans d1;have HLk:=Za (HL.o _ (jF a k hlt));obtain⟨o1,cap1,rfl⟩:=aU hs;obtain⟨o3,cap3,rfl⟩:=aU gs;obtain⟨o4,cap4,rfl⟩:=aU hd;obtain⟨o5,cap5,rfl⟩:=aU gd;clear hs hd gs gd;cases hq:decide ((aQ a k).sh=(aQ b k).sh)
    all_goals
     have HQ:=Za hq;clear hq;go_wp2_with fail;refine(H7 _ _ _ _ (aQ a k).sh (aQ b k).sh _ ((HS1.o.alloc _).alloc _) ((HS2.o.alloc _).alloc _) HLk.o.1).mono ?_;rintro e w' ⟨rfl,hbb⟩;rw[HQ.o];have HB4:=Za (((HB.o.alloc HB.o.size _).alloc (by have:=HB.o.size;simp;omega) _).trans (hbb.mono (by have:=HB.o.size;simp;omega)));clear hbb d0a d1a;go_wp2
    ·go_ret;exact⟨aF (decide_eq_false (fun h=>(of_decide_eq_false HQ.o) (TK h k hlt))).symm,HB4.o⟩
    ·go_roundw
     case rel=>exact⟨k+1,by omega,by go_num,fun j hj=>by rcases Nat.lt_succ_iff_lt_or_eq.1 hj with h|h;exact HP.o j h;rw[h];exact of_decide_eq_true HQ.o,HB4.o⟩
     case measure=>simp[intOf];omega
   ·obtain rfl:k=a.length:=by omega
    have HA:Hid (bI a=bI b):=Za (GA HE.o HP.o);go_wp2;go_ret;exact⟨aF (decide_eq_true HA.o).symm,HB.o⟩
 ·have hb:((a.length:Int) != b.length)=true:=by simp;omega
  have HE:=Za hlen;clear hlen;go_enter Tryz.func161,Tryz.ntmps161;go_wp2;go_ret;exact⟨aF (decide_eq_false (fun h=>HE.o (by have:=congrArg List.length h;simpa [bI]using this))).symm,Zc _ _⟩
theorem OO (v u:Value) (a b:List aO) (w:World) (hr:aY w v a) (hs:aY w u b) (hl:eO a):
  Calls Tryz.prog 129 #[v,u] w fun e w'=>e=.returned (.bool (decide (bI a=bI b)))∧Below w.heap.size w w':=by have HJ:=Za (LV v u a b w hr hs hl);clear hr hs hl;go_enter Tryz.func129,Tryz.ntmps129;go_wp2_with fail;refine HJ.o.mono ?_;rintro e w' ⟨rfl,hs⟩;have HS:=Za hs;clear hs;go_wp2;go_ret;exact⟨rfl,HS.o⟩
theorem zF (w:World):
  Calls Tryz.prog 142 #[] w fun e w'=>(∃b,e=.returned (.slice (some ⟨b,0,none⟩) 12 12)∧j8 w' b)∧Below w.heap.size w w':=by
 go_enter Tryz.func142,Tryz.ntmps142;go_wp2;go_ret;refine⟨⟨w.heap.size+21,?_,?_⟩,?_⟩
 ·rfl
 ·exact EE w
 ·exact yU (iC w.heap.size) w (Zc _ _) (Zb _)
end Go.Proofs.YtjhkdocidcfpdaaGreatDoor
