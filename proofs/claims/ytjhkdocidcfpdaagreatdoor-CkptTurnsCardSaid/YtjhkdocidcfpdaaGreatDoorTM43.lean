/-
  A part of the proof of a law (packed by program).
-/
import Derived.Test.YtjhkdocidcfpdaaGreatDoorTM34
set_option linter.unusedVariables false
set_option linter.unusedSimpArgs false
set_option maxRecDepth 100000
set_option maxHeartbeats 16000000
namespace Go.Proofs.YtjhkdocidcfpdaaGreatDoor
open Go.RowKit Go.Shelf Go
structure IAt (w:World) (d:bE) (vi vl:Value) (W:World):Prop where
 df:aA W w.heap.size 33 #[vi,vl,.int .i64 d.loss]
 wk:aA W (w.heap.size+1) 156 (gV (.slice none 0 0) true 0)
 low:Below w.heap.size w W
theorem IAt.start {w W:World} {d:bE} {vi vl:Value} (h:W=(w.alloc (.cells #[vi,vl,.int .i64 d.loss] 33)).alloc (.cells #[.slice none 0 0,.bool true,.int .i64 0] 156)):IAt w d vi vl W:=by
 rw[h];refine⟨(aA.new _ _ _).next ((Zc _ _).alloc (Zb _) _),?_,((Zc _ _).alloc (Zb _) _).alloc (by simp) _⟩;have:=aA.new (w.alloc (.cells #[vi,vl,.int .i64 d.loss] 33)) 156 #[.slice none 0 0,.bool true,.int .i64 0]
 rwa [World.size_alloc]at this
theorem IAt.next {w W W':World} {d:bE} {vi vl:Value} (h:IAt w d vi vl W) (hb:Below W.heap.size W W'):IAt w d vi vl W':=⟨h.df.next hb,h.wk.next hb,h.low.trans (hb.mono h.low.size)⟩
theorem aV.base {w:World} {n₀ B C:Nat} {v:Value} {qs:List PD} (h:aV w n₀ B v qs) (hC:C≤B):aV w n₀ C v qs:=⟨cD h.row hC,h.sh,h.one⟩
theorem GC {d:bE} (h:dL d=true):aR d.lays≤64:=by rw[←BR,jO,Bool.and_eq_true,Bool.and_eq_true,decide_eq_true_eq]at h;exact h.1.2
theorem OU (oi:Option Addr) (ci:Nat) (ol:Option Addr) (cl:Nat) (d:bE) (w:World) (h:eJ w (.slice oi d.input.length ci) (.slice ol d.lays.length cl) d) (hci:d.input.length≤ci) (hg:dL d=true):
  Calls Tryz.prog 32 #[.agg #[.slice oi d.input.length ci,.slice ol d.lays.length cl,.int .i64 d.loss]] w (AR w d):=by
 obtain⟨i0,hi,hz0,hz1,hz2⟩:=info_parts nC;obtain⟨W1,hW1⟩:∃W1,W1=(w.alloc (.cells #[.slice oi d.input.length ci,.slice ol d.lays.length cl,.int .i64 d.loss] 33)).alloc (.cells #[.slice none 0 0,.bool true,.int .i64 0] 156):=⟨_,rfl⟩;have HI:=Za (IAt.start hW1);have HW:=Za hW1;have HD:=Za h;have HG:=Za hg;have hin:d.input.length≤3:=(mQ hg).2.1;have HOKD:=Za (yE hg);have HCNT:=Za (GC hg);have HRD1:=Za (show aM w.heap.size W1 (.slice oi d.input.length ci) d.input from(aM.of_rd h.input (Zb _) (fun o n c e=>by cases e;exact hci)).below HI.o.low);have HOW:=Za (fO W1 1);have HMAY:=Za (fun(W:World) (v:Value) (hv:Rd W .i64 v ([1]++d.input))=>vY v ([1]++d.input) W hv (by simp;omega));have HFB:=Za (show bA ([1]++d.input)=dM d.input from rfl);rw[HFB.o]at HMAY;have HYL:=Za (show [(1:Int)].length+d.input.length≤maxLen∧([(1:Int)].length+d.input.length)*8≤140737488355328 by unfold maxLen;simp;omega);obtain⟨fb,hfb⟩:∃fb,fb=dM d.input:=⟨_,rfl⟩;rw[←hfb]at HMAY;have HFF:=Za hfb;have a0:=HI.o.df.q 0 rfl;have A0:∀o,(W1.alloc o).cell? ⟨w.heap.size,0,none⟩=some (.slice oi d.input.length ci):=HI.o.df.cellA 0 rfl;clear h hW1 hg hfb;go_enter Tryz.func32,Tryz.ntmps32;go_upto_region 2 with(fail);rw[←HW.o];cases fb with
 |false=>
  go_wp2_with(first
   |(at_builtin;refine kI rfl _ _ 30 rfl W1.heap.size 3 .i64 i0 8 Tryz.underlying30 hi hz0 hz1 hz2 _ [1] rfl HOW.o _ d.input rfl (HRD1.o.1.alloc _) HYL.o.1 HYL.o.2 (by simp) ?_;intro v7 w7 hown7 hg7 _;have HO7:=Za (Rd.of_own hown7);have HB7:=Za (((Zc _ _).alloc (Zb _) _).grown hg7 (by simp) (fun k hk=>(HOW.o.lt k hk).1));obtain⟨o7,c7,rfl⟩:=aJ hown7;clear hown7 hg7)
   |(go_at_call 90;refine(HMAY.o _ _ HO7.o).mono ?_;rintro e w8 ⟨rfl,hs8⟩;have HB8:=Za (HB7.o.trans (hs8.below _));clear hs8))
  have HN:=Za (show eK d=none by rw[eK,←HFF.o,Bool.and_false];rfl);exact bodyPost_ret (v:=.tuple #[.slice none 0 0,.slice none 0 0,.int .i64 5]) (by simp[results,Tryz.results32,go_sem]) rfl ⟨(HI.o.next HB8.o).low,.inl ⟨HN.o,5,by decide,rfl⟩⟩
 |true=>
  go_wp2_with(first
   |(at_builtin;refine kI rfl _ _ 30 rfl W1.heap.size 3 .i64 i0 8 Tryz.underlying30 hi hz0 hz1 hz2 _ [1] rfl HOW.o _ d.input rfl (HRD1.o.1.alloc _) HYL.o.1 HYL.o.2 (by simp) ?_;intro v7 w7 hown7 hg7 _;have HO7:=Za (Rd.of_own hown7);have HB7:=Za (((Zc _ _).alloc (Zb _) _).grown hg7 (by simp) (fun k hk=>(HOW.o.lt k hk).1));obtain⟨o7,c7,rfl⟩:=aJ hown7;clear hown7 hg7)
   |(go_at_call 90;refine(HMAY.o _ _ HO7.o).mono ?_;rintro e w8 ⟨rfl,hs8⟩;have HB8:=Za (HB7.o.trans (hs8.below _));clear hs8;refine aD ?_))
  have HI8:=Za (HI.o.next HB8.o);have HRD8:=Za (HRD1.o.below HB8.o);clear a0 A0;have b0:=HI8.o.df.q 0 rfl;have b1:=HI8.o.df.q 1 rfl;have HBOD:=Za (JB d.lays 4 (w.heap.size+1) (.slice none 0 0) true [] oi d.input.length ci d.input (.slice ol d.lays.length cl) ⟨#[]⟩ w w8 HD.o.lays HI8.o.low HOKD.o.1 HOKD.o.2 ⟨HI8.o.wk,aV.nil _ _ _,HRD8.o,Nat.le_succ _,by simp,HFF.o.symm⟩ (by have:=HCNT.o;simp;omega) rfl (by show 0+100*4≤100000;omega));obtain⟨res,hres⟩:∃res,res=bT true d.input d.lays:=⟨_,rfl⟩;rw[←hres]at HBOD;have HRES:=Za hres;have HIN:=Za (show eK d=match bT true d.input d.lays with
   |none=>none
   |some p=>if d.loss=1∧p.1.length≠1 then none else some p from sA HG.o HFF.o.symm)
  rw[←hres]at HIN;clear hres;refine aC ?_;cases res with
  |none=>
   go_wp2_with(go_at_call 91;refine HBOD.o.mono ?_;rintro e w3 ⟨hs3,o3,m3,c3,vps3,qs3,first3,bad3,rfl,hb3,hr3,hq3,hf3,hn3,_⟩;have HL3:=Za (Zd hb3 (Zd (hs3.low) (hn3 rfl)));clear hs3 hb3 hr3 hq3 hf3 hn3;refine aD ?_);have x2:=HL3.o.1.q 2 rfl;have hne:(bad3==0)=false:=by simpa using HL3.o.2.2
   have hne2:(bad3 != 0)=true:=by simpa using HL3.o.2.2
   refine aC ?_;go_wp2_with fail;go_quiet(fail);go_wp2_with fail;exact bodyPost_ret (v:=.tuple #[.slice none 0 0,.slice none 0 0,.int .i64 bad3]) (by simp[results,Tryz.results32,go_sem]) rfl ⟨(HI8.o.low.trans (HL3.o.2.1.mono (Nat.le_succ _))).trans ((eV _).mono (by have:=HL3.o.1.lt;omega)),.inl ⟨HIN.o,bad3,HL3.o.2.2,rfl⟩⟩
  |some p=>
   have HFP:=Za (m9 true d.input HFF.o.symm d.lays p HRES.o.symm);go_wp2_with(go_at_call 91;refine HBOD.o.mono ?_;rintro e w3 ⟨hs3,o3,m3,c3,vps3,qs3,first3,bad3,rfl,hb3,hr3,hq3,hf3,_,hy3⟩;obtain⟨rfl,hrd3,hmp3⟩:=hy3 p rfl;have HL3:=Za (Zd hb3 (Zd hs3.low (Zd hr3 (Zd hq3 (Zd hrd3 hmp3)))));have hm3:m3=p.1.length:=(by obtain⟨oo,cc,e⟩:=hrd3.slice;cases e;rfl);subst hm3;clear hs3 hb3 hr3 hq3 hf3 hy3 hrd3 hmp3;refine aD ?_);have HLW:=Za (show Below w.heap.size w w3 from HI8.o.low.trans (HL3.o.2.1.mono (Nat.le_succ _)));have x2:=HL3.o.1.q 2 rfl;have f2:=HL3.o.1.free 2;have hdfx:aA w3 w.heap.size 33 #[.slice oi d.input.length ci,.slice ol d.lays.length cl,.int .i64 d.loss]:=HI8.o.df.below HL3.o.2.1 (Nat.lt_succ_self _);have b2:=hdfx.q 2 rfl;have HLEN:=Za (iN HFP.o.1).1;obtain⟨ov,cv,hvps⟩:=aJ HL3.o.2.2.1.row;subst hvps;clear hdfx;refine aC ?_;by_cases hlx:d.loss=1∧p.1.length≠1
   ·have HN:=Za (show eK d=none by rw[HIN.o];exact if_pos hlx);obtain⟨hl1,hl2⟩:=hlx;have hb1:(d.loss==1)=true:=by simpa using hl1
    have hb2:((p.1.length:Int) != 1)=true:=by simp;omega
    clear hl1 hl2;go_wp2_with fail;go_quiet(fail);go_wp2_with fail;have hx:=HL3.o.1.set 2 (.int .i64 2);exact bodyPost_ret (v:=.tuple #[.slice none 0 0,.slice none 0 0,.int .i64 2]) (by simp[results,Tryz.results32,go_sem]) rfl ⟨(HLW.o.setCell (p:=⟨w.heap.size+1,2,none⟩) (Nat.le_succ _) (.int .i64 2)).trans ((eV _).mono (by have:=hx.lt;omega)),.inl ⟨HN.o,2,by decide,rfl⟩⟩
   ·have HN:=Za (show eK d=some p by rw[HIN.o];exact if_neg hlx);have hcond:(d.loss==1)=false∨((d.loss==1)=true∧((p.1.length:Int) != 1)=false):=by
     by_cases h1:d.loss=1
     ·right;refine⟨by simpa using h1,?_⟩;have:p.1.length=1:=by
       by_cases h2:p.1.length=1
       ·exact h2
       ·exact absurd ⟨h1,h2⟩ hlx
      simp[this]
     ·left;simpa using h1
    have x0:=HL3.o.1.q 0 rfl;have HX:=Za (show Below w3.heap.size w3 w3.drew from Below.drew (Zc _ _));clear hlx;rcases hcond with hc1|⟨hc1,hc2⟩
    all_goals
     go_wp2_with fail;go_region_held3 (fun w'=>w'.cell? ⟨w.heap.size+1,0,none⟩=some (.slice ov qs3.length cv))
      (exact(HL3.o.1.next HX.o).cell 0 rfl)
      (first
      |(go_at_call 92;refine(jD _ p.1 _ (HL3.o.2.2.2.2.1.below HX.o).1 (by have:=HLEN.o;omega)).mono ?_;rintro e w5 ⟨v5,rfl,hown5,hb5⟩;have HO5:=Za (show aH w5 w.heap.size 3 .i64 v5 p.1 from cD hown5 (Nat.le_trans HLW.o.size HX.o.size));obtain⟨o5,c5,rfl⟩:=aJ hown5;have HX:=Za (HX.o.trans (hb5.mono HX.o.size));clear hown5 hb5))
     go_wp2_with fail;refine bodyPost_ret (v:=.tuple #[.slice o5 p.1.length c5,.slice ov qs3.length cv,.int .i64 0]) (by simp[results,Tryz.results32,go_sem]) rfl ⟨HLW.o.trans (HX.o.mono HLW.o.size),.inr ⟨p,_,_,qs3,HN.o,rfl,HO5.o,(HL3.o.2.2.1.below HX.o).base (Nat.le_succ _),?_,?_⟩⟩
     ·have:=HL3.o.2.2.2.2.2;simpa using this.symm
     ·have:=HL3.o.2.2.2.1;have:=HCNT.o;simp at*;omega
def mN (s:List Int):aO:=⟨s,List.replicate (bD s).toNat 0⟩
theorem yW {w:World} {B:Nat} {v:Value} {css:List (List Value)} {ts:List aO} (h:w.ownsRow B 100 2 v css.length css.flatten) (hl:css.length=ts.length)
  (hc:∀k,k<ts.length→∃vs vd,css[k]?=some [vs,vd]∧Rd w .i64 vs (aQ ts k).sh∧Rd w .i64 vd (aQ ts k).da):aY w v ts:=by
 rw[hl]at h;have h2:∀c∈css,c.length=2:=fun c hm=>by
  obtain⟨k,hk,rfl⟩:=List.getElem_of_mem hm;obtain⟨vs,vd,h1,_⟩:=hc k (by omega);rw[List.getElem?_eq_getElem hk]at h1;simp at h1;rw[h1];rfl
 refine aY.of_own h fun k hk=>?_;obtain⟨vs,vd,h1,hs,hd⟩:=hc k hk;have hk':k<css.length:=by omega
 rw[List.getElem?_eq_getElem hk']at h1;simp only[Option.some.injEq]at h1;refine⟨vs,vd,?_,?_,hs,hd⟩
 ·have:=oG css h2 k 0 hk' (by omega);rw[h1]at this
  simpa using this
 ·have:=oG css h2 k 1 hk' (by omega);rw[h1]at this
  simpa using this
structure iM (w0:World) (qs:List PD) (k:Nat) (v:Value) (w:World) (css:List (List Value)):Prop where
 low:Below w0.heap.size w0 w
 len:css.length=k
 rows:fK w0.heap.size 100 2 w v css (fun W=>∀j,j<k→∃vs vd,css[j]?=some [vs,vd]∧Rd W .i64 vs (aQ ((qs.take k).map fun q=>mN q.sh) j).sh∧Rd W .i64 vd (aQ ((qs.take k).map fun q=>mN q.sh) j).da)
theorem iM.start (w:World) (qs:List PD):iM w qs 0 (.slice none 0 0) w []:=⟨Zc _ _,rfl,fK.nil _ _ _ _ (fun W j hj=>absurd hj (Nat.not_lt_zero j))⟩
theorem iM.row {w0 w:World} {qs:List PD} {k:Nat} {v:Value} {css:List (List Value)} (h:iM w0 qs k v w css):w.ownsRow w0.heap.size 100 2 v k css.flatten:=by
 have:=h.rows.row
 rwa [h.len]at this
theorem xU {qs:List PD} {k j:Nat} (hj:j<k) (hk:k≤qs.length):aQ ((qs.take k).map fun q=>mN q.sh) j=mN (qs[j]'(by omega)).sh:=by rw[fE _ _ (by simp;omega)];simp
theorem iM.snoc {w0 w w1 w2:World} {qs:List PD} {q:PD} {k:Nat} {v v' vs vd:Value} {o:Obj} {css:List (List Value)} (hk:k<qs.length) (hqk:q=qs[k]) (h:iM w0 qs k v w css) (hb:Below w.heap.size w w1) (hs:aI (aL w.heap.size w1) w1 fun W=>Rd W .i64 vs q.sh) (hz:aI (aL w.heap.size w1) w1 fun W=>Rd W .i64 vd (List.replicate (bD q.sh).toNat 0))
  (hrow:w2.ownsRow w0.heap.size 100 2 v' (k+1) (css.flatten++[vs,vd])) (hg:(w1.alloc o).grownBy w2 v.ownBlock) (hob:v'.ownBlock=v.ownBlock∨v'.ownBlock=some (w1.alloc o).heap.size):iM w0 qs (k+1) v' w2 (css++[[vs,vd]]):=by
 subst hqk;have hl:=h.len;have hr:=h.rows;have hB:=h.low;subst hl;refine⟨(hB.trans ((hb.alloc hb.size o).mono hB.size)).grown hg (by have:=hB.size;have:=hb.size;simp;omega) (fun g hg=>(hr.row.lt g hg).1),by simp,?_⟩;have:=hr.snoc hb hB.size (hs.and hz) hrow hg hob;refine⟨this.row,this.all.imp fun W hW j hj=>?_⟩;rw[xU hj (by omega)];by_cases e:j=css.length
 ·subst e;exact⟨vs,vd,by simp,hW.2.1,hW.2.2⟩
 ·have hj':j<css.length:=by omega
  have:=hW.1 j hj';rw[xU hj' (by omega)]at this
  rwa [List.getElem?_append_left hj']
theorem iM.fin {w0 w:World} {qs:List PD} {v:Value} {css:List (List Value)} (h:iM w0 qs qs.length v w css):aY w v (qs.map fun q=>mN q.sh):=by have ha:=h.rows.all.here;rw[List.take_length]at ha;exact yW h.rows.row (by simp[h.len]) (fun k hk=>ha k (by simpa using hk))
theorem RK {ops:Array Oper} {o:Oper} {a:Act} {K:Act→World→Prop} {Q:Exit→Act→World→Prop} {E:Prop} {w0 w5 W0:World} {qs:List PD} {q:PD} {vs vd:Value} {css:List (List Value)} {ou:Option Addr} {k cu n h0:Nat} (hgd:o.guard=none) (s x:Operand)
  (ho:o.op=.call {callee:=.builtin .append,args:=#[s,x],argTypes:=#[36,36]}) (hs:a.eval s=.slice ou k cu) (hx:a.eval x=.slice (some ⟨h0,0,none⟩) 1 1) (hh:h0=W0.heap.size) (hB:iM w0 qs k (.slice ou k cu) w5 css) (hk:k<qs.length) (hq:qs.length≤1000) (hqk:q=qs[k]) (hn:n=(bD q.sh).toNat)
  (h3:aI (aL w5.heap.size W0) W0 (fun W=>Rd W .i64 vd (List.replicate n 0))∧aI (aL w5.heap.size W0) W0 (fun W=>Rd W .i64 vs q.sh)∧Below w5.heap.size w5 W0) (h1:vs.oneCell'=true) (h2:vd.oneCell'=true)
  (h:∀g c w',iM w0 qs (k+1) (.slice (some ⟨g,0,none⟩) (k+1) c) w' (css++[[vs,vd]])→K (a.put o.dst (.slice (some ⟨g,0,none⟩) (k+1) c)) w'):
  if Region.wanted o (yielded ops a.tmps)=true then Oper.wp Tryz.prog o a (W0.alloc (.cells #[vs,vd] 100)) K Q else E:=by
 subst hh;obtain⟨i0,hi,hz0,hz1,hz2⟩:=info_parts oF;refine step_append_lies _ hgd s x 36 ho w0.heap.size 100 i0 (.agg #[.slice none 0 0,.slice none 0 0]) 2 48 Tryz.underlying36 hi hz0 hz1 hz2 rfl (by decide) (.slice ou k cu) k css.flatten hs (cF hB.row (h3.2.2.alloc h3.2.2.size _) (Zb _)) ⟨W0.heap.size,0,none⟩ 1 1 [vs,vd] hx rfl (fS _ _ _ _) ?_ (by decide) ?_ ?_ ?_ (W0.heap.size+1) ?_ ?_
 ·intro u hu;simp only[List.mem_cons,List.not_mem_nil,or_false]at hu;rcases hu with rfl|rfl
  ·exact h1
  ·exact h2
 ·unfold maxLen;omega
 ·omega
 ·have:=hB.low.size;have:=h3.2.2.size;simp;omega
 ·simp
 ·intro g c w' ho hg hat _;refine h g c w' (iM.snoc hk hqk hB h3.2.2 h3.2.1 (by rw[←hn];exact h3.1) ho hg ?_);rcases hat with e|e
  ·left;rw[e];rfl
  ·right;rw[e];simp[Value.ownBlock]
theorem TD {s:List Int} (h:bA s=true):∃n:Nat,lD s=(n:Int)∧n=(bD s).toNat∧n≤65536:=by obtain⟨h1,h2,h3⟩:=dX h;have h4:=(qE s h2).1;exact⟨(bD s).toNat,by rw[lD,if_pos h3];omega,rfl,by omega⟩
theorem O4 (n:Nat) (w:World) (h:n≤65536) {M:Array Value} (hM:M=madeCells (Value.int .i64 0).cells n):
  (Instr.makeSlice 82 (.int .i64 n) (.int .i64 n)).run Tryz.prog w=.ok (.slice (some ⟨w.heap.size,0,none⟩) n n) (w.alloc (.cells M 2)):=by obtain⟨i8,hi8,hz80,hz81,hz82⟩:=info_parts rL;have:=run_makeSlice w 82 2 i8 (.int .i64 0) Tryz.underlying82 hi8 hz80 .i64 .i64 (n:Int) n (by omega) (Int.le_refl _) (by rw[hz81];simp;omega) (by rw[hz82];omega) (by omega);rw[hz81,Nat.mul_one,Int.toNat_natCast]at this;rw[hM];exact this
theorem rQ {w5 w7:World} {n:Nat} {M:Array Value} (hM:M=madeCells (Value.int .i64 0).cells n) (h:n≤65536) (hb:Below w5.heap.size w5 w7):
  Below w5.heap.size w5 (w7.alloc (.cells M 2))∧aI (aL w5.heap.size (w7.alloc (.cells M 2))) (w7.alloc (.cells M 2)) fun W=>Rd W .i64 (.slice (some ⟨w7.heap.size,0,none⟩) n n) (List.replicate n 0):=by
 refine⟨hb.alloc hb.size _,?_⟩;have h1:M.size=n:=by rw[hM,size_madeCells]
 have h2:=World.ownsRow_lit (base:=w5.heap.size) (size:=1) (e:=2) w7 M n hb.size (by unfold maxLen;omega) (by rw[h1,Nat.mul_one]);have h3:M.toList=(List.replicate n (0:Int)).map (Value.int .i64):=by have:=rG .i64 n;rw[Nat.mul_one]at this;rw[hM,this]
 rw[h3]at h2;have h4:aH (w7.alloc (.cells M 2)) w5.heap.size 2 .i64 (.slice (some ⟨w7.heap.size,0,none⟩) n n) (List.replicate n 0):=by rw[aH,List.length_replicate];exact h2
 exact aI.own h4
theorem M2 {w5 w7:World} {n:Nat} {M:Array Value} {P:World→Prop} (hM:M=madeCells (Value.int .i64 0).cells n) (h:n≤65536) (hs:aI (aL w5.heap.size w7) w7 P) (hb:Below w5.heap.size w5 w7):
  aI (aL w5.heap.size (w7.alloc (.cells M 2))) (w7.alloc (.cells M 2)) (fun W=>Rd W .i64 (.slice (some ⟨w7.heap.size,0,none⟩) n n) (List.replicate n 0))∧aI (aL w5.heap.size (w7.alloc (.cells M 2))) (w7.alloc (.cells M 2)) P∧Below w5.heap.size w5 (w7.alloc (.cells M 2)):=
 ⟨(rQ hM h hb).2,hs.grow ((Zc _ _).alloc (Zb _) _),(rQ hM h hb).1⟩
theorem GK (n₀ B:Nat) (v:Value) (qs:List PD) (w:World) (h:aV w n₀ B v qs) (hs:(qs.map (·.sh)).all bA=true) (hq:qs.length≤1000):
  Calls Tryz.prog 59 #[v] w fun e w'=>∃u,e=.returned u∧aY w' u (qs.map fun q=>mN q.sh)∧Below w.heap.size w w':=by
 obtain⟨i0,hi,hz0,hz1,hz2⟩:=info_parts oF;obtain⟨i8,hi8,hz80,hz81,hz82⟩:=info_parts rL;obtain⟨o,cap,rfl⟩:=aJ h.row;have HP:=Za h;have HSB:=Za (fun(k:Nat) (hk:k<qs.length)=>(List.all_eq_true.1 hs (qs[k]).sh (List.mem_map.2 ⟨_,List.getElem_mem hk,rfl⟩):bA (qs[k]).sh=true));clear h hs;go_enter Tryz.func59,Tryz.ntmps59;go_wp2;go_loopw[3,4] (fun u i wr=>∃k:Nat,k≤qs.length∧i=.int .i64 k∧Hid (∃a c,u=.slice a k c)∧Hid (∃css,iM w qs k u wr css)) (fun _ i _=>qs.length-(intOf i).toNat)
 case atStart=>exact⟨0,Ze _,rfl,Za ⟨_,_,rfl⟩,Za ⟨_,iM.start _ _⟩⟩
 case round=>
  obtain⟨k,hk,rfl,HU,HB0⟩:=hrel;obtain⟨w5,rfl⟩:∃w5,w5=wr:=⟨_,rfl⟩;obtain⟨ou,cu,hu⟩:=HU.o;subst hu;obtain⟨css,hB⟩:=HB0.o;have HB:=Za hB;clear HU HB0 hB;by_cases hlt:k<qs.length
  ·obtain⟨q,b,hq5,ho,d1,hd,hsb⟩:∃q b,q=qs[k]∧o=some ⟨b,0,none⟩∧w5.cell? ⟨b,k*4+1,none⟩=some q.vs∧Rd w5 .i64 q.vs q.sh∧bA q.sh=true:=by obtain⟨b,h1,_,_,h2,_,_,h3⟩:=(HP.o.below HB.o.low).at k hlt;exact⟨_,b,rfl,h1,h2,h3.1,HSB.o k hlt⟩
   subst ho;have HSH:=Za hsb;have HLT:=Za hlt;have HQ5:=Za hq5;obtain⟨o7,c7,hv7⟩:=aU hd;rw[hv7]at d1 hd;have HD:=Za hd;have HC1:=Za d1;obtain⟨n,hn1,hn2,hn3⟩:=TD HSH.o;have HN:=Za (Zd hn1 (Zd hn2 hv7));have HN3:=Za hn3;have HL4:=Za (dX HSH.o);have HX:=Za (show Below w5.heap.size w5 w5.drew from Below.drew (Zc _ _));clear hn1 hn2 hd hv7 hq5 hsb;obtain⟨M,hM⟩:∃M,M=madeCells (Value.int .i64 0).cells n:=⟨_,rfl⟩;have hmk:=fun w=>O4 n w hn3 hM;have HM:=Za hM;clear hM;go_wp2_with fail;go_region_law(first
    |(go_simp;go_at_call 92;refine(jD _ q.sh _ (HD.o.below HX.o (Zb _)) (by have:=HL4.o.1;omega)).mono ?_;rintro e w6 ⟨v6,rfl,ho6,hb6⟩;(try have HZ:=Za (HZ.o.grow hb6));have HS:=Za ((aI.own (K:=.i64) ho6).base HX.o.size);have HX:=Za (HX.o.trans (hb6.mono HX.o.size));have HW0:=Za (Eq.refl w6);obtain⟨o6,k6,rfl⟩:=aJ ho6;clear ho6 hb6;have d2:=aT HX.o HC1.o)
    |(go_simp;go_at_call 92;have HZ:=Za (rQ HM.o HN3.o HX.o).2;have HX:=Za (rQ HM.o HN3.o HX.o).1;refine(jD _ q.sh _ (HD.o.below HX.o (Zb _)) (by have:=HL4.o.1;omega)).mono ?_;rintro e w6 ⟨v6,rfl,ho6,hb6⟩;(try have HZ:=Za (HZ.o.grow hb6));have HS:=Za ((aI.own (K:=.i64) ho6).base HX.o.size);have HX:=Za (HX.o.trans (hb6.mono HX.o.size));have HW0:=Za (Eq.refl w6);obtain⟨o6,k6,rfl⟩:=aJ ho6;clear ho6 hb6;have d2:=aT HX.o HC1.o)
    |(go_simp;go_at_call 93;refine(qV _ q.sh _ (HD.o.below HX.o (Zb _)) HL4.o.2.1 HL4.o.1).mono ?_;rintro e w7 ⟨rfl,hs7⟩;rw[HN.o.1];(try have HS:=Za (HS.o.grow (hs7.below _)));have HX:=Za (HX.o.trans (hs7.below _));clear hs7;have d2:=aT HX.o HC1.o)
    |((first|have HZ2:=Za (Zd HZ.o (Zd HS.o HX.o))|have HZ2:=Za (M2 HM.o HN3.o HS.o HX.o));
      refine RK (by rfl) (.tmp 11) (.tmp 26) (by rfl) rfl rfl (by first|rfl|simp) HB.o HLT.o hq HQ5.o HN.o.2.1 HZ2.o rfl rfl ?_;intro g9 c9 w9 hf;have HF:=Za hf;clear hf))
   all_goals
    go_wp2;go_roundw
    case rel=>exact⟨k+1,by omega,by go_num,Za ⟨_,_,rfl⟩,Za ⟨_,HF.o⟩⟩
    case measure=>simp[intOf];omega
  ·obtain rfl:k=qs.length:=by omega
   have HF:=Za (Zd HB.o.fin HB.o.low);go_wp2;go_ret;exact⟨_,rfl,HF.o.1,HF.o.2⟩
end Go.Proofs.YtjhkdocidcfpdaaGreatDoor
