/- A part of the proof. -/
import Derived.Test.YtjhkdocidcfpdaaGreatDoorEN27
import Derived.Test.YtjhkdocidcfpdaaGreatDoorEN37
set_option linter.unusedVariables false
set_option linter.unusedSimpArgs false
set_option maxRecDepth 100000
set_option maxHeartbeats 16000000
namespace Go.Proofs.YtjhkdocidcfpdaaGreatDoor
open Go.RowKit Go.Shelf Go
structure IAt (w:World) (d:bI) (vi vl:Value) (W:World):Prop where
 df:aA W w.heap.size 33 #[vi,vl,.int .i64 d.loss]
 wk:aA W (w.heap.size+1) 156 (iC (.slice none 0 0) true 0)
 low:Below w.heap.size w W
theorem IAt.start {w W:World} {d:bI} {vi vl:Value} (h:W=(w.alloc (.cells #[vi,vl,.int .i64 d.loss] 33)).alloc (.cells #[.slice none 0 0,.bool true,.int .i64 0] 156)):IAt w d vi vl W:=by
 rw[h];refine⟨(aA.new _ _ _).next ((Zc _ _).alloc (Zb _) _),?_,((Zc _ _).alloc (Zb _) _).alloc (by simp) _⟩;have:=aA.new (w.alloc (.cells #[vi,vl,.int .i64 d.loss] 33)) 156 #[.slice none 0 0,.bool true,.int .i64 0]
 rwa [World.size_alloc]at this
theorem IAt.next {w W W':World} {d:bI} {vi vl:Value} (h:IAt w d vi vl W) (hb:Below W.heap.size W W'):IAt w d vi vl W':=⟨h.df.next hb,h.wk.next hb,h.low.trans (hb.mono h.low.size)⟩
theorem aY.base {w:World} {n₀ B C:Nat} {v:Value} {qs:List PD} (h:aY w n₀ B v qs) (hC:C<=B):aY w n₀ C v qs:=⟨bY h.row hC,h.sh,h.one⟩
theorem G9 {d:bI} (h:dM d=true):aS d.lays<=64:=by rw[<-BW,j9,Bool.and_eq_true,Bool.and_eq_true,decide_eq_true_eq]at h;exact h.1.2
theorem NL (oi:Option Addr) (ci:Nat) (ol:Option Addr) (cl:Nat) (d:bI) (w:World) (h:fZ w (.slice oi d.input.length ci) (.slice ol d.lays.length cl) d) (az:d.input.length<=ci) (hg:dM d=true):
  Calls Tryz.prog 32 #[.agg #[.slice oi d.input.length ci,.slice ol d.lays.length cl,.int .i64 d.loss]] w (EP w d):=by
 obtain⟨i0,hi,ak,al,ao⟩:=info_parts nH;obtain⟨W1,ae⟩:=Zx ((w.alloc (.cells #[.slice oi d.input.length ci,.slice ol d.lays.length cl,.int .i64 d.loss] 33)).alloc (.cells #[.slice none 0 0,.bool true,.int .i64 0] 156));have HI:=Za (IAt.start ae);have HW:=Za ae;have HD:=Za h;have HG:=Za hg;have bh:d.input.length<=3:=(nG hg).2.1;have aa:=Za (ED hg);have ab:=Za (G9 hg);have G:=Za (show aM w.heap.size W1 (.slice oi d.input.length ci) d.input from(aM.of_rd h.input (Zb _) (fun o n c e=>by cases e;exact az)).below HI.o.low);have P:=Za (fV W1 1);have E:=Za (fun(W:World) (v:Value) (hv:Rd W .i64 v ([1]++d.input))=>uO v ([1]++d.input) W hv (by simp;omega));have ba:=Za (show bA ([1]++d.input)=dQ d.input from rfl);rw[ba.o]at E;have R:=Za (show [(1:Int)].length+d.input.length<=maxLen/\([(1:Int)].length+d.input.length)*8<=140737488355328 by unfold maxLen;simp;omega);obtain⟨fb,af⟩:=Zx (dQ d.input);rw[<-af]at E;have T:=Za af;have a0:=HI.o.df.q 0 rfl;have A0:∀o,(W1.alloc o).cell? ⟨w.heap.size,0,none⟩=some (.slice oi d.input.length ci):=HI.o.df.cellA 0 rfl;clear h ae hg af;go_enter Tryz.func32,Tryz.ntmps32;go_upto_region 2 with(fail);rw[<-HW.o];cases fb with
 |false=>
  go_wp2_with(first
   |(at_builtin;refine kI rfl _ _ 30 rfl W1.heap.size 3 .i64 i0 8 Tryz.underlying30 hi ak al ao _ [1] rfl P.o _ d.input rfl (G.o.1.alloc _) R.o.1 R.o.2 (by simp) ?_;intro v7 w7 B H _;have ag:=Za (Rd.of_own B);have ah:=Za (((Zc _ _).alloc (Zb _) _).grown H (by simp) (fun k hk=>(P.o.lt k hk).1));obtain⟨o7,c7,rfl⟩:=aJ B;clear B H)
   |(go_at_call 90;refine(E.o _ _ ag.o).mono ?_;rintro e w8 ⟨rfl,I⟩;have U:=Za (ah.o.trans (I.below _));clear I))
  have HN:=Za (show eN d=none by rw[eN,<-T.o,Bool.and_false];rfl);exact bodyPost_ret (v:=.tuple #[.slice none 0 0,.slice none 0 0,.int .i64 5]) (by simp[results,Tryz.results32,go_sem]) rfl ⟨(HI.o.next U.o).low,.inl ⟨HN.o,5,by decide,rfl⟩⟩
 |true=>
  go_wp2_with(first
   |(at_builtin;refine kI rfl _ _ 30 rfl W1.heap.size 3 .i64 i0 8 Tryz.underlying30 hi ak al ao _ [1] rfl P.o _ d.input rfl (G.o.1.alloc _) R.o.1 R.o.2 (by simp) ?_;intro v7 w7 B H _;have ag:=Za (Rd.of_own B);have ah:=Za (((Zc _ _).alloc (Zb _) _).grown H (by simp) (fun k hk=>(P.o.lt k hk).1));obtain⟨o7,c7,rfl⟩:=aJ B;clear B H)
   |(go_at_call 90;refine(E.o _ _ ag.o).mono ?_;rintro e w8 ⟨rfl,I⟩;have U:=Za (ah.o.trans (I.below _));clear I;refine aD ?_))
  have C:=Za (HI.o.next U.o);have ap:=Za (G.o.below U.o);clear a0 A0;have b0:=C.o.df.q 0 rfl;have b1:=C.o.df.q 1 rfl;have J:=Za (T8 d.lays 4 (w.heap.size+1) (.slice none 0 0) true [] oi d.input.length ci d.input (.slice ol d.lays.length cl) ⟨#[]⟩ w w8 HD.o.lays C.o.low aa.o.1 aa.o.2 ⟨C.o.wk,aY.nil _ _ _,ap.o,Nat.le_succ _,by simp,T.o.symm⟩ (by have:=ab.o;simp;omega) rfl (by show 0+100*4<=100000;omega));obtain⟨res,F⟩:=Zx (bV true d.input d.lays);rw[<-F]at J;have aq:=Za F;have V:=Za (show eN d=match bV true d.input d.lays with
   |none=>none
   |some p=>if d.loss=1/\p.1.length≠1 then none else some p from uH HG.o T.o.symm)
  rw[<-F]at V;clear F;refine aC ?_;cases res with
  |none=>
   go_wp2_with(go_at_call 91;refine J.o.mono ?_;rintro e w3 ⟨L,o3,m3,c3,vps3,qs3,first3,bad3,rfl,M,X,Y,ai,ar,_⟩;have A:=Za (Zd M (Zd (L.low) (ar rfl)));clear L M X Y ai ar;refine aD ?_);have x2:=A.o.1.q 2 rfl;have bi:(bad3==0)=false:=by simpa using A.o.2.2
   have bg:(bad3 != 0)=true:=by simpa using A.o.2.2
   refine aC ?_;go_wp2_with fail;go_quiet(fail);go_wp2_with fail;exact bodyPost_ret (v:=.tuple #[.slice none 0 0,.slice none 0 0,.int .i64 bad3]) (by simp[results,Tryz.results32,go_sem]) rfl ⟨(C.o.low.trans (A.o.2.1.mono (Nat.le_succ _))).trans ((fC _).mono (by have:=A.o.1.lt;omega)),.inl ⟨V.o,bad3,A.o.2.2,rfl⟩⟩
  |some p=>
   have bb:=Za (nP true d.input T.o.symm d.lays p aq.o.symm);go_wp2_with(go_at_call 91;refine J.o.mono ?_;rintro e w3 ⟨L,o3,m3,c3,vps3,qs3,first3,bad3,rfl,M,X,Y,ai,_,au⟩;obtain⟨rfl,N,ac⟩:=au p rfl;have A:=Za (Zd M (Zd L.low (Zd X (Zd Y (Zd N ac)))));have bc:m3=p.1.length:=(by obtain⟨oo,cc,e⟩:=N.slice;cases e;rfl);subst bc;clear L M X Y ai au N ac;refine aD ?_);have Z:=Za (show Below w.heap.size w w3 from C.o.low.trans (A.o.2.1.mono (Nat.le_succ _)));have x2:=A.o.1.q 2 rfl;have f2:=A.o.1.free 2;have ad:aA w3 w.heap.size 33 #[.slice oi d.input.length ci,.slice ol d.lays.length cl,.int .i64 d.loss]:=C.o.df.below A.o.2.1 (Nat.lt_succ_self _);have b2:=ad.q 2 rfl;have av:=Za (jB bb.o.1).1;obtain⟨ov,cv,aw⟩:=aJ A.o.2.2.1.row;subst aw;clear ad;refine aC ?_;by_cases O:d.loss=1/\p.1.length≠1
   ·have HN:=Za (show eN d=none by rw[V.o];exact if_pos O);obtain⟨ax,bd⟩:=O;have bj:(d.loss==1)=true:=by simpa using ax
    have bk:((p.1.length:Int) != 1)=true:=by simp;omega
    clear ax bd;go_wp2_with fail;go_quiet(fail);go_wp2_with fail;have hx:=A.o.1.set 2 (.int .i64 2);exact bodyPost_ret (v:=.tuple #[.slice none 0 0,.slice none 0 0,.int .i64 2]) (by simp[results,Tryz.results32,go_sem]) rfl ⟨(Z.o.setCell (p:=⟨w.heap.size+1,2,none⟩) (Nat.le_succ _) (.int .i64 2)).trans ((fC _).mono (by have:=hx.lt;omega)),.inl ⟨HN.o,2,by decide,rfl⟩⟩
   ·have HN:=Za (show eN d=some p by rw[V.o];exact if_neg O);have aj:(d.loss==1)=false\/((d.loss==1)=true/\((p.1.length:Int) != 1)=false):=by
     by_cases h1:d.loss=1
     ·right;refine⟨by simpa using h1,?_⟩;have:p.1.length=1:=by
       by_cases h2:p.1.length=1
       ·exact h2
       ·exact absurd ⟨h1,h2⟩ O
      simp[this]
     ·left;simpa using h1
    have x0:=A.o.1.q 0 rfl;have HX:=Za (show Below w3.heap.size w3 w3.drew from Below.drew (Zc _ _));clear O;rcases aj with be|⟨be,bl⟩
    all_goals
     go_wp2_with fail;go_region_held3 (fun w'=>w'.cell? ⟨w.heap.size+1,0,none⟩=some (.slice ov qs3.length cv))
      (exact(A.o.1.next HX.o).cell 0 rfl)
      (first
      |(go_at_call 92;refine(jH _ p.1 _ (A.o.2.2.2.2.1.below HX.o).1 (by have:=av.o;omega)).mono ?_;rintro e w5 ⟨v5,rfl,D,ay⟩;have bf:=Za (show aH w5 w.heap.size 3 .i64 v5 p.1 from bY D (Nat.le_trans Z.o.size HX.o.size));obtain⟨o5,c5,rfl⟩:=aJ D;have HX:=Za (HX.o.trans (ay.mono HX.o.size));clear D ay))
     go_wp2_with fail;refine bodyPost_ret (v:=.tuple #[.slice o5 p.1.length c5,.slice ov qs3.length cv,.int .i64 0]) (by simp[results,Tryz.results32,go_sem]) rfl ⟨Z.o.trans (HX.o.mono Z.o.size),.inr ⟨p,_,_,qs3,HN.o,rfl,bf.o,(A.o.2.2.1.below HX.o).base (Nat.le_succ _),?_,?_⟩⟩
     ·have:=A.o.2.2.2.2.2;simpa using this.symm
     ·have:=A.o.2.2.2.1;have:=ab.o;simp at*;omega
def nI (s:List Int):aO:=⟨s,List.replicate (bG s).toNat 0⟩
theorem FA {w:World} {B:Nat} {v:Value} {css:List (List Value)} {ts:List aO} (h:w.ownsRow B 100 2 v css.length css.flatten) (hl:css.length=ts.length)
  (hc:∀k,k<ts.length->∃vs vd,css[k]?=some [vs,vd]/\Rd w .i64 vs (aR ts k).sh/\Rd w .i64 vd (aR ts k).da):bD w v ts:=by
 rw[hl]at h;have h2:∀c∈css,c.length=2:=fun c hm=>by
  obtain⟨k,hk,rfl⟩:=List.getElem_of_mem hm;obtain⟨vs,vd,A,_⟩:=hc k (by omega);rw[List.getElem?_eq_getElem hk]at A;simp at A;rw[A];rfl
 refine bD.of_own h fun k hk=>?_;obtain⟨vs,vd,A,hs,hd⟩:=hc k hk;have hk':k<css.length:=by omega
 rw[List.getElem?_eq_getElem hk']at A;simp only[Option.some.injEq]at A;refine⟨vs,vd,?_,?_,hs,hd⟩
 ·have:=lW css h2 k 0 hk' (by omega);rw[A]at this
  simpa using this
 ·have:=lW css h2 k 1 hk' (by omega);rw[A]at this
  simpa using this
structure iY (w0:World) (qs:List PD) (k:Nat) (v:Value) (w:World) (css:List (List Value)):Prop where
 low:Below w0.heap.size w0 w
 len:css.length=k
 rows:fM w0.heap.size 100 2 w v css (fun W=>∀j,j<k->∃vs vd,css[j]?=some [vs,vd]/\Rd W .i64 vs (aR ((qs.take k).map fun q=>nI q.sh) j).sh/\Rd W .i64 vd (aR ((qs.take k).map fun q=>nI q.sh) j).da)
theorem iY.start (w:World) (qs:List PD):iY w qs 0 (.slice none 0 0) w []:=⟨Zc _ _,rfl,fM.nil _ _ _ _ (fun W j hj=>absurd hj (Nat.not_lt_zero j))⟩
theorem iY.row {w0 w:World} {qs:List PD} {k:Nat} {v:Value} {css:List (List Value)} (h:iY w0 qs k v w css):w.ownsRow w0.heap.size 100 2 v k css.flatten:=by
 have:=h.rows.row
 rwa [h.len]at this
theorem yV {qs:List PD} {k j:Nat} (hj:j<k) (hk:k<=qs.length):aR ((qs.take k).map fun q=>nI q.sh) j=nI (qs[j]'(by omega)).sh:=by rw[eY _ _ (by simp;omega)];simp
theorem iY.snoc {w0 w w1 w2:World} {qs:List PD} {q:PD} {k:Nat} {v v' vs vd:Value} {o:Obj} {css:List (List Value)} (hk:k<qs.length) (B:q=qs[k]) (h:iY w0 qs k v w css) (hb:Below w.heap.size w w1) (hs:aI (aL w.heap.size w1) w1 fun W=>Rd W .i64 vs q.sh) (hz:aI (aL w.heap.size w1) w1 fun W=>Rd W .i64 vd (List.replicate (bG q.sh).toNat 0))
  (A:w2.ownsRow w0.heap.size 100 2 v' (k+1) (css.flatten++[vs,vd])) (hg:(w1.alloc o).grownBy w2 v.ownBlock) (C:v'.ownBlock=v.ownBlock\/v'.ownBlock=some (w1.alloc o).heap.size):iY w0 qs (k+1) v' w2 (css++[[vs,vd]]):=by
 subst B;have hl:=h.len;have hr:=h.rows;have hB:=h.low;subst hl;refine⟨(hB.trans ((hb.alloc hb.size o).mono hB.size)).grown hg (by have:=hB.size;have:=hb.size;simp;omega) (fun g hg=>(hr.row.lt g hg).1),by simp,?_⟩;have:=hr.snoc hb hB.size (hs.and hz) A hg C;refine⟨this.row,this.all.imp fun W hW j hj=>?_⟩;rw[yV hj (by omega)];by_cases e:j=css.length
 ·subst e;exact⟨vs,vd,by simp,hW.2.1,hW.2.2⟩
 ·have hj':j<css.length:=by omega
  have:=hW.1 j hj';rw[yV hj' (by omega)]at this
  rwa [List.getElem?_append_left hj']
theorem iY.fin {w0 w:World} {qs:List PD} {v:Value} {css:List (List Value)} (h:iY w0 qs qs.length v w css):bD w v (qs.map fun q=>nI q.sh):=by have ha:=h.rows.all.here;rw[List.take_length]at ha;exact FA h.rows.row (by simp[h.len]) (fun k hk=>ha k (by simpa using hk))
theorem KD {ops:Array Oper} {o:Oper} {a:Act} {K:Act->World->Prop} {Q:Exit->Act->World->Prop} {E:Prop} {w0 w5 W0:World} {qs:List PD} {q:PD} {vs vd:Value} {css:List (List Value)} {ou:Option Addr} {k cu n h0:Nat} (B:o.guard=none) (s x:Operand)
  (ho:o.op=.call {callee:=.builtin .append,args:=#[s,x],argTypes:=#[36,36]}) (hs:a.eval s=.slice ou k cu) (hx:a.eval x=.slice (some ⟨h0,0,none⟩) 1 1) (hh:h0=W0.heap.size) (hB:iY w0 qs k (.slice ou k cu) w5 css) (hk:k<qs.length) (hq:qs.length<=1000) (C:q=qs[k]) (hn:n=(bG q.sh).toNat)
  (A:aI (aL w5.heap.size W0) W0 (fun W=>Rd W .i64 vd (List.replicate n 0))/\aI (aL w5.heap.size W0) W0 (fun W=>Rd W .i64 vs q.sh)/\Below w5.heap.size w5 W0) (h1:vs.oneCell'=true) (h2:vd.oneCell'=true)
  (h:∀g c w',iY w0 qs (k+1) (.slice (some ⟨g,0,none⟩) (k+1) c) w' (css++[[vs,vd]])->K (a.put o.dst (.slice (some ⟨g,0,none⟩) (k+1) c)) w'):
  if Region.wanted o (yielded ops a.tmps)=true then Oper.wp Tryz.prog o a (W0.alloc (.cells #[vs,vd] 100)) K Q else E:=by
 subst hh;obtain⟨i0,hi,D,F,G⟩:=info_parts pE;refine step_append_lies _ B s x 36 ho w0.heap.size 100 i0 (.agg #[.slice none 0 0,.slice none 0 0]) 2 48 Tryz.underlying36 hi D F G rfl (by decide) (.slice ou k cu) k css.flatten hs (cI hB.row (A.2.2.alloc A.2.2.size _) (Zb _)) ⟨W0.heap.size,0,none⟩ 1 1 [vs,vd] hx rfl (eD _ _ _ _) ?_ (by decide) ?_ ?_ ?_ (W0.heap.size+1) ?_ ?_
 ·intro u hu;simp only[List.mem_cons,List.not_mem_nil,or_false]at hu;rcases hu with rfl|rfl
  ·exact h1
  ·exact h2
 ·unfold maxLen;omega
 ·omega
 ·have:=hB.low.size;have:=A.2.2.size;simp;omega
 ·simp
 ·intro g c w' ho hg H _;refine h g c w' (iY.snoc hk C hB A.2.2 A.2.1 (by rw[<-hn];exact A.1) ho hg ?_);rcases H with e|e
  ·left;rw[e];rfl
  ·right;rw[e];simp[Value.ownBlock]
theorem NZ {s:List Int} (h:bA s=true):∃n:Nat,lH s=(n:Int)/\n=(bG s).toNat/\n<=65536:=by obtain⟨h1,h2,h3⟩:=eC h;have h4:=(qJ s h2).1;exact⟨(bG s).toNat,by rw[lH,if_pos h3];omega,rfl,by omega⟩
theorem OQ (n:Nat) (w:World) (h:n<=65536) {M:Array Value} (hM:M=madeCells (Value.int .i64 0).cells n):
  (Instr.makeSlice 82 (.int .i64 n) (.int .i64 n)).run Tryz.prog w=.ok (.slice (some ⟨w.heap.size,0,none⟩) n n) (w.alloc (.cells M 2)):=by obtain⟨i8,D,B,A,C⟩:=info_parts t7;have:=run_makeSlice w 82 2 i8 (.int .i64 0) Tryz.underlying82 D B .i64 .i64 (n:Int) n (by omega) (Int.le_refl _) (by rw[A];simp;omega) (by rw[C];omega) (by omega);rw[A,Nat.mul_one,Int.toNat_natCast]at this;rw[hM];exact this
theorem sP {w5 w7:World} {n:Nat} {M:Array Value} (hM:M=madeCells (Value.int .i64 0).cells n) (h:n<=65536) (hb:Below w5.heap.size w5 w7):
  Below w5.heap.size w5 (w7.alloc (.cells M 2))/\aI (aL w5.heap.size (w7.alloc (.cells M 2))) (w7.alloc (.cells M 2)) fun W=>Rd W .i64 (.slice (some ⟨w7.heap.size,0,none⟩) n n) (List.replicate n 0):=by
 refine⟨hb.alloc hb.size _,?_⟩;have h1:M.size=n:=by rw[hM,size_madeCells]
 have h2:=World.ownsRow_lit (base:=w5.heap.size) (size:=1) (e:=2) w7 M n hb.size (by unfold maxLen;omega) (by rw[h1,Nat.mul_one]);have h3:M.toList=(List.replicate n (0:Int)).map (Value.int .i64):=by have:=sV .i64 n;rw[Nat.mul_one]at this;rw[hM,this]
 rw[h3]at h2;have h4:aH (w7.alloc (.cells M 2)) w5.heap.size 2 .i64 (.slice (some ⟨w7.heap.size,0,none⟩) n n) (List.replicate n 0):=by rw[aH,List.length_replicate];exact h2
 exact aI.own h4
theorem TL {w5 w7:World} {n:Nat} {M:Array Value} {P:World->Prop} (hM:M=madeCells (Value.int .i64 0).cells n) (h:n<=65536) (hs:aI (aL w5.heap.size w7) w7 P) (hb:Below w5.heap.size w5 w7):
  aI (aL w5.heap.size (w7.alloc (.cells M 2))) (w7.alloc (.cells M 2)) (fun W=>Rd W .i64 (.slice (some ⟨w7.heap.size,0,none⟩) n n) (List.replicate n 0))/\aI (aL w5.heap.size (w7.alloc (.cells M 2))) (w7.alloc (.cells M 2)) P/\Below w5.heap.size w5 (w7.alloc (.cells M 2)):=
 ⟨(sP hM h hb).2,hs.grow ((Zc _ _).alloc (Zb _) _),(sP hM h hb).1⟩
theorem RK (n₀ B:Nat) (v:Value) (qs:List PD) (w:World) (h:aY w n₀ B v qs) (hs:(qs.map (·.sh)).all bA=true) (hq:qs.length<=1000):
  Calls Tryz.prog 59 #[v] w fun e w'=>∃u,e=.returned u/\bD w' u (qs.map fun q=>nI q.sh)/\Below w.heap.size w w':=by
 obtain⟨i0,hi,ah,ai,aj⟩:=info_parts pE;obtain⟨i8,ak,ae,af,ag⟩:=info_parts t7;obtain⟨o,cap,rfl⟩:=aJ h.row;have HP:=Za h;have aa:=Za (fun(k:Nat) (hk:k<qs.length)=>(List.all_eq_true.1 hs (qs[k]).sh (List.mem_map.2 ⟨_,List.getElem_mem hk,rfl⟩):bA (qs[k]).sh=true));clear h hs;go_enter Tryz.func59,Tryz.ntmps59;go_wp2;go_loopw[3,4] (fun u i wr=>∃k:Nat,k<=qs.length/\i=.int .i64 k/\Hid (∃a c,u=.slice a k c)/\Hid (∃css,iY w qs k u wr css)) (fun _ i _=>qs.length-(intOf i).toNat)
 case atStart=>exact⟨0,Ze _,rfl,Za ⟨_,_,rfl⟩,Za ⟨_,iY.start _ _⟩⟩
 case round=>
  obtain⟨k,hk,rfl,HU,L⟩:=hrel;obtain⟨w5,rfl⟩:=Zx wr;obtain⟨ou,cu,hu⟩:=HU.o;subst hu;obtain⟨css,hB⟩:=L.o;have Z:=Za hB;clear HU L hB;by_cases F:k<qs.length
  ·obtain⟨q,b,N,ho,d1,hd,O⟩:∃q b,q=qs[k]/\o=some ⟨b,0,none⟩/\w5.cell? ⟨b,k*4+1,none⟩=some q.vs/\Rd w5 .i64 q.vs q.sh/\bA q.sh=true:=by obtain⟨b,h1,_,_,h2,_,_,h3⟩:=(HP.o.below Z.o.low).at k F;exact⟨_,b,rfl,h1,h2,h3.1,aa.o k F⟩
   subst ho;have P:=Za O;have ab:=Za F;have ac:=Za N;obtain⟨o7,c7,G⟩:=aU hd;rw[G]at d1 hd;have HD:=Za hd;have H:=Za d1;obtain⟨n,R,T,U⟩:=NZ P.o;have HN:=Za (Zd R (Zd T G));have I:=Za U;have E:=Za (eC P.o);have A:=Za (show Below w5.heap.size w5 w5.drew from Below.drew (Zc _ _));clear R T hd G N O;obtain⟨M,hM⟩:=Zx (madeCells (Value.int .i64 0).cells n);have al:=fun w=>OQ n w U hM;have HM:=Za hM;clear hM;go_wp2_with fail;go_region_law(first
    |(go_simp;go_at_call 92;refine(jH _ q.sh _ (HD.o.below A.o (Zb _)) (by have:=E.o.1;omega)).mono ?_;rintro e w6 ⟨v6,rfl,C,D⟩;(try have V:=Za (V.o.grow D));have X:=Za ((aI.own (K:=.i64) C).base A.o.size);have A:=Za (A.o.trans (D.mono A.o.size));have ad:=Za (Eq.refl w6);obtain⟨o6,k6,rfl⟩:=aJ C;clear C D;have d2:=aX A.o H.o)
    |(go_simp;go_at_call 92;have V:=Za (sP HM.o I.o A.o).2;have A:=Za (sP HM.o I.o A.o).1;refine(jH _ q.sh _ (HD.o.below A.o (Zb _)) (by have:=E.o.1;omega)).mono ?_;rintro e w6 ⟨v6,rfl,C,D⟩;(try have V:=Za (V.o.grow D));have X:=Za ((aI.own (K:=.i64) C).base A.o.size);have A:=Za (A.o.trans (D.mono A.o.size));have ad:=Za (Eq.refl w6);obtain⟨o6,k6,rfl⟩:=aJ C;clear C D;have d2:=aX A.o H.o)
    |(go_simp;go_at_call 93;refine(sN _ q.sh _ (HD.o.below A.o (Zb _)) E.o.2.1 E.o.1).mono ?_;rintro e w7 ⟨rfl,J⟩;rw[HN.o.1];(try have X:=Za (X.o.grow (J.below _)));have A:=Za (A.o.trans (J.below _));clear J;have d2:=aX A.o H.o)
    |((first|have Y:=Za (Zd V.o (Zd X.o A.o))|have Y:=Za (TL HM.o I.o X.o A.o));
      refine KD (by rfl) (.tmp 11) (.tmp 26) (by rfl) rfl rfl (by first|rfl|simp) Z.o ab.o hq ac.o HN.o.2.1 Y.o rfl rfl ?_;intro g9 c9 w9 hf;have HF:=Za hf;clear hf))
   all_goals
    go_wp2;go_roundw
    case rel=>exact⟨k+1,by omega,by go_num,Za ⟨_,_,rfl⟩,Za ⟨_,HF.o⟩⟩
    case measure=>simp[intOf];omega
  ·obtain rfl:k=qs.length:=by omega
   have HF:=Za (Zd Z.o.fin Z.o.low);go_wp2;go_ret;exact⟨_,rfl,HF.o.1,HF.o.2⟩
