/-
  A part of the proof of a law (packed by program).
-/
import Derived.Test.YtjhkdocidcfpdaaGreatDoorTM15
import Derived.Test.YtjhkdocidcfpdaaGreatDoorTM24
set_option linter.unusedVariables false
set_option linter.unusedSimpArgs false
set_option maxRecDepth 100000
set_option maxHeartbeats 16000000
open List renaming length_append → Zl
namespace Go.Proofs.YtjhkdocidcfpdaaGreatDoor
open Go.RowKit Go.Shelf Go
attribute [local go_sem] Oper.semAt_some
def kZ (B:Nat) (pre:List (Fin 256)) (W:World):Prop:=
 ∃cur:Array Value,W.heap[B]?=some (.cells cur 92 (0,0))∧cur.size=256∧∀k∈pre,cur[k.1]?=some (.int .u32 (jI k.1:Nat))
theorem LZ (B:Nat):Own (kZ B):=fun s W W' row hs hg hr=>by
 obtain⟨cur,h1,h2⟩:=hs;exact⟨cur,(grownBy_keeps_cells hg hr h1 rfl).trans h1,h2⟩
theorem EW (w:World):kZ w.heap.size [] (w.alloc (.cells Tryz.zeroCells92 92)):=
 ⟨_,World.alloc_heap_new w _,by kernel_rfl,fun _ h=>by cases h⟩
theorem kZ.cell {B:Nat} {pre:List (Fin 256)} {W:World} (h:kZ B pre W) (j:Nat) (hj:j<256):
  ∃v,W.cell? ⟨B,j,none⟩=some v∧W.frozen? ⟨B,j,none⟩=false:=by
 obtain⟨cur,h1,h2,_⟩:=h;refine⟨cur[j],?_,?_⟩
 ·rw[cell_of_row W B j cur _ _ h1];exact Array.getElem?_eq_getElem (by omega)
 ·simp[World.frozen?,h1]
theorem kZ.read {B:Nat} {W:World} (h:kZ B (List.finRange 256) W) (j:Nat) (hj:j<256):
  W.cell? ⟨B,j,none⟩=some (.int .u32 (jI j:Nat)):=by obtain⟨cur,h1,h2,h3⟩:=h;rw[cell_of_row W B j cur _ _ h1];exact h3 ⟨j,hj⟩ (List.mem_finRange _)
theorem kZ.set {B:Nat} {pre:List (Fin 256)} {W:World} (h:kZ B pre W) (x:Fin 256):
  kZ B (pre++[x]) (W.setCell ⟨B,x.1,none⟩ (.int .u32 (jI x.1:Nat))):=by
 obtain⟨cur,h1,h2,h3⟩:=h;refine⟨cur.setIfInBounds x.1 (.int .u32 (jI x.1:Nat)),?_,by simpa using h2,fun k hk=>?_⟩
 ·simp[World.setCell,Array.getElem?_modify,h1]
 ·rw[Array.getElem?_setIfInBounds];have:=x.2;by_cases e:x=k
  ·subst e;simp[h2]
  ·rw[if_neg (fun he=>e (Fin.ext he))];rcases List.mem_append.1 hk with hk|hk
   ·exact h3 k hk
   ·exact absurd (List.mem_singleton.1 hk).symm e
theorem JA (v:Value) (xs:List Int) (w:World) (hr:Rd w .u8 v xs) (hw:Wf .u8 xs) (hl:xs.length≤140737488351232):
  CallsIn Fence.wide 9 Tryz.prog 13 #[v] w fun e w'=>e=.returned (.int .u32 (jU xs:Nat))∧Below w.heap.size w w':=by
 obtain⟨o,cap,rfl,hc⟩:=hr;have HC:=Za hc;clear hc;refine callsIn_of_wp_marks Tryz.func13 rfl trivial ?_ rfl;simp only[Tryz.ntmps13,List.size_toArray,List.length_cons,List.length_nil,Nat.reduceAdd,Nat.reduceSub,Array.replicate_succ,Array.replicate_zero,List.push_toArray,List.append_toArray,List.nil_append,List.cons_append]
 gi_wp2_with (refine⟨trivial,?_⟩;gi_at_call 42;refine(I9 Fence.wide 8 trivial rfl _).mono ?_;rintro e w' ⟨rfl,rfl⟩)
 refine wpIn_rangeFunc_ownF rfl (by omega) (gf:=98) (lb:=#[]) rfl trivial (enters_of Tryz.func98 (by kernel_rfl) rfl)
  (MY Fence.wide 8 trivial rfl (by omega) _) walksK_t (walksK_b (w:=w.alloc (.cells Tryz.zeroCells92 92))) (Zc _ _) (fun _=>rfl)
  (fun pre W=>kZ w.heap.size pre W∧Below w.heap.size w W)
  (fun _ _ _=>False)
  (OwnFrom.and (Own.from (LZ _) _) (ownFrom_below (Zb _) (by simp)))
  (fun _ _ _ _ _ h _ _=>h)
  ⟨EW w,(Zc _ _).alloc (Zb _) _⟩
  (fun x=>{tmps:=#[.slice o xs.length cap,undef,.int .u32 0,.pointer (some ⟨w.heap.size,0,none⟩),.int .i64 (x.1:Nat),.int .u32 (jI x.1:Nat),undef,undef,undef,.func (.func 98) #[] #[],.int .i64 (x.1:Nat),.int .u32 (jI x.1:Nat),undef,undef,undef,undef,undef,undef,undef,undef,undef,undef,undef,undef,undef,undef,undef,undef,undef,undef,undef,undef,undef],defers:=[]}) ?assign ?body ?done ?stop
 case assign=>
  intro l x W K hK
  gi_wp2
  exact hK
 case body=>
  rintro l pre x W ⟨hT,hB⟩ _;obtain⟨old,ho,hf⟩:=hT.cell x.1 x.2;have hx:=x.2;have HT:=Za hT;have HB:=Za hB;clear hT hB
  gi_wp2
  exact⟨KeepsOthers.setCell _ _ _,KeepsWalks.setCell _ _ _,HT.o.set x,HB.o.setCell (p:=⟨w.heap.size,x.1,none⟩) (Zb _) _⟩
 case done=>
  rintro D ys W hD rfl ⟨hT,hB⟩ hK;rw[O2]at hT;have HT:=Za hT;have HB:=Za hB;have HK:=Za hK;have HD:=Za hD;have HW:=Za hw;clear hT hB hK hD hw
  gi_wp2
  gi_loop [6,17] (fun s i=>∃k:Nat,k≤xs.length∧i=.int .i64 k∧s=.int .u32 (iK 4294967295 (xs.take k):Nat)) (fun _ i=>xs.length-(intOf i).toNat)
  case atStart=>exact⟨0,by omega,rfl,rfl⟩
  case round=>
   obtain⟨k,hk,rfl,rfl⟩:=hrel;by_cases hlt:k<xs.length
   ·obtain⟨b,off,rfl,hcell⟩:=HC.o k hlt;have hcell':=(HB.o.cell (p:=⟨b,off+k,none⟩) (aP hcell)).trans hcell;clear hcell;have hc:=kT (HW.o.nth k hlt);have hS:iK 4294967295 (xs.take k)<4294967296:=xC _ _ (by omega) fun x hx=>kT (HW.o.take k x hx);obtain⟨S,hSe⟩:∃S,S=iK 4294967295 (xs.take k):=⟨_,rfl⟩;rw[←hSe]at hS ⊢;have HS:=Za hSe;clear hSe;obtain⟨j,hje⟩:∃j:Nat,j=(S%256)^^^(aE xs k).toNat:=⟨_,rfl⟩;have hj:j<256:=by rw[hje];exact Nat.xor_lt_two_pow (n:=8) (by omega) (by omega)
    have ht:bits BinOp.xor IntKind.u8 ((S:Int)%256) (aE xs k)=(j:Int):=by rw[u8_xor _ _ (by omega) (by omega) hc.1 hc.2,hje];congr 1
    have hx:bits BinOp.xor IntKind.u32 ((S:Int) / 256) (jI j:Nat)=(iP S (aE xs k).toNat:Nat):=by have:=xQ j hj;rw[show((S:Int) / 256)=((S / 256:Nat):Int)from by omega,u32_xor_nat _ _ (by omega) this,iP,←hje]
    have HJ:=Za hje;clear hje;have htab:=HT.o.read j hj
    gi_wp2
    go_round
    case rel=>exact⟨k+1,by omega,by go_num,by rw[fF xs k hlt,G2,←HS.o]⟩
    case measure=>simp[intOf];omega
   ·obtain rfl:k=xs.length:=by omega
    have hS:iK 4294967295 xs<4294967296:=xC _ _ (by omega) fun x hx=>kT (HW.o x hx);have he:bits BinOp.xor IntKind.u32 IntKind.u32.max ↑(iK 4294967295 xs)=((jU xs:Nat):Int):=by
     show bits BinOp.xor IntKind.u32 ((4294967295:Nat):Int) _=_
     rw[u32_xor_nat _ _ (by omega) hS,Nat.xor_comm];rfl
    gi_wp2
    refine⟨by simp,.inl ⟨_,_,rfl,run_takeDeferred HK.o,?_⟩⟩;refine⟨_,results_tmp rfl _ _ _,rfl,?_⟩;exact HB.o.trans (belowK_b (w:=w) (Zb _) W D _ _ (by have:=HD.o;simp at this;omega) HK.o rfl rfl)
 case stop=>
  rintro D c pre W _ _ h _;exact h.elim
structure oT (s:aX):Prop where
 ps:wt s.ps≤300∧s.ps.length≤300
 m:wt s.m.m≤300∧s.m.m.length≤300
 v:wt s.m.v≤300∧s.m.v.length≤300
 r:s.r.script.length≤5000
 c:s.c.order.length≤1100
theorem PV (s:aX) (vi vl vp vm vv vr vc:Value) (w:World) (hr:eC w s vi vl vp vm vv vr vc):
  Calls Tryz.prog 17 #[.agg (cW s vi vl vp vm vv vr vc)] w fun e w'=>vU (oT s) e∧Below w.heap.size w w':=by
 obtain⟨o1,c1,o2,c2,o3,c3,o4,c4,o5,c5,o6,c6,o7,c7,rfl,rfl,rfl,rfl,rfl,rfl,rfl⟩:=hr.slices;have HR:=Za hr;obtain⟨W,hW⟩:∃W,W=w.alloc (.cells (dD s o1 c1 o2 c2 o3 c3 o4 c4 o5 c5 o6 c6 o7 c7) 47):=⟨_,rfl⟩;have hbx:aA W w.heap.size 47 (dD s o1 c1 o2 c2 o3 c3 o4 c4 o5 c5 o6 c6 o7 c7):=by rw[hW];exact aA.new _ _ _
 have hbw:Below w.heap.size w W:=by rw[hW];exact(Zc _ _).alloc (Zb _) _
 have HX0:=Za (Zd hbx hbw);have HW:=Za hW;simp only[cW];clear hr hbx hbw hW;go_enter Tryz.func17,Tryz.ntmps17;go_upto_region 1 with(fail);rw[←HW.o];have x1:=HX0.o.1.q 1 rfl;have x2:=HX0.o.1.q 2 rfl;have x3:=HX0.o.1.q 3 rfl;have x13:=HX0.o.1.q 13 rfl;have x14:=HX0.o.1.q 14 rfl;have x15:=HX0.o.1.q 15 rfl;have x19:=HX0.o.1.q 19 rfl;have x24:=HX0.o.1.q 24 rfl;go_wp2_with(go_at_call 52;refine(OQ _ _ s.d _ (HR.o.below HX0.o.2 (Zb _)).d).mono ?_;rintro e w1 ⟨⟨b1,rfl,hq⟩,hbb⟩;have HQ1:=Za hq;refine aD ?_);have hb:Below W.heap.size W w1:=hbb;have HX1:=Za (Zd (HX0.o.1.next hb) (HX0.o.2.trans (hb.mono HX0.o.2.size)));clear hb hbb hq;clear x1 x2 x3 x13 x14 x15 x19 x24;have x1:=HX1.o.1.q 1 rfl;have x2:=HX1.o.1.q 2 rfl;have x3:=HX1.o.1.q 3 rfl;have x13:=HX1.o.1.q 13 rfl;have x14:=HX1.o.1.q 14 rfl;have x15:=HX1.o.1.q 15 rfl;have x19:=HX1.o.1.q 19 rfl;have x24:=HX1.o.1.q 24 rfl;refine aC ?_;cases b1 with
 |true=>
  go_wp2;go_ret;exact⟨⟨true,rfl,fun h=>by cases h⟩,HX1.o.2⟩
 |false=>
  go_wp2_with(go_at_call_of 53 o3;refine(tQ _ s.ps 300 _ (HR.o.below HX1.o.2 (Zb _)).ps HR.o.lps (by omega)).mono ?_;rintro e w2 ⟨⟨b2,rfl,hq⟩,hsm⟩;have HQ2:=Za hq;refine aD ?_);have hb:Below w1.heap.size w1 w2:=hsm.below _;have HX2:=Za (Zd (HX1.o.1.next hb) (HX1.o.2.trans (hb.mono HX1.o.2.size)));clear hb hsm hq;clear x1 x2 x3 x13 x14 x15 x19 x24;have x1:=HX2.o.1.q 1 rfl;have x2:=HX2.o.1.q 2 rfl;have x3:=HX2.o.1.q 3 rfl;have x13:=HX2.o.1.q 13 rfl;have x14:=HX2.o.1.q 14 rfl;have x15:=HX2.o.1.q 15 rfl;have x19:=HX2.o.1.q 19 rfl;have x24:=HX2.o.1.q 24 rfl;refine aC ?_;cases b2 with
  |true=>
   go_wp2;go_ret;exact⟨⟨true,rfl,fun h=>by cases h⟩,HX2.o.2⟩
  |false=>
   go_wp2_with(go_at_call_of 53 o4;refine(tQ _ s.m.m 300 _ (HR.o.below HX2.o.2 (Zb _)).m HR.o.lm (by omega)).mono ?_;rintro e w3 ⟨⟨b3,rfl,hq⟩,hsm⟩;have HQ3:=Za hq;refine aD ?_);have hb:Below w2.heap.size w2 w3:=hsm.below _;have HX3:=Za (Zd (HX2.o.1.next hb) (HX2.o.2.trans (hb.mono HX2.o.2.size)));clear hb hsm hq;clear x1 x2 x3 x13 x14 x15 x19 x24;have x1:=HX3.o.1.q 1 rfl;have x2:=HX3.o.1.q 2 rfl;have x3:=HX3.o.1.q 3 rfl;have x13:=HX3.o.1.q 13 rfl;have x14:=HX3.o.1.q 14 rfl;have x15:=HX3.o.1.q 15 rfl;have x19:=HX3.o.1.q 19 rfl;have x24:=HX3.o.1.q 24 rfl;refine aC ?_;cases b3 with
   |true=>
    go_wp2;go_ret;exact⟨⟨true,rfl,fun h=>by cases h⟩,HX3.o.2⟩
   |false=>
    go_wp2_with(go_at_call_of 53 o5;refine(tQ _ s.m.v 300 _ (HR.o.below HX3.o.2 (Zb _)).v HR.o.lv (by omega)).mono ?_;rintro e w4 ⟨⟨b4,rfl,hq⟩,hsm⟩;have HQ4:=Za hq;refine aD ?_);have hb:Below w3.heap.size w3 w4:=hsm.below _;have HX4:=Za (Zd (HX3.o.1.next hb) (HX3.o.2.trans (hb.mono HX3.o.2.size)));clear hb hsm hq;clear x1 x2 x3 x13 x14 x15 x19 x24;have x1:=HX4.o.1.q 1 rfl;have x2:=HX4.o.1.q 2 rfl;have x3:=HX4.o.1.q 3 rfl;have x13:=HX4.o.1.q 13 rfl;have x14:=HX4.o.1.q 14 rfl;have x15:=HX4.o.1.q 15 rfl;have x19:=HX4.o.1.q 19 rfl;have x24:=HX4.o.1.q 24 rfl;refine aC ?_;cases b4 with
    |true=>
     go_wp2;go_ret;exact⟨⟨true,rfl,fun h=>by cases h⟩,HX4.o.2⟩
    |false=>
     by_cases g6:5000<s.r.script.length
     ·go_wp2;go_ret;exact⟨⟨_,rfl,fun h=>by first|(cases h;done)|(simp at h;omega)⟩,HX4.o.2⟩
     by_cases g7:1100<s.c.order.length
     ·go_wp2;go_ret;exact⟨⟨_,rfl,fun h=>by first|(cases h;done)|(simp at h;omega)⟩,HX4.o.2⟩
     have HL:=Za (show oT s from⟨HQ2.o (by simp),HQ3.o (by simp),HQ4.o (by simp),by omega,by omega⟩);go_wp2;go_ret;exact⟨⟨_,rfl,fun _=>HL.o⟩,HX4.o.2⟩
def cI (s:aX):List Int:=gB s++bB (jU (gB s)) 4
theorem nX (ts:List aO):(cB ts).length≤8*wt ts:=by
 induction ts with
 |nil=>simp[cB]
 |cons t ts ih=>
  have e:cB (t::ts)=eG t.da++cB ts:=rfl;have e2:wt (t::ts)=(t.da.length+t.sh.length)+wt ts:=by simp[wt]
  rw[e,Zl,kU,e2];omega
theorem FO (s:aX):(kK s).length=12+4*s.c.order.length:=by rw[kK,Zl,Zl,Zl,dH,dH,dH,P3];omega
theorem J0 (s:aX):(lM s).length=36+8*s.r.script.length+(kK s).length:=by rw[lM,Zl,Zl,Zl,Zl,Zl,Zl,dH,dH,dH,dH,dH,kU];omega
theorem PH (s:aX):(nA s).length=(cB s.m.m).length+(cB s.m.v).length+(lM s).length:=by rw[nA,Zl,Zl];omega
theorem xIO (s:aX):(mZ s).length=(cB s.ps).length+20+(nA s).length:=by rw[mZ,Zl,Zl,Zl,Zl,kU,kU,dH];simp only[List.length_cons,List.length_nil];omega
theorem IF (s:aX):(mT s).length=52+(mZ s).length:=by rw[mT,Zl,Zl,Zl,Zl,Zl,Zl,Zl,kU,kU,kU,kU,kU,kU,dH];simp only[List.length_cons,List.length_nil];omega
theorem GS (s:aX):(jZ s).length=2+(mT s).length:=by rw[jZ,Zl,Zl,dH,dH];omega
theorem P4 (s:aX):(mD s).length=4+(dT s.d).length+(jZ s).length:=by rw[mD,Zl,Zl,dH,rX];omega
theorem FJ (s:aX):(gB s).length=6+(mD s).length:=by rw[gB,Zl,Zl,Zl,dH,dH];simp only[List.length_cons,List.length_nil];omega
theorem OT {s:aX} (h:dF s=true) (hl:oT s):(gB s).length≤90000:=by have ht:=(pQ (oL (mH h).1)).2.2;have h1:=nX s.ps;have h2:=nX s.m.m;have h3:=nX s.m.v;have l1:=hl.ps.1;have l2:=hl.m.1;have l3:=hl.v.1;have l4:=hl.r;have l5:=hl.c;rw[FJ,P4,GS,IF,xIO,PH,J0,FO];omega
theorem NU {s:aX} (h:dF s=true) (hl:oT s):(cI s).length≤100000:=by rw[cI,Zl,dH];have:=OT h hl;omega
theorem rF (s:aX):(cI s).take ((cI s).length-4)=gB s∧(cI s).drop ((cI s).length-4)=bB (jU (gB s)) 4:=by
 have e:(cI s).length-4=(gB s).length:=by rw[cI,Zl,dH];omega
 rw[e,cI];exact⟨List.take_left,List.drop_left⟩
theorem lB (l:List Int):Wf .u8 (eG l):=by intro x hx;rw[eG,List.mem_flatMap]at hx;obtain⟨v,_,hv⟩:=hx;exact fP _ _ x hv
theorem RZ (l:List Int):Wf .u8 (kC l):=by intro x hx;rw[kC,List.mem_flatMap]at hx;obtain⟨v,_,hv⟩:=hx;exact fP _ _ x hv
theorem vF (l:List aO):Wf .u8 (cB l):=by intro x hx;rw[cB,List.mem_flatMap]at hx;obtain⟨t,_,ht⟩:=hx;exact lB _ x ht
theorem cX {K:IntKind} {a b:List Int} (ha:Wf K a) (hb:Wf K b):Wf K (a++b):=fun x hx=>by
 rcases List.mem_append.1 hx with h|h
 ·exact ha x h
 ·exact hb x h
theorem RM:Wf .u8 [82,67,75,80]:=by intro x hx;simp at hx;rcases hx with rfl|rfl|rfl|rfl<;>rfl
theorem oM (s:aX):Wf .u8 (gB s):=by have h9:Wf .u8 (kK s):=cX (fP _ _) (cX (RZ _) (cX (fP _ _) (fP _ _)));have h7:Wf .u8 (lM s):=cX (fP _ _) (cX (lB _) (cX (fP _ _) (cX (fP _ _) (cX (fP _ _) (cX (fP _ _) h9)))));have h5:Wf .u8 (nA s):=cX (vF _) (cX (vF _) h7);have h4:Wf .u8 (mZ s):=cX (vF _) (cX (lB _) (cX (lB _) (cX (fP _ _) h5)));have h3:Wf .u8 (mT s):=cX (lB _) (cX (lB _) (cX (lB _) (cX (lB _) (cX (lB _) (cX (lB _) (cX (fP _ _) h4))))));have h2:Wf .u8 (jZ s):=cX (fP _ _) (cX (fP _ _) h3);have h1:Wf .u8 (mD s):=cX (fP _ _) (cX (OY _) h2);exact cX RM (cX (fP _ _) (cX (fP _ _) h1))
theorem BX (s:aX):Wf .u8 (cI s):=cX (oM s) (fP _ _)
def jQ (bs:List Int):Bool:=decide (fQ (bs.drop (bs.length-4))=jU (bs.take (bs.length-4)))
theorem sP {l:List Int} (h:Wf .u8 l):∀x∈l,0≤x∧x<256:=fun x hx=>kT (h x hx)
theorem ES (s:aX):jQ (cI s)=true:=by rw[jQ,(rF s).1,(rF s).2,decide_eq_true_eq];exact wC _ 4 (by omega) (uZ _ (sP (oM s)))
theorem QH (l:List Int) (k n:Nat) (x:Int) (h:n≤k):(l.set k x).take n=l.take n:=by rw[List.take_set,List.set_eq_of_length_le];rw[List.length_take];omega
theorem QR (l:List Int) (k n:Nat) (x:Int) (h:k<n):(l.set k x).drop n=l.drop n:=by rw[List.drop_set,if_pos h]
theorem ET (s:aX) (k j:Nat) (hk:k<(cI s).length):jQ ((cI s).set k (f9 (aE (cI s) k) j))=false:=by
 have hwf:=BX s;have hx:=kT (hwf.nth k hk);have ht:=wZ (aE (cI s) k) j hx;have hne:=H5 (aE (cI s) k) j hx.1;have hlen:(cI s).length=(gB s).length+4:=by rw[cI,Zl,dH]
 obtain⟨e1,e2⟩:=rF s;rw[jQ,List.length_set,decide_eq_false_iff_not];by_cases h:k<(cI s).length-4
 ·rw[QR _ _ _ _ h,e2,wC _ 4 (by omega) (uZ _ (sP (oM s))),List.take_set,e1];have hk0:k<(gB s).length:=by omega
  have hn:aE (cI s) k=aE (gB s) k:=by rw[dK _ _ hk,dK _ _ hk0];simp only[cI];rw[List.getElem_append_left hk0]
  intro e;exact KR (gB s) k _ (sP (oM s)) hk0 ht (by rw[←hn];exact hne) e.symm
 ·rw[QH _ _ _ _ (by omega),e1];intro e;have hwd:Wf .u8 (((cI s).set k (f9 (aE (cI s) k) j)).drop ((cI s).length-4)):=fun y hy=>by
   rcases List.mem_or_eq_of_mem_set (List.mem_of_mem_drop hy)with h'|rfl
   ·exact hwf y h'
   ·exact wQ ht.1 ht.2
  have hl4:(((cI s).set k (f9 (aE (cI s) k) j)).drop ((cI s).length-4)).length=4:=by rw[List.length_drop,List.length_set];omega
  rw[xE _ hwd (by omega)]at e;have hb:=CF _ hwd;rw[hl4,e,←e2]at hb;have h2:aE ((cI s).set k (f9 (aE (cI s) k) j)) k=aE (cI s) k:=by
   have:=congrArg (fun l=>aE l (k-((cI s).length-4))) hb;simp only[aE,List.getD_eq_getElem?_getD,List.getElem?_drop]at this;rw[show(cI s).length-4+(k-((cI s).length-4))=k by omega]at this
   simpa [aE,List.getD_eq_getElem?_getD]using this.symm
  rw[xT _ _ _ hk]at h2;exact hne h2
def gV (vps:Value) (first:Bool) (bad:Int):Array Value:=#[vps,.bool first,.int .i64 bad]
structure bZ (g:Nat) (w w':World):Prop where
 low:Below g w w'
 kept:∀(k:Nat) (cs:Array Value) (T:TypeId) (fz:Nat×Nat),T≠161→T≠156→w.heap[k]?=some (.cells cs T fz)→w'.heap[k]?=some (.cells cs T fz)
theorem bZ.refl (g:Nat) (w:World):bZ g w w:=⟨Zc _ _,fun _ _ _ _ _ _ h=>h⟩
theorem bZ.trans {g:Nat} {a b c:World} (h:bZ g a b) (k:bZ g b c):bZ g a c:=⟨h.low.trans k.low,fun i cs T fz h1 h2 hi=>k.kept i cs T fz h1 h2 (h.kept i cs T fz h1 h2 hi)⟩
theorem bZ.below {g:Nat} {w w':World} (h:Below w.heap.size w w') (hg:g≤w.heap.size):bZ g w w':=⟨h.mono hg,fun k cs T fz _ _ hk=>(h.block k (Array.getElem?_eq_some_iff.1 hk).1).trans hk⟩
theorem bZ.set {g:Nat} {w:World} {cs:Array Value} (h:aA w g 156 cs) (j:Nat) (v:Value):bZ g w (w.setCell ⟨g,j,none⟩ v):=
 ⟨(Zc _ _).setCell (p:=⟨g,j,none⟩) (Zb _) v,fun k cs T fz _ h2 hk=>by
  rw[Below.heap_setCell _ _ _ _ (fun e=>?_)]
  ·exact hk
  ·simp at e;subst e;unfold aA at h;rw[h]at hk;simp at hk;exact h2 hk.2.1.symm⟩
theorem bZ.grown {g B:Nat} {w w':World} {u:Value} {n s:Nat} {ys:List Value} (ho:w.ownsRow B 161 s u n ys) (hB:g≤B) (hw:g≤w.heap.size) (hg:w.grownBy w' u.ownBlock):bZ g w w':=by
 have hrow:∀k,u.ownBlock=some k→B≤k∧∀cs T fz,T≠161→w.heap[k]?≠some (.cells cs T fz):=fun k hk=>by
  rcases ho.2 with⟨rfl,_⟩|⟨b,cap,cur,rfl,hbb,hgg,_⟩
  ·simp[Value.ownBlock]at hk
  ·simp[Value.ownBlock]at hk;subst hk;refine⟨hbb,fun cs T fz hT h=>?_⟩;rw[hgg]at h;simp at h;exact hT h.2.1.symm
 exact⟨(Zc _ _).grown hg hw (fun k hk=>Nat.le_trans hB (hrow k hk).1),fun k cs T fz h1 _ hk=>(hg.block k (Array.getElem?_eq_some_iff.1 hk).1 (fun e'=>(hrow k e'.symm).2 cs T fz h1 hk)).trans hk⟩
theorem aM.keepR {n₀ g:Nat} {w w':World} {v:Value} {xs:List Int} (h:aM n₀ w v xs) (hs:bZ g w w') (hn:n₀≤g):aM n₀ w' v xs:=by
 have key:∀b,(b<n₀∨∃cs fz,w.heap[b]?=some (.cells cs 3 fz))→b<w.heap.size→w'.heap[b]?=w.heap[b]?:=fun b hb hlt=>by
  rcases hb with hb|⟨cs,fz,hb⟩
  ·exact hs.low.block b (by omega)
  ·rw[hb];exact hs.kept b cs _ fz (by decide) (by decide) hb
 obtain⟨o,cap,rfl,hc⟩:=h.1;have hb2:=h.2.1;refine⟨⟨o,cap,rfl,fun j hj=>?_⟩,fun b off n c e' h0=>?_,h.2.2⟩
 ·obtain⟨b,off,rfl,hcell⟩:=hc j hj;exact⟨b,off,rfl,(World.cell?_of_block (w:=w) (a:=⟨b,off+j,none⟩) (key b (hb2 b off _ _ rfl (by omega)) (aP hcell))).trans hcell⟩
 ·rcases hb2 b off n c e' h0 with hh|⟨cs,fz,hh⟩
  ·exact .inl hh
  ·exact .inr ⟨cs,fz,(key b (.inr ⟨cs,fz,hh⟩) (Array.getElem?_eq_some_iff.1 hh).1).trans hh⟩
theorem aA.keepR {g C:Nat} {w w':World} {T:TypeId} {cs:Array Value} (h:aA w C T cs) (hs:bZ g w w') (h1:T≠161) (h2:T≠156):aA w' C T cs:=hs.kept C cs T _ h1 h2 h
theorem E7 {g n₀:Nat} {vps v':Value} {first:Bool} {bad:Int} {qs:List PD} {q:PD} {w w1 w6:World}
  (hb:aA w g 156 (gV vps first bad)) (hps:aV w n₀ g vps qs) (hn:n₀≤g) (h1:Below w.heap.size w w1) (hsh:aM n₀ w q.vs q.sh) (hq1:q.vs.oneCell'=true)
  (hown:w6.ownsRow g 161 4 v' (qs.length+1) (fV qs++q.cells)) (hg:w1.grownBy w6 vps.ownBlock):
  (w6.cell? ⟨g,0,none⟩=some vps∧w6.frozen? ⟨g,0,none⟩=false)∧aA (w6.setCell ⟨g,0,none⟩ v') g 156 (gV v' first bad)∧aV (w6.setCell ⟨g,0,none⟩ v') n₀ g v' (qs++[q])∧bZ g w (w6.setCell ⟨g,0,none⟩ v'):=by
 have hgs:g≤w.heap.size:=Nat.le_of_lt hb.lt;have hrow1:=cF hps.row h1 (Zb _);have hst:bZ g w w6:=(bZ.below h1 hgs).trans (bZ.grown hrow1 (Zb _) (Nat.le_trans hgs h1.size) hg);have hbx:aA w6 g 156 (gV vps first bad):=by
  have hb1:=hb.next h1;refine(hg.block g hb1.lt fun e=>?_).trans hb1;rcases hrow1.2 with⟨rfl,_⟩|⟨b,cap,cur,rfl,hbb,hgg,_⟩
  ·simp[Value.ownBlock]at e
  ·simp[Value.ownBlock]at e;subst e;unfold aA at hb1;rw[hgg]at hb1;simp at hb1
 have hset:=bZ.set hbx 0 v';have hne:∀k,v'.ownBlock=some k→g≠k:=fun k hk e=>by
  subst e;rcases hown.2 with⟨rfl,_⟩|⟨b,cap,cur,rfl,hbb,hgg,_⟩
  ·simp[Value.ownBlock]at hk
  ·simp[Value.ownBlock]at hk;subst hk;unfold aA at hbx;rw[hgg]at hbx;simp at hbx
 refine⟨⟨hbx.cell 0 rfl,hbx.free 0⟩,hbx.set 0 v',⟨?_,fun r hr=>?_,fun r hr=>?_⟩,hst.trans hset⟩
 ·rw[A6,Zl,List.length_singleton];refine⟨hown.1,?_⟩;rcases hown.2 with hn'|⟨b,cap,cur,rfl,hbb,hgg,r⟩
  ·exact .inl hn'
  ·exact .inr ⟨b,cap,cur,rfl,hbb,by rw[Below.heap_setCell _ _ _ _ (fun e=>hne b rfl e.symm)];exact hgg,r⟩
 ·rcases List.mem_append.1 hr with hr|hr
  ·exact(hps.sh r hr).keepR (hst.trans hset) hn
  ·rw[List.mem_singleton.1 hr];exact hsh.keepR (hst.trans hset) hn
 ·rcases List.mem_append.1 hr with hr|hr
  ·exact hps.one r hr
  ·rw[List.mem_singleton.1 hr];exact hq1
theorem aV.setR {w:World} {n₀ B g:Nat} {v:Value} {qs:List PD} {cs:Array Value} (h:aV w n₀ B v qs) (hb:aA w g 156 cs) (j:Nat) (u:Value) (hn:n₀≤g):aV (w.setCell ⟨g,j,none⟩ u) n₀ B v qs:=
 ⟨qM h.row hb (by decide) u,fun q hq=>(h.sh q hq).keepR (bZ.set hb j u) hn,h.one⟩
theorem vY (v:Value) (xs:List Int) (w:World) (hr:Rd w .i64 v xs) (hl:xs.length≤140737488351232):Calls Tryz.prog 90 #[v] w fun e w'=>e=.returned (.bool (bA xs))∧aN w w':=CW v xs w hr hl
def jR (sh:List Int) (bad:Int):Int:=if bA sh=false∧bad=0 then 5 else bad
def AL (g n₀:Nat) (first:Bool) (bad:Int) (qs:List PD) (sh:List Int) (w:World) (e:Ending) (w':World):Prop:=
 e=.returned (.tuple #[])∧(∃vps' q,aA w' g 156 (gV vps' first (jR sh bad))∧aV w' n₀ g vps' (qs++[q])∧q.sh=sh)∧bZ g w w'
theorem J9 (g n₀:Nat) (vps:Value) (first:Bool) (bad:Int) (nm:ByteArray) (qs:List PD) (fi fo:Int) (o:Option Addr) (cap:Nat) (sh:List Int) (w:World)
  (hb:aA w g 156 (gV vps first bad)) (hps:aV w n₀ g vps qs) (hq:qs.length≤100000) (hn:n₀≤g) (hsh:aM n₀ w (.slice o sh.length cap) sh) (hls:sh.length≤100000):
  Calls Tryz.prog 164 #[.pointer (some ⟨g,0,none⟩),.string nm,.slice o sh.length cap,.int .i64 fi,.int .i64 fo] w (AL g n₀ first bad qs sh w):=by
 obtain⟨i0,hi,hz0,hz1,hz2⟩:=info_parts wD;have HBX:=Za hb;have HPS:=Za hps;have HSH:=Za hsh;obtain⟨ov,cv,rfl⟩:=aJ hps.row;have c3:=hb.q 0 rfl;have hlg:=hb.lt;clear hb hps hsh;go_enter Tryz.func164,Tryz.ntmps164;go_wp2_with(at_builtin;refine wpList_append_own _ rfl _ _ 79 rfl g 161 i0 (.agg #[.string ⟨#[]⟩,.slice none 0 0,.int .i64 0,.int .i64 0]) 4 56 Tryz.underlying79 hi hz0 hz1 hz2 rfl (by decide) _ _ _ rfl ((cF HPS.o.row ((Zc _ _).alloc (Zb _) _) (Zb _))) ⟨w.heap.size,0,none⟩ 1 1 [.string nm,.slice o sh.length cap,.int .i64 fi,.int .i64 fo] rfl rfl (fS w _ _ _) (by simp[Value.oneCell']) (by unfold maxLen;omega) (by omega) (by simp;omega) ?_;intro v' w6 hown6 hgrow6 _;have HF:=Za (E7 (q:=⟨nm,.slice o sh.length cap,fi,fo,sh⟩) HBX.o HPS.o hn ((Zc _ _).alloc (Zb _) _) HSH.o rfl hown6 hgrow6);obtain⟨o6,c6,rfl⟩:=aJ hown6;have e3:=HF.o.1.1;have e4:=HF.o.1.2;clear hown6 hgrow6;refine aD ?_);refine aC ?_;go_upto_region 1 with(fail);obtain⟨w7,hw7⟩:∃w7,w7=w6.setCell ⟨g,0,none⟩ (.slice o6 (qs.length+1) c6):=⟨_,rfl⟩;have HF7:=Za (show aA w7 g 156 (gV (.slice o6 (qs.length+1) c6) first bad)∧aV w7 n₀ g (.slice o6 (qs.length+1) c6) (qs++[⟨nm,.slice o sh.length cap,fi,fo,sh⟩])∧bZ g w w7 by rw[hw7];exact HF.o.2);rw[←hw7];clear hw7 e3 e4 HF;have HM:=Za (vY (.slice o sh.length cap) sh w7 (HSH.o.keepR HF7.o.2.2 hn).1 (by omega));obtain⟨sb,hsb⟩:∃sb,sb=bA sh:=⟨_,rfl⟩;rw[←hsb]at HM;have HSB:=Za hsb;clear hsb c3;cases sb with
 |true=>
  go_wp2_with(go_at_call 90;refine HM.o.mono ?_;rintro e w8 ⟨rfl,hs8⟩;have HB8:=Za (show Below w7.heap.size w7 w8 from hs8.below _);clear hs8);go_end0;refine⟨rfl,⟨_,⟨nm,.slice o sh.length cap,fi,fo,sh⟩,?_,HF7.o.2.1.below HB8.o,rfl⟩,HF7.o.2.2.trans (bZ.below HB8.o (Nat.le_of_lt HF7.o.1.lt))⟩;rw[jR,←HSB.o,if_neg (by simp)];exact HF7.o.1.next HB8.o
 |false=>
  by_cases h0:bad=0
  ·subst h0;go_wp2_with(go_at_call 90;refine HM.o.mono ?_;rintro e w8 ⟨rfl,hs8⟩;have HB8:=Za (show Below w7.heap.size w7 w8 from hs8.below _);clear hs8;have x2:w8.cell? ⟨g,2,none⟩=some (.int .i64 0):=(HF7.o.1.next HB8.o).cell 2 rfl;have f2:=(HF7.o.1.next HB8.o).free 2);go_end0;have hb8:=HF7.o.1.next HB8.o;have hst:=bZ.set hb8 2 (.int .i64 5);refine⟨rfl,⟨_,⟨nm,.slice o sh.length cap,fi,fo,sh⟩,?_,(HF7.o.2.1.below HB8.o).setR hb8 2 _ hn,rfl⟩,(HF7.o.2.2.trans (bZ.below HB8.o (Nat.le_of_lt HF7.o.1.lt))).trans hst⟩;rw[jR,←HSB.o,if_pos ⟨rfl,rfl⟩];exact hb8.set 2 _
  ·have hne:(bad==0)=false:=by simpa using h0
   go_wp2_with(go_at_call 90;refine HM.o.mono ?_;rintro e w8 ⟨rfl,hs8⟩;have HB8:=Za (show Below w7.heap.size w7 w8 from hs8.below _);clear hs8;have x2:w8.cell? ⟨g,2,none⟩=some (.int .i64 bad):=(HF7.o.1.next HB8.o).cell 2 rfl;have f2:=(HF7.o.1.next HB8.o).free 2);go_end0;refine⟨rfl,⟨_,⟨nm,.slice o sh.length cap,fi,fo,sh⟩,?_,HF7.o.2.1.below HB8.o,rfl⟩,HF7.o.2.2.trans (bZ.below HB8.o (Nat.le_of_lt HF7.o.1.lt))⟩;rw[jR,←HSB.o,if_neg (fun h=>h0 h.2)];exact HF7.o.1.next HB8.o
def oO (n:aG) (vb:Value):Array Value:=#[.int .i64 n.kind,.int .i64 n.inn,.int .i64 n.o,.int .i64 n.size,.int .i64 n.stride,.int .i64 n.pad,.int .i64 n.percent,.int .i64 n.heads,vb]
structure fB (g n₀:Nat) (vps:Value) (first:Bool) (qs:List PD) (vs:Value) (s:List Int) (w:World):Prop where
 wk:aA w g 156 (gV vps first 0)
 row:aV w n₀ g vps qs
 sh:aM n₀ w vs s
 hn:n₀≤g
 hq:qs.length≤10000
 fit:dM s=true
theorem iN {s:List Int} (h:dM s=true):s.length≤3∧s.all bW=true∧bD s≤65536:=by
 rw[dM,bA,Bool.and_eq_true,Bool.and_eq_true,decide_eq_true_eq,decide_eq_true_eq,List.length_cons,List.all_cons,Bool.and_eq_true]at h;refine⟨by omega,h.1.2.2,?_⟩;have:=h.2
 simpa [bD]using this
structure eE (g n₀ lb:Nat) (n:aG) (vb vps:Value) (bad:Int) (qs:List PD) (vs:Value) (s:List Int) (w W:World):Prop where
 st:bZ g w W
 wk:aA W g 156 (gV vps false bad)
 lay:aA W lb 175 (oO n vb)
 row:aV W n₀ g vps qs
 sh:aM n₀ W vs s
 hn:n₀≤g
 hlb:g<lb
theorem eE.next {g n₀ lb:Nat} {n:aG} {vb vps:Value} {bad:Int} {qs:List PD} {vs:Value} {s:List Int} {w W W':World} (h:eE g n₀ lb n vb vps bad qs vs s w W) (hb:Below W.heap.size W W'):eE g n₀ lb n vb vps bad qs vs s w W':=
 ⟨h.st.trans (bZ.below hb (Nat.le_of_lt h.wk.lt)),h.wk.next hb,h.lay.next hb,h.row.below hb,h.sh.below hb,h.hn,h.hlb⟩
theorem eE.par {g n₀ lb:Nat} {n:aG} {vb vps vps':Value} {bad bad':Int} {qs qs':List PD} {vs:Value} {s:List Int} {w W W':World} (h:eE g n₀ lb n vb vps bad qs vs s w W) (hs:bZ g W W') (hb:aA W' g 156 (gV vps' false bad')) (hr:aV W' n₀ g vps' qs'):eE g n₀ lb n vb vps' bad' qs' vs s w W':=
 ⟨h.st.trans hs,hb,h.lay.keepR hs (by decide) (by decide),hr,h.sh.keepR hs h.hn,h.hn,h.hlb⟩
theorem eE.bad {g n₀ lb:Nat} {n:aG} {vb vps:Value} {bad:Int} {qs:List PD} {vs:Value} {s:List Int} {w W:World} (h:eE g n₀ lb n vb vps bad qs vs s w W) (b:Int):eE g n₀ lb n vb vps b qs vs s w (W.setCell ⟨g,2,none⟩ (.int .i64 b)):=
 h.par (bZ.set h.wk 2 _) (h.wk.set 2 _) (h.row.setR h.wk 2 _ h.hn)
theorem fB.start {g n₀:Nat} {vps:Value} {first:Bool} {qs:List PD} {vs:Value} {s:List Int} {w W0 W1:World} (h:fB g n₀ vps first qs vs s w) (n:aG) (vb:Value) (h0:W0=w.alloc (.cells (oO n vb) 175)) (h1:W1=W0.setCell ⟨g,1,none⟩ (.bool false)):
  (W0.cell? ⟨g,1,none⟩=some (.bool first)∧W0.frozen? ⟨g,1,none⟩=false)∧eE g n₀ w.heap.size n vb vps 0 qs vs s w W1:=by
 have hb:Below w.heap.size w W0:=by rw[h0];exact(Zc _ _).alloc (Zb _) _
 have hw:=h.wk.next hb;have hl:aA W0 w.heap.size 175 (oO n vb):=by rw[h0];exact aA.new _ _ _
 have hs:=bZ.set hw 1 (.bool false);refine⟨⟨hw.cell 1 rfl,hw.free 1⟩,?_⟩;rw[h1];exact⟨(bZ.below hb (Nat.le_of_lt h.wk.lt)).trans hs,hw.set 1 _,hl.keepR hs (by decide) (by decide),(h.row.below hb).setR hw 1 _ h.hn,(h.sh.below hb).keepR hs h.hn,h.hn,h.wk.lt⟩
def bL (g n₀:Nat) (qs:List PD) (res:Option (List Int×List (List Int))) (w:World) (e:Ending) (w':World):Prop:=
 bZ g w w'∧∃o m c vps' qs' bad',e=.returned (.slice o m c)∧aA w' g 156 (gV vps' false bad')∧aV w' n₀ g vps' qs'∧qs'.length≤qs.length+4∧(res=none→bad'≠0)∧
  ∀p,res=some p→(bad'=0↔p.2.all bA=true)∧(bad'=0→aM n₀ w' (.slice o m c) p.1∧qs'.map (·.sh)=qs.map (·.sh)++p.2)
theorem bL.no {g n₀ lb:Nat} {n:aG} {vb vps:Value} {bad:Int} {qs qs':List PD} {vs:Value} {s:List Int} {res:Option (List Int×List (List Int))} {w W:World} (h:eE g n₀ lb n vb vps bad qs' vs s w W) (hb:bad≠0) (hr:res=none) (hq:qs'.length≤qs.length+4) (o:Option Addr) (m c:Nat):bL g n₀ qs res w (.returned (.slice o m c)) W:=
 ⟨h.st,o,m,c,vps,qs',bad,rfl,h.wk,h.row,hq,fun _=>hb,fun p hp=>by rw[hr]at hp;cases hp⟩
theorem bL.yes {g n₀ lb:Nat} {n:aG} {vb vps:Value} {bad:Int} {qs qs':List PD} {vs:Value} {s out:List Int} {ps:List (List Int)} {res:Option (List Int×List (List Int))} {w W:World} {o:Option Addr} {m c:Nat} (h:eE g n₀ lb n vb vps bad qs' vs s w W) (hr:res=some (out,ps)) (hb:bad=0↔ps.all bA=true) (hq:qs'.map (·.sh)=qs.map (·.sh)++ps) (hp:ps.length≤4) (ho:aM n₀ W (.slice o m c) out):bL g n₀ qs res w (.returned (.slice o m c)) W:=
 ⟨h.st,o,m,c,vps,qs',bad,rfl,h.wk,h.row,by have:=congrArg List.length hq;simp at this;omega,fun hn=>(by rw[hr]at hn;cases hn),fun p hp=>by
  rw[hr]at hp;cases hp;exact⟨hb,fun _=>⟨ho,hq⟩⟩⟩
theorem kM (g n₀:Nat) (vps:Value) (first:Bool) (bad:Int) (nm:ByteArray) (qs:List PD) (fi fo:Int) (o:Option Addr) (m cap:Nat) (sh:List Int) (w:World)
  (hb:aA w g 156 (gV vps first bad)) (hps:aV w n₀ g vps qs) (hq:qs.length≤100000) (hn:n₀≤g) (hm:m=sh.length) (hsh:aM n₀ w (.slice o m cap) sh) (hls:sh.length≤100000):
  Calls Tryz.prog 164 #[.pointer (some ⟨g,0,none⟩),.string nm,.slice o m cap,.int .i64 fi,.int .i64 fo] w (AL g n₀ first bad qs sh w):=by subst hm;exact J9 g n₀ vps first bad nm qs fi fo o cap sh w hb hps hq hn hsh hls
theorem eV {W:World} (n:Nat):Below W.heap.size W (W.drewN n):=(show aN W (W.drewN n)from⟨_,rfl⟩).below _
theorem qA (sh:List Int):jR sh 0=0↔bA sh=true:=by rw[jR];cases bA sh<;>simp
theorem qB (sh:List Int) (b:Int):jR sh b=0↔b=0∧bA sh=true:=by
 rw[jR];by_cases hb:b=0
 ·subst hb;cases bA sh<;>simp
 ·rw[if_neg (fun h=>hb h.2)];simp[hb]
theorem GV (g n₀:Nat) (n1 n2 n3 n4 n5 n6 n7:Int) (ob:Option Addr) (nb cb:Nat) (vps:Value) (first:Bool) (nm:ByteArray) (qs:List PD) (o:Option Addr) (m cap:Nat) (s:List Int) (w:World)
  (h:fB g n₀ vps first qs (.slice o m cap) s w) (hm:m=s.length) (hnm:nm.size≤1000000):
  Calls Tryz.prog 135 #[.pointer (some ⟨g,0,none⟩),.agg #[.int .i64 1,.int .i64 n1,.int .i64 n2,.int .i64 n3,.int .i64 n4,.int .i64 n5,.int .i64 n6,.int .i64 n7,.slice ob nb cb],.slice o m cap,.string nm] w (bL g n₀ qs (aK ⟨1,n1,n2,n3,n4,n5,n6,n7⟩ first s) w):=by
 obtain⟨W0,hW0⟩:∃W0,W0=w.alloc (.cells #[.int .i64 1,.int .i64 n1,.int .i64 n2,.int .i64 n3,.int .i64 n4,.int .i64 n5,.int .i64 n6,.int .i64 n7,.slice ob nb cb] 175):=⟨_,rfl⟩;obtain⟨W1,hW1⟩:∃W1,W1=W0.setCell ⟨g,1,none⟩ (.bool false):=⟨_,rfl⟩;have hst:=h.start ⟨1,n1,n2,n3,n4,n5,n6,n7⟩ (.slice ob nb cb) hW0 hW1;have HA:=Za hst.2;have x1:=hst.1.1;have f1:=hst.1.2;have HW:=Za (Zd hW0 hW1);obtain⟨hs3,hsd,hsp⟩:=iN h.fit;have hm3:m≤3:=by omega
 have HSD:=Za (Zd hsd hsp);have HFIT:=Za h.fit;have HQ:=Za h.hq;have HM:=Za hm;have hl2':¬9223372036854775807<nm.size+2:=by omega
 rw[hW0]at x1 f1;clear h hst hW0 hW1 hsd hsp hs3 hm;have a0:=HA.o.lay.q 0 rfl;have a1:=HA.o.lay.q 1 rfl;have a2:=HA.o.lay.q 2 rfl;have a3:=HA.o.lay.q 3 rfl;have a4:=HA.o.lay.q 4 rfl;have a5:=HA.o.lay.q 5 rfl;have a6:=HA.o.lay.q 6 rfl;have a7:=HA.o.lay.q 7 rfl;have a8:=HA.o.lay.q 8 rfl;have x2:=HA.o.wk.q 2 rfl;have f2:=HA.o.wk.free 2;go_enter Tryz.func135,Tryz.ntmps135;go_upto_region 4 with(fail);rw[←HW.o.1,←HW.o.2];clear x1 f1;have hm4:m=0∨m=1∨m=2∨m=3:=by omega
 rcases hm4 with rfl|rfl|rfl|rfl
 ·have HN:=Za (show aK ⟨1,n1,n2,n3,n4,n5,n6,n7⟩ first s=none by rw[aK,if_pos rfl,if_neg (by have:=HM.o;omega)]);go_wp2_with fail;go_quiet(fail);go_wp2_with fail;go_ret;exact bL.no ((HA.o.next (eV _)).bad 2) (by decide) HN.o (by omega) none 0 0
 ·obtain⟨b,off,rfl,hc⟩:=HA.o.sh.1.cell 0 (by rw[←HM.o];omega);obtain⟨x,hx⟩:∃x,x=aE s 0:=⟨_,rfl⟩;rw[←hx]at hc;rw[Nat.add_zero]at hc;have HX:=Za hx;clear hx;by_cases hxn:x=n1
  ·subst hxn;have HY:=Za (show aK ⟨1,x,n2,n3,n4,n5,n6,n7⟩ first s=some (s.take (0)++[n2],[[x,n2],[n2]]) by rw[aK,if_pos rfl,if_pos ⟨by have:=HM.o;omega,by have:=HM.o;omega,by rw[←HM.o];exact HX.o.symm⟩,←HM.o]);go_wp2_with fail;go_quiet(fail);obtain⟨V,hV⟩:∃V,V=W1.drewN nq:=⟨_,rfl⟩;have HV:=Za (show eE g n₀ w.heap.size ⟨1,x,n2,n3,n4,n5,n6,n7⟩ (.slice ob nb cb) vps 0 qs (.slice (some ⟨b,off,none⟩) 1 cap) s w V by rw[hV];exact HA.o.next (eV _));rw[←hV];clear hV hc x2 f2 a0 a1 a2 a3 a4 a5 a6 a7 a8 HA;have a1:=HV.o.lay.q 1 rfl;have a2:=HV.o.lay.q 2 rfl;have A1:∀o,(V.alloc o).cell? ⟨w.heap.size,1,none⟩=some (.int .i64 x):=HV.o.lay.cellA 1 rfl;have A2:∀o,(V.alloc o).cell? ⟨w.heap.size,2,none⟩=some (.int .i64 n2):=HV.o.lay.cellA 2 rfl;go_wp2_with(go_at_call 164;refine(kM g n₀ vps false 0 _ qs _ _ _ 2 2 [x,n2] _ (HV.o.next ((Zc _ _).alloc (Zb _) _)).wk (HV.o.next ((Zc _ _).alloc (Zb _) _)).row (by have:=HQ.o;simp;omega) HV.o.hn rfl (aM.of_own (gY V _ _)) (by simp)).mono ?_;rintro e w3 ⟨rfl,⟨vps3,q3,hb3,hr3,hq3⟩,hs3⟩;have HA3:=Za ((HV.o.next ((Zc _ _).alloc (Zb _) _)).par hs3 hb3 hr3);have HQ3:=Za hq3;clear hs3 hb3 hr3 hq3;refine aD ?_);refine aC ?_;clear a1 a2 A1 A2;have a2:=HA3.o.lay.q 2 rfl;go_wp2_with(go_at_call 164;refine(kM g n₀ vps3 false (jR [x,n2] 0) _ (qs++[q3]) _ _ _ 1 1 [n2] _ (HA3.o.next ((Zc _ _).alloc (Zb _) _)).wk (HA3.o.next ((Zc _ _).alloc (Zb _) _)).row (by have:=HQ.o;simp;omega) HA3.o.hn rfl (aM.of_own (fO w3 _)) (by simp)).mono ?_;rintro e w4 ⟨rfl,⟨vps4,q4,hb4,hr4,hq4⟩,hs4⟩;have HA4:=Za ((HA3.o.next ((Zc _ _).alloc (Zb _) _)).par hs4 hb4 hr4);have HQ4:=Za hq4;clear hs4 hb4 hr4 hq4;refine aD ?_);refine aC ?_;clear a2;go_wp2_with(go_at_call 92;refine(jD _ s _ HA4.o.sh.1 (by rw[←HM.o];omega)).mono ?_;rintro e w5 ⟨v5,rfl,hown5,hb5⟩;refine aD ?_);have HO5:=Za (show aH w5 w4.heap.size 3 .i64 v5 s from hown5);obtain⟨g5,c5,rfl,hge5,hlt5⟩:=HO5.o.at (by rw[←HM.o];omega);rw[←HM.o]at HO5;have HB5:=Za hb5;clear hown5 hb5;rw[←HM.o];obtain⟨d5,e5⟩:=HO5.o.cell 0 (by rw[←HM.o];omega);have a2:w5.cell? ⟨w.heap.size,2,none⟩=some (.int .i64 n2):=(HA4.o.next HB5.o).lay.cell 2 rfl;refine aC ?_;go_wp2_with fail;go_ret;have hO6:=HO5.o.set 0 n2;have hb6:=HB5.o.setCell (p:=⟨g5,0,none⟩) hge5 (.int .i64 n2);refine bL.yes (HA4.o.next hb6) HY.o ?_ ?_ (by simp) ?_
   ·rw[qB,qA];simp
   ·simp[HQ3.o,HQ4.o]
   ·have e:s.set 0 n2=s.take 0++[n2]:=by obtain⟨a,rfl⟩:=list1 HM.o.symm;rfl
    rw[e]at hO6;exact aM.of_own hO6
  ·have HN:=Za (show aK ⟨1,n1,n2,n3,n4,n5,n6,n7⟩ first s=none by rw[aK,if_pos rfl,if_neg (fun h=>hxn (by rw[HX.o];have:=h.2.2;rw[←HM.o]at this;exact this))]);have hxn':(x==n1)=false:=by simpa using hxn
   have hxn2:(x != n1)=true:=by simpa using hxn
   go_wp2_with fail;go_quiet(fail);go_wp2_with fail;go_ret;exact bL.no ((HA.o.next (eV _)).bad 2) (by decide) HN.o (by omega) none 0 0
 ·obtain⟨b,off,rfl,hc⟩:=HA.o.sh.1.cell 1 (by rw[←HM.o];omega);obtain⟨x,hx⟩:∃x,x=aE s 1:=⟨_,rfl⟩;rw[←hx]at hc;have HX:=Za hx;clear hx;by_cases hxn:x=n1
  ·subst hxn;have HY:=Za (show aK ⟨1,x,n2,n3,n4,n5,n6,n7⟩ first s=some (s.take (1)++[n2],[[x,n2],[n2]]) by rw[aK,if_pos rfl,if_pos ⟨by have:=HM.o;omega,by have:=HM.o;omega,by rw[←HM.o];exact HX.o.symm⟩,←HM.o]);go_wp2_with fail;go_quiet(fail);obtain⟨V,hV⟩:∃V,V=W1.drewN nq:=⟨_,rfl⟩;have HV:=Za (show eE g n₀ w.heap.size ⟨1,x,n2,n3,n4,n5,n6,n7⟩ (.slice ob nb cb) vps 0 qs (.slice (some ⟨b,off,none⟩) 2 cap) s w V by rw[hV];exact HA.o.next (eV _));rw[←hV];clear hV hc x2 f2 a0 a1 a2 a3 a4 a5 a6 a7 a8 HA;have a1:=HV.o.lay.q 1 rfl;have a2:=HV.o.lay.q 2 rfl;have A1:∀o,(V.alloc o).cell? ⟨w.heap.size,1,none⟩=some (.int .i64 x):=HV.o.lay.cellA 1 rfl;have A2:∀o,(V.alloc o).cell? ⟨w.heap.size,2,none⟩=some (.int .i64 n2):=HV.o.lay.cellA 2 rfl;go_wp2_with(go_at_call 164;refine(kM g n₀ vps false 0 _ qs _ _ _ 2 2 [x,n2] _ (HV.o.next ((Zc _ _).alloc (Zb _) _)).wk (HV.o.next ((Zc _ _).alloc (Zb _) _)).row (by have:=HQ.o;simp;omega) HV.o.hn rfl (aM.of_own (gY V _ _)) (by simp)).mono ?_;rintro e w3 ⟨rfl,⟨vps3,q3,hb3,hr3,hq3⟩,hs3⟩;have HA3:=Za ((HV.o.next ((Zc _ _).alloc (Zb _) _)).par hs3 hb3 hr3);have HQ3:=Za hq3;clear hs3 hb3 hr3 hq3;refine aD ?_);refine aC ?_;clear a1 a2 A1 A2;have a2:=HA3.o.lay.q 2 rfl;go_wp2_with(go_at_call 164;refine(kM g n₀ vps3 false (jR [x,n2] 0) _ (qs++[q3]) _ _ _ 1 1 [n2] _ (HA3.o.next ((Zc _ _).alloc (Zb _) _)).wk (HA3.o.next ((Zc _ _).alloc (Zb _) _)).row (by have:=HQ.o;simp;omega) HA3.o.hn rfl (aM.of_own (fO w3 _)) (by simp)).mono ?_;rintro e w4 ⟨rfl,⟨vps4,q4,hb4,hr4,hq4⟩,hs4⟩;have HA4:=Za ((HA3.o.next ((Zc _ _).alloc (Zb _) _)).par hs4 hb4 hr4);have HQ4:=Za hq4;clear hs4 hb4 hr4 hq4;refine aD ?_);refine aC ?_;clear a2;go_wp2_with(go_at_call 92;refine(jD _ s _ HA4.o.sh.1 (by rw[←HM.o];omega)).mono ?_;rintro e w5 ⟨v5,rfl,hown5,hb5⟩;refine aD ?_);have HO5:=Za (show aH w5 w4.heap.size 3 .i64 v5 s from hown5);obtain⟨g5,c5,rfl,hge5,hlt5⟩:=HO5.o.at (by rw[←HM.o];omega);rw[←HM.o]at HO5;have HB5:=Za hb5;clear hown5 hb5;rw[←HM.o];obtain⟨d5,e5⟩:=HO5.o.cell 1 (by rw[←HM.o];omega);have a2:w5.cell? ⟨w.heap.size,2,none⟩=some (.int .i64 n2):=(HA4.o.next HB5.o).lay.cell 2 rfl;refine aC ?_;go_wp2_with fail;go_ret;have hO6:=HO5.o.set 1 n2;have hb6:=HB5.o.setCell (p:=⟨g5,1,none⟩) hge5 (.int .i64 n2);refine bL.yes (HA4.o.next hb6) HY.o ?_ ?_ (by simp) ?_
   ·rw[qB,qA];simp
   ·simp[HQ3.o,HQ4.o]
   ·have e:s.set 1 n2=s.take 1++[n2]:=by obtain⟨a,b,rfl⟩:=pN HM.o.symm;rfl
    rw[e]at hO6;exact aM.of_own hO6
  ·have HN:=Za (show aK ⟨1,n1,n2,n3,n4,n5,n6,n7⟩ first s=none by rw[aK,if_pos rfl,if_neg (fun h=>hxn (by rw[HX.o];have:=h.2.2;rw[←HM.o]at this;exact this))]);have hxn':(x==n1)=false:=by simpa using hxn
   have hxn2:(x != n1)=true:=by simpa using hxn
   go_wp2_with fail;go_quiet(fail);go_wp2_with fail;go_ret;exact bL.no ((HA.o.next (eV _)).bad 2) (by decide) HN.o (by omega) none 0 0
 ·have HN:=Za (show aK ⟨1,n1,n2,n3,n4,n5,n6,n7⟩ first s=none by rw[aK,if_pos rfl,if_neg (by have:=HM.o;omega)]);go_wp2_with fail;go_quiet(fail);go_wp2_with fail;go_ret;exact bL.no ((HA.o.next (eV _)).bad 2) (by decide) HN.o (by omega) none 0 0
theorem IK (g n₀:Nat) (n1 n2 n3 n4 n5 n6 n7:Int) (ob:Option Addr) (nb cb:Nat) (vps:Value) (first:Bool) (nm:ByteArray) (qs:List PD) (o:Option Addr) (m cap:Nat) (s:List Int) (w:World)
  (h:fB g n₀ vps first qs (.slice o m cap) s w) (hm:m=s.length) (hnm:nm.size≤1000000):
  Calls Tryz.prog 135 #[.pointer (some ⟨g,0,none⟩),.agg #[.int .i64 10,.int .i64 n1,.int .i64 n2,.int .i64 n3,.int .i64 n4,.int .i64 n5,.int .i64 n6,.int .i64 n7,.slice ob nb cb],.slice o m cap,.string nm] w (bL g n₀ qs (aK ⟨10,n1,n2,n3,n4,n5,n6,n7⟩ first s) w):=by
 obtain⟨W0,hW0⟩:∃W0,W0=w.alloc (.cells #[.int .i64 10,.int .i64 n1,.int .i64 n2,.int .i64 n3,.int .i64 n4,.int .i64 n5,.int .i64 n6,.int .i64 n7,.slice ob nb cb] 175):=⟨_,rfl⟩;obtain⟨W1,hW1⟩:∃W1,W1=W0.setCell ⟨g,1,none⟩ (.bool false):=⟨_,rfl⟩;have hst:=h.start ⟨10,n1,n2,n3,n4,n5,n6,n7⟩ (.slice ob nb cb) hW0 hW1;have HA:=Za hst.2;have x1:=hst.1.1;have f1:=hst.1.2;have HW:=Za (Zd hW0 hW1);obtain⟨hs3,hsd,hsp⟩:=iN h.fit;have hm3:m≤3:=by omega
 have HSD:=Za (Zd hsd hsp);have HFIT:=Za h.fit;have HQ:=Za h.hq;have HM:=Za hm;have hl2':¬9223372036854775807<nm.size+2:=by omega
 rw[hW0]at x1 f1;clear h hst hW0 hW1 hsd hsp hs3 hm;have a0:=HA.o.lay.q 0 rfl;have a1:=HA.o.lay.q 1 rfl;have a2:=HA.o.lay.q 2 rfl;have a3:=HA.o.lay.q 3 rfl;have a4:=HA.o.lay.q 4 rfl;have a5:=HA.o.lay.q 5 rfl;have a6:=HA.o.lay.q 6 rfl;have a7:=HA.o.lay.q 7 rfl;have a8:=HA.o.lay.q 8 rfl;have x2:=HA.o.wk.q 2 rfl;have f2:=HA.o.wk.free 2;go_enter Tryz.func135,Tryz.ntmps135;go_upto_region 4 with(fail);rw[←HW.o.1,←HW.o.2];clear x1 f1;have HY:=Za (show aK ⟨10,n1,n2,n3,n4,n5,n6,n7⟩ first s=some ([bD s],[]) by rw[aK,if_neg (show ¬((10:Int)=1) by decide),if_neg (show ¬((10:Int)=2) by decide),if_neg (show ¬((10:Int)=8∨(10:Int)=9) by decide),if_pos rfl]);have HC:=Za (show lD s=bD s by rw[lD,if_pos HSD.o.2]);go_wp2_with(go_at_call 93;refine(qV _ s _ HA.o.sh.1 HSD.o.1 (by rw[←HM.o];omega)).mono ?_;rintro e w3 ⟨rfl,hs3⟩;rw[HC.o];have HB3:=Za (show Below W1.heap.size W1 w3 from hs3.below _);clear hs3);go_ret;refine bL.yes ((HA.o.next HB3.o).next ((Zc _ _).alloc (Zb _) _)) HY.o (by simp) (by simp) (by simp) ?_;exact aM.of_own (fO w3 _)
theorem TT (g n₀:Nat) (n1 n2 n3 n4 n5 n6 n7:Int) (ob:Option Addr) (nb cb:Nat) (vps:Value) (first:Bool) (nm:ByteArray) (qs:List PD) (o:Option Addr) (m cap:Nat) (s:List Int) (w:World) (k:Int) (hk:k≠1∧k≠2∧k≠8∧k≠9∧k≠10∧k≠11∧k≠12∧k≠13)
  (h:fB g n₀ vps first qs (.slice o m cap) s w) (hm:m=s.length) (hnm:nm.size≤1000000):
  Calls Tryz.prog 135 #[.pointer (some ⟨g,0,none⟩),.agg #[.int .i64 k,.int .i64 n1,.int .i64 n2,.int .i64 n3,.int .i64 n4,.int .i64 n5,.int .i64 n6,.int .i64 n7,.slice ob nb cb],.slice o m cap,.string nm] w (bL g n₀ qs (aK ⟨k,n1,n2,n3,n4,n5,n6,n7⟩ first s) w):=by
 obtain⟨W0,hW0⟩:∃W0,W0=w.alloc (.cells #[.int .i64 k,.int .i64 n1,.int .i64 n2,.int .i64 n3,.int .i64 n4,.int .i64 n5,.int .i64 n6,.int .i64 n7,.slice ob nb cb] 175):=⟨_,rfl⟩;obtain⟨W1,hW1⟩:∃W1,W1=W0.setCell ⟨g,1,none⟩ (.bool false):=⟨_,rfl⟩;have hst:=h.start ⟨k,n1,n2,n3,n4,n5,n6,n7⟩ (.slice ob nb cb) hW0 hW1;have HA:=Za hst.2;have x1:=hst.1.1;have f1:=hst.1.2;have HW:=Za (Zd hW0 hW1);obtain⟨hs3,hsd,hsp⟩:=iN h.fit;have hm3:m≤3:=by omega
 have HSD:=Za (Zd hsd hsp);have HFIT:=Za h.fit;have HQ:=Za h.hq;have HM:=Za hm;have hl2':¬9223372036854775807<nm.size+2:=by omega
 rw[hW0]at x1 f1;clear h hst hW0 hW1 hsd hsp hs3 hm;have a0:=HA.o.lay.q 0 rfl;have a1:=HA.o.lay.q 1 rfl;have a2:=HA.o.lay.q 2 rfl;have a3:=HA.o.lay.q 3 rfl;have a4:=HA.o.lay.q 4 rfl;have a5:=HA.o.lay.q 5 rfl;have a6:=HA.o.lay.q 6 rfl;have a7:=HA.o.lay.q 7 rfl;have a8:=HA.o.lay.q 8 rfl;have x2:=HA.o.wk.q 2 rfl;have f2:=HA.o.wk.free 2;go_enter Tryz.func135,Tryz.ntmps135;go_upto_region 4 with(fail);rw[←HW.o.1,←HW.o.2];clear x1 f1;obtain⟨k1,k2,k8,k9,k10,k11,k12,k13⟩:=hk;have HY:=Za (show aK ⟨k,n1,n2,n3,n4,n5,n6,n7⟩ first s=some (s,[]) by rw[aK,if_neg k1,if_neg k2,if_neg (by rintro(h|h);exact k8 h;exact k9 h),if_neg k10,if_neg k11,if_neg k12]);go_wp2_with(go_at_call 92;refine(jD _ s _ HA.o.sh.1 (by rw[←HM.o];omega)).mono ?_;rintro e w5 ⟨v5,rfl,hown5,hb5⟩;have HO5:=Za (show aH w5 W1.heap.size 3 .i64 v5 s from hown5);obtain⟨o5,c5,rfl⟩:=aJ hown5;have HB5:=Za hb5;clear hown5 hb5);go_ret;exact bL.yes (HA.o.next HB5.o) HY.o (by simp) (by simp) (by simp) (aM.of_own HO5.o)
theorem RC (g n₀:Nat) (n1 n2 n3 n4 n5 n6 n7:Int) (ob:Option Addr) (nb cb:Nat) (vps:Value) (first:Bool) (nm:ByteArray) (qs:List PD) (o:Option Addr) (m cap:Nat) (s:List Int) (w:World)
  (h:fB g n₀ vps first qs (.slice o m cap) s w) (hm:m=s.length) (hnm:nm.size≤1000000):
  Calls Tryz.prog 135 #[.pointer (some ⟨g,0,none⟩),.agg #[.int .i64 11,.int .i64 n1,.int .i64 n2,.int .i64 n3,.int .i64 n4,.int .i64 n5,.int .i64 n6,.int .i64 n7,.slice ob nb cb],.slice o m cap,.string nm] w (bL g n₀ qs (aK ⟨11,n1,n2,n3,n4,n5,n6,n7⟩ first s) w):=by
 obtain⟨W0,hW0⟩:∃W0,W0=w.alloc (.cells #[.int .i64 11,.int .i64 n1,.int .i64 n2,.int .i64 n3,.int .i64 n4,.int .i64 n5,.int .i64 n6,.int .i64 n7,.slice ob nb cb] 175):=⟨_,rfl⟩;obtain⟨W1,hW1⟩:∃W1,W1=W0.setCell ⟨g,1,none⟩ (.bool false):=⟨_,rfl⟩;have hst:=h.start ⟨11,n1,n2,n3,n4,n5,n6,n7⟩ (.slice ob nb cb) hW0 hW1;have HA:=Za hst.2;have x1:=hst.1.1;have f1:=hst.1.2;have HW:=Za (Zd hW0 hW1);obtain⟨hs3,hsd,hsp⟩:=iN h.fit;have hm3:m≤3:=by omega
 have HSD:=Za (Zd hsd hsp);have HFIT:=Za h.fit;have HQ:=Za h.hq;have HM:=Za hm;have hl2':¬9223372036854775807<nm.size+2:=by omega
 rw[hW0]at x1 f1;clear h hst hW0 hW1 hsd hsp hs3 hm;have a0:=HA.o.lay.q 0 rfl;have a1:=HA.o.lay.q 1 rfl;have a2:=HA.o.lay.q 2 rfl;have a3:=HA.o.lay.q 3 rfl;have a4:=HA.o.lay.q 4 rfl;have a5:=HA.o.lay.q 5 rfl;have a6:=HA.o.lay.q 6 rfl;have a7:=HA.o.lay.q 7 rfl;have a8:=HA.o.lay.q 8 rfl;have x2:=HA.o.wk.q 2 rfl;have f2:=HA.o.wk.free 2;go_enter Tryz.func135,Tryz.ntmps135;go_upto_region 4 with(fail);rw[←HW.o.1,←HW.o.2];clear x1 f1;cases first with
 |false=>
  have HN:=Za (show aK ⟨11,n1,n2,n3,n4,n5,n6,n7⟩ false s=none by rw[aK,if_neg (show ¬((11:Int)=1) by decide),if_neg (show ¬((11:Int)=2) by decide),if_neg (show ¬((11:Int)=8∨(11:Int)=9) by decide),if_neg (show ¬((11:Int)=10) by decide),if_pos rfl,if_neg (fun h=>Bool.noConfusion h.1)]);go_wp2_with fail;go_ret;exact bL.no (HA.o.bad 2) (by decide) HN.o (by omega) none 0 0
 |true=>
  by_cases hm1:m=1
  ·subst hm1;obtain⟨b,off,rfl,hc⟩:=HA.o.sh.1.cell 0 (by rw[←HM.o];omega);rw[Nat.add_zero]at hc;obtain⟨x,hx⟩:∃x,x=aE s 0:=⟨_,rfl⟩;rw[←hx]at hc;have HY:=Za (show aK ⟨11,n1,n2,n3,n4,n5,n6,n7⟩ true s=some ([x,n2],[[n1,n2]]) by rw[aK,if_neg (show ¬((11:Int)=1) by decide),if_neg (show ¬((11:Int)=2) by decide),if_neg (show ¬((11:Int)=8∨(11:Int)=9) by decide),if_neg (show ¬((11:Int)=10) by decide),if_pos rfl,if_pos ⟨rfl,HM.o.symm⟩,hx]);have HX:=Za hx;clear hx hc a3 a4 a5 a6 a7 a8;have A1:∀o,(W1.alloc o).cell? ⟨w.heap.size,1,none⟩=some (.int .i64 n1):=HA.o.lay.cellA 1 rfl;have A2:∀o,(W1.alloc o).cell? ⟨w.heap.size,2,none⟩=some (.int .i64 n2):=HA.o.lay.cellA 2 rfl;go_wp2_with(go_at_call 164;refine(kM g n₀ vps false 0 _ qs _ _ _ 2 2 [n1,n2] _ (HA.o.next ((Zc _ _).alloc (Zb _) _)).wk (HA.o.next ((Zc _ _).alloc (Zb _) _)).row (by have:=HQ.o;simp;omega) HA.o.hn rfl (aM.of_own (gY W1 _ _)) (by simp)).mono ?_;rintro e w3 ⟨rfl,⟨vps3,q3,hb3,hr3,hq3⟩,hs3⟩;have HA3:=Za ((HA.o.next ((Zc _ _).alloc (Zb _) _)).par hs3 hb3 hr3);have HQ3:=Za hq3;clear hs3 hb3 hr3 hq3;refine aD ?_);refine aC ?_;clear a0 a1 a2 A1 A2 x2 f2;have a2:=HA3.o.lay.q 2 rfl;obtain⟨b',off',hbo,hc⟩:=HA3.o.sh.1.cell 0 (by rw[←HM.o];omega);cases hbo;rw[←HX.o,Nat.add_zero]at hc;go_wp2_with fail;go_region
   all_goals
    go_wp2_with fail;go_ret;refine bL.yes (HA3.o.next ((Zc _ _).drew.alloc (Zb _) _)) HY.o ?_ ?_ (by simp) (aM.of_own (gY _ _ _))
    ·rw[qA];simp
    ·simp[HQ3.o]
  ·have hne:((m:Int) != 1)=true:=by simp;omega
   have HN:=Za (show aK ⟨11,n1,n2,n3,n4,n5,n6,n7⟩ true s=none by rw[aK,if_neg (show ¬((11:Int)=1) by decide),if_neg (show ¬((11:Int)=2) by decide),if_neg (show ¬((11:Int)=8∨(11:Int)=9) by decide),if_neg (show ¬((11:Int)=10) by decide),if_pos rfl,if_neg (fun h=>hm1 (HM.o.trans h.2))]);go_wp2_with fail;go_ret;exact bL.no (HA.o.bad 2) (by decide) HN.o (by omega) none 0 0
mutual
def kX (left:Int):aB→Bool
 |.mk _ b=>decide (b.length=0) || (decide (0≤left-1)&&decide (b.length≤64)&&iS (left-1) b)
def iS (left:Int):List aB→Bool
 |[]=>true
 |l::r=>kX left l&&iS left r
end
def fY (left:Int) (ls:List aB):Bool:=decide (0≤left)&&decide (ls.length≤64)&&iS left ls
theorem zG (left:Int) (l:aB):kX left l=(decide (l.body.length=0) || fY (left-1) l.body):=by
 cases l with
 |mk n b=>rw[kX,aB.body,fY]
theorem QO (left:Int) (ls:List aB) (h:∀j (hj:j<ls.length),kX left ls[j]=true):iS left ls=true:=by
 induction ls with
 |nil=>rw[iS]
 |cons l r ih=>
  rw[iS,Bool.and_eq_true];exact⟨h 0 (by simp),ih fun j hj=>h (j+1) (by simpa using hj)⟩
theorem EO (left:Int) (ls:List aB) (k:Nat) (hk:k<ls.length) (h:kX left ls[k]=false):iS left ls=false:=by
 induction ls generalizing k with
 |nil=>simp at hk
 |cons l r ih=>
  rw[iS,Bool.and_eq_false_iff];cases k with
  |zero=>exact .inl h
  |succ k=>exact .inr (ih k (by simpa using hk) h)
def rO (ls:List aB):Prop:=∀(left:Int) (v:Value) (w:World),bF w v ls→ls.length≤140737488351232→-1≤left∧left≤4→
 Calls Tryz.prog 107 #[v,.int .i64 left] w fun e w'=>e=.returned (.bool (fY left ls))∧w=w'
theorem CN (ls:List aB) (hall:∀l∈ls,rO l.body):rO ls:=by
 intro left v w hr hl ⟨hl0,hl4⟩;obtain⟨o,cap,rfl⟩:=hr.len;have HR:=Za hr;have HALL:=Za hall;clear hr hall;obtain⟨d,hd⟩:∃d,d=fY left ls:=⟨_,rfl⟩;rw[←hd];by_cases hneg:left<0
 ·have HD:=Za (show d=false by rw[hd,fY,decide_eq_false (by omega)];rfl);clear hd;go_enter Tryz.func107,Tryz.ntmps107;go_wp2;go_ret;exact⟨aF HD.o.symm,rfl⟩
 by_cases hlong:64<ls.length
 ·have HD:=Za (show d=false by rw[hd,fY,decide_eq_false (p:=ls.length≤64) (by omega),Bool.and_false];rfl);clear hd;go_enter Tryz.func107,Tryz.ntmps107;go_wp2;go_ret;exact⟨aF HD.o.symm,rfl⟩
 have HD:=Za (show d=iS left ls by rw[hd,fY,decide_eq_true (by omega),decide_eq_true (by omega)];rfl);clear hd;go_enter Tryz.func107,Tryz.ntmps107;go_wp2;go_loopw[5] (fun i wr=>∃(k:Nat),k≤ls.length∧i=.int .i64 k∧Hid (∀j (hj:j<ls.length),j<k→kX left ls[j]=true)∧Hid (wr=w)) (fun i _=>ls.length-(intOf i).toNat)
 case atStart=>exact⟨0,Ze _,rfl,Za (fun j hj h=>absurd h (Nat.not_lt_zero j)),Za rfl⟩
 case round=>
  obtain⟨k,hk,rfl,HA,HE⟩:=hrel;rw[HE.o];by_cases hlt:k<ls.length
  ·obtain⟨b,off,vb,rfl,hcell,hlb,hlim⟩:=HR.o.lay k hlt;have c8:w.cell? ⟨b,off+k*9+8,none⟩=some vb:=hcell 8 _ rfl;have HCALL:=Za (HALL.o _ (List.getElem_mem hlt) (left-1) vb w hlb hlim (by omega));have HQ:=Za (zG left ls[k]);obtain⟨ob,cb,rfl⟩:=hlb.len;obtain⟨q,hq⟩:∃q:Nat,q=(ls[k]).body.length:=⟨_,rfl⟩;rw[←hq]at c8 HCALL hlim;have HQL:=Za hq;clear hcell hlb hq;by_cases hq0:0<q
   ·have HQ2:=Za (show kX left ls[k]=fY (left-1) (ls[k]).body by rw[HQ.o,←HQL.o,decide_eq_false (by omega)];rfl);go_wp2_with fail;refine HCALL.o.mono ?_;rintro e w' ⟨rfl,rfl⟩;cases hres:fY (left-1) (ls[k]).body with
    |true=>
     have HRES:=Za (HQ2.o.trans hres);clear hres;go_wp2;go_roundw
     case rel=>exact⟨k+1,by omega,by go_num,Za (fun j hj h=>by
      by_cases e:j=k
      ·subst e;exact HRES.o
      ·exact HA.o j hj (by omega)),(by first|exact Za trivial|exact Za rfl)⟩
     case measure=>simp[intOf];omega
    |false=>
     have HRES:=Za (HD.o.trans (EO left ls k hlt (HQ2.o.trans hres)));clear hres;go_wp2;go_ret;exact⟨aF HRES.o.symm,rfl⟩
   ·obtain rfl:q=0:=by omega
    have HRES:=Za (show kX left ls[k]=true by rw[HQ.o,←HQL.o,decide_eq_true rfl];rfl);go_wp2;go_roundw
    case rel=>exact⟨k+1,by omega,by go_num,Za (fun j hj h=>by
      by_cases e:j=k
      ·subst e;exact HRES.o
      ·exact HA.o j hj (by omega)),(by first|exact Za trivial|exact Za rfl)⟩
    case measure=>simp[intOf];omega
  ·obtain rfl:k=ls.length:=by omega
   have HY:=Za (HD.o.trans (QO left ls fun j hj=>HA.o j hj hj));go_wp2;go_ret;exact⟨aF HY.o.symm,rfl⟩
theorem MU:∀l:aB,rO l.body:=aB.ind fun n body h=>CN body h
theorem M7 (ls:List aB):rO ls:=CN ls fun l _=>MU l
end Go.Proofs.YtjhkdocidcfpdaaGreatDoor
namespace Go.Proofs.YtjhkdocidcfpdaaGreatDoor
open Go.RowKit Go.ChangeShapes Go.WideShapes
def eI {H:Type} (enc:TypeId×Value→H) (P:Program) (w:World) (fuel:Nat) (t:TypeId) (cs:List Value):Prop:=
 ∃(d:DataW H) (pl:List MemPlace),DataW.trod enc P w 0 (fun _=>true) true fuel t cs=some (d,pl)∧∀n∈d.weights P t,n≤reachBytes
theorem RB.fuel {H:Type} {enc:TypeId×Value→H} {P:Program} {w:World} {t:TypeId} {cs:List Value} (h:RB enc P w t cs):∃f,eI enc P w f t cs:=h
theorem eI.rb {H:Type} {enc:TypeId×Value→H} {P:Program} {w:World} {f:Nat} {t:TypeId} {cs:List Value} (h:eI enc P w f t cs):RB enc P w t cs:=⟨f,h⟩
theorem eI.slice {H:Type} {enc:TypeId×Value→H} {P:Program} {w:World} {f:Nat} {t e:TypeId} {v:Value} (h:eI enc P w f t [v]) (ht:P.underlying t=some (.slice e)):
  ∃o len cap,v=.slice o len cap∧len*P.bytesOf e≤reachBytes∧len≤cap∧∀i,i<len→∃n,n<f∧∃a cs,o=some a∧w.cells? 0 (a.add (i*P.cellsOf e)) (P.cellsOf e)=some cs∧eI enc P w n e cs:=by
 obtain⟨d,pl,h,hw⟩:=h;rcases DataW.trod_slice ht h with⟨hcs,_⟩|⟨a,len,cap,elems,rest,n,rfl,hcs,hx,hb,hl,hm,hlen,hel,_,_⟩
 ·simp at hcs;subst hcs;exact⟨none,0,0,rfl,by simp,by simp,fun i hi=>absurd hi (Nat.not_lt_zero _)⟩
 ·simp at hcs;subst hcs;injection hx with hx1 hx2;subst hx1;have hw':∀m∈(DataW.slice (elems.map (·.1)) (rest.map (·.1))).weights P t,m≤reachBytes:=hw;simp only[DataW.weights,ht]at hw';refine⟨some a,len,cap,rfl,?_,hl,fun i hi=>?_⟩
  ·have:=hw' ((elems.length+rest.length)*P.bytesOf e) (by simp);exact Nat.le_trans (Nat.mul_le_mul_right _ (by omega)) this
  ·have hk:=hel i hi;have hi':i<elems.length:=by omega
   rw[List.getElem?_eq_getElem hi',Option.bind_eq_some_iff]at hk;obtain⟨cs,h1,h2⟩:=hk;refine⟨n,Nat.lt_succ_self n,a,cs,rfl,h1,elems[i].1,elems[i].2,h2,fun m hm2=>hw' m ?_⟩;simp only[List.mem_cons,List.mem_append];exact .inr (.inl (uY (List.mem_map.2 ⟨elems[i],List.getElem_mem hi',rfl⟩) m hm2))
theorem eI.field {H:Type} {enc:TypeId×Value→H} {P:Program} {w:World} {fu:Nat} {t:TypeId} {cs:List Value} {fs:Array Field} (h:eI enc P w fu t cs) (ht:P.underlying t=some (.struct fs)):
  cs.length=P.cellsOf t∧∃n,n<fu∧∀(i:Nat) (f:Field),fs[i]?=some f→eI enc P w n f.type ((cs.drop f.offset).take (P.cellsOf f.type)):=by
 obtain⟨d,pl,h,hw⟩:=h;obtain⟨xs,n,rfl,hx,hl,hxl,hf⟩:=DataW.trod_struct ht h;refine⟨hl,n,Nat.lt_succ_self n,fun i f hi=>?_⟩;have hk:=hf i f hi;have hil:i<xs.length:=by rw[hxl];exact(Array.getElem?_eq_some_iff.1 hi).1
 rw[List.getElem?_eq_getElem hil]at hk;refine⟨xs[i].1,xs[i].2,hk,fun n hn=>hw n ?_⟩;simp only[Prod.mk.injEq]at hx;rw[hx.1];simp only[DataW.weights,ht];refine vB (j:=i) (t:=f.type) (d:=xs[i].1) ?_ ?_ n hn
 ·rw[List.getElem?_map];simp[hi]
 ·simp[List.getElem?_eq_getElem hil]
theorem eI.rows {H:Type} {enc:TypeId×Value→H} {P:Program} {w:World} {f:Nat} {t e:TypeId} {v:Value} (h:eI enc P w f t [v]) (ht:P.underlying t=some (.slice e)) (hc:0<P.cellsOf e):
  ∃o len cap,v=.slice o len cap∧len*P.bytesOf e≤reachBytes∧len≤cap∧∀i,i<len→∃n,n<f∧∃b off cs,o=some ⟨b,off,none⟩∧cs.length=P.cellsOf e∧eI enc P w n e cs∧∀j v,cs[j]?=some v→w.cell? ⟨b,off+i*P.cellsOf e+j,none⟩=some v:=by
 obtain⟨o,len,cap,rfl,hr,hlc,hel⟩:=h.slice ht;refine⟨o,len,cap,rfl,hr,hlc,fun i hi=>?_⟩;obtain⟨n,hn,a,cs,rfl,h1,h2⟩:=hel i hi;obtain⟨n0,_,a0,cs0,e0,h10,h20⟩:=hel 0 (by omega);simp at e0;subst e0;rw[Nat.zero_mul]at h10;obtain⟨b,off,ha,_⟩:=oZ h10 hc;have ha':a=⟨b,off,none⟩:=by simpa [Addr.add]using ha
 subst ha';rw[Addr.add_lit]at h1;obtain⟨b',off',ha,hl,hcc⟩:=oZ h1 hc;simp at ha;obtain⟨rfl,rfl⟩:=ha;exact⟨n,hn,b,off,cs,rfl,hl,h2,hcc⟩
theorem jL:Tryz.prog.cellsOf 3=1:=by kernel_rfl
theorem uK:Tryz.prog.bytesOf 3=8:=by kernel_rfl
theorem lX:Tryz.prog.cellsOf 2=1:=by kernel_rfl
theorem NL:Tryz.prog.bytesOf 2=8:=by kernel_rfl
theorem CK:Tryz.prog.cellsOf 40=1:=by kernel_rfl
theorem GX:Tryz.prog.bytesOf 40=8:=by kernel_rfl
theorem BG:Tryz.prog.cellsOf 175=9:=by kernel_rfl
theorem OM:Tryz.prog.bytesOf 175=88:=by kernel_rfl
theorem CA:Tryz.prog.cellsOf 100=2:=by kernel_rfl
theorem JF:Tryz.prog.bytesOf 100=48:=by kernel_rfl
theorem tT:Tryz.prog.cellsOf 30=1:=by kernel_rfl
theorem SL:Tryz.prog.cellsOf 82=1:=by kernel_rfl
theorem OH:Tryz.prog.cellsOf 39=1:=by kernel_rfl
theorem D5:Tryz.prog.cellsOf 31=1:=by kernel_rfl
theorem wT:Tryz.prog.cellsOf 36=1:=by kernel_rfl
theorem list9 {α:Type} {l:List α} (h:l.length=9):∃a b c d e f g i j,l=[a,b,c,d,e,f,g,i,j]:=match l,h with|[a,b,c,d,e,f,g,i,j],_=>⟨a,b,c,d,e,f,g,i,j,rfl⟩
theorem eI.layers {H:Type} {enc:TypeId×Value→H} {w:World} (f:Nat):∀{v:Value},eI enc Tryz.prog w f 31 [v]→∃ls,bF w v ls∧ls.length≤140737488351232:=by
 induction f using Nat.strongRecOn with
 |_ f ih=>
  intro v h;obtain⟨o,len,cap,rfl,hr,_,hel⟩:=h.rows Tryz.underlying31 (by rw[BG];omega);rw[OM]at hr;have key:∀i,i<len→∃l:aB,fH w o i l:=fun i hi=>by
   obtain⟨n,hn,b,off,cs,rfl,hl,hrb,hcell⟩:=hel i hi;rw[BG]at hl hcell;obtain⟨_,n2,hn2,hf⟩:=hrb.field Tryz.underlying175;obtain⟨v0,v1,v2,v3,v4,v5,v6,v7,v8,rfl⟩:=list9 hl;have g0:eI enc Tryz.prog w n2 3 (([v0,v1,v2,v3,v4,v5,v6,v7,v8]:List Value).drop 0 |>.take (Tryz.prog.cellsOf 3)):=hf 0 _ rfl;have g1:eI enc Tryz.prog w n2 3 (([v0,v1,v2,v3,v4,v5,v6,v7,v8]:List Value).drop 1 |>.take (Tryz.prog.cellsOf 3)):=hf 1 _ rfl;have g2:eI enc Tryz.prog w n2 3 (([v0,v1,v2,v3,v4,v5,v6,v7,v8]:List Value).drop 2 |>.take (Tryz.prog.cellsOf 3)):=hf 2 _ rfl;have g3:eI enc Tryz.prog w n2 3 (([v0,v1,v2,v3,v4,v5,v6,v7,v8]:List Value).drop 3 |>.take (Tryz.prog.cellsOf 3)):=hf 3 _ rfl;have g4:eI enc Tryz.prog w n2 3 (([v0,v1,v2,v3,v4,v5,v6,v7,v8]:List Value).drop 4 |>.take (Tryz.prog.cellsOf 3)):=hf 4 _ rfl;have g5:eI enc Tryz.prog w n2 3 (([v0,v1,v2,v3,v4,v5,v6,v7,v8]:List Value).drop 5 |>.take (Tryz.prog.cellsOf 3)):=hf 5 _ rfl;have g6:eI enc Tryz.prog w n2 3 (([v0,v1,v2,v3,v4,v5,v6,v7,v8]:List Value).drop 6 |>.take (Tryz.prog.cellsOf 3)):=hf 6 _ rfl;have g7:eI enc Tryz.prog w n2 3 (([v0,v1,v2,v3,v4,v5,v6,v7,v8]:List Value).drop 7 |>.take (Tryz.prog.cellsOf 3)):=hf 7 _ rfl;have g8:eI enc Tryz.prog w n2 31 (([v0,v1,v2,v3,v4,v5,v6,v7,v8]:List Value).drop 8 |>.take (Tryz.prog.cellsOf 31)):=hf 8 _ rfl;rw[jL]at g0 g1 g2 g3 g4 g5 g6 g7;rw[D5]at g8;obtain⟨x0,rfl,_⟩:=RB.int (v:=v0) g0.rb Tryz.underlying3;obtain⟨x1,rfl,_⟩:=RB.int (v:=v1) g1.rb Tryz.underlying3;obtain⟨x2,rfl,_⟩:=RB.int (v:=v2) g2.rb Tryz.underlying3;obtain⟨x3,rfl,_⟩:=RB.int (v:=v3) g3.rb Tryz.underlying3;obtain⟨x4,rfl,_⟩:=RB.int (v:=v4) g4.rb Tryz.underlying3;obtain⟨x5,rfl,_⟩:=RB.int (v:=v5) g5.rb Tryz.underlying3;obtain⟨x6,rfl,_⟩:=RB.int (v:=v6) g6.rb Tryz.underlying3;obtain⟨x7,rfl,_⟩:=RB.int (v:=v7) g7.rb Tryz.underlying3;obtain⟨body,⟨ob,cb,he,hb⟩,hlim⟩:=ih n2 (Nat.lt_trans hn2 hn) (v:=v8) g8;subst he;refine⟨.mk ⟨x0,x1,x2,x3,x4,x5,x6,x7⟩ body,?_⟩;rw[fH];exact⟨b,off,ob,cb,rfl,hlim,fun j u hj=>hcell j u hj,hb⟩
  obtain⟨fn,hfn⟩:=Deep.choose_lt (α:=aB) key;have hll:((List.range len).map fn).length=len:=by simp
  refine⟨(List.range len).map fn,⟨o,cap,by rw[hll],cO.mk _ fun k hk=>?_⟩,by unfold reachBytes at hr;rw[hll];omega⟩;have hk':k<len:=by rw[hll]at hk;exact hk
  have:((List.range len).map fn)[k]=fn k:=by simp
  rw[this,Nat.zero_add];exact hfn k hk'
theorem RB.layers {H:Type} {enc:TypeId×Value→H} {w:World} {v:Value} (h:RB enc Tryz.prog w 31 [v]):∃ls,bF w v ls∧ls.length≤140737488351232:=by obtain⟨f,h⟩:=h.fuel;exact eI.layers f h
theorem RB.tensors {H:Type} {enc:TypeId×Value→H} {w:World} {v:Value} (h:RB enc Tryz.prog w 36 [v]):∃ts,aY w v ts∧eO ts:=by
 obtain⟨o,len,cap,rfl,hr,hel⟩:=h.rows Tryz.underlying36 (by rw[CA];omega);rw[JF]at hr;have key:∀i,i<len→∃t:aO,nG w o i t∧t.Lim:=fun i hi=>by
  obtain⟨b,off,cs,rfl,hl,hrb,hcell⟩:=hel i hi;rw[CA]at hl hcell;obtain⟨_,hf⟩:=hrb.field Tryz.underlying100;obtain⟨v0,v1,rfl⟩:=pN hl;have g0:RB enc Tryz.prog w 30 (([v0,v1]:List Value).drop 0 |>.take (Tryz.prog.cellsOf 30)):=hf 0 _ rfl;have g1:RB enc Tryz.prog w 82 (([v0,v1]:List Value).drop 1 |>.take (Tryz.prog.cellsOf 82)):=hf 1 _ rfl;rw[tT]at g0;rw[SL]at g1;obtain⟨xs,a1,_,c1⟩:=RB.ints (v:=v0) g0 Tryz.underlying30 Tryz.underlying3 jL;obtain⟨ys,a2,_,c2⟩:=RB.ints (v:=v1) g1 Tryz.underlying82 Tryz.underlying2 lX;rw[uK]at c1;rw[NL]at c2;unfold reachBytes at c1 c2;refine⟨⟨xs,ys⟩,⟨b,off,_,_,rfl,?_,?_,a1,a2⟩,by show xs.length≤_;omega,by show ys.length≤_;omega⟩
  ·have:=hcell 0 _ rfl;rwa [Nat.add_zero]at this
  ·exact hcell 1 _ rfl
 obtain⟨f,hf⟩:=Deep.choose_lt (α:=aO) key;have hll:((List.range len).map f).length=len:=by simp
 refine⟨(List.range len).map f,⟨o,cap,by rw[hll],fun i hi=>?_⟩,by unfold reachBytes at hr;rw[hll];omega,fun t ht=>?_⟩
 ·have hi':i<len:=by rw[hll]at hi;exact hi
  have:aQ ((List.range len).map f) i=f i:=by rw[fE _ _ hi];simp
  rw[this];exact(hf i hi').1
 ·obtain⟨i,hi,rfl⟩:=List.mem_map.1 ht;exact(hf i (List.mem_range.1 hi)).2
end Go.Proofs.YtjhkdocidcfpdaaGreatDoor
