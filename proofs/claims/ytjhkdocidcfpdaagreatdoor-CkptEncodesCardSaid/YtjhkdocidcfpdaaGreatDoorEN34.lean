/- A part of the proof. -/
import Derived.Test.YtjhkdocidcfpdaaGreatDoorEN33
set_option linter.unusedVariables false
set_option linter.unusedSimpArgs false
set_option maxRecDepth 100000
set_option maxHeartbeats 16000000
open List renaming length_append → Zl
namespace Go.Proofs.YtjhkdocidcfpdaaGreatDoor
open Go.RowKit Go.Shelf Go
attribute [local go_sem] Oper.semAt_some
def kY (B:Nat) (pre:List (Fin 256)) (W:World):Prop:=
 ∃cur:Array Value,W.heap[B]?=some (.cells cur 92 (0,0))/\cur.size=256/\∀k∈pre,cur[k.1]?=some (.int .u32 (kX k.1:Nat))
theorem QZ (B:Nat):Own (kY B):=fun s W W' row hs hg hr=>by
 obtain⟨cur,h1,h2⟩:=hs;exact⟨cur,(grownBy_keeps_cells hg hr h1 rfl).trans h1,h2⟩
theorem PC (w:World):kY w.heap.size [] (w.alloc (.cells Tryz.zeroCells92 92)):=
 ⟨_,World.alloc_heap_new w _,by kernel_rfl,fun _ h=>by cases h⟩
theorem kY.cell {B:Nat} {pre:List (Fin 256)} {W:World} (h:kY B pre W) (j:Nat) (hj:j<256):
  ∃v,W.cell? ⟨B,j,none⟩=some v/\W.frozen? ⟨B,j,none⟩=false:=by
 obtain⟨cur,h1,h2,_⟩:=h;refine⟨cur[j],?_,?_⟩
 ·rw[cell_of_row W B j cur _ _ h1];exact Array.getElem?_eq_getElem (by omega)
 ·simp[World.frozen?,h1]
theorem kY.read {B:Nat} {W:World} (h:kY B (List.finRange 256) W) (j:Nat) (hj:j<256):
  W.cell? ⟨B,j,none⟩=some (.int .u32 (kX j:Nat)):=by obtain⟨cur,h1,h2,h3⟩:=h;rw[cell_of_row W B j cur _ _ h1];exact h3 ⟨j,hj⟩ (List.mem_finRange _)
theorem kY.set {B:Nat} {pre:List (Fin 256)} {W:World} (h:kY B pre W) (x:Fin 256):
  kY B (pre++[x]) (W.setCell ⟨B,x.1,none⟩ (.int .u32 (kX x.1:Nat))):=by
 obtain⟨cur,h1,h2,h3⟩:=h;refine⟨cur.setIfInBounds x.1 (.int .u32 (kX x.1:Nat)),?_,by simpa using h2,fun k hk=>?_⟩
 ·simp[World.setCell,Array.getElem?_modify,h1]
 ·rw[Array.getElem?_setIfInBounds];have:=x.2;by_cases e:x=k
  ·subst e;simp[h2]
  ·rw[if_neg (fun he=>e (Fin.ext he))];rcases List.mem_append.1 hk with hk|hk
   ·exact h3 k hk
   ·exact absurd (List.mem_singleton.1 hk).symm e
theorem VO (v:Value) (xs:List Int) (w:World) (hr:Rd w .u8 v xs) (hw:Wf .u8 xs) (hl:xs.length<=140737488351232):
  CallsIn Fence.wide 9 Tryz.prog 13 #[v] w fun e w'=>e=.returned (.int .u32 (iV xs:Nat))/\Below w.heap.size w w':=by
 obtain⟨o,cap,rfl,hc⟩:=hr;have M:=Za hc;clear hc;refine callsIn_of_wp_marks Tryz.func13 rfl trivial ?_ rfl;simp only[Tryz.ntmps13,List.size_toArray,List.length_cons,List.length_nil,Nat.reduceAdd,Nat.reduceSub,Array.replicate_succ,Array.replicate_zero,List.push_toArray,List.append_toArray,List.nil_append,List.cons_append]
 gi_wp2_with (refine⟨trivial,?_⟩;gi_at_call 42;refine(SG Fence.wide 8 trivial rfl _).mono ?_;rintro e w' ⟨rfl,rfl⟩)
 refine wpIn_rangeFunc_ownF rfl (by omega) (gf:=98) (lb:=#[]) rfl trivial (enters_of Tryz.func98 (by kernel_rfl) rfl)
  (MI Fence.wide 8 trivial rfl (by omega) _) walksK_t (walksK_b (w:=w.alloc (.cells Tryz.zeroCells92 92))) (Zc _ _) (fun _=>rfl)
  (fun pre W=>kY w.heap.size pre W/\Below w.heap.size w W)
  (fun _ _ _=>False)
  (OwnFrom.and (Own.from (QZ _) _) (ownFrom_below (Zb _) (by simp)))
  (fun _ _ _ _ _ h _ _=>h)
  ⟨PC w,(Zc _ _).alloc (Zb _) _⟩
  (fun x=>{tmps:=#[.slice o xs.length cap,undef,.int .u32 0,.pointer (some ⟨w.heap.size,0,none⟩),.int .i64 (x.1:Nat),.int .u32 (kX x.1:Nat),undef,undef,undef,.func (.func 98) #[] #[],.int .i64 (x.1:Nat),.int .u32 (kX x.1:Nat),undef,undef,undef,undef,undef,undef,undef,undef,undef,undef,undef,undef,undef,undef,undef,undef,undef,undef,undef,undef,undef],defers:=[]}) ?assign ?body ?done ?stop
 case assign=>
  intro l x W K hK
  gi_wp2
  exact hK
 case body=>
  rintro l pre x W ⟨C,hB⟩ _;obtain⟨old,ho,hf⟩:=C.cell x.1 x.2;have hx:=x.2;have H:=Za C;have G:=Za hB;clear C hB
  gi_wp2
  exact⟨KeepsOthers.setCell _ _ _,KeepsWalks.setCell _ _ _,H.o.set x,G.o.setCell (p:=⟨w.heap.size,x.1,none⟩) (Zb _) _⟩
 case done=>
  rintro D ys W hD rfl ⟨C,hB⟩ hK;rw[PE]at C;have H:=Za C;have G:=Za hB;have J:=Za hK;have N:=Za hD;have I:=Za hw;clear C hB hK hD hw
  gi_wp2
  gi_loop [6,17] (fun s i=>∃k:Nat,k<=xs.length/\i=.int .i64 k/\s=.int .u32 (hO 4294967295 (xs.take k):Nat)) (fun _ i=>xs.length-(intOf i).toNat)
  case atStart=>exact⟨0,by omega,rfl,rfl⟩
  case round=>
   obtain⟨k,hk,rfl,rfl⟩:=hrel;by_cases E:k<xs.length
   ·obtain⟨b,off,rfl,A⟩:=M.o k E;have hcell':=(G.o.cell (p:=⟨b,off+k,none⟩) (aP A)).trans A;clear A;have hc:=kQ (I.o.nth k E);have hS:hO 4294967295 (xs.take k)<4294967296:=rN _ _ (by omega) fun x hx=>kQ (I.o.take k x hx);obtain⟨S,F⟩:=Zx (hO 4294967295 (xs.take k));rw[<-F]at hS ⊢;have O:=Za F;clear F;obtain⟨j,B⟩:=Zx ((S%256)^^^(aF xs k).toNat);have hj:j<256:=by rw[B];exact Nat.xor_lt_two_pow (n:=8) (by omega) (by omega)
    have ht:bits BinOp.xor IntKind.u8 ((S:Int)%256) (aF xs k)=(j:Int):=by rw[u8_xor _ _ (by omega) (by omega) hc.1 hc.2,B];congr 1
    have hx:bits BinOp.xor IntKind.u32 ((S:Int) / 256) (kX j:Nat)=(oY S (aF xs k).toNat:Nat):=by have:=ER j hj;rw[show((S:Int) / 256)=((S / 256:Nat):Int)from by omega,u32_xor_nat _ _ (by omega) this,oY,<-B]
    have P:=Za B;clear B;have L:=H.o.read j hj
    gi_wp2
    go_round
    case rel=>exact⟨k+1,by omega,by go_num,by rw[fG xs k E,FY,<-O.o]⟩
    case measure=>simp[intOf];omega
   ·obtain rfl:k=xs.length:=by omega
    have hS:hO 4294967295 xs<4294967296:=rN _ _ (by omega) fun x hx=>kQ (I.o x hx);have he:bits BinOp.xor IntKind.u32 IntKind.u32.max ↑(hO 4294967295 xs)=((iV xs:Nat):Int):=by
     show bits BinOp.xor IntKind.u32 ((4294967295:Nat):Int) _=_
     rw[u32_xor_nat _ _ (by omega) hS,Nat.xor_comm];rfl
    gi_wp2
    refine⟨by simp,.inl ⟨_,_,rfl,run_takeDeferred J.o,?_⟩⟩;refine⟨_,results_tmp rfl _ _ _,rfl,?_⟩;exact G.o.trans (belowK_b (w:=w) (Zb _) W D _ _ (by have:=N.o;simp at this;omega) J.o rfl rfl)
 case stop=>
  rintro D c pre W _ _ h _;exact h.elim
structure pC (s:aT):Prop where
 d:s.d.input.length<=1000/\aS s.d.lays<=1000
 ps:wt s.ps<=300/\s.ps.length<=300
 m:wt s.m.m<=300/\s.m.m.length<=300
 v:wt s.m.v<=300/\s.m.v.length<=300
 r:s.r.script.length<=5000
 c:s.c.order.length<=1100
theorem JS (s:aT) (vi vl vp vm vv vr vc:Value) (w:World) (hr:dN w s vi vl vp vm vv vr vc):
  Calls Tryz.prog 17 #[.agg (cG s vi vl vp vm vv vr vc)] w fun e w'=>wO (pC s) e/\Below w.heap.size w w':=by
 obtain⟨o1,c1,o2,c2,o3,c3,o4,c4,o5,c5,o6,c6,o7,c7,rfl,rfl,rfl,rfl,rfl,rfl,rfl⟩:=hr.slices;have I:=Za hr;obtain⟨W,hW⟩:=Zx (w.alloc (.cells (dJ s o1 c1 o2 c2 o3 c3 o4 c4 o5 c5 o6 c6 o7 c7) 47));have J:aA W w.heap.size 47 (dJ s o1 c1 o2 c2 o3 c3 o4 c4 o5 c5 o6 c6 o7 c7):=by rw[hW];exact aA.new _ _ _
 have L:Below w.heap.size w W:=by rw[hW];exact(Zc _ _).alloc (Zb _) _
 have D:=Za (Zd J L);have T:=Za hW;simp only[cG];clear hr J L hW;go_enter Tryz.func17,Tryz.ntmps17;go_upto_region 1 with(fail);rw[<-T.o];have x1:=D.o.1.q 1 rfl;have x2:=D.o.1.q 2 rfl;have x3:=D.o.1.q 3 rfl;have x13:=D.o.1.q 13 rfl;have x14:=D.o.1.q 14 rfl;have x15:=D.o.1.q 15 rfl;have x19:=D.o.1.q 19 rfl;have x24:=D.o.1.q 24 rfl;go_wp2_with(go_at_call 52;refine(K7 _ _ s.d _ (I.o.below D.o.2 (Zb _)).d).mono ?_;rintro e w1 ⟨⟨b1,rfl,H⟩,M⟩;have N:=Za H;refine aD ?_);have G:Below W.heap.size W w1:=M;have A:=Za (Zd (D.o.1.next G) (D.o.2.trans (G.mono D.o.2.size)));clear G M H;clear x1 x2 x3 x13 x14 x15 x19 x24;have x1:=A.o.1.q 1 rfl;have x2:=A.o.1.q 2 rfl;have x3:=A.o.1.q 3 rfl;have x13:=A.o.1.q 13 rfl;have x14:=A.o.1.q 14 rfl;have x15:=A.o.1.q 15 rfl;have x19:=A.o.1.q 19 rfl;have x24:=A.o.1.q 24 rfl;refine aC ?_;cases b1 with
 |true=>
  go_wp2;go_ret;exact⟨⟨true,rfl,fun h=>by cases h⟩,A.o.2⟩
 |false=>
  go_wp2_with(go_at_call_of 53 o3;refine(xS _ s.ps 300 _ (I.o.below A.o.2 (Zb _)).ps I.o.lps (by omega)).mono ?_;rintro e w2 ⟨⟨b2,rfl,H⟩,F⟩;have O:=Za H;refine aD ?_);have G:Below w1.heap.size w1 w2:=F.below _;have B:=Za (Zd (A.o.1.next G) (A.o.2.trans (G.mono A.o.2.size)));clear G F H;clear x1 x2 x3 x13 x14 x15 x19 x24;have x1:=B.o.1.q 1 rfl;have x2:=B.o.1.q 2 rfl;have x3:=B.o.1.q 3 rfl;have x13:=B.o.1.q 13 rfl;have x14:=B.o.1.q 14 rfl;have x15:=B.o.1.q 15 rfl;have x19:=B.o.1.q 19 rfl;have x24:=B.o.1.q 24 rfl;refine aC ?_;cases b2 with
  |true=>
   go_wp2;go_ret;exact⟨⟨true,rfl,fun h=>by cases h⟩,B.o.2⟩
  |false=>
   go_wp2_with(go_at_call_of 53 o4;refine(xS _ s.m.m 300 _ (I.o.below B.o.2 (Zb _)).m I.o.lm (by omega)).mono ?_;rintro e w3 ⟨⟨b3,rfl,H⟩,F⟩;have P:=Za H;refine aD ?_);have G:Below w2.heap.size w2 w3:=F.below _;have C:=Za (Zd (B.o.1.next G) (B.o.2.trans (G.mono B.o.2.size)));clear G F H;clear x1 x2 x3 x13 x14 x15 x19 x24;have x1:=C.o.1.q 1 rfl;have x2:=C.o.1.q 2 rfl;have x3:=C.o.1.q 3 rfl;have x13:=C.o.1.q 13 rfl;have x14:=C.o.1.q 14 rfl;have x15:=C.o.1.q 15 rfl;have x19:=C.o.1.q 19 rfl;have x24:=C.o.1.q 24 rfl;refine aC ?_;cases b3 with
   |true=>
    go_wp2;go_ret;exact⟨⟨true,rfl,fun h=>by cases h⟩,C.o.2⟩
   |false=>
    go_wp2_with(go_at_call_of 53 o5;refine(xS _ s.m.v 300 _ (I.o.below C.o.2 (Zb _)).v I.o.lv (by omega)).mono ?_;rintro e w4 ⟨⟨b4,rfl,H⟩,F⟩;have R:=Za H;refine aD ?_);have G:Below w3.heap.size w3 w4:=F.below _;have E:=Za (Zd (C.o.1.next G) (C.o.2.trans (G.mono C.o.2.size)));clear G F H;clear x1 x2 x3 x13 x14 x15 x19 x24;have x1:=E.o.1.q 1 rfl;have x2:=E.o.1.q 2 rfl;have x3:=E.o.1.q 3 rfl;have x13:=E.o.1.q 13 rfl;have x14:=E.o.1.q 14 rfl;have x15:=E.o.1.q 15 rfl;have x19:=E.o.1.q 19 rfl;have x24:=E.o.1.q 24 rfl;refine aC ?_;cases b4 with
    |true=>
     go_wp2;go_ret;exact⟨⟨true,rfl,fun h=>by cases h⟩,E.o.2⟩
    |false=>
     by_cases g6:5000<s.r.script.length
     ·go_wp2;go_ret;exact⟨⟨_,rfl,fun h=>by first|(cases h;done)|(simp at h;omega)⟩,E.o.2⟩
     by_cases g7:1100<s.c.order.length
     ·go_wp2;go_ret;exact⟨⟨_,rfl,fun h=>by first|(cases h;done)|(simp at h;omega)⟩,E.o.2⟩
     have U:=Za (show pC s from⟨N.o (by simp),O.o (by simp),P.o (by simp),R.o (by simp),by omega,by omega⟩);go_wp2;go_ret;exact⟨⟨_,rfl,fun _=>U.o⟩,E.o.2⟩
def fE (s:aT):List Int:=gS s++aQ (iV (gS s)) 4
theorem oX (ts:List aO):(bQ ts).length<=8*wt ts:=by
 induction ts with
 |nil=>simp[bQ]
 |cons t ts ih=>
  have e:bQ (t::ts)=eG t.da++bQ ts:=rfl;have e2:wt (t::ts)=(t.da.length+t.sh.length)+wt ts:=by simp[wt]
  rw[e,Zl,lA,e2];omega
theorem F8 (s:aT):(kW s).length=12+4*s.c.order.length:=by rw[kW,Zl,Zl,Zl,cO,cO,cO,NI];omega
theorem SJ (s:aT):(lC s).length=36+8*s.r.script.length+(kW s).length:=by rw[lC,Zl,Zl,Zl,Zl,Zl,Zl,cO,cO,cO,cO,cO,lA];omega
theorem PU (s:aT):(lS s).length=(bQ s.m.m).length+(bQ s.m.v).length+(lC s).length:=by rw[lS,Zl,Zl];omega
theorem J3 (s:aT):(lY s).length=(bQ s.ps).length+20+(lS s).length:=by rw[lY,Zl,Zl,Zl,Zl,lA,lA,cO];simp only[List.length_cons,List.length_nil];omega
theorem UQ (s:aT):(mH s).length=52+(lY s).length:=by rw[mH,Zl,Zl,Zl,Zl,Zl,Zl,Zl,lA,lA,lA,lA,lA,lA,cO];simp only[List.length_cons,List.length_nil];omega
theorem O3 (s:aT):(kF s).length=2+(mH s).length:=by rw[kF,Zl,Zl,cO,cO];omega
theorem R4 (s:aT):(mF s).length=4+(dB s.d).length+(kF s).length:=by rw[mF,Zl,Zl,cO,qF];omega
theorem J5 (s:aT):(gS s).length=6+(mF s).length:=by rw[gS,Zl,Zl,Zl,cO,cO];simp only[List.length_cons,List.length_nil];omega
theorem VP {s:aT} (h:cX s=true) (hl:pC s):(gS s).length<=90000:=by have ht:=(oU (oS (mY h).1)).2.2;have h1:=oX s.ps;have h2:=oX s.m.m;have h3:=oX s.m.v;have l1:=hl.ps.1;have l2:=hl.m.1;have l3:=hl.v.1;have l4:=hl.r;have l5:=hl.c;rw[J5,R4,O3,UQ,J3,PU,SJ,F8];omega
theorem KH {s:aT} (h:cX s=true) (hl:pC s):(fE s).length<=100000:=by rw[fE,Zl,cO];have:=VP h hl;omega
theorem xE (s:aT):(fE s).take ((fE s).length-4)=gS s/\(fE s).drop ((fE s).length-4)=aQ (iV (gS s)) 4:=by
 have e:(fE s).length-4=(gS s).length:=by rw[fE,Zl,cO];omega
 rw[e,fE];exact⟨List.take_left,List.drop_left⟩
theorem lD (l:List Int):Wf .u8 (eG l):=by intro x hx;rw[eG,List.mem_flatMap]at hx;obtain⟨v,_,hv⟩:=hx;exact fX _ _ x hv
theorem SF (l:List Int):Wf .u8 (jU l):=by intro x hx;rw[jU,List.mem_flatMap]at hx;obtain⟨v,_,hv⟩:=hx;exact fX _ _ x hv
theorem uL (l:List aO):Wf .u8 (bQ l):=by intro x hx;rw[bQ,List.mem_flatMap]at hx;obtain⟨t,_,ht⟩:=hx;exact lD _ x ht
theorem dF {K:IntKind} {a b:List Int} (ha:Wf K a) (hb:Wf K b):Wf K (a++b):=fun x hx=>by
 rcases List.mem_append.1 hx with h|h
 ·exact ha x h
 ·exact hb x h
theorem KG:Wf .u8 [82,67,75,80]:=by intro x hx;simp at hx;rcases hx with rfl|rfl|rfl|rfl<;>rfl
theorem rB (s:aT):Wf .u8 (gS s):=by have h9:Wf .u8 (kW s):=dF (fX _ _) (dF (SF _) (dF (fX _ _) (fX _ _)));have h7:Wf .u8 (lC s):=dF (fX _ _) (dF (lD _) (dF (fX _ _) (dF (fX _ _) (dF (fX _ _) (dF (fX _ _) h9)))));have h5:Wf .u8 (lS s):=dF (uL _) (dF (uL _) h7);have h4:Wf .u8 (lY s):=dF (uL _) (dF (lD _) (dF (lD _) (dF (fX _ _) h5)));have h3:Wf .u8 (mH s):=dF (lD _) (dF (lD _) (dF (lD _) (dF (lD _) (dF (lD _) (dF (lD _) (dF (fX _ _) h4))))));have h2:Wf .u8 (kF s):=dF (fX _ _) (dF (fX _ _) h3);have h1:Wf .u8 (mF s):=dF (fX _ _) (dF (KF _) h2);exact dF KG (dF (fX _ _) (dF (fX _ _) h1))
theorem GH (s:aT):Wf .u8 (fE s):=dF (rB s) (fX _ _)
def mM (bs:List Int):Bool:=decide (fU (bs.drop (bs.length-4))=iV (bs.take (bs.length-4)))
theorem yC {l:List Int} (h:Wf .u8 l):∀x∈l,0<=x/\x<256:=fun x hx=>kQ (h x hx)
theorem R9 (s:aT):mM (fE s)=true:=by rw[mM,(xE s).1,(xE s).2,decide_eq_true_eq];exact EJ _ 4 (by omega) (xF _ (yC (rB s)))
theorem sC (v:Value) (xs:List Int) (w:World) (hr:Rd w .u8 v xs) (hw:Wf .u8 xs) (hl:xs.length<=140737488351232):
  Calls Tryz.prog 13 #[v] w fun e w'=>e=.returned (.int .u32 (iV xs:Nat))/\Below w.heap.size w w':=
 callsIn_wide.1 (VO v xs w hr hw hl)
theorem zI (w:World):Calls Tryz.prog 16 #[] w fun e w'=>e=.returned (.bool true)/\Below w.heap.size w w':=by have kc:=fun(w:World) (C:Array Value) (n c:Nat)=>Lib.run_convert_bytes_const (P:=Tryz.prog) w 23 5 C n c Tryz.underlying23 Tryz.underlying5;go_enter Tryz.func16,Tryz.ntmps16;go_wp2_with fail;clear kc;refine(sC _ [49,50,51,52,53,54,55,56,57] _ (Rd.new w .u8 [49,50,51,52,53,54,55,56,57] 5 9 (9,10)) (by intro x hx;simp at hx;rcases hx with rfl|rfl|rfl|rfl|rfl|rfl|rfl|rfl|rfl<;>rfl) (by simp)).mono ?_;rintro e w' ⟨rfl,hB⟩;rw[RT];have A:=Za (((Zc _ w).alloc (Zb _) _).trans (hB.mono (by simp)));clear hB;go_wp2;go_ret;exact⟨rfl,A.o⟩
structure bF (w:World) (C:Array Value) (v:Value) (L:List Int) (W:World):Prop where
 box:aA W w.heap.size 47 C
 low:Below w.heap.size w W
 own:aH W (w.heap.size+1) 5 .u8 v L
theorem bF.size {w:World} {C:Array Value} {v:Value} {L:List Int} {W:World} (h:bF w C v L W):w.heap.size+1<=W.heap.size:=h.box.lt
theorem bF.next {w W W':World} {C:Array Value} {v:Value} {L:List Int} (h:bF w C v L W) (hb:Below W.heap.size W W'):bF w C v L W':=⟨h.box.next hb,h.low.trans (hb.mono h.low.size),cI h.own hb (Zb _)⟩
theorem bF.put {w W W':World} {C:Array Value} {v v':Value} {L L':List Int} (h:bF w C v L W) (hg:cU (w.heap.size+1) v v' W W') (ho:aH W' (w.heap.size+1) 5 .u8 v' L'):bF w C v' L' W':=
 ⟨(hg.low.block w.heap.size (Nat.lt_succ_self _)).trans h.box,h.low.trans (hg.low.mono (Nat.le_succ _)),ho⟩
theorem aA.growsB {W W':World} {B g:Nat} {T:TypeId} {cs:Array Value} {v v':Value} {L:List Int} (h:aA W g T cs) (hg:cU B v v' W W') (ho:aH W B 5 .u8 v L) (hT:T≠5):aA W' g T cs:=by
 refine(hg.other g h.lt (fun e=>?_)).trans h;rcases ho.2 with⟨rfl,_⟩|⟨g',cap,cur,rfl,_,A,_⟩
 ·cases e
 ·injection e with e;simp only at e;subst e;unfold aA at h;rw[h]at A;injection A with A;injection A with _ h2;exact hT h2
theorem wX {w w1 w2:World} {B:Nat} {v v':Value} {L:List Int} (ho:aH w B 5 .u8 v L) (hb:Below w.heap.size w w1) (hB:B<=w.heap.size) (hg:w1.grownBy w2 v.ownBlock) (C:v'.ownBlock=v.ownBlock\/v'.ownBlock=some w1.heap.size):cU B v v' w w2:=
 cU.pre ⟨(Zc B w1).grown hg (Nat.le_trans hB hb.size) (fun k hk=>(ho.lt k hk).1),fun q hq D=>hg.block q hq (fun e=>D e.symm),fun g A=>by
  rcases C with h1|h1
  ·exact .inl (Eq.trans (Eq.symm h1) A)
  ·have h2:=Eq.trans (Eq.symm h1) A;right;injection h2 with h2;omega⟩ hb hB
theorem bF.grown {w W W':World} {C:Array Value} {v v':Value} {L L':List Int} (h:bF w C v L W) (hg:W.grownBy W' v.ownBlock) (ho:aH W' (w.heap.size+1) 5 .u8 v' L'):bF w C v' L' W':=
 ⟨(hg.block w.heap.size h.box.lt (fun e=>by have:=(h.own.lt _ e.symm).1;omega)).trans h.box,h.low.trans (((Zc w.heap.size W).grown hg h.low.size (fun k hk=>by have:=(h.own.lt k hk).1;omega))),ho⟩
theorem lE {w W:World} {C:Array Value} {v:Value} {L:List Int} (h:bF w C v L W) (k:Nat) (hk:k<=8) (xs:List Int) (m g:Nat) (hm:m=xs.length) (cs:Array Value) (D:cs=(xs.map (Value.int .i64)).toArray) (B:aA W g 2 cs) (hl:L.length+8*xs.length<=90000000000000):
  Calls Tryz.prog 44 #[v,.int .i64 k,.slice (some ⟨g,0,none⟩) m m] W fun e w'=>∃v',e=.returned v'/\bF w C v' (L++bC k xs) w'/\(∀(q:Nat) (T:TypeId) (ds:Array Value),T≠5->aA W q T ds->aA w' q T ds):=by
 subst hm D;have hr:Rd W .i64 (.slice (some ⟨g,0,none⟩) xs.length xs.length) xs:=⟨_,_,rfl,fun j hj=>⟨g,0,rfl,by
  have:=B.cell j (show((xs.map (Value.int .i64)).toArray)[j]?=some (.int .i64 (aF xs j)) by simp[dO xs j hj,hj]);rw[Nat.zero_add];exact this⟩⟩
 have ha:nV v (.slice (some ⟨g,0,none⟩) xs.length xs.length) xs.length:=fun b off m c e h0 A=>by
  injection e with e1;injection e1 with e1;injection e1 with e1;subst e1;rcases h.own.2 with⟨hv,_⟩|⟨g',cap,cur,hv,_,E,_⟩
  ·rw[hv]at A;cases A
  ·rw[hv]at A;injection A with A;simp only at A;subst A;unfold aA at B;rw[E]at B;injection B with B;injection B with _ h2;exact absurd h2 (by decide)
 refine(DM v _ L xs k (w.heap.size+1) W h.own hr h.size hk hl ha).mono ?_;rintro e w' ⟨v',rfl,ho,hg⟩;exact⟨v',rfl,h.put hg ho,fun q T ds hT F=>aA.growsB F hg h.own hT⟩
theorem yU {w W:World} {C:Array Value} {v:Value} {L:List Int} (h:bF w C v L W) (k:Nat) (hk:k<=8) (xs:List Int) (u:Value) (hr:Rd w .i64 u xs) (hl:L.length+8*xs.length<=90000000000000):
  Calls Tryz.prog 44 #[v,.int .i64 k,u] W fun e w'=>∃v',e=.returned v'/\bF w C v' (L++bC k xs) w'/\cU (w.heap.size+1) v v' W w':=by
 have ha:nV v u xs.length:=fun b off m c e h0 h1=>by
  have h2:=hr.lt b off m c e h0;have:=(h.own.lt b h1).1;omega
 refine(DM v u L xs k (w.heap.size+1) W h.own (hr.below h.low (Zb _)) h.size hk hl ha).mono ?_;rintro e w' ⟨v',rfl,ho,hg⟩;exact⟨v',rfl,h.put hg ho,hg⟩
theorem AA (w:World) (o:Obj) (l:List Value) (e:TypeId):∀(j:Nat) (u:Value),l[j]?=some u->((w.alloc o).alloc (.cells l.toArray e)).cell? ((⟨w.heap.size+1,0,none⟩:Addr).add j)=some u:=by have h:=eD (w.alloc o) l e (0,0);rw[World.size_alloc]at h;exact h
theorem vA (w:World) (cs:Array Value) (T:TypeId):aA (w.alloc (.cells cs T)).drew w.heap.size T cs:=aA.new w T cs
theorem tM (w:World) (cs:Array Value) (T:TypeId) (o:Obj):aA ((w.alloc (.cells cs T)).alloc o).drew w.heap.size T cs:=(aA.new w T cs).next ((Zc _ _).alloc (Zb _) _).drew
theorem rT (w:World) (cs:Array Value) (T:TypeId) (o:Obj):aA ((w.alloc o).alloc (.cells cs T)).drew (w.heap.size+1) T cs:=by have h:=aA.new (w.alloc o) T cs;rw[World.size_alloc]at h;exact h
theorem gI (w:World) (o:Obj):Below w.heap.size w (w.alloc o):=(Zc _ _).alloc (Zb _) _
theorem lI (w:World) (o o':Obj):Below w.heap.size w ((w.alloc o).alloc o').drew:=(((Zc _ _).alloc (Zb _) _).alloc (by simp) _).drew
theorem lR (w:World) (o:Obj):Below w.heap.size w (w.alloc o).drew:=((Zc _ _).alloc (Zb _) _).drew
theorem BK {w:World} {B:Nat} {v:Value} {xs:List Int} {l:List UInt8} {m:Nat} (h:w.ownsRow B 5 1 v (xs.length+m) (xs.map (Value.int .u8)++Lib.strCells ⟨l.toArray⟩)) (hm:m=l.length):aH w B 5 .u8 v (xs++iD l):=by
 have e:Lib.strCells ⟨l.toArray⟩=(iD l).map (Value.int .u8):=by simp[Lib.strCells,iD]
 rw[e]at h;exact qH h (by rw[hm,qF])
def O6 (w:World) (s:aT) (e:Ending) (w':World):Prop:=Below w.heap.size w w'/\∃v,e=.returned (.tuple #[v,.int .i64 0])/\aH w' w.heap.size 5 .u8 v (fE s)
theorem AQ {w W W':World} {C:Array Value} {v v' u:Value} {L:List Int} {e:TypeId} {sz n:Nat} {xs:List Value} (he:e≠5) (h:W.ownsRow (w.heap.size+1) e sz u n xs) (hE:bF w C v L W) (hg:cU (w.heap.size+1) v v' W W'):W'.ownsRow (w.heap.size+1) e sz u n xs:=by
 refine mW h fun g A=>?_;have G:=(h.lt g A).2;refine hg.other g G fun D=>?_;rcases hE.own.2 with⟨E,_⟩|⟨g1,cap1,cur1,E,_,H,_⟩
 ·rw[E]at D;cases D
 ·rcases h.2 with⟨F,_⟩|⟨g2,cap2,cur2,F,_,B,_⟩
  ·rw[F]at A;cases A
  ·rw[E]at D;rw[F]at A;injection D with D;injection A with A;simp only at D A;subst D A;rw[H]at B;injection B with B;injection B with _ h2;exact he h2.symm
structure j8 (w W:World) (u:Value) (ts:List aO):Prop where
 ex:∃cs,W.ownsRow (w.heap.size+1) 100 2 u ts.length cs/\∀k,k<ts.length->∃vs vd,cs[k*2]?=some vs/\cs[k*2+1]?=some vd/\Rd w .i64 vs (aR ts k).sh/\Rd w .i64 vd (aR ts k).da
theorem j8.next {w W W':World} {u:Value} {ts:List aO} (h:j8 w W u ts) (hb:Below W.heap.size W W'):j8 w W' u ts:=by obtain⟨cs,h1,h2⟩:=h.ex;exact⟨cs,cI h1 hb (Zb _),h2⟩
theorem j8.put {w W W':World} {C:Array Value} {v v' u:Value} {L:List Int} {ts:List aO} (h:j8 w W u ts) (hE:bF w C v L W) (hg:cU (w.heap.size+1) v v' W W'):j8 w W' u ts:=by obtain⟨cs,h1,h2⟩:=h.ex;exact⟨cs,AQ (by decide) h1 hE hg,h2⟩
theorem j8.slice {w W:World} {u:Value} {ts:List aO} (h:j8 w W u ts):∃o c,u=.slice o ts.length c:=by obtain⟨cs,h1,h2⟩:=h.ex;obtain⟨o,cap,hv,_⟩:=jK h1;exact⟨o,cap,hv⟩
theorem j8.tens {w W:World} {o:Option Addr} {n c:Nat} {ts:List aO} (h:j8 w W (.slice o n c) ts) (k:Nat) (hk:k<ts.length):
  ∃g vs vd,o=some ⟨g,0,none⟩/\W.cell? ⟨g,k*2,none⟩=some vs/\W.cell? ⟨g,k*2+1,none⟩=some vd/\Rd w .i64 vs (aR ts k).sh/\Rd w .i64 vd (aR ts k).da:=by
 obtain⟨cs,h1,h2⟩:=h.ex;obtain⟨vs,vd,g1,g2,g3,g4⟩:=h2 k hk;rcases h1.2 with⟨he,h0⟩|⟨g,cap',cur,he,_,hg,A,B,C,ht⟩
 ·omega
 ·injection he with e1 e2 e3;subst e1;have key:∀j u,cs[j]?=some u->W.cell? ⟨g,j,none⟩=some u:=fun j u hj=>by
   rw[cell_of_row W g j cur _ _ hg];rw[<-ht,List.getElem?_take]at hj;split at hj
   ·simpa using hj
   ·cases hj
  exact⟨g,vs,vd,rfl,key _ _ g1,key _ _ g2,g3,g4⟩
theorem IA {w W:World} (g:Nat) (v0 v1:Value) (a b:List aO) (hW:Below w.heap.size w W) (hs:w.heap.size+1<=W.heap.size) (h0:W.cell? ⟨g,0,none⟩=some v0) (h1:W.cell? ⟨g,1,none⟩=some v1) (r0:bD w v0 a) (r1:bD w v1 b) (hm:a.length+b.length<=1000000):
  Calls Tryz.prog 45 #[.slice (some ⟨g,0,none⟩) 2 2] W fun e w'=>∃v,e=.returned v/\j8 w w' v (a++b)/\Below W.heap.size W w':=by
 obtain⟨ca,A,ga⟩:=r0.cells;obtain⟨cb,hb,gb⟩:=r1.cells;refine(RG g 0 2 _ _ v0 v1 ca cb W h0 h1 (A.below hW (Zb _)) (hb.below hW (Zb _)) hm).mono ?_;rintro e w' ⟨⟨v,rfl,B⟩,C⟩;refine⟨v,rfl,⟨ca++cb,by rw[Zl];exact bY B hs,fun k hk=>?_⟩,C⟩;rw[Zl]at hk;by_cases h:k<a.length
 ·obtain⟨vs,vd,g1,g2,g3,g4⟩:=ga k h;rw[IL h];exact⟨vs,vd,by rw[List.getElem?_append_left (by rw[A.len];omega)];exact g1,by rw[List.getElem?_append_left (by rw[A.len];omega)];exact g2,g3,g4⟩
 ·obtain⟨vs,vd,g1,g2,g3,g4⟩:=gb (k-a.length) (by omega);rw[S8 (by omega) hk];refine⟨vs,vd,?_,?_,g3,g4⟩
  ·rw[List.getElem?_append_right (by rw[A.len];omega),A.len,show k*2-a.length*2=(k-a.length)*2 by omega];exact g1
  ·rw[List.getElem?_append_right (by rw[A.len];omega),A.len,show k*2+1-a.length*2=(k-a.length)*2+1 by omega];exact g2
theorem H9 {w W:World} (g:Nat) (v0 v1:Value) (a b:List Int) (hs:w.heap.size+1<=W.heap.size) (h0:W.cell? ⟨g,0,none⟩=some v0) (h1:W.cell? ⟨g,1,none⟩=some v1) (r0:Rd W .u64 v0 a) (r1:Rd W .u64 v1 b) (hm:a.length+b.length<=1000000):
  Calls Tryz.prog 46 #[.slice (some ⟨g,0,none⟩) 2 2] W fun e w'=>∃v,e=.returned v/\aH w' (w.heap.size+1) 40 .u64 v (a++b)/\Below W.heap.size W w':=by refine(M8 g 0 2 _ _ v0 v1 _ _ W h0 h1 (jA.of_rd r0) (jA.of_rd r1) hm).mono ?_;rintro e w' ⟨⟨v,rfl,A⟩,C⟩;refine⟨v,rfl,bY (B:=W.heap.size) (show aH w' W.heap.size 40 .u64 v (a++b)from ?_) hs,C⟩;rw[<-List.map_append,<-Zl]at A;exact A
theorem SW {w W:World} {C:Array Value} {v:Value} {L:List Int} (h:bF w C v L W) (n:Nat) (hn:n<18446744073709551616) (hl:L.length<=100000000000000):
  Calls Tryz.prog 47 #[v,.int .u64 n,.int .i64 8] W fun e w'=>∃v',e=.returned v'/\bF w C v' (L++aQ n 8) w'/\cU (w.heap.size+1) v v' W w':=by refine(B9 v L n 8 (w.heap.size+1) W h.own h.size hn (by omega) hl).mono ?_;rintro e w' ⟨v',rfl,ho,hg⟩;exact⟨v',rfl,h.put hg ho,hg⟩
theorem rO (a b:List aO):bQ (a++b)=bQ a++bQ b:=by rw[bQ,List.flatMap_append];rfl
theorem tU (ts:List aO) (k:Nat) (hk:k<ts.length):bQ (ts.take (k+1))=bQ (ts.take k)++bC 8 (aR ts k).da:=by
 rw[List.take_succ_eq_append_getElem hk,rO,eY _ _ hk]
 congr 1
 show bQ [ts[k]]=_
 rw[bQ,List.flatMap_cons,List.flatMap_nil,List.append_nil];rfl
theorem N1 (ts:List aO) (k:Nat):(bQ (ts.take k)).length<=(bQ ts).length:=by
 conv=>rhs;rw[<-List.take_append_drop k ts,rO,Zl]
 omega
theorem tD (ts:List aO) (k:Nat) (hk:k<ts.length):(bQ (ts.take k)).length+8*(aR ts k).da.length<=(bQ ts).length:=by have h:=N1 ts (k+1);rw[tU ts k hk,Zl,eU]at h;exact h
theorem p9 (n:Nat) (h:n<18446744073709551616):aW (n:Int)=n:=by unfold aW;omega
theorem pB {x:Int} (h0:0<=x) (h1:x<256):aQ (aW x) 1=[x]:=by obtain⟨n,rfl⟩:∃n:Nat,x=n:=⟨x.toNat,by omega⟩;rw[p9 n (by omega)];simp[aQ];omega
structure tH (s:aT):Prop where
 ps:s.ps.length<=400000/\(bQ s.ps).length<=1000000000000
 m:s.m.m.length<=400000/\(bQ s.m.m).length<=1000000000000
 v:s.m.v.length<=400000/\(bQ s.m.v).length<=1000000000000
theorem pC.fit {s:aT} (h:pC s):tH s:=by have h1:=oX s.ps;have h2:=oX s.m.m;have h3:=oX s.m.v;have:=h.ps;have:=h.m;have:=h.v;exact⟨⟨by omega,by omega⟩,⟨by omega,by omega⟩,⟨by omega,by omega⟩⟩
theorem I0 (s:aT) (hf:0<=s.f/\s.f<256) (hk:0<=s.h.kind/\s.h.kind<256) (hc:0<=s.h.sched/\s.h.sched<256) (hd:(dB s.d).length<=2600) (hr:s.r.script.length<=5000) (ho:s.c.order.length<=5000):
  ((((((((((((([82,67,75,80,1,s.f]++bC 4 [((dB s.d).length:Int)])++iD (dB s.d))++[s.h.kind,s.h.sched])++bC 8 [s.h.rate,s.h.mu,s.h.nu,s.h.eps,s.h.decay,s.h.clip])++bC 4 [s.h.every])++bQ s.ps)++bC 8 [s.m.powMu,s.m.powNu])++bC 4 [s.m.steps])++bQ (s.m.m++s.m.v))++bC 4 [(s.r.script.length:Int)])++bC 8 (s.r.script++[s.r.s0,s.r.s1,s.r.s2,s.r.s3]))++bC 4 [(s.c.order.length:Int)])++bC 4 s.c.order)++bC 4 [s.c.at_,s.c.epoch]=gS s:=by rw[gS,mF,kF,mH,lY,lS,lC,kW,pB hf.1 hf.2,pB hk.1 hk.2,pB hc.1 hc.2,rO];simp only[bC,eG,jU,List.flatMap_cons,List.flatMap_nil,List.flatMap_append,List.append_assoc,List.append_nil,p9 (dB s.d).length (by omega),p9 s.r.script.length (by omega),p9 s.c.order.length (by omega)];rfl
theorem A7 {n:Nat} {a b c d:Int} (h:gQ n a b c d=true):n<=4096:=by simp only[gQ,Bool.and_eq_true,decide_eq_true_eq]at h;exact h.1
theorem BT {W:World} {g:Nat} {T:TypeId} {cs:Array Value} {a b c d:Int} (h:aA W g T cs) (h0:cs[20]?=some (.int .u64 a)) (h1:cs[21]?=some (.int .u64 b)) (h2:cs[22]?=some (.int .u64 c)) (h3:cs[23]?=some (.int .u64 d)):Rd W .u64 (.slice (some ⟨g,20,none⟩) 4 4) [a,b,c,d]:=by
 refine⟨_,_,rfl,fun j hj=>⟨g,20,rfl,?_⟩⟩;have hj':j<4:=hj
 match j,hj' with
 |0,_=>exact h.cell 20 h0
 |1,_=>exact h.cell 21 h1
 |2,_=>exact h.cell 22 h2
 |3,_=>exact h.cell 23 h3
theorem O8 (v:Value) (bs:List Int) (n:Nat) (B:Nat) (w:World) (C:aH w B 5 .u8 v bs) (hB:B<=w.heap.size) (hn:n<18446744073709551616) (hl:bs.length<=100000000000000):
  Calls Tryz.prog 68 #[v,.int .u64 n] w fun e w'=>∃v',e=.returned v'/\aH w' B 5 .u8 v' (bs++aQ n 4)/\cU B v v' w w':=by
 obtain⟨i0,hi,E,F,G⟩:=info_parts rV;have L:=Za hn;have I:=Za C;clear hn C;go_enter Tryz.func68,Tryz.ntmps68;go_wp2_with(at_builtin;refine wpList_append_own_at _ rfl _ _ 23 rfl B 5 i0 (.int .u8 0) 1 1 Tryz.underlying23 hi E F G rfl (by decide) _ _ _ rfl (I.o.alloc _) ⟨w.heap.size,0,none⟩ 4 4 [.int .u8 ((n:Int) / 16777216%256),.int .u8 ((n:Int) / 65536%256),.int .u8 ((n:Int) / 256%256),.int .u8 ((n:Int)%256)] rfl rfl (eD _ _ _ _) (by simp[Value.oneCell']) (by unfold maxLen;omega) (by omega) (by simp;omega) ?_;intro v' w1 hown' A _ D);have he:[Value.int .u8 ((n:Int) / 16777216%256),.int .u8 ((n:Int) / 65536%256),.int .u8 ((n:Int) / 256%256),.int .u8 ((n:Int)%256)]=(aQ n 4).map (Value.int .u8):=by simp[aQ]
 rw[he]at hown';have J:=Za (show cU B v v' w w1 from wX I.o ((Zc _ _).alloc (Zb _) _) hB A D);have H:=Za (qH hown' (by rw[cO]));clear hown' A he D;go_wp2;go_ret;exact⟨_,rfl,H.o,J.o⟩
theorem kV {w W:World} {C:Array Value} {v:Value} {L:List Int} (h:bF w C v L W) (n:Nat) (hn:n<18446744073709551616) (hl:L.length<=100000000000000):
  Calls Tryz.prog 68 #[v,.int .u64 n] W fun e w'=>∃v',e=.returned v'/\bF w C v' (L++aQ n 4) w'/\cU (w.heap.size+1) v v' W w':=by refine(O8 v L n (w.heap.size+1) W h.own h.size hn hl).mono ?_;rintro e w' ⟨v',rfl,ho,hg⟩;exact⟨v',rfl,h.put hg ho,hg⟩
theorem pJ {w W:World} {C:Array Value} {v:Value} {L:List Int} (h:bF w C v L W) (n:Nat) (hn:n<18446744073709551616) (hl:L.length<=90000000000000):
  Calls Tryz.prog 69 #[v,.int .u64 n] W fun e w'=>∃v',e=.returned v'/\bF w C v' (L++aQ n 8) w'/\cU (w.heap.size+1) v v' W w':=by
 have F:=Za hn;have M:=Za h;clear hn h;go_enter Tryz.func69,Tryz.ntmps69;go_wp2_with fail;have e32:(n:Int) / 4294967296=((n / 4294967296:Nat):Int):=by omega
 rw[e32];clear e32;refine(kV M.o (n / 4294967296) (by have:=F.o;omega) (by omega)).mono ?_;rintro e w1 ⟨v1,rfl,B,D⟩;have G:=Za B;have H:=Za D;clear B D;go_wp2_with fail;refine(kV G.o n F.o (by rw[Zl,cO];omega)).mono ?_;rintro e w2 ⟨v2,rfl,A,E⟩;rw[List.append_assoc,GK n F.o]at A;have I:=Za A;have J:=Za (H.o.trans E);clear A E;go_wp2;go_ret;exact⟨_,rfl,I.o,J.o⟩
theorem bF.keep {w W W':World} {C:Array Value} {v v':Value} {L:List Int} (h:bF w C v L W) (hg:cU (w.heap.size+1) v v' W W') {q:Nat} {T:TypeId} {ds:Array Value} (hT:T≠5) (hb:aA W q T ds):aA W' q T ds:=aA.growsB hb hg h.own hT
theorem vB {w W:World} {C:Array Value} {v:Value} {L:List Int} (u:Value) (ts:List aO) (h:bF w C v L W) (hr:bD w u ts) (hl:L.length+(bQ ts).length<=50000000000000) (ht:ts.length<=1000000000) (hd:∀t∈ts,t.da.length<=1000000000000):
  Calls Tryz.prog 70 #[v,u] W fun e w'=>∃v',e=.returned v'/\bF w C v' (L++bQ ts) w'/\cU (w.heap.size+1) v v' W w':=by
 obtain⟨o,cap,rfl⟩:=hr.slice;have HR:=Za hr;have HE:=Za h;have HD:=Za hd;clear h hr hd;go_enter Tryz.func70,Tryz.ntmps70;go_wp2;go_loopw[0,5] (fun v1 i wr=>∃(k:Nat) (M:List Int),k<=ts.length/\i=.int .i64 k/\Hid (M=L++bQ (ts.take k))/\Hid (bF w C v1 M wr/\cU (w.heap.size+1) v v1 W wr)) (fun _ i _=>ts.length-(intOf i).toNat)
 case atStart=>exact⟨0,L,Ze _,rfl,Za (by simp[bQ]),Za ⟨HE.o,cU.refl _ _ _⟩⟩
 case round=>
  obtain⟨k,M,hk,rfl,P,R⟩:=hrel;obtain⟨wo,rfl⟩:=Zx wr;by_cases B:k<ts.length
  ·obtain⟨b,off,vs,vd,rfl,h1,h2,h3,h4⟩:=HR.o.tens k B;obtain⟨od,kd,rfl⟩:=aU h4;have J:=tD ts k B;have F:=tU ts k B;have T:=HD.o (aR ts k) (by rw[eY _ _ B];exact List.getElem_mem B);obtain⟨xs,N⟩:=Zx ((aR ts k).da);rw[<-N]at h2 h4 J F T;have U:=Za h4;have HY:=Za (show ∀X,Below w.heap.size w X->X.cell? ⟨b,off+k*2+1,none⟩=some (.slice od xs.length kd)from fun X hb=>(hb.cell (p:=⟨b,off+k*2+1,none⟩) (aP h2)).trans h2);have V:=Za F;have ad:M.length+8*xs.length<=60000000000000:=by rw[P.o,Zl];omega
   clear h1 h2 h3 h4 J F N;go_wp2;go_loopw[0,6] (fun v2 i wr=>∃(j:Nat) (M2:List Int),j<=xs.length/\i=.int .i64 j/\Hid (M2=M++bC 8 (xs.take j))/\Hid (bF w C v2 M2 wr/\cU (w.heap.size+1) v v2 W wr)) (fun _ i _=>xs.length-(intOf i).toNat)
   case atStart=>exact⟨0,M,Ze _,rfl,Za (by simp[bC]),R⟩
   case round=>
    obtain⟨j,M2,hj,rfl,G,D⟩:=hrel;obtain⟨wi,rfl⟩:=Zx wr;have y1:=HY.o _ D.o.1.low;by_cases H:j<xs.length
    ·obtain⟨b2,off2,rfl,hc⟩:=U.o.cell j H;have c0:=(D.o.1.low.cell (p:=⟨b2,off2+j,none⟩) (aP hc)).trans hc;obtain⟨x,hx⟩:=Zx (aF xs j);have A:=nX 8 xs j H;rw[<-hx]at c0 A;have O:=uP x;have hu:=iO x;obtain⟨n,hn⟩:=Zx (aW x);rw[<-hn]at O hu A;have Y:IntKind.u64.wrap x=(n:Int):=by rw[hn];exact kR x
     have Z:M2.length<=70000000000000:=by rw[G.o,Zl,eU,List.length_take];omega
     obtain⟨M3,I⟩:=Zx (M2++aQ n 8);have aa:=Za (show M3=M++bC 8 (xs.take (j+1)) by rw[I,G.o,A,List.append_assoc]);have E:=Za (pJ D.o.1 n hu (by omega));rw[<-I]at E;clear hc hx A O hn I Z;go_wp2_with(go_at_call 69;refine E.o.mono ?_;rintro e wm ⟨v',rfl,he,hg⟩;refine aD ?_);have ab:=Za (Zd he (D.o.2.trans hg));clear he hg E y1 c0 Y hu;refine aC ?_;go_wp2;go_roundw
     case rel=>exact⟨j+1,M3,by omega,by go_num,aa,ab⟩
     case measure=>simp[intOf];omega
    ·obtain rfl:j=xs.length:=by omega
     have ac:=Za (show M2=L++bQ (ts.take (k+1)) by rw[G.o,List.take_length,V.o,P.o,List.append_assoc]);clear H hj;go_wp2;go_roundw
     case rel=>exact⟨k+1,M2,by omega,by go_num,ac,D⟩
     case measure=>simp[intOf];omega
  ·obtain rfl:k=ts.length:=by omega
   have hM:M=L++bQ ts:=by rw[P.o,List.take_length]
   subst hM;go_wp2;go_ret;exact⟨_,rfl,R.o.1,R.o.2⟩
theorem AE (n:aE):∀l:List Nat,dS n l=cZ (l.map n.fld)
 |[]=>rfl
 |i::r=>by rw[dS,List.map_cons,cZ,AE n r]
theorem LI {n:aE} {r:bX} (h:cP n.kind=some r):kN n=jG (iS n.kind) (dK n):=by rw[kN,iS,dK,h];simp only[bX.text,jG,AE]
theorem BL:cP 13=none:=by decide
theorem NB {deep:Nat} {left k:Int} {n:aE} {body:List aB} (h:cD deep left (.mk n body)=some k):0<=left-1/\(∀x∈dK n,0<=x/\x<1000000000)/\(dK n).length<=12/\
  ((n.kind=13/\jD (.mk n body)=jG (iS n.kind) (dK n)++(cN body++[101,110,100,10])/\bS (deep+1) (left-1) body=some k)\/(n.kind≠13/\jD (.mk n body)=jG (iS n.kind) (dK n))):=by
 obtain⟨H,⟨B,_,_,hb⟩|⟨B,E,_⟩⟩:=oK h
 ·have e1:dK n=[]:=by rw[dK,B,BL]
  have e2:iS n.kind=dE:=by rw[iS,B,BL];simp
  refine⟨by omega,by rw[e1];simp,by rw[e1];simp,.inl ⟨B,?_,hb⟩⟩;rw[jD,decide_eq_true B,cond_true,e1,e2,jG,cZ];simp[dA]
 ·obtain⟨r,A,C,F,I,D⟩:=nQ E;have e1:dK n=r.at_.map n.fld:=by rw[dK,A]
  refine⟨by omega,fun x hx=>?_,?_,.inr ⟨B,?_⟩⟩
  ·rw[e1,List.mem_map]at hx;obtain⟨a,ha,rfl⟩:=hx;obtain⟨i,hi,rfl⟩:=List.getElem_of_mem ha;have hf:=qP D C i hi;have G:r.at_.getD i 0=r.at_[i]:=by simp[List.getD_eq_getElem?_getD,hi]
   rw[G]at hf;omega
  ·have:∀r∈bJ,r.at_.length<=12:=by decide
   rw[e1,List.length_map];exact this r F
  ·rw[jD,decide_eq_false B,cond_false];exact LI A
def tL (ls:List aB):Prop:=∀(deep:Nat) (left k:Int) (v:Value) (w:World),bS deep left ls=some k->0<=left->left<=64->bO w v ls->
 Calls Tryz.prog 118 #[v] w fun e w'=>e=.returned (.string ⟨(cN ls).toArray⟩)/\Below w.heap.size w w'
theorem zB (ls:List aB) (U:∀l∈ls,tL l.body):tL ls:=by
 intro deep left k0 v w F h0 bg hr;obtain⟨o,cap,rfl⟩:=hr.len;have aw:=(nS deep left k0 ls F h0).1;have ae:=pP deep left k0 ls F h0;have bh:ls.length<=64:=by omega
 have bi:(cN ls).length<=2560:=by have:=(qK deep left k0 ls F).2.2;omega
 have HR:=Za hr;have af:=Za U;have ax:=Za (vE deep left k0 ls F h0);clear hr U F aw ae;go_enter Tryz.func118,Tryz.ntmps118;go_wp2;go_loopw[3,4] (fun s i wr=>∃m:Nat,m<=ls.length/\i=.int .i64 m/\s=.string ⟨(cN (ls.take m)).toArray⟩/\Below w.heap.size w wr) (fun _ i _=>ls.length-(intOf i).toNat)
 case atStart=>exact⟨0,Ze _,rfl,rfl,Zc _ _⟩
 case round=>
  obtain⟨m,hm,rfl,rfl,hB⟩:=hrel;obtain⟨w3,rfl⟩:=Zx wr;have HB:=Za hB;clear hB;by_cases M:m<ls.length
  ·obtain⟨b,off,vb,rfl,A,G,V⟩:=(HR.o.below HB.o (Zb _)).lay m M;have H:=Za (BX ls m M);have D:=F0 ls (m+1);obtain⟨lm,j,Y,be,bf,bj⟩:=ax.o m M;have HA:=Za (af.o _ (List.getElem_mem M));rw[H.o]at D;obtain⟨acc,X⟩:=Zx (cN (ls.take m));rw[<-X]at H D ⊢;generalize ls[m]=x at A G V H D Y HA;obtain⟨n,body⟩:=x;simp only[aB.n,aB.body]at A G V HA;rw[Zl]at D;obtain⟨bk,Z,ag,B⟩:=NB Y;have c0:=A 0 _ rfl;have c1:=A 1 _ rfl;have c2:=A 2 _ rfl;have c3:=A 3 _ rfl;have c4:=A 4 _ rfl;have c5:=A 5 _ rfl;have c6:=A 6 _ rfl;have c7:=A 7 _ rfl;have c8:=A 8 _ rfl;simp only[Nat.add_zero]at c0;have ay:=Za G;obtain⟨ob,cb,rfl⟩:=G.len;have ah:=Za (show ∀W,Calls Tryz.prog 146 #[.agg #[.int .i64 n.kind,.int .i64 n.inn,.int .i64 n.o,.int .i64 n.size,.int .i64 n.stride,.int .i64 n.pad,.int .i64 n.percent,.int .i64 n.heads,.slice ob body.length cb]] W fun e w'=>(∃u,e=.returned u/\aH w' W.heap.size 3 .i64 u (dK n))/\Below W.heap.size W w' from fun W=>sZ n _ W);have ai:=Za (fun W=>wR n.kind W);obtain⟨ns,aj⟩:=Zx (dK n);obtain⟨nm,ak⟩:=Zx (iS n.kind);rw[<-aj]at ah Z ag B;rw[<-ak]at ai B;obtain⟨row,E⟩:=Zx (jG nm ns);rw[<-E]at B;have bl:acc.length+row.length<=2560:=by
    rcases B with⟨_,e,_⟩|⟨_,e⟩
    ·rw[e,Zl]at D;omega
    ·rw[e]at D;omega
   have al:=Za (fun(u:Value) (W:World) (h:Rd W .i64 u ns)=>EI nm u ns W h Z (by omega) (by rw[<-E];omega));rw[<-E]at al;obtain⟨s1,N⟩:=Zy (acc++row);have bm:s1.length<=2560:=by rw[<-N,Zl];omega
   have A1:=eW acc row s1 N (by omega);have ao:=Za (show ∀W:World,Below w3.heap.size w3 W->(W.cell? ⟨b,off+m*9,none⟩=some (.int .i64 n.kind)/\W.cell? ⟨b,off+m*9+1,none⟩=some (.int .i64 n.inn)/\W.cell? ⟨b,off+m*9+2,none⟩=some (.int .i64 n.o)/\W.cell? ⟨b,off+m*9+3,none⟩=some (.int .i64 n.size)/\W.cell? ⟨b,off+m*9+4,none⟩=some (.int .i64 n.stride)/\W.cell? ⟨b,off+m*9+5,none⟩=some (.int .i64 n.pad)/\W.cell? ⟨b,off+m*9+6,none⟩=some (.int .i64 n.percent)/\W.cell? ⟨b,off+m*9+7,none⟩=some (.int .i64 n.heads)/\W.cell? ⟨b,off+m*9+8,none⟩=some (.slice ob body.length cb))from fun W O=>⟨fY O c0,fY O c1,fY O c2,fY O c3,fY O c4,fY O c5,fY O c6,fY O c7,fY O c8⟩);have az:=Za B;have aa:=Za N;have ba:=Za D;clear A G Y X B Z ag aj ak E N D c0 c1 c2 c3 c4 c5 c6 c7 c8;go_upto_region 5 with(fail);have P:=Za (show Below w3.heap.size w3 w3.drew from Below.drew (Zc _ _))
   go_cut[3,4] (fun s i wx=>s=.string ⟨s1.toArray⟩/\i=.int .i64 m/\Below w3.heap.size w3 wx)
   case first=>
    go_region_held3 (fun w'=>w'.cell? ⟨b,off+m*9,none⟩=some (.int .i64 n.kind)/\w'.cell? ⟨b,off+m*9+1,none⟩=some (.int .i64 n.inn)/\w'.cell? ⟨b,off+m*9+2,none⟩=some (.int .i64 n.o)/\w'.cell? ⟨b,off+m*9+3,none⟩=some (.int .i64 n.size)/\w'.cell? ⟨b,off+m*9+4,none⟩=some (.int .i64 n.stride)/\w'.cell? ⟨b,off+m*9+5,none⟩=some (.int .i64 n.pad)/\w'.cell? ⟨b,off+m*9+6,none⟩=some (.int .i64 n.percent)/\w'.cell? ⟨b,off+m*9+7,none⟩=some (.int .i64 n.heads)/\w'.cell? ⟨b,off+m*9+8,none⟩=some (.slice ob body.length cb)) (exact ao.o _ P.o) (first
     |(go_at_call 144;(with_reducible refine(ai.o _).mono ?_);rintro e wn ⟨rfl,rfl⟩)
     |(go_at_call 146;(with_reducible refine(ah.o _).mono ?_);rintro e wn ⟨⟨u,rfl,ho⟩,I⟩;have P:=Za (P.o.trans (I.mono P.o.size));have HU:=Za (Rd.of_own ho);obtain⟨ou,cu,rfl⟩:=aJ ho;clear ho I)
     |(go_at_call 117;(with_reducible refine(al.o _ _ HU.o).mono ?_);rintro e wn ⟨rfl,I⟩;have P:=Za (P.o.trans (I.mono P.o.size));clear I)
     |fail)
    all_goals(go_wp2_with fail;go_meet;exact⟨rfl,rfl,P.o⟩)
   case rest=>
    obtain⟨rfl,rfl,ab⟩:=hcut;obtain⟨w4,rfl⟩:=Zx wc;have R:=Za ab;obtain⟨d0,_,_,_,_,_,_,_,d8⟩:=ao.o _ ab;clear ab P;rcases az.o with⟨hk,C,ap⟩|⟨hk,C⟩
    ·have bb:=Za ap;have bc:(n.kind==13)=true:=by simp[hk]
     obtain⟨inn,J⟩:=Zx (cN body);rw[<-J]at C;obtain⟨s2,T⟩:=Zy (s1++inn);obtain⟨s3,L⟩:=Zy (s2++[101,110,100,10]);have aq:s3.length<=2560:=by have:=ba.o;rw[C,Zl,Zl]at this;rw[<-L,<-T,<-aa.o,Zl,Zl,Zl];omega
     have bd:s2.length<=2560:=by rw[<-L,Zl]at aq;omega
     have A2:=eW s1 inn s2 T (by omega);have A3:=eW s2 [101,110,100,10] s3 L (by omega);have ac:=Za (show cN (ls.take (m+1))=s3 by rw[H.o,C,<-L,<-T,<-aa.o];simp);have ar:=Za (HA.o (deep+1) (lm-1) j _ _ bb.o (by omega) (by omega) (ay.o.next R.o));rw[<-J]at ar;clear hk ap C T L J bd aq;go_wp2_with(go_at_call 118;refine ar.o.mono ?_;rintro e w5 ⟨rfl,au⟩;refine aD ?_);have ad:=Za (HB.o.trans ((R.o.trans (au.mono R.o.size)).mono HB.o.size));clear au;refine aC ?_;go_wp2;go_roundw
     case rel=>exact⟨m+1,by omega,by go_num,by rw[ac.o],ad.o⟩
     case measure=>simp[intOf];omega
    ·have bc:(n.kind==13)=false:=by simp[hk]
     have ac:=Za (show cN (ls.take (m+1))=s1 by rw[H.o,C,aa.o]);have ad:=Za (HB.o.trans (R.o.mono HB.o.size));clear hk C;go_wp2;go_roundw
     case rel=>exact⟨m+1,by omega,by go_num,by rw[ac.o],ad.o⟩
     case measure=>simp[intOf];omega
  ·obtain rfl:m=ls.length:=by omega
   have av:ls.take ls.length=ls:=List.take_length;rw[av];clear av;go_wp2;go_ret;exact⟨rfl,HB.o⟩
theorem QV:∀l:aB,tL l.body:=aB.ind fun n body h=>zB body h
theorem SB (ls:List aB):tL ls:=zB ls fun l _=>QV l
theorem LX (vi vl:Value) (d:bI) (w:World) (h:fZ w vi vl d) (hg:dM d=true):
  Calls Tryz.prog 67 #[.agg #[vi,vl,.int .i64 d.loss]] w fun e w'=>e=.returned (.string ⟨(dB d).toArray⟩)/\Below w.heap.size w w':=by
 obtain⟨oi,ci,rfl⟩:=aU h.input;obtain⟨ol,cl,rfl⟩:=h.lays.len;obtain⟨ac,ad,P,R,k0,T⟩:=nG hg;have V:=(oU hg).2.2;have HH:=Za h;obtain⟨dt,H⟩:=Zx (dB d);rw[<-H]at V ⊢;have X:∀x∈d.input,0<=x/\x<1000000000:=fun x hx=>by have:=(kZ x).1 (List.all_eq_true.1 P x hx);omega
 have ae:=Za X;obtain⟨tl,I⟩:=Zx (cN d.lays);obtain⟨rw0,B⟩:=Zx (jG iQ d.input);obtain⟨s1,F⟩:=Zy (rw0++tl);obtain⟨lt,J⟩:=Zx (dV++[32]++eL d.loss++[10]);have C:s1++lt=dt:=by rw[<-F,B,I,J,H,dB,jG];simp
 have af:s1.length<=2600:=by rw[<-C,Zl]at V;omega
 have ah:rw0.length<=2600:=by rw[<-F,Zl]at af;omega
 have A1:=eW rw0 tl s1 F (by omega);have A2:=eW s1 lt dt C (by omega);have L:=Za (fun(W:World) (N:Below w.heap.size w W)=>EI iQ (.slice oi d.input.length ci) d.input W (HH.o.input.below N (Zb _)) ae.o (by omega) (by rw[<-B];omega));rw[<-B]at L;have Y:=Za (fun(W:World) (N:Below w.heap.size w W)=>SB d.lays 0 64 k0 (.slice ol d.lays.length cl) W T (by omega) (by omega) (HH.o.lays.below N (Zb _)));rw[<-I]at Y;obtain⟨W,hW⟩:=Zx (w.alloc (.cells #[.slice oi d.input.length ci,.slice ol d.lays.length cl,.int .i64 d.loss] 33));have G:aA W w.heap.size 33 #[.slice oi d.input.length ci,.slice ol d.lays.length cl,.int .i64 d.loss]:=by rw[hW];exact aA.new _ _ _
 have Z:Below w.heap.size w W:=by rw[hW];exact(Zc _ _).alloc (Zb _) _
 have A:=Za (Zd G Z);have HW:=Za hW;have HC:=Za (show ∀U:World,Below W.heap.size W U->(U.cell? ⟨w.heap.size,0,none⟩=some (.slice oi d.input.length ci)/\U.cell? ⟨w.heap.size,1,none⟩=some (.slice ol d.lays.length cl))from fun U N=>⟨(G.next N).cell 0 rfl,(G.next N).cell 1 rfl⟩);have aa:=Za J;have ai:=Za R;clear h hg T P H I G Z hW B F C X J ac ad R;simp only[iQ]at L;go_enter Tryz.func67,Tryz.ntmps67;go_upto_region 1 with(fail);rw[<-HW.o];have D:=Za (show Below W.heap.size W W.drew from Below.drew (Zc _ _))
 go_cut[3] (fun s wx=>s=.string ⟨s1.toArray⟩/\Below W.heap.size W wx)
 case first=>
  go_region_held3 (fun U=>U.cell? ⟨w.heap.size,0,none⟩=some (.slice oi d.input.length ci)/\U.cell? ⟨w.heap.size,1,none⟩=some (.slice ol d.lays.length cl)) (exact HC.o _ D.o) (first
   |(go_at_call 117;(with_reducible refine(L.o _ (A.o.2.trans (D.o.mono A.o.2.size))).mono ?_);rintro e wn ⟨rfl,E⟩;have D:=Za (D.o.trans (E.mono D.o.size));clear E)
   |(go_at_call 118;(with_reducible refine(Y.o _ (A.o.2.trans (D.o.mono A.o.2.size))).mono ?_);rintro e wn ⟨rfl,E⟩;have D:=Za (D.o.trans (E.mono D.o.size));clear E)
   |fail)
  all_goals(go_wp2_with fail;go_meet;exact⟨rfl,D.o⟩)
 case rest=>
  obtain⟨rfl,M⟩:=hcut;obtain⟨w4,rfl⟩:=Zx wc;have x2:w4.cell? ⟨w.heap.size,2,none⟩=some (.int .i64 d.loss):=(A.o.1.next M).cell 2 rfl;have ab:=Za (A.o.2.trans (M.mono A.o.2.size));clear M D;by_cases O:d.loss=1
  ·have ag:(d.loss==1)=true:=by simp[O]
   have e:lt=[108,111,115,115,32,120,101,110,116,10]:=by rw[aa.o,eL,decide_eq_true O];rfl
   rw[e]at A2;clear e O;go_wp2;go_ret;exact⟨rfl,ab.o⟩
  ·have ag:(d.loss==1)=false:=by simp[O]
   have e:lt=[108,111,115,115,32,115,113,117,97,114,101,10]:=by rw[aa.o,eL,decide_eq_false O];rfl
   rw[e]at A2;clear e O;go_wp2;go_ret;exact⟨rfl,ab.o⟩
section
variable {P:Program}
theorem MA (w:World) (b off:Nat) (ty:TypeId) (cs:Array Value) (d:TypeDesc) (hc:∀j v,cs[j]?=some v->w.cell? ⟨b,off+j,none⟩=some v)
  (hu:P.underlying ty=some d) (hd:(match d with|.struct _|.array _ _=>true|_=>false)=true) (hi:(P.info? ty).map (·.size)=some cs.size):
  (loadVar ty ⟨b,off,none⟩).run P w=.ok (.agg cs) w:=by
 have hl:(loadCells ⟨b,off,none⟩ cs.toList.length).run P w=.ok cs.toList.toArray w:=
  run_loadCells_list (P:=P) w ⟨b,off,none⟩ cs.toList (fun j v hv=>by
   have A:(⟨b,off,none⟩:Addr).add j=⟨b,off+j,none⟩:=by unfold Addr.add;split<;>simp_all
   rw[A];exact hc j v (by simpa using hv))
 cases hq:P.info? ty with
 |none=>simp[hq]at hi
 |some i=>
  have hs:i.size=cs.size:=by simpa [hq]using hi
  have B:(isAgg ty).run P w=.ok true w:=by unfold isAgg;rw[Sem.run_bind,run_underlying hu w];cases d<;>simp_all
  simp only[Array.length_toList,Array.toArray_toList]at hl;simp[loadVar,Sem.run_bind,B,sizeOf,typeInfo,hq,hs,hl]
theorem pY {o:Oper} {a:Act} {w:World} (ty:TypeId) (x:Operand) (ho:o.op=.load ty x)
  (b off:Nat) (hx:a.eval x=.pointer (some ⟨b,off,none⟩)) (cs:Array Value) (d:TypeDesc) (hc:∀j v,cs[j]?=some v->w.cell? ⟨b,off+j,none⟩=some v)
  (hu:P.underlying ty=some d) (hd:(match d with|.struct _|.array _ _=>true|_=>false)=true) (hi:(P.info? ty).map (·.size)=some cs.size):
  (execOp a.eval o).run P w=.ok (.value (.agg cs)) w:=by unfold execOp;simp only[ho,hx,Instr.loadAt,Instr.sureAddr,Sem.run_bind,Sem.run_pure,Result.andThen_ok,MA w b off ty cs d hc hu hd hi]
theorem ML {o:Oper} {a:Act} {w:World} {K:Act->World->Prop} {Q:Exit->Act->World->Prop} (ty:TypeId) (x:Operand) (ho:o.op=.load ty x)
  (b off:Nat) (hx:a.eval x=.pointer (some ⟨b,off,none⟩)) (cs:Array Value) (d:TypeDesc) (hc:∀j v,cs[j]?=some v->w.cell? ⟨b,off+j,none⟩=some v)
  (hu:P.underlying ty=some d) (hd:(match d with|.struct _|.array _ _=>true|_=>false)=true) (hi:(P.info? ty).map (·.size)=some cs.size)
  (h:K (a.put o.dst (.agg cs)) w):o.wp P a w K Q:=by unfold Oper.wp;rw[pY ty x ho b off hx cs d hc hu hd hi];exact h
theorem uF {ops:Array Oper} {rest:List Oper} {o:Oper} {a:Act} {w:World} {Q:Exit->Act->World->Prop} (A:o.guard=none) (ty:TypeId) (x:Operand) (ho:o.op=.load ty x)
  (b off:Nat) (hx:a.eval x=.pointer (some ⟨b,off,none⟩)) (cs:Array Value) (d:TypeDesc) (hc:∀j v,cs[j]?=some v->w.cell? ⟨b,off+j,none⟩=some v)
  (hu:P.underlying ty=some d) (hd:(match d with|.struct _|.array _ _=>true|_=>false)=true) (hi:(P.info? ty).map (·.size)=some cs.size)
  (h:wpList P ops Q rest (a.put o.dst (.agg cs)) w):wpList P ops Q (o::rest) a w:=
 wpList_plain A fun _ hK=>ML ty x ho b off hx cs d hc hu hd hi (hK _ _ h)
end
theorem MW {w W:World} {b off:Nat} {cs:Array Value} (hb:Below w.heap.size w W) (h:∀j v,cs[j]?=some v->w.cell? ⟨b,off+j,none⟩=some v):∀j v,cs[j]?=some v->W.cell? ⟨b,off+j,none⟩=some v:=
 fun j v hj=>(hb.cell (p:=⟨b,off+j,none⟩) (aP (h j v hj))).trans (h j v hj)
end Go.Proofs.YtjhkdocidcfpdaaGreatDoor
namespace Go.Proofs.YtjhkdocidcfpdaaGreatDoor
open Go.RowKit Go.ChangeShapes Go.WideShapes
theorem PT {H:Type} {enc:TypeId×Value->H} {P:Program} {w:World} {t e:TypeId} {n fuel:Nat} {cs:List Value} {x:DataW H×List MemPlace} (ht:P.underlying t=some (.array n e)) (h:DataW.trod enc P w 0 (fun _=>true) true fuel t cs=some x):
  ∃(xs:List (DataW H×List MemPlace)) (m:Nat),fuel=m+1/\x=(.agg (xs.map (·.1)),xs.flatMap (·.2))/\cs.length=P.cellsOf t/\xs.length=n/\
   ∀(i:Nat),i<n->DataW.trod enc P w 0 (fun _=>true) true m e ((cs.drop (i*P.cellsOf e)).take (P.cellsOf e))=xs[i]?:=by
 cases fuel with
 |zero=>simp[DataW.trod]at h
 |succ m=>
  unfold DataW.trod at h;rw[ht]at h;split at h<;>simp_all
  obtain⟨hl,xs,hp,hd⟩:=h;exact⟨xs,hd.symm,by simpa using mapM_some_length hp,fun i hi=>mapM_some_get hp i i (by simp[hi])⟩
theorem RB.array {H:Type} {enc:TypeId×Value->H} {P:Program} {w:World} {t e:TypeId} {n:Nat} {cs:List Value} (h:RB enc P w t cs) (ht:P.underlying t=some (.array n e)):
  cs.length=P.cellsOf t/\∀i,i<n->RB enc P w e ((cs.drop (i*P.cellsOf e)).take (P.cellsOf e)):=by
 obtain⟨fuel,d,pl,h,hw⟩:=h;obtain⟨xs,m,rfl,hx,hl,B,hf⟩:=PT ht h;refine⟨hl,fun i hi=>?_⟩;have hk:=hf i hi;have A:i<xs.length:=by omega
 rw[List.getElem?_eq_getElem A]at hk;refine⟨m,xs[i].1,xs[i].2,hk,fun n hn=>hw n ?_⟩;simp only[Prod.mk.injEq]at hx;rw[hx.1];simp only[DataW.weights,ht];exact wC (List.mem_map.2 ⟨xs[i],List.getElem_mem A,rfl⟩) n hn
theorem LA:Tryz.prog.cellsOf 33=3:=by kernel_rfl
theorem TZ:Tryz.prog.cellsOf 35=9:=by kernel_rfl
theorem MN:Tryz.prog.cellsOf 38=5:=by kernel_rfl
theorem VJ:Tryz.prog.cellsOf 43=5:=by kernel_rfl
theorem IX:Tryz.prog.cellsOf 45=3:=by kernel_rfl
theorem xU:Tryz.prog.cellsOf 47=27:=by kernel_rfl
theorem S0:Tryz.prog.cellsOf 41=4:=by kernel_rfl
theorem QT:Tryz.prog.bytesOf 47=328:=by kernel_rfl
theorem O2 {α:Type} {l:List α} (h:l.length=27):∃a0 a1 a2 a3 a4 a5 a6 a7 a8 a9 a10 a11 a12 a13 a14 a15 a16 a17 a18 a19 a20 a21 a22 a23 a24 a25 a26,l=[a0,a1,a2,a3,a4,a5,a6,a7,a8,a9,a10,a11,a12,a13,a14,a15,a16,a17,a18,a19,a20,a21,a22,a23,a24,a25,a26]:=match l,h with|[a0,a1,a2,a3,a4,a5,a6,a7,a8,a9,a10,a11,a12,a13,a14,a15,a16,a17,a18,a19,a20,a21,a22,a23,a24,a25,a26],_=>⟨a0,a1,a2,a3,a4,a5,a6,a7,a8,a9,a10,a11,a12,a13,a14,a15,a16,a17,a18,a19,a20,a21,a22,a23,a24,a25,a26,rfl⟩
theorem RB.state {H:Type} {enc:TypeId×Value->H} {w:World} {cs:List Value} (h:RB enc Tryz.prog w 47 cs):
  ∃s vi vl vp vm vv vr vc,cs=(cG s vi vl vp vm vv vr vc).toList/\dN w s vi vl vp vm vv vr vc/\iP s/\∀o n c,vi=.slice o n c->n<=c:=by
 obtain⟨hl,B⟩:=h.field Tryz.underlying47;rw[xU]at hl;obtain⟨v0,v1,v2,v3,v4,v5,v6,v7,v8,v9,v10,v11,v12,v13,v14,v15,v16,v17,v18,v19,v20,v21,v22,v23,v24,v25,v26,rfl⟩:=O2 hl;have f0:RB enc Tryz.prog w 3 (([v0,v1,v2,v3,v4,v5,v6,v7,v8,v9,v10,v11,v12,v13,v14,v15,v16,v17,v18,v19,v20,v21,v22,v23,v24,v25,v26]:List Value).drop 0 |>.take (Tryz.prog.cellsOf 3)):=B 0 _ rfl;rw[kE]at f0;have f1:RB enc Tryz.prog w 33 (([v0,v1,v2,v3,v4,v5,v6,v7,v8,v9,v10,v11,v12,v13,v14,v15,v16,v17,v18,v19,v20,v21,v22,v23,v24,v25,v26]:List Value).drop 1 |>.take (Tryz.prog.cellsOf 33)):=B 1 _ rfl;rw[LA]at f1;have f2:RB enc Tryz.prog w 35 (([v0,v1,v2,v3,v4,v5,v6,v7,v8,v9,v10,v11,v12,v13,v14,v15,v16,v17,v18,v19,v20,v21,v22,v23,v24,v25,v26]:List Value).drop 4 |>.take (Tryz.prog.cellsOf 35)):=B 2 _ rfl;rw[TZ]at f2;have f3:RB enc Tryz.prog w 36 (([v0,v1,v2,v3,v4,v5,v6,v7,v8,v9,v10,v11,v12,v13,v14,v15,v16,v17,v18,v19,v20,v21,v22,v23,v24,v25,v26]:List Value).drop 13 |>.take (Tryz.prog.cellsOf 36)):=B 3 _ rfl;rw[xL]at f3;have f4:RB enc Tryz.prog w 38 (([v0,v1,v2,v3,v4,v5,v6,v7,v8,v9,v10,v11,v12,v13,v14,v15,v16,v17,v18,v19,v20,v21,v22,v23,v24,v25,v26]:List Value).drop 14 |>.take (Tryz.prog.cellsOf 38)):=B 4 _ rfl;rw[MN]at f4;have f5:RB enc Tryz.prog w 43 (([v0,v1,v2,v3,v4,v5,v6,v7,v8,v9,v10,v11,v12,v13,v14,v15,v16,v17,v18,v19,v20,v21,v22,v23,v24,v25,v26]:List Value).drop 19 |>.take (Tryz.prog.cellsOf 43)):=B 5 _ rfl;rw[VJ]at f5;have f6:RB enc Tryz.prog w 45 (([v0,v1,v2,v3,v4,v5,v6,v7,v8,v9,v10,v11,v12,v13,v14,v15,v16,v17,v18,v19,v20,v21,v22,v23,v24,v25,v26]:List Value).drop 24 |>.take (Tryz.prog.cellsOf 45)):=B 6 _ rfl;rw[IX]at f6;obtain⟨_,dh⟩:=RB.field (cs:=[v1,v2,v3]) f1 Tryz.underlying33;have d0:RB enc Tryz.prog w 30 (([v1,v2,v3]:List Value).drop 0 |>.take (Tryz.prog.cellsOf 30)):=dh 0 _ rfl;rw[uW]at d0;have d1:RB enc Tryz.prog w 31 (([v1,v2,v3]:List Value).drop 1 |>.take (Tryz.prog.cellsOf 31)):=dh 1 _ rfl;rw[E7]at d1;have d2:RB enc Tryz.prog w 3 (([v1,v2,v3]:List Value).drop 2 |>.take (Tryz.prog.cellsOf 3)):=dh 2 _ rfl;rw[kE]at d2;obtain⟨_,A⟩:=RB.field (cs:=[v4,v5,v6,v7,v8,v9,v10,v11,v12]) f2 Tryz.underlying35;have h0:RB enc Tryz.prog w 3 (([v4,v5,v6,v7,v8,v9,v10,v11,v12]:List Value).drop 0 |>.take (Tryz.prog.cellsOf 3)):=A 0 _ rfl;rw[kE]at h0;have h1:RB enc Tryz.prog w 2 (([v4,v5,v6,v7,v8,v9,v10,v11,v12]:List Value).drop 1 |>.take (Tryz.prog.cellsOf 2)):=A 1 _ rfl;rw[lU]at h1;have h2:RB enc Tryz.prog w 2 (([v4,v5,v6,v7,v8,v9,v10,v11,v12]:List Value).drop 2 |>.take (Tryz.prog.cellsOf 2)):=A 2 _ rfl;rw[lU]at h2;have h3:RB enc Tryz.prog w 2 (([v4,v5,v6,v7,v8,v9,v10,v11,v12]:List Value).drop 3 |>.take (Tryz.prog.cellsOf 2)):=A 3 _ rfl;rw[lU]at h3;have h4:RB enc Tryz.prog w 2 (([v4,v5,v6,v7,v8,v9,v10,v11,v12]:List Value).drop 4 |>.take (Tryz.prog.cellsOf 2)):=A 4 _ rfl;rw[lU]at h4;have h5:RB enc Tryz.prog w 2 (([v4,v5,v6,v7,v8,v9,v10,v11,v12]:List Value).drop 5 |>.take (Tryz.prog.cellsOf 2)):=A 5 _ rfl;rw[lU]at h5;have h6:RB enc Tryz.prog w 2 (([v4,v5,v6,v7,v8,v9,v10,v11,v12]:List Value).drop 6 |>.take (Tryz.prog.cellsOf 2)):=A 6 _ rfl;rw[lU]at h6;have h7:RB enc Tryz.prog w 3 (([v4,v5,v6,v7,v8,v9,v10,v11,v12]:List Value).drop 7 |>.take (Tryz.prog.cellsOf 3)):=A 7 _ rfl;rw[kE]at h7;have h8:RB enc Tryz.prog w 3 (([v4,v5,v6,v7,v8,v9,v10,v11,v12]:List Value).drop 8 |>.take (Tryz.prog.cellsOf 3)):=A 8 _ rfl;rw[kE]at h8;obtain⟨_,mh⟩:=RB.field (cs:=[v14,v15,v16,v17,v18]) f4 Tryz.underlying38;have m0:RB enc Tryz.prog w 36 (([v14,v15,v16,v17,v18]:List Value).drop 0 |>.take (Tryz.prog.cellsOf 36)):=mh 0 _ rfl;rw[xL]at m0;have m1:RB enc Tryz.prog w 36 (([v14,v15,v16,v17,v18]:List Value).drop 1 |>.take (Tryz.prog.cellsOf 36)):=mh 1 _ rfl;rw[xL]at m1;have m2:RB enc Tryz.prog w 2 (([v14,v15,v16,v17,v18]:List Value).drop 2 |>.take (Tryz.prog.cellsOf 2)):=mh 2 _ rfl;rw[lU]at m2;have m3:RB enc Tryz.prog w 2 (([v14,v15,v16,v17,v18]:List Value).drop 3 |>.take (Tryz.prog.cellsOf 2)):=mh 3 _ rfl;rw[lU]at m3;have m4:RB enc Tryz.prog w 3 (([v14,v15,v16,v17,v18]:List Value).drop 4 |>.take (Tryz.prog.cellsOf 3)):=mh 4 _ rfl;rw[kE]at m4;obtain⟨_,rh⟩:=RB.field (cs:=[v19,v20,v21,v22,v23]) f5 Tryz.underlying43;have r0:RB enc Tryz.prog w 39 (([v19,v20,v21,v22,v23]:List Value).drop 0 |>.take (Tryz.prog.cellsOf 39)):=rh 0 _ rfl;rw[R7]at r0;have r1:RB enc Tryz.prog w 41 (([v19,v20,v21,v22,v23]:List Value).drop 1 |>.take (Tryz.prog.cellsOf 41)):=rh 1 _ rfl;rw[S0]at r1;obtain⟨_,ch⟩:=RB.field (cs:=[v24,v25,v26]) f6 Tryz.underlying45;have c0:RB enc Tryz.prog w 30 (([v24,v25,v26]:List Value).drop 0 |>.take (Tryz.prog.cellsOf 30)):=ch 0 _ rfl;rw[uW]at c0;have c1:RB enc Tryz.prog w 3 (([v24,v25,v26]:List Value).drop 1 |>.take (Tryz.prog.cellsOf 3)):=ch 1 _ rfl;rw[kE]at c1;have c2:RB enc Tryz.prog w 3 (([v24,v25,v26]:List Value).drop 2 |>.take (Tryz.prog.cellsOf 3)):=ch 2 _ rfl;rw[kE]at c2;obtain⟨_,ah⟩:=RB.array (cs:=[v20,v21,v22,v23]) r1 Tryz.underlying41;rw[DX]at ah;have a0:RB enc Tryz.prog w 40 [v20]:=ah 0 (by omega);have a1:RB enc Tryz.prog w 40 [v21]:=ah 1 (by omega);have a2:RB enc Tryz.prog w 40 [v22]:=ah 2 (by omega);have a3:RB enc Tryz.prog w 40 [v23]:=ah 3 (by omega);obtain⟨f,rfl,_⟩:=RB.int (v:=v0) f0 Tryz.underlying3;obtain⟨loss,rfl,_⟩:=RB.int (v:=v3) d2 Tryz.underlying3;obtain⟨kind,rfl,_⟩:=RB.int (v:=v4) h0 Tryz.underlying3;obtain⟨rate,rfl,_⟩:=RB.int (v:=v5) h1 Tryz.underlying2;obtain⟨mu,rfl,_⟩:=RB.int (v:=v6) h2 Tryz.underlying2;obtain⟨nu,rfl,_⟩:=RB.int (v:=v7) h3 Tryz.underlying2;obtain⟨eps,rfl,_⟩:=RB.int (v:=v8) h4 Tryz.underlying2;obtain⟨decay,rfl,_⟩:=RB.int (v:=v9) h5 Tryz.underlying2;obtain⟨clip,rfl,_⟩:=RB.int (v:=v10) h6 Tryz.underlying2;obtain⟨sched,rfl,_⟩:=RB.int (v:=v11) h7 Tryz.underlying3;obtain⟨every,rfl,_⟩:=RB.int (v:=v12) h8 Tryz.underlying3;obtain⟨pm,rfl,_⟩:=RB.int (v:=v16) m2 Tryz.underlying2;obtain⟨pn,rfl,_⟩:=RB.int (v:=v17) m3 Tryz.underlying2;obtain⟨steps,rfl,_⟩:=RB.int (v:=v18) m4 Tryz.underlying3;obtain⟨s0,rfl,F⟩:=RB.int (v:=v20) a0 Tryz.underlying40;obtain⟨s1,rfl,G⟩:=RB.int (v:=v21) a1 Tryz.underlying40;obtain⟨s2,rfl,I⟩:=RB.int (v:=v22) a2 Tryz.underlying40;obtain⟨s3,rfl,J⟩:=RB.int (v:=v23) a3 Tryz.underlying40;obtain⟨at_,rfl,_⟩:=RB.int (v:=v25) c1 Tryz.underlying3;obtain⟨epoch,rfl,_⟩:=RB.int (v:=v26) c2 Tryz.underlying3;have D:∀o n c,v1=.slice o n c->n<=c:=by obtain⟨o,len,cap,he,_,_,O,_⟩:=RB.slice (v:=v1) d0 Tryz.underlying30;intro o2 n c h2;rw[he]at h2;injection h2 with _ h3 h4;omega
 obtain⟨inp,inpr,inpw,inpl⟩:=RB.ints (v:=v1) d0 Tryz.underlying30 Tryz.underlying3 kE;rw[uY]at inpl;unfold reachBytes at inpl;obtain⟨script,scriptr,scriptw,scriptl⟩:=RB.ints (v:=v19) r0 Tryz.underlying39 Tryz.underlying40 DX;rw[VK]at scriptl;unfold reachBytes at scriptl;obtain⟨order,orderr,orderw,orderl⟩:=RB.ints (v:=v24) c0 Tryz.underlying30 Tryz.underlying3 kE;rw[uY]at orderl;unfold reachBytes at orderl;obtain⟨lays,C,E⟩:=RB.layers (v:=v2) d1;obtain⟨ps,L,lps⟩:=RB.tensors (v:=v13) f3;obtain⟨mm,M,lmm⟩:=RB.tensors (v:=v14) m0;obtain⟨mv,N,lmv⟩:=RB.tensors (v:=v15) m1;refine⟨⟨f,⟨inp,lays,loss⟩,⟨kind,rate,mu,nu,eps,decay,clip,sched,every⟩,ps,⟨mm,mv,pm,pn,steps⟩,⟨script,s0,s1,s2,s3⟩,⟨order,at_,epoch⟩⟩,v1,v2,v13,v14,v15,v19,v24,rfl,⟨⟨inpr,C,by show inp.length<=_;omega,E⟩,L,M,N,scriptr,orderr,lps,lmm,lmv,by show script.length<=_;omega,by show order.length<=_;omega⟩,⟨scriptw,F,G,I,J⟩,D⟩
theorem GO {w:World} {b off:Nat} {cs:Array Value} (h:∀j v,cs.toList[j]?=some v->w.cell? ⟨b,off+j,none⟩=some v) (j:Nat) (v:Value) (hj:cs[j]?=some v):w.cell? ⟨b,off+j,none⟩=some v:=h j v (by simpa using hj)
theorem RB.states {H:Type} {enc:TypeId×Value->H} {w:World} {v:Value} (h:RB enc Tryz.prog w 61 [v]):
  ∃o len cap,v=.slice o len cap/\len<=140737488351232/\∀i,i<len->∃b off s vi vl vp vm vv vr vc,o=some ⟨b,off,none⟩/\(∀j u,(cG s vi vl vp vm vv vr vc)[j]?=some u->w.cell? ⟨b,off+i*27+j,none⟩=some u)/\dN w s vi vl vp vm vv vr vc/\iP s/\∀o n c,vi=.slice o n c->n<=c:=by obtain⟨o,len,cap,rfl,hr,B⟩:=h.rows Tryz.underlying61 (by rw[xU];omega);rw[QT]at hr;unfold reachBytes at hr;refine⟨o,len,cap,rfl,by omega,fun i hi=>?_⟩;obtain⟨b,off,cs,rfl,hl,C,A⟩:=B i hi;rw[xU]at A;obtain⟨s,vi,vl,vp,vm,vv,vr,vc,rfl,h1,h2,h3⟩:=C.state;exact⟨b,off,s,vi,vl,vp,vm,vv,vr,vc,rfl,GO A,h1,h2,h3⟩
