/- A part of the proof. -/
import Derived.Test.YtjhkdocidcfpdaaGreatDoorEN42
import Derived.Test.YtjhkdocidcfpdaaGreatDoorEN41
import Derived.Test.YtjhkdocidcfpdaaGreatDoorEN35
import Derived.Test.YtjhkdocidcfpdaaGreatDoorEN36
import Derived.Test.YtjhkdocidcfpdaaGreatDoorEN45
set_option linter.unusedVariables false
set_option linter.unusedSimpArgs false
set_option maxRecDepth 100000
set_option maxHeartbeats 16000000
open List renaming setIfInBounds_toArray → Zf, set_cons_zero → Zg, set_cons_succ → Zh, getElem_cons_zero → Zi, getElem_cons_succ → Zj, getElem_toArray → Zk, length_append → Zl
namespace Go.Proofs.YtjhkdocidcfpdaaGreatDoor
open Go.RowKit Go.Shelf Go
theorem IJ {w:World} {R S:Nat} {T:TypeId} {cs ds:Array Value} {rem:List Int} (h:cT w R rem) (hb:aA w S T cs) (D:S≠R) (hu:∀(j:Nat) (x:Int),cs[j]?≠some (.int .u8 x)):cT (w.setRow S ds) R rem:=by
 obtain⟨o,cap,E,hc,hr,C⟩:=h;refine⟨o,cap,E.setRowO D ds,hc,?_,C⟩;obtain⟨o',cap',he,A⟩:=hr;refine⟨o',cap',he,fun j hj=>?_⟩;obtain⟨b,off,ho,B⟩:=A j hj;refine⟨b,off,ho,?_⟩;by_cases e:b=S
 ·exfalso;subst e;rw[cell_of_row w b (off+j) _ _ _ hb]at B;exact hu _ _ B
 ·exact(World.cell?_of_block (w:=w) (a:=⟨b,off+j,none⟩) (setRow_other w S b ds e)).trans B
def mO:Array Value:=#[.int .i64 0,.slice none 0 0,.slice none 0 0,.int .i64 0,.int .i64 0,.int .i64 0,.int .i64 0,.int .i64 0,.int .i64 0,.int .i64 0,.int .i64 0,.int .i64 0,.int .i64 0,.slice none 0 0,.slice none 0 0,.slice none 0 0,.int .i64 0,.int .i64 0,.int .i64 0,.slice none 0 0,.int .u64 0,.int .u64 0,.int .u64 0,.int .u64 0,.slice none 0 0,.int .i64 0,.int .i64 0]
theorem UI:∀(j:Nat) (x:Int),mO[j]?≠some (.int .u8 x):=by intro j x h;rw[mO,List.getElem?_toArray]at h;have:=List.mem_of_getElem? h;simp at this
theorem PX {w w':World} {R g:Nat} {T:TypeId} {cs:Array Value} (h:aA w g T cs) (hm:bB w w' R) (hg:g≠R):aA w' g T cs:=(gP hm h.lt hg).trans h
theorem QD (R S:Nat) (rem rest:List Int) (s:aT) (w:World) (hq:cV w w R rem) (G:m8 rem=some (s,rest)) (hS:aA w S 47 mO) (H:S≠R):
  Calls Tryz.prog 26 #[.pointer (some ⟨R,0,none⟩),.pointer (some ⟨S,0,none⟩)] w fun e w'=>e=.returned (.tuple #[])/\∃vi vl vp vm vv vr vc,aA w' S 47 (cG s vi vl vp vm vv vr vc)/\aI (aL (w.heap.size+1) w') w' (fun W=>oP W s vi vl vp vm vv vr vc)/\(∀o n c,vi=.slice o n c->n<=c)/\cT w' R rest/\aZ R S w w'/\∀B,B<=R->B<=S->B<=w.heap.size->Below B w w':=by
 have T:=Za hq;have L:=Za G;have M:=Za hS;have U:=hS.lt;clear hq G hS;go_enter Tryz.func26,Tryz.ntmps26;go_wp2_with(go_at_call 27;refine(S3 R rem rest s _ T.o L.o).mono ?_;rintro e w1 ⟨vi,vl,vp,vm,vv,vr,vc,rfl,hh,hc,I⟩;have P:=Za hh;have V:=Za hc;have A:=Za I;clear hh hc I;refine aD ?_);have C:aA w1 S 47 mO:=PX M.o A.o.moved H;have N:=A.o.moved.size;obtain⟨E,F⟩:=Zx (cG s vi vl vp vm vv vr vc);rw[<-F];have J:(Tryz.prog.info? 47).map (·.size)=some E.size:=by rw[F];kernel_rfl
 have O:mO.size=E.size:=by rw[F];rfl
 have D:E.all (·.oneCell')=true:=by obtain⟨o1,c1,o2,c2,o3,c3,o4,c4,o5,c5,o6,c6,o7,c7,rfl,rfl,rfl,rfl,rfl,rfl,rfl⟩:=P.o.here.1.slices;rw[F];simp[cG,Value.oneCell']
 have row:w1.heap[S]?=some (.cells mO 47 (0,0)):=C;have X:=Za F;clear F;refine aC ?_;go_wp2_with(refine wpList_store_row rfl 47 _ _ rfl S E rfl rfl 47 _ row J O D ?_);go_end0;refine⟨rfl,vi,vl,vp,vm,vv,vr,vc,by rw[<-X.o];exact C.setRow E,P.o.setRow (by omega) E,V.o,IJ A.o.at_ C H UI,⟨by rw[setRow_size];exact N,fun k hk h1 h2=>(setRow_other w1 S k E h2).trans (gP A.o.moved hk h1)⟩,fun B hR hS hB=>lO (A.o.moved.below hR hB) hS E⟩
theorem NP {P:Program} {fn:Func} {p u:Tmp} {ty:TypeId} (h:fn.results=#[.cell p ty,.tmp u]) (tmps:Array Value) (w:World) (g:Nat) (t:TypeId) (cs:Array Value) (fr:Nat×Nat) (d:TypeDesc)
  (hp:tmps.getD p undef=.pointer (some ⟨g,0,none⟩)) (hg:w.heap[g]?=some (.cells cs t fr))
  (hu:P.underlying ty=some d) (hd:(match d with|.struct _|.array _ _=>true|_=>false)=true) (hi:(P.info? ty).map (·.size)=some cs.size):
  (results fn tmps).run P w=.ok (.tuple #[.agg cs,tmps.getD u undef]) w:=by
 have hp':tmps[p]?.getD undef=.pointer (some ⟨g,0,none⟩):=by simpa using hp
 simp[results,h,hp',asAddr,run_loadVar_row w g t ty cs fr d hg hu hd hi]
theorem SD {w:World} {B:Nat} {b off cap k:Nat} {bs:List Int} (hr:Rd w .u8 (.slice (some ⟨b,off,none⟩) bs.length cap) bs) (hw:Wf .u8 bs) (hk:k<=bs.length) (hl:bs.length<=100000) (C:bs.length<=cap) (hb:b<B) (A:aA w B 128 #[.slice (some ⟨b,off+k,none⟩) (bs.length-k) (cap-k)]):cV w w B (bs.drop k):=by
 refine cV.start ⟨some ⟨b,off+k,none⟩,cap-k,?_,?_,?_,fun h0 a ha=>?_⟩ (sM hw k) (by rw[List.length_drop];omega)
 ·rw[List.length_drop];exact A
 ·rw[List.length_drop];omega
 ·rw[List.length_drop];have:=Rd.drop hr k hk (c:=cap-k);by_cases h0:k=0;subst h0;simpa [Addr.add]using this;simpa [Addr.add,h0]using this
 ·cases ha;exact hb
theorem JZ {w:World} {B:Nat} {b off cap k:Nat} {bs:List Int} (hr:Rd w .u8 (.slice (some ⟨b,off,none⟩) bs.length cap) bs) (hw:Wf .u8 bs) (hk:k<=bs.length) (hl:bs.length<=100000) (C:bs.length<=cap) (hb:b<B) (A:aA w B 128 #[.slice (some ⟨b,off,none⟩) k cap]):cV w w B (bs.take k):=by
 have e:(bs.take k).length=k:=by rw[List.length_take];omega
 refine cV.start ⟨some ⟨b,off,none⟩,cap,?_,?_,?_,fun h0 a ha=>?_⟩ (hw.take k) (by omega)
 ·rw[e];exact A
 ·omega
 ·rw[e];exact Rd.take hr k hk
 ·cases ha;exact hb
theorem QU {P:Program} {ops:Array Oper} {rest:List Oper} {o:Oper} {a:Act} {w:World} {Q:Exit->Act->World->Prop} (hw:Region.wanted o (yielded ops a.tmps)=true) (ty:TypeId) (x:Operand) (ho:o.op=.load ty x)
  (g:Nat) (hx:a.eval x=.pointer (some ⟨g,0,none⟩)) (t:TypeId) (cs:Array Value) (fr:Nat×Nat) (d:TypeDesc) (hg:w.heap[g]?=some (.cells cs t fr))
  (hu:P.underlying ty=some d) (hd:(match d with|.struct _|.array _ _=>true|_=>false)=true) (hi:(P.info? ty).map (·.size)=some cs.size)
  (h:wpList P ops Q rest (a.put o.dst (.agg cs)) w):wpList P ops Q (o::rest) a w:=by rw[wpList,if_pos hw];left;exact wp_load_row ty x ho g hx t cs fr d hg hu hd hi h
theorem RQ (o:Option Addr) (cap k:Nat) (bs:List Int) (s:aT) (w:World) (hr:Rd w .u8 (.slice o bs.length cap) bs) (hw:Wf .u8 bs) (hk:k+4=bs.length) (hl:bs.length<=100000) (G:bs.length<=cap) (hs:mM bs=true) (aa:m8 (bs.take k)=some (s,[])) (hg:cX s=true):
  Calls Tryz.prog 8 #[.slice o bs.length cap] w fun e w'=>∃vi vl vp vm vv vr vc,e=.returned (.tuple #[.agg (cG s vi vl vp vm vv vr vc),.int .i64 0])/\aI (aL w.heap.size w') w' (fun W=>oP W s vi vl vp vm vv vr vc)/\(∀o n c,vi=.slice o n c->n<=c)/\Below w.heap.size w w':=by
 obtain⟨b,off,ho,ab⟩:=hr.cell 0 (by omega);subst ho;have bi:=aP ab;have bj:∀(fn:Fn) (first cap:Array Value) (w:World),(Instr.makeFunc fn first cap).run Tryz.prog w=.ok (.func fn first cap) w:=fun _ _ _ _=>rfl;have bk:IntKind.i64.wrap ((bs.length:Int)-4)=(k:Int):=by rw[IntWalk.i64_in _ (by omega)];omega
 have bl:(bs.length:Int)-4=(k:Int):=by omega
 have bm:¬cap=k:=by omega
 obtain⟨W3,A⟩:=Zx (((w.alloc (.cells #[.slice (some ⟨b,off,none⟩) bs.length cap] 23)).alloc (.cells mO 47)).alloc (.cells #[.int .i64 k] 3));have hB:W3.heap.size=w.heap.size+3:=by rw[A];simp
 have b1:Below w.heap.size w W3:=by rw[A];exact(((Zc _ _).alloc (Zb _) _).alloc (by simp) _).alloc (by simp;omega) _
 have xb:aA W3 w.heap.size 23 #[.slice (some ⟨b,off,none⟩) bs.length cap]:=by rw[A];exact((aA.new _ _ _).next ((Zc _ _).alloc (Zb _) _)).next ((Zc _ _).alloc (Zb _) _)
 have xs:aA W3 (w.heap.size+1) 47 mO:=by rw[A];exact(aA.new_at (by simp)).next ((Zc _ _).alloc (Zb _) _)
 have xn:aA W3 (w.heap.size+2) 3 #[.int .i64 k]:=by rw[A];exact aA.new_at (by simp)
 obtain⟨W5,D⟩:=Zx ((W3.alloc (.cells #[.bool false] 4)).alloc (.cells #[.slice (some ⟨b,off+k,none⟩) (bs.length-k) (cap-k)] 128));have b35:Below W3.heap.size W3 W5:=by rw[D];exact((Zc _ _).alloc (Zb _) _).alloc (by simp) _
 have y3:aA W5 (w.heap.size+3) 4 #[.bool false]:=by rw[D];exact(aA.new_at hB).next ((Zc _ _).alloc (Zb _) _)
 have y4:aA W5 (w.heap.size+4) 128 #[.slice (some ⟨b,off+k,none⟩) (bs.length-k) (cap-k)]:=by rw[D];exact aA.new_at (by simp[hB])
 have O:Rd W5 .u8 (.slice (some ⟨b,off,none⟩) bs.length cap) bs:=(hr.below b1 (Zb _)).below b35 (Zb _);have ac:cV W5 W5 (w.heap.size+4) (bs.drop k):=SD O hw (by omega) hl G (by omega) y4;have HE:=Za (fun(args:Array Value) (u:World)=>enters_of (P:=Tryz.prog) Tryz.func23 (by kernel_rfl) rfl args u);have ap:=Za (FW (some ⟨b,off+k,none⟩) (bs.length-k) (cap-k) 23 #[.pointer (some ⟨w.heap.size,0,none⟩),.pointer (some ⟨w.heap.size+2,0,none⟩)] W3 [] (fun w'=>bB W5 w' (w.heap.size+4)) (B:=w.heap.size+3) hB HE.o
  (D▸(PF (w.heap.size+4) w.heap.size (w.heap.size+2) (some ⟨b,off,none⟩) cap k bs W5 ac hk G (xb.next b35) (xn.next b35) (by omega) (by omega) O hw hl).mono fun e w' ⟨hq,ho⟩=>by
   rcases ho with⟨_,he⟩|⟨h,_⟩
   ·exact⟨he,hq.moved,pR y3 hq.moved (by omega),hq.at_⟩
   ·rw[hs]at h;cases h))
 have aq:=Za (xs.next b35);have ar:=Za (xb.next b35);have au:=Za (xn.next b35);have ad:=Za (b1.trans (b35.mono b1.size));have av:=Za (show W5.heap.size=w.heap.size+5 by rw[D];simp[hB]);have aw:=Za A;have HR:=Za hr;have HW:=Za hw;have ax:=Za aa;have HG:=Za hg;clear hr hw hs ab O ac xb xs xn y3 y4 b1 b35 D hB A aa hg;go_enter Tryz.func8,Tryz.ntmps8;go_wp2_with fail;have R:=aw.o;unfold mO at R;rw[<-R];clear R;refine ap.o.mono ?_;rintro e w' ⟨rfl,w1,bq,hm,rfl⟩;have hz:=av.o;have ay:=hm.size;have ht:∀{j:Nat} {T:TypeId} {cs:Array Value},aA W5 (w.heap.size+j) T cs->j≠4->j≠3->aA (w1.setCell ⟨w.heap.size+3,0,none⟩ (.bool bq)) (w.heap.size+j) T cs:=fun h h4 h3=>aA.other (p:=⟨w.heap.size+3,0,none⟩) (pR h hm (by omega)) (by show w.heap.size+3≠_;omega) (.bool bq);have I:=ht aq.o (by decide) (by decide);have J:=ht (j:=0) ar.o (by decide) (by decide);have H:=ht au.o (by decide) (by decide);have L:Below w.heap.size w (w1.setCell ⟨w.heap.size+3,0,none⟩ (.bool bq)):=(ad.o.trans (hm.below (B:=w.heap.size) (by omega) (by omega))).setCell (p:=⟨w.heap.size+3,0,none⟩) (by show w.heap.size<=w.heap.size+3;omega) (.bool bq);have ae:w.heap.size+5<=(w1.setCell ⟨w.heap.size+3,0,none⟩ (.bool bq)).heap.size:=by simp;omega
 clear ht;generalize (w1.setCell ⟨w.heap.size+3,0,none⟩ (.bool bq))=w5 at I J H L ae ⊢;have bn:=Za I;have af:=Za L;have bg:=Za J;have bh:=Za H;have c0:w5.cell? ⟨w.heap.size,0,none⟩=some (.slice (some ⟨b,off,none⟩) bs.length cap):=J.cell 0 rfl;have c2:w5.cell? ⟨w.heap.size+2,0,none⟩=some (.int .i64 k):=H.cell 0 rfl;have c2':w5.cell? ⟨w.heap.size+1+1,0,none⟩=some (.int .i64 k):=H.cell 0 rfl;obtain⟨W7,F⟩:=Zx ((w5.alloc (.cells #[.bool false] 4)).alloc (.cells #[.slice (some ⟨b,off,none⟩) k cap] 128));have b57:Below w5.heap.size w5 W7:=by rw[F];exact((Zc _ _).alloc (Zb _) _).alloc (by simp) _
 have y3:aA W7 w5.heap.size 4 #[.bool false]:=by rw[F];exact(aA.new _ _ _).next ((Zc _ _).alloc (Zb _) _)
 have y4:aA W7 (w5.heap.size+1) 128 #[.slice (some ⟨b,off,none⟩) k cap]:=by rw[F];exact aA.new_at (by simp)
 have ag:Rd W7 .u8 (.slice (some ⟨b,off,none⟩) bs.length cap) bs:=(HR.o.below L (Zb _)).below b57 (Zb _);have ah:cV W7 W7 (w5.heap.size+1) (bs.take k):=JZ ag HW.o (by omega) hl G (by omega) y4;have az:=Za (fun(args:Array Value) (u:World)=>enters_of (P:=Tryz.prog) Tryz.func26 (by kernel_rfl) rfl args u);have ai:=Za (FW (some ⟨b,off,none⟩) k cap 26 #[.pointer (some ⟨w.heap.size+1,0,none⟩)] w5 [] (fun w'=>∃vi vl vp vm vv vr vc,aA w' (w.heap.size+1) 47 (cG s vi vl vp vm vv vr vc)/\aI (aL (W7.heap.size+1) w') w' (fun W=>oP W s vi vl vp vm vv vr vc)/\(∀o n c,vi=.slice o n c->n<=c)/\Below w.heap.size W7 w') (B:=w5.heap.size) rfl az.o
  (F▸(QD (w5.heap.size+1) (w.heap.size+1) (bs.take k) [] s W7 ah ax.o (I.next b57) (by omega)).mono fun e w' ⟨he,vi,vl,vp,vm,vv,vr,vc,h1,h2,h3,h4,h5,h6⟩=>⟨he,⟨vi,vl,vp,vm,vv,vr,vc,h1,h2,h3,h6 _ (by omega) (by omega) (by have:=b57.size;omega)⟩,(h5.block _ y3.lt (by omega) (by omega)).trans y3,h4⟩))
 have aj:=Za b57;have U:=Za (show W7.heap.size=w5.heap.size+2 by rw[F];simp);clear I J H L hm ay hz b57 y3 y4 ag ah F;go_wp2_with fail;refine ai.o.mono ?_;rintro e w' ⟨rfl,w8,b2,⟨vi,vl,vp,vm,vv,vr,vc,h1,h2,h3,h5⟩,rfl⟩;have ba:=U.o;have M:aA (w8.setCell ⟨w5.heap.size,0,none⟩ (.bool b2)) (w.heap.size+1) 47 (cG s vi vl vp vm vv vr vc):=aA.other (p:=⟨w5.heap.size,0,none⟩) h1 (by show w5.heap.size≠_;omega) (.bool b2);have V:aI (aL (W7.heap.size+1) (w8.setCell ⟨w5.heap.size,0,none⟩ (.bool b2))) (w8.setCell ⟨w5.heap.size,0,none⟩ (.bool b2)) (fun W=>oP W s vi vl vp vm vv vr vc):=h2.set (by omega) _;have X:Below w.heap.size w (w8.setCell ⟨w5.heap.size,0,none⟩ (.bool b2)):=((af.o.trans (aj.o.mono af.o.size)).trans h5).setCell (p:=⟨w5.heap.size,0,none⟩) (by show w.heap.size<=w5.heap.size;omega) (.bool b2);generalize (w8.setCell ⟨w5.heap.size,0,none⟩ (.bool b2))=w9 at M V X ⊢;have bo:=Za M;have Y:=Za V;have ak:=Za X;have bb:=Za h3;obtain⟨E,hE⟩:=Zx (cG s vi vl vp vm vv vr vc);have C:(Tryz.prog.info? 47).map (·.size)=some E.size:=by rw[hE];kernel_rfl
 have Z:E.all (·.oneCell')=true:=by obtain⟨o1,c1,o2,c2,o3,c3,o4,c4,o5,c5,o6,c6,o7,c7,rfl,rfl,rfl,rfl,rfl,rfl,rfl⟩:=Y.o.here.1.slices;rw[hE];simp[cG,Value.oneCell']
 have row:w9.heap[w.heap.size+1]?=some (.cells E 47 (0,0)):=by rw[hE];exact M
 have bc:=Za hE;have al:=Za (show aA w9 (w.heap.size+1) 47 E from row);have bd:=Za (show Calls Tryz.prog 28 #[.agg E] w9 (fun e w'=>e=.returned (.bool true)/\Below w9.heap.size w9 w') by rw[hE,<-HG.o];exact tZ s _ _ _ _ _ _ _ _ Y.o.here.1 h3);clear hE h1 h2 h3 h5 M V X ba c0 c2 c2';go_wp2_with(first
  |(refine QU rfl 47 _ rfl (w.heap.size+1) rfl 47 E (0,0) _ row Tryz.underlying47 rfl C ?_)
  |(go_at_call 28;refine bd.o.mono ?_;rintro e wg ⟨rfl,ao⟩;have N:=Za ao;clear ao row;have row:wg.heap[w.heap.size+1]?=some (.cells E 47 (0,0)):=al.o.next N.o;refine aD ?_))
 refine aC ?_;go_wp2_with(first|(refine wpList_load_row rfl 47 _ rfl (w.heap.size+1) rfl 47 E (0,0) _ row Tryz.underlying47 rfl C ?_)|(refine wpList_store_row rfl 47 _ _ rfl (w.heap.size+1) E rfl rfl 47 _ row C rfl Z ?_));have be:aA (wg.setRow (w.heap.size+1) E) (w.heap.size+1) 47 E:=aA.setRow (al.o.next N.o) E;have bf:=((Y.o.grow N.o).setRow (S:=w.heap.size+1) (by have:=U.o;omega) E).base (B':=w.heap.size) (by have:=U.o;omega);exact bodyPost_ret (NP rfl _ _ (w.heap.size+1) 47 _ (0,0) _ rfl be Tryz.underlying47 rfl C) rfl ⟨vi,vl,vp,vm,vv,vr,vc,by rw[bc.o];rfl,bf,bb.o,lO (ak.o.trans (N.o.mono ak.o.size)) (by omega) E⟩
def StArg (w:World) (o:Option Addr) (n:Nat):Prop:=
 ∀i,i<n->∃b off s vi vl vp vm vv vr vc,o=some ⟨b,off,none⟩/\(∀j u,(cG s vi vl vp vm vv vr vc)[j]?=some u->w.cell? ⟨b,off+i*27+j,none⟩=some u)/\dN w s vi vl vp vm vv vr vc/\iP s/\∀o n c,vi=.slice o n c->n<=c
theorem xK (x:Int) (w:World) (h:0<=x/\x<=100):Calls Tryz.prog 10 #[.int .i64 x] w fun e w'=>e=.returned (.int .i64 x)/\w=w':=by obtain⟨h0,h1⟩:=h;go_enter Tryz.func10,Tryz.ntmps10;go_wp2;go_ret;exact⟨rfl,rfl⟩
theorem LQ {ts:List aO}:∀t∈ts,t.da.length+t.sh.length<=wt ts:=by
 induction ts with
 |nil=>intro t ht;cases ht
 |cons x xs ih=>
  intro t ht;have e:wt (x::xs)=(x.da.length+x.sh.length)+wt xs:=by simp[wt]
  rcases List.mem_cons.1 ht with rfl|h
  ·omega
  ·have:=ih t h;omega
theorem vU {ts:List aO} (h:wt ts<=300/\ts.length<=300):sU ts:=⟨by omega,fun t ht=>by have:=LQ t ht;omega⟩
def mE (s:aT):List Int:=if cX s then fE s else []
def jW (s:aT):Int:=if cX s then 0 else 1
theorem IK (s:aT):0<=jW s/\jW s<=100:=by unfold jW;split<;>omega
theorem KJ (s:aT) (vi vl vp vm vv vr vc:Value) (w:World) (hr:dN w s vi vl vp vm vv vr vc) (A:∀o n c,vi=.slice o n c->n<=c):
  Calls Tryz.prog 21 #[.agg (cG s vi vl vp vm vv vr vc)] w fun e w'=>e=.returned (.int .i64 (jW s))/\Below w.heap.size w w':=by refine(RO s vi vl vp vm vv vr vc w hr A _ rfl).mono fun e w' h=>⟨h.1.trans ?_,h.2⟩;unfold jW;rfl
theorem U9 (s:aT) (vi vl vp vm vv vr vc:Value) (w:World) (hr:dN w s vi vl vp vm vv vr vc) (A:∀o n c,vi=.slice o n c->n<=c) (ht:iX w) (B:tH s) (C:iP s):
  Calls Tryz.prog 14 #[.agg (cG s vi vl vp vm vv vr vc)] w fun e w'=>∃o c,e=.returned (.tuple #[.slice o (mE s).length c,.int .i64 (jW s)])/\aH w' w.heap.size 5 .u8 (.slice o (mE s).length c) (mE s)/\Below w.heap.size w w':=by
 unfold mE jW;cases hg:cX s with
 |true=>
  refine(F1 s vi vl vp vm vv vr vc w hr A hg ht B C).mono ?_;rintro e w' ⟨hb,v,rfl,ho⟩;obtain⟨o,c,rfl⟩:=aJ ho;exact⟨o,c,rfl,ho,hb⟩
 |false=>
  refine(UM s vi vl vp vm vv vr vc w hr A hg).mono ?_;rintro e w' ⟨rfl,hb⟩;exact⟨none,0,rfl,World.ownsRow_nil _ _ _ _,hb⟩
theorem mX.next {w w':World} {B:Nat} {vi vl vp vm vv vr vc:Value} (h:mX w B vi vl vp vm vv vr vc) (hb:Below w.heap.size w w') (hB:B<=w.heap.size):mX w' B vi vl vp vm vv vr vc:=
 have A:bH B w w':=bH.below hb hB
 ⟨h.input.sp oR A,h.lays.sp A,h.ps.sp A,h.m.sp A,h.v.sp A,h.script.sp spU A,h.order.sp oR A⟩
theorem PP {B:Nat} {w:World} {vi vl vp vm vv vr vc:Value} (h:mX (l0 B w) 0 vi vl vp vm vv vr vc):mX w B vi vl vp vm vv vr vc:=
 ⟨qS h.input,J4 h.lays,wY h.ps,wY h.m,wY h.v,qS h.script,qS h.order⟩
theorem aI.wov {B:Nat} {w:World} {s:aT} {vi vl vp vm vv vr vc:Value} (h:aI (aL B w) w fun W=>oP W s vi vl vp vm vv vr vc):mX w B vi vl vp vm vv vr vc:=
 PP (h _ (VA B w)).2
theorem K2 (v u:Value) (xs:List Int) (w:World) (hr:Rd w .u8 v xs) (hs:Rd w .u8 u xs) (hl:xs.length<=140737488351232):
  Calls Tryz.prog 12 #[v,u] w fun e w'=>e=.returned (.bool true)/\Below w.heap.size w w':=
 (T0 v u xs xs w hr hs hl).mono fun e w' h=>⟨by rw[h.1,decide_eq_true rfl],h.2.below _⟩
theorem DF (s:aT) (vi vl vp vm vv vr vc ui ul up um uv ur uc:Value) (w:World) (hr:dN w s vi vl vp vm vv vr vc) (hs:dN w s ui ul up um uv ur uc):
  Calls Tryz.prog 11 #[.agg (cG s vi vl vp vm vv vr vc),.agg (cG s ui ul up um uv ur uc)] w fun e w'=>e=.returned (.bool true)/\Below w.heap.size w w':=by refine(PV s s vi vl vp vm vv vr vc ui ul up um uv ur uc w hr hs).mono ?_;rintro e w' ⟨⟨bb,rfl,A⟩,hb⟩;obtain rfl:bb=true:=A.2 rfl;exact⟨rfl,hb⟩
theorem CQ {w:World} {s:aT} {vi vl vp vm vv vr vc:Value} (h:dN w s vi vl vp vm vv vr vc):(cG s vi vl vp vm vv vr vc).all (·.oneCell')=true:=by obtain⟨o1,c1,o2,c2,o3,c3,o4,c4,o5,c5,o6,c6,o7,c7,rfl,rfl,rfl,rfl,rfl,rfl,rfl⟩:=h.slices;simp[cG,Value.oneCell']
theorem O5 (o:Option Addr) (n cap:Nat) (w:World) (hn:n<=140737488351232) (ha:StArg w o n) (ht:iX w):
  Calls Tryz.prog 5 #[.slice o n cap] w fun e w'=>e=.returned (.bool true)/\Below w.heap.size w w':=by
 have HA:=Za ha;have HT:=Za ht;clear ha ht;go_enter Tryz.func5,Tryz.ntmps5;go_wp2_with fail;go_loopw[3] (fun i wr=>∃k:Nat,k<=n/\i=.int .i64 k/\Below w.heap.size w wr) (fun i _=>n-(intOf i).toNat)
 case atStart=>exact⟨0,Ze _,rfl,Zc _ _⟩
 case round=>
  obtain⟨k,hk,rfl,hB⟩:=hrel;obtain⟨wo,rfl⟩:=Zx wr;have Z:=Za hB;clear hB;by_cases aa:k<n/\k<4
  ·obtain⟨bo,h2⟩:=aa;obtain⟨b,off,s,vi,vl,vp,vm,vv,vr,vc,rfl,M,cl,cm,av⟩:=HA.o k bo;have dp:=Za av;have bp:=Za cm;have af:=Za (cl.below Z.o (Zb _));have H:∀j u,(cG s vi vl vp vm vv vr vc)[j]?=some u->wo.cell? ⟨b,off+k*27+j,none⟩=some u:=fun j u hj=>(Z.o.cell (p:=⟨b,off+k*27+j,none⟩) (aP (M j u hj))).trans (M j u hj);have bq:=Za (fun(W:World) (A:Below wo.heap.size wo W)=>JS s vi vl vp vm vv vr vc W (af.o.next A));have aw:=Za (fun(W:World) (A:Below wo.heap.size wo W)=>P5 s vi vl vp vm vv vr vc W (af.o.next A) dp.o);obtain⟨CV,ax⟩:=Zx (cG s vi vl vp vm vv vr vc);have F:(Tryz.prog.info? 47).map (·.size)=some CV.size:=by rw[ax];kernel_rfl
   rw[<-ax]at H bq aw;have ag:=Za (fun(W:World) (A:Below wo.heap.size wo W)=>MW A H);have ay:=Za ax;clear M H cl cm av ax;go_wp2_with(first|(refine uF rfl 47 _ rfl b (off+k*27) ?_ CV _ (ag.o _ (Zc _ _)) Tryz.underlying47 rfl F ?_;(first|rfl|skip))|(go_at_call 17;refine(bq.o _ (Zc _ _)).mono ?_;rintro e w1 ⟨⟨hv,rfl,hl⟩,A⟩;refine aD ?_));cases hv with
   |true=>
    have N:=Za (Z.o.trans (A.mono Z.o.size));clear A hl;refine aC ?_;go_wp2_with fail;go_ret;exact⟨rfl,N.o⟩
   |false=>
    have HL:=Za (hl rfl);have N:=Za A;clear A hl;obtain⟨R,hR⟩:=Zx (cX s);rw[<-hR]at aw;have HR:=Za hR;clear hR;refine aC ?_;go_wp2_with(first|(refine uF rfl 47 _ rfl b (off+k*27) ?_ CV _ (ag.o _ N.o) Tryz.underlying47 rfl F ?_;(first|rfl|skip))|(go_at_call 18;refine(aw.o _ N.o).mono ?_;rintro e w2 ⟨rfl,A⟩;refine aD ?_));have ah:=Za (N.o.trans (A.mono N.o.size));clear A bq aw N;obtain⟨bad,bh⟩:=Zx (jW s);obtain⟨E,hE⟩:=Zx (mE s);have O:=Za bh;have HE:=Za hE;clear bh hE;refine aC ?_;go_upto_if 31 with fail
    go_cut[4,5] (fun u v wx=>u=.int .i64 bad/\∃ow cw,v=.slice ow E.length cw/\Rd wx .u8 (.slice ow E.length cw) E/\Below wo.heap.size wo wx)
    case first=>
     cases R with
     |false=>
      have P:=Za (show E=[]/\bad=1 by rw[HE.o,O.o,mE,jW,<-HR.o];exact⟨rfl,rfl⟩);go_wp2_with fail;go_meet;exact⟨by rw[P.o.2],none,0,by rw[P.o.1];rfl,by rw[P.o.1];exact Rd.nil _ _ _ _,ah.o⟩
     |true=>
      have P:=Za (show E=fE s/\bad=0 by rw[HE.o,O.o,mE,jW,<-HR.o];exact⟨rfl,rfl⟩);have br:=Za (J1 s vi vl vp vm vv vr vc w2 (af.o.next ah.o) HR.o.symm HL.o.fit bp.o);rw[<-ay.o]at br;go_wp2_with(first|(refine uF rfl 47 _ rfl b (off+k*27) ?_ CV _ (ag.o _ ah.o) Tryz.underlying47 rfl F ?_;(first|rfl|skip))|(go_at_call 20;refine br.o.mono ?_;rintro e w3 ⟨cn,v3,rfl,bs⟩;refine aD ?_));have T:=Za (ah.o.trans (cn.mono ah.o.size));obtain⟨ow,cw,rfl⟩:=aJ bs;have dq:=Za (Rd.of_own bs);clear cn bs br;refine aC ?_;go_wp2_with fail;go_meet;exact⟨by rw[P.o.2],ow,cw,by rw[P.o.1],by rw[P.o.1];exact dq.o,T.o⟩
    case rest=>
     obtain⟨rfl,ow,cw,rfl,co,A⟩:=hcut;obtain⟨w3,rfl⟩:=Zx wc;have T:=Za A;have cp:=Za co;clear A co ah;have bt:=Za (fun(W:World) (A:Below wo.heap.size wo W)=>MC s vi vl vp vm vv vr vc W (af.o.next A) HL.o.d.1 HL.o.d.2 (vU HL.o.ps) (vU HL.o.m) (vU HL.o.v) (by have:=HL.o.r;omega) (by have:=HL.o.c;omega));rw[<-ay.o]at bt;go_wp2_with(first|(refine uF rfl 47 _ rfl b (off+k*27) ?_ CV _ (ag.o _ T.o) Tryz.underlying47 rfl F ?_;(first|rfl|skip))|(go_at_call 19;refine(bt.o _ T.o).mono ?_;rintro e w4 ⟨ui,ul,up,um,uv,ur,uc,rfl,cq,bi,bu⟩;refine aD ?_));have az:=Za (T.o.trans (bu.mono T.o.size));have bw:=Za cq;have bj:=Za bi;have cr:=Za (HT.o.next (Z.o.trans (az.o.mono Z.o.size)));have cs:=Za (cp.o.below bu (Zb _));clear cq bi bu bt T cp;refine aC ?_;obtain⟨CS,ai⟩:=Zx (cG s ui ul up um uv ur uc);have ab:(Tryz.prog.info? 47).map (·.size)=some CS.size:=by rw[ai];kernel_rfl
     have ak:CS.all (·.oneCell')=true:=by rw[ai];exact CQ bw.o
     have bk:(zR:Array Value).size=CS.size:=by rw[ai];rfl
     have rowS:(w4.alloc (.cells zR 47)).heap[w4.heap.size]?=some (.cells zR 47 (0,0)):=aA.new _ _ _;rw[<-ai];have bx:=Za ai;clear ai;go_upto_region 12 with(first|(refine wpList_store_row rfl 47 _ _ rfl w4.heap.size CS rfl rfl 47 _ rowS ab bk ak ?_));obtain⟨gs,bz⟩:=Zx w4.heap.size;obtain⟨w5,ba⟩:=Zx ((w4.alloc (.cells zR 47)).setRow w4.heap.size CS);rw[<-ba,<-bz];have al:Below w4.heap.size w4 w5:=by rw[ba];exact lO ((Zc _ _).alloc (Zb _) _) (Zb _) _
     have ca:aA w5 gs 47 CS:=by rw[ba,bz];exact(aA.new w4 47 _).setRow _
     have bb:=Za (az.o.trans (al.mono az.o.size));have cc:=Za (bw.o.next al);have ct:=Za (cs.o.below al (Zb _));have cu:=Za (cr.o.next al);have cv:=Za ca;have row5:w5.heap[gs]?=some (.cells CS 47 (0,0)):=ca;clear ba bz al ca rowS ak bk az bw cs cr;have cd:=Za (U9 s ui ul up um uv ur uc w5 cc.o bj.o cu.o HL.o.fit bp.o);rw[<-bx.o,<-HE.o,<-O.o]at cd;go_wp2_with(first|(refine wpList_load_row rfl 47 _ rfl gs rfl 47 CS (0,0) _ row5 Tryz.underlying47 rfl ab ?_)|(go_at_call 14;refine cd.o.mono ?_;rintro e w6 ⟨ob,cb,rfl,cx,ao⟩;refine aD ?_));have U:=Za (bb.o.trans (ao.mono bb.o.size));have ce:=Za (bY cx bb.o.size);have cy:=Za (cv.o.next ao);have cf:=Za (cc.o.next ao);have cz:=Za (ct.o.below ao (Zb _));clear cd cx ao bb cc ct cu cv row5;refine aC ?_;go_upto_region 13 with(fail);have eb:E.length<=100000:=by
      rw[HE.o,mE];by_cases hg:cX s=true
      ·rw[if_pos hg];exact KH hg HL.o
      ·rw[if_neg hg];simp
     have cg:=IK s;rw[<-O.o]at cg;have ch:=Za (fun(W:World) (A:Below w6.heap.size w6 W)=>KJ s ui ul up um uv ur uc W (cf.o.next A) bj.o);have da:=Za (fun(W:World) (A:Below w6.heap.size w6 W)=>K2 (.slice ob E.length cb) (.slice ow E.length cw) E W ((Rd.of_own ce.o).below A (Zb _)) (cz.o.below A (Zb _)) (by omega));have V:=Za (fun(W:World) (A:Below w6.heap.size w6 W)=>DF s ui ul up um uv ur uc vi vl vp vm vv vr vc W (cf.o.next A) (af.o.next (U.o.trans (A.mono U.o.size))));rw[<-bx.o,<-O.o]at ch;rw[<-bx.o,<-ay.o]at V;have C:=Za (fun(W:World) (A:Below w6.heap.size w6 W)=>(show aA W gs 47 CS/\∀j u,CV[j]?=some u->W.cell? ⟨b,off+k*27+j,none⟩=some u from⟨cy.o.next A,ag.o _ (U.o.trans (A.mono U.o.size))⟩));have HD:=Za (show Below w6.heap.size w6 w6.drew from Below.drew (Zc _ _));refine wp_region_held_drew (S:=fun w'=>aA w' gs 47 CS/\∀j u,CV[j]?=some u->w'.cell? ⟨b,off+k*27+j,none⟩=some u) (by kernel_rfl) ?_ (fun X=>?_)
     ·exact C.o _ HD.o
     refine tr (v:=.agg CS) 0 ?_ ?_
     ·(intro w hSw;refine pY 47 (.tmp 6) ?_ gs 0 ?_ CS _ (fun j u hj=>by rw[Nat.zero_add];exact hSw.1.cell j hj) Tryz.underlying47 rfl ab<;>rfl)
     refine tq 3 ?_;refine wpAnyH_ready (rs:=[1]) (by kernel_rfl) (by simp) ?_;refine AllReadyH.cons rfl (fun K G=>?_) AllReadyH.nil
     go_simp
     go_at_call 21
     refine(ch.o _ HD.o).mono ?_;rintro e w7 ⟨rfl,db⟩;have Y:=Za (HD.o.trans (db.mono HD.o.size));refine G _ _ (C.o _ Y.o) (fun I=>?_);clear G K db X
     (try simp only[Act.put,Zk,Zi,Zj,Zf,Zg,Zh])
     refine wpAnyH_ready (rs:=[2]) (by kernel_rfl) (by simp) ?_;refine AllReadyH.cons rfl (fun K G=>?_) AllReadyH.nil
     go_simp
     go_at_call 10
     refine(xK _ _ cg).mono ?_;rintro e wn ⟨rfl,rfl⟩;refine G _ _ (C.o _ Y.o) (fun J=>?_);clear G K I
     (try simp only[Act.put,Zk,Zi,Zj,Zf,Zg,Zh])
     refine tq 4 ?_;refine tq 5 ?_;refine tq 6 ?_;refine tq 8 ?_;refine wpAnyH_ready (rs:=[7]) (by kernel_rfl) (by simp) ?_;refine AllReadyH.cons rfl (fun K G=>?_) AllReadyH.nil
     go_simp
     go_at_call 10
     refine(xK _ _ cg).mono ?_;rintro e wn ⟨rfl,rfl⟩;refine G _ _ (C.o _ Y.o) (fun bc=>?_);clear G K J
     (try simp only[Act.put,Zk,Zi,Zj,Zf,Zg,Zh])
     refine tq 9 ?_;refine tq 10 ?_;refine tq 11 ?_;refine tq 12 ?_;refine tq 13 ?_;refine wpAnyH_ready (rs:=[14]) (by kernel_rfl) (by simp) ?_;refine AllReadyH.cons rfl (fun K G=>?_) AllReadyH.nil
     go_simp
     go_at_call 12
     refine(da.o _ Y.o).mono ?_;rintro e w8 ⟨rfl,dc⟩;have ap:=Za (Y.o.trans (dc.mono Y.o.size));refine G _ _ (C.o _ ap.o) (fun bd=>?_);clear G K dc bc
     (try simp only[Act.put,Zk,Zi,Zj,Zf,Zg,Zh])
     refine tq 15 ?_;refine tq 16 ?_;refine tq 17 ?_;refine tr (v:=.agg CS) 18 ?_ ?_
     ·(intro w hSw;refine pY 47 (.tmp 6) ?_ gs 0 ?_ CS _ (fun j u hj=>by rw[Nat.zero_add];exact hSw.1.cell j hj) Tryz.underlying47 rfl ab<;>rfl)
     refine tq 19 ?_;refine tq 20 ?_;refine tq 21 ?_;refine tr (v:=.agg CV) 22 ?_ ?_
     ·(intro w hSw;refine pY 47 (.tmp 68) ?_ b (off+k*27) ?_ CV _ hSw.2 Tryz.underlying47 rfl F<;>rfl)
     refine wpAnyH_ready (rs:=[23]) (by kernel_rfl) (by simp) ?_;refine AllReadyH.cons rfl (fun K G=>?_) AllReadyH.nil
     go_simp
     go_at_call 11
     refine(V.o _ ap.o).mono ?_;rintro e w9 ⟨rfl,dd⟩;have be:=Za (ap.o.trans (dd.mono ap.o.size));refine G _ _ (C.o _ be.o) (fun bf=>?_);clear G K dd bd
     (try simp only[Act.put,Zk,Zi,Zj,Zf,Zg,Zh])
     refine tq 24 ?_;refine tq 25 ?_;refine wpAnyH_done (by kernel_rfl) ?_ _;have ci:=Za (cI ce.o be.o (Zb _));have bg:=Za (U.o.trans (be.o.mono U.o.size));clear ch da V C HD Y ap be ce U cy cf cz bf;cases R with
     |false=>
      have HF:=Za (Z.o.trans (bg.o.mono Z.o.size));have dr:bad=1:=by rw[O.o,jW,<-HR.o];rfl
      subst dr;go_wp2_with fail;go_roundw
      case rel=>exact⟨k+1,by omega,by go_num,HF.o⟩
      case measure=>simp[intOf];omega
     |true=>
      have ds:bad=0:=by rw[O.o,jW,<-HR.o];rfl
      have HG:=Za HR.o.symm;have du:=Za (show E=fE s by rw[HE.o,mE,<-HR.o];rfl);have de:=Za (xE s);have df:=Za (GH s);have dg:=Za (R9 s);have dv:=Za (P4 s HG.o bp.o);have dw:4<=(fE s).length:=by rw[fE,Zl,cO];omega
      rw[<-du.o]at de df dg dw;obtain⟨g,cE,he,dx,dy⟩:=aH.at ci.o (by omega);injection he with dz ec ea;subst dz ea ds;obtain⟨kk4,dh⟩:∃q,q+4=E.length:=⟨E.length-4,by omega⟩;have di:=Za (RQ (some ⟨g,0,none⟩) cb kk4 E s w9 (Rd.of_own ci.o) df.o dh (by omega) (by obtain⟨_,_,h1,h2⟩:=jK ci.o;cases h1;exact h2) dg.o (by rw[show kk4=E.length-4 by omega,de.o.1];exact dv.o) HG.o);clear dh dx dy;go_wp2_with(go_at_call 8;refine di.o.mono ?_;rintro e w12 ⟨xi,xl,xp,xm,xv,xr,xc,rfl,hh,av,A⟩;refine aD ?_);have aq:=Za (bg.o.trans (A.mono bg.o.size));have ac:=Za (hh.base bg.o.size);clear di A hh av;refine aC ?_;obtain⟨CX,aj⟩:=Zx (cG s xi xl xp xm xv xr xc);have ar:(Tryz.prog.info? 47).map (·.size)=some CX.size:=by rw[aj];kernel_rfl
      have au:CX.all (·.oneCell')=true:=by rw[aj];exact CQ ac.o.here.1
      have bl:(zR:Array Value).size=CX.size:=by rw[aj];rfl
      have rowX:(w12.alloc (.cells zR 47)).heap[w12.heap.size]?=some (.cells zR 47 (0,0)):=aA.new _ _ _;rw[<-aj];have D:=Za aj;clear aj;go_upto_region 17 with(first|(refine wpList_store_row rfl 47 _ _ rfl w12.heap.size CX rfl rfl 47 _ rowX ar bl au ?_));obtain⟨gx,cj⟩:=Zx w12.heap.size;obtain⟨w13,ad⟩:=Zx ((w12.alloc (.cells zR 47)).setRow w12.heap.size CX);rw[<-ad,<-cj];have ae:Below w12.heap.size w12 w13:=by rw[ad];exact lO ((Zc _ _).alloc (Zb _) _) (Zb _) _
      have dj:aA w13 gx 47 CX:=by rw[ad,cj];exact(aA.new w12 47 _).setRow _
      have B:=Za (aq.o.trans (ae.mono aq.o.size));have dk:=Za (ac.o.grow ae).here.1;have dl:=Za (ac.o.grow ae).wov;have HD:=Za (show Below w13.heap.size w13 w13.drew from Below.drew (Zc _ _));have ck:=Za dj;have V:=Za (DF s xi xl xp xm xv xr xc vi vl vp vm vv vr vc w13.drew (dk.o.next HD.o) (af.o.next (B.o.trans (HD.o.mono B.o.size))));rw[<-D.o,<-ay.o]at V;have C:=Za (fun(W:World) (A:Below w13.heap.size w13 W)=>(show aA W gx 47 CX/\∀j u,CV[j]?=some u->W.cell? ⟨b,off+k*27+j,none⟩=some u from⟨ck.o.next A,ag.o _ (B.o.trans (A.mono B.o.size))⟩));clear ad cj ae dj rowX au bl aq ac;refine wp_region_held_drew (S:=fun w'=>aA w' gx 47 CX/\∀j u,CV[j]?=some u->w'.cell? ⟨b,off+k*27+j,none⟩=some u) (by kernel_rfl) ?_ (fun X=>?_)
      ·exact C.o _ HD.o
      refine tq 0 ?_;refine wpAnyH_ready (rs:=[1]) (by kernel_rfl) (by simp) ?_;refine AllReadyH.cons rfl (fun K G=>?_) AllReadyH.nil
      go_simp
      go_at_call 10
      refine(xK 0 _ (by omega)).mono ?_;rintro e wn ⟨rfl,rfl⟩;refine G _ _ (C.o _ HD.o) (fun I=>?_);clear G K
      (try simp only[Act.put,Zk,Zi,Zj,Zf,Zg,Zh])
      refine tq 2 ?_;refine tq 3 ?_;refine tr (v:=.agg CX) 4 ?_ ?_
      ·(intro w hSw;refine pY 47 (.tmp 9) ?_ gx 0 ?_ CX _ (fun j u hj=>by rw[Nat.zero_add];exact hSw.1.cell j hj) Tryz.underlying47 rfl ar<;>rfl)
      refine tq 5 ?_;refine tq 6 ?_;refine tq 7 ?_;refine tr (v:=.agg CV) 8 ?_ ?_
      ·(intro w hSw;refine pY 47 (.tmp 87) ?_ b (off+k*27) ?_ CV _ hSw.2 Tryz.underlying47 rfl F<;>rfl)
      refine wpAnyH_ready (rs:=[9]) (by kernel_rfl) (by simp) ?_;refine AllReadyH.cons rfl (fun K G=>?_) AllReadyH.nil
      go_simp
      go_at_call 11
      refine V.o.mono ?_;rintro e w14 ⟨rfl,bm⟩;have L:=Za (HD.o.trans (bm.mono HD.o.size));refine G _ _ (C.o _ L.o) (fun J=>?_);clear G K bm
      (try simp only[Act.put,Zk,Zi,Zj,Zf,Zg,Zh])
      refine tq 10 ?_;refine tq 11 ?_;refine wpAnyH_done (by kernel_rfl) ?_ _;have bn:=Za (B.o.trans (L.o.mono B.o.size));have dm:=Za (ck.o.next L.o);have row14:w14.heap[gx]?=some (.cells CX 47 (0,0)):=dm.o;have dn:=Za (LZ CX xi xl xp xm xv xr xc s.m.powMu s.m.powNu s.m.steps wo.heap.size w14 (dl.o.next L.o B.o.size) bn.o.size (by rw[D.o];rfl) (by rw[D.o];rfl) (by rw[D.o];rfl) (by rw[D.o];rfl) (by rw[D.o];rfl) (by rw[D.o];rfl) (by rw[D.o];rfl) (by rw[D.o];rfl) (by rw[D.o];rfl) (by rw[D.o];rfl));clear C HD L V ck dk dl B X I J;go_wp2_with(first|(refine wpList_load_row rfl 47 _ rfl gx rfl 47 CX (0,0) _ row14 Tryz.underlying47 rfl ar ?_)|(go_at_call 15;refine dn.o.mono ?_;rintro e w15 ⟨rfl,hs⟩;refine aD ?_));have HF:=Za (Z.o.trans ((bn.o.trans hs.low).mono Z.o.size));clear hs dn row14;refine aC ?_;go_wp2_with fail;go_roundw
      case rel=>exact⟨k+1,by omega,by go_num,HF.o⟩
      case measure=>simp[intOf];omega
  ·by_cases bo:k<n
   ·have h2:¬k<4:=fun h=>aa ⟨bo,h⟩;clear aa;go_wp2_with fail;refine(zI _).mono ?_;rintro e w' ⟨rfl,A⟩;have HF:=Za (Z.o.trans (A.mono Z.o.size));clear A;go_wp2;go_ret;exact⟨rfl,HF.o⟩
   ·clear aa;go_wp2_with fail;refine(zI _).mono ?_;rintro e w' ⟨rfl,A⟩;have HF:=Za (Z.o.trans (A.mono Z.o.size));clear A;go_wp2;go_ret;exact⟨rfl,HF.o⟩
