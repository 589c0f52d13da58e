/-
  A part of the proof of a law (packed by program).
-/
import Derived.Test.YtjhkdocidcfpdaaGreatDoorTM48
import Derived.Test.YtjhkdocidcfpdaaGreatDoorTM47
import Derived.Test.YtjhkdocidcfpdaaGreatDoorTM39
import Derived.Test.YtjhkdocidcfpdaaGreatDoorTM51
set_option linter.unusedVariables false
set_option linter.unusedSimpArgs false
set_option maxRecDepth 100000
set_option maxHeartbeats 16000000
open List renaming setIfInBounds_toArray → Zf, set_cons_zero → Zg, set_cons_succ → Zh, getElem_cons_zero → Zi, getElem_cons_succ → Zj, getElem_toArray → Zk, length_append → Zl
namespace Go.Proofs.YtjhkdocidcfpdaaGreatDoor
open Go.RowKit Go.Shelf Go
theorem GD {w:World} {R S:Nat} {T:TypeId} {cs ds:Array Value} {rem:List Int} (h:cP w R rem) (hb:aA w S T cs) (hne:S≠R) (hu:∀(j:Nat) (x:Int),cs[j]?≠some (.int .u8 x)):cP (w.setRow S ds) R rem:=by
 obtain⟨o,cap,hbx,hc,hr,hlow⟩:=h;refine⟨o,cap,hbx.setRowO hne ds,hc,?_,hlow⟩;obtain⟨o',cap',he,hcell⟩:=hr;refine⟨o',cap',he,fun j hj=>?_⟩;obtain⟨b,off,ho,hcl⟩:=hcell j hj;refine⟨b,off,ho,?_⟩;by_cases e:b=S
 ·exfalso;subst e;rw[cell_of_row w b (off+j) _ _ _ hb]at hcl;exact hu _ _ hcl
 ·exact(World.cell?_of_block (w:=w) (a:=⟨b,off+j,none⟩) (setRow_other w S b ds e)).trans hcl
def eH:Array Value:=#[.int .i64 0,.slice none 0 0,.slice none 0 0,.int .i64 0,.int .i64 0,.int .i64 0,.int .i64 0,.int .i64 0,.int .i64 0,.int .i64 0,.int .i64 0,.int .i64 0,.int .i64 0,.slice none 0 0,.slice none 0 0,.slice none 0 0,.int .i64 0,.int .i64 0,.int .i64 0,.slice none 0 0,.int .u64 0,.int .u64 0,.int .u64 0,.int .u64 0,.slice none 0 0,.int .i64 0,.int .i64 0]
theorem QD:∀(j:Nat) (x:Int),eH[j]?≠some (.int .u8 x):=by intro j x h;rw[eH,List.getElem?_toArray]at h;have:=List.mem_of_getElem? h;simp at this
theorem RV {w w':World} {R g:Nat} {T:TypeId} {cs:Array Value} (h:aA w g T cs) (hm:aZ w w' R) (hg:g≠R):aA w' g T cs:=(gG hm h.lt hg).trans h
theorem M5 (R S:Nat) (rem rest:List Int) (s:aX) (w:World) (hq:cR w w R rem) (hst:mS rem=some (s,rest)) (hS:aA w S 47 eH) (hne:S≠R):
  Calls Tryz.prog 26 #[.pointer (some ⟨R,0,none⟩),.pointer (some ⟨S,0,none⟩)] w fun e w'=>e=.returned (.tuple #[])∧∃vi vl vp vm vv vr vc,aA w' S 47 (cW s vi vl vp vm vv vr vc)∧aI (aL (w.heap.size+1) w') w' (fun W=>eC W s vi vl vp vm vv vr vc)∧(∀o n c,vi=.slice o n c→n≤c)∧cP w' R rest∧aW R S w w'∧∀B,B≤R→B≤S→B≤w.heap.size→Below B w w':=by
 have HQ:=Za hq;have HST:=Za hst;have HSB:=Za hS;have hSl:=hS.lt;clear hq hst hS;go_enter Tryz.func26,Tryz.ntmps26;go_wp2_with(go_at_call 27;refine(NT R rem rest s _ HQ.o HST.o).mono ?_;rintro e w1 ⟨vi,vl,vp,vm,vv,vr,vc,rfl,hh,hc,hq1⟩;have HH:=Za hh;have HC:=Za hc;have HQ1:=Za hq1;clear hh hc hq1;refine aD ?_);have hb1:aA w1 S 47 eH:=RV HSB.o HQ1.o.moved hne;have hsz:=HQ1.o.moved.size;obtain⟨E,hE⟩:∃E,E=cW s vi vl vp vm vv vr vc:=⟨_,rfl⟩;rw[←hE];have hszE:(Tryz.prog.info? 47).map (·.size)=some E.size:=by rw[hE];kernel_rfl
 have hzE:eH.size=E.size:=by rw[hE];rfl
 have honeE:E.all (·.oneCell')=true:=by obtain⟨o1,c1,o2,c2,o3,c3,o4,c4,o5,c5,o6,c6,o7,c7,rfl,rfl,rfl,rfl,rfl,rfl,rfl⟩:=HH.o.here.slices;rw[hE];simp[cW,Value.oneCell']
 have row:w1.heap[S]?=some (.cells eH 47 (0,0)):=hb1;have HE:=Za hE;clear hE;refine aC ?_;go_wp2_with(refine wpList_store_row rfl 47 _ _ rfl S E rfl rfl 47 _ row hszE hzE honeE ?_);go_end0;refine⟨rfl,vi,vl,vp,vm,vv,vr,vc,by rw[←HE.o];exact hb1.setRow E,HH.o.setRow (by omega) E,HC.o,GD HQ1.o.at_ hb1 hne QD,⟨by rw[setRow_size];exact hsz,fun k hk h1 h2=>(setRow_other w1 S k E h2).trans (gG HQ1.o.moved hk h1)⟩,fun B hR hS hB=>kB (HQ1.o.moved.below hR hB) hS E⟩
theorem AZ {P:Program} {fn:Func} {p u:Tmp} {ty:TypeId} (h:fn.results=#[.cell p ty,.tmp u]) (tmps:Array Value) (w:World) (g:Nat) (t:TypeId) (cs:Array Value) (fr:Nat×Nat) (d:TypeDesc)
  (hp:tmps.getD p undef=.pointer (some ⟨g,0,none⟩)) (hg:w.heap[g]?=some (.cells cs t fr))
  (hu:P.underlying ty=some d) (hd:(match d with|.struct _|.array _ _=>true|_=>false)=true) (hi:(P.info? ty).map (·.size)=some cs.size):
  (results fn tmps).run P w=.ok (.tuple #[.agg cs,tmps.getD u undef]) w:=by
 have hp':tmps[p]?.getD undef=.pointer (some ⟨g,0,none⟩):=by simpa using hp
 simp[results,h,hp',asAddr,run_loadVar_row w g t ty cs fr d hg hu hd hi]
theorem AU {w:World} {B:Nat} {b off cap k:Nat} {bs:List Int} (hr:Rd w .u8 (.slice (some ⟨b,off,none⟩) bs.length cap) bs) (hw:Wf .u8 bs) (hk:k≤bs.length) (hl:bs.length≤100000) (hcap:bs.length≤cap) (hb:b<B) (hbx:aA w B 128 #[.slice (some ⟨b,off+k,none⟩) (bs.length-k) (cap-k)]):cR w w B (bs.drop k):=by
 refine cR.start ⟨some ⟨b,off+k,none⟩,cap-k,?_,?_,?_,fun h0 a ha=>?_⟩ (tG hw k) (by rw[List.length_drop];omega)
 ·rw[List.length_drop];exact hbx
 ·rw[List.length_drop];omega
 ·rw[List.length_drop];have:=Rd.drop hr k hk (c:=cap-k);by_cases h0:k=0;subst h0;simpa [Addr.add]using this;simpa [Addr.add,h0]using this
 ·cases ha;exact hb
theorem Q8 (o:Option Addr) (cap k:Nat) (bs:List Int) (w:World) (hr:Rd w .u8 (.slice o bs.length cap) bs) (hw:Wf .u8 bs) (hk:k+4=bs.length) (hl:bs.length≤100000) (hcap:bs.length≤cap) (hs:jQ bs=false):
  Calls Tryz.prog 8 #[.slice o bs.length cap] w fun e w'=>e=.returned (.tuple #[.agg eH,.int .i64 1])∧Below w.heap.size w w':=by
 obtain⟨b,off,ho,hc0⟩:=hr.cell 0 (by omega);subst ho;have hbw:=aP hc0;have hmf:∀(fn:Fn) (first cap:Array Value) (w:World),(Instr.makeFunc fn first cap).run Tryz.prog w=.ok (.func fn first cap) w:=fun _ _ _ _=>rfl;have hw4:IntKind.i64.wrap ((bs.length:Int)-4)=(k:Int):=by rw[IntWalk.i64_in _ (by omega)];omega
 have hk4:(bs.length:Int)-4=(k:Int):=by omega
 have hck:¬cap=k:=by omega
 obtain⟨W3,hW3⟩:∃W3,W3=((w.alloc (.cells #[.slice (some ⟨b,off,none⟩) bs.length cap] 23)).alloc (.cells eH 47)).alloc (.cells #[.int .i64 k] 3):=⟨_,rfl⟩;have hB:W3.heap.size=w.heap.size+3:=by rw[hW3];simp
 have b1:Below w.heap.size w W3:=by rw[hW3];exact(((Zc _ _).alloc (Zb _) _).alloc (by simp) _).alloc (by simp;omega) _
 have xb:aA W3 w.heap.size 23 #[.slice (some ⟨b,off,none⟩) bs.length cap]:=by rw[hW3];exact((aA.new _ _ _).next ((Zc _ _).alloc (Zb _) _)).next ((Zc _ _).alloc (Zb _) _)
 have xs:aA W3 (w.heap.size+1) 47 eH:=by rw[hW3];exact(aA.new_at (by simp)).next ((Zc _ _).alloc (Zb _) _)
 have xn:aA W3 (w.heap.size+2) 3 #[.int .i64 k]:=by rw[hW3];exact aA.new_at (by simp)
 obtain⟨W5,hW5⟩:∃W5,W5=(W3.alloc (.cells #[.bool false] 4)).alloc (.cells #[.slice (some ⟨b,off+k,none⟩) (bs.length-k) (cap-k)] 128):=⟨_,rfl⟩;have b35:Below W3.heap.size W3 W5:=by rw[hW5];exact((Zc _ _).alloc (Zb _) _).alloc (by simp) _
 have y3:aA W5 (w.heap.size+3) 4 #[.bool false]:=by rw[hW5];exact(aA.new_at hB).next ((Zc _ _).alloc (Zb _) _)
 have y4:aA W5 (w.heap.size+4) 128 #[.slice (some ⟨b,off+k,none⟩) (bs.length-k) (cap-k)]:=by rw[hW5];exact aA.new_at (by simp[hB])
 have hr5:Rd W5 .u8 (.slice (some ⟨b,off,none⟩) bs.length cap) bs:=(hr.below b1 (Zb _)).below b35 (Zb _);have hq5:cR W5 W5 (w.heap.size+4) (bs.drop k):=AU hr5 hw (by omega) hl hcap (by omega) y4;have HE:=Za (fun(args:Array Value) (u:World)=>enters_of (P:=Tryz.prog) Tryz.func23 (by kernel_rfl) rfl args u);have HRD:=Za (G0 (some ⟨b,off+k,none⟩) (bs.length-k) (cap-k) 23 #[.pointer (some ⟨w.heap.size,0,none⟩),.pointer (some ⟨w.heap.size+2,0,none⟩)] W3 (fun w'=>aZ W5 w' (w.heap.size+4)) (B:=w.heap.size+3) hB HE.o
  (hW5▸(BD (w.heap.size+4) w.heap.size (w.heap.size+2) (some ⟨b,off,none⟩) cap k bs W5 hq5 hk hcap (xb.next b35) (xn.next b35) (by omega) (by omega) hr5 hw hl).mono fun e w' ⟨hq,ho⟩=>by
   rcases ho with⟨h,_⟩|⟨_,he⟩
   ·rw[hs]at h;cases h
   ·exact⟨he,hq.moved,mX y3 hq.moved (by omega)⟩))
 have HXS:=Za (xs.next b35);have HB15:=Za (b1.trans (b35.mono b1.size));have HSZ:=Za (show W5.heap.size=w.heap.size+5 by rw[hW5];simp[hB]);have HW3:=Za hW3;clear hr hw hs hc0 hr5 hq5 xb xs xn y3 y4 b1 b35 hW5 hB hW3;go_enter Tryz.func8,Tryz.ntmps8;go_wp2_with fail;have hw3:=HW3.o;unfold eH at hw3;rw[←hw3];clear hw3;refine HRD.o.mono ?_;rintro e w' ⟨rfl,w1,hm,rfl⟩;have hz:=HSZ.o;have hms:=hm.size;have hx1:aA w1 (w.heap.size+1) 47 eH:=mX HXS.o hm (by omega);have hx5:aA ((w1.alloc (.cells #[] 125)).setCell ⟨w.heap.size+3,0,none⟩ (.bool false)) (w.heap.size+1) 47 eH:=aA.other (p:=⟨w.heap.size+3,0,none⟩) (hx1.next ((Zc _ _).alloc (Zb _) _)) (by show w.heap.size+3≠w.heap.size+1;omega) (.bool false);have hb5:Below w.heap.size w ((w1.alloc (.cells #[] 125)).setCell ⟨w.heap.size+3,0,none⟩ (.bool false)):=((HB15.o.trans (hm.below (B:=w.heap.size) (by omega) (by omega))).alloc (by omega) _).setCell (p:=⟨w.heap.size+3,0,none⟩) (by show w.heap.size≤w.heap.size+3;omega) (.bool false);generalize ((w1.alloc (.cells #[] 125)).setCell ⟨w.heap.size+3,0,none⟩ (.bool false))=w5 at hx5 hb5 ⊢;have HX5:=Za hx5;have HB5:=Za hb5;have hszE:(Tryz.prog.info? 47).map (·.size)=some eH.size:=by kernel_rfl
 have honeE:eH.all (·.oneCell')=true:=by simp[eH,Value.oneCell']
 have row:w5.heap[w.heap.size+1]?=some (.cells eH 47 (0,0)):=hx5;clear hx1 hx5 hb5 hm hms hz;go_wp2_with(refine wpList_store_row rfl 47 _ _ rfl (w.heap.size+1) eH rfl rfl 47 _ row hszE rfl honeE ?_);have hx6:=HX5.o.setRow eH;exact bodyPost_ret (AZ rfl _ _ (w.heap.size+1) 47 _ (0,0) _ rfl hx6 Tryz.underlying47 rfl hszE) rfl ⟨rfl,kB HB5.o (by omega) eH⟩
theorem FW {w:World} {B:Nat} {b off cap k:Nat} {bs:List Int} (hr:Rd w .u8 (.slice (some ⟨b,off,none⟩) bs.length cap) bs) (hw:Wf .u8 bs) (hk:k≤bs.length) (hl:bs.length≤100000) (hcap:bs.length≤cap) (hb:b<B) (hbx:aA w B 128 #[.slice (some ⟨b,off,none⟩) k cap]):cR w w B (bs.take k):=by
 have e:(bs.take k).length=k:=by rw[List.length_take];omega
 refine cR.start ⟨some ⟨b,off,none⟩,cap,?_,?_,?_,fun h0 a ha=>?_⟩ (hw.take k) (by omega)
 ·rw[e];exact hbx
 ·omega
 ·rw[e];exact Rd.take hr k hk
 ·cases ha;exact hb
theorem FF {P:Program} {ops:Array Oper} {rest:List Oper} {o:Oper} {a:Act} {w:World} {Q:Exit→Act→World→Prop} (hw:Region.wanted o (yielded ops a.tmps)=true) (ty:TypeId) (x:Operand) (ho:o.op=.load ty x)
  (g:Nat) (hx:a.eval x=.pointer (some ⟨g,0,none⟩)) (t:TypeId) (cs:Array Value) (fr:Nat×Nat) (d:TypeDesc) (hg:w.heap[g]?=some (.cells cs t fr))
  (hu:P.underlying ty=some d) (hd:(match d with|.struct _|.array _ _=>true|_=>false)=true) (hi:(P.info? ty).map (·.size)=some cs.size)
  (h:wpList P ops Q rest (a.put o.dst (.agg cs)) w):wpList P ops Q (o::rest) a w:=by rw[wpList,if_pos hw];left;exact wp_load_row ty x ho g hx t cs fr d hg hu hd hi h
theorem GN (o:Option Addr) (cap k:Nat) (bs:List Int) (s:aX) (w:World) (hr:Rd w .u8 (.slice o bs.length cap) bs) (hw:Wf .u8 bs) (hk:k+4=bs.length) (hl:bs.length≤100000) (hcap:bs.length≤cap) (hs:jQ bs=true) (hst:mS (bs.take k)=some (s,[])) (hg:dF s=true):
  Calls Tryz.prog 8 #[.slice o bs.length cap] w fun e w'=>∃vi vl vp vm vv vr vc,e=.returned (.tuple #[.agg (cW s vi vl vp vm vv vr vc),.int .i64 0])∧aI (aL w.heap.size w') w' (fun W=>eC W s vi vl vp vm vv vr vc)∧(∀o n c,vi=.slice o n c→n≤c)∧Below w.heap.size w w':=by
 obtain⟨b,off,ho,hc0⟩:=hr.cell 0 (by omega);subst ho;have hbw:=aP hc0;have hmf:∀(fn:Fn) (first cap:Array Value) (w:World),(Instr.makeFunc fn first cap).run Tryz.prog w=.ok (.func fn first cap) w:=fun _ _ _ _=>rfl;have hw4:IntKind.i64.wrap ((bs.length:Int)-4)=(k:Int):=by rw[IntWalk.i64_in _ (by omega)];omega
 have hk4:(bs.length:Int)-4=(k:Int):=by omega
 have hck:¬cap=k:=by omega
 obtain⟨W3,hW3⟩:∃W3,W3=((w.alloc (.cells #[.slice (some ⟨b,off,none⟩) bs.length cap] 23)).alloc (.cells eH 47)).alloc (.cells #[.int .i64 k] 3):=⟨_,rfl⟩;have hB:W3.heap.size=w.heap.size+3:=by rw[hW3];simp
 have b1:Below w.heap.size w W3:=by rw[hW3];exact(((Zc _ _).alloc (Zb _) _).alloc (by simp) _).alloc (by simp;omega) _
 have xb:aA W3 w.heap.size 23 #[.slice (some ⟨b,off,none⟩) bs.length cap]:=by rw[hW3];exact((aA.new _ _ _).next ((Zc _ _).alloc (Zb _) _)).next ((Zc _ _).alloc (Zb _) _)
 have xs:aA W3 (w.heap.size+1) 47 eH:=by rw[hW3];exact(aA.new_at (by simp)).next ((Zc _ _).alloc (Zb _) _)
 have xn:aA W3 (w.heap.size+2) 3 #[.int .i64 k]:=by rw[hW3];exact aA.new_at (by simp)
 obtain⟨W5,hW5⟩:∃W5,W5=(W3.alloc (.cells #[.bool false] 4)).alloc (.cells #[.slice (some ⟨b,off+k,none⟩) (bs.length-k) (cap-k)] 128):=⟨_,rfl⟩;have b35:Below W3.heap.size W3 W5:=by rw[hW5];exact((Zc _ _).alloc (Zb _) _).alloc (by simp) _
 have y3:aA W5 (w.heap.size+3) 4 #[.bool false]:=by rw[hW5];exact(aA.new_at hB).next ((Zc _ _).alloc (Zb _) _)
 have y4:aA W5 (w.heap.size+4) 128 #[.slice (some ⟨b,off+k,none⟩) (bs.length-k) (cap-k)]:=by rw[hW5];exact aA.new_at (by simp[hB])
 have hr5:Rd W5 .u8 (.slice (some ⟨b,off,none⟩) bs.length cap) bs:=(hr.below b1 (Zb _)).below b35 (Zb _);have hq5:cR W5 W5 (w.heap.size+4) (bs.drop k):=AU hr5 hw (by omega) hl hcap (by omega) y4;have HE:=Za (fun(args:Array Value) (u:World)=>enters_of (P:=Tryz.prog) Tryz.func23 (by kernel_rfl) rfl args u);have HRD:=Za (CU (some ⟨b,off+k,none⟩) (bs.length-k) (cap-k) 23 #[.pointer (some ⟨w.heap.size,0,none⟩),.pointer (some ⟨w.heap.size+2,0,none⟩)] W3 [] (fun w'=>aZ W5 w' (w.heap.size+4)) (B:=w.heap.size+3) hB HE.o
  (hW5▸(BD (w.heap.size+4) w.heap.size (w.heap.size+2) (some ⟨b,off,none⟩) cap k bs W5 hq5 hk hcap (xb.next b35) (xn.next b35) (by omega) (by omega) hr5 hw hl).mono fun e w' ⟨hq,ho⟩=>by
   rcases ho with⟨_,he⟩|⟨h,_⟩
   ·exact⟨he,hq.moved,mX y3 hq.moved (by omega),hq.at_⟩
   ·rw[hs]at h;cases h))
 have HXS:=Za (xs.next b35);have HXB:=Za (xb.next b35);have HXN:=Za (xn.next b35);have HB15:=Za (b1.trans (b35.mono b1.size));have HSZ:=Za (show W5.heap.size=w.heap.size+5 by rw[hW5];simp[hB]);have HW3:=Za hW3;have HR:=Za hr;have HW:=Za hw;have HST:=Za hst;have HG:=Za hg;clear hr hw hs hc0 hr5 hq5 xb xs xn y3 y4 b1 b35 hW5 hB hW3 hst hg;go_enter Tryz.func8,Tryz.ntmps8;go_wp2_with fail;have hw3:=HW3.o;unfold eH at hw3;rw[←hw3];clear hw3;refine HRD.o.mono ?_;rintro e w' ⟨rfl,w1,bq,hm,rfl⟩;have hz:=HSZ.o;have hms:=hm.size;have ht:∀{j:Nat} {T:TypeId} {cs:Array Value},aA W5 (w.heap.size+j) T cs→j≠4→j≠3→aA (w1.setCell ⟨w.heap.size+3,0,none⟩ (.bool bq)) (w.heap.size+j) T cs:=fun h h4 h3=>aA.other (p:=⟨w.heap.size+3,0,none⟩) (mX h hm (by omega)) (by show w.heap.size+3≠_;omega) (.bool bq);have hx5:=ht HXS.o (by decide) (by decide);have hxb:=ht (j:=0) HXB.o (by decide) (by decide);have hxn:=ht HXN.o (by decide) (by decide);have hb5:Below w.heap.size w (w1.setCell ⟨w.heap.size+3,0,none⟩ (.bool bq)):=(HB15.o.trans (hm.below (B:=w.heap.size) (by omega) (by omega))).setCell (p:=⟨w.heap.size+3,0,none⟩) (by show w.heap.size≤w.heap.size+3;omega) (.bool bq);have hsz5:w.heap.size+5≤(w1.setCell ⟨w.heap.size+3,0,none⟩ (.bool bq)).heap.size:=by simp;omega
 clear ht;generalize (w1.setCell ⟨w.heap.size+3,0,none⟩ (.bool bq))=w5 at hx5 hxb hxn hb5 hsz5 ⊢;have HX5:=Za hx5;have HB5:=Za hb5;have HXB5:=Za hxb;have HXN5:=Za hxn;have c0:w5.cell? ⟨w.heap.size,0,none⟩=some (.slice (some ⟨b,off,none⟩) bs.length cap):=hxb.cell 0 rfl;have c2:w5.cell? ⟨w.heap.size+2,0,none⟩=some (.int .i64 k):=hxn.cell 0 rfl;have c2':w5.cell? ⟨w.heap.size+1+1,0,none⟩=some (.int .i64 k):=hxn.cell 0 rfl;obtain⟨W7,hW7⟩:∃W7,W7=(w5.alloc (.cells #[.bool false] 4)).alloc (.cells #[.slice (some ⟨b,off,none⟩) k cap] 128):=⟨_,rfl⟩;have b57:Below w5.heap.size w5 W7:=by rw[hW7];exact((Zc _ _).alloc (Zb _) _).alloc (by simp) _
 have y3:aA W7 w5.heap.size 4 #[.bool false]:=by rw[hW7];exact(aA.new _ _ _).next ((Zc _ _).alloc (Zb _) _)
 have y4:aA W7 (w5.heap.size+1) 128 #[.slice (some ⟨b,off,none⟩) k cap]:=by rw[hW7];exact aA.new_at (by simp)
 have hr7:Rd W7 .u8 (.slice (some ⟨b,off,none⟩) bs.length cap) bs:=(HR.o.below hb5 (Zb _)).below b57 (Zb _);have hq7:cR W7 W7 (w5.heap.size+1) (bs.take k):=FW hr7 HW.o (by omega) hl hcap (by omega) y4;have HE2:=Za (fun(args:Array Value) (u:World)=>enters_of (P:=Tryz.prog) Tryz.func26 (by kernel_rfl) rfl args u);have HRD2:=Za (CU (some ⟨b,off,none⟩) k cap 26 #[.pointer (some ⟨w.heap.size+1,0,none⟩)] w5 [] (fun w'=>∃vi vl vp vm vv vr vc,aA w' (w.heap.size+1) 47 (cW s vi vl vp vm vv vr vc)∧aI (aL (W7.heap.size+1) w') w' (fun W=>eC W s vi vl vp vm vv vr vc)∧(∀o n c,vi=.slice o n c→n≤c)∧Below w.heap.size W7 w') (B:=w5.heap.size) rfl HE2.o
  (hW7▸(M5 (w5.heap.size+1) (w.heap.size+1) (bs.take k) [] s W7 hq7 HST.o (hx5.next b57) (by omega)).mono fun e w' ⟨he,vi,vl,vp,vm,vv,vr,vc,h1,h2,h3,h4,h5,h6⟩=>⟨he,⟨vi,vl,vp,vm,vv,vr,vc,h1,h2,h3,h6 _ (by omega) (by omega) (by have:=b57.size;omega)⟩,(h5.block _ y3.lt (by omega) (by omega)).trans y3,h4⟩))
 have HK57:=Za b57;have HS7:=Za (show W7.heap.size=w5.heap.size+2 by rw[hW7];simp);clear hx5 hxb hxn hb5 hm hms hz b57 y3 y4 hr7 hq7 hW7;go_wp2_with fail;refine HRD2.o.mono ?_;rintro e w' ⟨rfl,w8,b2,⟨vi,vl,vp,vm,vv,vr,vc,h1,h2,h3,h5⟩,rfl⟩;have hs7:=HS7.o;have hx9:aA (w8.setCell ⟨w5.heap.size,0,none⟩ (.bool b2)) (w.heap.size+1) 47 (cW s vi vl vp vm vv vr vc):=aA.other (p:=⟨w5.heap.size,0,none⟩) h1 (by show w5.heap.size≠_;omega) (.bool b2);have hh9:aI (aL (W7.heap.size+1) (w8.setCell ⟨w5.heap.size,0,none⟩ (.bool b2))) (w8.setCell ⟨w5.heap.size,0,none⟩ (.bool b2)) (fun W=>eC W s vi vl vp vm vv vr vc):=h2.set (by omega) _;have hb9:Below w.heap.size w (w8.setCell ⟨w5.heap.size,0,none⟩ (.bool b2)):=((HB5.o.trans (HK57.o.mono HB5.o.size)).trans h5).setCell (p:=⟨w5.heap.size,0,none⟩) (by show w.heap.size≤w5.heap.size;omega) (.bool b2);generalize (w8.setCell ⟨w5.heap.size,0,none⟩ (.bool b2))=w9 at hx9 hh9 hb9 ⊢;have HX9:=Za hx9;have HH9:=Za hh9;have HB9:=Za hb9;have HCI:=Za h3;obtain⟨E,hE⟩:∃E,E=cW s vi vl vp vm vv vr vc:=⟨_,rfl⟩;have hszE:(Tryz.prog.info? 47).map (·.size)=some E.size:=by rw[hE];kernel_rfl
 have honeE:E.all (·.oneCell')=true:=by obtain⟨o1,c1,o2,c2,o3,c3,o4,c4,o5,c5,o6,c6,o7,c7,rfl,rfl,rfl,rfl,rfl,rfl,rfl⟩:=HH9.o.here.slices;rw[hE];simp[cW,Value.oneCell']
 have row:w9.heap[w.heap.size+1]?=some (.cells E 47 (0,0)):=by rw[hE];exact hx9
 have HEE:=Za hE;have HXE:=Za (show aA w9 (w.heap.size+1) 47 E from row);have HGD:=Za (show Calls Tryz.prog 28 #[.agg E] w9 (fun e w'=>e=.returned (.bool true)∧Below w9.heap.size w9 w') by rw[hE,←HG.o];exact yD s _ _ _ _ _ _ _ _ HH9.o.here h3);clear hE h1 h2 h3 h5 hx9 hh9 hb9 hs7 c0 c2 c2';go_wp2_with(first
  |(refine FF rfl 47 _ rfl (w.heap.size+1) rfl 47 E (0,0) _ row Tryz.underlying47 rfl hszE ?_)
  |(go_at_call 28;refine HGD.o.mono ?_;rintro e wg ⟨rfl,hbg⟩;have HBG:=Za hbg;clear hbg row;have row:wg.heap[w.heap.size+1]?=some (.cells E 47 (0,0)):=HXE.o.next HBG.o;refine aD ?_))
 refine aC ?_;go_wp2_with(first|(refine wpList_load_row rfl 47 _ rfl (w.heap.size+1) rfl 47 E (0,0) _ row Tryz.underlying47 rfl hszE ?_)|(refine wpList_store_row rfl 47 _ _ rfl (w.heap.size+1) E rfl rfl 47 _ row hszE rfl honeE ?_));have hx6:aA (wg.setRow (w.heap.size+1) E) (w.heap.size+1) 47 E:=aA.setRow (HXE.o.next HBG.o) E;have hhh:=((HH9.o.grow HBG.o).setRow (S:=w.heap.size+1) (by have:=HS7.o;omega) E).base (B':=w.heap.size) (by have:=HS7.o;omega);exact bodyPost_ret (AZ rfl _ _ (w.heap.size+1) 47 _ (0,0) _ rfl hx6 Tryz.underlying47 rfl hszE) rfl ⟨vi,vl,vp,vm,vv,vr,vc,by rw[HEE.o];rfl,hhh,HCI.o,kB (HB9.o.trans (HBG.o.mono HB9.o.size)) (by omega) E⟩
def StArg (w:World) (o:Option Addr) (n:Nat):Prop:=
 ∀i,i<n→∃b off s vi vl vp vm vv vr vc,o=some ⟨b,off,none⟩∧(∀j u,(cW s vi vl vp vm vv vr vc)[j]?=some u→w.cell? ⟨b,off+i*27+j,none⟩=some u)∧eC w s vi vl vp vm vv vr vc∧jC s∧∀o n c,vi=.slice o n c→n≤c
theorem xF (x:Int) (j:Nat) (h:0≤x∧x<256):bits BinOp.xor IntKind.u8 x (2^(j%8)%256)=f9 x j:=by
 have h2:=CI j;have h3:((2^(j%8):Nat):Int)=(2:Int)^(j%8):=Int.natCast_pow 2 _;have e:((2:Int)^(j%8)%256)=((2^(j%8):Nat):Int):=by rw[←h3];exact Int.emod_eq_of_lt (Int.natCast_nonneg _) (Int.ofNat_lt.2 h2)
 rw[e,u8_xor _ _ h.1 h.2 (by omega) (by omega),f9,Int.toNat_natCast]
theorem LQ {x:Int} (h:0≤x∧x<256):(Lit.int .u8 x).wf=true:=WalkArith.wf_u8 ⟨h.1,by omega⟩
theorem zQ {w:World} {B:Nat} {e:TypeId} {s:Nat} {v:Value} {n:Nat} {xs:List Value} (h:w.ownsRow B e s v n xs):w.drew.ownsRow B e s v n xs:=
 cF h (Below.drew (Zc w.heap.size w)) (Zb _)
theorem tL (x:Int) (w:World) (h:0≤x∧x≤100):Calls Tryz.prog 10 #[.int .i64 x] w fun e w'=>e=.returned (.int .i64 x)∧w=w':=by obtain⟨h0,h1⟩:=h;go_enter Tryz.func10,Tryz.ntmps10;go_wp2;go_ret;exact⟨rfl,rfl⟩
theorem RJ {s:aX} (h:dF s=true):s.d.input.length≤1000∧aR s.d.lays≤1000:=by
 have hd:=oL (mH h).1;obtain⟨h1,h2,h3,h4,k0,hk0⟩:=mQ hd;rw[sX 0 64 (by omega) (by omega) s.d.lays]at hk0;split at hk0
 ·rename_i hc;exact⟨by omega,by omega⟩
 ·cases hk0
theorem IH {ts:List aO}:∀t∈ts,t.da.length+t.sh.length≤wt ts:=by
 induction ts with
 |nil=>intro t ht;cases ht
 |cons x xs ih=>
  intro t ht;have e:wt (x::xs)=(x.da.length+x.sh.length)+wt xs:=by simp[wt]
  rcases List.mem_cons.1 ht with rfl|h
  ·omega
  ·have:=ih t h;omega
theorem tW {ts:List aO} (h:wt ts≤300∧ts.length≤300):tC ts:=⟨by omega,fun t ht=>by have:=IH t ht;omega⟩
theorem MH (o:Option Addr) (n cap:Nat) (w:World) (hn:n≤140737488351232) (ha:StArg w o n) (ht:iY w):
  Calls Tryz.prog 4 #[.slice o n cap] w fun e w'=>e=.returned (.bool true)∧Below w.heap.size w w':=by
 have HA:=Za ha;have HT:=Za ht;clear ha ht;go_enter Tryz.func4,Tryz.ntmps4;go_wp2_with fail;go_loopw[3] (fun i wr=>∃k:Nat,k≤n∧i=.int .i64 k∧Below w.heap.size w wr) (fun i _=>n-(intOf i).toNat)
 case atStart=>exact⟨0,Ze _,rfl,Zc _ _⟩
 case round=>
  obtain⟨k,hk,rfl,hB⟩:=hrel;obtain⟨wo,rfl⟩:∃wo:World,wo=wr:=⟨_,rfl⟩;have HB:=Za hB;clear hB;by_cases hlt2:k<n∧k<2
  ·obtain⟨hlt,h2⟩:=hlt2;obtain⟨b,off,s,vi,vl,vp,vm,vv,vr,vc,rfl,hcell,hst,hwf,hci⟩:=HA.o k hlt;have HCI:=Za hci;have HWF:=Za hwf;have HST:=Za (hst.below HB.o (Zb _));have hcell2:∀j u,(cW s vi vl vp vm vv vr vc)[j]?=some u→wo.cell? ⟨b,off+k*27+j,none⟩=some u:=fun j u hj=>(HB.o.cell (p:=⟨b,off+k*27+j,none⟩) (aP (hcell j u hj))).trans (hcell j u hj);have HHV:=Za (fun(W:World) (hb:Below wo.heap.size wo W)=>PV s vi vl vp vm vv vr vc W (HST.o.next hb));have HMY:=Za (fun(W:World) (hb:Below wo.heap.size wo W)=>PZ s vi vl vp vm vv vr vc W (HST.o.next hb) HCI.o);obtain⟨CV,hCV⟩:∃CV,CV=cW s vi vl vp vm vv vr vc:=⟨_,rfl⟩;have hszC:(Tryz.prog.info? 47).map (·.size)=some CV.size:=by rw[hCV];kernel_rfl
   rw[←hCV]at hcell2 HHV HMY;have HCL:=Za (fun(W:World) (hb:Below wo.heap.size wo W)=>QG hb hcell2);have HCV:=Za hCV;clear hcell hcell2 hst hwf hci hCV;go_wp2_with(first|(refine AH rfl 47 _ rfl b (off+k*27) ?_ CV _ (HCL.o _ (Zc _ _)) Tryz.underlying47 rfl hszC ?_;(first|rfl|skip))|(go_at_call 17;refine(HHV.o _ (Zc _ _)).mono ?_;rintro e w1 ⟨⟨hv,rfl,hl⟩,hb⟩;refine aD ?_));cases hv with
   |true=>
    have HB1:=Za (HB.o.trans (hb.mono HB.o.size));clear hb hl;refine aC ?_;go_wp2_with fail;go_roundw
    case rel=>exact⟨k+1,by omega,by go_num,HB1.o⟩
    case measure=>simp[intOf];omega
   |false=>
    have HL:=Za (hl rfl);have HB1:=Za hb;clear hb hl;obtain⟨R,hR⟩:∃R,R=dF s:=⟨_,rfl⟩;rw[←hR]at HMY;have HR:=Za hR;clear hR;refine aC ?_;go_wp2_with(first|(refine RT rfl 47 _ rfl b (off+k*27) ?_ CV _ (HCL.o _ HB1.o) Tryz.underlying47 rfl hszC ?_;(first|rfl|skip))|(go_at_call 18;refine(HMY.o _ HB1.o).mono ?_;rintro e w2 ⟨rfl,hb⟩;refine aD ?_));have HB2:=Za (HB1.o.trans (hb.mono HB1.o.size));clear hb HHV HMY HB1;cases R with
    |false=>
     have HB3:=Za (HB.o.trans (HB2.o.mono HB.o.size));refine aC ?_;go_wp2_with fail;go_roundw
     case rel=>exact⟨k+1,by omega,by go_num,HB3.o⟩
     case measure=>simp[intOf];omega
    |true=>
     have HG:=Za HR.o.symm;have HSM:=Za (RJ HG.o);have HCP:=Za (fun(W:World) (hb:Below wo.heap.size wo W)=>IQ s vi vl vp vm vv vr vc W (HST.o.next hb) HSM.o.1 HSM.o.2 (tW HL.o.ps) (tW HL.o.m) (tW HL.o.v) (by have:=HL.o.r;omega) (by have:=HL.o.c;omega));rw[←HCV.o]at HCP;refine aC ?_;go_wp2_with(first|(refine AH rfl 47 _ rfl b (off+k*27) ?_ CV _ (HCL.o _ HB2.o) Tryz.underlying47 rfl hszC ?_;(first|rfl|skip))|(go_at_call 19;refine(HCP.o _ HB2.o).mono ?_;rintro e w3 ⟨ui,ul,up,um,uv,ur,uc,rfl,hs3,hci3,hb3⟩;refine aD ?_));have HB3:=Za (HB2.o.trans (hb3.mono HB2.o.size));have HS3:=Za hs3;have HCI3:=Za hci3;have HT3:=Za (HT.o.next (HB.o.trans (HB3.o.mono HB.o.size)));clear hs3 hci3 hb3 HCP HB2;refine aC ?_;go_wp2_with(go_at_call 14;refine(TA s ui ul up um uv ur uc w3 HS3.o HCI3.o HG.o HT3.o HL.o.fit HWF.o).mono ?_;rintro e w4 ⟨hb4,v,rfl,ho4⟩;refine aD ?_);have HB4:=Za (HB3.o.trans (hb4.mono HB3.o.size));have HLN:=Za (NU HG.o HL.o);have HDR:=Za (rF s);have HEW:=Za (BX s);have HTU:=Za (ET s);have HSE:=Za (ES s);have HPE:=Za (TM s HG.o HWF.o);have h4l:4≤(cI s).length:=by rw[cI,Zl,dH];omega
     obtain⟨E,hE⟩:∃E,E=cI s:=⟨_,rfl⟩;rw[←hE]at ho4 HLN HDR HEW HTU HSE h4l;have hel:=HLN.o;obtain⟨g,cE,he,hg1,hg2⟩:=aH.at ho4 (by omega);subst he;have HG1:=Za (Nat.le_trans HB3.o.size hg1);have HO4:=Za (cD ho4 HB3.o.size);clear ho4 hb4 hE hg1 hg2 HB3 HS3 HCI3 HT3;refine aC ?_;go_wp2_with(go_at_call 10;refine(tL 0 _ (by omega)).mono ?_;rintro e wn ⟨rfl,rfl⟩);go_loopw[6] (fun i wr=>∃j:Nat,j≤1000000∧i=.int .i64 j∧Hid (aH wr wo.heap.size 5 .u8 (.slice (some ⟨g,0,none⟩) E.length cE) E)∧Hid (Below wo.heap.size wo wr)) (fun i _=>E.length-(intOf i).toNat)
     case atStart=>exact⟨0,Ze _,rfl,HO4,HB4⟩
     case round=>
      clear HO4 HB4;obtain⟨j,hj,rfl,HO,HBi⟩:=hrel;obtain⟨wi,rfl⟩:∃wi:World,wi=wr:=⟨_,rfl⟩;by_cases hlj:j<E.length
      ·have hg1:=HG1.o;obtain⟨hc1,hf1⟩:=aH.cell HO.o j hlj;have hwx:=kT (HEW.o.nth j hlj);have ht1:=xF (aE E j) j hwx;have ht2:=xF _ j (wZ (aE E j) j hwx);rw[SC _ _ hwx.1]at ht2;go_wp2;go_region;have HT2:=Za ht2;clear ht1 ht2 hc1 hf1;have HO5:=Za (zQ (aH.set HO.o j (f9 (aE E j) j)));have HB5:=Za ((HBi.o.setCell (p:=⟨g,j,none⟩) hg1 (.int .u8 (f9 (aE E j) j))).drew);clear HO HBi;have HSB:=Za (HTU.o j j hlj);obtain⟨F,hF⟩:∃F,F=E.set j (f9 (aE E j) j):=⟨_,rfl⟩;rw[←hF]at HO5 HSB;have hFl:F.length=E.length:=by rw[hF,List.length_set]
       have HFL:=Za hFl;have HFW:=Za (show Wf .u8 F by
        rw[hF];intro x hx;rcases List.mem_or_eq_of_mem_set hx with h|rfl
        ·exact HEW.o x h
        ·exact LQ (wZ _ j hwx))
       have HF:=Za hF;clear hF hFl;go_wp2_with fail;refine(SV _ F _ (Rd.of_own HO5.o) (by have:=HFL.o;omega)).mono ?_;rintro e w6 ⟨v6,rfl,hown6,hB6⟩;have HB6:=Za (HB5.o.trans (hB6.mono HB5.o.size));have HO6:=Za (cF HO5.o hB6 (Zb _));obtain⟨a6,c6,hv6,hc6⟩:=iV hown6;subst hv6;have HRD:=Za (Rd.of_own hown6);have hk6:(F.length-4)+4=F.length:=by have:=HFL.o;omega
       have hl6:F.length≤100000:=by have:=HFL.o;omega
       have HDB:=Za (Q8 a6 c6 (F.length-4) F w6 HRD.o HFW.o hk6 hl6 hc6 HSB.o);clear hown6 hB6 HO5 HB5 HRD hk6 hc6 HSB;go_wp2_with(go_at_call 8;refine HDB.o.mono ?_;rintro e w7 ⟨rfl,hB7⟩;refine aD ?_);have HB7:=Za (HB6.o.trans (hB7.mono HB6.o.size));have HO7:=Za (cF HO6.o hB7 (Zb _));clear HDB hB7 HB6 HO6;refine aC ?_;obtain⟨ZR,hZR⟩:∃ZR,ZR=eH:=⟨_,rfl⟩;have hszZ:(Tryz.prog.info? 47).map (·.size)=some ZR.size:=by rw[hZR];kernel_rfl
       have honeZ:ZR.all (·.oneCell')=true:=by rw[hZR];simp[eH,Value.oneCell']
       have hzcZ:(zR:Array Value).size=ZR.size:=by rw[hZR];rfl
       have rowZ:(w7.alloc (.cells zR 47)).heap[w7.heap.size]?=some (.cells zR 47 (0,0)):=aA.new _ _ _;rw[←hZR];clear hZR;go_upto_region 13 with(first|(refine wpList_store_row rfl 47 _ _ rfl w7.heap.size ZR rfl rfl 47 _ rowZ hszZ hzcZ honeZ ?_));obtain⟨w8,hw8⟩:∃W,W=(w7.alloc (.cells zR 47)).setRow w7.heap.size ZR:=⟨_,rfl⟩;rw[←hw8];have hb8:Below w7.heap.size w7 w8:=by rw[hw8];exact kB ((Zc _ _).alloc (Zb _) _) (Zb _) _
       have HB8:=Za (HB7.o.trans (hb8.mono HB7.o.size));have HO8:=Za (cF HO7.o hb8 (Zb _));clear hw8 hb8 rowZ hszZ honeZ hzcZ HB7 HO7;have hjF:j<F.length:=by rw[HFL.o];exact hlj
       obtain⟨hc9,hf9⟩:=aH.cell HO8.o j hjF;have hnF:aE F j=f9 (aE E j) j:=by rw[HF.o,xT _ _ _ hlj]
       rw[hnF]at hc9;have ht2:=HT2.o;clear hnF;go_region;clear hc9 hf9 ht2;have HO10:=zQ (aH.set HO8.o j (aE E j));have hFE:F.set j (aE E j)=E:=by rw[HF.o,NK E j _ hlj]
       rw[hFE]at HO10
       try rw[HFL.o]at HO10
       have HO11:=Za HO10;have HB11:=Za ((HB8.o.setCell (p:=⟨g,j,none⟩) HG1.o (.int .u8 (aE E j))).drew);clear HO10 HO8 HB8 hFE hjF;go_wp2_with(go_at_call 10;refine(tL 1 _ (by omega)).mono ?_;rintro e wn ⟨rfl,rfl⟩);go_roundw
       case rel=>exact⟨j+1+E.length / 30,by omega,by go_num,HO11,HB11⟩
       case measure=>simp[intOf];omega
      ·clear hj;obtain⟨kk4,hkk⟩:∃q,q+4=E.length:=⟨E.length-4,by omega⟩;have HDG:=Za (GN (some ⟨g,0,none⟩) cE kk4 E s wi (Rd.of_own HO.o) HEW.o hkk (by omega) (by obtain⟨_,_,h1,h2⟩:=iV HO.o;cases h1;exact h2) HSE.o (by rw[show kk4=E.length-4 by omega,HDR.o.1];exact HPE.o) HG.o);clear hkk;go_wp2_with(go_at_call 8;refine HDG.o.mono ?_;rintro e w12 ⟨xi,xl,xp,xm,xv,xr,xc,rfl,hh,hci,hb⟩;refine aD ?_);have HB12:=Za (HBi.o.trans (hb.mono HBi.o.size));have HH12:=Za (hh.base HBi.o.size);have HSTW:=Za (HST.o);clear HDG hb hh hci HO HBi;refine aC ?_;obtain⟨CX,hCX⟩:∃CX,CX=cW s xi xl xp xm xv xr xc:=⟨_,rfl⟩;have hszX:(Tryz.prog.info? 47).map (·.size)=some CX.size:=by rw[hCX];kernel_rfl
       have honeX:CX.all (·.oneCell')=true:=by obtain⟨o1,c1,o2,c2,o3,c3,o4,c4,o5,c5,o6,c6,o7,c7,h1,h2,h3,h4,h5,h6,h7⟩:=HH12.o.here.slices;rw[hCX,h1,h2,h3,h4,h5,h6,h7];simp[cW,Value.oneCell']
       have hzcX:(zR:Array Value).size=CX.size:=by rw[hCX];rfl
       have rowX:(w12.alloc (.cells zR 47)).heap[w12.heap.size]?=some (.cells zR 47 (0,0)):=aA.new _ _ _;rw[←hCX];have HCX:=Za hCX;clear hCX;go_upto_region 17 with(first|(refine wpList_store_row rfl 47 _ _ rfl w12.heap.size CX rfl rfl 47 _ rowX hszX hzcX honeX ?_));obtain⟨gx,hgx⟩:∃q,q=w12.heap.size:=⟨_,rfl⟩;obtain⟨w13,hw13⟩:∃W,W=(w12.alloc (.cells zR 47)).setRow w12.heap.size CX:=⟨_,rfl⟩;rw[←hw13,←hgx];have hb13:Below w12.heap.size w12 w13:=by rw[hw13];exact kB ((Zc _ _).alloc (Zb _) _) (Zb _) _
       have hbx:aA w13 gx 47 CX:=by rw[hw13,hgx];exact(aA.new w12 47 _).setRow _
       have HB13:=Za (HB12.o.trans (hb13.mono HB12.o.size));have HHX:=Za ((HH12.o.grow hb13).here);have HD:=Za (show Below w13.heap.size w13 w13.drew from Below.drew (Zc _ _));have HBD:=Za (HB13.o.trans (HD.o.mono HB13.o.size));have HBX:=Za (hbx.next HD.o);have HEQ:=Za (K7 s s xi xl xp xm xv xr xc vi vl vp vm vv vr vc w13.drew (HHX.o.next HD.o) (HST.o.next HBD.o));rw[←HCX.o,←HCV.o]at HEQ;clear hw13 hgx hb13 hbx rowX honeX hzcX HB12 HH12;refine wp_region_held_drew (S:=fun w'=>aA w' gx 47 CX∧∀j u,CV[j]?=some u→w'.cell? ⟨b,off+k*27+j,none⟩=some u) (by kernel_rfl) ?_ (fun hHeld=>?_)
       ·exact⟨HBX.o,HCL.o _ HBD.o⟩
       refine tk 0 ?_ ?_ ?_;rotate_left
       ·(intro w hSw;(try dsimp only at hSw);go_simp;(try with_reducible rfl))
       (try simp only[Act.put,Zk,Zi,Zj,Zf,Zg,Zh])
       refine wpAnyH_ready (rs:=[1]) (by kernel_rfl) (by simp) ?_;refine AllReadyH.cons rfl (fun K hK=>?_) AllReadyH.nil
       go_simp
       go_at_call 10
       refine(tL 0 _ (by omega)).mono ?_;rintro e wn ⟨rfl,rfl⟩;refine hK _ _ ⟨HBX.o,HCL.o _ HBD.o⟩ (fun hHeld2=>?_);clear hK K
       (try simp only[Act.put,Zk,Zi,Zj,Zf,Zg,Zh])
       refine tk 2 ?_ ?_ ?_;rotate_left
       ·(intro w hSw;(try dsimp only at hSw);go_simp;(try with_reducible rfl))
       (try simp only[Act.put,Zk,Zi,Zj,Zf,Zg,Zh])
       refine tk 3 ?_ ?_ ?_;rotate_left
       ·(intro w hSw;(try dsimp only at hSw);go_simp;(try with_reducible rfl))
       (try simp only[Act.put,Zk,Zi,Zj,Zf,Zg,Zh])
       refine tk 4 ?_ ?_ ?_;rotate_left
       ·(intro w hSw;refine uX 47 (.tmp 9) ?_ gx 0 ?_ CX _ (fun j u hj=>by rw[Nat.zero_add];exact hSw.1.cell j hj) Tryz.underlying47 rfl hszX<;>rfl)
       (try simp only[Act.put,Zk,Zi,Zj,Zf,Zg,Zh])
       refine tk 5 ?_ ?_ ?_;rotate_left
       ·(intro w hSw;(try dsimp only at hSw);go_simp;(try with_reducible rfl))
       (try simp only[Act.put,Zk,Zi,Zj,Zf,Zg,Zh])
       refine tk 6 ?_ ?_ ?_;rotate_left
       ·(intro w hSw;(try dsimp only at hSw);go_simp;(try with_reducible rfl))
       (try simp only[Act.put,Zk,Zi,Zj,Zf,Zg,Zh])
       refine tk 7 ?_ ?_ ?_;rotate_left
       ·(intro w hSw;(try dsimp only at hSw);go_simp;(try with_reducible rfl))
       (try simp only[Act.put,Zk,Zi,Zj,Zf,Zg,Zh])
       refine tk 8 ?_ ?_ ?_;rotate_left
       ·(intro w hSw;refine uX 47 (.tmp 99) ?_ b (off+k*27) ?_ CV _ hSw.2 Tryz.underlying47 rfl hszC<;>rfl)
       (try simp only[Act.put,Zk,Zi,Zj,Zf,Zg,Zh])
       refine wpAnyH_ready (rs:=[9]) (by kernel_rfl) (by simp) ?_;refine AllReadyH.cons rfl (fun K hK=>?_) AllReadyH.nil
       go_simp
       go_at_call 11
       refine HEQ.o.mono ?_;rintro e w14 ⟨⟨bb,rfl,hbb⟩,hb14⟩;obtain rfl:bb=true:=hbb.2 rfl;have HB14:=Za (HBD.o.trans (hb14.mono HBD.o.size));refine hK _ _ ⟨HBX.o.next hb14,HCL.o _ HB14.o⟩ (fun hHeld3=>?_);clear hK K hb14 hbb
       (try simp only[Act.put,Zk,Zi,Zj,Zf,Zg,Zh])
       refine tk 10 ?_ ?_ ?_;rotate_left
       ·(intro w hSw;(try dsimp only at hSw);go_simp;(try with_reducible rfl))
       (try simp only[Act.put,Zk,Zi,Zj,Zf,Zg,Zh])
       refine tk 11 ?_ ?_ ?_;rotate_left
       ·(intro w hSw;(try dsimp only at hSw);go_simp;(try with_reducible rfl))
       (try simp only[Act.put,Zk,Zi,Zj,Zf,Zg,Zh])
       refine wpAnyH_done (by kernel_rfl) ?_ _;have HF:=Za (HB.o.trans (HB14.o.mono HB.o.size));go_wp2_with fail;go_roundw
       case rel=>exact⟨k+1,by omega,by go_num,HF.o⟩
       case measure=>simp[intOf];omega
  ·by_cases hlt:k<n
   ·have h2:¬k<2:=fun h=>hlt2 ⟨hlt,h⟩;clear hlt2;go_wp2_with fail;refine(DE _).mono ?_;rintro e w' ⟨rfl,hb⟩;have HF:=Za (HB.o.trans (hb.mono HB.o.size));clear hb;go_wp2;go_ret;exact⟨rfl,HF.o⟩
   ·clear hlt2;go_wp2_with fail;refine(DE _).mono ?_;rintro e w' ⟨rfl,hb⟩;have HF:=Za (HB.o.trans (hb.mono HB.o.size));clear hb;go_wp2;go_ret;exact⟨rfl,HF.o⟩
end Go.Proofs.YtjhkdocidcfpdaaGreatDoor
