/-
  A part of the proof of a law (packed by program).
-/
import Derived.Lib.AppendZerosOnto
import Derived.Test.YtjhkdocidcfpdaaGreatDoorTM26
set_option linter.unusedVariables false
set_option linter.unusedSimpArgs false
set_option maxRecDepth 100000
set_option maxHeartbeats 16000000
open List renaming length_append → Zl
namespace Go.Proofs.YtjhkdocidcfpdaaGreatDoor
open Go.RowKit Go.Shelf Go
def aI (S:Nat→Prop) (w:World) (P:World→Prop):Prop:=∀w',(∀k,S k→w'.heap[k]?=w.heap[k]?)→P w'
theorem aI.here {S:Nat→Prop} {w:World} {P:World→Prop} (h:aI S w P):P w:=h w fun _ _=>rfl
theorem aI.step {S:Nat→Prop} {w w2:World} {P:World→Prop} (h:aI S w P) (hs:∀k,S k→w2.heap[k]?=w.heap[k]?):aI S w2 P:=fun w' hw=>h w' fun k hk=>(hw k hk).trans (hs k hk)
theorem aI.mono {S S':Nat→Prop} {w:World} {P:World→Prop} (h:aI S w P) (hs:∀k,S k→S' k):aI S' w P:=fun w' hw=>h w' fun k hk=>hw k (hs k hk)
theorem aI.imp {S:Nat→Prop} {w:World} {P Q:World→Prop} (h:aI S w P) (hpq:∀W,P W→Q W):aI S w Q:=fun w' hw=>hpq _ (h w' hw)
theorem aI.and {S:Nat→Prop} {w:World} {P Q:World→Prop} (h:aI S w P) (k:aI S w Q):aI S w fun W=>P W∧Q W:=fun w' hw=>⟨h w' hw,k w' hw⟩
def Made (a b:World) (k:Nat):Prop:=a.heap.size≤k∧k<b.heap.size
def aL (B:Nat) (w:World) (k:Nat):Prop:=B≤k∧k<w.heap.size
theorem oB {w w':World} {B:Nat} {e:TypeId} {s n:Nat} {v:Value} {xs:List Value} (h:w.ownsRow B e s v n xs) (ha:∀g,v.ownBlock=some g→w'.heap[g]?=w.heap[g]?):w'.ownsRow B e s v n xs:=by
 refine⟨h.1,?_⟩;rcases h.2 with hn|⟨g,cap,cur,rfl,hb,hg,r⟩
 ·exact .inl hn
 ·exact .inr ⟨g,cap,cur,rfl,hb,(ha g rfl).trans hg,r⟩
theorem aI.own {w:World} {B:Nat} {e:TypeId} {K:IntKind} {v:Value} {xs:List Int} (h:aH w B e K v xs):aI (aL B w) w fun W=>Rd W K v xs:=fun w' hw=>
 Rd.of_own (oB h fun g hg=>hw g (h.lt g hg))
theorem aI.grow {B:Nat} {b c:World} {P:World→Prop} (h:aI (aL B b) b P) (hb:Below b.heap.size b c):aI (aL B c) c P:=
 (h.step fun k hk=>hb.block k hk.2).mono fun k hk=>⟨hk.1,Nat.lt_of_lt_of_le hk.2 hb.size⟩
theorem aI.base {B B':Nat} {b:World} {P:World→Prop} (h:aI (aL B b) b P) (hB:B'≤B):aI (aL B' b) b P:=h.mono fun k hk=>⟨Nat.le_trans hB hk.1,hk.2⟩
theorem aI.set {B:Nat} {b:World} {P:World→Prop} (h:aI (aL B b) b P) {S j:Nat} (hS:S<B) (u:Value):aI (aL B (b.setCell ⟨S,j,none⟩ u)) (b.setCell ⟨S,j,none⟩ u) P:=by refine(h.step fun k hk=>Below.heap_setCell _ _ _ _ (fun e=>?_)).mono fun k hk=>⟨hk.1,by simpa [World.setCell]using hk.2⟩;simp at e;have:=hk.1;omega
structure fK (B:Nat) (e:TypeId) (sz:Nat) (w:World) (v:Value) (css:List (List Value)) (P:World→Prop):Prop where
 row:w.ownsRow B e sz v css.length css.flatten
 all:aI (fun k=>aL B w k∧v.ownBlock≠some k) w P
theorem fK.nil (B:Nat) (e:TypeId) (sz:Nat) (w:World) {P:World→Prop} (h:∀W,P W):fK B e sz w (.slice none 0 0) [] P:=⟨World.ownsRow_nil _ _ _ _,fun W _=>h W⟩
theorem fK.snoc {B:Nat} {e:TypeId} {sz:Nat} {w w1 w2:World} {v v':Value} {css:List (List Value)} {cs:List Value} {P Q:World→Prop} {o:Obj} (h:fK B e sz w v css P) (hb:Below w.heap.size w w1) (hB:B≤w.heap.size) (hq:aI (Made w w1) w1 Q)
  (hrow:w2.ownsRow B e sz v' (css.length+1) (css.flatten++cs)) (hg:(w1.alloc o).grownBy w2 v.ownBlock) (hob:v'.ownBlock=v.ownBlock∨v'.ownBlock=some (w1.alloc o).heap.size):fK B e sz w2 v' (css++[cs]) fun W=>P W∧Q W:=by
 have hlt:=fun g hg=>(h.row.lt g hg).2;have h12:∀k,k<w1.heap.size→v.ownBlock≠some k→w2.heap[k]?=w1.heap[k]?:=fun k hk hne=>(hg.block k (by simp;omega) (fun e=>hne e.symm)).trans (Below.heap_alloc w1 o k hk);have hs:w1.heap.size≤w2.heap.size:=by have:=hg.size;simp at this;omega
 refine⟨by simpa using hrow,aI.and ?_ ?_⟩
 ·refine(h.all.step fun k hk=>(h12 k (Nat.lt_of_lt_of_le hk.1.2 hb.size) hk.2).trans (hb.block k hk.1.2)).mono fun k hk=>⟨⟨hk.1.1,by have:=hk.1.2;have:=hb.size;omega⟩,?_⟩;rcases hob with e1|e1
  ·rw[e1];exact hk.2
  ·rw[e1];intro e2;simp at e2;have:=hk.1.2;have:=hb.size;omega
 ·refine(hq.step fun k hk=>h12 k hk.2 (fun e2=>?_)).mono fun k hk=>⟨⟨Nat.le_trans hB hk.1,by have:=hk.2;omega⟩,?_⟩
  ·have:=hlt k e2;have:=hk.1;omega
  ·rcases hob with e1|e1
   ·rw[e1];intro e2;have:=hlt k e2;have:=hk.1;omega
   ·rw[e1];intro e2;simp at e2;have:=hk.2;omega
theorem fK.fin {B:Nat} {e:TypeId} {sz:Nat} {w:World} {v:Value} {css:List (List Value)} {P:World→Prop} (h:fK B e sz w v css P):aI (aL B w) w fun W=>W.ownsRow B e sz v css.length css.flatten∧P W:=
 aI.and (fun w' hw=>oB h.row fun g hg=>hw g (h.row.lt g hg)) (h.all.mono fun k hk=>hk.1)
theorem oG {sz:Nat}:∀(css:List (List Value)) (hl:∀c∈css,c.length=sz) (i j:Nat) (hi:i<css.length) (hj:j<sz),css.flatten[i*sz+j]?=(css[i])[j]?
 |[],hl,i,j,hi,hj=>absurd hi (Nat.not_lt_zero _)
 |c::r,hl,i,j,hi,hj=>by
  have hc:=hl c (by simp);cases i with
  |zero=>rw[List.flatten_cons,Nat.zero_mul,Nat.zero_add,List.getElem?_append_left (by omega)];rfl
  |succ i=>
   have:=oG r (fun c hc=>hl c (by simp[hc])) i j (by simpa using hi) hj;rw[List.flatten_cons,List.getElem?_append_right (by rw[hc,Nat.succ_mul];omega),hc,show(i+1)*sz+j-sz=i*sz+j by rw[Nat.succ_mul];omega,this];rfl
theorem AP {B:Nat} {e:TypeId} {sz:Nat} {w:World} {o:Option Addr} {n cap:Nat} {css:List (List Value)} (h:w.ownsRow B e sz (.slice o n cap) css.length css.flatten) (hl:∀c∈css,c.length=sz) (i:Nat) (hi:i<css.length):
  ∃b,o=some ⟨b,0,none⟩∧∀j u,(css[i])[j]?=some u→w.cell? ⟨b,i*sz+j,none⟩=some u:=by
 rcases h.2 with⟨_,h0⟩|⟨g,cap',cur,he,_,hg,_,_,_,ht⟩
 ·omega
 ·injection he with h1 h2 h3;subst h1;refine⟨g,rfl,fun j u hu=>?_⟩;have hj:j<sz:=by have:=(List.getElem?_eq_some_iff.1 hu).1;rw[hl _ (List.getElem_mem hi)]at this;exact this
  have h1:=oG css hl i j hi hj;rw[hu]at h1;rw[cell_of_row w g _ cur _ _ hg];rw[←ht,List.getElem?_take]at h1;split at h1
  ·simpa using h1
  ·cases h1
def cM (w W:World) (T:TypeId) (cs ds es:Array Value):Prop:=aA W w.heap.size T cs∧aA W (w.heap.size+1) T ds∧aA W (w.heap.size+2) T es∧Below w.heap.size w W
theorem nS (w:World) (T:TypeId) (cs ds es:Array Value) {W:World} (hW:W=((w.alloc (.cells cs T)).alloc (.cells ds T)).alloc (.cells es T)):cM w W T cs ds es:=by
 obtain⟨V,hV⟩:∃V,V=(w.alloc (.cells cs T)).alloc (.cells ds T):=⟨_,rfl⟩;obtain⟨h1,h2,h3⟩:=nT w T cs ds hV;have hs:V.heap.size=w.heap.size+2:=by rw[hV];simp
 rw[←hV]at hW;subst hW;have hb:=(Zc V.heap.size V).alloc (Zb _) (.cells es T);exact⟨h1.next hb,h2.next hb,by rw[←hs];exact aA.new _ _ _,h3.trans (hb.mono h3.size)⟩
theorem cM.next {w W W':World} {T:TypeId} {cs ds es:Array Value} (h:cM w W T cs ds es) (hb:Below W.heap.size W W'):cM w W' T cs ds es:=
 ⟨h.1.next hb,h.2.1.next hb,h.2.2.1.next hb,h.2.2.2.trans (hb.mono h.2.2.2.size)⟩
theorem cM.set {w W:World} {T:TypeId} {cs ds es:Array Value} (h:cM w W T cs ds es) (j:Nat) (u:Value):cM w (W.setCell ⟨w.heap.size+2,j,none⟩ u) T cs ds (es.setIfInBounds j u):=
 ⟨h.1.other (by simp) _,h.2.1.other (by simp) _,h.2.2.1.set j u,h.2.2.2.setCell (p:=⟨w.heap.size+2,j,none⟩) (by simp) u⟩
theorem cM.set2 {w W:World} {T:TypeId} {cs ds es:Array Value} (h:cM w W T cs ds es) (j:Nat) (u:Value):cM w (W.setCell ⟨w.heap.size+1,j,none⟩ u) T cs (ds.setIfInBounds j u) es:=
 ⟨h.1.other (by simp) _,h.2.1.set j u,h.2.2.1.other (by simp) _,h.2.2.2.setCell (p:=⟨w.heap.size+1,j,none⟩) (by simp) u⟩
def bO (k:Nat) (l:List Int):List Int:=l.flatMap fun v=>bB (bH v) k
theorem iJ (k:Nat) (l:List Int):(bO k l).length=k*l.length:=by
 induction l with
 |nil=>rfl
 |cons x l ih=>rw[bO,List.flatMap_cons,Zl,dH,List.length_cons,←bO,ih,Nat.mul_succ];omega
theorem xA (k:Nat) (l:List Int) (j:Nat) (h:j<l.length):bO k (l.take (j+1))=bO k (l.take j)++bB (bH (aE l j)) k:=by rw[fF l j h,bO,bO,List.flatMap_append];simp
structure dR (B:Nat) (v v':Value) (w w':World):Prop where
 low:Below B w w'
 other:∀k,k<w.heap.size→v.ownBlock≠some k→w'.heap[k]?=w.heap[k]?
 own:∀g,v'.ownBlock=some g→v.ownBlock=some g∨w.heap.size≤g
theorem dR.refl (B:Nat) (v:Value) (w:World):dR B v v w w:=⟨Zc _ _,fun _ _ _=>rfl,fun _ h=>.inl h⟩
theorem dR.trans {B:Nat} {v v1 v2:Value} {w w1 w2:World} (h:dR B v v1 w w1) (k:dR B v1 v2 w1 w2):dR B v v2 w w2:=
 ⟨h.low.trans k.low,fun j hj hne=>(k.other j (Nat.lt_of_lt_of_le hj h.low.size) (fun e=>(h.own j e).elim hne (fun h2=>by omega))).trans (h.other j hj hne),
  fun g hg=>(k.own g hg).elim (fun h2=>h.own g h2) (fun h2=>.inr (Nat.le_trans h.low.size h2))⟩
theorem dR.pre {B:Nat} {v v':Value} {w w1 w':World} (h:dR B v v' w1 w') (hb:Below w.heap.size w w1) (hB:B≤w.heap.size):dR B v v' w w':=
 ⟨(hb.mono hB).trans h.low,fun j hj hne=>(h.other j (Nat.lt_of_lt_of_le hj hb.size) hne).trans (hb.block j hj),fun g hg=>(h.own g hg).imp id fun h2=>Nat.le_trans hb.size h2⟩
def mC (v u:Value) (n:Nat):Prop:=∀b off m c,u=.slice (some ⟨b,off,none⟩) m c→0<n→v.ownBlock≠some b
theorem Rd.growsB {B:Nat} {v v' u:Value} {w w':World} {K:IntKind} {xs:List Int} (h:Rd w K u xs) (hg:dR B v v' w w') (ha:mC v u xs.length):Rd w' K u xs:=by obtain⟨o,cap,rfl,hc⟩:=h;refine⟨o,cap,rfl,fun j hj=>?_⟩;obtain⟨b,off,rfl,hcell⟩:=hc j hj;exact⟨b,off,rfl,(World.cell?_of_block (w:=w) (a:=⟨b,off+j,none⟩) (hg.other b (aP hcell) (ha b off _ _ rfl (by omega)))).trans hcell⟩
theorem mC.grows {B:Nat} {v v' u:Value} {w w':World} {n:Nat} (h:mC v u n) (hg:dR B v v' w w') (hu:∀b off m c,u=.slice (some ⟨b,off,none⟩) m c→0<n→b<w.heap.size):mC v' u n:=
 fun b off m c e h0 h1=>(hg.own b h1).elim (h b off m c e h0) fun h2=>by have:=hu b off m c e h0;omega
theorem Rd.lt {w:World} {K:IntKind} {u:Value} {xs:List Int} (h:Rd w K u xs):∀b off m c,u=.slice (some ⟨b,off,none⟩) m c→0<xs.length→b<w.heap.size:=fun b off m c e h0=>by
 obtain⟨o,cap,he,hc⟩:=h;obtain⟨b',off',ho,hcell⟩:=hc 0 h0;subst ho;rw[he]at e;injection e with e1;injection e1 with e1;injection e1 with e1;rw[←e1];exact aP hcell
theorem AF (v:Value) (bs:List Int) (n k:Nat) (B:Nat) (w:World) (hown:aH w B 5 .u8 v bs) (hB:B≤w.heap.size) (hn:n<18446744073709551616) (hk:k≤8) (hl:bs.length≤100000000000000):
  Calls Tryz.prog 47 #[v,.int .u64 n,.int .i64 k] w fun e w'=>∃v',e=.returned v'∧aH w' B 5 .u8 v' (bs++bB n k)∧dR B v v' w w':=by
 obtain⟨i0,hi,hz0,hz1,hz2⟩:=info_parts DO;have HN:=Za hn;have HO:=Za hown;clear hn hown;go_enter Tryz.func47,Tryz.ntmps47;go_wp2;go_loopw[0,7] (fun u i wr=>∃(j:Nat) (pre:List Int),j≤k∧i=.int .i64 ((j:Int)-1)∧aH wr B 5 .u8 u (bs++pre)∧dR B v u w wr∧pre++bB n j=bB n k) (fun _ i _=>(intOf i+1).toNat)
 case atStart=>exact⟨k,[],Zb _,rfl,by rw[List.append_nil];exact HO.o,dR.refl _ _ _,rfl⟩
 case round=>
  obtain⟨j,pre,hj,rfl,hown,hBl,hpre⟩:=hrel;have HP:=Za hpre;have hpl:pre.length≤8:=by have:=congrArg List.length hpre;rw[Zl,dH,dH]at this;omega
  clear hpre;by_cases h0:j=0
  ·subst h0;have hown':Hid (aH wr B 5 .u8 u0 (bs++bB n k)):=Za (by have:=HP.o;rw[bB,List.append_nil]at this;rw[←this];exact hown);have HBl:=Za hBl;clear hown hBl;go_wp2;go_ret;exact⟨_,rfl,hown'.o,HBl.o⟩
  ·obtain⟨m,rfl⟩:∃m,j=m+1:=⟨j-1,by omega⟩;clear h0;have HBl:=Za hBl;have HOw:=Za hown;have hbl:(bs++pre).length≤100000000000008:=by rw[Zl];omega
   have hsz:=hBl.low.size;clear hBl hown;go_wp2_with(at_builtin;refine wpList_append_own_at _ rfl _ _ 23 rfl B 5 i0 (.int .u8 0) 1 1 Tryz.underlying23 hi hz0 hz1 hz2 rfl (by decide) _ _ _ rfl (HOw.o.alloc _) ⟨wr.heap.size,0,none⟩ 1 1 [.int .u8 ((n:Int) / 2^(8*m)%256)] rfl rfl (cell_one_new _ _ _) (by simp[Value.oneCell']) (by unfold maxLen;omega) (by omega) (by simp;omega) ?_;intro v' w1 hown' hgrow _ hob);have he:(n:Int) / 2^(8*m)%256=((n / 256^m%256:Nat):Int):=by have h3:((2^(8*m):Nat):Int)=(2:Int)^(8*m):=Int.natCast_pow 2 _;rw[←h3,Nat.pow_mul];rfl
   rw[he]at hown';have HG:=Za (show dR B v v' w w1 from HBl.o.trans ⟨vG (Zc B _) (by omega) HOw.o hgrow,fun q hq hne=>(hgrow.block q (by simp;omega) (fun e=>hne e.symm)).trans (Below.heap_alloc _ _ q hq),fun g hg=>by
    rcases hob with h1|h1
    ·exact .inl (Eq.trans (Eq.symm h1) hg)
    ·have h2:=Eq.trans (Eq.symm h1) hg;right;injection h2 with h2;rw[←h2];simp⟩)
   clear hgrow hob;go_roundw
   case rel=>
    refine⟨m,pre++[((n / 256^m%256:Nat):Int)],by omega,by go_num,?_,HG.o,by rw[List.append_assoc];exact HP.o⟩;rw[←List.append_assoc];exact lL hown'
   case measure=>simp[intOf]
theorem xS (v u:Value) (bs xs:List Int) (k:Nat) (B:Nat) (w:World) (hown:aH w B 5 .u8 v bs) (hr:Rd w .i64 u xs) (hB:B≤w.heap.size) (hk:k≤8) (hl:bs.length+8*xs.length≤90000000000000) (ha:mC v u xs.length):
  Calls Tryz.prog 44 #[v,.int .i64 k,u] w fun e w'=>∃v',e=.returned v'∧aH w' B 5 .u8 v' (bs++bO k xs)∧dR B v v' w w':=by
 obtain⟨o,cap,rfl⟩:=aU hr;have HO:=Za hown;have HR:=Za hr;have HA:=Za ha;have hxl:xs.length≤20000000000000:=by omega
 have hBw:=hB;clear hown hr ha;go_enter Tryz.func44,Tryz.ntmps44;go_wp2;go_loopw[0,11] (fun b i wr=>∃j:Nat,j≤xs.length∧i=.int .i64 j∧aH wr B 5 .u8 b (bs++bO k (xs.take j))∧dR B v b w wr∧Rd wr .i64 (.slice o xs.length cap) xs∧mC b (.slice o xs.length cap) xs.length) (fun _ i _=>xs.length-(intOf i).toNat)
 case atStart=>exact⟨0,Ze _,rfl,by simpa [bO]using HO.o,dR.refl _ _ _,HR.o,HA.o⟩
 case round=>
  obtain⟨j,hj,rfl,hown,hBl,hrd,hap⟩:=hrel;have HAP:=Za hap;clear hap;have HOW:=Za hown;have HBL:=Za hBl;have HRD:=Za hrd;by_cases hlt:j<xs.length
  ·obtain⟨b,off,rfl,hc⟩:=hrd.cell j hlt;have hlen:(bs++bO k (xs.take j)).length≤100000000000000:=by rw[Zl,iJ,List.length_take];have:k*min j xs.length≤8*xs.length:=Nat.mul_le_mul hk (Nat.min_le_right _ _);omega
   have hsz:=hBl.low.size;have hsn:=xA k xs j hlt;obtain⟨x,hx⟩:∃x,x=aE xs j:=⟨_,rfl⟩;rw[←hx]at hc hsn;obtain⟨n,hn⟩:∃n,n=bH x:=⟨_,rfl⟩;have hu:IntKind.u64.wrap x=(n:Int):=by rw[hn];exact GW x
   have HN:=Za (show n<18446744073709551616 from by rw[hn];exact rE x);rw[←hn]at hsn;obtain⟨cur,hcur⟩:∃cur,cur=bs++bO k (xs.take j):=⟨_,rfl⟩;rw[←hcur]at hown hlen;have HSN:=Za (show bs++bO k (xs.take (j+1))=cur++bB n k by rw[hsn,hcur,List.append_assoc]);have HPUT:=Za (AF _ _ n k B wr hown (by omega) HN.o hk hlen);obtain⟨ov,cv,hov⟩:=aJ hown;subst hov;clear hown hBl hrd hn hx hlen hsn hcur HOW;go_wp2_with fail;refine HPUT.o.mono ?_;rintro e w2 ⟨v2,rfl,hown2,hb2⟩;have HO2:=Za hown2;have HB2:=Za (HBL.o.trans hb2);have hrd2:Rd w2 .i64 (.slice (some ⟨b,off,none⟩) xs.length cap) xs:=by exact HRD.o.growsB hb2 HAP.o
   have hap2:=HAP.o.grows hb2 HRD.o.lt;have HAP2:=Za hap2;clear hown2 hb2 hc hap2;go_wp2;go_roundw
   case rel=>exact⟨j+1,by omega,by go_num,by rw[HSN.o];exact HO2.o,HB2.o,hrd2,HAP2.o⟩
   case measure=>simp[intOf];omega
  ·obtain rfl:j=xs.length:=by omega
   rw[List.take_length]at hown;have HF:=Za hown;clear hown hBl hrd;go_wp2;go_ret;exact⟨_,rfl,HF.o,HBL.o⟩
theorem sY (v:Value) (xs:List Int) (w:World) (hr:Rd w .u8 v xs) (hw:Wf .u8 xs) (hl:xs.length≤140737488351232):
  Calls Tryz.prog 13 #[v] w fun e w'=>e=.returned (.int .u32 (jU xs:Nat))∧Below w.heap.size w w':=
 callsIn_wide.1 (JA v xs w hr hw hl)
theorem DE (w:World):Calls Tryz.prog 16 #[] w fun e w'=>e=.returned (.bool true)∧Below w.heap.size w w':=by have kc:=fun(w:World) (C:Array Value) (n c:Nat)=>Lib.run_convert_bytes_const (P:=Tryz.prog) w 23 5 C n c Tryz.underlying23 Tryz.underlying5;go_enter Tryz.func16,Tryz.ntmps16;go_wp2_with fail;clear kc;refine(sY _ [49,50,51,52,53,54,55,56,57] _ (Rd.new w .u8 [49,50,51,52,53,54,55,56,57] 5 9 (9,10)) (by intro x hx;simp at hx;rcases hx with rfl|rfl|rfl|rfl|rfl|rfl|rfl|rfl|rfl<;>rfl) (by simp)).mono ?_;rintro e w' ⟨rfl,hB⟩;rw[MZ];have HB:=Za (((Zc _ w).alloc (Zb _) _).trans (hB.mono (by simp)));clear hB;go_wp2;go_ret;exact⟨rfl,HB.o⟩
abbrev t8:=Nat→aS→Option (List aB×Nat×aS)
def uN (g:t8):Prop:=∀left rest p,g left rest=some p→p.2.2.length≤rest.length∧p.1.length+p.2.1≤left
theorem zS (inner:Option t8) (hin:∀g,inner=some g→uN g):∀f left rest p,dS inner f left rest=some p→p.2.2.length≤rest.length∧p.1.length+p.2.1≤left:=by
 intro f
 induction f with
 |zero=>
  intro left rest p h;cases rest with
  |nil=>simp[dS]at h;subst h;simp
  |cons a b=>simp[dS]at h
 |succ f ih=>
  intro left rest p h;cases rest with
  |nil=>simp[dS]at h;subst h;simp
  |cons a r=>
   cases a with
   |nil=>simp[dS]at h
   |cons w ws=>
    rw[jY]at h;split at h
    ·injection h with h;subst h;simp
    ·split at h
     ·cases h
     ·rename_i h0;split at h
      ·cases inner with
       |none=>cases h
       |some g=>
        simp only at h;cases hg:g (left-1) r with
        |none=>rw[hg]at h;cases h
        |some q=>
         obtain⟨b,l2,r2⟩:=q;have hs:=hin g rfl _ _ _ hg;rw[hg]at h;simp only at h hs;cases r2 with
         |nil=>cases h
         |cons x r3=>
          simp only at h;split at h
          ·cases hl:dS (some g) f l2 r3 with
           |none=>rw[hl]at h;cases h
           |some q2=>
            obtain⟨l3,a3,b3⟩:=q2;have h3:=ih _ _ _ hl;rw[hl]at h;injection h with h;subst h;simp only[List.length_cons]at h3 hs ⊢;omega
          ·cases h
      ·cases ho:dY (w::ws)with
       |none=>rw[ho]at h;cases h
       |some n=>
        rw[ho]at h;simp only at h;cases hl:dS inner f (left-1) r with
        |none=>rw[hl]at h;cases h
        |some q2=>
         obtain⟨l3,a3,b3⟩:=q2;have h3:=ih _ _ _ hl;rw[hl]at h;injection h with h;subst h;simp only[List.length_cons]at h3 ⊢;omega
theorem tH:∀d,uN (dI d):=by
 intro d
 induction d with
 |zero=>intro left rest p h;rw[pJ]at h;exact zS _ (fun g hg=>by cases hg) _ _ _ _ h
 |succ d ih=>intro left rest p h;rw[pJ]at h;exact zS _ (fun g hg=>by cases hg;exact ih) _ _ _ _ h
theorem PG (inner:Option t8) (hin:∀g,inner=some g→uN g):∀n f left rest,f≤n→rest.length≤f→dS inner f left rest=dS inner rest.length left rest:=by
 intro n
 induction n with
 |zero=>
  intro f left rest hf hr;have:f=rest.length:=by omega
  rw[this]
 |succ n ih=>
  intro f left rest hf hr;cases rest with
  |nil=>cases f<;>simp[dS]
  |cons a r=>
   cases f with
   |zero=>simp at hr
   |succ f=>
    rw[List.length_cons]at hr ⊢;cases a with
    |nil=>simp[dS]
    |cons w ws=>
     rw[jY,jY];have e1:=ih f (left-1) r (by omega) (by omega);rw[e1];cases inner with
     |none=>rfl
     |some g=>
      cases hg:g (left-1) r with
      |none=>simp only[hg]
      |some q=>
       obtain⟨b,l2,r2⟩:=q;have hs:=hin g rfl _ _ _ hg;simp only[hg];cases r2 with
       |nil=>rfl
       |cons x r3=>
        simp only[List.length_cons]at hs ⊢;rw[ih f l2 r3 (by omega) (by omega),ih r.length l2 r3 (by omega) (by omega)]
def dE (d:Nat) (left:Nat) (rest:aS):Option (List aB×Nat×aS):=dS (m8 d) rest.length left rest
theorem OL (d left:Nat) (rest:aS):dI d left rest=dE d left rest:=pJ d left rest
theorem LS (d left:Nat):dE d left []=some ([],left,[]):=rfl
theorem PJ (d left:Nat) (r:aS):dE d left ([]::r)=none:=rfl
theorem K5 (d left:Nat) (w:List UInt8) (ws:List (List UInt8)) (r:aS) (h:w=cV∨w=eB):dE d left ((w::ws)::r)=some ([],left,(w::ws)::r):=by rw[dE,List.length_cons,jY,if_pos h]
theorem LG (d:Nat) (w:List UInt8) (ws:List (List UInt8)) (r:aS) (h:¬(w=cV∨w=eB)):dE d 0 ((w::ws)::r)=none:=by rw[dE,List.length_cons,jY,if_neg h,if_pos rfl]
theorem R7 (d left:Nat) (w:List UInt8) (ws:List (List UInt8)) (r:aS) (h:¬(w=cV∨w=eB)) (h0:left≠0) (hr:¬(w=dC∧ws=[])):
  dE d left ((w::ws)::r)=(dY (w::ws)).bind fun n=>(dE d (left-1) r).map fun q=>(.mk n []::q.1,q.2):=by
 rw[dE,List.length_cons,jY,if_neg h,if_neg h0,if_neg hr];cases dY (w::ws)with
 |none=>rfl
 |some n=>
  simp only[Option.bind_some,dE];cases dS (m8 d) r.length (left-1) r<;>rfl
theorem RF (left:Nat) (w:List UInt8) (ws:List (List UInt8)) (r:aS) (h:¬(w=cV∨w=eB)) (h0:left≠0) (hr:w=dC∧ws=[]):
  dE 0 left ((w::ws)::r)=none:=by rw[dE,List.length_cons,jY,if_neg h,if_neg h0,if_pos hr];rfl
def oK (d:Nat) (body:List aB) (left2:Nat) (rest2:aS):Option (List aB×Nat×aS):=match rest2 with
 |[]=>none
 |l2::rest3=>if l2=[cV] then(dE (d+1) left2 rest3).map fun q=>(.mk {bM with kind:=13} body::q.1,q.2) else none
theorem SY (d left:Nat) (w:List UInt8) (ws:List (List UInt8)) (r:aS) (h:¬(w=cV∨w=eB)) (h0:left≠0) (hr:w=dC∧ws=[]):
  dE (d+1) left ((w::ws)::r)=(dI d (left-1) r).bind fun q=>oK d q.1 q.2.1 q.2.2:=by
 rw[dE,List.length_cons,jY,if_neg h,if_neg h0,if_pos hr];simp only[m8];cases hg:dI d (left-1) r with
 |none=>rfl
 |some q=>
  obtain⟨b,l2,r2⟩:=q;have hs:=tH d _ _ _ hg;simp only[Option.bind_some,oK];cases r2 with
  |nil=>rfl
  |cons x r3=>
   simp only[List.length_cons]at hs ⊢;rw[PG (some (dI d)) (fun g hg=>by cases hg;exact tH d) r.length r.length l2 r3 (Zb _) (by omega)];rw[show dS (some (dI d)) r3.length l2 r3=dE (d+1) l2 r3 from rfl];cases dE (d+1) l2 r3<;>rfl
theorem F0 {w W:World} {B j:Nat} {T:TypeId} {cs:Array Value} {v:Value} (h:aA w B T cs) (k:aA W B T cs) (hc:w.cell? ⟨B,j,none⟩=some v):W.cell? ⟨B,j,none⟩=some v:=by unfold aA at h k;rw[cell_of_row W B j cs T (0,0) k,←cell_of_row w B j cs T (0,0) h];exact hc
theorem NM {w W:World} {a b i j:Nat} {u v:Value} (h:w.cell? ⟨a,i,none⟩=some u∧w.cell? ⟨b,j,none⟩=some v) (hb:Below w.heap.size w W):W.cell? ⟨a,i,none⟩=some u∧W.cell? ⟨b,j,none⟩=some v:=⟨(hb.cell (p:=⟨a,i,none⟩) (aP h.1)).trans h.1,(hb.cell (p:=⟨b,j,none⟩) (aP h.2)).trans h.2⟩
theorem KT (g n₀:Nat) (n1 n2 n3 n4 n5 n6 n7:Int) (ob:Option Addr) (nb cb:Nat) (vps:Value) (first:Bool) (nm:ByteArray) (qs:List PD) (o:Option Addr) (m cap:Nat) (s:List Int) (w:World) (hh:1≤n7∧n7≤4096) (hi:0≤n1∧n1≤4096)
  (h:fB g n₀ vps first qs (.slice o m cap) s w) (hm:m=s.length) (hnm:nm.size≤1000000):
  Calls Tryz.prog 135 #[.pointer (some ⟨g,0,none⟩),.agg #[.int .i64 12,.int .i64 n1,.int .i64 n2,.int .i64 n3,.int .i64 n4,.int .i64 n5,.int .i64 n6,.int .i64 n7,.slice ob nb cb],.slice o m cap,.string nm] w (bL g n₀ qs (aK ⟨12,n1,n2,n3,n4,n5,n6,n7⟩ first s) w):=by
 obtain⟨W0,hW0⟩:∃W0,W0=w.alloc (.cells #[.int .i64 12,.int .i64 n1,.int .i64 n2,.int .i64 n3,.int .i64 n4,.int .i64 n5,.int .i64 n6,.int .i64 n7,.slice ob nb cb] 175):=⟨_,rfl⟩;obtain⟨W1,hW1⟩:∃W1,W1=W0.setCell ⟨g,1,none⟩ (.bool false):=⟨_,rfl⟩;have hst:=h.start ⟨12,n1,n2,n3,n4,n5,n6,n7⟩ (.slice ob nb cb) hW0 hW1;have HA:=Za hst.2;have x1:=hst.1.1;have f1:=hst.1.2;have HW:=Za (Zd hW0 hW1);obtain⟨hs3,hsd,hsp⟩:=iN h.fit;have hm3:m≤3:=by omega
 have HSD:=Za (Zd hsd hsp);have HFIT:=Za h.fit;have HQ:=Za h.hq;have HM:=Za hm;have hl2':¬9223372036854775807<nm.size+2:=by omega
 rw[hW0]at x1 f1;clear h hst hW0 hW1 hsd hsp hs3 hm;have a0:=HA.o.lay.q 0 rfl;have a1:=HA.o.lay.q 1 rfl;have a2:=HA.o.lay.q 2 rfl;have a3:=HA.o.lay.q 3 rfl;have a4:=HA.o.lay.q 4 rfl;have a5:=HA.o.lay.q 5 rfl;have a6:=HA.o.lay.q 6 rfl;have a7:=HA.o.lay.q 7 rfl;have a8:=HA.o.lay.q 8 rfl;have x2:=HA.o.wk.q 2 rfl;have f2:=HA.o.wk.free 2;go_enter Tryz.func135,Tryz.ntmps135;go_upto_region 4 with(fail);rw[←HW.o.1,←HW.o.2];clear x1 f1;have hne7:(n7==0)=false:=by simp;omega
 have hr:IntKind.i64.wrap (n1.tmod n7)=n1%n7:=by rw[Int.tmod_eq_emod_of_nonneg hi.1];have h1:=Int.emod_nonneg n1 (show n7≠0 by omega);have h2:=Int.emod_lt_of_pos n1 (show 0<n7 by omega);rw[IntKind.wrap_i64];omega
 have hr2:n1.tmod n7=n1%n7:=Int.tmod_eq_emod_of_nonneg hi.1;by_cases hm2:m=2
 ·subst hm2;obtain⟨b,off,rfl,hc⟩:=HA.o.sh.1.cell 1 (by rw[←HM.o];omega);obtain⟨x,hx⟩:∃x,x=aE s 1:=⟨_,rfl⟩;rw[←hx]at hc;have HX:=Za hx;clear hx;by_cases hxn:x=n1
  ·subst hxn;obtain⟨r,hrr⟩:∃r,r=x%n7:=⟨_,rfl⟩;rw[←hrr]at hr hr2;have HR:=Za hrr;clear hrr;by_cases hr0:r=0
   ·subst hr0;have HY:=Za (show aK ⟨12,x,n2,n3,n4,n5,n6,n7⟩ first s=some (s,List.replicate 4 [x,x]) by rw[aK,if_neg (show ¬((12:Int)=1) by decide),if_neg (show ¬((12:Int)=2) by decide),if_neg (show ¬((12:Int)=8∨(12:Int)=9) by decide),if_neg (show ¬((12:Int)=10) by decide),if_neg (show ¬((12:Int)=11) by decide),if_pos rfl,if_pos ⟨HM.o.symm,HX.o.symm,HR.o.symm⟩]);go_wp2_with fail;go_quiet(fail);obtain⟨V,hV⟩:∃V,V=W1.drewN nq:=⟨_,rfl⟩;have HV:=Za (show eE g n₀ w.heap.size ⟨12,x,n2,n3,n4,n5,n6,n7⟩ (.slice ob nb cb) vps 0 qs (.slice (some ⟨b,off,none⟩) 2 cap) s w V by rw[hV];exact HA.o.next (eV _));rw[←hV];clear hV hc x2 f2 a0 a1 a2 a3 a4 a5 a6 a7 a8 HA;obtain⟨V2,hV2⟩:∃V2,V2=V.alloc (.cells #[.string ⟨#[113]⟩,.string ⟨#[107]⟩,.string ⟨#[118]⟩,.string ⟨#[111]⟩] 9):=⟨_,rfl⟩;have HV2:=Za (show eE g n₀ w.heap.size ⟨12,x,n2,n3,n4,n5,n6,n7⟩ (.slice ob nb cb) vps 0 qs (.slice (some ⟨b,off,none⟩) 2 cap) s w V2∧aA V2 V.heap.size 9 #[.string ⟨#[113]⟩,.string ⟨#[107]⟩,.string ⟨#[118]⟩,.string ⟨#[111]⟩] by rw[hV2];exact⟨HV.o.next ((Zc _ _).alloc (Zb _) _),aA.new _ _ _⟩);have HVV:=Za hV2;clear hV2;go_wp2_with fail;rw[←HVV.o];go_loopw[13] (fun i wr=>∃(k:Nat),k≤4∧i=.int .i64 k∧Hid (∃(vps':Value) (bad':Int) (qs':List PD),(eE g n₀ w.heap.size ⟨12,x,n2,n3,n4,n5,n6,n7⟩ (.slice ob nb cb) vps' bad' qs' (.slice (some ⟨b,off,none⟩) 2 cap) s w wr∧aA wr V.heap.size 9 #[.string ⟨#[113]⟩,.string ⟨#[107]⟩,.string ⟨#[118]⟩,.string ⟨#[111]⟩])∧(qs'.map (·.sh)=qs.map (·.sh)++List.replicate k [x,x]∧(bad'=0↔k=0∨bA [x,x]=true)))) (fun i _=>4-(intOf i).toNat)
    case atStart=>exact⟨0,by omega,rfl,Za ⟨vps,0,qs,HV2.o,by simp,by simp⟩⟩
    case round=>
     obtain⟨k,hk,rfl,HAP⟩:=hrel;obtain⟨vps',bad',qs',hA,hP⟩:=HAP.o;have HA:=Za hA;have HP:=Za hP;clear hA hP;obtain⟨w1,rfl⟩:∃w1,w1=wr:=⟨_,rfl⟩;by_cases hlt:k<4
     ·obtain⟨lt,hlc,hls⟩:∃lt:ByteArray,w1.cell? ⟨V.heap.size,k,none⟩=some (.string lt)∧lt.size=1:=by
       have:k=0∨k=1∨k=2∨k=3:=by omega
       rcases this with rfl|rfl|rfl|rfl
       ·exact⟨⟨#[113]⟩,HA.o.2.cell 0 rfl,rfl⟩
       ·exact⟨⟨#[107]⟩,HA.o.2.cell 1 rfl,rfl⟩
       ·exact⟨⟨#[118]⟩,HA.o.2.cell 2 rfl,rfl⟩
       ·exact⟨⟨#[111]⟩,HA.o.2.cell 3 rfl,rfl⟩
      have hl1:¬9223372036854775807<nm.size+1:=by omega
      have hl3:¬9223372036854775807<nm.size+1+lt.size:=by omega
      have a1:=HA.o.1.lay.q 1 rfl;have HC:=Za (Zd hlc a1);have HQL:=Za (show qs'.length≤10004 by have:=congrArg List.length HP.o.1;have:=HQ.o;simp at*;omega);have HX:=Za (show Below w1.heap.size w1 w1.drew from Below.drew (Zc _ _));go_wp2_with fail;go_region_held3 (fun w'=>w'.cell? ⟨V.heap.size,k,none⟩=some (.string lt)∧w'.cell? ⟨w.heap.size,1,none⟩=some (.int .i64 x))
       (first|with_reducible exact HCC.o|(refine NM HC.o ?_;(repeat(first|with_reducible exact HX.o|with_reducible exact Zc _ _|with_reducible refine Below.drew ?_|with_reducible refine Below.alloc ?_ (by simp) _))))
       (first
       |(go_at_call 164;refine(kM g n₀ vps' false bad' _ qs' _ _ _ 2 2 [x,x] _ (HA.o.1.next (by first|exact((Zc _ _).alloc (Zb _) _).drew|exact(Zc _ _).drew.alloc (Zb _) _)).wk (HA.o.1.next (by first|exact((Zc _ _).alloc (Zb _) _).drew|exact(Zc _ _).drew.alloc (Zb _) _)).row (by have:=HQL.o;omega) HA.o.1.hn rfl (by first|exact aM.of_own (lE (gY w1 x x) ⟨1,rfl⟩)|exact aM.of_own (gY w1.drew x x)) (by simp)).mono ?_;rintro e w3 ⟨rfl,⟨vps3,q3,hb3,hr3,hq3⟩,hs3⟩;(first|(have HA3:=Za (Zd ((HA.o.1.next ((Zc _ _).alloc (Zb _) _).drew).par hs3 hb3 hr3) ((HA.o.2.next ((Zc _ _).alloc (Zb _) _).drew).keepR hs3 (by decide) (by decide))))|(have HA3:=Za (Zd ((HA.o.1.next ((Zc _ _).drew.alloc (Zb _) _)).par hs3 hb3 hr3) ((HA.o.2.next ((Zc _ _).drew.alloc (Zb _) _)).keepR hs3 (by decide) (by decide)))));have HQ3:=Za hq3;have HCC:=Za (Zd (F0 HA.o.2 HA3.o.2 HC.o.1) (show w3.cell? ⟨w.heap.size,1,none⟩=some (.int .i64 x)from HA3.o.1.lay.cell 1 rfl));clear hs3 hb3 hr3 hq3))
      all_goals
       have HP3:=Za (show(qs'++[q3]).map (·.sh)=qs.map (·.sh)++List.replicate (k+1) [x,x]∧(jR [x,x] bad'=0↔k+1=0∨bA [x,x]=true) by
        refine⟨?_,?_⟩
        ·rw[List.map_append,HP.o.1,List.append_assoc];simp[HQ3.o,List.replicate_succ']
        ·rw[qB,HP.o.2];constructor
         ·intro h;exact .inr h.2
         ·intro h;rcases h with h|h
          ·omega
          ·exact⟨.inr h,h⟩)
       go_wp2_with fail;go_roundw
       case rel=>exact⟨k+1,by omega,by go_num,Za ⟨vps3,jR [x,x] bad',qs'++[q3],HA3.o,HP3.o⟩⟩
       case measure=>simp[intOf];omega
     ·obtain rfl:k=4:=by omega
      go_wp2_with(go_at_call 92;refine(jD _ s _ HA.o.1.sh.1 (by rw[←HM.o];omega)).mono ?_;rintro e w5 ⟨v5,rfl,hown5,hb5⟩;have HO5:=Za (show aH w5 w1.heap.size 3 .i64 v5 s from hown5);obtain⟨o5,c5,rfl⟩:=aJ hown5;have HB5:=Za hb5;clear hown5 hb5);go_ret;refine bL.yes (HA.o.1.next HB5.o) HY.o ?_ HP.o.1 (by simp) (aM.of_own HO5.o);rw[HP.o.2];simp
   ·have hr0':(r != 0)=true:=by simpa using hr0
    have HN:=Za (show aK ⟨12,x,n2,n3,n4,n5,n6,n7⟩ first s=none by rw[aK,if_neg (show ¬((12:Int)=1) by decide),if_neg (show ¬((12:Int)=2) by decide),if_neg (show ¬((12:Int)=8∨(12:Int)=9) by decide),if_neg (show ¬((12:Int)=10) by decide),if_neg (show ¬((12:Int)=11) by decide),if_pos rfl,if_neg (fun h=>hr0 (HR.o.trans h.2.2))]);go_wp2_with fail;go_quiet(fail);go_wp2_with fail;go_ret;exact bL.no ((HA.o.next (eV _)).bad 2) (by decide) HN.o (by omega) none 0 0
  ·have hxn2:(x != n1)=true:=by simpa using hxn
   have HN:=Za (show aK ⟨12,n1,n2,n3,n4,n5,n6,n7⟩ first s=none by rw[aK,if_neg (show ¬((12:Int)=1) by decide),if_neg (show ¬((12:Int)=2) by decide),if_neg (show ¬((12:Int)=8∨(12:Int)=9) by decide),if_neg (show ¬((12:Int)=10) by decide),if_neg (show ¬((12:Int)=11) by decide),if_pos rfl,if_neg (fun h=>hxn (HX.o.trans h.2.1))]);go_wp2_with fail;go_quiet(fail);go_wp2_with fail;go_ret;exact bL.no ((HA.o.next (eV _)).bad 2) (by decide) HN.o (by omega) none 0 0
 ·have hne:((m:Int) != 2)=true:=by simp;omega
  have HN:=Za (show aK ⟨12,n1,n2,n3,n4,n5,n6,n7⟩ first s=none by rw[aK,if_neg (show ¬((12:Int)=1) by decide),if_neg (show ¬((12:Int)=2) by decide),if_neg (show ¬((12:Int)=8∨(12:Int)=9) by decide),if_neg (show ¬((12:Int)=10) by decide),if_neg (show ¬((12:Int)=11) by decide),if_pos rfl,if_neg (fun h=>hm2 (HM.o.trans h.1))]);go_wp2_with fail;go_quiet(fail);go_wp2_with fail;go_ret;exact bL.no ((HA.o.next (eV _)).bad 2) (by decide) HN.o (by omega) none 0 0
theorem FB (k:Int) (h:k<1∨12<k):cQ k=none:=by
 rw[cQ,List.find?_eq_none];intro r hr;have:∀r∈bG,1≤r.kind∧r.kind≤12:=by decide
 have:=this r hr;simp;omega
theorem SE (n:aG) (h:n.kind=13):jK n=gD n bM:=by obtain⟨k,k1,k2,k3,k4,k5,k6,k7⟩:=n;simp only at h;subst h;rw[Bool.eq_iff_iff];rw[show gD ⟨13,k1,k2,k3,k4,k5,k6,k7⟩ bM=(decide (k1=0)&&decide (k2=0)&&decide (k3=0)&&decide (k4=0)&&decide (k5=0)&&decide (k6=0)&&decide (k7=0))from rfl];simp[jK,mR,cQ,bG,dC,kE,gM,dW,cS,bM];omega
theorem FD (n:aG) (h:n.kind≠13) (body:List aB):(jK n&&decide (body.length=0))=eZ n body:=by
 obtain⟨k,k1,k2,k3,k4,k5,k6,k7⟩:=n;simp only at h;by_cases hk:k<1∨12<k
 ·rw[eZ,FB _ hk,jK,DX k (by omega)];rfl
 ·have:k=1∨k=2∨k=3∨k=4∨k=5∨k=6∨k=7∨k=8∨k=9∨k=10∨k=11∨k=12:=by omega
  clear h hk;rw[Bool.eq_iff_iff];rcases this with rfl|rfl|rfl|rfl|rfl|rfl|rfl|rfl|rfl|rfl|rfl|rfl
  all_goals
   simp[jK,eZ,hZ,mR,cQ,bG,kE,gM,dW,cS,gD,bM,eP,eQ,gJ,aE,aG.fld,aG.put,bU.fitsTo,bU.fits,bU.made,List.range_succ];by_cases hb:body=[]
   ·simp only[hb,and_true,true_and];omega
   ·simp only[hb,and_false,false_and]
mutual
theorem LE (deep:Nat) (left:Int) (hd:deep≤4) (h0:0≤left):∀l:aB,bY deep left l=if gZ deep l=true∧(l.count:Int)≤left then some (left-l.count) else none
 |.mk n body=>by
  have hc:(aB.mk n body).count=1+aR body:=by rw[aB.count]
  rw[bY,hc,gZ];by_cases hl:left-1<0
  ·rw[decide_eq_true hl,cond_true,if_neg (by omega)]
  rw[decide_eq_false hl,cond_false];by_cases hk:n.kind=13
  ·rw[decide_eq_true hk,cond_true,cond_true,SE n hk];cases hp:gD n bM with
   |false=>rw[Bool.and_false,cond_false,if_neg (by simp)]
   |true=>
    by_cases hd4:deep<4
    ·rw[decide_eq_true hd4,Bool.and_self,cond_true,sX (deep+1) (left-1) (by omega) (by omega) body];have hd4':deep≠4:=by omega
     simp only[Bool.true_and,decide_eq_true hd4'];by_cases hm:eL (deep+1) body=true∧(aR body:Int)≤left-1
     ·rw[if_pos hm,if_pos ⟨hm.1,by omega⟩]
      congr 1
      omega
     ·rw[if_neg hm,if_neg (fun h=>hm ⟨h.1,by omega⟩)]
    ·rw[decide_eq_false hd4,Bool.false_and,cond_false,if_neg];intro h;have:=h.1;simp at this;omega
  ·rw[decide_eq_false hk,cond_false,cond_false,FD n hk body];cases hb:eZ n body with
   |false=>rw[cond_false,if_neg (by simp)]
   |true=>
    have:=rP hb;subst this;rw[cond_true,if_pos ⟨rfl,by simp[aR];omega⟩];simp[aR]
theorem sX (deep:Nat) (left:Int) (hd:deep≤4) (h0:0≤left):∀ls:List aB,bQ deep left ls=if eL deep ls=true∧(aR ls:Int)≤left then some (left-aR ls) else none
 |[]=>by rw[bQ,eL,aR,if_pos ⟨rfl,by omega⟩];simp
 |l::r=>by
  rw[bQ,LE deep left hd h0 l,eL,aR];by_cases hm:gZ deep l=true∧(l.count:Int)≤left
  ·rw[if_pos hm];dsimp only;rw[sX deep (left-l.count) hd (by omega) r,hm.1,Bool.true_and];by_cases hr:eL deep r=true∧(aR r:Int)≤left-l.count
   ·rw[if_pos hr,if_pos ⟨hr.1,by omega⟩]
    congr 1
    omega
   ·rw[if_neg hr,if_neg (fun h=>hr ⟨h.1,by omega⟩)]
  ·rw[if_neg hm,if_neg];intro h;rw[Bool.and_eq_true]at h;exact hm ⟨h.1.1,by omega⟩
end
theorem tV:∀ls:List aB,ls.length≤aR ls
 |[]=>by simp
 |l::r=>by
  have:=tV r;have h:=l.count_eq;rw[aR,List.length_cons];omega
mutual
theorem F5 (deep:Nat) (hd:deep≤4):∀l:aB,gZ deep l=true→l.count≤65→kX (4-(deep:Int)) l=true
 |.mk n body,h,hc=>by
  have hc:(aB.mk n body).count=1+aR body:=by rw[aB.count]
  rw[gZ,Bool.and_eq_true]at h;have h2:=h.2;rw[kX];by_cases hk:n.kind=13
  ·rw[decide_eq_true hk,cond_true,Bool.and_eq_true,decide_eq_true_eq]at h2;have hl:=tV body;have hb:=tY (deep+1) (by omega) body h2.2 (by omega);rw[show(4-((deep+1:Nat):Int))=4-(deep:Int)-1 by omega]at hb;rw[hb,decide_eq_true (show 0≤4-(deep:Int)-1 by omega),decide_eq_true (show body.length≤64 by omega)];simp
  ·rw[decide_eq_false hk,cond_false]at h2;rw[h2];rfl
theorem tY (deep:Nat) (hd:deep≤4):∀ls:List aB,eL deep ls=true→aR ls≤64→iS (4-(deep:Int)) ls=true
 |[],_,_=>by rw[iS]
 |l::r,h,hc=>by
  rw[eL,Bool.and_eq_true]at h;rw[aR]at hc;rw[iS,F5 deep hd l h.1 (by omega),tY deep hd r h.2 (by omega)];rfl
end
theorem BR (d:bE):jO d=dL d:=by
 rw[jO,dL,sX 0 64 (by omega) (by omega) d.lays];cases hm:eL 0 d.lays with
 |false=>simp
 |true=>
  by_cases hc:aR d.lays≤64
  ·have hl:=tV d.lays;have hdp:=tY 0 (by omega) d.lays hm hc;have:fY 4 d.lays=true:=by
    rw[fY,decide_eq_true (show(0:Int)≤4 by omega),decide_eq_true (show d.lays.length≤64 by omega)]
    simpa using hdp
   rw[this,decide_eq_true hc,if_pos ⟨rfl,by omega⟩];simp
  ·rw[decide_eq_false hc,if_neg (by omega)];simp
section
variable {P:Program}
theorem LU (w:World) (b off:Nat) (ty:TypeId) (cs:Array Value) (d:TypeDesc) (hc:∀j v,cs[j]?=some v→w.cell? ⟨b,off+j,none⟩=some v)
  (hu:P.underlying ty=some d) (hd:(match d with|.struct _|.array _ _=>true|_=>false)=true) (hi:(P.info? ty).map (·.size)=some cs.size):
  (loadVar ty ⟨b,off,none⟩).run P w=.ok (.agg cs) w:=by
 have hl:(loadCells ⟨b,off,none⟩ cs.toList.length).run P w=.ok cs.toList.toArray w:=
  run_loadCells_list (P:=P) w ⟨b,off,none⟩ cs.toList (fun j v hv=>by
   have hadd:(⟨b,off,none⟩:Addr).add j=⟨b,off+j,none⟩:=by unfold Addr.add;split<;>simp_all
   rw[hadd];exact hc j v (by simpa using hv))
 cases hq:P.info? ty with
 |none=>simp[hq]at hi
 |some i=>
  have hs:i.size=cs.size:=by simpa [hq]using hi
  have hagg:(isAgg ty).run P w=.ok true w:=by unfold isAgg;rw[Sem.run_bind,run_underlying hu w];cases d<;>simp_all
  simp only[Array.length_toList,Array.toArray_toList]at hl;simp[loadVar,Sem.run_bind,hagg,sizeOf,typeInfo,hq,hs,hl]
theorem uX {o:Oper} {a:Act} {w:World} (ty:TypeId) (x:Operand) (ho:o.op=.load ty x)
  (b off:Nat) (hx:a.eval x=.pointer (some ⟨b,off,none⟩)) (cs:Array Value) (d:TypeDesc) (hc:∀j v,cs[j]?=some v→w.cell? ⟨b,off+j,none⟩=some v)
  (hu:P.underlying ty=some d) (hd:(match d with|.struct _|.array _ _=>true|_=>false)=true) (hi:(P.info? ty).map (·.size)=some cs.size):
  (execOp a.eval o).run P w=.ok (.value (.agg cs)) w:=by unfold execOp;simp only[ho,hx,Instr.loadAt,Instr.sureAddr,Sem.run_bind,Sem.run_pure,Result.andThen_ok,LU w b off ty cs d hc hu hd hi]
theorem CQ {o:Oper} {a:Act} {w:World} {K:Act→World→Prop} {Q:Exit→Act→World→Prop} (ty:TypeId) (x:Operand) (ho:o.op=.load ty x)
  (b off:Nat) (hx:a.eval x=.pointer (some ⟨b,off,none⟩)) (cs:Array Value) (d:TypeDesc) (hc:∀j v,cs[j]?=some v→w.cell? ⟨b,off+j,none⟩=some v)
  (hu:P.underlying ty=some d) (hd:(match d with|.struct _|.array _ _=>true|_=>false)=true) (hi:(P.info? ty).map (·.size)=some cs.size)
  (h:K (a.put o.dst (.agg cs)) w):o.wp P a w K Q:=by unfold Oper.wp;rw[uX ty x ho b off hx cs d hc hu hd hi];exact h
theorem AH {ops:Array Oper} {rest:List Oper} {o:Oper} {a:Act} {w:World} {Q:Exit→Act→World→Prop} (hgd:o.guard=none) (ty:TypeId) (x:Operand) (ho:o.op=.load ty x)
  (b off:Nat) (hx:a.eval x=.pointer (some ⟨b,off,none⟩)) (cs:Array Value) (d:TypeDesc) (hc:∀j v,cs[j]?=some v→w.cell? ⟨b,off+j,none⟩=some v)
  (hu:P.underlying ty=some d) (hd:(match d with|.struct _|.array _ _=>true|_=>false)=true) (hi:(P.info? ty).map (·.size)=some cs.size)
  (h:wpList P ops Q rest (a.put o.dst (.agg cs)) w):wpList P ops Q (o::rest) a w:=
 wpList_plain hgd fun _ hK=>CQ ty x ho b off hx cs d hc hu hd hi (hK _ _ h)
theorem RT {ops:Array Oper} {rest:List Oper} {o:Oper} {a:Act} {w:World} {Q:Exit→Act→World→Prop} (hw:Region.wanted o (yielded ops a.tmps)=true) (ty:TypeId) (x:Operand) (ho:o.op=.load ty x)
  (b off:Nat) (hx:a.eval x=.pointer (some ⟨b,off,none⟩)) (cs:Array Value) (d:TypeDesc) (hc:∀j v,cs[j]?=some v→w.cell? ⟨b,off+j,none⟩=some v)
  (hu:P.underlying ty=some d) (hd:(match d with|.struct _|.array _ _=>true|_=>false)=true) (hi:(P.info? ty).map (·.size)=some cs.size)
  (h:wpList P ops Q rest (a.put o.dst (.agg cs)) w):wpList P ops Q (o::rest) a w:=by rw[wpList,if_pos hw];left;exact CQ ty x ho b off hx cs d hc hu hd hi h
end
theorem QG {w W:World} {b off:Nat} {cs:Array Value} (hb:Below w.heap.size w W) (h:∀j v,cs[j]?=some v→w.cell? ⟨b,off+j,none⟩=some v):∀j v,cs[j]?=some v→W.cell? ⟨b,off+j,none⟩=some v:=
 fun j v hj=>(hb.cell (p:=⟨b,off+j,none⟩) (aP (h j v hj))).trans (h j v hj)
end Go.Proofs.YtjhkdocidcfpdaaGreatDoor
