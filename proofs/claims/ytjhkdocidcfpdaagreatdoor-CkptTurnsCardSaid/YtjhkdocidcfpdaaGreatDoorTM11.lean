/-
  A part of the proof of a law (packed by program).
-/
import Derived.Test.YtjhkdocidcfpdaaGreatDoorTM08
import Derived.Test.YtjhkdocidcfpdaaGreatDoorTM09
set_option linter.unusedVariables false
set_option linter.unusedSimpArgs false
set_option maxRecDepth 100000
set_option maxHeartbeats 16000000
namespace Go.Proofs.YtjhkdocidcfpdaaGreatDoor
open Go.RowKit Go.Shelf Go
theorem wG (n:aG) (first:Bool) (s:List Int) (hk:n.kind=2):aK n first s=(bV n s).bind fun p=>if aE s 0=n.inn then some (n.o::p,[[n.o,n.inn]++List.replicate (s.length-1) n.size,[n.o]++List.replicate (s.length-1) 1]) else none:=by rw[aK,hk];cases bV n s<;>rfl
theorem BT {n:aG} {s p:List Int} (h:some p=bV n s):2≤s.length∧s.length≤3∧p.length=s.length-1:=by
 rw[bV]at h;split at h
 ·have:=lU h.symm;rw[List.length_tail]at this;omega
 ·cases h
theorem PW (g n₀:Nat) (n:aG) (ob:Option Addr) (nb cb:Nat) (o:Option Addr) (cap:Nat) (first:Bool) (nm:ByteArray) (s:List Int) (w:World) (h:fI g n₀ n (.slice ob nb cb) o cap first nm s w)
  (hk:n.kind=2) (hw:jE n) (hres:none=bV n s):
  Calls Tryz.prog 207 #[.pointer (some ⟨g,0,none⟩)] w (eY g n₀ n (.slice ob nb cb) (.slice o s.length cap) first nm w (aK n first s)):=by have HH:=Za h;obtain⟨hsl,hsd,hsp⟩:=dX h.sh;have HD:Hid (aK n first s=none):=Za (by rw[wG n first s hk,←hres];rfl);have HW:=Za hw;have HRES:=Za hres;clear hw hres;obtain⟨k,k1,k2,k3,k4,k5,k6,k7⟩:=n;have hk:k=2:=hk;subst hk;have c0:=h.box.q 0 rfl;have c1:=h.box.q 1 rfl;have c2:=h.box.q 2 rfl;have c3:=h.box.q 3 rfl;have c4:=h.box.q 4 rfl;have c5:=h.box.q 5 rfl;have c6:=h.box.q 6 rfl;have c7:=h.box.q 7 rfl;have c8:=h.box.q 8 rfl;have c9:=h.box.q 9 rfl;have hgl:=h.box.lt;clear h;go_enter Tryz.func207,Tryz.ntmps207;go_wp2_with fail;go_region;have hb1:Below w.heap.size w (w.alloc (.cells #[.int .i64 2,.int .i64 k1,.int .i64 k2,.int .i64 k3,.int .i64 k4,.int .i64 k5,.int .i64 k6,.int .i64 k7,.slice ob nb cb] 175)).drew:=((Zc _ _).alloc (Zb _) _).drew;have hbl:aA (w.alloc (.cells #[.int .i64 2,.int .i64 k1,.int .i64 k2,.int .i64 k3,.int .i64 k4,.int .i64 k5,.int .i64 k6,.int .i64 k7,.slice ob nb cb] 175)).drew w.heap.size 175 #[.int .i64 2,.int .i64 k1,.int .i64 k2,.int .i64 k3,.int .i64 k4,.int .i64 k5,.int .i64 k6,.int .i64 k7,.slice ob nb cb]:=aA.new w _ _;clear c0 c1 c2 c3 c4 c5 c6 c7 c8 c9;generalize (w.alloc (.cells #[.int .i64 2,.int .i64 k1,.int .i64 k2,.int .i64 k3,.int .i64 k4,.int .i64 k5,.int .i64 k6,.int .i64 k7,.slice ob nb cb] 175)).drew=W1 at hb1 hbl ⊢;obtain⟨lb,hlb⟩:∃lb,lb=w.heap.size:=⟨_,rfl⟩;rw[←hlb]at hbl ⊢;have HBL:=Za hbl;have HBX:=Za (HH.o.box.next hb1);have HS:=Za (HH.o.rd.below hb1);have HP:=Za (bC.below hb1 (Nat.le_of_lt hgl));have HLB:=Za (show g<lb∧lb<W1.heap.size from⟨by omega,hbl.lt⟩);have c0:=hbl.q 0 rfl;have c1:=hbl.q 1 rfl;have c2:=hbl.q 2 rfl;have c3:=hbl.q 3 rfl;have c4:=hbl.q 4 rfl;have c5:=hbl.q 5 rfl;have c6:=hbl.q 6 rfl;have c7:=hbl.q 7 rfl;have d9:=HBX.o.q 9 rfl;have d10:=HBX.o.q 10 rfl;have d12:=HBX.o.q 12 rfl;have f10:=HBX.o.free 10;clear hb1 hbl hlb hgl;have HI:=Za (qI g n₀ ⟨2,k1,k2,k3,k4,k5,k6,k7⟩ (.slice ob nb cb) (.slice none 0 0) (.slice none 0 0) first nm 0 false o cap s W1 HBX.o HS.o hsd (by omega) HW.o);rw[←HRES.o]at HI;go_wp2_with(go_at_call 211;refine HI.o.mono ?_;rintro e w2 ⟨hb2,v,rfl,_⟩;refine aD ?_);have HX:=Za hb2;clear hb2;refine aC ?_;go_wp2_with fail;go_region;go_wp2_with fail;go_ret;exact⟨HP.o.trans (bC.below (HX.o.drew) (Nat.le_of_lt (Nat.lt_trans HLB.o.1 HLB.o.2))),_,_,[],HBX.o.next HX.o.drew,aV.nil _ _ _,by rw[HD.o];rfl,fun p hp=>(by rw[HD.o]at hp;cases hp),fun _=>⟨_,_,_,rfl⟩⟩
theorem M8 (g n₀:Nat) (n:aG) (ob:Option Addr) (nb cb:Nat) (o:Option Addr) (cap:Nat) (first:Bool) (nm:ByteArray) (s:List Int) (w:World) (h:fI g n₀ n (.slice ob nb cb) o cap first nm s w)
  (hk:n.kind=2) (hw:jE n) (p:List Int) (hres:some p=bV n s) (hne:aE s 0≠n.inn):
  Calls Tryz.prog 207 #[.pointer (some ⟨g,0,none⟩)] w (eY g n₀ n (.slice ob nb cb) (.slice o s.length cap) first nm w (aK n first s)):=by
 have HH:=Za h;obtain⟨hsl,hsd,hsp⟩:=dX h.sh;have HD:Hid (aK n first s=none):=Za (by rw[wG n first s hk,←hres,Option.bind_some,if_neg hne]);have hne':(aE s 0 != n.inn)=true:=by rw[bne_iff_ne];exact hne
 clear hne;have HW:=Za hw;have HRES:=Za hres;obtain⟨hs1,hs2,hpl⟩:=BT hres;obtain⟨i0,hi,hz0,hz1,hz2⟩:=info_parts jJ;clear hw hres;obtain⟨k,k1,k2,k3,k4,k5,k6,k7⟩:=n;have hk:k=2:=hk;subst hk;have c0:=h.box.q 0 rfl;have c1:=h.box.q 1 rfl;have c2:=h.box.q 2 rfl;have c3:=h.box.q 3 rfl;have c4:=h.box.q 4 rfl;have c5:=h.box.q 5 rfl;have c6:=h.box.q 6 rfl;have c7:=h.box.q 7 rfl;have c8:=h.box.q 8 rfl;have c9:=h.box.q 9 rfl;have hgl:=h.box.lt;clear h;go_enter Tryz.func207,Tryz.ntmps207;go_wp2_with fail;go_region;have hb1:Below w.heap.size w (w.alloc (.cells #[.int .i64 2,.int .i64 k1,.int .i64 k2,.int .i64 k3,.int .i64 k4,.int .i64 k5,.int .i64 k6,.int .i64 k7,.slice ob nb cb] 175)).drew:=((Zc _ _).alloc (Zb _) _).drew;have hbl:aA (w.alloc (.cells #[.int .i64 2,.int .i64 k1,.int .i64 k2,.int .i64 k3,.int .i64 k4,.int .i64 k5,.int .i64 k6,.int .i64 k7,.slice ob nb cb] 175)).drew w.heap.size 175 #[.int .i64 2,.int .i64 k1,.int .i64 k2,.int .i64 k3,.int .i64 k4,.int .i64 k5,.int .i64 k6,.int .i64 k7,.slice ob nb cb]:=aA.new w _ _;clear c0 c1 c2 c3 c4 c5 c6 c7 c8 c9;generalize (w.alloc (.cells #[.int .i64 2,.int .i64 k1,.int .i64 k2,.int .i64 k3,.int .i64 k4,.int .i64 k5,.int .i64 k6,.int .i64 k7,.slice ob nb cb] 175)).drew=W1 at hb1 hbl ⊢;obtain⟨lb,hlb⟩:∃lb,lb=w.heap.size:=⟨_,rfl⟩;rw[←hlb]at hbl ⊢;have HBL:=Za hbl;have HBX:=Za (HH.o.box.next hb1);have HS:=Za (HH.o.rd.below hb1);have HP:=Za (bC.below hb1 (Nat.le_of_lt hgl));have HLB:=Za (show g<lb∧lb<W1.heap.size from⟨by omega,hbl.lt⟩);have c0:=hbl.q 0 rfl;have c1:=hbl.q 1 rfl;have c2:=hbl.q 2 rfl;have c3:=hbl.q 3 rfl;have c4:=hbl.q 4 rfl;have c5:=hbl.q 5 rfl;have c6:=hbl.q 6 rfl;have c7:=hbl.q 7 rfl;have d9:=HBX.o.q 9 rfl;have d10:=HBX.o.q 10 rfl;have d12:=HBX.o.q 12 rfl;have f10:=HBX.o.free 10;clear hb1 hbl hlb hgl;have HI:=Za (qI g n₀ ⟨2,k1,k2,k3,k4,k5,k6,k7⟩ (.slice ob nb cb) (.slice none 0 0) (.slice none 0 0) first nm 0 false o cap s W1 HBX.o HS.o hsd (by omega) HW.o);rw[←HRES.o]at HI;obtain⟨b,off,rfl,e0⟩:=HS.o.1.cell 0 (by omega);rw[Nat.add_zero]at e0;have HA:=Za (show dG g n₀ lb ⟨2,k1,k2,k3,k4,k5,k6,k7⟩ (.slice ob nb cb) (.slice (some ⟨b,off,none⟩) s.length cap) (.slice none 0 0) (.slice none 0 0) first nm [] [] w W1 from⟨HP.o,HBX.o,HBL.o,aV.nil _ _ _,aM.nil _ _⟩);have hlen:(0:Int)<s.length:=by omega
 have hgg:=HH.o.n0;go_wp2_with(go_at_call 211;refine HI.o.mono ?_;rintro e w2 ⟨hb2,v,rfl,ho⟩;refine aD ?_);have ho2:=ho p rfl;obtain⟨op,kp,rfl⟩:=aJ ho2;have HA2:=Za (HA.o.alloc hb2);have HO2:=Za (Rd.of_own ho2);have HS2:=Za (HS.o.below hb2);have d9':=HA2.o.box.q 9 rfl;have e0':w2.cell? ⟨b,off,none⟩=some (.int .i64 (aE s 0)):=(hb2.cell (p:=⟨b,off,none⟩) (aP e0)).trans e0;have c1':=HA2.o.lay.q 1 rfl;have c2':=HA2.o.lay.q 2 rfl;clear ho ho2 hb2 HA HI c0 c1 c2 c3 c4 c5 c6 c7 d9 d10 d12 f10 e0 HBX HBL HP HS;refine aC ?_;go_wp2_with fail;go_region;go_wp2_with fail;go_ret;exact⟨(HA2.o.alloc (Zc _ w2).drew).p,_,_,[],(HA2.o.alloc (Zc _ w2).drew).box,aV.nil _ _ _,by rw[HD.o];rfl,fun p hp=>(by rw[HD.o]at hp;cases hp),fun _=>⟨_,_,_,rfl⟩⟩
def bN (w:World) (p:Prop) (e:Ending) (w':World):Prop:=(∃r,e=.returned (.bool r)∧(r=true↔p))∧Below w.heap.size w w'
theorem bN.no {w w':World} {p:Prop} (h:¬p) (hb:Below w.heap.size w w'):bN w p (.returned (.bool false)) w':=⟨⟨false,rfl,by simp[h]⟩,hb⟩
theorem bN.yes {w w':World} {p:Prop} (h:p) (hb:Below w.heap.size w w'):bN w p (.returned (.bool true)) w':=⟨⟨true,rfl,by simp[h]⟩,hb⟩
theorem bN.of {w w':World} {p:Prop} {r:Bool} (h:r=true↔p) (hb:Below w.heap.size w w'):bN w p (.returned (.bool r)) w':=⟨⟨r,rfl,h⟩,hb⟩
theorem aT {w w':World} {b off:Nat} {v:Value} (hb:Below w.heap.size w w') (h:w.cell? ⟨b,off,none⟩=some v):w'.cell? ⟨b,off,none⟩=some v:=(hb.cell (p:=⟨b,off,none⟩) (aP h)).trans h
def pV (xs:List aB):Prop:=∀(v u:Value) (ys:List aB) (w:World),bF w v xs→bF w u ys→xs.length≤140737488351232→ys.length≤140737488351232→
 Calls Tryz.prog 95 #[v,u] w (bN w (xs=ys))
theorem BV (n m:aG) (body c:List aB) (hbody:pV body) (v u:Value) (w:World) (hv:bF w v body) (hu:bF w u c) (hl:body.length≤140737488351232) (hl2:c.length≤140737488351232):
  Calls Tryz.prog 138 #[.agg (n.cells v).toArray,.agg (m.cells u).toArray] w (bN w (n=m∧body=c)):=by
 obtain⟨o1,c1,rfl⟩:=hv.len;obtain⟨o2,c2,rfl⟩:=hu.len;have hB:=Za (show ∀o1 o2:Obj,Below w.heap.size w ((w.alloc o1).alloc o2)from fun o1 o2=>((Zc _ _).alloc (Zb _) _).alloc (by simp) _);have HC:=Za (fun o3 o4=>hbody _ _ c _ (hv.next (hB.o o3 o4)) (hu.next (hB.o o3 o4)) hl hl2);clear hv hu hbody;obtain⟨k0,k1,k2,k3,k4,k5,k6,k7⟩:=n;obtain⟨j0,j1,j2,j3,j4,j5,j6,j7⟩:=m;simp only[aG.cells];go_enter Tryz.func138,Tryz.ntmps138;go_wp2_with(go_at_call 95;refine(HC.o _ _).mono ?_;rintro e w' ⟨⟨r,rfl,hr⟩,hb⟩;refine aD ?_)
 all_goals first
  |(refine aC ?_
    have HR:=Za hr;have HBB:=Za ((hB.o _ _).trans (hb.mono (hB.o _ _).size));clear hr hb;go_wp2;go_ret;exact bN.of (by simp[HR.o, *]) HBB.o)
  |(go_ret
    exact bN.no (by simp[*]) (hB.o _ _))
theorem DZ (xs:List aB) (hall:∀l∈xs,pV l.body):pV xs:=by
 intro v u ys w hr hs hl hl2;obtain⟨o,cap,rfl⟩:=hr.len;obtain⟨o2,cap2,rfl⟩:=hs.len;have HR:=Za hr;have HS:=Za hs;have HA:=Za hall;clear hr hs hall;by_cases hlen:xs.length=ys.length
 ·have hb:((xs.length:Int) != ys.length)=false:=by simp[hlen]
  have HE:=Za hlen;clear hlen;go_enter Tryz.func95,Tryz.ntmps95;go_wp2;go_loopw[5] (fun i wr=>∃k:Nat,k≤xs.length∧i=.int .i64 k∧Hid (xs.take k=ys.take k)∧Below w.heap.size w wr) (fun i _=>xs.length-(intOf i).toNat)
  case atStart=>exact⟨0,Ze _,rfl,Za rfl,Zc _ _⟩
  case round=>
   obtain⟨k,hk,rfl,HP,hB⟩:=hrel;obtain⟨w3,rfl⟩:∃w3,w3=wr:=⟨_,rfl⟩;have HB:=Za hB;clear hB;by_cases hlt:k<xs.length
   ·obtain⟨ba,offa,va,rfl,hc1,hla,hma⟩:=(HR.o.below HB.o (Zb _)).lay k hlt;have hltb:k<ys.length:=by rw[←HE.o];exact hlt
    obtain⟨bb,offb,vb,rfl,hc2,hlb,hmb⟩:=(HS.o.below HB.o (Zb _)).lay k hltb;have HT:=Za (show xs.take (k+1)=xs.take k++[xs[k]] from List.take_succ_eq_append_getElem hlt);have HT2:=Za (show ys.take (k+1)=ys.take k++[ys[k]] from List.take_succ_eq_append_getElem hltb);have HQ:=Za (HA.o _ (List.getElem_mem hlt));have HNE:=Za (fun h:xs=ys=>show xs[k]=ys[k] by subst h;rfl);generalize xs[k]=x at hc1 hla hma HT HQ HNE;generalize ys[k]=y at hc2 hlb hmb HT2 HNE;obtain⟨n,body⟩:=x;obtain⟨m,c⟩:=y;simp only[aB.n,aB.body]at hc1 hla hma hc2 hlb hmb HQ;have HCE:=Za (BV n m body c HQ.o va vb);have HLA:=Za hla;have HLB:=Za hlb;obtain⟨o5,c5,rfl⟩:=hla.len;obtain⟨o6,c6,rfl⟩:=hlb.len;have a0:=hc1 0 _ rfl;have a1:=hc1 1 _ rfl;have a2:=hc1 2 _ rfl;have a3:=hc1 3 _ rfl;have a4:=hc1 4 _ rfl;have a5:=hc1 5 _ rfl;have a6:=hc1 6 _ rfl;have a7:=hc1 7 _ rfl;have a8:=hc1 8 _ rfl;have b0:=hc2 0 _ rfl;have b1:=hc2 1 _ rfl;have b2:=hc2 2 _ rfl;have b3:=hc2 3 _ rfl;have b4:=hc2 4 _ rfl;have b5:=hc2 5 _ rfl;have b6:=hc2 6 _ rfl;have b7:=hc2 7 _ rfl;have b8:=hc2 8 _ rfl;simp only[Nat.add_zero]at a0 b0;clear hc1 hc2 hla hlb;have HC0:=Za (Zd a0 (Zd a1 (Zd a2 (Zd a3 (Zd a4 (Zd a5 (Zd a6 (Zd a7 (Zd a8 (Zd b0 (Zd b1 (Zd b2 (Zd b3 (Zd b4 (Zd b5 (Zd b6 (Zd b7 (b8))))))))))))))))));have HX:=Za (show Below w3.heap.size w3 w3.drew from Below.drew (Zc _ _));go_wp2_with fail;go_region_held3 (fun w'=>w'.cell? ⟨ba,offa+k*9,none⟩=some (.int .i64 n.kind)∧w'.cell? ⟨ba,offa+k*9+1,none⟩=some (.int .i64 n.inn)∧w'.cell? ⟨ba,offa+k*9+2,none⟩=some (.int .i64 n.o)∧w'.cell? ⟨ba,offa+k*9+3,none⟩=some (.int .i64 n.size)∧w'.cell? ⟨ba,offa+k*9+4,none⟩=some (.int .i64 n.stride)∧w'.cell? ⟨ba,offa+k*9+5,none⟩=some (.int .i64 n.pad)∧w'.cell? ⟨ba,offa+k*9+6,none⟩=some (.int .i64 n.percent)∧w'.cell? ⟨ba,offa+k*9+7,none⟩=some (.int .i64 n.heads)∧w'.cell? ⟨ba,offa+k*9+8,none⟩=some (.slice o5 body.length c5)∧w'.cell? ⟨bb,offb+k*9,none⟩=some (.int .i64 m.kind)∧w'.cell? ⟨bb,offb+k*9+1,none⟩=some (.int .i64 m.inn)∧w'.cell? ⟨bb,offb+k*9+2,none⟩=some (.int .i64 m.o)∧w'.cell? ⟨bb,offb+k*9+3,none⟩=some (.int .i64 m.size)∧w'.cell? ⟨bb,offb+k*9+4,none⟩=some (.int .i64 m.stride)∧w'.cell? ⟨bb,offb+k*9+5,none⟩=some (.int .i64 m.pad)∧w'.cell? ⟨bb,offb+k*9+6,none⟩=some (.int .i64 m.percent)∧w'.cell? ⟨bb,offb+k*9+7,none⟩=some (.int .i64 m.heads)∧w'.cell? ⟨bb,offb+k*9+8,none⟩=some (.slice o6 c.length c6))
     (exact⟨aT HX.o HC0.o.1,aT HX.o HC0.o.2.1,aT HX.o HC0.o.2.2.1,aT HX.o HC0.o.2.2.2.1,aT HX.o HC0.o.2.2.2.2.1,aT HX.o HC0.o.2.2.2.2.2.1,aT HX.o HC0.o.2.2.2.2.2.2.1,aT HX.o HC0.o.2.2.2.2.2.2.2.1,aT HX.o HC0.o.2.2.2.2.2.2.2.2.1,aT HX.o HC0.o.2.2.2.2.2.2.2.2.2.1,aT HX.o HC0.o.2.2.2.2.2.2.2.2.2.2.1,aT HX.o HC0.o.2.2.2.2.2.2.2.2.2.2.2.1,aT HX.o HC0.o.2.2.2.2.2.2.2.2.2.2.2.2.1,aT HX.o HC0.o.2.2.2.2.2.2.2.2.2.2.2.2.2.1,aT HX.o HC0.o.2.2.2.2.2.2.2.2.2.2.2.2.2.2.1,aT HX.o HC0.o.2.2.2.2.2.2.2.2.2.2.2.2.2.2.2.1,aT HX.o HC0.o.2.2.2.2.2.2.2.2.2.2.2.2.2.2.2.2.1,aT HX.o HC0.o.2.2.2.2.2.2.2.2.2.2.2.2.2.2.2.2.2⟩)
     (first
     |(go_at_call 138;refine(HCE.o _ (HLA.o.next HX.o) (HLB.o.next HX.o) hma hmb).mono ?_;rintro e wy ⟨⟨r,rfl,hr⟩,hby⟩;have HR:=Za hr;have HX:=Za (HX.o.trans (hby.mono HX.o.size));clear hby hr))
    clear a0 a1 a2 a3 a4 a5 a6 a7 a8 b0 b1 b2 b3 b4 b5 b6 b7 b8;have HN:=Za (HB.o.trans (HX.o.mono HB.o.size));cases r with
    |false=>
     have HNX:=Za (show ¬xs=ys from fun h=>by
      have h1:=HNE.o h;injection h1 with h2 h3;exact Bool.noConfusion (HR.o.2 ⟨h2,h3⟩))
     go_wp2_with fail;go_ret;exact bN.no HNX.o HN.o
    |true=>
     have HK1:=Za (show xs.take (k+1)=ys.take (k+1) by
      rw[HT.o,HT2.o,HP.o,(HR.o.1 rfl).1,(HR.o.1 rfl).2])
     go_wp2_with fail;go_roundw
     case rel=>exact⟨k+1,by omega,by go_num,HK1,HN.o⟩
     case measure=>simp[intOf];omega
   ·obtain rfl:k=xs.length:=by omega
    have HX:=Za (show xs=ys by have:=HP.o;rw[List.take_of_length_le (Zb _),List.take_of_length_le (by rw[HE.o];exact Zb _)]at this;exact this);go_wp2;go_ret;exact bN.yes HX.o HB.o
 ·have hb:((xs.length:Int) != ys.length)=true:=by simp;omega
  have HE:=Za hlen;clear hlen;go_enter Tryz.func95,Tryz.ntmps95;go_wp2;go_ret;exact bN.no (fun h=>HE.o (congrArg List.length h)) (Zc _ _)
theorem TI:∀l:aB,pV l.body:=aB.ind fun n body h=>DZ body h
theorem AE (xs:List aB):pV xs:=DZ xs fun l _=>TI l
theorem NJ (n m:aG) (body c:List aB) (v u:Value) (w:World) (hv:bF w v body) (hu:bF w u c) (hl:body.length≤140737488351232) (hl2:c.length≤140737488351232):
  Calls Tryz.prog 138 #[.agg (n.cells v).toArray,.agg (m.cells u).toArray] w (bN w (n=m∧body=c)):=BV n m body c (AE body) v u w hv hu hl hl2
theorem S5 (v u:Value) (xs ys:List Int) (w:World) (hr:Rd w .u64 v xs) (hs:Rd w .u64 u ys) (hl:xs.length≤140737488351232):
  Calls Tryz.prog 97 #[v,u] w fun e w'=>e=.returned (.bool (decide (xs=ys)))∧aN w w':=by
 obtain⟨o,cap,rfl,hc⟩:=hr;obtain⟨o2,cap2,rfl,hc2⟩:=hs;have HC:=Za hc;have HC2:=Za hc2;clear hc hc2;by_cases hlen:xs.length=ys.length
 ·have HL:=Za hlen;clear hlen;rw[←HL.o];go_enter Tryz.func97,Tryz.ntmps97;go_wp2;go_loopw[5] (fun i wr=>∃k:Nat,k≤xs.length∧i=.int .i64 k∧(∀j,j<k→aE xs j=aE ys j)∧aN w wr) (fun i _=>xs.length-(intOf i).toNat)
  case atStart=>exact⟨0,Ze _,rfl,fun _ h=>absurd h (Nat.not_lt_zero _),aN.refl _⟩
  case round=>
   obtain⟨k,hk,rfl,hpre,nq,rfl⟩:=hrel;have HP:=Za hpre;clear hpre;by_cases hlt:k<xs.length
   ·obtain⟨b,off,rfl,h1⟩:=HC.o k hlt;obtain⟨b2,off2,rfl,h2⟩:=HC2.o k (by rw[←HL.o];exact hlt);go_wp2;go_quiet(fail);go_wp2
    ·go_ret;rename_i hne;exact⟨by rw[decide_eq_false];rfl;intro e;rw[e]at hne;simp at hne,by first|exact⟨_,rfl⟩|exact⟨_,World.drewN_drewN _ _ _⟩⟩
    ·rename_i he;have HE:=Za he;clear he;go_roundw
     case rel=>exact⟨k+1,by omega,by go_num,fun j hj=>by rcases Nat.lt_succ_iff_lt_or_eq.1 hj with h|h;exact HP.o j h;rw[h];simpa using HE.o,by first|exact⟨_,rfl⟩|exact⟨_,World.drewN_drewN _ _ _⟩⟩
     case measure=>simp[intOf];omega
   ·obtain rfl:k=xs.length:=by omega
    have HE:Hid (xs=ys):=Za (pH HL.o HP.o);go_wp2;go_ret;exact⟨by rw[decide_eq_true HE.o];rfl,_,rfl⟩
 ·go_enter Tryz.func97,Tryz.ntmps97;have hb:(((xs.length:Nat):Int) != ((ys.length:Nat):Int))=true:=by simp[bne_iff_ne];omega
  have hne:xs≠ys:=fun e=>hlen (congrArg List.length e);have HE:=Za (decide_eq_false hne);clear hlen hne;go_wp2;go_ret;exact⟨by rw[HE.o];rfl,aN.refl _⟩
theorem nT (w:World) (T:TypeId) (cs ds:Array Value) {W:World} (hW:W=(w.alloc (.cells cs T)).alloc (.cells ds T)):aA W w.heap.size T cs∧aA W (w.heap.size+1) T ds∧Below w.heap.size w W:=by subst hW;have h2:aA ((w.alloc (.cells cs T)).alloc (.cells ds T)) (w.alloc (.cells cs T)).heap.size T ds:=aA.new _ _ _;rw[World.size_alloc]at h2;exact⟨(aA.new w T cs).next ((Zc _ _).alloc (Zb _) _),h2,((Zc _ _).alloc (Zb _) _).alloc (by simp) _⟩
theorem iZ {w W W':World} {T:TypeId} {cs ds:Array Value} (h:aA W w.heap.size T cs∧aA W (w.heap.size+1) T ds∧Below w.heap.size w W) (hb:Below W.heap.size W W'):aA W' w.heap.size T cs∧aA W' (w.heap.size+1) T ds∧Below w.heap.size w W':=
 ⟨h.1.next hb,h.2.1.next hb,h.2.2.trans (hb.mono h.2.2.size)⟩
theorem pY {w w':World} {p:Prop} [Decidable p] {e:Ending} (h:e=.returned (.bool (decide p))∧aN w w'):bN w p e w':=⟨⟨_,h.1,by simp⟩,h.2.below _⟩
theorem LJ (vs vd us ud:Value) (t t2:aO) (w:World) (hs:Rd w .i64 vs t.sh) (hd:Rd w .i64 vd t.da) (gs:Rd w .i64 us t2.sh) (gd:Rd w .i64 ud t2.da) (hl:t.Lim):
  Calls Tryz.prog 96 #[.agg #[vs,vd],.agg #[us,ud]] w (bN w (t=t2)):=by
 obtain⟨o1,c1,rfl⟩:=aU hs;obtain⟨o2,c2,rfl⟩:=aU hd;obtain⟨o3,c3,rfl⟩:=aU gs;obtain⟨o4,c4,rfl⟩:=aU gd;have HS:=Za (Zd hs (Zd hd (Zd gs gd)));have HL:=Za hl;clear hs hd gs gd hl;obtain⟨W,hW⟩:∃W,W=(w.alloc (.cells #[.slice o1 t.sh.length c1,.slice o2 t.da.length c2] 100)).alloc (.cells #[.slice o3 t2.sh.length c3,.slice o4 t2.da.length c4] 100):=⟨_,rfl⟩;have HX0:=Za (nT w _ _ _ hW);have HW:=Za hW;clear hW;go_enter Tryz.func96,Tryz.ntmps96;go_wp2_with(go_at_call 94;rw[←HW.o];refine(((oR _ _ t.sh t2.sh _ (HS.o.1.below HX0.o.2.2 (Zb _)) (HS.o.2.2.1.below HX0.o.2.2 (Zb _)) HL.o.1).mono fun e w h=>pY h)).mono ?_;rintro e w1 ⟨⟨r0,rfl,hq0⟩,hbq0⟩;refine aD ?_);have HX1:=Za (iZ HX0.o hbq0);have Q0:=Za hq0;clear hbq0 hq0;have x0:=HX1.o.1.q 0 rfl;have y0:=HX1.o.2.1.q 0 rfl;have x1:=HX1.o.1.q 1 rfl;have y1:=HX1.o.2.1.q 1 rfl;refine aC ?_;cases r0 with
 |false=>
  go_wp2;go_ret;exact bN.no (fun h=>by have:=Q0.o.2 (by rw[h]);cases this) HX1.o.2.2
 |true=>
  go_wp2_with(go_at_call 139;refine(((IZ _ _ t.da t2.da _ (HS.o.2.1.below HX1.o.2.2 (Zb _)) (HS.o.2.2.2.below HX1.o.2.2 (Zb _)) HL.o.2).mono fun e w h=>pY h)).mono ?_;rintro e w2 ⟨⟨r1,rfl,hq1⟩,hbq1⟩;refine aD ?_);have HX2:=Za (iZ HX1.o hbq1);have Q1:=Za hq1;clear x0 y0 x1 y1;clear hbq1 hq1;have x0:=HX2.o.1.q 0 rfl;have y0:=HX2.o.2.1.q 0 rfl;have x1:=HX2.o.1.q 1 rfl;have y1:=HX2.o.2.1.q 1 rfl;refine aC ?_;cases r1 with
  |false=>
   go_wp2;go_ret;exact bN.no (fun h=>by have:=Q1.o.2 (by rw[h]);cases this) HX2.o.2.2
  |true=>
   go_wp2;go_ret;exact bN.yes (by have h1:t.sh=t2.sh:=(by simpa using Q0.o);have h2:t.da=t2.da:=(by simpa using Q1.o);cases t;cases t2;simp only at h1 h2;rw[h1,h2]) HX2.o.2.2
theorem wJ (v u:Value) (xs ys:List aO) (w:World) (hr:aY w v xs) (hs:aY w u ys) (hl:eO xs):
  Calls Tryz.prog 38 #[v,u] w (bN w (xs=ys)):=by
 obtain⟨o,cap,rfl⟩:=hr.slice;obtain⟨o2,cap2,rfl⟩:=hs.slice;have HR:=Za hr;have HS:=Za hs;obtain⟨hl1,hl2⟩:=hl;have HL:=Za hl2;clear hr hs hl2;by_cases hlen:xs.length=ys.length
 ·have hb:((xs.length:Int) != ys.length)=false:=by simp[hlen]
  have HE:=Za hlen;clear hlen;go_enter Tryz.func38,Tryz.ntmps38;go_wp2;go_loopw[5] (fun i wr=>∃k:Nat,k≤xs.length∧i=.int .i64 k∧Hid (xs.take k=ys.take k)∧Below w.heap.size w wr) (fun i _=>xs.length-(intOf i).toNat)
  case atStart=>exact⟨0,Ze _,rfl,Za rfl,Zc _ _⟩
  case round=>
   obtain⟨k,hk,rfl,HP,hB⟩:=hrel;obtain⟨w3,rfl⟩:∃w3,w3=wr:=⟨_,rfl⟩;have HB:=Za hB;clear hB;by_cases hlt:k<xs.length
   ·obtain⟨ba,offa,vs,vd,rfl,a0,a1,hs,hd⟩:=(HR.o.below HB.o (Zb _)).tens k hlt;have hltb:k<ys.length:=by rw[←HE.o];exact hlt
    obtain⟨bb,offb,us,ud,rfl,b0,b1,gs,gd⟩:=(HS.o.below HB.o (Zb _)).tens k hltb;have HT:=Za (rM xs k hlt);have HT2:=Za (rM ys k hltb);have HNE:=Za (fun h:xs=ys=>show aQ xs k=aQ ys k by subst h;rfl);have HLk:=Za (HL.o _ (jF xs k hlt));have HRD:=Za (Zd hs (Zd hd (Zd gs gd)));obtain⟨o1,c1,rfl⟩:=aU hs;obtain⟨o3,c3,rfl⟩:=aU gs;obtain⟨o4,c4,rfl⟩:=aU hd;obtain⟨o5,c5,rfl⟩:=aU gd;clear hs hd gs gd;have HC0:=Za (Zd a0 (Zd a1 (Zd b0 b1)));have HX:=Za (show Below w3.heap.size w3 w3.drew from Below.drew (Zc _ _));go_wp2_with fail;go_region_held3 (fun w'=>w'.cell? ⟨ba,offa+k*2,none⟩=some (.slice o1 (aQ xs k).sh.length c1)∧w'.cell? ⟨ba,offa+k*2+1,none⟩=some (.slice o4 (aQ xs k).da.length c4)∧w'.cell? ⟨bb,offb+k*2,none⟩=some (.slice o3 (aQ ys k).sh.length c3)∧w'.cell? ⟨bb,offb+k*2+1,none⟩=some (.slice o5 (aQ ys k).da.length c5))
     (exact⟨aT HX.o HC0.o.1,aT HX.o HC0.o.2.1,aT HX.o HC0.o.2.2.1,aT HX.o HC0.o.2.2.2⟩)
     (first
     |(go_at_call 96;refine(LJ _ _ _ _ (aQ xs k) (aQ ys k) _ (HRD.o.1.below HX.o (Zb _)) (HRD.o.2.1.below HX.o (Zb _)) (HRD.o.2.2.1.below HX.o (Zb _)) (HRD.o.2.2.2.below HX.o (Zb _)) HLk.o).mono ?_;rintro e wy ⟨⟨r,rfl,hr⟩,hby⟩;have HRR:=Za hr;have HX:=Za (HX.o.trans (hby.mono HX.o.size));clear hby hr))
    clear a0 a1 b0 b1;have HN:=Za (HB.o.trans (HX.o.mono HB.o.size));cases r with
    |false=>
     have HNX:=Za (show ¬xs=ys from fun h=>Bool.noConfusion (HRR.o.2 (HNE.o h)));go_wp2_with fail;go_ret;exact bN.no HNX.o HN.o
    |true=>
     have HK1:=Za (show xs.take (k+1)=ys.take (k+1) by
      rw[HT.o,HT2.o,HP.o,HRR.o.1 rfl])
     go_wp2_with fail;go_roundw
     case rel=>exact⟨k+1,by omega,by go_num,HK1,HN.o⟩
     case measure=>simp[intOf];omega
   ·obtain rfl:k=xs.length:=by omega
    have HX:=Za (show xs=ys by have:=HP.o;rw[List.take_of_length_le (Zb _),List.take_of_length_le (by rw[HE.o];exact Zb _)]at this;exact this);go_wp2;go_ret;exact bN.yes HX.o HB.o
 ·have hb:((xs.length:Int) != ys.length)=true:=by simp;omega
  have HE:=Za hlen;clear hlen;go_enter Tryz.func38,Tryz.ntmps38;go_wp2;go_ret;exact bN.no (fun h=>HE.o (congrArg List.length h)) (Zc _ _)
theorem KJ (vi vl ui ul:Value) (d d2:bE) (w:World) (hr:eJ w vi vl d) (hs:eJ w ui ul d2):
  Calls Tryz.prog 37 #[.agg #[vi,vl,.int .i64 d.loss],.agg #[ui,ul,.int .i64 d2.loss]] w (bN w (d=d2)):=by
 obtain⟨o1,c1,rfl⟩:=aU hr.input;obtain⟨o2,c2,rfl⟩:=hr.lays.len;obtain⟨o3,c3,rfl⟩:=aU hs.input;obtain⟨o4,c4,rfl⟩:=hs.lays.len;have HR:=Za hr;have HS:=Za hs;clear hr hs;obtain⟨W,hW⟩:∃W,W=(w.alloc (.cells #[.slice o1 d.input.length c1,.slice o2 d.lays.length c2,.int .i64 d.loss] 33)).alloc (.cells #[.slice o3 d2.input.length c3,.slice o4 d2.lays.length c4,.int .i64 d2.loss] 33):=⟨_,rfl⟩;have HX0:=Za (nT w _ _ _ hW);have HW:=Za hW;clear hW;go_enter Tryz.func37,Tryz.ntmps37;go_wp2_with(go_at_call 94;rw[←HW.o];refine(((oR _ _ d.input d2.input _ (HR.o.input.below HX0.o.2.2 (Zb _)) (HS.o.input.below HX0.o.2.2 (Zb _)) HR.o.lim1).mono fun e w h=>pY h)).mono ?_;rintro e w1 ⟨⟨r0,rfl,hq0⟩,hbq0⟩;refine aD ?_);have HX1:=Za (iZ HX0.o hbq0);have Q0:=Za hq0;clear hbq0 hq0;have x0:=HX1.o.1.q 0 rfl;have y0:=HX1.o.2.1.q 0 rfl;have x1:=HX1.o.1.q 1 rfl;have y1:=HX1.o.2.1.q 1 rfl;have x2:=HX1.o.1.q 2 rfl;have y2:=HX1.o.2.1.q 2 rfl;refine aC ?_;cases r0 with
 |false=>
  go_wp2;go_ret;exact bN.no (fun h=>by have:=Q0.o.2 (by rw[h]);cases this) HX1.o.2.2
 |true=>
  go_wp2_with(go_at_call 95;refine(AE d.lays _ _ d2.lays _ (HR.o.lays.below HX1.o.2.2 (Zb _)) (HS.o.lays.below HX1.o.2.2 (Zb _)) HR.o.lim2 HS.o.lim2).mono ?_;rintro e w2 ⟨⟨r1,rfl,hq1⟩,hbq1⟩;refine aD ?_);have HX2:=Za (iZ HX1.o hbq1);have Q1:=Za hq1;clear x0 y0 x1 y1 x2 y2;clear hbq1 hq1;have x0:=HX2.o.1.q 0 rfl;have y0:=HX2.o.2.1.q 0 rfl;have x1:=HX2.o.1.q 1 rfl;have y1:=HX2.o.2.1.q 1 rfl;have x2:=HX2.o.1.q 2 rfl;have y2:=HX2.o.2.1.q 2 rfl;refine aC ?_;cases r1 with
  |false=>
   go_wp2;go_ret;exact bN.no (fun h=>by have:=Q1.o.2 (by rw[h]);cases this) HX2.o.2.2
  |true=>
   by_cases q2:d.loss=d2.loss;rotate_left
   ·have hq2:(d.loss==d2.loss)=false:=by simp[q2]
    have Q2:=Za q2;clear q2;go_wp2;go_ret;exact bN.no (fun h=>Q2.o (by rw[h])) HX2.o.2.2
   have hq2:(d.loss==d2.loss)=true:=by simp[q2]
   have Q2:=Za q2;clear q2;go_wp2;go_ret;exact bN.yes (by have h1:d.input=d2.input:=(by simpa using Q0.o);have h2:d.lays=d2.lays:=(by simpa using Q1.o);have h3:=Q2.o;cases d;cases d2;simp only at h1 h2 h3;rw[h1,h2,h3]) HX2.o.2.2
theorem KK (vm vv um uv:Value) (m m2:lS) (w:World) (h1:aY w vm m.m) (h2:aY w vv m.v) (g1:aY w um m2.m) (g2:aY w uv m2.v) (l1:eO m.m) (l2:eO m.v):
  Calls Tryz.prog 39 #[.agg #[vm,vv,.int .i64 m.powMu,.int .i64 m.powNu,.int .i64 m.steps],.agg #[um,uv,.int .i64 m2.powMu,.int .i64 m2.powNu,.int .i64 m2.steps]] w (bN w (m=m2)):=by
 obtain⟨o1,c1,rfl⟩:=h1.slice;obtain⟨o2,c2,rfl⟩:=h2.slice;obtain⟨o3,c3,rfl⟩:=g1.slice;obtain⟨o4,c4,rfl⟩:=g2.slice;have HR:=Za (Zd h1 (Zd h2 (Zd g1 g2)));have HL:=Za (Zd l1 l2);clear h1 h2 g1 g2 l1 l2;obtain⟨W,hW⟩:∃W,W=(w.alloc (.cells #[.slice o1 m.m.length c1,.slice o2 m.v.length c2,.int .i64 m.powMu,.int .i64 m.powNu,.int .i64 m.steps] 38)).alloc (.cells #[.slice o3 m2.m.length c3,.slice o4 m2.v.length c4,.int .i64 m2.powMu,.int .i64 m2.powNu,.int .i64 m2.steps] 38):=⟨_,rfl⟩;have HX0:=Za (nT w _ _ _ hW);have HW:=Za hW;clear hW;go_enter Tryz.func39,Tryz.ntmps39;go_wp2_with(go_at_call 38;rw[←HW.o];refine(wJ _ _ m.m m2.m _ (HR.o.1.below HX0.o.2.2 (Zb _)) (HR.o.2.2.1.below HX0.o.2.2 (Zb _)) HL.o.1).mono ?_;rintro e w1 ⟨⟨r0,rfl,hq0⟩,hbq0⟩;refine aD ?_);have HX1:=Za (iZ HX0.o hbq0);have Q0:=Za hq0;clear hbq0 hq0;have x0:=HX1.o.1.q 0 rfl;have y0:=HX1.o.2.1.q 0 rfl;have x1:=HX1.o.1.q 1 rfl;have y1:=HX1.o.2.1.q 1 rfl;have x2:=HX1.o.1.q 2 rfl;have y2:=HX1.o.2.1.q 2 rfl;have x3:=HX1.o.1.q 3 rfl;have y3:=HX1.o.2.1.q 3 rfl;have x4:=HX1.o.1.q 4 rfl;have y4:=HX1.o.2.1.q 4 rfl;refine aC ?_;cases r0 with
 |false=>
  go_wp2;go_ret;exact bN.no (fun h=>by have:=Q0.o.2 (by rw[h]);cases this) HX1.o.2.2
 |true=>
  go_wp2_with(go_at_call 38;refine(wJ _ _ m.v m2.v _ (HR.o.2.1.below HX1.o.2.2 (Zb _)) (HR.o.2.2.2.below HX1.o.2.2 (Zb _)) HL.o.2).mono ?_;rintro e w2 ⟨⟨r1,rfl,hq1⟩,hbq1⟩;refine aD ?_);have HX2:=Za (iZ HX1.o hbq1);have Q1:=Za hq1;clear x0 y0 x1 y1 x2 y2 x3 y3 x4 y4;clear hbq1 hq1;have x0:=HX2.o.1.q 0 rfl;have y0:=HX2.o.2.1.q 0 rfl;have x1:=HX2.o.1.q 1 rfl;have y1:=HX2.o.2.1.q 1 rfl;have x2:=HX2.o.1.q 2 rfl;have y2:=HX2.o.2.1.q 2 rfl;have x3:=HX2.o.1.q 3 rfl;have y3:=HX2.o.2.1.q 3 rfl;have x4:=HX2.o.1.q 4 rfl;have y4:=HX2.o.2.1.q 4 rfl;refine aC ?_;cases r1 with
  |false=>
   go_wp2;go_ret;exact bN.no (fun h=>by have:=Q1.o.2 (by rw[h]);cases this) HX2.o.2.2
  |true=>
   by_cases q2:m.powMu=m2.powMu;rotate_left
   ·have hq2:(m.powMu==m2.powMu)=false:=by simp[q2]
    have Q2:=Za q2;clear q2;go_wp2;go_ret;exact bN.no (fun h=>Q2.o (by rw[h])) HX2.o.2.2
   have hq2:(m.powMu==m2.powMu)=true:=by simp[q2]
   have Q2:=Za q2;clear q2;by_cases q3:m.powNu=m2.powNu;rotate_left
   ·have hq3:(m.powNu==m2.powNu)=false:=by simp[q3]
    have Q3:=Za q3;clear q3;go_wp2;go_ret;exact bN.no (fun h=>Q3.o (by rw[h])) HX2.o.2.2
   have hq3:(m.powNu==m2.powNu)=true:=by simp[q3]
   have Q3:=Za q3;clear q3;by_cases q4:m.steps=m2.steps;rotate_left
   ·have hq4:(m.steps==m2.steps)=false:=by simp[q4]
    have Q4:=Za q4;clear q4;go_wp2;go_ret;exact bN.no (fun h=>Q4.o (by rw[h])) HX2.o.2.2
   have hq4:(m.steps==m2.steps)=true:=by simp[q4]
   have Q4:=Za q4;clear q4;go_wp2;go_ret;exact bN.yes (by have h1:m.m=m2.m:=(by simpa using Q0.o);have h2:m.v=m2.v:=(by simpa using Q1.o);have h3:=Q2.o;have h4:=Q3.o;have h5:=Q4.o;cases m;cases m2;simp only at h1 h2 h3 h4 h5;rw[h1,h2,h3,h4,h5]) HX2.o.2.2
theorem QM (vs us:Value) (r r2:AC) (w:World) (h1:Rd w .u64 vs r.script) (g1:Rd w .u64 us r2.script) (l1:r.script.length≤140737488351232):
  Calls Tryz.prog 40 #[.agg #[vs,.int .u64 r.s0,.int .u64 r.s1,.int .u64 r.s2,.int .u64 r.s3],.agg #[us,.int .u64 r2.s0,.int .u64 r2.s1,.int .u64 r2.s2,.int .u64 r2.s3]] w (bN w (r=r2)):=by
 obtain⟨o1,c1,rfl⟩:=aU h1;obtain⟨o3,c3,rfl⟩:=aU g1;have HR:=Za (Zd h1 g1);have HL:=Za l1;clear h1 g1 l1;have hEq:=CS r.s0 r.s1 r.s2 r.s3 r2.s0 r2.s1 r2.s2 r2.s3;obtain⟨q4,hq4⟩:∃q4,q4=(r.s0==r2.s0&&(r.s1==r2.s1&&(r.s2==r2.s2&&r.s3==r2.s3))):=⟨_,rfl⟩;rw[←hq4]at hEq;have HQ4:=Za hq4;clear hq4;obtain⟨W,hW⟩:∃W,W=(w.alloc (.cells #[.slice o1 r.script.length c1,.int .u64 r.s0,.int .u64 r.s1,.int .u64 r.s2,.int .u64 r.s3] 43)).alloc (.cells #[.slice o3 r2.script.length c3,.int .u64 r2.s0,.int .u64 r2.s1,.int .u64 r2.s2,.int .u64 r2.s3] 43):=⟨_,rfl⟩;have HX0:=Za (nT w _ _ _ hW);have HW:=Za hW;clear hW;go_enter Tryz.func40,Tryz.ntmps40;go_wp2_with(go_at_call 97;rw[←HW.o];refine(((S5 _ _ r.script r2.script _ (HR.o.1.below HX0.o.2.2 (Zb _)) (HR.o.2.below HX0.o.2.2 (Zb _)) HL.o).mono fun e w h=>pY h)).mono ?_;rintro e w1 ⟨⟨r0,rfl,hq0⟩,hbq0⟩;refine aD ?_);have HX1:=Za (iZ HX0.o hbq0);have Q0:=Za hq0;clear hbq0 hq0;have x0:=HX1.o.1.q 0 rfl;have y0:=HX1.o.2.1.q 0 rfl;have x1:=HX1.o.1.q 1 rfl;have y1:=HX1.o.2.1.q 1 rfl;have x2:=HX1.o.1.q 2 rfl;have y2:=HX1.o.2.1.q 2 rfl;have x3:=HX1.o.1.q 3 rfl;have y3:=HX1.o.2.1.q 3 rfl;have x4:=HX1.o.1.q 4 rfl;have y4:=HX1.o.2.1.q 4 rfl;refine aC ?_;cases r0 with
 |false=>
  go_wp2;go_ret;exact bN.no (fun h=>by have:=Q0.o.2 (by rw[h]);cases this) HX1.o.2.2
 |true=>
  go_wp2;go_ret;exact bN.of (by
   have h1:r.script=r2.script:=by simpa using Q0.o
   rw[HQ4.o];cases r;cases r2;simp only at h1;simp[h1]) HX1.o.2.2
theorem R8 (vs us:Value) (c d:CurD) (w:World) (h1:Rd w .i64 vs c.order) (g1:Rd w .i64 us d.order) (l1:c.order.length≤140737488351232):
  Calls Tryz.prog 41 #[.agg #[vs,.int .i64 c.at_,.int .i64 c.epoch],.agg #[us,.int .i64 d.at_,.int .i64 d.epoch]] w (bN w (c=d)):=by
 obtain⟨o1,c1,rfl⟩:=aU h1;obtain⟨o3,c3,rfl⟩:=aU g1;have HR:=Za (Zd h1 g1);have HL:=Za l1;clear h1 g1 l1;obtain⟨W,hW⟩:∃W,W=(w.alloc (.cells #[.slice o1 c.order.length c1,.int .i64 c.at_,.int .i64 c.epoch] 45)).alloc (.cells #[.slice o3 d.order.length c3,.int .i64 d.at_,.int .i64 d.epoch] 45):=⟨_,rfl⟩;have HX0:=Za (nT w _ _ _ hW);have HW:=Za hW;clear hW;go_enter Tryz.func41,Tryz.ntmps41;go_wp2_with(go_at_call 94;rw[←HW.o];refine(((oR _ _ c.order d.order _ (HR.o.1.below HX0.o.2.2 (Zb _)) (HR.o.2.below HX0.o.2.2 (Zb _)) HL.o).mono fun e w h=>pY h)).mono ?_;rintro e w1 ⟨⟨r0,rfl,hq0⟩,hbq0⟩;refine aD ?_);have HX1:=Za (iZ HX0.o hbq0);have Q0:=Za hq0;clear hbq0 hq0;have x0:=HX1.o.1.q 0 rfl;have y0:=HX1.o.2.1.q 0 rfl;have x1:=HX1.o.1.q 1 rfl;have y1:=HX1.o.2.1.q 1 rfl;have x2:=HX1.o.1.q 2 rfl;have y2:=HX1.o.2.1.q 2 rfl;refine aC ?_;cases r0 with
 |false=>
  go_wp2;go_ret;exact bN.no (fun h=>by have:=Q0.o.2 (by rw[h]);cases this) HX1.o.2.2
 |true=>
  by_cases q1:c.at_=d.at_;rotate_left
  ·have hq1:(c.at_==d.at_)=false:=by simp[q1]
   have Q1:=Za q1;clear q1;go_wp2;go_ret;exact bN.no (fun h=>Q1.o (by rw[h])) HX1.o.2.2
  have hq1:(c.at_==d.at_)=true:=by simp[q1]
  have Q1:=Za q1;clear q1;by_cases q2:c.epoch=d.epoch;rotate_left
  ·have hq2:(c.epoch==d.epoch)=false:=by simp[q2]
   have Q2:=Za q2;clear q2;go_wp2;go_ret;exact bN.no (fun h=>Q2.o (by rw[h])) HX1.o.2.2
  have hq2:(c.epoch==d.epoch)=true:=by simp[q2]
  have Q2:=Za q2;clear q2;go_wp2;go_ret;exact bN.yes (by have h1:c.order=d.order:=(by simpa using Q0.o);have h2:=Q1.o;have h3:=Q2.o;cases c;cases d;simp only at h1 h2 h3;rw[h1,h2,h3]) HX1.o.2.2
def cW (s:aX) (vi vl vp vm vv vr vc:Value):Array Value:=#[.int .i64 s.f,vi,vl,.int .i64 s.d.loss,.int .i64 s.h.kind,.int .i64 s.h.rate,.int .i64 s.h.mu,.int .i64 s.h.nu,.int .i64 s.h.eps,.int .i64 s.h.decay,.int .i64 s.h.clip,.int .i64 s.h.sched,.int .i64 s.h.every,vp,vm,vv,.int .i64 s.m.powMu,.int .i64 s.m.powNu,.int .i64 s.m.steps,vr,.int .u64 s.r.s0,.int .u64 s.r.s1,.int .u64 s.r.s2,.int .u64 s.r.s3,vc,.int .i64 s.c.at_,.int .i64 s.c.epoch]
structure eC (w:World) (s:aX) (vi vl vp vm vv vr vc:Value):Prop where
 d:eJ w vi vl s.d
 ps:aY w vp s.ps
 m:aY w vm s.m.m
 v:aY w vv s.m.v
 r:Rd w .u64 vr s.r.script
 c:Rd w .i64 vc s.c.order
 lps:eO s.ps
 lm:eO s.m.m
 lv:eO s.m.v
 lr:s.r.script.length≤140737488351232
 lc:s.c.order.length≤140737488351232
theorem eC.below {w w':World} {B:Nat} {s:aX} {vi vl vp vm vv vr vc:Value} (h:eC w s vi vl vp vm vv vr vc) (hb:Below B w w') (hs:w.heap.size≤B):eC w' s vi vl vp vm vv vr vc:=
 ⟨⟨h.d.input.below hb hs,h.d.lays.below hb hs,h.d.lim1,h.d.lim2⟩,h.ps.below hb hs,h.m.below hb hs,h.v.below hb hs,h.r.below hb hs,h.c.below hb hs,h.lps,h.lm,h.lv,h.lr,h.lc⟩
theorem eC.next {w w':World} {s:aX} {vi vl vp vm vv vr vc:Value} (h:eC w s vi vl vp vm vv vr vc) (hb:Below w.heap.size w w'):eC w' s vi vl vp vm vv vr vc:=h.below hb (Zb _)
theorem eC.slices {w:World} {s:aX} {vi vl vp vm vv vr vc:Value} (h:eC w s vi vl vp vm vv vr vc):
  ∃o1 c1 o2 c2 o3 c3 o4 c4 o5 c5 o6 c6 o7 c7,vi=.slice o1 s.d.input.length c1∧vl=.slice o2 s.d.lays.length c2∧vp=.slice o3 s.ps.length c3∧vm=.slice o4 s.m.m.length c4∧vv=.slice o5 s.m.v.length c5∧vr=.slice o6 s.r.script.length c6∧vc=.slice o7 s.c.order.length c7:=by obtain⟨o1,c1,h1⟩:=aU h.d.input;obtain⟨o2,c2,h2⟩:=h.d.lays.len;obtain⟨o3,c3,h3⟩:=h.ps.slice;obtain⟨o4,c4,h4⟩:=h.m.slice;obtain⟨o5,c5,h5⟩:=h.v.slice;obtain⟨o6,c6,h6⟩:=aU h.r;obtain⟨o7,c7,h7⟩:=aU h.c;exact⟨o1,c1,o2,c2,o3,c3,o4,c4,o5,c5,o6,c6,o7,c7,h1,h2,h3,h4,h5,h6,h7⟩
theorem PR (h g:iB):∃r,(∀w,(Op.equalIn 10000 35 (.agg #[.int .i64 h.kind,.int .i64 h.rate,.int .i64 h.mu,.int .i64 h.nu,.int .i64 h.eps,.int .i64 h.decay,.int .i64 h.clip,.int .i64 h.sched,.int .i64 h.every]) (.agg #[.int .i64 g.kind,.int .i64 g.rate,.int .i64 g.mu,.int .i64 g.nu,.int .i64 g.eps,.int .i64 g.decay,.int .i64 g.clip,.int .i64 g.sched,.int .i64 g.every])).run Tryz.prog w=.ok r w)∧(r=true↔h=g):=by
 refine⟨decide (h=g),fun w=>?_,by simp⟩;have key:∀(d:Nat) (x y:Int) (w:World),(Op.equalIn (d+1) 3 (.int .i64 x) (.int .i64 y)).run Tryz.prog w=.ok (x==y) w:=fun d x y w=>run_equalIn_int w d 3 .i64 .i64 x y Tryz.underlying3;have key2:∀(d:Nat) (x y:Int) (w:World),(Op.equalIn (d+1) 2 (.int .i64 x) (.int .i64 y)).run Tryz.prog w=.ok (x==y) w:=fun d x y w=>run_equalIn_int w d 2 .i64 .i64 x y Tryz.underlying2;obtain⟨a0,a1,a2,a3,a4,a5,a6,a7,a8⟩:=h;obtain⟨b0,b1,b2,b3,b4,b5,b6,b7,b8⟩:=g;have hA:∀w,(isAgg 3).run Tryz.prog w=.ok false w:=fun w=>by kernel_rfl
 have hA2:∀w,(isAgg 2).run Tryz.prog w=.ok false w:=fun w=>by kernel_rfl
 have hp:∀(cs:Array Value) (i:Nat) (v:Value) (w:World),cs[i]?=some v→(part 3 cs i).run Tryz.prog w=.ok v w:=by intro cs i v w hv;simp only[part,Sem.run_bind,hA,Result.andThen_ok,Bool.false_eq_true,if_false,hv,Sem.run_pure]
 have hp2:∀(cs:Array Value) (i:Nat) (v:Value) (w:World),cs[i]?=some v→(part 2 cs i).run Tryz.prog w=.ok v w:=by intro cs i v w hv;simp only[part,Sem.run_bind,hA2,Result.andThen_ok,Bool.false_eq_true,if_false,hv,Sem.run_pure]
 rw[run_equalIn_struct w 9999 35 _ _ (by simp[Program.fieldsOf,Tryz.underlying35]) (by kernel_rfl)];simp only[Program.fieldsOf,Tryz.underlying35,Op.eqFields];have e:(decide ((⟨a0,a1,a2,a3,a4,a5,a6,a7,a8⟩:iB)=⟨b0,b1,b2,b3,b4,b5,b6,b7,b8⟩))=(a0==b0&&(a1==b1&&(a2==b2&&(a3==b3&&(a4==b4&&(a5==b5&&(a6==b6&&(a7==b7&&a8==b8)))))))):=by rw[Bool.eq_iff_iff];simp
 rw[e];clear e;rw[if_pos (by decide),Sem.run_bind,hp _ 0 (.int .i64 a0) _ rfl];simp only[Result.andThen_ok];rw[Sem.run_bind,hp _ 0 (.int .i64 b0) _ rfl];simp only[Result.andThen_ok];rw[Sem.run_bind,key 9998];simp only[Result.andThen_ok];cases a0==b0
 ·simp
 simp only[Bool.not_true,Bool.false_eq_true,if_false,Bool.true_and];rw[if_pos (by decide),Sem.run_bind,hp2 _ 1 (.int .i64 a1) _ rfl];simp only[Result.andThen_ok];rw[Sem.run_bind,hp2 _ 1 (.int .i64 b1) _ rfl];simp only[Result.andThen_ok];rw[Sem.run_bind,key2 9998];simp only[Result.andThen_ok];cases a1==b1
 ·simp
 simp only[Bool.not_true,Bool.false_eq_true,if_false,Bool.true_and];rw[if_pos (by decide),Sem.run_bind,hp2 _ 2 (.int .i64 a2) _ rfl];simp only[Result.andThen_ok];rw[Sem.run_bind,hp2 _ 2 (.int .i64 b2) _ rfl];simp only[Result.andThen_ok];rw[Sem.run_bind,key2 9998];simp only[Result.andThen_ok];cases a2==b2
 ·simp
 simp only[Bool.not_true,Bool.false_eq_true,if_false,Bool.true_and];rw[if_pos (by decide),Sem.run_bind,hp2 _ 3 (.int .i64 a3) _ rfl];simp only[Result.andThen_ok];rw[Sem.run_bind,hp2 _ 3 (.int .i64 b3) _ rfl];simp only[Result.andThen_ok];rw[Sem.run_bind,key2 9998];simp only[Result.andThen_ok];cases a3==b3
 ·simp
 simp only[Bool.not_true,Bool.false_eq_true,if_false,Bool.true_and];rw[if_pos (by decide),Sem.run_bind,hp2 _ 4 (.int .i64 a4) _ rfl];simp only[Result.andThen_ok];rw[Sem.run_bind,hp2 _ 4 (.int .i64 b4) _ rfl];simp only[Result.andThen_ok];rw[Sem.run_bind,key2 9998];simp only[Result.andThen_ok];cases a4==b4
 ·simp
 simp only[Bool.not_true,Bool.false_eq_true,if_false,Bool.true_and];rw[if_pos (by decide),Sem.run_bind,hp2 _ 5 (.int .i64 a5) _ rfl];simp only[Result.andThen_ok];rw[Sem.run_bind,hp2 _ 5 (.int .i64 b5) _ rfl];simp only[Result.andThen_ok];rw[Sem.run_bind,key2 9998];simp only[Result.andThen_ok];cases a5==b5
 ·simp
 simp only[Bool.not_true,Bool.false_eq_true,if_false,Bool.true_and];rw[if_pos (by decide),Sem.run_bind,hp2 _ 6 (.int .i64 a6) _ rfl];simp only[Result.andThen_ok];rw[Sem.run_bind,hp2 _ 6 (.int .i64 b6) _ rfl];simp only[Result.andThen_ok];rw[Sem.run_bind,key2 9998];simp only[Result.andThen_ok];cases a6==b6
 ·simp
 simp only[Bool.not_true,Bool.false_eq_true,if_false,Bool.true_and];rw[if_pos (by decide),Sem.run_bind,hp _ 7 (.int .i64 a7) _ rfl];simp only[Result.andThen_ok];rw[Sem.run_bind,hp _ 7 (.int .i64 b7) _ rfl];simp only[Result.andThen_ok];rw[Sem.run_bind,key 9998];simp only[Result.andThen_ok];cases a7==b7
 ·simp
 simp only[Bool.not_true,Bool.false_eq_true,if_false,Bool.true_and];rw[if_pos (by decide),Sem.run_bind,hp _ 8 (.int .i64 a8) _ rfl];simp only[Result.andThen_ok];rw[Sem.run_bind,hp _ 8 (.int .i64 b8) _ rfl];simp only[Result.andThen_ok];rw[Sem.run_bind,key 9998];simp only[Result.andThen_ok];cases a8==b8
 ·simp
 simp only[Bool.not_true,Bool.false_eq_true,if_false,Bool.true_and];rfl
theorem K7 (s t:aX) (vi vl vp vm vv vr vc ui ul up um uv ur uc:Value) (w:World) (hr:eC w s vi vl vp vm vv vr vc) (hs:eC w t ui ul up um uv ur uc):
  Calls Tryz.prog 11 #[.agg (cW s vi vl vp vm vv vr vc),.agg (cW t ui ul up um uv ur uc)] w (bN w (s=t)):=by
 obtain⟨o1,c1,o2,c2,o3,c3,o4,c4,o5,c5,o6,c6,o7,c7,rfl,rfl,rfl,rfl,rfl,rfl,rfl⟩:=hr.slices;obtain⟨do1,dc1,do2,dc2,do3,dc3,do4,dc4,do5,dc5,do6,dc6,do7,dc7,rfl,rfl,rfl,rfl,rfl,rfl,rfl⟩:=hs.slices;have HR:=Za hr;have HS:=Za hs;clear hr hs;simp only[cW];obtain⟨W,hW⟩:∃W,W=(w.alloc (.cells (dD s o1 c1 o2 c2 o3 c3 o4 c4 o5 c5 o6 c6 o7 c7) 47)).alloc (.cells #[.int .i64 t.f,.slice do1 t.d.input.length dc1,.slice do2 t.d.lays.length dc2,.int .i64 t.d.loss,.int .i64 t.h.kind,.int .i64 t.h.rate,.int .i64 t.h.mu,.int .i64 t.h.nu,.int .i64 t.h.eps,.int .i64 t.h.decay,.int .i64 t.h.clip,.int .i64 t.h.sched,.int .i64 t.h.every,.slice do3 t.ps.length dc3,.slice do4 t.m.m.length dc4,.slice do5 t.m.v.length dc5,.int .i64 t.m.powMu,.int .i64 t.m.powNu,.int .i64 t.m.steps,.slice do6 t.r.script.length dc6,.int .u64 t.r.s0,.int .u64 t.r.s1,.int .u64 t.r.s2,.int .u64 t.r.s3,.slice do7 t.c.order.length dc7,.int .i64 t.c.at_,.int .i64 t.c.epoch] 47):=⟨_,rfl⟩;have HX0:=Za (nT w _ _ _ hW);have HW:=Za hW;clear hW;go_enter Tryz.func11,Tryz.ntmps11;by_cases q0:s.f=t.f;rotate_left
 ·have hq0:(s.f==t.f)=false:=by simp[q0]
  have Q0:=Za q0;clear q0;go_wp2;go_ret;exact bN.no (fun h=>Q0.o (by rw[h])) (by have:=HX0.o.2.2;rw[HW.o]at this;exact this)
 have hq0:(s.f==t.f)=true:=by simp[q0]
 have Q0:=Za q0;clear q0;go_wp2_with(go_at_call 37;rw[←HW.o];refine(KJ _ _ _ _ s.d t.d _ (HR.o.below HX0.o.2.2 (Zb _)).d (HS.o.below HX0.o.2.2 (Zb _)).d).mono ?_;rintro e w1 ⟨⟨r1,rfl,hq1⟩,hbq1⟩;refine aD ?_);have HX1:=Za (iZ HX0.o hbq1);have Q1:=Za hq1;clear hbq1 hq1;have x0:=HX1.o.1.q 0 rfl;have y0:=HX1.o.2.1.q 0 rfl;have x1:=HX1.o.1.q 1 rfl;have y1:=HX1.o.2.1.q 1 rfl;have x2:=HX1.o.1.q 2 rfl;have y2:=HX1.o.2.1.q 2 rfl;have x3:=HX1.o.1.q 3 rfl;have y3:=HX1.o.2.1.q 3 rfl;have x4:=HX1.o.1.q 4 rfl;have y4:=HX1.o.2.1.q 4 rfl;have x5:=HX1.o.1.q 5 rfl;have y5:=HX1.o.2.1.q 5 rfl;have x6:=HX1.o.1.q 6 rfl;have y6:=HX1.o.2.1.q 6 rfl;have x7:=HX1.o.1.q 7 rfl;have y7:=HX1.o.2.1.q 7 rfl;have x8:=HX1.o.1.q 8 rfl;have y8:=HX1.o.2.1.q 8 rfl;have x9:=HX1.o.1.q 9 rfl;have y9:=HX1.o.2.1.q 9 rfl;have x10:=HX1.o.1.q 10 rfl;have y10:=HX1.o.2.1.q 10 rfl;have x11:=HX1.o.1.q 11 rfl;have y11:=HX1.o.2.1.q 11 rfl;have x12:=HX1.o.1.q 12 rfl;have y12:=HX1.o.2.1.q 12 rfl;have x13:=HX1.o.1.q 13 rfl;have y13:=HX1.o.2.1.q 13 rfl;have x14:=HX1.o.1.q 14 rfl;have y14:=HX1.o.2.1.q 14 rfl;have x15:=HX1.o.1.q 15 rfl;have y15:=HX1.o.2.1.q 15 rfl;have x16:=HX1.o.1.q 16 rfl;have y16:=HX1.o.2.1.q 16 rfl;have x17:=HX1.o.1.q 17 rfl;have y17:=HX1.o.2.1.q 17 rfl;have x18:=HX1.o.1.q 18 rfl;have y18:=HX1.o.2.1.q 18 rfl;have x19:=HX1.o.1.q 19 rfl;have y19:=HX1.o.2.1.q 19 rfl;have x20:=HX1.o.1.q 20 rfl;have y20:=HX1.o.2.1.q 20 rfl;have x21:=HX1.o.1.q 21 rfl;have y21:=HX1.o.2.1.q 21 rfl;have x22:=HX1.o.1.q 22 rfl;have y22:=HX1.o.2.1.q 22 rfl;have x23:=HX1.o.1.q 23 rfl;have y23:=HX1.o.2.1.q 23 rfl;have x24:=HX1.o.1.q 24 rfl;have y24:=HX1.o.2.1.q 24 rfl;have x25:=HX1.o.1.q 25 rfl;have y25:=HX1.o.2.1.q 25 rfl;have x26:=HX1.o.1.q 26 rfl;have y26:=HX1.o.2.1.q 26 rfl;refine aC ?_;cases r1 with
 |false=>
  go_wp2;go_ret;exact bN.no (fun h=>by have:=Q1.o.2 (by rw[h]);cases this) HX1.o.2.2
 |true=>
  obtain⟨r2,hq2,kq2⟩:=PR s.h t.h;have Q2:=Za kq2;clear kq2;cases r2 with
  |false=>
   go_wp2;go_ret;exact bN.no (fun h=>by have:=Q2.o.2 (by rw[h]);cases this) HX1.o.2.2
  |true=>
   go_wp2_with(go_at_call 38;refine(wJ _ _ s.ps t.ps _ (HR.o.below HX1.o.2.2 (Zb _)).ps (HS.o.below HX1.o.2.2 (Zb _)).ps HR.o.lps).mono ?_;rintro e w2 ⟨⟨r3,rfl,hq3⟩,hbq3⟩;refine aD ?_);have HX2:=Za (iZ HX1.o hbq3);have Q3:=Za hq3;clear x0 y0 x1 y1 x2 y2 x3 y3 x4 y4 x5 y5 x6 y6 x7 y7 x8 y8 x9 y9 x10 y10 x11 y11 x12 y12 x13 y13 x14 y14 x15 y15 x16 y16 x17 y17 x18 y18 x19 y19 x20 y20 x21 y21 x22 y22 x23 y23 x24 y24 x25 y25 x26 y26;clear hbq3 hq3;have x0:=HX2.o.1.q 0 rfl;have y0:=HX2.o.2.1.q 0 rfl;have x1:=HX2.o.1.q 1 rfl;have y1:=HX2.o.2.1.q 1 rfl;have x2:=HX2.o.1.q 2 rfl;have y2:=HX2.o.2.1.q 2 rfl;have x3:=HX2.o.1.q 3 rfl;have y3:=HX2.o.2.1.q 3 rfl;have x4:=HX2.o.1.q 4 rfl;have y4:=HX2.o.2.1.q 4 rfl;have x5:=HX2.o.1.q 5 rfl;have y5:=HX2.o.2.1.q 5 rfl;have x6:=HX2.o.1.q 6 rfl;have y6:=HX2.o.2.1.q 6 rfl;have x7:=HX2.o.1.q 7 rfl;have y7:=HX2.o.2.1.q 7 rfl;have x8:=HX2.o.1.q 8 rfl;have y8:=HX2.o.2.1.q 8 rfl;have x9:=HX2.o.1.q 9 rfl;have y9:=HX2.o.2.1.q 9 rfl;have x10:=HX2.o.1.q 10 rfl;have y10:=HX2.o.2.1.q 10 rfl;have x11:=HX2.o.1.q 11 rfl;have y11:=HX2.o.2.1.q 11 rfl;have x12:=HX2.o.1.q 12 rfl;have y12:=HX2.o.2.1.q 12 rfl;have x13:=HX2.o.1.q 13 rfl;have y13:=HX2.o.2.1.q 13 rfl;have x14:=HX2.o.1.q 14 rfl;have y14:=HX2.o.2.1.q 14 rfl;have x15:=HX2.o.1.q 15 rfl;have y15:=HX2.o.2.1.q 15 rfl;have x16:=HX2.o.1.q 16 rfl;have y16:=HX2.o.2.1.q 16 rfl;have x17:=HX2.o.1.q 17 rfl;have y17:=HX2.o.2.1.q 17 rfl;have x18:=HX2.o.1.q 18 rfl;have y18:=HX2.o.2.1.q 18 rfl;have x19:=HX2.o.1.q 19 rfl;have y19:=HX2.o.2.1.q 19 rfl;have x20:=HX2.o.1.q 20 rfl;have y20:=HX2.o.2.1.q 20 rfl;have x21:=HX2.o.1.q 21 rfl;have y21:=HX2.o.2.1.q 21 rfl;have x22:=HX2.o.1.q 22 rfl;have y22:=HX2.o.2.1.q 22 rfl;have x23:=HX2.o.1.q 23 rfl;have y23:=HX2.o.2.1.q 23 rfl;have x24:=HX2.o.1.q 24 rfl;have y24:=HX2.o.2.1.q 24 rfl;have x25:=HX2.o.1.q 25 rfl;have y25:=HX2.o.2.1.q 25 rfl;have x26:=HX2.o.1.q 26 rfl;have y26:=HX2.o.2.1.q 26 rfl;refine aC ?_;cases r3 with
   |false=>
    go_wp2;go_ret;exact bN.no (fun h=>by have:=Q3.o.2 (by rw[h]);cases this) HX2.o.2.2
   |true=>
    go_wp2_with(go_at_call 39;refine(KK _ _ _ _ s.m t.m _ (HR.o.below HX2.o.2.2 (Zb _)).m (HR.o.below HX2.o.2.2 (Zb _)).v (HS.o.below HX2.o.2.2 (Zb _)).m (HS.o.below HX2.o.2.2 (Zb _)).v HR.o.lm HR.o.lv).mono ?_;rintro e w3 ⟨⟨r4,rfl,hq4⟩,hbq4⟩;refine aD ?_);have HX3:=Za (iZ HX2.o hbq4);have Q4:=Za hq4;clear x0 y0 x1 y1 x2 y2 x3 y3 x4 y4 x5 y5 x6 y6 x7 y7 x8 y8 x9 y9 x10 y10 x11 y11 x12 y12 x13 y13 x14 y14 x15 y15 x16 y16 x17 y17 x18 y18 x19 y19 x20 y20 x21 y21 x22 y22 x23 y23 x24 y24 x25 y25 x26 y26;clear hbq4 hq4;have x0:=HX3.o.1.q 0 rfl;have y0:=HX3.o.2.1.q 0 rfl;have x1:=HX3.o.1.q 1 rfl;have y1:=HX3.o.2.1.q 1 rfl;have x2:=HX3.o.1.q 2 rfl;have y2:=HX3.o.2.1.q 2 rfl;have x3:=HX3.o.1.q 3 rfl;have y3:=HX3.o.2.1.q 3 rfl;have x4:=HX3.o.1.q 4 rfl;have y4:=HX3.o.2.1.q 4 rfl;have x5:=HX3.o.1.q 5 rfl;have y5:=HX3.o.2.1.q 5 rfl;have x6:=HX3.o.1.q 6 rfl;have y6:=HX3.o.2.1.q 6 rfl;have x7:=HX3.o.1.q 7 rfl;have y7:=HX3.o.2.1.q 7 rfl;have x8:=HX3.o.1.q 8 rfl;have y8:=HX3.o.2.1.q 8 rfl;have x9:=HX3.o.1.q 9 rfl;have y9:=HX3.o.2.1.q 9 rfl;have x10:=HX3.o.1.q 10 rfl;have y10:=HX3.o.2.1.q 10 rfl;have x11:=HX3.o.1.q 11 rfl;have y11:=HX3.o.2.1.q 11 rfl;have x12:=HX3.o.1.q 12 rfl;have y12:=HX3.o.2.1.q 12 rfl;have x13:=HX3.o.1.q 13 rfl;have y13:=HX3.o.2.1.q 13 rfl;have x14:=HX3.o.1.q 14 rfl;have y14:=HX3.o.2.1.q 14 rfl;have x15:=HX3.o.1.q 15 rfl;have y15:=HX3.o.2.1.q 15 rfl;have x16:=HX3.o.1.q 16 rfl;have y16:=HX3.o.2.1.q 16 rfl;have x17:=HX3.o.1.q 17 rfl;have y17:=HX3.o.2.1.q 17 rfl;have x18:=HX3.o.1.q 18 rfl;have y18:=HX3.o.2.1.q 18 rfl;have x19:=HX3.o.1.q 19 rfl;have y19:=HX3.o.2.1.q 19 rfl;have x20:=HX3.o.1.q 20 rfl;have y20:=HX3.o.2.1.q 20 rfl;have x21:=HX3.o.1.q 21 rfl;have y21:=HX3.o.2.1.q 21 rfl;have x22:=HX3.o.1.q 22 rfl;have y22:=HX3.o.2.1.q 22 rfl;have x23:=HX3.o.1.q 23 rfl;have y23:=HX3.o.2.1.q 23 rfl;have x24:=HX3.o.1.q 24 rfl;have y24:=HX3.o.2.1.q 24 rfl;have x25:=HX3.o.1.q 25 rfl;have y25:=HX3.o.2.1.q 25 rfl;have x26:=HX3.o.1.q 26 rfl;have y26:=HX3.o.2.1.q 26 rfl;refine aC ?_;cases r4 with
    |false=>
     go_wp2;go_ret;exact bN.no (fun h=>by have:=Q4.o.2 (by rw[h]);cases this) HX3.o.2.2
    |true=>
     go_wp2_with(go_at_call 40;refine(QM _ _ s.r t.r _ (HR.o.below HX3.o.2.2 (Zb _)).r (HS.o.below HX3.o.2.2 (Zb _)).r HR.o.lr).mono ?_;rintro e w4 ⟨⟨r5,rfl,hq5⟩,hbq5⟩;refine aD ?_);have HX4:=Za (iZ HX3.o hbq5);have Q5:=Za hq5;clear x0 y0 x1 y1 x2 y2 x3 y3 x4 y4 x5 y5 x6 y6 x7 y7 x8 y8 x9 y9 x10 y10 x11 y11 x12 y12 x13 y13 x14 y14 x15 y15 x16 y16 x17 y17 x18 y18 x19 y19 x20 y20 x21 y21 x22 y22 x23 y23 x24 y24 x25 y25 x26 y26;clear hbq5 hq5;have x0:=HX4.o.1.q 0 rfl;have y0:=HX4.o.2.1.q 0 rfl;have x1:=HX4.o.1.q 1 rfl;have y1:=HX4.o.2.1.q 1 rfl;have x2:=HX4.o.1.q 2 rfl;have y2:=HX4.o.2.1.q 2 rfl;have x3:=HX4.o.1.q 3 rfl;have y3:=HX4.o.2.1.q 3 rfl;have x4:=HX4.o.1.q 4 rfl;have y4:=HX4.o.2.1.q 4 rfl;have x5:=HX4.o.1.q 5 rfl;have y5:=HX4.o.2.1.q 5 rfl;have x6:=HX4.o.1.q 6 rfl;have y6:=HX4.o.2.1.q 6 rfl;have x7:=HX4.o.1.q 7 rfl;have y7:=HX4.o.2.1.q 7 rfl;have x8:=HX4.o.1.q 8 rfl;have y8:=HX4.o.2.1.q 8 rfl;have x9:=HX4.o.1.q 9 rfl;have y9:=HX4.o.2.1.q 9 rfl;have x10:=HX4.o.1.q 10 rfl;have y10:=HX4.o.2.1.q 10 rfl;have x11:=HX4.o.1.q 11 rfl;have y11:=HX4.o.2.1.q 11 rfl;have x12:=HX4.o.1.q 12 rfl;have y12:=HX4.o.2.1.q 12 rfl;have x13:=HX4.o.1.q 13 rfl;have y13:=HX4.o.2.1.q 13 rfl;have x14:=HX4.o.1.q 14 rfl;have y14:=HX4.o.2.1.q 14 rfl;have x15:=HX4.o.1.q 15 rfl;have y15:=HX4.o.2.1.q 15 rfl;have x16:=HX4.o.1.q 16 rfl;have y16:=HX4.o.2.1.q 16 rfl;have x17:=HX4.o.1.q 17 rfl;have y17:=HX4.o.2.1.q 17 rfl;have x18:=HX4.o.1.q 18 rfl;have y18:=HX4.o.2.1.q 18 rfl;have x19:=HX4.o.1.q 19 rfl;have y19:=HX4.o.2.1.q 19 rfl;have x20:=HX4.o.1.q 20 rfl;have y20:=HX4.o.2.1.q 20 rfl;have x21:=HX4.o.1.q 21 rfl;have y21:=HX4.o.2.1.q 21 rfl;have x22:=HX4.o.1.q 22 rfl;have y22:=HX4.o.2.1.q 22 rfl;have x23:=HX4.o.1.q 23 rfl;have y23:=HX4.o.2.1.q 23 rfl;have x24:=HX4.o.1.q 24 rfl;have y24:=HX4.o.2.1.q 24 rfl;have x25:=HX4.o.1.q 25 rfl;have y25:=HX4.o.2.1.q 25 rfl;have x26:=HX4.o.1.q 26 rfl;have y26:=HX4.o.2.1.q 26 rfl;refine aC ?_;cases r5 with
     |false=>
      go_wp2;go_ret;exact bN.no (fun h=>by have:=Q5.o.2 (by rw[h]);cases this) HX4.o.2.2
     |true=>
      go_wp2_with(go_at_call 41;refine(R8 _ _ s.c t.c _ (HR.o.below HX4.o.2.2 (Zb _)).c (HS.o.below HX4.o.2.2 (Zb _)).c HR.o.lc).mono ?_;rintro e w5 ⟨⟨r6,rfl,hq6⟩,hbq6⟩;refine aD ?_);have HX5:=Za (iZ HX4.o hbq6);have Q6:=Za hq6;clear x0 y0 x1 y1 x2 y2 x3 y3 x4 y4 x5 y5 x6 y6 x7 y7 x8 y8 x9 y9 x10 y10 x11 y11 x12 y12 x13 y13 x14 y14 x15 y15 x16 y16 x17 y17 x18 y18 x19 y19 x20 y20 x21 y21 x22 y22 x23 y23 x24 y24 x25 y25 x26 y26;clear hbq6 hq6;have x0:=HX5.o.1.q 0 rfl;have y0:=HX5.o.2.1.q 0 rfl;have x1:=HX5.o.1.q 1 rfl;have y1:=HX5.o.2.1.q 1 rfl;have x2:=HX5.o.1.q 2 rfl;have y2:=HX5.o.2.1.q 2 rfl;have x3:=HX5.o.1.q 3 rfl;have y3:=HX5.o.2.1.q 3 rfl;have x4:=HX5.o.1.q 4 rfl;have y4:=HX5.o.2.1.q 4 rfl;have x5:=HX5.o.1.q 5 rfl;have y5:=HX5.o.2.1.q 5 rfl;have x6:=HX5.o.1.q 6 rfl;have y6:=HX5.o.2.1.q 6 rfl;have x7:=HX5.o.1.q 7 rfl;have y7:=HX5.o.2.1.q 7 rfl;have x8:=HX5.o.1.q 8 rfl;have y8:=HX5.o.2.1.q 8 rfl;have x9:=HX5.o.1.q 9 rfl;have y9:=HX5.o.2.1.q 9 rfl;have x10:=HX5.o.1.q 10 rfl;have y10:=HX5.o.2.1.q 10 rfl;have x11:=HX5.o.1.q 11 rfl;have y11:=HX5.o.2.1.q 11 rfl;have x12:=HX5.o.1.q 12 rfl;have y12:=HX5.o.2.1.q 12 rfl;have x13:=HX5.o.1.q 13 rfl;have y13:=HX5.o.2.1.q 13 rfl;have x14:=HX5.o.1.q 14 rfl;have y14:=HX5.o.2.1.q 14 rfl;have x15:=HX5.o.1.q 15 rfl;have y15:=HX5.o.2.1.q 15 rfl;have x16:=HX5.o.1.q 16 rfl;have y16:=HX5.o.2.1.q 16 rfl;have x17:=HX5.o.1.q 17 rfl;have y17:=HX5.o.2.1.q 17 rfl;have x18:=HX5.o.1.q 18 rfl;have y18:=HX5.o.2.1.q 18 rfl;have x19:=HX5.o.1.q 19 rfl;have y19:=HX5.o.2.1.q 19 rfl;have x20:=HX5.o.1.q 20 rfl;have y20:=HX5.o.2.1.q 20 rfl;have x21:=HX5.o.1.q 21 rfl;have y21:=HX5.o.2.1.q 21 rfl;have x22:=HX5.o.1.q 22 rfl;have y22:=HX5.o.2.1.q 22 rfl;have x23:=HX5.o.1.q 23 rfl;have y23:=HX5.o.2.1.q 23 rfl;have x24:=HX5.o.1.q 24 rfl;have y24:=HX5.o.2.1.q 24 rfl;have x25:=HX5.o.1.q 25 rfl;have y25:=HX5.o.2.1.q 25 rfl;have x26:=HX5.o.1.q 26 rfl;have y26:=HX5.o.2.1.q 26 rfl;refine aC ?_;cases r6 with
      |false=>
       go_wp2;go_ret;exact bN.no (fun h=>by have:=Q6.o.2 (by rw[h]);cases this) HX5.o.2.2
      |true=>
       go_wp2;go_ret;exact bN.yes (by have h0:=Q0.o;have h1:s.d=t.d:=(by simpa using Q1.o);have h2:s.h=t.h:=(by simpa using Q2.o);have h3:s.ps=t.ps:=(by simpa using Q3.o);have h4:s.m=t.m:=(by simpa using Q4.o);have h5:s.r=t.r:=(by simpa using Q5.o);have h6:s.c=t.c:=(by simpa using Q6.o);cases s;cases t;simp only at h0 h1 h2 h3 h4 h5 h6;rw[h0,h1,h2,h3,h4,h5,h6]) HX5.o.2.2
end Go.Proofs.YtjhkdocidcfpdaaGreatDoor
