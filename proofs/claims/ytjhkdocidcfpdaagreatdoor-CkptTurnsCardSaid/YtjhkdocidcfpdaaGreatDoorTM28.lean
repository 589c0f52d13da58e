/-
  A part of the proof of a law (packed by program).
-/
import Derived.Sort.LoopGhostIn
import Derived.Test.YtjhkdocidcfpdaaGreatDoorTM25
set_option linter.unusedVariables false
set_option linter.unusedSimpArgs false
set_option maxRecDepth 100000
set_option maxHeartbeats 16000000
open List renaming length_append → Zl
namespace Go.Proofs.YtjhkdocidcfpdaaGreatDoor
open Go.RowKit Go.Shelf Go
structure hH where
 ws:List (List UInt8)
 v:Value
def uT (x:hH):Array Value:=#[x.v]
theorem KC (l:List UInt8):∀cur,(10:UInt8) ∉ l→dJ cur l=[]:=by
 induction l with
 |nil=>intro cur _;rfl
 |cons c r ih=>
  intro cur h;rw[dJ,if_neg (fun e=>h (by rw[e];simp))];exact ih _ (fun hm=>h (by simp[hm]))
theorem G5 (s:List UInt8) (w:World):
  Calls Tryz.prog 119 #[.string ⟨s.toArray⟩] w fun e w'=>e=.returned (.func (.func 152) #[] #[.pointer (some ⟨w.heap.size,0,none⟩)])∧w'=w.alloc (.cells #[.string ⟨s.toArray⟩] 9):=by have hmf:∀(fn:Fn) (first cap:Array Value) (w:World),(Instr.makeFunc fn first cap).run Tryz.prog w=.ok (.func fn first cap) w:=fun _ _ _ _=>rfl;go_enter Tryz.func119,Tryz.ntmps119;go_wp2;go_ret;exact⟨rfl,rfl⟩
theorem RA (l r:List UInt8) (i:Nat) (hj:i≤l.length) (hc:l.drop i=r) (w:World):
  (Instr.slice 9 (.string ⟨l.toArray⟩) (some (.int .i64 i)) none none).run Tryz.prog w=.ok (.string ⟨r.toArray⟩) w:=by
 subst hc;rw[run_slice_string_l w 9 _ Tryz.underlying9 .i64 _ (by omega) (by simp[ByteArray.size];omega)];simp only[Int.toNat_natCast];rw[ByteArray.extract_mk]
 congr 4
 rw[List.take_of_length_le (by simp[ByteArray.size])]
theorem R2 (l r:List UInt8) (i:Nat) (hj:i≤l.length) (hc:l.take i=r) (w:World):
  (Instr.slice 9 (.string ⟨l.toArray⟩) none (some (.int .i64 i)) none).run Tryz.prog w=.ok (.string ⟨r.toArray⟩) w:=by subst hc;rw[run_slice_string_h w 9 _ Tryz.underlying9 .i64 _ (by omega) (by simp[ByteArray.size];omega)];simp only[Int.toNat_natCast];rw[ByteArray.extract_mk];simp
attribute [local go_sem] Oper.semAt_some uC
theorem N3 (n₀ sb:Nat) (s:List UInt8) (w:World) (n:Nat) (hn:1≤n) (hb:aA w sb 9 #[.string ⟨s.toArray⟩]) (hl:s.length≤100000) (hn0:n₀≤w.heap.size):
  SeqS sb Fence.wide n Tryz.prog 152 #[.pointer (some ⟨sb,0,none⟩)] uT (fun pre x W=>pre.length<s.length∧iW W n₀ x.v x.ws)
   (fun W W'=>W.heap.size≤W'.heap.size∧∀cs,aA W sb 9 cs→aA W' sb 9 cs) (fun xs=>xs.map (·.ws)=(dJ [] s).map dV) (fun _=>True) w:=by
 intro l J Jx W hWw hJ hJx hround h0;have hbW:=hb.next hWw;have hnW:n₀≤W.heap.size:=Nat.le_trans hn0 hWw.size;have HJ:=Za hJ;have HY:=Za hround;refine callsIn_of_wp Tryz.func152 rfl trivial ?_ rfl;simp only[Tryz.ntmps152,List.size_toArray,List.length_cons,List.length_nil,Nat.reduceAdd,Nat.reduceSub,Array.replicate_succ,Array.replicate_zero,List.push_toArray,List.append_toArray,List.nil_append,List.cons_append];clear hb hWw hJ hJx hround
 gi_wp2
 gi_loopg [3] s.length (fun g e wr=>∃(rest:List UInt8) (pre:List hH),g=rest.length∧aA wr sb 9 #[.string ⟨rest.toArray⟩]∧J pre wr∧n₀≤wr.heap.size∧pre.length+rest.length≤s.length∧(dJ [] s).map dV=pre.map (·.ws)++(dJ [] rest).map dV)
 case atStart=>exact⟨s,[],rfl,hbW,h0,hnW,by simp,by simp⟩
 case round=>
  obtain⟨rest,pre,rfl,hbx,hj,hnr,hpl,hinv⟩:=hrel;have c0:=hbx.q 0 rfl;have f0:=hbx.free 0;have HBX:=Za hbx;have HJJ:=Za hj;have HINV:=Za hinv;clear hbx hj hinv hbW h0;cases hre:rest with
  |nil=>
   subst hre;have HE:=Za (show pre.map (·.ws)=(dJ [] s).map dV by rw[HINV.o];simp[dJ]);clear hpl
   gi_wp2
   go_end0;exact⟨⟨_,rfl⟩,.inl ⟨pre,HE.o,HJJ.o⟩⟩
  |cons c r=>
   have hne:(rest==([]:List UInt8))=false:=by rw[hre];rfl
   have hlen:rest.length≤100000:=by omega
   have HSZ:=Za (show(⟨rest.toArray⟩:ByteArray).size=rest.length by simp[ByteArray.size]);have hpos:0<rest.length:=by rw[hre];simp
   clear hre
   gi_wp2
   gi_loop [3] (fun e=>∃k:Nat,k≤rest.length∧e=.int .i64 k∧(10:UInt8) ∉ rest.take k) (fun e=>rest.length-(intOf e).toNat)
   case atStart=>exact⟨0,Ze _,rfl,by simp⟩
   case round=>
    obtain⟨k,hk,rfl,hno⟩:=hrel;have hsz:=HSZ.o;have HNO:=Za hno;clear hno;by_cases hlt:k<rest.length
    ·have hszk:k<(⟨rest.toArray⟩:ByteArray).size:=by rw[hsz];exact hlt
     have htk:rest.take (k+1)=rest.take k++[rest[k]]:=List.take_succ_eq_append_getElem hlt;have hdk:rest=rest.take k++rest[k]::rest.drop (k+1):=by rw[←List.drop_eq_getElem_cons hlt,List.take_append_drop]
     by_cases h10:rest[k]=10
     ·have hc10:(rest[k].toNat:Int)=10:=by rw[h10];rfl
      have hkl:((k:Int)==(rest.length:Int))=false:=by simp;omega
      obtain⟨ln,hln⟩:∃ln,rest.take k=ln:=⟨_,rfl⟩;obtain⟨r2,hr2⟩:∃r2,rest.drop (k+1)=r2:=⟨_,rfl⟩;have hs1:=R2 rest ln k hk hln;have hs2:=RA rest r2 (k+1) hlt hr2;simp only[Int.natCast_add,Int.cast_ofNat_Int]at hs2;have hll:ln.length≤100000:=by rw[←hln,List.length_take];omega
      have hrl:r2.length=rest.length-(k+1):=by rw[←hr2,List.length_drop]
      have HRL:=Za hrl;have HLA:=Za (show(dJ [] rest).map dV=dV ln::(dJ [] r2).map dV by
       conv=>lhs;rw[hdk]
       rw[h10,hln,hr2,DB ln [] r2 (by rw[←hln];exact HNO.o)];simp)
      have HWO:=Za (K4 ln wr hll);clear htk hdk h10 hln hr2 hrl
      gi_wp2_with (refine⟨trivial,?_⟩;gi_at_call 153;refine(callsIn_wide.2 HWO.o).mono ?_;rintro e w1 ⟨⟨v,rfl,hw⟩,hb1⟩;refine aD ?_)
      have hj1:=HJ.o pre wr w1 none HJJ.o ⟨hb1.os,hb1.tape,hb1.output,hb1.size,fun k hk _=>hb1.block k hk⟩ (fun r e=>by cases e);have HB1:=Za (HBX.o.next hb1);obtain⟨fn,tmps,assign,body,hy,hR⟩:=HY.o pre ⟨dV ln,v⟩ w1 hj1 ⟨by omega,cD hw hnr⟩;have hs1n:n₀≤w1.heap.size:=Nat.le_trans hnr hb1.size;have HR:=Za hR;clear hR hj1 hb1 hw c0 f0 hs1;simp only[uT]at hy;refine aC ?_
      gi_wp2
      refine HR.o.mono ?_;clear HR hy;rintro e W' (⟨rfl,hj',hsz',hkp⟩|⟨rfl,hjx⟩)
      ·have hbx':=hkp _ HB1.o;have c0:=hbx'.q 0 rfl;have f0:=hbx'.free 0;have HJ2:=Za (show J (pre++[⟨dV ln,v⟩]) (W'.setCell ⟨sb,0,none⟩ (.string ⟨r2.toArray⟩))from HJ.o _ W' _ (some sb) hj' (grownBy_setCell' W' sb _) (fun r e=>by cases e;rfl));have HB2:=Za (show aA (W'.setCell ⟨sb,0,none⟩ (.string ⟨r2.toArray⟩)) sb 9 #[.string ⟨r2.toArray⟩] from hbx'.set 0 _);have HS2:=Za (show n₀≤(W'.setCell ⟨sb,0,none⟩ (.string ⟨r2.toArray⟩)).heap.size by simp[World.setCell];omega);clear hj' hkp hbx'
       gi_wp2
       gi_roundg r2.length
       case measure=>have:=HRL.o;omega
       case rel=>
        refine⟨r2,pre++[⟨dV ln,v⟩],rfl,HB2.o,HJ2.o,HS2.o,?_,?_⟩
        ·rw[Zl,List.length_singleton];have:=HRL.o;omega
        ·rw[HINV.o,HLA.o];simp
      ·have HJX:=Za hjx;clear hjx
       gi_wp2
       refine bodyPost_ret (results_none rfl _ _ _) rfl ?_
       first|exact⟨⟨_,rfl⟩,.inr ⟨_,trivial,HJX.o⟩⟩|exact⟨⟨_,rfl⟩,.inr ⟨_,HJX.o⟩⟩
     ·have hc10:¬(rest[k].toNat:Int)=10:=fun h=>h10 (by
       have:rest[k].toNat=(10:UInt8).toNat:=by have:(10:UInt8).toNat=10:=rfl;omega
       exact UInt8.toNat_inj.1 this)
      have HNO2:=Za (show(10:UInt8) ∉ rest.take (k+1) by
       rw[htk];intro hm;rcases List.mem_append.1 hm with hm|hm
       ·exact HNO.o hm
       ·exact h10 (List.mem_singleton.1 hm).symm)
      clear htk hdk h10
      gi_wp2
      go_round
      case rel=>exact⟨k+1,by omega,by go_num,HNO2.o⟩
      case measure=>simp[intOf];omega
    ·obtain rfl:k=rest.length:=by omega
     have HE:=Za (show pre.map (·.ws)=(dJ [] s).map dV by rw[HINV.o,KC rest [] (by have:=HNO.o;rwa [List.take_length]at this)];simp)
     gi_wp2
     refine bodyPost_ret (results_none rfl _ _ _) rfl ?_;exact⟨⟨_,rfl⟩,.inl ⟨pre,HE.o,HJJ.o⟩⟩
theorem fB.box {g n₀:Nat} {vps:Value} {qs:List PD} {vs:Value} {s:List Int} {w W0:World} (h:fB g n₀ vps false qs vs s w) (n:aG) (vb:Value) (h0:W0=w.alloc (.cells (oO n vb) 175)):eE g n₀ w.heap.size n vb vps 0 qs vs s w W0:=by
 have hb:Below w.heap.size w W0:=by rw[h0];exact(Zc _ _).alloc (Zb _) _
 exact⟨bZ.below hb (Nat.le_of_lt h.wk.lt),h.wk.next hb,by rw[h0];exact aA.new _ _ _,h.row.below hb,h.sh.below hb,h.hn,h.wk.lt⟩
theorem bL.pre {g n₀:Nat} {qs:List PD} {res:Option (List Int×List (List Int))} {w W:World} {e:Ending} {w':World} (h:bL g n₀ qs res W e w') (hs:bZ g w W):bL g n₀ qs res w e w':=⟨hs.trans h.1,h.2⟩
theorem mJ (size stride pad nn:Int) (n:Nat) (w:World) (hnn:nn=n) (hn:n≤4):
  Calls Tryz.prog 184 #[.int .i64 size,.int .i64 stride,.int .i64 pad,.int .i64 nn] w fun e w'=>(∃o1 c1 o2 c2 o3 c3 o4 c4,e=.returned (.agg #[.slice o1 n c1,.slice o2 n c2,.slice o3 n c3,.slice o4 n c4])∧Rd w' .i64 (.slice o1 n c1) (List.replicate n size)∧Rd w' .i64 (.slice o2 n c2) (List.replicate n stride)∧Rd w' .i64 (.slice o3 n c3) (List.replicate n pad)∧Rd w' .i64 (.slice o4 n c4) (List.replicate n 1))∧Below w.heap.size w w':=by subst hnn;exact MA size stride pad n w hn
theorem oN {n:aG} {first:Bool} {s:List Int} (hk:n.kind=8∨n.kind=9):aK n first s=match bV n s with
  |none=>none
  |some p=>some (aE s 0::p,[]):=by rw[aK,if_neg (by omega),if_neg (by omega),if_pos hk];cases bV n s<;>rfl
theorem mY {n:aG} {first:Bool} {s:List Int} (hk:n.kind=2):aK n first s=match bV n s with
  |none=>none
  |some p=>if aE s 0=n.inn then some (n.o::p,[[n.o,n.inn]++List.replicate (s.length-1) n.size,[n.o]++List.replicate (s.length-1) 1]) else none:=by rw[aK,if_neg (by omega),if_pos hk];cases bV n s<;>rfl
theorem sF {s:List Int} (h:s.all bW=true):∀x∈s.tail,0≤x∧x≤4096:=fun x hx=>by
 have:=List.all_eq_true.1 h x (List.mem_of_mem_tail hx);simp[bW]at this;omega
theorem yB (g n₀:Nat) (n1 n2 n3 n4 n5 n6 n7:Int) (ob:Option Addr) (nb cb:Nat) (vps:Value) (first:Bool) (nm:ByteArray) (qs:List PD) (o:Option Addr) (m cap:Nat) (s:List Int) (w:World) (k:Int) (hk:k=8∨k=9) (hwin:jE ⟨k,n1,n2,n3,n4,n5,n6,n7⟩)
  (h:fB g n₀ vps false qs (.slice o m cap) s w) (hm:m=s.length) (hnm:nm.size≤1000000):
  Calls Tryz.prog 165 #[.pointer (some ⟨g,0,none⟩),.agg #[.int .i64 k,.int .i64 n1,.int .i64 n2,.int .i64 n3,.int .i64 n4,.int .i64 n5,.int .i64 n6,.int .i64 n7,.slice ob nb cb],.slice o m cap,.string nm] w (bL g n₀ qs (aK ⟨k,n1,n2,n3,n4,n5,n6,n7⟩ first s) w):=by
 obtain⟨i0,hi,hz0,hz1,hz2⟩:=info_parts nC;obtain⟨W1,hW1⟩:∃W1,W1=w.alloc (.cells #[.int .i64 k,.int .i64 n1,.int .i64 n2,.int .i64 n3,.int .i64 n4,.int .i64 n5,.int .i64 n6,.int .i64 n7,.slice ob nb cb] 175):=⟨_,rfl⟩;have HA:=Za (h.box ⟨k,n1,n2,n3,n4,n5,n6,n7⟩ (.slice ob nb cb) hW1);have HW:=Za hW1;obtain⟨hs3,hsd,hsp⟩:=iN h.fit;have hm3:m≤3:=by omega
 have HSD:=Za (Zd hsd hsp);have HQ:=Za h.hq;have HM:=Za hm;have HWIN:=Za hwin;have hl2':¬9223372036854775807<nm.size+2:=by omega
 clear h hW1 hsd hsp hs3 hm hwin;have a0:=HA.o.lay.q 0 rfl;have a1:=HA.o.lay.q 1 rfl;have a2:=HA.o.lay.q 2 rfl;have a3:=HA.o.lay.q 3 rfl;have a4:=HA.o.lay.q 4 rfl;have a5:=HA.o.lay.q 5 rfl;have a6:=HA.o.lay.q 6 rfl;have a7:=HA.o.lay.q 7 rfl;have a8:=HA.o.lay.q 8 rfl;have x2:=HA.o.wk.q 2 rfl;have f2:=HA.o.wk.free 2;go_enter Tryz.func165,Tryz.ntmps165;go_upto_region 1 with(fail);rw[←HW.o];have hk2:(k==2)=false:=by rcases hk with rfl|rfl<;>rfl
 have hk2':(k != 2)=true:=by rcases hk with rfl|rfl<;>rfl
 have HST:=Za (show eU ⟨k,n1,n2,n3,n4,n5,n6,n7⟩=n3 by rw[eU,if_neg (by show ¬k=2;omega)]);have hm4:m=0∨m=1∨m=2∨m=3:=by omega
 rcases hm4 with rfl|rfl|rfl|rfl
 ·have HN:=Za (show aK ⟨k,n1,n2,n3,n4,n5,n6,n7⟩ first s=none by rw[oN hk,bV,if_neg (by have:=HM.o;omega)]);go_wp2_with fail;go_quiet(fail);go_wp2_with fail;go_ret;exact bL.no ((HA.o.next (eV _)).bad 2) (by decide) HN.o (by omega) none 0 0
 ·have HN:=Za (show aK ⟨k,n1,n2,n3,n4,n5,n6,n7⟩ first s=none by rw[oN hk,bV,if_neg (by have:=HM.o;omega)]);go_wp2_with fail;go_quiet(fail);go_wp2_with fail;go_ret;exact bL.no ((HA.o.next (eV _)).bad 2) (by decide) HN.o (by omega) none 0 0
 ·obtain⟨x0,x1,rfl⟩:=pN HM.o.symm;obtain⟨res,hres⟩:∃res,res=cN n3 n3 n5 [x1]:=⟨_,rfl⟩;have he:bV ⟨k,n1,n2,n3,n4,n5,n6,n7⟩ [x0,x1]=res:=by rw[bV,if_pos (by simp),HST.o,hres];rfl
  have HD:=Za (show(res=none→aK ⟨k,n1,n2,n3,n4,n5,n6,n7⟩ first [x0,x1]=none)∧∀p,res=some p→aK ⟨k,n1,n2,n3,n4,n5,n6,n7⟩ first [x0,x1]=some (x0::p,[])from⟨fun h=>by rw[oN hk,he,h],fun p h=>by rw[oN hk,he,h];rfl⟩);clear he;have HPL:=Za (fun(W:World) (o1 o2 o3 o4:Option Addr) (c1 c2 c3 c4:Nat) h0 h1 h2 h3 h4=>show Calls Tryz.prog 183 #[.slice o 2 cap,.agg #[.slice o1 1 c1,.slice o2 1 c2,.slice o3 1 c3,.slice o4 1 c4]] W (pD W res) by
   rw[hres];exact sH n3 n3 n5 x0 [x1] o o1 o2 o3 o4 cap c1 c2 c3 c4 1 2 W ⟨HWIN.o.s1,HWIN.o.s2⟩ ⟨HWIN.o.s1,HWIN.o.s2⟩ ⟨HWIN.o.p1,HWIN.o.p2⟩ (sF HSD.o.1) rfl rfl (by simp) h0 h1 h2 h3 h4)
  have HLN:=Za (show ∀ys,res=some ys→ys.length=1 from fun ys h=>by rw[hres]at h;exact lU h);clear hres;obtain⟨b,off,rfl,hc⟩:=HA.o.sh.1.cell 0 (by simp);go_wp2_with fail;go_quiet(fail);obtain⟨V,hV⟩:∃V,V=W1.drewN nq:=⟨_,rfl⟩;have HV:=Za (show eE g n₀ w.heap.size ⟨k,n1,n2,n3,n4,n5,n6,n7⟩ (.slice ob nb cb) vps 0 qs (.slice (some ⟨b,off,none⟩) 2 cap) [x0,x1] w V by rw[hV];exact HA.o.next (eV _));rw[←hV];clear hV hc x2 f2 a0 a1 a2 a3 a4 a5 a6 a7 a8 HA;have a0:=HV.o.lay.q 0 rfl;have a3:=HV.o.lay.q 3 rfl;have a5:=HV.o.lay.q 5 rfl;cases res with
  |none=>
   go_wp2_with(first
    |(go_at_call 184;refine(mJ _ _ _ _ 1 _ rfl (by omega)).mono ?_;rintro e w2 ⟨⟨o1,c1,o2,c2,o3,c3,o4,c4,rfl,r1,r2,r3,r4⟩,hb2⟩;have HR:=Za (Zd r1 (Zd r2 (Zd r3 r4)));have HA2:=Za (HV.o.next hb2);clear r1 r2 r3 r4 hb2)
    |(go_at_call 183;refine(HPL.o _ _ _ _ _ _ _ _ _ HA2.o.sh.1 HR.o.1 HR.o.2.1 HR.o.2.2.1 HR.o.2.2.2).mono ?_;rintro e w3 ⟨hb3,rfl⟩;have HA3:=Za (HA2.o.next hb3);clear hb3;refine aD ?_))
   clear a0 a3 a5;have x2:=HA3.o.wk.q 2 rfl;have f2:=HA3.o.wk.free 2;refine aC ?_;go_wp2_with fail;go_ret;exact bL.no (HA3.o.bad 2) (by decide) (HD.o.1 (by trivial)) (by omega) none 0 0
  |some ys=>
   go_wp2_with(first
    |(go_at_call 184;refine(mJ _ _ _ _ 1 _ rfl (by omega)).mono ?_;rintro e w2 ⟨⟨o1,c1,o2,c2,o3,c3,o4,c4,rfl,r1,r2,r3,r4⟩,hb2⟩;have HR:=Za (Zd r1 (Zd r2 (Zd r3 r4)));have HA2:=Za (HV.o.next hb2);clear r1 r2 r3 r4 hb2)
    |(go_at_call 183;refine(HPL.o _ _ _ _ _ _ _ _ _ HA2.o.sh.1 HR.o.1 HR.o.2.1 HR.o.2.2.1 HR.o.2.2.2).mono ?_;rintro e w3 ⟨hb3,v3,rfl,ho3⟩;have HA3:=Za (HA2.o.next hb3);have HO3:=Za ho3;obtain⟨o9,c9,rfl⟩:=aJ ho3;clear hb3 ho3;refine aD ?_))
   clear a0 a3 a5;have a0:=HA3.o.lay.q 0 rfl;obtain⟨b',off',hbo,hc⟩:=HA3.o.sh.1.cell 0 (by simp);cases hbo;simp only[Nat.add_zero,aE,List.getD_cons_zero]at hc;have HOW:=Za (fO w3 x0);have HYL:=Za (show [x0].length+ys.length≤maxLen∧([x0].length+ys.length)*8≤140737488355328 by have:=HLN.o ys rfl;rw[this];unfold maxLen;simp);refine aC ?_;go_wp2_with(at_builtin;refine kI rfl _ _ 30 rfl w3.heap.size 3 .i64 i0 8 Tryz.underlying30 hi hz0 hz1 hz2 _ [x0] rfl HOW.o _ ys rfl ((Rd.of_own HO3.o).alloc _) HYL.o.1 HYL.o.2 (by simp) ?_;intro v5 w5 hown5 hg5 _;have HO5:=Za hown5;have HB5:=Za (((Zc _ _).alloc (Zb _) _).grown hg5 (by simp) (fun k hk=>(HOW.o.lt k hk).1));obtain⟨o5,c5,rfl⟩:=aJ hown5;clear hown5 hg5);go_ret;exact bL.yes (HA3.o.next HB5.o) (HD.o.2 _ rfl) (by simp) (by simp) (by simp) (aM.of_own HO5.o)
 ·obtain⟨x0,x1,x9,rfl⟩:=AK HM.o.symm;obtain⟨res,hres⟩:∃res,res=cN n3 n3 n5 [x1,x9]:=⟨_,rfl⟩;have he:bV ⟨k,n1,n2,n3,n4,n5,n6,n7⟩ [x0,x1,x9]=res:=by rw[bV,if_pos (by simp),HST.o,hres];rfl
  have HD:=Za (show(res=none→aK ⟨k,n1,n2,n3,n4,n5,n6,n7⟩ first [x0,x1,x9]=none)∧∀p,res=some p→aK ⟨k,n1,n2,n3,n4,n5,n6,n7⟩ first [x0,x1,x9]=some (x0::p,[])from⟨fun h=>by rw[oN hk,he,h],fun p h=>by rw[oN hk,he,h];rfl⟩);clear he;have HPL:=Za (fun(W:World) (o1 o2 o3 o4:Option Addr) (c1 c2 c3 c4:Nat) h0 h1 h2 h3 h4=>show Calls Tryz.prog 183 #[.slice o 3 cap,.agg #[.slice o1 2 c1,.slice o2 2 c2,.slice o3 2 c3,.slice o4 2 c4]] W (pD W res) by
   rw[hres];exact sH n3 n3 n5 x0 [x1,x9] o o1 o2 o3 o4 cap c1 c2 c3 c4 2 3 W ⟨HWIN.o.s1,HWIN.o.s2⟩ ⟨HWIN.o.s1,HWIN.o.s2⟩ ⟨HWIN.o.p1,HWIN.o.p2⟩ (sF HSD.o.1) rfl rfl (by simp) h0 h1 h2 h3 h4)
  have HLN:=Za (show ∀ys,res=some ys→ys.length=2 from fun ys h=>by rw[hres]at h;exact lU h);clear hres;obtain⟨b,off,rfl,hc⟩:=HA.o.sh.1.cell 0 (by simp);go_wp2_with fail;go_quiet(fail);obtain⟨V,hV⟩:∃V,V=W1.drewN nq:=⟨_,rfl⟩;have HV:=Za (show eE g n₀ w.heap.size ⟨k,n1,n2,n3,n4,n5,n6,n7⟩ (.slice ob nb cb) vps 0 qs (.slice (some ⟨b,off,none⟩) 3 cap) [x0,x1,x9] w V by rw[hV];exact HA.o.next (eV _));rw[←hV];clear hV hc x2 f2 a0 a1 a2 a3 a4 a5 a6 a7 a8 HA;have a0:=HV.o.lay.q 0 rfl;have a3:=HV.o.lay.q 3 rfl;have a5:=HV.o.lay.q 5 rfl;cases res with
  |none=>
   go_wp2_with(first
    |(go_at_call 184;refine(mJ _ _ _ _ 2 _ rfl (by omega)).mono ?_;rintro e w2 ⟨⟨o1,c1,o2,c2,o3,c3,o4,c4,rfl,r1,r2,r3,r4⟩,hb2⟩;have HR:=Za (Zd r1 (Zd r2 (Zd r3 r4)));have HA2:=Za (HV.o.next hb2);clear r1 r2 r3 r4 hb2)
    |(go_at_call 183;refine(HPL.o _ _ _ _ _ _ _ _ _ HA2.o.sh.1 HR.o.1 HR.o.2.1 HR.o.2.2.1 HR.o.2.2.2).mono ?_;rintro e w3 ⟨hb3,rfl⟩;have HA3:=Za (HA2.o.next hb3);clear hb3;refine aD ?_))
   clear a0 a3 a5;have x2:=HA3.o.wk.q 2 rfl;have f2:=HA3.o.wk.free 2;refine aC ?_;go_wp2_with fail;go_ret;exact bL.no (HA3.o.bad 2) (by decide) (HD.o.1 (by trivial)) (by omega) none 0 0
  |some ys=>
   go_wp2_with(first
    |(go_at_call 184;refine(mJ _ _ _ _ 2 _ rfl (by omega)).mono ?_;rintro e w2 ⟨⟨o1,c1,o2,c2,o3,c3,o4,c4,rfl,r1,r2,r3,r4⟩,hb2⟩;have HR:=Za (Zd r1 (Zd r2 (Zd r3 r4)));have HA2:=Za (HV.o.next hb2);clear r1 r2 r3 r4 hb2)
    |(go_at_call 183;refine(HPL.o _ _ _ _ _ _ _ _ _ HA2.o.sh.1 HR.o.1 HR.o.2.1 HR.o.2.2.1 HR.o.2.2.2).mono ?_;rintro e w3 ⟨hb3,v3,rfl,ho3⟩;have HA3:=Za (HA2.o.next hb3);have HO3:=Za ho3;obtain⟨o9,c9,rfl⟩:=aJ ho3;clear hb3 ho3;refine aD ?_))
   clear a0 a3 a5;have a0:=HA3.o.lay.q 0 rfl;obtain⟨b',off',hbo,hc⟩:=HA3.o.sh.1.cell 0 (by simp);cases hbo;simp only[Nat.add_zero,aE,List.getD_cons_zero]at hc;have HOW:=Za (fO w3 x0);have HYL:=Za (show [x0].length+ys.length≤maxLen∧([x0].length+ys.length)*8≤140737488355328 by have:=HLN.o ys rfl;rw[this];unfold maxLen;simp);refine aC ?_;go_wp2_with(at_builtin;refine kI rfl _ _ 30 rfl w3.heap.size 3 .i64 i0 8 Tryz.underlying30 hi hz0 hz1 hz2 _ [x0] rfl HOW.o _ ys rfl ((Rd.of_own HO3.o).alloc _) HYL.o.1 HYL.o.2 (by simp) ?_;intro v5 w5 hown5 hg5 _;have HO5:=Za hown5;have HB5:=Za (((Zc _ _).alloc (Zb _) _).grown hg5 (by simp) (fun k hk=>(HOW.o.lt k hk).1));obtain⟨o5,c5,rfl⟩:=aJ hown5;clear hown5 hg5);go_ret;exact bL.yes (HA3.o.next HB5.o) (HD.o.2 _ rfl) (by simp) (by simp) (by simp) (aM.of_own HO5.o)
end Go.Proofs.YtjhkdocidcfpdaaGreatDoor
