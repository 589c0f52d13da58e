/-
  A part of the proof of a law (packed by program).
-/
import Derived.Test.YtjhkdocidcfpdaaGreatDoorTM46
set_option linter.unusedVariables false
set_option linter.unusedSimpArgs false
set_option maxRecDepth 100000
set_option maxHeartbeats 16000000
namespace Go.Proofs.YtjhkdocidcfpdaaGreatDoor
open Go.RowKit Go.Shelf Go
theorem OA {p:Prop} {P:Program} {w:World} (h:p):wpAny P .any #[] (fun _ _ _=>True) 0 #[] ⟨#[],[]⟩ w→p:=fun _=>h
theorem GT (w:World):(Instr.typeAssert (.iface 125 (.agg #[])) 20 125 true).run Tryz.prog w=.ok (.tuple #[.agg #[],.bool true]) w:=by kernel_rfl
theorem SU (B:Nat) (x:Bool) (w:World) (hb:aA w B 4 #[.bool x]):
  CallsD Tryz.prog 71 #[.pointer (some ⟨B,0,none⟩)] (.panicking [kS]) w fun e u' w'=>
   e=.returned (.tuple #[])∧u'=.panicking [{v:=.iface 125 (.agg #[]),recovered:=true}]∧w'=(w.alloc (.cells #[] 125)).setCell ⟨B,0,none⟩ (.bool false):=by
 have hta:=GT;have hb2:=hb.next ((Zc _ _).alloc (Zb _) (.cells #[] 125));have c0:=hb2.q 0 rfl;have f0:=hb2.free 0;clear hb hb2;refine callsD_of_wpS Tryz.func71 rfl fun c₀ cs hu=>?_;apply wpS_seq;apply wpS_region;simp[wpOpsS,go_sem,recoverD,hu,Tryz.ntmps71,Exit.thenS,kS];refine wpS_of_wp ?_;simp[Array.replicate];go_wp2;cases c₀
 simp_all [bodyPostS,results,Tryz.results71]
theorem FA (p:Addr) (w:World):
  CallsD Tryz.prog 71 #[.pointer (some p)] .returning w fun e u' w'=>e=.returned (.tuple #[])∧u'=.returning∧w'=w:=by
 refine callsD_of_wpS Tryz.func71 rfl fun c₀ cs hu=>?_;apply wpS_seq;apply wpS_region;simp[wpOpsS,go_sem,recoverD,hu,Tryz.ntmps71,Exit.thenS];refine wpS_of_wp ?_;simp[Array.replicate];go_wp2;cases c₀
 simp_all [bodyPostS,results,Tryz.results71]
theorem CU (o:Option Addr) (n cap:Nat) (F:Nat) (cs:Array Value) (w:World) (rest:List Int) (Post:World→Prop) {B:Nat} (hB:w.heap.size=B) (he:∀args w,(callFunc F args).run Tryz.prog w=.ok (.enter F args) w)
  (hf:Calls Tryz.prog F (#[.pointer (some ⟨B+1,0,none⟩)]++cs) ((w.alloc (.cells #[.bool false] 4)).alloc (.cells #[.slice o n cap] 128)) fun e w'=>e=.returned (.tuple #[])∧Post w'∧aA w' B 4 #[.bool false]∧cP w' (B+1) rest):
  Calls Tryz.prog 22 #[.slice o n cap,.func (.func F) #[] cs] w fun e w'=>e=.returned (.bool (rest.length==0))∧∃w1 b,Post w1∧w'=w1.setCell ⟨B,0,none⟩ (.bool b):=by
 subst hB;have hmf:∀(fn:Fn) (first cap:Array Value) (w:World),(Instr.makeFunc fn first cap).run Tryz.prog w=.ok (.func fn first cap) w:=fun _ _ _ _=>rfl;have HF:=Za hf;clear hf
 go_enter_defers Tryz.func22,Tryz.ntmps22
 go_wp2_with fail;refine HF.o.mono ?_;rintro e w1 ⟨rfl,hp,hb,hr⟩;obtain⟨o1,cap1,hbr,_,_,_⟩:=hr;have c0:=hb.q 0 rfl;have f0:=hb.free 0;have c1:=hbr.q 0 rfl;have HP:=Za hp;have HB:=Za hb;clear hp hb hbr;go_wp2_with fail;refine leaves_cons (f:=71) (args:=#[.pointer (some ⟨w.heap.size,0,none⟩)]) (by simp) (by simp[go_sem]) ?_;refine(FA ⟨w.heap.size,0,none⟩ _).mono ?_;rintro e u' w'' ⟨rfl,rfl,rfl⟩;have c9:=(HB.o.set 0 (.bool ((rest.length:Int)==0))).cell 0 rfl;have e9:((rest.length:Int)==0)=(rest.length==0):=by rw[Bool.eq_iff_iff,beq_iff_eq,beq_iff_eq];omega
 simp[Leaves,settle,results,Tryz.results22,go_sem,c9];refine⟨e9,w1,HP.o,?_⟩;cases((rest.length:Int)==0)<;>simp
theorem G0 (o:Option Addr) (n cap:Nat) (F:Nat) (cs:Array Value) (w:World) (Post:World→Prop) {B:Nat} (hB:w.heap.size=B) (he:∀args w,(callFunc F args).run Tryz.prog w=.ok (.enter F args) w)
  (hf:Calls Tryz.prog F (#[.pointer (some ⟨B+1,0,none⟩)]++cs) ((w.alloc (.cells #[.bool false] 4)).alloc (.cells #[.slice o n cap] 128)) fun e w'=>e=.panicked [kS]∧Post w'∧aA w' B 4 #[.bool false]):
  Calls Tryz.prog 22 #[.slice o n cap,.func (.func F) #[] cs] w fun e w'=>e=.returned (.bool false)∧∃w1,Post w1∧w'=(w1.alloc (.cells #[] 125)).setCell ⟨B,0,none⟩ (.bool false):=by
 subst hB;have hmf:∀(fn:Fn) (first cap:Array Value) (w:World),(Instr.makeFunc fn first cap).run Tryz.prog w=.ok (.func fn first cap) w:=fun _ _ _ _=>rfl;have HF:=Za hf;clear hf
 go_enter_defers Tryz.func22,Tryz.ntmps22
 go_wp2_with fail;refine HF.o.mono ?_;rintro e w1 ⟨rfl,hp,hb⟩;have HP:=Za hp;have HB:=Za hb;clear hp hb;go_wp2_with fail;refine leaves_cons (f:=71) (args:=#[.pointer (some ⟨w.heap.size,0,none⟩)]) (by simp) (by simp[go_sem]) ?_;refine(SU w.heap.size false _ HB.o).mono ?_;rintro e u' w'' ⟨rfl,rfl,rfl⟩;have c9:=((HB.o.next ((Zc _ _).alloc (Zb _) (.cells #[] 125))).set 0 (.bool false)).cell 0 rfl;simp[Leaves,settle,results,Tryz.results22,go_sem,c9];exact⟨w1,HP.o,rfl⟩
theorem xR {w w':World} {R:Nat} {v:Value} {xs:List Int} {rem:List Int} (h:Rd w .u8 v xs) (hr:cP w R rem) (hm:aZ w w' R):Rd w' .u8 v xs:=by
 obtain⟨ro,rn,rc,hb⟩:=hr.rbox;obtain⟨o,cap,rfl,hc⟩:=h;refine⟨o,cap,rfl,fun j hj=>?_⟩;obtain⟨b,off,rfl,hcell⟩:=hc j hj;refine⟨b,off,rfl,?_⟩;by_cases e:b=R
 ·exfalso;subst e;rw[cell_of_row w b (off+j) _ _ _ hb]at hcell;rcases Nat.eq_zero_or_pos (off+j)with h0|h0
  ·rw[h0]at hcell;simp at hcell
  ·rw[Array.getElem?_eq_none (by simp;omega)]at hcell;cases hcell
 ·exact(World.cell?_of_block (w:=w) (a:=⟨b,off+j,none⟩) (gG hm (aP hcell) e)).trans hcell
theorem mX {w w':World} {R g:Nat} {T:TypeId} {cs:Array Value} (h:aA w g T cs) (hm:aZ w w' R) (hg:g≠R):aA w' g T cs:=(gG hm h.lt hg).trans h
theorem TE {bs:List Int} {k:Nat} (hk:k+4=bs.length):bJ 4 (bs.drop k)=some (fQ (bs.drop k),[]):=by
 have hl:(bs.drop k).length=4:=by rw[List.length_drop];omega
 have h1:(bs.drop k).take 4=bs.drop k:=List.take_of_length_le (by omega);have h2:(bs.drop k).drop 4=[]:=List.drop_eq_nil_of_le (by omega);rw[wX (by omega),h1,h2]
theorem BD (R PB PN:Nat) (o:Option Addr) (cap k:Nat) (bs:List Int) (w:World) (hq:cR w w R (bs.drop k)) (hk:k+4=bs.length) (hcap:bs.length≤cap) (hb:aA w PB 23 #[.slice o bs.length cap]) (hn:aA w PN 3 #[.int .i64 k]) (hPB:PB≠R) (hPN:PN≠R) (hr:Rd w .u8 (.slice o bs.length cap) bs) (hw:Wf .u8 bs) (hl:bs.length≤100000):
  Calls Tryz.prog 23 #[.pointer (some ⟨R,0,none⟩),.pointer (some ⟨PB,0,none⟩),.pointer (some ⟨PN,0,none⟩)] w fun e w'=>cR w w' R []∧((jQ bs=true∧e=.returned (.tuple #[]))∨(jQ bs=false∧e=.panicked [kS])):=by
 obtain⟨x,hx⟩:∃x,x=fQ (bs.drop k):=⟨_,rfl⟩;obtain⟨y,hy⟩:∃y,y=jU (bs.take k):=⟨_,rfl⟩;have hN:bJ 4 (bs.drop k)=some (x,[]):=by rw[hx];exact TE hk
 have hx4:x<4294967296:=by
  have:=(AY hN (by omega) hq.wf).2.1
  simpa using this
 have hSB:jQ bs=decide (x=y):=by rw[jQ,show bs.length-4=k by omega,hx,hy]
 have hwr:IntKind.u32.wrap (x:Int)=x:=by rw[IntKind.wrap_u32];omega
 have HQ:=Za hq;have HN:=Za hN;have HW:=Za (hw.take k);have HR:=Za hr;have HB:=Za hb;have HBN:=Za hn;have HSB:=Za hSB;have HY:=Za hy;have HD:=Za (show Below w.heap.size w w.drew from(Zc _ _).drew);have HQD:=Za (HQ.o.low HD.o (Zb _));have c1:w.drew.cell? ⟨PB,0,none⟩=some (.slice o bs.length cap):=(hb.next HD.o).cell 0 rfl;have c2:w.drew.cell? ⟨PN,0,none⟩=some (.int .i64 k):=(hn.next HD.o).cell 0 rfl;have d1:=hb.q 0 rfl;have d2:=hn.q 0 rfl;clear hq hN hw hr hb hn hSB hx hy;by_cases hxy:x=y
 ·subst hxy;have HS:=Za (show jQ bs=true by rw[HSB.o];simp);go_enter Tryz.func23,Tryz.ntmps23;go_region_with(first
   |(go_at_call 25;refine(vM HQD.o (n:=4) (by omega) HN.o).mono ?_;rintro e w1 ⟨rfl,hq1,hm1⟩;have HQ1:=Za hq1;have HM1:=Za ((gI (R:=R) HD.o).trans hm1);clear hq1 hm1;have e1:w1.cell? ⟨PB,0,none⟩=some (.slice o bs.length cap):=(mX HB.o HM1.o hPB).cell 0 rfl;have e2:w1.cell? ⟨PN,0,none⟩=some (.int .i64 k):=(mX HBN.o HM1.o hPN).cell 0 rfl)
   |(go_at_call 13;refine(sY _ (bs.take k) _ ((xR HR.o HQ.o.at_ HM1.o).take k (by omega)) HW.o (by rw[List.length_take];omega)).mono ?_;rintro e w2 ⟨rfl,hb2⟩;rw[←HY.o];have HQ2:=Za (HQ1.o.low (hb2.mono HQ1.o.moved.size) (Zb _));clear hb2)
   |(go_at_call 24;refine(gC _ _).mono ?_;rintro e w' ⟨rfl,rfl⟩))
  all_goals
   go_wp2;go_end0;exact⟨HQ2.o,.inl ⟨HS.o,rfl⟩⟩
 ·have HS:=Za (show jQ bs=false by rw[HSB.o];simp[hxy]);have hbb:((x:Int)==(y:Int))=false:=beq_eq_false_iff_ne.2 (by omega);go_enter Tryz.func23,Tryz.ntmps23;go_region_with(first
   |(go_at_call 25;refine(vM HQD.o (n:=4) (by omega) HN.o).mono ?_;rintro e w1 ⟨rfl,hq1,hm1⟩;have HQ1:=Za hq1;have HM1:=Za ((gI (R:=R) HD.o).trans hm1);clear hq1 hm1;have e1:w1.cell? ⟨PB,0,none⟩=some (.slice o bs.length cap):=(mX HB.o HM1.o hPB).cell 0 rfl;have e2:w1.cell? ⟨PN,0,none⟩=some (.int .i64 k):=(mX HBN.o HM1.o hPN).cell 0 rfl)
   |(go_at_call 13;refine(sY _ (bs.take k) _ ((xR HR.o HQ.o.at_ HM1.o).take k (by omega)) HW.o (by rw[List.length_take];omega)).mono ?_;rintro e w2 ⟨rfl,hb2⟩;rw[←HY.o];have HQ2:=Za (HQ1.o.low (hb2.mono HQ1.o.moved.size) (Zb _));clear hb2)
   |(go_at_call 24;refine(K1 (by first|rfl|exact hbb)).mono ?_;rintro e w' ⟨rfl,rfl⟩;refine OA (P:=Tryz.prog) (w:=w2) ⟨rfl,HQ2.o,.inr ⟨HS.o,rfl⟩⟩ ?_))
  all_goals trivial
end Go.Proofs.YtjhkdocidcfpdaaGreatDoor
