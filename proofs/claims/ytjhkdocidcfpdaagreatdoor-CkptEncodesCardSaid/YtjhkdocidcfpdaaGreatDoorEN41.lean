/- A part of the proof. -/
import Derived.Test.YtjhkdocidcfpdaaGreatDoorEN40
import Derived.Test.YtjhkdocidcfpdaaGreatDoorEN34
set_option linter.unusedVariables false
set_option linter.unusedSimpArgs false
set_option maxRecDepth 100000
set_option maxHeartbeats 16000000
namespace Go.Proofs.YtjhkdocidcfpdaaGreatDoor
open Go.RowKit Go.Shelf Go
theorem JV {p:Prop} {P:Program} {w:World} (h:p):wpAny P .any #[] (fun _ _ _=>True) 0 #[] ⟨#[],[]⟩ w->p:=fun _=>h
theorem NW (p:Addr) (w:World):
  CallsD Tryz.prog 71 #[.pointer (some p)] .returning w fun e u' w'=>e=.returned (.tuple #[])/\u'=.returning/\w'=w:=by
 refine callsD_of_wpS Tryz.func71 rfl fun c₀ cs hu=>?_;apply wpS_seq;apply wpS_region;simp[wpOpsS,go_sem,recoverD,hu,Tryz.ntmps71,Exit.thenS];refine wpS_of_wp ?_;simp[Array.replicate];go_wp2;cases c₀
 simp_all [bodyPostS,results,Tryz.results71]
theorem FW (o:Option Addr) (n cap:Nat) (F:Nat) (cs:Array Value) (w:World) (rest:List Int) (Post:World->Prop) {B:Nat} (hB:w.heap.size=B) (he:∀args w,(callFunc F args).run Tryz.prog w=.ok (.enter F args) w)
  (hf:Calls Tryz.prog F (#[.pointer (some ⟨B+1,0,none⟩)]++cs) ((w.alloc (.cells #[.bool false] 4)).alloc (.cells #[.slice o n cap] 128)) fun e w'=>e=.returned (.tuple #[])/\Post w'/\aA w' B 4 #[.bool false]/\cT w' (B+1) rest):
  Calls Tryz.prog 22 #[.slice o n cap,.func (.func F) #[] cs] w fun e w'=>e=.returned (.bool (rest.length==0))/\∃w1 b,Post w1/\w'=w1.setCell ⟨B,0,none⟩ (.bool b):=by
 subst hB;have C:∀(fn:Fn) (first cap:Array Value) (w:World),(Instr.makeFunc fn first cap).run Tryz.prog w=.ok (.func fn first cap) w:=fun _ _ _ _=>rfl;have D:=Za hf;clear hf
 go_enter_defers Tryz.func22,Tryz.ntmps22
 go_wp2_with fail;refine D.o.mono ?_;rintro e w1 ⟨rfl,hp,hb,hr⟩;obtain⟨o1,cap1,A,_,_,_⟩:=hr;have c0:=hb.q 0 rfl;have f0:=hb.free 0;have c1:=A.q 0 rfl;have E:=Za hp;have G:=Za hb;clear hp hb A;go_wp2_with fail;refine leaves_cons (f:=71) (args:=#[.pointer (some ⟨w.heap.size,0,none⟩)]) (by simp) (by simp[go_sem]) ?_;refine(NW ⟨w.heap.size,0,none⟩ _).mono ?_;rintro e u' w'' ⟨rfl,rfl,rfl⟩;have c9:=(G.o.set 0 (.bool ((rest.length:Int)==0))).cell 0 rfl;have e9:((rest.length:Int)==0)=(rest.length==0):=by rw[Bool.eq_iff_iff,beq_iff_eq,beq_iff_eq];omega
 simp[Leaves,settle,results,Tryz.results22,go_sem,c9];refine⟨e9,w1,E.o,?_⟩;cases((rest.length:Int)==0)<;>simp
theorem DW {w w':World} {R:Nat} {v:Value} {xs:List Int} {rem:List Int} (h:Rd w .u8 v xs) (hr:cT w R rem) (hm:bB w w' R):Rd w' .u8 v xs:=by
 obtain⟨ro,rn,rc,hb⟩:=hr.rbox;obtain⟨o,cap,rfl,hc⟩:=h;refine⟨o,cap,rfl,fun j hj=>?_⟩;obtain⟨b,off,rfl,A⟩:=hc j hj;refine⟨b,off,rfl,?_⟩;by_cases e:b=R
 ·exfalso;subst e;rw[cell_of_row w b (off+j) _ _ _ hb]at A;rcases Nat.eq_zero_or_pos (off+j)with h0|h0
  ·rw[h0]at A;simp at A
  ·rw[Array.getElem?_eq_none (by simp;omega)]at A;cases A
 ·exact(World.cell?_of_block (w:=w) (a:=⟨b,off+j,none⟩) (gP hm (aP A) e)).trans A
theorem pR {w w':World} {R g:Nat} {T:TypeId} {cs:Array Value} (h:aA w g T cs) (hm:bB w w' R) (hg:g≠R):aA w' g T cs:=(gP hm h.lt hg).trans h
theorem NJ {bs:List Int} {k:Nat} (hk:k+4=bs.length):bL 4 (bs.drop k)=some (fU (bs.drop k),[]):=by
 have hl:(bs.drop k).length=4:=by rw[List.length_drop];omega
 have h1:(bs.drop k).take 4=bs.drop k:=List.take_of_length_le (by omega);have h2:(bs.drop k).drop 4=[]:=List.drop_eq_nil_of_le (by omega);rw[wZ (by omega),h1,h2]
theorem PF (R PB PN:Nat) (o:Option Addr) (cap k:Nat) (bs:List Int) (w:World) (hq:cV w w R (bs.drop k)) (hk:k+4=bs.length) (X:bs.length<=cap) (hb:aA w PB 23 #[.slice o bs.length cap]) (hn:aA w PN 3 #[.int .i64 k]) (G:PB≠R) (H:PN≠R) (hr:Rd w .u8 (.slice o bs.length cap) bs) (hw:Wf .u8 bs) (hl:bs.length<=100000):
  Calls Tryz.prog 23 #[.pointer (some ⟨R,0,none⟩),.pointer (some ⟨PB,0,none⟩),.pointer (some ⟨PN,0,none⟩)] w fun e w'=>cV w w' R []/\((mM bs=true/\e=.returned (.tuple #[]))\/(mM bs=false/\e=.panicked [oO])):=by
 obtain⟨x,hx⟩:=Zx (fU (bs.drop k));obtain⟨y,hy⟩:=Zx (iV (bs.take k));have hN:bL 4 (bs.drop k)=some (x,[]):=by rw[hx];exact NJ hk
 have aa:x<4294967296:=by
  have:=(DC hN (by omega) hq.wf).2.1
  simpa using this
 have I:mM bs=decide (x=y):=by rw[mM,show bs.length-4=k by omega,hx,hy]
 have ab:IntKind.u32.wrap (x:Int)=x:=by rw[IntKind.wrap_u32];omega
 have T:=Za hq;have Y:=Za hN;have Z:=Za (hw.take k);have HR:=Za hr;have HB:=Za hb;have J:=Za hn;have L:=Za I;have HY:=Za hy;have M:=Za (show Below w.heap.size w w.drew from(Zc _ _).drew);have N:=Za (T.o.low M.o (Zb _));have c1:w.drew.cell? ⟨PB,0,none⟩=some (.slice o bs.length cap):=(hb.next M.o).cell 0 rfl;have c2:w.drew.cell? ⟨PN,0,none⟩=some (.int .i64 k):=(hn.next M.o).cell 0 rfl;have d1:=hb.q 0 rfl;have d2:=hn.q 0 rfl;clear hq hN hw hr hb hn I hx hy;by_cases O:x=y
 ·subst O;have U:=Za (show mM bs=true by rw[L.o];simp);go_enter Tryz.func23,Tryz.ntmps23;go_region_with(first
   |(go_at_call 25;refine(vF N.o (n:=4) (by omega) Y.o).mono ?_;rintro e w1 ⟨rfl,B,C⟩;have D:=Za B;have A:=Za ((gO (R:=R) M.o).trans C);clear B C;have e1:w1.cell? ⟨PB,0,none⟩=some (.slice o bs.length cap):=(pR HB.o A.o G).cell 0 rfl;have e2:w1.cell? ⟨PN,0,none⟩=some (.int .i64 k):=(pR J.o A.o H).cell 0 rfl)
   |(go_at_call 13;refine(sC _ (bs.take k) _ ((DW HR.o T.o.at_ A.o).take k (by omega)) Z.o (by rw[List.length_take];omega)).mono ?_;rintro e w2 ⟨rfl,E⟩;rw[<-HY.o];have F:=Za (D.o.low (E.mono D.o.moved.size) (Zb _));clear E)
   |(go_at_call 24;refine(gG _ _).mono ?_;rintro e w' ⟨rfl,rfl⟩))
  all_goals
   go_wp2;go_end0;exact⟨F.o,.inl ⟨U.o,rfl⟩⟩
 ·have U:=Za (show mM bs=false by rw[L.o];simp[O]);have V:((x:Int)==(y:Int))=false:=beq_eq_false_iff_ne.2 (by omega);go_enter Tryz.func23,Tryz.ntmps23;go_region_with(first
   |(go_at_call 25;refine(vF N.o (n:=4) (by omega) Y.o).mono ?_;rintro e w1 ⟨rfl,B,C⟩;have D:=Za B;have A:=Za ((gO (R:=R) M.o).trans C);clear B C;have e1:w1.cell? ⟨PB,0,none⟩=some (.slice o bs.length cap):=(pR HB.o A.o G).cell 0 rfl;have e2:w1.cell? ⟨PN,0,none⟩=some (.int .i64 k):=(pR J.o A.o H).cell 0 rfl)
   |(go_at_call 13;refine(sC _ (bs.take k) _ ((DW HR.o T.o.at_ A.o).take k (by omega)) Z.o (by rw[List.length_take];omega)).mono ?_;rintro e w2 ⟨rfl,E⟩;rw[<-HY.o];have F:=Za (D.o.low (E.mono D.o.moved.size) (Zb _));clear E)
   |(go_at_call 24;refine(QH (by first|rfl|exact V)).mono ?_;rintro e w' ⟨rfl,rfl⟩;refine JV (P:=Tryz.prog) (w:=w2) ⟨rfl,F.o,.inr ⟨U.o,rfl⟩⟩ ?_))
  all_goals trivial
