/-
  A part of the proof of a law (packed by program).
-/
import Derived.Test.YtjhkdocidcfpdaaGreatDoorTM25
set_option linter.unusedVariables false
set_option linter.unusedSimpArgs false
set_option maxRecDepth 100000
set_option maxHeartbeats 16000000
namespace Go.Proofs.YtjhkdocidcfpdaaGreatDoor
open Go.RowKit Go.Shelf Go
def jK (n:aG):Bool:=decide (mR n.kind≠[])&&kE n.kind (gM n)&&decide (cS n.kind (gM n)=n)
mutual
def gZ (deep:Nat):aB→Bool
 |.mk n b=>jK n&&(bif decide (n.kind=13) then decide (deep≠4)&&eL (deep+1) b else decide (b.length=0))
def eL (deep:Nat):List aB→Bool
 |[]=>true
 |l::r=>gZ deep l&&eL deep r
end
theorem FL (deep:Nat) (l:aB):gZ deep l=(jK l.n&&(bif decide (l.n.kind=13) then decide (deep≠4)&&eL (deep+1) l.body else decide (l.body.length=0))):=by
 cases l with
 |mk n b=>rw[gZ,aB.body,aB.n]
theorem SB (deep:Nat) (ls:List aB) (h:∀j (hj:j<ls.length),gZ deep ls[j]=true):eL deep ls=true:=by
 induction ls with
 |nil=>rw[eL]
 |cons l r ih=>
  rw[eL,Bool.and_eq_true];exact⟨h 0 (by simp),ih fun j hj=>h (j+1) (by simpa using hj)⟩
theorem FE (deep:Nat) (ls:List aB) (k:Nat) (hk:k<ls.length) (h:gZ deep ls[k]=false):eL deep ls=false:=by
 induction ls generalizing k with
 |nil=>simp at hk
 |cons l r ih=>
  rw[eL,Bool.and_eq_false_iff];cases k with
  |zero=>exact .inl h
  |succ k=>exact .inr (ih k (by simpa using hk) h)
def rD (ls:List aB):Prop:=∀(deep:Nat) (v:Value) (w:World),bF w v ls→ls.length≤140737488351232→deep≤4→
 Calls Tryz.prog 109 #[v,.int .i64 deep] w fun e w'=>e=.returned (.bool (eL deep ls))∧Below w.heap.size w w'
theorem zZ {w4 W:World} {b o:Nat} {v0 v1 v2 v3 v4 v5 v6 v7 v8:Value} (hc:w4.cell? ⟨b,o,none⟩=some v0∧w4.cell? ⟨b,o+1,none⟩=some v1∧w4.cell? ⟨b,o+2,none⟩=some v2∧w4.cell? ⟨b,o+3,none⟩=some v3∧w4.cell? ⟨b,o+4,none⟩=some v4∧w4.cell? ⟨b,o+5,none⟩=some v5∧w4.cell? ⟨b,o+6,none⟩=some v6∧w4.cell? ⟨b,o+7,none⟩=some v7∧w4.cell? ⟨b,o+8,none⟩=some v8) (h:Below w4.heap.size w4 W):W.cell? ⟨b,o,none⟩=some v0∧W.cell? ⟨b,o+1,none⟩=some v1∧W.cell? ⟨b,o+2,none⟩=some v2∧W.cell? ⟨b,o+3,none⟩=some v3∧W.cell? ⟨b,o+4,none⟩=some v4∧W.cell? ⟨b,o+5,none⟩=some v5∧W.cell? ⟨b,o+6,none⟩=some v6∧W.cell? ⟨b,o+7,none⟩=some v7∧W.cell? ⟨b,o+8,none⟩=some v8:=⟨aT h hc.1,aT h hc.2.1,aT h hc.2.2.1,aT h hc.2.2.2.1,aT h hc.2.2.2.2.1,aT h hc.2.2.2.2.2.1,aT h hc.2.2.2.2.2.2.1,aT h hc.2.2.2.2.2.2.2.1,aT h hc.2.2.2.2.2.2.2.2⟩
theorem xG {w:World} {C:Nat} {T:TypeId} {u0 u1 u2 u3 u4 u5 u6 u7 u8 v0 v1 v2 v3 v4 v5 v6 v7 v8:Value} (h:aA w C T #[u0,u1,u2,u3,u4,u5,u6,u7,u8]):aA (((((((((w.setCell ⟨C,0,none⟩ v0).setCell ⟨C,1,none⟩ v1).setCell ⟨C,2,none⟩ v2).setCell ⟨C,3,none⟩ v3).setCell ⟨C,4,none⟩ v4).setCell ⟨C,5,none⟩ v5).setCell ⟨C,6,none⟩ v6).setCell ⟨C,7,none⟩ v7).setCell ⟨C,8,none⟩ v8) C T #[v0,v1,v2,v3,v4,v5,v6,v7,v8]:=by have h0:aA _ C T #[v0,u1,u2,u3,u4,u5,u6,u7,u8]:=h.set 0 v0;have h1:aA _ C T #[v0,v1,u2,u3,u4,u5,u6,u7,u8]:=h0.set 1 v1;have h2:aA _ C T #[v0,v1,v2,u3,u4,u5,u6,u7,u8]:=h1.set 2 v2;have h3:aA _ C T #[v0,v1,v2,v3,u4,u5,u6,u7,u8]:=h2.set 3 v3;have h4:aA _ C T #[v0,v1,v2,v3,v4,u5,u6,u7,u8]:=h3.set 4 v4;have h5:aA _ C T #[v0,v1,v2,v3,v4,v5,u6,u7,u8]:=h4.set 5 v5;have h6:aA _ C T #[v0,v1,v2,v3,v4,v5,v6,u7,u8]:=h5.set 6 v6;have h7:aA _ C T #[v0,v1,v2,v3,v4,v5,v6,v7,u8]:=h6.set 7 v7;exact h7.set 8 v8
theorem R1 (n:aG):(gM n).length≤100000:=by rw[vR];have:=yP n.kind;omega
theorem C9 (ls:List aB) (hall:∀l∈ls,rD l.body):rD ls:=by
 intro deep v w hr hl hd4;obtain⟨o,cap,rfl⟩:=hr.len;have HR:=Za hr;have HALL:=Za hall;clear hr hall;obtain⟨d,hd⟩:∃d,d=eL deep ls:=⟨_,rfl⟩;rw[←hd];have HD:=Za hd;clear hd;go_enter Tryz.func109,Tryz.ntmps109;go_wp2;go_loopw[5] (fun i wr=>∃(k:Nat),k≤ls.length∧i=.int .i64 k∧Hid (∀j (hj:j<ls.length),j<k→gZ deep ls[j]=true)∧Below w.heap.size w wr) (fun i _=>ls.length-(intOf i).toNat)
 case atStart=>exact⟨0,Ze _,rfl,Za (fun j hj h=>absurd h (Nat.not_lt_zero j)),Zc _ _⟩
 case round=>
  obtain⟨k,hk,rfl,HA,hB⟩:=hrel;obtain⟨w3,rfl⟩:∃w3,w3=wr:=⟨_,rfl⟩;have HB:=Za hB;clear hB;by_cases hlt:k<ls.length
  ·obtain⟨b,off,vb,rfl,hc1,hla,hma⟩:=(HR.o.below HB.o (Zb _)).lay k hlt;have HQ:=Za (HALL.o _ (List.getElem_mem hlt));have HNO:=Za (fun h=>HD.o.trans (FE deep ls k hlt h));have HME:=Za (FL deep ls[k]);have HAN:=Za (fun(h:gZ deep ls[k]=true)=>show ∀j (hj:j<ls.length),j<k+1→gZ deep ls[j]=true from fun j hj h2=>by
    by_cases e:j=k
    ·subst e;exact h
    ·exact HA.o j hj (by omega))
   generalize ls[k]=x at hc1 hla hma HQ HNO HME HAN;obtain⟨n,body⟩:=x;simp only[aB.n,aB.body]at hc1 hla hma HQ HME;have HLA:=Za hla;obtain⟨o5,c5,rfl⟩:=hla.len;have a0:=hc1 0 _ rfl;have a1:=hc1 1 _ rfl;have a2:=hc1 2 _ rfl;have a3:=hc1 3 _ rfl;have a4:=hc1 4 _ rfl;have a5:=hc1 5 _ rfl;have a6:=hc1 6 _ rfl;have a7:=hc1 7 _ rfl;have a8:=hc1 8 _ rfl;simp only[Nat.add_zero]at a0;clear hc1 hla;have HC0:=Za (Zd a0 (Zd a1 (Zd a2 (Zd a3 (Zd a4 (Zd a5 (Zd a6 (Zd a7 a8))))))));have HX:=Za (show Below w3.heap.size w3 w3.drew from Below.drew (Zc _ _));cases hnm:mR n.kind with
   |nil=>
    have HF:=Za (HNO.o (by rw[HME.o,jK,hnm];rfl));have HNM:=Za (fun w=>hnm▸BJ n.kind w);clear hnm;go_wp2_with fail;go_quiet(first|(go_at_call 144;exact Calls.quiet_of ((HNM.o _).mono fun _ _ h=>⟨h.1,h.2▸aN.refl _⟩)));go_wp2_with fail;go_ret;exact⟨aF HF.o.symm,HB.o.trans ((show aN w3 _ from⟨_,rfl⟩).below _)⟩
   |cons nb nr=>
    have HNE:=Za (show mR n.kind≠[] by rw[hnm];simp);have HNM:=Za (fun w=>hnm▸BJ n.kind w);clear hnm;go_wp2_with fail;go_region_held3 (fun w'=>w'.cell? ⟨b,off+k*9,none⟩=some (.int .i64 n.kind)∧w'.cell? ⟨b,off+k*9+1,none⟩=some (.int .i64 n.inn)∧w'.cell? ⟨b,off+k*9+2,none⟩=some (.int .i64 n.o)∧w'.cell? ⟨b,off+k*9+3,none⟩=some (.int .i64 n.size)∧w'.cell? ⟨b,off+k*9+4,none⟩=some (.int .i64 n.stride)∧w'.cell? ⟨b,off+k*9+5,none⟩=some (.int .i64 n.pad)∧w'.cell? ⟨b,off+k*9+6,none⟩=some (.int .i64 n.percent)∧w'.cell? ⟨b,off+k*9+7,none⟩=some (.int .i64 n.heads)∧w'.cell? ⟨b,off+k*9+8,none⟩=some (.slice o5 body.length c5))
     (exact⟨aT HX.o HC0.o.1,aT HX.o HC0.o.2.1,aT HX.o HC0.o.2.2.1,aT HX.o HC0.o.2.2.2.1,aT HX.o HC0.o.2.2.2.2.1,aT HX.o HC0.o.2.2.2.2.2.1,aT HX.o HC0.o.2.2.2.2.2.2.1,aT HX.o HC0.o.2.2.2.2.2.2.2.1,aT HX.o HC0.o.2.2.2.2.2.2.2.2⟩)
     (first
     |(go_at_call 144;refine(HNM.o _).mono ?_;rintro e wy ⟨rfl,hwy⟩;have HX:=Za (show Below w3.heap.size w3 wy by rw[←hwy];exact HX.o);clear hwy)
     |(go_at_call 146;refine(wE n (.slice o5 body.length c5) _).mono ?_;rintro e wy ⟨⟨u,rfl,hu⟩,hby⟩;have HU:=Za (Rd.of_own hu);have HX:=Za (HX.o.trans (hby.mono HX.o.size));clear hu hby)
     |(go_at_call 145;refine(RY n.kind u (gM n) _ HU.o (R1 n)).mono ?_;rintro e wy ⟨rfl,hby⟩;have HX:=Za (HX.o.trans (hby.mono HX.o.size));clear hby))
    clear a0 a1 a2 a3 a4 a5 a6 a7 a8;obtain⟨w4,hw4⟩:∃w4,w4=wy:=⟨_,rfl⟩;rw[←hw4];have HB4:=Za (show Below w.heap.size w w4 by rw[hw4];exact HB.o.trans (HX.o.mono HB.o.size));have HLA4:=Za (show bF w4 (.slice o5 body.length c5) body by rw[hw4];exact HLA.o.next HX.o);have hc4:w4.cell? ⟨b,off+k*9,none⟩=some (.int .i64 n.kind)∧w4.cell? ⟨b,off+k*9+1,none⟩=some (.int .i64 n.inn)∧w4.cell? ⟨b,off+k*9+2,none⟩=some (.int .i64 n.o)∧w4.cell? ⟨b,off+k*9+3,none⟩=some (.int .i64 n.size)∧w4.cell? ⟨b,off+k*9+4,none⟩=some (.int .i64 n.stride)∧w4.cell? ⟨b,off+k*9+5,none⟩=some (.int .i64 n.pad)∧w4.cell? ⟨b,off+k*9+6,none⟩=some (.int .i64 n.percent)∧w4.cell? ⟨b,off+k*9+7,none⟩=some (.int .i64 n.heads)∧w4.cell? ⟨b,off+k*9+8,none⟩=some (.slice o5 body.length c5):=by rw[hw4];exact⟨aT HX.o HC0.o.1,aT HX.o HC0.o.2.1,aT HX.o HC0.o.2.2.1,aT HX.o HC0.o.2.2.2.1,aT HX.o HC0.o.2.2.2.2.1,aT HX.o HC0.o.2.2.2.2.2.1,aT HX.o HC0.o.2.2.2.2.2.2.1,aT HX.o HC0.o.2.2.2.2.2.2.2.1,aT HX.o HC0.o.2.2.2.2.2.2.2.2⟩
    have HC4:=Za hc4;obtain⟨a0,a1,a2,a3,a4,a5,a6,a7,a8⟩:=hc4;have HX:=Za (show Below w4.heap.size w4 w4.drew from Below.drew (Zc _ _));clear hw4;cases hfit:kE n.kind (gM n)with
    |false=>
     have HF:=Za (HNO.o (by rw[HME.o,jK,hfit,Bool.and_false];rfl));clear hfit;go_wp2_with fail;go_ret;exact⟨aF HF.o.symm,HB4.o⟩
    |true=>
     have HFIT:=Za hfit;clear hfit;obtain⟨m,hm⟩:∃m,m=cS n.kind (gM n):=⟨_,rfl⟩;have HM:=Za hm;have HMV:=Za (show((cS n.kind (gM n)).cells (.slice none 0 0)).toArray=#[.int .i64 m.kind,.int .i64 m.inn,.int .i64 m.o,.int .i64 m.size,.int .i64 m.stride,.int .i64 m.pad,.int .i64 m.percent,.int .i64 m.heads,.slice none 0 0] by rw[←hm];rfl);clear hm;have zl:∀X:World,aA (X.alloc (.cells (madeCells (Value.agg (bM.cells (.slice none 0 0)).toArray).cells 9) 175)) X.heap.size 175 _:=fun X=>aA.new X _ _;have HZL:=Za zl;clear zl;go_wp2_with fail
     go_cut[6] (fun x6 wx=>∃lb,x6=.pointer (some ⟨lb,0,none⟩)∧w4.heap.size≤lb∧aA wx lb 175 #[.int .i64 m.kind,.int .i64 m.inn,.int .i64 m.o,.int .i64 m.size,.int .i64 m.stride,.int .i64 m.pad,.int .i64 m.percent,.int .i64 m.heads,.slice none 0 0]∧Below w4.heap.size w4 wx)
     case first=>
      go_region_held3 (fun w'=>w'.cell? ⟨b,off+k*9,none⟩=some (.int .i64 n.kind)∧w'.cell? ⟨b,off+k*9+1,none⟩=some (.int .i64 n.inn)∧w'.cell? ⟨b,off+k*9+2,none⟩=some (.int .i64 n.o)∧w'.cell? ⟨b,off+k*9+3,none⟩=some (.int .i64 n.size)∧w'.cell? ⟨b,off+k*9+4,none⟩=some (.int .i64 n.stride)∧w'.cell? ⟨b,off+k*9+5,none⟩=some (.int .i64 n.pad)∧w'.cell? ⟨b,off+k*9+6,none⟩=some (.int .i64 n.percent)∧w'.cell? ⟨b,off+k*9+7,none⟩=some (.int .i64 n.heads)∧w'.cell? ⟨b,off+k*9+8,none⟩=some (.slice o5 body.length c5))
       ((refine zZ HC4.o ?_;(repeat(first|with_reducible exact HX.o|with_reducible exact Zc _ _|with_reducible refine Below.drew ?_|with_reducible refine Below.alloc ?_ (by first|with_reducible exact HX.o.size|with_reducible exact HXA.o.size|simp) _|with_reducible refine Below.setCell ?_ (by first|with_reducible exact HX.o.size|with_reducible exact HXA.o.size|simp) _))))
       (first
       |(go_at_call 146;refine(wE n (.slice o5 body.length c5) _).mono ?_;rintro e wa ⟨⟨u2,rfl,hu⟩,hby⟩;have HU2:=Za (Rd.of_own hu);(first|with_reducible (have HL:=Za (aA.next (aA.next (aA.new w4 175 _) (Below.drew (Zc _ _))) hby))|skip);have HX:=Za (show Below w4.heap.size w4 wa from Below.trans (by(repeat(first|with_reducible exact HX.o|with_reducible exact Zc _ _|with_reducible refine Below.drew ?_|with_reducible refine Below.alloc ?_ (by first|with_reducible exact HX.o.size|with_reducible exact HXA.o.size|simp) _|with_reducible refine Below.setCell ?_ (by first|with_reducible exact HX.o.size|with_reducible exact HXA.o.size|simp) _))) (hby.mono (Below.size (B:=w4.heap.size) (w:=w4) (by(repeat(first|with_reducible exact HX.o|with_reducible exact Zc _ _|with_reducible refine Below.drew ?_|with_reducible refine Below.alloc ?_ (by first|with_reducible exact HX.o.size|with_reducible exact HXA.o.size|simp) _|with_reducible refine Below.setCell ?_ (by first|with_reducible exact HX.o.size|with_reducible exact HXA.o.size|simp) _))))));have HXA:=HX;clear hu hby)
       |(go_at_call 147;refine(SQ n.kind u2 (gM n) _ (by first|exact HU2.o|exact HU2.o.alloc _) (vR n)).mono ?_;rintro e wb ⟨rfl,hby⟩;rw[HMV.o];(first|(have HL:=Za (aA.next HL.o hby);have z0:=HL.o.q 0 rfl;have f0:=HL.o.free 0;have z1:=HL.o.q 1 rfl;have f1:=HL.o.free 1;have z2:=HL.o.q 2 rfl;have f2:=HL.o.free 2;have z3:=HL.o.q 3 rfl;have f3:=HL.o.free 3;have z4:=HL.o.q 4 rfl;have f4:=HL.o.free 4;have z5:=HL.o.q 5 rfl;have f5:=HL.o.free 5;have z6:=HL.o.q 6 rfl;have f6:=HL.o.free 6;have z7:=HL.o.q 7 rfl;have f7:=HL.o.free 7;have z8:=HL.o.q 8 rfl;have f8:=HL.o.free 8)|(with_reducible (have HL:=Za (aA.next (aA.new wa 175 _) hby));have z0:=HL.o.q 0 rfl;have f0:=HL.o.free 0;have z1:=HL.o.q 1 rfl;have f1:=HL.o.free 1;have z2:=HL.o.q 2 rfl;have f2:=HL.o.free 2;have z3:=HL.o.q 3 rfl;have f3:=HL.o.free 3;have z4:=HL.o.q 4 rfl;have f4:=HL.o.free 4;have z5:=HL.o.q 5 rfl;have f5:=HL.o.free 5;have z6:=HL.o.q 6 rfl;have f6:=HL.o.free 6;have z7:=HL.o.q 7 rfl;have f7:=HL.o.free 7;have z8:=HL.o.q 8 rfl;have f8:=HL.o.free 8)|skip);have HX:=Za (show Below w4.heap.size w4 wb from Below.trans (by(repeat(first|with_reducible exact HX.o|with_reducible exact Zc _ _|with_reducible refine Below.drew ?_|with_reducible refine Below.alloc ?_ (by first|with_reducible exact HX.o.size|with_reducible exact HXA.o.size|simp) _|with_reducible refine Below.setCell ?_ (by first|with_reducible exact HX.o.size|with_reducible exact HXA.o.size|simp) _))) (hby.mono (Below.size (B:=w4.heap.size) (w:=w4) (by(repeat(first|with_reducible exact HX.o|with_reducible exact Zc _ _|with_reducible refine Below.drew ?_|with_reducible refine Below.alloc ?_ (by first|with_reducible exact HX.o.size|with_reducible exact HXA.o.size|simp) _|with_reducible refine Below.setCell ?_ (by first|with_reducible exact HX.o.size|with_reducible exact HXA.o.size|simp) _))))));clear hby))
      ·go_wp2_with fail;go_meet;exact⟨_,rfl,HX.o.size,aA.new _ _ _,HX.o.alloc HX.o.size _⟩
      ·go_wp2_with fail;go_meet;refine⟨_,rfl,HXA.o.size,xG HL.o,?_⟩
       (repeat(first|with_reducible exact HX.o|with_reducible refine Below.alloc ?_ (by first|with_reducible exact HX.o.size|with_reducible exact HXA.o.size|simp) _|with_reducible refine Below.setCell ?_ (by first|with_reducible exact HX.o.size|with_reducible exact HXA.o.size|simp) _))
      ·go_wp2_with fail;go_meet;refine⟨_,rfl,Zb _,xG HL.o,?_⟩
       (repeat(first|with_reducible exact HX.o|with_reducible refine Below.alloc ?_ (by first|with_reducible exact HX.o.size|with_reducible exact HXA.o.size|simp) _|with_reducible refine Below.setCell ?_ (by first|with_reducible exact HX.o.size|with_reducible exact HXA.o.size|simp) _))
     case rest=>
      clear a0 a1 a2 a3 a4 a5 a6 a7 a8 HX;obtain⟨lb,rfl,hlb,hbx,hb5⟩:=hcut;obtain⟨w5,rfl⟩:∃w5,w5=wc:=⟨_,rfl⟩;have a8:=aT hb5 HC4.o.2.2.2.2.2.2.2.2;have z8:=hbx.q 8 rfl;have f8:=hbx.free 8;obtain⟨w6,hw6⟩:∃w6,w6=w5.setCell ⟨lb,8,none⟩ (.slice o5 body.length c5):=⟨_,rfl⟩;have hbx6:aA w6 lb 175 #[.int .i64 m.kind,.int .i64 m.inn,.int .i64 m.o,.int .i64 m.size,.int .i64 m.stride,.int .i64 m.pad,.int .i64 m.percent,.int .i64 m.heads,(.slice o5 body.length c5)]:=by rw[hw6];exact hbx.set 8 _
      have hb6:Below w4.heap.size w4 w6:=by rw[hw6];exact hb5.setCell (p:=⟨lb,8,none⟩) hlb _
      have HBX6:=Za hbx6;have HB6:=Za hb6;have HW6:=Za hw6;clear hbx hb5 hw6;go_wp2_with fail;rw[←HW6.o];clear a8 z8 f8;have hz:w6.cell? ⟨lb,0,none⟩=some (.int .i64 m.kind)∧w6.cell? ⟨lb,1,none⟩=some (.int .i64 m.inn)∧w6.cell? ⟨lb,2,none⟩=some (.int .i64 m.o)∧w6.cell? ⟨lb,3,none⟩=some (.int .i64 m.size)∧w6.cell? ⟨lb,4,none⟩=some (.int .i64 m.stride)∧w6.cell? ⟨lb,5,none⟩=some (.int .i64 m.pad)∧w6.cell? ⟨lb,6,none⟩=some (.int .i64 m.percent)∧w6.cell? ⟨lb,7,none⟩=some (.int .i64 m.heads)∧w6.cell? ⟨lb,8,none⟩=some (.slice o5 body.length c5):=⟨hbx6.cell 0 rfl,hbx6.cell 1 rfl,hbx6.cell 2 rfl,hbx6.cell 3 rfl,hbx6.cell 4 rfl,hbx6.cell 5 rfl,hbx6.cell 6 rfl,hbx6.cell 7 rfl,hbx6.cell 8 rfl⟩;have ha:w6.cell? ⟨b,off+k*9,none⟩=some (.int .i64 n.kind)∧w6.cell? ⟨b,off+k*9+1,none⟩=some (.int .i64 n.inn)∧w6.cell? ⟨b,off+k*9+2,none⟩=some (.int .i64 n.o)∧w6.cell? ⟨b,off+k*9+3,none⟩=some (.int .i64 n.size)∧w6.cell? ⟨b,off+k*9+4,none⟩=some (.int .i64 n.stride)∧w6.cell? ⟨b,off+k*9+5,none⟩=some (.int .i64 n.pad)∧w6.cell? ⟨b,off+k*9+6,none⟩=some (.int .i64 n.percent)∧w6.cell? ⟨b,off+k*9+7,none⟩=some (.int .i64 n.heads)∧w6.cell? ⟨b,off+k*9+8,none⟩=some (.slice o5 body.length c5):=zZ HC4.o hb6;have HC6:=Za ha;have HZ6:=Za hz;obtain⟨z0,z1,z2,z3,z4,z5,z6,z7,z8⟩:=hz;obtain⟨a0,a1,a2,a3,a4,a5,a6,a7,a8⟩:=ha;have HC7:=Za (Zd z0 (Zd z1 (Zd z2 (Zd z3 (Zd z4 (Zd z5 (Zd z6 (Zd z7 (Zd z8 (HC6.o))))))))));have HX:=Za (show Below w6.heap.size w6 w6.drew from Below.drew (Zc _ _));have HLA6:=Za (HLA4.o.below hb6 (Zb _));clear hbx6 hb6;go_wp2_with fail;go_region_held3 (fun w'=>w'.cell? ⟨lb,0,none⟩=some (.int .i64 m.kind)∧w'.cell? ⟨lb,1,none⟩=some (.int .i64 m.inn)∧w'.cell? ⟨lb,2,none⟩=some (.int .i64 m.o)∧w'.cell? ⟨lb,3,none⟩=some (.int .i64 m.size)∧w'.cell? ⟨lb,4,none⟩=some (.int .i64 m.stride)∧w'.cell? ⟨lb,5,none⟩=some (.int .i64 m.pad)∧w'.cell? ⟨lb,6,none⟩=some (.int .i64 m.percent)∧w'.cell? ⟨lb,7,none⟩=some (.int .i64 m.heads)∧w'.cell? ⟨lb,8,none⟩=some (.slice o5 body.length c5)∧w'.cell? ⟨b,off+k*9,none⟩=some (.int .i64 n.kind)∧w'.cell? ⟨b,off+k*9+1,none⟩=some (.int .i64 n.inn)∧w'.cell? ⟨b,off+k*9+2,none⟩=some (.int .i64 n.o)∧w'.cell? ⟨b,off+k*9+3,none⟩=some (.int .i64 n.size)∧w'.cell? ⟨b,off+k*9+4,none⟩=some (.int .i64 n.stride)∧w'.cell? ⟨b,off+k*9+5,none⟩=some (.int .i64 n.pad)∧w'.cell? ⟨b,off+k*9+6,none⟩=some (.int .i64 n.percent)∧w'.cell? ⟨b,off+k*9+7,none⟩=some (.int .i64 n.heads)∧w'.cell? ⟨b,off+k*9+8,none⟩=some (.slice o5 body.length c5))
       (exact⟨aT HX.o HC7.o.1,aT HX.o HC7.o.2.1,aT HX.o HC7.o.2.2.1,aT HX.o HC7.o.2.2.2.1,aT HX.o HC7.o.2.2.2.2.1,aT HX.o HC7.o.2.2.2.2.2.1,aT HX.o HC7.o.2.2.2.2.2.2.1,aT HX.o HC7.o.2.2.2.2.2.2.2.1,aT HX.o HC7.o.2.2.2.2.2.2.2.2.1,aT HX.o HC7.o.2.2.2.2.2.2.2.2.2.1,aT HX.o HC7.o.2.2.2.2.2.2.2.2.2.2.1,aT HX.o HC7.o.2.2.2.2.2.2.2.2.2.2.2.1,aT HX.o HC7.o.2.2.2.2.2.2.2.2.2.2.2.2.1,aT HX.o HC7.o.2.2.2.2.2.2.2.2.2.2.2.2.2.1,aT HX.o HC7.o.2.2.2.2.2.2.2.2.2.2.2.2.2.2.1,aT HX.o HC7.o.2.2.2.2.2.2.2.2.2.2.2.2.2.2.2.1,aT HX.o HC7.o.2.2.2.2.2.2.2.2.2.2.2.2.2.2.2.2.1,aT HX.o HC7.o.2.2.2.2.2.2.2.2.2.2.2.2.2.2.2.2.2⟩)
       (first
       |(go_at_call 138;refine(NJ m n body body (.slice o5 body.length c5) (.slice o5 body.length c5) _ (HLA6.o.next HX.o) (HLA6.o.next HX.o) hma hma).mono ?_;rintro e wq ⟨⟨r,rfl,hr⟩,hby⟩;have HR2:=Za hr;have HX:=Za (HX.o.trans (hby.mono HX.o.size));clear hby hr))
      clear a0 a1 a2 a3 a4 a5 a6 a7 a8 z0 z1 z2 z3 z4 z5 z6 z7 z8;have HBQ:=Za (show Below w.heap.size w wq from HB4.o.trans ((HB6.o.trans (HX.o.mono HB6.o.size)).mono HB4.o.size));cases r with
      |false=>
       have HF:=Za (HNO.o (by
        have:¬cS n.kind (gM n)=n:=fun e=>Bool.noConfusion (HR2.o.2 ⟨HM.o.trans e,by first|exact trivial|exact rfl⟩);rw[HME.o,jK,decide_eq_false this,Bool.and_false];rfl))
       go_wp2_with fail;go_ret;exact⟨aF HF.o.symm,HBQ.o⟩
      |true=>
       have HLEAF:=Za (show jK n=true by
        rw[jK,HFIT.o,decide_eq_true HNE.o,decide_eq_true (HM.o.symm.trans (HR2.o.1 rfl).1)];rfl)
       have a0:=aT HX.o HC6.o.1;have a8:=aT HX.o HC6.o.2.2.2.2.2.2.2.2;have HLAQ:=Za (HLA6.o.next HX.o);by_cases h13:n.kind=13
       ·have hb13:(n.kind != 13)=false:=by simp[h13]
        have HD2:=Za (show gZ deep (.mk n body)=(decide (deep≠4)&&eL (deep+1) body) by rw[HME.o,HLEAF.o];simp[h13]);clear h13;by_cases hd4':deep=4
        ·have hdd:((deep:Int)==4)=true:=by simp;omega
         have HF:=Za (HNO.o (by rw[HD2.o,decide_eq_false (by omega)];rfl));clear hd4';go_wp2_with fail;go_ret;exact⟨aF HF.o.symm,HBQ.o⟩
        ·have hdd:((deep:Int)==4)=false:=by simp;omega
         have hw1:IntKind.i64.wrap ((deep:Int)+1)=((deep+1:Nat):Int):=by rw[IntKind.wrap_i64];omega
         have HD3:=Za (show gZ deep (.mk n body)=eL (deep+1) body by rw[HD2.o,decide_eq_true hd4'];rfl);have HCL:=Za (HQ.o (deep+1) (.slice o5 body.length c5) wq HLAQ.o hma (by omega));clear hd4';go_wp2_with(go_at_call 109;refine HCL.o.mono ?_;rintro e w8 ⟨rfl,hb8⟩;refine aD ?_);have HB8:=Za (HBQ.o.trans (hb8.mono HBQ.o.size));clear hb8;refine aC ?_;cases hres:eL (deep+1) body with
         |false=>
          have HF:=Za (HNO.o (HD3.o.trans hres));clear hres;go_wp2;go_ret;exact⟨aF HF.o.symm,HB8.o⟩
         |true=>
          have HT:=Za (HAN.o (HD3.o.trans hres));clear hres;go_wp2;go_roundw
          case rel=>exact⟨k+1,by omega,by go_num,HT,HB8.o⟩
          case measure=>simp[intOf];omega
       ·have hb13:(n.kind != 13)=true:=by simp[h13]
        have HD2:=Za (show gZ deep (.mk n body)=decide (body.length=0) by rw[HME.o,HLEAF.o];simp[h13]);clear h13;by_cases hbl:0<body.length
        ·have HF:=Za (HNO.o (by rw[HD2.o,decide_eq_false (by omega)]));go_wp2_with fail;go_ret;exact⟨aF HF.o.symm,HBQ.o⟩
        ·have HT:=Za (HAN.o (by rw[HD2.o,decide_eq_true (by omega)]));go_wp2_with fail;go_roundw
         case rel=>exact⟨k+1,by omega,by go_num,HT,HBQ.o⟩
         case measure=>simp[intOf];omega
  ·obtain rfl:k=ls.length:=by omega
   have HY:=Za (HD.o.trans (SB deep ls fun j hj=>HA.o j hj hj));go_wp2;go_ret;exact⟨aF HY.o.symm,HB.o⟩
theorem J8:∀l:aB,rD l.body:=aB.ind fun n body h=>C9 body h
theorem FZ (ls:List aB):rD ls:=C9 ls fun l _=>J8 l
def nO:Nat→Nat
 |0=>0
 |n+1=>64*(1+nO n)
def pL (ls:List aB):Prop:=∀n:Nat,fY ((n:Int)-1) ls=true→aR ls≤nO n
theorem JE (n:Nat) (ls:List aB) (hall:∀l∈ls,pL l.body) (h:iS ((n+1:Nat)-1:Int) ls=true):aR ls≤ls.length*(1+nO n):=by
 induction ls with
 |nil=>simp[aR]
 |cons l r ih=>
  rw[iS,Bool.and_eq_true]at h;have h1:=ih (fun x hx=>hall x (List.mem_cons_of_mem _ hx)) h.2;have h2:aR l.body≤nO n:=by
   have hd:=h.1;rw[zG,Bool.or_eq_true,decide_eq_true_eq]at hd;rcases hd with hd|hd
   ·rw[List.length_eq_zero_iff.1 hd,aR];omega
   ·refine hall l (by simp) n ?_;rw[show((n+1:Nat)-1:Int)-1=(n:Int)-1 by omega]at hd;exact hd
  rw[aR,aB.count_eq,List.length_cons,Nat.succ_mul];omega
theorem zN (ls:List aB) (hall:∀l∈ls,pL l.body):pL ls:=by
 intro n h;have hh:=h;rw[fY,Bool.and_eq_true,Bool.and_eq_true,decide_eq_true_eq,decide_eq_true_eq]at hh;obtain⟨⟨h0,h64⟩,hL⟩:=hh;cases n with
 |zero=>omega
 |succ n=>
  have:=JE n ls hall hL;rw[nO];exact Nat.le_trans this (Nat.mul_le_mul_right _ h64)
theorem NI:∀l:aB,pL l.body:=aB.ind fun n body h=>zN body h
theorem PL (ls:List aB):pL ls:=zN ls fun l _=>NI l
theorem LH (ls:List aB) (h:fY 4 ls=true):aR ls≤1000000000000000:=by
 have:=PL ls 5 h;have h5:nO 5≤1000000000000000:=by simp[nO]
 omega
def jO (d:bE):Bool:=lR d.input&&kG d.loss&&fY 4 d.lays&&decide (aR d.lays≤64)&&eL 0 d.lays
theorem KV (vi vl:Value) (d:bE) (w:World) (h:eJ w vi vl d):
  Calls Tryz.prog 55 #[.agg #[vi,vl,.int .i64 d.loss]] w fun e w'=>e=.returned (.bool (jO d))∧Below w.heap.size w w':=by
 obtain⟨input,lays,loss⟩:=d;have HI:=Za h.input;have HL:=Za h.lays;have hl1:=h.lim1;have HL2:=Za h.lim2;obtain⟨oi,ci,rfl⟩:=aU h.input;obtain⟨ol,cl,rfl⟩:=h.lays.len;clear h;simp only at HI HL hl1 HL2 ⊢;by_cases hn:1≤input.length∧input.length≤3
 ·obtain⟨hn1,hn3⟩:=hn;cases hls:kG loss with
  |false=>
   have HG:=Za (show jO ⟨input,lays,loss⟩=false by rw[jO,hls,Bool.and_false];rfl);have h1:¬loss=1:=by intro e;subst e;simp[kG]at hls
   have h2:¬loss=2:=by intro e;subst e;simp[kG]at hls
   have b1:(loss != 1)=true:=by simpa using h1
   have b2:(loss != 2)=true:=by simpa using h2
   clear hls h1 h2;go_enter Tryz.func55,Tryz.ntmps55;go_wp2
   all_goals
    go_ret;exact⟨aF HG.o.symm,(Zc _ _).alloc (Zb _) _⟩
  |true=>
   have HLS:=Za hls;have h12:loss=1∨loss=2:=by simpa [kG]using hls
   clear hls;obtain⟨gd,hgd⟩:∃gd,gd=jO ⟨input,lays,loss⟩:=⟨_,rfl⟩;have HGI:=Za (show input.all bW=false→gd=false from fun h=>by rw[hgd,jO,lR,h,Bool.and_false];rfl);have HGP:=Za (show fY 4 lays=false→gd=false from fun h=>by rw[hgd,jO,h,Bool.and_false];rfl);have HGT:=Za (show input.all bW=true→fY 4 lays=true→gd=(decide (aR lays≤64)&&eL 0 lays)from fun h h2=>by rw[hgd,jO,lR,h,h2,HLS.o,decide_eq_true hn1,decide_eq_true hn3];rfl);rw[←hgd];clear hgd HLS;obtain⟨W,hW⟩:∃W,W=w.alloc (.cells #[.slice oi input.length ci,.slice ol lays.length cl,.int .i64 loss] 33):=⟨_,rfl⟩;have hbx:aA W w.heap.size 33 #[.slice oi input.length ci,.slice ol lays.length cl,.int .i64 loss]:=by rw[hW];exact aA.new _ _ _
   have hB:Below w.heap.size w W:=by rw[hW];exact(Zc _ _).alloc (Zb _) _
   have HBX:=Za hbx;have HB:=Za hB;have HW:=Za hW;have c0:=hbx.cell 0 rfl;have c1:=hbx.cell 1 rfl;have HDE:=Za (M7 lays 4 _ W (HL.o.next hB) HL2.o (by omega));clear hW hbx hB;have main:Calls Tryz.prog 55 #[.agg #[.slice oi input.length ci,.slice ol lays.length cl,.int .i64 loss]] w fun e w'=>e=.returned (.bool gd)∧Below w.heap.size w w':=by
    cases hdp:fY 4 lays with
    |false=>
     have HG:=Za (HGP.o hdp);have HDE2:=Za (hdp▸HDE.o);clear hdp HDE;rcases h12 with rfl|rfl
     all_goals
      go_enter Tryz.func55,Tryz.ntmps55;go_wp2_with(rw[←HW.o];go_at_call 107;refine HDE2.o.mono ?_;rintro e w8 ⟨rfl,rfl⟩;refine aD ?_);refine aC ?_;go_wp2;go_ret;exact⟨aF HG.o.symm,HB.o⟩
    |true=>
     have HC:=Za (LH lays hdp);have HG1:=Za (fun h=>HGT.o h hdp);have HDE2:=Za (hdp▸HDE.o);clear hdp HDE;rcases h12 with rfl|rfl
     all_goals
      go_enter Tryz.func55,Tryz.ntmps55;go_wp2_with(rw[←HW.o];go_at_call 107;refine HDE2.o.mono ?_;rintro e w8 ⟨rfl,rfl⟩;refine aD ?_);refine aC ?_;go_wp2;go_loopw[3] (fun i wr=>∃k:Nat,k≤input.length∧i=.int .i64 k∧Hid ((input.take k).all bW=true)∧wr=W) (fun i _=>input.length-(intOf i).toNat)
      case atStart=>exact⟨0,Ze _,rfl,Za rfl,rfl⟩
      case round=>
       obtain⟨k,hk,rfl,HA,rfl⟩:=hrel;by_cases hlt:k<input.length
       ·obtain⟨b,off,rfl,hc⟩:=(HI.o.below HB.o (Zb _)).cell k hlt;cases hd:bW (aE input k)with
        |false=>
         have HG:=Za (HGI.o (nE _ _ k hlt hd));have hdd:=(tB _).1 hd;clear hd;rcases hdd with h1|h1
         ·go_wp2;go_ret;exact⟨aF HG.o.symm,HB.o⟩
         ·have h0:¬aE input k<1:=by omega
          go_wp2;go_ret;exact⟨aF HG.o.symm,HB.o⟩
        |true=>
         have HA2:=Za (show(input.take (k+1)).all bW=true by rw[oE _ _ _ hlt,HA.o,hd];rfl);obtain⟨hd1,hd2⟩:=(lG _).1 hd;clear hd;go_wp2;go_roundw
         case rel=>exact⟨k+1,by omega,by go_num,HA2,by first|trivial|rfl⟩
         case measure=>simp[intOf];omega
       ·obtain rfl:k=input.length:=by omega
        have HA2:=Za (show input.all bW=true by rw[←List.take_length (l:=input)];exact HA.o);have HG:=Za (HG1.o HA2.o);have HCC:=Za (GR lays _ _ (HL.o.next HB.o) HL2.o HC.o);have HLL:=Za (FZ lays 0 _ _ (HL.o.next HB.o) HL2.o (by omega));obtain⟨q,hq⟩:∃q:Nat,q=aR lays:=⟨_,rfl⟩;rw[←hq]at HCC HG;clear hq;by_cases hq64:q≤64
        ·have HG2:=Za (show gd=eL 0 lays by rw[HG.o,decide_eq_true hq64];rfl);go_wp2_with(first
          |(go_at_call 108;refine HCC.o.mono ?_;rintro e w8 ⟨rfl,hw8⟩;subst hw8)
          |(go_at_call 109;refine HLL.o.mono ?_;rintro e w8 ⟨rfl,hb8⟩;refine aD ?_))
         have HB8:=Za (HB.o.trans (hb8.mono HB.o.size));clear hb8;refine aC ?_;go_wp2;go_ret;exact⟨aF HG2.o.symm,HB8.o⟩
        ·have HG2:=Za (show gd=false by rw[HG.o,decide_eq_false hq64];rfl);go_wp2_with(go_at_call 108;refine HCC.o.mono ?_;rintro e w8 ⟨rfl,hw8⟩;subst hw8);go_ret;exact⟨aF HG2.o.symm,HB.o⟩
   exact main
 ·have HG:=Za (show jO ⟨input,lays,loss⟩=false by rw[jO,lR];simp;omega);have h2:input.length<1∨3<input.length:=by omega
  clear hn;rcases h2 with h2|h2
  all_goals
   go_enter Tryz.func55,Tryz.ntmps55;go_wp2;go_ret;exact⟨aF HG.o.symm,(Zc _ _).alloc (Zb _) _⟩
end Go.Proofs.YtjhkdocidcfpdaaGreatDoor
