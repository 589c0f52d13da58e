/-
  A part of the proof of a law (packed by program).
-/
import Derived.Deep.DeepCutAuto
import Derived.Test.YtjhkdocidcfpdaaGreatDoorTM03
set_option linter.unusedVariables false
set_option linter.unusedSimpArgs false
set_option maxRecDepth 100000
set_option maxHeartbeats 16000000
open List renaming length_append → Zl
namespace Go.Proofs.YtjhkdocidcfpdaaGreatDoor
open Go.RowKit Go.Shelf Go
theorem wD:(Tryz.prog.info? 161).map (fun i=>(i.zero,i.size,i.bytes))=some (some (.agg #[.string ⟨#[]⟩,.slice none 0 0,.int .i64 0,.int .i64 0]),4,56):=by kernel_rfl
def aM (n₀:Nat) (w:World) (v:Value) (xs:List Int):Prop:=
 Rd w .i64 v xs∧(∀b off n c,v=.slice (some ⟨b,off,none⟩) n c→0<xs.length→b<n₀∨∃cs fz,w.heap[b]?=some (.cells cs 3 fz))∧∀o n c,v=.slice o n c→n≤c
theorem aM.slice {n₀:Nat} {w:World} {v:Value} {xs:List Int} (h:aM n₀ w v xs):∃o cap,v=.slice o xs.length cap:=aU h.1
theorem aM.below {n₀:Nat} {w w':World} {v:Value} {xs:List Int} (h:aM n₀ w v xs) (hB:Below w.heap.size w w'):aM n₀ w' v xs:=by
 refine⟨h.1.below hB (Zb _),fun b off n c e h0=>?_,h.2.2⟩;rcases h.2.1 b off n c e h0 with hh|⟨cs,fz,hh⟩
 ·exact .inl hh
 ·exact .inr ⟨cs,fz,(hB.block b (Array.getElem?_eq_some_iff.1 hh).1).trans hh⟩
theorem aM.of_own {n₀ B:Nat} {w:World} {v:Value} {xs:List Int} (h:aH w B 3 .i64 v xs):aM n₀ w v xs:=by
 refine⟨Rd.of_own h,fun b off n c e h0=>?_,fun o n c e=>by obtain⟨o',c',rfl,hle⟩:=iV h;cases e;exact hle⟩;rcases h.2 with⟨rfl,hn⟩|⟨g,cap,cur,rfl,hb,hg,_⟩
 ·injection e with e1;cases e1
 ·injection e with e1;injection e1 with e1;injection e1 with e1;subst e1;exact .inr ⟨cur,_,hg⟩
theorem aM.of_rd {n₀:Nat} {w:World} {v:Value} {xs:List Int} (h:Rd w .i64 v xs) (hn:w.heap.size≤n₀) (hc:∀o n c,v=.slice o n c→n≤c):aM n₀ w v xs:=by refine⟨h,fun b off n c e h0=>?_,hc⟩;obtain⟨o,cap,he,hc'⟩:=h;subst he;obtain⟨b',off',ho,hcell⟩:=hc' 0 h0;injection e with e1;rw[e1]at ho;injection ho with ho;injection ho with ho1;have:=aP hcell;exact .inl (by omega)
structure PD where
 nm:ByteArray
 vs:Value
 fi:Int
 fo:Int
 sh:List Int
def PD.cells (q:PD):List Value:=[.string q.nm,q.vs,.int .i64 q.fi,.int .i64 q.fo]
def fV (qs:List PD):List Value:=qs.flatMap PD.cells
theorem FH (qs:List PD):(fV qs).length=qs.length*4:=by
 induction qs with
 |nil=>rfl
 |cons p ps ih=>rw[fV,List.flatMap_cons,Zl,←fV,ih];simp[PD.cells];omega
theorem A6 (qs:List PD) (q:PD):fV (qs++[q])=fV qs++q.cells:=by simp[fV]
theorem TH (qs rs:List PD):fV (qs++rs)=fV qs++fV rs:=by simp[fV]
theorem RE (qs:List PD):∀(i:Nat) (h:i<qs.length) (j:Nat),j<4→(fV qs)[i*4+j]?=(qs[i].cells)[j]?:=by
 induction qs with
 |nil=>intro i h;simp at h
 |cons p ps ih=>
  intro i h j hj;rw[fV,List.flatMap_cons,←fV];cases i with
  |zero=>rw[Nat.zero_mul,Nat.zero_add,List.getElem?_append_left (by simp[PD.cells];omega)];rfl
  |succ i=>
   rw[List.getElem?_append_right (by simp[PD.cells];omega),show(i+1)*4+j-p.cells.length=i*4+j by simp[PD.cells];omega]
   simpa using ih i (by simpa using h) j hj
structure aV (w:World) (n₀ B:Nat) (v:Value) (qs:List PD):Prop where
 row:w.ownsRow B 161 4 v qs.length (fV qs)
 sh:∀q∈qs,aM n₀ w q.vs q.sh
 one:∀q∈qs,q.vs.oneCell'=true
theorem aV.nil (w:World) (n₀ B:Nat):aV w n₀ B (.slice none 0 0) []:=⟨World.ownsRow_nil _ _ _ _,fun p h=>by simp at h,fun p h=>by simp at h⟩
theorem aV.below {w w':World} {n₀ B:Nat} {v:Value} {qs:List PD} (h:aV w n₀ B v qs) (hB:Below w.heap.size w w'):aV w' n₀ B v qs:=
 ⟨cF h.row hB (Zb _),fun p hp=>(h.sh p hp).below hB,h.one⟩
theorem aM.grown {n₀ B:Nat} {w w':World} {v u:Value} {xs:List Int} {n s:Nat} {ys:List Value} {e:TypeId} (h:aM n₀ w v xs) (ho:w.ownsRow B e s u n ys) (he:e≠3) (hB:n₀≤B) (hg:w.grownBy w' u.ownBlock):aM n₀ w' v xs:=by
 have key:∀b,(b<n₀∨∃cs fz,w.heap[b]?=some (.cells cs 3 fz))→b<w.heap.size→w'.heap[b]?=w.heap[b]?:=fun b hb hlt=>by
  refine hg.block b hlt fun e'=>?_;rcases ho.2 with⟨rfl,_⟩|⟨g,cap,cur,rfl,hbb,hgg,_⟩
  ·simp[Value.ownBlock]at e'
  ·simp[Value.ownBlock]at e';subst e';rcases hb with hb|⟨cs,fz,hb⟩
   ·omega
   ·rw[hgg]at hb;simp at hb;exact he hb.2.1
 obtain⟨o,cap,rfl,hc⟩:=h.1;have hb2:=h.2.1;refine⟨⟨o,cap,rfl,fun j hj=>?_⟩,fun b off n c e' h0=>?_,h.2.2⟩
 ·obtain⟨b,off,rfl,hcell⟩:=hc j hj;exact⟨b,off,rfl,(World.cell?_of_block (w:=w) (a:=⟨b,off+j,none⟩) (key b (hb2 b off _ _ rfl (by omega)) (aP hcell))).trans hcell⟩
 ·rcases hb2 b off n c e' h0 with hh|⟨cs,fz,hh⟩
  ·exact .inl hh
  ·exact .inr ⟨cs,fz,(key b (.inr ⟨cs,fz,hh⟩) (Array.getElem?_eq_some_iff.1 hh).1).trans hh⟩
def cG (n:aG) (vb vin vout vps:Value) (first:Bool) (nm:ByteArray) (bad:Int) (fin:Bool):Array Value:=
 #[.int .i64 n.kind,.int .i64 n.inn,.int .i64 n.o,.int .i64 n.size,.int .i64 n.stride,.int .i64 n.pad,.int .i64 n.percent,.int .i64 n.heads,vb,vin,vout,vps,.bool first,.string nm,.int .i64 bad,.bool fin]
structure bC (g:Nat) (w w':World):Prop where
 low:Below g w w'
 kept:∀(k:Nat) (cs:Array Value) (T:TypeId) (fz:Nat×Nat),T≠161→T≠251→w.heap[k]?=some (.cells cs T fz)→w'.heap[k]?=some (.cells cs T fz)
theorem bC.trans {g:Nat} {a b c:World} (h:bC g a b) (k:bC g b c):bC g a c:=⟨h.low.trans k.low,fun i cs T fz h1 h2 hi=>k.kept i cs T fz h1 h2 (h.kept i cs T fz h1 h2 hi)⟩
theorem bC.below {g:Nat} {w w':World} (h:Below w.heap.size w w') (hg:g≤w.heap.size):bC g w w':=⟨h.mono hg,fun k cs T fz _ _ hk=>(h.block k (Array.getElem?_eq_some_iff.1 hk).1).trans hk⟩
theorem bC.set {g:Nat} {w:World} {cs:Array Value} (h:aA w g 251 cs) (j:Nat) (v:Value):bC g w (w.setCell ⟨g,j,none⟩ v):=
 ⟨(Zc _ _).setCell (p:=⟨g,j,none⟩) (Zb _) v,fun k cs T fz _ h2 hk=>by
  rw[Below.heap_setCell _ _ _ _ (fun e=>?_)]
  ·exact hk
  ·simp at e;subst e;unfold aA at h;rw[h]at hk;simp at hk;exact h2 hk.2.1.symm⟩
theorem bC.grown {g B:Nat} {w w':World} {u:Value} {n s:Nat} {ys:List Value} (ho:w.ownsRow B 161 s u n ys) (hB:g≤B) (hw:g≤w.heap.size) (hg:w.grownBy w' u.ownBlock):bC g w w':=by
 have hrow:∀k,u.ownBlock=some k→B≤k∧∀cs T fz,T≠161→w.heap[k]?≠some (.cells cs T fz):=fun k hk=>by
  rcases ho.2 with⟨rfl,_⟩|⟨b,cap,cur,rfl,hbb,hgg,_⟩
  ·simp[Value.ownBlock]at hk
  ·simp[Value.ownBlock]at hk;subst hk;refine⟨hbb,fun cs T fz hT h=>?_⟩;rw[hgg]at h;simp at h;exact hT h.2.1.symm
 exact⟨(Zc _ _).grown hg hw (fun k hk=>Nat.le_trans hB (hrow k hk).1),fun k cs T fz h1 _ hk=>(hg.block k (Array.getElem?_eq_some_iff.1 hk).1 (fun e'=>(hrow k e'.symm).2 cs T fz h1 hk)).trans hk⟩
theorem aM.keep {n₀ g:Nat} {w w':World} {v:Value} {xs:List Int} (h:aM n₀ w v xs) (hs:bC g w w') (hn:n₀≤g):aM n₀ w' v xs:=by
 have key:∀b,(b<n₀∨∃cs fz,w.heap[b]?=some (.cells cs 3 fz))→b<w.heap.size→w'.heap[b]?=w.heap[b]?:=fun b hb hlt=>by
  rcases hb with hb|⟨cs,fz,hb⟩
  ·exact hs.low.block b (by omega)
  ·rw[hb];exact hs.kept b cs _ fz (by decide) (by decide) hb
 obtain⟨o,cap,rfl,hc⟩:=h.1;have hb2:=h.2.1;refine⟨⟨o,cap,rfl,fun j hj=>?_⟩,fun b off n c e' h0=>?_,h.2.2⟩
 ·obtain⟨b,off,rfl,hcell⟩:=hc j hj;exact⟨b,off,rfl,(World.cell?_of_block (w:=w) (a:=⟨b,off+j,none⟩) (key b (hb2 b off _ _ rfl (by omega)) (aP hcell))).trans hcell⟩
 ·rcases hb2 b off n c e' h0 with hh|⟨cs,fz,hh⟩
  ·exact .inl hh
  ·exact .inr ⟨cs,fz,(key b (.inr ⟨cs,fz,hh⟩) (Array.getElem?_eq_some_iff.1 hh).1).trans hh⟩
theorem aA.keep {g C:Nat} {w w':World} {T:TypeId} {cs:Array Value} (h:aA w C T cs) (hs:bC g w w') (h1:T≠161) (h2:T≠251):aA w' C T cs:=hs.kept C cs T _ h1 h2 h
theorem MR {g n₀:Nat} {n:aG} {vb vin vout vps v':Value} {first:Bool} {nm:ByteArray} {bad:Int} {fin:Bool} {qs:List PD} {q:PD} {w w1 w6:World}
  (hb:aA w g 251 (cG n vb vin vout vps first nm bad fin)) (hps:aV w n₀ g vps qs) (hn:n₀≤g) (h1:Below w.heap.size w w1) (hsh:aM n₀ w q.vs q.sh) (hq1:q.vs.oneCell'=true)
  (hown:w6.ownsRow g 161 4 v' (qs.length+1) (fV qs++q.cells)) (hg:w1.grownBy w6 vps.ownBlock):
  (w6.cell? ⟨g,11,none⟩=some vps∧w6.frozen? ⟨g,11,none⟩=false)∧aA (w6.setCell ⟨g,11,none⟩ v') g 251 (cG n vb vin vout v' first nm bad fin)∧aV (w6.setCell ⟨g,11,none⟩ v') n₀ g v' (qs++[q])∧bC g w (w6.setCell ⟨g,11,none⟩ v'):=by
 have hgs:g≤w.heap.size:=Nat.le_of_lt hb.lt;have hrow1:=cF hps.row h1 (Zb _);have hst:bC g w w6:=(bC.below h1 hgs).trans (bC.grown hrow1 (Zb _) (Nat.le_trans hgs h1.size) hg);have hbx:aA w6 g 251 (cG n vb vin vout vps first nm bad fin):=by
  have hb1:=hb.next h1;refine(hg.block g hb1.lt fun e=>?_).trans hb1;rcases hrow1.2 with⟨rfl,_⟩|⟨b,cap,cur,rfl,hbb,hgg,_⟩
  ·simp[Value.ownBlock]at e
  ·simp[Value.ownBlock]at e;subst e;unfold aA at hb1;rw[hgg]at hb1;simp at hb1
 have hset:=bC.set hbx 11 v';have hne:∀k,v'.ownBlock=some k→g≠k:=fun k hk e=>by
  subst e;rcases hown.2 with⟨rfl,_⟩|⟨b,cap,cur,rfl,hbb,hgg,_⟩
  ·simp[Value.ownBlock]at hk
  ·simp[Value.ownBlock]at hk;subst hk;unfold aA at hbx;rw[hgg]at hbx;simp at hbx
 refine⟨⟨hbx.cell 11 rfl,hbx.free 11⟩,hbx.set 11 v',⟨?_,fun r hr=>?_,fun r hr=>?_⟩,hst.trans hset⟩
 ·rw[A6,Zl,List.length_singleton];refine⟨hown.1,?_⟩;rcases hown.2 with hn'|⟨b,cap,cur,rfl,hbb,hgg,r⟩
  ·exact .inl hn'
  ·exact .inr ⟨b,cap,cur,rfl,hbb,by rw[Below.heap_setCell _ _ _ _ (fun e=>hne b rfl e.symm)];exact hgg,r⟩
 ·rcases List.mem_append.1 hr with hr|hr
  ·exact(hps.sh r hr).keep (hst.trans hset) hn
  ·rw[List.mem_singleton.1 hr];exact hsh.keep (hst.trans hset) hn
 ·rcases List.mem_append.1 hr with hr|hr
  ·exact hps.one r hr
  ·rw[List.mem_singleton.1 hr];exact hq1
theorem wY (g n₀:Nat) (n:aG) (vb vin vout vps:Value) (first:Bool) (nm lt:ByteArray) (bad:Int) (fin:Bool) (qs:List PD) (fi fo:Int) (o:Option Addr) (cap:Nat) (sh:List Int) (w:World)
  (hb:aA w g 251 (cG n vb vin vout vps first nm bad fin)) (hps:aV w n₀ g vps qs) (hq:qs.length≤10) (hn:n₀≤g) (hsh:aM n₀ w (.slice o sh.length cap) sh) (hnm:nm.size≤100000) (hlt:lt.size≤10):
  Calls Tryz.prog 210 #[.pointer (some ⟨g,0,none⟩),.string lt,.int .i64 fi,.int .i64 fo,.slice o sh.length cap] w fun e w'=>e=.returned (.tuple #[])∧
   (∃vps' q,aA w' g 251 (cG n vb vin vout vps' first nm bad fin)∧aV w' n₀ g vps' (qs++[q])∧q.sh=sh)∧bC g w w':=by
 obtain⟨i0,hi,hz0,hz1,hz2⟩:=info_parts wD;have HBX:=Za hb;have HPS:=Za hps;have HSH:=Za hsh;obtain⟨ov,cv,rfl⟩:=aJ hps.row;have c3:=hb.q 11 rfl;have c5:=hb.q 13 rfl;have f3:=hb.free 11;have hlg:=hb.lt;clear hb hps hsh;have hl1:¬9223372036854775807<nm.size+1:=by omega
 have hl2:¬9223372036854775807<nm.size+1+lt.size:=by omega
 go_enter Tryz.func210,Tryz.ntmps210;go_wp2_with fail;go_region_law(refine step_append_lies _ (by rfl) (.tmp 14) (.tmp 26) 79 (by rfl) g 161 i0 (.agg #[.string ⟨#[]⟩,.slice none 0 0,.int .i64 0,.int .i64 0]) 4 56 Tryz.underlying79 hi hz0 hz1 hz2 rfl (by decide) (.slice ov qs.length cv) _ _ ?_ ((cF HPS.o.row ((Zc _ _).drew.alloc (Zb _) _) (Zb _))) ⟨w.heap.size,0,none⟩ 1 1 [.string (nm++{data:=#[46]}++lt),.slice o sh.length cap,.int .i64 fi,.int .i64 fo] ?_ rfl (fS w.drew _ _ _) ?_ (by decide) ?_ ?_ ?_ (w.heap.size+1) ?_ ?_;rfl;rfl;simp[Value.oneCell'];(unfold maxLen;omega);omega;(simp;omega);simp;intro gg cap6 w6 hown6 hgrow6 hat hlt6;have HF:=Za (MR (q:=⟨nm++{data:=#[46]}++lt,.slice o sh.length cap,fi,fo,sh⟩) HBX.o HPS.o hn ((Zc _ _).drew.alloc (Zb _) _) HSH.o rfl hown6 hgrow6);have e3:=HF.o.1.1;have e4:=HF.o.1.2;clear hown6 hgrow6 hat hlt6)
 all_goals
  go_wp2;go_end0;exact⟨rfl,⟨_,_,HF.o.2.1,HF.o.2.2.1,rfl⟩,HF.o.2.2.2⟩
end Go.Proofs.YtjhkdocidcfpdaaGreatDoor
