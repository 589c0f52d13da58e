/- A part of the proof. -/
import Derived.Deep.DeepCutAuto
import Derived.Test.YtjhkdocidcfpdaaGreatDoorEN03
set_option linter.unusedVariables false
set_option linter.unusedSimpArgs false
set_option maxRecDepth 100000
set_option maxHeartbeats 16000000
open List renaming length_append → Zl
namespace Go.Proofs.YtjhkdocidcfpdaaGreatDoor
open Go.RowKit Go.Shelf Go
theorem wB:(Tryz.prog.info? 161).map (fun i=>(i.zero,i.size,i.bytes))=some (some (.agg #[.string ⟨#[]⟩,.slice none 0 0,.int .i64 0,.int .i64 0]),4,56):=by kernel_rfl
def aM (n₀:Nat) (w:World) (v:Value) (xs:List Int):Prop:=
 Rd w .i64 v xs/\(∀b off n c,v=.slice (some ⟨b,off,none⟩) n c->0<xs.length->b<n₀\/∃cs fz,w.heap[b]?=some (.cells cs 3 fz))/\∀o n c,v=.slice o n c->n<=c
theorem aM.slice {n₀:Nat} {w:World} {v:Value} {xs:List Int} (h:aM n₀ w v xs):∃o cap,v=.slice o xs.length cap:=aU h.1
theorem aM.below {n₀:Nat} {w w':World} {v:Value} {xs:List Int} (h:aM n₀ w v xs) (hB:Below w.heap.size w w'):aM n₀ w' v xs:=by
 refine⟨h.1.below hB (Zb _),fun b off n c e h0=>?_,h.2.2⟩;rcases h.2.1 b off n c e h0 with hh|⟨cs,fz,hh⟩
 ·exact .inl hh
 ·exact .inr ⟨cs,fz,(hB.block b (Array.getElem?_eq_some_iff.1 hh).1).trans hh⟩
theorem aM.of_own {n₀ B:Nat} {w:World} {v:Value} {xs:List Int} (h:aH w B 3 .i64 v xs):aM n₀ w v xs:=by
 refine⟨Rd.of_own h,fun b off n c e h0=>?_,fun o n c e=>by obtain⟨o',c',rfl,A⟩:=jK h;cases e;exact A⟩;rcases h.2 with⟨rfl,hn⟩|⟨g,cap,cur,rfl,hb,hg,_⟩
 ·injection e with e1;cases e1
 ·injection e with e1;injection e1 with e1;injection e1 with e1;subst e1;exact .inr ⟨cur,_,hg⟩
theorem aM.of_rd {n₀:Nat} {w:World} {v:Value} {xs:List Int} (h:Rd w .i64 v xs) (hn:w.heap.size<=n₀) (hc:∀o n c,v=.slice o n c->n<=c):aM n₀ w v xs:=by refine⟨h,fun b off n c e h0=>?_,hc⟩;obtain⟨o,cap,he,hc'⟩:=h;subst he;obtain⟨b',off',ho,A⟩:=hc' 0 h0;injection e with e1;rw[e1]at ho;injection ho with ho;injection ho with B;have:=aP A;exact .inl (by omega)
structure PD where
 nm:ByteArray
 vs:Value
 fi:Int
 fo:Int
 sh:List Int
def PD.cells (q:PD):List Value:=[.string q.nm,q.vs,.int .i64 q.fi,.int .i64 q.fo]
def gD (qs:List PD):List Value:=qs.flatMap PD.cells
theorem OG (qs:List PD):(gD qs).length=qs.length*4:=by
 induction qs with
 |nil=>rfl
 |cons p ps ih=>rw[gD,List.flatMap_cons,Zl,<-gD,ih];simp[PD.cells];omega
theorem yR (qs:List PD) (q:PD):gD (qs++[q])=gD qs++q.cells:=by simp[gD]
theorem PO (qs rs:List PD):gD (qs++rs)=gD qs++gD rs:=by simp[gD]
theorem TY (qs:List PD):∀(i:Nat) (h:i<qs.length) (j:Nat),j<4->(gD qs)[i*4+j]?=(qs[i].cells)[j]?:=by
 induction qs with
 |nil=>intro i h;simp at h
 |cons p ps ih=>
  intro i h j hj;rw[gD,List.flatMap_cons,<-gD];cases i with
  |zero=>rw[Nat.zero_mul,Nat.zero_add,List.getElem?_append_left (by simp[PD.cells];omega)];rfl
  |succ i=>
   rw[List.getElem?_append_right (by simp[PD.cells];omega),show(i+1)*4+j-p.cells.length=i*4+j by simp[PD.cells];omega]
   simpa using ih i (by simpa using h) j hj
structure aY (w:World) (n₀ B:Nat) (v:Value) (qs:List PD):Prop where
 row:w.ownsRow B 161 4 v qs.length (gD qs)
 sh:∀q∈qs,aM n₀ w q.vs q.sh
 one:∀q∈qs,q.vs.oneCell'=true
theorem aY.nil (w:World) (n₀ B:Nat):aY w n₀ B (.slice none 0 0) []:=⟨World.ownsRow_nil _ _ _ _,fun p h=>by simp at h,fun p h=>by simp at h⟩
theorem aY.below {w w':World} {n₀ B:Nat} {v:Value} {qs:List PD} (h:aY w n₀ B v qs) (hB:Below w.heap.size w w'):aY w' n₀ B v qs:=
 ⟨cI h.row hB (Zb _),fun p hp=>(h.sh p hp).below hB,h.one⟩
theorem aM.grown {n₀ B:Nat} {w w':World} {v u:Value} {xs:List Int} {n s:Nat} {ys:List Value} {e:TypeId} (h:aM n₀ w v xs) (ho:w.ownsRow B e s u n ys) (he:e≠3) (hB:n₀<=B) (hg:w.grownBy w' u.ownBlock):aM n₀ w' v xs:=by
 have key:∀b,(b<n₀\/∃cs fz,w.heap[b]?=some (.cells cs 3 fz))->b<w.heap.size->w'.heap[b]?=w.heap[b]?:=fun b C E=>by
  refine hg.block b E fun e'=>?_;rcases ho.2 with⟨rfl,_⟩|⟨g,cap,cur,rfl,G,F,_⟩
  ·simp[Value.ownBlock]at e'
  ·simp[Value.ownBlock]at e';subst e';rcases C with C|⟨cs,fz,C⟩
   ·omega
   ·rw[F]at C;simp at C;exact he C.2.1
 obtain⟨o,cap,rfl,hc⟩:=h.1;have D:=h.2.1;refine⟨⟨o,cap,rfl,fun j hj=>?_⟩,fun b off n c e' h0=>?_,h.2.2⟩
 ·obtain⟨b,off,rfl,A⟩:=hc j hj;exact⟨b,off,rfl,(World.cell?_of_block (w:=w) (a:=⟨b,off+j,none⟩) (key b (D b off _ _ rfl (by omega)) (aP A))).trans A⟩
 ·rcases D b off n c e' h0 with hh|⟨cs,fz,hh⟩
  ·exact .inl hh
  ·exact .inr ⟨cs,fz,(key b (.inr ⟨cs,fz,hh⟩) (Array.getElem?_eq_some_iff.1 hh).1).trans hh⟩
def cJ (n:aE) (vb vin vout vps:Value) (first:Bool) (nm:ByteArray) (bad:Int) (fin:Bool):Array Value:=
 #[.int .i64 n.kind,.int .i64 n.inn,.int .i64 n.o,.int .i64 n.size,.int .i64 n.stride,.int .i64 n.pad,.int .i64 n.percent,.int .i64 n.heads,vb,vin,vout,vps,.bool first,.string nm,.int .i64 bad,.bool fin]
structure bE (g:Nat) (w w':World):Prop where
 low:Below g w w'
 kept:∀(k:Nat) (cs:Array Value) (T:TypeId) (fz:Nat×Nat),T≠161->T≠251->w.heap[k]?=some (.cells cs T fz)->w'.heap[k]?=some (.cells cs T fz)
theorem bE.trans {g:Nat} {a b c:World} (h:bE g a b) (k:bE g b c):bE g a c:=⟨h.low.trans k.low,fun i cs T fz h1 h2 hi=>k.kept i cs T fz h1 h2 (h.kept i cs T fz h1 h2 hi)⟩
theorem bE.below {g:Nat} {w w':World} (h:Below w.heap.size w w') (hg:g<=w.heap.size):bE g w w':=⟨h.mono hg,fun k cs T fz _ _ hk=>(h.block k (Array.getElem?_eq_some_iff.1 hk).1).trans hk⟩
theorem bE.set {g:Nat} {w:World} {cs:Array Value} (h:aA w g 251 cs) (j:Nat) (v:Value):bE g w (w.setCell ⟨g,j,none⟩ v):=
 ⟨(Zc _ _).setCell (p:=⟨g,j,none⟩) (Zb _) v,fun k cs T fz _ h2 hk=>by
  rw[Below.heap_setCell _ _ _ _ (fun e=>?_)]
  ·exact hk
  ·simp at e;subst e;unfold aA at h;rw[h]at hk;simp at hk;exact h2 hk.2.1.symm⟩
theorem bE.grown {g B:Nat} {w w':World} {u:Value} {n s:Nat} {ys:List Value} (ho:w.ownsRow B 161 s u n ys) (hB:g<=B) (hw:g<=w.heap.size) (hg:w.grownBy w' u.ownBlock):bE g w w':=by
 have C:∀k,u.ownBlock=some k->B<=k/\∀cs T fz,T≠161->w.heap[k]?≠some (.cells cs T fz):=fun k A=>by
  rcases ho.2 with⟨rfl,_⟩|⟨b,cap,cur,rfl,D,E,_⟩
  ·simp[Value.ownBlock]at A
  ·simp[Value.ownBlock]at A;subst A;refine⟨D,fun cs T fz hT h=>?_⟩;rw[E]at h;simp at h;exact hT h.2.1.symm
 exact⟨(Zc _ _).grown hg hw (fun k A=>Nat.le_trans hB (C k A).1),fun k cs T fz h1 _ A=>(hg.block k (Array.getElem?_eq_some_iff.1 A).1 (fun e'=>(C k e'.symm).2 cs T fz h1 A)).trans A⟩
theorem aM.keep {n₀ g:Nat} {w w':World} {v:Value} {xs:List Int} (h:aM n₀ w v xs) (hs:bE g w w') (hn:n₀<=g):aM n₀ w' v xs:=by
 have key:∀b,(b<n₀\/∃cs fz,w.heap[b]?=some (.cells cs 3 fz))->b<w.heap.size->w'.heap[b]?=w.heap[b]?:=fun b hb C=>by
  rcases hb with hb|⟨cs,fz,hb⟩
  ·exact hs.low.block b (by omega)
  ·rw[hb];exact hs.kept b cs _ fz (by decide) (by decide) hb
 obtain⟨o,cap,rfl,hc⟩:=h.1;have B:=h.2.1;refine⟨⟨o,cap,rfl,fun j hj=>?_⟩,fun b off n c e' h0=>?_,h.2.2⟩
 ·obtain⟨b,off,rfl,A⟩:=hc j hj;exact⟨b,off,rfl,(World.cell?_of_block (w:=w) (a:=⟨b,off+j,none⟩) (key b (B b off _ _ rfl (by omega)) (aP A))).trans A⟩
 ·rcases B b off n c e' h0 with hh|⟨cs,fz,hh⟩
  ·exact .inl hh
  ·exact .inr ⟨cs,fz,(key b (.inr ⟨cs,fz,hh⟩) (Array.getElem?_eq_some_iff.1 hh).1).trans hh⟩
theorem aA.keep {g C:Nat} {w w':World} {T:TypeId} {cs:Array Value} (h:aA w C T cs) (hs:bE g w w') (h1:T≠161) (h2:T≠251):aA w' C T cs:=hs.kept C cs T _ h1 h2 h
theorem K8 {g n₀:Nat} {n:aE} {vb vin vout vps v':Value} {first:Bool} {nm:ByteArray} {bad:Int} {fin:Bool} {qs:List PD} {q:PD} {w w1 w6:World}
  (hb:aA w g 251 (cJ n vb vin vout vps first nm bad fin)) (H:aY w n₀ g vps qs) (hn:n₀<=g) (h1:Below w.heap.size w w1) (M:aM n₀ w q.vs q.sh) (N:q.vs.oneCell'=true)
  (B:w6.ownsRow g 161 4 v' (qs.length+1) (gD qs++q.cells)) (hg:w1.grownBy w6 vps.ownBlock):
  (w6.cell? ⟨g,11,none⟩=some vps/\w6.frozen? ⟨g,11,none⟩=false)/\aA (w6.setCell ⟨g,11,none⟩ v') g 251 (cJ n vb vin vout v' first nm bad fin)/\aY (w6.setCell ⟨g,11,none⟩ v') n₀ g v' (qs++[q])/\bE g w (w6.setCell ⟨g,11,none⟩ v'):=by
 have L:g<=w.heap.size:=Nat.le_of_lt hb.lt;have C:=cI H.row h1 (Zb _);have I:bE g w w6:=(bE.below h1 L).trans (bE.grown C (Zb _) (Nat.le_trans L h1.size) hg);have A:aA w6 g 251 (cJ n vb vin vout vps first nm bad fin):=by
  have D:=hb.next h1;refine(hg.block g D.lt fun e=>?_).trans D;rcases C.2 with⟨rfl,_⟩|⟨b,cap,cur,rfl,J,E,_⟩
  ·simp[Value.ownBlock]at e
  ·simp[Value.ownBlock]at e;subst e;unfold aA at D;rw[E]at D;simp at D
 have F:=bE.set A 11 v';have O:∀k,v'.ownBlock=some k->g≠k:=fun k hk e=>by
  subst e;rcases B.2 with⟨rfl,_⟩|⟨b,cap,cur,rfl,J,E,_⟩
  ·simp[Value.ownBlock]at hk
  ·simp[Value.ownBlock]at hk;subst hk;unfold aA at A;rw[E]at A;simp at A
 refine⟨⟨A.cell 11 rfl,A.free 11⟩,A.set 11 v',⟨?_,fun r G=>?_,fun r G=>?_⟩,I.trans F⟩
 ·rw[yR,Zl,List.length_singleton];refine⟨B.1,?_⟩;rcases B.2 with hn'|⟨b,cap,cur,rfl,J,E,r⟩
  ·exact .inl hn'
  ·exact .inr ⟨b,cap,cur,rfl,J,by rw[Below.heap_setCell _ _ _ _ (fun e=>O b rfl e.symm)];exact E,r⟩
 ·rcases List.mem_append.1 G with G|G
  ·exact(H.sh r G).keep (I.trans F) hn
  ·rw[List.mem_singleton.1 G];exact M.keep (I.trans F) hn
 ·rcases List.mem_append.1 G with G|G
  ·exact H.one r G
  ·rw[List.mem_singleton.1 G];exact N
theorem wM (g n₀:Nat) (n:aE) (vb vin vout vps:Value) (first:Bool) (nm lt:ByteArray) (bad:Int) (fin:Bool) (qs:List PD) (fi fo:Int) (o:Option Addr) (cap:Nat) (sh:List Int) (w:World)
  (D:aA w g 251 (cJ n vb vin vout vps first nm bad fin)) (C:aY w n₀ g vps qs) (hq:qs.length<=10) (hn:n₀<=g) (E:aM n₀ w (.slice o sh.length cap) sh) (O:nm.size<=100000) (P:lt.size<=10):
  Calls Tryz.prog 210 #[.pointer (some ⟨g,0,none⟩),.string lt,.int .i64 fi,.int .i64 fo,.slice o sh.length cap] w fun e w'=>e=.returned (.tuple #[])/\
   (∃vps' q,aA w' g 251 (cJ n vb vin vout vps' first nm bad fin)/\aY w' n₀ g vps' (qs++[q])/\q.sh=sh)/\bE g w w':=by
 obtain⟨i0,hi,H,I,J⟩:=info_parts wB;have L:=Za D;have F:=Za C;have M:=Za E;obtain⟨ov,cv,rfl⟩:=aJ C.row;have c3:=D.q 11 rfl;have c5:=D.q 13 rfl;have f3:=D.free 11;have R:=D.lt;clear D C E;have T:¬9223372036854775807<nm.size+1:=by omega
 have U:¬9223372036854775807<nm.size+1+lt.size:=by omega
 go_enter Tryz.func210,Tryz.ntmps210;go_wp2_with fail;go_region_law(refine step_append_lies _ (by rfl) (.tmp 14) (.tmp 26) 79 (by rfl) g 161 i0 (.agg #[.string ⟨#[]⟩,.slice none 0 0,.int .i64 0,.int .i64 0]) 4 56 Tryz.underlying79 hi H I J rfl (by decide) (.slice ov qs.length cv) _ _ ?_ ((cI F.o.row ((Zc _ _).drew.alloc (Zb _) _) (Zb _))) ⟨w.heap.size,0,none⟩ 1 1 [.string (nm++{data:=#[46]}++lt),.slice o sh.length cap,.int .i64 fi,.int .i64 fo] ?_ rfl (eD w.drew _ _ _) ?_ (by decide) ?_ ?_ ?_ (w.heap.size+1) ?_ ?_;rfl;rfl;simp[Value.oneCell'];(unfold maxLen;omega);omega;(simp;omega);simp;intro gg cap6 w6 B A N hlt6;have G:=Za (K8 (q:=⟨nm++{data:=#[46]}++lt,.slice o sh.length cap,fi,fo,sh⟩) L.o F.o hn ((Zc _ _).drew.alloc (Zb _) _) M.o rfl B A);have e3:=G.o.1.1;have e4:=G.o.1.2;clear B A N hlt6)
 all_goals
  go_wp2;go_end0;exact⟨rfl,⟨_,_,G.o.2.1,G.o.2.2.1,rfl⟩,G.o.2.2.2⟩
