/- A part of the proof. -/
import Derived.Test.YtjhkdocidcfpdaaGreatDoorEN06
import Derived.Test.YtjhkdocidcfpdaaGreatDoorEN10
set_option linter.unusedVariables false
set_option linter.unusedSimpArgs false
set_option maxRecDepth 100000
set_option maxHeartbeats 16000000
open List renaming length_append → Zl
namespace Go.Proofs.YtjhkdocidcfpdaaGreatDoor
open Go.RowKit Go.Shelf Go
theorem tY (o:Option Addr) (n cap:Nat) (s:List Int) (w:World) (hr:Rd w .i64 (.slice o n cap) s) (hl:s.length<=100000):
  Calls Tryz.prog 181 #[.slice o n cap] w fun e w'=>e=.returned (.bool (dQ s))/\Below w.heap.size w w':=by obtain⟨i0,hi,C,D,E⟩:=info_parts jX;have H:=Za hr;clear hr;go_enter Tryz.func181,Tryz.ntmps181;go_wp2_with(at_builtin;refine aD ?_);refine aC ?_;have B:=Za (show aH (w.alloc (.cells #[.int .i64 1] 3)) w.heap.size 3 .i64 (.slice (some ⟨w.heap.size,0,none⟩) 1 1) [1] from aH.lit w .i64 [1] _ (by unfold maxLen;simp));refine kI rfl _ _ 30 rfl w.heap.size 3 .i64 i0 8 Tryz.underlying30 hi C D E _ [1] rfl B.o _ s rfl (H.o.alloc _) (by unfold maxLen;simp;omega) (by simp;omega) (by simp) ?_;intro v' w2 A hg _;have I:=Za (Rd.of_own A);have J:=Za (((Zc _ _).alloc (Zb _) _).grown hg (by simp) (fun k hk=>(B.o.lt k hk).1));obtain⟨oq,kq,rfl⟩:=aJ A;clear A hg;go_wp2_with(go_at_call 159;refine(vH _ ([1]++s) _ I.o (by simp;omega)).mono ?_;rintro e w3 ⟨rfl,F⟩;have G:=Za (J.o.trans (F.below _)));go_ret;exact⟨aG rfl,G.o⟩
theorem aY.at {w:World} {n₀ B:Nat} {o:Option Addr} {n cap:Nat} {qs:List PD} (h:aY w n₀ B (.slice o n cap) qs) (k:Nat) (hk:k<qs.length):
  ∃b,o=some ⟨b,0,none⟩/\B<=b/\w.cell? ⟨b,k*4,none⟩=some (.string qs[k].nm)/\w.cell? ⟨b,k*4+1,none⟩=some qs[k].vs/\w.cell? ⟨b,k*4+2,none⟩=some (.int .i64 qs[k].fi)/\w.cell? ⟨b,k*4+3,none⟩=some (.int .i64 qs[k].fo)/\aM n₀ w qs[k].vs qs[k].sh:=by
 rcases h.row.2 with⟨h1,h2⟩|⟨b,cap',cur,h1,hb,hg,_,_,_,ht⟩
 ·omega
 ·simp at h1;obtain⟨rfl,rfl,rfl⟩:=h1;have key:∀(j:Nat) (u:Value),j<4->(qs[k].cells)[j]?=some u->w.cell? ⟨b,k*4+j,none⟩=some u:=fun j u hj hu=>by
   have h3:=TY qs k hk j hj;rw[hu]at h3;rw[cell_of_row w b _ cur _ (0,0) hg];rw[<-ht,List.getElem?_take]at h3;split at h3
   ·simpa using h3
   ·cases h3
  exact⟨b,rfl,hb,key 0 _ (by omega) rfl,key 1 _ (by omega) rfl,key 2 _ (by omega) rfl,key 3 _ (by omega) rfl,h.sh _ (List.getElem_mem hk)⟩
theorem I4 (nm:ByteArray) (o:Option Addr) (n cap:Nat) (fi fo:Int) (sh:List Int) (w:World) (hr:Rd w .i64 (.slice o n cap) sh) (hl:sh.length<=100000):
  Calls Tryz.prog 209 #[.agg #[.string nm,.slice o n cap,.int .i64 fi,.int .i64 fo]] w fun e w'=>e=.returned (.bool (!bA sh))/\Below w.heap.size w w':=by have B:=Za hr;clear hr;go_enter Tryz.func209,Tryz.ntmps209;go_wp2_with(go_at_call 159;refine(vH _ sh _ (B.o.alloc _) (by omega)).mono ?_;rintro e w3 ⟨rfl,A⟩;have C:=Za (((Zc w.heap.size w).alloc (Zb _) (.cells #[.string nm,.slice o n cap,.int .i64 fi,.int .i64 fo] 161)).trans (A.below _)));go_ret;exact⟨rfl,C.o⟩
theorem OR (v:Value) (n₀ B:Nat) (qs:List PD) (w:World) (hr:aY w n₀ B v qs) (hl:qs.length<=100000) (hs:∀q∈qs,q.sh.length<=100000):
  Calls Tryz.prog 214 #[v,.func (.func 209) #[] #[]] w fun e w'=>(∃i:Int,e=.returned (.int .i64 i)/\decide (0<=i)=!(qs.map (·.sh)).all bA)/\Below w.heap.size w w':=by
 obtain⟨o,cap,rfl⟩:=aJ hr.row;have M:=Za hr;have N:=Za hs;have he:∀args w,(callFunc 209 args).run Tryz.prog w=.ok (.enter 209 args) w:=enters_of Tryz.func209 (by kernel_rfl) rfl;clear hr hs;go_enter Tryz.func214,Tryz.ntmps214;go_wp2;go_loopw[8] (fun i wr=>∃k:Nat,k<=qs.length/\i=.int .i64 k/\((qs.take k).map (·.sh)).all bA=true/\Below w.heap.size w wr) (fun i _=>qs.length-(intOf i).toNat)
 case atStart=>exact⟨0,Ze _,rfl,rfl,Zc _ _⟩
 case round=>
  obtain⟨k,hk,rfl,hp,hB⟩:=hrel;obtain⟨w3,rfl⟩:=Zx wr;have J:=Za hp;have G:=Za hB;clear hp hB;by_cases A:k<qs.length
  ·obtain⟨b,rfl,_,c0,c1,c2,c3,C⟩:=(M.o.below G.o).at k A;obtain⟨q,hq⟩:=Zx (qs[k]);rw[<-hq]at c0 c1 c2 c3 C;have D:=Za C.1;have H:=Za (N.o q (by rw[hq];exact List.getElem_mem A));have L:=Za hq;obtain⟨o1,cap1,hv⟩:=C.slice;rw[hv]at c1 D;clear C hq hv;cases hb:bA q.sh
   all_goals
    have I:=Za hb;clear hb;go_wp2_with fail;refine(I4 _ _ _ _ _ _ q.sh _ D.o H.o).mono ?_;rintro e w' ⟨rfl,E⟩;rw[I.o];have F:=Za (G.o.trans (E.mono G.o.size));clear E c0 c1 c2 c3;go_wp2
   ·go_ret;refine⟨⟨_,rfl,?_⟩,F.o⟩;have:(qs.map (·.sh)).all bA=false:=by rw[List.all_eq_false];exact⟨q.sh,by rw[L.o];exact List.mem_map_of_mem (List.getElem_mem A),by rw[I.o];simp⟩
    rw[this];simp
   ·go_roundw
    case rel=>exact⟨k+1,by omega,by go_num,by rw[List.take_succ_eq_append_getElem A,List.map_append,List.all_append,J.o,<-L.o];simp[I.o],F.o⟩
    case measure=>simp[intOf];omega
  ·obtain rfl:k=qs.length:=by omega
   have O:Hid ((qs.map (·.sh)).all bA=true):=Za (by have:=J.o;rwa [List.take_length]at this);go_wp2;go_ret;exact⟨⟨_,rfl,by rw[O.o];simp⟩,G.o⟩
theorem zG (v:Value) (n₀ B:Nat) (qs:List PD) (w:World) (hr:aY w n₀ B v qs) (hl:qs.length<=100000) (hs:∀q∈qs,q.sh.length<=100000):
  Calls Tryz.prog 208 #[v,.func (.func 209) #[] #[]] w fun e w'=>e=.returned (.bool (!(qs.map (·.sh)).all bA))/\Below w.heap.size w w':=by obtain⟨o,cap,rfl⟩:=aJ hr.row;have A:=Za (OR _ n₀ B qs w hr hl hs);clear hr hs;go_enter Tryz.func208,Tryz.ntmps208;go_wp2_with fail;refine A.o.mono ?_;rintro e w' ⟨⟨i,rfl,hi⟩,hb⟩;have C:=Za hi;have D:=Za hb;clear hi hb;go_wp2;go_ret;exact⟨aG C.o,D.o⟩
def AV (g n₀:Nat) (n:aE) (vb vin:Value) (first:Bool) (nm:ByteArray) (w:World) (res:Option (List Int×List (List Int))) (e:Ending) (w':World):Prop:=
 bE g w w'/\∃vout vps qs bad,aA w' g 251 (cJ n vb vin vout vps first nm 0 false)/\aY w' n₀ g vps qs/\e=.returned (.int .i64 bad)/\(res=none->bad≠0)/\(∀p,res=some p->bad=0/\aM n₀ w' vout p.1/\p.2=qs.map (·.sh))/\∃oo no co,vout=.slice oo no co
theorem xC {n:aE} {first:Bool} {s:List Int} {p:List Int×List (List Int)} (hs:s.length<=4) (h:aK n first s=some p):p.1.length<=8/\p.2.length<=4/\∀q∈p.2,q.length<=8:=by
 rw[aK]at h;split at h
 ·split at h
  ·cases h;refine⟨by simp;omega,by simp,fun q A=>?_⟩;simp at A;rcases A with rfl|rfl<;>simp
  ·cases h
 split at h
 ·split at h
  ·cases h
  ·rename_i t B;split at h
   ·cases h;rw[bZ]at B;split at B
    ·have:=mT B;rw[List.length_tail]at this;refine⟨by simp;omega,by simp,fun q A=>?_⟩;simp only[List.mem_cons,List.not_mem_nil,or_false]at A;rcases A with rfl|rfl<;>(simp;omega)
    ·cases B
   ·cases h
 split at h
 ·split at h
  ·cases h
  ·rename_i t B;cases h;rw[bZ]at B;split at B
   ·have:=mT B;rw[List.length_tail]at this;exact⟨by simp;omega,by simp,fun q A=>by simp at A⟩
   ·cases B
 split at h
 ·cases h;exact⟨by simp,by simp,fun q A=>by simp at A⟩
 split at h
 ·split at h
  ·cases h;refine⟨by simp,by simp,fun q A=>?_⟩;simp at A;subst A;simp
  ·cases h
 split at h
 ·split at h
  ·cases h;refine⟨by simp;omega,by simp,fun q A=>?_⟩;rw[List.eq_of_mem_replicate A];simp
  ·cases h
 ·cases h;exact⟨by simp;omega,by simp,fun q A=>by simp at A⟩
theorem JP (g n₀:Nat) (n:aE) (vb vin:Value) (first:Bool) (nm:ByteArray) (s:List Int) (w:World) (hs:s.length<=4) (ac:g<w.heap.size)
  (hd:Calls Tryz.prog 207 #[.pointer (some ⟨g,0,none⟩)] w (fF g n₀ n vb vin first nm w (aK n first s))):
  Calls Tryz.prog 203 #[.pointer (some ⟨g,0,none⟩)] w (AV g n₀ n vb vin first nm w (gK n first s)):=by
 have Z:=Za hd;clear hd;cases I:aK n first s with
 |none=>
  have HJ:Hid (gK n first s=none):=Za (by rw[gK,I]);rw[I]at Z;clear I;go_enter Tryz.func203,Tryz.ntmps203;go_wp2_with(go_at_call 207;refine Z.o.mono ?_;rintro e w2 ⟨H,vout,vps,qs,J,A,rfl,_,R⟩;refine aD ?_);have aa:=Za (R (by trivial));clear R;have T:=Za H;have P:=Za J;have HQ:=Za A;clear H J A;refine aC ?_
  try simp only[Option.isSome_none]
  go_wp2_with fail;go_ret;exact⟨T.o,vout,vps,qs,2,P.o,HQ.o,rfl,fun _=>by decide,fun p H=>(by rw[HJ.o]at H;cases H),aa.o⟩
 |some p=>
  have HR:=Za I;obtain⟨ad,ae,U⟩:=xC hs I;have ab:=Za U;rw[I]at Z;clear I U;go_enter Tryz.func203,Tryz.ntmps203;go_wp2_with(go_at_call 207;refine Z.o.mono ?_;rintro e w2 ⟨H,vout,vps,qs,J,A,rfl,hx,_⟩;refine aD ?_);obtain⟨L,F⟩:=hx p rfl;obtain⟨oo,co,rfl⟩:=L.slice;obtain⟨ov,cv,rfl⟩:=aJ A.row;have T:=Za H;have P:=Za J;have HQ:=Za A;have M:=Za L;have N:=Za F;have d10:=J.q 10 rfl;have af:qs.length<=4:=by have:=congrArg List.length F;simp at this;omega
  have V:=Za (show ∀q∈qs,q.sh.length<=100000 from fun q A=>by have:=ab.o q.sh (by rw[F];exact List.mem_map_of_mem A);omega);have hz:=J.lt;clear H J A hx L F;refine aC ?_
  try simp only[Option.isSome_some]
  cases hf:dQ p.1 with
  |false=>
   have X:=Za hf;clear hf;go_wp2_with(go_at_call 181;refine(tY _ _ _ p.1 _ M.o.1 (by omega)).mono ?_;rintro e w3 ⟨rfl,C⟩;rw[X.o];have B:=Za C;clear C);go_ret;exact⟨T.o.trans (bE.below B.o (Nat.le_of_lt hz)),_,_,qs,5,P.o.next B.o,HQ.o.below B.o,rfl,fun _=>by decide,fun q A=>(by rw[gK,HR.o]at A;simp only[X.o,Bool.false_and,Bool.false_eq_true,if_false]at A;cases A),⟨_,_,_,rfl⟩⟩
  |true=>
   have X:=Za hf;clear hf;go_wp2_with(go_at_call 181;refine(tY _ _ _ p.1 _ M.o.1 (by omega)).mono ?_;rintro e w3 ⟨rfl,C⟩;rw[X.o];refine aD ?_);have B:=Za C;have d11:w3.cell? ⟨g,11,none⟩=some (.slice ov qs.length cv):=(P.o.next C).cell 11 rfl;have G:=Za (HQ.o.below C);clear C d10;refine aC ?_;cases ha:(qs.map (·.sh)).all bA with
   |false=>
    have Y:=Za ha;clear ha;go_wp2_with(go_at_call 208;refine(zG _ n₀ g qs _ G.o (by omega) V.o).mono ?_;rintro e w4 ⟨rfl,D⟩;rw[Y.o];have E:=Za (B.o.trans (D.mono B.o.size));have O:=Za (G.o.below D);clear D);go_ret;exact⟨T.o.trans (bE.below E.o (Nat.le_of_lt hz)),_,_,qs,5,P.o.next E.o,O.o,rfl,fun _=>by decide,fun q A=>(by rw[gK,HR.o]at A;simp only[N.o,Y.o,Bool.and_false,Bool.false_eq_true,if_false]at A;cases A),⟨_,_,_,rfl⟩⟩
   |true=>
    have Y:=Za ha;clear ha;go_wp2_with(go_at_call 208;refine(zG _ n₀ g qs _ G.o (by omega) V.o).mono ?_;rintro e w4 ⟨rfl,D⟩;rw[Y.o];have E:=Za (B.o.trans (D.mono B.o.size));have O:=Za (G.o.below D);clear D);go_ret;have hj:gK n first s=some p:=by rw[gK,HR.o];simp only[N.o,Y.o,X.o,Bool.and_self,if_true]
    exact⟨T.o.trans (bE.below E.o (Nat.le_of_lt hz)),_,_,qs,0,P.o.next E.o,O.o,rfl,fun h=>(by rw[hj]at h;cases h),fun q A=>(by rw[hj]at A;cases A;exact⟨rfl,M.o.below E.o,N.o⟩),⟨_,_,_,rfl⟩⟩
structure bW where
 k:Int
 cs:Array Value
 bad:Int
 o:List Int
 ps:List (List Int)
def nW (x:bW):Array Value:=#[.int .i64 x.k,.agg x.cs]
def pS (n₀:Nat) (x:bW) (W:World):Prop:=∃n ob nb cb oi ni ci oo no co ov nv cv first nm fin,x.cs=cJ n (.slice ob nb cb) (.slice oi ni ci) (.slice oo no co) (.slice ov nv cv) first nm x.bad fin/\
 (x.bad=0->∃qs,aM n₀ W (.slice oo no co) x.o/\aY W n₀ n₀ (.slice ov nv cv) qs/\x.ps=qs.map (·.sh)/\qs.length<=4/\x.o.length<=8)
def iB (o:Obj):Prop:=∃cs fz,o=.cells cs 251 fz
def E8 (T:TypeId):Prop:=T=3\/T=251\/T=175\/T=33
structure dG (n₀:Nat) (W W':World):Prop where
 low:Below n₀ W W'
 kept:∀(k:Nat) (cs:Array Value) (T:TypeId) (fz:Nat×Nat),E8 T->W.heap[k]?=some (.cells cs T fz)->W'.heap[k]?=some (.cells cs T fz)
theorem dG.refl (n₀:Nat) (W:World):dG n₀ W W:=⟨Zc _ _,fun _ _ _ _ _ h=>h⟩
theorem dG.trans {n₀:Nat} {a b c:World} (h:dG n₀ a b) (k:dG n₀ b c):dG n₀ a c:=⟨h.low.trans k.low,fun i cs T fz hT hi=>k.kept i cs T fz hT (h.kept i cs T fz hT hi)⟩
theorem dG.below {n₀:Nat} {W W':World} (h:Below W.heap.size W W') (hn:n₀<=W.heap.size):dG n₀ W W':=⟨h.mono hn,fun k cs T fz _ hk=>(h.block k (Array.getElem?_eq_some_iff.1 hk).1).trans hk⟩
theorem dG.put {n₀:Nat} {W:World} {l:Nat} {o o':Obj} (hl:n₀<=l) (h:W.heap[l]?=some o) (ho:o.isCells=false):dG n₀ W (W.putObj l o'):=
 ⟨(Zc n₀ W).grown (grownBy_putObj' W l o') (by have:=(Array.getElem?_eq_some_iff.1 h).1;omega) (fun k e=>by cases e;exact hl),fun k cs T fz _ hk=>by
  refine(World.putObj_heap_other (fun e=>?_)).trans hk;subst e;rw[h]at hk;cases hk;cases ho⟩
theorem aM.keepI {n₀:Nat} {w w':World} {v:Value} {xs:List Int} (h:aM n₀ w v xs) (hs:dG n₀ w w'):aM n₀ w' v xs:=by
 have key:∀b,(b<n₀\/∃cs fz,w.heap[b]?=some (.cells cs 3 fz))->b<w.heap.size->w'.heap[b]?=w.heap[b]?:=fun b B D=>by
  rcases B with B|⟨cs,fz,B⟩
  ·exact hs.low.block b B
  ·rw[B];exact hs.kept b cs _ fz (.inl rfl) B
 obtain⟨o,cap,rfl,hc⟩:=h.1;have C:=h.2.1;refine⟨⟨o,cap,rfl,fun j hj=>?_⟩,fun b off n c e' h0=>?_,h.2.2⟩
 ·obtain⟨b,off,rfl,A⟩:=hc j hj;exact⟨b,off,rfl,(World.cell?_of_block (w:=w) (a:=⟨b,off+j,none⟩) (key b (C b off _ _ rfl (by omega)) (aP A))).trans A⟩
 ·rcases C b off n c e' h0 with hh|⟨cs,fz,hh⟩
  ·exact .inl hh
  ·exact .inr ⟨cs,fz,(key b (.inr ⟨cs,fz,hh⟩) (Array.getElem?_eq_some_iff.1 hh).1).trans hh⟩
theorem aA.keepI {n₀ g:Nat} {w w':World} {T:TypeId} {cs:Array Value} (h:aA w g T cs) (hs:dG n₀ w w') (hT:E8 T):aA w' g T cs:=hs.kept g cs T _ hT h
def jV (xs:List bW):List (List Int):=xs.flatMap (·.ps)
def iA (s:List Int) (xs:List bW):List Int:=xs.foldl (fun _ x=>x.o) s
theorem qT (a b:List bW):jV (a++b)=jV a++jV b:=by simp[jV]
theorem tN (s:List Int) (a b:List bW):iA s (a++b)=iA (iA s a) b:=by simp[iA]
def gU (xs:List bW):Prop:=∀x∈xs,x.bad=0
theorem jJ {a b:List bW}:gU (a++b)↔gU a/\gU b:=by simp only[gU,List.mem_append];exact⟨fun h=>⟨fun x hx=>h x (.inl hx),fun x hx=>h x (.inr hx)⟩,fun h x hx=>hx.elim (h.1 x) (h.2 x)⟩
theorem gH.below {β:Type} {B:Nat} {J:β->World->Prop} (h:gH iB B J) {s:β} {W W':World} (hs:J s W) (hb:Below W.heap.size W W'):J s W':=
 h.new hs ⟨hb.os,hb.tape,hb.output,hb.size,fun k hk _=>hb.block k hk⟩
theorem gH.last {β:Type} {B g:Nat} {J:β->World->Prop} (h:gH iB B J) {s:β} {W W':World} {cs:Array Value} (hs:J s W) (hb:Below g W W') (hg:W.heap.size=g+1) (hB:B<=g) (hx:aA W g 251 cs):J s W':=
 h s W W' (some g) hs ⟨hb.os,hb.tape,hb.output,hb.size,fun k hk A=>hb.block k (by have:k≠g:=fun e=>A (by rw[e]);omega)⟩ (fun r e=>by cases e;exact⟨hB,_,hx,_,_,rfl⟩)
theorem gH.set {β:Type} {B g:Nat} {J:β->World->Prop} (h:gH iB B J) {s:β} {W:World} {cs:Array Value} (hs:J s W) (hB:B<=g) (hx:aA W g 251 cs) (j:Nat) (v:Value):J s (W.setCell ⟨g,j,none⟩ v):=
 h s W _ (some g) hs ⟨rfl,rfl,rfl,by simp[World.setCell],fun k _ hk=>Below.heap_setCell _ _ _ _ (fun e=>hk (by simp at e;rw[e]))⟩ (fun r e=>by cases e;exact⟨hB,_,hx,_,_,rfl⟩)
theorem dG.past {n₀ g:Nat} {a b c:World} (h:dG n₀ a b) (hb:Below g b c) (hg:a.heap.size<=g) (hn:n₀<=g):dG n₀ a c:=
 ⟨h.low.trans (hb.mono hn),fun k cs T fz hT hk=>(hb.block k (by have:=(Array.getElem?_eq_some_iff.1 hk).1;omega)).trans (h.kept k cs T fz hT hk)⟩
theorem dG.set {n₀ g:Nat} {a b:World} (h:dG n₀ a b) (hg:a.heap.size<=g) (hn:n₀<=g) (j:Nat) (v:Value):dG n₀ a (b.setCell ⟨g,j,none⟩ v):=
 h.past ((Zc _ _).setCell (p:=⟨g,j,none⟩) (Zb _) v) hg hn
theorem sL (first:Bool) (s:List Int):bV first s []=some (s,[]):=by rw[bV]
theorem t8 (first:Bool) (s:List Int) (l:aB) (r:List aB):bV first s (l::r)=match dD first s l with
  |none=>none
  |some p=>match bV false p.1 r with
   |none=>none
   |some q=>some (q.1,p.2++q.2):=by
 rw[bV];cases dD first s l with
 |none=>rfl
 |some p=>
  dsimp only;cases bV false p.1 r<;>rfl
theorem DP (a r:List aB):∀(first:Bool) (s s2:List Int) (ps:List (List Int)),bV first s a=some (s2,ps)->bV first s (a++r)=match bV (first&&a.isEmpty) s2 r with
  |none=>none
  |some q=>some (q.1,ps++q.2):=by
 induction a with
 |nil=>
  intro first s s2 ps h;rw[sL]at h;cases h;rw[List.nil_append,List.isEmpty_nil,Bool.and_true];cases bV first s r<;>simp
 |cons l a ih=>
  intro first s s2 ps h;rw[t8]at h;rw[List.cons_append,t8,List.isEmpty_cons,Bool.and_false];cases hl:dD first s l with
  |none=>rw[hl]at h;cases h
  |some p=>
   rw[hl]at h;dsimp only at h;cases hr:bV false p.1 a with
   |none=>rw[hr]at h;cases h
   |some q=>
    rw[hr]at h;cases h;have:=ih false p.1 q.1 q.2 hr;rw[Bool.false_and]at this;dsimp only;rw[this];cases bV false q.1 r<;>simp
theorem DI {first:Bool} {s s2:List Int} {ps:List (List Int)} {ls:List aB} {k:Nat} (hk:k<ls.length) (h:bV first s (ls.take k)=some (s2,ps)):
  (∀q,dD (first&&decide (k=0)) s2 ls[k]=some q->bV first s (ls.take (k+1))=some (q.1,ps++q.2))/\(dD (first&&decide (k=0)) s2 ls[k]=none->bV first s ls=none):=by
 have he:(ls.take k).isEmpty=decide (k=0):=by
  cases k with
  |zero=>simp
  |succ k=>cases ls with
   |nil=>simp at hk
   |cons a b=>simp
 constructor
 ·intro q hq;rw[List.take_succ_eq_append_getElem hk,DP _ _ _ _ _ _ h,he,t8,hq];dsimp only;rw[sL];dsimp only;rw[List.append_nil]
 ·intro hn;have e:ls=ls.take k++(ls[k]::ls.drop (k+1)):=by rw[List.getElem_cons_drop,List.take_append_drop]
  rw[e,DP _ _ _ _ _ _ h,he,t8,hn]
theorem xD (a b:List aB):aS (a++b)=aS a+aS b:=by
 induction a with
 |nil=>simp[aS]
 |cons l a ih=>rw[List.cons_append,aS,aS,ih];omega
theorem xW {ls:List aB} {k:Nat} (hk:k<ls.length):aS (ls.take (k+1))=aS (ls.take k)+ls[k].count/\aS (ls.take k)+ls[k].count<=aS ls:=by
 have h1:aS (ls.take (k+1))=aS (ls.take k)+ls[k].count:=by rw[List.take_succ_eq_append_getElem hk,xD];simp[aS]
 have h2:aS ls=aS (ls.take (k+1))+aS (ls.drop (k+1)):=by rw[<-xD,List.take_append_drop]
 exact⟨h1,by omega⟩
theorem CM {s:List Int} (h:dQ s=true):bA s=true/\s.length<=3:=by rw[dQ,bA]at h;simp only[Bool.and_eq_true,decide_eq_true_eq,List.length_cons,List.all_cons]at h;obtain⟨⟨h1,h2,h3⟩,h4⟩:=h;rw[DO,Int.one_mul]at h4;exact⟨by simp only[bA,Bool.and_eq_true,decide_eq_true_eq];exact⟨⟨by omega,h3⟩,h4⟩,by omega⟩
theorem K0 {n:aE} {first:Bool} {s:List Int} {p:List Int×List (List Int)} (h:gK n first s=some p):bA p.1=true/\p.1.length<=3:=by
 rw[gK]at h;split at h
 ·cases h
 ·split at h
  ·rename_i hc;cases h;rw[Bool.and_eq_true]at hc;exact CM hc.1
  ·cases h
def EO (n₀:Nat) (J Jx:List bW->World->Prop) (c:Nat) (pre:List bW) (s:List Int) (res:Option (List Int×List (List Int))) (W:World) (e:Ending) (W':World):Prop:=
 ((∃v xs p,dG n₀ W W'/\e=.returned (.tuple #[v,.bool true])/\xs.length<=2*c/\res=some p/\aM n₀ W' v p.1/\bA p.1=true/\J (pre++xs) W'/\gU xs/\jV xs=p.2/\iA s xs=p.1)\/
  (∃v xs,e=.returned (.tuple #[v,.bool false])/\((J (pre++xs) W'/\¬gU xs)\/(Jx (pre++xs) W'/\(¬gU xs->res=none)))))
def uJ (P:Program) (n₀ l:Nat) (J Jx:List bW->World->Prop):Prop:=
 ∀(m:Nat) (pre:List bW) (x:bW) (W:World),pre.length<200->J pre W->pS n₀ x W->YieldAt Fence.wide m P l (nW x) W fun e W'=>
  (e=.returned (.bool true)/\J (pre++[x]) W'/\dG n₀ W W')\/(e=.returned (.bool false)/\Jx (pre++[x]) W')
def uK (n:aE):Prop:=(n.kind=2\/n.kind=8\/n.kind=9->jN n)/\(n.kind=12->(1<=n.heads/\n.heads<=4096)/\(0<=n.inn/\n.inn<=4096))
def yI:Prop:=∀(g n₀:Nat) (n:aE) (ob:Option Addr) (nb cb:Nat) (o:Option Addr) (cap:Nat) (first:Bool) (nm:ByteArray) (s:List Int) (w:World),fL g n₀ n (.slice ob nb cb) o cap first nm s w->uK n->
 Calls Tryz.prog 203 #[.pointer (some ⟨g,0,none⟩)] w (AV g n₀ n (.slice ob nb cb) (.slice o s.length cap) first nm w (gK n first s))
mutual
def mK:aB->Nat->Prop
 |.mk n body,d=>body.length<=64/\((n.kind=13/\0<d/\i7 body (d-1))\/(n.kind≠13/\uK n))
def i7:List aB->Nat->Prop
 |[],_=>True
 |l::r,d=>mK l d/\i7 r d
end
theorem i7.at {ls:List aB} {d:Nat} (h:i7 ls d) (k:Nat) (hk:k<ls.length):mK ls[k] d:=by
 induction ls generalizing k with
 |nil=>simp at hk
 |cons l r ih=>
  rw[i7]at h;cases k with
  |zero=>exact h.1
  |succ k=>exact ih h.2 k (by simpa using hk)
def qD (P:Program) (f:Nat) (w₀:World) (l B0:Nat) (J Jx:List bW->World->Prop) (ls:List aB):Prop:=
 ∀(m d:Nat) (vl:Value) (name:ByteArray) (first:Bool) (o:Option Addr) (cap:Nat) (s:List Int) (pre:List bW) (W:World),bO w₀ vl ls->i7 ls d->ls.length<=64->Below w₀.heap.size w₀ W->B0<=W.heap.size->aM w₀.heap.size W (.slice o s.length cap) s->bA s=true->name.size+30*d<=1000->pre.length+2*aS ls<=200->J pre W->
  CallsIn Fence.wide m P f #[vl,.string name,.bool first,.slice o s.length cap,.func (.yield l) #[] #[]] W (EO w₀.heap.size J Jx (aS ls) pre s (bV first s ls) W)
theorem RS (g n₀:Nat) (n:aE) (ob:Option Addr) (nb cb:Nat) (o:Option Addr) (cap:Nat) (first:Bool) (nm:ByteArray) (s:List Int) (w:World) (h:fL g n₀ n (.slice ob nb cb) o cap first nm s w)
  (I:n.kind=8) (hw:jN n):
  Calls Tryz.prog 207 #[.pointer (some ⟨g,0,none⟩)] w (fF g n₀ n (.slice ob nb cb) (.slice o s.length cap) first nm w (aK n first s)):=by
 have T:=Za h;obtain⟨ad,U,ae⟩:=eC h.sh;obtain⟨res,D⟩:=Zx (bZ n s);have V:Hid (aK n first s=res.map (fun p=>(aF s 0::p,[]))):=Za (by rw[aK,I,D];cases bZ n s<;>rfl);have HW:=Za hw;have E:=Za D;obtain⟨i0,hi,X,Y,Z⟩:=info_parts jX;clear hw D;obtain⟨k,k1,k2,k3,k4,k5,k6,k7⟩:=n;have I:k=8:=I;subst I;obtain⟨c0,c1,c2,c3,c4,c5,c6,c7,c8,c9⟩:=h.box.r10;have J:=h.box.lt;clear h;go_enter Tryz.func207,Tryz.ntmps207;go_wp2_with fail;go_region;have F:Below w.heap.size w (w.alloc (.cells #[.int .i64 8,.int .i64 k1,.int .i64 k2,.int .i64 k3,.int .i64 k4,.int .i64 k5,.int .i64 k6,.int .i64 k7,.slice ob nb cb] 175)).drew:=((Zc _ _).alloc (Zb _) _).drew;have B:aA (w.alloc (.cells #[.int .i64 8,.int .i64 k1,.int .i64 k2,.int .i64 k3,.int .i64 k4,.int .i64 k5,.int .i64 k6,.int .i64 k7,.slice ob nb cb] 175)).drew w.heap.size 175 #[.int .i64 8,.int .i64 k1,.int .i64 k2,.int .i64 k3,.int .i64 k4,.int .i64 k5,.int .i64 k6,.int .i64 k7,.slice ob nb cb]:=aA.new w _ _;clear c0 c1 c2 c3 c4 c5 c6 c7 c8 c9;generalize (w.alloc (.cells #[.int .i64 8,.int .i64 k1,.int .i64 k2,.int .i64 k3,.int .i64 k4,.int .i64 k5,.int .i64 k6,.int .i64 k7,.slice ob nb cb] 175)).drew=W1 at F B ⊢;obtain⟨lb,L⟩:=Zx w.heap.size;rw[<-L]at B ⊢;have M:=Za B;have A:=Za (T.o.box.next F);have HS:=Za (T.o.rd.below F);have HP:=Za (bE.below F (Nat.le_of_lt J));have N:=Za (show g<lb/\lb<W1.heap.size from⟨by omega,B.lt⟩);obtain⟨c0,c1,c2,c3,c4,c5,c6,c7⟩:=B.r8;have d9:=A.o.q 9 rfl;have d10:=A.o.q 10 rfl;have d12:=A.o.q 12 rfl;have f10:=A.o.free 10;clear F B L J;have R:=Za (rG g n₀ ⟨8,k1,k2,k3,k4,k5,k6,k7⟩ (.slice ob nb cb) (.slice none 0 0) (.slice none 0 0) first nm 0 false o cap s W1 A.o HS.o U (by omega) HW.o);rw[<-E.o]at R;cases res with
 |none=>
  go_wp2_with(go_at_call 211;refine R.o.mono ?_;rintro e w2 ⟨C,v,rfl,_⟩;refine aD ?_);have HX:=Za C;clear C;refine aC ?_;go_wp2_with fail;go_ret;exact⟨HP.o.trans (bE.below HX.o (Nat.le_of_lt (Nat.lt_trans N.o.1 N.o.2))),_,_,[],A.o.next HX.o,aY.nil _ _ _,by rw[V.o];rfl,fun p hp=>(by rw[V.o]at hp;cases hp),fun _=>⟨_,_,_,rfl⟩⟩
 |some p=>
  have af:2<=s.length/\s.length<=3:=by
   have:=E.o;rw[bZ]at this;split at this
   ·omega
   ·cases this
  have ag:p.length<=4:=by
   have:=E.o;rw[bZ]at this;split at this
   ·have:=mT this.symm;rw[List.length_tail]at this;omega
   ·cases this
  obtain⟨b,off,rfl,e0⟩:=HS.o.1.cell 0 (by omega);rw[Nat.add_zero]at e0;have HA:=Za (show dP g n₀ lb ⟨8,k1,k2,k3,k4,k5,k6,k7⟩ (.slice ob nb cb) (.slice (some ⟨b,off,none⟩) s.length cap) (.slice none 0 0) (.slice none 0 0) first nm [] [] w W1 from⟨HP.o,A.o,M.o,aY.nil _ _ _,aM.nil _ _⟩);have ac:(0:Int)<s.length:=by omega
  have aa:=T.o.n0;go_wp2_with(go_at_call 211;refine R.o.mono ?_;rintro e w2 ⟨C,v,rfl,ho⟩;refine aD ?_);have H:=ho p rfl;obtain⟨op,kp,rfl⟩:=aJ H;have O:=Za (HA.o.alloc C);have ab:=Za (Rd.of_own H);have d9':=O.o.box.q 9 rfl;have e0':w2.cell? ⟨b,off,none⟩=some (.int .i64 (aF s 0)):=(C.cell (p:=⟨b,off,none⟩) (aP e0)).trans e0;clear ho H C HA R c0 c1 c2 c3 c4 c5 c6 c7 d9 d10 d12 f10 e0 A M HP HS;refine aC ?_;go_wp2_with(at_builtin;refine aD ?_);refine aC ?_;have P:=Za (fV w2 (aF s 0));refine kI rfl _ _ 30 rfl w2.heap.size 3 .i64 i0 8 Tryz.underlying30 hi X Y Z _ [aF s 0] rfl P.o _ p rfl (ab.o.alloc _) (by unfold maxLen;simp;omega) (by simp;omega) (by simp) ?_;intro v' w3 G hg _;have HF:=Za (O.o.put (out:=aF s 0::p) ((((Zc _ _).alloc (Zb _) _).grown hg (by simp) (fun k I=>(P.o.lt k I).1))) (aM.of_own G) aa);have e3:=HF.o.1.1;have e4:=HF.o.1.2;obtain⟨oq,kq,rfl⟩:=aJ G;clear G hg;go_wp2_with fail;go_ret;exact HF.o.2.fin V.o rfl
theorem K3 (g n₀:Nat) (n:aE) (ob:Option Addr) (nb cb:Nat) (o:Option Addr) (cap:Nat) (first:Bool) (nm:ByteArray) (s:List Int) (w:World) (h:fL g n₀ n (.slice ob nb cb) o cap first nm s w)
  (I:n.kind=9) (hw:jN n):
  Calls Tryz.prog 207 #[.pointer (some ⟨g,0,none⟩)] w (fF g n₀ n (.slice ob nb cb) (.slice o s.length cap) first nm w (aK n first s)):=by
 have T:=Za h;obtain⟨ad,U,ae⟩:=eC h.sh;obtain⟨res,D⟩:=Zx (bZ n s);have V:Hid (aK n first s=res.map (fun p=>(aF s 0::p,[]))):=Za (by rw[aK,I,D];cases bZ n s<;>rfl);have HW:=Za hw;have E:=Za D;obtain⟨i0,hi,X,Y,Z⟩:=info_parts jX;clear hw D;obtain⟨k,k1,k2,k3,k4,k5,k6,k7⟩:=n;have I:k=9:=I;subst I;obtain⟨c0,c1,c2,c3,c4,c5,c6,c7,c8,c9⟩:=h.box.r10;have J:=h.box.lt;clear h;go_enter Tryz.func207,Tryz.ntmps207;go_wp2_with fail;go_region;have F:Below w.heap.size w (w.alloc (.cells #[.int .i64 9,.int .i64 k1,.int .i64 k2,.int .i64 k3,.int .i64 k4,.int .i64 k5,.int .i64 k6,.int .i64 k7,.slice ob nb cb] 175)).drew:=((Zc _ _).alloc (Zb _) _).drew;have B:aA (w.alloc (.cells #[.int .i64 9,.int .i64 k1,.int .i64 k2,.int .i64 k3,.int .i64 k4,.int .i64 k5,.int .i64 k6,.int .i64 k7,.slice ob nb cb] 175)).drew w.heap.size 175 #[.int .i64 9,.int .i64 k1,.int .i64 k2,.int .i64 k3,.int .i64 k4,.int .i64 k5,.int .i64 k6,.int .i64 k7,.slice ob nb cb]:=aA.new w _ _;clear c0 c1 c2 c3 c4 c5 c6 c7 c8 c9;generalize (w.alloc (.cells #[.int .i64 9,.int .i64 k1,.int .i64 k2,.int .i64 k3,.int .i64 k4,.int .i64 k5,.int .i64 k6,.int .i64 k7,.slice ob nb cb] 175)).drew=W1 at F B ⊢;obtain⟨lb,L⟩:=Zx w.heap.size;rw[<-L]at B ⊢;have M:=Za B;have A:=Za (T.o.box.next F);have HS:=Za (T.o.rd.below F);have HP:=Za (bE.below F (Nat.le_of_lt J));have N:=Za (show g<lb/\lb<W1.heap.size from⟨by omega,B.lt⟩);obtain⟨c0,c1,c2,c3,c4,c5,c6,c7⟩:=B.r8;have d9:=A.o.q 9 rfl;have d10:=A.o.q 10 rfl;have d12:=A.o.q 12 rfl;have f10:=A.o.free 10;clear F B L J;have R:=Za (rG g n₀ ⟨9,k1,k2,k3,k4,k5,k6,k7⟩ (.slice ob nb cb) (.slice none 0 0) (.slice none 0 0) first nm 0 false o cap s W1 A.o HS.o U (by omega) HW.o);rw[<-E.o]at R;cases res with
 |none=>
  go_wp2_with(go_at_call 211;refine R.o.mono ?_;rintro e w2 ⟨C,v,rfl,_⟩;refine aD ?_);have HX:=Za C;clear C;refine aC ?_;go_wp2_with fail;go_ret;exact⟨HP.o.trans (bE.below HX.o (Nat.le_of_lt (Nat.lt_trans N.o.1 N.o.2))),_,_,[],A.o.next HX.o,aY.nil _ _ _,by rw[V.o];rfl,fun p hp=>(by rw[V.o]at hp;cases hp),fun _=>⟨_,_,_,rfl⟩⟩
 |some p=>
  have af:2<=s.length/\s.length<=3:=by
   have:=E.o;rw[bZ]at this;split at this
   ·omega
   ·cases this
  have ag:p.length<=4:=by
   have:=E.o;rw[bZ]at this;split at this
   ·have:=mT this.symm;rw[List.length_tail]at this;omega
   ·cases this
  obtain⟨b,off,rfl,e0⟩:=HS.o.1.cell 0 (by omega);rw[Nat.add_zero]at e0;have HA:=Za (show dP g n₀ lb ⟨9,k1,k2,k3,k4,k5,k6,k7⟩ (.slice ob nb cb) (.slice (some ⟨b,off,none⟩) s.length cap) (.slice none 0 0) (.slice none 0 0) first nm [] [] w W1 from⟨HP.o,A.o,M.o,aY.nil _ _ _,aM.nil _ _⟩);have ac:(0:Int)<s.length:=by omega
  have aa:=T.o.n0;go_wp2_with(go_at_call 211;refine R.o.mono ?_;rintro e w2 ⟨C,v,rfl,ho⟩;refine aD ?_);have H:=ho p rfl;obtain⟨op,kp,rfl⟩:=aJ H;have O:=Za (HA.o.alloc C);have ab:=Za (Rd.of_own H);have d9':=O.o.box.q 9 rfl;have e0':w2.cell? ⟨b,off,none⟩=some (.int .i64 (aF s 0)):=(C.cell (p:=⟨b,off,none⟩) (aP e0)).trans e0;clear ho H C HA R c0 c1 c2 c3 c4 c5 c6 c7 d9 d10 d12 f10 e0 A M HP HS;refine aC ?_;go_wp2_with(at_builtin;refine aD ?_);refine aC ?_;have P:=Za (fV w2 (aF s 0));refine kI rfl _ _ 30 rfl w2.heap.size 3 .i64 i0 8 Tryz.underlying30 hi X Y Z _ [aF s 0] rfl P.o _ p rfl (ab.o.alloc _) (by unfold maxLen;simp;omega) (by simp;omega) (by simp) ?_;intro v' w3 G hg _;have HF:=Za (O.o.put (out:=aF s 0::p) ((((Zc _ _).alloc (Zb _) _).grown hg (by simp) (fun k I=>(P.o.lt k I).1))) (aM.of_own G) aa);have e3:=HF.o.1.1;have e4:=HF.o.1.2;obtain⟨oq,kq,rfl⟩:=aJ G;clear G hg;go_wp2_with fail;go_ret;exact HF.o.2.fin V.o rfl
theorem AM (a b:List aB):aS (a++b)=aS a+aS b:=by
 induction a with
 |nil=>simp[aS]
 |cons x r ih=>rw[List.cons_append,aS,aS,ih];omega
theorem rU (ls:List aB) (k:Nat) (h:k<ls.length):aS (ls.take (k+1))=aS (ls.take k)+(1+aS (ls[k]).body):=by rw[List.take_succ_eq_append_getElem h,AM,aS,aB.count_eq,aS];omega
theorem CP (ls:List aB) (k:Nat):aS (ls.take k)<=aS ls:=by have:=AM (ls.take k) (ls.drop k);rw[List.take_append_drop]at this;omega
def uI (ls:List aB):Prop:=∀(v:Value) (w:World),bO w v ls->ls.length<=140737488351232->aS ls<=1000000000000000->
 Calls Tryz.prog 108 #[v] w fun e w'=>e=.returned (.int .i64 (aS ls:Nat))/\w=w'
theorem AK (ls:List aB) (C:∀l∈ls,uI l.body):uI ls:=by
 intro v w hr hl hc;obtain⟨o,cap,rfl⟩:=hr.len;have O:=Za hr;have H:=Za C;have P:=Za hc;clear hr C hc;go_enter Tryz.func108,Tryz.ntmps108;go_wp2;go_loopw[3,4] (fun c i wr=>∃(k m:Nat),k<=ls.length/\i=.int .i64 k/\c=.int .i64 m/\Hid (m=aS (ls.take k))/\m<=1000000000000000/\Hid (wr=w)) (fun _ i _=>ls.length-(intOf i).toNat)
 case atStart=>exact⟨0,0,Ze _,rfl,rfl,Za rfl,by omega,Za rfl⟩
 case round=>
  obtain⟨k,m,hk,rfl,rfl,I,hm,R⟩:=hrel;rw[R.o];by_cases B:k<ls.length
  ·obtain⟨b,off,vb,rfl,A,E,D⟩:=O.o.lay k B;have c8:w.cell? ⟨b,off+k*9+8,none⟩=some vb:=A 8 _ rfl;have F:=CP ls (k+1);rw[rU ls k B,<-I.o]at F;have J:=P.o;obtain⟨q,hq⟩:=Zx (aS (ls[k]).body);rw[<-hq]at F;have N:=Za hq;have L:m+(1+q)<=1000000000000000:=by omega
   have G:=Za (H.o _ (List.getElem_mem B) vb w E D (by omega));obtain⟨ob,cb,rfl⟩:=E.len;clear A E D F J hq;go_wp2_with fail;refine G.o.mono ?_;rintro e w' ⟨rfl,rfl⟩;rw[<-N.o];go_wp2;go_roundw
   case rel=>exact⟨k+1,m+(1+q),by omega,by go_num,by go_num,Za (by rw[rU ls k B,<-I.o,<-N.o]),L,(by first|exact Za trivial|exact Za rfl)⟩
   case measure=>simp[intOf];omega
  ·obtain rfl:k=ls.length:=by omega
   have M:=Za (show m=aS ls by rw[I.o,List.take_length]);go_wp2;go_ret;exact⟨by rw[M.o];rfl,rfl⟩
theorem N8:∀l:aB,uI l.body:=aB.ind fun n body h=>AK body h
theorem N4 (ls:List aB):uI ls:=AK ls fun l _=>N8 l
def jG (word:List UInt8) (xs:List Int):List UInt8:=word++cZ xs++[10]
theorem EI (word:List UInt8) (v:Value) (xs:List Int) (w:World) (hr:Rd w .i64 v xs) (hb:∀x∈xs,0<=x/\x<1000000000) (hx:xs.length<=1000) (hl:(jG word xs).length<=100000):
  Calls Tryz.prog 117 #[.string ⟨word.toArray⟩,v] w fun e w'=>e=.returned (.string ⟨(jG word xs).toArray⟩)/\Below w.heap.size w w':=by
 obtain⟨o,cap,rfl⟩:=aU hr;have HR:=Za hr;have HB:=Za hb;have aa:word.length+(cZ xs).length<=99999:=by rw[jG,Zl,Zl]at hl;simp at hl;omega
 obtain⟨fin,B⟩:=Zx (jG word xs);rw[<-B];have HF:=Za B;clear hr hb hl B;go_enter Tryz.func117,Tryz.ntmps117;go_wp2;go_loopw[5,6] (fun s i wr=>∃k:Nat,k<=xs.length/\i=.int .i64 k/\s=.string ⟨(word++cZ (xs.take k)).toArray⟩/\Below w.heap.size w wr) (fun _ i _=>xs.length-(intOf i).toNat)
 case atStart=>exact⟨0,Ze _,rfl,by rw[List.take_zero,cZ,List.append_nil],Zc _ _⟩
 case round=>
  obtain⟨k,hk,rfl,rfl,I⟩:=hrel;obtain⟨wl,rfl⟩:=Zx wr;have E:=Za I;clear I;obtain⟨cur,A⟩:=Zx (word++cZ (xs.take k));by_cases G:k<xs.length
  ·obtain⟨b,off,rfl,hc⟩:=HR.o.cell k G;have c0:=(E.o.cell (p:=⟨b,off+k,none⟩) (aP hc)).trans hc;have J:=HB.o _ (mS xs k G);have C:=yY xs k G;have U:=EL xs (k+1);obtain⟨x,hx⟩:∃x:Nat,aF xs k=(x:Int):=⟨(aF xs k).toNat,by omega⟩;rw[hx]at c0 J C;obtain⟨ix,H⟩:=Zx (Lib.itoa (x:Int));rw[<-H]at C;obtain⟨s1,F⟩:=Zy (cur++[32]);obtain⟨nx,D⟩:=Zy (s1++ix);have L:nx.length<=99999:=by
    have e:nx=word++cZ (xs.take (k+1)):=by rw[<-D,<-F,A,C];simp
    rw[e,Zl];omega
   have A1:=eW cur [32] s1 F (by rw[<-D,Zl]at L;omega);have A2:=eW s1 ix nx D (by omega);have V:=Za (show word++cZ (xs.take (k+1))=nx by rw[C,<-D,<-F,A];simp);have X:=Za (fun W=>AP x W (by omega));have M:=Za (fun(vf:Value) (W:World) (h:kJ W vf x)=>CH x vf W h (by omega));rw[<-H]at M;rw[<-A];clear hc J C U hx A F D L H;go_wp2_with(first
    |(go_at_call 137;refine(X.o _).mono ?_;rintro e wf ⟨⟨vf,rfl,N⟩,O⟩;have Y:=Za N;have P:=Za (E.o.trans (O.mono E.o.size));clear N O)
    |(go_at_call 136;refine(M.o _ _ Y.o).mono ?_;rintro e wt ⟨rfl,R⟩;have Z:=Za (P.o.trans (R.mono P.o.size));clear R))
   go_roundw
   case rel=>exact⟨k+1,by omega,by go_num,by rw[V.o],Z.o⟩
   case measure=>simp[intOf];omega
  ·obtain rfl:k=xs.length:=by omega
   have T:xs.take xs.length=xs:=List.take_length;rw[T]at A ⊢;have A1:=eW cur [10] fin (by rw[HF.o,jG,A]) (by rw[HF.o,jG,Zl,Zl];simp;omega);rw[<-A];clear T A;go_wp2;go_ret;exact⟨rfl,E.o⟩
theorem MY:(Tryz.prog.info? 9).map (fun i=>(i.zero,i.size,i.bytes))=some (some (.string ⟨#[]⟩),1,16):=by kernel_rfl
def strV (x:List UInt8):Value:=.string ⟨x.toArray⟩
def iU (w:World) (B:Nat) (v:Value) (ws:List (List UInt8)):Prop:=w.ownsRow B 9 1 v ws.length (ws.map strV)
theorem NG (l cur:List UInt8) (i j:Nat) (A:i<=j) (hj:j<=l.length) (hc:(l.take j).drop i=cur) (w:World):
  (Instr.slice 9 (.string ⟨l.toArray⟩) (some (.int .i64 i)) (some (.int .i64 j)) none).run Tryz.prog w=.ok (.string ⟨cur.toArray⟩) w:=by
 subst hc;rw[run_slice_string w 9 _ .i64 .i64 _ _ Tryz.underlying9 (by omega) (by omega) (by simp[ByteArray.size];omega)];simp only[Int.toNat_natCast];rw[ByteArray.extract_mk]
 congr 4
 rw[List.drop_take]
attribute [local go_sem] wT
theorem xIO (o:Option (List (List UInt8))) (a b:List (List UInt8)):(o.map (b++·)).map (a++·)=o.map ((a++b)++·):=by cases o<;>simp
theorem LV (l:List UInt8) (w:World) (hl:l.length<=100000):
  Calls Tryz.prog 153 #[.string ⟨l.toArray⟩] w fun e w'=>(∃v,e=.returned v/\iU w' w.heap.size v (eI l))/\Below w.heap.size w w':=by
 obtain⟨i0,hi,V,X,Y⟩:=info_parts MY;have F:(⟨l.toArray⟩:ByteArray).size=l.length:=by simp[ByteArray.size]
 have ac:=Za F;clear F;go_enter Tryz.func153,Tryz.ntmps153;go_wp2;go_loopw[2,3,4] (fun v f i wr=>∃(done:List (List UInt8)) (k fr:Nat),f=.int .i64 fr/\i=.int .i64 k/\iU wr w.heap.size v done/\Below w.heap.size w wr/\done.length<=fr/\fr<=100001/\
  ((k<=l.length/\fr<=k/\eB [] l=(eB ((l.take k).drop fr) (l.drop k)).map (done++·))\/(k=l.length+1/\eB [] l=some done))) (fun _ _ i _=>l.length+1-(intOf i).toNat)
 case atStart=>exact⟨[],0,0,rfl,rfl,World.ownsRow_nil _ _ _ _,Zc _ _,Zb _,by omega,.inl ⟨Ze _,Zb _,by simp⟩⟩
 case round=>
  obtain⟨done,k,fr,rfl,rfl,L,hB,ad,ae,O⟩:=hrel;have U:=Za L;have M:=Za hB;have F:=ac.o;clear L hB;rcases O with⟨hk,af,A⟩|⟨rfl,A⟩
  ·obtain⟨cur,B⟩:=Zy ((l.take k).drop fr);rw[B]at A;have Z:=NG l cur fr k af hk B;have H:cur.length=k-fr:=by rw[<-B,List.length_drop,List.length_take];omega
   have D:cur=[]↔k=fr:=by rw[<-List.length_eq_zero_iff,H];omega
   have ah:=Za D;by_cases P:k<l.length
   ·have hd:l.drop k=l[k]::l.drop (k+1):=List.drop_eq_getElem_cons P;have J:l.take (k+1)=l.take k++[l[k]]:=List.take_succ_eq_append_getElem P;rw[hd,eB]at A;have ag:k<(⟨l.toArray⟩:ByteArray).size:=by rw[F];exact P
    by_cases G:l[k]=32
    ·rw[if_pos G]at A;have aa:(l[k].toNat:Int)=32:=by rw[G];rfl
     by_cases I:k=fr
     ·rw[if_pos (D.2 I)]at A;have HW:=Za (show eI l=[] by rw[eI,A];rfl);subst I;clear A B hd J D H G F;go_wp2;go_ret;refine⟨⟨_,rfl,?_⟩,M.o⟩;rw[HW.o];exact World.ownsRow_nil _ _ _ _
     ·rw[if_neg (fun h=>I (D.1 h))]at A;have N:((k:Int)==(fr:Int))=false:=by simp;omega
      have E:=Za (show eB [] l=(eB [] (l.drop (k+1))).map ((done++[cur])++·) by
       rw[A,<-xIO];rfl)
      have ab:done.length<=k:=by omega
      clear A B hd J D H G F;go_wp2_with(at_builtin;refine wpList_append_own _ rfl _ _ 143 rfl w.heap.size 9 i0 (.string ⟨#[]⟩) 1 16 Tryz.underlying143 hi V X Y rfl (by decide) _ _ _ rfl (U.o.alloc _) ⟨wr.heap.size,0,none⟩ 1 1 [.string ⟨cur.toArray⟩] rfl rfl (cell_one_new _ _ _) (by simp[Value.oneCell']) (by unfold maxLen;omega) (by omega) (by have:=M.o.size;simp;omega) ?_;intro v' w1 hown' C _);have R:=Za (show iU w1 w.heap.size v' (done++[cur]) by rw[iU,Zl,List.map_append];exact hown');have T:=Za (show Below w.heap.size w w1 from xV M.o (Zb _) U.o C);clear hown' C;go_roundw
      case rel=>exact⟨done++[cur],k+1,k+1,by go_num,by go_num,R.o,T.o,by rw[Zl];simp;omega,by omega,.inl ⟨by omega,Zb _,by rw[E.o];congr 2;rw[List.drop_eq_nil_of_le];rw[List.length_take];omega⟩⟩
      case measure=>simp[intOf];omega
    ·rw[if_neg G]at A;have aa:¬(l[k].toNat:Int)=32:=fun h=>G (by
      have:l[k].toNat=(32:UInt8).toNat:=by have:(32:UInt8).toNat=32:=rfl;omega
      exact UInt8.toNat_inj.1 this)
     have E:=Za (show eB [] l=(eB ((l.take (k+1)).drop fr) (l.drop (k+1))).map (done++·) by
      rw[A,J,List.drop_append_of_le_length (by rw[List.length_take];omega),B])
     clear A B hd J D H G F Z;go_wp2;go_roundw
     case rel=>exact⟨done,k+1,fr,rfl,by go_num,U.o,M.o,ad,ae,.inl ⟨by omega,by omega,E.o⟩⟩
     case measure=>simp[intOf];omega
   ·obtain rfl:k=l.length:=by omega
    rw[List.drop_length,eB]at A;by_cases I:l.length=fr
    ·rw[if_pos (D.2 I)]at A;have HW:=Za (show eI l=[] by rw[eI,A];rfl);have N:((l.length:Int)==(fr:Int))=true:=by simp;omega
     clear A B D H Z;go_wp2;go_ret;refine⟨⟨_,rfl,?_⟩,M.o⟩;rw[HW.o];exact World.ownsRow_nil _ _ _ _
    ·rw[if_neg (fun h=>I (D.1 h))]at A;have N:((l.length:Int)==(fr:Int))=false:=by simp;omega
     have E:=Za (show eB [] l=some (done++[cur]) by rw[A,Option.map_some]);have ab:done.length<=l.length:=by omega
     clear A B D H;go_wp2_with(at_builtin;refine wpList_append_own _ rfl _ _ 143 rfl w.heap.size 9 i0 (.string ⟨#[]⟩) 1 16 Tryz.underlying143 hi V X Y rfl (by decide) _ _ _ rfl (U.o.alloc _) ⟨wr.heap.size,0,none⟩ 1 1 [.string ⟨cur.toArray⟩] rfl rfl (cell_one_new _ _ _) (by simp[Value.oneCell']) (by unfold maxLen;omega) (by omega) (by have:=M.o.size;simp;omega) ?_;intro v' w1 hown' C _);have R:=Za (show iU w1 w.heap.size v' (done++[cur]) by rw[iU,Zl,List.map_append];exact hown');have T:=Za (show Below w.heap.size w w1 from xV M.o (Zb _) U.o C);clear hown' C;go_roundw
     case rel=>exact⟨done++[cur],l.length+1,l.length+1,by go_num,by go_num,R.o,T.o,by rw[Zl];simp;omega,by omega,.inr ⟨rfl,E.o⟩⟩
     case measure=>simp[intOf]
  ·have HW:=Za (show eI l=done by rw[eI,A];rfl);clear A;go_wp2;go_ret;exact⟨⟨_,rfl,by rw[HW.o];exact U.o⟩,M.o⟩
def zE {β:Type} (sb:Nat) (J:β->World->Prop):Prop:=∀s W W' row,J s W->W.grownBy W' row->(∀r,row=some r->r=sb)->J s W'
def SeqS {α:Type} (sb:Nat) (F:Fence) (n:Nat) (P:Program) (g:Nat) (lb:Array Value) (encs:α->Array Value) (Rdy:List α->α->World->Prop) (Kp:World->World->Prop) (S Sp:List α->Prop) (w:World):Prop:=
 ∀(l:Nat) (J Jx:List α->World->Prop) (W:World),Below w.heap.size w W->zE sb J->zE sb Jx->
  (∀pre x W1,J pre W1->Rdy pre x W1->YieldAt F (n-1) P l (encs x) W1 fun e W'=>
   (e=.returned (.bool true)/\J (pre++[x]) W'/\Kp W1 W')\/(e=.returned (.bool false)/\Jx (pre++[x]) W'))->
  J [] W->
  CallsIn F n P g (#[.func (.yield l) #[] #[]]++lb) W fun e W'=>(∃v,e=.returned v)/\((∃xs,S xs/\J xs W')\/(∃pre,Sp pre/\Jx pre W'))
def mC {β:Type} (sb B:Nat) (I:β->World->Prop):Prop:=
 ∀s W W' row,I s W->W.grownBy W' row->(∀r,row=some r->r=sb\/B<=r/\∃o:Obj,W.heap[r]?=some o/\o.isCells=false)->I s W'
theorem mC.put {β:Type} {sb B:Nat} {I:β->World->Prop} (h:mC sb B I) {s:β} {W:World} {l:Nat} {o:Obj} (o':Obj) (hs:I s W) (hB:B<=l) (hl:W.heap[l]?=some o) (ho:o.isCells=false):I s (W.putObj l o'):=
 h s W _ (some l) hs (grownBy_putObj' W l o') (fun r e=>by cases e;exact .inr ⟨hB,o,hl,ho⟩)
theorem mC.alloc {β:Type} {sb B:Nat} {I:β->World->Prop} (h:mC sb B I) {s:β} {W:World} (o:Obj) (hs:I s W):I s (W.alloc o):=
 h s W _ none hs (World.grownBy_alloc W o none) (fun r e=>by cases e)
section
variable {F:Fence} {n:Nat} {P:Program}
theorem UO {α:Type} {sb:Nat} {g:Operand} {ps:Array Tmp} {assign body:Code} {Q:Exit->Act->World->Prop} {a:Act} {w:World}
  (au:F.round=none) (h1:1<=n) {gf:Nat} {lb:Array Value} (hg:a.eval g=.func (.func gf) #[] lb) (av:F.fn gf) (eg:∀args w,(callFunc gf args).run P w=.ok (.enter gf args) w)
  {encs:α->Array Value} {Rdy:List α->α->World->Prop} {Kp:World->World->Prop} {S Sp:List α->Prop} {w0:World} (aj:SeqS sb F (n-1) P gf lb encs Rdy Kp S Sp w0)
  (bh:sb<w.heap.size)
  (Z:∀{A B C:World},Kp A B->Kp B C->Kp A C) (ak:∀(W:World) (l:Nat) (o o':Obj),w.heap.size<=l->W.heap[l]?=some o->o.isCells=false->o.isWalk=false->Kp W (W.putObj l o')) (al:Below w0.heap.size w0 w) (aw:∀x,(encs x).size=ps.size)
  (I:List α->World->Prop) (Ix:Code->List α->World->Prop) (hI:mC sb w.heap.size I) (aa:∀c,mC sb w.heap.size (Ix c)) (h0:I [] w) (Ax:List α->α->Act->World->Prop) (ax:∀p x a',mC sb w.heap.size (fun(_:Unit) W=>Ax p x a' W))
  (O:∀(l:Nat) (pre:List α) (x:α) (W:World) (K:Act->World->Prop),I pre W->Rdy pre x W->(∀a' W',KeepsFrom w.heap.size W W'->Kp W W'->I pre W'->Ax pre x a' W'->K a' W')->
   assign.wpIn (F.inRound l) (n-1-1) P (Exit.then K (fun _ _ _=>False)) {tmps:=(ps.zip (encs x)).foldl (fun t (p,v)=>t.setIfInBounds p v) a.tmps,defers:=[]} W)
  (ab:∀(l:Nat) (pre:List α) (x:α) (a':Act) (W:World),I pre W->Ax pre x a' W->body.wpIn (F.inRound l) (n-1-1) P (ownPostG w.heap.size Kp I Ix (pre++[x]) W) a' W)
  (ac:∀(D:Nat) (xs:List α) (W:World),w.heap.size<=D->S xs->I xs W->W.heap[D]?=some (.deferred (some []))->Q .normal {a with defers:={target:=.collected D,args:=#[]}::a.defers} W)
  (ad:∀(D:Nat) (c:Code) (pre:List α) (W:World),w.heap.size<=D->Sp pre->Ix c pre W->W.heap[D]?=some (.deferred (some []))->c.wpIn F n P Q {a with defers:={target:=.collected D,args:=#[]}::a.defers} W):
  (Code.rangeFunc g ps assign body).wpIn F n P Q a w:=by
 refine wpIn_rangeFunc ?_;intro fn ay;rw[au];obtain⟨rec,G⟩:∃rec:LoopState->Option Code->Loop,rec=fun st pe=>{state:=st,pending:=pe,fn,tmps:=a.tmps,params:=ps,assign,body,defers:=w.heap.size}:=⟨_,rfl⟩;obtain⟨L,hL⟩:=Zx (w.heap.size+1);obtain⟨D,hD⟩:=Zx w.heap.size;obtain⟨W1,N⟩:=Zy ((w.alloc (.deferred (some []))).alloc (.loop (rec .ready none)));have az:W1.heap[L]?=some (.loop (rec .ready none)):=by
  rw[hL,<-N];have:=World.alloc_heap_new (w.alloc (.deferred (some []))) (.loop (rec .ready none))
  rwa [World.size_alloc]at this
 have ba:W1.heap[D]?=some (.deferred (some [])):=by rw[hD,<-N];exact(Below.heap_alloc _ _ _ (by simp)).trans (World.alloc_heap_new w _)
 have bi:w.heap.size<=W1.heap.size:=by rw[<-N];simp;omega
 have E:w.heap.size<=L/\w.heap.size<=D/\L≠D:=by omega
 have R:∀{A B:World} {row:Option Nat} {st:LoopState} {pe:Option Code},A.grownBy B row->(∀r,row=some r->r=sb)->A.heap[L]?=some (.loop (rec st pe))->A.heap[D]?=some (.deferred (some []))->
   B.heap[L]?=some (.loop (rec st pe))/\B.heap[D]?=some (.deferred (some [])):=fun hg' J M V=>⟨(hg'.block L (Array.getElem?_eq_some_iff.1 M).1 (fun e=>by have:=J _ e.symm;omega)).trans M,(hg'.block D (Array.getElem?_eq_some_iff.1 V).1 (fun e=>by have:=J _ e.symm;omega)).trans V⟩
 have Y:∀{A:World} {row:Option Nat},(∀r,row=some r->r=sb)->∀r,row=some r->r=sb\/w.heap.size<=r/\∃o:Obj,A.heap[r]?=some o/\o.isCells=false:=fun J r e=>.inl (J r e);refine⟨L,[{target:=.collected D,args:=#[]}],W1,{target:=.fn (.func gf) lb,args:=#[.func (.yield L) #[] #[]]},W1,gf,#[.func (.yield L) #[] #[]]++lb,W1,?_,?_,?_,?_,fun _=>h1,?_⟩
 ·rw[<-N,G,hL,hD];exact run_enterLoop_outer _ _ _ _ _
 ·simp only[resolve,hg];simp[go_sem]
 ·intro f' hf';simp[Target.leads]at hf';subst hf';exact av
 ·simp[invoke,go_sem,eg]
 have ae:=aj L (fun pre W=>I pre W/\W.heap[L]?=some (.loop (rec .ready none))/\W.heap[D]?=some (.deferred (some [])))
  (fun pre W=>∃c,Ix c pre W/\W.heap[L]?=some (.loop (rec .done (some c)))/\W.heap[D]?=some (.deferred (some []))) W1
  (by rw[<-N];exact al.trans ((((Zc _ w).alloc (Zb _) _).alloc (by simp) _).mono al.size))
  (fun s A B row hs hg' J=>⟨hI s A B row hs.1 hg' (Y J),R hg' J hs.2.1 hs.2.2⟩)
  (fun s A B row hs hg' J=>by obtain⟨c,hc,M,V⟩:=hs;exact⟨c,aa c s A B row hc hg' (Y J),R hg' J M V⟩)
  ?round ⟨by rw[<-N];exact hI.alloc _ (hI.alloc _ h0),az,ba⟩
 case round=>
  rintro pre x W ⟨hi,M,V⟩ hx;have bj:L<W.heap.size:=(Array.getElem?_eq_some_iff.1 M).1;have hy:=run_yield (P:=P) (args:=encs x) M (by rw[G];exact aw x);rw[G]at hy;refine⟨fn,_,assign,body,hy,roundIn_of_wpIn ay (O _ pre x W _ hi hx ?_)⟩;clear hy;intro a' Wa ao ap bb bc;have T:=ao.same _ _ E.1 M rfl;have bd:=ao.same _ _ E.2.1 V rfl;have aq:L<Wa.heap.size:=(Array.getElem?_eq_some_iff.1 T).1;refine⟨_,run_beginRound T (by rw[G]),?_⟩;obtain⟨busy,U⟩:=Zx ({rec .ready none with state:=.busy});rw[<-U];have be:(Wa.putObj L (.loop busy)).heap[L]?=some (.loop busy):=World.putObj_heap_same aq;have bf:(Wa.putObj L (.loop busy)).heap[D]?=some (.deferred (some [])):=(World.putObj_heap_other E.2.2.symm).trans bd;refine wpIn_mono (ab _ pre x a' _ (hI.put _ bb E.1 T rfl) ((ax pre x a').put (s:=()) _ bc E.1 T rfl)) ?_;have fin:∀(jump:Option Code) (W3:World),KeepsFrom w.heap.size (Wa.putObj L (.loop busy)) W3->
    (Instr.endRound L jump).run P W3=.ok (.bool jump.isNone) (W3.putObj L (.loop (rec (if jump.isNone then .ready else .done) jump)))/\
    W3.heap[L]?=some (.loop busy)/\
    (W3.putObj L (.loop (rec (if jump.isNone then .ready else .done) jump))).heap[L]?=some (.loop (rec (if jump.isNone then .ready else .done) jump))/\
    (W3.putObj L (.loop (rec (if jump.isNone then .ready else .done) jump))).heap[D]?=some (.deferred (some [])):=fun jump W3 hk=>by
   have H:=hk.same _ _ E.1 be rfl;have he:=run_endRound (P:=P) jump H;rw[U,G]at he;rw[G]at*;exact⟨he,H,World.putObj_heap_same (Array.getElem?_eq_some_iff.1 H).1,(World.putObj_heap_other E.2.2.symm).trans (hk.same _ _ E.2.1 bf rfl)⟩
  rintro e a3 W3 X;have out:∀c,KeepsFrom w.heap.size (Wa.putObj L (.loop busy)) W3->Ix c (pre++[x]) W3->∃v W4,(Instr.endRound L (some c)).run P W3=.ok v W4/\(((Ending.returned v=.returned (.bool true)/\(I (pre++[x]) W4/\W4.heap[L]?=some (.loop (rec .ready none))/\W4.heap[D]?=some (.deferred (some [])))/\Kp W W4))\/
    (Ending.returned v=.returned (.bool false)/\∃c,Ix c (pre++[x]) W4/\W4.heap[L]?=some (.loop (rec .done (some c)))/\W4.heap[D]?=some (.deferred (some [])))):=fun c af ag=>by
   obtain⟨J,H,ah,ai⟩:=fin (some c) W3 af;exact⟨_,_,J,.inr ⟨rfl,c,(aa _).put _ ag E.1 H rfl,ah,ai⟩⟩
  cases e with
  |normal=>
   obtain⟨af,ar,ag⟩:=X;obtain⟨J,H,ah,ai⟩:=fin none W3 af;exact⟨_,_,J,.inl ⟨rfl,⟨hI.put _ ag E.1 H rfl,ah,ai⟩,Z ap (Z (Z (ak _ _ _ _ E.1 T rfl rfl) ar) (ak _ _ _ _ E.1 H rfl rfl))⟩⟩
  |ret=>exact out _ X.1 X.2
  |exit id=>exact out _ X.1 X.2
  |goto t=>exact out _ X.1 X.2
  |panic ch=>exact X.elim
  |outgrown=>exact X.elim
 refine ae.mono ?_;rintro e W2 ⟨⟨v,rfl⟩,(⟨xs,hS,hi,M,V⟩|⟨pre,bg,c,hi,M,V⟩)⟩
 ·exact⟨none,_,by have:=run_endLoop (P:=P) M (by rw[G];simp);rw[G]at this;exact this,ac _ xs _ E.2.1 hS (hI.put _ hi E.1 M rfl) ((World.putObj_heap_other E.2.2.symm).trans V)⟩
 ·exact⟨some c,_,by have:=run_endLoop (P:=P) M (by rw[G];simp);rw[G]at this;exact this,ad _ c pre _ E.2.1 bg ((aa c).put _ hi E.1 M rfl) ((World.putObj_heap_other E.2.2.symm).trans V)⟩
end
