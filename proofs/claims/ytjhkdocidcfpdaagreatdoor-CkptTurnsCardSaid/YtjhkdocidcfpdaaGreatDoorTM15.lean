/-
  A part of the proof of a law (packed by program).
-/
import Derived.Test.YtjhkdocidcfpdaaGreatDoorTM12
import Derived.Test.YtjhkdocidcfpdaaGreatDoorTM13
import Derived.Test.YtjhkdocidcfpdaaGreatDoorTM11
import Derived.Test.YtjhkdocidcfpdaaGreatDoorTM14
set_option linter.unusedVariables false
set_option linter.unusedSimpArgs false
set_option maxRecDepth 100000
set_option maxHeartbeats 16000000
open List renaming length_append → Zl
namespace Go.Proofs.YtjhkdocidcfpdaaGreatDoor
open Go.RowKit Go.Shelf Go
structure bR where
 k:Int
 cs:Array Value
 bad:Int
 o:List Int
 ps:List (List Int)
def mF (x:bR):Array Value:=#[.int .i64 x.k,.agg x.cs]
def oI (n₀:Nat) (x:bR) (W:World):Prop:=∃n ob nb cb oi ni ci oo no co ov nv cv first nm fin,x.cs=cG n (.slice ob nb cb) (.slice oi ni ci) (.slice oo no co) (.slice ov nv cv) first nm x.bad fin∧
 (x.bad=0→∃qs,aM n₀ W (.slice oo no co) x.o∧aV W n₀ n₀ (.slice ov nv cv) qs∧x.ps=qs.map (·.sh)∧qs.length≤4∧x.o.length≤8)
def gW (o:Obj):Prop:=∃cs fz,o=.cells cs 251 fz
def zU (T:TypeId):Prop:=T=3∨T=251∨T=175∨T=33
structure cZ (n₀:Nat) (W W':World):Prop where
 low:Below n₀ W W'
 kept:∀(k:Nat) (cs:Array Value) (T:TypeId) (fz:Nat×Nat),zU T→W.heap[k]?=some (.cells cs T fz)→W'.heap[k]?=some (.cells cs T fz)
theorem cZ.refl (n₀:Nat) (W:World):cZ n₀ W W:=⟨Zc _ _,fun _ _ _ _ _ h=>h⟩
theorem cZ.trans {n₀:Nat} {a b c:World} (h:cZ n₀ a b) (k:cZ n₀ b c):cZ n₀ a c:=⟨h.low.trans k.low,fun i cs T fz hT hi=>k.kept i cs T fz hT (h.kept i cs T fz hT hi)⟩
theorem cZ.below {n₀:Nat} {W W':World} (h:Below W.heap.size W W') (hn:n₀≤W.heap.size):cZ n₀ W W':=⟨h.mono hn,fun k cs T fz _ hk=>(h.block k (Array.getElem?_eq_some_iff.1 hk).1).trans hk⟩
theorem cZ.put {n₀:Nat} {W:World} {l:Nat} {o o':Obj} (hl:n₀≤l) (h:W.heap[l]?=some o) (ho:o.isCells=false):cZ n₀ W (W.putObj l o'):=
 ⟨(Zc n₀ W).grown (grownBy_putObj' W l o') (by have:=(Array.getElem?_eq_some_iff.1 h).1;omega) (fun k e=>by cases e;exact hl),fun k cs T fz _ hk=>by
  refine(World.putObj_heap_other (fun e=>?_)).trans hk;subst e;rw[h]at hk;cases hk;cases ho⟩
theorem aM.keepI {n₀:Nat} {w w':World} {v:Value} {xs:List Int} (h:aM n₀ w v xs) (hs:cZ n₀ w w'):aM n₀ w' v xs:=by
 have key:∀b,(b<n₀∨∃cs fz,w.heap[b]?=some (.cells cs 3 fz))→b<w.heap.size→w'.heap[b]?=w.heap[b]?:=fun b hb hlt=>by
  rcases hb with hb|⟨cs,fz,hb⟩
  ·exact hs.low.block b hb
  ·rw[hb];exact hs.kept b cs _ fz (.inl rfl) hb
 obtain⟨o,cap,rfl,hc⟩:=h.1;have hb2:=h.2.1;refine⟨⟨o,cap,rfl,fun j hj=>?_⟩,fun b off n c e' h0=>?_,h.2.2⟩
 ·obtain⟨b,off,rfl,hcell⟩:=hc j hj;exact⟨b,off,rfl,(World.cell?_of_block (w:=w) (a:=⟨b,off+j,none⟩) (key b (hb2 b off _ _ rfl (by omega)) (aP hcell))).trans hcell⟩
 ·rcases hb2 b off n c e' h0 with hh|⟨cs,fz,hh⟩
  ·exact .inl hh
  ·exact .inr ⟨cs,fz,(key b (.inr ⟨cs,fz,hh⟩) (Array.getElem?_eq_some_iff.1 hh).1).trans hh⟩
theorem aA.keepI {n₀ g:Nat} {w w':World} {T:TypeId} {cs:Array Value} (h:aA w g T cs) (hs:cZ n₀ w w') (hT:zU T):aA w' g T cs:=hs.kept g cs T _ hT h
def jM (xs:List bR):List (List Int):=xs.flatMap (·.ps)
def hO (s:List Int) (xs:List bR):List Int:=xs.foldl (fun _ x=>x.o) s
theorem pZ (a b:List bR):jM (a++b)=jM a++jM b:=by simp[jM]
theorem sG (s:List Int) (a b:List bR):hO s (a++b)=hO (hO s a) b:=by simp[hO]
def gR (xs:List bR):Prop:=∀x∈xs,x.bad=0
theorem jA {a b:List bR}:gR (a++b)↔gR a∧gR b:=by simp only[gR,List.mem_append];exact⟨fun h=>⟨fun x hx=>h x (.inl hx),fun x hx=>h x (.inr hx)⟩,fun h x hx=>hx.elim (h.1 x) (h.2 x)⟩
theorem gE.below {β:Type} {B:Nat} {J:β→World→Prop} (h:gE gW B J) {s:β} {W W':World} (hs:J s W) (hb:Below W.heap.size W W'):J s W':=
 h.new hs ⟨hb.os,hb.tape,hb.output,hb.size,fun k hk _=>hb.block k hk⟩
theorem gE.last {β:Type} {B g:Nat} {J:β→World→Prop} (h:gE gW B J) {s:β} {W W':World} {cs:Array Value} (hs:J s W) (hb:Below g W W') (hg:W.heap.size=g+1) (hB:B≤g) (hx:aA W g 251 cs):J s W':=
 h s W W' (some g) hs ⟨hb.os,hb.tape,hb.output,hb.size,fun k hk hne=>hb.block k (by have:k≠g:=fun e=>hne (by rw[e]);omega)⟩ (fun r e=>by cases e;exact⟨hB,_,hx,_,_,rfl⟩)
theorem gE.set {β:Type} {B g:Nat} {J:β→World→Prop} (h:gE gW B J) {s:β} {W:World} {cs:Array Value} (hs:J s W) (hB:B≤g) (hx:aA W g 251 cs) (j:Nat) (v:Value):J s (W.setCell ⟨g,j,none⟩ v):=
 h s W _ (some g) hs ⟨rfl,rfl,rfl,by simp[World.setCell],fun k _ hk=>Below.heap_setCell _ _ _ _ (fun e=>hk (by simp at e;rw[e]))⟩ (fun r e=>by cases e;exact⟨hB,_,hx,_,_,rfl⟩)
theorem cZ.past {n₀ g:Nat} {a b c:World} (h:cZ n₀ a b) (hb:Below g b c) (hg:a.heap.size≤g) (hn:n₀≤g):cZ n₀ a c:=
 ⟨h.low.trans (hb.mono hn),fun k cs T fz hT hk=>(hb.block k (by have:=(Array.getElem?_eq_some_iff.1 hk).1;omega)).trans (h.kept k cs T fz hT hk)⟩
theorem cZ.set {n₀ g:Nat} {a b:World} (h:cZ n₀ a b) (hg:a.heap.size≤g) (hn:n₀≤g) (j:Nat) (v:Value):cZ n₀ a (b.setCell ⟨g,j,none⟩ v):=
 h.past ((Zc _ _).setCell (p:=⟨g,j,none⟩) (Zb _) v) hg hn
theorem rR (first:Bool) (s:List Int):bT first s []=some (s,[]):=by rw[bT]
theorem qO (first:Bool) (s:List Int) (l:aB) (r:List aB):bT first s (l::r)=match cU first s l with
  |none=>none
  |some p=>match bT false p.1 r with
   |none=>none
   |some q=>some (q.1,p.2++q.2):=by
 rw[bT];cases cU first s l with
 |none=>rfl
 |some p=>
  dsimp only;cases bT false p.1 r<;>rfl
theorem AW (a r:List aB):∀(first:Bool) (s s2:List Int) (ps:List (List Int)),bT first s a=some (s2,ps)→bT first s (a++r)=match bT (first&&a.isEmpty) s2 r with
  |none=>none
  |some q=>some (q.1,ps++q.2):=by
 induction a with
 |nil=>
  intro first s s2 ps h;rw[rR]at h;cases h;rw[List.nil_append,List.isEmpty_nil,Bool.and_true];cases bT first s r<;>simp
 |cons l a ih=>
  intro first s s2 ps h;rw[qO]at h;rw[List.cons_append,qO,List.isEmpty_cons,Bool.and_false];cases hl:cU first s l with
  |none=>rw[hl]at h;cases h
  |some p=>
   rw[hl]at h;dsimp only at h;cases hr:bT false p.1 a with
   |none=>rw[hr]at h;cases h
   |some q=>
    rw[hr]at h;cases h;have:=ih false p.1 q.1 q.2 hr;rw[Bool.false_and]at this;dsimp only;rw[this];cases bT false q.1 r<;>simp
theorem DW {first:Bool} {s s2:List Int} {ps:List (List Int)} {ls:List aB} {k:Nat} (hk:k<ls.length) (h:bT first s (ls.take k)=some (s2,ps)):
  (∀q,cU (first&&decide (k=0)) s2 ls[k]=some q→bT first s (ls.take (k+1))=some (q.1,ps++q.2))∧(cU (first&&decide (k=0)) s2 ls[k]=none→bT first s ls=none):=by
 have he:(ls.take k).isEmpty=decide (k=0):=by
  cases k with
  |zero=>simp
  |succ k=>cases ls with
   |nil=>simp at hk
   |cons a b=>simp
 constructor
 ·intro q hq;rw[List.take_succ_eq_append_getElem hk,AW _ _ _ _ _ _ h,he,qO,hq];dsimp only;rw[rR];dsimp only;rw[List.append_nil]
 ·intro hn;have e:ls=ls.take k++(ls[k]::ls.drop (k+1)):=by rw[List.getElem_cons_drop,List.take_append_drop]
  rw[e,AW _ _ _ _ _ _ h,he,qO,hn]
theorem uV (a b:List aB):aR (a++b)=aR a+aR b:=by
 induction a with
 |nil=>simp[aR]
 |cons l a ih=>rw[List.cons_append,aR,aR,ih];omega
theorem vN {ls:List aB} {k:Nat} (hk:k<ls.length):aR (ls.take (k+1))=aR (ls.take k)+ls[k].count∧aR (ls.take k)+ls[k].count≤aR ls:=by
 have h1:aR (ls.take (k+1))=aR (ls.take k)+ls[k].count:=by rw[List.take_succ_eq_append_getElem hk,uV];simp[aR]
 have h2:aR ls=aR (ls.take (k+1))+aR (ls.drop (k+1)):=by rw[←uV,List.take_append_drop]
 exact⟨h1,by omega⟩
theorem EB {s:List Int} (h:dM s=true):bA s=true∧s.length≤3:=by rw[dM,bA]at h;simp only[Bool.and_eq_true,decide_eq_true_eq,List.length_cons,List.all_cons]at h;obtain⟨⟨h1,h2,h3⟩,h4⟩:=h;rw[DS,Int.one_mul]at h4;exact⟨by simp only[bA,Bool.and_eq_true,decide_eq_true_eq];exact⟨⟨by omega,h3⟩,h4⟩,by omega⟩
theorem JH {n:aG} {first:Bool} {s:List Int} {p:List Int×List (List Int)} (h:fT n first s=some p):bA p.1=true∧p.1.length≤3:=by
 rw[fT]at h;split at h
 ·cases h
 ·split at h
  ·rename_i hc;cases h;rw[Bool.and_eq_true]at hc;exact EB hc.1
  ·cases h
def zC (n₀:Nat) (J Jx:List bR→World→Prop) (c:Nat) (pre:List bR) (s:List Int) (res:Option (List Int×List (List Int))) (W:World) (e:Ending) (W':World):Prop:=
 ((∃v xs p,cZ n₀ W W'∧e=.returned (.tuple #[v,.bool true])∧xs.length≤2*c∧res=some p∧aM n₀ W' v p.1∧bA p.1=true∧J (pre++xs) W'∧gR xs∧jM xs=p.2∧hO s xs=p.1)∨
  (∃v xs,e=.returned (.tuple #[v,.bool false])∧((J (pre++xs) W'∧¬gR xs)∨(Jx (pre++xs) W'∧(¬gR xs→res=none)))))
def rB (P:Program) (n₀ l:Nat) (J Jx:List bR→World→Prop):Prop:=
 ∀(m:Nat) (pre:List bR) (x:bR) (W:World),pre.length<200→J pre W→oI n₀ x W→YieldAt Fence.wide m P l (mF x) W fun e W'=>
  (e=.returned (.bool true)∧J (pre++[x]) W'∧cZ n₀ W W')∨(e=.returned (.bool false)∧Jx (pre++[x]) W')
def sQ (n:aG):Prop:=(n.kind=2∨n.kind=8∨n.kind=9→jE n)∧(n.kind=12→(1≤n.heads∧n.heads≤4096)∧(0≤n.inn∧n.inn≤4096))
def t6:Prop:=∀(g n₀:Nat) (n:aG) (ob:Option Addr) (nb cb:Nat) (o:Option Addr) (cap:Nat) (first:Bool) (nm:ByteArray) (s:List Int) (w:World),fI g n₀ n (.slice ob nb cb) o cap first nm s w→sQ n→
 Calls Tryz.prog 203 #[.pointer (some ⟨g,0,none⟩)] w (yK g n₀ n (.slice ob nb cb) (.slice o s.length cap) first nm w (fT n first s))
mutual
def lJ:aB→Nat→Prop
 |.mk n body,d=>body.length≤64∧((n.kind=13∧0<d∧iU body (d-1))∨(n.kind≠13∧sQ n))
def iU:List aB→Nat→Prop
 |[],_=>True
 |l::r,d=>lJ l d∧iU r d
end
theorem iU.at {ls:List aB} {d:Nat} (h:iU ls d) (k:Nat) (hk:k<ls.length):lJ ls[k] d:=by
 induction ls generalizing k with
 |nil=>simp at hk
 |cons l r ih=>
  rw[iU]at h;cases k with
  |zero=>exact h.1
  |succ k=>exact ih h.2 k (by simpa using hk)
def qH (P:Program) (f:Nat) (w₀:World) (l B0:Nat) (J Jx:List bR→World→Prop) (ls:List aB):Prop:=
 ∀(m d:Nat) (vl:Value) (name:ByteArray) (first:Bool) (o:Option Addr) (cap:Nat) (s:List Int) (pre:List bR) (W:World),bF w₀ vl ls→iU ls d→ls.length≤64→Below w₀.heap.size w₀ W→B0≤W.heap.size→aM w₀.heap.size W (.slice o s.length cap) s→bA s=true→name.size+30*d≤1000→pre.length+2*aR ls≤200→J pre W→
  CallsIn Fence.wide m P f #[vl,.string name,.bool first,.slice o s.length cap,.func (.yield l) #[] #[]] W (zC w₀.heap.size J Jx (aR ls) pre s (bT first s ls) W)
def iH (l:List UInt8):List Int:=l.map fun c=>(c.toNat:Int)
def gQ (l:List Int):List UInt8:=l.map fun x=>UInt8.ofNat x.toNat
theorem QN (l:List UInt8):gQ (iH l)=l:=by
 rw[gQ,iH,List.map_map]
 conv=>rhs;rw[←List.map_id l]
 apply List.map_congr_left;intro c _;simp
theorem rX (l:List UInt8):(iH l).length=l.length:=by simp[iH]
theorem OY (l:List UInt8):Wf .u8 (iH l):=by intro x hx;obtain⟨c,_,rfl⟩:=List.mem_map.1 hx;have:=c.toNat_lt;exact wQ (by omega) (by omega)
def jW (n:Nat) (rem:List Int):Option (List Int×List Int):=if n≤rem.length then some (rem.take n,rem.drop n) else none
def dB:List (List Int)→List Int→Option (List aO×List Int)
 |[],rem=>some ([],rem)
 |sh::r,rem=>(bP (bD sh).toNat rem).bind fun p=>(dB r p.2).map fun q=>(⟨sh,p.1⟩::q.1,q.2)
def fL:Nat→List Int→Option (List Int×List Int)
 |0,rem=>some ([],rem)
 |n+1,rem=>(bJ 8 rem).bind fun p=>(fL n p.2).map fun q=>((p.1:Int)::q.1,q.2)
def fN:Nat→List Int→Option (List Int×List Int)
 |0,rem=>some ([],rem)
 |n+1,rem=>(cC 1024 rem).bind fun p=>(fN n p.2).map fun q=>((p.1:Int)::q.1,q.2)
def dN (d:bE):Option (List (List Int)):=(eK d).map (·.2)
def sE (s:aX) (rem:List Int):Option (aX×List Int):=(cC 1024 rem).bind fun p=>(cC 1048576 p.2).map fun q=>({s with c:={s.c with at_:=p.1,epoch:=q.1}},q.2)
def st9 (s:aX) (rem:List Int):Option (aX×List Int):=(cC 1024 rem).bind fun p=>(fN p.1 p.2).bind fun q=>sE {s with c:={s.c with order:=q.1}} q.2
def st8 (s:aX) (rem:List Int):Option (aX×List Int):=(bJ 8 rem).bind fun a=>(bJ 8 a.2).bind fun b=>(bJ 8 b.2).bind fun c=>(bJ 8 c.2).bind fun d=>st9 {s with r:={s.r with s0:=a.1,s1:=b.1,s2:=c.1,s3:=d.1}} d.2
def st7 (s:aX) (rem:List Int):Option (aX×List Int):=(cC 4096 rem).bind fun p=>(fL p.1 p.2).bind fun q=>st8 {s with r:={s.r with script:=q.1}} q.2
def st6 (l:List (List Int)) (s:aX) (rem:List Int):Option (aX×List Int):=if s.h.kind=3 then(dB l rem).bind fun p=>st7 {s with m:={s.m with v:=p.1}} p.2 else st7 s rem
def st5 (l:List (List Int)) (s:aX) (rem:List Int):Option (aX×List Int):=if s.h.kind=2∨s.h.kind=3 then(dB l rem).bind fun p=>st6 l {s with m:={s.m with m:=p.1}} p.2 else st6 l s rem
def st4 (l:List (List Int)) (s:aX) (rem:List Int):Option (aX×List Int):=(dB l rem).bind fun p=>(bP 1 p.2).bind fun a=>(bP 1 a.2).bind fun b=>(cC 1048576 b.2).bind fun c=>
 st5 l {s with ps:=p.1,m:={s.m with powMu:=aE a.1 0,powNu:=aE b.1 0,steps:=c.1}} c.2
def st3 (l:List (List Int)) (s:aX) (rem:List Int):Option (aX×List Int):=(bP 1 rem).bind fun a=>(bP 1 a.2).bind fun b=>(bP 1 b.2).bind fun c=>(bP 1 c.2).bind fun d=>(bP 1 d.2).bind fun e=>(bP 1 e.2).bind fun g=>(cC 1048576 g.2).bind fun n=>
 st4 l {s with h:={s.h with rate:=aE a.1 0,mu:=aE b.1 0,nu:=aE c.1 0,eps:=aE d.1 0,decay:=aE e.1 0,clip:=aE g.1 0,every:=n.1}} n.2
def st2 (l:List (List Int)) (s:aX) (rem:List Int):Option (aX×List Int):=(bJ 1 rem).bind fun a=>(bJ 1 a.2).bind fun b=>st3 l {s with h:={s.h with kind:=a.1,sched:=b.1}} b.2
def BN (f:Int) (d:bE):aX:=⟨f,d,⟨0,0,0,0,0,0,0,0,0⟩,[],⟨[],[],0,0,0⟩,⟨[],0,0,0,0⟩,⟨[],0,0⟩⟩
def st1 (f:Int) (rem:List Int):Option (aX×List Int):=(cC 8192 rem).bind fun p=>(jW p.1 p.2).bind fun q=>(gN (gQ q.1)).bind fun d=>(dN d).bind fun l=>st2 l (BN f d) q.2
def mS (rem:List Int):Option (aX×List Int):=(jW 4 rem).bind fun p=>if p.1=[82,67,75,80] then(bJ 1 p.2).bind fun v=>if v.1=1 then(bJ 1 v.2).bind fun f=>if dU f.1 then st1 f.1 f.2 else none else none else none
def mE (has:Bool) (a b:List aO):Bool:=has&&decide (bI a=bI b) || !has&&decide (a.length=0)
def dQ (h:iB) (m:lS) (ps:List aO) (f:Int):Bool:=
 decide (0≤m.steps)&&(decide (m.steps≤1048576)&&(m.m.all cH&&(m.v.all cH&&(decide (0≤m.powMu)&&(decide (m.powMu≤2^f.toNat)&&(decide (0≤m.powNu)&&(decide (m.powNu≤2^f.toNat)&&
 ((decide (h.kind=3) || (decide (m.powMu=2^f.toNat)&&decide (m.powNu=2^f.toNat)))&&(m.v.all (fun t=>t.da.all fun x=>decide (0≤x))&&(mE (decide (h.kind≠1)) m.m ps&&mE (decide (h.kind=3)) m.v ps))))))))))
def dF (s:aX):Bool:=match dN s.d with
 |none=>false
 |some l=>dU s.f&&(eM s.h s.f&&(s.ps.all cH&&(decide (bI s.ps=l)&&(dQ s.h s.m s.ps s.f&&(gK s.r.script.length s.r.s0 s.r.s1 s.r.s2 s.r.s3&&dP s.c.order s.c.at_ s.c.epoch s.c.order.length)))))
def cB (l:List aO):List Int:=l.flatMap fun t=>eG t.da
def kK (s:aX):List Int:=bB s.c.order.length 4++(kC s.c.order++(bB (bH s.c.at_) 4++bB (bH s.c.epoch) 4))
def lM (s:aX):List Int:=bB s.r.script.length 4++(eG s.r.script++(bB (bH s.r.s0) 8++(bB (bH s.r.s1) 8++(bB (bH s.r.s2) 8++(bB (bH s.r.s3) 8++kK s)))))
def nA (s:aX):List Int:=cB s.m.m++(cB s.m.v++lM s)
def mZ (s:aX):List Int:=cB s.ps++(eG [s.m.powMu]++(eG [s.m.powNu]++(bB (bH s.m.steps) 4++nA s)))
def mT (s:aX):List Int:=eG [s.h.rate]++(eG [s.h.mu]++(eG [s.h.nu]++(eG [s.h.eps]++(eG [s.h.decay]++(eG [s.h.clip]++(bB (bH s.h.every) 4++mZ s))))))
def jZ (s:aX):List Int:=bB (bH s.h.kind) 1++(bB (bH s.h.sched) 1++mT s)
def mD (s:aX):List Int:=bB (dT s.d).length 4++(iH (dT s.d)++jZ s)
def gB (s:aX):List Int:=[82,67,75,80]++(bB 1 1++(bB (bH s.f) 1++mD s))
structure jC (s:aX):Prop where
 script:Wf .u64 s.r.script
 s0:(Lit.int .u64 s.r.s0).wf=true
 s1:(Lit.int .u64 s.r.s1).wf=true
 s2:(Lit.int .u64 s.r.s2).wf=true
 s3:(Lit.int .u64 s.r.s3).wf=true
theorem nL {x:Int} (h:(Lit.int .u64 x).wf=true):0≤x∧x<18446744073709551616:=by simp[Lit.wf,IntKind.min,IntKind.max,IntKind.signed,IntKind.bits]at h;omega
theorem MW (xs rest:List Int) (h:Wf .u64 xs):fL xs.length (eG xs++rest)=some (xs,rest):=by
 induction xs with
 |nil=>rfl
 |cons x xs ih=>
  have hb:=nL (h x (by simp));have hu:((bH x:Nat):Int)=x:=by unfold bH;omega
  rw[List.length_cons,fL,yS,List.append_assoc,nP _ _ _ (by omega) (rE x),Option.bind_some,ih (fun y hy=>h y (by simp[hy])),Option.map_some,hu]
theorem KA (xs rest:List Int) (h:∀x∈xs,0≤x∧x≤1024):fN xs.length (kC xs++rest)=some (xs,rest):=by
 induction xs with
 |nil=>rfl
 |cons x xs ih=>
  have hb:=h x (by simp);have hu:=tZ x hb.1 (by omega);rw[List.length_cons,fN,G3,List.append_assoc,cC,nP _ _ _ (by omega) (by omega),Option.bind_some,if_pos (by dsimp only;omega),Option.bind_some,ih (fun y hy=>h y (by simp[hy])),Option.map_some];simp[hu]
theorem nW (x:Int) (most:Nat) (rest:List Int) (h0:0≤x) (h1:x≤most) (hm:most≤4294967295):cC most (bB (bH x) 4++rest)=some (x.toNat,rest):=by
 have hu:=tZ x h0 (by omega);have:bH x=x.toNat:=by omega
 rw[cC,nP _ _ _ (by omega) (by omega),Option.bind_some,if_pos (by dsimp only;omega),this]
theorem nB (x:Int) (rest:List Int) (h:bS x=true):bP 1 (eG [x]++rest)=some ([x],rest):=CY [x] rest (by simpa [iG]using h)
theorem vW (ts:List aO) (rest:List Int) (h:ts.all cH=true):dB (bI ts) (cB ts++rest)=some (ts,rest):=by
 induction ts with
 |nil=>rfl
 |cons t ts ih=>
  rw[List.all_cons,Bool.and_eq_true]at h;have h1:=h.1;rw[cH,Bool.and_eq_true,Bool.and_eq_true,decide_eq_true_eq]at h1;have e:cB (t::ts)=eG t.da++cB ts:=rfl;have hw:=CY t.da (cB ts++rest) h1.2.2;have hl:(bD t.sh).toNat=t.da.length:=by omega
  rw[bI,List.map_cons,dB,e,List.append_assoc,hl,hw,Option.bind_some];have ih':=ih h.2;rw[bI]at ih';rw[ih',Option.map_some]
theorem tM (x:Int) (rest:List Int) (h0:0≤x) (h1:x<256):bJ 1 (bB (bH x) 1++rest)=some (x.toNat,rest):=by
 have hu:=tZ x h0 (by omega);have:bH x=x.toNat:=by omega
 rw[nP _ _ _ (by omega) (by omega),this]
theorem rZ (x:Int) (rest:List Int) (h:(Lit.int .u64 x).wf=true):bJ 8 (bB (bH x) 8++rest)=some (x.toNat,rest):=by
 have hb:=nL h;have:bH x=x.toNat:=by unfold bH;omega
 rw[nP _ _ _ (by omega) (rE x),this]
theorem mH {s:aX} (h:dF s=true):dN s.d=some (bI s.ps)∧dU s.f=true∧eM s.h s.f=true∧s.ps.all cH=true∧dQ s.h s.m s.ps s.f=true∧gK s.r.script.length s.r.s0 s.r.s1 s.r.s2 s.r.s3=true∧dP s.c.order s.c.at_ s.c.epoch s.c.order.length=true:=by
 rw[dF]at h;cases hs:dN s.d with
 |none=>rw[hs]at h;cases h
 |some l=>
  rw[hs]at h;simp only[Bool.and_eq_true,decide_eq_true_eq]at h;obtain⟨h1,h2,h3,h4,h5,h6,h7⟩:=h;exact⟨by rw[h4],h1,h2,h3,h5,h6,h7⟩
theorem oL {d:bE} {l:List (List Int)} (h:dN d=some l):dL d=true:=by
 rw[dN,eK]at h;cases hg:(dL d&&dM d.input)with
 |false=>rw[hg]at h;cases h
 |true=>exact(Bool.and_eq_true _ _▸hg).1
theorem DT (f:Int) (h:f≤32):(2:Int)^f.toNat≤2^32:=by
 have h1:2^f.toNat≤2^32:=Nat.pow_le_pow_right (by omega) (by omega);have h2:((2^f.toNat:Nat):Int)≤((2^32:Nat):Int):=Int.ofNat_le.2 h1
 simpa using h2
theorem p8 {h:iB} {f:Int} (hh:eM h f=true):bS h.rate=true∧bS h.mu=true∧bS h.nu=true∧bS h.eps=true∧bS h.decay=true∧bS h.clip=true∧(1≤h.kind∧h.kind≤3)∧(1≤h.sched∧h.sched≤3)∧0≤h.every∧h.every≤1048576:=by
 simp only[eM,eS,cT,dU,Bool.and_eq_true,Bool.or_eq_true,decide_eq_true_eq]at hh;obtain⟨⟨hf1,hf2⟩,h1,h2,h3,h4,h5,h6,h7,h8,h9,h10,h11,h12,h13⟩:=hh;have hp:(2:Int)^f.toNat≤2^32:=DT f (by omega);have hmu:bS h.mu=true:=by simp[bS];omega
 have hnu:bS h.nu=true:=by simp[bS];omega
 exact⟨h1,hmu,hnu,h11,h2,h3,by omega,by omega,by omega,by omega⟩
theorem TR {h:iB} {m:lS} {ps:List aO} {f:Int} (hf:dU f=true) (hh:dQ h m ps f=true):bS m.powMu=true∧bS m.powNu=true∧(0≤m.steps∧m.steps≤1048576)∧m.m.all cH=true∧m.v.all cH=true∧((h.kind≠1→bI m.m=bI ps)∧(h.kind=1→m.m=[]))∧((h.kind=3→bI m.v=bI ps)∧(h.kind≠3→m.v=[])):=by
 simp only[dQ,mE,dU,Bool.and_eq_true,Bool.or_eq_true,decide_eq_true_eq,Bool.not_eq_true',decide_eq_false_iff_not]at hh hf;obtain⟨h1,h2,h3,h4,h5,h6,h7,h8,h9,h10,h11,h12⟩:=hh;have hp:(2:Int)^f.toNat≤2^32:=DT f (by omega);refine⟨by simp[bS];omega,by simp[bS];omega,⟨h1,h2⟩,h3,h4,⟨fun hk=>?_,fun hk=>?_⟩,⟨fun hk=>?_,fun hk=>?_⟩⟩
 ·rcases h11 with h|h
  ·exact h.2
  ·exact absurd hk h.1
 ·rcases h11 with h|h
  ·exact absurd hk h.1
  ·exact List.eq_nil_of_length_eq_zero h.2
 ·rcases h12 with h|h
  ·exact h.2
  ·exact absurd hk h.1
 ·rcases h12 with h|h
  ·exact absurd h.1 hk
  ·exact List.eq_nil_of_length_eq_zero h.2
theorem zJ {l:List Int} {a e:Int} {n:Nat} (h:dP l a e n=true):n≤1024∧(∀x∈l,0≤x∧x≤1024)∧(0≤a∧a≤1024)∧0≤e∧e≤1048576:=by simp only[dP,jB,Bool.and_eq_true,decide_eq_true_eq]at h;obtain⟨h1,h2,h3,h4,h5,h6,h7⟩:=h;refine⟨h2,fun x hx=>?_,⟨h4,by omega⟩,h6,h7⟩;have:=List.all_eq_true.1 h3.1.1 x hx;simp only[gO,Bool.and_eq_true,decide_eq_true_eq]at this;omega
theorem KU (s t:aX) (c3:0≤s.c.at_∧s.c.at_≤1024) (c4:0≤s.c.epoch) (c5:s.c.epoch≤1048576):sE t (bB (bH s.c.at_) 4++bB (bH s.c.epoch) 4)=some ({t with c:={t.c with at_:=s.c.at_,epoch:=s.c.epoch}},[]):=by have q:=nW s.c.epoch 1048576 [] c4 c5 (by omega);rw[List.append_nil]at q;rw[sE,nW s.c.at_ 1024 _ c3.1 c3.2 (by omega),Option.bind_some];simp only[q,Option.map_some];rw[Int.toNat_of_nonneg c3.1,Int.toNat_of_nonneg c4]
theorem JW (s t:aX) (hc:dP s.c.order s.c.at_ s.c.epoch s.c.order.length=true):st9 t (kK s)=some ({t with c:=s.c},[]):=by obtain⟨c1,c2,c3,c4,c5⟩:=zJ hc;have q:=nW (s.c.order.length:Int) 1024 (kC s.c.order++(bB (bH s.c.at_) 4++bB (bH s.c.epoch) 4)) (by omega) (by omega) (by omega);rw[show bH (s.c.order.length:Int)=s.c.order.length by unfold bH;omega,Int.toNat_natCast]at q;rw[st9,kK,q,Option.bind_some];simp only[KA s.c.order _ c2,Option.bind_some,KU s _ c3 c4 c5]
theorem KO (s t:aX) (hw:jC s) (hc:dP s.c.order s.c.at_ s.c.epoch s.c.order.length=true):st8 t (bB (bH s.r.s0) 8++(bB (bH s.r.s1) 8++(bB (bH s.r.s2) 8++(bB (bH s.r.s3) 8++kK s))))=some ({t with r:={t.r with s0:=s.r.s0,s1:=s.r.s1,s2:=s.r.s2,s3:=s.r.s3},c:=s.c},[]):=by simp only[Option.bind_some,st8,rZ _ _ hw.s0,rZ _ _ hw.s1,rZ _ _ hw.s2,rZ _ _ hw.s3,JW s _ hc];rw[Int.toNat_of_nonneg (nL hw.s0).1,Int.toNat_of_nonneg (nL hw.s1).1,Int.toNat_of_nonneg (nL hw.s2).1,Int.toNat_of_nonneg (nL hw.s3).1]
theorem AT (s t:aX) (hw:jC s) (hc:dP s.c.order s.c.at_ s.c.epoch s.c.order.length=true) (hrl:s.r.script.length≤4096):st7 t (lM s)=some ({t with r:=s.r,c:=s.c},[]):=by have q:=nW (s.r.script.length:Int) 4096 (eG s.r.script++(bB (bH s.r.s0) 8++(bB (bH s.r.s1) 8++(bB (bH s.r.s2) 8++(bB (bH s.r.s3) 8++kK s))))) (by omega) (by omega) (by omega);rw[show bH (s.r.script.length:Int)=s.r.script.length by unfold bH;omega,Int.toNat_natCast]at q;rw[st7,lM,q,Option.bind_some];simp only[MW s.r.script _ hw.script,Option.bind_some,KO s _ hw hc]
theorem xL (s u:aX) (hw:jC s) (hc:dP s.c.order s.c.at_ s.c.epoch s.c.order.length=true) (hrl:s.r.script.length≤4096) (b5:s.m.v.all cH=true) (b7:(s.h.kind=3→bI s.m.v=bI s.ps)∧(s.h.kind≠3→s.m.v=[]))
  (hu:u.h=s.h) (hv:u.m.v=[]):st6 (bI s.ps) u (cB s.m.v++lM s)=some ({u with m:={u.m with v:=s.m.v},r:=s.r,c:=s.c},[]):=by
 rw[st6,show u.h.kind=s.h.kind by rw[hu]];by_cases hk:s.h.kind=3
 ·rw[if_pos hk,←b7.1 hk,vW _ _ b5,Option.bind_some,AT s _ hw hc hrl]
 ·rw[if_neg hk,b7.2 hk,show cB []=[] from rfl,List.nil_append,AT s _ hw hc hrl,←hv]
theorem F7 (s t:aX) (hw:jC s) (hc:dP s.c.order s.c.at_ s.c.epoch s.c.order.length=true) (hrl:s.r.script.length≤4096) (b4:s.m.m.all cH=true) (b5:s.m.v.all cH=true) (b6:(s.h.kind≠1→bI s.m.m=bI s.ps)∧(s.h.kind=1→s.m.m=[])) (b7:(s.h.kind=3→bI s.m.v=bI s.ps)∧(s.h.kind≠3→s.m.v=[]))
  (a7:1≤s.h.kind∧s.h.kind≤3) (ht:t.h=s.h) (hm0:t.m.m=[]) (hv0:t.m.v=[]):st5 (bI s.ps) t (nA s)=some ({t with m:={t.m with m:=s.m.m,v:=s.m.v},r:=s.r,c:=s.c},[]):=by
 rw[st5,show t.h.kind=s.h.kind by rw[ht],nA];by_cases hk:s.h.kind=1
 ·rw[if_neg (by omega),b6.2 hk,show cB []=[] from rfl,List.nil_append,xL s t hw hc hrl b5 b7 ht hv0,←hm0]
 ·rw[if_pos (by omega),←b6.1 hk,vW _ _ b4,Option.bind_some,b6.1 hk];exact xL s {t with m:={t.m with m:=s.m.m}} hw hc hrl b5 b7 ht hv0
theorem uP (x:Int):aE [x] 0=x:=rfl
theorem OE (s t:aX) (h:dF s=true) (hw:jC s) (hrl:s.r.script.length≤4096) (ht:t.h=s.h) (hm0:t.m.m=[]) (hv0:t.m.v=[]):st4 (bI s.ps) t (mZ s)=some ({t with ps:=s.ps,m:=s.m,r:=s.r,c:=s.c},[]):=by obtain⟨hs,hf,hh,hp,hm,hr,hc⟩:=mH h;obtain⟨a1,a2,a3,a4,a5,a6,a7,a8,a9,a10⟩:=p8 hh;obtain⟨b1,b2,b3,b4,b5,b6,b7⟩:=TR hf hm;rw[st4,mZ,vW _ _ hp,Option.bind_some];dsimp only;rw[nB _ _ b1,Option.bind_some];dsimp only;rw[nB _ _ b2,Option.bind_some];dsimp only;rw[nW s.m.steps 1048576 _ b3.1 b3.2 (by omega),Option.bind_some];dsimp only;rw[Int.toNat_of_nonneg b3.1,uP,uP];exact F7 s {t with ps:=s.ps,m:={t.m with powMu:=s.m.powMu,powNu:=s.m.powNu,steps:=s.m.steps}} hw hc hrl b4 b5 b6 b7 a7 ht hm0 hv0
theorem G4 (s t:aX) (h:dF s=true) (hw:jC s) (hrl:s.r.script.length≤4096) (hk:t.h.kind=s.h.kind) (hsc:t.h.sched=s.h.sched) (hm0:t.m.m=[]) (hv0:t.m.v=[]):st3 (bI s.ps) t (mT s)=some ({t with h:=s.h,ps:=s.ps,m:=s.m,r:=s.r,c:=s.c},[]):=by obtain⟨hs,hf,hh,hp,hm,hr,hc⟩:=mH h;obtain⟨a1,a2,a3,a4,a5,a6,a7,a8,a9,a10⟩:=p8 hh;rw[st3,mT];rw[nB _ _ a1,Option.bind_some];dsimp only;rw[nB _ _ a2,Option.bind_some];dsimp only;rw[nB _ _ a3,Option.bind_some];dsimp only;rw[nB _ _ a4,Option.bind_some];dsimp only;rw[nB _ _ a5,Option.bind_some];dsimp only;rw[nB _ _ a6,Option.bind_some];dsimp only;rw[nW s.h.every 1048576 _ a9 a10 (by omega),Option.bind_some];dsimp only;rw[Int.toNat_of_nonneg a9,hk,hsc];simp only[uP];exact OE s {t with h:=s.h} h hw hrl rfl hm0 hv0
theorem RP (s t:aX) (h:dF s=true) (hw:jC s) (hrl:s.r.script.length≤4096) (hm0:t.m.m=[]) (hv0:t.m.v=[]):st2 (bI s.ps) t (jZ s)=some ({t with h:=s.h,ps:=s.ps,m:=s.m,r:=s.r,c:=s.c},[]):=by obtain⟨hs,hf,hh,hp,hm,hr,hc⟩:=mH h;obtain⟨a1,a2,a3,a4,a5,a6,a7,a8,a9,a10⟩:=p8 hh;rw[st2,jZ,tM s.h.kind _ (by omega) (by omega),Option.bind_some,tM s.h.sched _ (by omega) (by omega),Option.bind_some,Int.toNat_of_nonneg (show 0≤s.h.kind by omega),Int.toNat_of_nonneg (show 0≤s.h.sched by omega)];exact G4 s _ h hw hrl rfl rfl hm0 hv0
theorem OK (s:aX) (h:dF s=true) (hw:jC s) (hrl:s.r.script.length≤4096):st1 s.f (mD s)=some (s,[]):=by
 obtain⟨hs,hf,hh,hp,hm,hr,hc⟩:=mH h;have hg:=oL hs;have htl:=(pQ hg).2.2;have q:=nW ((dT s.d).length:Int) 8192 (iH (dT s.d)++jZ s) (by omega) (by omega) (by omega);rw[show bH ((dT s.d).length:Int)=(dT s.d).length by unfold bH;omega,Int.toNat_natCast]at q;have q2:jW (dT s.d).length (iH (dT s.d)++jZ s)=some (iH (dT s.d),jZ s):=by have hl:=rX (dT s.d);rw[jW,if_pos (by rw[Zl,hl];omega),←hl,List.take_left,List.drop_left]
 rw[st1,mD,q,Option.bind_some];dsimp only;rw[q2,Option.bind_some];dsimp only;rw[QN,SI hg,Option.bind_some,hs,Option.bind_some];exact RP s (BN s.f s.d) h hw hrl rfl rfl
theorem TM (s:aX) (h:dF s=true) (hw:jC s):mS (gB s)=some (s,[]):=by
 obtain⟨hs,hf,hh,hp,hm,hr,hc⟩:=mH h;have hf':=hf;simp only[dU,Bool.and_eq_true,decide_eq_true_eq]at hf';have hrl:s.r.script.length≤4096:=by simp only[gK,Bool.and_eq_true,decide_eq_true_eq]at hr;exact hr.1
 have q0:∀r:List Int,jW 4 ([82,67,75,80]++r)=some ([82,67,75,80],r):=fun r=>by
  rw[jW,if_pos (by simp)];rfl
 have q1:∀r:List Int,bJ 1 (bB 1 1++r)=some (1,r):=fun r=>nP 1 1 r (by omega) (by omega);rw[mS,gB,q0,Option.bind_some];dsimp only;rw[if_pos rfl,q1,Option.bind_some];dsimp only;rw[if_pos rfl,tM s.f _ (show 0≤s.f by omega) (by omega),Option.bind_some];dsimp only;rw[Int.toNat_of_nonneg (show 0≤s.f by omega),if_pos hf];exact OK s h hw hrl
def vU (P:Prop) (e:Ending):Prop:=∃b:Bool,e=.returned (.bool b)∧(b=false→P)
def qQ (ls:List aB):Prop:=∀(v:Value) (n deep:Int) (w:World),bF w v ls→ls.length≤140737488351232→0≤n∧n≤1000→0≤deep∧deep≤13→
 Calls Tryz.prog 106 #[v,.int .i64 n,.int .i64 deep] w fun e w'=>(∃m:Int,(0≤m∧m≤1000)∧e=.returned (.int .i64 m))∧w=w'
theorem BP (ls:List aB) (hall:∀l∈ls,qQ l.body):qQ ls:=by
 intro v n deep w hr hl hn hd;obtain⟨o,cap,rfl⟩:=hr.len;have HR:=Za hr;have HALL:=Za hall;clear hr hall;obtain⟨hn1,hn2⟩:=hn;obtain⟨hd1,hd2⟩:=hd;by_cases h12:12<deep
 ·go_enter Tryz.func106,Tryz.ntmps106;go_wp2;go_ret;exact⟨⟨1000,by omega,rfl⟩,rfl⟩
 ·go_enter Tryz.func106,Tryz.ntmps106;go_wp2;go_loopw[1,7] (fun c i wr=>∃(k:Nat) (m:Int),k≤ls.length∧i=.int .i64 k∧c=.int .i64 m∧(0≤m∧m≤1000)∧Hid (wr=w)) (fun _ i _=>ls.length-(intOf i).toNat)
  case atStart=>exact⟨0,n,Ze _,rfl,rfl,⟨hn1,hn2⟩,Za rfl⟩
  case round=>
   obtain⟨k,m,hk,rfl,rfl,⟨hm1,hm2⟩,HE⟩:=hrel;rw[HE.o];by_cases hlt:k<ls.length
   ·by_cases hmm:m<1000
    ·obtain⟨b,off,vb,rfl,hcell,hlb,hlim⟩:=HR.o.lay k hlt;have c8:w.cell? ⟨b,off+k*9+8,none⟩=some vb:=hcell 8 _ rfl;have HCALL:=Za (HALL.o _ (List.getElem_mem hlt) vb (m+1) (deep+1) w hlb hlim ⟨by omega,by omega⟩ ⟨by omega,by omega⟩);obtain⟨ob,cb,rfl⟩:=hlb.len;clear hcell hlb hlim;go_wp2_with fail;refine HCALL.o.mono ?_;rintro e w' ⟨⟨q,hq,rfl⟩,rfl⟩;go_wp2;go_roundw
     case rel=>exact⟨k+1,q,by omega,by go_num,rfl,hq,(by first|exact Za trivial|exact Za rfl)⟩
     case measure=>simp[intOf];omega
    ·go_wp2;go_ret;exact⟨⟨m,by omega,rfl⟩,rfl⟩
   ·obtain rfl:k=ls.length:=by omega
    go_wp2;go_ret;exact⟨⟨m,by omega,rfl⟩,rfl⟩
theorem QA:∀l:aB,qQ l.body:=aB.ind fun n body h=>BP body h
theorem LN (ls:List aB):qQ ls:=BP ls fun l _=>QA l
theorem OQ (vi vl:Value) (d:bE) (w:World) (h:eJ w vi vl d):
  Calls Tryz.prog 52 #[.agg #[vi,vl,.int .i64 d.loss]] w fun e w'=>vU True e∧Below w.heap.size w w':=by
 obtain⟨oi,ci,rfl⟩:=aU h.input;obtain⟨ol,cl,rfl⟩:=h.lays.len;obtain⟨W,hW⟩:∃W,W=w.alloc (.cells #[.slice oi d.input.length ci,.slice ol d.lays.length cl,.int .i64 d.loss] 33):=⟨_,rfl⟩;have hbx:aA W w.heap.size 33 #[.slice oi d.input.length ci,.slice ol d.lays.length cl,.int .i64 d.loss]:=by rw[hW];exact aA.new _ _ _
 have HB:=Za (show Below w.heap.size w W by rw[hW];exact(Zc _ _).alloc (Zb _) _);have c0:=hbx.cell 0 rfl;have c1:=hbx.cell 1 rfl;have HC:=Za (LN d.lays _ 0 0 W (h.lays.below HB.o (Zb _)) h.lim2 ⟨by omega,by omega⟩ ⟨by omega,by omega⟩);have HW:=Za hW;clear h hbx hW;go_enter Tryz.func52,Tryz.ntmps52;go_upto_region 1 with(fail);rw[←HW.o];by_cases hl:10<d.input.length
 ·go_wp2;go_ret;exact⟨⟨_,rfl,fun _=>trivial⟩,HB.o⟩
 ·go_wp2_with(go_at_call 106;refine HC.o.mono ?_;rintro e w2 ⟨⟨q,hq,rfl⟩,rfl⟩;refine aD ?_);refine aC ?_;go_wp2
  all_goals
   go_ret;exact⟨⟨_,rfl,fun _=>trivial⟩,HB.o⟩
def wt (ts:List aO):Nat:=(ts.map fun t=>t.da.length+t.sh.length).sum
theorem EM (ts:List aO) (k:Nat) (h:k<ts.length):wt (ts.take (k+1))=wt (ts.take k)+((aQ ts k).da.length+(aQ ts k).sh.length):=by rw[wt,rM ts k h,List.map_append,List.sum_append,←wt];simp
theorem TC (ts:List aO) (k:Nat):wt (ts.take k)≤wt ts:=by
 have h:wt ts=wt (ts.take k)+wt (ts.drop k):=by
  conv=>lhs;rw[←List.take_append_drop k ts,wt,List.map_append,List.sum_append]
  rfl
 omega
theorem tQ (v:Value) (ts:List aO) (n:Nat) (w:World) (hr:aY w v ts) (hl:eO ts) (hn:n≤100000):
  Calls Tryz.prog 53 #[v,.int .i64 n] w fun e w'=>vU (wt ts≤n∧ts.length≤n) e∧aN w w':=by
 obtain⟨o,cap,rfl⟩:=hr.slice;have HR:=Za hr;obtain⟨hl1,hl2⟩:=hl;have HL:=Za hl2;clear hr hl2;go_enter Tryz.func53,Tryz.ntmps53;go_wp2;go_loopw[5,6] (fun c i wr=>∃k m:Nat,k≤ts.length∧i=.int .i64 k∧c=.int .i64 m∧m≤n∧Hid (m=wt (ts.take k))∧Hid (aN w wr)) (fun _ i _=>ts.length-(intOf i).toNat)
 case atStart=>exact⟨0,0,Ze _,rfl,rfl,Ze _,Za rfl,Za (aN.refl _)⟩
 case round=>
  obtain⟨k,m,hk,rfl,rfl,hm,HM,HS⟩:=hrel;obtain⟨w5,rfl⟩:∃w5,w5=wr:=⟨_,rfl⟩;by_cases hlt:k<ts.length
  ·obtain⟨b,off,vs,vd,rfl,d0,d1,hs,hd⟩:=(HR.o.same HS.o).tens k hlt;obtain⟨o5,k5,rfl⟩:=aU hd;obtain⟨o6,k6,rfl⟩:=aU hs;have hlk:=HL.o _ (jF ts k hlt);have HSUC:=Za (EM ts k hlt);have HLE:=Za (TC ts (k+1));obtain⟨t,ht⟩:∃t,t=aQ ts k:=⟨_,rfl⟩;rw[←ht]at d0 d1 HSUC hlk;obtain⟨l1,l2⟩:=hlk;clear hs hd ht;go_wp2_with fail;go_quiet(fail);by_cases hgt:n<m+(t.da.length+t.sh.length)
   ·have HF:=Za (show ¬(wt ts≤n) by have:=HLE.o;rw[HSUC.o,←HM.o]at this;omega);have hgt2:(n:Int)<(m:Int)+t.da.length+t.sh.length:=by omega
    clear d0 d1;go_wp2;go_ret;exact⟨⟨true,rfl,fun h=>by cases h⟩,HS.o.trans ⟨_,rfl⟩⟩
   ·have hgt2:¬(n:Int)<(m:Int)+t.da.length+t.sh.length:=by omega
    have HM2:=Za (show m+(t.da.length+t.sh.length)=wt (ts.take (k+1)) by rw[HSUC.o,←HM.o]);clear d0 d1;go_wp2;go_roundw
    case rel=>exact⟨k+1,m+(t.da.length+t.sh.length),by omega,by go_num,by go_num,by omega,HM2,Za (HS.o.trans ⟨_,rfl⟩)⟩
    case measure=>simp[intOf];omega
  ·obtain rfl:k=ts.length:=by omega
   have HM2:=Za (show m=wt ts by rw[HM.o,List.take_length]);by_cases hgt:n<ts.length
   ·go_wp2;go_ret;exact⟨⟨_,rfl,fun h=>by cases h⟩,HS.o⟩
   ·go_wp2;go_ret;exact⟨⟨_,rfl,fun h=>⟨by rw[←HM2.o];exact hm,by omega⟩⟩,HS.o⟩
def eQ (k:Int) (i:Nat):Int:=if k=7 then 0 else if k=2∧i=4 then 0 else 1
def gJ (k:Int):Int:=if k=7 then 99 else 4096
def eP (k:Int) (xs:List Int) (i:Nat):Bool:=decide (eQ k i≤aE xs i)&&decide (aE xs i≤gJ k)
def kE (k:Int) (xs:List Int):Bool:=decide (xs.length=(dW k).length)&&(List.range xs.length).all (eP k xs)
theorem mK {k:Int} {xs:List Int} (i:Nat) (hi:i<xs.length) (h:eP k xs i=false):kE k xs=false:=by rw[kE,Bool.and_eq_false_iff];right;rw[List.all_eq_false];exact⟨i,List.mem_range.2 hi,by simp[h]⟩
theorem vD {k:Int} {xs:List Int} (hl:xs.length=(dW k).length) (h:∀i<xs.length,eP k xs i=true):kE k xs=true:=by rw[kE,Bool.and_eq_true,decide_eq_true_eq];exact⟨hl,List.all_eq_true.2 fun i hi=>h i (List.mem_range.1 hi)⟩
theorem SD (k:Int):({bM with kind:=k}:aG).kind=k:=rfl
theorem yP (k:Int):(dW k).length≤5:=by
 unfold dW;cases h:cQ k with
 |none=>simp
 |some r=>
  have:r∈bG:=List.mem_of_find?_eq_some h;have:∀r∈bG,r.at_.length≤5:=by decide
  exact this r ‹_›
theorem RY (k:Int) (v:Value) (xs:List Int) (w:World) (h:Rd w .i64 v xs) (hx:xs.length≤100000):
  Calls Tryz.prog 145 #[.int .i64 k,v] w fun e w'=>e=.returned (.bool (kE k xs))∧Below w.heap.size w w':=by
 obtain⟨o,cap,rfl,hc⟩:=h;have HC:=Za hc;clear hc;go_enter Tryz.func145,Tryz.ntmps145;go_wp2_with(go_at_call 146;refine(wE {bM with kind:=k} (.slice none 0 0) _).mono ?_;rintro e w1 ⟨⟨u,rfl,hu⟩,hB⟩;refine aD ?_);have hnl:=vR {bM with kind:=k};obtain⟨o2,cap2,rfl⟩:=aJ hu;rw[hnl,SD];have HB:=Za hB;obtain⟨m,hm⟩:∃m,m=(dW k).length:=⟨_,rfl⟩;obtain⟨n,hn⟩:∃n,n=xs.length:=⟨_,rfl⟩;have h5:=yP k;rw[←hm]at h5 ⊢;rw[←hn]at hx ⊢;have HM:=Za hm;have HN:=Za hn;clear hu hnl hB hm hn;refine aC ?_;by_cases he:n=m
 ·subst he;by_cases h7:k=7
  ·subst h7;go_wp2;go_loop[5] (fun i=>∃k':Nat,k'≤n∧i=.int .i64 k'∧Hid (∀j<k',eP 7 xs j=true)) (fun i=>n-(intOf i).toNat)
   case atStart=>exact⟨0,Ze _,rfl,Za fun j hj=>absurd hj (Nat.not_lt_zero j)⟩
   case round=>
    obtain⟨k',hk',rfl,HA⟩:=hrel;by_cases hlt:k'<n
    ·obtain⟨b,off,rfl,hcell⟩:=HC.o k' (HN.o▸hlt);have d0:=(HB.o.cell (p:=⟨b,off+k',none⟩) (aP hcell)).trans hcell;clear hcell;obtain⟨x,hxx⟩:∃x,x=aE xs k':=⟨_,rfl⟩;rw[←hxx]at d0;have HX:=Za hxx;clear hxx;by_cases hlo:x<0
     ·have hbad:=mK (k:=7) k' (HN.o▸hlt) (by rw[eP,←HX.o,show eQ 7 k'=0 from rfl,show gJ 7=99 from rfl];simp;omega);have HBAD:=Za hbad;clear hbad;go_wp2;go_ret;exact⟨aF HBAD.o.symm,HB.o⟩
     ·by_cases hhi:99<x
      ·have hbad:=mK (k:=7) k' (HN.o▸hlt) (by rw[eP,←HX.o,show eQ 7 k'=0 from rfl,show gJ 7=99 from rfl];simp;omega);have HBAD:=Za hbad;clear hbad;go_wp2;go_ret;exact⟨aF HBAD.o.symm,HB.o⟩
      ·have hgood:eP 7 xs k'=true:=by rw[eP,←HX.o,show eQ 7 k'=0 from rfl,show gJ 7=99 from rfl];simp;omega
       have HGOOD:=Za hgood;clear hgood;go_wp2;go_round
       case rel=>exact⟨k'+1,by omega,by go_num,Za fun j hj=>by
        by_cases e:j=k'
        ·subst e;exact HGOOD.o
        ·exact HA.o j (by omega)⟩
       case measure=>simp[intOf];omega
    ·obtain rfl:k'=n:=by omega
     have HY:=Za (vD (k:=7) (HN.o▸HM.o) (fun j hj=>HA.o j (HN.o▸hj)));go_wp2;go_ret;exact⟨aF HY.o.symm,HB.o⟩
  ·by_cases h2:k=2
   ·subst h2;go_wp2;go_loop[5] (fun i=>∃k':Nat,k'≤n∧i=.int .i64 k'∧Hid (∀j<k',eP 2 xs j=true)) (fun i=>n-(intOf i).toNat)
    case atStart=>exact⟨0,Ze _,rfl,Za fun j hj=>absurd hj (Nat.not_lt_zero j)⟩
    case round=>
     obtain⟨k',hk',rfl,HA⟩:=hrel;by_cases hlt:k'<n
     ·obtain⟨b,off,rfl,hcell⟩:=HC.o k' (HN.o▸hlt);have d0:=(HB.o.cell (p:=⟨b,off+k',none⟩) (aP hcell)).trans hcell;clear hcell;obtain⟨x,hxx⟩:∃x,x=aE xs k':=⟨_,rfl⟩;rw[←hxx]at d0;have HX:=Za hxx;clear hxx;by_cases h4:k'=4
      ·subst h4;by_cases hlo:x<0
       ·have hbad:=mK (k:=2) 4 (HN.o▸hlt) (by rw[eP,←HX.o,show eQ 2 4=0 by rw[eQ,if_neg (by omega),if_pos ⟨rfl,by omega⟩],show gJ 2=4096 from rfl];simp;omega);have HBAD:=Za hbad;clear hbad;go_wp2;go_ret;exact⟨aF HBAD.o.symm,HB.o⟩
       ·by_cases hhi:4096<x
        ·have hbad:=mK (k:=2) 4 (HN.o▸hlt) (by rw[eP,←HX.o,show eQ 2 4=0 by rw[eQ,if_neg (by omega),if_pos ⟨rfl,by omega⟩],show gJ 2=4096 from rfl];simp;omega);have HBAD:=Za hbad;clear hbad;go_wp2;go_ret;exact⟨aF HBAD.o.symm,HB.o⟩
        ·have hgood:eP 2 xs 4=true:=by rw[eP,←HX.o,show eQ 2 4=0 by rw[eQ,if_neg (by omega),if_pos ⟨rfl,by omega⟩],show gJ 2=4096 from rfl];simp;omega
         have HGOOD:=Za hgood;clear hgood;go_wp2;go_round
         case rel=>exact⟨4+1,by omega,by go_num,Za fun j hj=>by
          by_cases e:j=4
          ·subst e;exact HGOOD.o
          ·exact HA.o j (by omega)⟩
         case measure=>simp[intOf];omega
      ·have h4':¬(k':Int)=4:=by omega
       by_cases hlo:x<1
       ·have hbad:=mK (k:=2) k' (HN.o▸hlt) (by rw[eP,←HX.o,show eQ 2 k'=1 by rw[eQ,if_neg (by omega),if_neg (by omega)],show gJ 2=4096 from rfl];simp;omega);have HBAD:=Za hbad;clear hbad;go_wp2;go_ret;exact⟨aF HBAD.o.symm,HB.o⟩
       ·by_cases hhi:4096<x
        ·have hbad:=mK (k:=2) k' (HN.o▸hlt) (by rw[eP,←HX.o,show eQ 2 k'=1 by rw[eQ,if_neg (by omega),if_neg (by omega)],show gJ 2=4096 from rfl];simp;omega);have HBAD:=Za hbad;clear hbad;go_wp2;go_ret;exact⟨aF HBAD.o.symm,HB.o⟩
        ·have hgood:eP 2 xs k'=true:=by rw[eP,←HX.o,show eQ 2 k'=1 by rw[eQ,if_neg (by omega),if_neg (by omega)],show gJ 2=4096 from rfl];simp;omega
         have HGOOD:=Za hgood;clear hgood;go_wp2;go_round
         case rel=>exact⟨k'+1,by omega,by go_num,Za fun j hj=>by
          by_cases e:j=k'
          ·subst e;exact HGOOD.o
          ·exact HA.o j (by omega)⟩
         case measure=>simp[intOf];omega
     ·obtain rfl:k'=n:=by omega
      have HY:=Za (vD (k:=2) (HN.o▸HM.o) (fun j hj=>HA.o j (HN.o▸hj)));go_wp2;go_ret;exact⟨aF HY.o.symm,HB.o⟩
   ·skip
    go_wp2;go_loop[5] (fun i=>∃k':Nat,k'≤n∧i=.int .i64 k'∧Hid (∀j<k',eP k xs j=true)) (fun i=>n-(intOf i).toNat)
    case atStart=>exact⟨0,Ze _,rfl,Za fun j hj=>absurd hj (Nat.not_lt_zero j)⟩
    case round=>
     obtain⟨k',hk',rfl,HA⟩:=hrel;by_cases hlt:k'<n
     ·obtain⟨b,off,rfl,hcell⟩:=HC.o k' (HN.o▸hlt);have d0:=(HB.o.cell (p:=⟨b,off+k',none⟩) (aP hcell)).trans hcell;clear hcell;obtain⟨x,hxx⟩:∃x,x=aE xs k':=⟨_,rfl⟩;rw[←hxx]at d0;have HX:=Za hxx;clear hxx;by_cases hlo:x<1
      ·have hbad:=mK (k:=k) k' (HN.o▸hlt) (by rw[eP,←HX.o,show eQ k k'=1 by rw[eQ,if_neg h7,if_neg (fun h=>h2 h.1)],show gJ k=4096 by rw[gJ,if_neg h7]];simp;omega);have HBAD:=Za hbad;clear hbad;go_wp2;go_ret;exact⟨aF HBAD.o.symm,HB.o⟩
      ·by_cases hhi:4096<x
       ·have hbad:=mK (k:=k) k' (HN.o▸hlt) (by rw[eP,←HX.o,show eQ k k'=1 by rw[eQ,if_neg h7,if_neg (fun h=>h2 h.1)],show gJ k=4096 by rw[gJ,if_neg h7]];simp;omega);have HBAD:=Za hbad;clear hbad;go_wp2;go_ret;exact⟨aF HBAD.o.symm,HB.o⟩
       ·have hgood:eP k xs k'=true:=by rw[eP,←HX.o,show eQ k k'=1 by rw[eQ,if_neg h7,if_neg (fun h=>h2 h.1)],show gJ k=4096 by rw[gJ,if_neg h7]];simp;omega
        have HGOOD:=Za hgood;clear hgood;go_wp2;go_round
        case rel=>exact⟨k'+1,by omega,by go_num,Za fun j hj=>by
         by_cases e:j=k'
         ·subst e;exact HGOOD.o
         ·exact HA.o j (by omega)⟩
        case measure=>simp[intOf];omega
     ·obtain rfl:k'=n:=by omega
      have HY:=Za (vD (k:=k) (HN.o▸HM.o) (fun j hj=>HA.o j (HN.o▸hj)));go_wp2;go_ret;exact⟨aF HY.o.symm,HB.o⟩
 ·have he':¬(n:Int)=(m:Int):=by omega
  have HF:=Za (show kE k xs=false by rw[kE,←HN.o,←HM.o,decide_eq_false he];rfl);go_wp2;go_ret;exact⟨aF HF.o.symm,HB.o⟩
end Go.Proofs.YtjhkdocidcfpdaaGreatDoor
