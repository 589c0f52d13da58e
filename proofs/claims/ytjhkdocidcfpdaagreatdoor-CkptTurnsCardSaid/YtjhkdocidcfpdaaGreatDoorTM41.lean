/-
  A part of the proof of a law (packed by program).
-/
import Derived.Test.YtjhkdocidcfpdaaGreatDoorTM40
import Derived.Test.YtjhkdocidcfpdaaGreatDoorTM34
set_option linter.unusedVariables false
set_option linter.unusedSimpArgs false
set_option maxRecDepth 100000
set_option maxHeartbeats 16000000
open List renaming setIfInBounds_toArray → Zf, set_cons_zero → Zg, set_cons_succ → Zh, length_append → Zl
namespace Go.Proofs.YtjhkdocidcfpdaaGreatDoor
open Go.RowKit Go.Shelf Go
def sO (v:Value):Prop:=(∃n c,v=.slice none n c)∨∃b off n c,v=.slice (some ⟨b,off,none⟩) n c
theorem AX {w:World} {v:Value} {xs:List Int} (h:Rd w .u8 v xs) (hp:sO v):
  (convert 23 9 v).run Tryz.prog w=.ok (.string ⟨(gQ xs).toArray⟩) w:=by
 obtain⟨o,cap,rfl,hc⟩:=h;rcases hp with⟨n,c,he⟩|⟨b,off,n,c,he⟩
 ·cases he;have h0:xs.length=0:=by
   rcases Nat.eq_zero_or_pos xs.length with h|h
   ·exact h
   ·obtain⟨b,off,h1,_⟩:=hc 0 h;cases h1
  rw[List.eq_nil_of_length_eq_zero h0];exact run_convert_bytes_nil w _ _ Tryz.underlying23 Tryz.underlying5 _ _ _ Tryz.underlying9
 ·cases he;refine run_convert_bytes_arg w _ _ Tryz.underlying23 Tryz.underlying5 b off _ cap xs rfl (fun i hi=>?_) _ Tryz.underlying9;obtain⟨b',off',e,hcell⟩:=hc i hi;cases e;rw[hcell,dK _ _ hi];simp[hi]
def SK (w:World) (xs:List Int) (e:Ending) (w':World):Prop:=
 Below w.heap.size w w'∧match gN (gQ xs)with
 |none=>∃line:Int,e=.returned (.tuple #[.agg #[.slice none 0 0,.slice none 0 0,.int .i64 0],.int .i64 line,.int .i64 1])
 |some d=>∃vi vl,e=.returned (.tuple #[.agg #[vi,vl,.int .i64 d.loss],.int .i64 0,.int .i64 0])∧(∀o n c,vi=.slice o n c→n≤c)∧aI (aL w.heap.size w') w' (fun W=>eJ W vi vl d)
def lF (B:Nat) (W:World) (k:Nat):Prop:=B≤k∧∃cs T fz,W.heap[k]?=some (.cells cs T fz)
structure gU (B:Nat) (pre:List hH) (v:Value) (W:World):Prop where
 row:W.ownsRow B 143 1 v pre.length (pre.map (·.v))
 all:aI (fun k=>lF B W k∧v.ownBlock≠some k) W (fun W=>∀x∈pre,iW W B x.v x.ws)
theorem qS {W:World} {B:Nat} {e:TypeId} {s n:Nat} {v:Value} {xs:List Value} (h:W.ownsRow B e s v n xs):∀g,v.ownBlock=some g→lF B W g:=fun g hg=>by
 rcases h.2 with⟨rfl,_⟩|⟨g',cap,cur,rfl,hb,hgg,_⟩
 ·cases hg
 ·simp[Value.ownBlock]at hg;subst hg;exact⟨hb,_,_,_,hgg⟩
theorem gU.start (B:Nat) (W:World):gU B [] (.slice none 0 0) W:=⟨World.ownsRow_nil _ _ _ _,fun W' _ x hx=>by cases hx⟩
theorem gU.keep {B:Nat} {pre:List hH} {v:Value} {W W':World} (h:gU B pre v W) (hk:∀k,lF B W k→W'.heap[k]?=W.heap[k]?):gU B pre v W':=
 ⟨oB h.row (fun g hg=>hk g (qS h.row g hg)),(h.all.step fun k hk'=>hk k hk'.1).mono fun k hk'=>⟨⟨hk'.1.1,by rw[hk k hk'.1];exact hk'.1.2⟩,hk'.2⟩⟩
theorem gU.next {B:Nat} {pre:List hH} {v:Value} {W W':World} (h:gU B pre v W) (hb:Below W.heap.size W W'):gU B pre v W':=
 h.keep fun k hk=>hb.block k (by obtain⟨_,cs,T,fz,hc⟩:=hk;exact(Array.getElem?_eq_some_iff.1 hc).1)
theorem gU.snoc {B:Nat} {pre:List hH} {v v':Value} {W1 W2:World} {x:hH} {o:Obj} (h:gU B pre v W1) (hx:iW W1 B x.v x.ws) (hrow:W2.ownsRow B 143 1 v' (pre.length+1) (pre.map (·.v)++[x.v])) (hg:(W1.alloc o).grownBy W2 v.ownBlock) (hob:v'.ownBlock=v.ownBlock∨v'.ownBlock=some (W1.alloc o).heap.size):gU B (pre++[x]) v' W2:=by
 have hlt:∀k,lF B W1 k→k<W1.heap.size:=fun k hk=>by obtain⟨_,cs,T,fz,hc⟩:=hk;exact(Array.getElem?_eq_some_iff.1 hc).1
 have h12:∀k,lF B W1 k∧v.ownBlock≠some k→W2.heap[k]?=W1.heap[k]?:=fun k hk=>(hg.block k (by have:=hlt k hk.1;simp;omega) (fun e=>hk.2 e.symm)).trans (Below.heap_alloc W1 o k (hlt k hk.1));have hxo:aI (fun k=>lF B W1 k∧v.ownBlock≠some k) W1 (fun W=>iW W B x.v x.ws):=fun W' hW=>oB hx fun g hgx=>hW g ⟨qS hx g hgx,fun e=>by
  rcases hx.2 with⟨h1,_⟩|⟨g1,c1,cur1,h1,_,hc1,_⟩
  ·rw[h1]at hgx;cases hgx
  ·rw[h1]at hgx;simp[Value.ownBlock]at hgx;subst hgx;rcases h.row.2 with⟨h2,_⟩|⟨g2,c2,cur2,h2,_,hc2,_⟩
   ·rw[h2]at e;cases e
   ·rw[h2]at e;simp[Value.ownBlock]at e;subst e;rw[hc1]at hc2;simp at hc2⟩
 refine⟨by simpa using hrow,((h.all.and hxo).step h12).imp (fun W hW y hy=>?_) |>.mono fun k hk=>⟨⟨hk.1.1,by rw[h12 k hk];exact hk.1.2⟩,?_⟩⟩
 ·rcases List.mem_append.1 hy with hy|hy
  ·exact hW.1 y hy
  ·rw[List.mem_singleton.1 hy];exact hW.2
 ·rcases hob with e1|e1
  ·rw[e1];exact hk.2
  ·rw[e1];intro e2;simp at e2;have:=hlt k hk.1;omega
theorem gU.lines {B R:Nat} {pre:List hH} {a:Option Addr} {m c:Nat} {W:World} (h:gU B pre (.slice a m c) W) (hR:R+1≤B) (hm:m=pre.length):aI (aL (R+1) W) W fun W=>sW (R+1) W (.slice a (pre.map (·.ws)).length c) (pre.map (·.ws)):=fun W' hW=>by
 subst hm;have hag:∀k,lF B W k→W'.heap[k]?=W.heap[k]?:=fun k hk=>hW k ⟨by have:=hk.1;omega,by obtain⟨_,cs,T,fz,hc⟩:=hk;exact(Array.getElem?_eq_some_iff.1 hc).1⟩;have h':=h.keep hag;refine⟨a,c,rfl,fun k hk=>?_⟩;have hkp:k<pre.length:=by simpa using hk
 rcases h'.row.2 with⟨he,h0⟩|⟨g,cap',cur,he,hb,hg,hcl,hle,h63,ht⟩
 ·omega
 ·injection he with h1 h2 h3;subst h1;have hu:(pre.map (·.v))[k]?=some (pre[k]).v:=by rw[List.getElem?_map,List.getElem?_eq_getElem hkp];rfl
  rw[←ht,List.getElem?_take]at hu;have hox:=h'.all.here _ (List.getElem_mem hkp);refine⟨g,0,(pre[k]).v,rfl,by omega,?_,DM hox,by rw[List.getElem_map];exact fG.of_own hox⟩;rw[Nat.zero_add,cell_of_row W' g k cur _ _ hg];split at hu
  ·simpa using hu
  ·cases hu
structure lZ (w:World) (B n:Nat) (pre:List hH) (W:World):Prop where
 low:Below n w W
 big:B≤W.heap.size
 d:aA W n 33 #[.slice none 0 0,.slice none 0 0,.int .i64 0]
 p:aA W (n+2) 188 #[.pointer (some ⟨n+1,0,none⟩)]
 r:∃a c,aA W (n+1) 191 #[.slice a pre.length c,.int .i64 0,.int .i64 64]∧gU B pre (.slice a pre.length c) W
theorem lZ.keep {w W W':World} {B n:Nat} {pre:List hH} (h:lZ w B n pre W) (hn:n+3≤B) (hl:Below n W W') (hs:W.heap.size≤W'.heap.size) (h3:∀k,n≤k→k<n+3→W'.heap[k]?=W.heap[k]?) (hk:∀k,lF B W k→W'.heap[k]?=W.heap[k]?):lZ w B n pre W':=by obtain⟨h1,h2,h4,h5,a,c,h6,h7⟩:=h;exact⟨h1.trans hl,Nat.le_trans h2 hs,(h3 n (Zb _) (by omega)).trans h4,(h3 (n+2) (by omega) (by omega)).trans h5,a,c,(h3 (n+1) (by omega) (by omega)).trans h6,h7.keep hk⟩
theorem lZ.own {w w3:World} {B n sb:Nat} (hn:n+3≤B) (hsb:n+3≤sb∧sb<B) (hB:B=w3.heap.size):lY sb w3.heap.size (fun pre W=>lZ w B n pre W):=fun s W W' row hs hg hr=>by
 subst hB;have key:∀k,(k<n+3∨lF w3.heap.size W k)→W'.heap[k]?=W.heap[k]?∨W.heap.size≤k:=fun k hk=>by
  by_cases hlt:k<W.heap.size
  ·left;refine hg.block k hlt (fun e=>?_);rcases hr k e.symm with rfl|⟨h1,o,h2,h3⟩
   ·rcases hk with hk|hk
    ·omega
    ·have:=hk.1;omega
   ·rcases hk with hk|⟨_,cs,T,fz,hc⟩
    ·omega
    ·rw[hc]at h2;cases h2;cases h3
  ·exact .inr (by omega)
 refine hs.keep hn ⟨hg.os,hg.tape,hg.output,hg.size,fun k hk=>?_⟩ hg.size (fun k h1 h2=>?_) (fun k hk=>?_)
 ·rcases key k (.inl (by omega))with h|h
  ·exact h
  ·have:=hs.big;omega
 ·rcases key k (.inl h2)with h|h
  ·exact h
  ·have:=hs.big;omega
 ·rcases key k (.inr hk)with h|h
  ·exact h
  ·obtain⟨_,cs,T,fz,hc⟩:=hk;have:=(Array.getElem?_eq_some_iff.1 hc).1;omega
structure qP (B n L:Nat) (pre:List hH) (x:hH) (a:Act) (W:World):Prop where
 len:pre.length<L
 fr:∃v u0 u1 u2 u3 u4 u7 u8 u9 u10 u11 u12 u13 u14 u15 u16 u17 u18 u19 u20 u21 u22 u23 u24 u25 u26 u27 u28 u29 u30 u31 u32 u33 u34 u35 u36 u37 u38 u39 u40 u41 u42 u43 u44 u45 u46 u47 u48 u49 u50 u51 u52 u53 u54 u55 u56 u57 u58,a=⟨#[u0,u1,u2,u3,u4,.pointer (some ⟨n+2,0,none⟩),v,u7,u8,u9,u10,u11,u12,u13,u14,u15,u16,u17,u18,u19,u20,u21,u22,u23,u24,u25,u26,u27,u28,u29,u30,u31,u32,u33,u34,u35,u36,u37,u38,u39,u40,u41,u42,u43,u44,u45,u46,u47,u48,u49,u50,u51,u52,u53,u54,u55,u56,u57,u58],[]⟩∧v=x.v
 own:iW W B x.v x.ws
theorem qP.own' {B n sb L:Nat} {pre:List hH} {x:hH} {a:Act} (hsb:sb<B):lY sb B (fun(_:Unit) W=>qP B n L pre x a W):=fun s W W' row hs hg hr=>by
 refine⟨hs.len,hs.fr,oB hs.own fun g hgx=>?_⟩;have hc:=qS hs.own g hgx;obtain⟨hb,cs,T,fz,hcc⟩:=hc;refine hg.block g (Array.getElem?_eq_some_iff.1 hcc).1 (fun e=>?_);rcases hr g e.symm with rfl|⟨h1,o,h2,h3⟩
 ·omega
 ·rw[hcc]at h2;cases h2;cases h3
theorem SM (s:List UInt8):∀cur,(dJ cur s).length≤s.length∧∀l∈dJ cur s,l.length≤cur.length+s.length:=by
 induction s with
 |nil=>intro cur;simp[dJ]
 |cons c r ih=>
  intro cur;rw[dJ];split
  ·refine⟨by have:=(ih []).1;simp;omega,fun l hl=>?_⟩;rcases List.mem_cons.1 hl with rfl|hl
   ·simp
   ·have:=(ih []).2 l hl;simp at this ⊢;omega
  ·refine⟨by have:=(ih (cur++[c])).1;simp;omega,fun l hl=>?_⟩;have:=(ih (cur++[c])).2 l hl;simp at this ⊢;omega
theorem SJ (l:List UInt8):∀cur ws,eD cur l=some ws→ws.length≤l.length+1∧∀x∈ws,x.length≤cur.length+l.length:=by
 induction l with
 |nil=>
  intro cur ws h;rw[eD]at h;split at h
  ·cases h
  ·cases h;simp
 |cons c r ih=>
  intro cur ws h;rw[eD]at h;split at h
  ·split at h
   ·cases h
   ·rw[Option.map_eq_some_iff]at h;obtain⟨q,h1,rfl⟩:=h;have:=ih [] q h1;refine⟨by simp;omega,fun x hx=>?_⟩;rcases List.mem_cons.1 hx with rfl|hx
    ·simp
    ·have:=this.2 x hx;simp at this ⊢;omega
  ·have:=ih (cur++[c]) ws h;refine⟨by simp;omega,fun x hx=>?_⟩;have:=this.2 x hx;simp at this ⊢;omega
theorem PF {s:List UInt8} (h:s.length≤8192):LOk ((dJ [] s).map dV):=by
 have h1:=SM s [];refine⟨by rw[List.length_map];omega,fun ws hws=>?_⟩;obtain⟨l,hl,rfl⟩:=List.mem_map.1 hws;have h2:=h1.2 l hl;rw[dV];cases hw:eD [] l with
 |none=>simp
 |some q=>
  have h3:=SJ l [] q hw;simp only[Option.getD_some,List.length_nil]at h2 h3 ⊢;exact⟨by omega,fun x hx=>by have:=h3.2 x hx;omega⟩
structure iF (w:World) (n D:Nat) (cs:Array Value) (X:World):Prop where
 low:Below n w X
 d:aA X n 33 cs
 k:X.heap[D]?=some (.deferred (some []))
theorem iF.set {w X:World} {n D:Nat} {cs:Array Value} (h:iF w n D cs X) (hD:D≠n) (j:Nat) (v:Value):iF w n D (cs.setIfInBounds j v) (X.setCell ⟨n,j,none⟩ v):=
 ⟨h.low.setCell (p:=⟨n,j,none⟩) (Zb _) v,h.d.set j v,(Below.heap_setCell _ _ _ _ (by simpa using hD)).trans h.k⟩
theorem iF.set3 {w X:World} {n D:Nat} {x y z:Value} (h:iF w n D #[x,y,z] X) (hD:D≠n) (a b c:Value):iF w n D #[a,b,c] (((X.setCell ⟨n,0,none⟩ a).setCell ⟨n,1,none⟩ b).setCell ⟨n,2,none⟩ c):=
 ((h.set hD 0 a).set hD 1 b).set hD 2 c
theorem iF.drew {w X:World} {n D:Nat} {cs:Array Value} (h:iF w n D cs X):iF w n D cs X.drew:=⟨h.low.drew,h.d,h.k⟩
theorem iF.moved {w X X':World} {n D R:Nat} {cs:Array Value} (h:iF w n D cs X) (hm:aZ X X' R) (hR:n<R) (hD:D≠R):iF w n D cs X':=
 ⟨h.low.trans ⟨hm.os,hm.tape,hm.output,hm.size,fun k hk=>(hm.block k (by have:=h.d.lt;omega) (fun e=>by cases e;omega))⟩,(gG hm h.d.lt (by omega)).trans h.d,(gG hm (Array.getElem?_eq_some_iff.1 h.k).1 hD).trans h.k⟩
theorem iF.fin {w X:World} {n D:Nat} {a b c:Value} (h:iF w n D #[a,b,c] X) (hn:n=w.heap.size) (hD:n<D):(X.putObj D (.deferred none)).cell? ⟨n,0,none⟩=some a∧(X.putObj D (.deferred none)).cell? ⟨n,1,none⟩=some b∧(X.putObj D (.deferred none)).cell? ⟨n,2,none⟩=some c∧Below w.heap.size w (X.putObj D (.deferred none)):=by have hb:=h.d.putObj h.k rfl (.deferred none);refine⟨hb.cell 0 rfl,hb.cell 1 rfl,hb.cell 2 rfl,?_⟩;subst hn;exact h.low.grown (grownBy_putObj' X D _) (by have:=h.d.lt;omega) (fun k e=>by cases e;omega)
theorem aI.putObj {B D:Nat} {b:World} {P:World→Prop} (h:aI (aL B b) b P) (hD:D<B) (o:Obj):aI (aL B (b.putObj D o)) (b.putObj D o) P:=
 (h.step fun k hk=>World.putObj_heap_other (by have:=hk.1;omega)).mono fun k hk=>⟨hk.1,by have:=hk.2;simpa [World.putObj]using this⟩
theorem P6 {w:World} {R:Nat} {o:Option Addr} {cap:Nat} {all:aS} {args:Array Value} {res:Option bE} (h:Calls Tryz.prog 120 args w (pW w R o cap all res)) (hn:res=none):
  Calls Tryz.prog 120 args w fun e w'=>(∃o1 n1 c1 o2 n2 c2 k,e=.returned (.tuple #[.agg #[.slice o1 n1 c1,.slice o2 n2 c2,.int .i64 k],.bool false]))∧aZ w w' R∧∃at2 left2,bX w' R o cap all at2 left2:=
 h.mono fun e w' ⟨hm,at2,left2,hr,ho⟩=>⟨by rw[hn]at ho;exact ho,hm,at2,left2,hr⟩
theorem LC {w:World} {R:Nat} {o:Option Addr} {cap:Nat} {all:aS} {args:Array Value} {res:Option bE} {d:bE} (h:Calls Tryz.prog 120 args w (pW w R o cap all res)) (hn:res=some d):
  Calls Tryz.prog 120 args w fun e w'=>∃vi vl,e=.returned (.tuple #[.agg #[vi,vl,.int .i64 d.loss],.bool true])∧(∀o n c,vi=.slice o n c→n≤c)∧aI (aL w.heap.size w') w' (fun W=>eJ W vi vl d)∧aZ w w' R∧∃at2 left2,bX w' R o cap all at2 left2:=
 h.mono fun e w' ⟨hm,at2,left2,hr,ho⟩=>by
  rw[hn]at ho;obtain⟨vi,vl,he,hc,hh⟩:=ho;exact⟨vi,vl,he,hc,hh,hm,at2,left2,hr⟩
theorem OD {s:List UInt8} (h:dZ ((dJ [] s).map dV)=none):gN s=none:=by rw[gN,h];split<;>rfl
theorem EN {s:List UInt8} (h:s.getLast?≠some 10):gN s=none:=by
 rw[gN];split
 ·rfl
 ·split
  all_goals first|rfl|rw[if_neg h]
theorem IV {s:List UInt8} {d:bE} (hl:s.length≤8192) (h:dZ ((dJ [] s).map dV)=some d) (h2:s.getLast?=some 10):gN s=some d:=by rw[gN,if_neg (by omega),h];simp only;rw[if_pos h2]
theorem BK {xs:List Int} {m:Nat} (hm:xs.length=m+1):(gQ xs).getLast?=some (UInt8.ofNat (aE xs m).toNat):=by rw[gQ,List.getLast?_map,List.getLast?_eq_getElem?,hm,Nat.add_sub_cancel,List.getElem?_eq_getElem (by omega),dK _ _ (by omega)];rfl
theorem OS:(Tryz.prog.info? 143).map (fun i=>(i.zero,i.size,i.bytes))=some (some (.slice none 0 0),1,24):=by kernel_rfl
theorem xV {w w4 W w6:World} {n:Nat} {pre:List hH} {x:hH} {a a6:Option Addr} {c k6:Nat} {o:Obj} (hz:w4.heap.size=n+4) (h1:Below n w W) (h2:w4.heap.size≤W.heap.size) (h4:aA W n 33 #[.slice none 0 0,.slice none 0 0,.int .i64 0]) (h5:aA W (n+2) 188 #[.pointer (some ⟨n+1,0,none⟩)]) (h6:aA W (n+1) 191 #[.slice a pre.length c,.int .i64 0,.int .i64 64]) (h7:gU w4.heap.size pre (.slice a pre.length c) W) (hown:iW W w4.heap.size x.v x.ws)
  (hrow:w6.ownsRow w4.heap.size 143 1 (.slice a6 (pre.length+1) k6) (pre.length+1) (pre.map (·.v)++[x.v])) (hg:(W.drew.alloc o).grownBy w6 (Value.slice a pre.length c).ownBlock) (hob:(Value.slice a6 (pre.length+1) k6).ownBlock=(Value.slice a pre.length c).ownBlock∨(Value.slice a6 (pre.length+1) k6).ownBlock=some (W.drew.alloc o).heap.size):
  aA w6 (n+1) 191 #[.slice a pre.length c,.int .i64 0,.int .i64 64]∧aA w6 (n+2) 188 #[.pointer (some ⟨n+1,0,none⟩)]∧
  KeepsFrom w4.heap.size W (w6.setCell ⟨n+1,0,none⟩ (.slice a6 (pre.length+1) k6))∧(W.heap.size≤(w6.setCell ⟨n+1,0,none⟩ (.slice a6 (pre.length+1) k6)).heap.size∧∀cs,aA W (n+3) 9 cs→aA (w6.setCell ⟨n+1,0,none⟩ (.slice a6 (pre.length+1) k6)) (n+3) 9 cs)∧
  lZ w w4.heap.size n (pre++[x]) (w6.setCell ⟨n+1,0,none⟩ (.slice a6 (pre.length+1) k6)):=by
 have hsd:W.drew.heap.size=W.heap.size:=rfl;have hd:∀k,k<W.heap.size→(W.drew.alloc o).heap[k]?=W.heap[k]?:=fun k hk=>Below.heap_alloc W.drew o k hk;have hs6:W.heap.size≤w6.heap.size:=by have:=hg.size;simp at this;omega
 have hlow:∀k,k<w4.heap.size→k<W.heap.size→w6.heap[k]?=W.heap[k]?:=fun k hk hl=>(hg.block k (by simp;omega) (fun e=>by have:=(h7.row.lt k e.symm).1;omega)).trans (hd k hl);have k1:=(hlow (n+1) (by omega) (by omega)).trans h6;have k2:=(hlow (n+2) (by omega) (by omega)).trans h5;have hL:=(h7.next (Below.drew (Zc _ _))).snoc (show iW W.drew w4.heap.size x.v x.ws from cF hown (Below.drew (Zc W.heap.size W)) (Zb _)) hrow hg hob;refine⟨k1,k2,?_,⟨by rw[World.size_setCell];exact hs6,fun cs hb=>aA.other ((hlow (n+3) (by omega) hb.lt).trans hb) (by simp) _⟩,?_⟩
 ·refine((((KeepsOthers.drew W).trans (KeepsOthers.alloc _ _)).trans (KeepsOthers.of_grownBy hg fun j ob hj ho=>?_)).trans (KeepsOthers.setCell _ _ _)).from _;obtain⟨_,cs,T,fz,hc⟩:=qS h7.row j hj;rw[hd j (Array.getElem?_eq_some_iff.1 hc).1,hc]at ho;cases ho;rfl
 ·refine⟨?_,by rw[World.size_setCell];omega,aA.other ((hlow n (by omega) (by omega)).trans h4) (by simp) _,aA.other k2 (by simp) _,a6,k6,?_,?_⟩
  ·refine(h1.trans (?_:Below n W w6)).setCell (p:=⟨n+1,0,none⟩) (by simp) _;exact⟨hg.os,hg.tape,hg.output,hs6,fun k hk=>hlow k (by omega) (by omega)⟩
  ·rw[Zl,List.length_singleton];exact aA.set k1 0 _
  ·rw[Zl,List.length_singleton];exact hL.keep fun k hk=>Below.heap_setCell _ _ _ _ (fun e=>by have:=hk.1;simp at e;omega)
attribute [local go_sem] Oper.semAt_some
theorem KQ (v:Value) (xs:List Int) (w:World) (hr:Rd w .u8 v xs) (hw:Wf .u8 xs) (hp:sO v) (hl:xs.length≤8192):
  Calls Tryz.prog 75 #[v] w (SK w xs):=by
 have hcv:=fun W (hb:Below w.heap.size w W)=>AX (w:=W) (hr.below hb (Zb _)) hp;obtain⟨o,cap,rfl⟩:=aU hr;have HR:=Za hr;have HW:=Za hw;obtain⟨st,hst⟩:∃st,st=gQ xs:=⟨_,rfl⟩;have HST:=Za hst;have hsl:st.length≤8192:=by rw[hst,gQ,List.length_map];exact hl
 rw[←hst]at hcv;have HCV:=Za hcv;obtain⟨n,hn⟩:∃n,n=w.heap.size:=⟨_,rfl⟩;obtain⟨W3,hW3⟩:∃W3,W3=((w.alloc (.cells #[.slice none 0 0,.slice none 0 0,.int .i64 0] 33)).alloc (.cells #[.slice none 0 0,.int .i64 0,.int .i64 64] 191)).alloc (.cells #[.pointer (some ⟨w.heap.size+1,0,none⟩)] 188):=⟨_,rfl⟩;have hb3:Below n w W3:=by rw[hW3,hn];exact(((Zc _ _).alloc (Zb _) _).alloc (by simp) _).alloc (by simp;omega) _
 have hz3:W3.heap.size=n+3:=by rw[hW3,hn];simp
 have x0:aA W3 n 33 #[.slice none 0 0,.slice none 0 0,.int .i64 0]:=by rw[hW3,hn];exact((aA.new _ _ _).next ((Zc _ _).alloc (Zb _) _)).next ((Zc _ _).alloc (Zb _) _)
 have x1:aA W3 (n+1) 191 #[.slice none 0 0,.int .i64 0,.int .i64 64]:=by rw[hW3,hn,←World.size_alloc w (.cells #[.slice none 0 0,.slice none 0 0,.int .i64 0] 33)];exact(aA.new _ _ _).next ((Zc _ _).alloc (Zb _) _)
 have x2:aA W3 (n+2) 188 #[.pointer (some ⟨n+1,0,none⟩)]:=by rw[hW3,hn,show w.heap.size+2=((w.alloc (.cells #[.slice none 0 0,.slice none 0 0,.int .i64 0] 33)).alloc (.cells #[.slice none 0 0,.int .i64 0,.int .i64 64] 191)).heap.size by simp];exact aA.new _ _ _
 have HX:=Za (Zd x0 (Zd x1 (Zd x2 (Zd hb3 hz3))));have HW3:=Za hW3;have HN:=Za hn;clear hr hw hp hst hcv x0 x1 x2 hb3 hz3 hW3;refine callsIn_wide.1 (?_:CallsIn Fence.wide 9 _ _ _ _ _);refine callsIn_of_wp_marks Tryz.func75 rfl trivial ?_ rfl;simp only[Tryz.ntmps75,List.size_toArray,List.length_cons,List.length_nil,Nat.reduceAdd,Nat.reduceSub,Array.replicate_succ,Array.replicate_zero,List.push_toArray,List.append_toArray,List.nil_append,List.cons_append];refine wpIn_wide.2 ?_;have hc3:=HCV.o W3 (by have:=HX.o.2.2.2.1;rwa [hn]at this);rw[HW3.o]at hc3;clear hn;go_wp2_with(go_at_call 119;rw[←HW3.o];refine(G5 st _).mono ?_;rintro e w4 ⟨rfl,hw4⟩;refine aD ?_);have hsz3:=HX.o.2.2.2.2;have hbs:aA w4 (n+3) 9 #[.string ⟨st.toArray⟩]:=by rw[hw4,←hsz3];exact aA.new _ _ _
 have hb34:Below W3.heap.size W3 w4:=by rw[hw4];exact(Zc _ _).alloc (Zb _) _
 have hz4:w4.heap.size=n+4:=by rw[hw4,World.size_alloc,hsz3]
 have HA0:=Za (show lZ w w4.heap.size n [] w4 from⟨HX.o.2.2.2.1.trans (hb34.mono (by omega)),Zb _,HX.o.1.next hb34,HX.o.2.2.1.next hb34,none,0,HX.o.2.1.next hb34,gU.start _ _⟩);have HSQ:=Za (N3 w4.heap.size (n+3) st w4 8 (by omega) hbs (by omega) (Zb _));rw[hsz3];have HZ4:=Za hz4
 try rw[←hw4]
 clear hw4 hbs hb34 hc3 hsz3;refine aC ?_;go_wp2_with fail;rw[←HN.o];refine(wpIn_wide (n:=9)).1 ?_;refine KB rfl (by omega) (gf:=152) (lb:=#[.pointer (some ⟨n+3,0,none⟩)]) rfl trivial (enters_of Tryz.func152 (by kernel_rfl) rfl)
  HSQ.o (by omega) (fun h k=>⟨Nat.le_trans h.1 k.1,fun cs hb=>k.2 cs (h.2 cs hb)⟩) ?hkb (Zc _ _) (fun _=>rfl)
  (fun pre W=>lZ w w4.heap.size n pre W) (fun c pre W=>False) (lZ.own (sb:=n+3) (n:=n) (w:=w) (w3:=w4) (by omega) ⟨Zb _,by omega⟩ rfl) (fun c s W W' row h _ _=>h) HA0.o
  (fun pre x a' W=>qP w4.heap.size n st.length pre x a' W) (fun p x a'=>qP.own' (sb:=n+3) (by omega))
  ?assign ?body ?done ?stop
 case hkb=>
  intro W l o o' hl ho hc _;exact⟨by simp[World.putObj],fun cs hb=>hb.putObj ho hc o'⟩
 case assign=>
  intro l pre x W K hI ⟨hlen,hown⟩ hK;have HI:=Za hI;have HK:=Za hK;have HO:=Za hown;clear hI hK hown;simp only[uT]
  gi_wp2
  exact HK.o _ _ (KeepsFrom.refl _ _) ⟨Zb _,fun cs h=>h⟩ HI.o ⟨hlen,⟨_,_,_,_,_,_,_,_,_,_,_,_,_,_,_,_,_,_,_,_,_,_,_,_,_,_,_,_,_,_,_,_,_,_,_,_,_,_,_,_,_,_,_,_,_,_,_,_,_,_,_,_,_,_,_,_,_,_,rfl,rfl⟩,HO.o⟩
 case body=>
  rintro l pre x a' W hI ⟨hlen,⟨v,u0,u1,u2,u3,u4,u7,u8,u9,u10,u11,u12,u13,u14,u15,u16,u17,u18,u19,u20,u21,u22,u23,u24,u25,u26,u27,u28,u29,u30,u31,u32,u33,u34,u35,u36,u37,u38,u39,u40,u41,u42,u43,u44,u45,u46,u47,u48,u49,u50,u51,u52,u53,u54,u55,u56,u57,u58,rfl,hv⟩,hown⟩;obtain⟨h1,h2,h4,h5,a,c,h6,h7⟩:=hI;obtain⟨xws,xv⟩:=x;simp only at hv hown;subst hv;obtain⟨ox,cx,rfl⟩:=aJ hown;have HB:=Za (Zd h1 (Zd h4 (Zd h5 (Zd h6 h7))));have HO:=Za hown;obtain⟨i0,hi,hz0,hz1,hz2⟩:=info_parts OS;have hz4:=HZ4.o;clear h1 h4 h5 h6 h7 hown;refine wpIn_block ?_;refine M3 (S:=(fun w'=>w'.cell? ⟨n+2,0,none⟩=some (.pointer (some ⟨n+1,0,none⟩)))) (by kernel_rfl) (by kernel_rfl) (fun h=>by obtain⟨a,w,h⟩:=h;exact h) (HB.o.2.2.1.cell 0 rfl) (fun hHeld=>?_);refine tk 0 ?_ ?_ ?_;rotate_left
  ·(intro w hSw;(try dsimp only at hSw);go_simp;(try with_reducible rfl))
  (try simp only[Act.put,Zf,Zg,Zh])
  refine tk 1 ?_ ?_ ?_;rotate_left
  ·(intro w hSw;(try dsimp only at hSw);go_simp;(try with_reducible rfl))
  (try simp only[Act.put,Zf,Zg,Zh])
  refine tk 2 ?_ ?_ ?_;rotate_left
  ·(intro w hSw;(try dsimp only at hSw);go_simp;(try with_reducible rfl))
  (try simp only[Act.put,Zf,Zg,Zh])
  refine tk 3 ?_ ?_ ?_;rotate_left
  ·(intro w hSw;(try dsimp only at hSw);go_simp;(try with_reducible rfl))
  (try simp only[Act.put,Zf,Zg,Zh])
  refine tk 5 ?_ ?_ ?_;rotate_left
  ·(intro w hSw;(try dsimp only at hSw);go_simp;(try with_reducible rfl))
  (try simp only[Act.put,Zf,Zg,Zh])
  refine wpAnyH_ready (rs:=[4,6]) (by kernel_rfl) (by simp) ?_;refine AllReadyH.cons rfl (fun K hK=>?_) (AllReadyH.cons rfl (fun K hK=>?_) AllReadyH.nil)
  ·have cl:=HB.o.2.2.2.1.q 0 rfl
   go_simp
   refine hK.out _ _ (HB.o.2.2.1.cell 0 rfl) (fun hHeld4=>?_);clear hK K cl
   (try simp only[Act.put,Zf,Zg,Zh])
   refine wpAnyH_ready (rs:=[6]) (by kernel_rfl) (by simp) ?_;refine AllReadyH.cons rfl (fun K hK=>?_) AllReadyH.nil
   go_simp
   obtain⟨w5,hw5⟩:∃w5,w5=(W.alloc (.cells #[.slice ox xws.length cx] 143)).drew:=⟨_,rfl⟩;rw[←hw5];have HW5:=Za hw5;have HP5:=Za (show aA w5 (n+2) 188 _ by rw[hw5];exact HB.o.2.2.1.next ((Zc _ _).alloc (Zb _) _).drew);have HR5:=Za (show aA w5 (n+1) 191 _ by rw[hw5];exact HB.o.2.2.2.1.next ((Zc _ _).alloc (Zb _) _).drew);clear hw5;refine hK.out _ _ (HP5.o.cell 0 rfl) (fun hHeld5=>?_);clear hK K
   (try simp only[Act.put,Zf,Zg,Zh])
   refine wpAnyH_ready (rs:=[7]) (by kernel_rfl) (by simp) ?_;refine AllReadyH.cons rfl (fun K hK=>?_) AllReadyH.nil;refine qZ rfl _ _ 189 rfl w4.heap.size 143 i0 (.slice none 0 0) 1 24 Tryz.underlying189 hi hz0 hz1 hz2 rfl (by decide) _ _ _ rfl (show w5.ownsRow w4.heap.size 143 1 (.slice a pre.length c) pre.length (pre.map (·.v)) by rw[HW5.o];exact cF HB.o.2.2.2.2.row ((Zc _ _).alloc (Zb _) _).drew (Zb _)) ⟨W.heap.size,0,none⟩ 1 1 [.slice ox xws.length cx] rfl rfl (by rw[HW5.o];exact fS W [.slice ox xws.length cx] 143 (0,0)) (by simp[Value.oneCell']) (by unfold maxLen;omega) (by omega) (by rw[HW5.o];simp;omega) ?_;intro v6 w6 hown6 hg6 hat6;obtain⟨a6,k6,rfl⟩:=aJ hown6;rw[HW5.o]at hg6 hat6;have HF:=Za (xV (x:=⟨xws,.slice ox xws.length cx⟩) HZ4.o HB.o.1 h2 HB.o.2.1 HB.o.2.2.1 HB.o.2.2.2.1 HB.o.2.2.2.2 HO.o hown6 (show(W.drew.alloc _).grownBy w6 _ from hg6) hat6);clear hown6 hg6 hat6;refine hK.out _ _ (HF.o.2.1.cell 0 rfl) (fun hHeld6=>?_);clear hK K
   (try simp only[Act.put,Zf,Zg,Zh])
   refine tk 8 ?_ ?_ ?_;rotate_left
   ·(intro w hSw;(try dsimp only at hSw);go_simp;(try with_reducible rfl))
   (try simp only[Act.put,Zf,Zg,Zh])
   refine tk 9 ?_ ?_ ?_;rotate_left
   ·(intro w hSw;(try dsimp only at hSw);go_simp;(try with_reducible rfl))
   (try simp only[Act.put,Zf,Zg,Zh])
   refine wpAnyH_ready (rs:=[10]) (by kernel_rfl) (by simp) ?_;refine AllReadyH.cons rfl (fun K hK=>?_) AllReadyH.nil;have cl:=HF.o.1.q 0 rfl;have fl:=HF.o.1.free 0
   go_simp
   refine hK.out _ _ ((HF.o.2.1.other (by simp) _).cell 0 rfl) (fun hHeld7=>?_);clear hK K cl fl
   (try simp only[Act.put,Zf,Zg,Zh])
   refine wpAnyH_done (by kernel_rfl) ?_ _;exact HF.o.2.2
  ·go_simp
   obtain⟨w5,hw5⟩:∃w5,w5=(W.alloc (.cells #[.slice ox xws.length cx] 143)).drew:=⟨_,rfl⟩;rw[←hw5];have HW5:=Za hw5;have HP5:=Za (show aA w5 (n+2) 188 _ by rw[hw5];exact HB.o.2.2.1.next ((Zc _ _).alloc (Zb _) _).drew);have HR5:=Za (show aA w5 (n+1) 191 _ by rw[hw5];exact HB.o.2.2.2.1.next ((Zc _ _).alloc (Zb _) _).drew);clear hw5;refine hK.out _ _ (HP5.o.cell 0 rfl) (fun hHeld5=>?_);clear hK K
   (try simp only[Act.put,Zf,Zg,Zh])
   refine wpAnyH_ready (rs:=[4]) (by kernel_rfl) (by simp) ?_;refine AllReadyH.cons rfl (fun K hK=>?_) AllReadyH.nil;have cl:=HR5.o.q 0 rfl
   go_simp
   refine hK.out _ _ (HP5.o.cell 0 rfl) (fun hHeld4=>?_);clear hK K cl
   (try simp only[Act.put,Zf,Zg,Zh])
   refine wpAnyH_ready (rs:=[7]) (by kernel_rfl) (by simp) ?_;refine AllReadyH.cons rfl (fun K hK=>?_) AllReadyH.nil;refine qZ rfl _ _ 189 rfl w4.heap.size 143 i0 (.slice none 0 0) 1 24 Tryz.underlying189 hi hz0 hz1 hz2 rfl (by decide) _ _ _ rfl (show w5.ownsRow w4.heap.size 143 1 (.slice a pre.length c) pre.length (pre.map (·.v)) by rw[HW5.o];exact cF HB.o.2.2.2.2.row ((Zc _ _).alloc (Zb _) _).drew (Zb _)) ⟨W.heap.size,0,none⟩ 1 1 [.slice ox xws.length cx] rfl rfl (by rw[HW5.o];exact fS W [.slice ox xws.length cx] 143 (0,0)) (by simp[Value.oneCell']) (by unfold maxLen;omega) (by omega) (by rw[HW5.o];simp;omega) ?_;intro v6 w6 hown6 hg6 hat6;obtain⟨a6,k6,rfl⟩:=aJ hown6;rw[HW5.o]at hg6 hat6;have HF:=Za (xV (x:=⟨xws,.slice ox xws.length cx⟩) HZ4.o HB.o.1 h2 HB.o.2.1 HB.o.2.2.1 HB.o.2.2.2.1 HB.o.2.2.2.2 HO.o hown6 (show(W.drew.alloc _).grownBy w6 _ from hg6) hat6);clear hown6 hg6 hat6;refine hK.out _ _ (HF.o.2.1.cell 0 rfl) (fun hHeld6=>?_);clear hK K
   (try simp only[Act.put,Zf,Zg,Zh])
   refine tk 8 ?_ ?_ ?_;rotate_left
   ·(intro w hSw;(try dsimp only at hSw);go_simp;(try with_reducible rfl))
   (try simp only[Act.put,Zf,Zg,Zh])
   refine tk 9 ?_ ?_ ?_;rotate_left
   ·(intro w hSw;(try dsimp only at hSw);go_simp;(try with_reducible rfl))
   (try simp only[Act.put,Zf,Zg,Zh])
   refine wpAnyH_ready (rs:=[10]) (by kernel_rfl) (by simp) ?_;refine AllReadyH.cons rfl (fun K hK=>?_) AllReadyH.nil;have cl:=HF.o.1.q 0 rfl;have fl:=HF.o.1.free 0
   go_simp
   refine hK.out _ _ ((HF.o.2.1.other (by simp) _).cell 0 rfl) (fun hHeld7=>?_);clear hK K cl fl
   (try simp only[Act.put,Zf,Zg,Zh])
   refine wpAnyH_done (by kernel_rfl) ?_ _;exact HF.o.2.2
 case done=>
  rintro D pre W hD hS hI hK;obtain⟨h1,h2,h4,h5,a,c,h6,h7⟩:=hI;obtain⟨all,hall⟩:∃all,all=pre.map (·.ws):=⟨_,rfl⟩;have hpl:pre.length=all.length:=by rw[hall,List.length_map]
  have hz4:=HZ4.o;have hDn:n+4≤D:=by omega
  have hLN:=h7.lines (R:=n+1) (by omega) rfl;rw[←hall]at hLN hS;have HOK:=Za (show LOk all by rw[hS];exact PF hsl);have HALL:=Za hS;rw[hpl]at h6;have HRD:=Za (show bX W (n+1) a c all 0 64 from⟨h6,hLN,Ze _,Zb _⟩);have HF:=Za (show iF w n D #[.slice none 0 0,.slice none 0 0,.int .i64 0] W from⟨h1,h4,hK⟩);have HP:=Za h5;have HXR:=Za (HR.o.below h1 (by rw[HN.o];exact Zb _));have HDL:=Za (show D<W.heap.size from(Array.getElem?_eq_some_iff.1 hK).1);have hp0:=h5.q 0 rfl;clear h1 h4 h5 h6 h7 hLN hS hK hall hpl;cases hwp:dZ all with
  |none=>
   have HRES:=Za (show gN (gQ xs)=none by rw[←HST.o];exact OD (by rw[←HALL.o];exact hwp));have HC:=Za (P6 (zI (n+1) a c all W HRD.o HOK.o) hwp);clear hwp;go_wp2_with(go_at_call 120;refine HC.o.mono ?_;rintro e w7 ⟨⟨o1,n1,q1,o2,n2,q2,k,rfl⟩,hm7,at2,left2,hrd7⟩;refine aD ?_);have HF7:=Za (HF.o.moved hm7 (by omega) (by omega));have HP7:=Za (show aA w7 (n+2) 188 _ from(gG hm7 HP.o.lt (by omega)).trans HP.o);have HRD7:=Za hrd7;have c0:=HF7.o.d.q 0 rfl;have cf0:=HF7.o.d.free 0;have c1:=HF7.o.d.q 1 rfl;have cf1:=HF7.o.d.free 1;have c2:=HF7.o.d.q 2 rfl;have cf2:=HF7.o.d.free 2;clear hm7 hrd7 hp0;refine aC ?_;go_wp2_with fail;have HF8:=Za (HF7.o.set3 (by omega) (.slice o1 n1 q1) (.slice o2 n2 q2) (.int .i64 k));obtain⟨W8,hW8⟩:∃W8,W8=((w7.setCell ⟨n,0,none⟩ (.slice o1 n1 q1)).setCell ⟨n,1,none⟩ (.slice o2 n2 q2)).setCell ⟨n,2,none⟩ (.int .i64 k):=⟨_,rfl⟩;rw[←hW8]at HF8 ⊢;have hp0:W8.cell? ⟨n+2,0,none⟩=some (.pointer (some ⟨n+1,0,none⟩)):=by rw[hW8];exact(((HP7.o.other (by simp) _).other (by simp) _).other (by simp) _).cell 0 rfl
   have ha0:W8.cell? ⟨n+1,1,none⟩=some (.int .i64 at2):=by rw[hW8];exact(((HRD7.o.box.other (by simp) _).other (by simp) _).other (by simp) _).cell 1 rfl
   clear hW8 c0 c1 c2 cf0 cf1 cf2;have e0:=HF8.o.d.q 0 rfl;have ef0:=HF8.o.d.free 0;have e1:=HF8.o.d.q 1 rfl;have ef1:=HF8.o.d.free 1;have e2:=HF8.o.d.q 2 rfl;have ef2:=HF8.o.d.free 2;go_region;have HF9:=Za (HF8.o.set3 (by omega) (.slice none 0 0) (.slice none 0 0) (.int .i64 0)).drew;obtain⟨r0,r1,r2,r4⟩:=HF9.o.fin HN.o (by omega);have HR4:=Za r4;have HK1:=Za HF9.o.k;clear r4;go_wp2_with fail;refine⟨by simp,.inl ⟨_,_,rfl,run_takeDeferred HK1.o,?_⟩⟩;refine⟨.tuple #[.agg #[.slice none 0 0,.slice none 0 0,.int .i64 0],.int .i64 at2,.int .i64 1],by simp[results,Tryz.results75,go_sem,r0,r1,r2],?_⟩;exact⟨HR4.o,by rw[HRES.o];exact⟨_,rfl⟩⟩
  |some d=>
   have hx0:0<xs.length:=by
    rcases Nat.eq_zero_or_pos xs.length with h|h
    ·exfalso;rw[HALL.o,HST.o,List.eq_nil_of_length_eq_zero h]at hwp;simp[gQ,dJ,dZ]at hwp
    ·exact h
   obtain⟨m,hm⟩:∃m,xs.length=m+1:=⟨xs.length-1,by omega⟩;have HC:=Za (LC (zI (n+1) a c all W HRD.o HOK.o) hwp);have HWP:=Za hwp;have HM:=Za hm;obtain⟨bx,offx,rfl,cx0⟩:=HR.o.cell m (by omega);have hbx:bx<n:=by have:=aP cx0;rw[HN.o];exact this
   have cx:W.cell? ⟨bx,offx+m,none⟩=some (.int .u8 (aE xs m)):=(HF.o.low.cell (p:=⟨bx,offx+m,none⟩) hbx).trans cx0;clear cx0;have hlb:=kT (HW.o.nth m (by omega));obtain⟨lb,hlbe⟩:∃lb,lb=aE xs m:=⟨_,rfl⟩;rw[←hlbe]at cx hlb;have HLB:=Za hlbe;clear hwp hlbe;go_wp2_with(go_at_call 120;refine HC.o.mono ?_;rintro e w7 ⟨vi,vl,rfl,hcap,hh,hm7,at2,left2,hrd7⟩;refine aD ?_);obtain⟨oi,ci,rfl⟩:=aU hh.here.input;obtain⟨ol,cl,rfl⟩:=hh.here.lays.len;have HF7:=Za (HF.o.moved hm7 (by omega) (by omega));have HP7:=Za (show aA w7 (n+2) 188 _ from(gG hm7 HP.o.lt (by omega)).trans HP.o);have HRD7:=Za hrd7;have HH:=Za hh;have HCAP:=Za hcap;have cx7:w7.cell? ⟨bx,offx+m,none⟩=some (.int .u8 lb):=(World.cell?_of_block (w:=W) (a:=⟨bx,offx+m,none⟩) (gG hm7 (aP cx) (show bx≠n+1 by omega))).trans cx;have c0:=HF7.o.d.q 0 rfl;have cf0:=HF7.o.d.free 0;have c1:=HF7.o.d.q 1 rfl;have cf1:=HF7.o.d.free 1;have c2:=HF7.o.d.q 2 rfl;have cf2:=HF7.o.d.free 2;clear hm7 hrd7 hp0 hh hcap cx;refine aC ?_;go_upto_region 8 with(fail);have HF8:=Za (HF7.o.set3 (by omega) (.slice oi d.input.length ci) (.slice ol d.lays.length cl) (.int .i64 d.loss));obtain⟨W8,hW8⟩:∃W8,W8=((w7.setCell ⟨n,0,none⟩ (.slice oi d.input.length ci)).setCell ⟨n,1,none⟩ (.slice ol d.lays.length cl)).setCell ⟨n,2,none⟩ (.int .i64 d.loss):=⟨_,rfl⟩;rw[←hW8]at HF8 ⊢;have hnW:n<W.heap.size:=HF.o.d.lt;have HH8:=Za (show aI (aL W.heap.size W8) W8 (fun W=>eJ W (.slice oi d.input.length ci) (.slice ol d.lays.length cl) d) by rw[hW8];exact((HH.o.set hnW _).set hnW _).set hnW _);have hp0:W8.cell? ⟨n+2,0,none⟩=some (.pointer (some ⟨n+1,0,none⟩)):=by rw[hW8];exact(((HP7.o.other (by simp) _).other (by simp) _).other (by simp) _).cell 0 rfl
   have ha0:W8.cell? ⟨n+1,0,none⟩=some (.slice a all.length c):=by rw[hW8];exact(((HRD7.o.box.other (by simp) _).other (by simp) _).other (by simp) _).cell 0 rfl
   have cx8:W8.cell? ⟨bx,offx+m,none⟩=some (.int .u8 lb):=by rw[hW8];refine Eq.trans ?_ cx7;refine World.cell?_of_block (w:=w7) (a:=⟨bx,offx+m,none⟩) ?_;rw[Below.heap_setCell _ _ _ _ (show bx≠n by omega),Below.heap_setCell _ _ _ _ (show bx≠n by omega),Below.heap_setCell _ _ _ _ (show bx≠n by omega)]
   clear hW8 c0 c1 c2 cf0 cf1 cf2 cx7;have e0:=HF8.o.d.q 0 rfl;have ef0:=HF8.o.d.free 0;have e1:=HF8.o.d.q 1 rfl;have ef1:=HF8.o.d.free 1;have e2:=HF8.o.d.q 2 rfl;have ef2:=HF8.o.d.free 2;by_cases hl10:lb=10
   ·have hq1:(lb==10)=true:=by rw[hl10];rfl
    have hq2:(lb != 10)=false:=by rw[hl10];rfl
    have HRES:=Za (show gN (gQ xs)=some d by
     refine IV (by rw[←HST.o];exact hsl) (by rw[←HST.o,←HALL.o];exact HWP.o) ?_;rw[BK HM.o,←HLB.o,hl10];rfl)
    clear hl10;go_upto_region 12 with(fail);go_wp2_with fail;have HF9:=Za (HF8.o.set3 (by omega) (.slice oi d.input.length ci) (.slice ol d.lays.length cl) (.int .i64 d.loss));have HH9:=Za (((HH8.o.set hnW _).set hnW _).set hnW _:aI (aL W.heap.size (((W8.setCell ⟨n,0,none⟩ (.slice oi d.input.length ci)).setCell ⟨n,1,none⟩ (.slice ol d.lays.length cl)).setCell ⟨n,2,none⟩ (.int .i64 d.loss))) (((W8.setCell ⟨n,0,none⟩ (.slice oi d.input.length ci)).setCell ⟨n,1,none⟩ (.slice ol d.lays.length cl)).setCell ⟨n,2,none⟩ (.int .i64 d.loss)) (fun W=>eJ W (.slice oi d.input.length ci) (.slice ol d.lays.length cl) d));obtain⟨r0,r1,r2,r4⟩:=HF9.o.fin HN.o (by omega);have HR4:=Za r4;have HK1:=Za HF9.o.k;clear r4;refine⟨by simp,.inl ⟨_,_,rfl,run_takeDeferred HK1.o,?_⟩⟩;refine⟨.tuple #[.agg #[.slice oi d.input.length ci,.slice ol d.lays.length cl,.int .i64 d.loss],.int .i64 0,.int .i64 0],by simp[results,Tryz.results75,go_sem,r0,r1,r2],?_⟩;exact⟨HR4.o,by rw[HRES.o];exact⟨_,_,rfl,HCAP.o,(HH9.o.putObj HDL.o _).base (by rw[←HN.o];omega)⟩⟩
   ·have hq1:(lb==10)=false:=by rw[beq_eq_false_iff_ne];exact hl10
    have hq2:(lb != 10)=true:=by rw[bne_iff_ne];exact hl10
    have HRES:=Za (show gN (gQ xs)=none by
     refine EN (fun h=>?_);rw[BK HM.o,←HLB.o]at h;injection h with h;have h2:=congrArg UInt8.toNat h;rw[UInt8.toNat_ofNat']at h2;have h3:(10:UInt8).toNat=10:=rfl;omega)
    clear hl10;go_wp2_with fail;go_region;have HF9:=Za (HF8.o.set3 (by omega) (.slice none 0 0) (.slice none 0 0) (.int .i64 0)).drew;obtain⟨r0,r1,r2,r4⟩:=HF9.o.fin HN.o (by omega);have HR4:=Za r4;have HK1:=Za HF9.o.k;clear r4;go_wp2_with fail;refine⟨by simp,.inl ⟨_,_,rfl,run_takeDeferred HK1.o,?_⟩⟩;refine⟨.tuple #[.agg #[.slice none 0 0,.slice none 0 0,.int .i64 0],.int .i64 all.length,.int .i64 1],by simp[results,Tryz.results75,go_sem,r0,r1,r2],?_⟩;exact⟨HR4.o,by rw[HRES.o];exact⟨_,rfl⟩⟩
 case stop=>exact fun D c pre W _ _ h _=>h.elim
end Go.Proofs.YtjhkdocidcfpdaaGreatDoor
