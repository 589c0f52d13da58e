/- A part of the proof. -/
import Derived.Sort.LoopGhostIn
import Derived.Test.YtjhkdocidcfpdaaGreatDoorEN21
set_option linter.unusedVariables false
set_option linter.unusedSimpArgs false
set_option maxRecDepth 100000
set_option maxHeartbeats 16000000
open List renaming length_append → Zl
namespace Go.Proofs.YtjhkdocidcfpdaaGreatDoor
open Go.RowKit Go.Shelf Go
structure iH where
 ws:List (List UInt8)
 v:Value
def vJ (x:iH):Array Value:=#[x.v]
theorem RI (l:List UInt8):∀cur,(10:UInt8) ∉ l->dR cur l=[]:=by
 induction l with
 |nil=>intro cur _;rfl
 |cons c r ih=>
  intro cur h;rw[dR,if_neg (fun e=>h (by rw[e];simp))];exact ih _ (fun hm=>h (by simp[hm]))
theorem PL (s:List UInt8) (w:World):
  Calls Tryz.prog 119 #[.string ⟨s.toArray⟩] w fun e w'=>e=.returned (.func (.func 152) #[] #[.pointer (some ⟨w.heap.size,0,none⟩)])/\w'=w.alloc (.cells #[.string ⟨s.toArray⟩] 9):=by have A:∀(fn:Fn) (first cap:Array Value) (w:World),(Instr.makeFunc fn first cap).run Tryz.prog w=.ok (.func fn first cap) w:=fun _ _ _ _=>rfl;go_enter Tryz.func119,Tryz.ntmps119;go_wp2;go_ret;exact⟨rfl,rfl⟩
theorem G5 (l r:List UInt8) (i:Nat) (hj:i<=l.length) (hc:l.drop i=r) (w:World):
  (Instr.slice 9 (.string ⟨l.toArray⟩) (some (.int .i64 i)) none none).run Tryz.prog w=.ok (.string ⟨r.toArray⟩) w:=by
 subst hc;rw[run_slice_string_l w 9 _ Tryz.underlying9 .i64 _ (by omega) (by simp[ByteArray.size];omega)];simp only[Int.toNat_natCast];rw[ByteArray.extract_mk]
 congr 4
 rw[List.take_of_length_le (by simp[ByteArray.size])]
theorem ON (l r:List UInt8) (i:Nat) (hj:i<=l.length) (hc:l.take i=r) (w:World):
  (Instr.slice 9 (.string ⟨l.toArray⟩) none (some (.int .i64 i)) none).run Tryz.prog w=.ok (.string ⟨r.toArray⟩) w:=by subst hc;rw[run_slice_string_h w 9 _ Tryz.underlying9 .i64 _ (by omega) (by simp[ByteArray.size];omega)];simp only[Int.toNat_natCast];rw[ByteArray.extract_mk];simp
attribute [local go_sem] Oper.semAt_some wT
theorem UH (n₀ sb:Nat) (s:List UInt8) (w:World) (n:Nat) (hn:1<=n) (hb:aA w sb 9 #[.string ⟨s.toArray⟩]) (hl:s.length<=100000) (af:n₀<=w.heap.size):
  SeqS sb Fence.wide n Tryz.prog 152 #[.pointer (some ⟨sb,0,none⟩)] vJ (fun pre x W=>pre.length<s.length/\iU W n₀ x.v x.ws)
   (fun W W'=>W.heap.size<=W'.heap.size/\∀cs,aA W sb 9 cs->aA W' sb 9 cs) (fun xs=>xs.map (·.ws)=(dR [] s).map eI) (fun _=>True) w:=by
 intro l J Jx W M hJ ag B h0;have T:=hb.next M;have ah:n₀<=W.heap.size:=Nat.le_trans af M.size;have HJ:=Za hJ;have HY:=Za B;refine callsIn_of_wp Tryz.func152 rfl trivial ?_ rfl;simp only[Tryz.ntmps152,List.size_toArray,List.length_cons,List.length_nil,Nat.reduceAdd,Nat.reduceSub,Array.replicate_succ,Array.replicate_zero,List.push_toArray,List.append_toArray,List.nil_append,List.cons_append];clear hb M hJ ag B
 gi_wp2
 gi_loopg [3] s.length (fun g e wr=>∃(rest:List UInt8) (pre:List iH),g=rest.length/\aA wr sb 9 #[.string ⟨rest.toArray⟩]/\J pre wr/\n₀<=wr.heap.size/\pre.length+rest.length<=s.length/\(dR [] s).map eI=pre.map (·.ws)++(dR [] rest).map eI)
 case atStart=>exact⟨s,[],rfl,T,h0,ah,by simp,by simp⟩
 case round=>
  obtain⟨rest,pre,rfl,F,hj,U,ai,L⟩:=hrel;have c0:=F.q 0 rfl;have f0:=F.free 0;have aj:=Za F;have N:=Za hj;have D:=Za L;clear F hj L T h0;cases G:rest with
  |nil=>
   subst G;have HE:=Za (show pre.map (·.ws)=(dR [] s).map eI by rw[D.o];simp[dR]);clear ai
   gi_wp2
   go_end0;exact⟨⟨_,rfl⟩,.inl ⟨pre,HE.o,N.o⟩⟩
  |cons c r=>
   have bd:(rest==([]:List UInt8))=false:=by rw[G];rfl
   have az:rest.length<=100000:=by omega
   have ak:=Za (show(⟨rest.toArray⟩:ByteArray).size=rest.length by simp[ByteArray.size]);have ba:0<rest.length:=by rw[G];simp
   clear G
   gi_wp2
   gi_loop [3] (fun e=>∃k:Nat,k<=rest.length/\e=.int .i64 k/\(10:UInt8) ∉ rest.take k) (fun e=>rest.length-(intOf e).toNat)
   case atStart=>exact⟨0,Ze _,rfl,by simp⟩
   case round=>
    obtain⟨k,hk,rfl,V⟩:=hrel;have al:=ak.o;have O:=Za V;clear V;by_cases H:k<rest.length
    ·have bb:k<(⟨rest.toArray⟩:ByteArray).size:=by rw[al];exact H
     have P:rest.take (k+1)=rest.take k++[rest[k]]:=List.take_succ_eq_append_getElem H;have R:rest=rest.take k++rest[k]::rest.drop (k+1):=by rw[<-List.drop_eq_getElem_cons H,List.take_append_drop]
     by_cases C:rest[k]=10
     ·have X:(rest[k].toNat:Int)=10:=by rw[C];rfl
      have be:((k:Int)==(rest.length:Int))=false:=by simp;omega
      obtain⟨ln,E⟩:=Zy (rest.take k);obtain⟨r2,I⟩:=Zy (rest.drop (k+1));have ao:=ON rest ln k hk E;have ap:=G5 rest r2 (k+1) H I;simp only[Int.natCast_add,Int.cast_ofNat_Int]at ap;have aq:ln.length<=100000:=by rw[<-E,List.length_take];omega
      have Y:r2.length=rest.length-(k+1):=by rw[<-I,List.length_drop]
      have Z:=Za Y;have ar:=Za (show(dR [] rest).map eI=eI ln::(dR [] r2).map eI by
       conv=>lhs;rw[R]
       rw[C,E,I,A8 ln [] r2 (by rw[<-E];exact O.o)];simp)
      have au:=Za (LV ln wr aq);clear P R C E I Y
      gi_wp2_with (refine⟨trivial,?_⟩;gi_at_call 153;refine(callsIn_wide.2 au.o).mono ?_;rintro e w1 ⟨⟨v,rfl,hw⟩,A⟩;refine aD ?_)
      have aa:=HJ.o pre wr w1 none N.o ⟨A.os,A.tape,A.output,A.size,fun k hk _=>A.block k hk⟩ (fun r e=>by cases e);have av:=Za (aj.o.next A);obtain⟨fn,tmps,assign,body,hy,hR⟩:=HY.o pre ⟨eI ln,v⟩ w1 aa ⟨by omega,bY hw U⟩;have bc:n₀<=w1.heap.size:=Nat.le_trans U A.size;have HR:=Za hR;clear hR aa A hw c0 f0 ao;simp only[vJ]at hy;refine aC ?_
      gi_wp2
      refine HR.o.mono ?_;clear HR hy;rintro e W' (⟨rfl,hj',hsz',ab⟩|⟨rfl,ac⟩)
      ·have hbx':=ab _ av.o;have c0:=hbx'.q 0 rfl;have f0:=hbx'.free 0;have aw:=Za (show J (pre++[⟨eI ln,v⟩]) (W'.setCell ⟨sb,0,none⟩ (.string ⟨r2.toArray⟩))from HJ.o _ W' _ (some sb) hj' (grownBy_setCell' W' sb _) (fun r e=>by cases e;rfl));have ax:=Za (show aA (W'.setCell ⟨sb,0,none⟩ (.string ⟨r2.toArray⟩)) sb 9 #[.string ⟨r2.toArray⟩] from hbx'.set 0 _);have ay:=Za (show n₀<=(W'.setCell ⟨sb,0,none⟩ (.string ⟨r2.toArray⟩)).heap.size by simp[World.setCell];omega);clear hj' ab hbx'
       gi_wp2
       gi_roundg r2.length
       case measure=>have:=Z.o;omega
       case rel=>
        refine⟨r2,pre++[⟨eI ln,v⟩],rfl,ax.o,aw.o,ay.o,?_,?_⟩
        ·rw[Zl,List.length_singleton];have:=Z.o;omega
        ·rw[D.o,ar.o];simp
      ·have ad:=Za ac;clear ac
       gi_wp2
       refine bodyPost_ret (results_none rfl _ _ _) rfl ?_
       first|exact⟨⟨_,rfl⟩,.inr ⟨_,trivial,ad.o⟩⟩|exact⟨⟨_,rfl⟩,.inr ⟨_,ad.o⟩⟩
     ·have X:¬(rest[k].toNat:Int)=10:=fun h=>C (by
       have:rest[k].toNat=(10:UInt8).toNat:=by have:(10:UInt8).toNat=10:=rfl;omega
       exact UInt8.toNat_inj.1 this)
      have ae:=Za (show(10:UInt8) ∉ rest.take (k+1) by
       rw[P];intro hm;rcases List.mem_append.1 hm with hm|hm
       ·exact O.o hm
       ·exact C (List.mem_singleton.1 hm).symm)
      clear P R C
      gi_wp2
      go_round
      case rel=>exact⟨k+1,by omega,by go_num,ae.o⟩
      case measure=>simp[intOf];omega
    ·obtain rfl:k=rest.length:=by omega
     have HE:=Za (show pre.map (·.ws)=(dR [] s).map eI by rw[D.o,RI rest [] (by have:=O.o;rwa [List.take_length]at this)];simp)
     gi_wp2
     refine bodyPost_ret (results_none rfl _ _ _) rfl ?_;exact⟨⟨_,rfl⟩,.inl ⟨pre,HE.o,N.o⟩⟩
theorem NY {w W:World} {B j:Nat} {T:TypeId} {cs:Array Value} {v:Value} (h:aA w B T cs) (k:aA W B T cs) (hc:w.cell? ⟨B,j,none⟩=some v):W.cell? ⟨B,j,none⟩=some v:=by unfold aA at h k;rw[cell_of_row W B j cs T (0,0) k,<-cell_of_row w B j cs T (0,0) h];exact hc
theorem TK {w W:World} {a b i j:Nat} {u v:Value} (h:w.cell? ⟨a,i,none⟩=some u/\w.cell? ⟨b,j,none⟩=some v) (hb:Below w.heap.size w W):W.cell? ⟨a,i,none⟩=some u/\W.cell? ⟨b,j,none⟩=some v:=⟨(hb.cell (p:=⟨a,i,none⟩) (aP h.1)).trans h.1,(hb.cell (p:=⟨b,j,none⟩) (aP h.2)).trans h.2⟩
theorem LP (g n₀:Nat) (n1 n2 n3 n4 n5 n6 n7:Int) (ob:Option Addr) (nb cb:Nat) (vps:Value) (first:Bool) (nm:ByteArray) (qs:List PD) (o:Option Addr) (m cap:Nat) (s:List Int) (w:World) (hh:1<=n7/\n7<=4096) (hi:0<=n1/\n1<=4096)
  (h:fI g n₀ vps first qs (.slice o m cap) s w) (hm:m=s.length) (aq:nm.size<=1000000):
  Calls Tryz.prog 135 #[.pointer (some ⟨g,0,none⟩),.agg #[.int .i64 12,.int .i64 n1,.int .i64 n2,.int .i64 n3,.int .i64 n4,.int .i64 n5,.int .i64 n6,.int .i64 n7,.slice ob nb cb],.slice o m cap,.string nm] w (bP g n₀ qs (aK ⟨12,n1,n2,n3,n4,n5,n6,n7⟩ first s) w):=by
 obtain⟨W0,D⟩:=Zx (w.alloc (.cells #[.int .i64 12,.int .i64 n1,.int .i64 n2,.int .i64 n3,.int .i64 n4,.int .i64 n5,.int .i64 n6,.int .i64 n7,.slice ob nb cb] 175));obtain⟨W1,G⟩:=Zx (W0.setCell ⟨g,1,none⟩ (.bool false));have E:=h.start ⟨12,n1,n2,n3,n4,n5,n6,n7⟩ (.slice ob nb cb) D G;have A:=Za E.2;have x1:=E.1.1;have f1:=E.1.2;have HW:=Za (Zd D G);obtain⟨B,O,P⟩:=jB h.fit;have ar:m<=3:=by omega
 have au:=Za (Zd O P);have al:=Za h.fit;have HQ:=Za h.hq;have Z:=Za hm;have hl2':¬9223372036854775807<nm.size+2:=by omega
 rw[D]at x1 f1;clear h E D G O P B hm;obtain⟨a0,a1,a2,a3,a4,a5,a6,a7,a8⟩:=A.o.lay.r9;have x2:=A.o.wk.q 2 rfl;have f2:=A.o.wk.free 2;go_enter Tryz.func135,Tryz.ntmps135;go_upto_region 4 with(fail);rw[<-HW.o.1,<-HW.o.2];clear x1 f1;have ao:(n7==0)=false:=by simp;omega
 have hr:IntKind.i64.wrap (n1.tmod n7)=n1%n7:=by rw[Int.tmod_eq_emod_of_nonneg hi.1];have h1:=Int.emod_nonneg n1 (show n7≠0 by omega);have h2:=Int.emod_lt_of_pos n1 (show 0<n7 by omega);rw[IntKind.wrap_i64];omega
 have aa:n1.tmod n7=n1%n7:=Int.tmod_eq_emod_of_nonneg hi.1;by_cases R:m=2
 ·subst R;obtain⟨b,off,rfl,hc⟩:=A.o.sh.1.cell 1 (by rw[<-Z.o];omega);obtain⟨x,hx⟩:=Zx (aF s 1);rw[<-hx]at hc;have HX:=Za hx;clear hx;by_cases H:x=n1
  ·subst H;obtain⟨r,I⟩:=Zx (x%n7);rw[<-I]at hr aa;have HR:=Za I;clear I;by_cases J:r=0
   ·subst J;have HY:=Za (show aK ⟨12,x,n2,n3,n4,n5,n6,n7⟩ first s=some (s,List.replicate 4 [x,x]) by rw[aK,if_neg (show ¬((12:Int)=1) by decide),if_neg (show ¬((12:Int)=2) by decide),if_neg (show ¬((12:Int)=8\/(12:Int)=9) by decide),if_neg (show ¬((12:Int)=10) by decide),if_neg (show ¬((12:Int)=11) by decide),if_pos rfl,if_pos ⟨Z.o.symm,HX.o.symm,HR.o.symm⟩]);go_wp2_with fail;go_quiet(fail);obtain⟨V,hV⟩:=Zx (W1.drewN nq);have HV:=Za (show eK g n₀ w.heap.size ⟨12,x,n2,n3,n4,n5,n6,n7⟩ (.slice ob nb cb) vps 0 qs (.slice (some ⟨b,off,none⟩) 2 cap) s w V by rw[hV];exact A.o.next (fC _));rw[<-hV];clear hV hc x2 f2 a0 a1 a2 a3 a4 a5 a6 a7 a8 A;obtain⟨V2,L⟩:=Zx (V.alloc (.cells #[.string ⟨#[113]⟩,.string ⟨#[107]⟩,.string ⟨#[118]⟩,.string ⟨#[111]⟩] 9));have ab:=Za (show eK g n₀ w.heap.size ⟨12,x,n2,n3,n4,n5,n6,n7⟩ (.slice ob nb cb) vps 0 qs (.slice (some ⟨b,off,none⟩) 2 cap) s w V2/\aA V2 V.heap.size 9 #[.string ⟨#[113]⟩,.string ⟨#[107]⟩,.string ⟨#[118]⟩,.string ⟨#[111]⟩] by rw[L];exact⟨HV.o.next ((Zc _ _).alloc (Zb _) _),aA.new _ _ _⟩);have ac:=Za L;clear L;go_wp2_with fail;rw[<-ac.o];go_loopw[13] (fun i wr=>∃(k:Nat),k<=4/\i=.int .i64 k/\Hid (∃(vps':Value) (bad':Int) (qs':List PD),(eK g n₀ w.heap.size ⟨12,x,n2,n3,n4,n5,n6,n7⟩ (.slice ob nb cb) vps' bad' qs' (.slice (some ⟨b,off,none⟩) 2 cap) s w wr/\aA wr V.heap.size 9 #[.string ⟨#[113]⟩,.string ⟨#[107]⟩,.string ⟨#[118]⟩,.string ⟨#[111]⟩])/\(qs'.map (·.sh)=qs.map (·.sh)++List.replicate k [x,x]/\(bad'=0↔k=0\/bA [x,x]=true)))) (fun i _=>4-(intOf i).toNat)
    case atStart=>exact⟨0,by omega,rfl,Za ⟨vps,0,qs,ab.o,by simp,by simp⟩⟩
    case round=>
     obtain⟨k,hk,rfl,ad⟩:=hrel;obtain⟨vps',bad',qs',hA,hP⟩:=ad.o;have A:=Za hA;have T:=Za hP;clear hA hP;obtain⟨w1,rfl⟩:=Zx wr;by_cases av:k<4
     ·obtain⟨lt,ae,aw⟩:∃lt:ByteArray,w1.cell? ⟨V.heap.size,k,none⟩=some (.string lt)/\lt.size=1:=by
       have:k=0\/k=1\/k=2\/k=3:=by omega
       rcases this with rfl|rfl|rfl|rfl
       ·exact⟨⟨#[113]⟩,A.o.2.cell 0 rfl,rfl⟩
       ·exact⟨⟨#[107]⟩,A.o.2.cell 1 rfl,rfl⟩
       ·exact⟨⟨#[118]⟩,A.o.2.cell 2 rfl,rfl⟩
       ·exact⟨⟨#[111]⟩,A.o.2.cell 3 rfl,rfl⟩
      have ax:¬9223372036854775807<nm.size+1:=by omega
      have ay:¬9223372036854775807<nm.size+1+lt.size:=by omega
      have a1:=A.o.1.lay.q 1 rfl;have HC:=Za (Zd ae a1);have af:=Za (show qs'.length<=10004 by have:=congrArg List.length T.o.1;have:=HQ.o;simp at*;omega);have HX:=Za (show Below w1.heap.size w1 w1.drew from Below.drew (Zc _ _));go_wp2_with fail;go_region_held3 (fun w'=>w'.cell? ⟨V.heap.size,k,none⟩=some (.string lt)/\w'.cell? ⟨w.heap.size,1,none⟩=some (.int .i64 x))
       (first|with_reducible exact ag.o|(refine TK HC.o ?_;(repeat(first|with_reducible exact HX.o|with_reducible exact Zc _ _|with_reducible refine Below.drew ?_|with_reducible refine Below.alloc ?_ (by simp) _))))
       (first
       |(go_at_call 164;refine(lQ g n₀ vps' false bad' _ qs' _ _ _ 2 2 [x,x] _ (A.o.1.next (by first|exact((Zc _ _).alloc (Zb _) _).drew|exact(Zc _ _).drew.alloc (Zb _) _)).wk (A.o.1.next (by first|exact((Zc _ _).alloc (Zb _) _).drew|exact(Zc _ _).drew.alloc (Zb _) _)).row (by have:=af.o;omega) A.o.1.hn rfl (by first|exact aM.of_own (mA (iE w1 x x) ⟨1,rfl⟩)|exact aM.of_own (iE w1.drew x x)) (by simp)).mono ?_;rintro e w3 ⟨rfl,⟨vps3,q3,M,N,U⟩,B⟩;(first|(have F:=Za (Zd ((A.o.1.next ((Zc _ _).alloc (Zb _) _).drew).par B M N) ((A.o.2.next ((Zc _ _).alloc (Zb _) _).drew).keepR B (by decide) (by decide))))|(have F:=Za (Zd ((A.o.1.next ((Zc _ _).drew.alloc (Zb _) _)).par B M N) ((A.o.2.next ((Zc _ _).drew.alloc (Zb _) _)).keepR B (by decide) (by decide)))));have ah:=Za U;have ag:=Za (Zd (NY A.o.2 F.o.2 HC.o.1) (show w3.cell? ⟨w.heap.size,1,none⟩=some (.int .i64 x)from F.o.1.lay.cell 1 rfl));clear B M N U))
      all_goals
       have ai:=Za (show(qs'++[q3]).map (·.sh)=qs.map (·.sh)++List.replicate (k+1) [x,x]/\(kB [x,x] bad'=0↔k+1=0\/bA [x,x]=true) by
        refine⟨?_,?_⟩
        ·rw[List.map_append,T.o.1,List.append_assoc];simp[ah.o,List.replicate_succ']
        ·rw[qY,T.o.2];constructor
         ·intro h;exact .inr h.2
         ·intro h;rcases h with h|h
          ·omega
          ·exact⟨.inr h,h⟩)
       go_wp2_with fail;go_roundw
       case rel=>exact⟨k+1,by omega,by go_num,Za ⟨vps3,kB [x,x] bad',qs'++[q3],F.o,ai.o⟩⟩
       case measure=>simp[intOf];omega
     ·obtain rfl:k=4:=by omega
      go_wp2_with(go_at_call 92;refine(jH _ s _ A.o.1.sh.1 (by rw[<-Z.o];omega)).mono ?_;rintro e w5 ⟨v5,rfl,C,X⟩;have aj:=Za (show aH w5 w1.heap.size 3 .i64 v5 s from C);obtain⟨o5,c5,rfl⟩:=aJ C;have ak:=Za X;clear C X);go_ret;refine bP.yes (A.o.1.next ak.o) HY.o ?_ T.o.1 (by simp) (aM.of_own aj.o);rw[T.o.2];simp
   ·have hr0':(r != 0)=true:=by simpa using J
    have Y:=Za (show aK ⟨12,x,n2,n3,n4,n5,n6,n7⟩ first s=none by rw[aK,if_neg (show ¬((12:Int)=1) by decide),if_neg (show ¬((12:Int)=2) by decide),if_neg (show ¬((12:Int)=8\/(12:Int)=9) by decide),if_neg (show ¬((12:Int)=10) by decide),if_neg (show ¬((12:Int)=11) by decide),if_pos rfl,if_neg (fun h=>J (HR.o.trans h.2.2))]);go_wp2_with fail;go_quiet(fail);go_wp2_with fail;go_ret;exact bP.no ((A.o.next (fC _)).bad 2) (by decide) Y.o (by omega) none 0 0
  ·have ap:(x != n1)=true:=by simpa using H
   have Y:=Za (show aK ⟨12,n1,n2,n3,n4,n5,n6,n7⟩ first s=none by rw[aK,if_neg (show ¬((12:Int)=1) by decide),if_neg (show ¬((12:Int)=2) by decide),if_neg (show ¬((12:Int)=8\/(12:Int)=9) by decide),if_neg (show ¬((12:Int)=10) by decide),if_neg (show ¬((12:Int)=11) by decide),if_pos rfl,if_neg (fun h=>H (HX.o.trans h.2.1))]);go_wp2_with fail;go_quiet(fail);go_wp2_with fail;go_ret;exact bP.no ((A.o.next (fC _)).bad 2) (by decide) Y.o (by omega) none 0 0
 ·have az:((m:Int) != 2)=true:=by simp;omega
  have Y:=Za (show aK ⟨12,n1,n2,n3,n4,n5,n6,n7⟩ first s=none by rw[aK,if_neg (show ¬((12:Int)=1) by decide),if_neg (show ¬((12:Int)=2) by decide),if_neg (show ¬((12:Int)=8\/(12:Int)=9) by decide),if_neg (show ¬((12:Int)=10) by decide),if_neg (show ¬((12:Int)=11) by decide),if_pos rfl,if_neg (fun h=>R (Z.o.trans h.1))]);go_wp2_with fail;go_quiet(fail);go_wp2_with fail;go_ret;exact bP.no ((A.o.next (fC _)).bad 2) (by decide) Y.o (by omega) none 0 0
