/-
  A part of the proof of a law (packed by program).
-/
import Derived.Shelf.Strconv.Itoa3
import Derived.Lib.AppendIntMem
import Derived.Shelf.RegionOpen
import Derived.OwnWalkIn
import Derived.LoopNIn
import Derived.LoopIn
import Derived.Test.YtjhkdocidcfpdaaGreatDoorTM08
import Derived.Test.YtjhkdocidcfpdaaGreatDoorTM09
set_option linter.unusedVariables false
set_option linter.unusedSimpArgs false
set_option maxRecDepth 100000
set_option maxHeartbeats 16000000
open List renaming length_append → Zl
namespace Go.Proofs.YtjhkdocidcfpdaaGreatDoor
open Go.RowKit Go.Shelf Go
def yK (g n₀:Nat) (n:aG) (vb vin:Value) (first:Bool) (nm:ByteArray) (w:World) (res:Option (List Int×List (List Int))) (e:Ending) (w':World):Prop:=
 bC g w w'∧∃vout vps qs bad,aA w' g 251 (cG n vb vin vout vps first nm 0 false)∧aV w' n₀ g vps qs∧e=.returned (.int .i64 bad)∧(res=none→bad≠0)∧(∀p,res=some p→bad=0∧aM n₀ w' vout p.1∧p.2=qs.map (·.sh))∧∃oo no co,vout=.slice oo no co
theorem vI {n:aG} {first:Bool} {s:List Int} {p:List Int×List (List Int)} (hs:s.length≤4) (h:aK n first s=some p):p.1.length≤8∧p.2.length≤4∧∀q∈p.2,q.length≤8:=by
 rw[aK]at h;split at h
 ·split at h
  ·cases h;refine⟨by simp;omega,by simp,fun q hq=>?_⟩;simp at hq;rcases hq with rfl|rfl<;>simp
  ·cases h
 split at h
 ·split at h
  ·cases h
  ·rename_i t ht;split at h
   ·cases h;rw[bV]at ht;split at ht
    ·have:=lU ht;rw[List.length_tail]at this;refine⟨by simp;omega,by simp,fun q hq=>?_⟩;simp only[List.mem_cons,List.not_mem_nil,or_false]at hq;rcases hq with rfl|rfl<;>(simp;omega)
    ·cases ht
   ·cases h
 split at h
 ·split at h
  ·cases h
  ·rename_i t ht;cases h;rw[bV]at ht;split at ht
   ·have:=lU ht;rw[List.length_tail]at this;exact⟨by simp;omega,by simp,fun q hq=>by simp at hq⟩
   ·cases ht
 split at h
 ·cases h;exact⟨by simp,by simp,fun q hq=>by simp at hq⟩
 split at h
 ·split at h
  ·cases h;refine⟨by simp,by simp,fun q hq=>?_⟩;simp at hq;subst hq;simp
  ·cases h
 split at h
 ·split at h
  ·cases h;refine⟨by simp;omega,by simp,fun q hq=>?_⟩;rw[List.eq_of_mem_replicate hq];simp
  ·cases h
 ·cases h;exact⟨by simp;omega,by simp,fun q hq=>by simp at hq⟩
theorem I3 (g n₀:Nat) (n:aG) (vb vin:Value) (first:Bool) (nm:ByteArray) (s:List Int) (w:World) (hs:s.length≤4) (hgl:g<w.heap.size)
  (hd:Calls Tryz.prog 207 #[.pointer (some ⟨g,0,none⟩)] w (eY g n₀ n vb vin first nm w (aK n first s))):
  Calls Tryz.prog 203 #[.pointer (some ⟨g,0,none⟩)] w (yK g n₀ n vb vin first nm w (fT n first s)):=by
 have HD:=Za hd;clear hd;cases hr:aK n first s with
 |none=>
  have HJ:Hid (fT n first s=none):=Za (by rw[fT,hr]);rw[hr]at HD;clear hr;go_enter Tryz.func203,Tryz.ntmps203;go_wp2_with(go_at_call 207;refine HD.o.mono ?_;rintro e w2 ⟨hp,vout,vps,qs,hb,hq,rfl,_,hsl⟩;refine aD ?_);have HSL:=Za (hsl (by trivial));clear hsl;have HP:=Za hp;have HB:=Za hb;have HQ:=Za hq;clear hp hb hq;refine aC ?_
  try simp only[Option.isSome_none]
  go_wp2_with fail;go_ret;exact⟨HP.o,vout,vps,qs,2,HB.o,HQ.o,rfl,fun _=>by decide,fun p hp=>(by rw[HJ.o]at hp;cases hp),HSL.o⟩
 |some p=>
  have HR:=Za hr;obtain⟨hl1,hl2,hl3⟩:=vI hs hr;have HL3:=Za hl3;rw[hr]at HD;clear hr hl3;go_enter Tryz.func203,Tryz.ntmps203;go_wp2_with(go_at_call 207;refine HD.o.mono ?_;rintro e w2 ⟨hp,vout,vps,qs,hb,hq,rfl,hx,_⟩;refine aD ?_);obtain⟨hrd,hps⟩:=hx p rfl;obtain⟨oo,co,rfl⟩:=hrd.slice;obtain⟨ov,cv,rfl⟩:=aJ hq.row;have HP:=Za hp;have HB:=Za hb;have HQ:=Za hq;have HRD:=Za hrd;have HPS:=Za hps;have d10:=hb.q 10 rfl;have hql:qs.length≤4:=by have:=congrArg List.length hps;simp at this;omega
  have HQL:=Za (show ∀q∈qs,q.sh.length≤100000 from fun q hq=>by have:=HL3.o q.sh (by rw[hps];exact List.mem_map_of_mem hq);omega);have hz:=hb.lt;clear hp hb hq hx hrd hps;refine aC ?_
  try simp only[Option.isSome_some]
  cases hf:dM p.1 with
  |false=>
   have HF:=Za hf;clear hf;go_wp2_with(go_at_call 181;refine(rA _ _ _ p.1 _ HRD.o.1 (by omega)).mono ?_;rintro e w3 ⟨rfl,hb3⟩;rw[HF.o];have HB3:=Za hb3;clear hb3);go_ret;exact⟨HP.o.trans (bC.below HB3.o (Nat.le_of_lt hz)),_,_,qs,5,HB.o.next HB3.o,HQ.o.below HB3.o,rfl,fun _=>by decide,fun q hq=>(by rw[fT,HR.o]at hq;simp only[HF.o,Bool.false_and,Bool.false_eq_true,if_false]at hq;cases hq),⟨_,_,_,rfl⟩⟩
  |true=>
   have HF:=Za hf;clear hf;go_wp2_with(go_at_call 181;refine(rA _ _ _ p.1 _ HRD.o.1 (by omega)).mono ?_;rintro e w3 ⟨rfl,hb3⟩;rw[HF.o];refine aD ?_);have HB3:=Za hb3;have d11:w3.cell? ⟨g,11,none⟩=some (.slice ov qs.length cv):=(HB.o.next hb3).cell 11 rfl;have HQ3:=Za (HQ.o.below hb3);clear hb3 d10;refine aC ?_;cases ha:(qs.map (·.sh)).all bA with
   |false=>
    have HA:=Za ha;clear ha;go_wp2_with(go_at_call 208;refine(CL _ n₀ g qs _ HQ3.o (by omega) HQL.o).mono ?_;rintro e w4 ⟨rfl,hb4⟩;rw[HA.o];have HB4:=Za (HB3.o.trans (hb4.mono HB3.o.size));have HQ4:=Za (HQ3.o.below hb4);clear hb4);go_ret;exact⟨HP.o.trans (bC.below HB4.o (Nat.le_of_lt hz)),_,_,qs,5,HB.o.next HB4.o,HQ4.o,rfl,fun _=>by decide,fun q hq=>(by rw[fT,HR.o]at hq;simp only[HPS.o,HA.o,Bool.and_false,Bool.false_eq_true,if_false]at hq;cases hq),⟨_,_,_,rfl⟩⟩
   |true=>
    have HA:=Za ha;clear ha;go_wp2_with(go_at_call 208;refine(CL _ n₀ g qs _ HQ3.o (by omega) HQL.o).mono ?_;rintro e w4 ⟨rfl,hb4⟩;rw[HA.o];have HB4:=Za (HB3.o.trans (hb4.mono HB3.o.size));have HQ4:=Za (HQ3.o.below hb4);clear hb4);go_ret;have hj:fT n first s=some p:=by rw[fT,HR.o];simp only[HPS.o,HA.o,HF.o,Bool.and_self,if_true]
    exact⟨HP.o.trans (bC.below HB4.o (Nat.le_of_lt hz)),_,_,qs,0,HB.o.next HB4.o,HQ4.o,rfl,fun h=>(by rw[hj]at h;cases h),fun q hq=>(by rw[hj]at hq;cases hq;exact⟨rfl,HRD.o.below HB4.o,HPS.o⟩),⟨_,_,_,rfl⟩⟩
end Go.Proofs.YtjhkdocidcfpdaaGreatDoor
namespace Go.Proofs.YtjhkdocidcfpdaaGreatDoor
open Go.RowKit Go.Shelf Go.Sort
def RN:Go.Shelf.Ren:=⟨fun|171=>100|243=>141|246=>171|283=>190|284=>191|285=>192|286=>193|129=>199|317=>198|318=>200|319=>201|320=>202|337=>205|338=>206|n=>n,fun|3=>3|9=>9|2=>2|4=>4|171=>262|0=>0|53=>40|37=>23|5=>5|173=>265|212=>272|51=>27|20=>20|213=>273|46=>29|232=>281|233=>282|n=>n,fun|17=>0|18=>1|19=>2|n=>n⟩
theorem G7:Go.Proofs.LaysM.n171 Tryz.prog RN:={
 mixed:=by kernel_rfl
 f129:=Tryz.func199.trans (congrArg some (by kernel_rfl))
 f171:=Tryz.func100.trans (congrArg some (by kernel_rfl))
 f243:=Tryz.func141.trans (congrArg some (by kernel_rfl))
 f246:=Tryz.func171.trans (congrArg some (by kernel_rfl))
 f283:=Tryz.func190.trans (congrArg some (by kernel_rfl))
 f284:=Tryz.func191.trans (congrArg some (by kernel_rfl))
 f285:=Tryz.func192.trans (congrArg some (by kernel_rfl))
 f286:=Tryz.func193.trans (congrArg some (by kernel_rfl))
 f317:=Tryz.func198.trans (congrArg some (by kernel_rfl))
 f318:=Tryz.func200.trans (congrArg some (by kernel_rfl))
 f319:=Tryz.func201.trans (congrArg some (by kernel_rfl))
 f320:=Tryz.func202.trans (congrArg some (by kernel_rfl))
 f337:=Tryz.func205.trans (congrArg some (by kernel_rfl))
 f338:=Tryz.func206.trans (congrArg some (by kernel_rfl))
 t0:=Tryz.underlying0
 a0:=Tryz.isAgg0
 z0:=Tryz.sizeOf0
 v0:=Tryz.zeroValue0
 t2:=Tryz.underlying2
 a2:=Tryz.isAgg2
 z2:=Tryz.sizeOf2
 v2:=Tryz.zeroValue2
 t3:=Tryz.underlying3
 a3:=Tryz.isAgg3
 z3:=Tryz.sizeOf3
 v3:=Tryz.zeroValue3
 t4:=Tryz.underlying4
 a4:=Tryz.isAgg4
 z4:=Tryz.sizeOf4
 v4:=Tryz.zeroValue4
 t5:=Tryz.underlying5
 a5:=Tryz.isAgg5
 z5:=Tryz.sizeOf5
 v5:=Tryz.zeroValue5
 t9:=Tryz.underlying9
 a9:=Tryz.isAgg9
 z9:=Tryz.sizeOf9
 v9:=Tryz.zeroValue9
 t20:=Tryz.underlying20
 a20:=Tryz.isAgg20
 z20:=Tryz.sizeOf20
 v20:=Tryz.zeroValue20
 t37:=Tryz.underlying23
 a37:=Tryz.isAgg23
 z37:=Tryz.sizeOf23
 v37:=Tryz.zeroValue23
 t46:=Tryz.underlying29
 a46:=Tryz.isAgg29
 z46:=Tryz.sizeOf29
 v46:=Tryz.zeroValue29
 t51:=Tryz.underlying27
 a51:=Tryz.isAgg27
 z51:=Tryz.sizeOf27
 v51:=Tryz.zeroValue27
 t53:=Tryz.underlying40
 a53:=Tryz.isAgg40
 z53:=Tryz.sizeOf40
 v53:=Tryz.zeroValue40
 t171:=Tryz.underlying262
 a171:=Tryz.isAgg262
 z171:=Tryz.sizeOf262
 v171:=Tryz.zeroValue262
 t173:=Tryz.underlying265
 a173:=Tryz.isAgg265
 z173:=Tryz.sizeOf265
 v173:=Tryz.zeroValue265
 t212:=Tryz.underlying272
 a212:=Tryz.isAgg272
 z212:=Tryz.sizeOf272
 v212:=Tryz.zeroValue272
 t213:=Tryz.underlying273
 a213:=Tryz.isAgg273
 z213:=Tryz.sizeOf273
 t232:=Tryz.underlying281
 a232:=Tryz.isAgg281
 z232:=Tryz.sizeOf281
 v232:=Tryz.zeroValue281
 t233:=Tryz.underlying282
 a233:=Tryz.isAgg282
 z233:=Tryz.sizeOf282
 v233:=Tryz.zeroValue282
 g17:=by kernel_rfl
 g18:=by kernel_rfl
 g19:=by kernel_rfl
 i0:=by kernel_rfl
 i2:=by kernel_rfl
 i3:=by kernel_rfl
 i4:=by kernel_rfl
 i5:=by kernel_rfl
 i9:=by kernel_rfl
 i20:=by kernel_rfl
 i37:=by kernel_rfl
 i46:=by kernel_rfl
 i51:=by kernel_rfl
 i53:=by kernel_rfl
 i171:=by kernel_rfl
 i173:=by kernel_rfl
 i212:=by kernel_rfl
 i232:=by kernel_rfl
 i233:=by kernel_rfl
 m17:=by kernel_rfl
 m18:=by kernel_rfl
 m19:=by kernel_rfl}
def KZ:Go.Shelf.Ren:=⟨fun|171=>100|243=>141|246=>171|283=>190|284=>191|285=>192|286=>193|129=>199|317=>198|318=>200|319=>201|320=>202|337=>205|338=>206|n=>n,fun|3=>3|9=>9|2=>2|4=>4|171=>262|0=>0|53=>40|37=>23|5=>5|173=>265|212=>272|51=>27|20=>20|213=>273|46=>29|232=>281|233=>282|n=>n,fun|17=>0|18=>1|19=>2|n=>n⟩
theorem QS:Go.Proofs.Lays.n171 Tryz.prog KZ:={
 mixed:=by kernel_rfl
 f129:=Tryz.func199.trans (congrArg some (by kernel_rfl))
 f171:=Tryz.func100.trans (congrArg some (by kernel_rfl))
 f243:=Tryz.func141.trans (congrArg some (by kernel_rfl))
 f246:=Tryz.func171.trans (congrArg some (by kernel_rfl))
 f283:=Tryz.func190.trans (congrArg some (by kernel_rfl))
 f284:=Tryz.func191.trans (congrArg some (by kernel_rfl))
 f285:=Tryz.func192.trans (congrArg some (by kernel_rfl))
 f286:=Tryz.func193.trans (congrArg some (by kernel_rfl))
 f317:=Tryz.func198.trans (congrArg some (by kernel_rfl))
 f318:=Tryz.func200.trans (congrArg some (by kernel_rfl))
 f319:=Tryz.func201.trans (congrArg some (by kernel_rfl))
 f320:=Tryz.func202.trans (congrArg some (by kernel_rfl))
 f337:=Tryz.func205.trans (congrArg some (by kernel_rfl))
 f338:=Tryz.func206.trans (congrArg some (by kernel_rfl))
 t0:=Tryz.underlying0
 a0:=Tryz.isAgg0
 z0:=Tryz.sizeOf0
 v0:=Tryz.zeroValue0
 t2:=Tryz.underlying2
 a2:=Tryz.isAgg2
 z2:=Tryz.sizeOf2
 v2:=Tryz.zeroValue2
 t3:=Tryz.underlying3
 a3:=Tryz.isAgg3
 z3:=Tryz.sizeOf3
 v3:=Tryz.zeroValue3
 t4:=Tryz.underlying4
 a4:=Tryz.isAgg4
 z4:=Tryz.sizeOf4
 v4:=Tryz.zeroValue4
 t5:=Tryz.underlying5
 a5:=Tryz.isAgg5
 z5:=Tryz.sizeOf5
 v5:=Tryz.zeroValue5
 t9:=Tryz.underlying9
 a9:=Tryz.isAgg9
 z9:=Tryz.sizeOf9
 v9:=Tryz.zeroValue9
 t20:=Tryz.underlying20
 a20:=Tryz.isAgg20
 z20:=Tryz.sizeOf20
 v20:=Tryz.zeroValue20
 t37:=Tryz.underlying23
 a37:=Tryz.isAgg23
 z37:=Tryz.sizeOf23
 v37:=Tryz.zeroValue23
 t46:=Tryz.underlying29
 a46:=Tryz.isAgg29
 z46:=Tryz.sizeOf29
 v46:=Tryz.zeroValue29
 t51:=Tryz.underlying27
 a51:=Tryz.isAgg27
 z51:=Tryz.sizeOf27
 v51:=Tryz.zeroValue27
 t53:=Tryz.underlying40
 a53:=Tryz.isAgg40
 z53:=Tryz.sizeOf40
 v53:=Tryz.zeroValue40
 t171:=Tryz.underlying262
 a171:=Tryz.isAgg262
 z171:=Tryz.sizeOf262
 v171:=Tryz.zeroValue262
 t173:=Tryz.underlying265
 a173:=Tryz.isAgg265
 z173:=Tryz.sizeOf265
 v173:=Tryz.zeroValue265
 t212:=Tryz.underlying272
 a212:=Tryz.isAgg272
 z212:=Tryz.sizeOf272
 v212:=Tryz.zeroValue272
 t213:=Tryz.underlying273
 a213:=Tryz.isAgg273
 z213:=Tryz.sizeOf273
 t232:=Tryz.underlying281
 a232:=Tryz.isAgg281
 z232:=Tryz.sizeOf281
 v232:=Tryz.zeroValue281
 t233:=Tryz.underlying282
 a233:=Tryz.isAgg282
 z233:=Tryz.sizeOf282
 v233:=Tryz.zeroValue282
 g17:=by kernel_rfl
 g18:=by kernel_rfl
 g19:=by kernel_rfl}
end Go.Proofs.YtjhkdocidcfpdaaGreatDoor
namespace Go.Proofs.YtjhkdocidcfpdaaGreatDoor
open Go.RowKit Go.Shelf Go
theorem qX (i:Nat) (hi:i<100) (w:World):Calls Tryz.prog 100 #[.int .i64 i] w fun e w'=>(∃nm:ByteArray,e=.returned (.string nm)∧nm.size≤21)∧w'=w:=by
 have h:=Any.strconv_Itoa_small QS i hi w
 change Calls Tryz.prog 100 _ _ _ at h
 refine h.mono ?_;rintro e w' ⟨rfl,rfl⟩;refine⟨⟨_,rfl,?_⟩,rfl⟩;have:=Lib.itoa_length_le (i:Int) (by omega) (by omega);rw[Lib.itoa_nonneg]at this
 simpa [ByteArray.size]using this
theorem zO (n:Int) (h0:-9223372036854775808≤n) (h1:n≤9223372036854775807) (w:World) (htab:Lib.TabIs Tryz.prog w "internal/strconv.uint64pow10" .u64 Lib.pow10Tab):
  Calls Tryz.prog 100 #[.int .i64 n] w fun e w'=>e=.returned (.string ⟨(Lib.itoa n).toArray⟩)∧Below w.heap.size w w':=by
 have h:=Any.strconv_Itoa G7 n h0 h1 w htab
 change Calls Tryz.prog 100 _ _ _ at h
 refine h.mono ?_;rintro e w' ⟨rfl,k,os,rfl⟩;exact⟨rfl,Lib.below_grow _ w (Zb _) k os⟩
theorem DH (a b:List aB):aR (a++b)=aR a+aR b:=by
 induction a with
 |nil=>simp[aR]
 |cons x r ih=>rw[List.cons_append,aR,aR,ih];omega
theorem wK (ls:List aB) (k:Nat) (h:k<ls.length):aR (ls.take (k+1))=aR (ls.take k)+(1+aR (ls[k]).body):=by rw[List.take_succ_eq_append_getElem h,DH,aR,aB.count_eq,aR];omega
theorem CC (ls:List aB) (k:Nat):aR (ls.take k)≤aR ls:=by have:=DH (ls.take k) (ls.drop k);rw[List.take_append_drop]at this;omega
def sJ (ls:List aB):Prop:=∀(v:Value) (w:World),bF w v ls→ls.length≤140737488351232→aR ls≤1000000000000000→
 Calls Tryz.prog 108 #[v] w fun e w'=>e=.returned (.int .i64 (aR ls:Nat))∧w=w'
theorem EI (ls:List aB) (hall:∀l∈ls,sJ l.body):sJ ls:=by
 intro v w hr hl hc;obtain⟨o,cap,rfl⟩:=hr.len;have HR:=Za hr;have HALL:=Za hall;have HC:=Za hc;clear hr hall hc;go_enter Tryz.func108,Tryz.ntmps108;go_wp2;go_loopw[3,4] (fun c i wr=>∃(k m:Nat),k≤ls.length∧i=.int .i64 k∧c=.int .i64 m∧Hid (m=aR (ls.take k))∧m≤1000000000000000∧Hid (wr=w)) (fun _ i _=>ls.length-(intOf i).toNat)
 case atStart=>exact⟨0,0,Ze _,rfl,rfl,Za rfl,by omega,Za rfl⟩
 case round=>
  obtain⟨k,m,hk,rfl,rfl,HM,hm,HE⟩:=hrel;rw[HE.o];by_cases hlt:k<ls.length
  ·obtain⟨b,off,vb,rfl,hcell,hlb,hlim⟩:=HR.o.lay k hlt;have c8:w.cell? ⟨b,off+k*9+8,none⟩=some vb:=hcell 8 _ rfl;have hle:=CC ls (k+1);rw[wK ls k hlt,←HM.o]at hle;have hcc:=HC.o;obtain⟨q,hq⟩:∃q:Nat,q=aR (ls[k]).body:=⟨_,rfl⟩;rw[←hq]at hle;have HQ:=Za hq;have hmq:m+(1+q)≤1000000000000000:=by omega
   have HCALL:=Za (HALL.o _ (List.getElem_mem hlt) vb w hlb hlim (by omega));obtain⟨ob,cb,rfl⟩:=hlb.len;clear hcell hlb hlim hle hcc hq;go_wp2_with fail;refine HCALL.o.mono ?_;rintro e w' ⟨rfl,rfl⟩;rw[←HQ.o];go_wp2;go_roundw
   case rel=>exact⟨k+1,m+(1+q),by omega,by go_num,by go_num,Za (by rw[wK ls k hlt,←HM.o,←HQ.o]),hmq,(by first|exact Za trivial|exact Za rfl)⟩
   case measure=>simp[intOf];omega
  ·obtain rfl:k=ls.length:=by omega
   have HM2:=Za (show m=aR ls by rw[HM.o,List.take_length]);go_wp2;go_ret;exact⟨by rw[HM2.o];rfl,rfl⟩
theorem M1:∀l:aB,sJ l.body:=aB.ind fun n body h=>EI body h
theorem GR (ls:List aB):sJ ls:=EI ls fun l _=>M1 l
def bH (v:Int):Nat:=(v%18446744073709551616).toNat
def kC (l:List Int):List Int:=l.flatMap fun v=>bB (bH v) 4
def eG (l:List Int):List Int:=l.flatMap fun v=>bB (bH v) 8
theorem P3 (l:List Int):(kC l).length=4*l.length:=by
 induction l with
 |nil=>rfl
 |cons x l ih=>rw[kC,List.flatMap_cons,Zl,dH,List.length_cons];have:(l.flatMap fun v=>bB (bH v) 4).length=4*l.length:=ih;omega
theorem kU (l:List Int):(eG l).length=8*l.length:=by
 induction l with
 |nil=>rfl
 |cons x l ih=>rw[eG,List.flatMap_cons,Zl,dH,List.length_cons];have:(l.flatMap fun v=>bB (bH v) 8).length=8*l.length:=ih;omega
theorem rE (v:Int):bH v<18446744073709551616:=by unfold bH;omega
theorem GW (v:Int):IntKind.u64.wrap v=(bH v:Nat):=by rw[IntKind.wrap_u64];unfold bH;omega
theorem tZ (v:Int) (h0:0≤v) (h1:v≤9223372036854775807):((bH v:Nat):Int)=v:=by unfold bH;omega
theorem K0 (w:World) (l:List Value) (e:TypeId) (fz:Nat×Nat) (o:Obj):∀(j:Nat) (u:Value),l[j]?=some u→((w.alloc (.cells l.toArray e fz)).alloc o).cell? ((⟨w.heap.size,0,none⟩:Addr).add j)=some u:=fun j u h=>by
 have h1:=fS w l e fz j u h;rw[Addr.add_lit]at h1 ⊢;rw[World.cell?_alloc_past _ _ _ (by simp)];exact h1
def bv (l:List Int):Nat:=l.foldl (fun n x=>n*256+x.toNat) 0
theorem GI (l:List Int) (a:Nat):l.foldl (fun n x=>n*256+x.toNat) a=a*256^l.length+bv l:=by
 induction l generalizing a with
 |nil=>simp[bv]
 |cons x l ih=>
  have h2:bv (x::l)=(0*256+x.toNat)*256^l.length+bv l:=by rw[bv,List.foldl_cons];exact ih _
  rw[List.foldl_cons,ih,h2,List.length_cons,Nat.pow_succ,Nat.add_mul];simp only[Nat.zero_mul,Nat.zero_add,Nat.mul_assoc,Nat.mul_comm,Nat.mul_left_comm,Nat.add_assoc]
theorem rC (x:Int) (l:List Int):bv (x::l)=x.toNat*256^l.length+bv l:=by rw[bv,List.foldl_cons,GI];simp
theorem vC (l:List Int) (hw:Wf .u8 l):bv l<256^l.length:=by
 induction l with
 |nil=>simp[bv]
 |cons x l ih=>
  have h1:=kT (hw x (by simp));have h2:=ih (fun y hy=>hw y (by simp[hy]));rw[rC,List.length_cons,Nat.pow_succ];have h3:x.toNat≤255:=by omega
  have:=Nat.mul_le_mul_right (256^l.length) h3;omega
theorem NC (l:List Int):fQ l=bv l%18446744073709551616:=by
 have h:∀(l:List Int) (a b:Nat),a%18446744073709551616=b%18446744073709551616→(l.foldl (fun n x=>(n*256+x.toNat)%18446744073709551616) a)%18446744073709551616=(l.foldl (fun n x=>n*256+x.toNat) b)%18446744073709551616:=by
  intro l
  induction l with
  |nil=>intro a b h;exact h
  |cons x l ih=>
   intro a b h;rw[List.foldl_cons,List.foldl_cons];exact ih _ _ (by omega)
 have h0:=h l 0 0 rfl;have h1:=Nat.mod_eq_of_lt (uQ l);rw[bv,←h0];exact h1.symm
theorem xE (l:List Int) (hw:Wf .u8 l) (hl:l.length≤8):fQ l=bv l:=by rw[NC,Nat.mod_eq_of_lt];exact Nat.lt_of_lt_of_le (vC l hw) (Nat.pow_le_pow_right (by omega) hl)
theorem wQ {x:Int} (h0:0≤x) (h1:x<256):(Lit.int .u8 x).wf=true:=by simp[Lit.wf,IntKind.min,IntKind.max,IntKind.signed,IntKind.bits];omega
theorem fP (n k:Nat):Wf .u8 (bB n k):=by
 induction k with
 |zero=>intro x hx;simp[bB]at hx
 |succ k ih=>
  intro x hx;rw[bB,List.mem_cons]at hx;rcases hx with rfl|hx
  ·exact wQ (by omega) (by omega)
  ·exact ih x hx
theorem O8 (n k:Nat):bv (bB n k)=n%256^k:=by
 induction k with
 |zero=>simp[bv,bB,Nat.mod_one]
 |succ k ih=>
  rw[bB,rC,dH,ih,Int.toNat_natCast,Nat.pow_succ,Nat.mod_mul];rw[Nat.add_comm,Nat.mul_comm]
theorem xY (n k j:Nat) (h:j≤k):bB (n%256^k) j=bB n j:=by
 induction j with
 |zero=>rfl
 |succ j ih=>
  rw[bB,bB,ih (by omega)]
  congr 2
  have e:256^k=256^j*(256*256^(k-j-1)):=by rw[←Nat.pow_succ',←Nat.pow_add];congr 1;omega
  rw[e,Nat.mod_mul_right_div_self,Nat.mod_mul_right_mod]
theorem CF (l:List Int) (hw:Wf .u8 l):bB (bv l) l.length=l:=by
 induction l with
 |nil=>rfl
 |cons x l ih=>
  have h1:=kT (hw x (by simp));have hwl:Wf .u8 l:=fun y hy=>hw y (by simp[hy]);have h2:=vC l hwl;rw[List.length_cons,bB];have hp:0<256^l.length:=Nat.pow_pos (by omega)
  congr 1
  ·rw[rC,Nat.mul_comm,Nat.mul_add_div hp,Nat.div_eq_of_lt h2,Nat.add_zero];omega
  ·rw[←xY _ l.length l.length (Zb _),rC,Nat.mul_comm,Nat.mul_add_mod,xY _ _ _ (Zb _)];exact ih hwl
theorem DG (n k:Nat) (rest:List Int):(bB n k++rest).take k=bB n k∧(bB n k++rest).drop k=rest:=by
 have h:=dH n k;constructor
 ·conv=>lhs;arg 1;rw[←h]
  exact List.take_left
 ·conv=>lhs;arg 1;rw[←h]
  exact List.drop_left
theorem wC (n k:Nat) (hk:k≤8) (hn:n<256^k):fQ (bB n k)=n:=by rw[xE _ (fP n k) (by rw[dH];exact hk),O8,Nat.mod_eq_of_lt hn]
theorem AS {k:Nat} {rem:List Int} (hk:k≤rem.length) (hk8:k≤8) (hw:Wf .u8 rem):rem=bB (fQ (rem.take k)) k++rem.drop k∧fQ (rem.take k)<256^k:=by
 have hl:(rem.take k).length=k:=by rw[List.length_take];omega
 have hwt:=hw.take k;have hb:=xE (rem.take k) hwt (by omega);have h2:=vC (rem.take k) hwt;have h3:=CF (rem.take k) hwt;rw[hl]at h2 h3;rw[hb,h3];exact⟨(List.take_append_drop k rem).symm,h2⟩
theorem nP (x k:Nat) (rest:List Int) (hk:k≤8) (hx:x<256^k):bJ k (bB x k++rest)=some (x,rest):=by rw[wX (by rw[Zl,dH];omega),(DG x k rest).1,(DG x k rest).2,wC x k hk hx]
theorem AY {k x:Nat} {rem rest:List Int} (h:bJ k rem=some (x,rest)) (hk:k≤8) (hw:Wf .u8 rem):rem=bB x k++rest∧x<256^k∧Wf .u8 rest:=by
 unfold bJ at h;split at h
 ·rename_i hl;cases h;exact⟨(AS hl hk hw).1,(AS hl hk hw).2,tG hw k⟩
 ·cases h
theorem G3 (x:Int) (l:List Int):kC (x::l)=bB (bH x) 4++kC l:=by rw[kC,List.flatMap_cons];rfl
theorem yS (x:Int) (l:List Int):eG (x::l)=bB (bH x) 8++eG l:=by rw[eG,List.flatMap_cons];rfl
theorem FQ (v:Int) (h0:-9223372036854775808≤v) (h1:v≤9223372036854775807):lI (bH v)=v:=by unfold lI bH wrap64;omega
theorem MC {v:Int} (h:bS v=true):-140737488355328<v∧v<140737488355328:=by simpa [bS]using h
theorem CY (xs rest:List Int) (h:iG xs=true):bP xs.length (eG xs++rest)=some (xs,rest):=by
 induction xs with
 |nil=>rw[List.length_nil,pK];rfl
 |cons x xs ih=>
  rw[iG,List.all_cons,Bool.and_eq_true]at h;have hb:=MC h.1;rw[List.length_cons,mG,yS,List.append_assoc,nP _ _ _ (by omega) (rE x),Option.bind_some,kQ,FQ x (by omega) (by omega),h.1,cond_true,Option.bind_some,ih h.2];rfl
def iY (w:World):Prop:=Lib.TabIs Tryz.prog w "internal/strconv.uint64pow10" .u64 Lib.pow10Tab
theorem iY.below {w w':World} {B:Nat} (h:iY w) (hb:Below B w w') (hs:w.heap.size≤B):iY w':=by
 unfold iY Lib.TabIs World.var? at*;cases hg:Tryz.prog.globalNamed "internal/strconv.uint64pow10" with
 |none=>rw[hg]at h;exact h
 |some g=>
  rw[hg]at h;simp only[Option.bind_some]at h ⊢;cases ho:w.heap[g]? with
  |none=>rw[ho]at h;cases h
  |some o=>
   rw[hb.block g (Nat.lt_of_lt_of_le (Array.getElem?_eq_some_iff.1 ho).1 hs)];exact h
theorem iY.next {w w':World} (h:iY w) (hb:Below w.heap.size w w'):iY w':=h.below hb (Zb _)
theorem iO (a b c:List UInt8) (hc:a++b=c) (hl:c.length≤1000000) (w:World):(Op.stringOp .add ⟨a.toArray⟩ ⟨b.toArray⟩).run Tryz.prog w=.ok (.string ⟨c.toArray⟩) w:=by subst hc;rw[Zl]at hl;exact run_string_add_lists w a b (by omega) (by omega)
theorem H8:∀i j:Fin 12,(bG[i.val]'i.isLt).kind=(bG[j.val]'j.isLt).kind→i=j:=by decide
theorem SH (i j:Nat) (hi:i<bG.length) (hj:j<bG.length) (h:bG[i].kind=bG[j].kind):i=j:=congrArg Fin.val (H8 ⟨i,hi⟩ ⟨j,hj⟩ h)
theorem yM (deep:Nat) (left k:Int):∀(ls:List aB),bQ deep left ls=some k→0≤left→∀(m:Nat) (hm:m<ls.length),∃lm j,bY deep lm ls[m]=some j∧0≤lm∧lm≤left∧0≤j
 |[],h,h0,m,hm=>absurd hm (Nat.not_lt_zero _)
 |l::r,h,h0,m,hm=>by
  rw[bQ]at h;cases h1:bY deep left l with
  |none=>rw[h1]at h;cases h
  |some q=>
   rw[h1]at h;have a:=oS deep left q l h1 h0;cases m with
   |zero=>exact⟨left,q,h1,h0,Int.le_refl _,a.1⟩
   |succ m=>
    obtain⟨lm,j,b1,b2,b3,b4⟩:=yM deep q k r h a.1 m (by simpa using hm);exact⟨lm,j,b1,b2,by omega,b4⟩
theorem yH (a b:List aB):dA (a++b)=dA a++dA b:=by
 induction a with
 |nil=>simp[dA]
 |cons x r ih=>rw[List.cons_append,dA,dA,ih,List.append_assoc]
theorem PI (ls:List aB) (m:Nat) (h:m<ls.length):dA (ls.take (m+1))=dA (ls.take m)++kJ ls[m]:=by rw[List.take_succ_eq_append_getElem h,yH,dA,dA,List.append_nil]
theorem EZ (ls:List aB) (m:Nat):(dA (ls.take m)).length≤(dA ls).length:=by have:=yH (ls.take m) (ls.drop m);rw[List.take_append_drop]at this;rw[this,Zl];omega
theorem yN (n:aG) (a b:List Nat):eA n (a++b)=eA n a++eA n b:=by
 induction a with
 |nil=>rfl
 |cons x r ih=>simp[eA,ih]
structure TAt (w0:World) (lb rb:Nat) (n:aG) (vb:Value) (W:World):Prop where
 lay:aA W lb 175 (n.cells vb).toArray
 rows:j8 W rb
 low:Below w0.heap.size w0 W
 tab:iY W
theorem TAt.next {w0 W W':World} {lb rb:Nat} {n:aG} {vb:Value} (h:TAt w0 lb rb n vb W) (hb:Below W.heap.size W W'):TAt w0 lb rb n vb W':=
 ⟨h.lay.next hb,h.rows.below hb (Zb _),h.low.trans (hb.mono h.low.size),h.tab.next hb⟩
def sZ (ls:List aB):Prop:=∀(deep:Nat) (left k:Int) (v:Value) (w:World),bQ deep left ls=some k→0≤left→left≤64→bF w v ls→iY w→
 Calls Tryz.prog 101 #[v] w fun e w'=>e=.returned (.string ⟨(dA ls).toArray⟩)∧Below w.heap.size w w'
theorem BI (ls:List aB) (hall:∀l∈ls,sZ l.body):sZ ls:=by
 intro deep left k0 v w hgd h0 h64 hr htab;obtain⟨o,cap,rfl⟩:=hr.len;have hk0:=(nJ deep left k0 ls hgd h0).1;have hlen:=pX deep left k0 ls hgd h0;have hll:ls.length≤64:=by omega
 have htl:(dA ls).length≤2560:=by have:=(tF deep left k0 ls hgd).2.2;omega
 have HR:=Za hr;have HALL:=Za hall;have HGD:=Za (yM deep left k0 ls hgd h0);have HT:=Za htab;clear hr hall hgd htab hk0 hlen;go_enter Tryz.func101,Tryz.ntmps101;go_wp2;go_loopw[2,11] (fun s i wr=>∃m:Nat,m≤ls.length∧i=.int .i64 m∧s=.string ⟨(dA (ls.take m)).toArray⟩∧Below w.heap.size w wr) (fun _ i _=>ls.length-(intOf i).toNat)
 case atStart=>exact⟨0,Ze _,rfl,rfl,Zc _ _⟩
 case round=>
  obtain⟨m,hm,rfl,rfl,hB⟩:=hrel;obtain⟨w3,rfl⟩:∃w3,w3=wr:=⟨_,rfl⟩;have HB:=Za hB;clear hB;by_cases hlt:m<ls.length
  ·obtain⟨b,off,vb,rfl,hcell,hlb,hlim⟩:=(HR.o.below HB.o (Zb _)).lay m hlt;have HSN:=Za (PI ls m hlt);have hle:=EZ ls (m+1);obtain⟨lm,j,hgl,hlm0,hlm1,hj0⟩:=HGD.o m hlt;have HA:=Za (HALL.o _ (List.getElem_mem hlt));rw[HSN.o]at hle;obtain⟨acc,hacc⟩:∃acc,acc=dA (ls.take m):=⟨_,rfl⟩;rw[←hacc]at HSN hle ⊢;generalize ls[m]=x at hcell hlb hlim HSN hle hgl HA;obtain⟨n,body⟩:=x;simp only[aB.n,aB.body]at hcell hlb hlim HA;rw[Zl]at hle;have HGL:=Za hgl;obtain⟨_,hcases⟩:=oH hgl;have c0:=hcell 0 _ rfl;have c1:=hcell 1 _ rfl;have c2:=hcell 2 _ rfl;have c3:=hcell 3 _ rfl;have c4:=hcell 4 _ rfl;have c5:=hcell 5 _ rfl;have c6:=hcell 6 _ rfl;have c7:=hcell 7 _ rfl;have c8:=hcell 8 _ rfl;simp only[Nat.add_zero]at c0;have HLB:=Za hlb;obtain⟨ob,cb,rfl⟩:=hlb.len;have HT3:=Za (HT.o.below HB.o (Zb _));clear hcell hlb hgl hacc;obtain⟨N,hN⟩:∃N:Array Value,N=(n.cells (.slice ob body.length cb)).toArray:=⟨_,rfl⟩;obtain⟨W,hW⟩:∃W,W=w3.alloc (.cells #[.int .i64 n.kind,.int .i64 n.inn,.int .i64 n.o,.int .i64 n.size,.int .i64 n.stride,.int .i64 n.pad,.int .i64 n.percent,.int .i64 n.heads,.slice ob body.length cb] 175):=⟨_,rfl⟩;have hbx:aA W w3.heap.size 175 (n.cells (.slice ob body.length cb)).toArray:=by rw[hW];exact aA.new _ _ _
   have hbw:Below w3.heap.size w3 W:=by rw[hW];exact(Zc _ _).alloc (Zb _) _
   have HX:=Za (Zd hbx hbw);have HW:=Za hW;clear hbx hbw hW hN;rcases hcases with⟨hk,hdp,hn,hbg⟩|⟨hk,hlf,_⟩
   ·have HBG:=Za hbg;have hkk:(n.kind==13)=true:=by simp[hk]
    have hlt2:kJ (.mk n body)=dC++[10]++dA body++cV++[10]:=by rw[kJ,decide_eq_true hk,cond_true]
    rw[hlt2]at hle;obtain⟨inn,hinn⟩:∃inn,inn=dA body:=⟨_,rfl⟩;rw[←hinn]at hlt2 hle;have HIN:=Za hinn;have HL2:=Za hlt2;obtain⟨s1,hs1⟩:∃s1,dC++[10]++inn=s1:=⟨_,rfl⟩;obtain⟨s2,hs2⟩:∃s2,s1++[101,110,100,10]=s2:=⟨_,rfl⟩;obtain⟨s3,hs3⟩:∃s3,acc++s2=s3:=⟨_,rfl⟩;have hl1:s1.length≤3000:=by rw[←hs1];simp[dC]at hle ⊢;omega
    have hl2:s2.length≤3000:=by rw[←hs2,←hs1];simp[dC,cV]at hle ⊢;omega
    have hl3:s3.length≤3000:=by rw[←hs3,←hs2,←hs1];simp[dC,cV]at hle ⊢;omega
    have A1:=iO (dC++[10]) inn s1 hs1 (by omega);have A2:=iO s1 [101,110,100,10] s2 hs2 (by omega);have A3:=iO acc s2 s3 hs3 (by omega);have HS3:=Za (show dA (ls.take (m+1))=s3 by rw[HSN.o,HL2.o,←hs3,←hs2,←hs1];simp[cV]);clear hk hdp hn hbg hlt2 hle hs1 hs2 hs3 hinn hl1 hl2 hl3;simp only[dC,List.cons_append,List.nil_append]at A1;have k8:=HX.o.1.q 8 rfl;go_wp2_with(go_at_call 101;rw[←HW.o];refine(HA.o (deep+1) (lm-1) j _ _ HBG.o (by omega) (by omega) (HLB.o.next HX.o.2) (HT3.o.next HX.o.2)).mono ?_;rintro e w4 ⟨rfl,hb4⟩;refine aD ?_);rw[←HIN.o];have HB4:=Za (HB.o.trans ((HX.o.2.trans (hb4.mono HX.o.2.size)).mono HB.o.size));clear hb4;refine aC ?_;go_wp2;go_roundw
    case rel=>exact⟨m+1,by omega,by go_num,by rw[HS3.o],HB4.o⟩
    case measure=>simp[intOf];omega
   ·have hkk:(n.kind==13)=false:=by simp[hk]
    obtain⟨r,hrow,hrok,hrm,hrk,hone⟩:=nI hlf;obtain⟨q,hq,hqe⟩:=List.getElem_of_mem hrm;have hq12:q<12:=hq;have hlt2:kJ (.mk n body)=lK n:=by rw[kJ,decide_eq_false hk,cond_false]
    rw[hlt2]at hle;have hlf40:=xH hlf;have hrt:lK n=r.text n:=by rw[lK,hrow]
    obtain⟨acc2,hacc2⟩:∃acc2,acc2=acc++lK n:=⟨_,rfl⟩;have hfl:=fun k hk=>sI hone hrok k hk;have HQ:=Za (Zd hqe (Zd hrk (Zd hrt (Zd hacc2 hfl))));have HS2:=Za (show dA (ls.take (m+1))=acc2 by rw[HSN.o,hlt2,hacc2]);have hal:acc.length≤2560:=by omega
    have h2l:acc2.length≤2600:=by rw[hacc2,Zl];omega
    have HB0:=Za (HX.o.2.mono HB.o.size);clear hlf hrow hrok hrm hrk hone hqe hlt2 hle hlf40 hrt hacc2 hfl hk;go_wp2_with(go_at_call 142;rw[←HW.o];refine(zF _).mono ?_;rintro e w4 ⟨⟨rb,rfl,hrb⟩,hb4⟩;refine aD ?_);have HG:=Za (show TAt w3 w3.heap.size rb n (.slice ob body.length cb) w4 from⟨HX.o.1.next hb4,hrb,HX.o.2.trans (hb4.mono HX.o.2.size),(HT3.o.next HX.o.2).next hb4⟩);clear hrb hb4;refine aC ?_;go_wp2;go_loopw[2,27] (fun s i wr=>∃k:Nat,k≤12∧i=.int .i64 k∧s=.string ⟨(if k≤q then acc else acc2).toArray⟩∧TAt w3 w3.heap.size rb n (.slice ob body.length cb) wr) (fun _ i _=>12-(intOf i).toNat)
    case atStart=>exact⟨0,Ze _,rfl,by rw[if_pos (Ze _)],HG.o⟩
    case round=>
     obtain⟨k,hk12,rfl,rfl,hg⟩:=hrel;obtain⟨w5,rfl⟩:∃w5,w5=wr:=⟨_,rfl⟩;have HG5:=Za hg;clear hg;by_cases hlt12:k<12
     ·have hkl:k<bG.length:=hlt12;obtain⟨va,vl,vh,r0,r1,r2,r3,r4,hfn,hlo,hhi⟩:=HG5.o.rows k hkl;have hok:=uS _ (List.getElem_mem hkl);have HAP:=Za (SH k q hkl hq);obtain⟨rr,hre⟩:∃rr,rr=bG[k]:=⟨_,rfl⟩;rw[←hre]at r0 r1 hfn hlo hhi hok HAP;obtain⟨ok1,ok2,ok3,ok4⟩:=hok;obtain⟨rk,word,ats,lo,hi⟩:=rr;simp only at r0 r1 hfn hlo hhi ok1 ok2 ok3 ok4 HAP;have HRE:=Za hre;have HFN:=Za hfn;have OK3:=Za ok3;obtain⟨ofn,cfn,rfl,_⟩:=hfn;obtain⟨olo,clo,rfl⟩:=aU hlo;obtain⟨ohi,chi,rfl⟩:=aU hhi;have x0a:∀o:Obj,(w5.alloc o).cell? ⟨w3.heap.size,0,none⟩=some (.int .i64 n.kind):=fun o=>(HG5.o.lay.next ((Zc w5.heap.size w5).alloc (Zb _) o)).cell 0 rfl;clear hre hlo hhi ok1 ok2 ok3;by_cases hkq:k=q
      ·subst hkq;have hrk:rk=n.kind:=by have:=HQ.o.2.1;rw[←HQ.o.1,←HRE.o]at this;exact this
       subst hrk;rw[if_pos (Zb _)];have hre2:r=⟨n.kind,word,ats,lo,hi⟩:=by rw[←HQ.o.1,←HRE.o]
       have hfl:=HQ.o.2.2.2.2;rw[hre2]at hfl;simp only at hfl;have HFL:=Za hfl;have hac2:acc2=acc++word++eA n ats++[10]:=by rw[HQ.o.2.2.2.1,HQ.o.2.2.1,hre2,bU.text];simp
       have HA2:=Za hac2;have hwl:acc.length+word.length+(eA n ats).length+1≤2600:=by rw[hac2]at h2l;simp at h2l;omega
       obtain⟨aw,haw⟩:∃aw,acc++word=aw:=⟨_,rfl⟩;have hawl:aw.length+(eA n ats).length+1≤2600:=by rw[←haw,Zl];omega
       have A1:=iO acc word aw haw (by omega);have HAW:=Za haw;have hkk2:(n.kind != n.kind)=false:=by simp
       obtain⟨W4,hW4⟩:∃W4,W4=w5.alloc (.cells #[.int .i64 n.kind,.string ⟨word.toArray⟩,.slice ofn ats.length cfn,.slice olo lo.length clo,.slice ohi hi.length chi] 219):=⟨_,rfl⟩;have hb4:Below w5.heap.size w5 W4:=by rw[hW4];exact(Zc _ _).alloc (Zb _) _
       have HG6:=Za (HG5.o.next hb4);have HFN6:=Za (HFN.o.below hb4 (Zb _));have HW4:=Za hW4;clear hre2 hfl hac2 hwl haw hb4 hW4;go_wp2;rw[←HW4.o];go_loopw[2,43] (fun s i wr=>∃q:Nat,q≤ats.length∧i=.int .i64 q∧s=.string ⟨(aw++eA n (ats.take q)).toArray⟩∧Below W4.heap.size W4 wr) (fun _ i _=>ats.length-(intOf i).toNat)
       case atStart=>exact⟨0,Ze _,rfl,by simp[eA],Zc _ _⟩
       case round=>
        obtain⟨q,hq,rfl,rfl,hBr⟩:=hrel;obtain⟨w6,rfl⟩:∃w6,w6=wr:=⟨_,rfl⟩;have HBR:=Za hBr;have HG7:=Za (HG6.o.next hBr);clear hBr;by_cases hql:q<ats.length
        ·obtain⟨bf,of_,rfl,cf⟩:=(HFN6.o.below HBR.o (Zb _)).at q hql;have hfq:=HFL.o q hql;have hts:ats.take (q+1)=ats.take q++[ats[q]]:=List.take_succ_eq_append_getElem hql;have hgd:ats.getD q 0=ats[q]:=by simp[List.getD_eq_getElem?_getD,hql]
         have hle7:(eA n (ats.take (q+1))).length≤(eA n ats).length:=by have:=yN n (ats.take (q+1)) (ats.drop (q+1));rw[List.take_append_drop]at this;rw[this,Zl];omega
         rw[hgd]at hfq;have ha7:=OK3.o _ (List.getElem_mem hql);generalize ats[q]=a at cf hfq hts ha7;obtain⟨F,hF⟩:∃F,F=lA a:=⟨_,rfl⟩;have he:∀args w,(callFunc F args).run Tryz.prog w=.ok (.enter F args) w:=by rw[hF];exact wR a
         have HF:=Za (show ∀b w,Calls Tryz.prog F #[.pointer (some ⟨b,0,none⟩)] w fun e w'=>e=.returned (.pointer (some ⟨b,a,none⟩))∧w=w' from fun b w=>by rw[hF];exact uO a ha7 b w);rw[←hF]at cf;obtain⟨x,hx⟩:∃x,x=n.fld a:=⟨_,rfl⟩;have ca:=HG7.o.lay.cell a (n.cell_fld _ a ha7);rw[←hx]at ca;have hx0:0≤x:=by rw[hx];exact hfq.2.2.1
         have hx1:x≤4096:=by rw[hx];exact hfq.2.2.2
         have hnt:eA n (ats.take (q+1))=eA n (ats.take q)++(32::Lib.itoa x):=by rw[hts,yN,eA,eA,List.append_nil,←hx]
         rw[hnt]at hle7;obtain⟨cur,hcur⟩:∃cur,cur=aw++eA n (ats.take q):=⟨_,rfl⟩;obtain⟨tx,htx⟩:∃tx,[32]++Lib.itoa x=tx:=⟨_,rfl⟩;obtain⟨nx,hnx⟩:∃nx,cur++tx=nx:=⟨_,rfl⟩;have hlx:cur.length+tx.length≤3000:=by rw[hcur,←htx];simp at hle7 ⊢;omega
         have A2:=iO [32] (Lib.itoa x) tx htx (by omega);have A3:=iO cur tx nx hnx (by rw[←hnx,Zl];omega);have HNX:=Za (show aw++eA n (ats.take (q+1))=nx by rw[hnt,←hnx,hcur,←htx];simp);have HIT:=Za (zO x (by omega) (by omega) _ HG7.o.tab);rw[←hcur];obtain⟨ix,hix⟩:∃ix,ix=Lib.itoa x:=⟨_,rfl⟩;rw[←hix]at A2 HIT;clear hts hgd hle7 hfq hF ha7 hx hnt hcur htx hnx hlx hix;go_wp2_with fail;refine(HF.o _ _).mono ?_;rintro e w' ⟨rfl,rfl⟩;go_wp2_with fail;refine HIT.o.mono ?_;rintro e w7 ⟨rfl,hb7⟩;have HB7:=Za (HBR.o.trans (hb7.mono HBR.o.size));clear hb7 ca cf;go_wp2;go_roundw
         case rel=>exact⟨q+1,by omega,by go_num,by rw[HNX.o],HB7.o⟩
         case measure=>simp[intOf];omega
        ·obtain rfl:q=ats.length:=by omega
         have hta:ats.take ats.length=ats:=List.take_length;rw[hta];obtain⟨cur,hcur⟩:∃cur,cur=aw++eA n ats:=⟨_,rfl⟩;have HC:=Za (show acc2=cur++[10] by rw[HA2.o,hcur,HAW.o]);have A2:=iO cur [10] acc2 HC.o.symm (by omega);rw[←hcur];clear hta hcur;go_wp2;go_roundw
         case rel=>exact⟨k+1,by omega,by go_num,by rw[if_neg (by omega)],HG7.o⟩
         case measure=>simp[intOf];omega
      ·have hne:(rk != n.kind)=true:=by
        have:¬rk=n.kind:=fun h=>hkq (by
         exact HAP.o (by rw[h,HQ.o.1,HQ.o.2.1]))
        simpa using this
       have HIF:=Za (show(if k≤q then acc else acc2)=(if k+1≤q then acc else acc2) by
        by_cases h:k≤q
        ·rw[if_pos h,if_pos (by omega)]
        ·rw[if_neg h,if_neg (by omega)])
       rw[HIF.o];go_wp2;go_roundw
       case rel=>exact⟨k+1,by omega,by go_num,rfl,HG5.o.next ((Zc _ _).alloc (Zb _) _)⟩
       case measure=>simp[intOf];omega
     ·obtain rfl:k=12:=by omega
      have HB9:=Za (HB.o.trans (HG5.o.low.mono HB.o.size));rw[if_neg (by omega)];go_wp2;go_roundw
      case rel=>exact⟨m+1,by omega,by go_num,by rw[HS2.o],HB9.o⟩
      case measure=>simp[intOf];omega
  ·obtain rfl:m=ls.length:=by omega
   have HE:=Za (show dA (ls.take ls.length)=dA ls by rw[List.take_length]);go_wp2;go_ret;exact⟨by rw[HE.o];rfl,HB.o⟩
theorem KF:∀l:aB,sZ l.body:=aB.ind fun n body h=>BI body h
theorem DQ (ls:List aB):sZ ls:=BI ls fun l _=>KF l
theorem OW (a b:Nat) (k:Nat):(a^^^b) / 2^k=a / 2^k^^^b / 2^k:=by rw[←Nat.shiftRight_eq_div_pow,←Nat.shiftRight_eq_div_pow,←Nat.shiftRight_eq_div_pow,Nat.shiftRight_xor_distrib]
def mB (k:Nat):Nat:=jI k / 16777216
theorem N7:(List.range 256).all (fun a=>(List.range 256).all fun b=>a==b || mB a != mB b)=true:=by decide+kernel
theorem JC (a b:Nat) (ha:a<256) (hb:b<256) (h:mB a=mB b):a=b:=by have h1:=List.all_eq_true.1 N7 a (List.mem_range.2 ha);have h2:=List.all_eq_true.1 h1 b (List.mem_range.2 hb);simp only[Bool.or_eq_true,beq_iff_eq,bne_iff_ne]at h2;exact h2.resolve_right (fun h3=>h3 h)
theorem zV (s c:Nat) (hs:s<4294967296):iP s c / 16777216=mB ((s%256)^^^c):=by
 unfold iP mB;have h:=OW (s / 256) (jI (s%256^^^c)) 24;have e:s / 256 / 2^24=0:=by omega
 rw[e,Nat.zero_xor]at h;exact h
theorem sN (a b c:Nat) (h:a^^^c=b^^^c):a=b:=by
 have:=congrArg (·^^^c) h
 simpa [Nat.xor_assoc]using this
theorem CP (a b c:Nat) (h:c^^^a=c^^^b):a=b:=sN a b c (by rwa [Nat.xor_comm a,Nat.xor_comm b])
theorem zE (s t c d:Nat) (hs:s<4294967296) (ht:t<4294967296) (hc:c<256) (hd:d<256) (h:iP s c=iP t d):
  (s%256)^^^c=(t%256)^^^d∧s / 256=t / 256:=by
 have h1:mB (s%256^^^c)=mB (t%256^^^d):=by rw[←zV s c hs,←zV t d ht,h]
 have h2:=JC _ _ (Nat.xor_lt_two_pow (n:=8) (by omega) hc) (Nat.xor_lt_two_pow (n:=8) (by omega) hd) h1;refine⟨h2,?_⟩;unfold iP at h;rw[h2]at h;exact sN _ _ _ h
theorem LF (s t c:Nat) (hs:s<4294967296) (ht:t<4294967296) (hc:c<256) (h:iP s c=iP t c):s=t:=by obtain⟨h1,h2⟩:=zE s t c c hs ht hc hc h;have:=sN _ _ _ h1;omega
theorem NR (s c d:Nat) (hs:s<4294967296) (hc:c<256) (hd:d<256) (h:iP s c=iP s d):c=d:=
 CP _ _ _ (zE s s c d hs hs hc hd h).1
theorem I5 (s t:Nat) (l:List Int) (hs:s<4294967296) (ht:t<4294967296) (hl:∀x∈l,0≤x∧x<256) (h:iK s l=iK t l):s=t:=by
 induction l generalizing s t with
 |nil=>exact h
 |cons c l ih=>
  have hc:=hl c (List.mem_cons_self ..);have:=ih _ _ (oU s c.toNat hs (by omega)) (oU t c.toNat ht (by omega)) (fun x hx=>hl x (List.mem_cons_of_mem _ hx)) h;exact LF s t c.toNat hs ht (by omega) this
theorem TU (s:Nat) (l:List Int) (k:Nat) (x:Int) (hs:s<4294967296) (hl:∀x∈l,0≤x∧x<256) (hk:k<l.length) (hx:0≤x∧x<256)
  (h:iK s (l.set k x)=iK s l):x=aE l k:=by
 induction l generalizing s k with
 |nil=>simp at hk
 |cons c l ih=>
  have hc:=hl c (List.mem_cons_self ..);have hl':∀x∈l,0≤x∧x<256:=fun x hx=>hl x (List.mem_cons_of_mem _ hx);cases k with
  |zero=>
   have h1:=I5 _ _ l (oU s x.toNat hs (by omega)) (oU s c.toNat hs (by omega)) hl' h;have h2:=NR s _ _ hs (by omega) (by omega) h1
   show x=c
   omega
  |succ k=>exact ih _ k (oU s c.toNat hs (by omega)) hl' (by simpa using hk) h
theorem KR (l:List Int) (k:Nat) (x:Int) (hl:∀x∈l,0≤x∧x<256) (hk:k<l.length) (hx:0≤x∧x<256) (hne:x≠aE l k):jU (l.set k x)≠jU l:=
 fun h=>hne (TU _ l k x (by omega) hl hk hx (sN _ _ _ h))
theorem MZ:jU [49,50,51,52,53,54,55,56,57]=3421780262:=by decide+kernel
theorem uZ (l:List Int) (hl:∀x∈l,0≤x∧x<256):jU l<4294967296:=
 Nat.xor_lt_two_pow (n:=32) (xC _ l (by omega) hl) (by omega)
def f9 (x:Int) (j:Nat):Int:=((x.toNat^^^2^(j%8):Nat):Int)
theorem CI (j:Nat):2^(j%8)<256:=by have h:j%8<8:=Nat.mod_lt _ (by omega);exact Nat.pow_lt_pow_right (m:=j%8) (n:=8) (by omega) h
theorem wZ (x:Int) (j:Nat) (h:0≤x∧x<256):0≤f9 x j∧f9 x j<256:=by have:=Nat.xor_lt_two_pow (n:=8) (x:=x.toNat) (y:=2^(j%8)) (by omega) (CI j);unfold f9;omega
theorem H5 (x:Int) (j:Nat) (h:0≤x):f9 x j≠x:=by
 intro e;have h1:x.toNat^^^2^(j%8)=x.toNat^^^0:=by
  have:=congrArg Int.toNat e;rw[Nat.xor_zero]
  simpa [f9]using this
 have h2:=CP _ _ _ h1;have:=Nat.two_pow_pos (j%8);omega
theorem SC (x:Int) (j:Nat) (h:0≤x):f9 (f9 x j) j=x:=by unfold f9;rw[Int.toNat_natCast,Nat.xor_assoc,Nat.xor_self,Nat.xor_zero];omega
attribute [local go_sem] Oper.semAt_some
abbrev P5 (p:Fin 256):Array Value:=#[.int .i64 (p.1:Nat),.int .u32 (jI p.1:Nat)]
def kV (k:Nat):List (Fin 256):=(List.finRange 256).take k
theorem R6 (k:Nat) (h:k<256):kV (k+1)=kV k++[⟨k,h⟩]:=by unfold kV;rw[List.take_succ_eq_append_getElem (by simpa using h)];simp
theorem J4 (k:Nat) (h:k≤256):(kV k).length=k:=by simp[kV];omega
theorem O2:kV 256=List.finRange 256:=by unfold kV;exact List.take_of_length_le (by simp)
theorem LX (x m k:Nat) (hx:x<4294967296) (he:Hid (x=jN m k)) (h:(bits BinOp.and IntKind.u32 (↑x) 1==1)=true):
  bits BinOp.xor IntKind.u32 (↑x / 2) 3988292384=↑(jN (m+1) k):=by have h1:bits BinOp.and IntKind.u32 (↑x) (1:Int)=((x&&& 1:Nat):Int):=u32_and_nat x 1 hx (by omega);have h2:bits BinOp.xor IntKind.u32 ((x:Int) / 2) (3988292384:Int)=(((x / 2)^^^3988292384:Nat):Int):=u32_xor_nat (x / 2) 3988292384 (by omega) (by omega);rw[h1,nat_mask1]at h;rw[h2,CT,←he.o,o8,if_pos (by simp at h;omega)]
theorem ID (x m k:Nat) (hx:x<4294967296) (he:Hid (x=jN m k)) (h:(bits BinOp.and IntKind.u32 (↑x) 1==1)=false):
  ((x:Int) / 2)=↑(jN (m+1) k):=by have h1:bits BinOp.and IntKind.u32 (↑x) (1:Int)=((x&&& 1:Nat):Int):=u32_and_nat x 1 hx (by omega);rw[h1,nat_mask1]at h;rw[CT,←he.o,o8,if_neg (by simp at h;omega)];omega
theorem MY (F:Fence) (n:Nat) (h5:F.fn 98) (hro:F.round=none) (hn:1≤n) (w:World):
  SeqStopsA F n Tryz.prog 98 #[] P5 (fun xs=>xs=kV 256) (fun _=>True) 256 w:=fun l J Jx W _ _ _ hY h0=>by
 refine callsIn_of_wp Tryz.func98 rfl h5 ?_ hro;simp only[Tryz.ntmps98,List.size_toArray,List.length_cons,List.length_nil,Nat.reduceAdd,Nat.reduceSub,Array.replicate_succ,Array.replicate_zero,List.push_toArray,List.append_toArray,List.nil_append,List.cons_append];have HY:=Za hY;clear hY
 gi_wp2
 gi_loopw [2,5] (fun _ i wr=>∃k:Nat,k≤256∧i=.int .i64 k∧J (kV k) wr) (fun _ i _=>256-(intOf i).toNat)
 case atStart=>exact⟨0,by omega,rfl,h0⟩
 case round=>
  obtain⟨k,hk,rfl,hJ⟩:=hrel;have HJ:=Za hJ;clear hJ h0;by_cases hlt:k<256
  ·gi_wp2
   gi_loop [3,10] (fun x j=>∃m:Nat,m≤8∧j=.int .i64 m∧x=.int .u32 (jN m k:Nat)) (fun _ j=>8-(intOf j).toNat)
   case atStart=>exact⟨0,by omega,rfl,rfl⟩
   case round=>
    obtain⟨m,hm,rfl,rfl⟩:=hrel;have hx:=BM m k (by omega);obtain⟨x,hxe⟩:∃x,x=jN m k:=⟨_,rfl⟩;rw[←hxe]at hx ⊢;have he:=Za hxe;clear hxe;by_cases hlt2:m<8
    ·gi_wp2
     ·go_round
      case rel=>exact⟨m+1,by omega,by go_num,by rw[LX x m k hx he (by assumption)]⟩
      case measure=>simp[intOf];omega
     ·go_round
      case rel=>exact⟨m+1,by omega,by go_num,by rw[ID x m k hx he (by assumption)]⟩
      case measure=>simp[intOf];omega
    ·have e8:m=8:=by omega
     have ht:x=jI k:=by rw[he.o,e8];rfl
     clear e8;subst ht;obtain⟨fn,tmps,assign,body,hy,hR⟩:=HY.o (kV k) ⟨k,hlt⟩ wr HJ.o (by rw[J4 k (by omega)];exact hlt);have HR:=Za hR;clear hR
     gi_wp2
     refine HR.o.mono ?_;clear HR hy;rintro e W' (⟨rfl,hJ',_⟩|⟨rfl,hJx'⟩)
     ·have HJ':=Za hJ';clear hJ'
      gi_wp2
      go_roundw
      case rel=>exact⟨k+1,by omega,by go_num,by rw[R6 k hlt];exact HJ'.o⟩
      case measure=>simp[intOf];omega
     ·have HJx':=Za hJx';clear hJx'
      gi_wp2
      refine bodyPost_ret (results_none rfl _ _ _) rfl ?_;exact⟨⟨_,rfl⟩,.inr ⟨_,trivial,HJx'.o⟩⟩
  ·obtain rfl:k=256:=by omega
   gi_wp2
   go_end0;exact⟨⟨_,rfl⟩,.inl ⟨_,rfl,HJ.o⟩⟩
theorem I9 (F:Fence) (n:Nat) (hF:F.fn 42) (hro:F.round=none) (w:World):
  CallsIn F n Tryz.prog 42 #[] w fun e w'=>e=.returned (.func (.func 98) #[] #[])∧w=w':=by
 refine callsIn_of_wp Tryz.func42 rfl hF ?_ hro;simp only[Tryz.ntmps42,List.size_toArray,List.length_cons,List.length_nil,Nat.reduceAdd,Nat.reduceSub,Array.replicate_succ,Array.replicate_zero,List.push_toArray,List.append_toArray,List.nil_append,List.cons_append]
 gi_wp2
 go_ret;exact⟨rfl,rfl⟩
theorem IE:(Tryz.prog.info? 9).map (fun i=>(i.zero,i.size,i.bytes))=some (some (.string ⟨#[]⟩),1,16):=by kernel_rfl
def strV (x:List UInt8):Value:=.string ⟨x.toArray⟩
def iW (w:World) (B:Nat) (v:Value) (ws:List (List UInt8)):Prop:=w.ownsRow B 9 1 v ws.length (ws.map strV)
theorem LM (l cur:List UInt8) (i j:Nat) (hij:i≤j) (hj:j≤l.length) (hc:(l.take j).drop i=cur) (w:World):
  (Instr.slice 9 (.string ⟨l.toArray⟩) (some (.int .i64 i)) (some (.int .i64 j)) none).run Tryz.prog w=.ok (.string ⟨cur.toArray⟩) w:=by
 subst hc;rw[run_slice_string w 9 _ .i64 .i64 _ _ Tryz.underlying9 (by omega) (by omega) (by simp[ByteArray.size];omega)];simp only[Int.toNat_natCast];rw[ByteArray.extract_mk]
 congr 4
 rw[List.drop_take]
attribute [local go_sem] uC
theorem SG (o:Option (List (List UInt8))) (a b:List (List UInt8)):(o.map (b++·)).map (a++·)=o.map ((a++b)++·):=by cases o<;>simp
theorem K4 (l:List UInt8) (w:World) (hl:l.length≤100000):
  Calls Tryz.prog 153 #[.string ⟨l.toArray⟩] w fun e w'=>(∃v,e=.returned v∧iW w' w.heap.size v (dV l))∧Below w.heap.size w w':=by
 obtain⟨i0,hi,hz0,hz1,hz2⟩:=info_parts IE;have hsz:(⟨l.toArray⟩:ByteArray).size=l.length:=by simp[ByteArray.size]
 have HSZ:=Za hsz;clear hsz;go_enter Tryz.func153,Tryz.ntmps153;go_wp2;go_loopw[2,3,4] (fun v f i wr=>∃(done:List (List UInt8)) (k fr:Nat),f=.int .i64 fr∧i=.int .i64 k∧iW wr w.heap.size v done∧Below w.heap.size w wr∧done.length≤fr∧fr≤100001∧
  ((k≤l.length∧fr≤k∧eD [] l=(eD ((l.take k).drop fr) (l.drop k)).map (done++·))∨(k=l.length+1∧eD [] l=some done))) (fun _ _ i _=>l.length+1-(intOf i).toNat)
 case atStart=>exact⟨[],0,0,rfl,rfl,World.ownsRow_nil _ _ _ _,Zc _ _,Zb _,by omega,.inl ⟨Ze _,Zb _,by simp⟩⟩
 case round=>
  obtain⟨done,k,fr,rfl,rfl,hown,hB,hdl,hfr,hcase⟩:=hrel;have HO:=Za hown;have HB:=Za hB;have hsz:=HSZ.o;clear hown hB;rcases hcase with⟨hk,hfk,hinv⟩|⟨rfl,hinv⟩
  ·obtain⟨cur,hcur⟩:∃cur,(l.take k).drop fr=cur:=⟨_,rfl⟩;rw[hcur]at hinv;have hsl:=LM l cur fr k hfk hk hcur;have hcl:cur.length=k-fr:=by rw[←hcur,List.length_drop,List.length_take];omega
   have hce:cur=[]↔k=fr:=by rw[←List.length_eq_zero_iff,hcl];omega
   have HCE:=Za hce;by_cases hlt:k<l.length
   ·have hd:l.drop k=l[k]::l.drop (k+1):=List.drop_eq_getElem_cons hlt;have htk:l.take (k+1)=l.take k++[l[k]]:=List.take_succ_eq_append_getElem hlt;rw[hd,eD]at hinv;have hszk:k<(⟨l.toArray⟩:ByteArray).size:=by rw[hsz];exact hlt
    by_cases h32:l[k]=32
    ·rw[if_pos h32]at hinv;have hc32:(l[k].toNat:Int)=32:=by rw[h32];rfl
     by_cases hkf:k=fr
     ·rw[if_pos (hce.2 hkf)]at hinv;have HW:=Za (show dV l=[] by rw[dV,hinv];rfl);subst hkf;clear hinv hcur hd htk hce hcl h32 hsz;go_wp2;go_ret;refine⟨⟨_,rfl,?_⟩,HB.o⟩;rw[HW.o];exact World.ownsRow_nil _ _ _ _
     ·rw[if_neg (fun h=>hkf (hce.1 h))]at hinv;have hkf2:((k:Int)==(fr:Int))=false:=by simp;omega
      have HINV:=Za (show eD [] l=(eD [] (l.drop (k+1))).map ((done++[cur])++·) by
       rw[hinv,←SG];rfl)
      have hdl2:done.length≤k:=by omega
      clear hinv hcur hd htk hce hcl h32 hsz;go_wp2_with(at_builtin;refine wpList_append_own _ rfl _ _ 143 rfl w.heap.size 9 i0 (.string ⟨#[]⟩) 1 16 Tryz.underlying143 hi hz0 hz1 hz2 rfl (by decide) _ _ _ rfl (HO.o.alloc _) ⟨wr.heap.size,0,none⟩ 1 1 [.string ⟨cur.toArray⟩] rfl rfl (cell_one_new _ _ _) (by simp[Value.oneCell']) (by unfold maxLen;omega) (by omega) (by have:=HB.o.size;simp;omega) ?_;intro v' w1 hown' hgrow _);have HO2:=Za (show iW w1 w.heap.size v' (done++[cur]) by rw[iW,Zl,List.map_append];exact hown');have HB2:=Za (show Below w.heap.size w w1 from vG HB.o (Zb _) HO.o hgrow);clear hown' hgrow;go_roundw
      case rel=>exact⟨done++[cur],k+1,k+1,by go_num,by go_num,HO2.o,HB2.o,by rw[Zl];simp;omega,by omega,.inl ⟨by omega,Zb _,by rw[HINV.o];congr 2;rw[List.drop_eq_nil_of_le];rw[List.length_take];omega⟩⟩
      case measure=>simp[intOf];omega
    ·rw[if_neg h32]at hinv;have hc32:¬(l[k].toNat:Int)=32:=fun h=>h32 (by
      have:l[k].toNat=(32:UInt8).toNat:=by have:(32:UInt8).toNat=32:=rfl;omega
      exact UInt8.toNat_inj.1 this)
     have HINV:=Za (show eD [] l=(eD ((l.take (k+1)).drop fr) (l.drop (k+1))).map (done++·) by
      rw[hinv,htk,List.drop_append_of_le_length (by rw[List.length_take];omega),hcur])
     clear hinv hcur hd htk hce hcl h32 hsz hsl;go_wp2;go_roundw
     case rel=>exact⟨done,k+1,fr,rfl,by go_num,HO.o,HB.o,hdl,hfr,.inl ⟨by omega,by omega,HINV.o⟩⟩
     case measure=>simp[intOf];omega
   ·obtain rfl:k=l.length:=by omega
    rw[List.drop_length,eD]at hinv;by_cases hkf:l.length=fr
    ·rw[if_pos (hce.2 hkf)]at hinv;have HW:=Za (show dV l=[] by rw[dV,hinv];rfl);have hkf2:((l.length:Int)==(fr:Int))=true:=by simp;omega
     clear hinv hcur hce hcl hsl;go_wp2;go_ret;refine⟨⟨_,rfl,?_⟩,HB.o⟩;rw[HW.o];exact World.ownsRow_nil _ _ _ _
    ·rw[if_neg (fun h=>hkf (hce.1 h))]at hinv;have hkf2:((l.length:Int)==(fr:Int))=false:=by simp;omega
     have HINV:=Za (show eD [] l=some (done++[cur]) by rw[hinv,Option.map_some]);have hdl2:done.length≤l.length:=by omega
     clear hinv hcur hce hcl;go_wp2_with(at_builtin;refine wpList_append_own _ rfl _ _ 143 rfl w.heap.size 9 i0 (.string ⟨#[]⟩) 1 16 Tryz.underlying143 hi hz0 hz1 hz2 rfl (by decide) _ _ _ rfl (HO.o.alloc _) ⟨wr.heap.size,0,none⟩ 1 1 [.string ⟨cur.toArray⟩] rfl rfl (cell_one_new _ _ _) (by simp[Value.oneCell']) (by unfold maxLen;omega) (by omega) (by have:=HB.o.size;simp;omega) ?_;intro v' w1 hown' hgrow _);have HO2:=Za (show iW w1 w.heap.size v' (done++[cur]) by rw[iW,Zl,List.map_append];exact hown');have HB2:=Za (show Below w.heap.size w w1 from vG HB.o (Zb _) HO.o hgrow);clear hown' hgrow;go_roundw
     case rel=>exact⟨done++[cur],l.length+1,l.length+1,by go_num,by go_num,HO2.o,HB2.o,by rw[Zl];simp;omega,by omega,.inr ⟨rfl,HINV.o⟩⟩
     case measure=>simp[intOf]
  ·have HW:=Za (show dV l=done by rw[dV,hinv];rfl);clear hinv;go_wp2;go_ret;exact⟨⟨_,rfl,by rw[HW.o];exact HO.o⟩,HB.o⟩
def gM (n:aG):List Int:=match cQ n.kind with
 |some r=>r.at_.map n.fld
 |none=>[]
theorem PT (n:aG) (h:n.kind<1∨12<n.kind):gM n=[]:=by
 have:cQ n.kind=none:=by
  rw[cQ,List.find?_eq_none];intro r hr;have:∀r∈bG,1≤r.kind∧r.kind≤12:=by decide
  have:=this r hr;simp;omega
 rw[gM,this]
theorem E8 {w:World} {o:Obj} {xs:List Int} {e:TypeId} {n:Nat} (hn:n=xs.length) (h:xs.length≤10):aH ((w.alloc o).alloc (.cells (xs.map (Value.int .i64)).toArray e)) w.heap.size e .i64 (.slice (some ⟨w.heap.size+1,0,none⟩) n n) xs:=by subst hn;have:=aH.lit (w.alloc o) .i64 xs e (by unfold maxLen;omega);rw[World.size_alloc]at this;exact cD this (Nat.le_succ _)
theorem wE (n:aG) (v:Value) (w:World):Calls Tryz.prog 146 #[.agg (n.cells v).toArray] w fun e w'=>(∃u,e=.returned u∧aH w' w.heap.size 3 .i64 u (gM n))∧Below w.heap.size w w':=by
 obtain⟨k,k1,k2,k3,k4,k5,k6,k7⟩:=n;simp only[aG.cells];by_cases h:k<1∨12<k
 ·have HN:=Za (PT ⟨k,k1,k2,k3,k4,k5,k6,k7⟩ h);have n1:¬k=1:=by omega
  have n2:¬k=2:=by omega
  have n7:¬k=7:=by omega
  have n8:¬k=8:=by omega
  have n9:¬k=9:=by omega
  have n11:¬k=11:=by omega
  have n12:¬k=12:=by omega
  clear h;go_enter Tryz.func146,Tryz.ntmps146;go_wp2;go_ret;refine⟨⟨_,rfl,?_⟩,(Zc _ _).alloc (Zb _) _⟩;rw[HN.o];exact World.ownsRow_nil _ _ _ _
 ·have:k=1∨k=2∨k=3∨k=4∨k=5∨k=6∨k=7∨k=8∨k=9∨k=10∨k=11∨k=12:=by omega
  clear h;rcases this with rfl|rfl|rfl|rfl|rfl|rfl|rfl|rfl|rfl|rfl|rfl|rfl
  all_goals
   go_enter Tryz.func146,Tryz.ntmps146;go_wp2
   try go_quiet(fail)
   try go_wp2
   go_ret;refine⟨⟨_,rfl,?_⟩,?_⟩
   ·first
    |exact World.ownsRow_nil _ _ _ _
    |exact E8 (xs:=gM ⟨_,k1,k2,k3,k4,k5,k6,k7⟩) rfl (Nat.le_of_ble_eq_true rfl)
   ·first
    |exact(Zc _ _).alloc (Zb _) _
    |exact((Zc _ _).alloc (Zb _) _).alloc (by simp) _
end Go.Proofs.YtjhkdocidcfpdaaGreatDoor
