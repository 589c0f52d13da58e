/-
  A part of the proof of a law (packed by program).
-/
import Derived.Test.YtjhkdocidcfpdaaGreatDoorTM43
import Derived.Test.YtjhkdocidcfpdaaGreatDoorTM50
import Derived.Test.YtjhkdocidcfpdaaGreatDoorTM38
set_option linter.unusedVariables false
set_option linter.unusedSimpArgs false
set_option maxRecDepth 100000
set_option maxHeartbeats 16000000
open List renaming setIfInBounds_toArray → Zf, set_cons_zero → Zg, set_cons_succ → Zh, getElem_cons_zero → Zi, getElem_cons_succ → Zj, getElem_toArray → Zk
namespace Go.Proofs.YtjhkdocidcfpdaaGreatDoor
open Go.RowKit Go.Shelf Go
theorem FP {d:bE} {p:List Int×List (List Int)} (h:eK d=some p):p.2.all bA=true:=by
 rw[eK]at h;cases hg:(dL d&&dM d.input)with
 |false=>rw[hg]at h;cases h
 |true=>
  rw[hg]at h;simp only[if_true]at h;cases hw:bT true d.input d.lays with
  |none=>rw[hw]at h;cases h
  |some q=>
   rw[hw]at h;simp only at h;split at h
   ·cases h
   ·cases h;exact(m9 true d.input (by simp only[Bool.and_eq_true]at hg;exact hg.2) d.lays _ hw).2
theorem BS (qs:List PD):bI (qs.map fun q=>mN q.sh)=qs.map (·.sh):=by rw[bI,List.map_map];rfl
theorem PZ (s:aX) (vi vl vp vm vv vr vc:Value) (w:World) (hr:eC w s vi vl vp vm vv vr vc) (hci:∀o n c,vi=.slice o n c→n≤c):
  Calls Tryz.prog 18 #[.agg (cW s vi vl vp vm vv vr vc)] w fun e w'=>e=.returned (.bool (dF s))∧Below w.heap.size w w':=by
 obtain⟨o1,c1,o2,c2,o3,c3,o4,c4,o5,c5,o6,c6,o7,c7,rfl,rfl,rfl,rfl,rfl,rfl,rfl⟩:=hr.slices;have hci':=hci _ _ _ rfl;obtain⟨R,hR⟩:∃R,R=dF s:=⟨_,rfl⟩;simp only[←hR];have HRR:=Za hR;have HR:=Za hr;obtain⟨W,hW⟩:∃W,W=w.alloc (.cells (dD s o1 c1 o2 c2 o3 c3 o4 c4 o5 c5 o6 c6 o7 c7) 47):=⟨_,rfl⟩;have hbx:aA W w.heap.size 47 (dD s o1 c1 o2 c2 o3 c3 o4 c4 o5 c5 o6 c6 o7 c7):=by rw[hW];exact aA.new _ _ _
 have hbw:Below w.heap.size w W:=by rw[hW];exact(Zc _ _).alloc (Zb _) _
 have HX0:=Za (Zd hbx hbw);have HW:=Za hW;have HCI:=Za hci';simp only[cW];clear hr hci hbx hbw hW hR hci';go_enter Tryz.func18,Tryz.ntmps18;go_upto_region 1 with(fail);rw[←HW.o];have x0:=HX0.o.1.q 0 rfl;have x1:=HX0.o.1.q 1 rfl;have x2:=HX0.o.1.q 2 rfl;have x3:=HX0.o.1.q 3 rfl;have x4:=HX0.o.1.q 4 rfl;have x5:=HX0.o.1.q 5 rfl;have x6:=HX0.o.1.q 6 rfl;have x7:=HX0.o.1.q 7 rfl;have x8:=HX0.o.1.q 8 rfl;have x9:=HX0.o.1.q 9 rfl;have x10:=HX0.o.1.q 10 rfl;have x11:=HX0.o.1.q 11 rfl;have x12:=HX0.o.1.q 12 rfl;have x13:=HX0.o.1.q 13 rfl;have x14:=HX0.o.1.q 14 rfl;have x15:=HX0.o.1.q 15 rfl;have x16:=HX0.o.1.q 16 rfl;have x17:=HX0.o.1.q 17 rfl;have x18:=HX0.o.1.q 18 rfl;have x19:=HX0.o.1.q 19 rfl;have x20:=HX0.o.1.q 20 rfl;have x21:=HX0.o.1.q 21 rfl;have x22:=HX0.o.1.q 22 rfl;have x23:=HX0.o.1.q 23 rfl;have x24:=HX0.o.1.q 24 rfl;have x25:=HX0.o.1.q 25 rfl;have x26:=HX0.o.1.q 26 rfl;go_wp2_with(go_at_call 54;refine(JP s.f _).mono ?_;rintro e w1 ⟨rfl,hsm⟩;refine aD ?_);have hb:Below W.heap.size W w1:=hsm.below _;have HX1:=Za (Zd (HX0.o.1.next hb) (HX0.o.2.trans (hb.mono HX0.o.2.size)));clear hb;clear x0 x1 x2 x3 x4 x5 x6 x7 x8 x9 x10 x11 x12 x13 x14 x15 x16 x17 x18 x19 x20 x21 x22 x23 x24 x25 x26;have x0:=HX1.o.1.q 0 rfl;have x1:=HX1.o.1.q 1 rfl;have x2:=HX1.o.1.q 2 rfl;have x3:=HX1.o.1.q 3 rfl;have x4:=HX1.o.1.q 4 rfl;have x5:=HX1.o.1.q 5 rfl;have x6:=HX1.o.1.q 6 rfl;have x7:=HX1.o.1.q 7 rfl;have x8:=HX1.o.1.q 8 rfl;have x9:=HX1.o.1.q 9 rfl;have x10:=HX1.o.1.q 10 rfl;have x11:=HX1.o.1.q 11 rfl;have x12:=HX1.o.1.q 12 rfl;have x13:=HX1.o.1.q 13 rfl;have x14:=HX1.o.1.q 14 rfl;have x15:=HX1.o.1.q 15 rfl;have x16:=HX1.o.1.q 16 rfl;have x17:=HX1.o.1.q 17 rfl;have x18:=HX1.o.1.q 18 rfl;have x19:=HX1.o.1.q 19 rfl;have x20:=HX1.o.1.q 20 rfl;have x21:=HX1.o.1.q 21 rfl;have x22:=HX1.o.1.q 22 rfl;have x23:=HX1.o.1.q 23 rfl;have x24:=HX1.o.1.q 24 rfl;have x25:=HX1.o.1.q 25 rfl;have x26:=HX1.o.1.q 26 rfl;refine aC ?_;cases p0:dU s.f with
 |false=>
  have D:=Za (show dF s=false by rw[dF];split;rfl;rw[p0];rfl);clear p0;go_wp2;go_ret;exact⟨aF (by rw[HRR.o];exact(D.o).symm),HX1.o.2⟩
 |true=>
  have Dp0:=Za p0;clear p0;go_wp2_with(go_at_call 55;refine(KV _ _ s.d _ (HR.o.below HX1.o.2 (Zb _)).d).mono ?_;rintro e w2 ⟨rfl,hb⟩;refine aD ?_);have HX2:=Za (Zd (HX1.o.1.next hb) (HX1.o.2.trans (hb.mono HX1.o.2.size)));clear hb;clear x0 x1 x2 x3 x4 x5 x6 x7 x8 x9 x10 x11 x12 x13 x14 x15 x16 x17 x18 x19 x20 x21 x22 x23 x24 x25 x26;have x0:=HX2.o.1.q 0 rfl;have x1:=HX2.o.1.q 1 rfl;have x2:=HX2.o.1.q 2 rfl;have x3:=HX2.o.1.q 3 rfl;have x4:=HX2.o.1.q 4 rfl;have x5:=HX2.o.1.q 5 rfl;have x6:=HX2.o.1.q 6 rfl;have x7:=HX2.o.1.q 7 rfl;have x8:=HX2.o.1.q 8 rfl;have x9:=HX2.o.1.q 9 rfl;have x10:=HX2.o.1.q 10 rfl;have x11:=HX2.o.1.q 11 rfl;have x12:=HX2.o.1.q 12 rfl;have x13:=HX2.o.1.q 13 rfl;have x14:=HX2.o.1.q 14 rfl;have x15:=HX2.o.1.q 15 rfl;have x16:=HX2.o.1.q 16 rfl;have x17:=HX2.o.1.q 17 rfl;have x18:=HX2.o.1.q 18 rfl;have x19:=HX2.o.1.q 19 rfl;have x20:=HX2.o.1.q 20 rfl;have x21:=HX2.o.1.q 21 rfl;have x22:=HX2.o.1.q 22 rfl;have x23:=HX2.o.1.q 23 rfl;have x24:=HX2.o.1.q 24 rfl;have x25:=HX2.o.1.q 25 rfl;have x26:=HX2.o.1.q 26 rfl;refine aC ?_;rw[BR];cases p1:dL s.d with
  |false=>
   have D:=Za (vO (show dN s.d=none by
    cases hs:dN s.d with
    |none=>rfl
    |some l=>rw[oL hs]at p1;cases p1))
   clear p1;go_wp2;go_ret;exact⟨aF (by rw[HRR.o];exact(D.o).symm),HX2.o.2⟩
  |true=>
   have Dp1:=Za p1;clear p1;go_wp2_with(go_at_call 56;refine(OF s.h s.f _ Dp0.o).mono ?_;rintro e w3 ⟨rfl,hb⟩;refine aD ?_);have HX3:=Za (Zd (HX2.o.1.next hb) (HX2.o.2.trans (hb.mono HX2.o.2.size)));clear hb;clear x0 x1 x2 x3 x4 x5 x6 x7 x8 x9 x10 x11 x12 x13 x14 x15 x16 x17 x18 x19 x20 x21 x22 x23 x24 x25 x26;have x0:=HX3.o.1.q 0 rfl;have x1:=HX3.o.1.q 1 rfl;have x2:=HX3.o.1.q 2 rfl;have x3:=HX3.o.1.q 3 rfl;have x4:=HX3.o.1.q 4 rfl;have x5:=HX3.o.1.q 5 rfl;have x6:=HX3.o.1.q 6 rfl;have x7:=HX3.o.1.q 7 rfl;have x8:=HX3.o.1.q 8 rfl;have x9:=HX3.o.1.q 9 rfl;have x10:=HX3.o.1.q 10 rfl;have x11:=HX3.o.1.q 11 rfl;have x12:=HX3.o.1.q 12 rfl;have x13:=HX3.o.1.q 13 rfl;have x14:=HX3.o.1.q 14 rfl;have x15:=HX3.o.1.q 15 rfl;have x16:=HX3.o.1.q 16 rfl;have x17:=HX3.o.1.q 17 rfl;have x18:=HX3.o.1.q 18 rfl;have x19:=HX3.o.1.q 19 rfl;have x20:=HX3.o.1.q 20 rfl;have x21:=HX3.o.1.q 21 rfl;have x22:=HX3.o.1.q 22 rfl;have x23:=HX3.o.1.q 23 rfl;have x24:=HX3.o.1.q 24 rfl;have x25:=HX3.o.1.q 25 rfl;have x26:=HX3.o.1.q 26 rfl;refine aC ?_;rw[MN _ _ Dp0.o];cases p2:eM s.h s.f with
   |false=>
    have D:=Za (show dF s=false by rw[dF];split;rfl;rw[p2];simp);clear p2;go_wp2;go_ret;exact⟨aF (by rw[HRR.o];exact(D.o).symm),HX3.o.2⟩
   |true=>
    have Dp2:=Za p2;clear p2;go_wp2_with(go_at_call 57;refine(EV _ _ _ _ _ _ _ _ HR.o.lr).mono ?_;rintro e w4 ⟨rfl,hb⟩;refine aD ?_);have HX4:=Za (Zd (HX3.o.1.next hb) (HX3.o.2.trans (hb.mono HX3.o.2.size)));clear hb;clear x0 x1 x2 x3 x4 x5 x6 x7 x8 x9 x10 x11 x12 x13 x14 x15 x16 x17 x18 x19 x20 x21 x22 x23 x24 x25 x26;have x0:=HX4.o.1.q 0 rfl;have x1:=HX4.o.1.q 1 rfl;have x2:=HX4.o.1.q 2 rfl;have x3:=HX4.o.1.q 3 rfl;have x4:=HX4.o.1.q 4 rfl;have x5:=HX4.o.1.q 5 rfl;have x6:=HX4.o.1.q 6 rfl;have x7:=HX4.o.1.q 7 rfl;have x8:=HX4.o.1.q 8 rfl;have x9:=HX4.o.1.q 9 rfl;have x10:=HX4.o.1.q 10 rfl;have x11:=HX4.o.1.q 11 rfl;have x12:=HX4.o.1.q 12 rfl;have x13:=HX4.o.1.q 13 rfl;have x14:=HX4.o.1.q 14 rfl;have x15:=HX4.o.1.q 15 rfl;have x16:=HX4.o.1.q 16 rfl;have x17:=HX4.o.1.q 17 rfl;have x18:=HX4.o.1.q 18 rfl;have x19:=HX4.o.1.q 19 rfl;have x20:=HX4.o.1.q 20 rfl;have x21:=HX4.o.1.q 21 rfl;have x22:=HX4.o.1.q 22 rfl;have x23:=HX4.o.1.q 23 rfl;have x24:=HX4.o.1.q 24 rfl;have x25:=HX4.o.1.q 25 rfl;have x26:=HX4.o.1.q 26 rfl;refine aC ?_;cases p3:gK s.r.script.length s.r.s0 s.r.s1 s.r.s2 s.r.s3 with
    |false=>
     have D:=Za (show dF s=false by rw[dF];split;rfl;rw[p3];simp);clear p3;go_wp2;go_ret;exact⟨aF (by rw[HRR.o];exact(D.o).symm),HX4.o.2⟩
    |true=>
     have Dp3:=Za p3;clear p3;go_wp2_with(go_at_call 32;refine(OU _ _ _ _ s.d _ (HR.o.below HX4.o.2 (Zb _)).d HCI.o Dp1.o).mono ?_;rintro e w5 ⟨hb,(⟨hn,er,her,rfl⟩|⟨p,vo,vps,qs,hn,rfl,ho,hq,hps,hql⟩)⟩<;>refine aD ?_)
     ·have HX5:=Za (Zd (HX4.o.1.next hb) (HX4.o.2.trans (hb.mono HX4.o.2.size)));have D:=Za (vO (show dN s.d=none by rw[dN,hn];rfl));have HER:=Za her;clear x0 x1 x2 x3 x4 x5 x6 x7 x8 x9 x10 x11 x12 x13 x14 x15 x16 x17 x18 x19 x20 x21 x22 x23 x24 x25 x26;clear hn hb her;refine aC ?_;go_upto_region 4 with(fail);have hz:(er==0)=false:=by simpa using HER.o
      have HX6:=Za (Zd (HX5.o.1.next (Below.drew (Zc _ _))) (HX5.o.2.trans (Below.drew (Zc _ _) |>.mono HX5.o.2.size)));refine wp_region_held_drew (S:=fun w'=>w'.cell? ⟨w.heap.size,0,none⟩=some (.int .i64 s.f)∧w'.cell? ⟨w.heap.size,4,none⟩=some (.int .i64 s.h.kind)∧w'.cell? ⟨w.heap.size,5,none⟩=some (.int .i64 s.h.rate)∧w'.cell? ⟨w.heap.size,6,none⟩=some (.int .i64 s.h.mu)∧w'.cell? ⟨w.heap.size,7,none⟩=some (.int .i64 s.h.nu)∧w'.cell? ⟨w.heap.size,8,none⟩=some (.int .i64 s.h.eps)∧w'.cell? ⟨w.heap.size,9,none⟩=some (.int .i64 s.h.decay)∧w'.cell? ⟨w.heap.size,10,none⟩=some (.int .i64 s.h.clip)∧w'.cell? ⟨w.heap.size,11,none⟩=some (.int .i64 s.h.sched)∧w'.cell? ⟨w.heap.size,12,none⟩=some (.int .i64 s.h.every)∧w'.cell? ⟨w.heap.size,13,none⟩=some (.slice o3 s.ps.length c3)∧w'.cell? ⟨w.heap.size,14,none⟩=some (.slice o4 s.m.m.length c4)∧w'.cell? ⟨w.heap.size,15,none⟩=some (.slice o5 s.m.v.length c5)∧w'.cell? ⟨w.heap.size,16,none⟩=some (.int .i64 s.m.powMu)∧w'.cell? ⟨w.heap.size,17,none⟩=some (.int .i64 s.m.powNu)∧w'.cell? ⟨w.heap.size,18,none⟩=some (.int .i64 s.m.steps)∧w'.cell? ⟨w.heap.size,24,none⟩=some (.slice o7 s.c.order.length c7)∧w'.cell? ⟨w.heap.size,25,none⟩=some (.int .i64 s.c.at_)∧w'.cell? ⟨w.heap.size,26,none⟩=some (.int .i64 s.c.epoch)) (by kernel_rfl) ?_ (fun hHeld=>?_)
      ·exact⟨HX6.o.1.cell 0 rfl,HX6.o.1.cell 4 rfl,HX6.o.1.cell 5 rfl,HX6.o.1.cell 6 rfl,HX6.o.1.cell 7 rfl,HX6.o.1.cell 8 rfl,HX6.o.1.cell 9 rfl,HX6.o.1.cell 10 rfl,HX6.o.1.cell 11 rfl,HX6.o.1.cell 12 rfl,HX6.o.1.cell 13 rfl,HX6.o.1.cell 14 rfl,HX6.o.1.cell 15 rfl,HX6.o.1.cell 16 rfl,HX6.o.1.cell 17 rfl,HX6.o.1.cell 18 rfl,HX6.o.1.cell 24 rfl,HX6.o.1.cell 25 rfl,HX6.o.1.cell 26 rfl⟩
      refine tk 0 ?_ ?_ ?_;rotate_left
      ·(intro w hSw;(try dsimp only at hSw);go_simp;(try with_reducible rfl))
      (try simp only[Act.put,Zk,Zi,Zj,Zf,Zg,Zh])
      refine tk 1 ?_ ?_ ?_;rotate_left
      ·(intro w hSw;(try dsimp only at hSw);go_simp;(try with_reducible rfl))
      (try simp only[Act.put,Zk,Zi,Zj,Zf,Zg,Zh])
      refine tk 2 ?_ ?_ ?_;rotate_left
      ·(intro w hSw;(try dsimp only at hSw);go_simp;(try with_reducible rfl))
      (try simp only[Act.put,Zk,Zi,Zj,Zf,Zg,Zh])
      refine sk 3 ?_
      (try simp only[Act.put,Zk,Zi,Zj,Zf,Zg,Zh])
      refine sk 4 ?_
      (try simp only[Act.put,Zk,Zi,Zj,Zf,Zg,Zh])
      refine sk 5 ?_
      (try simp only[Act.put,Zk,Zi,Zj,Zf,Zg,Zh])
      refine sk 6 ?_
      (try simp only[Act.put,Zk,Zi,Zj,Zf,Zg,Zh])
      refine sk 7 ?_
      (try simp only[Act.put,Zk,Zi,Zj,Zf,Zg,Zh])
      refine tk 8 ?_ ?_ ?_;rotate_left
      ·(intro w hSw;(try dsimp only at hSw);go_simp;(try with_reducible rfl))
      (try simp only[Act.put,Zk,Zi,Zj,Zf,Zg,Zh])
      refine tk 9 ?_ ?_ ?_;rotate_left
      ·(intro w hSw;(try dsimp only at hSw);go_simp;(try with_reducible rfl))
      (try simp only[Act.put,Zk,Zi,Zj,Zf,Zg,Zh])
      refine sk 10 ?_
      (try simp only[Act.put,Zk,Zi,Zj,Zf,Zg,Zh])
      refine sk 11 ?_
      (try simp only[Act.put,Zk,Zi,Zj,Zf,Zg,Zh])
      refine sk 12 ?_
      (try simp only[Act.put,Zk,Zi,Zj,Zf,Zg,Zh])
      refine sk 13 ?_
      (try simp only[Act.put,Zk,Zi,Zj,Zf,Zg,Zh])
      refine sk 14 ?_
      (try simp only[Act.put,Zk,Zi,Zj,Zf,Zg,Zh])
      refine sk 15 ?_
      (try simp only[Act.put,Zk,Zi,Zj,Zf,Zg,Zh])
      refine sk 16 ?_
      (try simp only[Act.put,Zk,Zi,Zj,Zf,Zg,Zh])
      refine sk 17 ?_
      (try simp only[Act.put,Zk,Zi,Zj,Zf,Zg,Zh])
      refine sk 18 ?_
      (try simp only[Act.put,Zk,Zi,Zj,Zf,Zg,Zh])
      refine tk 19 ?_ ?_ ?_;rotate_left
      ·(intro w hSw;(try dsimp only at hSw);go_simp;(try with_reducible rfl))
      (try simp only[Act.put,Zk,Zi,Zj,Zf,Zg,Zh])
      refine tk 20 ?_ ?_ ?_;rotate_left
      ·(intro w hSw;(try dsimp only at hSw);go_simp;(try with_reducible rfl))
      (try simp only[Act.put,Zk,Zi,Zj,Zf,Zg,Zh])
      refine sk 21 ?_
      (try simp only[Act.put,Zk,Zi,Zj,Zf,Zg,Zh])
      refine sk 22 ?_
      (try simp only[Act.put,Zk,Zi,Zj,Zf,Zg,Zh])
      refine sk 23 ?_
      (try simp only[Act.put,Zk,Zi,Zj,Zf,Zg,Zh])
      refine sk 24 ?_
      (try simp only[Act.put,Zk,Zi,Zj,Zf,Zg,Zh])
      refine sk 25 ?_
      (try simp only[Act.put,Zk,Zi,Zj,Zf,Zg,Zh])
      refine sk 26 ?_
      (try simp only[Act.put,Zk,Zi,Zj,Zf,Zg,Zh])
      refine sk 27 ?_
      (try simp only[Act.put,Zk,Zi,Zj,Zf,Zg,Zh])
      refine tk 28 ?_ ?_ ?_;rotate_left
      ·(intro w hSw;(try dsimp only at hSw);go_simp;(try with_reducible rfl))
      (try simp only[Act.put,Zk,Zi,Zj,Zf,Zg,Zh])
      refine tk 29 ?_ ?_ ?_;rotate_left
      ·(intro w hSw;(try dsimp only at hSw);go_simp;(try with_reducible rfl))
      (try simp only[Act.put,Zk,Zi,Zj,Zf,Zg,Zh])
      refine wpAnyH_done (by kernel_rfl) ?_ _;go_wp2_with fail;go_ret;exact⟨aF (by rw[HRR.o];exact(D.o).symm),HX6.o.2⟩
     ·have HX5:=Za (Zd (HX4.o.1.next hb) (HX4.o.2.trans (hb.mono HX4.o.2.size)));obtain⟨oi,ci,rfl⟩:=aJ ho;obtain⟨oq,cq,rfl⟩:=aJ hq.row;have HQ:=Za hq;have HQS:=Za (show(qs.map (·.sh)).all bA=true by rw[←hps];exact FP hn);have HQL:=Za hql;have HG:=Za (CR (show dN s.d=some (qs.map (·.sh)) by rw[dN,hn,←hps];rfl));clear x0 x1 x2 x3 x4 x5 x6 x7 x8 x9 x10 x11 x12 x13 x14 x15 x16 x17 x18 x19 x20 x21 x22 x23 x24 x25 x26;clear hn hb ho hq hps hql;refine aC ?_;go_upto_region 4 with(fail);have HD6:=Za (show Below w5.heap.size w5 w5.drew from Below.drew (Zc _ _));have HX6:=Za (Zd (HX5.o.1.next HD6.o) (HX5.o.2.trans (HD6.o.mono HX5.o.2.size)));refine wp_region_held_drew (S:=fun w'=>w'.cell? ⟨w.heap.size,0,none⟩=some (.int .i64 s.f)∧w'.cell? ⟨w.heap.size,4,none⟩=some (.int .i64 s.h.kind)∧w'.cell? ⟨w.heap.size,5,none⟩=some (.int .i64 s.h.rate)∧w'.cell? ⟨w.heap.size,6,none⟩=some (.int .i64 s.h.mu)∧w'.cell? ⟨w.heap.size,7,none⟩=some (.int .i64 s.h.nu)∧w'.cell? ⟨w.heap.size,8,none⟩=some (.int .i64 s.h.eps)∧w'.cell? ⟨w.heap.size,9,none⟩=some (.int .i64 s.h.decay)∧w'.cell? ⟨w.heap.size,10,none⟩=some (.int .i64 s.h.clip)∧w'.cell? ⟨w.heap.size,11,none⟩=some (.int .i64 s.h.sched)∧w'.cell? ⟨w.heap.size,12,none⟩=some (.int .i64 s.h.every)∧w'.cell? ⟨w.heap.size,13,none⟩=some (.slice o3 s.ps.length c3)∧w'.cell? ⟨w.heap.size,14,none⟩=some (.slice o4 s.m.m.length c4)∧w'.cell? ⟨w.heap.size,15,none⟩=some (.slice o5 s.m.v.length c5)∧w'.cell? ⟨w.heap.size,16,none⟩=some (.int .i64 s.m.powMu)∧w'.cell? ⟨w.heap.size,17,none⟩=some (.int .i64 s.m.powNu)∧w'.cell? ⟨w.heap.size,18,none⟩=some (.int .i64 s.m.steps)∧w'.cell? ⟨w.heap.size,24,none⟩=some (.slice o7 s.c.order.length c7)∧w'.cell? ⟨w.heap.size,25,none⟩=some (.int .i64 s.c.at_)∧w'.cell? ⟨w.heap.size,26,none⟩=some (.int .i64 s.c.epoch)) (by kernel_rfl) ?_ (fun hHeld=>?_)
      ·exact⟨HX6.o.1.cell 0 rfl,HX6.o.1.cell 4 rfl,HX6.o.1.cell 5 rfl,HX6.o.1.cell 6 rfl,HX6.o.1.cell 7 rfl,HX6.o.1.cell 8 rfl,HX6.o.1.cell 9 rfl,HX6.o.1.cell 10 rfl,HX6.o.1.cell 11 rfl,HX6.o.1.cell 12 rfl,HX6.o.1.cell 13 rfl,HX6.o.1.cell 14 rfl,HX6.o.1.cell 15 rfl,HX6.o.1.cell 16 rfl,HX6.o.1.cell 17 rfl,HX6.o.1.cell 18 rfl,HX6.o.1.cell 24 rfl,HX6.o.1.cell 25 rfl,HX6.o.1.cell 26 rfl⟩
      refine tk 0 ?_ ?_ ?_;rotate_left
      ·(intro w hSw;(try dsimp only at hSw);go_simp;(try with_reducible rfl))
      (try simp only[Act.put,Zk,Zi,Zj,Zf,Zg,Zh])
      refine tk 1 ?_ ?_ ?_;rotate_left
      ·(intro w hSw;(try dsimp only at hSw);go_simp;(try with_reducible rfl))
      (try simp only[Act.put,Zk,Zi,Zj,Zf,Zg,Zh])
      refine tk 2 ?_ ?_ ?_;rotate_left
      ·(intro w hSw;(try dsimp only at hSw);go_simp;(try with_reducible rfl))
      (try simp only[Act.put,Zk,Zi,Zj,Zf,Zg,Zh])
      refine tk 3 ?_ ?_ ?_;rotate_left
      ·(intro w hSw;(try dsimp only at hSw);go_simp;(try with_reducible rfl))
      (try simp only[Act.put,Zk,Zi,Zj,Zf,Zg,Zh])
      refine tk 4 ?_ ?_ ?_;rotate_left
      ·(intro w hSw;(try dsimp only at hSw);go_simp;(try with_reducible rfl))
      (try simp only[Act.put,Zk,Zi,Zj,Zf,Zg,Zh])
      refine tk 5 ?_ ?_ ?_;rotate_left
      ·(intro w hSw;(try dsimp only at hSw);go_simp;(try with_reducible rfl))
      (try simp only[Act.put,Zk,Zi,Zj,Zf,Zg,Zh])
      refine wpAnyH_ready (rs:=[6]) (by kernel_rfl) (by simp) ?_;refine AllReadyH.cons rfl (fun K hK=>?_) AllReadyH.nil
      go_simp
      go_at_call 59
      refine(GK _ _ _ qs _ (HQ.o.below HD6.o) HQS.o HQL.o).mono ?_;rintro e w7 ⟨u7,rfl,hu7,hb7⟩;have HX7:=Za (Zd (HX6.o.1.next hb7) (HX6.o.2.trans (hb7.mono HX6.o.2.size)));have HU7:=Za hu7;clear hu7 hb7;obtain⟨o9,c9,hv9⟩:∃o9 c9,u7=.slice o9 qs.length c9:=by obtain⟨a,b,h⟩:=HU7.o.slice;exact⟨a,b,by rw[h,List.length_map]⟩
      subst hv9;refine hK.out _ _ ⟨HX7.o.1.cell 0 rfl,HX7.o.1.cell 4 rfl,HX7.o.1.cell 5 rfl,HX7.o.1.cell 6 rfl,HX7.o.1.cell 7 rfl,HX7.o.1.cell 8 rfl,HX7.o.1.cell 9 rfl,HX7.o.1.cell 10 rfl,HX7.o.1.cell 11 rfl,HX7.o.1.cell 12 rfl,HX7.o.1.cell 13 rfl,HX7.o.1.cell 14 rfl,HX7.o.1.cell 15 rfl,HX7.o.1.cell 16 rfl,HX7.o.1.cell 17 rfl,HX7.o.1.cell 18 rfl,HX7.o.1.cell 24 rfl,HX7.o.1.cell 25 rfl,HX7.o.1.cell 26 rfl⟩ (fun hHeld2=>?_);clear hK K
      (try simp only[Act.put,Zk,Zi,Zj,Zf,Zg,Zh])
      refine wpAnyH_ready (rs:=[7]) (by kernel_rfl) (by simp) ?_;refine AllReadyH.cons rfl (fun K hK=>?_) AllReadyH.nil
      go_simp
      go_at_call 58
      refine(tA _ _ s.ps _ _ (HR.o.below HX7.o.2 (Zb _)).ps HU7.o HR.o.lps).mono ?_;rintro e w8 ⟨rfl,hb8⟩;have HX8:=Za (Zd (HX7.o.1.next hb8) (HX7.o.2.trans (hb8.mono HX7.o.2.size)));clear hb8;cases pl:gF s.ps (qs.map fun q=>mN q.sh)with
      |false=>
       have HLK:=Za pl;have D:=Za (show dF s=false by
        rw[HG.o];rw[gF,BS]at pl;cases h1:s.ps.all cH
        ·simp
        ·rw[h1,Bool.true_and]at pl;rw[pl];simp)
       clear pl;refine hK.out _ _ ⟨HX8.o.1.cell 0 rfl,HX8.o.1.cell 4 rfl,HX8.o.1.cell 5 rfl,HX8.o.1.cell 6 rfl,HX8.o.1.cell 7 rfl,HX8.o.1.cell 8 rfl,HX8.o.1.cell 9 rfl,HX8.o.1.cell 10 rfl,HX8.o.1.cell 11 rfl,HX8.o.1.cell 12 rfl,HX8.o.1.cell 13 rfl,HX8.o.1.cell 14 rfl,HX8.o.1.cell 15 rfl,HX8.o.1.cell 16 rfl,HX8.o.1.cell 17 rfl,HX8.o.1.cell 18 rfl,HX8.o.1.cell 24 rfl,HX8.o.1.cell 25 rfl,HX8.o.1.cell 26 rfl⟩ (fun hHeld3=>?_);clear hK K
       (try simp only[Act.put,Zk,Zi,Zj,Zf,Zg,Zh])
       refine tk 8 ?_ ?_ ?_;rotate_left
       ·(intro w hSw;(try dsimp only at hSw);go_simp;(try with_reducible rfl))
       (try simp only[Act.put,Zk,Zi,Zj,Zf,Zg,Zh])
       refine tk 9 ?_ ?_ ?_;rotate_left
       ·(intro w hSw;(try dsimp only at hSw);go_simp;(try with_reducible rfl))
       (try simp only[Act.put,Zk,Zi,Zj,Zf,Zg,Zh])
       refine sk 10 ?_
       (try simp only[Act.put,Zk,Zi,Zj,Zf,Zg,Zh])
       refine sk 11 ?_
       (try simp only[Act.put,Zk,Zi,Zj,Zf,Zg,Zh])
       refine sk 12 ?_
       (try simp only[Act.put,Zk,Zi,Zj,Zf,Zg,Zh])
       refine sk 13 ?_
       (try simp only[Act.put,Zk,Zi,Zj,Zf,Zg,Zh])
       refine sk 14 ?_
       (try simp only[Act.put,Zk,Zi,Zj,Zf,Zg,Zh])
       refine sk 15 ?_
       (try simp only[Act.put,Zk,Zi,Zj,Zf,Zg,Zh])
       refine sk 16 ?_
       (try simp only[Act.put,Zk,Zi,Zj,Zf,Zg,Zh])
       refine sk 17 ?_
       (try simp only[Act.put,Zk,Zi,Zj,Zf,Zg,Zh])
       refine sk 18 ?_
       (try simp only[Act.put,Zk,Zi,Zj,Zf,Zg,Zh])
       refine tk 19 ?_ ?_ ?_;rotate_left
       ·(intro w hSw;(try dsimp only at hSw);go_simp;(try with_reducible rfl))
       (try simp only[Act.put,Zk,Zi,Zj,Zf,Zg,Zh])
       refine tk 20 ?_ ?_ ?_;rotate_left
       ·(intro w hSw;(try dsimp only at hSw);go_simp;(try with_reducible rfl))
       (try simp only[Act.put,Zk,Zi,Zj,Zf,Zg,Zh])
       refine sk 21 ?_
       (try simp only[Act.put,Zk,Zi,Zj,Zf,Zg,Zh])
       refine sk 22 ?_
       (try simp only[Act.put,Zk,Zi,Zj,Zf,Zg,Zh])
       refine sk 23 ?_
       (try simp only[Act.put,Zk,Zi,Zj,Zf,Zg,Zh])
       refine sk 24 ?_
       (try simp only[Act.put,Zk,Zi,Zj,Zf,Zg,Zh])
       refine sk 25 ?_
       (try simp only[Act.put,Zk,Zi,Zj,Zf,Zg,Zh])
       refine sk 26 ?_
       (try simp only[Act.put,Zk,Zi,Zj,Zf,Zg,Zh])
       refine sk 27 ?_
       (try simp only[Act.put,Zk,Zi,Zj,Zf,Zg,Zh])
       refine tk 28 ?_ ?_ ?_;rotate_left
       ·(intro w hSw;(try dsimp only at hSw);go_simp;(try with_reducible rfl))
       (try simp only[Act.put,Zk,Zi,Zj,Zf,Zg,Zh])
       refine tk 29 ?_ ?_ ?_;rotate_left
       ·(intro w hSw;(try dsimp only at hSw);go_simp;(try with_reducible rfl))
       (try simp only[Act.put,Zk,Zi,Zj,Zf,Zg,Zh])
       refine wpAnyH_done (by kernel_rfl) ?_ _;go_wp2_with fail;go_ret;exact⟨aF (by rw[HRR.o];exact(D.o).symm),HX8.o.2⟩
      |true=>
       have HLK:=Za pl;have HL2:=Za (show s.ps.all cH=true∧decide (bI s.ps=qs.map (·.sh))=true by
        rw[gF,BS,Bool.and_eq_true]at pl;exact pl)
       clear pl;refine hK.out _ _ ⟨HX8.o.1.cell 0 rfl,HX8.o.1.cell 4 rfl,HX8.o.1.cell 5 rfl,HX8.o.1.cell 6 rfl,HX8.o.1.cell 7 rfl,HX8.o.1.cell 8 rfl,HX8.o.1.cell 9 rfl,HX8.o.1.cell 10 rfl,HX8.o.1.cell 11 rfl,HX8.o.1.cell 12 rfl,HX8.o.1.cell 13 rfl,HX8.o.1.cell 14 rfl,HX8.o.1.cell 15 rfl,HX8.o.1.cell 16 rfl,HX8.o.1.cell 17 rfl,HX8.o.1.cell 18 rfl,HX8.o.1.cell 24 rfl,HX8.o.1.cell 25 rfl,HX8.o.1.cell 26 rfl⟩ (fun hHeld3=>?_);clear hK K
       (try simp only[Act.put,Zk,Zi,Zj,Zf,Zg,Zh])
       refine tk 8 ?_ ?_ ?_;rotate_left
       ·(intro w hSw;(try dsimp only at hSw);go_simp;(try with_reducible rfl))
       (try simp only[Act.put,Zk,Zi,Zj,Zf,Zg,Zh])
       refine tk 9 ?_ ?_ ?_;rotate_left
       ·(intro w hSw;(try dsimp only at hSw);go_simp;(try with_reducible rfl))
       (try simp only[Act.put,Zk,Zi,Zj,Zf,Zg,Zh])
       refine tk 10 ?_ ?_ ?_;rotate_left
       ·(intro w hSw;(try dsimp only at hSw);go_simp;(try with_reducible rfl))
       (try simp only[Act.put,Zk,Zi,Zj,Zf,Zg,Zh])
       refine tk 11 ?_ ?_ ?_;rotate_left
       ·(intro w hSw;(try dsimp only at hSw);go_simp;(try with_reducible rfl))
       (try simp only[Act.put,Zk,Zi,Zj,Zf,Zg,Zh])
       refine tk 12 ?_ ?_ ?_;rotate_left
       ·(intro w hSw;(try dsimp only at hSw);go_simp;(try with_reducible rfl))
       (try simp only[Act.put,Zk,Zi,Zj,Zf,Zg,Zh])
       refine tk 13 ?_ ?_ ?_;rotate_left
       ·(intro w hSw;(try dsimp only at hSw);go_simp;(try with_reducible rfl))
       (try simp only[Act.put,Zk,Zi,Zj,Zf,Zg,Zh])
       refine tk 14 ?_ ?_ ?_;rotate_left
       ·(intro w hSw;(try dsimp only at hSw);go_simp;(try with_reducible rfl))
       (try simp only[Act.put,Zk,Zi,Zj,Zf,Zg,Zh])
       refine tk 15 ?_ ?_ ?_;rotate_left
       ·(intro w hSw;(try dsimp only at hSw);go_simp;(try with_reducible rfl))
       (try simp only[Act.put,Zk,Zi,Zj,Zf,Zg,Zh])
       refine tk 16 ?_ ?_ ?_;rotate_left
       ·(intro w hSw;(try dsimp only at hSw);go_simp;(try with_reducible rfl))
       (try simp only[Act.put,Zk,Zi,Zj,Zf,Zg,Zh])
       refine tk 17 ?_ ?_ ?_;rotate_left
       ·(intro w hSw;(try dsimp only at hSw);go_simp;(try with_reducible rfl))
       (try simp only[Act.put,Zk,Zi,Zj,Zf,Zg,Zh])
       refine wpAnyH_ready (rs:=[18]) (by kernel_rfl) (by simp) ?_;refine AllReadyH.cons rfl (fun K hK=>?_) AllReadyH.nil
       go_simp
       go_at_call 60
       refine(SP s.h s.m s.ps s.f _ _ _ _ (nH Dp0.o) (HR.o.below HX8.o.2 (Zb _)).m (HR.o.below HX8.o.2 (Zb _)).v (HR.o.below HX8.o.2 (Zb _)).ps HR.o.lm HR.o.lv).mono ?_;rintro e w9 ⟨rfl,hb9⟩;have HX9:=Za (Zd (HX8.o.1.next hb9) (HX8.o.2.trans (hb9.mono HX8.o.2.size)));clear hb9;cases pm:dQ s.h s.m s.ps s.f with
       |false=>
        have HMO:=Za pm;have D:=Za (show dF s=false by rw[HG.o,pm];simp);clear pm;refine hK.out _ _ ⟨HX9.o.1.cell 0 rfl,HX9.o.1.cell 4 rfl,HX9.o.1.cell 5 rfl,HX9.o.1.cell 6 rfl,HX9.o.1.cell 7 rfl,HX9.o.1.cell 8 rfl,HX9.o.1.cell 9 rfl,HX9.o.1.cell 10 rfl,HX9.o.1.cell 11 rfl,HX9.o.1.cell 12 rfl,HX9.o.1.cell 13 rfl,HX9.o.1.cell 14 rfl,HX9.o.1.cell 15 rfl,HX9.o.1.cell 16 rfl,HX9.o.1.cell 17 rfl,HX9.o.1.cell 18 rfl,HX9.o.1.cell 24 rfl,HX9.o.1.cell 25 rfl,HX9.o.1.cell 26 rfl⟩ (fun hHeld4=>?_);clear hK K
        (try simp only[Act.put,Zk,Zi,Zj,Zf,Zg,Zh])
        refine tk 19 ?_ ?_ ?_;rotate_left
        ·(intro w hSw;(try dsimp only at hSw);go_simp;(try with_reducible rfl))
        (try simp only[Act.put,Zk,Zi,Zj,Zf,Zg,Zh])
        refine tk 20 ?_ ?_ ?_;rotate_left
        ·(intro w hSw;(try dsimp only at hSw);go_simp;(try with_reducible rfl))
        (try simp only[Act.put,Zk,Zi,Zj,Zf,Zg,Zh])
        refine sk 21 ?_
        (try simp only[Act.put,Zk,Zi,Zj,Zf,Zg,Zh])
        refine sk 22 ?_
        (try simp only[Act.put,Zk,Zi,Zj,Zf,Zg,Zh])
        refine sk 23 ?_
        (try simp only[Act.put,Zk,Zi,Zj,Zf,Zg,Zh])
        refine sk 24 ?_
        (try simp only[Act.put,Zk,Zi,Zj,Zf,Zg,Zh])
        refine sk 25 ?_
        (try simp only[Act.put,Zk,Zi,Zj,Zf,Zg,Zh])
        refine sk 26 ?_
        (try simp only[Act.put,Zk,Zi,Zj,Zf,Zg,Zh])
        refine sk 27 ?_
        (try simp only[Act.put,Zk,Zi,Zj,Zf,Zg,Zh])
        refine tk 28 ?_ ?_ ?_;rotate_left
        ·(intro w hSw;(try dsimp only at hSw);go_simp;(try with_reducible rfl))
        (try simp only[Act.put,Zk,Zi,Zj,Zf,Zg,Zh])
        refine tk 29 ?_ ?_ ?_;rotate_left
        ·(intro w hSw;(try dsimp only at hSw);go_simp;(try with_reducible rfl))
        (try simp only[Act.put,Zk,Zi,Zj,Zf,Zg,Zh])
        refine wpAnyH_done (by kernel_rfl) ?_ _;go_wp2_with fail;go_ret;exact⟨aF (by rw[HRR.o];exact(D.o).symm),HX9.o.2⟩
       |true=>
        have HMO:=Za pm;clear pm;refine hK.out _ _ ⟨HX9.o.1.cell 0 rfl,HX9.o.1.cell 4 rfl,HX9.o.1.cell 5 rfl,HX9.o.1.cell 6 rfl,HX9.o.1.cell 7 rfl,HX9.o.1.cell 8 rfl,HX9.o.1.cell 9 rfl,HX9.o.1.cell 10 rfl,HX9.o.1.cell 11 rfl,HX9.o.1.cell 12 rfl,HX9.o.1.cell 13 rfl,HX9.o.1.cell 14 rfl,HX9.o.1.cell 15 rfl,HX9.o.1.cell 16 rfl,HX9.o.1.cell 17 rfl,HX9.o.1.cell 18 rfl,HX9.o.1.cell 24 rfl,HX9.o.1.cell 25 rfl,HX9.o.1.cell 26 rfl⟩ (fun hHeld4=>?_);clear hK K
        (try simp only[Act.put,Zk,Zi,Zj,Zf,Zg,Zh])
        refine tk 19 ?_ ?_ ?_;rotate_left
        ·(intro w hSw;(try dsimp only at hSw);go_simp;(try with_reducible rfl))
        (try simp only[Act.put,Zk,Zi,Zj,Zf,Zg,Zh])
        refine tk 20 ?_ ?_ ?_;rotate_left
        ·(intro w hSw;(try dsimp only at hSw);go_simp;(try with_reducible rfl))
        (try simp only[Act.put,Zk,Zi,Zj,Zf,Zg,Zh])
        refine tk 21 ?_ ?_ ?_;rotate_left
        ·(intro w hSw;(try dsimp only at hSw);go_simp;(try with_reducible rfl))
        (try simp only[Act.put,Zk,Zi,Zj,Zf,Zg,Zh])
        refine tk 22 ?_ ?_ ?_;rotate_left
        ·(intro w hSw;(try dsimp only at hSw);go_simp;(try with_reducible rfl))
        (try simp only[Act.put,Zk,Zi,Zj,Zf,Zg,Zh])
        refine tk 23 ?_ ?_ ?_;rotate_left
        ·(intro w hSw;(try dsimp only at hSw);go_simp;(try with_reducible rfl))
        (try simp only[Act.put,Zk,Zi,Zj,Zf,Zg,Zh])
        refine tk 24 ?_ ?_ ?_;rotate_left
        ·(intro w hSw;(try dsimp only at hSw);go_simp;(try with_reducible rfl))
        (try simp only[Act.put,Zk,Zi,Zj,Zf,Zg,Zh])
        refine tk 25 ?_ ?_ ?_;rotate_left
        ·(intro w hSw;(try dsimp only at hSw);go_simp;(try with_reducible rfl))
        (try simp only[Act.put,Zk,Zi,Zj,Zf,Zg,Zh])
        refine tk 26 ?_ ?_ ?_;rotate_left
        ·(intro w hSw;(try dsimp only at hSw);go_simp;(try with_reducible rfl))
        (try simp only[Act.put,Zk,Zi,Zj,Zf,Zg,Zh])
        refine wpAnyH_ready (rs:=[27]) (by kernel_rfl) (by simp) ?_;refine AllReadyH.cons rfl (fun K hK=>?_) AllReadyH.nil
        go_simp
        go_at_call 61
        refine(J1 _ s.c.order s.c.at_ s.c.epoch s.c.order.length _ (HR.o.below HX9.o.2 (Zb _)).c HR.o.lc HR.o.lc).mono ?_;rintro e w10 ⟨rfl,hb10⟩;have HX10:=Za (Zd (HX9.o.1.next hb10) (HX9.o.2.trans (hb10.mono HX9.o.2.size)));clear hb10;refine hK.out _ _ ⟨HX10.o.1.cell 0 rfl,HX10.o.1.cell 4 rfl,HX10.o.1.cell 5 rfl,HX10.o.1.cell 6 rfl,HX10.o.1.cell 7 rfl,HX10.o.1.cell 8 rfl,HX10.o.1.cell 9 rfl,HX10.o.1.cell 10 rfl,HX10.o.1.cell 11 rfl,HX10.o.1.cell 12 rfl,HX10.o.1.cell 13 rfl,HX10.o.1.cell 14 rfl,HX10.o.1.cell 15 rfl,HX10.o.1.cell 16 rfl,HX10.o.1.cell 17 rfl,HX10.o.1.cell 18 rfl,HX10.o.1.cell 24 rfl,HX10.o.1.cell 25 rfl,HX10.o.1.cell 26 rfl⟩ (fun hHeld5=>?_);clear hK K
        (try simp only[Act.put,Zk,Zi,Zj,Zf,Zg,Zh])
        refine tk 28 ?_ ?_ ?_;rotate_left
        ·(intro w hSw;(try dsimp only at hSw);go_simp;(try with_reducible rfl))
        (try simp only[Act.put,Zk,Zi,Zj,Zf,Zg,Zh])
        refine tk 29 ?_ ?_ ?_;rotate_left
        ·(intro w hSw;(try dsimp only at hSw);go_simp;(try with_reducible rfl))
        (try simp only[Act.put,Zk,Zi,Zj,Zf,Zg,Zh])
        refine wpAnyH_done (by kernel_rfl) ?_ _;go_wp2_with fail;go_ret;exact⟨aF (by rw[HRR.o];rw[HG.o,Dp0.o,Dp2.o,HL2.o.1,HL2.o.2,HMO.o,Dp3.o];simp only[Bool.true_and]),HX10.o.2⟩
end Go.Proofs.YtjhkdocidcfpdaaGreatDoor
