/- A part of the proof. -/
import Derived.Test.YtjhkdocidcfpdaaGreatDoorEN38
import Derived.Test.YtjhkdocidcfpdaaGreatDoorEN44
import Derived.Test.YtjhkdocidcfpdaaGreatDoorEN32
set_option linter.unusedVariables false
set_option linter.unusedSimpArgs false
set_option maxRecDepth 100000
set_option maxHeartbeats 16000000
open List renaming setIfInBounds_toArray → Zf, set_cons_zero → Zg, set_cons_succ → Zh, getElem_cons_zero → Zi, getElem_cons_succ → Zj, getElem_toArray → Zk
namespace Go.Proofs.YtjhkdocidcfpdaaGreatDoor
open Go.RowKit Go.Shelf Go
theorem VG {d:bI} {p:List Int×List (List Int)} (h:eN d=some p):p.2.all bA=true:=by
 rw[eN]at h;cases hg:(dM d&&dQ d.input)with
 |false=>rw[hg]at h;cases h
 |true=>
  rw[hg]at h;simp only[if_true]at h;cases hw:bV true d.input d.lays with
  |none=>rw[hw]at h;cases h
  |some q=>
   rw[hw]at h;simp only at h;split at h
   ·cases h
   ·cases h;exact(nP true d.input (by simp only[Bool.and_eq_true]at hg;exact hg.2) d.lays _ hw).2
theorem ES (qs:List PD):bK (qs.map fun q=>nI q.sh)=qs.map (·.sh):=by rw[bK,List.map_map];rfl
theorem P5 (s:aT) (vi vl vp vm vv vr vc:Value) (w:World) (hr:dN w s vi vl vp vm vv vr vc) (ae:∀o n c,vi=.slice o n c->n<=c):
  Calls Tryz.prog 18 #[.agg (cG s vi vl vp vm vv vr vc)] w fun e w'=>e=.returned (.bool (cX s))/\Below w.heap.size w w':=by
 obtain⟨o1,c1,o2,c2,o3,c3,o4,c4,o5,c5,o6,c6,o7,c7,rfl,rfl,rfl,rfl,rfl,rfl,rfl⟩:=hr.slices;have hci':=ae _ _ _ rfl;obtain⟨R,hR⟩:=Zx (cX s);simp only[<-hR];have I:=Za hR;have M:=Za hr;obtain⟨W,hW⟩:=Zx (w.alloc (.cells (dJ s o1 c1 o2 c2 o3 c3 o4 c4 o5 c5 o6 c6 o7 c7) 47));have af:aA W w.heap.size 47 (dJ s o1 c1 o2 c2 o3 c3 o4 c4 o5 c5 o6 c6 o7 c7):=by rw[hW];exact aA.new _ _ _
 have ag:Below w.heap.size w W:=by rw[hW];exact(Zc _ _).alloc (Zb _) _
 have U:=Za (Zd af ag);have HW:=Za hW;have ar:=Za hci';simp only[cG];clear hr ae af ag hW hR hci';go_enter Tryz.func18,Tryz.ntmps18;go_upto_region 1 with(fail);rw[<-HW.o];obtain⟨x0,x1,x2,x3,x4,x5,x6,x7,x8,x9,x10,x11,x12,x13,x14,x15,x16,x17,x18,x19,x20,x21,x22,x23,x24,x25,x26⟩:=U.o.1.r27;go_wp2_with(go_at_call 54;refine(I2 s.f _).mono ?_;rintro e w1 ⟨rfl,au⟩;refine aD ?_);have G:Below W.heap.size W w1:=au.below _;have N:=Za (Zd (U.o.1.next G) (U.o.2.trans (G.mono U.o.2.size)));clear G;clear x0 x1 x2 x3 x4 x5 x6 x7 x8 x9 x10 x11 x12 x13 x14 x15 x16 x17 x18 x19 x20 x21 x22 x23 x24 x25 x26;obtain⟨x0,x1,x2,x3,x4,x5,x6,x7,x8,x9,x10,x11,x12,x13,x14,x15,x16,x17,x18,x19,x20,x21,x22,x23,x24,x25,x26⟩:=N.o.1.r27;refine aC ?_;cases p0:eE s.f with
 |false=>
  have D:=Za (show cX s=false by rw[cX];split;rfl;rw[p0];rfl);clear p0;go_wp2;go_ret;exact⟨aG (by rw[I.o];exact(D.o).symm),N.o.2⟩
 |true=>
  have Dp0:=Za p0;clear p0;go_wp2_with(go_at_call 55;refine(QI _ _ s.d _ (M.o.below N.o.2 (Zb _)).d).mono ?_;rintro e w2 ⟨rfl,G⟩;refine aD ?_);have O:=Za (Zd (N.o.1.next G) (N.o.2.trans (G.mono N.o.2.size)));clear G;clear x0 x1 x2 x3 x4 x5 x6 x7 x8 x9 x10 x11 x12 x13 x14 x15 x16 x17 x18 x19 x20 x21 x22 x23 x24 x25 x26;obtain⟨x0,x1,x2,x3,x4,x5,x6,x7,x8,x9,x10,x11,x12,x13,x14,x15,x16,x17,x18,x19,x20,x21,x22,x23,x24,x25,x26⟩:=O.o.1.r27;refine aC ?_;rw[BW];cases p1:dM s.d with
  |false=>
   have D:=Za (vS (show dT s.d=none by
    cases hs:dT s.d with
    |none=>rfl
    |some l=>rw[oS hs]at p1;cases p1))
   clear p1;go_wp2;go_ret;exact⟨aG (by rw[I.o];exact(D.o).symm),O.o.2⟩
  |true=>
   have Dp1:=Za p1;clear p1;go_wp2_with(go_at_call 56;refine(F7 s.h s.f _ Dp0.o).mono ?_;rintro e w3 ⟨rfl,G⟩;refine aD ?_);have P:=Za (Zd (O.o.1.next G) (O.o.2.trans (G.mono O.o.2.size)));clear G;clear x0 x1 x2 x3 x4 x5 x6 x7 x8 x9 x10 x11 x12 x13 x14 x15 x16 x17 x18 x19 x20 x21 x22 x23 x24 x25 x26;obtain⟨x0,x1,x2,x3,x4,x5,x6,x7,x8,x9,x10,x11,x12,x13,x14,x15,x16,x17,x18,x19,x20,x21,x22,x23,x24,x25,x26⟩:=P.o.1.r27;refine aC ?_;rw[I6 _ _ Dp0.o];cases p2:eT s.h s.f with
   |false=>
    have D:=Za (show cX s=false by rw[cX];split;rfl;rw[p2];simp);clear p2;go_wp2;go_ret;exact⟨aG (by rw[I.o];exact(D.o).symm),P.o.2⟩
   |true=>
    have Dp2:=Za p2;clear p2;go_wp2_with(go_at_call 57;refine(VQ _ _ _ _ _ _ _ _ M.o.lr).mono ?_;rintro e w4 ⟨rfl,G⟩;refine aD ?_);have H:=Za (Zd (P.o.1.next G) (P.o.2.trans (G.mono P.o.2.size)));clear G;clear x0 x1 x2 x3 x4 x5 x6 x7 x8 x9 x10 x11 x12 x13 x14 x15 x16 x17 x18 x19 x20 x21 x22 x23 x24 x25 x26;obtain⟨x0,x1,x2,x3,x4,x5,x6,x7,x8,x9,x10,x11,x12,x13,x14,x15,x16,x17,x18,x19,x20,x21,x22,x23,x24,x25,x26⟩:=H.o.1.r27;refine aC ?_;cases p3:gQ s.r.script.length s.r.s0 s.r.s1 s.r.s2 s.r.s3 with
    |false=>
     have D:=Za (show cX s=false by rw[cX];split;rfl;rw[p3];simp);clear p3;go_wp2;go_ret;exact⟨aG (by rw[I.o];exact(D.o).symm),H.o.2⟩
    |true=>
     have Dp3:=Za p3;clear p3;go_wp2_with(go_at_call 32;refine(NL _ _ _ _ s.d _ (M.o.below H.o.2 (Zb _)).d ar.o Dp1.o).mono ?_;rintro e w5 ⟨G,(⟨hn,er,ah,rfl⟩|⟨p,vo,vps,qs,hn,rfl,ho,hq,Y,ai⟩)⟩<;>refine aD ?_)
     ·have J:=Za (Zd (H.o.1.next G) (H.o.2.trans (G.mono H.o.2.size)));have D:=Za (vS (show dT s.d=none by rw[dT,hn];rfl));have av:=Za ah;clear x0 x1 x2 x3 x4 x5 x6 x7 x8 x9 x10 x11 x12 x13 x14 x15 x16 x17 x18 x19 x20 x21 x22 x23 x24 x25 x26;clear hn G ah;refine aC ?_;go_upto_region 4 with(fail);have hz:(er==0)=false:=by simpa using av.o
      have B:=Za (Zd (J.o.1.next (Below.drew (Zc _ _))) (J.o.2.trans (Below.drew (Zc _ _) |>.mono J.o.2.size)));refine wp_region_held_drew (S:=fun w'=>w'.cell? ⟨w.heap.size,0,none⟩=some (.int .i64 s.f)/\w'.cell? ⟨w.heap.size,4,none⟩=some (.int .i64 s.h.kind)/\w'.cell? ⟨w.heap.size,5,none⟩=some (.int .i64 s.h.rate)/\w'.cell? ⟨w.heap.size,6,none⟩=some (.int .i64 s.h.mu)/\w'.cell? ⟨w.heap.size,7,none⟩=some (.int .i64 s.h.nu)/\w'.cell? ⟨w.heap.size,8,none⟩=some (.int .i64 s.h.eps)/\w'.cell? ⟨w.heap.size,9,none⟩=some (.int .i64 s.h.decay)/\w'.cell? ⟨w.heap.size,10,none⟩=some (.int .i64 s.h.clip)/\w'.cell? ⟨w.heap.size,11,none⟩=some (.int .i64 s.h.sched)/\w'.cell? ⟨w.heap.size,12,none⟩=some (.int .i64 s.h.every)/\w'.cell? ⟨w.heap.size,13,none⟩=some (.slice o3 s.ps.length c3)/\w'.cell? ⟨w.heap.size,14,none⟩=some (.slice o4 s.m.m.length c4)/\w'.cell? ⟨w.heap.size,15,none⟩=some (.slice o5 s.m.v.length c5)/\w'.cell? ⟨w.heap.size,16,none⟩=some (.int .i64 s.m.powMu)/\w'.cell? ⟨w.heap.size,17,none⟩=some (.int .i64 s.m.powNu)/\w'.cell? ⟨w.heap.size,18,none⟩=some (.int .i64 s.m.steps)/\w'.cell? ⟨w.heap.size,24,none⟩=some (.slice o7 s.c.order.length c7)/\w'.cell? ⟨w.heap.size,25,none⟩=some (.int .i64 s.c.at_)/\w'.cell? ⟨w.heap.size,26,none⟩=some (.int .i64 s.c.epoch)) (by kernel_rfl) ?_ (fun Z=>?_)
      ·exact⟨B.o.1.cell 0 rfl,B.o.1.cell 4 rfl,B.o.1.cell 5 rfl,B.o.1.cell 6 rfl,B.o.1.cell 7 rfl,B.o.1.cell 8 rfl,B.o.1.cell 9 rfl,B.o.1.cell 10 rfl,B.o.1.cell 11 rfl,B.o.1.cell 12 rfl,B.o.1.cell 13 rfl,B.o.1.cell 14 rfl,B.o.1.cell 15 rfl,B.o.1.cell 16 rfl,B.o.1.cell 17 rfl,B.o.1.cell 18 rfl,B.o.1.cell 24 rfl,B.o.1.cell 25 rfl,B.o.1.cell 26 rfl⟩
      refine tq 0 ?_;refine tq 1 ?_;refine tq 2 ?_;refine sq 3 ?_;refine sq 4 ?_;refine sq 5 ?_;refine sq 6 ?_;refine sq 7 ?_;refine tq 8 ?_;refine tq 9 ?_;refine sq 10 ?_;refine sq 11 ?_;refine sq 12 ?_;refine sq 13 ?_;refine sq 14 ?_;refine sq 15 ?_;refine sq 16 ?_;refine sq 17 ?_;refine sq 18 ?_;refine tq 19 ?_;refine tq 20 ?_;refine sq 21 ?_;refine sq 22 ?_;refine sq 23 ?_;refine sq 24 ?_;refine sq 25 ?_;refine sq 26 ?_;refine sq 27 ?_;refine tq 28 ?_;refine tq 29 ?_;refine wpAnyH_done (by kernel_rfl) ?_ _;go_wp2_with fail;go_ret;exact⟨aG (by rw[I.o];exact(D.o).symm),B.o.2⟩
     ·have J:=Za (Zd (H.o.1.next G) (H.o.2.trans (G.mono H.o.2.size)));obtain⟨oi,ci,rfl⟩:=aJ ho;obtain⟨oq,cq,rfl⟩:=aJ hq.row;have HQ:=Za hq;have aw:=Za (show(qs.map (·.sh)).all bA=true by rw[<-Y];exact VG hn);have ax:=Za ai;have HG:=Za (CA (show dT s.d=some (qs.map (·.sh)) by rw[dT,hn,<-Y];rfl));clear x0 x1 x2 x3 x4 x5 x6 x7 x8 x9 x10 x11 x12 x13 x14 x15 x16 x17 x18 x19 x20 x21 x22 x23 x24 x25 x26;clear hn G ho hq Y ai;refine aC ?_;go_upto_region 4 with(fail);have aa:=Za (show Below w5.heap.size w5 w5.drew from Below.drew (Zc _ _));have B:=Za (Zd (J.o.1.next aa.o) (J.o.2.trans (aa.o.mono J.o.2.size)));refine wp_region_held_drew (S:=fun w'=>w'.cell? ⟨w.heap.size,0,none⟩=some (.int .i64 s.f)/\w'.cell? ⟨w.heap.size,4,none⟩=some (.int .i64 s.h.kind)/\w'.cell? ⟨w.heap.size,5,none⟩=some (.int .i64 s.h.rate)/\w'.cell? ⟨w.heap.size,6,none⟩=some (.int .i64 s.h.mu)/\w'.cell? ⟨w.heap.size,7,none⟩=some (.int .i64 s.h.nu)/\w'.cell? ⟨w.heap.size,8,none⟩=some (.int .i64 s.h.eps)/\w'.cell? ⟨w.heap.size,9,none⟩=some (.int .i64 s.h.decay)/\w'.cell? ⟨w.heap.size,10,none⟩=some (.int .i64 s.h.clip)/\w'.cell? ⟨w.heap.size,11,none⟩=some (.int .i64 s.h.sched)/\w'.cell? ⟨w.heap.size,12,none⟩=some (.int .i64 s.h.every)/\w'.cell? ⟨w.heap.size,13,none⟩=some (.slice o3 s.ps.length c3)/\w'.cell? ⟨w.heap.size,14,none⟩=some (.slice o4 s.m.m.length c4)/\w'.cell? ⟨w.heap.size,15,none⟩=some (.slice o5 s.m.v.length c5)/\w'.cell? ⟨w.heap.size,16,none⟩=some (.int .i64 s.m.powMu)/\w'.cell? ⟨w.heap.size,17,none⟩=some (.int .i64 s.m.powNu)/\w'.cell? ⟨w.heap.size,18,none⟩=some (.int .i64 s.m.steps)/\w'.cell? ⟨w.heap.size,24,none⟩=some (.slice o7 s.c.order.length c7)/\w'.cell? ⟨w.heap.size,25,none⟩=some (.int .i64 s.c.at_)/\w'.cell? ⟨w.heap.size,26,none⟩=some (.int .i64 s.c.epoch)) (by kernel_rfl) ?_ (fun Z=>?_)
      ·exact⟨B.o.1.cell 0 rfl,B.o.1.cell 4 rfl,B.o.1.cell 5 rfl,B.o.1.cell 6 rfl,B.o.1.cell 7 rfl,B.o.1.cell 8 rfl,B.o.1.cell 9 rfl,B.o.1.cell 10 rfl,B.o.1.cell 11 rfl,B.o.1.cell 12 rfl,B.o.1.cell 13 rfl,B.o.1.cell 14 rfl,B.o.1.cell 15 rfl,B.o.1.cell 16 rfl,B.o.1.cell 17 rfl,B.o.1.cell 18 rfl,B.o.1.cell 24 rfl,B.o.1.cell 25 rfl,B.o.1.cell 26 rfl⟩
      refine tq 0 ?_;refine tq 1 ?_;refine tq 2 ?_;refine tq 3 ?_;refine tq 4 ?_;refine tq 5 ?_;refine wpAnyH_ready (rs:=[6]) (by kernel_rfl) (by simp) ?_;refine AllReadyH.cons rfl (fun K L=>?_) AllReadyH.nil
      go_simp
      go_at_call 59
      refine(RK _ _ _ qs _ (HQ.o.below aa.o) aw.o ax.o).mono ?_;rintro e w7 ⟨u7,rfl,aj,ab⟩;have F:=Za (Zd (B.o.1.next ab) (B.o.2.trans (ab.mono B.o.2.size)));have ak:=Za aj;clear aj ab;obtain⟨o9,c9,ay⟩:∃o9 c9,u7=.slice o9 qs.length c9:=by obtain⟨a,b,h⟩:=ak.o.slice;exact⟨a,b,by rw[h,List.length_map]⟩
      subst ay;refine L.out _ _ ⟨F.o.1.cell 0 rfl,F.o.1.cell 4 rfl,F.o.1.cell 5 rfl,F.o.1.cell 6 rfl,F.o.1.cell 7 rfl,F.o.1.cell 8 rfl,F.o.1.cell 9 rfl,F.o.1.cell 10 rfl,F.o.1.cell 11 rfl,F.o.1.cell 12 rfl,F.o.1.cell 13 rfl,F.o.1.cell 14 rfl,F.o.1.cell 15 rfl,F.o.1.cell 16 rfl,F.o.1.cell 17 rfl,F.o.1.cell 18 rfl,F.o.1.cell 24 rfl,F.o.1.cell 25 rfl,F.o.1.cell 26 rfl⟩ (fun ap=>?_);clear L K
      (try simp only[Act.put,Zk,Zi,Zj,Zf,Zg,Zh])
      refine wpAnyH_ready (rs:=[7]) (by kernel_rfl) (by simp) ?_;refine AllReadyH.cons rfl (fun K L=>?_) AllReadyH.nil
      go_simp
      go_at_call 58
      refine(tR _ _ s.ps _ _ (M.o.below F.o.2 (Zb _)).ps ak.o M.o.lps).mono ?_;rintro e w8 ⟨rfl,ac⟩;have A:=Za (Zd (F.o.1.next ac) (F.o.2.trans (ac.mono F.o.2.size)));clear ac;cases pl:gJ s.ps (qs.map fun q=>nI q.sh)with
      |false=>
       have az:=Za pl;have D:=Za (show cX s=false by
        rw[HG.o];rw[gJ,ES]at pl;cases h1:s.ps.all cK
        ·simp
        ·rw[h1,Bool.true_and]at pl;rw[pl];simp)
       clear pl;refine L.out _ _ ⟨A.o.1.cell 0 rfl,A.o.1.cell 4 rfl,A.o.1.cell 5 rfl,A.o.1.cell 6 rfl,A.o.1.cell 7 rfl,A.o.1.cell 8 rfl,A.o.1.cell 9 rfl,A.o.1.cell 10 rfl,A.o.1.cell 11 rfl,A.o.1.cell 12 rfl,A.o.1.cell 13 rfl,A.o.1.cell 14 rfl,A.o.1.cell 15 rfl,A.o.1.cell 16 rfl,A.o.1.cell 17 rfl,A.o.1.cell 18 rfl,A.o.1.cell 24 rfl,A.o.1.cell 25 rfl,A.o.1.cell 26 rfl⟩ (fun V=>?_);clear L K
       (try simp only[Act.put,Zk,Zi,Zj,Zf,Zg,Zh])
       refine tq 8 ?_;refine tq 9 ?_;refine sq 10 ?_;refine sq 11 ?_;refine sq 12 ?_;refine sq 13 ?_;refine sq 14 ?_;refine sq 15 ?_;refine sq 16 ?_;refine sq 17 ?_;refine sq 18 ?_;refine tq 19 ?_;refine tq 20 ?_;refine sq 21 ?_;refine sq 22 ?_;refine sq 23 ?_;refine sq 24 ?_;refine sq 25 ?_;refine sq 26 ?_;refine sq 27 ?_;refine tq 28 ?_;refine tq 29 ?_;refine wpAnyH_done (by kernel_rfl) ?_ _;go_wp2_with fail;go_ret;exact⟨aG (by rw[I.o];exact(D.o).symm),A.o.2⟩
      |true=>
       have az:=Za pl;have al:=Za (show s.ps.all cK=true/\decide (bK s.ps=qs.map (·.sh))=true by
        rw[gJ,ES,Bool.and_eq_true]at pl;exact pl)
       clear pl;refine L.out _ _ ⟨A.o.1.cell 0 rfl,A.o.1.cell 4 rfl,A.o.1.cell 5 rfl,A.o.1.cell 6 rfl,A.o.1.cell 7 rfl,A.o.1.cell 8 rfl,A.o.1.cell 9 rfl,A.o.1.cell 10 rfl,A.o.1.cell 11 rfl,A.o.1.cell 12 rfl,A.o.1.cell 13 rfl,A.o.1.cell 14 rfl,A.o.1.cell 15 rfl,A.o.1.cell 16 rfl,A.o.1.cell 17 rfl,A.o.1.cell 18 rfl,A.o.1.cell 24 rfl,A.o.1.cell 25 rfl,A.o.1.cell 26 rfl⟩ (fun V=>?_);clear L K
       (try simp only[Act.put,Zk,Zi,Zj,Zf,Zg,Zh])
       refine tq 8 ?_;refine tq 9 ?_;refine tq 10 ?_;refine tq 11 ?_;refine tq 12 ?_;refine tq 13 ?_;refine tq 14 ?_;refine tq 15 ?_;refine tq 16 ?_;refine tq 17 ?_;refine wpAnyH_ready (rs:=[18]) (by kernel_rfl) (by simp) ?_;refine AllReadyH.cons rfl (fun K L=>?_) AllReadyH.nil
       go_simp
       go_at_call 60
       refine(RR s.h s.m s.ps s.f _ _ _ _ (nB Dp0.o) (M.o.below A.o.2 (Zb _)).m (M.o.below A.o.2 (Zb _)).v (M.o.below A.o.2 (Zb _)).ps M.o.lm M.o.lv).mono ?_;rintro e w9 ⟨rfl,ad⟩;have C:=Za (Zd (A.o.1.next ad) (A.o.2.trans (ad.mono A.o.2.size)));clear ad;cases pm:dZ s.h s.m s.ps s.f with
       |false=>
        have ao:=Za pm;have D:=Za (show cX s=false by rw[HG.o,pm];simp);clear pm;refine L.out _ _ ⟨C.o.1.cell 0 rfl,C.o.1.cell 4 rfl,C.o.1.cell 5 rfl,C.o.1.cell 6 rfl,C.o.1.cell 7 rfl,C.o.1.cell 8 rfl,C.o.1.cell 9 rfl,C.o.1.cell 10 rfl,C.o.1.cell 11 rfl,C.o.1.cell 12 rfl,C.o.1.cell 13 rfl,C.o.1.cell 14 rfl,C.o.1.cell 15 rfl,C.o.1.cell 16 rfl,C.o.1.cell 17 rfl,C.o.1.cell 18 rfl,C.o.1.cell 24 rfl,C.o.1.cell 25 rfl,C.o.1.cell 26 rfl⟩ (fun X=>?_);clear L K
        (try simp only[Act.put,Zk,Zi,Zj,Zf,Zg,Zh])
        refine tq 19 ?_;refine tq 20 ?_;refine sq 21 ?_;refine sq 22 ?_;refine sq 23 ?_;refine sq 24 ?_;refine sq 25 ?_;refine sq 26 ?_;refine sq 27 ?_;refine tq 28 ?_;refine tq 29 ?_;refine wpAnyH_done (by kernel_rfl) ?_ _;go_wp2_with fail;go_ret;exact⟨aG (by rw[I.o];exact(D.o).symm),C.o.2⟩
       |true=>
        have ao:=Za pm;clear pm;refine L.out _ _ ⟨C.o.1.cell 0 rfl,C.o.1.cell 4 rfl,C.o.1.cell 5 rfl,C.o.1.cell 6 rfl,C.o.1.cell 7 rfl,C.o.1.cell 8 rfl,C.o.1.cell 9 rfl,C.o.1.cell 10 rfl,C.o.1.cell 11 rfl,C.o.1.cell 12 rfl,C.o.1.cell 13 rfl,C.o.1.cell 14 rfl,C.o.1.cell 15 rfl,C.o.1.cell 16 rfl,C.o.1.cell 17 rfl,C.o.1.cell 18 rfl,C.o.1.cell 24 rfl,C.o.1.cell 25 rfl,C.o.1.cell 26 rfl⟩ (fun X=>?_);clear L K
        (try simp only[Act.put,Zk,Zi,Zj,Zf,Zg,Zh])
        refine tq 19 ?_;refine tq 20 ?_;refine tq 21 ?_;refine tq 22 ?_;refine tq 23 ?_;refine tq 24 ?_;refine tq 25 ?_;refine tq 26 ?_;refine wpAnyH_ready (rs:=[27]) (by kernel_rfl) (by simp) ?_;refine AllReadyH.cons rfl (fun K L=>?_) AllReadyH.nil
        go_simp
        go_at_call 61
        refine(SL _ s.c.order s.c.at_ s.c.epoch s.c.order.length _ (M.o.below C.o.2 (Zb _)).c M.o.lc M.o.lc).mono ?_;rintro e w10 ⟨rfl,T⟩;have E:=Za (Zd (C.o.1.next T) (C.o.2.trans (T.mono C.o.2.size)));clear T;refine L.out _ _ ⟨E.o.1.cell 0 rfl,E.o.1.cell 4 rfl,E.o.1.cell 5 rfl,E.o.1.cell 6 rfl,E.o.1.cell 7 rfl,E.o.1.cell 8 rfl,E.o.1.cell 9 rfl,E.o.1.cell 10 rfl,E.o.1.cell 11 rfl,E.o.1.cell 12 rfl,E.o.1.cell 13 rfl,E.o.1.cell 14 rfl,E.o.1.cell 15 rfl,E.o.1.cell 16 rfl,E.o.1.cell 17 rfl,E.o.1.cell 18 rfl,E.o.1.cell 24 rfl,E.o.1.cell 25 rfl,E.o.1.cell 26 rfl⟩ (fun aq=>?_);clear L K
        (try simp only[Act.put,Zk,Zi,Zj,Zf,Zg,Zh])
        refine tq 28 ?_;refine tq 29 ?_;refine wpAnyH_done (by kernel_rfl) ?_ _;go_wp2_with fail;go_ret;exact⟨aG (by rw[I.o];rw[HG.o,Dp0.o,Dp2.o,al.o.1,al.o.2,ao.o,Dp3.o];simp only[Bool.true_and]),E.o.2⟩
