/-
  DiskExact's does: one call on both disks.
-/
import Derived.Test.YtejmbhckfdfoeaaEM17
import Derived.Test.YtejmbhckfdfoeaaEM09
import Derived.Test.YtejmbhckfdfoeaaEM10
set_option linter.unusedVariables false
set_option linter.unusedSimpArgs false
namespace Go.Proofs.Ytejmbhckfdfoeaa
open Go.RowKit Go.Maps
/-- within does: the box of the call, both disks -/
structure DoAt (w0 : World) (scs : Array Value) (B p r k ab : Nat) (acs : Array Value) (W : World) : Prop where
  t : Two w0 scs B p r k W
  a : Box W ab 37 acs
theorem DoAt.next {w0 : World} {scs : Array Value} {B p r k ab : Nat} {acs : Array Value} {W W' : World} (h : DoAt w0 scs B p r k ab acs W) (hb : Below W.heap.size W W') : DoAt w0 scs B p r k ab acs W' := ⟨h.t.next hb, h.a.next hb⟩
structure AhAt (st : DSt → Int × DSt → Prop) (w0 : World) (scs : Array Value) (B p r k : Nat) (v : Int) (ab : Nat) (acs : Array Value) (W : World) : Prop where
  t : Ahead st w0 scs B p r k v W
  a : Box W ab 37 acs
set_option maxRecDepth 100000 in
set_option maxHeartbeats 8000000 in
theorem does_any {w0 : World} {scs : Array Value} {B p r k : Nat} {W : World} (h : Two w0 scs B p r k W) (hk : k < 900) (act : Int) (an bn : List UInt8) (od op : Option Addr) (cd cp : Nat) (da pk : List Int)
    (hrd : Rd w0 .u8 (.slice od da.length cd) da) (hdl : da.length ≤ 3000) (hrp : Rd w0 .i64 (.slice op pk.length cp) pk) (hpl : pk.length ≤ 3000) (hpc : pk.length ≤ cp ∧ cp ≤ 9223372036854775807) (hal : an.length ≤ maxLen) (hbl : bn.length ≤ maxLen) :
    Calls Try.prog 28 #[.pointer (some ⟨p, 0, none⟩), .pointer (some ⟨r, 0, none⟩), .agg #[.int .i64 act, .string ⟨an.toArray⟩, .string ⟨bn.toArray⟩, .slice od da.length cd, .slice op pk.length cp]] W fun e w' => e = .returned (.bool true) ∧ Two w0 scs B p r (k + 1) w' := by
  have HT := Lib.hid h
  have HRD := Lib.hid hrd
  have HRP := Lib.hid hrp
  have HPC := Lib.hid hpc
  have HAL := Lib.hid hal
  have HBL := Lib.hid hbl
  obtain ⟨W1, hW1⟩ : ∃ W1, W1 = (W.alloc (.cells #[.int .i64 act, .string ⟨an.toArray⟩, .string ⟨bn.toArray⟩, .slice od da.length cd, .slice op pk.length cp] 37)) := ⟨_, rfl⟩
  have hbx : Box W1 W.heap.size 37 #[.int .i64 act, .string ⟨an.toArray⟩, .string ⟨bn.toArray⟩, .slice od da.length cd, .slice op pk.length cp] := by rw [hW1]; exact Box.new _ _ _
  have hb1 : Below W.heap.size W W1 := by rw [hW1]; exact (Below.refl _ _).alloc (Nat.le_refl _) _
  have HM := Lib.hid (show DoAt w0 scs B p r k W.heap.size #[.int .i64 act, .string ⟨an.toArray⟩, .string ⟨bn.toArray⟩, .slice od da.length cd, .slice op pk.length cp] W1 from ⟨h.next hb1, hbx⟩)
  have a0 := hbx.cell 0 rfl
  rw [hW1] at a0
  have HW1 := Lib.hid hW1
  clear h hrd hrp hpc hal hbl hW1 hbx hb1
  go_enter Try.func28, Try.ntmps28
  go_wp2_with fail
  rw [← HW1.out] at a0 ⊢
  refine (within_any act 8 ⟨by omega, by omega⟩ _).mono ?_
  rintro e w' ⟨rfl, rfl⟩
  obtain ⟨n, hn⟩ : ∃ n, n = withinI act 8 := ⟨_, rfl⟩
  have hn8 : 0 ≤ n ∧ n < 8 := by rw [hn]; exact withinI_in act 8 (by omega)
  rw [← hn]
  clear hn HW1 a0
  have hcs : n = 0 ∨ n = 1 ∨ n = 2 ∨ n = 3 ∨ n = 4 ∨ n = 5 ∨ n = 6 ∨ n = 7 := by omega
  have a1 := HM.out.a.cell 1 rfl
  have a2 := HM.out.a.cell 2 rfl
  have a3 := HM.out.a.cell 3 rfl
  have a4 := HM.out.a.cell 4 rfl
  rcases hcs with rfl | rfl | rfl | rfl | rfl | rfl | rfl | rfl
  · --<A
    clear hn8 a2 a4
    have HX := Lib.hid (HM.out.next (W' := W1.drew) (Below.drew (Below.refl _ _)))
    go_wp2_with fail
    go_region_held3 (fun w' => w'.cell? ⟨W.heap.size, 1, none⟩ = some (.string ⟨an.toArray⟩) ∧ w'.cell? ⟨W.heap.size, 3, none⟩ = some (.slice od da.length cd)) (exact ⟨HX.out.a.cell 1 rfl, HX.out.a.cell 3 rfl⟩)
      (first
      | (go_at_call 14; refine (copyBytes_any _ da _ (HRD.out.below HX.out.t.b (Nat.le_refl _)) (by omega)).mono ?_; rintro e wx ⟨vx, rfl, hox, hbx⟩; obtain ⟨ax, kx, rfl⟩ := own_slice hox; have HBY := Lib.hid (BytesRep.own hox (by omega)); have HX := Lib.hid (HX.out.next hbx); clear hox hbx)
      | (go_at_call 13; refine (write_two HX.out.t hk an HAL.out _ da (HBY.out.mono (Nat.zero_le _))).mono ?_; rintro e wz ⟨v, rfl, hlz, hsz⟩; have HX := Lib.hid (AhAt.mk hlz (HX.out.a.step hsz rfl)); clear hlz hsz)
      | (go_at_call 10; refine (num32_any _ _).mono ?_; rintro e w' ⟨rfl, rfl⟩)
      | (go_at_call 48; refine (rwrite_two an HAL.out _ da HRD.out (by omega) HX.out.t hk).mono ?_; rintro e wy ⟨rfl, hly, hsy⟩; have HX := Lib.hid (DoAt.mk hly (hsy.keep _ _ HX.out.a rfl)); clear hly hsy))
    clear HM
    go_wp2_with fail
    go_ret
    exact ⟨rfl, HX.out.t⟩
    --A>
  · --<B
    clear hn8 a2 a3 a4
    have HX := Lib.hid (HM.out.next (W' := W1.drew) (Below.drew (Below.refl _ _)))
    go_wp2_with fail
    go_region_held3 (fun w' => w'.cell? ⟨W.heap.size, 1, none⟩ = some (.string ⟨an.toArray⟩)) (exact HX.out.a.cell 1 rfl)
      (first
      | (go_at_call 22; refine (sync_two HX.out.t hk an HAL.out).mono ?_; rintro e wz ⟨v, rfl, hlz, hsz⟩; have HX := Lib.hid (AhAt.mk hlz (HX.out.a.step hsz rfl)); clear hlz hsz)
      | (go_at_call 10; refine (num32_any _ _).mono ?_; rintro e w' ⟨rfl, rfl⟩)
      | (go_at_call 49; refine (rsync_two an HAL.out HX.out.t hk).mono ?_; rintro e wy ⟨rfl, hly, hsy⟩; have HX := Lib.hid (DoAt.mk hly (hsy.keep _ _ HX.out.a rfl)); clear hly hsy))
    clear HM
    go_wp2_with fail
    go_ret
    exact ⟨rfl, HX.out.t⟩
    --B>
  · --<C
    clear hn8 a3 a4
    have HX := Lib.hid (HM.out.next (W' := W1.drew) (Below.drew (Below.refl _ _)))
    go_wp2_with fail
    go_region_held3 (fun w' => w'.cell? ⟨W.heap.size, 1, none⟩ = some (.string ⟨an.toArray⟩) ∧ w'.cell? ⟨W.heap.size, 2, none⟩ = some (.string ⟨bn.toArray⟩)) (exact ⟨HX.out.a.cell 1 rfl, HX.out.a.cell 2 rfl⟩)
      (first
      | (go_at_call 17; refine (rename_two HX.out.t hk an bn HAL.out HBL.out).mono ?_; rintro e wz ⟨v, rfl, hlz, hsz⟩; have HX := Lib.hid (AhAt.mk hlz (HX.out.a.step hsz rfl)); clear hlz hsz)
      | (go_at_call 10; refine (num32_any _ _).mono ?_; rintro e w' ⟨rfl, rfl⟩)
      | (go_at_call 50; refine (rrename_two an bn HAL.out HBL.out HX.out.t hk).mono ?_; rintro e wy ⟨rfl, hly, hsy⟩; have HX := Lib.hid (DoAt.mk hly (hsy.keep _ _ HX.out.a rfl)); clear hly hsy))
    clear HM
    go_wp2_with fail
    go_ret
    exact ⟨rfl, HX.out.t⟩
    --C>
  · --<D
    clear hn8 a2 a3 a4
    have HX := Lib.hid (HM.out.next (W' := W1.drew) (Below.drew (Below.refl _ _)))
    go_wp2_with fail
    go_region_held3 (fun w' => w'.cell? ⟨W.heap.size, 1, none⟩ = some (.string ⟨an.toArray⟩)) (exact HX.out.a.cell 1 rfl)
      (first
      | (go_at_call 20; refine (remove_two HX.out.t hk an HAL.out).mono ?_; rintro e wz ⟨v, rfl, hlz, hsz⟩; have HX := Lib.hid (AhAt.mk hlz (HX.out.a.step hsz rfl)); clear hlz hsz)
      | (go_at_call 10; refine (num32_any _ _).mono ?_; rintro e w' ⟨rfl, rfl⟩)
      | (go_at_call 51; refine (rremove_two an HAL.out HX.out.t hk).mono ?_; rintro e wy ⟨rfl, hly, hsy⟩; have HX := Lib.hid (DoAt.mk hly (hsy.keep _ _ HX.out.a rfl)); clear hly hsy))
    clear HM
    go_wp2_with fail
    go_ret
    exact ⟨rfl, HX.out.t⟩
    --D>
  · --<E
    clear hn8 a1 a2 a3 a4
    go_wp2_with fail
    refine (dir_two HM.out.t hk).mono ?_
    rintro e wz ⟨v, rfl, hlz, hsz⟩
    have HX := Lib.hid hlz
    clear hlz hsz
    go_wp2_with (go_at_call 10; refine (num32_any _ _).mono ?_; rintro e w' ⟨rfl, rfl⟩)
    refine (rdir_two HX.out hk).mono ?_
    rintro e wy ⟨rfl, hly, hsy⟩
    have HX := Lib.hid hly
    clear hly hsy HM
    go_wp2_with fail
    go_ret
    exact ⟨rfl, HX.out⟩
    --E>
  · --<F
    clear hn8 a2 a3 a4
    obtain ⟨φ, s, t, bs, bf, cv, vs, vl, vr, h2⟩ := HM.out.t.two
    have H2 := Lib.hid h2
    clear h2
    go_wp2_with fail
    refine (read_any an H2.out.d HAL.out).mono ?_
    rintro e w2 ⟨⟨v2, rfl, hbo⟩, hb2⟩
    have HC := Lib.hid (corr_read H2.out.c H2.out.i an)
    obtain ⟨xs, hxs⟩ : ∃ xs, xs = (readR s an).1 := ⟨_, rfl⟩
    obtain ⟨m, hm⟩ : ∃ m, m = (readR s an).2 := ⟨_, rfl⟩
    rw [← hxs] at hbo
    rw [← hm]
    obtain ⟨o2, k2, rfl⟩ := own_slice hbo.own
    have hl2 := hbo.len
    have HO2 := Lib.hid hbo.own
    have HB2 := Lib.hid hb2
    have a1 := (HM.out.next hb2).a.cell 1 rfl
    have HXS := Lib.hid hxs
    have HMM := Lib.hid hm
    clear hbo hb2 hxs hm
    go_wp2_with fail
    refine (rread_any (H2.out.next HB2.out).r H2.out.v an HAL.out).mono ?_
    rintro e w3 ⟨⟨v3, rfl, hr3⟩, hb3⟩
    rw [HC.out, ← HXS.out] at hr3
    rw [HC.out, ← HMM.out]
    obtain ⟨o3, k3, rfl⟩ := rd_slice hr3
    have HR3 := Lib.hid hr3
    have HO3 := Lib.hid (own_below HO2.out hb3 (Nat.le_refl _))
    have HB3 := Lib.hid (HB2.out.trans (hb3.mono HB2.out.size))
    clear hr3 hb3 a1
    go_wp2_with (go_at_call 10; refine (num32_any _ _).mono ?_; rintro e w' ⟨rfl, rfl⟩)
    refine (eqBytes_any _ _ xs xs _ (Rd.of_own HO3.out) HR3.out (by omega)).mono ?_
    rintro e w4 ⟨rfl, hs4⟩
    rw [show decide (xs = xs) = true from decide_eq_true rfl]
    have HO4 := Lib.hid (own_below HO3.out (hs4.below _) (Nat.le_refl _))
    have HB4 := Lib.hid (HB3.out.trans (hs4.below _))
    clear hs4
    go_wp2_with fail
    refine (spoilBytes_any _ xs W1.heap.size _ HO4.out HB4.out.size (by omega)).mono ?_
    rintro e w5 ⟨rfl, hg5⟩
    have HB5 := Lib.hid (HB4.out.trans ((Below.refl _ _).grown hg5 HB4.out.size (fun k e => (World.ownsRow.lt HO4.out k e).1)))
    clear hg5
    go_wp2_with fail
    go_ret
    exact ⟨rfl, (HM.out.t.next HB5.out).more (Nat.le_succ _)⟩
    --F>
  · --<G
    clear hn8 a1 a2 a3 a4
    obtain ⟨φ, s, t, bs, bf, cv, vs, vl, vr, h2⟩ := HM.out.t.two
    have hsm : s.seen.length ≤ 16 := h2.many
    have H2 := Lib.hid h2
    clear h2
    go_wp2_with fail
    refine (callsIn_wide.1 (list_all H2.out.d)).mono ?_
    rintro e w2 ⟨⟨v2, ps2, rfl, hfo, hps⟩, hb2⟩
    have HCE := Lib.hid (corr_listE H2.out.c)
    have HCF := Lib.hid (corr_listF H2.out.c H2.out.i)
    have hxl0 : (listFs s).length ≤ 16 := by unfold listFs; cases s.dead <;> simp <;> omega
    obtain ⟨m, hm⟩ : ∃ m, m = listErr s := ⟨_, rfl⟩
    rw [← hm]
    have hpl2 : ps2.length ≤ 16 := by rw [← hps, List.length_map] at hxl0; exact hxl0
    obtain ⟨o2, k2, rfl⟩ := own_slice hfo.row
    have HF2 := Lib.hid hfo
    have HP2 := Lib.hid hps
    have HB2 := Lib.hid hb2
    have HMM := Lib.hid hm
    clear hfo hb2 hm hps hxl0 hsm
    go_wp2_with fail
    refine (rlist_all (H2.out.next HB2.out).r H2.out.v).mono ?_
    rintro e w3 ⟨⟨v3, ps3, rfl, hfo, hps⟩, hb3⟩
    rw [HCF.out, ← HP2.out] at hps
    rw [HCE.out, ← HMM.out]
    have hR3 := hfo.files
    rw [hps] at hR3
    obtain ⟨o3, k3, rfl⟩ := own_slice hfo.row
    have HR3 := Lib.hid hR3
    have HF3 := Lib.hid (HF2.out.next hb3)
    have HB3 := Lib.hid (HB2.out.trans (hb3.mono HB2.out.size))
    clear hfo hps hb3 hR3
    go_wp2_with (go_at_call 10; refine (num32_any _ _).mono ?_; rintro e w' ⟨rfl, rfl⟩)
    refine (eqFiles_same _ _ (ps2.map (·.1)) _ HF3.out.files HR3.out (by rw [List.length_map]; omega)).mono ?_
    rintro e w4 ⟨rfl, hb4⟩
    have HF4 := Lib.hid (HF3.out.next hb4)
    have HB4 := Lib.hid (HB3.out.trans (hb4.mono HB3.out.size))
    clear hb4
    go_wp2_with fail
    refine (spoilFiles_any _ ps2 W1.heap.size _ HF4.out HB4.out.size (by omega)).mono ?_
    rintro e w5 ⟨rfl, hg5⟩
    have HB5 := Lib.hid (HB4.out.trans (hg5.below HF4.out HB4.out.size))
    clear hg5
    go_wp2_with fail
    go_ret
    exact ⟨rfl, (HM.out.t.next HB5.out).more (Nat.le_succ _)⟩
    --G>
  · --<H
    clear hn8 a1 a2 a3
    obtain ⟨φ, s, t, bs, bf, cv, vs, vl, vr, h2⟩ := HM.out.t.two
    have H2 := Lib.hid h2
    clear h2
    go_wp2_with fail
    refine (crash_two H2.out op cp pk (HRP.out.below HM.out.t.b (Nat.le_refl _)) HPC.out).mono ?_
    rintro e w2 ⟨⟨v2, ps2, rfl, hfo, hps⟩, hb2⟩
    have hxl0 := crash_small H2.out pk
    have hpl2 : ps2.length ≤ 16 := by rw [← hps, List.length_map] at hxl0; exact hxl0
    obtain ⟨o2, k2, rfl⟩ := own_slice hfo.row
    have HF2 := Lib.hid hfo
    have HP2 := Lib.hid hps
    have HB2 := Lib.hid hb2
    have a4 := (HM.out.next hb2).a.cell 4 rfl
    clear hfo hb2 hps hxl0
    go_wp2_with fail
    refine (rcrash_two (H2.out.next HB2.out) op cp pk ((HRP.out.below HM.out.t.b (Nat.le_refl _)).below HB2.out (Nat.le_refl _)) (by omega)).mono ?_
    rintro e w3 ⟨⟨v3, ps3, rfl, hfo, hps⟩, hb3⟩
    rw [← HP2.out] at hps
    have hR3 := hfo.files
    rw [hps] at hR3
    obtain ⟨o3, k3, rfl⟩ := own_slice hfo.row
    have HR3 := Lib.hid hR3
    have HF3 := Lib.hid (HF2.out.next hb3)
    have HB3 := Lib.hid (HB2.out.trans (hb3.mono HB2.out.size))
    clear hfo hps hb3 a4 hR3
    go_wp2_with fail
    refine (eqFiles_same _ _ (ps2.map (·.1)) _ HF3.out.files HR3.out (by rw [List.length_map]; omega)).mono ?_
    rintro e w4 ⟨rfl, hb4⟩
    have HF4 := Lib.hid (HF3.out.next hb4)
    have HB4 := Lib.hid (HB3.out.trans (hb4.mono HB3.out.size))
    clear hb4
    go_wp2_with fail
    refine (spoilFiles_any _ ps2 W1.heap.size _ HF4.out HB4.out.size (by omega)).mono ?_
    rintro e w5 ⟨rfl, hg5⟩
    have HB5 := Lib.hid (HB4.out.trans (hg5.below HF4.out HB4.out.size))
    clear hg5
    go_wp2_with fail
    go_ret
    exact ⟨rfl, (HM.out.t.next HB5.out).more (Nat.le_succ _)⟩
    --H>
end Go.Proofs.Ytejmbhckfdfoeaa
/-
  DiskExact's start: a new disk, its files spoilt behind it, and the reference's.
-/
set_option linter.unusedVariables false
set_option linter.unusedSimpArgs false
namespace Go.Proofs.Ytejmbhckfdfoeaa
open Go.RowKit Go.Maps
theorem filesTo_in {fs : List FileD} : ∀ (n k : Nat), k < n → (fnth fs k).da.length ≤ filesTo fs n
  | 0, k, h => absurd h (Nat.not_lt_zero k)
  | n + 1, k, h => by
    rw [filesTo]
    rcases Nat.lt_or_ge k n with h1 | h1
    · have := filesTo_in (fs := fs) n k h1
      omega
    · have : k = n := by omega
      subst this
      omega
theorem heavy_data {fs : List FileD} {l : List ActD} (h : heavyB fs l = false) : ∀ f ∈ fs, f.da.length ≤ 4194304 := by
  intro f hf
  obtain ⟨k, hk, rfl⟩ := List.mem_iff_getElem.1 hf
  have h1 := heavyB_no h
  have h2 := filesTo_in (fs := fs) fs.length k hk
  rw [show min fs.length 100 = fs.length by omega] at h1
  rw [fnth, List.getD_eq_getElem?_getD, List.getElem?_eq_getElem hk] at h2
  simp only [Option.getD_some] at h2
  omega
theorem BytesRep.high {B : Nat} {w w' : World} {v : Value} {xs : List Int} (h : BytesRep B w v xs) (hk : ∀ k, B ≤ k → k < w.heap.size → w'.heap[k]? = w.heap[k]?) : BytesRep B w' v xs := by
  refine ⟨?_, fun h0 => ?_, h.len, h.cap⟩
  · obtain ⟨o, cap, rfl, hc⟩ := h.rd
    refine ⟨o, cap, rfl, fun j hj => ?_⟩
    obtain ⟨b, off, rfl, hcell⟩ := hc j hj
    obtain ⟨b', off', cs, fz, c, he, hb, hB⟩ := h.home (by omega)
    simp at he
    obtain ⟨⟨rfl, rfl⟩, _⟩ := he
    exact ⟨b, off, rfl, (World.cell?_of_block (w := w) (a := ⟨b, off + j, none⟩) (hk b hB (Array.getElem?_eq_some_iff.1 hb).1)).trans hcell⟩
  · obtain ⟨b, off, cs, fz, c, he, hb, hB⟩ := h.home h0
    exact ⟨b, off, cs, fz, c, he, (hk _ hB (Array.getElem?_eq_some_iff.1 hb).1).trans hb, hB⟩
theorem Box.high {B b : Nat} {w w' : World} {T : TypeId} {cs : Array Value} (h : Box w b T cs) (hb : B ≤ b) (hk : ∀ k, B ≤ k → k < w.heap.size → w'.heap[k]? = w.heap[k]?) : Box w' b T cs := (hk b hb h.lt).trans h
/-- a disk without changes is kept where no block of its own is turned -/
theorem DRepr.high {B : Nat} {w w' : World} {p bs bf : Nat} {s : DSt} (h : DRepr B w p bs bf (.slice none 0 0) [] s) (hc : s.chs = []) (hk : ∀ k, B ≤ k → k < w.heap.size → w'.heap[k]? = w.heap[k]?) : DRepr B w' p bs bf (.slice none 0 0) [] s := by
  refine ⟨h.box.high h.hp hk, h.seen.block (hk _ h.hs h.seen.lt), h.safe.block (hk _ h.hf h.safe.lt), h.ne, ?_, fun i c hi => ?_,
    fun f hf => let ⟨⟨vb, vs', h1, h2, h3⟩, h4⟩ := h.files f hf; ⟨⟨vb, vs', h1.high h4 hk, h2.high hk, h3.high hk⟩, h4⟩, h.in1, h.in2, h.nm1, h.hp, h.hs, h.hf, h.strk, h.offb, h.chl, h.many⟩
  · rw [hc]; exact World.ownsRow_nil _ _ _ _
  · rw [hc] at hi; cases hi
theorem RRepr.monoB {A B : Nat} {w : World} {r : Nat} {vl vr : Value} {t : DSt} (h : RRepr B w r vl vr t) (hA : A ≤ B) : RRepr A w r vl vr t :=
  ⟨h.box, own_mono h.safe hA, own_mono h.row hA, fun f hf => let ⟨va, vb, k1, k2, k3, k4⟩ := h.files f hf; ⟨va, vb, k1, k2.mono hA, k3.mono hA, Nat.le_trans hA k4⟩, Nat.le_trans hA h.hr⟩
theorem exists_phi : ∀ (A C : List Nat), A.length = C.length → A.Nodup → ∃ φ : Nat → Nat, A.map φ = C
  | [], [], _, _ => ⟨id, rfl⟩
  | [], _ :: _, h, _ => by simp at h
  | _ :: _, [], h, _ => by simp at h
  | a :: A, b :: C, hl, hn => by
    obtain ⟨φ, h⟩ := exists_phi A C (by simpa using hl) (List.nodup_cons.1 hn).2
    refine ⟨fun k => if k = a then b else φ k, ?_⟩
    rw [List.map_cons, if_pos rfl]
    congr 1
    rw [← h]
    refine List.map_congr_left fun k hk => ?_
    have hne : ¬ k = a := fun e => (List.nodup_cons.1 hn).1 (by rw [← e]; exact hk)
    rw [if_neg hne]
theorem inj_of_nodup {φ : Nat → Nat} : ∀ {A : List Nat}, (A.map φ).Nodup → ∀ f ∈ A, ∀ g ∈ A, φ f = φ g → f = g
  | [], _, f, hf, _, _, _ => nomatch hf
  | a :: A, hn, f, hf, g, hg, he => by
    rw [List.map_cons, List.nodup_cons] at hn
    obtain ⟨hn1, hn2⟩ := hn
    rcases List.mem_cons.1 hf with hfa | hf
    · rcases List.mem_cons.1 hg with hga | hg
      · rw [hfa, hga]
      · exact absurd (List.mem_map.2 ⟨g, hg, by rw [← he, hfa]⟩) hn1
    · rcases List.mem_cons.1 hg with hga | hg
      · exact absurd (List.mem_map.2 ⟨f, hf, by rw [he, hga]⟩) hn1
      · exact inj_of_nodup hn2 f hf g hg he
theorem pairs_mp {φ : Nat → Nat} : ∀ {l m : NM}, l.map (·.1) = m.map (·.1) → m.map (·.2) = (l.map (·.2)).map φ → m = l.map (mp φ)
  | [], [], _, _ => rfl
  | [], _ :: _, h, _ => by simp at h
  | _ :: _, [], h, _ => by simp at h
  | p :: l, q :: m, h1, h2 => by
    simp only [List.map_cons, List.cons.injEq] at h1 h2
    rw [List.map_cons, pairs_mp (l := l) (m := m) h1.2 h2.2]
    congr 1
    exact Prod.ext h1.1.symm h2.1
/-- only the files that are seen -/
def onlyS (s : DSt) : DSt := { s with ids := s.seen.map (·.2) }
theorem corr_start {s t : DSt} {fs : List FileD} (hs : SeenIs s fs) (ht : SeenIs t fs) (ho : t.off = s.off) : ∃ φ, Corr φ (onlyS s) (onlyS t) := by
  have hlen : (s.seen.map (·.2)).length = (t.seen.map (·.2)).length := by rw [List.length_map, List.length_map, hs.length, ht.length]
  obtain ⟨φ, hφ⟩ := exists_phi _ _ hlen hs.nd
  have hse : t.seen = s.seen.map (mp φ) := pairs_mp (by rw [hs.names, ht.names]) hφ.symm
  have hb0 : s.seen.map (fun q => (q.1, s.by_ q.2)) = s.seen.map (fun q => (q.1, t.by_ (φ q.2))) := by
    rw [hs.seen, ← ht.seen, hse, List.map_map]
    rfl
  have hb : ∀ f ∈ s.seen.map (·.2), t.by_ (φ f) = s.by_ f := fun f hf => by
    obtain ⟨q, hq, rfl⟩ := List.mem_map.1 hf
    have := List.map_inj_left.1 hb0 q hq
    exact (Prod.ext_iff.1 this).2.symm
  refine ⟨φ, ?_, hse, ?_, ?_, ho, ?_, hφ.symm, hb, fun f hf => ?_, inj_of_nodup (show ((s.seen.map (·.2)).map φ).Nodup by rw [hφ]; exact ht.nd)⟩
  · show t.safe = s.safe.map (mp φ)
    rw [hs.safe, ht.safe, hse]
  · show t.chs = s.chs.map (mc φ)
    rw [hs.chs, ht.chs]; rfl
  · show t.strokes = s.strokes
    rw [hs.strokes, ht.strokes]
  · show t.dead = s.dead
    rw [hs.dead, ht.dead]
  · show t.sf (φ f) = s.sf f
    have hf' : f ∈ s.seen.map (·.2) := hf
    have h1 := hb f hf'
    obtain ⟨q, hq, rfl⟩ := List.mem_map.1 hf'
    rw [hs.sf q hq, ← h1]
    exact ht.sf (mp φ q) (by rw [hse]; exact List.mem_map.2 ⟨q, hq, rfl⟩)
theorem SeenIs.good {s : DSt} {fs : List FileD} (hse : SeenIs s fs) (hmay : mayB fs = true) : (∀ q ∈ s.seen, goodNm q.1 = true) ∧ s.seen.length ≤ 16 := by
  rw [mayB, Bool.and_eq_true, decide_eq_true_eq] at hmay
  refine ⟨fun q hq => ?_, by rw [hse.length]; exact hmay.1⟩
  have hm : q.1 ∈ fs.map (·.nm) := by rw [← hse.names]; exact List.mem_map.2 ⟨q, hq, rfl⟩
  obtain ⟨g, hg, he⟩ := List.mem_map.1 hm
  obtain ⟨i, hi, rfl⟩ := List.mem_iff_getElem.1 hg
  have := okTo_at hmay.2 hi
  simp only [okAt, Bool.and_eq_true] at this
  have h1 := this.1
  rw [fnth, List.getD_eq_getElem?_getD, List.getElem?_eq_getElem hi] at h1
  rw [← he]; exact h1
theorem rinv_start {t : DSt} {fs : List FileD} (ht : SeenIs t fs) (hmay : mayB fs = true) (hr : Ris t.seen) (hob : -9223372036854775808 ≤ t.off ∧ t.off ≤ 9223372036854775807) : RInv (onlyS t) := by
  have hg := ht.good hmay
  refine ⟨⟨fun n hn => ?_, fun c hc => ?_, ?_⟩, ?_, ?_, fun _ => ?_, ?_, hob⟩
  · have hn : n ≤ t.chs.length := hn
    rw [ht.chs] at hn
    have hn : n = 0 := Nat.le_zero.1 hn
    subst hn
    show (∀ q ∈ t.safe, q.2 ∈ t.seen.map (·.2) ∧ goodNm q.1 = true) ∧ t.safe.length ≤ 16
    rw [ht.safe]
    exact ⟨fun q hq => ⟨List.mem_map.2 ⟨q, hq, rfl⟩, hg.1 q hq⟩, hg.2⟩
  · have hc : c ∈ t.chs := hc
    rw [ht.chs] at hc
    cases hc
  · show t.chs.length ≤ 1000
    rw [ht.chs]; exact Nat.zero_le _
  · show Ris t.safe
    rw [ht.safe]; exact hr
  · show t.seen = runC t.safe t.chs
    rw [ht.chs, ht.safe]; rfl
  · show t.off < 1 ∨ t.strokes < t.off
    rw [ht.strokes]; omega
  · show 0 ≤ t.strokes ∧ t.strokes < 1000000
    rw [ht.strokes]; omega
theorem inIds_start {s : DSt} {fs : List FileD} (hs : SeenIs s fs) : InIds (onlyS s) := by
  refine ⟨fun q hq => List.mem_map.2 ⟨q, hq, rfl⟩, fun q hq => ?_, fun c hc => ?_⟩
  · have hq : q ∈ s.safe := hq
    rw [hs.safe] at hq
    exact List.mem_map.2 ⟨q, hq, rfl⟩
  · have hc : c ∈ s.chs := hc
    rw [hs.chs] at hc
    cases hc
theorem DRepr.only {B : Nat} {w : World} {p bs bf : Nat} {cv : Value} {vs : List Value} {s : DSt} {fs : List FileD} (h : DRepr B w p bs bf cv vs s) (hs : SeenIs s fs) : DRepr B w p bs bf cv vs (onlyS s) :=
  ⟨h.box, h.seen, h.safe, h.ne, h.row, h.chs, fun f hf => by
    obtain ⟨q, hq, rfl⟩ := List.mem_map.1 (show f ∈ s.seen.map (·.2) from hf)
    exact h.files _ (h.in1 q hq), (inIds_start hs).seen, (inIds_start hs).safe, h.nm1, h.hp, h.hs, h.hf, h.strk, h.offb, h.chl, h.many⟩
theorem RRepr.only {B : Nat} {w : World} {r : Nat} {vl vr : Value} {t : DSt} (h : RRepr B w r vl vr t) (hi : ∀ q ∈ t.seen, q.2 ∈ t.ids) : RRepr B w r vl vr (onlyS t) :=
  ⟨h.box, h.safe, h.row, fun f hf => by
    obtain ⟨q, hq, rfl⟩ := List.mem_map.1 (show f ∈ t.seen.map (·.2) from hf)
    exact h.files _ (hi q hq), h.hr⟩
theorem two_start {B p r bs bf : Nat} {W : World} {s t : DSt} {vl : Value} {fs : List FileD} (hd : DRepr B W p bs bf (.slice none 0 0) [] s) (hr : RRepr B W r vl (.slice none 0 0) t) (hs : SeenIs s fs) (ht : SeenIs t fs) (hmay : mayB fs = true) (ho : t.off = s.off) (hris : Ris t.seen) (hi : ∀ q ∈ t.seen, q.2 ∈ t.ids) :
    ∃ φ, TwoD B p r 0 W φ (onlyS s) (onlyS t) bs bf (.slice none 0 0) [] vl (.slice none 0 0) := by
  obtain ⟨φ, hc⟩ := corr_start hs ht ho
  exact ⟨φ, hd.only hs, hr.only hi, hc, inIds_start hs, rinv_start ht hmay hris (by rw [ho]; exact hd.offb), by show s.strokes ≤ 0; rw [hs.strokes]; omega, by show s.chs.length ≤ 0; rw [hs.chs]; exact Nat.le_refl _⟩
end Go.Proofs.Ytejmbhckfdfoeaa
/-
  DiskSafe: its calls, whatever names they are asked with, keep what is kept.
-/
set_option linter.unusedVariables false
set_option linter.unusedSimpArgs false
namespace Go.Proofs.Ytejmbhckfdfoeaa
open Go.RowKit Go.Maps Go.ChangeShapes Go.WideShapes
/-- between two calls: a disk that keeps the kept file; the box of a call; the script's box -/
structure LawK (w0 : World) (scs : Array Value) (B p ab : Nat) (acs : Array Value) (f k : Nat) (W : World) : Prop where
  d : ∃ s bs bf cv vs, DRepr B W p bs bf cv vs s ∧ Inv s f ∧ Lim s k
  a : Box W ab 37 acs
  s : Box W w0.heap.size 25 scs
  b : Below w0.heap.size w0 W
  hB : w0.heap.size < B
theorem LawK.base {w0 : World} {scs : Array Value} {B p ab f k : Nat} {acs : Array Value} {W : World} (h : LawK w0 scs B p ab acs f k W) : B ≤ W.heap.size := by
  obtain ⟨s, bs, bf, cv, vs, hd, _⟩ := h.d
  exact Nat.le_of_lt hd.baseLt
theorem LawK.next {w0 : World} {scs : Array Value} {B p ab f k : Nat} {acs : Array Value} {W W' : World} (h : LawK w0 scs B p ab acs f k W) (hb : Below W.heap.size W W') : LawK w0 scs B p ab acs f k W' := by
  obtain ⟨s, bs, bf, cv, vs, hd, hi, hl⟩ := h.d
  exact ⟨⟨s, bs, bf, cv, vs, hd.next hb h.base, hi, hl⟩, h.a.next hb, h.s.next hb, h.b.trans (hb.mono h.b.size), h.hB⟩
theorem LawK.more {w0 : World} {scs : Array Value} {B p ab f k m : Nat} {acs : Array Value} {W : World} (h : LawK w0 scs B p ab acs f k W) (hm : k ≤ m) : LawK w0 scs B p ab acs f m W := by
  obtain ⟨s, bs, bf, cv, vs, hd, hi, hl⟩ := h.d
  exact ⟨⟨s, bs, bf, cv, vs, hd, hi, hl.mono hm⟩, h.a, h.s, h.b, h.hB⟩
theorem LawK.step {w0 : World} {scs : Array Value} {B p ab f k m bs' bf' : Nat} {acs : Array Value} {W W' : World} {s' : DSt} {cv' : Value} {vs' : List Value} (h : LawK w0 scs B p ab acs f k W) (hs : Step B W W') (hd : DRepr B W' p bs' bf' cv' vs' s') (hi : Inv s' f) (hl : Lim s' m) : LawK w0 scs B p ab acs f m W' :=
  ⟨⟨s', bs', bf', cv', vs', hd, hi, hl⟩, h.a.step hs rfl, h.s.below hs.below h.hB, h.b.trans (hs.below.mono (Nat.le_of_lt h.hB)), h.hB⟩
theorem Lim.of {s s' : DSt} {k f : Nat} (h : Lim s k) (hi : Inv s' f) (ho : s'.off = s.off) (hd : s'.dead = offB s) (hs : s'.strokes = s.strokes + 1) (hc : s'.chs.length ≤ s.chs.length + 1) : Lim s' (k + 1) :=
  ⟨by rw [hd]; exact offB_zero h.off, by rw [ho]; exact h.off, by have := h.st; rw [hs]; omega, by have := h.ch; omega, hi.now.len⟩
theorem write_law {w0 : World} {scs : Array Value} {B p ab f k : Nat} {acs : Array Value} {W : World} (h : LawK w0 scs B p ab acs f k W) (hk : k < 1000) (x : List UInt8) (hx : x.length ≤ maxLen) (hne : x ≠ keptN) (v : Value) (xs : List Int) (hr : BytesRep 0 W v xs) :
    Calls Try.prog 13 #[.pointer (some ⟨p, 0, none⟩), .string ⟨x.toArray⟩, v] W fun e w' => (∃ r, e = .returned (.int .i64 r)) ∧ LawK w0 scs B p ab acs f (k + 1) w' := by
  obtain ⟨s, bs, bf, cv, vs, hd, hi, hl⟩ := h.d
  have h1 := hl.st
  have h2 := hl.ch
  have h3 := hl.many
  cases hg : goodNm x with
  | false =>
    refine (write_ref x v xs hr hd hx (.inr hg)).mono ?_
    rintro e w' ⟨rfl, hb⟩
    exact ⟨⟨_, rfl⟩, (h.next hb).more (Nat.le_succ _)⟩
  | true =>
    by_cases hfull : lget s.seen x = none ∧ s.seen.length = 16
    · refine (write_full x v xs hd hg hr hl.dead hfull (by omega)).mono ?_
      rintro e w' ⟨rfl, hd', hs'⟩
      exact ⟨⟨_, rfl⟩, h.step hs' hd' hi.stroke hl.stroke⟩
    · refine (write_ok x v xs hd hg hr hl.dead hfull (by omega) (by omega) (by omega)).mono ?_
      rintro e w' ⟨rfl, ⟨g, cv', vs', hd', hge⟩, hs'⟩
      have hi' : Inv (writeS (strokeS s) x g xs) f := hi.write x xs hg hne (fun hm => by have := hd.idLt hm; omega) hfull
      exact ⟨⟨_, rfl⟩, h.step hs' hd' hi' (hl.of hi' rfl rfl rfl (by simp [writeS, chgS, addS, strokeS]))⟩
theorem sync_law {w0 : World} {scs : Array Value} {B p ab f k : Nat} {acs : Array Value} {W : World} (h : LawK w0 scs B p ab acs f k W) (hk : k < 1000) (x : List UInt8) (hx : x.length ≤ maxLen) :
    Calls Try.prog 22 #[.pointer (some ⟨p, 0, none⟩), .string ⟨x.toArray⟩] W fun e w' => (∃ r, e = .returned (.int .i64 r)) ∧ LawK w0 scs B p ab acs f (k + 1) w' := by
  obtain ⟨s, bs, bf, cv, vs, hd, hi, hl⟩ := h.d
  have h1 := hl.st
  cases hg : goodNm x with
  | false =>
    refine (sync_ref x hd hx (.inr hg)).mono ?_
    rintro e w' ⟨rfl, hb⟩
    exact ⟨⟨_, rfl⟩, (h.next hb).more (Nat.le_succ _)⟩
  | true =>
    cases hget : lget s.seen x with
    | none =>
      refine (sync_no x hd hg hl.dead hget (by omega)).mono ?_
      rintro e w' ⟨rfl, hd', hs'⟩
      exact ⟨⟨_, rfl⟩, h.step hs' hd' hi.stroke hl.stroke⟩
    | some g =>
      refine (sync_ok x g hd hg hl.dead hget (by omega)).mono ?_
      rintro e w' ⟨rfl, hd', hs'⟩
      have hi' : Inv (syncS s g) f := hi.sync g
      have ho : offB s = false := offB_zero hl.off
      exact ⟨⟨_, rfl⟩, h.step hs' hd' hi' (hl.of hi' (by rw [syncS, ho]; rfl) (by rw [syncS, ho]; exact ho) (by rw [syncS, ho]; rfl) (by rw [syncS, ho]; exact Nat.le_succ _))⟩
theorem rename_law {w0 : World} {scs : Array Value} {B p ab f k : Nat} {acs : Array Value} {W : World} (h : LawK w0 scs B p ab acs f k W) (hk : k < 1000) (a b : List UInt8) (ha : a.length ≤ maxLen) (hb : b.length ≤ maxLen) (hna : a ≠ keptN) (hnb : b ≠ keptN) :
    Calls Try.prog 17 #[.pointer (some ⟨p, 0, none⟩), .string ⟨a.toArray⟩, .string ⟨b.toArray⟩] W fun e w' => (∃ r, e = .returned (.int .i64 r)) ∧ LawK w0 scs B p ab acs f (k + 1) w' := by
  obtain ⟨s, bs, bf, cv, vs, hd, hi, hl⟩ := h.d
  have h1 := hl.st
  have h2 := hl.ch
  have h3 := hl.many
  cases hg : (goodNm a && goodNm b) with
  | false =>
    refine (rename_ref a b hd ha hb (.inr hg)).mono ?_
    rintro e w' ⟨rfl, hb⟩
    exact ⟨⟨_, rfl⟩, (h.next hb).more (Nat.le_succ _)⟩
  | true =>
    rw [Bool.and_eq_true] at hg
    cases hget : lget s.seen a with
    | none =>
      refine (rename_no a b hd hg.1 hg.2 hl.dead hget (by omega)).mono ?_
      rintro e w' ⟨rfl, hd', hs'⟩
      exact ⟨⟨_, rfl⟩, h.step hs' hd' hi.stroke hl.stroke⟩
    | some g =>
      refine (rename_ok a b g hd hg.1 hg.2 hl.dead hget (by omega) (by omega) (by omega)).mono ?_
      rintro e w' ⟨rfl, ⟨cv', vs', hd'⟩, hs'⟩
      have hi' : Inv (chgS (strokeS s) (.mv a b g)) f := hi.rename a b hg.2 hna hnb hget
      exact ⟨⟨_, rfl⟩, h.step hs' hd' hi' (hl.of hi' rfl rfl rfl (by simp [chgS, strokeS]))⟩
theorem remove_law {w0 : World} {scs : Array Value} {B p ab f k : Nat} {acs : Array Value} {W : World} (h : LawK w0 scs B p ab acs f k W) (hk : k < 1000) (x : List UInt8) (hx : x.length ≤ maxLen) (hne : x ≠ keptN) :
    Calls Try.prog 20 #[.pointer (some ⟨p, 0, none⟩), .string ⟨x.toArray⟩] W fun e w' => (∃ r, e = .returned (.int .i64 r)) ∧ LawK w0 scs B p ab acs f (k + 1) w' := by
  obtain ⟨s, bs, bf, cv, vs, hd, hi, hl⟩ := h.d
  have h1 := hl.st
  have h2 := hl.ch
  cases hg : goodNm x with
  | false =>
    refine (remove_ref x hd hx (.inr hg)).mono ?_
    rintro e w' ⟨rfl, hb⟩
    exact ⟨⟨_, rfl⟩, (h.next hb).more (Nat.le_succ _)⟩
  | true =>
    cases hget : lget s.seen x with
    | none =>
      refine (remove_no x hd hg hl.dead hget (by omega) (by omega)).mono ?_
      rintro e w' ⟨rfl, hd', hs'⟩
      exact ⟨⟨_, rfl⟩, h.step hs' hd' hi.stroke hl.stroke⟩
    | some g =>
      refine (remove_ok x g hd hg hl.dead hget (by omega) (by omega)).mono ?_
      rintro e w' ⟨rfl, ⟨cv', vs', hd'⟩, hs'⟩
      have hi' : Inv (chgS (strokeS s) (.del x)) f := hi.remove x hne
      exact ⟨⟨_, rfl⟩, h.step hs' hd' hi' (hl.of hi' rfl rfl rfl (by simp [chgS, strokeS]))⟩
theorem syncDir_law {w0 : World} {scs : Array Value} {B p ab f k : Nat} {acs : Array Value} {W : World} (h : LawK w0 scs B p ab acs f k W) (hk : k < 1000) :
    Calls Try.prog 23 #[.pointer (some ⟨p, 0, none⟩)] W fun e w' => (∃ r, e = .returned (.int .i64 r)) ∧ LawK w0 scs B p ab acs f (k + 1) w' := by
  obtain ⟨s, bs, bf, cv, vs, hd, hi, hl⟩ := h.d
  have h1 := hl.st
  refine (syncDir_ok hd hl.dead (by omega)).mono ?_
  rintro e w' ⟨rfl, ⟨bf', cv', vs', hd'⟩, hs'⟩
  have hi' : Inv (syncDirS s) f := hi.dir
  have ho : offB s = false := offB_zero hl.off
  exact ⟨⟨_, rfl⟩, h.step hs' hd' hi' (hl.of hi' (by rw [syncDirS, ho]; rfl) (by rw [syncDirS, ho]; exact ho) (by rw [syncDirS, ho]; rfl) (by rw [syncDirS, ho]; exact Nat.zero_le _))⟩
/-- the picks of the calls lie in slices whose length is within their room -/
def ActsCap (w : World) (v : Value) : Prop :=
  ∀ o len cap, v = .slice o len cap → ∀ i, i < len → ∀ b off, o = some ⟨b, off, none⟩ → ∀ op n cp, w.cell? ⟨b, off + i * 5 + 4, none⟩ = some (.slice op n cp) → n ≤ cp ∧ cp ≤ 9223372036854775807
theorem RB.actsCap {H : Type} {enc : TypeId × Value → H} {w : World} {v : Value} (h : RB enc Try.prog w 23 [v]) : ActsCap w v := by
  obtain ⟨o, len, cap, rfl, hr, hel⟩ := h.rows Try.underlying23 (by rw [cellsAct]; omega)
  intro o' len' cap' he i hi b off ho op n cp hc
  cases he
  obtain ⟨b', off', cs, ho', hl, hrb, hcell⟩ := hel i hi
  rw [ho] at ho'
  cases ho'
  rw [cellsAct] at hl hcell
  obtain ⟨_, hf⟩ := hrb.field Try.underlying37
  obtain ⟨v0, v1, v2, v3, v4, rfl⟩ := list5 hl
  have g4 : RB enc Try.prog w 35 (([v0, v1, v2, v3, v4] : List Value).drop 4 |>.take (Try.prog.cellsOf 35)) := hf 4 _ rfl
  rw [cellsSInt] at g4
  have h4 := hcell 4 v4 rfl
  rw [hc] at h4
  cases h4
  obtain ⟨o4, n4, c4, he4, _, hc4, hle, _⟩ := RB.slice (v := .slice op n cp) g4 Try.underlying35
  cases he4
  rw [bytesInt] at hc4
  unfold reachBytes at hc4
  exact ⟨hle, by omega⟩
theorem conv_rd {w : World} {v : Value} {xs : List Int} (h : Rd w .u8 v xs) : ∃ s : ByteArray, (convert 34 9 v).run Try.prog w = .ok (.string s) w ∧ (xs = keptB → s = ⟨#[107, 101, 112, 116]⟩) := by
  by_cases h0 : 0 < xs.length
  · obtain ⟨o, cap, rfl, hc⟩ := h
    obtain ⟨b, off, rfl, _⟩ := hc 0 h0
    refine ⟨strOfNums xs, run_convert_bytes_arg w _ _ Try.underlying34 Try.underlying5 b off xs.length cap xs rfl (fun i hi => ?_) _ Try.underlying9, fun e => ?_⟩
    · obtain ⟨b', off', he, hcell⟩ := hc i hi
      cases he
      exact hcell
    · rw [e]; rfl
  · obtain ⟨o, cap, rfl, hc⟩ := h
    have hx : xs = [] := List.eq_nil_of_length_eq_zero (by omega)
    subst hx
    refine ⟨ByteArray.empty, ?_, fun e => by simp [keptB] at e⟩
    rw [run_convert_bytes_string w _ _ _ o _ cap Try.underlying34 Try.underlying5 Try.underlying9]
    cases o <;> simp [Conv.bytesToString, loadCells]
    all_goals rfl
/-- between two rounds -/
structure LoopK (w0 : World) (scs : Array Value) (B p f k : Nat) (W : World) : Prop where
  d : ∃ s bs bf cv vs, DRepr B W p bs bf cv vs s ∧ Inv s f ∧ Lim s k
  s : Box W w0.heap.size 25 scs
  b : Below w0.heap.size w0 W
  hB : w0.heap.size < B
theorem LawK.loop {w0 : World} {scs : Array Value} {B p ab f k : Nat} {acs : Array Value} {W : World} (h : LawK w0 scs B p ab acs f k W) : LoopK w0 scs B p f k W := ⟨h.d, h.s, h.b, h.hB⟩
theorem LoopK.act {w0 : World} {scs : Array Value} {B p f k : Nat} {W : World} (h : LoopK w0 scs B p f k W) (acs : Array Value) : LawK w0 scs B p W.heap.size acs f k (W.alloc (.cells acs 37)) := by
  obtain ⟨s, bs, bf, cv, vs, hd, hi, hl⟩ := h.d
  have hb : Below W.heap.size W (W.alloc (.cells acs 37)) := (Below.refl _ _).alloc (Nat.le_refl _) _
  exact ⟨⟨s, bs, bf, cv, vs, hd.next hb (Nat.le_of_lt hd.baseLt), hi, hl⟩, Box.new _ _ _, h.s.next hb, h.b.trans (hb.mono h.b.size), h.hB⟩
theorem LoopK.more {w0 : World} {scs : Array Value} {B p f k m : Nat} {W : World} (h : LoopK w0 scs B p f k W) (hm : k ≤ m) : LoopK w0 scs B p f m W := by
  obtain ⟨s, bs, bf, cv, vs, hd, hi, hl⟩ := h.d
  exact ⟨⟨s, bs, bf, cv, vs, hd, hi, hl.mono hm⟩, h.s, h.b, h.hB⟩
theorem inv_start {s : DSt} {fs : List FileD} (hse : SeenIs s fs) (hmay : mayB fs = true) (h10 : fs.length ≤ 10) (hr : Ris s.seen) (hin : ∀ q ∈ s.seen, q.2 ∈ s.ids) (hoff : s.off = 0) (f : Nat) :
    Inv (syncDirS (syncS (writeS (strokeS s) keptN f keptB) f)) f ∧ Lim (syncDirS (syncS (writeS (strokeS s) keptN f keptB) f)) 3 := by
  obtain ⟨s1, hs1⟩ : ∃ s1, s1 = writeS (strokeS s) keptN f keptB := ⟨_, rfl⟩
  have o1 : offB s1 = false := offB_zero (by rw [hs1]; exact hoff)
  have e2 : syncS s1 f = { strokeS s1 with sf := updF s1.sf f (s1.by_ f) } := by rw [syncS, o1]; rfl
  have o2 : offB (syncS s1 f) = false := offB_zero (by rw [e2, hs1]; exact hoff)
  have e3 : syncDirS (syncS s1 f) = { strokeS (syncS s1 f) with safe := (syncS s1 f).seen, chs := [] } := by rw [syncDirS, o2]; rfl
  have hby : s1.by_ f = keptB := by rw [hs1]; simp [writeS, chgS, addS, updF]
  have hlen : (lput s.seen keptN f).length ≤ 16 := by
    rw [lput_length hr]
    have := hse.length
    split <;> omega
  have hgood : ∀ q ∈ s.seen, goodNm q.1 = true := fun q hq => by
    have hm : q.1 ∈ fs.map (·.nm) := by rw [← hse.names]; exact List.mem_map.2 ⟨q, hq, rfl⟩
    obtain ⟨g, hg, he⟩ := List.mem_map.1 hm
    obtain ⟨i, hi, rfl⟩ := List.mem_iff_getElem.1 hg
    rw [mayB, Bool.and_eq_true] at hmay
    have := okTo_at hmay.2 hi
    simp only [okAt, Bool.and_eq_true] at this
    have h1 := this.1
    rw [fnth, List.getD_eq_getElem?_getD, List.getElem?_eq_getElem hi] at h1
    rw [← he]; exact h1
  have hok : OkL (f :: s.ids) f (lput s.seen keptN f) := by
    refine ⟨fun q hq => ?_, hlen, lget_put_same hr keptN f⟩
    rcases lput_mem hq with rfl | hq
    · exact ⟨List.mem_cons_self .., show goodNm keptN = true by decide⟩
    · exact ⟨List.mem_cons_of_mem _ (hin q hq), hgood q hq⟩
  have hseen : (syncS s1 f).seen = lput s.seen keptN f := by rw [e2, hs1]; rfl
  have hids : (syncS s1 f).ids = f :: s.ids := by rw [e2, hs1]; rfl
  have hsf : (syncS s1 f).sf f = keptB := by rw [e2]; show updF s1.sf f (s1.by_ f) f = keptB; simp [updF, hby]
  have hby2 : (syncS s1 f).by_ f = keptB := by rw [e2]; exact hby
  have hstr : (syncS s1 f).strokes = 2 := by rw [e2, hs1]; show s.strokes + 1 + 1 = 2; rw [hse.strokes]; rfl
  have hoff2 : (syncS s1 f).off = 0 := by rw [e2, hs1]; exact hoff
  rw [← hs1, e3]
  generalize syncS s1 f = s2 at *
  refine ⟨⟨rfl, fun n hn => ?_, by show Ris s2.seen; rw [hseen]; exact hr.put keptN f, hby2, hsf⟩, ⟨o2, hoff2, by show s2.strokes + 1 ≤ _; omega, Nat.zero_le _, by show s2.seen.length ≤ 16; rw [hseen]; exact hlen⟩⟩
  have hn0 : n = 0 := by simpa using hn
  subst hn0
  show OkL s2.ids f s2.seen
  rw [hids, hseen]
  exact hok
end Go.Proofs.Ytejmbhckfdfoeaa
