/-
  List, walked.
-/
import Derived.Test.YtejmbhckfdfoeaaEM07
import Derived.Test.YtejmbhckfdfoeaaEM06
import Derived.Test.YtejmbhckfdfoeaaEM05
set_option linter.unusedVariables false
set_option linter.unusedSimpArgs false
namespace Go.Proofs.Ytejmbhckfdfoeaa
open Go.RowKit Go.Maps Go.Shelf
attribute [local go_sem] Oper.semAt_some
theorem fin_map {α β : Type} (l : List α) (f : α → β) : (List.finRange l.length).map (fun i => f l[i]) = l.map f := by
  apply List.ext_getElem
  · simp
  · intro i h1 h2; simp
def fdOf (s : DSt) (q : List UInt8 × Nat) : FileD := ⟨q.1, s.by_ q.2⟩
set_option maxRecDepth 100000 in
set_option maxHeartbeats 4000000 in
theorem list_in {B : Nat} {w : World} {p bs bf : Nat} {cv : Value} {vs : List Value} {s : DSt} (h : DRepr B w p bs bf cv vs s) (hd : s.dead = false) :
    CallsIn Fence.wide 9 Try.prog 12 #[.pointer (some ⟨p, 0, none⟩)] w fun e w' => (∃ v ps, e = .returned (.tuple #[v, .int .i64 0]) ∧ FOwn w' w.heap.size v ps ∧ ps.map (·.1) = s.seen.map (fdOf s)) ∧ Below w.heap.size w w' := by
  have HD := Lib.hid h
  have HDD := Lib.hid hd
  have c5 := h.box.cell 5 rfl
  obtain ⟨W1, hW1⟩ : ∃ W1, W1 = w.alloc (.cells #[.slice none 0 0] 22) := ⟨_, rfl⟩
  have hB0 : B ≤ w.heap.size := Nat.le_of_lt h.baseLt
  have hb1 : Below w.heap.size w W1 := by rw [hW1]; exact (Below.refl _ _).alloc (Nat.le_refl _) _
  have HBL := Lib.hid (show Box W1 w.heap.size 22 #[.slice none 0 0] by rw [hW1]; exact Box.new _ _ _)
  have HD1 := Lib.hid (h.next hb1 hB0)
  have HB1 := Lib.hid hb1
  have hz1 : W1.heap.size = w.heap.size + 1 := by rw [hW1]; simp
  have HW1 := Lib.hid hW1
  have c0 := HD1.out.box.cell 0 rfl
  rw [hW1] at c0
  clear h hd hb1 hW1
  refine callsIn_of_wp_marks Try.func12 rfl trivial ?_ rfl
  simp only [Try.ntmps12, List.size_toArray, List.length_cons, List.length_nil, Nat.reduceAdd, Nat.reduceSub, Array.replicate_succ, Array.replicate_zero, List.push_toArray, List.append_toArray, List.nil_append, List.cons_append]
  refine wpIn_wide.2 ?_
  go_wp2_with fail
  refine (ask_any p s.dead true _ c5).mono ?_
  rintro e w' ⟨rfl, rfl⟩
  rw [HDD.out, show askI false true = 0 from rfl]
  clear c5
  go_wp2_with fail
  rw [← HW1.out] at c0 ⊢
  clear c0 HW1
  refine (sorted_any bs _).mono ?_
  rintro e w2 ⟨rfl, hw2⟩
  have hb2 : Below W1.heap.size W1 w2 := by rw [hw2]; exact (Below.refl _ _).alloc (Nat.le_refl _) _
  have HC := Lib.hid (show Box w2 (w.heap.size + 1) 62 #[.map (some bs)] by rw [hw2, ← hz1]; exact Box.new _ _ _)
  have HD2 := Lib.hid (HD1.out.next hb2 (by omega))
  have HBL2 := Lib.hid (HBL.out.next hb2)
  have HB2 := Lib.hid (HB1.out.trans (hb2.mono (by omega)))
  have hz2 : W1.heap.size ≤ w2.heap.size := hb2.size
  clear hb2 hw2 HBL HD1 HB1
  go_wp2_with fail
  refine (wpIn_wide (n := 9)).1 ?_
  refine wpIn_rangeFunc_ownF rfl (by omega) (gf := 56) (lb := #[.pointer (some ⟨w.heap.size + 1, 0, none⟩)]) rfl trivial (enters_of Try.func56 (by kernel_rfl) rfl)
    (sorted1_stops 8 (w.heap.size + 1) bs s.seen w2 HC.out HD2.out.seen HD2.out.many HD2.out.nm1)
    (fun h k => h.trans k) ?hkb (Below.refl _ _) (fun _ => rfl)
    (fun pre W => ListAt w2.heap.size w.heap.size w2 (pre.map fun i => fdOf s s.seen[i]) W)
    (fun _ _ _ => False)
    (listAt_own _ _ _ _ (Nat.le_refl _))
    (fun _ _ _ _ _ h _ _ => h)
    ?h0 ?a1 ?assign ?body ?done ?stop
  case hkb => exact fun W l o o' _ h1 h2 h3 => keepD_b (n₀ := 0) (w := W) W l o o' h1 h2 h3
  case h0 => exact ⟨_, [], HBL2.out, FOwn.nil _ _, rfl, KeepB.refl _ _ _⟩
  case assign =>
    intro l x W K hK
    gi_wp2
    exact hK
  case stop =>
    rintro D c pre W _ _ h _
    exact h.elim
  case body =>
    rintro lp pre x W ⟨v, ps, hbx, ho, hps, hkb⟩ hpl
    have hmem : s.seen[x] ∈ s.seen := List.getElem_mem x.2
    have hin := HD2.out.in1 _ hmem
    obtain ⟨⟨vb, vs', hfb, hbr, _⟩, hBf⟩ := HD2.out.files _ hin
    obtain ⟨o1, k1, rfl⟩ := rd_slice hbr.rd
    have hl4 := hbr.len
    have hnl := HD2.out.nm1 _ hmem
    have hflt := hfb.lt
    have hpl2 : ps.length ≤ 1000000 := by have h1 := congrArg List.length hps; have h2 := HD2.out.many; simp at h1; omega
    have hfr : s.seen[x].2 ≠ w.heap.size := fun e => by
      rw [e] at hfb
      have := HBL2.out
      unfold Box at this hfb
      rw [hfb] at this
      simp at this
    have hWl : w.heap.size < w2.heap.size := HBL2.out.lt
    have hbx1 : Box W.drew w.heap.size 22 #[v] := hbx.same ⟨1, rfl⟩
    have hfb1 : Box W.drew s.seen[x].2 68 #[.slice o1 (s.by_ s.seen[x].2).length k1, vs'] := (Box.same ((hkb.block _ hflt hfr).trans hfb) ⟨1, rfl⟩)
    have hrd : ∀ W', KeepB w2.heap.size w.heap.size w2 W' → Rd W' .u8 (.slice o1 (s.by_ s.seen[x].2).length k1) (s.by_ s.seen[x].2) := fun W' hk => by
      obtain ⟨o', cap', he, hc⟩ := hbr.rd
      refine ⟨o', cap', he, fun j hj => ?_⟩
      obtain ⟨b', off, ho', hcell⟩ := hc j hj
      refine ⟨b', off, ho', (World.cell?_of_block (w := w2) (a := ⟨b', off + j, none⟩) (hk.block b' (cell_lt hcell) fun e => ?_)).trans hcell⟩
      obtain ⟨b2, off2, cs, fz, c, he2, hh, _⟩ := hbr.home (by omega)
      rw [he, ho'] at he2
      simp at he2
      obtain ⟨⟨rfl, _⟩, _⟩ := he2
      have := HBL2.out
      unfold Box at this
      rw [← e, hh] at this
      simp at this
    obtain ⟨q, hq⟩ : ∃ q, q = s.seen[x] := ⟨_, rfl⟩
    have hqn : s.seen[x.1].1 = q.1 := by rw [hq]; rfl
    have hqf : s.seen[x.1].2 = q.2 := by rw [hq]; rfl
    rw [← hq] at hl4 hnl hfb1 hrd
    obtain ⟨xs, hxs⟩ : ∃ xs, xs = s.by_ q.2 := ⟨_, rfl⟩
    rw [← hxs] at hl4 hfb1 hrd
    have HRD := Lib.hid hrd
    have HM := Lib.hid (show ListMid w2.heap.size w.heap.size q.2 68 #[.slice o1 xs.length k1, vs'] w2 W v ps W.drew from ⟨hbx1, hfb1, hkb.trans ⟨Nat.le_refl _, fun _ _ _ => rfl, rfl, rfl, rfl⟩, KeepD.heap rfl, ho.next (Below.drew (Below.refl _ _)), others_below (Below.drew (Below.refl _ _)), Nat.le_refl _⟩)
    have hfl : q.2 < w2.heap.size := by rw [hq]; exact hflt
    have hfne : w.heap.size ≠ q.2 := by rw [hq]; exact fun e => hfr e.symm
    have HPS := Lib.hid hps
    have HFD := Lib.hid (show fdOf s s.seen[x] = ⟨q.1, xs⟩ by rw [← hq, fdOf, ← hxs])
    have HNL := Lib.hid hnl
    obtain ⟨av, kv, rfl⟩ := own_slice ho.row
    obtain ⟨i0, hi, hz0, hz1, hz2'⟩ := info_parts info_file
    refine wpIn_block ?_
    rw [hqn, hqf]
    simp only [ptrV]
    clear hps hkb hbx ho hmem hin hfb hbr hBf hflt hfr hbx1 hfb1 hrd hnl hq hqn hqf hxs
    refine wpIn_region_heldR (S := fun w' => w'.cell? ⟨q.2, 0, none⟩ = some (.slice o1 xs.length k1)) (by kernel_rfl) (by kernel_rfl) (fun h => by obtain ⟨a, w, h⟩ := h; exact h) (HM.out.fb.cell 0 rfl) (fun hHeld => ?_)
    --BODY
    refine wpAnyH_take (i := 1) (v := ?_) rfl (by kernel_rfl) (by kernel_rfl) (by kernel_rfl) (fun _ _ _ h => h) (Or.inl ⟨by rfl, ?_⟩) (by assumption) ?_
    rotate_left
    · (intro w hSw; (try dsimp only at hSw); go_simp; (try with_reducible rfl))
    (try simp only [Act.put, List.setIfInBounds_toArray, List.set_cons_zero, List.set_cons_succ])
    refine wpAnyH_take (i := 2) (v := ?_) rfl (by kernel_rfl) (by kernel_rfl) (by kernel_rfl) (fun _ _ _ h => h) (Or.inl ⟨by rfl, ?_⟩) (by assumption) ?_
    rotate_left
    · (intro w hSw; (try dsimp only at hSw); go_simp; (try with_reducible rfl))
    (try simp only [Act.put, List.setIfInBounds_toArray, List.set_cons_zero, List.set_cons_succ])
    refine wpAnyH_take (i := 3) (v := ?_) rfl (by kernel_rfl) (by kernel_rfl) (by kernel_rfl) (fun _ _ _ h => h) (Or.inl ⟨by rfl, ?_⟩) (by assumption) ?_
    rotate_left
    · (intro w hSw; (try dsimp only at hSw); go_simp; (try with_reducible rfl))
    (try simp only [Act.put, List.setIfInBounds_toArray, List.set_cons_zero, List.set_cons_succ])
    refine wpAnyH_take (i := 4) (v := ?_) rfl (by kernel_rfl) (by kernel_rfl) (by kernel_rfl) (fun _ _ _ h => h) (Or.inl ⟨by rfl, ?_⟩) (by assumption) ?_
    rotate_left
    · (intro w hSw; (try dsimp only at hSw); go_simp; (try with_reducible rfl))
    (try simp only [Act.put, List.setIfInBounds_toArray, List.set_cons_zero, List.set_cons_succ])
    refine wpAnyH_take (i := 5) (v := ?_) rfl (by kernel_rfl) (by kernel_rfl) (by kernel_rfl) (fun _ _ _ h => h) (Or.inl ⟨by rfl, ?_⟩) (by assumption) ?_
    rotate_left
    · (intro w hSw; (try dsimp only at hSw); go_simp; (try with_reducible rfl))
    (try simp only [Act.put, List.setIfInBounds_toArray, List.set_cons_zero, List.set_cons_succ])
    refine wpAnyH_ready (rs := [0, 6]) (by kernel_rfl) (by simp) ?_
    refine AllReadyH.cons rfl (fun K hK => ?_) (AllReadyH.cons rfl (fun K hK => ?_) AllReadyH.nil)
    · have cl := HM.out.bx.cell 0 rfl
      go_simp
      refine hK.out _ _ (HM.out.fb.cell 0 rfl) (fun hHeld0 => ?_)
      clear hK K cl
      (try simp only [Act.put, List.setIfInBounds_toArray, List.set_cons_zero, List.set_cons_succ])
      refine wpAnyH_ready (rs := [6]) (by kernel_rfl) (by simp) ?_
      refine AllReadyH.cons rfl (fun K hK => ?_) AllReadyH.nil
      go_simp
      go_at_call 32
      refine (clone_own _ xs _ (HRD.out _ HM.out.kb) hl4).mono ?_
      rintro e w4 ⟨v4, rfl, hbr, hb4⟩
      obtain ⟨o4, k4, rfl⟩ := rd_slice hbr.rd
      have HM4 := Lib.hid (HM.out.next hb4)
      have HBR4 := Lib.hid (hbr.mono HM.out.size); have HSP4 := Lib.hid (HM.out.o.fresh hbr (Nat.le_refl _))
      clear hbr hb4
      go_wp2_with fail
      refine hK.out _ _ (HM4.out.fb.cell 0 rfl) (fun hHeld4 => ?_)
      clear hK K
      (try simp only [Act.put, List.setIfInBounds_toArray, List.set_cons_zero, List.set_cons_succ])
      refine wpAnyH_take (i := 7) (v := ?_) rfl (by kernel_rfl) (by kernel_rfl) (by kernel_rfl) (fun _ _ _ h => h) (Or.inl ⟨by rfl, ?_⟩) (by assumption) ?_
      rotate_left
      · (intro w hSw; (try dsimp only at hSw); go_simp; (try with_reducible rfl))
      (try simp only [Act.put, List.setIfInBounds_toArray, List.set_cons_zero, List.set_cons_succ])
      refine wpAnyH_ready (rs := [8]) (by kernel_rfl) (by simp) ?_
      refine AllReadyH.cons rfl (fun K hK => ?_) AllReadyH.nil
      go_simp
      obtain ⟨w5, hw5⟩ : ∃ w5, w5 = w4.alloc (.cells #[encStr q.1, .slice o4 xs.length k4] 48) := ⟨_, rfl⟩
      have HM5 := Lib.hid (show ListMid _ _ _ _ _ _ _ _ _ w5 by rw [hw5]; exact HM4.out.next ((Below.refl _ _).alloc (Nat.le_refl _) _))
      have HPN := Lib.hid (show ∀ (j : Nat) (u : Value), [encStr q.1, .slice o4 xs.length k4][j]? = some u → w5.cell? ((⟨w4.heap.size, 0, none⟩ : Addr).add j) = some u by rw [hw5]; exact pair_new w4 _ _ _)
      rw [← hw5]
      have HW5 := Lib.hid hw5
      clear hw5
      refine hK.out _ _ (HM5.out.fb.cell 0 rfl) (fun hHeld5 => ?_)
      clear hK K
      (try simp only [Act.put, List.setIfInBounds_toArray, List.set_cons_zero, List.set_cons_succ])
      refine wpAnyH_ready (rs := [9]) (by kernel_rfl) (by simp) ?_
      refine AllReadyH.cons rfl (fun K hK => ?_) AllReadyH.nil
      refine step_append_own rfl _ _ 22 rfl _ 48 i0 (.agg #[.string ⟨#[]⟩, .slice none 0 0]) 2 40 Try.underlying22 hi hz0 hz1 hz2' rfl (by decide) _ _ _ rfl HM5.out.o.row ⟨w4.heap.size, 0, none⟩ 1 1 [encStr q.1, .slice o4 xs.length k4] rfl rfl HPN.out (by simp [Value.oneCell', encStr]) (by unfold maxLen; omega) (by omega) HM5.out.size ?_
      intro v6 w6 hown6 hg6 _
      obtain ⟨a6, k6, rfl⟩ := own_slice hown6
      rw [HW5.out] at hg6
      have HF := Lib.hid (HM4.out.snoc (p := (⟨q.1, xs⟩, .slice o4 xs.length k4)) hWl hfl hown6 hg6 HBR4.out HSP4.out HNL.out)
      clear hown6 hg6
      refine hK.out _ _ (HF.out.1.2.cell 0 rfl) (fun hHeld6 => ?_)
      clear hK K
      (try simp only [Act.put, List.setIfInBounds_toArray, List.set_cons_zero, List.set_cons_succ])
      refine wpAnyH_ready (rs := [10]) (by kernel_rfl) (by simp) ?_
      refine AllReadyH.cons rfl (fun K hK => ?_) AllReadyH.nil
      have cl := HF.out.1.1.cell 0 rfl
      have fl := HF.out.1.1.free 0
      go_simp
      refine hK.out _ _ ((HF.out.1.2.other (by exact hfne) _).cell 0 rfl) (fun hHeld7 => ?_)
      clear hK K cl fl
      (try simp only [Act.put, List.setIfInBounds_toArray, List.set_cons_zero, List.set_cons_succ])
      refine wpAnyH_done (by kernel_rfl) ?_ _
      obtain ⟨⟨f1, f2⟩, f3, f4, f5, f6⟩ := HF.out
      exact ⟨f6.trans (KeepsOthers.setCell _ _ _), f4.trans (KeepD.set f1 rfl _), ⟨_, _, f1.set 0 _, f5.set hWl _, by rw [List.map_append, List.map_append, HPS.out]; exact congrArg (fun z => _ ++ [z]) HFD.out.symm, f3.trans (KeepB.set _)⟩⟩
    · go_simp
      go_at_call 32
      refine (clone_own _ xs _ (HRD.out _ HM.out.kb) hl4).mono ?_
      rintro e w4 ⟨v4, rfl, hbr, hb4⟩
      obtain ⟨o4, k4, rfl⟩ := rd_slice hbr.rd
      have HM4 := Lib.hid (HM.out.next hb4)
      have HBR4 := Lib.hid (hbr.mono HM.out.size); have HSP4 := Lib.hid (HM.out.o.fresh hbr (Nat.le_refl _))
      clear hbr hb4
      go_wp2_with fail
      refine hK.out _ _ (HM4.out.fb.cell 0 rfl) (fun hHeld4 => ?_)
      clear hK K
      (try simp only [Act.put, List.setIfInBounds_toArray, List.set_cons_zero, List.set_cons_succ])
      refine wpAnyH_take (i := 7) (v := ?_) rfl (by kernel_rfl) (by kernel_rfl) (by kernel_rfl) (fun _ _ _ h => h) (Or.inl ⟨by rfl, ?_⟩) (by assumption) ?_
      rotate_left
      · (intro w hSw; (try dsimp only at hSw); go_simp; (try with_reducible rfl))
      (try simp only [Act.put, List.setIfInBounds_toArray, List.set_cons_zero, List.set_cons_succ])
      refine wpAnyH_ready (rs := [0, 8]) (by kernel_rfl) (by simp) ?_
      refine AllReadyH.cons rfl (fun K hK => ?_) (AllReadyH.cons rfl (fun K hK => ?_) AllReadyH.nil)
      · have cl := HM4.out.bx.cell 0 rfl
        go_simp
        refine hK.out _ _ (HM4.out.fb.cell 0 rfl) (fun hHeld1 => ?_)
        clear hK K cl
        (try simp only [Act.put, List.setIfInBounds_toArray, List.set_cons_zero, List.set_cons_succ])
        refine wpAnyH_ready (rs := [8]) (by kernel_rfl) (by simp) ?_
        refine AllReadyH.cons rfl (fun K hK => ?_) AllReadyH.nil
        go_simp
        obtain ⟨w5, hw5⟩ : ∃ w5, w5 = w4.alloc (.cells #[encStr q.1, .slice o4 xs.length k4] 48) := ⟨_, rfl⟩
        have HM5 := Lib.hid (show ListMid _ _ _ _ _ _ _ _ _ w5 by rw [hw5]; exact HM4.out.next ((Below.refl _ _).alloc (Nat.le_refl _) _))
        have HPN := Lib.hid (show ∀ (j : Nat) (u : Value), [encStr q.1, .slice o4 xs.length k4][j]? = some u → w5.cell? ((⟨w4.heap.size, 0, none⟩ : Addr).add j) = some u by rw [hw5]; exact pair_new w4 _ _ _)
        rw [← hw5]
        have HW5 := Lib.hid hw5
        clear hw5
        refine hK.out _ _ (HM5.out.fb.cell 0 rfl) (fun hHeld5 => ?_)
        clear hK K
        (try simp only [Act.put, List.setIfInBounds_toArray, List.set_cons_zero, List.set_cons_succ])
        refine wpAnyH_ready (rs := [9]) (by kernel_rfl) (by simp) ?_
        refine AllReadyH.cons rfl (fun K hK => ?_) AllReadyH.nil
        refine step_append_own rfl _ _ 22 rfl _ 48 i0 (.agg #[.string ⟨#[]⟩, .slice none 0 0]) 2 40 Try.underlying22 hi hz0 hz1 hz2' rfl (by decide) _ _ _ rfl HM5.out.o.row ⟨w4.heap.size, 0, none⟩ 1 1 [encStr q.1, .slice o4 xs.length k4] rfl rfl HPN.out (by simp [Value.oneCell', encStr]) (by unfold maxLen; omega) (by omega) HM5.out.size ?_
        intro v6 w6 hown6 hg6 _
        obtain ⟨a6, k6, rfl⟩ := own_slice hown6
        rw [HW5.out] at hg6
        have HF := Lib.hid (HM4.out.snoc (p := (⟨q.1, xs⟩, .slice o4 xs.length k4)) hWl hfl hown6 hg6 HBR4.out HSP4.out HNL.out)
        clear hown6 hg6
        refine hK.out _ _ (HF.out.1.2.cell 0 rfl) (fun hHeld6 => ?_)
        clear hK K
        (try simp only [Act.put, List.setIfInBounds_toArray, List.set_cons_zero, List.set_cons_succ])
        refine wpAnyH_ready (rs := [10]) (by kernel_rfl) (by simp) ?_
        refine AllReadyH.cons rfl (fun K hK => ?_) AllReadyH.nil
        have cl := HF.out.1.1.cell 0 rfl
        have fl := HF.out.1.1.free 0
        go_simp
        refine hK.out _ _ ((HF.out.1.2.other (by exact hfne) _).cell 0 rfl) (fun hHeld7 => ?_)
        clear hK K cl fl
        (try simp only [Act.put, List.setIfInBounds_toArray, List.set_cons_zero, List.set_cons_succ])
        refine wpAnyH_done (by kernel_rfl) ?_ _
        obtain ⟨⟨f1, f2⟩, f3, f4, f5, f6⟩ := HF.out
        exact ⟨f6.trans (KeepsOthers.setCell _ _ _), f4.trans (KeepD.set f1 rfl _), ⟨_, _, f1.set 0 _, f5.set hWl _, by rw [List.map_append, List.map_append, HPS.out]; exact congrArg (fun z => _ ++ [z]) HFD.out.symm, f3.trans (KeepB.set _)⟩⟩
      · go_simp
        obtain ⟨w5, hw5⟩ : ∃ w5, w5 = w4.alloc (.cells #[encStr q.1, .slice o4 xs.length k4] 48) := ⟨_, rfl⟩
        have HM5 := Lib.hid (show ListMid _ _ _ _ _ _ _ _ _ w5 by rw [hw5]; exact HM4.out.next ((Below.refl _ _).alloc (Nat.le_refl _) _))
        have HPN := Lib.hid (show ∀ (j : Nat) (u : Value), [encStr q.1, .slice o4 xs.length k4][j]? = some u → w5.cell? ((⟨w4.heap.size, 0, none⟩ : Addr).add j) = some u by rw [hw5]; exact pair_new w4 _ _ _)
        rw [← hw5]
        have HW5 := Lib.hid hw5
        clear hw5
        refine hK.out _ _ (HM5.out.fb.cell 0 rfl) (fun hHeld5 => ?_)
        clear hK K
        (try simp only [Act.put, List.setIfInBounds_toArray, List.set_cons_zero, List.set_cons_succ])
        refine wpAnyH_ready (rs := [0]) (by kernel_rfl) (by simp) ?_
        refine AllReadyH.cons rfl (fun K hK => ?_) AllReadyH.nil
        have cl := HM5.out.bx.cell 0 rfl
        go_simp
        refine hK.out _ _ (HM5.out.fb.cell 0 rfl) (fun hHeld2 => ?_)
        clear hK K cl
        (try simp only [Act.put, List.setIfInBounds_toArray, List.set_cons_zero, List.set_cons_succ])
        refine wpAnyH_ready (rs := [9]) (by kernel_rfl) (by simp) ?_
        refine AllReadyH.cons rfl (fun K hK => ?_) AllReadyH.nil
        refine step_append_own rfl _ _ 22 rfl _ 48 i0 (.agg #[.string ⟨#[]⟩, .slice none 0 0]) 2 40 Try.underlying22 hi hz0 hz1 hz2' rfl (by decide) _ _ _ rfl HM5.out.o.row ⟨w4.heap.size, 0, none⟩ 1 1 [encStr q.1, .slice o4 xs.length k4] rfl rfl HPN.out (by simp [Value.oneCell', encStr]) (by unfold maxLen; omega) (by omega) HM5.out.size ?_
        intro v6 w6 hown6 hg6 _
        obtain ⟨a6, k6, rfl⟩ := own_slice hown6
        rw [HW5.out] at hg6
        have HF := Lib.hid (HM4.out.snoc (p := (⟨q.1, xs⟩, .slice o4 xs.length k4)) hWl hfl hown6 hg6 HBR4.out HSP4.out HNL.out)
        clear hown6 hg6
        refine hK.out _ _ (HF.out.1.2.cell 0 rfl) (fun hHeld6 => ?_)
        clear hK K
        (try simp only [Act.put, List.setIfInBounds_toArray, List.set_cons_zero, List.set_cons_succ])
        refine wpAnyH_ready (rs := [10]) (by kernel_rfl) (by simp) ?_
        refine AllReadyH.cons rfl (fun K hK => ?_) AllReadyH.nil
        have cl := HF.out.1.1.cell 0 rfl
        have fl := HF.out.1.1.free 0
        go_simp
        refine hK.out _ _ ((HF.out.1.2.other (by exact hfne) _).cell 0 rfl) (fun hHeld7 => ?_)
        clear hK K cl fl
        (try simp only [Act.put, List.setIfInBounds_toArray, List.set_cons_zero, List.set_cons_succ])
        refine wpAnyH_done (by kernel_rfl) ?_ _
        obtain ⟨⟨f1, f2⟩, f3, f4, f5, f6⟩ := HF.out
        exact ⟨f6.trans (KeepsOthers.setCell _ _ _), f4.trans (KeepD.set f1 rfl _), ⟨_, _, f1.set 0 _, f5.set hWl _, by rw [List.map_append, List.map_append, HPS.out]; exact congrArg (fun z => _ ++ [z]) HFD.out.symm, f3.trans (KeepB.set _)⟩⟩
    --END
  case done =>
    rintro D ys W hD rfl ⟨v, ps, hbx, ho, hps, hkb⟩ hK
    rw [fin_map] at hps
    obtain ⟨av, kv, rfl⟩ := own_slice ho.row
    have HO := Lib.hid ho
    have HPS := Lib.hid hps
    have HKB := Lib.hid hkb
    have HK := Lib.hid hK
    have HDD2 := Lib.hid hD
    have cl := hbx.cell 0 rfl
    have hwl : w.heap.size ≤ w2.heap.size := by omega
    clear ho hps hkb hK hD hbx
    go_wp2_with fail
    refine ⟨by simp, .inl ⟨_, _, rfl, run_takeDeferred HK.out, ?_⟩⟩
    refine ⟨.tuple #[.slice av ps.length kv, .int .i64 0], by simp [results, Try.results12, go_sem], ?_⟩
    have hb : Below w.heap.size w W := HB2.out.trans (HKB.out.below hwl (Nat.le_refl _))
    exact ⟨⟨_, ps, rfl, (HO.out.keeps (grownBy_putObj' W D _) (fun r e => by cases e; exact ⟨_, HK.out, rfl⟩)).mono hwl, HPS.out⟩, hb.trans (putObj_below (by have := HDD2.out; omega) hb.size)⟩
end Go.Proofs.Ytejmbhckfdfoeaa
/-
  WHAT A CRASH LEAVES, in plain; what its walk holds.
-/
set_option linter.unusedVariables false
set_option linter.unusedSimpArgs false
namespace Go.Proofs.Ytejmbhckfdfoeaa
open Go.RowKit Go.Maps
def runC (l : NM) (cs : List Chg) : NM := cs.foldl Chg.on l
theorem runC_snoc (l : NM) (cs : List Chg) (c : Chg) : runC l (cs ++ [c]) = Chg.on (runC l cs) c := by simp [runC]
theorem runC_append (l : NM) (cs ds : List Chg) : runC l (cs ++ ds) = runC (runC l cs) ds := by simp [runC]
def chgFile : Chg → Option Nat
  | .put _ f => some f
  | .mv _ _ f => some f
  | .del _ => none
/-- a file's bytes behind a crash, where they were not safe -/
def pickB (s : DSt) (f : Nat) (p : Int) : List Int := if p % 2 = 1 then (s.by_ f).take ((p / 2) % ((s.by_ f).length + 1 : Int)).toNat else s.sf f
def crashStep (s : DSt) (acc : List FileD × List Int) (q : List UInt8 × Nat) : List FileD × List Int :=
  if s.by_ q.2 = s.sf q.2 then (acc.1 ++ [⟨q.1, s.sf q.2⟩], acc.2) else (acc.1 ++ [⟨q.1, pickB s q.2 (acc.2.headD 0)⟩], acc.2.tail)
def crashOf (s : DSt) (left : NM) (pk : List Int) : List FileD × List Int := left.foldl (crashStep s) ([], pk)
def crashN (s : DSt) (pk : List Int) : Nat := ((pk.headD 0) % ((s.chs.length : Int) + 1)).toNat
def crashLeft (s : DSt) (pk : List Int) : NM := runC s.safe (s.chs.take (crashN s pk))
def crashR (s : DSt) (pk : List Int) : List FileD := (crashOf s (crashLeft s pk) pk.tail).1
theorem crashN_le (s : DSt) (pk : List Int) : crashN s pk ≤ s.chs.length := by
  have h1 := Int.emod_nonneg (pk.headD 0) (show ((s.chs.length : Int) + 1) ≠ 0 by omega)
  have h2 := Int.emod_lt_of_pos (pk.headD 0) (show 0 < ((s.chs.length : Int) + 1) by omega)
  unfold crashN
  omega
theorem crashOf_snoc (s : DSt) (l : NM) (q : List UInt8 × Nat) (pk : List Int) : crashOf s (l ++ [q]) pk = crashStep s (crashOf s l pk) q := by simp [crashOf]
theorem crashStep_len (s : DSt) (acc : List FileD × List Int) (q : List UInt8 × Nat) : (crashStep s acc q).1.length = acc.1.length + 1 := by
  unfold crashStep
  split <;> simp
theorem crashOf_len (s : DSt) (l : NM) (pk : List Int) : (crashOf s l pk).1.length = l.length := by
  unfold crashOf
  have : ∀ (l : NM) (acc : List FileD × List Int), (l.foldl (crashStep s) acc).1.length = acc.1.length + l.length := by
    intro l
    induction l with
    | nil => intro acc; simp
    | cons q r ih => intro acc; rw [List.foldl_cons, ih, crashStep_len]; simp; omega
  simpa using this l ([], pk)
/-- what lies while a crash is reckoned: the disk, the picks, the closure's box -/
structure CrAt (w0 : World) (B p bs bf : Nat) (cv : Value) (vs : List Value) (s : DSt) (c fb : Nat) (rest : List Int) (W : World) : Prop where
  d : DRepr B W p bs bf cv vs s
  pk : PickAt w0 c W rest
  f : Box W fb 60 #[.func (.func 43) #[] #[.pointer (some ⟨c, 0, none⟩)]]
  b : Below w0.heap.size w0 W
  c0 : w0.heap.size ≤ c
theorem CrAt.next {w0 W W' : World} {B p bs bf c fb : Nat} {cv : Value} {vs : List Value} {s : DSt} {rest : List Int} (h : CrAt w0 B p bs bf cv vs s c fb rest W) (hb : Below W.heap.size W W') : CrAt w0 B p bs bf cv vs s c fb rest W' :=
  ⟨h.d.next hb (Nat.le_of_lt h.d.baseLt), h.pk.next hb, h.f.next hb, h.b.trans (hb.mono h.b.size), h.c0⟩
theorem DRepr.below {B C : Nat} {w w' : World} {p bs bf : Nat} {cv : Value} {vs : List Value} {s : DSt} (h : DRepr B w p bs bf cv vs s) (hb : Below w.heap.size w w') : DRepr B w' p bs bf cv vs s := h.next hb (Nat.le_of_lt h.baseLt)
theorem CrAt.grown {w0 W W' : World} {B p bs bf c fb m : Nat} {cv : Value} {vs : List Value} {s : DSt} {rest : List Int} {l : NM} (h : CrAt w0 B p bs bf cv vs s c fb rest W) (hd0 : DRepr B w0 p bs bf cv vs s) (hm : MapRep W m l) (hg : W.grownBy W' (some m)) (hml : w0.heap.size ≤ m) : CrAt w0 B p bs bf cv vs s c fb rest W' := by
  have hb : Below w0.heap.size W W' := (Below.refl _ _).grown hg h.b.size (fun k e => by cases e; exact hml)
  have hb' := h.b.trans hb
  obtain ⟨o, cap, h1, h2⟩ := h.pk
  exact ⟨hd0.next hb' (Nat.le_of_lt hd0.baseLt), ⟨o, cap, box_grown h1 hm hg, h2⟩, box_grown h.f hm hg, hb', h.c0⟩
theorem CrAt.picked {w0 W W' : World} {B p bs bf c fb : Nat} {cv : Value} {vs : List Value} {s : DSt} {rest rest' : List Int} (h : CrAt w0 B p bs bf cv vs s c fb rest W) (hd0 : DRepr B w0 p bs bf cv vs s) (hp : PickAt w0 c W' rest') (hk : KeepC c W W') (hne : fb ≠ c) : CrAt w0 B p bs bf cv vs s c fb rest' W' := by
  have hb' := h.b.trans (hk.below h.c0 h.b.size)
  exact ⟨hd0.next hb' (Nat.le_of_lt hd0.baseLt), hp, (hk.block fb h.f.lt hne).trans h.f, hb', h.c0⟩
/-- below B nothing has turned but for these two blocks -/
structure KeepP (B R S : Nat) (w w' : World) : Prop where
  size : w.heap.size ≤ w'.heap.size
  block : ∀ k, k < B → k ≠ R → k ≠ S → w'.heap[k]? = w.heap[k]?
  rest : w'.os = w.os ∧ w'.tape = w.tape ∧ w'.output = w.output
theorem KeepP.refl (B R S : Nat) (w : World) : KeepP B R S w w := ⟨Nat.le_refl _, fun _ _ _ _ => rfl, rfl, rfl, rfl⟩
theorem KeepP.trans {B R S : Nat} {a b c : World} (h : KeepP B R S a b) (k : KeepP B R S b c) : KeepP B R S a c := ⟨Nat.le_trans h.size k.size, fun i h1 h2 h3 => (k.block i h1 h2 h3).trans (h.block i h1 h2 h3), k.rest.1.trans h.rest.1, k.rest.2.1.trans h.rest.2.1, k.rest.2.2.trans h.rest.2.2⟩
theorem KeepP.ofB {B R S : Nat} {w w' : World} (h : KeepB B R w w') : KeepP B R S w w' := ⟨h.size, fun k h1 h2 _ => h.block k h1 h2, h.rest⟩
theorem KeepP.ofC {B R S : Nat} {w w' : World} (h : KeepC S w w') (hB : B ≤ w.heap.size) : KeepP B R S w w' := ⟨h.size, fun k h1 _ h3 => h.block k (by omega) h3, h.rest⟩
theorem KeepP.of_below {B R S : Nat} {w w' : World} (h : Below B w w') : KeepP B R S w w' := ⟨h.size, fun k h1 _ _ => h.block k h1, h.os, h.tape, h.output⟩
theorem KeepP.below {B R S C : Nat} {w w' : World} (h : KeepP B R S w w') (hC : C ≤ B) (hR : C ≤ R) (hS : C ≤ S) : Below C w w' := ⟨h.rest.1, h.rest.2.1, h.rest.2.2, h.size, fun k hk => h.block k (by omega) (by omega) (by omega)⟩
theorem KeepP.box {B R S b : Nat} {w w' : World} {T : TypeId} {cs : Array Value} (h : KeepP B R S w w') (hb : Box w b T cs) (h1 : b < B) (h2 : b ≠ R) (h3 : b ≠ S) : Box w' b T cs := (h.block b h1 h2 h3).trans hb
theorem KeepP.u8 {R S : Nat} {w w' : World} {T U : TypeId} {cs ds : Array Value} (h : KeepP w.heap.size R S w w') (hR : Box w R T cs) (hT : T ≠ 5) (hS : Box w S U ds) (hU : U ≠ 5) : KeepU w w' := fun k cs' fz hk => by
  refine (h.block k (Array.getElem?_eq_some_iff.1 hk).1 (fun e => ?_) (fun e => ?_)).trans hk
  · subst e
    unfold Box at hR
    rw [hR] at hk
    simp at hk
    exact hT hk.2.1
  · subst e
    unfold Box at hS
    rw [hS] at hk
    simp at hk
    exact hU hk.2.1
/-- the invariant of a crash's rounds -/
def CrI (w0 : World) (B lb c : Nat) (w2 : World) (acc : List FileD × List Int) (W : World) : Prop :=
  ∃ v ps, Box W lb 22 #[v] ∧ FOwn W B v ps ∧ ps.map (·.1) = acc.1 ∧ PickAt w0 c W acc.2 ∧ KeepP B lb c w2 W
theorem crI_own {β : Type} (w0 : World) (B lb c : Nat) (w2 : World) (f : β → List FileD × List Int) (hB : B ≤ w2.heap.size) : OwnFrom B (fun s W => CrI w0 B lb c w2 (f s) W) := fun s W W' row hs hg hr => by
  obtain ⟨v, ps, h1, h2, h3, ⟨o, cap, h4, h5⟩, h6⟩ := hs
  have hr' : ∀ r, row = some r → ∃ o : Obj, W.heap[r]? = some o ∧ o.isCells = false := fun r e => (hr r e).2
  refine ⟨v, ps, (grownBy_keeps_cells hg hr' h1 rfl).trans h1, h2.keeps hg hr', h3, ⟨o, cap, (grownBy_keeps_cells hg hr' h4 rfl).trans h4, h5⟩, ⟨Nat.le_trans h6.size hg.size, fun k hk hne hne2 => ?_, hg.os.trans h6.rest.1, hg.tape.trans h6.rest.2.1, hg.output.trans h6.rest.2.2⟩⟩
  exact (hg.block k (by have := h6.size; omega) (fun e => by have := (hr k e.symm).1; omega)).trans (h6.block k hk hne hne2)
theorem KeepC.keepD {c : Nat} {W W' : World} {T : TypeId} {cs : Array Value} (h : KeepC c W W') (hb : Box W c T cs) (hT : kObj (.cells cs T (0, 0)) = false) : KeepD W W' :=
  ⟨h.size, fun k o hk ho => (h.block k (Array.getElem?_eq_some_iff.1 hk).1 (fun e => by subst e; unfold Box at hb; rw [hb] at hk; cases hk; rw [hT] at ho; cases ho)).trans hk⟩
theorem KeepC.others {c : Nat} {W W' : World} {T : TypeId} {cs : Array Value} (h : KeepC c W W') (hb : Box W c T cs) : KeepsOthers W W' :=
  ⟨h.size, fun k o hk ho => (h.block k (Array.getElem?_eq_some_iff.1 hk).1 (fun e => by subst e; unfold Box at hb; rw [hb] at hk; cases hk; cases ho)).trans hk⟩
theorem own_high {W W' : World} {B n s : Nat} {e : TypeId} {v : Value} {xs : List Value} (h : W.ownsRow B e s v n xs) (hk : ∀ k, B ≤ k → k < W.heap.size → W'.heap[k]? = W.heap[k]?) : W'.ownsRow B e s v n xs := by
  refine ⟨h.1, ?_⟩
  rcases h.2 with hn | ⟨g, cap, cur, e, hb, hgg, rest⟩
  · exact .inl hn
  · exact .inr ⟨g, cap, cur, e, hb, (hk g hb (Array.getElem?_eq_some_iff.1 hgg).1).trans hgg, rest⟩
theorem FOwn.high {W W' : World} {B : Nat} {v : Value} {ps : List FP} (h : FOwn W B v ps) (hk : ∀ k, B ≤ k → k < W.heap.size → W'.heap[k]? = W.heap[k]?) : FOwn W' B v ps :=
  ⟨own_high h.row hk, fun p hp => ⟨own_high (h.by_ p hp).own hk, (h.by_ p hp).len⟩, h.nm, h.sep⟩
theorem PickAt.keepB {w0 W W' : World} {B c lb : Nat} {pk : List Int} (h : PickAt w0 c W pk) (hk : KeepB B lb W W') (hc : c < B) (hne : c ≠ lb) : PickAt w0 c W' pk := by
  obtain ⟨o, cap, h1, h2⟩ := h
  exact ⟨o, cap, (hk.block c hc hne).trans h1, h2⟩
theorem BytesRep.part {B : Nat} {w : World} {o : Option Addr} {cap : Nat} {xs : List Int} (h : BytesRep B w (.slice o xs.length cap) xs) (m : Nat) (hm : m ≤ xs.length) : Rd w .u8 (.slice o (xs.take m).length cap) (xs.take m) := by
  obtain ⟨o', cap', he, hc⟩ := h.rd
  simp at he
  obtain ⟨rfl, rfl⟩ := he
  refine ⟨_, _, rfl, fun j hj => ?_⟩
  have hj' : j < m := by simp at hj; omega
  obtain ⟨b, off, ho, hcell⟩ := hc j (by omega)
  refine ⟨b, off, ho, ?_⟩
  rw [hcell]
  simp [nth, List.getD_eq_getElem?_getD, List.getElem?_take, hj']
/-- within a round of a crash that began at W -/
structure RoundAt (w w6 : World) (lb c f : Nat) (fcs : Array Value) (W : World) (v : Value) (ps : List FP) (rest : List Int) (Wr : World) : Prop where
  kp : KeepP w6.heap.size lb c w6 Wr
  bx : Box Wr lb 22 #[v]
  fb : Box Wr f 68 fcs
  o : FOwn Wr w6.heap.size v ps
  pk : PickAt w c Wr rest
  kd : KeepD W Wr
  oth : KeepsOthers W Wr
theorem RoundAt.next {w w6 W Wr Wr' : World} {lb c f : Nat} {fcs : Array Value} {v : Value} {ps : List FP} {rest : List Int} (h : RoundAt w w6 lb c f fcs W v ps rest Wr) (hb : Below Wr.heap.size Wr Wr') : RoundAt w w6 lb c f fcs W v ps rest Wr' :=
  ⟨h.kp.trans (KeepP.of_below (hb.mono h.kp.size)), h.bx.next hb, h.fb.next hb, h.o.next hb, h.pk.next hb, h.kd.trans (KeepD.below hb), h.oth.trans (others_below hb)⟩
theorem RoundAt.same {w w6 W Wr Wr' : World} {lb c f : Nat} {fcs : Array Value} {v : Value} {ps : List FP} {rest : List Int} (h : RoundAt w w6 lb c f fcs W v ps rest Wr) (hs : Same Wr Wr') : RoundAt w w6 lb c f fcs W v ps rest Wr' := h.next (hs.below _)
theorem RoundAt.picked {w w6 W Wr Wr' : World} {lb c f : Nat} {fcs : Array Value} {v : Value} {ps : List FP} {rest rest' : List Int} (h : RoundAt w w6 lb c f fcs W v ps rest Wr) (hp : PickAt w c Wr' rest') (hk : KeepC c Wr Wr') (hc : c < w6.heap.size) (hcl : lb ≠ c) (hcf : f ≠ c) : RoundAt w w6 lb c f fcs W v ps rest' Wr' := by
  obtain ⟨o, cap, h1, _⟩ := h.pk
  refine ⟨h.kp.trans (KeepP.ofC hk h.kp.size), (hk.block lb h.bx.lt hcl).trans h.bx, (hk.block f h.fb.lt hcf).trans h.fb, h.o.high (fun k hk1 hk2 => hk.block k hk2 (by omega)), hp, h.kd.trans (hk.keepD h1 rfl), h.oth.trans (hk.others h1)⟩
theorem RoundAt.mid {w w6 W Wr : World} {lb c f : Nat} {fcs : Array Value} {v : Value} {ps : List FP} {rest : List Int} (h : RoundAt w w6 lb c f fcs W v ps rest Wr) : ListMid w6.heap.size lb f 68 fcs Wr W v ps Wr.drew :=
  have hb : Below Wr.heap.size Wr Wr.drew := Below.drew (Below.refl _ _)
  ⟨h.bx.next hb, h.fb.next hb, KeepB.of_below (hb.mono h.kp.size), h.kd.trans (KeepD.below hb), h.o.next hb, h.oth.trans (others_below hb), h.kp.size⟩
theorem RoundAt.u8 {w w6 W Wr W' : World} {lb c f : Nat} {fcs : Array Value} {v : Value} {ps : List FP} {rest : List Int} {cs ds : Array Value} (h : RoundAt w w6 lb c f fcs W v ps rest Wr) (hl : Box w6 lb 22 cs) (hc : Box w6 c 35 ds) (hk : KeepB w6.heap.size lb Wr W') : KeepU w6 W' :=
  (h.kp.trans (KeepP.ofB hk)).u8 hl (by decide) hc (by decide)
end Go.Proofs.Ytejmbhckfdfoeaa
/-
  THE REFERENCE'S DISK in a world: its box, its names, its row of changes, its files; `list`, `find`.
-/
set_option linter.unusedVariables false
set_option linter.unusedSimpArgs false
namespace Go.Proofs.Ytejmbhckfdfoeaa
open Go.RowKit Go.Maps
def cName : Chg → List UInt8
  | .put x _ => x
  | .mv _ b _ => b
  | .del x => x
def cGone : Chg → List UInt8
  | .put _ _ => []
  | .mv a _ _ => a
  | .del _ => []
def chgCells (c : Chg) : List Value := [encStr (cName c), ptrV (chgFile c), encStr (cGone c)]
def ccells (cs : List Chg) : List Value := cs.flatMap chgCells
theorem ccells_length (cs : List Chg) : (ccells cs).length = cs.length * 3 := by
  induction cs with
  | nil => rfl
  | cons c cs ih => rw [show ccells (c :: cs) = encStr (cName c) :: ptrV (chgFile c) :: encStr (cGone c) :: ccells cs from rfl]; simp only [List.length_cons, ih]; omega
theorem ccells_at (cs : List Chg) : ∀ (i : Nat) (h : i < cs.length), (ccells cs)[i * 3]? = some (encStr (cName cs[i])) ∧ (ccells cs)[i * 3 + 1]? = some (ptrV (chgFile cs[i])) ∧ (ccells cs)[i * 3 + 2]? = some (encStr (cGone cs[i])) := by
  induction cs with
  | nil => intro i h; simp at h
  | cons c cs ih =>
    intro i h
    rw [show ccells (c :: cs) = encStr (cName c) :: ptrV (chgFile c) :: encStr (cGone c) :: ccells cs from rfl]
    cases i with
    | zero => simp
    | succ i =>
      have := ih i (by simpa using h)
      rw [show (i + 1) * 3 = i * 3 + 1 + 1 + 1 by omega]
      simpa using this
theorem ccells_append (cs ds : List Chg) : ccells (cs ++ ds) = ccells cs ++ ccells ds := by simp [ccells]
/-- no name is empty -/
def NoE (l : NM) : Prop := ∀ p ∈ l, p.1 ≠ []
theorem ldel_empty {l : NM} (h : NoE l) : ldel l [] = l := List.filter_eq_self.2 fun p hp => by have := h p hp; simp [this]
theorem NoE.del {l : NM} (h : NoE l) (x : List UInt8) : NoE (ldel l x) := fun p hp => h p (ldel_mem hp)
theorem ldel_comm (l : NM) (x y : List UInt8) : ldel (ldel l x) y = ldel (ldel l y) x := by
  simp only [ldel, List.filter_filter]
  congr 1
  funext p
  exact Bool.and_comm _ _
theorem made_on {l : NM} (h : NoE l) (c : Chg) : madeL l (cName c) (chgFile c) (cGone c) = c.on l := by
  cases c with
  | put x f => show lins x f (ldel (ldel l x) []) = lput l x f; rw [ldel_empty (h.del x)]; rfl
  | mv a b f => show lins b f (ldel (ldel l b) a) = lput (ldel l a) b f; rw [ldel_comm]; rfl
  | del x => show ldel (ldel l x) [] = ldel l x; rw [ldel_empty (h.del x)]
/-- the block r is such a disk of the reference's, all its memory from B on -/
structure RRepr (B : Nat) (w : World) (r : Nat) (vl vr : Value) (t : DSt) : Prop where
  box : Box w r 84 #[vl, vr, .int .i64 t.strokes, .int .i64 t.off, .bool t.dead]
  safe : EOwn w B vl t.safe
  row : w.ownsRow B 107 3 vr t.chs.length (ccells t.chs)
  files : ∀ f ∈ t.ids, ∃ va vb, Box w f 87 #[va, vb] ∧ BytesRep B w va (t.sf f) ∧ BytesRep B w vb (t.by_ f) ∧ B ≤ f
  hr : B ≤ r
/-- all lists on the way are small, their names may be -/
structure RWf (t : DSt) : Prop where
  all : ∀ n, n ≤ t.chs.length → (∀ q ∈ runC t.safe (t.chs.take n), q.2 ∈ t.ids ∧ goodNm q.1 = true) ∧ (runC t.safe (t.chs.take n)).length ≤ 16
  nm : ∀ c ∈ t.chs, (cName c).length ≤ maxLen ∧ (cGone c).length ≤ maxLen
  chl : t.chs.length ≤ 1000
theorem good_ne {x : List UInt8} (h : goodNm x = true) : x ≠ [] := fun e => by have := (goodNm_len h).1; rw [e] at this; simp at this
theorem RWf.noE {t : DSt} (h : RWf t) {n : Nat} (hn : n ≤ t.chs.length) : NoE (runC t.safe (t.chs.take n)) := fun p hp => good_ne ((h.all n hn).1 p hp).2
theorem RWf.lens {t : DSt} (h : RWf t) {n : Nat} (hn : n ≤ t.chs.length) : ∀ p ∈ runC t.safe (t.chs.take n), p.1.length ≤ maxLen := fun p hp => by have := (goodNm_len ((h.all n hn).1 p hp).2).2; unfold maxLen; omega
theorem RRepr.next {B : Nat} {w w' : World} {r : Nat} {vl vr : Value} {t : DSt} (h : RRepr B w r vl vr t) (hb : Below w.heap.size w w') : RRepr B w' r vl vr t :=
  ⟨h.box.next hb, own_below h.safe hb (Nat.le_refl _), own_below h.row hb (Nat.le_refl _), fun f hf => let ⟨va, vb, h1, h2, h3, h4⟩ := h.files f hf; ⟨va, vb, h1.next hb, h2.moveU (KeepU.below hb), h3.moveU (KeepU.below hb), h4⟩, h.hr⟩
theorem RRepr.base {B : Nat} {w : World} {r : Nat} {vl vr : Value} {t : DSt} (h : RRepr B w r vl vr t) : B < w.heap.size := Nat.lt_of_le_of_lt h.hr h.box.lt
theorem own_cell3 {w : World} {B : Nat} {e : TypeId} {v : Value} {n : Nat} {xs : List Value} (h : w.ownsRow B e 3 v n xs) (h0 : 0 < n) :
    ∃ g cap, v = .slice (some ⟨g, 0, none⟩) n cap ∧ ∀ j u, xs[j]? = some u → w.cell? ⟨g, j, none⟩ = some u := by
  rcases h.2 with ⟨rfl, hn⟩ | ⟨g, cap, cur, rfl, hb, hgg, _, _, _, ht⟩
  · omega
  · refine ⟨g, cap, rfl, fun j u hu => ?_⟩
    rw [cell_of_row w g j cur e (0, 0) hgg]
    rw [← ht, List.getElem?_take] at hu
    split at hu
    · simpa using hu
    · cases hu
set_option maxRecDepth 100000 in
set_option maxHeartbeats 4000000 in
theorem rlist_any {B : Nat} {w : World} {r : Nat} {vl vr : Value} {t : DSt} (h : RRepr B w r vl vr t) (hw : RWf t) (n : Nat) (hn : n ≤ t.chs.length) :
    Calls Try.prog 62 #[.pointer (some ⟨r, 0, none⟩), .int .i64 n] w fun e w' => (∃ v', e = .returned v' ∧ EOwn w' B v' (runC t.safe (t.chs.take n))) ∧ Below w.heap.size w w' := by
  have HR := Lib.hid h
  have HW := Lib.hid hw
  have hchl := hw.chl
  have c0 := h.box.cell 0 rfl
  have hB0 : B ≤ w.heap.size := Nat.le_of_lt h.base
  clear h hw
  go_enter Try.func62, Try.ntmps62
  go_wp2_with fail
  clear c0
  go_loopg [5, 6] n (fun g v i wr => ∃ k : Nat, g = n - k ∧ k ≤ n ∧ i = .int .i64 k ∧ EOwn wr B v (runC t.safe (t.chs.take k)) ∧ Below w.heap.size w wr)
  case atStart => exact ⟨0, rfl, Nat.zero_le _, rfl, HR.out.safe, Below.refl _ _⟩
  case round =>
    obtain ⟨k, hg, hk, rfl, ho, hB⟩ := hrel
    obtain ⟨w2, rfl⟩ : ∃ w2, w2 = wr := ⟨_, rfl⟩
    have HO := Lib.hid ho
    have HB := Lib.hid hB
    by_cases hlt : k < n
    · have hkl : k < t.chs.length := by omega
      obtain ⟨g4, cap4, hvr, hcell⟩ := own_cell3 (own_below HR.out.row hB (Nat.le_refl _)) (by omega)
      obtain ⟨a0, a1, a2⟩ := ccells_at t.chs k hkl
      have d0 := hcell _ _ a0
      have d1 := hcell _ _ a1
      have d2 := hcell _ _ a2
      have c1 := (HR.out.box.next hB).cell 1 rfl
      subst hvr
      have hnm := HW.out.nm _ (List.getElem_mem hkl)
      obtain ⟨c, hc⟩ : ∃ c, c = t.chs[k] := ⟨_, rfl⟩
      rw [← hc] at d0 d1 d2 hnm
      have HC := Lib.hid hc
      have HNM := Lib.hid hnm
      have hlen : (runC t.safe (t.chs.take k)).length ≤ 100000 := by have := (HW.out.all k (by omega)).2; omega
      clear hcell a0 a1 a2 hc hnm ho hB
      go_wp2_with fail
      refine (made_any _ (runC t.safe (t.chs.take k)) (cName c) (cGone c) (chgFile c) _ (HO.out.rd (HW.out.lens (by omega))) hlen HNM.out.1).mono ?_
      rintro e w3 ⟨⟨v3, rfl, ho3⟩, hb3⟩
      obtain ⟨a3, k3, rfl⟩ := own_slice ho3
      have HO3 := Lib.hid (show EOwn w3 B (.slice a3 (madeL (runC t.safe (t.chs.take k)) (cName c) (chgFile c) (cGone c)).length k3) (runC t.safe (t.chs.take (k + 1))) by
        have he : madeL (runC t.safe (t.chs.take k)) (cName c) (chgFile c) (cGone c) = runC t.safe (t.chs.take (k + 1)) := by
          rw [made_on (HW.out.noE (by omega)), List.take_succ_eq_append_getElem hkl, runC_snoc, HC.out]
        rw [he] at ho3 ⊢
        exact own_mono ho3 (Nat.le_trans hB0 HB.out.size))
      have HB3 := Lib.hid (HB.out.trans (hb3.mono HB.out.size))
      clear ho3 hb3 d0 d1 d2 c1
      go_wp2_with fail
      go_roundg (n - (k + 1))
      case measure => omega
      case rel => exact ⟨k + 1, rfl, hlt, by go_num, HO3.out, HB3.out⟩
    · have hke : k = n := by omega
      subst hke
      clear ho hB
      go_wp2_with fail
      go_ret
      exact ⟨⟨_, rfl, HO.out⟩, HB.out⟩
end Go.Proofs.Ytejmbhckfdfoeaa
