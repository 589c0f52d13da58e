/-
  List, walked.
-/
import Derived.Test.YtejmbhckfdfoeaaDIter
import Derived.Test.YtejmbhckfdfoeaaDListI
import Derived.Test.YtejmbhckfdfoeaaHeldRnd
set_option linter.unusedVariables false
set_option linter.unusedSimpArgs false
namespace Go.Proofs.Ytejmbhckfdfoeaa
open Go.RowKit Go.Maps Go.Shelf
attribute [local go_sem] Oper.semAt_some
theorem fin_map {α β : Type} (l : List α) (f : α → β) : (List.finRange l.length).map (fun i => f l[i]) = l.map f := by
  apply List.ext_getElem
  · simp
  · intro i h1 h2; simp
def fdOf (s : DSt) (q : List UInt8 × Nat) : FileD := ⟨q.1, s.by_ q.2⟩
set_option maxRecDepth 100000 in
set_option maxHeartbeats 4000000 in
theorem list_in {B : Nat} {w : World} {p bs bf : Nat} {cv : Value} {vs : List Value} {s : DSt} (h : DRepr B w p bs bf cv vs s) (hd : s.dead = false) :
    CallsIn Fence.wide 9 Try.prog 12 #[.pointer (some ⟨p, 0, none⟩)] w fun e w' => (∃ v ps, e = .returned (.tuple #[v, .int .i64 0]) ∧ FOwn w' w.heap.size v ps ∧ ps.map (·.1) = s.seen.map (fdOf s)) ∧ Below w.heap.size w w' := by
  have HD := Lib.hid h
  have HDD := Lib.hid hd
  have c5 := h.box.cell 5 rfl
  obtain ⟨W1, hW1⟩ : ∃ W1, W1 = w.alloc (.cells #[.slice none 0 0] 22) := ⟨_, rfl⟩
  have hB0 : B ≤ w.heap.size := Nat.le_of_lt h.baseLt
  have hb1 : Below w.heap.size w W1 := by rw [hW1]; exact (Below.refl _ _).alloc (Nat.le_refl _) _
  have HBL := Lib.hid (show Box W1 w.heap.size 22 #[.slice none 0 0] by rw [hW1]; exact Box.new _ _ _)
  have HD1 := Lib.hid (h.next hb1 hB0)
  have HB1 := Lib.hid hb1
  have hz1 : W1.heap.size = w.heap.size + 1 := by rw [hW1]; simp
  have HW1 := Lib.hid hW1
  have c0 := HD1.out.box.cell 0 rfl
  rw [hW1] at c0
  clear h hd hb1 hW1
  refine callsIn_of_wp_marks Try.func12 rfl trivial ?_ rfl
  simp only [Try.ntmps12, List.size_toArray, List.length_cons, List.length_nil, Nat.reduceAdd, Nat.reduceSub, Array.replicate_succ, Array.replicate_zero, List.push_toArray, List.append_toArray, List.nil_append, List.cons_append]
  refine wpIn_wide.2 ?_
  go_wp2_with fail
  refine (ask_any p s.dead true _ c5).mono ?_
  rintro e w' ⟨rfl, rfl⟩
  rw [HDD.out, show askI false true = 0 from rfl]
  clear c5
  go_wp2_with fail
  rw [← HW1.out] at c0 ⊢
  clear c0 HW1
  refine (sorted_any bs _).mono ?_
  rintro e w2 ⟨rfl, hw2⟩
  have hb2 : Below W1.heap.size W1 w2 := by rw [hw2]; exact (Below.refl _ _).alloc (Nat.le_refl _) _
  have HC := Lib.hid (show Box w2 (w.heap.size + 1) 62 #[.map (some bs)] by rw [hw2, ← hz1]; exact Box.new _ _ _)
  have HD2 := Lib.hid (HD1.out.next hb2 (by omega))
  have HBL2 := Lib.hid (HBL.out.next hb2)
  have HB2 := Lib.hid (HB1.out.trans (hb2.mono (by omega)))
  have hz2 : W1.heap.size ≤ w2.heap.size := hb2.size
  clear hb2 hw2 HBL HD1 HB1
  go_wp2_with fail
  refine (wpIn_wide (n := 9)).1 ?_
  refine wpIn_rangeFunc_ownF rfl (by omega) (gf := 56) (lb := #[.pointer (some ⟨w.heap.size + 1, 0, none⟩)]) rfl trivial (enters_of Try.func56 (by kernel_rfl) rfl)
    (sorted1_stops 8 (w.heap.size + 1) bs s.seen w2 HC.out HD2.out.seen HD2.out.many HD2.out.nm1)
    (fun h k => h.trans k) ?hkb (Below.refl _ _) (fun _ => rfl)
    (fun pre W => ListAt w2.heap.size w.heap.size w2 (pre.map fun i => fdOf s s.seen[i]) W)
    (fun _ _ _ => False)
    (listAt_own _ _ _ _ (Nat.le_refl _))
    (fun _ _ _ _ _ h _ _ => h)
    ?h0 ?a1 ?assign ?body ?done ?stop
  case hkb => exact fun W l o o' _ h1 h2 h3 => keepD_b (n₀ := 0) (w := W) W l o o' h1 h2 h3
  case h0 => exact ⟨_, [], HBL2.out, FOwn.nil _ _, rfl, KeepB.refl _ _ _⟩
  case assign =>
    intro l x W K hK
    gi_wp2
    exact hK
  case stop =>
    rintro D c pre W _ _ h _
    exact h.elim
  case body =>
    rintro lp pre x W ⟨v, ps, hbx, ho, hps, hkb⟩ hpl
    have hmem : s.seen[x] ∈ s.seen := List.getElem_mem x.2
    have hin := HD2.out.in1 _ hmem
    obtain ⟨⟨vb, vs', hfb, hbr, _⟩, hBf⟩ := HD2.out.files _ hin
    obtain ⟨o1, k1, rfl⟩ := rd_slice hbr.rd
    have hl4 := hbr.len
    have hnl := HD2.out.nm1 _ hmem
    have hflt := hfb.lt
    have hpl2 : ps.length ≤ 1000000 := by have h1 := congrArg List.length hps; have h2 := HD2.out.many; simp at h1; omega
    have hfr : s.seen[x].2 ≠ w.heap.size := fun e => by
      rw [e] at hfb
      have := HBL2.out
      unfold Box at this hfb
      rw [hfb] at this
      simp at this
    have hWl : w.heap.size < w2.heap.size := HBL2.out.lt
    have hbx1 : Box W.drew w.heap.size 22 #[v] := hbx.same ⟨1, rfl⟩
    have hfb1 : Box W.drew s.seen[x].2 68 #[.slice o1 (s.by_ s.seen[x].2).length k1, vs'] := (Box.same ((hkb.block _ hflt hfr).trans hfb) ⟨1, rfl⟩)
    have hrd : ∀ W', KeepB w2.heap.size w.heap.size w2 W' → Rd W' .u8 (.slice o1 (s.by_ s.seen[x].2).length k1) (s.by_ s.seen[x].2) := fun W' hk => by
      obtain ⟨o', cap', he, hc⟩ := hbr.rd
      refine ⟨o', cap', he, fun j hj => ?_⟩
      obtain ⟨b', off, ho', hcell⟩ := hc j hj
      refine ⟨b', off, ho', (World.cell?_of_block (w := w2) (a := ⟨b', off + j, none⟩) (hk.block b' (cell_lt hcell) fun e => ?_)).trans hcell⟩
      obtain ⟨b2, off2, cs, fz, c, he2, hh, _⟩ := hbr.home (by omega)
      rw [he, ho'] at he2
      simp at he2
      obtain ⟨⟨rfl, _⟩, _⟩ := he2
      have := HBL2.out
      unfold Box at this
      rw [← e, hh] at this
      simp at this
    obtain ⟨q, hq⟩ : ∃ q, q = s.seen[x] := ⟨_, rfl⟩
    have hqn : s.seen[x.1].1 = q.1 := by rw [hq]; rfl
    have hqf : s.seen[x.1].2 = q.2 := by rw [hq]; rfl
    rw [← hq] at hl4 hnl hfb1 hrd
    obtain ⟨xs, hxs⟩ : ∃ xs, xs = s.by_ q.2 := ⟨_, rfl⟩
    rw [← hxs] at hl4 hfb1 hrd
    have HRD := Lib.hid hrd
    have HM := Lib.hid (show ListMid w2.heap.size w.heap.size q.2 68 #[.slice o1 xs.length k1, vs'] w2 W v ps W.drew from ⟨hbx1, hfb1, hkb.trans ⟨Nat.le_refl _, fun _ _ _ => rfl, rfl, rfl, rfl⟩, KeepD.heap rfl, ho.next (Below.drew (Below.refl _ _)), others_below (Below.drew (Below.refl _ _)), Nat.le_refl _⟩)
    have hfl : q.2 < w2.heap.size := by rw [hq]; exact hflt
    have hfne : w.heap.size ≠ q.2 := by rw [hq]; exact fun e => hfr e.symm
    have HPS := Lib.hid hps
    have HFD := Lib.hid (show fdOf s s.seen[x] = ⟨q.1, xs⟩ by rw [← hq, fdOf, ← hxs])
    have HNL := Lib.hid hnl
    obtain ⟨av, kv, rfl⟩ := own_slice ho.row
    obtain ⟨i0, hi, hz0, hz1, hz2'⟩ := info_parts info_file
    refine wpIn_block ?_
    rw [hqn, hqf]
    simp only [ptrV]
    clear hps hkb hbx ho hmem hin hfb hbr hBf hflt hfr hbx1 hfb1 hrd hnl hq hqn hqf hxs
    refine wpIn_region_heldR (S := fun w' => w'.cell? ⟨q.2, 0, none⟩ = some (.slice o1 xs.length k1)) (by kernel_rfl) (by kernel_rfl) (fun h => by obtain ⟨a, w, h⟩ := h; exact h) (HM.out.fb.cell 0 rfl) (fun hHeld => ?_)
    --BODY
    refine wpAnyH_take (i := 1) (v := ?_) rfl (by kernel_rfl) (by kernel_rfl) (by kernel_rfl) (fun _ _ _ h => h) (Or.inl ⟨by rfl, ?_⟩) (by assumption) ?_
    rotate_left
    · (intro w hSw; (try dsimp only at hSw); go_simp; (try with_reducible rfl))
    (try simp only [Act.put, List.setIfInBounds_toArray, List.set_cons_zero, List.set_cons_succ])
    refine wpAnyH_take (i := 2) (v := ?_) rfl (by kernel_rfl) (by kernel_rfl) (by kernel_rfl) (fun _ _ _ h => h) (Or.inl ⟨by rfl, ?_⟩) (by assumption) ?_
    rotate_left
    · (intro w hSw; (try dsimp only at hSw); go_simp; (try with_reducible rfl))
    (try simp only [Act.put, List.setIfInBounds_toArray, List.set_cons_zero, List.set_cons_succ])
    refine wpAnyH_take (i := 3) (v := ?_) rfl (by kernel_rfl) (by kernel_rfl) (by kernel_rfl) (fun _ _ _ h => h) (Or.inl ⟨by rfl, ?_⟩) (by assumption) ?_
    rotate_left
    · (intro w hSw; (try dsimp only at hSw); go_simp; (try with_reducible rfl))
    (try simp only [Act.put, List.setIfInBounds_toArray, List.set_cons_zero, List.set_cons_succ])
    refine wpAnyH_take (i := 4) (v := ?_) rfl (by kernel_rfl) (by kernel_rfl) (by kernel_rfl) (fun _ _ _ h => h) (Or.inl ⟨by rfl, ?_⟩) (by assumption) ?_
    rotate_left
    · (intro w hSw; (try dsimp only at hSw); go_simp; (try with_reducible rfl))
    (try simp only [Act.put, List.setIfInBounds_toArray, List.set_cons_zero, List.set_cons_succ])
    refine wpAnyH_take (i := 5) (v := ?_) rfl (by kernel_rfl) (by kernel_rfl) (by kernel_rfl) (fun _ _ _ h => h) (Or.inl ⟨by rfl, ?_⟩) (by assumption) ?_
    rotate_left
    · (intro w hSw; (try dsimp only at hSw); go_simp; (try with_reducible rfl))
    (try simp only [Act.put, List.setIfInBounds_toArray, List.set_cons_zero, List.set_cons_succ])
    refine wpAnyH_ready (rs := [0, 6]) (by kernel_rfl) (by simp) ?_
    refine AllReadyH.cons rfl (fun K hK => ?_) (AllReadyH.cons rfl (fun K hK => ?_) AllReadyH.nil)
    · have cl := HM.out.bx.cell 0 rfl
      go_simp
      refine hK.out _ _ (HM.out.fb.cell 0 rfl) (fun hHeld0 => ?_)
      clear hK K cl
      (try simp only [Act.put, List.setIfInBounds_toArray, List.set_cons_zero, List.set_cons_succ])
      refine wpAnyH_ready (rs := [6]) (by kernel_rfl) (by simp) ?_
      refine AllReadyH.cons rfl (fun K hK => ?_) AllReadyH.nil
      go_simp
      go_at_call 32
      refine (clone_any _ xs _ (HRD.out _ HM.out.kb) hl4).mono ?_
      rintro e w4 ⟨v4, rfl, hbr, hb4⟩
      obtain ⟨o4, k4, rfl⟩ := rd_slice hbr.rd
      have HM4 := Lib.hid (HM.out.next hb4)
      have HBR4 := Lib.hid (hbr.mono HM.out.size)
      clear hbr hb4
      go_wp2_with fail
      refine hK.out _ _ (HM4.out.fb.cell 0 rfl) (fun hHeld4 => ?_)
      clear hK K
      (try simp only [Act.put, List.setIfInBounds_toArray, List.set_cons_zero, List.set_cons_succ])
      refine wpAnyH_take (i := 7) (v := ?_) rfl (by kernel_rfl) (by kernel_rfl) (by kernel_rfl) (fun _ _ _ h => h) (Or.inl ⟨by rfl, ?_⟩) (by assumption) ?_
      rotate_left
      · (intro w hSw; (try dsimp only at hSw); go_simp; (try with_reducible rfl))
      (try simp only [Act.put, List.setIfInBounds_toArray, List.set_cons_zero, List.set_cons_succ])
      refine wpAnyH_ready (rs := [8]) (by kernel_rfl) (by simp) ?_
      refine AllReadyH.cons rfl (fun K hK => ?_) AllReadyH.nil
      go_simp
      obtain ⟨w5, hw5⟩ : ∃ w5, w5 = w4.alloc (.cells #[encStr q.1, .slice o4 xs.length k4] 48) := ⟨_, rfl⟩
      have HM5 := Lib.hid (show ListMid _ _ _ _ _ _ _ _ _ w5 by rw [hw5]; exact HM4.out.next ((Below.refl _ _).alloc (Nat.le_refl _) _))
      have HPN := Lib.hid (show ∀ (j : Nat) (u : Value), [encStr q.1, .slice o4 xs.length k4][j]? = some u → w5.cell? ((⟨w4.heap.size, 0, none⟩ : Addr).add j) = some u by rw [hw5]; exact pair_new w4 _ _ _)
      rw [← hw5]
      have HW5 := Lib.hid hw5
      clear hw5
      refine hK.out _ _ (HM5.out.fb.cell 0 rfl) (fun hHeld5 => ?_)
      clear hK K
      (try simp only [Act.put, List.setIfInBounds_toArray, List.set_cons_zero, List.set_cons_succ])
      refine wpAnyH_ready (rs := [9]) (by kernel_rfl) (by simp) ?_
      refine AllReadyH.cons rfl (fun K hK => ?_) AllReadyH.nil
      refine step_append_own rfl _ _ 22 rfl _ 48 i0 (.agg #[.string ⟨#[]⟩, .slice none 0 0]) 2 40 Try.underlying22 hi hz0 hz1 hz2' rfl (by decide) _ _ _ rfl HM5.out.o.row ⟨w4.heap.size, 0, none⟩ 1 1 [encStr q.1, .slice o4 xs.length k4] rfl rfl HPN.out (by simp [Value.oneCell', encStr]) (by unfold maxLen; omega) (by omega) HM5.out.size ?_
      intro v6 w6 hown6 hg6 _
      obtain ⟨a6, k6, rfl⟩ := own_slice hown6
      rw [HW5.out] at hg6
      have HF := Lib.hid (HM4.out.snoc (p := (⟨q.1, xs⟩, .slice o4 xs.length k4)) hWl hfl hown6 hg6 HBR4.out HNL.out)
      clear hown6 hg6
      refine hK.out _ _ (HF.out.1.2.cell 0 rfl) (fun hHeld6 => ?_)
      clear hK K
      (try simp only [Act.put, List.setIfInBounds_toArray, List.set_cons_zero, List.set_cons_succ])
      refine wpAnyH_ready (rs := [10]) (by kernel_rfl) (by simp) ?_
      refine AllReadyH.cons rfl (fun K hK => ?_) AllReadyH.nil
      have cl := HF.out.1.1.cell 0 rfl
      have fl := HF.out.1.1.free 0
      go_simp
      refine hK.out _ _ ((HF.out.1.2.other (by exact hfne) _).cell 0 rfl) (fun hHeld7 => ?_)
      clear hK K cl fl
      (try simp only [Act.put, List.setIfInBounds_toArray, List.set_cons_zero, List.set_cons_succ])
      refine wpAnyH_done (by kernel_rfl) ?_ _
      obtain ⟨⟨f1, f2⟩, f3, f4, f5, f6⟩ := HF.out
      exact ⟨f6.trans (KeepsOthers.setCell _ _ _), f4.trans (KeepD.set f1 rfl _), ⟨_, _, f1.set 0 _, f5.set hWl _, by rw [List.map_append, List.map_append, HPS.out]; exact congrArg (fun z => _ ++ [z]) HFD.out.symm, f3.trans (KeepB.set _)⟩⟩
    · go_simp
      go_at_call 32
      refine (clone_any _ xs _ (HRD.out _ HM.out.kb) hl4).mono ?_
      rintro e w4 ⟨v4, rfl, hbr, hb4⟩
      obtain ⟨o4, k4, rfl⟩ := rd_slice hbr.rd
      have HM4 := Lib.hid (HM.out.next hb4)
      have HBR4 := Lib.hid (hbr.mono HM.out.size)
      clear hbr hb4
      go_wp2_with fail
      refine hK.out _ _ (HM4.out.fb.cell 0 rfl) (fun hHeld4 => ?_)
      clear hK K
      (try simp only [Act.put, List.setIfInBounds_toArray, List.set_cons_zero, List.set_cons_succ])
      refine wpAnyH_take (i := 7) (v := ?_) rfl (by kernel_rfl) (by kernel_rfl) (by kernel_rfl) (fun _ _ _ h => h) (Or.inl ⟨by rfl, ?_⟩) (by assumption) ?_
      rotate_left
      · (intro w hSw; (try dsimp only at hSw); go_simp; (try with_reducible rfl))
      (try simp only [Act.put, List.setIfInBounds_toArray, List.set_cons_zero, List.set_cons_succ])
      refine wpAnyH_ready (rs := [0, 8]) (by kernel_rfl) (by simp) ?_
      refine AllReadyH.cons rfl (fun K hK => ?_) (AllReadyH.cons rfl (fun K hK => ?_) AllReadyH.nil)
      · have cl := HM4.out.bx.cell 0 rfl
        go_simp
        refine hK.out _ _ (HM4.out.fb.cell 0 rfl) (fun hHeld1 => ?_)
        clear hK K cl
        (try simp only [Act.put, List.setIfInBounds_toArray, List.set_cons_zero, List.set_cons_succ])
        refine wpAnyH_ready (rs := [8]) (by kernel_rfl) (by simp) ?_
        refine AllReadyH.cons rfl (fun K hK => ?_) AllReadyH.nil
        go_simp
        obtain ⟨w5, hw5⟩ : ∃ w5, w5 = w4.alloc (.cells #[encStr q.1, .slice o4 xs.length k4] 48) := ⟨_, rfl⟩
        have HM5 := Lib.hid (show ListMid _ _ _ _ _ _ _ _ _ w5 by rw [hw5]; exact HM4.out.next ((Below.refl _ _).alloc (Nat.le_refl _) _))
        have HPN := Lib.hid (show ∀ (j : Nat) (u : Value), [encStr q.1, .slice o4 xs.length k4][j]? = some u → w5.cell? ((⟨w4.heap.size, 0, none⟩ : Addr).add j) = some u by rw [hw5]; exact pair_new w4 _ _ _)
        rw [← hw5]
        have HW5 := Lib.hid hw5
        clear hw5
        refine hK.out _ _ (HM5.out.fb.cell 0 rfl) (fun hHeld5 => ?_)
        clear hK K
        (try simp only [Act.put, List.setIfInBounds_toArray, List.set_cons_zero, List.set_cons_succ])
        refine wpAnyH_ready (rs := [9]) (by kernel_rfl) (by simp) ?_
        refine AllReadyH.cons rfl (fun K hK => ?_) AllReadyH.nil
        refine step_append_own rfl _ _ 22 rfl _ 48 i0 (.agg #[.string ⟨#[]⟩, .slice none 0 0]) 2 40 Try.underlying22 hi hz0 hz1 hz2' rfl (by decide) _ _ _ rfl HM5.out.o.row ⟨w4.heap.size, 0, none⟩ 1 1 [encStr q.1, .slice o4 xs.length k4] rfl rfl HPN.out (by simp [Value.oneCell', encStr]) (by unfold maxLen; omega) (by omega) HM5.out.size ?_
        intro v6 w6 hown6 hg6 _
        obtain ⟨a6, k6, rfl⟩ := own_slice hown6
        rw [HW5.out] at hg6
        have HF := Lib.hid (HM4.out.snoc (p := (⟨q.1, xs⟩, .slice o4 xs.length k4)) hWl hfl hown6 hg6 HBR4.out HNL.out)
        clear hown6 hg6
        refine hK.out _ _ (HF.out.1.2.cell 0 rfl) (fun hHeld6 => ?_)
        clear hK K
        (try simp only [Act.put, List.setIfInBounds_toArray, List.set_cons_zero, List.set_cons_succ])
        refine wpAnyH_ready (rs := [10]) (by kernel_rfl) (by simp) ?_
        refine AllReadyH.cons rfl (fun K hK => ?_) AllReadyH.nil
        have cl := HF.out.1.1.cell 0 rfl
        have fl := HF.out.1.1.free 0
        go_simp
        refine hK.out _ _ ((HF.out.1.2.other (by exact hfne) _).cell 0 rfl) (fun hHeld7 => ?_)
        clear hK K cl fl
        (try simp only [Act.put, List.setIfInBounds_toArray, List.set_cons_zero, List.set_cons_succ])
        refine wpAnyH_done (by kernel_rfl) ?_ _
        obtain ⟨⟨f1, f2⟩, f3, f4, f5, f6⟩ := HF.out
        exact ⟨f6.trans (KeepsOthers.setCell _ _ _), f4.trans (KeepD.set f1 rfl _), ⟨_, _, f1.set 0 _, f5.set hWl _, by rw [List.map_append, List.map_append, HPS.out]; exact congrArg (fun z => _ ++ [z]) HFD.out.symm, f3.trans (KeepB.set _)⟩⟩
      · go_simp
        obtain ⟨w5, hw5⟩ : ∃ w5, w5 = w4.alloc (.cells #[encStr q.1, .slice o4 xs.length k4] 48) := ⟨_, rfl⟩
        have HM5 := Lib.hid (show ListMid _ _ _ _ _ _ _ _ _ w5 by rw [hw5]; exact HM4.out.next ((Below.refl _ _).alloc (Nat.le_refl _) _))
        have HPN := Lib.hid (show ∀ (j : Nat) (u : Value), [encStr q.1, .slice o4 xs.length k4][j]? = some u → w5.cell? ((⟨w4.heap.size, 0, none⟩ : Addr).add j) = some u by rw [hw5]; exact pair_new w4 _ _ _)
        rw [← hw5]
        have HW5 := Lib.hid hw5
        clear hw5
        refine hK.out _ _ (HM5.out.fb.cell 0 rfl) (fun hHeld5 => ?_)
        clear hK K
        (try simp only [Act.put, List.setIfInBounds_toArray, List.set_cons_zero, List.set_cons_succ])
        refine wpAnyH_ready (rs := [0]) (by kernel_rfl) (by simp) ?_
        refine AllReadyH.cons rfl (fun K hK => ?_) AllReadyH.nil
        have cl := HM5.out.bx.cell 0 rfl
        go_simp
        refine hK.out _ _ (HM5.out.fb.cell 0 rfl) (fun hHeld2 => ?_)
        clear hK K cl
        (try simp only [Act.put, List.setIfInBounds_toArray, List.set_cons_zero, List.set_cons_succ])
        refine wpAnyH_ready (rs := [9]) (by kernel_rfl) (by simp) ?_
        refine AllReadyH.cons rfl (fun K hK => ?_) AllReadyH.nil
        refine step_append_own rfl _ _ 22 rfl _ 48 i0 (.agg #[.string ⟨#[]⟩, .slice none 0 0]) 2 40 Try.underlying22 hi hz0 hz1 hz2' rfl (by decide) _ _ _ rfl HM5.out.o.row ⟨w4.heap.size, 0, none⟩ 1 1 [encStr q.1, .slice o4 xs.length k4] rfl rfl HPN.out (by simp [Value.oneCell', encStr]) (by unfold maxLen; omega) (by omega) HM5.out.size ?_
        intro v6 w6 hown6 hg6 _
        obtain ⟨a6, k6, rfl⟩ := own_slice hown6
        rw [HW5.out] at hg6
        have HF := Lib.hid (HM4.out.snoc (p := (⟨q.1, xs⟩, .slice o4 xs.length k4)) hWl hfl hown6 hg6 HBR4.out HNL.out)
        clear hown6 hg6
        refine hK.out _ _ (HF.out.1.2.cell 0 rfl) (fun hHeld6 => ?_)
        clear hK K
        (try simp only [Act.put, List.setIfInBounds_toArray, List.set_cons_zero, List.set_cons_succ])
        refine wpAnyH_ready (rs := [10]) (by kernel_rfl) (by simp) ?_
        refine AllReadyH.cons rfl (fun K hK => ?_) AllReadyH.nil
        have cl := HF.out.1.1.cell 0 rfl
        have fl := HF.out.1.1.free 0
        go_simp
        refine hK.out _ _ ((HF.out.1.2.other (by exact hfne) _).cell 0 rfl) (fun hHeld7 => ?_)
        clear hK K cl fl
        (try simp only [Act.put, List.setIfInBounds_toArray, List.set_cons_zero, List.set_cons_succ])
        refine wpAnyH_done (by kernel_rfl) ?_ _
        obtain ⟨⟨f1, f2⟩, f3, f4, f5, f6⟩ := HF.out
        exact ⟨f6.trans (KeepsOthers.setCell _ _ _), f4.trans (KeepD.set f1 rfl _), ⟨_, _, f1.set 0 _, f5.set hWl _, by rw [List.map_append, List.map_append, HPS.out]; exact congrArg (fun z => _ ++ [z]) HFD.out.symm, f3.trans (KeepB.set _)⟩⟩
    --END
  case done =>
    rintro D ys W hD rfl ⟨v, ps, hbx, ho, hps, hkb⟩ hK
    rw [fin_map] at hps
    obtain ⟨av, kv, rfl⟩ := own_slice ho.row
    have HO := Lib.hid ho
    have HPS := Lib.hid hps
    have HKB := Lib.hid hkb
    have HK := Lib.hid hK
    have HDD2 := Lib.hid hD
    have cl := hbx.cell 0 rfl
    have hwl : w.heap.size ≤ w2.heap.size := by omega
    clear ho hps hkb hK hD hbx
    go_wp2_with fail
    refine ⟨by simp, .inl ⟨_, _, rfl, run_takeDeferred HK.out, ?_⟩⟩
    refine ⟨.tuple #[.slice av ps.length kv, .int .i64 0], by simp [results, Try.results12, go_sem], ?_⟩
    have hb : Below w.heap.size w W := HB2.out.trans (HKB.out.below hwl (Nat.le_refl _))
    exact ⟨⟨_, ps, rfl, (HO.out.keeps (grownBy_putObj' W D _) (fun r e => by cases e; exact ⟨_, HK.out, rfl⟩)).mono hwl, HPS.out⟩, hb.trans (putObj_below (by have := HDD2.out; omega) hb.size)⟩
end Go.Proofs.Ytejmbhckfdfoeaa
