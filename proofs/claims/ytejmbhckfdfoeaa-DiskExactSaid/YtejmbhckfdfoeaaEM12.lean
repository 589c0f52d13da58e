/-
  THE REFERENCE'S Write.
-/
import Derived.Test.YtejmbhckfdfoeaaEM11
import Derived.Test.YtejmbhckfdfoeaaEM07
set_option linter.unusedVariables false
set_option linter.unusedSimpArgs false
namespace Go.Proofs.Ytejmbhckfdfoeaa
open Go.RowKit Go.Maps
/-- what Write answers; the file that it makes has this number -/
def stepWrite (s : DSt) (x : List UInt8) (xs : List Int) (f : Nat) : Int × DSt :=
  if s.dead then (6, s) else if goodNm x then (if lget s.seen x = none ∧ s.seen.length = 16 then (6, strokeS s) else (toldI (offB s), writeS (strokeS s) x f xs)) else (1, s)
theorem RRepr.add {B : Nat} {w : World} {r : Nat} {vl vr : Value} {t : DSt} (h : RRepr B w r vl vr t) {f : Nat} {va vb : Value} {xs ys : List Int} (hb : Box w f 87 #[va, vb]) (h1 : BytesRep B w va ys) (h2 : BytesRep B w vb xs) (hf : B ≤ f) : RRepr B w r vl vr (addS t f xs ys) := by
  refine ⟨h.box, h.safe, h.row, fun g hg => ?_, h.hr⟩
  by_cases e : g = f
  · subst e
    simp only [addS, updF, if_true]
    exact ⟨va, vb, hb, h1, h2, hf⟩
  · simp only [addS, updF, if_neg e]
    exact h.files g ((List.mem_cons.1 hg).resolve_left e)
theorem cells3 (w : World) (a b c : Value) (e : TypeId) : ∀ (j : Nat) (u : Value), [a, b, c][j]? = some u → (w.alloc (.cells #[a, b, c] e)).cell? ((⟨w.heap.size, 0, none⟩ : Addr).add j) = some u := fun j u h => cells_new w [a, b, c] e (0, 0) j u h
set_option maxRecDepth 100000 in
set_option maxHeartbeats 4000000 in
theorem rwrite_any {B : Nat} {w : World} {r : Nat} {vl vr : Value} {t : DSt} (h : RRepr B w r vl vr t) (hi : RInv t) (x : List UInt8) (hx : x.length ≤ maxLen) (v : Value) (xs : List Int) (hv : ∀ w', StepR B w w' → Rd w' .u8 v xs) (hxl : xs.length ≤ 4194304) :
    Calls Try.prog 48 #[.pointer (some ⟨r, 0, none⟩), .string ⟨x.toArray⟩, v] w fun e w' => ∃ f, w.heap.size ≤ f ∧ e = .returned (.int .i64 (stepWrite t x xs f).1) ∧ (∃ vl' vr', RRepr B w' r vl' vr' (stepWrite t x xs f).2) ∧ StepR B w w' := by
  have HR := Lib.hid h
  have HI := Lib.hid hi
  have HX := Lib.hid hx
  obtain ⟨ov, cv, rfl⟩ := rd_slice (hv w (StepR.refl _ _))
  have HV := Lib.hid hv
  have hle : decide ((4194304 : Int) < xs.length) = false := decide_eq_false (by omega)
  have c4 := h.box.cell 4 rfl
  have hBw : B ≤ w.heap.size := Nat.le_of_lt h.base
  obtain ⟨dd, hdd⟩ : ∃ dd, dd = t.dead := ⟨_, rfl⟩
  have c4' : w.cell? ⟨r, 4, none⟩ = some (.bool dd) := by rw [hdd]; exact c4
  have HDD := Lib.hid hdd
  clear h hi hx hv c4 hdd
  cases dd with
  | true =>
    go_enter Try.func48, Try.ntmps48
    go_wp2_with fail
    go_ret
    refine ⟨_, Nat.le_refl _, ?_⟩
    rw [stepWrite, if_pos HDD.out.symm]
    exact ⟨rfl, ⟨vl, vr, HR.out⟩, StepR.refl _ _⟩
  | false =>
    go_enter Try.func48, Try.ntmps48
    go_wp2_with fail
    clear c4'
    refine (refName_nm x _ HX.out).mono ?_
    rintro e w' ⟨rfl, rfl⟩
    have HND := Lib.hid (show ¬ t.dead = true by rw [← HDD.out]; decide)
    cases hg : goodNm x with
    | false =>
      have HG := Lib.hid hg
      clear hg
      go_wp2_with fail
      go_ret
      refine ⟨_, Nat.le_refl _, ?_⟩
      rw [stepWrite, if_neg HND.out, if_neg (by rw [HG.out]; decide)]
      exact ⟨rfl, ⟨vl, vr, HR.out⟩, StepR.refl _ _⟩
    | true =>
      have HG := Lib.hid hg
      clear hg
      go_wp2_with fail
      refine (rstroke_any HR.out HI.out.st HDD.out.symm (HI.out.pw HDD.out.symm) HI.out.ob).mono ?_
      rintro e w2 ⟨rfl, hr2, hb2, hz2, hk2⟩
      have HR2 := Lib.hid hr2
      have HS2 := Lib.hid (stepR_stroke hb2 HR.out.box rfl (fun k h1 _ => hk2 k h1))
      have hz2' : B ≤ w2.heap.size := by omega
      have HZW := Lib.hid (show w.heap.size = w2.heap.size from hz2.symm)
      clear hr2 hb2 hz2 hk2
      go_wp2_with fail
      refine (rfind_any HR2.out HI.out.wf.stroke HI.out.ris x).mono ?_
      rintro e w2b ⟨rfl, hb3⟩
      rw [show runC (strokeS t).safe (strokeS t).chs = t.seen from HI.out.run.symm]
      have HR2b := Lib.hid (HR2.out.next hb3)
      have HS2b := Lib.hid (HS2.out.trans (StepR.of_below hb3 hz2'))
      have hz2b := hb3.size
      have hcl := HI.out.wf.chl
      clear hb3
      obtain ⟨avr, kvr, hvr⟩ := own_slice HR2b.out.row
      rw [hvr] at HR2b
      have HR2b := Lib.hid (show RRepr B w2b r vl (.slice avr t.chs.length kvr) (strokeS t) from HR2b.out)
      clear hvr
      by_cases hfull : lget t.seen x = none ∧ t.seen.length = 16
      · have HFU := Lib.hid hfull
        rw [hfull.1]
        clear hfull
        simp only [ptrV]
        have d1 := HR2b.out.box.cell 1 rfl
        go_wp2_with fail
        clear d1
        refine (rlist_any HR2b.out HI.out.wf.stroke t.chs.length (Nat.le_refl _)).mono ?_
        rintro e w3 ⟨⟨v3, rfl, ho3⟩, hb3⟩
        rw [show runC (strokeS t).safe ((strokeS t).chs.take t.chs.length) = t.seen from by rw [show (strokeS t).chs = t.chs from rfl, List.take_length]; exact HI.out.run.symm] at ho3
        obtain ⟨a3, k3, rfl⟩ := own_slice ho3
        rw [HFU.out.2]
        have HR3 := Lib.hid (HR2b.out.next hb3)
        have HS3 := Lib.hid (HS2b.out.trans (StepR.of_below hb3 (by omega)))
        clear ho3 hb3
        go_wp2_with fail
        go_ret
        refine ⟨w.heap.size, Nat.le_refl _, ?_⟩
        rw [stepWrite, if_neg HND.out, if_pos HG.out, if_pos HFU.out]
        exact ⟨rfl, ⟨vl, _, HR3.out⟩, HS3.out⟩
      have HFULL := Lib.hid hfull
      cases hget : lget t.seen x with
      | none =>
        have hl16 : t.seen.length ≠ 16 := fun e => hfull ⟨hget, e⟩
        have hbl : ((t.seen.length : Int) == 16) = false := by rw [beq_eq_false_iff_ne]; omega
        clear hfull hget
        simp only [ptrV]
        have d1 := HR2b.out.box.cell 1 rfl
        go_wp2_with fail
        clear d1
        refine (rlist_any HR2b.out HI.out.wf.stroke t.chs.length (Nat.le_refl _)).mono ?_
        rintro e w2c ⟨⟨v3, rfl, ho3⟩, hb3⟩
        rw [show runC (strokeS t).safe ((strokeS t).chs.take t.chs.length) = t.seen from by rw [show (strokeS t).chs = t.chs from rfl, List.take_length]; exact HI.out.run.symm] at ho3
        obtain ⟨a3, k3, rfl⟩ := own_slice ho3
        have HRc := Lib.hid (HR2b.out.next hb3)
        have HSc := Lib.hid (HS2b.out.trans (StepR.of_below hb3 (by omega)))
        have hzc := hb3.size
        clear ho3 hb3
        go_wp2_with fail
        clear hbl hl16
        have hzB : B ≤ w2c.heap.size := by omega
        have hzW : w.heap.size ≤ w2c.heap.size := by have := HZW.out; omega
        have HZW := Lib.hid hzW
        have hdr : Below w2c.heap.size w2c w2c.drew := Below.drew (Below.refl _ _)
        have HR3 := Lib.hid (HRc.out.next hdr)
        have HS3 := Lib.hid (HSc.out.trans (StepR.of_below hdr hzB))
        have HRD := HV
        have HU3 := Lib.hid (show KeepU w w2c.drew from fun k cs fz hk => HS3.out.keep k _ hk rfl)
        have hz3 : B ≤ w2c.drew.heap.size := hzB
        obtain ⟨i0, hi, hz0, hz1, hzz⟩ := info_parts info_rchg
        clear hdr
        refine wp_region_held_drew (S := fun _ => True) (by kernel_rfl) trivial (fun hHeld => ?_)
        clear hHeld
        have hTr : True := trivial
        refine wpAnyH_take (i := 0) (v := ?_) rfl (by kernel_rfl) (by kernel_rfl) (by kernel_rfl) (fun _ _ _ h => h) (Or.inl ⟨by rfl, ?_⟩) (by assumption) ?_
        rotate_left
        · (intro w hSw; (try dsimp only at hSw); go_simp; (try with_reducible rfl))
        (try simp only [Act.put, List.setIfInBounds_toArray, List.set_cons_zero, List.set_cons_succ])
        refine wpAnyH_take (i := 1) (v := ?_) rfl (by kernel_rfl) (by kernel_rfl) (by kernel_rfl) (fun _ _ _ h => h) (Or.inl ⟨by rfl, ?_⟩) (by assumption) ?_
        rotate_left
        · (intro w hSw; (try dsimp only at hSw); go_simp; (try with_reducible rfl))
        (try simp only [Act.put, List.setIfInBounds_toArray, List.set_cons_zero, List.set_cons_succ])
        refine wpAnyH_take (i := 2) (v := ?_) rfl (by kernel_rfl) (by kernel_rfl) (by kernel_rfl) (fun _ _ _ h => h) (Or.inl ⟨by rfl, ?_⟩) (by assumption) ?_
        rotate_left
        · (intro w hSw; (try dsimp only at hSw); go_simp; (try with_reducible rfl))
        (try simp only [Act.put, List.setIfInBounds_toArray, List.set_cons_zero, List.set_cons_succ])
        refine wpAnyH_take (i := 3) (v := ?_) rfl (by kernel_rfl) (by kernel_rfl) (by kernel_rfl) (fun _ _ _ h => h) (Or.inl ⟨by rfl, ?_⟩) (by assumption) ?_
        rotate_left
        · (intro w hSw; (try dsimp only at hSw); go_simp; (try with_reducible rfl))
        (try simp only [Act.put, List.setIfInBounds_toArray, List.set_cons_zero, List.set_cons_succ])
        refine wpAnyH_take (i := 5) (v := ?_) rfl (by kernel_rfl) (by kernel_rfl) (by kernel_rfl) (fun _ _ _ h => h) (Or.inl ⟨by rfl, ?_⟩) (by assumption) ?_
        rotate_left
        · (intro w hSw; (try dsimp only at hSw); go_simp; (try with_reducible rfl))
        (try simp only [Act.put, List.setIfInBounds_toArray, List.set_cons_zero, List.set_cons_succ])
        refine wpAnyH_take (i := 6) (v := ?_) rfl (by kernel_rfl) (by kernel_rfl) (by kernel_rfl) (fun _ _ _ h => h) (Or.inl ⟨by rfl, ?_⟩) (by assumption) ?_
        rotate_left
        · (intro w hSw; (try dsimp only at hSw); go_simp; (try with_reducible rfl))
        (try simp only [Act.put, List.setIfInBounds_toArray, List.set_cons_zero, List.set_cons_succ])
        refine wpAnyH_ready (rs := [4, 7]) (by kernel_rfl) (by simp) ?_
        refine AllReadyH.cons rfl (fun K hK => ?_) (AllReadyH.cons rfl (fun K hK => ?_) AllReadyH.nil)
        · have cl := HR3.out.box.cell 1 rfl
          go_simp
          refine hK.out _ _ trivial (fun hHeld => ?_)
          clear hK K cl hHeld
          (try simp only [Act.put, List.setIfInBounds_toArray, List.set_cons_zero, List.set_cons_succ])
          refine wpAnyH_ready (rs := [7]) (by kernel_rfl) (by simp) ?_
          refine AllReadyH.cons rfl (fun K hK => ?_) AllReadyH.nil
          go_simp
          go_at_call 14
          refine (copyBytes_any _ xs _ (HRD.out _ HS3.out) (by omega)).mono ?_
          rintro e w4 ⟨v4, rfl, ho, hb4⟩
          obtain ⟨o4, k4, rfl⟩ := own_slice ho
          have HR4 := Lib.hid (HR3.out.next hb4)
          have HBY4 := Lib.hid ((BytesRep.own ho hxl).mono hz3)
          have HS4 := Lib.hid (HS3.out.trans (StepR.of_below hb4 hz3))
          have hz4 := hb4.size
          clear ho hb4
          go_wp2_with fail
          refine hK.out _ _ trivial (fun hHeld => ?_)
          clear hK K hHeld
          (try simp only [Act.put, List.setIfInBounds_toArray, List.set_cons_zero, List.set_cons_succ])
          refine wpAnyH_take (i := 8) (v := ?_) rfl (by kernel_rfl) (by kernel_rfl) (by kernel_rfl) (fun _ _ _ h => h) (Or.inl ⟨by rfl, ?_⟩) (by assumption) ?_
          rotate_left
          · (intro w hSw; (try dsimp only at hSw); go_simp; (try with_reducible rfl))
          (try simp only [Act.put, List.setIfInBounds_toArray, List.set_cons_zero, List.set_cons_succ])
          refine wpAnyH_ready (rs := [9]) (by kernel_rfl) (by simp) ?_
          refine AllReadyH.cons rfl (fun K hK => ?_) AllReadyH.nil
          go_simp
          obtain ⟨w5, hw5⟩ : ∃ w5, w5 = w4.alloc (.cells #[.slice none 0 0, .slice o4 xs.length k4] 87) := ⟨_, rfl⟩
          have hb5 : Below w4.heap.size w4 w5 := by rw [hw5]; exact (Below.refl _ _).alloc (Nat.le_refl _) _
          have HBI := Lib.hid (show Box w5 w4.heap.size 87 #[.slice none 0 0, .slice o4 xs.length k4] by rw [hw5]; exact Box.new _ _ _)
          have HR5 := Lib.hid ((HR4.out.next hb5).add HBI.out (BytesRep.nil _ _) (HBY4.out.moveU (KeepU.below hb5)) (Nat.le_trans hz3 hz4))
          have HS5 := Lib.hid (HS4.out.trans (StepR.of_below hb5 (Nat.le_trans hz3 hz4)))
          have hz5 := hb5.size
          rw [← hw5]
          clear hb5 hw5
          refine hK.out _ _ trivial (fun hHeld => ?_)
          clear hK K hHeld
          (try simp only [Act.put, List.setIfInBounds_toArray, List.set_cons_zero, List.set_cons_succ])
          refine wpAnyH_take (i := 10) (v := ?_) rfl (by kernel_rfl) (by kernel_rfl) (by kernel_rfl) (fun _ _ _ h => h) (Or.inl ⟨by rfl, ?_⟩) (by assumption) ?_
          rotate_left
          · (intro w hSw; (try dsimp only at hSw); go_simp; (try with_reducible rfl))
          (try simp only [Act.put, List.setIfInBounds_toArray, List.set_cons_zero, List.set_cons_succ])
          refine wpAnyH_ready (rs := [11]) (by kernel_rfl) (by simp) ?_
          refine AllReadyH.cons rfl (fun K hK => ?_) AllReadyH.nil
          go_simp
          obtain ⟨w6, hw6⟩ : ∃ w6, w6 = w5.alloc (.cells #[.string ⟨x.toArray⟩, .pointer (some ⟨w4.heap.size, 0, none⟩), .string ⟨#[]⟩] 107) := ⟨_, rfl⟩
          have hb6 : Below w5.heap.size w5 w6 := by rw [hw6]; exact (Below.refl _ _).alloc (Nat.le_refl _) _
          have HR6 := Lib.hid (HR5.out.next hb6)
          have HPN := Lib.hid (show ∀ (j : Nat) (u : Value), [.string ⟨x.toArray⟩, .pointer (some ⟨w4.heap.size, 0, none⟩), .string ⟨#[]⟩][j]? = some u → w6.cell? ((⟨w5.heap.size, 0, none⟩ : Addr).add j) = some u by rw [hw6]; exact cells3 w5 _ _ _ _)
          have hz6 := hb6.size
          rw [← hw6]
          have HW6 := Lib.hid hw6
          clear hb6 hw6
          refine hK.out _ _ trivial (fun hHeld => ?_)
          clear hK K hHeld
          (try simp only [Act.put, List.setIfInBounds_toArray, List.set_cons_zero, List.set_cons_succ])
          refine wpAnyH_ready (rs := [12]) (by kernel_rfl) (by simp) ?_
          refine AllReadyH.cons rfl (fun K hK => ?_) AllReadyH.nil
          refine step_append_own rfl _ _ 82 rfl B 107 i0 (.agg #[.string ⟨#[]⟩, .pointer none, .string ⟨#[]⟩]) 3 40 Try.underlying82 hi hz0 hz1 hzz rfl (by decide) _ _ _ rfl HR6.out.row ⟨w5.heap.size, 0, none⟩ 1 1 [.string ⟨x.toArray⟩, .pointer (some ⟨w4.heap.size, 0, none⟩), .string ⟨#[]⟩] rfl rfl HPN.out (by simp [Value.oneCell']) (by unfold maxLen; have : (addS (strokeS t) w4.heap.size xs []).chs.length = t.chs.length := rfl; omega) (by have : (addS (strokeS t) w4.heap.size xs []).chs.length = t.chs.length := rfl; omega) (Nat.le_of_lt HR6.out.base) ?_
          intro v7 w7 hown7 hg7 _
          obtain ⟨a7, k7, rfl⟩ := own_slice hown7
          have hbx7 : Box w7 r 84 #[vl, .slice avr t.chs.length kvr, .int .i64 (strokeS t).strokes, .int .i64 (strokeS t).off, .bool (strokeS t).dead] := by
            refine (hg7.block r HR6.out.box.lt fun e => ?_).trans HR6.out.box
            rcases HR6.out.row.2 with ⟨h1, _⟩ | ⟨g, cap, cur, h1, hb, hgg, rest⟩
            · simp at h1
              rw [h1.1] at e
              cases e
            · simp at h1
              rw [h1.1] at e
              cases e
              have := HR6.out.box
              unfold Box at this
              rw [hgg] at this
              simp at this
          rw [HW6.out] at hg7
          have HF := Lib.hid (HR5.out.push (c := .put x w4.heap.size) hown7 hg7)
          have HB7 := Lib.hid hbx7
          clear hown7 hg7 hbx7
          refine hK.out _ _ trivial (fun hHeld => ?_)
          clear hK K hHeld
          (try simp only [Act.put, List.setIfInBounds_toArray, List.set_cons_zero, List.set_cons_succ])
          refine wpAnyH_take (i := 13) (v := ?_) rfl (by kernel_rfl) (by kernel_rfl) (by kernel_rfl) (fun _ _ _ h => h) (Or.inl ⟨by rfl, ?_⟩) (by assumption) ?_
          rotate_left
          · (intro w hSw; (try dsimp only at hSw); go_simp; (try with_reducible rfl))
          (try simp only [Act.put, List.setIfInBounds_toArray, List.set_cons_zero, List.set_cons_succ])
          refine wpAnyH_take (i := 14) (v := ?_) rfl (by kernel_rfl) (by kernel_rfl) (by kernel_rfl) (fun _ _ _ h => h) (Or.inl ⟨by rfl, ?_⟩) (by assumption) ?_
          rotate_left
          · (intro w hSw; (try dsimp only at hSw); go_simp; (try with_reducible rfl))
          (try simp only [Act.put, List.setIfInBounds_toArray, List.set_cons_zero, List.set_cons_succ])
          refine wpAnyH_ready (rs := [15]) (by kernel_rfl) (by simp) ?_
          refine AllReadyH.cons rfl (fun K hK => ?_) AllReadyH.nil
          have cl := HB7.out.cell 1 rfl
          have fl := HB7.out.free 1
          go_simp
          refine hK.out _ _ trivial (fun hHeld => ?_)
          clear hK K cl fl hHeld
          (try simp only [Act.put, List.setIfInBounds_toArray, List.set_cons_zero, List.set_cons_succ])
          refine wpAnyH_done (by kernel_rfl) ?_ _
          have d4 := HF.out.1.box.cell 4 rfl
          rw [show (chgS (addS (strokeS t) w4.heap.size xs []) (.put x w4.heap.size)).dead = offB t from rfl] at d4
          go_wp2_with fail
          refine (rend_any (b := offB t) d4).mono ?_
          rintro e w' ⟨rfl, rfl⟩
          clear d4
          go_wp2_with fail
          go_ret
          refine ⟨w4.heap.size, by have h1 := HZW.out; have h2 : w2c.drew.heap.size = w2c.heap.size := rfl; omega, ?_⟩
          rw [stepWrite, if_neg HND.out, if_pos HG.out, if_neg HFULL.out]
          exact ⟨rfl, ⟨vl, _, HF.out.1⟩, HS5.out.trans HF.out.2⟩
        · go_simp
          go_at_call 14
          refine (copyBytes_any _ xs _ (HRD.out _ HS3.out) (by omega)).mono ?_
          rintro e w4 ⟨v4, rfl, ho, hb4⟩
          obtain ⟨o4, k4, rfl⟩ := own_slice ho
          have HR4 := Lib.hid (HR3.out.next hb4)
          have HBY4 := Lib.hid ((BytesRep.own ho hxl).mono hz3)
          have HS4 := Lib.hid (HS3.out.trans (StepR.of_below hb4 hz3))
          have hz4 := hb4.size
          clear ho hb4
          go_wp2_with fail
          refine hK.out _ _ trivial (fun hHeld => ?_)
          clear hK K hHeld
          (try simp only [Act.put, List.setIfInBounds_toArray, List.set_cons_zero, List.set_cons_succ])
          refine wpAnyH_take (i := 8) (v := ?_) rfl (by kernel_rfl) (by kernel_rfl) (by kernel_rfl) (fun _ _ _ h => h) (Or.inl ⟨by rfl, ?_⟩) (by assumption) ?_
          rotate_left
          · (intro w hSw; (try dsimp only at hSw); go_simp; (try with_reducible rfl))
          (try simp only [Act.put, List.setIfInBounds_toArray, List.set_cons_zero, List.set_cons_succ])
          refine wpAnyH_ready (rs := [4, 9]) (by kernel_rfl) (by simp) ?_
          refine AllReadyH.cons rfl (fun K hK => ?_) (AllReadyH.cons rfl (fun K hK => ?_) AllReadyH.nil)
          · have cl := HR4.out.box.cell 1 rfl
            go_simp
            refine hK.out _ _ trivial (fun hHeld => ?_)
            clear hK K cl hHeld
            (try simp only [Act.put, List.setIfInBounds_toArray, List.set_cons_zero, List.set_cons_succ])
            refine wpAnyH_ready (rs := [9]) (by kernel_rfl) (by simp) ?_
            refine AllReadyH.cons rfl (fun K hK => ?_) AllReadyH.nil
            go_simp
            obtain ⟨w5, hw5⟩ : ∃ w5, w5 = w4.alloc (.cells #[.slice none 0 0, .slice o4 xs.length k4] 87) := ⟨_, rfl⟩
            have hb5 : Below w4.heap.size w4 w5 := by rw [hw5]; exact (Below.refl _ _).alloc (Nat.le_refl _) _
            have HBI := Lib.hid (show Box w5 w4.heap.size 87 #[.slice none 0 0, .slice o4 xs.length k4] by rw [hw5]; exact Box.new _ _ _)
            have HR5 := Lib.hid ((HR4.out.next hb5).add HBI.out (BytesRep.nil _ _) (HBY4.out.moveU (KeepU.below hb5)) (Nat.le_trans hz3 hz4))
            have HS5 := Lib.hid (HS4.out.trans (StepR.of_below hb5 (Nat.le_trans hz3 hz4)))
            have hz5 := hb5.size
            rw [← hw5]
            clear hb5 hw5
            refine hK.out _ _ trivial (fun hHeld => ?_)
            clear hK K hHeld
            (try simp only [Act.put, List.setIfInBounds_toArray, List.set_cons_zero, List.set_cons_succ])
            refine wpAnyH_take (i := 10) (v := ?_) rfl (by kernel_rfl) (by kernel_rfl) (by kernel_rfl) (fun _ _ _ h => h) (Or.inl ⟨by rfl, ?_⟩) (by assumption) ?_
            rotate_left
            · (intro w hSw; (try dsimp only at hSw); go_simp; (try with_reducible rfl))
            (try simp only [Act.put, List.setIfInBounds_toArray, List.set_cons_zero, List.set_cons_succ])
            refine wpAnyH_ready (rs := [11]) (by kernel_rfl) (by simp) ?_
            refine AllReadyH.cons rfl (fun K hK => ?_) AllReadyH.nil
            go_simp
            obtain ⟨w6, hw6⟩ : ∃ w6, w6 = w5.alloc (.cells #[.string ⟨x.toArray⟩, .pointer (some ⟨w4.heap.size, 0, none⟩), .string ⟨#[]⟩] 107) := ⟨_, rfl⟩
            have hb6 : Below w5.heap.size w5 w6 := by rw [hw6]; exact (Below.refl _ _).alloc (Nat.le_refl _) _
            have HR6 := Lib.hid (HR5.out.next hb6)
            have HPN := Lib.hid (show ∀ (j : Nat) (u : Value), [.string ⟨x.toArray⟩, .pointer (some ⟨w4.heap.size, 0, none⟩), .string ⟨#[]⟩][j]? = some u → w6.cell? ((⟨w5.heap.size, 0, none⟩ : Addr).add j) = some u by rw [hw6]; exact cells3 w5 _ _ _ _)
            have hz6 := hb6.size
            rw [← hw6]
            have HW6 := Lib.hid hw6
            clear hb6 hw6
            refine hK.out _ _ trivial (fun hHeld => ?_)
            clear hK K hHeld
            (try simp only [Act.put, List.setIfInBounds_toArray, List.set_cons_zero, List.set_cons_succ])
            refine wpAnyH_ready (rs := [12]) (by kernel_rfl) (by simp) ?_
            refine AllReadyH.cons rfl (fun K hK => ?_) AllReadyH.nil
            refine step_append_own rfl _ _ 82 rfl B 107 i0 (.agg #[.string ⟨#[]⟩, .pointer none, .string ⟨#[]⟩]) 3 40 Try.underlying82 hi hz0 hz1 hzz rfl (by decide) _ _ _ rfl HR6.out.row ⟨w5.heap.size, 0, none⟩ 1 1 [.string ⟨x.toArray⟩, .pointer (some ⟨w4.heap.size, 0, none⟩), .string ⟨#[]⟩] rfl rfl HPN.out (by simp [Value.oneCell']) (by unfold maxLen; have : (addS (strokeS t) w4.heap.size xs []).chs.length = t.chs.length := rfl; omega) (by have : (addS (strokeS t) w4.heap.size xs []).chs.length = t.chs.length := rfl; omega) (Nat.le_of_lt HR6.out.base) ?_
            intro v7 w7 hown7 hg7 _
            obtain ⟨a7, k7, rfl⟩ := own_slice hown7
            have hbx7 : Box w7 r 84 #[vl, .slice avr t.chs.length kvr, .int .i64 (strokeS t).strokes, .int .i64 (strokeS t).off, .bool (strokeS t).dead] := by
              refine (hg7.block r HR6.out.box.lt fun e => ?_).trans HR6.out.box
              rcases HR6.out.row.2 with ⟨h1, _⟩ | ⟨g, cap, cur, h1, hb, hgg, rest⟩
              · simp at h1
                rw [h1.1] at e
                cases e
              · simp at h1
                rw [h1.1] at e
                cases e
                have := HR6.out.box
                unfold Box at this
                rw [hgg] at this
                simp at this
            rw [HW6.out] at hg7
            have HF := Lib.hid (HR5.out.push (c := .put x w4.heap.size) hown7 hg7)
            have HB7 := Lib.hid hbx7
            clear hown7 hg7 hbx7
            refine hK.out _ _ trivial (fun hHeld => ?_)
            clear hK K hHeld
            (try simp only [Act.put, List.setIfInBounds_toArray, List.set_cons_zero, List.set_cons_succ])
            refine wpAnyH_take (i := 13) (v := ?_) rfl (by kernel_rfl) (by kernel_rfl) (by kernel_rfl) (fun _ _ _ h => h) (Or.inl ⟨by rfl, ?_⟩) (by assumption) ?_
            rotate_left
            · (intro w hSw; (try dsimp only at hSw); go_simp; (try with_reducible rfl))
            (try simp only [Act.put, List.setIfInBounds_toArray, List.set_cons_zero, List.set_cons_succ])
            refine wpAnyH_take (i := 14) (v := ?_) rfl (by kernel_rfl) (by kernel_rfl) (by kernel_rfl) (fun _ _ _ h => h) (Or.inl ⟨by rfl, ?_⟩) (by assumption) ?_
            rotate_left
            · (intro w hSw; (try dsimp only at hSw); go_simp; (try with_reducible rfl))
            (try simp only [Act.put, List.setIfInBounds_toArray, List.set_cons_zero, List.set_cons_succ])
            refine wpAnyH_ready (rs := [15]) (by kernel_rfl) (by simp) ?_
            refine AllReadyH.cons rfl (fun K hK => ?_) AllReadyH.nil
            have cl := HB7.out.cell 1 rfl
            have fl := HB7.out.free 1
            go_simp
            refine hK.out _ _ trivial (fun hHeld => ?_)
            clear hK K cl fl hHeld
            (try simp only [Act.put, List.setIfInBounds_toArray, List.set_cons_zero, List.set_cons_succ])
            refine wpAnyH_done (by kernel_rfl) ?_ _
            have d4 := HF.out.1.box.cell 4 rfl
            rw [show (chgS (addS (strokeS t) w4.heap.size xs []) (.put x w4.heap.size)).dead = offB t from rfl] at d4
            go_wp2_with fail
            refine (rend_any (b := offB t) d4).mono ?_
            rintro e w' ⟨rfl, rfl⟩
            clear d4
            go_wp2_with fail
            go_ret
            refine ⟨w4.heap.size, by have h1 := HZW.out; have h2 : w2c.drew.heap.size = w2c.heap.size := rfl; omega, ?_⟩
            rw [stepWrite, if_neg HND.out, if_pos HG.out, if_neg HFULL.out]
            exact ⟨rfl, ⟨vl, _, HF.out.1⟩, HS5.out.trans HF.out.2⟩
          · go_simp
            obtain ⟨w5, hw5⟩ : ∃ w5, w5 = w4.alloc (.cells #[.slice none 0 0, .slice o4 xs.length k4] 87) := ⟨_, rfl⟩
            have hb5 : Below w4.heap.size w4 w5 := by rw [hw5]; exact (Below.refl _ _).alloc (Nat.le_refl _) _
            have HBI := Lib.hid (show Box w5 w4.heap.size 87 #[.slice none 0 0, .slice o4 xs.length k4] by rw [hw5]; exact Box.new _ _ _)
            have HR5 := Lib.hid ((HR4.out.next hb5).add HBI.out (BytesRep.nil _ _) (HBY4.out.moveU (KeepU.below hb5)) (Nat.le_trans hz3 hz4))
            have HS5 := Lib.hid (HS4.out.trans (StepR.of_below hb5 (Nat.le_trans hz3 hz4)))
            have hz5 := hb5.size
            rw [← hw5]
            clear hb5 hw5
            refine hK.out _ _ trivial (fun hHeld => ?_)
            clear hK K hHeld
            (try simp only [Act.put, List.setIfInBounds_toArray, List.set_cons_zero, List.set_cons_succ])
            refine wpAnyH_take (i := 10) (v := ?_) rfl (by kernel_rfl) (by kernel_rfl) (by kernel_rfl) (fun _ _ _ h => h) (Or.inl ⟨by rfl, ?_⟩) (by assumption) ?_
            rotate_left
            · (intro w hSw; (try dsimp only at hSw); go_simp; (try with_reducible rfl))
            (try simp only [Act.put, List.setIfInBounds_toArray, List.set_cons_zero, List.set_cons_succ])
            refine wpAnyH_ready (rs := [4, 11]) (by kernel_rfl) (by simp) ?_
            refine AllReadyH.cons rfl (fun K hK => ?_) (AllReadyH.cons rfl (fun K hK => ?_) AllReadyH.nil)
            · have cl := HR5.out.box.cell 1 rfl
              go_simp
              refine hK.out _ _ trivial (fun hHeld => ?_)
              clear hK K cl hHeld
              (try simp only [Act.put, List.setIfInBounds_toArray, List.set_cons_zero, List.set_cons_succ])
              refine wpAnyH_ready (rs := [11]) (by kernel_rfl) (by simp) ?_
              refine AllReadyH.cons rfl (fun K hK => ?_) AllReadyH.nil
              go_simp
              obtain ⟨w6, hw6⟩ : ∃ w6, w6 = w5.alloc (.cells #[.string ⟨x.toArray⟩, .pointer (some ⟨w4.heap.size, 0, none⟩), .string ⟨#[]⟩] 107) := ⟨_, rfl⟩
              have hb6 : Below w5.heap.size w5 w6 := by rw [hw6]; exact (Below.refl _ _).alloc (Nat.le_refl _) _
              have HR6 := Lib.hid (HR5.out.next hb6)
              have HPN := Lib.hid (show ∀ (j : Nat) (u : Value), [.string ⟨x.toArray⟩, .pointer (some ⟨w4.heap.size, 0, none⟩), .string ⟨#[]⟩][j]? = some u → w6.cell? ((⟨w5.heap.size, 0, none⟩ : Addr).add j) = some u by rw [hw6]; exact cells3 w5 _ _ _ _)
              have hz6 := hb6.size
              rw [← hw6]
              have HW6 := Lib.hid hw6
              clear hb6 hw6
              refine hK.out _ _ trivial (fun hHeld => ?_)
              clear hK K hHeld
              (try simp only [Act.put, List.setIfInBounds_toArray, List.set_cons_zero, List.set_cons_succ])
              refine wpAnyH_ready (rs := [12]) (by kernel_rfl) (by simp) ?_
              refine AllReadyH.cons rfl (fun K hK => ?_) AllReadyH.nil
              refine step_append_own rfl _ _ 82 rfl B 107 i0 (.agg #[.string ⟨#[]⟩, .pointer none, .string ⟨#[]⟩]) 3 40 Try.underlying82 hi hz0 hz1 hzz rfl (by decide) _ _ _ rfl HR6.out.row ⟨w5.heap.size, 0, none⟩ 1 1 [.string ⟨x.toArray⟩, .pointer (some ⟨w4.heap.size, 0, none⟩), .string ⟨#[]⟩] rfl rfl HPN.out (by simp [Value.oneCell']) (by unfold maxLen; have : (addS (strokeS t) w4.heap.size xs []).chs.length = t.chs.length := rfl; omega) (by have : (addS (strokeS t) w4.heap.size xs []).chs.length = t.chs.length := rfl; omega) (Nat.le_of_lt HR6.out.base) ?_
              intro v7 w7 hown7 hg7 _
              obtain ⟨a7, k7, rfl⟩ := own_slice hown7
              have hbx7 : Box w7 r 84 #[vl, .slice avr t.chs.length kvr, .int .i64 (strokeS t).strokes, .int .i64 (strokeS t).off, .bool (strokeS t).dead] := by
                refine (hg7.block r HR6.out.box.lt fun e => ?_).trans HR6.out.box
                rcases HR6.out.row.2 with ⟨h1, _⟩ | ⟨g, cap, cur, h1, hb, hgg, rest⟩
                · simp at h1
                  rw [h1.1] at e
                  cases e
                · simp at h1
                  rw [h1.1] at e
                  cases e
                  have := HR6.out.box
                  unfold Box at this
                  rw [hgg] at this
                  simp at this
              rw [HW6.out] at hg7
              have HF := Lib.hid (HR5.out.push (c := .put x w4.heap.size) hown7 hg7)
              have HB7 := Lib.hid hbx7
              clear hown7 hg7 hbx7
              refine hK.out _ _ trivial (fun hHeld => ?_)
              clear hK K hHeld
              (try simp only [Act.put, List.setIfInBounds_toArray, List.set_cons_zero, List.set_cons_succ])
              refine wpAnyH_take (i := 13) (v := ?_) rfl (by kernel_rfl) (by kernel_rfl) (by kernel_rfl) (fun _ _ _ h => h) (Or.inl ⟨by rfl, ?_⟩) (by assumption) ?_
              rotate_left
              · (intro w hSw; (try dsimp only at hSw); go_simp; (try with_reducible rfl))
              (try simp only [Act.put, List.setIfInBounds_toArray, List.set_cons_zero, List.set_cons_succ])
              refine wpAnyH_take (i := 14) (v := ?_) rfl (by kernel_rfl) (by kernel_rfl) (by kernel_rfl) (fun _ _ _ h => h) (Or.inl ⟨by rfl, ?_⟩) (by assumption) ?_
              rotate_left
              · (intro w hSw; (try dsimp only at hSw); go_simp; (try with_reducible rfl))
              (try simp only [Act.put, List.setIfInBounds_toArray, List.set_cons_zero, List.set_cons_succ])
              refine wpAnyH_ready (rs := [15]) (by kernel_rfl) (by simp) ?_
              refine AllReadyH.cons rfl (fun K hK => ?_) AllReadyH.nil
              have cl := HB7.out.cell 1 rfl
              have fl := HB7.out.free 1
              go_simp
              refine hK.out _ _ trivial (fun hHeld => ?_)
              clear hK K cl fl hHeld
              (try simp only [Act.put, List.setIfInBounds_toArray, List.set_cons_zero, List.set_cons_succ])
              refine wpAnyH_done (by kernel_rfl) ?_ _
              have d4 := HF.out.1.box.cell 4 rfl
              rw [show (chgS (addS (strokeS t) w4.heap.size xs []) (.put x w4.heap.size)).dead = offB t from rfl] at d4
              go_wp2_with fail
              refine (rend_any (b := offB t) d4).mono ?_
              rintro e w' ⟨rfl, rfl⟩
              clear d4
              go_wp2_with fail
              go_ret
              refine ⟨w4.heap.size, by have h1 := HZW.out; have h2 : w2c.drew.heap.size = w2c.heap.size := rfl; omega, ?_⟩
              rw [stepWrite, if_neg HND.out, if_pos HG.out, if_neg HFULL.out]
              exact ⟨rfl, ⟨vl, _, HF.out.1⟩, HS5.out.trans HF.out.2⟩
            · go_simp
              obtain ⟨w6, hw6⟩ : ∃ w6, w6 = w5.alloc (.cells #[.string ⟨x.toArray⟩, .pointer (some ⟨w4.heap.size, 0, none⟩), .string ⟨#[]⟩] 107) := ⟨_, rfl⟩
              have hb6 : Below w5.heap.size w5 w6 := by rw [hw6]; exact (Below.refl _ _).alloc (Nat.le_refl _) _
              have HR6 := Lib.hid (HR5.out.next hb6)
              have HPN := Lib.hid (show ∀ (j : Nat) (u : Value), [.string ⟨x.toArray⟩, .pointer (some ⟨w4.heap.size, 0, none⟩), .string ⟨#[]⟩][j]? = some u → w6.cell? ((⟨w5.heap.size, 0, none⟩ : Addr).add j) = some u by rw [hw6]; exact cells3 w5 _ _ _ _)
              have hz6 := hb6.size
              rw [← hw6]
              have HW6 := Lib.hid hw6
              clear hb6 hw6
              refine hK.out _ _ trivial (fun hHeld => ?_)
              clear hK K hHeld
              (try simp only [Act.put, List.setIfInBounds_toArray, List.set_cons_zero, List.set_cons_succ])
              refine wpAnyH_ready (rs := [4]) (by kernel_rfl) (by simp) ?_
              refine AllReadyH.cons rfl (fun K hK => ?_) AllReadyH.nil
              have cl := HR6.out.box.cell 1 rfl
              go_simp
              refine hK.out _ _ trivial (fun hHeld => ?_)
              clear hK K cl hHeld
              (try simp only [Act.put, List.setIfInBounds_toArray, List.set_cons_zero, List.set_cons_succ])
              refine wpAnyH_ready (rs := [12]) (by kernel_rfl) (by simp) ?_
              refine AllReadyH.cons rfl (fun K hK => ?_) AllReadyH.nil
              refine step_append_own rfl _ _ 82 rfl B 107 i0 (.agg #[.string ⟨#[]⟩, .pointer none, .string ⟨#[]⟩]) 3 40 Try.underlying82 hi hz0 hz1 hzz rfl (by decide) _ _ _ rfl HR6.out.row ⟨w5.heap.size, 0, none⟩ 1 1 [.string ⟨x.toArray⟩, .pointer (some ⟨w4.heap.size, 0, none⟩), .string ⟨#[]⟩] rfl rfl HPN.out (by simp [Value.oneCell']) (by unfold maxLen; have : (addS (strokeS t) w4.heap.size xs []).chs.length = t.chs.length := rfl; omega) (by have : (addS (strokeS t) w4.heap.size xs []).chs.length = t.chs.length := rfl; omega) (Nat.le_of_lt HR6.out.base) ?_
              intro v7 w7 hown7 hg7 _
              obtain ⟨a7, k7, rfl⟩ := own_slice hown7
              have hbx7 : Box w7 r 84 #[vl, .slice avr t.chs.length kvr, .int .i64 (strokeS t).strokes, .int .i64 (strokeS t).off, .bool (strokeS t).dead] := by
                refine (hg7.block r HR6.out.box.lt fun e => ?_).trans HR6.out.box
                rcases HR6.out.row.2 with ⟨h1, _⟩ | ⟨g, cap, cur, h1, hb, hgg, rest⟩
                · simp at h1
                  rw [h1.1] at e
                  cases e
                · simp at h1
                  rw [h1.1] at e
                  cases e
                  have := HR6.out.box
                  unfold Box at this
                  rw [hgg] at this
                  simp at this
              rw [HW6.out] at hg7
              have HF := Lib.hid (HR5.out.push (c := .put x w4.heap.size) hown7 hg7)
              have HB7 := Lib.hid hbx7
              clear hown7 hg7 hbx7
              refine hK.out _ _ trivial (fun hHeld => ?_)
              clear hK K hHeld
              (try simp only [Act.put, List.setIfInBounds_toArray, List.set_cons_zero, List.set_cons_succ])
              refine wpAnyH_take (i := 13) (v := ?_) rfl (by kernel_rfl) (by kernel_rfl) (by kernel_rfl) (fun _ _ _ h => h) (Or.inl ⟨by rfl, ?_⟩) (by assumption) ?_
              rotate_left
              · (intro w hSw; (try dsimp only at hSw); go_simp; (try with_reducible rfl))
              (try simp only [Act.put, List.setIfInBounds_toArray, List.set_cons_zero, List.set_cons_succ])
              refine wpAnyH_take (i := 14) (v := ?_) rfl (by kernel_rfl) (by kernel_rfl) (by kernel_rfl) (fun _ _ _ h => h) (Or.inl ⟨by rfl, ?_⟩) (by assumption) ?_
              rotate_left
              · (intro w hSw; (try dsimp only at hSw); go_simp; (try with_reducible rfl))
              (try simp only [Act.put, List.setIfInBounds_toArray, List.set_cons_zero, List.set_cons_succ])
              refine wpAnyH_ready (rs := [15]) (by kernel_rfl) (by simp) ?_
              refine AllReadyH.cons rfl (fun K hK => ?_) AllReadyH.nil
              have cl := HB7.out.cell 1 rfl
              have fl := HB7.out.free 1
              go_simp
              refine hK.out _ _ trivial (fun hHeld => ?_)
              clear hK K cl fl hHeld
              (try simp only [Act.put, List.setIfInBounds_toArray, List.set_cons_zero, List.set_cons_succ])
              refine wpAnyH_done (by kernel_rfl) ?_ _
              have d4 := HF.out.1.box.cell 4 rfl
              rw [show (chgS (addS (strokeS t) w4.heap.size xs []) (.put x w4.heap.size)).dead = offB t from rfl] at d4
              go_wp2_with fail
              refine (rend_any (b := offB t) d4).mono ?_
              rintro e w' ⟨rfl, rfl⟩
              clear d4
              go_wp2_with fail
              go_ret
              refine ⟨w4.heap.size, by have h1 := HZW.out; have h2 : w2c.drew.heap.size = w2c.heap.size := rfl; omega, ?_⟩
              rw [stepWrite, if_neg HND.out, if_pos HG.out, if_neg HFULL.out]
              exact ⟨rfl, ⟨vl, _, HF.out.1⟩, HS5.out.trans HF.out.2⟩
      | some f0 =>
        clear hfull hget
        obtain ⟨w2c, hw2c⟩ : ∃ w2c, w2c = w2b := ⟨_, rfl⟩
        have HRc := Lib.hid (show RRepr B w2c r vl (.slice avr t.chs.length kvr) (strokeS t) by rw [hw2c]; exact HR2b.out)
        have HSc := Lib.hid (show StepR B w w2c by rw [hw2c]; exact HS2b.out)
        have hzc : w2b.heap.size ≤ w2c.heap.size := by rw [hw2c]; exact Nat.le_refl _
        rw [← hw2c]
        clear hw2c
        simp only [ptrV]
        go_wp2_with fail
        have hzB : B ≤ w2c.heap.size := by omega
        have hzW : w.heap.size ≤ w2c.heap.size := by have := HZW.out; omega
        have HZW := Lib.hid hzW
        have hdr : Below w2c.heap.size w2c w2c.drew := Below.drew (Below.refl _ _)
        have HR3 := Lib.hid (HRc.out.next hdr)
        have HS3 := Lib.hid (HSc.out.trans (StepR.of_below hdr hzB))
        have HRD := HV
        have HU3 := Lib.hid (show KeepU w w2c.drew from fun k cs fz hk => HS3.out.keep k _ hk rfl)
        have hz3 : B ≤ w2c.drew.heap.size := hzB
        obtain ⟨i0, hi, hz0, hz1, hzz⟩ := info_parts info_rchg
        clear hdr
        refine wp_region_held_drew (S := fun _ => True) (by kernel_rfl) trivial (fun hHeld => ?_)
        clear hHeld
        have hTr : True := trivial
        refine wpAnyH_take (i := 0) (v := ?_) rfl (by kernel_rfl) (by kernel_rfl) (by kernel_rfl) (fun _ _ _ h => h) (Or.inl ⟨by rfl, ?_⟩) (by assumption) ?_
        rotate_left
        · (intro w hSw; (try dsimp only at hSw); go_simp; (try with_reducible rfl))
        (try simp only [Act.put, List.setIfInBounds_toArray, List.set_cons_zero, List.set_cons_succ])
        refine wpAnyH_take (i := 1) (v := ?_) rfl (by kernel_rfl) (by kernel_rfl) (by kernel_rfl) (fun _ _ _ h => h) (Or.inl ⟨by rfl, ?_⟩) (by assumption) ?_
        rotate_left
        · (intro w hSw; (try dsimp only at hSw); go_simp; (try with_reducible rfl))
        (try simp only [Act.put, List.setIfInBounds_toArray, List.set_cons_zero, List.set_cons_succ])
        refine wpAnyH_take (i := 2) (v := ?_) rfl (by kernel_rfl) (by kernel_rfl) (by kernel_rfl) (fun _ _ _ h => h) (Or.inl ⟨by rfl, ?_⟩) (by assumption) ?_
        rotate_left
        · (intro w hSw; (try dsimp only at hSw); go_simp; (try with_reducible rfl))
        (try simp only [Act.put, List.setIfInBounds_toArray, List.set_cons_zero, List.set_cons_succ])
        refine wpAnyH_take (i := 3) (v := ?_) rfl (by kernel_rfl) (by kernel_rfl) (by kernel_rfl) (fun _ _ _ h => h) (Or.inl ⟨by rfl, ?_⟩) (by assumption) ?_
        rotate_left
        · (intro w hSw; (try dsimp only at hSw); go_simp; (try with_reducible rfl))
        (try simp only [Act.put, List.setIfInBounds_toArray, List.set_cons_zero, List.set_cons_succ])
        refine wpAnyH_take (i := 5) (v := ?_) rfl (by kernel_rfl) (by kernel_rfl) (by kernel_rfl) (fun _ _ _ h => h) (Or.inl ⟨by rfl, ?_⟩) (by assumption) ?_
        rotate_left
        · (intro w hSw; (try dsimp only at hSw); go_simp; (try with_reducible rfl))
        (try simp only [Act.put, List.setIfInBounds_toArray, List.set_cons_zero, List.set_cons_succ])
        refine wpAnyH_take (i := 6) (v := ?_) rfl (by kernel_rfl) (by kernel_rfl) (by kernel_rfl) (fun _ _ _ h => h) (Or.inl ⟨by rfl, ?_⟩) (by assumption) ?_
        rotate_left
        · (intro w hSw; (try dsimp only at hSw); go_simp; (try with_reducible rfl))
        (try simp only [Act.put, List.setIfInBounds_toArray, List.set_cons_zero, List.set_cons_succ])
        refine wpAnyH_ready (rs := [4, 7]) (by kernel_rfl) (by simp) ?_
        refine AllReadyH.cons rfl (fun K hK => ?_) (AllReadyH.cons rfl (fun K hK => ?_) AllReadyH.nil)
        · have cl := HR3.out.box.cell 1 rfl
          go_simp
          refine hK.out _ _ trivial (fun hHeld => ?_)
          clear hK K cl hHeld
          (try simp only [Act.put, List.setIfInBounds_toArray, List.set_cons_zero, List.set_cons_succ])
          refine wpAnyH_ready (rs := [7]) (by kernel_rfl) (by simp) ?_
          refine AllReadyH.cons rfl (fun K hK => ?_) AllReadyH.nil
          go_simp
          go_at_call 14
          refine (copyBytes_any _ xs _ (HRD.out _ HS3.out) (by omega)).mono ?_
          rintro e w4 ⟨v4, rfl, ho, hb4⟩
          obtain ⟨o4, k4, rfl⟩ := own_slice ho
          have HR4 := Lib.hid (HR3.out.next hb4)
          have HBY4 := Lib.hid ((BytesRep.own ho hxl).mono hz3)
          have HS4 := Lib.hid (HS3.out.trans (StepR.of_below hb4 hz3))
          have hz4 := hb4.size
          clear ho hb4
          go_wp2_with fail
          refine hK.out _ _ trivial (fun hHeld => ?_)
          clear hK K hHeld
          (try simp only [Act.put, List.setIfInBounds_toArray, List.set_cons_zero, List.set_cons_succ])
          refine wpAnyH_take (i := 8) (v := ?_) rfl (by kernel_rfl) (by kernel_rfl) (by kernel_rfl) (fun _ _ _ h => h) (Or.inl ⟨by rfl, ?_⟩) (by assumption) ?_
          rotate_left
          · (intro w hSw; (try dsimp only at hSw); go_simp; (try with_reducible rfl))
          (try simp only [Act.put, List.setIfInBounds_toArray, List.set_cons_zero, List.set_cons_succ])
          refine wpAnyH_ready (rs := [9]) (by kernel_rfl) (by simp) ?_
          refine AllReadyH.cons rfl (fun K hK => ?_) AllReadyH.nil
          go_simp
          obtain ⟨w5, hw5⟩ : ∃ w5, w5 = w4.alloc (.cells #[.slice none 0 0, .slice o4 xs.length k4] 87) := ⟨_, rfl⟩
          have hb5 : Below w4.heap.size w4 w5 := by rw [hw5]; exact (Below.refl _ _).alloc (Nat.le_refl _) _
          have HBI := Lib.hid (show Box w5 w4.heap.size 87 #[.slice none 0 0, .slice o4 xs.length k4] by rw [hw5]; exact Box.new _ _ _)
          have HR5 := Lib.hid ((HR4.out.next hb5).add HBI.out (BytesRep.nil _ _) (HBY4.out.moveU (KeepU.below hb5)) (Nat.le_trans hz3 hz4))
          have HS5 := Lib.hid (HS4.out.trans (StepR.of_below hb5 (Nat.le_trans hz3 hz4)))
          have hz5 := hb5.size
          rw [← hw5]
          clear hb5 hw5
          refine hK.out _ _ trivial (fun hHeld => ?_)
          clear hK K hHeld
          (try simp only [Act.put, List.setIfInBounds_toArray, List.set_cons_zero, List.set_cons_succ])
          refine wpAnyH_take (i := 10) (v := ?_) rfl (by kernel_rfl) (by kernel_rfl) (by kernel_rfl) (fun _ _ _ h => h) (Or.inl ⟨by rfl, ?_⟩) (by assumption) ?_
          rotate_left
          · (intro w hSw; (try dsimp only at hSw); go_simp; (try with_reducible rfl))
          (try simp only [Act.put, List.setIfInBounds_toArray, List.set_cons_zero, List.set_cons_succ])
          refine wpAnyH_ready (rs := [11]) (by kernel_rfl) (by simp) ?_
          refine AllReadyH.cons rfl (fun K hK => ?_) AllReadyH.nil
          go_simp
          obtain ⟨w6, hw6⟩ : ∃ w6, w6 = w5.alloc (.cells #[.string ⟨x.toArray⟩, .pointer (some ⟨w4.heap.size, 0, none⟩), .string ⟨#[]⟩] 107) := ⟨_, rfl⟩
          have hb6 : Below w5.heap.size w5 w6 := by rw [hw6]; exact (Below.refl _ _).alloc (Nat.le_refl _) _
          have HR6 := Lib.hid (HR5.out.next hb6)
          have HPN := Lib.hid (show ∀ (j : Nat) (u : Value), [.string ⟨x.toArray⟩, .pointer (some ⟨w4.heap.size, 0, none⟩), .string ⟨#[]⟩][j]? = some u → w6.cell? ((⟨w5.heap.size, 0, none⟩ : Addr).add j) = some u by rw [hw6]; exact cells3 w5 _ _ _ _)
          have hz6 := hb6.size
          rw [← hw6]
          have HW6 := Lib.hid hw6
          clear hb6 hw6
          refine hK.out _ _ trivial (fun hHeld => ?_)
          clear hK K hHeld
          (try simp only [Act.put, List.setIfInBounds_toArray, List.set_cons_zero, List.set_cons_succ])
          refine wpAnyH_ready (rs := [12]) (by kernel_rfl) (by simp) ?_
          refine AllReadyH.cons rfl (fun K hK => ?_) AllReadyH.nil
          refine step_append_own rfl _ _ 82 rfl B 107 i0 (.agg #[.string ⟨#[]⟩, .pointer none, .string ⟨#[]⟩]) 3 40 Try.underlying82 hi hz0 hz1 hzz rfl (by decide) _ _ _ rfl HR6.out.row ⟨w5.heap.size, 0, none⟩ 1 1 [.string ⟨x.toArray⟩, .pointer (some ⟨w4.heap.size, 0, none⟩), .string ⟨#[]⟩] rfl rfl HPN.out (by simp [Value.oneCell']) (by unfold maxLen; have : (addS (strokeS t) w4.heap.size xs []).chs.length = t.chs.length := rfl; omega) (by have : (addS (strokeS t) w4.heap.size xs []).chs.length = t.chs.length := rfl; omega) (Nat.le_of_lt HR6.out.base) ?_
          intro v7 w7 hown7 hg7 _
          obtain ⟨a7, k7, rfl⟩ := own_slice hown7
          have hbx7 : Box w7 r 84 #[vl, .slice avr t.chs.length kvr, .int .i64 (strokeS t).strokes, .int .i64 (strokeS t).off, .bool (strokeS t).dead] := by
            refine (hg7.block r HR6.out.box.lt fun e => ?_).trans HR6.out.box
            rcases HR6.out.row.2 with ⟨h1, _⟩ | ⟨g, cap, cur, h1, hb, hgg, rest⟩
            · simp at h1
              rw [h1.1] at e
              cases e
            · simp at h1
              rw [h1.1] at e
              cases e
              have := HR6.out.box
              unfold Box at this
              rw [hgg] at this
              simp at this
          rw [HW6.out] at hg7
          have HF := Lib.hid (HR5.out.push (c := .put x w4.heap.size) hown7 hg7)
          have HB7 := Lib.hid hbx7
          clear hown7 hg7 hbx7
          refine hK.out _ _ trivial (fun hHeld => ?_)
          clear hK K hHeld
          (try simp only [Act.put, List.setIfInBounds_toArray, List.set_cons_zero, List.set_cons_succ])
          refine wpAnyH_take (i := 13) (v := ?_) rfl (by kernel_rfl) (by kernel_rfl) (by kernel_rfl) (fun _ _ _ h => h) (Or.inl ⟨by rfl, ?_⟩) (by assumption) ?_
          rotate_left
          · (intro w hSw; (try dsimp only at hSw); go_simp; (try with_reducible rfl))
          (try simp only [Act.put, List.setIfInBounds_toArray, List.set_cons_zero, List.set_cons_succ])
          refine wpAnyH_take (i := 14) (v := ?_) rfl (by kernel_rfl) (by kernel_rfl) (by kernel_rfl) (fun _ _ _ h => h) (Or.inl ⟨by rfl, ?_⟩) (by assumption) ?_
          rotate_left
          · (intro w hSw; (try dsimp only at hSw); go_simp; (try with_reducible rfl))
          (try simp only [Act.put, List.setIfInBounds_toArray, List.set_cons_zero, List.set_cons_succ])
          refine wpAnyH_ready (rs := [15]) (by kernel_rfl) (by simp) ?_
          refine AllReadyH.cons rfl (fun K hK => ?_) AllReadyH.nil
          have cl := HB7.out.cell 1 rfl
          have fl := HB7.out.free 1
          go_simp
          refine hK.out _ _ trivial (fun hHeld => ?_)
          clear hK K cl fl hHeld
          (try simp only [Act.put, List.setIfInBounds_toArray, List.set_cons_zero, List.set_cons_succ])
          refine wpAnyH_done (by kernel_rfl) ?_ _
          have d4 := HF.out.1.box.cell 4 rfl
          rw [show (chgS (addS (strokeS t) w4.heap.size xs []) (.put x w4.heap.size)).dead = offB t from rfl] at d4
          go_wp2_with fail
          refine (rend_any (b := offB t) d4).mono ?_
          rintro e w' ⟨rfl, rfl⟩
          clear d4
          go_wp2_with fail
          go_ret
          refine ⟨w4.heap.size, by have h1 := HZW.out; have h2 : w2c.drew.heap.size = w2c.heap.size := rfl; omega, ?_⟩
          rw [stepWrite, if_neg HND.out, if_pos HG.out, if_neg HFULL.out]
          exact ⟨rfl, ⟨vl, _, HF.out.1⟩, HS5.out.trans HF.out.2⟩
        · go_simp
          go_at_call 14
          refine (copyBytes_any _ xs _ (HRD.out _ HS3.out) (by omega)).mono ?_
          rintro e w4 ⟨v4, rfl, ho, hb4⟩
          obtain ⟨o4, k4, rfl⟩ := own_slice ho
          have HR4 := Lib.hid (HR3.out.next hb4)
          have HBY4 := Lib.hid ((BytesRep.own ho hxl).mono hz3)
          have HS4 := Lib.hid (HS3.out.trans (StepR.of_below hb4 hz3))
          have hz4 := hb4.size
          clear ho hb4
          go_wp2_with fail
          refine hK.out _ _ trivial (fun hHeld => ?_)
          clear hK K hHeld
          (try simp only [Act.put, List.setIfInBounds_toArray, List.set_cons_zero, List.set_cons_succ])
          refine wpAnyH_take (i := 8) (v := ?_) rfl (by kernel_rfl) (by kernel_rfl) (by kernel_rfl) (fun _ _ _ h => h) (Or.inl ⟨by rfl, ?_⟩) (by assumption) ?_
          rotate_left
          · (intro w hSw; (try dsimp only at hSw); go_simp; (try with_reducible rfl))
          (try simp only [Act.put, List.setIfInBounds_toArray, List.set_cons_zero, List.set_cons_succ])
          refine wpAnyH_ready (rs := [4, 9]) (by kernel_rfl) (by simp) ?_
          refine AllReadyH.cons rfl (fun K hK => ?_) (AllReadyH.cons rfl (fun K hK => ?_) AllReadyH.nil)
          · have cl := HR4.out.box.cell 1 rfl
            go_simp
            refine hK.out _ _ trivial (fun hHeld => ?_)
            clear hK K cl hHeld
            (try simp only [Act.put, List.setIfInBounds_toArray, List.set_cons_zero, List.set_cons_succ])
            refine wpAnyH_ready (rs := [9]) (by kernel_rfl) (by simp) ?_
            refine AllReadyH.cons rfl (fun K hK => ?_) AllReadyH.nil
            go_simp
            obtain ⟨w5, hw5⟩ : ∃ w5, w5 = w4.alloc (.cells #[.slice none 0 0, .slice o4 xs.length k4] 87) := ⟨_, rfl⟩
            have hb5 : Below w4.heap.size w4 w5 := by rw [hw5]; exact (Below.refl _ _).alloc (Nat.le_refl _) _
            have HBI := Lib.hid (show Box w5 w4.heap.size 87 #[.slice none 0 0, .slice o4 xs.length k4] by rw [hw5]; exact Box.new _ _ _)
            have HR5 := Lib.hid ((HR4.out.next hb5).add HBI.out (BytesRep.nil _ _) (HBY4.out.moveU (KeepU.below hb5)) (Nat.le_trans hz3 hz4))
            have HS5 := Lib.hid (HS4.out.trans (StepR.of_below hb5 (Nat.le_trans hz3 hz4)))
            have hz5 := hb5.size
            rw [← hw5]
            clear hb5 hw5
            refine hK.out _ _ trivial (fun hHeld => ?_)
            clear hK K hHeld
            (try simp only [Act.put, List.setIfInBounds_toArray, List.set_cons_zero, List.set_cons_succ])
            refine wpAnyH_take (i := 10) (v := ?_) rfl (by kernel_rfl) (by kernel_rfl) (by kernel_rfl) (fun _ _ _ h => h) (Or.inl ⟨by rfl, ?_⟩) (by assumption) ?_
            rotate_left
            · (intro w hSw; (try dsimp only at hSw); go_simp; (try with_reducible rfl))
            (try simp only [Act.put, List.setIfInBounds_toArray, List.set_cons_zero, List.set_cons_succ])
            refine wpAnyH_ready (rs := [11]) (by kernel_rfl) (by simp) ?_
            refine AllReadyH.cons rfl (fun K hK => ?_) AllReadyH.nil
            go_simp
            obtain ⟨w6, hw6⟩ : ∃ w6, w6 = w5.alloc (.cells #[.string ⟨x.toArray⟩, .pointer (some ⟨w4.heap.size, 0, none⟩), .string ⟨#[]⟩] 107) := ⟨_, rfl⟩
            have hb6 : Below w5.heap.size w5 w6 := by rw [hw6]; exact (Below.refl _ _).alloc (Nat.le_refl _) _
            have HR6 := Lib.hid (HR5.out.next hb6)
            have HPN := Lib.hid (show ∀ (j : Nat) (u : Value), [.string ⟨x.toArray⟩, .pointer (some ⟨w4.heap.size, 0, none⟩), .string ⟨#[]⟩][j]? = some u → w6.cell? ((⟨w5.heap.size, 0, none⟩ : Addr).add j) = some u by rw [hw6]; exact cells3 w5 _ _ _ _)
            have hz6 := hb6.size
            rw [← hw6]
            have HW6 := Lib.hid hw6
            clear hb6 hw6
            refine hK.out _ _ trivial (fun hHeld => ?_)
            clear hK K hHeld
            (try simp only [Act.put, List.setIfInBounds_toArray, List.set_cons_zero, List.set_cons_succ])
            refine wpAnyH_ready (rs := [12]) (by kernel_rfl) (by simp) ?_
            refine AllReadyH.cons rfl (fun K hK => ?_) AllReadyH.nil
            refine step_append_own rfl _ _ 82 rfl B 107 i0 (.agg #[.string ⟨#[]⟩, .pointer none, .string ⟨#[]⟩]) 3 40 Try.underlying82 hi hz0 hz1 hzz rfl (by decide) _ _ _ rfl HR6.out.row ⟨w5.heap.size, 0, none⟩ 1 1 [.string ⟨x.toArray⟩, .pointer (some ⟨w4.heap.size, 0, none⟩), .string ⟨#[]⟩] rfl rfl HPN.out (by simp [Value.oneCell']) (by unfold maxLen; have : (addS (strokeS t) w4.heap.size xs []).chs.length = t.chs.length := rfl; omega) (by have : (addS (strokeS t) w4.heap.size xs []).chs.length = t.chs.length := rfl; omega) (Nat.le_of_lt HR6.out.base) ?_
            intro v7 w7 hown7 hg7 _
            obtain ⟨a7, k7, rfl⟩ := own_slice hown7
            have hbx7 : Box w7 r 84 #[vl, .slice avr t.chs.length kvr, .int .i64 (strokeS t).strokes, .int .i64 (strokeS t).off, .bool (strokeS t).dead] := by
              refine (hg7.block r HR6.out.box.lt fun e => ?_).trans HR6.out.box
              rcases HR6.out.row.2 with ⟨h1, _⟩ | ⟨g, cap, cur, h1, hb, hgg, rest⟩
              · simp at h1
                rw [h1.1] at e
                cases e
              · simp at h1
                rw [h1.1] at e
                cases e
                have := HR6.out.box
                unfold Box at this
                rw [hgg] at this
                simp at this
            rw [HW6.out] at hg7
            have HF := Lib.hid (HR5.out.push (c := .put x w4.heap.size) hown7 hg7)
            have HB7 := Lib.hid hbx7
            clear hown7 hg7 hbx7
            refine hK.out _ _ trivial (fun hHeld => ?_)
            clear hK K hHeld
            (try simp only [Act.put, List.setIfInBounds_toArray, List.set_cons_zero, List.set_cons_succ])
            refine wpAnyH_take (i := 13) (v := ?_) rfl (by kernel_rfl) (by kernel_rfl) (by kernel_rfl) (fun _ _ _ h => h) (Or.inl ⟨by rfl, ?_⟩) (by assumption) ?_
            rotate_left
            · (intro w hSw; (try dsimp only at hSw); go_simp; (try with_reducible rfl))
            (try simp only [Act.put, List.setIfInBounds_toArray, List.set_cons_zero, List.set_cons_succ])
            refine wpAnyH_take (i := 14) (v := ?_) rfl (by kernel_rfl) (by kernel_rfl) (by kernel_rfl) (fun _ _ _ h => h) (Or.inl ⟨by rfl, ?_⟩) (by assumption) ?_
            rotate_left
            · (intro w hSw; (try dsimp only at hSw); go_simp; (try with_reducible rfl))
            (try simp only [Act.put, List.setIfInBounds_toArray, List.set_cons_zero, List.set_cons_succ])
            refine wpAnyH_ready (rs := [15]) (by kernel_rfl) (by simp) ?_
            refine AllReadyH.cons rfl (fun K hK => ?_) AllReadyH.nil
            have cl := HB7.out.cell 1 rfl
            have fl := HB7.out.free 1
            go_simp
            refine hK.out _ _ trivial (fun hHeld => ?_)
            clear hK K cl fl hHeld
            (try simp only [Act.put, List.setIfInBounds_toArray, List.set_cons_zero, List.set_cons_succ])
            refine wpAnyH_done (by kernel_rfl) ?_ _
            have d4 := HF.out.1.box.cell 4 rfl
            rw [show (chgS (addS (strokeS t) w4.heap.size xs []) (.put x w4.heap.size)).dead = offB t from rfl] at d4
            go_wp2_with fail
            refine (rend_any (b := offB t) d4).mono ?_
            rintro e w' ⟨rfl, rfl⟩
            clear d4
            go_wp2_with fail
            go_ret
            refine ⟨w4.heap.size, by have h1 := HZW.out; have h2 : w2c.drew.heap.size = w2c.heap.size := rfl; omega, ?_⟩
            rw [stepWrite, if_neg HND.out, if_pos HG.out, if_neg HFULL.out]
            exact ⟨rfl, ⟨vl, _, HF.out.1⟩, HS5.out.trans HF.out.2⟩
          · go_simp
            obtain ⟨w5, hw5⟩ : ∃ w5, w5 = w4.alloc (.cells #[.slice none 0 0, .slice o4 xs.length k4] 87) := ⟨_, rfl⟩
            have hb5 : Below w4.heap.size w4 w5 := by rw [hw5]; exact (Below.refl _ _).alloc (Nat.le_refl _) _
            have HBI := Lib.hid (show Box w5 w4.heap.size 87 #[.slice none 0 0, .slice o4 xs.length k4] by rw [hw5]; exact Box.new _ _ _)
            have HR5 := Lib.hid ((HR4.out.next hb5).add HBI.out (BytesRep.nil _ _) (HBY4.out.moveU (KeepU.below hb5)) (Nat.le_trans hz3 hz4))
            have HS5 := Lib.hid (HS4.out.trans (StepR.of_below hb5 (Nat.le_trans hz3 hz4)))
            have hz5 := hb5.size
            rw [← hw5]
            clear hb5 hw5
            refine hK.out _ _ trivial (fun hHeld => ?_)
            clear hK K hHeld
            (try simp only [Act.put, List.setIfInBounds_toArray, List.set_cons_zero, List.set_cons_succ])
            refine wpAnyH_take (i := 10) (v := ?_) rfl (by kernel_rfl) (by kernel_rfl) (by kernel_rfl) (fun _ _ _ h => h) (Or.inl ⟨by rfl, ?_⟩) (by assumption) ?_
            rotate_left
            · (intro w hSw; (try dsimp only at hSw); go_simp; (try with_reducible rfl))
            (try simp only [Act.put, List.setIfInBounds_toArray, List.set_cons_zero, List.set_cons_succ])
            refine wpAnyH_ready (rs := [4, 11]) (by kernel_rfl) (by simp) ?_
            refine AllReadyH.cons rfl (fun K hK => ?_) (AllReadyH.cons rfl (fun K hK => ?_) AllReadyH.nil)
            · have cl := HR5.out.box.cell 1 rfl
              go_simp
              refine hK.out _ _ trivial (fun hHeld => ?_)
              clear hK K cl hHeld
              (try simp only [Act.put, List.setIfInBounds_toArray, List.set_cons_zero, List.set_cons_succ])
              refine wpAnyH_ready (rs := [11]) (by kernel_rfl) (by simp) ?_
              refine AllReadyH.cons rfl (fun K hK => ?_) AllReadyH.nil
              go_simp
              obtain ⟨w6, hw6⟩ : ∃ w6, w6 = w5.alloc (.cells #[.string ⟨x.toArray⟩, .pointer (some ⟨w4.heap.size, 0, none⟩), .string ⟨#[]⟩] 107) := ⟨_, rfl⟩
              have hb6 : Below w5.heap.size w5 w6 := by rw [hw6]; exact (Below.refl _ _).alloc (Nat.le_refl _) _
              have HR6 := Lib.hid (HR5.out.next hb6)
              have HPN := Lib.hid (show ∀ (j : Nat) (u : Value), [.string ⟨x.toArray⟩, .pointer (some ⟨w4.heap.size, 0, none⟩), .string ⟨#[]⟩][j]? = some u → w6.cell? ((⟨w5.heap.size, 0, none⟩ : Addr).add j) = some u by rw [hw6]; exact cells3 w5 _ _ _ _)
              have hz6 := hb6.size
              rw [← hw6]
              have HW6 := Lib.hid hw6
              clear hb6 hw6
              refine hK.out _ _ trivial (fun hHeld => ?_)
              clear hK K hHeld
              (try simp only [Act.put, List.setIfInBounds_toArray, List.set_cons_zero, List.set_cons_succ])
              refine wpAnyH_ready (rs := [12]) (by kernel_rfl) (by simp) ?_
              refine AllReadyH.cons rfl (fun K hK => ?_) AllReadyH.nil
              refine step_append_own rfl _ _ 82 rfl B 107 i0 (.agg #[.string ⟨#[]⟩, .pointer none, .string ⟨#[]⟩]) 3 40 Try.underlying82 hi hz0 hz1 hzz rfl (by decide) _ _ _ rfl HR6.out.row ⟨w5.heap.size, 0, none⟩ 1 1 [.string ⟨x.toArray⟩, .pointer (some ⟨w4.heap.size, 0, none⟩), .string ⟨#[]⟩] rfl rfl HPN.out (by simp [Value.oneCell']) (by unfold maxLen; have : (addS (strokeS t) w4.heap.size xs []).chs.length = t.chs.length := rfl; omega) (by have : (addS (strokeS t) w4.heap.size xs []).chs.length = t.chs.length := rfl; omega) (Nat.le_of_lt HR6.out.base) ?_
              intro v7 w7 hown7 hg7 _
              obtain ⟨a7, k7, rfl⟩ := own_slice hown7
              have hbx7 : Box w7 r 84 #[vl, .slice avr t.chs.length kvr, .int .i64 (strokeS t).strokes, .int .i64 (strokeS t).off, .bool (strokeS t).dead] := by
                refine (hg7.block r HR6.out.box.lt fun e => ?_).trans HR6.out.box
                rcases HR6.out.row.2 with ⟨h1, _⟩ | ⟨g, cap, cur, h1, hb, hgg, rest⟩
                · simp at h1
                  rw [h1.1] at e
                  cases e
                · simp at h1
                  rw [h1.1] at e
                  cases e
                  have := HR6.out.box
                  unfold Box at this
                  rw [hgg] at this
                  simp at this
              rw [HW6.out] at hg7
              have HF := Lib.hid (HR5.out.push (c := .put x w4.heap.size) hown7 hg7)
              have HB7 := Lib.hid hbx7
              clear hown7 hg7 hbx7
              refine hK.out _ _ trivial (fun hHeld => ?_)
              clear hK K hHeld
              (try simp only [Act.put, List.setIfInBounds_toArray, List.set_cons_zero, List.set_cons_succ])
              refine wpAnyH_take (i := 13) (v := ?_) rfl (by kernel_rfl) (by kernel_rfl) (by kernel_rfl) (fun _ _ _ h => h) (Or.inl ⟨by rfl, ?_⟩) (by assumption) ?_
              rotate_left
              · (intro w hSw; (try dsimp only at hSw); go_simp; (try with_reducible rfl))
              (try simp only [Act.put, List.setIfInBounds_toArray, List.set_cons_zero, List.set_cons_succ])
              refine wpAnyH_take (i := 14) (v := ?_) rfl (by kernel_rfl) (by kernel_rfl) (by kernel_rfl) (fun _ _ _ h => h) (Or.inl ⟨by rfl, ?_⟩) (by assumption) ?_
              rotate_left
              · (intro w hSw; (try dsimp only at hSw); go_simp; (try with_reducible rfl))
              (try simp only [Act.put, List.setIfInBounds_toArray, List.set_cons_zero, List.set_cons_succ])
              refine wpAnyH_ready (rs := [15]) (by kernel_rfl) (by simp) ?_
              refine AllReadyH.cons rfl (fun K hK => ?_) AllReadyH.nil
              have cl := HB7.out.cell 1 rfl
              have fl := HB7.out.free 1
              go_simp
              refine hK.out _ _ trivial (fun hHeld => ?_)
              clear hK K cl fl hHeld
              (try simp only [Act.put, List.setIfInBounds_toArray, List.set_cons_zero, List.set_cons_succ])
              refine wpAnyH_done (by kernel_rfl) ?_ _
              have d4 := HF.out.1.box.cell 4 rfl
              rw [show (chgS (addS (strokeS t) w4.heap.size xs []) (.put x w4.heap.size)).dead = offB t from rfl] at d4
              go_wp2_with fail
              refine (rend_any (b := offB t) d4).mono ?_
              rintro e w' ⟨rfl, rfl⟩
              clear d4
              go_wp2_with fail
              go_ret
              refine ⟨w4.heap.size, by have h1 := HZW.out; have h2 : w2c.drew.heap.size = w2c.heap.size := rfl; omega, ?_⟩
              rw [stepWrite, if_neg HND.out, if_pos HG.out, if_neg HFULL.out]
              exact ⟨rfl, ⟨vl, _, HF.out.1⟩, HS5.out.trans HF.out.2⟩
            · go_simp
              obtain ⟨w6, hw6⟩ : ∃ w6, w6 = w5.alloc (.cells #[.string ⟨x.toArray⟩, .pointer (some ⟨w4.heap.size, 0, none⟩), .string ⟨#[]⟩] 107) := ⟨_, rfl⟩
              have hb6 : Below w5.heap.size w5 w6 := by rw [hw6]; exact (Below.refl _ _).alloc (Nat.le_refl _) _
              have HR6 := Lib.hid (HR5.out.next hb6)
              have HPN := Lib.hid (show ∀ (j : Nat) (u : Value), [.string ⟨x.toArray⟩, .pointer (some ⟨w4.heap.size, 0, none⟩), .string ⟨#[]⟩][j]? = some u → w6.cell? ((⟨w5.heap.size, 0, none⟩ : Addr).add j) = some u by rw [hw6]; exact cells3 w5 _ _ _ _)
              have hz6 := hb6.size
              rw [← hw6]
              have HW6 := Lib.hid hw6
              clear hb6 hw6
              refine hK.out _ _ trivial (fun hHeld => ?_)
              clear hK K hHeld
              (try simp only [Act.put, List.setIfInBounds_toArray, List.set_cons_zero, List.set_cons_succ])
              refine wpAnyH_ready (rs := [4]) (by kernel_rfl) (by simp) ?_
              refine AllReadyH.cons rfl (fun K hK => ?_) AllReadyH.nil
              have cl := HR6.out.box.cell 1 rfl
              go_simp
              refine hK.out _ _ trivial (fun hHeld => ?_)
              clear hK K cl hHeld
              (try simp only [Act.put, List.setIfInBounds_toArray, List.set_cons_zero, List.set_cons_succ])
              refine wpAnyH_ready (rs := [12]) (by kernel_rfl) (by simp) ?_
              refine AllReadyH.cons rfl (fun K hK => ?_) AllReadyH.nil
              refine step_append_own rfl _ _ 82 rfl B 107 i0 (.agg #[.string ⟨#[]⟩, .pointer none, .string ⟨#[]⟩]) 3 40 Try.underlying82 hi hz0 hz1 hzz rfl (by decide) _ _ _ rfl HR6.out.row ⟨w5.heap.size, 0, none⟩ 1 1 [.string ⟨x.toArray⟩, .pointer (some ⟨w4.heap.size, 0, none⟩), .string ⟨#[]⟩] rfl rfl HPN.out (by simp [Value.oneCell']) (by unfold maxLen; have : (addS (strokeS t) w4.heap.size xs []).chs.length = t.chs.length := rfl; omega) (by have : (addS (strokeS t) w4.heap.size xs []).chs.length = t.chs.length := rfl; omega) (Nat.le_of_lt HR6.out.base) ?_
              intro v7 w7 hown7 hg7 _
              obtain ⟨a7, k7, rfl⟩ := own_slice hown7
              have hbx7 : Box w7 r 84 #[vl, .slice avr t.chs.length kvr, .int .i64 (strokeS t).strokes, .int .i64 (strokeS t).off, .bool (strokeS t).dead] := by
                refine (hg7.block r HR6.out.box.lt fun e => ?_).trans HR6.out.box
                rcases HR6.out.row.2 with ⟨h1, _⟩ | ⟨g, cap, cur, h1, hb, hgg, rest⟩
                · simp at h1
                  rw [h1.1] at e
                  cases e
                · simp at h1
                  rw [h1.1] at e
                  cases e
                  have := HR6.out.box
                  unfold Box at this
                  rw [hgg] at this
                  simp at this
              rw [HW6.out] at hg7
              have HF := Lib.hid (HR5.out.push (c := .put x w4.heap.size) hown7 hg7)
              have HB7 := Lib.hid hbx7
              clear hown7 hg7 hbx7
              refine hK.out _ _ trivial (fun hHeld => ?_)
              clear hK K hHeld
              (try simp only [Act.put, List.setIfInBounds_toArray, List.set_cons_zero, List.set_cons_succ])
              refine wpAnyH_take (i := 13) (v := ?_) rfl (by kernel_rfl) (by kernel_rfl) (by kernel_rfl) (fun _ _ _ h => h) (Or.inl ⟨by rfl, ?_⟩) (by assumption) ?_
              rotate_left
              · (intro w hSw; (try dsimp only at hSw); go_simp; (try with_reducible rfl))
              (try simp only [Act.put, List.setIfInBounds_toArray, List.set_cons_zero, List.set_cons_succ])
              refine wpAnyH_take (i := 14) (v := ?_) rfl (by kernel_rfl) (by kernel_rfl) (by kernel_rfl) (fun _ _ _ h => h) (Or.inl ⟨by rfl, ?_⟩) (by assumption) ?_
              rotate_left
              · (intro w hSw; (try dsimp only at hSw); go_simp; (try with_reducible rfl))
              (try simp only [Act.put, List.setIfInBounds_toArray, List.set_cons_zero, List.set_cons_succ])
              refine wpAnyH_ready (rs := [15]) (by kernel_rfl) (by simp) ?_
              refine AllReadyH.cons rfl (fun K hK => ?_) AllReadyH.nil
              have cl := HB7.out.cell 1 rfl
              have fl := HB7.out.free 1
              go_simp
              refine hK.out _ _ trivial (fun hHeld => ?_)
              clear hK K cl fl hHeld
              (try simp only [Act.put, List.setIfInBounds_toArray, List.set_cons_zero, List.set_cons_succ])
              refine wpAnyH_done (by kernel_rfl) ?_ _
              have d4 := HF.out.1.box.cell 4 rfl
              rw [show (chgS (addS (strokeS t) w4.heap.size xs []) (.put x w4.heap.size)).dead = offB t from rfl] at d4
              go_wp2_with fail
              refine (rend_any (b := offB t) d4).mono ?_
              rintro e w' ⟨rfl, rfl⟩
              clear d4
              go_wp2_with fail
              go_ret
              refine ⟨w4.heap.size, by have h1 := HZW.out; have h2 : w2c.drew.heap.size = w2c.heap.size := rfl; omega, ?_⟩
              rw [stepWrite, if_neg HND.out, if_pos HG.out, if_neg HFULL.out]
              exact ⟨rfl, ⟨vl, _, HF.out.1⟩, HS5.out.trans HF.out.2⟩
end Go.Proofs.Ytejmbhckfdfoeaa
