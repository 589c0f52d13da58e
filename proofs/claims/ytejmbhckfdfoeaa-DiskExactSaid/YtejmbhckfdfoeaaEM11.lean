/-
  THE REFERENCE'S Remove, Rename.
-/
import Derived.Test.YtejmbhckfdfoeaaEM10
set_option linter.unusedVariables false
set_option linter.unusedSimpArgs false
namespace Go.Proofs.Ytejmbhckfdfoeaa
open Go.RowKit Go.Maps
theorem info_rchg : (Try.prog.info? 107).map (fun i => (i.zero, i.size, i.bytes)) = some (some (.agg #[.string ⟨#[]⟩, .pointer none, .string ⟨#[]⟩]), 3, 40) := by kernel_rfl
def stepRemove (s : DSt) (x : List UInt8) : Int × DSt :=
  if s.dead then (6, s) else if goodNm x then (match lget s.seen x with | none => (6, strokeS s) | some f => (toldI (offB s), chgS (strokeS s) (.del x))) else (1, s)
def stepRename (s : DSt) (x b : List UInt8) : Int × DSt :=
  if s.dead then (6, s) else if goodNm x && goodNm b then (match lget s.seen x with | none => (6, strokeS s) | some f => (toldI (offB s), chgS (strokeS s) (.mv x b f))) else (1, s)
theorem RRepr.push {B : Nat} {w w2 : World} {r : Nat} {vl vr vr' : Value} {t : DSt} {c : Chg} {o : Obj} (h : RRepr B w r vl vr t) (hrow : w2.ownsRow B 107 3 vr' (t.chs.length + 1) (ccells t.chs ++ chgCells c)) (hg : (w.alloc o).grownBy w2 vr.ownBlock) :
    RRepr B (w2.setCell ⟨r, 1, none⟩ vr') r vl vr' (chgS t c) ∧ StepR B w (w2.setCell ⟨r, 1, none⟩ vr') := by
  have hBw : B ≤ w.heap.size := Nat.le_of_lt h.base
  have ha : Below w.heap.size w (w.alloc o) := (Below.refl _ _).alloc (Nat.le_refl _) _
  have hra : RRepr B (w.alloc o) r vl vr t := h.next ha
  have hkeep : ∀ (k : Nat) (ob : Obj), (w.alloc o).heap[k]? = some ob → (∀ cur, ob ≠ .cells cur 107 (0, 0)) → w2.heap[k]? = some ob := fun k ob hk hne => by
    refine (hg.block k (Array.getElem?_eq_some_iff.1 hk).1 fun e => ?_).trans hk
    rcases hra.row.2 with ⟨rfl, _⟩ | ⟨g, cap, cur, rfl, hb, hgg, rest⟩
    · cases e
    · cases e
      rw [hgg] at hk
      cases hk
      exact hne cur rfl
  have hbx : Box w2 r 84 #[vl, vr, .int .i64 t.strokes, .int .i64 t.off, .bool t.dead] := hkeep r _ hra.box (fun cur e => by simp at e)
  have hu : KeepU (w.alloc o) w2 := fun k cs fz hk => hkeep k _ hk (fun cur e => by simp at e)
  have hst2 : StepR B (w.alloc o) w2 := by
    refine ⟨(Below.refl B _).grown hg (Nat.le_of_lt hra.base) (fun k e => (hra.row.lt k e).1), fun k ob hk ho => hkeep k ob hk (fun cur e => by rw [e] at ho; cases ho)⟩
  have hst3 : StepR B w2 (w2.setCell ⟨r, 1, none⟩ vr') := StepR.of_set hbx rfl h.hr vr'
  refine ⟨⟨hbx.set 1 vr', ?_, ?_, fun f hf => ?_, h.hr⟩, ((StepR.of_below ha hBw).trans hst2).trans hst3⟩
  · refine own_ne (p := ⟨r, 1, none⟩) (show EOwn w2 B vl t.safe from ?_) hbx (by decide) vr'
    refine ⟨hra.safe.1, ?_⟩
    rcases hra.safe.2 with hn | ⟨g, cap, cur, e, hb, hgg, rest⟩
    · exact .inl hn
    · exact .inr ⟨g, cap, cur, e, hb, hkeep g _ hgg (fun cur' e' => by simp at e'), rest⟩
  · show (w2.setCell ⟨r, 1, none⟩ vr').ownsRow B _ 3 vr' (t.chs ++ [c]).length (ccells (t.chs ++ [c]))
    rw [ccells_append, List.length_append, show ccells [c] = chgCells c from by simp [ccells]]
    exact own_ne (p := ⟨r, 1, none⟩) hrow hbx (by decide) vr'
  · obtain ⟨va, vb, k1, k2, k3, k4⟩ := hra.files f hf
    have k1' : Box w2 f 87 #[va, vb] := hkeep f _ k1 (fun cur e => by simp at e)
    have hu3 : KeepU w2 (w2.setCell ⟨r, 1, none⟩ vr') := fun k cs fz hk => hst3.keep k _ hk rfl
    exact ⟨va, vb, k1'.other (show r ≠ f from fun e => hbx.ne_type k1' (by decide) e) vr', (k2.moveU hu).moveU hu3, (k3.moveU hu).moveU hu3, k4⟩
set_option maxRecDepth 100000 in
set_option maxHeartbeats 4000000 in
theorem rremove_any {B : Nat} {w : World} {r : Nat} {vl vr : Value} {t : DSt} (h : RRepr B w r vl vr t) (hi : RInv t) (x : List UInt8) (hx : x.length ≤ maxLen) :
    Calls Try.prog 51 #[.pointer (some ⟨r, 0, none⟩), .string ⟨x.toArray⟩] w fun e w' => e = .returned (.int .i64 (stepRemove t x).1) ∧ (∃ vl' vr', RRepr B w' r vl' vr' (stepRemove t x).2) ∧ StepR B w w' := by
  have HR := Lib.hid h
  have HI := Lib.hid hi
  have HX := Lib.hid hx
  have c4 := h.box.cell 4 rfl
  have hBw : B ≤ w.heap.size := Nat.le_of_lt h.base
  obtain ⟨dd, hdd⟩ : ∃ dd, dd = t.dead := ⟨_, rfl⟩
  have c4' : w.cell? ⟨r, 4, none⟩ = some (.bool dd) := by rw [hdd]; exact c4
  have HDD := Lib.hid hdd
  clear h hi hx c4 hdd
  cases dd with
  | true =>
    go_enter Try.func51, Try.ntmps51
    go_wp2_with fail
    go_ret
    rw [stepRemove, if_pos HDD.out.symm]
    exact ⟨rfl, ⟨vl, vr, HR.out⟩, StepR.refl _ _⟩
  | false =>
    go_enter Try.func51, Try.ntmps51
    go_wp2_with fail
    clear c4'
    refine (refName_nm x _ HX.out).mono ?_
    rintro e w' ⟨rfl, rfl⟩
    have HND := Lib.hid (show ¬ t.dead = true by rw [← HDD.out]; decide)
    cases hg : goodNm x with
    | false =>
      have HG := Lib.hid hg
      clear hg
      go_wp2_with fail
      go_ret
      rw [stepRemove, if_neg HND.out, if_neg (by rw [HG.out]; decide)]
      exact ⟨rfl, ⟨vl, vr, HR.out⟩, StepR.refl _ _⟩
    | true =>
      have HG := Lib.hid hg
      clear hg
      go_wp2_with fail
      refine (rstroke_any HR.out HI.out.st HDD.out.symm (HI.out.pw HDD.out.symm) HI.out.ob).mono ?_
      rintro e w2 ⟨rfl, hr2, hb2, hz2, hk2⟩
      have HR2 := Lib.hid hr2
      have HS2 := Lib.hid (stepR_stroke hb2 HR.out.box rfl (fun k h1 _ => hk2 k h1))
      have hz2' : B ≤ w2.heap.size := by omega
      clear hr2 hb2 hz2 hk2
      go_wp2_with fail
      refine (rfind_any HR2.out HI.out.wf.stroke HI.out.ris x).mono ?_
      rintro e w3 ⟨rfl, hb3⟩
      rw [show runC (strokeS t).safe (strokeS t).chs = t.seen from HI.out.run.symm]
      have HR3 := Lib.hid (HR2.out.next hb3)
      have HS3 := Lib.hid (HS2.out.trans (StepR.of_below hb3 hz2'))
      have hz3 := hb3.size
      clear hb3
      cases hget : lget t.seen x with
      | none =>
        have HGE := Lib.hid hget
        clear hget
        simp only [ptrV]
        go_wp2_with fail
        go_ret
        rw [stepRemove, if_neg HND.out, if_pos HG.out, HGE.out]
        exact ⟨rfl, ⟨vl, vr, HR3.out⟩, HS3.out⟩
      | some f =>
        have HGE := Lib.hid hget
        have HID := Lib.hid (HI.out.inIds hget)
        clear hget
        simp only [ptrV]
        have d1 := HR3.out.box.cell 1 rfl
        have g1 := HR3.out.box.free 1
        obtain ⟨avr, kvr, hvr⟩ := own_slice HR3.out.row
        obtain ⟨i0, hi, hz0, hz1, hzz⟩ := info_parts info_rchg
        have hcl := HI.out.wf.chl
        rw [hvr] at d1
        rw [hvr] at HR3
        clear hvr
        go_wp2_with (at_builtin; refine stopHere ?_)
        refine goOn ?_
        refine wpList_append_own _ rfl _ _ 82 rfl B 107 i0 (.agg #[.string ⟨#[]⟩, .pointer none, .string ⟨#[]⟩]) 3 40 Try.underlying82 hi hz0 hz1 hzz rfl (by decide) _ _ _ rfl (own_below HR3.out.row ((Below.refl _ _).alloc (Nat.le_refl _) _) (Nat.le_refl _)) ⟨w3.heap.size, 0, none⟩ 1 1 [.string ⟨x.toArray⟩, .pointer none, .string ⟨#[]⟩] rfl rfl (cells_new w3 _ _ _) (by simp [Value.oneCell']) (by unfold maxLen; have : (strokeS t).chs.length = t.chs.length := rfl; omega) (by have : (strokeS t).chs.length = t.chs.length := rfl; omega) (by simp; omega) ?_
        intro v' w4 hown' hgrow _
        obtain ⟨a4, k4, rfl⟩ := own_slice hown'
        have HF := Lib.hid (HR3.out.push (c := .del x) hown' hgrow)
        have hbx4 : Box w4 r 84 #[vl, .slice avr (strokeS t).chs.length kvr, .int .i64 (strokeS t).strokes, .int .i64 (strokeS t).off, .bool (strokeS t).dead] := by
          refine (hgrow.block r (by have := HR3.out.box.lt; simp; omega) fun e => ?_).trans ((Below.heap_alloc _ _ _ HR3.out.box.lt).trans HR3.out.box)
          rcases HR3.out.row.2 with ⟨h1, _⟩ | ⟨g, cap, cur, h1, hb, hgg, rest⟩
          · simp at h1
            rw [h1.1] at e
            cases e
          · simp at h1
            rw [h1.1] at e
            cases e
            have := HR3.out.box
            unfold Box at this
            rw [hgg] at this
            simp at this
        clear d1 g1
        have d1 := hbx4.cell 1 rfl
        have g1 := hbx4.free 1
        clear hown' hgrow hbx4
        go_wp2_with fail
        clear d1 g1
        have d4 := HF.out.1.box.cell 4 rfl
        rw [show (chgS (strokeS t) (.del x)).dead = offB t from rfl] at d4
        refine (rend_any (b := offB t) d4).mono ?_
        rintro e w' ⟨rfl, rfl⟩
        clear d4
        go_wp2_with fail
        go_ret
        rw [stepRemove, if_neg HND.out, if_pos HG.out, HGE.out]
        exact ⟨rfl, ⟨vl, _, HF.out.1⟩, HS3.out.trans HF.out.2⟩
set_option maxRecDepth 100000 in
set_option maxHeartbeats 4000000 in
theorem rrename_any {B : Nat} {w : World} {r : Nat} {vl vr : Value} {t : DSt} (h : RRepr B w r vl vr t) (hi : RInv t) (x b : List UInt8) (hx : x.length ≤ maxLen) (hxb : b.length ≤ maxLen) :
    Calls Try.prog 50 #[.pointer (some ⟨r, 0, none⟩), .string ⟨x.toArray⟩, .string ⟨b.toArray⟩] w fun e w' => e = .returned (.int .i64 (stepRename t x b).1) ∧ (∃ vl' vr', RRepr B w' r vl' vr' (stepRename t x b).2) ∧ StepR B w w' := by
  have HR := Lib.hid h
  have HI := Lib.hid hi
  have HX := Lib.hid hx
  have HXB := Lib.hid hxb
  have c4 := h.box.cell 4 rfl
  have hBw : B ≤ w.heap.size := Nat.le_of_lt h.base
  obtain ⟨dd, hdd⟩ : ∃ dd, dd = t.dead := ⟨_, rfl⟩
  have c4' : w.cell? ⟨r, 4, none⟩ = some (.bool dd) := by rw [hdd]; exact c4
  have HDD := Lib.hid hdd
  clear h hi hx hxb c4 hdd
  cases dd with
  | true =>
    go_enter Try.func50, Try.ntmps50
    go_wp2_with fail
    go_ret
    rw [stepRename, if_pos HDD.out.symm]
    exact ⟨rfl, ⟨vl, vr, HR.out⟩, StepR.refl _ _⟩
  | false =>
    go_enter Try.func50, Try.ntmps50
    go_wp2_with fail
    clear c4'
    refine (refName_nm x _ HX.out).mono ?_
    rintro e w' ⟨rfl, rfl⟩
    have HND := Lib.hid (show ¬ t.dead = true by rw [← HDD.out]; decide)
    cases hg : goodNm x with
    | false =>
      have HG := Lib.hid hg
      clear hg
      go_wp2_with fail
      go_ret
      rw [stepRename, if_neg HND.out, if_neg (by rw [HG.out, Bool.false_and]; decide)]
      exact ⟨rfl, ⟨vl, vr, HR.out⟩, StepR.refl _ _⟩
    | true =>
      have HG1 := Lib.hid hg
      clear hg
      go_wp2_with fail
      refine (refName_nm b _ HXB.out).mono ?_
      rintro e w' ⟨rfl, rfl⟩
      cases hgb : goodNm b with
      | false =>
        have HGB := Lib.hid hgb
        clear hgb
        go_wp2_with fail
        go_ret
        rw [stepRename, if_neg HND.out, if_neg (by rw [HGB.out, Bool.and_false]; decide)]
        exact ⟨rfl, ⟨vl, vr, HR.out⟩, StepR.refl _ _⟩
      | true =>
      have HG := Lib.hid (show (goodNm x && goodNm b) = true by rw [HG1.out, hgb]; rfl)
      clear hgb
      go_wp2_with fail
      refine (rstroke_any HR.out HI.out.st HDD.out.symm (HI.out.pw HDD.out.symm) HI.out.ob).mono ?_
      rintro e w2 ⟨rfl, hr2, hb2, hz2, hk2⟩
      have HR2 := Lib.hid hr2
      have HS2 := Lib.hid (stepR_stroke hb2 HR.out.box rfl (fun k h1 _ => hk2 k h1))
      have hz2' : B ≤ w2.heap.size := by omega
      clear hr2 hb2 hz2 hk2
      go_wp2_with fail
      refine (rfind_any HR2.out HI.out.wf.stroke HI.out.ris x).mono ?_
      rintro e w3 ⟨rfl, hb3⟩
      rw [show runC (strokeS t).safe (strokeS t).chs = t.seen from HI.out.run.symm]
      have HR3 := Lib.hid (HR2.out.next hb3)
      have HS3 := Lib.hid (HS2.out.trans (StepR.of_below hb3 hz2'))
      have hz3 := hb3.size
      clear hb3
      cases hget : lget t.seen x with
      | none =>
        have HGE := Lib.hid hget
        clear hget
        simp only [ptrV]
        go_wp2_with fail
        go_ret
        rw [stepRename, if_neg HND.out, if_pos HG.out, HGE.out]
        exact ⟨rfl, ⟨vl, vr, HR3.out⟩, HS3.out⟩
      | some f =>
        have HGE := Lib.hid hget
        have HID := Lib.hid (HI.out.inIds hget)
        clear hget
        simp only [ptrV]
        have d1 := HR3.out.box.cell 1 rfl
        have g1 := HR3.out.box.free 1
        obtain ⟨avr, kvr, hvr⟩ := own_slice HR3.out.row
        obtain ⟨i0, hi, hz0, hz1, hzz⟩ := info_parts info_rchg
        have hcl := HI.out.wf.chl
        rw [hvr] at d1
        rw [hvr] at HR3
        clear hvr
        go_wp2_with (at_builtin; refine stopHere ?_)
        refine goOn ?_
        refine wpList_append_own _ rfl _ _ 82 rfl B 107 i0 (.agg #[.string ⟨#[]⟩, .pointer none, .string ⟨#[]⟩]) 3 40 Try.underlying82 hi hz0 hz1 hzz rfl (by decide) _ _ _ rfl (own_below HR3.out.row ((Below.refl _ _).alloc (Nat.le_refl _) _) (Nat.le_refl _)) ⟨w3.heap.size, 0, none⟩ 1 1 [.string ⟨b.toArray⟩, .pointer (some ⟨f, 0, none⟩), .string ⟨x.toArray⟩] rfl rfl (cells_new w3 _ _ _) (by simp [Value.oneCell']) (by unfold maxLen; have : (strokeS t).chs.length = t.chs.length := rfl; omega) (by have : (strokeS t).chs.length = t.chs.length := rfl; omega) (by simp; omega) ?_
        intro v' w4 hown' hgrow _
        obtain ⟨a4, k4, rfl⟩ := own_slice hown'
        have HF := Lib.hid (HR3.out.push (c := .mv x b f) hown' hgrow)
        have hbx4 : Box w4 r 84 #[vl, .slice avr (strokeS t).chs.length kvr, .int .i64 (strokeS t).strokes, .int .i64 (strokeS t).off, .bool (strokeS t).dead] := by
          refine (hgrow.block r (by have := HR3.out.box.lt; simp; omega) fun e => ?_).trans ((Below.heap_alloc _ _ _ HR3.out.box.lt).trans HR3.out.box)
          rcases HR3.out.row.2 with ⟨h1, _⟩ | ⟨g, cap, cur, h1, hb, hgg, rest⟩
          · simp at h1
            rw [h1.1] at e
            cases e
          · simp at h1
            rw [h1.1] at e
            cases e
            have := HR3.out.box
            unfold Box at this
            rw [hgg] at this
            simp at this
        clear d1 g1
        have d1 := hbx4.cell 1 rfl
        have g1 := hbx4.free 1
        clear hown' hgrow hbx4
        go_wp2_with fail
        clear d1 g1
        have d4 := HF.out.1.box.cell 4 rfl
        rw [show (chgS (strokeS t) (.mv x b f)).dead = offB t from rfl] at d4
        refine (rend_any (b := offB t) d4).mono ?_
        rintro e w' ⟨rfl, rfl⟩
        clear d4
        go_wp2_with fail
        go_ret
        rw [stepRename, if_neg HND.out, if_pos HG.out, HGE.out]
        exact ⟨rfl, ⟨vl, _, HF.out.1⟩, HS3.out.trans HF.out.2⟩
def stepDir (s : DSt) : Int × DSt := if s.dead then (6, s) else (toldI (offB s), syncDirS s)
theorem RRepr.setDir {B : Nat} {w : World} {r : Nat} {vl vr vl' : Value} {t : DSt} {l : NM} (h : RRepr B w r vl vr t) (hl : EOwn w B vl' l) :
    RRepr B ((w.setCell ⟨r, 0, none⟩ vl').setCell ⟨r, 1, none⟩ (.slice none 0 0)) r vl' (.slice none 0 0) { t with safe := l, chs := [] } ∧ StepR B w ((w.setCell ⟨r, 0, none⟩ vl').setCell ⟨r, 1, none⟩ (.slice none 0 0)) := by
  have hst : StepR B w ((w.setCell ⟨r, 0, none⟩ vl').setCell ⟨r, 1, none⟩ (.slice none 0 0)) := (StepR.of_set h.box rfl h.hr _).trans (StepR.of_set (h.box.set 0 _) rfl h.hr _)
  have hu : KeepU w ((w.setCell ⟨r, 0, none⟩ vl').setCell ⟨r, 1, none⟩ (.slice none 0 0)) := fun k cs fz hk => hst.keep k _ hk rfl
  refine ⟨⟨(h.box.set 0 _).set 1 _, own_ne (p := ⟨r, 1, none⟩) (own_ne (p := ⟨r, 0, none⟩) hl h.box (by decide) _) (h.box.set 0 _) (by decide) _, World.ownsRow_nil _ _ _ _, fun f hf => ?_, h.hr⟩, hst⟩
  obtain ⟨va, vb, k1, k2, k3, k4⟩ := h.files f hf
  exact ⟨va, vb, (k1.other (show r ≠ f from fun e => h.box.ne_type k1 (by decide) e) _).other (show r ≠ f from fun e => h.box.ne_type k1 (by decide) e) _, k2.moveU hu, k3.moveU hu, k4⟩
set_option maxRecDepth 100000 in
set_option maxHeartbeats 4000000 in
theorem rsyncDir_any {B : Nat} {w : World} {r : Nat} {vl vr : Value} {t : DSt} (h : RRepr B w r vl vr t) (hi : RInv t) :
    Calls Try.prog 52 #[.pointer (some ⟨r, 0, none⟩)] w fun e w' => e = .returned (.int .i64 (stepDir t).1) ∧ (∃ vl' vr', RRepr B w' r vl' vr' (stepDir t).2) ∧ StepR B w w' := by
  have HR := Lib.hid h
  have HI := Lib.hid hi
  have c4 := h.box.cell 4 rfl
  have hBw : B ≤ w.heap.size := Nat.le_of_lt h.base
  obtain ⟨dd, hdd⟩ : ∃ dd, dd = t.dead := ⟨_, rfl⟩
  have c4' : w.cell? ⟨r, 4, none⟩ = some (.bool dd) := by rw [hdd]; exact c4
  have HDD := Lib.hid hdd
  clear h hi c4 hdd
  cases dd with
  | true =>
    go_enter Try.func52, Try.ntmps52
    go_wp2_with fail
    go_ret
    rw [stepDir, if_pos HDD.out.symm]
    exact ⟨rfl, ⟨vl, vr, HR.out⟩, StepR.refl _ _⟩
  | false =>
    go_enter Try.func52, Try.ntmps52
    go_wp2_with fail
    clear c4'
    have HND := Lib.hid (show ¬ t.dead = true by rw [← HDD.out]; decide)
    refine (rstroke_any HR.out HI.out.st HDD.out.symm (HI.out.pw HDD.out.symm) HI.out.ob).mono ?_
    rintro e w2 ⟨rfl, hr2, hb2, hz2, hk2⟩
    have HR2 := Lib.hid hr2
    have HS2 := Lib.hid (stepR_stroke hb2 HR.out.box rfl (fun k h1 _ => hk2 k h1))
    have hz2' : B ≤ w2.heap.size := by omega
    clear hr2 hb2 hz2 hk2
    obtain ⟨ob, hob⟩ : ∃ ob, ob = offB t := ⟨_, rfl⟩
    rw [← hob]
    have HOB := Lib.hid hob
    clear hob
    cases ob with
    | true =>
      go_wp2_with fail
      have d4 := HR2.out.box.cell 4 rfl
      rw [show (strokeS t).dead = true from HOB.out.symm] at d4
      refine (rend_any (b := true) d4).mono ?_
      rintro e w' ⟨rfl, rfl⟩
      clear d4
      go_wp2_with fail
      go_ret
      rw [stepDir, if_neg HND.out]
      exact ⟨by show _ = Ending.returned (.int .i64 (toldI (offB t))); rw [← HOB.out]; rfl, ⟨vl, vr, by show RRepr B w2 r vl vr (syncDirS t); rw [syncDirS, ← HOB.out]; exact HR2.out⟩, HS2.out⟩
    | false =>
      have d1 := HR2.out.box.cell 1 rfl
      obtain ⟨avr, kvr, hvr⟩ := own_slice HR2.out.row
      have hcl := HI.out.wf.chl
      rw [hvr] at d1
      rw [hvr] at HR2
      clear hvr
      go_wp2_with fail
      clear d1
      refine (rlist_any HR2.out HI.out.wf.stroke t.chs.length (Nat.le_refl _)).mono ?_
      rintro e w3 ⟨⟨v3, rfl, ho3⟩, hb3⟩
      rw [show runC (strokeS t).safe ((strokeS t).chs.take t.chs.length) = t.seen from by rw [show (strokeS t).chs = t.chs from rfl, List.take_length]; exact HI.out.run.symm] at ho3
      obtain ⟨a3, k3, rfl⟩ := own_slice ho3
      have HO3 := Lib.hid (show EOwn w3 B (.slice a3 t.seen.length k3) t.seen from ho3)
      have HR3 := Lib.hid (HR2.out.next hb3)
      have HS3 := Lib.hid (HS2.out.trans (StepR.of_below hb3 hz2'))
      have d0 := HR3.out.box.cell 0 rfl
      have g0 := HR3.out.box.free 0
      have d1 := (HR3.out.box.set 0 (.slice a3 t.seen.length k3)).cell 1 rfl
      have g1 := (HR3.out.box.set 0 (.slice a3 t.seen.length k3)).free 1
      clear ho3 hb3
      have HF := Lib.hid (HR3.out.setDir HO3.out)
      obtain ⟨av0, kv0, hv0⟩ := own_slice HR3.out.safe
      rw [hv0] at d0
      clear hv0
      go_wp2_with fail
      clear d0 g0 d1 g1
      have d4 := HF.out.1.box.cell 4 rfl
      rw [show (strokeS t).dead = false from HOB.out.symm] at d4
      refine (rend_any (b := false) d4).mono ?_
      rintro e w' ⟨rfl, rfl⟩
      clear d4
      go_wp2_with fail
      go_ret
      rw [stepDir, if_neg HND.out]
      exact ⟨by show _ = Ending.returned (.int .i64 (toldI (offB t))); rw [← HOB.out]; rfl, ⟨_, _, by show RRepr B _ r _ _ (syncDirS t); rw [syncDirS, ← HOB.out]; exact HF.out.1⟩, HS3.out.trans HF.out.2⟩
end Go.Proofs.Ytejmbhckfdfoeaa
