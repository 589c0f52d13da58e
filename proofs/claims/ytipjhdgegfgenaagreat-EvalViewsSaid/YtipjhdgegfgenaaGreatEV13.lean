/-
  VIEWS of the reference: ratchetref6.Of.
-/
import Derived.OneCell
import Derived.Test.YtipjhdgegfgenaaGreatEV07
import Derived.Test.YtipjhdgegfgenaaGreatEV05
set_option linter.unusedVariables false
set_option linter.unusedSimpArgs false
namespace Go.Proofs.YtipjhdgegfgenaaGreat
open Go.RowKit Go.Shelf Go
theorem Box.put {w : World} {g : Nat} {T : TypeId} {cs : Array Value} (h : Box w g T cs) (j : Nat) (u : Value) : Box (w.setCell ⟨g, j, none⟩ u) g T (cs.setIfInBounds j u) := by
  unfold Box at *
  simp [World.setCell, Array.getElem?_modify, h]
/-- a view whose rows are one's own -/
def ViewOut (w0 : World) (sh st : List Int) (off : Int) (e : Ending) (w' : World) : Prop :=
  Below w0.heap.size w0 w' ∧ ∃ a b, e = .returned (.agg #[a, b, .int .i64 off]) ∧ OwnI w' w0.heap.size 3 .i64 a sh ∧ OwnI w' w0.heap.size 3 .i64 b st
set_option maxRecDepth 100000 in
set_option maxHeartbeats 2000000 in
theorem ref6Of_any (v : Value) (ns : List Nat) (w : World) (hr : Rd w .i64 v (ints ns)) (hd : DimsN ns) :
    Calls Tryz.prog 88 #[v] w (ViewOut w (ints ns) (ints (stepsN ns)) 0) := by
  have HR := Lib.hid hr
  obtain ⟨o, cap, rfl⟩ := rd_slice hr
  have HD := Lib.hid hd
  have hl4 : (ints ns).length ≤ 4 := by rw [ints_length]; exact hd.2
  obtain ⟨W, hW⟩ : ∃ W, W = w.alloc (.cells #[.slice none 0 0, .slice none 0 0, .int .i64 0] 81) := ⟨_, rfl⟩
  have hB : Below w.heap.size w W := by rw [hW]; exact (Below.refl _ _).alloc (Nat.le_refl _) _
  have hbx : Box W w.heap.size 81 #[.slice none 0 0, .slice none 0 0, .int .i64 0] := by rw [hW]; exact Box.new _ _ _
  have HX := Lib.hid (And.intro hB hbx)
  have HW := Lib.hid hW
  clear hr hd hW hB hbx
  go_enter Tryz.func88, Tryz.ntmps88
  go_wp2_with (go_at_call 53; rw [← HW.out]; refine (copyNumbers_any _ _ W (HR.out.below HX.out.1 (Nat.le_refl _)) (by omega)).mono ?_; rintro e w1 ⟨va, rfl, hoa, hba⟩; refine stopHere ?_)
  obtain ⟨oa, ca, rfl⟩ := own_slice hoa
  have HX1 := Lib.hid (And.intro (HX.out.1.trans (hba.mono HX.out.1.size)) (HX.out.2.next hba))
  have HOA := Lib.hid (And.intro hoa hba.size)
  clear hoa hba
  refine goOn ?_
  go_wp2_with (go_at_call 139; refine (ref6Strides_any _ ns w1 (HR.out.below HX1.out.1 (Nat.le_refl _)) HD.out).mono ?_; rintro e w2 ⟨⟨vb, rfl, hob⟩, hbb⟩; refine stopHere ?_)
  obtain ⟨ob, cb, rfl⟩ := own_slice hob
  have HX2 := Lib.hid (And.intro (HX1.out.1.trans (hbb.mono HX1.out.1.size)) (HX1.out.2.next hbb))
  have HOB := Lib.hid hob
  have HOA2 := Lib.hid (own_below HOA.out.1 hbb (Nat.le_refl _))
  have HNE := Lib.hid (show (∀ g, (Value.slice oa (ints ns).length ca).ownBlock = some g → w.heap.size < g) ∧ (∀ g, (Value.slice ob (ints (stepsN ns)).length cb).ownBlock = some g → w.heap.size < g) from
    ⟨fun g hg => Nat.lt_of_lt_of_le HX.out.2.lt (HOA.out.1.lt g hg).1, fun g hg => Nat.lt_of_lt_of_le HX1.out.2.lt (HOB.out.lt g hg).1⟩)
  clear hob hbb
  have c0 := HX2.out.2.cell 0 rfl
  have c1 := HX2.out.2.cell 1 rfl
  have c2 := HX2.out.2.cell 2 rfl
  have f0 := HX2.out.2.free 0
  have f1 := HX2.out.2.free 1
  have f2 := HX2.out.2.free 2
  refine goOn ?_
  go_wp2
  have hb3 := (((HX2.out.2.put 0 (.slice oa (ints ns).length ca)).put 1 (.slice ob (ints (stepsN ns)).length cb)).put 2 (.int .i64 0))
  have hne : ∀ (v : Value), (∀ g, v.ownBlock = some g → w.heap.size < g) → ∀ j : Nat, v.ownBlock ≠ some (⟨w.heap.size, j, none⟩ : Addr).block := fun v hv j h => by have := hv _ h; simp at this
  have own3 : ∀ {B : Nat} {v : Value} {n : Nat} {xs : List Value} (u0 u1 u2 : Value), w2.ownsRow B 3 1 v n xs → (∀ g, v.ownBlock = some g → w.heap.size < g) →
      (((w2.setCell ⟨w.heap.size, 0, none⟩ u0).setCell ⟨w.heap.size, 1, none⟩ u1).setCell ⟨w.heap.size, 2, none⟩ u2).ownsRow B 3 1 v n xs := fun u0 u1 u2 h hv =>
    ownsRow_setCell_other (ownsRow_setCell_other (ownsRow_setCell_other h (hne _ hv 0) _) (hne _ hv 1) _) (hne _ hv 2) _
  have hbel := ((HX2.out.1.setCell (p := ⟨w.heap.size, 0, none⟩) (Nat.le_refl _) (.slice oa (ints ns).length ca)).setCell (p := ⟨w.heap.size, 1, none⟩) (Nat.le_refl _) (.slice ob (ints (stepsN ns)).length cb)).setCell (p := ⟨w.heap.size, 2, none⟩) (Nat.le_refl _) (.int .i64 0)
  refine bodyPost_ret (v := .agg #[.slice oa (ints ns).length ca, .slice ob (ints (stepsN ns)).length cb, .int .i64 0]) (results_cell_row rfl _ _ w.heap.size 81 _ (0, 0) _ rfl hb3 Tryz.underlying81 rfl (by kernel_rfl)) rfl ⟨hbel, _, _, rfl, own3 _ _ _ (own_mono HOA2.out HX.out.1.size) HNE.out.1, own3 _ _ _ (own_mono HOB.out HX1.out.1.size) HNE.out.2⟩
end Go.Proofs.YtipjhdgegfgenaaGreat
/-
  VIEWS of the program: view.Plain.
-/
set_option linter.unusedVariables false
set_option linter.unusedSimpArgs false
namespace Go.Proofs.YtipjhdgegfgenaaGreat
open Go.RowKit Go.Shelf Go
set_option maxRecDepth 100000 in
set_option maxHeartbeats 2000000 in
theorem viewPlain_any (v : Value) (ns : List Nat) (w : World) (hr : Rd w .i64 v (ints ns)) (hd : DimsN ns) :
    Calls Tryz.prog 113 #[v] w (ViewOut w (ints ns) (ints (stepsN ns)) 0) := by
  have HR := Lib.hid hr
  obtain ⟨o, cap, rfl⟩ := rd_slice hr
  have HD := Lib.hid hd
  have hl4 : (ints ns).length ≤ 4 := by rw [ints_length]; exact hd.2
  obtain ⟨W, hW⟩ : ∃ W, W = w.alloc (.cells #[.slice none 0 0, .slice none 0 0, .int .i64 0] 81) := ⟨_, rfl⟩
  have hB : Below w.heap.size w W := by rw [hW]; exact (Below.refl _ _).alloc (Nat.le_refl _) _
  have hbx : Box W w.heap.size 81 #[.slice none 0 0, .slice none 0 0, .int .i64 0] := by rw [hW]; exact Box.new _ _ _
  have HX := Lib.hid (And.intro hB hbx)
  have HW := Lib.hid hW
  clear hr hd hW hB hbx
  go_enter Tryz.func113, Tryz.ntmps113
  go_wp2_with (go_at_call 104; rw [← HW.out]; refine (cloneInts_any _ _ W (HR.out.below HX.out.1 (Nat.le_refl _)) (by omega)).mono ?_; rintro e w1 ⟨⟨va, rfl, hoa⟩, hba⟩; refine stopHere ?_)
  obtain ⟨oa, ca, rfl⟩ := own_slice hoa
  have HX1 := Lib.hid (And.intro (HX.out.1.trans (hba.mono HX.out.1.size)) (HX.out.2.next hba))
  have HOA := Lib.hid (And.intro hoa hba.size)
  clear hoa hba
  refine goOn ?_
  go_wp2_with (go_at_call 162; refine (shapeSteps_any _ ns w1 (HR.out.below HX1.out.1 (Nat.le_refl _)) HD.out).mono ?_; rintro e w2 ⟨⟨vb, rfl, hob⟩, hbb⟩; refine stopHere ?_)
  obtain ⟨ob, cb, rfl⟩ := own_slice hob
  have HX2 := Lib.hid (And.intro (HX1.out.1.trans (hbb.mono HX1.out.1.size)) (HX1.out.2.next hbb))
  have HOB := Lib.hid hob
  have HOA2 := Lib.hid (own_below HOA.out.1 hbb (Nat.le_refl _))
  have HNE := Lib.hid (show (∀ g, (Value.slice oa (ints ns).length ca).ownBlock = some g → w.heap.size < g) ∧ (∀ g, (Value.slice ob (ints (stepsN ns)).length cb).ownBlock = some g → w.heap.size < g) from
    ⟨fun g hg => Nat.lt_of_lt_of_le HX.out.2.lt (HOA.out.1.lt g hg).1, fun g hg => Nat.lt_of_lt_of_le HX1.out.2.lt (HOB.out.lt g hg).1⟩)
  clear hob hbb
  have c0 := HX2.out.2.cell 0 rfl
  have c1 := HX2.out.2.cell 1 rfl
  have c2 := HX2.out.2.cell 2 rfl
  have f0 := HX2.out.2.free 0
  have f1 := HX2.out.2.free 1
  have f2 := HX2.out.2.free 2
  refine goOn ?_
  go_wp2
  have hb3 := (((HX2.out.2.put 0 (.slice oa (ints ns).length ca)).put 1 (.slice ob (ints (stepsN ns)).length cb)).put 2 (.int .i64 0))
  have hne : ∀ (v : Value), (∀ g, v.ownBlock = some g → w.heap.size < g) → ∀ j : Nat, v.ownBlock ≠ some (⟨w.heap.size, j, none⟩ : Addr).block := fun v hv j h => by have := hv _ h; simp at this
  have own3 : ∀ {B : Nat} {v : Value} {n : Nat} {xs : List Value} (u0 u1 u2 : Value), w2.ownsRow B 3 1 v n xs → (∀ g, v.ownBlock = some g → w.heap.size < g) →
      (((w2.setCell ⟨w.heap.size, 0, none⟩ u0).setCell ⟨w.heap.size, 1, none⟩ u1).setCell ⟨w.heap.size, 2, none⟩ u2).ownsRow B 3 1 v n xs := fun u0 u1 u2 h hv =>
    ownsRow_setCell_other (ownsRow_setCell_other (ownsRow_setCell_other h (hne _ hv 0) _) (hne _ hv 1) _) (hne _ hv 2) _
  have hbel := ((HX2.out.1.setCell (p := ⟨w.heap.size, 0, none⟩) (Nat.le_refl _) (.slice oa (ints ns).length ca)).setCell (p := ⟨w.heap.size, 1, none⟩) (Nat.le_refl _) (.slice ob (ints (stepsN ns)).length cb)).setCell (p := ⟨w.heap.size, 2, none⟩) (Nat.le_refl _) (.int .i64 0)
  refine bodyPost_ret (v := .agg #[.slice oa (ints ns).length ca, .slice ob (ints (stepsN ns)).length cb, .int .i64 0]) (results_cell_row rfl _ _ w.heap.size 81 _ (0, 0) _ rfl hb3 Tryz.underlying81 rfl (by kernel_rfl)) rfl ⟨hbel, _, _, rfl, own3 _ _ _ (own_mono HOA2.out HX.out.1.size) HNE.out.1, own3 _ _ _ (own_mono HOB.out HX1.out.1.size) HNE.out.2⟩
end Go.Proofs.YtipjhdgegfgenaaGreat
