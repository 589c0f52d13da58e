/-
  slices.Clone of bytes; bytes compared (slices.Equal); the references' CopyBytes, EqBytes.
-/
import Derived.Test.YtejmbhckfdfoeaaDPart
set_option linter.unusedVariables false
set_option linter.unusedSimpArgs false
namespace Go.Proofs.Ytejmbhckfdfoeaa
open Go.RowKit Go.Maps
theorem info_u8 : (Try.prog.info? 5).map (fun i => (i.zero, i.size, i.bytes)) = some (some (.int .u8 0), 1, 1) := by kernel_rfl
set_option maxRecDepth 100000 in
set_option maxHeartbeats 1000000 in
theorem clone_any (v : Value) (xs : List Int) (w : World) (hr : Rd w .u8 v xs) (hl : xs.length ≤ 4194304) :
    Calls Try.prog 32 #[v] w fun e w' => ∃ v', e = .returned v' ∧ BytesRep w.heap.size w' v' xs ∧ Below w.heap.size w w' := by
  obtain ⟨o, cap, rfl, hc⟩ := hr
  cases o with
  | none =>
    have hx : xs = [] := by
      cases xs with
      | nil => rfl
      | cons x xs => obtain ⟨b, off, he, _⟩ := hc 0 (by simp); cases he
    subst hx
    clear hc
    have hq := fun (W : World) => Lib.run_eql_slice_nil (P := Try.prog) W 34 5 none 0 cap 0 0 Try.underlying34
    go_enter Try.func32, Try.ntmps32
    go_wp2
    go_ret
    exact ⟨_, rfl, BytesRep.nil _ _, Below.refl _ _⟩
  | some a =>
    have HR := Lib.hid (show Rd w .u8 (.slice (some a) xs.length cap) xs from ⟨_, cap, rfl, hc⟩)
    clear hc
    obtain ⟨i0, hi, hz0, hz1, hz2⟩ := info_parts info_u8
    have hb : Below w.heap.size w (w.alloc (.cells #[] 5)) := (Below.refl _ _).alloc (Nat.le_refl _) _
    have HO := Lib.hid (show OwnI (w.alloc (.cells #[] 5)) w.heap.size 5 .u8 (.slice (some ⟨w.heap.size, 0, none⟩) 0 0) [] from OwnI.lit w .u8 [] 5 (Nat.zero_le _))
    have HB := Lib.hid hb
    clear hb
    have hq := fun (W : World) => Lib.run_eql_slice_nil (P := Try.prog) W 34 5 (some a) xs.length cap 0 0 Try.underlying34
    go_enter Try.func32, Try.ntmps32
    go_wp2_with (at_builtin; refine stopHere ?_)
    refine goOn ?_
    refine wpList_append_rd rfl _ _ 34 rfl w.heap.size 5 .u8 i0 1 Try.underlying34 hi hz0 hz1 hz2 _ [] rfl HO.out _ xs rfl (HR.out.below HB.out (Nat.le_refl _)) (by unfold maxLen; simp; omega) (by simp; omega) (by simp) ?_
    intro v' w1 hown hg hat
    rw [List.nil_append] at hown
    obtain ⟨a', k', rfl⟩ := own_slice hown
    have HW := Lib.hid hown
    have HB1 := Lib.hid (HB.out.trans (below_grown' HO.out hg (by simp)))
    clear hown hg hat
    go_wp2_with fail
    go_ret
    exact ⟨_, rfl, BytesRep.own HW.out hl, HB1.out⟩
end Go.Proofs.Ytejmbhckfdfoeaa
