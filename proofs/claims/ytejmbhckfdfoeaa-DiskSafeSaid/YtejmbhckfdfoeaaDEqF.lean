/-
  THE REFERENCE'S EqFile, EqFiles, at lists that are the same.
-/
import Derived.Test.YtejmbhckfdfoeaaDCopyF
set_option linter.unusedVariables false
set_option linter.unusedSimpArgs false
namespace Go.Proofs.Ytejmbhckfdfoeaa
open Go.RowKit Go.Maps
set_option maxRecDepth 100000 in
set_option maxHeartbeats 1000000 in
theorem eqFile_same (x : List UInt8) (v u : Value) (xs : List Int) (w : World) (hr : Rd w .u8 v xs) (hs : Rd w .u8 u xs) (hl : xs.length ≤ 140737488351232) :
    Calls Try.prog 46 #[.agg #[encStr x, v], .agg #[encStr x, u]] w fun e w' => e = .returned (.bool true) ∧ Below w.heap.size w w' := by
  obtain ⟨o, cap, rfl⟩ := rd_slice hr
  obtain ⟨o2, cap2, rfl⟩ := rd_slice hs
  have HR := Lib.hid hr
  have HS := Lib.hid hs
  clear hr hs
  obtain ⟨W0, hW0⟩ : ∃ W0, W0 = ((w.alloc (.cells #[encStr x, .slice o xs.length cap] 48)).alloc (.cells #[encStr x, .slice o2 xs.length cap2] 48)) := ⟨_, rfl⟩
  have HB1 := Lib.hid (show Box W0 w.heap.size 48 #[encStr x, .slice o xs.length cap] by
    rw [hW0]; exact Box.below (C := w.heap.size + 1) (Box.new_at rfl) ((Below.refl _ _).alloc (by simp) _) (by omega))
  have HB2 := Lib.hid (show Box W0 (w.heap.size + 1) 48 #[encStr x, .slice o2 xs.length cap2] by rw [hW0]; exact Box.new_at (by simp))
  have HBl := Lib.hid (show Below w.heap.size w W0 by rw [hW0]; exact ((Below.refl _ _).alloc (Nat.le_refl _) _).alloc (by simp) _)
  have HW0 := Lib.hid hW0
  have d0 := HB1.out.cell 0 rfl
  have d1 := HB1.out.cell 1 rfl
  have e0 := HB2.out.cell 0 rfl
  have e1 := HB2.out.cell 1 rfl
  simp only [encStr] at d0 e0
  rw [hW0] at d0 d1 e0 e1
  clear hW0
  go_enter Try.func46, Try.ntmps46
  go_wp2_with fail
  rw [← HW0.out] at d0 d1 e0 e1 ⊢
  clear HW0
  refine (eqBytes_any _ _ xs xs _ (HR.out.below HBl.out (Nat.le_refl _)) (HS.out.below HBl.out (Nat.le_refl _)) hl).mono ?_
  rintro e w1 ⟨rfl, hs⟩
  rw [decide_eq_true rfl]
  have HF := Lib.hid (HBl.out.trans (hs.below _))
  clear hs d0 d1 e0 e1
  go_wp2_with fail
  go_ret
  exact ⟨rfl, HF.out⟩
set_option maxRecDepth 100000 in
set_option maxHeartbeats 2000000 in
theorem eqFiles_same (v u : Value) (fs : List FileD) (w : World) (hr : FilesRd w v fs) (hs : FilesRd w u fs) (hl : fs.length ≤ 140737488351232) :
    Calls Try.prog 25 #[v, u] w fun e w' => e = .returned (.bool true) ∧ Below w.heap.size w w' := by
  obtain ⟨o, cap, rfl, hc⟩ := hr
  obtain ⟨o2, cap2, rfl, hc2⟩ := hs
  have HC := Lib.hid hc
  have HC2 := Lib.hid hc2
  clear hc hc2
  go_enter Try.func25, Try.ntmps25
  go_wp2_with fail
  go_loopg [5] fs.length (fun g i wr => ∃ k : Nat, g = fs.length - k ∧ k ≤ fs.length ∧ i = .int .i64 k ∧ Below w.heap.size w wr)
  case atStart => exact ⟨0, rfl, Nat.zero_le _, rfl, Below.refl _ _⟩
  case round =>
    obtain ⟨k, hg, hk, rfl, hB⟩ := hrel
    obtain ⟨w2, rfl⟩ : ∃ w2, w2 = wr := ⟨_, rfl⟩
    have HB := Lib.hid hB
    by_cases hlt : k < fs.length
    · obtain ⟨⟨b, off, od, cd, rfl, c0, c1, hrd⟩, hnl, hdl⟩ := (HC.out k hlt).below hB (Nat.le_refl _)
      obtain ⟨⟨b2, off2, od2, cd2, rfl, e0, e1, hrd2⟩, _, _⟩ := (HC2.out k hlt).below hB (Nat.le_refl _)
      obtain ⟨fd, hfd⟩ : ∃ fd, fd = fnth fs k := ⟨_, rfl⟩
      rw [← hfd] at c0 c1 hrd hnl hdl e0 e1 hrd2
      obtain ⟨nm, da⟩ := fd
      simp only at c0 c1 hrd hnl hdl e0 e1 hrd2
      have HR := Lib.hid hrd
      have HR2 := Lib.hid hrd2
      have HC0 := Lib.hid (And.intro c0 (And.intro c1 (And.intro e0 e1)))
      clear hfd hnl hrd hrd2 hB
      have HX := Lib.hid (show Below w2.heap.size w2 w2.drew from Below.drew (Below.refl _ _))
      go_wp2_with fail
      go_region_held3 (fun w' => w'.cell? ⟨b, off + k * 2, none⟩ = some (encStr nm) ∧ w'.cell? ⟨b, off + k * 2 + 1, none⟩ = some (.slice od da.length cd) ∧ w'.cell? ⟨b2, off2 + k * 2, none⟩ = some (encStr nm) ∧ w'.cell? ⟨b2, off2 + k * 2 + 1, none⟩ = some (.slice od2 da.length cd2))
        (exact ⟨(HX.out.cell (cell_lt HC0.out.1)).trans HC0.out.1, (HX.out.cell (cell_lt HC0.out.2.1)).trans HC0.out.2.1, (HX.out.cell (cell_lt HC0.out.2.2.1)).trans HC0.out.2.2.1, (HX.out.cell (cell_lt HC0.out.2.2.2)).trans HC0.out.2.2.2⟩)
        (first
        | (go_at_call 46; refine (eqFile_same nm _ _ da _ (HR.out.below HX.out (Nat.le_refl _)) (HR2.out.below HX.out (Nat.le_refl _)) hdl).mono ?_; rintro e wy ⟨rfl, hby⟩; have HX := Lib.hid (HX.out.trans (hby.mono HX.out.size)); clear hby))
      clear c0 c1 e0 e1
      have HN := Lib.hid (HB.out.trans (HX.out.mono HB.out.size))
      go_wp2_with fail
      go_roundg (fs.length - (k + 1))
      case measure => omega
      case rel => exact ⟨k + 1, rfl, hlt, by go_num, HN.out⟩
    · have hke : k = fs.length := by omega
      subst hke
      clear hB
      go_wp2_with fail
      go_ret
      exact ⟨rfl, HB.out⟩
end Go.Proofs.Ytejmbhckfdfoeaa
