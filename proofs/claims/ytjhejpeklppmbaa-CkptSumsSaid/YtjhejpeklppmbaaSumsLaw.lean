/-
  ratchetlaw33.CkptSums: the walk.
-/
import Derived.Test.YtjhejpeklppmbaaCrcSum
import Derived.Test.YtjhejpeklppmbaaCrcLaw
import Derived.Test.YtjhejpeklppmbaaCopies
set_option linter.unusedVariables false
set_option linter.unusedSimpArgs false
namespace Go.Proofs.Ytjhejpeklppmbaa
open Go.RowKit
theorem sum_any (v : Value) (xs : List Int) (w : World) (hr : Rd w .u8 v xs) (hw : Wf .u8 xs) (hl : xs.length ≤ 140737488351232) :
    Calls Try.prog 10 #[v] w fun e w' => e = .returned (.int .u32 (crcSum xs : Nat)) ∧ Below w.heap.size w w' :=
  callsIn_wide.1 (sum_in v xs w hr hw hl)
set_option maxRecDepth 100000 in
set_option maxHeartbeats 400000 in
theorem wakes33_any (w : World) : Calls Try.prog 11 #[] w fun e w' => e = .returned (.bool true) ∧ Below w.heap.size w w' := by
  have kc := fun (w : World) (C : Array Value) (n c : Nat) => Lib.run_convert_bytes_const (P := Try.prog) w 23 5 C n c Try.underlying23 Try.underlying5
  go_enter Try.func11, Try.ntmps11
  go_wp2_with fail
  clear kc
  refine (sum_any _ [49, 50, 51, 52, 53, 54, 55, 56, 57] _ (Rd.new w .u8 [49, 50, 51, 52, 53, 54, 55, 56, 57] 5 9 (9, 10)) (by intro x hx; simp at hx; rcases hx with rfl | rfl | rfl | rfl | rfl | rfl | rfl | rfl | rfl <;> rfl) (by simp)).mono ?_
  rintro e w' ⟨rfl, hB⟩
  rw [crcSum_nine]
  have HB := Lib.hid (((Below.refl _ w).alloc (Nat.le_refl _) _).trans (hB.mono (by simp)))
  clear hB
  go_wp2
  go_ret
  exact ⟨rfl, HB.out⟩
end Go.Proofs.Ytjhejpeklppmbaa
