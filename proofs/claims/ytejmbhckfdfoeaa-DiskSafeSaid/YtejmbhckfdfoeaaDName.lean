/-
  THE REFERENCE'S Name: the same answer as disk.good.
-/
import Derived.Test.YtejmbhckfdfoeaaDStr
set_option linter.unusedVariables false
set_option linter.unusedSimpArgs false
namespace Go.Proofs.Ytejmbhckfdfoeaa
open Go.RowKit
set_option maxHeartbeats 1000000 in
theorem refName_any (s : ByteArray) (w : World) (hs : s.size ≤ maxLen) :
    Calls Try.prog 11 #[.string s] w fun e w' => e = .returned (.bool (goodNm s.data.toList)) ∧ w = w' := by
  unfold maxLen at hs
  by_cases h1 : s.size < 1
  · have e1 : decide ((s.size : Int) < 1) = true := decide_eq_true (by omega)
    go_enter Try.func11, Try.ntmps11
    go_wp2
    go_ret
    exact ⟨ret_bool' (by rw [goodNm, show s.data.toList.length = s.size from by simp, decide_eq_false (by omega : ¬ 1 ≤ s.size), Bool.false_and, Bool.and_false]), rfl⟩
  · have e1 : decide ((s.size : Int) < 1) = false := decide_eq_false (by omega)
    by_cases h2 : 32 < s.size
    · have e2 : decide ((32 : Int) < s.size) = true := decide_eq_true (by omega)
      go_enter Try.func11, Try.ntmps11
      go_wp2
      go_ret
      exact ⟨ret_bool' (by rw [goodNm, show s.data.toList.length = s.size from by simp, decide_eq_false (by omega : ¬ s.size ≤ 32), Bool.and_false, Bool.and_false]), rfl⟩
    · have e2 : decide ((32 : Int) < s.size) = false := decide_eq_false (by omega)
      go_enter Try.func11, Try.ntmps11
      go_wp2
      go_loop [3] (fun i => ∃ k : Nat, k ≤ s.size ∧ i = .int .i64 k ∧ (s.data.toList.take k).all goodC = true) (fun i => s.size - (intOf i).toNat)
      case atStart => exact ⟨0, Nat.zero_le _, rfl, rfl⟩
      case round =>
        obtain ⟨k, hk, rfl, hal⟩ := hrel
        by_cases hlt : k < s.size
        · have HAL := Lib.hid hal
          have HTS := Lib.hid (take_snocB s k hlt)
          have HNO := Lib.hid (fun h => all_not (s := s) hlt h)
          clear hal
          go_wp2
          all_goals first
            | (go_ret; refine ⟨ret_bool' ?_, rfl⟩; rw [goodNm, HNO.out (goodC_no (by (try simp only [bne_iff_ne, ne_eq, bne_eq_false_iff_eq] at *); omega)), Bool.false_and])
            | (go_round
               case rel => exact ⟨k + 1, by omega, by go_num, by rw [HTS.out, List.all_append, HAL.out, Bool.true_and, List.all_cons, List.all_nil, Bool.and_true]; exact goodC_yes (by (try simp only [bne_iff_ne, ne_eq, bne_eq_false_iff_eq] at *); omega)⟩
               case measure => simp [intOf]; omega)
        · obtain rfl : k = s.size := by omega
          have hal' : s.data.toList.all goodC = true := by rwa [List.take_of_length_le (by simp)] at hal
          have HAL := Lib.hid hal'
          clear hal hal'
          go_wp2
          go_ret
          exact ⟨ret_bool' (by rw [goodNm, HAL.out, Bool.true_and, show s.data.toList.length = s.size from by simp, decide_eq_true (by omega : 1 ≤ s.size), decide_eq_true (by omega : s.size ≤ 32)]; rfl), rfl⟩
end Go.Proofs.Ytejmbhckfdfoeaa
