/-
  NAMES of files: which strings are such.
-/
import Derived.Test.YtejmbhckfdfoeaaKit
set_option linter.unusedVariables false
set_option linter.unusedSimpArgs false
namespace Go.Proofs.Ytejmbhckfdfoeaa
open Go.RowKit
def goodC (c : UInt8) : Bool := decide ((97 ≤ (c.toNat : Int) ∧ (c.toNat : Int) ≤ 122) ∨ (48 ≤ (c.toNat : Int) ∧ (c.toNat : Int) ≤ 57) ∨ (c.toNat : Int) = 46 ∨ (c.toNat : Int) = 95)
theorem goodC_yes {c : UInt8} (h : (97 ≤ (c.toNat : Int) ∧ (c.toNat : Int) ≤ 122) ∨ (48 ≤ (c.toNat : Int) ∧ (c.toNat : Int) ≤ 57) ∨ (c.toNat : Int) = 46 ∨ (c.toNat : Int) = 95) : goodC c = true := decide_eq_true h
theorem goodC_no {c : UInt8} (h : ¬ ((97 ≤ (c.toNat : Int) ∧ (c.toNat : Int) ≤ 122) ∨ (48 ≤ (c.toNat : Int) ∧ (c.toNat : Int) ≤ 57) ∨ (c.toNat : Int) = 46 ∨ (c.toNat : Int) = 95)) : goodC c = false := decide_eq_false h
/-- a file's name -/
def goodNm (l : List UInt8) : Bool := l.all goodC && (decide (1 ≤ l.length) && decide (l.length ≤ 32))
theorem take_snocB (s : ByteArray) (k : Nat) (h : k < s.size) : s.data.toList.take (k + 1) = s.data.toList.take k ++ [s[k]] := by
  rw [List.take_succ_eq_append_getElem (by simpa using h)]; rfl
theorem all_not {s : ByteArray} {k : Nat} (h : k < s.size) (hc : goodC s[k] = false) : s.data.toList.all goodC = false := by
  rw [List.all_eq_false]
  exact ⟨s[k], by rw [show s[k] = s.data.toList[k]'(by simpa using h) from rfl]; exact List.getElem_mem _, by rw [hc]; decide⟩
theorem ret_bool' {a b : Bool} (h : a = b) : Ending.returned (.bool a) = .returned (.bool b) := by rw [h]
set_option maxHeartbeats 1000000 in
theorem diskGood_any (s : ByteArray) (w : World) (hs : s.size ≤ maxLen) :
    Calls Try.prog 31 #[.string s] w fun e w' => e = .returned (.bool (goodNm s.data.toList)) ∧ w = w' := by
  unfold maxLen at hs
  go_enter Try.func31, Try.ntmps31
  go_wp2
  go_loop [7] (fun i => ∃ k : Nat, k ≤ s.size ∧ i = .int .i64 k ∧ (s.data.toList.take k).all goodC = true) (fun i => s.size - (intOf i).toNat)
  case atStart => exact ⟨0, Nat.zero_le _, rfl, rfl⟩
  case round =>
    obtain ⟨k, hk, rfl, hal⟩ := hrel
    by_cases hlt : k < s.size
    · have HAL := Lib.hid hal
      have HTS := Lib.hid (take_snocB s k hlt)
      have HNO := Lib.hid (fun h => all_not (s := s) hlt h)
      clear hal
      go_wp2
      all_goals first
        | (go_ret; refine ⟨ret_bool' ?_, rfl⟩; rw [goodNm, HNO.out (goodC_no (by (try simp only [bne_iff_ne, ne_eq, bne_eq_false_iff_eq] at *); omega)), Bool.false_and])
        | (go_round
           case rel => exact ⟨k + 1, by omega, by go_num, by rw [HTS.out, List.all_append, HAL.out, Bool.true_and, List.all_cons, List.all_nil, Bool.and_true]; exact goodC_yes (by (try simp only [bne_iff_ne, ne_eq, bne_eq_false_iff_eq] at *); omega)⟩
           case measure => simp [intOf]; omega)
    · obtain rfl : k = s.size := by omega
      have hal' : s.data.toList.all goodC = true := by rwa [List.take_of_length_le (by simp)] at hal
      have HAL := Lib.hid hal'
      clear hal hal'
      by_cases h1 : 1 ≤ s.size
      · by_cases h2 : s.size ≤ 32
        · go_wp2
          go_ret
          refine ⟨ret_bool' ?_, rfl⟩
          rw [goodNm, HAL.out, Bool.true_and, show s.data.toList.length = s.size from by simp, decide_eq_true h1, Bool.true_and]; first | exact (decide_eq_true h2).symm | exact (decide_eq_false h2).symm | exact decide_eq_decide.2 (by omega)
        · go_wp2
          go_ret
          refine ⟨ret_bool' ?_, rfl⟩
          rw [goodNm, HAL.out, Bool.true_and, show s.data.toList.length = s.size from by simp, decide_eq_true h1, Bool.true_and]; first | exact (decide_eq_true h2).symm | exact (decide_eq_false h2).symm | exact decide_eq_decide.2 (by omega)
      · go_wp2
        go_ret
        refine ⟨ret_bool' ?_, rfl⟩
        rw [goodNm, HAL.out]; simp [h1]; done
end Go.Proofs.Ytejmbhckfdfoeaa
