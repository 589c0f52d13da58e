/-
  LEAF FUNCTIONS of the disk's laws: num, Within, there.
-/
import Derived.Test.YtejmbhckfdfoeaaDNewW
set_option linter.unusedVariables false
set_option linter.unusedSimpArgs false
namespace Go.Proofs.Ytejmbhckfdfoeaa
open Go.RowKit Go.Maps
theorem num32_any (n : Int) (w : World) : Calls Try.prog 10 #[.int .i64 n] w fun e w' => e = .returned (.int .i64 n) ∧ w = w' := by
  go_enter Try.func10, Try.ntmps10
  go_wp2
  go_ret
  exact ⟨rfl, rfl⟩
/-- is the name among these? -/
def thereB (fs : List FileD) (x : List UInt8) : Bool := fs.any fun f => f.nm == x
theorem thereB_yes {fs : List FileD} {x : List UInt8} {k : Nat} (h : k < fs.length) (he : (fnth fs k).nm = x) : thereB fs x = true := by
  rw [thereB, List.any_eq_true]
  refine ⟨fs[k], List.getElem_mem h, ?_⟩
  rw [fnth, List.getD_eq_getElem?_getD, List.getElem?_eq_getElem h] at he
  simpa using he
theorem thereB_no {fs : List FileD} {x : List UInt8} (h : ∀ k, k < fs.length → (fnth fs k).nm ≠ x) : thereB fs x = false := by
  rw [thereB, Bool.eq_false_iff]
  intro hc
  obtain ⟨f, hf, he⟩ := List.any_eq_true.1 hc
  obtain ⟨k, hk, rfl⟩ := List.mem_iff_getElem.1 hf
  have := h k hk
  rw [fnth, List.getD_eq_getElem?_getD, List.getElem?_eq_getElem hk] at this
  exact this (by simpa using he)
set_option maxHeartbeats 4000000 in
theorem there32_any (v : Value) (fs : List FileD) (x : List UInt8) (w : World) (hr : FilesRd w v fs) (hl : fs.length ≤ 140737488351232) :
    Calls Try.prog 18 #[v, .string ⟨x.toArray⟩] w fun e w' => e = .returned (.bool (thereB fs x)) ∧ w = w' := by
  obtain ⟨o, cap, rfl, hc⟩ := hr
  have HC := Lib.hid hc
  clear hc
  go_enter Try.func18, Try.ntmps18
  go_wp2_with fail
  go_loopg [5] fs.length (fun g i wr => ∃ k : Nat, g = fs.length - k ∧ k ≤ fs.length ∧ i = .int .i64 k ∧ (∀ j, j < k → (fnth fs j).nm ≠ x) ∧ wr = w)
  case atStart => exact ⟨0, rfl, Nat.zero_le _, rfl, fun j hj => by omega, rfl⟩
  case round =>
    obtain ⟨k, hg, hk, rfl, hno, rfl⟩ := hrel
    have HNO := Lib.hid hno
    clear hno
    by_cases hlt : k < fs.length
    · obtain ⟨⟨b, off, od, cd, rfl, c0, c1, _⟩, hnl, hdl⟩ := HC.out k hlt
      obtain ⟨nm, hnm⟩ : ∃ nm, nm = (fnth fs k).nm := ⟨_, rfl⟩
      rw [← hnm] at c0
      have HNM := Lib.hid hnm
      clear hnm hnl hdl c1
      simp only [encStr] at c0
      cases hb : (nm == x) with
      | true =>
        go_wp2_with fail
        go_ret
        exact ⟨ret_bool' (thereB_yes hlt (by rw [← HNM.out]; simpa using hb)).symm, rfl⟩
      | false =>
        go_wp2_with fail
        go_roundg (fs.length - (k + 1))
        case measure => omega
        case rel =>
          refine ⟨k + 1, rfl, hlt, rfl, fun j hj => ?_, rfl⟩
          rcases Nat.lt_or_ge j k with h | h
          · exact HNO.out j h
          · have : j = k := by omega
            subst this
            rw [← HNM.out]
            simpa using hb
    · have hke : k = fs.length := by omega
      subst hke
      go_wp2_with fail
      go_ret
      exact ⟨ret_bool' (thereB_no HNO.out).symm, rfl⟩
/-- a number below n, from any number -/
def withinI (a n : Int) : Int := Int.tmod (IntKind.u64.wrap a) n
theorem withinI_in (a n : Int) (hn : 0 < n) : 0 ≤ withinI a n ∧ withinI a n < n := by
  have h0 : 0 ≤ IntKind.u64.wrap a := by simp [IntKind.wrap, IntKind.signed, IntKind.bits]; omega
  exact ⟨Int.tmod_nonneg _ h0, Int.tmod_lt_of_pos _ hn⟩
theorem within_any (a n : Int) (hn : 0 < n ∧ n ≤ 4294967296) (w : World) : Calls Try.prog 19 #[.int .i64 a, .int .i64 n] w fun e w' => e = .returned (.int .i64 (withinI a n)) ∧ w = w' := by
  have e1 : IntKind.u64.wrap n = n := by simp [IntKind.wrap, IntKind.signed, IntKind.bits]; omega
  have hne : ¬ n = 0 := by omega
  have hin := withinI_in a n hn.1
  have e2 : wrap64 (withinI a n) = withinI a n := by unfold wrap64; omega
  have HE2 := Lib.hid e2
  clear e2 hin
  go_enter Try.func19, Try.ntmps19
  go_wp2
  go_ret
  exact ⟨congrArg (fun z => Ending.returned (Value.int .i64 z)) HE2.out, rfl⟩
end Go.Proofs.Ytejmbhckfdfoeaa
