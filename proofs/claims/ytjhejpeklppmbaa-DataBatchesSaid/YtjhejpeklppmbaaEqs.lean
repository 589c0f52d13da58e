/-
  THE REFERENCE'S COMPARISONS: true where the numbers are the same, one by one.
-/
import Derived.Test.YtjhejpeklppmbaaCopies
set_option linter.unusedVariables false
set_option linter.unusedSimpArgs false
namespace Go.Proofs.Ytjhejpeklppmbaa
open Go.RowKit
set_option maxHeartbeats 400000 in
theorem eqBytes_any (v u : Value) (xs ys : List Int) (w : World) (hr : Rd w .u8 v xs) (hs : Rd w .u8 u ys) (hl : xs.length ≤ 140737488351232) :
    Calls Try.prog 31 #[v, u] w fun e w' => e = .returned (.bool (decide (xs = ys))) ∧ Same w w' := by
  obtain ⟨o, cap, rfl, hc⟩ := hr
  obtain ⟨o2, cap2, rfl, hc2⟩ := hs
  have HC := Lib.hid hc
  have HC2 := Lib.hid hc2
  clear hc hc2
  by_cases hlen : xs.length = ys.length
  · have HL := Lib.hid hlen
    clear hlen
    rw [← HL.out]
    go_enter Try.func31, Try.ntmps31
    go_wp2
    go_loopw [5] (fun i wr => ∃ k : Nat, k ≤ xs.length ∧ i = .int .i64 k ∧ (∀ j, j < k → nth xs j = nth ys j) ∧ Same w wr) (fun i _ => xs.length - (intOf i).toNat)
    case atStart => exact ⟨0, Nat.zero_le _, rfl, fun _ h => absurd h (Nat.not_lt_zero _), Same.refl _⟩
    case round =>
      obtain ⟨k, hk, rfl, hpre, nq, rfl⟩ := hrel
      have HP := Lib.hid hpre
      clear hpre
      by_cases hlt : k < xs.length
      · obtain ⟨b, off, rfl, h1⟩ := HC.out k hlt
        obtain ⟨b2, off2, rfl, h2⟩ := HC2.out k (by rw [← HL.out]; exact hlt)
        go_wp2
        go_quiet (fail)
        go_wp2
        · go_ret
          rename_i hne
          exact ⟨by rw [decide_eq_false]; rfl; intro e; rw [e] at hne; simp at hne, by first | exact ⟨_, rfl⟩ | exact ⟨_, World.drewN_drewN _ _ _⟩⟩
        · rename_i he
          have HE := Lib.hid he
          clear he
          go_roundw
          case rel => exact ⟨k + 1, by omega, by go_num, fun j hj => by rcases Nat.lt_succ_iff_lt_or_eq.1 hj with h | h; exact HP.out j h; rw [h]; simpa using HE.out, by first | exact ⟨_, rfl⟩ | exact ⟨_, World.drewN_drewN _ _ _⟩⟩
          case measure => simp [intOf]; omega
      · obtain rfl : k = xs.length := by omega
        have HE : Hid (xs = ys) := Lib.hid (ext_nth HL.out HP.out)
        go_wp2
        go_ret
        exact ⟨by rw [decide_eq_true HE.out]; rfl, _, rfl⟩
  · go_enter Try.func31, Try.ntmps31
    have hb : (((xs.length : Nat) : Int) != ((ys.length : Nat) : Int)) = true := by simp [bne_iff_ne]; omega
    have hne : xs ≠ ys := fun e => hlen (congrArg List.length e)
    have HE := Lib.hid (decide_eq_false hne)
    clear hlen hne
    go_wp2
    go_ret
    exact ⟨by rw [HE.out]; rfl, Same.refl _⟩
set_option maxHeartbeats 400000 in
theorem eqWords_any (v u : Value) (xs ys : List Int) (w : World) (hr : Rd w .i64 v xs) (hs : Rd w .i64 u ys) (hl : xs.length ≤ 140737488351232) :
    Calls Try.prog 17 #[v, u] w fun e w' => e = .returned (.bool (decide (xs = ys))) ∧ Same w w' := by
  obtain ⟨o, cap, rfl, hc⟩ := hr
  obtain ⟨o2, cap2, rfl, hc2⟩ := hs
  have HC := Lib.hid hc
  have HC2 := Lib.hid hc2
  clear hc hc2
  by_cases hlen : xs.length = ys.length
  · have HL := Lib.hid hlen
    clear hlen
    rw [← HL.out]
    go_enter Try.func17, Try.ntmps17
    go_wp2
    go_loopw [5] (fun i wr => ∃ k : Nat, k ≤ xs.length ∧ i = .int .i64 k ∧ (∀ j, j < k → nth xs j = nth ys j) ∧ Same w wr) (fun i _ => xs.length - (intOf i).toNat)
    case atStart => exact ⟨0, Nat.zero_le _, rfl, fun _ h => absurd h (Nat.not_lt_zero _), Same.refl _⟩
    case round =>
      obtain ⟨k, hk, rfl, hpre, nq, rfl⟩ := hrel
      have HP := Lib.hid hpre
      clear hpre
      by_cases hlt : k < xs.length
      · obtain ⟨b, off, rfl, h1⟩ := HC.out k hlt
        obtain ⟨b2, off2, rfl, h2⟩ := HC2.out k (by rw [← HL.out]; exact hlt)
        go_wp2
        go_quiet (fail)
        go_wp2
        · go_ret
          rename_i hne
          exact ⟨by rw [decide_eq_false]; rfl; intro e; rw [e] at hne; simp at hne, by first | exact ⟨_, rfl⟩ | exact ⟨_, World.drewN_drewN _ _ _⟩⟩
        · rename_i he
          have HE := Lib.hid he
          clear he
          go_roundw
          case rel => exact ⟨k + 1, by omega, by go_num, fun j hj => by rcases Nat.lt_succ_iff_lt_or_eq.1 hj with h | h; exact HP.out j h; rw [h]; simpa using HE.out, by first | exact ⟨_, rfl⟩ | exact ⟨_, World.drewN_drewN _ _ _⟩⟩
          case measure => simp [intOf]; omega
      · obtain rfl : k = xs.length := by omega
        have HE : Hid (xs = ys) := Lib.hid (ext_nth HL.out HP.out)
        go_wp2
        go_ret
        exact ⟨by rw [decide_eq_true HE.out]; rfl, _, rfl⟩
  · go_enter Try.func17, Try.ntmps17
    have hb : (((xs.length : Nat) : Int) != ((ys.length : Nat) : Int)) = true := by simp [bne_iff_ne]; omega
    have hne : xs ≠ ys := fun e => hlen (congrArg List.length e)
    have HE := Lib.hid (decide_eq_false hne)
    clear hlen hne
    go_wp2
    go_ret
    exact ⟨by rw [HE.out]; rfl, Same.refl _⟩
set_option maxHeartbeats 400000 in
theorem eqNumbers_any (v u : Value) (xs ys : List Int) (w : World) (hr : Rd w .i64 v xs) (hs : Rd w .i64 u ys) (hl : xs.length ≤ 140737488351232) :
    Calls Try.prog 18 #[v, u] w fun e w' => e = .returned (.bool (decide (xs = ys))) ∧ Same w w' := by
  obtain ⟨o, cap, rfl, hc⟩ := hr
  obtain ⟨o2, cap2, rfl, hc2⟩ := hs
  have HC := Lib.hid hc
  have HC2 := Lib.hid hc2
  clear hc hc2
  by_cases hlen : xs.length = ys.length
  · have HL := Lib.hid hlen
    clear hlen
    rw [← HL.out]
    go_enter Try.func18, Try.ntmps18
    go_wp2
    go_loopw [5] (fun i wr => ∃ k : Nat, k ≤ xs.length ∧ i = .int .i64 k ∧ (∀ j, j < k → nth xs j = nth ys j) ∧ Same w wr) (fun i _ => xs.length - (intOf i).toNat)
    case atStart => exact ⟨0, Nat.zero_le _, rfl, fun _ h => absurd h (Nat.not_lt_zero _), Same.refl _⟩
    case round =>
      obtain ⟨k, hk, rfl, hpre, nq, rfl⟩ := hrel
      have HP := Lib.hid hpre
      clear hpre
      by_cases hlt : k < xs.length
      · obtain ⟨b, off, rfl, h1⟩ := HC.out k hlt
        obtain ⟨b2, off2, rfl, h2⟩ := HC2.out k (by rw [← HL.out]; exact hlt)
        go_wp2
        go_quiet (fail)
        go_wp2
        · go_ret
          rename_i hne
          exact ⟨by rw [decide_eq_false]; rfl; intro e; rw [e] at hne; simp at hne, by first | exact ⟨_, rfl⟩ | exact ⟨_, World.drewN_drewN _ _ _⟩⟩
        · rename_i he
          have HE := Lib.hid he
          clear he
          go_roundw
          case rel => exact ⟨k + 1, by omega, by go_num, fun j hj => by rcases Nat.lt_succ_iff_lt_or_eq.1 hj with h | h; exact HP.out j h; rw [h]; simpa using HE.out, by first | exact ⟨_, rfl⟩ | exact ⟨_, World.drewN_drewN _ _ _⟩⟩
          case measure => simp [intOf]; omega
      · obtain rfl : k = xs.length := by omega
        have HE : Hid (xs = ys) := Lib.hid (ext_nth HL.out HP.out)
        go_wp2
        go_ret
        exact ⟨by rw [decide_eq_true HE.out]; rfl, _, rfl⟩
  · go_enter Try.func18, Try.ntmps18
    have hb : (((xs.length : Nat) : Int) != ((ys.length : Nat) : Int)) = true := by simp [bne_iff_ne]; omega
    have hne : xs ≠ ys := fun e => hlen (congrArg List.length e)
    have HE := Lib.hid (decide_eq_false hne)
    clear hlen hne
    go_wp2
    go_ret
    exact ⟨by rw [HE.out]; rfl, Same.refl _⟩
end Go.Proofs.Ytjhejpeklppmbaa
