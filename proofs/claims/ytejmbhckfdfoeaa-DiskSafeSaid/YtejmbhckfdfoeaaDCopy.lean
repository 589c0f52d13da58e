/-
  THE REFERENCE'S CopyBytes and EqBytes.
-/
import Derived.Test.YtejmbhckfdfoeaaDRow
set_option linter.unusedVariables false
set_option linter.unusedSimpArgs false
namespace Go.Proofs.Ytejmbhckfdfoeaa
open Go.RowKit
theorem below_append {w wr w1 : World} {B : Nat} {e : TypeId} {v : Value} {n : Nat} {xs : List Value} {o : Obj} (hB : Below B w wr) (hb : B ≤ w.heap.size) (h : wr.ownsRow B e 1 v n xs) (hg : (wr.alloc o).grownBy w1 v.ownBlock) : Below B w w1 :=
  (hB.alloc (Nat.le_trans hb hB.size) o).grown hg (by have := hB.size; simp; omega) fun k hk => (h.lt k hk).1
theorem info_uint8 : (Try.prog.info? 5).map (fun i => (i.zero, i.size, i.bytes)) = some (some (.int .u8 0), 1, 1) := by kernel_rfl
set_option maxHeartbeats 400000 in
theorem copyBytes_any (v : Value) (xs : List Int) (w : World) (hr : Rd w .u8 v xs) (hl : xs.length * 1 ≤ 140737488351232) :
    Calls Try.prog 14 #[v] w fun e w' =>
      ∃ v', e = .returned v' ∧ w'.ownsRow w.heap.size 5 1 v' xs.length (xs.map (.int .u8)) ∧ Below w.heap.size w w' := by
  obtain ⟨o, cap, rfl, hc⟩ := hr
  obtain ⟨i0, hi, hz0, hz1, hz2⟩ := info_parts info_uint8
  have HC := Lib.hid hc
  clear hc
  go_enter Try.func14, Try.ntmps14
  go_wp2
  go_loopw [3, 4] (fun v i wr => ∃ k : Nat, k ≤ xs.length ∧ i = .int .i64 k ∧ wr.ownsRow w.heap.size 5 1 v k ((xs.take k).map (.int .u8)) ∧ Below w.heap.size w wr) (fun _ i _ => xs.length - (intOf i).toNat)
  case atStart => exact ⟨0, Nat.zero_le _, rfl, World.ownsRow_nil _ _ _ _, Below.refl _ _⟩
  case round =>
    obtain ⟨k, hk, rfl, hown, hB⟩ := hrel
    by_cases hlt : k < xs.length
    · obtain ⟨b, off, rfl, hcell⟩ := HC.out k hlt
      have hcell' := (hB.cell (p := ⟨b, off + k, none⟩) (cell_lt hcell)).trans hcell
      clear hcell
      go_wp2_with (at_builtin; refine wpList_append_own _ rfl _ _ 34 rfl w.heap.size 5 i0 (.int .u8 0) 1 1 Try.underlying34 hi hz0 hz1 hz2 rfl (by decide) _ _ _ rfl (hown.alloc _) ⟨wr.heap.size, 0, none⟩ 1 1 [.int .u8 (nth xs k)] rfl rfl (cell_one_new _ _ _) (by simp [Value.oneCell']) (by unfold maxLen; omega) (by omega) (by have := hB.size; simp; omega) ?_; intro v' w1 hown' hgrow _)
      go_roundw
      case rel => exact ⟨k + 1, by omega, by go_num, by rw [take_succ_nth xs k hlt, List.map_append]; exact hown', below_append hB (Nat.le_refl _) hown hgrow⟩
      case measure => simp [intOf]; omega
    · go_wp2
      go_ret
      obtain rfl : k = xs.length := by omega
      rw [List.take_length] at hown
      exact ⟨_, rfl, hown, hB⟩
set_option maxHeartbeats 400000 in
theorem eqBytes_any (v u : Value) (xs ys : List Int) (w : World) (hr : Rd w .u8 v xs) (hs : Rd w .u8 u ys) (hl : xs.length ≤ 140737488351232) :
    Calls Try.prog 16 #[v, u] w fun e w' => e = .returned (.bool (decide (xs = ys))) ∧ Same w w' := by
  obtain ⟨o, cap, rfl, hc⟩ := hr
  obtain ⟨o2, cap2, rfl, hc2⟩ := hs
  have HC := Lib.hid hc
  have HC2 := Lib.hid hc2
  clear hc hc2
  by_cases hlen : xs.length = ys.length
  · have HL := Lib.hid hlen
    clear hlen
    rw [← HL.out]
    go_enter Try.func16, Try.ntmps16
    go_wp2
    go_loopw [5] (fun i wr => ∃ k : Nat, k ≤ xs.length ∧ i = .int .i64 k ∧ (∀ j, j < k → nth xs j = nth ys j) ∧ Same w wr) (fun i _ => xs.length - (intOf i).toNat)
    case atStart => exact ⟨0, Nat.zero_le _, rfl, fun _ h => absurd h (Nat.not_lt_zero _), Same.refl _⟩
    case round =>
      obtain ⟨k, hk, rfl, hpre, nq, rfl⟩ := hrel
      have HP := Lib.hid hpre
      clear hpre
      by_cases hlt : k < xs.length
      · obtain ⟨b, off, rfl, h1⟩ := HC.out k hlt
        obtain ⟨b2, off2, rfl, h2⟩ := HC2.out k (by rw [← HL.out]; exact hlt)
        go_wp2
        go_quiet (fail)
        go_wp2
        · go_ret
          rename_i hne
          exact ⟨by rw [decide_eq_false]; rfl; intro e; rw [e] at hne; simp at hne, by first | exact ⟨_, rfl⟩ | exact ⟨_, World.drewN_drewN _ _ _⟩⟩
        · rename_i he
          have HE := Lib.hid he
          clear he
          go_roundw
          case rel => exact ⟨k + 1, by omega, by go_num, fun j hj => by rcases Nat.lt_succ_iff_lt_or_eq.1 hj with h | h; exact HP.out j h; rw [h]; simpa using HE.out, by first | exact ⟨_, rfl⟩ | exact ⟨_, World.drewN_drewN _ _ _⟩⟩
          case measure => simp [intOf]; omega
      · obtain rfl : k = xs.length := by omega
        have HE : Hid (xs = ys) := Lib.hid (ext_nth HL.out HP.out)
        go_wp2
        go_ret
        exact ⟨by rw [decide_eq_true HE.out]; rfl, _, rfl⟩
  · go_enter Try.func16, Try.ntmps16
    have hb : (((xs.length : Nat) : Int) != ((ys.length : Nat) : Int)) = true := by simp [bne_iff_ne]; omega
    have hne : xs ≠ ys := fun e => hlen (congrArg List.length e)
    have HE := Lib.hid (decide_eq_false hne)
    clear hlen hne
    go_wp2
    go_ret
    exact ⟨by rw [HE.out]; rfl, Same.refl _⟩
end Go.Proofs.Ytejmbhckfdfoeaa
