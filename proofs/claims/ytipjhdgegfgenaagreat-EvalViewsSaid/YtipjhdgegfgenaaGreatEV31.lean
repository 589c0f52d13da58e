/-
  SHAPES, only that they are told: ratchetref6.Count of any list, dim, Spread; ratchetref8.Axes, Left.
-/
import Derived.Test.YtipjhdgegfgenaaGreatEV30
import Derived.Test.YtipjhdgegfgenaaGreatEV05
import Derived.Test.YtipjhdgegfgenaaGreatEV06
set_option linter.unusedVariables false
set_option linter.unusedSimpArgs false
namespace Go.Proofs.YtipjhdgegfgenaaGreat
open Go.RowKit Go.Shelf Go
def SomeInt (e : Ending) : Prop := ∃ m : Int, e = .returned (.int .i64 m)
set_option maxHeartbeats 1000000 in
theorem ref6Count_some (v : Value) (xs : List Int) (w : World) (hr : Rd w .i64 v xs) (hl : xs.length ≤ 140737488351232) :
    Calls Tryz.prog 6 #[v] w fun e w' => SomeInt e ∧ Same w w' := by
  obtain ⟨o, cap, rfl, hc⟩ := hr
  have HC := Lib.hid hc
  clear hc
  go_enter Tryz.func6, Tryz.ntmps6
  go_wp2
  go_loop [3, 4] (fun p i => ∃ (k : Nat) (m : Int), k ≤ xs.length ∧ i = .int .i64 k ∧ p = .int .i64 m) (fun _ i => xs.length - (intOf i).toNat)
  case atStart => exact ⟨0, 1, Nat.zero_le _, rfl, rfl⟩
  case round =>
    obtain ⟨k, m, hk, rfl, rfl⟩ := hrel
    by_cases hlt : k < xs.length
    · obtain ⟨b, off, rfl, h1⟩ := HC.out k hlt
      generalize nth xs k = x at h1
      obtain ⟨y, hy⟩ : ∃ y, y = IntKind.i64.wrap (m * x) := ⟨_, rfl⟩
      have hy2 := hy.symm
      clear hy
      by_cases hbig : 65536 < x
      · go_wp2
        go_ret
        exact ⟨⟨_, rfl⟩, Same.refl _⟩
      by_cases hbig2 : 65536 < y
      · go_wp2
        go_ret
        exact ⟨⟨_, rfl⟩, Same.refl _⟩
      · go_wp2
        go_round
        case rel => exact ⟨k + 1, y, by omega, by go_num, rfl⟩
        case measure => simp [intOf]; omega
    · obtain rfl : k = xs.length := by omega
      go_wp2
      go_ret
      exact ⟨⟨_, rfl⟩, Same.refl _⟩
set_option maxHeartbeats 2000000 in
theorem ref8Axes_any (v : Value) (xs : List Int) (rank : Int) (w : World) (hr : Rd w .i64 v xs) (hl : xs.length ≤ 140737488351232) :
    Calls Tryz.prog 47 #[v, .int .i64 rank] w fun e w' => HeavyOut True e ∧ Same w w' := by
  obtain ⟨o, cap, rfl, hc⟩ := hr
  have HC := Lib.hid hc
  clear hc
  go_enter Tryz.func47, Tryz.ntmps47
  go_wp2
  go_loopw [5] (fun i wr => ∃ k : Nat, k ≤ xs.length ∧ i = .int .i64 k ∧ Hid (Same w wr)) (fun i _ => xs.length - (intOf i).toNat)
  case atStart => exact ⟨0, Nat.zero_le _, rfl, Lib.hid (Same.refl _)⟩
  case round =>
    obtain ⟨k, hk, rfl, HS⟩ := hrel
    obtain ⟨w5, rfl⟩ : ∃ w5, w5 = wr := ⟨_, rfl⟩
    obtain ⟨nn, hnn⟩ := HS.out
    by_cases hlt : k < xs.length
    · obtain ⟨b, off, rfl, h1⟩ := HC.out k hlt
      have h2 : w5.cell? ⟨b, off + k, none⟩ = some (.int .i64 (nth xs k)) := by rw [hnn]; simpa using h1
      clear h1
      have hprev : 0 < k → w5.cell? ⟨b, off + (k - 1), none⟩ = some (.int .i64 (nth xs (k - 1))) := fun h0 => by
        obtain ⟨b', off', he, h3⟩ := HC.out (k - 1) (by omega)
        cases he
        rw [hnn]; simpa using h3
      clear hnn
      generalize nth xs k = x at h2
      by_cases a1 : x < 0
      · have a1 := decide_eq_true a1
        go_wp2_with fail
        go_quiet (fail)
        go_wp2
        go_ret
        exact ⟨⟨_, rfl, fun _ => trivial⟩, HS.out.trans ⟨_, rfl⟩⟩
      have a1 := decide_eq_false a1
      by_cases a2 : rank ≤ x
      · have a2 := decide_eq_true a2
        go_wp2_with fail
        go_quiet (fail)
        go_wp2
        go_ret
        exact ⟨⟨_, rfl, fun _ => trivial⟩, HS.out.trans ⟨_, rfl⟩⟩
      have a2 := decide_eq_false a2
      by_cases a3 : 0 < k
      · have h3 := hprev a3
        have a3' : decide ((0 : Int) < (k : Int)) = true := decide_eq_true (by omega)
        generalize nth xs (k - 1) = y at h3
        clear hprev
        have hk1 : ((k : Int) - 1).toNat = k - 1 := by omega
        have hw1 : IntKind.i64.wrap ((k : Int) - 1) = (k : Int) - 1 := IntWalk.i64_in _ (by omega)
        have hk2 : (0 : Int) ≤ (k : Int) - 1 := by omega
        have hk3 : (k : Int) - 1 < (xs.length : Int) := by omega
        by_cases a4 : x ≤ y
        · have a4 := decide_eq_true a4
          go_wp2_with fail
          go_quiet (fail)
          go_wp2
          go_ret
          exact ⟨⟨_, rfl, fun _ => trivial⟩, HS.out.trans ⟨_, rfl⟩⟩
        · have a4 := decide_eq_false a4
          go_wp2_with fail
          go_quiet (fail)
          go_wp2
          go_roundw
          case rel => exact ⟨k + 1, by omega, by go_num, Lib.hid (HS.out.trans ⟨_, rfl⟩)⟩
          case measure => simp [intOf]; omega
      · clear hprev
        have a3' : decide ((0 : Int) < (k : Int)) = false := decide_eq_false (by omega)
        go_wp2_with fail
        go_quiet (fail)
        go_wp2
        go_roundw
        case rel => exact ⟨k + 1, by omega, by go_num, Lib.hid (HS.out.trans ⟨_, rfl⟩)⟩
        case measure => simp [intOf]; omega
    · clear hnn
      obtain rfl : k = xs.length := by omega
      go_wp2
      go_ret
      exact ⟨⟨_, rfl, fun _ => trivial⟩, HS.out⟩
set_option maxHeartbeats 1000000 in
theorem ref6Dim_any (v : Value) (xs : List Int) (k : Nat) (w : World) (hr : Rd w .i64 v xs) (hl : xs.length ≤ 1000000) (hk : k ≤ 1000000) :
    Calls Tryz.prog 86 #[v, .int .i64 k] w fun e w' => SomeInt e ∧ Same w w' := by
  obtain ⟨o, cap, rfl, hc⟩ := hr
  by_cases hlt : k < xs.length
  · obtain ⟨b, off, rfl, h1⟩ := hc (xs.length - 1 - k) (by omega)
    clear hc
    generalize nth xs (xs.length - 1 - k) = x at h1
    have hk1 : ((xs.length : Int) - 1 - k).toNat = xs.length - 1 - k := by omega
    have hw1 : IntKind.i64.wrap ((xs.length : Int) - 1 - k) = (xs.length : Int) - 1 - k := IntWalk.i64_in _ (by omega)
    have hk2 : (0 : Int) ≤ (xs.length : Int) - 1 - k := by omega
    have hk3 : (xs.length : Int) - 1 - k < (xs.length : Int) := by omega
    go_enter Tryz.func86, Tryz.ntmps86
    go_wp2
    go_ret
    exact ⟨⟨_, rfl⟩, Same.refl _⟩
  · clear hc
    go_enter Tryz.func86, Tryz.ntmps86
    go_wp2
    go_ret
    exact ⟨⟨_, rfl⟩, Same.refl _⟩
/-- a row of one's own, of some numbers, no more than n -/
def RowSome (w0 : World) (n : Nat) (e : Ending) (w' : World) : Prop :=
  Below w0.heap.size w0 w' ∧ ∃ v ys, e = .returned v ∧ OwnI w' w0.heap.size 3 .i64 v ys ∧ ys.length ≤ n
/-- a shape, or an error's number with none -/
def ShOut (w0 : World) (n : Nat) (e : Ending) (w' : World) : Prop :=
  Below w0.heap.size w0 w' ∧ ∃ v ys k, e = .returned (.tuple #[v, .int .i64 k]) ∧ OwnI w' w0.heap.size 3 .i64 v ys ∧ ys.length ≤ n
set_option maxRecDepth 100000 in
set_option maxHeartbeats 2000000 in
theorem ref8Left_any (v u : Value) (xs axes : List Int) (w : World) (hr : Rd w .i64 v xs) (ha : Rd w .i64 u axes) (hl : xs.length ≤ 1000000) (hla : axes.length ≤ 140737488351232) :
    Calls Tryz.prog 48 #[v, u] w (RowSome w xs.length) := by
  obtain ⟨i0, hi, hz0, hz1, hz2⟩ := info_parts info_int
  have HA := Lib.hid ha
  obtain ⟨oa, ca, rfl⟩ := rd_slice ha
  have HR := Lib.hid hr
  obtain ⟨o, cap, rfl⟩ := rd_slice hr
  clear ha hr
  go_enter Tryz.func48, Tryz.ntmps48
  go_wp2
  go_loopw [5, 6] (fun v i wr => ∃ (k m : Nat) (ys : List Int) (o7 : Option Addr) (c7 : Nat), k ≤ xs.length ∧ i = .int .i64 k ∧ v = .slice o7 m c7 ∧ ys.length = m ∧ m ≤ k ∧ Hid (OwnI wr w.heap.size 3 .i64 (.slice o7 m c7) ys ∧ Below w.heap.size w wr)) (fun _ i _ => xs.length - (intOf i).toNat)
  case atStart => exact ⟨0, 0, [], none, 0, Nat.zero_le _, rfl, rfl, rfl, Nat.le_refl _, Lib.hid ⟨World.ownsRow_nil _ _ _ _, Below.refl _ _⟩⟩
  case round =>
    obtain ⟨k, m, ys, o7, c7, hk, rfl, rfl, hyl, hmk, HO⟩ := hrel
    obtain ⟨w1, rfl⟩ : ∃ w1, w1 = wr := ⟨_, rfl⟩
    by_cases hlt : k < xs.length
    · obtain ⟨b, off, rfl, h1⟩ := HR.out.cell k hlt
      have e1 := (HO.out.2.cell (p := ⟨b, off + k, none⟩) (cell_lt h1)).trans h1
      clear h1
      generalize nth xs k = x at e1
      have HIN := Lib.hid (ref0In_any _ axes (k : Int) w1 (HA.out.below HO.out.2 (Nat.le_refl _)) hla)
      obtain ⟨r, hr⟩ : ∃ r, r = decide ((k : Int) ∈ axes) := ⟨_, rfl⟩
      rw [← hr] at HIN
      clear hr
      go_wp2_with (go_at_call 87; refine HIN.out.mono ?_; rintro e w2 ⟨rfl, hsm⟩; refine stopHere ?_)
      have e2 : w2.cell? ⟨b, off + k, none⟩ = some (.int .i64 x) := by obtain ⟨nq, rfl⟩ := hsm; simpa using e1
      have HO2 := Lib.hid (show w2.ownsRow w.heap.size 3 1 (.slice o7 m c7) m (ys.map (.int .i64)) ∧ Below w.heap.size w w2 from ⟨by have := own_same HO.out.1 hsm; unfold OwnI at this; rw [hyl] at this; exact this, HO.out.2.trans (hsm.below _)⟩)
      clear e1 HO HIN hsm
      refine goOn ?_
      cases r with
      | true =>
        go_wp2
        go_roundw
        case rel => exact ⟨k + 1, m, ys, o7, c7, by omega, by go_num, rfl, hyl, by omega, Lib.hid ⟨by rw [OwnI, hyl]; exact HO2.out.1, HO2.out.2⟩⟩
        case measure => simp [intOf]; omega
      | false =>
        go_wp2_with (at_builtin; refine wpList_append_own _ rfl _ _ 23 rfl w.heap.size 3 i0 (.int .i64 0) 1 8 Tryz.underlying23 hi hz0 hz1 hz2 rfl (by decide) _ _ _ rfl (HO2.out.1.alloc _) ⟨w2.heap.size, 0, none⟩ 1 1 [.int .i64 x] rfl rfl (cell_one_new _ _ _) (by simp [Value.oneCell']) (by unfold maxLen; omega) (by omega) (by have := HO2.out.2.size; simp; omega) ?_; intro v' w6 hown' hgrow _; refine stopHere ?_)
        have HV := Lib.hid (And.intro hown' (below_append HO2.out.2 (Nat.le_refl _) HO2.out.1 hgrow))
        clear hown' hgrow
        obtain ⟨o9, c9, rfl⟩ := own_slice HV.out.1
        refine goOn ?_
        go_wp2_with fail
        go_roundw
        case rel => exact ⟨k + 1, m + 1, ys ++ [x], o9, c9, by omega, by go_num, rfl, by simp [hyl], by omega, Lib.hid ⟨by rw [OwnI, List.length_append, List.map_append, hyl]; exact HV.out.1, HV.out.2⟩⟩
        case measure => simp [intOf]; omega
    · obtain rfl : k = xs.length := by omega
      have HF := Lib.hid (And.intro HO.out (And.intro hyl hmk))
      clear HO hyl hmk
      go_wp2_with fail
      go_ret
      exact ⟨HF.out.1.2, _, ys, rfl, HF.out.1.1, by rw [HF.out.2.1]; exact HF.out.2.2⟩
end Go.Proofs.YtipjhdgegfgenaaGreat
