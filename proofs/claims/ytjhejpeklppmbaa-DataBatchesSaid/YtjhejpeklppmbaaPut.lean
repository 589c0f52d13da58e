/-
  NUMBERS AS BYTES: data.Put, the reference's Four and Eight.
-/
import Derived.Test.YtjhejpeklppmbaaLeaf
import Derived.Laws.ShiftsVarLaws
set_option linter.unusedVariables false
set_option linter.unusedSimpArgs false
namespace Go.Proofs.Ytjhejpeklppmbaa
open Go.RowKit Go.Shelf
/-- a number's lowest k bytes, the highest first -/
def beB (n : Nat) : Nat → List Int
  | 0 => []
  | k + 1 => ((n / 256 ^ k % 256 : Nat) : Int) :: beB n k
theorem beB_length (n k : Nat) : (beB n k).length = k := by induction k <;> simp [beB, *]
theorem info_u8 : (Try.prog.info? 5).map (fun i => (i.zero, i.size, i.bytes)) = some (some (.int .u8 0), 1, 1) := by kernel_rfl
set_option maxHeartbeats 1000000 in
theorem put_any (v : Value) (bs : List Int) (n k : Nat) (B : Nat) (w : World) (hown : OwnI w B 5 .u8 v bs) (hB : B ≤ w.heap.size) (hn : n < 18446744073709551616) (hk : k ≤ 8) (hl : bs.length ≤ 100000000) :
    Calls Try.prog 58 #[v, .int .u64 n, .int .i64 k] w fun e w' => ∃ v', e = .returned v' ∧ OwnI w' B 5 .u8 v' (bs ++ beB n k) ∧ Below B w w' := by
  obtain ⟨i0, hi, hz0, hz1, hz2⟩ := info_parts info_u8
  have HN := Lib.hid hn
  have HO := Lib.hid hown
  clear hn hown
  go_enter Try.func58, Try.ntmps58
  go_wp2
  go_loopw [0, 7] (fun u i wr => ∃ (j : Nat) (pre : List Int), j ≤ k ∧ i = .int .i64 ((j : Int) - 1) ∧ OwnI wr B 5 .u8 u (bs ++ pre) ∧ Below B w wr ∧ pre ++ beB n j = beB n k) (fun _ i _ => (intOf i + 1).toNat)
  case atStart => exact ⟨k, [], Nat.le_refl _, rfl, by rw [List.append_nil]; exact HO.out, Below.refl _ _, rfl⟩
  case round =>
    obtain ⟨j, pre, hj, rfl, hown, hBl, hpre⟩ := hrel
    have HP := Lib.hid hpre
    have hpl : pre.length ≤ 8 := by have := congrArg List.length hpre; rw [List.length_append, beB_length, beB_length] at this; omega
    clear hpre
    by_cases h0 : j = 0
    · subst h0
      have hown' : Hid (OwnI wr B 5 .u8 u0 (bs ++ beB n k)) := Lib.hid (by have := HP.out; rw [beB, List.append_nil] at this; rw [← this]; exact hown)
      have HBl := Lib.hid hBl
      clear hown hBl
      go_wp2
      go_ret
      exact ⟨_, rfl, hown'.out, HBl.out⟩
    · obtain ⟨m, rfl⟩ : ∃ m, j = m + 1 := ⟨j - 1, by omega⟩
      clear h0
      have HBl := Lib.hid hBl
      have HOw := Lib.hid hown
      have hbl : (bs ++ pre).length ≤ 100000008 := by rw [List.length_append]; omega
      clear hBl hown
      go_wp2_with (at_builtin; refine wpList_append_own _ rfl _ _ 23 rfl B 5 i0 (.int .u8 0) 1 1 Try.underlying23 hi hz0 hz1 hz2 rfl (by decide) _ _ _ rfl (HOw.out.alloc _) ⟨wr.heap.size, 0, none⟩ 1 1 [.int .u8 ((n : Int) / 2 ^ (8 * m) % 256)] rfl rfl (cell_one_new _ _ _) (by simp [Value.oneCell']) (by unfold maxLen; omega) (by omega) (by have := HBl.out.size; simp; omega) ?_; intro v' w1 hown' hgrow _)
      have he : (n : Int) / 2 ^ (8 * m) % 256 = ((n / 256 ^ m % 256 : Nat) : Int) := by
        have h3 : ((2 ^ (8 * m) : Nat) : Int) = (2 : Int) ^ (8 * m) := Int.natCast_pow 2 _
        rw [← h3, Nat.pow_mul]
        rfl
      rw [he] at hown'
      go_roundw
      case rel =>
        refine ⟨m, pre ++ [((n / 256 ^ m % 256 : Nat) : Int)], by omega, by go_num, ?_, ?_, by rw [List.append_assoc]; exact HP.out⟩
        · rw [← List.append_assoc]; exact own_snoc hown'
        · exact below_append' HBl.out hB HOw.out hgrow
      case measure => simp [intOf]
/-- the reference's Four and Eight -/
theorem four_any (v : Value) (bs : List Int) (n : Nat) (B : Nat) (w : World) (hown : OwnI w B 5 .u8 v bs) (hB : B ≤ w.heap.size) (hn : n < 18446744073709551616) (hl : bs.length ≤ 100000000) :
    Calls Try.prog 59 #[v, .int .u64 n] w fun e w' => ∃ v', e = .returned v' ∧ OwnI w' B 5 .u8 v' (bs ++ beB n 4) ∧ Below B w w' := by
  obtain ⟨i0, hi, hz0, hz1, hz2⟩ := info_parts info_u8
  have HN := Lib.hid hn
  have HO := Lib.hid hown
  clear hn hown
  go_enter Try.func59, Try.ntmps59
  go_wp2_with (at_builtin; refine wpList_append_own _ rfl _ _ 23 rfl B 5 i0 (.int .u8 0) 1 1 Try.underlying23 hi hz0 hz1 hz2 rfl (by decide) _ _ _ rfl (HO.out.alloc _) ⟨w.heap.size, 0, none⟩ 4 4 [.int .u8 ((n : Int) / 16777216 % 256), .int .u8 ((n : Int) / 65536 % 256), .int .u8 ((n : Int) / 256 % 256), .int .u8 ((n : Int) % 256)] rfl rfl (cells_new _ _ _ _) (by simp [Value.oneCell']) (by unfold maxLen; omega) (by omega) (by simp; omega) ?_; intro v' w1 hown' hgrow _)
  have he : [Value.int .u8 ((n : Int) / 16777216 % 256), .int .u8 ((n : Int) / 65536 % 256), .int .u8 ((n : Int) / 256 % 256), .int .u8 ((n : Int) % 256)] = (beB n 4).map (Value.int .u8) := by
    simp [beB]
  rw [he] at hown'
  have HB1 := Lib.hid (below_append' (Below.refl B w) hB HO.out hgrow)
  have HO1 := Lib.hid (own_cat hown' (by rw [beB_length]))
  clear hown' hgrow he
  go_wp2
  go_ret
  exact ⟨_, rfl, HO1.out, HB1.out⟩
theorem beB_high (n : Nat) (h : n < 18446744073709551616) : beB (n / 4294967296) 4 ++ beB n 4 = beB n 8 := by
  have e : ∀ k, n / 4294967296 / 256 ^ k = n / 256 ^ (k + 4) := fun k => by rw [Nat.div_div_eq_div_mul, Nat.pow_add, Nat.mul_comm (256 ^ k)]
  simp only [beB, e]
  rfl
set_option maxHeartbeats 400000 in
theorem eight_any (v : Value) (bs : List Int) (n : Nat) (B : Nat) (w : World) (hown : OwnI w B 5 .u8 v bs) (hB : B ≤ w.heap.size) (hn : n < 18446744073709551616) (hl : bs.length ≤ 99999996) :
    Calls Try.prog 60 #[v, .int .u64 n] w fun e w' => ∃ v', e = .returned v' ∧ OwnI w' B 5 .u8 v' (bs ++ beB n 8) ∧ Below B w w' := by
  have HN := Lib.hid hn
  have HO := Lib.hid hown
  clear hn hown
  go_enter Try.func60, Try.ntmps60
  go_wp2_with fail
  have e32 : (n : Int) / 4294967296 = ((n / 4294967296 : Nat) : Int) := by omega
  rw [e32]
  clear e32
  refine (four_any v bs (n / 4294967296) B _ HO.out hB (by have := HN.out; omega) (by omega)).mono ?_
  rintro e w1 ⟨v1, rfl, hown1, hB1⟩
  have HO1 := Lib.hid hown1
  have HB1 := Lib.hid hB1
  clear hown1 hB1
  go_wp2_with fail
  refine (four_any v1 _ n B _ HO1.out (by have := HB1.out.size; omega) HN.out (by rw [List.length_append, beB_length]; omega)).mono ?_
  rintro e w2 ⟨v2, rfl, hown2, hB2⟩
  rw [List.append_assoc, beB_high n HN.out] at hown2
  have HO2 := Lib.hid hown2
  have HB2 := Lib.hid (HB1.out.trans hB2)
  clear hown2 hB2
  go_wp2
  go_ret
  exact ⟨_, rfl, HO2.out, HB2.out⟩
end Go.Proofs.Ytjhejpeklppmbaa
