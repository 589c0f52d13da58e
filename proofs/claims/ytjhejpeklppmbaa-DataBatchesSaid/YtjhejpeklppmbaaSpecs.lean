/-
  PLAIN SPECIFICATIONS: words, shapes, datasets.
-/
import Derived.Test.YtjhejpeklppmbaaPlain
set_option linter.unusedVariables false
set_option linter.unusedSimpArgs false
namespace Go.Proofs.Ytjhejpeklppmbaa
def wordB (v : Int) : Bool := decide (-140737488355328 < v) && decide (v < 140737488355328)
def wordsB (l : List Int) : Bool := l.all wordB
def dimB (d : Int) : Bool := decide (1 ≤ d) && decide (d ≤ 4096)
def prodL (s : List Int) : Int := s.foldl (· * ·) 1
def shapeB (s : List Int) : Bool := decide (s.length ≤ 4) && s.all dimB && decide (prodL s ≤ 65536)
theorem prodL_snoc (l : List Int) (x : Int) : prodL (l ++ [x]) = prodL l * x := by simp [prodL]
theorem foldl_mul (l : List Int) (a : Int) : l.foldl (· * ·) a = a * prodL l := by
  induction l generalizing a with
  | nil => simp [prodL]
  | cons x l ih =>
    have h1 := ih (a * x)
    have h2 := ih (1 * x)
    rw [List.foldl_cons, h1]
    show a * x * prodL l = a * (x :: l).foldl (· * ·) 1
    rw [List.foldl_cons, h2, Int.one_mul, Int.mul_assoc]
theorem prodL_cons (x : Int) (l : List Int) : prodL (x :: l) = x * prodL l := by rw [prodL, List.foldl_cons, foldl_mul, Int.one_mul]
theorem all_take_succ (p : Int → Bool) (l : List Int) (k : Nat) (h : k < l.length) : (l.take (k + 1)).all p = ((l.take k).all p && p (nth l k)) := by
  rw [take_succ_nth l k h]; simp
theorem all_false_of (p : Int → Bool) (l : List Int) (k : Nat) (h : k < l.length) (hp : p (nth l k) = false) : l.all p = false := by
  rw [List.all_eq_false]; exact ⟨_, nth_mem l k h, by simp [hp]⟩
theorem dimB_iff (d : Int) : dimB d = true ↔ 1 ≤ d ∧ d ≤ 4096 := by simp [dimB]
theorem dimB_no (d : Int) : dimB d = false ↔ d < 1 ∨ 4096 < d := by
  rw [Bool.eq_false_iff, Ne, dimB_iff]; omega
/-- the product of dimensions: from 1 on, and no more than 4096 to their number -/
theorem prodL_bd (l : List Int) (h : l.all dimB = true) : 1 ≤ prodL l ∧ prodL l ≤ 4096 ^ l.length := by
  induction l with
  | nil => simp [prodL]
  | cons x l ih =>
    rw [List.all_cons, Bool.and_eq_true, dimB_iff] at h
    obtain ⟨⟨h1, h2⟩, h3⟩ := h
    obtain ⟨i1, i2⟩ := ih h3
    rw [prodL_cons, List.length_cons, Int.pow_succ]
    refine ⟨?_, ?_⟩
    · have := Int.mul_le_mul h1 i1 (by omega) (by omega)
      simpa using this
    · rw [Int.mul_comm (4096 ^ l.length)]
      exact Int.mul_le_mul h2 i2 (by omega) (by omega)
theorem any_take_succ (p : Int → Bool) (l : List Int) (k : Nat) (h : k < l.length) : (l.take (k + 1)).any p = ((l.take k).any p || p (nth l k)) := by
  rw [take_succ_nth l k h]; simp
theorem any_true_of (p : Int → Bool) (l : List Int) (k : Nat) (h : k < l.length) (hp : p (nth l k) = true) : l.any p = true := by
  rw [List.any_eq_true]; exact ⟨_, nth_mem l k h, hp⟩
theorem pow4096 (n : Nat) (h : n ≤ 4) : (4096 : Int) ^ n ≤ 281474976710656 := by
  match n, h with
  | 0, _ => decide
  | 1, _ => decide
  | 2, _ => decide
  | 3, _ => decide
  | 4, _ => decide
theorem prod_step' (xs : List Int) (k : Nat) (h : (xs.take (k + 1)).all dimB = true) (hl : xs.length ≤ 4) (hk : k < xs.length) :
    1 ≤ prodL (xs.take k) * nth xs k ∧ prodL (xs.take k) * nth xs k ≤ 281474976710656 := by
  have h1 := prodL_bd _ h
  rw [take_succ_nth xs k hk, prodL_snoc] at h1
  refine ⟨h1.1, Int.le_trans h1.2 (pow4096 _ ?_)⟩
  simp
  omega
theorem all_take (p : Int → Bool) (xs : List Int) (k : Nat) (h : xs.all p = true) : (xs.take k).all p = true := by
  rw [List.all_eq_true] at h ⊢
  exact fun x hx => h x (List.mem_of_mem_take hx)
theorem prod_step (xs : List Int) (k : Nat) (h : xs.all dimB = true) (hl : xs.length ≤ 4) (hk : k < xs.length) :
    1 ≤ prodL (xs.take k) * nth xs k ∧ prodL (xs.take k) * nth xs k ≤ 281474976710656 := prod_step' xs k (all_take _ _ _ h) hl hk
theorem prod_mono (xs : List Int) (k : Nat) (h : xs.all dimB = true) : prodL (xs.take k) ≤ prodL xs := by
  have h1 : prodL xs = prodL (xs.take k) * prodL (xs.drop k) := by
    conv => lhs; rw [← List.take_append_drop k xs]
    rw [prodL, List.foldl_append]
    exact foldl_mul _ _
  have h2 := (prodL_bd _ (all_take _ xs k h)).1
  have h3 : 1 ≤ prodL (xs.drop k) := (prodL_bd _ (by rw [List.all_eq_true] at h ⊢; exact fun x hx => h x (List.mem_of_mem_drop hx))).1
  rw [h1]
  have := Int.mul_le_mul (Int.le_refl (prodL (xs.take k))) h3 (by omega) (by omega)
  simpa using this
/-- the reference's count -/
def cnt (s : List Int) : Int := if prodL s ≤ 65536 then prodL s else 65537
theorem cnt_le (s : List Int) : decide (cnt s ≤ 65536) = decide (prodL s ≤ 65536) := by
  unfold cnt
  split
  · rename_i h; simp [h]
  · rename_i h; simp [h]
end Go.Proofs.Ytjhejpeklppmbaa
