/-
  PLAIN FACTS, with no program in sight: lists of integers read by 'nth'; the sum of bytes (CRC32) as numbers.
-/
import Derived.Below
set_option linter.unusedVariables false
set_option linter.unusedSimpArgs false
namespace Go.Proofs.Ytejmbhckfdfoeaa
def nth (l : List Int) (k : Nat) : Int := l.getD k 0
theorem take_succ_nth (l : List Int) (k : Nat) (h : k < l.length) : l.take (k + 1) = l.take k ++ [nth l k] := by
  rw [List.take_succ_eq_append_getElem h, nth, List.getD_eq_getElem?_getD, List.getElem?_eq_getElem h]; rfl
theorem nth_eq (l : List Int) (k : Nat) (h : k < l.length) : nth l k = l[k] := by
  rw [nth, List.getD_eq_getElem?_getD, List.getElem?_eq_getElem h]; rfl
theorem nth_mem (l : List Int) (k : Nat) (h : k < l.length) : nth l k ∈ l := by
  rw [nth_eq l k h]; exact List.getElem_mem h
theorem ext_nth {a b : List Int} (hl : a.length = b.length) (h : ∀ k, k < a.length → nth a k = nth b k) : a = b := by
  apply List.ext_getElem hl
  intro k h1 h2
  have := h k h1
  rwa [nth_eq a k h1, nth_eq b k h2] at this
theorem beq0_false (n : Nat) (h : n ≠ 0) : ((n : Int) == 0) = false := by rw [beq_eq_false_iff_ne]; omega
theorem beq0_true (n : Nat) (h : n = 0) : ((n : Int) == 0) = true := by rw [beq_iff_eq]; omega
theorem set_set_nth (l : List Int) (j : Nat) (x : Int) (h : j < l.length) : (l.set j x).set j (nth l j) = l := by
  rw [List.set_set, nth_eq l j h, List.set_getElem_self]
theorem nth_set (l : List Int) (j : Nat) (x : Int) (h : j < l.length) : nth (l.set j x) j = x := by
  rw [nth_eq _ _ (by simpa using h), List.getElem_set_self]
theorem nth_set_ne (l : List Int) (j k : Nat) (x : Int) (h : j ≠ k) : nth (l.set j x) k = nth l k := by
  simp [nth, List.getD_eq_getElem?_getD, List.getElem?_set_ne h]
theorem list1 {α : Type} {l : List α} (h : l.length = 1) : ∃ a, l = [a] := match l, h with | [a], _ => ⟨a, rfl⟩
theorem list2 {α : Type} {l : List α} (h : l.length = 2) : ∃ a b, l = [a, b] := match l, h with | [a, b], _ => ⟨a, b, rfl⟩
theorem list3 {α : Type} {l : List α} (h : l.length = 3) : ∃ a b c, l = [a, b, c] := match l, h with | [a, b, c], _ => ⟨a, b, c, rfl⟩
theorem list4 {α : Type} {l : List α} (h : l.length = 4) : ∃ a b c d, l = [a, b, c, d] := match l, h with | [a, b, c, d], _ => ⟨a, b, c, d, rfl⟩
theorem list5 {α : Type} {l : List α} (h : l.length = 5) : ∃ a b c d e, l = [a, b, c, d, e] := match l, h with | [a, b, c, d, e], _ => ⟨a, b, c, d, e, rfl⟩
/-- one bit of the sum's step -/
def crcBit (x : Nat) : Nat := if x % 2 = 1 then (x / 2) ^^^ 3988292384 else x / 2
def crcBits : Nat → Nat → Nat
  | 0, x => x
  | n + 1, x => crcBits n (crcBit x)
theorem crcBits_succ (n x : Nat) : crcBits (n + 1) x = crcBit (crcBits n x) := by
  induction n generalizing x with
  | zero => rfl
  | succ n ih => rw [crcBits, ih]; rfl
def crcTab (k : Nat) : Nat := crcBits 8 k
def crcStep (s c : Nat) : Nat := (s / 256) ^^^ crcTab ((s % 256) ^^^ c)
def crcRun (s : Nat) (l : List Int) : Nat := l.foldl (fun s c => crcStep s c.toNat) s
def crcSum (l : List Int) : Nat := crcRun 4294967295 l ^^^ 4294967295
theorem crcBit_lt (x : Nat) (h : x < 4294967296) : crcBit x < 4294967296 := by
  unfold crcBit
  split
  · exact Nat.xor_lt_two_pow (n := 32) (by omega) (by omega)
  · omega
theorem crcBits_lt (n x : Nat) (h : x < 4294967296) : crcBits n x < 4294967296 := by
  induction n generalizing x with
  | zero => exact h
  | succ n ih => exact ih _ (crcBit_lt x h)
theorem crcTab_lt (k : Nat) (h : k < 256) : crcTab k < 4294967296 := crcBits_lt 8 k (by omega)
theorem crcStep_lt (s c : Nat) (hs : s < 4294967296) (hc : c < 256) : crcStep s c < 4294967296 :=
  Nat.xor_lt_two_pow (n := 32) (by omega) (crcTab_lt _ (Nat.xor_lt_two_pow (n := 8) (by omega) (by omega)))
theorem crcRun_snoc (s : Nat) (l : List Int) (c : Int) : crcRun s (l ++ [c]) = crcStep (crcRun s l) c.toNat := by simp [crcRun]
theorem crcRun_lt (s : Nat) (l : List Int) (hs : s < 4294967296) (h : ∀ x ∈ l, 0 ≤ x ∧ x < 256) : crcRun s l < 4294967296 := by
  induction l generalizing s with
  | nil => exact hs
  | cons c l ih =>
    have hc := h c (List.mem_cons_self ..)
    exact ih _ (crcStep_lt s c.toNat hs (by omega)) (fun x hx => h x (List.mem_cons_of_mem _ hx))
end Go.Proofs.Ytejmbhckfdfoeaa
