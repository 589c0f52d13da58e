/-
  PLAIN FACTS, with no program in sight: lists of integers read by 'nth'; the sum of bytes (CRC32) as numbers.
-/
import Derived.Below
set_option linter.unusedVariables false
set_option linter.unusedSimpArgs false
namespace Go.Proofs.YtipjhdgegfgenaaGreat
def nth (l : List Int) (k : Nat) : Int := l.getD k 0
theorem take_succ_nth (l : List Int) (k : Nat) (h : k < l.length) : l.take (k + 1) = l.take k ++ [nth l k] := by
  rw [List.take_succ_eq_append_getElem h, nth, List.getD_eq_getElem?_getD, List.getElem?_eq_getElem h]; rfl
theorem nth_eq (l : List Int) (k : Nat) (h : k < l.length) : nth l k = l[k] := by
  rw [nth, List.getD_eq_getElem?_getD, List.getElem?_eq_getElem h]; rfl
theorem nth_mem (l : List Int) (k : Nat) (h : k < l.length) : nth l k ∈ l := by
  rw [nth_eq l k h]; exact List.getElem_mem h
theorem ext_nth {a b : List Int} (hl : a.length = b.length) (h : ∀ k, k < a.length → nth a k = nth b k) : a = b := by
  apply List.ext_getElem hl
  intro k h1 h2
  have := h k h1
  rwa [nth_eq a k h1, nth_eq b k h2] at this
theorem beq0_false (n : Nat) (h : n ≠ 0) : ((n : Int) == 0) = false := by rw [beq_eq_false_iff_ne]; omega
theorem beq0_true (n : Nat) (h : n = 0) : ((n : Int) == 0) = true := by rw [beq_iff_eq]; omega
theorem set_set_nth (l : List Int) (j : Nat) (x : Int) (h : j < l.length) : (l.set j x).set j (nth l j) = l := by
  rw [List.set_set, nth_eq l j h, List.set_getElem_self]
theorem nth_set (l : List Int) (j : Nat) (x : Int) (h : j < l.length) : nth (l.set j x) j = x := by
  rw [nth_eq _ _ (by simpa using h), List.getElem_set_self]
theorem nth_set_ne (l : List Int) (j k : Nat) (x : Int) (h : j ≠ k) : nth (l.set j x) k = nth l k := by
  simp [nth, List.getD_eq_getElem?_getD, List.getElem?_set_ne h]
theorem list1 {α : Type} {l : List α} (h : l.length = 1) : ∃ a, l = [a] := match l, h with | [a], _ => ⟨a, rfl⟩
theorem list2 {α : Type} {l : List α} (h : l.length = 2) : ∃ a b, l = [a, b] := match l, h with | [a, b], _ => ⟨a, b, rfl⟩
theorem list3 {α : Type} {l : List α} (h : l.length = 3) : ∃ a b c, l = [a, b, c] := match l, h with | [a, b, c], _ => ⟨a, b, c, rfl⟩
theorem list4 {α : Type} {l : List α} (h : l.length = 4) : ∃ a b c d, l = [a, b, c, d] := match l, h with | [a, b, c, d], _ => ⟨a, b, c, d, rfl⟩
theorem list5 {α : Type} {l : List α} (h : l.length = 5) : ∃ a b c d e, l = [a, b, c, d, e] := match l, h with | [a, b, c, d, e], _ => ⟨a, b, c, d, e, rfl⟩
/-- one bit of the sum's step -/
def crcBit (x : Nat) : Nat := if x % 2 = 1 then (x / 2) ^^^ 3988292384 else x / 2
def crcBits : Nat → Nat → Nat
  | 0, x => x
  | n + 1, x => crcBits n (crcBit x)
theorem crcBits_succ (n x : Nat) : crcBits (n + 1) x = crcBit (crcBits n x) := by
  induction n generalizing x with
  | zero => rfl
  | succ n ih => rw [crcBits, ih]; rfl
def crcTab (k : Nat) : Nat := crcBits 8 k
def crcStep (s c : Nat) : Nat := (s / 256) ^^^ crcTab ((s % 256) ^^^ c)
def crcRun (s : Nat) (l : List Int) : Nat := l.foldl (fun s c => crcStep s c.toNat) s
def crcSum (l : List Int) : Nat := crcRun 4294967295 l ^^^ 4294967295
theorem crcBit_lt (x : Nat) (h : x < 4294967296) : crcBit x < 4294967296 := by
  unfold crcBit
  split
  · exact Nat.xor_lt_two_pow (n := 32) (by omega) (by omega)
  · omega
theorem crcBits_lt (n x : Nat) (h : x < 4294967296) : crcBits n x < 4294967296 := by
  induction n generalizing x with
  | zero => exact h
  | succ n ih => exact ih _ (crcBit_lt x h)
theorem crcTab_lt (k : Nat) (h : k < 256) : crcTab k < 4294967296 := crcBits_lt 8 k (by omega)
theorem crcStep_lt (s c : Nat) (hs : s < 4294967296) (hc : c < 256) : crcStep s c < 4294967296 :=
  Nat.xor_lt_two_pow (n := 32) (by omega) (crcTab_lt _ (Nat.xor_lt_two_pow (n := 8) (by omega) (by omega)))
theorem crcRun_snoc (s : Nat) (l : List Int) (c : Int) : crcRun s (l ++ [c]) = crcStep (crcRun s l) c.toNat := by simp [crcRun]
theorem crcRun_lt (s : Nat) (l : List Int) (hs : s < 4294967296) (h : ∀ x ∈ l, 0 ≤ x ∧ x < 256) : crcRun s l < 4294967296 := by
  induction l generalizing s with
  | nil => exact hs
  | cons c l ih =>
    have hc := h c (List.mem_cons_self ..)
    exact ih _ (crcStep_lt s c.toNat hs (by omega)) (fun x hx => h x (List.mem_cons_of_mem _ hx))
end Go.Proofs.YtipjhdgegfgenaaGreat
/-
  PLAIN: places of a plain view, of one with its axes turned, of a part.
-/
set_option linter.unusedVariables false
set_option linter.unusedSimpArgs false
namespace Go.Proofs.YtipjhdgegfgenaaGreat
def prodN : List Nat → Nat
  | [] => 1
  | d :: r => d * prodN r
def stepsN : List Nat → List Nat
  | [] => []
  | _ :: r => prodN r :: stepsN r
/-- the index that stands at a place -/
def standsN : List Nat → Nat → List Nat
  | [], _ => []
  | d :: r, n => n / prodN r % d :: standsN r n
def dotN (a b : List Nat) : Nat := (List.zipWith (· * ·) a b).sum
/-- an index of a shape -/
def InN : List Nat → List Nat → Prop
  | [], [] => True
  | d :: r, x :: j => x < d ∧ InN r j
  | _, _ => False
theorem dotN_cons (x y : Nat) (a b : List Nat) : dotN (x :: a) (y :: b) = x * y + dotN a b := by simp [dotN]
theorem stepsN_length : ∀ s, (stepsN s).length = s.length
  | [] => rfl
  | _ :: r => by simp [stepsN, stepsN_length r]
theorem standsN_length : ∀ (s : List Nat) (n : Nat), (standsN s n).length = s.length
  | [], _ => rfl
  | _ :: r, n => by simp [standsN, standsN_length r n]
theorem dot_stands : ∀ (s : List Nat) (n : Nat), dotN (standsN s n) (stepsN s) = n % prodN s
  | [], n => by simp [dotN, standsN, stepsN, prodN, Nat.mod_one]
  | d :: r, n => by
    rw [standsN, stepsN, dotN_cons, dot_stands r n, prodN, Nat.mul_comm d, Nat.mod_mul, Nat.add_comm, Nat.mul_comm]
theorem stands_in : ∀ (s : List Nat) (n : Nat), (∀ d ∈ s, 0 < d) → InN s (standsN s n)
  | [], _, _ => trivial
  | d :: r, n, h => ⟨Nat.mod_lt _ (h d (by simp)), stands_in r n fun x hx => h x (by simp [hx])⟩
theorem in_length : ∀ {s i : List Nat}, InN s i → i.length = s.length
  | [], [], _ => rfl
  | _ :: _, _ :: _, h => by simp [in_length h.2]
  | [], _ :: _, h => h.elim
  | _ :: _, [], h => h.elim
theorem dot_lt : ∀ {s i : List Nat}, InN s i → dotN i (stepsN s) < prodN s
  | [], [], _ => by simp [dotN, stepsN, prodN]
  | d :: r, x :: j, h => by
    have h1 := dot_lt h.2
    have h2 : (x + 1) * prodN r ≤ d * prodN r := Nat.mul_le_mul_right _ h.1
    rw [stepsN, dotN_cons, prodN]
    rw [Nat.succ_mul] at h2
    omega
  | [], _ :: _, h => h.elim
  | _ :: _, [], h => h.elim
theorem prodN_pos : ∀ {s : List Nat}, (∀ d ∈ s, 0 < d) → 0 < prodN s
  | [], _ => by simp [prodN]
  | d :: r, h => Nat.mul_pos (h d (by simp)) (prodN_pos fun x hx => h x (by simp [hx]))
theorem stands_add : ∀ (s : List Nat) (x q : Nat), (∀ d ∈ s, 0 < d) → standsN s (x * prodN s + q) = standsN s q
  | [], _, _, _ => rfl
  | d :: r, x, q, h => by
    have hr : ∀ d ∈ r, 0 < d := fun y hy => h y (by simp [hy])
    have hp := prodN_pos hr
    have e : x * prodN (d :: r) + q = (x * d) * prodN r + q := by rw [prodN, Nat.mul_assoc]
    rw [e, standsN, standsN, stands_add r _ q hr]
    congr 1
    rw [Nat.add_comm, Nat.add_mul_div_right _ _ hp, Nat.add_mul_mod_self_right]
theorem stands_dot : ∀ {s i : List Nat}, (∀ d ∈ s, 0 < d) → InN s i → standsN s (dotN i (stepsN s)) = i
  | [], [], _, _ => rfl
  | d :: r, x :: j, h, hi => by
    have hr : ∀ d ∈ r, 0 < d := fun y hy => h y (by simp [hy])
    have hp := prodN_pos hr
    have hl := dot_lt hi.2
    rw [stepsN, dotN_cons, standsN, stands_add r x _ hr, stands_dot hr hi.2]
    congr 1
    rw [Nat.add_comm, Nat.add_mul_div_right _ _ hp, Nat.div_eq_of_lt hl, Nat.zero_add, Nat.mod_eq_of_lt hi.1]
  | [], _ :: _, _, h => h.elim
  | _ :: _, [], _, h => h.elim
theorem dot_rev (a b : List Nat) (h : a.length = b.length) : dotN a.reverse b.reverse = dotN a b := by
  rw [dotN, ← List.reverse_zipWith h, List.sum_reverse, dotN]
theorem in_app : ∀ {s i t j : List Nat}, InN s i → InN t j → InN (s ++ t) (i ++ j)
  | [], [], _, _, _, h => h
  | _ :: _, _ :: _, _, _, h, k => ⟨h.1, in_app h.2 k⟩
  | [], _ :: _, _, _, h, _ => h.elim
  | _ :: _, [], _, _, h, _ => h.elim
theorem in_rev : ∀ {s i : List Nat}, InN s i → InN s.reverse i.reverse
  | [], [], _ => trivial
  | d :: r, x :: j, h => by
    rw [List.reverse_cons, List.reverse_cons]
    exact in_app (in_rev h.2) ⟨h.1, trivial⟩
  | [], _ :: _, h => h.elim
  | _ :: _, [], h => h.elim
/-- where, in the words of s, those of s with its axes turned round stand -/
def turnN (s : List Nat) (n : Nat) : Nat := dotN (standsN s.reverse n) (stepsN s).reverse
theorem turn_turn (s : List Nat) (h : ∀ d ∈ s, 0 < d) (m : Nat) (hm : m < prodN s) : turnN s (turnN s.reverse m) = m := by
  have hr : ∀ d ∈ s.reverse, 0 < d := fun d hd => h d (List.mem_reverse.1 hd)
  have e1 : turnN s.reverse m = dotN (standsN s m).reverse (stepsN s.reverse) := by
    rw [turnN, List.reverse_reverse, ← dot_rev (standsN s m) _ (by rw [standsN_length, List.length_reverse, stepsN_length, List.length_reverse]), List.reverse_reverse]
  rw [turnN, e1, stands_dot hr (in_rev (stands_in s m h)), dot_rev _ _ (by rw [standsN_length, stepsN_length]), dot_stands, Nat.mod_eq_of_lt hm]
theorem prodN_app : ∀ a b, prodN (a ++ b) = prodN a * prodN b
  | [], b => by simp [prodN]
  | d :: r, b => by rw [List.cons_append, prodN, prodN, prodN_app r b, Nat.mul_assoc]
theorem prodN_rev : ∀ s : List Nat, prodN s.reverse = prodN s
  | [] => rfl
  | d :: r => by rw [List.reverse_cons, prodN_app, prodN_rev r, prodN, prodN, prodN, Nat.mul_one, Nat.mul_comm]
theorem turn_lt (s : List Nat) (h : ∀ d ∈ s, 0 < d) (n : Nat) : turnN s n < prodN s := by
  have hr : ∀ d ∈ s.reverse, 0 < d := fun d hd => h d (List.mem_reverse.1 hd)
  have hi := in_rev (stands_in s.reverse n hr)
  rw [List.reverse_reverse] at hi
  have e : turnN s n = dotN (standsN s.reverse n).reverse (stepsN s) := by
    rw [turnN, ← dot_rev _ (stepsN s).reverse (by simp [standsN_length, stepsN_length]), List.reverse_reverse]
  rw [e]
  exact dot_lt hi
end Go.Proofs.YtipjhdgegfgenaaGreat
/-
  PLAIN SPECIFICATIONS: words, shapes, datasets.
-/
set_option linter.unusedVariables false
set_option linter.unusedSimpArgs false
namespace Go.Proofs.YtipjhdgegfgenaaGreat
def wordB (v : Int) : Bool := decide (-140737488355328 < v) && decide (v < 140737488355328)
def wordsB (l : List Int) : Bool := l.all wordB
def dimB (d : Int) : Bool := decide (1 ≤ d) && decide (d ≤ 4096)
def prodL (s : List Int) : Int := s.foldl (· * ·) 1
def shapeB (s : List Int) : Bool := decide (s.length ≤ 4) && s.all dimB && decide (prodL s ≤ 65536)
theorem prodL_snoc (l : List Int) (x : Int) : prodL (l ++ [x]) = prodL l * x := by simp [prodL]
theorem foldl_mul (l : List Int) (a : Int) : l.foldl (· * ·) a = a * prodL l := by
  induction l generalizing a with
  | nil => simp [prodL]
  | cons x l ih =>
    have h1 := ih (a * x)
    have h2 := ih (1 * x)
    rw [List.foldl_cons, h1]
    show a * x * prodL l = a * (x :: l).foldl (· * ·) 1
    rw [List.foldl_cons, h2, Int.one_mul, Int.mul_assoc]
theorem prodL_cons (x : Int) (l : List Int) : prodL (x :: l) = x * prodL l := by rw [prodL, List.foldl_cons, foldl_mul, Int.one_mul]
theorem all_take_succ (p : Int → Bool) (l : List Int) (k : Nat) (h : k < l.length) : (l.take (k + 1)).all p = ((l.take k).all p && p (nth l k)) := by
  rw [take_succ_nth l k h]; simp
theorem all_false_of (p : Int → Bool) (l : List Int) (k : Nat) (h : k < l.length) (hp : p (nth l k) = false) : l.all p = false := by
  rw [List.all_eq_false]; exact ⟨_, nth_mem l k h, by simp [hp]⟩
theorem dimB_iff (d : Int) : dimB d = true ↔ 1 ≤ d ∧ d ≤ 4096 := by simp [dimB]
theorem dimB_no (d : Int) : dimB d = false ↔ d < 1 ∨ 4096 < d := by
  rw [Bool.eq_false_iff, Ne, dimB_iff]; omega
/-- the product of dimensions: from 1 on, and no more than 4096 to their number -/
theorem prodL_bd (l : List Int) (h : l.all dimB = true) : 1 ≤ prodL l ∧ prodL l ≤ 4096 ^ l.length := by
  induction l with
  | nil => simp [prodL]
  | cons x l ih =>
    rw [List.all_cons, Bool.and_eq_true, dimB_iff] at h
    obtain ⟨⟨h1, h2⟩, h3⟩ := h
    obtain ⟨i1, i2⟩ := ih h3
    rw [prodL_cons, List.length_cons, Int.pow_succ]
    refine ⟨?_, ?_⟩
    · have := Int.mul_le_mul h1 i1 (by omega) (by omega)
      simpa using this
    · rw [Int.mul_comm (4096 ^ l.length)]
      exact Int.mul_le_mul h2 i2 (by omega) (by omega)
theorem any_take_succ (p : Int → Bool) (l : List Int) (k : Nat) (h : k < l.length) : (l.take (k + 1)).any p = ((l.take k).any p || p (nth l k)) := by
  rw [take_succ_nth l k h]; simp
theorem any_true_of (p : Int → Bool) (l : List Int) (k : Nat) (h : k < l.length) (hp : p (nth l k) = true) : l.any p = true := by
  rw [List.any_eq_true]; exact ⟨_, nth_mem l k h, hp⟩
theorem pow4096 (n : Nat) (h : n ≤ 4) : (4096 : Int) ^ n ≤ 281474976710656 := by
  match n, h with
  | 0, _ => decide
  | 1, _ => decide
  | 2, _ => decide
  | 3, _ => decide
  | 4, _ => decide
theorem prod_step' (xs : List Int) (k : Nat) (h : (xs.take (k + 1)).all dimB = true) (hl : xs.length ≤ 4) (hk : k < xs.length) :
    1 ≤ prodL (xs.take k) * nth xs k ∧ prodL (xs.take k) * nth xs k ≤ 281474976710656 := by
  have h1 := prodL_bd _ h
  rw [take_succ_nth xs k hk, prodL_snoc] at h1
  refine ⟨h1.1, Int.le_trans h1.2 (pow4096 _ ?_)⟩
  simp
  omega
theorem all_take (p : Int → Bool) (xs : List Int) (k : Nat) (h : xs.all p = true) : (xs.take k).all p = true := by
  rw [List.all_eq_true] at h ⊢
  exact fun x hx => h x (List.mem_of_mem_take hx)
theorem prod_step (xs : List Int) (k : Nat) (h : xs.all dimB = true) (hl : xs.length ≤ 4) (hk : k < xs.length) :
    1 ≤ prodL (xs.take k) * nth xs k ∧ prodL (xs.take k) * nth xs k ≤ 281474976710656 := prod_step' xs k (all_take _ _ _ h) hl hk
theorem prod_mono (xs : List Int) (k : Nat) (h : xs.all dimB = true) : prodL (xs.take k) ≤ prodL xs := by
  have h1 : prodL xs = prodL (xs.take k) * prodL (xs.drop k) := by
    conv => lhs; rw [← List.take_append_drop k xs]
    rw [prodL, List.foldl_append]
    exact foldl_mul _ _
  have h2 := (prodL_bd _ (all_take _ xs k h)).1
  have h3 : 1 ≤ prodL (xs.drop k) := (prodL_bd _ (by rw [List.all_eq_true] at h ⊢; exact fun x hx => h x (List.mem_of_mem_drop hx))).1
  rw [h1]
  have := Int.mul_le_mul (Int.le_refl (prodL (xs.take k))) h3 (by omega) (by omega)
  simpa using this
/-- the reference's count -/
def cnt (s : List Int) : Int := if prodL s ≤ 65536 then prodL s else 65537
theorem cnt_le (s : List Int) : decide (cnt s ≤ 65536) = decide (prodL s ≤ 65536) := by
  unfold cnt
  split
  · rename_i h; simp [h]
  · rename_i h; simp [h]
end Go.Proofs.YtipjhdgegfgenaaGreat
