/-
  THE PLAIN LAW of the sum of bytes: it is linear, and one turned byte changes it.
-/
import Derived.Test.YtjhejpeklppmbaaPlain
set_option linter.unusedVariables false
set_option linter.unusedSimpArgs false
namespace Go.Proofs.Ytjhejpeklppmbaa
theorem xor_div (a b : Nat) (k : Nat) : (a ^^^ b) / 2 ^ k = a / 2 ^ k ^^^ b / 2 ^ k := by
  rw [← Nat.shiftRight_eq_div_pow, ← Nat.shiftRight_eq_div_pow, ← Nat.shiftRight_eq_div_pow, Nat.shiftRight_xor_distrib]
theorem xor_mod (a b : Nat) (k : Nat) : (a ^^^ b) % 2 ^ k = a % 2 ^ k ^^^ b % 2 ^ k := by
  apply Nat.eq_of_testBit_eq
  intro i
  simp only [Nat.testBit_mod_two_pow, Nat.testBit_xor]
  by_cases h : i < k <;> simp [h]
theorem crcBit_xor (x y : Nat) : crcBit (x ^^^ y) = crcBit x ^^^ crcBit y := by
  have hd : (x ^^^ y) / 2 = x / 2 ^^^ y / 2 := xor_div x y 1
  have hm : (x ^^^ y) % 2 = x % 2 ^^^ y % 2 := xor_mod x y 1
  unfold crcBit
  rw [hd, hm]
  rcases Nat.mod_two_eq_zero_or_one x with hx | hx <;> rcases Nat.mod_two_eq_zero_or_one y with hy | hy <;> rw [hx, hy]
  · rfl
  · show (x / 2 ^^^ y / 2) ^^^ 3988292384 = x / 2 ^^^ (y / 2 ^^^ 3988292384)
    rw [Nat.xor_assoc]
  · show (x / 2 ^^^ y / 2) ^^^ 3988292384 = (x / 2 ^^^ 3988292384) ^^^ y / 2
    rw [Nat.xor_assoc, Nat.xor_assoc, Nat.xor_comm (y / 2)]
  · show (x / 2 ^^^ y / 2) = (x / 2 ^^^ 3988292384) ^^^ (y / 2 ^^^ 3988292384)
    rw [Nat.xor_assoc, Nat.xor_comm (y / 2) 3988292384, ← Nat.xor_assoc 3988292384, Nat.xor_self, Nat.zero_xor]
theorem crcBits_xor (n x y : Nat) : crcBits n (x ^^^ y) = crcBits n x ^^^ crcBits n y := by
  induction n generalizing x y with
  | zero => rfl
  | succ n ih => rw [crcBits, crcBit_xor, ih]; rfl
theorem xor4 (a b c d : Nat) : (a ^^^ b) ^^^ (c ^^^ d) = (a ^^^ c) ^^^ (b ^^^ d) := by
  rw [Nat.xor_assoc, ← Nat.xor_assoc b, Nat.xor_comm b c, Nat.xor_assoc c, ← Nat.xor_assoc]
theorem crcStep_xor (s t c d : Nat) : crcStep (s ^^^ t) (c ^^^ d) = crcStep s c ^^^ crcStep t d := by
  have h1 : (s ^^^ t) / 256 = s / 256 ^^^ t / 256 := xor_div s t 8
  have h2 : (s ^^^ t) % 256 = s % 256 ^^^ t % 256 := xor_mod s t 8
  unfold crcStep
  rw [h1, h2, xor4 (s % 256), crcTab, crcBits_xor, xor4]
  rfl
/-- the three sums together, from whatever they begin -/
theorem crcRun_xor (s t u : Nat) (b c d z : List Nat) (hc : c.length = b.length) (hd : d.length = b.length) (hz : z.length = b.length)
    (h : ∀ k, k < b.length → b.getD k 0 ^^^ c.getD k 0 ^^^ d.getD k 0 = z.getD k 0) :
    b.foldl crcStep s ^^^ c.foldl crcStep t ^^^ d.foldl crcStep u = z.foldl crcStep (s ^^^ t ^^^ u) := by
  induction b generalizing s t u c d z with
  | nil =>
    cases c <;> cases d <;> cases z <;> simp_all
  | cons x b ih =>
    match c, d, z, hc, hd, hz with
    | y :: c, w :: d, v :: z, hc, hd, hz =>
      have h0 : x ^^^ y ^^^ w = v := h 0 (by simp)
      simp only [List.foldl_cons]
      rw [ih _ _ _ c d z (by simpa using hc) (by simpa using hd) (by simpa using hz) (fun k hk => h (k + 1) (by simp; omega)), ← crcStep_xor, ← crcStep_xor, h0]
theorem crcRun_nat (s : Nat) (l : List Int) : crcRun s l = (l.map Int.toNat).foldl crcStep s := by
  unfold crcRun
  rw [List.foldl_map]
theorem getD_toNat (l : List Int) (k : Nat) : (l.map Int.toNat).getD k 0 = (nth l k).toNat := by
  simp only [List.getD_eq_getElem?_getD, List.getElem?_map, nth]
  cases l[k]? <;> rfl
theorem xor_thrice (a b c m : Nat) : (a ^^^ m) ^^^ (b ^^^ m) ^^^ (c ^^^ m) = (a ^^^ b ^^^ c) ^^^ m := by
  apply Nat.eq_of_testBit_eq
  intro i
  simp only [Nat.testBit_xor]
  cases a.testBit i <;> cases b.testBit i <;> cases c.testBit i <;> cases m.testBit i <;> rfl
theorem crcSum_xor (b c d z : List Int) (hc : c.length = b.length) (hd : d.length = b.length) (hz : z.length = b.length)
    (h : ∀ k, k < b.length → (nth b k).toNat ^^^ (nth c k).toNat ^^^ (nth d k).toNat = (nth z k).toNat) :
    crcSum b ^^^ crcSum c ^^^ crcSum d = crcSum z := by
  have hh := crcRun_xor 4294967295 4294967295 4294967295 (b.map Int.toNat) (c.map Int.toNat) (d.map Int.toNat) (z.map Int.toNat) (by simpa using hc) (by simpa using hd) (by simpa using hz)
    (fun k hk => by simp only [getD_toNat]; exact h k (by simpa using hk))
  have e : (4294967295 : Nat) ^^^ 4294967295 ^^^ 4294967295 = 4294967295 := by decide
  rw [e] at hh
  unfold crcSum
  rw [crcRun_nat, crcRun_nat, crcRun_nat, crcRun_nat, ← hh]
  exact xor_thrice _ _ _ _
/-! ### one turned byte -/
def crcTop (k : Nat) : Nat := crcTab k / 16777216
theorem crcTop_all : (List.range 256).all (fun a => (List.range 256).all fun b => a == b || crcTop a != crcTop b) = true := by decide +kernel
theorem crcTop_inj (a b : Nat) (ha : a < 256) (hb : b < 256) (h : crcTop a = crcTop b) : a = b := by
  have h1 := List.all_eq_true.1 crcTop_all a (List.mem_range.2 ha)
  have h2 := List.all_eq_true.1 h1 b (List.mem_range.2 hb)
  simp only [Bool.or_eq_true, beq_iff_eq, bne_iff_ne] at h2
  exact h2.resolve_right (fun h3 => h3 h)
theorem crcStep_top (s c : Nat) (hs : s < 4294967296) : crcStep s c / 16777216 = crcTop ((s % 256) ^^^ c) := by
  unfold crcStep crcTop
  have h := xor_div (s / 256) (crcTab (s % 256 ^^^ c)) 24
  have e : s / 256 / 2 ^ 24 = 0 := by omega
  rw [e, Nat.zero_xor] at h
  exact h
theorem xor_cancel (a b c : Nat) (h : a ^^^ c = b ^^^ c) : a = b := by
  have := congrArg (· ^^^ c) h
  simpa [Nat.xor_assoc] using this
theorem xor_cancel' (a b c : Nat) (h : c ^^^ a = c ^^^ b) : a = b := xor_cancel a b c (by rwa [Nat.xor_comm a, Nat.xor_comm b])
theorem crcStep_inj (s t c d : Nat) (hs : s < 4294967296) (ht : t < 4294967296) (hc : c < 256) (hd : d < 256) (h : crcStep s c = crcStep t d) :
    (s % 256) ^^^ c = (t % 256) ^^^ d ∧ s / 256 = t / 256 := by
  have h1 : crcTop (s % 256 ^^^ c) = crcTop (t % 256 ^^^ d) := by rw [← crcStep_top s c hs, ← crcStep_top t d ht, h]
  have h2 := crcTop_inj _ _ (Nat.xor_lt_two_pow (n := 8) (by omega) hc) (Nat.xor_lt_two_pow (n := 8) (by omega) hd) h1
  refine ⟨h2, ?_⟩
  unfold crcStep at h
  rw [h2] at h
  exact xor_cancel _ _ _ h
theorem crcStep_same (s t c : Nat) (hs : s < 4294967296) (ht : t < 4294967296) (hc : c < 256) (h : crcStep s c = crcStep t c) : s = t := by
  obtain ⟨h1, h2⟩ := crcStep_inj s t c c hs ht hc hc h
  have := xor_cancel _ _ _ h1
  omega
theorem crcStep_other (s c d : Nat) (hs : s < 4294967296) (hc : c < 256) (hd : d < 256) (h : crcStep s c = crcStep s d) : c = d :=
  xor_cancel' _ _ _ (crcStep_inj s s c d hs hs hc hd h).1
theorem crcRun_same (s t : Nat) (l : List Int) (hs : s < 4294967296) (ht : t < 4294967296) (hl : ∀ x ∈ l, 0 ≤ x ∧ x < 256) (h : crcRun s l = crcRun t l) : s = t := by
  induction l generalizing s t with
  | nil => exact h
  | cons c l ih =>
    have hc := hl c (List.mem_cons_self ..)
    have := ih _ _ (crcStep_lt s c.toNat hs (by omega)) (crcStep_lt t c.toNat ht (by omega)) (fun x hx => hl x (List.mem_cons_of_mem _ hx)) h
    exact crcStep_same s t c.toNat hs ht (by omega) this
theorem crcRun_set (s : Nat) (l : List Int) (k : Nat) (x : Int) (hs : s < 4294967296) (hl : ∀ x ∈ l, 0 ≤ x ∧ x < 256) (hk : k < l.length) (hx : 0 ≤ x ∧ x < 256)
    (h : crcRun s (l.set k x) = crcRun s l) : x = nth l k := by
  induction l generalizing s k with
  | nil => simp at hk
  | cons c l ih =>
    have hc := hl c (List.mem_cons_self ..)
    have hl' : ∀ x ∈ l, 0 ≤ x ∧ x < 256 := fun x hx => hl x (List.mem_cons_of_mem _ hx)
    cases k with
    | zero =>
      have h1 := crcRun_same _ _ l (crcStep_lt s x.toNat hs (by omega)) (crcStep_lt s c.toNat hs (by omega)) hl' h
      have h2 := crcStep_other s _ _ hs (by omega) (by omega) h1
      show x = c
      omega
    | succ k => exact ih _ k (crcStep_lt s c.toNat hs (by omega)) hl' (by simpa using hk) h
theorem crcSum_set (l : List Int) (k : Nat) (x : Int) (hl : ∀ x ∈ l, 0 ≤ x ∧ x < 256) (hk : k < l.length) (hx : 0 ≤ x ∧ x < 256) (hne : x ≠ nth l k) : crcSum (l.set k x) ≠ crcSum l :=
  fun h => hne (crcRun_set _ l k x (by omega) hl hk hx (xor_cancel _ _ _ h))
theorem crcSum_nine : crcSum [49, 50, 51, 52, 53, 54, 55, 56, 57] = 3421780262 := by decide +kernel
theorem crcSum_lt (l : List Int) (hl : ∀ x ∈ l, 0 ≤ x ∧ x < 256) : crcSum l < 4294967296 :=
  Nat.xor_lt_two_pow (n := 32) (crcRun_lt _ l (by omega) hl) (by omega)
/-- a byte with one bit turned -/
def turned (x : Int) (j : Nat) : Int := ((x.toNat ^^^ 2 ^ (j % 8) : Nat) : Int)
theorem two_pow_lt (j : Nat) : 2 ^ (j % 8) < 256 := by
  have h : j % 8 < 8 := Nat.mod_lt _ (by omega)
  exact Nat.pow_lt_pow_right (m := j % 8) (n := 8) (by omega) h
theorem turned_lt (x : Int) (j : Nat) (h : 0 ≤ x ∧ x < 256) : 0 ≤ turned x j ∧ turned x j < 256 := by
  have := Nat.xor_lt_two_pow (n := 8) (x := x.toNat) (y := 2 ^ (j % 8)) (by omega) (two_pow_lt j)
  unfold turned; omega
theorem turned_ne (x : Int) (j : Nat) (h : 0 ≤ x) : turned x j ≠ x := by
  intro e
  have h1 : x.toNat ^^^ 2 ^ (j % 8) = x.toNat ^^^ 0 := by
    have := congrArg Int.toNat e
    rw [Nat.xor_zero]
    simpa [turned] using this
  have h2 := xor_cancel' _ _ _ h1
  have := Nat.two_pow_pos (j % 8)
  omega
theorem turned_back (x : Int) (j : Nat) (h : 0 ≤ x) : turned (turned x j) j = x := by
  unfold turned
  rw [Int.toNat_natCast, Nat.xor_assoc, Nat.xor_self, Nat.xor_zero]
  omega
end Go.Proofs.Ytjhejpeklppmbaa
