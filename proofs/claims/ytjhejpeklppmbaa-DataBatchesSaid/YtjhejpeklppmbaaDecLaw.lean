/-
  THE PLAIN LAW OF DATASETS' BYTES: what is encoded is read as it was, by both readers; what is read is encoded as just these bytes.
-/
import Derived.Test.YtjhejpeklppmbaaRefDec
set_option linter.unusedVariables false
set_option linter.unusedSimpArgs false
namespace Go.Proofs.Ytjhejpeklppmbaa
open Go.RowKit
def bv (l : List Int) : Nat := l.foldl (fun n x => n * 256 + x.toNat) 0
theorem foldl_bv (l : List Int) (a : Nat) : l.foldl (fun n x => n * 256 + x.toNat) a = a * 256 ^ l.length + bv l := by
  induction l generalizing a with
  | nil => simp [bv]
  | cons x l ih =>
    have h2 : bv (x :: l) = (0 * 256 + x.toNat) * 256 ^ l.length + bv l := by rw [bv, List.foldl_cons]; exact ih _
    rw [List.foldl_cons, ih, h2, List.length_cons, Nat.pow_succ, Nat.add_mul]
    simp only [Nat.zero_mul, Nat.zero_add, Nat.mul_assoc, Nat.mul_comm, Nat.mul_left_comm, Nat.add_assoc]
theorem bv_cons (x : Int) (l : List Int) : bv (x :: l) = x.toNat * 256 ^ l.length + bv l := by
  rw [bv, List.foldl_cons, foldl_bv]; simp
theorem bv_lt (l : List Int) (hw : Wf .u8 l) : bv l < 256 ^ l.length := by
  induction l with
  | nil => simp [bv]
  | cons x l ih =>
    have h1 := wf_u8 (hw x (by simp))
    have h2 := ih (fun y hy => hw y (by simp [hy]))
    rw [bv_cons, List.length_cons, Nat.pow_succ]
    have h3 : x.toNat ≤ 255 := by omega
    have := Nat.mul_le_mul_right (256 ^ l.length) h3
    omega
theorem beVal_bv (l : List Int) : beVal l = bv l % 18446744073709551616 := by
  have h : ∀ (l : List Int) (a b : Nat), a % 18446744073709551616 = b % 18446744073709551616 → (l.foldl (fun n x => (n * 256 + x.toNat) % 18446744073709551616) a) % 18446744073709551616 = (l.foldl (fun n x => n * 256 + x.toNat) b) % 18446744073709551616 := by
    intro l
    induction l with
    | nil => intro a b h; exact h
    | cons x l ih =>
      intro a b h
      rw [List.foldl_cons, List.foldl_cons]
      exact ih _ _ (by omega)
  have h0 := h l 0 0 rfl
  have h1 := Nat.mod_eq_of_lt (beVal_lt l)
  rw [bv, ← h0]
  exact h1.symm
theorem beVal_eq (l : List Int) (hw : Wf .u8 l) (hl : l.length ≤ 8) : beVal l = bv l := by
  rw [beVal_bv, Nat.mod_eq_of_lt]
  exact Nat.lt_of_lt_of_le (bv_lt l hw) (Nat.pow_le_pow_right (by omega) hl)
theorem wf_u8_mk {x : Int} (h0 : 0 ≤ x) (h1 : x < 256) : (Lit.int .u8 x).wf = true := by
  simp [Lit.wf, IntKind.min, IntKind.max, IntKind.signed, IntKind.bits]; omega
theorem beB_wf (n k : Nat) : Wf .u8 (beB n k) := by
  induction k with
  | zero => intro x hx; simp [beB] at hx
  | succ k ih =>
    intro x hx
    rw [beB, List.mem_cons] at hx
    rcases hx with rfl | hx
    · exact wf_u8_mk (by omega) (by omega)
    · exact ih x hx
theorem bv_beB (n k : Nat) : bv (beB n k) = n % 256 ^ k := by
  induction k with
  | zero => simp [bv, beB, Nat.mod_one]
  | succ k ih =>
    rw [beB, bv_cons, beB_length, ih, Int.toNat_natCast, Nat.pow_succ, Nat.mod_mul]
    rw [Nat.add_comm, Nat.mul_comm]
theorem beB_mod (n k j : Nat) (h : j ≤ k) : beB (n % 256 ^ k) j = beB n j := by
  induction j with
  | zero => rfl
  | succ j ih =>
    rw [beB, beB, ih (by omega)]
    congr 2
    have e : 256 ^ k = 256 ^ j * (256 * 256 ^ (k - j - 1)) := by
      rw [← Nat.pow_succ', ← Nat.pow_add]; congr 1; omega
    rw [e, Nat.mod_mul_right_div_self, Nat.mod_mul_right_mod]
theorem beB_bv (l : List Int) (hw : Wf .u8 l) : beB (bv l) l.length = l := by
  induction l with
  | nil => rfl
  | cons x l ih =>
    have h1 := wf_u8 (hw x (by simp))
    have hwl : Wf .u8 l := fun y hy => hw y (by simp [hy])
    have h2 := bv_lt l hwl
    rw [List.length_cons, beB]
    have hp : 0 < 256 ^ l.length := Nat.pow_pos (by omega)
    congr 1
    · rw [bv_cons, Nat.mul_comm, Nat.mul_add_div hp, Nat.div_eq_of_lt h2, Nat.add_zero]; omega
    · rw [← beB_mod _ l.length l.length (Nat.le_refl _), bv_cons, Nat.mul_comm, Nat.mul_add_mod, beB_mod _ _ _ (Nat.le_refl _)]
      exact ih hwl
theorem take_beB (n k : Nat) (rest : List Int) : (beB n k ++ rest).take k = beB n k ∧ (beB n k ++ rest).drop k = rest := by
  have h := beB_length n k
  constructor
  · conv => lhs; arg 1; rw [← h]
    exact List.take_left
  · conv => lhs; arg 1; rw [← h]
    exact List.drop_left
theorem beVal_beB (n k : Nat) (hk : k ≤ 8) (hn : n < 256 ^ k) : beVal (beB n k) = n := by
  rw [beVal_eq _ (beB_wf n k) (by rw [beB_length]; exact hk), bv_beB, Nat.mod_eq_of_lt hn]
theorem take_inv {k : Nat} {rem : List Int} (hk : k ≤ rem.length) (hk8 : k ≤ 8) (hw : Wf .u8 rem) : rem = beB (beVal (rem.take k)) k ++ rem.drop k ∧ beVal (rem.take k) < 256 ^ k := by
  have hl : (rem.take k).length = k := by rw [List.length_take]; omega
  have hwt := hw.take k
  have hb := beVal_eq (rem.take k) hwt (by omega)
  have h2 := bv_lt (rem.take k) hwt
  have h3 := beB_bv (rem.take k) hwt
  rw [hl] at h2 h3
  rw [hb, h3]
  exact ⟨(List.take_append_drop k rem).symm, h2⟩
theorem numP_enc (x k : Nat) (rest : List Int) (hk : k ≤ 8) (hx : x < 256 ^ k) : numP k (beB x k ++ rest) = some (x, rest) := by
  rw [numP_some (by rw [List.length_append, beB_length]; omega), (take_beB x k rest).1, (take_beB x k rest).2, beVal_beB x k hk hx]
theorem numP_inv {k x : Nat} {rem rest : List Int} (h : numP k rem = some (x, rest)) (hk : k ≤ 8) (hw : Wf .u8 rem) : rem = beB x k ++ rest ∧ x < 256 ^ k ∧ Wf .u8 rest := by
  unfold numP at h
  split at h
  · rename_i hl
    cases h
    exact ⟨(take_inv hl hk hw).1, (take_inv hl hk hw).2, wf_drop hw k⟩
  · cases h
theorem rNum_enc (x k : Nat) (rest : List Int) (bad : Bool) (hk : k ≤ 8) (hx : x < 256 ^ k) : rNum k (beB x k ++ rest) bad = (x, rest, bad) := by
  rw [rNum, decide_eq_false (by rw [List.length_append, beB_length]; omega), cond_false, (take_beB x k rest).1, (take_beB x k rest).2, beVal_beB x k hk hx]
theorem rNum_inv {k x : Nat} {rem rest : List Int} {bad : Bool} (h : rNum k rem bad = (x, rest, false)) (hk : k ≤ 8) (hw : Wf .u8 rem) : bad = false ∧ rem = beB x k ++ rest ∧ x < 256 ^ k ∧ Wf .u8 rest := by
  unfold rNum at h
  by_cases hl : rem.length < k
  · rw [decide_eq_true hl, cond_true] at h; cases h
  · rw [decide_eq_false hl, cond_false] at h
    cases h
    exact ⟨rfl, (take_inv (by omega) hk hw).1, (take_inv (by omega) hk hw).2, wf_drop hw k⟩
theorem be4L_cons (x : Int) (l : List Int) : be4L (x :: l) = beB (u64N x) 4 ++ be4L l := by rw [be4L, List.flatMap_cons]; rfl
theorem be8L_cons (x : Int) (l : List Int) : be8L (x :: l) = beB (u64N x) 8 ++ be8L l := by rw [be8L, List.flatMap_cons]; rfl
theorem wordV_u64 (v : Int) (h0 : -9223372036854775808 ≤ v) (h1 : v ≤ 9223372036854775807) : wordV (u64N v) = v := by
  unfold wordV u64N wrap64
  omega
theorem u64_wordV (x : Nat) (h : x < 18446744073709551616) : u64N (wordV x) = x := by
  unfold wordV u64N wrap64
  omega
theorem wordB_bd {v : Int} (h : wordB v = true) : -140737488355328 < v ∧ v < 140737488355328 := by simpa [wordB] using h
theorem wordsP_enc (xs rest : List Int) (h : wordsB xs = true) : wordsP xs.length (be8L xs ++ rest) = some (xs, rest) := by
  induction xs with
  | nil => rw [List.length_nil, wordsP_zero]; rfl
  | cons x xs ih =>
    rw [wordsB, List.all_cons, Bool.and_eq_true] at h
    have hb := wordB_bd h.1
    rw [List.length_cons, wordsP_succ, be8L_cons, List.append_assoc, numP_enc _ _ _ (by omega) (u64N_lt x), Option.bind_some, wordStep, wordV_u64 x (by omega) (by omega), h.1, cond_true, Option.bind_some, ih h.2]
    rfl
theorem wordsP_inv (n : Nat) : ∀ {rem rest xs : List Int}, wordsP n rem = some (xs, rest) → Wf .u8 rem → rem = be8L xs ++ rest ∧ xs.length = n ∧ wordsB xs = true ∧ Wf .u8 rest := by
  induction n with
  | zero => intro rem rest xs h hw; rw [wordsP_zero] at h; cases h; exact ⟨rfl, rfl, rfl, hw⟩
  | succ n ih =>
    intro rem rest xs h hw
    rw [wordsP_succ, Option.bind_eq_some_iff] at h
    obtain ⟨⟨x, r⟩, h1, h⟩ := h
    obtain ⟨a1, a2, a3⟩ := numP_inv h1 (by omega) hw
    rw [Option.bind_eq_some_iff] at h
    obtain ⟨u, h2, h⟩ := h
    obtain ⟨b1, b2⟩ := wordStep_val h2
    rw [Option.map_eq_some_iff] at h
    obtain ⟨q, h3, h4⟩ := h
    cases h4
    obtain ⟨c1, c2, c3, c4⟩ := ih h3 a3
    dsimp only at b1
    refine ⟨?_, by simp [c2], by rw [wordsB, List.all_cons, b2]; exact c3, c4⟩
    rw [a1, be8L_cons, b1, u64_wordV x a2, List.append_assoc]
    congr 1
theorem labelsP_enc (xs rest : List Int) (h : ∀ x ∈ xs, 0 ≤ x ∧ x ≤ 4096) : labelsP xs.length (be4L xs ++ rest) = some (xs, rest) := by
  induction xs with
  | nil => rw [List.length_nil, labelsP_zero]; rfl
  | cons x xs ih =>
    have hb := h x (by simp)
    have hu := u64N_small x hb.1 (by omega)
    rw [List.length_cons, labelsP_succ, be4L_cons, List.append_assoc, smallP, numP_enc _ _ _ (by omega) (by omega), Option.bind_some, if_pos (by dsimp only; omega), Option.bind_some, ih (fun y hy => h y (by simp [hy])), Option.map_some]
    simp [hu]
theorem labelsP_inv (n : Nat) : ∀ {rem rest xs : List Int}, labelsP n rem = some (xs, rest) → Wf .u8 rem → rem = be4L xs ++ rest ∧ xs.length = n ∧ Wf .u8 rest := by
  induction n with
  | zero => intro rem rest xs h hw; rw [labelsP_zero] at h; cases h; exact ⟨rfl, rfl, hw⟩
  | succ n ih =>
    intro rem rest xs h hw
    rw [labelsP_succ, Option.bind_eq_some_iff] at h
    obtain ⟨⟨x, r⟩, h1, h⟩ := h
    obtain ⟨h1, h1b⟩ := smallP_num h1
    obtain ⟨a1, a2, a3⟩ := numP_inv h1 (by omega) hw
    rw [Option.map_eq_some_iff] at h
    obtain ⟨q, h3, h4⟩ := h
    cases h4
    obtain ⟨c1, c2, c3⟩ := ih h3 a3
    refine ⟨?_, by simp [c2], c3⟩
    have hu := u64N_small (x : Int) (by omega) (by omega)
    rw [a1, be4L_cons, show u64N (x : Int) = x by omega, List.append_assoc]
    congr 1
theorem numsR_inv (n : Nat) : ∀ {rem : List Int}, n ≤ rem.length / 4 → Wf .u8 rem → rem = be4L (numsR n rem) ++ rem.drop (4 * n) := by
  induction n with
  | zero => intro rem h hw; rw [numsR_zero]; rfl
  | succ n ih =>
    intro rem h hw
    obtain ⟨a1, a2⟩ := take_inv (k := 4) (rem := rem) (by omega) (by omega) hw
    have i := ih (rem := rem.drop 4) (by rw [List.length_drop]; omega) (wf_drop hw 4)
    have hu := u64N_small ((beVal (rem.take 4) : Nat) : Int) (by omega) (by omega)
    rw [numsR_succ, be4L_cons, show u64N ((beVal (rem.take 4) : Nat) : Int) = beVal (rem.take 4) by omega, List.append_assoc, show 4 * (n + 1) = 4 + 4 * n by omega, ← List.drop_drop, ← i]
    exact a1
theorem wordsR_inv (n : Nat) : ∀ {rem : List Int}, n ≤ rem.length / 8 → Wf .u8 rem → rem = be8L (wordsR n rem) ++ rem.drop (8 * n) := by
  induction n with
  | zero => intro rem h hw; rw [wordsR_zero]; rfl
  | succ n ih =>
    intro rem h hw
    obtain ⟨a1, a2⟩ := take_inv (k := 8) (rem := rem) (by omega) (by omega) hw
    have i := ih (rem := rem.drop 8) (by rw [List.length_drop]; omega) (wf_drop hw 8)
    rw [wordsR_succ, be8L_cons, u64_wordV _ (beVal_lt _), List.append_assoc, show 8 * (n + 1) = 8 + 8 * n by omega, ← List.drop_drop, ← i]
    exact a1
theorem rNums_inv {n : Nat} {rem rest xs : List Int} {bad : Bool} (h : rNums n rem bad = (xs, rest, false)) (hw : Wf .u8 rem) : bad = false ∧ rem = be4L xs ++ rest ∧ xs.length = n ∧ Wf .u8 rest := by
  unfold rNums at h
  by_cases hl : rem.length / 4 < n
  · rw [decide_eq_true hl, cond_true] at h; cases h
  · rw [decide_eq_false hl, cond_false] at h
    cases h
    exact ⟨rfl, numsR_inv n (by omega) hw, numsR_length _ _, wf_drop hw _⟩
theorem rWords_inv {n : Nat} {rem rest xs : List Int} {bad : Bool} (h : rWords n rem bad = (xs, rest, false)) (hw : Wf .u8 rem) : bad = false ∧ rem = be8L xs ++ rest ∧ xs.length = n ∧ Wf .u8 rest := by
  unfold rWords at h
  by_cases hl : rem.length / 8 < n
  · rw [decide_eq_true hl, cond_true] at h; cases h
  · rw [decide_eq_false hl, cond_false] at h
    cases h
    exact ⟨rfl, wordsR_inv n (by omega) hw, wordsR_length _ _, wf_drop hw _⟩
theorem numsR_enc (xs rest : List Int) (h : ∀ x ∈ xs, 0 ≤ x ∧ x < 4294967296) : numsR xs.length (be4L xs ++ rest) = xs := by
  induction xs with
  | nil => rfl
  | cons x xs ih =>
    have hb := h x (by simp)
    have hu := u64N_small x hb.1 (by omega)
    rw [List.length_cons, numsR_succ, be4L_cons, List.append_assoc, (take_beB _ _ _).1, (take_beB _ _ _).2, beVal_beB _ _ (by omega) (by omega), ih (fun y hy => h y (by simp [hy])), hu]
theorem wordsR_enc (xs rest : List Int) (h : wordsB xs = true) : wordsR xs.length (be8L xs ++ rest) = xs := by
  induction xs with
  | nil => rfl
  | cons x xs ih =>
    rw [wordsB, List.all_cons, Bool.and_eq_true] at h
    have hb := wordB_bd h.1
    rw [List.length_cons, wordsR_succ, be8L_cons, List.append_assoc, (take_beB _ _ _).1, (take_beB _ _ _).2, beVal_beB _ _ (by omega) (u64N_lt x), wordV_u64 x (by omega) (by omega), ih h.2]
theorem rNums_enc (xs rest : List Int) (bad : Bool) (h : ∀ x ∈ xs, 0 ≤ x ∧ x < 4294967296) : rNums xs.length (be4L xs ++ rest) bad = (xs, rest, bad) := by
  rw [rNums, decide_eq_false (by rw [List.length_append, be4L_length]; omega), cond_false, numsR_enc xs rest h, ← be4L_length, List.drop_left]
theorem rWords_enc (xs rest : List Int) (bad : Bool) (h : wordsB xs = true) : rWords xs.length (be8L xs ++ rest) bad = (xs, rest, bad) := by
  rw [rWords, decide_eq_false (by rw [List.length_append, be8L_length]; omega), cond_false, wordsR_enc xs rest h, ← be8L_length, List.drop_left]
/-- the bytes behind the shape, parted as they are read -/
theorem encSet_eq (s : SetD) (hl : s.sh.length ≤ 3) : encSet s = [82, 83, 69, 84] ++ (beB 1 1 ++ (beB s.sh.length 1 ++ (be4L s.sh ++ (beB (u64N (countS s)) 4 ++ ((if 0 < s.lb.length then beB 0 1 else beB 1 1 ++ beB (u64N ((s.y.length : Int) / countS s)) 4) ++ (be8L s.x ++ (be4L s.lb ++ be8L s.y))))))) := by
  have e1 : beB s.sh.length 1 = [(s.sh.length : Int)] := by
    simp only [beB, Nat.pow_zero, Nat.div_one]
    rw [Nat.mod_eq_of_lt (by omega)]
  have e2 : (if 0 < s.lb.length then beB 0 1 else beB 1 1 ++ beB (u64N ((s.y.length : Int) / countS s)) 4) = (if 0 < s.lb.length then [0] else [1] ++ beB (u64N ((s.y.length : Int) / countS s)) 4) := rfl
  rw [e1, e2]
  simp only [encSet, List.append_assoc, List.cons_append, List.nil_append]
  rfl
theorem label_bd {x : Int} (h : labelB x = true) : 0 ≤ x ∧ x < 4096 := by simpa [labelB] using h
theorem dims_bd {l : List Int} (h : l.all dimB = true) : ∀ x ∈ l, 1 ≤ x ∧ x ≤ 4096 := fun x hx => (dimB_iff x).1 (List.all_eq_true.1 h x hx)
theorem exact_div {a n : Int} (h : a % n = 0) : a = n * (a / n) := by
  have := Int.mul_ediv_add_emod a n; omega
structure SetP where
  n : Nat
  P : Nat
/-- what a dataset is, in numbers -/
theorem good_nums {s : SetD} (h : goodSet s = true) : ∃ n P m : Nat, (n : Int) = countS s ∧ (P : Int) = prodL s.sh ∧ 1 ≤ n ∧ n ≤ 1024 ∧ 1 ≤ P ∧ P ≤ 65536 ∧ s.x.length = n * P ∧ (m : Int) = (s.y.length : Int) / countS s ∧
    (0 < s.lb.length → s.lb.length = n ∧ s.y = []) ∧ (¬ 0 < s.lb.length → s.lb = [] ∧ s.y.length = n * m ∧ 1 ≤ m ∧ m ≤ 65536) := by
  obtain ⟨h1, h2, h3, h4, h5, h6, h7, h8, h9, h10⟩ := goodSet_parts h
  obtain ⟨p1, p2⟩ := prodL_bd s.sh (shapeB_parts h1).2.1
  have p3 := (shapeB_parts h1).2.2
  have hm0 : 0 ≤ (s.y.length : Int) / countS s := Int.ediv_nonneg (by omega) (by omega)
  obtain ⟨n, hn⟩ : ∃ n : Nat, (n : Int) = countS s := ⟨(countS s).toNat, by omega⟩
  obtain ⟨P, hP⟩ : ∃ P : Nat, (P : Int) = prodL s.sh := ⟨(prodL s.sh).toNat, by omega⟩
  obtain ⟨m, hm⟩ : ∃ m : Nat, (m : Int) = (s.y.length : Int) / countS s := ⟨((s.y.length : Int) / countS s).toNat, by omega⟩
  refine ⟨n, P, m, hn, hP, by omega, by omega, by omega, by omega, ?_, hm, fun hz => ?_, fun hz => ?_⟩
  · have : ((s.x.length : Nat) : Int) = ((n * P : Nat) : Int) := by rw [h6, Int.natCast_mul, hn, hP]
    omega
  · obtain ⟨a1, a2, a3⟩ := h9 hz
    exact ⟨by omega, List.eq_nil_of_length_eq_zero a2⟩
  · obtain ⟨a1, a2, a3⟩ := h10 hz
    have e := exact_div a2
    rw [← hm, ← hn] at e
    have e2 : s.y.length = n * m := by
      have : ((s.y.length : Nat) : Int) = ((n * m : Nat) : Int) := by rw [Int.natCast_mul]; exact e
      omega
    refine ⟨List.eq_nil_of_length_eq_zero (by omega), e2, ?_, by omega⟩
    rcases Nat.eq_zero_or_pos m with hz0 | hz0
    · rw [hz0, Nat.mul_zero] at e2; omega
    · exact hz0
theorem setP_enc {s : SetD} (h : goodSet s = true) (rest : List Int) : setP (encSet s ++ rest) = some (s, rest) := by
  obtain ⟨h1, h2, h3, h4, h5, h6, h7, h8, h9, h10⟩ := goodSet_parts h
  obtain ⟨n, P, m, hn, hP, n1, n2, P1, P2, hx, hm, hl, hy⟩ := good_nums h
  have hd := dims_bd (shapeB_parts h1).2.1
  rw [encSet_eq s h3]
  simp only [List.append_assoc]
  rw [setP_some (by simp) rfl, show (List.drop 4 ([82, 83, 69, 84] ++ (beB 1 1 ++ (beB s.sh.length 1 ++ (be4L s.sh ++ (beB (u64N (countS s)) 4 ++ ((if 0 < s.lb.length then beB 0 1 else beB 1 1 ++ beB (u64N ((s.y.length : Int) / countS s)) 4) ++ (be8L s.x ++ (be4L s.lb ++ (be8L s.y ++ rest)))))))))) = (beB 1 1 ++ (beB s.sh.length 1 ++ (be4L s.sh ++ (beB (u64N (countS s)) 4 ++ ((if 0 < s.lb.length then beB 0 1 else beB 1 1 ++ beB (u64N ((s.y.length : Int) / countS s)) 4) ++ (be8L s.x ++ (be4L s.lb ++ (be8L s.y ++ rest)))))))) from rfl]
  rw [setA, numP_enc _ _ _ (by omega) (by omega), Option.bind_some]
  simp only [beq_self_eq_true, cond_true]
  rw [setB, numP_enc _ _ _ (by omega) (by omega), Option.bind_some, dimsP, decide_eq_true h3, cond_true, labelsP_enc _ _ (fun x hx => by have := hd x hx; omega), Option.bind_some]
  simp only [h1, cond_true]
  rw [setC, ← hn, show u64N (n : Int) = n by unfold u64N; omega, smallP, numP_enc _ _ _ (by omega) (by omega), Option.bind_some, if_pos n2, Option.bind_some]
  by_cases hz : 0 < s.lb.length
  · obtain ⟨a1, a2⟩ := hl hz
    simp only [if_pos hz]
    rw [numP_enc _ _ _ (by omega) (by omega), Option.bind_some]
    simp only [show decide (0 ≤ 1) = true from rfl, cond_true]
    rw [setD_zero _ _ P _ hP, ← hx, wordsP_enc _ _ h7, Option.bind_some]
    simp only
    rw [← a1, labelsP_enc _ _ (fun x hx => by have := label_bd (List.all_eq_true.1 (h9 hz).2.2 x hx); omega), Option.map_some, a2]
    obtain ⟨sh, x, lb, y⟩ := s
    simp only at a2
    subst a2
    rfl
  · obtain ⟨a1, a2, a3, a4⟩ := hy hz
    simp only [if_neg hz, List.append_assoc]
    rw [numP_enc _ _ _ (by omega) (by omega), Option.bind_some]
    simp only [show decide (1 ≤ 1) = true from rfl, cond_true]
    rw [setD_one _ _ P _ hP, hn, ← hm, show u64N (m : Int) = m by unfold u64N; omega, smallP, numP_enc _ _ _ (by omega) (by omega), Option.bind_some, if_pos a4, Option.bind_some]
    simp only
    rw [← hx, wordsP_enc _ _ h7, Option.bind_some]
    simp only
    rw [a1, ← a2, show be4L [] = [] from rfl, List.nil_append, wordsP_enc _ _ h8, Option.map_some]
    obtain ⟨sh, x, lb, y⟩ := s
    simp only at a1
    subst a1
    rfl
theorem count_eq {s : SetD} {n P : Nat} (hP : (P : Int) = prodL s.sh) (hP1 : 1 ≤ P) (hx : s.x.length = n * P) : countS s = n := by
  rw [countS, hx, ← hP, Int.natCast_mul, Int.mul_ediv_cancel _ (by omega)]
theorem each_eq {n m l : Nat} (hn : 1 ≤ n) (hl : l = n * m) : (l : Int) / (n : Int) = m := by
  rw [hl, Int.natCast_mul, Int.mul_ediv_cancel_left _ (by omega)]
/-- a dataset with labels, or with targets: its bytes -/
theorem enc_labels {s : SetD} {n P : Nat} (hg : goodSet s = true) (hP : (P : Int) = prodL s.sh) (hx : s.x.length = n * P) (hl : s.lb.length = n) :
    encSet s = [82, 83, 69, 84] ++ (beB 1 1 ++ (beB s.sh.length 1 ++ (be4L s.sh ++ (beB n 4 ++ (beB 0 1 ++ (be8L s.x ++ be4L s.lb)))))) := by
  obtain ⟨h1, h2, h3, h4, h5, h6, h7, h8, h9, h10⟩ := goodSet_parts hg
  have p1 := (prodL_bd s.sh (shapeB_parts h1).2.1).1
  have hc := count_eq hP (by omega) hx
  rw [hc] at h4 h5
  have hy := (h9 (by omega)).2.1
  rw [encSet_eq s h3, hc, if_pos (by omega), List.eq_nil_of_length_eq_zero hy, show u64N (n : Int) = n by unfold u64N; omega, show be8L [] = [] from rfl, List.append_nil]
theorem enc_targets {s : SetD} {n P m : Nat} (hg : goodSet s = true) (hP : (P : Int) = prodL s.sh) (hx : s.x.length = n * P) (hl : s.lb = []) (hy : s.y.length = n * m) :
    encSet s = [82, 83, 69, 84] ++ (beB 1 1 ++ (beB s.sh.length 1 ++ (be4L s.sh ++ (beB n 4 ++ (beB 1 1 ++ (beB m 4 ++ (be8L s.x ++ be8L s.y))))))) := by
  obtain ⟨h1, h2, h3, h4, h5, h6, h7, h8, h9, h10⟩ := goodSet_parts hg
  have p1 := (prodL_bd s.sh (shapeB_parts h1).2.1).1
  have hc := count_eq hP (by omega) hx
  rw [hc] at h4 h5
  have hz : ¬ 0 < s.lb.length := by rw [hl]; simp
  have hm := (h10 hz).2.2
  rw [hc, each_eq (by omega) hy] at hm
  rw [encSet_eq s h3, hc, if_neg hz, each_eq (by omega) hy, hl, show u64N (n : Int) = n by unfold u64N; omega, show u64N (m : Int) = m by unfold u64N; omega, show be4L [] = [] from rfl, List.nil_append, List.append_assoc]
theorem setP_inv {rem rest : List Int} {s : SetD} (h : setP rem = some (s, rest)) (hw : Wf .u8 rem) (hg : goodSet s = true) : rem = encSet s ++ rest := by
  unfold setP at h
  cases hc : (decide (4 ≤ rem.length) && decide (rem.take 4 = [82, 83, 69, 84])) with
  | false => rw [hc, cond_false] at h; cases h
  | true =>
    rw [Bool.and_eq_true, decide_eq_true_eq, decide_eq_true_eq] at hc
    rw [decide_eq_true hc.1, decide_eq_true hc.2] at h
    simp only [Bool.and_self, cond_true] at h
    have e0 : rem = [82, 83, 69, 84] ++ rem.drop 4 := by rw [← hc.2, List.take_append_drop]
    rw [setA, Option.bind_eq_some_iff] at h
    obtain ⟨⟨v, r1⟩, h1, h⟩ := h
    obtain ⟨e1, _, w1⟩ := numP_inv h1 (by omega) (wf_drop hw 4)
    cases hc1 : (v == 1) with
    | false => simp only [hc1, cond_false] at h; cases h
    | true =>
      simp only [hc1, cond_true] at h
      obtain rfl : v = 1 := by simpa using hc1
      rw [setB, Option.bind_eq_some_iff] at h
      obtain ⟨⟨c, r2⟩, h2, h⟩ := h
      obtain ⟨e2, _, w2⟩ := numP_inv h2 (by omega) w1
      rw [Option.bind_eq_some_iff] at h
      obtain ⟨⟨sh, r3⟩, h3, h⟩ := h
      simp only at h3 h
      unfold dimsP at h3
      cases hc3 : decide (c ≤ 3) with
      | false => rw [hc3, cond_false] at h3; cases h3
      | true =>
        rw [hc3, cond_true] at h3
        obtain ⟨e3, l3, w3⟩ := labelsP_inv _ h3 w2
        cases hc4 : shapeB sh with
        | false => rw [hc4, cond_false] at h; cases h
        | true =>
          rw [hc4, cond_true, setC, Option.bind_eq_some_iff] at h
          obtain ⟨⟨n, r4⟩, h4, h⟩ := h
          obtain ⟨h4, _⟩ := smallP_num h4
          obtain ⟨e4, _, w4⟩ := numP_inv h4 (by omega) w3
          rw [Option.bind_eq_some_iff] at h
          obtain ⟨⟨k, r5⟩, h5, h⟩ := h
          obtain ⟨e5, _, w5⟩ := numP_inv h5 (by omega) w4
          simp only at h
          have hp1 := (prodL_bd sh (shapeB_parts hc4).2.1).1
          obtain ⟨P, hP⟩ : ∃ P : Nat, (P : Int) = prodL sh := ⟨(prodL sh).toNat, by omega⟩
          cases hc5 : decide (k ≤ 1) with
          | false => rw [hc5, cond_false] at h; cases h
          | true =>
            rw [hc5, cond_true] at h
            have hk := of_decide_eq_true hc5
            by_cases k1 : k = 1
            · subst k1
              rw [setD_one _ _ P _ hP, Option.bind_eq_some_iff] at h
              obtain ⟨⟨m, r6⟩, h6, h⟩ := h
              obtain ⟨h6, _⟩ := smallP_num h6
              obtain ⟨e6, _, w6⟩ := numP_inv h6 (by omega) w5
              rw [Option.bind_eq_some_iff] at h
              obtain ⟨⟨xs, r7⟩, h7, h⟩ := h
              obtain ⟨e7, l7, _, w7⟩ := wordsP_inv _ h7 w6
              rw [Option.map_eq_some_iff] at h
              obtain ⟨⟨ys, r8⟩, h8, h⟩ := h
              obtain ⟨e8, l8, _, w8⟩ := wordsP_inv _ h8 w7
              cases h
              have e5 : r4 = _ := e5
              have e7 : r6 = _ := e7
              have e8 : r7 = _ := e8
              have hg : goodSet ⟨sh, xs, [], ys⟩ = true := hg
              show rem = encSet ⟨sh, xs, [], ys⟩ ++ r8
              rw [enc_targets (n := n) (P := P) (m := m) hg hP l7 rfl l8, e0, e1, e2, l3, e3, e4, e5, e6, e7, e8]
              simp only [List.append_assoc]
            · obtain rfl : k = 0 := by omega
              rw [setD_zero _ _ P _ hP, Option.bind_eq_some_iff] at h
              obtain ⟨⟨xs, r7⟩, h7, h⟩ := h
              obtain ⟨e7, l7, _, w7⟩ := wordsP_inv _ h7 w5
              rw [Option.map_eq_some_iff] at h
              obtain ⟨⟨lb, r8⟩, h8, h⟩ := h
              obtain ⟨e8, l8, w8⟩ := labelsP_inv _ h8 w7
              cases h
              have e5 : r4 = _ := e5
              have e8 : r7 = _ := e8
              have hg : goodSet ⟨sh, xs, lb, []⟩ = true := hg
              show rem = encSet ⟨sh, xs, lb, []⟩ ++ r8
              rw [enc_labels (n := n) (P := P) hg hP l7 l8, e0, e1, e2, l3, e3, e4, e5, e7, e8]
              simp only [List.append_assoc]
theorem decP_good {bs : List Int} {s : SetD} (h : decP bs = some s) : goodSet s = true ∧ setP bs = some (s, []) := by
  unfold decP at h
  split at h
  · rename_i s' hs
    cases hg : goodSet s' with
    | false => rw [hg, cond_false] at h; cases h
    | true => rw [hg, cond_true] at h; cases h; exact ⟨hg, hs⟩
  · cases h
theorem decP_inv {bs : List Int} {s : SetD} (h : decP bs = some s) (hw : Wf .u8 bs) : goodSet s = true ∧ bs = encSet s := by
  obtain ⟨h1, h2⟩ := decP_good h
  exact ⟨h1, by rw [setP_inv h2 hw h1, List.append_nil]⟩
theorem decP_enc {s : SetD} (h : goodSet s = true) : decP (encSet s) = some s := by
  have := setP_enc h []
  rw [List.append_nil] at this
  rw [decP_all this, h, cond_true]
/-- no beginning is a dataset's -/
theorem decP_cut {s : SetD} (h : goodSet s = true) (hw : Wf .u8 (encSet s)) (n : Nat) (hn : n < (encSet s).length) : decP ((encSet s).take n) = none := by
  cases hd : decP ((encSet s).take n) with
  | none => rfl
  | some t =>
    obtain ⟨g, e⟩ := decP_inv hd (hw.take n)
    have h1 := setP_enc g ((encSet s).drop n)
    rw [← e, List.take_append_drop] at h1
    have h2 := setP_enc h []
    rw [List.append_nil, h1] at h2
    have h3 : (encSet s).drop n = [] := by simpa using congrArg (fun o => o.map Prod.snd) h2
    have := congrArg List.length h3
    rw [List.length_drop, List.length_nil] at this
    omega
/-- and none with a byte behind -/
theorem decP_more {s : SetD} (h : goodSet s = true) (x : Int) (l : List Int) : decP (encSet s ++ x :: l) = none :=
  decP_left (setP_enc h (x :: l)) (by simp)
theorem encSet_wf {s : SetD} (h : s.sh.length ≤ 3) : Wf .u8 (encSet s) := by
  rw [encSet_eq s h]
  have a : ∀ {x y : List Int}, Wf .u8 x → Wf .u8 y → Wf .u8 (x ++ y) := fun hx hy z hz => (List.mem_append.1 hz).elim (hx z) (hy z)
  have b4 : ∀ l, Wf .u8 (be4L l) := fun l x hx => by
    obtain ⟨y, _, hy⟩ := List.mem_flatMap.1 hx
    exact beB_wf _ _ x hy
  have b8 : ∀ l, Wf .u8 (be8L l) := fun l x hx => by
    obtain ⟨y, _, hy⟩ := List.mem_flatMap.1 hx
    exact beB_wf _ _ x hy
  refine a (fun x hx => by simp at hx; rcases hx with rfl | rfl | rfl | rfl <;> rfl) (a (beB_wf _ _) (a (beB_wf _ _) (a (b4 _) (a (beB_wf _ _) (a ?_ (a (b8 _) (a (b4 _) (b8 _))))))))
  split
  · exact beB_wf _ _
  · exact a (beB_wf _ _) (beB_wf _ _)
theorem dR5_inv {s s' : SetD} {rem : List Int} {bad : Bool} (h : dR5 s rem bad = some s') : bad = false ∧ rem = [] ∧ goodSet s = true ∧ s = s' := by
  unfold dR5 at h
  cases bad with
  | true => simp at h
  | false =>
    cases hg : goodSet s with
    | false => rw [hg] at h; simp at h
    | true =>
      by_cases hr : 0 < rem.length
      · rw [decide_eq_true hr] at h; simp at h
      · rw [decide_eq_false hr, hg] at h
        simp only [Bool.or_self, Bool.not_true, cond_false, Option.some.injEq] at h
        exact ⟨rfl, List.eq_nil_of_length_eq_zero (by omega), rfl, h⟩
theorem dR0_inv {bs : List Int} {s : SetD} (h : dR0 bs = some s) (hw : Wf .u8 bs) : goodSet s = true ∧ bs = encSet s := by
  unfold dR0 at h
  obtain ⟨v0, r0, b0, p0⟩ : ∃ x r b, rNum 4 bs false = (x, r, b) := ⟨_, _, _, rfl⟩
  rw [p0] at h
  simp only at h
  cases c0 : (v0 == 1381188948) with
  | false => rw [c0, cond_false] at h; cases h
  | true =>
    rw [c0, cond_true, dR1] at h
    obtain rfl : v0 = 1381188948 := by simpa using c0
    obtain ⟨v1, r1, b1, p1⟩ : ∃ x r b, rNum 1 r0 b0 = (x, r, b) := ⟨_, _, _, rfl⟩
    rw [p1] at h
    simp only at h
    cases c1 : (v1 == 1) with
    | false => rw [c1, cond_false] at h; cases h
    | true =>
      rw [c1, cond_true, dR2] at h
      obtain rfl : v1 = 1 := by simpa using c1
      obtain ⟨v2, r2, b2, p2⟩ : ∃ x r b, rNum 1 r1 b1 = (x, r, b) := ⟨_, _, _, rfl⟩
      rw [p2] at h
      simp only at h
      obtain ⟨sh, r3, b3, p3⟩ : ∃ x r b, rNums v2 r2 b2 = (x, r, b) := ⟨_, _, _, rfl⟩
      rw [p3] at h
      simp only at h
      rw [dR3] at h
      obtain ⟨n, r4, b4, p4⟩ : ∃ x r b, rNum 4 r3 b3 = (x, r, b) := ⟨_, _, _, rfl⟩
      rw [p4] at h
      simp only at h
      rw [dR3b] at h
      obtain ⟨k, r5, b5, p5⟩ : ∃ x r b, rNum 1 r4 b4 = (x, r, b) := ⟨_, _, _, rfl⟩
      rw [p5] at h
      simp only at h
      have hd : ∀ {m : Nat} {r : List Int} {b : Bool}, dR3d sh n k m r b = some s → b = false ∧ shapeB sh = true ∧ k ≤ 1 ∧ dR4 sh n k m r b = some s := by
        intro m r b h
        unfold dR3d at h
        cases hb : badHead sh n k m b with
        | true => rw [hb, cond_true] at h; cases h
        | false =>
          rw [hb, cond_false] at h
          simp [badHead] at hb
          exact ⟨hb.1, hb.2.1, by omega, h⟩
      by_cases k1 : k = 1
      · subst k1
        rw [dR3c] at h
        simp only [beq_self_eq_true, cond_true] at h
        obtain ⟨m, r6, b6, p6⟩ : ∃ x r b, rNum 4 r5 b5 = (x, r, b) := ⟨_, _, _, rfl⟩
        rw [p6] at h
        simp only at h
        obtain ⟨rfl, hs, _, h⟩ := hd h
        have hp1 := (prodL_bd sh (shapeB_parts hs).2.1).1
        obtain ⟨P, hP⟩ : ∃ P : Nat, (P : Int) = prodL sh := ⟨(prodL sh).toNat, by omega⟩
        rw [dR4, show (prodL sh).toNat = P by omega] at h
        obtain ⟨xs, r7, b7, p7⟩ : ∃ x r b, rWords (n * P) r6 false = (x, r, b) := ⟨_, _, _, rfl⟩
        rw [p7] at h
        simp only [show (1 == 0) = false from rfl, cond_false] at h
        obtain ⟨ys, r8, b8, p8⟩ : ∃ x r b, rWords (n * m) r7 b7 = (x, r, b) := ⟨_, _, _, rfl⟩
        rw [p8] at h
        simp only at h
        obtain ⟨rfl, rfl, hg, rfl⟩ := dR5_inv h
        have w6 : Wf .u8 r6 := (rNum_bd p6 (rNum_bd p5 (rNum_bd p4 (rNums_bd p3 (rNum_bd p2 (rNum_bd p1 (rNum_bd p0 hw).2.1).2.1).2.1).2.1).2.1).2.1).2.1
        obtain ⟨rfl, e8, l8, _⟩ := rWords_inv p8 (rWords_bd p7 w6).2.1
        obtain ⟨_, e7, l7, _⟩ := rWords_inv p7 w6
        obtain ⟨rfl, e6, _, _⟩ := rNum_inv p6 (by omega) (rNum_bd p5 (rNum_bd p4 (rNums_bd p3 (rNum_bd p2 (rNum_bd p1 (rNum_bd p0 hw).2.1).2.1).2.1).2.1).2.1).2.1
        obtain ⟨rfl, e5, _, _⟩ := rNum_inv p5 (by omega) (rNum_bd p4 (rNums_bd p3 (rNum_bd p2 (rNum_bd p1 (rNum_bd p0 hw).2.1).2.1).2.1).2.1).2.1
        obtain ⟨rfl, e4, _, _⟩ := rNum_inv p4 (by omega) (rNums_bd p3 (rNum_bd p2 (rNum_bd p1 (rNum_bd p0 hw).2.1).2.1).2.1).2.1
        obtain ⟨rfl, e3, l3, _⟩ := rNums_inv p3 (rNum_bd p2 (rNum_bd p1 (rNum_bd p0 hw).2.1).2.1).2.1
        obtain ⟨rfl, e2, _, _⟩ := rNum_inv p2 (by omega) (rNum_bd p1 (rNum_bd p0 hw).2.1).2.1
        obtain ⟨rfl, e1, _, _⟩ := rNum_inv p1 (by omega) (rNum_bd p0 hw).2.1
        obtain ⟨_, e0, _, _⟩ := rNum_inv p0 (by omega) hw
        refine ⟨hg, ?_⟩
        rw [enc_targets (n := n) (P := P) (m := m) hg hP l7 rfl l8, e0, e1, e2, l3, e3, e4, e5, e6, e7, e8, List.append_nil]
        rfl
      · rw [dR3c, show (k == 1) = false by simp [k1], cond_false] at h
        obtain ⟨rfl, hs, hk, h⟩ := hd h
        obtain rfl : k = 0 := by omega
        have hp1 := (prodL_bd sh (shapeB_parts hs).2.1).1
        obtain ⟨P, hP⟩ : ∃ P : Nat, (P : Int) = prodL sh := ⟨(prodL sh).toNat, by omega⟩
        rw [dR4, show (prodL sh).toNat = P by omega] at h
        obtain ⟨xs, r7, b7, p7⟩ : ∃ x r b, rWords (n * P) r5 false = (x, r, b) := ⟨_, _, _, rfl⟩
        rw [p7] at h
        simp only [show (0 == 0) = true from rfl, cond_true] at h
        obtain ⟨lb, r8, b8, p8⟩ : ∃ x r b, rNums n r7 b7 = (x, r, b) := ⟨_, _, _, rfl⟩
        rw [p8] at h
        simp only at h
        obtain ⟨rfl, rfl, hg, rfl⟩ := dR5_inv h
        have w5 : Wf .u8 r5 := (rNum_bd p5 (rNum_bd p4 (rNums_bd p3 (rNum_bd p2 (rNum_bd p1 (rNum_bd p0 hw).2.1).2.1).2.1).2.1).2.1).2.1
        obtain ⟨rfl, e8, l8, _⟩ := rNums_inv p8 (rWords_bd p7 w5).2.1
        obtain ⟨_, e7, l7, _⟩ := rWords_inv p7 w5
        obtain ⟨rfl, e5, _, _⟩ := rNum_inv p5 (by omega) (rNum_bd p4 (rNums_bd p3 (rNum_bd p2 (rNum_bd p1 (rNum_bd p0 hw).2.1).2.1).2.1).2.1).2.1
        obtain ⟨rfl, e4, _, _⟩ := rNum_inv p4 (by omega) (rNums_bd p3 (rNum_bd p2 (rNum_bd p1 (rNum_bd p0 hw).2.1).2.1).2.1).2.1
        obtain ⟨rfl, e3, l3, _⟩ := rNums_inv p3 (rNum_bd p2 (rNum_bd p1 (rNum_bd p0 hw).2.1).2.1).2.1
        obtain ⟨rfl, e2, _, _⟩ := rNum_inv p2 (by omega) (rNum_bd p1 (rNum_bd p0 hw).2.1).2.1
        obtain ⟨rfl, e1, _, _⟩ := rNum_inv p1 (by omega) (rNum_bd p0 hw).2.1
        obtain ⟨_, e0, _, _⟩ := rNum_inv p0 (by omega) hw
        refine ⟨hg, ?_⟩
        rw [enc_labels (n := n) (P := P) hg hP l7 l8, e0, e1, e2, l3, e3, e4, e5, e7, e8, List.append_nil]
        rfl
theorem dR0_enc {s : SetD} (h : goodSet s = true) : dR0 (encSet s) = some s := by
  obtain ⟨h1, h2, h3, h4, h5, h6, h7, h8, h9, h10⟩ := goodSet_parts h
  obtain ⟨n, P, m, hn, hP, n1, n2, P1, P2, hx, hm, hl, hy⟩ := good_nums h
  have hd := dims_bd (shapeB_parts h1).2.1
  have hPt : (prodL s.sh).toNat = P := by omega
  by_cases hz : 0 < s.lb.length
  · obtain ⟨a1, a2⟩ := hl hz
    rw [enc_labels (n := n) (P := P) h hP hx a1, show ([82, 83, 69, 84] : List Int) = beB 1381188948 4 from rfl, dR0, rNum_enc _ _ _ _ (by omega) (by omega)]
    simp only [beq_self_eq_true, cond_true]
    rw [dR1, rNum_enc _ _ _ _ (by omega) (by omega)]
    simp only [beq_self_eq_true, cond_true]
    rw [dR2, rNum_enc _ _ _ _ (by omega) (by omega)]
    simp only
    rw [rNums_enc _ _ _ (fun x hx => by have := hd x hx; omega)]
    simp only
    rw [dR3, rNum_enc _ _ _ _ (by omega) (by omega)]
    simp only
    rw [dR3b, rNum_enc _ _ _ _ (by omega) (by omega)]
    simp only
    rw [dR3c]
    simp only [show (0 == 1) = false from rfl, cond_false]
    rw [dR3d, show badHead s.sh n 0 0 false = false from by simp [badHead, h1]; omega, cond_false, dR4, hPt, ← hx, rWords_enc _ _ _ h7]
    simp only [show (0 == 0) = true from rfl, cond_true]
    have hlb := rNums_enc s.lb [] false (fun x hx => by have := label_bd (List.all_eq_true.1 (h9 hz).2.2 x hx); omega)
    rw [List.append_nil] at hlb
    rw [← a1, hlb]
    simp only
    have es : (⟨s.sh, s.x, s.lb, []⟩ : SetD) = s := by rw [← a2]
    rw [es, dR5, h]
    rfl
  · obtain ⟨a1, a2, a3, a4⟩ := hy hz
    rw [enc_targets (n := n) (P := P) (m := m) h hP hx a1 a2, show ([82, 83, 69, 84] : List Int) = beB 1381188948 4 from rfl, dR0, rNum_enc _ _ _ _ (by omega) (by omega)]
    simp only [beq_self_eq_true, cond_true]
    rw [dR1, rNum_enc _ _ _ _ (by omega) (by omega)]
    simp only [beq_self_eq_true, cond_true]
    rw [dR2, rNum_enc _ _ _ _ (by omega) (by omega)]
    simp only
    rw [rNums_enc _ _ _ (fun x hx => by have := hd x hx; omega)]
    simp only
    rw [dR3, rNum_enc _ _ _ _ (by omega) (by omega)]
    simp only
    rw [dR3b, rNum_enc _ _ _ _ (by omega) (by omega)]
    simp only
    rw [dR3c]
    simp only [beq_self_eq_true, cond_true]
    rw [rNum_enc _ _ _ _ (by omega) (by omega)]
    simp only
    rw [dR3d, show badHead s.sh n 1 m false = false from by simp [badHead, h1]; omega, cond_false, dR4, hPt, ← hx, rWords_enc _ _ _ h7]
    simp only [show (1 == 0) = false from rfl, cond_false]
    have hyy := rWords_enc s.y [] false h8
    rw [List.append_nil] at hyy
    rw [← a2, hyy]
    simp only
    have es : (⟨s.sh, s.x, [], s.y⟩ : SetD) = s := by rw [← a1]
    rw [es, dR5, h]
    rfl
/-- both readers tell the same -/
theorem dR0_eq (bs : List Int) (hw : Wf .u8 bs) : dR0 bs = decP bs := by
  cases h : dR0 bs with
  | some s =>
    obtain ⟨h1, h2⟩ := dR0_inv h hw
    rw [h2, decP_enc h1]
  | none =>
    cases h' : decP bs with
    | none => rfl
    | some s =>
      obtain ⟨h1, h2⟩ := decP_inv h' hw
      rw [h2, dR0_enc h1] at h
      cases h
end Go.Proofs.Ytjhejpeklppmbaa
