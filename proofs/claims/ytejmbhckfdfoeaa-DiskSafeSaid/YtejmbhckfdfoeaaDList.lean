/-
  NAMES AND FILES as a rising list; as a map's datum: plain laws.
-/
import Derived.Maps.Views
import Derived.Maps.OwnSet
import Derived.Sort.KeysCollected
import Derived.Lib.Hide
set_option linter.unusedVariables false
set_option linter.unusedSimpArgs false
namespace Go.Proofs.Ytejmbhckfdfoeaa
open Go.Maps
abbrev NM := List (List UInt8 × Nat)
def lget (l : NM) (x : List UInt8) : Option Nat := (l.find? fun p => p.1 == x).map (·.2)
def ldel (l : NM) (x : List UInt8) : NM := l.filter fun p => !(p.1 == x)
def lins (x : List UInt8) (i : Nat) : NM → NM
  | [] => [(x, i)]
  | p :: r => if p.1 < x then p :: lins x i r else (x, i) :: p :: r
def lput (l : NM) (x : List UInt8) (i : Nat) : NM := lins x i (ldel l x)
/-- names rise -/
def Ris (l : NM) : Prop := l.Pairwise fun p q => p.1 < q.1
theorem Ris.nil : Ris [] := List.Pairwise.nil
theorem lins_mem {x : List UInt8} {i : Nat} {p : List UInt8 × Nat} : ∀ {l : NM}, p ∈ lins x i l ↔ p = (x, i) ∨ p ∈ l
  | [] => by simp [lins]
  | q :: r => by
    unfold lins
    split
    · simp only [List.mem_cons, lins_mem (l := r)]
      constructor
      · rintro (h | h | h) <;> simp [h]
      · rintro (h | h | h) <;> simp [h]
    · simp
theorem lins_length (x : List UInt8) (i : Nat) : ∀ l : NM, (lins x i l).length = l.length + 1
  | [] => rfl
  | q :: r => by
    unfold lins
    split
    · simp [lins_length x i r]
    · simp
theorem nm_lt_of {x y : List UInt8} (h : ¬ y < x) (hne : y ≠ x) : x < y := by
  rcases Decidable.em (x < y) with h' | h'
  · exact h'
  · exact absurd (List.le_antisymm (List.not_lt.1 h') (List.not_lt.1 h)) hne
theorem nm_trans {x y z : List UInt8} (h : x < y) (k : y < z) : x < z := List.lt_trans h k
theorem nm_irr (x : List UInt8) : ¬ x < x := List.lt_irrefl x
theorem Ris.ins {x : List UInt8} {i : Nat} : ∀ {l : NM}, Ris l → (∀ p ∈ l, p.1 ≠ x) → Ris (lins x i l)
  | [], _, _ => by simp [lins, Ris]
  | q :: r, h, hne => by
    obtain ⟨h1, h2⟩ := List.pairwise_cons.1 h
    unfold lins
    split
    · rename_i hlt
      refine List.pairwise_cons.2 ⟨fun p hp => ?_, Ris.ins h2 fun p hp => hne p (List.mem_cons_of_mem _ hp)⟩
      rcases lins_mem.1 hp with rfl | hp
      · exact hlt
      · exact h1 p hp
    · rename_i hlt
      have hxq := nm_lt_of hlt (hne q (List.mem_cons_self ..))
      refine List.pairwise_cons.2 ⟨fun p hp => ?_, h⟩
      rcases List.mem_cons.1 hp with rfl | hp
      · exact hxq
      · exact nm_trans hxq (h1 p hp)
theorem Ris.del {l : NM} (h : Ris l) (x : List UInt8) : Ris (ldel l x) := h.filter _
theorem ldel_ne {l : NM} {x : List UInt8} {p : List UInt8 × Nat} (h : p ∈ ldel l x) : p.1 ≠ x := by
  have := (List.mem_filter.1 h).2
  simpa using this
theorem Ris.put {l : NM} (h : Ris l) (x : List UInt8) (i : Nat) : Ris (lput l x i) := Ris.ins (h.del x) fun p hp => ldel_ne hp
theorem lget_some {l : NM} (h : Ris l) {x : List UInt8} {i : Nat} : lget l x = some i ↔ (x, i) ∈ l := by
  unfold lget
  induction l with
  | nil => simp
  | cons q r ih =>
    obtain ⟨h1, h2⟩ := List.pairwise_cons.1 h
    rw [List.find?_cons]
    by_cases hq : q.1 = x
    · simp only [hq, beq_self_eq_true, Option.map_some, Option.some.injEq, List.mem_cons]
      constructor
      · rintro rfl; left; rw [← hq]
      · rintro (e | e)
        · rw [← e]
        · have := h1 _ e; rw [hq] at this; exact absurd this (nm_irr x)
    · have : (q.1 == x) = false := by simpa using hq
      simp only [this, List.mem_cons]
      rw [ih h2]
      constructor
      · exact Or.inr
      · rintro (e | e)
        · exact absurd (by rw [← e]) hq
        · exact e
theorem lget_none {l : NM} {x : List UInt8} : lget l x = none ↔ ∀ p ∈ l, p.1 ≠ x := by
  unfold lget
  simp
theorem lget_mem {l : NM} {x : List UInt8} {i : Nat} (h : lget l x = some i) : (x, i) ∈ l := by
  unfold lget at h
  cases hf : l.find? fun p => p.1 == x with
  | none => rw [hf] at h; cases h
  | some p =>
    rw [hf] at h
    simp at h
    have h1 := List.find?_some hf
    have h2 := List.mem_of_find?_eq_some hf
    simp at h1
    subst h h1
    exact h2
theorem lget_del_same (l : NM) (x : List UInt8) : lget (ldel l x) x = none := lget_none.2 fun p hp => ldel_ne hp
theorem lget_del_other {l : NM} (h : Ris l) {x y : List UInt8} (hne : y ≠ x) : lget (ldel l x) y = lget l y := by
  apply Option.ext
  intro i
  rw [lget_some (h.del x), lget_some h]
  simp [ldel, hne]
theorem lget_put_same {l : NM} (h : Ris l) (x : List UInt8) (i : Nat) : lget (lput l x i) x = some i := (lget_some (h.put x i)).2 (lins_mem.2 (.inl rfl))
theorem lget_put_other {l : NM} (h : Ris l) {x y : List UInt8} (hne : y ≠ x) (i : Nat) : lget (lput l x i) y = lget l y := by
  apply Option.ext
  intro j
  rw [lget_some (h.put x i), lget_some h, lput, lins_mem]
  simp [ldel, hne]
theorem ldel_length {l : NM} (h : Ris l) (x : List UInt8) : (ldel l x).length + (lget l x).isSome.toNat = l.length := by
  induction l with
  | nil => simp [ldel, lget]
  | cons q r ih =>
    obtain ⟨h1, h2⟩ := List.pairwise_cons.1 h
    by_cases hq : q.1 = x
    · have hn : lget r x = none := lget_none.2 fun p hp e => by have := h1 p hp; rw [hq, e] at this; exact nm_irr x this
      have := ih h2
      rw [hn] at this
      simp only [ldel, lget, List.filter_cons, List.find?_cons, hq, beq_self_eq_true, Bool.not_true, List.length_cons] at this ⊢
      simpa using this
    · have hb : (q.1 == x) = false := by simpa using hq
      have := ih h2
      simp only [ldel, lget, List.filter_cons, List.find?_cons, hb, Bool.not_false, List.length_cons, if_true] at this ⊢
      omega
theorem lput_length {l : NM} (h : Ris l) (x : List UInt8) (i : Nat) : (lput l x i).length = if (lget l x).isSome then l.length else l.length + 1 := by
  have := ldel_length h x
  rw [lput, lins_length]
  cases hg : (lget l x).isSome with
  | true => rw [hg] at this; simp at this ⊢; omega
  | false => rw [hg] at this; simp at this ⊢; omega
theorem nm_key (x : List UInt8) (hx : x.length ≤ maxLen) : WideAt.IsKeyLit (.string x) := trivial
/-! ### as a datum -/
abbrev nilD : DataW Unit := .lit (.int .i64 (-1))
abbrev idD (b : Nat) : DataW Unit := .lit (.int .i64 b)
def optD : Option Nat → DataW Unit
  | some b => idD b
  | none => nilD
structure DRep (D : DataW Unit) (l : NM) : Prop where
  tidy : Tidy D
  ris : Ris l
  at_ : ∀ x, D.atKey (.string x) nilD = optD (lget l x)
  has_ : ∀ x, has D (.string x) = (lget l x).isSome
  size_ : size D = l.length
theorem DRep.nil : DRep (.map []) [] := ⟨tidy_empty, Ris.nil, fun _ => rfl, fun _ => rfl, rfl⟩
theorem str_ne {x y : List UInt8} (h : y ≠ x) : (Lit.string y) ≠ .string x := fun e => h (by simpa using e)
theorem DRep.put {D : DataW Unit} {l : NM} (h : DRep D l) (x : List UInt8) (b : Nat) (hk : WideAt.IsKeyLit (.string x)) : DRep (D.put (.string x) (idD b)) (lput l x b) := by
  refine ⟨h.tidy.put hk _, h.ris.put x b, fun y => ?_, fun y => ?_, ?_⟩
  · by_cases hy : y = x
    · subst hy; rw [atKey_put_same h.tidy.isMap hk, lget_put_same h.ris]; rfl
    · rw [atKey_put_other (str_ne hy), lget_put_other h.ris hy, h.at_]
  · by_cases hy : y = x
    · subst hy; rw [has_put_same h.tidy.isMap hk, lget_put_same h.ris]; rfl
    · rw [has_put_other (str_ne hy), lget_put_other h.ris hy, h.has_]
  · rw [size_put h.tidy, lput_length h.ris, h.has_, h.size_]
theorem DRep.del {D : DataW Unit} {l : NM} (h : DRep D l) (x : List UInt8) : DRep (D.del (.string x)) (ldel l x) := by
  refine ⟨h.tidy.del _, h.ris.del x, fun y => ?_, fun y => ?_, ?_⟩
  · by_cases hy : y = x
    · subst hy; rw [atKey_del_same, lget_del_same]; rfl
    · rw [atKey_del_other (str_ne hy), lget_del_other h.ris hy, h.at_]
  · by_cases hy : y = x
    · subst hy; rw [has_del_same, lget_del_same]; rfl
    · rw [has_del_other (str_ne hy), lget_del_other h.ris hy, h.has_]
  · have h1 := size_del (k := .string x) h.tidy
    have h2 := ldel_length h.ris x
    rw [h.has_, h.size_] at h1
    cases hg : (lget l x).isSome with
    | true => rw [hg] at h1 h2; simp at h1 h2; omega
    | false => rw [hg] at h1 h2; simp at h1 h2; omega
end Go.Proofs.Ytejmbhckfdfoeaa
