/-
  A DISK'S LAWS: what is held between two calls; what calls leave of a disk whose power never goes off.
-/
import Derived.Test.YtejmbhckfdfoeaaDListW
import Derived.Test.YtejmbhckfdfoeaaDWakes
set_option linter.unusedVariables false
set_option linter.unusedSimpArgs false
namespace Go.Proofs.Ytejmbhckfdfoeaa
open Go.RowKit Go.Maps
/-- between two calls: a disk; a box that is read; the script's box -/
structure LawAt (w0 : World) (scs : Array Value) (B p bs bf ab : Nat) (acs : Array Value) (s : DSt) (W : World) : Prop where
  d : ∃ cv vs, DRepr B W p bs bf cv vs s
  a : Box W ab 37 acs
  s : Box W w0.heap.size 25 scs
  b : Below w0.heap.size w0 W
  hB : w0.heap.size < B
theorem LawAt.base {w0 : World} {scs : Array Value} {B p bs bf ab : Nat} {acs : Array Value} {s : DSt} {W : World} (h : LawAt w0 scs B p bs bf ab acs s W) : B ≤ W.heap.size := by
  obtain ⟨cv, vs, hd⟩ := h.d
  exact Nat.le_of_lt hd.baseLt
theorem LawAt.next {w0 : World} {scs : Array Value} {B p bs bf ab : Nat} {acs : Array Value} {s : DSt} {W W' : World} (h : LawAt w0 scs B p bs bf ab acs s W) (hb : Below W.heap.size W W') : LawAt w0 scs B p bs bf ab acs s W' := by
  obtain ⟨cv, vs, hd⟩ := h.d
  exact ⟨⟨cv, vs, hd.next hb h.base⟩, h.a.next hb, h.s.next hb, h.b.trans (hb.mono h.b.size), h.hB⟩
theorem LawAt.same {w0 : World} {scs : Array Value} {B p bs bf ab : Nat} {acs : Array Value} {s : DSt} {W W' : World} (h : LawAt w0 scs B p bs bf ab acs s W) (hs : Same W W') : LawAt w0 scs B p bs bf ab acs s W' := h.next (hs.below _)
theorem LawAt.step {w0 : World} {scs : Array Value} {B p bs bf ab : Nat} {acs : Array Value} {s s' : DSt} {W W' : World} (h : LawAt w0 scs B p bs bf ab acs s W) (hs : Step B W W') (hd : ∃ cv vs, DRepr B W' p bs bf cv vs s') : LawAt w0 scs B p bs bf ab acs s' W' :=
  ⟨hd, h.a.step hs rfl, h.s.below hs.below h.hB, h.b.trans (hs.below.mono (Nat.le_of_lt h.hB)), h.hB⟩
/-- the power is on, and the counts are small -/
structure Lim (s : DSt) (k : Nat) : Prop where
  dead : s.dead = false
  off : s.off = 0
  st : s.strokes ≤ k
  ch : s.chs.length ≤ k
  many : s.seen.length ≤ 16
theorem Lim.mono {s : DSt} {k m : Nat} (h : Lim s k) (hm : k ≤ m) : Lim s m := ⟨h.dead, h.off, by have := h.st; omega, by have := h.ch; omega, h.many⟩
theorem Lim.stroke {s : DSt} {k : Nat} (h : Lim s k) : Lim (strokeS s) (k + 1) := ⟨offB_zero h.off, h.off, by have := h.st; simp only [strokeS]; omega, Nat.le_succ_of_le h.ch, h.many⟩
theorem Lim.write {s : DSt} {k : Nat} (h : Lim s k) (hr : Ris s.seen) (hn : s.seen.length ≤ 15) (x : List UInt8) (f : Nat) (xs : List Int) : Lim (writeS (strokeS s) x f xs) (k + 1) := by
  refine ⟨offB_zero h.off, h.off, by have := h.st; simp only [writeS, chgS, addS, strokeS]; omega, by have := h.ch; simp [writeS, chgS, addS, strokeS]; omega, ?_⟩
  show (lput s.seen x f).length ≤ 16
  rw [lput_length hr]
  split <;> omega
theorem Lim.rename {s : DSt} {k : Nat} (h : Lim s k) (hr : Ris s.seen) (hn : s.seen.length ≤ 15) (a b : List UInt8) (f : Nat) : Lim (chgS (strokeS s) (.mv a b f)) (k + 1) := by
  refine ⟨offB_zero h.off, h.off, by have := h.st; simp only [chgS, strokeS]; omega, by have := h.ch; simp [chgS, strokeS]; omega, ?_⟩
  show (lput (ldel s.seen a) b f).length ≤ 16
  have h1 : (ldel s.seen a).length ≤ s.seen.length := List.length_filter_le _ _
  have h2 := lput_length (hr.del a) b f
  rw [h2]
  cases (lget (ldel s.seen a) b).isSome
  · simp; omega
  · simp; omega
theorem Lim.remove {s : DSt} {k : Nat} (h : Lim s k) (x : List UInt8) : Lim (chgS (strokeS s) (.del x)) (k + 1) := by
  refine ⟨offB_zero h.off, h.off, by have := h.st; simp only [chgS, strokeS]; omega, by have := h.ch; simp [chgS, strokeS]; omega, ?_⟩
  show (ldel s.seen x).length ≤ 16
  exact Nat.le_trans (List.length_filter_le _ _) h.many
theorem there_seen {s : DSt} (x : List UInt8) : thereB (s.seen.map (fdOf s)) x = (lget s.seen x).isSome := by
  unfold thereB lget
  induction s.seen with
  | nil => rfl
  | cons q r ih =>
    rw [List.map_cons, List.any_cons, List.find?_cons, ih]
    by_cases h : q.1 = x
    · simp [h, fdOf]
    · have : (q.1 == x) = false := by simpa using h
      simp [this, fdOf]
theorem seen_rise {s : DSt} (hr : Ris s.seen) {i j : Nat} (h : i < j) (hj : j < s.seen.length) : (fnth (s.seen.map (fdOf s)) i).nm < (fnth (s.seen.map (fdOf s)) j).nm := by
  have := List.pairwise_iff_getElem.1 hr i j (by omega) hj h
  simpa [fnth, fdOf, List.getD_eq_getElem?_getD, show i < s.seen.length by omega, hj] using this
theorem actsTo_mono (l : List ActD) {k n : Nat} (h : k < n) : (anth l k).da.length + (anth l k).pk.length ≤ actsTo l n := by
  induction n with
  | zero => omega
  | succ n ih =>
    rw [actsTo]
    rcases Nat.lt_or_ge k n with hk | hk
    · have := ih hk; omega
    · have : k = n := by omega
      subst this
      omega
theorem heavyB_no {fs : List FileD} {l : List ActD} (h : heavyB fs l = false) : actsTo l (min l.length 25) ≤ 3000 ∧ filesTo fs (min fs.length 100) ≤ 3000 ∧ fs.length ≤ 100 := by
  rw [heavyB, Bool.or_eq_false_iff, decide_eq_false_iff_not, decide_eq_false_iff_not] at h
  omega
theorem mayB_data {fs : List FileD} (h : mayB fs = true) : ∀ f ∈ fs, f.da.length ≤ 4194304 := by
  intro f hf
  rw [mayB, Bool.and_eq_true] at h
  obtain ⟨k, hk, rfl⟩ := List.mem_iff_getElem.1 hf
  have := okTo_at h.2 hk
  simp only [okAt, Bool.and_eq_true, decide_eq_true_eq] at this
  have h2 := this.2.1
  rwa [fnth, List.getD_eq_getElem?_getD, List.getElem?_eq_getElem hk] at h2
theorem SeenIs.lim {s : DSt} {fs : List FileD} (h : SeenIs s fs) (ho : s.off = 0) (hl : fs.length ≤ 16) : Lim s 0 :=
  ⟨h.dead, ho, by rw [h.strokes]; exact Int.le_refl _, by rw [h.chs]; exact Nat.le_refl _, by rw [h.length]; exact hl⟩
end Go.Proofs.Ytejmbhckfdfoeaa
