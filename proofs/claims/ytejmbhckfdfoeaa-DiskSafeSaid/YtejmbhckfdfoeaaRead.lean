/-
  WHAT AN ARGUMENT THAT CAN BE READ GIVES THE WALK, for any program: slices of integers, of structs, of slices; and the form's own reach.
-/
import Derived.Test.YtejmbhckfdfoeaaKit
import Derived.ProofKit
import Derived.OpenShut
import Derived.Deep.Slices
import Derived.SizedLaws
set_option linter.unusedVariables false
set_option linter.unusedSimpArgs false
namespace Go.Proofs.Ytejmbhckfdfoeaa
open Go.RowKit Go.ChangeShapes Go.WideShapes
/-- these cells read, at this type, as a datum of which no part is beyond the reach -/
def RB {H : Type} (enc : TypeId × Value → H) (P : Program) (w : World) (t : TypeId) (cs : List Value) : Prop :=
  ∃ (fuel : Nat) (d : DataW H) (pl : List MemPlace), DataW.trod enc P w 0 (fun _ => true) true fuel t cs = some (d, pl) ∧ ∀ n ∈ d.weights P t, n ≤ reachBytes
theorem weightsAll_mem {H : Type} {P : Program} {e : TypeId} {l : List (DataW H)} {d : DataW H} (h : d ∈ l) : ∀ n ∈ d.weights P e, n ∈ DataW.weightsAll P e l := by
  induction l with
  | nil => cases h
  | cons x l ih =>
    intro n hn
    simp only [DataW.weightsAll, List.mem_append]
    rcases List.mem_cons.1 h with rfl | h
    · exact .inl hn
    · exact .inr (ih h n hn)
theorem RB.slice {H : Type} {enc : TypeId × Value → H} {P : Program} {w : World} {t e : TypeId} {v : Value} (h : RB enc P w t [v]) (ht : P.underlying t = some (.slice e)) :
    ∃ o len cap, v = .slice o len cap ∧ len * P.bytesOf e ≤ reachBytes ∧ cap * P.bytesOf e ≤ reachBytes ∧ len ≤ cap ∧ ∀ i, i < len → ∃ a cs, o = some a ∧ w.cells? 0 (a.add (i * P.cellsOf e)) (P.cellsOf e) = some cs ∧ RB enc P w e cs := by
  obtain ⟨fuel, d, pl, h, hw⟩ := h
  rcases Deep.open_slice ht h with ⟨hcs, _⟩ | ⟨a, len, cap, m, n, D, Pl, hcs, _, hl, hm, hmm, hx, hel⟩
  · simp at hcs
    subst hcs
    exact ⟨none, 0, 0, rfl, by simp, by simp, by simp, fun i hi => absurd hi (Nat.not_lt_zero _)⟩
  · simp at hcs hmm hx
    subst hcs
    obtain ⟨rfl, rfl⟩ := hx
    subst hmm
    have hk : m * P.bytesOf e ≤ reachBytes := by
      have := hw ((len + (m - len)) * P.bytesOf e) (by simp [DataW.weights, ht])
      rwa [show len + (m - len) = m by omega] at this
    refine ⟨some a, len, m, rfl, Nat.le_trans (Nat.mul_le_mul_right _ hl) hk, hk, hl, fun i hi => ?_⟩
    obtain ⟨cs', h1, h2⟩ := hel i (by omega)
    refine ⟨a, cs', rfl, h1, n, D i, Pl i, h2, fun n hn => hw n ?_⟩
    simp only [DataW.weights, ht, List.mem_cons, List.mem_append]
    exact .inr (.inl (weightsAll_mem (List.mem_map.2 ⟨i, List.mem_range.2 hi, rfl⟩) n hn))
theorem cells_at {w : World} {a : Addr} {n : Nat} {cs : List Value} (h : w.cells? 0 a n = some cs) (hn : 0 < n) :
    ∃ b off, a = ⟨b, off, none⟩ ∧ cs.length = n ∧ ∀ j v, cs[j]? = some v → w.cell? ⟨b, off + j, none⟩ = some v := by
  obtain ⟨_, hl, hc⟩ := World.cells?_some h
  obtain ⟨b, off, spot⟩ := a
  have h0 := hc 0 hn
  have hspot : spot = none := by
    obtain ⟨v, hv⟩ : ∃ v, cs[0]? = some v := ⟨cs[0], List.getElem?_eq_getElem (by omega)⟩
    rw [hv] at h0
    simpa [Addr.add] using World.cell?_spot h0
  subst hspot
  refine ⟨b, off, rfl, hl, fun j v hj => ?_⟩
  have hjl : j < cs.length := (List.getElem?_eq_some_iff.1 hj).1
  have := hc j (by omega)
  rw [hj] at this
  simpa [Addr.add_lit] using this
theorem RB.int {H : Type} {enc : TypeId × Value → H} {P : Program} {w : World} {t : TypeId} {K : IntKind} {v : Value} (h : RB enc P w t [v]) (ht : P.underlying t = some (.int K)) :
    ∃ x, v = .int K x ∧ (Lit.int K x).wf = true := by
  obtain ⟨fuel, d, pl, h, _⟩ := h
  obtain ⟨x, e, _, hwf⟩ := DataW.trod_int ht h
  simp at e
  exact ⟨x, e, hwf⟩
theorem RB.ints {H : Type} {enc : TypeId × Value → H} {P : Program} {w : World} {t e : TypeId} {K : IntKind} {v : Value} (h : RB enc P w t [v]) (ht : P.underlying t = some (.slice e)) (he : P.underlying e = some (.int K)) (hc : P.cellsOf e = 1) :
    ∃ xs, Rd w K v xs ∧ Wf K xs ∧ xs.length * P.bytesOf e ≤ reachBytes := by
  obtain ⟨o, len, cap, rfl, hr, _, _, hel⟩ := h.slice ht
  have key : ∀ i, i < len → ∃ x : Int, (Lit.int K x).wf = true ∧ ∃ b off, o = some ⟨b, off, none⟩ ∧ w.cell? ⟨b, off + i, none⟩ = some (.int K x) := fun i hi => by
    obtain ⟨a, cs, rfl, h1, h2⟩ := hel i hi
    rw [hc, Nat.mul_one] at h1
    obtain ⟨b, off, ha, hl, hcc⟩ := cells_at h1 (by omega)
    match cs, hl with
    | [u], _ =>
      obtain ⟨x, rfl, hx⟩ := h2.int he
      obtain ⟨b', off', spot⟩ := a
      have hcell := hcc 0 _ rfl
      unfold Addr.add at ha
      split at ha
      · simp at ha
        obtain ⟨rfl, rfl, rfl⟩ := ha
        subst_vars
        exact ⟨x, hx, _, _, rfl, by simpa using hcell⟩
      · simp at ha
        obtain ⟨rfl, rfl⟩ := ha
        cases spot with
        | none => exact ⟨x, hx, _, _, rfl, by simpa using hcell⟩
        | some s =>
          exfalso
          obtain ⟨a0, cs0, e0, h10, h20⟩ := hel 0 (by omega)
          simp at e0
          subst e0
          rw [hc, Nat.mul_one] at h10
          obtain ⟨_, _, ha0, _⟩ := cells_at h10 (by omega)
          simp [Addr.add] at ha0
  obtain ⟨f, hf⟩ := Deep.choose_lt (α := Int) key
  refine ⟨(List.range len).map f, ?_, fun x hx => ?_, by simpa using hr⟩
  · refine ⟨o, cap, by simp, fun j hj => ?_⟩
    have hj' : j < len := by simpa using hj
    obtain ⟨_, b, off, ho, hcell⟩ := hf j hj'
    refine ⟨b, off, ho, ?_⟩
    rw [hcell, nth_eq _ _ hj]
    simp
  · obtain ⟨i, hi, rfl⟩ := List.mem_map.1 hx
    exact (hf i (List.mem_range.1 hi)).1
theorem weightsEach_mem {H : Type} {P : Program} {ts : List TypeId} {ds : List (DataW H)} {j : Nat} {t : TypeId} {d : DataW H} (h1 : ts[j]? = some t) (h2 : ds[j]? = some d) : ∀ n ∈ d.weights P t, n ∈ DataW.weightsEach P ts ds :=
  DataW.weights_mem_each h1 h2
/-- field number i of a struct -/
theorem RB.field {H : Type} {enc : TypeId × Value → H} {P : Program} {w : World} {t : TypeId} {cs : List Value} {fs : Array Field} (h : RB enc P w t cs) (ht : P.underlying t = some (.struct fs)) :
    cs.length = P.cellsOf t ∧ ∀ (i : Nat) (f : Field), fs[i]? = some f → RB enc P w f.type ((cs.drop f.offset).take (P.cellsOf f.type)) := by
  obtain ⟨fuel, d, pl, h, hw⟩ := h
  obtain ⟨xs, n, rfl, hx, hl, hxl, hf⟩ := DataW.trod_struct ht h
  refine ⟨hl, fun i f hi => ?_⟩
  have hk := hf i f hi
  have hil : i < xs.length := by rw [hxl]; exact (Array.getElem?_eq_some_iff.1 hi).1
  rw [List.getElem?_eq_getElem hil] at hk
  refine ⟨n, xs[i].1, xs[i].2, hk, fun n hn => hw n ?_⟩
  simp only [Prod.mk.injEq] at hx
  rw [hx.1]
  simp only [DataW.weights, ht]
  refine weightsEach_mem (j := i) (t := f.type) (d := xs[i].1) ?_ ?_ n hn
  · rw [List.getElem?_map]; simp [hi]
  · simp [List.getElem?_eq_getElem hil]
/-- a slice of elements of so many cells each, opened -/
theorem RB.rows {H : Type} {enc : TypeId × Value → H} {P : Program} {w : World} {t e : TypeId} {v : Value} (h : RB enc P w t [v]) (ht : P.underlying t = some (.slice e)) (hc : 0 < P.cellsOf e) :
    ∃ o len cap, v = .slice o len cap ∧ len * P.bytesOf e ≤ reachBytes ∧ ∀ i, i < len → ∃ b off cs, o = some ⟨b, off, none⟩ ∧ cs.length = P.cellsOf e ∧ RB enc P w e cs ∧ ∀ j v, cs[j]? = some v → w.cell? ⟨b, off + i * P.cellsOf e + j, none⟩ = some v := by
  obtain ⟨o, len, cap, rfl, hr, _, _, hel⟩ := h.slice ht
  refine ⟨o, len, cap, rfl, hr, fun i hi => ?_⟩
  obtain ⟨a, cs, rfl, h1, h2⟩ := hel i hi
  obtain ⟨a0, cs0, e0, h10, h20⟩ := hel 0 (by omega)
  simp at e0
  subst e0
  rw [Nat.zero_mul] at h10
  obtain ⟨b, off, ha, _⟩ := cells_at h10 hc
  have ha' : a = ⟨b, off, none⟩ := by simpa [Addr.add] using ha
  subst ha'
  rw [Addr.add_lit] at h1
  obtain ⟨b', off', ha, hl, hcc⟩ := cells_at h1 hc
  simp at ha
  obtain ⟨rfl, rfl⟩ := ha
  exact ⟨b, off, cs, rfl, hl, h2, hcc⟩
end Go.Proofs.Ytejmbhckfdfoeaa
