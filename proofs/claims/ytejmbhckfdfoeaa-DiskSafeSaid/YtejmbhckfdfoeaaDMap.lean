/-
  A MAP FROM NAMES TO FILES in a world: what its block is good for.
-/
import Derived.Test.YtejmbhckfdfoeaaDFiles
import Derived.Test.YtejmbhckfdfoeaaDList
import Derived.Maps.OwnOps
import Derived.OwnWalk
set_option linter.unusedVariables false
set_option linter.unusedSimpArgs false
namespace Go.Proofs.Ytejmbhckfdfoeaa
open Go.RowKit Go.Maps
def ptrV : Option Nat → Value
  | some b => .pointer (some ⟨b, 0, none⟩)
  | none => .pointer none
/-- how a pointer to a file reads -/
def ptrElem : Value → Option (DataW Unit × List MemPlace)
  | .pointer (some a) => if a.off = 0 ∧ a.spot = none then some (idD a.block, []) else none
  | .pointer none => some (nilD, [])
  | _ => none
theorem ptrElem_mk (o : Option Nat) : ptrElem (ptrV o) = some (optD o, []) := by cases o <;> simp [ptrElem, ptrV, optD]
theorem ptrElem_inv {v : Value} {o : Option Nat} {ps : List MemPlace} (h : ptrElem v = some (optD o, ps)) : v = ptrV o := by
  unfold ptrElem at h
  split at h
  · rename_i a
    split at h
    · rename_i hc
      obtain ⟨blk, off, spot⟩ := a
      simp at hc
      obtain ⟨rfl, rfl⟩ := hc
      cases o with
      | none => simp [optD] at h
      | some b =>
        simp [optD] at h
        obtain ⟨h, _⟩ := h
        have : blk = b := by omega
        subst this
        rfl
    · cases h
  · cases o with
    | none => rfl
    | some b => simp [optD] at h
  · cases h
abbrev keyed : Keyed Try.prog 9 := string_keyed Try.underlying9
theorem keyOf_nm (x : List UInt8) (hx : x.length ≤ maxLen) : keyOf Try.prog 9 (.string ⟨x.toArray⟩) = some (.string x) := by
  simp [keyOf, Try.underlying9, mapKey, hx, ByteArray.size]
theorem zero_ptr (w : World) : (zeroValue 66).run Try.prog w = .ok (.pointer none) w := by kernel_rfl
/-- block b is a map that reads as this list -/
structure MapRep (w : World) (b : Nat) (l : NM) : Prop where
  ex : ∃ D, w.ownsMap Try.prog 9 ptrElem b l.length D ∧ DRep D l
theorem own_atSize {w : World} {P : Program} {k : TypeId} {R : Value → Option (DataW Unit × List MemPlace)} {b n : Nat} {D : DataW Unit} (h : w.ownsMap P k R b n D) : w.ownsMap P k R b (size D) D := by
  obtain ⟨es, clock, hb, F, hs, rfl⟩ := h
  exact ⟨es, clock, hb, F, by rw [size_eq, length_sorted]; simp, rfl⟩
theorem MapRep.of {w : World} {b n : Nat} {l : NM} {D : DataW Unit} (h : w.ownsMap Try.prog 9 ptrElem b n D) (hD : DRep D l) : MapRep w b l := ⟨⟨D, by rw [← hD.size_]; exact own_atSize h, hD⟩⟩
theorem MapRep.made (w : World) : MapRep (w.alloc (.map #[] 0)) w.heap.size [] := MapRep.of (World.ownsMap_made w _ _ _) DRep.nil
theorem MapRep.lt {w : World} {b : Nat} {l : NM} (h : MapRep w b l) : b < w.heap.size := by
  obtain ⟨D, ho, _⟩ := h.ex
  exact ho.lt
theorem MapRep.ris {w : World} {b : Nat} {l : NM} (h : MapRep w b l) : Ris l := by
  obtain ⟨D, _, hD⟩ := h.ex
  exact hD.ris
theorem MapRep.isMap {w : World} {b : Nat} {l : NM} (h : MapRep w b l) : ∃ es c, w.heap[b]? = some (.map es c) := by
  obtain ⟨D, ⟨es, c, hb, _⟩, _⟩ := h.ex
  exact ⟨es, c, hb⟩
theorem MapRep.block {w w' : World} {b : Nat} {l : NM} (h : MapRep w b l) (hb : w'.heap[b]? = w.heap[b]?) : MapRep w' b l := by
  obtain ⟨D, ⟨es, c, h1, h2⟩, hD⟩ := h.ex
  exact ⟨⟨D, ⟨es, c, hb.trans h1, h2⟩, hD⟩⟩
theorem MapRep.below {w w' : World} {b C : Nat} {l : NM} (h : MapRep w b l) (hB : Below C w w') (hC : b < C) : MapRep w' b l := h.block (hB.block b hC)
theorem MapRep.next {w w' : World} {b : Nat} {l : NM} (h : MapRep w b l) (hB : Below w.heap.size w w') : MapRep w' b l := h.below hB h.lt
theorem MapRep.lookup {w : World} {b : Nat} {l : NM} (h : MapRep w b l) (x : List UInt8) (hx : x.length ≤ maxLen) :
    (Instr.lookup 62 (.map (some b)) (.string ⟨x.toArray⟩) false).run Try.prog w = .ok (ptrV (lget l x)) w := by
  obtain ⟨D, ho, hD⟩ := h.ex
  obtain ⟨v, ps, hrun, hv⟩ := ho.lookup keyed Try.underlying62 (zero_ptr w) (ptrElem_mk none) (keyOf_nm x hx)
  have : v = ptrV (lget l x) := ptrElem_inv (ps := ps) (by rw [hv]; exact congrArg (fun z => some (z, ps)) (hD.at_ x))
  rw [hrun, this]
theorem MapRep.update {w : World} {b : Nat} {l : NM} (h : MapRep w b l) (x : List UInt8) (hx : x.length ≤ maxLen) (f : Nat) (hl : l.length < maxLen) :
    ∃ w', (Instr.mapUpdate 62 (.map (some b)) (.string ⟨x.toArray⟩) (ptrV (some f))).run Try.prog w = .ok () w' ∧ MapRep w' b (lput l x f) ∧ w.grownBy w' (some b) := by
  obtain ⟨D, ho, hD⟩ := h.ex
  obtain ⟨w', hrun, ho', hg⟩ := ho.update keyed Try.underlying62 hl (keyOf_nm x hx) (ptrElem_mk (some f))
  exact ⟨w', hrun, MapRep.of ho' (hD.put x f trivial), hg⟩
theorem MapRep.len {w : World} {b : Nat} {l : NM} (h : MapRep w b l) (ty : TypeId) : (Builtin.len_ #[62] ty #[.map (some b)]).run Try.prog w = .ok (.int .i64 l.length) w := by
  obtain ⟨D, ho, hD⟩ := h.ex
  rw [ho.len Try.underlying62 ty, hD.size_]
theorem MapRep.drop {w : World} {b : Nat} {l : NM} (h : MapRep w b l) (x : List UInt8) (hx : x.length ≤ maxLen) (ty : TypeId) :
    ∃ w', (Builtin.delete_ #[62, 9] ty #[.map (some b), .string ⟨x.toArray⟩]).run Try.prog w = .ok (.tuple #[]) w' ∧ MapRep w' b (ldel l x) ∧ w.grownBy w' (some b) := by
  obtain ⟨D, ho, hD⟩ := h.ex
  obtain ⟨w', hrun, ho', hg⟩ := ho.drop keyed Try.underlying62 (keyOf_nm x hx) ty
  exact ⟨w', hrun, MapRep.of ho' (hD.del x), hg.grown⟩
end Go.Proofs.Ytejmbhckfdfoeaa
