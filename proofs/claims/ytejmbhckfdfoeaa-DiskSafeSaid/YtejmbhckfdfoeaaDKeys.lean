/-
  THE SORTED KEYS of a map from names to files.
-/
import Derived.Test.YtejmbhckfdfoeaaDRow
import Derived.Test.YtejmbhckfdfoeaaIter
set_option linter.unusedVariables false
set_option linter.unusedSimpArgs false
namespace Go.Proofs.Ytejmbhckfdfoeaa
open Go.RowKit Go.Maps
theorem ris_nodup {l : NM} (h : Ris l) : (l.map (·.1)).Nodup := by
  rw [List.Nodup, List.pairwise_map]
  refine List.Pairwise.imp ?_ h
  intro p q hlt e
  rw [e] at hlt
  exact nm_irr q.1 hlt
theorem mem_names {l : NM} {x : List UInt8} : x ∈ l.map (·.1) ↔ (lget l x).isSome = true := by
  rw [List.mem_map]
  constructor
  · rintro ⟨p, hp, rfl⟩
    cases hg : lget l p.1 with
    | none => exact absurd rfl (lget_none.1 hg p hp)
    | some i => rfl
  · intro h
    obtain ⟨i, hi⟩ := Option.isSome_iff_exists.1 h
    exact ⟨(x, i), lget_mem hi, rfl⟩
theorem keys_sorted {w : World} {b n : Nat} {D : DataW Unit} {l : NM} (h : w.ownsMap Try.prog 9 ptrElem b n D) (hD : DRep D l) {ss : List (List UInt8)} (hp : ss.Perm (strKeys D)) :
    ss.mergeSort leB = l.map (·.1) ∧ ss.length = l.length := by
  obtain ⟨es, rfl, hk⟩ := h.keysOf
  obtain ⟨es', he, hpw⟩ := hD.tidy
  cases he
  have hq : (l.map (·.1)).Perm (strKeys (.map es)) := perm_strKeys hpw (fun p hp => by
    obtain ⟨v, hv⟩ := hk p hp
    obtain ⟨x, _, hx, _⟩ := Maps.keyOf_str Try.underlying9 hv
    exact ⟨x, hx⟩) (ris_nodup hD.ris) (fun x => by rw [hD.has_ x]; exact mem_names)
  refine ⟨?_, by have := (hp.trans hq.symm).length_eq; simpa using this⟩
  rw [mergeSort_of_perm (hp.trans hq.symm)]
  refine List.mergeSort_of_pairwise ?_
  rw [List.pairwise_map]
  exact hD.ris.imp fun {p q} hlt => decide_eq_true (List.le_of_lt hlt)
theorem sortedKeys_in {w : World} {b : Nat} {l : NM} (h : MapRep w b l) (hl : l.length ≤ 1000000) :
    CallsIn Fence.wide 5 Try.prog 57 #[.func (.func 67) #[] #[.pointer (some ⟨w.heap.size, 0, none⟩)]] (w.alloc (.cells #[.map (some b)] 62)) fun e w' => ∃ v, e = .returned v ∧
      w'.ownsRow (w.heap.size + 1) 9 1 v l.length ((l.map (·.1)).map encStr) ∧ Below (w.heap.size + 1) (w.alloc (.cells #[.map (some b)] 62)) w' := by
  obtain ⟨D, ho, hD⟩ := h.ex
  have hz : size D ≤ 1000000 := by rw [hD.size_]; exact hl
  refine CallsIn.mono (slices_Sorted_keys_57_58 b l.length D ptrElem w ho (by unfold maxLen; omega) (by omega)) ?_
  rintro e w' ⟨v, ss, rfl, hp, hrow, _, hb⟩
  obtain ⟨k1, k2⟩ := keys_sorted ho hD hp
  rw [World.size_alloc] at hrow hb
  rw [k2] at hrow
  exact ⟨v, rfl, by rw [← k1]; exact hrow, hb⟩
end Go.Proofs.Ytejmbhckfdfoeaa
