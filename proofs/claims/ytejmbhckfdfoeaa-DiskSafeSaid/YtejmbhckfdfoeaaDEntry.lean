/-
  A MAP'S ENTRY taken, then written: the same as a store.
-/
import Derived.Test.YtejmbhckfdfoeaaDMove
import Derived.WideKeyEntry
set_option linter.unusedVariables false
set_option linter.unusedSimpArgs false
namespace Go.Proofs.Ytejmbhckfdfoeaa
open Go.RowKit Go.Maps Go.ChangeMaps
theorem MapRep.entry {w : World} {b : Nat} {l : NM} (h : MapRep w b l) (x : List UInt8) (hx : x.length ≤ maxLen) (f : Nat) (hl : l.length < maxLen) :
    ∃ (v0 : Value) (st : Nat) (w1 w2 : World), (Instr.mapEntry 62 (.map (some b)) (.string ⟨x.toArray⟩)).run Try.prog w = .ok (.tuple #[v0, .int .i64 st]) w1 ∧
      (Instr.entryStore 62 (.map (some b)) (.int .i64 st) (.pointer (some ⟨f, 0, none⟩))).run Try.prog w1 = .ok () w2 ∧ MapRep w2 b (lput l x f) ∧ w.grownBy w1 (some b) ∧ w.grownBy w2 (some b) := by
  obtain ⟨w', hrun, hm', hg'⟩ := h.update x hx f hl
  obtain ⟨D, ⟨es, clock, hb, F, hs, rfl⟩, hD⟩ := h.ex
  obtain ⟨v0, st, es1, clock1, h1, _, h2⟩ := WideElems.entry_then_store (WideMaps.string_law Try.underlying9) Try.underlying62 (z := .pointer none) zero_ptr hb F (keyOf_nm x hx)
  have hb1 : (setBlock w b (.map es1 clock1)).heap[b]? = some (.map es1 clock1) := heap_setBlock_same hb _
  obtain ⟨es', clock', h3, h4⟩ := h2 (setBlock w b (.map es1 clock1)) (.pointer (some ⟨f, 0, none⟩)) hb1
  have e' : setBlock w b (.map es' clock') = w' := by
    have : (Instr.mapUpdate 62 (.map (some b)) (.string ⟨x.toArray⟩) (ptrV (some f))).run Try.prog w = .ok () (setBlock w b (.map es' clock')) := h4
    rw [hrun] at this
    simp at this
    exact this.symm
  have hgr : ∀ (u : World) (o : Obj), u.grownBy (setBlock u b o) (some b) := fun u o => ⟨rfl, rfl, rfl, by simp [setBlock], fun i _ hi => by simp only [setBlock]; rw [Array.getElem?_setIfInBounds_ne (fun e => hi (by rw [e]))]⟩
  refine ⟨v0, st, _, _, h1, h3, ?_, hgr _ _, grown_trans' (hgr _ _) (hgr _ _)⟩
  refine hm'.block ?_
  rw [heap_setBlock_same hb1, ← e', heap_setBlock_same hb]
end Go.Proofs.Ytejmbhckfdfoeaa
