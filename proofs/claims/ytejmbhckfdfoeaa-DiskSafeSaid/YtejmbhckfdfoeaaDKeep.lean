/-
  What a round over the sorted names must keep.
-/
import Derived.Test.YtejmbhckfdfoeaaDRow
import Derived.Test.YtejmbhckfdfoeaaDSort
import Derived.RangeFuncNested
import Derived.RangeFuncBound
import Derived.RangeFuncOne
import Derived.RangeFuncCalls
import Derived.RangeFuncLeaves
import Derived.OwnWalkIn
import Derived.TacticsInMore
import Derived.LoopNIn
import Derived.LoopIn
import Derived.Deep.DeepCutAuto
set_option linter.unusedVariables false
set_option linter.unusedSimpArgs false
namespace Go.Proofs.Ytejmbhckfdfoeaa
open Go.RowKit Go.Maps
attribute [local go_sem] Oper.semAt_some
/-- what a round may not turn: maps, rows of strings, boxes of maps -/
def kObj : Obj → Bool
  | .map .. => true
  | .cells _ t _ => t == 9 || t == 62
  | _ => false
structure KeepD (w w' : World) : Prop where
  size : w.heap.size ≤ w'.heap.size
  keep : ∀ (k : Nat) (o : Obj), w.heap[k]? = some o → kObj o = true → w'.heap[k]? = some o
theorem KeepD.refl (w : World) : KeepD w w := ⟨Nat.le_refl _, fun _ _ h _ => h⟩
theorem KeepD.trans {a b c : World} (h : KeepD a b) (k : KeepD b c) : KeepD a c := ⟨Nat.le_trans h.size k.size, fun i o h1 h2 => k.keep i o (h.keep i o h1 h2) h2⟩
theorem KeepD.below {w w' : World} (h : Below w.heap.size w w') : KeepD w w' := ⟨h.size, fun k o hk _ => (h.block k (Array.getElem?_eq_some_iff.1 hk).1).trans hk⟩
theorem KeepD.heap {w w' : World} (h : w'.heap = w.heap) : KeepD w w' := ⟨by rw [h]; exact Nat.le_refl _, fun k o hk _ => by rw [h]; exact hk⟩
theorem KeepD.box {w w' : World} (h : KeepD w w') {b : Nat} {T : TypeId} {cs : Array Value} (hb : Box w b T cs) (hT : kObj (.cells cs T (0, 0)) = true) : Box w' b T cs := h.keep b _ hb hT
theorem KeepD.map {w w' : World} (h : KeepD w w') {b : Nat} {l : NM} (hm : MapRep w b l) : MapRep w' b l := by
  obtain ⟨es, c, hh⟩ := hm.isMap
  exact hm.block ((h.keep b _ hh rfl).trans hh.symm)
theorem KeepD.row {w w' : World} (h : KeepD w w') {B s n : Nat} {v : Value} {xs : List Value} (ho : w.ownsRow B 9 s v n xs) : w'.ownsRow B 9 s v n xs := by
  refine ⟨ho.1, ?_⟩
  rcases ho.2 with hn | ⟨g, cap, cur, rfl, hb, hgg, rest⟩
  · exact .inl hn
  · exact .inr ⟨g, cap, cur, rfl, hb, h.keep g _ hgg rfl, rest⟩
theorem KeepD.grown {w w' : World} {r : Option Nat} (hg : w.grownBy w' r) (hr : ∀ k, r = some k → ∀ o, w.heap[k]? = some o → kObj o = false) : KeepD w w' :=
  ⟨hg.size, fun k o hk ho => (hg.block k (Array.getElem?_eq_some_iff.1 hk).1 (fun e => by have := hr k e.symm o hk; rw [ho] at this; cases this)).trans hk⟩
theorem KeepD.set {w : World} {b j : Nat} {T : TypeId} {cs : Array Value} (hb : Box w b T cs) (hT : kObj (.cells cs T (0, 0)) = false) (v : Value) : KeepD w (w.setCell ⟨b, j, none⟩ v) :=
  ⟨by simp [World.setCell], fun k o hk ho => (Below.heap_setCell _ _ _ _ (fun e => by
    simp at e; subst e; unfold Box at hb; rw [hb] at hk; cases hk; rw [hT] at ho; cases ho)).trans hk⟩
theorem keepD_b {n₀ : Nat} {w : World} (W : World) (l : Nat) (o o' : Obj) (h : W.heap[l]? = some o) (hc : o.isCells = false) (hw : o.isWalk = false) : KeepD W (W.putObj l o') := by
  refine ⟨by simp [World.putObj], fun k o1 hk ho => ?_⟩
  by_cases e : k = l
  · subst e
    rw [h] at hk
    cases hk
    cases o <;> simp_all [kObj, Obj.isCells, Obj.isWalk]
  · exact (World.putObj_heap_other (by omega)).trans hk
theorem own_cell {w : World} {B : Nat} {e : TypeId} {v : Value} {n : Nat} {xs : List Value} (h : w.ownsRow B e 1 v n xs) (j : Nat) (hj : j < n) :
    ∃ g cap, v = .slice (some ⟨g, 0, none⟩) n cap ∧ ∀ u, xs[j]? = some u → w.cell? ⟨g, j, none⟩ = some u := by
  rcases h.2 with ⟨rfl, hn⟩ | ⟨g, cap, cur, rfl, hb, hgg, _, _, _, ht⟩
  · omega
  · refine ⟨g, cap, rfl, fun u hu => ?_⟩
    rw [cell_of_row w g j cur e (0, 0) hgg]
    rw [← ht, List.getElem?_take] at hu
    split at hu
    · simpa using hu
    · cases hu
abbrev nmEnc (l : NM) (i : Fin l.length) : Array Value := #[encStr l[i].1, ptrV (some l[i].2)]
end Go.Proofs.Ytejmbhckfdfoeaa
