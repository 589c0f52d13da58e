/-
  ROWS OF FILES of a call's own: names and bytes, side by side.
-/
import Derived.Test.YtejmbhckfdfoeaaDClone
set_option linter.unusedVariables false
set_option linter.unusedSimpArgs false
namespace Go.Proofs.Ytejmbhckfdfoeaa
open Go.RowKit Go.Maps
theorem info_file : (Try.prog.info? 48).map (fun i => (i.zero, i.size, i.bytes)) = some (some (.agg #[.string ⟨#[]⟩, .slice none 0 0]), 2, 40) := by kernel_rfl
/-- bytes' blocks lie as they lay -/
def KeepU (w w' : World) : Prop := ∀ (k : Nat) (cs : Array Value) (fz : Nat × Nat), w.heap[k]? = some (.cells cs 5 fz) → w'.heap[k]? = some (.cells cs 5 fz)
theorem KeepU.refl (w : World) : KeepU w w := fun _ _ _ h => h
theorem KeepU.trans {a b c : World} (h : KeepU a b) (k : KeepU b c) : KeepU a c := fun i cs fz hi => k i cs fz (h i cs fz hi)
theorem KeepU.below {w w' : World} (h : Below w.heap.size w w') : KeepU w w' := fun k cs fz hk => (h.block k (Array.getElem?_eq_some_iff.1 hk).1).trans hk
theorem KeepU.grown {w w' : World} {r : Option Nat} (h : w.grownBy w' r) (hr : ∀ k, r = some k → ∀ cs fz, w.heap[k]? ≠ some (.cells cs 5 fz)) : KeepU w w' := fun k cs fz hk =>
  (h.block k (Array.getElem?_eq_some_iff.1 hk).1 (fun e => hr k e.symm cs fz hk)).trans hk
theorem BytesRep.moveU {B : Nat} {w w' : World} {v : Value} {xs : List Int} (h : BytesRep B w v xs) (hk : KeepU w w') : BytesRep B w' v xs := by
  refine ⟨?_, fun h0 => ?_, h.len, h.cap⟩
  · obtain ⟨o, cap, rfl, hc⟩ := h.rd
    refine ⟨o, cap, rfl, fun j hj => ?_⟩
    obtain ⟨b, off, rfl, hcell⟩ := hc j hj
    obtain ⟨b', off', cs, fz, c, he, hb, _⟩ := h.home (by omega)
    simp at he
    obtain ⟨⟨rfl, rfl⟩, _⟩ := he
    exact ⟨b, off, rfl, (World.cell?_of_block (w := w) (a := ⟨b, off + j, none⟩) ((hk b _ _ hb).trans hb.symm)).trans hcell⟩
  · obtain ⟨b, off, cs, fz, c, he, hb, hB⟩ := h.home h0
    exact ⟨b, off, cs, fz, c, he, hk _ _ _ hb, hB⟩
abbrev FP := FileD × Value
def fcells (ps : List FP) : List Value := ps.flatMap fun p => [encStr p.1.nm, p.2]
theorem fcells_length (ps : List FP) : (fcells ps).length = ps.length * 2 := by
  induction ps with
  | nil => rfl
  | cons p ps ih => rw [show fcells (p :: ps) = encStr p.1.nm :: p.2 :: fcells ps from rfl, List.length_cons, List.length_cons, ih, List.length_cons]; omega
theorem fcells_at (ps : List FP) : ∀ (i : Nat) (h : i < ps.length), (fcells ps)[i * 2]? = some (encStr ps[i].1.nm) ∧ (fcells ps)[i * 2 + 1]? = some ps[i].2 := by
  induction ps with
  | nil => intro i h; simp at h
  | cons p ps ih =>
    intro i h
    rw [show fcells (p :: ps) = encStr p.1.nm :: p.2 :: fcells ps from rfl]
    cases i with
    | zero => simp
    | succ i =>
      have := ih i (by simpa using h)
      rw [show (i + 1) * 2 = i * 2 + 1 + 1 by omega]
      simpa using this
theorem fcells_snoc (ps : List FP) (p : FP) : fcells (ps ++ [p]) = fcells ps ++ [encStr p.1.nm, p.2] := by simp [fcells]
/-- a row of files of the call's own -/
structure FOwn (w : World) (B : Nat) (v : Value) (ps : List FP) : Prop where
  row : w.ownsRow B 48 2 v ps.length (fcells ps)
  by_ : ∀ p ∈ ps, BytesRep B w p.2 p.1.da
  nm : ∀ p ∈ ps, p.1.nm.length ≤ maxLen
theorem FOwn.nil (w : World) (B : Nat) : FOwn w B (.slice none 0 0) [] := ⟨World.ownsRow_nil _ _ _ _, fun p h => by simp at h, fun p h => by simp at h⟩
theorem FOwn.below {w w' : World} {B C : Nat} {v : Value} {ps : List FP} (h : FOwn w B v ps) (hB : Below C w w') (hC : w.heap.size ≤ C) : FOwn w' B v ps :=
  ⟨own_below h.row hB hC, fun p hp => (h.by_ p hp).moveU (KeepU.below (hB.mono hC)), h.nm⟩
theorem FOwn.next {w w' : World} {B : Nat} {v : Value} {ps : List FP} (h : FOwn w B v ps) (hB : Below w.heap.size w w') : FOwn w' B v ps := h.below hB (Nat.le_refl _)
theorem own_noU {w : World} {B : Nat} {v : Value} {n s : Nat} {xs : List Value} (h : w.ownsRow B 48 s v n xs) : ∀ k, v.ownBlock = some k → ∀ cs fz, w.heap[k]? ≠ some (.cells cs 5 fz) := fun k hk cs fz e => by
  rcases h.2 with ⟨rfl, _⟩ | ⟨g, cap, cur, rfl, hb, hgg, _⟩
  · cases hk
  · cases hk
    rw [hgg] at e
    simp at e
theorem FOwn.snoc {w w' : World} {B : Nat} {v v' : Value} {ps : List FP} {p : FP} {o : Obj} (h : FOwn w B v ps) (hr : w'.ownsRow B 48 2 v' (ps.length + 1) (fcells ps ++ [encStr p.1.nm, p.2])) (hg : (w.alloc o).grownBy w' v.ownBlock) (hp : BytesRep B w p.2 p.1.da) (hn : p.1.nm.length ≤ maxLen) : FOwn w' B v' (ps ++ [p]) := by
  have ha : Below w.heap.size w (w.alloc o) := (Below.refl _ _).alloc (Nat.le_refl _) _
  have hk : KeepU w w' := (KeepU.below ha).trans (KeepU.grown hg (own_noU (own_below h.row ha (Nat.le_refl _))))
  refine ⟨by rw [fcells_snoc]; simpa using hr, fun q hq => ?_, fun q hq => ?_⟩
  · rcases List.mem_append.1 hq with hq | hq
    · exact (h.by_ q hq).moveU hk
    · rw [List.mem_singleton.1 hq]; exact hp.moveU hk
  · rcases List.mem_append.1 hq with hq | hq
    · exact h.nm q hq
    · rw [List.mem_singleton.1 hq]; exact hn
theorem fnth_map (ps : List FP) (i : Nat) (h : i < ps.length) : fnth (ps.map (·.1)) i = ps[i].1 := by
  simp [fnth, List.getD_eq_getElem?_getD, h]
theorem FOwn.files {w : World} {B : Nat} {v : Value} {ps : List FP} (h : FOwn w B v ps) : FilesRd w v (ps.map (·.1)) := by
  rcases h.row.2 with ⟨rfl, h0⟩ | ⟨g, cap, cur, rfl, hb, hgg, h1, h2, h3, ht⟩
  · have : ps = [] := List.eq_nil_of_length_eq_zero h0
    subst this
    exact ⟨none, 0, rfl, fun i hi => by simp at hi⟩
  · refine ⟨some ⟨g, 0, none⟩, cap, by simp, fun i hi => ?_⟩
    have hi' : i < ps.length := by simpa using hi
    rw [fnth_map ps i hi']
    have hbr := h.by_ ps[i] (List.getElem_mem hi')
    obtain ⟨od, cd, he⟩ := rd_slice hbr.rd
    obtain ⟨a0, a1⟩ := fcells_at ps i hi'
    have key : ∀ (j : Nat) (u : Value), (fcells ps)[j]? = some u → w.cell? ⟨g, 0 + j, none⟩ = some u := fun j u hj => by
      rw [Nat.zero_add, cell_of_row w g j cur _ (0, 0) hgg]
      rw [← ht, List.getElem?_take] at hj
      split at hj
      · simpa using hj
      · cases hj
    refine ⟨⟨g, 0, od, cd, rfl, key _ _ a0, by rw [Nat.add_assoc]; exact (key _ _ a1).trans (by rw [he]), by rw [← he]; exact hbr.rd⟩, h.nm _ (List.getElem_mem hi'), by have := hbr.len; omega⟩
end Go.Proofs.Ytejmbhckfdfoeaa
