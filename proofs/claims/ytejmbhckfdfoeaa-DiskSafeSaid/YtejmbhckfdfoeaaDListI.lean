/-
  List: what its rounds keep.
-/
import Derived.Test.YtejmbhckfdfoeaaDKeep
import Derived.Test.YtejmbhckfdfoeaaDCopyF
import Derived.Test.YtejmbhckfdfoeaaInRound
set_option linter.unusedVariables false
set_option linter.unusedSimpArgs false
namespace Go.Proofs.Ytejmbhckfdfoeaa
open Go.RowKit Go.Maps
/-- below B nothing has turned but for this block -/
structure KeepB (B R : Nat) (w w' : World) : Prop where
  size : w.heap.size ≤ w'.heap.size
  block : ∀ k, k < B → k ≠ R → w'.heap[k]? = w.heap[k]?
  rest : w'.os = w.os ∧ w'.tape = w.tape ∧ w'.output = w.output
theorem KeepB.refl (B R : Nat) (w : World) : KeepB B R w w := ⟨Nat.le_refl _, fun _ _ _ => rfl, rfl, rfl, rfl⟩
theorem KeepB.trans {B R : Nat} {a b c : World} (h : KeepB B R a b) (k : KeepB B R b c) : KeepB B R a c := ⟨Nat.le_trans h.size k.size, fun i h1 h2 => (k.block i h1 h2).trans (h.block i h1 h2), k.rest.1.trans h.rest.1, k.rest.2.1.trans h.rest.2.1, k.rest.2.2.trans h.rest.2.2⟩
theorem KeepB.of_below {B R : Nat} {w w' : World} (h : Below B w w') : KeepB B R w w' := ⟨h.size, fun k hk _ => h.block k hk, h.os, h.tape, h.output⟩
theorem KeepB.set {B R o : Nat} {w : World} (v : Value) : KeepB B R w (w.setCell ⟨R, o, none⟩ v) :=
  ⟨by simp [World.setCell], fun k _ hk => Below.heap_setCell w ⟨R, o, none⟩ v k hk, rfl, rfl, rfl⟩
theorem KeepB.below {B R C : Nat} {w w' : World} (h : KeepB B R w w') (hC : C ≤ B) (hR : C ≤ R) : Below C w w' :=
  ⟨h.rest.1, h.rest.2.1, h.rest.2.2, h.size, fun k hk => h.block k (Nat.lt_of_lt_of_le hk hC) (by omega)⟩
theorem FOwn.mono {w : World} {B C : Nat} {v : Value} {ps : List FP} (h : FOwn w B v ps) (hC : C ≤ B) : FOwn w C v ps := ⟨own_mono h.row hC, fun p hp => (h.by_ p hp).mono hC, h.nm⟩
theorem FOwn.set {w : World} {B b j : Nat} {v : Value} {ps : List FP} (h : FOwn w B v ps) (hb : b < B) (u : Value) : FOwn (w.setCell ⟨b, j, none⟩ u) B v ps := by
  refine ⟨own_setCell h.row hb u, fun p hp => ?_, h.nm⟩
  have hr := h.by_ p hp
  refine ⟨?_, fun h0 => ?_, hr.len, hr.cap⟩
  · obtain ⟨o, cap, he, hc⟩ := hr.rd
    refine ⟨o, cap, he, fun i hi => ?_⟩
    obtain ⟨b', off, ho, hcell⟩ := hc i hi
    obtain ⟨b2, off2, cs, fz, c, he2, hh, hB⟩ := hr.home (by omega)
    have hbb : b' = b2 := by
      have := he.symm.trans he2
      rw [ho] at this
      simp at this
      exact this.1.1
    subst hbb
    exact ⟨b', off, ho, (World.cell?_of_block (w := w) (a := ⟨b', off + i, none⟩) (Below.heap_setCell w ⟨b, j, none⟩ u b' (show b' ≠ b by omega))).trans hcell⟩
  · obtain ⟨b', off, cs, fz, c, he, hh, hB⟩ := hr.home h0
    exact ⟨b', off, cs, fz, c, he, by rw [Below.heap_setCell w ⟨b, j, none⟩ u b' (show b' ≠ b by omega)]; exact hh, hB⟩
theorem KeepU.keeps {W W' : World} {row : Option Nat} (hg : W.grownBy W' row) (hr : ∀ r, row = some r → ∃ o : Obj, W.heap[r]? = some o ∧ o.isCells = false) : KeepU W W' := fun k cs fz hk => (grownBy_keeps_cells hg hr hk rfl).trans hk
theorem own_keepsC {W W' : World} {row : Option Nat} {B : Nat} {e : TypeId} {s n : Nat} {v : Value} {xs : List Value} (h : W.ownsRow B e s v n xs) (hg : W.grownBy W' row) (hr : ∀ r, row = some r → ∃ o : Obj, W.heap[r]? = some o ∧ o.isCells = false) : W'.ownsRow B e s v n xs := by
  refine ⟨h.1, ?_⟩
  rcases h.2 with hn | ⟨g, cap, cur, rfl, hb, hgg, rest⟩
  · exact .inl hn
  · exact .inr ⟨g, cap, cur, rfl, hb, (grownBy_keeps_cells hg hr hgg rfl).trans hgg, rest⟩
theorem FOwn.keeps {W W' : World} {B : Nat} {v : Value} {ps : List FP} {row : Option Nat} (h : FOwn W B v ps) (hg : W.grownBy W' row) (hr : ∀ r, row = some r → ∃ o : Obj, W.heap[r]? = some o ∧ o.isCells = false) : FOwn W' B v ps :=
  ⟨own_keepsC h.row hg hr, fun p hp => (h.by_ p hp).moveU (KeepU.keeps hg hr), h.nm⟩
theorem putObj_below {W : World} {D C : Nat} {o : Obj} (h : C ≤ D) (hC : C ≤ W.heap.size) : Below C W (W.putObj D o) := (Below.refl _ _).grown (grownBy_putObj' W D o) hC (fun k e => by cases e; exact h)
/-- the loop's invariant: the list in its box; what was there is there -/
def ListAt (B lb : Nat) (w0 : World) (fs : List FileD) (W : World) : Prop :=
  ∃ v ps, Box W lb 22 #[v] ∧ FOwn W B v ps ∧ ps.map (·.1) = fs ∧ KeepB B lb w0 W
theorem listAt_own {β : Type} (B lb : Nat) (w0 : World) (f : β → List FileD) (hB : B ≤ w0.heap.size) : OwnFrom B (fun s W => ListAt B lb w0 (f s) W) := fun s W W' row hs hg hr => by
  obtain ⟨v, ps, h1, h2, h3, h4⟩ := hs
  have hr' : ∀ r, row = some r → ∃ o : Obj, W.heap[r]? = some o ∧ o.isCells = false := fun r e => (hr r e).2
  refine ⟨v, ps, (grownBy_keeps_cells hg hr' h1 rfl).trans h1, ⟨own_keepsC h2.row hg hr', fun p hp => (h2.by_ p hp).moveU (KeepU.keeps hg hr'), h2.nm⟩, h3, ⟨Nat.le_trans h4.size hg.size, fun k hk hne => ?_, hg.os.trans h4.rest.1, hg.tape.trans h4.rest.2.1, hg.output.trans h4.rest.2.2⟩⟩
  exact (hg.block k (by have := h4.size; omega) (fun e => by have := (hr k e.symm).1; omega)).trans (h4.block k hk hne)
/-- inside a round that began at W0: the list's box, a box that is read, the list -/
structure ListMid (B lb f : Nat) (T : TypeId) (cs : Array Value) (w0 W0 : World) (v : Value) (ps : List FP) (W : World) : Prop where
  bx : Box W lb 22 #[v]
  fb : Box W f T cs
  kb : KeepB B lb w0 W
  kd : KeepD W0 W
  o : FOwn W B v ps
  oth : KeepsOthers W0 W
  hB : B ≤ w0.heap.size
theorem ListMid.size {B lb f : Nat} {T : TypeId} {cs : Array Value} {w0 W0 W : World} {v : Value} {ps : List FP} (h : ListMid B lb f T cs w0 W0 v ps W) : B ≤ W.heap.size := Nat.le_trans h.hB h.kb.size
theorem others_below {w w' : World} (h : Below w.heap.size w w') : KeepsOthers w w' := ⟨h.size, fun k o hk _ => (h.block k (Array.getElem?_eq_some_iff.1 hk).1).trans hk⟩
theorem ListMid.next {B lb f : Nat} {T : TypeId} {cs : Array Value} {w0 W0 W W' : World} {v : Value} {ps : List FP} (h : ListMid B lb f T cs w0 W0 v ps W) (hb : Below W.heap.size W W') : ListMid B lb f T cs w0 W0 v ps W' :=
  ⟨h.bx.next hb, h.fb.next hb, h.kb.trans (KeepB.of_below (hb.mono h.size)), h.kd.trans (KeepD.below hb), h.o.next hb, h.oth.trans (others_below hb), h.hB⟩
theorem ListMid.snoc {B lb f : Nat} {T : TypeId} {cs : Array Value} {w0 W0 W W' : World} {v v' : Value} {ps : List FP} {p : FP} {o : Obj} (h : ListMid B lb f T cs w0 W0 v ps W) (hl : lb < B) (hf : f < B) (hr : W'.ownsRow B 48 2 v' (ps.length + 1) (fcells ps ++ [encStr p.1.nm, p.2])) (hg : (W.alloc o).grownBy W' v.ownBlock)
    (hp : BytesRep B W p.2 p.1.da) (hn : p.1.nm.length ≤ maxLen) : (Box W' lb 22 #[v] ∧ Box W' f T cs) ∧ KeepB B lb w0 W' ∧ KeepD W0 W' ∧ FOwn W' B v' (ps ++ [p]) ∧ KeepsOthers W0 W' := by
  have ha : Below W.heap.size W (W.alloc o) := (Below.refl _ _).alloc (Nat.le_refl _) _
  have hm := h.next ha
  have hb : Below B (W.alloc o) W' := below_grown' hm.o.row hg hm.size
  refine ⟨⟨hm.bx.below hb hl, hm.fb.below hb hf⟩, hm.kb.trans (KeepB.of_below hb), hm.kd.trans (KeepD.grown hg fun k hk o' ho => ?_), h.o.snoc hr hg hp hn, hm.oth.trans (KeepsOthers.of_grownBy hg fun j o' hj ho => ?_)⟩
  · rcases hm.o.row.2 with ⟨rfl, _⟩ | ⟨g, cap, cur, rfl, hbb, hgg, _⟩
    · cases hk
    · cases hk
      rw [hgg] at ho
      cases ho
      rfl
  · rcases hm.o.row.2 with ⟨rfl, _⟩ | ⟨g, cap, cur, rfl, hbb, hgg, _⟩
    · cases hj
    · cases hj
      rw [hgg] at ho
      cases ho
      rfl
end Go.Proofs.Ytejmbhckfdfoeaa
