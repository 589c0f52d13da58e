/-
  WHAT AN ARGUMENT THAT CAN BE READ GIVES THE WALK, for any program: slices of integers, of structs, of slices; and the form's own reach.
-/
import Derived.ProofKit
import Derived.OpenShut
import Derived.Deep.Slices
import Derived.SizedLaws
import Derived.Test.YtipjhdgegfgenaaGreatEV02
import Derived.Test.YtipjhdgegfgenaaGreatEV44
set_option linter.unusedVariables false
set_option linter.unusedSimpArgs false
namespace Go.Proofs.YtipjhdgegfgenaaGreat
open Go.RowKit Go.ChangeShapes Go.WideShapes
/-- these cells read, at this type, as a datum of which no part is beyond the reach -/
def RB {H : Type} (enc : TypeId × Value → H) (P : Program) (w : World) (t : TypeId) (cs : List Value) : Prop :=
  ∃ (fuel : Nat) (d : DataW H) (pl : List MemPlace), DataW.trod enc P w 0 (fun _ => true) true fuel t cs = some (d, pl) ∧ ∀ n ∈ d.weights P t, n ≤ reachBytes
theorem weightsAll_mem {H : Type} {P : Program} {e : TypeId} {l : List (DataW H)} {d : DataW H} (h : d ∈ l) : ∀ n ∈ d.weights P e, n ∈ DataW.weightsAll P e l := by
  induction l with
  | nil => cases h
  | cons x l ih =>
    intro n hn
    simp only [DataW.weightsAll, List.mem_append]
    rcases List.mem_cons.1 h with rfl | h
    · exact .inl hn
    · exact .inr (ih h n hn)
theorem RB.slice {H : Type} {enc : TypeId × Value → H} {P : Program} {w : World} {t e : TypeId} {v : Value} (h : RB enc P w t [v]) (ht : P.underlying t = some (.slice e)) :
    ∃ o len cap, v = .slice o len cap ∧ len * P.bytesOf e ≤ reachBytes ∧ cap * P.bytesOf e ≤ reachBytes ∧ len ≤ cap ∧ ∀ i, i < len → ∃ a cs, o = some a ∧ w.cells? 0 (a.add (i * P.cellsOf e)) (P.cellsOf e) = some cs ∧ RB enc P w e cs := by
  obtain ⟨fuel, d, pl, h, hw⟩ := h
  rcases Deep.open_slice ht h with ⟨hcs, _⟩ | ⟨a, len, cap, m, n, D, Pl, hcs, _, hl, hm, hmm, hx, hel⟩
  · simp at hcs
    subst hcs
    exact ⟨none, 0, 0, rfl, by simp, by simp, by simp, fun i hi => absurd hi (Nat.not_lt_zero _)⟩
  · simp at hcs hmm hx
    subst hcs
    obtain ⟨rfl, rfl⟩ := hx
    subst hmm
    have hk : m * P.bytesOf e ≤ reachBytes := by
      have := hw ((len + (m - len)) * P.bytesOf e) (by simp [DataW.weights, ht])
      rwa [show len + (m - len) = m by omega] at this
    refine ⟨some a, len, m, rfl, Nat.le_trans (Nat.mul_le_mul_right _ hl) hk, hk, hl, fun i hi => ?_⟩
    obtain ⟨cs', h1, h2⟩ := hel i (by omega)
    refine ⟨a, cs', rfl, h1, n, D i, Pl i, h2, fun n hn => hw n ?_⟩
    simp only [DataW.weights, ht, List.mem_cons, List.mem_append]
    exact .inr (.inl (weightsAll_mem (List.mem_map.2 ⟨i, List.mem_range.2 hi, rfl⟩) n hn))
theorem cells_at {w : World} {a : Addr} {n : Nat} {cs : List Value} (h : w.cells? 0 a n = some cs) (hn : 0 < n) :
    ∃ b off, a = ⟨b, off, none⟩ ∧ cs.length = n ∧ ∀ j v, cs[j]? = some v → w.cell? ⟨b, off + j, none⟩ = some v := by
  obtain ⟨_, hl, hc⟩ := World.cells?_some h
  obtain ⟨b, off, spot⟩ := a
  have h0 := hc 0 hn
  have hspot : spot = none := by
    obtain ⟨v, hv⟩ : ∃ v, cs[0]? = some v := ⟨cs[0], List.getElem?_eq_getElem (by omega)⟩
    rw [hv] at h0
    simpa [Addr.add] using World.cell?_spot h0
  subst hspot
  refine ⟨b, off, rfl, hl, fun j v hj => ?_⟩
  have hjl : j < cs.length := (List.getElem?_eq_some_iff.1 hj).1
  have := hc j (by omega)
  rw [hj] at this
  simpa [Addr.add_lit] using this
theorem RB.int {H : Type} {enc : TypeId × Value → H} {P : Program} {w : World} {t : TypeId} {K : IntKind} {v : Value} (h : RB enc P w t [v]) (ht : P.underlying t = some (.int K)) :
    ∃ x, v = .int K x ∧ (Lit.int K x).wf = true := by
  obtain ⟨fuel, d, pl, h, _⟩ := h
  obtain ⟨x, e, _, hwf⟩ := DataW.trod_int ht h
  simp at e
  exact ⟨x, e, hwf⟩
theorem RB.ints {H : Type} {enc : TypeId × Value → H} {P : Program} {w : World} {t e : TypeId} {K : IntKind} {v : Value} (h : RB enc P w t [v]) (ht : P.underlying t = some (.slice e)) (he : P.underlying e = some (.int K)) (hc : P.cellsOf e = 1) :
    ∃ xs, Rd w K v xs ∧ Wf K xs ∧ xs.length * P.bytesOf e ≤ reachBytes := by
  obtain ⟨o, len, cap, rfl, hr, _, _, hel⟩ := h.slice ht
  have key : ∀ i, i < len → ∃ x : Int, (Lit.int K x).wf = true ∧ ∃ b off, o = some ⟨b, off, none⟩ ∧ w.cell? ⟨b, off + i, none⟩ = some (.int K x) := fun i hi => by
    obtain ⟨a, cs, rfl, h1, h2⟩ := hel i hi
    rw [hc, Nat.mul_one] at h1
    obtain ⟨b, off, ha, hl, hcc⟩ := cells_at h1 (by omega)
    match cs, hl with
    | [u], _ =>
      obtain ⟨x, rfl, hx⟩ := h2.int he
      obtain ⟨b', off', spot⟩ := a
      have hcell := hcc 0 _ rfl
      unfold Addr.add at ha
      split at ha
      · simp at ha
        obtain ⟨rfl, rfl, rfl⟩ := ha
        subst_vars
        exact ⟨x, hx, _, _, rfl, by simpa using hcell⟩
      · simp at ha
        obtain ⟨rfl, rfl⟩ := ha
        cases spot with
        | none => exact ⟨x, hx, _, _, rfl, by simpa using hcell⟩
        | some s =>
          exfalso
          obtain ⟨a0, cs0, e0, h10, h20⟩ := hel 0 (by omega)
          simp at e0
          subst e0
          rw [hc, Nat.mul_one] at h10
          obtain ⟨_, _, ha0, _⟩ := cells_at h10 (by omega)
          simp [Addr.add] at ha0
  obtain ⟨f, hf⟩ := Deep.choose_lt (α := Int) key
  refine ⟨(List.range len).map f, ?_, fun x hx => ?_, by simpa using hr⟩
  · refine ⟨o, cap, by simp, fun j hj => ?_⟩
    have hj' : j < len := by simpa using hj
    obtain ⟨_, b, off, ho, hcell⟩ := hf j hj'
    refine ⟨b, off, ho, ?_⟩
    rw [hcell, nth_eq _ _ hj]
    simp
  · obtain ⟨i, hi, rfl⟩ := List.mem_map.1 hx
    exact (hf i (List.mem_range.1 hi)).1
theorem weightsEach_mem {H : Type} {P : Program} {ts : List TypeId} {ds : List (DataW H)} {j : Nat} {t : TypeId} {d : DataW H} (h1 : ts[j]? = some t) (h2 : ds[j]? = some d) : ∀ n ∈ d.weights P t, n ∈ DataW.weightsEach P ts ds :=
  DataW.weights_mem_each h1 h2
/-- field number i of a struct -/
theorem RB.field {H : Type} {enc : TypeId × Value → H} {P : Program} {w : World} {t : TypeId} {cs : List Value} {fs : Array Field} (h : RB enc P w t cs) (ht : P.underlying t = some (.struct fs)) :
    cs.length = P.cellsOf t ∧ ∀ (i : Nat) (f : Field), fs[i]? = some f → RB enc P w f.type ((cs.drop f.offset).take (P.cellsOf f.type)) := by
  obtain ⟨fuel, d, pl, h, hw⟩ := h
  obtain ⟨xs, n, rfl, hx, hl, hxl, hf⟩ := DataW.trod_struct ht h
  refine ⟨hl, fun i f hi => ?_⟩
  have hk := hf i f hi
  have hil : i < xs.length := by rw [hxl]; exact (Array.getElem?_eq_some_iff.1 hi).1
  rw [List.getElem?_eq_getElem hil] at hk
  refine ⟨n, xs[i].1, xs[i].2, hk, fun n hn => hw n ?_⟩
  simp only [Prod.mk.injEq] at hx
  rw [hx.1]
  simp only [DataW.weights, ht]
  refine weightsEach_mem (j := i) (t := f.type) (d := xs[i].1) ?_ ?_ n hn
  · rw [List.getElem?_map]; simp [hi]
  · simp [List.getElem?_eq_getElem hil]
/-- a slice of elements of so many cells each, opened -/
theorem RB.rows {H : Type} {enc : TypeId × Value → H} {P : Program} {w : World} {t e : TypeId} {v : Value} (h : RB enc P w t [v]) (ht : P.underlying t = some (.slice e)) (hc : 0 < P.cellsOf e) :
    ∃ o len cap, v = .slice o len cap ∧ len * P.bytesOf e ≤ reachBytes ∧ ∀ i, i < len → ∃ b off cs, o = some ⟨b, off, none⟩ ∧ cs.length = P.cellsOf e ∧ RB enc P w e cs ∧ ∀ j v, cs[j]? = some v → w.cell? ⟨b, off + i * P.cellsOf e + j, none⟩ = some v := by
  obtain ⟨o, len, cap, rfl, hr, _, _, hel⟩ := h.slice ht
  refine ⟨o, len, cap, rfl, hr, fun i hi => ?_⟩
  obtain ⟨a, cs, rfl, h1, h2⟩ := hel i hi
  obtain ⟨a0, cs0, e0, h10, h20⟩ := hel 0 (by omega)
  simp at e0
  subst e0
  rw [Nat.zero_mul] at h10
  obtain ⟨b, off, ha, _⟩ := cells_at h10 hc
  have ha' : a = ⟨b, off, none⟩ := by simpa [Addr.add] using ha
  subst ha'
  rw [Addr.add_lit] at h1
  obtain ⟨b', off', ha, hl, hcc⟩ := cells_at h1 hc
  simp at ha
  obtain ⟨rfl, rfl⟩ := ha
  exact ⟨b, off, cs, rfl, hl, h2, hcc⟩
end Go.Proofs.YtipjhdgegfgenaaGreat
/-
  THE ARGUMENT of the laws of values, opened: asks, with their nodes, tensors and shapes.
-/
set_option linter.unusedVariables false
set_option linter.unusedSimpArgs false
namespace Go.Proofs.YtipjhdgegfgenaaGreat
open Go.RowKit Go.ChangeShapes Go.WideShapes
/-- an ask's cells, and what they read as -/
structure AskD where
  (op word f : Int) (oa oi o1 o2 o3 o4 ot ol : Option Addr) (na ni n1 n2 n3 n4 nt nl ca ci c1 c2 c3 c4 ct cl : Nat)
  (al il : List Int) (cv : ConvD) (ts : List TensD) (ls : List (List Int))
def AskD.cells (a : AskD) : Array Value := #[.int .i64 a.op, .slice a.oa a.na a.ca, .slice a.oi a.ni a.ci, .int .i64 a.word, .slice a.o1 a.n1 a.c1, .slice a.o2 a.n2 a.c2, .slice a.o3 a.n3 a.c3, .slice a.o4 a.n4 a.c4, .slice a.ot a.nt a.ct, .int .i64 a.f, .slice a.ol a.nl a.cl]
structure AskRd (w : World) (a : AskD) : Prop where
  ha : Rd w .i64 (.slice a.oa a.na a.ca) a.al
  hi : Rd w .i64 (.slice a.oi a.ni a.ci) a.il
  hcv : ConvRd w (.slice a.o1 a.n1 a.c1) (.slice a.o2 a.n2 a.c2) (.slice a.o3 a.n3 a.c3) (.slice a.o4 a.n4 a.c4) a.cv
  ht : TenssRd w (.slice a.ot a.nt a.ct) a.ts
  htl : TLim a.ts
  htc : TCap w (.slice a.ot a.nt a.ct) a.ts.length
  hls : ListsC w (.slice a.ol a.nl a.cl) a.ls
theorem AskRd.below {w w' : World} {a : AskD} (h : AskRd w a) (hb : Below w.heap.size w w') : AskRd w' a :=
  ⟨h.ha.below hb (Nat.le_refl _), h.hi.below hb (Nat.le_refl _), h.hcv.below hb (Nat.le_refl _), h.ht.below hb (Nat.le_refl _), h.htl, h.htc.below h.ht hb, h.hls.below hb⟩
/-- the i-th ask of a slice at o -/
def AskAt (w : World) (o : Option Addr) (i : Nat) : Prop := ∃ b off a, o = some ⟨b, off, none⟩ ∧ (∀ (j : Nat) v, a.cells[j]? = some v → w.cell? ⟨b, off + i * 11 + j, none⟩ = some v) ∧ AskRd w a
theorem vCellsInt : Tryz.prog.cellsOf 3 = 1 := by kernel_rfl
theorem vBytesInt : Tryz.prog.bytesOf 3 = 8 := by kernel_rfl
theorem vCellsI64 : Tryz.prog.cellsOf 2 = 1 := by kernel_rfl
theorem vBytesI64 : Tryz.prog.bytesOf 2 = 8 := by kernel_rfl
theorem vCellsTen : Tryz.prog.cellsOf 36 = 2 := by kernel_rfl
theorem vBytesTen : Tryz.prog.bytesOf 36 = 48 := by kernel_rfl
theorem vCellsSInt : Tryz.prog.cellsOf 23 = 1 := by kernel_rfl
theorem vCellsSI64 : Tryz.prog.cellsOf 34 = 1 := by kernel_rfl
theorem vCellsSTen : Tryz.prog.cellsOf 28 = 1 := by kernel_rfl
theorem vCellsSS : Tryz.prog.cellsOf 29 = 1 := by kernel_rfl
theorem vBytesSI : Tryz.prog.bytesOf 23 = 24 := by kernel_rfl
theorem vCellsNode : Tryz.prog.cellsOf 27 = 8 := by kernel_rfl
theorem vCellsConv : Tryz.prog.cellsOf 25 = 4 := by kernel_rfl
theorem vCellsAsk : Tryz.prog.cellsOf 31 = 11 := by kernel_rfl
theorem vBytesAsk : Tryz.prog.bytesOf 31 = 216 := by kernel_rfl
theorem list4V {α : Type} {l : List α} (h : l.length = 4) : ∃ a b c d, l = [a, b, c, d] := match l, h with | [a, b, c, d], _ => ⟨a, b, c, d, rfl⟩
theorem list11 {α : Type} {l : List α} (h : l.length = 11) : ∃ a b c d e f g i j k m, l = [a, b, c, d, e, f, g, i, j, k, m] := match l, h with | [a, b, c, d, e, f, g, i, j, k, m], _ => ⟨a, b, c, d, e, f, g, i, j, k, m, rfl⟩
section
variable {H : Type} {enc : TypeId × Value → H} {w : World}
theorem RB.capV {P : Program} {t e : TypeId} {o : Option Addr} {n c : Nat} (h : RB enc P w t [.slice o n c]) (ht : P.underlying t = some (.slice e)) : n ≤ c := by
  obtain ⟨o', len, cap, he, _, _, hlc, _⟩ := h.slice ht
  injection he with e1 e2 e3
  omega
theorem RB.intsV {v : Value} (h : RB enc Tryz.prog w 23 [v]) : ∃ o n c xs, v = .slice o n c ∧ Rd w .i64 (.slice o n c) xs ∧ n ≤ c ∧ xs.length ≤ 140737488351232 := by
  obtain ⟨xs, a1, _, c1⟩ := RB.ints h Tryz.underlying23 Tryz.underlying3 vCellsInt
  rw [vBytesInt] at c1
  unfold reachBytes at c1
  obtain ⟨o, c, rfl⟩ := rd_slice a1
  exact ⟨o, _, c, xs, rfl, a1, h.capV Tryz.underlying23, by omega⟩
theorem RB.tensorsV {v : Value} (h : RB enc Tryz.prog w 28 [v]) : ∃ o n c ts, v = .slice o n c ∧ TenssRd w (.slice o n c) ts ∧ TLim ts ∧ TCap w (.slice o n c) ts.length := by
  obtain ⟨o, len, cap, rfl, hr, hel⟩ := h.rows Tryz.underlying28 (by rw [vCellsTen]; omega)
  rw [vBytesTen] at hr
  have key : ∀ i, i < len → ∃ t : TensD, TensRd w o i t ∧ t.Lim ∧ ∀ b off p m k, o = some ⟨b, off, none⟩ → w.cell? ⟨b, off + i * 2, none⟩ = some (.slice p m k) → m ≤ k := fun i hi => by
    obtain ⟨b, off, cs, rfl, hl, hrb, hcell⟩ := hel i hi
    rw [vCellsTen] at hl hcell
    obtain ⟨_, hf⟩ := hrb.field Tryz.underlying36
    obtain ⟨v0, v1, rfl⟩ := list2 hl
    have g0 : RB enc Tryz.prog w 23 (([v0, v1] : List Value).drop 0 |>.take (Tryz.prog.cellsOf 23)) := hf 0 _ rfl
    have g1 : RB enc Tryz.prog w 34 (([v0, v1] : List Value).drop 1 |>.take (Tryz.prog.cellsOf 34)) := hf 1 _ rfl
    rw [vCellsSInt] at g0
    rw [vCellsSI64] at g1
    obtain ⟨o0, n0, c0, xs, rfl, a1, hc, c1⟩ := RB.intsV (v := v0) g0
    obtain ⟨ys, a2, _, c2⟩ := RB.ints (v := v1) g1 Tryz.underlying34 Tryz.underlying2 vCellsI64
    rw [vBytesI64] at c2
    unfold reachBytes at c2
    have k0 := hcell 0 _ rfl
    rw [Nat.add_zero] at k0
    refine ⟨⟨xs, ys⟩, ⟨b, off, _, _, rfl, k0, hcell 1 _ rfl, a1, a2⟩, ⟨c1, by show ys.length ≤ _; omega⟩, fun b' off' p m k he hcc => ?_⟩
    cases he
    rw [k0] at hcc
    cases hcc
    exact hc
  obtain ⟨f, hf⟩ := Deep.choose_lt (α := TensD) key
  have hll : ((List.range len).map f).length = len := by simp
  refine ⟨o, len, cap, (List.range len).map f, rfl, ⟨o, cap, by rw [hll], fun i hi => ?_⟩, ⟨by unfold reachBytes at hr; rw [hll]; omega, fun t ht => ?_⟩, fun b off c he i hi p m k hcc => ?_⟩
  · have hi' : i < len := by rw [hll] at hi; exact hi
    have : tnth ((List.range len).map f) i = f i := by rw [tnth_eq _ _ hi]; simp
    rw [this]
    exact (hf i hi').1
  · obtain ⟨i, hi, rfl⟩ := List.mem_map.1 ht
    exact (hf i (List.mem_range.1 hi)).2.1
  · rw [hll] at hi
    injection he with e1 e2 e3
    exact (hf i hi).2.2 b off p m k e1 hcc
theorem RB.listsV {v : Value} (h : RB enc Tryz.prog w 29 [v]) : ∃ o n c ls, v = .slice o n c ∧ ListsC w (.slice o n c) ls := by
  obtain ⟨o, len, cap, rfl, hr, hel⟩ := h.rows Tryz.underlying29 (by rw [vCellsSInt]; omega)
  have key : ∀ i, i < len → ∃ xs : List Int, ∃ b off p m k, o = some ⟨b, off, none⟩ ∧ w.cell? ⟨b, off + i, none⟩ = some (.slice p m k) ∧ Rd w .i64 (.slice p m k) xs ∧ m ≤ k := fun i hi => by
    obtain ⟨b, off, cs, rfl, hl, hrb, hcell⟩ := hel i hi
    rw [vCellsSInt] at hl hcell
    obtain ⟨v0, rfl⟩ := list1 hl
    obtain ⟨o0, n0, c0, xs, rfl, a1, hc, c1⟩ := RB.intsV (v := v0) hrb
    have k0 := hcell 0 _ rfl
    rw [Nat.add_zero, Nat.mul_one] at k0
    exact ⟨xs, b, off, o0, n0, c0, rfl, k0, a1, hc⟩
  obtain ⟨f, hf⟩ := Deep.choose_lt (α := List Int) key
  have hll : ((List.range len).map f).length = len := by simp
  refine ⟨o, len, cap, (List.range len).map f, rfl, o, cap, by rw [hll], fun i hi => ?_⟩
  have hi' : i < len := by rw [hll] at hi; exact hi
  have : lnth ((List.range len).map f) i = f i := by rw [lnth, List.getD_eq_getElem?_getD, List.getElem?_eq_getElem hi]; simp
  rw [this]
  exact hf i hi'
theorem RB.asks {v : Value} (h : RB enc Tryz.prog w 22 [v]) : ∃ o n c, v = .slice o n c ∧ n ≤ 140737488351232 ∧ ∀ i, i < n → AskAt w o i := by
  obtain ⟨o, len, cap, rfl, hr, hel⟩ := h.rows Tryz.underlying22 (by rw [vCellsAsk]; omega)
  rw [vBytesAsk] at hr
  refine ⟨o, len, cap, rfl, by unfold reachBytes at hr; omega, fun i hi => ?_⟩
  obtain ⟨b, off, cs, rfl, hl, hrb, hcell⟩ := hel i hi
  rw [vCellsAsk] at hl hcell
  obtain ⟨_, hf⟩ := hrb.field Tryz.underlying31
  obtain ⟨v0, v1, v2, v3, v4, v5, v6, v7, v8, v9, v10, rfl⟩ := list11 hl
  have gN : RB enc Tryz.prog w 27 (([v0, v1, v2, v3, v4, v5, v6, v7, v8, v9, v10] : List Value).drop 0 |>.take (Tryz.prog.cellsOf 27)) := hf 0 _ rfl
  have gA : RB enc Tryz.prog w 28 (([v0, v1, v2, v3, v4, v5, v6, v7, v8, v9, v10] : List Value).drop 8 |>.take (Tryz.prog.cellsOf 28)) := hf 1 _ rfl
  have gF : RB enc Tryz.prog w 3 (([v0, v1, v2, v3, v4, v5, v6, v7, v8, v9, v10] : List Value).drop 9 |>.take (Tryz.prog.cellsOf 3)) := hf 2 _ rfl
  have gS : RB enc Tryz.prog w 29 (([v0, v1, v2, v3, v4, v5, v6, v7, v8, v9, v10] : List Value).drop 10 |>.take (Tryz.prog.cellsOf 29)) := hf 3 _ rfl
  rw [vCellsNode] at gN
  rw [vCellsSTen] at gA
  rw [vCellsInt] at gF
  rw [vCellsSS] at gS
  have gN' : RB enc Tryz.prog w 27 [v0, v1, v2, v3, v4, v5, v6, v7] := gN
  obtain ⟨_, hn⟩ := gN'.field Tryz.underlying27
  have g0 : RB enc Tryz.prog w 3 (([v0, v1, v2, v3, v4, v5, v6, v7] : List Value).drop 0 |>.take (Tryz.prog.cellsOf 3)) := hn 0 _ rfl
  have g1 : RB enc Tryz.prog w 23 (([v0, v1, v2, v3, v4, v5, v6, v7] : List Value).drop 1 |>.take (Tryz.prog.cellsOf 23)) := hn 1 _ rfl
  have g2 : RB enc Tryz.prog w 23 (([v0, v1, v2, v3, v4, v5, v6, v7] : List Value).drop 2 |>.take (Tryz.prog.cellsOf 23)) := hn 2 _ rfl
  have g3 : RB enc Tryz.prog w 2 (([v0, v1, v2, v3, v4, v5, v6, v7] : List Value).drop 3 |>.take (Tryz.prog.cellsOf 2)) := hn 3 _ rfl
  have g4 : RB enc Tryz.prog w 25 (([v0, v1, v2, v3, v4, v5, v6, v7] : List Value).drop 4 |>.take (Tryz.prog.cellsOf 25)) := hn 4 _ rfl
  rw [vCellsInt] at g0
  rw [vCellsSInt] at g1 g2
  rw [vCellsI64] at g3
  rw [vCellsConv] at g4
  have g4' : RB enc Tryz.prog w 25 [v4, v5, v6, v7] := g4
  obtain ⟨_, hc⟩ := g4'.field Tryz.underlying25
  have k0 : RB enc Tryz.prog w 23 (([v4, v5, v6, v7] : List Value).drop 0 |>.take (Tryz.prog.cellsOf 23)) := hc 0 _ rfl
  have k1 : RB enc Tryz.prog w 23 (([v4, v5, v6, v7] : List Value).drop 1 |>.take (Tryz.prog.cellsOf 23)) := hc 1 _ rfl
  have k2 : RB enc Tryz.prog w 23 (([v4, v5, v6, v7] : List Value).drop 2 |>.take (Tryz.prog.cellsOf 23)) := hc 2 _ rfl
  have k3 : RB enc Tryz.prog w 23 (([v4, v5, v6, v7] : List Value).drop 3 |>.take (Tryz.prog.cellsOf 23)) := hc 3 _ rfl
  rw [vCellsSInt] at k0 k1 k2 k3
  obtain ⟨x0, rfl, _⟩ := RB.int (v := v0) g0 Tryz.underlying3
  obtain ⟨x3, rfl, _⟩ := RB.int (v := v3) g3 Tryz.underlying2
  obtain ⟨x9, rfl, _⟩ := RB.int (v := v9) gF Tryz.underlying3
  obtain ⟨oa, na, ca, al, rfl, a1, _, _⟩ := RB.intsV (v := v1) g1
  obtain ⟨oi, ni, ci, il, rfl, a2, _, _⟩ := RB.intsV (v := v2) g2
  obtain ⟨o1, n1, c1, l1, rfl, b1, _, _⟩ := RB.intsV (v := v4) k0
  obtain ⟨o2, n2, c2, l2, rfl, b2, _, _⟩ := RB.intsV (v := v5) k1
  obtain ⟨o3, n3, c3, l3, rfl, b3, _, _⟩ := RB.intsV (v := v6) k2
  obtain ⟨o4, n4, c4, l4, rfl, b4, _, _⟩ := RB.intsV (v := v7) k3
  obtain ⟨ot, nt, ct, ts, rfl, t1, t2, t3⟩ := RB.tensorsV (v := v8) gA
  obtain ⟨ol, nl, cl, ls, rfl, l1'⟩ := RB.listsV (v := v10) gS
  refine ⟨b, off, ⟨x0, x3, x9, oa, oi, o1, o2, o3, o4, ot, ol, na, ni, n1, n2, n3, n4, nt, nl, ca, ci, c1, c2, c3, c4, ct, cl, al, il, ⟨l1, l2, l3, l4⟩, ts, ls⟩, rfl, fun j v hj => hcell j v ?_, ⟨a1, a2, ⟨b1, b2, b3, b4⟩, t1, t2, t3, l1'⟩⟩
  rw [← hj, AskD.cells, List.getElem?_toArray]
end
end Go.Proofs.YtipjhdgegfgenaaGreat
