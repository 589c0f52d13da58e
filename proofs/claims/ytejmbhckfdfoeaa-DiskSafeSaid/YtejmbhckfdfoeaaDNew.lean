/-
  New: a disk with files that are safe.
-/
import Derived.Test.YtejmbhckfdfoeaaDEntry
set_option linter.unusedVariables false
set_option linter.unusedSimpArgs false
namespace Go.Proofs.Ytejmbhckfdfoeaa
open Go.RowKit Go.Maps
theorem DRepr.mappedSafe {B : Nat} {w w' : World} {p bs bf : Nat} {cv : Value} {vs : List Value} {s : DSt} (h : DRepr B w p bs bf cv vs s) {l : NM} (hm : MapRep w' bf l) (hg : w.grownBy w' (some bf)) (hin : ∀ q ∈ l, q.2 ∈ s.ids) :
    DRepr B w' p bs bf cv vs { s with safe := l } ∧ Step B w w' := by
  obtain ⟨es, c, hh⟩ := h.safe.isMap
  have hst : Step B w w' := Step.of_grown hg hh rfl h.hf
  have hk : ∀ k, k < w.heap.size → k ≠ bf → w'.heap[k]? = w.heap[k]? := fun k hk hne => hg.block k hk (fun e => hne (by cases e; rfl))
  refine ⟨⟨box_grown h.box h.safe hg, h.seen.block (hk bs h.seen.lt h.ne), hm, h.ne, ?_, fun i c hi => let ⟨v, h1, h2⟩ := h.chs i c hi; ⟨v, h1, h2.step hst⟩, fun f hf => ?_, h.in1, hin, h.nm1, h.hp, h.hs, h.hf, h.strk, h.offb, h.chl, h.many⟩, hst⟩
  · refine ⟨h.row.1, ?_⟩
    rcases h.row.2 with hn | ⟨g, cap, cur, rfl, hb, hgg, rest⟩
    · exact .inl hn
    · exact .inr ⟨g, cap, cur, rfl, hb, by
        rw [hk g (Array.getElem?_eq_some_iff.1 hgg).1 fun e => by
          subst e
          rw [hh] at hgg
          cases hgg]
        exact hgg, rest⟩
  · obtain ⟨⟨vb, vs'', h1, h2, h3⟩, h4⟩ := h.files f hf
    exact ⟨⟨vb, vs'', box_grown h1 h.safe hg, h2.step hst, h3.step hst⟩, h4⟩
theorem lput_last {l : NM} {x : List UInt8} {i : Nat} (h : ∀ p ∈ l, p.1 < x) : lput l x i = l ++ [(x, i)] := by
  have hd : ldel l x = l := List.filter_eq_self.2 fun p hp => by
    have : p.1 ≠ x := fun e => nm_irr x (e ▸ h p hp)
    simpa using this
  rw [lput, hd]
  clear hd
  induction l with
  | nil => rfl
  | cons q r ih =>
    rw [lins, if_pos (h q (List.mem_cons_self ..)), ih fun p hp => h p (List.mem_cons_of_mem _ hp)]
    rfl
/-- the names that are seen lead to these files, all safe -/
structure SeenIs (s : DSt) (l : List FileD) : Prop where
  seen : s.seen.map (fun q => (q.1, s.by_ q.2)) = l.map (fun f => (f.nm, f.da))
  sf : ∀ q ∈ s.seen, s.sf q.2 = s.by_ q.2
  safe : s.safe = s.seen
  chs : s.chs = []
  strokes : s.strokes = 0
  dead : s.dead = false
theorem SeenIs.names {s : DSt} {l : List FileD} (h : SeenIs s l) : s.seen.map (·.1) = l.map (·.nm) := by
  have := congrArg (List.map Prod.fst) h.seen
  simpa [Function.comp_def] using this
theorem SeenIs.length {s : DSt} {l : List FileD} (h : SeenIs s l) : s.seen.length = l.length := by
  have := congrArg List.length h.names
  simpa using this
def enterS (s : DSt) (x : List UInt8) (f : Nat) (xs : List Int) : DSt := { addS s f xs xs with seen := lput s.seen x f, safe := lput s.safe x f }
theorem SeenIs.enter {s : DSt} {l : List FileD} (h : SeenIs s l) (g : FileD) (f : Nat) (hn : ∀ q ∈ s.seen, q.2 ≠ f) (hlt : ∀ q ∈ s.seen, q.1 < g.nm) : SeenIs (enterS s g.nm f g.da) (l ++ [g]) := by
  have e1 : lput s.seen g.nm f = s.seen ++ [(g.nm, f)] := lput_last hlt
  have e2 : ∀ q ∈ s.seen, updF s.by_ f g.da q.2 = s.by_ q.2 := fun q hq => by simp [updF, hn q hq]
  refine ⟨?_, fun q hq => ?_, ?_, h.chs, h.strokes, h.dead⟩
  · show (lput s.seen g.nm f).map (fun q => (q.1, updF s.by_ f g.da q.2)) = _
    rw [e1, List.map_append, List.map_append, ← h.seen]
    congr 1
    · exact List.map_congr_left fun q hq => by rw [e2 q hq]
    · simp [updF]
  · have hq' : q ∈ s.seen ++ [(g.nm, f)] := by rw [← e1]; exact hq
    rcases List.mem_append.1 hq' with hq' | hq'
    · show updF s.sf f g.da q.2 = updF s.by_ f g.da q.2
      simp only [updF, if_neg (hn q hq')]
      exact h.sf q hq'
    · show updF s.sf f g.da q.2 = updF s.by_ f g.da q.2
      simp only [List.mem_singleton] at hq'
      subst hq'
      simp [updF]
  · show lput s.safe g.nm f = lput s.seen g.nm f
    rw [h.safe]
theorem okTo_at {fs : List FileD} {n k : Nat} (h : okTo fs n = true) (hk : k < n) : okAt fs k = true := List.all_eq_true.1 h k (List.mem_range.2 hk)
theorem okTo_lt {fs : List FileD} {k : Nat} (h : okTo fs fs.length = true) (hk : k < fs.length) : ∀ j, j < k → (fnth fs j).nm < (fnth fs k).nm := by
  induction k with
  | zero => intro j hj; omega
  | succ k ih =>
    intro j hj
    have hs : (fnth fs k).nm < (fnth fs (k + 1)).nm := by
      have := okTo_at h hk
      simp only [okAt, Bool.and_eq_true, Bool.or_eq_true, decide_eq_true_eq] at this
      rcases this.2.2 with h0 | h0
      · omega
      · rw [bytesLess_eq, decide_eq_true_eq] at h0
        exact h0
    rcases Nat.lt_or_ge j k with hjk | hjk
    · exact nm_trans (ih (by omega) j hjk) hs
    · have : j = k := by omega
      subst this
      exact hs
theorem take_fnth (fs : List FileD) (k : Nat) (h : k < fs.length) : fs.take (k + 1) = fs.take k ++ [fnth fs k] := by
  rw [List.take_succ_eq_append_getElem h, fnth, List.getD_eq_getElem?_getD, List.getElem?_eq_getElem h]; rfl
theorem SeenIs.below_next {s : DSt} {fs : List FileD} {k : Nat} (h : SeenIs s (fs.take k)) (hok : okTo fs fs.length = true) (hk : k < fs.length) : ∀ q ∈ s.seen, q.1 < (fnth fs k).nm := by
  intro q hq
  have : q.1 ∈ (fs.take k).map (·.nm) := by rw [← h.names]; exact List.mem_map.2 ⟨q, hq, rfl⟩
  obtain ⟨g, hg, he⟩ := List.mem_map.1 this
  obtain ⟨j, hj, rfl⟩ := List.mem_take_iff_getElem.1 hg
  rw [← he]
  have hj' : j < k := by omega
  have := okTo_lt hok hk j hj'
  rwa [fnth, List.getD_eq_getElem?_getD, List.getElem?_eq_getElem (by omega)] at this
def newS (off : Int) : DSt := ⟨[], [], [], 0, off, false, fun _ => [], fun _ => [], []⟩
end Go.Proofs.Ytejmbhckfdfoeaa
