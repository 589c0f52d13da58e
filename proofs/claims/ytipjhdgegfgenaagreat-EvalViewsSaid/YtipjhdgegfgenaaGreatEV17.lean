/-
  A REGION that draws its order and ends in operations that wait for all others: the head by whatever is held at its worlds, the tail in its one order.
-/
import Derived.StillTailTactics
import Derived.Deep.RegionHeld3
import Derived.Lib.Hide
import Derived.Test.YtipjhdgegfgenaaGreatEV14
set_option linter.unusedVariables false
set_option linter.unusedSimpArgs false
namespace Go.Proofs.YtipjhdgegfgenaaGreat
open Go
section
variable {P : Program} {md : Region.Mode} {ops : Array Oper} {Q : Exit → Act → World → Prop} {T : Array Bool → Act → World → Prop} {S : World → Prop}
/-- so many operations in whatever order, S behind each; then T -/
def wpAnyT (P : Program) (md : Region.Mode) (ops : Array Oper) (Q : Exit → Act → World → Prop) (T : Array Bool → Act → World → Prop) (S : World → Prop) : Nat → Array Bool → Act → World → Prop
  | 0, listed, a, w => T listed a w
  | fuel + 1, listed, a, w => Region.ready md ops listed ≠ [] ∧ ∀ i ∈ Region.ready md ops listed, wpOp P ops Q i (fun a' w' => S w' ∧ wpAnyT P md ops Q T S fuel (listed.setIfInBounds i true) a' w') a w
theorem wpAny_of_T {g : Nat} (hT : ∀ listed a w, T listed a w → wpAny P md ops Q g listed a w) : ∀ (fuel : Nat) (listed : Array Bool) (a : Act) (w : World), wpAnyT P md ops Q T S fuel listed a w → wpAny P md ops Q (fuel + g) listed a w
  | 0, listed, a, w, h => by rw [Nat.zero_add]; exact hT _ _ _ h
  | fuel + 1, listed, a, w, h => by
    rw [show fuel + 1 + g = (fuel + g) + 1 by omega]
    exact ⟨fun h0 => absurd h0 h.1, fun i hi => wpOp_mono (fun a' w' h' => wpAny_of_T hT fuel _ a' w' h'.2) (h.2 i hi)⟩
/-- whatever has come up, all that it waits for has -/
def ClosedL (md : Region.Mode) (ops : Array Oper) (listed : Array Bool) : Prop := ∀ j oj, ops[j]? = some oj → listed.getD j false = true → ∀ e ∈ oj.after, Region.binds md e = true → listed.getD e.on false = true
def reachB (md : Region.Mode) (ops : Array Oper) : Nat → Nat → Nat → Bool
  | 0, _, _ => false
  | f + 1, n, i => match ops[n]? with
    | some o => o.after.toList.any fun e => Region.binds md e && (e.on == i || reachB md ops f e.on i)
    | none => false
theorem reach_listed {listed : Array Bool} (hc : ClosedL md ops listed) : ∀ (f n i : Nat), (∀ o, ops[n]? = some o → ∀ e ∈ o.after, Region.binds md e = true → listed.getD e.on false = true) → reachB md ops f n i = true → listed.getD i false = true
  | 0, _, _, _, h => by cases h
  | f + 1, n, i, hn, h => by
    rw [reachB] at h
    cases ho : ops[n]? with
    | none => rw [ho] at h; cases h
    | some o =>
      rw [ho] at h
      simp only [List.any_eq_true, Array.mem_toList_iff, Bool.and_eq_true, Bool.or_eq_true, beq_iff_eq] at h
      obtain ⟨e, he, hb, h1⟩ := h
      have hl := hn o ho e he hb
      rcases h1 with h1 | h1
      · rw [← h1]; exact hl
      · exact reach_listed hc f e.on i (fun o2 ho2 e2 he2 hb2 => hc e.on o2 ho2 hl e2 he2 hb2) h1
theorem closed_set {listed : Array Bool} {j : Nat} (hc : ClosedL md ops listed) (hj : j ∈ Region.ready md ops listed) : ClosedL md ops (listed.setIfInBounds j true) := fun k ok hk hl e he hb => by
  obtain ⟨_, oj, hoj, hall⟩ := mem_ready.1 hj
  have key : ∀ x, listed.getD x false = true → (listed.setIfInBounds j true).getD x false = true := fun x hx => by
    by_cases hxj : j = x
    · subst hxj
      rcases Nat.lt_or_ge j listed.size with h' | h'
      · simp [h']
      · simp [Array.getElem?_eq_none h'] at hx
    · rw [getD_set_ne false hxj]; exact hx
  by_cases hkj : j = k
  · subst hkj
    rw [hk] at hoj
    cases hoj
    exact key _ (hall e he hb)
  · rw [getD_set_ne false hkj] at hl
    exact key _ (hc k ok hk hl e he hb)
def closedB (md : Region.Mode) (ops : Array Oper) (listed : Array Bool) : Bool := (List.range ops.size).all fun j => !listed.getD j false || (match ops[j]? with
  | some o => o.after.toList.all fun e => !Region.binds md e || listed.getD e.on false
  | none => true)
theorem closed_of {listed : Array Bool} (h : closedB md ops listed = true) : ClosedL md ops listed := fun j oj hj hl e he hb => by
  have h1 := List.all_eq_true.1 h j (List.mem_range.2 (Array.getElem?_eq_some_iff.1 hj).1)
  rw [hj, hl] at h1
  simp only [Bool.not_true, Bool.false_or, List.all_eq_true, Array.mem_toList_iff] at h1
  have h2 := h1 e he
  rw [hb] at h2
  simpa using h2
theorem wpAnyT_first {i n : Nat} {oi on_ : Oper} {v : Value} {ff : Nat} (hn : ops[n]? = some on_) (hw : reachB md ops ff n i = true) (hTn : ∀ listed a w, T listed a w → ∀ j ∈ Region.ready md ops listed, j = n)
    (hi : ops[i]? = some oi) (hsel : ∀ (j : Nat) (o : Oper) cs b, ops[j]? = some o → o.op ≠ .select cs b)
    (hQ : ∀ c a w, Q (.panic c) (a.put oi.dst v) w → Q (.panic c) a w) :
    ∀ (fuel : Nat) (listed : Array Bool) (a : Act) (w : World), ClosedL md ops listed →
      (∀ j oj, ops[j]? = some oj → j ≠ i → listed.getD j true = false → (∀ e ∈ oj.after, Region.binds md e = true → e.on ≠ i) → oi.apart ops oj = true) →
      i ∈ Region.ready md ops listed → YieldsIf P ops S oi v a → S w →
      wpAnyT P md ops Q T S fuel (listed.setIfInBounds i true) (a.put oi.dst v) w → wpAnyT P md ops Q T S (fuel + 1) listed a w := by
  have hnot : ∀ (listed : Array Bool) (j : Nat) (oj : Oper), i ∈ Region.ready md ops listed → ops[j]? = some oj → (∀ e ∈ oj.after, Region.binds md e = true → listed.getD e.on false = true) → ∀ e ∈ oj.after, Region.binds md e = true → e.on ≠ i := fun listed j oj hr hoj hall e he hb heq => by
    have h1 := hall e he hb
    have h0 := (mem_ready.1 hr).1
    rw [heq] at h1
    rcases Nat.lt_or_ge i listed.size with h' | h'
    · simp [h'] at h0 h1; rw [h0] at h1; cases h1
    · simp [Array.getElem?_eq_none h'] at h1
  intro fuel
  induction fuel with
  | zero =>
    intro listed a w hc _ hr hy hS H
    refine ⟨fun h => (by rw [h] at hr; cases hr), fun j hj => ?_⟩
    by_cases hji : j = i
    · subst hji; exact hy.wpOp hi hS ⟨hS, H⟩
    · have hjn := hTn _ _ _ H j (ready_mono hj hji)
      subst hjn
      obtain ⟨_, oj, hoj, hall⟩ := mem_ready.1 hj
      rw [hn] at hoj
      cases hoj
      have h1 := reach_listed hc ff _ i (fun o ho e he hb => by rw [hn] at ho; cases ho; exact hall e he hb) hw
      have h0 := (mem_ready.1 hr).1
      rcases Nat.lt_or_ge i listed.size with h' | h'
      · simp [h'] at h0 h1; rw [h0] at h1; cases h1
      · simp [Array.getElem?_eq_none h'] at h1
  | succ fuel ih =>
    intro listed a w hc hfree hr hy hS H
    refine ⟨fun h => (by rw [h] at hr; cases hr), fun j hj => ?_⟩
    by_cases hji : j = i
    · subst hji; exact hy.wpOp hi hS ⟨hS, H⟩
    · have h1 := H.2 j (ready_mono hj hji)
      obtain ⟨hjun, oj, hoj, hall⟩ := mem_ready.1 hj
      have h2 := wpOp_putIf hoj (hfree j oj hoj hji hjun (hnot listed j oj hr hoj hall)) (fun cs b => hsel i oi cs b hi) (fun cs b => hsel j oj cs b hoj) hQ hy h1
      have hfree' : ∀ k ok, ops[k]? = some ok → k ≠ i → (listed.setIfInBounds j true).getD k true = false →
          (∀ e ∈ ok.after, Region.binds md e = true → e.on ≠ i) → oi.apart ops ok = true := fun k ok hk hki hun hno => by
        refine hfree k ok hk hki ?_ hno
        by_cases hjk : j = k
        · subst hjk; exact hjun
        · rw [getD_set_ne true hjk] at hun; exact hun
      refine wpOp_mono (fun a' w' h3 => ⟨h3.2.1, ih (listed.setIfInBounds j true) a' w' (closed_set hc hj) hfree' (ready_mono hr (Ne.symm hji)) h3.1 h3.2.1 ?_⟩) h2
      rw [Array.setIfInBounds_comm _ _ hji]
      exact h3.2.2
/-- the tail in its one order -/
def tailT (P : Program) (md : Region.Mode) (l : List Oper) (Q : Exit → Act → World → Prop) (n : Nat) (listed : Array Bool) (a : Act) (w : World) : Prop := Region.seqB md l.toArray (l.length - n) n listed = true ∧ wpList P l.toArray Q (l.drop n) a w
theorem wp_region_split {id : Nat} {Q : Exit → Act → World → Prop} {a : Act} {w : World} {l : List Oper} (n : Nat) (hm : P.follows .mixedOrders = true) (hn : n ≤ l.length)
    (h : wpAnyT P .any l.toArray Q (tailT P .any l Q n) S n (Array.replicate l.length false) a w.drew) : (Code.region id l.toArray true).wp P Q a w := by
  refine wp_region_any hm ?_
  have := wpAny_of_T (g := l.length - n) (fun listed a w ht => by
    have h1 := wpAny_of_seq (md := .any) (Q' := Q) (l.drop n) n listed a w (fun j => by simp [List.getElem?_drop]) (by rw [List.length_drop]; exact ht.1) ht.2
    rwa [List.length_drop] at h1) n _ a w.drew h
  rw [show n + (l.length - n) = l.length by omega] at this
  simpa using this
theorem wpAnyT_take {l : List Oper} {i n : Nat} {oi : Oper} {v : Value} {fuel : Nat} {listed : Array Bool} {a : Act} {w : World} (hi : l.toArray[i]? = some oi) (hin : (decide (n < l.length) && reachB md l.toArray l.length n i) = true) (hcl : closedB md l.toArray listed = true)
    (hs : Region.noSelect l.toArray = true) (hf : Region.free md l.toArray listed i = true) (hr : (Region.ready md l.toArray listed).contains i = true)
    (hQ : ∀ c a w, Q (.panic c) (a.put oi.dst v) w → Q (.panic c) a w) (hy : YieldsIf P l.toArray S oi v a) (hS : S w)
    (h : wpAnyT P md l.toArray Q (tailT P md l Q n) S fuel (listed.setIfInBounds i true) (a.put oi.dst v) w) : wpAnyT P md l.toArray Q (tailT P md l Q n) S (fuel + 1) listed a w := by
  simp only [Bool.and_eq_true, decide_eq_true_eq] at hin
  obtain ⟨hnl, hw⟩ := hin
  refine wpAnyT_first (on_ := l[n]) (by simp [hnl]) hw (fun listed a w ht j hj => ?_) hi (Region.noSelect_spec hs) hQ fuel listed a w (closed_of hcl) (Region.free_spec hi hf) (by simpa using hr) hy hS h
  have h1 := ht.1
  rw [show l.length - n = (l.length - n - 1) + 1 by omega] at h1
  simp only [Region.seqB, Bool.and_eq_true, decide_eq_true_eq] at h1
  rw [h1.1] at hj
  simpa using hj
/-- each of the operations 'rs' comes up next -/
def AllReadyT (P : Program) (md : Region.Mode) (ops : Array Oper) (Q : Exit → Act → World → Prop) (T : Array Bool → Act → World → Prop) (S : World → Prop) (fuel : Nat) (listed : Array Bool) (a : Act) (w : World) (rs : List Nat) : Prop :=
  ∀ i ∈ rs, wpOp P ops Q i (fun a' w' => S w' ∧ wpAnyT P md ops Q T S fuel (listed.setIfInBounds i true) a' w') a w
theorem AllReadyT.nil {fuel : Nat} {listed : Array Bool} {a : Act} {w : World} : AllReadyT P md ops Q T S fuel listed a w [] := fun _ h => by cases h
theorem AllReadyT.cons {fuel : Nat} {listed : Array Bool} {a : Act} {w : World} {i : Nat} {o : Oper} {rs : List Nat} (ho : ops[i]? = some o)
    (h : ∀ K' : Act → World → Prop, Shut (∀ a w, S w → (S w → wpAnyT P md ops Q T S fuel (listed.setIfInBounds i true) a w) → K' a w) → if Region.wanted o (yielded ops a.tmps) = true then Oper.wp P o a w K' Q else K' (a.put o.dst undef) w)
    (hs : AllReadyT P md ops Q T S fuel listed a w rs) : AllReadyT P md ops Q T S fuel listed a w (i :: rs) := fun j hj => by
  rcases List.mem_cons.1 hj with rfl | hj
  · exact wpOp_step ho (fun K' hK => h K' (fun a w hS hW => hK a w ⟨hS, hW hS⟩))
  · exact hs j hj
theorem wpAnyT_ready {rs : List Nat} {fuel : Nat} {listed : Array Bool} {a : Act} {w : World} (hr : Region.ready md ops listed = rs) (hne : rs ≠ []) (h : AllReadyT P md ops Q T S fuel listed a w rs) : wpAnyT P md ops Q T S (fuel + 1) listed a w :=
  ⟨fun h0 => hne (hr.symm.trans h0), fun i hi => h i (by rw [← hr]; exact hi)⟩
end
end Go.Proofs.YtipjhdgegfgenaaGreat
