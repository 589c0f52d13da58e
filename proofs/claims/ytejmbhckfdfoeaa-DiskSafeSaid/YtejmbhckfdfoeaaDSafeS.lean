/-
  DiskSafe, in plain: what is kept of a name that was synced; what a crash leaves may be a disk's files.
-/
import Derived.Test.YtejmbhckfdfoeaaDCrashS
import Derived.Test.YtejmbhckfdfoeaaDRefused
import Derived.Test.YtejmbhckfdfoeaaDLawS
set_option linter.unusedVariables false
set_option linter.unusedSimpArgs false
namespace Go.Proofs.Ytejmbhckfdfoeaa
open Go.RowKit Go.Maps
def keptN : List UInt8 := [107, 101, 112, 116]
def keptB : List Int := [107, 101, 112, 116]
/-- a list of names that may be, that leads from the kept name to this file -/
structure OkL (ids : List Nat) (f : Nat) (l : NM) : Prop where
  mem : ∀ q ∈ l, q.2 ∈ ids ∧ goodNm q.1 = true
  len : l.length ≤ 16
  get : lget l keptN = some f
theorem OkL.mono {ids ids' : List Nat} {f : Nat} {l : NM} (h : OkL ids f l) (hi : ∀ k ∈ ids, k ∈ ids') : OkL ids' f l := ⟨fun q hq => ⟨hi _ (h.mem q hq).1, (h.mem q hq).2⟩, h.len, h.get⟩
theorem OkL.id {ids : List Nat} {f : Nat} {l : NM} (h : OkL ids f l) : f ∈ ids := (h.mem _ (lget_mem h.get)).1
theorem Chg.ris {l : NM} (h : Ris l) (c : Chg) : Ris (c.on l) := by
  cases c with
  | put x f => exact h.put x f
  | mv a b f => exact (h.del a).put b f
  | del x => exact h.del x
theorem runC_ris {l : NM} (h : Ris l) (cs : List Chg) : Ris (runC l cs) := by
  induction cs generalizing l with
  | nil => exact h
  | cons c r ih => exact ih (Chg.ris h c)
structure Inv (s : DSt) (f : Nat) : Prop where
  run : s.seen = runC s.safe s.chs
  all : ∀ n, n ≤ s.chs.length → OkL s.ids f (runC s.safe (s.chs.take n))
  ris : Ris s.safe
  hby : s.by_ f = keptB
  hsf : s.sf f = keptB
theorem Inv.now {s : DSt} {f : Nat} (h : Inv s f) : OkL s.ids f s.seen := by
  have := h.all s.chs.length (Nat.le_refl _)
  rwa [List.take_length, ← h.run] at this
theorem Inv.seenRis {s : DSt} {f : Nat} (h : Inv s f) : Ris s.seen := by rw [h.run]; exact runC_ris h.ris _
theorem Inv.stroke {s : DSt} {f : Nat} (h : Inv s f) : Inv (strokeS s) f := ⟨h.run, h.all, h.ris, h.hby, h.hsf⟩
theorem Inv.change {s s' : DSt} {f : Nat} (h : Inv s f) (c : Chg) (h1 : s'.seen = c.on s.seen) (h2 : s'.safe = s.safe) (h3 : s'.chs = s.chs ++ [c]) (hi : ∀ k ∈ s.ids, k ∈ s'.ids) (hb : s'.by_ f = keptB) (hf : s'.sf f = keptB) (hok : OkL s'.ids f (c.on s.seen)) : Inv s' f := by
  refine ⟨by rw [h1, h2, h3, runC_snoc, ← h.run], fun n hn => ?_, by rw [h2]; exact h.ris, hb, hf⟩
  rw [h2, h3]
  rw [h3, List.length_append, List.length_singleton] at hn
  rcases Nat.lt_or_ge n (s.chs.length + 1) with hlt | hge
  · rw [List.take_append_of_le_length (by omega)]
    exact (h.all n (by omega)).mono hi
  · rw [List.take_of_length_le (by simp; omega), runC_snoc, ← h.run]
    exact hok
theorem okL_put {ids : List Nat} {f g : Nat} {l : NM} (h : OkL ids f l) (hr : Ris l) (x : List UInt8) (hx : goodNm x = true) (hne : x ≠ keptN) (hg : g ∈ ids) (hlen : ¬ (lget l x = none ∧ l.length = 16)) : OkL ids f (lput l x g) := by
  refine ⟨fun q hq => ?_, ?_, by rw [lget_put_other hr (fun e => hne e.symm)]; exact h.get⟩
  · rcases lput_mem hq with rfl | hq
    · exact ⟨hg, hx⟩
    · exact h.mem q hq
  · rw [lput_length hr]
    have := h.len
    cases hgx : lget l x with
    | some k => simpa using this
    | none =>
      have h15 : l.length ≠ 16 := fun e => hlen ⟨hgx, e⟩
      simp
      omega
theorem okL_del {ids : List Nat} {f : Nat} {l : NM} (h : OkL ids f l) (hr : Ris l) (x : List UInt8) (hne : x ≠ keptN) : OkL ids f (ldel l x) :=
  ⟨fun q hq => h.mem q (ldel_mem hq), Nat.le_trans (List.length_filter_le _ _) h.len, by rw [lget_del_other hr (fun e => hne e.symm)]; exact h.get⟩
theorem Inv.write {s : DSt} {f g : Nat} (h : Inv s f) (x : List UInt8) (xs : List Int) (hx : goodNm x = true) (hne : x ≠ keptN) (hg : g ∉ s.ids) (hlen : ¬ (lget s.seen x = none ∧ s.seen.length = 16)) : Inv (writeS (strokeS s) x g xs) f := by
  have hfg : f ≠ g := fun e => hg (e ▸ h.now.id)
  refine h.change (.put x g) rfl rfl rfl (fun k hk => List.mem_cons_of_mem _ hk) ?_ ?_ ?_
  · show updF s.by_ g xs f = keptB
    simp only [updF, if_neg hfg]; exact h.hby
  · show updF s.sf g [] f = keptB
    simp only [updF, if_neg hfg]; exact h.hsf
  · exact okL_put (h.now.mono fun k hk => List.mem_cons_of_mem _ hk) h.seenRis x hx hne (List.mem_cons_self ..) hlen
theorem Inv.rename {s : DSt} {f g : Nat} (h : Inv s f) (a b : List UInt8) (hb : goodNm b = true) (hna : a ≠ keptN) (hnb : b ≠ keptN) (hg : lget s.seen a = some g) : Inv (chgS (strokeS s) (.mv a b g)) f := by
  refine h.change (.mv a b g) rfl rfl rfl (fun k hk => hk) h.hby h.hsf ?_
  refine okL_put (okL_del h.now h.seenRis a hna) (h.seenRis.del a) b hb hnb (h.now.mem _ (lget_mem hg)).1 (fun hc => ?_)
  have := ldel_length h.seenRis a
  rw [hg] at this
  have h16 := h.now.len
  simp at this
  omega
theorem Inv.remove {s : DSt} {f : Nat} (h : Inv s f) (x : List UInt8) (hne : x ≠ keptN) : Inv (chgS (strokeS s) (.del x)) f :=
  h.change (.del x) rfl rfl rfl (fun k hk => hk) h.hby h.hsf (okL_del h.now h.seenRis x hne)
theorem Inv.sync {s : DSt} {f : Nat} (h : Inv s f) (g : Nat) : Inv (syncS s g) f := by
  unfold syncS
  cases offB s with
  | true => exact h.stroke
  | false =>
    refine ⟨h.run, h.all, h.ris, h.hby, ?_⟩
    show updF s.sf g (s.by_ g) f = keptB
    unfold updF
    split
    · rename_i e; rw [← e]; exact h.hby
    · exact h.hsf
theorem Inv.dir {s : DSt} {f : Nat} (h : Inv s f) : Inv (syncDirS s) f := by
  unfold syncDirS
  cases offB s with
  | true => exact h.stroke
  | false =>
    refine ⟨rfl, fun n hn => ?_, h.seenRis, h.hby, h.hsf⟩
    have : n = 0 := by simpa using hn
    subst this
    exact h.now
/-! ### what a crash leaves -/
theorem crash_keep (s : DSt) : ∀ (l : NM) (acc : List FileD × List Int) (g : FileD), g ∈ acc.1 → g ∈ (l.foldl (crashStep s) acc).1
  | [], _, _, h => h
  | q :: r, acc, g, h => by
    rw [List.foldl_cons]
    refine crash_keep s r _ g ?_
    unfold crashStep
    split <;> simp [h]
theorem crash_mem (s : DSt) {q : List UInt8 × Nat} (he : s.by_ q.2 = s.sf q.2) : ∀ (l : NM) (acc : List FileD × List Int), q ∈ l → (⟨q.1, s.sf q.2⟩ : FileD) ∈ (l.foldl (crashStep s) acc).1
  | q' :: r, acc, h => by
    rw [List.foldl_cons]
    rcases List.mem_cons.1 h with rfl | h
    · refine crash_keep s r _ _ ?_
      unfold crashStep
      rw [if_pos he]
      simp
    · exact crash_mem s he r _ h
theorem crash_names (s : DSt) : ∀ (l : NM) (acc : List FileD × List Int), (l.foldl (crashStep s) acc).1.map (·.nm) = acc.1.map (·.nm) ++ l.map (·.1)
  | [], acc => by simp
  | q :: r, acc => by
    rw [List.foldl_cons, crash_names s r]
    unfold crashStep
    split <;> simp
theorem crash_data (s : DSt) {N : Nat} : ∀ (l : NM) (acc : List FileD × List Int), (∀ g ∈ acc.1, g.da.length ≤ N) → (∀ q ∈ l, (s.by_ q.2).length ≤ N ∧ (s.sf q.2).length ≤ N) → ∀ g ∈ (l.foldl (crashStep s) acc).1, g.da.length ≤ N
  | [], _, h, _ => h
  | q :: r, acc, h, hl => by
    rw [List.foldl_cons]
    have hq := hl q (List.mem_cons_self ..)
    refine crash_data s r _ (fun g hg => ?_) (fun q' hq' => hl q' (List.mem_cons_of_mem _ hq'))
    unfold crashStep at hg
    split at hg
    · rcases List.mem_append.1 hg with hg | hg
      · exact h g hg
      · rw [List.mem_singleton.1 hg]; exact hq.2
    · rcases List.mem_append.1 hg with hg | hg
      · exact h g hg
      · rw [List.mem_singleton.1 hg]
        show (pickB s q.2 _).length ≤ N
        unfold pickB
        split
        · exact Nat.le_trans (by simp; omega) hq.1
        · exact hq.2
theorem mayB_of {fs : List FileD} {l : NM} (hn : fs.map (·.nm) = l.map (·.1)) (hr : Ris l) (hg : ∀ q ∈ l, goodNm q.1 = true) (hl : l.length ≤ 16) (hd : ∀ g ∈ fs, g.da.length ≤ 4194304) : mayB fs = true := by
  have hlen : fs.length = l.length := by have := congrArg List.length hn; simpa using this
  have hnm : ∀ i (hi : i < fs.length), (fnth fs i).nm = (l[i]'(by omega)).1 := fun i hi => by
    have h1 : (fs.map (·.nm))[i]? = (l.map (·.1))[i]? := by rw [hn]
    rw [List.getElem?_map, List.getElem?_map, List.getElem?_eq_getElem hi, List.getElem?_eq_getElem (by omega)] at h1
    simp at h1
    rw [fnth, List.getD_eq_getElem?_getD, List.getElem?_eq_getElem hi]
    exact h1
  rw [mayB, Bool.and_eq_true, decide_eq_true_eq]
  refine ⟨by omega, List.all_eq_true.2 fun i hi => ?_⟩
  have hi' : i < fs.length := List.mem_range.1 hi
  simp only [okAt, Bool.and_eq_true, Bool.or_eq_true, decide_eq_true_eq]
  refine ⟨?_, hd _ (fnth_mem fs i hi'), ?_⟩
  · rw [hnm i hi']; exact hg _ (List.getElem_mem _)
  · rcases Nat.eq_zero_or_pos i with h0 | h0
    · exact .inl h0
    · refine .inr ?_
      rw [bytesLess_eq, decide_eq_true_eq, hnm i hi', hnm (i - 1) (by omega)]
      exact List.pairwise_iff_getElem.1 hr (i - 1) i (by omega) (by omega) (by omega)
theorem Inv.left {s : DSt} {f : Nat} (h : Inv s f) (pk : List Int) : OkL s.ids f (crashLeft s pk) := h.all _ (crashN_le s pk)
theorem Inv.leftRis {s : DSt} {f : Nat} (h : Inv s f) (pk : List Int) : Ris (crashLeft s pk) := runC_ris h.ris _
theorem Inv.crashNames {s : DSt} {f : Nat} (h : Inv s f) (pk : List Int) : (crashR s pk).map (·.nm) = (crashLeft s pk).map (·.1) := by
  have := crash_names s (crashLeft s pk) ([], pk.tail)
  simpa [crashR, crashOf] using this
theorem Inv.crashMay {B : Nat} {w : World} {p bs bf : Nat} {cv : Value} {vs : List Value} {s : DSt} {f : Nat} (h : Inv s f) (hd : DRepr B w p bs bf cv vs s) (pk : List Int) : mayB (crashR s pk) = true := by
  refine mayB_of (h.crashNames pk) (h.leftRis pk) (fun q hq => ((h.left pk).mem q hq).2) (h.left pk).len ?_
  refine crash_data s (crashLeft s pk) ([], pk.tail) (fun g hg => by simp at hg) (fun q hq => ?_)
  obtain ⟨⟨vb, vs', _, h1, h2⟩, _⟩ := hd.files _ ((h.left pk).mem q hq).1
  exact ⟨h1.len, h2.len⟩
theorem Inv.crashLen {s : DSt} {f : Nat} (h : Inv s f) (pk : List Int) : (crashR s pk).length ≤ 16 := by
  have := congrArg List.length (h.crashNames pk)
  have h2 := (h.left pk).len
  simp at this
  omega
theorem Inv.crashKept {s : DSt} {f : Nat} (h : Inv s f) (pk : List Int) : (⟨keptN, keptB⟩ : FileD) ∈ crashR s pk := by
  have := crash_mem s (q := (keptN, f)) (by rw [h.hby, h.hsf]) (crashLeft s pk) ([], pk.tail) (lget_mem (h.left pk).get)
  rw [h.hsf] at this
  exact this
theorem SeenIs.list {s : DSt} {l : List FileD} (h : SeenIs s l) : s.seen.map (fdOf s) = l := by
  have := congrArg (List.map fun (p : List UInt8 × List Int) => (⟨p.1, p.2⟩ : FileD)) h.seen
  show s.seen.map (fun q => (⟨q.1, s.by_ q.2⟩ : FileD)) = l
  simpa [Function.comp_def] using this
end Go.Proofs.Ytejmbhckfdfoeaa
