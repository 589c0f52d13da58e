/-
  CHANGES of names: the three closures on a map; alter.
-/
import Derived.Test.YtejmbhckfdfoeaaDClone
set_option linter.unusedVariables false
set_option linter.unusedSimpArgs false
namespace Go.Proofs.Ytejmbhckfdfoeaa
open Go.RowKit Go.Maps
theorem info_chg : (Try.prog.info? 78).map (fun i => (i.zero, i.size, i.bytes)) = some (some .nilFunc, 1, 8) := by kernel_rfl
theorem grown_trans' {a b c : World} {r : Option Nat} (h : a.grownBy b r) (k : b.grownBy c r) : a.grownBy c r :=
  ⟨k.os.trans h.os, k.tape.trans h.tape, k.output.trans h.output, Nat.le_trans h.size k.size, fun i hi hne => (k.block i (Nat.lt_of_lt_of_le hi h.size) hne).trans (h.block i hi hne)⟩
theorem box_grown {w w' : World} {b m : Nat} {l : NM} {T : TypeId} {cs : Array Value} (h : Box w b T cs) (hm : MapRep w m l) (hg : w.grownBy w' (some m)) : Box w' b T cs := by
  refine (hg.block b h.lt fun e => ?_).trans h
  cases e
  obtain ⟨es, c, hh⟩ := hm.isMap
  unfold Box at h
  rw [hh] at h
  cases h
theorem wput_any (cf cx b f : Nat) (x : List UInt8) (l : NM) (w : World) (h1 : Box w cf 66 #[ptrV (some f)]) (h2 : Box w cx 9 #[.string ⟨x.toArray⟩]) (hx : x.length ≤ maxLen) (hm : MapRep w b l) (hl : l.length < maxLen) :
    Calls Try.prog 38 #[.map (some b), .pointer (some ⟨cf, 0, none⟩), .pointer (some ⟨cx, 0, none⟩)] w fun e w' => e = .returned (.tuple #[]) ∧ MapRep w' b (lput l x f) ∧ w.grownBy w' (some b) := by
  obtain ⟨w', hrun, hm', hg⟩ := hm.update x hx f hl
  have c1 := h1.cell 0 rfl
  have c2 := h2.cell 0 rfl
  have HM := Lib.hid hm'
  have HG := Lib.hid hg
  clear hm' hg hm h1 h2
  simp only [ptrV] at c1 hrun
  go_enter Try.func38, Try.ntmps38
  go_wp2
  go_end0
  exact ⟨rfl, HM.out, HG.out⟩
theorem wdel_any (cx b : Nat) (x : List UInt8) (l : NM) (w : World) (h2 : Box w cx 9 #[.string ⟨x.toArray⟩]) (hx : x.length ≤ maxLen) (hm : MapRep w b l) :
    Calls Try.prog 41 #[.map (some b), .pointer (some ⟨cx, 0, none⟩)] w fun e w' => e = .returned (.tuple #[]) ∧ MapRep w' b (ldel l x) ∧ w.grownBy w' (some b) := by
  have c2 := h2.cell 0 rfl
  have HM := Lib.hid hm
  clear hm h2
  go_enter Try.func41, Try.ntmps41
  go_upto_region 0 with (fail)
  obtain ⟨w', hrun, hm', hg⟩ := HM.out.drop x hx 0
  have HM' := Lib.hid hm'
  have HG := Lib.hid hg
  clear hm' hg
  go_wp2
  go_end0
  exact ⟨rfl, HM'.out, HG.out⟩
theorem wmv_any (ca cf cb m f : Nat) (a b : List UInt8) (l : NM) (w : World) (h1 : Box w ca 9 #[.string ⟨a.toArray⟩]) (h2 : Box w cf 66 #[ptrV (some f)]) (h3 : Box w cb 9 #[.string ⟨b.toArray⟩]) (ha : a.length ≤ maxLen) (hb : b.length ≤ maxLen) (hm : MapRep w m l) (hl : l.length < maxLen) :
    Calls Try.prog 40 #[.map (some m), .pointer (some ⟨ca, 0, none⟩), .pointer (some ⟨cf, 0, none⟩), .pointer (some ⟨cb, 0, none⟩)] w fun e w' => e = .returned (.tuple #[]) ∧ MapRep w' m (lput (ldel l a) b f) ∧ w.grownBy w' (some m) := by
  have c1 := h1.cell 0 rfl
  obtain ⟨w1, hrun, hm1, hg1⟩ := hm.drop a ha 0
  have HB2 := Lib.hid (box_grown h2 hm hg1)
  have HB3 := Lib.hid (box_grown h3 hm hg1)
  have hll : (ldel l a).length < maxLen := Nat.lt_of_le_of_lt (List.length_filter_le _ _) hl
  obtain ⟨w2, hrun2, hm2, hg2⟩ := hm1.update b hb f hll
  have HM := Lib.hid hm2
  have HG := Lib.hid (grown_trans' hg1 hg2)
  have c2 := HB2.out.cell 0 rfl
  have c3 := HB3.out.cell 0 rfl
  clear hm hm1 hm2 hg1 hg2 h1 h2 h3 hll
  simp only [ptrV] at c2 hrun2
  go_enter Try.func40, Try.ntmps40
  go_wp2
  go_end0
  exact ⟨rfl, HM.out, HG.out⟩
/-! ### the disk behind a change -/
def chgS (s : DSt) (c : Chg) : DSt := { s with seen := c.on s.seen, chs := s.chs ++ [c] }
def isRow : Obj → Bool
  | .cells _ t _ => t == 78
  | _ => false
/-- rows of changes alone may have turned -/
theorem DRepr.keepRow {B : Nat} {w w' : World} {p bs bf : Nat} {cv cv' : Value} {vs vs' : List Value} {s : DSt} (h : DRepr B w p bs bf cv vs s) (hs : Step B w w') (hk : ∀ (k : Nat) (o : Obj), w.heap[k]? = some o → isRow o = false → w'.heap[k]? = some o)
    {chs : List Chg} (hrow : w'.ownsRow B 78 1 cv' chs.length vs') (hch : ∀ (i : Nat) (c : Chg), chs[i]? = some c → ∃ v, vs'[i]? = some v ∧ ChgRep w' v c) (hl : chs.length ≤ 1000000) :
    DRepr B (w'.setCell ⟨p, 2, none⟩ cv') p bs bf cv' vs' { s with chs := chs } ∧ Step B w (w'.setCell ⟨p, 2, none⟩ cv') := by
  have hbox : Box w' p 65 _ := hk p _ h.box rfl
  have hst : Step B w' (w'.setCell ⟨p, 2, none⟩ cv') := Step.of_set hbox rfl h.hp _
  have hmap : ∀ {b : Nat} {l : NM}, MapRep w b l → MapRep (w'.setCell ⟨p, 2, none⟩ cv') b l := fun {b l} hm => by
    obtain ⟨es, c, hh⟩ := hm.isMap
    have hm' : MapRep w' b l := hm.block ((hk b _ hh rfl).trans hh.symm)
    refine hm'.block (Below.heap_setCell _ _ _ _ fun e => ?_)
    simp at e
    subst e
    have := h.box
    unfold Box at this
    rw [hh] at this
    cases this
  refine ⟨⟨hbox.set 2 cv', hmap h.seen, hmap h.safe, h.ne, ?_, fun i c hi => let ⟨v, h1, h2⟩ := hch i c hi; ⟨v, h1, h2.step hst⟩, fun f hf => ?_, h.in1, h.in2, h.nm1, h.hp, h.hs, h.hf, h.strk, h.offb, hl, h.many⟩, hs.trans hst⟩
  · refine ⟨hrow.1, ?_⟩
    rcases hrow.2 with hn | ⟨g, cap, cur, rfl, hb, hgg, rest⟩
    · exact .inl hn
    · exact .inr ⟨g, cap, cur, rfl, hb, by
        rw [Below.heap_setCell _ _ _ _ fun e => by
          simp at e
          subst e
          unfold Box at hbox
          rw [hgg] at hbox
          simp at hbox]
        exact hgg, rest⟩
  · obtain ⟨⟨vb, vs'', h1, h2, h3⟩, h4⟩ := h.files f hf
    have h1' : Box w' f 68 _ := hk f _ h1 rfl
    refine ⟨⟨vb, vs'', ?_, (h2.step hs).step hst, (h3.step hs).step hst⟩, h4⟩
    refine Box.other h1' (fun e => ?_) cv'
    simp at e
    subst e
    unfold Box at hbox h1'
    rw [h1'] at hbox
    simp at hbox
theorem DRepr.mapped {B : Nat} {w w' : World} {p bs bf : Nat} {cv : Value} {vs : List Value} {s : DSt} (h : DRepr B w p bs bf cv vs s) {l : NM} (hm : MapRep w' bs l) (hg : w.grownBy w' (some bs)) (hin : ∀ q ∈ l, q.2 ∈ s.ids) (hnm : ∀ q ∈ l, q.1.length ≤ maxLen) (hl : l.length ≤ 1000000) :
    DRepr B w' p bs bf cv vs { s with seen := l } ∧ Step B w w' := by
  obtain ⟨es, c, hh⟩ := h.seen.isMap
  have hst : Step B w w' := Step.of_grown hg hh rfl h.hs
  have hk : ∀ k, k < w.heap.size → k ≠ bs → w'.heap[k]? = w.heap[k]? := fun k hk hne => hg.block k hk (fun e => hne (by cases e; rfl))
  refine ⟨⟨box_grown h.box h.seen hg, hm, h.safe.block (hk bf h.safe.lt (Ne.symm h.ne)), h.ne, ?_, fun i c hi => let ⟨v, h1, h2⟩ := h.chs i c hi; ⟨v, h1, h2.step hst⟩, fun f hf => ?_, hin, h.in2, hnm, h.hp, h.hs, h.hf, h.strk, h.offb, h.chl, hl⟩, hst⟩
  · refine ⟨h.row.1, ?_⟩
    rcases h.row.2 with hn | ⟨g, cap, cur, rfl, hb, hgg, rest⟩
    · exact .inl hn
    · exact .inr ⟨g, cap, cur, rfl, hb, by
        rw [hk g (Array.getElem?_eq_some_iff.1 hgg).1 fun e => by
          subst e
          rw [hh] at hgg
          cases hgg]
        exact hgg, rest⟩
  · obtain ⟨⟨vb, vs'', h1, h2, h3⟩, h4⟩ := h.files f hf
    exact ⟨⟨vb, vs'', box_grown h1 h.seen hg, h2.step hst, h3.step hst⟩, h4⟩
/-- a change that fits the disk -/
structure Fits (s : DSt) (c : Chg) : Prop where
  in_ : ∀ q ∈ c.on s.seen, q.2 ∈ s.ids
  nm : ∀ q ∈ c.on s.seen, q.1.length ≤ maxLen
  len : (c.on s.seen).length ≤ 1000000
  chl : s.chs.length < 1000000
theorem DRepr.changed {B : Nat} {w w1 w2 : World} {p bs bf : Nat} {cv cv' : Value} {vs : List Value} {s : DSt} {c : Chg} {v : Value} {o : Obj} (h : DRepr B w p bs bf cv vs s) (hc : ChgRep w v c) (hf : Fits s c) (hm : MapRep w1 bs (c.on s.seen)) (hg : w.grownBy w1 (some bs))
    (hrow : w2.ownsRow B 78 1 cv' (s.chs.length + 1) (vs ++ [v])) (hg2 : (w1.alloc o).grownBy w2 cv.ownBlock) :
    DRepr B (w2.setCell ⟨p, 2, none⟩ cv') p bs bf cv' (vs ++ [v]) (chgS s c) ∧ Step B w (w2.setCell ⟨p, 2, none⟩ cv') := by
  obtain ⟨h1, hst1⟩ := h.mapped hm hg hf.in_ hf.nm hf.len
  have hvl : vs.length = s.chs.length := by have := h.row.1; simpa using this
  have hb1 : B ≤ w1.heap.size := Nat.le_of_lt h1.baseLt
  have hkeep : ∀ (k : Nat) (o' : Obj), w1.heap[k]? = some o' → isRow o' = false → w2.heap[k]? = some o' := fun k o' hk hr => by
    have hlt := (Array.getElem?_eq_some_iff.1 hk).1
    refine (hg2.block k (by simp; omega) fun e => ?_).trans ((Below.heap_alloc _ _ _ hlt).trans hk)
    rcases h1.row.2 with ⟨rfl, _⟩ | ⟨g, cap, cur, rfl, hb, hgg, rest⟩
    · cases e
    · cases e
      rw [hgg] at hk
      cases hk
      cases hr
  have hst2 : Step B w1 w2 := by
    have ha : Step B w1 (w1.alloc o) := Step.of_below ((Below.refl _ _).alloc (Nat.le_refl _) _) hb1
    refine ha.trans ?_
    rcases h1.row.2 with ⟨rfl, _⟩ | ⟨g, cap, cur, rfl, hb, hgg, rest⟩
    · exact Step.of_below ((Below.refl _ _).grown hg2 (Nat.le_refl _) (fun k e => by cases e)) (by simp; omega)
    · exact Step.of_grown (r := g) hg2 ((Below.heap_alloc _ _ _ (Array.getElem?_eq_some_iff.1 hgg).1).trans hgg) rfl hb
  have := h1.keepRow (vs' := vs ++ [v]) (cv' := cv') hst2 hkeep (chs := s.chs ++ [c]) (by simpa using hrow) (fun i c' hi => by
    rcases Nat.lt_or_ge i s.chs.length with hlt | hge
    · rw [List.getElem?_append_left hlt] at hi
      obtain ⟨v', h2, h3⟩ := h1.chs i c' hi
      exact ⟨v', by rw [List.getElem?_append_left (by omega)]; exact h2, h3.step hst2⟩
    · rw [List.getElem?_append_right hge] at hi
      have hi0 : i - s.chs.length = 0 := by
        rcases Nat.eq_zero_or_pos (i - s.chs.length) with h0 | h0
        · exact h0
        · rw [List.getElem?_eq_none (by simp; omega)] at hi; cases hi
      rw [hi0] at hi
      simp at hi
      subst hi
      exact ⟨v, by rw [List.getElem?_append_right (by omega), hvl, hi0]; rfl, (hc.step hst1).step hst2⟩) (by have := hf.chl; simp; omega)
  exact ⟨this.1, hst1.trans this.2⟩
end Go.Proofs.Ytejmbhckfdfoeaa
