/-
  CHANGES of names: the three closures on a map; alter.
-/
import Derived.Deep.DeepCutAuto
import Derived.Test.YtejmbhckfdfoeaaEM02
set_option linter.unusedVariables false
set_option linter.unusedSimpArgs false
namespace Go.Proofs.Ytejmbhckfdfoeaa
open Go.RowKit Go.Maps
theorem info_chg : (Try.prog.info? 78).map (fun i => (i.zero, i.size, i.bytes)) = some (some .nilFunc, 1, 8) := by kernel_rfl
theorem grown_trans' {a b c : World} {r : Option Nat} (h : a.grownBy b r) (k : b.grownBy c r) : a.grownBy c r :=
  ⟨k.os.trans h.os, k.tape.trans h.tape, k.output.trans h.output, Nat.le_trans h.size k.size, fun i hi hne => (k.block i (Nat.lt_of_lt_of_le hi h.size) hne).trans (h.block i hi hne)⟩
theorem box_grown {w w' : World} {b m : Nat} {l : NM} {T : TypeId} {cs : Array Value} (h : Box w b T cs) (hm : MapRep w m l) (hg : w.grownBy w' (some m)) : Box w' b T cs := by
  refine (hg.block b h.lt fun e => ?_).trans h
  cases e
  obtain ⟨es, c, hh⟩ := hm.isMap
  unfold Box at h
  rw [hh] at h
  cases h
theorem wput_any (cf cx b f : Nat) (x : List UInt8) (l : NM) (w : World) (h1 : Box w cf 66 #[ptrV (some f)]) (h2 : Box w cx 9 #[.string ⟨x.toArray⟩]) (hx : x.length ≤ maxLen) (hm : MapRep w b l) (hl : l.length < maxLen) :
    Calls Try.prog 38 #[.map (some b), .pointer (some ⟨cf, 0, none⟩), .pointer (some ⟨cx, 0, none⟩)] w fun e w' => e = .returned (.tuple #[]) ∧ MapRep w' b (lput l x f) ∧ w.grownBy w' (some b) := by
  obtain ⟨w', hrun, hm', hg⟩ := hm.update x hx f hl
  have c1 := h1.cell 0 rfl
  have c2 := h2.cell 0 rfl
  have HM := Lib.hid hm'
  have HG := Lib.hid hg
  clear hm' hg hm h1 h2
  simp only [ptrV] at c1 hrun
  go_enter Try.func38, Try.ntmps38
  go_wp2
  go_end0
  exact ⟨rfl, HM.out, HG.out⟩
theorem wdel_any (cx b : Nat) (x : List UInt8) (l : NM) (w : World) (h2 : Box w cx 9 #[.string ⟨x.toArray⟩]) (hx : x.length ≤ maxLen) (hm : MapRep w b l) :
    Calls Try.prog 41 #[.map (some b), .pointer (some ⟨cx, 0, none⟩)] w fun e w' => e = .returned (.tuple #[]) ∧ MapRep w' b (ldel l x) ∧ w.grownBy w' (some b) := by
  have c2 := h2.cell 0 rfl
  have HM := Lib.hid hm
  clear hm h2
  go_enter Try.func41, Try.ntmps41
  go_upto_region 0 with (fail)
  obtain ⟨w', hrun, hm', hg⟩ := HM.out.drop x hx 0
  have HM' := Lib.hid hm'
  have HG := Lib.hid hg
  clear hm' hg
  go_wp2
  go_end0
  exact ⟨rfl, HM'.out, HG.out⟩
theorem wmv_any (ca cf cb m f : Nat) (a b : List UInt8) (l : NM) (w : World) (h1 : Box w ca 9 #[.string ⟨a.toArray⟩]) (h2 : Box w cf 66 #[ptrV (some f)]) (h3 : Box w cb 9 #[.string ⟨b.toArray⟩]) (ha : a.length ≤ maxLen) (hb : b.length ≤ maxLen) (hm : MapRep w m l) (hl : l.length < maxLen) :
    Calls Try.prog 40 #[.map (some m), .pointer (some ⟨ca, 0, none⟩), .pointer (some ⟨cf, 0, none⟩), .pointer (some ⟨cb, 0, none⟩)] w fun e w' => e = .returned (.tuple #[]) ∧ MapRep w' m (lput (ldel l a) b f) ∧ w.grownBy w' (some m) := by
  have c1 := h1.cell 0 rfl
  obtain ⟨w1, hrun, hm1, hg1⟩ := hm.drop a ha 0
  have HB2 := Lib.hid (box_grown h2 hm hg1)
  have HB3 := Lib.hid (box_grown h3 hm hg1)
  have hll : (ldel l a).length < maxLen := Nat.lt_of_le_of_lt (List.length_filter_le _ _) hl
  obtain ⟨w2, hrun2, hm2, hg2⟩ := hm1.update b hb f hll
  have HM := Lib.hid hm2
  have HG := Lib.hid (grown_trans' hg1 hg2)
  have c2 := HB2.out.cell 0 rfl
  have c3 := HB3.out.cell 0 rfl
  clear hm hm1 hm2 hg1 hg2 h1 h2 h3 hll
  simp only [ptrV] at c2 hrun2
  go_enter Try.func40, Try.ntmps40
  go_wp2
  go_end0
  exact ⟨rfl, HM.out, HG.out⟩
/-! ### the disk behind a change -/
def chgS (s : DSt) (c : Chg) : DSt := { s with seen := c.on s.seen, chs := s.chs ++ [c] }
def isRow : Obj → Bool
  | .cells _ t _ => t == 78
  | _ => false
/-- rows of changes alone may have turned -/
theorem DRepr.keepRow {B : Nat} {w w' : World} {p bs bf : Nat} {cv cv' : Value} {vs vs' : List Value} {s : DSt} (h : DRepr B w p bs bf cv vs s) (hs : Step B w w') (hk : ∀ (k : Nat) (o : Obj), w.heap[k]? = some o → isRow o = false → w'.heap[k]? = some o)
    {chs : List Chg} (hrow : w'.ownsRow B 78 1 cv' chs.length vs') (hch : ∀ (i : Nat) (c : Chg), chs[i]? = some c → ∃ v, vs'[i]? = some v ∧ ChgRep w' v c) (hl : chs.length ≤ 1000000) :
    DRepr B (w'.setCell ⟨p, 2, none⟩ cv') p bs bf cv' vs' { s with chs := chs } ∧ Step B w (w'.setCell ⟨p, 2, none⟩ cv') := by
  have hbox : Box w' p 65 _ := hk p _ h.box rfl
  have hst : Step B w' (w'.setCell ⟨p, 2, none⟩ cv') := Step.of_set hbox rfl h.hp _
  have hmap : ∀ {b : Nat} {l : NM}, MapRep w b l → MapRep (w'.setCell ⟨p, 2, none⟩ cv') b l := fun {b l} hm => by
    obtain ⟨es, c, hh⟩ := hm.isMap
    have hm' : MapRep w' b l := hm.block ((hk b _ hh rfl).trans hh.symm)
    refine hm'.block (Below.heap_setCell _ _ _ _ fun e => ?_)
    simp at e
    subst e
    have := h.box
    unfold Box at this
    rw [hh] at this
    cases this
  refine ⟨⟨hbox.set 2 cv', hmap h.seen, hmap h.safe, h.ne, ?_, fun i c hi => let ⟨v, h1, h2⟩ := hch i c hi; ⟨v, h1, h2.step hst⟩, fun f hf => ?_, h.in1, h.in2, h.nm1, h.hp, h.hs, h.hf, h.strk, h.offb, hl, h.many⟩, hs.trans hst⟩
  · refine ⟨hrow.1, ?_⟩
    rcases hrow.2 with hn | ⟨g, cap, cur, rfl, hb, hgg, rest⟩
    · exact .inl hn
    · exact .inr ⟨g, cap, cur, rfl, hb, by
        rw [Below.heap_setCell _ _ _ _ fun e => by
          simp at e
          subst e
          unfold Box at hbox
          rw [hgg] at hbox
          simp at hbox]
        exact hgg, rest⟩
  · obtain ⟨⟨vb, vs'', h1, h2, h3⟩, h4⟩ := h.files f hf
    have h1' : Box w' f 68 _ := hk f _ h1 rfl
    refine ⟨⟨vb, vs'', ?_, (h2.step hs).step hst, (h3.step hs).step hst⟩, h4⟩
    refine Box.other h1' (fun e => ?_) cv'
    simp at e
    subst e
    unfold Box at hbox h1'
    rw [h1'] at hbox
    simp at hbox
theorem DRepr.mapped {B : Nat} {w w' : World} {p bs bf : Nat} {cv : Value} {vs : List Value} {s : DSt} (h : DRepr B w p bs bf cv vs s) {l : NM} (hm : MapRep w' bs l) (hg : w.grownBy w' (some bs)) (hin : ∀ q ∈ l, q.2 ∈ s.ids) (hnm : ∀ q ∈ l, q.1.length ≤ maxLen) (hl : l.length ≤ 1000000) :
    DRepr B w' p bs bf cv vs { s with seen := l } ∧ Step B w w' := by
  obtain ⟨es, c, hh⟩ := h.seen.isMap
  have hst : Step B w w' := Step.of_grown hg hh rfl h.hs
  have hk : ∀ k, k < w.heap.size → k ≠ bs → w'.heap[k]? = w.heap[k]? := fun k hk hne => hg.block k hk (fun e => hne (by cases e; rfl))
  refine ⟨⟨box_grown h.box h.seen hg, hm, h.safe.block (hk bf h.safe.lt (Ne.symm h.ne)), h.ne, ?_, fun i c hi => let ⟨v, h1, h2⟩ := h.chs i c hi; ⟨v, h1, h2.step hst⟩, fun f hf => ?_, hin, h.in2, hnm, h.hp, h.hs, h.hf, h.strk, h.offb, h.chl, hl⟩, hst⟩
  · refine ⟨h.row.1, ?_⟩
    rcases h.row.2 with hn | ⟨g, cap, cur, rfl, hb, hgg, rest⟩
    · exact .inl hn
    · exact .inr ⟨g, cap, cur, rfl, hb, by
        rw [hk g (Array.getElem?_eq_some_iff.1 hgg).1 fun e => by
          subst e
          rw [hh] at hgg
          cases hgg]
        exact hgg, rest⟩
  · obtain ⟨⟨vb, vs'', h1, h2, h3⟩, h4⟩ := h.files f hf
    exact ⟨⟨vb, vs'', box_grown h1 h.seen hg, h2.step hst, h3.step hst⟩, h4⟩
/-- a change that fits the disk -/
structure Fits (s : DSt) (c : Chg) : Prop where
  in_ : ∀ q ∈ c.on s.seen, q.2 ∈ s.ids
  nm : ∀ q ∈ c.on s.seen, q.1.length ≤ maxLen
  len : (c.on s.seen).length ≤ 1000000
  chl : s.chs.length < 1000000
theorem DRepr.changed {B : Nat} {w w1 w2 : World} {p bs bf : Nat} {cv cv' : Value} {vs : List Value} {s : DSt} {c : Chg} {v : Value} {o : Obj} (h : DRepr B w p bs bf cv vs s) (hc : ChgRep w v c) (hf : Fits s c) (hm : MapRep w1 bs (c.on s.seen)) (hg : w.grownBy w1 (some bs))
    (hrow : w2.ownsRow B 78 1 cv' (s.chs.length + 1) (vs ++ [v])) (hg2 : (w1.alloc o).grownBy w2 cv.ownBlock) :
    DRepr B (w2.setCell ⟨p, 2, none⟩ cv') p bs bf cv' (vs ++ [v]) (chgS s c) ∧ Step B w (w2.setCell ⟨p, 2, none⟩ cv') := by
  obtain ⟨h1, hst1⟩ := h.mapped hm hg hf.in_ hf.nm hf.len
  have hvl : vs.length = s.chs.length := by have := h.row.1; simpa using this
  have hb1 : B ≤ w1.heap.size := Nat.le_of_lt h1.baseLt
  have hkeep : ∀ (k : Nat) (o' : Obj), w1.heap[k]? = some o' → isRow o' = false → w2.heap[k]? = some o' := fun k o' hk hr => by
    have hlt := (Array.getElem?_eq_some_iff.1 hk).1
    refine (hg2.block k (by simp; omega) fun e => ?_).trans ((Below.heap_alloc _ _ _ hlt).trans hk)
    rcases h1.row.2 with ⟨rfl, _⟩ | ⟨g, cap, cur, rfl, hb, hgg, rest⟩
    · cases e
    · cases e
      rw [hgg] at hk
      cases hk
      cases hr
  have hst2 : Step B w1 w2 := by
    have ha : Step B w1 (w1.alloc o) := Step.of_below ((Below.refl _ _).alloc (Nat.le_refl _) _) hb1
    refine ha.trans ?_
    rcases h1.row.2 with ⟨rfl, _⟩ | ⟨g, cap, cur, rfl, hb, hgg, rest⟩
    · exact Step.of_below ((Below.refl _ _).grown hg2 (Nat.le_refl _) (fun k e => by cases e)) (by simp; omega)
    · exact Step.of_grown (r := g) hg2 ((Below.heap_alloc _ _ _ (Array.getElem?_eq_some_iff.1 hgg).1).trans hgg) rfl hb
  have := h1.keepRow (vs' := vs ++ [v]) (cv' := cv') hst2 hkeep (chs := s.chs ++ [c]) (by simpa using hrow) (fun i c' hi => by
    rcases Nat.lt_or_ge i s.chs.length with hlt | hge
    · rw [List.getElem?_append_left hlt] at hi
      obtain ⟨v', h2, h3⟩ := h1.chs i c' hi
      exact ⟨v', by rw [List.getElem?_append_left (by omega)]; exact h2, h3.step hst2⟩
    · rw [List.getElem?_append_right hge] at hi
      have hi0 : i - s.chs.length = 0 := by
        rcases Nat.eq_zero_or_pos (i - s.chs.length) with h0 | h0
        · exact h0
        · rw [List.getElem?_eq_none (by simp; omega)] at hi; cases hi
      rw [hi0] at hi
      simp at hi
      subst hi
      exact ⟨v, by rw [List.getElem?_append_right (by omega), hvl, hi0]; rfl, (hc.step hst1).step hst2⟩) (by have := hf.chl; simp; omega)
  exact ⟨this.1, hst1.trans this.2⟩
end Go.Proofs.Ytejmbhckfdfoeaa
/-
  alter: a change is made, and kept.
-/
set_option linter.unusedVariables false
set_option linter.unusedSimpArgs false
namespace Go.Proofs.Ytejmbhckfdfoeaa
open Go.RowKit Go.Maps
def AltPost (B : Nat) (w : World) (p bs bf : Nat) (s : DSt) (c : Chg) (e : Ending) (w' : World) : Prop := e = .returned (.tuple #[]) ∧ (∃ cv vs, DRepr B w' p bs bf cv vs (chgS s c)) ∧ Step B w w'
set_option maxRecDepth 100000 in
set_option maxHeartbeats 1000000 in
theorem alter_put {B : Nat} {w : World} {p bs bf : Nat} {cv : Value} {vs : List Value} {s : DSt} (f : Nat) (x : List UInt8) (v : Value) (h : DRepr B w p bs bf cv vs s) (hc : ChgRep w v (.put x f)) (hf : Fits s (.put x f)) :
    Calls Try.prog 37 #[.pointer (some ⟨p, 0, none⟩), v] w (AltPost B w p bs bf s (.put x f)) := by
  have HC := Lib.hid hc
  obtain ⟨cf, cx, rfl, k1, k2, k3⟩ := hc
  have HD := Lib.hid h
  have HF := Lib.hid hf
  have HM := Lib.hid h.seen
  have hml : s.seen.length < maxLen := by have := h.many; unfold maxLen; omega
  obtain ⟨i0, hi, hz0, hz1, hz2⟩ := info_parts info_chg
  have HZ := Lib.hid (And.intro hi (And.intro hz0 (And.intro hz1 hz2)))
  obtain ⟨ac, kc, rfl⟩ := own_slice h.row
  have c0 := h.box.cell 0 rfl
  have hchl := hf.chl
  have HCON := Lib.hid (wput_any cf cx bs f x _ _ k1 k2 k3 HM.out hml)
  clear h hf hi hz0 hz1 hz2 k1 k2 k3 hml
  go_enter Try.func37, Try.ntmps37
  go_wp2_with fail
  refine HCON.out.mono ?_
  rintro e w1 ⟨rfl, hm1, hg1⟩
  have HM1 := Lib.hid hm1
  have HG1 := Lib.hid hg1
  have HD1 := Lib.hid (HD.out.mapped (l := Chg.on s.seen (.put x f)) hm1 hg1 HF.out.in_ HF.out.nm HF.out.len)
  clear hm1 hg1 c0 HCON
  have c2 := HD1.out.1.box.cell 2 rfl
  have hb1 : B ≤ w1.heap.size := Nat.le_of_lt HD1.out.1.baseLt
  go_wp2_with (at_builtin; refine stopHere ?_)
  refine goOn ?_
  refine wpList_append_own _ rfl _ _ 63 rfl B 78 i0 .nilFunc 1 8 Try.underlying63 HZ.out.1 HZ.out.2.1 HZ.out.2.2.1 HZ.out.2.2.2 rfl (by decide) (.slice ac s.chs.length kc) s.chs.length vs rfl (HD1.out.1.row.alloc _) ⟨w1.heap.size, 0, none⟩ 1 1 [(.func (.func 38) #[] #[.pointer (some ⟨cf, 0, none⟩), .pointer (some ⟨cx, 0, none⟩)])] rfl rfl (cell_one_new _ _ _) (by simp [Value.oneCell']) (by unfold maxLen; omega) (by omega) (by simp; omega) ?_
  intro v' w2 hown hgrow hat
  obtain ⟨a2, k2', rfl⟩ := own_slice hown
  have HEND := Lib.hid (HD.out.changed HC.out HF.out HM1.out HG1.out hown hgrow)
  have hbx : Box w2 p 65 #[.map (some bs), .map (some bf), .slice ac s.chs.length kc, .int .i64 s.strokes, .int .i64 s.off, .bool s.dead] := by
    refine (hgrow.block p (by simp; have := HD1.out.1.box.lt; omega) fun e => ?_).trans ((Below.heap_alloc _ _ _ HD1.out.1.box.lt).trans HD1.out.1.box)
    have hr := HD1.out.1.row
    rcases hr.2 with ⟨h0, _⟩ | ⟨g, cap, cur, h0, hb, hgg, rest⟩
    · rw [h0] at e; cases e
    · rw [h0] at e
      cases e
      have hx := HD1.out.1.box
      unfold Box at hx
      rw [hgg] at hx
      simp at hx
  have c2' := hbx.cell 2 rfl
  have f2' := hbx.free 2
  clear hown hgrow hat hbx c2
  go_wp2_with fail
  go_end0
  exact ⟨rfl, ⟨_, _, HEND.out.1⟩, HEND.out.2⟩
set_option maxRecDepth 100000 in
set_option maxHeartbeats 1000000 in
theorem alter_mv {B : Nat} {w : World} {p bs bf : Nat} {cv : Value} {vs : List Value} {s : DSt} (f : Nat) (a b : List UInt8) (v : Value) (h : DRepr B w p bs bf cv vs s) (hc : ChgRep w v (.mv a b f)) (hf : Fits s (.mv a b f)) :
    Calls Try.prog 37 #[.pointer (some ⟨p, 0, none⟩), v] w (AltPost B w p bs bf s (.mv a b f)) := by
  have HC := Lib.hid hc
  obtain ⟨ca, cf, cb, rfl, k1, k2, k3, k4, k5⟩ := hc
  have HD := Lib.hid h
  have HF := Lib.hid hf
  have HM := Lib.hid h.seen
  have hml : s.seen.length < maxLen := by have := h.many; unfold maxLen; omega
  obtain ⟨i0, hi, hz0, hz1, hz2⟩ := info_parts info_chg
  have HZ := Lib.hid (And.intro hi (And.intro hz0 (And.intro hz1 hz2)))
  obtain ⟨ac, kc, rfl⟩ := own_slice h.row
  have c0 := h.box.cell 0 rfl
  have hchl := hf.chl
  have HCON := Lib.hid (wmv_any ca cf cb bs f a b _ _ k1 k2 k3 k4 k5 HM.out hml)
  clear h hf hi hz0 hz1 hz2 k1 k2 k3 k4 k5 hml
  go_enter Try.func37, Try.ntmps37
  go_wp2_with fail
  refine HCON.out.mono ?_
  rintro e w1 ⟨rfl, hm1, hg1⟩
  have HM1 := Lib.hid hm1
  have HG1 := Lib.hid hg1
  have HD1 := Lib.hid (HD.out.mapped (l := Chg.on s.seen (.mv a b f)) hm1 hg1 HF.out.in_ HF.out.nm HF.out.len)
  clear hm1 hg1 c0 HCON
  have c2 := HD1.out.1.box.cell 2 rfl
  have hb1 : B ≤ w1.heap.size := Nat.le_of_lt HD1.out.1.baseLt
  go_wp2_with (at_builtin; refine stopHere ?_)
  refine goOn ?_
  refine wpList_append_own _ rfl _ _ 63 rfl B 78 i0 .nilFunc 1 8 Try.underlying63 HZ.out.1 HZ.out.2.1 HZ.out.2.2.1 HZ.out.2.2.2 rfl (by decide) (.slice ac s.chs.length kc) s.chs.length vs rfl (HD1.out.1.row.alloc _) ⟨w1.heap.size, 0, none⟩ 1 1 [(.func (.func 40) #[] #[.pointer (some ⟨ca, 0, none⟩), .pointer (some ⟨cf, 0, none⟩), .pointer (some ⟨cb, 0, none⟩)])] rfl rfl (cell_one_new _ _ _) (by simp [Value.oneCell']) (by unfold maxLen; omega) (by omega) (by simp; omega) ?_
  intro v' w2 hown hgrow hat
  obtain ⟨a2, k2', rfl⟩ := own_slice hown
  have HEND := Lib.hid (HD.out.changed HC.out HF.out HM1.out HG1.out hown hgrow)
  have hbx : Box w2 p 65 #[.map (some bs), .map (some bf), .slice ac s.chs.length kc, .int .i64 s.strokes, .int .i64 s.off, .bool s.dead] := by
    refine (hgrow.block p (by simp; have := HD1.out.1.box.lt; omega) fun e => ?_).trans ((Below.heap_alloc _ _ _ HD1.out.1.box.lt).trans HD1.out.1.box)
    have hr := HD1.out.1.row
    rcases hr.2 with ⟨h0, _⟩ | ⟨g, cap, cur, h0, hb, hgg, rest⟩
    · rw [h0] at e; cases e
    · rw [h0] at e
      cases e
      have hx := HD1.out.1.box
      unfold Box at hx
      rw [hgg] at hx
      simp at hx
  have c2' := hbx.cell 2 rfl
  have f2' := hbx.free 2
  clear hown hgrow hat hbx c2
  go_wp2_with fail
  go_end0
  exact ⟨rfl, ⟨_, _, HEND.out.1⟩, HEND.out.2⟩
set_option maxRecDepth 100000 in
set_option maxHeartbeats 1000000 in
theorem alter_del {B : Nat} {w : World} {p bs bf : Nat} {cv : Value} {vs : List Value} {s : DSt} (x : List UInt8)  (v : Value) (h : DRepr B w p bs bf cv vs s) (hc : ChgRep w v (.del x)) (hf : Fits s (.del x)) :
    Calls Try.prog 37 #[.pointer (some ⟨p, 0, none⟩), v] w (AltPost B w p bs bf s (.del x)) := by
  have HC := Lib.hid hc
  obtain ⟨cx, rfl, k1, k2⟩ := hc
  have HD := Lib.hid h
  have HF := Lib.hid hf
  have HM := Lib.hid h.seen
  have hml : s.seen.length < maxLen := by have := h.many; unfold maxLen; omega
  obtain ⟨i0, hi, hz0, hz1, hz2⟩ := info_parts info_chg
  have HZ := Lib.hid (And.intro hi (And.intro hz0 (And.intro hz1 hz2)))
  obtain ⟨ac, kc, rfl⟩ := own_slice h.row
  have c0 := h.box.cell 0 rfl
  have hchl := hf.chl
  have HCON := Lib.hid (wdel_any cx bs x _ _ k1 k2 HM.out)
  clear h hf hi hz0 hz1 hz2 k1 k2 hml
  go_enter Try.func37, Try.ntmps37
  go_wp2_with fail
  refine HCON.out.mono ?_
  rintro e w1 ⟨rfl, hm1, hg1⟩
  have HM1 := Lib.hid hm1
  have HG1 := Lib.hid hg1
  have HD1 := Lib.hid (HD.out.mapped (l := Chg.on s.seen (.del x)) hm1 hg1 HF.out.in_ HF.out.nm HF.out.len)
  clear hm1 hg1 c0 HCON
  have c2 := HD1.out.1.box.cell 2 rfl
  have hb1 : B ≤ w1.heap.size := Nat.le_of_lt HD1.out.1.baseLt
  go_wp2_with (at_builtin; refine stopHere ?_)
  refine goOn ?_
  refine wpList_append_own _ rfl _ _ 63 rfl B 78 i0 .nilFunc 1 8 Try.underlying63 HZ.out.1 HZ.out.2.1 HZ.out.2.2.1 HZ.out.2.2.2 rfl (by decide) (.slice ac s.chs.length kc) s.chs.length vs rfl (HD1.out.1.row.alloc _) ⟨w1.heap.size, 0, none⟩ 1 1 [(.func (.func 41) #[] #[.pointer (some ⟨cx, 0, none⟩)])] rfl rfl (cell_one_new _ _ _) (by simp [Value.oneCell']) (by unfold maxLen; omega) (by omega) (by simp; omega) ?_
  intro v' w2 hown hgrow hat
  obtain ⟨a2, k2', rfl⟩ := own_slice hown
  have HEND := Lib.hid (HD.out.changed HC.out HF.out HM1.out HG1.out hown hgrow)
  have hbx : Box w2 p 65 #[.map (some bs), .map (some bf), .slice ac s.chs.length kc, .int .i64 s.strokes, .int .i64 s.off, .bool s.dead] := by
    refine (hgrow.block p (by simp; have := HD1.out.1.box.lt; omega) fun e => ?_).trans ((Below.heap_alloc _ _ _ HD1.out.1.box.lt).trans HD1.out.1.box)
    have hr := HD1.out.1.row
    rcases hr.2 with ⟨h0, _⟩ | ⟨g, cap, cur, h0, hb, hgg, rest⟩
    · rw [h0] at e; cases e
    · rw [h0] at e
      cases e
      have hx := HD1.out.1.box
      unfold Box at hx
      rw [hgg] at hx
      simp at hx
  have c2' := hbx.cell 2 rfl
  have f2' := hbx.free 2
  clear hown hgrow hat hbx c2
  go_wp2_with fail
  go_end0
  exact ⟨rfl, ⟨_, _, HEND.out.1⟩, HEND.out.2⟩
end Go.Proofs.Ytejmbhckfdfoeaa
/-
  Write.
-/
set_option linter.unusedVariables false
set_option linter.unusedSimpArgs false
namespace Go.Proofs.Ytejmbhckfdfoeaa
open Go.RowKit Go.Maps
theorem Box.new_at {w : World} {B : Nat} {T : TypeId} {cs : Array Value} (h : w.heap.size = B) : Box (w.alloc (.cells cs T)) B T cs := by
  subst h
  exact Box.new w T cs
theorem goodNm_len {x : List UInt8} (h : goodNm x = true) : 1 ≤ x.length ∧ x.length ≤ 32 := by
  rw [goodNm, Bool.and_eq_true, Bool.and_eq_true, decide_eq_true_eq, decide_eq_true_eq] at h
  exact h.2
def updF (g : Nat → List Int) (f : Nat) (xs : List Int) : Nat → List Int := fun k => if k = f then xs else g k
def addS (s : DSt) (f : Nat) (xs ys : List Int) : DSt := { s with ids := f :: s.ids, by_ := updF s.by_ f xs, sf := updF s.sf f ys }
theorem DRepr.idLt {B : Nat} {w : World} {p bs bf : Nat} {cv : Value} {vs : List Value} {s : DSt} (h : DRepr B w p bs bf cv vs s) {f : Nat} (hf : f ∈ s.ids) : f < w.heap.size := by
  obtain ⟨⟨vb, vs', h1, _⟩, _⟩ := h.files f hf
  exact h1.lt
theorem DRepr.add {B : Nat} {w : World} {p bs bf : Nat} {cv : Value} {vs : List Value} {s : DSt} (h : DRepr B w p bs bf cv vs s) {f : Nat} {xs ys : List Int} (hf : FileRep B w f xs ys) (hn : f ∉ s.ids) : DRepr B w p bs bf cv vs (addS s f xs ys) := by
  refine ⟨h.box, h.seen, h.safe, h.ne, h.row, h.chs, fun g hg => ?_, fun q hq => List.mem_cons_of_mem _ (h.in1 q hq), fun q hq => List.mem_cons_of_mem _ (h.in2 q hq), h.nm1, h.hp, h.hs, h.hf, h.strk, h.offb, h.chl, h.many⟩
  by_cases e : g = f
  · subst e
    simp only [addS, updF, if_true]
    exact hf
  · simp only [addS, updF, if_neg e]
    exact h.files g ((List.mem_cons.1 hg).resolve_left e)
theorem lput_mem {l : NM} {x : List UInt8} {i : Nat} {q : List UInt8 × Nat} (h : q ∈ lput l x i) : q = (x, i) ∨ q ∈ l := by
  rcases lins_mem.1 h with h | h
  · exact .inl h
  · exact .inr (List.mem_filter.1 h).1
def writeS (s : DSt) (x : List UInt8) (f : Nat) (xs : List Int) : DSt := chgS (addS s f xs []) (.put x f)
theorem fits_put {B : Nat} {w : World} {p bs bf : Nat} {cv : Value} {vs : List Value} {s : DSt} (h : DRepr B w p bs bf cv vs s) (x : List UInt8) (f : Nat) (xs : List Int) (hx : x.length ≤ maxLen) (h1 : s.chs.length < 1000000) (h2 : s.seen.length < 1000000) : Fits (addS s f xs []) (.put x f) := by
  refine ⟨fun q hq => ?_, fun q hq => ?_, ?_, h1⟩
  · rcases lput_mem hq with rfl | hq
    · exact List.mem_cons_self ..
    · exact List.mem_cons_of_mem _ (h.in1 q hq)
  · rcases lput_mem hq with rfl | hq
    · exact hx
    · exact h.nm1 q hq
  · show (lput s.seen x f).length ≤ _
    rw [lput_length h.seen.ris]
    split <;> omega
set_option maxRecDepth 100000 in
set_option maxHeartbeats 4000000 in
theorem write_ok {B : Nat} {w : World} {p bs bf : Nat} {cv : Value} {vs : List Value} {s : DSt} (x : List UInt8) (v : Value) (xs : List Int) (h : DRepr B w p bs bf cv vs s) (hx : goodNm x = true) (hr : BytesRep 0 w v xs)
    (hd : s.dead = false) (hfull : ¬ (lget s.seen x = none ∧ s.seen.length = 16)) (hst : s.strokes < 1000000) (hch : s.chs.length < 1000000) (hse : s.seen.length < 1000000) :
    Calls Try.prog 13 #[.pointer (some ⟨p, 0, none⟩), .string ⟨x.toArray⟩, v] w fun e w' => e = .returned (.int .i64 (toldI (offB s))) ∧ (∃ f cv' vs', DRepr B w' p bs bf cv' vs' (writeS (strokeS s) x f xs) ∧ w.heap.size ≤ f) ∧ Step B w w' := by
  obtain ⟨o, cap, rfl⟩ := rd_slice hr.rd
  have hxl := hr.len
  obtain ⟨W1, hW1⟩ : ∃ W1, W1 = w.alloc (.cells #[.string ⟨x.toArray⟩] 9) := ⟨_, rfl⟩
  have hB0 : B ≤ w.heap.size := Nat.le_of_lt h.baseLt
  have hb : Below w.heap.size w W1 := by rw [hW1]; exact (Below.refl _ _).alloc (Nat.le_refl _) _
  have HBN := Lib.hid (show Box W1 w.heap.size 9 #[.string ⟨x.toArray⟩] by rw [hW1]; exact Box.new _ _ _)
  have HD1 := Lib.hid (h.next hb hB0)
  have HR1 := Lib.hid (hr.step (Step.of_below (B := 0) hb (Nat.zero_le _)))
  have HS1 := Lib.hid (Step.of_below (B := B) hb hB0)
  have HX := Lib.hid hx
  have HXL := Lib.hid (show x.length ≤ maxLen by have := (goodNm_len hx).2; unfold maxLen; omega)
  have hsz1 := hb.size
  have HFU := Lib.hid hfull
  have HDD := Lib.hid hd
  have HW1 := Lib.hid hW1
  clear h hb hr hx hfull hd hW1
  have c0 := HBN.out.cell 0 rfl
  have c5 := HD1.out.box.cell 5 rfl
  rw [HW1.out] at c0
  go_enter Try.func13, Try.ntmps13
  go_wp2_with fail
  rw [← HW1.out]
  clear c0
  refine (diskGood_nm x _ HXL.out).mono ?_
  rintro e w' ⟨rfl, rfl⟩
  rw [HX.out]
  have hle : decide ((xs.length : Int) ≤ 4194304) = true := decide_eq_true (by omega)
  go_wp2_with fail
  refine (ask_any p s.dead true _ c5).mono ?_
  rintro e w' ⟨rfl, rfl⟩
  rw [HDD.out, show askI false true = 0 from rfl]
  clear c5 HW1
  go_wp2_with fail
  refine (stroke_any HD1.out hst).mono ?_
  rintro e w2 ⟨rfl, hd2, hs2, hz2⟩
  have HD2 := Lib.hid hd2
  have HS2 := Lib.hid (HS1.out.trans hs2)
  have HBN2 := Lib.hid (HBN.out.step hs2 rfl)
  have HR2 := Lib.hid (HR1.out.step hs2)
  have HLK := Lib.hid (fun (k : Nat) => (hd2.seen.block (w' := w2.drewN k) rfl).lookup x HXL.out)
  have HLN := Lib.hid (fun (k : Nat) => (hd2.seen.block (w' := w2.drewN k) rfl).len 3)
  have c0 := hd2.box.cell 0 rfl
  have cn := HBN2.out.cell 0 rfl
  have hsz2 : w.heap.size < w2.heap.size := by rw [hz2]; exact HBN.out.lt
  have HSZ2 := Lib.hid hz2
  clear hd2 hs2 hz2 HD1 HBN HS1 HR1
  have hlk := HLK.out
  have hln := HLN.out
  go_wp2_with fail
  go_cut [38] (fun v wx => v = .bool false ∧ Same w2 wx)
  case first =>
    cases hg : lget s.seen x with
    | some f0 =>
      have hlk2 : ∀ k, (Instr.lookup 62 (.map (some bs)) (.string ⟨x.toArray⟩) false).run Try.prog (w2.drewN k) = .ok (.pointer (some ⟨f0, 0, none⟩)) (w2.drewN k) := fun k => by have := hlk k; rw [show (strokeS s).seen = s.seen from rfl, hg] at this; exact this
      have hl0 := hlk2 0
      clear hlk hln hg
      go_quiet (fail)
      all_goals (go_wp2_with fail; go_meet; exact ⟨rfl, ⟨_, rfl⟩⟩)
    | none =>
      have hlk2 : ∀ k, (Instr.lookup 62 (.map (some bs)) (.string ⟨x.toArray⟩) false).run Try.prog (w2.drewN k) = .ok (.pointer none) (w2.drewN k) := fun k => by have := hlk k; rw [show (strokeS s).seen = s.seen from rfl, hg] at this; exact this
      have hne : ((s.seen.length : Int) == 16) = false := by
        rw [beq_eq_false_iff_ne]
        intro e
        exact HFU.out ⟨hg, by omega⟩
      have hln2 : ∀ k, (Builtin.len_ #[62] 3 #[.map (some bs)]).run Try.prog (w2.drewN k) = .ok (.int .i64 s.seen.length) (w2.drewN k) := hln
      clear hlk hln hg
      go_quiet (fail)
      all_goals (go_wp2_with fail; go_meet; exact ⟨rfl, ⟨_, rfl⟩⟩)
  case rest =>
    obtain ⟨rfl, hsm⟩ := hcut
    obtain ⟨w3, rfl⟩ : ∃ w3, w3 = wc := ⟨_, rfl⟩
    have hb3 : Below w2.heap.size w2 w3 := hsm.below _
    have hB2 : B ≤ w2.heap.size := by omega
    have HD3 := Lib.hid (HD2.out.next hb3 hB2)
    have HS3 := Lib.hid (HS2.out.trans (Step.of_below hb3 hB2))
    have HBN3 := Lib.hid (HBN2.out.next hb3)
    have HR3 := Lib.hid (HR2.out.step (Step.of_below (B := 0) hb3 (Nat.zero_le _)))
    have hsz3 := hb3.size
    clear hsm hb3 HD2 HS2 HBN2 HR2 hlk hln HLK HLN c0 cn
    go_wp2_with fail
    refine (clone_any _ xs _ HR3.out.rd hxl).mono ?_
    rintro e w4 ⟨v4, rfl, hbr, hb4⟩
    obtain ⟨o4, k4, rfl⟩ := rd_slice hbr.rd
    obtain ⟨W5, hW5⟩ : ∃ W5, W5 = ((w4.alloc (.cells #[.slice o4 xs.length k4, .slice none 0 0] 68)).alloc (.cells #[.pointer (some ⟨w4.heap.size, 0, none⟩)] 66)) := ⟨_, rfl⟩
    have hb45 : Below w4.heap.size w4 W5 := by rw [hW5]; exact ((Below.refl _ _).alloc (Nat.le_refl _) _).alloc (by simp) _
    have hb5 : Below w3.heap.size w3 W5 := hb4.trans (hb45.mono hb4.size)
    have hB3 : B ≤ w3.heap.size := by omega
    have hBF : Box W5 w4.heap.size 68 #[.slice o4 xs.length k4, .slice none 0 0] := by rw [hW5]; exact (Box.new _ _ _).next ((Below.refl _ _).alloc (Nat.le_refl _) _)
    have HBP := Lib.hid (show Box W5 (w4.heap.size + 1) 66 #[ptrV (some w4.heap.size)] by rw [hW5]; exact Box.new_at (by simp))
    have hz4 := hb4.size
    have HFR := Lib.hid (show FileRep B W5 w4.heap.size xs [] from ⟨⟨_, _, hBF, (hbr.step (Step.of_below (B := 0) hb45 (Nat.zero_le _))).mono hB3, BytesRep.nil _ _⟩, by omega⟩)
    have HD5 := Lib.hid (HD3.out.next hb5 hB3)
    have HS5 := Lib.hid (HS3.out.trans (Step.of_below hb5 hB3))
    have HBN5 := Lib.hid (HBN3.out.next hb5)
    have HNI := Lib.hid (show w4.heap.size ∉ (strokeS s).ids from fun hm => by have := HD3.out.idLt hm; omega)
    have HW5 := Lib.hid hW5
    have hmf : ∀ (fn : Fn) (first cap : Array Value) (w : World), (Instr.makeFunc fn first cap).run Try.prog w = .ok (.func fn first cap) w := fun _ _ _ _ => rfl
    clear hbr hb4 hb45 hb5 hBF hW5 HD3 HS3 HBN3 HR3
    go_wp2_with fail
    rw [← HW5.out]
    clear HW5
    have HDA := Lib.hid (HD5.out.add HFR.out HNI.out)
    refine (alter_put w4.heap.size x _ HDA.out ⟨_, _, rfl, HBP.out, HBN5.out, HXL.out⟩ (fits_put HD5.out x w4.heap.size xs HXL.out hch hse)).mono ?_
    rintro e w6 ⟨rfl, ⟨cv6, vs6, hd6⟩, hs6⟩
    have HD6 := Lib.hid hd6
    have HS6 := Lib.hid (HS5.out.trans hs6)
    clear hd6 hs6 HDA HD5 HS5 HBN5 HBP HFR
    go_wp2_with fail
    refine (told_any _ _).mono ?_
    rintro e w' ⟨rfl, rfl⟩
    go_wp2_with fail
    go_ret
    exact ⟨rfl, ⟨w4.heap.size, cv6, vs6, HD6.out, by omega⟩, HS6.out⟩
end Go.Proofs.Ytejmbhckfdfoeaa
/-
  Read, Remove, Rename.
-/
set_option linter.unusedVariables false
set_option linter.unusedSimpArgs false
namespace Go.Proofs.Ytejmbhckfdfoeaa
open Go.RowKit Go.Maps
set_option maxRecDepth 100000 in
set_option maxHeartbeats 2000000 in
theorem read_ok {B : Nat} {w : World} {p bs bf : Nat} {cv : Value} {vs : List Value} {s : DSt} (x : List UInt8) (f : Nat) (h : DRepr B w p bs bf cv vs s) (hx : goodNm x = true) (hd : s.dead = false) (hg : lget s.seen x = some f) :
    Calls Try.prog 15 #[.pointer (some ⟨p, 0, none⟩), .string ⟨x.toArray⟩] w fun e w' => (∃ v', e = .returned (.tuple #[v', .int .i64 0]) ∧ BytesRep w.heap.size w' v' (s.by_ f)) ∧ Below w.heap.size w w' := by
  have hxl : x.length ≤ maxLen := by have := (goodNm_len hx).2; unfold maxLen; omega
  have c0 := h.box.cell 0 rfl
  have c5 := h.box.cell 5 rfl
  have hlk := h.seen.lookup x hxl
  rw [hg] at hlk
  obtain ⟨⟨vb, vs', hb, hbr, _⟩, _⟩ := h.files f (h.in1 _ (lget_mem hg))
  obtain ⟨ob, kb, rfl⟩ := rd_slice hbr.rd
  have cf := hb.cell 0 rfl
  have hl4 := hbr.len
  obtain ⟨xs, hxs⟩ : ∃ xs, xs = s.by_ f := ⟨_, rfl⟩
  rw [← hxs] at hbr cf hl4 ⊢
  have HBR := Lib.hid hbr
  have HX := Lib.hid hx
  have HXL := Lib.hid hxl
  have HDD := Lib.hid hd
  simp only [ptrV] at hlk
  clear h hx hd hg hb hbr hxs hxl
  go_enter Try.func15, Try.ntmps15
  go_wp2_with fail
  refine (diskGood_nm x _ HXL.out).mono ?_
  rintro e w' ⟨rfl, rfl⟩
  rw [HX.out]
  go_wp2_with fail
  refine (ask_any p s.dead true _ c5).mono ?_
  rintro e w' ⟨rfl, rfl⟩
  rw [HDD.out, show askI false true = 0 from rfl]
  go_wp2_with fail
  refine (clone_any _ xs _ HBR.out.rd hl4).mono ?_
  rintro e w4 ⟨v4, rfl, hbr, hb4⟩
  obtain ⟨o4, k4, rfl⟩ := rd_slice hbr.rd
  have H4 := Lib.hid hbr
  have HB4 := Lib.hid hb4
  clear hbr hb4 hlk c0 c5 cf
  go_wp2_with fail
  go_ret2
  exact ⟨⟨_, rfl, H4.out⟩, HB4.out⟩
set_option maxRecDepth 100000 in
set_option maxHeartbeats 2000000 in
theorem read_no {B : Nat} {w : World} {p bs bf : Nat} {cv : Value} {vs : List Value} {s : DSt} (x : List UInt8) (h : DRepr B w p bs bf cv vs s) (hx : goodNm x = true) (hd : s.dead = false) (hg : lget s.seen x = none) :
    Calls Try.prog 15 #[.pointer (some ⟨p, 0, none⟩), .string ⟨x.toArray⟩] w fun e w' => e = .returned (.tuple #[.slice none 0 0, .int .i64 6]) ∧ w = w' := by
  have hxl : x.length ≤ maxLen := by have := (goodNm_len hx).2; unfold maxLen; omega
  have c0 := h.box.cell 0 rfl
  have c5 := h.box.cell 5 rfl
  have hlk := h.seen.lookup x hxl
  rw [hg] at hlk
  have HX := Lib.hid hx
  have HXL := Lib.hid hxl
  have HDD := Lib.hid hd
  simp only [ptrV] at hlk
  clear h hx hd hg hxl
  go_enter Try.func15, Try.ntmps15
  go_wp2_with fail
  refine (diskGood_nm x _ HXL.out).mono ?_
  rintro e w' ⟨rfl, rfl⟩
  rw [HX.out]
  go_wp2_with fail
  refine (ask_any p s.dead true _ c5).mono ?_
  rintro e w' ⟨rfl, rfl⟩
  rw [HDD.out, show askI false true = 0 from rfl]
  go_wp2_with fail
  go_ret2
  exact ⟨rfl, rfl⟩
end Go.Proofs.Ytejmbhckfdfoeaa
