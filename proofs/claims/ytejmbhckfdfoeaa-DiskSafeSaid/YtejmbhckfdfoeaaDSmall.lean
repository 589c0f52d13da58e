/-
  SMALL FUNCTIONS of a disk: what stands against a call; a stroke; the changes of names.
-/
import Derived.Test.YtejmbhckfdfoeaaDRep
import Derived.StillTailTactics
import Derived.Deep.QuietTactic
import Derived.BigQuiet
set_option linter.unusedVariables false
set_option linter.unusedSimpArgs false
namespace Go.Proofs.Ytejmbhckfdfoeaa
open Go.RowKit Go.Maps
def askI (dead form : Bool) : Int := bif dead then 6 else bif form then 0 else 1
theorem ask_any (p : Nat) (dead form : Bool) (w : World) (h : w.cell? ⟨p, 5, none⟩ = some (.bool dead)) :
    Calls Try.prog 34 #[.pointer (some ⟨p, 0, none⟩), .bool form] w fun e w' => e = .returned (.int .i64 (askI dead form)) ∧ w = w' := by
  cases dead with
  | true =>
    go_enter Try.func34, Try.ntmps34
    go_wp2
    go_ret
    exact ⟨rfl, rfl⟩
  | false =>
    cases form with
    | true =>
      go_enter Try.func34, Try.ntmps34
      go_wp2
      go_ret
      exact ⟨rfl, rfl⟩
    | false =>
      go_enter Try.func34, Try.ntmps34
      go_wp2
      go_ret
      exact ⟨rfl, rfl⟩
def toldI (off : Bool) : Int := bif off then 6 else 0
theorem told_any (off : Bool) (w : World) :
    Calls Try.prog 39 #[.bool off] w fun e w' => e = .returned (.int .i64 (toldI off)) ∧ w = w' := by
  cases off with
  | true =>
    go_enter Try.func39, Try.ntmps39
    go_wp2
    go_ret
    exact ⟨rfl, rfl⟩
  | false =>
    go_enter Try.func39, Try.ntmps39
    go_wp2
    go_ret
    exact ⟨rfl, rfl⟩
def offB (s : DSt) : Bool := decide (1 ≤ s.off) && decide (s.off ≤ s.strokes + 1)
def strokeS (s : DSt) : DSt := { s with strokes := s.strokes + 1, dead := offB s }
theorem DRepr.turn {B : Nat} {w w' : World} {p bs bf : Nat} {cv : Value} {vs : List Value} {s : DSt} (h : DRepr B w p bs bf cv vs s) {st : Int} {dd : Bool} (hst : 0 ≤ st ∧ st ≤ 1000000)
    (hb : Box w' p 65 #[.map (some bs), .map (some bf), cv, .int .i64 st, .int .i64 s.off, .bool dd]) (hs : Step B w w') (hk : ∀ k, k < w.heap.size → k ≠ p → w'.heap[k]? = w.heap[k]?) :
    DRepr B w' p bs bf cv vs { s with strokes := st, dead := dd } := by
  have hmap : ∀ {b : Nat} {l : NM}, MapRep w b l → MapRep w' b l := fun {b l} hm => hm.block (hk b hm.lt fun e => by
    subst e
    obtain ⟨es, c, hh⟩ := hm.isMap
    have hbx := h.box
    unfold Box at hbx
    rw [hh] at hbx
    cases hbx)
  have hrow : w'.ownsRow B 78 1 cv s.chs.length vs := by
    refine ⟨h.row.1, ?_⟩
    rcases h.row.2 with hn | ⟨g, cap, cur, rfl, hbb, hgg, rest⟩
    · exact .inl hn
    · have hne : g ≠ p := fun e => by
        subst e
        have hbx := h.box
        unfold Box at hbx
        rw [hgg] at hbx
        simp at hbx
      exact .inr ⟨g, cap, cur, rfl, hbb, by rw [hk g (Array.getElem?_eq_some_iff.1 hgg).1 hne]; exact hgg, rest⟩
  refine ⟨hb, hmap h.seen, hmap h.safe, h.ne, hrow, fun i c hi => let ⟨v, h1, h2⟩ := h.chs i c hi; ⟨v, h1, h2.step hs⟩, fun f hf => ?_, h.in1, h.in2, h.nm1, h.hp, h.hs, h.hf, hst, h.offb, h.chl, h.many⟩
  obtain ⟨⟨vb, vs', h1, h2, h3⟩, h4⟩ := h.files f hf
  refine ⟨⟨vb, vs', ?_, h2.step hs, h3.step hs⟩, h4⟩
  unfold Box
  rw [hk f h1.lt fun e => by
    subst e
    have hbx := h.box
    unfold Box at hbx h1
    rw [h1] at hbx
    simp at hbx]
  exact h1
set_option maxRecDepth 100000 in
set_option maxHeartbeats 1000000 in
theorem stroke_any {B : Nat} {w : World} {p bs bf : Nat} {cv : Value} {vs : List Value} {s : DSt} (h : DRepr B w p bs bf cv vs s) (hlt : s.strokes < 1000000) :
    Calls Try.prog 36 #[.pointer (some ⟨p, 0, none⟩)] w fun e w' => e = .returned (.bool (offB s)) ∧ DRepr B w' p bs bf cv vs (strokeS s) ∧ Step B w w' ∧ w'.heap.size = w.heap.size := by
  obtain ⟨ss, hss⟩ : ∃ ss, ss = s.strokes := ⟨_, rfl⟩
  obtain ⟨of, hof⟩ : ∃ of, of = s.off := ⟨_, rfl⟩
  have hb := h.box
  rw [← hss, ← hof] at hb
  have h1 := h.strk
  have h2 := h.offb
  rw [← hss] at h1 hlt
  rw [← hof] at h2
  have HD := Lib.hid h
  have HB := Lib.hid hb
  have HSS := Lib.hid hss
  have HOF := Lib.hid hof
  have HO : Hid (offB s = (decide (1 ≤ of) && decide (of ≤ ss + 1))) := Lib.hid (by rw [offB, hss, hof])
  clear h hb hss hof
  have c3 := HB.out.cell 3 rfl
  have f3 := HB.out.free 3
  obtain ⟨w1, hw1⟩ : ∃ w1, w1 = w.setCell ⟨p, 3, none⟩ (.int .i64 (ss + 1)) := ⟨_, rfl⟩
  have HB1 := Lib.hid (show Box w1 p 65 #[.map (some bs), .map (some bf), cv, .int .i64 (ss + 1), .int .i64 of, .bool s.dead] by rw [hw1]; exact HB.out.set 3 _)
  have HW1 := Lib.hid hw1
  clear hw1
  have c3' := HB1.out.cell 3 rfl
  have c4' := HB1.out.cell 4 rfl
  have c5' := HB1.out.cell 5 rfl
  have f5' := HB1.out.free 5
  obtain ⟨w2, hw2⟩ : ∃ w2, w2 = (w1.setCell ⟨p, 5, none⟩ (.bool (offB s))).drew := ⟨_, rfl⟩
  have HB2 := Lib.hid (show Box w2 p 65 #[.map (some bs), .map (some bf), cv, .int .i64 (ss + 1), .int .i64 of, .bool (offB s)] by rw [hw2]; exact (HB1.out.set 5 _).same ⟨1, rfl⟩)
  have c5'' := HB2.out.cell 5 rfl
  have HW2 := Lib.hid hw2
  have HST := Lib.hid (show Step B w w2 from by
    rw [hw2, HW1.out]
    exact ((Step.of_set HB.out rfl HD.out.hp _).trans (Step.of_set (HB.out.set 3 _) rfl HD.out.hp _)).trans ⟨Below.drew (Below.refl _ _), fun _ _ h _ => h⟩)
  have HK := Lib.hid (show ∀ k, k < w.heap.size → k ≠ p → w2.heap[k]? = w.heap[k]? from fun k _ hk => by
    rw [hw2, HW1.out]
    show ((w.setCell _ _).setCell _ _).heap[k]? = _
    rw [Below.heap_setCell _ _ _ _ hk, Below.heap_setCell _ _ _ _ hk])
  have HZ := Lib.hid (show w2.heap.size = w.heap.size from by rw [hw2, HW1.out]; simp [World.setCell, World.drew])
  clear hw2
  have HEND := Lib.hid (show DRepr B w2 p bs bf cv vs (strokeS s) from by
    have := HD.out.turn (st := ss + 1) (dd := offB s) ⟨by omega, by omega⟩ (by rw [← HOF.out]; exact HB2.out) HST.out HK.out
    rw [strokeS, ← HSS.out]; exact this)
  rw [HW1.out] at c3' c4' c5' f5'
  go_enter Try.func36, Try.ntmps36
  go_wp2_with fail
  rw [← HW1.out] at c3' c4' c5' f5' ⊢
  by_cases g1 : 1 ≤ of
  · have e1 : decide (1 ≤ of) = true := decide_eq_true g1
    go_still_tail 19, (by kernel_rfl)
    have HX := Lib.hid (show (w1.setCell ⟨p, 5, none⟩ (.bool (decide (of ≤ ss + 1)))).drew = w2 by rw [HW2.out, HO.out, e1, Bool.true_and])
    have HY := Lib.hid (show decide (of ≤ ss + 1) = offB s by rw [HO.out, e1, Bool.true_and])
    go_upto_region 3 with (fail)
    rw [HX.out]
    go_wp2_with fail
    go_ret
    exact ⟨rfl, HEND.out, HST.out, HZ.out⟩
  · have e1 : decide (1 ≤ of) = false := decide_eq_false g1
    go_region
    have HX := Lib.hid (show (w1.setCell ⟨p, 5, none⟩ (.bool false)).drew = w2 by rw [HW2.out, HO.out, e1, Bool.false_and])
    go_upto_region 3 with (fail)
    rw [HX.out]
    go_wp2_with fail
    go_ret
    exact ⟨rfl, HEND.out, HST.out, HZ.out⟩
end Go.Proofs.Ytejmbhckfdfoeaa
