/-
  SyncDir.
-/
import Derived.Test.YtejmbhckfdfoeaaDSync
import Derived.Test.YtejmbhckfdfoeaaDKeys
set_option linter.unusedVariables false
set_option linter.unusedSimpArgs false
namespace Go.Proofs.Ytejmbhckfdfoeaa
open Go.RowKit Go.Maps
theorem mapsClone_any {b : Nat} {l : NM} {w : World} (h : MapRep w b l) :
    Calls Try.prog 42 #[.map (some b)] w fun e w' => e = .returned (.map (some w.heap.size)) ∧ MapRep w' w.heap.size l ∧ Below w.heap.size w w' := by
  obtain ⟨D, ⟨es, c, hb, hr⟩, hD⟩ := h.ex
  refine (AnyW.maps_Clone cloneM b es c w hb).mono ?_
  rintro e w' ⟨rfl, rfl⟩
  exact ⟨rfl, ⟨⟨D, ⟨es, c, World.alloc_heap_new w _, hr⟩, hD⟩⟩, (Below.refl _ _).alloc (Nat.le_refl _) _⟩
def syncDirS (s : DSt) : DSt := bif offB s then strokeS s else { strokeS s with safe := s.seen, chs := [] }
theorem DRepr.setDir {B : Nat} {w : World} {p bs bf m : Nat} {cv : Value} {vs : List Value} {s : DSt} (h : DRepr B w p bs bf cv vs s) (hm : MapRep w m s.seen) (hne : bs ≠ m) (hB : B ≤ m) :
    DRepr B ((w.setCell ⟨p, 1, none⟩ (.map (some m))).setCell ⟨p, 2, none⟩ (.slice none 0 0)) p bs m (.slice none 0 0) [] { s with safe := s.seen, chs := [] } ∧ Step B w ((w.setCell ⟨p, 1, none⟩ (.map (some m))).setCell ⟨p, 2, none⟩ (.slice none 0 0)) := by
  have hst : Step B w ((w.setCell ⟨p, 1, none⟩ (.map (some m))).setCell ⟨p, 2, none⟩ (.slice none 0 0)) := (Step.of_set h.box rfl h.hp _).trans (Step.of_set (h.box.set 1 _) rfl h.hp _)
  have hk : ∀ k, k ≠ p → ((w.setCell ⟨p, 1, none⟩ (.map (some m))).setCell ⟨p, 2, none⟩ (.slice none 0 0)).heap[k]? = w.heap[k]? := fun k hk => by
    rw [Below.heap_setCell _ _ _ _ hk, Below.heap_setCell _ _ _ _ hk]
  refine ⟨⟨(h.box.set 1 _).set 2 _, h.seen.block (hk bs (h.seen.ne_box h.box)), hm.block (hk m (hm.ne_box h.box)), hne, World.ownsRow_nil _ _ _ _, fun i c hi => by simp at hi, fun g hg => ?_, h.in1, h.in1, h.nm1, h.hp, h.hs, hB, h.strk, h.offb, by simp, h.many⟩, hst⟩
  obtain ⟨⟨vb', vs', k1, k2, k3⟩, k4⟩ := h.files g hg
  exact ⟨⟨vb', vs', (hk g (k1.ne_type h.box (by decide))).trans k1, k2.step hst, k3.step hst⟩, k4⟩
set_option maxRecDepth 100000 in
set_option maxHeartbeats 4000000 in
theorem syncDir_ok {B : Nat} {w : World} {p bs bf : Nat} {cv : Value} {vs : List Value} {s : DSt} (h : DRepr B w p bs bf cv vs s) (hd : s.dead = false) (hst : s.strokes < 1000000) :
    Calls Try.prog 23 #[.pointer (some ⟨p, 0, none⟩)] w fun e w' => e = .returned (.int .i64 (toldI (offB s))) ∧ (∃ bf' cv' vs', DRepr B w' p bs bf' cv' vs' (syncDirS s)) ∧ Step B w w' := by
  have c5 := h.box.cell 5 rfl
  have hB0 : B ≤ w.heap.size := Nat.le_of_lt h.baseLt
  have HD := Lib.hid h
  have HDD := Lib.hid hd
  clear h hd
  go_enter Try.func23, Try.ntmps23
  go_wp2_with fail
  refine (ask_any p s.dead true _ c5).mono ?_
  rintro e w' ⟨rfl, rfl⟩
  rw [HDD.out, show askI false true = 0 from rfl]
  clear c5
  go_wp2_with fail
  refine (stroke_any HD.out hst).mono ?_
  rintro e w2 ⟨rfl, hd2, hs2, hz2⟩
  have HD2 := Lib.hid hd2
  have HS2 := Lib.hid hs2
  have hz2' : B ≤ w2.heap.size := by omega
  clear hd2 hs2 hz2
  cases hof : offB s with
  | true =>
    have HOF := Lib.hid hof
    clear hof
    go_wp2_with fail
    refine (told_any true _).mono ?_
    rintro e w' ⟨rfl, rfl⟩
    go_wp2_with fail
    go_ret
    exact ⟨by rw [HOF.out]; rfl, ⟨bf, cv, vs, by rw [syncDirS, HOF.out]; exact HD2.out⟩, HS2.out⟩
  | false =>
    have HOF := Lib.hid hof
    have c0 := HD2.out.box.cell 0 rfl
    clear hof
    go_wp2_with fail
    refine (mapsClone_any HD2.out.seen).mono ?_
    rintro e w3 ⟨rfl, hm3, hb3⟩
    have hlt : bs < w2.heap.size := HD2.out.seen.lt
    have HD3 := Lib.hid (HD2.out.next hb3 hz2')
    have HS3 := Lib.hid (HS2.out.trans (Step.of_below hb3 hz2'))
    have HM3 := Lib.hid hm3
    have c1 := HD3.out.box.cell 1 rfl
    have f1 := HD3.out.box.free 1
    have c2 := (HD3.out.box.set 1 (.map (some w2.heap.size))).cell 2 rfl
    have f2 := (HD3.out.box.set 1 (.map (some w2.heap.size))).free 2
    clear hm3 hb3 c0
    go_wp2_with fail
    have HF := Lib.hid (HD3.out.setDir HM3.out (by omega) hz2')
    clear c1 f1 c2 f2
    refine (told_any false _).mono ?_
    rintro e w' ⟨rfl, rfl⟩
    go_wp2_with fail
    go_ret
    exact ⟨by rw [HOF.out]; rfl, ⟨_, _, _, by rw [syncDirS, HOF.out]; exact HF.out.1⟩, HS3.out.trans HF.out.2⟩
end Go.Proofs.Ytejmbhckfdfoeaa
