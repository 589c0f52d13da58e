/-
  Sync.
-/
import Derived.Test.YtejmbhckfdfoeaaDMove
set_option linter.unusedVariables false
set_option linter.unusedSimpArgs false
namespace Go.Proofs.Ytejmbhckfdfoeaa
open Go.RowKit Go.Maps
def syncS (s : DSt) (f : Nat) : DSt := bif offB s then strokeS s else { strokeS s with sf := updF s.sf f (s.by_ f) }
theorem Box.ne_type {w : World} {a b : Nat} {T U : TypeId} {cs ds : Array Value} (h : Box w a T cs) (k : Box w b U ds) (hTU : T ≠ U) : a ≠ b := fun e => by
  subst e
  unfold Box at h k
  rw [h] at k
  simp at k
  exact hTU k.2
theorem MapRep.ne_box {w : World} {a b : Nat} {l : NM} {T : TypeId} {cs : Array Value} (h : MapRep w a l) (k : Box w b T cs) : a ≠ b := fun e => by
  subst e
  obtain ⟨es, c, hh⟩ := h.isMap
  unfold Box at k
  rw [hh] at k
  cases k
theorem own_ne {w : World} {B : Nat} {e : TypeId} {s n : Nat} {v : Value} {xs : List Value} (h : w.ownsRow B e s v n xs) {p : Addr} {T : TypeId} {cs : Array Value} (hb : Box w p.block T cs) (hT : e ≠ T) (u : Value) : (w.setCell p u).ownsRow B e s v n xs := by
  refine ⟨h.1, ?_⟩
  rcases h.2 with hn | ⟨g, cap, cur, rfl, hbb, hg, r⟩
  · exact .inl hn
  · have hne : g ≠ p.block := fun he => by
      subst he
      unfold Box at hb
      rw [hg] at hb
      simp at hb
      exact hT hb.2
    exact .inr ⟨g, cap, cur, rfl, hbb, (Below.heap_setCell w p u g hne).trans hg, r⟩
theorem DRepr.setSafe {B : Nat} {w : World} {p bs bf : Nat} {cv : Value} {vs : List Value} {s : DSt} (h : DRepr B w p bs bf cv vs s) {f : Nat} (hf : f ∈ s.ids) {v : Value} {ys : List Int} (hv : BytesRep B w v ys) :
    DRepr B (w.setCell ⟨f, 1, none⟩ v) p bs bf cv vs { s with sf := updF s.sf f ys } ∧ Step B w (w.setCell ⟨f, 1, none⟩ v) := by
  obtain ⟨⟨vb, vs1, hfb, hb1, hb2⟩, hge⟩ := h.files f hf
  have hst : Step B w (w.setCell ⟨f, 1, none⟩ v) := Step.of_set hfb rfl hge v
  have hmap : ∀ {b : Nat} {l : NM}, MapRep w b l → MapRep (w.setCell ⟨f, 1, none⟩ v) b l := fun {b l} hm => hm.block (Below.heap_setCell _ _ _ _ (hm.ne_box hfb))
  refine ⟨⟨h.box.other (show f ≠ p from hfb.ne_type h.box (by decide)) v, hmap h.seen, hmap h.safe, h.ne, own_ne h.row hfb (by decide) v, fun i c hi => let ⟨v', h1, h2⟩ := h.chs i c hi; ⟨v', h1, h2.step hst⟩, fun g hg => ?_, h.in1, h.in2, h.nm1, h.hp, h.hs, h.hf, h.strk, h.offb, h.chl, h.many⟩, hst⟩
  obtain ⟨⟨vb', vs', k1, k2, k3⟩, k4⟩ := h.files g hg
  by_cases e : g = f
  · subst e
    refine ⟨⟨vb', v, k1.set 1 v, k2.step hst, ?_⟩, k4⟩
    simp only [updF, if_true]
    exact hv.step hst
  · refine ⟨⟨vb', vs', k1.other (show f ≠ g from fun h => e h.symm) v, k2.step hst, ?_⟩, k4⟩
    simp only [updF, if_neg e]
    exact k3.step hst
set_option maxRecDepth 100000 in
set_option maxHeartbeats 4000000 in
theorem sync_ok {B : Nat} {w : World} {p bs bf : Nat} {cv : Value} {vs : List Value} {s : DSt} (x : List UInt8) (f : Nat) (h : DRepr B w p bs bf cv vs s) (hxx : goodNm x = true) (hd : s.dead = false) (hg : lget s.seen x = some f) (hst : s.strokes < 1000000) :
    Calls Try.prog 22 #[.pointer (some ⟨p, 0, none⟩), .string ⟨x.toArray⟩] w fun e w' => e = .returned (.int .i64 (toldI (offB s))) ∧ DRepr B w' p bs bf cv vs (syncS s f) ∧ Step B w w' := by
  have hxl : x.length ≤ maxLen := by have := (goodNm_len hxx).2; unfold maxLen; omega
  have hB0 : B ≤ w.heap.size := Nat.le_of_lt h.baseLt
  have c5 := h.box.cell 5 rfl
  have HD := Lib.hid h
  have HX := Lib.hid hxx
  have HXL := Lib.hid hxl
  have HDD := Lib.hid hd
  have HG := Lib.hid hg
  clear h hxx hxl hd hg
  go_enter Try.func22, Try.ntmps22
  go_wp2_with fail
  refine (diskGood_nm x _ HXL.out).mono ?_
  rintro e w' ⟨rfl, rfl⟩
  rw [HX.out]
  go_wp2_with fail
  refine (ask_any p s.dead true _ c5).mono ?_
  rintro e w' ⟨rfl, rfl⟩
  rw [HDD.out, show askI false true = 0 from rfl]
  clear c5
  go_wp2_with fail
  refine (stroke_any HD.out hst).mono ?_
  rintro e w2 ⟨rfl, hd2, hs2, hz2⟩
  have c0 := hd2.box.cell 0 rfl
  have hlk := hd2.seen.lookup x HXL.out
  rw [show (strokeS s).seen = s.seen from rfl, HG.out] at hlk
  simp only [ptrV] at hlk
  have hid : f ∈ (strokeS s).ids := hd2.in1 (x, f) (lget_mem HG.out)
  obtain ⟨⟨vb, vs1, hfb, hbr, _⟩, _⟩ := hd2.files f hid
  obtain ⟨ob, kb, rfl⟩ := rd_slice hbr.rd
  have hxl4 := hbr.len
  obtain ⟨xs, hxs⟩ : ∃ xs, xs = s.by_ f := ⟨_, rfl⟩
  have hsb : (strokeS s).by_ f = xs := hxs.symm
  rw [hsb] at hfb hbr hxl4
  have HD2 := Lib.hid hd2
  have HS2 := Lib.hid hs2
  have HBR := Lib.hid hbr
  have HFB := Lib.hid hfb
  have HID := Lib.hid hid
  have HXS := Lib.hid hxs
  have hz2' : B ≤ w2.heap.size := by omega
  clear hd2 hs2 hz2 hfb hbr hid hxs hsb
  cases hof : offB s with
  | true =>
    have HOF := Lib.hid hof
    clear hof
    go_wp2_with fail
    refine (told_any true _).mono ?_
    rintro e w' ⟨rfl, rfl⟩
    go_wp2_with fail
    go_ret
    exact ⟨by rw [HOF.out]; rfl, by rw [syncS, HOF.out]; exact HD2.out, HS2.out⟩
  | false =>
    have HOF := Lib.hid hof
    have cb := HFB.out.cell 0 rfl
    clear hof
    go_wp2_with fail
    refine (clone_any _ xs _ HBR.out.rd hxl4).mono ?_
    rintro e w3 ⟨v3, rfl, hbr3, hb3⟩
    obtain ⟨o3, k3, rfl⟩ := rd_slice hbr3.rd
    have HD3 := Lib.hid (HD2.out.next hb3 hz2')
    have HS3 := Lib.hid (HS2.out.trans (Step.of_below hb3 hz2'))
    have HB3 := Lib.hid (hbr3.mono hz2')
    have c1 := (HFB.out.next hb3).cell 1 rfl
    have f1 := (HFB.out.next hb3).free 1
    clear hbr3 hb3 cb c0 hlk
    go_wp2_with fail
    have HF := Lib.hid (HD3.out.setSafe HID.out HB3.out)
    clear c1 f1
    refine (told_any false _).mono ?_
    rintro e w' ⟨rfl, rfl⟩
    go_wp2_with fail
    go_ret
    exact ⟨by rw [HOF.out]; rfl, by rw [syncS, HOF.out, ← HXS.out]; exact HF.out.1, HS3.out.trans HF.out.2⟩
set_option maxRecDepth 100000 in
set_option maxHeartbeats 4000000 in
theorem sync_no {B : Nat} {w : World} {p bs bf : Nat} {cv : Value} {vs : List Value} {s : DSt} (x : List UInt8) (h : DRepr B w p bs bf cv vs s) (hxx : goodNm x = true) (hd : s.dead = false) (hg : lget s.seen x = none) (hst : s.strokes < 1000000) :
    Calls Try.prog 22 #[.pointer (some ⟨p, 0, none⟩), .string ⟨x.toArray⟩] w fun e w' => e = .returned (.int .i64 6) ∧ DRepr B w' p bs bf cv vs (strokeS s) ∧ Step B w w' := by
  have hxl : x.length ≤ maxLen := by have := (goodNm_len hxx).2; unfold maxLen; omega
  have c5 := h.box.cell 5 rfl
  have HD := Lib.hid h
  have HX := Lib.hid hxx
  have HXL := Lib.hid hxl
  have HDD := Lib.hid hd
  have HG := Lib.hid hg
  clear h hxx hxl hd hg
  go_enter Try.func22, Try.ntmps22
  go_wp2_with fail
  refine (diskGood_nm x _ HXL.out).mono ?_
  rintro e w' ⟨rfl, rfl⟩
  rw [HX.out]
  go_wp2_with fail
  refine (ask_any p s.dead true _ c5).mono ?_
  rintro e w' ⟨rfl, rfl⟩
  rw [HDD.out, show askI false true = 0 from rfl]
  clear c5
  go_wp2_with fail
  refine (stroke_any HD.out hst).mono ?_
  rintro e w2 ⟨rfl, hd2, hs2, hz2⟩
  have c0 := hd2.box.cell 0 rfl
  have hlk := hd2.seen.lookup x HXL.out
  rw [show (strokeS s).seen = s.seen from rfl, HG.out] at hlk
  simp only [ptrV] at hlk
  have HD2 := Lib.hid hd2
  have HS2 := Lib.hid hs2
  clear hd2 hs2 hz2
  go_wp2_with fail
  go_ret
  exact ⟨rfl, HD2.out, HS2.out⟩
end Go.Proofs.Ytejmbhckfdfoeaa
