/-
  WHAT A NODE SEES: eval.Look of a part of an axis.
-/
import Derived.Test.YtipjhdgegfgenaaGreatEV23
set_option linter.unusedVariables false
set_option linter.unusedSimpArgs false
namespace Go.Proofs.YtipjhdgegfgenaaGreat
open Go.RowKit Go.Shelf Go
theorem keep7G {g : Nat} {w2 W : World} {b1 b2 b3 f : Nat} {v0 v1 v2 v3 v4 v5 v6 : Value} (hc : w2.cell? ⟨b1, 0, none⟩ = some v0 ∧ w2.cell? ⟨b1, 1, none⟩ = some v1 ∧ w2.cell? ⟨b1, 2, none⟩ = some v2 ∧ w2.cell? ⟨b2, 2, none⟩ = some v3 ∧ w2.cell? ⟨b3, f, none⟩ = some v4 ∧ w2.cell? ⟨b3, f + 1, none⟩ = some v5 ∧ w2.cell? ⟨b3, f + 2, none⟩ = some v6) (hn : b1 ≠ g ∧ b2 ≠ g ∧ b3 ≠ g) (h : LieG g w2 W) :
    W.cell? ⟨b1, 0, none⟩ = some v0 ∧ W.cell? ⟨b1, 1, none⟩ = some v1 ∧ W.cell? ⟨b1, 2, none⟩ = some v2 ∧ W.cell? ⟨b2, 2, none⟩ = some v3 ∧ W.cell? ⟨b3, f, none⟩ = some v4 ∧ W.cell? ⟨b3, f + 1, none⟩ = some v5 ∧ W.cell? ⟨b3, f + 2, none⟩ = some v6 :=
  ⟨h.cell hn.1 hc.1, h.cell hn.1 hc.2.1, h.cell hn.1 hc.2.2.1, h.cell hn.2.1 hc.2.2.2.1, h.cell hn.2.2 hc.2.2.2.2.1, h.cell hn.2.2 hc.2.2.2.2.2.1, h.cell hn.2.2 hc.2.2.2.2.2.2⟩
set_option maxRecDepth 1000000 in
set_option maxHeartbeats 8000000 in
theorem look21 (word : Int) (oa oi o1 o2 o3 o4 : Option Addr) (na ni n1 n2 n3 n4 ca ci c1 c2 c3 c4 : Nat) (vs : Value) (sh : List Nat) (y fr to_ : Nat) (w : World) (hi : Rd w .i64 (.slice oi ni ci) [(y : Int), (fr : Int), (to_ : Int)]) (hni : ni = 3) (hs : Rd w .i64 vs (ints sh)) (hg : shapeB (ints sh) = true) (hy : y < sh.length) (hft : fr < to_) (hto : to_ ≤ sh.getD y 0) (hbd : fr * (stepsN sh).getD y 0 ≤ 1000000) :
    Calls Tryz.prog 66 #[.agg #[.int .i64 21, .slice oa na ca, .slice oi ni ci, .int .i64 word, .slice o1 n1 c1, .slice o2 n2 c2, .slice o3 n3 c3, .slice o4 n4 c4], vs] w (ViewOk w (ints (sh.set y (to_ - fr))) (ints (stepsN sh)) ((0 + fr * (stepsN sh).getD y 0 : Nat) : Int)) := by
  subst hni
  obtain ⟨bi, fi, hoi, e0⟩ := hi.cell 0 (by simp)
  obtain ⟨bi', fi', hoi1, e1⟩ := hi.cell 1 (by simp)
  obtain ⟨bi'', fi'', hoi2, e2⟩ := hi.cell 2 (by simp)
  subst hoi
  simp at hoi1 hoi2
  obtain ⟨rfl, rfl⟩ := hoi1
  obtain ⟨rfl, rfl⟩ := hoi2
  rw [Nat.add_zero] at e0
  simp only [nth, List.getD_cons_zero, List.getD_cons_succ] at e0 e1 e2
  have HE := Lib.hid (And.intro e0 (And.intro e1 e2))
  have HI := Lib.hid (And.intro hy (And.intro hft (And.intro hto hbd)))
  clear hi hy hft hto hbd e0 e1 e2
  obtain ⟨os, cs, rfl⟩ := rd_slice hs
  obtain ⟨m, hm⟩ : ∃ m, m = (ints sh).length := ⟨_, rfl⟩
  have hm4 : m ≤ 4 := by rw [hm, ints_length]; exact (dims_good hg).2
  rw [← hm] at hs ⊢
  obtain ⟨W, hW⟩ : ∃ W, W = (w.alloc (.cells #[.int .i64 21, .slice oa na ca, .slice (some ⟨bi, fi, none⟩) 3 ci, .int .i64 word, .slice o1 n1 c1, .slice o2 n2 c2, .slice o3 n3 c3, .slice o4 n4 c4] 27)).alloc (.cells #[.slice none 0 0, .slice none 0 0, .int .i64 0] 81) := ⟨_, rfl⟩
  have HX := Lib.hid (two_boxV w _ _ _ _ hW)
  have HW := Lib.hid hW
  have HS := Lib.hid hs
  have HG := Lib.hid hg
  have HM := Lib.hid hm
  clear hm hW hs hg
  go_enter Tryz.func66, Tryz.ntmps66
  go_wp2_with (go_at_call 113; rw [← HW.out]; refine (viewPlain_any _ sh W (HS.out.below HX.out.2.2 (Nat.le_refl _)) (dims_good HG.out)).mono ?_; rintro e w1 ⟨hb1, a, b, rfl, hoa, hob⟩; refine stopHere ?_)
  have HX1 := Lib.hid (two_nextV HX.out hb1)
  obtain ⟨op, cp, hap⟩ := own_slice hoa
  obtain ⟨oq, cq, hbq⟩ := own_slice hob
  subst hap
  subst hbq
  rw [show (ints (stepsN sh)).length = (ints sh).length by rw [ints_length, ints_length, stepsN_length]] at hob ⊢
  rw [← HM.out] at hoa hob ⊢
  obtain ⟨w2, hw2⟩ : ∃ w2, w2 = w1.alloc (.cells #[.slice op m cp, .slice oq m cq, .int .i64 0] 81) := ⟨_, rfl⟩
  have hb2 : Below w1.heap.size w1 w2 := by rw [hw2]; exact (Below.refl _ _).alloc (Nat.le_refl _) _
  have hbx2 : Box w2 w1.heap.size 81 #[.slice op m cp, .slice oq m cq, .int .i64 0] := by rw [hw2]; exact Box.new _ _ _
  have HX2 := Lib.hid (And.intro (two_nextV HX1.out hb2) (And.intro hbx2 (And.intro (Rd.of_own (own_st_next hb2 hoa)) (Rd.of_own (own_st_next hb2 hob)))))
  have HW2 := Lib.hid hw2
  have hlt : w1.heap.size < w2.heap.size := hbx2.lt
  have hgw : w.heap.size + 1 < w1.heap.size := HX1.out.2.1.lt
  have d0 : w2.cell? ⟨w.heap.size, 0, none⟩ = some (.int .i64 21) := HX2.out.1.1.cell 0 rfl
  have d2 : w2.cell? ⟨w.heap.size, 2, none⟩ = some (.slice (some ⟨bi, fi, none⟩) 3 ci) := HX2.out.1.1.cell 2 rfl
  have v0 : w2.cell? ⟨w1.heap.size, 0, none⟩ = some (.slice op m cp) := hbx2.cell 0 rfl
  have v1 : w2.cell? ⟨w1.heap.size, 1, none⟩ = some (.slice oq m cq) := hbx2.cell 1 rfl
  have v2 : w2.cell? ⟨w1.heap.size, 2, none⟩ = some (.int .i64 0) := hbx2.cell 2 rfl
  clear hb1 hoa hob hw2 hb2 hbx2
  refine goOn ?_
  go_upto_region 2 with fail
  rw [← HW2.out]
  have e0 : w2.cell? ⟨bi, fi, none⟩ = some (.int .i64 y) := (HX2.out.1.2.2.cell (p := ⟨bi, fi, none⟩) (cell_lt HE.out.1)).trans HE.out.1
  have e1 : w2.cell? ⟨bi, fi + 1, none⟩ = some (.int .i64 fr) := (HX2.out.1.2.2.cell (p := ⟨bi, fi + 1, none⟩) (cell_lt HE.out.2.1)).trans HE.out.2.1
  have e2 : w2.cell? ⟨bi, fi + 2, none⟩ = some (.int .i64 to_) := (HX2.out.1.2.2.cell (p := ⟨bi, fi + 2, none⟩) (cell_lt HE.out.2.2)).trans HE.out.2.2
  go_wp2_with fail
  obtain ⟨of_, hof⟩ : ∃ of_ : Int, of_ = ((0 + fr * (stepsN sh).getD y 0 : Nat) : Int) := ⟨_, rfl⟩
  have HOF := Lib.hid hof
  have HPV := Lib.hid (show ∀ X, Below w2.heap.size w2 X → Calls Tryz.prog 116 #[.agg #[.slice op m cp, .slice oq m cq, .int .i64 0], .int .i64 y, .int .i64 fr, .int .i64 to_] X (ViewOk X (ints (sh.set y (to_ - fr))) (ints (stepsN sh)) of_) from fun X h => by
    rw [hof]
    exact viewSlice_any (.slice op m cp) (.slice oq m cq) sh (stepsN sh) 0 y fr to_ X (HX2.out.2.2.1.below h (Nat.le_refl _)) (HX2.out.2.2.2.below h (Nat.le_refl _)) (plain_view HG.out (prod_good HG.out) (Nat.le_refl _)) HI.out.1 HI.out.2.1 HI.out.2.2.1 HI.out.2.2.2)
  clear hof
  have HC := Lib.hid (And.intro v0 (And.intro v1 (And.intro v2 (And.intro d2 (And.intro e0 (And.intro e1 e2))))))
  have hbw : bi < w.heap.size := cell_lt HE.out.1
  have HNE := Lib.hid (show w1.heap.size ≠ w.heap.size + 1 ∧ w.heap.size ≠ w.heap.size + 1 ∧ bi ≠ w.heap.size + 1 by omega)
  have HX := Lib.hid (show LieG (w.heap.size + 1) w2 w2.drew from LieG.drew _)
  have HXB := Lib.hid (show Below w2.heap.size w2 w2.drew from Below.drew (Below.refl _ _))
  have r0 : w2.cell? ⟨w.heap.size + 1, 0, none⟩ = some (.slice none 0 0) := HX2.out.1.2.1.cell 0 rfl
  go_region_held3 (fun w' => w'.cell? ⟨w1.heap.size, 0, none⟩ = some (.slice op m cp) ∧ w'.cell? ⟨w1.heap.size, 1, none⟩ = some (.slice oq m cq) ∧ w'.cell? ⟨w1.heap.size, 2, none⟩ = some (.int .i64 0) ∧ w'.cell? ⟨w.heap.size, 2, none⟩ = some (.slice (some ⟨bi, fi, none⟩) 3 ci) ∧ w'.cell? ⟨bi, fi, none⟩ = some (.int .i64 y) ∧ w'.cell? ⟨bi, fi + 1, none⟩ = some (.int .i64 fr) ∧ w'.cell? ⟨bi, fi + 2, none⟩ = some (.int .i64 to_))
    ((refine keep7G HC.out HNE.out ?_; (repeat (first | with_reducible exact HX.out | with_reducible refine LieG.trans ?_ (LieG.set _ _) | with_reducible refine LieG.trans ?_ (LieG.drew _)))))
    ((first
    | (go_at_call 116; refine (HPV.out _ HXB.out).mono ?_; rintro e w3 ⟨hb3, a3, b3, rfl, hoa3, hob3⟩;
       have hb3 := HXB.out.trans (hb3.mono HXB.out.size); have HX := Lib.hid (LieG.below (g := w.heap.size + 1) hb3); have HX3 := Lib.hid (two_nextV HX2.out.1 hb3); obtain ⟨oz, cz, hzz⟩ := own_slice hoa3; obtain ⟨oy, cy, hyy⟩ := own_slice hob3; subst hzz; subst hyy;
       have r0 : w3.cell? ⟨w.heap.size + 1, 0, none⟩ = some (.slice none 0 0) := HX3.out.2.1.cell 0 rfl; have r1 : w3.cell? ⟨w.heap.size + 1, 1, none⟩ = some (.slice none 0 0) := HX3.out.2.1.cell 1 rfl; have r2 : w3.cell? ⟨w.heap.size + 1, 2, none⟩ = some (.int .i64 0) := HX3.out.2.1.cell 2 rfl; have q0 := HX3.out.2.1.free 0; have q1 := HX3.out.2.1.free 1; have q2 := HX3.out.2.1.free 2; have HO := Lib.hid (And.intro (own_mono hoa3 HXB.out.size) (own_mono hob3 HXB.out.size)); clear hoa3 hob3 hb3)))
  obtain ⟨nz, hnz⟩ : ∃ nz, nz = (ints (sh.set y (to_ - fr))).length := ⟨_, rfl⟩
  obtain ⟨ny, hny⟩ : ∃ ny, ny = (ints (stepsN sh)).length := ⟨_, rfl⟩
  have HO2 := Lib.hid (show OwnI w3 w2.heap.size 3 .i64 (.slice oz nz cz) (ints (sh.set y (to_ - fr))) ∧ OwnI w3 w2.heap.size 3 .i64 (.slice oy ny cy) (ints (stepsN sh)) from by rw [hnz, hny]; exact HO.out)
  rw [← hnz, ← hny]
  clear hnz hny HO r0 r1 r2 q0 q1 q2
  go_wp2_with fail
  obtain ⟨Y, hY⟩ : ∃ Y, Y = ((w3.setCell ⟨w.heap.size + 1, 0, none⟩ (.slice oz nz cz)).setCell ⟨w.heap.size + 1, 1, none⟩ (.slice oy ny cy)).setCell ⟨w.heap.size + 1, 2, none⟩ (.int .i64 of_) := ⟨_, rfl⟩
  have hb3 : Box Y (w.heap.size + 1) 81 #[.slice oz nz cz, .slice oy ny cy, .int .i64 of_] := by rw [hY]; exact (((HX3.out.2.1.set 0 _).set 1 _).set 2 _)
  have own3 : ∀ {v : Value} {j : Nat} {l : List Value}, w3.ownsRow w2.heap.size 3 1 v j l → Y.ownsRow w2.heap.size 3 1 v j l := fun h => by
    rw [hY]
    exact own_st_set (own_st_set (own_st_set h (fun j hj => by have := (h.lt j hj).1; omega)) (fun j hj => by have := (h.lt j hj).1; omega)) (fun j hj => by have := (h.lt j hj).1; omega)
  have hbel : Below w.heap.size w Y := by rw [hY]; exact below_st_set (below_st_set (below_st_set HX3.out.2.2 (Nat.le_succ w.heap.size)) (Nat.le_succ w.heap.size)) (Nat.le_succ w.heap.size)
  have hra := own_mono (own3 HO2.out.1) (show w.heap.size ≤ w2.heap.size by omega)
  have hrb := own_mono (own3 HO2.out.2) (show w.heap.size ≤ w2.heap.size by omega)
  (try rw [← hY])
  have y0 := hb3.cell 0 rfl
  have y1 := hb3.cell 1 rfl
  have y2 := hb3.cell 2 rfl
  have HZ := Lib.hid (And.intro hbel (And.intro hra hrb))
  clear hbel hra hrb own3 hb3 hY
  refine bodyPost_ret (v := .tuple #[.agg #[.slice oz nz cz, .slice oy ny cy, .int .i64 of_], .int .i64 0]) (by simp [results, Tryz.results66, go_sem, y0, y1, y2]) rfl ⟨HZ.out.1, .slice oz nz cz, .slice oy ny cy, by rw [HOF.out], HZ.out.2.1, HZ.out.2.2⟩
end Go.Proofs.YtipjhdgegfgenaaGreat
