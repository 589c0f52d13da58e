/-
  A PART of an axis: ratchet/view.Slice.
-/
import Derived.Test.YtipjhdgegfgenaaGreatEV20
import Derived.Test.YtipjhdgegfgenaaGreatEV21
set_option linter.unusedVariables false
set_option linter.unusedSimpArgs false
namespace Go.Proofs.YtipjhdgegfgenaaGreat
open Go.RowKit Go.Shelf Go
theorem ints_set (l : List Nat) (k x : Nat) : (ints l).set k (x : Int) = ints (l.set k x) := by simp [ints, List.map_set]
set_option maxRecDepth 1000000 in
set_option maxHeartbeats 8000000 in
theorem viewSlice_any (va vb : Value) (sh st : List Nat) (off y fr to_ : Nat) (w : World) (ha : Rd w .i64 va (ints sh)) (hb : Rd w .i64 vb (ints st)) (hv : ViewN sh st off 65536) (hy : y < sh.length) (hft : fr < to_) (hto : to_ ≤ sh.getD y 0) (hbd : fr * st.getD y 0 ≤ 1000000) :
    Calls Tryz.prog 116 #[.agg #[va, vb, .int .i64 off], .int .i64 y, .int .i64 fr, .int .i64 to_] w (ViewOk w (ints (sh.set y (to_ - fr))) (ints st) ((off + fr * st.getD y 0 : Nat) : Int)) := by
  obtain ⟨oa, ca, rfl⟩ := rd_slice ha
  obtain ⟨ob, cb, rfl⟩ := rd_slice hb
  have hl2 : (ints st).length = (ints sh).length := by rw [ints_length, ints_length, hv.len]
  rw [hl2] at hb ⊢
  have hys : y < st.length := by rw [hv.len]; exact hy
  have hgs : sh.getD y 0 = sh[y] := by simp [List.getD_eq_getElem?_getD, List.getElem?_eq_getElem hy]
  have hgt : st.getD y 0 = st[y] := by simp [List.getD_eq_getElem?_getD, List.getElem?_eq_getElem hys]
  have hd6 : sh[y] ≤ 4096 := (hv.dims.1 _ (List.getElem_mem hy)).2
  obtain ⟨b1, f1, hoa, h1⟩ := ha.cell y (by rw [ints_length]; exact hy)
  obtain ⟨b2, f2, hob, h2⟩ := hb.cell y (by rw [ints_length]; exact hys)
  subst hoa
  subst hob
  rw [ints_get _ _ hy] at h1
  rw [ints_get _ _ hys] at h2
  rw [hgs] at hto
  rw [hgt] at hbd ⊢
  obtain ⟨m, hm⟩ : ∃ m, m = (ints sh).length := ⟨_, rfl⟩
  have hm4 : m ≤ 4 := by rw [hm, ints_length]; exact hv.dims.2
  have hym : y < m := by rw [hm, ints_length]; exact hy
  rw [← hm] at ha hb ⊢
  obtain ⟨d, hd⟩ : ∃ d, d = sh[y] := ⟨_, rfl⟩
  obtain ⟨z, hz⟩ : ∃ z, z = st[y] := ⟨_, rfl⟩
  rw [← hd] at h1 hto hd6
  rw [← hz] at h2 hbd ⊢
  have HR := Lib.hid (And.intro ha hb)
  have HL := Lib.hid (And.intro (show m = sh.length by rw [hm, ints_length]) (show m = st.length by rw [hm, ints_length, hv.len]))
  have HE := Lib.hid (And.intro (cell_lt h1) (And.intro h1 (And.intro (cell_lt h2) h2)))
  have HV := Lib.hid hv
  have hoff : off ≤ 1000000 := by have := hv.far; omega
  have hl1 : (ints sh).length ≤ 1000 := by rw [← hm]; omega
  have hl3 : (ints st).length ≤ 1000 := by rw [hl2, ← hm]; omega
  obtain ⟨W, hW⟩ : ∃ W, W = (w.alloc (.cells #[.slice (some ⟨b1, f1, none⟩) m ca, .slice (some ⟨b2, f2, none⟩) m cb, .int .i64 off] 81)).alloc (.cells #[.slice none 0 0, .slice none 0 0, .int .i64 0] 81) := ⟨_, rfl⟩
  have HX := Lib.hid (two_box w _ _ _ hW)
  have HW := Lib.hid hW
  have HGD := Lib.hid (show ∀ X, Below w.heap.size w X → Calls Tryz.prog 117 #[.agg #[.slice (some ⟨b1, f1, none⟩) m ca, .slice (some ⟨b2, f2, none⟩) m cb, .int .i64 off], .int .i64 65536] X fun e w' => e = .returned (.bool true) ∧ Below X.heap.size X w' from fun X h =>
    viewGood_yes _ _ sh st off 65536 X (HR.out.1.below h (Nat.le_refl _)) (HR.out.2.below h (Nat.le_refl _)) HV.out)
  have p1 : decide ((y : Int) < 0) = false := decide_eq_false (by omega)
  have p2 : decide ((m : Int) ≤ (y : Int)) = false := decide_eq_false (by omega)
  have p3 : decide ((fr : Int) < 0) = false := decide_eq_false (by omega)
  have p4 : decide ((to_ : Int) ≤ (fr : Int)) = false := decide_eq_false (by omega)
  have p5 : decide ((d : Int) < (to_ : Int)) = false := decide_eq_false (by omega)
  have hws : IntKind.i64.wrap ((to_ : Int) - (fr : Int)) = ((to_ - fr : Nat) : Int) := by rw [IntWalk.i64_in _ (by omega)]; omega
  have HWS := Lib.hid hws
  have HM := Lib.hid (And.intro hm (And.intro hl1 hl3))
  clear ha hb hl2 hys hgs hgt hm hW hv hy h1 h2 hd hz hl1 hl3 hws
  go_enter Tryz.func116, Tryz.ntmps116
  go_wp2_with (go_at_call 117; rw [← HW.out]; refine (HGD.out W HX.out.2.2).mono ?_; rintro e w1 ⟨rfl, hb1⟩; refine stopHere ?_)
  have HX1 := Lib.hid (two_next HX.out hb1)
  clear hb1
  have c0 : w1.cell? ⟨w.heap.size, 0, none⟩ = some (.slice (some ⟨b1, f1, none⟩) m ca) := HX1.out.1.cell 0 rfl
  have e1 := (HX1.out.2.2.cell (p := ⟨b1, f1 + y, none⟩) HE.out.1).trans HE.out.2.1
  refine goOn ?_
  go_wp2
  refine Code.wp_mono onlyNV_out2 ?_
  refine slice_rP w1 w.heap.size b2 f2 m (ca := ca) (cb := cb) y fr z off (some ⟨b1, f1, none⟩) sh st _ _ _ _ _ _ _ _ _ _ _ _ _ _ _ _ _ _ _ _ _ _ _ _ _ _ _ _ _ _ _ _ _ _ _ _ _ _ _ _ _ _ _ _ _ _ _ _ _ _ _ _ _ _ _ _ _ _ _ _ _ _ _ _ _ _ _ HX1.out.1 (HR.out.1.below HX1.out.2.2 (Nat.le_refl _)) (HR.out.2.below HX1.out.2.2 (Nat.le_refl _)) hym (by omega) HM.out.2.1 HM.out.2.2 ((HX1.out.2.2.cell (p := ⟨b2, f2 + y, none⟩) HE.out.2.2.1).trans HE.out.2.2.2) hbd hoff _ ?_
  intro t45 t46 t47 t48 t49 t50 t51 t52 t53 t54 t55 t56 t57 t58 t59 t60 t61 vs vt g w5 hz
  obtain ⟨gv, kv, hvs, hgv1, hgv2⟩ := OwnI.at hz.vs (by rw [← HM.out.1]; omega)
  obtain ⟨ot, kt, hvt⟩ := own_slice hz.vt
  rw [← HM.out.1] at hvs
  rw [show (ints st).length = m by rw [ints_length, ← HL.out.2]] at hvt
  subst hvs
  subst hvt
  obtain ⟨o2, ho2⟩ : ∃ o2 : Int, o2 = ((off + fr * z : Nat) : Int) := ⟨_, rfl⟩
  rw [← ho2] at hz ⊢
  have hsw : w.heap.size + 1 < w1.heap.size := HX1.out.2.1.lt
  have hgw : w1.heap.size ≤ g := hz.le
  have hne : gv ≠ g := (hz.ov gv rfl).1
  have HZ0 := Lib.hid hz
  have HX5 := Lib.hid (two_next HX1.out (hz.low))
  have hcl := own_cells hz.vs y (u := .int .i64 (nth (ints sh) y)) (by rw [List.getElem?_map, List.getElem?_eq_getElem (by rw [← HM.out.1]; exact hym), nth_eq _ _ (by rw [← HM.out.1]; exact hym)]; rfl)
  obtain ⟨k1, k2⟩ := hcl
  generalize nth (ints sh) y = v0 at k1
  have g0 : w5.cell? ⟨g, 0, none⟩ = some (.slice (some ⟨gv, 0, none⟩) m kv) := hz.box.cell 0 rfl
  have HS := Lib.hid (own_set1 hz.vs y (.int .i64 ((to_ - fr : Nat) : Int)))
  obtain ⟨w6, hw6⟩ : ∃ w6, w6 = w5.setCell ⟨gv, y, none⟩ (.int .i64 ((to_ - fr : Nat) : Int)) := ⟨_, rfl⟩
  have hB6 : Box w6 g 81 #[.slice (some ⟨gv, 0, none⟩) m kv, .slice ot m kt, .int .i64 o2] := by rw [hw6]; exact hz.box.other hne _
  have hR6 : Box w6 (w.heap.size + 1) 81 #[.slice none 0 0, .slice none 0 0, .int .i64 0] := by rw [hw6]; exact HX5.out.2.1.other (by show gv ≠ w.heap.size + 1; omega) _
  have hT6 : w6.ownsRow w1.heap.size 3 1 (.slice ot m kt) (ints st).length ((ints st).map (.int .i64)) := by rw [hw6]; exact own_st_set hz.vt (fun j hj e => (hz.ov gv rfl).2 (by rw [← e]; exact hj))
  have hlow6 : Below w.heap.size w w6 := by rw [hw6]; exact below_st_set HX5.out.2.2 (by omega)
  have HW6 := Lib.hid hw6
  have HH := Lib.hid (And.intro hB6 (And.intro hR6 (And.intro hT6 hlow6)))
  have i0 : w6.cell? ⟨g, 0, none⟩ = some (.slice (some ⟨gv, 0, none⟩) m kv) := hB6.cell 0 rfl
  have i1 : w6.cell? ⟨g, 1, none⟩ = some (.slice ot m kt) := hB6.cell 1 rfl
  have i2 : w6.cell? ⟨g, 2, none⟩ = some (.int .i64 o2) := hB6.cell 2 rfl
  have r0 : w6.cell? ⟨w.heap.size + 1, 0, none⟩ = some (.slice none 0 0) := hR6.cell 0 rfl
  have r1 : w6.cell? ⟨w.heap.size + 1, 1, none⟩ = some (.slice none 0 0) := hR6.cell 1 rfl
  have r2 : w6.cell? ⟨w.heap.size + 1, 2, none⟩ = some (.int .i64 0) := hR6.cell 2 rfl
  have q0 := hR6.free 0
  have q1 := hR6.free 1
  have q2 := hR6.free 2
  have hws := HWS.out
  have HO2 := Lib.hid ho2
  clear hw6 hB6 hR6 hT6 hlow6 hz ho2
  go_upto_region 7 with fail
  rw [← HW6.out]
  clear k1 k2 g0
  go_wp2_with fail
  obtain ⟨Y, hY⟩ : ∃ Y, Y = ((w6.setCell ⟨w.heap.size + 1, 0, none⟩ (.slice (some ⟨gv, 0, none⟩) m kv)).setCell ⟨w.heap.size + 1, 1, none⟩ (.slice ot m kt)).setCell ⟨w.heap.size + 1, 2, none⟩ (.int .i64 o2) := ⟨_, rfl⟩
  have hb3 : Box Y (w.heap.size + 1) 81 #[.slice (some ⟨gv, 0, none⟩) m kv, .slice ot m kt, .int .i64 o2] := by rw [hY]; exact (((HH.out.2.1.set 0 _).set 1 _).set 2 _)
  have own3 : ∀ {v : Value} {j : Nat} {l : List Value}, w6.ownsRow w1.heap.size 3 1 v j l → Y.ownsRow w1.heap.size 3 1 v j l := fun h => by
    rw [hY]
    exact own_st_set (own_st_set (own_st_set h (fun j hj => by have := (h.lt j hj).1; omega)) (fun j hj => by have := (h.lt j hj).1; omega)) (fun j hj => by have := (h.lt j hj).1; omega)
  have hbel : Below w.heap.size w Y := by rw [hY]; exact below_st_set (below_st_set (below_st_set HH.out.2.2.2 (Nat.le_succ w.heap.size)) (Nat.le_succ w.heap.size)) (Nat.le_succ w.heap.size)
  have hs6 : w6.ownsRow w1.heap.size 3 1 (.slice (some ⟨gv, 0, none⟩) m kv) (ints sh).length (((ints sh).map (.int .i64)).set y (.int .i64 ((to_ - fr : Nat) : Int))) := by rw [HW6.out]; exact HS.out
  have hra := own_mono (own3 hs6) (show w.heap.size ≤ w1.heap.size by omega)
  have hrb := own_mono (own3 HH.out.2.2.1) (show w.heap.size ≤ w1.heap.size by omega)
  rw [← List.map_set, ints_set] at hra
  rw [← hY]
  have y0 := hb3.cell 0 rfl
  have y1 := hb3.cell 1 rfl
  have y2 := hb3.cell 2 rfl
  have HZ := Lib.hid (And.intro hbel (And.intro hra (And.intro hrb hb3)))
  clear hbel hra hrb own3 hb3 hY i0 i1 i2 r0 r1 r2 q0 q1 q2 hs6
  refine bodyPost_ret (v := .tuple #[.agg #[.slice (some ⟨gv, 0, none⟩) m kv, .slice ot m kt, .int .i64 o2], .int .i64 0]) (by simp [results, Tryz.results116, go_sem, y0, y1, y2]) rfl ⟨HZ.out.1, .slice (some ⟨gv, 0, none⟩) m kv, .slice ot m kt, by rw [HO2.out], ?_, ?_⟩
  · have h := HZ.out.2.1
    rw [OwnI, ints_length, List.length_set]
    rw [ints_length] at h
    exact h
  · exact HZ.out.2.2.1
end Go.Proofs.YtipjhdgegfgenaaGreat
/-
  THE SAME WORDS under another shape: view.Reshape of a plain view.
-/
set_option linter.unusedVariables false
set_option linter.unusedSimpArgs false
namespace Go.Proofs.YtipjhdgegfgenaaGreat
open Go.RowKit Go.Shelf Go
theorem keep3V {w2 W : World} {a0 a1 a2 : Addr} {v0 v1 v2 : Value} (hc : w2.cell? a0 = some v0 ∧ w2.cell? a1 = some v1 ∧ w2.cell? a2 = some v2) (h : Below w2.heap.size w2 W) : W.cell? a0 = some v0 ∧ W.cell? a1 = some v1 ∧ W.cell? a2 = some v2 :=
  ⟨(h.cell (World.block_lt_of_cell? w2 a0 hc.1)).trans hc.1, (h.cell (World.block_lt_of_cell? w2 a1 hc.2.1)).trans hc.2.1, (h.cell (World.block_lt_of_cell? w2 a2 hc.2.2)).trans hc.2.2⟩
set_option maxRecDepth 1000000 in
set_option maxHeartbeats 8000000 in
theorem viewReshape_any (va vb vx : Value) (sh ns : List Nat) (w : World) (ha : Rd w .i64 va (ints sh)) (hb : Rd w .i64 vb (ints (stepsN sh))) (hx : Rd w .i64 vx (ints ns)) (hv : ViewN sh (stepsN sh) 0 65536) (hg : shapeB (ints ns) = true) (hp : prodN ns = prodN sh) :
    Calls Tryz.prog 114 #[.agg #[va, vb, .int .i64 0], vx] w (ViewOk w (ints ns) (ints (stepsN ns)) 0) := by
  obtain ⟨oa, ca, rfl⟩ := rd_slice ha
  obtain ⟨ob, cb, rfl⟩ := rd_slice hb
  obtain ⟨ox, cx, rfl⟩ := rd_slice hx
  have hl2 : (ints (stepsN sh)).length = (ints sh).length := by rw [ints_length, ints_length, stepsN_length]
  rw [hl2] at hb ⊢
  obtain ⟨m, hm⟩ : ∃ m, m = (ints sh).length := ⟨_, rfl⟩
  obtain ⟨q, hq⟩ : ∃ q, q = (ints ns).length := ⟨_, rfl⟩
  have hm4 : m ≤ 4 := by rw [hm, ints_length]; exact hv.dims.2
  have hq4 : q ≤ 4 := by rw [hq, ints_length]; exact (dims_good hg).2
  rw [← hm] at ha hb ⊢
  rw [← hq] at hx ⊢
  have HR := Lib.hid (And.intro ha (And.intro hb hx))
  have HV := Lib.hid hv
  have HG := Lib.hid hg
  have HM := Lib.hid (And.intro hm hq)
  obtain ⟨W, hW⟩ : ∃ W, W = (w.alloc (.cells #[.slice oa m ca, .slice ob m cb, .int .i64 0] 81)).alloc (.cells #[.slice none 0 0, .slice none 0 0, .int .i64 0] 81) := ⟨_, rfl⟩
  have HX := Lib.hid (two_box w _ _ _ hW)
  have HW := Lib.hid hW
  obtain ⟨N, hN⟩ : ∃ N, N = prodN sh := ⟨_, rfl⟩
  have HP := Lib.hid (And.intro hN (show N = prodN ns by rw [hN, hp]))
  have HGD := Lib.hid (show ∀ X, Below w.heap.size w X → Calls Tryz.prog 117 #[.agg #[.slice oa m ca, .slice ob m cb, .int .i64 0], .int .i64 65536] X fun e w' => e = .returned (.bool true) ∧ Below X.heap.size X w' from fun X h =>
    viewGood_yes _ _ sh (stepsN sh) 0 65536 X (HR.out.1.below h (Nat.le_refl _)) (HR.out.2.1.below h (Nat.le_refl _)) HV.out)
  have HSG := Lib.hid (show ∀ X, Below w.heap.size w X → Calls Tryz.prog 102 #[.slice ox q cx] X fun e w' => e = .returned (.bool true) ∧ Same X w' from fun X h => by
    have := shapeGood_any _ (ints ns) X (HR.out.2.2.below h (Nat.le_refl _)) (by rw [← HM.out.2]; omega)
    rw [HG.out] at this; exact this)
  have HSA := Lib.hid (show ∀ X, Below w.heap.size w X → Calls Tryz.prog 110 #[.slice oa m ca] X fun e w' => e = .returned (.int .i64 (N : Int)) ∧ Same X w' from fun X h => by
    have := shapeSize_any _ (ints sh) X (HR.out.1.below h (Nat.le_refl _)) (dims_all HV.out.good) (by rw [← HM.out.1]; omega)
    rw [prodL_ints, ← HP.out.1] at this; exact this)
  have HSX := Lib.hid (show ∀ X, Below w.heap.size w X → Calls Tryz.prog 110 #[.slice ox q cx] X fun e w' => e = .returned (.int .i64 (N : Int)) ∧ Same X w' from fun X h => by
    have := shapeSize_any _ (ints ns) X (HR.out.2.2.below h (Nat.le_refl _)) (dims_all HG.out) (by rw [← HM.out.2]; omega)
    rw [prodL_ints, ← HP.out.2] at this; exact this)
  clear ha hb hx hl2 hm hq hW hv hg hp hN
  go_enter Tryz.func114, Tryz.ntmps114
  go_wp2_with (go_at_call 117; rw [← HW.out]; refine (HGD.out W HX.out.2.2).mono ?_; rintro e w1 ⟨rfl, hb1⟩; refine stopHere ?_)
  have HX1 := Lib.hid (two_next HX.out hb1)
  clear hb1
  refine goOn ?_
  go_wp2_with (go_at_call 102; refine (HSG.out w1 HX1.out.2.2).mono ?_; rintro e w2 ⟨rfl, hs2⟩; refine stopHere ?_)
  have HX2 := Lib.hid (two_next HX1.out (hs2.below _))
  clear hs2
  refine goOn ?_
  go_wp2_with fail
  have HC := Lib.hid (show w2.cell? ⟨w.heap.size, 0, none⟩ = some (.slice oa m ca) ∧ w2.cell? ⟨w.heap.size, 1, none⟩ = some (.slice ob m cb) ∧ w2.cell? ⟨w.heap.size, 2, none⟩ = some (.int .i64 0) from ⟨HX2.out.1.cell 0 rfl, HX2.out.1.cell 1 rfl, HX2.out.1.cell 2 rfl⟩)
  have HXB := Lib.hid HX2.out.2.2
  have HX := Lib.hid (show Below w2.heap.size w2 w2.drew from Below.drew (Below.refl _ _))
  go_region_held3 (fun w' => w'.cell? ⟨w.heap.size, 0, none⟩ = some (.slice oa m ca) ∧ w'.cell? ⟨w.heap.size, 1, none⟩ = some (.slice ob m cb) ∧ w'.cell? ⟨w.heap.size, 2, none⟩ = some (.int .i64 0))
    ((exact keep3V HC.out HX.out))
    ((first
    | (go_at_call_of 110 ca; refine (HSA.out _ (HXB.out.trans (HX.out.mono HXB.out.size))).mono ?_; rintro e w3 ⟨rfl, hs3⟩; have HX := Lib.hid (HX.out.trans (hs3.below _)); clear hs3)
    | (go_at_call_of 110 cx; refine (HSX.out _ (HXB.out.trans (HX.out.mono HXB.out.size))).mono ?_; rintro e w4 ⟨rfl, hs4⟩; have HX := Lib.hid (HX.out.trans (hs4.below _)); clear hs4)
    | (go_at_call 162; refine (shapeSteps_any _ sh _ (HR.out.1.below (HXB.out.trans (HX.out.mono HXB.out.size)) (Nat.le_refl _)) HV.out.dims).mono ?_; rintro e w5 ⟨⟨v5, rfl, ho5⟩, hb5⟩; obtain ⟨o5, k5, rfl⟩ := own_slice ho5; have HX := Lib.hid (HX.out.trans (hb5.mono HX.out.size)); have HO5 := Lib.hid (Rd.of_own ho5); clear ho5 hb5)
    | (go_at_call 138; refine (slEqual_any _ _ (ints (stepsN sh)) (ints (stepsN sh)) _ (HR.out.2.1.below (HXB.out.trans (HX.out.mono HXB.out.size)) (Nat.le_refl _)) HO5.out (by rw [ints_length, stepsN_length]; have := HV.out.dims.2; omega)).mono ?_; rw [show decide (ints (stepsN sh) = ints (stepsN sh)) = true by simp]; rintro e w6 ⟨rfl, hs6⟩; have HX := Lib.hid (HX.out.trans (hs6.below _)); clear hs6)))
  have HX6 := Lib.hid (two_next HX2.out HX.out)
  clear HX HC HO5
  go_wp2_with (go_at_call 113; refine (viewPlain_any _ ns w6 (HR.out.2.2.below HX6.out.2.2 (Nat.le_refl _)) (dims_good HG.out)).mono ?_; rintro e w7 ⟨hb7, a, b, rfl, hoa, hob⟩; refine stopHere ?_)
  have HX7 := Lib.hid (two_next HX6.out hb7)
  obtain ⟨op, cp, hap⟩ := own_slice hoa
  obtain ⟨oq, cq, hbq⟩ := own_slice hob
  subst hap
  subst hbq
  rw [show (ints (stepsN ns)).length = (ints ns).length by rw [ints_length, ints_length, stepsN_length]] at hob ⊢
  rw [← HM.out.2] at hoa hob ⊢
  have HO := Lib.hid (And.intro hoa hob)
  have hgw : w.heap.size + 1 < w6.heap.size := HX6.out.2.1.lt
  have r0 : w7.cell? ⟨w.heap.size + 1, 0, none⟩ = some (.slice none 0 0) := HX7.out.2.1.cell 0 rfl
  have r1 : w7.cell? ⟨w.heap.size + 1, 1, none⟩ = some (.slice none 0 0) := HX7.out.2.1.cell 1 rfl
  have r2 : w7.cell? ⟨w.heap.size + 1, 2, none⟩ = some (.int .i64 0) := HX7.out.2.1.cell 2 rfl
  have q0 := HX7.out.2.1.free 0
  have q1 := HX7.out.2.1.free 1
  have q2 := HX7.out.2.1.free 2
  clear hb7 hoa hob
  refine goOn ?_
  go_wp2_with fail
  obtain ⟨Y, hY⟩ : ∃ Y, Y = ((w7.setCell ⟨w.heap.size + 1, 0, none⟩ (.slice op q cp)).setCell ⟨w.heap.size + 1, 1, none⟩ (.slice oq q cq)).setCell ⟨w.heap.size + 1, 2, none⟩ (.int .i64 0) := ⟨_, rfl⟩
  have hb3 : Box Y (w.heap.size + 1) 81 #[.slice op q cp, .slice oq q cq, .int .i64 0] := by rw [hY]; exact (((HX7.out.2.1.set 0 _).set 1 _).set 2 _)
  have own3 : ∀ {v : Value} {j : Nat} {l : List Value}, w7.ownsRow w6.heap.size 3 1 v j l → Y.ownsRow w6.heap.size 3 1 v j l := fun h => by
    rw [hY]
    exact own_st_set (own_st_set (own_st_set h (fun j hj => by have := (h.lt j hj).1; omega)) (fun j hj => by have := (h.lt j hj).1; omega)) (fun j hj => by have := (h.lt j hj).1; omega)
  have hbel : Below w.heap.size w Y := by rw [hY]; exact below_st_set (below_st_set (below_st_set HX7.out.2.2 (Nat.le_succ w.heap.size)) (Nat.le_succ w.heap.size)) (Nat.le_succ w.heap.size)
  have hra := own_mono (own3 HO.out.1) (show w.heap.size ≤ w6.heap.size by omega)
  have hrb := own_mono (own3 HO.out.2) (show w.heap.size ≤ w6.heap.size by omega)
  rw [← hY]
  have y0 := hb3.cell 0 rfl
  have y1 := hb3.cell 1 rfl
  have y2 := hb3.cell 2 rfl
  have HZ := Lib.hid (And.intro hbel (And.intro hra hrb))
  clear hbel hra hrb own3 hb3 hY r0 r1 r2 q0 q1 q2
  refine bodyPost_ret (v := .tuple #[.agg #[.slice op q cp, .slice oq q cq, .int .i64 0], .int .i64 0]) (by simp [results, Tryz.results114, go_sem, y0, y1, y2]) rfl ⟨HZ.out.1, _, _, rfl, HZ.out.2.1, HZ.out.2.2⟩
end Go.Proofs.YtipjhdgegfgenaaGreat
