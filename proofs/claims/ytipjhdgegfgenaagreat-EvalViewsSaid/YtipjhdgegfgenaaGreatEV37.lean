/-
  MORE: a VALUE's SHAPE, by the page, only that it is told: ratchetref18.Shape.
-/
import Derived.Test.YtipjhdgegfgenaaGreatEV36
import Derived.Test.YtipjhdgegfgenaaGreatEV33
import Derived.Test.YtipjhdgegfgenaaGreatEV34
import Derived.Test.YtipjhdgegfgenaaGreatEV35
set_option linter.unusedVariables false
set_option linter.unusedSimpArgs false
namespace Go.Proofs.YtipjhdgegfgenaaGreat
open Go.RowKit Go.Shelf Go
theorem viewE19_len {il : List Int} {sh : List Nat} (h : il.length ≤ 1000) : (viewE19 il sh).1.length ≤ 1000 := by
  unfold viewE19; split <;> (try split) <;> simp <;> omega
theorem viewE20_len {il : List Int} {sh : List Nat} (h : il.length ≤ 1000) : (viewE20 il sh).1.length ≤ 1000 := by
  unfold viewE20; split <;> simp [ints_length, permN_length]; omega
theorem viewE21_len {il : List Int} {sh : List Nat} (h : sh.length ≤ 4) : (viewE21 il sh).1.length ≤ 1000 := by
  unfold viewE21; split <;> simp [ints_length]; omega
structure SawEnd (W w' : World) (g : Nat) (v : Value) (xs : List Int) : Prop where
  low : Below W.heap.size W w'
  le : W.heap.size ≤ g
  cell : w'.cell? ⟨g, 0, none⟩ = some v
  own : OwnI w' W.heap.size 3 .i64 v xs
theorem SawEnd.e1 {W w7 : World} {v t : Value} {off : Int} {xs : List Int} (hx : Below W.heap.size W w7) (hv : OwnI w7 W.heap.size 3 .i64 v xs) : SawEnd W (w7.alloc (.cells #[v, t, .int .i64 off] 81)) w7.heap.size v xs :=
  ⟨below_st_alloc hx (Nat.le_refl _), hx.size, (Box.new _ _ _).cell 0 rfl, own_st_alloc hv⟩
theorem SawEnd.e2 {W w7 : World} {g : Nat} {v t : Value} {off : Int} {xs : List Int} (hz : Box w7 g 81 #[.slice none 0 0, .slice none 0 0, .int .i64 0]) (hle : W.heap.size ≤ g) (hx : Below W.heap.size W w7) (hv : OwnI w7 W.heap.size 3 .i64 v xs) (hl : ∀ j, v.ownBlock = some j → j ≠ g) :
    SawEnd W (((w7.setCell ⟨g, 0, none⟩ v).setCell ⟨g, 1, none⟩ t).setCell ⟨g, 2, none⟩ (.int .i64 off)) g v xs :=
  ⟨below_st_set (below_st_set (below_st_set hx hle) hle) hle, hle, (((hz.set 0 v).set 1 t).set 2 _).cell 0 rfl, own_st_set (own_st_set (own_st_set hv hl) hl) hl⟩
theorem keep9S {w2 W : World} {a0 a1 a2 a3 a4 a5 a6 a7 a8 : Addr} {v0 v1 v2 v3 v4 v5 v6 v7 v8 : Value} (hc : w2.cell? a0 = some v0 ∧ w2.cell? a1 = some v1 ∧ w2.cell? a2 = some v2 ∧ w2.cell? a3 = some v3 ∧ w2.cell? a4 = some v4 ∧ w2.cell? a5 = some v5 ∧ w2.cell? a6 = some v6 ∧ w2.cell? a7 = some v7 ∧ w2.cell? a8 = some v8) (h : Below w2.heap.size w2 W) : W.cell? a0 = some v0 ∧ W.cell? a1 = some v1 ∧ W.cell? a2 = some v2 ∧ W.cell? a3 = some v3 ∧ W.cell? a4 = some v4 ∧ W.cell? a5 = some v5 ∧ W.cell? a6 = some v6 ∧ W.cell? a7 = some v7 ∧ W.cell? a8 = some v8 :=
  ⟨(h.cell (World.block_lt_of_cell? w2 a0 hc.1)).trans hc.1, (h.cell (World.block_lt_of_cell? w2 a1 hc.2.1)).trans hc.2.1, (h.cell (World.block_lt_of_cell? w2 a2 hc.2.2.1)).trans hc.2.2.1, (h.cell (World.block_lt_of_cell? w2 a3 hc.2.2.2.1)).trans hc.2.2.2.1, (h.cell (World.block_lt_of_cell? w2 a4 hc.2.2.2.2.1)).trans hc.2.2.2.2.1, (h.cell (World.block_lt_of_cell? w2 a5 hc.2.2.2.2.2.1)).trans hc.2.2.2.2.2.1, (h.cell (World.block_lt_of_cell? w2 a6 hc.2.2.2.2.2.2.1)).trans hc.2.2.2.2.2.2.1, (h.cell (World.block_lt_of_cell? w2 a7 hc.2.2.2.2.2.2.2.1)).trans hc.2.2.2.2.2.2.2.1, (h.cell (World.block_lt_of_cell? w2 a8 hc.2.2.2.2.2.2.2.2)).trans hc.2.2.2.2.2.2.2.2⟩
set_option maxRecDepth 1000000 in
set_option maxHeartbeats 8000000 in
theorem shape_see19 (word : Int) (oa oi o1 o2 o3 o4 p0 : Option Addr) (na ni n1 n2 n3 n4 ca ci c1 c2 c3 c4 bl fl nl cl m0 k0 : Nat) (il : List Int) (x0 : List Nat) (w : World) (hi : Rd w .i64 (.slice oi ni ci) il) (hil : il.length ≤ 1000) (h0 : ShAt w bl fl p0 m0 k0 x0) (hnl : 0 < nl)  :
    Calls Tryz.prog 27 #[.agg #[.int .i64 19, .slice oa na ca, .slice oi ni ci, .int .i64 word, .slice o1 n1 c1, .slice o2 n2 c2, .slice o3 n3 c3, .slice o4 n4 c4], .slice (some ⟨bl, fl, none⟩) nl cl] w (ShOut w 1000) := by
  have HI := Lib.hid hi
  have HIL := Lib.hid hil
  have HNI := Lib.hid (show ni = il.length by obtain ⟨o, cap, he⟩ := rd_slice hi; injection he)
  have hni : ni ≤ 1000 := by have := HNI.out; omega
  obtain ⟨hm0, hm0b⟩ := h0.len
  have HM0 := Lib.hid hm0
  obtain ⟨W, hW⟩ : ∃ W, W = w.alloc (.cells #[.int .i64 19, .slice oa na ca, .slice oi ni ci, .int .i64 word, .slice o1 n1 c1, .slice o2 n2 c2, .slice o3 n3 c3, .slice o4 n4 c4] 27) := ⟨_, rfl⟩
  have hB : Below w.heap.size w W := by rw [hW]; exact (Below.refl _ _).alloc (Nat.le_refl _) _
  have hbx : Box W w.heap.size 27 #[.int .i64 19, .slice oa na ca, .slice oi ni ci, .int .i64 word, .slice o1 n1 c1, .slice o2 n2 c2, .slice o3 n3 c3, .slice o4 n4 c4] := by rw [hW]; exact Box.new _ _ _
  have HX := Lib.hid (And.intro hB hbx)
  have HW := Lib.hid hW
  have H0 := Lib.hid (h0.below hB)
  have s0 := H0.out.cell
  have d0 : W.cell? ⟨w.heap.size, 0, none⟩ = some (.int .i64 19) := hbx.cell 0 rfl
  have d2 : W.cell? ⟨w.heap.size, 2, none⟩ = some (.slice oi ni ci) := hbx.cell 2 rfl
  have d3 : W.cell? ⟨w.heap.size, 3, none⟩ = some (.int .i64 word) := hbx.cell 3 rfl
  have hnl0 : 0 < nl := by omega
  have HV := Lib.hid (show ∀ X, Below w.heap.size w X → Rd X .i64 (.slice p0 m0 k0) (ints x0) → Calls Tryz.prog 49 #[.agg #[.int .i64 19, .slice oa na ca, .slice oi ni ci, .int .i64 word, .slice o1 n1 c1, .slice o2 n2 c2, .slice o3 n3 c3, .slice o4 n4 c4], .slice p0 m0 k0] X (SawOut X (viewE19 il x0)) from fun X hX hr => viewOf19 word oa oi o1 o2 o3 o4 na ni n1 n2 n3 n4 ca ci c1 c2 c3 c4 _ x0 il X (HI.out.below hX (Nat.le_refl _)) hr H0.out.good HIL.out)
  clear hi hil h0 hm0 hW hB hbx
  go_enter Tryz.func27, Tryz.ntmps27
  go_upto_region 2 with fail
  rw [← HW.out]
  clear HW
  go_wp2_with fail
  have HC := Lib.hid (show W.cell? ⟨w.heap.size, 0, none⟩ = some (.int .i64 19) ∧ W.cell? ⟨w.heap.size, 1, none⟩ = some (.slice oa na ca) ∧ W.cell? ⟨w.heap.size, 2, none⟩ = some (.slice oi ni ci) ∧ W.cell? ⟨w.heap.size, 3, none⟩ = some (.int .i64 word) ∧ W.cell? ⟨w.heap.size, 4, none⟩ = some (.slice o1 n1 c1) ∧ W.cell? ⟨w.heap.size, 5, none⟩ = some (.slice o2 n2 c2) ∧ W.cell? ⟨w.heap.size, 6, none⟩ = some (.slice o3 n3 c3) ∧ W.cell? ⟨w.heap.size, 7, none⟩ = some (.slice o4 n4 c4) ∧ W.cell? ⟨bl, fl, none⟩ = some (.slice p0 m0 k0) from ⟨HX.out.2.cell 0 rfl, HX.out.2.cell 1 rfl, HX.out.2.cell 2 rfl, HX.out.2.cell 3 rfl, HX.out.2.cell 4 rfl, HX.out.2.cell 5 rfl, HX.out.2.cell 6 rfl, HX.out.2.cell 7 rfl, s0⟩)
  have HXW := Lib.hid (Below.refl W.heap.size W)
  have hcb := HX.out.2.lt
  clear d0 d2 d3 s0
  obtain ⟨r, hr⟩ : ∃ r, r = viewE19 il x0 := ⟨_, rfl⟩
  have HR := Lib.hid (show r.1.length ≤ 1000 by rw [hr]; exact viewE19_len HIL.out)
  rw [← hr] at HV
  clear hr
  obtain ⟨xs, k9⟩ := r
  go_cut [6, 7] (fun s6 s7 wx => ∃ g v, s6 = .pointer (some ⟨g, 0, none⟩) ∧ s7 = .int .i64 k9 ∧ SawEnd W wx g v xs)
  case first =>
    go_region_held3 (fun w' => w'.cell? ⟨w.heap.size, 0, none⟩ = some (.int .i64 19) ∧ w'.cell? ⟨w.heap.size, 1, none⟩ = some (.slice oa na ca) ∧ w'.cell? ⟨w.heap.size, 2, none⟩ = some (.slice oi ni ci) ∧ w'.cell? ⟨w.heap.size, 3, none⟩ = some (.int .i64 word) ∧ w'.cell? ⟨w.heap.size, 4, none⟩ = some (.slice o1 n1 c1) ∧ w'.cell? ⟨w.heap.size, 5, none⟩ = some (.slice o2 n2 c2) ∧ w'.cell? ⟨w.heap.size, 6, none⟩ = some (.slice o3 n3 c3) ∧ w'.cell? ⟨w.heap.size, 7, none⟩ = some (.slice o4 n4 c4) ∧ w'.cell? ⟨bl, fl, none⟩ = some (.slice p0 m0 k0))
      ((refine keep9S HC.out ?_; (repeat (first | with_reducible exact HXW.out | with_reducible exact Below.refl _ _ | with_reducible refine Below.drew ?_ | with_reducible refine Below.alloc ?_ (by first | with_reducible exact HXW.out.size | with_reducible exact Nat.le_refl _ | (simp; done) | (have := HXW.out.size; simp; omega)) _ | with_reducible refine Below.setCell ?_ (by first | with_reducible exact Nat.le_refl _ | with_reducible exact HXW.out.size | (have := HXW.out.size; simp; omega)) _))))
      ((first
      | (go_at_call 49; refine (HV.out _ (HX.out.1.trans ((show Below W.heap.size W _ from (by repeat (first | with_reducible exact Below.refl _ _ | with_reducible refine Below.drew ?_ | with_reducible refine below_st_alloc ?_ (Nat.le_refl _)))).mono HX.out.1.size)) (H0.out.below (show Below W.heap.size W _ from (by repeat (first | with_reducible exact Below.refl _ _ | with_reducible refine Below.drew ?_ | with_reducible refine below_st_alloc ?_ (Nat.le_refl _))))).rd).mono ?_; rintro e w3 ⟨hb3, a3, o3', n3', c3', off3, rfl, hoa3⟩; obtain ⟨oz, cz, hzz⟩ := own_slice hoa3; subst hzz;
         have hx3 : Below W.heap.size W w3 := (by refine below_st_next hb3 ?_ (Nat.le_refl _); exact (by repeat (first | with_reducible exact Below.refl _ _ | with_reducible refine Below.drew ?_ | with_reducible refine below_st_alloc ?_ (Nat.le_refl _))));
         (first | (with_reducible have hz : Box w3 W.heap.size 81 #[.slice none 0 0, .slice none 0 0, .int .i64 0] := by first | exact new_next hb3 | exact new_nextD hb3); have hl3 : ∀ j, (Value.slice oz xs.length cz).ownBlock = some j → W.heap.size < j := (fun j hj => by have := hoa3.lt j hj; (try simp at this); omega); have z0 : w3.cell? ⟨W.heap.size, 0, none⟩ = some (.slice none 0 0) := hz.cell 0 rfl; have z1 : w3.cell? ⟨W.heap.size, 1, none⟩ = some (.slice none 0 0) := hz.cell 1 rfl; have z2 : w3.cell? ⟨W.heap.size, 2, none⟩ = some (.int .i64 0) := hz.cell 2 rfl; have zf0 := hz.free 0; have zf1 := hz.free 1; have zf2 := hz.free 2 | skip);
         have HXW := Lib.hid hx3)))
    all_goals
      have hv3 := own_mono hoa3 (show W.heap.size ≤ _ by first | exact Nat.le_refl _ | (simp; done) | (simp; omega))
      go_wp2_with fail
      go_meet
      first
        | exact ⟨_, _, rfl, rfl, SawEnd.e1 hx3 hv3⟩
        | exact ⟨_, _, rfl, rfl, SawEnd.e2 hz (Nat.le_refl _) hx3 hv3 (fun j hj => by have := hl3 j hj; omega)⟩
  case rest =>
    obtain ⟨g, v, rfl, rfl, hE⟩ := hcut
    obtain ⟨w4, rfl⟩ : ∃ w4, w4 = wc := ⟨_, rfl⟩
    obtain ⟨oz, cz, hzz⟩ := own_slice hE.own
    subst hzz
    have y0 := hE.cell
    have HEND := Lib.hid (show ShOut w 1000 (.returned (.tuple #[.slice oz xs.length cz, .int .i64 k9])) w4 from ⟨HX.out.1.trans (hE.low.mono HX.out.1.size), _, xs, _, rfl, own_mono hE.own HX.out.1.size, HR.out⟩)
    clear hE HC HXW
    generalize xs.length = ny at HEND y0 ⊢
    go_wp2_with fail
    refine bodyPost_ret (v := .tuple #[.slice oz ny cz, .int .i64 k9]) (by simp [results, Tryz.results27, go_sem]) rfl HEND.out
set_option maxRecDepth 1000000 in
set_option maxHeartbeats 8000000 in
theorem shape_see20 (word : Int) (oa oi o1 o2 o3 o4 p0 : Option Addr) (na ni n1 n2 n3 n4 ca ci c1 c2 c3 c4 bl fl nl cl m0 k0 : Nat) (il : List Int) (x0 : List Nat) (w : World) (hi : Rd w .i64 (.slice oi ni ci) il) (hil : il.length ≤ 1000) (h0 : ShAt w bl fl p0 m0 k0 x0) (hnl : 0 < nl)  :
    Calls Tryz.prog 27 #[.agg #[.int .i64 20, .slice oa na ca, .slice oi ni ci, .int .i64 word, .slice o1 n1 c1, .slice o2 n2 c2, .slice o3 n3 c3, .slice o4 n4 c4], .slice (some ⟨bl, fl, none⟩) nl cl] w (ShOut w 1000) := by
  have HI := Lib.hid hi
  have HIL := Lib.hid hil
  have HNI := Lib.hid (show ni = il.length by obtain ⟨o, cap, he⟩ := rd_slice hi; injection he)
  have hni : ni ≤ 1000 := by have := HNI.out; omega
  obtain ⟨hm0, hm0b⟩ := h0.len
  have HM0 := Lib.hid hm0
  obtain ⟨W, hW⟩ : ∃ W, W = w.alloc (.cells #[.int .i64 20, .slice oa na ca, .slice oi ni ci, .int .i64 word, .slice o1 n1 c1, .slice o2 n2 c2, .slice o3 n3 c3, .slice o4 n4 c4] 27) := ⟨_, rfl⟩
  have hB : Below w.heap.size w W := by rw [hW]; exact (Below.refl _ _).alloc (Nat.le_refl _) _
  have hbx : Box W w.heap.size 27 #[.int .i64 20, .slice oa na ca, .slice oi ni ci, .int .i64 word, .slice o1 n1 c1, .slice o2 n2 c2, .slice o3 n3 c3, .slice o4 n4 c4] := by rw [hW]; exact Box.new _ _ _
  have HX := Lib.hid (And.intro hB hbx)
  have HW := Lib.hid hW
  have H0 := Lib.hid (h0.below hB)
  have s0 := H0.out.cell
  have d0 : W.cell? ⟨w.heap.size, 0, none⟩ = some (.int .i64 20) := hbx.cell 0 rfl
  have d2 : W.cell? ⟨w.heap.size, 2, none⟩ = some (.slice oi ni ci) := hbx.cell 2 rfl
  have d3 : W.cell? ⟨w.heap.size, 3, none⟩ = some (.int .i64 word) := hbx.cell 3 rfl
  have hnl0 : 0 < nl := by omega
  have HV := Lib.hid (show ∀ X, Below w.heap.size w X → Rd X .i64 (.slice p0 m0 k0) (ints x0) → Calls Tryz.prog 49 #[.agg #[.int .i64 20, .slice oa na ca, .slice oi ni ci, .int .i64 word, .slice o1 n1 c1, .slice o2 n2 c2, .slice o3 n3 c3, .slice o4 n4 c4], .slice p0 m0 k0] X (SawOut X (viewE20 il x0)) from fun X hX hr => viewOf20 word oa oi o1 o2 o3 o4 na ni n1 n2 n3 n4 ca ci c1 c2 c3 c4 _ x0 il X (HI.out.below hX (Nat.le_refl _)) hr H0.out.good HIL.out)
  clear hi hil h0 hm0 hW hB hbx
  go_enter Tryz.func27, Tryz.ntmps27
  go_upto_region 2 with fail
  rw [← HW.out]
  clear HW
  go_wp2_with fail
  have HC := Lib.hid (show W.cell? ⟨w.heap.size, 0, none⟩ = some (.int .i64 20) ∧ W.cell? ⟨w.heap.size, 1, none⟩ = some (.slice oa na ca) ∧ W.cell? ⟨w.heap.size, 2, none⟩ = some (.slice oi ni ci) ∧ W.cell? ⟨w.heap.size, 3, none⟩ = some (.int .i64 word) ∧ W.cell? ⟨w.heap.size, 4, none⟩ = some (.slice o1 n1 c1) ∧ W.cell? ⟨w.heap.size, 5, none⟩ = some (.slice o2 n2 c2) ∧ W.cell? ⟨w.heap.size, 6, none⟩ = some (.slice o3 n3 c3) ∧ W.cell? ⟨w.heap.size, 7, none⟩ = some (.slice o4 n4 c4) ∧ W.cell? ⟨bl, fl, none⟩ = some (.slice p0 m0 k0) from ⟨HX.out.2.cell 0 rfl, HX.out.2.cell 1 rfl, HX.out.2.cell 2 rfl, HX.out.2.cell 3 rfl, HX.out.2.cell 4 rfl, HX.out.2.cell 5 rfl, HX.out.2.cell 6 rfl, HX.out.2.cell 7 rfl, s0⟩)
  have HXW := Lib.hid (Below.refl W.heap.size W)
  have hcb := HX.out.2.lt
  clear d0 d2 d3 s0
  obtain ⟨r, hr⟩ : ∃ r, r = viewE20 il x0 := ⟨_, rfl⟩
  have HR := Lib.hid (show r.1.length ≤ 1000 by rw [hr]; exact viewE20_len HIL.out)
  rw [← hr] at HV
  clear hr
  obtain ⟨xs, k9⟩ := r
  go_cut [6, 7] (fun s6 s7 wx => ∃ g v, s6 = .pointer (some ⟨g, 0, none⟩) ∧ s7 = .int .i64 k9 ∧ SawEnd W wx g v xs)
  case first =>
    go_region_held3 (fun w' => w'.cell? ⟨w.heap.size, 0, none⟩ = some (.int .i64 20) ∧ w'.cell? ⟨w.heap.size, 1, none⟩ = some (.slice oa na ca) ∧ w'.cell? ⟨w.heap.size, 2, none⟩ = some (.slice oi ni ci) ∧ w'.cell? ⟨w.heap.size, 3, none⟩ = some (.int .i64 word) ∧ w'.cell? ⟨w.heap.size, 4, none⟩ = some (.slice o1 n1 c1) ∧ w'.cell? ⟨w.heap.size, 5, none⟩ = some (.slice o2 n2 c2) ∧ w'.cell? ⟨w.heap.size, 6, none⟩ = some (.slice o3 n3 c3) ∧ w'.cell? ⟨w.heap.size, 7, none⟩ = some (.slice o4 n4 c4) ∧ w'.cell? ⟨bl, fl, none⟩ = some (.slice p0 m0 k0))
      ((refine keep9S HC.out ?_; (repeat (first | with_reducible exact HXW.out | with_reducible exact Below.refl _ _ | with_reducible refine Below.drew ?_ | with_reducible refine Below.alloc ?_ (by first | with_reducible exact HXW.out.size | with_reducible exact Nat.le_refl _ | (simp; done) | (have := HXW.out.size; simp; omega)) _ | with_reducible refine Below.setCell ?_ (by first | with_reducible exact Nat.le_refl _ | with_reducible exact HXW.out.size | (have := HXW.out.size; simp; omega)) _))))
      ((first
      | (go_at_call 49; refine (HV.out _ (HX.out.1.trans ((show Below W.heap.size W _ from (by repeat (first | with_reducible exact Below.refl _ _ | with_reducible refine Below.drew ?_ | with_reducible refine below_st_alloc ?_ (Nat.le_refl _)))).mono HX.out.1.size)) (H0.out.below (show Below W.heap.size W _ from (by repeat (first | with_reducible exact Below.refl _ _ | with_reducible refine Below.drew ?_ | with_reducible refine below_st_alloc ?_ (Nat.le_refl _))))).rd).mono ?_; rintro e w3 ⟨hb3, a3, o3', n3', c3', off3, rfl, hoa3⟩; obtain ⟨oz, cz, hzz⟩ := own_slice hoa3; subst hzz;
         have hx3 : Below W.heap.size W w3 := (by refine below_st_next hb3 ?_ (Nat.le_refl _); exact (by repeat (first | with_reducible exact Below.refl _ _ | with_reducible refine Below.drew ?_ | with_reducible refine below_st_alloc ?_ (Nat.le_refl _))));
         (first | (with_reducible have hz : Box w3 W.heap.size 81 #[.slice none 0 0, .slice none 0 0, .int .i64 0] := by first | exact new_next hb3 | exact new_nextD hb3); have hl3 : ∀ j, (Value.slice oz xs.length cz).ownBlock = some j → W.heap.size < j := (fun j hj => by have := hoa3.lt j hj; (try simp at this); omega); have z0 : w3.cell? ⟨W.heap.size, 0, none⟩ = some (.slice none 0 0) := hz.cell 0 rfl; have z1 : w3.cell? ⟨W.heap.size, 1, none⟩ = some (.slice none 0 0) := hz.cell 1 rfl; have z2 : w3.cell? ⟨W.heap.size, 2, none⟩ = some (.int .i64 0) := hz.cell 2 rfl; have zf0 := hz.free 0; have zf1 := hz.free 1; have zf2 := hz.free 2 | skip);
         have HXW := Lib.hid hx3)))
    all_goals
      have hv3 := own_mono hoa3 (show W.heap.size ≤ _ by first | exact Nat.le_refl _ | (simp; done) | (simp; omega))
      go_wp2_with fail
      go_meet
      first
        | exact ⟨_, _, rfl, rfl, SawEnd.e1 hx3 hv3⟩
        | exact ⟨_, _, rfl, rfl, SawEnd.e2 hz (Nat.le_refl _) hx3 hv3 (fun j hj => by have := hl3 j hj; omega)⟩
  case rest =>
    obtain ⟨g, v, rfl, rfl, hE⟩ := hcut
    obtain ⟨w4, rfl⟩ : ∃ w4, w4 = wc := ⟨_, rfl⟩
    obtain ⟨oz, cz, hzz⟩ := own_slice hE.own
    subst hzz
    have y0 := hE.cell
    have HEND := Lib.hid (show ShOut w 1000 (.returned (.tuple #[.slice oz xs.length cz, .int .i64 k9])) w4 from ⟨HX.out.1.trans (hE.low.mono HX.out.1.size), _, xs, _, rfl, own_mono hE.own HX.out.1.size, HR.out⟩)
    clear hE HC HXW
    generalize xs.length = ny at HEND y0 ⊢
    go_wp2_with fail
    refine bodyPost_ret (v := .tuple #[.slice oz ny cz, .int .i64 k9]) (by simp [results, Tryz.results27, go_sem]) rfl HEND.out
set_option maxRecDepth 1000000 in
set_option maxHeartbeats 8000000 in
theorem shape_see21 (word : Int) (oa oi o1 o2 o3 o4 p0 : Option Addr) (na ni n1 n2 n3 n4 ca ci c1 c2 c3 c4 bl fl nl cl m0 k0 : Nat) (il : List Int) (x0 : List Nat) (w : World) (hi : Rd w .i64 (.slice oi ni ci) il) (hil : il.length ≤ 1000) (h0 : ShAt w bl fl p0 m0 k0 x0) (hnl : 0 < nl)  (h3 : il.length = 3) :
    Calls Tryz.prog 27 #[.agg #[.int .i64 21, .slice oa na ca, .slice oi ni ci, .int .i64 word, .slice o1 n1 c1, .slice o2 n2 c2, .slice o3 n3 c3, .slice o4 n4 c4], .slice (some ⟨bl, fl, none⟩) nl cl] w (ShOut w 1000) := by
  have HI := Lib.hid hi
  have HIL := Lib.hid hil
  have HNI := Lib.hid (show ni = il.length by obtain ⟨o, cap, he⟩ := rd_slice hi; injection he)
  have hni : ni ≤ 1000 := by have := HNI.out; omega
  obtain ⟨hm0, hm0b⟩ := h0.len
  have HM0 := Lib.hid hm0
  obtain ⟨W, hW⟩ : ∃ W, W = w.alloc (.cells #[.int .i64 21, .slice oa na ca, .slice oi ni ci, .int .i64 word, .slice o1 n1 c1, .slice o2 n2 c2, .slice o3 n3 c3, .slice o4 n4 c4] 27) := ⟨_, rfl⟩
  have hB : Below w.heap.size w W := by rw [hW]; exact (Below.refl _ _).alloc (Nat.le_refl _) _
  have hbx : Box W w.heap.size 27 #[.int .i64 21, .slice oa na ca, .slice oi ni ci, .int .i64 word, .slice o1 n1 c1, .slice o2 n2 c2, .slice o3 n3 c3, .slice o4 n4 c4] := by rw [hW]; exact Box.new _ _ _
  have HX := Lib.hid (And.intro hB hbx)
  have HW := Lib.hid hW
  have H0 := Lib.hid (h0.below hB)
  have s0 := H0.out.cell
  have d0 : W.cell? ⟨w.heap.size, 0, none⟩ = some (.int .i64 21) := hbx.cell 0 rfl
  have d2 : W.cell? ⟨w.heap.size, 2, none⟩ = some (.slice oi ni ci) := hbx.cell 2 rfl
  have d3 : W.cell? ⟨w.heap.size, 3, none⟩ = some (.int .i64 word) := hbx.cell 3 rfl
  have hnl0 : 0 < nl := by omega
  have HV := Lib.hid (show ∀ X, Below w.heap.size w X → Rd X .i64 (.slice p0 m0 k0) (ints x0) → Calls Tryz.prog 49 #[.agg #[.int .i64 21, .slice oa na ca, .slice oi ni ci, .int .i64 word, .slice o1 n1 c1, .slice o2 n2 c2, .slice o3 n3 c3, .slice o4 n4 c4], .slice p0 m0 k0] X (SawOut X (viewE21 il x0)) from fun X hX hr => viewOf21 word oa oi o1 o2 o3 o4 na ni n1 n2 n3 n4 ca ci c1 c2 c3 c4 _ x0 il X (HI.out.below hX (Nat.le_refl _)) hr H0.out.good HIL.out h3)
  clear hi hil h3 h0 hm0 hW hB hbx
  go_enter Tryz.func27, Tryz.ntmps27
  go_upto_region 2 with fail
  rw [← HW.out]
  clear HW
  go_wp2_with fail
  have HC := Lib.hid (show W.cell? ⟨w.heap.size, 0, none⟩ = some (.int .i64 21) ∧ W.cell? ⟨w.heap.size, 1, none⟩ = some (.slice oa na ca) ∧ W.cell? ⟨w.heap.size, 2, none⟩ = some (.slice oi ni ci) ∧ W.cell? ⟨w.heap.size, 3, none⟩ = some (.int .i64 word) ∧ W.cell? ⟨w.heap.size, 4, none⟩ = some (.slice o1 n1 c1) ∧ W.cell? ⟨w.heap.size, 5, none⟩ = some (.slice o2 n2 c2) ∧ W.cell? ⟨w.heap.size, 6, none⟩ = some (.slice o3 n3 c3) ∧ W.cell? ⟨w.heap.size, 7, none⟩ = some (.slice o4 n4 c4) ∧ W.cell? ⟨bl, fl, none⟩ = some (.slice p0 m0 k0) from ⟨HX.out.2.cell 0 rfl, HX.out.2.cell 1 rfl, HX.out.2.cell 2 rfl, HX.out.2.cell 3 rfl, HX.out.2.cell 4 rfl, HX.out.2.cell 5 rfl, HX.out.2.cell 6 rfl, HX.out.2.cell 7 rfl, s0⟩)
  have HXW := Lib.hid (Below.refl W.heap.size W)
  have hcb := HX.out.2.lt
  clear d0 d2 d3 s0
  obtain ⟨r, hr⟩ : ∃ r, r = viewE21 il x0 := ⟨_, rfl⟩
  have HR := Lib.hid (show r.1.length ≤ 1000 by rw [hr]; exact viewE21_len (dims_good H0.out.good).2)
  rw [← hr] at HV
  clear hr
  obtain ⟨xs, k9⟩ := r
  go_cut [6, 7] (fun s6 s7 wx => ∃ g v, s6 = .pointer (some ⟨g, 0, none⟩) ∧ s7 = .int .i64 k9 ∧ SawEnd W wx g v xs)
  case first =>
    go_region_held3 (fun w' => w'.cell? ⟨w.heap.size, 0, none⟩ = some (.int .i64 21) ∧ w'.cell? ⟨w.heap.size, 1, none⟩ = some (.slice oa na ca) ∧ w'.cell? ⟨w.heap.size, 2, none⟩ = some (.slice oi ni ci) ∧ w'.cell? ⟨w.heap.size, 3, none⟩ = some (.int .i64 word) ∧ w'.cell? ⟨w.heap.size, 4, none⟩ = some (.slice o1 n1 c1) ∧ w'.cell? ⟨w.heap.size, 5, none⟩ = some (.slice o2 n2 c2) ∧ w'.cell? ⟨w.heap.size, 6, none⟩ = some (.slice o3 n3 c3) ∧ w'.cell? ⟨w.heap.size, 7, none⟩ = some (.slice o4 n4 c4) ∧ w'.cell? ⟨bl, fl, none⟩ = some (.slice p0 m0 k0))
      ((refine keep9S HC.out ?_; (repeat (first | with_reducible exact HXW.out | with_reducible exact Below.refl _ _ | with_reducible refine Below.drew ?_ | with_reducible refine Below.alloc ?_ (by first | with_reducible exact HXW.out.size | with_reducible exact Nat.le_refl _ | (simp; done) | (have := HXW.out.size; simp; omega)) _ | with_reducible refine Below.setCell ?_ (by first | with_reducible exact Nat.le_refl _ | with_reducible exact HXW.out.size | (have := HXW.out.size; simp; omega)) _))))
      ((first
      | (go_at_call 49; refine (HV.out _ (HX.out.1.trans ((show Below W.heap.size W _ from (by repeat (first | with_reducible exact Below.refl _ _ | with_reducible refine Below.drew ?_ | with_reducible refine below_st_alloc ?_ (Nat.le_refl _)))).mono HX.out.1.size)) (H0.out.below (show Below W.heap.size W _ from (by repeat (first | with_reducible exact Below.refl _ _ | with_reducible refine Below.drew ?_ | with_reducible refine below_st_alloc ?_ (Nat.le_refl _))))).rd).mono ?_; rintro e w3 ⟨hb3, a3, o3', n3', c3', off3, rfl, hoa3⟩; obtain ⟨oz, cz, hzz⟩ := own_slice hoa3; subst hzz;
         have hx3 : Below W.heap.size W w3 := (by refine below_st_next hb3 ?_ (Nat.le_refl _); exact (by repeat (first | with_reducible exact Below.refl _ _ | with_reducible refine Below.drew ?_ | with_reducible refine below_st_alloc ?_ (Nat.le_refl _))));
         (first | (with_reducible have hz : Box w3 W.heap.size 81 #[.slice none 0 0, .slice none 0 0, .int .i64 0] := by first | exact new_next hb3 | exact new_nextD hb3); have hl3 : ∀ j, (Value.slice oz xs.length cz).ownBlock = some j → W.heap.size < j := (fun j hj => by have := hoa3.lt j hj; (try simp at this); omega); have z0 : w3.cell? ⟨W.heap.size, 0, none⟩ = some (.slice none 0 0) := hz.cell 0 rfl; have z1 : w3.cell? ⟨W.heap.size, 1, none⟩ = some (.slice none 0 0) := hz.cell 1 rfl; have z2 : w3.cell? ⟨W.heap.size, 2, none⟩ = some (.int .i64 0) := hz.cell 2 rfl; have zf0 := hz.free 0; have zf1 := hz.free 1; have zf2 := hz.free 2 | skip);
         have HXW := Lib.hid hx3)))
    all_goals
      have hv3 := own_mono hoa3 (show W.heap.size ≤ _ by first | exact Nat.le_refl _ | (simp; done) | (simp; omega))
      go_wp2_with fail
      go_meet
      first
        | exact ⟨_, _, rfl, rfl, SawEnd.e1 hx3 hv3⟩
        | exact ⟨_, _, rfl, rfl, SawEnd.e2 hz (Nat.le_refl _) hx3 hv3 (fun j hj => by have := hl3 j hj; omega)⟩
  case rest =>
    obtain ⟨g, v, rfl, rfl, hE⟩ := hcut
    obtain ⟨w4, rfl⟩ : ∃ w4, w4 = wc := ⟨_, rfl⟩
    obtain ⟨oz, cz, hzz⟩ := own_slice hE.own
    subst hzz
    have y0 := hE.cell
    have HEND := Lib.hid (show ShOut w 1000 (.returned (.tuple #[.slice oz xs.length cz, .int .i64 k9])) w4 from ⟨HX.out.1.trans (hE.low.mono HX.out.1.size), _, xs, _, rfl, own_mono hE.own HX.out.1.size, HR.out⟩)
    clear hE HC HXW
    generalize xs.length = ny at HEND y0 ⊢
    go_wp2_with fail
    refine bodyPost_ret (v := .tuple #[.slice oz ny cz, .int .i64 k9]) (by simp [results, Tryz.results27, go_sem]) rfl HEND.out
set_option maxRecDepth 1000000 in
set_option maxHeartbeats 8000000 in
theorem shape_rows26 (word : Int) (oa oi o1 o2 o3 o4 p0 : Option Addr) (na ni n1 n2 n3 n4 ca ci c1 c2 c3 c4 bl fl nl cl m0 k0 : Nat) (il : List Int) (x0 : List Nat) (w : World) (hi : Rd w .i64 (.slice oi ni ci) il) (hil : il.length ≤ 1000) (h0 : ShAt w bl fl p0 m0 k0 x0) (hnl : 0 < nl)  :
    Calls Tryz.prog 27 #[.agg #[.int .i64 26, .slice oa na ca, .slice oi ni ci, .int .i64 word, .slice o1 n1 c1, .slice o2 n2 c2, .slice o3 n3 c3, .slice o4 n4 c4], .slice (some ⟨bl, fl, none⟩) nl cl] w (ShOut w 1000) := by
  have HI := Lib.hid hi
  have HIL := Lib.hid hil
  have HNI := Lib.hid (show ni = il.length by obtain ⟨o, cap, he⟩ := rd_slice hi; injection he)
  have hni : ni ≤ 1000 := by have := HNI.out; omega
  obtain ⟨hm0, hm0b⟩ := h0.len
  have HM0 := Lib.hid hm0
  obtain ⟨W, hW⟩ : ∃ W, W = w.alloc (.cells #[.int .i64 26, .slice oa na ca, .slice oi ni ci, .int .i64 word, .slice o1 n1 c1, .slice o2 n2 c2, .slice o3 n3 c3, .slice o4 n4 c4] 27) := ⟨_, rfl⟩
  have hB : Below w.heap.size w W := by rw [hW]; exact (Below.refl _ _).alloc (Nat.le_refl _) _
  have hbx : Box W w.heap.size 27 #[.int .i64 26, .slice oa na ca, .slice oi ni ci, .int .i64 word, .slice o1 n1 c1, .slice o2 n2 c2, .slice o3 n3 c3, .slice o4 n4 c4] := by rw [hW]; exact Box.new _ _ _
  have HX := Lib.hid (And.intro hB hbx)
  have HW := Lib.hid hW
  have H0 := Lib.hid (h0.below hB)
  have s0 := H0.out.cell
  have d0 : W.cell? ⟨w.heap.size, 0, none⟩ = some (.int .i64 26) := hbx.cell 0 rfl
  have d2 : W.cell? ⟨w.heap.size, 2, none⟩ = some (.slice oi ni ci) := hbx.cell 2 rfl
  have d3 : W.cell? ⟨w.heap.size, 3, none⟩ = some (.int .i64 word) := hbx.cell 3 rfl
  have hnl0 : 0 < nl := by omega
  clear hi hil h0 hm0 hW hB hbx
  by_cases hz : m0 = 0
  case pos =>
    have hz2 : ((m0 : Int) == 0) = true := by simp; exact hz
    clear hz
    go_enter Tryz.func27, Tryz.ntmps27
    go_upto_region 2 with fail
    rw [← HW.out]
    clear HW
    go_wp2_with fail
    refine bodyPost_ret (v := .tuple #[.slice none 0 0, .int .i64 2]) (by simp [results, Tryz.results27, go_sem]) rfl (ShOut.no _ HX.out.1)
  have hz2 : ((m0 : Int) == 0) = false := by simp; exact hz
  go_enter Tryz.func27, Tryz.ntmps27
  go_upto_region 2 with fail
  rw [← HW.out]
  clear HW
  go_wp2_with (go_at_call 53; refine (copyNumbers_any _ (ints x0) W (H0.out.rd) (by have := HM0.out; omega)).mono ?_; rintro e w9 ⟨v9, rfl, ho9, hb9⟩; have HEND := Lib.hid (show ShOut w 1000 (.returned (.tuple #[v9, .int .i64 0])) w9 from ⟨HX.out.1.trans (hb9.mono HX.out.1.size), _, _, _, rfl, own_mono ho9 HX.out.1.size, (by first | (have := HM0.out; omega) | (rw [List.length_take]; have := HM0.out; omega))⟩); obtain ⟨o9, c9, rfl⟩ := own_slice ho9; clear ho9 hb9; generalize List.length _ = ny at HEND ⊢; refine stopHere ?_)
  refine goOn ?_
  go_wp2_with fail
  refine bodyPost_ret (v := .tuple #[.slice o9 ny c9, .int .i64 0]) (by simp [results, Tryz.results27, go_sem]) rfl HEND.out
set_option maxRecDepth 1000000 in
set_option maxHeartbeats 8000000 in
theorem shape_rows27 (word : Int) (oa oi o1 o2 o3 o4 p0 : Option Addr) (na ni n1 n2 n3 n4 ca ci c1 c2 c3 c4 bl fl nl cl m0 k0 : Nat) (il : List Int) (x0 : List Nat) (w : World) (hi : Rd w .i64 (.slice oi ni ci) il) (hil : il.length ≤ 1000) (h0 : ShAt w bl fl p0 m0 k0 x0) (hnl : 0 < nl)  :
    Calls Tryz.prog 27 #[.agg #[.int .i64 27, .slice oa na ca, .slice oi ni ci, .int .i64 word, .slice o1 n1 c1, .slice o2 n2 c2, .slice o3 n3 c3, .slice o4 n4 c4], .slice (some ⟨bl, fl, none⟩) nl cl] w (ShOut w 1000) := by
  have HI := Lib.hid hi
  have HIL := Lib.hid hil
  have HNI := Lib.hid (show ni = il.length by obtain ⟨o, cap, he⟩ := rd_slice hi; injection he)
  have hni : ni ≤ 1000 := by have := HNI.out; omega
  obtain ⟨hm0, hm0b⟩ := h0.len
  have HM0 := Lib.hid hm0
  obtain ⟨W, hW⟩ : ∃ W, W = w.alloc (.cells #[.int .i64 27, .slice oa na ca, .slice oi ni ci, .int .i64 word, .slice o1 n1 c1, .slice o2 n2 c2, .slice o3 n3 c3, .slice o4 n4 c4] 27) := ⟨_, rfl⟩
  have hB : Below w.heap.size w W := by rw [hW]; exact (Below.refl _ _).alloc (Nat.le_refl _) _
  have hbx : Box W w.heap.size 27 #[.int .i64 27, .slice oa na ca, .slice oi ni ci, .int .i64 word, .slice o1 n1 c1, .slice o2 n2 c2, .slice o3 n3 c3, .slice o4 n4 c4] := by rw [hW]; exact Box.new _ _ _
  have HX := Lib.hid (And.intro hB hbx)
  have HW := Lib.hid hW
  have H0 := Lib.hid (h0.below hB)
  have s0 := H0.out.cell
  have d0 : W.cell? ⟨w.heap.size, 0, none⟩ = some (.int .i64 27) := hbx.cell 0 rfl
  have d2 : W.cell? ⟨w.heap.size, 2, none⟩ = some (.slice oi ni ci) := hbx.cell 2 rfl
  have d3 : W.cell? ⟨w.heap.size, 3, none⟩ = some (.int .i64 word) := hbx.cell 3 rfl
  have hnl0 : 0 < nl := by omega
  clear hi hil h0 hm0 hW hB hbx
  by_cases hz : m0 = 0
  case pos =>
    have hz2 : ((m0 : Int) == 0) = true := by simp; exact hz
    clear hz
    go_enter Tryz.func27, Tryz.ntmps27
    go_upto_region 2 with fail
    rw [← HW.out]
    clear HW
    go_wp2_with fail
    refine bodyPost_ret (v := .tuple #[.slice none 0 0, .int .i64 2]) (by simp [results, Tryz.results27, go_sem]) rfl (ShOut.no _ HX.out.1)
  have hz2 : ((m0 : Int) == 0) = false := by simp; exact hz
  obtain ⟨nn, hnn⟩ : ∃ nn, m0 = nn + 1 := ⟨m0 - 1, by omega⟩
  obtain ⟨bp, fp, hp0, hpc⟩ := H0.out.rd.cell 0 (by have := HM0.out; omega)
  subst hp0
  clear hpc
  have hwn : IntKind.i64.wrap ((m0 : Int) - 1) = (nn : Int) := by rw [IntWalk.i64_in _ (by omega)]; omega
  have hcap := H0.out.cap
  have hn4 : nn ≤ 4 := by omega
  have hnm : nn < m0 := by omega
  have hnm2 : nn ≤ m0 := by omega
  have hnk : nn ≤ k0 := by omega
  have hnk2 : (nn : Int) ≤ (k0 : Int) := by omega
  have HHM := Lib.hid hnn
  clear hnn hz
  go_enter Tryz.func27, Tryz.ntmps27
  go_upto_region 2 with fail
  rw [← HW.out]
  clear HW
  go_wp2_with fail
  go_still_tail 9, (by kernel_rfl)
  change wpList _ _ _ _ _ W.drew
  generalize hw4 : W.drew = w4
  have hsm : Same W w4 := ⟨1, by rw [← hw4]; rfl⟩
  have HX4 := Lib.hid (And.intro (HX.out.1.trans (hsm.below _)) (HX.out.2.same hsm))
  have H4 := Lib.hid (H0.out.below (hsm.below _))
  clear hw4 hsm d0 d2 d3 s0
  go_wp2_with (go_at_call 53; refine (copyNumbers_any _ ((ints x0).take nn) w4 (rd_takeM H4.out.rd HM0.out hnm2) (by rw [List.length_take]; have := HM0.out; omega)).mono ?_; rintro e w9 ⟨v9, rfl, ho9, hb9⟩; have HEND := Lib.hid (show ShOut w 1000 (.returned (.tuple #[v9, .int .i64 0])) w9 from ⟨HX4.out.1.trans (hb9.mono HX4.out.1.size), _, _, _, rfl, own_mono ho9 HX4.out.1.size, (by first | (have := HM0.out; omega) | (rw [List.length_take]; have := HM0.out; omega))⟩); obtain ⟨o9, c9, rfl⟩ := own_slice ho9; clear ho9 hb9; generalize List.length _ = ny at HEND ⊢; refine stopHere ?_)
  refine goOn ?_
  go_wp2_with fail
  refine bodyPost_ret (v := .tuple #[.slice o9 ny c9, .int .i64 0]) (by simp [results, Tryz.results27, go_sem]) rfl HEND.out
set_option maxRecDepth 1000000 in
set_option maxHeartbeats 8000000 in
theorem shape_rows28 (word : Int) (oa oi o1 o2 o3 o4 p0 : Option Addr) (na ni n1 n2 n3 n4 ca ci c1 c2 c3 c4 bl fl nl cl m0 k0 : Nat) (il : List Int) (x0 : List Nat) (w : World) (hi : Rd w .i64 (.slice oi ni ci) il) (hil : il.length ≤ 1000) (h0 : ShAt w bl fl p0 m0 k0 x0) (hnl : 0 < nl)  :
    Calls Tryz.prog 27 #[.agg #[.int .i64 28, .slice oa na ca, .slice oi ni ci, .int .i64 word, .slice o1 n1 c1, .slice o2 n2 c2, .slice o3 n3 c3, .slice o4 n4 c4], .slice (some ⟨bl, fl, none⟩) nl cl] w (ShOut w 1000) := by
  have HI := Lib.hid hi
  have HIL := Lib.hid hil
  have HNI := Lib.hid (show ni = il.length by obtain ⟨o, cap, he⟩ := rd_slice hi; injection he)
  have hni : ni ≤ 1000 := by have := HNI.out; omega
  obtain ⟨hm0, hm0b⟩ := h0.len
  have HM0 := Lib.hid hm0
  obtain ⟨W, hW⟩ : ∃ W, W = w.alloc (.cells #[.int .i64 28, .slice oa na ca, .slice oi ni ci, .int .i64 word, .slice o1 n1 c1, .slice o2 n2 c2, .slice o3 n3 c3, .slice o4 n4 c4] 27) := ⟨_, rfl⟩
  have hB : Below w.heap.size w W := by rw [hW]; exact (Below.refl _ _).alloc (Nat.le_refl _) _
  have hbx : Box W w.heap.size 27 #[.int .i64 28, .slice oa na ca, .slice oi ni ci, .int .i64 word, .slice o1 n1 c1, .slice o2 n2 c2, .slice o3 n3 c3, .slice o4 n4 c4] := by rw [hW]; exact Box.new _ _ _
  have HX := Lib.hid (And.intro hB hbx)
  have HW := Lib.hid hW
  have H0 := Lib.hid (h0.below hB)
  have s0 := H0.out.cell
  have d0 : W.cell? ⟨w.heap.size, 0, none⟩ = some (.int .i64 28) := hbx.cell 0 rfl
  have d2 : W.cell? ⟨w.heap.size, 2, none⟩ = some (.slice oi ni ci) := hbx.cell 2 rfl
  have d3 : W.cell? ⟨w.heap.size, 3, none⟩ = some (.int .i64 word) := hbx.cell 3 rfl
  have hnl0 : 0 < nl := by omega
  clear hi hil h0 hm0 hW hB hbx
  go_enter Tryz.func27, Tryz.ntmps27
  go_upto_region 2 with fail
  rw [← HW.out]
  clear HW
  by_cases hw : word ≤ 0
  · have hw := decide_eq_true hw
    go_wp2_with fail
    refine bodyPost_ret (v := .tuple #[.slice none 0 0, .int .i64 1]) (by simp [results, Tryz.results27, go_sem]) rfl (ShOut.no _ HX.out.1)
  have hw := decide_eq_false hw
  by_cases hz : m0 = 0
  case pos =>
    have hz2 : ((m0 : Int) == 0) = true := by simp; exact hz
    clear hz
    go_wp2_with fail
    refine bodyPost_ret (v := .tuple #[.slice none 0 0, .int .i64 2]) (by simp [results, Tryz.results27, go_sem]) rfl (ShOut.no _ HX.out.1)
  have hz2 : ((m0 : Int) == 0) = false := by simp; exact hz
  go_wp2_with (go_at_call 53; refine (copyNumbers_any _ (ints x0) W (H0.out.rd) (by have := HM0.out; omega)).mono ?_; rintro e w9 ⟨v9, rfl, ho9, hb9⟩; have HEND := Lib.hid (show ShOut w 1000 (.returned (.tuple #[v9, .int .i64 0])) w9 from ⟨HX.out.1.trans (hb9.mono HX.out.1.size), _, _, _, rfl, own_mono ho9 HX.out.1.size, (by first | (have := HM0.out; omega) | (rw [List.length_take]; have := HM0.out; omega))⟩); obtain ⟨o9, c9, rfl⟩ := own_slice ho9; clear ho9 hb9; generalize List.length _ = ny at HEND ⊢; refine stopHere ?_)
  refine goOn ?_
  go_wp2_with fail
  refine bodyPost_ret (v := .tuple #[.slice o9 ny c9, .int .i64 0]) (by simp [results, Tryz.results27, go_sem]) rfl HEND.out
set_option maxRecDepth 1000000 in
set_option maxHeartbeats 8000000 in
theorem shape_drop (word : Int) (oa oi o1 o2 o3 o4 p0 : Option Addr) (na ni n1 n2 n3 n4 ca ci c1 c2 c3 c4 bl fl nl cl m0 k0 : Nat) (il : List Int) (x0 : List Nat) (w : World) (hi : Rd w .i64 (.slice oi ni ci) il) (hil : il.length ≤ 1000) (h0 : ShAt w bl fl p0 m0 k0 x0) (hnl : 0 < nl) :
    Calls Tryz.prog 27 #[.agg #[.int .i64 30, .slice oa na ca, .slice oi ni ci, .int .i64 word, .slice o1 n1 c1, .slice o2 n2 c2, .slice o3 n3 c3, .slice o4 n4 c4], .slice (some ⟨bl, fl, none⟩) nl cl] w (ShOut w 1000) := by
  have HI := Lib.hid hi
  have HIL := Lib.hid hil
  have HNI := Lib.hid (show ni = il.length by obtain ⟨o, cap, he⟩ := rd_slice hi; injection he)
  have hni : ni ≤ 1000 := by have := HNI.out; omega
  obtain ⟨hm0, hm0b⟩ := h0.len
  have HM0 := Lib.hid hm0
  obtain ⟨W, hW⟩ : ∃ W, W = w.alloc (.cells #[.int .i64 30, .slice oa na ca, .slice oi ni ci, .int .i64 word, .slice o1 n1 c1, .slice o2 n2 c2, .slice o3 n3 c3, .slice o4 n4 c4] 27) := ⟨_, rfl⟩
  have hB : Below w.heap.size w W := by rw [hW]; exact (Below.refl _ _).alloc (Nat.le_refl _) _
  have hbx : Box W w.heap.size 27 #[.int .i64 30, .slice oa na ca, .slice oi ni ci, .int .i64 word, .slice o1 n1 c1, .slice o2 n2 c2, .slice o3 n3 c3, .slice o4 n4 c4] := by rw [hW]; exact Box.new _ _ _
  have HX := Lib.hid (And.intro hB hbx)
  have HW := Lib.hid hW
  have H0 := Lib.hid (h0.below hB)
  have s0 := H0.out.cell
  have d0 : W.cell? ⟨w.heap.size, 0, none⟩ = some (.int .i64 30) := hbx.cell 0 rfl
  have d2 : W.cell? ⟨w.heap.size, 2, none⟩ = some (.slice oi ni ci) := hbx.cell 2 rfl
  have d3 : W.cell? ⟨w.heap.size, 3, none⟩ = some (.int .i64 word) := hbx.cell 3 rfl
  have hnl0 : 0 < nl := by omega
  clear hi hil h0 hm0 hW hB hbx
  have HCT := Lib.hid (show ∀ m : Nat, Calls Tryz.prog 6 #[.slice p0 m0 k0] (W.drewN m) fun e w' => e = .returned (.int .i64 (prodL (ints x0))) ∧ Same (W.drewN m) w' from fun m => by
    have := ref6Count_any _ (ints x0) (W.drewN m) (H0.out.below ((show Same W (W.drewN m) from ⟨m, rfl⟩).below _)).rd (shape_all H0.out.good) (shape_len H0.out.good)
    rwa [cnt_good H0.out.good] at this)
  generalize prodL (ints x0) = p at HCT
  go_enter Tryz.func27, Tryz.ntmps27
  go_upto_region 2 with fail
  rw [← HW.out]
  clear HW
  go_wp2_with fail
  go_quiet ((go_at_call 6; exact Calls.quiet_of (HCT.out _)))
  obtain ⟨w5, hw5⟩ : ∃ w5, w5 = W.drewN nq := ⟨_, rfl⟩
  have hsm : Same W w5 := ⟨nq, hw5⟩
  rw [← hw5]
  have HX5 := Lib.hid (And.intro (HX.out.1.trans (hsm.below _)) (HX.out.2.same hsm))
  have H5 := Lib.hid (H0.out.below (hsm.below _))
  clear hsm hw5 HCT s0 d0 d2 d3
  have s0 := H5.out.cell
  by_cases hq : (ni : Int) = p
  case neg =>
    have hq2 : ((ni : Int) != p) = true := by simp; exact hq
    clear hq
    go_wp2_with fail
    refine bodyPost_ret (v := .tuple #[.slice none 0 0, .int .i64 2]) (by simp [results, Tryz.results27, go_sem]) rfl (ShOut.no _ HX5.out.1)
  have hq2 : ((ni : Int) != p) = false := by simp; exact hq
  clear hq
  go_wp2_with (go_at_call 53; refine (copyNumbers_any _ (ints x0) w5 (H5.out.rd) (by have := HM0.out; omega)).mono ?_; rintro e w9 ⟨v9, rfl, ho9, hb9⟩; have HEND := Lib.hid (show ShOut w 1000 (.returned (.tuple #[v9, .int .i64 0])) w9 from ⟨HX5.out.1.trans (hb9.mono HX5.out.1.size), _, _, _, rfl, own_mono ho9 HX5.out.1.size, (by first | (have := HM0.out; omega) | (rw [List.length_take]; have := HM0.out; omega))⟩); obtain ⟨o9, c9, rfl⟩ := own_slice ho9; clear ho9 hb9; generalize List.length _ = ny at HEND ⊢; refine stopHere ?_)
  refine goOn ?_
  go_wp2_with fail
  refine bodyPost_ret (v := .tuple #[.slice o9 ny c9, .int .i64 0]) (by simp [results, Tryz.results27, go_sem]) rfl HEND.out
set_option maxRecDepth 1000000 in
set_option maxHeartbeats 8000000 in
theorem shape_pair32 (word : Int) (oa oi o1 o2 o3 o4 p0 p1 : Option Addr) (na ni n1 n2 n3 n4 ca ci c1 c2 c3 c4 bl fl nl cl m0 k0 m1 k1 : Nat) (il : List Int) (x0 x1 : List Nat) (w : World) (hi : Rd w .i64 (.slice oi ni ci) il) (hil : il.length ≤ 1000) (h0 : ShAt w bl fl p0 m0 k0 x0) (h1 : ShAt w bl (fl + 1) p1 m1 k1 x1) (hnl : 1 < nl) :
    Calls Tryz.prog 27 #[.agg #[.int .i64 32, .slice oa na ca, .slice oi ni ci, .int .i64 word, .slice o1 n1 c1, .slice o2 n2 c2, .slice o3 n3 c3, .slice o4 n4 c4], .slice (some ⟨bl, fl, none⟩) nl cl] w (ShOut w 1000) := by
  have HI := Lib.hid hi
  have HIL := Lib.hid hil
  have HNI := Lib.hid (show ni = il.length by obtain ⟨o, cap, he⟩ := rd_slice hi; injection he)
  have hni : ni ≤ 1000 := by have := HNI.out; omega
  obtain ⟨hm0, hm0b⟩ := h0.len
  have HM0 := Lib.hid hm0
  obtain ⟨W, hW⟩ : ∃ W, W = w.alloc (.cells #[.int .i64 32, .slice oa na ca, .slice oi ni ci, .int .i64 word, .slice o1 n1 c1, .slice o2 n2 c2, .slice o3 n3 c3, .slice o4 n4 c4] 27) := ⟨_, rfl⟩
  have hB : Below w.heap.size w W := by rw [hW]; exact (Below.refl _ _).alloc (Nat.le_refl _) _
  have hbx : Box W w.heap.size 27 #[.int .i64 32, .slice oa na ca, .slice oi ni ci, .int .i64 word, .slice o1 n1 c1, .slice o2 n2 c2, .slice o3 n3 c3, .slice o4 n4 c4] := by rw [hW]; exact Box.new _ _ _
  have HX := Lib.hid (And.intro hB hbx)
  have HW := Lib.hid hW
  have H0 := Lib.hid (h0.below hB)
  have s0 := H0.out.cell
  obtain ⟨hm1, hm1b⟩ := h1.len
  have HM1 := Lib.hid hm1
  have H1 := Lib.hid (h1.below hB)
  have s1 := H1.out.cell
  clear h1 hm1
  have d0 : W.cell? ⟨w.heap.size, 0, none⟩ = some (.int .i64 32) := hbx.cell 0 rfl
  have d2 : W.cell? ⟨w.heap.size, 2, none⟩ = some (.slice oi ni ci) := hbx.cell 2 rfl
  have d3 : W.cell? ⟨w.heap.size, 3, none⟩ = some (.int .i64 word) := hbx.cell 3 rfl
  have hnl0 : 0 < nl := by omega
  have hnl1 : (1 : Int) < (nl : Int) := by omega
  clear hi hil h0 hm0 hW hB hbx
  have HEQ := Lib.hid (show ∀ X, Below W.heap.size W X → Calls Tryz.prog 22 #[.slice p0 m0 k0, .slice p1 m1 k1] X fun e w' => e = .returned (.bool (decide (ints x0 = ints x1))) ∧ Same X w' from fun X hX =>
    eqNumbers_any _ _ (ints x0) (ints x1) X (H0.out.below hX).rd (H1.out.below hX).rd (by have := HM0.out; omega))
  generalize decide (ints x0 = ints x1) = b at HEQ
  go_enter Tryz.func27, Tryz.ntmps27
  go_upto_region 2 with fail
  rw [← HW.out]
  clear HW
  go_wp2_with fail
  go_still_tail 6, (by kernel_rfl)
  change wpList _ _ _ _ _ W.drew
  generalize hw4 : W.drew = w4
  have hsm : Same W w4 := ⟨1, by rw [← hw4]; rfl⟩
  have HX4 := Lib.hid (And.intro (HX.out.1.trans (hsm.below _)) (HX.out.2.same hsm))
  have H4 := Lib.hid (H0.out.below (hsm.below _))
  have HC4 := Lib.hid (HEQ.out w4 (hsm.below _))
  clear hw4 hsm d0 d2 d3 s0 s1
  go_wp2_with (go_at_call 22; refine HC4.out.mono ?_; rintro e w5 ⟨rfl, hsm⟩; refine stopHere ?_)
  have HX5 := Lib.hid (And.intro (HX4.out.1.trans (hsm.below _)) (HX4.out.2.same hsm))
  clear hsm HC4 HEQ
  refine goOn ?_
  cases b with
  | false =>
    go_wp2_with fail
    refine bodyPost_ret (v := .tuple #[.slice none 0 0, .int .i64 2]) (by simp [results, Tryz.results27, go_sem]) rfl (ShOut.no _ HX5.out.1)
  | true =>
    go_wp2_with fail
    refine bodyPost_ret (v := .tuple #[.slice none 0 0, .int .i64 0]) (by simp [results, Tryz.results27, go_sem]) rfl (ShOut.no _ HX5.out.1)
set_option maxRecDepth 1000000 in
set_option maxHeartbeats 8000000 in
theorem shape_pair33 (word : Int) (oa oi o1 o2 o3 o4 p0 p1 : Option Addr) (na ni n1 n2 n3 n4 ca ci c1 c2 c3 c4 bl fl nl cl m0 k0 m1 k1 : Nat) (il : List Int) (x0 x1 : List Nat) (w : World) (hi : Rd w .i64 (.slice oi ni ci) il) (hil : il.length ≤ 1000) (h0 : ShAt w bl fl p0 m0 k0 x0) (h1 : ShAt w bl (fl + 1) p1 m1 k1 x1) (hnl : 1 < nl) :
    Calls Tryz.prog 27 #[.agg #[.int .i64 33, .slice oa na ca, .slice oi ni ci, .int .i64 word, .slice o1 n1 c1, .slice o2 n2 c2, .slice o3 n3 c3, .slice o4 n4 c4], .slice (some ⟨bl, fl, none⟩) nl cl] w (ShOut w 1000) := by
  have HI := Lib.hid hi
  have HIL := Lib.hid hil
  have HNI := Lib.hid (show ni = il.length by obtain ⟨o, cap, he⟩ := rd_slice hi; injection he)
  have hni : ni ≤ 1000 := by have := HNI.out; omega
  obtain ⟨hm0, hm0b⟩ := h0.len
  have HM0 := Lib.hid hm0
  obtain ⟨W, hW⟩ : ∃ W, W = w.alloc (.cells #[.int .i64 33, .slice oa na ca, .slice oi ni ci, .int .i64 word, .slice o1 n1 c1, .slice o2 n2 c2, .slice o3 n3 c3, .slice o4 n4 c4] 27) := ⟨_, rfl⟩
  have hB : Below w.heap.size w W := by rw [hW]; exact (Below.refl _ _).alloc (Nat.le_refl _) _
  have hbx : Box W w.heap.size 27 #[.int .i64 33, .slice oa na ca, .slice oi ni ci, .int .i64 word, .slice o1 n1 c1, .slice o2 n2 c2, .slice o3 n3 c3, .slice o4 n4 c4] := by rw [hW]; exact Box.new _ _ _
  have HX := Lib.hid (And.intro hB hbx)
  have HW := Lib.hid hW
  have H0 := Lib.hid (h0.below hB)
  have s0 := H0.out.cell
  obtain ⟨hm1, hm1b⟩ := h1.len
  have HM1 := Lib.hid hm1
  have H1 := Lib.hid (h1.below hB)
  have s1 := H1.out.cell
  clear h1 hm1
  have d0 : W.cell? ⟨w.heap.size, 0, none⟩ = some (.int .i64 33) := hbx.cell 0 rfl
  have d2 : W.cell? ⟨w.heap.size, 2, none⟩ = some (.slice oi ni ci) := hbx.cell 2 rfl
  have d3 : W.cell? ⟨w.heap.size, 3, none⟩ = some (.int .i64 word) := hbx.cell 3 rfl
  have hnl0 : 0 < nl := by omega
  have hnl1 : (1 : Int) < (nl : Int) := by omega
  clear hi hil h0 hm0 hW hB hbx
  have HEQ := Lib.hid (show ∀ X, Below W.heap.size W X → Calls Tryz.prog 22 #[.slice p0 m0 k0, .slice p1 m1 k1] X fun e w' => e = .returned (.bool (decide (ints x0 = ints x1))) ∧ Same X w' from fun X hX =>
    eqNumbers_any _ _ (ints x0) (ints x1) X (H0.out.below hX).rd (H1.out.below hX).rd (by have := HM0.out; omega))
  generalize decide (ints x0 = ints x1) = b at HEQ
  go_enter Tryz.func27, Tryz.ntmps27
  go_upto_region 2 with fail
  rw [← HW.out]
  clear HW
  by_cases hw : word ≤ 0
  · have hw := decide_eq_true hw
    go_wp2_with fail
    refine bodyPost_ret (v := .tuple #[.slice none 0 0, .int .i64 1]) (by simp [results, Tryz.results27, go_sem]) rfl (ShOut.no _ HX.out.1)
  have hw := decide_eq_false hw
  go_wp2_with fail
  go_still_tail 6, (by kernel_rfl)
  change wpList _ _ _ _ _ W.drew
  generalize hw4 : W.drew = w4
  have hsm : Same W w4 := ⟨1, by rw [← hw4]; rfl⟩
  have HX4 := Lib.hid (And.intro (HX.out.1.trans (hsm.below _)) (HX.out.2.same hsm))
  have H4 := Lib.hid (H0.out.below (hsm.below _))
  have HC4 := Lib.hid (HEQ.out w4 (hsm.below _))
  clear hw4 hsm d0 d2 d3 s0 s1
  go_wp2_with (go_at_call 22; refine HC4.out.mono ?_; rintro e w5 ⟨rfl, hsm⟩; refine stopHere ?_)
  have HX5 := Lib.hid (And.intro (HX4.out.1.trans (hsm.below _)) (HX4.out.2.same hsm))
  clear hsm HC4 HEQ
  refine goOn ?_
  cases b with
  | false =>
    go_wp2_with fail
    refine bodyPost_ret (v := .tuple #[.slice none 0 0, .int .i64 2]) (by simp [results, Tryz.results27, go_sem]) rfl (ShOut.no _ HX5.out.1)
  | true =>
    go_wp2_with fail
    refine bodyPost_ret (v := .tuple #[.slice none 0 0, .int .i64 0]) (by simp [results, Tryz.results27, go_sem]) rfl (ShOut.no _ HX5.out.1)
end Go.Proofs.YtipjhdgegfgenaaGreat
