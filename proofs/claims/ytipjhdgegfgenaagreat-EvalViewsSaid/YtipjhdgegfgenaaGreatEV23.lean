/-
  WHAT A NODE SEES: eval.Look, at its three kinds.
-/
import Derived.StillTailTactics
import Derived.Test.YtipjhdgegfgenaaGreatEV22
set_option linter.unusedVariables false
set_option linter.unusedSimpArgs false
namespace Go.Proofs.YtipjhdgegfgenaaGreat
open Go.RowKit Go.Shelf Go
theorem two_boxV (w : World) (T1 T2 : TypeId) (cs ds : Array Value) {W : World} (hW : W = (w.alloc (.cells cs T1)).alloc (.cells ds T2)) : Box W w.heap.size T1 cs ∧ Box W (w.heap.size + 1) T2 ds ∧ Below w.heap.size w W := by
  subst hW
  have h2 := Box.new (w.alloc (.cells cs T1)) T2 ds
  rw [World.size_alloc] at h2
  exact ⟨box_st_alloc (Box.new w T1 cs), h2, below_st_alloc (below_st_alloc (Below.refl _ _) (Nat.le_refl _)) (Nat.le_refl _)⟩
theorem two_nextV {w W W' : World} {T1 T2 : TypeId} {cs ds : Array Value} (h : Box W w.heap.size T1 cs ∧ Box W (w.heap.size + 1) T2 ds ∧ Below w.heap.size w W) (hb : Below W.heap.size W W') : Box W' w.heap.size T1 cs ∧ Box W' (w.heap.size + 1) T2 ds ∧ Below w.heap.size w W' :=
  ⟨h.1.next hb, h.2.1.next hb, h.2.2.trans (hb.mono h.2.2.size)⟩
theorem steps_le : ∀ (sh : List Nat), (∀ d ∈ sh, 0 < d) → ∀ x ∈ stepsN sh, x ≤ prodN sh
  | [], _, x, hx => by cases hx
  | d :: r, h, x, hx => by
    have hr : ∀ x ∈ r, 0 < x := fun x hx => h x (by simp [hx])
    have h0 : prodN r ≤ d * prodN r := Nat.le_mul_of_pos_left _ (h d (by simp))
    rw [stepsN, List.mem_cons] at hx
    rw [prodN]
    rcases hx with rfl | hx
    · exact h0
    · exact Nat.le_trans (steps_le r hr x hx) h0
theorem plain_view {sh : List Nat} (hg : shapeB (ints sh) = true) {n : Nat} (h1 : prodN sh ≤ n) (h2 : n ≤ 65536) : ViewN sh (stepsN sh) 0 n :=
  have hp : ∀ d ∈ sh, 0 < d := fun d hd => ((dims_good hg).1 d hd).1
  ⟨dims_good hg, hg, stepsN_length sh, fun x hx => Nat.le_trans (steps_le sh hp x hx) (prod_good hg), by have := far_plain sh hp; omega, h2⟩
set_option maxRecDepth 1000000 in
set_option maxHeartbeats 8000000 in
theorem look19 (word : Int) (oa oi o1 o2 o3 o4 : Option Addr) (na ni n1 n2 n3 n4 ca ci c1 c2 c3 c4 : Nat) (vs : Value) (sh ns : List Nat) (w : World) (hi : Rd w .i64 (.slice oi ni ci) (ints ns)) (hs : Rd w .i64 vs (ints sh)) (hg : shapeB (ints sh) = true) (hgn : shapeB (ints ns) = true) (hp : prodN ns = prodN sh) :
    Calls Tryz.prog 66 #[.agg #[.int .i64 19, .slice oa na ca, .slice oi ni ci, .int .i64 word, .slice o1 n1 c1, .slice o2 n2 c2, .slice o3 n3 c3, .slice o4 n4 c4], vs] w (ViewOk w (ints ns) (ints (stepsN ns)) 0) := by
  have HI := Lib.hid (And.intro hi (And.intro hgn hp))
  clear hi hgn hp
  obtain ⟨os, cs, rfl⟩ := rd_slice hs
  obtain ⟨m, hm⟩ : ∃ m, m = (ints sh).length := ⟨_, rfl⟩
  have hm4 : m ≤ 4 := by rw [hm, ints_length]; exact (dims_good hg).2
  rw [← hm] at hs ⊢
  obtain ⟨W, hW⟩ : ∃ W, W = (w.alloc (.cells #[.int .i64 19, .slice oa na ca, .slice oi ni ci, .int .i64 word, .slice o1 n1 c1, .slice o2 n2 c2, .slice o3 n3 c3, .slice o4 n4 c4] 27)).alloc (.cells #[.slice none 0 0, .slice none 0 0, .int .i64 0] 81) := ⟨_, rfl⟩
  have HX := Lib.hid (two_boxV w _ _ _ _ hW)
  have HW := Lib.hid hW
  have HS := Lib.hid hs
  have HG := Lib.hid hg
  have HM := Lib.hid hm
  clear hm hW hs hg
  go_enter Tryz.func66, Tryz.ntmps66
  go_wp2_with (go_at_call 113; rw [← HW.out]; refine (viewPlain_any _ sh W (HS.out.below HX.out.2.2 (Nat.le_refl _)) (dims_good HG.out)).mono ?_; rintro e w1 ⟨hb1, a, b, rfl, hoa, hob⟩; refine stopHere ?_)
  have HX1 := Lib.hid (two_nextV HX.out hb1)
  obtain ⟨op, cp, hap⟩ := own_slice hoa
  obtain ⟨oq, cq, hbq⟩ := own_slice hob
  subst hap
  subst hbq
  rw [show (ints (stepsN sh)).length = (ints sh).length by rw [ints_length, ints_length, stepsN_length]] at hob ⊢
  rw [← HM.out] at hoa hob ⊢
  obtain ⟨w2, hw2⟩ : ∃ w2, w2 = w1.alloc (.cells #[.slice op m cp, .slice oq m cq, .int .i64 0] 81) := ⟨_, rfl⟩
  have hb2 : Below w1.heap.size w1 w2 := by rw [hw2]; exact (Below.refl _ _).alloc (Nat.le_refl _) _
  have hbx2 : Box w2 w1.heap.size 81 #[.slice op m cp, .slice oq m cq, .int .i64 0] := by rw [hw2]; exact Box.new _ _ _
  have HX2 := Lib.hid (And.intro (two_nextV HX1.out hb2) (And.intro hbx2 (And.intro (Rd.of_own (own_st_next hb2 hoa)) (Rd.of_own (own_st_next hb2 hob)))))
  have HW2 := Lib.hid hw2
  have hlt : w1.heap.size < w2.heap.size := hbx2.lt
  have hgw : w.heap.size + 1 < w1.heap.size := HX1.out.2.1.lt
  have d0 : w2.cell? ⟨w.heap.size, 0, none⟩ = some (.int .i64 19) := HX2.out.1.1.cell 0 rfl
  have d2 : w2.cell? ⟨w.heap.size, 2, none⟩ = some (.slice oi ni ci) := HX2.out.1.1.cell 2 rfl
  have v0 : w2.cell? ⟨w1.heap.size, 0, none⟩ = some (.slice op m cp) := hbx2.cell 0 rfl
  have v1 : w2.cell? ⟨w1.heap.size, 1, none⟩ = some (.slice oq m cq) := hbx2.cell 1 rfl
  have v2 : w2.cell? ⟨w1.heap.size, 2, none⟩ = some (.int .i64 0) := hbx2.cell 2 rfl
  clear hb1 hoa hob hw2 hb2 hbx2
  refine goOn ?_
  go_upto_region 2 with fail
  rw [← HW2.out]
  go_wp2_with (go_at_call 114; refine (viewReshape_any _ _ _ sh ns w2 HX2.out.2.2.1 HX2.out.2.2.2 (HI.out.1.below HX2.out.1.2.2 (Nat.le_refl _)) (plain_view HG.out (prod_good HG.out) (Nat.le_refl _)) HI.out.2.1 HI.out.2.2).mono ?_; rintro e w3 ⟨hb3, a3, b3, rfl, hoa3, hob3⟩; refine stopHere ?_)
  have HX3 := Lib.hid (two_nextV HX2.out.1 hb3)
  obtain ⟨oz, cz, hzz⟩ := own_slice hoa3
  obtain ⟨oy, cy, hyy⟩ := own_slice hob3
  subst hzz
  subst hyy
  obtain ⟨nz, hnz⟩ : ∃ nz, nz = (ints ns).length := ⟨_, rfl⟩
  obtain ⟨ny, hny⟩ : ∃ ny, ny = (ints (stepsN ns)).length := ⟨_, rfl⟩
  rw [← hnz] at hoa3 ⊢
  rw [← hny] at hob3 ⊢
  have HO := Lib.hid (And.intro hoa3 hob3)
  have r0 : w3.cell? ⟨w.heap.size + 1, 0, none⟩ = some (.slice none 0 0) := HX3.out.2.1.cell 0 rfl
  have r1 : w3.cell? ⟨w.heap.size + 1, 1, none⟩ = some (.slice none 0 0) := HX3.out.2.1.cell 1 rfl
  have r2 : w3.cell? ⟨w.heap.size + 1, 2, none⟩ = some (.int .i64 0) := HX3.out.2.1.cell 2 rfl
  have q0 := HX3.out.2.1.free 0
  have q1 := HX3.out.2.1.free 1
  have q2 := HX3.out.2.1.free 2
  clear hb3 hoa3 hob3 hnz hny d0 d2 v0 v1 v2
  refine goOn ?_
  go_wp2_with fail
  obtain ⟨Y, hY⟩ : ∃ Y, Y = ((w3.setCell ⟨w.heap.size + 1, 0, none⟩ (.slice oz nz cz)).setCell ⟨w.heap.size + 1, 1, none⟩ (.slice oy ny cy)).setCell ⟨w.heap.size + 1, 2, none⟩ (.int .i64 (0)) := ⟨_, rfl⟩
  have hb3 : Box Y (w.heap.size + 1) 81 #[.slice oz nz cz, .slice oy ny cy, .int .i64 (0)] := by rw [hY]; exact (((HX3.out.2.1.set 0 _).set 1 _).set 2 _)
  have own3 : ∀ {v : Value} {j : Nat} {l : List Value}, w3.ownsRow w2.heap.size 3 1 v j l → Y.ownsRow w2.heap.size 3 1 v j l := fun h => by
    rw [hY]
    exact own_st_set (own_st_set (own_st_set h (fun j hj => by have := (h.lt j hj).1; omega)) (fun j hj => by have := (h.lt j hj).1; omega)) (fun j hj => by have := (h.lt j hj).1; omega)
  have hbel : Below w.heap.size w Y := by rw [hY]; exact below_st_set (below_st_set (below_st_set HX3.out.2.2 (Nat.le_succ w.heap.size)) (Nat.le_succ w.heap.size)) (Nat.le_succ w.heap.size)
  have hra := own_mono (own3 HO.out.1) (show w.heap.size ≤ w2.heap.size by omega)
  have hrb := own_mono (own3 HO.out.2) (show w.heap.size ≤ w2.heap.size by omega)
  rw [← hY]
  have y0 := hb3.cell 0 rfl
  have y1 := hb3.cell 1 rfl
  have y2 := hb3.cell 2 rfl
  have HZ := Lib.hid (And.intro hbel (And.intro hra hrb))
  clear hbel hra hrb own3 hb3 hY r0 r1 r2 q0 q1 q2
  refine bodyPost_ret (v := .tuple #[.agg #[.slice oz nz cz, .slice oy ny cy, .int .i64 (0)], .int .i64 0]) (by simp [results, Tryz.results66, go_sem, y0, y1, y2]) rfl ⟨HZ.out.1, _, _, rfl, HZ.out.2.1, HZ.out.2.2⟩
set_option maxRecDepth 1000000 in
set_option maxHeartbeats 8000000 in
theorem look20 (word : Int) (oa oi o1 o2 o3 o4 : Option Addr) (na ni n1 n2 n3 n4 ca ci c1 c2 c3 c4 : Nat) (vs : Value) (sh ax : List Nat) (w : World) (hi : Rd w .i64 (.slice oi ni ci) (ints ax)) (hs : Rd w .i64 vs (ints sh)) (hg : shapeB (ints sh) = true) (ho : orderB (ints ax) sh.length = true) :
    Calls Tryz.prog 66 #[.agg #[.int .i64 20, .slice oa na ca, .slice oi ni ci, .int .i64 word, .slice o1 n1 c1, .slice o2 n2 c2, .slice o3 n3 c3, .slice o4 n4 c4], vs] w (ViewOk w (ints (permN sh ax)) (ints (permN (stepsN sh) ax)) 0) := by
  have HI := Lib.hid (And.intro hi ho)
  clear hi ho
  obtain ⟨os, cs, rfl⟩ := rd_slice hs
  obtain ⟨m, hm⟩ : ∃ m, m = (ints sh).length := ⟨_, rfl⟩
  have hm4 : m ≤ 4 := by rw [hm, ints_length]; exact (dims_good hg).2
  rw [← hm] at hs ⊢
  obtain ⟨W, hW⟩ : ∃ W, W = (w.alloc (.cells #[.int .i64 20, .slice oa na ca, .slice oi ni ci, .int .i64 word, .slice o1 n1 c1, .slice o2 n2 c2, .slice o3 n3 c3, .slice o4 n4 c4] 27)).alloc (.cells #[.slice none 0 0, .slice none 0 0, .int .i64 0] 81) := ⟨_, rfl⟩
  have HX := Lib.hid (two_boxV w _ _ _ _ hW)
  have HW := Lib.hid hW
  have HS := Lib.hid hs
  have HG := Lib.hid hg
  have HM := Lib.hid hm
  clear hm hW hs hg
  go_enter Tryz.func66, Tryz.ntmps66
  go_wp2_with (go_at_call 113; rw [← HW.out]; refine (viewPlain_any _ sh W (HS.out.below HX.out.2.2 (Nat.le_refl _)) (dims_good HG.out)).mono ?_; rintro e w1 ⟨hb1, a, b, rfl, hoa, hob⟩; refine stopHere ?_)
  have HX1 := Lib.hid (two_nextV HX.out hb1)
  obtain ⟨op, cp, hap⟩ := own_slice hoa
  obtain ⟨oq, cq, hbq⟩ := own_slice hob
  subst hap
  subst hbq
  rw [show (ints (stepsN sh)).length = (ints sh).length by rw [ints_length, ints_length, stepsN_length]] at hob ⊢
  rw [← HM.out] at hoa hob ⊢
  obtain ⟨w2, hw2⟩ : ∃ w2, w2 = w1.alloc (.cells #[.slice op m cp, .slice oq m cq, .int .i64 0] 81) := ⟨_, rfl⟩
  have hb2 : Below w1.heap.size w1 w2 := by rw [hw2]; exact (Below.refl _ _).alloc (Nat.le_refl _) _
  have hbx2 : Box w2 w1.heap.size 81 #[.slice op m cp, .slice oq m cq, .int .i64 0] := by rw [hw2]; exact Box.new _ _ _
  have HX2 := Lib.hid (And.intro (two_nextV HX1.out hb2) (And.intro hbx2 (And.intro (Rd.of_own (own_st_next hb2 hoa)) (Rd.of_own (own_st_next hb2 hob)))))
  have HW2 := Lib.hid hw2
  have hlt : w1.heap.size < w2.heap.size := hbx2.lt
  have hgw : w.heap.size + 1 < w1.heap.size := HX1.out.2.1.lt
  have d0 : w2.cell? ⟨w.heap.size, 0, none⟩ = some (.int .i64 20) := HX2.out.1.1.cell 0 rfl
  have d2 : w2.cell? ⟨w.heap.size, 2, none⟩ = some (.slice oi ni ci) := HX2.out.1.1.cell 2 rfl
  have v0 : w2.cell? ⟨w1.heap.size, 0, none⟩ = some (.slice op m cp) := hbx2.cell 0 rfl
  have v1 : w2.cell? ⟨w1.heap.size, 1, none⟩ = some (.slice oq m cq) := hbx2.cell 1 rfl
  have v2 : w2.cell? ⟨w1.heap.size, 2, none⟩ = some (.int .i64 0) := hbx2.cell 2 rfl
  clear hb1 hoa hob hw2 hb2 hbx2
  refine goOn ?_
  go_upto_region 2 with fail
  rw [← HW2.out]
  go_wp2_with (go_at_call 115; refine (viewTranspose_any _ _ _ sh (stepsN sh) ax 0 w2 HX2.out.2.2.1 HX2.out.2.2.2 (HI.out.1.below HX2.out.1.2.2 (Nat.le_refl _)) (plain_view HG.out (prod_good HG.out) (Nat.le_refl _)) HI.out.2).mono ?_; rintro e w3 ⟨hb3, a3, b3, rfl, hoa3, hob3⟩; refine stopHere ?_)
  have HX3 := Lib.hid (two_nextV HX2.out.1 hb3)
  obtain ⟨oz, cz, hzz⟩ := own_slice hoa3
  obtain ⟨oy, cy, hyy⟩ := own_slice hob3
  subst hzz
  subst hyy
  obtain ⟨nz, hnz⟩ : ∃ nz, nz = (ints (permN sh ax)).length := ⟨_, rfl⟩
  obtain ⟨ny, hny⟩ : ∃ ny, ny = (ints (permN (stepsN sh) ax)).length := ⟨_, rfl⟩
  rw [← hnz] at hoa3 ⊢
  rw [← hny] at hob3 ⊢
  have HO := Lib.hid (And.intro hoa3 hob3)
  have r0 : w3.cell? ⟨w.heap.size + 1, 0, none⟩ = some (.slice none 0 0) := HX3.out.2.1.cell 0 rfl
  have r1 : w3.cell? ⟨w.heap.size + 1, 1, none⟩ = some (.slice none 0 0) := HX3.out.2.1.cell 1 rfl
  have r2 : w3.cell? ⟨w.heap.size + 1, 2, none⟩ = some (.int .i64 0) := HX3.out.2.1.cell 2 rfl
  have q0 := HX3.out.2.1.free 0
  have q1 := HX3.out.2.1.free 1
  have q2 := HX3.out.2.1.free 2
  clear hb3 hoa3 hob3 hnz hny d0 d2 v0 v1 v2
  refine goOn ?_
  go_wp2_with fail
  obtain ⟨Y, hY⟩ : ∃ Y, Y = ((w3.setCell ⟨w.heap.size + 1, 0, none⟩ (.slice oz nz cz)).setCell ⟨w.heap.size + 1, 1, none⟩ (.slice oy ny cy)).setCell ⟨w.heap.size + 1, 2, none⟩ (.int .i64 (0)) := ⟨_, rfl⟩
  have hb3 : Box Y (w.heap.size + 1) 81 #[.slice oz nz cz, .slice oy ny cy, .int .i64 (0)] := by rw [hY]; exact (((HX3.out.2.1.set 0 _).set 1 _).set 2 _)
  have own3 : ∀ {v : Value} {j : Nat} {l : List Value}, w3.ownsRow w2.heap.size 3 1 v j l → Y.ownsRow w2.heap.size 3 1 v j l := fun h => by
    rw [hY]
    exact own_st_set (own_st_set (own_st_set h (fun j hj => by have := (h.lt j hj).1; omega)) (fun j hj => by have := (h.lt j hj).1; omega)) (fun j hj => by have := (h.lt j hj).1; omega)
  have hbel : Below w.heap.size w Y := by rw [hY]; exact below_st_set (below_st_set (below_st_set HX3.out.2.2 (Nat.le_succ w.heap.size)) (Nat.le_succ w.heap.size)) (Nat.le_succ w.heap.size)
  have hra := own_mono (own3 HO.out.1) (show w.heap.size ≤ w2.heap.size by omega)
  have hrb := own_mono (own3 HO.out.2) (show w.heap.size ≤ w2.heap.size by omega)
  rw [← hY]
  have y0 := hb3.cell 0 rfl
  have y1 := hb3.cell 1 rfl
  have y2 := hb3.cell 2 rfl
  have HZ := Lib.hid (And.intro hbel (And.intro hra hrb))
  clear hbel hra hrb own3 hb3 hY r0 r1 r2 q0 q1 q2
  refine bodyPost_ret (v := .tuple #[.agg #[.slice oz nz cz, .slice oy ny cy, .int .i64 (0)], .int .i64 0]) (by simp [results, Tryz.results66, go_sem, y0, y1, y2]) rfl ⟨HZ.out.1, _, _, rfl, HZ.out.2.1, HZ.out.2.2⟩
end Go.Proofs.YtipjhdgegfgenaaGreat
