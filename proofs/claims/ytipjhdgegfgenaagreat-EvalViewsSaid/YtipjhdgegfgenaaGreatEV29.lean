/-
  VIEWS of nodes, by the page: ratchetref18.ViewOf of a part.
-/
import Derived.Test.YtipjhdgegfgenaaGreatEV28
set_option linter.unusedVariables false
set_option linter.unusedSimpArgs false
namespace Go.Proofs.YtipjhdgegfgenaaGreat
open Go.RowKit Go.Shelf Go
theorem step_dim : ∀ (sh : List Nat) (y : Nat), (∀ d ∈ sh, 0 < d) → sh.getD y 0 * (stepsN sh).getD y 0 ≤ prodN sh
  | [], y, _ => by simp
  | d :: r, 0, _ => by simp [stepsN, prodN]
  | d :: r, y + 1, h => by
    have h1 := step_dim r y fun x hx => h x (by simp [hx])
    have h0 : prodN r ≤ d * prodN r := Nat.le_mul_of_pos_left _ (h d (by simp))
    simp only [stepsN, prodN, List.getD_cons_succ]
    omega
set_option maxRecDepth 1000000 in
set_option maxHeartbeats 8000000 in
theorem viewOf21 (word : Int) (oa oi o1 o2 o3 o4 : Option Addr) (na ni n1 n2 n3 n4 ca ci c1 c2 c3 c4 : Nat) (v : Value) (sh : List Nat) (il : List Int) (w : World) (hi : Rd w .i64 (.slice oi ni ci) il) (hs : Rd w .i64 v (ints sh)) (hg : shapeB (ints sh) = true) (hil : il.length ≤ 1000) (h3 : il.length = 3) :
    Calls Tryz.prog 49 #[.agg #[.int .i64 21, .slice oa na ca, .slice oi ni ci, .int .i64 word, .slice o1 n1 c1, .slice o2 n2 c2, .slice o3 n3 c3, .slice o4 n4 c4], v] w (SawOut w (viewE21 il sh)) := by
  have HI := Lib.hid hi
  obtain ⟨os, cs, rfl⟩ := rd_slice hs
  obtain ⟨m, hm⟩ : ∃ m, m = (ints sh).length := ⟨_, rfl⟩
  have hm4 : m ≤ 4 := by rw [hm, ints_length]; exact (dims_good hg).2
  have hni : ni = il.length := by obtain ⟨o, cap, he⟩ := rd_slice hi; injection he
  have HNI := Lib.hid hni
  have hn3 : ni = 3 := by omega
  subst hn3
  obtain ⟨bi, fi, hoi, e0⟩ := hi.cell 0 (by omega)
  obtain ⟨bi', fi', hoi1, e1⟩ := hi.cell 1 (by omega)
  subst hoi
  cases hoi1
  obtain ⟨bi', fi', hoi2, e2⟩ := hi.cell 2 (by omega)
  cases hoi2
  rw [Nat.add_zero] at e0
  obtain ⟨a, ha⟩ : ∃ a, a = nth il 0 := ⟨_, rfl⟩
  obtain ⟨fr, hfr⟩ : ∃ a, a = nth il 1 := ⟨_, rfl⟩
  obtain ⟨to_, hto⟩ : ∃ a, a = nth il 2 := ⟨_, rfl⟩
  have HSP := Lib.hid (show viewE21 il sh = (if 0 ≤ a ∧ a < sh.length ∧ 0 ≤ fr ∧ fr < to_ ∧ to_ ≤ (sh.getD a.toNat 0 : Nat) then (ints (sh.set a.toNat (to_.toNat - fr.toNat)), 0) else ([], 2)) by rw [viewE21, ha, hfr, hto])
  rw [← ha] at e0
  rw [← hfr] at e1
  rw [← hto] at e2
  have HE := Lib.hid (And.intro e0 (And.intro e1 e2))
  clear ha hfr hto e0 e1 e2 h3
  have HIL := Lib.hid hil
  rw [← hm] at hs ⊢
  obtain ⟨W, hW⟩ : ∃ W, W = (w.alloc (.cells #[.int .i64 21, .slice oa na ca, .slice (some ⟨bi, fi, none⟩) 3 ci, .int .i64 word, .slice o1 n1 c1, .slice o2 n2 c2, .slice o3 n3 c3, .slice o4 n4 c4] 27)).alloc (.cells #[.slice none 0 0, .slice none 0 0, .int .i64 0] 81) := ⟨_, rfl⟩
  have HX := Lib.hid (two_boxV w _ _ _ _ hW)
  have HW := Lib.hid hW
  have HS := Lib.hid hs
  have HG := Lib.hid hg
  have HM := Lib.hid hm
  clear hm hW hs hg hi hil hni
  go_enter Tryz.func49, Tryz.ntmps49
  go_wp2_with (go_at_call 88; rw [← HW.out]; refine (ref6Of_any _ sh W (HS.out.below HX.out.2.2 (Nat.le_refl _)) (dims_good HG.out)).mono ?_; rintro e w1 ⟨hb1, a, b, rfl, hoa, hob⟩; refine stopHere ?_)
  have HX1 := Lib.hid (two_nextV HX.out hb1)
  obtain ⟨op, cp, hap⟩ := own_slice hoa
  obtain ⟨oq, cq, hbq⟩ := own_slice hob
  subst hap
  subst hbq
  rw [show (ints (stepsN sh)).length = (ints sh).length by rw [ints_length, ints_length, stepsN_length]] at hob ⊢
  rw [← HM.out] at hoa hob ⊢
  obtain ⟨w2, hw2⟩ : ∃ w2, w2 = w1.alloc (.cells #[.slice op m cp, .slice oq m cq, .int .i64 0] 81) := ⟨_, rfl⟩
  have hb2 : Below w1.heap.size w1 w2 := by rw [hw2]; exact (Below.refl _ _).alloc (Nat.le_refl _) _
  have hbx2 : Box w2 w1.heap.size 81 #[.slice op m cp, .slice oq m cq, .int .i64 0] := by rw [hw2]; exact Box.new _ _ _
  have HX2 := Lib.hid (And.intro (two_nextV HX1.out hb2) (And.intro hbx2 (And.intro (Rd.of_own (own_st_next hb2 hoa)) (Rd.of_own (own_st_next hb2 hob)))))
  have HW2 := Lib.hid hw2
  have hlt : w1.heap.size < w2.heap.size := hbx2.lt
  have hgw : w.heap.size + 1 < w1.heap.size := HX1.out.2.1.lt
  have d0 : w2.cell? ⟨w.heap.size, 0, none⟩ = some (.int .i64 21) := HX2.out.1.1.cell 0 rfl
  have d2 : w2.cell? ⟨w.heap.size, 2, none⟩ = some (.slice (some ⟨bi, fi, none⟩) 3 ci) := HX2.out.1.1.cell 2 rfl
  have v0 : w2.cell? ⟨w1.heap.size, 0, none⟩ = some (.slice op m cp) := hbx2.cell 0 rfl
  have v1 : w2.cell? ⟨w1.heap.size, 1, none⟩ = some (.slice oq m cq) := hbx2.cell 1 rfl
  have v2 : w2.cell? ⟨w1.heap.size, 2, none⟩ = some (.int .i64 0) := hbx2.cell 2 rfl
  have q0 := HX2.out.1.2.1.free 0
  have q1 := HX2.out.1.2.1.free 1
  have q2 := HX2.out.1.2.1.free 2
  clear hb1 hoa hob hw2 hb2 hbx2
  refine goOn ?_
  go_upto_region 2 with fail
  rw [← HW2.out]
  have HMS := Lib.hid (show sh.length = m by have := HM.out; rw [ints_length] at this; exact this.symm)
  have e0 := (HX2.out.1.2.2.cell (p := ⟨bi, fi, none⟩) (cell_lt HE.out.1)).trans HE.out.1
  have e1 := (HX2.out.1.2.2.cell (p := ⟨bi, fi + 1, none⟩) (cell_lt HE.out.2.1)).trans HE.out.2.1
  have e2 := (HX2.out.1.2.2.cell (p := ⟨bi, fi + 2, none⟩) (cell_lt HE.out.2.2)).trans HE.out.2.2
  by_cases a1 : a < 0
  case pos =>
    have HNO := Lib.hid (show ¬ (0 ≤ a ∧ a < sh.length ∧ 0 ≤ fr ∧ fr < to_ ∧ to_ ≤ (sh.getD a.toNat 0 : Nat)) by omega)
    have a1 := decide_eq_true a1
    go_wp2_with fail
    go_quiet (fail)
    obtain ⟨w3, hw3⟩ : ∃ w3, w3 = w2.drewN nq := ⟨_, rfl⟩
    have HX3 := Lib.hid (two_nextV HX2.out.1 (show Below w2.heap.size w2 w3 from (show Same w2 w3 from ⟨nq, hw3⟩).below _))
    rw [← hw3]
    clear hw3 d0 d2 v0 v1 v2 q0 q1 q2 e0 e1 e2
    have r0 : w3.cell? ⟨w.heap.size + 1, 0, none⟩ = some (.slice none 0 0) := HX3.out.2.1.cell 0 rfl
    have r1 : w3.cell? ⟨w.heap.size + 1, 1, none⟩ = some (.slice none 0 0) := HX3.out.2.1.cell 1 rfl
    have r2 : w3.cell? ⟨w.heap.size + 1, 2, none⟩ = some (.int .i64 0) := HX3.out.2.1.cell 2 rfl
    have q0 := HX3.out.2.1.free 0
    have q1 := HX3.out.2.1.free 1
    have q2 := HX3.out.2.1.free 2
    go_wp2_with fail
    obtain ⟨Y, hY⟩ : ∃ Y, Y = ((w3.setCell ⟨w.heap.size + 1, 0, none⟩ (.slice none 0 0)).setCell ⟨w.heap.size + 1, 1, none⟩ (.slice none 0 0)).setCell ⟨w.heap.size + 1, 2, none⟩ (.int .i64 0) := ⟨_, rfl⟩
    obtain ⟨y0, y1, y2, hbel, how⟩ := saw_set HX3.out rfl (Nat.le_refl _) (own_nilV _ _) hY
    rw [← hY]
    have HZ := Lib.hid (And.intro hbel how)
    clear hbel how hY
    refine bodyPost_ret (v := .tuple #[.agg #[.slice none 0 0, .slice none 0 0, .int .i64 0], .int .i64 2]) (by simp [results, Tryz.results49, go_sem, y0, y1, y2]) rfl ?_
    rw [HSP.out, if_neg HNO.out]
    exact ⟨HZ.out.1, _, _, _, _, _, rfl, HZ.out.2⟩
  obtain ⟨y, rfl⟩ : ∃ y : Nat, a = y := ⟨a.toNat, by omega⟩
  have a1 : decide ((y : Int) < 0) = false := decide_eq_false (by omega)
  by_cases a2 : (m : Int) ≤ (y : Int)
  case pos =>
    have HNO := Lib.hid (show ¬ (0 ≤ (y : Int) ∧ (y : Int) < sh.length ∧ 0 ≤ fr ∧ fr < to_ ∧ to_ ≤ (sh.getD (y : Int).toNat 0 : Nat)) by rw [HMS.out]; omega)
    have a2b : m ≤ y := by omega
    clear a2
    have a2 : decide (m ≤ y) = true := decide_eq_true a2b
    go_wp2_with fail
    go_quiet (fail)
    obtain ⟨w3, hw3⟩ : ∃ w3, w3 = w2.drewN nq := ⟨_, rfl⟩
    have HX3 := Lib.hid (two_nextV HX2.out.1 (show Below w2.heap.size w2 w3 from (show Same w2 w3 from ⟨nq, hw3⟩).below _))
    rw [← hw3]
    clear hw3 d0 d2 v0 v1 v2 q0 q1 q2 e0 e1 e2
    have r0 : w3.cell? ⟨w.heap.size + 1, 0, none⟩ = some (.slice none 0 0) := HX3.out.2.1.cell 0 rfl
    have r1 : w3.cell? ⟨w.heap.size + 1, 1, none⟩ = some (.slice none 0 0) := HX3.out.2.1.cell 1 rfl
    have r2 : w3.cell? ⟨w.heap.size + 1, 2, none⟩ = some (.int .i64 0) := HX3.out.2.1.cell 2 rfl
    have q0 := HX3.out.2.1.free 0
    have q1 := HX3.out.2.1.free 1
    have q2 := HX3.out.2.1.free 2
    go_wp2_with fail
    obtain ⟨Y, hY⟩ : ∃ Y, Y = ((w3.setCell ⟨w.heap.size + 1, 0, none⟩ (.slice none 0 0)).setCell ⟨w.heap.size + 1, 1, none⟩ (.slice none 0 0)).setCell ⟨w.heap.size + 1, 2, none⟩ (.int .i64 0) := ⟨_, rfl⟩
    obtain ⟨y0, y1, y2, hbel, how⟩ := saw_set HX3.out rfl (Nat.le_refl _) (own_nilV _ _) hY
    rw [← hY]
    have HZ := Lib.hid (And.intro hbel how)
    clear hbel how hY
    refine bodyPost_ret (v := .tuple #[.agg #[.slice none 0 0, .slice none 0 0, .int .i64 0], .int .i64 2]) (by simp [results, Tryz.results49, go_sem, y0, y1, y2]) rfl ?_
    rw [HSP.out, if_neg HNO.out]
    exact ⟨HZ.out.1, _, _, _, _, _, rfl, HZ.out.2⟩
  have hym : y < m := by omega
  have a2 : decide (m ≤ y) = false := decide_eq_false (by omega)
  by_cases a3 : fr < 0
  case pos =>
    have HNO := Lib.hid (show ¬ (0 ≤ (y : Int) ∧ (y : Int) < sh.length ∧ 0 ≤ fr ∧ fr < to_ ∧ to_ ≤ (sh.getD (y : Int).toNat 0 : Nat)) by omega)
    have a3 := decide_eq_true a3
    go_wp2_with fail
    go_quiet (fail)
    obtain ⟨w3, hw3⟩ : ∃ w3, w3 = w2.drewN nq := ⟨_, rfl⟩
    have HX3 := Lib.hid (two_nextV HX2.out.1 (show Below w2.heap.size w2 w3 from (show Same w2 w3 from ⟨nq, hw3⟩).below _))
    rw [← hw3]
    clear hw3 d0 d2 v0 v1 v2 q0 q1 q2 e0 e1 e2
    have r0 : w3.cell? ⟨w.heap.size + 1, 0, none⟩ = some (.slice none 0 0) := HX3.out.2.1.cell 0 rfl
    have r1 : w3.cell? ⟨w.heap.size + 1, 1, none⟩ = some (.slice none 0 0) := HX3.out.2.1.cell 1 rfl
    have r2 : w3.cell? ⟨w.heap.size + 1, 2, none⟩ = some (.int .i64 0) := HX3.out.2.1.cell 2 rfl
    have q0 := HX3.out.2.1.free 0
    have q1 := HX3.out.2.1.free 1
    have q2 := HX3.out.2.1.free 2
    go_wp2_with fail
    obtain ⟨Y, hY⟩ : ∃ Y, Y = ((w3.setCell ⟨w.heap.size + 1, 0, none⟩ (.slice none 0 0)).setCell ⟨w.heap.size + 1, 1, none⟩ (.slice none 0 0)).setCell ⟨w.heap.size + 1, 2, none⟩ (.int .i64 0) := ⟨_, rfl⟩
    obtain ⟨y0, y1, y2, hbel, how⟩ := saw_set HX3.out rfl (Nat.le_refl _) (own_nilV _ _) hY
    rw [← hY]
    have HZ := Lib.hid (And.intro hbel how)
    clear hbel how hY
    refine bodyPost_ret (v := .tuple #[.agg #[.slice none 0 0, .slice none 0 0, .int .i64 0], .int .i64 2]) (by simp [results, Tryz.results49, go_sem, y0, y1, y2]) rfl ?_
    rw [HSP.out, if_neg HNO.out]
    exact ⟨HZ.out.1, _, _, _, _, _, rfl, HZ.out.2⟩
  obtain ⟨f2, rfl⟩ : ∃ y : Nat, fr = y := ⟨fr.toNat, by omega⟩
  have a3 : decide ((f2 : Int) < 0) = false := decide_eq_false (by omega)
  by_cases a4 : to_ ≤ (f2 : Int)
  case pos =>
    have HNO := Lib.hid (show ¬ (0 ≤ (y : Int) ∧ (y : Int) < sh.length ∧ 0 ≤ (f2 : Int) ∧ (f2 : Int) < to_ ∧ to_ ≤ (sh.getD (y : Int).toNat 0 : Nat)) by omega)
    have a4 := decide_eq_true a4
    go_wp2_with fail
    go_quiet (fail)
    obtain ⟨w3, hw3⟩ : ∃ w3, w3 = w2.drewN nq := ⟨_, rfl⟩
    have HX3 := Lib.hid (two_nextV HX2.out.1 (show Below w2.heap.size w2 w3 from (show Same w2 w3 from ⟨nq, hw3⟩).below _))
    rw [← hw3]
    clear hw3 d0 d2 v0 v1 v2 q0 q1 q2 e0 e1 e2
    have r0 : w3.cell? ⟨w.heap.size + 1, 0, none⟩ = some (.slice none 0 0) := HX3.out.2.1.cell 0 rfl
    have r1 : w3.cell? ⟨w.heap.size + 1, 1, none⟩ = some (.slice none 0 0) := HX3.out.2.1.cell 1 rfl
    have r2 : w3.cell? ⟨w.heap.size + 1, 2, none⟩ = some (.int .i64 0) := HX3.out.2.1.cell 2 rfl
    have q0 := HX3.out.2.1.free 0
    have q1 := HX3.out.2.1.free 1
    have q2 := HX3.out.2.1.free 2
    go_wp2_with fail
    obtain ⟨Y, hY⟩ : ∃ Y, Y = ((w3.setCell ⟨w.heap.size + 1, 0, none⟩ (.slice none 0 0)).setCell ⟨w.heap.size + 1, 1, none⟩ (.slice none 0 0)).setCell ⟨w.heap.size + 1, 2, none⟩ (.int .i64 0) := ⟨_, rfl⟩
    obtain ⟨y0, y1, y2, hbel, how⟩ := saw_set HX3.out rfl (Nat.le_refl _) (own_nilV _ _) hY
    rw [← hY]
    have HZ := Lib.hid (And.intro hbel how)
    clear hbel how hY
    refine bodyPost_ret (v := .tuple #[.agg #[.slice none 0 0, .slice none 0 0, .int .i64 0], .int .i64 2]) (by simp [results, Tryz.results49, go_sem, y0, y1, y2]) rfl ?_
    rw [HSP.out, if_neg HNO.out]
    exact ⟨HZ.out.1, _, _, _, _, _, rfl, HZ.out.2⟩
  obtain ⟨t2, rfl⟩ : ∃ y : Nat, to_ = y := ⟨to_.toNat, by omega⟩
  have hft : f2 < t2 := by omega
  have a4 : decide (t2 ≤ f2) = false := decide_eq_false (by omega)
  obtain ⟨bs, fs, hos, es⟩ := HS.out.cell y (by rw [← HM.out]; exact hym)
  subst hos
  have es := (HX2.out.1.2.2.cell (p := ⟨bs, fs + y, none⟩) (cell_lt es)).trans es
  have hsy : y < sh.length := by rw [HMS.out]; exact hym
  rw [ints_get sh y hsy] at es
  obtain ⟨d, hd⟩ : ∃ d, d = sh[y] := ⟨_, rfl⟩
  have hgd : sh.getD y 0 = d := by rw [hd, List.getD_eq_getElem?_getD, List.getElem?_eq_getElem hsy]; rfl
  rw [← hd] at es
  have HD := Lib.hid (And.intro hsy hgd)
  clear hd hgd hsy
  by_cases a5 : (d : Int) < (t2 : Int)
  case pos =>
    have HNO := Lib.hid (show ¬ (0 ≤ (y : Int) ∧ (y : Int) < sh.length ∧ 0 ≤ (f2 : Int) ∧ (f2 : Int) < (t2 : Int) ∧ (t2 : Int) ≤ (sh.getD (y : Int).toNat 0 : Nat)) by rw [Int.toNat_natCast, HD.out.2]; omega)
    have a5b : d < t2 := by omega
    clear a5
    have a5 : decide (d < t2) = true := decide_eq_true a5b
    have hmy : (y : Int) < (m : Int) := by omega
    go_wp2_with fail
    go_quiet (fail)
    obtain ⟨w3, hw3⟩ : ∃ w3, w3 = w2.drewN nq := ⟨_, rfl⟩
    have HX3 := Lib.hid (two_nextV HX2.out.1 (show Below w2.heap.size w2 w3 from (show Same w2 w3 from ⟨nq, hw3⟩).below _))
    rw [← hw3]
    clear hw3 d0 d2 v0 v1 v2 q0 q1 q2 e0 e1 e2 es
    have r0 : w3.cell? ⟨w.heap.size + 1, 0, none⟩ = some (.slice none 0 0) := HX3.out.2.1.cell 0 rfl
    have r1 : w3.cell? ⟨w.heap.size + 1, 1, none⟩ = some (.slice none 0 0) := HX3.out.2.1.cell 1 rfl
    have r2 : w3.cell? ⟨w.heap.size + 1, 2, none⟩ = some (.int .i64 0) := HX3.out.2.1.cell 2 rfl
    have q0 := HX3.out.2.1.free 0
    have q1 := HX3.out.2.1.free 1
    have q2 := HX3.out.2.1.free 2
    go_wp2_with fail
    obtain ⟨Y, hY⟩ : ∃ Y, Y = ((w3.setCell ⟨w.heap.size + 1, 0, none⟩ (.slice none 0 0)).setCell ⟨w.heap.size + 1, 1, none⟩ (.slice none 0 0)).setCell ⟨w.heap.size + 1, 2, none⟩ (.int .i64 0) := ⟨_, rfl⟩
    obtain ⟨y0, y1, y2, hbel, how⟩ := saw_set HX3.out rfl (Nat.le_refl _) (own_nilV _ _) hY
    rw [← hY]
    have HZ := Lib.hid (And.intro hbel how)
    clear hbel how hY
    refine bodyPost_ret (v := .tuple #[.agg #[.slice none 0 0, .slice none 0 0, .int .i64 0], .int .i64 2]) (by simp [results, Tryz.results49, go_sem, y0, y1, y2]) rfl ?_
    rw [HSP.out, if_neg HNO.out]
    exact ⟨HZ.out.1, _, _, _, _, _, rfl, HZ.out.2⟩
  have htd : t2 ≤ d := by omega
  have a5 : decide (d < t2) = false := decide_eq_false (by omega)
  have HYES := Lib.hid (show 0 ≤ (y : Int) ∧ (y : Int) < sh.length ∧ 0 ≤ (f2 : Int) ∧ (f2 : Int) < (t2 : Int) ∧ (t2 : Int) ≤ (sh.getD (y : Int).toNat 0 : Nat) by rw [Int.toNat_natCast, HD.out.2, HMS.out]; omega)
  have hmy : (y : Int) < (m : Int) := by omega
  go_wp2_with fail
  go_quiet (fail)
  obtain ⟨w3, hw3⟩ : ∃ w3, w3 = w2.drewN nq := ⟨_, rfl⟩
  have hsm : Same w2 w3 := ⟨nq, hw3⟩
  have HX3 := Lib.hid (And.intro (two_nextV HX2.out.1 (hsm.below _)) (And.intro (HX2.out.2.1.same hsm) (And.intro (HX2.out.2.2.1.below (hsm.below _) (Nat.le_refl _)) (HX2.out.2.2.2.below (hsm.below _) (Nat.le_refl _)))))
  rw [← hw3]
  clear hw3 hsm d0 d2 v0 v1 v2 q0 q1 q2 e0 e1 e2 es a1 a2 a3 a4 a5
  have d2 : w3.cell? ⟨w.heap.size, 2, none⟩ = some (.slice (some ⟨bi, fi, none⟩) 3 ci) := HX3.out.1.1.cell 2 rfl
  have v0 : w3.cell? ⟨w1.heap.size, 0, none⟩ = some (.slice op m cp) := HX3.out.2.1.cell 0 rfl
  have v1 : w3.cell? ⟨w1.heap.size, 1, none⟩ = some (.slice oq m cq) := HX3.out.2.1.cell 1 rfl
  have v2 : w3.cell? ⟨w1.heap.size, 2, none⟩ = some (.int .i64 0) := HX3.out.2.1.cell 2 rfl
  have e1 := (HX3.out.1.2.2.cell (p := ⟨bi, fi + 1, none⟩) (cell_lt HE.out.2.1)).trans HE.out.2.1
  have e2 := (HX3.out.1.2.2.cell (p := ⟨bi, fi + 2, none⟩) (cell_lt HE.out.2.2)).trans HE.out.2.2
  obtain ⟨off, hoff⟩ : ∃ off, off = ((0 + f2 * (stepsN sh).getD y 0 : Nat) : Int) := ⟨_, rfl⟩
  have HOFF := Lib.hid hoff
  clear hoff
  have HT := Lib.hid (show ∀ X, Same w3 X → Calls Tryz.prog 91 #[.agg #[.slice op m cp, .slice oq m cq, .int .i64 0], .int .i64 y, .int .i64 f2, .int .i64 t2] X (ViewOut X (ints (sh.set y (t2 - f2))) (ints (stepsN sh)) off) from fun X hX => by
    rw [HOFF.out]
    exact ref6Slice_any (.slice op m cp) (.slice oq m cq) sh (stepsN sh) 0 y f2 t2 X (HX3.out.2.2.1.below (hX.below _) (Nat.le_refl _)) (HX3.out.2.2.2.below (hX.below _) (Nat.le_refl _)) (plain_view HG.out (prod_good HG.out) (Nat.le_refl _)) HD.out.1 hft (by rw [HD.out.2]; exact htd) (by
      have h1 := step_dim sh y fun x hx => ((dims_good HG.out).1 x hx).1
      have h2 := prod_good HG.out
      have h3 : f2 * (stepsN sh).getD y 0 ≤ sh.getD y 0 * (stepsN sh).getD y 0 := Nat.mul_le_mul_right _ (by rw [HD.out.2]; omega)
      omega))
  go_wp2_with fail
  go_still_tail 10, (by kernel_rfl)
  change wpList _ _ _ _ _ w3.drew
  generalize hw4 : w3.drew = w4
  have hsm : Same w3 w4 := ⟨1, by rw [← hw4]; rfl⟩
  have HX4 := Lib.hid (two_nextV HX3.out.1 (hsm.below _))
  have HT4 := Lib.hid (HT.out w4 hsm)
  clear hw4 hsm d2 v0 v1 v2 e1 e2 HT
  have r0 : w4.cell? ⟨w.heap.size + 1, 0, none⟩ = some (.slice none 0 0) := HX4.out.2.1.cell 0 rfl
  have hlt4 : w.heap.size + 1 < w4.heap.size := HX4.out.2.1.lt
  go_wp2_with (go_at_call 91; refine HT4.out.mono ?_; rintro e w6 ⟨hb6, a3, b3, rfl, hoa3, hob3⟩; refine stopHere ?_)
  have HX6 := Lib.hid (And.intro (two_nextV HX4.out hb6) (show w.heap.size + 2 ≤ w4.heap.size by omega))
  obtain ⟨oz, cz, hzz⟩ := own_slice hoa3
  obtain ⟨oy, cy, hyy⟩ := own_slice hob3
  subst hzz
  subst hyy
  obtain ⟨nz, hnz⟩ : ∃ nz, nz = (ints (sh.set y (t2 - f2))).length := ⟨_, rfl⟩
  obtain ⟨ny, hny⟩ : ∃ ny, ny = (ints (stepsN sh)).length := ⟨_, rfl⟩
  rw [← hnz] at hoa3 ⊢
  rw [← hny] at ⊢
  have HO := Lib.hid hoa3
  clear hb6 hoa3 hob3 hnz hny r0
  have r0 : w6.cell? ⟨w.heap.size + 1, 0, none⟩ = some (.slice none 0 0) := HX6.out.1.2.1.cell 0 rfl
  have r1 : w6.cell? ⟨w.heap.size + 1, 1, none⟩ = some (.slice none 0 0) := HX6.out.1.2.1.cell 1 rfl
  have r2 : w6.cell? ⟨w.heap.size + 1, 2, none⟩ = some (.int .i64 0) := HX6.out.1.2.1.cell 2 rfl
  have q0 := HX6.out.1.2.1.free 0
  have q1 := HX6.out.1.2.1.free 1
  have q2 := HX6.out.1.2.1.free 2
  have HSQ := Lib.hid (show viewE21 il sh = (ints (sh.set y (t2 - f2)), 0) by rw [HSP.out, if_pos HYES.out]; rfl)
  refine goOn ?_
  go_wp2_with fail
  obtain ⟨Y, hY⟩ : ∃ Y, Y = ((w6.setCell ⟨w.heap.size + 1, 0, none⟩ (.slice oz nz cz)).setCell ⟨w.heap.size + 1, 1, none⟩ (.slice oy ny cy)).setCell ⟨w.heap.size + 1, 2, none⟩ (.int .i64 (off)) := ⟨_, rfl⟩
  obtain ⟨y0, y1, y2, hbel, how⟩ := saw_set HX6.out.1 rfl HX6.out.2 (HO.out) hY
  rw [← hY]
  have HZ := Lib.hid (And.intro hbel how)
  clear hbel how hY
  refine bodyPost_ret (v := .tuple #[.agg #[.slice oz nz cz, .slice oy ny cy, .int .i64 (off)], .int .i64 0]) (by simp [results, Tryz.results49, go_sem, y0, y1, y2]) rfl ?_
  rw [HSQ.out]
  exact ⟨HZ.out.1, _, _, _, _, _, rfl, HZ.out.2⟩
end Go.Proofs.YtipjhdgegfgenaaGreat
