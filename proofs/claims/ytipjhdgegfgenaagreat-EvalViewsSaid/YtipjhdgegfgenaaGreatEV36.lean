/-
  A VALUE's SHAPE, by the page, only that it is told: ratchetref18.Shape.
-/
import Derived.Test.YtipjhdgegfgenaaGreatEV29
import Derived.Test.YtipjhdgegfgenaaGreatEV33
import Derived.Test.YtipjhdgegfgenaaGreatEV34
import Derived.Test.YtipjhdgegfgenaaGreatEV35
set_option linter.unusedVariables false
set_option linter.unusedSimpArgs false
namespace Go.Proofs.YtipjhdgegfgenaaGreat
open Go.RowKit Go.Shelf Go
/-- the slice at this place is a shape, read -/
structure ShAt (w : World) (b off : Nat) (o : Option Addr) (n c : Nat) (x : List Nat) : Prop where
  cell : w.cell? ⟨b, off, none⟩ = some (.slice o n c)
  rd : Rd w .i64 (.slice o n c) (ints x)
  cap : n ≤ c
  good : shapeB (ints x) = true
theorem ShAt.below {w w' : World} {b off n c : Nat} {o : Option Addr} {x : List Nat} (h : ShAt w b off o n c x) (hb : Below w.heap.size w w') : ShAt w' b off o n c x :=
  ⟨(hb.cell (p := ⟨b, off, none⟩) (cell_lt h.cell)).trans h.cell, h.rd.below hb (Nat.le_refl _), h.cap, h.good⟩
theorem ShAt.len {w : World} {b off n c : Nat} {o : Option Addr} {x : List Nat} (h : ShAt w b off o n c x) : n = (ints x).length ∧ n ≤ 4 := by
  obtain ⟨o', c', he⟩ := rd_slice h.rd
  injection he with e1 e2 e3
  exact ⟨e2, by rw [e2, ints_length]; exact (dims_good h.good).2⟩
theorem ShOut.no {w w' : World} (k : Int) (h : Below w.heap.size w w') {n : Nat} : ShOut w n (.returned (.tuple #[.slice none 0 0, .int .i64 k])) w' := ⟨h, _, [], k, rfl, World.ownsRow_nil _ _ _ _, by simp⟩
theorem keep2S {w2 W : World} {a0 a1 : Addr} {v0 v1 : Value} (hc : w2.cell? a0 = some v0 ∧ w2.cell? a1 = some v1) (h : Below w2.heap.size w2 W) : W.cell? a0 = some v0 ∧ W.cell? a1 = some v1 :=
  ⟨(h.cell (World.block_lt_of_cell? w2 a0 hc.1)).trans hc.1, (h.cell (World.block_lt_of_cell? w2 a1 hc.2)).trans hc.2⟩
theorem ShOut.up {w W : World} {n : Nat} (hb : Below w.heap.size w W) (hn : n ≤ 1000) {e : Ending} {w' : World} (h : ShOut W n e w') : ShOut w 1000 e w' := by
  obtain ⟨h1, v, ys, k, rfl, h2, h3⟩ := h
  exact ⟨hb.trans (h1.mono hb.size), v, ys, k, rfl, own_mono h2 hb.size, by omega⟩
theorem ShOut.lift {w W X : World} {n : Nat} (h1 : Below w.heap.size w W) (h2 : Below W.heap.size W X) (hn : n ≤ 1000) {e : Ending} {w' : World} (h : ShOut X n e w') : ShOut w 1000 e w' ∧ Below W.heap.size W w' :=
  ⟨ShOut.up (h1.trans (h2.mono h1.size)) hn h, h2.trans (h.1.mono h2.size)⟩
set_option maxRecDepth 1000000 in
set_option maxHeartbeats 8000000 in
theorem shape_two (op word : Int) (oa oi o1 o2 o3 o4 p0 p1 : Option Addr) (na ni n1 n2 n3 n4 ca ci c1 c2 c3 c4 bl fl nl cl m0 k0 m1 k1 : Nat) (il : List Int) (x0 x1 : List Nat) (w : World) (hi : Rd w .i64 (.slice oi ni ci) il) (hil : il.length ≤ 1000) (h0 : ShAt w bl fl p0 m0 k0 x0) (h1 : ShAt w bl (fl + 1) p1 m1 k1 x1) (hnl : 1 < nl) (hop : op = 3 ∨ op = 4 ∨ op = 5 ∨ op = 6) :
    Calls Tryz.prog 27 #[.agg #[.int .i64 op, .slice oa na ca, .slice oi ni ci, .int .i64 word, .slice o1 n1 c1, .slice o2 n2 c2, .slice o3 n3 c3, .slice o4 n4 c4], .slice (some ⟨bl, fl, none⟩) nl cl] w (ShOut w 1000) := by
  have HI := Lib.hid hi
  have HIL := Lib.hid hil
  have HNI := Lib.hid (show ni = il.length by obtain ⟨o, cap, he⟩ := rd_slice hi; injection he)
  have hni : ni ≤ 1000 := by have := HNI.out; omega
  obtain ⟨hm0, hm0b⟩ := h0.len
  have HM0 := Lib.hid hm0
  obtain ⟨W, hW⟩ : ∃ W, W = w.alloc (.cells #[.int .i64 op, .slice oa na ca, .slice oi ni ci, .int .i64 word, .slice o1 n1 c1, .slice o2 n2 c2, .slice o3 n3 c3, .slice o4 n4 c4] 27) := ⟨_, rfl⟩
  have hB : Below w.heap.size w W := by rw [hW]; exact (Below.refl _ _).alloc (Nat.le_refl _) _
  have hbx : Box W w.heap.size 27 #[.int .i64 op, .slice oa na ca, .slice oi ni ci, .int .i64 word, .slice o1 n1 c1, .slice o2 n2 c2, .slice o3 n3 c3, .slice o4 n4 c4] := by rw [hW]; exact Box.new _ _ _
  have HX := Lib.hid (And.intro hB hbx)
  have HW := Lib.hid hW
  have H0 := Lib.hid (h0.below hB)
  have s0 := H0.out.cell
  obtain ⟨hm1, hm1b⟩ := h1.len
  have HM1 := Lib.hid hm1
  have H1 := Lib.hid (h1.below hB)
  have s1 := H1.out.cell
  clear h1 hm1
  have d0 : W.cell? ⟨w.heap.size, 0, none⟩ = some (.int .i64 op) := hbx.cell 0 rfl
  have d2 : W.cell? ⟨w.heap.size, 2, none⟩ = some (.slice oi ni ci) := hbx.cell 2 rfl
  have d3 : W.cell? ⟨w.heap.size, 3, none⟩ = some (.int .i64 word) := hbx.cell 3 rfl
  have hnl0 : 0 < nl := by omega
  have hnl1 : (1 : Int) < (nl : Int) := by omega
  clear hi hil h0 hm0 hW hB hbx
  rcases hop with rfl | rfl | rfl | rfl
  all_goals
    go_enter Tryz.func27, Tryz.ntmps27
    go_upto_region 2 with fail
    rw [← HW.out]
    clear HW
    go_wp2_with fail
    have HT := Lib.hid (show ∀ X, Below W.heap.size W X → Calls Tryz.prog 46 #[.slice p0 m0 k0, .slice p1 m1 k1] X (fun e w9 => ShOut w 1000 e w9 ∧ Below W.heap.size W w9) from fun X hX => (ref6Spread_any _ _ (ints x0) (ints x1) X (H0.out.below hX).rd (H1.out.below hX).rd (by have := HM0.out; omega) (by have := HM1.out; omega)).mono fun e w9 h9 => ShOut.lift HX.out.1 hX (by first | omega | (have := HM0.out; omega)) h9)
    have HC := Lib.hid (show W.cell? ⟨bl, fl, none⟩ = some (.slice p0 m0 k0) ∧ W.cell? ⟨bl, fl + 1, none⟩ = some (.slice p1 m1 k1) from ⟨s0, s1⟩)
    have HXW := Lib.hid (Below.refl W.heap.size W)
    go_region_held3 (fun w' => w'.cell? ⟨bl, fl, none⟩ = some (.slice p0 m0 k0) ∧ w'.cell? ⟨bl, fl + 1, none⟩ = some (.slice p1 m1 k1)) ((refine keep2S HC.out ?_; exact (by repeat (first | with_reducible exact HXW.out | with_reducible exact Below.refl _ _ | with_reducible refine Below.drew ?_)))) ((first | (go_at_call 46; refine (HT.out _ (by repeat (first | with_reducible exact HXW.out | with_reducible exact Below.refl _ _ | with_reducible refine Below.drew ?_))).mono ?_; rintro e w9 ⟨h9, hb9⟩; have HEND := Lib.hid h9; obtain ⟨_, v9, ys, k9, rfl, ho9, _⟩ := h9; obtain ⟨o9, c9, rfl⟩ := own_slice ho9; clear ho9; generalize ys.length = ny at HEND ⊢; have HXW := Lib.hid hb9; clear hb9)))
    go_wp2_with fail
    refine bodyPost_ret (v := .tuple #[.slice o9 ny c9, .int .i64 k9]) (by simp [results, Tryz.results27, go_sem]) rfl HEND.out
set_option maxRecDepth 1000000 in
set_option maxHeartbeats 8000000 in
theorem shape_fold (op word : Int) (oa oi o1 o2 o3 o4 p0 : Option Addr) (na ni n1 n2 n3 n4 ca ci c1 c2 c3 c4 bl fl nl cl m0 k0 : Nat) (il : List Int) (x0 : List Nat) (w : World) (hi : Rd w .i64 (.slice oi ni ci) il) (hil : il.length ≤ 1000) (h0 : ShAt w bl fl p0 m0 k0 x0) (hnl : 0 < nl) (hop : op = 16 ∨ op = 17 ∨ op = 18) :
    Calls Tryz.prog 27 #[.agg #[.int .i64 op, .slice oa na ca, .slice oi ni ci, .int .i64 word, .slice o1 n1 c1, .slice o2 n2 c2, .slice o3 n3 c3, .slice o4 n4 c4], .slice (some ⟨bl, fl, none⟩) nl cl] w (ShOut w 1000) := by
  have HI := Lib.hid hi
  have HIL := Lib.hid hil
  have HNI := Lib.hid (show ni = il.length by obtain ⟨o, cap, he⟩ := rd_slice hi; injection he)
  have hni : ni ≤ 1000 := by have := HNI.out; omega
  obtain ⟨hm0, hm0b⟩ := h0.len
  have HM0 := Lib.hid hm0
  obtain ⟨W, hW⟩ : ∃ W, W = w.alloc (.cells #[.int .i64 op, .slice oa na ca, .slice oi ni ci, .int .i64 word, .slice o1 n1 c1, .slice o2 n2 c2, .slice o3 n3 c3, .slice o4 n4 c4] 27) := ⟨_, rfl⟩
  have hB : Below w.heap.size w W := by rw [hW]; exact (Below.refl _ _).alloc (Nat.le_refl _) _
  have hbx : Box W w.heap.size 27 #[.int .i64 op, .slice oa na ca, .slice oi ni ci, .int .i64 word, .slice o1 n1 c1, .slice o2 n2 c2, .slice o3 n3 c3, .slice o4 n4 c4] := by rw [hW]; exact Box.new _ _ _
  have HX := Lib.hid (And.intro hB hbx)
  have HW := Lib.hid hW
  have H0 := Lib.hid (h0.below hB)
  have s0 := H0.out.cell
  have d0 : W.cell? ⟨w.heap.size, 0, none⟩ = some (.int .i64 op) := hbx.cell 0 rfl
  have d2 : W.cell? ⟨w.heap.size, 2, none⟩ = some (.slice oi ni ci) := hbx.cell 2 rfl
  have d3 : W.cell? ⟨w.heap.size, 3, none⟩ = some (.int .i64 word) := hbx.cell 3 rfl
  have hnl0 : 0 < nl := by omega
  clear hi hil h0 hm0 hW hB hbx
  rcases hop with rfl | rfl | rfl
  all_goals
    go_enter Tryz.func27, Tryz.ntmps27
    go_upto_region 2 with fail
    rw [← HW.out]
    clear HW
    go_wp2_with fail
    go_still_tail 6, (by kernel_rfl)
    change wpList _ _ _ _ _ W.drew
    generalize hw4 : W.drew = w4
    have hsm : Same W w4 := ⟨1, by rw [← hw4]; rfl⟩
    have HX4 := Lib.hid (And.intro (HX.out.1.trans (hsm.below _)) (HX.out.2.same hsm))
    have H4 := Lib.hid (H0.out.below (hsm.below _))
    clear hw4 hsm d0 d2 d3 s0
    go_wp2_with (go_at_call 47; refine (ref8Axes_any _ il m0 w4 (HI.out.below HX4.out.1 (Nat.le_refl _)) (by have := HIL.out; omega)).mono ?_; rintro e w5 ⟨⟨b, rfl, _⟩, hsm⟩; refine stopHere ?_)
    have HX5 := Lib.hid (And.intro (HX4.out.1.trans (hsm.below _)) (HX4.out.2.same hsm))
    have H5 := Lib.hid (H4.out.below (hsm.below _))
    have s0 := H5.out.cell
    have d2 : w5.cell? ⟨w.heap.size, 2, none⟩ = some (.slice oi ni ci) := HX5.out.2.cell 2 rfl
    clear hsm
    refine goOn ?_
    cases b with
    | false =>
      go_wp2_with fail
      refine bodyPost_ret (v := .tuple #[.slice none 0 0, .int .i64 2]) (by simp [results, Tryz.results27, go_sem]) rfl (ShOut.no _ HX5.out.1)
    | true =>
      go_wp2_with fail
      go_still_tail 5, (by kernel_rfl)
      change wpList _ _ _ _ _ w5.drew
      generalize hw4 : w5.drew = w6
      have hsm : Same w5 w6 := ⟨1, by rw [← hw4]; rfl⟩
      have HX6 := Lib.hid (And.intro (HX5.out.1.trans (hsm.below _)) (HX5.out.2.same hsm))
      have H6 := Lib.hid (H5.out.below (hsm.below _))
      clear hw4 hsm s0 d2
      go_wp2_with (go_at_call 48; refine (ref8Left_any _ _ (ints x0) il w6 H6.out.rd (HI.out.below HX6.out.1 (Nat.le_refl _)) (by have := HM0.out; omega) (by have := HIL.out; omega)).mono ?_; rintro e w9 ⟨hb9, v9, ys, rfl, ho9, hl9⟩; have HEND := Lib.hid (show ShOut w 1000 (.returned (.tuple #[v9, .int .i64 0])) w9 from ⟨HX6.out.1.trans (hb9.mono HX6.out.1.size), _, _, _, rfl, own_mono ho9 HX6.out.1.size, (by have := HM0.out; omega)⟩); obtain ⟨o9, c9, rfl⟩ := own_slice ho9; clear ho9 hb9; generalize List.length _ = ny at HEND ⊢; refine stopHere ?_)
      refine goOn ?_
      go_wp2_with fail
      refine bodyPost_ret (v := .tuple #[.slice o9 ny c9, .int .i64 0]) (by simp [results, Tryz.results27, go_sem]) rfl HEND.out
set_option maxRecDepth 1000000 in
set_option maxHeartbeats 8000000 in
theorem shape_mul (op word : Int) (oa oi o1 o2 o3 o4 p0 p1 : Option Addr) (na ni n1 n2 n3 n4 ca ci c1 c2 c3 c4 bl fl nl cl m0 k0 m1 k1 : Nat) (il : List Int) (x0 x1 : List Nat) (w : World) (hi : Rd w .i64 (.slice oi ni ci) il) (hil : il.length ≤ 1000) (h0 : ShAt w bl fl p0 m0 k0 x0) (h1 : ShAt w bl (fl + 1) p1 m1 k1 x1) (hnl : 1 < nl) (hop : op = 22) :
    Calls Tryz.prog 27 #[.agg #[.int .i64 op, .slice oa na ca, .slice oi ni ci, .int .i64 word, .slice o1 n1 c1, .slice o2 n2 c2, .slice o3 n3 c3, .slice o4 n4 c4], .slice (some ⟨bl, fl, none⟩) nl cl] w (ShOut w 1000) := by
  have HI := Lib.hid hi
  have HIL := Lib.hid hil
  have HNI := Lib.hid (show ni = il.length by obtain ⟨o, cap, he⟩ := rd_slice hi; injection he)
  have hni : ni ≤ 1000 := by have := HNI.out; omega
  obtain ⟨hm0, hm0b⟩ := h0.len
  have HM0 := Lib.hid hm0
  obtain ⟨W, hW⟩ : ∃ W, W = w.alloc (.cells #[.int .i64 op, .slice oa na ca, .slice oi ni ci, .int .i64 word, .slice o1 n1 c1, .slice o2 n2 c2, .slice o3 n3 c3, .slice o4 n4 c4] 27) := ⟨_, rfl⟩
  have hB : Below w.heap.size w W := by rw [hW]; exact (Below.refl _ _).alloc (Nat.le_refl _) _
  have hbx : Box W w.heap.size 27 #[.int .i64 op, .slice oa na ca, .slice oi ni ci, .int .i64 word, .slice o1 n1 c1, .slice o2 n2 c2, .slice o3 n3 c3, .slice o4 n4 c4] := by rw [hW]; exact Box.new _ _ _
  have HX := Lib.hid (And.intro hB hbx)
  have HW := Lib.hid hW
  have H0 := Lib.hid (h0.below hB)
  have s0 := H0.out.cell
  obtain ⟨hm1, hm1b⟩ := h1.len
  have HM1 := Lib.hid hm1
  have H1 := Lib.hid (h1.below hB)
  have s1 := H1.out.cell
  clear h1 hm1
  have d0 : W.cell? ⟨w.heap.size, 0, none⟩ = some (.int .i64 op) := hbx.cell 0 rfl
  have d2 : W.cell? ⟨w.heap.size, 2, none⟩ = some (.slice oi ni ci) := hbx.cell 2 rfl
  have d3 : W.cell? ⟨w.heap.size, 3, none⟩ = some (.int .i64 word) := hbx.cell 3 rfl
  have hnl0 : 0 < nl := by omega
  have hnl1 : (1 : Int) < (nl : Int) := by omega
  clear hi hil h0 hm0 hW hB hbx
  subst hop
  go_enter Tryz.func27, Tryz.ntmps27
  go_upto_region 2 with fail
  rw [← HW.out]
  clear HW
  go_wp2_with fail
  have HMS := Lib.hid (show ∀ X, Below W.heap.size W X → Calls Tryz.prog 50 #[.slice p0 m0 k0, .slice p1 m1 k1] X (ShOut X (ints x0).length) from fun X hX => by
    have := mulShape_any (.slice p1 m1 k1) p0 k0 (ints x0) (ints x1) X (by rw [← HM0.out]; exact (H0.out.below hX).rd) (by rw [← HM0.out]; exact (H0.out.below hX).cap) (H1.out.below hX).rd (by have := HM0.out; omega) (by have := HM1.out; omega)
    rw [← HM0.out] at this ⊢
    exact this)
  have HT := Lib.hid (show ∀ X, Below W.heap.size W X → Calls Tryz.prog 50 #[.slice p0 m0 k0, .slice p1 m1 k1] X (fun e w9 => ShOut w 1000 e w9 ∧ Below W.heap.size W w9) from fun X hX => (HMS.out X hX).mono fun e w9 h9 => ShOut.lift HX.out.1 hX (by first | omega | (have := HM0.out; omega)) h9)
  have HC := Lib.hid (show W.cell? ⟨bl, fl, none⟩ = some (.slice p0 m0 k0) ∧ W.cell? ⟨bl, fl + 1, none⟩ = some (.slice p1 m1 k1) from ⟨s0, s1⟩)
  have HXW := Lib.hid (Below.refl W.heap.size W)
  go_region_held3 (fun w' => w'.cell? ⟨bl, fl, none⟩ = some (.slice p0 m0 k0) ∧ w'.cell? ⟨bl, fl + 1, none⟩ = some (.slice p1 m1 k1)) ((refine keep2S HC.out ?_; exact (by repeat (first | with_reducible exact HXW.out | with_reducible exact Below.refl _ _ | with_reducible refine Below.drew ?_)))) ((first | (go_at_call 50; refine (HT.out _ (by repeat (first | with_reducible exact HXW.out | with_reducible exact Below.refl _ _ | with_reducible refine Below.drew ?_))).mono ?_; rintro e w9 ⟨h9, hb9⟩; have HEND := Lib.hid h9; obtain ⟨_, v9, ys, k9, rfl, ho9, _⟩ := h9; obtain ⟨o9, c9, rfl⟩ := own_slice ho9; clear ho9; generalize ys.length = ny at HEND ⊢; have HXW := Lib.hid hb9; clear hb9)))
  go_wp2_with fail
  refine bodyPost_ret (v := .tuple #[.slice o9 ny c9, .int .i64 k9]) (by simp [results, Tryz.results27, go_sem]) rfl HEND.out
set_option maxRecDepth 1000000 in
set_option maxHeartbeats 8000000 in
theorem shape_embed (op word : Int) (oa oi o1 o2 o3 o4 p0 : Option Addr) (na ni n1 n2 n3 n4 ca ci c1 c2 c3 c4 bl fl nl cl m0 k0 : Nat) (il : List Int) (x0 : List Nat) (w : World) (hi : Rd w .i64 (.slice oi ni ci) il) (hil : il.length ≤ 1000) (h0 : ShAt w bl fl p0 m0 k0 x0) (hnl : 0 < nl) (hop : op = 29) :
    Calls Tryz.prog 27 #[.agg #[.int .i64 op, .slice oa na ca, .slice oi ni ci, .int .i64 word, .slice o1 n1 c1, .slice o2 n2 c2, .slice o3 n3 c3, .slice o4 n4 c4], .slice (some ⟨bl, fl, none⟩) nl cl] w (ShOut w 1000) := by
  have HI := Lib.hid hi
  have HIL := Lib.hid hil
  have HNI := Lib.hid (show ni = il.length by obtain ⟨o, cap, he⟩ := rd_slice hi; injection he)
  have hni : ni ≤ 1000 := by have := HNI.out; omega
  obtain ⟨hm0, hm0b⟩ := h0.len
  have HM0 := Lib.hid hm0
  obtain ⟨W, hW⟩ : ∃ W, W = w.alloc (.cells #[.int .i64 op, .slice oa na ca, .slice oi ni ci, .int .i64 word, .slice o1 n1 c1, .slice o2 n2 c2, .slice o3 n3 c3, .slice o4 n4 c4] 27) := ⟨_, rfl⟩
  have hB : Below w.heap.size w W := by rw [hW]; exact (Below.refl _ _).alloc (Nat.le_refl _) _
  have hbx : Box W w.heap.size 27 #[.int .i64 op, .slice oa na ca, .slice oi ni ci, .int .i64 word, .slice o1 n1 c1, .slice o2 n2 c2, .slice o3 n3 c3, .slice o4 n4 c4] := by rw [hW]; exact Box.new _ _ _
  have HX := Lib.hid (And.intro hB hbx)
  have HW := Lib.hid hW
  have H0 := Lib.hid (h0.below hB)
  have s0 := H0.out.cell
  have d0 : W.cell? ⟨w.heap.size, 0, none⟩ = some (.int .i64 op) := hbx.cell 0 rfl
  have d2 : W.cell? ⟨w.heap.size, 2, none⟩ = some (.slice oi ni ci) := hbx.cell 2 rfl
  have d3 : W.cell? ⟨w.heap.size, 3, none⟩ = some (.int .i64 word) := hbx.cell 3 rfl
  have hnl0 : 0 < nl := by omega
  clear hi hil h0 hm0 hW hB hbx
  subst hop
  go_enter Tryz.func27, Tryz.ntmps27
  go_upto_region 2 with fail
  rw [← HW.out]
  clear HW
  go_wp2_with fail
  have HT := Lib.hid (show ∀ X, Below W.heap.size W X → Calls Tryz.prog 54 #[.slice p0 m0 k0, .slice oi ni ci] X (fun e w9 => ShOut w 1000 e w9 ∧ Below W.heap.size W w9) from fun X hX => (rowsShape_any _ _ (ints x0) il X (H0.out.below hX).rd (HI.out.below (HX.out.1.trans (hX.mono HX.out.1.size)) (Nat.le_refl _)) (by have := HM0.out; omega) (by have := HIL.out; omega)).mono fun e w9 h9 => ShOut.lift HX.out.1 hX (by first | omega | (have := HM0.out; omega)) h9)
  have HC := Lib.hid (show W.cell? ⟨bl, fl, none⟩ = some (.slice p0 m0 k0) ∧ W.cell? ⟨w.heap.size, 2, none⟩ = some (.slice oi ni ci) from ⟨s0, d2⟩)
  have HXW := Lib.hid (Below.refl W.heap.size W)
  go_region_held3 (fun w' => w'.cell? ⟨bl, fl, none⟩ = some (.slice p0 m0 k0) ∧ w'.cell? ⟨w.heap.size, 2, none⟩ = some (.slice oi ni ci)) ((refine keep2S HC.out ?_; exact (by repeat (first | with_reducible exact HXW.out | with_reducible exact Below.refl _ _ | with_reducible refine Below.drew ?_)))) ((first | (go_at_call 54; refine (HT.out _ (by repeat (first | with_reducible exact HXW.out | with_reducible exact Below.refl _ _ | with_reducible refine Below.drew ?_))).mono ?_; rintro e w9 ⟨h9, hb9⟩; have HEND := Lib.hid h9; obtain ⟨_, v9, ys, k9, rfl, ho9, _⟩ := h9; obtain ⟨o9, c9, rfl⟩ := own_slice ho9; clear ho9; generalize ys.length = ny at HEND ⊢; have HXW := Lib.hid hb9; clear hb9)))
  go_wp2_with fail
  refine bodyPost_ret (v := .tuple #[.slice o9 ny c9, .int .i64 k9]) (by simp [results, Tryz.results27, go_sem]) rfl HEND.out
set_option maxRecDepth 1000000 in
set_option maxHeartbeats 8000000 in
theorem shape_xent (op word : Int) (oa oi o1 o2 o3 o4 p0 : Option Addr) (na ni n1 n2 n3 n4 ca ci c1 c2 c3 c4 bl fl nl cl m0 k0 : Nat) (il : List Int) (x0 : List Nat) (w : World) (hi : Rd w .i64 (.slice oi ni ci) il) (hil : il.length ≤ 1000) (h0 : ShAt w bl fl p0 m0 k0 x0) (hnl : 0 < nl) (hop : op = 31) :
    Calls Tryz.prog 27 #[.agg #[.int .i64 op, .slice oa na ca, .slice oi ni ci, .int .i64 word, .slice o1 n1 c1, .slice o2 n2 c2, .slice o3 n3 c3, .slice o4 n4 c4], .slice (some ⟨bl, fl, none⟩) nl cl] w (ShOut w 1000) := by
  have HI := Lib.hid hi
  have HIL := Lib.hid hil
  have HNI := Lib.hid (show ni = il.length by obtain ⟨o, cap, he⟩ := rd_slice hi; injection he)
  have hni : ni ≤ 1000 := by have := HNI.out; omega
  obtain ⟨hm0, hm0b⟩ := h0.len
  have HM0 := Lib.hid hm0
  obtain ⟨W, hW⟩ : ∃ W, W = w.alloc (.cells #[.int .i64 op, .slice oa na ca, .slice oi ni ci, .int .i64 word, .slice o1 n1 c1, .slice o2 n2 c2, .slice o3 n3 c3, .slice o4 n4 c4] 27) := ⟨_, rfl⟩
  have hB : Below w.heap.size w W := by rw [hW]; exact (Below.refl _ _).alloc (Nat.le_refl _) _
  have hbx : Box W w.heap.size 27 #[.int .i64 op, .slice oa na ca, .slice oi ni ci, .int .i64 word, .slice o1 n1 c1, .slice o2 n2 c2, .slice o3 n3 c3, .slice o4 n4 c4] := by rw [hW]; exact Box.new _ _ _
  have HX := Lib.hid (And.intro hB hbx)
  have HW := Lib.hid hW
  have H0 := Lib.hid (h0.below hB)
  have s0 := H0.out.cell
  have d0 : W.cell? ⟨w.heap.size, 0, none⟩ = some (.int .i64 op) := hbx.cell 0 rfl
  have d2 : W.cell? ⟨w.heap.size, 2, none⟩ = some (.slice oi ni ci) := hbx.cell 2 rfl
  have d3 : W.cell? ⟨w.heap.size, 3, none⟩ = some (.int .i64 word) := hbx.cell 3 rfl
  have hnl0 : 0 < nl := by omega
  clear hi hil h0 hm0 hW hB hbx
  subst hop
  go_enter Tryz.func27, Tryz.ntmps27
  go_upto_region 2 with fail
  rw [← HW.out]
  clear HW
  go_wp2_with fail
  go_still_tail 5, (by kernel_rfl)
  change wpList _ _ _ _ _ W.drew
  generalize hw4 : W.drew = w4
  have hsm : Same W w4 := ⟨1, by rw [← hw4]; rfl⟩
  have HX4 := Lib.hid (And.intro (HX.out.1.trans (hsm.below _)) (HX.out.2.same hsm))
  have H4 := Lib.hid (H0.out.below (hsm.below _))
  clear hw4 hsm d0 d2 d3 s0
  go_wp2_with (go_at_call 55; refine (xentShape_any _ _ (ints x0) il w4 H4.out.rd (HI.out.below HX4.out.1 (Nat.le_refl _)) (by have := HM0.out; omega) (by have := HIL.out; omega)).mono ?_; rintro e w9 ⟨⟨k9, rfl⟩, hsm⟩; have HX9 := Lib.hid (HX4.out.1.trans (hsm.below _)); clear hsm; refine stopHere ?_)
  refine goOn ?_
  go_wp2_with fail
  refine bodyPost_ret (v := .tuple #[.slice none 0 0, .int .i64 k9]) (by simp [results, Tryz.results27, go_sem]) rfl (ShOut.no _ HX9.out)
set_option maxRecDepth 1000000 in
set_option maxHeartbeats 8000000 in
theorem shape_same (op word : Int) (oa oi o1 o2 o3 o4 p0 : Option Addr) (na ni n1 n2 n3 n4 ca ci c1 c2 c3 c4 bl fl nl cl m0 k0 : Nat) (il : List Int) (x0 : List Nat) (w : World) (hi : Rd w .i64 (.slice oi ni ci) il) (hil : il.length ≤ 1000) (h0 : ShAt w bl fl p0 m0 k0 x0) (hnl : 0 < nl) (hop : op = 7 ∨ op = 8 ∨ op = 9 ∨ op = 10 ∨ op = 11 ∨ op = 12 ∨ op = 13 ∨ op = 14 ∨ op = 15) :
    Calls Tryz.prog 27 #[.agg #[.int .i64 op, .slice oa na ca, .slice oi ni ci, .int .i64 word, .slice o1 n1 c1, .slice o2 n2 c2, .slice o3 n3 c3, .slice o4 n4 c4], .slice (some ⟨bl, fl, none⟩) nl cl] w (ShOut w 1000) := by
  have HI := Lib.hid hi
  have HIL := Lib.hid hil
  have HNI := Lib.hid (show ni = il.length by obtain ⟨o, cap, he⟩ := rd_slice hi; injection he)
  have hni : ni ≤ 1000 := by have := HNI.out; omega
  obtain ⟨hm0, hm0b⟩ := h0.len
  have HM0 := Lib.hid hm0
  obtain ⟨W, hW⟩ : ∃ W, W = w.alloc (.cells #[.int .i64 op, .slice oa na ca, .slice oi ni ci, .int .i64 word, .slice o1 n1 c1, .slice o2 n2 c2, .slice o3 n3 c3, .slice o4 n4 c4] 27) := ⟨_, rfl⟩
  have hB : Below w.heap.size w W := by rw [hW]; exact (Below.refl _ _).alloc (Nat.le_refl _) _
  have hbx : Box W w.heap.size 27 #[.int .i64 op, .slice oa na ca, .slice oi ni ci, .int .i64 word, .slice o1 n1 c1, .slice o2 n2 c2, .slice o3 n3 c3, .slice o4 n4 c4] := by rw [hW]; exact Box.new _ _ _
  have HX := Lib.hid (And.intro hB hbx)
  have HW := Lib.hid hW
  have H0 := Lib.hid (h0.below hB)
  have s0 := H0.out.cell
  have d0 : W.cell? ⟨w.heap.size, 0, none⟩ = some (.int .i64 op) := hbx.cell 0 rfl
  have d2 : W.cell? ⟨w.heap.size, 2, none⟩ = some (.slice oi ni ci) := hbx.cell 2 rfl
  have d3 : W.cell? ⟨w.heap.size, 3, none⟩ = some (.int .i64 word) := hbx.cell 3 rfl
  have hnl0 : 0 < nl := by omega
  clear hi hil h0 hm0 hW hB hbx
  rcases hop with rfl | rfl | rfl | rfl | rfl | rfl | rfl | rfl | rfl
  all_goals
    go_enter Tryz.func27, Tryz.ntmps27
    go_upto_region 2 with fail
    rw [← HW.out]
    clear HW
    go_wp2_with (go_at_call 53; refine (copyNumbers_any _ (ints x0) W (H0.out.rd) (by have := HM0.out; omega)).mono ?_; rintro e w9 ⟨v9, rfl, ho9, hb9⟩; have HEND := Lib.hid (show ShOut w 1000 (.returned (.tuple #[v9, .int .i64 0])) w9 from ⟨HX.out.1.trans (hb9.mono HX.out.1.size), _, _, _, rfl, own_mono ho9 HX.out.1.size, (by first | (have := HM0.out; omega) | (rw [List.length_take]; have := HM0.out; omega))⟩); obtain ⟨o9, c9, rfl⟩ := own_slice ho9; clear ho9 hb9; generalize List.length _ = ny at HEND ⊢; refine stopHere ?_)
    refine goOn ?_
    go_wp2_with fail
    refine bodyPost_ret (v := .tuple #[.slice o9 ny c9, .int .i64 0]) (by simp [results, Tryz.results27, go_sem]) rfl HEND.out
end Go.Proofs.YtipjhdgegfgenaaGreat
