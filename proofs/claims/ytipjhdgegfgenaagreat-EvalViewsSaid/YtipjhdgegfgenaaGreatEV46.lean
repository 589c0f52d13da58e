/-
  BOXES of tensors, asks of them; ratchetlaw18.num and wakes.
-/
import Derived.Test.YtipjhdgegfgenaaGreatEV26
import Derived.Test.YtipjhdgegfgenaaGreatEV45
import Derived.Test.YtipjhdgegfgenaaGreatEV20
import Derived.Test.YtipjhdgegfgenaaGreatEV19
set_option linter.unusedVariables false
set_option linter.unusedSimpArgs false
namespace Go.Proofs.YtipjhdgegfgenaaGreat
open Go.RowKit Go.Shelf Go
/-- a tensor's box, its rows read -/
structure TBox (w : World) (g : Nat) (o : Option Addr) (n c : Nat) (o' : Option Addr) (n' c' : Nat) (t : TensD) : Prop where
  box : Box w g 36 #[.slice o n c, .slice o' n' c']
  sh : Rd w .i64 (.slice o n c) t.sh
  da : Rd w .i64 (.slice o' n' c') t.da
theorem TBox.next {w w' : World} {g : Nat} {o : Option Addr} {n c : Nat} {o' : Option Addr} {n' c' : Nat} {t : TensD} (h : TBox w g o n c o' n' c' t) (hb : Below w.heap.size w w') : TBox w' g o n c o' n' c' t :=
  ⟨h.box.next hb, h.sh.below hb (Nat.le_refl _), h.da.below hb (Nat.le_refl _)⟩
theorem TBox.new {w : World} {o : Option Addr} {n c : Nat} {o' : Option Addr} {n' c' : Nat} {t : TensD} (hs : Rd w .i64 (.slice o n c) t.sh) (hd : Rd w .i64 (.slice o' n' c') t.da) : TBox (w.alloc (.cells #[.slice o n c, .slice o' n' c'] 36)) w.heap.size o n c o' n' c' t :=
  ⟨Box.new _ _ _, hs.below ((Below.refl _ _).alloc (Nat.le_refl _) _) (Nat.le_refl _), hd.below ((Below.refl _ _).alloc (Nat.le_refl _) _) (Nat.le_refl _)⟩
/-- a row of one tensor -/
theorem TBox.row {w : World} {g : Nat} {o : Option Addr} {n c : Nat} {o' : Option Addr} {n' c' : Nat} {t : TensD} (h : TBox w g o n c o' n' c' t) : TenssRd w (.slice (some ⟨g, 0, none⟩) 1 1) [t] :=
  ⟨_, _, rfl, fun i hi => by
    obtain rfl : i = 0 := by simp at hi; omega
    exact ⟨g, 0, _, _, rfl, h.box.cell 0 rfl, h.box.cell 1 rfl, h.sh, h.da⟩⟩
/-- a node's argument's number and a row of one tensor, laid for a call -/
theorem ask_world {w X : World} {g : Nat} {o : Option Addr} {n c : Nat} {o' : Option Addr} {n' c' : Nat} {t : TensD} (h : TBox w g o n c o' n' c' t) (hX : X = (w.alloc (.cells #[.int .i64 0] 3)).alloc (.cells #[.slice o n c, .slice o' n' c'] 36)) :
    X.cell? ⟨w.heap.size, 0, none⟩ = some (.int .i64 0) ∧ TenssRd X (.slice (some ⟨w.heap.size + 1, 0, none⟩) 1 1) [t] ∧ Below w.heap.size w X := by
  have h1 : Below w.heap.size w (w.alloc (.cells #[.int .i64 0] 3)) := (Below.refl _ _).alloc (Nat.le_refl _) _
  obtain ⟨b1, b2, b3⟩ := two_boxV w _ _ _ _ hX
  have h2 := TBox.new (h.next h1).sh (h.next h1).da
  rw [World.size_alloc, ← hX] at h2
  exact ⟨b1.cell 0 rfl, h2.row, b3⟩
/-- what a call answers, boxed -/
theorem seen_box {X w' : World} {sh da : List Int} {a b : Value} (hb : Below X.heap.size X w') (ha : OwnI w' X.heap.size 3 .i64 a sh) (hd : OwnI w' X.heap.size 2 .i64 b da) :
    ∃ o n c o' n' c', a = .slice o n c ∧ b = .slice o' n' c' ∧ TBox (w'.alloc (.cells #[a, b] 36)) w'.heap.size o n c o' n' c' ⟨sh, da⟩ := by
  obtain ⟨o, c, rfl⟩ := own_slice ha
  obtain ⟨o', c', rfl⟩ := own_slice hd
  exact ⟨o, _, c, o', _, c', rfl, rfl, TBox.new (t := ⟨sh, da⟩) (Rd.of_own ha) (Rd.of_own hd)⟩
theorem rd_box1 {w : World} {g : Nat} {T : TypeId} {x : Int} (h : Box w g T #[.int .i64 x]) : Rd w .i64 (.slice (some ⟨g, 0, none⟩) 1 1) [x] :=
  ⟨_, _, rfl, fun j hj => by
    obtain rfl : j = 0 := by simp at hj; omega
    exact ⟨g, 0, rfl, h.cell 0 rfl⟩⟩
theorem rd_box2 {w : World} {g : Nat} {T : TypeId} {x y : Int} (h : Box w g T #[.int .i64 x, .int .i64 y]) : Rd w .i64 (.slice (some ⟨g, 0, none⟩) 2 2) [x, y] :=
  ⟨_, _, rfl, fun j hj => by
    have : j = 0 ∨ j = 1 := by simp at hj; omega
    rcases this with rfl | rfl
    · exact ⟨g, 0, rfl, h.cell 0 rfl⟩
    · exact ⟨g, 0, rfl, h.cell 1 rfl⟩⟩
theorem rd_box3 {w : World} {g : Nat} {T : TypeId} {x y z : Int} (h : Box w g T #[.int .i64 x, .int .i64 y, .int .i64 z]) : Rd w .i64 (.slice (some ⟨g, 0, none⟩) 3 3) [x, y, z] :=
  ⟨_, _, rfl, fun j hj => by
    have : j = 0 ∨ j = 1 ∨ j = 2 := by simp at hj; omega
    rcases this with rfl | rfl | rfl
    · exact ⟨g, 0, rfl, h.cell 0 rfl⟩
    · exact ⟨g, 0, rfl, h.cell 1 rfl⟩
    · exact ⟨g, 0, rfl, h.cell 2 rfl⟩⟩
theorem num18_any (n : Int) (w : World) : Calls Tryz.prog 8 #[.int .i64 n] w fun e w' => e = .returned (.int .i64 n) ∧ w = w' := by
  go_enter Tryz.func8, Tryz.ntmps8
  go_wp2
  go_ret
  exact ⟨rfl, rfl⟩
theorem eqTensor_yes (vs vd us ud : Value) (t : TensD) (w : World) (hs : Rd w .i64 vs t.sh) (hd : Rd w .i64 vd t.da) (gs : Rd w .i64 us t.sh) (gd : Rd w .i64 ud t.da) (hl : t.Lim) : Calls Tryz.prog 9 #[.agg #[vs, vd], .agg #[us, ud]] w fun e w' => e = .returned (.bool true) ∧ Below w.heap.size w w' :=
  (eqTensor_any vs vd us ud t t w hs hd gs gd hl).mono fun e w' h => by
    obtain ⟨⟨r, rfl, hr⟩, hb⟩ := h
    rw [hr.2 rfl]
    exact ⟨rfl, hb⟩
theorem five_box (w : World) (T1 T2 T3 T4 T5 : TypeId) (c1 c2 c3 c4 c5 : Array Value) {W : World} (hW : W = ((((w.alloc (.cells c1 T1)).alloc (.cells c2 T2)).alloc (.cells c3 T3)).alloc (.cells c4 T4)).alloc (.cells c5 T5)) :
    Box W w.heap.size T1 c1 ∧ Box W (w.heap.size + 1) T2 c2 ∧ Box W (w.heap.size + 2) T3 c3 ∧ Box W (w.heap.size + 3) T4 c4 ∧ Box W (w.heap.size + 4) T5 c5 ∧ Below w.heap.size w W := by
  subst hW
  have h2 := Box.new (w.alloc (.cells c1 T1)) T2 c2
  have h3 := Box.new ((w.alloc (.cells c1 T1)).alloc (.cells c2 T2)) T3 c3
  have h4 := Box.new (((w.alloc (.cells c1 T1)).alloc (.cells c2 T2)).alloc (.cells c3 T3)) T4 c4
  have h5 := Box.new ((((w.alloc (.cells c1 T1)).alloc (.cells c2 T2)).alloc (.cells c3 T3)).alloc (.cells c4 T4)) T5 c5
  rw [World.size_alloc] at h2
  rw [World.size_alloc, World.size_alloc] at h3
  rw [World.size_alloc, World.size_alloc, World.size_alloc] at h4
  rw [World.size_alloc, World.size_alloc, World.size_alloc, World.size_alloc] at h5
  exact ⟨box_st_alloc (box_st_alloc (box_st_alloc (box_st_alloc (Box.new w T1 c1)))), box_st_alloc (box_st_alloc (box_st_alloc h2)), box_st_alloc (box_st_alloc h3), box_st_alloc h4, h5, below_st_alloc (below_st_alloc (below_st_alloc (below_st_alloc (below_st_alloc (Below.refl _ _) (Nat.le_refl _)) (Nat.le_refl _)) (Nat.le_refl _)) (Nat.le_refl _)) (Nat.le_refl _)⟩
theorem eqN_yes (v u : Value) (xs : List Int) (w : World) (hr : Rd w .i64 v xs) (hs : Rd w .i64 u xs) (hl : xs.length ≤ 140737488351232) : Calls Tryz.prog 22 #[v, u] w fun e w' => e = .returned (.bool true) ∧ Same w w' :=
  (eqNumbers_any v u xs xs w hr hs hl).mono fun e w' h => ⟨by rw [h.1, decide_eq_true rfl], h.2⟩
theorem eqW_yes (v u : Value) (xs : List Int) (w : World) (hr : Rd w .i64 v xs) (hs : Rd w .i64 u xs) (hl : xs.length ≤ 140737488351232) : Calls Tryz.prog 10 #[v, u] w fun e w' => e = .returned (.bool true) ∧ Same w w' :=
  (eqWords_any v u xs xs w hr hs hl).mono fun e w' h => ⟨by rw [h.1, decide_eq_true rfl], h.2⟩
set_option maxRecDepth 1000000 in
set_option maxHeartbeats 8000000 in
theorem wakes18_any (w : World) : Calls Tryz.prog 12 #[] w fun e w' => e = .returned (.bool true) ∧ Below w.heap.size w w' := by
  obtain ⟨X, hX⟩ : ∃ X, X = ((((w.alloc (.cells #[.int .i64 0] 3)).alloc (.cells #[.int .i64 2, .int .i64 1] 3)).alloc (.cells #[.int .i64 2] 3)).alloc (.cells #[.int .i64 5, .int .i64 6] 2)).alloc (.cells #[.slice (some ⟨w.heap.size + 2, 0, none⟩) 1 1, .slice (some ⟨w.heap.size + 3, 0, none⟩) 2 2] 36) := ⟨_, rfl⟩
  have HB := Lib.hid (five_box w _ _ _ _ _ _ _ _ _ _ hX)
  have HX := Lib.hid hX
  have HT := Lib.hid (show TBox X (w.heap.size + 4) (some ⟨w.heap.size + 2, 0, none⟩) 1 1 (some ⟨w.heap.size + 3, 0, none⟩) 2 2 ⟨[2], [5, 6]⟩ from ⟨HB.out.2.2.2.2.1, rd_box1 HB.out.2.2.1, rd_box2 HB.out.2.2.2.1⟩)
  have HC := Lib.hid (call19 8 (some ⟨w.heap.size + 1, 0, none⟩) (some ⟨w.heap.size + 4, 0, none⟩) w.heap.size 0 2 1 2 1 ⟨[2], [5, 6]⟩ [2] [2, 1] X HT.out.row rfl (by decide) (HB.out.1.cell 0 rfl) (rd_box2 HB.out.2.1) (by decide) (by decide) (by decide))
  clear hX
  go_enter Tryz.func12, Tryz.ntmps12
  go_wp2_with (go_at_call 7; rw [← HX.out]; refine HC.out.mono ?_; rintro e w1 ⟨hb1, a, b, rfl, ha, hd⟩; refine stopHere ?_)
  obtain ⟨o, n, c, o', n', c', rfl, rfl, ht⟩ := seen_box hb1 ha hd
  have HB1 := Lib.hid (HB.out.2.2.2.2.2.trans (hb1.mono HB.out.2.2.2.2.2.size))
  obtain ⟨W1, hW1⟩ : ∃ W1, W1 = w1.alloc (.cells #[.slice o n c, .slice o' n' c'] 36) := ⟨_, rfl⟩
  rw [← hW1] at ht
  have HT1 := Lib.hid ht
  have HW1 := Lib.hid hW1
  have HB2 := Lib.hid (show Below w.heap.size w W1 by rw [hW1]; exact HB1.out.alloc HB1.out.size _)
  clear hb1 ha hd ht hW1
  refine goOn ?_
  go_upto_region 2 with fail
  rw [← HW1.out]
  have d0 : W1.cell? ⟨w1.heap.size, 0, none⟩ = some (.slice o n c) := HT1.out.box.cell 0 rfl
  have hl1 : w1.heap.size < W1.heap.size := HT1.out.box.lt
  obtain ⟨Y, hY⟩ : ∃ Y, Y = W1.alloc (.cells #[.int .i64 2, .int .i64 1] 3) := ⟨_, rfl⟩
  have hBY : Below W1.heap.size W1 Y := by rw [hY]; exact (Below.refl _ _).alloc (Nat.le_refl _) _
  have HEQ := Lib.hid (eqN_yes (.slice o n c) (.slice (some ⟨W1.heap.size, 0, none⟩) 2 2) [2, 1] Y (HT1.out.next hBY).sh (rd_box2 (by rw [hY]; exact Box.new _ _ _)) (by simp))
  have HY := Lib.hid hY
  have HBY := Lib.hid hBY
  clear hY hBY
  go_wp2_with (first | (go_at_call 8; refine (num18_any _ _).mono ?_; rintro e w' ⟨rfl, rfl⟩) | (go_at_call 22; rw [← HY.out]; refine HEQ.out.mono ?_; rintro e w2 ⟨rfl, hsm⟩; refine stopHere ?_))
  have HT2 := Lib.hid ((HT1.out.next HBY.out).next (hsm.below _))
  have HB3 := Lib.hid ((HB2.out.trans (HBY.out.mono HB2.out.size)).trans (hsm.below _))
  clear hsm d0 HEQ
  have d1 : w2.cell? ⟨w1.heap.size, 1, none⟩ = some (.slice o' n' c') := HT2.out.box.cell 1 rfl
  have hl2 : w1.heap.size < w2.heap.size := HT2.out.box.lt
  obtain ⟨Z, hZ⟩ : ∃ Z, Z = w2.alloc (.cells #[.int .i64 5, .int .i64 6] 2) := ⟨_, rfl⟩
  have hBZ : Below w2.heap.size w2 Z := by rw [hZ]; exact (Below.refl _ _).alloc (Nat.le_refl _) _
  have HEQ := Lib.hid (eqW_yes (.slice o' n' c') (.slice (some ⟨w2.heap.size, 0, none⟩) 2 2) [5, 6] Z (HT2.out.next hBZ).da (rd_box2 (by rw [hZ]; exact Box.new _ _ _)) (by simp))
  have HZ := Lib.hid hZ
  have HBZ := Lib.hid hBZ
  clear hZ hBZ
  refine goOn ?_
  go_wp2_with (go_at_call 10; rw [← HZ.out]; refine HEQ.out.mono ?_; rintro e w3 ⟨rfl, hsm⟩; refine stopHere ?_)
  have HB4 := Lib.hid ((HB3.out.trans (HBZ.out.mono HB3.out.size)).trans (hsm.below _))
  clear hsm d1 HEQ
  refine goOn ?_
  go_wp2_with fail
  go_ret
  exact ⟨rfl, HB4.out⟩
end Go.Proofs.YtipjhdgegfgenaaGreat
