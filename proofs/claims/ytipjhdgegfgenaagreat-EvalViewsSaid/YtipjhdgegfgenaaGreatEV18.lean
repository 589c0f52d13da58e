/-
  AXES in another order: view.Transpose, where an axis more is laid.
-/
import Derived.Test.YtipjhdgegfgenaaGreatEV16
import Derived.Test.YtipjhdgegfgenaaGreatEV17
set_option linter.unusedVariables false
set_option linter.unusedSimpArgs false
namespace Go.Proofs.YtipjhdgegfgenaaGreat
open Go.RowKit Go.Shelf Go
theorem turn_keep {w0 W w' : World} {vb : Nat} {cs zs : Array Value} {g na nb : Nat} {off : Int} {p q a b : Value} {xs ys : List Int} {j s : Nat} {u : Value} (h : TurnI w0 vb cs zs g na nb off p q a b xs ys W) (hg : W.grownBy w' a.ownBlock) (hc : W.cell? ⟨j, 0, none⟩ = some u) (hs : ∀ i, a.ownBlock = some i → i < s) (hj : s ≤ j) : w'.cell? ⟨j, 0, none⟩ = some u :=
  (World.cell?_of_block (w := W) (a := ⟨j, 0, none⟩) (hg.block j (cell_lt hc) (fun e => by have := hs j e.symm; omega))).trans hc
theorem turn_S {w0 W : World} {vb b1 f1 b2 f2 m ca cb y z1 z2 : Nat} {vo : Int} {zs : Array Value} {g na nb : Nat} {off : Int} {p q a b : Value} {xs ys : List Int} (h : TurnI w0 vb #[.slice (some ⟨b1, f1, none⟩) m ca, .slice (some ⟨b2, f2, none⟩) m cb, .int .i64 vo] zs g na nb off p q a b xs ys W) (h1 : w0.cell? ⟨b1, f1 + y, none⟩ = some (.int .i64 (z1 : Nat))) (h2 : w0.cell? ⟨b2, f2 + y, none⟩ = some (.int .i64 (z2 : Nat))) :
    W.cell? ⟨g, 0, none⟩ = some p ∧ W.cell? ⟨g, 1, none⟩ = some q ∧ W.cell? ⟨vb, 0, none⟩ = some (.slice (some ⟨b1, f1, none⟩) m ca) ∧ W.cell? ⟨vb, 1, none⟩ = some (.slice (some ⟨b2, f2, none⟩) m cb) ∧ W.cell? ⟨b1, f1 + y, none⟩ = some (.int .i64 (z1 : Nat)) ∧ W.cell? ⟨b2, f2 + y, none⟩ = some (.int .i64 (z2 : Nat)) :=
  ⟨h.box.cell 0 rfl, h.box.cell 1 rfl, h.kv.cell 0 rfl, h.kv.cell 1 rfl, (h.low.cell (p := ⟨b1, f1 + y, none⟩) (cell_lt h1)).trans h1, (h.low.cell (p := ⟨b2, f2 + y, none⟩) (cell_lt h2)).trans h2⟩
noncomputable def turnR (n : Nat) : Code := (Tryz.f115.body.bind (findRV n)).getD .skip
set_option maxRecDepth 1000000 in
set_option maxHeartbeats 20000000 in
theorem turn_r9 (w0 w1 : World) (vb g b1 f1 b2 f2 m ca cb k cp cq y z1 z2 : Nat) (vo off : Int) (op oq : Option Addr) (zs : Array Value) (xs ys : List Int) (u0 u1 u3 u4 u5 u7 u9 u10 u11 u12 u13 u14 u15 u16 u17 u18 u19 u20 u21 u22 u23 u24 u25 u26 u27 u28 u29 u30 u31 u32 u33 u34 u35 u36 u37 u38 u39 u40 u41 u42 u43 u44 u45 u46 u47 u48 u49 u50 u51 u52 : Value)
    (hI : TurnI w0 vb #[.slice (some ⟨b1, f1, none⟩) m ca, .slice (some ⟨b2, f2, none⟩) m cb, .int .i64 vo] zs g k k off (.slice op k cp) (.slice oq k cq) (.slice op k cp) (.slice oq k cq) (xs) (ys) w1) (hy : y < m) (hm : m ≤ 1000) (hk : k ≤ 1000) (h1 : w0.cell? ⟨b1, f1 + y, none⟩ = some (.int .i64 (z1 : Nat))) (h2 : w0.cell? ⟨b2, f2 + y, none⟩ = some (.int .i64 (z2 : Nat)))
    (K : Act → World → Prop) (hQ : ∀ (t31 t32 t33 t34 t35 t36 t37 t38 t39 t40 t41 t42 t43 t44 t45 t46 t47 t48 t49 t50 : Value) (o6 o8 : Option Addr) (c6 c8 : Nat) (w' : World), TurnI w0 vb #[.slice (some ⟨b1, f1, none⟩) m ca, .slice (some ⟨b2, f2, none⟩) m cb, .int .i64 vo] zs g (k + 1) (k + 1) off (.slice o6 (k + 1) c6) (.slice o8 (k + 1) c8) (.slice o6 (k + 1) c6) (.slice o8 (k + 1) c8) (xs ++ [(z1 : Int)]) (ys ++ [(z2 : Int)]) w' → K ⟨#[u0, u1, .pointer (some ⟨vb, 0, none⟩), u3, u4, u5, .pointer (some ⟨g, 0, none⟩), u7, .int .i64 y, u9, u10, u11, u12, u13, u14, u15, u16, u17, u18, u19, u20, u21, u22, u23, u24, u25, u26, u27, u28, u29, u30, t31, t32, t33, t34, t35, t36, t37, t38, t39, t40, t41, t42, t43, t44, t45, t46, t47, t48, t49, t50, u51, u52], []⟩ w') :
    Code.wp Tryz.prog (turnR 9) (onlyNV K) ⟨#[u0, u1, .pointer (some ⟨vb, 0, none⟩), u3, u4, u5, .pointer (some ⟨g, 0, none⟩), u7, .int .i64 y, u9, u10, u11, u12, u13, u14, u15, u16, u17, u18, u19, u20, u21, u22, u23, u24, u25, u26, u27, u28, u29, u30, u31, u32, u33, u34, u35, u36, u37, u38, u39, u40, u41, u42, u43, u44, u45, u46, u47, u48, u49, u50, u51, u52], []⟩ w1 := by
  have HQ := Lib.hid hQ
  have HE := Lib.hid (And.intro h1 h2)
  obtain ⟨V, hV⟩ : ∃ V, V = w1.drew := ⟨_, rfl⟩
  have HI := Lib.hid (show TurnI w0 vb #[.slice (some ⟨b1, f1, none⟩) m ca, .slice (some ⟨b2, f2, none⟩) m cb, .int .i64 vo] zs g k k off (.slice op k cp) (.slice oq k cq) (.slice op k cp) (.slice oq k cq) (xs) (ys) V by rw [hV]; exact hI.same ⟨1, rfl⟩)
  have hHeld := turn_S HI.out h1 h2
  have HRA := Lib.hid (show ∀ i, (Value.slice op k cp).ownBlock = some i → i < V.heap.size from fun i hi => (HI.out.ra.lt i hi).2)
  clear hI h1 h2 hQ
  conv => arg 2; whnf
  refine wp_region_split (S := fun w' => w'.cell? ⟨g, 0, none⟩ = some (.slice op k cp) ∧ w'.cell? ⟨g, 1, none⟩ = some (.slice oq k cq) ∧ w'.cell? ⟨vb, 0, none⟩ = some (.slice (some ⟨b1, f1, none⟩) m ca) ∧ w'.cell? ⟨vb, 1, none⟩ = some (.slice (some ⟨b2, f2, none⟩) m cb) ∧ w'.cell? ⟨b1, f1 + y, none⟩ = some (.int .i64 (z1 : Nat)) ∧ w'.cell? ⟨b2, f2 + y, none⟩ = some (.int .i64 (z2 : Nat))) 19 rfl (by simp) ?_
  rw [← hV]
  clear hV
  refine wpAnyT_take (i := 0) (v := ?_) rfl (by kernel_rfl) (by kernel_rfl) (by kernel_rfl) (by kernel_rfl) (by kernel_rfl) (fun _ _ _ h => h) (Or.inl ⟨by rfl, ?_⟩) hHeld ?_
  rotate_left
  · (rintro w ⟨s0, s1, s2, s3, s4, s5⟩; go_simp; (try with_reducible rfl))
  (try simp only [Act.put, List.setIfInBounds_toArray, List.set_cons_zero, List.set_cons_succ])
  refine wpAnyT_take (i := 1) (v := ?_) rfl (by kernel_rfl) (by kernel_rfl) (by kernel_rfl) (by kernel_rfl) (by kernel_rfl) (fun _ _ _ h => h) (Or.inl ⟨by rfl, ?_⟩) hHeld ?_
  rotate_left
  · (rintro w ⟨s0, s1, s2, s3, s4, s5⟩; go_simp; (try with_reducible rfl))
  (try simp only [Act.put, List.setIfInBounds_toArray, List.set_cons_zero, List.set_cons_succ])
  refine wpAnyT_take (i := 2) (v := ?_) rfl (by kernel_rfl) (by kernel_rfl) (by kernel_rfl) (by kernel_rfl) (by kernel_rfl) (fun _ _ _ h => h) (Or.inl ⟨by rfl, ?_⟩) hHeld ?_
  rotate_left
  · (rintro w ⟨s0, s1, s2, s3, s4, s5⟩; go_simp; (try with_reducible rfl))
  (try simp only [Act.put, List.setIfInBounds_toArray, List.set_cons_zero, List.set_cons_succ])
  refine wpAnyT_take (i := 3) (v := ?_) rfl (by kernel_rfl) (by kernel_rfl) (by kernel_rfl) (by kernel_rfl) (by kernel_rfl) (fun _ _ _ h => h) (Or.inl ⟨by rfl, ?_⟩) hHeld ?_
  rotate_left
  · (rintro w ⟨s0, s1, s2, s3, s4, s5⟩; go_simp; (try with_reducible rfl))
  (try simp only [Act.put, List.setIfInBounds_toArray, List.set_cons_zero, List.set_cons_succ])
  refine wpAnyT_take (i := 4) (v := ?_) rfl (by kernel_rfl) (by kernel_rfl) (by kernel_rfl) (by kernel_rfl) (by kernel_rfl) (fun _ _ _ h => h) (Or.inl ⟨by rfl, ?_⟩) hHeld ?_
  rotate_left
  · (rintro w ⟨s0, s1, s2, s3, s4, s5⟩; go_simp; (try with_reducible rfl))
  (try simp only [Act.put, List.setIfInBounds_toArray, List.set_cons_zero, List.set_cons_succ])
  refine wpAnyT_take (i := 5) (v := ?_) rfl (by kernel_rfl) (by kernel_rfl) (by kernel_rfl) (by kernel_rfl) (by kernel_rfl) (fun _ _ _ h => h) (Or.inl ⟨by rfl, ?_⟩) hHeld ?_
  rotate_left
  · (rintro w ⟨s0, s1, s2, s3, s4, s5⟩; go_simp; (try with_reducible rfl))
  (try simp only [Act.put, List.setIfInBounds_toArray, List.set_cons_zero, List.set_cons_succ])
  refine wpAnyT_take (i := 6) (v := ?_) rfl (by kernel_rfl) (by kernel_rfl) (by kernel_rfl) (by kernel_rfl) (by kernel_rfl) (fun _ _ _ h => h) (Or.inl ⟨by rfl, ?_⟩) hHeld ?_
  rotate_left
  · (rintro w ⟨s0, s1, s2, s3, s4, s5⟩; go_simp; (try with_reducible rfl))
  (try simp only [Act.put, List.setIfInBounds_toArray, List.set_cons_zero, List.set_cons_succ])
  refine wpAnyT_take (i := 9) (v := ?_) rfl (by kernel_rfl) (by kernel_rfl) (by kernel_rfl) (by kernel_rfl) (by kernel_rfl) (fun _ _ _ h => h) (Or.inl ⟨by rfl, ?_⟩) hHeld ?_
  rotate_left
  · (rintro w ⟨s0, s1, s2, s3, s4, s5⟩; go_simp; (try with_reducible rfl))
  (try simp only [Act.put, List.setIfInBounds_toArray, List.set_cons_zero, List.set_cons_succ])
  refine wpAnyT_take (i := 10) (v := ?_) rfl (by kernel_rfl) (by kernel_rfl) (by kernel_rfl) (by kernel_rfl) (by kernel_rfl) (fun _ _ _ h => h) (Or.inl ⟨by rfl, ?_⟩) hHeld ?_
  rotate_left
  · (rintro w ⟨s0, s1, s2, s3, s4, s5⟩; go_simp; (try with_reducible rfl))
  (try simp only [Act.put, List.setIfInBounds_toArray, List.set_cons_zero, List.set_cons_succ])
  refine wpAnyT_take (i := 11) (v := ?_) rfl (by kernel_rfl) (by kernel_rfl) (by kernel_rfl) (by kernel_rfl) (by kernel_rfl) (fun _ _ _ h => h) (Or.inl ⟨by rfl, ?_⟩) hHeld ?_
  rotate_left
  · (rintro w ⟨s0, s1, s2, s3, s4, s5⟩; go_simp; (try with_reducible rfl))
  (try simp only [Act.put, List.setIfInBounds_toArray, List.set_cons_zero, List.set_cons_succ])
  refine wpAnyT_take (i := 12) (v := ?_) rfl (by kernel_rfl) (by kernel_rfl) (by kernel_rfl) (by kernel_rfl) (by kernel_rfl) (fun _ _ _ h => h) (Or.inl ⟨by rfl, ?_⟩) hHeld ?_
  rotate_left
  · (rintro w ⟨s0, s1, s2, s3, s4, s5⟩; go_simp; (try with_reducible rfl))
  (try simp only [Act.put, List.setIfInBounds_toArray, List.set_cons_zero, List.set_cons_succ])
  refine wpAnyT_take (i := 13) (v := ?_) rfl (by kernel_rfl) (by kernel_rfl) (by kernel_rfl) (by kernel_rfl) (by kernel_rfl) (fun _ _ _ h => h) (Or.inl ⟨by rfl, ?_⟩) hHeld ?_
  rotate_left
  · (rintro w ⟨s0, s1, s2, s3, s4, s5⟩; go_simp; (try with_reducible rfl))
  (try simp only [Act.put, List.setIfInBounds_toArray, List.set_cons_zero, List.set_cons_succ])
  refine wpAnyT_take (i := 14) (v := ?_) rfl (by kernel_rfl) (by kernel_rfl) (by kernel_rfl) (by kernel_rfl) (by kernel_rfl) (fun _ _ _ h => h) (Or.inl ⟨by rfl, ?_⟩) hHeld ?_
  rotate_left
  · (rintro w ⟨s0, s1, s2, s3, s4, s5⟩; go_simp; (try with_reducible rfl))
  (try simp only [Act.put, List.setIfInBounds_toArray, List.set_cons_zero, List.set_cons_succ])
  refine wpAnyT_take (i := 15) (v := ?_) rfl (by kernel_rfl) (by kernel_rfl) (by kernel_rfl) (by kernel_rfl) (by kernel_rfl) (fun _ _ _ h => h) (Or.inl ⟨by rfl, ?_⟩) hHeld ?_
  rotate_left
  · (rintro w ⟨s0, s1, s2, s3, s4, s5⟩; go_simp; (try with_reducible rfl))
  (try simp only [Act.put, List.setIfInBounds_toArray, List.set_cons_zero, List.set_cons_succ])
  refine wpAnyT_ready (rs := [7, 16]) (by kernel_rfl) (by simp) ?_
  refine AllReadyT.cons rfl (fun K' hK' => ?_) (AllReadyT.cons rfl (fun K' hK' => ?_) AllReadyT.nil)
  · have t1 : TurnI w0 vb #[.slice (some ⟨b1, f1, none⟩) m ca, .slice (some ⟨b2, f2, none⟩) m cb, .int .i64 vo] zs g k k off (.slice op k cp) (.slice oq k cq) (.slice op k cp) (.slice oq k cq) (xs) (ys) (V.alloc (.cells #[.int .i64 (z1 : Nat)] 3)) := HI.out.next ((Below.refl _ _).alloc (Nat.le_refl _) (.cells #[.int .i64 (z1 : Nat)] 3))
    go_simp
    refine hK'.out _ _ (turn_S t1 HE.out.1 HE.out.2) (fun hH => ?_)
    clear hK' K'
    (try simp only [Act.put, List.setIfInBounds_toArray, List.set_cons_zero, List.set_cons_succ])
    refine wpAnyT_ready (rs := [8, 16]) (by kernel_rfl) (by simp) ?_
    refine AllReadyT.cons rfl (fun K' hK' => ?_) (AllReadyT.cons rfl (fun K' hK' => ?_) AllReadyT.nil)
    · refine turn_app (by rfl) (.tmp 32) (.tmp 38) (by rfl) (g + 1) k xs (.slice op k cp) rfl t1.ra (V.heap.size) (z1 : Nat) rfl ((Box.new V 3 #[.int .i64 (z1 : Nat)]).cell 0 rfl) (by omega) (by have := t1.box.lt; omega) ?_
      intro o6 c6 w6 hr6 hg6 ha6
      have hj := t1.appA (Below.refl _ _) hr6 hg6 ha6
      clear hr6 hg6 ha6
      refine hK'.out _ _ (turn_S hj HE.out.1 HE.out.2) (fun hH => ?_)
      clear hK' K'
      (try simp only [Act.put, List.setIfInBounds_toArray, List.set_cons_zero, List.set_cons_succ])
      refine wpAnyT_take (i := 18) (v := ?_) rfl (by kernel_rfl) (by kernel_rfl) (by kernel_rfl) (by kernel_rfl) (by kernel_rfl) (fun _ _ _ h => h) (Or.inl ⟨by rfl, ?_⟩) hH ?_
      rotate_left
      · (rintro w ⟨s0, s1, s2, s3, s4, s5⟩; go_simp; (try with_reducible rfl))
      (try simp only [Act.put, List.setIfInBounds_toArray, List.set_cons_zero, List.set_cons_succ])
      refine wpAnyT_ready (rs := [16]) (by kernel_rfl) (by simp) ?_
      refine AllReadyT.cons rfl (fun K' hK' => ?_) AllReadyT.nil
      have t2 := hj.next ((Below.refl _ _).alloc (Nat.le_refl _) (.cells #[.int .i64 (z2 : Nat)] 3))
      go_simp
      refine hK'.out _ _ (turn_S t2 HE.out.1 HE.out.2) (fun hH => ?_)
      clear hK' K'
      (try simp only [Act.put, List.setIfInBounds_toArray, List.set_cons_zero, List.set_cons_succ])
      refine wpAnyT_ready (rs := [17]) (by kernel_rfl) (by simp) ?_
      refine AllReadyT.cons rfl (fun K' hK' => ?_) AllReadyT.nil
      refine turn_app (by rfl) (.tmp 41) (.tmp 47) (by rfl) (g + 1) k ys (.slice oq k cq) rfl t2.rb (w6.heap.size) (z2 : Nat) rfl ((Box.new w6 3 #[.int .i64 (z2 : Nat)]).cell 0 rfl) (by omega) (by have := t2.box.lt; omega) ?_
      intro o8 c8 w8 hr8 hg8 ha8
      have hz := t2.appB (Below.refl _ _) hr8 hg8 ha8
      clear hr8 hg8 ha8
      refine hK'.out _ _ (turn_S hz HE.out.1 HE.out.2) (fun hH => ?_)
      clear hK' K'
      (try simp only [Act.put, List.setIfInBounds_toArray, List.set_cons_zero, List.set_cons_succ])
      refine ⟨by kernel_rfl, ?_⟩
      simp only [List.drop_succ_cons, List.drop_zero]
      have k0 : w8.cell? ⟨g, 0, none⟩ = some (.slice op k cp) := hz.box.cell 0 rfl
      have k1 : w8.cell? ⟨g, 1, none⟩ = some (.slice oq k cq) := hz.box.cell 1 rfl
      have kf0 := hz.box.free 0
      have kf1 := hz.box.free 1
      have HZ := Lib.hid hz
      clear hz
      go_wp2
      exact HQ.out _ _ _ _ _ _ _ _ _ _ _ _ _ _ _ _ _ _ _ _ _ _ _ _ _ ((HZ.out.set0 (.slice o6 (k + 1) c6)).set1 (.slice o8 (k + 1) c8))
    · have n2 := Box.new (V.alloc (.cells #[.int .i64 (z1 : Nat)] 3)) 3 #[.int .i64 (z2 : Nat)]
      rw [World.size_alloc] at n2
      have t2 := t1.next ((Below.refl _ _).alloc (Nat.le_refl _) (.cells #[.int .i64 (z2 : Nat)] 3))
      go_simp
      refine hK'.out _ _ (turn_S t2 HE.out.1 HE.out.2) (fun hH => ?_)
      clear hK' K'
      (try simp only [Act.put, List.setIfInBounds_toArray, List.set_cons_zero, List.set_cons_succ])
      refine wpAnyT_ready (rs := [8]) (by kernel_rfl) (by simp) ?_
      refine AllReadyT.cons rfl (fun K' hK' => ?_) AllReadyT.nil
      refine turn_app (by rfl) (.tmp 32) (.tmp 38) (by rfl) (g + 1) k xs (.slice op k cp) rfl t2.ra (V.heap.size) (z1 : Nat) rfl ((box_st_alloc (Box.new V 3 #[.int .i64 (z1 : Nat)])).cell 0 rfl) (by omega) (by have := t2.box.lt; omega) ?_
      intro o6 c6 w6 hr6 hg6 ha6
      have hj := t2.appA (Below.refl _ _) hr6 hg6 ha6
      have hk2 := turn_keep t2 hg6 (n2.cell 0 rfl) HRA.out (by omega)
      clear hr6 hg6 ha6
      refine hK'.out _ _ (turn_S hj HE.out.1 HE.out.2) (fun hH => ?_)
      clear hK' K'
      (try simp only [Act.put, List.setIfInBounds_toArray, List.set_cons_zero, List.set_cons_succ])
      refine wpAnyT_take (i := 18) (v := ?_) rfl (by kernel_rfl) (by kernel_rfl) (by kernel_rfl) (by kernel_rfl) (by kernel_rfl) (fun _ _ _ h => h) (Or.inl ⟨by rfl, ?_⟩) hH ?_
      rotate_left
      · (rintro w ⟨s0, s1, s2, s3, s4, s5⟩; go_simp; (try with_reducible rfl))
      (try simp only [Act.put, List.setIfInBounds_toArray, List.set_cons_zero, List.set_cons_succ])
      refine wpAnyT_ready (rs := [17]) (by kernel_rfl) (by simp) ?_
      refine AllReadyT.cons rfl (fun K' hK' => ?_) AllReadyT.nil
      refine turn_app (by rfl) (.tmp 41) (.tmp 47) (by rfl) (g + 1) k ys (.slice oq k cq) rfl hj.rb (V.heap.size + 1) (z2 : Nat) rfl hk2 (by omega) (by have := hj.box.lt; omega) ?_
      intro o8 c8 w8 hr8 hg8 ha8
      have hz := hj.appB (Below.refl _ _) hr8 hg8 ha8
      clear hr8 hg8 ha8
      refine hK'.out _ _ (turn_S hz HE.out.1 HE.out.2) (fun hH => ?_)
      clear hK' K'
      (try simp only [Act.put, List.setIfInBounds_toArray, List.set_cons_zero, List.set_cons_succ])
      refine ⟨by kernel_rfl, ?_⟩
      simp only [List.drop_succ_cons, List.drop_zero]
      have k0 : w8.cell? ⟨g, 0, none⟩ = some (.slice op k cp) := hz.box.cell 0 rfl
      have k1 : w8.cell? ⟨g, 1, none⟩ = some (.slice oq k cq) := hz.box.cell 1 rfl
      have kf0 := hz.box.free 0
      have kf1 := hz.box.free 1
      have HZ := Lib.hid hz
      clear hz
      go_wp2
      exact HQ.out _ _ _ _ _ _ _ _ _ _ _ _ _ _ _ _ _ _ _ _ _ _ _ _ _ ((HZ.out.set0 (.slice o6 (k + 1) c6)).set1 (.slice o8 (k + 1) c8))
  · have n1 := Box.new V 3 #[.int .i64 (z2 : Nat)]
    have t1 : TurnI w0 vb #[.slice (some ⟨b1, f1, none⟩) m ca, .slice (some ⟨b2, f2, none⟩) m cb, .int .i64 vo] zs g k k off (.slice op k cp) (.slice oq k cq) (.slice op k cp) (.slice oq k cq) (xs) (ys) (V.alloc (.cells #[.int .i64 (z2 : Nat)] 3)) := HI.out.next ((Below.refl _ _).alloc (Nat.le_refl _) (.cells #[.int .i64 (z2 : Nat)] 3))
    go_simp
    refine hK'.out _ _ (turn_S t1 HE.out.1 HE.out.2) (fun hH => ?_)
    clear hK' K'
    (try simp only [Act.put, List.setIfInBounds_toArray, List.set_cons_zero, List.set_cons_succ])
    refine wpAnyT_ready (rs := [7]) (by kernel_rfl) (by simp) ?_
    refine AllReadyT.cons rfl (fun K' hK' => ?_) AllReadyT.nil
    have n2 := Box.new (V.alloc (.cells #[.int .i64 (z2 : Nat)] 3)) 3 #[.int .i64 (z1 : Nat)]
    rw [World.size_alloc] at n2
    have t2 := t1.next ((Below.refl _ _).alloc (Nat.le_refl _) (.cells #[.int .i64 (z1 : Nat)] 3))
    go_simp
    refine hK'.out _ _ (turn_S t2 HE.out.1 HE.out.2) (fun hH => ?_)
    clear hK' K'
    (try simp only [Act.put, List.setIfInBounds_toArray, List.set_cons_zero, List.set_cons_succ])
    refine wpAnyT_ready (rs := [8]) (by kernel_rfl) (by simp) ?_
    refine AllReadyT.cons rfl (fun K' hK' => ?_) AllReadyT.nil
    refine turn_app (by rfl) (.tmp 32) (.tmp 38) (by rfl) (g + 1) k xs (.slice op k cp) rfl t2.ra (V.heap.size + 1) (z1 : Nat) rfl (n2.cell 0 rfl) (by omega) (by have := t2.box.lt; omega) ?_
    intro o6 c6 w6 hr6 hg6 ha6
    have hj := t2.appA (Below.refl _ _) hr6 hg6 ha6
    have hk2 := turn_keep t2 hg6 ((box_st_alloc n1).cell 0 rfl) HRA.out (by omega)
    clear hr6 hg6 ha6
    refine hK'.out _ _ (turn_S hj HE.out.1 HE.out.2) (fun hH => ?_)
    clear hK' K'
    (try simp only [Act.put, List.setIfInBounds_toArray, List.set_cons_zero, List.set_cons_succ])
    refine wpAnyT_take (i := 18) (v := ?_) rfl (by kernel_rfl) (by kernel_rfl) (by kernel_rfl) (by kernel_rfl) (by kernel_rfl) (fun _ _ _ h => h) (Or.inl ⟨by rfl, ?_⟩) hH ?_
    rotate_left
    · (rintro w ⟨s0, s1, s2, s3, s4, s5⟩; go_simp; (try with_reducible rfl))
    (try simp only [Act.put, List.setIfInBounds_toArray, List.set_cons_zero, List.set_cons_succ])
    refine wpAnyT_ready (rs := [17]) (by kernel_rfl) (by simp) ?_
    refine AllReadyT.cons rfl (fun K' hK' => ?_) AllReadyT.nil
    refine turn_app (by rfl) (.tmp 41) (.tmp 47) (by rfl) (g + 1) k ys (.slice oq k cq) rfl hj.rb (V.heap.size) (z2 : Nat) rfl hk2 (by omega) (by have := hj.box.lt; omega) ?_
    intro o8 c8 w8 hr8 hg8 ha8
    have hz := hj.appB (Below.refl _ _) hr8 hg8 ha8
    clear hr8 hg8 ha8
    refine hK'.out _ _ (turn_S hz HE.out.1 HE.out.2) (fun hH => ?_)
    clear hK' K'
    (try simp only [Act.put, List.setIfInBounds_toArray, List.set_cons_zero, List.set_cons_succ])
    refine ⟨by kernel_rfl, ?_⟩
    simp only [List.drop_succ_cons, List.drop_zero]
    have k0 : w8.cell? ⟨g, 0, none⟩ = some (.slice op k cp) := hz.box.cell 0 rfl
    have k1 : w8.cell? ⟨g, 1, none⟩ = some (.slice oq k cq) := hz.box.cell 1 rfl
    have kf0 := hz.box.free 0
    have kf1 := hz.box.free 1
    have HZ := Lib.hid hz
    clear hz
    go_wp2
    exact HQ.out _ _ _ _ _ _ _ _ _ _ _ _ _ _ _ _ _ _ _ _ _ _ _ _ _ ((HZ.out.set0 (.slice o6 (k + 1) c6)).set1 (.slice o8 (k + 1) c8))
end Go.Proofs.YtipjhdgegfgenaaGreat
