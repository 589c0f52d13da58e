/-
  COPIES of what is seen: view.Copy.
-/
import Derived.Test.YtipjhdgegfgenaaGreatEV14
set_option linter.unusedVariables false
set_option linter.unusedSimpArgs false
namespace Go.Proofs.YtipjhdgegfgenaaGreat
open Go.RowKit Go.Shelf Go
/-- a tensor whose rows are one's own, and no error -/
def TenOut (w0 : World) (sh : List Int) (da : List Int) (e : Ending) (w' : World) : Prop :=
  Below w0.heap.size w0 w' ∧ ∃ a b, e = .returned (.tuple #[.agg #[a, b], .int .i64 0]) ∧ OwnI w' w0.heap.size 3 .i64 a sh ∧ OwnI w' w0.heap.size 2 .i64 b da
theorem onlyNV_out2 {Q : Exit → Act → World → Prop} : ∀ e a w, onlyNV (fun a w => Q .normal a w) e a w → Q e a w := fun e a w h => by
  cases e <;> first | exact h | exact h.elim
theorem three_boxV (w : World) (T1 T2 T3 : TypeId) (c1 c2 c3 : Array Value) {W : World} (hW : W = ((w.alloc (.cells c1 T1)).alloc (.cells c2 T2)).alloc (.cells c3 T3)) :
    Box W w.heap.size T1 c1 ∧ Box W (w.heap.size + 1) T2 c2 ∧ Box W (w.heap.size + 2) T3 c3 ∧ Below w.heap.size w W := by
  subst hW
  have h2 := Box.new (w.alloc (.cells c1 T1)) T2 c2
  have h3 := Box.new ((w.alloc (.cells c1 T1)).alloc (.cells c2 T2)) T3 c3
  rw [World.size_alloc] at h2
  rw [World.size_alloc, World.size_alloc] at h3
  exact ⟨box_st_alloc (box_st_alloc (Box.new w T1 c1)), box_st_alloc h2, h3, below_st_alloc (below_st_alloc (below_st_alloc (Below.refl _ _) (Nat.le_refl _)) (Nat.le_refl _)) (Nat.le_refl _)⟩
theorem LieG.set {g j : Nat} (W : World) (v : Value) : LieG g W (W.setCell ⟨g, j, none⟩ v) := ⟨by simp [World.setCell], fun k o hk _ h => by rw [Below.heap_setCell _ _ _ _ hk]; exact h⟩
theorem LieG.drew {g : Nat} (W : World) : LieG g W W.drew := ⟨Nat.le_refl _, fun _ _ _ _ h => h⟩
/-- the words that are copied, noughts behind -/
def partN (L : List Int) (k : Nat) : List Int := L.take k ++ List.replicate (L.length - k) 0
theorem partN_zero (L : List Int) : partN L 0 = List.replicate L.length 0 := by simp [partN]
theorem partN_all (L : List Int) : partN L L.length = L := by simp [partN]
theorem partN_length (L : List Int) (k : Nat) (h : k ≤ L.length) : (partN L k).length = L.length := by simp [partN]; omega
theorem partN_set (L : List Int) (k : Nat) (h : k < L.length) : (partN L k).set k (nth L k) = partN L (k + 1) := by
  rw [partN, partN, List.set_append_right _ _ (by simp; omega), List.length_take, Nat.min_eq_left (by omega), Nat.sub_self, show L.length - k = (L.length - (k + 1)) + 1 by omega, List.replicate_succ, List.set_cons_zero, take_succ_nth L k h, List.append_assoc]
  rfl
/-- between two rounds of the copy -/
structure CopyI (w : World) (b g3 g : Nat) (cs d : Value) (vs : Value) (n N cd : Nat) (sh : List Int) (L : List Int) (pre : List Nat) (X : World) : Prop where
  low : Below w.heap.size w X
  db : Box X (b + 1) 34 #[d]
  rb : Box X (b + 2) 36 #[.slice none 0 0, .slice none 0 0]
  tb : Box X g3 36 #[vs, .slice (some ⟨g, 0, none⟩) N N]
  vs : OwnI X w.heap.size 3 .i64 vs sh
  vd : X.ownsRow w.heap.size 2 1 (.slice (some ⟨g, 0, none⟩) N N) N ((partN L pre.length).map (.int .i64))
theorem CopyI.lieG {w : World} {b g3 g : Nat} {cs d vs : Value} {n N cd : Nat} {sh L : List Int} {pre : List Nat} {X Y : World} {gg : Nat} (h : CopyI w b g3 g cs d vs n N cd sh L pre X) (hl : LieG gg X Y) (hb : Below w.heap.size w Y) (h1 : b + 1 ≠ gg) (h2 : b + 2 ≠ gg) (h3 : g3 ≠ gg) (h4 : OffG gg vs) (h5 : g ≠ gg) : CopyI w b g3 g cs d vs n N cd sh L pre Y :=
  ⟨hb, h.db.lieG hl h1, h.rb.lieG hl h2, h.tb.lieG hl h3, own_lieG h.vs hl h4, own_lieG h.vd hl (fun b off n c hv => by cases hv; exact h5)⟩
theorem own_bound {w : World} {B : Nat} {e : TypeId} {s n : Nat} {v : Value} {xs : List Value} (h : w.ownsRow B e s v n xs) : OffG w.heap.size v := fun b off n c hv => by
  subst hv; have := (h.lt b rfl).2; omega
theorem copyI_own {w : World} {b g3 g C : Nat} {cs d vs : Value} {n N cd : Nat} {sh L : List Int} (hC : w.heap.size ≤ C) : OwnR (fun o => o.isCells = false) C (CopyI w b g3 g cs d vs n N cd sh L) := fun s X Y row hs hg hr => by
  have hl := LieG.grown (g := X.heap.size) hg (fun r e => by obtain ⟨_, o, h1, h2⟩ := hr r e; exact ⟨o, h1, h2.elim id id⟩)
  exact hs.lieG hl (hs.low.grown hg hs.low.size (fun k e => by have := (hr k e).1; omega)) (Nat.ne_of_lt hs.db.lt) (Nat.ne_of_lt hs.rb.lt) (Nat.ne_of_lt hs.tb.lt) (own_bound hs.vs) (Nat.ne_of_lt (hs.vd.lt g rfl).2)
attribute [local go_sem] Oper.semAt_some
set_option maxRecDepth 1000000 in
set_option maxHeartbeats 8000000 in
theorem viewCopy_in (va vb vd : Value) (sh st : List Nat) (off : Nat) (da : List Int) (w : World) (ha : Rd w .i64 va (ints sh)) (hb : Rd w .i64 vb (ints st)) (hd : Rd w .i64 vd da) (hv : ViewN sh st off da.length) (hw : wordsB da = true) :
    CallsIn Fence.wide 9 Tryz.prog 67 #[.agg #[va, vb, .int .i64 off], vd] w (TenOut w (ints sh) (copyN sh st off da)) := by
  obtain ⟨oa, ca, rfl⟩ := rd_slice ha
  obtain ⟨ob, cb, rfl⟩ := rd_slice hb
  obtain ⟨od, cd, rfl⟩ := rd_slice hd
  have hl2 : (ints st).length = (ints sh).length := by rw [ints_length, ints_length, hv.len]
  rw [hl2] at hb ⊢
  obtain ⟨m, hm⟩ : ∃ m, m = (ints sh).length := ⟨_, rfl⟩
  obtain ⟨n, hn⟩ : ∃ n, n = da.length := ⟨_, rfl⟩
  rw [← hm] at ha hb ⊢
  rw [← hn] at hd ⊢
  have HV := Lib.hid (show ViewN sh st off n by rw [hn]; exact hv)
  have HWD := Lib.hid hw
  have HML := Lib.hid (And.intro hm (And.intro hn (show m = sh.length by rw [hm, ints_length])))
  have hn6 : n ≤ 65536 := HV.out.most
  obtain ⟨W, hW⟩ : ∃ W, W = ((w.alloc (.cells #[.slice oa m ca, .slice ob m cb, .int .i64 off] 81)).alloc (.cells #[.slice od n cd] 34)).alloc (.cells #[.slice none 0 0, .slice none 0 0] 36) := ⟨_, rfl⟩
  have HX := Lib.hid (three_boxV w _ _ _ _ _ _ hW)
  have HW := Lib.hid hW
  have HR := Lib.hid (And.intro ha (And.intro hb hd))
  have HGD := Lib.hid (show ∀ X, Below w.heap.size w X → Calls Tryz.prog 117 #[.agg #[.slice oa m ca, .slice ob m cb, .int .i64 off], .int .i64 n] X fun e w' => e = .returned (.bool true) ∧ Below X.heap.size X w' from fun X h =>
    viewGood_yes _ _ sh st off n X (HR.out.1.below h (Nat.le_refl _)) (HR.out.2.1.below h (Nat.le_refl _)) HV.out)
  have HWO := Lib.hid (show ∀ X, Below w.heap.size w X → Calls Tryz.prog 118 #[.slice od n cd] X fun e w' => e = .returned (.bool true) ∧ Same X w' from fun X h => by
    have := viewWords_any _ da X (HR.out.2.2.below h (Nat.le_refl _)) (by rw [← HML.out.2.1]; omega)
    rw [HWD.out] at this; exact this)
  refine callsIn_of_wp_marks Tryz.func67 rfl trivial ?_ rfl
  simp only [Tryz.ntmps67, List.size_toArray, List.length_cons, List.length_nil, Nat.reduceAdd, Nat.reduceSub, Array.replicate_succ, Array.replicate_zero, List.push_toArray, List.append_toArray, List.nil_append, List.cons_append]
  clear ha hb hd hv hw hl2 hm hn hW
  gi_wp2_with (refine ⟨trivial, ?_⟩; gi_at_call 117; rw [← HW.out]; refine (callsIn_wide.2 (HGD.out W HX.out.2.2.2)).mono ?_; rintro e w1 ⟨rfl, hb1⟩; refine stopHere ?_)
  have HX1 := Lib.hid (And.intro (HX.out.1.next hb1) (And.intro (HX.out.2.1.next hb1) (And.intro (HX.out.2.2.1.next hb1) (HX.out.2.2.2.trans (hb1.mono HX.out.2.2.2.size)))))
  clear hb1
  have c3 := HX1.out.2.1.cell 0 rfl
  refine goOn ?_
  gi_wp2_with (refine ⟨trivial, ?_⟩; gi_at_call 118; refine (callsIn_wide.2 (HWO.out w1 HX1.out.2.2.2)).mono ?_; rintro e w2 ⟨rfl, hs2⟩; refine stopHere ?_)
  have HX2 := Lib.hid (And.intro (HX1.out.1.same hs2) (And.intro (HX1.out.2.1.same hs2) (And.intro (HX1.out.2.2.1.same hs2) (HX1.out.2.2.2.trans (hs2.below _)))))
  clear hs2 c3
  refine goOn ?_
  gi_wp2
  refine wpIn_wide.2 (Code.wp_mono onlyNV_out2 ?_)
  refine copy_r3 w.heap.size (prodN sh) m ca cb off oa ob sh w2 _ _ _ _ _ _ _ _ _ _ _ _ _ _ _ _ _ _ _ _ _ _ _ _ _ _ _ _ _ _ _ _ _ _ _ _ _ _ _ _ HX2.out.1 (HR.out.1.below HX2.out.2.2.2 (Nat.le_refl _)) HML.out.2.2 rfl HV.out.good _ ?_
  intro vs g3 g t20 t21 t22 t23 t24 t25 t26 t27 w3 hE
  obtain ⟨N, hN⟩ : ∃ N, N = prodN sh := ⟨_, rfl⟩
  rw [← hN] at hE
  have HN := Lib.hid hN
  have HE := Lib.hid hE
  have hx3 : Box w3 w.heap.size 81 #[.slice oa m ca, .slice ob m cb, .int .i64 off] := HX2.out.1.next hE.low
  have HX3 := Lib.hid (And.intro hx3 (And.intro (HX2.out.2.1.next hE.low) (And.intro (HX2.out.2.2.1.next hE.low) (HX2.out.2.2.2.trans (hE.low.mono HX2.out.2.2.2.size)))))
  have d0 : w3.cell? ⟨w.heap.size, 0, none⟩ = some (.slice oa m ca) := hx3.cell 0 rfl
  have d1 : w3.cell? ⟨w.heap.size, 1, none⟩ = some (.slice ob m cb) := hx3.cell 1 rfl
  have d2 : w3.cell? ⟨w.heap.size, 2, none⟩ = some (.int .i64 off) := hx3.cell 2 rfl
  clear hE hx3 hN
  gi_wp2_with (refine ⟨trivial, ?_⟩; gi_at_call 119; refine (callsIn_wide.2 (viewPlaces_any _ _ off w3)).mono ?_; rintro e w4 ⟨rfl, hw4⟩; refine stopHere ?_)
  have hvb : Box w4 w3.heap.size 81 #[.slice oa m ca, .slice ob m cb, .int .i64 off] := by rw [hw4]; exact Box.new _ _ _
  have hb4 : Below w3.heap.size w3 w4 := by rw [hw4]; exact (Below.refl _ _).alloc (Nat.le_refl _) _
  have hlow4 : Below w.heap.size w w4 := HX3.out.2.2.2.trans (hb4.mono HX3.out.2.2.2.size)
  have hg3 : g < w3.heap.size := (HE.out.vd.lt g rfl).2
  have hs34 : w3.heap.size < w4.heap.size := hvb.lt
  have hsw2 : w.heap.size ≤ w2.heap.size := HX2.out.2.2.2.size
  have hsw3 : w.heap.size + 2 < w2.heap.size := HX2.out.2.2.1.lt
  have hgw : w2.heap.size ≤ g := (HE.out.vd.lt g rfl).1
  have HSQ := Lib.hid (places1_seq (fun o => o.isCells = false) (fun o h => h) g w3.heap.size (.slice oa m ca) (.slice ob m cb) off sh st w4 8 (by omega) ⟨hvb, HR.out.1.below hlow4 (Nat.le_refl _), HR.out.2.1.below hlow4 (Nat.le_refl _)⟩ HV.out.good HV.out.len (by have := HV.out.far; omega) HV.out.strides (by omega) (by omega) (rd_off HR.out.1 (by omega)) (rd_off HR.out.2.1 (by omega)))
  have HCL := Lib.hid (show N = (copyN sh st off da).length by rw [copyN_length]; exact HN.out)
  have HI0 := Lib.hid (show CopyI w w.heap.size g3 g undef (.slice od n cd) vs n N cd (ints sh) (copyN sh st off da) [] w4 from
    ⟨hlow4, HX3.out.2.1.next hb4, HX3.out.2.2.1.next hb4, HE.out.box.next hb4, own_mono (own_st_next hb4 HE.out.vs) hsw2, by
      have h1 := own_mono (own_st_next hb4 HE.out.vd) hsw2
      rw [List.length_replicate] at h1
      rw [List.length_nil, partN_zero, ← HCL.out]; exact h1⟩)
  have HW4 := Lib.hid hw4
  clear hw4 hvb hb4 hlow4 d0 d1 d2
  refine goOn ?_
  gi_wp2
  rw [← HW4.out]
  refine wpIn_rangeFunc_N (ik := fun o => o.isCells = false) rfl (by omega) (gf := 165) (lb := #[.pointer (some ⟨w3.heap.size, 0, none⟩)]) rfl trivial (enters_of Tryz.func165 (by kernel_rfl) rfl)
    HSQ.out (fun h k => h.trans k) (fun X r o o' _ hl ho _ => LieG.put o' hl ho) (Below.refl _ _) (fun _ => rfl)
    (CopyI w w.heap.size g3 g undef (.slice od n cd) vs n N cd (ints sh) (copyN sh st off da)) (fun _ _ _ => False)
    (copyI_own (Nat.le_trans HX3.out.2.2.2.size (Nat.le_of_lt hs34))) (fun c s X Y row hs _ _ => hs) HI0.out
    (fun p x a' X => a' = { tmps := #[.agg #[.slice oa m ca, .slice ob m cb, .int .i64 off], .slice od n cd, .pointer (some ⟨w.heap.size, 0, none⟩), .pointer (some ⟨w.heap.size + 1, 0, none⟩), .pointer (some ⟨w.heap.size + 1 + 1, 0, none⟩), .int .i64 0, .pointer (some ⟨g3, 0, none⟩), .int .i64 x, .int .i64 (placeN sh st off x), .agg #[.slice oa m ca, .slice ob m cb, .int .i64 off], .slice od n cd, .int .i64 n, .bool true, .bool false, .bool false, .slice od n cd, .bool true, .bool false, .bool false, undef, t20, t21, t22, t23, t24, t25, t26, t27, .agg #[.slice oa m ca, .slice ob m cb, .int .i64 off], .func (.func 165) #[] #[.pointer (some ⟨w3.heap.size, 0, none⟩)], .int .i64 x, .int .i64 (placeN sh st off x), undef, undef, undef, undef, undef, undef, undef, undef, undef], defers := [] } ∧ x = p.length ∧ x < prodN sh) (fun p x a' s X Y row hs _ _ => hs) ?assign ?body ?done ?stop
  case assign =>
    intro l' pre x X K hI hrdy hK
    have HI := Lib.hid hI
    have HR2 := Lib.hid hrdy
    have HK := Lib.hid hK
    clear hI hrdy hK
    simp only [plEnc]
    gi_wp2
    exact HK.out _ _ (KeepsFrom.refl _ _) (LieG.refl _ _) HI.out ⟨rfl, HR2.out⟩
  case body =>
    rintro l' pre x a' X hI ⟨rfl, hxp, hxN⟩
    have HI := Lib.hid hI
    obtain ⟨P, hP⟩ : ∃ P, P = placeN sh st off x := ⟨_, rfl⟩
    rw [← hP]
    have hPn : P < n := by
      rw [hP, placeN]
      have h1 := dot_le (st := st) (stands_in sh x (fun d hd => (HV.out.dims.1 d hd).1))
      have h2 := HV.out.far
      omega
    have hxN2 : x < N := by rw [HN.out]; exact hxN
    obtain ⟨bd, fd, hod, h1⟩ := HR.out.2.2.cell P (by rw [← HML.out.2.1]; exact hPn)
    subst hod
    have e1 := (hI.low.cell (p := ⟨bd, fd + P, none⟩) (cell_lt h1)).trans h1
    have hnl : (partN (copyN sh st off da) pre.length).length = N := by rw [partN_length _ _ (by rw [← HCL.out]; omega), ← HCL.out]
    have hcg := own_cells hI.vd x (u := .int .i64 (nth (partN (copyN sh st off da) pre.length) x)) (by rw [List.getElem?_map, List.getElem?_eq_getElem (by omega), nth_eq _ _ (by omega)]; rfl)
    obtain ⟨k1, f1⟩ := hcg
    have t1 : X.cell? ⟨g3, 1, none⟩ = some (.slice (some ⟨g, 0, none⟩) N N) := hI.tb.cell 1 rfl
    have t3 : X.cell? ⟨w.heap.size + 1, 0, none⟩ = some (.slice (some ⟨bd, fd, none⟩) n cd) := hI.db.cell 0 rfl
    have HNV := Lib.hid (show nth (copyN sh st off da) x = nth da P by rw [copyN_nth _ _ _ _ _ hxN, hP, placeN])
    have HS := Lib.hid (own_set1 hI.vd x (.int .i64 (nth da P)))
    have HXP := Lib.hid hxp
    generalize nth da P = v at e1 HNV HS
    generalize nth (partN (copyN sh st off da) pre.length) x = v0 at k1
    have hgX : g < X.heap.size := (hI.vd.lt g rfl).2
    clear hI hP h1 hnl hxp hxN
    gi_wp2
    refine wpIn_round_still_tail 8 (by kernel_rfl) (by kernel_rfl) (fun h => by obtain ⟨a, w, h⟩ := h; exact h) (by kernel_rfl) ?_
    simp only [List.take_succ_cons, List.take_zero, List.drop_succ_cons, List.drop_zero]
    repeat still_step
    refine wpStill_nil ?_
    go_wp2
    have hl : LieG g X ((X.setCell ⟨g, x, none⟩ (.int .i64 v)).drew) := (LieG.set X _).trans (LieG.drew _)
    have hgw2 : w.heap.size ≤ g := by omega
    refine ⟨((KeepsOthers.setCell _ _ _).trans (KeepsOthers.drew _)).from _, hl, ?_⟩
    refine ⟨Below.drew (HI.out.low.setCell (p := ⟨g, x, none⟩) hgw2 _), HI.out.db.lieG hl (by omega), HI.out.rb.lieG hl (by omega), HI.out.tb.lieG hl (fun e => HE.out.ne e.symm), own_lieG HI.out.vs hl (fun b' off' n' c' hv => (HE.out.off b' (by rw [hv]; rfl)).2), ?_⟩
    have hx := HXP.out
    have h := own_st_drew HS.out
    have h2 := partN_set (copyN sh st off da) x (by rw [← HCL.out]; exact hxN2)
    rw [HNV.out] at h2
    rw [← hx, ← List.map_set, h2] at h
    rw [List.length_append, List.length_singleton, ← hx]
    exact h
  case done =>
    rintro D xs X hD rfl hI hK
    obtain ⟨ov, cv, hvs⟩ := own_slice hI.vs
    subst hvs
    have HI := Lib.hid hI
    have HK := Lib.hid hK
    have t0 : X.cell? ⟨g3, 0, none⟩ = some (.slice ov (ints sh).length cv) := hI.tb.cell 0 rfl
    have t1 : X.cell? ⟨g3, 1, none⟩ = some (.slice (some ⟨g, 0, none⟩) N N) := hI.tb.cell 1 rfl
    have r0 : X.cell? ⟨w.heap.size + 1 + 1, 0, none⟩ = some (.slice none 0 0) := hI.rb.cell 0 rfl
    have r1 : X.cell? ⟨w.heap.size + 1 + 1, 1, none⟩ = some (.slice none 0 0) := hI.rb.cell 1 rfl
    have f0 : X.frozen? ⟨w.heap.size + 1 + 1, 0, none⟩ = false := hI.rb.free 0
    have f1 : X.frozen? ⟨w.heap.size + 1 + 1, 1, none⟩ = false := hI.rb.free 1
    clear hI hK
    gi_wp2
    obtain ⟨Y, hY⟩ : ∃ Y, Y = (X.setCell ⟨w.heap.size + 1 + 1, 0, none⟩ (.slice ov (ints sh).length cv)).setCell ⟨w.heap.size + 1 + 1, 1, none⟩ (.slice (some ⟨g, 0, none⟩) N N) := ⟨_, rfl⟩
    rw [← hY]
    have hbY : Box Y (w.heap.size + 1 + 1) 36 #[(.slice ov (ints sh).length cv), .slice (some ⟨g, 0, none⟩) N N] := by rw [hY]; exact (HI.out.rb.set 0 (.slice ov (ints sh).length cv)).set 1 _
    have hkY : KeepsOthers X Y := by rw [hY]; exact (KeepsOthers.setCell _ _ _).trans (KeepsOthers.setCell _ _ _)
    have hlY : LieG (w.heap.size + 2) X Y := by rw [hY]; exact (LieG.set X _).trans (LieG.set _ _)
    have hloY : Below w.heap.size w Y := by rw [hY]; exact below_st_set (below_st_set HI.out.low (by omega)) (by omega)
    have hDY := hkY.same D _ HK.out rfl
    have hlZ : ∀ gg, LieG gg Y (Y.putObj D (.deferred none)) := fun gg => LieG.put _ hDY rfl
    have hbZ := hbY.lieG (hlZ D) (fun e => by unfold Box at hbY; rw [e, hDY] at hbY; cases hbY)
    have z0 := hbZ.cell 0 rfl
    have z1 := hbZ.cell 1 rfl
    have hsY : Y.heap.size = X.heap.size := by rw [hY]; simp [World.setCell]
    have hvo : OffG (w.heap.size + 2) (.slice ov (ints sh).length cv) := own_off HE.out.vs (by omega)
    have hF := Lib.hid (show Below w.heap.size w (Y.putObj D (.deferred none)) ∧ OwnI (Y.putObj D (.deferred none)) w.heap.size 3 .i64 (.slice ov (ints sh).length cv) (ints sh) ∧ OwnI (Y.putObj D (.deferred none)) w.heap.size 2 .i64 (.slice (some ⟨g, 0, none⟩) N N) (copyN sh st off da) from by
      refine ⟨hloY.trans (belowK_b (w := w) (Nat.le_refl _) Y D _ _ (by have := HX3.out.2.2.2.size; omega) hDY rfl rfl), ?_, ?_⟩
      · exact own_lieG (own_lieG HI.out.vs hlY hvo) (hlZ D) (fun b' off' n' c' hv e => by
          have h1 := own_lieG HI.out.vs hlY hvo
          rcases h1.2 with ⟨h2, _⟩ | ⟨g', cap', cur, h2, _, h3, _⟩
          · rw [h2] at hv; cases hv
          · rw [h2] at hv; cases hv; rw [e, hDY] at h3; cases h3)
      · have hvd : X.ownsRow w.heap.size 2 1 (.slice (some ⟨g, 0, none⟩) N N) N ((copyN sh st off da).map (.int .i64)) := by
          have := HI.out.vd; rw [List.length_range, ← copyN_length sh st off da, partN_all] at this; exact this
        have hvd2 := own_lieG (g := D) (own_lieG hvd hlY (fun b' off' n' c' hv => by cases hv; omega)) (hlZ D) (fun b' off' n' c' hv => by cases hv; omega)
        rw [OwnI, ← HCL.out]; exact hvd2)
    have HDY := Lib.hid hDY
    clear hbY hkY hlY hloY hDY hlZ hbZ hsY hvo hY t0 t1 r0 r1 f0 f1
    refine ⟨by simp, .inl ⟨_, _, rfl, run_takeDeferred HDY.out, ?_⟩⟩
    refine ⟨.tuple #[.agg #[(.slice ov (ints sh).length cv), .slice (some ⟨g, 0, none⟩) N N], .int .i64 0], by simp [results, Tryz.results67, go_sem, z0, z1], ?_⟩
    exact ⟨hF.out.1, _, _, rfl, hF.out.2.1, hF.out.2.2⟩
  case stop =>
    rintro D c pre X hD _ h hK
    exact h.elim
end Go.Proofs.YtipjhdgegfgenaaGreat
