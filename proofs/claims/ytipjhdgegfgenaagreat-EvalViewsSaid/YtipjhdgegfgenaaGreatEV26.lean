/-
  ROWS of the kinds that see otherwise: eval.rowOf; eval.Good and eval.Call of such nodes.
-/
import Derived.Laws.EntriesVeiled
import Derived.Test.YtipjhdgegfgenaaGreatEV25
set_option linter.unusedVariables false
set_option linter.unusedSimpArgs false
namespace Go.Proofs.YtipjhdgegfgenaaGreat
open Go.RowKit Go.Shelf Go
def rowC (k : Int) : Array Value := #[.int .i64 1, .int .i64 k, .bool false, .bool false, .func (.func 36) #[] #[], .func (.func 37) #[] #[]]
@[go_sem] theorem eqNil_seen (w : World) : Sem.run Tryz.prog (binOp BinOp.eql 53 (Value.func (Fn.func 36) #[] #[]) Value.nilFunc) w = .ok (.bool false) w := by
  kernel_rfl
set_option maxRecDepth 100000 in
set_option maxHeartbeats 4000000 in
theorem rowOf19 (w : World) : Calls Tryz.prog 19 #[.int .i64 19] w fun e w' => e = .returned (.tuple #[.agg (rowC (-1)), .bool true]) ∧ Below w.heap.size w w' := by
  go_enter Tryz.func19, Tryz.ntmps19
  go_wp2
  have hb := Box.new w 56 (rowC (-1))
  refine bodyPost_ret (v := .tuple #[.agg (rowC (-1)), .bool true]) (by simp [results, Tryz.results19, go_sem, rowC]) rfl ⟨rfl, (Below.refl _ _).alloc (Nat.le_refl _) _⟩
set_option maxRecDepth 100000 in
set_option maxHeartbeats 4000000 in
theorem rowOf20 (w : World) : Calls Tryz.prog 19 #[.int .i64 20] w fun e w' => e = .returned (.tuple #[.agg (rowC (-1)), .bool true]) ∧ Below w.heap.size w w' := by
  go_enter Tryz.func19, Tryz.ntmps19
  go_wp2
  have hb := Box.new w 56 (rowC (-1))
  refine bodyPost_ret (v := .tuple #[.agg (rowC (-1)), .bool true]) (by simp [results, Tryz.results19, go_sem, rowC]) rfl ⟨rfl, (Below.refl _ _).alloc (Nat.le_refl _) _⟩
set_option maxRecDepth 100000 in
set_option maxHeartbeats 4000000 in
theorem rowOf21 (w : World) : Calls Tryz.prog 19 #[.int .i64 21] w fun e w' => e = .returned (.tuple #[.agg (rowC 3), .bool true]) ∧ Below w.heap.size w w' := by
  go_enter Tryz.func19, Tryz.ntmps19
  go_wp2
  have hb := Box.new w 56 (rowC 3)
  refine bodyPost_ret (v := .tuple #[.agg (rowC 3), .bool true]) (by simp [results, Tryz.results19, go_sem, rowC]) rfl ⟨rfl, (Below.refl _ _).alloc (Nat.le_refl _) _⟩
set_option maxRecDepth 1000000 in
set_option maxHeartbeats 8000000 in
theorem evalGood_seen (op k : Int) (oi : Option Addr) (ba fa ni ca ci : Nat) (w : World) (hrow : ∀ X, Calls Tryz.prog 19 #[.int .i64 op] X fun e w' => e = .returned (.tuple #[.agg (rowC k), .bool true]) ∧ Below X.heap.size X w') (hop : op ≠ 2) (hk : k < 0 ∨ k = ni) (hni : ni ≤ 1000) (ha : w.cell? ⟨ba, fa, none⟩ = some (.int .i64 0)) :
    Calls Tryz.prog 20 #[.agg #[.int .i64 op, .slice (some ⟨ba, fa, none⟩) 1 ca, .slice oi ni ci, .int .i64 0, .slice none 0 0, .slice none 0 0, .slice none 0 0, .slice none 0 0]] w fun e w' => e = .returned (.bool true) ∧ Below w.heap.size w w' := by
  have HRW := Lib.hid hrow
  have HA := Lib.hid ha
  obtain ⟨W, hW⟩ : ∃ W, W = w.alloc (.cells #[.int .i64 op, .slice (some ⟨ba, fa, none⟩) 1 ca, .slice oi ni ci, .int .i64 0, .slice none 0 0, .slice none 0 0, .slice none 0 0, .slice none 0 0] 27) := ⟨_, rfl⟩
  have hB : Below w.heap.size w W := by rw [hW]; exact (Below.refl _ _).alloc (Nat.le_refl _) _
  have hbx : Box W w.heap.size 27 #[.int .i64 op, .slice (some ⟨ba, fa, none⟩) 1 ca, .slice oi ni ci, .int .i64 0, .slice none 0 0, .slice none 0 0, .slice none 0 0, .slice none 0 0] := by rw [hW]; exact Box.new _ _ _
  have HX0 := Lib.hid (And.intro hbx hB)
  have HW := Lib.hid hW
  have hba : ba < w.heap.size := cell_lt ha
  have q2 : (op != 2) = true := by simp; exact hop
  clear hrow ha hW hB hbx
  rcases hk with hk | rfl
  all_goals skip
  case' inl => have hk2 : decide (0 ≤ k) = false := decide_eq_false (by omega)
  case' inr => have hk2 : decide (0 ≤ (ni : Int)) = true := decide_eq_true (by omega)
  all_goals
    go_enter Tryz.func20, Tryz.ntmps20
    go_wp2
    go_step3
    go_wp2_with (go_at_call 19; rw [← HW.out]; refine (HRW.out W).mono ?_; rintro e w1 ⟨rfl, hb1⟩; refine stopHere ?_)
    have HX1 := Lib.hid (And.intro (HX0.out.1.next hb1) (HX0.out.2.trans (hb1.mono HX0.out.2.size)))
    clear hb1
    have c1 := HX1.out.1.cell 1 rfl
    have c2 := HX1.out.1.cell 2 rfl
    have c3 := HX1.out.1.cell 3 rfl
    have hcb1 := HX1.out.1.lt
    have hn1 : decide ((ni : Int) ≤ 65536) = true := decide_eq_true (by omega)
    have hn2 : decide ((65536 : Int) < (ni : Int)) = false := decide_eq_false (by omega)
    refine goOn ?_
    simp only [rowC]
    go_wp2_with (go_at_call 39; refine (fxGood_any 0 _).mono ?_; rintro e w2 ⟨rfl, hs2⟩; rw [show wordB 0 = true from rfl]; refine stopHere ?_)
    have HX2 := Lib.hid (And.intro ((HX1.out.1.next ((Below.refl _ _).alloc (Nat.le_refl _) _)).same hs2) (And.intro ((Box.new w1 56 _).same hs2) ((below_st_alloc HX1.out.2 (Nat.le_refl _)).trans (hs2.below _))))
    clear c1 c2 c3 hcb1 hs2
    have c0 := HX2.out.1.cell 0 rfl
    have c1 := HX2.out.1.cell 1 rfl
    have c2 := HX2.out.1.cell 2 rfl
    have c4 := HX2.out.1.cell 4 rfl
    have c5 := HX2.out.1.cell 5 rfl
    have c6 := HX2.out.1.cell 6 rfl
    have c7 := HX2.out.1.cell 7 rfl
    have c3 := HX2.out.1.cell 3 rfl
    have r2 := HX2.out.2.1.cell 2 rfl
    have r3 := HX2.out.2.1.cell 3 rfl
    have a0 := (HX2.out.2.2.cell (p := ⟨ba, fa, none⟩) hba).trans HA.out
    have hcb := HX2.out.1.lt
    have hrb := HX2.out.2.1.lt
    refine goOn ?_
    go_wp2
    go_step3
    go_wp2
    go_loop [5, 7, 64] (fun g _ i => g = .bool true ∧ (i = .int .i64 0 ∨ i = .int .i64 1)) (fun _ _ i => 1 - (intOf i).toNat)
    case atStart => exact ⟨rfl, Or.inl rfl⟩
    case round =>
      obtain ⟨rfl, rfl | rfl⟩ := hrel
      · go_wp2
        go_round
        case rel => exact ⟨rfl, Or.inr rfl⟩
        case measure => simp [intOf]
      · go_wp2
        go_ret
        exact ⟨rfl, below_st_alloc HX2.out.2.2 (Nat.le_refl _)⟩
set_option maxRecDepth 1000000 in
set_option maxHeartbeats 8000000 in
theorem evalCall_seen (op k f : Int) (oi ot : Option Addr) (ba fa ni ca ci ct : Nat) (sh da : List Int) (w : World) (hrow : ∀ X, Calls Tryz.prog 19 #[.int .i64 op] X fun e w' => e = .returned (.tuple #[.agg (rowC k), .bool true]) ∧ Below X.heap.size X w') (hop : op ≠ 2) (hk : k < 0 ∨ k = ni) (hni : ni ≤ 1000) (ha : w.cell? ⟨ba, fa, none⟩ = some (.int .i64 0)) (hf : goodFB f = true)
    (hseen : ∀ X, Below w.heap.size w X → Calls Tryz.prog 36 #[.agg #[.int .i64 op, .slice (some ⟨ba, fa, none⟩) 1 ca, .slice oi ni ci, .int .i64 0, .slice none 0 0, .slice none 0 0, .slice none 0 0, .slice none 0 0, .slice ot 1 ct, .int .i64 f]] X (SeenOut X sh da)) :
    Calls Tryz.prog 7 #[.agg #[.int .i64 op, .slice (some ⟨ba, fa, none⟩) 1 ca, .slice oi ni ci, .int .i64 0, .slice none 0 0, .slice none 0 0, .slice none 0 0, .slice none 0 0], .slice ot 1 ct, .int .i64 f] w (SeenOut w sh da) := by
  have HRW := Lib.hid hrow
  have HGD := Lib.hid (show ∀ X, Below w.heap.size w X → Calls Tryz.prog 20 #[.agg #[.int .i64 op, .slice (some ⟨ba, fa, none⟩) 1 ca, .slice oi ni ci, .int .i64 0, .slice none 0 0, .slice none 0 0, .slice none 0 0, .slice none 0 0]] X fun e w' => e = .returned (.bool true) ∧ Below X.heap.size X w' from fun X h => evalGood_seen op k oi ba fa ni ca ci X hrow hop hk hni ((h.cell (p := ⟨ba, fa, none⟩) (cell_lt ha)).trans ha))
  have HGF := Lib.hid (show ∀ X, Calls Tryz.prog 21 #[.int .i64 f] X fun e w' => e = .returned (.bool true) ∧ Same X w' from fun X => by rw [← hf]; exact fxGoodF_any f X)
  have HS := Lib.hid hseen
  obtain ⟨W, hW⟩ : ∃ W, W = (w.alloc (.cells #[.int .i64 op, .slice (some ⟨ba, fa, none⟩) 1 ca, .slice oi ni ci, .int .i64 0, .slice none 0 0, .slice none 0 0, .slice none 0 0, .slice none 0 0] 27)).alloc (.cells #[.slice none 0 0, .slice none 0 0] 36) := ⟨_, rfl⟩
  have HX0 := Lib.hid (two_boxV w _ _ _ _ hW)
  have HW := Lib.hid hW
  clear hrow ha hW hseen hf
  go_enter Tryz.func7, Tryz.ntmps7
  go_wp2_with (go_at_call 19; rw [← HW.out]; refine (HRW.out W).mono ?_; rintro e w1 ⟨rfl, hb1⟩; refine stopHere ?_)
  have HX1 := Lib.hid (two_nextV HX0.out hb1)
  clear hb1
  have c0 := HX1.out.1.cell 0 rfl
  have c1 := HX1.out.1.cell 1 rfl
  have c2 := HX1.out.1.cell 2 rfl
  have c3 := HX1.out.1.cell 3 rfl
  have c4 := HX1.out.1.cell 4 rfl
  have c5 := HX1.out.1.cell 5 rfl
  have c6 := HX1.out.1.cell 6 rfl
  have c7 := HX1.out.1.cell 7 rfl
  have hcb1 := HX1.out.1.lt
  refine goOn ?_
  simp only [rowC]
  go_wp2_with (go_at_call 20; refine (HGD.out _ (below_st_alloc HX1.out.2.2 (Nat.le_refl _))).mono ?_; rintro e w2 ⟨rfl, hs2⟩; refine stopHere ?_)
  have hal : Below w1.heap.size w1 w2 := below_st_next hs2 (below_st_alloc (Below.refl _ _) (Nat.le_refl _)) (Nat.le_refl _)
  have HX2 := Lib.hid (And.intro ((Box.new w1 56 _).next hs2) (two_nextV HX1.out hal))
  clear c0 c1 c2 c3 c4 c5 c6 c7 hcb1 hs2 hal
  have r0 := HX2.out.1.cell 0 rfl
  have r4 := HX2.out.1.cell 4 rfl
  have hrb := HX2.out.1.lt
  refine goOn ?_
  go_wp2_with (go_at_call 21; refine (HGF.out _).mono ?_; rintro e w3 ⟨rfl, hs3⟩; refine stopHere ?_)
  have HX3 := Lib.hid (And.intro (HX2.out.1.same hs3) (two_nextV HX2.out.2 (hs3.below _)))
  clear r0 r4 hrb hs3
  have c0 := HX3.out.2.1.cell 0 rfl
  have c1 := HX3.out.2.1.cell 1 rfl
  have c2 := HX3.out.2.1.cell 2 rfl
  have c3 := HX3.out.2.1.cell 3 rfl
  have c4 := HX3.out.2.1.cell 4 rfl
  have c5 := HX3.out.2.1.cell 5 rfl
  have c6 := HX3.out.2.1.cell 6 rfl
  have c7 := HX3.out.2.1.cell 7 rfl
  have r0 := HX3.out.1.cell 0 rfl
  have r4 := HX3.out.1.cell 4 rfl
  have hrb := HX3.out.1.lt
  have hcb := HX3.out.2.1.lt
  refine goOn ?_
  go_wp2_with (go_at_call 36; refine (HS.out _ HX3.out.2.2.2).mono ?_; rintro e w4 ⟨hb4, a4, b4, rfl, hoa4, hob4⟩; refine stopHere ?_)
  have HX4 := Lib.hid (two_nextV HX3.out.2 hb4)
  have hle4 : w.heap.size + 1 < w3.heap.size := HX3.out.2.2.1.lt
  obtain ⟨oz2, cz2, hzz⟩ := own_slice hoa4
  obtain ⟨oy2, cy2, hyy⟩ := own_slice hob4
  subst hzz
  subst hyy
  obtain ⟨nz2, hnz2⟩ : ∃ nz2, nz2 = sh.length := ⟨_, rfl⟩
  obtain ⟨ny2, hny2⟩ : ∃ ny2, ny2 = da.length := ⟨_, rfl⟩
  rw [← hnz2] at hoa4
  rw [← hny2] at hob4
  simp only [← hnz2, ← hny2]
  have HO := Lib.hid (And.intro hoa4 hob4)
  have r0 : w4.cell? ⟨w.heap.size + 1, 0, none⟩ = some (.slice none 0 0) := HX4.out.2.1.cell 0 rfl
  have r1 : w4.cell? ⟨w.heap.size + 1, 1, none⟩ = some (.slice none 0 0) := HX4.out.2.1.cell 1 rfl
  have q0 := HX4.out.2.1.free 0
  have q1 := HX4.out.2.1.free 1
  clear c0 c1 c2 c3 c4 c5 c6 c7 r4 hrb hcb hb4 hoa4 hob4 hnz2 hny2
  refine goOn ?_
  go_wp2_with fail
  obtain ⟨Y, hY⟩ : ∃ Y, Y = (w4.setCell ⟨w.heap.size + 1, 0, none⟩ (.slice oz2 nz2 cz2)).setCell ⟨w.heap.size + 1, 1, none⟩ (.slice oy2 ny2 cy2) := ⟨_, rfl⟩
  have hb3 : Box Y (w.heap.size + 1) 36 #[.slice oz2 nz2 cz2, .slice oy2 ny2 cy2] := by rw [hY]; exact ((HX4.out.2.1.set 0 _).set 1 _)
  have own3 : ∀ {e : TypeId} {v : Value} {j : Nat} {l : List Value}, w4.ownsRow w3.heap.size e 1 v j l → Y.ownsRow w3.heap.size e 1 v j l := fun h => by
    rw [hY]
    exact own_st_set (own_st_set h (fun j hj => by have := (h.lt j hj).1; omega)) (fun j hj => by have := (h.lt j hj).1; omega)
  have hbel : Below w.heap.size w Y := by rw [hY]; exact below_st_set (below_st_set HX4.out.2.2 (Nat.le_succ w.heap.size)) (Nat.le_succ w.heap.size)
  have hra := own_mono (own3 HO.out.1) (show w.heap.size ≤ w3.heap.size by omega)
  have hrb := own_mono (own3 HO.out.2) (show w.heap.size ≤ w3.heap.size by omega)
  rw [← hY]
  have y0 := hb3.cell 0 rfl
  have y1 := hb3.cell 1 rfl
  have HZ := Lib.hid (And.intro hbel (And.intro hra hrb))
  clear hbel hra hrb own3 hb3 hY r0 r1 q0 q1
  refine bodyPost_ret (v := .tuple #[.agg #[.slice oz2 nz2 cz2, .slice oy2 ny2 cy2], .slice none 0 0, .int .i64 0]) (by simp [results, Tryz.results7, go_sem, y0, y1]) rfl ⟨HZ.out.1, _, _, rfl, HZ.out.2.1, HZ.out.2.2⟩
end Go.Proofs.YtipjhdgegfgenaaGreat
/-
  VALUES of nodes that see otherwise: eval.Call reshaped, turned round, in two parts.
-/
set_option linter.unusedVariables false
set_option linter.unusedSimpArgs false
namespace Go.Proofs.YtipjhdgegfgenaaGreat
open Go.RowKit Go.Shelf Go
/-- all axes, the last one first -/
def backN (n : Nat) : List Nat := (List.range n).reverse
theorem permN_back (l : List Nat) {n : Nat} (h : l.length = n) : permN l (backN n) = l.reverse := by
  subst h
  rw [permN, backN, List.map_reverse]
  congr 1
  refine List.ext_getElem (by simp) fun i h1 h2 => ?_
  simp [List.getD_eq_getElem?_getD, List.getElem?_eq_getElem h2]
theorem orderB_back (n : Nat) : orderB (ints (backN n)) n = true := by
  rw [orderB_iff]
  refine ⟨by rw [ints_length, backN, List.length_reverse, List.length_range], fun i hi => ?_⟩
  rw [ints]
  exact List.mem_map.2 ⟨i, by rw [backN, List.mem_reverse]; exact List.mem_range.2 hi, rfl⟩
theorem tens_len {t : TensD} {sh : List Nat} (hg : tensB t = true) (hs : t.sh = ints sh) : shapeB (ints sh) = true ∧ t.da.length = prodN sh := by
  simp only [tensB, Bool.and_eq_true, decide_eq_true_eq] at hg
  rw [hs] at hg
  refine ⟨hg.1, ?_⟩
  have := hg.2.1
  rw [prodL_ints] at this
  omega
theorem tens_lim {t : TensD} (hg : tensB t = true) : t.Lim := by
  simp only [tensB, shapeB, Bool.and_eq_true, decide_eq_true_eq] at hg
  have h1 := hg.1.1.1
  have h2 := hg.1.2
  have h3 := hg.2.1
  exact ⟨by omega, by omega⟩
theorem shape_one {d : Nat} {r : List Nat} (k : Nat) (hk : 1 ≤ k ∧ k ≤ d) (h : shapeB (ints (d :: r)) = true) : shapeB (ints (k :: r)) = true := by
  have hd := dims_good h
  have hp := prod_good h
  have h1 : prodN (k :: r) ≤ prodN (d :: r) := by rw [prodN, prodN]; exact Nat.mul_le_mul_right _ hk.2
  have h2 : (ints r).all dimB = true := by
    have := dims_all h
    simp only [ints, List.map_cons, List.all_cons, Bool.and_eq_true] at this
    exact this.2
  have h3 := (hd.1 d (by simp)).2
  simp only [shapeB, Bool.and_eq_true, decide_eq_true_eq]
  refine ⟨⟨by have := hd.2; rw [ints_length]; simpa using this, ?_⟩, by rw [prodL_ints]; omega⟩
  show (((k : Nat) : Int) :: ints r).all dimB = true
  rw [List.all_cons, h2, Bool.and_true, dimB]
  simp; omega
theorem view_one {d : Nat} {r : List Nat} (h : shapeB (ints (d :: r)) = true) : ViewN (1 :: r) (stepsN (d :: r)) 0 (prodN (d :: r)) :=
  have hp : ∀ x ∈ d :: r, 0 < x := fun x hx => ((dims_good h).1 x hx).1
  have hg := shape_one 1 ⟨Nat.le_refl _, hp d (by simp)⟩ h
  ⟨dims_good hg, hg, by rw [stepsN_length]; simp, fun x hx => Nat.le_trans (steps_le _ hp x hx) (prod_good h), by have := far_one d r hp; omega, prod_good h⟩
theorem view_rest {d : Nat} {r : List Nat} (hd : 2 ≤ d) (h : shapeB (ints (d :: r)) = true) : ViewN ((d - 1) :: r) (stepsN (d :: r)) (prodN r) (prodN (d :: r)) :=
  have hp : ∀ x ∈ d :: r, 0 < x := fun x hx => ((dims_good h).1 x hx).1
  have hg := shape_one (d - 1) ⟨by omega, by omega⟩ h
  ⟨dims_good hg, hg, by rw [stepsN_length]; simp, fun x hx => Nat.le_trans (steps_le _ hp x hx) (prod_good h), far_rest d r hp hd, prod_good h⟩
theorem all_rev {sh : List Nat} (h : shapeB (ints sh) = true) : shapeB (ints sh.reverse) = true := by
  have h1 := dims_good h
  have h2 := dims_all h
  have h3 := prod_good h
  simp only [shapeB, Bool.and_eq_true, decide_eq_true_eq]
  refine ⟨⟨by rw [ints_length, List.length_reverse]; exact h1.2, ?_⟩, by rw [prodL_ints, prodN_rev]; omega⟩
  rw [ints, List.map_reverse, List.all_reverse]
  exact h2
theorem view_back {sh : List Nat} (h : shapeB (ints sh) = true) : ViewN sh.reverse (stepsN sh).reverse 0 (prodN sh) :=
  have hp : ∀ x ∈ sh, 0 < x := fun x hx => ((dims_good h).1 x hx).1
  ⟨dims_good (all_rev h), all_rev h, by simp [stepsN_length], fun x hx => Nat.le_trans (steps_le _ hp x (List.mem_reverse.1 hx)) (prod_good h), by rw [far_rev _ _ (stepsN_length sh).symm]; have := far_plain sh hp; omega, prod_good h⟩
theorem call19 (f : Int) (oi ot : Option Addr) (ba fa ni ca ci ct : Nat) (t : TensD) (sh ns : List Nat) (w : World) (ht : TenssRd w (.slice ot 1 ct) [t]) (hs : t.sh = ints sh) (hg : tensB t = true) (ha : w.cell? ⟨ba, fa, none⟩ = some (.int .i64 0)) (hi : Rd w .i64 (.slice oi ni ci) (ints ns)) (hgn : shapeB (ints ns) = true) (hp : prodN ns = prodN sh) (hf : goodFB f = true) :
    Calls Tryz.prog 7 #[.agg #[.int .i64 19, .slice (some ⟨ba, fa, none⟩) 1 ca, .slice oi ni ci, .int .i64 0, .slice none 0 0, .slice none 0 0, .slice none 0 0, .slice none 0 0], .slice ot 1 ct, .int .i64 f] w (SeenOut w (ints ns) t.da) := by
  obtain ⟨h1, h2⟩ := tens_len hg hs
  have hni : ni ≤ 1000 := by
    obtain ⟨o, cap, he⟩ := rd_slice hi
    injection he with e1 e2 e3
    rw [e2, ints_length]; have := (dims_good hgn).2; omega
  refine evalCall_seen 19 (-1) f oi ot ba fa ni ca ci ct (ints ns) t.da w rowOf19 (by decide) (Or.inl (by decide)) hni ha hf fun X hX => ?_
  have hv : ViewN ns (stepsN ns) 0 t.da.length := plain_view hgn (by omega) (by rw [h2]; exact prod_good h1)
  have := seen_any 19 0 f (some ⟨ba, fa, none⟩) oi none none none none ot 1 ni 0 0 0 0 ca ci 0 0 0 0 ct t ns (stepsN ns) 0 X (ht.below hX (Nat.le_refl _)) hg (tens_lim hg) hv fun vs Y hY hv2 =>
    look19 0 (some ⟨ba, fa, none⟩) oi none none none none 1 ni 0 0 0 0 ca ci 0 0 0 0 vs sh ns Y ((hi.below hX (Nat.le_refl _)).below hY (Nat.le_refl _)) (hs ▸ hv2) h1 hgn hp
  rwa [copy_plain ns t.da (by omega)] at this
theorem call20 (f : Int) (oi ot : Option Addr) (ba fa ni ca ci ct : Nat) (t : TensD) (sh : List Nat) (w : World) (ht : TenssRd w (.slice ot 1 ct) [t]) (hs : t.sh = ints sh) (hg : tensB t = true) (ha : w.cell? ⟨ba, fa, none⟩ = some (.int .i64 0)) (hi : Rd w .i64 (.slice oi ni ci) (ints (backN sh.length))) (hf : goodFB f = true) :
    Calls Tryz.prog 7 #[.agg #[.int .i64 20, .slice (some ⟨ba, fa, none⟩) 1 ca, .slice oi ni ci, .int .i64 0, .slice none 0 0, .slice none 0 0, .slice none 0 0, .slice none 0 0], .slice ot 1 ct, .int .i64 f] w (SeenOut w (ints sh.reverse) (copyN sh.reverse (stepsN sh).reverse 0 t.da)) := by
  obtain ⟨h1, h2⟩ := tens_len hg hs
  have hni : ni ≤ 1000 := by
    obtain ⟨o, cap, he⟩ := rd_slice hi
    injection he with e1 e2 e3
    rw [e2, ints_length, backN, List.length_reverse, List.length_range]; have := (dims_good h1).2; omega
  refine evalCall_seen 20 (-1) f oi ot ba fa ni ca ci ct (ints sh.reverse) _ w rowOf20 (by decide) (Or.inl (by decide)) hni ha hf fun X hX => ?_
  have hv : ViewN sh.reverse (stepsN sh).reverse 0 t.da.length := h2 ▸ view_back h1
  refine seen_any 20 0 f (some ⟨ba, fa, none⟩) oi none none none none ot 1 ni 0 0 0 0 ca ci 0 0 0 0 ct t _ _ 0 X (ht.below hX (Nat.le_refl _)) hg (tens_lim hg) hv fun vs Y hY hv2 => ?_
  have := look20 0 (some ⟨ba, fa, none⟩) oi none none none none 1 ni 0 0 0 0 ca ci 0 0 0 0 vs sh (backN sh.length) Y ((hi.below hX (Nat.le_refl _)).below hY (Nat.le_refl _)) (hs ▸ hv2) h1 (orderB_back _)
  rwa [permN_back sh rfl, permN_back (stepsN sh) (stepsN_length sh)] at this
theorem call21 (f : Int) (oi ot : Option Addr) (ba fa ca ci ct : Nat) (t : TensD) (d : Nat) (r : List Nat) (fr to_ : Nat) (w : World) (ht : TenssRd w (.slice ot 1 ct) [t]) (hs : t.sh = ints (d :: r)) (hg : tensB t = true) (ha : w.cell? ⟨ba, fa, none⟩ = some (.int .i64 0)) (hi : Rd w .i64 (.slice oi 3 ci) [0, (fr : Int), (to_ : Int)]) (hft : fr < to_) (hto : to_ ≤ d) (hv : ViewN ((to_ - fr) :: r) (stepsN (d :: r)) (fr * prodN r) (prodN (d :: r))) (hf : goodFB f = true) :
    Calls Tryz.prog 7 #[.agg #[.int .i64 21, .slice (some ⟨ba, fa, none⟩) 1 ca, .slice oi 3 ci, .int .i64 0, .slice none 0 0, .slice none 0 0, .slice none 0 0, .slice none 0 0], .slice ot 1 ct, .int .i64 f] w (SeenOut w (ints ((to_ - fr) :: r)) (copyN ((to_ - fr) :: r) (stepsN (d :: r)) (fr * prodN r) t.da)) := by
  obtain ⟨h1, h2⟩ := tens_len hg hs
  have hp := prod_good h1
  rw [prodN] at hp
  refine evalCall_seen 21 3 f oi ot ba fa 3 ca ci ct _ _ w rowOf21 (by decide) (Or.inr (by decide)) (by decide) ha hf fun X hX => ?_
  refine seen_any 21 0 f (some ⟨ba, fa, none⟩) oi none none none none ot 1 3 0 0 0 0 ca ci 0 0 0 0 ct t _ _ _ X (ht.below hX (Nat.le_refl _)) hg (tens_lim hg) (h2 ▸ hv) fun vs Y hY hv2 => ?_
  have hb : fr * (stepsN (d :: r)).getD 0 0 ≤ 1000000 := by
    show fr * prodN r ≤ _
    have : fr * prodN r ≤ d * prodN r := Nat.mul_le_mul_right _ (by omega)
    omega
  have := look21 0 (some ⟨ba, fa, none⟩) oi none none none none 1 3 0 0 0 0 ca ci 0 0 0 0 vs (d :: r) 0 fr to_ Y ((hi.below hX (Nat.le_refl _)).below hY (Nat.le_refl _)) rfl (hs ▸ hv2) h1 (by simp) hft (by simpa using hto) hb
  simpa [stepsN] using this
end Go.Proofs.YtipjhdgegfgenaaGreat
