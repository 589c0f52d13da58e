/-
  A VIEW's VALUE: (eval.call).seen.
-/
import Derived.Test.YtipjhdgegfgenaaGreatEV24
import Derived.Test.YtipjhdgegfgenaaGreatEV12
set_option linter.unusedVariables false
set_option linter.unusedSimpArgs false
namespace Go.Proofs.YtipjhdgegfgenaaGreat
open Go.RowKit Go.Shelf Go
theorem keep10V {w2 W : World} {a0 a1 a2 a3 a4 a5 a6 a7 a8 a9 : Addr} {v0 v1 v2 v3 v4 v5 v6 v7 v8 v9 : Value} (hc : w2.cell? a0 = some v0 ∧ w2.cell? a1 = some v1 ∧ w2.cell? a2 = some v2 ∧ w2.cell? a3 = some v3 ∧ w2.cell? a4 = some v4 ∧ w2.cell? a5 = some v5 ∧ w2.cell? a6 = some v6 ∧ w2.cell? a7 = some v7 ∧ w2.cell? a8 = some v8 ∧ w2.cell? a9 = some v9) (h : Below w2.heap.size w2 W) : W.cell? a0 = some v0 ∧ W.cell? a1 = some v1 ∧ W.cell? a2 = some v2 ∧ W.cell? a3 = some v3 ∧ W.cell? a4 = some v4 ∧ W.cell? a5 = some v5 ∧ W.cell? a6 = some v6 ∧ W.cell? a7 = some v7 ∧ W.cell? a8 = some v8 ∧ W.cell? a9 = some v9 :=
  ⟨(h.cell (World.block_lt_of_cell? w2 a0 hc.1)).trans hc.1, (h.cell (World.block_lt_of_cell? w2 a1 hc.2.1)).trans hc.2.1, (h.cell (World.block_lt_of_cell? w2 a2 hc.2.2.1)).trans hc.2.2.1, (h.cell (World.block_lt_of_cell? w2 a3 hc.2.2.2.1)).trans hc.2.2.2.1, (h.cell (World.block_lt_of_cell? w2 a4 hc.2.2.2.2.1)).trans hc.2.2.2.2.1, (h.cell (World.block_lt_of_cell? w2 a5 hc.2.2.2.2.2.1)).trans hc.2.2.2.2.2.1, (h.cell (World.block_lt_of_cell? w2 a6 hc.2.2.2.2.2.2.1)).trans hc.2.2.2.2.2.2.1, (h.cell (World.block_lt_of_cell? w2 a7 hc.2.2.2.2.2.2.2.1)).trans hc.2.2.2.2.2.2.2.1, (h.cell (World.block_lt_of_cell? w2 a8 hc.2.2.2.2.2.2.2.2.1)).trans hc.2.2.2.2.2.2.2.2.1, (h.cell (World.block_lt_of_cell? w2 a9 hc.2.2.2.2.2.2.2.2.2)).trans hc.2.2.2.2.2.2.2.2.2⟩
theorem keep5V {w2 W : World} {a0 a1 a2 a3 a4 : Addr} {v0 v1 v2 v3 v4 : Value} (hc : w2.cell? a0 = some v0 ∧ w2.cell? a1 = some v1 ∧ w2.cell? a2 = some v2 ∧ w2.cell? a3 = some v3 ∧ w2.cell? a4 = some v4) (h : Below w2.heap.size w2 W) : W.cell? a0 = some v0 ∧ W.cell? a1 = some v1 ∧ W.cell? a2 = some v2 ∧ W.cell? a3 = some v3 ∧ W.cell? a4 = some v4 :=
  ⟨(h.cell (World.block_lt_of_cell? w2 a0 hc.1)).trans hc.1, (h.cell (World.block_lt_of_cell? w2 a1 hc.2.1)).trans hc.2.1, (h.cell (World.block_lt_of_cell? w2 a2 hc.2.2.1)).trans hc.2.2.1, (h.cell (World.block_lt_of_cell? w2 a3 hc.2.2.2.1)).trans hc.2.2.2.1, (h.cell (World.block_lt_of_cell? w2 a4 hc.2.2.2.2)).trans hc.2.2.2.2⟩
/-- a view's box, its rows one's own -/
structure LookEnd (w2 w' : World) (v t : Value) (g : Nat) (off : Int) (xs ys : List Int) : Prop where
  low : Below w2.heap.size w2 w'
  le : w2.heap.size ≤ g
  box : Box w' g 81 #[v, t, .int .i64 off]
  vs : OwnI w' w2.heap.size 3 .i64 v xs
  vt : OwnI w' w2.heap.size 3 .i64 t ys
theorem LookEnd.e1 {w2 w7 : World} {v t : Value} {off : Int} {xs ys : List Int} (hx : Below w2.heap.size w2 w7) (hv : OwnI w7 w2.heap.size 3 .i64 v xs) (ht : OwnI w7 w2.heap.size 3 .i64 t ys) :
    LookEnd w2 (w7.alloc (.cells #[v, t, .int .i64 off] 81)) v t w7.heap.size off xs ys :=
  ⟨below_st_alloc hx (Nat.le_refl _), hx.size, Box.new _ _ _, own_st_alloc hv, own_st_alloc ht⟩
theorem LookEnd.e2 {w2 w7 : World} {g : Nat} {v t : Value} {off : Int} {xs ys : List Int} (hz : Box w7 g 81 #[.slice none 0 0, .slice none 0 0, .int .i64 0]) (hle : w2.heap.size ≤ g) (hx : Below w2.heap.size w2 w7) (hv : OwnI w7 w2.heap.size 3 .i64 v xs) (ht : OwnI w7 w2.heap.size 3 .i64 t ys) (hl : ∀ j, v.ownBlock = some j → j ≠ g) (hk : ∀ j, t.ownBlock = some j → j ≠ g) :
    LookEnd w2 (((w7.setCell ⟨g, 0, none⟩ v).setCell ⟨g, 1, none⟩ t).setCell ⟨g, 2, none⟩ (.int .i64 off)) v t g off xs ys :=
  ⟨below_st_set (below_st_set (below_st_set hx hle) hle) hle, hle, ((hz.set 0 v).set 1 t).set 2 _, own_st_set (own_st_set (own_st_set hv hl) hl) hl, own_st_set (own_st_set (own_st_set ht hk) hk) hk⟩
theorem LookEnd.same {w2 w' w'' : World} {v t : Value} {g : Nat} {off : Int} {xs ys : List Int} (h : LookEnd w2 w' v t g off xs ys) (hs : Same w' w'') : LookEnd w2 w'' v t g off xs ys :=
  ⟨h.low.trans (hs.below _), h.le, h.box.same hs, own_same h.vs hs, own_same h.vt hs⟩
/-- a tensor's box, its rows one's own -/
structure TenEnd (w2 w' : World) (v t : Value) (g : Nat) (xs ys : List Int) : Prop where
  low : Below w2.heap.size w2 w'
  le : w2.heap.size ≤ g
  box : Box w' g 36 #[v, t]
  vs : OwnI w' w2.heap.size 3 .i64 v xs
  vt : OwnI w' w2.heap.size 2 .i64 t ys
theorem TenEnd.e1 {w2 w7 : World} {v t : Value} {xs ys : List Int} (hx : Below w2.heap.size w2 w7) (hv : OwnI w7 w2.heap.size 3 .i64 v xs) (ht : OwnI w7 w2.heap.size 2 .i64 t ys) :
    TenEnd w2 (w7.alloc (.cells #[v, t] 36)) v t w7.heap.size xs ys :=
  ⟨below_st_alloc hx (Nat.le_refl _), hx.size, Box.new _ _ _, own_st_alloc hv, own_st_alloc ht⟩
theorem TenEnd.e2 {w2 w7 : World} {g : Nat} {v t : Value} {xs ys : List Int} (hz : Box w7 g 36 #[.slice none 0 0, .slice none 0 0]) (hle : w2.heap.size ≤ g) (hx : Below w2.heap.size w2 w7) (hv : OwnI w7 w2.heap.size 3 .i64 v xs) (ht : OwnI w7 w2.heap.size 2 .i64 t ys) (hl : ∀ j, v.ownBlock = some j → j ≠ g) (hk : ∀ j, t.ownBlock = some j → j ≠ g) :
    TenEnd w2 ((w7.setCell ⟨g, 0, none⟩ v).setCell ⟨g, 1, none⟩ t) v t g xs ys :=
  ⟨below_st_set (below_st_set hx hle) hle, hle, (hz.set 0 v).set 1 t, own_st_set (own_st_set hv hl) hl, own_st_set (own_st_set ht hk) hk⟩
theorem TenEnd.same {w2 w' w'' : World} {v t : Value} {g : Nat} {xs ys : List Int} (h : TenEnd w2 w' v t g xs ys) (hs : Same w' w'') : TenEnd w2 w'' v t g xs ys :=
  ⟨h.low.trans (hs.below _), h.le, h.box.same hs, own_same h.vs hs, own_same h.vt hs⟩
/-- a value, its picks (none), no error -/
def SeenOut (w0 : World) (sh : List Int) (da : List Int) (e : Ending) (w' : World) : Prop :=
  Below w0.heap.size w0 w' ∧ ∃ a b, e = .returned (.tuple #[.agg #[a, b], .slice none 0 0, .int .i64 0]) ∧ OwnI w' w0.heap.size 3 .i64 a sh ∧ OwnI w' w0.heap.size 2 .i64 b da
set_option maxRecDepth 1000000 in
set_option maxHeartbeats 8000000 in
theorem seen_any (op word f : Int) (oa oi o1 o2 o3 o4 ot : Option Addr) (na ni n1 n2 n3 n4 ca ci c1 c2 c3 c4 ct : Nat) (t : TensD) (sh st : List Nat) (of_ : Nat) (w : World) (ht : TenssRd w (.slice ot 1 ct) [t]) (hg : tensB t = true) (hl : t.Lim) (hv : ViewN sh st of_ t.da.length)
    (hlook : ∀ vs X, Below w.heap.size w X → Rd X .i64 vs t.sh → Calls Tryz.prog 66 #[.agg #[.int .i64 op, .slice oa na ca, .slice oi ni ci, .int .i64 word, .slice o1 n1 c1, .slice o2 n2 c2, .slice o3 n3 c3, .slice o4 n4 c4], vs] X (ViewOk X (ints sh) (ints st) of_)) :
    Calls Tryz.prog 36 #[.agg #[.int .i64 op, .slice oa na ca, .slice oi ni ci, .int .i64 word, .slice o1 n1 c1, .slice o2 n2 c2, .slice o3 n3 c3, .slice o4 n4 c4, .slice ot 1 ct, .int .i64 f]] w (SeenOut w (ints sh) (copyN sh st of_ t.da)) := by
  obtain ⟨bt, ft, vs, vd, hot, e0, e1, hs, hd⟩ := ht.tens 0 (by simp)
  subst hot
  rw [Nat.zero_mul, Nat.add_zero] at e0 e1
  rw [show tnth [t] 0 = t from rfl] at hs hd
  obtain ⟨os, cs, rfl⟩ := rd_slice hs
  obtain ⟨od, cd, rfl⟩ := rd_slice hd
  have HTR := Lib.hid (And.intro hs hd)
  obtain ⟨m, hm⟩ : ∃ m, m = t.sh.length := ⟨_, rfl⟩
  obtain ⟨n, hn⟩ : ∃ n, n = t.da.length := ⟨_, rfl⟩
  have HMN := Lib.hid (And.intro hm hn)
  rw [← hm] at e0 hs
  rw [← hn] at e1 hd
  have HTT := Lib.hid (And.intro hs hd)
  have HE := Lib.hid (And.intro e0 e1)
  have HV := Lib.hid hv
  have HL := Lib.hid hlook
  have HGD := Lib.hid (show ∀ X, Below w.heap.size w X → Calls Tryz.prog 65 #[.agg #[.slice os m cs, .slice od n cd]] X fun e w' => e = .returned (.bool true) ∧ Below X.heap.size X w' from fun X h => by
    have := elemGood_any (.slice os m cs) (.slice od n cd) t X (HTT.out.1.below h (Nat.le_refl _)) (HTT.out.2.below h (Nat.le_refl _)) hl
    rw [hg] at this; exact this)
  have HCP := Lib.hid (show ∀ a b X Y, Below w.heap.size w X → Below X.heap.size X Y → OwnI X w.heap.size 3 .i64 a (ints sh) → OwnI X w.heap.size 3 .i64 b (ints st) → Calls Tryz.prog 67 #[.agg #[a, b, .int .i64 of_], .slice od n cd] Y (TenOut Y (ints sh) (copyN sh st of_ t.da)) from fun a b X Y h h2 ha hb =>
    callsIn_wide.1 (viewCopy_in a b (.slice od n cd) sh st of_ t.da Y ((Rd.of_own ha).below h2 (Nat.le_refl _)) ((Rd.of_own hb).below h2 (Nat.le_refl _)) (HTT.out.2.below (h.trans (h2.mono h.size)) (Nat.le_refl _)) HV.out (by simp only [tensB, Bool.and_eq_true] at hg; exact hg.2.2)))
  obtain ⟨W, hW⟩ : ∃ W, W = (w.alloc (.cells #[.int .i64 op, .slice oa na ca, .slice oi ni ci, .int .i64 word, .slice o1 n1 c1, .slice o2 n2 c2, .slice o3 n3 c3, .slice o4 n4 c4, .slice (some ⟨bt, ft, none⟩) 1 ct, .int .i64 f] 61)).alloc (.cells #[.slice none 0 0, .slice none 0 0] 36) := ⟨_, rfl⟩
  have HX := Lib.hid (two_boxV w _ _ _ _ hW)
  have HW := Lib.hid hW
  have hbtw : bt < w.heap.size := cell_lt e0
  clear ht hs hd hv hlook hg hl hm hn hW
  go_enter Tryz.func36, Tryz.ntmps36
  go_wp2_with (go_at_call 65; rw [← HW.out]; refine (HGD.out W HX.out.2.2).mono ?_; rintro e w2 ⟨rfl, hb1⟩; refine stopHere ?_)
  have HX2 := Lib.hid (two_nextV HX.out hb1)
  clear hb1 e0 e1
  refine goOn ?_
  have HC := Lib.hid (show w2.cell? ⟨w.heap.size, 0, none⟩ = some (.int .i64 op) ∧ w2.cell? ⟨w.heap.size, 1, none⟩ = some (.slice oa na ca) ∧ w2.cell? ⟨w.heap.size, 2, none⟩ = some (.slice oi ni ci) ∧ w2.cell? ⟨w.heap.size, 3, none⟩ = some (.int .i64 word) ∧ w2.cell? ⟨w.heap.size, 4, none⟩ = some (.slice o1 n1 c1) ∧ w2.cell? ⟨w.heap.size, 5, none⟩ = some (.slice o2 n2 c2) ∧ w2.cell? ⟨w.heap.size, 6, none⟩ = some (.slice o3 n3 c3) ∧ w2.cell? ⟨w.heap.size, 7, none⟩ = some (.slice o4 n4 c4) ∧ w2.cell? ⟨w.heap.size, 8, none⟩ = some (.slice (some ⟨bt, ft, none⟩) 1 ct) ∧ w2.cell? ⟨bt, ft, none⟩ = some (.slice os m cs) from ⟨HX2.out.1.cell 0 rfl, HX2.out.1.cell 1 rfl, HX2.out.1.cell 2 rfl, HX2.out.1.cell 3 rfl, HX2.out.1.cell 4 rfl, HX2.out.1.cell 5 rfl, HX2.out.1.cell 6 rfl, HX2.out.1.cell 7 rfl, HX2.out.1.cell 8 rfl, (HX2.out.2.2.cell (p := ⟨bt, ft, none⟩) hbtw).trans HE.out.1⟩)
  have HXX := Lib.hid HX2.out.2.2
  have HX := Lib.hid (Below.refl w2.heap.size w2)
  have hbt2 : bt < w2.heap.size := Nat.lt_of_lt_of_le hbtw HX2.out.2.2.size
  have hcb2 : w.heap.size + 1 < w2.heap.size := HX2.out.2.1.lt
  go_upto_region 3 with fail
  go_cut [5, 6] (fun s5 s6 wx => ∃ g a b, s5 = .pointer (some ⟨g, 0, none⟩) ∧ s6 = .int .i64 0 ∧ LookEnd w2 wx a b g of_ (ints sh) (ints st))
  case first =>
    go_region_held3 (fun w' => w'.cell? ⟨w.heap.size, 0, none⟩ = some (.int .i64 op) ∧ w'.cell? ⟨w.heap.size, 1, none⟩ = some (.slice oa na ca) ∧ w'.cell? ⟨w.heap.size, 2, none⟩ = some (.slice oi ni ci) ∧ w'.cell? ⟨w.heap.size, 3, none⟩ = some (.int .i64 word) ∧ w'.cell? ⟨w.heap.size, 4, none⟩ = some (.slice o1 n1 c1) ∧ w'.cell? ⟨w.heap.size, 5, none⟩ = some (.slice o2 n2 c2) ∧ w'.cell? ⟨w.heap.size, 6, none⟩ = some (.slice o3 n3 c3) ∧ w'.cell? ⟨w.heap.size, 7, none⟩ = some (.slice o4 n4 c4) ∧ w'.cell? ⟨w.heap.size, 8, none⟩ = some (.slice (some ⟨bt, ft, none⟩) 1 ct) ∧ w'.cell? ⟨bt, ft, none⟩ = some (.slice os m cs))
      ((refine keep10V HC.out ?_; (repeat (first | with_reducible exact HX.out | with_reducible exact Below.refl _ _ | with_reducible refine Below.drew ?_ | with_reducible refine Below.alloc ?_ (by first | with_reducible exact HX.out.size | with_reducible exact Nat.le_refl _ | (simp; done) | (have := HX.out.size; simp; omega)) _ | with_reducible refine Below.setCell ?_ (by first | with_reducible exact Nat.le_refl _ | with_reducible exact HX.out.size | (have := HX.out.size; simp; omega)) _))))
      ((first
      | (go_at_call 66; refine (HL.out _ _ (HXX.out.trans ((show Below w2.heap.size w2 _ from (by repeat (first | with_reducible exact Below.refl _ _ | with_reducible refine Below.drew ?_ | with_reducible refine below_st_alloc ?_ (Nat.le_refl _)))).mono HXX.out.size)) (HTT.out.1.below (HXX.out.trans ((show Below w2.heap.size w2 _ from (by repeat (first | with_reducible exact Below.refl _ _ | with_reducible refine Below.drew ?_ | with_reducible refine below_st_alloc ?_ (Nat.le_refl _)))).mono HXX.out.size)) (Nat.le_refl _))).mono ?_; rintro e w3 ⟨hb3, a3, b3, rfl, hoa3, hob3⟩; obtain ⟨oz, cz, hzz⟩ := own_slice hoa3; obtain ⟨oy, cy, hyy⟩ := own_slice hob3; subst hzz; subst hyy;
         have hx3 : Below w2.heap.size w2 w3 := (by refine below_st_next hb3 ?_ (Nat.le_refl _); exact (by repeat (first | with_reducible exact Below.refl _ _ | with_reducible refine Below.drew ?_ | with_reducible refine below_st_alloc ?_ (Nat.le_refl _))));
         (first | (with_reducible have hz : Box w3 w2.heap.size 81 #[.slice none 0 0, .slice none 0 0, .int .i64 0] := by first | exact new_next hb3 | exact new_nextD hb3); have hl3 : ∀ j, (Value.slice oz (ints sh).length cz).ownBlock = some j → w2.heap.size < j := (fun j hj => by have := hoa3.lt j hj; (try simp at this); omega); have hk3 : ∀ j, (Value.slice oy (ints st).length cy).ownBlock = some j → w2.heap.size < j := (fun j hj => by have := hob3.lt j hj; (try simp at this); omega); have z0 : w3.cell? ⟨w2.heap.size, 0, none⟩ = some (.slice none 0 0) := hz.cell 0 rfl; have z1 : w3.cell? ⟨w2.heap.size, 1, none⟩ = some (.slice none 0 0) := hz.cell 1 rfl; have z2 : w3.cell? ⟨w2.heap.size, 2, none⟩ = some (.int .i64 0) := hz.cell 2 rfl; have zf0 := hz.free 0; have zf1 := hz.free 1; have zf2 := hz.free 2 | skip);
         have HX := Lib.hid hx3)))
    all_goals
      have hv3 := own_mono hoa3 (show w2.heap.size ≤ _ by first | exact Nat.le_refl _ | (simp; done) | (simp; omega))
      have ht3 := own_mono hob3 (show w2.heap.size ≤ _ by first | exact Nat.le_refl _ | (simp; done) | (simp; omega))
      go_wp2_with fail
      go_meet
      first
        | exact ⟨_, _, _, rfl, rfl, LookEnd.e1 hx3 hv3 ht3⟩
        | exact ⟨_, _, _, rfl, rfl, LookEnd.e2 hz (Nat.le_refl _) hx3 hv3 ht3 (fun j hj => by have := hl3 j hj; omega) (fun j hj => by have := hk3 j hj; omega)⟩
  case rest =>
    obtain ⟨g, a, b, rfl, rfl, hE⟩ := hcut
    obtain ⟨w4, rfl⟩ : ∃ w4, w4 = wc := ⟨_, rfl⟩
    obtain ⟨oz, cz, hzz⟩ := own_slice hE.vs
    obtain ⟨oy, cy, hyy⟩ := own_slice hE.vt
    subst hzz
    subst hyy
    rw [show (ints st).length = (ints sh).length by rw [ints_length, ints_length, HV.out.len]] at hE
    obtain ⟨nz, hnz⟩ : ∃ nz, nz = (ints sh).length := ⟨_, rfl⟩
    rw [← hnz] at hE
    have HX4 := Lib.hid (two_nextV HX2.out hE.low)
    have HE4 := Lib.hid hE
    have hlow4 := HX4.out.2.2
    have HCALL := Lib.hid (show ∀ Y, Below w4.heap.size w4 Y → Calls Tryz.prog 67 #[.agg #[.slice oz nz cz, .slice oy nz cy, .int .i64 of_], .slice od n cd] Y (TenOut Y (ints sh) (copyN sh st of_ t.da)) from fun Y hY =>
      HCP.out _ _ w4 Y HX4.out.2.2 hY (own_mono hE.vs (by omega)) (own_mono hE.vt (by omega)))
    have hg4 : g < w4.heap.size := hE.box.lt
    have hbt4 : bt < w4.heap.size := Nat.lt_of_lt_of_le hbt2 hE.low.size
    have hcb4 : w.heap.size + 1 < w4.heap.size := HX4.out.2.1.lt
    have HC := Lib.hid (show w4.cell? ⟨w.heap.size, 8, none⟩ = some (.slice (some ⟨bt, ft, none⟩) 1 ct) ∧ w4.cell? ⟨bt, ft + 1, none⟩ = some (.slice od n cd) ∧ w4.cell? ⟨g, 0, none⟩ = some (.slice oz nz cz) ∧ w4.cell? ⟨g, 1, none⟩ = some (.slice oy nz cy) ∧ w4.cell? ⟨g, 2, none⟩ = some (.int .i64 of_) from
      ⟨HX4.out.1.cell 8 rfl, (hlow4.cell (p := ⟨bt, ft + 1, none⟩) hbtw).trans HE.out.2, hE.box.cell 0 rfl, hE.box.cell 1 rfl, hE.box.cell 2 rfl⟩)
    clear hE hnz hlow4 HX
    have HX := Lib.hid (Below.refl w4.heap.size w4)
    go_upto_region 6 with fail
    go_cut [6, 7] (fun s6 s7 wx => ∃ g2 a b, s6 = .int .i64 0 ∧ s7 = .pointer (some ⟨g2, 0, none⟩) ∧ TenEnd w4 wx a b g2 (ints sh) (copyN sh st of_ t.da))
    case first =>
      go_region_held3 (fun w' => w'.cell? ⟨w.heap.size, 8, none⟩ = some (.slice (some ⟨bt, ft, none⟩) 1 ct) ∧ w'.cell? ⟨bt, ft + 1, none⟩ = some (.slice od n cd) ∧ w'.cell? ⟨g, 0, none⟩ = some (.slice oz nz cz) ∧ w'.cell? ⟨g, 1, none⟩ = some (.slice oy nz cy) ∧ w'.cell? ⟨g, 2, none⟩ = some (.int .i64 of_))
        ((refine keep5V HC.out ?_; (repeat (first | with_reducible exact HX.out | with_reducible exact Below.refl _ _ | with_reducible refine Below.drew ?_ | with_reducible refine Below.alloc ?_ (by first | with_reducible exact HX.out.size | with_reducible exact Nat.le_refl _ | (simp; done) | (have := HX.out.size; simp; omega)) _ | with_reducible refine Below.setCell ?_ (by first | with_reducible exact Nat.le_refl _ | with_reducible exact HX.out.size | (have := HX.out.size; simp; omega)) _))))
        ((first
        | (go_at_call 67; refine (HCALL.out _ (show Below w4.heap.size w4 _ from (by repeat (first | with_reducible exact Below.refl _ _ | with_reducible refine Below.drew ?_ | with_reducible refine below_st_alloc ?_ (Nat.le_refl _))))).mono ?_; rintro e w5 ⟨hb5, a5, b5, rfl, hoa5, hob5⟩; obtain ⟨op5, cp5, hzz⟩ := own_slice hoa5; obtain ⟨oq5, cq5, hyy⟩ := own_slice hob5; subst hzz; subst hyy;
           have hx5 : Below w4.heap.size w4 w5 := (by refine below_st_next hb5 ?_ (Nat.le_refl _); exact (by repeat (first | with_reducible exact Below.refl _ _ | with_reducible refine Below.drew ?_ | with_reducible refine below_st_alloc ?_ (Nat.le_refl _))));
           (first | (with_reducible have hz : Box w5 w4.heap.size 36 #[.slice none 0 0, .slice none 0 0] := by first | exact new_next hb5 | exact new_nextD hb5); have hl5 : ∀ j, (Value.slice op5 (ints sh).length cp5).ownBlock = some j → w4.heap.size < j := (fun j hj => by have := hoa5.lt j hj; (try simp at this); omega); have hk5 : ∀ j, (Value.slice oq5 (copyN sh st of_ t.da).length cq5).ownBlock = some j → w4.heap.size < j := (fun j hj => by have := hob5.lt j hj; (try simp at this); omega); have z0 : w5.cell? ⟨w4.heap.size, 0, none⟩ = some (.slice none 0 0) := hz.cell 0 rfl; have z1 : w5.cell? ⟨w4.heap.size, 1, none⟩ = some (.slice none 0 0) := hz.cell 1 rfl; have zf0 := hz.free 0; have zf1 := hz.free 1 | skip);
           have HX := Lib.hid hx5)))
      all_goals
        have hv5 := own_mono hoa5 (show w4.heap.size ≤ _ by first | exact Nat.le_refl _ | (simp; done) | (simp; omega))
        have ht5 := own_mono hob5 (show w4.heap.size ≤ _ by first | exact Nat.le_refl _ | (simp; done) | (simp; omega))
        go_wp2_with fail
        go_meet
        first
          | exact ⟨_, _, _, rfl, rfl, TenEnd.e1 hx5 hv5 ht5⟩
          | exact ⟨_, _, _, rfl, rfl, TenEnd.e2 hz (Nat.le_refl _) hx5 hv5 ht5 (fun j hj => by have := hl5 j hj; omega) (fun j hj => by have := hk5 j hj; omega)⟩
    case rest =>
      obtain ⟨g2, a, b, rfl, rfl, hE⟩ := hcut
      obtain ⟨w6, rfl⟩ : ∃ w6, w6 = wc := ⟨_, rfl⟩
      obtain ⟨oz2, cz2, hzz⟩ := own_slice hE.vs
      obtain ⟨oy2, cy2, hyy⟩ := own_slice hE.vt
      subst hzz
      subst hyy
      obtain ⟨nz2, hnz2⟩ : ∃ nz2, nz2 = (ints sh).length := ⟨_, rfl⟩
      obtain ⟨ny2, hny2⟩ : ∃ ny2, ny2 = (copyN sh st of_ t.da).length := ⟨_, rfl⟩
      rw [← hnz2, ← hny2] at hE
      have HX6 := Lib.hid (two_nextV HX4.out hE.low)
      have HE6 := Lib.hid hE
      have t0 : w6.cell? ⟨g2, 0, none⟩ = some (.slice oz2 nz2 cz2) := hE.box.cell 0 rfl
      have t1 : w6.cell? ⟨g2, 1, none⟩ = some (.slice oy2 ny2 cy2) := hE.box.cell 1 rfl
      have r0 : w6.cell? ⟨w.heap.size + 1, 0, none⟩ = some (.slice none 0 0) := HX6.out.2.1.cell 0 rfl
      have r1 : w6.cell? ⟨w.heap.size + 1, 1, none⟩ = some (.slice none 0 0) := HX6.out.2.1.cell 1 rfl
      have q0 := HX6.out.2.1.free 0
      have q1 := HX6.out.2.1.free 1
      clear hE hnz2 hny2 HC HX
      go_wp2_with fail
      obtain ⟨Y, hY⟩ : ∃ Y, Y = (w6.setCell ⟨w.heap.size + 1, 0, none⟩ (.slice oz2 nz2 cz2)).setCell ⟨w.heap.size + 1, 1, none⟩ (.slice oy2 ny2 cy2) := ⟨_, rfl⟩
      have hb3 : Box Y (w.heap.size + 1) 36 #[.slice oz2 nz2 cz2, .slice oy2 ny2 cy2] := by rw [hY]; exact ((HX6.out.2.1.set 0 _).set 1 _)
      have own3 : ∀ {e : TypeId} {v : Value} {j : Nat} {l : List Value}, w6.ownsRow w4.heap.size e 1 v j l → Y.ownsRow w4.heap.size e 1 v j l := fun h => by
        rw [hY]
        exact own_st_set (own_st_set h (fun j hj => by have := (h.lt j hj).1; omega)) (fun j hj => by have := (h.lt j hj).1; omega)
      have hbel : Below w.heap.size w Y := by rw [hY]; exact below_st_set (below_st_set HX6.out.2.2 (Nat.le_succ w.heap.size)) (Nat.le_succ w.heap.size)
      have hra := own_mono (own3 HE6.out.vs) (show w.heap.size ≤ w4.heap.size by omega)
      have hrb := own_mono (own3 HE6.out.vt) (show w.heap.size ≤ w4.heap.size by omega)
      rw [← hY]
      have y0 := hb3.cell 0 rfl
      have y1 := hb3.cell 1 rfl
      have HZ := Lib.hid (And.intro hbel (And.intro hra hrb))
      clear hbel hra hrb own3 hb3 hY t0 t1 r0 r1 q0 q1
      refine bodyPost_ret (v := .tuple #[.agg #[.slice oz2 nz2 cz2, .slice oy2 ny2 cy2], .slice none 0 0, .int .i64 0]) (by simp [results, Tryz.results36, go_sem, y0, y1]) rfl ⟨HZ.out.1, _, _, rfl, HZ.out.2.1, HZ.out.2.2⟩
end Go.Proofs.YtipjhdgegfgenaaGreat
