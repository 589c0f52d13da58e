/-
  A PART of an axis: ratchet/ratchetref6.Slice, where the rows are copied.
-/
import Derived.Test.YtipjhdgegfgenaaGreatEV21
import Derived.Test.YtipjhdgegfgenaaGreatEV22
set_option linter.unusedVariables false
set_option linter.unusedSimpArgs false
namespace Go.Proofs.YtipjhdgegfgenaaGreat
open Go.RowKit Go.Shelf Go
noncomputable def sliceF (n : Nat) : Code := (Tryz.f91.body.bind (findRV n)).getD .skip
set_option maxRecDepth 1000000 in
set_option maxHeartbeats 20000000 in
theorem slice_rF (w2 : World) (vb b2 f2 m ca cb y fr z off : Nat) (oa : Option Addr) (sh st : List Nat) (u0 u3 u5 u6 u7 u8 u9 u10 u11 u12 u13 u14 u15 u16 u17 u18 u19 u20 u21 u22 u23 u24 u25 u26 u27 u28 u29 u30 u31 u32 u33 u34 : Value)
    (hb : Box w2 vb 81 #[.slice oa m ca, .slice (some ⟨b2, f2, none⟩) m cb, .int .i64 off]) (hra : Rd w2 .i64 (.slice oa m ca) (ints sh)) (hrb : Rd w2 .i64 (.slice (some ⟨b2, f2, none⟩) m cb) (ints st)) (hy : y < m) (hm : m ≤ 1000) (hl1 : (ints sh).length ≤ 1000) (hl2 : (ints st).length ≤ 1000) (he : w2.cell? ⟨b2, f2 + y, none⟩ = some (.int .i64 (z : Nat)))
    (hbd : fr * z ≤ 1000000) (hoff : off ≤ 1000000)
    (K : Act → World → Prop) (hQ : ∀ (t10 t11 t12 t13 t14 t15 t16 t17 t18 t19 t20 t21 t22 t23 t24 t25 t26 : Value) (vs vt : Value) (g : Nat) (w' : World), SliceEnd w2 w' vs vt g ((off + fr * z : Nat) : Int) (ints sh) (ints st) → K ⟨#[u0, .int .i64 y, .int .i64 fr, u3, .pointer (some ⟨vb, 0, none⟩), u5, u6, u7, u8, .pointer (some ⟨g, 0, none⟩), t10, t11, t12, t13, t14, t15, t16, t17, t18, t19, t20, t21, t22, t23, t24, t25, t26, u27, u28, u29, u30, u31, u32, u33, u34], []⟩ w') :
    Code.wp Tryz.prog (sliceF 1) (onlyNV K) ⟨#[u0, .int .i64 y, .int .i64 fr, u3, .pointer (some ⟨vb, 0, none⟩), u5, u6, u7, u8, u9, u10, u11, u12, u13, u14, u15, u16, u17, u18, u19, u20, u21, u22, u23, u24, u25, u26, u27, u28, u29, u30, u31, u32, u33, u34], []⟩ w2 := by
  have HQ := Lib.hid hQ
  have HBX := Lib.hid hb
  have HR := Lib.hid (And.intro hra hrb)
  have HE := Lib.hid (And.intro (cell_lt he) he)
  have hbi : (fr : Int) * (z : Int) ≤ 1000000 := by
    have h : ((fr * z : Nat) : Int) ≤ 1000000 := by omega
    rwa [Int.natCast_mul] at h
  have hbi0 : (0 : Int) ≤ (fr : Int) * (z : Int) := Int.mul_nonneg (by omega) (by omega)
  have d0 : w2.cell? ⟨vb, 0, none⟩ = some (.slice oa m ca) := hb.cell 0 rfl
  have d1 : w2.cell? ⟨vb, 1, none⟩ = some (.slice (some ⟨b2, f2, none⟩) m cb) := hb.cell 1 rfl
  have d2 : w2.cell? ⟨vb, 2, none⟩ = some (.int .i64 off) := hb.cell 2 rfl
  have e2 := he
  have hlt2 : vb < w2.heap.size := hb.lt
  have hlb2 : b2 < w2.heap.size := cell_lt he
  clear hb hra hrb he hQ hbd
  conv => arg 2; whnf
  have HX := Lib.hid (Below.refl w2.heap.size w2)
  have HC := Lib.hid (And.intro d0 (And.intro d1 (And.intro d2 e2)))
  clear d0 d1 d2 e2
  have hwr : IntKind.i64.wrap ((off : Int) + IntKind.i64.wrap ((fr : Int) * (z : Int))) = ((off + fr * z : Nat) : Int) := by
    rw [IntWalk.i64_in ((fr : Int) * (z : Int)) (by omega), IntWalk.i64_in _ (by omega)]; push_cast; rfl
  have HWR := Lib.hid hwr
  clear hwr
  go_region_held3 (fun w' => w'.cell? ⟨vb, 0, none⟩ = some (.slice oa m ca) ∧ w'.cell? ⟨vb, 1, none⟩ = some (.slice (some ⟨b2, f2, none⟩) m cb) ∧ w'.cell? ⟨vb, 2, none⟩ = some (.int .i64 off) ∧ w'.cell? ⟨b2, f2 + y, none⟩ = some (.int .i64 (z : Nat)))
    ((refine keep4V HC.out ?_; (repeat (first | with_reducible exact HX.out | with_reducible exact Below.refl _ _ | with_reducible refine Below.drew ?_ | with_reducible refine Below.alloc ?_ (by first | with_reducible exact HX.out.size | with_reducible exact Nat.le_refl _ | (simp; done) | (have := HX.out.size; simp; omega)) _ | with_reducible refine Below.setCell ?_ (by first | with_reducible exact Nat.le_refl _ | with_reducible exact HX.out.size | (have := hx6.size; simp; omega)) _))))
    ((first
    | (go_at_call_of 53 ca; refine (copyNumbers_any _ (ints sh) _ (HR.out.1.below (by repeat (first | with_reducible exact Below.refl _ _ | with_reducible refine Below.drew ?_ | with_reducible refine below_st_alloc ?_ (Nat.le_refl _))) (Nat.le_refl _)) (by omega)).mono ?_; rintro e w6 ⟨v6, rfl, ho6, hb6⟩; obtain ⟨o6, k6, rfl⟩ := own_slice ho6;
       have hx6 : Below w2.heap.size w2 w6 := (by refine below_st_next hb6 ?_ (Nat.le_refl _); repeat (first | with_reducible exact Below.refl _ _ | with_reducible refine Below.drew ?_ | with_reducible refine below_st_alloc ?_ (Nat.le_refl _)));
       have hl6 : ∀ j, (Value.slice o6 (ints sh).length k6).ownBlock = some j → w2.heap.size ≤ j ∧ j < w6.heap.size := (fun j hj => by have := ho6.lt j hj; (try simp at this); omega);
       (first | (with_reducible have hz : Box w6 w2.heap.size 81 #[.slice none 0 0, .slice none 0 0, .int .i64 0] := by first | exact new_next hb6 | exact new_nextD hb6); have hq6 : w2.heap.size < w6.heap.size := hz.lt; have hl6' : ∀ j, (Value.slice o6 (ints sh).length k6).ownBlock = some j → w2.heap.size < j := (fun j hj => by have := ho6.lt j hj; (try simp at this); omega) | skip);
       have HX := Lib.hid hx6; have HD := Lib.hid (Box.next HBX.out hx6))
    | (go_at_call_of 53 cb; refine (copyNumbers_any _ (ints st) _ (HR.out.2.below (by repeat (first | with_reducible exact hx6 | with_reducible refine Below.drew ?_ | with_reducible refine below_st_alloc ?_ (Nat.le_refl _))) (Nat.le_refl _)) (by omega)).mono ?_; rintro e w7 ⟨v7, rfl, ho7, hb7⟩; obtain ⟨o7, k7, rfl⟩ := own_slice ho7;
       have hb67 : Below w6.heap.size w6 w7 := (by refine below_st_next hb7 ?_ (Nat.le_refl _); repeat (first | with_reducible exact Below.refl _ _ | with_reducible refine Below.drew ?_ | with_reducible refine below_st_alloc ?_ (Nat.le_refl _)));
       have hl7 : ∀ j, (Value.slice o7 (ints st).length k7).ownBlock = some j → w6.heap.size ≤ j ∧ j < w7.heap.size := (fun j hj => by have := ho7.lt j hj; (try simp at this); omega);
       (first | (with_reducible have hz : Box w7 w6.heap.size 81 #[.slice none 0 0, .slice none 0 0, .int .i64 0] := by first | exact new_next hb7 | exact new_nextD hb7); have hq : w6.heap.size < w7.heap.size := hz.lt; have hl7' : ∀ j, (Value.slice o7 (ints st).length k7).ownBlock = some j → w6.heap.size < j := (fun j hj => by have := ho7.lt j hj; (try simp at this); omega) | (have hz : Box w7 w2.heap.size 81 #[.slice none 0 0, .slice none 0 0, .int .i64 0] := hz.next hb67); have hq : w2.heap.size < w7.heap.size := hz.lt | skip);
       have hx7 := below_st_next hb67 hx6 (Nat.le_refl _); have HX := Lib.hid hx7;
       (first | (have z0 : w7.cell? ⟨w2.heap.size, 0, none⟩ = some (.slice none 0 0) := hz.cell 0 rfl; have z1 : w7.cell? ⟨w2.heap.size, 1, none⟩ = some (.slice none 0 0) := hz.cell 1 rfl; have z2 : w7.cell? ⟨w2.heap.size, 2, none⟩ = some (.int .i64 0) := hz.cell 2 rfl; have zf0 := hz.free 0; have zf1 := hz.free 1; have zf2 := hz.free 2) | (have z0 : w7.cell? ⟨w6.heap.size, 0, none⟩ = some (.slice none 0 0) := hz.cell 0 rfl; have z1 : w7.cell? ⟨w6.heap.size, 1, none⟩ = some (.slice none 0 0) := hz.cell 1 rfl; have z2 : w7.cell? ⟨w6.heap.size, 2, none⟩ = some (.int .i64 0) := hz.cell 2 rfl; have zf0 := hz.free 0; have zf1 := hz.free 1; have zf2 := hz.free 2) | skip))))
  all_goals
    rw [HWR.out]
    have hv7 := own_mono (own_st_next hb67 ho6) (show w2.heap.size ≤ _ by first | exact Nat.le_refl _ | (simp; done) | (simp; omega))
    have ht7 := own_mono ho7 (show w2.heap.size ≤ _ by first | exact hx6.size | (simp; have := hx6.size; omega))
    have hlv : ∀ j, (Value.slice o6 (ints sh).length k6).ownBlock = some j → j < w7.heap.size ∧ (Value.slice o7 (ints st).length k7).ownBlock ≠ some j := fun j hj => ⟨Nat.lt_of_lt_of_le (hl6 j hj).2 hb67.size, fun e => by have h1 := (hl6 j hj).2; have h2 := (hl7 j e).1; omega⟩
    have hle6 := hx6.size
    refine HQ.out _ _ _ _ _ _ _ _ _ _ _ _ _ _ _ _ _ (.slice o6 (ints sh).length k6) (.slice o7 (ints st).length k7) _ _ ?_
    first
      | exact SliceEnd.e1 hx7 hv7 ht7 hlv (fun j hj => (hl7 j hj).2)
      | exact (SliceEnd.e1 hx7 hv7 ht7 hlv (fun j hj => (hl7 j hj).2)).same ⟨1, rfl⟩
      | exact SliceEnd.e2 hz (Nat.le_refl _) hx7 hv7 ht7 (fun j hj => ⟨by have := hl6' j hj; omega, (hlv j hj).2⟩) (fun j hj => by have := (hl7 j hj).1; omega)
      | exact SliceEnd.e2 hz hle6 hx7 hv7 ht7 (fun j hj => ⟨by have := (hl6 j hj).2; omega, (hlv j hj).2⟩) (fun j hj => by have := hl7' j hj; omega)
end Go.Proofs.YtipjhdgegfgenaaGreat
/-
  A PART of an axis: ratchet/ratchetref6.Slice.
-/
set_option linter.unusedVariables false
set_option linter.unusedSimpArgs false
namespace Go.Proofs.YtipjhdgegfgenaaGreat
open Go.RowKit Go.Shelf Go
set_option maxRecDepth 1000000 in
set_option maxHeartbeats 8000000 in
theorem ref6Slice_any (va vb : Value) (sh st : List Nat) (off y fr to_ : Nat) (w : World) (ha : Rd w .i64 va (ints sh)) (hb : Rd w .i64 vb (ints st)) (hv : ViewN sh st off 65536) (hy : y < sh.length) (hft : fr < to_) (hto : to_ ≤ sh.getD y 0) (hbd : fr * st.getD y 0 ≤ 1000000) :
    Calls Tryz.prog 91 #[.agg #[va, vb, .int .i64 off], .int .i64 y, .int .i64 fr, .int .i64 to_] w (ViewOut w (ints (sh.set y (to_ - fr))) (ints st) ((off + fr * st.getD y 0 : Nat) : Int)) := by
  obtain ⟨oa, ca, rfl⟩ := rd_slice ha
  obtain ⟨ob, cb, rfl⟩ := rd_slice hb
  have hl2 : (ints st).length = (ints sh).length := by rw [ints_length, ints_length, hv.len]
  rw [hl2] at hb ⊢
  have hys : y < st.length := by rw [hv.len]; exact hy
  have hgs : sh.getD y 0 = sh[y] := by simp [List.getD_eq_getElem?_getD, List.getElem?_eq_getElem hy]
  have hgt : st.getD y 0 = st[y] := by simp [List.getD_eq_getElem?_getD, List.getElem?_eq_getElem hys]
  have hd6 : sh[y] ≤ 4096 := (hv.dims.1 _ (List.getElem_mem hy)).2
  obtain ⟨b1, f1, hoa, h1⟩ := ha.cell y (by rw [ints_length]; exact hy)
  obtain ⟨b2, f2, hob, h2⟩ := hb.cell y (by rw [ints_length]; exact hys)
  subst hoa
  subst hob
  rw [ints_get _ _ hy] at h1
  rw [ints_get _ _ hys] at h2
  rw [hgs] at hto
  rw [hgt] at hbd ⊢
  obtain ⟨m, hm⟩ : ∃ m, m = (ints sh).length := ⟨_, rfl⟩
  have hm4 : m ≤ 4 := by rw [hm, ints_length]; exact hv.dims.2
  have hym : y < m := by rw [hm, ints_length]; exact hy
  rw [← hm] at ha hb ⊢
  obtain ⟨d, hd⟩ : ∃ d, d = sh[y] := ⟨_, rfl⟩
  obtain ⟨z, hz⟩ : ∃ z, z = st[y] := ⟨_, rfl⟩
  rw [← hd] at h1 hto hd6
  rw [← hz] at h2 hbd ⊢
  have HR := Lib.hid (And.intro ha hb)
  have HL := Lib.hid (And.intro (show m = sh.length by rw [hm, ints_length]) (show m = st.length by rw [hm, ints_length, hv.len]))
  have HE := Lib.hid (And.intro (cell_lt h1) (And.intro h1 (And.intro (cell_lt h2) h2)))
  have HV := Lib.hid hv
  have hoff : off ≤ 1000000 := by have := hv.far; omega
  have hl1 : (ints sh).length ≤ 1000 := by rw [← hm]; omega
  have hl3 : (ints st).length ≤ 1000 := by rw [hl2, ← hm]; omega
  obtain ⟨W, hW⟩ : ∃ W, W = (w.alloc (.cells #[.slice (some ⟨b1, f1, none⟩) m ca, .slice (some ⟨b2, f2, none⟩) m cb, .int .i64 off] 81)).alloc (.cells #[.slice none 0 0, .slice none 0 0, .int .i64 0] 81) := ⟨_, rfl⟩
  have HX := Lib.hid (two_box w _ _ _ hW)
  have HW := Lib.hid hW
  have p1 : decide ((y : Int) < 0) = false := decide_eq_false (by omega)
  have p2 : decide ((m : Int) ≤ (y : Int)) = false := decide_eq_false (by omega)
  have p3 : decide ((fr : Int) < 0) = false := decide_eq_false (by omega)
  have p4 : decide ((to_ : Int) ≤ (fr : Int)) = false := decide_eq_false (by omega)
  have p5 : decide ((d : Int) < (to_ : Int)) = false := decide_eq_false (by omega)
  have hws : IntKind.i64.wrap ((to_ : Int) - (fr : Int)) = ((to_ - fr : Nat) : Int) := by rw [IntWalk.i64_in _ (by omega)]; omega
  have HWS := Lib.hid hws
  have HM := Lib.hid (And.intro hm (And.intro hl1 hl3))
  clear ha hb hl2 hys hgs hgt hm hW hv hy h1 h2 hd hz hl1 hl3 hws
  go_enter Tryz.func91, Tryz.ntmps91
  go_wp2
  rw [← HW.out]
  obtain ⟨w1, hw1⟩ : ∃ w1, w1 = W := ⟨_, rfl⟩
  rw [← hw1]
  have HX1 := Lib.hid (show Box w1 w.heap.size 81 #[.slice (some ⟨b1, f1, none⟩) m ca, .slice (some ⟨b2, f2, none⟩) m cb, .int .i64 off] ∧ Box w1 (w.heap.size + 1) 81 #[.slice none 0 0, .slice none 0 0, .int .i64 0] ∧ Below w.heap.size w w1 by rw [hw1]; exact HX.out)
  clear hw1
  refine Code.wp_mono onlyNV_out2 ?_
  refine slice_rF w1 w.heap.size b2 f2 m (ca := ca) (cb := cb) y fr z off (some ⟨b1, f1, none⟩) sh st _ _ _ _ _ _ _ _ _ _ _ _ _ _ _ _ _ _ _ _ _ _ _ _ _ _ _ _ _ _ _ _ HX1.out.1 (HR.out.1.below HX1.out.2.2 (Nat.le_refl _)) (HR.out.2.below HX1.out.2.2 (Nat.le_refl _)) hym (by omega) HM.out.2.1 HM.out.2.2 ((HX1.out.2.2.cell (p := ⟨b2, f2 + y, none⟩) HE.out.2.2.1).trans HE.out.2.2.2) hbd hoff _ ?_
  intro t10 t11 t12 t13 t14 t15 t16 t17 t18 t19 t20 t21 t22 t23 t24 t25 t26 vs vt g w5 hz
  obtain ⟨gv, kv, hvs, hgv1, hgv2⟩ := OwnI.at hz.vs (by rw [← HM.out.1]; omega)
  obtain ⟨ot, kt, hvt⟩ := own_slice hz.vt
  rw [← HM.out.1] at hvs
  rw [show (ints st).length = m by rw [ints_length, ← HL.out.2]] at hvt
  subst hvs
  subst hvt
  obtain ⟨o2, ho2⟩ : ∃ o2 : Int, o2 = ((off + fr * z : Nat) : Int) := ⟨_, rfl⟩
  rw [← ho2] at hz ⊢
  have hsw : w.heap.size + 1 < w1.heap.size := HX1.out.2.1.lt
  have hgw : w1.heap.size ≤ g := hz.le
  have hne : gv ≠ g := (hz.ov gv rfl).1
  have HZ0 := Lib.hid hz
  have HX5 := Lib.hid (two_next HX1.out (hz.low))
  have hcl := own_cells hz.vs y (u := .int .i64 (nth (ints sh) y)) (by rw [List.getElem?_map, List.getElem?_eq_getElem (by rw [← HM.out.1]; exact hym), nth_eq _ _ (by rw [← HM.out.1]; exact hym)]; rfl)
  obtain ⟨k1, k2⟩ := hcl
  generalize nth (ints sh) y = v0 at k1
  have g0 : w5.cell? ⟨g, 0, none⟩ = some (.slice (some ⟨gv, 0, none⟩) m kv) := hz.box.cell 0 rfl
  have HS := Lib.hid (own_set1 hz.vs y (.int .i64 ((to_ - fr : Nat) : Int)))
  obtain ⟨w6, hw6⟩ : ∃ w6, w6 = w5.setCell ⟨gv, y, none⟩ (.int .i64 ((to_ - fr : Nat) : Int)) := ⟨_, rfl⟩
  have hB6 : Box w6 g 81 #[.slice (some ⟨gv, 0, none⟩) m kv, .slice ot m kt, .int .i64 o2] := by rw [hw6]; exact hz.box.other hne _
  have hR6 : Box w6 (w.heap.size + 1) 81 #[.slice none 0 0, .slice none 0 0, .int .i64 0] := by rw [hw6]; exact HX5.out.2.1.other (by show gv ≠ w.heap.size + 1; omega) _
  have hT6 : w6.ownsRow w1.heap.size 3 1 (.slice ot m kt) (ints st).length ((ints st).map (.int .i64)) := by rw [hw6]; exact own_st_set hz.vt (fun j hj e => (hz.ov gv rfl).2 (by rw [← e]; exact hj))
  have hlow6 : Below w.heap.size w w6 := by rw [hw6]; exact below_st_set HX5.out.2.2 (by omega)
  have HW6 := Lib.hid hw6
  have HH := Lib.hid (And.intro hB6 (And.intro hR6 (And.intro hT6 hlow6)))
  have i0 : w6.cell? ⟨g, 0, none⟩ = some (.slice (some ⟨gv, 0, none⟩) m kv) := hB6.cell 0 rfl
  have i1 : w6.cell? ⟨g, 1, none⟩ = some (.slice ot m kt) := hB6.cell 1 rfl
  have i2 : w6.cell? ⟨g, 2, none⟩ = some (.int .i64 o2) := hB6.cell 2 rfl
  have r0 : w6.cell? ⟨w.heap.size + 1, 0, none⟩ = some (.slice none 0 0) := hR6.cell 0 rfl
  have r1 : w6.cell? ⟨w.heap.size + 1, 1, none⟩ = some (.slice none 0 0) := hR6.cell 1 rfl
  have r2 : w6.cell? ⟨w.heap.size + 1, 2, none⟩ = some (.int .i64 0) := hR6.cell 2 rfl
  have q0 := hR6.free 0
  have q1 := hR6.free 1
  have q2 := hR6.free 2
  have hws := HWS.out
  have HO2 := Lib.hid ho2
  clear hw6 hB6 hR6 hT6 hlow6 hz ho2
  go_upto_region 3 with fail
  rw [← HW6.out]
  clear k1 k2 g0
  go_wp2_with fail
  obtain ⟨Y, hY⟩ : ∃ Y, Y = ((w6.setCell ⟨w.heap.size + 1, 0, none⟩ (.slice (some ⟨gv, 0, none⟩) m kv)).setCell ⟨w.heap.size + 1, 1, none⟩ (.slice ot m kt)).setCell ⟨w.heap.size + 1, 2, none⟩ (.int .i64 o2) := ⟨_, rfl⟩
  have hb3 : Box Y (w.heap.size + 1) 81 #[.slice (some ⟨gv, 0, none⟩) m kv, .slice ot m kt, .int .i64 o2] := by rw [hY]; exact (((HH.out.2.1.set 0 _).set 1 _).set 2 _)
  have own3 : ∀ {v : Value} {j : Nat} {l : List Value}, w6.ownsRow w1.heap.size 3 1 v j l → Y.ownsRow w1.heap.size 3 1 v j l := fun h => by
    rw [hY]
    exact own_st_set (own_st_set (own_st_set h (fun j hj => by have := (h.lt j hj).1; omega)) (fun j hj => by have := (h.lt j hj).1; omega)) (fun j hj => by have := (h.lt j hj).1; omega)
  have hbel : Below w.heap.size w Y := by rw [hY]; exact below_st_set (below_st_set (below_st_set HH.out.2.2.2 (Nat.le_succ w.heap.size)) (Nat.le_succ w.heap.size)) (Nat.le_succ w.heap.size)
  have hs6 : w6.ownsRow w1.heap.size 3 1 (.slice (some ⟨gv, 0, none⟩) m kv) (ints sh).length (((ints sh).map (.int .i64)).set y (.int .i64 ((to_ - fr : Nat) : Int))) := by rw [HW6.out]; exact HS.out
  have hra := own_mono (own3 hs6) (show w.heap.size ≤ w1.heap.size by omega)
  have hrb := own_mono (own3 HH.out.2.2.1) (show w.heap.size ≤ w1.heap.size by omega)
  rw [← List.map_set, ints_set] at hra
  rw [← hY]
  have y0 := hb3.cell 0 rfl
  have y1 := hb3.cell 1 rfl
  have y2 := hb3.cell 2 rfl
  have HZ := Lib.hid (And.intro hbel (And.intro hra (And.intro hrb hb3)))
  clear hbel hra hrb own3 hb3 hY i0 i1 i2 r0 r1 r2 q0 q1 q2 hs6
  refine bodyPost_ret (v := .agg #[.slice (some ⟨gv, 0, none⟩) m kv, .slice ot m kt, .int .i64 o2]) (results_cell_row rfl _ _ (w.heap.size + 1) 81 _ (0, 0) _ rfl HZ.out.2.2.2 Tryz.underlying81 rfl (by kernel_rfl)) rfl ⟨HZ.out.1, .slice (some ⟨gv, 0, none⟩) m kv, .slice ot m kt, by rw [HO2.out], ?_, ?_⟩
  · have h := HZ.out.2.1
    rw [OwnI, ints_length, List.length_set]
    rw [ints_length] at h
    exact h
  · exact HZ.out.2.2.1
end Go.Proofs.YtipjhdgegfgenaaGreat
