/-
  A PART of an axis: ratchet/view.Slice, where the rows are copied.
-/
import Derived.Test.YtipjhdgegfgenaaGreatEV15
set_option linter.unusedVariables false
set_option linter.unusedSimpArgs false
namespace Go.Proofs.YtipjhdgegfgenaaGreat
open Go.RowKit Go.Shelf Go
/-- a view's box, its two rows, all one's own -/
structure SliceEnd (w2 w' : World) (v t : Value) (g : Nat) (off : Int) (xs ys : List Int) : Prop where
  low : Below w2.heap.size w2 w'
  le : w2.heap.size ≤ g
  box : Box w' g 81 #[v, t, .int .i64 off]
  vs : OwnI w' w2.heap.size 3 .i64 v xs
  vt : OwnI w' w2.heap.size 3 .i64 t ys
  ov : ∀ j, v.ownBlock = some j → j ≠ g ∧ t.ownBlock ≠ some j
  ot : ∀ j, t.ownBlock = some j → j ≠ g
theorem keep4V {w2 W : World} {a0 a1 a2 a3 : Addr} {v0 v1 v2 v3 : Value} (hc : w2.cell? a0 = some v0 ∧ w2.cell? a1 = some v1 ∧ w2.cell? a2 = some v2 ∧ w2.cell? a3 = some v3) (h : Below w2.heap.size w2 W) : W.cell? a0 = some v0 ∧ W.cell? a1 = some v1 ∧ W.cell? a2 = some v2 ∧ W.cell? a3 = some v3 :=
  ⟨(h.cell (World.block_lt_of_cell? w2 a0 hc.1)).trans hc.1, (h.cell (World.block_lt_of_cell? w2 a1 hc.2.1)).trans hc.2.1, (h.cell (World.block_lt_of_cell? w2 a2 hc.2.2.1)).trans hc.2.2.1, (h.cell (World.block_lt_of_cell? w2 a3 hc.2.2.2)).trans hc.2.2.2⟩
theorem SliceEnd.e1 {w2 w7 : World} {v t : Value} {off : Int} {xs ys : List Int} (hx : Below w2.heap.size w2 w7) (hv : OwnI w7 w2.heap.size 3 .i64 v xs) (ht : OwnI w7 w2.heap.size 3 .i64 t ys) (hl : ∀ j, v.ownBlock = some j → j < w7.heap.size ∧ t.ownBlock ≠ some j) (hk : ∀ j, t.ownBlock = some j → j < w7.heap.size) :
    SliceEnd w2 (w7.alloc (.cells #[v, t, .int .i64 off] 81)) v t w7.heap.size off xs ys :=
  ⟨below_st_alloc hx (Nat.le_refl _), hx.size, Box.new _ _ _, own_st_alloc hv, own_st_alloc ht, fun j hj => ⟨by have := (hl j hj).1; omega, (hl j hj).2⟩, fun j hj => by have := hk j hj; omega⟩
theorem SliceEnd.e2 {w2 w7 : World} {g : Nat} {v t : Value} {off : Int} {xs ys : List Int} (hz : Box w7 g 81 #[.slice none 0 0, .slice none 0 0, .int .i64 0]) (hle : w2.heap.size ≤ g) (hx : Below w2.heap.size w2 w7) (hv : OwnI w7 w2.heap.size 3 .i64 v xs) (ht : OwnI w7 w2.heap.size 3 .i64 t ys) (hl : ∀ j, v.ownBlock = some j → j ≠ g ∧ t.ownBlock ≠ some j) (hk : ∀ j, t.ownBlock = some j → j ≠ g) :
    SliceEnd w2 (((w7.setCell ⟨g, 0, none⟩ v).setCell ⟨g, 1, none⟩ t).setCell ⟨g, 2, none⟩ (.int .i64 off)) v t g off xs ys :=
  ⟨below_st_set (below_st_set (below_st_set hx hle) hle) hle, hle, ((hz.set 0 v).set 1 t).set 2 _, own_st_set (own_st_set (own_st_set hv fun j hj => (hl j hj).1) fun j hj => (hl j hj).1) fun j hj => (hl j hj).1, own_st_set (own_st_set (own_st_set ht hk) hk) hk, hl, hk⟩
theorem SliceEnd.same {w2 w' w'' : World} {v t : Value} {g : Nat} {off : Int} {xs ys : List Int} (h : SliceEnd w2 w' v t g off xs ys) (hs : Same w' w'') : SliceEnd w2 w'' v t g off xs ys :=
  ⟨h.low.trans (hs.below _), h.le, h.box.same hs, own_same h.vs hs, own_same h.vt hs, h.ov, h.ot⟩
noncomputable def sliceP (n : Nat) : Code := (Tryz.f116.body.bind (findRV n)).getD .skip
set_option maxRecDepth 1000000 in
set_option maxHeartbeats 20000000 in
theorem slice_rP (w2 : World) (vb b2 f2 m ca cb y fr z off : Nat) (oa : Option Addr) (sh st : List Nat) (u0 u3 u5 u6 u7 u8 u9 u10 u11 u12 u13 u14 u15 u16 u17 u18 u19 u20 u21 u22 u23 u24 u25 u26 u27 u28 u29 u30 u31 u32 u33 u34 u35 u36 u37 u38 u39 u40 u41 u42 u43 u44 u45 u46 u47 u48 u49 u50 u51 u52 u53 u54 u55 u56 u57 u58 u59 u60 u61 u62 u63 u64 u65 u66 u67 u68 u69 : Value)
    (hb : Box w2 vb 81 #[.slice oa m ca, .slice (some ⟨b2, f2, none⟩) m cb, .int .i64 off]) (hra : Rd w2 .i64 (.slice oa m ca) (ints sh)) (hrb : Rd w2 .i64 (.slice (some ⟨b2, f2, none⟩) m cb) (ints st)) (hy : y < m) (hm : m ≤ 1000) (hl1 : (ints sh).length ≤ 1000) (hl2 : (ints st).length ≤ 1000) (he : w2.cell? ⟨b2, f2 + y, none⟩ = some (.int .i64 (z : Nat)))
    (hbd : fr * z ≤ 1000000) (hoff : off ≤ 1000000)
    (K : Act → World → Prop) (hQ : ∀ (t45 t46 t47 t48 t49 t50 t51 t52 t53 t54 t55 t56 t57 t58 t59 t60 t61 : Value) (vs vt : Value) (g : Nat) (w' : World), SliceEnd w2 w' vs vt g ((off + fr * z : Nat) : Int) (ints sh) (ints st) → K ⟨#[u0, .int .i64 y, .int .i64 fr, u3, .pointer (some ⟨vb, 0, none⟩), u5, u6, u7, u8, u9, .pointer (some ⟨g, 0, none⟩), u11, u12, u13, u14, u15, u16, u17, u18, u19, u20, u21, u22, u23, u24, u25, u26, u27, u28, u29, u30, u31, u32, u33, u34, u35, u36, u37, u38, u39, u40, u41, u42, u43, u44, t45, t46, t47, t48, t49, t50, t51, t52, t53, t54, t55, t56, t57, t58, t59, t60, t61, u62, u63, u64, u65, u66, u67, u68, u69], []⟩ w') :
    Code.wp Tryz.prog (sliceP 5) (onlyNV K) ⟨#[u0, .int .i64 y, .int .i64 fr, u3, .pointer (some ⟨vb, 0, none⟩), u5, u6, u7, u8, u9, u10, u11, u12, u13, u14, u15, u16, u17, u18, u19, u20, u21, u22, u23, u24, u25, u26, u27, u28, u29, u30, u31, u32, u33, u34, u35, u36, u37, u38, u39, u40, u41, u42, u43, u44, u45, u46, u47, u48, u49, u50, u51, u52, u53, u54, u55, u56, u57, u58, u59, u60, u61, u62, u63, u64, u65, u66, u67, u68, u69], []⟩ w2 := by
  have HQ := Lib.hid hQ
  have HBX := Lib.hid hb
  have HR := Lib.hid (And.intro hra hrb)
  have HE := Lib.hid (And.intro (cell_lt he) he)
  have hbi : (fr : Int) * (z : Int) ≤ 1000000 := by
    have h : ((fr * z : Nat) : Int) ≤ 1000000 := by omega
    rwa [Int.natCast_mul] at h
  have hbi0 : (0 : Int) ≤ (fr : Int) * (z : Int) := Int.mul_nonneg (by omega) (by omega)
  have d0 : w2.cell? ⟨vb, 0, none⟩ = some (.slice oa m ca) := hb.cell 0 rfl
  have d1 : w2.cell? ⟨vb, 1, none⟩ = some (.slice (some ⟨b2, f2, none⟩) m cb) := hb.cell 1 rfl
  have d2 : w2.cell? ⟨vb, 2, none⟩ = some (.int .i64 off) := hb.cell 2 rfl
  have e2 := he
  have hlt2 : vb < w2.heap.size := hb.lt
  have hlb2 : b2 < w2.heap.size := cell_lt he
  clear hb hra hrb he hQ hbd
  conv => arg 2; whnf
  have HX := Lib.hid (Below.refl w2.heap.size w2)
  have HC := Lib.hid (And.intro d0 (And.intro d1 (And.intro d2 e2)))
  clear d0 d1 d2 e2
  have hwr : IntKind.i64.wrap ((off : Int) + IntKind.i64.wrap ((fr : Int) * (z : Int))) = ((off + fr * z : Nat) : Int) := by
    rw [IntWalk.i64_in ((fr : Int) * (z : Int)) (by omega), IntWalk.i64_in _ (by omega)]; push_cast; rfl
  have HWR := Lib.hid hwr
  clear hwr
  go_region_held3 (fun w' => w'.cell? ⟨vb, 0, none⟩ = some (.slice oa m ca) ∧ w'.cell? ⟨vb, 1, none⟩ = some (.slice (some ⟨b2, f2, none⟩) m cb) ∧ w'.cell? ⟨vb, 2, none⟩ = some (.int .i64 off) ∧ w'.cell? ⟨b2, f2 + y, none⟩ = some (.int .i64 (z : Nat)))
    ((refine keep4V HC.out ?_; (repeat (first | with_reducible exact HX.out | with_reducible exact Below.refl _ _ | with_reducible refine Below.drew ?_ | with_reducible refine Below.alloc ?_ (by first | with_reducible exact HX.out.size | with_reducible exact Nat.le_refl _ | (simp; done) | (have := HX.out.size; simp; omega)) _ | with_reducible refine Below.setCell ?_ (by first | with_reducible exact Nat.le_refl _ | with_reducible exact HX.out.size | (have := hx6.size; simp; omega)) _))))
    ((first
    | (go_at_call_of 104 ca; refine (cloneInts_any _ (ints sh) _ (HR.out.1.below (by repeat (first | with_reducible exact Below.refl _ _ | with_reducible refine Below.drew ?_ | with_reducible refine below_st_alloc ?_ (Nat.le_refl _))) (Nat.le_refl _)) (by omega)).mono ?_; rintro e w6 ⟨⟨v6, rfl, ho6⟩, hb6⟩; obtain ⟨o6, k6, rfl⟩ := own_slice ho6;
       have hx6 : Below w2.heap.size w2 w6 := (by refine below_st_next hb6 ?_ (Nat.le_refl _); repeat (first | with_reducible exact Below.refl _ _ | with_reducible refine Below.drew ?_ | with_reducible refine below_st_alloc ?_ (Nat.le_refl _)));
       have hl6 : ∀ j, (Value.slice o6 (ints sh).length k6).ownBlock = some j → w2.heap.size ≤ j ∧ j < w6.heap.size := (fun j hj => by have := ho6.lt j hj; (try simp at this); omega);
       (first | (with_reducible have hz : Box w6 w2.heap.size 81 #[.slice none 0 0, .slice none 0 0, .int .i64 0] := by first | exact new_next hb6 | exact new_nextD hb6); have hq6 : w2.heap.size < w6.heap.size := hz.lt; have hl6' : ∀ j, (Value.slice o6 (ints sh).length k6).ownBlock = some j → w2.heap.size < j := (fun j hj => by have := ho6.lt j hj; (try simp at this); omega) | skip);
       have HX := Lib.hid hx6; have HD := Lib.hid (Box.next HBX.out hx6))
    | (go_at_call_of 104 cb; refine (cloneInts_any _ (ints st) _ (HR.out.2.below (by repeat (first | with_reducible exact hx6 | with_reducible refine Below.drew ?_ | with_reducible refine below_st_alloc ?_ (Nat.le_refl _))) (Nat.le_refl _)) (by omega)).mono ?_; rintro e w7 ⟨⟨v7, rfl, ho7⟩, hb7⟩; obtain ⟨o7, k7, rfl⟩ := own_slice ho7;
       have hb67 : Below w6.heap.size w6 w7 := (by refine below_st_next hb7 ?_ (Nat.le_refl _); repeat (first | with_reducible exact Below.refl _ _ | with_reducible refine Below.drew ?_ | with_reducible refine below_st_alloc ?_ (Nat.le_refl _)));
       have hl7 : ∀ j, (Value.slice o7 (ints st).length k7).ownBlock = some j → w6.heap.size ≤ j ∧ j < w7.heap.size := (fun j hj => by have := ho7.lt j hj; (try simp at this); omega);
       (first | (with_reducible have hz : Box w7 w6.heap.size 81 #[.slice none 0 0, .slice none 0 0, .int .i64 0] := by first | exact new_next hb7 | exact new_nextD hb7); have hq : w6.heap.size < w7.heap.size := hz.lt; have hl7' : ∀ j, (Value.slice o7 (ints st).length k7).ownBlock = some j → w6.heap.size < j := (fun j hj => by have := ho7.lt j hj; (try simp at this); omega) | (have hz : Box w7 w2.heap.size 81 #[.slice none 0 0, .slice none 0 0, .int .i64 0] := hz.next hb67); have hq : w2.heap.size < w7.heap.size := hz.lt | skip);
       have hx7 := below_st_next hb67 hx6 (Nat.le_refl _); have HX := Lib.hid hx7;
       (first | (have z0 : w7.cell? ⟨w2.heap.size, 0, none⟩ = some (.slice none 0 0) := hz.cell 0 rfl; have z1 : w7.cell? ⟨w2.heap.size, 1, none⟩ = some (.slice none 0 0) := hz.cell 1 rfl; have z2 : w7.cell? ⟨w2.heap.size, 2, none⟩ = some (.int .i64 0) := hz.cell 2 rfl; have zf0 := hz.free 0; have zf1 := hz.free 1; have zf2 := hz.free 2) | (have z0 : w7.cell? ⟨w6.heap.size, 0, none⟩ = some (.slice none 0 0) := hz.cell 0 rfl; have z1 : w7.cell? ⟨w6.heap.size, 1, none⟩ = some (.slice none 0 0) := hz.cell 1 rfl; have z2 : w7.cell? ⟨w6.heap.size, 2, none⟩ = some (.int .i64 0) := hz.cell 2 rfl; have zf0 := hz.free 0; have zf1 := hz.free 1; have zf2 := hz.free 2) | skip))))
  all_goals
    rw [HWR.out]
    have hv7 := own_mono (own_st_next hb67 ho6) (show w2.heap.size ≤ _ by first | exact Nat.le_refl _ | (simp; done) | (simp; omega))
    have ht7 := own_mono ho7 (show w2.heap.size ≤ _ by first | exact hx6.size | (simp; have := hx6.size; omega))
    have hlv : ∀ j, (Value.slice o6 (ints sh).length k6).ownBlock = some j → j < w7.heap.size ∧ (Value.slice o7 (ints st).length k7).ownBlock ≠ some j := fun j hj => ⟨Nat.lt_of_lt_of_le (hl6 j hj).2 hb67.size, fun e => by have h1 := (hl6 j hj).2; have h2 := (hl7 j e).1; omega⟩
    have hle6 := hx6.size
    refine HQ.out _ _ _ _ _ _ _ _ _ _ _ _ _ _ _ _ _ (.slice o6 (ints sh).length k6) (.slice o7 (ints st).length k7) _ _ ?_
    first
      | exact SliceEnd.e1 hx7 hv7 ht7 hlv (fun j hj => (hl7 j hj).2)
      | exact (SliceEnd.e1 hx7 hv7 ht7 hlv (fun j hj => (hl7 j hj).2)).same ⟨1, rfl⟩
      | exact SliceEnd.e2 hz (Nat.le_refl _) hx7 hv7 ht7 (fun j hj => ⟨by have := hl6' j hj; omega, (hlv j hj).2⟩) (fun j hj => by have := (hl7 j hj).1; omega)
      | exact SliceEnd.e2 hz hle6 hx7 hv7 ht7 (fun j hj => ⟨by have := (hl6 j hj).2; omega, (hlv j hj).2⟩) (fun j hj => by have := hl7' j hj; omega)
end Go.Proofs.YtipjhdgegfgenaaGreat
