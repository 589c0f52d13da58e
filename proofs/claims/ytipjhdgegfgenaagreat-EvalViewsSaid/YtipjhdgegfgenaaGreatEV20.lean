/-
  COMPARED and WEIGHED tensors, where no layers are.
-/
import Derived.Laws.StructEq
import Derived.Deep.RegionHeld3
import Derived.Deep.DeepCutAuto
import Derived.Test.YtipjhdgegfgenaaGreatEV19
import Derived.Test.YtipjhdgegfgenaaGreatEV18
set_option linter.unusedVariables false
set_option linter.unusedSimpArgs false
namespace Go.Proofs.YtipjhdgegfgenaaGreat
open Go.RowKit Go.Shelf Go
/-- a comparison's answer -/
def EqOut (w : World) (p : Prop) (e : Ending) (w' : World) : Prop := (∃ r, e = .returned (.bool r) ∧ (r = true ↔ p)) ∧ Below w.heap.size w w'
theorem EqOut.no {w w' : World} {p : Prop} (h : ¬ p) (hb : Below w.heap.size w w') : EqOut w p (.returned (.bool false)) w' := ⟨⟨false, rfl, by simp [h]⟩, hb⟩
theorem EqOut.yes {w w' : World} {p : Prop} (h : p) (hb : Below w.heap.size w w') : EqOut w p (.returned (.bool true)) w' := ⟨⟨true, rfl, by simp [h]⟩, hb⟩
theorem EqOut.of {w w' : World} {p : Prop} {r : Bool} (h : r = true ↔ p) (hb : Below w.heap.size w w') : EqOut w p (.returned (.bool r)) w' := ⟨⟨r, rfl, h⟩, hb⟩
theorem keepC {w w' : World} {b off : Nat} {v : Value} (hb : Below w.heap.size w w') (h : w.cell? ⟨b, off, none⟩ = some v) : w'.cell? ⟨b, off, none⟩ = some v := (hb.cell (p := ⟨b, off, none⟩) (cell_lt h)).trans h
theorem two_box (w : World) (T : TypeId) (cs ds : Array Value) {W : World} (hW : W = (w.alloc (.cells cs T)).alloc (.cells ds T)) : Box W w.heap.size T cs ∧ Box W (w.heap.size + 1) T ds ∧ Below w.heap.size w W := by
  subst hW
  have h2 : Box ((w.alloc (.cells cs T)).alloc (.cells ds T)) (w.alloc (.cells cs T)).heap.size T ds := Box.new _ _ _
  rw [World.size_alloc] at h2
  exact ⟨(Box.new w T cs).next ((Below.refl _ _).alloc (Nat.le_refl _) _), h2, ((Below.refl _ _).alloc (Nat.le_refl _) _).alloc (by simp) _⟩
theorem two_next {w W W' : World} {T : TypeId} {cs ds : Array Value} (h : Box W w.heap.size T cs ∧ Box W (w.heap.size + 1) T ds ∧ Below w.heap.size w W) (hb : Below W.heap.size W W') : Box W' w.heap.size T cs ∧ Box W' (w.heap.size + 1) T ds ∧ Below w.heap.size w W' :=
  ⟨h.1.next hb, h.2.1.next hb, h.2.2.trans (hb.mono h.2.2.size)⟩
theorem eqOut_same {w w' : World} {p : Prop} [Decidable p] {e : Ending} (h : e = .returned (.bool (decide p)) ∧ Same w w') : EqOut w p e w' := ⟨⟨_, h.1, by simp⟩, h.2.below _⟩
set_option maxRecDepth 100000 in
set_option maxHeartbeats 2000000 in
theorem eqTensor_any (vs vd us ud : Value) (t t2 : TensD) (w : World) (hs : Rd w .i64 vs t.sh) (hd : Rd w .i64 vd t.da) (gs : Rd w .i64 us t2.sh) (gd : Rd w .i64 ud t2.da) (hl : t.Lim) :
    Calls Tryz.prog 9 #[.agg #[vs, vd], .agg #[us, ud]] w (EqOut w (t = t2)) := by
  obtain ⟨o1, c1, rfl⟩ := rd_slice hs
  obtain ⟨o2, c2, rfl⟩ := rd_slice hd
  obtain ⟨o3, c3, rfl⟩ := rd_slice gs
  obtain ⟨o4, c4, rfl⟩ := rd_slice gd
  have HS := Lib.hid (And.intro hs (And.intro hd (And.intro gs gd)))
  have HL := Lib.hid hl
  clear hs hd gs gd hl
  obtain ⟨W, hW⟩ : ∃ W, W = (w.alloc (.cells #[.slice o1 t.sh.length c1, .slice o2 t.da.length c2] 36)).alloc (.cells #[.slice o3 t2.sh.length c3, .slice o4 t2.da.length c4] 36) := ⟨_, rfl⟩
  have HX0 := Lib.hid (two_box w _ _ _ hW)
  have HW := Lib.hid hW
  clear hW
  go_enter Tryz.func9, Tryz.ntmps9
  go_wp2_with (go_at_call 22; rw [← HW.out]; refine (((eqNumbers_any _ _ t.sh t2.sh _ (HS.out.1.below HX0.out.2.2 (Nat.le_refl _)) (HS.out.2.2.1.below HX0.out.2.2 (Nat.le_refl _)) HL.out.1).mono fun e w h => eqOut_same h)).mono ?_; rintro e w1 ⟨⟨r0, rfl, hq0⟩, hbq0⟩; refine stopHere ?_)
  have HX1 := Lib.hid (two_next HX0.out hbq0)
  have Q0 := Lib.hid hq0
  clear hbq0 hq0
  have x0 : w1.cell? ⟨w.heap.size, 0, none⟩ = some (.slice o1 t.sh.length c1) := HX1.out.1.cell 0 rfl
  have y0 : w1.cell? ⟨w.heap.size + 1, 0, none⟩ = some (.slice o3 t2.sh.length c3) := HX1.out.2.1.cell 0 rfl
  have x1 : w1.cell? ⟨w.heap.size, 1, none⟩ = some (.slice o2 t.da.length c2) := HX1.out.1.cell 1 rfl
  have y1 : w1.cell? ⟨w.heap.size + 1, 1, none⟩ = some (.slice o4 t2.da.length c4) := HX1.out.2.1.cell 1 rfl
  refine goOn ?_
  cases r0 with
  | false =>
    go_wp2
    go_ret
    exact EqOut.no (fun h => by have := Q0.out.2 (by rw [h]); cases this) HX1.out.2.2
  | true =>
    go_wp2_with (go_at_call 10; refine (((eqWords_any _ _ t.da t2.da _ (HS.out.2.1.below HX1.out.2.2 (Nat.le_refl _)) (HS.out.2.2.2.below HX1.out.2.2 (Nat.le_refl _)) HL.out.2).mono fun e w h => eqOut_same h)).mono ?_; rintro e w2 ⟨⟨r1, rfl, hq1⟩, hbq1⟩; refine stopHere ?_)
    have HX2 := Lib.hid (two_next HX1.out hbq1)
    have Q1 := Lib.hid hq1
    clear x0 y0 x1 y1
    clear hbq1 hq1
    have x0 : w2.cell? ⟨w.heap.size, 0, none⟩ = some (.slice o1 t.sh.length c1) := HX2.out.1.cell 0 rfl
    have y0 : w2.cell? ⟨w.heap.size + 1, 0, none⟩ = some (.slice o3 t2.sh.length c3) := HX2.out.2.1.cell 0 rfl
    have x1 : w2.cell? ⟨w.heap.size, 1, none⟩ = some (.slice o2 t.da.length c2) := HX2.out.1.cell 1 rfl
    have y1 : w2.cell? ⟨w.heap.size + 1, 1, none⟩ = some (.slice o4 t2.da.length c4) := HX2.out.2.1.cell 1 rfl
    refine goOn ?_
    cases r1 with
    | false =>
      go_wp2
      go_ret
      exact EqOut.no (fun h => by have := Q1.out.2 (by rw [h]); cases this) HX2.out.2.2
    | true =>
      go_wp2
      go_ret
      exact EqOut.yes (by have h1 : t.sh = t2.sh := (by simpa using Q0.out); have h2 : t.da = t2.da := (by simpa using Q1.out); cases t; cases t2; simp only at h1 h2; rw [h1, h2]) HX2.out.2.2
/-- a truth; where it is false, P -/
def HeavyOut (P : Prop) (e : Ending) : Prop := ∃ b : Bool, e = .returned (.bool b) ∧ (b = false → P)
/-- the law's weight of a list of tensors -/
def wt (ts : List TensD) : Nat := (ts.map fun t => t.da.length + t.sh.length).sum
theorem wt_take_succ (ts : List TensD) (k : Nat) (h : k < ts.length) : wt (ts.take (k + 1)) = wt (ts.take k) + ((tnth ts k).da.length + (tnth ts k).sh.length) := by
  rw [wt, ttake_succ ts k h, List.map_append, List.sum_append, ← wt]; simp
theorem wt_take_le (ts : List TensD) (k : Nat) : wt (ts.take k) ≤ wt ts := by
  have h : wt ts = wt (ts.take k) + wt (ts.drop k) := by
    conv => lhs; rw [← List.take_append_drop k ts, wt, List.map_append, List.sum_append]
    rfl
  omega
set_option maxRecDepth 100000 in
set_option maxHeartbeats 2000000 in
theorem heavyAll_any (v : Value) (ts : List TensD) (n : Nat) (w : World) (hr : TenssRd w v ts) (hl : TLim ts) (hn : n ≤ 100000) :
    Calls Tryz.prog 14 #[v, .int .i64 n] w fun e w' => HeavyOut (wt ts ≤ n ∧ ts.length ≤ n) e ∧ Same w w' := by
  obtain ⟨o, cap, rfl⟩ := hr.slice
  have HR := Lib.hid hr
  obtain ⟨hl1, hl2⟩ := hl
  have HL := Lib.hid hl2
  clear hr hl2
  go_enter Tryz.func14, Tryz.ntmps14
  go_wp2
  go_loopw [5, 6] (fun c i wr => ∃ k m : Nat, k ≤ ts.length ∧ i = .int .i64 k ∧ c = .int .i64 m ∧ m ≤ n ∧ Hid (m = wt (ts.take k)) ∧ Hid (Same w wr)) (fun _ i _ => ts.length - (intOf i).toNat)
  case atStart => exact ⟨0, 0, Nat.zero_le _, rfl, rfl, Nat.zero_le _, Lib.hid rfl, Lib.hid (Same.refl _)⟩
  case round =>
    obtain ⟨k, m, hk, rfl, rfl, hm, HM, HS⟩ := hrel
    obtain ⟨w5, rfl⟩ : ∃ w5, w5 = wr := ⟨_, rfl⟩
    by_cases hlt : k < ts.length
    · obtain ⟨b, off, vs, vd, rfl, d0, d1, hs, hd⟩ := (HR.out.same HS.out).tens k hlt
      obtain ⟨o5, k5, rfl⟩ := rd_slice hd
      obtain ⟨o6, k6, rfl⟩ := rd_slice hs
      have hlk := HL.out _ (tnth_mem ts k hlt)
      have HSUC := Lib.hid (wt_take_succ ts k hlt)
      have HLE := Lib.hid (wt_take_le ts (k + 1))
      obtain ⟨t, ht⟩ : ∃ t, t = tnth ts k := ⟨_, rfl⟩
      rw [← ht] at d0 d1 HSUC hlk
      obtain ⟨l1, l2⟩ := hlk
      clear hs hd ht
      go_wp2_with fail
      go_quiet (fail)
      by_cases hgt : n < m + (t.da.length + t.sh.length)
      · have HF := Lib.hid (show ¬ (wt ts ≤ n) by have := HLE.out; rw [HSUC.out, ← HM.out] at this; omega)
        have hgt2 : (n : Int) < (m : Int) + t.da.length + t.sh.length := by omega
        clear d0 d1
        go_wp2
        go_ret
        exact ⟨⟨true, rfl, fun h => by cases h⟩, HS.out.trans ⟨_, rfl⟩⟩
      · have hgt2 : ¬ (n : Int) < (m : Int) + t.da.length + t.sh.length := by omega
        have HM2 := Lib.hid (show m + (t.da.length + t.sh.length) = wt (ts.take (k + 1)) by rw [HSUC.out, ← HM.out])
        clear d0 d1
        go_wp2
        go_roundw
        case rel => exact ⟨k + 1, m + (t.da.length + t.sh.length), by omega, by go_num, by go_num, by omega, HM2, Lib.hid (HS.out.trans ⟨_, rfl⟩)⟩
        case measure => simp [intOf]; omega
    · obtain rfl : k = ts.length := by omega
      have HM2 := Lib.hid (show m = wt ts by rw [HM.out, List.take_length])
      by_cases hgt : n < ts.length
      · go_wp2
        go_ret
        exact ⟨⟨_, rfl, fun h => by cases h⟩, HS.out⟩
      · go_wp2
        go_ret
        exact ⟨⟨_, rfl, fun h => ⟨by rw [← HM2.out]; exact hm, by omega⟩⟩, HS.out⟩
end Go.Proofs.YtipjhdgegfgenaaGreat
/-
  AXES in another order: view.Transpose.
-/
set_option linter.unusedVariables false
set_option linter.unusedSimpArgs false
namespace Go.Proofs.YtipjhdgegfgenaaGreat
open Go.RowKit Go.Shelf Go
/-- a view whose rows are one's own, and no error -/
def ViewOk (w0 : World) (sh st : List Int) (off : Int) (e : Ending) (w' : World) : Prop :=
  Below w0.heap.size w0 w' ∧ ∃ a b, e = .returned (.tuple #[.agg #[a, b, .int .i64 off], .int .i64 0]) ∧ OwnI w' w0.heap.size 3 .i64 a sh ∧ OwnI w' w0.heap.size 3 .i64 b st
set_option maxRecDepth 1000000 in
set_option maxHeartbeats 8000000 in
theorem viewTranspose_any (va vb vx : Value) (sh st ax : List Nat) (off : Nat) (w : World) (ha : Rd w .i64 va (ints sh)) (hb : Rd w .i64 vb (ints st)) (hx : Rd w .i64 vx (ints ax)) (hv : ViewN sh st off 65536) (ho : orderB (ints ax) sh.length = true) :
    Calls Tryz.prog 115 #[.agg #[va, vb, .int .i64 off], vx] w (ViewOk w (ints (permN sh ax)) (ints (permN st ax)) off) := by
  obtain ⟨oa, ca, rfl⟩ := rd_slice ha
  obtain ⟨ob, cb, rfl⟩ := rd_slice hb
  obtain ⟨ox, cx, rfl⟩ := rd_slice hx
  have hl2 : (ints st).length = (ints sh).length := by rw [ints_length, ints_length, hv.len]
  rw [hl2] at hb ⊢
  have hax : ∀ x ∈ ax, x < sh.length := fun x hx => by
    have h1 : (ints ax).all (inB sh.length) = true := by simp only [orderB, Bool.and_eq_true] at ho; exact ho.1.1
    have := inB_true (List.all_eq_true.1 h1 (x : Int) (List.mem_map.2 ⟨x, hx, rfl⟩))
    omega
  have hxl : ax.length = sh.length := by
    have h1 : (ints ax).length = sh.length := by simp only [orderB, Bool.and_eq_true, decide_eq_true_eq] at ho; exact ho.2
    rw [ints_length] at h1; exact h1
  obtain ⟨m, hm⟩ : ∃ m, m = (ints sh).length := ⟨_, rfl⟩
  have hm4 : m ≤ 4 := by rw [hm, ints_length]; exact hv.dims.2
  have hxm : (ints ax).length = m := by rw [hm, ints_length, ints_length, hxl]
  rw [← hm] at ha hb ⊢
  rw [hxm] at hx ⊢
  have HR := Lib.hid (And.intro ha (And.intro hb hx))
  have HL := Lib.hid (And.intro (show m = sh.length by rw [hm, ints_length]) (And.intro (show m = ax.length by rw [hxl, hm, ints_length]) (And.intro hv.len hax)))
  have HV := Lib.hid hv
  obtain ⟨W, hW⟩ : ∃ W, W = (w.alloc (.cells #[.slice oa m ca, .slice ob m cb, .int .i64 off] 81)).alloc (.cells #[.slice none 0 0, .slice none 0 0, .int .i64 0] 81) := ⟨_, rfl⟩
  have HX := Lib.hid (two_box w _ _ _ hW)
  have HW := Lib.hid hW
  have HGD := Lib.hid (show ∀ X, Below w.heap.size w X → Calls Tryz.prog 117 #[.agg #[.slice oa m ca, .slice ob m cb, .int .i64 off], .int .i64 65536] X fun e w' => e = .returned (.bool true) ∧ Below X.heap.size X w' from fun X h =>
    viewGood_yes _ _ sh st off 65536 X (HR.out.1.below h (Nat.le_refl _)) (HR.out.2.1.below h (Nat.le_refl _)) HV.out)
  have HORD := Lib.hid (show ∀ X, Below w.heap.size w X → Calls Tryz.prog 163 #[.slice ox m cx, .int .i64 m] X fun e w' => e = .returned (.bool true) ∧ Below X.heap.size X w' from fun X h => by
    have := viewOrder_any _ (ints ax) m X (HR.out.2.2.below h (Nat.le_refl _)) (by rw [hxm]; omega) (by omega)
    rw [show orderB (ints ax) m = true by rw [hm, ints_length]; exact ho] at this; exact this)
  clear ha hb hx hl2 hax hxl hxm hm hW hv ho
  go_enter Tryz.func115, Tryz.ntmps115
  go_wp2_with (go_at_call 117; rw [← HW.out]; refine (HGD.out W HX.out.2.2).mono ?_; rintro e w1 ⟨rfl, hb1⟩; refine stopHere ?_)
  have HX1 := Lib.hid (two_next HX.out hb1)
  clear hb1
  have c0 : w1.cell? ⟨w.heap.size, 0, none⟩ = some (.slice oa m ca) := HX1.out.1.cell 0 rfl
  refine goOn ?_
  go_wp2_with (go_at_call 163; refine (HORD.out w1 HX1.out.2.2).mono ?_; rintro e w2 ⟨rfl, hb2⟩; refine stopHere ?_)
  have HX2 := Lib.hid (two_next HX1.out hb2)
  clear hb2 c0
  have c2 : w2.cell? ⟨w.heap.size, 2, none⟩ = some (.int .i64 off) := HX2.out.1.cell 2 rfl
  obtain ⟨W3, hW3⟩ : ∃ W3, W3 = w2.alloc (.cells #[.slice none 0 0, .slice none 0 0, .int .i64 off] 81) := ⟨_, rfl⟩
  have hb3 : Below w2.heap.size w2 W3 := by rw [hW3]; exact (Below.refl _ _).alloc (Nat.le_refl _) _
  have hx3 : Box W3 w2.heap.size 81 #[.slice none 0 0, .slice none 0 0, .int .i64 off] := by rw [hW3]; exact Box.new _ _ _
  have hgw : w.heap.size + 1 < w2.heap.size := HX2.out.2.1.lt
  have HI0 := Lib.hid (show TurnI w w.heap.size #[.slice oa m ca, .slice ob m cb, .int .i64 off] #[.slice none 0 0, .slice none 0 0, .int .i64 0] w2.heap.size 0 0 off (.slice none 0 0) (.slice none 0 0) (.slice none 0 0) (.slice none 0 0) (ints (permN sh (ax.take 0))) (ints (permN st (ax.take 0))) W3 from
    ⟨HX2.out.1.next hb3, HX2.out.2.1.next hb3, hgw, (HX2.out.2.2.trans (hb3.mono HX2.out.2.2.size)), by omega, hx3, World.ownsRow_nil _ _ _ _, World.ownsRow_nil _ _ _ _, fun j hj => by cases hj⟩)
  have HW3 := Lib.hid hW3
  clear hW3 hb3 hx3
  refine goOn ?_
  go_wp2
  rw [← HW3.out]
  go_loopg [27] m (fun gh i wr => ∃ (k : Nat) (a b : Value), gh = m - k ∧ k ≤ m ∧ i = .int .i64 k ∧ Hid (TurnI w w.heap.size #[.slice oa m ca, .slice ob m cb, .int .i64 off] #[.slice none 0 0, .slice none 0 0, .int .i64 0] w2.heap.size k k off a b a b (ints (permN sh (ax.take k))) (ints (permN st (ax.take k))) wr))
  case atStart => exact ⟨0, _, _, rfl, Nat.zero_le _, rfl, HI0⟩
  case round =>
    obtain ⟨k, a, b, rfl, hk, rfl, HI⟩ := hrel
    obtain ⟨w4, rfl⟩ : ∃ w4, w4 = wr := ⟨_, rfl⟩
    obtain ⟨op, cp, hap⟩ := own_slice HI.out.ra
    obtain ⟨oq, cq, hbq⟩ := own_slice HI.out.rb
    subst hap
    subst hbq
    clear HI0 c2
    by_cases hlt : k < m
    · have hk1 : k < ax.length := by rw [← HL.out.2.1]; exact hlt
      have hk2 : ax[k] < sh.length := HL.out.2.2.2 _ (List.getElem_mem hk1)
      have hk3 : ax[k] < st.length := by rw [HL.out.2.2.1]; exact hk2
      obtain ⟨b1, f1, hoa, h1⟩ := HR.out.1.cell ax[k] (by rw [ints_length]; exact hk2)
      obtain ⟨b2, f2, hob, h2⟩ := HR.out.2.1.cell ax[k] (by rw [ints_length]; exact hk3)
      obtain ⟨b3, f3, hox, h3⟩ := HR.out.2.2.cell k (by rw [ints_length]; exact hk1)
      subst hoa
      subst hob
      subst hox
      rw [ints_get _ _ hk2] at h1
      rw [ints_get _ _ hk3] at h2
      rw [ints_get _ _ hk1] at h3
      have e3 := (HI.out.low.cell (p := ⟨b3, f3 + k, none⟩) (cell_lt h3)).trans h3
      have HS1 := Lib.hid (permN_succ sh ax k hk1 hk2)
      have HS2 := Lib.hid (permN_succ st ax k hk1 hk3)
      have hy : ax[k] < m := by rw [HL.out.1]; exact hk2
      obtain ⟨y, hyy⟩ : ∃ y, y = ax[k] := ⟨_, rfl⟩
      obtain ⟨z1, hz1'⟩ : ∃ z, z = sh[ax[k]] := ⟨_, rfl⟩
      obtain ⟨z2, hz2'⟩ : ∃ z, z = st[ax[k]] := ⟨_, rfl⟩
      rw [← hz1'] at h1 HS1
      rw [← hz2'] at h2 HS2
      rw [← hyy] at h1 h2 e3 hy
      have HE := Lib.hid (And.intro h1 h2)
      clear h1 h2 h3 hk1 hk2 hk3 hyy hz1' hz2'
      go_wp2_with fail
      refine Code.wp_mono onlyNV_out2 ?_
      refine turn_r9 w w4 w.heap.size w2.heap.size b1 f1 b2 f2 m ca cb k cp cq y z1 z2 off off op oq #[.slice none 0 0, .slice none 0 0, .int .i64 0] (ints (permN sh (ax.take k))) (ints (permN st (ax.take k))) _ _ _ _ _ _ _ _ _ _ _ _ _ _ _ _ _ _ _ _ _ _ _ _ _ _ _ _ _ _ _ _ _ _ _ _ _ _ _ _ _ _ _ _ _ _ _ _ _ _ HI.out hy (by omega) (by omega) HE.out.1 HE.out.2 _ ?_
      intro t31 t32 t33 t34 t35 t36 t37 t38 t39 t40 t41 t42 t43 t44 t45 t46 t47 t48 t49 t50 o6 o8 c6 c8 w5 hz
      have HI3 := Lib.hid hz
      clear hz e3
      go_wp2_with fail
      go_roundg (m - (k + 1))
      case measure => omega
      case rel => exact ⟨k + 1, _, _, rfl, by omega, by go_num, Lib.hid (by have := HI3.out; rw [← HS1.out, ← HS2.out] at this; exact this)⟩
    · obtain rfl : k = m := by omega
      have HF := Lib.hid (show ax.take k = ax by rw [HL.out.2.1, List.take_length])
      have g0 : w4.cell? ⟨w2.heap.size, 0, none⟩ = some (.slice op k cp) := HI.out.box.cell 0 rfl
      have g1 : w4.cell? ⟨w2.heap.size, 1, none⟩ = some (.slice oq k cq) := HI.out.box.cell 1 rfl
      have g2 : w4.cell? ⟨w2.heap.size, 2, none⟩ = some (.int .i64 off) := HI.out.box.cell 2 rfl
      have r0 : w4.cell? ⟨w.heap.size + 1, 0, none⟩ = some (.slice none 0 0) := HI.out.kr.cell 0 rfl
      have r1 : w4.cell? ⟨w.heap.size + 1, 1, none⟩ = some (.slice none 0 0) := HI.out.kr.cell 1 rfl
      have r2 : w4.cell? ⟨w.heap.size + 1, 2, none⟩ = some (.int .i64 0) := HI.out.kr.cell 2 rfl
      have q0 := HI.out.kr.free 0
      have q1 := HI.out.kr.free 1
      have q2 := HI.out.kr.free 2
      go_wp2_with fail
      obtain ⟨Y, hY⟩ : ∃ Y, Y = ((w4.setCell ⟨w.heap.size + 1, 0, none⟩ (.slice op k cp)).setCell ⟨w.heap.size + 1, 1, none⟩ (.slice oq k cq)).setCell ⟨w.heap.size + 1, 2, none⟩ (.int .i64 off) := ⟨_, rfl⟩
      have hb3 : Box Y (w.heap.size + 1) 81 #[.slice op k cp, .slice oq k cq, .int .i64 off] := by rw [hY]; exact (((HI.out.kr.set 0 (.slice op k cp)).set 1 (.slice oq k cq)).set 2 (.int .i64 off))
      have own3 : ∀ {v : Value} {j : Nat} {l : List Value}, w4.ownsRow (w2.heap.size + 1) 3 1 v j l → Y.ownsRow (w2.heap.size + 1) 3 1 v j l := fun h => by
        rw [hY]
        exact own_st_set (own_st_set (own_st_set h (fun j hj => by have := (h.lt j hj).1; omega)) (fun j hj => by have := (h.lt j hj).1; omega)) (fun j hj => by have := (h.lt j hj).1; omega)
      have hbel : Below w.heap.size w Y := by rw [hY]; exact below_st_set (below_st_set (below_st_set HI.out.low (Nat.le_succ w.heap.size)) (Nat.le_succ w.heap.size)) (Nat.le_succ w.heap.size)
      have hra := own_mono (own3 HI.out.ra) (show w.heap.size ≤ w2.heap.size + 1 by omega)
      have hrb := own_mono (own3 HI.out.rb) (show w.heap.size ≤ w2.heap.size + 1 by omega)
      rw [HF.out] at hra hrb
      rw [← hY]
      have y0 := hb3.cell 0 rfl
      have y1 := hb3.cell 1 rfl
      have y2 := hb3.cell 2 rfl
      have HZ := Lib.hid (And.intro hbel (And.intro hra hrb))
      clear hbel hra hrb own3 hb3 hY g0 g1 g2 r0 r1 r2 q0 q1 q2
      refine bodyPost_ret (v := .tuple #[.agg #[.slice op k cp, .slice oq k cq, .int .i64 off], .int .i64 0]) (by simp [results, Tryz.results115, go_sem, y0, y1, y2]) rfl ⟨HZ.out.1, _, _, rfl, ?_, ?_⟩
      · rw [OwnI, ints_length, permN_length, ← HL.out.2.1]; exact HZ.out.2.1
      · rw [OwnI, ints_length, permN_length, ← HL.out.2.1]; exact HZ.out.2.2
end Go.Proofs.YtipjhdgegfgenaaGreat
