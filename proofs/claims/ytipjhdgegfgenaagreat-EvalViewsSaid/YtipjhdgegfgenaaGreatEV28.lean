/-
  VIEWS of nodes, by the page: ratchetref18.ViewOf.
-/
import Derived.StillTailTactics
import Derived.Deep.DeepCutAuto
import Derived.Test.YtipjhdgegfgenaaGreatEV23
import Derived.Test.YtipjhdgegfgenaaGreatEV16
import Derived.Test.YtipjhdgegfgenaaGreatEV27
import Derived.Test.YtipjhdgegfgenaaGreatEV13
set_option linter.unusedVariables false
set_option linter.unusedSimpArgs false
namespace Go.Proofs.YtipjhdgegfgenaaGreat
open Go.RowKit Go.Shelf Go
/-- a view (its shape told), and an error's number -/
def SawOut (w0 : World) (r : List Int × Int) (e : Ending) (w' : World) : Prop :=
  Below w0.heap.size w0 w' ∧ ∃ a o n c off, e = .returned (.tuple #[.agg #[a, .slice o n c, .int .i64 off], .int .i64 r.2]) ∧ OwnI w' w0.heap.size 3 .i64 a r.1
theorem saw_set {w w3 Y : World} {T : TypeId} {cs ds : Array Value} {a b : Value} {off : Int} {B : Nat} {xs : List Int} (h : Box w3 w.heap.size T cs ∧ Box w3 (w.heap.size + 1) 81 ds ∧ Below w.heap.size w w3) (hd : ds.size = 3) (hB : w.heap.size + 2 ≤ B) (ha : OwnI w3 B 3 .i64 a xs)
    (hY : Y = ((w3.setCell ⟨w.heap.size + 1, 0, none⟩ a).setCell ⟨w.heap.size + 1, 1, none⟩ b).setCell ⟨w.heap.size + 1, 2, none⟩ (.int .i64 off)) :
    Y.cell? ⟨w.heap.size + 1, 0, none⟩ = some a ∧ Y.cell? ⟨w.heap.size + 1, 1, none⟩ = some b ∧ Y.cell? ⟨w.heap.size + 1, 2, none⟩ = some (.int .i64 off) ∧ Below w.heap.size w Y ∧ OwnI Y w.heap.size 3 .i64 a xs := by
  obtain ⟨z0, z1, z2, rfl⟩ : ∃ z0 z1 z2, ds = #[z0, z1, z2] := by
    rcases ds with ⟨l⟩
    rcases l with _ | ⟨z0, _ | ⟨z1, _ | ⟨z2, _ | ⟨z3, l⟩⟩⟩⟩ <;> simp at hd
    exact ⟨z0, z1, z2, rfl⟩
  have hb3 : Box Y (w.heap.size + 1) 81 #[a, b, .int .i64 off] := by rw [hY]; exact (((h.2.1.set 0 _).set 1 _).set 2 _)
  refine ⟨hb3.cell 0 rfl, hb3.cell 1 rfl, hb3.cell 2 rfl, ?_, ?_⟩
  · rw [hY]; exact below_st_set (below_st_set (below_st_set h.2.2 (Nat.le_succ w.heap.size)) (Nat.le_succ w.heap.size)) (Nat.le_succ w.heap.size)
  · rw [hY]
    exact own_mono (own_st_set (own_st_set (own_st_set ha (fun j hj => by have := (ha.lt j hj).1; omega)) (fun j hj => by have := (ha.lt j hj).1; omega)) (fun j hj => by have := (ha.lt j hj).1; omega)) (by omega)
theorem shape_all {il : List Int} (h : shapeB il = true) : il.all dimB = true := by
  simp only [shapeB, Bool.and_eq_true] at h; exact h.1.2
theorem shape_len {il : List Int} (h : shapeB il = true) : il.length ≤ 4 := by
  simp only [shapeB, Bool.and_eq_true, decide_eq_true_eq] at h; exact h.1.1
theorem cnt_good {il : List Int} (h : shapeB il = true) : cnt il = prodL il := by
  simp only [shapeB, Bool.and_eq_true, decide_eq_true_eq] at h; rw [cnt, if_pos h.2]
theorem shape_nonneg {il : List Int} (h : shapeB il = true) : ∀ x ∈ il, 0 ≤ x := fun x hx => by
  simp only [shapeB, Bool.and_eq_true, List.all_eq_true, dimB, decide_eq_true_eq] at h
  have := h.1.2 x hx; omega
theorem order_in {il : List Int} {n : Nat} (h : orderB il n = true) : ∀ x ∈ il, 0 ≤ x ∧ x < n := fun x hx => by
  simp only [orderB, Bool.and_eq_true, List.all_eq_true, inB, decide_eq_true_eq] at h
  have := h.1.1 x hx; omega
theorem order_nonneg {il : List Int} {n : Nat} (h : orderB il n = true) : ∀ x ∈ il, 0 ≤ x := fun x hx => (order_in h x hx).1
theorem order_lt {ns : List Nat} {n : Nat} (h : orderB (ints ns) n = true) : ∀ x ∈ ns, x < n := fun x hx => by
  have := (order_in h (x : Int) (by rw [ints]; exact List.mem_map.2 ⟨x, hx, rfl⟩)).2; omega
theorem own_nilV (w : World) (B : Nat) : OwnI w B 3 .i64 (.slice none 0 0) [] := World.ownsRow_nil _ _ _ _
/-- reshaped: the shape, an error's number -/
def viewE19 (il : List Int) (sh : List Nat) : List Int × Int := if shapeB il then (if prodL il = prodL (ints sh) then (il, 0) else ([], 2)) else ([], 1)
def viewE20 (il : List Int) (sh : List Nat) : List Int × Int := if orderB il sh.length then (ints (permN sh (il.map Int.toNat)), 0) else ([], 2)
def viewE21 (il : List Int) (sh : List Nat) : List Int × Int :=
  if 0 ≤ nth il 0 ∧ nth il 0 < sh.length ∧ 0 ≤ nth il 1 ∧ nth il 1 < nth il 2 ∧ nth il 2 ≤ (sh.getD (nth il 0).toNat 0 : Nat) then (ints (sh.set (nth il 0).toNat ((nth il 2).toNat - (nth il 1).toNat)), 0) else ([], 2)
set_option maxRecDepth 1000000 in
set_option maxHeartbeats 8000000 in
theorem viewOf19 (word : Int) (oa oi o1 o2 o3 o4 : Option Addr) (na ni n1 n2 n3 n4 ca ci c1 c2 c3 c4 : Nat) (v : Value) (sh : List Nat) (il : List Int) (w : World) (hi : Rd w .i64 (.slice oi ni ci) il) (hs : Rd w .i64 v (ints sh)) (hg : shapeB (ints sh) = true) (hil : il.length ≤ 1000) :
    Calls Tryz.prog 49 #[.agg #[.int .i64 19, .slice oa na ca, .slice oi ni ci, .int .i64 word, .slice o1 n1 c1, .slice o2 n2 c2, .slice o3 n3 c3, .slice o4 n4 c4], v] w (SawOut w (viewE19 il sh)) := by
  have HI := Lib.hid hi
  obtain ⟨os, cs, rfl⟩ := rd_slice hs
  obtain ⟨m, hm⟩ : ∃ m, m = (ints sh).length := ⟨_, rfl⟩
  have hm4 : m ≤ 4 := by rw [hm, ints_length]; exact (dims_good hg).2
  have hni : ni = il.length := by obtain ⟨o, cap, he⟩ := rd_slice hi; injection he
  have HNI := Lib.hid hni
  have hni2 : ni ≤ 1000 := by omega
  have HIL := Lib.hid hil
  rw [← hm] at hs ⊢
  obtain ⟨W, hW⟩ : ∃ W, W = (w.alloc (.cells #[.int .i64 19, .slice oa na ca, .slice oi ni ci, .int .i64 word, .slice o1 n1 c1, .slice o2 n2 c2, .slice o3 n3 c3, .slice o4 n4 c4] 27)).alloc (.cells #[.slice none 0 0, .slice none 0 0, .int .i64 0] 81) := ⟨_, rfl⟩
  have HX := Lib.hid (two_boxV w _ _ _ _ hW)
  have HW := Lib.hid hW
  have HS := Lib.hid hs
  have HG := Lib.hid hg
  have HM := Lib.hid hm
  clear hm hW hs hg hi hni hil
  go_enter Tryz.func49, Tryz.ntmps49
  go_wp2_with (go_at_call 88; rw [← HW.out]; refine (ref6Of_any _ sh W (HS.out.below HX.out.2.2 (Nat.le_refl _)) (dims_good HG.out)).mono ?_; rintro e w1 ⟨hb1, a, b, rfl, hoa, hob⟩; refine stopHere ?_)
  have HX1 := Lib.hid (two_nextV HX.out hb1)
  obtain ⟨op, cp, hap⟩ := own_slice hoa
  obtain ⟨oq, cq, hbq⟩ := own_slice hob
  subst hap
  subst hbq
  rw [show (ints (stepsN sh)).length = (ints sh).length by rw [ints_length, ints_length, stepsN_length]] at hob ⊢
  rw [← HM.out] at hoa hob ⊢
  obtain ⟨w2, hw2⟩ : ∃ w2, w2 = w1.alloc (.cells #[.slice op m cp, .slice oq m cq, .int .i64 0] 81) := ⟨_, rfl⟩
  have hb2 : Below w1.heap.size w1 w2 := by rw [hw2]; exact (Below.refl _ _).alloc (Nat.le_refl _) _
  have hbx2 : Box w2 w1.heap.size 81 #[.slice op m cp, .slice oq m cq, .int .i64 0] := by rw [hw2]; exact Box.new _ _ _
  have HX2 := Lib.hid (And.intro (two_nextV HX1.out hb2) (And.intro hbx2 (And.intro (Rd.of_own (own_st_next hb2 hoa)) (Rd.of_own (own_st_next hb2 hob)))))
  have HW2 := Lib.hid hw2
  have hlt : w1.heap.size < w2.heap.size := hbx2.lt
  have hgw : w.heap.size + 1 < w1.heap.size := HX1.out.2.1.lt
  have d0 : w2.cell? ⟨w.heap.size, 0, none⟩ = some (.int .i64 19) := HX2.out.1.1.cell 0 rfl
  have d2 : w2.cell? ⟨w.heap.size, 2, none⟩ = some (.slice oi ni ci) := HX2.out.1.1.cell 2 rfl
  have v0 : w2.cell? ⟨w1.heap.size, 0, none⟩ = some (.slice op m cp) := hbx2.cell 0 rfl
  have v1 : w2.cell? ⟨w1.heap.size, 1, none⟩ = some (.slice oq m cq) := hbx2.cell 1 rfl
  have v2 : w2.cell? ⟨w1.heap.size, 2, none⟩ = some (.int .i64 0) := hbx2.cell 2 rfl
  have q0 := HX2.out.1.2.1.free 0
  have q1 := HX2.out.1.2.1.free 1
  have q2 := HX2.out.1.2.1.free 2
  clear hb1 hoa hob hw2 hb2 hbx2
  refine goOn ?_
  go_upto_region 2 with fail
  rw [← HW2.out]
  have HM6 := Lib.hid (ref6May_any _ il w2 (HI.out.below HX2.out.1.2.2 (Nat.le_refl _)) (by have := HIL.out; omega))
  obtain ⟨r, hr⟩ : ∃ r, r = shapeB il := ⟨_, rfl⟩
  have HR := Lib.hid hr
  rw [← hr] at HM6
  clear hr
  go_wp2_with (go_at_call 17; refine HM6.out.mono ?_; rintro e w3 ⟨rfl, hsm⟩; refine stopHere ?_)
  have HX3 := Lib.hid (two_nextV HX2.out.1 (hsm.below _))
  clear hsm HM6 d0 d2 v0 v1 v2 q0 q1 q2
  have d2 : w3.cell? ⟨w.heap.size, 2, none⟩ = some (.slice oi ni ci) := HX3.out.1.cell 2 rfl
  have r0 : w3.cell? ⟨w.heap.size + 1, 0, none⟩ = some (.slice none 0 0) := HX3.out.2.1.cell 0 rfl
  have r1 : w3.cell? ⟨w.heap.size + 1, 1, none⟩ = some (.slice none 0 0) := HX3.out.2.1.cell 1 rfl
  have r2 : w3.cell? ⟨w.heap.size + 1, 2, none⟩ = some (.int .i64 0) := HX3.out.2.1.cell 2 rfl
  have q0 := HX3.out.2.1.free 0
  have q1 := HX3.out.2.1.free 1
  have q2 := HX3.out.2.1.free 2
  refine goOn ?_
  cases r with
  | false =>
    go_wp2_with fail
    obtain ⟨Y, hY⟩ : ∃ Y, Y = ((w3.setCell ⟨w.heap.size + 1, 0, none⟩ (.slice none 0 0)).setCell ⟨w.heap.size + 1, 1, none⟩ (.slice none 0 0)).setCell ⟨w.heap.size + 1, 2, none⟩ (.int .i64 0) := ⟨_, rfl⟩
    obtain ⟨y0, y1, y2, hbel, how⟩ := saw_set HX3.out rfl (Nat.le_refl _) (own_nilV _ _) hY
    rw [← hY]
    have HZ := Lib.hid (And.intro hbel how)
    clear hbel how hY
    refine bodyPost_ret (v := .tuple #[.agg #[.slice none 0 0, .slice none 0 0, .int .i64 0], .int .i64 1]) (by simp [results, Tryz.results49, go_sem, y0, y1, y2]) rfl ?_
    rw [show viewE19 il sh = ([], 1) by rw [viewE19, ← HR.out]; rfl]
    exact ⟨HZ.out.1, _, _, _, _, _, rfl, HZ.out.2⟩
  | true =>
    have HC1 := Lib.hid (show ∀ X, Below w.heap.size w X → Calls Tryz.prog 6 #[.slice oi ni ci] X fun e w' => e = .returned (.int .i64 (prodL il)) ∧ Same X w' from fun X h => by
      have := ref6Count_any _ il X (HI.out.below h (Nat.le_refl _)) (shape_all HR.out.symm) (shape_len HR.out.symm)
      rwa [cnt_good HR.out.symm] at this)
    have HC2 := Lib.hid (show ∀ X, Below w.heap.size w X → Calls Tryz.prog 6 #[.slice os m cs] X fun e w' => e = .returned (.int .i64 (prodL (ints sh))) ∧ Same X w' from fun X h => by
      have := ref6Count_any _ (ints sh) X (HS.out.below h (Nat.le_refl _)) (shape_all HG.out) (shape_len HG.out)
      rwa [cnt_good HG.out] at this)
    have HSP := Lib.hid (show viewE19 il sh = (if prodL il = prodL (ints sh) then (il, 0) else ([], 2)) by rw [viewE19, ← HR.out]; rfl)
    generalize prodL il = p at HC1 HSP
    generalize prodL (ints sh) = q at HC2 HSP
    go_wp2_with (go_at_call_of 6 oi; refine (HC1.out _ HX3.out.2.2).mono ?_; rintro e w4 ⟨rfl, hsm⟩; refine stopHere ?_)
    have HX4 := Lib.hid (two_nextV HX3.out (hsm.below _))
    clear hsm d2 r0 r1 r2 q0 q1 q2
    refine goOn ?_
    go_wp2_with (go_at_call_of 6 os; refine (HC2.out _ HX4.out.2.2).mono ?_; rintro e w5 ⟨rfl, hsm⟩; refine stopHere ?_)
    have HX5 := Lib.hid (two_nextV HX4.out (hsm.below _))
    clear hsm HX4 HC1 HC2
    have d2 : w5.cell? ⟨w.heap.size, 2, none⟩ = some (.slice oi ni ci) := HX5.out.1.cell 2 rfl
    have r0 : w5.cell? ⟨w.heap.size + 1, 0, none⟩ = some (.slice none 0 0) := HX5.out.2.1.cell 0 rfl
    have r1 : w5.cell? ⟨w.heap.size + 1, 1, none⟩ = some (.slice none 0 0) := HX5.out.2.1.cell 1 rfl
    have r2 : w5.cell? ⟨w.heap.size + 1, 2, none⟩ = some (.int .i64 0) := HX5.out.2.1.cell 2 rfl
    have q0 := HX5.out.2.1.free 0
    have q1 := HX5.out.2.1.free 1
    have q2 := HX5.out.2.1.free 2
    refine goOn ?_
    by_cases hpq : p = q
    case neg =>
      have hb : (p != q) = true := by simp; exact hpq
      have HNE := Lib.hid hpq
      clear hpq
      go_wp2_with fail
      obtain ⟨Y, hY⟩ : ∃ Y, Y = ((w5.setCell ⟨w.heap.size + 1, 0, none⟩ (.slice none 0 0)).setCell ⟨w.heap.size + 1, 1, none⟩ (.slice none 0 0)).setCell ⟨w.heap.size + 1, 2, none⟩ (.int .i64 0) := ⟨_, rfl⟩
      obtain ⟨y0, y1, y2, hbel, how⟩ := saw_set HX5.out rfl (Nat.le_refl _) (own_nilV _ _) hY
      rw [← hY]
      have HZ := Lib.hid (And.intro hbel how)
      clear hbel how hY
      refine bodyPost_ret (v := .tuple #[.agg #[.slice none 0 0, .slice none 0 0, .int .i64 0], .int .i64 2]) (by simp [results, Tryz.results49, go_sem, y0, y1, y2]) rfl ?_
      rw [HSP.out, if_neg HNE.out]
      exact ⟨HZ.out.1, _, _, _, _, _, rfl, HZ.out.2⟩
    have hb : (p != q) = false := by simp; exact hpq
    have HEQ := Lib.hid hpq
    clear hpq
    obtain ⟨ns, hns⟩ : ∃ ns, il = ints ns := ⟨il.map Int.toNat, (ints_of il (shape_nonneg HR.out.symm)).symm⟩
    have HNS := Lib.hid hns
    go_wp2_with (go_at_call 88; refine (ref6Of_any _ ns w5 (HNS.out ▸ HI.out.below HX5.out.2.2 (Nat.le_refl _)) (dims_good (HNS.out ▸ HR.out.symm))).mono ?_; rintro e w6 ⟨hb6, a3, b3, rfl, hoa3, hob3⟩; refine stopHere ?_)
    have HX6 := Lib.hid (And.intro (two_nextV HX5.out hb6) (show w.heap.size + 2 ≤ w5.heap.size from HX5.out.2.1.lt))
    obtain ⟨oz, cz, hzz⟩ := own_slice hoa3
    obtain ⟨oy, cy, hyy⟩ := own_slice hob3
    subst hzz
    subst hyy
    rw [← HNS.out] at hoa3 ⊢
    obtain ⟨nz, hnz⟩ : ∃ nz, nz = il.length := ⟨_, rfl⟩
    obtain ⟨ny, hny⟩ : ∃ ny, ny = (ints (stepsN ns)).length := ⟨_, rfl⟩
    rw [← hnz] at hoa3 ⊢
    rw [← hny] at ⊢
    have HO := Lib.hid hoa3
    clear hb6 hoa3 hob3 hnz hny d2 r0 r1 r2 q0 q1 q2 hns
    have r0 : w6.cell? ⟨w.heap.size + 1, 0, none⟩ = some (.slice none 0 0) := HX6.out.1.2.1.cell 0 rfl
    have r1 : w6.cell? ⟨w.heap.size + 1, 1, none⟩ = some (.slice none 0 0) := HX6.out.1.2.1.cell 1 rfl
    have r2 : w6.cell? ⟨w.heap.size + 1, 2, none⟩ = some (.int .i64 0) := HX6.out.1.2.1.cell 2 rfl
    have q0 := HX6.out.1.2.1.free 0
    have q1 := HX6.out.1.2.1.free 1
    have q2 := HX6.out.1.2.1.free 2
    refine goOn ?_
    go_wp2_with fail
    obtain ⟨Y, hY⟩ : ∃ Y, Y = ((w6.setCell ⟨w.heap.size + 1, 0, none⟩ (.slice oz nz cz)).setCell ⟨w.heap.size + 1, 1, none⟩ (.slice oy ny cy)).setCell ⟨w.heap.size + 1, 2, none⟩ (.int .i64 (0)) := ⟨_, rfl⟩
    obtain ⟨y0, y1, y2, hbel, how⟩ := saw_set HX6.out.1 rfl HX6.out.2 (HO.out) hY
    rw [← hY]
    have HZ := Lib.hid (And.intro hbel how)
    clear hbel how hY
    refine bodyPost_ret (v := .tuple #[.agg #[.slice oz nz cz, .slice oy ny cy, .int .i64 (0)], .int .i64 0]) (by simp [results, Tryz.results49, go_sem, y0, y1, y2]) rfl ?_
    rw [HSP.out, if_pos HEQ.out]
    exact ⟨HZ.out.1, _, _, _, _, _, rfl, HZ.out.2⟩
set_option maxRecDepth 1000000 in
set_option maxHeartbeats 8000000 in
theorem viewOf20 (word : Int) (oa oi o1 o2 o3 o4 : Option Addr) (na ni n1 n2 n3 n4 ca ci c1 c2 c3 c4 : Nat) (v : Value) (sh : List Nat) (il : List Int) (w : World) (hi : Rd w .i64 (.slice oi ni ci) il) (hs : Rd w .i64 v (ints sh)) (hg : shapeB (ints sh) = true) (hil : il.length ≤ 1000) :
    Calls Tryz.prog 49 #[.agg #[.int .i64 20, .slice oa na ca, .slice oi ni ci, .int .i64 word, .slice o1 n1 c1, .slice o2 n2 c2, .slice o3 n3 c3, .slice o4 n4 c4], v] w (SawOut w (viewE20 il sh)) := by
  have HI := Lib.hid hi
  obtain ⟨os, cs, rfl⟩ := rd_slice hs
  obtain ⟨m, hm⟩ : ∃ m, m = (ints sh).length := ⟨_, rfl⟩
  have hm4 : m ≤ 4 := by rw [hm, ints_length]; exact (dims_good hg).2
  have hni : ni = il.length := by obtain ⟨o, cap, he⟩ := rd_slice hi; injection he
  have HNI := Lib.hid hni
  have hni2 : ni ≤ 1000 := by omega
  have HIL := Lib.hid hil
  rw [← hm] at hs ⊢
  obtain ⟨W, hW⟩ : ∃ W, W = (w.alloc (.cells #[.int .i64 20, .slice oa na ca, .slice oi ni ci, .int .i64 word, .slice o1 n1 c1, .slice o2 n2 c2, .slice o3 n3 c3, .slice o4 n4 c4] 27)).alloc (.cells #[.slice none 0 0, .slice none 0 0, .int .i64 0] 81) := ⟨_, rfl⟩
  have HX := Lib.hid (two_boxV w _ _ _ _ hW)
  have HW := Lib.hid hW
  have HS := Lib.hid hs
  have HG := Lib.hid hg
  have HM := Lib.hid hm
  clear hm hW hs hg hi hni hil
  go_enter Tryz.func49, Tryz.ntmps49
  go_wp2_with (go_at_call 88; rw [← HW.out]; refine (ref6Of_any _ sh W (HS.out.below HX.out.2.2 (Nat.le_refl _)) (dims_good HG.out)).mono ?_; rintro e w1 ⟨hb1, a, b, rfl, hoa, hob⟩; refine stopHere ?_)
  have HX1 := Lib.hid (two_nextV HX.out hb1)
  obtain ⟨op, cp, hap⟩ := own_slice hoa
  obtain ⟨oq, cq, hbq⟩ := own_slice hob
  subst hap
  subst hbq
  rw [show (ints (stepsN sh)).length = (ints sh).length by rw [ints_length, ints_length, stepsN_length]] at hob ⊢
  rw [← HM.out] at hoa hob ⊢
  obtain ⟨w2, hw2⟩ : ∃ w2, w2 = w1.alloc (.cells #[.slice op m cp, .slice oq m cq, .int .i64 0] 81) := ⟨_, rfl⟩
  have hb2 : Below w1.heap.size w1 w2 := by rw [hw2]; exact (Below.refl _ _).alloc (Nat.le_refl _) _
  have hbx2 : Box w2 w1.heap.size 81 #[.slice op m cp, .slice oq m cq, .int .i64 0] := by rw [hw2]; exact Box.new _ _ _
  have HX2 := Lib.hid (And.intro (two_nextV HX1.out hb2) (And.intro hbx2 (And.intro (Rd.of_own (own_st_next hb2 hoa)) (Rd.of_own (own_st_next hb2 hob)))))
  have HW2 := Lib.hid hw2
  have hlt : w1.heap.size < w2.heap.size := hbx2.lt
  have hgw : w.heap.size + 1 < w1.heap.size := HX1.out.2.1.lt
  have d0 : w2.cell? ⟨w.heap.size, 0, none⟩ = some (.int .i64 20) := HX2.out.1.1.cell 0 rfl
  have d2 : w2.cell? ⟨w.heap.size, 2, none⟩ = some (.slice oi ni ci) := HX2.out.1.1.cell 2 rfl
  have v0 : w2.cell? ⟨w1.heap.size, 0, none⟩ = some (.slice op m cp) := hbx2.cell 0 rfl
  have v1 : w2.cell? ⟨w1.heap.size, 1, none⟩ = some (.slice oq m cq) := hbx2.cell 1 rfl
  have v2 : w2.cell? ⟨w1.heap.size, 2, none⟩ = some (.int .i64 0) := hbx2.cell 2 rfl
  have q0 := HX2.out.1.2.1.free 0
  have q1 := HX2.out.1.2.1.free 1
  have q2 := HX2.out.1.2.1.free 2
  clear hb1 hoa hob hw2 hb2 hbx2
  refine goOn ?_
  go_upto_region 2 with fail
  rw [← HW2.out]
  have HM6 := Lib.hid (ref6Axes_any _ il sh.length w2 (HI.out.below HX2.out.1.2.2 (Nat.le_refl _)) (by have := HIL.out; omega) (by have := HM.out; rw [ints_length] at this; omega))
  obtain ⟨r, hr⟩ : ∃ r, r = orderB il sh.length := ⟨_, rfl⟩
  have HR := Lib.hid hr
  have hms : sh.length = m := by have := HM.out; rw [ints_length] at this; exact this.symm
  rw [← hr, hms] at HM6
  have HMS := Lib.hid hms
  clear hr hms
  go_wp2_with (go_at_call 89; refine HM6.out.mono ?_; rintro e w3 ⟨rfl, hsm⟩; refine stopHere ?_)
  have HX3 := Lib.hid (And.intro (two_nextV HX2.out.1 (hsm.below _)) (And.intro (HX2.out.2.1.same hsm) (And.intro (HX2.out.2.2.1.below (hsm.below _) (Nat.le_refl _)) (HX2.out.2.2.2.below (hsm.below _) (Nat.le_refl _)))))
  clear hsm HM6 d0 d2 v0 v1 v2 q0 q1 q2
  have hlt : w1.heap.size < w3.heap.size := HX3.out.2.1.lt
  have d2 : w3.cell? ⟨w.heap.size, 2, none⟩ = some (.slice oi ni ci) := HX3.out.1.1.cell 2 rfl
  have v0 : w3.cell? ⟨w1.heap.size, 0, none⟩ = some (.slice op m cp) := HX3.out.2.1.cell 0 rfl
  have v1 : w3.cell? ⟨w1.heap.size, 1, none⟩ = some (.slice oq m cq) := HX3.out.2.1.cell 1 rfl
  have v2 : w3.cell? ⟨w1.heap.size, 2, none⟩ = some (.int .i64 0) := HX3.out.2.1.cell 2 rfl
  have r0 : w3.cell? ⟨w.heap.size + 1, 0, none⟩ = some (.slice none 0 0) := HX3.out.1.2.1.cell 0 rfl
  have r1 : w3.cell? ⟨w.heap.size + 1, 1, none⟩ = some (.slice none 0 0) := HX3.out.1.2.1.cell 1 rfl
  have r2 : w3.cell? ⟨w.heap.size + 1, 2, none⟩ = some (.int .i64 0) := HX3.out.1.2.1.cell 2 rfl
  have q0 := HX3.out.1.2.1.free 0
  have q1 := HX3.out.1.2.1.free 1
  have q2 := HX3.out.1.2.1.free 2
  have HX3b := Lib.hid HX3.out.1
  refine goOn ?_
  cases r with
  | false =>
    go_wp2_with fail
    obtain ⟨Y, hY⟩ : ∃ Y, Y = ((w3.setCell ⟨w.heap.size + 1, 0, none⟩ (.slice none 0 0)).setCell ⟨w.heap.size + 1, 1, none⟩ (.slice none 0 0)).setCell ⟨w.heap.size + 1, 2, none⟩ (.int .i64 0) := ⟨_, rfl⟩
    obtain ⟨y0, y1, y2, hbel, how⟩ := saw_set HX3b.out rfl (Nat.le_refl _) (own_nilV _ _) hY
    rw [← hY]
    have HZ := Lib.hid (And.intro hbel how)
    clear hbel how hY
    refine bodyPost_ret (v := .tuple #[.agg #[.slice none 0 0, .slice none 0 0, .int .i64 0], .int .i64 2]) (by simp [results, Tryz.results49, go_sem, y0, y1, y2]) rfl ?_
    rw [show viewE20 il sh = ([], 2) by rw [viewE20, ← HR.out]; rfl]
    exact ⟨HZ.out.1, _, _, _, _, _, rfl, HZ.out.2⟩
  | true =>
    obtain ⟨ns, hns⟩ : ∃ ns, il = ints ns ∧ ns = il.map Int.toNat := ⟨il.map Int.toNat, (ints_of il (order_nonneg HR.out.symm)).symm, rfl⟩
    have HNS := Lib.hid hns
    have HSP := Lib.hid (show viewE20 il sh = (ints (permN sh ns), 0) by rw [viewE20, ← HR.out, hns.2]; rfl)
    have HT := Lib.hid (ref6Transpose_any (.slice op m cp) (.slice oq m cq) (.slice oi ni ci) sh (stepsN sh) ns 0 w3 HX3.out.2.2.1 HX3.out.2.2.2 (hns.1 ▸ HI.out.below HX3.out.1.2.2 (Nat.le_refl _)) (stepsN_length sh) (fun x hx => order_lt (hns.1 ▸ HR.out.symm) x hx) (by have := HIL.out; rw [hns.1, ints_length] at this; exact this) (by rw [HMS.out]; omega))
    clear hns
    go_wp2_with (go_at_call 90; refine HT.out.mono ?_; rintro e w6 ⟨hb6, a3, b3, rfl, hoa3, hob3⟩; refine stopHere ?_)
    have HX6 := Lib.hid (And.intro (two_nextV HX3.out.1 hb6) (show w.heap.size + 2 ≤ w3.heap.size by omega))
    obtain ⟨oz, cz, hzz⟩ := own_slice hoa3
    obtain ⟨oy, cy, hyy⟩ := own_slice hob3
    subst hzz
    subst hyy
    obtain ⟨nz, hnz⟩ : ∃ nz, nz = (ints (permN sh ns)).length := ⟨_, rfl⟩
    obtain ⟨ny, hny⟩ : ∃ ny, ny = (ints (permN (stepsN sh) ns)).length := ⟨_, rfl⟩
    rw [← hnz] at hoa3 ⊢
    rw [← hny] at ⊢
    have HO := Lib.hid hoa3
    clear hb6 hoa3 hob3 hnz hny d2 r0 r1 r2 q0 q1 q2 v0 v1 v2 HT
    have r0 : w6.cell? ⟨w.heap.size + 1, 0, none⟩ = some (.slice none 0 0) := HX6.out.1.2.1.cell 0 rfl
    have r1 : w6.cell? ⟨w.heap.size + 1, 1, none⟩ = some (.slice none 0 0) := HX6.out.1.2.1.cell 1 rfl
    have r2 : w6.cell? ⟨w.heap.size + 1, 2, none⟩ = some (.int .i64 0) := HX6.out.1.2.1.cell 2 rfl
    have q0 := HX6.out.1.2.1.free 0
    have q1 := HX6.out.1.2.1.free 1
    have q2 := HX6.out.1.2.1.free 2
    refine goOn ?_
    go_wp2_with fail
    obtain ⟨Y, hY⟩ : ∃ Y, Y = ((w6.setCell ⟨w.heap.size + 1, 0, none⟩ (.slice oz nz cz)).setCell ⟨w.heap.size + 1, 1, none⟩ (.slice oy ny cy)).setCell ⟨w.heap.size + 1, 2, none⟩ (.int .i64 (0)) := ⟨_, rfl⟩
    obtain ⟨y0, y1, y2, hbel, how⟩ := saw_set HX6.out.1 rfl HX6.out.2 (HO.out) hY
    rw [← hY]
    have HZ := Lib.hid (And.intro hbel how)
    clear hbel how hY
    refine bodyPost_ret (v := .tuple #[.agg #[.slice oz nz cz, .slice oy ny cy, .int .i64 (0)], .int .i64 0]) (by simp [results, Tryz.results49, go_sem, y0, y1, y2]) rfl ?_
    rw [HSP.out]
    exact ⟨HZ.out.1, _, _, _, _, _, rfl, HZ.out.2⟩
end Go.Proofs.YtipjhdgegfgenaaGreat
