/-
  TENSORS that may be, alone and in lists.
-/
import Derived.WalkMore
import Derived.Test.YtipjhdgegfgenaaGreatEV04
import Derived.Test.YtipjhdgegfgenaaGreatEV07
set_option linter.unusedVariables false
set_option linter.unusedSimpArgs false
namespace Go.Proofs.YtipjhdgegfgenaaGreat
open Go.RowKit Go.Shelf Go
def tensB (t : TensD) : Bool := shapeB t.sh && (decide ((t.da.length : Int) = prodL t.sh) && wordsB t.da)
/-- no list of it is beyond the reach -/
def TensD.Lim (t : TensD) : Prop := t.sh.length ≤ 140737488351232 ∧ t.da.length ≤ 140737488351232
theorem elemGood1_any (v : Int) (w : World) :
    Calls Tryz.prog 112 #[.int .i64 v] w fun e w' => e = .returned (.bool (!wordB v)) ∧ Same w w' := by
  go_enter Tryz.func112, Tryz.ntmps112
  go_wp2_with fail
  refine (fxGood_any v _).mono ?_
  rintro e w' ⟨rfl, nq, rfl⟩
  go_wp2
  go_ret
  exact ⟨rfl, _, rfl⟩
set_option maxRecDepth 100000 in
set_option maxHeartbeats 2000000 in
theorem elemGood_any (vs vd : Value) (t : TensD) (w : World) (hs : Rd w .i64 vs t.sh) (hd : Rd w .i64 vd t.da) (hl : t.Lim) :
    Calls Tryz.prog 65 #[.agg #[vs, vd]] w fun e w' => e = .returned (.bool (tensB t)) ∧ Below w.heap.size w w' := by
  obtain ⟨o1, cap1, he1⟩ := rd_slice hs
  obtain ⟨o2, cap2, he2⟩ := rd_slice hd
  subst he1 he2
  obtain ⟨hl1, hl2⟩ := hl
  obtain ⟨W, hW⟩ : ∃ W, W = w.alloc (.cells #[.slice o1 t.sh.length cap1, .slice o2 t.da.length cap2] 36) := ⟨_, rfl⟩
  have hbx : Box W w.heap.size 36 #[.slice o1 t.sh.length cap1, .slice o2 t.da.length cap2] := by rw [hW]; exact Box.new _ _ _
  have HB := Lib.hid (show Below w.heap.size w W by rw [hW]; exact (Below.refl _ _).alloc (Nat.le_refl _) _)
  have hS : Rd W .i64 (.slice o1 t.sh.length cap1) t.sh := hs.below HB.out (Nat.le_refl _)
  have hD : Rd W .i64 (.slice o2 t.da.length cap2) t.da := hd.below HB.out (Nat.le_refl _)
  have c0 := hbx.cell 0 rfl
  have c1 := hbx.cell 1 rfl
  have HG := Lib.hid fun (r : Bool) (h : shapeB t.sh = r) (m : Nat) => (show Calls Tryz.prog 102 #[.slice o1 t.sh.length cap1] (W.drewN m) fun e w' => e = .returned (.bool r) ∧ ∃ k, w' = (W.drewN m).drewN k by
    rw [← h]; exact shapeGood_any _ t.sh _ (hS.same ⟨_, rfl⟩) hl1)
  have HWd := Lib.hid fun (r : Bool) (h : wordsB t.da = r) (m : Nat) => (show Calls Tryz.prog 111 #[.slice o2 t.da.length cap2, .func (.func 112) #[] #[]] (W.drewN m) fun e w' => e = .returned (.bool (!r)) ∧ ∃ k, w' = (W.drewN m).drewN k by
    have := containsInt64_any (.slice o2 t.da.length cap2) t.da 112 #[] (fun x => !wordB x) (W.drewN m) (hD.same ⟨_, rfl⟩) hl2 (enters_of Tryz.func112 (by kernel_rfl) rfl) (fun k hk n => elemGood1_any _ _)
    rw [show (t.da.any fun x => !wordB x) = !r by rw [← h, wordsB, List.not_all_eq_any_not]] at this
    exact this)
  have HSz := Lib.hid fun (h : shapeB t.sh = true) (m : Nat) => (show Calls Tryz.prog 110 #[.slice o1 t.sh.length cap1] (W.drewN m) fun e w' => e = .returned (.int .i64 (prodL t.sh)) ∧ ∃ k, w' = (W.drewN m).drewN k by
    have hp : t.sh.length ≤ 4 ∧ t.sh.all dimB = true := by
      simp only [shapeB, Bool.and_eq_true, decide_eq_true_eq] at h
      exact h.1
    exact shapeSize_any _ t.sh _ (hS.same ⟨_, rfl⟩) hp.2 hp.1)
  clear hs hd hS hD hbx
  cases hb : shapeB t.sh with
  | false =>
    have HX := Lib.hid hb
    clear hb
    go_enter Tryz.func65, Tryz.ntmps65
    go_wp2_with fail
    rw [← hW]
    clear hW
    go_quiet (first | (go_at_call 102; exact Calls.quiet_of (HG.out _ HX.out _)))
    go_wp2
    go_ret
    exact ⟨ret_bool (by rw [tensB, HX.out]; rfl), below_drewN HB.out _⟩
  | true =>
    have HX := Lib.hid hb
    clear hb
    obtain ⟨p, hp⟩ : ∃ p, p = prodL t.sh := ⟨_, rfl⟩
    have HP := Lib.hid hp
    rw [← hp] at HSz
    clear hp
    by_cases he : (t.da.length : Int) = p
    · have hb1 : ((t.da.length : Int) == p) = true := by simp [he]
      have HE := Lib.hid he
      clear he
      cases hw : wordsB t.da with
      | false =>
        have HY := Lib.hid hw
        clear hw
        go_enter Tryz.func65, Tryz.ntmps65
        go_wp2_with fail
        rw [← hW]
        clear hW
        go_quiet (first | (go_at_call 102; exact Calls.quiet_of (HG.out _ HX.out _)) | (go_at_call 110; exact Calls.quiet_of (HSz.out HX.out _)) | (go_at_call 111; exact Calls.quiet_of (HWd.out _ HY.out _)))
        go_wp2
        go_ret
        exact ⟨ret_bool (by rw [tensB, HX.out, HY.out, Bool.and_false]; rfl), below_drewN HB.out _⟩
      | true =>
        have HY := Lib.hid hw
        clear hw
        go_enter Tryz.func65, Tryz.ntmps65
        go_wp2_with fail
        rw [← hW]
        clear hW
        go_quiet (first | (go_at_call 102; exact Calls.quiet_of (HG.out _ HX.out _)) | (go_at_call 110; exact Calls.quiet_of (HSz.out HX.out _)) | (go_at_call 111; exact Calls.quiet_of (HWd.out _ HY.out _)))
        go_wp2
        go_ret
        exact ⟨ret_bool (by rw [tensB, HX.out, HY.out, decide_eq_true (HE.out.trans HP.out)]; rfl), below_drewN HB.out _⟩
    · have hb1 : ((t.da.length : Int) == p) = false := by simp [he]
      have HE := Lib.hid he
      clear he
      go_enter Tryz.func65, Tryz.ntmps65
      go_wp2_with fail
      rw [← hW]
      clear hW
      go_quiet (first | (go_at_call 102; exact Calls.quiet_of (HG.out _ HX.out _)) | (go_at_call 110; exact Calls.quiet_of (HSz.out HX.out _)))
      go_wp2
      go_ret
      exact ⟨ret_bool (by rw [tensB, HX.out, decide_eq_false (fun h => HE.out (h.trans HP.out.symm))]; rfl), below_drewN HB.out _⟩
set_option maxRecDepth 100000 in
set_option maxHeartbeats 2000000 in
theorem ref8TMay_any (vs vd : Value) (t : TensD) (w : World) (hs : Rd w .i64 vs t.sh) (hd : Rd w .i64 vd t.da) (hl : t.Lim) :
    Calls Tryz.prog 5 #[.agg #[vs, vd]] w fun e w' => e = .returned (.bool (tensB t)) ∧ Below w.heap.size w w' := by
  obtain ⟨o1, cap1, he1⟩ := rd_slice hs
  obtain ⟨o2, cap2, he2⟩ := rd_slice hd
  subst he1 he2
  obtain ⟨hl1, hl2⟩ := hl
  obtain ⟨W, hW⟩ : ∃ W, W = w.alloc (.cells #[.slice o1 t.sh.length cap1, .slice o2 t.da.length cap2] 36) := ⟨_, rfl⟩
  have hbx : Box W w.heap.size 36 #[.slice o1 t.sh.length cap1, .slice o2 t.da.length cap2] := by rw [hW]; exact Box.new _ _ _
  have HB := Lib.hid (show Below w.heap.size w W by rw [hW]; exact (Below.refl _ _).alloc (Nat.le_refl _) _)
  have hS : Rd W .i64 (.slice o1 t.sh.length cap1) t.sh := hs.below HB.out (Nat.le_refl _)
  have hD : Rd W .i64 (.slice o2 t.da.length cap2) t.da := hd.below HB.out (Nat.le_refl _)
  have c0 := hbx.cell 0 rfl
  have c1 := hbx.cell 1 rfl
  have HG := Lib.hid fun (r : Bool) (h : shapeB t.sh = r) (m : Nat) => (show Calls Tryz.prog 17 #[.slice o1 t.sh.length cap1] (W.drewN m) fun e w' => e = .returned (.bool r) ∧ ∃ k, w' = (W.drewN m).drewN k by
    rw [← h]; exact ref6May_any _ t.sh _ (hS.same ⟨_, rfl⟩) hl1)
  have HWd := Lib.hid fun (r : Bool) (h : wordsB t.da = r) (m : Nat) => (show Calls Tryz.prog 18 #[.slice o2 t.da.length cap2] (W.drewN m) fun e w' => e = .returned (.bool r) ∧ ∃ k, w' = (W.drewN m).drewN k by
    rw [← h]; exact ref8Words_any _ t.da _ (hD.same ⟨_, rfl⟩) hl2)
  have HSz := Lib.hid fun (h : shapeB t.sh = true) (m : Nat) => (show Calls Tryz.prog 6 #[.slice o1 t.sh.length cap1] (W.drewN m) fun e w' => e = .returned (.int .i64 (prodL t.sh)) ∧ ∃ k, w' = (W.drewN m).drewN k by
    have hp : (t.sh.length ≤ 4 ∧ t.sh.all dimB = true) ∧ prodL t.sh ≤ 65536 := by
      simp only [shapeB, Bool.and_eq_true, decide_eq_true_eq] at h
      exact h
    have := ref6Count_any _ t.sh _ (hS.same ⟨m, rfl⟩) hp.1.2 hp.1.1
    rw [cnt, if_pos hp.2] at this
    exact this)
  clear hs hd hS hD hbx
  cases hb : shapeB t.sh with
  | false =>
    have HX := Lib.hid hb
    clear hb
    go_enter Tryz.func5, Tryz.ntmps5
    go_wp2_with fail
    rw [← hW]
    clear hW
    go_quiet (first | (go_at_call 17; exact Calls.quiet_of (HG.out _ HX.out _)))
    go_wp2
    go_ret
    exact ⟨ret_bool (by rw [tensB, HX.out]; rfl), below_drewN HB.out _⟩
  | true =>
    have HX := Lib.hid hb
    clear hb
    obtain ⟨p, hp⟩ : ∃ p, p = prodL t.sh := ⟨_, rfl⟩
    have HP := Lib.hid hp
    rw [← hp] at HSz
    clear hp
    by_cases he : (t.da.length : Int) = p
    · have hb1 : ((t.da.length : Int) == p) = true := by simp [he]
      have HE := Lib.hid he
      clear he
      cases hw : wordsB t.da
      all_goals
        have HY := Lib.hid hw
        clear hw
        go_enter Tryz.func5, Tryz.ntmps5
        go_wp2_with fail
        rw [← hW]
        clear hW
        go_quiet (first | (go_at_call 17; exact Calls.quiet_of (HG.out _ HX.out _)) | (go_at_call 6; exact Calls.quiet_of (HSz.out HX.out _)) | (go_at_call 18; exact Calls.quiet_of (HWd.out _ HY.out _)))
        go_wp2
        go_ret
        exact ⟨ret_bool (by rw [tensB, HX.out, HY.out, decide_eq_true (HE.out.trans HP.out)]; rfl), below_drewN HB.out _⟩
    · have hb1 : ((t.da.length : Int) == p) = false := by simp [he]
      have HE := Lib.hid he
      clear he
      go_enter Tryz.func5, Tryz.ntmps5
      go_wp2_with fail
      rw [← hW]
      clear hW
      go_quiet (first | (go_at_call 17; exact Calls.quiet_of (HG.out _ HX.out _)) | (go_at_call 6; exact Calls.quiet_of (HSz.out HX.out _)))
      go_wp2
      go_ret
      exact ⟨ret_bool (by rw [tensB, HX.out, decide_eq_false (fun h => HE.out (h.trans HP.out.symm))]; rfl), below_drewN HB.out _⟩
end Go.Proofs.YtipjhdgegfgenaaGreat
/-
  WORDS: view.words.
-/
set_option linter.unusedVariables false
set_option linter.unusedSimpArgs false
namespace Go.Proofs.YtipjhdgegfgenaaGreat
open Go.RowKit Go.Shelf Go
theorem viewWords1_any (v : Int) (w : World) :
    Calls Tryz.prog 164 #[.int .i64 v] w fun e w' => e = .returned (.bool (!wordB v)) ∧ Same w w' := by
  go_enter Tryz.func164, Tryz.ntmps164
  go_wp2_with fail
  refine (fxGood_any v _).mono ?_
  rintro e w' ⟨rfl, nq, rfl⟩
  go_wp2
  go_ret
  exact ⟨rfl, _, rfl⟩
theorem viewWords_any (v : Value) (xs : List Int) (w : World) (hr : Rd w .i64 v xs) (hl : xs.length ≤ 140737488351232) :
    Calls Tryz.prog 118 #[v] w fun e w' => e = .returned (.bool (wordsB xs)) ∧ Same w w' := by
  have HC := Lib.hid (containsInt64_any v xs 164 #[] (fun x => !wordB x) w hr hl (enters_of Tryz.func164 (by kernel_rfl) rfl) (fun k hk n => viewWords1_any _ _))
  obtain ⟨o, cap, rfl⟩ := rd_slice hr
  obtain ⟨r, hr2⟩ : ∃ r, r = xs.any (fun x => !wordB x) := ⟨_, rfl⟩
  have HE := Lib.hid (show wordsB xs = !r by rw [hr2, wordsB, ← List.not_all_eq_any_not, Bool.not_not])
  rw [← hr2] at HC
  clear hr2 hr
  go_enter Tryz.func118, Tryz.ntmps118
  go_wp2_with (go_at_call 111; refine HC.out.mono ?_; rintro e w' ⟨rfl, hsm⟩; refine stopHere ?_)
  have HS := Lib.hid hsm
  clear hsm
  refine goOn ?_
  go_wp2
  go_ret
  exact ⟨ret_bool HE.out.symm, HS.out⟩
end Go.Proofs.YtipjhdgegfgenaaGreat
/-
  VIEWS that may be: view.good, where it says yes.
-/
set_option linter.unusedVariables false
set_option linter.unusedSimpArgs false
namespace Go.Proofs.YtipjhdgegfgenaaGreat
open Go.RowKit Go.Shelf Go
theorem far_take_succ (sh st : List Nat) (k : Nat) (h1 : k < sh.length) (h2 : k < st.length) : farN (sh.take (k + 1)) (st.take (k + 1)) = farN (sh.take k) (st.take k) + (sh[k] - 1) * st[k] := by
  rw [farN, farN, dotN, dotN, List.map_take, List.map_take, ← List.take_zipWith, ← List.take_zipWith, List.take_succ_eq_append_getElem (by simp; omega), List.sum_append]
  simp
theorem far_take_le (sh st : List Nat) (k : Nat) : farN (sh.take k) (st.take k) ≤ farN sh st := by
  rw [farN, farN, dotN, dotN, List.map_take, ← List.take_zipWith]
  have := List.take_append_drop k (List.zipWith (· * ·) (List.map (fun x => x - 1) sh) st)
  conv => rhs; rw [← this, List.sum_append]
  omega
/-- it is a view of n words -/
structure ViewN (sh st : List Nat) (off n : Nat) : Prop where
  dims : DimsN sh
  good : shapeB (ints sh) = true
  len : st.length = sh.length
  strides : ∀ x ∈ st, x ≤ 65536
  far : off + farN sh st < n
  most : n ≤ 65536
set_option maxRecDepth 100000 in
set_option maxHeartbeats 2000000 in
theorem viewGood_yes (va vb : Value) (sh st : List Nat) (off n : Nat) (w : World) (ha : Rd w .i64 va (ints sh)) (hb : Rd w .i64 vb (ints st)) (hv : ViewN sh st off n) :
    Calls Tryz.prog 117 #[.agg #[va, vb, .int .i64 off], .int .i64 n] w fun e w' => e = .returned (.bool true) ∧ Below w.heap.size w w' := by
  have HA := Lib.hid ha
  have HC := Lib.hid hb
  have HV := Lib.hid hv
  obtain ⟨oa, ca, rfl⟩ := rd_slice ha
  obtain ⟨ob, cb, rfl⟩ := rd_slice hb
  clear ha hb
  have hfar := hv.far
  have hmost := hv.most
  rw [ints_length, ints_length, hv.len]
  obtain ⟨m, hm⟩ : ∃ m, m = sh.length := ⟨_, rfl⟩
  have hm4 : m ≤ 4 := by rw [hm]; exact hv.dims.2
  have HM := Lib.hid (And.intro hm (show m = st.length by rw [hm, hv.len]))
  have HF := Lib.hid hfar
  rw [← hm]
  obtain ⟨W, hW⟩ : ∃ W, W = w.alloc (.cells #[.slice oa m ca, .slice ob m cb, .int .i64 off] 81) := ⟨_, rfl⟩
  have hB : Below w.heap.size w W := by rw [hW]; exact (Below.refl _ _).alloc (Nat.le_refl _) _
  have hbx : Box W w.heap.size 81 #[.slice oa m ca, .slice ob m cb, .int .i64 off] := by rw [hW]; exact Box.new _ _ _
  have HX := Lib.hid (And.intro hB hbx)
  have HW := Lib.hid hW
  have HG := Lib.hid (show ∀ W', Below w.heap.size w W' → Calls Tryz.prog 102 #[.slice oa m ca] W' fun e w' => e = .returned (.bool true) ∧ Same W' w' from fun W' hb => by
    have := shapeGood_any _ (ints sh) W' (HA.out.below hb (Nat.le_refl _)) (by rw [ints_length, ← hm]; omega)
    rw [ints_length, ← hm, hv.good] at this; exact this)
  have ho1 : (off : Int) < (n : Int) := by omega
  clear hv hm hW hB hbx hfar
  go_enter Tryz.func117, Tryz.ntmps117
  go_wp2
  go_step3
  go_wp2_with (go_at_call 102; rw [← HW.out]; refine (HG.out _ HX.out.1).mono ?_; rintro e w1 ⟨rfl, hsm⟩; refine stopHere ?_)
  have HX1 := Lib.hid (And.intro (HX.out.1.trans (hsm.below _)) (HX.out.2.same hsm))
  clear hsm
  have c0 := HX1.out.2.cell 0 rfl
  have c1 := HX1.out.2.cell 1 rfl
  have c2 := HX1.out.2.cell 2 rfl
  refine goOn ?_
  go_wp2
  go_step3
  go_wp2
  go_loop [5, 6, 42] (fun p b i => ∃ k : Nat, k ≤ m ∧ i = .int .i64 k ∧ b = .bool true ∧ p = .int .i64 ((off + farN (sh.take k) (st.take k) : Nat) : Int)) (fun _ _ i => m - (intOf i).toNat)
  case atStart => exact ⟨0, Nat.zero_le _, rfl, rfl, by simp [farN, dotN]⟩
  case round =>
    obtain ⟨k, hk, rfl, rfl, rfl⟩ := hrel
    by_cases hlt : k < m
    · have hk1 : k < sh.length := by rw [← HM.out.1]; exact hlt
      have hk2 : k < st.length := by rw [← HM.out.2]; exact hlt
      obtain ⟨b1, f1, rfl, h1⟩ := HA.out.cell k (by rw [ints_length]; exact hk1)
      obtain ⟨b2, f2, rfl, h2⟩ := HC.out.cell k (by rw [ints_length]; exact hk2)
      rw [ints_get _ _ hk1] at h1
      rw [ints_get _ _ hk2] at h2
      have e1 := (HX1.out.1.cell (p := ⟨b1, f1 + k, none⟩) (cell_lt h1)).trans h1
      have e2 := (HX1.out.1.cell (p := ⟨b2, f2 + k, none⟩) (cell_lt h2)).trans h2
      have hd := HV.out.dims.1 _ (List.getElem_mem hk1)
      have hx := HV.out.strides _ (List.getElem_mem hk2)
      have HT := Lib.hid (far_take_succ sh st k hk1 hk2)
      have hle := far_take_le sh st (k + 1)
      rw [HT.out] at hle
      have hfar := HF.out
      obtain ⟨d, hdd⟩ : ∃ d, d = sh[k] := ⟨_, rfl⟩
      obtain ⟨x, hxx⟩ : ∃ x, x = st[k] := ⟨_, rfl⟩
      rw [← hdd, ← hxx] at HT hle
      rw [← hdd] at e1 hd
      rw [← hxx] at e2 hx
      obtain ⟨L, hL⟩ : ∃ L, L = off + farN (sh.take k) (st.take k) := ⟨_, rfl⟩
      have HL := Lib.hid (show off + farN (sh.take (k + 1)) (st.take (k + 1)) = L + (d - 1) * x by rw [HT.out, hL]; omega)
      rw [← hL]
      have hLn : L + (d - 1) * x < n := by omega
      have hw1 : IntKind.i64.wrap ((d : Int) - 1) = ((d - 1 : Nat) : Int) := by rw [IntWalk.i64_in _ (by omega)]; omega
      have hw2 : IntKind.i64.wrap ((x : Int) * ((d - 1 : Nat) : Int)) = (((d - 1) * x : Nat) : Int) := by
        rw [show (x : Int) * ((d - 1 : Nat) : Int) = (((d - 1) * x : Nat) : Int) by push_cast; exact Int.mul_comm _ _]
        exact IntWalk.i64_in _ (by omega)
      have hw3 : IntKind.i64.wrap ((L : Int) + (((d - 1) * x : Nat) : Int)) = ((L + (d - 1) * x : Nat) : Int) := by
        rw [IntWalk.i64_in _ (by omega)]; push_cast; rfl
      have hlt3 : ((L + (d - 1) * x : Nat) : Int) < (n : Int) := by omega
      clear h1 h2 hle hfar hdd hxx hL
      have hx1 : decide ((x : Int) ≤ 65536) = true := decide_eq_true (by omega)
      have hlt4 : decide ((L : Int) + ((d - 1 : Nat) : Int) * (x : Int) < (n : Int)) = true := decide_eq_true (by exact_mod_cast hLn)
      go_wp2
      go_round
      case rel => exact ⟨k + 1, by omega, by go_num, by first | rfl | rw [hlt4], by rw [HL.out, Int.natCast_add, Int.natCast_mul]⟩
      case measure => simp [intOf]; omega
    · obtain rfl : k = m := by omega
      go_wp2
      go_ret
      exact ⟨rfl, HX1.out.1⟩
end Go.Proofs.YtipjhdgegfgenaaGreat
