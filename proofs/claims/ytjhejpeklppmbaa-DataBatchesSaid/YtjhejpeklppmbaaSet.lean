/-
  DATASETS AS VALUES: what the walk knows of one; data.Count, data.each, data.Good; the reference's Count, Each, May.
-/
import Derived.Test.YtjhejpeklppmbaaLeaf
set_option linter.unusedVariables false
set_option linter.unusedSimpArgs false
namespace Go.Proofs.Ytjhejpeklppmbaa
open Go.RowKit Go.Shelf
structure SetD where
  sh : List Int
  x : List Int
  lb : List Int
  y : List Int
/-- four values that read as a dataset's parts -/
structure RdSet (w : World) (a b c d : Value) (s : SetD) : Prop where
  sh : Rd w .i64 a s.sh
  x : Rd w .i64 b s.x
  lb : Rd w .i64 c s.lb
  y : Rd w .i64 d s.y
structure LimSet (s : SetD) : Prop where
  sh : s.sh.length ≤ 100000
  x : s.x.length ≤ 100000
  lb : s.lb.length ≤ 100000
  y : s.y.length ≤ 100000
theorem RdSet.below {w w' : World} {a b c d : Value} {s : SetD} {B : Nat} (h : RdSet w a b c d s) (hB : Below B w w') (hs : w.heap.size ≤ B) : RdSet w' a b c d s :=
  ⟨h.sh.below hB hs, h.x.below hB hs, h.lb.below hB hs, h.y.below hB hs⟩
theorem RdSet.same {w w' : World} {a b c d : Value} {s : SetD} (h : RdSet w a b c d s) (hs : Same w w') : RdSet w' a b c d s := h.below (hs.below w.heap.size) (Nat.le_refl _)
theorem RdSet.alloc {w : World} {a b c d : Value} {s : SetD} (h : RdSet w a b c d s) (o : Obj) : RdSet (w.alloc o) a b c d s :=
  h.below ((Below.refl _ _).alloc (Nat.le_refl _) o) (Nat.le_refl _)
/-- how many examples -/
def countS (s : SetD) : Int := (s.x.length : Int) / prodL s.sh
set_option maxHeartbeats 400000 in
theorem dataCount_any (a b c d : Value) (s : SetD) (w : World) (hr : RdSet w a b c d s) (hs : s.sh.all dimB = true) (h4 : s.sh.length ≤ 4) (hl : LimSet s) :
    Calls Try.prog 42 #[.agg #[a, b, c, d]] w fun e w' => e = .returned (.int .i64 (countS s)) ∧ Below w.heap.size w w' := by
  obtain ⟨p1, p2⟩ := prodL_bd s.sh hs
  obtain ⟨o1, cap1, he⟩ := rd_slice hr.x
  subst he
  have HR := Lib.hid hr
  have HS := Lib.hid hs
  obtain ⟨P, hP⟩ : ∃ P, P = prodL s.sh := ⟨_, rfl⟩
  rw [← hP] at p1
  have HP := Lib.hid hP
  have HC := Lib.hid fun (o : Obj) (n : Nat) => (show Calls Try.prog 63 #[a] ((w.alloc o).drewN n) fun e w' => e = .returned (.int .i64 P) ∧ ∃ m, w' = ((w.alloc o).drewN n).drewN m by rw [HP.out]; exact shapeSize_any _ s.sh _ ((HR.out.sh.alloc _).same ⟨_, rfl⟩) HS.out h4)
  have hx := hl.x
  have hq1 : 0 ≤ (s.x.length : Int) / P := Int.ediv_nonneg (by omega) (by omega)
  have hq2 : (s.x.length : Int) / P ≤ 100000 := Int.le_trans (Int.ediv_le_self _ (by omega)) (by omega)
  clear hr hs p2 hP
  go_enter Try.func42, Try.ntmps42
  go_wp2
  go_quiet ((go_at_call 63; refine Calls.quiet_of (HC.out _ _)))
  go_wp2
  go_ret
  exact ⟨ret_int (by rw [countS, ← HP.out]), below_drewN ((Below.refl _ _).alloc (Nat.le_refl _) _) _⟩
set_option maxHeartbeats 400000 in
theorem dataEach_any (a b c d : Value) (s : SetD) (n : Int) (w : World) (hr : RdSet w a b c d s) (hn : 1 ≤ n) (hl : LimSet s) :
    Calls Try.prog 45 #[.agg #[a, b, c, d], .int .i64 n] w fun e w' => e = .returned (.int .i64 ((s.y.length : Int) / n)) ∧ Below w.heap.size w w' := by
  obtain ⟨o1, cap1, he⟩ := rd_slice hr.y
  subst he
  have hx := hl.y
  have hq1 : 0 ≤ (s.y.length : Int) / n := Int.ediv_nonneg (by omega) (by omega)
  have hq2 : (s.y.length : Int) / n ≤ 100000 := Int.le_trans (Int.ediv_le_self _ (by omega)) (by omega)
  clear hr
  go_enter Try.func45, Try.ntmps45
  go_wp2
  go_ret
  exact ⟨rfl, (Below.refl _ _).alloc (Nat.le_refl _) _⟩
/-- a dataset? -/
def goodSet (s : SetD) : Bool :=
  shapeB s.sh && decide (1 ≤ s.sh.length ∧ s.sh.length ≤ 3) && decide (1 ≤ countS s ∧ countS s ≤ 1024 ∧ (s.x.length : Int) = countS s * prodL s.sh) && wordsB s.x && wordsB s.y &&
    (if 0 < s.lb.length then decide ((s.lb.length : Int) = countS s ∧ s.y.length = 0) && s.lb.all labelB
     else decide (0 < s.y.length ∧ (s.y.length : Int) % countS s = 0 ∧ (s.y.length : Int) / countS s ≤ 65536))
theorem shapeB_parts {s : List Int} (h : shapeB s = true) : s.length ≤ 4 ∧ s.all dimB = true ∧ prodL s ≤ 65536 := by
  simp only [shapeB, Bool.and_eq_true, decide_eq_true_eq] at h
  exact ⟨h.1.1, h.1.2, h.2⟩
set_option maxRecDepth 100000 in
set_option maxHeartbeats 4000000 in
theorem dataGood_any (a b c d : Value) (s : SetD) (w : World) (hr : RdSet w a b c d s) (hl : LimSet s) :
    Calls Try.prog 41 #[.agg #[a, b, c, d]] w fun e w' => e = .returned (.bool (goodSet s)) ∧ Below w.heap.size w w' := by
  obtain ⟨o1, cap1, he1⟩ := rd_slice hr.sh
  obtain ⟨o2, cap2, he2⟩ := rd_slice hr.x
  obtain ⟨o3, cap3, he3⟩ := rd_slice hr.lb
  obtain ⟨o4, cap4, he4⟩ := rd_slice hr.y
  subst he1 he2 he3 he4
  have hl1 := hl.sh
  have hl2 := hl.x
  have hl3 := hl.lb
  have hl4 := hl.y
  have HR := Lib.hid hr
  have HL := Lib.hid hl
  clear hr hl
  cases hb : shapeB s.sh
  · have HB := Lib.hid hb
    clear hb
    go_enter Try.func41, Try.ntmps41
    go_wp2_with (go_at_call 46; refine (shapeGood_any _ s.sh _ (HR.out.sh.alloc _) (by omega)).mono ?_; rintro e w' ⟨rfl, nq, rfl⟩; rw [HB.out])
    go_ret
    exact ⟨ret_bool (by rw [goodSet, HB.out]; rfl), below_drewN ((Below.refl _ _).alloc (Nat.le_refl _) _) _⟩
  · obtain ⟨h4, hall, _⟩ := shapeB_parts hb
    have HB := Lib.hid hb
    have HA := Lib.hid hall
    clear hb hall
    by_cases hlen : 1 ≤ s.sh.length ∧ s.sh.length ≤ 3
    · obtain ⟨hn1, hn3⟩ := hlen
      obtain ⟨p1, p2⟩ := prodL_bd s.sh HA.out
      obtain ⟨P, hP⟩ : ∃ P, P = prodL s.sh := ⟨_, rfl⟩
      rw [← hP] at p1
      obtain ⟨n, hn⟩ : ∃ n, n = countS s := ⟨_, rfl⟩
      have hnp0 : n = (s.x.length : Int) / P := by rw [hn, countS, hP]
      have hnp1 : 0 ≤ n := by rw [hnp0]; exact Int.ediv_nonneg (by omega) (by omega)
      have hnp2 : n * P ≤ s.x.length := by rw [hnp0]; exact Int.ediv_mul_le _ (by omega)
      have hnp3 : 0 ≤ n * P := Int.mul_nonneg hnp1 (by omega)
      have hnp4 : n ≤ 100000 := by rw [hnp0]; exact Int.le_trans (Int.ediv_le_self _ (by omega)) (by omega)
      have HP := Lib.hid hP
      have HN := Lib.hid hn
      clear hP hn p2 hnp0
      go_enter Try.func41, Try.ntmps41
      go_wp2_with (first
        | (go_at_call 46; refine (shapeGood_any _ s.sh _ (HR.out.sh.alloc _) (by omega)).mono ?_; rintro e w' ⟨rfl, nq, rfl⟩; rw [HB.out])
        | (go_at_call 42; refine stopHere ?_))
      refine goOn ?_
      refine (dataCount_any _ _ _ _ s _ ((HR.out.alloc _).same ⟨_, rfl⟩) HA.out h4 HL.out).mono ?_
      rintro e w1 ⟨rfl, hB1⟩
      have HBX := Lib.hid (((Box.new w _ _).same ⟨nq, rfl⟩).next hB1)
      have HB1 := Lib.hid (((below_drewN ((Below.refl w.heap.size w).alloc (Nat.le_refl _) _) nq).trans (hB1.mono (by simp))))
      clear hB1
      rw [← HN.out]
      have HR1 := Lib.hid (HR.out.below HB1.out (Nat.le_refl _))
      have c0 := HBX.out.cell 0 rfl
      have c1 := HBX.out.cell 1 rfl
      have c2 := HBX.out.cell 2 rfl
      have c3 := HBX.out.cell 3 rfl
      have HSz := Lib.hid fun (m : Nat) => (show Calls Try.prog 63 #[.slice o1 s.sh.length cap1] (w1.drewN m) fun e w' => e = .returned (.int .i64 P) ∧ ∃ k, w' = (w1.drewN m).drewN k by
        rw [HP.out]; exact shapeSize_any _ s.sh _ (HR1.out.sh.same ⟨_, rfl⟩) HA.out h4)
      have HWx := Lib.hid fun (r : Bool) (h : wordsB s.x = r) (m : Nat) => (show Calls Try.prog 64 #[.slice o2 s.x.length cap2] (w1.drewN m) fun e w' => e = .returned (.bool r) ∧ ∃ k, w' = (w1.drewN m).drewN k by
        rw [← h]; exact dataWords_any _ s.x _ (HR1.out.x.same ⟨_, rfl⟩) (by omega))
      have HWy := Lib.hid fun (r : Bool) (h : wordsB s.y = r) (m : Nat) => (show Calls Try.prog 64 #[.slice o4 s.y.length cap4] (w1.drewN m) fun e w' => e = .returned (.bool r) ∧ ∃ k, w' = (w1.drewN m).drewN k by
        rw [← h]; exact dataWords_any _ s.y _ (HR1.out.y.same ⟨_, rfl⟩) (by omega))
      have HX : Hid (wordsB s.x = true ∨ wordsB s.x = false) := Lib.hid (by cases wordsB s.x <;> simp)
      have HY : Hid (wordsB s.y = true ∨ wordsB s.y = false) := Lib.hid (by cases wordsB s.y <;> simp)
      by_cases q1 : n < 1
      · have d1 : decide (n < 1) = true := decide_eq_true q1
        go_wp2_with fail
        go_quiet (fail)
        go_wp2
        go_ret
        exact ⟨ret_bool (by rw [goodSet, ← HN.out]; simp; omega), below_drewN HB1.out _⟩
      · have d1 : decide (n < 1) = false := decide_eq_false q1
        by_cases q2 : 1024 < n
        · have d2 : decide (1024 < n) = true := decide_eq_true q2
          go_wp2_with fail
          go_quiet (fail)
          go_wp2
          go_ret
          exact ⟨ret_bool (by rw [goodSet, ← HN.out]; simp; omega), below_drewN HB1.out _⟩
        · have d2 : decide (1024 < n) = false := decide_eq_false q2
          by_cases q3 : (s.x.length : Int) = n * P
          · have b3 : ((s.x.length : Int) != n * P) = false := by simp [q3]
            have Q3 := Lib.hid q3
            clear q3
            rcases HX.out with hx | hx
            · rcases HY.out with hy | hy
              · have HXt := Lib.hid hx
                have HYt := Lib.hid hy
                clear hx hy
                go_wp2_with fail
                go_quiet (first | (go_at_call 63; exact Calls.quiet_of (HSz.out _)) | (go_at_call 64; first | exact Calls.quiet_of (HWx.out _ HXt.out _) | exact Calls.quiet_of (HWy.out _ HYt.out _)))
                have HG : Hid (goodSet s = (if 0 < s.lb.length then decide ((s.lb.length : Int) = n ∧ s.y.length = 0) && s.lb.all labelB
                    else decide (0 < s.y.length ∧ (s.y.length : Int) % n = 0 ∧ (s.y.length : Int) / n ≤ 65536))) := Lib.hid (by
                  rw [goodSet, HB.out, ← HN.out, ← HP.out, HXt.out, HYt.out, decide_eq_true (show 1 ≤ s.sh.length ∧ s.sh.length ≤ 3 from ⟨hn1, hn3⟩),
                    decide_eq_true (show 1 ≤ n ∧ n ≤ 1024 ∧ (s.x.length : Int) = n * P from ⟨by omega, by omega, Q3.out⟩)]
                  rfl)
                have hn1' : 1 ≤ n := by omega
                have HB2 := Lib.hid (below_drewN HB1.out nq)
                have HR2 := Lib.hid (HR1.out.same ⟨nq, rfl⟩)
                clear HSz HWx HWy hnp2 hnp3 b3 d1 d2 q1 q2 HX HY
                by_cases z : 0 < s.lb.length
                · by_cases e1 : (s.lb.length : Int) = n
                  · have b1 : ((s.lb.length : Int) == n) = true := by simp [e1]
                    have E1 := Lib.hid e1
                    clear e1
                    by_cases e2 : s.y.length = 0
                    · have b2 : ((s.y.length : Int) == 0) = true := beq0_true _ e2
                      have E2 := Lib.hid e2
                      clear e2
                      go_wp2_with (go_at_call 43; refine (containsInt_any _ s.lb 65 #[] (fun x => !labelB x) _ HR2.out.lb (by omega) (enters_of Try.func65 (by kernel_rfl) rfl) (fun k hk m => good1_any _ _)).mono ?_; rintro e w' ⟨rfl, nr, rfl⟩)
                      go_ret
                      exact ⟨ret_bool (by rw [HG.out, if_pos z, decide_eq_true ⟨E1.out, E2.out⟩, List.not_any_eq_all_not]; simp), below_drewN HB1.out _⟩
                    · have b2 : ((s.y.length : Int) == 0) = false := beq0_false _ e2
                      have E2 := Lib.hid e2
                      clear e2
                      go_wp2_with fail
                      go_ret
                      exact ⟨ret_bool (by rw [HG.out, if_pos z, decide_eq_false (fun h => E2.out h.2)]; rfl), below_drewN HB1.out _⟩
                  · have b1 : ((s.lb.length : Int) == n) = false := by simp [e1]
                    have E1 := Lib.hid e1
                    clear e1
                    go_wp2_with fail
                    go_ret
                    exact ⟨ret_bool (by rw [HG.out, if_pos z, decide_eq_false (fun h => E1.out h.1)]; rfl), below_drewN HB1.out _⟩
                · by_cases e1 : 0 < s.y.length
                  · by_cases e2 : (s.y.length : Int) % n = 0
                    · have b2 : ((s.y.length : Int) % n == 0) = true := by simp [e2]
                      have E2 := Lib.hid e2
                      clear e2
                      go_wp2_with (go_at_call 45; refine (dataEach_any _ _ _ _ s n _ HR2.out hn1' HL.out).mono ?_; rintro e w3 ⟨rfl, hB3⟩; have HB3 := Lib.hid (HB2.out.trans (hB3.mono HB2.out.size)); clear hB3)
                      all_goals go_ret
                      all_goals exact ⟨ret_bool (by rw [HG.out, if_neg z]; simp [e1, E2.out]), HB3.out⟩
                    · have b2 : ((s.y.length : Int) % n == 0) = false := by simp [e2]
                      have E2 := Lib.hid e2
                      clear e2
                      go_wp2_with fail
                      go_ret
                      exact ⟨ret_bool (by rw [HG.out, if_neg z, decide_eq_false (fun h => E2.out h.2.1)]), below_drewN HB1.out _⟩
                  · go_wp2_with fail
                    go_ret
                    exact ⟨ret_bool (by rw [HG.out, if_neg z, decide_eq_false (fun h => e1 h.1)]), below_drewN HB1.out _⟩
              · have HXt := Lib.hid hx
                have HYt := Lib.hid hy
                clear hx hy
                go_wp2_with fail
                go_quiet (first | (go_at_call 63; exact Calls.quiet_of (HSz.out _)) | (go_at_call 64; first | exact Calls.quiet_of (HWx.out _ HXt.out _) | exact Calls.quiet_of (HWy.out _ HYt.out _)))
                go_wp2
                go_ret
                exact ⟨ret_bool (by rw [goodSet, HYt.out]; simp), below_drewN HB1.out _⟩
            · have HXt := Lib.hid hx
              clear hx
              go_wp2_with fail
              go_quiet (first | (go_at_call 63; exact Calls.quiet_of (HSz.out _)) | (go_at_call 64; exact Calls.quiet_of (HWx.out _ HXt.out _)))
              go_wp2
              go_ret
              exact ⟨ret_bool (by rw [goodSet, HXt.out]; simp), below_drewN HB1.out _⟩
          · have b3 : ((s.x.length : Int) != n * P) = true := by simp [q3]
            have Q3 := Lib.hid q3
            clear q3
            go_wp2_with fail
            go_quiet ((go_at_call 63; exact Calls.quiet_of (HSz.out _)))
            go_wp2
            go_ret
            exact ⟨ret_bool (by rw [goodSet, ← HN.out, ← HP.out]; simp [Q3.out]), below_drewN HB1.out _⟩
    · have hno : s.sh.length < 1 ∨ 3 < s.sh.length := by omega
      clear hlen
      rcases hno with h | h
      all_goals
        go_enter Try.func41, Try.ntmps41
        go_wp2_with (go_at_call 46; refine (shapeGood_any _ s.sh _ (HR.out.sh.alloc _) (by omega)).mono ?_; rintro e w' ⟨rfl, nq, rfl⟩; rw [HB.out])
        go_ret
        exact ⟨ret_bool (by rw [goodSet]; simp; omega), below_drewN ((Below.refl _ _).alloc (Nat.le_refl _) _) _⟩
end Go.Proofs.Ytjhejpeklppmbaa
