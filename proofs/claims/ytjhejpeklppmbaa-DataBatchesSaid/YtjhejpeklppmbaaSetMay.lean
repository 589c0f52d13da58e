/-
  THE REFERENCE'S May OF A DATASET: the same answer as data.Good.
-/
import Derived.Test.YtjhejpeklppmbaaSetRef
import Derived.Deep.RegionWith
import Derived.Deep.LoopGhost
set_option linter.unusedVariables false
set_option linter.unusedSimpArgs false
namespace Go.Proofs.Ytjhejpeklppmbaa
open Go.RowKit Go.Shelf
set_option maxRecDepth 100000 in
set_option maxHeartbeats 4000000 in
theorem ref30May_any (a b c d : Value) (s : SetD) (w : World) (hr : RdSet w a b c d s) (hl : LimSet s) :
    Calls Try.prog 13 #[.agg #[a, b, c, d]] w fun e w' => e = .returned (.bool (goodSet s)) ∧ Below w.heap.size w w' := by
  obtain ⟨o1, cap1, he1⟩ := rd_slice hr.sh
  obtain ⟨o2, cap2, he2⟩ := rd_slice hr.x
  obtain ⟨o3, cap3, he3⟩ := rd_slice hr.lb
  obtain ⟨o4, cap4, he4⟩ := rd_slice hr.y
  subst he1 he2 he3 he4
  have hl1 := hl.sh
  have hl2 := hl.x
  have hl3 := hl.lb
  have hl4 := hl.y
  have HR := Lib.hid hr
  have HL := Lib.hid hl
  clear hr hl
  have HWx := Lib.hid fun (r : Bool) (h : wordsB s.x = r) (o : Obj) (m : Nat) => (show Calls Try.prog 39 #[.slice o2 s.x.length cap2] ((w.alloc o).drewN m) fun e w' => e = .returned (.bool r) ∧ ∃ k, w' = ((w.alloc o).drewN m).drewN k by
    rw [← h]; exact ref8Words_any _ s.x _ ((HR.out.x.alloc _).same ⟨_, rfl⟩) (by omega))
  have HWy := Lib.hid fun (r : Bool) (h : wordsB s.y = r) (o : Obj) (m : Nat) => (show Calls Try.prog 39 #[.slice o4 s.y.length cap4] ((w.alloc o).drewN m) fun e w' => e = .returned (.bool r) ∧ ∃ k, w' = ((w.alloc o).drewN m).drewN k by
    rw [← h]; exact ref8Words_any _ s.y _ ((HR.out.y.alloc _).same ⟨_, rfl⟩) (by omega))
  have HX : Hid (wordsB s.x = true ∨ wordsB s.x = false) := Lib.hid (by cases wordsB s.x <;> simp)
  have HY : Hid (wordsB s.y = true ∨ wordsB s.y = false) := Lib.hid (by cases wordsB s.y <;> simp)
  cases hb : shapeB s.sh
  · have HB := Lib.hid hb
    have HMay := Lib.hid fun (o : Obj) (m : Nat) => (show Calls Try.prog 38 #[.slice o1 s.sh.length cap1] ((w.alloc o).drewN m) fun e w' => e = .returned (.bool false) ∧ ∃ k, w' = ((w.alloc o).drewN m).drewN k by
      rw [← hb]; exact ref6May_any _ s.sh _ ((HR.out.sh.alloc _).same ⟨_, rfl⟩) (by omega))
    clear hb
    go_enter Try.func13, Try.ntmps13
    go_wp2_with fail
    go_quiet ((go_at_call 38; exact Calls.quiet_of (HMay.out _ _)))
    go_wp2
    go_ret
    exact ⟨ret_bool (by rw [goodSet, HB.out]; rfl), below_drewN ((Below.refl _ _).alloc (Nat.le_refl _) _) _⟩
  · obtain ⟨h4, hall, h6⟩ := shapeB_parts hb
    have HB := Lib.hid hb
    have HMay := Lib.hid fun (o : Obj) (m : Nat) => (show Calls Try.prog 38 #[.slice o1 s.sh.length cap1] ((w.alloc o).drewN m) fun e w' => e = .returned (.bool true) ∧ ∃ k, w' = ((w.alloc o).drewN m).drewN k by
      rw [← hb]; exact ref6May_any _ s.sh _ ((HR.out.sh.alloc _).same ⟨_, rfl⟩) (by omega))
    obtain ⟨p1, p2⟩ := prodL_bd s.sh hall
    obtain ⟨P, hP⟩ : ∃ P, P = prodL s.sh := ⟨_, rfl⟩
    have HCnt := Lib.hid fun (o : Obj) (m : Nat) => (show Calls Try.prog 14 #[.slice o1 s.sh.length cap1] ((w.alloc o).drewN m) fun e w' => e = .returned (.int .i64 P) ∧ ∃ k, w' = ((w.alloc o).drewN m).drewN k by
      rw [hP, ← cnt_of h6]; exact ref6Count_any _ s.sh _ ((HR.out.sh.alloc _).same ⟨_, rfl⟩) hall h4)
    rw [← hP] at p1
    have HP := Lib.hid hP
    clear hb hall p2 hP h6
    by_cases g1 : s.sh.length < 1
    · have d1 : decide ((s.sh.length : Int) < 1) = true := decide_eq_true (by omega)
      go_enter Try.func13, Try.ntmps13
      go_wp2_with fail
      go_quiet ((go_at_call 38; exact Calls.quiet_of (HMay.out _ _)))
      go_wp2
      go_ret
      exact ⟨ret_bool (by rw [goodSet]; simp; omega), below_drewN ((Below.refl _ _).alloc (Nat.le_refl _) _) _⟩
    · have d1 : decide ((s.sh.length : Int) < 1) = false := decide_eq_false (by omega)
      by_cases g2 : 3 < s.sh.length
      · have d2 : decide (3 < (s.sh.length : Int)) = true := decide_eq_true (by omega)
        go_enter Try.func13, Try.ntmps13
        go_wp2_with fail
        go_quiet ((go_at_call 38; exact Calls.quiet_of (HMay.out _ _)))
        go_wp2
        go_ret
        exact ⟨ret_bool (by rw [goodSet]; simp; omega), below_drewN ((Below.refl _ _).alloc (Nat.le_refl _) _) _⟩
      · have d2 : decide (3 < (s.sh.length : Int)) = false := decide_eq_false (by omega)
        by_cases q3 : (s.x.length : Int) % P = 0
        · have b3 : ((s.x.length : Int) % P != 0) = false := by simp [q3]
          have Q3 := Lib.hid q3
          clear q3
          rcases HX.out with hx | hx
          · rcases HY.out with hy | hy
            · have HXt := Lib.hid hx
              have HYt := Lib.hid hy
              clear hx hy
              obtain ⟨n, hn⟩ : ∃ n, n = countS s := ⟨_, rfl⟩
              have hnp0 : n = (s.x.length : Int) / P := by rw [hn, countS, HP.out]
              have hxe : Hid ((s.x.length : Int) = n * P) := Lib.hid (by rw [hnp0]; have := Int.mul_ediv_add_emod (s.x.length : Int) P; rw [Q3.out, Int.mul_comm] at this; omega)
              have hnp1 : 0 ≤ n := by rw [hnp0]; exact Int.ediv_nonneg (by omega) (by omega)
              have hnp4 : n ≤ 100000 := by rw [hnp0]; exact Int.le_trans (Int.ediv_le_self _ (by omega)) (by omega)
              have HN := Lib.hid hn
              clear hn hnp0
              go_enter Try.func13, Try.ntmps13
              go_wp2_with fail
              go_quiet (first | (go_at_call 38; exact Calls.quiet_of (HMay.out _ _)) | (go_at_call 14; exact Calls.quiet_of (HCnt.out _ _)) | (go_at_call_of 39 o2; exact Calls.quiet_of (HWx.out _ HXt.out _ _)) | (go_at_call_of 39 o4; exact Calls.quiet_of (HWy.out _ HYt.out _ _)))
              clear HWx HWy HMay HCnt d1 d2 b3
              go_wp2_with fail
              refine (ref30Count_any _ _ _ _ s _ ((HR.out.alloc _).same ⟨_, rfl⟩) HB.out HL.out).mono ?_
              rintro e w1 ⟨rfl, hB1⟩
              have HBX := Lib.hid (((Box.new w _ _).same ⟨nq, rfl⟩).next hB1)
              have HB1 := Lib.hid (((below_drewN ((Below.refl w.heap.size w).alloc (Nat.le_refl _) _) nq).trans (hB1.mono (by simp))))
              clear hB1
              rw [← HN.out]
              have HR1 := Lib.hid (HR.out.below HB1.out (Nat.le_refl _))
              have c2 : w1.cell? ⟨w.heap.size, 2, none⟩ = some (.slice o3 s.lb.length cap3) := HBX.out.cell 2 rfl
              have c3 : w1.cell? ⟨w.heap.size, 3, none⟩ = some (.slice o4 s.y.length cap4) := HBX.out.cell 3 rfl
              have HG0 : Hid (n < 1 ∨ 1024 < n → goodSet s = false) := Lib.hid (fun h => by
                rw [goodSet, ← HN.out]; simp; omega)
              have HG : Hid (1 ≤ n → n ≤ 1024 → goodSet s = (if 0 < s.lb.length then decide ((s.lb.length : Int) = n ∧ s.y.length = 0) && s.lb.all labelB
                  else decide (0 < s.y.length ∧ (s.y.length : Int) % n = 0 ∧ (s.y.length : Int) / n ≤ 65536))) := Lib.hid (fun h1 h2 => by
                rw [goodSet, HB.out, ← HN.out, ← HP.out, HXt.out, HYt.out, decide_eq_true (show 1 ≤ s.sh.length ∧ s.sh.length ≤ 3 from ⟨by omega, by omega⟩),
                  decide_eq_true (show 1 ≤ n ∧ n ≤ 1024 ∧ (s.x.length : Int) = n * P from ⟨h1, h2, hxe.out⟩)]
                rfl)
              clear g1 g2 h4 p1 hnp1 HX HY
              by_cases q1 : n < 1
              · have e1 : decide (n < 1) = true := decide_eq_true q1
                go_wp2
                go_ret
                exact ⟨ret_bool (by rw [HG0.out (.inl q1)]), HB1.out⟩
              · have e1 : decide (n < 1) = false := decide_eq_false q1
                by_cases q2 : 1024 < n
                · have e2 : decide (1024 < n) = true := decide_eq_true q2
                  go_wp2
                  go_ret
                  exact ⟨ret_bool (by rw [HG0.out (.inr q2)]), HB1.out⟩
                · have e2 : decide (1024 < n) = false := decide_eq_false q2
                  have HGG := Lib.hid (HG.out (by omega) (by omega))
                  clear HG HG0
                  by_cases z : 0 < s.lb.length
                  · have e3 : decide ((0 : Int) < s.lb.length) = true := decide_eq_true (by omega)
                    by_cases y : 0 < s.y.length
                    · have e4 : decide ((0 : Int) < s.y.length) = true := decide_eq_true (by omega)
                      go_wp2
                      go_ret
                      exact ⟨ret_bool (by rw [HGG.out, if_pos z, decide_eq_false (fun h => by omega)]; rfl), HB1.out⟩
                    · have e4 : decide ((0 : Int) < s.y.length) = false := decide_eq_false (by omega)
                      go_wp2
                      go_loopg [4] s.lb.length (fun g i wr => ∃ k : Nat, g = s.lb.length - k ∧ k ≤ s.lb.length ∧ i = .int .i64 k ∧ (s.lb.take k).all labelB = true ∧ w1 = wr)
                      case atStart => exact ⟨0, rfl, Nat.zero_le _, rfl, rfl, rfl⟩
                      case round =>
                        obtain ⟨k, hg, hk, rfl, hall, rfl⟩ := hrel
                        have HA := Lib.hid hall
                        clear hall
                        by_cases hlt : k < s.lb.length
                        · obtain ⟨b, off, ho, h3⟩ := HR1.out.lb.cell k hlt
                          subst ho
                          by_cases l1 : nth s.lb k < 0
                          · have e5 : decide (nth s.lb k < 0) = true := decide_eq_true l1
                            go_wp2
                            go_ret
                            exact ⟨ret_bool (by rw [HGG.out, if_pos z, all_false_of _ _ k hlt (by simp [labelB]; omega), Bool.and_false]), HB1.out⟩
                          · have e5 : decide (nth s.lb k < 0) = false := decide_eq_false l1
                            by_cases l2 : 4096 ≤ nth s.lb k
                            · have e6 : decide (4096 ≤ nth s.lb k) = true := decide_eq_true l2
                              go_wp2
                              go_ret
                              exact ⟨ret_bool (by rw [HGG.out, if_pos z, all_false_of _ _ k hlt (by simp [labelB]; omega), Bool.and_false]), HB1.out⟩
                            · have e6 : decide (4096 ≤ nth s.lb k) = false := decide_eq_false l2
                              go_wp2
                              go_roundg (s.lb.length - (k + 1))
                              case rel => exact ⟨k + 1, rfl, by omega, by go_num, by rw [all_take_succ _ _ _ hlt, HA.out]; simp [labelB]; omega, rfl⟩
                              case measure => omega
                        · obtain rfl : k = s.lb.length := by omega
                          go_wp2
                          go_ret
                          exact ⟨ret_bool (by
                            have h := HA.out
                            rw [List.take_length] at h
                            rw [HGG.out, if_pos z, h, Bool.and_true, Bool.eq_iff_iff, beq_iff_eq, decide_eq_true_iff]
                            constructor
                            · intro h; exact ⟨h, by omega⟩
                            · intro h; exact h.1), HB1.out⟩
                  · have e3 : decide ((0 : Int) < s.lb.length) = false := decide_eq_false (by omega)
                    by_cases y : 0 < s.y.length
                    · have e4 : decide ((0 : Int) < s.y.length) = true := decide_eq_true (by omega)
                      by_cases r : (s.y.length : Int) % n = 0
                      · have e5 : ((s.y.length : Int) % n == 0) = true := by simp [r]
                        have RR := Lib.hid r
                        clear r
                        have hq1 : 0 ≤ (s.y.length : Int) / n := Int.ediv_nonneg (by omega) (by omega)
                        have hq2 : (s.y.length : Int) / n ≤ 100000 := Int.le_trans (Int.ediv_le_self _ (by omega)) (by omega)
                        go_wp2
                        go_ret
                        exact ⟨ret_bool (by rw [HGG.out, if_neg z]; simp [y, RR.out]), HB1.out⟩
                      · have e5 : ((s.y.length : Int) % n == 0) = false := by simp [r]
                        have RR := Lib.hid r
                        clear r
                        go_wp2
                        go_ret
                        exact ⟨ret_bool (by rw [HGG.out, if_neg z]; simp [RR.out]), HB1.out⟩
                    · have e4 : decide ((0 : Int) < s.y.length) = false := decide_eq_false (by omega)
                      go_wp2
                      go_ret
                      exact ⟨ret_bool (by rw [HGG.out, if_neg z, decide_eq_false (fun h => y h.1)]), HB1.out⟩
            · have HXt := Lib.hid hx
              have HYt := Lib.hid hy
              clear hx hy
              go_enter Try.func13, Try.ntmps13
              go_wp2_with fail
              go_quiet (first | (go_at_call 38; exact Calls.quiet_of (HMay.out _ _)) | (go_at_call 14; exact Calls.quiet_of (HCnt.out _ _)) | (go_at_call_of 39 o2; exact Calls.quiet_of (HWx.out _ HXt.out _ _)) | (go_at_call_of 39 o4; exact Calls.quiet_of (HWy.out _ HYt.out _ _)))
              go_wp2
              go_ret
              exact ⟨ret_bool (by rw [goodSet, HYt.out]; simp), below_drewN ((Below.refl _ _).alloc (Nat.le_refl _) _) _⟩
          · have HXt := Lib.hid hx
            clear hx
            go_enter Try.func13, Try.ntmps13
            go_wp2_with fail
            go_quiet (first | (go_at_call 38; exact Calls.quiet_of (HMay.out _ _)) | (go_at_call 14; exact Calls.quiet_of (HCnt.out _ _)) | (go_at_call 39; exact Calls.quiet_of (HWx.out _ HXt.out _ _)))
            go_wp2
            go_ret
            exact ⟨ret_bool (by rw [goodSet, HXt.out]; simp), below_drewN ((Below.refl _ _).alloc (Nat.le_refl _) _) _⟩
        · have b3 : ((s.x.length : Int) % P != 0) = true := by simp [q3]
          have Q3 := Lib.hid q3
          clear q3
          go_enter Try.func13, Try.ntmps13
          go_wp2_with fail
          go_quiet (first | (go_at_call 38; exact Calls.quiet_of (HMay.out _ _)) | (go_at_call 14; exact Calls.quiet_of (HCnt.out _ _)))
          go_wp2
          go_ret
          exact ⟨ret_bool (by rw [goodSet, ← HP.out, decide_eq_false (fun h => Q3.out (by rw [h.2.2]; exact Int.mul_emod_left _ _)) (p := 1 ≤ countS s ∧ countS s ≤ 1024 ∧ (s.x.length : Int) = countS s * P)]; simp), below_drewN ((Below.refl _ _).alloc (Nat.le_refl _) _) _⟩
end Go.Proofs.Ytjhejpeklppmbaa
