/-
  THE REFERENCE'S DATASETS: Count, Each, May: the same answers.
-/
import Derived.Test.YtjhejpeklppmbaaSet
import Derived.Deep.RegionWith
set_option linter.unusedVariables false
set_option linter.unusedSimpArgs false
namespace Go.Proofs.Ytjhejpeklppmbaa
open Go.RowKit Go.Shelf
theorem cnt_of {s : List Int} (h : prodL s ≤ 65536) : cnt s = prodL s := by rw [cnt, if_pos h]
set_option maxHeartbeats 400000 in
theorem ref30Count_any (a b c d : Value) (s : SetD) (w : World) (hr : RdSet w a b c d s) (hs : shapeB s.sh = true) (hl : LimSet s) :
    Calls Try.prog 40 #[.agg #[a, b, c, d]] w fun e w' => e = .returned (.int .i64 (countS s)) ∧ Below w.heap.size w w' := by
  obtain ⟨h4, hall, h6⟩ := shapeB_parts hs
  obtain ⟨p1, p2⟩ := prodL_bd s.sh hall
  obtain ⟨o1, cap1, he⟩ := rd_slice hr.x
  subst he
  have HR := Lib.hid hr
  obtain ⟨P, hP⟩ : ∃ P, P = prodL s.sh := ⟨_, rfl⟩
  have HC := Lib.hid fun (o : Obj) => (show Calls Try.prog 14 #[a] (w.alloc o) fun e w' => e = .returned (.int .i64 P) ∧ Same (w.alloc o) w' by rw [hP, ← cnt_of h6]; exact ref6Count_any _ s.sh _ (HR.out.sh.alloc _) hall h4)
  rw [← hP] at p1
  have HP := Lib.hid hP
  have hx := hl.x
  have hq1 : 0 ≤ (s.x.length : Int) / P := Int.ediv_nonneg (by omega) (by omega)
  have hq2 : (s.x.length : Int) / P ≤ 100000 := Int.le_trans (Int.ediv_le_self _ (by omega)) (by omega)
  clear hr hs p2 hP hall h6
  go_enter Try.func40, Try.ntmps40
  go_wp2_with (go_at_call 14; refine (HC.out _).mono ?_; rintro e w' ⟨rfl, nq, rfl⟩)
  go_ret
  exact ⟨ret_int (by rw [countS, ← HP.out]), below_drewN ((Below.refl _ _).alloc (Nat.le_refl _) _) _⟩
/-- how many words of Y each example has -/
def eachS (s : SetD) : Int := (s.y.length : Int) / countS s
set_option maxHeartbeats 1000000 in
theorem ref30Each_any (a b c d : Value) (s : SetD) (w : World) (hr : RdSet w a b c d s) (hs : shapeB s.sh = true) (hn : 1 ≤ countS s) (hl : LimSet s) :
    Calls Try.prog 48 #[.agg #[a, b, c, d]] w fun e w' => e = .returned (.int .i64 (eachS s)) ∧ Below w.heap.size w w' := by
  obtain ⟨o4, cap4, he⟩ := rd_slice hr.y
  subst he
  have HR := Lib.hid hr
  have HL := Lib.hid hl
  have HS := Lib.hid hs
  obtain ⟨n, hne⟩ : ∃ n, n = countS s := ⟨_, rfl⟩
  rw [← hne] at hn
  have HN := Lib.hid hne
  have hy := hl.y
  have hq1 : 0 ≤ (s.y.length : Int) / n := Int.ediv_nonneg (by omega) (by omega)
  have hq2 : (s.y.length : Int) / n ≤ 100000 := Int.le_trans (Int.ediv_le_self _ (by omega)) (by omega)
  clear hr hs hl hne
  go_enter Try.func48, Try.ntmps48
  go_wp2_with fail
  go_region_with ((go_at_call 40; refine (ref30Count_any _ _ _ _ s _ ((HR.out.alloc _).same ⟨1, rfl⟩) HS.out HL.out).mono ?_; rintro e w1 ⟨rfl, hB1⟩; rw [← HN.out]; have c3 := (((Box.new w _ _).same ⟨1, rfl⟩).next hB1).cell 3 rfl; have HB1 := Lib.hid ((below_drewN ((Below.refl w.heap.size w).alloc (Nat.le_refl _) _) 1).trans (hB1.mono (by simp))); clear hB1))
  all_goals go_wp2
  all_goals go_ret
  all_goals exact ⟨ret_int (by rw [eachS, ← HN.out]), HB1.out⟩
end Go.Proofs.Ytjhejpeklppmbaa
