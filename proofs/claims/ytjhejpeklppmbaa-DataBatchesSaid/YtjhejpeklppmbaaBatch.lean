/-
  data.Batch: its contract.
-/
import Derived.Test.YtjhejpeklppmbaaExamples
import Derived.Test.YtjhejpeklppmbaaSpoils
import Derived.Deep.RegionHeld3
import Derived.Deep.DeepCutAuto
set_option linter.unusedVariables false
set_option linter.unusedSimpArgs false
namespace Go.Proofs.Ytjhejpeklppmbaa
open Go.RowKit Go.Shelf
theorem tens_two {w : World} {X Y : Nat} {T T' : TypeId} {x0 x1 y0 y1 a b c d : Value} (hX : Box w X T #[x0, x1]) (hY : Box w Y T' #[y0, y1]) (hne : X ≠ Y) :
    Box ((((w.setCell ⟨X, 0, none⟩ a).setCell ⟨X, 1, none⟩ b).setCell ⟨Y, 0, none⟩ c).setCell ⟨Y, 1, none⟩ d) X T #[a, b] ∧ Box ((((w.setCell ⟨X, 0, none⟩ a).setCell ⟨X, 1, none⟩ b).setCell ⟨Y, 0, none⟩ c).setCell ⟨Y, 1, none⟩ d) Y T' #[c, d] := by
  have h1 : Box ((w.setCell ⟨X, 0, none⟩ a).setCell ⟨X, 1, none⟩ b) X T #[a, b] := (hX.set 0 a).set 1 b
  have h2 : Box ((w.setCell ⟨X, 0, none⟩ a).setCell ⟨X, 1, none⟩ b) Y T' #[y0, y1] := (hY.other (by exact hne) a).other (by exact hne) b
  exact ⟨(h1.other (fun e => hne e.symm) c).other (fun e => hne e.symm) d, (h2.set 0 c).set 1 d⟩

set_option maxHeartbeats 400000 in
theorem batch1_any (N : Nat) (k n : Int) (w : World) (h : w.cell? ⟨N, 0, none⟩ = some (.int .i64 n)) :
    Calls Try.prog 44 #[.int .i64 k, .pointer (some ⟨N, 0, none⟩)] w fun e w' => e = .returned (.bool (decide (k < 0) || decide (n ≤ k))) ∧ Same w w' := by
  by_cases h1 : k < 0
  · go_enter Try.func44, Try.ntmps44
    go_wp2
    go_ret
    exact ⟨ret_bool (by simp [h1]), Same.refl _⟩
  · have d1 : decide (k < 0) = false := decide_eq_false h1
    by_cases h2 : n ≤ k
    · have d2 : decide (n ≤ k) = true := decide_eq_true h2
      go_enter Try.func44, Try.ntmps44
      go_wp2
      go_ret
      exact ⟨ret_bool (by simp [h2]), Same.refl _⟩
    · have d2 : decide (n ≤ k) = false := decide_eq_false h2
      go_enter Try.func44, Try.ntmps44
      go_wp2
      go_ret
      exact ⟨ret_bool (by simp [h1, h2]), Same.refl _⟩
def idsB (n : Int) (ids : List Int) : Bool := ids.any fun k => decide (k < 0) || decide (n ≤ k)
/-- the ids may not be -/
def idsBad (s : SetD) (ids : List Int) : Bool := decide (ids.length < 1) || (decide (4096 < ids.length) || idsB (countS s) ids)

set_option maxRecDepth 100000 in
set_option maxHeartbeats 4000000 in
theorem batch_bad (a b c d : Value) (s : SetD) (oi : Option Addr) (ci : Nat) (ids : List Int) (w : World) (hr : RdSet w a b c d s) (hl : LimSet s) (hg : goodSet s = false) :
    Calls Try.prog 15 #[.agg #[a, b, c, d], .slice oi ids.length ci] w fun e w' => e = .returned (.tuple #[.agg #[.slice none 0 0, .slice none 0 0], .slice none 0 0, .agg #[.slice none 0 0, .slice none 0 0], .int .i64 1]) ∧ Below w.heap.size w w' := by
  obtain ⟨o1, cap1, he1⟩ := rd_slice hr.sh
  obtain ⟨o2, cap2, he2⟩ := rd_slice hr.x
  obtain ⟨o3, cap3, he3⟩ := rd_slice hr.lb
  obtain ⟨o4, cap4, he4⟩ := rd_slice hr.y
  subst he1 he2 he3 he4
  have HR := Lib.hid hr
  have HL := Lib.hid hl
  obtain ⟨W0, hW0⟩ : ∃ W0, W0 = (((w.alloc (.cells #[.slice o1 s.sh.length cap1, .slice o2 s.x.length cap2, .slice o3 s.lb.length cap3, .slice o4 s.y.length cap4] 35)).alloc (.cells #[.slice none 0 0, .slice none 0 0] 41)).alloc (.cells #[.slice none 0 0, .slice none 0 0] 41)) := ⟨_, rfl⟩
  have HBS := Lib.hid (show Box W0 w.heap.size 35 #[.slice o1 s.sh.length cap1, .slice o2 s.x.length cap2, .slice o3 s.lb.length cap3, .slice o4 s.y.length cap4] by
    rw [hW0]; exact ((Box.new w _ _).next ((Below.refl _ _).alloc (Nat.le_refl _) _)).next ((Below.refl _ _).alloc (Nat.le_refl _) _))
  have HBX := Lib.hid (show Box W0 (w.heap.size + 1) 41 #[.slice none 0 0, .slice none 0 0] by
    rw [hW0]; exact (Box.new_at (by simp)).next ((Below.refl _ _).alloc (Nat.le_refl _) _))
  have HBY := Lib.hid (show Box W0 (w.heap.size + 2) 41 #[.slice none 0 0, .slice none 0 0] by rw [hW0]; exact Box.new_at (by simp))
  have HB0 := Lib.hid (show Below w.heap.size w W0 by rw [hW0]; exact (((Below.refl _ _).alloc (Nat.le_refl _) _).alloc (by simp) _).alloc (by simp; omega) _)
  have HSZ := Lib.hid (show W0.heap.size = w.heap.size + 3 by rw [hW0]; simp)
  have HW0 := Lib.hid hW0
  have d0 : W0.cell? ⟨w.heap.size, 0, none⟩ = some (.slice o1 s.sh.length cap1) := HBS.out.cell 0 rfl
  have d1 : W0.cell? ⟨w.heap.size, 1, none⟩ = some (.slice o2 s.x.length cap2) := HBS.out.cell 1 rfl
  have d2 : W0.cell? ⟨w.heap.size, 2, none⟩ = some (.slice o3 s.lb.length cap3) := HBS.out.cell 2 rfl
  have d3 : W0.cell? ⟨w.heap.size, 3, none⟩ = some (.slice o4 s.y.length cap4) := HBS.out.cell 3 rfl
  rw [hW0] at d0 d1 d2 d3
  clear hr hl hW0
  have HG := Lib.hid hg
  clear hg
  go_enter Try.func15, Try.ntmps15

  go_wp2_with fail
  rw [← HW0.out]
  clear HW0 d0 d1 d2 d3
  refine (dataGood_any _ _ _ _ s _ (HR.out.below HB0.out (Nat.le_refl _)) HL.out).mono ?_
  rintro e w1 ⟨rfl, hb⟩
  rw [HG.out]
  have HBS1 := Lib.hid (HBS.out.next hb)
  have HBX1 := Lib.hid (HBX.out.next hb)
  have HBY1 := Lib.hid (HBY.out.next hb)
  have HB1 := Lib.hid (HB0.out.trans (hb.mono HB0.out.size))
  have hsz1 := hb.size
  clear hb HBS HBX HBY

  have x0 := HBX1.out.cell 0 rfl
  have x1 := HBX1.out.cell 1 rfl
  have y0 := HBY1.out.cell 0 rfl
  have y1 := HBY1.out.cell 1 rfl
  have fx0 := HBX1.out.free 0
  have fx1 := HBX1.out.free 1
  have fy0 := HBY1.out.free 0
  have fy1 := HBY1.out.free 1
  go_wp2_with fail
  have HTT := Lib.hid (tens_two (a := .slice none 0 0) (b := .slice none 0 0) (c := .slice none 0 0) (d := .slice none 0 0) HBX1.out HBY1.out (by omega))
  have HBF := Lib.hid (show Below w.heap.size w ((((w1.setCell ⟨w.heap.size + 1, 0, none⟩ (.slice none 0 0)).setCell ⟨w.heap.size + 1, 1, none⟩ (.slice none 0 0)).setCell ⟨w.heap.size + 2, 0, none⟩ (.slice none 0 0)).setCell ⟨w.heap.size + 2, 1, none⟩ (.slice none 0 0)) from
    ((((HB1.out.setCell (p := ⟨w.heap.size + 1, 0, none⟩) (Nat.le_succ _) _).setCell (p := ⟨w.heap.size + 1, 1, none⟩) (Nat.le_succ _) _).setCell (p := ⟨w.heap.size + 2, 0, none⟩) (Nat.le_add_right _ _) _).setCell (p := ⟨w.heap.size + 2, 1, none⟩) (Nat.le_add_right _ _) _))
  clear x0 x1 y0 y1 fx0 fx1 fy0 fy1
  generalize ((((w1.setCell ⟨w.heap.size + 1, 0, none⟩ (.slice none 0 0)).setCell ⟨w.heap.size + 1, 1, none⟩ (.slice none 0 0)).setCell ⟨w.heap.size + 2, 0, none⟩ (.slice none 0 0)).setCell ⟨w.heap.size + 2, 1, none⟩ (.slice none 0 0)) = wz at HTT HBF ⊢
  have x0 : wz.cell? ⟨w.heap.size + 1, 0, none⟩ = some (.slice none 0 0) := HTT.out.1.cell 0 rfl
  have x1 : wz.cell? ⟨w.heap.size + 1, 1, none⟩ = some (.slice none 0 0) := HTT.out.1.cell 1 rfl
  have y0 : wz.cell? ⟨w.heap.size + 2, 0, none⟩ = some (.slice none 0 0) := HTT.out.2.cell 0 rfl
  have y1 : wz.cell? ⟨w.heap.size + 2, 1, none⟩ = some (.slice none 0 0) := HTT.out.2.cell 1 rfl
  exact bodyPost_ret (v := .tuple #[.agg #[.slice none 0 0, .slice none 0 0], .slice none 0 0, .agg #[.slice none 0 0, .slice none 0 0], .int .i64 1]) (by simp [results, Try.results15, go_sem, x0, x1, y0, y1]) rfl ⟨rfl, HBF.out⟩

set_option maxRecDepth 100000 in
set_option maxHeartbeats 4000000 in
theorem batch_shape (a b c d : Value) (s : SetD) (oi : Option Addr) (ci : Nat) (ids : List Int) (w : World) (hr : RdSet w a b c d s) (hl : LimSet s) (hg : goodSet s = true) (hi : Rd w .i64 (.slice oi ids.length ci) ids) (hli : ids.length ≤ 100000) (hbad : idsBad s ids = true) :
    Calls Try.prog 15 #[.agg #[a, b, c, d], .slice oi ids.length ci] w fun e w' => e = .returned (.tuple #[.agg #[.slice none 0 0, .slice none 0 0], .slice none 0 0, .agg #[.slice none 0 0, .slice none 0 0], .int .i64 2]) ∧ Below w.heap.size w w' := by
  have HBAD := Lib.hid hbad
  clear hbad

  obtain ⟨o1, cap1, he1⟩ := rd_slice hr.sh
  obtain ⟨o2, cap2, he2⟩ := rd_slice hr.x
  obtain ⟨o3, cap3, he3⟩ := rd_slice hr.lb
  obtain ⟨o4, cap4, he4⟩ := rd_slice hr.y
  subst he1 he2 he3 he4
  have HR := Lib.hid hr
  have HL := Lib.hid hl
  obtain ⟨W0, hW0⟩ : ∃ W0, W0 = (((w.alloc (.cells #[.slice o1 s.sh.length cap1, .slice o2 s.x.length cap2, .slice o3 s.lb.length cap3, .slice o4 s.y.length cap4] 35)).alloc (.cells #[.slice none 0 0, .slice none 0 0] 41)).alloc (.cells #[.slice none 0 0, .slice none 0 0] 41)) := ⟨_, rfl⟩
  have HBS := Lib.hid (show Box W0 w.heap.size 35 #[.slice o1 s.sh.length cap1, .slice o2 s.x.length cap2, .slice o3 s.lb.length cap3, .slice o4 s.y.length cap4] by
    rw [hW0]; exact ((Box.new w _ _).next ((Below.refl _ _).alloc (Nat.le_refl _) _)).next ((Below.refl _ _).alloc (Nat.le_refl _) _))
  have HBX := Lib.hid (show Box W0 (w.heap.size + 1) 41 #[.slice none 0 0, .slice none 0 0] by
    rw [hW0]; exact (Box.new_at (by simp)).next ((Below.refl _ _).alloc (Nat.le_refl _) _))
  have HBY := Lib.hid (show Box W0 (w.heap.size + 2) 41 #[.slice none 0 0, .slice none 0 0] by rw [hW0]; exact Box.new_at (by simp))
  have HB0 := Lib.hid (show Below w.heap.size w W0 by rw [hW0]; exact (((Below.refl _ _).alloc (Nat.le_refl _) _).alloc (by simp) _).alloc (by simp; omega) _)
  have HSZ := Lib.hid (show W0.heap.size = w.heap.size + 3 by rw [hW0]; simp)
  have HW0 := Lib.hid hW0
  have d0 : W0.cell? ⟨w.heap.size, 0, none⟩ = some (.slice o1 s.sh.length cap1) := HBS.out.cell 0 rfl
  have d1 : W0.cell? ⟨w.heap.size, 1, none⟩ = some (.slice o2 s.x.length cap2) := HBS.out.cell 1 rfl
  have d2 : W0.cell? ⟨w.heap.size, 2, none⟩ = some (.slice o3 s.lb.length cap3) := HBS.out.cell 2 rfl
  have d3 : W0.cell? ⟨w.heap.size, 3, none⟩ = some (.slice o4 s.y.length cap4) := HBS.out.cell 3 rfl
  rw [hW0] at d0 d1 d2 d3
  clear hr hl hW0
  have HG := Lib.hid hg
  have HSH := Lib.hid (shapeB_parts (goodSet_parts hg).1)
  have HI := Lib.hid hi
  obtain ⟨n, hne⟩ : ∃ n, n = countS s := ⟨_, rfl⟩
  have hn1 : 1 ≤ n ∧ n ≤ 1024 := by rw [hne]; exact ⟨(goodSet_parts hg).2.2.2.1, (goodSet_parts hg).2.2.2.2.1⟩
  have HN := Lib.hid hne
  clear hg hi hne
  by_cases h1 : ids.length < 1
  · have e1 : decide ((ids.length : Int) < 1) = true := decide_eq_true (by omega)
    go_enter Try.func15, Try.ntmps15
  
    go_wp2_with fail
    rw [← HW0.out]
    clear HW0 d0 d1 d2 d3
    refine (dataGood_any _ _ _ _ s _ (HR.out.below HB0.out (Nat.le_refl _)) HL.out).mono ?_
    rintro e w1 ⟨rfl, hb⟩
    rw [HG.out]
    have HBS1 := Lib.hid (HBS.out.next hb)
    have HBX1 := Lib.hid (HBX.out.next hb)
    have HBY1 := Lib.hid (HBY.out.next hb)
    have HB1 := Lib.hid (HB0.out.trans (hb.mono HB0.out.size))
    have hsz1 := hb.size
    clear hb HBS HBX HBY
  
    have d0 : w1.cell? ⟨w.heap.size, 0, none⟩ = some (.slice o1 s.sh.length cap1) := HBS1.out.cell 0 rfl
    have d1 : w1.cell? ⟨w.heap.size, 1, none⟩ = some (.slice o2 s.x.length cap2) := HBS1.out.cell 1 rfl
    have d2 : w1.cell? ⟨w.heap.size, 2, none⟩ = some (.slice o3 s.lb.length cap3) := HBS1.out.cell 2 rfl
    have d3 : w1.cell? ⟨w.heap.size, 3, none⟩ = some (.slice o4 s.y.length cap4) := HBS1.out.cell 3 rfl
    go_wp2_with fail
    clear d0 d1 d2 d3
    refine (dataCount_any _ _ _ _ s _ (HR.out.below HB1.out (Nat.le_refl _)) HSH.out.2.1 HSH.out.1 HL.out).mono ?_
    rintro e w2 ⟨rfl, hb⟩
    rw [← HN.out]
    obtain ⟨W3, hW3⟩ : ∃ W3, W3 = w2.alloc (.cells #[.int .i64 n] 3) := ⟨_, rfl⟩
    have hal : Below w2.heap.size w2 W3 := by rw [hW3]; exact (Below.refl _ _).alloc (Nat.le_refl _) _
    have hbl : Below w1.heap.size w1 W3 := hb.trans (hal.mono hb.size)
    have HBS3 := Lib.hid (HBS1.out.next hbl)
    have HBX3 := Lib.hid (HBX1.out.next hbl)
    have HBY3 := Lib.hid (HBY1.out.next hbl)
    have HB3 := Lib.hid (HB1.out.trans (hbl.mono HB1.out.size))
    have HBN := Lib.hid (show Box W3 w2.heap.size 3 #[.int .i64 n] by rw [hW3]; exact Box.new _ _ _)
    have hsz2 := hb.size
    have hsz3 : w2.heap.size < W3.heap.size := HBN.out.lt
    have HRI := Lib.hid (HI.out.below HB3.out (Nat.le_refl _))
    have HW3 := Lib.hid hW3
    have hcf := enters_of (P := Try.prog) Try.func44 (by kernel_rfl) rfl
    have HCF := Lib.hid hcf
    have HCI := Lib.hid (fun (q : Nat) (r : Bool) (h : idsB n ids = r) => (show Calls Try.prog 43 #[.slice oi ids.length ci, .func (.func 44) #[] #[.pointer (some ⟨w2.heap.size, 0, none⟩)]] (W3.drewN q) fun e w' => e = .returned (.bool r) ∧ Same (W3.drewN q) w' from by
      rw [← h]
      exact containsInt_any _ ids 44 _ _ _ (HRI.out.same ⟨q, rfl⟩) (by omega) HCF.out (fun k hk m => batch1_any w2.heap.size (nth ids k) n _ (((HBN.out.same ⟨q, rfl⟩).same ⟨m, rfl⟩).cell 0 rfl))))
    have hmf : ∀ (fn : Fn) (first cap : Array Value) (w : World), (Instr.makeFunc fn first cap).run Try.prog w = .ok (.func fn first cap) w := fun _ _ _ _ => rfl
    clear hb hal hbl hW3 hcf HBS1 HBX1 HBY1
  
    rw [HW3.out] at HBX3 HBY3 HB3
  
    have x0 := HBX3.out.cell 0 rfl
    have x1 := HBX3.out.cell 1 rfl
    have y0 := HBY3.out.cell 0 rfl
    have y1 := HBY3.out.cell 1 rfl
    have fx0 := HBX3.out.free 0
    have fx1 := HBX3.out.free 1
    have fy0 := HBY3.out.free 0
    have fy1 := HBY3.out.free 1
    go_wp2_with fail
    have HTT := Lib.hid (tens_two (a := .slice none 0 0) (b := .slice none 0 0) (c := .slice none 0 0) (d := .slice none 0 0) HBX3.out HBY3.out (by omega))
    have HBF := Lib.hid (show Below w.heap.size w (((((w2.alloc (.cells #[.int .i64 n] 3)).setCell ⟨w.heap.size + 1, 0, none⟩ (.slice none 0 0)).setCell ⟨w.heap.size + 1, 1, none⟩ (.slice none 0 0)).setCell ⟨w.heap.size + 2, 0, none⟩ (.slice none 0 0)).setCell ⟨w.heap.size + 2, 1, none⟩ (.slice none 0 0)) from
      ((((HB3.out.setCell (p := ⟨w.heap.size + 1, 0, none⟩) (Nat.le_succ _) _).setCell (p := ⟨w.heap.size + 1, 1, none⟩) (Nat.le_succ _) _).setCell (p := ⟨w.heap.size + 2, 0, none⟩) (Nat.le_add_right _ _) _).setCell (p := ⟨w.heap.size + 2, 1, none⟩) (Nat.le_add_right _ _) _))
    clear x0 x1 y0 y1 fx0 fx1 fy0 fy1
    generalize (((((w2.alloc (.cells #[.int .i64 n] 3)).setCell ⟨w.heap.size + 1, 0, none⟩ (.slice none 0 0)).setCell ⟨w.heap.size + 1, 1, none⟩ (.slice none 0 0)).setCell ⟨w.heap.size + 2, 0, none⟩ (.slice none 0 0)).setCell ⟨w.heap.size + 2, 1, none⟩ (.slice none 0 0)) = wz at HTT HBF ⊢
    have x0 : wz.cell? ⟨w.heap.size + 1, 0, none⟩ = some (.slice none 0 0) := HTT.out.1.cell 0 rfl
    have x1 : wz.cell? ⟨w.heap.size + 1, 1, none⟩ = some (.slice none 0 0) := HTT.out.1.cell 1 rfl
    have y0 : wz.cell? ⟨w.heap.size + 2, 0, none⟩ = some (.slice none 0 0) := HTT.out.2.cell 0 rfl
    have y1 : wz.cell? ⟨w.heap.size + 2, 1, none⟩ = some (.slice none 0 0) := HTT.out.2.cell 1 rfl
    exact bodyPost_ret (v := .tuple #[.agg #[.slice none 0 0, .slice none 0 0], .slice none 0 0, .agg #[.slice none 0 0, .slice none 0 0], .int .i64 2]) (by simp [results, Try.results15, go_sem, x0, x1, y0, y1]) rfl ⟨rfl, HBF.out⟩
  · have e1 : decide ((ids.length : Int) < 1) = false := decide_eq_false (by omega)
    by_cases h2 : 4096 < ids.length
    · have e2 : decide ((4096 : Int) < ids.length) = true := decide_eq_true (by omega)
      go_enter Try.func15, Try.ntmps15
    
      go_wp2_with fail
      rw [← HW0.out]
      clear HW0 d0 d1 d2 d3
      refine (dataGood_any _ _ _ _ s _ (HR.out.below HB0.out (Nat.le_refl _)) HL.out).mono ?_
      rintro e w1 ⟨rfl, hb⟩
      rw [HG.out]
      have HBS1 := Lib.hid (HBS.out.next hb)
      have HBX1 := Lib.hid (HBX.out.next hb)
      have HBY1 := Lib.hid (HBY.out.next hb)
      have HB1 := Lib.hid (HB0.out.trans (hb.mono HB0.out.size))
      have hsz1 := hb.size
      clear hb HBS HBX HBY
    
      have d0 : w1.cell? ⟨w.heap.size, 0, none⟩ = some (.slice o1 s.sh.length cap1) := HBS1.out.cell 0 rfl
      have d1 : w1.cell? ⟨w.heap.size, 1, none⟩ = some (.slice o2 s.x.length cap2) := HBS1.out.cell 1 rfl
      have d2 : w1.cell? ⟨w.heap.size, 2, none⟩ = some (.slice o3 s.lb.length cap3) := HBS1.out.cell 2 rfl
      have d3 : w1.cell? ⟨w.heap.size, 3, none⟩ = some (.slice o4 s.y.length cap4) := HBS1.out.cell 3 rfl
      go_wp2_with fail
      clear d0 d1 d2 d3
      refine (dataCount_any _ _ _ _ s _ (HR.out.below HB1.out (Nat.le_refl _)) HSH.out.2.1 HSH.out.1 HL.out).mono ?_
      rintro e w2 ⟨rfl, hb⟩
      rw [← HN.out]
      obtain ⟨W3, hW3⟩ : ∃ W3, W3 = w2.alloc (.cells #[.int .i64 n] 3) := ⟨_, rfl⟩
      have hal : Below w2.heap.size w2 W3 := by rw [hW3]; exact (Below.refl _ _).alloc (Nat.le_refl _) _
      have hbl : Below w1.heap.size w1 W3 := hb.trans (hal.mono hb.size)
      have HBS3 := Lib.hid (HBS1.out.next hbl)
      have HBX3 := Lib.hid (HBX1.out.next hbl)
      have HBY3 := Lib.hid (HBY1.out.next hbl)
      have HB3 := Lib.hid (HB1.out.trans (hbl.mono HB1.out.size))
      have HBN := Lib.hid (show Box W3 w2.heap.size 3 #[.int .i64 n] by rw [hW3]; exact Box.new _ _ _)
      have hsz2 := hb.size
      have hsz3 : w2.heap.size < W3.heap.size := HBN.out.lt
      have HRI := Lib.hid (HI.out.below HB3.out (Nat.le_refl _))
      have HW3 := Lib.hid hW3
      have hcf := enters_of (P := Try.prog) Try.func44 (by kernel_rfl) rfl
      have HCF := Lib.hid hcf
      have HCI := Lib.hid (fun (q : Nat) (r : Bool) (h : idsB n ids = r) => (show Calls Try.prog 43 #[.slice oi ids.length ci, .func (.func 44) #[] #[.pointer (some ⟨w2.heap.size, 0, none⟩)]] (W3.drewN q) fun e w' => e = .returned (.bool r) ∧ Same (W3.drewN q) w' from by
        rw [← h]
        exact containsInt_any _ ids 44 _ _ _ (HRI.out.same ⟨q, rfl⟩) (by omega) HCF.out (fun k hk m => batch1_any w2.heap.size (nth ids k) n _ (((HBN.out.same ⟨q, rfl⟩).same ⟨m, rfl⟩).cell 0 rfl))))
      have hmf : ∀ (fn : Fn) (first cap : Array Value) (w : World), (Instr.makeFunc fn first cap).run Try.prog w = .ok (.func fn first cap) w := fun _ _ _ _ => rfl
      clear hb hal hbl hW3 hcf HBS1 HBX1 HBY1
    
      rw [HW3.out] at HBX3 HBY3 HB3
    
      have x0 := HBX3.out.cell 0 rfl
      have x1 := HBX3.out.cell 1 rfl
      have y0 := HBY3.out.cell 0 rfl
      have y1 := HBY3.out.cell 1 rfl
      have fx0 := HBX3.out.free 0
      have fx1 := HBX3.out.free 1
      have fy0 := HBY3.out.free 0
      have fy1 := HBY3.out.free 1
      go_wp2_with fail
      have HTT := Lib.hid (tens_two (a := .slice none 0 0) (b := .slice none 0 0) (c := .slice none 0 0) (d := .slice none 0 0) HBX3.out HBY3.out (by omega))
      have HBF := Lib.hid (show Below w.heap.size w (((((w2.alloc (.cells #[.int .i64 n] 3)).setCell ⟨w.heap.size + 1, 0, none⟩ (.slice none 0 0)).setCell ⟨w.heap.size + 1, 1, none⟩ (.slice none 0 0)).setCell ⟨w.heap.size + 2, 0, none⟩ (.slice none 0 0)).setCell ⟨w.heap.size + 2, 1, none⟩ (.slice none 0 0)) from
        ((((HB3.out.setCell (p := ⟨w.heap.size + 1, 0, none⟩) (Nat.le_succ _) _).setCell (p := ⟨w.heap.size + 1, 1, none⟩) (Nat.le_succ _) _).setCell (p := ⟨w.heap.size + 2, 0, none⟩) (Nat.le_add_right _ _) _).setCell (p := ⟨w.heap.size + 2, 1, none⟩) (Nat.le_add_right _ _) _))
      clear x0 x1 y0 y1 fx0 fx1 fy0 fy1
      generalize (((((w2.alloc (.cells #[.int .i64 n] 3)).setCell ⟨w.heap.size + 1, 0, none⟩ (.slice none 0 0)).setCell ⟨w.heap.size + 1, 1, none⟩ (.slice none 0 0)).setCell ⟨w.heap.size + 2, 0, none⟩ (.slice none 0 0)).setCell ⟨w.heap.size + 2, 1, none⟩ (.slice none 0 0)) = wz at HTT HBF ⊢
      have x0 : wz.cell? ⟨w.heap.size + 1, 0, none⟩ = some (.slice none 0 0) := HTT.out.1.cell 0 rfl
      have x1 : wz.cell? ⟨w.heap.size + 1, 1, none⟩ = some (.slice none 0 0) := HTT.out.1.cell 1 rfl
      have y0 : wz.cell? ⟨w.heap.size + 2, 0, none⟩ = some (.slice none 0 0) := HTT.out.2.cell 0 rfl
      have y1 : wz.cell? ⟨w.heap.size + 2, 1, none⟩ = some (.slice none 0 0) := HTT.out.2.cell 1 rfl
      exact bodyPost_ret (v := .tuple #[.agg #[.slice none 0 0, .slice none 0 0], .slice none 0 0, .agg #[.slice none 0 0, .slice none 0 0], .int .i64 2]) (by simp [results, Try.results15, go_sem, x0, x1, y0, y1]) rfl ⟨rfl, HBF.out⟩
    · have e2 : decide ((4096 : Int) < ids.length) = false := decide_eq_false (by omega)
      have HID := Lib.hid (show idsB n ids = true by
        have := HBAD.out
        rw [idsBad, decide_eq_false h1, decide_eq_false h2, Bool.false_or, Bool.false_or, ← HN.out] at this
        exact this)
      go_enter Try.func15, Try.ntmps15
    
      go_wp2_with fail
      rw [← HW0.out]
      clear HW0 d0 d1 d2 d3
      refine (dataGood_any _ _ _ _ s _ (HR.out.below HB0.out (Nat.le_refl _)) HL.out).mono ?_
      rintro e w1 ⟨rfl, hb⟩
      rw [HG.out]
      have HBS1 := Lib.hid (HBS.out.next hb)
      have HBX1 := Lib.hid (HBX.out.next hb)
      have HBY1 := Lib.hid (HBY.out.next hb)
      have HB1 := Lib.hid (HB0.out.trans (hb.mono HB0.out.size))
      have hsz1 := hb.size
      clear hb HBS HBX HBY
    
      have d0 : w1.cell? ⟨w.heap.size, 0, none⟩ = some (.slice o1 s.sh.length cap1) := HBS1.out.cell 0 rfl
      have d1 : w1.cell? ⟨w.heap.size, 1, none⟩ = some (.slice o2 s.x.length cap2) := HBS1.out.cell 1 rfl
      have d2 : w1.cell? ⟨w.heap.size, 2, none⟩ = some (.slice o3 s.lb.length cap3) := HBS1.out.cell 2 rfl
      have d3 : w1.cell? ⟨w.heap.size, 3, none⟩ = some (.slice o4 s.y.length cap4) := HBS1.out.cell 3 rfl
      go_wp2_with fail
      clear d0 d1 d2 d3
      refine (dataCount_any _ _ _ _ s _ (HR.out.below HB1.out (Nat.le_refl _)) HSH.out.2.1 HSH.out.1 HL.out).mono ?_
      rintro e w2 ⟨rfl, hb⟩
      rw [← HN.out]
      obtain ⟨W3, hW3⟩ : ∃ W3, W3 = w2.alloc (.cells #[.int .i64 n] 3) := ⟨_, rfl⟩
      have hal : Below w2.heap.size w2 W3 := by rw [hW3]; exact (Below.refl _ _).alloc (Nat.le_refl _) _
      have hbl : Below w1.heap.size w1 W3 := hb.trans (hal.mono hb.size)
      have HBS3 := Lib.hid (HBS1.out.next hbl)
      have HBX3 := Lib.hid (HBX1.out.next hbl)
      have HBY3 := Lib.hid (HBY1.out.next hbl)
      have HB3 := Lib.hid (HB1.out.trans (hbl.mono HB1.out.size))
      have HBN := Lib.hid (show Box W3 w2.heap.size 3 #[.int .i64 n] by rw [hW3]; exact Box.new _ _ _)
      have hsz2 := hb.size
      have hsz3 : w2.heap.size < W3.heap.size := HBN.out.lt
      have HRI := Lib.hid (HI.out.below HB3.out (Nat.le_refl _))
      have HW3 := Lib.hid hW3
      have hcf := enters_of (P := Try.prog) Try.func44 (by kernel_rfl) rfl
      have HCF := Lib.hid hcf
      have HCI := Lib.hid (fun (q : Nat) (r : Bool) (h : idsB n ids = r) => (show Calls Try.prog 43 #[.slice oi ids.length ci, .func (.func 44) #[] #[.pointer (some ⟨w2.heap.size, 0, none⟩)]] (W3.drewN q) fun e w' => e = .returned (.bool r) ∧ Same (W3.drewN q) w' from by
        rw [← h]
        exact containsInt_any _ ids 44 _ _ _ (HRI.out.same ⟨q, rfl⟩) (by omega) HCF.out (fun k hk m => batch1_any w2.heap.size (nth ids k) n _ (((HBN.out.same ⟨q, rfl⟩).same ⟨m, rfl⟩).cell 0 rfl))))
      have hmf : ∀ (fn : Fn) (first cap : Array Value) (w : World), (Instr.makeFunc fn first cap).run Try.prog w = .ok (.func fn first cap) w := fun _ _ _ _ => rfl
      clear hb hal hbl hW3 hcf HBS1 HBX1 HBY1
    
      go_wp2_with fail
      rw [← HW3.out]
      refine (HCI.out 0 true HID.out).mono ?_
      rintro e w4 ⟨rfl, hb⟩
      have HBX4 := Lib.hid (HBX3.out.same hb)
      have HBY4 := Lib.hid (HBY3.out.same hb)
      have HBN4 := Lib.hid (HBN.out.same hb)
      have HBS4 := Lib.hid (HBS3.out.same hb)
      have HB4 := Lib.hid (HB3.out.trans (hb.below _))
      clear hb
    
      have x0 := HBX4.out.cell 0 rfl
      have x1 := HBX4.out.cell 1 rfl
      have y0 := HBY4.out.cell 0 rfl
      have y1 := HBY4.out.cell 1 rfl
      have fx0 := HBX4.out.free 0
      have fx1 := HBX4.out.free 1
      have fy0 := HBY4.out.free 0
      have fy1 := HBY4.out.free 1
      go_wp2_with fail
      have HTT := Lib.hid (tens_two (a := .slice none 0 0) (b := .slice none 0 0) (c := .slice none 0 0) (d := .slice none 0 0) HBX4.out HBY4.out (by omega))
      have HBF := Lib.hid (show Below w.heap.size w ((((w4.setCell ⟨w.heap.size + 1, 0, none⟩ (.slice none 0 0)).setCell ⟨w.heap.size + 1, 1, none⟩ (.slice none 0 0)).setCell ⟨w.heap.size + 2, 0, none⟩ (.slice none 0 0)).setCell ⟨w.heap.size + 2, 1, none⟩ (.slice none 0 0)) from
        ((((HB4.out.setCell (p := ⟨w.heap.size + 1, 0, none⟩) (Nat.le_succ _) _).setCell (p := ⟨w.heap.size + 1, 1, none⟩) (Nat.le_succ _) _).setCell (p := ⟨w.heap.size + 2, 0, none⟩) (Nat.le_add_right _ _) _).setCell (p := ⟨w.heap.size + 2, 1, none⟩) (Nat.le_add_right _ _) _))
      clear x0 x1 y0 y1 fx0 fx1 fy0 fy1
      generalize ((((w4.setCell ⟨w.heap.size + 1, 0, none⟩ (.slice none 0 0)).setCell ⟨w.heap.size + 1, 1, none⟩ (.slice none 0 0)).setCell ⟨w.heap.size + 2, 0, none⟩ (.slice none 0 0)).setCell ⟨w.heap.size + 2, 1, none⟩ (.slice none 0 0)) = wz at HTT HBF ⊢
      have x0 : wz.cell? ⟨w.heap.size + 1, 0, none⟩ = some (.slice none 0 0) := HTT.out.1.cell 0 rfl
      have x1 : wz.cell? ⟨w.heap.size + 1, 1, none⟩ = some (.slice none 0 0) := HTT.out.1.cell 1 rfl
      have y0 : wz.cell? ⟨w.heap.size + 2, 0, none⟩ = some (.slice none 0 0) := HTT.out.2.cell 0 rfl
      have y1 : wz.cell? ⟨w.heap.size + 2, 1, none⟩ = some (.slice none 0 0) := HTT.out.2.cell 1 rfl
      exact bodyPost_ret (v := .tuple #[.agg #[.slice none 0 0, .slice none 0 0], .slice none 0 0, .agg #[.slice none 0 0, .slice none 0 0], .int .i64 2]) (by simp [results, Try.results15, go_sem, x0, x1, y0, y1]) rfl ⟨rfl, HBF.out⟩
end Go.Proofs.Ytjhejpeklppmbaa
