/-
  data.Batch: its answer.
-/
import Derived.Test.YtjhejpeklppmbaaBatch
import Derived.Test.YtjhejpeklppmbaaBatchRd
set_option linter.unusedVariables false
set_option linter.unusedSimpArgs false
namespace Go.Proofs.Ytjhejpeklppmbaa
open Go.RowKit Go.Shelf
attribute [local go_sem] Oper.semAt_some

theorem bodyPostM_ret {F : Fence} {n : Nat} {P : Program} {fn : Func} {R : Ending → World → Prop} {a : Act} {w : World} {v : Value}
    (hr : (results fn a.tmps).run P w = .ok v w) (hd : a.defers = []) (hR : R (.returned v) w) : bodyPostM F n P fn R .ret a w := by
  show LeavesInM F n P fn a.tmps R a.defers .returning w
  rw [hd]
  exact ⟨_, hr, hR⟩
def yShape (s : SetD) (ids : List Int) : List Int := if 0 < s.y.length then [(ids.length : Int), (s.y.length : Int) / countS s] else []
def budB (s : SetD) (ids : List Int) : Bool := !(shapeB ((ids.length : Int) :: s.sh) && shapeB (yShape s ids))
def batchX (s : SetD) (ids : List Int) : List Int := ids.flatMap fun k => (s.x.drop (k.toNat * (prodL s.sh).toNat)).take (prodL s.sh).toNat
def batchY (s : SetD) (ids : List Int) : List Int := ids.flatMap fun k => (s.y.drop (k.toNat * ((s.y.length : Int) / countS s).toNat)).take ((s.y.length : Int) / countS s).toNat
def batchL (s : SetD) (ids : List Int) : List Int := if 0 < s.lb.length then ids.map fun k => nth s.lb k.toNat else []
/-- what Batch answers -/
def BatchOk (B : Nat) (w : World) (v : Value) (s : SetD) (ids : List Int) : Prop :=
  ∃ xs xd vl ys yd, v = .tuple #[.agg #[xs, xd], vl, .agg #[ys, yd], .int .i64 0] ∧ OwnI w B 3 .i64 xs ((ids.length : Int) :: s.sh) ∧ OwnI w B 2 .i64 xd (batchX s ids) ∧ OwnI w B 3 .i64 vl (batchL s ids) ∧
    OwnI w B 3 .i64 ys (yShape s ids) ∧ OwnI w B 2 .i64 yd (batchY s ids) ∧ Sep xs vl ∧ Sep xs ys ∧ Sep vl ys ∧ Sep xd yd
set_option maxRecDepth 100000 in
set_option maxHeartbeats 4000000 in
theorem batch_go (a b c d : Value) (s : SetD) (oi : Option Addr) (ci : Nat) (ids : List Int) (w : World) (hr : RdSet w a b c d s) (hl : LimSet s) (hg : goodSet s = true) (hi : Rd w .i64 (.slice oi ids.length ci) ids) (hli : ids.length ≤ 100000) (hbad : idsBad s ids = false)
    (hcb : ∀ o m c, b = .slice o m c → m ≤ c ∧ c ≤ 9223372036854775807) (hcd : ∀ o m c, d = .slice o m c → m ≤ c ∧ c ≤ 9223372036854775807) :
    CallsIn Fence.wide 9 Try.prog 15 #[.agg #[a, b, c, d], .slice oi ids.length ci] w fun e w' => (budB s ids = true ∧ e = .returned (.tuple #[.agg #[.slice none 0 0, .slice none 0 0], .slice none 0 0, .agg #[.slice none 0 0, .slice none 0 0], .int .i64 5]) ∧ Below w.heap.size w w') ∨ (budB s ids = false ∧ ∃ v, e = .returned v ∧ BatchOk w.heap.size w' v s ids ∧ Below w.heap.size w w') := by
  have HCB := Lib.hid hcb
  have HCD := Lib.hid hcd
  clear hcb hcd

  obtain ⟨o1, cap1, he1⟩ := rd_slice hr.sh
  obtain ⟨o2, cap2, he2⟩ := rd_slice hr.x
  obtain ⟨o3, cap3, he3⟩ := rd_slice hr.lb
  obtain ⟨o4, cap4, he4⟩ := rd_slice hr.y
  subst he1 he2 he3 he4
  have HR := Lib.hid hr
  have HL := Lib.hid hl
  obtain ⟨W0, hW0⟩ : ∃ W0, W0 = (((w.alloc (.cells #[.slice o1 s.sh.length cap1, .slice o2 s.x.length cap2, .slice o3 s.lb.length cap3, .slice o4 s.y.length cap4] 35)).alloc (.cells #[.slice none 0 0, .slice none 0 0] 41)).alloc (.cells #[.slice none 0 0, .slice none 0 0] 41)) := ⟨_, rfl⟩
  have HBS := Lib.hid (show Box W0 w.heap.size 35 #[.slice o1 s.sh.length cap1, .slice o2 s.x.length cap2, .slice o3 s.lb.length cap3, .slice o4 s.y.length cap4] by
    rw [hW0]; exact ((Box.new w _ _).next ((Below.refl _ _).alloc (Nat.le_refl _) _)).next ((Below.refl _ _).alloc (Nat.le_refl _) _))
  have HBX := Lib.hid (show Box W0 (w.heap.size + 1) 41 #[.slice none 0 0, .slice none 0 0] by
    rw [hW0]; exact (Box.new_at (by simp)).next ((Below.refl _ _).alloc (Nat.le_refl _) _))
  have HBY := Lib.hid (show Box W0 (w.heap.size + 2) 41 #[.slice none 0 0, .slice none 0 0] by rw [hW0]; exact Box.new_at (by simp))
  have HB0 := Lib.hid (show Below w.heap.size w W0 by rw [hW0]; exact (((Below.refl _ _).alloc (Nat.le_refl _) _).alloc (by simp) _).alloc (by simp; omega) _)
  have HSZ := Lib.hid (show W0.heap.size = w.heap.size + 3 by rw [hW0]; simp)
  have HW0 := Lib.hid hW0
  have d0 : W0.cell? ⟨w.heap.size, 0, none⟩ = some (.slice o1 s.sh.length cap1) := HBS.out.cell 0 rfl
  have d1 : W0.cell? ⟨w.heap.size, 1, none⟩ = some (.slice o2 s.x.length cap2) := HBS.out.cell 1 rfl
  have d2 : W0.cell? ⟨w.heap.size, 2, none⟩ = some (.slice o3 s.lb.length cap3) := HBS.out.cell 2 rfl
  have d3 : W0.cell? ⟨w.heap.size, 3, none⟩ = some (.slice o4 s.y.length cap4) := HBS.out.cell 3 rfl
  rw [hW0] at d0 d1 d2 d3
  clear hr hl hW0
  have HG := Lib.hid hg
  have HSH := Lib.hid (shapeB_parts (goodSet_parts hg).1)
  have HI := Lib.hid hi
  obtain ⟨n, hne⟩ : ∃ n, n = countS s := ⟨_, rfl⟩
  have hn1 : 1 ≤ n ∧ n ≤ 1024 := by rw [hne]; exact ⟨(goodSet_parts hg).2.2.2.1, (goodSet_parts hg).2.2.2.2.1⟩
  have HN := Lib.hid hne
  have h3 := hbad
  rw [idsBad, Bool.or_eq_false_iff, Bool.or_eq_false_iff, ← HN.out] at h3
  have h1 : ¬ ids.length < 1 := of_decide_eq_false h3.1
  have h2 : ¬ 4096 < ids.length := of_decide_eq_false h3.2.1
  have HID := Lib.hid h3.2.2
  have e1 : decide ((ids.length : Int) < 1) = false := decide_eq_false (by omega)
  have e2 : decide ((4096 : Int) < ids.length) = false := decide_eq_false (by omega)
  clear hg hi hne hbad h3

  refine callsIn_of_wp_marks Try.func15 rfl trivial ?_ rfl
  simp only [Try.ntmps15, List.size_toArray, List.length_cons, List.length_nil, Nat.reduceAdd, Nat.reduceSub, Array.replicate_succ, Array.replicate_zero, List.push_toArray, List.append_toArray, List.nil_append, List.cons_append]
  refine wpIn_wide.2 ?_

  go_wp2_with fail
  rw [← HW0.out]
  clear HW0 d0 d1 d2 d3
  refine (dataGood_any _ _ _ _ s _ (HR.out.below HB0.out (Nat.le_refl _)) HL.out).mono ?_
  rintro e w1 ⟨rfl, hb⟩
  rw [HG.out]
  have HBS1 := Lib.hid (HBS.out.next hb)
  have HBX1 := Lib.hid (HBX.out.next hb)
  have HBY1 := Lib.hid (HBY.out.next hb)
  have HB1 := Lib.hid (HB0.out.trans (hb.mono HB0.out.size))
  have hsz1 := hb.size
  clear hb HBS HBX HBY

  have d0 : w1.cell? ⟨w.heap.size, 0, none⟩ = some (.slice o1 s.sh.length cap1) := HBS1.out.cell 0 rfl
  have d1 : w1.cell? ⟨w.heap.size, 1, none⟩ = some (.slice o2 s.x.length cap2) := HBS1.out.cell 1 rfl
  have d2 : w1.cell? ⟨w.heap.size, 2, none⟩ = some (.slice o3 s.lb.length cap3) := HBS1.out.cell 2 rfl
  have d3 : w1.cell? ⟨w.heap.size, 3, none⟩ = some (.slice o4 s.y.length cap4) := HBS1.out.cell 3 rfl
  go_wp2_with fail
  clear d0 d1 d2 d3
  refine (dataCount_any _ _ _ _ s _ (HR.out.below HB1.out (Nat.le_refl _)) HSH.out.2.1 HSH.out.1 HL.out).mono ?_
  rintro e w2 ⟨rfl, hb⟩
  rw [← HN.out]
  obtain ⟨W3, hW3⟩ : ∃ W3, W3 = w2.alloc (.cells #[.int .i64 n] 3) := ⟨_, rfl⟩
  have hal : Below w2.heap.size w2 W3 := by rw [hW3]; exact (Below.refl _ _).alloc (Nat.le_refl _) _
  have hbl : Below w1.heap.size w1 W3 := hb.trans (hal.mono hb.size)
  have HBS3 := Lib.hid (HBS1.out.next hbl)
  have HBX3 := Lib.hid (HBX1.out.next hbl)
  have HBY3 := Lib.hid (HBY1.out.next hbl)
  have HB3 := Lib.hid (HB1.out.trans (hbl.mono HB1.out.size))
  have HBN := Lib.hid (show Box W3 w2.heap.size 3 #[.int .i64 n] by rw [hW3]; exact Box.new _ _ _)
  have hsz2 := hb.size
  have hsz3 : w2.heap.size < W3.heap.size := HBN.out.lt
  have HRI := Lib.hid (HI.out.below HB3.out (Nat.le_refl _))
  have HW3 := Lib.hid hW3
  have hcf := enters_of (P := Try.prog) Try.func44 (by kernel_rfl) rfl
  have HCF := Lib.hid hcf
  have HCI := Lib.hid (fun (q : Nat) (r : Bool) (h : idsB n ids = r) => (show Calls Try.prog 43 #[.slice oi ids.length ci, .func (.func 44) #[] #[.pointer (some ⟨w2.heap.size, 0, none⟩)]] (W3.drewN q) fun e w' => e = .returned (.bool r) ∧ Same (W3.drewN q) w' from by
    rw [← h]
    exact containsInt_any _ ids 44 _ _ _ (HRI.out.same ⟨q, rfl⟩) (by omega) HCF.out (fun k hk m => batch1_any w2.heap.size (nth ids k) n _ (((HBN.out.same ⟨q, rfl⟩).same ⟨m, rfl⟩).cell 0 rfl))))
  have hmf : ∀ (fn : Fn) (first cap : Array Value) (w : World), (Instr.makeFunc fn first cap).run Try.prog w = .ok (.func fn first cap) w := fun _ _ _ _ => rfl
  clear hb hal hbl hW3 hcf HBS1 HBX1 HBY1

  go_wp2_with fail
  rw [← HW3.out]
  refine (HCI.out 0 false HID.out).mono ?_
  rintro e w4 ⟨rfl, hb⟩
  have HBX4 := Lib.hid (HBX3.out.same hb)
  have HBY4 := Lib.hid (HBY3.out.same hb)
  have HBN4 := Lib.hid (HBN.out.same hb)
  have HBS4 := Lib.hid (HBS3.out.same hb)
  have HB4 := Lib.hid (HB3.out.trans (hb.below _))
  clear hb

  obtain ⟨i0, hi0, hz0, hz1, hz2⟩ := info_parts info_i
  have HZZ := Lib.hid (And.intro hi0 (And.intro hz0 (And.intro hz1 hz2)))
  have ha5 : Below w4.heap.size w4 (w4.alloc (.cells #[.int .i64 ids.length] 3)) := (Below.refl _ _).alloc (Nat.le_refl _) _
  have HB5 := Lib.hid (HB4.out.trans (ha5.mono HB4.out.size))
  have HO5 := Lib.hid (show OwnI (w4.alloc (.cells #[.int .i64 ids.length] 3)) w4.heap.size 3 .i64 (.slice (some ⟨w4.heap.size, 0, none⟩) 1 1) [(ids.length : Int)] from OwnI.lit w4 .i64 [(ids.length : Int)] 3 (Nat.le_of_ble_eq_true rfl))
  have HBX5 := Lib.hid (HBX4.out.next ha5)
  have HBY5 := Lib.hid (HBY4.out.next ha5)
  have HBS5 := Lib.hid (HBS4.out.next ha5)
  have HBN5 := Lib.hid (HBN4.out.next ha5)
  have d0 : (w4.alloc (.cells #[.int .i64 ids.length] 3)).cell? ⟨w.heap.size, 0, none⟩ = some (.slice o1 s.sh.length cap1) := HBS5.out.cell 0 rfl
  have hsl := HSH.out.1
  have hcf0 := HBX5.out.free 0
  have hlt4 := HBY5.out.lt
  have hlt40 := HBY4.out.lt
  have hN4 := HBN4.out.lt
  have hm1 : [(ids.length : Int)].length + s.sh.length ≤ maxLen := by unfold maxLen; rw [List.length_singleton]; omega
  have hm2 : ([(ids.length : Int)].length + s.sh.length) * 8 ≤ 140737488355328 := by rw [List.length_singleton]; omega
  have hm3 : w4.heap.size ≤ (w4.alloc (.cells #[.int .i64 ids.length] 3)).heap.size := by simp
  go_wp2_with (at_builtin; refine stopHere ?_)
  refine goOn ?_
  refine wpList_append_rd rfl _ _ 32 rfl w4.heap.size 3 .i64 i0 8 Try.underlying32 hi0 hz0 hz1 hz2 _ _ rfl HO5.out _ s.sh rfl (HR.out.below HB5.out (Nat.le_refl _)).sh hm1 hm2 hm3 ?_
  intro v6 w6 hown6 hgrow6 hat6
  obtain ⟨xs, hxs⟩ : ∃ xs, xs = [(ids.length : Int)] ++ s.sh := ⟨_, rfl⟩
  have hxl : xs.length = s.sh.length + 1 := by rw [hxs]; simp
  rw [← hxs] at hown6
  obtain ⟨o6, cap6, rfl⟩ := own_slice hown6
  have hX4 : w.heap.size + 1 < w4.heap.size := by have := HBX5.out.lt; have := hlt40; omega
  have hY4 : w.heap.size + 2 < w4.heap.size := hlt40
  have hb6 := below_grown HO5.out hgrow6 (by simp)
  have hsz6 := hgrow6.size
  have hsz6' : w4.heap.size + 1 ≤ w6.heap.size := by have := hsz6; simp at this; omega
  have hb7 : Below w.heap.size w6 (w6.setCell ⟨w.heap.size + 1, 0, none⟩ (.slice o6 xs.length cap6)) := (Below.refl _ _).setCell (p := ⟨w.heap.size + 1, 0, none⟩) (Nat.le_succ _) _
  have HB7 := Lib.hid ((HB5.out.trans (hb6.mono HB4.out.size)).trans hb7)
  have HBX6 := Lib.hid (HBX5.out.below hb6 hX4)
  have HBX7 := Lib.hid (HBX6.out.set 0 (.slice o6 xs.length cap6))
  have HBY7 := Lib.hid ((HBY5.out.below hb6 hY4).other (p := ⟨w.heap.size + 1, 0, none⟩) (by simp) (.slice o6 xs.length cap6))
  have HBS7 := Lib.hid ((HBS5.out.below hb6 (by omega)).other (p := ⟨w.heap.size + 1, 0, none⟩) (by simp) (.slice o6 xs.length cap6))
  have HBN7 := Lib.hid ((HBN5.out.below hb6 hN4).other (p := ⟨w.heap.size + 1, 0, none⟩) (by have := HSZ.out; simp; omega) (.slice o6 xs.length cap6))
  have HO7 := Lib.hid (own_setLt (S := w.heap.size + 1) (j := 0) hown6 hX4 (.slice o6 xs.length cap6))
  have x0 : w6.cell? ⟨w.heap.size + 1, 0, none⟩ = some (.slice none 0 0) := HBX6.out.cell 0 rfl
  have fx0 := HBX6.out.free 0
  have HXS := Lib.hid hxs
  have HXL := Lib.hid hxl
  clear hxl hown6 hat6 hgrow6 hm1 hm2 hm3 hi0 hz0 hz1 hz2 hxs hb6 hb7 HBX6 HBX5 HBY5 HBS5 HBN5 HO5 hcf0 d0 hlt4
  go_upto_region 7 with (fail)
  have hsz7 : w4.heap.size ≤ (w6.setCell ⟨w.heap.size + 1, 0, none⟩ (.slice o6 xs.length cap6)).heap.size := by simp; omega
  clear x0 fx0
  generalize w6.setCell ⟨w.heap.size + 1, 0, none⟩ (.slice o6 xs.length cap6) = w7 at HB7 HBX7 HBY7 HBS7 HBN7 HO7 hsz7 ⊢
  have d3 := HBS7.out.cell 3 rfl
  by_cases hy : 0 < s.y.length
  · have e3 : decide ((0 : Int) < s.y.length) = true := decide_eq_true (by omega)
    have d0 := HBS7.out.cell 0 rfl
    have d1 := HBS7.out.cell 1 rfl
    have d2 := HBS7.out.cell 2 rfl
    have cN := HBN7.out.cell 0 rfl
    go_wp2_with fail
    refine (dataEach_any _ _ _ _ s n _ (HR.out.below HB7.out (Nat.le_refl _)) hn1.1 HL.out).mono ?_
    rintro e w8 ⟨rfl, hb8⟩
    obtain ⟨k, hk⟩ : ∃ k : Nat, (k : Int) = (s.y.length : Int) / n := ⟨((s.y.length : Int) / n).toNat, Int.toNat_of_nonneg (Int.ediv_nonneg (by omega) (by omega))⟩
    rw [← hk]
    have HK := Lib.hid hk
    have ha8 : Below w7.heap.size w7 (w8.alloc (.cells #[.int .i64 ids.length, .int .i64 k] 3)) := hb8.alloc hb8.size _
    have hsz8 := hb8.size
    have hO8 := own_below HO7.out hb8 (Nat.le_refl _)
    have hO9 := own_below HO7.out ha8 (Nat.le_refl _)
    have hP9 : OwnI (w8.alloc (.cells #[.int .i64 ids.length, .int .i64 k] 3)) w4.heap.size 3 .i64 (.slice (some ⟨w8.heap.size, 0, none⟩) 2 2) [(ids.length : Int), (k : Int)] := own_mono (OwnI.lit w8 .i64 [(ids.length : Int), (k : Int)] 3 (Nat.le_of_ble_eq_true rfl)) (by omega)
    have HSEP := Lib.hid (show Sep (.slice o6 xs.length cap6) (.slice (some ⟨w8.heap.size, 0, none⟩) 2 2) from fun g h1 h2 => by cases h2; exact absurd (hO8.lt _ h1).2 (Nat.lt_irrefl _))
    have HBX9 := Lib.hid ((HBX7.out.next ha8).other (p := ⟨w.heap.size + 2, 0, none⟩) (by simp) (.slice (some ⟨w8.heap.size, 0, none⟩) 2 2))
    have hBY8 := HBY7.out.next ha8
    have HBY9 := Lib.hid (hBY8.set 0 (.slice (some ⟨w8.heap.size, 0, none⟩) 2 2))
    have HBS9 := Lib.hid ((HBS7.out.next ha8).other (p := ⟨w.heap.size + 2, 0, none⟩) (by simp) (.slice (some ⟨w8.heap.size, 0, none⟩) 2 2))
    have HO9 := Lib.hid (own_setLt (S := w.heap.size + 2) (j := 0) hO9 hY4 (.slice (some ⟨w8.heap.size, 0, none⟩) 2 2))
    have HP9 := Lib.hid (own_setLt (S := w.heap.size + 2) (j := 0) hP9 hY4 (.slice (some ⟨w8.heap.size, 0, none⟩) 2 2))
    have HB9 := Lib.hid ((HB7.out.trans (ha8.mono HB7.out.size)).setCell (p := ⟨w.heap.size + 2, 0, none⟩) (Nat.le_add_right _ _) (.slice (some ⟨w8.heap.size, 0, none⟩) 2 2))
    have y0 := hBY8.cell 0 rfl
    have fy0 := hBY8.free 0
    have hs9 : w4.heap.size ≤ ((w8.alloc (.cells #[.int .i64 ids.length, .int .i64 k] 3)).setCell ⟨w.heap.size + 2, 0, none⟩ (.slice (some ⟨w8.heap.size, 0, none⟩) 2 2)).heap.size := by simp; omega
    clear hb8 hk ha8 hO8 hO9 hP9 hBY8 d0 d1 d2 d3 cN HBX7 HBY7 HBS7 HBN7 HO7 HB7
    go_upto_region 9 with (fail)
    clear y0 fy0
    generalize (w8.alloc (.cells #[.int .i64 ids.length, .int .i64 k] 3)).setCell ⟨w.heap.size + 2, 0, none⟩ (.slice (some ⟨w8.heap.size, 0, none⟩) 2 2) = w9 at HBX9 HBY9 HBS9 HO9 HP9 HB9 hs9 ⊢
    have xx : w9.cell? ⟨w.heap.size + 1, 0, none⟩ = some (.slice o6 xs.length cap6) := HBX9.out.cell 0 rfl
    go_wp2_with fail
    generalize some (Addr.mk w8.heap.size 0 none) = oy at HBY9 HP9 HSEP
    refine (shapeGood_any _ xs _ (Rd.of_own HO9.out) (by have := HXL.out; omega)).mono ?_
    rintro e w10 ⟨rfl, hb⟩
    have HBX10 := Lib.hid (HBX9.out.same hb)
    have HBY10 := Lib.hid (HBY9.out.same hb)
    have HBS10 := Lib.hid (HBS9.out.same hb)
    have HO10 := Lib.hid (own_same HO9.out hb)
    have HP10 := Lib.hid (own_same HP9.out hb)
    have HB10 := Lib.hid (HB9.out.trans (hb.below _))
    have hs10 : w4.heap.size ≤ w10.heap.size := Nat.le_trans hs9 (hb.below 0).size
    clear hb HBX9 HBY9 HBS9 HO9 HP9 HB9
    by_cases hgx : shapeB xs = true
    · rw [hgx]
      have xx : w10.cell? ⟨w.heap.size + 2, 0, none⟩ = some (.slice oy 2 2) := HBY10.out.cell 0 rfl
      go_wp2_with fail
      refine (shapeGood_any _ [(ids.length : Int), (k : Int)] _ (Rd.of_own HP10.out) (by simp)).mono ?_
      rintro e w11 ⟨rfl, hb⟩
      clear xx
      have HBX11 := Lib.hid (HBX10.out.same hb)
      have HBY11 := Lib.hid (HBY10.out.same hb)
      have HBS11 := Lib.hid (HBS10.out.same hb)
      have HO11 := Lib.hid (own_same HO10.out hb)
      have HP11 := Lib.hid (own_same HP10.out hb)
      have HB11 := Lib.hid (HB10.out.trans (hb.below _))
      have hs11 : w4.heap.size ≤ w11.heap.size := Nat.le_trans hs10 (hb.below 0).size
      clear hb HBX10 HBY10 HBS10 HO10 HP10 HB10
      by_cases hgy : shapeB [(ids.length : Int), (k : Int)] = true
      · rw [hgy]
        have d0 := HBS11.out.cell 0 rfl
        have d1 := HBS11.out.cell 1 rfl
        have d2 := HBS11.out.cell 2 rfl
        have d3 := HBS11.out.cell 3 rfl
        have hsz0 : 0 ≤ prodL s.sh := by have := (prodL_bd s.sh HSH.out.2.1).1; omega
        obtain ⟨size, hsize⟩ : ∃ size : Nat, (size : Int) = prodL s.sh := ⟨(prodL s.sh).toNat, Int.toNat_of_nonneg hsz0⟩
        have HSIZE := Lib.hid hsize
        have HMN := Lib.hid (show ((k : Nat) : Int) = (s.y.length : Int) / countS s from by rw [← HN.out]; exact HK.out)
        clear hsize
        go_wp2_with fail
        refine (examples_any _ _ _ _ s oi ids.length ci size k _ (HR.out.below HB11.out (Nat.le_refl _)) HSH.out.2.1 HSH.out.1 HL.out (by rw [← HN.out]; exact hn1.1) HSIZE.out HMN.out).mono ?_
        rintro e w12 ⟨bI, bS, bZ, bM, rfl, hex, hb⟩
        have HEX := Lib.hid hex
        have HBX12 := Lib.hid (HBX11.out.next hb)
        have HBY12 := Lib.hid (HBY11.out.next hb)
        have HBS12 := Lib.hid (HBS11.out.next hb)
        have HO12 := Lib.hid (own_below HO11.out hb (Nat.le_refl _))
        have HP12 := Lib.hid (own_below HP11.out hb (Nat.le_refl _))
        have HB12 := Lib.hid (HB11.out.trans (hb.mono HB11.out.size))
        have hs12 : w4.heap.size ≤ w12.heap.size := Nat.le_trans hs11 hb.size
        have hs12' := hb.size
        clear hex hb HBX11 HBY11 HBS11 HO11 HP11 HB11 d0 d1 d2 d3
        go_wp2_with fail
        have hlX : w.heap.size + 1 < w12.heap.size := HBX12.out.lt
        have hlY : w.heap.size + 2 < w12.heap.size := HBY12.out.lt
        obtain ⟨cnt, hcnt⟩ : ∃ cnt : Nat, (cnt : Int) = n := ⟨n.toNat, Int.toNat_of_nonneg (by omega)⟩
        have hidn := HID.out
        have hge := HEX.out.g
        have hw11 : w.heap.size + 2 < w11.heap.size := by omega
        have HM6A := Lib.hid (show k ≤ 65536 from by have hq := ((goodSet_parts HG.out).2.2.2.2.2.2.2.2.2 (fun h0 => by have := ((goodSet_parts HG.out).2.2.2.2.2.2.2.2.1 h0).2.1; omega)).2.2; have := HMN.out; omega)
        have HQ5A := Lib.hid (show ∀ i, i < ids.length → 0 ≤ nth ids i ∧ nth ids i < cnt from by
          intro i hi
          have hx : ∀ k ∈ ids, (decide (k < 0) || decide (n ≤ k)) = false := fun k hk => by
            have := List.any_eq_false.1 hidn k hk
            simpa using this
          have := hx _ (nth_mem ids i hi)
          simp only [Bool.or_eq_false_iff, decide_eq_false_iff_not] at this
          omega)
        have HNXA := Lib.hid (show cnt * size ≤ s.x.length from by
          have hq := (goodSet_parts HG.out).2.2.2.2.2.1
          rw [← HN.out, ← hcnt, ← HSIZE.out, ← Int.natCast_mul] at hq
          omega)
        have HNYA := Lib.hid (show cnt * k ≤ s.y.length from by
          have hq := Int.mul_ediv_self_le (x := (s.y.length : Int)) (k := n) (by omega); rw [← HK.out, ← hcnt, ← Int.natCast_mul] at hq; omega)
        have HLXA := Lib.hid (show ∀ i, i < ids.length → (nth ids i).toNat * size + size ≤ s.x.length ∧ (nth ids i).toNat * k + k ≤ s.y.length from fun i hi => by
          have hq := HQ5A.out i hi
          have hq1 : (nth ids i).toNat + 1 ≤ cnt := by omega
          have h1 := Nat.mul_le_mul_right size hq1
          have h2 := Nat.mul_le_mul_right k hq1
          rw [Nat.add_mul, Nat.one_mul] at h1 h2
          have := HNXA.out
          have := HNYA.out
          exact ⟨by omega, by omega⟩)
        refine (wpIn_wide (n := 9)).1 ?_
        refine wpIn_rangeFunc_ownF rfl (by omega) (gf := 67) (lb := #[.pointer (some ⟨bI, 0, none⟩), .pointer (some ⟨bS, 0, none⟩), .pointer (some ⟨bZ, 0, none⟩), .pointer (some ⟨bM, 0, none⟩)]) rfl trivial (enters_of Try.func67 (by kernel_rfl) rfl)
          (examples1_stops 8 w12.heap.size (w.heap.size + 1) (w.heap.size + 2) bI bS bZ bM ids oi ci _ _ o2 o4 s.x.length s.y.length cap2 cap4 size k cnt w12 HEX.out.hI HEX.out.hS HEX.out.hZ HEX.out.hM ?h1A ?h2A ?h3A ?h4A ?h5A ?h6A ?h7A ?h8A ?h9A ?h10A ?h11A ?h12A ?h13A ?h14A (Nat.le_refl _))
          (fun h k => h.trans k) ?hkbA (Below.refl _ _) (fun _ => rfl)
          (fun pre W => BxAt w12.heap.size (w.heap.size + 1) (w.heap.size + 2) w12 (.slice o6 xs.length cap6) (.slice oy 2 2) (pre.flatMap fun i => (s.x.drop ((nth ids i.1).toNat * size)).take size) (pre.flatMap fun i => (s.y.drop ((nth ids i.1).toNat * k)).take k) W)
          (fun _ _ _ => False)
          (bx_own _ _ _ _ _ _ _ _ (Nat.le_refl _))
          (fun _ _ _ _ _ h _ _ => h)
          ?h0A ?a1A ?assignA ?bodyA ?doneA ?stopA
        case h1A => exact ⟨HEX.out.hI.lt, HEX.out.hS.lt, cell_lt HEX.out.hZ, cell_lt HEX.out.hM⟩
        case h2A => exact ⟨by omega, by omega, by omega, by omega⟩
        case h3A => exact ⟨by omega, by omega, by omega, by omega⟩
        case h4A =>
          intro i hi
          obtain ⟨bb, off, he, hc⟩ := HI.out.cell i hi
          have hlt := cell_lt hc
          exact ⟨bb, off, he, (HB12.out.cell (p := ⟨bb, off + i, none⟩) hlt).trans hc, by have := HB12.out.size; omega, by omega, by omega⟩
        case h5A => exact HQ5A.out
        case h6A => have := HSIZE.out; have := HSH.out.2.2; omega
        case h7A => exact HM6A.out
        case h8A => omega
        case h9A => exact HNXA.out
        case h10A => exact HNYA.out
        case h11A => exact (HCB.out _ _ _ rfl).1
        case h12A => exact (HCD.out _ _ _ rfl).1
        case h13A => omega
        case h14A => exact ⟨(HCB.out _ _ _ rfl).2, (HCD.out _ _ _ rfl).2⟩
        case hkbA =>
          intro W l o o' hl ho h1 h2
          have hb := belowK_b (n₀ := w12.heap.size) (w := w12) (Nat.le_refl _) W l o o' hl ho h1 h2
          exact ⟨hb.size, fun k hk _ _ => hb.block k hk, hb.os, hb.tape, hb.output⟩
        case h0A => exact ⟨.slice none 0 0, .slice none 0 0, HBX12.out, HBY12.out, World.ownsRow_nil _ _ _ _, World.ownsRow_nil _ _ _ _, (fun g h1 h2 => by cases h1), KeepX.refl _ _ _ _⟩
        case assignA =>
          intro l x W K hK
          gi_wp2
          exact hK
        case stopA =>
          rintro D c pre W _ _ h _
          exact h.elim
        case bodyA =>
          rintro l pre x W hI hpl
          obtain ⟨xd, yd, q1, q2, q3, q4, q5, q6⟩ := hI
          have HM0 := Lib.hid (BxMid.start q1 q2 q3 q4 q5 q6)
          clear q1 q2 q3 q4 q5 q6
          refine wpIn_block ?_
          refine wpIn_region_all (by kernel_rfl) (by kernel_rfl) (fun h => by obtain ⟨a, w, h⟩ := h; exact h) ?_
          have hxl := HLXA.out x.1 x.2
          refine reg0 (fuel := 0) (xd := xd) (yd := yd) (v1 := undef) (v2 := undef) (ul := (s.x.drop ((nth ids x.1).toNat * size)).take size) (vl := (s.y.drop ((nth ids x.1).toNat * k)).take k) ⟨hlX, hlY, by omega, Nat.le_refl _, ?_, ?_, ?_, ?_⟩ (Lib.hid rfl) (fun _ _ _ _ h => h) ?_ rfl rfl rfl rfl HM0
          · intro W' hk
            exact rd_part (rd_keepx HR.out.x HB12.out hk (by omega) (by omega) (by omega)) _ _ size (by simp [Nat.add_mul]) hxl.1 (HCB.out _ _ _ rfl).1
          · intro W' hk
            exact rd_part (rd_keepx HR.out.y HB12.out hk (by omega) (by omega) (by omega)) _ _ k (by simp [Nat.add_mul]) hxl.2 (HCD.out _ _ _ rfl).1
          · exact flat_take_len pre s.x _ size _ hpl (by omega) (by have := HSIZE.out; have := HSH.out.2.2; omega) _
          · exact flat_take_len pre s.y _ k _ hpl (by omega) HM6A.out _
          · intro a' W' v1 v2 hm
            refine ⟨hm.others, hm.near, v1, v2, hm.x, hm.y, ?_, ?_, hm.sep, hm.far⟩
            · rw [List.flatMap_append, List.flatMap_singleton]; exact hm.ox
            · rw [List.flatMap_append, List.flatMap_singleton]; exact hm.oy
        case doneA =>
          rintro D ys W hD rfl hI hK
          obtain ⟨xd, yd, q1, q2, q3, q4, q5, q6⟩ := hI
          have hlS : w.heap.size < w12.heap.size := by omega
          have HDD := Lib.hid hD
          have HKD := Lib.hid hK
          have HBS13 := Lib.hid (q6.box HBS12.out hlS (by omega) (by omega))
          have HO13 := Lib.hid (own_keepx HO12.out q6 (Nat.le_refl _) hX4 hY4)
          have HP13 := Lib.hid (own_keepx HP12.out q6 (Nat.le_refl _) hX4 hY4)
          have HRL := Lib.hid (rd_keepx HR.out.lb HB12.out q6 (by omega) (by omega) (by omega))
          have HRI13 := Lib.hid (rd_keepx HI.out HB12.out q6 (by omega) (by omega) (by omega))
          rw [finRange_flat ids fun k => (s.x.drop (k.toNat * size)).take size] at q3
          rw [finRange_flat ids fun z => (s.y.drop (z.toNat * k)).take k] at q4
          have HBX13 := Lib.hid q1
          have HBY13 := Lib.hid q2
          have HX13 := Lib.hid q3
          have HY13 := Lib.hid q4
          have HSX13 := Lib.hid q5
          have HB13 := Lib.hid (show Below w.heap.size w W from HB12.out.trans ⟨q6.rest.1, q6.rest.2.1, q6.rest.2.2, q6.size, fun k hk => q6.block k (by omega) (by omega) (by omega)⟩)
          clear q1 q2 q3 q4 q5 q6 hD hK HBX12 HBY12 HBS12 HO12 HP12
          obtain ⟨XL, hXL⟩ : ∃ XL, XL = batchX s ids := ⟨_, rfl⟩
          obtain ⟨YL, hYL⟩ : ∃ YL, YL = batchY s ids := ⟨_, rfl⟩
          have hz : (prodL s.sh).toNat = size := by have := HSIZE.out; omega
          have hzy : ((s.y.length : Int) / countS s).toNat = k := by have := HMN.out; omega
          have HX13 := Lib.hid (show OwnI W w12.heap.size 2 .i64 xd XL by rw [hXL, batchX, hz]; exact HX13.out)
          have HY13 := Lib.hid (show OwnI W w12.heap.size 2 .i64 yd YL by rw [hYL, batchY, hzy]; exact HY13.out)
          have HXL13 := Lib.hid hXL
          have HYL13 := Lib.hid hYL
          clear hXL hYL hz hzy
          obtain ⟨axd, cxd, rfl⟩ := own_slice HX13.out
          obtain ⟨ayd, cyd, rfl⟩ := own_slice HY13.out
      
          have hl0 : s.lb.length = 0 := by
            rcases Nat.eq_zero_or_pos s.lb.length with h | h
            · exact h
            · have := ((goodSet_parts HG.out).2.2.2.2.2.2.2.2.1 h).2.1; omega
          have e4 : decide ((0 : Int) < s.lb.length) = false := decide_eq_false (by omega)
          have d2 := HBS13.out.cell 2 rfl
          go_wp2_with fail
          clear d2
          have HKDv := HKD
          have HBXv := HBX13
          have HBYv := HBY13
          have HOv := HO13
          have HPv := HP13
          have HXv := HX13
          have HYv := HY13
          have HBv := HB13
          have HSL := Lib.hid (show OwnI W W.heap.size 3 .i64 (.slice none 0 0) [] from World.ownsRow_nil _ _ _ _)
          have hDv : w12.heap.size ≤ D := HDD.out
          have hdX : w.heap.size + 1 ≠ D := by omega
          have hdY : w.heap.size + 2 ≠ D := by omega
          obtain ⟨wq, hwq⟩ : ∃ wq, wq = finW W (w.heap.size + 1) (w.heap.size + 2) D (.slice o6 xs.length cap6) (.slice axd XL.length cxd) (.slice oy 2 2) (.slice ayd YL.length cyd) := ⟨_, rfl⟩
          have HQX := Lib.hid (show Box wq (w.heap.size + 1) 41 #[.slice o6 xs.length cap6, .slice axd XL.length cxd] by rw [hwq]; exact (fin_boxes HBXv.out HBYv.out (by omega) hdX hdY).1)
          have HQY := Lib.hid (show Box wq (w.heap.size + 2) 41 #[(.slice oy 2 2), .slice ayd YL.length cyd] by rw [hwq]; exact (fin_boxes HBXv.out HBYv.out (by omega) hdX hdY).2)
          have HQ1 := Lib.hid (show OwnI wq w4.heap.size 3 .i64 (.slice o6 xs.length cap6) xs by rw [hwq]; exact fin_own HOv.out HKDv.out hX4 hY4 hdX hdY _ _ _ _)
          have HQ2 := Lib.hid (show OwnI wq w4.heap.size 3 .i64 (.slice oy 2 2) [(ids.length : Int), (k : Int)] by rw [hwq]; exact fin_own HPv.out HKDv.out hX4 hY4 hdX hdY _ _ _ _)
          have HQ3 := Lib.hid (show OwnI wq w12.heap.size 2 .i64 (.slice axd XL.length cxd) XL by rw [hwq]; exact fin_own HXv.out HKDv.out hlX hlY hdX hdY _ _ _ _)
          have HQ4 := Lib.hid (show OwnI wq w12.heap.size 2 .i64 (.slice ayd YL.length cyd) YL by rw [hwq]; exact fin_own HYv.out HKDv.out hlX hlY hdX hdY _ _ _ _)
          have hsW : w12.heap.size ≤ W.heap.size := by have := (Array.getElem?_eq_some_iff.1 HKD.out).1; omega
          have HQ5 := Lib.hid (show OwnI wq W.heap.size 3 .i64 (.slice none 0 0) [] by rw [hwq]; exact fin_own HSL.out HKDv.out (by omega) (by omega) hdX hdY _ _ _ _)
          have HQB := Lib.hid (show Below w.heap.size w wq by rw [hwq]; exact fin_below HBv.out (by omega) (by omega) (by omega))
          have HWQ := Lib.hid hwq
          clear hwq
          have x0 := HBXv.out.cell 0 rfl
          have x1 := HBXv.out.cell 1 rfl
          have y0 := HBYv.out.cell 0 rfl
          have y1 := HBYv.out.cell 1 rfl
          have fx0 := HBXv.out.free 0
          have fx1 := HBXv.out.free 1
          have fy0 := HBYv.out.free 0
          have fy1 := HBYv.out.free 1
          go_region
          all_goals go_wp2_with fail
          clear x0 x1 y0 y1 fx0 fx1 fy0 fy1
          have x0 := HQX.out.cell 0 rfl
          have x1 := HQX.out.cell 1 rfl
          have y0 := HQY.out.cell 0 rfl
          have y1 := HQY.out.cell 1 rfl
          have hbud : budB s ids = false := by
            have hx := HXS.out
            have hN := HN.out
            have hYY : yShape s ids = [(ids.length : Int), (k : Int)] := by rw [yShape, if_pos hy, ← hN, ← HK.out]
            rw [budB, hYY, show (ids.length : Int) :: s.sh = xs from hx.symm, hgx, hgy]; rfl
          refine ⟨by simp, .inl ⟨_, wq, rfl, ?_, ?_⟩⟩
          · rw [HWQ.out]
            exact run_takeDeferred (fin_mark HKDv.out hdX hdY _ _ _ _)
          · refine ⟨.tuple #[.agg #[.slice o6 xs.length cap6, .slice axd XL.length cxd], (.slice none 0 0), .agg #[(.slice oy 2 2), .slice ayd YL.length cyd], .int .i64 0], by simp [results, Try.results15, go_sem, x0, x1, y0, y1], .inr ⟨hbud, _, rfl, ⟨_, _, _, _, _, rfl, ?_, ?_, ?_, ?_, ?_, ?_, ?_, ?_, ?_⟩, HQB.out⟩⟩
            · have hx := HXS.out
              rw [show (ids.length : Int) :: s.sh = xs from hx.symm]
              exact own_mono HQ1.out (by omega)
            · rw [← HXL13.out]; exact own_mono HQ3.out (by omega)
            · rw [batchL, if_neg (by omega)]; exact own_mono HQ5.out (by omega)
            · rw [show yShape s ids = [(ids.length : Int), (k : Int)] from by rw [yShape, if_pos hy, ← HN.out, ← HK.out]]; exact own_mono HQ2.out (by omega)
            · rw [← HYL13.out]; exact own_mono HQ4.out (by omega)
            · exact fun g h1 h2 => by cases h2
            · exact HSEP.out
            · exact fun g h1 h2 => by cases h1
            · exact HSX13.out
      · have hgy := Bool.eq_false_iff.2 hgy
        rw [hgy]
        have hbud : budB s ids = true := by
          have hx := HXS.out
          have hN := HN.out
          have hYY : yShape s ids = [(ids.length : Int), (k : Int)] := by rw [yShape, if_pos hy, ← hN, ← HK.out]
          rw [budB, hYY, show (ids.length : Int) :: s.sh = xs from hx.symm, hgx, hgy]; rfl
      
        have x0 := HBX11.out.cell 0 rfl
        have x1 := HBX11.out.cell 1 rfl
        have y0 := HBY11.out.cell 0 rfl
        have y1 := HBY11.out.cell 1 rfl
        have fx0 := HBX11.out.free 0
        have fx1 := HBX11.out.free 1
        have fy0 := HBY11.out.free 0
        have fy1 := HBY11.out.free 1
        go_wp2_with fail
        have HTT := Lib.hid (tens_two (a := .slice none 0 0) (b := .slice none 0 0) (c := .slice none 0 0) (d := .slice none 0 0) HBX11.out HBY11.out (by omega))
        have HBF := Lib.hid (show Below w.heap.size w ((((w11.setCell ⟨w.heap.size + 1, 0, none⟩ (.slice none 0 0)).setCell ⟨w.heap.size + 1, 1, none⟩ (.slice none 0 0)).setCell ⟨w.heap.size + 2, 0, none⟩ (.slice none 0 0)).setCell ⟨w.heap.size + 2, 1, none⟩ (.slice none 0 0)) from
          ((((HB11.out.setCell (p := ⟨w.heap.size + 1, 0, none⟩) (Nat.le_succ _) _).setCell (p := ⟨w.heap.size + 1, 1, none⟩) (Nat.le_succ _) _).setCell (p := ⟨w.heap.size + 2, 0, none⟩) (Nat.le_add_right _ _) _).setCell (p := ⟨w.heap.size + 2, 1, none⟩) (Nat.le_add_right _ _) _))
        clear x0 x1 y0 y1 fx0 fx1 fy0 fy1
        generalize ((((w11.setCell ⟨w.heap.size + 1, 0, none⟩ (.slice none 0 0)).setCell ⟨w.heap.size + 1, 1, none⟩ (.slice none 0 0)).setCell ⟨w.heap.size + 2, 0, none⟩ (.slice none 0 0)).setCell ⟨w.heap.size + 2, 1, none⟩ (.slice none 0 0)) = wz at HTT HBF ⊢
        have x0 : wz.cell? ⟨w.heap.size + 1, 0, none⟩ = some (.slice none 0 0) := HTT.out.1.cell 0 rfl
        have x1 : wz.cell? ⟨w.heap.size + 1, 1, none⟩ = some (.slice none 0 0) := HTT.out.1.cell 1 rfl
        have y0 : wz.cell? ⟨w.heap.size + 2, 0, none⟩ = some (.slice none 0 0) := HTT.out.2.cell 0 rfl
        have y1 : wz.cell? ⟨w.heap.size + 2, 1, none⟩ = some (.slice none 0 0) := HTT.out.2.cell 1 rfl
        exact bodyPostM_ret (v := .tuple #[.agg #[.slice none 0 0, .slice none 0 0], .slice none 0 0, .agg #[.slice none 0 0, .slice none 0 0], .int .i64 5]) (by simp [results, Try.results15, go_sem, x0, x1, y0, y1]) rfl (.inl ⟨hbud, rfl, HBF.out⟩)
    · have hgx := Bool.eq_false_iff.2 hgx
      rw [hgx]
      have hbud : budB s ids = true := by
        have hx := HXS.out
        have hN := HN.out
        have hYY : yShape s ids = [(ids.length : Int), (k : Int)] := by rw [yShape, if_pos hy, ← hN, ← HK.out]
        rw [budB, hYY, show (ids.length : Int) :: s.sh = xs from hx.symm, hgx]; rfl
    
      have x0 := HBX10.out.cell 0 rfl
      have x1 := HBX10.out.cell 1 rfl
      have y0 := HBY10.out.cell 0 rfl
      have y1 := HBY10.out.cell 1 rfl
      have fx0 := HBX10.out.free 0
      have fx1 := HBX10.out.free 1
      have fy0 := HBY10.out.free 0
      have fy1 := HBY10.out.free 1
      go_wp2_with fail
      have HTT := Lib.hid (tens_two (a := .slice none 0 0) (b := .slice none 0 0) (c := .slice none 0 0) (d := .slice none 0 0) HBX10.out HBY10.out (by omega))
      have HBF := Lib.hid (show Below w.heap.size w ((((w10.setCell ⟨w.heap.size + 1, 0, none⟩ (.slice none 0 0)).setCell ⟨w.heap.size + 1, 1, none⟩ (.slice none 0 0)).setCell ⟨w.heap.size + 2, 0, none⟩ (.slice none 0 0)).setCell ⟨w.heap.size + 2, 1, none⟩ (.slice none 0 0)) from
        ((((HB10.out.setCell (p := ⟨w.heap.size + 1, 0, none⟩) (Nat.le_succ _) _).setCell (p := ⟨w.heap.size + 1, 1, none⟩) (Nat.le_succ _) _).setCell (p := ⟨w.heap.size + 2, 0, none⟩) (Nat.le_add_right _ _) _).setCell (p := ⟨w.heap.size + 2, 1, none⟩) (Nat.le_add_right _ _) _))
      clear x0 x1 y0 y1 fx0 fx1 fy0 fy1
      generalize ((((w10.setCell ⟨w.heap.size + 1, 0, none⟩ (.slice none 0 0)).setCell ⟨w.heap.size + 1, 1, none⟩ (.slice none 0 0)).setCell ⟨w.heap.size + 2, 0, none⟩ (.slice none 0 0)).setCell ⟨w.heap.size + 2, 1, none⟩ (.slice none 0 0)) = wz at HTT HBF ⊢
      have x0 : wz.cell? ⟨w.heap.size + 1, 0, none⟩ = some (.slice none 0 0) := HTT.out.1.cell 0 rfl
      have x1 : wz.cell? ⟨w.heap.size + 1, 1, none⟩ = some (.slice none 0 0) := HTT.out.1.cell 1 rfl
      have y0 : wz.cell? ⟨w.heap.size + 2, 0, none⟩ = some (.slice none 0 0) := HTT.out.2.cell 0 rfl
      have y1 : wz.cell? ⟨w.heap.size + 2, 1, none⟩ = some (.slice none 0 0) := HTT.out.2.cell 1 rfl
      exact bodyPostM_ret (v := .tuple #[.agg #[.slice none 0 0, .slice none 0 0], .slice none 0 0, .agg #[.slice none 0 0, .slice none 0 0], .int .i64 5]) (by simp [results, Try.results15, go_sem, x0, x1, y0, y1]) rfl (.inl ⟨hbud, rfl, HBF.out⟩)
  · have e3 : decide ((0 : Int) < s.y.length) = false := decide_eq_false (by omega)
    have xx := HBX7.out.cell 0 rfl
    go_wp2_with fail
    have hs9 : w4.heap.size ≤ w7.heap.size := hsz7
    have HP7 := Lib.hid (show OwnI w7 w4.heap.size 3 .i64 (.slice none 0 0) [] from World.ownsRow_nil w7 _ _ _)
    have HSEP := Lib.hid (show Sep (.slice o6 xs.length cap6) (.slice none 0 0) from fun g h1 h2 => by cases h2)
    clear HBN7
    obtain ⟨w9, rfl⟩ : ∃ w9, w9 = w7 := ⟨_, rfl⟩
    have HBX9 := HBX7
    have HBY9 := HBY7
    have HBS9 := HBS7
    have HO9 := HO7
    have HP9 := HP7
    have HB9 := HB7
    clear HBX7 HBY7 HBS7 HO7 HP7 HB7 d3 xx
    refine (shapeGood_any _ xs _ (Rd.of_own HO9.out) (by have := HXL.out; omega)).mono ?_
    rintro e w10 ⟨rfl, hb⟩
    have HBX10 := Lib.hid (HBX9.out.same hb)
    have HBY10 := Lib.hid (HBY9.out.same hb)
    have HBS10 := Lib.hid (HBS9.out.same hb)
    have HO10 := Lib.hid (own_same HO9.out hb)
    have HP10 := Lib.hid (own_same HP9.out hb)
    have HB10 := Lib.hid (HB9.out.trans (hb.below _))
    have hs10 : w4.heap.size ≤ w10.heap.size := Nat.le_trans hs9 (hb.below 0).size
    clear hb HBX9 HBY9 HBS9 HO9 HP9 HB9
    by_cases hgx : shapeB xs = true
    · rw [hgx]
      have xx : w10.cell? ⟨w.heap.size + 2, 0, none⟩ = some (.slice none 0 0) := HBY10.out.cell 0 rfl
      go_wp2_with fail
      refine (shapeGood_any _ [] _ (Rd.of_own HP10.out) (by simp)).mono ?_
      rintro e w11 ⟨rfl, hb⟩
      clear xx
      have HBX11 := Lib.hid (HBX10.out.same hb)
      have HBY11 := Lib.hid (HBY10.out.same hb)
      have HBS11 := Lib.hid (HBS10.out.same hb)
      have HO11 := Lib.hid (own_same HO10.out hb)
      have HP11 := Lib.hid (own_same HP10.out hb)
      have HB11 := Lib.hid (HB10.out.trans (hb.below _))
      have hs11 : w4.heap.size ≤ w11.heap.size := Nat.le_trans hs10 (hb.below 0).size
      clear hb HBX10 HBY10 HBS10 HO10 HP10 HB10
      by_cases hgy : shapeB [] = true
      · rw [hgy]
        have d0 := HBS11.out.cell 0 rfl
        have d1 := HBS11.out.cell 1 rfl
        have d2 := HBS11.out.cell 2 rfl
        have d3 := HBS11.out.cell 3 rfl
        have hsz0 : 0 ≤ prodL s.sh := by have := (prodL_bd s.sh HSH.out.2.1).1; omega
        obtain ⟨size, hsize⟩ : ∃ size : Nat, (size : Int) = prodL s.sh := ⟨(prodL s.sh).toNat, Int.toNat_of_nonneg hsz0⟩
        have HSIZE := Lib.hid hsize
        have HMN := Lib.hid (show ((0 : Nat) : Int) = (s.y.length : Int) / countS s from by rw [← HN.out]; rw [show s.y.length = 0 by omega]; simp)
        clear hsize
        go_wp2_with fail
        refine (examples_any _ _ _ _ s oi ids.length ci size 0 _ (HR.out.below HB11.out (Nat.le_refl _)) HSH.out.2.1 HSH.out.1 HL.out (by rw [← HN.out]; exact hn1.1) HSIZE.out HMN.out).mono ?_
        rintro e w12 ⟨bI, bS, bZ, bM, rfl, hex, hb⟩
        have HEX := Lib.hid hex
        have HBX12 := Lib.hid (HBX11.out.next hb)
        have HBY12 := Lib.hid (HBY11.out.next hb)
        have HBS12 := Lib.hid (HBS11.out.next hb)
        have HO12 := Lib.hid (own_below HO11.out hb (Nat.le_refl _))
        have HP12 := Lib.hid (own_below HP11.out hb (Nat.le_refl _))
        have HB12 := Lib.hid (HB11.out.trans (hb.mono HB11.out.size))
        have hs12 : w4.heap.size ≤ w12.heap.size := Nat.le_trans hs11 hb.size
        have hs12' := hb.size
        clear hex hb HBX11 HBY11 HBS11 HO11 HP11 HB11 d0 d1 d2 d3
        go_wp2_with fail
        have hlX : w.heap.size + 1 < w12.heap.size := HBX12.out.lt
        have hlY : w.heap.size + 2 < w12.heap.size := HBY12.out.lt
        obtain ⟨cnt, hcnt⟩ : ∃ cnt : Nat, (cnt : Int) = n := ⟨n.toNat, Int.toNat_of_nonneg (by omega)⟩
        have hidn := HID.out
        have hge := HEX.out.g
        have hw11 : w.heap.size + 2 < w11.heap.size := by omega
        have HM6B := Lib.hid (show 0 ≤ 65536 from by omega)
        have HQ5B := Lib.hid (show ∀ i, i < ids.length → 0 ≤ nth ids i ∧ nth ids i < cnt from by
          intro i hi
          have hx : ∀ k ∈ ids, (decide (k < 0) || decide (n ≤ k)) = false := fun k hk => by
            have := List.any_eq_false.1 hidn k hk
            simpa using this
          have := hx _ (nth_mem ids i hi)
          simp only [Bool.or_eq_false_iff, decide_eq_false_iff_not] at this
          omega)
        have HNXB := Lib.hid (show cnt * size ≤ s.x.length from by
          have hq := (goodSet_parts HG.out).2.2.2.2.2.1
          rw [← HN.out, ← hcnt, ← HSIZE.out, ← Int.natCast_mul] at hq
          omega)
        have HNYB := Lib.hid (show cnt * 0 ≤ s.y.length from by
          omega)
        have HLXB := Lib.hid (show ∀ i, i < ids.length → (nth ids i).toNat * size + size ≤ s.x.length ∧ (nth ids i).toNat * 0 + 0 ≤ s.y.length from fun i hi => by
          have hq := HQ5B.out i hi
          have hq1 : (nth ids i).toNat + 1 ≤ cnt := by omega
          have h1 := Nat.mul_le_mul_right size hq1
          have h2 := Nat.mul_le_mul_right 0 hq1
          rw [Nat.add_mul, Nat.one_mul] at h1 h2
          have := HNXB.out
          have := HNYB.out
          exact ⟨by omega, by omega⟩)
        refine (wpIn_wide (n := 9)).1 ?_
        refine wpIn_rangeFunc_ownF rfl (by omega) (gf := 67) (lb := #[.pointer (some ⟨bI, 0, none⟩), .pointer (some ⟨bS, 0, none⟩), .pointer (some ⟨bZ, 0, none⟩), .pointer (some ⟨bM, 0, none⟩)]) rfl trivial (enters_of Try.func67 (by kernel_rfl) rfl)
          (examples1_stops 8 w12.heap.size (w.heap.size + 1) (w.heap.size + 2) bI bS bZ bM ids oi ci _ _ o2 o4 s.x.length s.y.length cap2 cap4 size 0 cnt w12 HEX.out.hI HEX.out.hS HEX.out.hZ HEX.out.hM ?h1B ?h2B ?h3B ?h4B ?h5B ?h6B ?h7B ?h8B ?h9B ?h10B ?h11B ?h12B ?h13B ?h14B (Nat.le_refl _))
          (fun h k => h.trans k) ?hkbB (Below.refl _ _) (fun _ => rfl)
          (fun pre W => BxAt w12.heap.size (w.heap.size + 1) (w.heap.size + 2) w12 (.slice o6 xs.length cap6) (.slice none 0 0) (pre.flatMap fun i => (s.x.drop ((nth ids i.1).toNat * size)).take size) (pre.flatMap fun i => (s.y.drop ((nth ids i.1).toNat * 0)).take 0) W)
          (fun _ _ _ => False)
          (bx_own _ _ _ _ _ _ _ _ (Nat.le_refl _))
          (fun _ _ _ _ _ h _ _ => h)
          ?h0B ?a1B ?assignB ?bodyB ?doneB ?stopB
        case h1B => exact ⟨HEX.out.hI.lt, HEX.out.hS.lt, cell_lt HEX.out.hZ, cell_lt HEX.out.hM⟩
        case h2B => exact ⟨by omega, by omega, by omega, by omega⟩
        case h3B => exact ⟨by omega, by omega, by omega, by omega⟩
        case h4B =>
          intro i hi
          obtain ⟨bb, off, he, hc⟩ := HI.out.cell i hi
          have hlt := cell_lt hc
          exact ⟨bb, off, he, (HB12.out.cell (p := ⟨bb, off + i, none⟩) hlt).trans hc, by have := HB12.out.size; omega, by omega, by omega⟩
        case h5B => exact HQ5B.out
        case h6B => have := HSIZE.out; have := HSH.out.2.2; omega
        case h7B => exact HM6B.out
        case h8B => omega
        case h9B => exact HNXB.out
        case h10B => exact HNYB.out
        case h11B => exact (HCB.out _ _ _ rfl).1
        case h12B => exact (HCD.out _ _ _ rfl).1
        case h13B => omega
        case h14B => exact ⟨(HCB.out _ _ _ rfl).2, (HCD.out _ _ _ rfl).2⟩
        case hkbB =>
          intro W l o o' hl ho h1 h2
          have hb := belowK_b (n₀ := w12.heap.size) (w := w12) (Nat.le_refl _) W l o o' hl ho h1 h2
          exact ⟨hb.size, fun k hk _ _ => hb.block k hk, hb.os, hb.tape, hb.output⟩
        case h0B => exact ⟨.slice none 0 0, .slice none 0 0, HBX12.out, HBY12.out, World.ownsRow_nil _ _ _ _, World.ownsRow_nil _ _ _ _, (fun g h1 h2 => by cases h1), KeepX.refl _ _ _ _⟩
        case assignB =>
          intro l x W K hK
          gi_wp2
          exact hK
        case stopB =>
          rintro D c pre W _ _ h _
          exact h.elim
        case bodyB =>
          rintro l pre x W hI hpl
          obtain ⟨xd, yd, q1, q2, q3, q4, q5, q6⟩ := hI
          have HM0 := Lib.hid (BxMid.start q1 q2 q3 q4 q5 q6)
          clear q1 q2 q3 q4 q5 q6
          refine wpIn_block ?_
          refine wpIn_region_all (by kernel_rfl) (by kernel_rfl) (fun h => by obtain ⟨a, w, h⟩ := h; exact h) ?_
          have hxl := HLXB.out x.1 x.2
          refine reg0 (fuel := 0) (xd := xd) (yd := yd) (v1 := undef) (v2 := undef) (ul := (s.x.drop ((nth ids x.1).toNat * size)).take size) (vl := (s.y.drop ((nth ids x.1).toNat * 0)).take 0) ⟨hlX, hlY, by omega, Nat.le_refl _, ?_, ?_, ?_, ?_⟩ (Lib.hid rfl) (fun _ _ _ _ h => h) ?_ rfl rfl rfl rfl HM0
          · intro W' hk
            exact rd_part (rd_keepx HR.out.x HB12.out hk (by omega) (by omega) (by omega)) _ _ size (by simp [Nat.add_mul]) hxl.1 (HCB.out _ _ _ rfl).1
          · intro W' hk
            exact rd_part (rd_keepx HR.out.y HB12.out hk (by omega) (by omega) (by omega)) _ _ 0 (by simp [Nat.add_mul]) hxl.2 (HCD.out _ _ _ rfl).1
          · exact flat_take_len pre s.x _ size _ hpl (by omega) (by have := HSIZE.out; have := HSH.out.2.2; omega) _
          · exact flat_take_len pre s.y _ 0 _ hpl (by omega) HM6B.out _
          · intro a' W' v1 v2 hm
            refine ⟨hm.others, hm.near, v1, v2, hm.x, hm.y, ?_, ?_, hm.sep, hm.far⟩
            · rw [List.flatMap_append, List.flatMap_singleton]; exact hm.ox
            · rw [List.flatMap_append, List.flatMap_singleton]; exact hm.oy
        case doneB =>
          rintro D ys W hD rfl hI hK
          obtain ⟨xd, yd, q1, q2, q3, q4, q5, q6⟩ := hI
          have hlS : w.heap.size < w12.heap.size := by omega
          have HDD := Lib.hid hD
          have HKD := Lib.hid hK
          have HBS13 := Lib.hid (q6.box HBS12.out hlS (by omega) (by omega))
          have HO13 := Lib.hid (own_keepx HO12.out q6 (Nat.le_refl _) hX4 hY4)
          have HP13 := Lib.hid (own_keepx HP12.out q6 (Nat.le_refl _) hX4 hY4)
          have HRL := Lib.hid (rd_keepx HR.out.lb HB12.out q6 (by omega) (by omega) (by omega))
          have HRI13 := Lib.hid (rd_keepx HI.out HB12.out q6 (by omega) (by omega) (by omega))
          rw [finRange_flat ids fun k => (s.x.drop (k.toNat * size)).take size] at q3
          rw [finRange_flat ids fun z => (s.y.drop (z.toNat * 0)).take 0] at q4
          have HBX13 := Lib.hid q1
          have HBY13 := Lib.hid q2
          have HX13 := Lib.hid q3
          have HY13 := Lib.hid q4
          have HSX13 := Lib.hid q5
          have HB13 := Lib.hid (show Below w.heap.size w W from HB12.out.trans ⟨q6.rest.1, q6.rest.2.1, q6.rest.2.2, q6.size, fun k hk => q6.block k (by omega) (by omega) (by omega)⟩)
          clear q1 q2 q3 q4 q5 q6 hD hK HBX12 HBY12 HBS12 HO12 HP12
          obtain ⟨XL, hXL⟩ : ∃ XL, XL = batchX s ids := ⟨_, rfl⟩
          obtain ⟨YL, hYL⟩ : ∃ YL, YL = batchY s ids := ⟨_, rfl⟩
          have hz : (prodL s.sh).toNat = size := by have := HSIZE.out; omega
          have hzy : ((s.y.length : Int) / countS s).toNat = 0 := by have := HMN.out; omega
          have HX13 := Lib.hid (show OwnI W w12.heap.size 2 .i64 xd XL by rw [hXL, batchX, hz]; exact HX13.out)
          have HY13 := Lib.hid (show OwnI W w12.heap.size 2 .i64 yd YL by rw [hYL, batchY, hzy]; exact HY13.out)
          have HXL13 := Lib.hid hXL
          have HYL13 := Lib.hid hYL
          clear hXL hYL hz hzy
          obtain ⟨axd, cxd, rfl⟩ := own_slice HX13.out
          obtain ⟨ayd, cyd, rfl⟩ := own_slice HY13.out
      
          have hl0 : 0 < s.lb.length := by
            rcases Nat.eq_zero_or_pos s.lb.length with h | h
            · have := ((goodSet_parts HG.out).2.2.2.2.2.2.2.2.2 (by omega)).1; omega
            · exact h
          have hln : (s.lb.length : Int) = n := by rw [HN.out]; exact ((goodSet_parts HG.out).2.2.2.2.2.2.2.2.1 hl0).1
          have e4 : decide ((0 : Int) < s.lb.length) = true := decide_eq_true (by omega)
          have d2 := HBS13.out.cell 2 rfl
          have HLN := Lib.hid hln
          clear hln
          go_wp2_with fail
          clear d2
          go_loopw [5, 86] (fun v i wr => ∃ j : Nat, j ≤ ids.length ∧ i = .int .i64 j ∧ OwnI wr W.heap.size 3 .i64 v ((ids.take j).map fun q => nth s.lb q.toNat) ∧ Below W.heap.size W wr) (fun _ i _ => ids.length - (intOf i).toNat)
          case atStart => exact ⟨0, by omega, rfl, World.ownsRow_nil _ _ _ _, Below.refl _ _⟩
          case round =>
            obtain ⟨j, hj, rfl, hown, hbw⟩ := hrel
            have HSL := Lib.hid hown
            have HBW := Lib.hid hbw
            clear hown hbw
            by_cases hlt : j < ids.length
            · obtain ⟨bi, oii, rfl, hci⟩ := HRI13.out.cell j hlt
              have hci' := (HBW.out.cell (p := ⟨bi, oii + j, none⟩) (cell_lt hci)).trans hci
              have hqq := HQ5B.out j hlt
              obtain ⟨q, hq⟩ : ∃ q : Nat, (q : Int) = nth ids j := ⟨(nth ids j).toNat, by omega⟩
              have hln := HLN.out
              obtain ⟨bl, ol, rfl, hcl⟩ := HRL.out.cell q (by omega)
              have hcl' := (HBW.out.cell (p := ⟨bl, ol + q, none⟩) (cell_lt hcl)).trans hcl
              rw [← hq] at hci'
              have hql : q < s.lb.length := by omega
              have HQQ := Lib.hid hq
              obtain ⟨y1, hy1⟩ : ∃ y1, y1 = nth s.lb q := ⟨_, rfl⟩
              rw [← hy1] at hcl'
              have HY1 := Lib.hid hy1
              clear hci hcl hq hqq hln hy1
              have d2 := (HBS13.out.next HBW.out).cell 2 rfl
              obtain ⟨PL, hPL⟩ : ∃ PL, PL = (ids.take j).map fun q => nth s.lb q.toNat := ⟨_, rfl⟩
              have hpl : PL.length = j := by rw [hPL]; simp; omega
              rw [← hPL] at HSL
              have HPL := Lib.hid hPL
              have HPLL := Lib.hid hpl
              clear hPL
              obtain ⟨av, cv, rfl⟩ := own_slice HSL.out
              obtain ⟨hi, hz0, hz1, hz2⟩ := HZZ.out
              go_wp2_with (at_builtin; refine wpList_append_own _ rfl _ _ 32 rfl W.heap.size 3 i0 (.int .i64 0) 1 8 Try.underlying32 hi hz0 hz1 hz2 rfl (by decide) _ _ _ rfl (HSL.out.alloc _) ⟨wr.heap.size, 0, none⟩ 1 1 [.int .i64 y1] rfl rfl (cell_one_new _ _ _) (by simp [Value.oneCell']) (by have := HPLL.out; unfold maxLen; omega) (by have := HPLL.out; omega) (by have := HBW.out.size; simp; omega) ?_; intro v' w1 hown' hgrow hat; clear hi hz0 hz1 hz2 d2)
              go_roundw
              case rel =>
                refine ⟨j + 1, by omega, by go_num, ?_, below_append' HBW.out (Nat.le_refl _) HSL.out hgrow⟩
                have hq := HQQ.out
                have := own_snoc hown'
                rw [take_succ_nth ids j hlt, List.map_append, ← HPL.out]
                rw [List.map_singleton, ← hq, Int.toNat_natCast, ← HY1.out]
                exact this
              case measure => simp [intOf]; omega
            · obtain rfl : j = ids.length := by omega
              rw [List.take_length] at HSL
              go_wp2_with fail
              obtain ⟨wv, rfl⟩ : ∃ wv, wv = wr := ⟨_, rfl⟩
              have hD0 : D < W.heap.size := (Array.getElem?_eq_some_iff.1 HKD.out).1
              have HKDv := Lib.hid ((HBW.out.block D hD0).trans HKD.out)
              have HBXv := Lib.hid (HBX13.out.next HBW.out)
              have HBYv := Lib.hid (HBY13.out.next HBW.out)
              have HOv := Lib.hid (own_below HO13.out HBW.out (Nat.le_refl _))
              have HPv := Lib.hid (own_below HP13.out HBW.out (Nat.le_refl _))
              have HXv := Lib.hid (own_below HX13.out HBW.out (Nat.le_refl _))
              have HYv := Lib.hid (own_below HY13.out HBW.out (Nat.le_refl _))
              have HBv := Lib.hid (HB13.out.trans (HBW.out.mono HB13.out.size))
              obtain ⟨LL, hLL⟩ : ∃ LL, LL = ids.map fun q => nth s.lb q.toNat := ⟨_, rfl⟩
              rw [← hLL] at HSL
              have HLL := Lib.hid hLL
              clear hLL
              obtain ⟨al, cl, rfl⟩ := own_slice HSL.out
              have hDv : w12.heap.size ≤ D := HDD.out
              have hdX : w.heap.size + 1 ≠ D := by omega
              have hdY : w.heap.size + 2 ≠ D := by omega
              obtain ⟨wq, hwq⟩ : ∃ wq, wq = finW wv (w.heap.size + 1) (w.heap.size + 2) D (.slice o6 xs.length cap6) (.slice axd XL.length cxd) (.slice none 0 0) (.slice ayd YL.length cyd) := ⟨_, rfl⟩
              have HQX := Lib.hid (show Box wq (w.heap.size + 1) 41 #[.slice o6 xs.length cap6, .slice axd XL.length cxd] by rw [hwq]; exact (fin_boxes HBXv.out HBYv.out (by omega) hdX hdY).1)
              have HQY := Lib.hid (show Box wq (w.heap.size + 2) 41 #[(.slice none 0 0), .slice ayd YL.length cyd] by rw [hwq]; exact (fin_boxes HBXv.out HBYv.out (by omega) hdX hdY).2)
              have HQ1 := Lib.hid (show OwnI wq w4.heap.size 3 .i64 (.slice o6 xs.length cap6) xs by rw [hwq]; exact fin_own HOv.out HKDv.out hX4 hY4 hdX hdY _ _ _ _)
              have HQ2 := Lib.hid (show OwnI wq w4.heap.size 3 .i64 (.slice none 0 0) [] by rw [hwq]; exact fin_own HPv.out HKDv.out hX4 hY4 hdX hdY _ _ _ _)
              have HQ3 := Lib.hid (show OwnI wq w12.heap.size 2 .i64 (.slice axd XL.length cxd) XL by rw [hwq]; exact fin_own HXv.out HKDv.out hlX hlY hdX hdY _ _ _ _)
              have HQ4 := Lib.hid (show OwnI wq w12.heap.size 2 .i64 (.slice ayd YL.length cyd) YL by rw [hwq]; exact fin_own HYv.out HKDv.out hlX hlY hdX hdY _ _ _ _)
              have hsW : w12.heap.size ≤ W.heap.size := by have := (Array.getElem?_eq_some_iff.1 HKD.out).1; omega
              have HQ5 := Lib.hid (show OwnI wq W.heap.size 3 .i64 (.slice al LL.length cl) LL by rw [hwq]; exact fin_own HSL.out HKDv.out (by omega) (by omega) hdX hdY _ _ _ _)
              have HQB := Lib.hid (show Below w.heap.size w wq by rw [hwq]; exact fin_below HBv.out (by omega) (by omega) (by omega))
              have HWQ := Lib.hid hwq
              clear hwq
              have x0 := HBXv.out.cell 0 rfl
              have x1 := HBXv.out.cell 1 rfl
              have y0 := HBYv.out.cell 0 rfl
              have y1 := HBYv.out.cell 1 rfl
              have fx0 := HBXv.out.free 0
              have fx1 := HBXv.out.free 1
              have fy0 := HBYv.out.free 0
              have fy1 := HBYv.out.free 1
              go_region
              all_goals go_wp2_with fail
              clear x0 x1 y0 y1 fx0 fx1 fy0 fy1
              have x0 := HQX.out.cell 0 rfl
              have x1 := HQX.out.cell 1 rfl
              have y0 := HQY.out.cell 0 rfl
              have y1 := HQY.out.cell 1 rfl
              have hbud : budB s ids = false := by
                have hx := HXS.out
                have hN := HN.out
                have hYY : yShape s ids = [] := by rw [yShape, if_neg hy]
                rw [budB, hYY, show (ids.length : Int) :: s.sh = xs from hx.symm, hgx, hgy]; rfl
              refine ⟨by simp, .inl ⟨_, wq, rfl, ?_, ?_⟩⟩
              · rw [HWQ.out]
                exact run_takeDeferred (fin_mark HKDv.out hdX hdY _ _ _ _)
              · refine ⟨.tuple #[.agg #[.slice o6 xs.length cap6, .slice axd XL.length cxd], (.slice al LL.length cl), .agg #[(.slice none 0 0), .slice ayd YL.length cyd], .int .i64 0], by simp [results, Try.results15, go_sem, x0, x1, y0, y1], .inr ⟨hbud, _, rfl, ⟨_, _, _, _, _, rfl, ?_, ?_, ?_, ?_, ?_, ?_, ?_, ?_, ?_⟩, HQB.out⟩⟩
                · have hx := HXS.out
                  rw [show (ids.length : Int) :: s.sh = xs from hx.symm]
                  exact own_mono HQ1.out (by omega)
                · rw [← HXL13.out]; exact own_mono HQ3.out (by omega)
                · rw [batchL, if_pos hl0, ← HLL.out]; exact own_mono HQ5.out (by omega)
                · rw [show yShape s ids = [] from by rw [yShape, if_neg hy]]; exact own_mono HQ2.out (by omega)
                · rw [← HYL13.out]; exact own_mono HQ4.out (by omega)
                · exact own_sep HO13.out HSL.out (Nat.le_refl _)
                · exact HSEP.out
                · exact fun g h1 h2 => by cases h2
                · exact HSX13.out
      · have hgy := Bool.eq_false_iff.2 hgy
        rw [hgy]
        have hbud : budB s ids = true := by
          have hx := HXS.out
          have hN := HN.out
          have hYY : yShape s ids = [] := by rw [yShape, if_neg hy]
          rw [budB, hYY, show (ids.length : Int) :: s.sh = xs from hx.symm, hgx, hgy]; rfl
      
        have x0 := HBX11.out.cell 0 rfl
        have x1 := HBX11.out.cell 1 rfl
        have y0 := HBY11.out.cell 0 rfl
        have y1 := HBY11.out.cell 1 rfl
        have fx0 := HBX11.out.free 0
        have fx1 := HBX11.out.free 1
        have fy0 := HBY11.out.free 0
        have fy1 := HBY11.out.free 1
        go_wp2_with fail
        have HTT := Lib.hid (tens_two (a := .slice none 0 0) (b := .slice none 0 0) (c := .slice none 0 0) (d := .slice none 0 0) HBX11.out HBY11.out (by omega))
        have HBF := Lib.hid (show Below w.heap.size w ((((w11.setCell ⟨w.heap.size + 1, 0, none⟩ (.slice none 0 0)).setCell ⟨w.heap.size + 1, 1, none⟩ (.slice none 0 0)).setCell ⟨w.heap.size + 2, 0, none⟩ (.slice none 0 0)).setCell ⟨w.heap.size + 2, 1, none⟩ (.slice none 0 0)) from
          ((((HB11.out.setCell (p := ⟨w.heap.size + 1, 0, none⟩) (Nat.le_succ _) _).setCell (p := ⟨w.heap.size + 1, 1, none⟩) (Nat.le_succ _) _).setCell (p := ⟨w.heap.size + 2, 0, none⟩) (Nat.le_add_right _ _) _).setCell (p := ⟨w.heap.size + 2, 1, none⟩) (Nat.le_add_right _ _) _))
        clear x0 x1 y0 y1 fx0 fx1 fy0 fy1
        generalize ((((w11.setCell ⟨w.heap.size + 1, 0, none⟩ (.slice none 0 0)).setCell ⟨w.heap.size + 1, 1, none⟩ (.slice none 0 0)).setCell ⟨w.heap.size + 2, 0, none⟩ (.slice none 0 0)).setCell ⟨w.heap.size + 2, 1, none⟩ (.slice none 0 0)) = wz at HTT HBF ⊢
        have x0 : wz.cell? ⟨w.heap.size + 1, 0, none⟩ = some (.slice none 0 0) := HTT.out.1.cell 0 rfl
        have x1 : wz.cell? ⟨w.heap.size + 1, 1, none⟩ = some (.slice none 0 0) := HTT.out.1.cell 1 rfl
        have y0 : wz.cell? ⟨w.heap.size + 2, 0, none⟩ = some (.slice none 0 0) := HTT.out.2.cell 0 rfl
        have y1 : wz.cell? ⟨w.heap.size + 2, 1, none⟩ = some (.slice none 0 0) := HTT.out.2.cell 1 rfl
        exact bodyPostM_ret (v := .tuple #[.agg #[.slice none 0 0, .slice none 0 0], .slice none 0 0, .agg #[.slice none 0 0, .slice none 0 0], .int .i64 5]) (by simp [results, Try.results15, go_sem, x0, x1, y0, y1]) rfl (.inl ⟨hbud, rfl, HBF.out⟩)
    · have hgx := Bool.eq_false_iff.2 hgx
      rw [hgx]
      have hbud : budB s ids = true := by
        have hx := HXS.out
        have hN := HN.out
        have hYY : yShape s ids = [] := by rw [yShape, if_neg hy]
        rw [budB, hYY, show (ids.length : Int) :: s.sh = xs from hx.symm, hgx]; rfl
    
      have x0 := HBX10.out.cell 0 rfl
      have x1 := HBX10.out.cell 1 rfl
      have y0 := HBY10.out.cell 0 rfl
      have y1 := HBY10.out.cell 1 rfl
      have fx0 := HBX10.out.free 0
      have fx1 := HBX10.out.free 1
      have fy0 := HBY10.out.free 0
      have fy1 := HBY10.out.free 1
      go_wp2_with fail
      have HTT := Lib.hid (tens_two (a := .slice none 0 0) (b := .slice none 0 0) (c := .slice none 0 0) (d := .slice none 0 0) HBX10.out HBY10.out (by omega))
      have HBF := Lib.hid (show Below w.heap.size w ((((w10.setCell ⟨w.heap.size + 1, 0, none⟩ (.slice none 0 0)).setCell ⟨w.heap.size + 1, 1, none⟩ (.slice none 0 0)).setCell ⟨w.heap.size + 2, 0, none⟩ (.slice none 0 0)).setCell ⟨w.heap.size + 2, 1, none⟩ (.slice none 0 0)) from
        ((((HB10.out.setCell (p := ⟨w.heap.size + 1, 0, none⟩) (Nat.le_succ _) _).setCell (p := ⟨w.heap.size + 1, 1, none⟩) (Nat.le_succ _) _).setCell (p := ⟨w.heap.size + 2, 0, none⟩) (Nat.le_add_right _ _) _).setCell (p := ⟨w.heap.size + 2, 1, none⟩) (Nat.le_add_right _ _) _))
      clear x0 x1 y0 y1 fx0 fx1 fy0 fy1
      generalize ((((w10.setCell ⟨w.heap.size + 1, 0, none⟩ (.slice none 0 0)).setCell ⟨w.heap.size + 1, 1, none⟩ (.slice none 0 0)).setCell ⟨w.heap.size + 2, 0, none⟩ (.slice none 0 0)).setCell ⟨w.heap.size + 2, 1, none⟩ (.slice none 0 0)) = wz at HTT HBF ⊢
      have x0 : wz.cell? ⟨w.heap.size + 1, 0, none⟩ = some (.slice none 0 0) := HTT.out.1.cell 0 rfl
      have x1 : wz.cell? ⟨w.heap.size + 1, 1, none⟩ = some (.slice none 0 0) := HTT.out.1.cell 1 rfl
      have y0 : wz.cell? ⟨w.heap.size + 2, 0, none⟩ = some (.slice none 0 0) := HTT.out.2.cell 0 rfl
      have y1 : wz.cell? ⟨w.heap.size + 2, 1, none⟩ = some (.slice none 0 0) := HTT.out.2.cell 1 rfl
      exact bodyPostM_ret (v := .tuple #[.agg #[.slice none 0 0, .slice none 0 0], .slice none 0 0, .agg #[.slice none 0 0, .slice none 0 0], .int .i64 5]) (by simp [results, Try.results15, go_sem, x0, x1, y0, y1]) rfl (.inl ⟨hbud, rfl, HBF.out⟩)
end Go.Proofs.Ytjhejpeklppmbaa
