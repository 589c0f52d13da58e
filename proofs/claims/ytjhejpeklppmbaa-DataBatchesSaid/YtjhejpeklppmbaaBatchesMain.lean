/-
  THE LAW DataBatches, walked.
-/
import Derived.Test.YtjhejpeklppmbaaBatchAny
import Derived.Test.YtjhejpeklppmbaaAllMain
set_option linter.unusedVariables false
set_option linter.unusedSimpArgs false
namespace Go.Proofs.Ytjhejpeklppmbaa
open Go.RowKit Go.Shelf
set_option maxRecDepth 100000 in
set_option maxHeartbeats 8000000 in
theorem batches_any (o : Option Addr) (n cap : Nat) (w : World) (hn : n ≤ 140737488351232) (ha : AsksArg w o n) :
    Calls Try.prog 5 #[.slice o n cap] w fun e w' => e = .returned (.bool true) ∧ Below w.heap.size w w' := by
  have HA := Lib.hid ha
  clear ha
  go_enter Try.func5, Try.ntmps5
  go_wp2_with fail
  go_loopg [3] n (fun g i wr => ∃ k : Nat, g = n - k ∧ k ≤ n ∧ i = .int .i64 k ∧ Below w.heap.size w wr)
  case atStart => exact ⟨0, rfl, Nat.zero_le _, rfl, Below.refl _ _⟩
  case round =>
    obtain ⟨k, hg, hk, rfl, hB⟩ := hrel
    obtain ⟨w0, rfl⟩ : ∃ w0, w0 = wr := ⟨_, rfl⟩
    have HB := Lib.hid hB
    clear hB
    by_cases hlt : k < n ∧ k < 6
    · obtain ⟨hkn, hk6⟩ := hlt
      obtain ⟨b, off, v0, v1, v2, v3, v4, s, ids, ho, hs⟩ := HA.out k hkn
      subst ho
      obtain ⟨o1, cap1, rfl⟩ := rd_slice hs.set.rd.sh
      obtain ⟨o2, cap2, rfl⟩ := rd_slice hs.set.rd.x
      obtain ⟨o3, cap3, rfl⟩ := rd_slice hs.set.rd.lb
      obtain ⟨o4, cap4, rfl⟩ := rd_slice hs.set.rd.y
      obtain ⟨oi, ci, rfl⟩ := rd_slice hs.ri
      have HCB := Lib.hid hs.k1
      have HCD := Lib.hid hs.k3
      have HK0 := Lib.hid (hs.below HB.out)
      have mi := hs.li
      obtain ⟨q0, q1, q2, q3, _, m0, m1, m2, m3⟩ := HK0.out.set
      have q4 := HK0.out.c4
      obtain ⟨W1, hW1⟩ : ∃ W1, W1 = w0.alloc (.cells #[.slice o1 s.sh.length cap1, .slice o2 s.x.length cap2, .slice o3 s.lb.length cap3, .slice o4 s.y.length cap4, .slice oi ids.length ci] 37) := ⟨_, rfl⟩
      have hb : Below w0.heap.size w0 W1 := by rw [hW1]; exact (Below.refl _ _).alloc (Nat.le_refl _) _
      have HX1 := Lib.hid (show Box W1 w0.heap.size 37 #[.slice o1 s.sh.length cap1, .slice o2 s.x.length cap2, .slice o3 s.lb.length cap3, .slice o4 s.y.length cap4, .slice oi ids.length ci] by rw [hW1]; exact Box.new _ _ _)
      have HW1 := Lib.hid hW1
      have HB0 := HB
      have HF0 := Lib.hid (Below.refl w0.heap.size w0)
      have HF1 := Lib.hid (HF0.out.trans (hb.mono HF0.out.size))
      have HK1 := Lib.hid (HK0.out.below hb)
      have HB1 := Lib.hid (HB0.out.trans (hb.mono HB0.out.size))
      have hsz1 := hb.size
      clear hb HB0 
      have d0 : W1.cell? ⟨w0.heap.size, 0, none⟩ = some (.slice o1 s.sh.length cap1) := HX1.out.cell 0 rfl
      have d1 : W1.cell? ⟨w0.heap.size, 1, none⟩ = some (.slice o2 s.x.length cap2) := HX1.out.cell 1 rfl
      have d2 : W1.cell? ⟨w0.heap.size, 2, none⟩ = some (.slice o3 s.lb.length cap3) := HX1.out.cell 2 rfl
      have d3 : W1.cell? ⟨w0.heap.size, 3, none⟩ = some (.slice o4 s.y.length cap4) := HX1.out.cell 3 rfl
      have d4 : W1.cell? ⟨w0.heap.size, 4, none⟩ = some (.slice oi ids.length ci) := HX1.out.cell 4 rfl
      rw [hW1] at d0 d1 d2 d3 d4
      clear hs hW1
      go_wp2_with fail
      rw [← HW1.out]
      clear HW1 d0 d1 d2 d3 d4 q0 q1 q2 q3 q4
      refine (heavy30_any _ _ _ _ s _ HK1.out.set.rd ⟨by omega, by omega, by omega, by omega⟩).mono ?_
      rintro e w2 ⟨rfl, hb⟩
      clear m0 m1 m2 m3
      have HX2 := Lib.hid (HX1.out.next hb)
      have HF2 := Lib.hid (HF1.out.trans (hb.mono HF1.out.size))
      have HK2 := Lib.hid (HK1.out.below hb)
      have HB2 := Lib.hid (HB1.out.trans (hb.mono HB1.out.size))
      have hsz2 := hb.size
      clear hb HB1 HK1 HF1 HX1
      have hw02 : w0.heap.size < w2.heap.size := HX2.out.lt
      have hw00 : w.heap.size ≤ w0.heap.size := HB.out.size
      cases hh : heavyS s with
      | true =>
        clear hh
        go_wp2_with fail
        go_ret
        exact ⟨rfl, HB2.out⟩
      | false =>
        have hlim := heavy_lim hh
        have HL := Lib.hid (show LimSet s from ⟨by omega, by omega, by omega, by omega⟩)
        have hx400 : s.x.length ≤ 400 := hlim.2.1
        have hy400 : s.y.length ≤ 400 := hlim.2.2.2
        have hl400 : s.lb.length ≤ 400 := hlim.2.2.1
        have hs8 : s.sh.length ≤ 8 := hlim.1
        clear hh hlim
        by_cases h200 : 200 < ids.length
        · have e2 : decide ((200 : Int) < ids.length) = true := decide_eq_true (by omega)
          have d0 : w2.cell? ⟨w0.heap.size, 0, none⟩ = some (.slice o1 s.sh.length cap1) := HX2.out.cell 0 rfl
          have d1 : w2.cell? ⟨w0.heap.size, 1, none⟩ = some (.slice o2 s.x.length cap2) := HX2.out.cell 1 rfl
          have d2 : w2.cell? ⟨w0.heap.size, 2, none⟩ = some (.slice o3 s.lb.length cap3) := HX2.out.cell 2 rfl
          have d3 : w2.cell? ⟨w0.heap.size, 3, none⟩ = some (.slice o4 s.y.length cap4) := HX2.out.cell 3 rfl
          have d4 : w2.cell? ⟨w0.heap.size, 4, none⟩ = some (.slice oi ids.length ci) := HX2.out.cell 4 rfl
          go_wp2_with fail
          go_ret
          exact ⟨rfl, HB2.out⟩
        · have e2 : decide ((200 : Int) < ids.length) = false := decide_eq_false (by omega)
          obtain ⟨W3, hW3⟩ : ∃ W3, W3 = ((w2.alloc (.cells #[.slice none 0 0, .slice none 0 0] 41)).alloc (.cells #[.slice none 0 0, .slice none 0 0] 41)) := ⟨_, rfl⟩
          have hb : Below w2.heap.size w2 W3 := by rw [hW3]; exact ((Below.refl _ _).alloc (Nat.le_refl _) _).alloc (by simp) _
          have HTX3 := Lib.hid (show Box W3 w2.heap.size 41 #[.slice none 0 0, .slice none 0 0] by rw [hW3]; exact (Box.new _ _ _).next ((Below.refl _ _).alloc (Nat.le_refl _) _))
          have HTY3 := Lib.hid (show Box W3 (w2.heap.size + 1) 41 #[.slice none 0 0, .slice none 0 0] by rw [hW3]; exact Box.new_at (by simp))
          have c0 : w2.cell? ⟨w0.heap.size, 0, none⟩ = some (.slice o1 s.sh.length cap1) := HX2.out.cell 0 rfl
          have c1 : w2.cell? ⟨w0.heap.size, 1, none⟩ = some (.slice o2 s.x.length cap2) := HX2.out.cell 1 rfl
          have c2 : w2.cell? ⟨w0.heap.size, 2, none⟩ = some (.slice o3 s.lb.length cap3) := HX2.out.cell 2 rfl
          have c3 : w2.cell? ⟨w0.heap.size, 3, none⟩ = some (.slice o4 s.y.length cap4) := HX2.out.cell 3 rfl
          have c4 : w2.cell? ⟨w0.heap.size, 4, none⟩ = some (.slice oi ids.length ci) := HX2.out.cell 4 rfl
          have HX3 := Lib.hid (HX2.out.next hb)
          have HF3 := Lib.hid (HF2.out.trans (hb.mono HF2.out.size))
          have HK3 := Lib.hid (HK2.out.below hb)
          have HB3 := Lib.hid (HB2.out.trans (hb.mono HB2.out.size))
          have hsz3 := hb.size
          clear hb HB2 HK2 HF2 HX2
          have d0 : W3.cell? ⟨w0.heap.size, 0, none⟩ = some (.slice o1 s.sh.length cap1) := HX3.out.cell 0 rfl
          have d1 : W3.cell? ⟨w0.heap.size, 1, none⟩ = some (.slice o2 s.x.length cap2) := HX3.out.cell 1 rfl
          have d2 : W3.cell? ⟨w0.heap.size, 2, none⟩ = some (.slice o3 s.lb.length cap3) := HX3.out.cell 2 rfl
          have d3 : W3.cell? ⟨w0.heap.size, 3, none⟩ = some (.slice o4 s.y.length cap4) := HX3.out.cell 3 rfl
          have d4 : W3.cell? ⟨w0.heap.size, 4, none⟩ = some (.slice oi ids.length ci) := HX3.out.cell 4 rfl
          have HW3 := Lib.hid hW3
          rw [hW3] at d0 d1 d2 d3 d4
          clear hW3
          go_wp2_with fail
          rw [← HW3.out]
          clear HW3 d0 d1 d2 d3 d4 c0 c1 c2 c3 c4
          refine (ref30May_any _ _ _ _ s _ HK3.out.set.rd HL.out).mono ?_
          rintro e w4 ⟨rfl, hb⟩
          have HX4 := Lib.hid (HX3.out.next hb)
          have HTX4 := Lib.hid (HTX3.out.next hb)
          have HTY4 := Lib.hid (HTY3.out.next hb)
          have HF4 := Lib.hid (HF3.out.trans (hb.mono HF3.out.size))
          have HK4 := Lib.hid (HK3.out.below hb)
          have HB4 := Lib.hid (HB3.out.trans (hb.mono HB3.out.size))
          have hsz4 := hb.size
          clear hb HB3 HK3 HF3 HX3 HTX3 HTY3
          obtain ⟨PX, hPX⟩ : ∃ PX, PX = lsB s ids ((ids.length : Int) :: s.sh) := ⟨_, rfl⟩
          have lPX : PX.length ≤ 80000 := by rw [hPX]; exact xShape_len s ids hs8
          obtain ⟨PD, hPD⟩ : ∃ PD, PD = lsB s ids (batchX s ids) := ⟨_, rfl⟩
          have lPD : PD.length ≤ 80000 := by rw [hPD]; exact batchX_len s ids hx400 (by omega)
          obtain ⟨PL, hPL⟩ : ∃ PL, PL = lsB s ids (batchL s ids) := ⟨_, rfl⟩
          have lPL : PL.length ≤ 80000 := by rw [hPL]; exact batchL_len s ids (by omega)
          obtain ⟨PY, hPY⟩ : ∃ PY, PY = lsB s ids (yShape s ids) := ⟨_, rfl⟩
          have lPY : PY.length ≤ 80000 := by rw [hPY]; exact yShape_len s ids
          obtain ⟨PE, hPE⟩ : ∃ PE, PE = lsB s ids (batchY s ids) := ⟨_, rfl⟩
          have lPE : PE.length ≤ 80000 := by rw [hPE]; exact batchY_len s ids hy400 (by omega)
          have HPX := Lib.hid hPX
          have HPD := Lib.hid hPD
          have HPL := Lib.hid hPL
          have HPY := Lib.hid hPY
          have HPE := Lib.hid hPE
          clear hPX hPD hPL hPY hPE
          cases hg : goodSet s with
          | true =>
            have HG := Lib.hid hg
            clear hg
            have hw4 : w2.heap.size + 1 < w4.heap.size := HTY4.out.lt
            have hb0 := HF4.out.size
            have d0 : w4.cell? ⟨w0.heap.size, 0, none⟩ = some (.slice o1 s.sh.length cap1) := HX4.out.cell 0 rfl
            have d1 : w4.cell? ⟨w0.heap.size, 1, none⟩ = some (.slice o2 s.x.length cap2) := HX4.out.cell 1 rfl
            have d2 : w4.cell? ⟨w0.heap.size, 2, none⟩ = some (.slice o3 s.lb.length cap3) := HX4.out.cell 2 rfl
            have d3 : w4.cell? ⟨w0.heap.size, 3, none⟩ = some (.slice o4 s.y.length cap4) := HX4.out.cell 3 rfl
            have d4 : w4.cell? ⟨w0.heap.size, 4, none⟩ = some (.slice oi ids.length ci) := HX4.out.cell 4 rfl
            go_wp2_with fail
            clear d0 d1 d2 d3 d4
            refine (ref30Batch_all _ _ _ _ s oi ci ids _ HK4.out.set.rd HL.out HG.out HK4.out.ri (by omega) HCB.out HCD.out).mono ?_
            rintro e w5 ⟨⟨rxs, rxd, rvl, rys, ryd, rfl, hV⟩, hb⟩
            have g1 : OwnI w5 w4.heap.size 3 .i64 rxs PX := by rw [HPX.out]; exact hV.oxs
            have g2 : OwnI w5 w4.heap.size 2 .i64 rxd PD := by rw [HPD.out]; exact hV.oxd
            have g3 : OwnI w5 w4.heap.size 3 .i64 rvl PL := by rw [HPL.out]; exact hV.ovl
            have g4 : OwnI w5 w4.heap.size 3 .i64 rys PY := by rw [HPY.out]; exact hV.oys
            have g5 : OwnI w5 w4.heap.size 2 .i64 ryd PE := by rw [HPE.out]; exact hV.oyd
            obtain ⟨arx, krx, rfl⟩ := own_slice g1
            obtain ⟨ard, krd, rfl⟩ := own_slice g2
            obtain ⟨arl, krl, rfl⟩ := own_slice g3
            obtain ⟨ary, kry, rfl⟩ := own_slice g4
            obtain ⟨are, kre, rfl⟩ := own_slice g5
            obtain ⟨cd, hcd⟩ : ∃ cd, cd = cdB s ids := ⟨_, rfl⟩
            rw [← hcd]
            have HCDE := Lib.hid hcd
            have HX5 := Lib.hid (HX4.out.next hb)
            have HTX5 := Lib.hid (HTX4.out.next hb)
            have HTY5 := Lib.hid (HTY4.out.next hb)
            have HF5 := Lib.hid (HF4.out.trans (hb.mono HF4.out.size))
            have HK5 := Lib.hid (HK4.out.below hb)
            have HB5 := Lib.hid (HB4.out.trans (hb.mono HB4.out.size))
            have hsz5 := hb.size
            clear hb HB4 HK4 HF4 HX4 HTX4 HTY4
            have HTT := Lib.hid (tens_two (a := (.slice arx PX.length krx)) (b := (.slice ard PD.length krd)) (c := (.slice ary PY.length kry)) (d := (.slice are PE.length kre)) HTX5.out HTY5.out (by omega))
            have HX6 := Lib.hid (((((HX5.out).other (p := ⟨w2.heap.size, 0, none⟩) (by simp; omega) (.slice arx PX.length krx)).other (p := ⟨w2.heap.size, 1, none⟩) (by simp; omega) (.slice ard PD.length krd)).other (p := ⟨w2.heap.size + 1, 0, none⟩) (by simp; omega) (.slice ary PY.length kry)).other (p := ⟨w2.heap.size + 1, 1, none⟩) (by simp; omega) (.slice are PE.length kre))
            have HB6 := Lib.hid (((((HB5.out).setCell (p := ⟨w2.heap.size, 0, none⟩) (by simp; omega) (.slice arx PX.length krx)).setCell (p := ⟨w2.heap.size, 1, none⟩) (by simp; omega) (.slice ard PD.length krd)).setCell (p := ⟨w2.heap.size + 1, 0, none⟩) (by simp; omega) (.slice ary PY.length kry)).setCell (p := ⟨w2.heap.size + 1, 1, none⟩) (by simp; omega) (.slice are PE.length kre))
            have HF6 := Lib.hid (((((HF5.out).setCell (p := ⟨w2.heap.size, 0, none⟩) (by simp; omega) (.slice arx PX.length krx)).setCell (p := ⟨w2.heap.size, 1, none⟩) (by simp; omega) (.slice ard PD.length krd)).setCell (p := ⟨w2.heap.size + 1, 0, none⟩) (by simp; omega) (.slice ary PY.length kry)).setCell (p := ⟨w2.heap.size + 1, 1, none⟩) (by simp; omega) (.slice are PE.length kre))
            have G1 := Lib.hid (Rd.of_own (own_setLt (j := 1) (own_setLt (j := 0) (own_setLt (j := 1) (own_setLt (j := 0) g1 (by omega : w2.heap.size < w4.heap.size) (.slice arx PX.length krx)) (by omega : w2.heap.size < w4.heap.size) (.slice ard PD.length krd)) (by omega : w2.heap.size + 1 < w4.heap.size) (.slice ary PY.length kry)) (by omega : w2.heap.size + 1 < w4.heap.size) (.slice are PE.length kre)))
            have G2 := Lib.hid (Rd.of_own (own_setLt (j := 1) (own_setLt (j := 0) (own_setLt (j := 1) (own_setLt (j := 0) g2 (by omega : w2.heap.size < w4.heap.size) (.slice arx PX.length krx)) (by omega : w2.heap.size < w4.heap.size) (.slice ard PD.length krd)) (by omega : w2.heap.size + 1 < w4.heap.size) (.slice ary PY.length kry)) (by omega : w2.heap.size + 1 < w4.heap.size) (.slice are PE.length kre)))
            have G3 := Lib.hid (Rd.of_own (own_setLt (j := 1) (own_setLt (j := 0) (own_setLt (j := 1) (own_setLt (j := 0) g3 (by omega : w2.heap.size < w4.heap.size) (.slice arx PX.length krx)) (by omega : w2.heap.size < w4.heap.size) (.slice ard PD.length krd)) (by omega : w2.heap.size + 1 < w4.heap.size) (.slice ary PY.length kry)) (by omega : w2.heap.size + 1 < w4.heap.size) (.slice are PE.length kre)))
            have G4 := Lib.hid (Rd.of_own (own_setLt (j := 1) (own_setLt (j := 0) (own_setLt (j := 1) (own_setLt (j := 0) g4 (by omega : w2.heap.size < w4.heap.size) (.slice arx PX.length krx)) (by omega : w2.heap.size < w4.heap.size) (.slice ard PD.length krd)) (by omega : w2.heap.size + 1 < w4.heap.size) (.slice ary PY.length kry)) (by omega : w2.heap.size + 1 < w4.heap.size) (.slice are PE.length kre)))
            have G5 := Lib.hid (Rd.of_own (own_setLt (j := 1) (own_setLt (j := 0) (own_setLt (j := 1) (own_setLt (j := 0) g5 (by omega : w2.heap.size < w4.heap.size) (.slice arx PX.length krx)) (by omega : w2.heap.size < w4.heap.size) (.slice ard PD.length krd)) (by omega : w2.heap.size + 1 < w4.heap.size) (.slice ary PY.length kry)) (by omega : w2.heap.size + 1 < w4.heap.size) (.slice are PE.length kre)))
            have hsz6 : w4.heap.size ≤ ((((w5.setCell ⟨w2.heap.size, 0, none⟩ (.slice arx PX.length krx)).setCell ⟨w2.heap.size, 1, none⟩ (.slice ard PD.length krd)).setCell ⟨w2.heap.size + 1, 0, none⟩ (.slice ary PY.length kry)).setCell ⟨w2.heap.size + 1, 1, none⟩ (.slice are PE.length kre)).heap.size := by simp; omega
            have x0 := HTX5.out.cell 0 rfl
            have x1 := HTX5.out.cell 1 rfl
            have y0 := HTY5.out.cell 0 rfl
            have y1 := HTY5.out.cell 1 rfl
            have fx0 := HTX5.out.free 0
            have fx1 := HTX5.out.free 1
            have fy0 := HTY5.out.free 0
            have fy1 := HTY5.out.free 1
            clear hV g1 g2 g3 g4 g5 hcd
            go_upto_region 12 with (fail)
            clear x0 x1 y0 y1 fx0 fx1 fy0 fy1 HX5 HTX5 HTY5 HB5 HF5 HK5
            generalize ((((w5.setCell ⟨w2.heap.size, 0, none⟩ (.slice arx PX.length krx)).setCell ⟨w2.heap.size, 1, none⟩ (.slice ard PD.length krd)).setCell ⟨w2.heap.size + 1, 0, none⟩ (.slice ary PY.length kry)).setCell ⟨w2.heap.size + 1, 1, none⟩ (.slice are PE.length kre)) = w6 at HTT HX6 HB6 HF6 G1 G2 G3 G4 G5 hsz6 ⊢
            have HTX6 := Lib.hid HTT.out.1
            have HTY6 := Lib.hid HTT.out.2
            clear HTT
            have HK6 := Lib.hid (HK0.out.below HF6.out)
            have d0 : w6.cell? ⟨w0.heap.size, 0, none⟩ = some (.slice o1 s.sh.length cap1) := HX6.out.cell 0 rfl
            have d1 : w6.cell? ⟨w0.heap.size, 1, none⟩ = some (.slice o2 s.x.length cap2) := HX6.out.cell 1 rfl
            have d2 : w6.cell? ⟨w0.heap.size, 2, none⟩ = some (.slice o3 s.lb.length cap3) := HX6.out.cell 2 rfl
            have d3 : w6.cell? ⟨w0.heap.size, 3, none⟩ = some (.slice o4 s.y.length cap4) := HX6.out.cell 3 rfl
            go_wp2_with fail
            clear d0 d1 d2 d3
            refine (copySet_any _ _ _ _ s _ HK6.out.set.rd HL.out).mono ?_
            rintro e w7 ⟨⟨a', b', c', d', rfl, hos⟩, hb7⟩
            obtain ⟨za, la, rfl⟩ := own_slice hos.sh
            obtain ⟨zb, lb, rfl⟩ := own_slice hos.x
            obtain ⟨zc, lc, rfl⟩ := own_slice hos.lb
            obtain ⟨zd, ld, rfl⟩ := own_slice hos.y
            obtain ⟨W8, hW8⟩ : ∃ W8, W8 = w7.alloc (.cells #[.slice za s.sh.length la, .slice zb s.x.length lb, .slice zc s.lb.length lc, .slice zd s.y.length ld] 35) := ⟨_, rfl⟩
            have hal : Below w7.heap.size w7 W8 := by rw [hW8]; exact (Below.refl _ _).alloc (Nat.le_refl _) _
            have hb : Below w6.heap.size w6 W8 := hb7.trans (hal.mono hb7.size)
            have HS8 := Lib.hid (show Box W8 w7.heap.size 35 #[.slice za s.sh.length la, .slice zb s.x.length lb, .slice zc s.lb.length lc, .slice zd s.y.length ld] by rw [hW8]; exact Box.new _ _ _)
            have HOS8 := Lib.hid (hos.below hal (Nat.le_refl _))
            have HW8 := Lib.hid hW8
            have HX8 := Lib.hid (HX6.out.next hb)
            have HTX8 := Lib.hid (HTX6.out.next hb)
            have HTY8 := Lib.hid (HTY6.out.next hb)
            have HB8 := Lib.hid (HB6.out.trans (hb.mono HB6.out.size))
            have HK8 := Lib.hid (HK6.out.below hb)
            have K1 := Lib.hid (G1.out.below hb (Nat.le_refl _))
            have K2 := Lib.hid (G2.out.below hb (Nat.le_refl _))
            have K3 := Lib.hid (G3.out.below hb (Nat.le_refl _))
            have K4 := Lib.hid (G4.out.below hb (Nat.le_refl _))
            have K5 := Lib.hid (G5.out.below hb (Nat.le_refl _))
            have hsz8 := hb.size
            have e0 : W8.cell? ⟨w7.heap.size, 0, none⟩ = some (.slice za s.sh.length la) := HS8.out.cell 0 rfl
            have e1 : W8.cell? ⟨w7.heap.size, 1, none⟩ = some (.slice zb s.x.length lb) := HS8.out.cell 1 rfl
            have e2' : W8.cell? ⟨w7.heap.size, 2, none⟩ = some (.slice zc s.lb.length lc) := HS8.out.cell 2 rfl
            have e3 : W8.cell? ⟨w7.heap.size, 3, none⟩ = some (.slice zd s.y.length ld) := HS8.out.cell 3 rfl
            have d4 : W8.cell? ⟨w0.heap.size, 4, none⟩ = some (.slice oi ids.length ci) := HX8.out.cell 4 rfl
            rw [hW8] at e0 e1 e2' e3 d4
            clear hb hal hb7 hos hW8 HX6 HTX6 HTY6 HB6 HF6 HK6 G1 G2 G3 G4 G5
            go_wp2_with fail
            rw [← HW8.out]
            clear e0 e1 e2' e3 d4 HW8
            refine (batch_any _ _ _ _ s _ _ ids _ HOS8.out.rd HL.out HK8.out.ri (by omega) (own_cap63 HOS8.out.x) (own_cap63 HOS8.out.y)).mono ?_
            rintro e w9 ⟨⟨xs, xd, vl, ys, yd, rfl, hV⟩, hb⟩
            rw [← HCDE.out]
            have g1 : OwnI w9 W8.heap.size 3 .i64 xs PX := by rw [HPX.out]; exact hV.oxs
            have g2 : OwnI w9 W8.heap.size 2 .i64 xd PD := by rw [HPD.out]; exact hV.oxd
            have g3 : OwnI w9 W8.heap.size 3 .i64 vl PL := by rw [HPL.out]; exact hV.ovl
            have g4 : OwnI w9 W8.heap.size 3 .i64 ys PY := by rw [HPY.out]; exact hV.oys
            have g5 : OwnI w9 W8.heap.size 2 .i64 yd PE := by rw [HPE.out]; exact hV.oyd
            have hs1 := hV.s1
            have hs2 := hV.s2
            have hs3 := hV.s3
            have hs4 := hV.s4
            obtain ⟨axs, kxs, rfl⟩ := own_slice g1
            obtain ⟨axd, kxd, rfl⟩ := own_slice g2
            obtain ⟨avl, kvl, rfl⟩ := own_slice g3
            obtain ⟨ays, kys, rfl⟩ := own_slice g4
            obtain ⟨ayd, kyd, rfl⟩ := own_slice g5
            have HSP := Lib.hid (And.intro hs1 (And.intro hs2 (And.intro hs3 hs4)))
            obtain ⟨W10, hW10⟩ : ∃ W10, W10 = ((w9.alloc (.cells #[.slice axs PX.length kxs, .slice axd PD.length kxd] 41)).alloc (.cells #[.slice ays PY.length kys, .slice ayd PE.length kyd] 41)) := ⟨_, rfl⟩
            have hal : Below w9.heap.size w9 W10 := by rw [hW10]; exact ((Below.refl _ _).alloc (Nat.le_refl _) _).alloc (by simp) _
            have HTA10 := Lib.hid (show Box W10 w9.heap.size 41 #[.slice axs PX.length kxs, .slice axd PD.length kxd] by rw [hW10]; exact (Box.new _ _ _).next ((Below.refl _ _).alloc (Nat.le_refl _) _))
            have HTB10 := Lib.hid (show Box W10 (w9.heap.size + 1) 41 #[.slice ays PY.length kys, .slice ayd PE.length kyd] by rw [hW10]; exact Box.new_at (by simp))
            have HC10 := Lib.hid (hb.trans (hal.mono hb.size))
            have hlt1 : ∀ g, (Value.slice axs PX.length kxs).ownBlock = some g → g < w9.heap.size := fun g hg => (g1.lt g hg).2
            have hlt2 : ∀ g, (Value.slice axd PD.length kxd).ownBlock = some g → g < w9.heap.size := fun g hg => (g2.lt g hg).2
            have hlt3 : ∀ g, (Value.slice avl PL.length kvl).ownBlock = some g → g < w9.heap.size := fun g hg => (g3.lt g hg).2
            have HLT := Lib.hid (And.intro hlt1 (And.intro hlt2 hlt3))
            have O1 := Lib.hid (own_below g1 hal (Nat.le_refl _))
            have O2 := Lib.hid (own_below g2 hal (Nat.le_refl _))
            have O3 := Lib.hid (own_below g3 hal (Nat.le_refl _))
            have O4 := Lib.hid (own_below g4 hal (Nat.le_refl _))
            have O5 := Lib.hid (own_below g5 hal (Nat.le_refl _))
            have hsz9 := hb.size
            have HW10 := Lib.hid hW10
            clear hb hal hV g1 g2 g3 g4 g5 hs1 hs2 hs3 hs4 hlt1 hlt2 hlt3 hW10
            go_wp2_with fail
            rw [← HW10.out]
            clear HW10
            refine (eqNumbers_yes (xs := PL) (Rd.of_own O3.out) (K3.out.below HC10.out (Nat.le_refl _)) (by omega)).mono ?_
            rintro e w11 ⟨rfl, hsm⟩
            have hb := hsm.below W10.heap.size
            clear hsm
            have HTA11 := Lib.hid (HTA10.out.next hb)
            have HTB11 := Lib.hid (HTB10.out.next hb)
            have HC11 := Lib.hid (HC10.out.trans (hb.mono HC10.out.size))
            have O1' := Lib.hid (own_below O1.out hb (Nat.le_refl _))
            have O2' := Lib.hid (own_below O2.out hb (Nat.le_refl _))
            have O3' := Lib.hid (own_below O3.out hb (Nat.le_refl _))
            have O4' := Lib.hid (own_below O4.out hb (Nat.le_refl _))
            have O5' := Lib.hid (own_below O5.out hb (Nat.le_refl _))
            have t0 := HTB11.out.cell 0 rfl
            have t1 := HTB11.out.cell 1 rfl
            have t2 := (HTY8.out.next HC11.out).cell 0 rfl
            have t3 := (HTY8.out.next HC11.out).cell 1 rfl
            clear hb HTA10 HTB10 HC10 O1 O2 O3 O4 O5
            go_wp2_with fail
            clear t0 t1 t2 t3
            refine (eqTensor_yes _ _ _ _ PY PE _ ⟨Rd.of_own O4'.out, Rd.of_own O5'.out⟩ ⟨K4.out.below HC11.out (Nat.le_refl _), K5.out.below HC11.out (Nat.le_refl _)⟩ (by omega) (by omega)).mono ?_
            rintro e w12 ⟨rfl, hb⟩
            have HTA12 := Lib.hid (HTA11.out.next hb)
            have HTB12 := Lib.hid (HTB11.out.next hb)
            have HC12 := Lib.hid (HC11.out.trans (hb.mono HC11.out.size))
            have O1 := Lib.hid (own_below O1'.out hb (Nat.le_refl _))
            have O2 := Lib.hid (own_below O2'.out hb (Nat.le_refl _))
            have O3 := Lib.hid (own_below O3'.out hb (Nat.le_refl _))
            have O4 := Lib.hid (own_below O4'.out hb (Nat.le_refl _))
            have O5 := Lib.hid (own_below O5'.out hb (Nat.le_refl _))
            have t0 := HTA12.out.cell 0 rfl
            have t1 := HTA12.out.cell 1 rfl
            have t2 := (HTX8.out.next HC12.out).cell 0 rfl
            have t3 := (HTX8.out.next HC12.out).cell 1 rfl
            clear hb HTA11 HTB11 HC11 O1' O2' O3' O4' O5'
            go_wp2_with fail
            clear t0 t1 t2 t3
            have hC12 := HC12.out.size
            refine (is_any cd _ _ _ _ PX PD W8.heap.size _ O1.out O2.out ⟨K1.out.below HC12.out (Nat.le_refl _), K2.out.below HC12.out (Nat.le_refl _)⟩ (fun hne => by rw [HCDE.out] at hne; exact ⟨by rw [HPX.out, lsB_no hne], by rw [HPD.out, lsB_no hne]⟩) hC12 (by omega) (by omega)).mono ?_
            rintro e w13 ⟨rfl, hsp⟩
            have HC13 := Lib.hid (HC12.out.trans hsp.below)
            have Q3 := Lib.hid (hsp.own O3.out HSP.out.1 (sep_type O2.out O3.out (by decide)))
            have Q4 := Lib.hid (hsp.own O4.out HSP.out.2.1 (sep_type O2.out O4.out (by decide)))
            have Q5 := Lib.hid (hsp.own O5.out (sep_type O1.out O5.out (by decide)) HSP.out.2.2.2)
            have HTB13 := Lib.hid (hsp.box HTB12.out (fun g hg => by have := HLT.out.1 g hg; omega) (fun g hg => by have := HLT.out.2.1 g hg; omega))
            have hC13 := HC13.out.size
            clear hsp HC12 HTA12 HTB12 O1 O2 O3 O4 O5
            go_wp2_with fail
            refine (law0Numbers_any _ PL W8.heap.size _ Q3.out hC13 (by omega)).mono ?_
            rintro e w14 ⟨rfl, hg14⟩
            have HC14 := Lib.hid (HC13.out.trans (below_grown Q3.out hg14 hC13))
            have R4 := Lib.hid (own_grown Q4.out hg14 HSP.out.2.2.1)
            have R5 := Lib.hid (own_grown Q5.out hg14 (sep_type Q3.out Q5.out (by decide)))
            have HTB14 := Lib.hid (show Box w14 (w9.heap.size + 1) 41 #[.slice ays PY.length kys, .slice ayd PE.length kyd] from (hg14.block _ HTB13.out.lt (fun e => by have := HLT.out.2.2 _ e.symm; omega)).trans HTB13.out)
            have t0 := HTB14.out.cell 0 rfl
            have t1 := HTB14.out.cell 1 rfl
            have hC14 := HC14.out.size
            clear hg14 HC13 Q3 Q4 Q5 HTB13
            go_wp2_with fail
            clear t0 t1
            refine (law0Tensor_any _ _ PY PE W8.heap.size _ R4.out R5.out hC14 (by omega) (by omega)).mono ?_
            rintro e w15 ⟨rfl, hsp⟩
            have HC15 := Lib.hid (HC14.out.trans hsp.below)
            have HB15 := Lib.hid (HB8.out.trans (HC15.out.mono HB8.out.size))
            have t0 := (HS8.out.next HC15.out).cell 0 rfl
            have t1 := (HS8.out.next HC15.out).cell 1 rfl
            have t2 := (HS8.out.next HC15.out).cell 2 rfl
            have t3 := (HS8.out.next HC15.out).cell 3 rfl
            have d0 := (HX8.out.next HC15.out).cell 0 rfl
            have d1 := (HX8.out.next HC15.out).cell 1 rfl
            have d2 := (HX8.out.next HC15.out).cell 2 rfl
            have d3 := (HX8.out.next HC15.out).cell 3 rfl
            clear hsp HC14 R4 R5 HTB14
            go_wp2_with fail
            clear t0 t1 t2 t3 d0 d1 d2 d3
            refine (eqSet_yes _ _ _ _ _ _ _ _ s _ (HOS8.out.rd.below HC15.out (Nat.le_refl _)) (HK8.out.set.rd.below HC15.out (Nat.le_refl _)) HL.out).mono ?_
            rintro e w16 ⟨rfl, hb⟩
            have HB16 := Lib.hid (HB15.out.trans (hb.mono HB15.out.size))
            clear hb
            go_wp2_with fail
            go_roundg (n - (k + 1))
            case rel => exact ⟨k + 1, rfl, by omega, by go_num, HB16.out⟩
            case measure => omega
          | false =>
            have hc1 : cdB s ids = 1 := by rw [cdB, hg]; rfl
            have hc0 : cdB s ids ≠ 0 := by rw [hc1]; decide
            have HCDE := Lib.hid (show (1 : Int) = cdB s ids from hc1.symm)
            have hw4 : w2.heap.size + 1 < w4.heap.size := HTY4.out.lt
            have G1 := Lib.hid (show Rd w4 .i64 (.slice none 0 0) PX by rw [HPX.out, lsB_no hc0]; exact Rd.nil _ _ _ _)
            have G2 := Lib.hid (show Rd w4 .i64 (.slice none 0 0) PD by rw [HPD.out, lsB_no hc0]; exact Rd.nil _ _ _ _)
            have G3 := Lib.hid (show Rd w4 .i64 (.slice none 0 0) PL by rw [HPL.out, lsB_no hc0]; exact Rd.nil _ _ _ _)
            have G4 := Lib.hid (show Rd w4 .i64 (.slice none 0 0) PY by rw [HPY.out, lsB_no hc0]; exact Rd.nil _ _ _ _)
            have G5 := Lib.hid (show Rd w4 .i64 (.slice none 0 0) PE by rw [HPE.out, lsB_no hc0]; exact Rd.nil _ _ _ _)
            clear hg hc1 hc0
            obtain ⟨w6, rfl⟩ : ∃ w6, w6 = w4 := ⟨_, rfl⟩
            have HX6 := HX4
            have HTX6 := HTX4
            have HTY6 := HTY4
            have HB6 := HB4
            have HF6 := HF4
            clear HX4 HTX4 HTY4 HB4 HF4 HK4
            have HK6 := Lib.hid (HK0.out.below HF6.out)
            have d0 : w6.cell? ⟨w0.heap.size, 0, none⟩ = some (.slice o1 s.sh.length cap1) := HX6.out.cell 0 rfl
            have d1 : w6.cell? ⟨w0.heap.size, 1, none⟩ = some (.slice o2 s.x.length cap2) := HX6.out.cell 1 rfl
            have d2 : w6.cell? ⟨w0.heap.size, 2, none⟩ = some (.slice o3 s.lb.length cap3) := HX6.out.cell 2 rfl
            have d3 : w6.cell? ⟨w0.heap.size, 3, none⟩ = some (.slice o4 s.y.length cap4) := HX6.out.cell 3 rfl
            go_wp2_with fail
            clear d0 d1 d2 d3
            refine (copySet_any _ _ _ _ s _ HK6.out.set.rd HL.out).mono ?_
            rintro e w7 ⟨⟨a', b', c', d', rfl, hos⟩, hb7⟩
            obtain ⟨za, la, rfl⟩ := own_slice hos.sh
            obtain ⟨zb, lb, rfl⟩ := own_slice hos.x
            obtain ⟨zc, lc, rfl⟩ := own_slice hos.lb
            obtain ⟨zd, ld, rfl⟩ := own_slice hos.y
            obtain ⟨W8, hW8⟩ : ∃ W8, W8 = w7.alloc (.cells #[.slice za s.sh.length la, .slice zb s.x.length lb, .slice zc s.lb.length lc, .slice zd s.y.length ld] 35) := ⟨_, rfl⟩
            have hal : Below w7.heap.size w7 W8 := by rw [hW8]; exact (Below.refl _ _).alloc (Nat.le_refl _) _
            have hb : Below w6.heap.size w6 W8 := hb7.trans (hal.mono hb7.size)
            have HS8 := Lib.hid (show Box W8 w7.heap.size 35 #[.slice za s.sh.length la, .slice zb s.x.length lb, .slice zc s.lb.length lc, .slice zd s.y.length ld] by rw [hW8]; exact Box.new _ _ _)
            have HOS8 := Lib.hid (hos.below hal (Nat.le_refl _))
            have HW8 := Lib.hid hW8
            have HX8 := Lib.hid (HX6.out.next hb)
            have HTX8 := Lib.hid (HTX6.out.next hb)
            have HTY8 := Lib.hid (HTY6.out.next hb)
            have HB8 := Lib.hid (HB6.out.trans (hb.mono HB6.out.size))
            have HK8 := Lib.hid (HK6.out.below hb)
            have K1 := Lib.hid (G1.out.below hb (Nat.le_refl _))
            have K2 := Lib.hid (G2.out.below hb (Nat.le_refl _))
            have K3 := Lib.hid (G3.out.below hb (Nat.le_refl _))
            have K4 := Lib.hid (G4.out.below hb (Nat.le_refl _))
            have K5 := Lib.hid (G5.out.below hb (Nat.le_refl _))
            have hsz8 := hb.size
            have e0 : W8.cell? ⟨w7.heap.size, 0, none⟩ = some (.slice za s.sh.length la) := HS8.out.cell 0 rfl
            have e1 : W8.cell? ⟨w7.heap.size, 1, none⟩ = some (.slice zb s.x.length lb) := HS8.out.cell 1 rfl
            have e2' : W8.cell? ⟨w7.heap.size, 2, none⟩ = some (.slice zc s.lb.length lc) := HS8.out.cell 2 rfl
            have e3 : W8.cell? ⟨w7.heap.size, 3, none⟩ = some (.slice zd s.y.length ld) := HS8.out.cell 3 rfl
            have d4 : W8.cell? ⟨w0.heap.size, 4, none⟩ = some (.slice oi ids.length ci) := HX8.out.cell 4 rfl
            rw [hW8] at e0 e1 e2' e3 d4
            clear hb hal hb7 hos hW8 HX6 HTX6 HTY6 HB6 HF6 HK6 G1 G2 G3 G4 G5
            go_wp2_with fail
            rw [← HW8.out]
            clear e0 e1 e2' e3 d4 HW8
            refine (batch_any _ _ _ _ s _ _ ids _ HOS8.out.rd HL.out HK8.out.ri (by omega) (own_cap63 HOS8.out.x) (own_cap63 HOS8.out.y)).mono ?_
            rintro e w9 ⟨⟨xs, xd, vl, ys, yd, rfl, hV⟩, hb⟩
            rw [← HCDE.out]
            have g1 : OwnI w9 W8.heap.size 3 .i64 xs PX := by rw [HPX.out]; exact hV.oxs
            have g2 : OwnI w9 W8.heap.size 2 .i64 xd PD := by rw [HPD.out]; exact hV.oxd
            have g3 : OwnI w9 W8.heap.size 3 .i64 vl PL := by rw [HPL.out]; exact hV.ovl
            have g4 : OwnI w9 W8.heap.size 3 .i64 ys PY := by rw [HPY.out]; exact hV.oys
            have g5 : OwnI w9 W8.heap.size 2 .i64 yd PE := by rw [HPE.out]; exact hV.oyd
            have hs1 := hV.s1
            have hs2 := hV.s2
            have hs3 := hV.s3
            have hs4 := hV.s4
            obtain ⟨axs, kxs, rfl⟩ := own_slice g1
            obtain ⟨axd, kxd, rfl⟩ := own_slice g2
            obtain ⟨avl, kvl, rfl⟩ := own_slice g3
            obtain ⟨ays, kys, rfl⟩ := own_slice g4
            obtain ⟨ayd, kyd, rfl⟩ := own_slice g5
            have HSP := Lib.hid (And.intro hs1 (And.intro hs2 (And.intro hs3 hs4)))
            obtain ⟨W10, hW10⟩ : ∃ W10, W10 = ((w9.alloc (.cells #[.slice axs PX.length kxs, .slice axd PD.length kxd] 41)).alloc (.cells #[.slice ays PY.length kys, .slice ayd PE.length kyd] 41)) := ⟨_, rfl⟩
            have hal : Below w9.heap.size w9 W10 := by rw [hW10]; exact ((Below.refl _ _).alloc (Nat.le_refl _) _).alloc (by simp) _
            have HTA10 := Lib.hid (show Box W10 w9.heap.size 41 #[.slice axs PX.length kxs, .slice axd PD.length kxd] by rw [hW10]; exact (Box.new _ _ _).next ((Below.refl _ _).alloc (Nat.le_refl _) _))
            have HTB10 := Lib.hid (show Box W10 (w9.heap.size + 1) 41 #[.slice ays PY.length kys, .slice ayd PE.length kyd] by rw [hW10]; exact Box.new_at (by simp))
            have HC10 := Lib.hid (hb.trans (hal.mono hb.size))
            have hlt1 : ∀ g, (Value.slice axs PX.length kxs).ownBlock = some g → g < w9.heap.size := fun g hg => (g1.lt g hg).2
            have hlt2 : ∀ g, (Value.slice axd PD.length kxd).ownBlock = some g → g < w9.heap.size := fun g hg => (g2.lt g hg).2
            have hlt3 : ∀ g, (Value.slice avl PL.length kvl).ownBlock = some g → g < w9.heap.size := fun g hg => (g3.lt g hg).2
            have HLT := Lib.hid (And.intro hlt1 (And.intro hlt2 hlt3))
            have O1 := Lib.hid (own_below g1 hal (Nat.le_refl _))
            have O2 := Lib.hid (own_below g2 hal (Nat.le_refl _))
            have O3 := Lib.hid (own_below g3 hal (Nat.le_refl _))
            have O4 := Lib.hid (own_below g4 hal (Nat.le_refl _))
            have O5 := Lib.hid (own_below g5 hal (Nat.le_refl _))
            have hsz9 := hb.size
            have HW10 := Lib.hid hW10
            clear hb hal hV g1 g2 g3 g4 g5 hs1 hs2 hs3 hs4 hlt1 hlt2 hlt3 hW10
            go_wp2_with fail
            rw [← HW10.out]
            clear HW10
            refine (eqNumbers_yes (xs := PL) (Rd.of_own O3.out) (K3.out.below HC10.out (Nat.le_refl _)) (by omega)).mono ?_
            rintro e w11 ⟨rfl, hsm⟩
            have hb := hsm.below W10.heap.size
            clear hsm
            have HTA11 := Lib.hid (HTA10.out.next hb)
            have HTB11 := Lib.hid (HTB10.out.next hb)
            have HC11 := Lib.hid (HC10.out.trans (hb.mono HC10.out.size))
            have O1' := Lib.hid (own_below O1.out hb (Nat.le_refl _))
            have O2' := Lib.hid (own_below O2.out hb (Nat.le_refl _))
            have O3' := Lib.hid (own_below O3.out hb (Nat.le_refl _))
            have O4' := Lib.hid (own_below O4.out hb (Nat.le_refl _))
            have O5' := Lib.hid (own_below O5.out hb (Nat.le_refl _))
            have t0 := HTB11.out.cell 0 rfl
            have t1 := HTB11.out.cell 1 rfl
            have t2 := (HTY8.out.next HC11.out).cell 0 rfl
            have t3 := (HTY8.out.next HC11.out).cell 1 rfl
            clear hb HTA10 HTB10 HC10 O1 O2 O3 O4 O5
            go_wp2_with fail
            clear t0 t1 t2 t3
            refine (eqTensor_yes _ _ _ _ PY PE _ ⟨Rd.of_own O4'.out, Rd.of_own O5'.out⟩ ⟨K4.out.below HC11.out (Nat.le_refl _), K5.out.below HC11.out (Nat.le_refl _)⟩ (by omega) (by omega)).mono ?_
            rintro e w12 ⟨rfl, hb⟩
            have HTA12 := Lib.hid (HTA11.out.next hb)
            have HTB12 := Lib.hid (HTB11.out.next hb)
            have HC12 := Lib.hid (HC11.out.trans (hb.mono HC11.out.size))
            have O1 := Lib.hid (own_below O1'.out hb (Nat.le_refl _))
            have O2 := Lib.hid (own_below O2'.out hb (Nat.le_refl _))
            have O3 := Lib.hid (own_below O3'.out hb (Nat.le_refl _))
            have O4 := Lib.hid (own_below O4'.out hb (Nat.le_refl _))
            have O5 := Lib.hid (own_below O5'.out hb (Nat.le_refl _))
            have t0 := HTA12.out.cell 0 rfl
            have t1 := HTA12.out.cell 1 rfl
            have t2 := (HTX8.out.next HC12.out).cell 0 rfl
            have t3 := (HTX8.out.next HC12.out).cell 1 rfl
            clear hb HTA11 HTB11 HC11 O1' O2' O3' O4' O5'
            go_wp2_with fail
            clear t0 t1 t2 t3
            have hC12 := HC12.out.size
            refine (is_any 1 _ _ _ _ PX PD W8.heap.size _ O1.out O2.out ⟨K1.out.below HC12.out (Nat.le_refl _), K2.out.below HC12.out (Nat.le_refl _)⟩ (fun hne => by rw [HCDE.out] at hne; exact ⟨by rw [HPX.out, lsB_no hne], by rw [HPD.out, lsB_no hne]⟩) hC12 (by omega) (by omega)).mono ?_
            rintro e w13 ⟨rfl, hsp⟩
            have HC13 := Lib.hid (HC12.out.trans hsp.below)
            have Q3 := Lib.hid (hsp.own O3.out HSP.out.1 (sep_type O2.out O3.out (by decide)))
            have Q4 := Lib.hid (hsp.own O4.out HSP.out.2.1 (sep_type O2.out O4.out (by decide)))
            have Q5 := Lib.hid (hsp.own O5.out (sep_type O1.out O5.out (by decide)) HSP.out.2.2.2)
            have HTB13 := Lib.hid (hsp.box HTB12.out (fun g hg => by have := HLT.out.1 g hg; omega) (fun g hg => by have := HLT.out.2.1 g hg; omega))
            have hC13 := HC13.out.size
            clear hsp HC12 HTA12 HTB12 O1 O2 O3 O4 O5
            go_wp2_with fail
            refine (law0Numbers_any _ PL W8.heap.size _ Q3.out hC13 (by omega)).mono ?_
            rintro e w14 ⟨rfl, hg14⟩
            have HC14 := Lib.hid (HC13.out.trans (below_grown Q3.out hg14 hC13))
            have R4 := Lib.hid (own_grown Q4.out hg14 HSP.out.2.2.1)
            have R5 := Lib.hid (own_grown Q5.out hg14 (sep_type Q3.out Q5.out (by decide)))
            have HTB14 := Lib.hid (show Box w14 (w9.heap.size + 1) 41 #[.slice ays PY.length kys, .slice ayd PE.length kyd] from (hg14.block _ HTB13.out.lt (fun e => by have := HLT.out.2.2 _ e.symm; omega)).trans HTB13.out)
            have t0 := HTB14.out.cell 0 rfl
            have t1 := HTB14.out.cell 1 rfl
            have hC14 := HC14.out.size
            clear hg14 HC13 Q3 Q4 Q5 HTB13
            go_wp2_with fail
            clear t0 t1
            refine (law0Tensor_any _ _ PY PE W8.heap.size _ R4.out R5.out hC14 (by omega) (by omega)).mono ?_
            rintro e w15 ⟨rfl, hsp⟩
            have HC15 := Lib.hid (HC14.out.trans hsp.below)
            have HB15 := Lib.hid (HB8.out.trans (HC15.out.mono HB8.out.size))
            have t0 := (HS8.out.next HC15.out).cell 0 rfl
            have t1 := (HS8.out.next HC15.out).cell 1 rfl
            have t2 := (HS8.out.next HC15.out).cell 2 rfl
            have t3 := (HS8.out.next HC15.out).cell 3 rfl
            have d0 := (HX8.out.next HC15.out).cell 0 rfl
            have d1 := (HX8.out.next HC15.out).cell 1 rfl
            have d2 := (HX8.out.next HC15.out).cell 2 rfl
            have d3 := (HX8.out.next HC15.out).cell 3 rfl
            clear hsp HC14 R4 R5 HTB14
            go_wp2_with fail
            clear t0 t1 t2 t3 d0 d1 d2 d3
            refine (eqSet_yes _ _ _ _ _ _ _ _ s _ (HOS8.out.rd.below HC15.out (Nat.le_refl _)) (HK8.out.set.rd.below HC15.out (Nat.le_refl _)) HL.out).mono ?_
            rintro e w16 ⟨rfl, hb⟩
            have HB16 := Lib.hid (HB15.out.trans (hb.mono HB15.out.size))
            clear hb
            go_wp2_with fail
            go_roundg (n - (k + 1))
            case rel => exact ⟨k + 1, rfl, by omega, by go_num, HB16.out⟩
            case measure => omega
    · have HE : Hid (k = n ∨ 6 ≤ k) := Lib.hid (by omega)
      have hq : ¬ (k < n ∧ k < 6) := hlt
      clear hlt
      by_cases hkn : k < n
      · have hk6 : decide ((k : Int) < 6) = false := decide_eq_false (by omega)
        go_wp2_with fail
        refine (wakes30_any _).mono ?_
        rintro e w1 ⟨rfl, hb1⟩
        have HB1 := Lib.hid (HB.out.trans (hb1.mono HB.out.size))
        clear hb1
        go_wp2
        go_ret
        exact ⟨rfl, HB1.out⟩
      · have hkd : decide ((k : Int) < n) = false := decide_eq_false (by omega)
        go_wp2_with fail
        refine (wakes30_any _).mono ?_
        rintro e w1 ⟨rfl, hb1⟩
        have HB1 := Lib.hid (HB.out.trans (hb1.mono HB.out.size))
        clear hb1
        go_wp2
        go_ret
        exact ⟨rfl, HB1.out⟩
end Go.Proofs.Ytjhejpeklppmbaa
