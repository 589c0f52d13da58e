/-
  THE LAW DataAll, walked.
-/
import Derived.Test.YtjhejpeklppmbaaAllPlain
import Derived.Test.YtjhejpeklppmbaaEncodesMain
set_option linter.unusedVariables false
set_option linter.unusedSimpArgs false
namespace Go.Proofs.Ytjhejpeklppmbaa
open Go.RowKit Go.Shelf
/-- a slice of (dataset, ids), as the walk wants it -/
structure AskArg (w : World) (b off : Nat) (v0 v1 v2 v3 v4 : Value) (s : SetD) (ids : List Int) : Prop where
  set : SetArg w b off v0 v1 v2 v3 s
  c4 : w.cell? ⟨b, off + 4, none⟩ = some v4
  ri : Rd w .i64 v4 ids
  li : ids.length ≤ 17592186044416
  k1 : ∀ o m c, v1 = .slice o m c → m ≤ c ∧ c ≤ 9223372036854775807
  k3 : ∀ o m c, v3 = .slice o m c → m ≤ c ∧ c ≤ 9223372036854775807
def AsksArg (w : World) (o : Option Addr) (n : Nat) : Prop :=
  ∀ i, i < n → ∃ b off v0 v1 v2 v3 v4 s ids, o = some ⟨b, off, none⟩ ∧ AskArg w b (off + i * 5) v0 v1 v2 v3 v4 s ids
theorem AskArg.below {w w' : World} {b off : Nat} {v0 v1 v2 v3 v4 : Value} {s : SetD} {ids : List Int} (h : AskArg w b off v0 v1 v2 v3 v4 s ids) (hB : Below w.heap.size w w') : AskArg w' b off v0 v1 v2 v3 v4 s ids :=
  ⟨h.set.below hB, (hB.cell (cell_lt h.c4)).trans h.c4, h.ri.below hB (Nat.le_refl _), h.li, h.k1, h.k3⟩
set_option maxRecDepth 100000 in
set_option maxHeartbeats 8000000 in
theorem all_any (o : Option Addr) (n cap : Nat) (w : World) (hn : n ≤ 140737488351232) (ha : AsksArg w o n) :
    Calls Try.prog 4 #[.slice o n cap] w fun e w' => e = .returned (.bool true) ∧ Below w.heap.size w w' := by
  have HA := Lib.hid ha
  clear ha
  go_enter Try.func4, Try.ntmps4
  go_wp2_with fail
  go_loopg [3] n (fun g i wr => ∃ k : Nat, g = n - k ∧ k ≤ n ∧ i = .int .i64 k ∧ Below w.heap.size w wr)
  case atStart => exact ⟨0, rfl, Nat.zero_le _, rfl, Below.refl _ _⟩
  case round =>
    obtain ⟨k, hg, hk, rfl, hB⟩ := hrel
    obtain ⟨w0, rfl⟩ : ∃ w0, w0 = wr := ⟨_, rfl⟩
    have HB := Lib.hid hB
    clear hB
    by_cases hlt : k < n ∧ k < 6
    · obtain ⟨hkn, hk6⟩ := hlt
      obtain ⟨b, off, v0, v1, v2, v3, v4, s, ids, ho, hs⟩ := HA.out k hkn
      subst ho
      obtain ⟨o1, cap1, rfl⟩ := rd_slice hs.set.rd.sh
      obtain ⟨o2, cap2, rfl⟩ := rd_slice hs.set.rd.x
      obtain ⟨o3, cap3, rfl⟩ := rd_slice hs.set.rd.lb
      obtain ⟨o4, cap4, rfl⟩ := rd_slice hs.set.rd.y
      have HCB := Lib.hid hs.k1
      have HCD := Lib.hid hs.k3
      have hs0 := hs.below HB.out
      have HR0 := Lib.hid hs0.set.rd
      obtain ⟨q0, q1, q2, q3, _, m0, m1, m2, m3⟩ := hs0.set
      obtain ⟨W1, hW1⟩ : ∃ W1, W1 = w0.alloc (.cells #[.slice o1 s.sh.length cap1, .slice o2 s.x.length cap2, .slice o3 s.lb.length cap3, .slice o4 s.y.length cap4] 35) := ⟨_, rfl⟩
      have hal : Below w0.heap.size w0 W1 := by rw [hW1]; exact (Below.refl _ _).alloc (Nat.le_refl _) _
      have HX1 := Lib.hid (show Box W1 w0.heap.size 35 #[.slice o1 s.sh.length cap1, .slice o2 s.x.length cap2, .slice o3 s.lb.length cap3, .slice o4 s.y.length cap4] by rw [hW1]; exact Box.new _ _ _)
      have HR1 := Lib.hid (HR0.out.below hal (Nat.le_refl _))
      have HB1 := Lib.hid (HB.out.trans (hal.mono HB.out.size))
      have HW1 := Lib.hid hW1
      have hsz1 := hal.size
      have d0 : W1.cell? ⟨w0.heap.size, 0, none⟩ = some (.slice o1 s.sh.length cap1) := HX1.out.cell 0 rfl
      have d1 : W1.cell? ⟨w0.heap.size, 1, none⟩ = some (.slice o2 s.x.length cap2) := HX1.out.cell 1 rfl
      have d2 : W1.cell? ⟨w0.heap.size, 2, none⟩ = some (.slice o3 s.lb.length cap3) := HX1.out.cell 2 rfl
      have d3 : W1.cell? ⟨w0.heap.size, 3, none⟩ = some (.slice o4 s.y.length cap4) := HX1.out.cell 3 rfl
      rw [hW1] at d0 d1 d2 d3
      clear hs hs0 hal hW1
      go_wp2_with fail
      rw [← HW1.out]
      clear HW1 d0 d1 d2 d3 q0 q1 q2 q3
      refine (heavy30_any _ _ _ _ s _ HR1.out ⟨by omega, by omega, by omega, by omega⟩).mono ?_
      rintro e w2 ⟨rfl, hb⟩
      have HX2 := Lib.hid (HX1.out.next hb)
      have HR2 := Lib.hid (HR1.out.below hb (Nat.le_refl _))
      have HB2 := Lib.hid (HB1.out.trans (hb.mono HB1.out.size))
      clear hb HX1 HR1 HB1 m0 m1 m2 m3
      cases hh : heavyS s with
      | true =>
        clear hh
        go_wp2_with fail
        go_roundg (n - (k + 1))
        case rel => exact ⟨k + 1, rfl, by omega, by go_num, HB2.out⟩
        case measure => omega
      | false =>
        have hlim := heavy_lim hh
        have HL := Lib.hid (show LimSet s from ⟨by omega, by omega, by omega, by omega⟩)
        have hx400 : s.x.length ≤ 400 := hlim.2.1
        have hy400 : s.y.length ≤ 400 := hlim.2.2.2
        have hl400 : s.lb.length ≤ 400 := hlim.2.2.1
        clear hh hlim
        have d0 : w2.cell? ⟨w0.heap.size, 0, none⟩ = some (.slice o1 s.sh.length cap1) := HX2.out.cell 0 rfl
        have d1 : w2.cell? ⟨w0.heap.size, 1, none⟩ = some (.slice o2 s.x.length cap2) := HX2.out.cell 1 rfl
        have d2 : w2.cell? ⟨w0.heap.size, 2, none⟩ = some (.slice o3 s.lb.length cap3) := HX2.out.cell 2 rfl
        have d3 : w2.cell? ⟨w0.heap.size, 3, none⟩ = some (.slice o4 s.y.length cap4) := HX2.out.cell 3 rfl
        go_wp2_with fail
        refine (ref30May_any _ _ _ _ s _ HR2.out HL.out).mono ?_
        rintro e w3 ⟨rfl, hb⟩
        have HX3 := Lib.hid (HX2.out.next hb)
        have HR3 := Lib.hid (HR2.out.below hb (Nat.le_refl _))
        have HB3 := Lib.hid (HB2.out.trans (hb.mono HB2.out.size))
        clear hb HX2 HR2 HB2 d0 d1 d2 d3
        cases hg : goodSet s with
        | false =>
          clear hg
          go_wp2_with fail
          go_roundg (n - (k + 1))
          case rel => exact ⟨k + 1, rfl, by omega, by go_num, HB3.out⟩
          case measure => omega
        | true =>
          have hgp := (goodSet_parts hg).1
          obtain ⟨h4, hall, hp⟩ := shapeB_parts hgp
          obtain ⟨N, size, many, hN⟩ := goodN hg
          have HG := Lib.hid hg
          have HN := Lib.hid hN
          have HSH := Lib.hid (And.intro h4 (And.intro hall hp))
          have hs1 := hN.s1
          have hn1 := hN.n1
          have hxN := hN.hx
          have hsz0 : ((size : Int) == 0) = false := beq0_false size (by omega)
          have hsb : size ≤ s.x.length := by rw [hxN]; exact Nat.le_mul_of_pos_left _ hn1
          have hnb : N ≤ s.x.length := by rw [hxN]; exact Nat.le_mul_of_pos_right _ hs1
          have hdv : (s.x.length : Int) / (size : Int) = N := by rw [hxN, Int.natCast_mul]; exact Int.mul_ediv_cancel _ (by omega)
          have HDV := Lib.hid hdv
          have d0 := HX3.out.cell 0 rfl
          clear hg hgp h4 hall hp hN hxN hdv
          go_wp2_with fail
          refine (ref6Count_any _ s.sh _ HR3.out.sh HSH.out.2.1 HSH.out.1).mono ?_
          rintro e w4 ⟨rfl, hs4⟩
          rw [cnt_of HSH.out.2.2, ← HN.out.hs]
          have hb : Below w3.heap.size w3 w4 := hs4.below _
          clear hs4 d0
          have HX4 := Lib.hid (HX3.out.next hb)
          have HR4 := Lib.hid (HR3.out.below hb (Nat.le_refl _))
          have HB4 := Lib.hid (HB3.out.trans (hb.mono HB3.out.size))
          have hsz4 := hb.size
          clear hb HX3 HR3 HB3
          have d1 := HX4.out.cell 1 rfl
          have hq1 : 0 ≤ (s.x.length : Int) / (size : Int) := by rw [HDV.out]; omega
          have hq2 : (s.x.length : Int) / (size : Int) ≤ 400 := by rw [HDV.out]; omega
          go_wp2_with fail
          rw [HDV.out]
          clear d1 hq1 hq2
          go_loopg [7, 9] N (fun g v i wr => ∃ j : Nat, g = N - j ∧ j ≤ N ∧ i = .int .i64 j ∧ OwnI wr w4.heap.size 3 .i64 v (rangeI j) ∧ Below w4.heap.size w4 wr)
          case atStart => exact ⟨0, rfl, Nat.zero_le _, rfl, World.ownsRow_nil _ _ _ _, Below.refl _ _⟩
          case round =>
            obtain ⟨j, hgj, hj, rfl, hown, hbw⟩ := hrel
            have HBW := Lib.hid hbw
            have HOW := Lib.hid hown
            clear hown hbw
            by_cases hlt : j < N
            · obtain ⟨JL, hJL⟩ : ∃ JL, JL = rangeI j := ⟨_, rfl⟩
              have hjl : JL.length = j := by rw [hJL]; exact rangeI_length j
              rw [← hJL] at HOW
              have HJL := Lib.hid hJL
              have HJLL := Lib.hid hjl
              clear hJL hjl
              obtain ⟨av, cv, rfl⟩ := own_slice HOW.out
              obtain ⟨i0, hi, hz0, hz1, hz2⟩ := info_parts info_i
              go_wp2_with (at_builtin; refine wpList_append_own _ rfl _ _ 32 rfl w4.heap.size 3 i0 (.int .i64 0) 1 8 Try.underlying32 hi hz0 hz1 hz2 rfl (by decide) _ _ _ rfl (HOW.out.alloc _) ⟨wr.heap.size, 0, none⟩ 1 1 [.int .i64 j] rfl rfl (cell_one_new _ _ _) (by simp [Value.oneCell']) (by have := HJLL.out; unfold maxLen; omega) (by have := HJLL.out; omega) (by have := HBW.out.size; simp; omega) ?_; intro v' w1 hown' hgrow hat; clear hi hz0 hz1 hz2)
              go_roundg (N - (j + 1))
              case rel =>
                refine ⟨j + 1, rfl, by omega, by go_num, ?_, below_append' HBW.out (Nat.le_refl _) HOW.out hgrow⟩
                rw [rangeI_succ, ← HJL.out]
                exact own_snoc hown'
              case measure => omega
            · obtain rfl : N = j := by omega
              obtain ⟨w5, rfl⟩ : ∃ w5, w5 = wr := ⟨_, rfl⟩
              obtain ⟨AL, hAL⟩ : ∃ AL, AL = rangeI N := ⟨_, rfl⟩
              have hall : AL.length = N := by rw [hAL]; exact rangeI_length N
              rw [← hAL] at HOW
              have HAL := Lib.hid hAL
              have HALL := Lib.hid hall
              clear hAL hall
              obtain ⟨aa, ka, rfl⟩ := own_slice HOW.out
              have hb := HBW.out
              have HAO5 := Lib.hid HOW.out
              clear HBW HOW
              have HX5 := Lib.hid (HX4.out.next hb)
              have HR5 := Lib.hid (HR4.out.below hb (Nat.le_refl _))
              have HB5 := Lib.hid (HB4.out.trans (hb.mono HB4.out.size))
              have hsz5 := hb.size
              clear hb HX4 HR4 HB4
              obtain ⟨i0, hi, hz0, hz1, hz2⟩ := info_parts info_i
              have HZ := Lib.hid (And.intro hi (And.intro hz0 (And.intro hz1 hz2)))
              clear hi hz0 hz1 hz2
              go_wp2_with (at_builtin; refine stopHere ?_)
              refine goOn ?_
              refine wpList_append_rd rfl _ _ 32 rfl w5.heap.size 3 .i64 i0 8 Try.underlying32 HZ.out.1 HZ.out.2.1 HZ.out.2.2.1 HZ.out.2.2.2 _ [] rfl (World.ownsRow_nil w5 _ _ _) _ AL rfl (Rd.of_own HAO5.out) (by have := HALL.out; unfold maxLen; simp; omega) (by have := HALL.out; simp; omega) (Nat.le_refl _) ?_
              intro v6 w6 hown6 hgrow6 hat6
              rw [List.nil_append] at hown6
              obtain ⟨a6, k6, rfl⟩ := own_slice hown6
              have hb56 := grown_below hgrow6
              have HT6 := Lib.hid hown6
              have HAO6 := Lib.hid (own_below HAO5.out hb56 (Nat.le_refl _))
              have hsz6 := hb56.size
              have HB56 := Lib.hid hb56
              clear hown6 hgrow6 hat6 hb56
              go_wp2_with (at_builtin; refine stopHere ?_)
              refine goOn ?_
              refine wpList_append_rd rfl _ _ 32 rfl w5.heap.size 3 .i64 i0 8 Try.underlying32 HZ.out.1 HZ.out.2.1 HZ.out.2.2.1 HZ.out.2.2.2 _ AL rfl HT6.out _ AL rfl (Rd.of_own HAO6.out) (by have := HALL.out; unfold maxLen; omega) (by have := HALL.out; omega) hsz6 ?_
              intro v7 w7 hown7 hgrow7 hat7
              have hb := HB56.out.trans (below_grown HT6.out (show w6.grownBy w7 (Value.slice a6 AL.length k6).ownBlock from hgrow7) hsz6)
              obtain ⟨TW, hTW⟩ : ∃ TW, TW = AL ++ AL := ⟨_, rfl⟩
              have htl : TW.length = 2 * N := by rw [hTW, List.length_append, HALL.out]; omega
              rw [← hTW] at hown7
              obtain ⟨a7, k7, rfl⟩ := own_slice hown7
              have HTO7 := Lib.hid hown7
              have HTW := Lib.hid hTW
              have HTL := Lib.hid htl
              clear hown7 hgrow7 hat7 hTW htl HT6 HAO6 HB56
              have HX7 := Lib.hid (HX5.out.next hb)
              have HR7 := Lib.hid (HR5.out.below hb (Nat.le_refl _))
              have HB7 := Lib.hid (HB5.out.trans (hb.mono HB5.out.size))
              have HAO7 := Lib.hid (own_below HAO5.out hb (Nat.le_refl _))
              have hsz7 := hb.size
              clear hb HX5 HR5 HB5 HAO5
              have HBA := Lib.hid (show idsBad s AL = false by rw [HAL.out]; exact not_bad HN.out hx400 _ (by rw [rangeI_length]; exact hn1) (by rw [rangeI_length]; omega) (idsB_range _ _ (Int.le_refl _)))
              have HBU := Lib.hid (show budB s AL = false by rw [HAL.out]; exact bud_ok HN.out HG.out _ (by rw [rangeI_length]; exact hn1) (by rw [rangeI_length]; omega) hx400 hy400)
              have d0 : w7.cell? ⟨w0.heap.size, 0, none⟩ = some (.slice o1 s.sh.length cap1) := HX7.out.cell 0 rfl
              have d1 : w7.cell? ⟨w0.heap.size, 1, none⟩ = some (.slice o2 s.x.length cap2) := HX7.out.cell 1 rfl
              have d2 : w7.cell? ⟨w0.heap.size, 2, none⟩ = some (.slice o3 s.lb.length cap3) := HX7.out.cell 2 rfl
              have d3 : w7.cell? ⟨w0.heap.size, 3, none⟩ = some (.slice o4 s.y.length cap4) := HX7.out.cell 3 rfl
              go_wp2_with fail
              clear d0 d1 d2 d3
              refine (batch_ok _ _ _ _ s _ _ AL _ HR7.out HL.out HG.out (Rd.of_own HAO7.out) (by have := HALL.out; omega) HBA.out HBU.out HCB.out HCD.out).mono ?_
              rintro e w8 ⟨xs, xd, vl, ys, yd, rfl, g1, g2, g3, g4, g5, hb⟩
              rw [HAL.out, batchX_all HN.out] at g2
              rw [HAL.out, batchL_all HN.out] at g3
              rw [HAL.out, batchY_all HN.out] at g5
              obtain ⟨axs, kxs, rfl⟩ := own_slice g1
              obtain ⟨axd, kxd, rfl⟩ := own_slice g2
              obtain ⟨avl, kvl, rfl⟩ := own_slice g3
              obtain ⟨ays, kys, rfl⟩ := own_slice g4
              obtain ⟨ayd, kyd, rfl⟩ := own_slice g5
              have HC1 := Lib.hid (Rd.of_own g1)
              have HC2 := Lib.hid (Rd.of_own g2)
              have HC3 := Lib.hid (Rd.of_own g3)
              have HC4 := Lib.hid (Rd.of_own g4)
              have HC5 := Lib.hid (Rd.of_own g5)
              clear g1 g2 g3 g4 g5
              have HX8 := Lib.hid (HX7.out.next hb)
              have HR8 := Lib.hid (HR7.out.below hb (Nat.le_refl _))
              have HB8 := Lib.hid (HB7.out.trans (hb.mono HB7.out.size))
              have HAO8 := Lib.hid (own_below HAO7.out hb (Nat.le_refl _))
              have HTO8 := Lib.hid (own_below HTO7.out hb (Nat.le_refl _))
              have hsz8 := hb.size
              clear hb HX7 HR7 HB7 HAO7 HTO7
              obtain ⟨W9, hW9⟩ : ∃ W9, W9 = ((w8.alloc (.cells #[.slice axs (s.sh.length + 1) kxs, .slice axd s.x.length kxd] 41)).alloc (.cells #[.slice ays (yShape s AL).length kys, .slice ayd s.y.length kyd] 41)) := ⟨_, rfl⟩
              have hb : Below w8.heap.size w8 W9 := by rw [hW9]; exact ((Below.refl _ _).alloc (Nat.le_refl _) _).alloc (by simp) _
              have HXA9 := Lib.hid (show Box W9 w8.heap.size 41 #[.slice axs (s.sh.length + 1) kxs, .slice axd s.x.length kxd] by rw [hW9]; exact (Box.new _ _ _).next ((Below.refl _ _).alloc (Nat.le_refl _) _))
              have HXB9 := Lib.hid (show Box W9 (w8.heap.size + 1) 41 #[.slice ays (yShape s AL).length kys, .slice ayd s.y.length kyd] by rw [hW9]; exact Box.new_at (by simp))
              have HC2' := Lib.hid (HC2.out.below hb (Nat.le_refl _))
              have HC3' := Lib.hid (HC3.out.below hb (Nat.le_refl _))
              have HC5' := Lib.hid (HC5.out.below hb (Nat.le_refl _))
              have HX9 := Lib.hid (HX8.out.next hb)
              have HR9 := Lib.hid (HR8.out.below hb (Nat.le_refl _))
              have HB9 := Lib.hid (HB8.out.trans (hb.mono HB8.out.size))
              have HAO9 := Lib.hid (own_below HAO8.out hb (Nat.le_refl _))
              have HTO9 := Lib.hid (own_below HTO8.out hb (Nat.le_refl _))
              have hsz9 := hb.size
              clear hb HX8 HR8 HB8 HAO8 HTO8
              have d0 : W9.cell? ⟨w0.heap.size, 0, none⟩ = some (.slice o1 s.sh.length cap1) := HX9.out.cell 0 rfl
              have d1 : W9.cell? ⟨w0.heap.size, 1, none⟩ = some (.slice o2 s.x.length cap2) := HX9.out.cell 1 rfl
              have d2 : W9.cell? ⟨w0.heap.size, 2, none⟩ = some (.slice o3 s.lb.length cap3) := HX9.out.cell 2 rfl
              have d3 : W9.cell? ⟨w0.heap.size, 3, none⟩ = some (.slice o4 s.y.length cap4) := HX9.out.cell 3 rfl
              have t1 : W9.cell? ⟨w8.heap.size, 1, none⟩ = some (.slice axd s.x.length kxd) := HXA9.out.cell 1 rfl
              have t3 : W9.cell? ⟨w8.heap.size + 1, 1, none⟩ = some (.slice ayd s.y.length kyd) := HXB9.out.cell 1 rfl
              have HW9 := Lib.hid hW9
              clear hW9 HC1 HC2 HC3 HC4 HC5
              rw [HW9.out] at d0 d1 d2 d3 t1 t3
              go_wp2_with fail
              rw [← HW9.out] at d0 d1 d2 d3 t1 t3 ⊢
              refine (num30_any _ _).mono ?_
              rintro e w' ⟨rfl, rfl⟩
              go_wp2_with fail
              refine (num30_any _ _).mono ?_
              rintro e w' ⟨rfl, rfl⟩
              go_wp2_with fail
              refine (eqWords_yes (xs := s.x) HC2'.out HR9.out.x (by omega)).mono ?_
              rintro e w' ⟨rfl, m1, rfl⟩
              go_wp2_with fail
              refine (eqNumbers_yes (xs := s.lb) (HC3'.out.same ⟨_, rfl⟩) (HR9.out.lb.same ⟨_, rfl⟩) (by omega)).mono ?_
              rintro e w' ⟨rfl, m2, rfl⟩
              go_wp2_with fail
              refine (eqWords_yes (xs := s.y) (HC5'.out.same ⟨_, rfl⟩) (HR9.out.y.same ⟨_, rfl⟩) (by omega)).mono ?_
              rintro e w' ⟨rfl, m3, rfl⟩
              go_wp2_with fail
              clear d0 d1 d2 d3 t1 t3 HW9 HXA9 HXB9 HC2' HC3' HC5'
              have hb : Below W9.heap.size W9 (W9.drewN (m1 + (m2 + m3))) := below_drewN (Below.refl _ _) _
              rw [← Nat.add_assoc] at hb
              generalize W9.drewN (m1 + m2 + m3) = w10 at hb ⊢
              have HX10 := Lib.hid (HX9.out.next hb)
              have HR10 := Lib.hid (HR9.out.below hb (Nat.le_refl _))
              have HB10 := Lib.hid (HB9.out.trans (hb.mono HB9.out.size))
              have HTO10 := Lib.hid (own_below HTO9.out hb (Nat.le_refl _))
              have hsz10 := hb.size
              clear hb HX9 HR9 HB9 HTO9
              clear HAO9
              have HBA := Lib.hid (show idsBad s TW = false by rw [HTW.out, HAL.out]; exact not_bad HN.out hx400 _ (by rw [List.length_append, rangeI_length]; omega) (by rw [List.length_append, rangeI_length]; omega) (by rw [idsB_append, idsB_range _ _ (Int.le_refl _)]; rfl))
              have HBU := Lib.hid (show budB s TW = false by rw [HTW.out, HAL.out]; exact bud_ok HN.out HG.out _ (by rw [List.length_append, rangeI_length]; omega) (by rw [List.length_append, rangeI_length]; omega) hx400 hy400)
              refine (batch_ok _ _ _ _ s _ _ TW _ HR10.out HL.out HG.out (Rd.of_own HTO10.out) (by have := HTL.out; omega) HBA.out HBU.out HCB.out HCD.out).mono ?_
              rintro e w11 ⟨xs, xd, vl, ys, yd, rfl, g1, g2, g3, g4, g5, hb⟩
              rw [HTW.out, batchX_append, HAL.out, batchX_all HN.out] at g2
              rw [HTW.out, batchL_append, HAL.out, batchL_all HN.out] at g3
              rw [HTW.out, batchY_append, HAL.out, batchY_all HN.out] at g5
              obtain ⟨XX, hXX⟩ : ∃ XX, XX = s.x ++ s.x := ⟨_, rfl⟩
              obtain ⟨LL, hLL⟩ : ∃ LL, LL = s.lb ++ s.lb := ⟨_, rfl⟩
              obtain ⟨YY, hYY⟩ : ∃ YY, YY = s.y ++ s.y := ⟨_, rfl⟩
              rw [← hXX] at g2
              rw [← hLL] at g3
              rw [← hYY] at g5
              have HXX := Lib.hid hXX
              have HLL := Lib.hid hLL
              have HYY := Lib.hid hYY
              have hxx : XX.length ≤ 800 := by rw [hXX, List.length_append]; omega
              have hll : LL.length ≤ 800 := by rw [hLL, List.length_append]; omega
              have hyy : YY.length ≤ 800 := by rw [hYY, List.length_append]; omega
              obtain ⟨bxs, lxs, rfl⟩ := own_slice g1
              obtain ⟨bxd, lxd, rfl⟩ := own_slice g2
              obtain ⟨bvl, lvl, rfl⟩ := own_slice g3
              obtain ⟨bys, lys, rfl⟩ := own_slice g4
              obtain ⟨byd, lyd, rfl⟩ := own_slice g5
              have HC1 := Lib.hid (Rd.of_own g1)
              have HC2 := Lib.hid (Rd.of_own g2)
              have HC3 := Lib.hid (Rd.of_own g3)
              have HC4 := Lib.hid (Rd.of_own g4)
              have HC5 := Lib.hid (Rd.of_own g5)
              clear g1 g2 g3 g4 g5 hXX hLL hYY
              have HX11 := Lib.hid (HX10.out.next hb)
              have HR11 := Lib.hid (HR10.out.below hb (Nat.le_refl _))
              have HB11 := Lib.hid (HB10.out.trans (hb.mono HB10.out.size))
              have hsz11 := hb.size
              clear hb HX10 HR10 HB10
              obtain ⟨W12, hW12⟩ : ∃ W12, W12 = ((w11.alloc (.cells #[.slice bxs (s.sh.length + 1) lxs, .slice bxd XX.length lxd] 41)).alloc (.cells #[.slice bys (yShape s TW).length lys, .slice byd YY.length lyd] 41)) := ⟨_, rfl⟩
              have hb : Below w11.heap.size w11 W12 := by rw [hW12]; exact ((Below.refl _ _).alloc (Nat.le_refl _) _).alloc (by simp) _
              have HXA12 := Lib.hid (show Box W12 w11.heap.size 41 #[.slice bxs (s.sh.length + 1) lxs, .slice bxd XX.length lxd] by rw [hW12]; exact (Box.new _ _ _).next ((Below.refl _ _).alloc (Nat.le_refl _) _))
              have HXB12 := Lib.hid (show Box W12 (w11.heap.size + 1) 41 #[.slice bys (yShape s TW).length lys, .slice byd YY.length lyd] by rw [hW12]; exact Box.new_at (by simp))
              have HC2' := Lib.hid (HC2.out.below hb (Nat.le_refl _))
              have HC3' := Lib.hid (HC3.out.below hb (Nat.le_refl _))
              have HC5' := Lib.hid (HC5.out.below hb (Nat.le_refl _))
              have HX12 := Lib.hid (HX11.out.next hb)
              have HR12 := Lib.hid (HR11.out.below hb (Nat.le_refl _))
              have HB12 := Lib.hid (HB11.out.trans (hb.mono HB11.out.size))
              have hsz12 := hb.size
              clear hb HX11 HR11 HB11
              have d0 : W12.cell? ⟨w0.heap.size, 0, none⟩ = some (.slice o1 s.sh.length cap1) := HX12.out.cell 0 rfl
              have d1 : W12.cell? ⟨w0.heap.size, 1, none⟩ = some (.slice o2 s.x.length cap2) := HX12.out.cell 1 rfl
              have d2 : W12.cell? ⟨w0.heap.size, 2, none⟩ = some (.slice o3 s.lb.length cap3) := HX12.out.cell 2 rfl
              have d3 : W12.cell? ⟨w0.heap.size, 3, none⟩ = some (.slice o4 s.y.length cap4) := HX12.out.cell 3 rfl
              have t1 : W12.cell? ⟨w11.heap.size, 1, none⟩ = some (.slice bxd XX.length lxd) := HXA12.out.cell 1 rfl
              have t3 : W12.cell? ⟨w11.heap.size + 1, 1, none⟩ = some (.slice byd YY.length lyd) := HXB12.out.cell 1 rfl
              have HW12 := Lib.hid hW12
              clear hW12 HC1 HC2 HC3 HC4 HC5
              rw [HW12.out] at d0 d1 d2 d3 t1 t3
              go_wp2_with fail
              rw [← HW12.out]
              clear d0 d1 d2 d3 t1 t3 HW12
              have HX := Lib.hid (show Below W12.heap.size W12 W12.drew from Below.drew (Below.refl _ _))
              obtain ⟨i1, hj, hy0, hy1, hy2⟩ := info_parts info_int64'
              have HZ1 := Lib.hid (And.intro hj (And.intro hy0 (And.intro hy1 hy2)))
              clear hj hy0 hy1 hy2
              go_cut [149] (fun s149 wx => s149 = .bool false ∧ Below W12.heap.size W12 wx)
              case first =>
                --<R19
                go_region_held3 (fun w' => w'.cell? ⟨w0.heap.size, 1, none⟩ = some (.slice o2 s.x.length cap2) ∧ w'.cell? ⟨w0.heap.size, 2, none⟩ = some (.slice o3 s.lb.length cap3) ∧ w'.cell? ⟨w0.heap.size, 3, none⟩ = some (.slice o4 s.y.length cap4) ∧ w'.cell? ⟨w11.heap.size, 1, none⟩ = some (.slice bxd XX.length lxd) ∧ w'.cell? ⟨w11.heap.size + 1, 1, none⟩ = some (.slice byd YY.length lyd)) (exact keep5 HX12.out HXA12.out HXB12.out HX.out)
                  (first
                  | (go_at_call 16; refine (num30_any _ _).mono ?_; rintro e w' ⟨rfl, rfl⟩)
                  | (go_at_call_of 19 o2; refine (copyWords_any _ s.x _ (HR12.out.x.below HX.out (Nat.le_refl _)) (by omega)).mono ?_; rintro e wzX ⟨vzX, rfl, hoz, hbz⟩; obtain ⟨azX, kzX, rfl⟩ := own_slice hoz; have HOX := Lib.hid hoz; have HSBX := Lib.hid (Nat.le_trans HX.out.size (Nat.le_refl _)); have HX := Lib.hid (HX.out.trans (hbz.mono HX.out.size)); have HSZX := Lib.hid hbz.size; clear hoz hbz)
                  | (refine step_append_rdg rfl (.tmp 120) (.tmp 122) 33 rfl _ 2 .i64 i1 8 Try.underlying33 HZ1.out.1 HZ1.out.2.1 HZ1.out.2.2.1 HZ1.out.2.2.2 _ s.x rfl HOX.out _ s.x rfl (HR12.out.x.below HX.out (Nat.le_refl _)) (by unfold maxLen; omega) (by omega) HSZX.out ?_; intro vaX waX hoa hga hata; have HX := Lib.hid (HX.out.trans ((below_grown HOX.out hga HSZX.out).mono HSBX.out)); rw [← HXX.out] at hoa; obtain ⟨aaX, kaX, rfl⟩ := own_slice hoa; have HAX := Lib.hid hoa; clear hoa hga hata)
                  | (go_at_call_of 17 bxd; refine (eqWords_yes (xs := XX) (HC2'.out.below HX.out (Nat.le_refl _)) (Rd.of_own HAX.out) (by omega)).mono ?_; rintro e weX ⟨rfl, hsm⟩; have HX := Lib.hid (HX.out.trans (hsm.below _)); clear hsm)
                  | (go_at_call_of 20 o3; refine (copyNumbers_any _ s.lb _ (HR12.out.lb.below HX.out (Nat.le_refl _)) (by omega)).mono ?_; rintro e wzL ⟨vzL, rfl, hoz, hbz⟩; obtain ⟨azL, kzL, rfl⟩ := own_slice hoz; have HOL := Lib.hid hoz; have HSBL := Lib.hid (Nat.le_trans HX.out.size (Nat.le_refl _)); have HX := Lib.hid (HX.out.trans (hbz.mono HX.out.size)); have HSZL := Lib.hid hbz.size; clear hoz hbz)
                  | (refine step_append_rdg rfl (.tmp 130) (.tmp 132) 32 rfl _ 3 .i64 i0 8 Try.underlying32 HZ.out.1 HZ.out.2.1 HZ.out.2.2.1 HZ.out.2.2.2 _ s.lb rfl HOL.out _ s.lb rfl (HR12.out.lb.below HX.out (Nat.le_refl _)) (by unfold maxLen; omega) (by omega) HSZL.out ?_; intro vaL waL hoa hga hata; have HX := Lib.hid (HX.out.trans ((below_grown HOL.out hga HSZL.out).mono HSBL.out)); rw [← HLL.out] at hoa; obtain ⟨aaL, kaL, rfl⟩ := own_slice hoa; have HAL := Lib.hid hoa; clear hoa hga hata)
                  | (go_at_call_of 18 bvl; refine (eqNumbers_yes (xs := LL) (HC3'.out.below HX.out (Nat.le_refl _)) (Rd.of_own HAL.out) (by omega)).mono ?_; rintro e weL ⟨rfl, hsm⟩; have HX := Lib.hid (HX.out.trans (hsm.below _)); clear hsm)
                  | (go_at_call_of 19 o4; refine (copyWords_any _ s.y _ (HR12.out.y.below HX.out (Nat.le_refl _)) (by omega)).mono ?_; rintro e wzY ⟨vzY, rfl, hoz, hbz⟩; obtain ⟨azY, kzY, rfl⟩ := own_slice hoz; have HOY := Lib.hid hoz; have HSBY := Lib.hid (Nat.le_trans HX.out.size (Nat.le_refl _)); have HX := Lib.hid (HX.out.trans (hbz.mono HX.out.size)); have HSZY := Lib.hid hbz.size; clear hoz hbz)
                  | (refine step_append_rdg rfl (.tmp 142) (.tmp 144) 33 rfl _ 2 .i64 i1 8 Try.underlying33 HZ1.out.1 HZ1.out.2.1 HZ1.out.2.2.1 HZ1.out.2.2.2 _ s.y rfl HOY.out _ s.y rfl (HR12.out.y.below HX.out (Nat.le_refl _)) (by unfold maxLen; omega) (by omega) HSZY.out ?_; intro vaY waY hoa hga hata; have HX := Lib.hid (HX.out.trans ((below_grown HOY.out hga HSZY.out).mono HSBY.out)); rw [← HYY.out] at hoa; obtain ⟨aaY, kaY, rfl⟩ := own_slice hoa; have HAY := Lib.hid hoa; clear hoa hga hata)
                  | (go_at_call_of 17 byd; refine (eqWords_yes (xs := YY) (HC5'.out.below HX.out (Nat.le_refl _)) (Rd.of_own HAY.out) (by omega)).mono ?_; rintro e weY ⟨rfl, hsm⟩; have HX := Lib.hid (HX.out.trans (hsm.below _)); clear hsm))
                all_goals (go_wp2_with fail; go_meet; exact ⟨rfl, HX.out⟩)
                --R19>
              case rest =>
                obtain ⟨rfl, hb⟩ := hcut
                obtain ⟨w13, rfl⟩ : ∃ w13, w13 = wc := ⟨_, rfl⟩
                clear HX
                have HX13 := Lib.hid (HX12.out.next hb)
                have HR13 := Lib.hid (HR12.out.below hb (Nat.le_refl _))
                have HB13 := Lib.hid (HB12.out.trans (hb.mono HB12.out.size))
                have hsz13 := hb.size
                clear hb HX12 HR12 HB12
                go_wp2_with fail
                go_loopg [18] N (fun g i wr => ∃ j : Nat, g = N - j ∧ j ≤ N ∧ i = .int .i64 j ∧ Below w13.heap.size w13 wr)
                case atStart => exact ⟨0, rfl, Nat.zero_le _, rfl, Below.refl _ _⟩
                case round =>
                  obtain ⟨j, hgj, hj, rfl, hbw⟩ := hrel
                  obtain ⟨w14, rfl⟩ : ∃ w14, w14 = wr := ⟨_, rfl⟩
                  have hb := hbw
                  have HV14 := Lib.hid hbw
                  clear hbw
                  have HX14 := Lib.hid (HX13.out.next hb)
                  have HR14 := Lib.hid (HR13.out.below hb (Nat.le_refl _))
                  have HB14 := Lib.hid (HB13.out.trans (hb.mono HB13.out.size))
                  have hsz14 := hb.size
                  clear hb
                  by_cases hlt : j < N
                  · have jl1 : [(j : Int)].length = 1 := rfl
                    obtain ⟨JL, hJL⟩ : ∃ JL, JL = [(j : Int)] := ⟨_, rfl⟩
                    have hjl : JL.length = 1 := by rw [hJL]; rfl
                    have HJL := Lib.hid hJL
                    have hbx : batchX s JL = (s.x.drop (j * size)).take size := by rw [hJL]; exact batchX_one HN.out j
                    have HBXJ := Lib.hid hbx
                    have HBA := Lib.hid (show idsBad s JL = false by rw [hJL]; exact not_bad HN.out hx400 _ (by simp) (by simp; omega) (by simp [idsB]; omega))
                    have HBU := Lib.hid (show budB s JL = false by rw [hJL]; exact bud_ok HN.out HG.out _ (by simp) (by simp; omega) hx400 hy400)
                    obtain ⟨W15, hW15⟩ : ∃ W15, W15 = w14.alloc (.cells #[.int .i64 j] 3) := ⟨_, rfl⟩
                    have hb : Below w14.heap.size w14 W15 := by rw [hW15]; exact (Below.refl _ _).alloc (Nat.le_refl _) _
                    have HRJ := Lib.hid (show Rd W15 .i64 (.slice (some ⟨w14.heap.size, 0, none⟩) JL.length 1) JL by rw [hJL, hW15]; exact Rd.of_own (OwnI.lit w14 .i64 [(j : Int)] 3 (Nat.le_of_ble_eq_true rfl)))
                    have d0 : w14.cell? ⟨w0.heap.size, 0, none⟩ = some (.slice o1 s.sh.length cap1) := HX14.out.cell 0 rfl
                    have d1 : w14.cell? ⟨w0.heap.size, 1, none⟩ = some (.slice o2 s.x.length cap2) := HX14.out.cell 1 rfl
                    have d2 : w14.cell? ⟨w0.heap.size, 2, none⟩ = some (.slice o3 s.lb.length cap3) := HX14.out.cell 2 rfl
                    have d3 : w14.cell? ⟨w0.heap.size, 3, none⟩ = some (.slice o4 s.y.length cap4) := HX14.out.cell 3 rfl
                    have HX15 := Lib.hid (HX14.out.next hb)
                    have HR15 := Lib.hid (HR14.out.below hb (Nat.le_refl _))
                    have HB15 := Lib.hid (HB14.out.trans (hb.mono HB14.out.size))
                    have HV15 := Lib.hid (HV14.out.trans (hb.mono HV14.out.size))
                    have hsz15 := hb.size
                    clear hb HX14 HR14 HB14
                    have HW15 := Lib.hid hW15
                    have HJLL := Lib.hid hjl
                    clear hW15 hJL hbx hjl jl1
                    go_wp2_with fail
                    rw [← HW15.out]
                    clear d0 d1 d2 d3 HW15
                    have HCALL := batch_ok _ _ _ _ s _ 1 JL _ HR15.out HL.out HG.out HRJ.out (by have := HJLL.out; omega) HBA.out HBU.out HCB.out HCD.out
                    rw [HJLL.out] at HCALL
                    refine HCALL.mono ?_
                    clear HCALL
                    rintro e w16 ⟨xs, xd, vl, ys, yd, rfl, g1, g2, g3, g4, g5, hb⟩
                    rw [HBXJ.out] at g2
                    obtain ⟨Z, hZ⟩ : ∃ Z, Z = (s.x.drop (j * size)).take size := ⟨_, rfl⟩
                    have hzl : Z.length ≤ 400 := by rw [hZ]; simp; omega
                    rw [← hZ] at g2
                    have HZZ := Lib.hid hZ
                    clear hZ
                    obtain ⟨cxs, mxs, rfl⟩ := own_slice g1
                    obtain ⟨cxd, mxd, rfl⟩ := own_slice g2
                    obtain ⟨cvl, mvl, rfl⟩ := own_slice g3
                    obtain ⟨cys, mys, rfl⟩ := own_slice g4
                    obtain ⟨cyd, myd, rfl⟩ := own_slice g5
                    have HC2 := Lib.hid (Rd.of_own g2)
                    clear g1 g2 g3 g4 g5
                    have HX16 := Lib.hid (HX15.out.next hb)
                    have HR16 := Lib.hid (HR15.out.below hb (Nat.le_refl _))
                    have HB16 := Lib.hid (HB15.out.trans (hb.mono HB15.out.size))
                    have HV16 := Lib.hid (HV15.out.trans (hb.mono HV15.out.size))
                    have hsz16 := hb.size
                    clear hb HX15 HR15 HB15
                    obtain ⟨W17, hW17⟩ : ∃ W17, W17 = ((w16.alloc (.cells #[.slice cxs (s.sh.length + 1) mxs, .slice cxd Z.length mxd] 41)).alloc (.cells #[.slice cys (yShape s JL).length mys, .slice cyd (batchY s JL).length myd] 41)) := ⟨_, rfl⟩
                    have hb : Below w16.heap.size w16 W17 := by rw [hW17]; exact ((Below.refl _ _).alloc (Nat.le_refl _) _).alloc (by simp) _
                    have HXA17 := Lib.hid (show Box W17 w16.heap.size 41 #[.slice cxs (s.sh.length + 1) mxs, .slice cxd Z.length mxd] by rw [hW17]; exact (Box.new _ _ _).next ((Below.refl _ _).alloc (Nat.le_refl _) _))
                    have HC2' := Lib.hid (HC2.out.below hb (Nat.le_refl _))
                    have HX17 := Lib.hid (HX16.out.next hb)
                    have HR17 := Lib.hid (HR16.out.below hb (Nat.le_refl _))
                    have HB17 := Lib.hid (HB16.out.trans (hb.mono HB16.out.size))
                    have HV17 := Lib.hid (HV16.out.trans (hb.mono HV16.out.size))
                    have hsz17 := hb.size
                    clear hb HX16 HR16 HB16
                    have HW17 := Lib.hid hW17
                    clear hW17 HC2
                    go_wp2_with fail
                    rw [← HW17.out]
                    clear HW17
                    have HX := Lib.hid (show Below W17.heap.size W17 W17.drew from Below.drew (Below.refl _ _))
                    obtain ⟨A, hA⟩ : ∃ A, A = j * size := ⟨_, rfl⟩
                    obtain ⟨j1, hj1⟩ : ∃ j1, j1 = j + 1 := ⟨_, rfl⟩
                    obtain ⟨A1, hA1⟩ : ∃ A1, A1 = j1 * size := ⟨_, rfl⟩
                    have m3 : A1 = A + size := by rw [hA1, hA, hj1, Nat.add_mul, Nat.one_mul]
                    have m1 : j1 * size ≤ N * size := Nat.mul_le_mul_right _ (by omega)
                    have hxN := HN.out.hx
                    have n1 : A ≤ A1 := by omega
                    have n2 : A1 ≤ s.x.length := by omega
                    have hcap := (HCB.out _ _ _ rfl).1
                    have n5 : A1 ≤ cap2 := by omega
                    have e1 : IntKind.i64.wrap ((j : Int) * size) = (A : Int) := by rw [IntWalk.i64_in _ (by rw [← Int.natCast_mul, ← hA]; omega), hA, Int.natCast_mul]
                    have e2 : IntKind.i64.wrap ((j : Int) + 1) = (j1 : Int) := by rw [IntWalk.i64_in _ (by omega)]; omega
                    have e3 : IntKind.i64.wrap ((j1 : Int) * size) = (A1 : Int) := by rw [IntWalk.i64_in _ (by rw [← Int.natCast_mul, ← hA1]; omega), hA1, Int.natCast_mul]
                    have hne : ¬ cap2 = A := by omega
                    have HPT := Lib.hid (show Rd W17 .i64 (.slice (o2.map fun x => x.add A) (A1 - A) (cap2 - A)) Z by
                      have := rd_part HR17.out.x A A1 size m3 (by omega) hcap
                      simp only [partV, if_neg hne] at this
                      rw [HZZ.out, ← hA]; exact this)
                    have HALL2 := Lib.hid (And.intro hA (And.intro hA1 (And.intro m3 hj1)))
                    clear hA hA1 m3 m1 hxN hj1
                    go_cut [182] (fun s182 wx => s182 = .bool false ∧ Below W17.heap.size W17 wx)
                    case first =>
                      go_region_held3 (fun w' => w'.cell? ⟨w0.heap.size, 1, none⟩ = some (.slice o2 s.x.length cap2) ∧ w'.cell? ⟨w16.heap.size, 1, none⟩ = some (.slice cxd Z.length mxd)) (exact ⟨(HX17.out.next HX.out).cell 1 rfl, (HXA17.out.next HX.out).cell 1 rfl⟩)
                        (first
                        | (go_at_call 16; refine (num30_any _ _).mono ?_; rintro e w' ⟨rfl, rfl⟩)
                        | (go_at_call 17; refine (eqWords_yes (xs := Z) (HC2'.out.below HX.out (Nat.le_refl _)) (HPT.out.below HX.out (Nat.le_refl _)) (by omega)).mono ?_; rintro e we ⟨rfl, hsm⟩; have HX := Lib.hid (HX.out.trans (hsm.below _)); clear hsm))
                      all_goals (go_wp2_with fail; go_meet; exact ⟨rfl, HX.out⟩)
                    case rest =>
                      obtain ⟨rfl, hb⟩ := hcut
                      obtain ⟨w18, rfl⟩ : ∃ w18, w18 = wc := ⟨_, rfl⟩
                      clear HX e1 e2 e3
                      have HB18 := Lib.hid (HB17.out.trans (hb.mono HB17.out.size))
                      have HBW18 := Lib.hid (HV17.out.trans (hb.mono HV17.out.size))
                      go_wp2_with fail
                      go_roundg (N - (j + 1))
                      case rel => exact ⟨j + 1, rfl, by omega, by go_num, HBW18.out⟩
                      case measure => omega
                  · obtain rfl : N = j := by omega
                    go_wp2_with fail
                    go_roundg (n - (k + 1))
                    case rel => exact ⟨k + 1, rfl, by omega, by go_num, HB14.out⟩
                    case measure => omega
    · have HE : Hid (k = n ∨ 6 ≤ k) := Lib.hid (by omega)
      have hq : ¬ (k < n ∧ k < 6) := hlt
      clear hlt
      by_cases hkn : k < n
      · have hk6 : decide ((k : Int) < 6) = false := decide_eq_false (by omega)
        go_wp2_with fail
        refine (wakes30_any _).mono ?_
        rintro e w1 ⟨rfl, hb1⟩
        have HB1 := Lib.hid (HB.out.trans (hb1.mono HB.out.size))
        clear hb1
        go_wp2
        go_ret
        exact ⟨rfl, HB1.out⟩
      · have hkd : decide ((k : Int) < n) = false := decide_eq_false (by omega)
        go_wp2_with fail
        refine (wakes30_any _).mono ?_
        rintro e w1 ⟨rfl, hb1⟩
        have HB1 := Lib.hid (HB.out.trans (hb1.mono HB.out.size))
        clear hb1
        go_wp2
        go_ret
        exact ⟨rfl, HB1.out⟩
end Go.Proofs.Ytjhejpeklppmbaa
