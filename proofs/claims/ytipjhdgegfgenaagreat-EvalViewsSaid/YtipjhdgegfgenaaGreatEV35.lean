/-
  LABELS and ROWS, only that a number or a shape is told: ratchetref18.XentShape, RowsShape.
-/
import Derived.Test.YtipjhdgegfgenaaGreatEV31
import Derived.Test.YtipjhdgegfgenaaGreatEV05
import Derived.Test.YtipjhdgegfgenaaGreatEV20
import Derived.Test.YtipjhdgegfgenaaGreatEV06
set_option linter.unusedVariables false
set_option linter.unusedSimpArgs false
namespace Go.Proofs.YtipjhdgegfgenaaGreat
open Go.RowKit Go.Shelf Go
set_option maxRecDepth 100000 in
set_option maxHeartbeats 2000000 in
theorem xentShape_any (v u : Value) (xs ls : List Int) (w : World) (hr : Rd w .i64 v xs) (ha : Rd w .i64 u ls) (hl : xs.length ≤ 140737488351232) (hla : ls.length ≤ 140737488351232) :
    Calls Tryz.prog 55 #[v, u] w fun e w' => SomeInt e ∧ Same w w' := by
  have HA := Lib.hid ha
  obtain ⟨oa, ca, rfl⟩ := rd_slice ha
  have HR := Lib.hid hr
  obtain ⟨o, cap, rfl⟩ := rd_slice hr
  clear ha hr
  obtain ⟨n, hn⟩ : ∃ n, n = xs.length := ⟨_, rfl⟩
  obtain ⟨m, hm⟩ : ∃ m, m = ls.length := ⟨_, rfl⟩
  have HN := Lib.hid (And.intro hn hm)
  rw [← hn] at hl ⊢
  rw [← hm] at hla ⊢
  clear hn hm
  by_cases h2 : n = 2
  case neg =>
    have hb : ((n : Int) != 2) = true := by simp; omega
    clear h2
    go_enter Tryz.func55, Tryz.ntmps55
    go_wp2
    go_ret
    exact ⟨⟨_, rfl⟩, Same.refl _⟩
  subst h2
  obtain ⟨b, off, rfl, h1⟩ := HR.out.cell 0 (by rw [← HN.out.1]; omega)
  obtain ⟨b', off', he, h1'⟩ := HR.out.cell 1 (by rw [← HN.out.1]; omega)
  cases he
  rw [Nat.add_zero] at h1
  generalize nth xs 0 = x0 at h1
  generalize nth xs 1 = x1 at h1'
  clear HR
  by_cases hq : (m : Int) = x0
  case neg =>
    have hb : ((m : Int) != x0) = true := by simp; exact hq
    clear hq
    go_enter Tryz.func55, Tryz.ntmps55
    go_wp2
    go_ret
    exact ⟨⟨_, rfl⟩, Same.refl _⟩
  have hb : ((m : Int) != x0) = false := by simp [hq]
  clear hq
  go_enter Tryz.func55, Tryz.ntmps55
  go_wp2
  have HB := Lib.hid hb
  have H1 := Lib.hid (And.intro h1 h1')
  clear hb h1 h1'
  go_loopw [5] (fun i wr => ∃ k : Nat, k ≤ m ∧ i = .int .i64 k ∧ Hid (Same w wr)) (fun i _ => m - (intOf i).toNat)
  case atStart => exact ⟨0, Nat.zero_le _, rfl, Lib.hid (Same.refl _)⟩
  case round =>
    obtain ⟨k, hk, rfl, HS⟩ := hrel
    obtain ⟨w5, rfl⟩ : ∃ w5, w5 = wr := ⟨_, rfl⟩
    by_cases hlt : k < m
    · obtain ⟨bl, ol, rfl, hc⟩ := HA.out.cell k (by rw [← HN.out.2]; exact hlt)
      have hc2 : w5.cell? ⟨bl, ol + k, none⟩ = some (.int .i64 (nth ls k)) := by obtain ⟨nn, rfl⟩ := HS.out; simpa using hc
      have hx1 : w5.cell? ⟨b, off + 1, none⟩ = some (.int .i64 x1) := by obtain ⟨nn, rfl⟩ := HS.out; simpa using H1.out.2
      clear hc
      generalize nth ls k = y at hc2
      by_cases a1 : y < 0
      · have a1 := decide_eq_true a1
        go_wp2_with fail
        go_quiet (fail)
        go_wp2
        go_ret
        exact ⟨⟨_, rfl⟩, HS.out.trans ⟨_, rfl⟩⟩
      have a1 := decide_eq_false a1
      by_cases a2 : x1 ≤ y
      · have a2 := decide_eq_true a2
        go_wp2_with fail
        go_quiet (fail)
        go_wp2
        go_ret
        exact ⟨⟨_, rfl⟩, HS.out.trans ⟨_, rfl⟩⟩
      · have a2 := decide_eq_false a2
        go_wp2_with fail
        go_quiet (fail)
        go_wp2
        go_roundw
        case rel => exact ⟨k + 1, by omega, by go_num, Lib.hid (HS.out.trans ⟨_, rfl⟩)⟩
        case measure => simp [intOf]; omega
    · obtain rfl : k = m := by omega
      go_wp2
      go_ret
      exact ⟨⟨_, rfl⟩, HS.out⟩
set_option maxRecDepth 100000 in
set_option maxHeartbeats 2000000 in
theorem rowsShape_any (v u : Value) (xs ls : List Int) (w : World) (hr : Rd w .i64 v xs) (ha : Rd w .i64 u ls) (hl : xs.length ≤ 140737488351232) (hla : ls.length ≤ 140737488351232) :
    Calls Tryz.prog 54 #[v, u] w (ShOut w 1000) := by
  have HA := Lib.hid ha
  obtain ⟨oa, ca, rfl⟩ := rd_slice ha
  have HR := Lib.hid hr
  obtain ⟨o, cap, rfl⟩ := rd_slice hr
  clear ha hr
  obtain ⟨n, hn⟩ : ∃ n, n = xs.length := ⟨_, rfl⟩
  obtain ⟨m, hm⟩ : ∃ m, m = ls.length := ⟨_, rfl⟩
  have HN := Lib.hid (And.intro hn hm)
  rw [← hn] at hl ⊢
  rw [← hm] at hla ⊢
  clear hn hm
  by_cases h2 : n = 2
  case neg =>
    have hb : ((n : Int) != 2) = true := by simp; omega
    clear h2
    go_enter Tryz.func54, Tryz.ntmps54
    go_wp2
    refine bodyPost_ret (v := .tuple #[.slice none 0 0, .int .i64 2]) (by simp [results, Tryz.results54, go_sem]) rfl ⟨Below.refl _ _, _, [], _, rfl, World.ownsRow_nil _ _ _ _, by simp⟩
  subst h2
  obtain ⟨b, off, rfl, h1⟩ := HR.out.cell 0 (by rw [← HN.out.1]; omega)
  obtain ⟨b', off', he, h1'⟩ := HR.out.cell 1 (by rw [← HN.out.1]; omega)
  cases he
  rw [Nat.add_zero] at h1
  generalize nth xs 0 = x0 at h1
  generalize nth xs 1 = x1 at h1'
  clear HR
  by_cases hq : m = 0
  case pos =>
    have hb : ((m : Int) == 0) = true := by simp; exact hq
    clear hq
    go_enter Tryz.func54, Tryz.ntmps54
    go_wp2
    refine bodyPost_ret (v := .tuple #[.slice none 0 0, .int .i64 2]) (by simp [results, Tryz.results54, go_sem]) rfl ⟨Below.refl _ _, _, [], _, rfl, World.ownsRow_nil _ _ _ _, by simp⟩
  have hb : ((m : Int) == 0) = false := by simp; exact hq
  clear hq
  go_enter Tryz.func54, Tryz.ntmps54
  go_wp2
  have H1 := Lib.hid (And.intro h1 h1')
  clear hb h1 h1'
  go_loopw [6] (fun i wr => ∃ k : Nat, k ≤ m ∧ i = .int .i64 k ∧ Hid (Same w wr)) (fun i _ => m - (intOf i).toNat)
  case atStart => exact ⟨0, Nat.zero_le _, rfl, Lib.hid (Same.refl _)⟩
  case round =>
    obtain ⟨k, hk, rfl, HS⟩ := hrel
    obtain ⟨w5, rfl⟩ : ∃ w5, w5 = wr := ⟨_, rfl⟩
    have HBL := Lib.hid (show Below w.heap.size w w5 from HS.out.below _)
    by_cases hlt : k < m
    · obtain ⟨bl, ol, rfl, hc⟩ := HA.out.cell k (by rw [← HN.out.2]; exact hlt)
      have hc2 : w5.cell? ⟨bl, ol + k, none⟩ = some (.int .i64 (nth ls k)) := by obtain ⟨nn, rfl⟩ := HS.out; simpa using hc
      have hx1 : w5.cell? ⟨b, off, none⟩ = some (.int .i64 x0) := by obtain ⟨nn, rfl⟩ := HS.out; simpa using H1.out.1
      clear hc
      generalize nth ls k = y at hc2
      by_cases a1 : y < 0
      · have a1 := decide_eq_true a1
        go_wp2_with fail
        go_quiet (fail)
        go_wp2
        refine bodyPost_ret (v := .tuple #[.slice none 0 0, .int .i64 2]) (by simp [results, Tryz.results54, go_sem]) rfl ⟨below_drewN HBL.out _, _, [], _, rfl, World.ownsRow_nil _ _ _ _, by simp⟩
      have a1 := decide_eq_false a1
      by_cases a2 : x0 ≤ y
      · have a2 := decide_eq_true a2
        go_wp2_with fail
        go_quiet (fail)
        go_wp2
        refine bodyPost_ret (v := .tuple #[.slice none 0 0, .int .i64 2]) (by simp [results, Tryz.results54, go_sem]) rfl ⟨below_drewN HBL.out _, _, [], _, rfl, World.ownsRow_nil _ _ _ _, by simp⟩
      · have a2 := decide_eq_false a2
        go_wp2_with fail
        go_quiet (fail)
        go_wp2
        go_roundw
        case rel => exact ⟨k + 1, by omega, by go_num, Lib.hid (HS.out.trans ⟨_, rfl⟩)⟩
        case measure => simp [intOf]; omega
    · obtain rfl : k = m := by omega
      have hx1 : w5.cell? ⟨b, off + 1, none⟩ = some (.int .i64 x1) := by obtain ⟨nn, rfl⟩ := HS.out; simpa using H1.out.2
      obtain ⟨W, hW⟩ : ∃ W, W = w5.alloc (.cells #[.int .i64 k, .int .i64 x1] 3) := ⟨_, rfl⟩
      have hown : OwnI W w5.heap.size 3 .i64 (.slice (some ⟨w5.heap.size, 0, none⟩) 2 2) [(k : Int), x1] := by rw [hW]; exact OwnI.lit w5 .i64 [(k : Int), x1] _ (by unfold maxLen; simp)
      have HO := Lib.hid (And.intro (own_mono hown HBL.out.size) (show Below w.heap.size w W by rw [hW]; exact HBL.out.alloc HBL.out.size _))
      have HMAY := Lib.hid (ref6May_any _ [(k : Int), x1] W (Rd.of_own hown) (by simp))
      have HW := Lib.hid hW
      clear hown hW
      obtain ⟨r, hr⟩ : ∃ r, r = shapeB [(k : Int), x1] := ⟨_, rfl⟩
      rw [← hr] at HMAY
      clear hr
      go_wp2_with (go_at_call 17; rw [← HW.out]; refine HMAY.out.mono ?_; rintro e w2 ⟨rfl, hsm⟩; refine stopHere ?_)
      have HO2 := Lib.hid (And.intro (own_same HO.out.1 hsm) (HO.out.2.trans (hsm.below _)))
      clear hsm HO HMAY
      refine goOn ?_
      cases r with
      | false =>
        go_wp2
        refine bodyPost_ret (v := .tuple #[.slice none 0 0, .int .i64 5]) (by simp [results, Tryz.results54, go_sem]) rfl ⟨HO2.out.2, _, [], _, rfl, World.ownsRow_nil _ _ _ _, by simp⟩
      | true =>
        go_wp2
        refine bodyPost_ret (v := .tuple #[.slice (some ⟨w5.heap.size, 0, none⟩) 2 2, .int .i64 0]) (by simp [results, Tryz.results54, go_sem]) rfl ⟨HO2.out.2, _, [(k : Int), x1], _, rfl, HO2.out.1, by simp⟩
end Go.Proofs.YtipjhdgegfgenaaGreat
/-
  ROWS of rows: ratchetref18.Shapes.
-/
set_option linter.unusedVariables false
set_option linter.unusedSimpArgs false
namespace Go.Proofs.YtipjhdgegfgenaaGreat
open Go.RowKit Go.Shelf Go
/-- the slice value v reads as these lists -/
def ListsRd (w : World) (v : Value) (ls : List (List Int)) : Prop :=
  ∃ o cap, v = .slice o ls.length cap ∧ ∀ i, (h : i < ls.length) → ∃ b off u, o = some ⟨b, off, none⟩ ∧ w.cell? ⟨b, off + i, none⟩ = some u ∧ Rd w .i64 u ls[i]
theorem ListsRd.below {w w' : World} {v : Value} {ls : List (List Int)} {B : Nat} (h : ListsRd w v ls) (hb : Below B w w') (hs : w.heap.size ≤ B) : ListsRd w' v ls := by
  obtain ⟨o, cap, rfl, hc⟩ := h
  refine ⟨o, cap, rfl, fun i hi => ?_⟩
  obtain ⟨b, off, u, ho, h1, h2⟩ := hc i hi
  exact ⟨b, off, u, ho, (hb.cell (p := ⟨b, off + i, none⟩) (Nat.lt_of_lt_of_le (cell_lt h1) hs)).trans h1, h2.below hb hs⟩
theorem info_intsV : (Tryz.prog.info? 23).map (fun i => (i.zero, i.size, i.bytes)) = some (some (.slice none 0 0), 1, 24) := by kernel_rfl
set_option maxRecDepth 100000 in
set_option maxHeartbeats 2000000 in
theorem ref18Shapes_any (v : Value) (ts : List TensD) (w : World) (hr : TenssRd w v ts) (hn : ts.length ≤ 1000) :
    Calls Tryz.prog 16 #[v] w fun e w' => (∃ v', e = .returned v' ∧ ListsRd w' v' (ts.map TensD.sh)) ∧ Below w.heap.size w w' := by
  obtain ⟨i0, hi, hz0, hz1, hz2⟩ := info_parts info_intsV
  obtain ⟨o, cap, rfl⟩ := hr.slice
  have HR := Lib.hid hr
  clear hr
  go_enter Tryz.func16, Tryz.ntmps16
  go_wp2
  go_loopw [3, 4] (fun v i wr => ∃ (k : Nat) (us : List Value) (o7 : Option Addr) (c7 : Nat), k ≤ ts.length ∧ i = .int .i64 k ∧ v = .slice o7 k c7 ∧ us.length = k ∧ Hid (∀ j, j < k → ∃ u, us[j]? = some u ∧ Rd w .i64 u (tnth ts j).sh) ∧ Hid (wr.ownsRow w.heap.size 23 1 (.slice o7 k c7) k us ∧ Below w.heap.size w wr)) (fun _ i _ => ts.length - (intOf i).toNat)
  case atStart => exact ⟨0, [], none, 0, Nat.zero_le _, rfl, rfl, rfl, Lib.hid (fun j h => absurd h (by omega)), Lib.hid ⟨World.ownsRow_nil _ _ _ _, Below.refl _ _⟩⟩
  case round =>
    obtain ⟨k, us, o7, c7, hk, rfl, rfl, hul, HU, HO⟩ := hrel
    obtain ⟨w1, rfl⟩ : ∃ w1, w1 = wr := ⟨_, rfl⟩
    by_cases hlt : k < ts.length
    · obtain ⟨b, off, vs, vd, rfl, d0, d1, hs, hd⟩ := HR.out.tens k hlt
      have HS := Lib.hid hs
      obtain ⟨o6, k6, rfl⟩ := rd_slice hs
      have e0 := (HO.out.2.cell (p := ⟨b, off + k * 2, none⟩) (cell_lt d0)).trans d0
      clear hs hd d0 d1
      generalize (tnth ts k).sh.length = ns at e0 HS
      go_wp2_with (at_builtin; refine wpList_append_own _ rfl _ _ 29 rfl w.heap.size 23 i0 (.slice none 0 0) 1 24 Tryz.underlying29 hi hz0 hz1 hz2 rfl (by decide) _ _ _ rfl (HO.out.1.alloc _) ⟨w1.heap.size, 0, none⟩ 1 1 [.slice o6 ns k6] rfl rfl (cell_one_new _ _ _) (by simp [Value.oneCell']) (by unfold maxLen; omega) (by omega) (by have := HO.out.2.size; simp; omega) ?_; intro v' w6 hown' hgrow _; refine stopHere ?_)
      have HV := Lib.hid (And.intro hown' (below_append HO.out.2 (Nat.le_refl _) HO.out.1 hgrow))
      clear hown' hgrow e0
      obtain ⟨o9, c9, rfl⟩ := own_slice HV.out.1
      refine goOn ?_
      go_wp2_with fail
      go_roundw
      case rel =>
        refine ⟨k + 1, us ++ [.slice o6 ns k6], o9, c9, by omega, by go_num, rfl, by simp [hul], Lib.hid (fun j hj => ?_), Lib.hid ⟨HV.out.1, HV.out.2⟩⟩
        by_cases hjk : j < k
        · obtain ⟨u, h1, h2⟩ := HU.out j hjk
          exact ⟨u, by rw [List.getElem?_append_left (by omega)]; exact h1, h2⟩
        · obtain rfl : j = k := by omega
          exact ⟨_, by rw [List.getElem?_append_right (by omega), hul]; simp, HS.out⟩
      case measure => simp [intOf]; omega
    · obtain rfl : k = ts.length := by omega
      have HF := Lib.hid (show ListsRd w1 (.slice o7 ts.length c7) (ts.map TensD.sh) by
        refine ⟨o7, c7, by simp, fun i hi => ?_⟩
        have hi2 : i < ts.length := by simpa using hi
        obtain ⟨u, h1, h2⟩ := HU.out i hi2
        rcases HO.out.1.2 with ⟨h3, _⟩ | ⟨g', cap', cur, h3, _⟩
        · injection h3 with q1 q2 q3; omega
        · simp at h3
          obtain ⟨rfl, _⟩ := h3
          refine ⟨g', 0, u, rfl, by have := (own_cells HO.out.1 i h1).1; simpa using this, ?_⟩
          have : (ts.map TensD.sh)[i] = (tnth ts i).sh := by rw [List.getElem_map, tnth_eq ts i hi2]
          rw [this]
          exact h2.below HO.out.2 (Nat.le_refl _))
      go_wp2_with fail
      go_ret
      exact ⟨⟨_, rfl, HF.out⟩, HO.out.2⟩
end Go.Proofs.YtipjhdgegfgenaaGreat
