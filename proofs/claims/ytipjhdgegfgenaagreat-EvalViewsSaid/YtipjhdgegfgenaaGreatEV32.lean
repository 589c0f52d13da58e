/-
  SPREAD shapes, only that one is told: ratchetref6.Spread.
-/
import Derived.Test.YtipjhdgegfgenaaGreatEV31
import Derived.Test.YtipjhdgegfgenaaGreatEV05
set_option linter.unusedVariables false
set_option linter.unusedSimpArgs false
namespace Go.Proofs.YtipjhdgegfgenaaGreat
open Go.RowKit Go.Shelf Go
set_option maxRecDepth 100000 in
set_option maxHeartbeats 4000000 in
theorem ref6Spread_any (va vb : Value) (xs zs : List Int) (w : World) (ha : Rd w .i64 va xs) (hb : Rd w .i64 vb zs) (hl : xs.length ≤ 1000) (hlb : zs.length ≤ 1000) :
    Calls Tryz.prog 46 #[va, vb] w (ShOut w 1000) := by
  obtain ⟨i0, hi, hz0, hz1, hz2⟩ := info_parts info_int
  have HA := Lib.hid ha
  have HC := Lib.hid hb
  obtain ⟨oa, ca, rfl⟩ := rd_slice ha
  obtain ⟨ob, cb, rfl⟩ := rd_slice hb
  clear ha hb
  obtain ⟨n1, h1⟩ : ∃ n, n = xs.length := ⟨_, rfl⟩
  obtain ⟨n2, h2⟩ : ∃ n, n = zs.length := ⟨_, rfl⟩
  have HL := Lib.hid (And.intro hl hlb)
  rw [← h1] at hl
  rw [← h2] at hlb
  have HDA := Lib.hid (fun (k : Nat) (hk : k ≤ 1000) (W : World) (hb : Below w.heap.size w W) => ref6Dim_any _ xs k W (HA.out.below hb (Nat.le_refl _)) (by omega) (by omega))
  have HDB := Lib.hid (fun (k : Nat) (hk : k ≤ 1000) (W : World) (hb : Below w.heap.size w W) => ref6Dim_any _ zs k W (HC.out.below hb (Nat.le_refl _)) (by omega) (by omega))
  rw [← h1] at HDA ⊢
  rw [← h2] at HDB ⊢
  clear h1 h2 HA HC HL
  by_cases hcmp : n1 < n2
  · have hn : n2 ≤ 1000 := by omega
    go_enter Tryz.func46, Tryz.ntmps46
    go_wp2_with (at_make; refine wpList_make_full _ rfl _ _ 23 rfl w.heap.size 3 i0 (.int .i64 0) 1 Tryz.underlying23 hi hz0 hz1 .i64 .i64 _ _ n2 rfl rfl rfl rfl (by rw [hz2]; omega) (by unfold maxLen; omega) (Nat.le_refl _) ?_; intro w1 hm hg; refine stopHere ?_)
    have HM := Lib.hid (OwnI.made hm)
    have HB := Lib.hid (grown_below hg)
    clear hm hg hi hz0 hz1 hz2
    refine goOn ?_
    go_wp2
    have HN := Lib.hid hn
    go_loopw [8] (fun i wr => ∃ (k : Nat) (ys : List Int), k ≤ n2 ∧ i = .int .i64 k ∧ Hid (ys.length = n2 ∧ wr.ownsRow w.heap.size 3 1 (.slice (some ⟨w.heap.size, 0, none⟩) n2 n2) n2 (ys.map (.int .i64)) ∧ Below w.heap.size w wr)) (fun i _ => n2 - (intOf i).toNat)
    case atStart => exact ⟨0, List.replicate n2 0, Nat.zero_le _, rfl, Lib.hid ⟨by simp, by have := HM.out; unfold OwnI at this; simpa using this, HB.out⟩⟩
    case round =>
      obtain ⟨k, ys, hk, rfl, HO⟩ := hrel
      obtain ⟨w1, rfl⟩ : ∃ w1, w1 = wr := ⟨_, rfl⟩
      by_cases hlt : k < n2
      · have HK := Lib.hid hk
        clear hk
        go_wp2_with (go_at_call_of 86 oa; refine (HDA.out k (by omega) _ HO.out.2.2).mono ?_; rintro e w2 ⟨⟨x, rfl⟩, hsm⟩; refine stopHere ?_)
        have HO2 := Lib.hid (show ys.length = n2 ∧ w2.ownsRow w.heap.size 3 1 (.slice (some ⟨w.heap.size, 0, none⟩) n2 n2) n2 (ys.map (.int .i64)) ∧ Below w.heap.size w w2 from ⟨HO.out.1, own_same HO.out.2.1 hsm, HO.out.2.2.trans (hsm.below _)⟩)
        clear hsm HO
        refine goOn ?_
        go_wp2_with (go_at_call_of 86 ob; refine (HDB.out k (by omega) _ HO2.out.2.2).mono ?_; rintro e w3 ⟨⟨y, rfl⟩, hsm⟩; refine stopHere ?_)
        have HO3 := Lib.hid (show ys.length = n2 ∧ w3.ownsRow w.heap.size 3 1 (.slice (some ⟨w.heap.size, 0, none⟩) n2 n2) n2 (ys.map (.int .i64)) ∧ Below w.heap.size w w3 from ⟨HO2.out.1, own_same HO2.out.2.1 hsm, HO2.out.2.2.trans (hsm.below _)⟩)
        clear hsm HO2
        refine goOn ?_
        have hji : ((n2 : Int) - 1 - k).toNat = n2 - 1 - k := by omega
        have hwa : IntKind.i64.wrap ((n2 : Int) - 1) = (n2 : Int) - 1 := IntWalk.i64_in _ (by omega)
        have hwb : IntKind.i64.wrap ((n2 : Int) - 1 - k) = (n2 : Int) - 1 - k := IntWalk.i64_in _ (by omega)
        have hj0 : (0 : Int) ≤ (n2 : Int) - 1 - k := by omega
        have hj1 : (n2 : Int) - 1 - k < (n2 : Int) := by omega
        obtain ⟨j, hj⟩ : ∃ j, j = n2 - 1 - k := ⟨_, rfl⟩
        rw [← hj] at hji
        have hcl := own_cells HO3.out.2.1 j (u := .int .i64 (nth ys j)) (by rw [List.getElem?_map, List.getElem?_eq_getElem (by rw [HO3.out.1]; omega)]; simp [nth_eq _ _ (show j < ys.length by rw [HO3.out.1]; omega)])
        obtain ⟨hc1, hf1⟩ := hcl
        have HS := Lib.hid (fun z : Int => show (ys.set j z).length = n2 ∧ (w3.setCell ⟨w.heap.size, j, none⟩ (.int .i64 z)).ownsRow w.heap.size 3 1 (.slice (some ⟨w.heap.size, 0, none⟩) n2 n2) n2 ((ys.set j z).map (.int .i64)) ∧ Below w.heap.size w (w3.setCell ⟨w.heap.size, j, none⟩ (.int .i64 z)) from
          ⟨by rw [List.length_set]; exact HO3.out.1, by rw [List.map_set]; exact own_set1 HO3.out.2.1 j (.int .i64 z), HO3.out.2.2.setCell (p := ⟨w.heap.size, j, none⟩) (Nat.le_refl _) _⟩)
        clear hj
        go_wp2
        all_goals first
          | (refine bodyPost_ret (v := .tuple #[.slice none 0 0, .int .i64 2]) (by simp [results, Tryz.results46, go_sem]) rfl ⟨HO3.out.2.2, _, [], _, rfl, World.ownsRow_nil _ _ _ _, by simp⟩)
          | exact ⟨⟨k + 1, ys.set j y, by omega, by go_num, Lib.hid (HS.out y)⟩, by simp [intOf]; omega⟩
          | exact ⟨⟨k + 1, ys.set j x, by omega, by go_num, Lib.hid (HS.out x)⟩, by simp [intOf]; omega⟩
          | exact ⟨⟨k + 1, ys.set j 1, by omega, by go_num, Lib.hid (HS.out 1)⟩, by simp [intOf]; omega⟩
      · obtain rfl : k = n2 := by omega
        have hlen := HO.out.1
        have hrd : Rd w1 .i64 (.slice (some ⟨w.heap.size, 0, none⟩) k k) ys := Rd.of_own (show OwnI w1 w.heap.size 3 .i64 (.slice (some ⟨w.heap.size, 0, none⟩) k k) ys by unfold OwnI; rw [hlen]; exact HO.out.2.1)
        have HMAY := Lib.hid (ref6May_any _ ys w1 hrd (by omega))
        clear hrd hlen
        obtain ⟨r, hr⟩ : ∃ r, r = shapeB ys := ⟨_, rfl⟩
        rw [← hr] at HMAY
        clear hr
        go_wp2_with (go_at_call 17; refine HMAY.out.mono ?_; rintro e w2 ⟨rfl, hsm⟩; refine stopHere ?_)
        have HO2 := Lib.hid (show ys.length = k ∧ w2.ownsRow w.heap.size 3 1 (.slice (some ⟨w.heap.size, 0, none⟩) k k) k (ys.map (.int .i64)) ∧ Below w.heap.size w w2 from ⟨HO.out.1, own_same HO.out.2.1 hsm, HO.out.2.2.trans (hsm.below _)⟩)
        clear hsm HO HMAY
        refine goOn ?_
        have HK := Lib.hid hn
        cases r with
        | false =>
          go_wp2
          refine bodyPost_ret (v := .tuple #[.slice none 0 0, .int .i64 5]) (by simp [results, Tryz.results46, go_sem]) rfl ⟨HO2.out.2.2, _, [], _, rfl, World.ownsRow_nil _ _ _ _, by simp⟩
        | true =>
          go_wp2
          refine bodyPost_ret (v := .tuple #[.slice (some ⟨w.heap.size, 0, none⟩) k k, .int .i64 0]) (by simp [results, Tryz.results46, go_sem]) rfl ⟨HO2.out.2.2, _, ys, _, rfl, by rw [OwnI, HO2.out.1]; exact HO2.out.2.1, by rw [HO2.out.1]; exact HK.out⟩
  · have hn : n1 ≤ 1000 := by omega
    go_enter Tryz.func46, Tryz.ntmps46
    go_wp2_with (at_make; refine wpList_make_full _ rfl _ _ 23 rfl w.heap.size 3 i0 (.int .i64 0) 1 Tryz.underlying23 hi hz0 hz1 .i64 .i64 _ _ n1 rfl rfl rfl rfl (by rw [hz2]; omega) (by unfold maxLen; omega) (Nat.le_refl _) ?_; intro w1 hm hg; refine stopHere ?_)
    have HM := Lib.hid (OwnI.made hm)
    have HB := Lib.hid (grown_below hg)
    clear hm hg hi hz0 hz1 hz2
    refine goOn ?_
    go_wp2
    have HN := Lib.hid hn
    go_loopw [8] (fun i wr => ∃ (k : Nat) (ys : List Int), k ≤ n1 ∧ i = .int .i64 k ∧ Hid (ys.length = n1 ∧ wr.ownsRow w.heap.size 3 1 (.slice (some ⟨w.heap.size, 0, none⟩) n1 n1) n1 (ys.map (.int .i64)) ∧ Below w.heap.size w wr)) (fun i _ => n1 - (intOf i).toNat)
    case atStart => exact ⟨0, List.replicate n1 0, Nat.zero_le _, rfl, Lib.hid ⟨by simp, by have := HM.out; unfold OwnI at this; simpa using this, HB.out⟩⟩
    case round =>
      obtain ⟨k, ys, hk, rfl, HO⟩ := hrel
      obtain ⟨w1, rfl⟩ : ∃ w1, w1 = wr := ⟨_, rfl⟩
      by_cases hlt : k < n1
      · have HK := Lib.hid hk
        clear hk
        go_wp2_with (go_at_call_of 86 oa; refine (HDA.out k (by omega) _ HO.out.2.2).mono ?_; rintro e w2 ⟨⟨x, rfl⟩, hsm⟩; refine stopHere ?_)
        have HO2 := Lib.hid (show ys.length = n1 ∧ w2.ownsRow w.heap.size 3 1 (.slice (some ⟨w.heap.size, 0, none⟩) n1 n1) n1 (ys.map (.int .i64)) ∧ Below w.heap.size w w2 from ⟨HO.out.1, own_same HO.out.2.1 hsm, HO.out.2.2.trans (hsm.below _)⟩)
        clear hsm HO
        refine goOn ?_
        go_wp2_with (go_at_call_of 86 ob; refine (HDB.out k (by omega) _ HO2.out.2.2).mono ?_; rintro e w3 ⟨⟨y, rfl⟩, hsm⟩; refine stopHere ?_)
        have HO3 := Lib.hid (show ys.length = n1 ∧ w3.ownsRow w.heap.size 3 1 (.slice (some ⟨w.heap.size, 0, none⟩) n1 n1) n1 (ys.map (.int .i64)) ∧ Below w.heap.size w w3 from ⟨HO2.out.1, own_same HO2.out.2.1 hsm, HO2.out.2.2.trans (hsm.below _)⟩)
        clear hsm HO2
        refine goOn ?_
        have hji : ((n1 : Int) - 1 - k).toNat = n1 - 1 - k := by omega
        have hwa : IntKind.i64.wrap ((n1 : Int) - 1) = (n1 : Int) - 1 := IntWalk.i64_in _ (by omega)
        have hwb : IntKind.i64.wrap ((n1 : Int) - 1 - k) = (n1 : Int) - 1 - k := IntWalk.i64_in _ (by omega)
        have hj0 : (0 : Int) ≤ (n1 : Int) - 1 - k := by omega
        have hj1 : (n1 : Int) - 1 - k < (n1 : Int) := by omega
        obtain ⟨j, hj⟩ : ∃ j, j = n1 - 1 - k := ⟨_, rfl⟩
        rw [← hj] at hji
        have hcl := own_cells HO3.out.2.1 j (u := .int .i64 (nth ys j)) (by rw [List.getElem?_map, List.getElem?_eq_getElem (by rw [HO3.out.1]; omega)]; simp [nth_eq _ _ (show j < ys.length by rw [HO3.out.1]; omega)])
        obtain ⟨hc1, hf1⟩ := hcl
        have HS := Lib.hid (fun z : Int => show (ys.set j z).length = n1 ∧ (w3.setCell ⟨w.heap.size, j, none⟩ (.int .i64 z)).ownsRow w.heap.size 3 1 (.slice (some ⟨w.heap.size, 0, none⟩) n1 n1) n1 ((ys.set j z).map (.int .i64)) ∧ Below w.heap.size w (w3.setCell ⟨w.heap.size, j, none⟩ (.int .i64 z)) from
          ⟨by rw [List.length_set]; exact HO3.out.1, by rw [List.map_set]; exact own_set1 HO3.out.2.1 j (.int .i64 z), HO3.out.2.2.setCell (p := ⟨w.heap.size, j, none⟩) (Nat.le_refl _) _⟩)
        clear hj
        go_wp2
        all_goals first
          | (refine bodyPost_ret (v := .tuple #[.slice none 0 0, .int .i64 2]) (by simp [results, Tryz.results46, go_sem]) rfl ⟨HO3.out.2.2, _, [], _, rfl, World.ownsRow_nil _ _ _ _, by simp⟩)
          | exact ⟨⟨k + 1, ys.set j y, by omega, by go_num, Lib.hid (HS.out y)⟩, by simp [intOf]; omega⟩
          | exact ⟨⟨k + 1, ys.set j x, by omega, by go_num, Lib.hid (HS.out x)⟩, by simp [intOf]; omega⟩
          | exact ⟨⟨k + 1, ys.set j 1, by omega, by go_num, Lib.hid (HS.out 1)⟩, by simp [intOf]; omega⟩
      · obtain rfl : k = n1 := by omega
        have hlen := HO.out.1
        have hrd : Rd w1 .i64 (.slice (some ⟨w.heap.size, 0, none⟩) k k) ys := Rd.of_own (show OwnI w1 w.heap.size 3 .i64 (.slice (some ⟨w.heap.size, 0, none⟩) k k) ys by unfold OwnI; rw [hlen]; exact HO.out.2.1)
        have HMAY := Lib.hid (ref6May_any _ ys w1 hrd (by omega))
        clear hrd hlen
        obtain ⟨r, hr⟩ : ∃ r, r = shapeB ys := ⟨_, rfl⟩
        rw [← hr] at HMAY
        clear hr
        go_wp2_with (go_at_call 17; refine HMAY.out.mono ?_; rintro e w2 ⟨rfl, hsm⟩; refine stopHere ?_)
        have HO2 := Lib.hid (show ys.length = k ∧ w2.ownsRow w.heap.size 3 1 (.slice (some ⟨w.heap.size, 0, none⟩) k k) k (ys.map (.int .i64)) ∧ Below w.heap.size w w2 from ⟨HO.out.1, own_same HO.out.2.1 hsm, HO.out.2.2.trans (hsm.below _)⟩)
        clear hsm HO HMAY
        refine goOn ?_
        have HK := Lib.hid hn
        cases r with
        | false =>
          go_wp2
          refine bodyPost_ret (v := .tuple #[.slice none 0 0, .int .i64 5]) (by simp [results, Tryz.results46, go_sem]) rfl ⟨HO2.out.2.2, _, [], _, rfl, World.ownsRow_nil _ _ _ _, by simp⟩
        | true =>
          go_wp2
          refine bodyPost_ret (v := .tuple #[.slice (some ⟨w.heap.size, 0, none⟩) k k, .int .i64 0]) (by simp [results, Tryz.results46, go_sem]) rfl ⟨HO2.out.2.2, _, ys, _, rfl, by rw [OwnI, HO2.out.1]; exact HO2.out.2.1, by rw [HO2.out.1]; exact HK.out⟩
end Go.Proofs.YtipjhdgegfgenaaGreat
