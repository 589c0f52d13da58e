/-
  STEPS and STANDS: shape.Steps, ratchetref6.Strides, shape.Stands.
-/
import Derived.Test.YtipjhdgegfgenaaGreatEV02
import Derived.Test.YtipjhdgegfgenaaGreatEV05
import Derived.Test.YtipjhdgegfgenaaGreatEV06
set_option linter.unusedVariables false
set_option linter.unusedSimpArgs false
namespace Go.Proofs.YtipjhdgegfgenaaGreat
open Go.RowKit Go.Shelf Go
/-- dimensions of a shape -/
def DimsN (ns : List Nat) : Prop := (∀ d ∈ ns, 0 < d ∧ d ≤ 4096) ∧ ns.length ≤ 4
theorem DimsN.drop {ns : List Nat} (h : DimsN ns) (j : Nat) : DimsN (ns.drop j) := ⟨fun d hd => h.1 d (List.mem_of_mem_drop hd), by rw [List.length_drop]; have := h.2; omega⟩
theorem prodN_le : ∀ {ns : List Nat}, (∀ d ∈ ns, 0 < d ∧ d ≤ 4096) → prodN ns ≤ 4096 ^ ns.length
  | [], _ => Nat.le_refl _
  | d :: r, h => by
    have h1 := prodN_le (ns := r) fun x hx => h x (by simp [hx])
    have h2 := (h d (by simp)).2
    rw [prodN, List.length_cons, Nat.pow_succ, Nat.mul_comm d]
    exact Nat.mul_le_mul h1 h2
theorem DimsN.prod {ns : List Nat} (h : DimsN ns) : 1 ≤ prodN ns ∧ prodN ns ≤ 281474976710656 := by
  refine ⟨prodN_pos fun d hd => (h.1 d hd).1, Nat.le_trans (prodN_le h.1) ?_⟩
  exact Nat.le_trans (Nat.pow_le_pow_right (by omega) h.2) (by decide)
theorem drop_at {ns : List Nat} {j : Nat} (h : j < ns.length) : ns.drop j = ns[j] :: ns.drop (j + 1) := List.drop_eq_getElem_cons h
theorem zeros_set (j : Nat) (x : Int) (l : List Int) : (List.replicate (j + 1) 0 ++ l).set j x = List.replicate j 0 ++ x :: l := by
  rw [List.replicate_succ', List.append_assoc, List.set_append_right _ _ (by simp)]
  simp
set_option maxRecDepth 100000 in
set_option maxHeartbeats 2000000 in
theorem shapeSteps_any (v : Value) (ns : List Nat) (w : World) (hr : Rd w .i64 v (ints ns)) (hd : DimsN ns) :
    Calls Tryz.prog 162 #[v] w fun e w' => (∃ v', e = .returned v' ∧ OwnI w' w.heap.size 3 .i64 v' (ints (stepsN ns))) ∧ Below w.heap.size w w' := by
  obtain ⟨i0, hi, hz0, hz1, hz2⟩ := info_parts info_int
  have HR := Lib.hid hr
  obtain ⟨o, cap, rfl⟩ := rd_slice hr
  have HD := Lib.hid hd
  obtain ⟨n, hn⟩ : ∃ n, n = (ints ns).length := ⟨_, rfl⟩
  rw [← hn]
  have hn2 : n = ns.length := by rw [hn, ints_length]
  have hn4 : n ≤ 4 := by rw [hn2]; exact hd.2
  have HN := Lib.hid (And.intro hn hn2)
  clear hr hd hn hn2
  go_enter Tryz.func162, Tryz.ntmps162
  go_wp2_with (at_make; refine wpList_make_full _ rfl _ _ 23 rfl w.heap.size 3 i0 (.int .i64 0) 1 Tryz.underlying23 hi hz0 hz1 .i64 .i64 _ _ n rfl rfl rfl rfl (by rw [hz2]; omega) (by unfold maxLen; omega) (Nat.le_refl _) ?_; intro w1 hm hg; refine stopHere ?_)
  have HM := Lib.hid (OwnI.made hm)
  have HB := Lib.hid (grown_below hg)
  clear hm hg hi hz0 hz1 hz2
  refine goOn ?_
  go_wp2
  go_loopw [4, 5] (fun p i wr => ∃ j : Nat, j ≤ n ∧ i = .int .i64 ((j : Int) - 1) ∧ p = .int .i64 (prodN (ns.drop j)) ∧ Hid (wr.ownsRow w.heap.size 3 1 (.slice (some ⟨w.heap.size, 0, none⟩) n n) n ((List.replicate j 0 ++ ints (stepsN (ns.drop j))).map (.int .i64)) ∧ Below w.heap.size w wr)) (fun _ i _ => ((intOf i) + 1).toNat)
  case atStart => exact ⟨n, Nat.le_refl _, rfl, by rw [HN.out.2, List.drop_length]; rfl, Lib.hid ⟨by have := HM.out; rw [HN.out.2, List.drop_length, ← HN.out.2]; unfold OwnI at this; simpa [ints, stepsN] using this, HB.out⟩⟩
  case round =>
    obtain ⟨j, hj, rfl, rfl, HO⟩ := hrel
    obtain ⟨w1, rfl⟩ : ∃ w1, w1 = wr := ⟨_, rfl⟩
    cases j with
    | zero =>
      have HF := Lib.hid (show OwnI w1 w.heap.size 3 .i64 (.slice (some ⟨w.heap.size, 0, none⟩) n n) (ints (stepsN ns)) by
        have := HO.out.1; rw [List.drop_zero] at this; rw [OwnI, ints_length, stepsN_length, ← HN.out.2]; simpa using this)
      go_wp2
      go_ret
      exact ⟨⟨_, rfl, HF.out⟩, HO.out.2⟩
    | succ j =>
      have hjl : j < ns.length := by rw [← HN.out.2]; omega
      have HDR := Lib.hid (drop_at hjl)
      obtain ⟨b, off, rfl, h1⟩ := HR.out.cell j (by rw [ints_length]; exact hjl)
      rw [ints_get _ _ hjl] at h1
      have e1 := (HO.out.2.cell (p := ⟨b, off + j, none⟩) (cell_lt h1)).trans h1
      have hcl := own_cells HO.out.1 j (u := .int .i64 0) (by simp [List.getElem?_append, List.getElem?_replicate])
      obtain ⟨hc1, hf1⟩ := hcl
      have hbn : off + j < off + j + 1 ∧ b < w.heap.size := ⟨by omega, cell_lt h1⟩
      have e2 : ∀ u, (w1.setCell ⟨w.heap.size, j, none⟩ u).cell? ⟨b, off + j, none⟩ = some (.int .i64 (ns[j] : Int)) := fun u => by
        rw [World.cell?_setCell_other _ _ _ _ (by intro h; simp only [Addr.mk.injEq] at h; omega)]; exact e1
      have hpb := (HD.out.drop (j + 1)).prod
      have hpb2 := (HD.out.drop j).prod
      rw [HDR.out, prodN] at hpb2
      have HS := Lib.hid (own_set1 HO.out.1 j (.int .i64 (prodN (ns.drop (j + 1)) : Int)))
      have HP := Lib.hid (show prodN (ns.drop j) = ns[j] * prodN (ns.drop (j + 1)) by rw [HDR.out, prodN])
      obtain ⟨P, hP⟩ : ∃ P, P = prodN (ns.drop (j + 1)) := ⟨_, rfl⟩
      obtain ⟨x, hx⟩ : ∃ x, x = ns[j] := ⟨_, rfl⟩
      have HSE := Lib.hid (show (List.replicate (j + 1) 0 ++ ints (stepsN (ns.drop (j + 1)))).set j (P : Int) = List.replicate j 0 ++ ints (stepsN (ns.drop j)) by rw [zeros_set, HDR.out, stepsN, hP]; rfl)
      rw [← hP] at hpb hpb2 HS HP ⊢
      rw [← hx] at hpb2 HP e1 e2
      have hwm : IntKind.i64.wrap ((P : Int) * (x : Int)) = ((x * P : Nat) : Int) := by
        rw [show (P : Int) * (x : Int) = ((x * P : Nat) : Int) by push_cast; exact Int.mul_comm _ _]
        exact IntWalk.i64_in _ (by omega)
      have hji : (((j + 1 : Nat) : Int) - 1).toNat = j := by omega
      have hji2 : ((j + 1 : Nat) : Int) - 1 = (j : Int) := by omega
      have hwj : IntKind.i64.wrap ((j : Int) - 1) = (j : Int) - 1 := IntWalk.i64_in _ (by omega)
      have HB2 := Lib.hid (HO.out.2.setCell (p := ⟨w.heap.size, j, none⟩) (Nat.le_refl _) (.int .i64 (P : Int)))
      have HJ := Lib.hid hj
      clear h1 hP hx hpb hpb2 hj hbn
      rw [hji2]
      have hjn : (j : Int) < (n : Int) := by have := HJ.out; omega
      go_wp2
      go_roundw
      case rel => exact ⟨j, by have := HJ.out; omega, rfl, by rw [HP.out]; push_cast; rfl, Lib.hid ⟨by have := HS.out; rw [← List.map_set, HSE.out] at this; exact this, HB2.out⟩⟩
      case measure => simp [intOf]
set_option maxRecDepth 100000 in
set_option maxHeartbeats 2000000 in
theorem ref6Strides_any (v : Value) (ns : List Nat) (w : World) (hr : Rd w .i64 v (ints ns)) (hd : DimsN ns) :
    Calls Tryz.prog 139 #[v] w fun e w' => (∃ v', e = .returned v' ∧ OwnI w' w.heap.size 3 .i64 v' (ints (stepsN ns))) ∧ Below w.heap.size w w' := by
  obtain ⟨i0, hi, hz0, hz1, hz2⟩ := info_parts info_int
  have HR := Lib.hid hr
  obtain ⟨o, cap, rfl⟩ := rd_slice hr
  have HD := Lib.hid hd
  obtain ⟨n, hn⟩ : ∃ n, n = (ints ns).length := ⟨_, rfl⟩
  rw [← hn]
  have hn2 : n = ns.length := by rw [hn, ints_length]
  have hn4 : n ≤ 4 := by rw [hn2]; exact hd.2
  have HN := Lib.hid (And.intro hn hn2)
  clear hr hd hn hn2
  go_enter Tryz.func139, Tryz.ntmps139
  go_wp2_with (at_make; refine wpList_make_full _ rfl _ _ 23 rfl w.heap.size 3 i0 (.int .i64 0) 1 Tryz.underlying23 hi hz0 hz1 .i64 .i64 _ _ n rfl rfl rfl rfl (by rw [hz2]; omega) (by unfold maxLen; omega) (Nat.le_refl _) ?_; intro w1 hm hg; refine stopHere ?_)
  have HM := Lib.hid (OwnI.made hm)
  have HB := Lib.hid (grown_below hg)
  clear hm hg hi hz0 hz1 hz2
  refine goOn ?_
  go_wp2
  go_loopw [4, 5] (fun p i wr => ∃ j : Nat, j ≤ n ∧ i = .int .i64 ((j : Int) - 1) ∧ p = .int .i64 (prodN (ns.drop j)) ∧ Hid (wr.ownsRow w.heap.size 3 1 (.slice (some ⟨w.heap.size, 0, none⟩) n n) n ((List.replicate j 0 ++ ints (stepsN (ns.drop j))).map (.int .i64)) ∧ Below w.heap.size w wr)) (fun _ i _ => ((intOf i) + 1).toNat)
  case atStart => exact ⟨n, Nat.le_refl _, rfl, by rw [HN.out.2, List.drop_length]; rfl, Lib.hid ⟨by have := HM.out; rw [HN.out.2, List.drop_length, ← HN.out.2]; unfold OwnI at this; simpa [ints, stepsN] using this, HB.out⟩⟩
  case round =>
    obtain ⟨j, hj, rfl, rfl, HO⟩ := hrel
    obtain ⟨w1, rfl⟩ : ∃ w1, w1 = wr := ⟨_, rfl⟩
    cases j with
    | zero =>
      have HF := Lib.hid (show OwnI w1 w.heap.size 3 .i64 (.slice (some ⟨w.heap.size, 0, none⟩) n n) (ints (stepsN ns)) by
        have := HO.out.1; rw [List.drop_zero] at this; rw [OwnI, ints_length, stepsN_length, ← HN.out.2]; simpa using this)
      go_wp2
      go_ret
      exact ⟨⟨_, rfl, HF.out⟩, HO.out.2⟩
    | succ j =>
      have hjl : j < ns.length := by rw [← HN.out.2]; omega
      have HDR := Lib.hid (drop_at hjl)
      obtain ⟨b, off, rfl, h1⟩ := HR.out.cell j (by rw [ints_length]; exact hjl)
      rw [ints_get _ _ hjl] at h1
      have e1 := (HO.out.2.cell (p := ⟨b, off + j, none⟩) (cell_lt h1)).trans h1
      have hcl := own_cells HO.out.1 j (u := .int .i64 0) (by simp [List.getElem?_append, List.getElem?_replicate])
      obtain ⟨hc1, hf1⟩ := hcl
      have hbn : off + j < off + j + 1 ∧ b < w.heap.size := ⟨by omega, cell_lt h1⟩
      have e2 : ∀ u, (w1.setCell ⟨w.heap.size, j, none⟩ u).cell? ⟨b, off + j, none⟩ = some (.int .i64 (ns[j] : Int)) := fun u => by
        rw [World.cell?_setCell_other _ _ _ _ (by intro h; simp only [Addr.mk.injEq] at h; omega)]; exact e1
      have hpb := (HD.out.drop (j + 1)).prod
      have hpb2 := (HD.out.drop j).prod
      rw [HDR.out, prodN] at hpb2
      have HS := Lib.hid (own_set1 HO.out.1 j (.int .i64 (prodN (ns.drop (j + 1)) : Int)))
      have HP := Lib.hid (show prodN (ns.drop j) = ns[j] * prodN (ns.drop (j + 1)) by rw [HDR.out, prodN])
      obtain ⟨P, hP⟩ : ∃ P, P = prodN (ns.drop (j + 1)) := ⟨_, rfl⟩
      obtain ⟨x, hx⟩ : ∃ x, x = ns[j] := ⟨_, rfl⟩
      have HSE := Lib.hid (show (List.replicate (j + 1) 0 ++ ints (stepsN (ns.drop (j + 1)))).set j (P : Int) = List.replicate j 0 ++ ints (stepsN (ns.drop j)) by rw [zeros_set, HDR.out, stepsN, hP]; rfl)
      rw [← hP] at hpb hpb2 HS HP ⊢
      rw [← hx] at hpb2 HP e1 e2
      have hwm : IntKind.i64.wrap ((P : Int) * (x : Int)) = ((x * P : Nat) : Int) := by
        rw [show (P : Int) * (x : Int) = ((x * P : Nat) : Int) by push_cast; exact Int.mul_comm _ _]
        exact IntWalk.i64_in _ (by omega)
      have hji : (((j + 1 : Nat) : Int) - 1).toNat = j := by omega
      have hji2 : ((j + 1 : Nat) : Int) - 1 = (j : Int) := by omega
      have hwj : IntKind.i64.wrap ((j : Int) - 1) = (j : Int) - 1 := IntWalk.i64_in _ (by omega)
      have HB2 := Lib.hid (HO.out.2.setCell (p := ⟨w.heap.size, j, none⟩) (Nat.le_refl _) (.int .i64 (P : Int)))
      have HJ := Lib.hid hj
      clear h1 hP hx hpb hpb2 hj hbn
      rw [hji2]
      have hjn : (j : Int) < (n : Int) := by have := HJ.out; omega
      go_wp2
      go_roundw
      case rel => exact ⟨j, by have := HJ.out; omega, rfl, by rw [HP.out]; push_cast; rfl, Lib.hid ⟨by have := HS.out; rw [← List.map_set, HSE.out] at this; exact this, HB2.out⟩⟩
      case measure => simp [intOf]
set_option maxRecDepth 100000 in
set_option maxHeartbeats 2000000 in
theorem shapeStands_any (v : Value) (ns : List Nat) (q : Nat) (w : World) (hr : Rd w .i64 v (ints ns)) (hd : DimsN ns) (hq : q ≤ 1000000) :
    Calls Tryz.prog 147 #[v, .int .i64 q] w fun e w' => (∃ v', e = .returned v' ∧ OwnI w' w.heap.size 3 .i64 v' (ints (standsN ns q))) ∧ Below w.heap.size w w' := by
  obtain ⟨i0, hi, hz0, hz1, hz2⟩ := info_parts info_int
  have HR := Lib.hid hr
  obtain ⟨o, cap, rfl⟩ := rd_slice hr
  have HD := Lib.hid hd
  obtain ⟨n, hn⟩ : ∃ n, n = (ints ns).length := ⟨_, rfl⟩
  rw [← hn]
  have hn2 : n = ns.length := by rw [hn, ints_length]
  have hn4 : n ≤ 4 := by rw [hn2]; exact hd.2
  have HN := Lib.hid (And.intro hn hn2)
  clear hr hd hn hn2
  go_enter Tryz.func147, Tryz.ntmps147
  go_wp2_with (at_make; refine wpList_make_full _ rfl _ _ 23 rfl w.heap.size 3 i0 (.int .i64 0) 1 Tryz.underlying23 hi hz0 hz1 .i64 .i64 _ _ n rfl rfl rfl rfl (by rw [hz2]; omega) (by unfold maxLen; omega) (Nat.le_refl _) ?_; intro w1 hm hg; refine stopHere ?_)
  have HM := Lib.hid (OwnI.made hm)
  have HB := Lib.hid (grown_below hg)
  clear hm hg hi hz0 hz1 hz2
  refine goOn ?_
  go_wp2
  have HQ := Lib.hid hq
  clear hq
  go_loopw [1, 6] (fun p i wr => ∃ j : Nat, j ≤ n ∧ i = .int .i64 ((j : Int) - 1) ∧ p = .int .i64 ((q / prodN (ns.drop j) : Nat) : Int) ∧ Hid (wr.ownsRow w.heap.size 3 1 (.slice (some ⟨w.heap.size, 0, none⟩) n n) n ((List.replicate j 0 ++ ints (standsN (ns.drop j) q)).map (.int .i64)) ∧ Below w.heap.size w wr)) (fun _ i _ => ((intOf i) + 1).toNat)
  case atStart => exact ⟨n, Nat.le_refl _, rfl, by rw [HN.out.2, List.drop_length]; simp [prodN], Lib.hid ⟨by have := HM.out; rw [HN.out.2, List.drop_length, ← HN.out.2]; unfold OwnI at this; simpa [ints, standsN] using this, HB.out⟩⟩
  case round =>
    obtain ⟨j, hj, rfl, rfl, HO⟩ := hrel
    obtain ⟨w1, rfl⟩ : ∃ w1, w1 = wr := ⟨_, rfl⟩
    cases j with
    | zero =>
      have HF := Lib.hid (show OwnI w1 w.heap.size 3 .i64 (.slice (some ⟨w.heap.size, 0, none⟩) n n) (ints (standsN ns q)) by
        have := HO.out.1; rw [List.drop_zero] at this; rw [OwnI, ints_length, standsN_length, ← HN.out.2]; simpa using this)
      go_wp2
      go_ret
      exact ⟨⟨_, rfl, HF.out⟩, HO.out.2⟩
    | succ j =>
      have hjl : j < ns.length := by rw [← HN.out.2]; omega
      have HDR := Lib.hid (drop_at hjl)
      obtain ⟨b, off, rfl, h1⟩ := HR.out.cell j (by rw [ints_length]; exact hjl)
      rw [ints_get _ _ hjl] at h1
      have e1 := (HO.out.2.cell (p := ⟨b, off + j, none⟩) (cell_lt h1)).trans h1
      have hcl := own_cells HO.out.1 j (u := .int .i64 0) (by simp [List.getElem?_append, List.getElem?_replicate])
      obtain ⟨hc1, hf1⟩ := hcl
      have hbn : off + j < off + j + 1 ∧ b < w.heap.size := ⟨by omega, cell_lt h1⟩
      have e2 : ∀ u, (w1.setCell ⟨w.heap.size, j, none⟩ u).cell? ⟨b, off + j, none⟩ = some (.int .i64 (ns[j] : Int)) := fun u => by
        rw [World.cell?_setCell_other _ _ _ _ (by intro h; simp only [Addr.mk.injEq] at h; omega)]; exact e1
      have hxd := HD.out.1 _ (List.getElem_mem hjl)
      obtain ⟨m, hm⟩ : ∃ m, m = q / prodN (ns.drop (j + 1)) := ⟨_, rfl⟩
      obtain ⟨x, hx⟩ : ∃ x, x = ns[j] := ⟨_, rfl⟩
      have HSE := Lib.hid (show (List.replicate (j + 1) 0 ++ ints (standsN (ns.drop (j + 1)) q)).set j ((m % x : Nat) : Int) = List.replicate j 0 ++ ints (standsN (ns.drop j) q) by rw [zeros_set, HDR.out, standsN, hm, hx]; rfl)
      have HP := Lib.hid (show q / prodN (ns.drop j) = m / x by rw [HDR.out, prodN, hm, hx, Nat.div_div_eq_div_mul, Nat.mul_comm])
      have HS := Lib.hid (own_set1 HO.out.1 j (.int .i64 ((m % x : Nat) : Int)))
      have hmb : m ≤ 1000000 := by rw [hm]; exact Nat.le_trans (Nat.div_le_self _ _) HQ.out
      rw [← hx] at e1 e2 hxd
      rw [← hm]
      have hne0 : ¬ (x : Int) = 0 := by omega
      have hne1 : ((x : Int) == 0) = false := by rw [beq_eq_false_iff_ne]; exact hne0
      have hwr : IntKind.i64.wrap ((m : Int).tmod x) = ((m % x : Nat) : Int) := by
        rw [show (m : Int).tmod x = ((m % x : Nat) : Int) from rfl]
        exact IntWalk.i64_in _ (by have := Nat.mod_lt m hxd.1; generalize m % x = z at this ⊢; omega)
      have hwq : IntKind.i64.wrap ((m : Int).tdiv x) = ((m / x : Nat) : Int) := by
        rw [show (m : Int).tdiv x = ((m / x : Nat) : Int) from rfl]
        exact IntWalk.i64_in _ (by have := Nat.div_le_self m x; generalize m / x = z at this ⊢; omega)
      have hwr2 : IntKind.i64.wrap ((m : Int) % x) = ((m % x : Nat) : Int) := hwr
      have hwq2 : IntKind.i64.wrap ((m : Int) / x) = ((m / x : Nat) : Int) := hwq
      have hji : (((j + 1 : Nat) : Int) - 1).toNat = j := by omega
      have hji2 : ((j + 1 : Nat) : Int) - 1 = (j : Int) := by omega
      have hwj : IntKind.i64.wrap ((j : Int) - 1) = (j : Int) - 1 := IntWalk.i64_in _ (by omega)
      have HB2 := Lib.hid (HO.out.2.setCell (p := ⟨w.heap.size, j, none⟩) (Nat.le_refl _) (.int .i64 ((m % x : Nat) : Int)))
      have HJ := Lib.hid hj
      clear h1 hm hx hj hbn
      rw [hji2]
      have hjn : (j : Int) < (n : Int) := by have := HJ.out; omega
      go_wp2
      go_roundw
      case rel => exact ⟨j, by have := HJ.out; omega, rfl, by rw [HP.out]; push_cast; rfl, Lib.hid ⟨by have := HS.out; rw [← List.map_set, HSE.out] at this; exact this, HB2.out⟩⟩
      case measure => simp [intOf]
end Go.Proofs.YtipjhdgegfgenaaGreat
