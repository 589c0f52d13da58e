/-
  SMALL FUNCTIONS: words, shapes, their contracts.
-/
import Derived.Shelf.Abstract
import Derived.Test.YtipjhdgegfgenaaGreatEV02
import Derived.Test.YtipjhdgegfgenaaGreatEV01
set_option linter.unusedVariables false
set_option linter.unusedSimpArgs false
namespace Go.Proofs.YtipjhdgegfgenaaGreat
open Go.RowKit Go.Shelf
theorem ret_bool {a b : Bool} (h : a = b) : Ending.returned (.bool a) = .returned (.bool b) := by rw [h]
theorem ret_int {k : IntKind} {a b : Int} (h : a = b) : Ending.returned (.int k a) = .returned (.int k b) := by rw [h]
set_option maxHeartbeats 400000 in
theorem fxGood_any (v : Int) (w : World) :
    Calls Tryz.prog 39 #[.int .i64 v] w fun e w' => e = .returned (.bool (wordB v)) ∧ Same w w' := by
  by_cases h1 : -140737488355328 < v
  · by_cases h2 : v < 140737488355328
    all_goals
      go_enter Tryz.func39, Tryz.ntmps39
      go_wp2
      go_ret
      exact ⟨ret_bool (by simp [wordB, h1, h2]), Same.refl _⟩
  · go_enter Tryz.func39, Tryz.ntmps39
    go_wp2
    go_ret
    exact ⟨ret_bool (by simp [wordB]; omega), Same.refl _⟩
set_option maxHeartbeats 400000 in
theorem ref2May_any (v : Int) (w : World) :
    Calls Tryz.prog 28 #[.int .i64 v] w fun e w' => e = .returned (.bool (wordB v)) ∧ Same w w' := by
  by_cases h1 : -140737488355328 < v
  · by_cases h2 : v < 140737488355328
    all_goals
      go_enter Tryz.func28, Tryz.ntmps28
      go_wp2
      go_ret
      exact ⟨ret_bool (by simp [wordB, h1, h2]), Same.refl _⟩
  · go_enter Tryz.func28, Tryz.ntmps28
    go_wp2
    go_ret
    exact ⟨ret_bool (by simp [wordB]; omega), Same.refl _⟩
set_option maxHeartbeats 400000 in
theorem ref8Words_any (v : Value) (xs : List Int) (w : World) (hr : Rd w .i64 v xs) (hl : xs.length ≤ 140737488351232) :
    Calls Tryz.prog 18 #[v] w fun e w' => e = .returned (.bool (wordsB xs)) ∧ Same w w' := by
  obtain ⟨o, cap, rfl, hc⟩ := hr
  have HC := Lib.hid hc
  clear hc
  go_enter Tryz.func18, Tryz.ntmps18
  go_wp2
  go_loopw [3] (fun i wr => ∃ k : Nat, k ≤ xs.length ∧ i = .int .i64 k ∧ (xs.take k).all wordB = true ∧ Same w wr) (fun i _ => xs.length - (intOf i).toNat)
  case atStart => exact ⟨0, Nat.zero_le _, rfl, rfl, Same.refl _⟩
  case round =>
    obtain ⟨k, hk, rfl, hp, n0, rfl⟩ := hrel
    have HP := Lib.hid hp
    clear hp
    by_cases hlt : k < xs.length
    · obtain ⟨b, off, rfl, h1⟩ := HC.out k hlt
      cases hb : wordB (nth xs k)
      all_goals
        have HB := Lib.hid hb
        clear hb
        go_wp2_with fail
        refine (ref2May_any (nth xs k) _).mono ?_
        rintro e w' ⟨rfl, nq, rfl⟩
        rw [HB.out]
        go_wp2
      · go_ret
        exact ⟨ret_bool (by rw [wordsB, all_false_of _ _ k hlt HB.out]), (by first | exact ⟨_, rfl⟩ | exact ⟨_, World.drewN_drewN _ _ _⟩)⟩
      · go_roundw
        case rel => exact ⟨k + 1, by omega, by go_num, by rw [all_take_succ _ _ _ hlt, HP.out, HB.out]; rfl, (by first | exact ⟨_, rfl⟩ | exact ⟨_, World.drewN_drewN _ _ _⟩)⟩
        case measure => simp [intOf]; omega
    · obtain rfl : k = xs.length := by omega
      go_wp2
      go_ret
      exact ⟨ret_bool (by rw [wordsB, ← HP.out, List.take_length]), ⟨_, rfl⟩⟩
set_option maxHeartbeats 400000 in
theorem indexInt64_any (v : Value) (xs : List Int) (F : Nat) (cs : Array Value) (p : Int → Bool) (w : World) (hr : Rd w .i64 v xs) (hl : xs.length ≤ 140737488351232) (he : ∀ args w, (callFunc F args).run Tryz.prog w = .ok (.enter F args) w)
    (hf : ∀ k, k < xs.length → ∀ n, Calls Tryz.prog F (#[.int .i64 (nth xs k)] ++ cs) (w.drewN n) fun e w' => e = .returned (.bool (p (nth xs k))) ∧ Same (w.drewN n) w') :
    Calls Tryz.prog 161 #[v, .func (.func F) #[] cs] w fun e w' => (∃ i : Int, e = .returned (.int .i64 i) ∧ decide (0 ≤ i) = xs.any p) ∧ Same w w' := by
  obtain ⟨o, cap, rfl, hc⟩ := hr
  have HC := Lib.hid hc
  have HF := Lib.hid hf
  clear hc hf
  go_enter Tryz.func161, Tryz.ntmps161
  go_wp2
  go_loopw [8] (fun i wr => ∃ k : Nat, k ≤ xs.length ∧ i = .int .i64 k ∧ (xs.take k).any p = false ∧ Same w wr) (fun i _ => xs.length - (intOf i).toNat)
  case atStart => exact ⟨0, Nat.zero_le _, rfl, rfl, Same.refl _⟩
  case round =>
    obtain ⟨k, hk, rfl, hp, n0, rfl⟩ := hrel
    have HP := Lib.hid hp
    clear hp
    by_cases hlt : k < xs.length
    · obtain ⟨b, off, rfl, h1⟩ := HC.out k hlt
      cases hb : p (nth xs k)
      all_goals
        have HB := Lib.hid hb
        clear hb
        go_wp2_with fail
        refine Calls.mono (HF.out k hlt n0) ?_
        rintro e w' ⟨rfl, nq, rfl⟩
        rw [HB.out]
        go_wp2
      · go_roundw
        case rel => exact ⟨k + 1, by omega, by go_num, by rw [any_take_succ _ _ _ hlt, HP.out, HB.out]; rfl, (by first | exact ⟨_, rfl⟩ | exact ⟨_, World.drewN_drewN _ _ _⟩)⟩
        case measure => simp [intOf]; omega
      · go_ret
        exact ⟨⟨_, rfl, by rw [any_true_of _ _ k hlt HB.out]; simp⟩, (by first | exact ⟨_, rfl⟩ | exact ⟨_, World.drewN_drewN _ _ _⟩)⟩
    · obtain rfl : k = xs.length := by omega
      have HA : Hid (xs.any p = false) := Lib.hid (by have := HP.out; rwa [List.take_length] at this)
      go_wp2
      go_ret
      exact ⟨⟨_, rfl, by rw [HA.out]; simp⟩, ⟨_, rfl⟩⟩
set_option maxHeartbeats 400000 in
theorem containsInt64_any (v : Value) (xs : List Int) (F : Nat) (cs : Array Value) (p : Int → Bool) (w : World) (hr : Rd w .i64 v xs) (hl : xs.length ≤ 140737488351232) (he : ∀ args w, (callFunc F args).run Tryz.prog w = .ok (.enter F args) w)
    (hf : ∀ k, k < xs.length → ∀ n, Calls Tryz.prog F (#[.int .i64 (nth xs k)] ++ cs) (w.drewN n) fun e w' => e = .returned (.bool (p (nth xs k))) ∧ Same (w.drewN n) w') :
    Calls Tryz.prog 111 #[v, .func (.func F) #[] cs] w fun e w' => e = .returned (.bool (xs.any p)) ∧ Same w w' := by
  have HI := Lib.hid (indexInt64_any v xs F cs p w hr hl he hf)
  clear hf hr he
  go_enter Tryz.func111, Tryz.ntmps111
  go_wp2_with fail
  refine HI.out.mono ?_
  rintro e w' ⟨⟨i, rfl, hi⟩, hs⟩
  have HX := Lib.hid hi
  have HS := Lib.hid hs
  clear hi hs
  go_wp2
  go_ret
  exact ⟨ret_bool HX.out, HS.out⟩
set_option maxHeartbeats 800000 in
theorem shapeSize_any (v : Value) (xs : List Int) (w : World) (hr : Rd w .i64 v xs) (hs : xs.all dimB = true) (hl : xs.length ≤ 4) :
    Calls Tryz.prog 110 #[v] w fun e w' => e = .returned (.int .i64 (prodL xs)) ∧ Same w w' := by
  obtain ⟨o, cap, rfl, hc⟩ := hr
  have HC := Lib.hid hc
  have HS := Lib.hid hs
  clear hc hs
  go_enter Tryz.func110, Tryz.ntmps110
  go_wp2
  go_loop [3, 8] (fun p i => ∃ k : Nat, k ≤ xs.length ∧ i = .int .i64 k ∧ p = .int .i64 (prodL (xs.take k))) (fun _ i => xs.length - (intOf i).toNat)
  case atStart => exact ⟨0, Nat.zero_le _, rfl, rfl⟩
  case round =>
    obtain ⟨k, hk, rfl, rfl⟩ := hrel
    by_cases hlt : k < xs.length
    · obtain ⟨b, off, rfl, h1⟩ := HC.out k hlt
      obtain ⟨hb1, hb2⟩ := prod_step xs k HS.out hl hlt
      obtain ⟨P, hP⟩ : ∃ P, P = prodL (xs.take k) := ⟨_, rfl⟩
      rw [← hP] at hb1 hb2 ⊢
      have HP := Lib.hid hP
      clear hP
      go_wp2
      go_round
      case rel => exact ⟨k + 1, by omega, by go_num, by rw [take_succ_nth xs k hlt, prodL_snoc, HP.out]⟩
      case measure => simp [intOf]; omega
    · obtain rfl : k = xs.length := by omega
      go_wp2
      go_ret
      exact ⟨rfl, Same.refl _⟩
set_option maxHeartbeats 800000 in
theorem shapeGood_any (v : Value) (xs : List Int) (w : World) (hr : Rd w .i64 v xs) (hl : xs.length ≤ 140737488351232) :
    Calls Tryz.prog 102 #[v] w fun e w' => e = .returned (.bool (shapeB xs)) ∧ Same w w' := by
  obtain ⟨o, cap, rfl, hc⟩ := hr
  have HC := Lib.hid hc
  clear hc
  by_cases h4 : 4 < xs.length
  · go_enter Tryz.func102, Tryz.ntmps102
    go_wp2
    go_ret
    exact ⟨ret_bool (by simp [shapeB]; omega), Same.refl _⟩
  · have hl4 : xs.length ≤ 4 := by omega
    clear h4
    go_enter Tryz.func102, Tryz.ntmps102
    go_wp2
    go_loop [3, 11] (fun p i => ∃ k : Nat, k ≤ xs.length ∧ i = .int .i64 k ∧ p = .int .i64 (prodL (xs.take k)) ∧ (xs.take k).all dimB = true) (fun _ i => xs.length - (intOf i).toNat)
    case atStart => exact ⟨0, Nat.zero_le _, rfl, rfl, rfl⟩
    case round =>
      obtain ⟨k, hk, rfl, rfl, hall⟩ := hrel
      have HA := Lib.hid hall
      clear hall
      by_cases hlt : k < xs.length
      · obtain ⟨b, off, rfl, h1⟩ := HC.out k hlt
        cases hd : dimB (nth xs k)
        · have HD := Lib.hid hd
          rcases (dimB_no _).1 hd with h | h
          all_goals
            clear hd
            go_wp2
            go_ret
            exact ⟨ret_bool (by rw [shapeB, all_false_of _ _ k hlt HD.out]; simp), Same.refl _⟩
        · have HD := Lib.hid hd
          obtain ⟨hd1, hd2⟩ := (dimB_iff _).1 hd
          clear hd
          have hall2 : (xs.take (k + 1)).all dimB = true := by rw [all_take_succ _ _ _ hlt, HA.out, HD.out]; rfl
          obtain ⟨hb1, hb2⟩ := prod_step' xs k hall2 hl4 hlt
          have HA2 := Lib.hid hall2
          clear hall2
          obtain ⟨P, hP⟩ : ∃ P, P = prodL (xs.take k) := ⟨_, rfl⟩
          rw [← hP] at hb1 hb2 ⊢
          have HP := Lib.hid hP
          clear hP
          go_wp2
          go_round
          case rel => exact ⟨k + 1, by omega, by go_num, by rw [take_succ_nth xs k hlt, prodL_snoc, HP.out], HA2.out⟩
          case measure => simp [intOf]; omega
      · obtain rfl : k = xs.length := by omega
        have HA2 : Hid (xs.all dimB = true) := Lib.hid (by rw [← List.take_length (l := xs)]; exact HA.out)
        go_wp2
        all_goals go_ret
        all_goals exact ⟨ret_bool (by rw [shapeB, HA2.out]; simp; omega), Same.refl _⟩
set_option maxHeartbeats 800000 in
theorem ref6Count_any (v : Value) (xs : List Int) (w : World) (hr : Rd w .i64 v xs) (hs : xs.all dimB = true) (hl : xs.length ≤ 4) :
    Calls Tryz.prog 6 #[v] w fun e w' => e = .returned (.int .i64 (cnt xs)) ∧ Same w w' := by
  obtain ⟨o, cap, rfl, hc⟩ := hr
  have HC := Lib.hid hc
  have HS := Lib.hid hs
  clear hc hs
  go_enter Tryz.func6, Tryz.ntmps6
  go_wp2
  go_loop [3, 4] (fun p i => ∃ k : Nat, k ≤ xs.length ∧ i = .int .i64 k ∧ p = .int .i64 (prodL (xs.take k)) ∧ prodL (xs.take k) ≤ 65536) (fun _ i => xs.length - (intOf i).toNat)
  case atStart => exact ⟨0, Nat.zero_le _, rfl, rfl, by simp [prodL]⟩
  case round =>
    obtain ⟨k, hk, rfl, rfl, hp⟩ := hrel
    by_cases hlt : k < xs.length
    · obtain ⟨b, off, rfl, h1⟩ := HC.out k hlt
      obtain ⟨hb1, hb2⟩ := prod_step xs k HS.out hl hlt
      obtain ⟨hd1, hd2⟩ := (dimB_iff _).1 (List.all_eq_true.1 HS.out _ (nth_mem xs k hlt))
      have hnext : Hid (prodL (xs.take (k + 1)) = prodL (xs.take k) * nth xs k) := Lib.hid (by rw [take_succ_nth xs k hlt, prodL_snoc])
      obtain ⟨P, hP⟩ : ∃ P, P = prodL (xs.take k) := ⟨_, rfl⟩
      rw [← hP] at hb1 hb2 hp hnext ⊢
      have HP := Lib.hid hP
      clear hP
      by_cases hbig : 65536 < P * nth xs k
      · go_wp2
        go_ret
        exact ⟨ret_int (by rw [cnt, if_neg]; have := prod_mono xs (k + 1) HS.out; rw [hnext.out] at this; omega), Same.refl _⟩
      · go_wp2
        go_round
        case rel => exact ⟨k + 1, by omega, by go_num, by rw [hnext.out], by rw [hnext.out]; omega⟩
        case measure => simp [intOf]; omega
    · obtain rfl : k = xs.length := by omega
      have HP := Lib.hid hp
      go_wp2
      go_ret
      exact ⟨ret_int (by have h := HP.out; rw [List.take_length] at h; rw [cnt, if_pos h]), Same.refl _⟩
set_option maxHeartbeats 800000 in
theorem ref6May_any (v : Value) (xs : List Int) (w : World) (hr : Rd w .i64 v xs) (hl : xs.length ≤ 140737488351232) :
    Calls Tryz.prog 17 #[v] w fun e w' => e = .returned (.bool (shapeB xs)) ∧ Same w w' := by
  obtain ⟨o, cap, rfl, hc⟩ := hr
  have HC := Lib.hid hc
  clear hc
  by_cases h4 : 4 < xs.length
  · go_enter Tryz.func17, Tryz.ntmps17
    go_wp2
    go_ret
    exact ⟨ret_bool (by simp [shapeB]; omega), Same.refl _⟩
  · have hl4 : xs.length ≤ 4 := by omega
    clear h4
    go_enter Tryz.func17, Tryz.ntmps17
    go_wp2
    go_loop [3] (fun i => ∃ k : Nat, k ≤ xs.length ∧ i = .int .i64 k ∧ (xs.take k).all dimB = true) (fun i => xs.length - (intOf i).toNat)
    case atStart => exact ⟨0, Nat.zero_le _, rfl, rfl⟩
    case round =>
      obtain ⟨k, hk, rfl, hall⟩ := hrel
      have HA := Lib.hid hall
      clear hall
      by_cases hlt : k < xs.length
      · obtain ⟨b, off, rfl, h1⟩ := HC.out k hlt
        cases hd : dimB (nth xs k)
        · have HD := Lib.hid hd
          rcases (dimB_no _).1 hd with h | h
          · clear hd
            go_wp2
            go_ret
            exact ⟨ret_bool (by rw [shapeB, all_false_of _ _ k hlt HD.out]; simp), Same.refl _⟩
          · clear hd
            have h' : ¬ nth xs k < 1 := by omega
            go_wp2
            go_ret
            exact ⟨ret_bool (by rw [shapeB, all_false_of _ _ k hlt HD.out]; simp), Same.refl _⟩
        · have HD := Lib.hid hd
          obtain ⟨hd1, hd2⟩ := (dimB_iff _).1 hd
          clear hd
          go_wp2
          go_round
          case rel => exact ⟨k + 1, by omega, by go_num, by rw [all_take_succ _ _ _ hlt, HA.out, HD.out]; rfl⟩
          case measure => simp [intOf]; omega
      · obtain rfl : k = xs.length := by omega
        have HA2 : Hid (xs.all dimB = true) := Lib.hid (by rw [← List.take_length (l := xs)]; exact HA.out)
        go_wp2_with fail
        refine (ref6Count_any _ xs _ ⟨_, _, rfl, HC.out⟩ HA2.out hl4).mono ?_
        rintro e w' ⟨rfl, nq, rfl⟩
        go_wp2
        all_goals go_ret
        all_goals exact ⟨ret_bool (by rw [shapeB, HA2.out, ← cnt_le]; simp; omega), ⟨_, rfl⟩⟩
end Go.Proofs.YtipjhdgegfgenaaGreat
