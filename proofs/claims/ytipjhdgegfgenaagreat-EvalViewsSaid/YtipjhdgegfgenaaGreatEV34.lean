/-
  #[.int .i64 op, .slice oa na ca, .slice oi ni ci, .int .i64 word, .slice o1 n1 c1, .slice o2 n2 c2, .slice o3 n3 c3, .slice o4 n4 c4]S that may be: ratchetref18.May.
-/
import Derived.Deep.DeepCutAuto
import Derived.Test.YtipjhdgegfgenaaGreatEV33
set_option linter.unusedVariables false
set_option linter.unusedSimpArgs false
namespace Go.Proofs.YtipjhdgegfgenaaGreat
open Go.RowKit Go.Shelf Go
/-- the first guard -/
def mayA (op word : Int) (na ni : Nat) : Bool := decide (argsN op = na) && ((intsB op || decide (ni = 0)) && ((wordOpB op || decide (word = 0)) && wordB word))
def poolOp (op : Int) : Bool := decide (op = 23 ∨ op = 24 ∨ op = 25)
def mayTail (op : Int) (il : List Int) : Bool := if op = 2 then decide (il.length = 1) && decide (0 ≤ nth il 0) else if op = 18 then decide (il.length = 1) else if op = 21 then decide (il.length = 3) else true
/-- is it a node: its kind, its word, its arguments, its numbers, whether it has a convolution's -/
def mayB (op word : Int) (al il : List Int) (nc : Bool) : Bool := mayA op word al.length il.length && (al.all (fun x => decide (0 ≤ x)) && ((poolOp op || nc) && mayTail op il))
set_option maxRecDepth 100000 in
set_option maxHeartbeats 20000000 in
theorem ref18May_any (op word : Int) (va vi : Value) (al il : List Int) (o1 o2 o3 o4 : Option Addr) (n1 n2 n3 n4 c1 c2 c3 c4 : Nat) (w : World) (ha : Rd w .i64 va al) (hi : Rd w .i64 vi il) (hla : al.length ≤ 1000) (hli : il.length ≤ 1000) :
    Calls Tryz.prog 24 #[.agg #[.int .i64 op, va, vi, .int .i64 word, .slice o1 n1 c1, .slice o2 n2 c2, .slice o3 n3 c3, .slice o4 n4 c4]] w
      fun e w' => e = .returned (.bool (mayB op word al il (decide (n1 + n2 + n3 + n4 = 0)))) ∧ Below w.heap.size w w' := by
  obtain ⟨nc, hnc⟩ : ∃ nc, nc = decide (n1 + n2 + n3 + n4 = 0) := ⟨_, rfl⟩
  rw [← hnc]
  have HNC := Lib.hid (show ∀ W, Calls Tryz.prog 43 #[.agg #[.slice o1 n1 c1, .slice o2 n2 c2, .slice o3 n3 c3, .slice o4 n4 c4]] W fun e w' => e = .returned (.bool nc) ∧ Below W.heap.size W w' from fun W => by rw [hnc]; exact noConv_any _ _ _ _ _ _ _ _ _ _ _ _ W)
  clear hnc
  have HA := Lib.hid ha
  have HI := Lib.hid hi
  obtain ⟨oa, ca, rfl⟩ := rd_slice ha
  obtain ⟨oi, ci, rfl⟩ := rd_slice hi
  clear ha hi
  obtain ⟨na, hna⟩ : ∃ n, n = al.length := ⟨_, rfl⟩
  obtain ⟨ni, hni⟩ : ∃ n, n = il.length := ⟨_, rfl⟩
  have HN := Lib.hid (And.intro hna hni)
  rw [← hna] at hla ⊢
  rw [← hni] at hli ⊢
  clear hna hni
  obtain ⟨W, hW⟩ : ∃ W, W = w.alloc (.cells #[.int .i64 op, .slice oa na ca, .slice oi ni ci, .int .i64 word, .slice o1 n1 c1, .slice o2 n2 c2, .slice o3 n3 c3, .slice o4 n4 c4] 27) := ⟨_, rfl⟩
  have hB : Below w.heap.size w W := by rw [hW]; exact (Below.refl _ _).alloc (Nat.le_refl _) _
  have hbx : Box W w.heap.size 27 #[.int .i64 op, .slice oa na ca, .slice oi ni ci, .int .i64 word, .slice o1 n1 c1, .slice o2 n2 c2, .slice o3 n3 c3, .slice o4 n4 c4] := by rw [hW]; exact Box.new _ _ _
  have HX := Lib.hid (And.intro hB hbx)
  have HW := Lib.hid hW
  have d0 := hbx.cell 0 rfl
  have d1 := hbx.cell 1 rfl
  have d2 := hbx.cell 2 rfl
  have d3 := hbx.cell 3 rfl
  have HP := Lib.hid fun (W : World) => ref18Args_any op W
  have HBI := Lib.hid fun (W : World) => hasInts_any op W
  have HBW := Lib.hid fun (W : World) => hasWord_any op W
  have HBM := Lib.hid fun (W : World) => ref2May_any word W
  obtain ⟨p, hp⟩ : ∃ p, p = argsN op := ⟨_, rfl⟩
  obtain ⟨bi, hbi⟩ : ∃ p, p = intsB op := ⟨_, rfl⟩
  obtain ⟨bw, hbw⟩ : ∃ p, p = wordOpB op := ⟨_, rfl⟩
  obtain ⟨bm, hbm⟩ : ∃ p, p = wordB word := ⟨_, rfl⟩
  have HG := Lib.hid (show mayA op word na ni = (decide (p = na) && ((bi || decide (ni = 0)) && ((bw || decide (word = 0)) && bm))) by rw [mayA, hp, hbi, hbw, hbm])
  rw [← hp] at HP
  rw [← hbi] at HBI
  rw [← hbw] at HBW
  rw [← hbm] at HBM
  clear hp hbi hbw hbm hW hB hbx
  go_enter Tryz.func24, Tryz.ntmps24
  go_upto_region 1 with (fail)
  rw [← HW.out]
  go_cut [51] (fun c wx => ∃ b : Bool, c = .bool b ∧ b = !(decide (p = na) && ((bi || decide (ni = 0)) && ((bw || decide (word = 0)) && bm))) ∧ Same W wx)
  case first =>
    by_cases a1 : p = na
    case neg =>
      have a1' : (p != (na : Int)) = true := by simp; exact a1
      have HA1 := Lib.hid a1
      clear a1
      go_quiet (first | (go_at_call 40; exact Calls.quiet_of (HP.out _)) | (go_at_call 41; exact Calls.quiet_of (HBI.out _)) | (go_at_call 42; exact Calls.quiet_of (HBW.out _)) | (go_at_call 28; exact Calls.quiet_of (HBM.out _)))
      go_wp2
      go_meet
      exact ⟨_, rfl, (by rw [decide_eq_false HA1.out]; rfl), _, rfl⟩
    have a2 : decide (p < 0) = false := decide_eq_false (by omega)
    have a1' : (p != (na : Int)) = false := by simp; exact a1
    have HA1 := Lib.hid a1
    clear a1
    have a6 : decide ((65536 : Int) < (ni : Int)) = false := decide_eq_false (by omega)
    cases bi with
    | true =>
      cases bw with
      | true =>
        cases bm with
        | false =>
          go_quiet (first | (go_at_call 40; exact Calls.quiet_of (HP.out _)) | (go_at_call 41; exact Calls.quiet_of (HBI.out _)) | (go_at_call 42; exact Calls.quiet_of (HBW.out _)) | (go_at_call 28; exact Calls.quiet_of (HBM.out _)))
          go_wp2
          go_meet
          exact ⟨_, rfl, (by rw [decide_eq_true HA1.out]; rfl), _, rfl⟩
        | true =>
          go_quiet (first | (go_at_call 40; exact Calls.quiet_of (HP.out _)) | (go_at_call 41; exact Calls.quiet_of (HBI.out _)) | (go_at_call 42; exact Calls.quiet_of (HBW.out _)) | (go_at_call 28; exact Calls.quiet_of (HBM.out _)))
          go_wp2
          go_meet
          exact ⟨_, rfl, (by rw [decide_eq_true HA1.out]; rfl), _, rfl⟩
      | false =>
        by_cases a4 : word = 0
        case neg =>
          have a4' : (word != 0) = true := by simp; exact a4
          have HA4 := Lib.hid a4
          clear a4
          go_quiet (first | (go_at_call 40; exact Calls.quiet_of (HP.out _)) | (go_at_call 41; exact Calls.quiet_of (HBI.out _)) | (go_at_call 42; exact Calls.quiet_of (HBW.out _)) | (go_at_call 28; exact Calls.quiet_of (HBM.out _)))
          go_wp2
          go_meet
          exact ⟨_, rfl, (by rw [decide_eq_true HA1.out, decide_eq_false HA4.out]; rfl), _, rfl⟩
        have a4' : (word != 0) = false := by simp; exact a4
        have HA4 := Lib.hid a4
        clear a4
        cases bm with
        | false =>
          go_quiet (first | (go_at_call 40; exact Calls.quiet_of (HP.out _)) | (go_at_call 41; exact Calls.quiet_of (HBI.out _)) | (go_at_call 42; exact Calls.quiet_of (HBW.out _)) | (go_at_call 28; exact Calls.quiet_of (HBM.out _)))
          go_wp2
          go_meet
          exact ⟨_, rfl, (by rw [decide_eq_true HA1.out, decide_eq_true HA4.out]; rfl), _, rfl⟩
        | true =>
          go_quiet (first | (go_at_call 40; exact Calls.quiet_of (HP.out _)) | (go_at_call 41; exact Calls.quiet_of (HBI.out _)) | (go_at_call 42; exact Calls.quiet_of (HBW.out _)) | (go_at_call 28; exact Calls.quiet_of (HBM.out _)))
          go_wp2
          go_meet
          exact ⟨_, rfl, (by rw [decide_eq_true HA1.out, decide_eq_true HA4.out]; rfl), _, rfl⟩
    | false =>
      by_cases a3 : ni = 0
      case neg =>
        have a3' : decide ((0 : Int) < (ni : Int)) = true := decide_eq_true (by omega)
        have a3i : 0 < ni := by omega
        go_quiet (first | (go_at_call 40; exact Calls.quiet_of (HP.out _)) | (go_at_call 41; exact Calls.quiet_of (HBI.out _)) | (go_at_call 42; exact Calls.quiet_of (HBW.out _)) | (go_at_call 28; exact Calls.quiet_of (HBM.out _)))
        go_wp2
        go_meet
        exact ⟨_, rfl, (by rw [decide_eq_true HA1.out, decide_eq_false a3]; rfl), _, rfl⟩
      subst a3
      cases bw with
      | true =>
        cases bm with
        | false =>
          go_quiet (first | (go_at_call 40; exact Calls.quiet_of (HP.out _)) | (go_at_call 41; exact Calls.quiet_of (HBI.out _)) | (go_at_call 42; exact Calls.quiet_of (HBW.out _)) | (go_at_call 28; exact Calls.quiet_of (HBM.out _)))
          go_wp2
          go_meet
          exact ⟨_, rfl, (by rw [decide_eq_true HA1.out]; rfl), _, rfl⟩
        | true =>
          go_quiet (first | (go_at_call 40; exact Calls.quiet_of (HP.out _)) | (go_at_call 41; exact Calls.quiet_of (HBI.out _)) | (go_at_call 42; exact Calls.quiet_of (HBW.out _)) | (go_at_call 28; exact Calls.quiet_of (HBM.out _)))
          go_wp2
          go_meet
          exact ⟨_, rfl, (by rw [decide_eq_true HA1.out]; rfl), _, rfl⟩
      | false =>
        by_cases a4 : word = 0
        case neg =>
          have a4' : (word != 0) = true := by simp; exact a4
          have HA4 := Lib.hid a4
          clear a4
          go_quiet (first | (go_at_call 40; exact Calls.quiet_of (HP.out _)) | (go_at_call 41; exact Calls.quiet_of (HBI.out _)) | (go_at_call 42; exact Calls.quiet_of (HBW.out _)) | (go_at_call 28; exact Calls.quiet_of (HBM.out _)))
          go_wp2
          go_meet
          exact ⟨_, rfl, (by rw [decide_eq_true HA1.out, decide_eq_false HA4.out]; rfl), _, rfl⟩
        have a4' : (word != 0) = false := by simp; exact a4
        have HA4 := Lib.hid a4
        clear a4
        cases bm with
        | false =>
          go_quiet (first | (go_at_call 40; exact Calls.quiet_of (HP.out _)) | (go_at_call 41; exact Calls.quiet_of (HBI.out _)) | (go_at_call 42; exact Calls.quiet_of (HBW.out _)) | (go_at_call 28; exact Calls.quiet_of (HBM.out _)))
          go_wp2
          go_meet
          exact ⟨_, rfl, (by rw [decide_eq_true HA1.out, decide_eq_true HA4.out]; rfl), _, rfl⟩
        | true =>
          go_quiet (first | (go_at_call 40; exact Calls.quiet_of (HP.out _)) | (go_at_call 41; exact Calls.quiet_of (HBI.out _)) | (go_at_call 42; exact Calls.quiet_of (HBW.out _)) | (go_at_call 28; exact Calls.quiet_of (HBM.out _)))
          go_wp2
          go_meet
          exact ⟨_, rfl, (by rw [decide_eq_true HA1.out, decide_eq_true HA4.out]; rfl), _, rfl⟩
  case rest =>
    obtain ⟨b, rfl, hb, hsm⟩ := hcut
    have HB := Lib.hid (show b = !mayA op word na ni by rw [HG.out]; exact hb)
    have HX1 := Lib.hid (And.intro (HX.out.1.trans (hsm.below _)) (HX.out.2.same hsm))
    clear hb hsm d0 d1 d2 d3 HP HBI HBW HBM HG HX
    obtain ⟨w1, rfl⟩ : ∃ w1, w1 = wc := ⟨_, rfl⟩
    have d0 : w1.cell? ⟨w.heap.size, 0, none⟩ = some (.int .i64 op) := HX1.out.2.cell 0 rfl
    have d1 : w1.cell? ⟨w.heap.size, 1, none⟩ = some (.slice oa na ca) := HX1.out.2.cell 1 rfl
    have d2 : w1.cell? ⟨w.heap.size, 2, none⟩ = some (.slice oi ni ci) := HX1.out.2.cell 2 rfl
    have d4 : w1.cell? ⟨w.heap.size, 4, none⟩ = some (.slice o1 n1 c1) := HX1.out.2.cell 4 rfl
    have d5 : w1.cell? ⟨w.heap.size, 5, none⟩ = some (.slice o2 n2 c2) := HX1.out.2.cell 5 rfl
    have d6 : w1.cell? ⟨w.heap.size, 6, none⟩ = some (.slice o3 n3 c3) := HX1.out.2.cell 6 rfl
    have d7 : w1.cell? ⟨w.heap.size, 7, none⟩ = some (.slice o4 n4 c4) := HX1.out.2.cell 7 rfl
    cases b with
    | true =>
      have HM := Lib.hid (show mayA op word na ni = false by have := HB.out; simpa using this)
      go_wp2
      go_ret
      exact ⟨ret_bool (by rw [mayB, ← HN.out.1, ← HN.out.2, HM.out]; rfl), HX1.out.1⟩
    | false =>
      have HM := Lib.hid (show mayA op word na ni = true by have := HB.out; simpa using this)
      clear HB
      go_wp2
      go_loop [3] (fun i => ∃ k : Nat, k ≤ na ∧ i = .int .i64 k ∧ Hid ((al.take k).all (fun x => decide (0 ≤ x)) = true)) (fun i => na - (intOf i).toNat)
      case atStart => exact ⟨0, Nat.zero_le _, rfl, Lib.hid rfl⟩
      case round =>
        obtain ⟨k, hk, rfl, HK⟩ := hrel
        by_cases hlt : k < na
        · have hka : k < al.length := by rw [← HN.out.1]; exact hlt
          obtain ⟨bq, fq, rfl, h1⟩ := HA.out.cell k hka
          have e1 := (HX1.out.1.cell (p := ⟨bq, fq + k, none⟩) (cell_lt h1)).trans h1
          by_cases hneg : nth al k < 0
          · have HZ := Lib.hid (show al.all (fun x => decide (0 ≤ x)) = false from all_false_of _ _ k hka (decide_eq_false (by omega)))
            generalize nth al k = x at e1 hneg
            clear h1 hka
            go_wp2
            go_ret
            exact ⟨ret_bool (by rw [mayB, ← HN.out.1, ← HN.out.2, HM.out, HZ.out]; rfl), HX1.out.1⟩
          · have HZ := Lib.hid (show (al.take (k + 1)).all (fun x => decide (0 ≤ x)) = true by rw [all_take_succ _ _ _ hka, HK.out]; simp; omega)
            generalize nth al k = x at e1 hneg
            clear h1 hka
            go_wp2
            go_round
            case rel => exact ⟨k + 1, by omega, by go_num, HZ⟩
            case measure => simp [intOf]; omega
        · obtain rfl : k = na := by omega
          have HZ := Lib.hid (show al.all (fun x => decide (0 ≤ x)) = true by have := HK.out; rwa [HN.out.1, List.take_length] at this)
          clear HK
          have HF := Lib.hid (show mayB op word al il nc = ((poolOp op || nc) && mayTail op il) by rw [mayB, ← HN.out.1, ← HN.out.2, HM.out, HZ.out]; rfl)
          by_cases p23 : op = 23
          · subst p23
            have HT := Lib.hid (show mayB 23 word al il nc = true by rw [HF.out]; rfl)
            go_wp2

            go_ret
            exact ⟨ret_bool HT.out.symm, HX1.out.1⟩
          by_cases p24 : op = 24
          · subst p24
            have HT := Lib.hid (show mayB 24 word al il nc = true by rw [HF.out]; rfl)
            go_wp2
            go_ret
            exact ⟨ret_bool HT.out.symm, HX1.out.1⟩
          by_cases p25 : op = 25
          · subst p25
            have HT := Lib.hid (show mayB 25 word al il nc = true by rw [HF.out]; rfl)
            go_wp2
            go_ret
            exact ⟨ret_bool HT.out.symm, HX1.out.1⟩
          have q23 : (op == 23) = false := by simp; exact p23
          have q24 : (op == 24) = false := by simp; exact p24
          have q25 : (op == 25) = false := by simp; exact p25
          have HP := Lib.hid (show poolOp op = false by simp [poolOp]; exact ⟨p23, p24, p25⟩)
          go_wp2_with (go_at_call 43; refine (HNC.out _).mono ?_; rintro e w2 ⟨rfl, hb2⟩; refine stopHere ?_)
          have HX2 := Lib.hid (And.intro (HX1.out.1.trans (hb2.mono HX1.out.1.size)) (HX1.out.2.next hb2))
          clear hb2 d0 d1 d2 d4 d5 d6 d7
          have d0 : w2.cell? ⟨w.heap.size, 0, none⟩ = some (.int .i64 op) := HX2.out.2.cell 0 rfl
          have d2 : w2.cell? ⟨w.heap.size, 2, none⟩ = some (.slice oi ni ci) := HX2.out.2.cell 2 rfl
          refine goOn ?_
          cases nc with
          | false =>
            go_wp2
            go_ret
            exact ⟨ret_bool (by rw [HF.out, HP.out]; rfl), HX2.out.1⟩
          | true =>
            by_cases p2 : op = 2
            · subst p2
              have HT := Lib.hid (show mayB 2 word al il true = (decide (ni = 1) && decide (0 ≤ nth il 0)) by rw [HF.out, HN.out.2]; rfl)
              by_cases h1 : ni = 1
              · have h1' : ((ni : Int) == 1) = true := by simp; omega
                obtain ⟨bq, fq, hoq, hc⟩ := HI.out.cell 0 (by rw [← HN.out.2]; omega)
                subst hoq
                have e1 := (HX2.out.1.cell (p := ⟨bq, fq + 0, none⟩) (cell_lt hc)).trans hc
                rw [Nat.add_zero] at e1
                have HV := Lib.hid (show mayB 2 word al il true = decide (0 ≤ nth il 0) by rw [HT.out, decide_eq_true h1, Bool.true_and])
                clear HT hc
                generalize nth il 0 = x at e1 HV
                subst h1
                go_wp2
                all_goals go_ret
                all_goals exact ⟨ret_bool (by rw [HV.out]; (try simp [*]); (try omega)), HX2.out.1⟩
              · have h1' : ((ni : Int) == 1) = false := by simp; omega
                have HV := Lib.hid (show mayB 2 word al il true = false by rw [HT.out, decide_eq_false h1]; rfl)
                clear HT
                go_wp2
                all_goals go_ret
                all_goals exact ⟨ret_bool HV.out.symm, HX2.out.1⟩
            have q2 : (op == 2) = false := by simp; exact p2
            by_cases p18 : op = 18
            · subst p18
              have HT := Lib.hid (show mayB 18 word al il true = decide (ni = 1) by rw [HF.out, HN.out.2]; rfl)
              go_wp2
              go_ret
              exact ⟨ret_bool (by rw [HT.out, Bool.eq_iff_iff]; simp; omega), HX2.out.1⟩
            have q18 : (op == 18) = false := by simp; exact p18
            by_cases p21 : op = 21
            · subst p21
              have HT := Lib.hid (show mayB 21 word al il true = decide (ni = 3) by rw [HF.out, HN.out.2]; rfl)
              go_wp2
              go_ret
              exact ⟨ret_bool (by rw [HT.out, Bool.eq_iff_iff]; simp; omega), HX2.out.1⟩
            have q21 : (op == 21) = false := by simp; exact p21
            have HT := Lib.hid (show mayB op word al il true = true by rw [HF.out, mayTail, if_neg p2, if_neg p18, if_neg p21]; simp)
            go_wp2
            go_ret
            exact ⟨ret_bool HT.out.symm, HX2.out.1⟩
end Go.Proofs.YtipjhdgegfgenaaGreat
