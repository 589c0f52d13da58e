/-
  A PRODUCT's SHAPE, only that it is told: ratchetref8.MulShape.
-/
import Derived.Deep.AppendLies
import Derived.Test.YtipjhdgegfgenaaGreatEV31
import Derived.Test.YtipjhdgegfgenaaGreatEV32
import Derived.Test.YtipjhdgegfgenaaGreatEV14
import Derived.Test.YtipjhdgegfgenaaGreatEV05
import Derived.Test.YtipjhdgegfgenaaGreatEV03
import Derived.Test.YtipjhdgegfgenaaGreatEV20
set_option linter.unusedVariables false
set_option linter.unusedSimpArgs false
namespace Go.Proofs.YtipjhdgegfgenaaGreat
open Go.RowKit Go.Shelf Go
theorem rd_takeM {w : World} {K : IntKind} {a : Addr} {n cap k : Nat} {xs : List Int} (h : Rd w K (.slice (some a) n cap) xs) (hn : n = xs.length) (hk : k ≤ n) : Rd w K (.slice (some a) k cap) (xs.take k) := by
  subst hn
  obtain ⟨o', cap', he, hc⟩ := h
  cases he
  refine ⟨some a, cap, by rw [List.length_take, Nat.min_eq_left hk], fun j hj => ?_⟩
  rw [List.length_take, Nat.min_eq_left hk] at hj
  obtain ⟨b, off, hb, h1⟩ := hc j (by omega)
  refine ⟨b, off, hb, ?_⟩
  rw [nth_eq _ _ (show j < (xs.take k).length by rw [List.length_take]; omega), List.getElem_take, ← nth_eq _ _ (show j < xs.length by omega)]
  exact h1
theorem keep1M {w2 W : World} {a0 : Addr} {v0 : Value} (hc : w2.cell? a0 = some v0) (h : Below w2.heap.size w2 W) : W.cell? a0 = some v0 := (h.cell (World.block_lt_of_cell? w2 a0 hc)).trans hc
set_option maxRecDepth 100000 in
set_option maxHeartbeats 4000000 in
theorem mulShape_any (u : Value) (o : Option Addr) (cap : Nat) (xs ys : List Int) (w : World) (hr : Rd w .i64 (.slice o xs.length cap) xs) (hcap : xs.length ≤ cap) (ha : Rd w .i64 u ys) (hl : xs.length ≤ 1000) (hla : ys.length ≤ 1000) :
    Calls Tryz.prog 50 #[.slice o xs.length cap, u] w (ShOut w xs.length) := by
  have HA := Lib.hid ha
  obtain ⟨oa, ca, rfl⟩ := rd_slice ha
  have HR := Lib.hid hr
  clear ha hr
  obtain ⟨n, hn⟩ : ∃ n, n = xs.length := ⟨_, rfl⟩
  obtain ⟨m, hm⟩ : ∃ m, m = ys.length := ⟨_, rfl⟩
  have HN := Lib.hid (And.intro hn hm)
  rw [← hn] at hl hcap ⊢
  rw [← hm] at hla ⊢
  clear hn hm
  by_cases h1 : n < 2
  · have hd : decide ((n : Int) < 2) = true := decide_eq_true (by omega)
    clear h1
    go_enter Tryz.func50, Tryz.ntmps50
    go_wp2_with fail
    go_quiet (fail)
    all_goals
      go_wp2_with fail
      refine bodyPost_ret (v := .tuple #[.slice none 0 0, .int .i64 2]) (by simp [results, Tryz.results50, go_sem]) rfl ⟨(show Same w (w.drewN nq) from ⟨nq, rfl⟩).below _, _, [], _, rfl, World.ownsRow_nil _ _ _ _, by simp⟩
  have hd1 : decide ((n : Int) < 2) = false := decide_eq_false (by omega)
  by_cases h2 : m = 2 ∨ m = n
  case neg =>
    have hd2 : ((m : Int) != 2) = true := by simp; omega
    have hd3 : ((m : Int) != (n : Int)) = true := by simp; omega
    clear h1 h2
    go_enter Tryz.func50, Tryz.ntmps50
    go_wp2_with fail
    go_quiet (fail)
    all_goals
      go_wp2_with fail
      refine bodyPost_ret (v := .tuple #[.slice none 0 0, .int .i64 2]) (by simp [results, Tryz.results50, go_sem]) rfl ⟨(show Same w (w.drewN nq) from ⟨nq, rfl⟩).below _, _, [], _, rfl, World.ownsRow_nil _ _ _ _, by simp⟩
  have hm2 : 2 ≤ m := by omega
  obtain ⟨b, off, rfl, e1⟩ := HR.out.cell (n - 1) (by rw [← HN.out.1]; omega)
  obtain ⟨b2, off2, rfl, e2⟩ := HA.out.cell (m - 2) (by rw [← HN.out.2]; omega)
  generalize nth xs (n - 1) = x at e1
  generalize nth ys (m - 2) = y at e2
  have hd4 : decide ((m : Int) < 2) = false := decide_eq_false (by omega)
  have hwa : IntKind.i64.wrap ((n : Int) - 1) = ((n - 1 : Nat) : Int) := by rw [IntWalk.i64_in _ (by omega)]; omega
  have hwb : IntKind.i64.wrap ((m : Int) - 2) = ((m - 2 : Nat) : Int) := by rw [IntWalk.i64_in _ (by omega)]; omega
  have hb1 : ((n - 1 : Nat) : Int) < (n : Int) := by omega
  have hb2 : ((m - 2 : Nat) : Int) < (m : Int) := by omega
  obtain ⟨n1, hn1⟩ : ∃ n1, n1 = n - 1 := ⟨_, rfl⟩
  obtain ⟨m2, hm2'⟩ : ∃ m2, m2 = m - 2 := ⟨_, rfl⟩
  rw [← hn1] at hwa hb1 e1
  rw [← hm2'] at hwb hb2 e2
  have HK := Lib.hid (And.intro (show n = n1 + 1 by omega) (And.intro (show m = m2 + 2 by omega) h2))
  obtain ⟨q2, hq2⟩ : ∃ q2, q2 = ((m : Int) != 2) := ⟨_, rfl⟩
  obtain ⟨q3, hq3⟩ : ∃ q3, q3 = ((m : Int) != (n : Int)) := ⟨_, rfl⟩
  have hq : q2 = false ∨ q3 = false := by rcases h2 with rfl | rfl <;> simp [hq2, hq3]
  by_cases hxy : x = y
  case neg =>
    have hd5 : (x != y) = true := by simp; exact hxy
    clear h1 h2 hn1 hm2' hxy
    cases q2
    all_goals cases q3
    all_goals first | (exfalso; simp at hq; done) | skip
    all_goals
      have hq2' := hq2.symm
      have hq3' := hq3.symm
      clear hq2 hq3 hq
      go_enter Tryz.func50, Tryz.ntmps50
      go_wp2_with fail
      go_quiet (fail)
    all_goals
      go_wp2_with fail
      refine bodyPost_ret (v := .tuple #[.slice none 0 0, .int .i64 2]) (by simp [results, Tryz.results50, go_sem]) rfl ⟨(show Same w (w.drewN nq) from ⟨nq, rfl⟩).below _, _, [], _, rfl, World.ownsRow_nil _ _ _ _, by simp⟩
  subst hxy
  have hd5 : (x != x) = false := by simp
  clear h1 h2 hn1 hm2'
  cases q2
  all_goals cases q3
  all_goals first | (exfalso; simp at hq; done) | skip
  all_goals
    have hq2' := hq2.symm
    have hq3' := hq3.symm
    clear hq2 hq3 hq
    go_enter Tryz.func50, Tryz.ntmps50
    go_wp2_with fail
    go_quiet (fail)
  all_goals
    obtain ⟨w1, hw1⟩ : ∃ w1, w1 = w.drewN nq := ⟨_, rfl⟩
    have HS1 := Lib.hid (show Same w w1 from ⟨nq, hw1⟩)
    rw [← hw1]
    clear hw1 e1 e2 hwa hwb hb1 hb2 hd1 hd4 hd5
    have HQ := Lib.hid hq3'
    clear hq2' hq3'
  all_goals first | (have hmn : ((m : Int) == (n : Int)) = false := (by have := HQ.out; simp at this ⊢; exact this)) | (have hmn : ((m : Int) == (n : Int)) = true := (by have := HQ.out; simp at this ⊢; exact this))
  all_goals
    go_upto_if 46 with fail
    go_cut [7] (fun s7 wx => Same w wx)
    case first =>
      first
      | (have hno := (show ((m : Int) == (n : Int)) = false from hmn)
         go_wp2_with fail
         go_meet
         exact HS1.out)
      | (have hmn2 : m = n := (by simp at hmn; omega)
         subst hmn2
         go_wp2_with fail
         go_loopw [7] (fun i wr => ∃ k : Nat, k ≤ m ∧ i = .int .i64 k ∧ Hid (Same w wr)) (fun i _ => m - (intOf i).toNat)
         case atStart => exact ⟨0, Nat.zero_le _, rfl, HS1⟩
         case round =>
           obtain ⟨k, hk, rfl, HS⟩ := hrel
           obtain ⟨w5, rfl⟩ : ∃ w5, w5 = wr := ⟨_, rfl⟩
           have hw2 : IntKind.i64.wrap ((k : Int) + 2) = ((k + 2 : Nat) : Int) := by rw [IntWalk.i64_in _ (by omega)]; omega
           by_cases hlt : k + 2 < m
           · obtain ⟨b3, off3, he, e3⟩ := HR.out.cell k (by rw [← HN.out.1]; omega)
             cases he
             obtain ⟨b4, off4, he, e4⟩ := HA.out.cell k (by rw [← HN.out.2]; omega)
             cases he
             have f3 : w5.cell? ⟨b, off + k, none⟩ = some (.int .i64 (nth xs k)) := by obtain ⟨nq5, hq5⟩ := HS.out; rw [hq5]; simpa using e3
             have f4 : w5.cell? ⟨b2, off2 + k, none⟩ = some (.int .i64 (nth ys k)) := by obtain ⟨nq5, hq5⟩ := HS.out; rw [hq5]; simpa using e4
             clear e3 e4
             generalize nth xs k = xk at f3
             generalize nth ys k = yk at f4
             have hkm : (k : Int) < (m : Int) := by omega
             have hd7 : decide (((k + 2 : Nat) : Int) < (m : Int)) = true := decide_eq_true (by omega)
             by_cases hne : xk = yk
             · subst hne
               have hd8 : (xk != xk) = false := by simp
               go_wp2_with fail
               go_quiet (fail)
               go_wp2_with fail
               go_roundw
               case rel => exact ⟨k + 1, by omega, by go_num, Lib.hid (HS.out.trans ⟨_, rfl⟩)⟩
               case measure => simp [intOf]; omega
             · have hd8 : (xk != yk) = true := by simp; exact hne
               go_wp2_with fail
               go_quiet (fail)
               go_wp2_with fail
               refine bodyPost_ret (v := .tuple #[.slice none 0 0, .int .i64 2]) (by simp [results, Tryz.results50, go_sem]) rfl ⟨(HS.out.trans ⟨_, rfl⟩).below _, _, [], _, rfl, World.ownsRow_nil _ _ _ _, by simp⟩
           · have hd7 : decide (((k + 2 : Nat) : Int) < (m : Int)) = false := decide_eq_false (by omega)
             go_wp2_with fail
             go_meet
             exact HS.out)
    case rest =>
      obtain ⟨wz, rfl⟩ : ∃ wz, wz = wc := ⟨_, rfl⟩
      obtain ⟨i0, hi, hz0, hz1, hz2⟩ := info_parts info_int
      have HI := Lib.hid hi
      obtain ⟨m1, hm1⟩ : ∃ m1, m1 = m2 + 1 := ⟨_, rfl⟩
      have hmk := HK.out.2.1
      have hnk := HK.out.1
      have hcy : wz.cell? ⟨b2, off2 + m1, none⟩ = some (.int .i64 (nth ys m1)) := by
        obtain ⟨b4, off4, he, e4⟩ := HA.out.cell m1 (by rw [← HN.out.2]; omega)
        cases he
        obtain ⟨nq5, hq5⟩ := hcut
        rw [hq5]; simpa using e4
      generalize nth ys m1 = yl at hcy
      have HC := Lib.hid hcy
      have hb2w : b2 < wz.heap.size := cell_lt hcy
      have HZ := Lib.hid hcut
      have HCPY := Lib.hid (show ∀ Y, Below wz.heap.size wz Y → Calls Tryz.prog 53 #[.slice (some ⟨b, off, none⟩) n1 cap] Y fun e w' => ∃ o5 c5, e = .returned (.slice o5 n1 c5) ∧ w'.ownsRow Y.heap.size 3 1 (.slice o5 n1 c5) n1 ((xs.take n1).map (.int .i64)) ∧ Below Y.heap.size Y w' from fun Y hY => by
        have hlen : (xs.take n1).length = n1 := by rw [List.length_take, ← HN.out.1]; omega
        have hrd : Rd Y .i64 (.slice (some ⟨b, off, none⟩) n1 cap) (xs.take n1) := rd_takeM ((HR.out.below (HZ.out.below _) (Nat.le_refl _)).below hY (Nat.le_refl _)) rfl (by rw [← HN.out.1]; omega)
        refine (copyNumbers_any _ _ Y hrd (by rw [hlen]; omega)).mono ?_
        rintro e w' ⟨v', rfl, hown, hb⟩
        rw [hlen] at hown
        obtain ⟨o5, c5, rfl⟩ := own_slice hown
        exact ⟨o5, c5, rfl, hown, hb⟩)
      have hwa : IntKind.i64.wrap ((n : Int) - 1) = (n1 : Int) := by rw [IntWalk.i64_in _ (by omega)]; omega
      have hwb : IntKind.i64.wrap ((m : Int) - 1) = (m1 : Int) := by rw [IntWalk.i64_in _ (by omega)]; omega
      have hb1 : (m1 : Int) < (m : Int) := by omega
      have hb3 : (n1 : Int) ≤ (cap : Int) := by omega
      have hb4 : n1 ≤ 1000 := by omega
      clear hcy hcut hmk hnk hm1 hmn hi
      have HX := Lib.hid (Below.refl wz.heap.size wz)
      go_upto_region 10 with fail
      go_region_held3 (fun w' => w'.cell? ⟨b2, off2 + m1, none⟩ = some (.int .i64 yl))
        ((refine keep1M HC.out ?_; (repeat (first | with_reducible exact HX.out | with_reducible exact Below.refl _ _ | with_reducible refine Below.drew ?_ | with_reducible refine Below.alloc ?_ (by first | with_reducible exact HX.out.size | with_reducible exact Nat.le_refl _ | (simp; done) | (have := HX.out.size; simp; omega)) _))))
        ((first
        | (go_at_call 53; refine (HCPY.out _ (show Below wz.heap.size wz _ from (by repeat (first | with_reducible exact Below.refl _ _ | with_reducible refine Below.drew ?_ | with_reducible refine below_st_alloc ?_ (Nat.le_refl _))))).mono ?_; rintro e w5 ⟨o5, c5, rfl, hown5, hb5⟩;
           have hx5 : Below wz.heap.size wz w5 := (by refine below_st_next hb5 ?_ (Nat.le_refl _); exact (by repeat (first | with_reducible exact Below.refl _ _ | with_reducible refine Below.drew ?_ | with_reducible refine below_st_alloc ?_ (Nat.le_refl _))));
           (first | (with_reducible have hz : Box w5 wz.heap.size 3 #[.int .i64 yl] := by first | exact new_next hb5 | exact new_nextD hb5); have z0 := hz.cell 0 rfl | skip);
           have HO5 := Lib.hid (show w5.ownsRow wz.heap.size 3 1 (.slice o5 n1 c5) n1 ((xs.take n1).map (.int .i64)) from own_mono hown5 (by first | exact Nat.le_refl _ | (simp; done) | (simp; omega)));
           have HX := Lib.hid hx5)
        | (refine step_append_lies _ rfl _ _ 23 rfl wz.heap.size 3 i0 (.int .i64 0) 1 8 Tryz.underlying23 HI.out hz0 hz1 hz2 rfl (by decide) (.slice o5 n1 c5) n1 ((xs.take n1).map (.int .i64)) rfl (by first | with_reducible exact HO5.out | with_reducible exact own_st_drew HO5.out | with_reducible exact own_st_alloc HO5.out | with_reducible exact own_st_alloc (own_st_drew HO5.out) | with_reducible exact own_st_drew (own_st_alloc HO5.out)) ⟨_, 0, none⟩ 1 1 [.int .i64 yl] rfl rfl (by first | exact cell_one_new _ _ _ | (intro j u hj; cases j <;> simp at hj; subst hj; exact z0)) (by simp [Value.oneCell']) (by decide) (by unfold maxLen; omega) (by omega) (by have := HX.out.size; simp; omega) _ rfl ?_; intro g9 c9 w9 hown9 hgrow9 hat9 hlt9; have HX := Lib.hid (show Below wz.heap.size wz w9 from by first | exact below_append' hx5 (Nat.le_refl _) HO5.out hgrow9 | exact hx5.grown hgrow9 hx5.size fun k hk => (HO5.out.lt k hk).1))))
      all_goals
        obtain ⟨zs, hzs⟩ : ∃ zs, zs = xs.take n1 ++ [yl] := ⟨_, rfl⟩
        have hzl : zs.length = n1 + 1 := by rw [hzs, List.length_append, List.length_take, ← HN.out.1]; have := HK.out.1; simp; omega
        have hoz : OwnI w9 wz.heap.size 3 .i64 (.slice (some ⟨g9, 0, none⟩) (n1 + 1) c9) zs := by unfold OwnI; rw [hzl, hzs, List.map_append]; exact hown9
        have HO9 := Lib.hid hoz
        obtain ⟨r, hr⟩ : ∃ r, r = shapeB zs := ⟨_, rfl⟩
        have HMAY := Lib.hid (show ∀ Y, Same w9 Y → Calls Tryz.prog 17 #[.slice (some ⟨g9, 0, none⟩) (n1 + 1) c9] Y fun e w' => e = .returned (.bool r) ∧ Same Y w' from fun Y hY => by rw [hr]; exact ref6May_any _ zs Y (Rd.of_own (own_same hoz hY)) (by omega))
        have HLOW := Lib.hid (show Below w.heap.size w w9 from (HZ.out.below _).trans (HX.out.mono (by rw [HZ.out.heap]; exact Nat.le_refl _)))
        have HLE := Lib.hid (show w.heap.size ≤ wz.heap.size by rw [HZ.out.heap]; exact Nat.le_refl _)
        have HZL := Lib.hid (show zs.length ≤ n by rw [hzl, HK.out.1]; exact Nat.le_refl _)
        clear hzs hzl hoz hr hown9 hgrow9 hat9 hx5
        go_wp2_with (go_at_call 17; refine (HMAY.out _ (by first | exact Same.refl _ | exact ⟨_, rfl⟩)).mono ?_; rintro e w10 ⟨rfl, hsm⟩; refine stopHere ?_)
        have hs10 : Same w9 w10 := by first | exact hsm | exact (show Same w9 _ from ⟨_, rfl⟩).trans hsm
        have HE10 := Lib.hid (And.intro (HLOW.out.trans (hs10.below _)) (own_same HO9.out hs10))
        clear hsm hs10
        refine goOn ?_
        cases r with
        | false =>
          go_wp2_with fail
          refine bodyPost_ret (v := .tuple #[.slice none 0 0, .int .i64 5]) (by simp [results, Tryz.results50, go_sem]) rfl ⟨HE10.out.1, _, [], _, rfl, World.ownsRow_nil _ _ _ _, by simp⟩
        | true =>
          go_wp2_with fail
          refine bodyPost_ret (v := .tuple #[.slice (some ⟨g9, 0, none⟩) (n1 + 1) c9, .int .i64 0]) (by simp [results, Tryz.results50, go_sem]) rfl ⟨HE10.out.1, _, zs, _, rfl, own_mono HE10.out.2 HLE.out, HZL.out⟩
end Go.Proofs.YtipjhdgegfgenaaGreat
/-
  NODES: ratchetref18.Args, hasInts, hasWord, noConv; ratchetlaw11.LongConv; ratchetlaw18.LongNode.
-/
set_option linter.unusedVariables false
set_option linter.unusedSimpArgs false
namespace Go.Proofs.YtipjhdgegfgenaaGreat
open Go.RowKit Go.Shelf Go
/-- how many arguments -/
def argsN (op : Int) : Int := if op = 1 ∨ op = 2 then 0 else if op = 3 ∨ op = 4 ∨ op = 5 ∨ op = 6 ∨ op = 22 ∨ op = 23 ∨ op = 32 ∨ op = 33 then 2 else if op < 1 ∨ 33 < op then -1 else 1
def intsB (op : Int) : Bool := decide (op = 2 ∨ op = 16 ∨ op = 17 ∨ op = 18 ∨ op = 19 ∨ op = 20 ∨ op = 21 ∨ op = 29 ∨ op = 30 ∨ op = 31)
def wordOpB (op : Int) : Bool := decide (op = 8 ∨ op = 10 ∨ op = 28 ∨ op = 30 ∨ op = 33)
set_option maxHeartbeats 2000000 in
theorem ref18Args_any (op : Int) (w : World) :
    Calls Tryz.prog 40 #[.int .i64 op] w fun e w' => e = .returned (.int .i64 (argsN op)) ∧ Same w w' := by
  go_enter Tryz.func40, Tryz.ntmps40
  go_wp2
  all_goals go_ret
  all_goals (try simp only [beq_iff_eq, beq_eq_false_iff_ne, ne_eq] at *)
  all_goals exact ⟨ret_int (by simp only [argsN]; split <;> (try split) <;> (try split) <;> omega), Same.refl _⟩
set_option maxHeartbeats 2000000 in
theorem hasInts_any (op : Int) (w : World) :
    Calls Tryz.prog 41 #[.int .i64 op] w fun e w' => e = .returned (.bool (intsB op)) ∧ Same w w' := by
  go_enter Tryz.func41, Tryz.ntmps41
  go_wp2
  all_goals go_ret
  all_goals (try simp only [beq_iff_eq, beq_eq_false_iff_ne, ne_eq] at *)
  all_goals exact ⟨ret_bool (by simp only [intsB]; symm; first | (rw [decide_eq_true_iff]; omega) | (rw [decide_eq_false_iff_not]; omega)), Same.refl _⟩
set_option maxHeartbeats 2000000 in
theorem hasWord_any (op : Int) (w : World) :
    Calls Tryz.prog 42 #[.int .i64 op] w fun e w' => e = .returned (.bool (wordOpB op)) ∧ Same w w' := by
  go_enter Tryz.func42, Tryz.ntmps42
  go_wp2
  all_goals go_ret
  all_goals (try simp only [beq_iff_eq, beq_eq_false_iff_ne, ne_eq] at *)
  all_goals exact ⟨ret_bool (by simp only [wordOpB]; symm; first | (rw [decide_eq_true_iff]; omega) | (rw [decide_eq_false_iff_not]; omega)), Same.refl _⟩
set_option maxHeartbeats 2000000 in
theorem noConv_any (o1 o2 o3 o4 : Option Addr) (n1 n2 n3 n4 c1 c2 c3 c4 : Nat) (w : World) :
    Calls Tryz.prog 43 #[.agg #[.slice o1 n1 c1, .slice o2 n2 c2, .slice o3 n3 c3, .slice o4 n4 c4]] w fun e w' => e = .returned (.bool (decide (n1 + n2 + n3 + n4 = 0))) ∧ Below w.heap.size w w' := by
  go_enter Tryz.func43, Tryz.ntmps43
  by_cases h1 : n1 = 0 <;> by_cases h2 : n2 = 0 <;> by_cases h3 : n3 = 0 <;> by_cases h4 : n4 = 0
  all_goals go_wp2
  all_goals go_ret
  all_goals exact ⟨ret_bool (by symm; first | (rw [decide_eq_true_iff]; omega) | (rw [decide_eq_false_iff_not]; omega) | (rw [Bool.eq_iff_iff]; simp; omega)), (Below.refl _ _).alloc (Nat.le_refl _) _⟩
set_option maxHeartbeats 2000000 in
set_option maxRecDepth 100000 in
theorem longConv_any (o1 o2 o3 o4 : Option Addr) (n1 n2 n3 n4 c1 c2 c3 c4 : Nat) (w : World) :
    Calls Tryz.prog 23 #[.agg #[.slice o1 n1 c1, .slice o2 n2 c2, .slice o3 n3 c3, .slice o4 n4 c4]] w fun e w' => HeavyOut (n1 ≤ 6 ∧ n2 ≤ 6 ∧ n3 ≤ 6 ∧ n4 ≤ 6) e ∧ Below w.heap.size w w' := by
  go_enter Tryz.func23, Tryz.ntmps23
  go_wp2
  obtain ⟨W, hW⟩ : ∃ W, W = (w.alloc (.cells #[.slice o1 n1 c1, .slice o2 n2 c2, .slice o3 n3 c3, .slice o4 n4 c4] 25)).alloc (.cells #[.slice o1 n1 c1, .slice o2 n2 c2, .slice o3 n3 c3, .slice o4 n4 c4] 23) := ⟨_, rfl⟩
  have HB := Lib.hid (show Below w.heap.size w W by rw [hW]; exact ((Below.refl _ _).alloc (Nat.le_refl _) _).alloc (by simp) _)
  have hbx : Box W (w.heap.size + 1) 23 #[.slice o1 n1 c1, .slice o2 n2 c2, .slice o3 n3 c3, .slice o4 n4 c4] := by
    rw [hW, ← World.size_alloc w (.cells #[.slice o1 n1 c1, .slice o2 n2 c2, .slice o3 n3 c3, .slice o4 n4 c4] 25)]; exact Box.new _ _ _
  have d0 := hbx.cell 0 rfl
  have d1 := hbx.cell 1 rfl
  have d2 := hbx.cell 2 rfl
  have d3 := hbx.cell 3 rfl
  rw [← hW]
  clear hW hbx
  go_loop [4] (fun i => ∃ k : Nat, k ≤ 4 ∧ i = .int .i64 k ∧ Hid ((0 < k → n1 ≤ 6) ∧ (1 < k → n2 ≤ 6) ∧ (2 < k → n3 ≤ 6) ∧ (3 < k → n4 ≤ 6))) (fun i => 4 - (intOf i).toNat)
  case atStart => exact ⟨0, by omega, rfl, Lib.hid (by omega)⟩
  case round =>
    obtain ⟨k, hk, rfl, HN⟩ := hrel
    have hkc : k = 0 ∨ k = 1 ∨ k = 2 ∨ k = 3 ∨ k = 4 := by omega
    rcases hkc with rfl | rfl | rfl | rfl | rfl
    case inr.inr.inr.inr =>
      go_wp2
      go_ret
      exact ⟨⟨_, rfl, fun _ => by have := HN.out; omega⟩, HB.out⟩
    case inl =>
      by_cases hn : n1 ≤ 6
      · go_wp2
        go_round
        case rel => exact ⟨1, by omega, rfl, Lib.hid (by have := HN.out; omega)⟩
        case measure => simp [intOf]
      · have hn2 : (6 : Int) < n1 := by omega
        go_wp2
        go_ret
        exact ⟨⟨_, rfl, fun h => by cases h⟩, HB.out⟩
    case inr.inl =>
      by_cases hn : n2 ≤ 6
      · go_wp2
        go_round
        case rel => exact ⟨2, by omega, rfl, Lib.hid (by have := HN.out; omega)⟩
        case measure => simp [intOf]
      · have hn2 : (6 : Int) < n2 := by omega
        go_wp2
        go_ret
        exact ⟨⟨_, rfl, fun h => by cases h⟩, HB.out⟩
    case inr.inr.inl =>
      by_cases hn : n3 ≤ 6
      · go_wp2
        go_round
        case rel => exact ⟨3, by omega, rfl, Lib.hid (by have := HN.out; omega)⟩
        case measure => simp [intOf]
      · have hn2 : (6 : Int) < n3 := by omega
        go_wp2
        go_ret
        exact ⟨⟨_, rfl, fun h => by cases h⟩, HB.out⟩
    case inr.inr.inr.inl =>
      by_cases hn : n4 ≤ 6
      · go_wp2
        go_round
        case rel => exact ⟨4, by omega, rfl, Lib.hid (by have := HN.out; omega)⟩
        case measure => simp [intOf]
      · have hn2 : (6 : Int) < n4 := by omega
        go_wp2
        go_ret
        exact ⟨⟨_, rfl, fun h => by cases h⟩, HB.out⟩
end Go.Proofs.YtipjhdgegfgenaaGreat
