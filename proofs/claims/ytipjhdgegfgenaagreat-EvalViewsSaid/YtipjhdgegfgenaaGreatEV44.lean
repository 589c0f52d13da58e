/-
  IS AN #[.int .i64 op, .slice oa na ca, .slice oi ni ci, .int .i64 word, .slice o1 n1 c1, .slice o2 n2 c2, .slice o3 n3 c3, .slice o4 n4 c4, .slice ot nt ct, .int .i64 f, .slice ol nl cl] TOO HEAVY: ratchetlaw18.Heavy.
-/
import Derived.Test.YtipjhdgegfgenaaGreatEV43
import Derived.Test.YtipjhdgegfgenaaGreatEV20
set_option linter.unusedVariables false
set_option linter.unusedSimpArgs false
namespace Go.Proofs.YtipjhdgegfgenaaGreat
open Go.RowKit Go.Shelf Go
/-- what an ask that is played weighs at most -/
def LightV (na ni n1 n2 n3 n4 : Nat) (ts : List TensD) : Prop := (na ≤ 6 ∧ ni ≤ 100 ∧ n1 ≤ 6 ∧ n2 ≤ 6 ∧ n3 ≤ 6 ∧ n4 ≤ 6) ∧ wt ts ≤ 40 ∧ ts.length ≤ 40
theorem heavyT {w w' : World} {P : Prop} (h : Below w.heap.size w w') : HeavyOut P (.returned (.bool true)) ∧ Below w.heap.size w w' := ⟨⟨true, rfl, fun h => by cases h⟩, h⟩
theorem wt_len : ∀ (ts : List TensD) (i : Nat), i < ts.length → (tnth ts i).sh.length ≤ wt ts
  | [], i, h => absurd h (by simp)
  | t :: r, 0, h => by rw [tnth_eq _ _ h]; simp [wt]; omega
  | t :: r, i + 1, h => by
    have h2 : i < r.length := by simpa using h
    have := wt_len r i h2
    rw [tnth_eq _ _ h]
    rw [tnth_eq _ _ h2] at this
    simp [wt] at this ⊢
    omega
set_option maxRecDepth 1000000 in
set_option maxHeartbeats 16000000 in
theorem heavy18_any (op word f : Int) (oa oi o1 o2 o3 o4 ot ol : Option Addr) (na ni n1 n2 n3 n4 nt nl ca ci c1 c2 c3 c4 ct cl : Nat) (al il : List Int) (cv : ConvD) (ts : List TensD) (ls : List (List Int)) (w : World) (ha : Rd w .i64 (.slice oa na ca) al) (hi : Rd w .i64 (.slice oi ni ci) il)
    (hcv : ConvRd w (.slice o1 n1 c1) (.slice o2 n2 c2) (.slice o3 n3 c3) (.slice o4 n4 c4) cv) (ht : TenssRd w (.slice ot nt ct) ts) (htl : TLim ts) (htc : TCap w (.slice ot nt ct) ts.length) (hls : ListsC w (.slice ol nl cl) ls) :
    Calls Tryz.prog 4 #[.agg #[.int .i64 op, .slice oa na ca, .slice oi ni ci, .int .i64 word, .slice o1 n1 c1, .slice o2 n2 c2, .slice o3 n3 c3, .slice o4 n4 c4, .slice ot nt ct, .int .i64 f, .slice ol nl cl]] w (fun e w' => HeavyOut (LightV na ni n1 n2 n3 n4 ts) e ∧ Below w.heap.size w w') := by
  have HI := Lib.hid (And.intro ha hi)
  have HCV := Lib.hid hcv
  have HT := Lib.hid (And.intro ht (And.intro htl htc))
  have HLS := Lib.hid hls
  have HNA := Lib.hid (show na = al.length ∧ ni = il.length ∧ nt = ts.length ∧ nl = ls.length by
    refine ⟨?_, ?_, ?_, hls.len⟩
    · obtain ⟨o, cap, he⟩ := rd_slice ha; injection he
    · obtain ⟨o, cap, he⟩ := rd_slice hi; injection he
    · obtain ⟨o, cap, he⟩ := ht.slice; injection he)
  obtain ⟨W, hW⟩ : ∃ W, W = w.alloc (.cells #[.int .i64 op, .slice oa na ca, .slice oi ni ci, .int .i64 word, .slice o1 n1 c1, .slice o2 n2 c2, .slice o3 n3 c3, .slice o4 n4 c4, .slice ot nt ct, .int .i64 f, .slice ol nl cl] 31) := ⟨_, rfl⟩
  have hB : Below w.heap.size w W := by rw [hW]; exact (Below.refl _ _).alloc (Nat.le_refl _) _
  have hbx : Box W w.heap.size 31 #[.int .i64 op, .slice oa na ca, .slice oi ni ci, .int .i64 word, .slice o1 n1 c1, .slice o2 n2 c2, .slice o3 n3 c3, .slice o4 n4 c4, .slice ot nt ct, .int .i64 f, .slice ol nl cl] := by rw [hW]; exact Box.new _ _ _
  have HX := Lib.hid (And.intro hB hbx)
  have HW := Lib.hid hW
  clear ha hi hcv ht htl htc hls hW hB hbx
  go_enter Tryz.func4, Tryz.ntmps4
  go_wp2_with (go_at_call 13; rw [← HW.out]; refine (longNode_any op word oa oi o1 o2 o3 o4 na ni n1 n2 n3 n4 ca ci c1 c2 c3 c4 W).mono ?_; rintro e w1 ⟨⟨b, rfl, hb⟩, hb1⟩; refine stopHere ?_)
  have HB := Lib.hid hb
  have HX1 := Lib.hid (And.intro (HX.out.1.trans (hb1.mono HX.out.1.size)) (HX.out.2.next hb1))
  clear hb hb1
  have d8 : w1.cell? ⟨w.heap.size, 8, none⟩ = some (.slice ot nt ct) := HX1.out.2.cell 8 rfl
  refine goOn ?_
  cases b with
  | true =>
    go_wp2_with fail
    go_ret
    exact heavyT HX1.out.1
  | false =>
    go_wp2_with (go_at_call 14; refine (heavyAll_any (.slice ot nt ct) ts 40 w1 (HT.out.1.below HX1.out.1 (Nat.le_refl _)) HT.out.2.1 (by omega)).mono ?_; rintro e w2 ⟨⟨b, rfl, hb⟩, hsm⟩; refine stopHere ?_)
    have HB2 := Lib.hid hb
    have HX2 := Lib.hid (And.intro (HX1.out.1.trans (hsm.below _)) (HX1.out.2.same hsm))
    clear hb hsm d8
    have d10 : w2.cell? ⟨w.heap.size, 10, none⟩ = some (.slice ol nl cl) := HX2.out.2.cell 10 rfl
    refine goOn ?_
    cases b with
    | true =>
      go_wp2_with fail
      go_ret
      exact heavyT HX2.out.1
    | false =>
      have HLT := Lib.hid (show LightV na ni n1 n2 n3 n4 ts from ⟨HB.out (by trivial), HB2.out (by trivial)⟩)
      by_cases h8 : 8 < nl
      · go_wp2_with fail
        go_ret
        exact heavyT HX2.out.1
      go_wp2_with fail
      go_loop [3] (fun i => ∃ k : Nat, k ≤ nl ∧ i = .int .i64 k ∧ Hid (∀ j, j < k → (lnth ls j).length ≤ 8)) (fun i => nl - (intOf i).toNat)
      case atStart => exact ⟨0, Nat.zero_le _, rfl, Lib.hid (fun j h => absurd h (by omega))⟩
      case round =>
        obtain ⟨k, hk, rfl, HK⟩ := hrel
        by_cases hlt : k < nl
        · obtain ⟨b, off, p, m, kk, rfl, h1, h2, h3⟩ := HLS.out.at k hlt
          have e1 := (HX2.out.1.cell (p := ⟨b, off + k, none⟩) (cell_lt h1)).trans h1
          have HM := Lib.hid (show m = (lnth ls k).length by obtain ⟨o, cap, he⟩ := rd_slice h2; injection he)
          clear h1 h2 h3
          by_cases hm : 8 < m
          · go_wp2_with fail
            go_ret
            exact heavyT HX2.out.1
          go_wp2_with fail
          go_round
          case rel => exact ⟨k + 1, by omega, by go_num, Lib.hid (fun j hj => by
            by_cases hjk : j < k
            · exact HK.out j hjk
            · obtain rfl : j = k := by omega
              have := HM.out; omega)⟩
          case measure => simp [intOf]; omega
        · obtain rfl : k = nl := by omega
          have HLN := Lib.hid HK.out
          have HC := Lib.hid (show w2.cell? ⟨w.heap.size, 0, none⟩ = some (.int .i64 op) ∧ w2.cell? ⟨w.heap.size, 1, none⟩ = some (.slice oa na ca) ∧ w2.cell? ⟨w.heap.size, 2, none⟩ = some (.slice oi ni ci) ∧ w2.cell? ⟨w.heap.size, 3, none⟩ = some (.int .i64 word) ∧ w2.cell? ⟨w.heap.size, 4, none⟩ = some (.slice o1 n1 c1) ∧ w2.cell? ⟨w.heap.size, 5, none⟩ = some (.slice o2 n2 c2) ∧ w2.cell? ⟨w.heap.size, 6, none⟩ = some (.slice o3 n3 c3) ∧ w2.cell? ⟨w.heap.size, 7, none⟩ = some (.slice o4 n4 c4) ∧ w2.cell? ⟨w.heap.size, 8, none⟩ = some (.slice ot nt ct) ∧ w2.cell? ⟨w.heap.size, 10, none⟩ = some (.slice ol k cl) from ⟨HX2.out.2.cell 0 rfl, HX2.out.2.cell 1 rfl, HX2.out.2.cell 2 rfl, HX2.out.2.cell 3 rfl, HX2.out.2.cell 4 rfl, HX2.out.2.cell 5 rfl, HX2.out.2.cell 6 rfl, HX2.out.2.cell 7 rfl, HX2.out.2.cell 8 rfl, HX2.out.2.cell 10 rfl⟩)
          have HLG := Lib.hid (show ∀ X os ns cs us, Below w2.heap.size w2 X → ListsC X (.slice os ns cs) us → ns ≤ 1000 → (∀ i, i < ns → (lnth us i).length ≤ 1000000) → Calls Tryz.prog 15 #[.agg #[.int .i64 op, .slice oa na ca, .slice oi ni ci, .int .i64 word, .slice o1 n1 c1, .slice o2 n2 c2, .slice o3 n3 c3, .slice o4 n4 c4], .slice os ns cs] X (fun e w' => HeavyOut True e ∧ Below X.heap.size X w') from fun X os ns cs us hX hu hn hl =>
            large_any op word oa oi o1 o2 o3 o4 os na ni n1 n2 n3 n4 ca ci c1 c2 c3 c4 ns cs al il cv us X (HI.out.1.below (HX2.out.1.trans (hX.mono HX2.out.1.size)) (Nat.le_refl _)) (HI.out.2.below (HX2.out.1.trans (hX.mono HX2.out.1.size)) (Nat.le_refl _)) (by have := HLT.out.1.1; have := HNA.out.1; omega) (by have := HLT.out.1.2.1; have := HNA.out.2.1; omega)
              (HCV.out.below (HX2.out.1.trans (hX.mono HX2.out.1.size)) (Nat.le_refl _)) HLT.out.1.2.2 hu hn hl)
          have hbw : w.heap.size < w2.heap.size := HX2.out.2.lt
          have hk1000 : k ≤ 1000 := by omega
          have HXY := Lib.hid (Below.refl w2.heap.size w2)
          clear HK hlt hk h8
          go_wp2_with fail
          clear d10
          refine wp_region_held_drew (S := fun w' => w'.cell? ⟨w.heap.size, 0, none⟩ = some (.int .i64 op) ∧ w'.cell? ⟨w.heap.size, 1, none⟩ = some (.slice oa na ca) ∧ w'.cell? ⟨w.heap.size, 2, none⟩ = some (.slice oi ni ci) ∧ w'.cell? ⟨w.heap.size, 3, none⟩ = some (.int .i64 word) ∧ w'.cell? ⟨w.heap.size, 4, none⟩ = some (.slice o1 n1 c1) ∧ w'.cell? ⟨w.heap.size, 5, none⟩ = some (.slice o2 n2 c2) ∧ w'.cell? ⟨w.heap.size, 6, none⟩ = some (.slice o3 n3 c3) ∧ w'.cell? ⟨w.heap.size, 7, none⟩ = some (.slice o4 n4 c4) ∧ w'.cell? ⟨w.heap.size, 8, none⟩ = some (.slice ot nt ct) ∧ w'.cell? ⟨w.heap.size, 10, none⟩ = some (.slice ol k cl)) (by kernel_rfl) ?_ (fun hHeld => ?_)
          · exact HC.out
          refine wpAnyH_take (i := 0) (v := ?_) rfl (by kernel_rfl) (by kernel_rfl) (by kernel_rfl) (fun _ _ _ h => h) (Or.inl ⟨by rfl, ?_⟩) (by assumption) ?_
          rotate_left
          · (intro w hSw; (try dsimp only at hSw); go_simp; (try with_reducible rfl))
          (try simp only [Act.put, List.getElem_toArray, List.getElem_cons_zero, List.getElem_cons_succ, List.setIfInBounds_toArray, List.set_cons_zero, List.set_cons_succ])
          refine wpAnyH_take (i := 1) (v := ?_) rfl (by kernel_rfl) (by kernel_rfl) (by kernel_rfl) (fun _ _ _ h => h) (Or.inl ⟨by rfl, ?_⟩) (by assumption) ?_
          rotate_left
          · (intro w hSw; (try dsimp only at hSw); go_simp; (try with_reducible rfl))
          (try simp only [Act.put, List.getElem_toArray, List.getElem_cons_zero, List.getElem_cons_succ, List.setIfInBounds_toArray, List.set_cons_zero, List.set_cons_succ])
          refine wpAnyH_take (i := 2) (v := ?_) rfl (by kernel_rfl) (by kernel_rfl) (by kernel_rfl) (fun _ _ _ h => h) (Or.inl ⟨by rfl, ?_⟩) (by assumption) ?_
          rotate_left
          · (intro w hSw; (try dsimp only at hSw); go_simp; (try with_reducible rfl))
          (try simp only [Act.put, List.getElem_toArray, List.getElem_cons_zero, List.getElem_cons_succ, List.setIfInBounds_toArray, List.set_cons_zero, List.set_cons_succ])
          refine wpAnyH_take (i := 3) (v := ?_) rfl (by kernel_rfl) (by kernel_rfl) (by kernel_rfl) (fun _ _ _ h => h) (Or.inl ⟨by rfl, ?_⟩) (by assumption) ?_
          rotate_left
          · (intro w hSw; (try dsimp only at hSw); go_simp; (try with_reducible rfl))
          (try simp only [Act.put, List.getElem_toArray, List.getElem_cons_zero, List.getElem_cons_succ, List.setIfInBounds_toArray, List.set_cons_zero, List.set_cons_succ])
          refine wpAnyH_ready (rs := [4]) (by kernel_rfl) (by simp) ?_
          refine AllReadyH.cons rfl (fun K hK => ?_) AllReadyH.nil
          go_simp
          go_at_call 16
          refine (shapesC_any (.slice ot nt ct) ts _ (HT.out.1.below (HX2.out.1.trans ((show Below w2.heap.size w2 _ from (by repeat (first | with_reducible exact HXY.out | with_reducible exact Below.refl _ _ | with_reducible refine Below.drew ?_))).mono HX2.out.1.size)) (Nat.le_refl _)) (HT.out.2.2.below HT.out.1 (HX2.out.1.trans ((show Below w2.heap.size w2 _ from (by repeat (first | with_reducible exact HXY.out | with_reducible exact Below.refl _ _ | with_reducible refine Below.drew ?_))).mono HX2.out.1.size))) (by have := HLT.out.2.2; omega)).mono ?_
          rintro e wy ⟨⟨v', rfl, hv'⟩, hby⟩
          obtain ⟨os, cs, hvs⟩ : ∃ os cs, v' = .slice os ts.length cs := (by obtain ⟨o, c, he, _⟩ := hv'; exact ⟨o, c, by rw [he]; simp⟩)
          subst hvs
          have HV := Lib.hid hv'
          have HXY := Lib.hid (show Below w2.heap.size w2 wy from (show Below w2.heap.size w2 _ from (by repeat (first | with_reducible exact HXY.out | with_reducible exact Below.refl _ _ | with_reducible refine Below.drew ?_))).trans (hby.mono (show Below w2.heap.size w2 _ from (by repeat (first | with_reducible exact HXY.out | with_reducible exact Below.refl _ _ | with_reducible refine Below.drew ?_))).size))
          clear hby hv'
          go_wp2_with fail
          refine hK _ _ (keep10V HC.out HXY.out) (fun hHeld => ?_)
          clear hK K
          (try simp only [Act.put, List.getElem_toArray, List.getElem_cons_zero, List.getElem_cons_succ, List.setIfInBounds_toArray, List.set_cons_zero, List.set_cons_succ])
          refine wpAnyH_ready (rs := [5]) (by kernel_rfl) (by simp) ?_
          refine AllReadyH.cons rfl (fun K hK => ?_) AllReadyH.nil
          go_simp
          go_at_call 15
          refine (HLG.out _ os ts.length cs (ts.map TensD.sh) (show Below w2.heap.size w2 _ from (by repeat (first | with_reducible exact HXY.out | with_reducible exact Below.refl _ _ | with_reducible refine Below.drew ?_))) HV.out (by have := HLT.out.2.2; omega) (fun i hi => by
            rw [lnth, List.getD_eq_getElem?_getD, List.getElem?_map, List.getElem?_eq_getElem hi]
            have := wt_len ts i hi
            rw [tnth_eq ts i hi] at this
            have h2 := HLT.out.2.1
            simp; omega)).mono ?_
          rintro e wz ⟨⟨b1, rfl, _⟩, hby⟩
          have HXZ := Lib.hid (show Below w2.heap.size w2 wz from HXY.out.trans (hby.mono HXY.out.size))
          clear hby
          go_wp2_with fail
          refine hK _ _ (keep10V HC.out HXZ.out) (fun hHeld => ?_)
          clear hK K
          (try simp only [Act.put, List.getElem_toArray, List.getElem_cons_zero, List.getElem_cons_succ, List.setIfInBounds_toArray, List.set_cons_zero, List.set_cons_succ])
          refine wpAnyH_take (i := 6) (v := ?_) rfl (by kernel_rfl) (by kernel_rfl) (by kernel_rfl) (fun _ _ _ h => h) (Or.inl ⟨by rfl, ?_⟩) (by assumption) ?_
          rotate_left
          · (intro w hSw; (try dsimp only at hSw); go_simp; (try with_reducible rfl))
          (try simp only [Act.put, List.getElem_toArray, List.getElem_cons_zero, List.getElem_cons_succ, List.setIfInBounds_toArray, List.set_cons_zero, List.set_cons_succ])
          cases b1 with
          | true =>
            refine wpAnyH_take (i := 7) (v := undef) rfl (by kernel_rfl) (by kernel_rfl) (by kernel_rfl) (fun _ _ _ h => h) (Or.inr ⟨by rfl, rfl⟩) (by assumption) ?_
            (try simp only [Act.put, List.getElem_toArray, List.getElem_cons_zero, List.getElem_cons_succ, List.setIfInBounds_toArray, List.set_cons_zero, List.set_cons_succ])
            refine wpAnyH_take (i := 8) (v := undef) rfl (by kernel_rfl) (by kernel_rfl) (by kernel_rfl) (fun _ _ _ h => h) (Or.inr ⟨by rfl, rfl⟩) (by assumption) ?_
            (try simp only [Act.put, List.getElem_toArray, List.getElem_cons_zero, List.getElem_cons_succ, List.setIfInBounds_toArray, List.set_cons_zero, List.set_cons_succ])
            refine wpAnyH_take (i := 9) (v := undef) rfl (by kernel_rfl) (by kernel_rfl) (by kernel_rfl) (fun _ _ _ h => h) (Or.inr ⟨by rfl, rfl⟩) (by assumption) ?_
            (try simp only [Act.put, List.getElem_toArray, List.getElem_cons_zero, List.getElem_cons_succ, List.setIfInBounds_toArray, List.set_cons_zero, List.set_cons_succ])
            refine wpAnyH_take (i := 10) (v := undef) rfl (by kernel_rfl) (by kernel_rfl) (by kernel_rfl) (fun _ _ _ h => h) (Or.inr ⟨by rfl, rfl⟩) (by assumption) ?_
            (try simp only [Act.put, List.getElem_toArray, List.getElem_cons_zero, List.getElem_cons_succ, List.setIfInBounds_toArray, List.set_cons_zero, List.set_cons_succ])
            refine wpAnyH_take (i := 11) (v := undef) rfl (by kernel_rfl) (by kernel_rfl) (by kernel_rfl) (fun _ _ _ h => h) (Or.inr ⟨by rfl, rfl⟩) (by assumption) ?_
            (try simp only [Act.put, List.getElem_toArray, List.getElem_cons_zero, List.getElem_cons_succ, List.setIfInBounds_toArray, List.set_cons_zero, List.set_cons_succ])
            refine wpAnyH_take (i := 12) (v := ?_) rfl (by kernel_rfl) (by kernel_rfl) (by kernel_rfl) (fun _ _ _ h => h) (Or.inl ⟨by rfl, ?_⟩) (by assumption) ?_
            rotate_left
            · (intro w hSw; (try dsimp only at hSw); go_simp; (try with_reducible rfl))
            (try simp only [Act.put, List.getElem_toArray, List.getElem_cons_zero, List.getElem_cons_succ, List.setIfInBounds_toArray, List.set_cons_zero, List.set_cons_succ])
            refine wpAnyH_take (i := 13) (v := ?_) rfl (by kernel_rfl) (by kernel_rfl) (by kernel_rfl) (fun _ _ _ h => h) (Or.inl ⟨by rfl, ?_⟩) (by assumption) ?_
            rotate_left
            · (intro w hSw; (try dsimp only at hSw); go_simp; (try with_reducible rfl))
            (try simp only [Act.put, List.getElem_toArray, List.getElem_cons_zero, List.getElem_cons_succ, List.setIfInBounds_toArray, List.set_cons_zero, List.set_cons_succ])
            refine wpAnyH_done (by kernel_rfl) ?_ _
            go_wp2_with fail
            go_ret
            exact ⟨⟨_, rfl, fun _ => HLT.out⟩, HX2.out.1.trans (HXZ.out.mono HX2.out.1.size)⟩
          | false =>
            refine wpAnyH_take (i := 7) (v := ?_) rfl (by kernel_rfl) (by kernel_rfl) (by kernel_rfl) (fun _ _ _ h => h) (Or.inl ⟨by rfl, ?_⟩) (by assumption) ?_
            rotate_left
            · (intro w hSw; (try dsimp only at hSw); go_simp; (try with_reducible rfl))
            (try simp only [Act.put, List.getElem_toArray, List.getElem_cons_zero, List.getElem_cons_succ, List.setIfInBounds_toArray, List.set_cons_zero, List.set_cons_succ])
            refine wpAnyH_take (i := 8) (v := ?_) rfl (by kernel_rfl) (by kernel_rfl) (by kernel_rfl) (fun _ _ _ h => h) (Or.inl ⟨by rfl, ?_⟩) (by assumption) ?_
            rotate_left
            · (intro w hSw; (try dsimp only at hSw); go_simp; (try with_reducible rfl))
            (try simp only [Act.put, List.getElem_toArray, List.getElem_cons_zero, List.getElem_cons_succ, List.setIfInBounds_toArray, List.set_cons_zero, List.set_cons_succ])
            refine wpAnyH_take (i := 9) (v := ?_) rfl (by kernel_rfl) (by kernel_rfl) (by kernel_rfl) (fun _ _ _ h => h) (Or.inl ⟨by rfl, ?_⟩) (by assumption) ?_
            rotate_left
            · (intro w hSw; (try dsimp only at hSw); go_simp; (try with_reducible rfl))
            (try simp only [Act.put, List.getElem_toArray, List.getElem_cons_zero, List.getElem_cons_succ, List.setIfInBounds_toArray, List.set_cons_zero, List.set_cons_succ])
            refine wpAnyH_take (i := 10) (v := ?_) rfl (by kernel_rfl) (by kernel_rfl) (by kernel_rfl) (fun _ _ _ h => h) (Or.inl ⟨by rfl, ?_⟩) (by assumption) ?_
            rotate_left
            · (intro w hSw; (try dsimp only at hSw); go_simp; (try with_reducible rfl))
            (try simp only [Act.put, List.getElem_toArray, List.getElem_cons_zero, List.getElem_cons_succ, List.setIfInBounds_toArray, List.set_cons_zero, List.set_cons_succ])
            refine wpAnyH_ready (rs := [11]) (by kernel_rfl) (by simp) ?_
            refine AllReadyH.cons rfl (fun K hK => ?_) AllReadyH.nil
            go_simp
            go_at_call 15
            refine (HLG.out _ ol k cl ls HXZ.out (HLS.out.below (HX2.out.1.trans (HXZ.out.mono HX2.out.1.size))) (by omega) (fun i hi => by have := HLN.out i hi; omega)).mono ?_
            rintro e wu ⟨⟨b2, rfl, _⟩, hby⟩
            have HXU := Lib.hid (show Below w2.heap.size w2 wu from HXZ.out.trans (hby.mono HXZ.out.size))
            clear hby
            go_wp2_with fail
            refine hK _ _ (keep10V HC.out HXU.out) (fun hHeld => ?_)
            clear hK K
            (try simp only [Act.put, List.getElem_toArray, List.getElem_cons_zero, List.getElem_cons_succ, List.setIfInBounds_toArray, List.set_cons_zero, List.set_cons_succ])
            refine wpAnyH_take (i := 12) (v := ?_) rfl (by kernel_rfl) (by kernel_rfl) (by kernel_rfl) (fun _ _ _ h => h) (Or.inl ⟨by rfl, ?_⟩) (by assumption) ?_
            rotate_left
            · (intro w hSw; (try dsimp only at hSw); go_simp; (try with_reducible rfl))
            (try simp only [Act.put, List.getElem_toArray, List.getElem_cons_zero, List.getElem_cons_succ, List.setIfInBounds_toArray, List.set_cons_zero, List.set_cons_succ])
            refine wpAnyH_take (i := 13) (v := ?_) rfl (by kernel_rfl) (by kernel_rfl) (by kernel_rfl) (fun _ _ _ h => h) (Or.inl ⟨by rfl, ?_⟩) (by assumption) ?_
            rotate_left
            · (intro w hSw; (try dsimp only at hSw); go_simp; (try with_reducible rfl))
            (try simp only [Act.put, List.getElem_toArray, List.getElem_cons_zero, List.getElem_cons_succ, List.setIfInBounds_toArray, List.set_cons_zero, List.set_cons_succ])
            refine wpAnyH_done (by kernel_rfl) ?_ _
            go_wp2_with fail
            go_ret
            exact ⟨⟨_, rfl, fun _ => HLT.out⟩, HX2.out.1.trans (HXU.out.mono HX2.out.1.size)⟩
end Go.Proofs.YtipjhdgegfgenaaGreat
