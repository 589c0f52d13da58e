/-
  IS A VALUE TOO LARGE: ratchetlaw18.large of windows, only that it answers.
-/
import Derived.Test.YtipjhdgegfgenaaGreatEV39
set_option linter.unusedVariables false
set_option linter.unusedSimpArgs false
namespace Go.Proofs.YtipjhdgegfgenaaGreat
open Go.RowKit Go.Shelf Go
set_option maxRecDepth 1000000 in
set_option maxHeartbeats 16000000 in
theorem large_c24 (word : Int) (oa oi o1 o2 o3 o4 ol : Option Addr) (na ni n1 n2 n3 n4 ca ci c1 c2 c3 c4 nl cl : Nat) (al il : List Int) (cv : ConvD) (ls : List (List Int)) (w : World) (ha : Rd w .i64 (.slice oa na ca) al) (hi : Rd w .i64 (.slice oi ni ci) il) (hal : al.length ≤ 1000) (hil : il.length ≤ 1000)
    (hcv : ConvRd w (.slice o1 n1 c1) (.slice o2 n2 c2) (.slice o3 n3 c3) (.slice o4 n4 c4) cv) (hcn : n1 ≤ 6 ∧ n2 ≤ 6 ∧ n3 ≤ 6 ∧ n4 ≤ 6) (hls : ListsC w (.slice ol nl cl) ls) (hnl : nl ≤ 1000) (hlen : ∀ i, i < nl → (lnth ls i).length ≤ 1000000) :
    Calls Tryz.prog 15 #[.agg #[.int .i64 24, .slice oa na ca, .slice oi ni ci, .int .i64 word, .slice o1 n1 c1, .slice o2 n2 c2, .slice o3 n3 c3, .slice o4 n4 c4], .slice ol nl cl] w (fun e w' => HeavyOut True e ∧ Below w.heap.size w w') := by
  have HI := Lib.hid (And.intro ha (And.intro hi (And.intro hal hil)))
  have HCV := Lib.hid hcv
  have HLS := Lib.hid hls
  have HLEN := Lib.hid hlen
  have HNA := Lib.hid (show na = al.length by obtain ⟨o, cap, he⟩ := rd_slice ha; injection he)
  have hna : na ≤ 1000 := by have := HNA.out; omega
  have hni : ni ≤ 1000 := by have : ni = il.length := (by obtain ⟨o, cap, he⟩ := rd_slice hi; injection he); omega
  have HNI := Lib.hid (show ni = il.length by obtain ⟨o, cap, he⟩ := rd_slice hi; injection he)
  have HCN := Lib.hid hcn
  have HNL := Lib.hid hls.len
  obtain ⟨W, hW⟩ : ∃ W, W = w.alloc (.cells #[.int .i64 24, .slice oa na ca, .slice oi ni ci, .int .i64 word, .slice o1 n1 c1, .slice o2 n2 c2, .slice o3 n3 c3, .slice o4 n4 c4] 27) := ⟨_, rfl⟩
  have hB : Below w.heap.size w W := by rw [hW]; exact (Below.refl _ _).alloc (Nat.le_refl _) _
  have hbx : Box W w.heap.size 27 #[.int .i64 24, .slice oa na ca, .slice oi ni ci, .int .i64 word, .slice o1 n1 c1, .slice o2 n2 c2, .slice o3 n3 c3, .slice o4 n4 c4] := by rw [hW]; exact Box.new _ _ _
  have HX := Lib.hid (And.intro hB hbx)
  have HW := Lib.hid hW
  have HM := Lib.hid (ref18May_any 24 word (.slice oa na ca) (.slice oi ni ci) al il o1 o2 o3 o4 n1 n2 n3 n4 c1 c2 c3 c4 W (ha.below hB (Nat.le_refl _)) (hi.below hB (Nat.le_refl _)) hal hil)
  obtain ⟨r, hr⟩ : ∃ r, r = mayB 24 word al il (decide (n1 + n2 + n3 + n4 = 0)) := ⟨_, rfl⟩
  have HR := Lib.hid hr
  rw [← hr] at HM
  clear hr hcv hls hlen hcn ha hi hal hil hW hB hbx
  go_enter Tryz.func15, Tryz.ntmps15
  go_wp2_with (go_at_call 24; rw [← HW.out]; refine HM.out.mono ?_; rintro e w1 ⟨rfl, hb1⟩; refine stopHere ?_)
  have HX1 := Lib.hid (And.intro (HX.out.1.trans (hb1.mono HX.out.1.size)) (HX.out.2.next hb1))
  have d1 : w1.cell? ⟨w.heap.size, 1, none⟩ = some (.slice oa na ca) := HX1.out.2.cell 1 rfl
  clear hb1
  refine goOn ?_
  cases r with
  | false =>
    go_wp2_with fail
    go_ret
    exact yes _ HX1.out.1
  | true =>
    by_cases hnn : na = nl
    case neg =>
      have hq : ((na : Int) != (nl : Int)) = true := by simp; omega
      clear hnn
      go_wp2_with fail
      go_ret
      exact yes _ HX1.out.1
    subst hnn
    have hq : ((na : Int) != (na : Int)) = false := by simp
    by_cases hz : na = 0
    case pos =>
      have hq0 : ((na : Int) == 0) = true := by simp; exact hz
      clear hz
      go_wp2_with fail
      go_ret
      exact yes _ HX1.out.1
    have hq0 : ((na : Int) == 0) = false := by simp; exact hz
    have HZ := Lib.hid (show 0 < na by omega)
    have HARG := Lib.hid (show argsN 24 = (na : Int) by
      have := HR.out.symm
      simp only [mayB, mayA, Bool.and_eq_true, decide_eq_true_eq] at this
      rw [HNA.out]; exact this.1.1)
    clear hz HM
    go_wp2_with fail
    clear hq hq0 d1
    go_loopw [5] (fun i wr => ∃ k : Nat, k ≤ na ∧ i = .int .i64 k ∧ Hid (Same w1 wr ∧ ∀ j, j < k → shapeB (lnth ls j) = true)) (fun i _ => na - (intOf i).toNat)
    case atStart => exact ⟨0, Nat.zero_le _, rfl, Lib.hid ⟨Same.refl _, fun j h => absurd h (by omega)⟩⟩
    case round =>
      obtain ⟨k, hk, rfl, HS⟩ := hrel
      obtain ⟨w2, rfl⟩ : ∃ w2, w2 = wr := ⟨_, rfl⟩
      have HB2 := Lib.hid (HX1.out.1.trans (HS.out.1.below _))
      by_cases hlt : k < na
      · obtain ⟨b, off, p, m, kk, rfl, h1, h2, h3⟩ := HLS.out.at k hlt
        have e1 := (HB2.out.cell (p := ⟨b, off + k, none⟩) (cell_lt h1)).trans h1
        have HMAY := Lib.hid (ref6May_any _ (lnth ls k) w2 (h2.below HB2.out (Nat.le_refl _)) (by have := HLEN.out k hlt; omega))
        obtain ⟨r, hr⟩ : ∃ r, r = shapeB (lnth ls k) := ⟨_, rfl⟩
        have HRR := Lib.hid hr
        rw [← hr] at HMAY
        clear h1 h2 h3 hr
        go_wp2_with (go_at_call 17; refine HMAY.out.mono ?_; rintro e w3 ⟨rfl, hsm⟩; refine stopHere ?_)
        have HS3 := Lib.hid (HS.out.1.trans hsm)
        clear hsm HMAY e1
        refine goOn ?_
        cases r with
        | false =>
          go_wp2_with fail
          go_ret
          exact yes _ (HX1.out.1.trans (HS3.out.below _))
        | true =>
          go_wp2_with fail
          go_roundw
          case rel => exact ⟨k + 1, by omega, by go_num, Lib.hid ⟨HS3.out, fun j hj => by
            by_cases hjk : j < k
            · exact HS.out.2 j hjk
            · obtain rfl : j = k := by omega
              exact HRR.out.symm⟩⟩
          case measure => simp [intOf]; omega
      · obtain rfl : k = na := by omega
        have HX2 := Lib.hid (And.intro HB2.out (HX1.out.2.same HS.out.1))
        have HSH := Lib.hid HS.out.2
        obtain ⟨bl, fl, _, _, _, hol, _, _, _⟩ := HLS.out.at 0 HZ.out
        subst hol
        obtain ⟨p0, m0, k0, x0, hx0, h0⟩ := (HLS.out.below HB2.out).sh 0 HZ.out (HSH.out 0 HZ.out)
        rw [Nat.add_zero] at h0
        have H0 := Lib.hid h0
        have HX0 := Lib.hid hx0
        have d0 : w2.cell? ⟨w.heap.size, 0, none⟩ = some (.int .i64 24) := HX2.out.2.cell 0 rfl
        clear h0 hx0 HS HB2 hlt hk
        have HC := Lib.hid (show w2.cell? ⟨w.heap.size, 0, none⟩ = some (.int .i64 24) ∧ w2.cell? ⟨w.heap.size, 4, none⟩ = some (.slice o1 n1 c1) ∧ w2.cell? ⟨w.heap.size, 5, none⟩ = some (.slice o2 n2 c2) ∧ w2.cell? ⟨w.heap.size, 6, none⟩ = some (.slice o3 n3 c3) ∧ w2.cell? ⟨w.heap.size, 7, none⟩ = some (.slice o4 n4 c4) ∧ w2.cell? ⟨bl, fl, none⟩ = some (.slice p0 m0 k0) from ⟨HX2.out.2.cell 0 rfl, HX2.out.2.cell 4 rfl, HX2.out.2.cell 5 rfl, HX2.out.2.cell 6 rfl, HX2.out.2.cell 7 rfl, H0.out.cell⟩)
        have HMC := Lib.hid (show ∀ X, Below w2.heap.size w2 X → Calls Tryz.prog 25 #[.agg #[.slice o1 n1 c1, .slice o2 n2 c2, .slice o3 n3 c3, .slice o4 n4 c4], .bool true] X fun e w' => e = .returned (.bool (convB cv true)) ∧ Below X.heap.size X w' from fun X hX =>
          may11_any _ _ _ _ cv true X (HCV.out.below (HX2.out.1.trans (hX.mono HX2.out.1.size)) (Nat.le_refl _)) (conv_lim HCV.out HCN.out))
        obtain ⟨cb, hcb⟩ : ∃ cb, cb = convB cv true := ⟨_, rfl⟩
        have HCB := Lib.hid hcb
        rw [← hcb] at HMC
        have hbw : w.heap.size < w2.heap.size := HX2.out.2.lt
        clear hcb
        have hkz : 0 < k := HZ.out
        obtain ⟨hm0, hm4⟩ := H0.out.len
        have HM0 := Lib.hid hm0
        have hn2 : n2 ≤ 6 := HCN.out.2.1
        have hw2 : IntKind.i64.wrap ((n2 : Int) + 2) = ((n2 + 2 : Nat) : Int) := by rw [IntWalk.i64_in _ (by omega)]; omega
        obtain ⟨n22, hn22⟩ : ∃ n22, n22 = n2 + 2 := ⟨_, rfl⟩
        have HN22 := Lib.hid hn22
        rw [← hn22] at hw2
        clear hm0 hn22
        go_wp2_with fail
        have hHX := Lib.hid (Below.refl w2.heap.size w2)
        cases cb with
        | false =>
          refine wp_region_held_drew (S := fun w' => w'.cell? ⟨w.heap.size, 0, none⟩ = some (.int .i64 24) ∧ w'.cell? ⟨w.heap.size, 4, none⟩ = some (.slice o1 n1 c1) ∧ w'.cell? ⟨w.heap.size, 5, none⟩ = some (.slice o2 n2 c2) ∧ w'.cell? ⟨w.heap.size, 6, none⟩ = some (.slice o3 n3 c3) ∧ w'.cell? ⟨w.heap.size, 7, none⟩ = some (.slice o4 n4 c4) ∧ w'.cell? ⟨bl, fl, none⟩ = some (.slice p0 m0 k0)) (by kernel_rfl) ?_ (fun hHeld => ?_)
          · exact HC.out
          refine wpAnyH_take (i := 0) (v := ?_) rfl (by kernel_rfl) (by kernel_rfl) (by kernel_rfl) (fun _ _ _ h => h) (Or.inl ⟨by rfl, ?_⟩) (by assumption) ?_
          rotate_left
          · (intro w hSw; (try dsimp only at hSw); go_simp; (try with_reducible rfl))
          (try simp only [Act.put, List.getElem_toArray, List.getElem_cons_zero, List.getElem_cons_succ, List.setIfInBounds_toArray, List.set_cons_zero, List.set_cons_succ])
          refine wpAnyH_take (i := 1) (v := ?_) rfl (by kernel_rfl) (by kernel_rfl) (by kernel_rfl) (fun _ _ _ h => h) (Or.inl ⟨by rfl, ?_⟩) (by assumption) ?_
          rotate_left
          · (intro w hSw; (try dsimp only at hSw); go_simp; (try with_reducible rfl))
          (try simp only [Act.put, List.getElem_toArray, List.getElem_cons_zero, List.getElem_cons_succ, List.setIfInBounds_toArray, List.set_cons_zero, List.set_cons_succ])
          refine wpAnyH_take (i := 2) (v := ?_) rfl (by kernel_rfl) (by kernel_rfl) (by kernel_rfl) (fun _ _ _ h => h) (Or.inl ⟨by rfl, ?_⟩) (by assumption) ?_
          rotate_left
          · (intro w hSw; (try dsimp only at hSw); go_simp; (try with_reducible rfl))
          (try simp only [Act.put, List.getElem_toArray, List.getElem_cons_zero, List.getElem_cons_succ, List.setIfInBounds_toArray, List.set_cons_zero, List.set_cons_succ])
          refine wpAnyH_take (i := 3) (v := ?_) rfl (by kernel_rfl) (by kernel_rfl) (by kernel_rfl) (fun _ _ _ h => h) (Or.inl ⟨by rfl, ?_⟩) (by assumption) ?_
          rotate_left
          · (intro w hSw; (try dsimp only at hSw); go_simp; (try with_reducible rfl))
          (try simp only [Act.put, List.getElem_toArray, List.getElem_cons_zero, List.getElem_cons_succ, List.setIfInBounds_toArray, List.set_cons_zero, List.set_cons_succ])
          refine wpAnyH_take (i := 4) (v := ?_) rfl (by kernel_rfl) (by kernel_rfl) (by kernel_rfl) (fun _ _ _ h => h) (Or.inl ⟨by rfl, ?_⟩) (by assumption) ?_
          rotate_left
          · (intro w hSw; (try dsimp only at hSw); go_simp; (try with_reducible rfl))
          (try simp only [Act.put, List.getElem_toArray, List.getElem_cons_zero, List.getElem_cons_succ, List.setIfInBounds_toArray, List.set_cons_zero, List.set_cons_succ])
          refine wpAnyH_ready (rs := [5]) (by kernel_rfl) (by simp) ?_
          refine AllReadyH.cons rfl (fun K hK => ?_) AllReadyH.nil
          go_simp
          go_at_call 25
          refine (HMC.out _ (by repeat (first | with_reducible exact Below.refl _ _ | with_reducible refine Below.drew ?_))).mono ?_
          rintro e wy ⟨rfl, hby⟩
          have HXY := Lib.hid (show Below w2.heap.size w2 wy from (show Below w2.heap.size w2 _ from (by repeat (first | with_reducible exact Below.refl _ _ | with_reducible refine Below.drew ?_))).trans hby)
          clear hby
          go_wp2_with fail
          refine hK _ _ (keep6L HC.out HXY.out) (fun hHeld2 => ?_)
          clear hK K
          (try simp only [Act.put, List.getElem_toArray, List.getElem_cons_zero, List.getElem_cons_succ, List.setIfInBounds_toArray, List.set_cons_zero, List.set_cons_succ])
          refine wpAnyH_take (i := 6) (v := ?_) rfl (by kernel_rfl) (by kernel_rfl) (by kernel_rfl) (fun _ _ _ h => h) (Or.inl ⟨by rfl, ?_⟩) (by assumption) ?_
          rotate_left
          · (intro w hSw; (try dsimp only at hSw); go_simp; (try with_reducible rfl))
          (try simp only [Act.put, List.getElem_toArray, List.getElem_cons_zero, List.getElem_cons_succ, List.setIfInBounds_toArray, List.set_cons_zero, List.set_cons_succ])
          refine wpAnyH_take (i := 7) (v := ?_) rfl (by kernel_rfl) (by kernel_rfl) (by kernel_rfl) (fun _ _ _ h => h) (Or.inl ⟨by rfl, ?_⟩) (by assumption) ?_
          rotate_left
          · (intro w hSw; (try dsimp only at hSw); go_simp; (try with_reducible rfl))
          (try simp only [Act.put, List.getElem_toArray, List.getElem_cons_zero, List.getElem_cons_succ, List.setIfInBounds_toArray, List.set_cons_zero, List.set_cons_succ])
          refine wpAnyH_take (i := 8) (v := undef) rfl (by kernel_rfl) (by kernel_rfl) (by kernel_rfl) (fun _ _ _ h => h) (Or.inr ⟨by rfl, rfl⟩) (by assumption) ?_
          (try simp only [Act.put, List.getElem_toArray, List.getElem_cons_zero, List.getElem_cons_succ, List.setIfInBounds_toArray, List.set_cons_zero, List.set_cons_succ])
          refine wpAnyH_take (i := 9) (v := undef) rfl (by kernel_rfl) (by kernel_rfl) (by kernel_rfl) (fun _ _ _ h => h) (Or.inr ⟨by rfl, rfl⟩) (by assumption) ?_
          (try simp only [Act.put, List.getElem_toArray, List.getElem_cons_zero, List.getElem_cons_succ, List.setIfInBounds_toArray, List.set_cons_zero, List.set_cons_succ])
          refine wpAnyH_take (i := 10) (v := undef) rfl (by kernel_rfl) (by kernel_rfl) (by kernel_rfl) (fun _ _ _ h => h) (Or.inr ⟨by rfl, rfl⟩) (by assumption) ?_
          (try simp only [Act.put, List.getElem_toArray, List.getElem_cons_zero, List.getElem_cons_succ, List.setIfInBounds_toArray, List.set_cons_zero, List.set_cons_succ])
          refine wpAnyH_take (i := 11) (v := undef) rfl (by kernel_rfl) (by kernel_rfl) (by kernel_rfl) (fun _ _ _ h => h) (Or.inr ⟨by rfl, rfl⟩) (by assumption) ?_
          (try simp only [Act.put, List.getElem_toArray, List.getElem_cons_zero, List.getElem_cons_succ, List.setIfInBounds_toArray, List.set_cons_zero, List.set_cons_succ])
          refine wpAnyH_take (i := 12) (v := undef) rfl (by kernel_rfl) (by kernel_rfl) (by kernel_rfl) (fun _ _ _ h => h) (Or.inr ⟨by rfl, rfl⟩) (by assumption) ?_
          (try simp only [Act.put, List.getElem_toArray, List.getElem_cons_zero, List.getElem_cons_succ, List.setIfInBounds_toArray, List.set_cons_zero, List.set_cons_succ])
          refine wpAnyH_take (i := 13) (v := undef) rfl (by kernel_rfl) (by kernel_rfl) (by kernel_rfl) (fun _ _ _ h => h) (Or.inr ⟨by rfl, rfl⟩) (by assumption) ?_
          (try simp only [Act.put, List.getElem_toArray, List.getElem_cons_zero, List.getElem_cons_succ, List.setIfInBounds_toArray, List.set_cons_zero, List.set_cons_succ])
          refine wpAnyH_take (i := 14) (v := undef) rfl (by kernel_rfl) (by kernel_rfl) (by kernel_rfl) (fun _ _ _ h => h) (Or.inr ⟨by rfl, rfl⟩) (by assumption) ?_
          (try simp only [Act.put, List.getElem_toArray, List.getElem_cons_zero, List.getElem_cons_succ, List.setIfInBounds_toArray, List.set_cons_zero, List.set_cons_succ])
          refine wpAnyH_take (i := 15) (v := undef) rfl (by kernel_rfl) (by kernel_rfl) (by kernel_rfl) (fun _ _ _ h => h) (Or.inr ⟨by rfl, rfl⟩) (by assumption) ?_
          (try simp only [Act.put, List.getElem_toArray, List.getElem_cons_zero, List.getElem_cons_succ, List.setIfInBounds_toArray, List.set_cons_zero, List.set_cons_succ])
          refine wpAnyH_take (i := 16) (v := undef) rfl (by kernel_rfl) (by kernel_rfl) (by kernel_rfl) (fun _ _ _ h => h) (Or.inr ⟨by rfl, rfl⟩) (by assumption) ?_
          (try simp only [Act.put, List.getElem_toArray, List.getElem_cons_zero, List.getElem_cons_succ, List.setIfInBounds_toArray, List.set_cons_zero, List.set_cons_succ])
          refine wpAnyH_take (i := 17) (v := undef) rfl (by kernel_rfl) (by kernel_rfl) (by kernel_rfl) (fun _ _ _ h => h) (Or.inr ⟨by rfl, rfl⟩) (by assumption) ?_
          (try simp only [Act.put, List.getElem_toArray, List.getElem_cons_zero, List.getElem_cons_succ, List.setIfInBounds_toArray, List.set_cons_zero, List.set_cons_succ])
          refine wpAnyH_take (i := 18) (v := ?_) rfl (by kernel_rfl) (by kernel_rfl) (by kernel_rfl) (fun _ _ _ h => h) (Or.inl ⟨by rfl, ?_⟩) (by assumption) ?_
          rotate_left
          · (intro w hSw; (try dsimp only at hSw); go_simp; (try with_reducible rfl))
          (try simp only [Act.put, List.getElem_toArray, List.getElem_cons_zero, List.getElem_cons_succ, List.setIfInBounds_toArray, List.set_cons_zero, List.set_cons_succ])
          refine wpAnyH_done (by kernel_rfl) ?_ _
          go_wp2_with fail
          go_ret
          exact yes _ (HX2.out.1.trans (HXY.out.mono HX2.out.1.size))
        | true =>
          refine wp_region_held_drew (S := fun w' => w'.cell? ⟨w.heap.size, 0, none⟩ = some (.int .i64 24) ∧ w'.cell? ⟨w.heap.size, 4, none⟩ = some (.slice o1 n1 c1) ∧ w'.cell? ⟨w.heap.size, 5, none⟩ = some (.slice o2 n2 c2) ∧ w'.cell? ⟨w.heap.size, 6, none⟩ = some (.slice o3 n3 c3) ∧ w'.cell? ⟨w.heap.size, 7, none⟩ = some (.slice o4 n4 c4) ∧ w'.cell? ⟨bl, fl, none⟩ = some (.slice p0 m0 k0)) (by kernel_rfl) ?_ (fun hHeld => ?_)
          · exact HC.out
          refine wpAnyH_take (i := 0) (v := ?_) rfl (by kernel_rfl) (by kernel_rfl) (by kernel_rfl) (fun _ _ _ h => h) (Or.inl ⟨by rfl, ?_⟩) (by assumption) ?_
          rotate_left
          · (intro w hSw; (try dsimp only at hSw); go_simp; (try with_reducible rfl))
          (try simp only [Act.put, List.getElem_toArray, List.getElem_cons_zero, List.getElem_cons_succ, List.setIfInBounds_toArray, List.set_cons_zero, List.set_cons_succ])
          refine wpAnyH_take (i := 1) (v := ?_) rfl (by kernel_rfl) (by kernel_rfl) (by kernel_rfl) (fun _ _ _ h => h) (Or.inl ⟨by rfl, ?_⟩) (by assumption) ?_
          rotate_left
          · (intro w hSw; (try dsimp only at hSw); go_simp; (try with_reducible rfl))
          (try simp only [Act.put, List.getElem_toArray, List.getElem_cons_zero, List.getElem_cons_succ, List.setIfInBounds_toArray, List.set_cons_zero, List.set_cons_succ])
          refine wpAnyH_take (i := 2) (v := ?_) rfl (by kernel_rfl) (by kernel_rfl) (by kernel_rfl) (fun _ _ _ h => h) (Or.inl ⟨by rfl, ?_⟩) (by assumption) ?_
          rotate_left
          · (intro w hSw; (try dsimp only at hSw); go_simp; (try with_reducible rfl))
          (try simp only [Act.put, List.getElem_toArray, List.getElem_cons_zero, List.getElem_cons_succ, List.setIfInBounds_toArray, List.set_cons_zero, List.set_cons_succ])
          refine wpAnyH_take (i := 3) (v := ?_) rfl (by kernel_rfl) (by kernel_rfl) (by kernel_rfl) (fun _ _ _ h => h) (Or.inl ⟨by rfl, ?_⟩) (by assumption) ?_
          rotate_left
          · (intro w hSw; (try dsimp only at hSw); go_simp; (try with_reducible rfl))
          (try simp only [Act.put, List.getElem_toArray, List.getElem_cons_zero, List.getElem_cons_succ, List.setIfInBounds_toArray, List.set_cons_zero, List.set_cons_succ])
          refine wpAnyH_take (i := 4) (v := ?_) rfl (by kernel_rfl) (by kernel_rfl) (by kernel_rfl) (fun _ _ _ h => h) (Or.inl ⟨by rfl, ?_⟩) (by assumption) ?_
          rotate_left
          · (intro w hSw; (try dsimp only at hSw); go_simp; (try with_reducible rfl))
          (try simp only [Act.put, List.getElem_toArray, List.getElem_cons_zero, List.getElem_cons_succ, List.setIfInBounds_toArray, List.set_cons_zero, List.set_cons_succ])
          refine wpAnyH_ready (rs := [5]) (by kernel_rfl) (by simp) ?_
          refine AllReadyH.cons rfl (fun K hK => ?_) AllReadyH.nil
          go_simp
          go_at_call 25
          refine (HMC.out _ (by repeat (first | with_reducible exact Below.refl _ _ | with_reducible refine Below.drew ?_))).mono ?_
          rintro e wy ⟨rfl, hby⟩
          have HXY := Lib.hid (show Below w2.heap.size w2 wy from (show Below w2.heap.size w2 _ from (by repeat (first | with_reducible exact Below.refl _ _ | with_reducible refine Below.drew ?_))).trans hby)
          clear hby
          go_wp2_with fail
          refine hK _ _ (keep6L HC.out HXY.out) (fun hHeld2 => ?_)
          clear hK K
          (try simp only [Act.put, List.getElem_toArray, List.getElem_cons_zero, List.getElem_cons_succ, List.setIfInBounds_toArray, List.set_cons_zero, List.set_cons_succ])
          refine wpAnyH_take (i := 6) (v := ?_) rfl (by kernel_rfl) (by kernel_rfl) (by kernel_rfl) (fun _ _ _ h => h) (Or.inl ⟨by rfl, ?_⟩) (by assumption) ?_
          rotate_left
          · (intro w hSw; (try dsimp only at hSw); go_simp; (try with_reducible rfl))
          (try simp only [Act.put, List.getElem_toArray, List.getElem_cons_zero, List.getElem_cons_succ, List.setIfInBounds_toArray, List.set_cons_zero, List.set_cons_succ])
          refine wpAnyH_take (i := 7) (v := ?_) rfl (by kernel_rfl) (by kernel_rfl) (by kernel_rfl) (fun _ _ _ h => h) (Or.inl ⟨by rfl, ?_⟩) (by assumption) ?_
          rotate_left
          · (intro w hSw; (try dsimp only at hSw); go_simp; (try with_reducible rfl))
          (try simp only [Act.put, List.getElem_toArray, List.getElem_cons_zero, List.getElem_cons_succ, List.setIfInBounds_toArray, List.set_cons_zero, List.set_cons_succ])
          refine wpAnyH_take (i := 8) (v := ?_) rfl (by kernel_rfl) (by kernel_rfl) (by kernel_rfl) (fun _ _ _ h => h) (Or.inl ⟨by rfl, ?_⟩) (by assumption) ?_
          rotate_left
          · (intro w hSw; (try dsimp only at hSw); go_simp; (try with_reducible rfl))
          (try simp only [Act.put, List.getElem_toArray, List.getElem_cons_zero, List.getElem_cons_succ, List.setIfInBounds_toArray, List.set_cons_zero, List.set_cons_succ])
          refine wpAnyH_take (i := 9) (v := ?_) rfl (by kernel_rfl) (by kernel_rfl) (by kernel_rfl) (fun _ _ _ h => h) (Or.inl ⟨by rfl, ?_⟩) (by assumption) ?_
          rotate_left
          · (intro w hSw; (try dsimp only at hSw); go_simp; (try with_reducible rfl))
          (try simp only [Act.put, List.getElem_toArray, List.getElem_cons_zero, List.getElem_cons_succ, List.setIfInBounds_toArray, List.set_cons_zero, List.set_cons_succ])
          refine wpAnyH_take (i := 10) (v := ?_) rfl (by kernel_rfl) (by kernel_rfl) (by kernel_rfl) (fun _ _ _ h => h) (Or.inl ⟨by rfl, ?_⟩) (by assumption) ?_
          rotate_left
          · (intro w hSw; (try dsimp only at hSw); go_simp; (try with_reducible rfl))
          (try simp only [Act.put, List.getElem_toArray, List.getElem_cons_zero, List.getElem_cons_succ, List.setIfInBounds_toArray, List.set_cons_zero, List.set_cons_succ])
          refine wpAnyH_take (i := 11) (v := ?_) rfl (by kernel_rfl) (by kernel_rfl) (by kernel_rfl) (fun _ _ _ h => h) (Or.inl ⟨by rfl, ?_⟩) (by assumption) ?_
          rotate_left
          · (intro w hSw; (try dsimp only at hSw); go_simp; (try with_reducible rfl))
          (try simp only [Act.put, List.getElem_toArray, List.getElem_cons_zero, List.getElem_cons_succ, List.setIfInBounds_toArray, List.set_cons_zero, List.set_cons_succ])
          refine wpAnyH_take (i := 12) (v := ?_) rfl (by kernel_rfl) (by kernel_rfl) (by kernel_rfl) (fun _ _ _ h => h) (Or.inl ⟨by rfl, ?_⟩) (by assumption) ?_
          rotate_left
          · (intro w hSw; (try dsimp only at hSw); go_simp; (try with_reducible rfl))
          (try simp only [Act.put, List.getElem_toArray, List.getElem_cons_zero, List.getElem_cons_succ, List.setIfInBounds_toArray, List.set_cons_zero, List.set_cons_succ])
          refine wpAnyH_take (i := 13) (v := ?_) rfl (by kernel_rfl) (by kernel_rfl) (by kernel_rfl) (fun _ _ _ h => h) (Or.inl ⟨by rfl, ?_⟩) (by assumption) ?_
          rotate_left
          · (intro w hSw; (try dsimp only at hSw); go_simp; (try with_reducible rfl))
          (try simp only [Act.put, List.getElem_toArray, List.getElem_cons_zero, List.getElem_cons_succ, List.setIfInBounds_toArray, List.set_cons_zero, List.set_cons_succ])
          refine wpAnyH_take (i := 14) (v := ?_) rfl (by kernel_rfl) (by kernel_rfl) (by kernel_rfl) (fun _ _ _ h => h) (Or.inl ⟨by rfl, ?_⟩) (by assumption) ?_
          rotate_left
          · (intro w hSw; (try dsimp only at hSw); go_simp; (try with_reducible rfl))
          (try simp only [Act.put, List.getElem_toArray, List.getElem_cons_zero, List.getElem_cons_succ, List.setIfInBounds_toArray, List.set_cons_zero, List.set_cons_succ])
          refine wpAnyH_take (i := 15) (v := ?_) rfl (by kernel_rfl) (by kernel_rfl) (by kernel_rfl) (fun _ _ _ h => h) (Or.inl ⟨by rfl, ?_⟩) (by assumption) ?_
          rotate_left
          · (intro w hSw; (try dsimp only at hSw); go_simp; (try with_reducible rfl))
          (try simp only [Act.put, List.getElem_toArray, List.getElem_cons_zero, List.getElem_cons_succ, List.setIfInBounds_toArray, List.set_cons_zero, List.set_cons_succ])
          refine wpAnyH_take (i := 16) (v := ?_) rfl (by kernel_rfl) (by kernel_rfl) (by kernel_rfl) (fun _ _ _ h => h) (Or.inl ⟨by rfl, ?_⟩) (by assumption) ?_
          rotate_left
          · (intro w hSw; (try dsimp only at hSw); go_simp; (try with_reducible rfl))
          (try simp only [Act.put, List.getElem_toArray, List.getElem_cons_zero, List.getElem_cons_succ, List.setIfInBounds_toArray, List.set_cons_zero, List.set_cons_succ])
          refine wpAnyH_take (i := 17) (v := ?_) rfl (by kernel_rfl) (by kernel_rfl) (by kernel_rfl) (fun _ _ _ h => h) (Or.inl ⟨by rfl, ?_⟩) (by assumption) ?_
          rotate_left
          · (intro w hSw; (try dsimp only at hSw); go_simp; (try with_reducible rfl))
          (try simp only [Act.put, List.getElem_toArray, List.getElem_cons_zero, List.getElem_cons_succ, List.setIfInBounds_toArray, List.set_cons_zero, List.set_cons_succ])
          refine wpAnyH_take (i := 18) (v := ?_) rfl (by kernel_rfl) (by kernel_rfl) (by kernel_rfl) (fun _ _ _ h => h) (Or.inl ⟨by rfl, ?_⟩) (by assumption) ?_
          rotate_left
          · (intro w hSw; (try dsimp only at hSw); go_simp; (try with_reducible rfl))
          (try simp only [Act.put, List.getElem_toArray, List.getElem_cons_zero, List.getElem_cons_succ, List.setIfInBounds_toArray, List.set_cons_zero, List.set_cons_succ])
          refine wpAnyH_done (by kernel_rfl) ?_ _
          have HB3 := Lib.hid (HX2.out.1.trans (HXY.out.mono HX2.out.1.size))
          have HCD := Lib.hid (conv_parts HCB.out.symm)
          have HL4 := Lib.hid (conv_lens HCV.out)
          have hn1 : 1 ≤ n2 := by have := HCD.out.1; have := HL4.out.2.1; omega
          obtain rfl : n3 = n2 := by have := HCD.out.2.1; have := HL4.out.2.1; have := HL4.out.2.2.1; omega
          obtain rfl : n4 = n3 := by have := HCD.out.2.2.1; have := HL4.out.2.1; have := HL4.out.2.2.2; omega
          obtain ⟨n, rfl⟩ : ∃ n, n4 = n := ⟨_, rfl⟩
          by_cases hm2 : m0 = n22
          case neg =>
            have hq : ((m0 : Int) != (n22 : Int)) = true := by simp; omega
            clear hm2
            go_wp2_with fail
            go_ret
            exact yes _ HB3.out
          have hq : ((m0 : Int) != (n22 : Int)) = false := by simp; omega
          have HMN := Lib.hid (show m0 = n4 + 2 by have := HN22.out; omega)
          clear hm2
          obtain ⟨w3, rfl⟩ : ∃ w3, w3 = wy := ⟨_, rfl⟩
          have HX3 := Lib.hid (And.intro HB3.out (HX2.out.2.next HXY.out))
          have HS0 := Lib.hid (H0.out.below HXY.out)
          clear hHeld hHeld2
          have d0 : w3.cell? ⟨w.heap.size, 0, none⟩ = some (.int .i64 24) := HX3.out.2.cell 0 rfl
          have d4 : w3.cell? ⟨w.heap.size, 4, none⟩ = some (.slice o1 n1 c1) := HX3.out.2.cell 4 rfl
          obtain rfl : n1 = n4 := by have := HCD.out.2.2.2.1 rfl; have := HL4.out.1; have := HL4.out.2.1; omega
          obtain ⟨kb, kx, hp1, _⟩ := HCV.out.ker.cell 0 (by have := HL4.out.1; omega)
          subst hp1
          obtain ⟨kc, rfl⟩ : ∃ kc, c1 = kc := ⟨_, rfl⟩
          obtain ⟨w4, rfl⟩ : ∃ w4, w4 = w3 := ⟨_, rfl⟩
          have HX4 := HX3
          have HT0 := HS0
          obtain ⟨ks, hks⟩ : ∃ ks, ks = cv.ker := ⟨_, rfl⟩
          have HKS := Lib.hid (show Rd w4 .i64 (.slice (some ⟨kb, kx, none⟩) n1 c1) ks ∧ inDim 1 ks ∧ ks.length = n1 by
            rw [hks]
            exact ⟨HCV.out.ker.below HX4.out.1 (Nat.le_refl _), inDim_betw HCD.out.2.2.2.2.2.2.2.1, HL4.out.1.symm⟩)
          clear hks
          go_wp2_with fail
          clear d0 d4 hq
          have HSP := Lib.hid (show ∀ X, Below w4.heap.size w4 X → Calls Tryz.prog 26 #[.slice p0 m0 k0, .slice (some ⟨kb, kx, none⟩) n1 c1, .agg #[.slice (some ⟨kb, kx, none⟩) n1 c1, .slice o2 n1 c2, .slice o3 n1 c3, .slice o4 n1 c4]] X (SpatB X n1) from fun X hX =>
            (spatialG_any (ints x0) ks cv.str cv.pad cv.dil (.slice (some ⟨kb, kx, none⟩) n1 c1) p0 (some ⟨kb, kx, none⟩) o2 o3 o4 k0 c1 c2 c3 c4 n1 m0 X (fun x hx => by have := inDim_shape HT0.out.good x hx; omega) HKS.out.2.1 (inDim_betw HCD.out.2.2.2.2.1) (inDim_betw HCD.out.2.2.2.2.2.2.1) (inDim_betw HCD.out.2.2.2.2.2.1)
              (by rw [← HM0.out, HMN.out]) HKS.out.2.2 HL4.out.2.1.symm HL4.out.2.2.1.symm HL4.out.2.2.2.symm HMN.out (by have := HCD.out.2.2.2.2.2.2.2.2; have := HL4.out.2.1; omega) (HT0.out.below hX).rd (HKS.out.1.below hX (Nat.le_refl _))
              (HCV.out.str.below (HX4.out.1.trans (hX.mono HX4.out.1.size)) (Nat.le_refl _)) (HCV.out.pad.below (HX4.out.1.trans (hX.mono HX4.out.1.size)) (Nat.le_refl _)) (HCV.out.dil.below (HX4.out.1.trans (hX.mono HX4.out.1.size)) (Nat.le_refl _))).mono fun _ _ h => h.any)
          have HC4 := Lib.hid (show w4.cell? ⟨bl, fl, none⟩ = some (.slice p0 m0 k0) ∧ w4.cell? ⟨w.heap.size, 4, none⟩ = some (.slice (some ⟨kb, kx, none⟩) n1 c1) ∧ w4.cell? ⟨w.heap.size, 5, none⟩ = some (.slice o2 n1 c2) ∧ w4.cell? ⟨w.heap.size, 6, none⟩ = some (.slice o3 n1 c3) ∧ w4.cell? ⟨w.heap.size, 7, none⟩ = some (.slice o4 n1 c4) from ⟨HT0.out.cell, HX4.out.2.cell 4 rfl, HX4.out.2.cell 5 rfl, HX4.out.2.cell 6 rfl, HX4.out.2.cell 7 rfl⟩)
          have HXW := Lib.hid (Below.refl w4.heap.size w4)
          go_region_held3 (fun w' => w'.cell? ⟨bl, fl, none⟩ = some (.slice p0 m0 k0) ∧ w'.cell? ⟨w.heap.size, 4, none⟩ = some (.slice (some ⟨kb, kx, none⟩) n1 c1) ∧ w'.cell? ⟨w.heap.size, 5, none⟩ = some (.slice o2 n1 c2) ∧ w'.cell? ⟨w.heap.size, 6, none⟩ = some (.slice o3 n1 c3) ∧ w'.cell? ⟨w.heap.size, 7, none⟩ = some (.slice o4 n1 c4))
            ((refine keep5V HC4.out ?_; exact (by repeat (first | with_reducible exact HXW.out | with_reducible exact Below.refl _ _ | with_reducible refine Below.drew ?_))))
            ((first | (go_at_call 26; refine (HSP.out _ (by repeat (first | with_reducible exact HXW.out | with_reducible exact Below.refl _ _ | with_reducible refine Below.drew ?_))).mono ?_; rintro e w5 ⟨v5, ys, b5, rfl, ho5, hyl, hb5⟩; have HXW := Lib.hid (show Below w4.heap.size w4 w5 from (show Below w4.heap.size w4 _ from (by repeat (first | with_reducible exact Below.refl _ _ | with_reducible refine Below.drew ?_))).trans (hb5.mono (by first | exact Nat.le_refl _ | (simp; done)))))))
          obtain ⟨o5, c5, rfl⟩ := own_slice ho5
          have HO5 := Lib.hid (Rd.of_own ho5)
          have HYL := Lib.hid hyl
          have HX5 := Lib.hid (HX4.out.1.trans (HXW.out.mono HX4.out.1.size))
          have HK5 := Lib.hid (And.intro (HKS.out.1.below HXW.out (Nat.le_refl _)) HKS.out.2.2)
          clear ho5 hyl hb5 HSP HC4
          obtain ⟨ny, hny⟩ : ∃ ny, ny = ys.length := ⟨_, rfl⟩
          have HNY := Lib.hid hny
          rw [← hny] at HO5 ⊢
          clear hny
          have hny6 : ny ≤ 6 := by have := HNY.out; have h1 := HYL.out; have := HCN.out; have := HL4.out.2.1; split at h1 <;> omega
          go_wp2_with fail
          go_loopw [9, 10] (fun c i wr => ∃ (j : Nat) (cc : Int), j ≤ ny ∧ i = .int .i64 j ∧ c = .int .i64 cc ∧ Hid (Same w5 wr)) (fun _ i _ => ny - (intOf i).toNat)
          case atStart => exact ⟨0, 1, Nat.zero_le _, rfl, rfl, Lib.hid (Same.refl _)⟩
          case round =>
            obtain ⟨j, cc, hj, rfl, rfl, HSJ⟩ := hrel
            obtain ⟨w6, rfl⟩ : ∃ w6, w6 = wr := ⟨_, rfl⟩
            have HX6 := Lib.hid (HX5.out.trans (HSJ.out.below _))
            by_cases hlt : j < ny
            · obtain rfl : b5 = true := by
                have h1 := HYL.out
                have h2 := HNY.out
                split at h1
                · assumption
                · exfalso; omega
              obtain ⟨yb, yf, hyo, e1⟩ := HO5.out.cell j (by rw [← HNY.out]; exact hlt)
              subst hyo
              obtain ⟨kb', kx', hko, e2⟩ := HK5.out.1.cell j (by have h1 := HYL.out; have h2 := HNY.out; have h3 := HK5.out.2; rw [if_pos rfl] at h1; omega)
              cases hko
              have hjn : j < n1 := by have h1 := HYL.out; have h2 := HNY.out; rw [if_pos rfl] at h1; omega
              have e1 : w6.cell? ⟨yb, yf + j, none⟩ = some (.int .i64 (nth ys j)) := by obtain ⟨nn, hnn⟩ := HSJ.out; rw [hnn]; simpa using e1
              have e2 : w6.cell? ⟨kb, kx + j, none⟩ = some (.int .i64 (nth ks j)) := by obtain ⟨nn, hnn⟩ := HSJ.out; rw [hnn]; simpa using e2
              generalize nth ys j = x at e1
              generalize nth ks j = y at e2
              by_cases g1 : 200 < x
              · go_wp2_with fail
                go_ret
                exact yes _ HX6.out
              by_cases g2 : 200 < y
              · go_wp2_with fail
                go_ret
                exact yes _ HX6.out
              go_wp2_with fail
              go_quiet (fail)
              go_wp2_with fail
              go_roundw
              case rel => exact ⟨j + 1, _, by omega, by go_num, rfl, Lib.hid (HSJ.out.trans ⟨_, rfl⟩)⟩
              case measure => simp [intOf]; omega
            · obtain rfl : j = ny := by omega
              cases b5
              all_goals
                go_wp2_with fail
                all_goals
                  go_ret
                  exact yes _ HX6.out
end Go.Proofs.YtipjhdgegfgenaaGreat
