/-
  New, walked at files that may be.
-/
import Derived.Test.YtejmbhckfdfoeaaDNew
import Derived.Carry
set_option linter.unusedVariables false
set_option linter.unusedSimpArgs false
namespace Go.Proofs.Ytejmbhckfdfoeaa
open Go.RowKit Go.Maps
set_option maxRecDepth 100000 in
set_option maxHeartbeats 4000000 in
theorem new_ok (v : Value) (fs : List FileD) (off : Int) (w : World) (hr : FilesRd w v fs) (hok : mayB fs = true) (hoff : -9223372036854775808 ≤ off ∧ off ≤ 9223372036854775807) :
    Calls Try.prog 8 #[v, .int .i64 off] w fun e w' => (∃ p bs bf s, e = .returned (.tuple #[.pointer (some ⟨p, 0, none⟩), .int .i64 0]) ∧ DRepr w.heap.size w' p bs bf (.slice none 0 0) [] s ∧ SeenIs s fs ∧ s.off = off) ∧ Below w.heap.size w w' := by
  have hmay := hok
  rw [mayB, Bool.and_eq_true, decide_eq_true_eq] at hmay
  obtain ⟨h16, hto⟩ := hmay
  obtain ⟨o, cap, rfl, hc⟩ := hr
  have HC := Lib.hid hc
  have HTO := Lib.hid hto
  clear hc hto hok
  have e16 : decide ((16 : Int) < fs.length) = false := decide_eq_false (by omega)
  obtain ⟨W1, hW1⟩ : ∃ W1, W1 = (((w.alloc (.map #[] 0)).alloc (.map #[] 0)).alloc (.cells #[.map (some w.heap.size), .map (some (w.heap.size + 1)), .slice none 0 0, .int .i64 0, .int .i64 off, .bool false] 65)) := ⟨_, rfl⟩
  have hb1 : Below w.heap.size w W1 := by rw [hW1]; exact (((Below.refl _ _).alloc (Nat.le_refl _) _).alloc (by simp) _).alloc (by simp; omega) _
  have HD1 := Lib.hid (show DRepr w.heap.size W1 (w.heap.size + 2) w.heap.size (w.heap.size + 1) (.slice none 0 0) [] (newS off) from by
    refine ⟨?_, ?_, ?_, by omega, World.ownsRow_nil _ _ _ _, fun i c hi => by simp [newS] at hi, fun f hf => by simp [newS] at hf, fun q hq => by simp [newS] at hq, fun q hq => by simp [newS] at hq, fun q hq => by simp [newS] at hq, by omega, Nat.le_refl _, by omega, by simp [newS], hoff, by simp [newS], by simp [newS]⟩
    · rw [hW1]; exact Box.new_at (by simp)
    · rw [hW1]; exact ((MapRep.made w).next ((Below.refl _ _).alloc (Nat.le_refl _) _)).next ((Below.refl _ _).alloc (Nat.le_refl _) _)
    · rw [hW1]
      have := (MapRep.made (w.alloc (.map #[] 0))).next ((Below.refl _ _).alloc (Nat.le_refl _) (.cells #[.map (some w.heap.size), .map (some (w.heap.size + 1)), .slice none 0 0, .int .i64 0, .int .i64 off, .bool false] 65))
      show MapRep _ (w.heap.size + 1) []
      simpa using this)
  have HB1 := Lib.hid hb1
  have HW1 := Lib.hid hW1
  have hmm := @run_makeMap Try.prog
  clear hb1 hW1
  go_enter Try.func8, Try.ntmps8
  go_wp2_with fail
  rw [← HW1.out]
  clear HW1 hmm
  go_loopg [20] fs.length (fun g i wr => ∃ (k : Nat) (s : DSt), g = fs.length - k ∧ k ≤ fs.length ∧ i = .int .i64 k ∧ DRepr w.heap.size wr (w.heap.size + 2) w.heap.size (w.heap.size + 1) (.slice none 0 0) [] s ∧ SeenIs s (fs.take k) ∧ s.off = off ∧ Below w.heap.size w wr)
  case atStart => exact ⟨0, _, rfl, Nat.zero_le _, rfl, HD1.out, ⟨rfl, fun q hq => by simp [newS] at hq, rfl, rfl, rfl, rfl⟩, rfl, HB1.out⟩
  case round =>
    obtain ⟨k, s, hg, hk, rfl, hd, hse, hso, hbw⟩ := hrel
    obtain ⟨w2, rfl⟩ : ∃ w2, w2 = wr := ⟨_, rfl⟩
    have HD2 := Lib.hid hd
    have HSE := Lib.hid hse
    have HSO := Lib.hid hso
    have HB2 := Lib.hid hbw
    have hwz := hbw.size
    clear hd hse hso
    by_cases hlt : k < fs.length
    · have hf := (HC.out k hlt).below hbw (Nat.le_refl _)
      obtain ⟨⟨b, off', od, cd, rfl, c0, c1, hrd⟩, hnl, hdl⟩ := hf
      have hka := okTo_at HTO.out hlt
      simp only [okAt, Bool.and_eq_true, Bool.or_eq_true, decide_eq_true_eq] at hka
      obtain ⟨hgn, hl4, hpv⟩ := hka
      have HP := Lib.hid (fun (h : 0 < k) => (HC.out (k - 1) (by omega)).below hbw (Nat.le_refl _))
      obtain ⟨fd, hfd⟩ : ∃ fd, fd = fnth fs k := ⟨_, rfl⟩
      rw [← hfd] at c0 c1 hrd hnl hdl hgn hl4 hpv
      obtain ⟨nm, da⟩ := fd
      simp only at c0 c1 hrd hnl hdl hgn hl4 hpv
      have HFD := Lib.hid hfd
      have HGN := Lib.hid hgn
      have HNL := Lib.hid hnl
      have HPV := Lib.hid hpv
      obtain ⟨W3, hW3⟩ : ∃ W3, W3 = w2.alloc (.cells #[encStr nm, .slice od da.length cd] 48) := ⟨_, rfl⟩
      have hb23 : Below w2.heap.size w2 W3 := by rw [hW3]; exact (Below.refl _ _).alloc (Nat.le_refl _) _
      have HBX3 := Lib.hid (show Box W3 w2.heap.size 48 #[encStr nm, .slice od da.length cd] by rw [hW3]; exact Box.new _ _ _)
      have HD3 := Lib.hid (HD2.out.next hb23 hwz)
      have HR3 := Lib.hid (hrd.below hb23 (Nat.le_refl _))
      have HB3 := Lib.hid (hbw.trans (hb23.mono hwz))
      have HB23 := Lib.hid hb23
      have hz3 := hb23.size
      have HW3 := Lib.hid hW3
      clear hfd hgn hpv hnl hdl hrd hbw hb23 hW3 HD2
      go_wp2_with fail
      rw [← HW3.out]
      clear HW3 c0 c1
      have t0 := HBX3.out.cell 0 rfl
      have t1 := HBX3.out.cell 1 rfl
      go_cut [49] (fun v wx => v = .bool false ∧ Same W3 wx)
      case first =>
        have e2 : decide ((4194304 : Int) < da.length) = false := decide_eq_false (by omega)
        by_cases h0 : 0 < k
        · have e3 : decide ((0 : Int) < k) = true := decide_eq_true (by omega)
          obtain ⟨j, hj⟩ : ∃ j, k = j + 1 := ⟨k - 1, by omega⟩
          obtain ⟨⟨b', off'', od', cd', he, p0, _, _⟩, _, _⟩ := (HP.out h0).below HB23.out (Nat.le_refl _)
          simp at he
          obtain ⟨rfl, rfl⟩ := he
          rw [show k - 1 = j by omega] at p0
          obtain ⟨pm, hpm⟩ : ∃ pm, pm = (fnth fs j).nm := ⟨_, rfl⟩
          rw [← hpm] at p0
          have hjk : j < fs.length := by omega
          have e4 : IntKind.i64.wrap ((k : Int) - 1) = (j : Int) := by rw [IntWalk.i64_in _ (by omega)]; omega
          have ht1 := nm_toList pm
          have ht2 := nm_toList nm
          have hcmp : Op.bytesLess pm nm = true := by
            rcases HPV.out with hz | hz
            · omega
            · rw [hpm, ← show k - 1 = j from by omega]; exact hz
          clear hpm hj
          go_quiet ((go_at_call 31; exact Calls.quiet_of_same ((diskGood_nm nm _ HNL.out).mono fun e w' ⟨he, hw⟩ => ⟨by rw [he, HGN.out], hw.symm⟩)))
          all_goals (go_wp2_with fail; go_meet; exact ⟨rfl, ⟨_, rfl⟩⟩)
        · have e3 : decide ((0 : Int) < k) = false := decide_eq_false (by omega)
          go_quiet ((go_at_call 31; exact Calls.quiet_of_same ((diskGood_nm nm _ HNL.out).mono fun e w' ⟨he, hw⟩ => ⟨by rw [he, HGN.out], hw.symm⟩)))
          all_goals (go_wp2_with fail; go_meet; exact ⟨rfl, ⟨_, rfl⟩⟩)
      case rest =>
        obtain ⟨rfl, hsm⟩ := hcut
        obtain ⟨w4, rfl⟩ : ∃ w4, w4 = wc := ⟨_, rfl⟩
        have hb34 : Below W3.heap.size W3 w4 := hsm.below _
        have hB3 : w.heap.size ≤ W3.heap.size := by omega
        have HD4 := Lib.hid (HD3.out.next hb34 hB3)
        have HBX4 := Lib.hid (HBX3.out.next hb34)
        have HR4 := Lib.hid (HR3.out.below hb34 (Nat.le_refl _))
        have HB4 := Lib.hid (HB3.out.trans (hb34.mono hB3))
        have hz4 := hb34.size
        clear hsm hb34 HD3 HBX3 HR3 HB3 HP HPV t0 t1
        go_wp2_with fail
        have HX := Lib.hid (show Below w4.heap.size w4 w4.drew from Below.drew (Below.refl _ _))
        have tok1 : True := trivial
        have hB4 : w.heap.size ≤ w4.heap.size := by omega
        go_cut [9] (fun v wx => ∃ f, v = .pointer (some ⟨f, 0, none⟩) ∧ FileRep w.heap.size wx f da da ∧ w4.heap.size ≤ f ∧ Below w4.heap.size w4 wx)
        case first =>
          go_region_held3 (fun w' => w'.cell? ⟨w2.heap.size, 1, none⟩ = some (.slice od da.length cd)) (first | exact (HBX4.out.next HX.out).cell 1 rfl | exact (HBX4.out.next (HX.out.alloc HX.out.size _)).cell 1 rfl)
            (first
            | (go_at_call 32; have _t := tok1; refine (clone_any _ da _ (HR4.out.below HX.out (Nat.le_refl _)) hl4).mono ?_; rintro e wz1 ⟨vz1, rfl, hz1, hbz1⟩; obtain ⟨oz1, kz1, rfl⟩ := rd_slice hz1.rd; have HZA := Lib.hid hz1; have hzs1 := HX.out.size; have HX := Lib.hid (HX.out.trans (hbz1.mono HX.out.size)); clear hz1 hbz1 tok1)
            | (go_at_call 32; refine (clone_any _ da _ (HR4.out.below HX.out (Nat.le_refl _)) hl4).mono ?_; rintro e wz2 ⟨vz2, rfl, hz2, hbz2⟩; obtain ⟨oz2, kz2, rfl⟩ := rd_slice hz2.rd; have HZB := Lib.hid hz2; have HZA2 := Lib.hid (HZA.out.step (Step.of_below (B := 0) hbz2 (Nat.zero_le _))); have hzs2 := HX.out.size; have HX := Lib.hid (HX.out.trans (hbz2.mono HX.out.size)); clear hz2 hbz2))
          all_goals (go_wp2_with fail; go_meet)
          have hal : Below wz2.heap.size wz2 (wz2.alloc (.cells #[.slice oz1 da.length kz1, .slice oz2 da.length kz2] 68)) := (Below.refl _ _).alloc (Nat.le_refl _) _
          have hx2 := HX.out.size
          exact ⟨wz2.heap.size, rfl, ⟨⟨_, _, Box.new _ _ _, (HZA2.out.step (Step.of_below (B := 0) hal (Nat.zero_le _))).mono (show w.heap.size ≤ w4.drew.heap.size from hB4), (HZB.out.step (Step.of_below (B := 0) hal (Nat.zero_le _))).mono (by omega)⟩, by omega⟩, hx2, HX.out.alloc hx2 _⟩
        case rest =>
          obtain ⟨f, rfl, hfr, hfl, hb45⟩ := hcut
          obtain ⟨w5, rfl⟩ : ∃ w5, w5 = wc := ⟨_, rfl⟩
          have HD5 := Lib.hid ((HD4.out.next hb45 hB4).add hfr (fun hm => by have := HD4.out.idLt hm; omega))
          have HFN := Lib.hid (show ∀ q ∈ s.seen, q.2 ≠ f from fun q hq e => by have := HD4.out.idLt (HD4.out.in1 q hq); omega)
          have HB5 := Lib.hid (HB4.out.trans (hb45.mono hB4))
          have HBX5 := Lib.hid (HBX4.out.next hb45)
          have hz5 := hb45.size
          clear hb45 hfr HD4 HB4 HBX4 HR4 HX tok1
          have HLT := Lib.hid (show ∀ q ∈ s.seen, q.1 < nm from by have := HSE.out.below_next HTO.out hlt; rw [← HFD.out] at this; exact this)
          have HLE := Lib.hid (show s.seen.length = k from by rw [HSE.out.length, List.length_take]; omega)
          have hln : s.seen.length < maxLen := by have := HLE.out; unfold maxLen; omega
          have hd6 : DRepr w.heap.size w5.drew (w.heap.size + 2) w.heap.size (w.heap.size + 1) (.slice none 0 0) [] (addS s f da da) := HD5.out.next (Below.drew (Below.refl _ _)) (by omega)
          obtain ⟨v0, st0, wa, wb, r1, r2, hma, hga, hgb⟩ := hd6.seen.entry nm HNL.out f hln
          obtain ⟨hd7, hs7⟩ := hd6.mapped hma hgb (fun q hq => by
            rcases lput_mem hq with rfl | hq
            · exact List.mem_cons_self ..
            · exact hd6.in1 q hq) (fun q hq => by
            rcases lput_mem hq with rfl | hq
            · exact HNL.out
            · exact hd6.nm1 q hq) (by
            show (lput s.seen nm f).length ≤ _
            rw [lput_last HLT.out]; have := HLE.out; simp; omega)
          obtain ⟨v1, st1, wc', wd, r3, r4, hmb, hgc, hgd⟩ := hd7.safe.entry nm HNL.out f (by show s.safe.length < _; rw [HSE.out.safe]; exact hln)
          obtain ⟨hd8, hs8⟩ := hd7.mappedSafe hmb hgd (fun q hq => by
            rcases lput_mem hq with rfl | hq
            · exact List.mem_cons_self ..
            · exact hd6.in2 q hq)
          have c0 := HD5.out.box.cell 0 rfl
          have c1 := HD5.out.box.cell 1 rfl
          have t0 := HBX5.out.cell 0 rfl
          have hbn6 : Box w5.drew w2.heap.size 48 #[encStr nm, .slice od da.length cd] := HBX5.out.next (Below.drew (Below.refl _ _))
          have hbna := box_grown hbn6 hd6.seen hga
          have hbnb := box_grown hbn6 hd6.seen hgb
          have hbnc := box_grown hbnb hd7.safe hgc
          have hbpa := box_grown hd6.box hd6.seen hga
          have hbpc := box_grown hd7.box hd7.safe hgc
          have ta := hbna.cell 0 rfl
          have tb := hbnb.cell 0 rfl
          have tc := hbnc.cell 0 rfl
          have ca0 := hbpa.cell 0 rfl
          have ca1 := hbpa.cell 1 rfl
          have cb0 := hd7.box.cell 0 rfl
          have cb1 := hd7.box.cell 1 rfl
          have cc0 := hbpc.cell 0 rfl
          have cc1 := hbpc.cell 1 rfl
          clear hbn6 hbna hbnb hbnc hbpa hbpc
          have HD8 := Lib.hid hd8
          have HS8 := Lib.hid (hs7.trans hs8)
          clear hd6 hd7 hs7 hd8 hs8 hma hga hgb hmb hgc hgd HBX5
          go_wp2_with fail
          go_region
          have HBE := Lib.hid ((HB5.out.drew).trans HS8.out.below)
          have HSE8 := Lib.hid (HSE.out.enter (fnth fs k) f HFN.out (by rw [← HFD.out]; exact HLT.out))
          rw [← HFD.out, ] at HSE8
          clear c0 c1 t0 ta tb tc ca0 ca1 cb0 cb1 cc0 cc1 r1 r2 r3 r4
          have e5 : IntKind.i64.wrap ((k : Int) + 1) = ((k + 1 : Nat) : Int) := by rw [IntWalk.i64_in _ (by omega)]; omega
          go_wp2_with fail
          go_roundg (fs.length - (k + 1))
          case measure => omega
          case rel => exact ⟨k + 1, enterS s nm f da, rfl, hlt, rfl, HD8.out, by rw [take_fnth fs k hlt, ← HFD.out]; exact HSE8.out, HSO.out, HBE.out⟩
    · have hke : k = fs.length := by omega
      subst hke
      have HSF := HSE.out
      rw [List.take_length] at HSF
      have HSE2 := Lib.hid HSF
      clear HSE HSF
      go_wp2_with fail
      go_ret2
      exact ⟨⟨_, _, _, s, rfl, HD2.out, HSE2.out, HSO.out⟩, HB2.out⟩
end Go.Proofs.Ytejmbhckfdfoeaa
