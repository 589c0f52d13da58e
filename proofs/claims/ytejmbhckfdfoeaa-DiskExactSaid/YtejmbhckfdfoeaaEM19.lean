/-
  DiskExact, walked.
-/
import Derived.Test.YtejmbhckfdfoeaaEM18
import Derived.Test.YtejmbhckfdfoeaaEM09
set_option linter.unusedVariables false
set_option linter.unusedSimpArgs false
namespace Go.Proofs.Ytejmbhckfdfoeaa
open Go.RowKit Go.Maps
set_option maxRecDepth 100000 in
set_option maxHeartbeats 4000000 in
theorem exact_any (vf va : Value) (off : Int) (fs : List FileD) (l : List ActD) (w : World) (hf : FilesRd w vf fs) (ha : ActsRd w va l) (hl : fs.length ≤ 140737488351232 ∧ l.length ≤ 140737488351232) (hcap : ActsCap w va) (hob : -9223372036854775808 ≤ off ∧ off ≤ 9223372036854775807) :
    Calls Try.prog 5 #[.agg #[vf, .int .i64 off, va]] w fun e w' => e = .returned (.bool true) ∧ Below w.heap.size w w' := by
  have HF := Lib.hid hf
  have HA := Lib.hid ha
  have HCAP := Lib.hid hcap
  have HOB := Lib.hid hob
  obtain ⟨of_, cf, rfl, hf⟩ := hf
  obtain ⟨oa, ca, rfl, ha⟩ := ha
  have HAF := Lib.hid ha
  clear hf ha hcap hob
  obtain ⟨W1, hW1⟩ : ∃ W1, W1 = (w.alloc (.cells #[.slice of_ fs.length cf, .int .i64 off, .slice oa l.length ca] 25)) := ⟨_, rfl⟩
  have hbx : Box W1 w.heap.size 25 #[.slice of_ fs.length cf, .int .i64 off, .slice oa l.length ca] := by rw [hW1]; exact Box.new _ _ _
  have hb1 : Below w.heap.size w W1 := by rw [hW1]; exact (Below.refl _ _).alloc (Nat.le_refl _) _
  have hz1 : W1.heap.size = w.heap.size + 1 := by rw [hW1]; simp
  have HB1 := Lib.hid hb1
  have HBX := Lib.hid hbx
  have c0 := hbx.cell 0 rfl
  have c1 := hbx.cell 1 rfl
  have c2 := hbx.cell 2 rfl
  rw [hW1] at c0 c1 c2
  have HW1 := Lib.hid hW1
  clear hW1 hb1 hbx
  go_enter Try.func5, Try.ntmps5
  go_wp2_with fail
  rw [← HW1.out] at c0 c1 c2 ⊢
  clear HW1
  refine (heavy32_any _ _ off fs l _ (HF.out.below HB1.out (Nat.le_refl _)) (HA.out.below HB1.out (Nat.le_refl _)) hl).mono ?_
  rintro e w2 ⟨rfl, hb⟩
  have HB2 := Lib.hid (HB1.out.trans (hb.mono HB1.out.size))
  have HBX2 := Lib.hid (HBX.out.next hb)
  have hz2 := hb.size
  clear hb c0 c1 c2 HBX
  cases hhv : heavyB fs l with
  | true =>
    clear hhv
    go_wp2_with fail
    go_ret
    exact ⟨rfl, HB2.out⟩
  | false =>
  have HHV := Lib.hid hhv
  have h100 := (heavyB_no hhv).2.2
  clear hhv
  have c0 := HBX2.out.cell 0 rfl
  go_wp2_with fail
  refine (copyFiles_any _ fs _ (HF.out.below HB2.out (Nat.le_refl _)) (by omega) (heavy_data HHV.out)).mono ?_
  rintro e w4 ⟨⟨v4, ps, rfl, hfo, hps⟩, hb⟩
  have HB4 := Lib.hid (HB2.out.trans (hb.mono HB2.out.size))
  have HBX4 := Lib.hid (HBX2.out.next hb)
  have hz4 := hb.size
  have HFR := Lib.hid (show FilesRd w4 v4 fs by rw [← hps]; exact hfo.files)
  have HFO := Lib.hid hfo
  have hpl : ps.length ≤ 100 := by have := congrArg List.length hps; rw [List.length_map] at this; omega
  have c1 := HBX4.out.cell 1 rfl
  clear hb c0 HBX2 hfo hps
  go_wp2_with fail
  refine (new_any v4 fs off _ HFR.out (by omega) HOB.out).mono ?_
  rintro e w5 ⟨hnew, hb⟩
  have HB5 := Lib.hid (HB4.out.trans (hb.mono HB4.out.size))
  have HBX5 := Lib.hid (HBX4.out.next hb)
  have hz5 := hb.size
  have HFO5 := Lib.hid (HFO.out.next hb)
  have HLOW := Lib.hid (show ∀ (w' : World), OnlyRows v4 ps w5 w' → ∀ k, w4.heap.size ≤ k → k < w5.heap.size → w'.heap[k]? = w5.heap[k]? from
    fun w' h k h1 h2 => h.block k h2 (fun e => by have := (HFO.out.row.lt k e).2; omega) (fun p hp e => by have := ((HFO.out.by_ p hp).lt k e).2; omega))
  clear hb HBX4 HFR HFO c1
  rcases hnew with ⟨hmy, p, bs, bf, s, rfl, hd, hse, hso⟩ | ⟨hmy, rfl⟩
  case inr =>
    --<A
    clear HLOW
    go_wp2_with fail
    refine (spoilFiles_any _ ps w2.heap.size _ HFO5.out (by omega) (by omega)).mono ?_
    rintro e w6 ⟨rfl, hsp⟩
    have hb6 := hsp.below HFO5.out (by omega)
    have HB6 := Lib.hid (HB5.out.trans (hb6.mono HB2.out.size))
    have HBX6 := Lib.hid (HBX5.out.below hb6 (by omega))
    have c0 := HBX6.out.cell 0 rfl
    clear hsp hb6 HB5 HBX5
    go_wp2_with fail
    refine (refMay_any _ fs _ (HF.out.below HB6.out (Nat.le_refl _)) hl.1).mono ?_
    rintro e w7 ⟨rfl, hb⟩
    rw [hmy]
    have HB7 := Lib.hid (HB6.out.trans (hb.below _))
    clear hb c0 HBX6 hmy
    go_wp2_with (go_at_call 10; refine (num32_any _ _).mono ?_; rintro e w' ⟨rfl, rfl⟩)
    refine (wakes32_any _).mono ?_
    rintro e w9 ⟨rfl, hb⟩
    go_wp2_with fail
    go_ret
    exact ⟨rfl, HB7.out.trans (hb.mono HB7.out.size)⟩
    --A>
  case inl =>
  --<B
  have HD5 := Lib.hid hd
  have HSE := Lib.hid hse
  have HSO := Lib.hid hso
  have HMY := Lib.hid hmy
  clear hd hse hso
  go_wp2_with fail
  refine (spoilFiles_any _ ps w2.heap.size _ HFO5.out (by omega) (by omega)).mono ?_
  rintro e w6 ⟨rfl, hsp⟩
  have hb6 := hsp.below HFO5.out (by omega)
  have HD6 := Lib.hid (HD5.out.high HSE.out.chs (HLOW.out _ hsp))
  have HB6 := Lib.hid (HB5.out.trans (hb6.mono HB2.out.size))
  have HBX6 := Lib.hid (HBX5.out.below hb6 (by omega))
  have hz6 := hb6.size
  have c0 := HBX6.out.cell 0 rfl
  clear hsp hb6 HB5 HBX5 HD5 HLOW HFO5
  go_wp2_with fail
  refine (refMay_any _ fs _ (HF.out.below HB6.out (Nat.le_refl _)) hl.1).mono ?_
  rintro e w7 ⟨rfl, hb⟩
  rw [hmy]
  have HB7 := Lib.hid (HB6.out.trans (hb.below _))
  have HBX7 := Lib.hid (HBX6.out.same hb)
  have HD7 := Lib.hid (HD6.out.next (hb.below _) (by omega))
  have hz7 := (hb.below 0).size
  have c0 := HBX7.out.cell 0 rfl
  have c1 := HBX7.out.cell 1 rfl
  clear hb HBX6 HB6 HD6 hmy
  go_wp2_with (go_at_call 10; refine (num32_any _ _).mono ?_; rintro e w' ⟨rfl, rfl⟩)
  refine (rnew_any _ fs off _ (HF.out.below HB7.out (Nat.le_refl _)) HMY.out).mono ?_
  rintro e w8 ⟨⟨r, vl, t, rfl, hr, hst, hto, hris, hin⟩, hb⟩
  obtain ⟨φ, h2⟩ := two_start (HD7.out.next hb (by omega)) (hr.monoB (show w4.heap.size ≤ w7.heap.size by omega)) HSE.out hst HMY.out (by rw [hto, HSO.out]) hris hin
  have HT := Lib.hid (show Two w #[.slice of_ fs.length cf, .int .i64 off, .slice oa l.length ca] w4.heap.size p r 0 w8 from
    ⟨⟨φ, _, _, _, _, _, _, _, _, h2⟩, HBX7.out.next hb, HB7.out.trans (hb.mono HB7.out.size), by omega⟩)
  clear h2 hb hr hst hto hris hin c0 c1 HBX7 HB7 HD7 HSE HSO HMY HB1 HB2 HB4 hz1 hz2 hz4 hz5 hz6 hz7 hpl
  go_wp2_with fail
  go_loopg [7] l.length (fun g i wr => ∃ k : Nat, g = l.length - k ∧ k ≤ l.length ∧ k ≤ 25 ∧ i = .int .i64 k ∧ Two w #[.slice of_ fs.length cf, .int .i64 off, .slice oa l.length ca] w4.heap.size p r k wr)
  case atStart => exact ⟨0, rfl, Nat.zero_le _, by omega, rfl, HT.out⟩
  case round =>
    obtain ⟨k, hg, hk, hk2, rfl, hlk⟩ := hrel
    obtain ⟨w6, rfl⟩ : ∃ w6, w6 = wr := ⟨_, rfl⟩
    have HL6 := Lib.hid hlk
    have c2 := hlk.s.cell 2 rfl
    clear hlk HT
    by_cases hin : k < l.length ∧ k < 25
    · obtain ⟨hlt, h25⟩ := hin
      have hcapk := HCAP.out _ _ _ rfl k hlt
      obtain ⟨⟨b, o1, od, cd, op, cp, rfl, d0, d1, d2, d3, d4, hrd, hrp⟩, hal, hbl, _, _⟩ := (HAF.out k hlt)
      obtain ⟨ad, had⟩ : ∃ ad, ad = anth l k := ⟨_, rfl⟩
      have hpc := hcapk b o1 rfl op _ cp d4
      rw [← had] at d0 d1 d2 d3 d4 hrd hal hbl hrp hpc
      have hdl : ad.da.length + ad.pk.length ≤ 3000 := by
        have h1 := actsTo_mono l (k := k) (n := min l.length 25) (by omega)
        have h2 := (heavyB_no HHV.out).1
        rw [← had] at h1
        omega
      obtain ⟨act, an, bn, da, pk⟩ := ad
      simp only at d0 d1 d2 d3 d4 hrd hal hbl hdl hrp hpc
      have HRW := Lib.hid hrd
      have HPW := Lib.hid hrp
      have HPC := Lib.hid hpc
      have HAL := Lib.hid hal
      have HBL := Lib.hid hbl
      have hto : ∀ {j : Nat} {u : Value}, w.cell? ⟨b, j, none⟩ = some u → w6.cell? ⟨b, j, none⟩ = some u := fun {j u} hc => (HL6.out.b.cell (p := ⟨b, j, none⟩) (cell_lt hc)).trans hc
      replace d0 := hto d0
      replace d1 := hto d1
      replace d2 := hto d2
      replace d3 := hto d3
      replace d4 := hto d4
      clear hrd hal hbl had hrp hpc hcapk hto
      go_wp2_with fail
      refine (does_any HL6.out (by omega) act an bn od op cd cp da pk HRW.out (by omega) HPW.out (by omega) HPC.out HAL.out HBL.out).mono ?_
      rintro e w9 ⟨rfl, ht⟩
      have HT := Lib.hid ht
      clear ht d0 d1 d2 d3 d4 c2 HL6 HRW HPW HPC HAL HBL hdl
      obtain ⟨φ, s9, t9, bs9, bf9, cv9, vs9, vl9, vr9, h9⟩ := HT.out.two
      obtain ⟨m, hm⟩ : ∃ m, m = s9.strokes := ⟨_, rfl⟩
      have h9c := h9.c.strokes
      rw [← hm] at h9c
      have H9 := Lib.hid h9
      have H9C := Lib.hid h9c
      have HMM := Lib.hid hm
      clear h9 h9c hm
      go_wp2_with fail
      refine (strokes_any H9.out.d).mono ?_
      rintro e w10 ⟨rfl, rfl⟩
      rw [← HMM.out]
      go_wp2_with fail
      refine (rstrokes_any H9.out.r).mono ?_
      rintro e w10 ⟨rfl, rfl⟩
      rw [H9C.out]
      go_wp2_with fail
      go_roundg (l.length - (k + 1))
      case measure => omega
      case rel => exact ⟨k + 1, rfl, hlt, h25, by go_num, HT.out⟩
    · have hcase : (k < l.length ∧ ¬ k < 25) ∨ ¬ k < l.length := by omega
      clear hin
      rcases hcase with ⟨hlt, h25⟩ | hlt
      all_goals (
        go_wp2_with fail
        refine (wakes32_any _).mono ?_
        rintro e w9 ⟨rfl, hb⟩
        go_wp2_with fail
        go_ret
        exact ⟨rfl, HL6.out.b.trans (hb.mono HL6.out.b.size)⟩)
  --B>
end Go.Proofs.Ytejmbhckfdfoeaa
