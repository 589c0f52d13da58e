/-
  DiskNames, walked.
-/
import Derived.Test.YtejmbhckfdfoeaaDLawS
set_option linter.unusedVariables false
set_option linter.unusedSimpArgs false
namespace Go.Proofs.Ytejmbhckfdfoeaa
open Go.RowKit Go.Maps
set_option maxRecDepth 100000 in
set_option maxHeartbeats 4000000 in
theorem names_any (vf va : Value) (off : Int) (fs : List FileD) (l : List ActD) (w : World) (hf : FilesRd w vf fs) (ha : ActsRd w va l) (hl : fs.length ≤ 140737488351232 ∧ l.length ≤ 140737488351232) :
    Calls Try.prog 3 #[.agg #[vf, .int .i64 off, va]] w fun e w' => e = .returned (.bool true) ∧ Below w.heap.size w w' := by
  have HF := Lib.hid hf
  have HA := Lib.hid ha
  obtain ⟨of_, cf, rfl, hf⟩ := hf
  obtain ⟨oa, ca, rfl, ha⟩ := ha
  have HAF := Lib.hid ha
  clear hf ha
  obtain ⟨W1, hW1⟩ : ∃ W1, W1 = (w.alloc (.cells #[.slice of_ fs.length cf, .int .i64 off, .slice oa l.length ca] 25)) := ⟨_, rfl⟩
  have hbx : Box W1 w.heap.size 25 #[.slice of_ fs.length cf, .int .i64 off, .slice oa l.length ca] := by rw [hW1]; exact Box.new _ _ _
  have hb1 : Below w.heap.size w W1 := by rw [hW1]; exact (Below.refl _ _).alloc (Nat.le_refl _) _
  have hz1 : W1.heap.size = w.heap.size + 1 := by rw [hW1]; simp
  have HB1 := Lib.hid hb1
  have HBX := Lib.hid hbx
  have c0 := hbx.cell 0 rfl
  have c1 := hbx.cell 1 rfl
  have c2 := hbx.cell 2 rfl
  rw [hW1] at c0 c1 c2
  have HW1 := Lib.hid hW1
  clear hW1 hb1 hbx
  go_enter Try.func3, Try.ntmps3
  go_wp2_with fail
  rw [← HW1.out] at c0 c1 c2 ⊢
  clear HW1
  refine (heavy32_any _ _ off fs l _ (HF.out.below HB1.out (Nat.le_refl _)) (HA.out.below HB1.out (Nat.le_refl _)) hl).mono ?_
  rintro e w2 ⟨rfl, hb⟩
  have HB2 := Lib.hid (HB1.out.trans (hb.mono HB1.out.size))
  have HBX2 := Lib.hid (HBX.out.next hb)
  have hz2 := hb.size
  clear hb c0 c1 c2 HBX
  cases hhv : heavyB fs l with
  | true =>
    clear hhv
    go_wp2_with fail
    go_ret
    exact ⟨rfl, HB2.out⟩
  | false =>
  have HHV := Lib.hid hhv
  clear hhv
  have c0 := HBX2.out.cell 0 rfl
  have c2 := HBX2.out.cell 2 rfl
  go_wp2_with fail
  refine (refMay_any _ fs _ (HF.out.below HB2.out (Nat.le_refl _)) hl.1).mono ?_
  rintro e w3 ⟨rfl, hb⟩
  have HB3 := Lib.hid (HB2.out.trans (hb.below _))
  have HBX3 := Lib.hid (HBX2.out.same hb)
  have hz3 := (hb.below 0).size
  clear hb c0 c2 HBX2 HB2 HB1
  cases hmy : mayB fs with
  | false =>
    clear hmy
    go_wp2_with fail
    go_ret
    exact ⟨rfl, HB3.out⟩
  | true =>
  have HMY := Lib.hid hmy
  clear hmy
  have c0 := HBX3.out.cell 0 rfl
  have c2 := HBX3.out.cell 2 rfl
  by_cases h10 : 10 < fs.length
  · have e10 : decide ((10 : Int) < fs.length) = true := decide_eq_true (by omega)
    go_wp2_with fail
    go_ret
    exact ⟨rfl, HB3.out⟩
  have e10 : decide ((10 : Int) < fs.length) = false := decide_eq_false (by omega)
  go_wp2_with fail
  refine (copyFiles_any _ fs _ (HF.out.below HB3.out (Nat.le_refl _)) (by omega) (mayB_data HMY.out)).mono ?_
  rintro e w4 ⟨⟨v4, ps, rfl, hfo, hps⟩, hb⟩
  have HB4 := Lib.hid (HB3.out.trans (hb.mono HB3.out.size))
  have HBX4 := Lib.hid (HBX3.out.next hb)
  have hz4 := hb.size
  have HFR := Lib.hid (show FilesRd w4 v4 fs by rw [← hps]; exact hfo.files)
  clear hb c0 c2 HBX3 HB3 hfo hps e10
  go_wp2_with fail
  refine (new_ok v4 fs 0 _ HFR.out HMY.out ⟨by omega, by omega⟩).mono ?_
  rintro e w5 ⟨⟨p, bs, bf, s, rfl, hd, hse, hso⟩, hb⟩
  have HB5 := Lib.hid (HB4.out.trans (hb.mono HB4.out.size))
  have HBX5 := Lib.hid (HBX4.out.next hb)
  have HD5 := Lib.hid hd
  have HL5 := Lib.hid (hse.lim hso (by omega))
  have hz5 := hb.size
  clear hb hd hse hso HBX4 HB4 HFR
  go_wp2_with (go_at_call 10; refine (num32_any _ _).mono ?_; rintro e w' ⟨rfl, rfl⟩)
  have hB : w.heap.size < w4.heap.size := by omega
  have HHB := Lib.hid (show w.heap.size < w4.heap.size from hB)
  clear hz1 hz2 hz3 hz4 hz5
  go_loopg [5] l.length (fun g i wr => ∃ (k : Nat) (cv : Value) (vs : List Value) (s : DSt), g = l.length - k ∧ k ≤ l.length ∧ k ≤ 25 ∧ i = .int .i64 k ∧ DRepr w4.heap.size wr p bs bf cv vs s ∧ Lim s (4 * k) ∧
    Box wr w.heap.size 25 #[.slice of_ fs.length cf, .int .i64 off, .slice oa l.length ca] ∧ Below w.heap.size w wr)
  case atStart => exact ⟨0, _, _, s, rfl, Nat.zero_le _, by omega, rfl, HD5.out, HL5.out, HBX5.out, HB5.out⟩
  case round =>
    obtain ⟨k, cv, vs, s, hg, hk, hk2, rfl, hd, hlm, hbx, hbw⟩ := hrel
    obtain ⟨w6, rfl⟩ : ∃ w6, w6 = wr := ⟨_, rfl⟩
    have HD6 := Lib.hid hd
    have HL6 := Lib.hid hlm
    have HBX6 := Lib.hid hbx
    have HB6 := Lib.hid hbw
    have c2 := hbx.cell 2 rfl
    clear hd hlm hbx hbw HD5 HL5 HBX5 HB5
    by_cases hin : k < l.length ∧ k < 25
    · obtain ⟨hlt, h25⟩ := hin
      obtain ⟨⟨b, o1, od, cd, op, cp, rfl, d0, d1, d2, d3, d4, hrd, _⟩, hal, hbl, _, _⟩ := (HAF.out k hlt).below HB6.out (Nat.le_refl _)
      obtain ⟨ad, had⟩ : ∃ ad, ad = anth l k := ⟨_, rfl⟩
      rw [← had] at d0 d1 d2 d3 d4 hrd hal hbl
      have hdl : ad.da.length ≤ 3000 := by
        have h1 := actsTo_mono l (k := k) (n := min l.length 25) (by omega)
        have h2 := (heavyB_no HHV.out).1
        rw [← had] at h1
        omega
      obtain ⟨act, an, bn, da, pk⟩ := ad
      simp only at d0 d1 d2 d3 d4 hrd hal hbl hdl
      have HRD := Lib.hid hrd
      have HRW := Lib.hid (show Rd w .u8 (.slice od da.length cd) da by
        obtain ⟨⟨b', o1', od', cd', op', cp', he, _, _, _, d3', _, hr', _⟩, _⟩ := HAF.out k hlt
        cases he
        have h3 := (HB6.out.cell (p := ⟨b, o1 + k * 5 + 3, none⟩) (cell_lt d3')).trans d3'
        rw [d3, ← had] at h3
        cases h3
        rw [← had] at hr'
        exact hr')
      have HAL := Lib.hid hal
      have HBL := Lib.hid hbl
      clear hrd hal hbl had
      go_wp2_with fail
      obtain ⟨w7, hw7⟩ : ∃ w7, w7 = w6.alloc (.cells #[.int .i64 act, .string ⟨an.toArray⟩, .string ⟨bn.toArray⟩, .slice od da.length cd, .slice op pk.length cp] 37) := ⟨_, rfl⟩
      rw [← hw7]
      have HM := Lib.hid (show LawAt w #[.slice of_ fs.length cf, .int .i64 off, .slice (some ⟨b, o1, none⟩) l.length ca] w4.heap.size p bs bf w6.heap.size #[.int .i64 act, .string ⟨an.toArray⟩, .string ⟨bn.toArray⟩, .slice od da.length cd, .slice op pk.length cp] s w7 by
        have hb : Below w6.heap.size w6 w7 := by rw [hw7]; exact (Below.refl _ _).alloc (Nat.le_refl _) _
        exact ⟨⟨cv, vs, HD6.out.next hb (Nat.le_of_lt HD6.out.baseLt)⟩, by rw [hw7]; exact Box.new _ _ _, HBX6.out.next hb, HB6.out.trans (hb.mono HB6.out.size), HHB.out⟩)
      clear hw7 d0 d1 d2 d3 d4 c2 HD6 HBX6 HB6 HRD
      refine (refName_nm an _ HAL.out).mono ?_
      rintro e w' ⟨rfl, rfl⟩
      cases hga : goodNm an with
      | false =>
        --<A
        clear hga
        go_wp2_with fail
        obtain ⟨cvE, vsE, hdE⟩ := HM.out.d
        go_roundg (l.length - (k + 1))
        case measure => omega
        case rel => exact ⟨k + 1, cvE, vsE, _, rfl, hlt, h25, by go_num, hdE, HL6.out.mono (by omega), HM.out.s, HM.out.b⟩
        --A>
      | true =>
      have HGA := Lib.hid hga
      clear hga
      have a1 := HM.out.a.cell 1 rfl
      have a2 := HM.out.a.cell 2 rfl
      go_wp2_with fail
      refine (refName_nm bn _ HBL.out).mono ?_
      rintro e w' ⟨rfl, rfl⟩
      cases hgb : goodNm bn with
      | false =>
        --<B
        clear hgb a1 a2
        go_wp2_with fail
        obtain ⟨cvE, vsE, hdE⟩ := HM.out.d
        go_roundg (l.length - (k + 1))
        case measure => omega
        case rel => exact ⟨k + 1, cvE, vsE, _, rfl, hlt, h25, by go_num, hdE, HL6.out.mono (by omega), HM.out.s, HM.out.b⟩
        --B>
      | true =>
      have HGB := Lib.hid hgb
      clear hgb
      cases hab : (an == bn) with
      | true =>
        --<C
        go_wp2_with fail
        clear a1 a2 hab
        obtain ⟨cvE, vsE, hdE⟩ := HM.out.d
        go_roundg (l.length - (k + 1))
        case measure => omega
        case rel => exact ⟨k + 1, cvE, vsE, _, rfl, hlt, h25, by go_num, hdE, HL6.out.mono (by omega), HM.out.s, HM.out.b⟩
        --C>
      | false =>
      go_wp2_with fail
      clear a1 a2
      have HAB := Lib.hid (show an ≠ bn by simpa using hab)
      clear hab
      obtain ⟨cv7, vs7, hd7⟩ := HM.out.d
      refine (callsIn_wide.1 (list_in hd7 HL6.out.dead)).mono ?_
      rintro e w8 ⟨⟨v8, ps8, rfl, hfo, hps⟩, hb⟩
      clear hd7
      obtain ⟨a8, k8, rfl⟩ := own_slice hfo.row
      have hn8 : ps8.length = s.seen.length := by have := congrArg List.length hps; simpa using this
      have hn16 : ps8.length ≤ 16 := by rw [hn8]; exact HL6.out.many
      have HM8 := Lib.hid (HM.out.next hb)
      have HN8 := Lib.hid hn8
      clear hfo hps hb hn8 HM
      have e16 : decide ((16 : Int) < ps8.length) = false := decide_eq_false (by omega)
      by_cases h15 : 15 ≤ ps8.length
      · have e17 : decide ((16 : Int) ≤ ps8.length + 1) = true := decide_eq_true (by omega)
        go_wp2_with (go_at_call 10; refine (num32_any _ _).mono ?_; rintro e w' ⟨rfl, rfl⟩)
        refine (wakes32_any _).mono ?_
        rintro e w9 ⟨rfl, hb⟩
        go_wp2_with fail
        go_ret
        exact ⟨rfl, HM8.out.b.trans (hb.mono HM8.out.b.size)⟩
      have e17 : decide ((16 : Int) ≤ ps8.length + 1) = false := decide_eq_false (by omega)
      go_wp2_with (go_at_call 10; refine (num32_any _ _).mono ?_; rintro e w' ⟨rfl, rfl⟩)
      have HX := Lib.hid (show LawAt w #[.slice of_ fs.length cf, .int .i64 off, .slice (some ⟨b, o1, none⟩) l.length ca] w4.heap.size p bs bf w6.heap.size #[.int .i64 act, .string ⟨an.toArray⟩, .string ⟨bn.toArray⟩, .slice od da.length cd, .slice op pk.length cp] s w8.drew from HM8.out.same ⟨1, rfl⟩)
      have h14 : s.seen.length ≤ 14 := by have := HN8.out; omega
      clear e16 e17
      go_cut [9] (fun v wx => v = .int .i64 0 ∧ ∃ f, LawAt w #[.slice of_ fs.length cf, .int .i64 off, .slice (some ⟨b, o1, none⟩) l.length ca] w4.heap.size p bs bf w6.heap.size #[.int .i64 act, .string ⟨an.toArray⟩, .string ⟨bn.toArray⟩, .slice od da.length cd, .slice op pk.length cp] (writeS (strokeS s) an f da) wx)
      case first =>
        go_region_held3 (fun w' => w'.cell? ⟨w6.heap.size, 1, none⟩ = some (.string ⟨an.toArray⟩) ∧ w'.cell? ⟨w6.heap.size, 3, none⟩ = some (.slice od da.length cd)) (exact ⟨HX.out.a.cell 1 rfl, HX.out.a.cell 3 rfl⟩)
          (first
          | (go_at_call 14; refine (copyBytes_any _ da _ (HRW.out.below HX.out.b (Nat.le_refl _)) (by omega)).mono ?_; rintro e wy ⟨vy, rfl, hoy, hby⟩; obtain ⟨ay, ky, rfl⟩ := own_slice hoy; have HBY := Lib.hid (BytesRep.own hoy (by omega)); have HX := Lib.hid (HX.out.next hby); clear hoy hby)
          | (go_at_call 13; obtain ⟨cvx, vsx, hdx⟩ := HX.out.d; have hlst := HL6.out.st; have hlch := HL6.out.ch; refine (write_ok an _ da hdx HGA.out (HBY.out.mono (Nat.zero_le _)) HL6.out.dead (fun h => by omega) (by omega) (by omega) (by omega)).mono ?_; rintro e wz ⟨rfl, ⟨fx, cvz, vsz, hdz, hfz⟩, hsz⟩; rw [show toldI (offB s) = 0 from by rw [offB_zero HL6.out.off]; rfl]; have HX := Lib.hid (HX.out.step hsz ⟨cvz, vsz, hdz⟩); clear hdx hdz hsz hlst hlch))
        all_goals (go_wp2_with fail; go_meet)
        all_goals exact ⟨rfl, _, HX.out⟩
      case rest =>
        obtain ⟨rfl, f, hm9⟩ := hcut
        obtain ⟨w9, rfl⟩ : ∃ w9, w9 = wc := ⟨_, rfl⟩
        have HM9 := Lib.hid hm9
        clear hm9 HX
        have HL9 := Lib.hid (HL6.out.write (by obtain ⟨cvx, vsx, hdx⟩ := HM8.out.d; exact hdx.seen.ris) (by omega) an f da)
        have HG9 := Lib.hid (show lget (writeS (strokeS s) an f da).seen an = some f from by obtain ⟨cvx, vsx, hdx⟩ := HM8.out.d; exact lget_put_same hdx.seen.ris an f)
        have HY9 := Lib.hid (show (writeS (strokeS s) an f da).by_ f = da from by simp [writeS, chgS, addS, updF])
        have HN9 := Lib.hid (show (writeS (strokeS s) an f da).seen.length ≤ 15 from by
          obtain ⟨cvx, vsx, hdx⟩ := HM8.out.d
          show (lput s.seen an f).length ≤ 15
          rw [lput_length hdx.seen.ris]
          split <;> omega)
        clear HM8 HN8 h14 h15 hn16 HL6
        generalize writeS (strokeS s) an f da = s9 at HM9 HL9 HG9 HY9 HN9
        have a1 := HM9.out.a.cell 1 rfl
        go_wp2_with (go_at_call 10; refine (num32_any _ _).mono ?_; rintro e w' ⟨rfl, rfl⟩)
        obtain ⟨cv9, vs9, hd9⟩ := HM9.out.d
        refine (read_ok an f hd9 HGA.out HL9.out.dead HG9.out).mono ?_
        rintro e w10 ⟨⟨v10, rfl, hbr⟩, hb⟩
        rw [HY9.out] at hbr
        obtain ⟨o10, k10, he10⟩ := rd_slice hbr.rd
        subst he10
        have HR10 := Lib.hid hbr.rd
        have HM10 := Lib.hid (HM9.out.next hb)
        clear hbr hb hd9 a1 HM9
        have a1 := HM10.out.a.cell 1 rfl
        have a2 := HM10.out.a.cell 2 rfl
        have a3 := HM10.out.a.cell 3 rfl
        go_wp2_with (go_at_call 10; refine (num32_any _ _).mono ?_; rintro e w' ⟨rfl, rfl⟩)
        refine (eqBytes_any _ _ da da _ HR10.out (HRW.out.below HM10.out.b (Nat.le_refl _)) (by omega)).mono ?_
        rintro e w11 ⟨rfl, hs⟩
        rw [decide_eq_true rfl]
        have HM11 := Lib.hid (HM10.out.same hs)
        clear hs a1 a2 a3 HM10 HR10
        have a1 := HM11.out.a.cell 1 rfl
        have a2 := HM11.out.a.cell 2 rfl
        go_wp2_with fail
        obtain ⟨cv11, vs11, hd11⟩ := HM11.out.d
        have hlst := HL9.out.st
        have hlch := HL9.out.ch
        have hln := HN9.out
        refine (rename_ok an bn f hd11 HGA.out HGB.out HL9.out.dead HG9.out (by omega) (by omega) (by omega)).mono ?_
        rintro e w12 ⟨rfl, ⟨cv12, vs12, hd12⟩, hs12⟩
        rw [show toldI (offB s9) = 0 from by rw [offB_zero HL9.out.off]; rfl]
        have HM12 := Lib.hid (HM11.out.step hs12 ⟨cv12, vs12, hd12⟩)
        have hris := hd11.seen.ris
        have HG12 := Lib.hid (show lget (chgS (strokeS s9) (.mv an bn f)).seen an = none from (lget_put_other (hris.del an) HAB.out f).trans (lget_del_same s9.seen an))
        have HK12 := Lib.hid (show lget (chgS (strokeS s9) (.mv an bn f)).seen bn = some f from lget_put_same (hris.del an) bn f)
        have HY12 := Lib.hid (show (chgS (strokeS s9) (.mv an bn f)).by_ f = da from HY9.out)
        have HL12 := Lib.hid (HL9.out.rename hris hln an bn f)
        clear hd11 hlst hlch hln hd12 hs12 hris a1 a2 HM11 HL9 HG9 HY9 HN9
        generalize chgS (strokeS s9) (.mv an bn f) = s12 at HM12 HG12 HK12 HY12 HL12
        have a1 := HM12.out.a.cell 1 rfl
        go_wp2_with (go_at_call 10; refine (num32_any _ _).mono ?_; rintro e w' ⟨rfl, rfl⟩)
        obtain ⟨cvA, vsA, hdA⟩ := HM12.out.d
        refine (read_no an hdA HGA.out HL12.out.dead HG12.out).mono ?_
        rintro e w' ⟨rfl, rfl⟩
        clear a1
        have a2 := HM12.out.a.cell 2 rfl
        go_wp2_with fail
        refine (read_ok bn f hdA HGB.out HL12.out.dead HK12.out).mono ?_
        rintro e w13 ⟨⟨v13, rfl, hbr⟩, hb⟩
        rw [HY12.out] at hbr
        obtain ⟨o13, k13, he13⟩ := rd_slice hbr.rd
        subst he13
        have HR13 := Lib.hid hbr.rd
        have HM13 := Lib.hid (HM12.out.next hb)
        clear hbr hb hdA a2 HM12
        have a3 := HM13.out.a.cell 3 rfl
        go_wp2_with (go_at_call 10; refine (num32_any _ _).mono ?_; rintro e w' ⟨rfl, rfl⟩)
        refine (eqBytes_any _ _ da da _ HR13.out (HRW.out.below HM13.out.b (Nat.le_refl _)) (by omega)).mono ?_
        rintro e w14 ⟨rfl, hs⟩
        rw [decide_eq_true rfl]
        have HM14 := Lib.hid (HM13.out.same hs)
        clear hs a3 HM13 HR13
        go_wp2_with fail
        obtain ⟨cvB, vsB, hdB⟩ := HM14.out.d
        refine (callsIn_wide.1 (list_in hdB HL12.out.dead)).mono ?_
        rintro e w15 ⟨⟨v15, ps15, rfl, hfo, hps⟩, hb⟩
        obtain ⟨a15, k15, rfl⟩ := own_slice hfo.row
        have hn15 : ps15.length = s12.seen.length := by have := congrArg List.length hps; simpa using this
        have hn16 : ps15.length ≤ 16 := by rw [hn15]; exact HL12.out.many
        have HFL := Lib.hid (show FilesRd w15 (.slice a15 ps15.length k15) (s12.seen.map (fdOf s12)) by rw [← hps]; exact hfo.files)
        have HN15 := Lib.hid hn15
        have HRS := Lib.hid hdB.seen.ris
        have HM15 := Lib.hid (HM14.out.next hb)
        clear hfo hps hb hn15 hdB HM14
        go_wp2_with fail
        go_loopg [18] ps15.length (fun g i wr => ∃ n : Nat, g = ps15.length + 1 - n ∧ 1 ≤ n ∧ n ≤ ps15.length + 1 ∧ i = .int .i64 n ∧ Same w15 wr)
        case atStart => exact ⟨1, by omega, by omega, by omega, rfl, Same.refl _⟩
        case round =>
          obtain ⟨n, hg15, hn1, hn2, rfl, hsm⟩ := hrel
          obtain ⟨w16, rfl⟩ : ∃ w16, w16 = wr := ⟨_, rfl⟩
          have HSM := Lib.hid hsm
          clear hsm
          by_cases hnl : n < ps15.length
          · obtain ⟨j, hj⟩ : ∃ j, n = j + 1 := ⟨n - 1, by omega⟩
            obtain ⟨o', cap', he', hfl⟩ := (HFL.out.same HSM.out)
            simp at he'
            obtain ⟨rfl, hle, rfl⟩ := he'
            have hl2 : (s12.seen.map (fdOf s12)).length = ps15.length := by rw [List.length_map]; exact hle.symm
            obtain ⟨⟨b1, f1, od1, cd1, he1, p0, _, _⟩, _, _⟩ := hfl j (by omega)
            obtain ⟨⟨b2, f2, od2, cd2, he2, q0, _, _⟩, _, _⟩ := hfl n (by omega)
            subst he1
            simp at he2
            obtain ⟨rfl, rfl⟩ := he2
            have hlt2 := seen_rise HRS.out (show j < n by omega) (show n < s12.seen.length by omega)
            obtain ⟨pm, hpm⟩ : ∃ pm, pm = (fnth (s12.seen.map (fdOf s12)) j).nm := ⟨_, rfl⟩
            obtain ⟨qm, hqm⟩ : ∃ qm, qm = (fnth (s12.seen.map (fdOf s12)) n).nm := ⟨_, rfl⟩
            rw [← hpm] at p0
            rw [← hqm] at q0
            rw [← hpm, ← hqm] at hlt2
            have e4 : IntKind.i64.wrap ((n : Int) - 1) = (j : Int) := by rw [IntWalk.i64_in _ (by omega)]; omega
            have ht1 := nm_toList pm
            have ht2 := nm_toList qm
            have hcmp : Op.bytesLess pm qm = true := by rw [bytesLess_eq, decide_eq_true_eq]; exact hlt2
            have hjl : j < ps15.length := by omega
            have HJ := Lib.hid hj
            clear hfl hpm hqm hlt2 hj hl2 hle
            go_wp2_with fail
            go_cut [185] (fun v wx => v = .bool false ∧ Same w16 wx)
            case first =>
              go_quiet (fail)
              all_goals (go_wp2_with fail; go_meet; exact ⟨rfl, ⟨_, rfl⟩⟩)
            case rest =>
              obtain ⟨rfl, hs⟩ := hcut
              have HS2 := Lib.hid (HSM.out.trans hs)
              clear hs p0 q0 e4 ht1 ht2 hcmp
              go_wp2_with fail
              go_roundg (ps15.length + 1 - (n + 1))
              case measure => omega
              case rel => exact ⟨n + 1, by omega, by omega, by omega, by go_num, HS2.out⟩
          · have HM16 := Lib.hid (HM15.out.same HSM.out)
            have HFL16 := Lib.hid (HFL.out.same HSM.out)
            have HSL := Lib.hid (show (s12.seen.map (fdOf s12)).length ≤ 140737488351232 by have := HN15.out; simp; omega)
            have a2 := HM16.out.a.cell 2 rfl
            have a1 := HM16.out.a.cell 1 rfl
            clear HM15 HFL HSM
            go_wp2_with (go_at_call 10; refine (num32_any _ _).mono ?_; rintro e w' ⟨rfl, rfl⟩)
            refine (there32_any _ _ bn _ HFL16.out HSL.out).mono ?_
            rintro e w' ⟨rfl, rfl⟩
            rw [there_seen, HK12.out, show (some f).isSome = true from rfl]
            go_wp2_with fail
            refine (there32_any _ _ an _ HFL16.out HSL.out).mono ?_
            rintro e w' ⟨rfl, rfl⟩
            rw [there_seen, HG12.out, show (none : Option Nat).isSome = false from rfl]
            have a0 := HM16.out.a.cell 0 rfl
            go_wp2_with fail
            refine (within_any act 2 ⟨by omega, by omega⟩ _).mono ?_
            rintro e w' ⟨rfl, rfl⟩
            clear a0 a1
            by_cases hwi : withinI act 2 = 0
            · rw [hwi]
              clear hwi
              go_wp2_with fail
              obtain ⟨cvC, vsC, hdC⟩ := HM16.out.d
              have hlst := HL12.out.st
              have hlch := HL12.out.ch
              refine (remove_ok bn f hdC HGB.out HL12.out.dead HK12.out (by omega) (by omega)).mono ?_
              rintro e w17 ⟨rfl, ⟨cv17, vs17, hd17⟩, hs17⟩
              rw [show toldI (offB s12) = 0 from by rw [offB_zero HL12.out.off]; rfl]
              have HM17 := Lib.hid (HM16.out.step hs17 ⟨cv17, vs17, hd17⟩)
              have HG17 := Lib.hid (show lget (chgS (strokeS s12) (.del bn)).seen bn = none from lget_del_same s12.seen bn)
              have HL17 := Lib.hid (HL12.out.remove bn)
              clear hdC hlst hlch hd17 hs17 a2 HM16 HL12
              generalize chgS (strokeS s12) (.del bn) = s17 at HM17 HG17 HL17
              have a2 := HM17.out.a.cell 2 rfl
              go_wp2_with (go_at_call 10; refine (num32_any _ _).mono ?_; rintro e w' ⟨rfl, rfl⟩)
              obtain ⟨cvD, vsD, hdD⟩ := HM17.out.d
              have hlst := HL17.out.st
              have hlch := HL17.out.ch
              refine (remove_no bn hdD HGB.out HL17.out.dead HG17.out (by omega) (by omega)).mono ?_
              rintro e w18 ⟨rfl, hd18, hs18⟩
              have HM18 := Lib.hid (HM17.out.step hs18 ⟨cvD, vsD, hd18⟩)
              have HL18 := Lib.hid HL17.out.stroke
              clear hdD hlst hlch hd18 hs18 a2 HM17 HL17
              go_wp2_with (go_at_call 10; refine (num32_any _ _).mono ?_; rintro e w' ⟨rfl, rfl⟩)
              obtain ⟨cvE, vsE, hdE⟩ := HM18.out.d
              go_roundg (l.length - (k + 1))
              case measure => omega
              case rel => exact ⟨k + 1, cvE, vsE, _, rfl, hlt, h25, by go_num, hdE, HL18.out.mono (by omega), HM18.out.s, HM18.out.b⟩
            · have hwb : (withinI act 2 == 0) = false := by rw [beq_eq_false_iff_ne]; exact hwi
              clear hwi a2
              go_wp2_with fail
              clear hwb
              obtain ⟨cvE, vsE, hdE⟩ := HM16.out.d
              go_roundg (l.length - (k + 1))
              case measure => omega
              case rel => exact ⟨k + 1, cvE, vsE, _, rfl, hlt, h25, by go_num, hdE, HL12.out.mono (by omega), HM16.out.s, HM16.out.b⟩
    · have hcase : (k < l.length ∧ ¬ k < 25) ∨ ¬ k < l.length := by omega
      clear hin
      rcases hcase with ⟨hlt, h25⟩ | hlt
      all_goals (
        go_wp2_with fail
        refine (wakes32_any _).mono ?_
        rintro e w9 ⟨rfl, hb⟩
        go_wp2_with fail
        go_ret
        exact ⟨rfl, HB6.out.trans (hb.mono HB6.out.size)⟩)
end Go.Proofs.Ytejmbhckfdfoeaa
