/-
  DiskSafe, walked.
-/
import Derived.Test.YtejmbhckfdfoeaaDSafeL
import Derived.Test.YtejmbhckfdfoeaaDCrashW
import Derived.Test.YtejmbhckfdfoeaaDEqF
set_option linter.unusedVariables false
set_option linter.unusedSimpArgs false
namespace Go.Proofs.Ytejmbhckfdfoeaa
open Go.RowKit Go.Maps
set_option maxRecDepth 100000 in
set_option maxHeartbeats 4000000 in
theorem safe_any (vf va : Value) (off : Int) (fs : List FileD) (l : List ActD) (w : World) (hf : FilesRd w vf fs) (ha : ActsRd w va l) (hl : fs.length ≤ 140737488351232 ∧ l.length ≤ 140737488351232) (hcap : ActsCap w va) :
    Calls Try.prog 4 #[.agg #[vf, .int .i64 off, va]] w fun e w' => e = .returned (.bool true) ∧ Below w.heap.size w w' := by
  have HF := Lib.hid hf
  have HA := Lib.hid ha
  have HCAP := Lib.hid hcap
  obtain ⟨of_, cf, rfl, hf⟩ := hf
  obtain ⟨oa, ca, rfl, ha⟩ := ha
  have HAF := Lib.hid ha
  clear hf ha hcap
  obtain ⟨W1, hW1⟩ : ∃ W1, W1 = (w.alloc (.cells #[.slice of_ fs.length cf, .int .i64 off, .slice oa l.length ca] 25)) := ⟨_, rfl⟩
  have hbx : Box W1 w.heap.size 25 #[.slice of_ fs.length cf, .int .i64 off, .slice oa l.length ca] := by rw [hW1]; exact Box.new _ _ _
  have hb1 : Below w.heap.size w W1 := by rw [hW1]; exact (Below.refl _ _).alloc (Nat.le_refl _) _
  have hz1 : W1.heap.size = w.heap.size + 1 := by rw [hW1]; simp
  have HB1 := Lib.hid hb1
  have HBX := Lib.hid hbx
  have c0 := hbx.cell 0 rfl
  have c1 := hbx.cell 1 rfl
  have c2 := hbx.cell 2 rfl
  rw [hW1] at c0 c1 c2
  have HW1 := Lib.hid hW1
  clear hW1 hb1 hbx
  go_enter Try.func4, Try.ntmps4
  go_wp2_with fail
  rw [← HW1.out] at c0 c1 c2 ⊢
  clear HW1
  refine (heavy32_any _ _ off fs l _ (HF.out.below HB1.out (Nat.le_refl _)) (HA.out.below HB1.out (Nat.le_refl _)) hl).mono ?_
  rintro e w2 ⟨rfl, hb⟩
  have HB2 := Lib.hid (HB1.out.trans (hb.mono HB1.out.size))
  have HBX2 := Lib.hid (HBX.out.next hb)
  have hz2 := hb.size
  clear hb c0 c1 c2 HBX
  cases hhv : heavyB fs l with
  | true =>
    clear hhv
    go_wp2_with fail
    go_ret
    exact ⟨rfl, HB2.out⟩
  | false =>
  have HHV := Lib.hid hhv
  clear hhv
  have c0 := HBX2.out.cell 0 rfl
  have c2 := HBX2.out.cell 2 rfl
  go_wp2_with fail
  refine (refMay_any _ fs _ (HF.out.below HB2.out (Nat.le_refl _)) hl.1).mono ?_
  rintro e w3 ⟨rfl, hb⟩
  have HB3 := Lib.hid (HB2.out.trans (hb.below _))
  have HBX3 := Lib.hid (HBX2.out.same hb)
  have hz3 := (hb.below 0).size
  clear hb c0 c2 HBX2 HB2 HB1
  cases hmy : mayB fs with
  | false =>
    clear hmy
    go_wp2_with fail
    go_ret
    exact ⟨rfl, HB3.out⟩
  | true =>
  have HMY := Lib.hid hmy
  clear hmy
  have c0 := HBX3.out.cell 0 rfl
  have c2 := HBX3.out.cell 2 rfl
  by_cases h10 : 10 < fs.length
  · have e10 : decide ((10 : Int) < fs.length) = true := decide_eq_true (by omega)
    go_wp2_with fail
    go_ret
    exact ⟨rfl, HB3.out⟩
  have e10 : decide ((10 : Int) < fs.length) = false := decide_eq_false (by omega)
  go_wp2_with fail
  refine (copyFiles_any _ fs _ (HF.out.below HB3.out (Nat.le_refl _)) (by omega) (mayB_data HMY.out)).mono ?_
  rintro e w4 ⟨⟨v4, ps, rfl, hfo, hps⟩, hb⟩
  have HB4 := Lib.hid (HB3.out.trans (hb.mono HB3.out.size))
  have HBX4 := Lib.hid (HBX3.out.next hb)
  have hz4 := hb.size
  have HFR := Lib.hid (show FilesRd w4 v4 fs by rw [← hps]; exact hfo.files)
  clear hb c0 c2 HBX3 HB3 hfo hps e10
  go_wp2_with fail
  refine (new_ok v4 fs 0 _ HFR.out HMY.out ⟨by omega, by omega⟩).mono ?_
  rintro e w5 ⟨⟨p, bs, bf, s, rfl, hd, hse, hso⟩, hb⟩
  have HB5 := Lib.hid (HB4.out.trans (hb.mono HB4.out.size))
  have HBX5 := Lib.hid (HBX4.out.next hb)
  have HD5 := Lib.hid hd
  have HL5 := Lib.hid (hse.lim hso (by omega))
  have hsl : s.seen.length ≤ 10 := by rw [hse.length]; omega
  have HIV := Lib.hid (fun g => inv_start hse HMY.out (by omega) hd.seen.ris hd.in1 hso g)
  have hcv := fun (W : World) => Lib.run_convert_bytes_const (P := Try.prog) W 34 5 #[.int .u8 107, .int .u8 101, .int .u8 112, .int .u8 116] 4 4 Try.underlying34 Try.underlying5
  have hcv5 := hcv w5
  have hz5 := hb.size
  clear hb hd hse hso HBX4 HB4 HFR hcv
  go_wp2_with (go_at_call 10; refine (num32_any _ _).mono ?_; rintro e w' ⟨rfl, rfl⟩)
  obtain ⟨w6, hw6⟩ : ∃ w6, w6 = w5.alloc (Obj.cells #[Value.int IntKind.u8 107, Value.int IntKind.u8 101, Value.int IntKind.u8 112, Value.int IntKind.u8 116] 5 (4, 5)) := ⟨_, rfl⟩
  have hb6 : Below w5.heap.size w5 w6 := by rw [hw6]; exact (Below.refl _ _).alloc (Nat.le_refl _) _
  have HBR := Lib.hid (show BytesRep 0 w6 (.slice (some ⟨w5.heap.size, 0, none⟩) 4 4) keptB by
    rw [hw6]
    exact ⟨Rd.new w5 .u8 [107, 101, 112, 116] 5 4 (4, 5), fun _ => ⟨w5.heap.size, 0, _, (4, 5), 4, rfl, heap_alloc_new w5 _, Nat.zero_le _⟩, by simp [keptB], fun o n c e => by cases e; exact ⟨Nat.le_refl _, by omega⟩⟩)
  have hB : w.heap.size < w4.heap.size := by omega
  have HHB := Lib.hid (show w.heap.size < w4.heap.size from hB)
  have HD6 := Lib.hid (HD5.out.next hb6 hz5)
  have HB6 := Lib.hid (HB5.out.trans (hb6.mono HB5.out.size))
  have HBX6 := Lib.hid (HBX5.out.next hb6)
  rw [← hw6]
  clear hw6 hb6 hcv5 HB5 HBX5 HD5 hz1 hz2 hz3 hz4 hz5
  have hst := HL5.out.st
  have hch := HL5.out.ch
  refine (write_ok keptN _ keptB HD6.out (by decide) HBR.out HL5.out.dead (fun h => by omega) (by omega) (by omega) (by omega)).mono ?_
  rintro e w7 ⟨rfl, ⟨f, cv7, vs7, hd7, hf7⟩, hs7⟩
  rw [show toldI (offB s) = 0 from by rw [offB_zero HL5.out.off]; rfl]
  have HIV := Lib.hid (HIV.out f)
  have HD7 := Lib.hid hd7
  have HB7 := Lib.hid (HB6.out.trans (hs7.below.mono (Nat.le_of_lt hB)))
  have HBX7 := Lib.hid (HBX6.out.below hs7.below hB)
  have HG7 := Lib.hid (show lget (writeS (strokeS s) keptN f keptB).seen keptN = some f from lget_put_same HD6.out.seen.ris keptN f)
  have HO7 := Lib.hid (show offB (writeS (strokeS s) keptN f keptB) = false from offB_zero HL5.out.off)
  have HE7 := Lib.hid (show (writeS (strokeS s) keptN f keptB).dead = false from offB_zero HL5.out.off)
  have hst7 : (writeS (strokeS s) keptN f keptB).strokes ≤ 1 := by show s.strokes + 1 ≤ 1; omega
  clear hd7 hf7 hs7 hst hch HB6 HBX6 HD6 HBR HL5 hsl
  generalize hs1 : writeS (strokeS s) keptN f keptB = s1 at HIV HD7 HG7 HO7 HE7 hst7
  go_wp2_with (go_at_call 10; refine (num32_any _ _).mono ?_; rintro e w' ⟨rfl, rfl⟩)
  refine (sync_ok keptN f HD7.out (by decide) HE7.out HG7.out (by omega)).mono ?_
  rintro e w8 ⟨rfl, hd8, hs8⟩
  rw [HO7.out, show toldI false = 0 from rfl]
  have HD8 := Lib.hid hd8
  have HB8 := Lib.hid (HB7.out.trans (hs8.below.mono (Nat.le_of_lt hB)))
  have HBX8 := Lib.hid (HBX7.out.below hs8.below hB)
  have HE8 := Lib.hid (show (syncS s1 f).dead = false by rw [syncS, HO7.out]; exact HO7.out)
  have HO8 := Lib.hid (show offB (syncS s1 f) = false from by
    have h2 := HIV.out.2.off
    unfold syncDirS at h2
    refine offB_zero ?_
    cases hh : offB (syncS s1 f) <;> rw [hh] at h2 <;> exact h2)
  have hst8 : (syncS s1 f).strokes ≤ 2 := by
    have h2 : (syncS s1 f).strokes = s1.strokes + 1 := by rw [syncS, HO7.out]; rfl
    omega
  clear hd8 hs8 HB7 HBX7 HD7 HG7 HO7 HE7 hst7
  generalize hs2 : syncS s1 f = s2 at HIV HD8 HE8 HO8 hst8
  go_wp2_with (go_at_call 10; refine (num32_any _ _).mono ?_; rintro e w' ⟨rfl, rfl⟩)
  refine (syncDir_ok HD8.out HE8.out (by omega)).mono ?_
  rintro e w9 ⟨rfl, ⟨bf9, cv9, vs9, hd9⟩, hs9⟩
  rw [HO8.out, show toldI false = 0 from rfl]
  have HK9 := Lib.hid (show LoopK w #[.slice of_ fs.length cf, .int .i64 off, .slice oa l.length ca] w4.heap.size p f 3 w9 from
    ⟨⟨_, _, _, _, _, hd9, HIV.out.1, HIV.out.2⟩, HBX8.out.below hs9.below hB, HB8.out.trans (hs9.below.mono (Nat.le_of_lt hB)), hB⟩)
  clear hd9 hs9 HB8 HBX8 HD8 HE8 HO8 hst8 hs1 hs2 HIV
  go_wp2_with (go_at_call 10; refine (num32_any _ _).mono ?_; rintro e w' ⟨rfl, rfl⟩)
  go_loopg [5] l.length (fun g i wr => ∃ k : Nat, g = l.length - k ∧ k ≤ l.length ∧ k ≤ 25 ∧ i = .int .i64 k ∧ LoopK w #[.slice of_ fs.length cf, .int .i64 off, .slice oa l.length ca] w4.heap.size p f (3 + k) wr)
  case atStart => exact ⟨0, rfl, Nat.zero_le _, by omega, rfl, HK9.out⟩
  case round =>
    obtain ⟨k, hg, hk, hk2, rfl, hlk⟩ := hrel
    obtain ⟨w6, rfl⟩ : ∃ w6, w6 = wr := ⟨_, rfl⟩
    have HL6 := Lib.hid hlk
    have c2 := hlk.s.cell 2 rfl
    clear hlk HK9
    by_cases hin : k < l.length ∧ k < 25
    · obtain ⟨hlt, h25⟩ := hin
      have hcapk := HCAP.out _ _ _ rfl k hlt
      obtain ⟨⟨b, o1, od, cd, op, cp, rfl, d0, d1, d2, d3, d4, hrd, hrp⟩, hal, hbl, _, _⟩ := (HAF.out k hlt)
      obtain ⟨ad, had⟩ : ∃ ad, ad = anth l k := ⟨_, rfl⟩
      have hpc := hcapk b o1 rfl op _ cp d4
      rw [← had] at d0 d1 d2 d3 d4 hrd hal hbl hrp hpc
      have hdl : ad.da.length ≤ 3000 := by
        have h1 := actsTo_mono l (k := k) (n := min l.length 25) (by omega)
        have h2 := (heavyB_no HHV.out).1
        rw [← had] at h1
        omega
      obtain ⟨act, an, bn, da, pk⟩ := ad
      simp only at d0 d1 d2 d3 d4 hrd hal hbl hdl hrp hpc
      have HRW := Lib.hid hrd
      have HPW := Lib.hid hrp
      have HPC := Lib.hid hpc
      have HAL := Lib.hid hal
      have HBL := Lib.hid hbl
      have hto : ∀ {j : Nat} {u : Value}, w.cell? ⟨b, j, none⟩ = some u → w6.cell? ⟨b, j, none⟩ = some u := fun {j u} hc => (HL6.out.b.cell (p := ⟨b, j, none⟩) (cell_lt hc)).trans hc
      replace d0 := hto d0
      replace d1 := hto d1
      replace d2 := hto d2
      replace d3 := hto d3
      replace d4 := hto d4
      clear hrd hal hbl had hrp hpc hcapk hto
      have HM := Lib.hid (HL6.out.act #[.int .i64 act, .string ⟨an.toArray⟩, .string ⟨bn.toArray⟩, .slice od da.length cd, .slice op pk.length cp])
      have hwa : (w6.alloc (.cells #[.int .i64 act, .string ⟨an.toArray⟩, .string ⟨bn.toArray⟩, .slice od da.length cd, .slice op pk.length cp] 37)).heap.size = w6.heap.size + 1 := by simp
      cases hka : (an == [107, 101, 112, 116]) with
      | true =>
        --<A
        go_wp2_with fail
        clear hka
        go_roundg (l.length - (k + 1))
        case measure => omega
        case rel => exact ⟨k + 1, rfl, hlt, h25, by go_num, HM.out.loop.more (by omega)⟩
        --A>
      | false =>
      have HNA := Lib.hid (show an ≠ keptN by simpa [keptN] using hka)
      cases hkb : (bn == [107, 101, 112, 116]) with
      | true =>
        --<B
        go_wp2_with fail
        clear hka hkb
        go_roundg (l.length - (k + 1))
        case measure => omega
        case rel => exact ⟨k + 1, rfl, hlt, h25, by go_num, HM.out.loop.more (by omega)⟩
        --B>
      | false =>
      have HNB := Lib.hid (show bn ≠ keptN by simpa [keptN] using hkb)
      go_wp2_with fail
      clear hka hkb d0 d1 d2 d3 d4 c2 HL6
      generalize hw7 : w6.alloc (.cells #[.int .i64 act, .string ⟨an.toArray⟩, .string ⟨bn.toArray⟩, .slice od da.length cd, .slice op pk.length cp] 37) = w7 at HM hwa ⊢
      clear hw7 hwa
      refine (within_any act 8 ⟨by omega, by omega⟩ _).mono ?_
      rintro e w' ⟨rfl, rfl⟩
      obtain ⟨n, hn⟩ : ∃ n, n = withinI act 8 := ⟨_, rfl⟩
      have hn8 : 0 ≤ n ∧ n < 8 := by rw [hn]; exact withinI_in act 8 (by omega)
      rw [← hn]
      clear hn
      have hcs : n = 0 ∨ n = 1 ∨ n = 2 ∨ n = 3 ∨ n = 4 ∨ 5 ≤ n := by omega
      have a1 := HM.out.a.cell 1 rfl
      have a2 := HM.out.a.cell 2 rfl
      have a3 := HM.out.a.cell 3 rfl
      have a4 := HM.out.a.cell 4 rfl
      rcases hcs with rfl | rfl | rfl | rfl | rfl | h5
      · --<C
        clear hn8 a1 a2 a3 a4
        have HX := Lib.hid (HM.out.next (W' := w7.drew) (Below.drew (Below.refl _ _)))
        go_wp2_with fail
        go_region_held3 (fun w' => w'.cell? ⟨w6.heap.size, 1, none⟩ = some (.string ⟨an.toArray⟩) ∧ w'.cell? ⟨w6.heap.size, 3, none⟩ = some (.slice od da.length cd)) (exact ⟨HX.out.a.cell 1 rfl, HX.out.a.cell 3 rfl⟩)
          (first
          | (go_at_call 14; refine (copyBytes_any _ da _ (HRW.out.below HX.out.b (Nat.le_refl _)) (by omega)).mono ?_; rintro e wy ⟨vy, rfl, hoy, hby⟩; obtain ⟨ay, ky, rfl⟩ := own_slice hoy; have HBY := Lib.hid (BytesRep.own hoy (by omega)); have HX := Lib.hid (HX.out.next hby); clear hoy hby)
          | (go_at_call 13; refine (write_law HX.out (by omega) an HAL.out HNA.out _ da (HBY.out.mono (Nat.zero_le _))).mono ?_; rintro e wz ⟨⟨r, rfl⟩, hlz⟩; have HX := Lib.hid hlz; clear hlz))
        clear HM
        go_wp2_with fail
        go_roundg (l.length - (k + 1))
        case measure => omega
        case rel => exact ⟨k + 1, rfl, hlt, h25, by go_num, HX.out.loop.more (by omega)⟩
        --C>
      · --<D
        clear hn8 a2 a3 a4
        go_wp2_with fail
        refine (sync_law HM.out (by omega) an HAL.out).mono ?_
        rintro e w8 ⟨⟨r, rfl⟩, hl8⟩
        have HX := Lib.hid hl8
        clear hl8 a1 HM
        go_wp2_with fail
        go_roundg (l.length - (k + 1))
        case measure => omega
        case rel => exact ⟨k + 1, rfl, hlt, h25, by go_num, HX.out.loop.more (by omega)⟩
        --D>
      · --<E
        clear hn8 a3 a4
        go_wp2_with fail
        refine (rename_law HM.out (by omega) an bn HAL.out HBL.out HNA.out HNB.out).mono ?_
        rintro e w8 ⟨⟨r, rfl⟩, hl8⟩
        have HX := Lib.hid hl8
        clear hl8 a1 a2 HM
        go_wp2_with fail
        go_roundg (l.length - (k + 1))
        case measure => omega
        case rel => exact ⟨k + 1, rfl, hlt, h25, by go_num, HX.out.loop.more (by omega)⟩
        --E>
      · --<F
        clear hn8 a2 a3 a4
        go_wp2_with fail
        refine (remove_law HM.out (by omega) an HAL.out HNA.out).mono ?_
        rintro e w8 ⟨⟨r, rfl⟩, hl8⟩
        have HX := Lib.hid hl8
        clear hl8 a1 HM
        go_wp2_with fail
        go_roundg (l.length - (k + 1))
        case measure => omega
        case rel => exact ⟨k + 1, rfl, hlt, h25, by go_num, HX.out.loop.more (by omega)⟩
        --F>
      · --<G
        clear hn8 a1 a2 a3 a4
        go_wp2_with fail
        refine (syncDir_law HM.out (by omega)).mono ?_
        rintro e w8 ⟨⟨r, rfl⟩, hl8⟩
        have HX := Lib.hid hl8
        clear hl8 HM
        go_wp2_with fail
        go_roundg (l.length - (k + 1))
        case measure => omega
        case rel => exact ⟨k + 1, rfl, hlt, h25, by go_num, HX.out.loop.more (by omega)⟩
        --G>
      · have m0 : (n == 0) = false := by rw [beq_eq_false_iff_ne]; omega
        have m1 : (n == 1) = false := by rw [beq_eq_false_iff_ne]; omega
        have m2 : (n == 2) = false := by rw [beq_eq_false_iff_ne]; omega
        have m3 : (n == 3) = false := by rw [beq_eq_false_iff_ne]; omega
        have m4 : (n == 4) = false := by rw [beq_eq_false_iff_ne]; omega
        clear hn8 h5 a1 a2 a3
        go_wp2_with fail
        clear m0 m1 m2 m3 m4
        obtain ⟨s, bs1, bf1, cv, vs, hd, hi, hlm⟩ := HM.out.d
        refine (callsIn_wide.1 (crash_in op cp pk hd (HPW.out.below HM.out.b (Nat.le_refl _)) HPC.out (fun q hq => ⟨((hi.left pk).mem q hq).1, by have := (goodNm_len ((hi.left pk).mem q hq).2).2; unfold maxLen; omega⟩) (fun m hm => by have := (hi.all m (Nat.le_trans hm (crashN_le s pk))).len; omega))).mono ?_
        rintro e w8 ⟨⟨v8, ps8, rfl, hfo, hps⟩, hb8⟩
        obtain ⟨a8, k8, rfl⟩ := own_slice hfo.row
        obtain ⟨xs, hxs⟩ : ∃ xs, xs = crashR s pk := ⟨_, rfl⟩
        rw [← hxs] at hps
        have hxl : ps8.length = xs.length := by rw [← hps]; simp
        have HFX := Lib.hid (show FilesRd w8 (.slice a8 ps8.length k8) xs by rw [← hps]; exact hfo.files)
        have HMAY := Lib.hid (show mayB xs = true by rw [hxs]; exact hi.crashMay hd pk)
        have HKEPT := Lib.hid (show (⟨keptN, keptB⟩ : FileD) ∈ xs by rw [hxs]; exact hi.crashKept pk)
        have hx16 : xs.length ≤ 16 := by rw [hxs]; exact hi.crashLen pk
        have HM8 := Lib.hid (HM.out.next hb8)
        clear hd hi hlm hfo hps hb8 hxs a4 HM
        rw [hxl] at HFX ⊢
        clear hxl
        go_wp2_with fail
        go_loopg [8, 9] xs.length (fun g fb i wr => ∃ (n : Nat) (bb : Bool), g = xs.length - n ∧ n ≤ xs.length ∧ i = .int .i64 n ∧ fb = .bool bb ∧ (∀ j, j < n → fnth xs j = ⟨keptN, keptB⟩ → bb = true) ∧ wr = w8)
        case atStart => exact ⟨0, false, rfl, Nat.zero_le _, rfl, rfl, fun j hj => by omega, rfl⟩
        case round =>
          obtain ⟨n, bb, hg8, hn, rfl, rfl, hfd, rfl⟩ := hrel
          have HFD := Lib.hid hfd
          clear hfd
          by_cases hnl : n < xs.length
          · obtain ⟨o', cap', he', hfl⟩ := HFX.out
            simp at he'
            obtain ⟨rfl, rfl⟩ := he'
            obtain ⟨⟨b1, f1, od1, cd1, rfl, p0, p1, hr1⟩, _, _⟩ := hfl n hnl
            obtain ⟨fd, hfd⟩ : ∃ fd, fd = fnth xs n := ⟨_, rfl⟩
            rw [← hfd] at p0 p1 hr1
            obtain ⟨sb, hcv, hsb⟩ := conv_rd hr1
            obtain ⟨nm, db⟩ := fd
            simp only at p0 p1 hcv hsb
            have HSB := Lib.hid hsb
            have HFN := Lib.hid hfd
            simp only [encStr] at p0
            clear hfl hr1 hsb hfd
            have hrl : ∀ bb' : Bool, (bb = true → bb' = true) → (nm = keptN → db = keptB → bb' = true) → ∀ j, j < n + 1 → fnth xs j = ⟨keptN, keptB⟩ → bb' = true := fun bb' h1 h2 j hj he => by
              rcases Nat.lt_or_ge j n with h | h
              · exact h1 (HFD.out j h he)
              · have : j = n := by omega
                subst this
                rw [← HFN.out] at he
                cases he
                exact h2 rfl rfl
            have HRL := Lib.hid hrl
            clear hrl
            cases bb with
            | true =>
              go_wp2_with fail
              clear hcv p0 p1
              go_roundg (xs.length - (n + 1))
              case measure => omega
              case rel => exact ⟨n + 1, true, rfl, hnl, by go_num, rfl, HRL.out true (fun _ => rfl) (fun _ _ => rfl), rfl⟩
            | false =>
              cases hnm : (nm == [107, 101, 112, 116]) with
              | false =>
                go_wp2_with fail
                have HNM := Lib.hid (show nm ≠ keptN by simpa [keptN] using hnm)
                clear hcv p0 p1 hnm
                go_roundg (xs.length - (n + 1))
                case measure => omega
                case rel => exact ⟨n + 1, false, rfl, hnl, by go_num, rfl, HRL.out false (fun h => h) (fun h _ => absurd h HNM.out), rfl⟩
              | true =>
                cases hse : (sb.toList == [107, 101, 112, 116]) with
                | true =>
                  go_wp2_with fail
                  clear hcv p0 p1 hnm hse
                  go_roundg (xs.length - (n + 1))
                  case measure => omega
                  case rel => exact ⟨n + 1, true, rfl, hnl, by go_num, rfl, HRL.out true (fun _ => rfl) (fun _ _ => rfl), rfl⟩
                | false =>
                  go_wp2_with fail
                  have HSE := Lib.hid hse
                  clear hcv p0 p1 hnm hse
                  go_roundg (xs.length - (n + 1))
                  case measure => omega
                  case rel => exact ⟨n + 1, false, rfl, hnl, by go_num, rfl, HRL.out false (fun h => h) (fun _ h => by have := HSB.out h; have h2 := HSE.out; rw [this, show (⟨#[107, 101, 112, 116]⟩ : ByteArray).toList = [107, 101, 112, 116] from nm_toList [107, 101, 112, 116]] at h2; simp at h2), rfl⟩
          · have hne : n = xs.length := by omega
            have hbt : bb = true := by
              obtain ⟨j, hj, he⟩ := List.mem_iff_getElem.1 HKEPT.out
              exact HFD.out j (by omega) (by rw [fnth, List.getD_eq_getElem?_getD, List.getElem?_eq_getElem hj]; exact he)
            subst hbt
            subst hne
            go_wp2_with fail
            refine (copyFiles_any _ xs _ HFX.out (by omega) (mayB_data HMAY.out)).mono ?_
            rintro e w9 ⟨⟨v9, ps9, rfl, hfo, hps⟩, hb⟩
            have HF9 := Lib.hid (show FilesRd w9 v9 xs by rw [← hps]; exact hfo.files)
            have HFX9 := Lib.hid (HFX.out.below hb (Nat.le_refl _))
            have HM9 := Lib.hid (HM8.out.next hb)
            clear hfo hps hb HFX HM8 HFD
            go_wp2_with fail
            refine (new_ok v9 xs 0 _ HF9.out HMAY.out ⟨by omega, by omega⟩).mono ?_
            rintro e w10 ⟨⟨p2, bs2, bf2, s2, rfl, hd2, hse2, hso2⟩, hb⟩
            have HFX10 := Lib.hid (HFX9.out.below hb (Nat.le_refl _))
            have HM10 := Lib.hid (HM9.out.next hb)
            have HD10 := Lib.hid hd2
            have HSE10 := Lib.hid hse2
            clear hb hd2 hse2 hso2 HFX9 HM9 HF9
            go_wp2_with (go_at_call 10; refine (num32_any _ _).mono ?_; rintro e w' ⟨rfl, rfl⟩)
            refine (callsIn_wide.1 (list_in HD10.out HSE10.out.dead)).mono ?_
            rintro e w11 ⟨⟨v11, ps11, rfl, hfo, hps⟩, hb⟩
            rw [HSE10.out.list] at hps
            have HF11 := Lib.hid (show FilesRd w11 v11 xs by rw [← hps]; exact hfo.files)
            have HFX11 := Lib.hid (HFX10.out.below hb (Nat.le_refl _))
            have HM11 := Lib.hid (HM10.out.next hb)
            clear hb hfo hps HFX10 HM10 HD10 HSE10
            go_wp2_with (go_at_call 10; refine (num32_any _ _).mono ?_; rintro e w' ⟨rfl, rfl⟩)
            refine (eqFiles_same _ _ xs _ HF11.out HFX11.out (by omega)).mono ?_
            rintro e w12 ⟨rfl, hb⟩
            have HX := Lib.hid (HM11.out.next hb)
            clear hb HF11 HFX11 HM11
            go_wp2_with fail
            go_roundg (l.length - (k + 1))
            case measure => omega
            case rel => exact ⟨k + 1, rfl, hlt, h25, by go_num, HX.out.loop.more (by omega)⟩
    · have hcase : (k < l.length ∧ ¬ k < 25) ∨ ¬ k < l.length := by omega
      clear hin
      rcases hcase with ⟨hlt, h25⟩ | hlt
      all_goals (
        go_wp2_with fail
        refine (wakes32_any _).mono ?_
        rintro e w9 ⟨rfl, hb⟩
        go_wp2_with fail
        go_ret
        exact ⟨rfl, HL6.out.b.trans (hb.mono HL6.out.b.size)⟩)
end Go.Proofs.Ytejmbhckfdfoeaa
