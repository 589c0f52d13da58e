/-
  THE LAW DataEncodes, walked.
-/
import Derived.Test.YtjhejpeklppmbaaDecodesMain
import Derived.Test.YtjhejpeklppmbaaEncRef
set_option linter.unusedVariables false
set_option linter.unusedSimpArgs false
namespace Go.Proofs.Ytjhejpeklppmbaa
open Go.RowKit Go.Shelf
/-- a slice of datasets, as the walk wants it -/
structure SetArg (w : World) (b off : Nat) (v0 v1 v2 v3 : Value) (s : SetD) : Prop where
  c0 : w.cell? ⟨b, off, none⟩ = some v0
  c1 : w.cell? ⟨b, off + 1, none⟩ = some v1
  c2 : w.cell? ⟨b, off + 2, none⟩ = some v2
  c3 : w.cell? ⟨b, off + 3, none⟩ = some v3
  rd : RdSet w v0 v1 v2 v3 s
  l0 : s.sh.length ≤ 17592186044416
  l1 : s.x.length ≤ 17592186044416
  l2 : s.lb.length ≤ 17592186044416
  l3 : s.y.length ≤ 17592186044416
theorem SetArg.below {w w' : World} {b off : Nat} {v0 v1 v2 v3 : Value} {s : SetD} (h : SetArg w b off v0 v1 v2 v3 s) (hB : Below w.heap.size w w') : SetArg w' b off v0 v1 v2 v3 s :=
  ⟨(hB.cell (cell_lt h.c0)).trans h.c0, (hB.cell (cell_lt h.c1)).trans h.c1, (hB.cell (cell_lt h.c2)).trans h.c2, (hB.cell (cell_lt h.c3)).trans h.c3, h.rd.below hB (Nat.le_refl _), h.l0, h.l1, h.l2, h.l3⟩
def SetsArg (w : World) (o : Option Addr) (n : Nat) : Prop :=
  ∀ i, i < n → ∃ b off v0 v1 v2 v3 s, o = some ⟨b, off, none⟩ ∧ SetArg w b (off + i * 4) v0 v1 v2 v3 s
theorem heavy_lim {s : SetD} (h : heavyS s = false) : s.sh.length ≤ 8 ∧ s.x.length ≤ 400 ∧ s.lb.length ≤ 400 ∧ s.y.length ≤ 400 := by
  simp [heavyS] at h
  omega
set_option maxHeartbeats 400000 in
theorem dataEncode_bad (a b c d : Value) (s : SetD) (w : World) (hr : RdSet w a b c d s) (hg : goodSet s = false) (hl : LimSet s) :
    Calls Try.prog 32 #[.agg #[a, b, c, d]] w fun e w' => e = .returned (.tuple #[.slice none 0 0, .int .i64 1]) ∧ Below w.heap.size w w' := by
  obtain ⟨o1, cap1, he1⟩ := rd_slice hr.sh
  obtain ⟨o2, cap2, he2⟩ := rd_slice hr.x
  obtain ⟨o3, cap3, he3⟩ := rd_slice hr.lb
  obtain ⟨o4, cap4, he4⟩ := rd_slice hr.y
  subst he1 he2 he3 he4
  have HR := Lib.hid hr
  have HL := Lib.hid hl
  have HG := Lib.hid hg
  have HX := Lib.hid (Box.new w 35 #[.slice o1 s.sh.length cap1, .slice o2 s.x.length cap2, .slice o3 s.lb.length cap3, .slice o4 s.y.length cap4])
  clear hr hl hg
  have d0 : (w.alloc (.cells #[.slice o1 s.sh.length cap1, .slice o2 s.x.length cap2, .slice o3 s.lb.length cap3, .slice o4 s.y.length cap4] 35)).cell? ⟨w.heap.size, 0, none⟩ = some (.slice o1 s.sh.length cap1) := HX.out.cell 0 rfl
  have d1 : (w.alloc (.cells #[.slice o1 s.sh.length cap1, .slice o2 s.x.length cap2, .slice o3 s.lb.length cap3, .slice o4 s.y.length cap4] 35)).cell? ⟨w.heap.size, 1, none⟩ = some (.slice o2 s.x.length cap2) := HX.out.cell 1 rfl
  have d2 : (w.alloc (.cells #[.slice o1 s.sh.length cap1, .slice o2 s.x.length cap2, .slice o3 s.lb.length cap3, .slice o4 s.y.length cap4] 35)).cell? ⟨w.heap.size, 2, none⟩ = some (.slice o3 s.lb.length cap3) := HX.out.cell 2 rfl
  have d3 : (w.alloc (.cells #[.slice o1 s.sh.length cap1, .slice o2 s.x.length cap2, .slice o3 s.lb.length cap3, .slice o4 s.y.length cap4] 35)).cell? ⟨w.heap.size, 3, none⟩ = some (.slice o4 s.y.length cap4) := HX.out.cell 3 rfl
  go_enter Try.func32, Try.ntmps32
  go_wp2_with fail
  clear d0 d1 d2 d3
  refine (dataGood_any _ _ _ _ s _ (HR.out.alloc _) HL.out).mono ?_
  rintro e w1 ⟨rfl, hb⟩
  rw [HG.out]
  have HB := Lib.hid (((Below.refl _ _).alloc (Nat.le_refl _) _).trans (hb.mono (by simp)))
  clear hb
  go_wp2_with fail
  go_ret2
  exact ⟨rfl, HB.out⟩
def cdS (s : SetD) : Int := bif goodSet s then 0 else 1
def encR (s : SetD) : List Int := bif goodSet s then encSet s else []
theorem dataCheck_cd (a b c d : Value) (s : SetD) (w : World) (hr : RdSet w a b c d s) (hl : LimSet s) :
    Calls Try.prog 35 #[.agg #[a, b, c, d]] w fun e w' => e = .returned (.int .i64 (cdS s)) ∧ Below w.heap.size w w' := dataCheck_any a b c d s w hr hl
theorem dataEncode_any (a b c d : Value) (s : SetD) (w : World) (hr : RdSet w a b c d s) (hl : LimSet s) :
    Calls Try.prog 32 #[.agg #[a, b, c, d]] w fun e w' => ∃ v, e = .returned (.tuple #[v, .int .i64 (cdS s)]) ∧ OwnI w' w.heap.size 5 .u8 v (encR s) ∧ Below w.heap.size w w' := by
  cases hg : goodSet s with
  | true =>
    rw [cdS, encR, hg, cond_true, cond_true]
    exact dataEncode_good a b c d s w hr hg hl
  | false =>
    rw [cdS, encR, hg, cond_false, cond_false]
    exact (dataEncode_bad a b c d s w hr hg hl).mono fun e w' ⟨he, hb⟩ => ⟨_, he, ⟨rfl, .inl ⟨rfl, rfl⟩⟩, hb⟩
theorem encSet_len {s : SetD} (h : s.sh.length ≤ 8 ∧ s.x.length ≤ 400 ∧ s.lb.length ≤ 400 ∧ s.y.length ≤ 400) : (encR s).length ≤ 10000 := by
  unfold encR
  cases goodSet s with
  | false => simp
  | true =>
    rw [cond_true, encSet]
    simp only [List.length_append, be4L_length, be8L_length, beB_length, List.length_cons, List.length_nil]
    split
    · simp only [List.length_cons, List.length_nil]; omega
    · simp only [List.length_append, beB_length, List.length_cons, List.length_nil]; omega
set_option maxRecDepth 100000 in
set_option maxHeartbeats 4000000 in
theorem encodes_any (o : Option Addr) (n cap : Nat) (w : World) (hn : n ≤ 140737488351232) (ha : SetsArg w o n) :
    Calls Try.prog 8 #[.slice o n cap] w fun e w' => e = .returned (.bool true) ∧ Below w.heap.size w w' := by
  have HA := Lib.hid ha
  clear ha
  go_enter Try.func8, Try.ntmps8
  go_wp2_with fail
  go_loopg [3] n (fun g i wr => ∃ k : Nat, g = n - k ∧ k ≤ n ∧ i = .int .i64 k ∧ Below w.heap.size w wr)
  case atStart => exact ⟨0, rfl, Nat.zero_le _, rfl, Below.refl _ _⟩
  case round =>
    obtain ⟨k, hg, hk, rfl, hB⟩ := hrel
    obtain ⟨w0, rfl⟩ : ∃ w0, w0 = wr := ⟨_, rfl⟩
    have HB := Lib.hid hB
    clear hB
    by_cases hlt : k < n ∧ k < 6
    · obtain ⟨hkn, hk6⟩ := hlt
      obtain ⟨b, off, v0, v1, v2, v3, s, ho, hs⟩ := HA.out k hkn
      subst ho
      obtain ⟨o1, cap1, rfl⟩ := rd_slice hs.rd.sh
      obtain ⟨o2, cap2, rfl⟩ := rd_slice hs.rd.x
      obtain ⟨o3, cap3, rfl⟩ := rd_slice hs.rd.lb
      obtain ⟨o4, cap4, rfl⟩ := rd_slice hs.rd.y
      have hs0 := hs.below HB.out
      have HS := Lib.hid hs
      have HS0 := Lib.hid hs0
      obtain ⟨q0, q1, q2, q3, _, m0, m1, m2, m3⟩ := hs0
      clear hs
      go_wp2_with fail
      refine (heavy30_any _ _ _ _ s _ HS0.out.rd ⟨by omega, by omega, by omega, by omega⟩).mono ?_
      rintro e w1 ⟨rfl, hb1⟩
      have HB1 := Lib.hid (HB.out.trans (hb1.mono HB.out.size))
      clear hb1 q0 q1 q2 q3 m0 m1 m2 m3 HS0
      cases hh : heavyS s with
      | true =>
        clear hh
        go_wp2_with fail
        go_ret
        exact ⟨rfl, HB1.out⟩
      | false =>
        have hlim := heavy_lim hh
        have HL := Lib.hid (show LimSet s from ⟨by omega, by omega, by omega, by omega⟩)
        have HS1 := Lib.hid (HS.out.below HB1.out)
        obtain ⟨q0, q1, q2, q3, _, _, _, _, _⟩ := HS.out.below HB1.out
        have HLEN := Lib.hid (encSet_len hlim)
        clear hh hlim
        go_wp2_with fail
        refine (ref30May_any _ _ _ _ s _ HS1.out.rd HL.out).mono ?_
        rintro e w2 ⟨rfl, hb2⟩
        have HB2 := Lib.hid (HB1.out.trans (hb2.mono HB1.out.size))
        clear hb2 q0 q1 q2 q3 HS1
        have HS2 := Lib.hid (HS.out.below HB2.out)
        obtain ⟨q0, q1, q2, q3, _, _, _, _, _⟩ := HS.out.below HB2.out
        cases hg : goodSet s with
        | true =>
          have HG := Lib.hid hg
          clear hg
          go_wp2_with fail
          refine (ref30Encode_any _ _ _ _ s _ HS2.out.rd HG.out HL.out).mono ?_
          rintro e w3 ⟨vw, rfl, how, hb3⟩
          obtain ⟨ow, kw, rfl⟩ := own_slice how
          obtain ⟨wl, hwl⟩ : ∃ wl, wl = encSet s := ⟨_, rfl⟩
          rw [← hwl] at how ⊢
          have HCD := Lib.hid (show cdS s = 0 by rw [cdS, HG.out, cond_true])
          have HWL := Lib.hid (show encR s = wl by rw [encR, HG.out, cond_true, hwl])
          have HWE := Lib.hid hwl
          have hwll : wl.length ≤ 10000 := by have := HLEN.out; rw [HWL.out] at this; exact this
          clear hwl
          have HB3 := Lib.hid (HB2.out.trans (hb3.mono HB2.out.size))
          have HOW := Lib.hid how
          clear hb3 q0 q1 q2 q3 HS2 how
          have HS3 := Lib.hid (HS.out.below HB3.out)
          obtain ⟨q0, q1, q2, q3, _, _, _, _, _⟩ := HS.out.below HB3.out
          --R1
          go_wp2_with fail
          refine (copySet_any _ _ _ _ s _ HS3.out.rd HL.out).mono ?_
          rintro e w4 ⟨⟨a, bq, c, d, rfl, hos⟩, hb4⟩
          obtain ⟨aa, ka, rfl⟩ := own_slice hos.sh
          obtain ⟨ab, kb, rfl⟩ := own_slice hos.x
          obtain ⟨ac, kc, rfl⟩ := own_slice hos.lb
          obtain ⟨ad, kd, rfl⟩ := own_slice hos.y
          obtain ⟨W4, hW4⟩ : ∃ W4, W4 = (w4.alloc (.cells #[.slice aa s.sh.length ka, .slice ab s.x.length kb, .slice ac s.lb.length kc, .slice ad s.y.length kd] 35)) := ⟨_, rfl⟩
          have hal : Below w4.heap.size w4 W4 := by rw [hW4]; exact (Below.refl _ _).alloc (Nat.le_refl _) _
          have HX4 := Lib.hid (show Box W4 w4.heap.size 35 #[.slice aa s.sh.length ka, .slice ab s.x.length kb, .slice ac s.lb.length kc, .slice ad s.y.length kd] by rw [hW4]; exact Box.new _ _ _)
          have hbl : Below w3.heap.size w3 W4 := hb4.trans (hal.mono hb4.size)
          have HB4 := Lib.hid (HB3.out.trans (hbl.mono HB3.out.size))
          have HOW4 := Lib.hid (own_below HOW.out hbl (Nat.le_refl _))
          have HOS4 := Lib.hid (hos.below hal (Nat.le_refl _))
          have HW4 := Lib.hid hW4
          have HB4s := Lib.hid HB4.out.size
          have hsw : w4.heap.size < W4.heap.size := HX4.out.lt
          have d0 : W4.cell? ⟨w4.heap.size, 0, none⟩ = some (.slice aa s.sh.length ka) := HX4.out.cell 0 rfl
          have d1 : W4.cell? ⟨w4.heap.size, 1, none⟩ = some (.slice ab s.x.length kb) := HX4.out.cell 1 rfl
          have d2 : W4.cell? ⟨w4.heap.size, 2, none⟩ = some (.slice ac s.lb.length kc) := HX4.out.cell 2 rfl
          have d3 : W4.cell? ⟨w4.heap.size, 3, none⟩ = some (.slice ad s.y.length kd) := HX4.out.cell 3 rfl
          clear hal hW4 hbl hos hb4 q0 q1 q2 q3 HS3 HOW
          rw [HW4.out] at d0 d1 d2 d3
          go_wp2_with fail
          rw [← HW4.out]
          clear d0 d1 d2 d3 HW4
          refine (dataEncode_any _ _ _ _ s _ HOS4.out.rd HL.out).mono ?_
          rintro e w5 ⟨v5, rfl, ho5, hb5⟩
          obtain ⟨o5, k5, rfl⟩ := own_slice ho5
          rw [HCD.out]
          rw [HWL.out] at ho5 ⊢
          have HX5 := Lib.hid (HX4.out.next hb5)
          have HB5 := Lib.hid (HB4.out.trans (hb5.mono HB4.out.size))
          have HOW5 := Lib.hid (own_below HOW4.out hb5 (Nat.le_refl _))
          have HOS5 := Lib.hid (HOS4.out.below hb5 (Nat.le_refl _))
          have HE5 := Lib.hid ho5
          have HS5 := Lib.hid (HS.out.below HB5.out)
          obtain ⟨q0, q1, q2, q3, _, _, _, _, _⟩ := HS.out.below HB5.out
          have d0 : w5.cell? ⟨w4.heap.size, 0, none⟩ = some (.slice aa s.sh.length ka) := HX5.out.cell 0 rfl
          have d1 : w5.cell? ⟨w4.heap.size, 1, none⟩ = some (.slice ab s.x.length kb) := HX5.out.cell 1 rfl
          have d2 : w5.cell? ⟨w4.heap.size, 2, none⟩ = some (.slice ac s.lb.length kc) := HX5.out.cell 2 rfl
          have d3 : w5.cell? ⟨w4.heap.size, 3, none⟩ = some (.slice ad s.y.length kd) := HX5.out.cell 3 rfl
          have hsz5 := hb5.size
          clear hb5 ho5 HX4 HB4 HOW4 HOS4
          go_wp2_with fail
          have HX := Lib.hid (show Below w5.heap.size w5 w5.drew from Below.drew (Below.refl _ _))
          go_cut [72] (fun s72 wx => s72 = .bool false ∧ Below w5.heap.size w5 wx)
          case first =>
            --<A
            go_region_with (first
              | (go_at_call 35; refine (dataCheck_cd _ _ _ _ s _ (HOS5.out.rd.below HX.out (Nat.le_refl _)) HL.out).mono ?_; rintro e w6 ⟨rfl, hb6⟩; rw [HCD.out]; have HX := Lib.hid (HX.out.trans (hb6.mono HX.out.size)); have d0 : w6.cell? ⟨w4.heap.size, 0, none⟩ = some (.slice aa s.sh.length ka) := (HX5.out.next HX.out).cell 0 rfl; have d1 : w6.cell? ⟨w4.heap.size, 1, none⟩ = some (.slice ab s.x.length kb) := (HX5.out.next HX.out).cell 1 rfl; have d2 : w6.cell? ⟨w4.heap.size, 2, none⟩ = some (.slice ac s.lb.length kc) := (HX5.out.next HX.out).cell 2 rfl; have d3 : w6.cell? ⟨w4.heap.size, 3, none⟩ = some (.slice ad s.y.length kd) := (HX5.out.next HX.out).cell 3 rfl; have q0 : w6.cell? ⟨b, off + k * 4, none⟩ = some (.slice o1 s.sh.length cap1) := (HS5.out.below HX.out).c0; have q1 : w6.cell? ⟨b, off + k * 4 + 1, none⟩ = some (.slice o2 s.x.length cap2) := (HS5.out.below HX.out).c1; have q2 : w6.cell? ⟨b, off + k * 4 + 2, none⟩ = some (.slice o3 s.lb.length cap3) := (HS5.out.below HX.out).c2; have q3 : w6.cell? ⟨b, off + k * 4 + 3, none⟩ = some (.slice o4 s.y.length cap4) := (HS5.out.below HX.out).c3; clear hb6)
              | (go_at_call 16; refine (num30_any _ _).mono ?_; rintro e w' ⟨rfl, rfl⟩)
              | (go_at_call 31; refine (eqBytes_yes (Rd.of_own (own_below HE5.out HX.out (Nat.le_refl _))) (Rd.of_own (own_below HOW5.out HX.out (Nat.le_refl _))) (by omega)).mono ?_; rintro e w7 ⟨rfl, hs7⟩; have HX := Lib.hid (HX.out.trans (hs7.below _)); have d0 : w7.cell? ⟨w4.heap.size, 0, none⟩ = some (.slice aa s.sh.length ka) := (HX5.out.next HX.out).cell 0 rfl; have d1 : w7.cell? ⟨w4.heap.size, 1, none⟩ = some (.slice ab s.x.length kb) := (HX5.out.next HX.out).cell 1 rfl; have d2 : w7.cell? ⟨w4.heap.size, 2, none⟩ = some (.slice ac s.lb.length kc) := (HX5.out.next HX.out).cell 2 rfl; have d3 : w7.cell? ⟨w4.heap.size, 3, none⟩ = some (.slice ad s.y.length kd) := (HX5.out.next HX.out).cell 3 rfl; have q0 : w7.cell? ⟨b, off + k * 4, none⟩ = some (.slice o1 s.sh.length cap1) := (HS5.out.below HX.out).c0; have q1 : w7.cell? ⟨b, off + k * 4 + 1, none⟩ = some (.slice o2 s.x.length cap2) := (HS5.out.below HX.out).c1; have q2 : w7.cell? ⟨b, off + k * 4 + 2, none⟩ = some (.slice o3 s.lb.length cap3) := (HS5.out.below HX.out).c2; have q3 : w7.cell? ⟨b, off + k * 4 + 3, none⟩ = some (.slice o4 s.y.length cap4) := (HS5.out.below HX.out).c3; clear hs7)
              | (go_at_call 28; refine (eqSet_yes _ _ _ _ _ _ _ _ s _ (HOS5.out.rd.below HX.out (Nat.le_refl _)) (HS5.out.rd.below HX.out (Nat.le_refl _)) HL.out).mono ?_; rintro e w8 ⟨rfl, hb8⟩; have HX := Lib.hid (HX.out.trans (hb8.mono HX.out.size)); clear hb8))
            all_goals (go_wp2_with fail; go_meet; exact ⟨rfl, HX.out⟩)
            --A>
          case rest =>
            obtain ⟨rfl, hb6⟩ := hcut
            obtain ⟨w6, rfl⟩ : ∃ w6, w6 = wc := ⟨_, rfl⟩
            have HB6 := Lib.hid (HB5.out.trans (hb6.mono HB5.out.size))
            have HE6 := Lib.hid (own_below HE5.out hb6 (Nat.le_refl _))
            have hsz6 : W4.heap.size ≤ w6.heap.size := Nat.le_trans (by have := hsz5; exact this) hb6.size
            clear HX hb6 d0 d1 d2 d3 q0 q1 q2 q3 HOS5 HOW5 HS5 HX5 HB5 HE5

            have hcb := own_cap HE6.out
            have hwf := encSet_wf (s := s) (goodSet_parts HG.out).2.2.1
            have hde := decP_enc HG.out
            rw [← HWE.out] at hwf hde
            have HCB := Lib.hid hcb
            have HWF := Lib.hid hwf
            have HDE := Lib.hid hde
            clear hcb hwf hde
            go_wp2_with fail
            refine (decode_any _ wl _ (Rd.of_own HE6.out) HWF.out (by omega) HCB.out).mono ?_
            rintro e w7 ⟨hd, hb7, _⟩
            rw [HDE.out] at hd
            obtain ⟨a, bq, c, d, rfl, hos⟩ := decOut_set hd
            replace hos : OwnSet w7 w6.heap.size a bq c d s := hos
            obtain ⟨za, la, rfl⟩ := own_slice hos.sh
            obtain ⟨zb, lb, rfl⟩ := own_slice hos.x
            obtain ⟨zc, lc, rfl⟩ := own_slice hos.lb
            obtain ⟨zd, ld, rfl⟩ := own_slice hos.y
            rw [show codeR (some s) = 0 from rfl]
            obtain ⟨W8, hW8⟩ : ∃ W8, W8 = (w7.alloc (.cells #[.slice za s.sh.length la, .slice zb s.x.length lb, .slice zc s.lb.length lc, .slice zd s.y.length ld] 35)) := ⟨_, rfl⟩
            have hal : Below w7.heap.size w7 W8 := by rw [hW8]; exact (Below.refl _ _).alloc (Nat.le_refl _) _
            have HX8 := Lib.hid (show Box W8 w7.heap.size 35 #[.slice za s.sh.length la, .slice zb s.x.length lb, .slice zc s.lb.length lc, .slice zd s.y.length ld] by rw [hW8]; exact Box.new _ _ _)
            have hbl : Below w6.heap.size w6 W8 := hb7.trans (hal.mono hb7.size)
            have HB8 := Lib.hid (HB6.out.trans (hbl.mono HB6.out.size))
            have HE8 := Lib.hid (own_below HE6.out hbl (Nat.le_refl _))
            have HR8 := Lib.hid (show RdSet W8 (.slice za s.sh.length la) (.slice zb s.x.length lb) (.slice zc s.lb.length lc) (.slice zd s.y.length ld) s from hos.rd.below hal (Nat.le_refl _))
            have hsz8 : W4.heap.size ≤ W8.heap.size := Nat.le_trans hsz6 hbl.size
            have HS8 := Lib.hid (HS.out.below HB8.out)
            have HW8 := Lib.hid hW8
            have d0 : W8.cell? ⟨w7.heap.size, 0, none⟩ = some (.slice za s.sh.length la) := HX8.out.cell 0 rfl
            have d1 : W8.cell? ⟨w7.heap.size, 1, none⟩ = some (.slice zb s.x.length lb) := HX8.out.cell 1 rfl
            have d2 : W8.cell? ⟨w7.heap.size, 2, none⟩ = some (.slice zc s.lb.length lc) := HX8.out.cell 2 rfl
            have d3 : W8.cell? ⟨w7.heap.size, 3, none⟩ = some (.slice zd s.y.length ld) := HX8.out.cell 3 rfl
            have q0 : W8.cell? ⟨b, off + k * 4, none⟩ = some (.slice o1 s.sh.length cap1) := HS8.out.c0
            have q1 : W8.cell? ⟨b, off + k * 4 + 1, none⟩ = some (.slice o2 s.x.length cap2) := HS8.out.c1
            have q2 : W8.cell? ⟨b, off + k * 4 + 2, none⟩ = some (.slice o3 s.lb.length cap3) := HS8.out.c2
            have q3 : W8.cell? ⟨b, off + k * 4 + 3, none⟩ = some (.slice o4 s.y.length cap4) := HS8.out.c3
            clear hd hb7 hos hal hbl hW8 HB6 HE6
            rw [HW8.out] at d0 d1 d2 d3 q0 q1 q2 q3
            go_wp2_with fail
            rw [← HW8.out] at d0 d1 d2 d3 q0 q1 q2 q3 ⊢
            clear HW8
            go_cut [91] (fun s91 wx => s91 = .bool false ∧ Below W8.heap.size W8 wx)
            case first =>
              go_region_with (first
                | (go_at_call 16; refine (num30_any _ _).mono ?_; rintro e w' ⟨rfl, rfl⟩)
                | (go_at_call 28; refine (eqSet_yes _ _ _ _ _ _ _ _ s _ (HR8.out.below (Below.drew (Below.refl _ _)) (Nat.le_refl _)) (HS8.out.rd.below (Below.drew (Below.refl _ _)) (Nat.le_refl _)) HL.out).mono ?_; rintro e w9 ⟨rfl, hb9⟩; have HX := Lib.hid ((Below.drew (Below.refl W8.heap.size W8)).trans hb9); clear hb9))
              all_goals (go_wp2_with fail; go_meet; exact ⟨rfl, HX.out⟩)
            case rest =>
              obtain ⟨rfl, hb9⟩ := hcut
              obtain ⟨w9, rfl⟩ : ∃ w9, w9 = wc := ⟨_, rfl⟩
              have HBZ := Lib.hid (HB8.out.trans (hb9.mono HB8.out.size))
              have HEZ := Lib.hid (own_below HE8.out hb9 (Nat.le_refl _))
              have hszz : W4.heap.size ≤ w9.heap.size := Nat.le_trans hsz8 hb9.size
              clear hb9 d0 d1 d2 d3 q0 q1 q2 q3 HX8 HB8 HE8 HR8 HS8
              go_wp2_with fail
              refine (law0Bytes_any _ wl W4.heap.size _ HEZ.out (by omega) (by omega)).mono ?_
              rintro e w9 ⟨rfl, hg9⟩
              have HB9 := Lib.hid (HBZ.out.trans ((below_grown HEZ.out hg9 (by omega)).mono (by have := HB4s.out; omega)))
              clear hg9
              go_wp2_with fail
              go_roundg (n - (k + 1))
              case rel => exact ⟨k + 1, rfl, by omega, by go_num, HB9.out⟩
              case measure => omega
        | false =>
          have HG := Lib.hid hg
          have HCD := Lib.hid (show cdS s = 1 by rw [cdS, HG.out, cond_false])
          have HWL := Lib.hid (show encR s = [] by rw [encR, HG.out, cond_false])
          have HOW := Lib.hid (show OwnI w2 w2.heap.size 5 .u8 (.slice none 0 0) [] from ⟨rfl, .inl ⟨rfl, rfl⟩⟩)
          clear hg
          --R2
          go_wp2_with fail
          refine (copySet_any _ _ _ _ s _ HS2.out.rd HL.out).mono ?_
          rintro e w4 ⟨⟨a, bq, c, d, rfl, hos⟩, hb4⟩
          obtain ⟨aa, ka, rfl⟩ := own_slice hos.sh
          obtain ⟨ab, kb, rfl⟩ := own_slice hos.x
          obtain ⟨ac, kc, rfl⟩ := own_slice hos.lb
          obtain ⟨ad, kd, rfl⟩ := own_slice hos.y
          obtain ⟨W4, hW4⟩ : ∃ W4, W4 = (w4.alloc (.cells #[.slice aa s.sh.length ka, .slice ab s.x.length kb, .slice ac s.lb.length kc, .slice ad s.y.length kd] 35)) := ⟨_, rfl⟩
          have hal : Below w4.heap.size w4 W4 := by rw [hW4]; exact (Below.refl _ _).alloc (Nat.le_refl _) _
          have HX4 := Lib.hid (show Box W4 w4.heap.size 35 #[.slice aa s.sh.length ka, .slice ab s.x.length kb, .slice ac s.lb.length kc, .slice ad s.y.length kd] by rw [hW4]; exact Box.new _ _ _)
          have hbl : Below w2.heap.size w2 W4 := hb4.trans (hal.mono hb4.size)
          have HB4 := Lib.hid (HB2.out.trans (hbl.mono HB2.out.size))
          have HOW4 := Lib.hid (own_below HOW.out hbl (Nat.le_refl _))
          have HOS4 := Lib.hid (hos.below hal (Nat.le_refl _))
          have HW4 := Lib.hid hW4
          have HB4s := Lib.hid HB4.out.size
          have hsw : w4.heap.size < W4.heap.size := HX4.out.lt
          have d0 : W4.cell? ⟨w4.heap.size, 0, none⟩ = some (.slice aa s.sh.length ka) := HX4.out.cell 0 rfl
          have d1 : W4.cell? ⟨w4.heap.size, 1, none⟩ = some (.slice ab s.x.length kb) := HX4.out.cell 1 rfl
          have d2 : W4.cell? ⟨w4.heap.size, 2, none⟩ = some (.slice ac s.lb.length kc) := HX4.out.cell 2 rfl
          have d3 : W4.cell? ⟨w4.heap.size, 3, none⟩ = some (.slice ad s.y.length kd) := HX4.out.cell 3 rfl
          clear hal hW4 hbl hos hb4 q0 q1 q2 q3 HS2 HOW
          rw [HW4.out] at d0 d1 d2 d3
          go_wp2_with fail
          rw [← HW4.out]
          clear d0 d1 d2 d3 HW4
          refine (dataEncode_any _ _ _ _ s _ HOS4.out.rd HL.out).mono ?_
          rintro e w5 ⟨v5, rfl, ho5, hb5⟩
          obtain ⟨o5, k5, rfl⟩ := own_slice ho5
          rw [HCD.out]
          rw [HWL.out] at ho5 ⊢
          have HX5 := Lib.hid (HX4.out.next hb5)
          have HB5 := Lib.hid (HB4.out.trans (hb5.mono HB4.out.size))
          have HOW5 := Lib.hid (own_below HOW4.out hb5 (Nat.le_refl _))
          have HOS5 := Lib.hid (HOS4.out.below hb5 (Nat.le_refl _))
          have HE5 := Lib.hid ho5
          have HS5 := Lib.hid (HS.out.below HB5.out)
          obtain ⟨q0, q1, q2, q3, _, _, _, _, _⟩ := HS.out.below HB5.out
          have d0 : w5.cell? ⟨w4.heap.size, 0, none⟩ = some (.slice aa s.sh.length ka) := HX5.out.cell 0 rfl
          have d1 : w5.cell? ⟨w4.heap.size, 1, none⟩ = some (.slice ab s.x.length kb) := HX5.out.cell 1 rfl
          have d2 : w5.cell? ⟨w4.heap.size, 2, none⟩ = some (.slice ac s.lb.length kc) := HX5.out.cell 2 rfl
          have d3 : w5.cell? ⟨w4.heap.size, 3, none⟩ = some (.slice ad s.y.length kd) := HX5.out.cell 3 rfl
          have hsz5 := hb5.size
          clear hb5 ho5 HX4 HB4 HOW4 HOS4
          go_wp2_with fail
          have HX := Lib.hid (show Below w5.heap.size w5 w5.drew from Below.drew (Below.refl _ _))
          go_cut [72] (fun s72 wx => s72 = .bool false ∧ Below w5.heap.size w5 wx)
          case first =>
            --<A
            go_region_with (first
              | (go_at_call 35; refine (dataCheck_cd _ _ _ _ s _ (HOS5.out.rd.below HX.out (Nat.le_refl _)) HL.out).mono ?_; rintro e w6 ⟨rfl, hb6⟩; rw [HCD.out]; have HX := Lib.hid (HX.out.trans (hb6.mono HX.out.size)); have d0 : w6.cell? ⟨w4.heap.size, 0, none⟩ = some (.slice aa s.sh.length ka) := (HX5.out.next HX.out).cell 0 rfl; have d1 : w6.cell? ⟨w4.heap.size, 1, none⟩ = some (.slice ab s.x.length kb) := (HX5.out.next HX.out).cell 1 rfl; have d2 : w6.cell? ⟨w4.heap.size, 2, none⟩ = some (.slice ac s.lb.length kc) := (HX5.out.next HX.out).cell 2 rfl; have d3 : w6.cell? ⟨w4.heap.size, 3, none⟩ = some (.slice ad s.y.length kd) := (HX5.out.next HX.out).cell 3 rfl; have q0 : w6.cell? ⟨b, off + k * 4, none⟩ = some (.slice o1 s.sh.length cap1) := (HS5.out.below HX.out).c0; have q1 : w6.cell? ⟨b, off + k * 4 + 1, none⟩ = some (.slice o2 s.x.length cap2) := (HS5.out.below HX.out).c1; have q2 : w6.cell? ⟨b, off + k * 4 + 2, none⟩ = some (.slice o3 s.lb.length cap3) := (HS5.out.below HX.out).c2; have q3 : w6.cell? ⟨b, off + k * 4 + 3, none⟩ = some (.slice o4 s.y.length cap4) := (HS5.out.below HX.out).c3; clear hb6)
              | (go_at_call 16; refine (num30_any _ _).mono ?_; rintro e w' ⟨rfl, rfl⟩)
              | (go_at_call 31; refine (eqBytes_yes (Rd.of_own (own_below HE5.out HX.out (Nat.le_refl _))) (Rd.of_own (own_below HOW5.out HX.out (Nat.le_refl _))) (by simp)).mono ?_; rintro e w7 ⟨rfl, hs7⟩; have HX := Lib.hid (HX.out.trans (hs7.below _)); have d0 : w7.cell? ⟨w4.heap.size, 0, none⟩ = some (.slice aa s.sh.length ka) := (HX5.out.next HX.out).cell 0 rfl; have d1 : w7.cell? ⟨w4.heap.size, 1, none⟩ = some (.slice ab s.x.length kb) := (HX5.out.next HX.out).cell 1 rfl; have d2 : w7.cell? ⟨w4.heap.size, 2, none⟩ = some (.slice ac s.lb.length kc) := (HX5.out.next HX.out).cell 2 rfl; have d3 : w7.cell? ⟨w4.heap.size, 3, none⟩ = some (.slice ad s.y.length kd) := (HX5.out.next HX.out).cell 3 rfl; have q0 : w7.cell? ⟨b, off + k * 4, none⟩ = some (.slice o1 s.sh.length cap1) := (HS5.out.below HX.out).c0; have q1 : w7.cell? ⟨b, off + k * 4 + 1, none⟩ = some (.slice o2 s.x.length cap2) := (HS5.out.below HX.out).c1; have q2 : w7.cell? ⟨b, off + k * 4 + 2, none⟩ = some (.slice o3 s.lb.length cap3) := (HS5.out.below HX.out).c2; have q3 : w7.cell? ⟨b, off + k * 4 + 3, none⟩ = some (.slice o4 s.y.length cap4) := (HS5.out.below HX.out).c3; clear hs7)
              | (go_at_call 28; refine (eqSet_yes _ _ _ _ _ _ _ _ s _ (HOS5.out.rd.below HX.out (Nat.le_refl _)) (HS5.out.rd.below HX.out (Nat.le_refl _)) HL.out).mono ?_; rintro e w8 ⟨rfl, hb8⟩; have HX := Lib.hid (HX.out.trans (hb8.mono HX.out.size)); clear hb8))
            all_goals (go_wp2_with fail; go_meet; exact ⟨rfl, HX.out⟩)
            --A>
          case rest =>
            obtain ⟨rfl, hb6⟩ := hcut
            obtain ⟨w6, rfl⟩ : ∃ w6, w6 = wc := ⟨_, rfl⟩
            have HB6 := Lib.hid (HB5.out.trans (hb6.mono HB5.out.size))
            have HE6 := Lib.hid (own_below HE5.out hb6 (Nat.le_refl _))
            have hsz6 : W4.heap.size ≤ w6.heap.size := Nat.le_trans (by have := hsz5; exact this) hb6.size
            clear HX hb6 d0 d1 d2 d3 q0 q1 q2 q3 HOS5 HOW5 HS5 HX5 HB5 HE5

            have HBZ := HB6
            have HEZ := HE6
            go_wp2_with fail

            refine (law0Bytes_any _ [] W4.heap.size _ HEZ.out (by omega) (by simp)).mono ?_
            rintro e w9 ⟨rfl, hg9⟩
            have HB9 := Lib.hid (HBZ.out.trans ((below_grown HEZ.out hg9 (by omega)).mono (by have := HB4s.out; omega)))
            clear hg9
            go_wp2_with fail
            go_roundg (n - (k + 1))
            case rel => exact ⟨k + 1, rfl, by omega, by go_num, HB9.out⟩
            case measure => omega
    · have HE : Hid (k = n ∨ 6 ≤ k) := Lib.hid (by omega)
      have hq : ¬ (k < n ∧ k < 6) := hlt
      clear hlt
      by_cases hkn : k < n
      · have hk6 : decide ((k : Int) < 6) = false := decide_eq_false (by omega)
        go_wp2_with fail
        refine (wakes30_any _).mono ?_
        rintro e w1 ⟨rfl, hb1⟩
        have HB1 := Lib.hid (HB.out.trans (hb1.mono HB.out.size))
        clear hb1
        go_wp2
        go_ret
        exact ⟨rfl, HB1.out⟩
      · have hkd : decide ((k : Int) < n) = false := decide_eq_false (by omega)
        go_wp2_with fail
        refine (wakes30_any _).mono ?_
        rintro e w1 ⟨rfl, hb1⟩
        have HB1 := Lib.hid (HB.out.trans (hb1.mono HB.out.size))
        clear hb1
        go_wp2
        go_ret
        exact ⟨rfl, HB1.out⟩
end Go.Proofs.Ytjhejpeklppmbaa
