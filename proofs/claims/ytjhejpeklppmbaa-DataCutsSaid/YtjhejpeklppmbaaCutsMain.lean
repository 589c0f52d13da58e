/-
  THE LAW DataCuts, walked.
-/
import Derived.Test.YtjhejpeklppmbaaEncodesMain
set_option linter.unusedVariables false
set_option linter.unusedSimpArgs false
namespace Go.Proofs.Ytjhejpeklppmbaa
open Go.RowKit Go.Shelf
theorem decode_none (v : Value) (bs : List Int) (w : World) (hr : Rd w .u8 v bs) (hw : Wf .u8 bs) (hl : bs.length ≤ 100000) (hcap : ∀ o n cap, v = .slice o n cap → n ≤ cap) (hn : decP bs = none) :
    Calls Try.prog 29 #[v] w fun e w' => e = .returned (.tuple #[.agg #[.slice none 0 0, .slice none 0 0, .slice none 0 0, .slice none 0 0], .int .i64 1]) ∧ Below w.heap.size w w' :=
  (decode_any v bs w hr hw hl hcap).mono fun e w' ⟨hd, hb, _⟩ => ⟨by rw [hn] at hd; exact hd, hb⟩
set_option maxRecDepth 100000 in
set_option maxHeartbeats 4000000 in
theorem cuts_any (o : Option Addr) (n cap : Nat) (w : World) (hn : n ≤ 140737488351232) (ha : SetsArg w o n) :
    Calls Try.prog 7 #[.slice o n cap] w fun e w' => e = .returned (.bool true) ∧ Below w.heap.size w w' := by
  have HA := Lib.hid ha
  clear ha
  go_enter Try.func7, Try.ntmps7
  go_wp2_with fail
  go_loopg [3] n (fun g i wr => ∃ k : Nat, g = n - k ∧ k ≤ n ∧ i = .int .i64 k ∧ Below w.heap.size w wr)
  case atStart => exact ⟨0, rfl, Nat.zero_le _, rfl, Below.refl _ _⟩
  case round =>
    obtain ⟨k, hg, hk, rfl, hB⟩ := hrel
    obtain ⟨w0, rfl⟩ : ∃ w0, w0 = wr := ⟨_, rfl⟩
    have HB := Lib.hid hB
    clear hB
    by_cases hlt : k < n ∧ k < 3
    · obtain ⟨hkn, hk6⟩ := hlt
      obtain ⟨b, off, v0, v1, v2, v3, s, ho, hs⟩ := HA.out k hkn
      subst ho
      obtain ⟨o1, cap1, rfl⟩ := rd_slice hs.rd.sh
      obtain ⟨o2, cap2, rfl⟩ := rd_slice hs.rd.x
      obtain ⟨o3, cap3, rfl⟩ := rd_slice hs.rd.lb
      obtain ⟨o4, cap4, rfl⟩ := rd_slice hs.rd.y
      have hs0 := hs.below HB.out
      have HS := Lib.hid hs
      have HS0 := Lib.hid hs0
      obtain ⟨q0, q1, q2, q3, _, m0, m1, m2, m3⟩ := hs0
      clear hs
      go_wp2_with fail
      refine (heavy30_any _ _ _ _ s _ HS0.out.rd ⟨by omega, by omega, by omega, by omega⟩).mono ?_
      rintro e w1 ⟨rfl, hb1⟩
      have HB1 := Lib.hid (HB.out.trans (hb1.mono HB.out.size))
      clear hb1 q0 q1 q2 q3 m0 m1 m2 m3 HS0
      cases hh : heavyS s with
      | true =>
        clear hh
        go_wp2_with fail
        go_ret
        exact ⟨rfl, HB1.out⟩
      | false =>
        have hlim := heavy_lim hh
        have HL := Lib.hid (show LimSet s from ⟨by omega, by omega, by omega, by omega⟩)
        have HS1 := Lib.hid (HS.out.below HB1.out)
        have q0 := HS1.out.c0
        have q1 := HS1.out.c1
        have q2 := HS1.out.c2
        have q3 := HS1.out.c3
        have HLEN := Lib.hid (encSet_len hlim)
        clear hh hlim
        go_wp2_with fail
        refine (copySet_any _ _ _ _ s _ HS1.out.rd HL.out).mono ?_
        rintro e w2 ⟨⟨a, bq, c, d, rfl, hos⟩, hb2⟩
        have HB2 := Lib.hid (HB1.out.trans (hb2.mono HB1.out.size))
        have HO2 := Lib.hid hos
        clear hb2 hos q0 q1 q2 q3 HS1
        go_wp2_with fail
        refine (dataEncode_any _ _ _ _ s _ HO2.out.rd HL.out).mono ?_
        rintro e w3 ⟨v3, rfl, ho3, hb3⟩
        have HB3 := Lib.hid (HB2.out.trans (hb3.mono HB2.out.size))
        clear hb3 HO2
        cases hg : goodSet s with
        | false =>
          rw [show cdS s = 1 by rw [cdS, hg, cond_false]]
          clear hg ho3
          go_wp2_with (go_at_call 16; refine (num30_any _ _).mono ?_; rintro e w' ⟨rfl, rfl⟩)
          go_roundg (n - (k + 1))
          case rel => exact ⟨k + 1, rfl, by omega, by go_num, HB3.out⟩
          case measure => omega
        | true =>
          rw [show cdS s = 0 by rw [cdS, hg, cond_true]]
          obtain ⟨bs, hbs⟩ : ∃ bs, bs = encR s := ⟨_, rfl⟩
          rw [← hbs] at ho3 HLEN
          have he : bs = encSet s := by rw [hbs, encR, hg, cond_true]
          have hwf : Wf .u8 bs := by rw [he]; exact encSet_wf (goodSet_parts hg).2.2.1
          have HWF := Lib.hid hwf
          have HCUT := Lib.hid (show ∀ m, m < bs.length → decP (bs.take m) = none by rw [he]; rw [he] at hwf; exact fun m hm => decP_cut hg hwf m hm)
          have HMORE := Lib.hid (show decP (bs ++ [0]) = none by rw [he]; exact decP_more hg 0 [])
          obtain ⟨o3, k3, rfl⟩ := own_slice ho3
          have HO3 := Lib.hid ho3
          have hbl : bs.length ≤ 10000 := HLEN.out
          have hkc := own_cap ho3 _ _ _ rfl
          clear hg hbs he ho3 hwf
          go_wp2_with (go_at_call 16; refine (num30_any _ _).mono ?_; rintro e w' ⟨rfl, rfl⟩)
          have hq1 : 0 ≤ (bs.length : Int) / 40 := by omega
          have hq2 : (bs.length : Int) / 40 ≤ 10000 := by omega
          go_loopg [6] bs.length (fun g i wr => ∃ m : Nat, g = bs.length - m ∧ m ≤ 40000 ∧ i = .int .i64 m ∧ Below w3.heap.size w3 wr)
          case atStart => exact ⟨0, rfl, Nat.zero_le _, rfl, Below.refl _ _⟩
          case round =>
            obtain ⟨m, hgm, hm, rfl, hBm⟩ := hrel
            obtain ⟨w4, rfl⟩ : ∃ w4, w4 = wr := ⟨_, rfl⟩
            have HBM := Lib.hid hBm
            clear hBm
            by_cases hmb : m < bs.length
            · have HR := Lib.hid (show Rd w4 .u8 (.slice o3 m k3) (bs.take m) from (Rd.of_own (own_below HO3.out HBM.out (Nat.le_refl _))).take m (by omega))
              have htl : (bs.take m).length = m := by rw [List.length_take]; omega
              have HTL := Lib.hid htl
              clear htl
              go_wp2_with fail
              refine (copyBytes_any _ (bs.take m) _ HR.out (by rw [HTL.out]; omega)).mono ?_
              rintro e w5 ⟨v5, rfl, ho5, hb5⟩
              have hcb := own_cap ho5
              have HO5 := Lib.hid ho5
              have HB5 := Lib.hid (HBM.out.trans (hb5.mono HBM.out.size))
              have HCB := Lib.hid hcb
              clear ho5 hb5 hcb
              go_wp2_with fail
              refine (decode_none _ (bs.take m) _ (Rd.of_own HO5.out) (HWF.out.take m) (by rw [HTL.out]; omega) HCB.out (HCUT.out m hmb)).mono ?_
              rintro e w6 ⟨rfl, hb6⟩
              have HB6 := Lib.hid (((HB5.out.trans (hb6.mono HB5.out.size))).alloc (by have := HB5.out.size; have := hb6.size; omega) (.cells #[.slice none 0 0, .slice none 0 0, .slice none 0 0, .slice none 0 0] 35))
              clear hb6
              go_wp2_with (go_at_call 16; refine (num30_any _ _).mono ?_; rintro e w' ⟨rfl, rfl⟩)
              have he : (m : Int) + 1 + (bs.length : Int) / 40 = ((m + 1 + bs.length / 40 : Nat) : Int) := by omega
              go_roundg (bs.length - (m + 1 + bs.length / 40))
              case rel => exact ⟨m + 1 + bs.length / 40, rfl, by omega, by rw [he], HB6.out⟩
              case measure => omega
            · have HR := Lib.hid (Rd.of_own (own_below HO3.out HBM.out (Nat.le_refl _)))
              go_wp2_with fail
              refine (copyBytes_any _ bs _ HR.out (by omega)).mono ?_
              rintro e w5 ⟨v5, rfl, ho5, hb5⟩
              obtain ⟨i0, hi, hz0, hz1, hz2⟩ := info_parts info_u8
              have HO5 := Lib.hid ho5
              have HB5 := Lib.hid (HBM.out.trans (hb5.mono HBM.out.size))
              have hsz := hb5.size
              clear ho5 hb5
              go_wp2_with (at_builtin; refine wpList_append_own _ rfl _ _ 23 rfl w4.heap.size 5 i0 (.int .u8 0) 1 1 Try.underlying23 hi hz0 hz1 hz2 rfl (by decide) _ _ _ rfl (HO5.out.alloc _) ⟨w5.heap.size, 0, none⟩ 1 1 [.int .u8 0] rfl rfl (cell_one_new _ _ _) (by simp [Value.oneCell']) (by unfold maxLen; omega) (by omega) (by simp; omega) ?_; intro v' w7 hown' hgrow _; have HO7 := Lib.hid (own_snoc hown'); have HB7 := Lib.hid (HB5.out.trans ((below_append' (C := w4.heap.size) (Below.refl _ _) hsz HO5.out hgrow).mono HBM.out.size)); clear hown' hgrow)
              have hcb := own_cap HO7.out
              have HCB := Lib.hid hcb
              clear hcb
              refine (decode_none _ (bs ++ [0]) _ (Rd.of_own HO7.out) (fun x hx => (List.mem_append.1 hx).elim (HWF.out x) (fun h => by simp at h; subst h; rfl)) (by rw [List.length_append, List.length_singleton]; omega) HCB.out HMORE.out).mono ?_
              rintro e w8 ⟨rfl, hb8⟩
              have HB8 := Lib.hid ((HB3.out.trans ((HB7.out.trans (hb8.mono HB7.out.size)).mono HB3.out.size)).alloc (by have := HB3.out.size; have := HB7.out.size; have := hb8.size; omega) (.cells #[.slice none 0 0, .slice none 0 0, .slice none 0 0, .slice none 0 0] 35))
              clear hb8 hi hz0 hz1 hz2
              go_wp2_with (go_at_call 16; refine (num30_any _ _).mono ?_; rintro e w' ⟨rfl, rfl⟩)
              go_roundg (n - (k + 1))
              case rel => exact ⟨k + 1, rfl, by omega, by go_num, HB8.out⟩
              case measure => omega
    · have hq : ¬ (k < n ∧ k < 3) := hlt
      clear hlt
      by_cases hkn : k < n
      · have hk6 : decide ((k : Int) < 3) = false := decide_eq_false (by omega)
        go_wp2_with fail
        refine (wakes30_any _).mono ?_
        rintro e w1 ⟨rfl, hb1⟩
        have HB1 := Lib.hid (HB.out.trans (hb1.mono HB.out.size))
        clear hb1
        go_wp2
        go_ret
        exact ⟨rfl, HB1.out⟩
      · have hkd : decide ((k : Int) < n) = false := decide_eq_false (by omega)
        go_wp2_with fail
        refine (wakes30_any _).mono ?_
        rintro e w1 ⟨rfl, hb1⟩
        have HB1 := Lib.hid (HB.out.trans (hb1.mono HB.out.size))
        clear hb1
        go_wp2
        go_ret
        exact ⟨rfl, HB1.out⟩
end Go.Proofs.Ytjhejpeklppmbaa
