/-
  THE LAW DataDecodes, walked.
-/
import Derived.Test.YtjhejpeklppmbaaSpoils
set_option linter.unusedVariables false
set_option linter.unusedSimpArgs false
namespace Go.Proofs.Ytjhejpeklppmbaa
open Go.RowKit Go.Shelf
/-- a slice of slices of bytes, as the walk wants it -/
def SlicesB (w : World) (o : Option Addr) (n : Nat) : Prop :=
  ∀ i, i < n → ∃ b off v xs, o = some ⟨b, off, none⟩ ∧ w.cell? ⟨b, off + i, none⟩ = some v ∧ Rd w .u8 v xs ∧ Wf .u8 xs ∧ xs.length ≤ 140737488351232
def nilSet : SetD := ⟨[], [], [], []⟩
def codeR (r : Option SetD) : Int := match r with | some _ => 0 | none => 1
def setR (r : Option SetD) : SetD := r.getD nilSet
theorem decOut_set {B : Nat} {r : Option SetD} {e : Ending} {w : World} (h : DecOut B r e w) : ∃ a b c d, e = .returned (.tuple #[.agg #[a, b, c, d], .int .i64 (codeR r)]) ∧ OwnSet w B a b c d (setR r) := by
  cases r with
  | some s =>
    obtain ⟨a, b, c, d, he, h1, h2, h3, h4⟩ := h
    exact ⟨a, b, c, d, he, ⟨h1, h2, h3, h4⟩⟩
  | none => exact ⟨_, _, _, _, h, ⟨⟨rfl, .inl ⟨rfl, rfl⟩⟩, ⟨rfl, .inl ⟨rfl, rfl⟩⟩, ⟨rfl, .inl ⟨rfl, rfl⟩⟩, ⟨rfl, .inl ⟨rfl, rfl⟩⟩⟩⟩
theorem setR_lim {xs : List Int} (hw : Wf .u8 xs) (hl : xs.length ≤ 100000) : LimSet (setR (decP xs)) := by
  cases h : decP xs with
  | none => exact ⟨by simp [setR, nilSet], by simp [setR, nilSet], by simp [setR, nilSet], by simp [setR, nilSet]⟩
  | some s =>
    have := setP_lens (decP_good h).2 hw
    exact ⟨by simp only [setR, Option.getD_some]; omega, by simp only [setR, Option.getD_some]; omega, by simp only [setR, Option.getD_some]; omega, by simp only [setR, Option.getD_some]; omega⟩
theorem own_cap {w : World} {B : Nat} {e : TypeId} {s n : Nat} {v : Value} {xs : List Value} (h : w.ownsRow B e s v n xs) : ∀ o m cap, v = .slice o m cap → m ≤ cap := fun o m cap hv => by
  rcases h.2 with ⟨rfl, h0⟩ | ⟨g, cap', cur, rfl, _, _, hc, _⟩
  · simp at hv; omega
  · simp at hv; omega
theorem own_far {w w' : World} {B C : Nat} {e : TypeId} {s n : Nat} {v : Value} {xs : List Value} (h : w.ownsRow B e s v n xs) (hB : Below C w w') (hv : ∀ g, v.ownBlock = some g → g < C) : w'.ownsRow B e s v n xs := by
  refine ⟨h.1, ?_⟩
  rcases h.2 with hn | ⟨g, cap, cur, rfl, hb, hgg, rest⟩
  · exact .inl hn
  · exact .inr ⟨g, cap, cur, rfl, hb, by rw [hB.block g (hv g rfl)]; exact hgg, rest⟩
set_option maxRecDepth 100000 in
set_option maxHeartbeats 4000000 in
theorem decodes_any (o : Option Addr) (n cap : Nat) (w : World) (hn : n ≤ 140737488351232) (ha : SlicesB w o n) :
    Calls Try.prog 6 #[.slice o n cap] w fun e w' => e = .returned (.bool true) ∧ Below w.heap.size w w' := by
  have HA := Lib.hid ha
  clear ha
  go_enter Try.func6, Try.ntmps6
  go_wp2_with fail
  go_loopg [3] n (fun g i wr => ∃ k : Nat, g = n - k ∧ k ≤ n ∧ i = .int .i64 k ∧ Below w.heap.size w wr)
  case atStart => exact ⟨0, rfl, Nat.zero_le _, rfl, Below.refl _ _⟩
  case round =>
    obtain ⟨k, hg, hk, rfl, hB⟩ := hrel
    obtain ⟨w0, rfl⟩ : ∃ w0, w0 = wr := ⟨_, rfl⟩
    have HB := Lib.hid hB
    clear hB
    by_cases hlt : k < n ∧ k < 6
    · obtain ⟨hkn, hk6⟩ := hlt
      obtain ⟨b, off, v, xs, ho, hc, hrd, hwf, hxl⟩ := HA.out k hkn
      subst ho
      obtain ⟨ox, cx, rfl⟩ := rd_slice hrd
      have c0 : w0.cell? ⟨b, off + k, none⟩ = some (.slice ox xs.length cx) := (HB.out.cell (cell_lt hc)).trans hc
      have HC := Lib.hid hc
      have HR := Lib.hid hrd
      have HW := Lib.hid hwf
      clear hc hrd hwf
      by_cases hbig : 8000 < xs.length
      · go_wp2
        go_ret
        exact ⟨rfl, HB.out⟩
      · have HR0 := Lib.hid (HR.out.below HB.out (Nat.le_refl _))
        go_wp2_with fail
        refine (copyBytes_any _ xs _ HR0.out (by omega)).mono ?_
        rintro e w1 ⟨vb, rfl, hob, hb1⟩
        have hcb := own_cap hob
        obtain ⟨ob, cb, rfl⟩ := own_slice hob
        have HB1 := Lib.hid (HB.out.trans (hb1.mono HB.out.size))
        have HOB := Lib.hid (show OwnI w1 w0.heap.size 5 .u8 (.slice ob xs.length cb) xs from hob)
        have hsz1 := hb1.size
        clear hob hb1 c0
        have HCB := Lib.hid hcb
        have HOB1 := Lib.hid (show ∀ g, (Value.slice ob xs.length cb).ownBlock = some g → g < w1.heap.size from fun g hg => (HOB.out.lt g hg).2)
        clear hcb
        obtain ⟨r, hr⟩ : ∃ r, r = decP xs := ⟨_, rfl⟩
        have HLM := Lib.hid (setR_lim HW.out (by omega))
        have HREF := Lib.hid (dR0_eq xs HW.out)
        have HINV := Lib.hid (fun (s : SetD) (h : decP xs = some s) => decP_inv h HW.out)
        rw [← hr] at HLM HREF HINV
        obtain ⟨t, ht⟩ : ∃ t, t = setR r := ⟨_, rfl⟩
        obtain ⟨cd, hcd⟩ : ∃ cd, cd = codeR r := ⟨_, rfl⟩
        rw [← ht] at HLM
        have HT := Lib.hid ht
        have HCD := Lib.hid hcd
        have HRR := Lib.hid hr
        clear ht hcd hr
        go_wp2_with fail
        refine (decode_any _ xs _ (Rd.of_own HOB.out) HW.out (by omega) HCB.out).mono ?_
        rintro e w2 ⟨hd, hb2, hsep⟩
        rw [← HRR.out] at hd
        obtain ⟨a, bq, c, d, rfl, hos⟩ := decOut_set hd
        rw [← HT.out] at hos
        rw [← HCD.out]
        have hse := hsep _ _ _ _ _ rfl
        obtain ⟨aa, ka, rfl⟩ := own_slice hos.sh
        obtain ⟨ab, kb, rfl⟩ := own_slice hos.x
        obtain ⟨ac, kc, rfl⟩ := own_slice hos.lb
        obtain ⟨ad, kd, rfl⟩ := own_slice hos.y
        have HB2 := Lib.hid (HB1.out.trans (hb2.mono (by have := HB1.out.size; omega)))
        have HOB2 := Lib.hid (own_below HOB.out hb2 (Nat.le_refl _))
        have HOS := Lib.hid hos
        have HSE := Lib.hid hse
        have hsz2 := hb2.size
        clear hd hb2 hsep hos hse HOB HCB
        obtain ⟨W2, hW2⟩ : ∃ W2, W2 = (w2.alloc (.cells #[.slice aa t.sh.length ka, .slice ab t.x.length kb, .slice ac t.lb.length kc, .slice ad t.y.length kd] 35)) := ⟨_, rfl⟩
        have hal : Below w2.heap.size w2 W2 := by rw [hW2]; exact (Below.refl _ _).alloc (Nat.le_refl _) _
        have HX2 := Lib.hid (show Box W2 w2.heap.size 35 #[.slice aa t.sh.length ka, .slice ab t.x.length kb, .slice ac t.lb.length kc, .slice ad t.y.length kd] by rw [hW2]; exact Box.new _ _ _)
        have HB3 := Lib.hid (HB2.out.trans (hal.mono (by have := HB2.out.size; omega)))
        have HOB3 := Lib.hid (own_below HOB2.out hal (Nat.le_refl _))
        have HOS3 := Lib.hid (HOS.out.below hal (Nat.le_refl _))
        have hszW : w2.heap.size < W2.heap.size := HX2.out.lt
        have HW2 := Lib.hid hW2
        have c0 : W2.cell? ⟨b, off + k, none⟩ = some (.slice ox xs.length cx) := (HB3.out.cell (cell_lt HC.out)).trans HC.out
        clear hal HB2 HOB2 HOS hW2
        rw [HW2.out] at c0
        go_wp2_with fail
        rw [← HW2.out] at c0 ⊢
        clear HW2
        refine (refDecode_any _ xs _ (HR.out.below HB3.out (Nat.le_refl _)) HW.out (by omega)).mono ?_
        rintro e w3 ⟨hd, hb3⟩
        rw [HREF.out] at hd
        obtain ⟨a, bq, c, d, rfl, hos⟩ := decOut_set hd
        rw [← HT.out] at hos
        rw [← HCD.out]
        obtain ⟨za, la, rfl⟩ := own_slice hos.sh
        obtain ⟨zb, lb, rfl⟩ := own_slice hos.x
        obtain ⟨zc, lc, rfl⟩ := own_slice hos.lb
        obtain ⟨zd, ld, rfl⟩ := own_slice hos.y
        obtain ⟨W4, hW4⟩ : ∃ W4, W4 = (w3.alloc (.cells #[.slice za t.sh.length la, .slice zb t.x.length lb, .slice zc t.lb.length lc, .slice zd t.y.length ld] 35)) := ⟨_, rfl⟩
        have hal : Below w3.heap.size w3 W4 := by rw [hW4]; exact (Below.refl _ _).alloc (Nat.le_refl _) _
        have hbl : Below W2.heap.size W2 W4 := hb3.trans (hal.mono hb3.size)
        have HX5 := Lib.hid (show Box W4 w3.heap.size 35 #[.slice za t.sh.length la, .slice zb t.x.length lb, .slice zc t.lb.length lc, .slice zd t.y.length ld] by rw [hW4]; exact Box.new _ _ _)
        have HX4 := Lib.hid (HX2.out.next hbl)
        have HB4 := Lib.hid (HB3.out.trans (hbl.mono (by have := HB3.out.size; omega)))
        have HOB4 := Lib.hid (own_below HOB3.out hbl (Nat.le_refl _))
        have HOS4 := Lib.hid (HOS3.out.below hbl (Nat.le_refl _))
        have HRZ4 := Lib.hid (hos.rd.below hal (Nat.le_refl _))
        have hszW4 := hbl.size
        have HW4 := Lib.hid hW4
        clear hal hW4 hos hd hb3 hbl HOS3 HOB3 HX2 HB3
        have d0 : W4.cell? ⟨w2.heap.size, 0, none⟩ = some (.slice aa t.sh.length ka) := HX4.out.cell 0 rfl
        have d1 : W4.cell? ⟨w2.heap.size, 1, none⟩ = some (.slice ab t.x.length kb) := HX4.out.cell 1 rfl
        have d2 : W4.cell? ⟨w2.heap.size, 2, none⟩ = some (.slice ac t.lb.length kc) := HX4.out.cell 2 rfl
        have d3 : W4.cell? ⟨w2.heap.size, 3, none⟩ = some (.slice ad t.y.length kd) := HX4.out.cell 3 rfl
        have e0 : W4.cell? ⟨w3.heap.size, 0, none⟩ = some (.slice za t.sh.length la) := HX5.out.cell 0 rfl
        have e1 : W4.cell? ⟨w3.heap.size, 1, none⟩ = some (.slice zb t.x.length lb) := HX5.out.cell 1 rfl
        have e2 : W4.cell? ⟨w3.heap.size, 2, none⟩ = some (.slice zc t.lb.length lc) := HX5.out.cell 2 rfl
        have e3 : W4.cell? ⟨w3.heap.size, 3, none⟩ = some (.slice zd t.y.length ld) := HX5.out.cell 3 rfl
        rw [HW4.out] at d0 d1 d2 d3 e0 e1 e2 e3
        go_wp2_with (go_at_call 16; refine (num30_any _ _).mono ?_; rintro e w' ⟨rfl, rfl⟩)
        rw [← HW4.out]
        clear d0 d1 d2 d3 e0 e1 e2 e3 c0 HW4
        refine (eqSet_yes _ _ _ _ _ _ _ _ t _ HOS4.out.rd HRZ4.out HLM.out).mono ?_
        rintro e w5 ⟨rfl, hb5⟩
        have HX5 := Lib.hid (HX4.out.next hb5)
        have HB5 := Lib.hid (HB4.out.trans (hb5.mono (by have := HB4.out.size; omega)))
        have HOB5 := Lib.hid (own_below HOB4.out hb5 (Nat.le_refl _))
        have HOS5 := Lib.hid (HOS4.out.below hb5 (Nat.le_refl _))
        have hsz5 := hb5.size
        have c0 : w5.cell? ⟨b, off + k, none⟩ = some (.slice ox xs.length cx) := (HB5.out.cell (cell_lt HC.out)).trans HC.out
        clear hb5 HB4 HOB4 HOS4 HX4 HRZ4
        go_wp2_with fail
        refine (eqBytes_yes (Rd.of_own HOB5.out) (HR.out.below HB5.out (Nat.le_refl _)) (by omega)).mono ?_
        rintro e w6 ⟨rfl, hs6⟩
        have HX6 := Lib.hid (HX5.out.same hs6)
        have HB6 := Lib.hid (HB5.out.trans (hs6.below _))
        have HOB6 := Lib.hid (own_same HOB5.out hs6)
        have HOS6 := Lib.hid (HOS5.out.below (hs6.below w5.heap.size) (Nat.le_refl _))
        have hsz6 : w6.heap.size = w5.heap.size := by rw [hs6.heap]
        clear hs6 HB5 HOB5 HOS5 HX5 c0
        have d0 : w6.cell? ⟨w2.heap.size, 0, none⟩ = some (.slice aa t.sh.length ka) := HX6.out.cell 0 rfl
        have d1 : w6.cell? ⟨w2.heap.size, 1, none⟩ = some (.slice ab t.x.length kb) := HX6.out.cell 1 rfl
        have d2 : w6.cell? ⟨w2.heap.size, 2, none⟩ = some (.slice ac t.lb.length kc) := HX6.out.cell 2 rfl
        have d3 : w6.cell? ⟨w2.heap.size, 3, none⟩ = some (.slice ad t.y.length kd) := HX6.out.cell 3 rfl
        by_cases hz : cd = 0
        · have hzb : (cd == 0) = true := by simp [hz]
          obtain ⟨s, hs⟩ : ∃ s, r = some s := by
            cases hr : r with
            | some s => exact ⟨s, rfl⟩
            | none => have := HCD.out; rw [hr] at this; simp [codeR] at this; omega
          have hts : t = s := by rw [HT.out, hs]; rfl
          have hiv := HINV.out s hs
          rw [← hts] at hiv
          have HG := Lib.hid hiv
          clear hz hs hts hiv
          go_wp2_with fail
          clear d0 d1 d2 d3
          refine (dataEncode_good _ _ _ _ t _ HOS6.out.rd HG.out.1 HLM.out).mono ?_
          rintro e w7 ⟨v7, rfl, ho7, hb7⟩
          obtain ⟨o7, k7, rfl⟩ := own_slice ho7
          rw [← HG.out.2] at ho7 ⊢
          have HX7 := Lib.hid (HX6.out.next hb7)
          have HB7 := Lib.hid (HB6.out.trans (hb7.mono (by have := HB6.out.size; omega)))
          have HOB7 := Lib.hid (own_below HOB6.out hb7 (Nat.le_refl _))
          have HOS7 := Lib.hid (HOS6.out.below hb7 (Nat.le_refl _))
          have HE7 := Lib.hid ho7
          have hsz7 := hb7.size
          have c0 : w7.cell? ⟨b, off + k, none⟩ = some (.slice ox xs.length cx) := (HB7.out.cell (cell_lt HC.out)).trans HC.out
          clear ho7 hb7 HB6 HOB6 HOS6 HX6
          go_wp2_with (go_at_call 16; refine (num30_any _ _).mono ?_; rintro e w' ⟨rfl, rfl⟩)
          refine (eqBytes_yes (Rd.of_own HE7.out) (HR.out.below HB7.out (Nat.le_refl _)) (by omega)).mono ?_
          rintro e w8 ⟨rfl, hs8⟩
          have HX6 := Lib.hid (HX7.out.same hs8)
          have HB6 := Lib.hid (HB7.out.trans (hs8.below _))
          have HOB6 := Lib.hid (own_same HOB7.out hs8)
          have HOS6 := Lib.hid (HOS7.out.below (hs8.below w7.heap.size) (Nat.le_refl _))
          have hsz6 : w8.heap.size = w7.heap.size := by rw [hs8.heap]
          clear hs8 HB7 HOB7 HOS7 HX7 HE7 c0
          obtain ⟨w6, rfl⟩ : ∃ w6, w6 = w8 := ⟨_, rfl⟩
          have d0 : w6.cell? ⟨w2.heap.size, 0, none⟩ = some (.slice aa t.sh.length ka) := HX6.out.cell 0 rfl
          have d1 : w6.cell? ⟨w2.heap.size, 1, none⟩ = some (.slice ab t.x.length kb) := HX6.out.cell 1 rfl
          have d2 : w6.cell? ⟨w2.heap.size, 2, none⟩ = some (.slice ac t.lb.length kc) := HX6.out.cell 2 rfl
          have d3 : w6.cell? ⟨w2.heap.size, 3, none⟩ = some (.slice ad t.y.length kd) := HX6.out.cell 3 rfl

          go_wp2_with fail
          clear d0 d1 d2 d3
          refine (spoil30_any _ _ _ _ t w1.heap.size _ HOS6.out HSE.out (by omega) HLM.out).mono ?_
          rintro e w9 ⟨rfl, hb9⟩
          have HB9 := Lib.hid (HB6.out.trans (hb9.mono (by have := HB1.out.size; omega)))
          have HOB9 := Lib.hid (show OwnI w9 w0.heap.size 5 .u8 (.slice ob xs.length cb) xs from by
            exact own_far HOB6.out hb9 (by have := (HOB1.out); exact this))
          have c0 : w9.cell? ⟨b, off + k, none⟩ = some (.slice ox xs.length cx) := (HB9.out.cell (cell_lt HC.out)).trans HC.out
          clear hb9 HB6 HOB6 HOS6 HX6
          go_wp2_with fail
          refine (eqBytes_yes (Rd.of_own HOB9.out) (HR.out.below HB9.out (Nat.le_refl _)) (by omega)).mono ?_
          rintro e w10 ⟨rfl, hs10⟩
          have HB10 := Lib.hid (HB9.out.trans (hs10.below _))
          clear hs10 c0
          go_wp2_with fail
          go_roundg (n - (k + 1))
          case rel => exact ⟨k + 1, rfl, by omega, by go_num, HB10.out⟩
          case measure => omega
        · have hzb : (cd == 0) = false := by simp [hz]
          clear hz
          go_wp2_with fail
          clear d0 d1 d2 d3
          refine (spoil30_any _ _ _ _ t w1.heap.size _ HOS6.out HSE.out (by omega) HLM.out).mono ?_
          rintro e w9 ⟨rfl, hb9⟩
          have HB9 := Lib.hid (HB6.out.trans (hb9.mono (by have := HB1.out.size; omega)))
          have HOB9 := Lib.hid (show OwnI w9 w0.heap.size 5 .u8 (.slice ob xs.length cb) xs from by
            exact own_far HOB6.out hb9 (by have := (HOB1.out); exact this))
          have c0 : w9.cell? ⟨b, off + k, none⟩ = some (.slice ox xs.length cx) := (HB9.out.cell (cell_lt HC.out)).trans HC.out
          clear hb9 HB6 HOB6 HOS6 HX6
          go_wp2_with fail
          refine (eqBytes_yes (Rd.of_own HOB9.out) (HR.out.below HB9.out (Nat.le_refl _)) (by omega)).mono ?_
          rintro e w10 ⟨rfl, hs10⟩
          have HB10 := Lib.hid (HB9.out.trans (hs10.below _))
          clear hs10 c0
          go_wp2_with fail
          go_roundg (n - (k + 1))
          case rel => exact ⟨k + 1, rfl, by omega, by go_num, HB10.out⟩
          case measure => omega
    · have HE : Hid (k = n ∨ 6 ≤ k) := Lib.hid (by omega)
      have hq : ¬ (k < n ∧ k < 6) := hlt
      clear hlt
      by_cases hkn : k < n
      · have hk6 : decide ((k : Int) < 6) = false := decide_eq_false (by omega)
        go_wp2_with fail
        refine (wakes30_any _).mono ?_
        rintro e w1 ⟨rfl, hb1⟩
        have HB1 := Lib.hid (HB.out.trans (hb1.mono HB.out.size))
        clear hb1
        go_wp2
        go_ret
        exact ⟨rfl, HB1.out⟩
      · have hkd : decide ((k : Int) < n) = false := decide_eq_false (by omega)
        go_wp2_with fail
        refine (wakes30_any _).mono ?_
        rintro e w1 ⟨rfl, hb1⟩
        have HB1 := Lib.hid (HB.out.trans (hb1.mono HB.out.size))
        clear hb1
        go_wp2
        go_ret
        exact ⟨rfl, HB1.out⟩
end Go.Proofs.Ytjhejpeklppmbaa
