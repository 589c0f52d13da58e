/-
  THE REFERENCE's Decode.
-/
import Derived.Test.YtjhejpeklppmbaaRefRdr
import Derived.Test.YtjhejpeklppmbaaSetMay
import Derived.Test.YtjhejpeklppmbaaReading
set_option linter.unusedVariables false
set_option linter.unusedSimpArgs false
namespace Go.Proofs.Ytjhejpeklppmbaa
open Go.RowKit Go.Shelf
def rWords (n : Nat) (rem : List Int) (bad : Bool) : List Int × List Int × Bool := bif decide (rem.length / 8 < n) then ([], rem, true) else (wordsR n rem, rem.drop (8 * n), bad)
def rNums (n : Nat) (rem : List Int) (bad : Bool) : List Int × List Int × Bool := bif decide (rem.length / 4 < n) then ([], rem, true) else (numsR n rem, rem.drop (4 * n), bad)
theorem rnum_st {R k : Nat} {rem rem' : List Int} {bad bad' : Bool} {x : Nat} {w : World} (h : RefAt w R rem bad) (hk8 : k ≤ 8) (hp : rNum k rem bad = (x, rem', bad')) :
    Calls Try.prog 54 #[.pointer (some ⟨R, 0, none⟩), .int .i64 k] w fun e w' => e = .returned (.int .u64 (x : Nat)) ∧ RefAt w' R rem' bad' ∧ Moved w w' R := by
  unfold rNum at hp
  by_cases hk : rem.length < k
  · rw [decide_eq_true hk, cond_true] at hp
    cases hp
    exact refNumber_no R k rem bad w h hk hk8
  · rw [decide_eq_false hk, cond_false] at hp
    cases hp
    exact refNumber_yes R k rem bad w h (by omega) hk8
theorem rwords_st {R n : Nat} {m : Int} {rem rem' xs : List Int} {bad bad' : Bool} {w : World} (hm : m = n) (h : RefAt w R rem bad) (hn : n ≤ 9000000000000000000) (hp : rWords n rem bad = (xs, rem', bad')) :
    Calls Try.prog 56 #[.pointer (some ⟨R, 0, none⟩), .int .i64 m] w fun e w' => (∃ v, e = .returned v ∧ OwnI w' w.heap.size 2 .i64 v xs) ∧ RefAt w' R rem' bad' ∧ Moved w w' R := by
  subst hm
  unfold rWords at hp
  by_cases hk : rem.length / 8 < n
  · rw [decide_eq_true hk, cond_true] at hp
    cases hp
    exact (refWords_no R n rem bad w h hk hn).mono fun e w' ⟨he, ha, hm⟩ => ⟨⟨_, he, ⟨rfl, .inl ⟨rfl, rfl⟩⟩⟩, ha, hm⟩
  · rw [decide_eq_false hk, cond_false] at hp
    cases hp
    exact refWords_yes R n rem bad w h (by omega)
theorem rnums_st {R n : Nat} {m : Int} {rem rem' xs : List Int} {bad bad' : Bool} {w : World} (hm : m = n) (h : RefAt w R rem bad) (hn : n ≤ 9000000000000000000) (hp : rNums n rem bad = (xs, rem', bad')) :
    Calls Try.prog 55 #[.pointer (some ⟨R, 0, none⟩), .int .i64 m] w fun e w' => (∃ v, e = .returned v ∧ OwnI w' w.heap.size 3 .i64 v xs) ∧ RefAt w' R rem' bad' ∧ Moved w w' R := by
  subst hm
  unfold rNums at hp
  by_cases hk : rem.length / 4 < n
  · rw [decide_eq_true hk, cond_true] at hp
    cases hp
    exact (refNumbers_no R n rem bad w h hk hn).mono fun e w' ⟨he, ha, hm⟩ => ⟨⟨_, he, ⟨rfl, .inl ⟨rfl, rfl⟩⟩⟩, ha, hm⟩
  · rw [decide_eq_false hk, cond_false] at hp
    cases hp
    exact refNumbers_yes R n rem bad w h (by omega)
theorem rNum_bd {k : Nat} {rem rem' : List Int} {bad bad' : Bool} {x : Nat} (hp : rNum k rem bad = (x, rem', bad')) (hw : Wf .u8 rem) : rem'.length ≤ rem.length ∧ Wf .u8 rem' ∧ (k ≤ 4 → x < 4294967296) ∧ x < 18446744073709551616 := by
  unfold rNum at hp
  cases h : decide (rem.length < k) with
  | true => rw [h, cond_true] at hp; cases hp; exact ⟨by simp, (fun x hx => by cases hx), fun _ => by omega, by omega⟩
  | false =>
    rw [h, cond_false] at hp
    cases hp
    exact ⟨by rw [List.length_drop]; omega, wf_drop hw k, fun hk => beVal4_lt _ (hw.take k) (by rw [List.length_take]; omega), beVal_lt _⟩
theorem rNums_bd {n : Nat} {rem rem' xs : List Int} {bad bad' : Bool} (hp : rNums n rem bad = (xs, rem', bad')) (hw : Wf .u8 rem) : rem'.length ≤ rem.length ∧ Wf .u8 rem' ∧ xs.length ≤ rem.length := by
  unfold rNums at hp
  by_cases h : rem.length / 4 < n
  · rw [decide_eq_true h, cond_true] at hp; cases hp; exact ⟨Nat.le_refl _, hw, by simp⟩
  · rw [decide_eq_false h, cond_false] at hp
    cases hp
    exact ⟨by rw [List.length_drop]; omega, wf_drop hw _, by rw [numsR_length]; omega⟩
theorem rWords_bd {n : Nat} {rem rem' xs : List Int} {bad bad' : Bool} (hp : rWords n rem bad = (xs, rem', bad')) (hw : Wf .u8 rem) : rem'.length ≤ rem.length ∧ Wf .u8 rem' ∧ xs.length ≤ rem.length := by
  unfold rWords at hp
  by_cases h : rem.length / 8 < n
  · rw [decide_eq_true h, cond_true] at hp; cases hp; exact ⟨Nat.le_refl _, hw, by simp⟩
  · rw [decide_eq_false h, cond_false] at hp
    cases hp
    exact ⟨by rw [List.length_drop]; omega, wf_drop hw _, by rw [wordsR_length]; omega⟩
def dR5 (s : SetD) (rem : List Int) (bad : Bool) : Option SetD := bif bad || (decide (0 < rem.length) || !goodSet s) then none else some s
def dR4 (sh : List Int) (n k m : Nat) (rem : List Int) (bad : Bool) : Option SetD :=
  match rWords (n * (prodL sh).toNat) rem bad with
  | (x, r, b) => bif k == 0 then (match rNums n r b with | (lb, r', b') => dR5 ⟨sh, x, lb, []⟩ r' b') else (match rWords (n * m) r b with | (y, r', b') => dR5 ⟨sh, x, [], y⟩ r' b')
def badHead (sh : List Int) (n k m : Nat) (bad : Bool) : Bool := bad || (!shapeB sh || (decide (n < 1) || (decide (1024 < n) || (decide (1 < k) || ((k == 1) && (decide (m < 1) || decide (65536 < m)))))))
def dR3d (sh : List Int) (n k m : Nat) (rem : List Int) (bad : Bool) : Option SetD := bif badHead sh n k m bad then none else dR4 sh n k m rem bad
def dR3c (sh : List Int) (n k : Nat) (rem : List Int) (bad : Bool) : Option SetD := bif k == 1 then (match rNum 4 rem bad with | (m, r, b) => dR3d sh n k m r b) else dR3d sh n k 0 rem bad
def dR3b (sh : List Int) (n : Nat) (rem : List Int) (bad : Bool) : Option SetD := match rNum 1 rem bad with | (k, r, b) => dR3c sh n k r b
def dR3 (sh rem : List Int) (bad : Bool) : Option SetD := match rNum 4 rem bad with | (n, r, b) => dR3b sh n r b
def dR2 (rem : List Int) (bad : Bool) : Option SetD :=
  match rNum 1 rem bad with
  | (c, r, b) => match rNums c r b with | (sh, r, b) => dR3 sh r b
def dR1 (rem : List Int) (bad : Bool) : Option SetD := match rNum 1 rem bad with | (v, r, b) => bif v == 1 then dR2 r b else none
def dR0 (rem : List Int) : Option SetD := match rNum 4 rem false with | (v, r, b) => bif v == 1381188948 then dR1 r b else none
--GEN

/-- the state of the reference's Decode: the reader, the set in block L, all else as it was -/
structure DSt (W0 w : World) (R L : Nat) (rem : List Int) (bad : Bool) (a b c d : Value) (s : SetD) : Prop where
  ra : RefAt w R rem bad
  bl : Box w L 35 #[a, b, c, d]
  oa : OwnI w W0.heap.size 3 .i64 a s.sh
  ob : OwnI w W0.heap.size 2 .i64 b s.x
  oc : OwnI w W0.heap.size 3 .i64 c s.lb
  od : OwnI w W0.heap.size 2 .i64 d s.y
  kp : Kept W0 w R L
theorem DSt.low {W0 w w' : World} {R L : Nat} {rem : List Int} {bad : Bool} {a b c d : Value} {s : SetD} (h : DSt W0 w R L rem bad a b c d s) (hB : Below w.heap.size w w') : DSt W0 w' R L rem bad a b c d s :=
  ⟨h.ra.low (hB.mono h.ra.lt), h.bl.next hB, own_below h.oa hB (Nat.le_refl _), own_below h.ob hB (Nat.le_refl _), own_below h.oc hB (Nat.le_refl _), own_below h.od hB (Nat.le_refl _), h.kp.trans (Kept.of_below hB)⟩
theorem DSt.same {W0 w w' : World} {R L : Nat} {rem : List Int} {bad : Bool} {a b c d : Value} {s : SetD} (h : DSt W0 w R L rem bad a b c d s) (hs : Same w w') : DSt W0 w' R L rem bad a b c d s := h.low (hs.below _)
theorem DSt.call {W0 w w' : World} {R L : Nat} {rem rem' : List Int} {bad bad' : Bool} {a b c d : Value} {s : SetD} (h : DSt W0 w R L rem bad a b c d s) (hne : L ≠ R) (hR : R < W0.heap.size) (ha : RefAt w' R rem' bad') (hm : Moved w w' R) : DSt W0 w' R L rem' bad' a b c d s :=
  ⟨ha, h.bl.moved hm hne, own_moved h.oa hm hR, own_moved h.ob hm hR, own_moved h.oc hm hR, own_moved h.od hm hR, h.kp.trans (Kept.of_moved hm)⟩
theorem DSt.box {W0 w : World} {R L S : Nat} {rem : List Int} {bad : Bool} {a b c d : Value} {s : SetD} {T : TypeId} {cs : Array Value} (h : DSt W0 w R L rem bad a b c d s) (hb : Box W0 S T cs) (h1 : S ≠ R) (h2 : S ≠ L) : Box w S T cs := (h.kp.block S hb.lt h1 h2).trans hb
theorem DSt.rd {W0 w : World} {R L : Nat} {rem : List Int} {bad : Bool} {a b c d : Value} {s : SetD} (h : DSt W0 w R L rem bad a b c d s) : RdSet w a b c d s := ⟨Rd.of_own h.oa, Rd.of_own h.ob, Rd.of_own h.oc, Rd.of_own h.od⟩
theorem DSt.store0 {W0 w : World} {R L : Nat} {rem xs : List Int} {bad : Bool} {a b c d v : Value} {s : SetD} (h : DSt W0 w R L rem bad a b c d s) (hRL : R < L) (hL : L < W0.heap.size) (hv : OwnI w W0.heap.size 3 .i64 v xs) :
    DSt W0 (w.setCell ⟨L, 0, none⟩ v) R L rem bad v b c d { s with sh := xs } :=
  ⟨h.ra.low (((Below.refl _ _).setCell (p := ⟨L, 0, none⟩) (by show R + 1 ≤ L; omega) v)), h.bl.set 0 v, own_setLt hv hL v, own_setLt h.ob hL v, own_setLt h.oc hL v, own_setLt h.od hL v, h.kp.set 0 v⟩
theorem DSt.store1 {W0 w : World} {R L : Nat} {rem xs : List Int} {bad : Bool} {a b c d v : Value} {s : SetD} (h : DSt W0 w R L rem bad a b c d s) (hRL : R < L) (hL : L < W0.heap.size) (hv : OwnI w W0.heap.size 2 .i64 v xs) :
    DSt W0 (w.setCell ⟨L, 1, none⟩ v) R L rem bad a v c d { s with x := xs } :=
  ⟨h.ra.low (((Below.refl _ _).setCell (p := ⟨L, 1, none⟩) (by show R + 1 ≤ L; omega) v)), h.bl.set 1 v, own_setLt h.oa hL v, own_setLt hv hL v, own_setLt h.oc hL v, own_setLt h.od hL v, h.kp.set 1 v⟩
theorem DSt.store2 {W0 w : World} {R L : Nat} {rem xs : List Int} {bad : Bool} {a b c d v : Value} {s : SetD} (h : DSt W0 w R L rem bad a b c d s) (hRL : R < L) (hL : L < W0.heap.size) (hv : OwnI w W0.heap.size 3 .i64 v xs) :
    DSt W0 (w.setCell ⟨L, 2, none⟩ v) R L rem bad a b v d { s with lb := xs } :=
  ⟨h.ra.low (((Below.refl _ _).setCell (p := ⟨L, 2, none⟩) (by show R + 1 ≤ L; omega) v)), h.bl.set 2 v, own_setLt h.oa hL v, own_setLt h.ob hL v, own_setLt hv hL v, own_setLt h.od hL v, h.kp.set 2 v⟩
theorem DSt.store3 {W0 w : World} {R L : Nat} {rem xs : List Int} {bad : Bool} {a b c d v : Value} {s : SetD} (h : DSt W0 w R L rem bad a b c d s) (hRL : R < L) (hL : L < W0.heap.size) (hv : OwnI w W0.heap.size 2 .i64 v xs) :
    DSt W0 (w.setCell ⟨L, 3, none⟩ v) R L rem bad a b c v { s with y := xs } :=
  ⟨h.ra.low (((Below.refl _ _).setCell (p := ⟨L, 3, none⟩) (by show R + 1 ≤ L; omega) v)), h.bl.set 3 v, own_setLt h.oa hL v, own_setLt h.ob hL v, own_setLt h.oc hL v, own_setLt hv hL v, h.kp.set 3 v⟩

theorem RefAt.badcell {w : World} {R : Nat} {rem : List Int} {bad : Bool} (h : RefAt w R rem bad) : w.cell? ⟨R, 2, none⟩ = some (.bool bad) := by
  obtain ⟨⟨bs, at_, o, cap, hb, _⟩⟩ := h
  exact hb.cell 2 rfl
theorem own_four {w : World} {B : Nat} {e : TypeId} {s : Nat} {v : Value} {n : Nat} {xs : List Value} (h : w.ownsRow B e s v n xs) {S : Nat} (hS : S < B) (a b c d : Value) :
    ((((w.setCell ⟨S, 0, none⟩ a).setCell ⟨S, 1, none⟩ b).setCell ⟨S, 2, none⟩ c).setCell ⟨S, 3, none⟩ d).ownsRow B e s v n xs :=
  own_setLt (own_setLt (own_setLt (own_setLt h hS a) hS b) hS c) hS d

set_option maxRecDepth 100000 in
set_option maxHeartbeats 8000000 in
theorem refDecode_any (v : Value) (bs : List Int) (w : World) (hr : Rd w .u8 v bs) (hw : Wf .u8 bs) (hl : bs.length ≤ 100000) :
    Calls Try.prog 30 #[v] w fun e w' => DecOut w.heap.size (dR0 bs) e w' ∧ Below w.heap.size w w' := by
  obtain ⟨o, cap, rfl⟩ := rd_slice hr
  obtain ⟨W0, hW0⟩ : ∃ W0, W0 = (((w.alloc (.cells #[.slice none 0 0, .slice none 0 0, .slice none 0 0, .slice none 0 0] 35)).alloc (.cells #[.slice o bs.length cap, .int .i64 0, .bool false] 95)).alloc (.cells #[.slice none 0 0, .slice none 0 0, .slice none 0 0, .slice none 0 0] 35)) := ⟨_, rfl⟩
  have HBS := Lib.hid (show Box W0 w.heap.size 35 #[.slice none 0 0, .slice none 0 0, .slice none 0 0, .slice none 0 0] by
    rw [hW0]; exact Box.below (C := w.heap.size + 1) (Box.below (C := w.heap.size + 1) (Box.new_at rfl) ((Below.refl _ _).alloc (by simp) _) (by omega)) ((Below.refl _ _).alloc (by simp) _) (by omega))
  have HBR := Lib.hid (show Box W0 (w.heap.size + 1) 95 #[.slice o bs.length cap, .int .i64 0, .bool false] by
    rw [hW0]; exact Box.below (C := w.heap.size + 2) (Box.new_at (by simp)) ((Below.refl _ _).alloc (by simp) _) (by omega))
  have HBL := Lib.hid (show Box W0 (w.heap.size + 2) 35 #[.slice none 0 0, .slice none 0 0, .slice none 0 0, .slice none 0 0] by rw [hW0]; exact Box.new_at (by simp))
  have HB0 := Lib.hid (show Below w.heap.size w W0 by rw [hW0]; exact (((Below.refl _ _).alloc (Nat.le_refl _) _).alloc (by simp) _).alloc (by simp; omega) _)
  have HSZ := Lib.hid (show W0.heap.size = w.heap.size + 3 by rw [hW0]; simp)
  have HD := Lib.hid (show DSt W0 W0 (w.heap.size + 1) (w.heap.size + 2) bs false (.slice none 0 0) (.slice none 0 0) (.slice none 0 0) (.slice none 0 0) ⟨[], [], [], []⟩ from
    ⟨⟨⟨bs, 0, o, cap, HBR.out, Nat.zero_le _, by simp, hr.below HB0.out (Nat.le_refl _), hw, hl, fun h0 a ha => by
      obtain ⟨b, off, ho, hcell⟩ := hr.cell 0 h0
      have := cell_lt hcell
      rw [ho] at ha
      cases ha
      simp only
      omega⟩⟩, HBL.out, ⟨rfl, .inl ⟨rfl, rfl⟩⟩, ⟨rfl, .inl ⟨rfl, rfl⟩⟩, ⟨rfl, .inl ⟨rfl, rfl⟩⟩, ⟨rfl, .inl ⟨rfl, rfl⟩⟩, Kept.refl _ _ _⟩)
  have hne : w.heap.size + 2 ≠ w.heap.size + 1 := by omega
  have hRL : w.heap.size + 1 < w.heap.size + 2 := by omega
  have hRW : w.heap.size + 1 < W0.heap.size := by rw [HSZ.out]; omega
  have hLW : w.heap.size + 2 < W0.heap.size := by rw [HSZ.out]; omega
  have HW0 := Lib.hid hW0
  have HWB := Lib.hid hw
  clear hr hw hW0
  go_enter Try.func30, Try.ntmps30
  go_wp2_with fail
  rw [← HW0.out]
  obtain ⟨v0, r0, b0, hp⟩ : ∃ x r b, rNum 4 bs false = (x, r, b) := ⟨_, _, _, rfl⟩
  have hbd := rNum_bd hp HD.out.ra.wf.1
  have hv01 := hbd.2.2.2
  have hv02 := hbd.2.2.1 (by omega)
  have HSv0 := Lib.hid (show dR0 bs = bif v0 == 1381188948 then dR1 r0 b0 else none by rw [dR0, hp])
  refine (rnum_st HD.out.ra (by omega) hp).mono ?_
  rintro e wv0 ⟨rfl, ha, hm⟩
  have HDv0 := Lib.hid (HD.out.call hne hRW ha hm)
  clear hp hbd ha hm

  by_cases g0 : v0 = 1381188948
  · have HS := Lib.hid (show dR0 bs = dR1 r0 b0 by rw [HSv0.out, g0]; rfl)
    have gb : ((v0 : Int) != 1381188948) = false := by simp [g0]
    have G0 := Lib.hid g0
    clear g0 HSv0
    go_wp2_with fail
    clear gb
  
    obtain ⟨v1, r1, b1, hp⟩ : ∃ x r b, rNum 1 r0 b0 = (x, r, b) := ⟨_, _, _, rfl⟩
    have hbd := rNum_bd hp HDv0.out.ra.wf.1
    have hv11 := hbd.2.2.2
    have hv12 := hbd.2.2.1 (by omega)
    have HSv1 := Lib.hid (show dR0 bs = bif v1 == 1 then dR2 r1 b1 else none by rw [HS.out, dR1, hp])
    refine (rnum_st HDv0.out.ra (by omega) hp).mono ?_
    rintro e wv1 ⟨rfl, ha, hm⟩
    have HDv1 := Lib.hid (HDv0.out.call hne hRW ha hm)
    clear hp hbd ha hm
  
    by_cases g1 : v1 = 1
    · have HS := Lib.hid (show dR0 bs = dR2 r1 b1 by rw [HSv1.out, g1]; rfl)
      have gb : ((v1 : Int) != 1) = false := by simp [g1]
      have G1 := Lib.hid g1
      clear g1 HSv1
      go_wp2_with fail
      clear gb
    
      obtain ⟨v2, r2, b2, hp⟩ : ∃ x r b, rNum 1 r1 b1 = (x, r, b) := ⟨_, _, _, rfl⟩
      have hbd := rNum_bd hp HDv1.out.ra.wf.1
      have hv21 := hbd.2.2.2
      have hv22 := hbd.2.2.1 (by omega)
      have HSv2 := Lib.hid (show dR0 bs = (match rNums v2 r2 b2 with | (sh, r, b) => dR3 sh r b) by rw [HS.out, dR2, hp])
      refine (rnum_st HDv1.out.ra (by omega) hp).mono ?_
      rintro e wv2 ⟨rfl, ha, hm⟩
      have HDv2 := Lib.hid (HDv1.out.call hne hRW ha hm)
      clear hp hbd ha hm
    
      go_wp2_with fail
    
      obtain ⟨sh, r3, b3, hp⟩ : ∃ x r b, rNums v2 r2 b2 = (x, r, b) := ⟨_, _, _, rfl⟩
      have hbd := rNums_bd hp HDv2.out.ra.wf.1
      have hlsh : sh.length ≤ 100000 := Nat.le_trans hbd.2.2 HDv2.out.ra.wf.2
      have HSsh := Lib.hid (show dR0 bs = dR3 sh r3 b3 by rw [HSv2.out, hp])
      refine (rnums_st rfl HDv2.out.ra (by omega) hp).mono ?_
      rintro e wsh ⟨⟨vsh, rfl, ho⟩, ha, hm⟩
      obtain ⟨ash, csh, rfl⟩ := own_slice ho
      have HEsh := Lib.hid (HDv2.out.call hne hRW ha hm)
      have HDsh := Lib.hid (HEsh.out.store0 hRL hLW (own_mono ho HDv2.out.kp.size))
      have k0 : wsh.cell? ⟨w.heap.size + 2, 0, none⟩ = some (.slice none 0 0) := HEsh.out.bl.cell 0 rfl
      have z0 := HEsh.out.bl.free 0
      clear hp hbd ha hm ho
      go_wp2_with fail
      clear k0 z0 HEsh
      generalize (wsh.setCell ⟨w.heap.size + 2, 0, none⟩ (Value.slice ash sh.length csh)) = wnsh at HDsh ⊢
    
      obtain ⟨n, r4, b4, hp⟩ : ∃ x r b, rNum 4 r3 b3 = (x, r, b) := ⟨_, _, _, rfl⟩
      have hbd := rNum_bd hp HDsh.out.ra.wf.1
      have hn1 := hbd.2.2.2
      have hn2 := hbd.2.2.1 (by omega)
      have HSn := Lib.hid (show dR0 bs = dR3b sh n r4 b4 by rw [HSsh.out, dR3, hp])
      refine (rnum_st HDsh.out.ra (by omega) hp).mono ?_
      rintro e wn ⟨rfl, ha, hm⟩
      have HDn := Lib.hid (HDsh.out.call hne hRW ha hm)
      clear hp hbd ha hm
    
      go_wp2_with fail
    
      obtain ⟨k, r5, b5, hp⟩ : ∃ x r b, rNum 1 r4 b4 = (x, r, b) := ⟨_, _, _, rfl⟩
      have hbd := rNum_bd hp HDn.out.ra.wf.1
      have hk1 := hbd.2.2.2
      have hk2 := hbd.2.2.1 (by omega)
      have HSk := Lib.hid (show dR0 bs = dR3c sh n k r5 b5 by rw [HSn.out, dR3b, hp])
      refine (rnum_st HDn.out.ra (by omega) hp).mono ?_
      rintro e wk ⟨rfl, ha, hm⟩
      have HDk := Lib.hid (HDn.out.call hne hRW ha hm)
      clear hp hbd ha hm
    
      by_cases gk : k = 1
      · subst gk
        go_wp2_with fail
      
        obtain ⟨m, r6, b6, hp⟩ : ∃ x r b, rNum 4 r5 b5 = (x, r, b) := ⟨_, _, _, rfl⟩
        have hbd := rNum_bd hp HDk.out.ra.wf.1
        have hm1 := hbd.2.2.2
        have hm2 := hbd.2.2.1 (by omega)
        have HSm := Lib.hid (show dR0 bs = dR3d sh n 1 m r6 b6 by rw [HSk.out, dR3c, hp]; rfl)
        refine (rnum_st HDk.out.ra (by omega) hp).mono ?_
        rintro e wm ⟨rfl, ha, hm⟩
        have HDm0 := Lib.hid (HDk.out.call hne hRW ha hm)
        clear hp hbd ha hm
      
        cases b6 with
        | true =>
          have HSN := Lib.hid (show dR0 bs = none by rw [HSm.out, dR3d]; rfl)
          have kb : _ = some (Value.bool true) := HDm0.out.ra.badcell
      
          have HBq := Lib.hid (HDm0.out.box HBS.out (by omega) (by omega))
          have HKq := Lib.hid (HB0.out.trans (kept_below2 HDm0.out.kp (by omega) (by omega) (by rw [HSZ.out]; omega)))
          have q0 := HBq.out.cell 0 rfl
          have q1 := HBq.out.cell 1 rfl
          have q2 := HBq.out.cell 2 rfl
          have q3 := HBq.out.cell 3 rfl
          have z0 := HBq.out.free 0
          have z1 := HBq.out.free 1
          have z2 := HBq.out.free 2
          have z3 := HBq.out.free 3
          go_wp2_with fail
          rw [set_same (v := .slice none 0 0) HBq.out rfl, set_same (v := .slice none 0 0) HBq.out rfl, set_same (v := .slice none 0 0) HBq.out rfl, set_same (v := .slice none 0 0) HBq.out rfl]
          exact bodyPost_ret (v := .tuple #[.agg #[.slice none 0 0, .slice none 0 0, .slice none 0 0, .slice none 0 0], .int .i64 1]) (by simp [results, Try.results30, go_sem, q0, q1, q2, q3]) rfl ⟨by rw [HSN.out]; exact rfl, HKq.out⟩
        | false =>
          have kb : _ = some (Value.bool false) := HDm0.out.ra.badcell
          have k0 : _ = some (Value.slice ash sh.length csh) := HDm0.out.bl.cell 0 rfl
          cases hg : shapeB sh with
          | false =>
            have HG := Lib.hid hg
            clear hg
      
            have HSN := Lib.hid (show dR0 bs = none by rw [HSm.out, dR3d, show badHead sh n 1 m false = true from by simp [badHead, HG.out], cond_true])
      
            go_wp2_with fail
            clear kb k0
            refine (ref6May_any _ sh _ (Rd.of_own HDm0.out.oa) (by omega)).mono ?_
            rintro e wm ⟨rfl, hsm⟩
            have HDm := Lib.hid (HDm0.out.same hsm)
            rw [HG.out]
            clear hsm
      
            have HBq := Lib.hid (HDm.out.box HBS.out (by omega) (by omega))
            have HKq := Lib.hid (HB0.out.trans (kept_below2 HDm.out.kp (by omega) (by omega) (by rw [HSZ.out]; omega)))
            have q0 := HBq.out.cell 0 rfl
            have q1 := HBq.out.cell 1 rfl
            have q2 := HBq.out.cell 2 rfl
            have q3 := HBq.out.cell 3 rfl
            have z0 := HBq.out.free 0
            have z1 := HBq.out.free 1
            have z2 := HBq.out.free 2
            have z3 := HBq.out.free 3
            go_wp2_with fail
            rw [set_same (v := .slice none 0 0) HBq.out rfl, set_same (v := .slice none 0 0) HBq.out rfl, set_same (v := .slice none 0 0) HBq.out rfl, set_same (v := .slice none 0 0) HBq.out rfl]
            exact bodyPost_ret (v := .tuple #[.agg #[.slice none 0 0, .slice none 0 0, .slice none 0 0, .slice none 0 0], .int .i64 1]) (by simp [results, Try.results30, go_sem, q0, q1, q2, q3]) rfl ⟨by rw [HSN.out]; exact rfl, HKq.out⟩
          | true =>
            have HG := Lib.hid hg
            clear hg
      
            by_cases g5 : n < 1
            · have HSN := Lib.hid (show dR0 bs = none by rw [HSm.out, dR3d, show badHead sh n 1 m false = true from by simp [badHead, g5], cond_true])
              have d5 : decide ((n : Int) < 1) = true := decide_eq_true (by omega)
              go_wp2_with fail
              clear kb k0
              refine (ref6May_any _ sh _ (Rd.of_own HDm0.out.oa) (by omega)).mono ?_
              rintro e wm ⟨rfl, hsm⟩
              have HDm := Lib.hid (HDm0.out.same hsm)
              rw [HG.out]
              clear hsm
        
              have HBq := Lib.hid (HDm.out.box HBS.out (by omega) (by omega))
              have HKq := Lib.hid (HB0.out.trans (kept_below2 HDm.out.kp (by omega) (by omega) (by rw [HSZ.out]; omega)))
              have q0 := HBq.out.cell 0 rfl
              have q1 := HBq.out.cell 1 rfl
              have q2 := HBq.out.cell 2 rfl
              have q3 := HBq.out.cell 3 rfl
              have z0 := HBq.out.free 0
              have z1 := HBq.out.free 1
              have z2 := HBq.out.free 2
              have z3 := HBq.out.free 3
              go_wp2_with fail
              rw [set_same (v := .slice none 0 0) HBq.out rfl, set_same (v := .slice none 0 0) HBq.out rfl, set_same (v := .slice none 0 0) HBq.out rfl, set_same (v := .slice none 0 0) HBq.out rfl]
              exact bodyPost_ret (v := .tuple #[.agg #[.slice none 0 0, .slice none 0 0, .slice none 0 0, .slice none 0 0], .int .i64 1]) (by simp [results, Try.results30, go_sem, q0, q1, q2, q3]) rfl ⟨by rw [HSN.out]; exact rfl, HKq.out⟩
            · have d5 : decide ((n : Int) < 1) = false := decide_eq_false (by omega)
              by_cases g6 : 1024 < n
              · have HSN := Lib.hid (show dR0 bs = none by rw [HSm.out, dR3d, show badHead sh n 1 m false = true from by simp [badHead, g6], cond_true])
                have d6 : decide ((1024 : Int) < n) = true := decide_eq_true (by omega)
                go_wp2_with fail
                clear kb k0
                refine (ref6May_any _ sh _ (Rd.of_own HDm0.out.oa) (by omega)).mono ?_
                rintro e wm ⟨rfl, hsm⟩
                have HDm := Lib.hid (HDm0.out.same hsm)
                rw [HG.out]
                clear hsm
          
                have HBq := Lib.hid (HDm.out.box HBS.out (by omega) (by omega))
                have HKq := Lib.hid (HB0.out.trans (kept_below2 HDm.out.kp (by omega) (by omega) (by rw [HSZ.out]; omega)))
                have q0 := HBq.out.cell 0 rfl
                have q1 := HBq.out.cell 1 rfl
                have q2 := HBq.out.cell 2 rfl
                have q3 := HBq.out.cell 3 rfl
                have z0 := HBq.out.free 0
                have z1 := HBq.out.free 1
                have z2 := HBq.out.free 2
                have z3 := HBq.out.free 3
                go_wp2_with fail
                rw [set_same (v := .slice none 0 0) HBq.out rfl, set_same (v := .slice none 0 0) HBq.out rfl, set_same (v := .slice none 0 0) HBq.out rfl, set_same (v := .slice none 0 0) HBq.out rfl]
                exact bodyPost_ret (v := .tuple #[.agg #[.slice none 0 0, .slice none 0 0, .slice none 0 0, .slice none 0 0], .int .i64 1]) (by simp [results, Try.results30, go_sem, q0, q1, q2, q3]) rfl ⟨by rw [HSN.out]; exact rfl, HKq.out⟩
              · have d6 : decide ((1024 : Int) < n) = false := decide_eq_false (by omega)
          
                by_cases g7 : m < 1
                · have HSN := Lib.hid (show dR0 bs = none by rw [HSm.out, dR3d, show badHead sh n 1 m false = true from by simp [badHead, g7], cond_true])
                  have d7 : decide ((m : Int) < 1) = true := decide_eq_true (by omega)
                  go_wp2_with fail
                  clear kb k0
                  refine (ref6May_any _ sh _ (Rd.of_own HDm0.out.oa) (by omega)).mono ?_
                  rintro e wm ⟨rfl, hsm⟩
                  have HDm := Lib.hid (HDm0.out.same hsm)
                  rw [HG.out]
                  clear hsm
            
                  have HBq := Lib.hid (HDm.out.box HBS.out (by omega) (by omega))
                  have HKq := Lib.hid (HB0.out.trans (kept_below2 HDm.out.kp (by omega) (by omega) (by rw [HSZ.out]; omega)))
                  have q0 := HBq.out.cell 0 rfl
                  have q1 := HBq.out.cell 1 rfl
                  have q2 := HBq.out.cell 2 rfl
                  have q3 := HBq.out.cell 3 rfl
                  have z0 := HBq.out.free 0
                  have z1 := HBq.out.free 1
                  have z2 := HBq.out.free 2
                  have z3 := HBq.out.free 3
                  go_wp2_with fail
                  rw [set_same (v := .slice none 0 0) HBq.out rfl, set_same (v := .slice none 0 0) HBq.out rfl, set_same (v := .slice none 0 0) HBq.out rfl, set_same (v := .slice none 0 0) HBq.out rfl]
                  exact bodyPost_ret (v := .tuple #[.agg #[.slice none 0 0, .slice none 0 0, .slice none 0 0, .slice none 0 0], .int .i64 1]) (by simp [results, Try.results30, go_sem, q0, q1, q2, q3]) rfl ⟨by rw [HSN.out]; exact rfl, HKq.out⟩
                · have d7 : decide ((m : Int) < 1) = false := decide_eq_false (by omega)
                  by_cases g8 : 65536 < m
                  · have HSN := Lib.hid (show dR0 bs = none by rw [HSm.out, dR3d, show badHead sh n 1 m false = true from by simp [badHead, g8], cond_true])
                    have d8 : decide ((65536 : Int) < m) = true := decide_eq_true (by omega)
                    go_wp2_with fail
                    clear kb k0
                    refine (ref6May_any _ sh _ (Rd.of_own HDm0.out.oa) (by omega)).mono ?_
                    rintro e wm ⟨rfl, hsm⟩
                    have HDm := Lib.hid (HDm0.out.same hsm)
                    rw [HG.out]
                    clear hsm
              
                    have HBq := Lib.hid (HDm.out.box HBS.out (by omega) (by omega))
                    have HKq := Lib.hid (HB0.out.trans (kept_below2 HDm.out.kp (by omega) (by omega) (by rw [HSZ.out]; omega)))
                    have q0 := HBq.out.cell 0 rfl
                    have q1 := HBq.out.cell 1 rfl
                    have q2 := HBq.out.cell 2 rfl
                    have q3 := HBq.out.cell 3 rfl
                    have z0 := HBq.out.free 0
                    have z1 := HBq.out.free 1
                    have z2 := HBq.out.free 2
                    have z3 := HBq.out.free 3
                    go_wp2_with fail
                    rw [set_same (v := .slice none 0 0) HBq.out rfl, set_same (v := .slice none 0 0) HBq.out rfl, set_same (v := .slice none 0 0) HBq.out rfl, set_same (v := .slice none 0 0) HBq.out rfl]
                    exact bodyPost_ret (v := .tuple #[.agg #[.slice none 0 0, .slice none 0 0, .slice none 0 0, .slice none 0 0], .int .i64 1]) (by simp [results, Try.results30, go_sem, q0, q1, q2, q3]) rfl ⟨by rw [HSN.out]; exact rfl, HKq.out⟩
                  · have d8 : decide ((65536 : Int) < m) = false := decide_eq_false (by omega)
                    have HS := Lib.hid (show dR0 bs = dR4 sh n 1 m r6 false by rw [HSm.out, dR3d, show badHead sh n 1 m false = false from by simp [badHead, HG.out]; omega, cond_false])
              
                    go_wp2_with fail
                    clear kb k0
                    refine (ref6May_any _ sh _ (Rd.of_own HDm0.out.oa) (by omega)).mono ?_
                    rintro e wm ⟨rfl, hsm⟩
                    have HDm := Lib.hid (HDm0.out.same hsm)
                    rw [HG.out]
                    clear hsm
              
                    have hnm : n * m ≤ 67108864 := Nat.mul_le_mul (show n ≤ 1024 by omega) (show m ≤ 65536 by omega)
                    obtain ⟨bb3, bb4⟩ := bnd_mul hnm
              
                    clear d5 d6 d7 d8
                    obtain ⟨p1, p2⟩ := prodL_bd sh (shapeB_parts HG.out).2.1
                    have p3 := (shapeB_parts HG.out).2.2
                    have p4 := (shapeB_parts HG.out).1
                    obtain ⟨P, hP⟩ : ∃ P : Nat, (P : Int) = prodL sh := ⟨(prodL sh).toNat, by omega⟩
                    have hP1 : 1 ≤ P := by omega
                    have hP2 : P ≤ 65536 := by omega
                    have HPP := Lib.hid hP
                    have HPN := Lib.hid (show (prodL sh).toNat = P by omega)
                    have hnP : n * P ≤ 67108864 := Nat.mul_le_mul (show n ≤ 1024 by omega) hP2
                    obtain ⟨bb1, bb2⟩ := bnd_mul hnP
                    clear p1 p2 p3 hP
                    have k0 : _ = some (Value.slice ash sh.length csh) := HDm.out.bl.cell 0 rfl
                    go_wp2_with fail
                    clear k0
                    refine (ref6Count_any _ sh _ (Rd.of_own HDm.out.oa) (shapeB_parts HG.out).2.1 p4).mono ?_
                    rintro e wc ⟨rfl, hsc⟩
                    rw [cnt_of (shapeB_parts HG.out).2.2, ← HPP.out]
                    have HDc := Lib.hid (HDm.out.same hsc)
                    clear hsc
                    go_wp2_with fail
              
                    obtain ⟨xs, r7, b7, hp⟩ : ∃ x r b, rWords (n * P) r6 false = (x, r, b) := ⟨_, _, _, rfl⟩
                    have hbd := rWords_bd hp HDc.out.ra.wf.1
                    have hlxs : xs.length ≤ 100000 := Nat.le_trans hbd.2.2 HDc.out.ra.wf.2
                    have HSxs := Lib.hid (show dR0 bs = (match rWords (n * m) r7 b7 with | (y, r, b) => dR5 ⟨sh, xs, [], y⟩ r b) by rw [HS.out, dR4, HPN.out, hp]; rfl)
                    refine (rwords_st (Int.natCast_mul n P).symm HDc.out.ra (by omega) hp).mono ?_
                    rintro e wxs ⟨⟨vxs, rfl, ho⟩, ha, hm⟩
                    obtain ⟨axs, cxs, rfl⟩ := own_slice ho
                    have HExs := Lib.hid (HDc.out.call hne hRW ha hm)
                    have HDxs := Lib.hid (HExs.out.store1 hRL hLW (own_mono ho HDc.out.kp.size))
                    have k1 : wxs.cell? ⟨w.heap.size + 2, 1, none⟩ = some (.slice none 0 0) := HExs.out.bl.cell 1 rfl
                    have z1 := HExs.out.bl.free 1
                    clear hp hbd ha hm ho
                    go_wp2_with fail
                    clear k1 z1 HExs
                    generalize (wxs.setCell ⟨w.heap.size + 2, 1, none⟩ (Value.slice axs xs.length cxs)) = wnxs at HDxs ⊢
              
                    obtain ⟨ys, r8, b8, hp⟩ : ∃ x r b, rWords (n * m) r7 b7 = (x, r, b) := ⟨_, _, _, rfl⟩
                    have hbd := rWords_bd hp HDxs.out.ra.wf.1
                    have hlys : ys.length ≤ 100000 := Nat.le_trans hbd.2.2 HDxs.out.ra.wf.2
                    have HSys := Lib.hid (show dR0 bs = dR5 ⟨sh, xs, [], ys⟩ r8 b8 by rw [HSxs.out, hp])
                    refine (rwords_st (Int.natCast_mul n m).symm HDxs.out.ra (by omega) hp).mono ?_
                    rintro e wys ⟨⟨vys, rfl, ho⟩, ha, hm⟩
                    obtain ⟨ays, cys, rfl⟩ := own_slice ho
                    have HEys := Lib.hid (HDxs.out.call hne hRW ha hm)
                    have HDys := Lib.hid (HEys.out.store3 hRL hLW (own_mono ho HDxs.out.kp.size))
                    have k3 : wys.cell? ⟨w.heap.size + 2, 3, none⟩ = some (.slice none 0 0) := HEys.out.bl.cell 3 rfl
                    have z3 := HEys.out.bl.free 3
                    clear hp hbd ha hm ho
                    go_upto_region 17 with (fail)
                    clear k3 z3 HEys
                    generalize (wys.setCell ⟨w.heap.size + 2, 3, none⟩ (Value.slice ays ys.length cys)) = wnys at HDys ⊢
              
                    cases b8 with
                    | true =>
                      have HSN := Lib.hid (show dR0 bs = none by rw [HSys.out, dR5]; rfl)
                      have kb : _ = some (Value.bool true) := HDys.out.ra.badcell
              
                      have HBq := Lib.hid (HDys.out.box HBS.out (by omega) (by omega))
                      have HKq := Lib.hid (HB0.out.trans (kept_below2 HDys.out.kp (by omega) (by omega) (by rw [HSZ.out]; omega)))
                      have q0 := HBq.out.cell 0 rfl
                      have q1 := HBq.out.cell 1 rfl
                      have q2 := HBq.out.cell 2 rfl
                      have q3 := HBq.out.cell 3 rfl
                      have z0 := HBq.out.free 0
                      have z1 := HBq.out.free 1
                      have z2 := HBq.out.free 2
                      have z3 := HBq.out.free 3
                      go_wp2_with fail
                      rw [set_same (v := .slice none 0 0) HBq.out rfl, set_same (v := .slice none 0 0) HBq.out rfl, set_same (v := .slice none 0 0) HBq.out rfl, set_same (v := .slice none 0 0) HBq.out rfl]
                      exact bodyPost_ret (v := .tuple #[.agg #[.slice none 0 0, .slice none 0 0, .slice none 0 0, .slice none 0 0], .int .i64 1]) (by simp [results, Try.results30, go_sem, q0, q1, q2, q3]) rfl ⟨by rw [HSN.out]; exact rfl, HKq.out⟩
                    | false =>
                      have kb : _ = some (Value.bool false) := HDys.out.ra.badcell
                      go_wp2_with fail
                      clear kb
                      refine (refLeft_any _ _ _ _ HDys.out.ra).mono ?_
                      rintro e wl ⟨rfl, hsl⟩
                      have HDl := Lib.hid (HDys.out.same hsl)
                      clear hsl
                      by_cases hl0 : r8.length = 0
                      · have hlb : ((r8.length : Int) != 0) = false := by simp [hl0]
                
                        have e0 : wl.cell? ⟨w.heap.size + 2, 0, none⟩ = some (.slice ash sh.length csh) := HDl.out.bl.cell 0 rfl
                        have e1 : wl.cell? ⟨w.heap.size + 2, 1, none⟩ = some (.slice axs xs.length cxs) := HDl.out.bl.cell 1 rfl
                        have e2 : wl.cell? ⟨w.heap.size + 2, 2, none⟩ = some (.slice none 0 0) := HDl.out.bl.cell 2 rfl
                        have e3 : wl.cell? ⟨w.heap.size + 2, 3, none⟩ = some (.slice ays ys.length cys) := HDl.out.bl.cell 3 rfl
                        go_wp2_with fail
                        clear e0 e1 e2 e3
                        refine (ref30May_any _ _ _ _ ⟨sh, xs, [], ys⟩ _ HDl.out.rd ⟨by simp only; omega, by simp only; omega, by simp, by simp only; omega⟩).mono ?_
                        rintro e wm ⟨rfl, hBm⟩
                        have HDm := Lib.hid (HDl.out.low hBm)
                        clear hBm
                        cases hg : goodSet ⟨sh, xs, [], ys⟩ with
                        | false =>
                          have HG := Lib.hid hg
                          clear hg
                
                          have HSN := Lib.hid (show dR0 bs = none by rw [HSys.out, dR5, HG.out]; simp)
                
                          have HBq := Lib.hid (HDm.out.box HBS.out (by omega) (by omega))
                          have HKq := Lib.hid (HB0.out.trans (kept_below2 HDm.out.kp (by omega) (by omega) (by rw [HSZ.out]; omega)))
                          have q0 := HBq.out.cell 0 rfl
                          have q1 := HBq.out.cell 1 rfl
                          have q2 := HBq.out.cell 2 rfl
                          have q3 := HBq.out.cell 3 rfl
                          have z0 := HBq.out.free 0
                          have z1 := HBq.out.free 1
                          have z2 := HBq.out.free 2
                          have z3 := HBq.out.free 3
                          go_wp2_with fail
                          rw [set_same (v := .slice none 0 0) HBq.out rfl, set_same (v := .slice none 0 0) HBq.out rfl, set_same (v := .slice none 0 0) HBq.out rfl, set_same (v := .slice none 0 0) HBq.out rfl]
                          exact bodyPost_ret (v := .tuple #[.agg #[.slice none 0 0, .slice none 0 0, .slice none 0 0, .slice none 0 0], .int .i64 1]) (by simp [results, Try.results30, go_sem, q0, q1, q2, q3]) rfl ⟨by rw [HSN.out]; exact rfl, HKq.out⟩
                        | true =>
                          have HG := Lib.hid hg
                          clear hg
                
                          have HSY := Lib.hid (show dR0 bs = some ⟨sh, xs, [], ys⟩ by rw [HSys.out, dR5, HG.out]; rw [show decide (0 < r8.length) = false from decide_eq_false (by omega)]; rfl)
                          have HBq := Lib.hid (HDm.out.box HBS.out (by omega) (by omega))
                          have HKq := Lib.hid (below_four (S := w.heap.size) (a := .slice ash sh.length csh) (b := .slice axs xs.length cxs) (c := .slice none 0 0) (d := .slice ays ys.length cys) (HB0.out.trans (kept_below2 HDm.out.kp (by omega) (by omega) (by rw [HSZ.out]; omega))) (Nat.le_refl _))
                          have HB4 := Lib.hid (box_four (a := .slice ash sh.length csh) (b := .slice axs xs.length cxs) (c := .slice none 0 0) (d := .slice ays ys.length cys) HBq.out)
                          have hSW : w.heap.size < W0.heap.size := by rw [HSZ.out]; omega
                          have HOW := Lib.hid (And.intro (own_four HDm.out.oa hSW (.slice ash sh.length csh) (.slice axs xs.length cxs) (.slice none 0 0) (.slice ays ys.length cys)) (And.intro (own_four HDm.out.ob hSW (.slice ash sh.length csh) (.slice axs xs.length cxs) (.slice none 0 0) (.slice ays ys.length cys)) (And.intro (own_four HDm.out.oc hSW (.slice ash sh.length csh) (.slice axs xs.length cxs) (.slice none 0 0) (.slice ays ys.length cys)) (own_four HDm.out.od hSW (.slice ash sh.length csh) (.slice axs xs.length cxs) (.slice none 0 0) (.slice ays ys.length cys)))))
                          have q0 : wm.cell? ⟨w.heap.size, 0, none⟩ = some (.slice none 0 0) := HBq.out.cell 0 rfl
                          have q1 : wm.cell? ⟨w.heap.size, 1, none⟩ = some (.slice none 0 0) := HBq.out.cell 1 rfl
                          have q2 : wm.cell? ⟨w.heap.size, 2, none⟩ = some (.slice none 0 0) := HBq.out.cell 2 rfl
                          have q3 : wm.cell? ⟨w.heap.size, 3, none⟩ = some (.slice none 0 0) := HBq.out.cell 3 rfl
                          have z0 := HBq.out.free 0
                          have z1 := HBq.out.free 1
                          have z2 := HBq.out.free 2
                          have z3 := HBq.out.free 3
                          have e0 : wm.cell? ⟨w.heap.size + 2, 0, none⟩ = some (.slice ash sh.length csh) := HDm.out.bl.cell 0 rfl
                          have e1 : wm.cell? ⟨w.heap.size + 2, 1, none⟩ = some (.slice axs xs.length cxs) := HDm.out.bl.cell 1 rfl
                          have e2 : wm.cell? ⟨w.heap.size + 2, 2, none⟩ = some (.slice none 0 0) := HDm.out.bl.cell 2 rfl
                          have e3 : wm.cell? ⟨w.heap.size + 2, 3, none⟩ = some (.slice ays ys.length cys) := HDm.out.bl.cell 3 rfl
                          go_wp2_with fail
                          clear q0 q1 q2 q3 z0 z1 z2 z3 e0 e1 e2 e3
                          generalize ((((wm.setCell ⟨w.heap.size, 0, none⟩ (.slice ash sh.length csh)).setCell ⟨w.heap.size, 1, none⟩ (.slice axs xs.length cxs)).setCell ⟨w.heap.size, 2, none⟩ (.slice none 0 0)).setCell ⟨w.heap.size, 3, none⟩ (.slice ays ys.length cys)) = wz at HKq HB4 HOW ⊢
                          have q0 : wz.cell? ⟨w.heap.size, 0, none⟩ = some (.slice ash sh.length csh) := HB4.out.cell 0 rfl
                          have q1 : wz.cell? ⟨w.heap.size, 1, none⟩ = some (.slice axs xs.length cxs) := HB4.out.cell 1 rfl
                          have q2 : wz.cell? ⟨w.heap.size, 2, none⟩ = some (.slice none 0 0) := HB4.out.cell 2 rfl
                          have q3 : wz.cell? ⟨w.heap.size, 3, none⟩ = some (.slice ays ys.length cys) := HB4.out.cell 3 rfl
                          exact bodyPost_ret (v := .tuple #[.agg #[.slice ash sh.length csh, .slice axs xs.length cxs, .slice none 0 0, .slice ays ys.length cys], .int .i64 0]) (by simp [results, Try.results30, go_sem, q0, q1, q2, q3]) rfl ⟨by rw [HSY.out]; exact ⟨_, _, _, _, rfl, own_mono HOW.out.1 (Nat.le_of_lt hSW), own_mono HOW.out.2.1 (Nat.le_of_lt hSW), own_mono HOW.out.2.2.1 (Nat.le_of_lt hSW), own_mono HOW.out.2.2.2 (Nat.le_of_lt hSW)⟩, HKq.out⟩
                      · have hlb : ((r8.length : Int) != 0) = true := by simp [hl0]
                        have HSN := Lib.hid (show dR0 bs = none by rw [HSys.out, dR5, show decide (0 < r8.length) = true from decide_eq_true (by omega)]; rfl)
                
                        have HBq := Lib.hid (HDl.out.box HBS.out (by omega) (by omega))
                        have HKq := Lib.hid (HB0.out.trans (kept_below2 HDl.out.kp (by omega) (by omega) (by rw [HSZ.out]; omega)))
                        have q0 := HBq.out.cell 0 rfl
                        have q1 := HBq.out.cell 1 rfl
                        have q2 := HBq.out.cell 2 rfl
                        have q3 := HBq.out.cell 3 rfl
                        have z0 := HBq.out.free 0
                        have z1 := HBq.out.free 1
                        have z2 := HBq.out.free 2
                        have z3 := HBq.out.free 3
                        go_wp2_with fail
                        rw [set_same (v := .slice none 0 0) HBq.out rfl, set_same (v := .slice none 0 0) HBq.out rfl, set_same (v := .slice none 0 0) HBq.out rfl, set_same (v := .slice none 0 0) HBq.out rfl]
                        exact bodyPost_ret (v := .tuple #[.agg #[.slice none 0 0, .slice none 0 0, .slice none 0 0, .slice none 0 0], .int .i64 1]) (by simp [results, Try.results30, go_sem, q0, q1, q2, q3]) rfl ⟨by rw [HSN.out]; exact rfl, HKq.out⟩
      · by_cases gk0 : k = 0
        · subst gk0
          have HSz := Lib.hid (show dR0 bs = dR3d sh n 0 0 r5 b5 by rw [HSk.out]; rfl)
        
          cases b5 with
          | true =>
            have HSN := Lib.hid (show dR0 bs = none by rw [HSz.out, dR3d]; rfl)
            have kb : _ = some (Value.bool true) := HDk.out.ra.badcell
        
            have HBq := Lib.hid (HDk.out.box HBS.out (by omega) (by omega))
            have HKq := Lib.hid (HB0.out.trans (kept_below2 HDk.out.kp (by omega) (by omega) (by rw [HSZ.out]; omega)))
            have q0 := HBq.out.cell 0 rfl
            have q1 := HBq.out.cell 1 rfl
            have q2 := HBq.out.cell 2 rfl
            have q3 := HBq.out.cell 3 rfl
            have z0 := HBq.out.free 0
            have z1 := HBq.out.free 1
            have z2 := HBq.out.free 2
            have z3 := HBq.out.free 3
            go_wp2_with fail
            rw [set_same (v := .slice none 0 0) HBq.out rfl, set_same (v := .slice none 0 0) HBq.out rfl, set_same (v := .slice none 0 0) HBq.out rfl, set_same (v := .slice none 0 0) HBq.out rfl]
            exact bodyPost_ret (v := .tuple #[.agg #[.slice none 0 0, .slice none 0 0, .slice none 0 0, .slice none 0 0], .int .i64 1]) (by simp [results, Try.results30, go_sem, q0, q1, q2, q3]) rfl ⟨by rw [HSN.out]; exact rfl, HKq.out⟩
          | false =>
            have kb : _ = some (Value.bool false) := HDk.out.ra.badcell
            have k0 : _ = some (Value.slice ash sh.length csh) := HDk.out.bl.cell 0 rfl
            cases hg : shapeB sh with
            | false =>
              have HG := Lib.hid hg
              clear hg
        
              have HSN := Lib.hid (show dR0 bs = none by rw [HSz.out, dR3d, show badHead sh n 0 0 false = true from by simp [badHead, HG.out], cond_true])
        
              go_wp2_with fail
              clear kb k0
              refine (ref6May_any _ sh _ (Rd.of_own HDk.out.oa) (by omega)).mono ?_
              rintro e wm ⟨rfl, hsm⟩
              have HDm := Lib.hid (HDk.out.same hsm)
              rw [HG.out]
              clear hsm
        
              have HBq := Lib.hid (HDm.out.box HBS.out (by omega) (by omega))
              have HKq := Lib.hid (HB0.out.trans (kept_below2 HDm.out.kp (by omega) (by omega) (by rw [HSZ.out]; omega)))
              have q0 := HBq.out.cell 0 rfl
              have q1 := HBq.out.cell 1 rfl
              have q2 := HBq.out.cell 2 rfl
              have q3 := HBq.out.cell 3 rfl
              have z0 := HBq.out.free 0
              have z1 := HBq.out.free 1
              have z2 := HBq.out.free 2
              have z3 := HBq.out.free 3
              go_wp2_with fail
              rw [set_same (v := .slice none 0 0) HBq.out rfl, set_same (v := .slice none 0 0) HBq.out rfl, set_same (v := .slice none 0 0) HBq.out rfl, set_same (v := .slice none 0 0) HBq.out rfl]
              exact bodyPost_ret (v := .tuple #[.agg #[.slice none 0 0, .slice none 0 0, .slice none 0 0, .slice none 0 0], .int .i64 1]) (by simp [results, Try.results30, go_sem, q0, q1, q2, q3]) rfl ⟨by rw [HSN.out]; exact rfl, HKq.out⟩
            | true =>
              have HG := Lib.hid hg
              clear hg
        
              by_cases g5 : n < 1
              · have HSN := Lib.hid (show dR0 bs = none by rw [HSz.out, dR3d, show badHead sh n 0 0 false = true from by simp [badHead, g5], cond_true])
                have d5 : decide ((n : Int) < 1) = true := decide_eq_true (by omega)
                go_wp2_with fail
                clear kb k0
                refine (ref6May_any _ sh _ (Rd.of_own HDk.out.oa) (by omega)).mono ?_
                rintro e wm ⟨rfl, hsm⟩
                have HDm := Lib.hid (HDk.out.same hsm)
                rw [HG.out]
                clear hsm
          
                have HBq := Lib.hid (HDm.out.box HBS.out (by omega) (by omega))
                have HKq := Lib.hid (HB0.out.trans (kept_below2 HDm.out.kp (by omega) (by omega) (by rw [HSZ.out]; omega)))
                have q0 := HBq.out.cell 0 rfl
                have q1 := HBq.out.cell 1 rfl
                have q2 := HBq.out.cell 2 rfl
                have q3 := HBq.out.cell 3 rfl
                have z0 := HBq.out.free 0
                have z1 := HBq.out.free 1
                have z2 := HBq.out.free 2
                have z3 := HBq.out.free 3
                go_wp2_with fail
                rw [set_same (v := .slice none 0 0) HBq.out rfl, set_same (v := .slice none 0 0) HBq.out rfl, set_same (v := .slice none 0 0) HBq.out rfl, set_same (v := .slice none 0 0) HBq.out rfl]
                exact bodyPost_ret (v := .tuple #[.agg #[.slice none 0 0, .slice none 0 0, .slice none 0 0, .slice none 0 0], .int .i64 1]) (by simp [results, Try.results30, go_sem, q0, q1, q2, q3]) rfl ⟨by rw [HSN.out]; exact rfl, HKq.out⟩
              · have d5 : decide ((n : Int) < 1) = false := decide_eq_false (by omega)
                by_cases g6 : 1024 < n
                · have HSN := Lib.hid (show dR0 bs = none by rw [HSz.out, dR3d, show badHead sh n 0 0 false = true from by simp [badHead, g6], cond_true])
                  have d6 : decide ((1024 : Int) < n) = true := decide_eq_true (by omega)
                  go_wp2_with fail
                  clear kb k0
                  refine (ref6May_any _ sh _ (Rd.of_own HDk.out.oa) (by omega)).mono ?_
                  rintro e wm ⟨rfl, hsm⟩
                  have HDm := Lib.hid (HDk.out.same hsm)
                  rw [HG.out]
                  clear hsm
            
                  have HBq := Lib.hid (HDm.out.box HBS.out (by omega) (by omega))
                  have HKq := Lib.hid (HB0.out.trans (kept_below2 HDm.out.kp (by omega) (by omega) (by rw [HSZ.out]; omega)))
                  have q0 := HBq.out.cell 0 rfl
                  have q1 := HBq.out.cell 1 rfl
                  have q2 := HBq.out.cell 2 rfl
                  have q3 := HBq.out.cell 3 rfl
                  have z0 := HBq.out.free 0
                  have z1 := HBq.out.free 1
                  have z2 := HBq.out.free 2
                  have z3 := HBq.out.free 3
                  go_wp2_with fail
                  rw [set_same (v := .slice none 0 0) HBq.out rfl, set_same (v := .slice none 0 0) HBq.out rfl, set_same (v := .slice none 0 0) HBq.out rfl, set_same (v := .slice none 0 0) HBq.out rfl]
                  exact bodyPost_ret (v := .tuple #[.agg #[.slice none 0 0, .slice none 0 0, .slice none 0 0, .slice none 0 0], .int .i64 1]) (by simp [results, Try.results30, go_sem, q0, q1, q2, q3]) rfl ⟨by rw [HSN.out]; exact rfl, HKq.out⟩
                · have d6 : decide ((1024 : Int) < n) = false := decide_eq_false (by omega)
            
                  have HS := Lib.hid (show dR0 bs = dR4 sh n 0 0 r5 false by rw [HSz.out, dR3d, show badHead sh n 0 0 false = false from by simp [badHead, HG.out]; omega, cond_false])
            
                  go_wp2_with fail
                  clear kb k0
                  refine (ref6May_any _ sh _ (Rd.of_own HDk.out.oa) (by omega)).mono ?_
                  rintro e wm ⟨rfl, hsm⟩
                  have HDm := Lib.hid (HDk.out.same hsm)
                  rw [HG.out]
                  clear hsm
            
                  clear d5 d6
                  obtain ⟨p1, p2⟩ := prodL_bd sh (shapeB_parts HG.out).2.1
                  have p3 := (shapeB_parts HG.out).2.2
                  have p4 := (shapeB_parts HG.out).1
                  obtain ⟨P, hP⟩ : ∃ P : Nat, (P : Int) = prodL sh := ⟨(prodL sh).toNat, by omega⟩
                  have hP1 : 1 ≤ P := by omega
                  have hP2 : P ≤ 65536 := by omega
                  have HPP := Lib.hid hP
                  have HPN := Lib.hid (show (prodL sh).toNat = P by omega)
                  have hnP : n * P ≤ 67108864 := Nat.mul_le_mul (show n ≤ 1024 by omega) hP2
                  obtain ⟨bb1, bb2⟩ := bnd_mul hnP
                  clear p1 p2 p3 hP
                  have k0 : _ = some (Value.slice ash sh.length csh) := HDm.out.bl.cell 0 rfl
                  go_wp2_with fail
                  clear k0
                  refine (ref6Count_any _ sh _ (Rd.of_own HDm.out.oa) (shapeB_parts HG.out).2.1 p4).mono ?_
                  rintro e wc ⟨rfl, hsc⟩
                  rw [cnt_of (shapeB_parts HG.out).2.2, ← HPP.out]
                  have HDc := Lib.hid (HDm.out.same hsc)
                  clear hsc
                  go_wp2_with fail
            
                  obtain ⟨xs, r7, b7, hp⟩ : ∃ x r b, rWords (n * P) r5 false = (x, r, b) := ⟨_, _, _, rfl⟩
                  have hbd := rWords_bd hp HDc.out.ra.wf.1
                  have hlxs : xs.length ≤ 100000 := Nat.le_trans hbd.2.2 HDc.out.ra.wf.2
                  have HSxs := Lib.hid (show dR0 bs = (match rNums n r7 b7 with | (lb, r, b) => dR5 ⟨sh, xs, lb, []⟩ r b) by rw [HS.out, dR4, HPN.out, hp]; rfl)
                  refine (rwords_st (Int.natCast_mul n P).symm HDc.out.ra (by omega) hp).mono ?_
                  rintro e wxs ⟨⟨vxs, rfl, ho⟩, ha, hm⟩
                  obtain ⟨axs, cxs, rfl⟩ := own_slice ho
                  have HExs := Lib.hid (HDc.out.call hne hRW ha hm)
                  have HDxs := Lib.hid (HExs.out.store1 hRL hLW (own_mono ho HDc.out.kp.size))
                  have k1 : wxs.cell? ⟨w.heap.size + 2, 1, none⟩ = some (.slice none 0 0) := HExs.out.bl.cell 1 rfl
                  have z1 := HExs.out.bl.free 1
                  clear hp hbd ha hm ho
                  go_wp2_with fail
                  clear k1 z1 HExs
                  generalize (wxs.setCell ⟨w.heap.size + 2, 1, none⟩ (Value.slice axs xs.length cxs)) = wnxs at HDxs ⊢
            
                  obtain ⟨lb, r8, b8, hp⟩ : ∃ x r b, rNums n r7 b7 = (x, r, b) := ⟨_, _, _, rfl⟩
                  have hbd := rNums_bd hp HDxs.out.ra.wf.1
                  have hllb : lb.length ≤ 100000 := Nat.le_trans hbd.2.2 HDxs.out.ra.wf.2
                  have HSlb := Lib.hid (show dR0 bs = dR5 ⟨sh, xs, lb, []⟩ r8 b8 by rw [HSxs.out, hp])
                  refine (rnums_st rfl HDxs.out.ra (by omega) hp).mono ?_
                  rintro e wlb ⟨⟨vlb, rfl, ho⟩, ha, hm⟩
                  obtain ⟨alb, clb, rfl⟩ := own_slice ho
                  have HElb := Lib.hid (HDxs.out.call hne hRW ha hm)
                  have HDlb := Lib.hid (HElb.out.store2 hRL hLW (own_mono ho HDxs.out.kp.size))
                  have k2 : wlb.cell? ⟨w.heap.size + 2, 2, none⟩ = some (.slice none 0 0) := HElb.out.bl.cell 2 rfl
                  have z2 := HElb.out.bl.free 2
                  clear hp hbd ha hm ho
                  go_upto_region 17 with (fail)
                  clear k2 z2 HElb
                  generalize (wlb.setCell ⟨w.heap.size + 2, 2, none⟩ (Value.slice alb lb.length clb)) = wnlb at HDlb ⊢
            
                  cases b8 with
                  | true =>
                    have HSN := Lib.hid (show dR0 bs = none by rw [HSlb.out, dR5]; rfl)
                    have kb : _ = some (Value.bool true) := HDlb.out.ra.badcell
            
                    have HBq := Lib.hid (HDlb.out.box HBS.out (by omega) (by omega))
                    have HKq := Lib.hid (HB0.out.trans (kept_below2 HDlb.out.kp (by omega) (by omega) (by rw [HSZ.out]; omega)))
                    have q0 := HBq.out.cell 0 rfl
                    have q1 := HBq.out.cell 1 rfl
                    have q2 := HBq.out.cell 2 rfl
                    have q3 := HBq.out.cell 3 rfl
                    have z0 := HBq.out.free 0
                    have z1 := HBq.out.free 1
                    have z2 := HBq.out.free 2
                    have z3 := HBq.out.free 3
                    go_wp2_with fail
                    rw [set_same (v := .slice none 0 0) HBq.out rfl, set_same (v := .slice none 0 0) HBq.out rfl, set_same (v := .slice none 0 0) HBq.out rfl, set_same (v := .slice none 0 0) HBq.out rfl]
                    exact bodyPost_ret (v := .tuple #[.agg #[.slice none 0 0, .slice none 0 0, .slice none 0 0, .slice none 0 0], .int .i64 1]) (by simp [results, Try.results30, go_sem, q0, q1, q2, q3]) rfl ⟨by rw [HSN.out]; exact rfl, HKq.out⟩
                  | false =>
                    have kb : _ = some (Value.bool false) := HDlb.out.ra.badcell
                    go_wp2_with fail
                    clear kb
                    refine (refLeft_any _ _ _ _ HDlb.out.ra).mono ?_
                    rintro e wl ⟨rfl, hsl⟩
                    have HDl := Lib.hid (HDlb.out.same hsl)
                    clear hsl
                    by_cases hl0 : r8.length = 0
                    · have hlb : ((r8.length : Int) != 0) = false := by simp [hl0]
              
                      have e0 : wl.cell? ⟨w.heap.size + 2, 0, none⟩ = some (.slice ash sh.length csh) := HDl.out.bl.cell 0 rfl
                      have e1 : wl.cell? ⟨w.heap.size + 2, 1, none⟩ = some (.slice axs xs.length cxs) := HDl.out.bl.cell 1 rfl
                      have e2 : wl.cell? ⟨w.heap.size + 2, 2, none⟩ = some (.slice alb lb.length clb) := HDl.out.bl.cell 2 rfl
                      have e3 : wl.cell? ⟨w.heap.size + 2, 3, none⟩ = some (.slice none 0 0) := HDl.out.bl.cell 3 rfl
                      go_wp2_with fail
                      clear e0 e1 e2 e3
                      refine (ref30May_any _ _ _ _ ⟨sh, xs, lb, []⟩ _ HDl.out.rd ⟨by simp only; omega, by simp only; omega, by simp only; omega, by simp⟩).mono ?_
                      rintro e wm ⟨rfl, hBm⟩
                      have HDm := Lib.hid (HDl.out.low hBm)
                      clear hBm
                      cases hg : goodSet ⟨sh, xs, lb, []⟩ with
                      | false =>
                        have HG := Lib.hid hg
                        clear hg
              
                        have HSN := Lib.hid (show dR0 bs = none by rw [HSlb.out, dR5, HG.out]; simp)
              
                        have HBq := Lib.hid (HDm.out.box HBS.out (by omega) (by omega))
                        have HKq := Lib.hid (HB0.out.trans (kept_below2 HDm.out.kp (by omega) (by omega) (by rw [HSZ.out]; omega)))
                        have q0 := HBq.out.cell 0 rfl
                        have q1 := HBq.out.cell 1 rfl
                        have q2 := HBq.out.cell 2 rfl
                        have q3 := HBq.out.cell 3 rfl
                        have z0 := HBq.out.free 0
                        have z1 := HBq.out.free 1
                        have z2 := HBq.out.free 2
                        have z3 := HBq.out.free 3
                        go_wp2_with fail
                        rw [set_same (v := .slice none 0 0) HBq.out rfl, set_same (v := .slice none 0 0) HBq.out rfl, set_same (v := .slice none 0 0) HBq.out rfl, set_same (v := .slice none 0 0) HBq.out rfl]
                        exact bodyPost_ret (v := .tuple #[.agg #[.slice none 0 0, .slice none 0 0, .slice none 0 0, .slice none 0 0], .int .i64 1]) (by simp [results, Try.results30, go_sem, q0, q1, q2, q3]) rfl ⟨by rw [HSN.out]; exact rfl, HKq.out⟩
                      | true =>
                        have HG := Lib.hid hg
                        clear hg
              
                        have HSY := Lib.hid (show dR0 bs = some ⟨sh, xs, lb, []⟩ by rw [HSlb.out, dR5, HG.out]; rw [show decide (0 < r8.length) = false from decide_eq_false (by omega)]; rfl)
                        have HBq := Lib.hid (HDm.out.box HBS.out (by omega) (by omega))
                        have HKq := Lib.hid (below_four (S := w.heap.size) (a := .slice ash sh.length csh) (b := .slice axs xs.length cxs) (c := .slice alb lb.length clb) (d := .slice none 0 0) (HB0.out.trans (kept_below2 HDm.out.kp (by omega) (by omega) (by rw [HSZ.out]; omega))) (Nat.le_refl _))
                        have HB4 := Lib.hid (box_four (a := .slice ash sh.length csh) (b := .slice axs xs.length cxs) (c := .slice alb lb.length clb) (d := .slice none 0 0) HBq.out)
                        have hSW : w.heap.size < W0.heap.size := by rw [HSZ.out]; omega
                        have HOW := Lib.hid (And.intro (own_four HDm.out.oa hSW (.slice ash sh.length csh) (.slice axs xs.length cxs) (.slice alb lb.length clb) (.slice none 0 0)) (And.intro (own_four HDm.out.ob hSW (.slice ash sh.length csh) (.slice axs xs.length cxs) (.slice alb lb.length clb) (.slice none 0 0)) (And.intro (own_four HDm.out.oc hSW (.slice ash sh.length csh) (.slice axs xs.length cxs) (.slice alb lb.length clb) (.slice none 0 0)) (own_four HDm.out.od hSW (.slice ash sh.length csh) (.slice axs xs.length cxs) (.slice alb lb.length clb) (.slice none 0 0)))))
                        have q0 : wm.cell? ⟨w.heap.size, 0, none⟩ = some (.slice none 0 0) := HBq.out.cell 0 rfl
                        have q1 : wm.cell? ⟨w.heap.size, 1, none⟩ = some (.slice none 0 0) := HBq.out.cell 1 rfl
                        have q2 : wm.cell? ⟨w.heap.size, 2, none⟩ = some (.slice none 0 0) := HBq.out.cell 2 rfl
                        have q3 : wm.cell? ⟨w.heap.size, 3, none⟩ = some (.slice none 0 0) := HBq.out.cell 3 rfl
                        have z0 := HBq.out.free 0
                        have z1 := HBq.out.free 1
                        have z2 := HBq.out.free 2
                        have z3 := HBq.out.free 3
                        have e0 : wm.cell? ⟨w.heap.size + 2, 0, none⟩ = some (.slice ash sh.length csh) := HDm.out.bl.cell 0 rfl
                        have e1 : wm.cell? ⟨w.heap.size + 2, 1, none⟩ = some (.slice axs xs.length cxs) := HDm.out.bl.cell 1 rfl
                        have e2 : wm.cell? ⟨w.heap.size + 2, 2, none⟩ = some (.slice alb lb.length clb) := HDm.out.bl.cell 2 rfl
                        have e3 : wm.cell? ⟨w.heap.size + 2, 3, none⟩ = some (.slice none 0 0) := HDm.out.bl.cell 3 rfl
                        go_wp2_with fail
                        clear q0 q1 q2 q3 z0 z1 z2 z3 e0 e1 e2 e3
                        generalize ((((wm.setCell ⟨w.heap.size, 0, none⟩ (.slice ash sh.length csh)).setCell ⟨w.heap.size, 1, none⟩ (.slice axs xs.length cxs)).setCell ⟨w.heap.size, 2, none⟩ (.slice alb lb.length clb)).setCell ⟨w.heap.size, 3, none⟩ (.slice none 0 0)) = wz at HKq HB4 HOW ⊢
                        have q0 : wz.cell? ⟨w.heap.size, 0, none⟩ = some (.slice ash sh.length csh) := HB4.out.cell 0 rfl
                        have q1 : wz.cell? ⟨w.heap.size, 1, none⟩ = some (.slice axs xs.length cxs) := HB4.out.cell 1 rfl
                        have q2 : wz.cell? ⟨w.heap.size, 2, none⟩ = some (.slice alb lb.length clb) := HB4.out.cell 2 rfl
                        have q3 : wz.cell? ⟨w.heap.size, 3, none⟩ = some (.slice none 0 0) := HB4.out.cell 3 rfl
                        exact bodyPost_ret (v := .tuple #[.agg #[.slice ash sh.length csh, .slice axs xs.length cxs, .slice alb lb.length clb, .slice none 0 0], .int .i64 0]) (by simp [results, Try.results30, go_sem, q0, q1, q2, q3]) rfl ⟨by rw [HSY.out]; exact ⟨_, _, _, _, rfl, own_mono HOW.out.1 (Nat.le_of_lt hSW), own_mono HOW.out.2.1 (Nat.le_of_lt hSW), own_mono HOW.out.2.2.1 (Nat.le_of_lt hSW), own_mono HOW.out.2.2.2 (Nat.le_of_lt hSW)⟩, HKq.out⟩
                    · have hlb : ((r8.length : Int) != 0) = true := by simp [hl0]
                      have HSN := Lib.hid (show dR0 bs = none by rw [HSlb.out, dR5, show decide (0 < r8.length) = true from decide_eq_true (by omega)]; rfl)
              
                      have HBq := Lib.hid (HDl.out.box HBS.out (by omega) (by omega))
                      have HKq := Lib.hid (HB0.out.trans (kept_below2 HDl.out.kp (by omega) (by omega) (by rw [HSZ.out]; omega)))
                      have q0 := HBq.out.cell 0 rfl
                      have q1 := HBq.out.cell 1 rfl
                      have q2 := HBq.out.cell 2 rfl
                      have q3 := HBq.out.cell 3 rfl
                      have z0 := HBq.out.free 0
                      have z1 := HBq.out.free 1
                      have z2 := HBq.out.free 2
                      have z3 := HBq.out.free 3
                      go_wp2_with fail
                      rw [set_same (v := .slice none 0 0) HBq.out rfl, set_same (v := .slice none 0 0) HBq.out rfl, set_same (v := .slice none 0 0) HBq.out rfl, set_same (v := .slice none 0 0) HBq.out rfl]
                      exact bodyPost_ret (v := .tuple #[.agg #[.slice none 0 0, .slice none 0 0, .slice none 0 0, .slice none 0 0], .int .i64 1]) (by simp [results, Try.results30, go_sem, q0, q1, q2, q3]) rfl ⟨by rw [HSN.out]; exact rfl, HKq.out⟩
        · have gb : ((k : Int) == 1) = false := by simp; omega
          have gb1 : decide ((1 : Int) < k) = true := decide_eq_true (by omega)
          have HSN := Lib.hid (show dR0 bs = none by rw [HSk.out, dR3c, show (k == 1) = false by simp; omega, cond_false, dR3d, show badHead sh n k 0 b5 = true by simp [badHead]; omega, cond_true])
          cases b5 with
          | true =>
            have kb : _ = some (Value.bool true) := HDk.out.ra.badcell
        
            have HBq := Lib.hid (HDk.out.box HBS.out (by omega) (by omega))
            have HKq := Lib.hid (HB0.out.trans (kept_below2 HDk.out.kp (by omega) (by omega) (by rw [HSZ.out]; omega)))
            have q0 := HBq.out.cell 0 rfl
            have q1 := HBq.out.cell 1 rfl
            have q2 := HBq.out.cell 2 rfl
            have q3 := HBq.out.cell 3 rfl
            have z0 := HBq.out.free 0
            have z1 := HBq.out.free 1
            have z2 := HBq.out.free 2
            have z3 := HBq.out.free 3
            go_wp2_with fail
            rw [set_same (v := .slice none 0 0) HBq.out rfl, set_same (v := .slice none 0 0) HBq.out rfl, set_same (v := .slice none 0 0) HBq.out rfl, set_same (v := .slice none 0 0) HBq.out rfl]
            exact bodyPost_ret (v := .tuple #[.agg #[.slice none 0 0, .slice none 0 0, .slice none 0 0, .slice none 0 0], .int .i64 1]) (by simp [results, Try.results30, go_sem, q0, q1, q2, q3]) rfl ⟨by rw [HSN.out]; exact rfl, HKq.out⟩
          | false =>
            have kb : _ = some (Value.bool false) := HDk.out.ra.badcell
            have k0 : _ = some (Value.slice ash sh.length csh) := HDk.out.bl.cell 0 rfl
            cases hg : shapeB sh
            all_goals
              have HG := Lib.hid hg
              clear hg
              by_cases g5 : n < 1
              · have d5 : decide ((n : Int) < 1) = true := decide_eq_true (by omega)
                go_wp2_with fail
                clear kb k0
                refine (ref6May_any _ sh _ (Rd.of_own HDk.out.oa) (by omega)).mono ?_
                rintro e wm ⟨rfl, hsm⟩
                have HDm := Lib.hid (HDk.out.same hsm)
                rw [HG.out]
                clear hsm
                have HBq := Lib.hid (HDm.out.box HBS.out (by omega) (by omega))
                have HKq := Lib.hid (HB0.out.trans (kept_below2 HDm.out.kp (by omega) (by omega) (by rw [HSZ.out]; omega)))
                have q0 := HBq.out.cell 0 rfl
                have q1 := HBq.out.cell 1 rfl
                have q2 := HBq.out.cell 2 rfl
                have q3 := HBq.out.cell 3 rfl
                have z0 := HBq.out.free 0
                have z1 := HBq.out.free 1
                have z2 := HBq.out.free 2
                have z3 := HBq.out.free 3
                go_wp2_with fail
                rw [set_same (v := .slice none 0 0) HBq.out rfl, set_same (v := .slice none 0 0) HBq.out rfl, set_same (v := .slice none 0 0) HBq.out rfl, set_same (v := .slice none 0 0) HBq.out rfl]
                exact bodyPost_ret (v := .tuple #[.agg #[.slice none 0 0, .slice none 0 0, .slice none 0 0, .slice none 0 0], .int .i64 1]) (by simp [results, Try.results30, go_sem, q0, q1, q2, q3]) rfl ⟨by rw [HSN.out]; exact rfl, HKq.out⟩
              · have d5 : decide ((n : Int) < 1) = false := decide_eq_false (by omega)
                by_cases g6 : 1024 < n
                · have d6 : decide ((1024 : Int) < n) = true := decide_eq_true (by omega)
                  go_wp2_with fail
                  clear kb k0
                  refine (ref6May_any _ sh _ (Rd.of_own HDk.out.oa) (by omega)).mono ?_
                  rintro e wm ⟨rfl, hsm⟩
                  have HDm := Lib.hid (HDk.out.same hsm)
                  rw [HG.out]
                  clear hsm
                  have HBq := Lib.hid (HDm.out.box HBS.out (by omega) (by omega))
                  have HKq := Lib.hid (HB0.out.trans (kept_below2 HDm.out.kp (by omega) (by omega) (by rw [HSZ.out]; omega)))
                  have q0 := HBq.out.cell 0 rfl
                  have q1 := HBq.out.cell 1 rfl
                  have q2 := HBq.out.cell 2 rfl
                  have q3 := HBq.out.cell 3 rfl
                  have z0 := HBq.out.free 0
                  have z1 := HBq.out.free 1
                  have z2 := HBq.out.free 2
                  have z3 := HBq.out.free 3
                  go_wp2_with fail
                  rw [set_same (v := .slice none 0 0) HBq.out rfl, set_same (v := .slice none 0 0) HBq.out rfl, set_same (v := .slice none 0 0) HBq.out rfl, set_same (v := .slice none 0 0) HBq.out rfl]
                  exact bodyPost_ret (v := .tuple #[.agg #[.slice none 0 0, .slice none 0 0, .slice none 0 0, .slice none 0 0], .int .i64 1]) (by simp [results, Try.results30, go_sem, q0, q1, q2, q3]) rfl ⟨by rw [HSN.out]; exact rfl, HKq.out⟩
                · have d6 : decide ((1024 : Int) < n) = false := decide_eq_false (by omega)
                  go_wp2_with fail
                  clear kb k0
                  refine (ref6May_any _ sh _ (Rd.of_own HDk.out.oa) (by omega)).mono ?_
                  rintro e wm ⟨rfl, hsm⟩
                  have HDm := Lib.hid (HDk.out.same hsm)
                  rw [HG.out]
                  clear hsm
                  have HBq := Lib.hid (HDm.out.box HBS.out (by omega) (by omega))
                  have HKq := Lib.hid (HB0.out.trans (kept_below2 HDm.out.kp (by omega) (by omega) (by rw [HSZ.out]; omega)))
                  have q0 := HBq.out.cell 0 rfl
                  have q1 := HBq.out.cell 1 rfl
                  have q2 := HBq.out.cell 2 rfl
                  have q3 := HBq.out.cell 3 rfl
                  have z0 := HBq.out.free 0
                  have z1 := HBq.out.free 1
                  have z2 := HBq.out.free 2
                  have z3 := HBq.out.free 3
                  go_wp2_with fail
                  rw [set_same (v := .slice none 0 0) HBq.out rfl, set_same (v := .slice none 0 0) HBq.out rfl, set_same (v := .slice none 0 0) HBq.out rfl, set_same (v := .slice none 0 0) HBq.out rfl]
                  exact bodyPost_ret (v := .tuple #[.agg #[.slice none 0 0, .slice none 0 0, .slice none 0 0, .slice none 0 0], .int .i64 1]) (by simp [results, Try.results30, go_sem, q0, q1, q2, q3]) rfl ⟨by rw [HSN.out]; exact rfl, HKq.out⟩
    · have HSN := Lib.hid (show dR0 bs = none by rw [HSv1.out, show (v1 == 1) = false by simp [g1], cond_false])
      have gb : ((v1 : Int) != 1) = true := by simp; omega
      clear g1 HSv1
    
      have HBq := Lib.hid (HDv1.out.box HBS.out (by omega) (by omega))
      have HKq := Lib.hid (HB0.out.trans (kept_below2 HDv1.out.kp (by omega) (by omega) (by rw [HSZ.out]; omega)))
      have q0 := HBq.out.cell 0 rfl
      have q1 := HBq.out.cell 1 rfl
      have q2 := HBq.out.cell 2 rfl
      have q3 := HBq.out.cell 3 rfl
      have z0 := HBq.out.free 0
      have z1 := HBq.out.free 1
      have z2 := HBq.out.free 2
      have z3 := HBq.out.free 3
      go_wp2_with fail
      rw [set_same (v := .slice none 0 0) HBq.out rfl, set_same (v := .slice none 0 0) HBq.out rfl, set_same (v := .slice none 0 0) HBq.out rfl, set_same (v := .slice none 0 0) HBq.out rfl]
      exact bodyPost_ret (v := .tuple #[.agg #[.slice none 0 0, .slice none 0 0, .slice none 0 0, .slice none 0 0], .int .i64 1]) (by simp [results, Try.results30, go_sem, q0, q1, q2, q3]) rfl ⟨by rw [HSN.out]; exact rfl, HKq.out⟩
  · have HSN := Lib.hid (show dR0 bs = none by rw [HSv0.out, show (v0 == 1381188948) = false by simp [g0], cond_false])
    have gb : ((v0 : Int) != 1381188948) = true := by simp; omega
    clear g0 HSv0
  
    have HBq := Lib.hid (HDv0.out.box HBS.out (by omega) (by omega))
    have HKq := Lib.hid (HB0.out.trans (kept_below2 HDv0.out.kp (by omega) (by omega) (by rw [HSZ.out]; omega)))
    have q0 := HBq.out.cell 0 rfl
    have q1 := HBq.out.cell 1 rfl
    have q2 := HBq.out.cell 2 rfl
    have q3 := HBq.out.cell 3 rfl
    have z0 := HBq.out.free 0
    have z1 := HBq.out.free 1
    have z2 := HBq.out.free 2
    have z3 := HBq.out.free 3
    go_wp2_with fail
    rw [set_same (v := .slice none 0 0) HBq.out rfl, set_same (v := .slice none 0 0) HBq.out rfl, set_same (v := .slice none 0 0) HBq.out rfl, set_same (v := .slice none 0 0) HBq.out rfl]
    exact bodyPost_ret (v := .tuple #[.agg #[.slice none 0 0, .slice none 0 0, .slice none 0 0, .slice none 0 0], .int .i64 1]) (by simp [results, Try.results30, go_sem, q0, q1, q2, q3]) rfl ⟨by rw [HSN.out]; exact rfl, HKq.out⟩
end Go.Proofs.Ytjhejpeklppmbaa
