/-
  SMALL FUNCTIONS of the law's own: answers written over; sets copied and compared.
-/
import Derived.Test.YtjhejpeklppmbaaDecLaw
import Derived.Test.YtjhejpeklppmbaaEqs
set_option linter.unusedVariables false
set_option linter.unusedSimpArgs false
namespace Go.Proofs.Ytjhejpeklppmbaa
open Go.RowKit Go.Shelf
theorem grown_refl (w : World) (r : Option Nat) : w.grownBy w r := ⟨rfl, rfl, rfl, Nat.le_refl _, fun _ _ _ => rfl⟩
theorem grown_trans {a b c : World} {r : Option Nat} (h : a.grownBy b r) (k : b.grownBy c r) : a.grownBy c r :=
  ⟨k.os.trans h.os, k.tape.trans h.tape, k.output.trans h.output, Nat.le_trans h.size k.size, fun i hi hne => (k.block i (Nat.lt_of_lt_of_le hi h.size) hne).trans (h.block i hi hne)⟩
theorem grown_alloc (w : World) (o : Obj) (r : Option Nat) : w.grownBy (w.alloc o) r := ⟨rfl, rfl, rfl, by simp, fun k hk _ => Below.heap_alloc _ _ _ hk⟩
theorem grown_set {w w' : World} {r : Option Nat} {g k : Nat} {u : Value} (h : w.grownBy w' r) (hr : r = some g) : w.grownBy (w'.setCell ⟨g, k, none⟩ u) r :=
  ⟨h.os, h.tape, h.output, by simpa [World.setCell] using h.size, fun i hi hne => (Below.heap_setCell _ _ _ _ (fun e => hne (by rw [hr]; simp at e; rw [e]))).trans (h.block i hi hne)⟩
theorem own_grown {w w' : World} {B : Nat} {e : TypeId} {s n : Nat} {v u : Value} {xs : List Value} (h : w.ownsRow B e s u n xs) (hg : w.grownBy w' v.ownBlock) (hs : Sep v u) : w'.ownsRow B e s u n xs := by
  refine ⟨h.1, ?_⟩
  rcases h.2 with hn | ⟨g, cap, cur, rfl, hb, hgg, rest⟩
  · exact .inl hn
  · exact .inr ⟨g, cap, cur, rfl, hb, by rw [hg.block g (Array.getElem?_eq_some_iff.1 hgg).1 (fun e => hs g e.symm rfl)]; exact hgg, rest⟩
theorem sep_type {w : World} {B C : Nat} {e e' : TypeId} {s s' n n' : Nat} {v u : Value} {xs ys : List Value} (h : w.ownsRow B e s v n xs) (h' : w.ownsRow C e' s' u n' ys) (hne : e ≠ e') : Sep v u := fun g h1 h2 => by
  rcases h.2 with ⟨rfl, _⟩ | ⟨g1, cap, cur, rfl, hb, hgg, rest⟩
  · cases h1
  · rcases h'.2 with ⟨rfl, _⟩ | ⟨g2, cap2, cur2, rfl, hb2, hgg2, rest2⟩
    · cases h2
    · cases h1
      cases h2
      rw [hgg] at hgg2
      simp only [Option.some.injEq, Obj.cells.injEq] at hgg2
      exact hne hgg2.2.1
theorem below_grown {w w' : World} {B : Nat} {e : TypeId} {s n : Nat} {v : Value} {xs : List Value} (h : w.ownsRow B e s v n xs) (hg : w.grownBy w' v.ownBlock) (hB : B ≤ w.heap.size) : Below B w w' :=
  (Below.refl B w).grown hg hB (fun k hk => (h.lt k hk).1)

set_option maxRecDepth 100000 in
set_option maxHeartbeats 1000000 in
theorem law0Numbers_any (v : Value) (xs : List Int) (B : Nat) (w : World) (hown : OwnI w B 3 .i64 v xs) (hB : B ≤ w.heap.size) (hl : xs.length ≤ 100000000) :
    Calls Try.prog 26 #[v] w fun e w' => e = .returned (.tuple #[]) ∧ w.grownBy w' v.ownBlock := by
  obtain ⟨i0, hi, hz0, hz1, hz2⟩ := info_parts info_i
  obtain ⟨o, cap, rfl⟩ := own_slice hown
  have HO := Lib.hid hown
  clear hown
  go_enter Try.func26, Try.ntmps26
  go_wp2
  go_loopg [2] xs.length (fun g i wr => ∃ (k : Nat) (ys : List Int), g = xs.length - k ∧ k ≤ xs.length ∧ i = .int .i64 k ∧ ys.length = xs.length ∧ OwnI wr B 3 .i64 (.slice o xs.length cap) ys ∧ w.grownBy wr (Value.slice o xs.length cap).ownBlock)
  case atStart => exact ⟨0, xs, rfl, Nat.zero_le _, rfl, rfl, HO.out, grown_refl _ _⟩
  case round =>
    obtain ⟨k, ys, hg, hk, rfl, hyl, hown, hBl⟩ := hrel
    obtain ⟨w3, rfl⟩ : ∃ w3, w3 = wr := ⟨_, rfl⟩
    have HOw := Lib.hid hown
    have HBl := Lib.hid hBl
    have HYL := Lib.hid hyl
    clear hown hBl hyl
    by_cases hlt : k < xs.length
    · have hky : k < ys.length := by rw [HYL.out]; exact hlt
      obtain ⟨gg, cap2, he, hb1, hb2⟩ := OwnI.at HOw.out (by omega)
      simp only [Value.slice.injEq] at he
      obtain ⟨rfl, _, rfl⟩ := he
      obtain ⟨hc, hf⟩ := OwnI.cell HOw.out k hky
      have HX := Lib.hid (OwnI.set HOw.out k (-99))
      have HBX := Lib.hid (grown_set (g := gg) (k := k) (u := .int .i64 (-99)) HBl.out rfl)
      clear hky
      go_wp2
      go_roundg (xs.length - (k + 1))
      case rel => exact ⟨k + 1, ys.set k (-99), rfl, by omega, by go_num, by rw [List.length_set, HYL.out], by have := HX.out; simpa [OwnI] using this, HBX.out⟩
      case measure => omega
    · obtain rfl : k = xs.length := by omega
      have HOw2 := Lib.hid (show w3.ownsRow B 3 1 (.slice o xs.length cap) xs.length (ys.map (Value.int .i64)) by have := HOw.out; rw [OwnI, HYL.out] at this; exact this)
      go_wp2_with (at_builtin; refine wpList_append_own _ rfl _ _ 32 rfl B 3 i0 (.int .i64 0) 1 8 Try.underlying32 hi hz0 hz1 hz2 rfl (by decide) _ _ _ rfl (HOw2.out.alloc _) ⟨w3.heap.size, 0, none⟩ 1 1 [.int .i64 5] rfl rfl (cell_one_new _ _ _) (by simp [Value.oneCell']) (by unfold maxLen; omega) (by omega) (by have := HBl.out.size; simp; omega) ?_; intro v' w1 hown' hgrow _; have HBX := Lib.hid (grown_trans HBl.out (grown_trans (grown_alloc _ _ _) hgrow)); clear hown' hgrow)
      go_end0
      exact ⟨rfl, HBX.out⟩

set_option maxRecDepth 100000 in
set_option maxHeartbeats 1000000 in
theorem law0Words_any (v : Value) (xs : List Int) (B : Nat) (w : World) (hown : OwnI w B 2 .i64 v xs) (hB : B ≤ w.heap.size) (hl : xs.length ≤ 100000000) :
    Calls Try.prog 50 #[v] w fun e w' => e = .returned (.tuple #[]) ∧ w.grownBy w' v.ownBlock := by
  obtain ⟨i0, hi, hz0, hz1, hz2⟩ := info_parts info_int64
  obtain ⟨o, cap, rfl⟩ := own_slice hown
  have HO := Lib.hid hown
  clear hown
  go_enter Try.func50, Try.ntmps50
  go_wp2
  go_loopg [2] xs.length (fun g i wr => ∃ (k : Nat) (ys : List Int), g = xs.length - k ∧ k ≤ xs.length ∧ i = .int .i64 k ∧ ys.length = xs.length ∧ OwnI wr B 2 .i64 (.slice o xs.length cap) ys ∧ w.grownBy wr (Value.slice o xs.length cap).ownBlock)
  case atStart => exact ⟨0, xs, rfl, Nat.zero_le _, rfl, rfl, HO.out, grown_refl _ _⟩
  case round =>
    obtain ⟨k, ys, hg, hk, rfl, hyl, hown, hBl⟩ := hrel
    obtain ⟨w3, rfl⟩ : ∃ w3, w3 = wr := ⟨_, rfl⟩
    have HOw := Lib.hid hown
    have HBl := Lib.hid hBl
    have HYL := Lib.hid hyl
    clear hown hBl hyl
    by_cases hlt : k < xs.length
    · have hky : k < ys.length := by rw [HYL.out]; exact hlt
      obtain ⟨gg, cap2, he, hb1, hb2⟩ := OwnI.at HOw.out (by omega)
      simp only [Value.slice.injEq] at he
      obtain ⟨rfl, _, rfl⟩ := he
      obtain ⟨hc, hf⟩ := OwnI.cell HOw.out k hky
      have HX := Lib.hid (OwnI.set HOw.out k (-9999))
      have HBX := Lib.hid (grown_set (g := gg) (k := k) (u := .int .i64 (-9999)) HBl.out rfl)
      clear hky
      go_wp2
      go_roundg (xs.length - (k + 1))
      case rel => exact ⟨k + 1, ys.set k (-9999), rfl, by omega, by go_num, by rw [List.length_set, HYL.out], by have := HX.out; simpa [OwnI] using this, HBX.out⟩
      case measure => omega
    · obtain rfl : k = xs.length := by omega
      have HOw2 := Lib.hid (show w3.ownsRow B 2 1 (.slice o xs.length cap) xs.length (ys.map (Value.int .i64)) by have := HOw.out; rw [OwnI, HYL.out] at this; exact this)
      go_wp2_with (at_builtin; refine wpList_append_own _ rfl _ _ 33 rfl B 2 i0 (.int .i64 0) 1 8 Try.underlying33 hi hz0 hz1 hz2 rfl (by decide) _ _ _ rfl (HOw2.out.alloc _) ⟨w3.heap.size, 0, none⟩ 1 1 [.int .i64 5] rfl rfl (cell_one_new _ _ _) (by simp [Value.oneCell']) (by unfold maxLen; omega) (by omega) (by have := HBl.out.size; simp; omega) ?_; intro v' w1 hown' hgrow _; have HBX := Lib.hid (grown_trans HBl.out (grown_trans (grown_alloc _ _ _) hgrow)); clear hown' hgrow)
      go_end0
      exact ⟨rfl, HBX.out⟩

set_option maxRecDepth 100000 in
set_option maxHeartbeats 1000000 in
theorem law0Bytes_any (v : Value) (xs : List Int) (B : Nat) (w : World) (hown : OwnI w B 5 .u8 v xs) (hB : B ≤ w.heap.size) (hl : xs.length ≤ 100000000) :
    Calls Try.prog 36 #[v] w fun e w' => e = .returned (.tuple #[]) ∧ w.grownBy w' v.ownBlock := by
  obtain ⟨i0, hi, hz0, hz1, hz2⟩ := info_parts info_u8
  obtain ⟨o, cap, rfl⟩ := own_slice hown
  have HO := Lib.hid hown
  clear hown
  go_enter Try.func36, Try.ntmps36
  go_wp2
  go_loopg [2] xs.length (fun g i wr => ∃ (k : Nat) (ys : List Int), g = xs.length - k ∧ k ≤ xs.length ∧ i = .int .i64 k ∧ ys.length = xs.length ∧ OwnI wr B 5 .u8 (.slice o xs.length cap) ys ∧ w.grownBy wr (Value.slice o xs.length cap).ownBlock)
  case atStart => exact ⟨0, xs, rfl, Nat.zero_le _, rfl, rfl, HO.out, grown_refl _ _⟩
  case round =>
    obtain ⟨k, ys, hg, hk, rfl, hyl, hown, hBl⟩ := hrel
    obtain ⟨w3, rfl⟩ : ∃ w3, w3 = wr := ⟨_, rfl⟩
    have HOw := Lib.hid hown
    have HBl := Lib.hid hBl
    have HYL := Lib.hid hyl
    clear hown hBl hyl
    by_cases hlt : k < xs.length
    · have hky : k < ys.length := by rw [HYL.out]; exact hlt
      obtain ⟨gg, cap2, he, hb1, hb2⟩ := OwnI.at HOw.out (by omega)
      simp only [Value.slice.injEq] at he
      obtain ⟨rfl, _, rfl⟩ := he
      obtain ⟨hc, hf⟩ := OwnI.cell HOw.out k hky
      have HX := Lib.hid (OwnI.set HOw.out k (bits BinOp.xor IntKind.u8 (nth ys k) 85))
      have HBX := Lib.hid (grown_set (g := gg) (k := k) (u := .int .u8 (bits BinOp.xor IntKind.u8 (nth ys k) 85)) HBl.out rfl)
      clear hky
      go_wp2
      go_roundg (xs.length - (k + 1))
      case rel => exact ⟨k + 1, ys.set k (bits BinOp.xor IntKind.u8 (nth ys k) 85), rfl, by omega, by go_num, by rw [List.length_set, HYL.out], by have := HX.out; simpa [OwnI] using this, HBX.out⟩
      case measure => omega
    · obtain rfl : k = xs.length := by omega
      have HOw2 := Lib.hid (show w3.ownsRow B 5 1 (.slice o xs.length cap) xs.length (ys.map (Value.int .u8)) by have := HOw.out; rw [OwnI, HYL.out] at this; exact this)
      go_wp2_with (at_builtin; refine wpList_append_own _ rfl _ _ 23 rfl B 5 i0 (.int .u8 0) 1 1 Try.underlying23 hi hz0 hz1 hz2 rfl (by decide) _ _ _ rfl (HOw2.out.alloc _) ⟨w3.heap.size, 0, none⟩ 1 1 [.int .u8 5] rfl rfl (cell_one_new _ _ _) (by simp [Value.oneCell']) (by unfold maxLen; omega) (by omega) (by have := HBl.out.size; simp; omega) ?_; intro v' w1 hown' hgrow _; have HBX := Lib.hid (grown_trans HBl.out (grown_trans (grown_alloc _ _ _) hgrow)); clear hown' hgrow)
      go_end0
      exact ⟨rfl, HBX.out⟩
--TAIL
theorem eqNumbers_yes {v u : Value} {xs : List Int} {w : World} (hr : Rd w .i64 v xs) (hs : Rd w .i64 u xs) (hl : xs.length ≤ 140737488351232) :
    Calls Try.prog 18 #[v, u] w fun e w' => e = .returned (.bool true) ∧ Same w w' :=
  (eqNumbers_any v u xs xs w hr hs hl).mono fun e w' ⟨he, h⟩ => ⟨by rw [he, decide_eq_true rfl], h⟩
theorem eqWords_yes {v u : Value} {xs : List Int} {w : World} (hr : Rd w .i64 v xs) (hs : Rd w .i64 u xs) (hl : xs.length ≤ 140737488351232) :
    Calls Try.prog 17 #[v, u] w fun e w' => e = .returned (.bool true) ∧ Same w w' :=
  (eqWords_any v u xs xs w hr hs hl).mono fun e w' ⟨he, h⟩ => ⟨by rw [he, decide_eq_true rfl], h⟩
theorem eqBytes_yes {v u : Value} {xs : List Int} {w : World} (hr : Rd w .u8 v xs) (hs : Rd w .u8 u xs) (hl : xs.length ≤ 140737488351232) :
    Calls Try.prog 31 #[v, u] w fun e w' => e = .returned (.bool true) ∧ Same w w' :=
  (eqBytes_any v u xs xs w hr hs hl).mono fun e w' ⟨he, h⟩ => ⟨by rw [he, decide_eq_true rfl], h⟩
/-- four values that own a dataset's parts -/
structure OwnSet (w : World) (B : Nat) (a b c d : Value) (s : SetD) : Prop where
  sh : OwnI w B 3 .i64 a s.sh
  x : OwnI w B 2 .i64 b s.x
  lb : OwnI w B 3 .i64 c s.lb
  y : OwnI w B 2 .i64 d s.y
theorem OwnSet.rd {w : World} {B : Nat} {a b c d : Value} {s : SetD} (h : OwnSet w B a b c d s) : RdSet w a b c d s := ⟨Rd.of_own h.sh, Rd.of_own h.x, Rd.of_own h.lb, Rd.of_own h.y⟩
theorem OwnSet.below {w w' : World} {B C : Nat} {a b c d : Value} {s : SetD} (h : OwnSet w B a b c d s) (hB : Below C w w') (hs : w.heap.size ≤ C) : OwnSet w' B a b c d s :=
  ⟨own_below h.sh hB hs, own_below h.x hB hs, own_below h.lb hB hs, own_below h.y hB hs⟩
theorem OwnSet.mono {w : World} {B C : Nat} {a b c d : Value} {s : SetD} (h : OwnSet w B a b c d s) (hC : C ≤ B) : OwnSet w C a b c d s := ⟨own_mono h.sh hC, own_mono h.x hC, own_mono h.lb hC, own_mono h.y hC⟩
theorem num30_any (n : Int) (w : World) : Calls Try.prog 16 #[.int .i64 n] w fun e w' => e = .returned (.int .i64 n) ∧ w = w' := by
  go_enter Try.func16, Try.ntmps16
  go_wp2
  go_ret
  exact ⟨rfl, rfl⟩
set_option maxHeartbeats 400000 in
theorem dataCheck_any (a b c d : Value) (s : SetD) (w : World) (hr : RdSet w a b c d s) (hl : LimSet s) :
    Calls Try.prog 35 #[.agg #[a, b, c, d]] w fun e w' => e = .returned (.int .i64 (bif goodSet s then 0 else 1)) ∧ Below w.heap.size w w' := by
  obtain ⟨o1, cap1, he1⟩ := rd_slice hr.sh
  obtain ⟨o2, cap2, he2⟩ := rd_slice hr.x
  obtain ⟨o3, cap3, he3⟩ := rd_slice hr.lb
  obtain ⟨o4, cap4, he4⟩ := rd_slice hr.y
  subst he1 he2 he3 he4
  have HR := Lib.hid hr
  have HL := Lib.hid hl
  clear hr hl
  cases hg : goodSet s
  all_goals
    have HG := Lib.hid hg
    clear hg
    go_enter Try.func35, Try.ntmps35
    go_wp2_with fail
    refine (dataGood_any _ _ _ _ s _ (HR.out.alloc _) HL.out).mono ?_
    rintro e w1 ⟨rfl, hb⟩
    rw [HG.out]
    have HB := Lib.hid (((Below.refl _ _).alloc (Nat.le_refl _) _).trans (hb.mono (by simp)))
    clear hb
    go_wp2
    go_ret
    exact ⟨rfl, HB.out⟩
def heavyS (s : SetD) : Bool := decide (8 < s.sh.length) || (decide (400 < s.x.length) || (decide (400 < s.y.length) || decide (400 < s.lb.length)))
set_option maxHeartbeats 400000 in
theorem heavy30_any (a b c d : Value) (s : SetD) (w : World) (hr : RdSet w a b c d s) (hl : s.sh.length ≤ 100000000000000 ∧ s.x.length ≤ 100000000000000 ∧ s.lb.length ≤ 100000000000000 ∧ s.y.length ≤ 100000000000000) :
    Calls Try.prog 12 #[.agg #[a, b, c, d]] w fun e w' => e = .returned (.bool (heavyS s)) ∧ Below w.heap.size w w' := by
  obtain ⟨o1, cap1, he1⟩ := rd_slice hr.sh
  obtain ⟨o2, cap2, he2⟩ := rd_slice hr.x
  obtain ⟨o3, cap3, he3⟩ := rd_slice hr.lb
  obtain ⟨o4, cap4, he4⟩ := rd_slice hr.y
  subst he1 he2 he3 he4
  obtain ⟨hl1, hl2, hl3, hl4⟩ := hl
  clear hr
  have hb : Below w.heap.size w (w.alloc (.cells #[.slice o1 s.sh.length cap1, .slice o2 s.x.length cap2, .slice o3 s.lb.length cap3, .slice o4 s.y.length cap4] 35)) := (Below.refl _ _).alloc (Nat.le_refl _) _
  have HB := Lib.hid hb
  clear hb
  by_cases h1 : 8 < s.sh.length
  · have d1 : decide ((8 : Int) < s.sh.length) = true := decide_eq_true (by omega)
    go_enter Try.func12, Try.ntmps12
    go_wp2
    go_ret
    exact ⟨ret_bool (by simp [heavyS, h1]), HB.out⟩
  · have d1 : decide ((8 : Int) < s.sh.length) = false := decide_eq_false (by omega)
    by_cases h2 : 400 < s.x.length
    · have d2 : decide ((400 : Int) < s.x.length) = true := decide_eq_true (by omega)
      go_enter Try.func12, Try.ntmps12
      go_wp2
      go_ret
      exact ⟨ret_bool (by simp [heavyS, h2]), HB.out⟩
    · have d2 : decide ((400 : Int) < s.x.length) = false := decide_eq_false (by omega)
      by_cases h3 : 400 < s.y.length
      · have d3 : decide ((400 : Int) < s.y.length) = true := decide_eq_true (by omega)
        go_enter Try.func12, Try.ntmps12
        go_wp2
        go_ret
        exact ⟨ret_bool (by simp [heavyS, h3]), HB.out⟩
      · have d3 : decide ((400 : Int) < s.y.length) = false := decide_eq_false (by omega)
        go_enter Try.func12, Try.ntmps12
        go_wp2
        go_ret
        exact ⟨ret_bool (by simp [heavyS, h1, h2, h3]; omega), HB.out⟩
set_option maxRecDepth 100000 in
set_option maxHeartbeats 1000000 in
theorem eqSet_yes (a b c d a' b' c' d' : Value) (s : SetD) (w : World) (hr : RdSet w a b c d s) (hs : RdSet w a' b' c' d' s) (hl : LimSet s) :
    Calls Try.prog 28 #[.agg #[a, b, c, d], .agg #[a', b', c', d']] w fun e w' => e = .returned (.bool true) ∧ Below w.heap.size w w' := by
  obtain ⟨o1, cap1, he1⟩ := rd_slice hr.sh
  obtain ⟨o2, cap2, he2⟩ := rd_slice hr.x
  obtain ⟨o3, cap3, he3⟩ := rd_slice hr.lb
  obtain ⟨o4, cap4, he4⟩ := rd_slice hr.y
  obtain ⟨p1, kap1, hf1⟩ := rd_slice hs.sh
  obtain ⟨p2, kap2, hf2⟩ := rd_slice hs.x
  obtain ⟨p3, kap3, hf3⟩ := rd_slice hs.lb
  obtain ⟨p4, kap4, hf4⟩ := rd_slice hs.y
  subst he1 he2 he3 he4 hf1 hf2 hf3 hf4
  have HR := Lib.hid hr
  have HS := Lib.hid hs
  have HL := Lib.hid hl
  clear hr hs hl
  go_enter Try.func28, Try.ntmps28
  go_wp2_with fail
  refine (eqNumbers_yes ((HR.out.alloc _).alloc _).sh ((HS.out.alloc _).alloc _).sh (by have := HL.out.sh; omega)).mono ?_
  rintro e w1 ⟨rfl, n1, rfl⟩
  go_wp2_with fail
  refine (eqWords_yes (((HR.out.alloc _).alloc _).same ⟨_, rfl⟩).x (((HS.out.alloc _).alloc _).same ⟨_, rfl⟩).x (by have := HL.out.x; omega)).mono ?_
  rintro e w1 ⟨rfl, n2, rfl⟩
  go_wp2_with fail
  refine (eqNumbers_yes (((HR.out.alloc _).alloc _).same ⟨_, rfl⟩).lb (((HS.out.alloc _).alloc _).same ⟨_, rfl⟩).lb (by have := HL.out.lb; omega)).mono ?_
  rintro e w1 ⟨rfl, n3, rfl⟩
  go_wp2_with fail
  refine (eqWords_yes (((HR.out.alloc _).alloc _).same ⟨_, rfl⟩).y (((HS.out.alloc _).alloc _).same ⟨_, rfl⟩).y (by have := HL.out.y; omega)).mono ?_
  rintro e w1 ⟨rfl, n4, rfl⟩
  go_wp2_with fail
  go_ret
  exact ⟨rfl, below_drewN (((Below.refl _ _).alloc (Nat.le_refl _) _).alloc (by simp) _) _⟩
set_option maxRecDepth 100000 in
set_option maxHeartbeats 2000000 in
theorem copySet_any (a b c d : Value) (s : SetD) (w : World) (hr : RdSet w a b c d s) (hl : LimSet s) :
    Calls Try.prog 23 #[.agg #[a, b, c, d]] w fun e w' => (∃ a' b' c' d', e = .returned (.agg #[a', b', c', d']) ∧ OwnSet w' w.heap.size a' b' c' d' s) ∧ Below w.heap.size w w' := by
  obtain ⟨o1, cap1, he1⟩ := rd_slice hr.sh
  obtain ⟨o2, cap2, he2⟩ := rd_slice hr.x
  obtain ⟨o3, cap3, he3⟩ := rd_slice hr.lb
  obtain ⟨o4, cap4, he4⟩ := rd_slice hr.y
  subst he1 he2 he3 he4
  have HR := Lib.hid hr
  have HL := Lib.hid hl
  clear hr hl
  --COPYSET
  obtain ⟨W0, hW0⟩ : ∃ W0, W0 = (((w.alloc (.cells #[.slice o1 s.sh.length cap1, .slice o2 s.x.length cap2, .slice o3 s.lb.length cap3, .slice o4 s.y.length cap4] 35)).alloc (.cells #[.slice none 0 0, .slice none 0 0, .slice none 0 0, .slice none 0 0] 35)).alloc (.cells #[.slice o1 s.sh.length cap1, .slice o2 s.x.length cap2, .slice o3 s.lb.length cap3, .slice o4 s.y.length cap4] 35)) := ⟨_, rfl⟩
  have HB1 := Lib.hid (show Box W0 w.heap.size 35 #[.slice o1 s.sh.length cap1, .slice o2 s.x.length cap2, .slice o3 s.lb.length cap3, .slice o4 s.y.length cap4] by
    rw [hW0]; exact Box.below (C := w.heap.size + 1) (Box.below (C := w.heap.size + 1) (Box.new_at rfl) ((Below.refl _ _).alloc (by simp) _) (by omega)) ((Below.refl _ _).alloc (by simp) _) (by omega))
  have HB2 := Lib.hid (show Box W0 (w.heap.size + 1) 35 #[.slice none 0 0, .slice none 0 0, .slice none 0 0, .slice none 0 0] by
    rw [hW0]; exact Box.below (C := w.heap.size + 2) (Box.new_at (by simp)) ((Below.refl _ _).alloc (by simp) _) (by omega))
  have HB3 := Lib.hid (show Box W0 (w.heap.size + 2) 35 #[.slice o1 s.sh.length cap1, .slice o2 s.x.length cap2, .slice o3 s.lb.length cap3, .slice o4 s.y.length cap4] by rw [hW0]; exact Box.new_at (by simp))
  have HBl := Lib.hid (show Below w.heap.size w W0 by rw [hW0]; exact (((Below.refl _ _).alloc (Nat.le_refl _) _).alloc (by simp) _).alloc (by simp; omega) _)
  have HSZ := Lib.hid (show W0.heap.size = w.heap.size + 3 by rw [hW0]; simp)
  have hSW : w.heap.size + 2 < W0.heap.size := by rw [HSZ.out]; omega
  have HW0 := Lib.hid hW0
  have HK0 := Lib.hid (Kept.refl W0 (w.heap.size + 2) (w.heap.size + 2))
  have HX0 := HB3
  clear hW0
  go_enter Try.func23, Try.ntmps23
  go_wp2_with fail
  rw [← HW0.out]

  have HR0 := Lib.hid (show Rd W0 .i64 (.slice o1 s.sh.length cap1) s.sh from HR.out.sh.below HBl.out (Nat.le_refl _))
  refine (copyNumbers_any _ s.sh _ HR0.out (by have := HL.out.sh; omega)).mono ?_
  rintro e w1 ⟨v1, rfl, ho, hb⟩
  obtain ⟨a1, k1, rfl⟩ := own_slice ho
  have HY0 := Lib.hid (HX0.out.next hb)
  have HX1 := Lib.hid (show Box (w1.setCell ⟨w.heap.size + 2, 0, none⟩ (.slice a1 s.sh.length k1)) (w.heap.size + 2) 35 #[.slice a1 s.sh.length k1, .slice o2 s.x.length cap2, .slice o3 s.lb.length cap3, .slice o4 s.y.length cap4] from HY0.out.set 0 (.slice a1 s.sh.length k1))
  have HK1 := Lib.hid ((HK0.out.trans (Kept.of_below hb)).set 0 (.slice a1 s.sh.length k1))
  have HO01 := Lib.hid (own_setLt (j := 0) (own_mono ho HK0.out.size) hSW (.slice a1 s.sh.length k1))
  have c : w1.cell? ⟨w.heap.size + 2, 0, none⟩ = some (.slice o1 s.sh.length cap1) := HY0.out.cell 0 rfl
  have f := HY0.out.free 0
  clear ho hb

  have HZ1 := Lib.hid (show Box (w1.setCell ⟨w.heap.size + 2, 0, none⟩ (.slice a1 s.sh.length k1)) w.heap.size 35 #[.slice o1 s.sh.length cap1, .slice o2 s.x.length cap2, .slice o3 s.lb.length cap3, .slice o4 s.y.length cap4] from (HK1.out.block w.heap.size (by rw [HSZ.out]; omega) (by omega) (by omega)).trans HB1.out)
  have d : (w1.setCell ⟨w.heap.size + 2, 0, none⟩ (.slice a1 s.sh.length k1)).cell? ⟨w.heap.size, 1, none⟩ = some (.slice o2 s.x.length cap2) := HZ1.out.cell 1 rfl
  go_wp2_with fail
  clear c f d
  generalize (w1.setCell ⟨w.heap.size + 2, 0, none⟩ (.slice a1 s.sh.length k1)) = u1 at HX1 HK1 HZ1 HO01 ⊢

  have HR1 := Lib.hid (show Rd u1 .i64 (.slice o2 s.x.length cap2) s.x from HR.out.x.below (HBl.out.trans (kept_below2 HK1.out (by omega) (by omega) (by rw [HSZ.out]; omega))) (Nat.le_refl _))
  refine (copyWords_any _ s.x _ HR1.out (by have := HL.out.x; omega)).mono ?_
  rintro e w2 ⟨v2, rfl, ho, hb⟩
  obtain ⟨a2, k2, rfl⟩ := own_slice ho
  have HY1 := Lib.hid (HX1.out.next hb)
  have HX2 := Lib.hid (show Box (w2.setCell ⟨w.heap.size + 2, 1, none⟩ (.slice a2 s.x.length k2)) (w.heap.size + 2) 35 #[.slice a1 s.sh.length k1, .slice a2 s.x.length k2, .slice o3 s.lb.length cap3, .slice o4 s.y.length cap4] from HY1.out.set 1 (.slice a2 s.x.length k2))
  have HK2 := Lib.hid ((HK1.out.trans (Kept.of_below hb)).set 1 (.slice a2 s.x.length k2))
  have HO12 := Lib.hid (own_setLt (j := 1) (own_mono ho HK1.out.size) hSW (.slice a2 s.x.length k2))
  have HO02 := Lib.hid (own_setLt (j := 1) (own_below HO01.out hb (Nat.le_refl _)) hSW (.slice a2 s.x.length k2))
  have c : w2.cell? ⟨w.heap.size + 2, 1, none⟩ = some (.slice o2 s.x.length cap2) := HY1.out.cell 1 rfl
  have f := HY1.out.free 1
  clear ho hb

  have HZ2 := Lib.hid (show Box (w2.setCell ⟨w.heap.size + 2, 1, none⟩ (.slice a2 s.x.length k2)) w.heap.size 35 #[.slice o1 s.sh.length cap1, .slice o2 s.x.length cap2, .slice o3 s.lb.length cap3, .slice o4 s.y.length cap4] from (HK2.out.block w.heap.size (by rw [HSZ.out]; omega) (by omega) (by omega)).trans HB1.out)
  have d : (w2.setCell ⟨w.heap.size + 2, 1, none⟩ (.slice a2 s.x.length k2)).cell? ⟨w.heap.size, 2, none⟩ = some (.slice o3 s.lb.length cap3) := HZ2.out.cell 2 rfl
  go_wp2_with fail
  clear c f d
  generalize (w2.setCell ⟨w.heap.size + 2, 1, none⟩ (.slice a2 s.x.length k2)) = u2 at HX2 HK2 HZ2 HO02 HO12 ⊢

  have HR2 := Lib.hid (show Rd u2 .i64 (.slice o3 s.lb.length cap3) s.lb from HR.out.lb.below (HBl.out.trans (kept_below2 HK2.out (by omega) (by omega) (by rw [HSZ.out]; omega))) (Nat.le_refl _))
  refine (copyNumbers_any _ s.lb _ HR2.out (by have := HL.out.lb; omega)).mono ?_
  rintro e w3 ⟨v3, rfl, ho, hb⟩
  obtain ⟨a3, k3, rfl⟩ := own_slice ho
  have HY2 := Lib.hid (HX2.out.next hb)
  have HX3 := Lib.hid (show Box (w3.setCell ⟨w.heap.size + 2, 2, none⟩ (.slice a3 s.lb.length k3)) (w.heap.size + 2) 35 #[.slice a1 s.sh.length k1, .slice a2 s.x.length k2, .slice a3 s.lb.length k3, .slice o4 s.y.length cap4] from HY2.out.set 2 (.slice a3 s.lb.length k3))
  have HK3 := Lib.hid ((HK2.out.trans (Kept.of_below hb)).set 2 (.slice a3 s.lb.length k3))
  have HO23 := Lib.hid (own_setLt (j := 2) (own_mono ho HK2.out.size) hSW (.slice a3 s.lb.length k3))
  have HO03 := Lib.hid (own_setLt (j := 2) (own_below HO02.out hb (Nat.le_refl _)) hSW (.slice a3 s.lb.length k3))
  have HO13 := Lib.hid (own_setLt (j := 2) (own_below HO12.out hb (Nat.le_refl _)) hSW (.slice a3 s.lb.length k3))
  have c : w3.cell? ⟨w.heap.size + 2, 2, none⟩ = some (.slice o3 s.lb.length cap3) := HY2.out.cell 2 rfl
  have f := HY2.out.free 2
  clear ho hb

  have HZ3 := Lib.hid (show Box (w3.setCell ⟨w.heap.size + 2, 2, none⟩ (.slice a3 s.lb.length k3)) w.heap.size 35 #[.slice o1 s.sh.length cap1, .slice o2 s.x.length cap2, .slice o3 s.lb.length cap3, .slice o4 s.y.length cap4] from (HK3.out.block w.heap.size (by rw [HSZ.out]; omega) (by omega) (by omega)).trans HB1.out)
  have d : (w3.setCell ⟨w.heap.size + 2, 2, none⟩ (.slice a3 s.lb.length k3)).cell? ⟨w.heap.size, 3, none⟩ = some (.slice o4 s.y.length cap4) := HZ3.out.cell 3 rfl
  go_wp2_with fail
  clear c f d
  generalize (w3.setCell ⟨w.heap.size + 2, 2, none⟩ (.slice a3 s.lb.length k3)) = u3 at HX3 HK3 HZ3 HO03 HO13 HO23 ⊢

  have HR3 := Lib.hid (show Rd u3 .i64 (.slice o4 s.y.length cap4) s.y from HR.out.y.below (HBl.out.trans (kept_below2 HK3.out (by omega) (by omega) (by rw [HSZ.out]; omega))) (Nat.le_refl _))
  refine (copyWords_any _ s.y _ HR3.out (by have := HL.out.y; omega)).mono ?_
  rintro e w4 ⟨v4, rfl, ho, hb⟩
  obtain ⟨a4, k4, rfl⟩ := own_slice ho
  have HY3 := Lib.hid (HX3.out.next hb)
  have HX4 := Lib.hid (show Box (w4.setCell ⟨w.heap.size + 2, 3, none⟩ (.slice a4 s.y.length k4)) (w.heap.size + 2) 35 #[.slice a1 s.sh.length k1, .slice a2 s.x.length k2, .slice a3 s.lb.length k3, .slice a4 s.y.length k4] from HY3.out.set 3 (.slice a4 s.y.length k4))
  have HK4 := Lib.hid ((HK3.out.trans (Kept.of_below hb)).set 3 (.slice a4 s.y.length k4))
  have HO34 := Lib.hid (own_setLt (j := 3) (own_mono ho HK3.out.size) hSW (.slice a4 s.y.length k4))
  have HO04 := Lib.hid (own_setLt (j := 3) (own_below HO03.out hb (Nat.le_refl _)) hSW (.slice a4 s.y.length k4))
  have HO14 := Lib.hid (own_setLt (j := 3) (own_below HO13.out hb (Nat.le_refl _)) hSW (.slice a4 s.y.length k4))
  have HO24 := Lib.hid (own_setLt (j := 3) (own_below HO23.out hb (Nat.le_refl _)) hSW (.slice a4 s.y.length k4))
  have c : w4.cell? ⟨w.heap.size + 2, 3, none⟩ = some (.slice o4 s.y.length cap4) := HY3.out.cell 3 rfl
  have f := HY3.out.free 3
  clear ho hb

  go_upto_region 6 with (fail)
  clear c f
  generalize (w4.setCell ⟨w.heap.size + 2, 3, none⟩ (.slice a4 s.y.length k4)) = u4 at HX4 HK4 HO04 HO14 HO24 HO34 ⊢
  have HQ := Lib.hid (show Box u4 (w.heap.size + 1) 35 #[.slice none 0 0, .slice none 0 0, .slice none 0 0, .slice none 0 0] from (HK4.out.block (w.heap.size + 1) (by rw [HSZ.out]; omega) (by omega) (by omega)).trans HB2.out)
  have hS1 : w.heap.size + 1 < W0.heap.size := by rw [HSZ.out]; omega
  have HF := Lib.hid (box_four (a := .slice a1 s.sh.length k1) (b := .slice a2 s.x.length k2) (c := .slice a3 s.lb.length k3) (d := .slice a4 s.y.length k4) HQ.out)
  have HBf := Lib.hid (below_four (S := w.heap.size + 1) (a := .slice a1 s.sh.length k1) (b := .slice a2 s.x.length k2) (c := .slice a3 s.lb.length k3) (d := .slice a4 s.y.length k4) (HBl.out.trans (kept_below2 HK4.out (by omega) (by omega) (by rw [HSZ.out]; omega))) (by omega))
  have HOW := Lib.hid (And.intro (own_four HO04.out hS1 (.slice a1 s.sh.length k1) (.slice a2 s.x.length k2) (.slice a3 s.lb.length k3) (.slice a4 s.y.length k4)) (And.intro (own_four HO14.out hS1 (.slice a1 s.sh.length k1) (.slice a2 s.x.length k2) (.slice a3 s.lb.length k3) (.slice a4 s.y.length k4)) (And.intro (own_four HO24.out hS1 (.slice a1 s.sh.length k1) (.slice a2 s.x.length k2) (.slice a3 s.lb.length k3) (.slice a4 s.y.length k4)) (own_four HO34.out hS1 (.slice a1 s.sh.length k1) (.slice a2 s.x.length k2) (.slice a3 s.lb.length k3) (.slice a4 s.y.length k4)))))
  have q0 : u4.cell? ⟨w.heap.size + 1, 0, none⟩ = some (.slice none 0 0) := HQ.out.cell 0 rfl
  have z0 := HQ.out.free 0
  have e0 : u4.cell? ⟨w.heap.size + 2, 0, none⟩ = some (.slice a1 s.sh.length k1) := HX4.out.cell 0 rfl
  have q1 : u4.cell? ⟨w.heap.size + 1, 1, none⟩ = some (.slice none 0 0) := HQ.out.cell 1 rfl
  have z1 := HQ.out.free 1
  have e1 : u4.cell? ⟨w.heap.size + 2, 1, none⟩ = some (.slice a2 s.x.length k2) := HX4.out.cell 1 rfl
  have q2 : u4.cell? ⟨w.heap.size + 1, 2, none⟩ = some (.slice none 0 0) := HQ.out.cell 2 rfl
  have z2 := HQ.out.free 2
  have e2 : u4.cell? ⟨w.heap.size + 2, 2, none⟩ = some (.slice a3 s.lb.length k3) := HX4.out.cell 2 rfl
  have q3 : u4.cell? ⟨w.heap.size + 1, 3, none⟩ = some (.slice none 0 0) := HQ.out.cell 3 rfl
  have z3 := HQ.out.free 3
  have e3 : u4.cell? ⟨w.heap.size + 2, 3, none⟩ = some (.slice a4 s.y.length k4) := HX4.out.cell 3 rfl
  go_wp2_with fail
  clear q0 q1 q2 q3 z0 z1 z2 z3 e0 e1 e2 e3
  generalize ((((u4.setCell ⟨w.heap.size + 1, 0, none⟩ (.slice a1 s.sh.length k1)).setCell ⟨w.heap.size + 1, 1, none⟩ (.slice a2 s.x.length k2)).setCell ⟨w.heap.size + 1, 2, none⟩ (.slice a3 s.lb.length k3)).setCell ⟨w.heap.size + 1, 3, none⟩ (.slice a4 s.y.length k4)) = wz at HF HBf HOW ⊢
  have q0 : wz.cell? ⟨w.heap.size + 1, 0, none⟩ = some (.slice a1 s.sh.length k1) := HF.out.cell 0 rfl
  have q1 : wz.cell? ⟨w.heap.size + 1, 1, none⟩ = some (.slice a2 s.x.length k2) := HF.out.cell 1 rfl
  have q2 : wz.cell? ⟨w.heap.size + 1, 2, none⟩ = some (.slice a3 s.lb.length k3) := HF.out.cell 2 rfl
  have q3 : wz.cell? ⟨w.heap.size + 1, 3, none⟩ = some (.slice a4 s.y.length k4) := HF.out.cell 3 rfl
  have hle : w.heap.size ≤ W0.heap.size := HBl.out.size
  exact bodyPost_ret (v := .agg #[.slice a1 s.sh.length k1, .slice a2 s.x.length k2, .slice a3 s.lb.length k3, .slice a4 s.y.length k4]) (by simp [results, Try.results23, go_sem, q0, q1, q2, q3]) rfl ⟨⟨_, _, _, _, rfl, own_mono HOW.out.1 hle, own_mono HOW.out.2.1 hle, own_mono HOW.out.2.2.1 hle, own_mono HOW.out.2.2.2 hle⟩, HBf.out⟩
  --COPYEND
set_option maxRecDepth 100000 in
set_option maxHeartbeats 1000000 in
theorem spoil30_any (a b c d : Value) (s : SetD) (B : Nat) (w : World) (ho : OwnSet w B a b c d s) (hs : Sep a c ∧ Sep b d) (hB : B ≤ w.heap.size) (hl : LimSet s) :
    Calls Try.prog 33 #[.agg #[a, b, c, d]] w fun e w' => e = .returned (.tuple #[]) ∧ Below B w w' := by
  obtain ⟨o1, cap1, he1⟩ := rd_slice ho.rd.sh
  obtain ⟨o2, cap2, he2⟩ := rd_slice ho.rd.x
  obtain ⟨o3, cap3, he3⟩ := rd_slice ho.rd.lb
  obtain ⟨o4, cap4, he4⟩ := rd_slice ho.rd.y
  subst he1 he2 he3 he4
  have l1 := hl.sh
  have l2 := hl.x
  have l3 := hl.lb
  have l4 := hl.y
  have HS := Lib.hid hs
  have hb0 : Below w.heap.size w (w.alloc (.cells #[.slice o1 s.sh.length cap1, .slice o2 s.x.length cap2, .slice o3 s.lb.length cap3, .slice o4 s.y.length cap4] 35)) := (Below.refl _ _).alloc (Nat.le_refl _) _
  have HO := Lib.hid (ho.below hb0 (Nat.le_refl _))
  have HB0 := Lib.hid (hb0.mono hB)
  have HX := Lib.hid (Box.new w 35 #[.slice o1 s.sh.length cap1, .slice o2 s.x.length cap2, .slice o3 s.lb.length cap3, .slice o4 s.y.length cap4])
  have hw1 : w.heap.size + 1 = (w.alloc (.cells #[.slice o1 s.sh.length cap1, .slice o2 s.x.length cap2, .slice o3 s.lb.length cap3, .slice o4 s.y.length cap4] 35)).heap.size := by simp
  have HN := Lib.hid (show ∀ (e : TypeId) (n : Nat) (v : Value) (xs : List Value), w.ownsRow B e 1 v n xs → v.ownBlock ≠ some w.heap.size from fun _ _ _ _ h e => by have := (h.lt _ e).2; omega)
  have HOW := Lib.hid ho
  clear hs hb0 ho hl
  go_enter Try.func33, Try.ntmps33
  go_wp2_with fail
  generalize w.alloc (.cells #[.slice o1 s.sh.length cap1, .slice o2 s.x.length cap2, .slice o3 s.lb.length cap3, .slice o4 s.y.length cap4] 35) = u0 at HO HB0 HX hw1 ⊢
  refine (law0Numbers_any _ s.sh B _ HO.out.sh (by omega) (by omega)).mono ?_
  rintro e w1 ⟨rfl, hg⟩
  have HB1 := Lib.hid (HB0.out.trans (below_grown HO.out.sh hg (by omega)))
  have hz1 : w.heap.size + 1 ≤ w1.heap.size := by rw [hw1]; exact hg.size
  have HX1 := Lib.hid (show Box w1 w.heap.size 35 _ from (hg.block w.heap.size HX.out.lt (fun e => HN.out _ _ _ _ HOW.out.sh e.symm)).trans HX.out)
  have O2 := Lib.hid (own_grown HO.out.x hg (sep_type HO.out.sh HO.out.x (by decide)))
  have O3 := Lib.hid (own_grown HO.out.lb hg HS.out.1)
  have O4 := Lib.hid (own_grown HO.out.y hg (sep_type HO.out.sh HO.out.y (by decide)))
  have c1 : w1.cell? ⟨w.heap.size, 1, none⟩ = some (.slice o2 s.x.length cap2) := HX1.out.cell 1 rfl
  clear hg hw1 HX HO
  go_wp2_with fail
  refine (law0Words_any _ s.x B _ O2.out (by omega) (by omega)).mono ?_
  rintro e w2 ⟨rfl, hg⟩
  have HB2 := Lib.hid (HB1.out.trans (below_grown O2.out hg (by omega)))
  have hz2 : w.heap.size + 1 ≤ w2.heap.size := Nat.le_trans hz1 hg.size
  have HX2 := Lib.hid (show Box w2 w.heap.size 35 _ from (hg.block w.heap.size HX1.out.lt (fun e => HN.out _ _ _ _ HOW.out.x e.symm)).trans HX1.out)
  have Q3 := Lib.hid (own_grown O3.out hg (sep_type O2.out O3.out (by decide)))
  have Q4 := Lib.hid (own_grown O4.out hg HS.out.2)
  have c2 : w2.cell? ⟨w.heap.size, 2, none⟩ = some (.slice o3 s.lb.length cap3) := HX2.out.cell 2 rfl
  clear hg HX1 c1 hz1
  go_wp2_with fail
  refine (law0Numbers_any _ s.lb B _ Q3.out (by omega) (by omega)).mono ?_
  rintro e w3 ⟨rfl, hg⟩
  have HB3 := Lib.hid (HB2.out.trans (below_grown Q3.out hg (by omega)))
  have hz3 : w.heap.size + 1 ≤ w3.heap.size := Nat.le_trans hz2 hg.size
  have HX3 := Lib.hid (show Box w3 w.heap.size 35 _ from (hg.block w.heap.size HX2.out.lt (fun e => HN.out _ _ _ _ HOW.out.lb e.symm)).trans HX2.out)
  have R4 := Lib.hid (own_grown Q4.out hg (sep_type Q3.out Q4.out (by decide)))
  have c3 : w3.cell? ⟨w.heap.size, 3, none⟩ = some (.slice o4 s.y.length cap4) := HX3.out.cell 3 rfl
  clear hg HX2 c2 hz2
  go_wp2_with fail
  refine (law0Words_any _ s.y B _ R4.out (by omega) (by omega)).mono ?_
  rintro e w4 ⟨rfl, hg⟩
  have HB4 := Lib.hid (HB3.out.trans (below_grown R4.out hg (by omega)))
  clear hg
  go_wp2_with fail
  go_end0
  exact ⟨rfl, HB4.out⟩
theorem Rd.one {w : World} {K : IntKind} {x : Int} {e : TypeId} {c B : Nat} (h : w.heap.size = B) : Rd (w.alloc (.cells #[.int K x] e)) K (.slice (some ⟨B, 0, none⟩) 1 c) [x] := by
  subst h; exact Rd.new w K [x] e c (0, 0)
def wakeSet : SetD := ⟨[1], [5], [0], []⟩
theorem wake_good : goodSet wakeSet = true := by decide
theorem wake_len : (encSet wakeSet).length = 27 := by decide
set_option maxRecDepth 100000 in
set_option maxHeartbeats 1000000 in
theorem wakes30_any (w : World) : Calls Try.prog 21 #[] w fun e w' => e = .returned (.bool true) ∧ Below w.heap.size w w' := by
  have HE := Lib.hid (fun (v0 v1 v2 : Value) (u : World) (h0 : Rd u .i64 v0 [1]) (h1 : Rd u .i64 v1 [5]) (h2 : Rd u .i64 v2 [0]) => dataEncode_good v0 v1 v2 (.slice none 0 0) wakeSet u ⟨h0, h1, h2, Rd.nil _ _ _ _⟩ wake_good ⟨by decide, by decide, by decide, by decide⟩)
  go_enter Try.func21, Try.ntmps21
  go_wp2_with fail
  refine (HE.out _ _ _ _ ((Rd.alloc (Rd.alloc (Rd.one rfl) _) _)) (Rd.alloc (Rd.one (by simp)) _) (Rd.one (by simp))).mono ?_
  rintro e w1 ⟨v, rfl, ho, hb⟩
  obtain ⟨a, cap, rfl⟩ := own_slice ho
  rw [wake_len]
  have HB := Lib.hid ((((Below.refl w.heap.size w).alloc (Nat.le_refl _) _).alloc (by simp) _).alloc (by simp; omega) _ |>.trans (hb.mono (by simp; omega)))
  clear ho hb
  go_wp2_with (go_at_call 16; refine (num30_any _ _).mono ?_; rintro e w' ⟨rfl, rfl⟩)
  go_ret
  exact ⟨rfl, HB.out⟩
end Go.Proofs.Ytjhejpeklppmbaa
