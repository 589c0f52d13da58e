/-
  CALLS THAT ARE REFUSED: the power is off, or a name is none; names that lead nowhere.
-/
import Derived.ProofKit
import Derived.OpenShut
import Derived.Deep.Slices
import Derived.SizedLaws
import Derived.Laws.BytesArg
import Derived.Test.YtejmbhckfdfoeaaEM05
import Derived.Test.YtejmbhckfdfoeaaEM01
import Derived.Test.YtejmbhckfdfoeaaEM06
import Derived.Test.YtejmbhckfdfoeaaEM04
import Derived.Test.YtejmbhckfdfoeaaEM08
set_option linter.unusedVariables false
set_option linter.unusedSimpArgs false
namespace Go.Proofs.Ytejmbhckfdfoeaa
open Go.RowKit Go.Maps
set_option maxRecDepth 100000 in
set_option maxHeartbeats 4000000 in
theorem write_ref {B : Nat} {w : World} {p bs bf : Nat} {cv : Value} {vs : List Value} {s : DSt} (x : List UInt8) (v : Value) (xs : List Int) (hr : BytesRep 0 w v xs) (h : DRepr B w p bs bf cv vs s) (hxl : x.length ≤ maxLen) (hq : s.dead = true ∨ (goodNm x) = false) :
    Calls Try.prog 13 #[.pointer (some ⟨p, 0, none⟩), .string ⟨x.toArray⟩, v] w fun e w' => e = .returned (.int .i64 (askI s.dead (goodNm x))) ∧ Below w.heap.size w w' := by
  obtain ⟨dd, hdd⟩ : ∃ dd, dd = s.dead := ⟨_, rfl⟩
  obtain ⟨o, cap, rfl⟩ := rd_slice hr.rd
  have hxs4 := hr.len
  have hle : decide ((xs.length : Int) ≤ 4194304) = true := decide_eq_true (by omega)
  clear hr
  obtain ⟨W1, hW1⟩ : ∃ W1, W1 = (w.alloc (.cells #[.string ⟨x.toArray⟩] 9)) := ⟨_, rfl⟩
  have HBL := Lib.hid (show Below w.heap.size w W1 by rw [hW1]; exact (Below.refl _ _).alloc (Nat.le_refl _) _)
  have HD1 := Lib.hid (h.next HBL.out (Nat.le_of_lt h.baseLt))
  have c5 := HD1.out.box.cell 5 rfl
  have nx := (show Box W1 (w.heap.size) 9 #[.string ⟨x.toArray⟩] by rw [hW1]; exact Box.new _ _ _).cell 0 rfl
  have c6 : W1.cell? ⟨p, 5, none⟩ = some (.bool dd) := by rw [hdd]; exact c5
  clear c5
  rw [hW1] at c6 nx
  rw [← hdd] at hq ⊢
  have HW1 := Lib.hid hW1
  clear hW1 hdd h
  have HLx := Lib.hid hxl
  clear hxl
  obtain ⟨gx, hgx⟩ : ∃ gx, gx = goodNm x := ⟨_, rfl⟩
  rw [← hgx] at hq ⊢
  have HGx := Lib.hid hgx
  clear hgx
  cases dd <;> cases gx <;> simp only [Bool.and_true, Bool.and_false, Bool.true_and, Bool.false_and, Bool.true_eq_false, Bool.false_eq_true, or_false, or_true, false_or, or_self, true_or] at hq
  all_goals clear hq
  all_goals go_enter Try.func13, Try.ntmps13
  all_goals go_wp2_with fail
  all_goals rw [← HW1.out] at c6 nx ⊢
  all_goals try (refine (diskGood_nm x _ HLx.out).mono ?_; rintro e w' ⟨rfl, rfl⟩; rw [← HGx.out]; go_wp2_with fail)
  all_goals (refine (ask_any p _ _ _ c6).mono ?_; rintro e w' ⟨rfl, rfl⟩)
  all_goals simp only [askI, Bool.and_true, Bool.and_false, Bool.true_and, Bool.false_and, cond_true, cond_false]
  all_goals go_wp2_with fail
  all_goals go_ret
  all_goals exact ⟨rfl, HBL.out⟩
set_option maxRecDepth 100000 in
set_option maxHeartbeats 4000000 in
theorem sync_ref {B : Nat} {w : World} {p bs bf : Nat} {cv : Value} {vs : List Value} {s : DSt} (x : List UInt8)  (h : DRepr B w p bs bf cv vs s) (hxl : x.length ≤ maxLen) (hq : s.dead = true ∨ (goodNm x) = false) :
    Calls Try.prog 22 #[.pointer (some ⟨p, 0, none⟩), .string ⟨x.toArray⟩] w fun e w' => e = .returned (.int .i64 (askI s.dead (goodNm x))) ∧ Below w.heap.size w w' := by
  obtain ⟨dd, hdd⟩ : ∃ dd, dd = s.dead := ⟨_, rfl⟩
  obtain ⟨W1, hW1⟩ : ∃ W1, W1 = w := ⟨_, rfl⟩
  have HBL := Lib.hid (show Below w.heap.size w W1 by rw [hW1]; exact Below.refl _ _)
  have HD1 := Lib.hid (h.next HBL.out (Nat.le_of_lt h.baseLt))
  have c5 := HD1.out.box.cell 5 rfl
  have c6 : W1.cell? ⟨p, 5, none⟩ = some (.bool dd) := by rw [hdd]; exact c5
  clear c5
  rw [← hdd] at hq ⊢
  have HW1 := Lib.hid hW1
  subst hW1
  clear hdd h
  have HLx := Lib.hid hxl
  clear hxl
  obtain ⟨gx, hgx⟩ : ∃ gx, gx = goodNm x := ⟨_, rfl⟩
  rw [← hgx] at hq ⊢
  have HGx := Lib.hid hgx
  clear hgx
  cases dd <;> cases gx <;> simp only [Bool.and_true, Bool.and_false, Bool.true_and, Bool.false_and, Bool.true_eq_false, Bool.false_eq_true, or_false, or_true, false_or, or_self, true_or] at hq
  all_goals clear hq
  all_goals go_enter Try.func22, Try.ntmps22
  all_goals go_wp2_with fail
  all_goals try (refine (diskGood_nm x _ HLx.out).mono ?_; rintro e w' ⟨rfl, rfl⟩; rw [← HGx.out]; go_wp2_with fail)
  all_goals (refine (ask_any p _ _ _ c6).mono ?_; rintro e w' ⟨rfl, rfl⟩)
  all_goals simp only [askI, Bool.and_true, Bool.and_false, Bool.true_and, Bool.false_and, cond_true, cond_false]
  all_goals go_wp2_with fail
  all_goals go_ret
  all_goals exact ⟨rfl, HBL.out⟩
set_option maxRecDepth 100000 in
set_option maxHeartbeats 4000000 in
theorem rename_ref {B : Nat} {w : World} {p bs bf : Nat} {cv : Value} {vs : List Value} {s : DSt} (a : List UInt8) (b : List UInt8)  (h : DRepr B w p bs bf cv vs s) (hal : a.length ≤ maxLen) (hbl : b.length ≤ maxLen) (hq : s.dead = true ∨ (goodNm a && goodNm b) = false) :
    Calls Try.prog 17 #[.pointer (some ⟨p, 0, none⟩), .string ⟨a.toArray⟩, .string ⟨b.toArray⟩] w fun e w' => e = .returned (.int .i64 (askI s.dead (goodNm a && goodNm b))) ∧ Below w.heap.size w w' := by
  obtain ⟨dd, hdd⟩ : ∃ dd, dd = s.dead := ⟨_, rfl⟩
  obtain ⟨W1, hW1⟩ : ∃ W1, W1 = ((w.alloc (.cells #[.string ⟨a.toArray⟩] 9)).alloc (.cells #[.string ⟨b.toArray⟩] 9)) := ⟨_, rfl⟩
  have HBL := Lib.hid (show Below w.heap.size w W1 by rw [hW1]; exact ((Below.refl _ _).alloc (Nat.le_refl _) _).alloc (by simp) _)
  have HD1 := Lib.hid (h.next HBL.out (Nat.le_of_lt h.baseLt))
  have c5 := HD1.out.box.cell 5 rfl
  have na := (show Box W1 (w.heap.size) 9 #[.string ⟨a.toArray⟩] by rw [hW1]; exact (Box.new _ _ _).next ((Below.refl _ _).alloc (Nat.le_refl _) _)).cell 0 rfl
  have nb := (show Box W1 (w.heap.size + 1) 9 #[.string ⟨b.toArray⟩] by rw [hW1]; exact Box.new_at (by simp)).cell 0 rfl
  have c6 : W1.cell? ⟨p, 5, none⟩ = some (.bool dd) := by rw [hdd]; exact c5
  clear c5
  rw [hW1] at c6 na nb
  rw [← hdd] at hq ⊢
  have HW1 := Lib.hid hW1
  clear hW1 hdd h
  have HLa := Lib.hid hal
  have HLb := Lib.hid hbl
  clear hal hbl
  obtain ⟨ga, hga⟩ : ∃ ga, ga = goodNm a := ⟨_, rfl⟩
  obtain ⟨gb, hgb⟩ : ∃ gb, gb = goodNm b := ⟨_, rfl⟩
  rw [← hga] at hq ⊢
  rw [← hgb] at hq ⊢
  have HGa := Lib.hid hga
  have HGb := Lib.hid hgb
  clear hga hgb
  cases dd <;> cases ga <;> cases gb <;> simp only [Bool.and_true, Bool.and_false, Bool.true_and, Bool.false_and, Bool.true_eq_false, Bool.false_eq_true, or_false, or_true, false_or, or_self, true_or] at hq
  all_goals clear hq
  all_goals go_enter Try.func17, Try.ntmps17
  all_goals go_wp2_with fail
  all_goals rw [← HW1.out] at c6 na nb ⊢
  all_goals try (refine (diskGood_nm a _ HLa.out).mono ?_; rintro e w' ⟨rfl, rfl⟩; rw [← HGa.out]; go_wp2_with fail)
  all_goals try (refine (diskGood_nm b _ HLb.out).mono ?_; rintro e w' ⟨rfl, rfl⟩; rw [← HGb.out]; go_wp2_with fail)
  all_goals (refine (ask_any p _ _ _ c6).mono ?_; rintro e w' ⟨rfl, rfl⟩)
  all_goals simp only [askI, Bool.and_true, Bool.and_false, Bool.true_and, Bool.false_and, cond_true, cond_false]
  all_goals go_wp2_with fail
  all_goals go_ret
  all_goals exact ⟨rfl, HBL.out⟩
set_option maxRecDepth 100000 in
set_option maxHeartbeats 4000000 in
theorem remove_ref {B : Nat} {w : World} {p bs bf : Nat} {cv : Value} {vs : List Value} {s : DSt} (x : List UInt8)  (h : DRepr B w p bs bf cv vs s) (hxl : x.length ≤ maxLen) (hq : s.dead = true ∨ (goodNm x) = false) :
    Calls Try.prog 20 #[.pointer (some ⟨p, 0, none⟩), .string ⟨x.toArray⟩] w fun e w' => e = .returned (.int .i64 (askI s.dead (goodNm x))) ∧ Below w.heap.size w w' := by
  obtain ⟨dd, hdd⟩ : ∃ dd, dd = s.dead := ⟨_, rfl⟩
  obtain ⟨W1, hW1⟩ : ∃ W1, W1 = (w.alloc (.cells #[.string ⟨x.toArray⟩] 9)) := ⟨_, rfl⟩
  have HBL := Lib.hid (show Below w.heap.size w W1 by rw [hW1]; exact (Below.refl _ _).alloc (Nat.le_refl _) _)
  have HD1 := Lib.hid (h.next HBL.out (Nat.le_of_lt h.baseLt))
  have c5 := HD1.out.box.cell 5 rfl
  have nx := (show Box W1 (w.heap.size) 9 #[.string ⟨x.toArray⟩] by rw [hW1]; exact Box.new _ _ _).cell 0 rfl
  have c6 : W1.cell? ⟨p, 5, none⟩ = some (.bool dd) := by rw [hdd]; exact c5
  clear c5
  rw [hW1] at c6 nx
  rw [← hdd] at hq ⊢
  have HW1 := Lib.hid hW1
  clear hW1 hdd h
  have HLx := Lib.hid hxl
  clear hxl
  obtain ⟨gx, hgx⟩ : ∃ gx, gx = goodNm x := ⟨_, rfl⟩
  rw [← hgx] at hq ⊢
  have HGx := Lib.hid hgx
  clear hgx
  cases dd <;> cases gx <;> simp only [Bool.and_true, Bool.and_false, Bool.true_and, Bool.false_and, Bool.true_eq_false, Bool.false_eq_true, or_false, or_true, false_or, or_self, true_or] at hq
  all_goals clear hq
  all_goals go_enter Try.func20, Try.ntmps20
  all_goals go_wp2_with fail
  all_goals rw [← HW1.out] at c6 nx ⊢
  all_goals try (refine (diskGood_nm x _ HLx.out).mono ?_; rintro e w' ⟨rfl, rfl⟩; rw [← HGx.out]; go_wp2_with fail)
  all_goals (refine (ask_any p _ _ _ c6).mono ?_; rintro e w' ⟨rfl, rfl⟩)
  all_goals simp only [askI, Bool.and_true, Bool.and_false, Bool.true_and, Bool.false_and, cond_true, cond_false]
  all_goals go_wp2_with fail
  all_goals go_ret
  all_goals exact ⟨rfl, HBL.out⟩
set_option maxRecDepth 100000 in
set_option maxHeartbeats 4000000 in
theorem rename_no {B : Nat} {w : World} {p bs bf : Nat} {cv : Value} {vs : List Value} {s : DSt} (a b : List UInt8) (h : DRepr B w p bs bf cv vs s) (hxa : goodNm a = true) (hxb : goodNm b = true) (hd : s.dead = false) (hg : lget s.seen a = none) (hst : s.strokes < 1000000) :
    Calls Try.prog 17 #[.pointer (some ⟨p, 0, none⟩), .string ⟨a.toArray⟩, .string ⟨b.toArray⟩] w fun e w' => e = .returned (.int .i64 6) ∧ DRepr B w' p bs bf cv vs (strokeS s) ∧ Step B w w' := by
  obtain ⟨W1, hW1⟩ : ∃ W1, W1 = ((w.alloc (.cells #[.string ⟨a.toArray⟩] 9)).alloc (.cells #[.string ⟨b.toArray⟩] 9)) := ⟨_, rfl⟩
  have hB0 : B ≤ w.heap.size := Nat.le_of_lt h.baseLt
  have hb : Below w.heap.size w W1 := by rw [hW1]; exact ((Below.refl _ _).alloc (Nat.le_refl _) _).alloc (by simp) _
  have HNa := Lib.hid (show Box W1 (w.heap.size) 9 #[.string ⟨a.toArray⟩] by rw [hW1]; exact (Box.new _ _ _).next ((Below.refl _ _).alloc (Nat.le_refl _) _))
  have HNb := Lib.hid (show Box W1 (w.heap.size + 1) 9 #[.string ⟨b.toArray⟩] by rw [hW1]; exact Box.new_at (by simp))
  have HD1 := Lib.hid (h.next hb hB0)
  have HS1 := Lib.hid (Step.of_below (B := B) hb hB0)
  have hsz1 := hb.size
  have HDD := Lib.hid hd
  have HW1 := Lib.hid hW1
  have Ha := Lib.hid hxa
  have HLa := Lib.hid (show a.length ≤ maxLen by have := (goodNm_len hxa).2; unfold maxLen; omega)
  have na := HNa.out.cell 0 rfl
  have Hb := Lib.hid hxb
  have HLb := Lib.hid (show b.length ≤ maxLen by have := (goodNm_len hxb).2; unfold maxLen; omega)
  have nb := HNb.out.cell 0 rfl
  have HG := Lib.hid hg
  clear h hb hd hg hW1 hxa hxb
  have c5 := HD1.out.box.cell 5 rfl
  rw [HW1.out] at na nb
  go_enter Try.func17, Try.ntmps17
  go_wp2_with fail
  rw [← HW1.out] at na nb ⊢
  refine (diskGood_nm a _ HLa.out).mono ?_
  rintro e w' ⟨rfl, rfl⟩
  rw [Ha.out]
  go_wp2_with fail
  refine (diskGood_nm b _ HLb.out).mono ?_
  rintro e w' ⟨rfl, rfl⟩
  rw [Hb.out]
  go_wp2_with fail
  refine (ask_any p s.dead true _ c5).mono ?_
  rintro e w' ⟨rfl, rfl⟩
  rw [HDD.out, show askI false true = 0 from rfl]
  clear c5 HW1 na nb
  go_wp2_with fail
  refine (stroke_any HD1.out hst).mono ?_
  rintro e w2 ⟨rfl, hd2, hs2, hz2⟩
  have HD2 := Lib.hid hd2
  have HS2 := Lib.hid (HS1.out.trans hs2)
  have HMa := Lib.hid (HNa.out.step hs2 rfl)
  have na := HMa.out.cell 0 rfl
  have HMb := Lib.hid (HNb.out.step hs2 rfl)
  have nb := HMb.out.cell 0 rfl
  have c0 := hd2.box.cell 0 rfl
  have hsz2 : w.heap.size < w2.heap.size := by rw [hz2]; exact HNa.out.lt
  clear hd2 hs2 hz2 HD1 HNa HNb HS1 nb
  have hlk : ∀ k, (Instr.lookup 62 (.map (some bs)) (.string ⟨a.toArray⟩) false).run Try.prog (w2.drewN k) = .ok (.pointer none) (w2.drewN k) := fun k => by
    have := (HD2.out.seen.block (w' := w2.drewN k) rfl).lookup a HLa.out
    rw [show (strokeS s).seen = s.seen from rfl, HG.out] at this; exact this
  have hl1 : (Instr.lookup 62 (.map (some bs)) (.string ⟨a.toArray⟩) false).run Try.prog w2.drew = .ok (.pointer none) w2.drew := hlk 1
  have hl2 : ∀ o : Obj, (Instr.lookup 62 (.map (some bs)) (.string ⟨a.toArray⟩) false).run Try.prog (w2.alloc o).drew = .ok (.pointer none) (w2.alloc o).drew := fun o => by
    have := (HD2.out.seen.block (w' := (w2.alloc o).drew) (Below.heap_alloc w2 o bs HD2.out.seen.lt)).lookup a HLa.out
    rw [show (strokeS s).seen = s.seen from rfl, HG.out] at this; exact this
  have hpc : w2.cell? ⟨p, 0, none⟩ = some (.map (some bs)) := c0
  have hpn : w2.cell? ⟨w.heap.size, 0, none⟩ = some (.string ⟨a.toArray⟩) := na
  have hp2 : p < w2.heap.size := HD2.out.box.lt
  have hlb : Below w2.heap.size w2 w2.drew := Below.drew (Below.refl _ _)
  go_wp2_with fail
  go_cut [9] (fun v wx => v = .pointer (some ⟨w2.heap.size, 0, none⟩) ∧ Box wx w2.heap.size 66 #[ptrV none] ∧ Below w2.heap.size w2 wx)
  case first =>
    go_region
    all_goals (go_wp2_with fail; go_meet; exact ⟨rfl, (Box.new w2 _ _).same ⟨1, rfl⟩, ((Below.refl _ _).alloc (Nat.le_refl _) _).drew⟩)
  case rest =>
    obtain ⟨rfl, hbx, hb3⟩ := hcut
    obtain ⟨w3, rfl⟩ : ∃ w3, w3 = wc := ⟨_, rfl⟩
    have hB2 : B ≤ w2.heap.size := by omega
    have HD3 := Lib.hid (HD2.out.next hb3 hB2)
    have HS3 := Lib.hid (HS2.out.trans (Step.of_below hb3 hB2))
    have HA3 := Lib.hid (HMa.out.next hb3)
    have HC3 := Lib.hid (HMb.out.next hb3)
    have HP3 := Lib.hid hbx
    have cp := hbx.cell 0 rfl
    simp only [ptrV] at cp
    clear hb3 hbx HD2 HS2 HMa HMb hlk hl1 hl2 c0 na hpc hpn hlb
    go_wp2_with fail
    go_ret
    exact ⟨rfl, HD3.out, HS3.out⟩
set_option maxRecDepth 100000 in
set_option maxHeartbeats 4000000 in
theorem write_full {B : Nat} {w : World} {p bs bf : Nat} {cv : Value} {vs : List Value} {s : DSt} (x : List UInt8) (v : Value) (xs : List Int) (h : DRepr B w p bs bf cv vs s) (hx : goodNm x = true) (hr : BytesRep 0 w v xs)
    (hd : s.dead = false) (hfull : lget s.seen x = none ∧ s.seen.length = 16) (hst : s.strokes < 1000000) :
    Calls Try.prog 13 #[.pointer (some ⟨p, 0, none⟩), .string ⟨x.toArray⟩, v] w fun e w' => e = .returned (.int .i64 6) ∧ DRepr B w' p bs bf cv vs (strokeS s) ∧ Step B w w' := by
  obtain ⟨o, cap, rfl⟩ := rd_slice hr.rd
  have hxl := hr.len
  obtain ⟨W1, hW1⟩ : ∃ W1, W1 = w.alloc (.cells #[.string ⟨x.toArray⟩] 9) := ⟨_, rfl⟩
  have hB0 : B ≤ w.heap.size := Nat.le_of_lt h.baseLt
  have hb : Below w.heap.size w W1 := by rw [hW1]; exact (Below.refl _ _).alloc (Nat.le_refl _) _
  have HBN := Lib.hid (show Box W1 w.heap.size 9 #[.string ⟨x.toArray⟩] by rw [hW1]; exact Box.new _ _ _)
  have HD1 := Lib.hid (h.next hb hB0)
  have HR1 := Lib.hid (hr.step (Step.of_below (B := 0) hb (Nat.zero_le _)))
  have HS1 := Lib.hid (Step.of_below (B := B) hb hB0)
  have HX := Lib.hid hx
  have HXL := Lib.hid (show x.length ≤ maxLen by have := (goodNm_len hx).2; unfold maxLen; omega)
  have hsz1 := hb.size
  have HFU := Lib.hid hfull
  have HDD := Lib.hid hd
  have HW1 := Lib.hid hW1
  clear h hb hr hx hfull hd hW1
  have c0 := HBN.out.cell 0 rfl
  have c5 := HD1.out.box.cell 5 rfl
  rw [HW1.out] at c0
  go_enter Try.func13, Try.ntmps13
  go_wp2_with fail
  rw [← HW1.out]
  clear c0
  refine (diskGood_nm x _ HXL.out).mono ?_
  rintro e w' ⟨rfl, rfl⟩
  rw [HX.out]
  have hle : decide ((xs.length : Int) ≤ 4194304) = true := decide_eq_true (by omega)
  go_wp2_with fail
  refine (ask_any p s.dead true _ c5).mono ?_
  rintro e w' ⟨rfl, rfl⟩
  rw [HDD.out, show askI false true = 0 from rfl]
  clear c5 HW1
  go_wp2_with fail
  refine (stroke_any HD1.out hst).mono ?_
  rintro e w2 ⟨rfl, hd2, hs2, hz2⟩
  have HD2 := Lib.hid hd2
  have HS2 := Lib.hid (HS1.out.trans hs2)
  have HBN2 := Lib.hid (HBN.out.step hs2 rfl)
  have HR2 := Lib.hid (HR1.out.step hs2)
  have HLK := Lib.hid (fun (k : Nat) => (hd2.seen.block (w' := w2.drewN k) rfl).lookup x HXL.out)
  have HLN := Lib.hid (fun (k : Nat) => (hd2.seen.block (w' := w2.drewN k) rfl).len 3)
  have c0 := hd2.box.cell 0 rfl
  have cn := HBN2.out.cell 0 rfl
  have hsz2 : w.heap.size < w2.heap.size := by rw [hz2]; exact HBN.out.lt
  have HSZ2 := Lib.hid hz2
  clear hd2 hs2 hz2 HD1 HBN HS1 HR1
  have hlk := HLK.out
  have hln := HLN.out
  go_wp2_with fail
  go_cut [38] (fun v wx => v = .bool true ∧ Same w2 wx)
  case first =>
    have hlk2 : ∀ k, (Instr.lookup 62 (.map (some bs)) (.string ⟨x.toArray⟩) false).run Try.prog (w2.drewN k) = .ok (.pointer none) (w2.drewN k) := fun k => by have := hlk k; rw [show (strokeS s).seen = s.seen from rfl, HFU.out.1] at this; exact this
    have hln2 : ∀ k, (Builtin.len_ #[62] 3 #[.map (some bs)]).run Try.prog (w2.drewN k) = .ok (.int .i64 16) (w2.drewN k) := fun k => by have := hln k; rw [show (strokeS s).seen = s.seen from rfl, HFU.out.2] at this; exact this
    clear hlk hln
    go_quiet (fail)
    all_goals (go_wp2_with fail; go_meet; exact ⟨rfl, ⟨_, rfl⟩⟩)
  case rest =>
    obtain ⟨rfl, hsm⟩ := hcut
    obtain ⟨w3, rfl⟩ : ∃ w3, w3 = wc := ⟨_, rfl⟩
    have hb3 : Below w2.heap.size w2 w3 := hsm.below _
    have hB2 : B ≤ w2.heap.size := by omega
    have HD3 := Lib.hid (HD2.out.next hb3 hB2)
    have HS3 := Lib.hid (HS2.out.trans (Step.of_below hb3 hB2))
    have HBN3 := Lib.hid (HBN2.out.next hb3)
    have HR3 := Lib.hid (HR2.out.step (Step.of_below (B := 0) hb3 (Nat.zero_le _)))
    have hsz3 := hb3.size
    clear hsm hb3 HD2 HS2 HBN2 HR2 hlk hln HLK HLN c0 cn
    go_wp2_with fail
    go_ret
    exact ⟨rfl, HD3.out, HS3.out⟩
end Go.Proofs.Ytejmbhckfdfoeaa
/-
  WHAT AN ARGUMENT THAT CAN BE READ GIVES THE WALK, for any program: slices of integers, of structs, of slices; and the form's own reach.
-/
set_option linter.unusedVariables false
set_option linter.unusedSimpArgs false
namespace Go.Proofs.Ytejmbhckfdfoeaa
open Go.RowKit Go.ChangeShapes Go.WideShapes
/-- these cells read, at this type, as a datum of which no part is beyond the reach -/
def RB {H : Type} (enc : TypeId × Value → H) (P : Program) (w : World) (t : TypeId) (cs : List Value) : Prop :=
  ∃ (fuel : Nat) (d : DataW H) (pl : List MemPlace), DataW.trod enc P w 0 (fun _ => true) true fuel t cs = some (d, pl) ∧ ∀ n ∈ d.weights P t, n ≤ reachBytes
theorem weightsAll_mem {H : Type} {P : Program} {e : TypeId} {l : List (DataW H)} {d : DataW H} (h : d ∈ l) : ∀ n ∈ d.weights P e, n ∈ DataW.weightsAll P e l := by
  induction l with
  | nil => cases h
  | cons x l ih =>
    intro n hn
    simp only [DataW.weightsAll, List.mem_append]
    rcases List.mem_cons.1 h with rfl | h
    · exact .inl hn
    · exact .inr (ih h n hn)
theorem RB.slice {H : Type} {enc : TypeId × Value → H} {P : Program} {w : World} {t e : TypeId} {v : Value} (h : RB enc P w t [v]) (ht : P.underlying t = some (.slice e)) :
    ∃ o len cap, v = .slice o len cap ∧ len * P.bytesOf e ≤ reachBytes ∧ cap * P.bytesOf e ≤ reachBytes ∧ len ≤ cap ∧ ∀ i, i < len → ∃ a cs, o = some a ∧ w.cells? 0 (a.add (i * P.cellsOf e)) (P.cellsOf e) = some cs ∧ RB enc P w e cs := by
  obtain ⟨fuel, d, pl, h, hw⟩ := h
  rcases Deep.open_slice ht h with ⟨hcs, _⟩ | ⟨a, len, cap, m, n, D, Pl, hcs, _, hl, hm, hmm, hx, hel⟩
  · simp at hcs
    subst hcs
    exact ⟨none, 0, 0, rfl, by simp, by simp, by simp, fun i hi => absurd hi (Nat.not_lt_zero _)⟩
  · simp at hcs hmm hx
    subst hcs
    obtain ⟨rfl, rfl⟩ := hx
    subst hmm
    have hk : m * P.bytesOf e ≤ reachBytes := by
      have := hw ((len + (m - len)) * P.bytesOf e) (by simp [DataW.weights, ht])
      rwa [show len + (m - len) = m by omega] at this
    refine ⟨some a, len, m, rfl, Nat.le_trans (Nat.mul_le_mul_right _ hl) hk, hk, hl, fun i hi => ?_⟩
    obtain ⟨cs', h1, h2⟩ := hel i (by omega)
    refine ⟨a, cs', rfl, h1, n, D i, Pl i, h2, fun n hn => hw n ?_⟩
    simp only [DataW.weights, ht, List.mem_cons, List.mem_append]
    exact .inr (.inl (weightsAll_mem (List.mem_map.2 ⟨i, List.mem_range.2 hi, rfl⟩) n hn))
theorem cells_at {w : World} {a : Addr} {n : Nat} {cs : List Value} (h : w.cells? 0 a n = some cs) (hn : 0 < n) :
    ∃ b off, a = ⟨b, off, none⟩ ∧ cs.length = n ∧ ∀ j v, cs[j]? = some v → w.cell? ⟨b, off + j, none⟩ = some v := by
  obtain ⟨_, hl, hc⟩ := World.cells?_some h
  obtain ⟨b, off, spot⟩ := a
  have h0 := hc 0 hn
  have hspot : spot = none := by
    obtain ⟨v, hv⟩ : ∃ v, cs[0]? = some v := ⟨cs[0], List.getElem?_eq_getElem (by omega)⟩
    rw [hv] at h0
    simpa [Addr.add] using World.cell?_spot h0
  subst hspot
  refine ⟨b, off, rfl, hl, fun j v hj => ?_⟩
  have hjl : j < cs.length := (List.getElem?_eq_some_iff.1 hj).1
  have := hc j (by omega)
  rw [hj] at this
  simpa [Addr.add_lit] using this
theorem RB.int {H : Type} {enc : TypeId × Value → H} {P : Program} {w : World} {t : TypeId} {K : IntKind} {v : Value} (h : RB enc P w t [v]) (ht : P.underlying t = some (.int K)) :
    ∃ x, v = .int K x ∧ (Lit.int K x).wf = true := by
  obtain ⟨fuel, d, pl, h, _⟩ := h
  obtain ⟨x, e, _, hwf⟩ := DataW.trod_int ht h
  simp at e
  exact ⟨x, e, hwf⟩
theorem RB.ints {H : Type} {enc : TypeId × Value → H} {P : Program} {w : World} {t e : TypeId} {K : IntKind} {v : Value} (h : RB enc P w t [v]) (ht : P.underlying t = some (.slice e)) (he : P.underlying e = some (.int K)) (hc : P.cellsOf e = 1) :
    ∃ xs, Rd w K v xs ∧ Wf K xs ∧ xs.length * P.bytesOf e ≤ reachBytes := by
  obtain ⟨o, len, cap, rfl, hr, _, _, hel⟩ := h.slice ht
  have key : ∀ i, i < len → ∃ x : Int, (Lit.int K x).wf = true ∧ ∃ b off, o = some ⟨b, off, none⟩ ∧ w.cell? ⟨b, off + i, none⟩ = some (.int K x) := fun i hi => by
    obtain ⟨a, cs, rfl, h1, h2⟩ := hel i hi
    rw [hc, Nat.mul_one] at h1
    obtain ⟨b, off, ha, hl, hcc⟩ := cells_at h1 (by omega)
    match cs, hl with
    | [u], _ =>
      obtain ⟨x, rfl, hx⟩ := h2.int he
      obtain ⟨b', off', spot⟩ := a
      have hcell := hcc 0 _ rfl
      unfold Addr.add at ha
      split at ha
      · simp at ha
        obtain ⟨rfl, rfl, rfl⟩ := ha
        subst_vars
        exact ⟨x, hx, _, _, rfl, by simpa using hcell⟩
      · simp at ha
        obtain ⟨rfl, rfl⟩ := ha
        cases spot with
        | none => exact ⟨x, hx, _, _, rfl, by simpa using hcell⟩
        | some s =>
          exfalso
          obtain ⟨a0, cs0, e0, h10, h20⟩ := hel 0 (by omega)
          simp at e0
          subst e0
          rw [hc, Nat.mul_one] at h10
          obtain ⟨_, _, ha0, _⟩ := cells_at h10 (by omega)
          simp [Addr.add] at ha0
  obtain ⟨f, hf⟩ := Deep.choose_lt (α := Int) key
  refine ⟨(List.range len).map f, ?_, fun x hx => ?_, by simpa using hr⟩
  · refine ⟨o, cap, by simp, fun j hj => ?_⟩
    have hj' : j < len := by simpa using hj
    obtain ⟨_, b, off, ho, hcell⟩ := hf j hj'
    refine ⟨b, off, ho, ?_⟩
    rw [hcell, nth_eq _ _ hj]
    simp
  · obtain ⟨i, hi, rfl⟩ := List.mem_map.1 hx
    exact (hf i (List.mem_range.1 hi)).1
theorem weightsEach_mem {H : Type} {P : Program} {ts : List TypeId} {ds : List (DataW H)} {j : Nat} {t : TypeId} {d : DataW H} (h1 : ts[j]? = some t) (h2 : ds[j]? = some d) : ∀ n ∈ d.weights P t, n ∈ DataW.weightsEach P ts ds :=
  DataW.weights_mem_each h1 h2
/-- field number i of a struct -/
theorem RB.field {H : Type} {enc : TypeId × Value → H} {P : Program} {w : World} {t : TypeId} {cs : List Value} {fs : Array Field} (h : RB enc P w t cs) (ht : P.underlying t = some (.struct fs)) :
    cs.length = P.cellsOf t ∧ ∀ (i : Nat) (f : Field), fs[i]? = some f → RB enc P w f.type ((cs.drop f.offset).take (P.cellsOf f.type)) := by
  obtain ⟨fuel, d, pl, h, hw⟩ := h
  obtain ⟨xs, n, rfl, hx, hl, hxl, hf⟩ := DataW.trod_struct ht h
  refine ⟨hl, fun i f hi => ?_⟩
  have hk := hf i f hi
  have hil : i < xs.length := by rw [hxl]; exact (Array.getElem?_eq_some_iff.1 hi).1
  rw [List.getElem?_eq_getElem hil] at hk
  refine ⟨n, xs[i].1, xs[i].2, hk, fun n hn => hw n ?_⟩
  simp only [Prod.mk.injEq] at hx
  rw [hx.1]
  simp only [DataW.weights, ht]
  refine weightsEach_mem (j := i) (t := f.type) (d := xs[i].1) ?_ ?_ n hn
  · rw [List.getElem?_map]; simp [hi]
  · simp [List.getElem?_eq_getElem hil]
/-- a slice of elements of so many cells each, opened -/
theorem RB.rows {H : Type} {enc : TypeId × Value → H} {P : Program} {w : World} {t e : TypeId} {v : Value} (h : RB enc P w t [v]) (ht : P.underlying t = some (.slice e)) (hc : 0 < P.cellsOf e) :
    ∃ o len cap, v = .slice o len cap ∧ len * P.bytesOf e ≤ reachBytes ∧ ∀ i, i < len → ∃ b off cs, o = some ⟨b, off, none⟩ ∧ cs.length = P.cellsOf e ∧ RB enc P w e cs ∧ ∀ j v, cs[j]? = some v → w.cell? ⟨b, off + i * P.cellsOf e + j, none⟩ = some v := by
  obtain ⟨o, len, cap, rfl, hr, _, _, hel⟩ := h.slice ht
  refine ⟨o, len, cap, rfl, hr, fun i hi => ?_⟩
  obtain ⟨a, cs, rfl, h1, h2⟩ := hel i hi
  obtain ⟨a0, cs0, e0, h10, h20⟩ := hel 0 (by omega)
  simp at e0
  subst e0
  rw [Nat.zero_mul] at h10
  obtain ⟨b, off, ha, _⟩ := cells_at h10 hc
  have ha' : a = ⟨b, off, none⟩ := by simpa [Addr.add] using ha
  subst ha'
  rw [Addr.add_lit] at h1
  obtain ⟨b', off', ha, hl, hcc⟩ := cells_at h1 hc
  simp at ha
  obtain ⟨rfl, rfl⟩ := ha
  exact ⟨b, off, cs, rfl, hl, h2, hcc⟩
end Go.Proofs.Ytejmbhckfdfoeaa
/-
  THE ARGUMENT of a disk's laws, opened: files, calls.
-/
set_option linter.unusedVariables false
set_option linter.unusedSimpArgs false
namespace Go.Proofs.Ytejmbhckfdfoeaa
open Go.RowKit Go.ChangeShapes Go.WideShapes
theorem str_enc (s : ByteArray) : Value.string s = encStr s.data.toList := by
  cases s with
  | mk d => exact congrArg (fun z => Value.string ⟨z⟩) (Array.toArray_toList (xs := d)).symm
theorem RB.str {H : Type} {enc : TypeId × Value → H} {P : Program} {w : World} {t : TypeId} {v : Value} (h : RB enc P w t [v]) (ht : P.underlying t = some .string) :
    ∃ l : List UInt8, v = encStr l ∧ l.length ≤ maxLen := by
  obtain ⟨fuel, d, pl, h, _⟩ := h
  obtain ⟨s, e, _, hs⟩ := DataW.trod_string ht h
  simp at e
  subst e
  exact ⟨s.data.toList, str_enc s, by rw [Array.length_toList]; exact hs⟩
instance : Inhabited FileD := ⟨⟨[], []⟩⟩
instance : Inhabited ActD := ⟨⟨0, [], [], [], []⟩⟩
theorem cellsFile : Try.prog.cellsOf 48 = 2 := by kernel_rfl
theorem bytesFile : Try.prog.bytesOf 48 = 40 := by kernel_rfl
theorem cellsAct : Try.prog.cellsOf 37 = 5 := by kernel_rfl
theorem bytesAct : Try.prog.bytesOf 37 = 88 := by kernel_rfl
theorem cellsStr : Try.prog.cellsOf 9 = 1 := by kernel_rfl
theorem cellsInt : Try.prog.cellsOf 3 = 1 := by kernel_rfl
theorem bytesInt : Try.prog.bytesOf 3 = 8 := by kernel_rfl
theorem cellsU8 : Try.prog.cellsOf 5 = 1 := by kernel_rfl
theorem bytesU8 : Try.prog.bytesOf 5 = 1 := by kernel_rfl
theorem cellsSU8 : Try.prog.cellsOf 34 = 1 := by kernel_rfl
theorem cellsSInt : Try.prog.cellsOf 35 = 1 := by kernel_rfl
theorem RB.files {H : Type} {enc : TypeId × Value → H} {w : World} {v : Value} (h : RB enc Try.prog w 22 [v]) : ∃ fs, FilesRd w v fs ∧ fs.length ≤ 140737488351232 := by
  obtain ⟨o, len, cap, rfl, hr, hel⟩ := h.rows Try.underlying22 (by rw [cellsFile]; omega)
  rw [bytesFile] at hr
  have key : ∀ i, i < len → ∃ f : FileD, FileRd w o i f := fun i hi => by
    obtain ⟨b, off, cs, rfl, hl, hrb, hcell⟩ := hel i hi
    rw [cellsFile] at hl hcell
    obtain ⟨_, hf⟩ := hrb.field Try.underlying48
    obtain ⟨v0, v1, rfl⟩ := list2 hl
    have g0 : RB enc Try.prog w 9 (([v0, v1] : List Value).drop 0 |>.take (Try.prog.cellsOf 9)) := hf 0 _ rfl
    have g1 : RB enc Try.prog w 34 (([v0, v1] : List Value).drop 1 |>.take (Try.prog.cellsOf 34)) := hf 1 _ rfl
    rw [cellsStr] at g0
    rw [cellsSU8] at g1
    obtain ⟨l, rfl, hl1⟩ := RB.str (v := v0) g0 Try.underlying9
    obtain ⟨xs, a1, b1, c1⟩ := RB.ints (v := v1) g1 Try.underlying34 Try.underlying5 cellsU8
    rw [bytesU8] at c1
    unfold reachBytes at c1
    obtain ⟨od, cd, rfl⟩ := rd_slice a1
    exact ⟨⟨l, xs⟩, ⟨b, off, od, cd, rfl, hcell 0 _ rfl, hcell 1 _ rfl, a1⟩, hl1, by simp only; omega⟩
  obtain ⟨f, hf⟩ := Deep.choose_lt (α := FileD) key
  refine ⟨(List.range len).map f, ⟨o, cap, by simp, fun i hi => ?_⟩, by unfold reachBytes at hr; simp; omega⟩
  have hi' : i < len := by simpa using hi
  have : fnth ((List.range len).map f) i = f i := by simp [fnth, List.getD_eq_getElem?_getD, hi']
  rw [this]
  exact hf i hi'
theorem RB.acts {H : Type} {enc : TypeId × Value → H} {w : World} {v : Value} (h : RB enc Try.prog w 23 [v]) : ∃ l, ActsRd w v l ∧ l.length ≤ 140737488351232 ∧ ∀ a ∈ l, -9223372036854775808 ≤ a.act ∧ a.act ≤ 9223372036854775807 := by
  obtain ⟨o, len, cap, rfl, hr, hel⟩ := h.rows Try.underlying23 (by rw [cellsAct]; omega)
  rw [bytesAct] at hr
  have key : ∀ i, i < len → ∃ f : ActD, ActRd w o i f ∧ (-9223372036854775808 ≤ f.act ∧ f.act ≤ 9223372036854775807) := fun i hi => by
    obtain ⟨b, off, cs, rfl, hl, hrb, hcell⟩ := hel i hi
    rw [cellsAct] at hl hcell
    obtain ⟨_, hf⟩ := hrb.field Try.underlying37
    obtain ⟨v0, v1, v2, v3, v4, rfl⟩ := list5 hl
    have g0 : RB enc Try.prog w 3 (([v0, v1, v2, v3, v4] : List Value).drop 0 |>.take (Try.prog.cellsOf 3)) := hf 0 _ rfl
    have g1 : RB enc Try.prog w 9 (([v0, v1, v2, v3, v4] : List Value).drop 1 |>.take (Try.prog.cellsOf 9)) := hf 1 _ rfl
    have g2 : RB enc Try.prog w 9 (([v0, v1, v2, v3, v4] : List Value).drop 2 |>.take (Try.prog.cellsOf 9)) := hf 2 _ rfl
    have g3 : RB enc Try.prog w 34 (([v0, v1, v2, v3, v4] : List Value).drop 3 |>.take (Try.prog.cellsOf 34)) := hf 3 _ rfl
    have g4 : RB enc Try.prog w 35 (([v0, v1, v2, v3, v4] : List Value).drop 4 |>.take (Try.prog.cellsOf 35)) := hf 4 _ rfl
    rw [cellsInt] at g0
    rw [cellsStr] at g1 g2
    rw [cellsSU8] at g3
    rw [cellsSInt] at g4
    obtain ⟨x, rfl, hx⟩ := RB.int (v := v0) g0 Try.underlying3
    obtain ⟨la, rfl, hl1⟩ := RB.str (v := v1) g1 Try.underlying9
    obtain ⟨lb, rfl, hl2⟩ := RB.str (v := v2) g2 Try.underlying9
    obtain ⟨xs, a1, b1, c1⟩ := RB.ints (v := v3) g3 Try.underlying34 Try.underlying5 cellsU8
    obtain ⟨ys, a2, b2, c2⟩ := RB.ints (v := v4) g4 Try.underlying35 Try.underlying3 cellsInt
    rw [bytesU8] at c1
    rw [bytesInt] at c2
    unfold reachBytes at c1 c2
    obtain ⟨od, cd, rfl⟩ := rd_slice a1
    obtain ⟨op, cp, rfl⟩ := rd_slice a2
    exact ⟨⟨x, la, lb, xs, ys⟩, ⟨⟨b, off, od, cd, op, cp, rfl, hcell 0 _ rfl, hcell 1 _ rfl, hcell 2 _ rfl, hcell 3 _ rfl, hcell 4 _ rfl, a1, a2⟩, hl1, hl2, by simp only; omega, by simp only; omega⟩, wf_i64 hx⟩
  obtain ⟨f, hf⟩ := Deep.choose_lt (α := ActD) key
  refine ⟨(List.range len).map f, ⟨o, cap, by simp, fun i hi => ?_⟩, by unfold reachBytes at hr; simp; omega, fun a ha => ?_⟩
  · have hi' : i < len := by simpa using hi
    have : anth ((List.range len).map f) i = f i := by simp [anth, List.getD_eq_getElem?_getD, hi']
    rw [this]
    exact (hf i hi').1
  · obtain ⟨i, hi, rfl⟩ := List.mem_map.1 ha
    exact (hf i (List.mem_range.1 hi)).2
end Go.Proofs.Ytejmbhckfdfoeaa
/-
  wakes: a file that is written is read.
-/
set_option linter.unusedVariables false
set_option linter.unusedSimpArgs false
namespace Go.Proofs.Ytejmbhckfdfoeaa
open Go.RowKit Go.Maps
theorem offB_zero {s : DSt} (h : s.off = 0) : offB s = false := by simp [offB, h]
theorem FilesRd.nil (w : World) : FilesRd w (.slice none 0 0) [] := ⟨none, 0, rfl, fun i hi => by simp at hi⟩
theorem conv_bytes {B : Nat} {w : World} {v : Value} {xs : List Int} (h : BytesRep B w v xs) (h0 : 0 < xs.length) : (convert 34 9 v).run Try.prog w = .ok (.string (strOfNums xs)) w := by
  obtain ⟨o, cap, rfl, hc⟩ := h.rd
  obtain ⟨b, off, rfl, _⟩ := hc 0 h0
  refine run_convert_bytes_arg w _ _ Try.underlying34 Try.underlying5 b off xs.length cap xs rfl (fun i hi => ?_) _ Try.underlying9
  obtain ⟨b', off', he, hcell⟩ := hc i hi
  cases he
  exact hcell
set_option maxRecDepth 100000 in
set_option maxHeartbeats 4000000 in
theorem wakes32_any (w : World) : Calls Try.prog 21 #[] w fun e w' => e = .returned (.bool true) ∧ Below w.heap.size w w' := by
  have hcv := fun (W : World) => Lib.run_convert_bytes_const (P := Try.prog) W 34 5 #[.int .u8 120, .int .u8 121] 2 2 Try.underlying34 Try.underlying5
  have HCV := Lib.hid hcv
  clear hcv
  go_enter Try.func21, Try.ntmps21
  go_wp2_with fail
  refine (new_ok (.slice none 0 0) [] 0 _ (FilesRd.nil _) (by rfl) ⟨by omega, by omega⟩).mono ?_
  rintro e w1 ⟨⟨p, bs, bf, s, rfl, hd, hse, hso⟩, hb⟩
  have HD := Lib.hid hd
  have HSE := Lib.hid hse
  have HSO := Lib.hid hso
  have HB := Lib.hid hb
  have hsz := hb.size
  have hcv := HCV.out w1
  clear hd hse hso hb
  go_wp2_with (go_at_call 10; refine (num32_any _ _).mono ?_; rintro e w' ⟨rfl, rfl⟩)
  obtain ⟨w2, hw2⟩ : ∃ w2, w2 = w1.alloc (Obj.cells #[Value.int IntKind.u8 120, Value.int IntKind.u8 121] 5 (2, 3)) := ⟨_, rfl⟩
  have hb2 : Below w1.heap.size w1 w2 := by rw [hw2]; exact (Below.refl _ _).alloc (Nat.le_refl _) _
  have HBR := Lib.hid (show BytesRep 0 w2 (.slice (some ⟨w1.heap.size, 0, none⟩) 2 2) [120, 121] by
    rw [hw2]
    exact ⟨Rd.new w1 .u8 [120, 121] 5 2 (2, 3), fun _ => ⟨w1.heap.size, 0, _, (2, 3), 2, rfl, heap_alloc_new w1 _, Nat.zero_le _⟩, by simp, fun o n c e => by cases e; exact ⟨Nat.le_refl _, by omega⟩⟩)
  have HD2 := Lib.hid (HD.out.next hb2 hsz)
  have HB2 := Lib.hid (HB.out.trans (hb2.mono hsz))
  rw [← hw2]
  clear hw2 hb2 hcv
  have hst := HSE.out.strokes
  have hch := HSE.out.chs
  have hln : s.seen.length = 0 := HSE.out.length
  refine (write_ok [97] _ [120, 121] HD2.out (by decide) HBR.out HSE.out.dead (fun h => by omega) (by omega) (by rw [hch]; simp) (by omega)).mono ?_
  rintro e w3 ⟨rfl, ⟨f, cv3, vs3, hd3, hf3⟩, hs3⟩
  have ho : offB s = false := offB_zero HSO.out
  rw [ho]
  have HD3 := Lib.hid hd3
  have HS3 := Lib.hid (HB2.out.trans hs3.below)
  have HR := Lib.hid HD2.out.seen.ris
  have HO := Lib.hid ho
  clear hd3 hs3 hst hch hln ho
  go_wp2_with (go_at_call 10; refine (num32_any _ _).mono ?_; rintro e w' ⟨rfl, rfl⟩)
  refine (read_ok [97] f HD3.out (by decide) HO.out (lget_put_same HR.out [97] f)).mono ?_
  rintro e w4 ⟨⟨v4, rfl, hbr⟩, hb4⟩
  have hby : (writeS (strokeS s) [97] f [120, 121]).by_ f = [120, 121] := by simp [writeS, chgS, addS, updF]
  rw [hby] at hbr
  obtain ⟨o4, k4, he4⟩ := rd_slice hbr.rd
  subst he4
  have hcv : (convert 34 9 (.slice o4 2 k4)).run Try.prog w4 = .ok (.string ⟨#[120, 121]⟩) w4 := conv_bytes hbr (by simp)
  have HB4 := Lib.hid (HS3.out.trans (hb4.mono HS3.out.size))
  clear hbr hb4 hby
  go_wp2_with (go_at_call 10; refine (num32_any _ _).mono ?_; rintro e w' ⟨rfl, rfl⟩)
  go_ret
  exact ⟨rfl, HB4.out⟩
end Go.Proofs.Ytejmbhckfdfoeaa
/-
  A DISK'S LAWS: what is held between two calls; what calls leave of a disk whose power never goes off.
-/
set_option linter.unusedVariables false
set_option linter.unusedSimpArgs false
namespace Go.Proofs.Ytejmbhckfdfoeaa
open Go.RowKit Go.Maps
/-- between two calls: a disk; a box that is read; the script's box -/
structure LawAt (w0 : World) (scs : Array Value) (B p bs bf ab : Nat) (acs : Array Value) (s : DSt) (W : World) : Prop where
  d : ∃ cv vs, DRepr B W p bs bf cv vs s
  a : Box W ab 37 acs
  s : Box W w0.heap.size 25 scs
  b : Below w0.heap.size w0 W
  hB : w0.heap.size < B
theorem LawAt.base {w0 : World} {scs : Array Value} {B p bs bf ab : Nat} {acs : Array Value} {s : DSt} {W : World} (h : LawAt w0 scs B p bs bf ab acs s W) : B ≤ W.heap.size := by
  obtain ⟨cv, vs, hd⟩ := h.d
  exact Nat.le_of_lt hd.baseLt
theorem LawAt.next {w0 : World} {scs : Array Value} {B p bs bf ab : Nat} {acs : Array Value} {s : DSt} {W W' : World} (h : LawAt w0 scs B p bs bf ab acs s W) (hb : Below W.heap.size W W') : LawAt w0 scs B p bs bf ab acs s W' := by
  obtain ⟨cv, vs, hd⟩ := h.d
  exact ⟨⟨cv, vs, hd.next hb h.base⟩, h.a.next hb, h.s.next hb, h.b.trans (hb.mono h.b.size), h.hB⟩
theorem LawAt.same {w0 : World} {scs : Array Value} {B p bs bf ab : Nat} {acs : Array Value} {s : DSt} {W W' : World} (h : LawAt w0 scs B p bs bf ab acs s W) (hs : Same W W') : LawAt w0 scs B p bs bf ab acs s W' := h.next (hs.below _)
theorem LawAt.step {w0 : World} {scs : Array Value} {B p bs bf ab : Nat} {acs : Array Value} {s s' : DSt} {W W' : World} (h : LawAt w0 scs B p bs bf ab acs s W) (hs : Step B W W') (hd : ∃ cv vs, DRepr B W' p bs bf cv vs s') : LawAt w0 scs B p bs bf ab acs s' W' :=
  ⟨hd, h.a.step hs rfl, h.s.below hs.below h.hB, h.b.trans (hs.below.mono (Nat.le_of_lt h.hB)), h.hB⟩
/-- the power is on, and the counts are small -/
structure Lim (s : DSt) (k : Nat) : Prop where
  dead : s.dead = false
  off : s.off = 0
  st : s.strokes ≤ k
  ch : s.chs.length ≤ k
  many : s.seen.length ≤ 16
theorem Lim.mono {s : DSt} {k m : Nat} (h : Lim s k) (hm : k ≤ m) : Lim s m := ⟨h.dead, h.off, by have := h.st; omega, by have := h.ch; omega, h.many⟩
theorem Lim.stroke {s : DSt} {k : Nat} (h : Lim s k) : Lim (strokeS s) (k + 1) := ⟨offB_zero h.off, h.off, by have := h.st; simp only [strokeS]; omega, Nat.le_succ_of_le h.ch, h.many⟩
theorem Lim.write {s : DSt} {k : Nat} (h : Lim s k) (hr : Ris s.seen) (hn : s.seen.length ≤ 15) (x : List UInt8) (f : Nat) (xs : List Int) : Lim (writeS (strokeS s) x f xs) (k + 1) := by
  refine ⟨offB_zero h.off, h.off, by have := h.st; simp only [writeS, chgS, addS, strokeS]; omega, by have := h.ch; simp [writeS, chgS, addS, strokeS]; omega, ?_⟩
  show (lput s.seen x f).length ≤ 16
  rw [lput_length hr]
  split <;> omega
theorem Lim.rename {s : DSt} {k : Nat} (h : Lim s k) (hr : Ris s.seen) (hn : s.seen.length ≤ 15) (a b : List UInt8) (f : Nat) : Lim (chgS (strokeS s) (.mv a b f)) (k + 1) := by
  refine ⟨offB_zero h.off, h.off, by have := h.st; simp only [chgS, strokeS]; omega, by have := h.ch; simp [chgS, strokeS]; omega, ?_⟩
  show (lput (ldel s.seen a) b f).length ≤ 16
  have h1 : (ldel s.seen a).length ≤ s.seen.length := List.length_filter_le _ _
  have h2 := lput_length (hr.del a) b f
  rw [h2]
  cases (lget (ldel s.seen a) b).isSome
  · simp; omega
  · simp; omega
theorem Lim.remove {s : DSt} {k : Nat} (h : Lim s k) (x : List UInt8) : Lim (chgS (strokeS s) (.del x)) (k + 1) := by
  refine ⟨offB_zero h.off, h.off, by have := h.st; simp only [chgS, strokeS]; omega, by have := h.ch; simp [chgS, strokeS]; omega, ?_⟩
  show (ldel s.seen x).length ≤ 16
  exact Nat.le_trans (List.length_filter_le _ _) h.many
theorem there_seen {s : DSt} (x : List UInt8) : thereB (s.seen.map (fdOf s)) x = (lget s.seen x).isSome := by
  unfold thereB lget
  induction s.seen with
  | nil => rfl
  | cons q r ih =>
    rw [List.map_cons, List.any_cons, List.find?_cons, ih]
    by_cases h : q.1 = x
    · simp [h, fdOf]
    · have : (q.1 == x) = false := by simpa using h
      simp [this, fdOf]
theorem seen_rise {s : DSt} (hr : Ris s.seen) {i j : Nat} (h : i < j) (hj : j < s.seen.length) : (fnth (s.seen.map (fdOf s)) i).nm < (fnth (s.seen.map (fdOf s)) j).nm := by
  have := List.pairwise_iff_getElem.1 hr i j (by omega) hj h
  simpa [fnth, fdOf, List.getD_eq_getElem?_getD, show i < s.seen.length by omega, hj] using this
theorem actsTo_mono (l : List ActD) {k n : Nat} (h : k < n) : (anth l k).da.length + (anth l k).pk.length ≤ actsTo l n := by
  induction n with
  | zero => omega
  | succ n ih =>
    rw [actsTo]
    rcases Nat.lt_or_ge k n with hk | hk
    · have := ih hk; omega
    · have : k = n := by omega
      subst this
      omega
theorem heavyB_no {fs : List FileD} {l : List ActD} (h : heavyB fs l = false) : actsTo l (min l.length 25) ≤ 3000 ∧ filesTo fs (min fs.length 100) ≤ 3000 ∧ fs.length ≤ 100 := by
  rw [heavyB, Bool.or_eq_false_iff, decide_eq_false_iff_not, decide_eq_false_iff_not] at h
  omega
theorem mayB_data {fs : List FileD} (h : mayB fs = true) : ∀ f ∈ fs, f.da.length ≤ 4194304 := by
  intro f hf
  rw [mayB, Bool.and_eq_true] at h
  obtain ⟨k, hk, rfl⟩ := List.mem_iff_getElem.1 hf
  have := okTo_at h.2 hk
  simp only [okAt, Bool.and_eq_true, decide_eq_true_eq] at this
  have h2 := this.2.1
  rwa [fnth, List.getD_eq_getElem?_getD, List.getElem?_eq_getElem hk] at h2
theorem SeenIs.lim {s : DSt} {fs : List FileD} (h : SeenIs s fs) (ho : s.off = 0) (hl : fs.length ≤ 16) : Lim s 0 :=
  ⟨h.dead, ho, by rw [h.strokes]; exact Int.le_refl _, by rw [h.chs]; exact Nat.le_refl _, by rw [h.length]; exact hl⟩
end Go.Proofs.Ytejmbhckfdfoeaa
