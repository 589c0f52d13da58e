/-
  CALLS THAT ARE REFUSED: the power is off, or a name is none; names that lead nowhere.
-/
import Derived.Test.YtejmbhckfdfoeaaDSyncDir
set_option linter.unusedVariables false
set_option linter.unusedSimpArgs false
namespace Go.Proofs.Ytejmbhckfdfoeaa
open Go.RowKit Go.Maps
set_option maxRecDepth 100000 in
set_option maxHeartbeats 4000000 in
theorem write_ref {B : Nat} {w : World} {p bs bf : Nat} {cv : Value} {vs : List Value} {s : DSt} (x : List UInt8) (v : Value) (xs : List Int) (hr : BytesRep 0 w v xs) (h : DRepr B w p bs bf cv vs s) (hxl : x.length ≤ maxLen) (hq : s.dead = true ∨ (goodNm x) = false) :
    Calls Try.prog 13 #[.pointer (some ⟨p, 0, none⟩), .string ⟨x.toArray⟩, v] w fun e w' => e = .returned (.int .i64 (askI s.dead (goodNm x))) ∧ Below w.heap.size w w' := by
  obtain ⟨dd, hdd⟩ : ∃ dd, dd = s.dead := ⟨_, rfl⟩
  obtain ⟨o, cap, rfl⟩ := rd_slice hr.rd
  have hxs4 := hr.len
  have hle : decide ((xs.length : Int) ≤ 4194304) = true := decide_eq_true (by omega)
  clear hr
  obtain ⟨W1, hW1⟩ : ∃ W1, W1 = (w.alloc (.cells #[.string ⟨x.toArray⟩] 9)) := ⟨_, rfl⟩
  have HBL := Lib.hid (show Below w.heap.size w W1 by rw [hW1]; exact (Below.refl _ _).alloc (Nat.le_refl _) _)
  have HD1 := Lib.hid (h.next HBL.out (Nat.le_of_lt h.baseLt))
  have c5 := HD1.out.box.cell 5 rfl
  have nx := (show Box W1 (w.heap.size) 9 #[.string ⟨x.toArray⟩] by rw [hW1]; exact Box.new _ _ _).cell 0 rfl
  have c6 : W1.cell? ⟨p, 5, none⟩ = some (.bool dd) := by rw [hdd]; exact c5
  clear c5
  rw [hW1] at c6 nx
  rw [← hdd] at hq ⊢
  have HW1 := Lib.hid hW1
  clear hW1 hdd h
  have HLx := Lib.hid hxl
  clear hxl
  obtain ⟨gx, hgx⟩ : ∃ gx, gx = goodNm x := ⟨_, rfl⟩
  rw [← hgx] at hq ⊢
  have HGx := Lib.hid hgx
  clear hgx
  cases dd <;> cases gx <;> simp only [Bool.and_true, Bool.and_false, Bool.true_and, Bool.false_and, Bool.true_eq_false, Bool.false_eq_true, or_false, or_true, false_or, or_self, true_or] at hq
  all_goals clear hq
  all_goals go_enter Try.func13, Try.ntmps13
  all_goals go_wp2_with fail
  all_goals rw [← HW1.out] at c6 nx ⊢
  all_goals try (refine (diskGood_nm x _ HLx.out).mono ?_; rintro e w' ⟨rfl, rfl⟩; rw [← HGx.out]; go_wp2_with fail)
  all_goals (refine (ask_any p _ _ _ c6).mono ?_; rintro e w' ⟨rfl, rfl⟩)
  all_goals simp only [askI, Bool.and_true, Bool.and_false, Bool.true_and, Bool.false_and, cond_true, cond_false]
  all_goals go_wp2_with fail
  all_goals go_ret
  all_goals exact ⟨rfl, HBL.out⟩
set_option maxRecDepth 100000 in
set_option maxHeartbeats 4000000 in
theorem sync_ref {B : Nat} {w : World} {p bs bf : Nat} {cv : Value} {vs : List Value} {s : DSt} (x : List UInt8)  (h : DRepr B w p bs bf cv vs s) (hxl : x.length ≤ maxLen) (hq : s.dead = true ∨ (goodNm x) = false) :
    Calls Try.prog 22 #[.pointer (some ⟨p, 0, none⟩), .string ⟨x.toArray⟩] w fun e w' => e = .returned (.int .i64 (askI s.dead (goodNm x))) ∧ Below w.heap.size w w' := by
  obtain ⟨dd, hdd⟩ : ∃ dd, dd = s.dead := ⟨_, rfl⟩
  obtain ⟨W1, hW1⟩ : ∃ W1, W1 = w := ⟨_, rfl⟩
  have HBL := Lib.hid (show Below w.heap.size w W1 by rw [hW1]; exact Below.refl _ _)
  have HD1 := Lib.hid (h.next HBL.out (Nat.le_of_lt h.baseLt))
  have c5 := HD1.out.box.cell 5 rfl
  have c6 : W1.cell? ⟨p, 5, none⟩ = some (.bool dd) := by rw [hdd]; exact c5
  clear c5
  rw [← hdd] at hq ⊢
  have HW1 := Lib.hid hW1
  subst hW1
  clear hdd h
  have HLx := Lib.hid hxl
  clear hxl
  obtain ⟨gx, hgx⟩ : ∃ gx, gx = goodNm x := ⟨_, rfl⟩
  rw [← hgx] at hq ⊢
  have HGx := Lib.hid hgx
  clear hgx
  cases dd <;> cases gx <;> simp only [Bool.and_true, Bool.and_false, Bool.true_and, Bool.false_and, Bool.true_eq_false, Bool.false_eq_true, or_false, or_true, false_or, or_self, true_or] at hq
  all_goals clear hq
  all_goals go_enter Try.func22, Try.ntmps22
  all_goals go_wp2_with fail
  all_goals try (refine (diskGood_nm x _ HLx.out).mono ?_; rintro e w' ⟨rfl, rfl⟩; rw [← HGx.out]; go_wp2_with fail)
  all_goals (refine (ask_any p _ _ _ c6).mono ?_; rintro e w' ⟨rfl, rfl⟩)
  all_goals simp only [askI, Bool.and_true, Bool.and_false, Bool.true_and, Bool.false_and, cond_true, cond_false]
  all_goals go_wp2_with fail
  all_goals go_ret
  all_goals exact ⟨rfl, HBL.out⟩
set_option maxRecDepth 100000 in
set_option maxHeartbeats 4000000 in
theorem rename_ref {B : Nat} {w : World} {p bs bf : Nat} {cv : Value} {vs : List Value} {s : DSt} (a : List UInt8) (b : List UInt8)  (h : DRepr B w p bs bf cv vs s) (hal : a.length ≤ maxLen) (hbl : b.length ≤ maxLen) (hq : s.dead = true ∨ (goodNm a && goodNm b) = false) :
    Calls Try.prog 17 #[.pointer (some ⟨p, 0, none⟩), .string ⟨a.toArray⟩, .string ⟨b.toArray⟩] w fun e w' => e = .returned (.int .i64 (askI s.dead (goodNm a && goodNm b))) ∧ Below w.heap.size w w' := by
  obtain ⟨dd, hdd⟩ : ∃ dd, dd = s.dead := ⟨_, rfl⟩
  obtain ⟨W1, hW1⟩ : ∃ W1, W1 = ((w.alloc (.cells #[.string ⟨a.toArray⟩] 9)).alloc (.cells #[.string ⟨b.toArray⟩] 9)) := ⟨_, rfl⟩
  have HBL := Lib.hid (show Below w.heap.size w W1 by rw [hW1]; exact ((Below.refl _ _).alloc (Nat.le_refl _) _).alloc (by simp) _)
  have HD1 := Lib.hid (h.next HBL.out (Nat.le_of_lt h.baseLt))
  have c5 := HD1.out.box.cell 5 rfl
  have na := (show Box W1 (w.heap.size) 9 #[.string ⟨a.toArray⟩] by rw [hW1]; exact (Box.new _ _ _).next ((Below.refl _ _).alloc (Nat.le_refl _) _)).cell 0 rfl
  have nb := (show Box W1 (w.heap.size + 1) 9 #[.string ⟨b.toArray⟩] by rw [hW1]; exact Box.new_at (by simp)).cell 0 rfl
  have c6 : W1.cell? ⟨p, 5, none⟩ = some (.bool dd) := by rw [hdd]; exact c5
  clear c5
  rw [hW1] at c6 na nb
  rw [← hdd] at hq ⊢
  have HW1 := Lib.hid hW1
  clear hW1 hdd h
  have HLa := Lib.hid hal
  have HLb := Lib.hid hbl
  clear hal hbl
  obtain ⟨ga, hga⟩ : ∃ ga, ga = goodNm a := ⟨_, rfl⟩
  obtain ⟨gb, hgb⟩ : ∃ gb, gb = goodNm b := ⟨_, rfl⟩
  rw [← hga] at hq ⊢
  rw [← hgb] at hq ⊢
  have HGa := Lib.hid hga
  have HGb := Lib.hid hgb
  clear hga hgb
  cases dd <;> cases ga <;> cases gb <;> simp only [Bool.and_true, Bool.and_false, Bool.true_and, Bool.false_and, Bool.true_eq_false, Bool.false_eq_true, or_false, or_true, false_or, or_self, true_or] at hq
  all_goals clear hq
  all_goals go_enter Try.func17, Try.ntmps17
  all_goals go_wp2_with fail
  all_goals rw [← HW1.out] at c6 na nb ⊢
  all_goals try (refine (diskGood_nm a _ HLa.out).mono ?_; rintro e w' ⟨rfl, rfl⟩; rw [← HGa.out]; go_wp2_with fail)
  all_goals try (refine (diskGood_nm b _ HLb.out).mono ?_; rintro e w' ⟨rfl, rfl⟩; rw [← HGb.out]; go_wp2_with fail)
  all_goals (refine (ask_any p _ _ _ c6).mono ?_; rintro e w' ⟨rfl, rfl⟩)
  all_goals simp only [askI, Bool.and_true, Bool.and_false, Bool.true_and, Bool.false_and, cond_true, cond_false]
  all_goals go_wp2_with fail
  all_goals go_ret
  all_goals exact ⟨rfl, HBL.out⟩
set_option maxRecDepth 100000 in
set_option maxHeartbeats 4000000 in
theorem remove_ref {B : Nat} {w : World} {p bs bf : Nat} {cv : Value} {vs : List Value} {s : DSt} (x : List UInt8)  (h : DRepr B w p bs bf cv vs s) (hxl : x.length ≤ maxLen) (hq : s.dead = true ∨ (goodNm x) = false) :
    Calls Try.prog 20 #[.pointer (some ⟨p, 0, none⟩), .string ⟨x.toArray⟩] w fun e w' => e = .returned (.int .i64 (askI s.dead (goodNm x))) ∧ Below w.heap.size w w' := by
  obtain ⟨dd, hdd⟩ : ∃ dd, dd = s.dead := ⟨_, rfl⟩
  obtain ⟨W1, hW1⟩ : ∃ W1, W1 = (w.alloc (.cells #[.string ⟨x.toArray⟩] 9)) := ⟨_, rfl⟩
  have HBL := Lib.hid (show Below w.heap.size w W1 by rw [hW1]; exact (Below.refl _ _).alloc (Nat.le_refl _) _)
  have HD1 := Lib.hid (h.next HBL.out (Nat.le_of_lt h.baseLt))
  have c5 := HD1.out.box.cell 5 rfl
  have nx := (show Box W1 (w.heap.size) 9 #[.string ⟨x.toArray⟩] by rw [hW1]; exact Box.new _ _ _).cell 0 rfl
  have c6 : W1.cell? ⟨p, 5, none⟩ = some (.bool dd) := by rw [hdd]; exact c5
  clear c5
  rw [hW1] at c6 nx
  rw [← hdd] at hq ⊢
  have HW1 := Lib.hid hW1
  clear hW1 hdd h
  have HLx := Lib.hid hxl
  clear hxl
  obtain ⟨gx, hgx⟩ : ∃ gx, gx = goodNm x := ⟨_, rfl⟩
  rw [← hgx] at hq ⊢
  have HGx := Lib.hid hgx
  clear hgx
  cases dd <;> cases gx <;> simp only [Bool.and_true, Bool.and_false, Bool.true_and, Bool.false_and, Bool.true_eq_false, Bool.false_eq_true, or_false, or_true, false_or, or_self, true_or] at hq
  all_goals clear hq
  all_goals go_enter Try.func20, Try.ntmps20
  all_goals go_wp2_with fail
  all_goals rw [← HW1.out] at c6 nx ⊢
  all_goals try (refine (diskGood_nm x _ HLx.out).mono ?_; rintro e w' ⟨rfl, rfl⟩; rw [← HGx.out]; go_wp2_with fail)
  all_goals (refine (ask_any p _ _ _ c6).mono ?_; rintro e w' ⟨rfl, rfl⟩)
  all_goals simp only [askI, Bool.and_true, Bool.and_false, Bool.true_and, Bool.false_and, cond_true, cond_false]
  all_goals go_wp2_with fail
  all_goals go_ret
  all_goals exact ⟨rfl, HBL.out⟩
set_option maxRecDepth 100000 in
set_option maxHeartbeats 4000000 in
theorem rename_no {B : Nat} {w : World} {p bs bf : Nat} {cv : Value} {vs : List Value} {s : DSt} (a b : List UInt8) (h : DRepr B w p bs bf cv vs s) (hxa : goodNm a = true) (hxb : goodNm b = true) (hd : s.dead = false) (hg : lget s.seen a = none) (hst : s.strokes < 1000000) :
    Calls Try.prog 17 #[.pointer (some ⟨p, 0, none⟩), .string ⟨a.toArray⟩, .string ⟨b.toArray⟩] w fun e w' => e = .returned (.int .i64 6) ∧ DRepr B w' p bs bf cv vs (strokeS s) ∧ Step B w w' := by
  obtain ⟨W1, hW1⟩ : ∃ W1, W1 = ((w.alloc (.cells #[.string ⟨a.toArray⟩] 9)).alloc (.cells #[.string ⟨b.toArray⟩] 9)) := ⟨_, rfl⟩
  have hB0 : B ≤ w.heap.size := Nat.le_of_lt h.baseLt
  have hb : Below w.heap.size w W1 := by rw [hW1]; exact ((Below.refl _ _).alloc (Nat.le_refl _) _).alloc (by simp) _
  have HNa := Lib.hid (show Box W1 (w.heap.size) 9 #[.string ⟨a.toArray⟩] by rw [hW1]; exact (Box.new _ _ _).next ((Below.refl _ _).alloc (Nat.le_refl _) _))
  have HNb := Lib.hid (show Box W1 (w.heap.size + 1) 9 #[.string ⟨b.toArray⟩] by rw [hW1]; exact Box.new_at (by simp))
  have HD1 := Lib.hid (h.next hb hB0)
  have HS1 := Lib.hid (Step.of_below (B := B) hb hB0)
  have hsz1 := hb.size
  have HDD := Lib.hid hd
  have HW1 := Lib.hid hW1
  have Ha := Lib.hid hxa
  have HLa := Lib.hid (show a.length ≤ maxLen by have := (goodNm_len hxa).2; unfold maxLen; omega)
  have na := HNa.out.cell 0 rfl
  have Hb := Lib.hid hxb
  have HLb := Lib.hid (show b.length ≤ maxLen by have := (goodNm_len hxb).2; unfold maxLen; omega)
  have nb := HNb.out.cell 0 rfl
  have HG := Lib.hid hg
  clear h hb hd hg hW1 hxa hxb
  have c5 := HD1.out.box.cell 5 rfl
  rw [HW1.out] at na nb
  go_enter Try.func17, Try.ntmps17
  go_wp2_with fail
  rw [← HW1.out] at na nb ⊢
  refine (diskGood_nm a _ HLa.out).mono ?_
  rintro e w' ⟨rfl, rfl⟩
  rw [Ha.out]
  go_wp2_with fail
  refine (diskGood_nm b _ HLb.out).mono ?_
  rintro e w' ⟨rfl, rfl⟩
  rw [Hb.out]
  go_wp2_with fail
  refine (ask_any p s.dead true _ c5).mono ?_
  rintro e w' ⟨rfl, rfl⟩
  rw [HDD.out, show askI false true = 0 from rfl]
  clear c5 HW1 na nb
  go_wp2_with fail
  refine (stroke_any HD1.out hst).mono ?_
  rintro e w2 ⟨rfl, hd2, hs2, hz2⟩
  have HD2 := Lib.hid hd2
  have HS2 := Lib.hid (HS1.out.trans hs2)
  have HMa := Lib.hid (HNa.out.step hs2 rfl)
  have na := HMa.out.cell 0 rfl
  have HMb := Lib.hid (HNb.out.step hs2 rfl)
  have nb := HMb.out.cell 0 rfl
  have c0 := hd2.box.cell 0 rfl
  have hsz2 : w.heap.size < w2.heap.size := by rw [hz2]; exact HNa.out.lt
  clear hd2 hs2 hz2 HD1 HNa HNb HS1 nb
  have hlk : ∀ k, (Instr.lookup 62 (.map (some bs)) (.string ⟨a.toArray⟩) false).run Try.prog (w2.drewN k) = .ok (.pointer none) (w2.drewN k) := fun k => by
    have := (HD2.out.seen.block (w' := w2.drewN k) rfl).lookup a HLa.out
    rw [show (strokeS s).seen = s.seen from rfl, HG.out] at this; exact this
  have hl1 : (Instr.lookup 62 (.map (some bs)) (.string ⟨a.toArray⟩) false).run Try.prog w2.drew = .ok (.pointer none) w2.drew := hlk 1
  have hl2 : ∀ o : Obj, (Instr.lookup 62 (.map (some bs)) (.string ⟨a.toArray⟩) false).run Try.prog (w2.alloc o).drew = .ok (.pointer none) (w2.alloc o).drew := fun o => by
    have := (HD2.out.seen.block (w' := (w2.alloc o).drew) (Below.heap_alloc w2 o bs HD2.out.seen.lt)).lookup a HLa.out
    rw [show (strokeS s).seen = s.seen from rfl, HG.out] at this; exact this
  have hpc : w2.cell? ⟨p, 0, none⟩ = some (.map (some bs)) := c0
  have hpn : w2.cell? ⟨w.heap.size, 0, none⟩ = some (.string ⟨a.toArray⟩) := na
  have hp2 : p < w2.heap.size := HD2.out.box.lt
  have hlb : Below w2.heap.size w2 w2.drew := Below.drew (Below.refl _ _)
  go_wp2_with fail
  go_cut [9] (fun v wx => v = .pointer (some ⟨w2.heap.size, 0, none⟩) ∧ Box wx w2.heap.size 66 #[ptrV none] ∧ Below w2.heap.size w2 wx)
  case first =>
    go_region
    all_goals (go_wp2_with fail; go_meet; exact ⟨rfl, (Box.new w2 _ _).same ⟨1, rfl⟩, ((Below.refl _ _).alloc (Nat.le_refl _) _).drew⟩)
  case rest =>
    obtain ⟨rfl, hbx, hb3⟩ := hcut
    obtain ⟨w3, rfl⟩ : ∃ w3, w3 = wc := ⟨_, rfl⟩
    have hB2 : B ≤ w2.heap.size := by omega
    have HD3 := Lib.hid (HD2.out.next hb3 hB2)
    have HS3 := Lib.hid (HS2.out.trans (Step.of_below hb3 hB2))
    have HA3 := Lib.hid (HMa.out.next hb3)
    have HC3 := Lib.hid (HMb.out.next hb3)
    have HP3 := Lib.hid hbx
    have cp := hbx.cell 0 rfl
    simp only [ptrV] at cp
    clear hb3 hbx HD2 HS2 HMa HMb hlk hl1 hl2 c0 na hpc hpn hlb
    go_wp2_with fail
    go_ret
    exact ⟨rfl, HD3.out, HS3.out⟩
set_option maxRecDepth 100000 in
set_option maxHeartbeats 4000000 in
theorem write_full {B : Nat} {w : World} {p bs bf : Nat} {cv : Value} {vs : List Value} {s : DSt} (x : List UInt8) (v : Value) (xs : List Int) (h : DRepr B w p bs bf cv vs s) (hx : goodNm x = true) (hr : BytesRep 0 w v xs)
    (hd : s.dead = false) (hfull : lget s.seen x = none ∧ s.seen.length = 16) (hst : s.strokes < 1000000) :
    Calls Try.prog 13 #[.pointer (some ⟨p, 0, none⟩), .string ⟨x.toArray⟩, v] w fun e w' => e = .returned (.int .i64 6) ∧ DRepr B w' p bs bf cv vs (strokeS s) ∧ Step B w w' := by
  obtain ⟨o, cap, rfl⟩ := rd_slice hr.rd
  have hxl := hr.len
  obtain ⟨W1, hW1⟩ : ∃ W1, W1 = w.alloc (.cells #[.string ⟨x.toArray⟩] 9) := ⟨_, rfl⟩
  have hB0 : B ≤ w.heap.size := Nat.le_of_lt h.baseLt
  have hb : Below w.heap.size w W1 := by rw [hW1]; exact (Below.refl _ _).alloc (Nat.le_refl _) _
  have HBN := Lib.hid (show Box W1 w.heap.size 9 #[.string ⟨x.toArray⟩] by rw [hW1]; exact Box.new _ _ _)
  have HD1 := Lib.hid (h.next hb hB0)
  have HR1 := Lib.hid (hr.step (Step.of_below (B := 0) hb (Nat.zero_le _)))
  have HS1 := Lib.hid (Step.of_below (B := B) hb hB0)
  have HX := Lib.hid hx
  have HXL := Lib.hid (show x.length ≤ maxLen by have := (goodNm_len hx).2; unfold maxLen; omega)
  have hsz1 := hb.size
  have HFU := Lib.hid hfull
  have HDD := Lib.hid hd
  have HW1 := Lib.hid hW1
  clear h hb hr hx hfull hd hW1
  have c0 := HBN.out.cell 0 rfl
  have c5 := HD1.out.box.cell 5 rfl
  rw [HW1.out] at c0
  go_enter Try.func13, Try.ntmps13
  go_wp2_with fail
  rw [← HW1.out]
  clear c0
  refine (diskGood_nm x _ HXL.out).mono ?_
  rintro e w' ⟨rfl, rfl⟩
  rw [HX.out]
  have hle : decide ((xs.length : Int) ≤ 4194304) = true := decide_eq_true (by omega)
  go_wp2_with fail
  refine (ask_any p s.dead true _ c5).mono ?_
  rintro e w' ⟨rfl, rfl⟩
  rw [HDD.out, show askI false true = 0 from rfl]
  clear c5 HW1
  go_wp2_with fail
  refine (stroke_any HD1.out hst).mono ?_
  rintro e w2 ⟨rfl, hd2, hs2, hz2⟩
  have HD2 := Lib.hid hd2
  have HS2 := Lib.hid (HS1.out.trans hs2)
  have HBN2 := Lib.hid (HBN.out.step hs2 rfl)
  have HR2 := Lib.hid (HR1.out.step hs2)
  have HLK := Lib.hid (fun (k : Nat) => (hd2.seen.block (w' := w2.drewN k) rfl).lookup x HXL.out)
  have HLN := Lib.hid (fun (k : Nat) => (hd2.seen.block (w' := w2.drewN k) rfl).len 3)
  have c0 := hd2.box.cell 0 rfl
  have cn := HBN2.out.cell 0 rfl
  have hsz2 : w.heap.size < w2.heap.size := by rw [hz2]; exact HBN.out.lt
  have HSZ2 := Lib.hid hz2
  clear hd2 hs2 hz2 HD1 HBN HS1 HR1
  have hlk := HLK.out
  have hln := HLN.out
  go_wp2_with fail
  go_cut [38] (fun v wx => v = .bool true ∧ Same w2 wx)
  case first =>
    have hlk2 : ∀ k, (Instr.lookup 62 (.map (some bs)) (.string ⟨x.toArray⟩) false).run Try.prog (w2.drewN k) = .ok (.pointer none) (w2.drewN k) := fun k => by have := hlk k; rw [show (strokeS s).seen = s.seen from rfl, HFU.out.1] at this; exact this
    have hln2 : ∀ k, (Builtin.len_ #[62] 3 #[.map (some bs)]).run Try.prog (w2.drewN k) = .ok (.int .i64 16) (w2.drewN k) := fun k => by have := hln k; rw [show (strokeS s).seen = s.seen from rfl, HFU.out.2] at this; exact this
    clear hlk hln
    go_quiet (fail)
    all_goals (go_wp2_with fail; go_meet; exact ⟨rfl, ⟨_, rfl⟩⟩)
  case rest =>
    obtain ⟨rfl, hsm⟩ := hcut
    obtain ⟨w3, rfl⟩ : ∃ w3, w3 = wc := ⟨_, rfl⟩
    have hb3 : Below w2.heap.size w2 w3 := hsm.below _
    have hB2 : B ≤ w2.heap.size := by omega
    have HD3 := Lib.hid (HD2.out.next hb3 hB2)
    have HS3 := Lib.hid (HS2.out.trans (Step.of_below hb3 hB2))
    have HBN3 := Lib.hid (HBN2.out.next hb3)
    have HR3 := Lib.hid (HR2.out.step (Step.of_below (B := 0) hb3 (Nat.zero_le _)))
    have hsz3 := hb3.size
    clear hsm hb3 HD2 HS2 HBN2 HR2 hlk hln HLK HLN c0 cn
    go_wp2_with fail
    go_ret
    exact ⟨rfl, HD3.out, HS3.out⟩
end Go.Proofs.Ytejmbhckfdfoeaa
