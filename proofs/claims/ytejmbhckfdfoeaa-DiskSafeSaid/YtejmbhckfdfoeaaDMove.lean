/-
  Remove, Rename.
-/
import Derived.Test.YtejmbhckfdfoeaaDRead
set_option linter.unusedVariables false
set_option linter.unusedSimpArgs false
namespace Go.Proofs.Ytejmbhckfdfoeaa
open Go.RowKit Go.Maps
theorem ldel_mem {l : NM} {x : List UInt8} {q : List UInt8 × Nat} (h : q ∈ ldel l x) : q ∈ l := (List.mem_filter.1 h).1
theorem fits_del {B : Nat} {w : World} {p bs bf : Nat} {cv : Value} {vs : List Value} {s : DSt} (h : DRepr B w p bs bf cv vs s) (x : List UInt8) (h1 : s.chs.length < 1000000) : Fits s (.del x) :=
  ⟨fun q hq => h.in1 q (ldel_mem hq), fun q hq => h.nm1 q (ldel_mem hq), Nat.le_trans (List.length_filter_le _ _) h.many, h1⟩
theorem fits_mv {B : Nat} {w : World} {p bs bf : Nat} {cv : Value} {vs : List Value} {s : DSt} (h : DRepr B w p bs bf cv vs s) (a b : List UInt8) (f : Nat) (hb : b.length ≤ maxLen) (hg : lget s.seen a = some f) (h1 : s.chs.length < 1000000) (h2 : s.seen.length < 1000000) : Fits s (.mv a b f) := by
  refine ⟨fun q hq => ?_, fun q hq => ?_, ?_, h1⟩
  · rcases lput_mem hq with rfl | hq
    · exact h.in1 (a, f) (lget_mem hg)
    · exact h.in1 q (ldel_mem hq)
  · rcases lput_mem hq with rfl | hq
    · exact hb
    · exact h.nm1 q (ldel_mem hq)
  · show (lput (ldel s.seen a) b f).length ≤ _
    have := List.length_filter_le (fun p => !(p.1 == a)) s.seen
    rw [lput_length (h.seen.ris.del a)]
    split
    · exact Nat.le_trans this h.many
    · exact Nat.le_trans (Nat.succ_le_succ this) (by omega)
set_option maxRecDepth 100000 in
set_option maxHeartbeats 4000000 in
theorem remove_ok {B : Nat} {w : World} {p bs bf : Nat} {cv : Value} {vs : List Value} {s : DSt} (x : List UInt8) (f : Nat) (h : DRepr B w p bs bf cv vs s) (hxx : goodNm x = true) (hd : s.dead = false) (hg : lget s.seen x = some f) (hst : s.strokes < 1000000) (hch : s.chs.length < 1000000) :
    Calls Try.prog 20 #[.pointer (some ⟨p, 0, none⟩), .string ⟨x.toArray⟩] w fun e w' => e = .returned (.int .i64 (toldI (offB s))) ∧ (∃ cv' vs', DRepr B w' p bs bf cv' vs' (chgS (strokeS s) (.del x))) ∧ Step B w w' := by
  obtain ⟨W1, hW1⟩ : ∃ W1, W1 = (w.alloc (.cells #[.string ⟨x.toArray⟩] 9)) := ⟨_, rfl⟩
  have hB0 : B ≤ w.heap.size := Nat.le_of_lt h.baseLt
  have hb : Below w.heap.size w W1 := by rw [hW1]; exact (Below.refl _ _).alloc (Nat.le_refl _) _
  have HNx := Lib.hid (show Box W1 (w.heap.size) 9 #[.string ⟨x.toArray⟩] by rw [hW1]; exact Box.new _ _ _)
  have HD1 := Lib.hid (h.next hb hB0)
  have HS1 := Lib.hid (Step.of_below (B := B) hb hB0)
  have hsz1 := hb.size
  have HDD := Lib.hid hd
  have HW1 := Lib.hid hW1
  have Hx := Lib.hid hxx
  have HLx := Lib.hid (show x.length ≤ maxLen by have := (goodNm_len hxx).2; unfold maxLen; omega)
  have nx := HNx.out.cell 0 rfl
  have HG := Lib.hid hg
  clear h hb hd hg hW1 hxx
  have c5 := HD1.out.box.cell 5 rfl
  rw [HW1.out] at nx
  go_enter Try.func20, Try.ntmps20
  go_wp2_with fail
  rw [← HW1.out] at nx ⊢
  refine (diskGood_nm x _ HLx.out).mono ?_
  rintro e w' ⟨rfl, rfl⟩
  rw [Hx.out]
  go_wp2_with fail
  refine (ask_any p s.dead true _ c5).mono ?_
  rintro e w' ⟨rfl, rfl⟩
  rw [HDD.out, show askI false true = 0 from rfl]
  clear c5 HW1 nx
  go_wp2_with fail
  refine (stroke_any HD1.out hst).mono ?_
  rintro e w2 ⟨rfl, hd2, hs2, hz2⟩
  have HD2 := Lib.hid hd2
  have HS2 := Lib.hid (HS1.out.trans hs2)
  have HMx := Lib.hid (HNx.out.step hs2 rfl)
  have nx := HMx.out.cell 0 rfl
  have c0 := hd2.box.cell 0 rfl
  have hsz2 : w.heap.size < w2.heap.size := by rw [hz2]; exact HNx.out.lt
  clear hd2 hs2 hz2 HD1 HNx HS1
  have hlk : ∀ k, (Instr.lookup 62 (.map (some bs)) (.string ⟨x.toArray⟩) false).run Try.prog (w2.drewN k) = .ok (.pointer (some ⟨f, 0, none⟩)) (w2.drewN k) := fun k => by
    have := (HD2.out.seen.block (w' := w2.drewN k) rfl).lookup x HLx.out
    rw [show (strokeS s).seen = s.seen from rfl, HG.out] at this; exact this
  have hl0 := hlk 0
  go_wp2_with fail
  go_cut [22] (fun v wx => v = .bool false ∧ Same w2 wx)
  case first =>
    go_quiet (fail)
    all_goals (go_wp2_with fail; go_meet; exact ⟨rfl, ⟨_, rfl⟩⟩)
  case rest =>
    obtain ⟨rfl, hsm⟩ := hcut
    obtain ⟨w3, rfl⟩ : ∃ w3, w3 = wc := ⟨_, rfl⟩
    have hb3 : Below w2.heap.size w2 w3 := hsm.below _
    have hB2 : B ≤ w2.heap.size := by omega
    have HD3 := Lib.hid (HD2.out.next hb3 hB2)
    have HS3 := Lib.hid (HS2.out.trans (Step.of_below hb3 hB2))
    have HN3 := Lib.hid (HMx.out.next hb3)
    clear hsm hb3 HD2 HS2 HMx hlk hl0 c0 nx
    have hmf : ∀ (fn : Fn) (first cap : Array Value) (w : World), (Instr.makeFunc fn first cap).run Try.prog w = .ok (.func fn first cap) w := fun _ _ _ _ => rfl
    go_wp2_with fail
    refine (alter_del x _ HD3.out ⟨_, rfl, HN3.out, HLx.out⟩ (fits_del HD3.out x hch)).mono ?_
    rintro e w6 ⟨rfl, ⟨cv6, vs6, hd6⟩, hs6⟩
    have HD6 := Lib.hid hd6
    have HS6 := Lib.hid (HS3.out.trans hs6)
    clear hd6 hs6 HD3 HS3 HN3
    go_wp2_with fail
    refine (told_any _ _).mono ?_
    rintro e w' ⟨rfl, rfl⟩
    go_wp2_with fail
    go_ret
    exact ⟨rfl, ⟨cv6, vs6, HD6.out⟩, HS6.out⟩
set_option maxRecDepth 100000 in
set_option maxHeartbeats 4000000 in
theorem remove_no {B : Nat} {w : World} {p bs bf : Nat} {cv : Value} {vs : List Value} {s : DSt} (x : List UInt8) (h : DRepr B w p bs bf cv vs s) (hxx : goodNm x = true) (hd : s.dead = false) (hg : lget s.seen x = none) (hst : s.strokes < 1000000) (hch : s.chs.length < 1000000) :
    Calls Try.prog 20 #[.pointer (some ⟨p, 0, none⟩), .string ⟨x.toArray⟩] w fun e w' => e = .returned (.int .i64 6) ∧ DRepr B w' p bs bf cv vs (strokeS s) ∧ Step B w w' := by
  obtain ⟨W1, hW1⟩ : ∃ W1, W1 = (w.alloc (.cells #[.string ⟨x.toArray⟩] 9)) := ⟨_, rfl⟩
  have hB0 : B ≤ w.heap.size := Nat.le_of_lt h.baseLt
  have hb : Below w.heap.size w W1 := by rw [hW1]; exact (Below.refl _ _).alloc (Nat.le_refl _) _
  have HNx := Lib.hid (show Box W1 (w.heap.size) 9 #[.string ⟨x.toArray⟩] by rw [hW1]; exact Box.new _ _ _)
  have HD1 := Lib.hid (h.next hb hB0)
  have HS1 := Lib.hid (Step.of_below (B := B) hb hB0)
  have hsz1 := hb.size
  have HDD := Lib.hid hd
  have HW1 := Lib.hid hW1
  have Hx := Lib.hid hxx
  have HLx := Lib.hid (show x.length ≤ maxLen by have := (goodNm_len hxx).2; unfold maxLen; omega)
  have nx := HNx.out.cell 0 rfl
  have HG := Lib.hid hg
  clear h hb hd hg hW1 hxx
  have c5 := HD1.out.box.cell 5 rfl
  rw [HW1.out] at nx
  go_enter Try.func20, Try.ntmps20
  go_wp2_with fail
  rw [← HW1.out] at nx ⊢
  refine (diskGood_nm x _ HLx.out).mono ?_
  rintro e w' ⟨rfl, rfl⟩
  rw [Hx.out]
  go_wp2_with fail
  refine (ask_any p s.dead true _ c5).mono ?_
  rintro e w' ⟨rfl, rfl⟩
  rw [HDD.out, show askI false true = 0 from rfl]
  clear c5 HW1 nx
  go_wp2_with fail
  refine (stroke_any HD1.out hst).mono ?_
  rintro e w2 ⟨rfl, hd2, hs2, hz2⟩
  have HD2 := Lib.hid hd2
  have HS2 := Lib.hid (HS1.out.trans hs2)
  have HMx := Lib.hid (HNx.out.step hs2 rfl)
  have nx := HMx.out.cell 0 rfl
  have c0 := hd2.box.cell 0 rfl
  have hsz2 : w.heap.size < w2.heap.size := by rw [hz2]; exact HNx.out.lt
  clear hd2 hs2 hz2 HD1 HNx HS1
  have hlk : ∀ k, (Instr.lookup 62 (.map (some bs)) (.string ⟨x.toArray⟩) false).run Try.prog (w2.drewN k) = .ok (.pointer none) (w2.drewN k) := fun k => by
    have := (HD2.out.seen.block (w' := w2.drewN k) rfl).lookup x HLx.out
    rw [show (strokeS s).seen = s.seen from rfl, HG.out] at this; exact this
  have hl0 := hlk 0
  go_wp2_with fail
  go_cut [22] (fun v wx => v = .bool true ∧ Same w2 wx)
  case first =>
    go_quiet (fail)
    all_goals (go_wp2_with fail; go_meet; exact ⟨rfl, ⟨_, rfl⟩⟩)
  case rest =>
    obtain ⟨rfl, hsm⟩ := hcut
    obtain ⟨w3, rfl⟩ : ∃ w3, w3 = wc := ⟨_, rfl⟩
    have hb3 : Below w2.heap.size w2 w3 := hsm.below _
    have hB2 : B ≤ w2.heap.size := by omega
    have HD3 := Lib.hid (HD2.out.next hb3 hB2)
    have HS3 := Lib.hid (HS2.out.trans (Step.of_below hb3 hB2))
    have HN3 := Lib.hid (HMx.out.next hb3)
    clear hsm hb3 HD2 HS2 HMx hlk hl0 c0 nx
    go_wp2_with fail
    go_ret
    exact ⟨rfl, HD3.out, HS3.out⟩
set_option maxRecDepth 100000 in
set_option maxHeartbeats 4000000 in
theorem rename_ok {B : Nat} {w : World} {p bs bf : Nat} {cv : Value} {vs : List Value} {s : DSt} (a b : List UInt8) (f : Nat) (h : DRepr B w p bs bf cv vs s) (hxa : goodNm a = true) (hxb : goodNm b = true) (hd : s.dead = false) (hg : lget s.seen a = some f) (hst : s.strokes < 1000000) (hch : s.chs.length < 1000000) (hse : s.seen.length < 1000000) :
    Calls Try.prog 17 #[.pointer (some ⟨p, 0, none⟩), .string ⟨a.toArray⟩, .string ⟨b.toArray⟩] w fun e w' => e = .returned (.int .i64 (toldI (offB s))) ∧ (∃ cv' vs', DRepr B w' p bs bf cv' vs' (chgS (strokeS s) (.mv a b f))) ∧ Step B w w' := by
  obtain ⟨W1, hW1⟩ : ∃ W1, W1 = ((w.alloc (.cells #[.string ⟨a.toArray⟩] 9)).alloc (.cells #[.string ⟨b.toArray⟩] 9)) := ⟨_, rfl⟩
  have hB0 : B ≤ w.heap.size := Nat.le_of_lt h.baseLt
  have hb : Below w.heap.size w W1 := by rw [hW1]; exact ((Below.refl _ _).alloc (Nat.le_refl _) _).alloc (by simp) _
  have HNa := Lib.hid (show Box W1 (w.heap.size) 9 #[.string ⟨a.toArray⟩] by rw [hW1]; exact (Box.new _ _ _).next ((Below.refl _ _).alloc (Nat.le_refl _) _))
  have HNb := Lib.hid (show Box W1 (w.heap.size + 1) 9 #[.string ⟨b.toArray⟩] by rw [hW1]; exact Box.new_at (by simp))
  have HD1 := Lib.hid (h.next hb hB0)
  have HS1 := Lib.hid (Step.of_below (B := B) hb hB0)
  have hsz1 := hb.size
  have HDD := Lib.hid hd
  have HW1 := Lib.hid hW1
  have Ha := Lib.hid hxa
  have HLa := Lib.hid (show a.length ≤ maxLen by have := (goodNm_len hxa).2; unfold maxLen; omega)
  have na := HNa.out.cell 0 rfl
  have Hb := Lib.hid hxb
  have HLb := Lib.hid (show b.length ≤ maxLen by have := (goodNm_len hxb).2; unfold maxLen; omega)
  have nb := HNb.out.cell 0 rfl
  have HG := Lib.hid hg
  clear h hb hd hg hW1 hxa hxb
  have c5 := HD1.out.box.cell 5 rfl
  rw [HW1.out] at na nb
  go_enter Try.func17, Try.ntmps17
  go_wp2_with fail
  rw [← HW1.out] at na nb ⊢
  refine (diskGood_nm a _ HLa.out).mono ?_
  rintro e w' ⟨rfl, rfl⟩
  rw [Ha.out]
  go_wp2_with fail
  refine (diskGood_nm b _ HLb.out).mono ?_
  rintro e w' ⟨rfl, rfl⟩
  rw [Hb.out]
  go_wp2_with fail
  refine (ask_any p s.dead true _ c5).mono ?_
  rintro e w' ⟨rfl, rfl⟩
  rw [HDD.out, show askI false true = 0 from rfl]
  clear c5 HW1 na nb
  go_wp2_with fail
  refine (stroke_any HD1.out hst).mono ?_
  rintro e w2 ⟨rfl, hd2, hs2, hz2⟩
  have HD2 := Lib.hid hd2
  have HS2 := Lib.hid (HS1.out.trans hs2)
  have HMa := Lib.hid (HNa.out.step hs2 rfl)
  have na := HMa.out.cell 0 rfl
  have HMb := Lib.hid (HNb.out.step hs2 rfl)
  have nb := HMb.out.cell 0 rfl
  have c0 := hd2.box.cell 0 rfl
  have hsz2 : w.heap.size < w2.heap.size := by rw [hz2]; exact HNa.out.lt
  clear hd2 hs2 hz2 HD1 HNa HNb HS1 nb
  have hlk : ∀ k, (Instr.lookup 62 (.map (some bs)) (.string ⟨a.toArray⟩) false).run Try.prog (w2.drewN k) = .ok (.pointer (some ⟨f, 0, none⟩)) (w2.drewN k) := fun k => by
    have := (HD2.out.seen.block (w' := w2.drewN k) rfl).lookup a HLa.out
    rw [show (strokeS s).seen = s.seen from rfl, HG.out] at this; exact this
  have hl1 : (Instr.lookup 62 (.map (some bs)) (.string ⟨a.toArray⟩) false).run Try.prog w2.drew = .ok (.pointer (some ⟨f, 0, none⟩)) w2.drew := hlk 1
  have hl2 : ∀ o : Obj, (Instr.lookup 62 (.map (some bs)) (.string ⟨a.toArray⟩) false).run Try.prog (w2.alloc o).drew = .ok (.pointer (some ⟨f, 0, none⟩)) (w2.alloc o).drew := fun o => by
    have := (HD2.out.seen.block (w' := (w2.alloc o).drew) (Below.heap_alloc w2 o bs HD2.out.seen.lt)).lookup a HLa.out
    rw [show (strokeS s).seen = s.seen from rfl, HG.out] at this; exact this
  have hpc : w2.cell? ⟨p, 0, none⟩ = some (.map (some bs)) := c0
  have hpn : w2.cell? ⟨w.heap.size, 0, none⟩ = some (.string ⟨a.toArray⟩) := na
  have hp2 : p < w2.heap.size := HD2.out.box.lt
  have hlb : Below w2.heap.size w2 w2.drew := Below.drew (Below.refl _ _)
  go_wp2_with fail
  go_cut [9] (fun v wx => v = .pointer (some ⟨w2.heap.size, 0, none⟩) ∧ Box wx w2.heap.size 66 #[ptrV (some f)] ∧ Below w2.heap.size w2 wx)
  case first =>
    go_region
    all_goals (go_wp2_with fail; go_meet; exact ⟨rfl, (Box.new w2 _ _).same ⟨1, rfl⟩, ((Below.refl _ _).alloc (Nat.le_refl _) _).drew⟩)
  case rest =>
    obtain ⟨rfl, hbx, hb3⟩ := hcut
    obtain ⟨w3, rfl⟩ : ∃ w3, w3 = wc := ⟨_, rfl⟩
    have hB2 : B ≤ w2.heap.size := by omega
    have HD3 := Lib.hid (HD2.out.next hb3 hB2)
    have HS3 := Lib.hid (HS2.out.trans (Step.of_below hb3 hB2))
    have HA3 := Lib.hid (HMa.out.next hb3)
    have HC3 := Lib.hid (HMb.out.next hb3)
    have HP3 := Lib.hid hbx
    have cp := hbx.cell 0 rfl
    simp only [ptrV] at cp
    clear hb3 hbx HD2 HS2 HMa HMb hlk hl1 hl2 c0 na hpc hpn hlb
    have hmf : ∀ (fn : Fn) (first cap : Array Value) (w : World), (Instr.makeFunc fn first cap).run Try.prog w = .ok (.func fn first cap) w := fun _ _ _ _ => rfl
    go_wp2_with fail
    refine (alter_mv f a b _ HD3.out ⟨_, _, _, rfl, HA3.out, HP3.out, HC3.out, HLa.out, HLb.out⟩ (fits_mv HD3.out a b f HLb.out HG.out hch hse)).mono ?_
    rintro e w6 ⟨rfl, ⟨cv6, vs6, hd6⟩, hs6⟩
    have HD6 := Lib.hid hd6
    have HS6 := Lib.hid (HS3.out.trans hs6)
    clear hd6 hs6 HD3 HS3 HA3 HC3 HP3 cp
    go_wp2_with fail
    refine (told_any _ _).mono ?_
    rintro e w' ⟨rfl, rfl⟩
    go_wp2_with fail
    go_ret
    exact ⟨rfl, ⟨cv6, vs6, HD6.out⟩, HS6.out⟩
end Go.Proofs.Ytejmbhckfdfoeaa
