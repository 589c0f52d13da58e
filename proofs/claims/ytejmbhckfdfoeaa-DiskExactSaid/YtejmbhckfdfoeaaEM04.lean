/-
  Remove, Rename.
-/
import Derived.WideKeyEntry
import Derived.Test.YtejmbhckfdfoeaaEM03
import Derived.Test.YtejmbhckfdfoeaaEM02
set_option linter.unusedVariables false
set_option linter.unusedSimpArgs false
namespace Go.Proofs.Ytejmbhckfdfoeaa
open Go.RowKit Go.Maps
theorem ldel_mem {l : NM} {x : List UInt8} {q : List UInt8 × Nat} (h : q ∈ ldel l x) : q ∈ l := (List.mem_filter.1 h).1
theorem fits_del {B : Nat} {w : World} {p bs bf : Nat} {cv : Value} {vs : List Value} {s : DSt} (h : DRepr B w p bs bf cv vs s) (x : List UInt8) (h1 : s.chs.length < 1000000) : Fits s (.del x) :=
  ⟨fun q hq => h.in1 q (ldel_mem hq), fun q hq => h.nm1 q (ldel_mem hq), Nat.le_trans (List.length_filter_le _ _) h.many, h1⟩
theorem fits_mv {B : Nat} {w : World} {p bs bf : Nat} {cv : Value} {vs : List Value} {s : DSt} (h : DRepr B w p bs bf cv vs s) (a b : List UInt8) (f : Nat) (hb : b.length ≤ maxLen) (hg : lget s.seen a = some f) (h1 : s.chs.length < 1000000) (h2 : s.seen.length < 1000000) : Fits s (.mv a b f) := by
  refine ⟨fun q hq => ?_, fun q hq => ?_, ?_, h1⟩
  · rcases lput_mem hq with rfl | hq
    · exact h.in1 (a, f) (lget_mem hg)
    · exact h.in1 q (ldel_mem hq)
  · rcases lput_mem hq with rfl | hq
    · exact hb
    · exact h.nm1 q (ldel_mem hq)
  · show (lput (ldel s.seen a) b f).length ≤ _
    have := List.length_filter_le (fun p => !(p.1 == a)) s.seen
    rw [lput_length (h.seen.ris.del a)]
    split
    · exact Nat.le_trans this h.many
    · exact Nat.le_trans (Nat.succ_le_succ this) (by omega)
set_option maxRecDepth 100000 in
set_option maxHeartbeats 4000000 in
theorem remove_ok {B : Nat} {w : World} {p bs bf : Nat} {cv : Value} {vs : List Value} {s : DSt} (x : List UInt8) (f : Nat) (h : DRepr B w p bs bf cv vs s) (hxx : goodNm x = true) (hd : s.dead = false) (hg : lget s.seen x = some f) (hst : s.strokes < 1000000) (hch : s.chs.length < 1000000) :
    Calls Try.prog 20 #[.pointer (some ⟨p, 0, none⟩), .string ⟨x.toArray⟩] w fun e w' => e = .returned (.int .i64 (toldI (offB s))) ∧ (∃ cv' vs', DRepr B w' p bs bf cv' vs' (chgS (strokeS s) (.del x))) ∧ Step B w w' := by
  obtain ⟨W1, hW1⟩ : ∃ W1, W1 = (w.alloc (.cells #[.string ⟨x.toArray⟩] 9)) := ⟨_, rfl⟩
  have hB0 : B ≤ w.heap.size := Nat.le_of_lt h.baseLt
  have hb : Below w.heap.size w W1 := by rw [hW1]; exact (Below.refl _ _).alloc (Nat.le_refl _) _
  have HNx := Lib.hid (show Box W1 (w.heap.size) 9 #[.string ⟨x.toArray⟩] by rw [hW1]; exact Box.new _ _ _)
  have HD1 := Lib.hid (h.next hb hB0)
  have HS1 := Lib.hid (Step.of_below (B := B) hb hB0)
  have hsz1 := hb.size
  have HDD := Lib.hid hd
  have HW1 := Lib.hid hW1
  have Hx := Lib.hid hxx
  have HLx := Lib.hid (show x.length ≤ maxLen by have := (goodNm_len hxx).2; unfold maxLen; omega)
  have nx := HNx.out.cell 0 rfl
  have HG := Lib.hid hg
  clear h hb hd hg hW1 hxx
  have c5 := HD1.out.box.cell 5 rfl
  rw [HW1.out] at nx
  go_enter Try.func20, Try.ntmps20
  go_wp2_with fail
  rw [← HW1.out] at nx ⊢
  refine (diskGood_nm x _ HLx.out).mono ?_
  rintro e w' ⟨rfl, rfl⟩
  rw [Hx.out]
  go_wp2_with fail
  refine (ask_any p s.dead true _ c5).mono ?_
  rintro e w' ⟨rfl, rfl⟩
  rw [HDD.out, show askI false true = 0 from rfl]
  clear c5 HW1 nx
  go_wp2_with fail
  refine (stroke_any HD1.out hst).mono ?_
  rintro e w2 ⟨rfl, hd2, hs2, hz2⟩
  have HD2 := Lib.hid hd2
  have HS2 := Lib.hid (HS1.out.trans hs2)
  have HMx := Lib.hid (HNx.out.step hs2 rfl)
  have nx := HMx.out.cell 0 rfl
  have c0 := hd2.box.cell 0 rfl
  have hsz2 : w.heap.size < w2.heap.size := by rw [hz2]; exact HNx.out.lt
  clear hd2 hs2 hz2 HD1 HNx HS1
  have hlk : ∀ k, (Instr.lookup 62 (.map (some bs)) (.string ⟨x.toArray⟩) false).run Try.prog (w2.drewN k) = .ok (.pointer (some ⟨f, 0, none⟩)) (w2.drewN k) := fun k => by
    have := (HD2.out.seen.block (w' := w2.drewN k) rfl).lookup x HLx.out
    rw [show (strokeS s).seen = s.seen from rfl, HG.out] at this; exact this
  have hl0 := hlk 0
  go_wp2_with fail
  go_cut [22] (fun v wx => v = .bool false ∧ Same w2 wx)
  case first =>
    go_quiet (fail)
    all_goals (go_wp2_with fail; go_meet; exact ⟨rfl, ⟨_, rfl⟩⟩)
  case rest =>
    obtain ⟨rfl, hsm⟩ := hcut
    obtain ⟨w3, rfl⟩ : ∃ w3, w3 = wc := ⟨_, rfl⟩
    have hb3 : Below w2.heap.size w2 w3 := hsm.below _
    have hB2 : B ≤ w2.heap.size := by omega
    have HD3 := Lib.hid (HD2.out.next hb3 hB2)
    have HS3 := Lib.hid (HS2.out.trans (Step.of_below hb3 hB2))
    have HN3 := Lib.hid (HMx.out.next hb3)
    clear hsm hb3 HD2 HS2 HMx hlk hl0 c0 nx
    have hmf : ∀ (fn : Fn) (first cap : Array Value) (w : World), (Instr.makeFunc fn first cap).run Try.prog w = .ok (.func fn first cap) w := fun _ _ _ _ => rfl
    go_wp2_with fail
    refine (alter_del x _ HD3.out ⟨_, rfl, HN3.out, HLx.out⟩ (fits_del HD3.out x hch)).mono ?_
    rintro e w6 ⟨rfl, ⟨cv6, vs6, hd6⟩, hs6⟩
    have HD6 := Lib.hid hd6
    have HS6 := Lib.hid (HS3.out.trans hs6)
    clear hd6 hs6 HD3 HS3 HN3
    go_wp2_with fail
    refine (told_any _ _).mono ?_
    rintro e w' ⟨rfl, rfl⟩
    go_wp2_with fail
    go_ret
    exact ⟨rfl, ⟨cv6, vs6, HD6.out⟩, HS6.out⟩
set_option maxRecDepth 100000 in
set_option maxHeartbeats 4000000 in
theorem remove_no {B : Nat} {w : World} {p bs bf : Nat} {cv : Value} {vs : List Value} {s : DSt} (x : List UInt8) (h : DRepr B w p bs bf cv vs s) (hxx : goodNm x = true) (hd : s.dead = false) (hg : lget s.seen x = none) (hst : s.strokes < 1000000) (hch : s.chs.length < 1000000) :
    Calls Try.prog 20 #[.pointer (some ⟨p, 0, none⟩), .string ⟨x.toArray⟩] w fun e w' => e = .returned (.int .i64 6) ∧ DRepr B w' p bs bf cv vs (strokeS s) ∧ Step B w w' := by
  obtain ⟨W1, hW1⟩ : ∃ W1, W1 = (w.alloc (.cells #[.string ⟨x.toArray⟩] 9)) := ⟨_, rfl⟩
  have hB0 : B ≤ w.heap.size := Nat.le_of_lt h.baseLt
  have hb : Below w.heap.size w W1 := by rw [hW1]; exact (Below.refl _ _).alloc (Nat.le_refl _) _
  have HNx := Lib.hid (show Box W1 (w.heap.size) 9 #[.string ⟨x.toArray⟩] by rw [hW1]; exact Box.new _ _ _)
  have HD1 := Lib.hid (h.next hb hB0)
  have HS1 := Lib.hid (Step.of_below (B := B) hb hB0)
  have hsz1 := hb.size
  have HDD := Lib.hid hd
  have HW1 := Lib.hid hW1
  have Hx := Lib.hid hxx
  have HLx := Lib.hid (show x.length ≤ maxLen by have := (goodNm_len hxx).2; unfold maxLen; omega)
  have nx := HNx.out.cell 0 rfl
  have HG := Lib.hid hg
  clear h hb hd hg hW1 hxx
  have c5 := HD1.out.box.cell 5 rfl
  rw [HW1.out] at nx
  go_enter Try.func20, Try.ntmps20
  go_wp2_with fail
  rw [← HW1.out] at nx ⊢
  refine (diskGood_nm x _ HLx.out).mono ?_
  rintro e w' ⟨rfl, rfl⟩
  rw [Hx.out]
  go_wp2_with fail
  refine (ask_any p s.dead true _ c5).mono ?_
  rintro e w' ⟨rfl, rfl⟩
  rw [HDD.out, show askI false true = 0 from rfl]
  clear c5 HW1 nx
  go_wp2_with fail
  refine (stroke_any HD1.out hst).mono ?_
  rintro e w2 ⟨rfl, hd2, hs2, hz2⟩
  have HD2 := Lib.hid hd2
  have HS2 := Lib.hid (HS1.out.trans hs2)
  have HMx := Lib.hid (HNx.out.step hs2 rfl)
  have nx := HMx.out.cell 0 rfl
  have c0 := hd2.box.cell 0 rfl
  have hsz2 : w.heap.size < w2.heap.size := by rw [hz2]; exact HNx.out.lt
  clear hd2 hs2 hz2 HD1 HNx HS1
  have hlk : ∀ k, (Instr.lookup 62 (.map (some bs)) (.string ⟨x.toArray⟩) false).run Try.prog (w2.drewN k) = .ok (.pointer none) (w2.drewN k) := fun k => by
    have := (HD2.out.seen.block (w' := w2.drewN k) rfl).lookup x HLx.out
    rw [show (strokeS s).seen = s.seen from rfl, HG.out] at this; exact this
  have hl0 := hlk 0
  go_wp2_with fail
  go_cut [22] (fun v wx => v = .bool true ∧ Same w2 wx)
  case first =>
    go_quiet (fail)
    all_goals (go_wp2_with fail; go_meet; exact ⟨rfl, ⟨_, rfl⟩⟩)
  case rest =>
    obtain ⟨rfl, hsm⟩ := hcut
    obtain ⟨w3, rfl⟩ : ∃ w3, w3 = wc := ⟨_, rfl⟩
    have hb3 : Below w2.heap.size w2 w3 := hsm.below _
    have hB2 : B ≤ w2.heap.size := by omega
    have HD3 := Lib.hid (HD2.out.next hb3 hB2)
    have HS3 := Lib.hid (HS2.out.trans (Step.of_below hb3 hB2))
    have HN3 := Lib.hid (HMx.out.next hb3)
    clear hsm hb3 HD2 HS2 HMx hlk hl0 c0 nx
    go_wp2_with fail
    go_ret
    exact ⟨rfl, HD3.out, HS3.out⟩
set_option maxRecDepth 100000 in
set_option maxHeartbeats 4000000 in
theorem rename_ok {B : Nat} {w : World} {p bs bf : Nat} {cv : Value} {vs : List Value} {s : DSt} (a b : List UInt8) (f : Nat) (h : DRepr B w p bs bf cv vs s) (hxa : goodNm a = true) (hxb : goodNm b = true) (hd : s.dead = false) (hg : lget s.seen a = some f) (hst : s.strokes < 1000000) (hch : s.chs.length < 1000000) (hse : s.seen.length < 1000000) :
    Calls Try.prog 17 #[.pointer (some ⟨p, 0, none⟩), .string ⟨a.toArray⟩, .string ⟨b.toArray⟩] w fun e w' => e = .returned (.int .i64 (toldI (offB s))) ∧ (∃ cv' vs', DRepr B w' p bs bf cv' vs' (chgS (strokeS s) (.mv a b f))) ∧ Step B w w' := by
  obtain ⟨W1, hW1⟩ : ∃ W1, W1 = ((w.alloc (.cells #[.string ⟨a.toArray⟩] 9)).alloc (.cells #[.string ⟨b.toArray⟩] 9)) := ⟨_, rfl⟩
  have hB0 : B ≤ w.heap.size := Nat.le_of_lt h.baseLt
  have hb : Below w.heap.size w W1 := by rw [hW1]; exact ((Below.refl _ _).alloc (Nat.le_refl _) _).alloc (by simp) _
  have HNa := Lib.hid (show Box W1 (w.heap.size) 9 #[.string ⟨a.toArray⟩] by rw [hW1]; exact (Box.new _ _ _).next ((Below.refl _ _).alloc (Nat.le_refl _) _))
  have HNb := Lib.hid (show Box W1 (w.heap.size + 1) 9 #[.string ⟨b.toArray⟩] by rw [hW1]; exact Box.new_at (by simp))
  have HD1 := Lib.hid (h.next hb hB0)
  have HS1 := Lib.hid (Step.of_below (B := B) hb hB0)
  have hsz1 := hb.size
  have HDD := Lib.hid hd
  have HW1 := Lib.hid hW1
  have Ha := Lib.hid hxa
  have HLa := Lib.hid (show a.length ≤ maxLen by have := (goodNm_len hxa).2; unfold maxLen; omega)
  have na := HNa.out.cell 0 rfl
  have Hb := Lib.hid hxb
  have HLb := Lib.hid (show b.length ≤ maxLen by have := (goodNm_len hxb).2; unfold maxLen; omega)
  have nb := HNb.out.cell 0 rfl
  have HG := Lib.hid hg
  clear h hb hd hg hW1 hxa hxb
  have c5 := HD1.out.box.cell 5 rfl
  rw [HW1.out] at na nb
  go_enter Try.func17, Try.ntmps17
  go_wp2_with fail
  rw [← HW1.out] at na nb ⊢
  refine (diskGood_nm a _ HLa.out).mono ?_
  rintro e w' ⟨rfl, rfl⟩
  rw [Ha.out]
  go_wp2_with fail
  refine (diskGood_nm b _ HLb.out).mono ?_
  rintro e w' ⟨rfl, rfl⟩
  rw [Hb.out]
  go_wp2_with fail
  refine (ask_any p s.dead true _ c5).mono ?_
  rintro e w' ⟨rfl, rfl⟩
  rw [HDD.out, show askI false true = 0 from rfl]
  clear c5 HW1 na nb
  go_wp2_with fail
  refine (stroke_any HD1.out hst).mono ?_
  rintro e w2 ⟨rfl, hd2, hs2, hz2⟩
  have HD2 := Lib.hid hd2
  have HS2 := Lib.hid (HS1.out.trans hs2)
  have HMa := Lib.hid (HNa.out.step hs2 rfl)
  have na := HMa.out.cell 0 rfl
  have HMb := Lib.hid (HNb.out.step hs2 rfl)
  have nb := HMb.out.cell 0 rfl
  have c0 := hd2.box.cell 0 rfl
  have hsz2 : w.heap.size < w2.heap.size := by rw [hz2]; exact HNa.out.lt
  clear hd2 hs2 hz2 HD1 HNa HNb HS1 nb
  have hlk : ∀ k, (Instr.lookup 62 (.map (some bs)) (.string ⟨a.toArray⟩) false).run Try.prog (w2.drewN k) = .ok (.pointer (some ⟨f, 0, none⟩)) (w2.drewN k) := fun k => by
    have := (HD2.out.seen.block (w' := w2.drewN k) rfl).lookup a HLa.out
    rw [show (strokeS s).seen = s.seen from rfl, HG.out] at this; exact this
  have hl1 : (Instr.lookup 62 (.map (some bs)) (.string ⟨a.toArray⟩) false).run Try.prog w2.drew = .ok (.pointer (some ⟨f, 0, none⟩)) w2.drew := hlk 1
  have hl2 : ∀ o : Obj, (Instr.lookup 62 (.map (some bs)) (.string ⟨a.toArray⟩) false).run Try.prog (w2.alloc o).drew = .ok (.pointer (some ⟨f, 0, none⟩)) (w2.alloc o).drew := fun o => by
    have := (HD2.out.seen.block (w' := (w2.alloc o).drew) (Below.heap_alloc w2 o bs HD2.out.seen.lt)).lookup a HLa.out
    rw [show (strokeS s).seen = s.seen from rfl, HG.out] at this; exact this
  have hpc : w2.cell? ⟨p, 0, none⟩ = some (.map (some bs)) := c0
  have hpn : w2.cell? ⟨w.heap.size, 0, none⟩ = some (.string ⟨a.toArray⟩) := na
  have hp2 : p < w2.heap.size := HD2.out.box.lt
  have hlb : Below w2.heap.size w2 w2.drew := Below.drew (Below.refl _ _)
  go_wp2_with fail
  go_cut [9] (fun v wx => v = .pointer (some ⟨w2.heap.size, 0, none⟩) ∧ Box wx w2.heap.size 66 #[ptrV (some f)] ∧ Below w2.heap.size w2 wx)
  case first =>
    go_region
    all_goals (go_wp2_with fail; go_meet; exact ⟨rfl, (Box.new w2 _ _).same ⟨1, rfl⟩, ((Below.refl _ _).alloc (Nat.le_refl _) _).drew⟩)
  case rest =>
    obtain ⟨rfl, hbx, hb3⟩ := hcut
    obtain ⟨w3, rfl⟩ : ∃ w3, w3 = wc := ⟨_, rfl⟩
    have hB2 : B ≤ w2.heap.size := by omega
    have HD3 := Lib.hid (HD2.out.next hb3 hB2)
    have HS3 := Lib.hid (HS2.out.trans (Step.of_below hb3 hB2))
    have HA3 := Lib.hid (HMa.out.next hb3)
    have HC3 := Lib.hid (HMb.out.next hb3)
    have HP3 := Lib.hid hbx
    have cp := hbx.cell 0 rfl
    simp only [ptrV] at cp
    clear hb3 hbx HD2 HS2 HMa HMb hlk hl1 hl2 c0 na hpc hpn hlb
    have hmf : ∀ (fn : Fn) (first cap : Array Value) (w : World), (Instr.makeFunc fn first cap).run Try.prog w = .ok (.func fn first cap) w := fun _ _ _ _ => rfl
    go_wp2_with fail
    refine (alter_mv f a b _ HD3.out ⟨_, _, _, rfl, HA3.out, HP3.out, HC3.out, HLa.out, HLb.out⟩ (fits_mv HD3.out a b f HLb.out HG.out hch hse)).mono ?_
    rintro e w6 ⟨rfl, ⟨cv6, vs6, hd6⟩, hs6⟩
    have HD6 := Lib.hid hd6
    have HS6 := Lib.hid (HS3.out.trans hs6)
    clear hd6 hs6 HD3 HS3 HA3 HC3 HP3 cp
    go_wp2_with fail
    refine (told_any _ _).mono ?_
    rintro e w' ⟨rfl, rfl⟩
    go_wp2_with fail
    go_ret
    exact ⟨rfl, ⟨cv6, vs6, HD6.out⟩, HS6.out⟩
end Go.Proofs.Ytejmbhckfdfoeaa
/-
  A MAP'S ENTRY taken, then written: the same as a store.
-/
set_option linter.unusedVariables false
set_option linter.unusedSimpArgs false
namespace Go.Proofs.Ytejmbhckfdfoeaa
open Go.RowKit Go.Maps Go.ChangeMaps
theorem MapRep.entry {w : World} {b : Nat} {l : NM} (h : MapRep w b l) (x : List UInt8) (hx : x.length ≤ maxLen) (f : Nat) (hl : l.length < maxLen) :
    ∃ (v0 : Value) (st : Nat) (w1 w2 : World), (Instr.mapEntry 62 (.map (some b)) (.string ⟨x.toArray⟩)).run Try.prog w = .ok (.tuple #[v0, .int .i64 st]) w1 ∧
      (Instr.entryStore 62 (.map (some b)) (.int .i64 st) (.pointer (some ⟨f, 0, none⟩))).run Try.prog w1 = .ok () w2 ∧ MapRep w2 b (lput l x f) ∧ w.grownBy w1 (some b) ∧ w.grownBy w2 (some b) := by
  obtain ⟨w', hrun, hm', hg'⟩ := h.update x hx f hl
  obtain ⟨D, ⟨es, clock, hb, F, hs, rfl⟩, hD⟩ := h.ex
  obtain ⟨v0, st, es1, clock1, h1, _, h2⟩ := WideElems.entry_then_store (WideMaps.string_law Try.underlying9) Try.underlying62 (z := .pointer none) zero_ptr hb F (keyOf_nm x hx)
  have hb1 : (setBlock w b (.map es1 clock1)).heap[b]? = some (.map es1 clock1) := heap_setBlock_same hb _
  obtain ⟨es', clock', h3, h4⟩ := h2 (setBlock w b (.map es1 clock1)) (.pointer (some ⟨f, 0, none⟩)) hb1
  have e' : setBlock w b (.map es' clock') = w' := by
    have : (Instr.mapUpdate 62 (.map (some b)) (.string ⟨x.toArray⟩) (ptrV (some f))).run Try.prog w = .ok () (setBlock w b (.map es' clock')) := h4
    rw [hrun] at this
    simp at this
    exact this.symm
  have hgr : ∀ (u : World) (o : Obj), u.grownBy (setBlock u b o) (some b) := fun u o => ⟨rfl, rfl, rfl, by simp [setBlock], fun i _ hi => by simp only [setBlock]; rw [Array.getElem?_setIfInBounds_ne (fun e => hi (by rw [e]))]⟩
  refine ⟨v0, st, _, _, h1, h3, ?_, hgr _ _, grown_trans' (hgr _ _) (hgr _ _)⟩
  refine hm'.block ?_
  rw [heap_setBlock_same hb1, ← e', heap_setBlock_same hb]
end Go.Proofs.Ytejmbhckfdfoeaa
/-
  New: a disk with files that are safe.
-/
set_option linter.unusedVariables false
set_option linter.unusedSimpArgs false
namespace Go.Proofs.Ytejmbhckfdfoeaa
open Go.RowKit Go.Maps
theorem DRepr.mappedSafe {B : Nat} {w w' : World} {p bs bf : Nat} {cv : Value} {vs : List Value} {s : DSt} (h : DRepr B w p bs bf cv vs s) {l : NM} (hm : MapRep w' bf l) (hg : w.grownBy w' (some bf)) (hin : ∀ q ∈ l, q.2 ∈ s.ids) :
    DRepr B w' p bs bf cv vs { s with safe := l } ∧ Step B w w' := by
  obtain ⟨es, c, hh⟩ := h.safe.isMap
  have hst : Step B w w' := Step.of_grown hg hh rfl h.hf
  have hk : ∀ k, k < w.heap.size → k ≠ bf → w'.heap[k]? = w.heap[k]? := fun k hk hne => hg.block k hk (fun e => hne (by cases e; rfl))
  refine ⟨⟨box_grown h.box h.safe hg, h.seen.block (hk bs h.seen.lt h.ne), hm, h.ne, ?_, fun i c hi => let ⟨v, h1, h2⟩ := h.chs i c hi; ⟨v, h1, h2.step hst⟩, fun f hf => ?_, h.in1, hin, h.nm1, h.hp, h.hs, h.hf, h.strk, h.offb, h.chl, h.many⟩, hst⟩
  · refine ⟨h.row.1, ?_⟩
    rcases h.row.2 with hn | ⟨g, cap, cur, rfl, hb, hgg, rest⟩
    · exact .inl hn
    · exact .inr ⟨g, cap, cur, rfl, hb, by
        rw [hk g (Array.getElem?_eq_some_iff.1 hgg).1 fun e => by
          subst e
          rw [hh] at hgg
          cases hgg]
        exact hgg, rest⟩
  · obtain ⟨⟨vb, vs'', h1, h2, h3⟩, h4⟩ := h.files f hf
    exact ⟨⟨vb, vs'', box_grown h1 h.safe hg, h2.step hst, h3.step hst⟩, h4⟩
theorem lput_last {l : NM} {x : List UInt8} {i : Nat} (h : ∀ p ∈ l, p.1 < x) : lput l x i = l ++ [(x, i)] := by
  have hd : ldel l x = l := List.filter_eq_self.2 fun p hp => by
    have : p.1 ≠ x := fun e => nm_irr x (e ▸ h p hp)
    simpa using this
  rw [lput, hd]
  clear hd
  induction l with
  | nil => rfl
  | cons q r ih =>
    rw [lins, if_pos (h q (List.mem_cons_self ..)), ih fun p hp => h p (List.mem_cons_of_mem _ hp)]
    rfl
/-- the names that are seen lead to these files, all safe -/
structure SeenIs (s : DSt) (l : List FileD) : Prop where
  seen : s.seen.map (fun q => (q.1, s.by_ q.2)) = l.map (fun f => (f.nm, f.da))
  sf : ∀ q ∈ s.seen, s.sf q.2 = s.by_ q.2
  safe : s.safe = s.seen
  chs : s.chs = []
  strokes : s.strokes = 0
  dead : s.dead = false
  nd : (s.seen.map (·.2)).Nodup
theorem SeenIs.names {s : DSt} {l : List FileD} (h : SeenIs s l) : s.seen.map (·.1) = l.map (·.nm) := by
  have := congrArg (List.map Prod.fst) h.seen
  simpa [Function.comp_def] using this
theorem SeenIs.length {s : DSt} {l : List FileD} (h : SeenIs s l) : s.seen.length = l.length := by
  have := congrArg List.length h.names
  simpa using this
def enterS (s : DSt) (x : List UInt8) (f : Nat) (xs : List Int) : DSt := { addS s f xs xs with seen := lput s.seen x f, safe := lput s.safe x f }
theorem SeenIs.enter {s : DSt} {l : List FileD} (h : SeenIs s l) (g : FileD) (f : Nat) (hn : ∀ q ∈ s.seen, q.2 ≠ f) (hlt : ∀ q ∈ s.seen, q.1 < g.nm) : SeenIs (enterS s g.nm f g.da) (l ++ [g]) := by
  have e1 : lput s.seen g.nm f = s.seen ++ [(g.nm, f)] := lput_last hlt
  have e2 : ∀ q ∈ s.seen, updF s.by_ f g.da q.2 = s.by_ q.2 := fun q hq => by simp [updF, hn q hq]
  refine ⟨?_, fun q hq => ?_, ?_, h.chs, h.strokes, h.dead, ?_⟩
  · show (lput s.seen g.nm f).map (fun q => (q.1, updF s.by_ f g.da q.2)) = _
    rw [e1, List.map_append, List.map_append, ← h.seen]
    congr 1
    · exact List.map_congr_left fun q hq => by rw [e2 q hq]
    · simp [updF]
  · have hq' : q ∈ s.seen ++ [(g.nm, f)] := by rw [← e1]; exact hq
    rcases List.mem_append.1 hq' with hq' | hq'
    · show updF s.sf f g.da q.2 = updF s.by_ f g.da q.2
      simp only [updF, if_neg (hn q hq')]
      exact h.sf q hq'
    · show updF s.sf f g.da q.2 = updF s.by_ f g.da q.2
      simp only [List.mem_singleton] at hq'
      subst hq'
      simp [updF]
  · show lput s.safe g.nm f = lput s.seen g.nm f
    rw [h.safe]
  · show ((lput s.seen g.nm f).map (·.2)).Nodup
    rw [e1, List.map_append, List.nodup_append]
    refine ⟨h.nd, List.nodup_cons.2 ⟨nofun, List.nodup_nil⟩, fun a ha b hb e => ?_⟩
    rw [List.map_cons, List.map_nil, List.mem_singleton] at hb
    obtain ⟨q, hq, rfl⟩ := List.mem_map.1 ha
    exact hn q hq (e.trans hb)
theorem okTo_at {fs : List FileD} {n k : Nat} (h : okTo fs n = true) (hk : k < n) : okAt fs k = true := List.all_eq_true.1 h k (List.mem_range.2 hk)
theorem okTo_lt {fs : List FileD} {n k : Nat} (h : okTo fs n = true) (hk : k < n) : ∀ j, j < k → (fnth fs j).nm < (fnth fs k).nm := by
  induction k with
  | zero => intro j hj; omega
  | succ k ih =>
    intro j hj
    have hs : (fnth fs k).nm < (fnth fs (k + 1)).nm := by
      have := okTo_at h hk
      simp only [okAt, Bool.and_eq_true, Bool.or_eq_true, decide_eq_true_eq] at this
      rcases this.2.2 with h0 | h0
      · omega
      · rw [bytesLess_eq, decide_eq_true_eq] at h0
        exact h0
    rcases Nat.lt_or_ge j k with hjk | hjk
    · exact nm_trans (ih (by omega) j hjk) hs
    · have : j = k := by omega
      subst this
      exact hs
theorem take_fnth (fs : List FileD) (k : Nat) (h : k < fs.length) : fs.take (k + 1) = fs.take k ++ [fnth fs k] := by
  rw [List.take_succ_eq_append_getElem h, fnth, List.getD_eq_getElem?_getD, List.getElem?_eq_getElem h]; rfl
theorem SeenIs.below_next {s : DSt} {fs : List FileD} {n k : Nat} (h : SeenIs s (fs.take k)) (hok : okTo fs n = true) (hkn : k < n) (hk : k < fs.length) : ∀ q ∈ s.seen, q.1 < (fnth fs k).nm := by
  intro q hq
  have : q.1 ∈ (fs.take k).map (·.nm) := by rw [← h.names]; exact List.mem_map.2 ⟨q, hq, rfl⟩
  obtain ⟨g, hg, he⟩ := List.mem_map.1 this
  obtain ⟨j, hj, rfl⟩ := List.mem_take_iff_getElem.1 hg
  rw [← he]
  have hj' : j < k := by omega
  have := okTo_lt hok hkn j hj'
  rwa [fnth, List.getD_eq_getElem?_getD, List.getElem?_eq_getElem (by omega)] at this
def newS (off : Int) : DSt := ⟨[], [], [], 0, off, false, fun _ => [], fun _ => [], []⟩
end Go.Proofs.Ytejmbhckfdfoeaa
/-
  THE REFERENCE'S entries: rows of (name, file); `without`.
-/
set_option linter.unusedVariables false
set_option linter.unusedSimpArgs false
namespace Go.Proofs.Ytejmbhckfdfoeaa
open Go.RowKit Go.Maps
theorem info_entry : (Try.prog.info? 89).map (fun i => (i.zero, i.size, i.bytes)) = some (some (.agg #[.string ⟨#[]⟩, .pointer none]), 2, 24) := by kernel_rfl
def ecells (l : NM) : List Value := l.flatMap fun p => [encStr p.1, ptrV (some p.2)]
theorem ecells_length (l : NM) : (ecells l).length = l.length * 2 := by
  induction l with
  | nil => rfl
  | cons p l ih => rw [show ecells (p :: l) = encStr p.1 :: ptrV (some p.2) :: ecells l from rfl, List.length_cons, List.length_cons, ih, List.length_cons]; omega
theorem ecells_at (l : NM) : ∀ (i : Nat) (h : i < l.length), (ecells l)[i * 2]? = some (encStr l[i].1) ∧ (ecells l)[i * 2 + 1]? = some (ptrV (some l[i].2)) := by
  induction l with
  | nil => intro i h; simp at h
  | cons p l ih =>
    intro i h
    rw [show ecells (p :: l) = encStr p.1 :: ptrV (some p.2) :: ecells l from rfl]
    cases i with
    | zero => simp
    | succ i =>
      have := ih i (by simpa using h)
      rw [show (i + 1) * 2 = i * 2 + 1 + 1 by omega]
      simpa using this
theorem ecells_append (l m : NM) : ecells (l ++ m) = ecells l ++ ecells m := by simp [ecells]
def enth (l : NM) (i : Nat) : List UInt8 × Nat := l.getD i ([], 0)
theorem enth_eq (l : NM) (i : Nat) (h : i < l.length) : enth l i = l[i] := by rw [enth, List.getD_eq_getElem?_getD, List.getElem?_eq_getElem h]; rfl
theorem take_enth (l : NM) (k : Nat) (h : k < l.length) : l.take (k + 1) = l.take k ++ [enth l k] := by rw [List.take_succ_eq_append_getElem h, enth_eq l k h]
/-- the slice value v reads as these entries -/
def EntRd (w : World) (v : Value) (l : NM) : Prop :=
  ∃ o cap, v = .slice o l.length cap ∧ l.length ≤ cap ∧ cap ≤ 9223372036854775807 ∧ ∀ i, i < l.length → ∃ b off, o = some ⟨b, off, none⟩ ∧ w.cell? ⟨b, off + i * 2, none⟩ = some (encStr (enth l i).1) ∧ w.cell? ⟨b, off + i * 2 + 1, none⟩ = some (ptrV (some (enth l i).2)) ∧ (enth l i).1.length ≤ maxLen
theorem EntRd.below {w w' : World} {v : Value} {l : NM} {B : Nat} (h : EntRd w v l) (hB : Below B w w') (hs : w.heap.size ≤ B) : EntRd w' v l := by
  obtain ⟨o, cap, rfl, h1, h2, hc⟩ := h
  refine ⟨o, cap, rfl, h1, h2, fun i hi => ?_⟩
  obtain ⟨b, off, rfl, c0, c1, h3⟩ := hc i hi
  exact ⟨b, off, rfl, (hB.cell (p := ⟨b, off + i * 2, none⟩) (Nat.lt_of_lt_of_le (cell_lt c0) hs)).trans c0, (hB.cell (p := ⟨b, off + i * 2 + 1, none⟩) (Nat.lt_of_lt_of_le (cell_lt c1) hs)).trans c1, h3⟩
/-- a row of entries of the call's own -/
abbrev EOwn (w : World) (B : Nat) (v : Value) (l : NM) : Prop := w.ownsRow B 89 2 v l.length (ecells l)
theorem EOwn.rd {w : World} {B : Nat} {v : Value} {l : NM} (h : EOwn w B v l) (hn : ∀ p ∈ l, p.1.length ≤ maxLen) : EntRd w v l := by
  rcases h.2 with ⟨rfl, h0⟩ | ⟨g, cap, cur, rfl, hb, hgg, h1, h2, h3, ht⟩
  · have : l = [] := List.eq_nil_of_length_eq_zero h0
    subst this
    exact ⟨none, 0, rfl, Nat.le_refl _, by omega, fun i hi => by simp at hi⟩
  · refine ⟨some ⟨g, 0, none⟩, cap, rfl, h1, by unfold maxLen at h2; omega, fun i hi => ?_⟩
    obtain ⟨a0, a1⟩ := ecells_at l i hi
    have key : ∀ (j : Nat) (u : Value), (ecells l)[j]? = some u → w.cell? ⟨g, 0 + j, none⟩ = some u := fun j u hj => by
      rw [Nat.zero_add, cell_of_row w g j cur _ (0, 0) hgg]
      rw [← ht, List.getElem?_take] at hj
      split at hj
      · simpa using hj
      · cases hj
    rw [enth_eq l i hi]
    exact ⟨g, 0, rfl, key _ _ a0, by rw [Nat.add_assoc]; exact key _ _ a1, hn _ (List.getElem_mem hi)⟩
theorem EOwn.snoc {w' : World} {B : Nat} {v' : Value} {l : NM} {p : List UInt8 × Nat} (h : w'.ownsRow B 89 2 v' (l.length + 1) (ecells l ++ [encStr p.1, ptrV (some p.2)])) : EOwn w' B v' (l ++ [p]) := by
  show w'.ownsRow B _ 2 v' (l ++ [p]).length (ecells (l ++ [p]))
  rw [ecells_append, List.length_append]
  exact h
theorem filter_take_succ (l : NM) (f : List UInt8 × Nat → Bool) (k : Nat) (h : k < l.length) : (l.take (k + 1)).filter f = (l.take k).filter f ++ (if f (enth l k) then [enth l k] else []) := by
  rw [take_enth l k h, List.filter_append]
  congr 1
  simp [List.filter_cons]
set_option maxRecDepth 100000 in
set_option maxHeartbeats 2000000 in
theorem without_any (v : Value) (l : NM) (x : List UInt8) (w : World) (hr : EntRd w v l) (hl : l.length ≤ 1000000) :
    Calls Try.prog 72 #[v, .string ⟨x.toArray⟩] w fun e w' => (∃ v', e = .returned v' ∧ EOwn w' w.heap.size v' (ldel l x)) ∧ Below w.heap.size w w' := by
  obtain ⟨o, cap, rfl, _, _, hc⟩ := hr
  obtain ⟨i0, hi, hz0, hz1, hz2⟩ := info_parts info_entry
  have HC := Lib.hid hc
  clear hc
  go_enter Try.func72, Try.ntmps72
  go_wp2_with fail
  go_loopg [5, 6] l.length (fun g v i wr => ∃ k : Nat, g = l.length - k ∧ k ≤ l.length ∧ i = .int .i64 k ∧ EOwn wr w.heap.size v (ldel (l.take k) x) ∧ Below w.heap.size w wr)
  case atStart => exact ⟨0, rfl, Nat.zero_le _, rfl, World.ownsRow_nil _ _ _ _, Below.refl _ _⟩
  case round =>
    obtain ⟨k, hg, hk, rfl, ho, hB⟩ := hrel
    obtain ⟨w2, rfl⟩ : ∃ w2, w2 = wr := ⟨_, rfl⟩
    have HO := Lib.hid ho
    have HB := Lib.hid hB
    obtain ⟨a0, cap0, rfl⟩ := own_slice ho
    have hsz := hB.size
    by_cases hlt : k < l.length
    · obtain ⟨b, off, rfl, c0', c1', hnl⟩ := HC.out k hlt
      have c0 := (hB.cell (p := ⟨b, off + k * 2, none⟩) (cell_lt c0')).trans c0'
      have c1 := (hB.cell (p := ⟨b, off + k * 2 + 1, none⟩) (cell_lt c1')).trans c1'
      have hfs := filter_take_succ l (fun p => !(p.1 == x)) k hlt
      have hdl : (ldel (l.take k) x).length ≤ 1000000 := Nat.le_trans (List.length_filter_le _ _) (by simp; omega)
      obtain ⟨q, hq⟩ : ∃ q, q = enth l k := ⟨_, rfl⟩
      rw [← hq] at c0 c1 hfs
      obtain ⟨nm, f⟩ := q
      simp only at c0 c1
      simp only [ptrV] at c1
      simp only [encStr] at c0
      have HFS := Lib.hid hfs
      clear c0' c1' hnl hq hfs ho hB
      generalize hd0 : ldel (l.take k) x = d0 at HO hdl ⊢
      have HD0 := Lib.hid hd0
      clear hd0
      cases hne : (nm == x) with
      | true =>
        go_wp2_with fail
        clear c0 c1
        have HNE := Lib.hid hne
        clear hne
        go_roundg (l.length - (k + 1))
        case measure => omega
        case rel => exact ⟨k + 1, rfl, hlt, by go_num, by show EOwn w2 w.heap.size _ ((l.take (k + 1)).filter fun p => !(p.1 == x)); rw [HFS.out]; simp only [HNE.out]; rw [show (l.take k).filter (fun p => !(p.1 == x)) = d0 from HD0.out]; simpa using HO.out, HB.out⟩
      | false =>
        go_wp2_with (at_builtin; refine stopHere ?_)
        refine goOn ?_
        have HNE := Lib.hid hne
        clear hne
        refine wpList_append_own _ rfl _ _ 81 rfl w.heap.size 89 i0 (.agg #[.string ⟨#[]⟩, .pointer none]) 2 24 Try.underlying81 hi hz0 hz1 hz2 rfl (by decide) _ _ _ rfl (own_below HO.out ((Below.refl _ _).alloc (Nat.le_refl _) _) (Nat.le_refl _)) ⟨w2.heap.size, 0, none⟩ 1 1 [.string ⟨nm.toArray⟩, .pointer (some ⟨f, 0, none⟩)] rfl rfl (cells_new w2 _ _ _) (by simp [Value.oneCell']) (by unfold maxLen; omega) (by omega) (by simp; omega) ?_
        intro v' w1 hown' hgrow _
        have HN := Lib.hid (EOwn.snoc (p := (nm, f)) hown')
        have HBN := Lib.hid ((HB.out.alloc hsz _).grown hgrow (by simp; omega) (fun k e => (HO.out.lt k e).1))
        clear hown' hgrow c0 c1
        go_wp2_with fail
        go_roundg (l.length - (k + 1))
        case measure => omega
        case rel => exact ⟨k + 1, rfl, hlt, by go_num, by show EOwn w1 w.heap.size _ ((l.take (k + 1)).filter fun p => !(p.1 == x)); rw [HFS.out]; simp only [HNE.out]; rw [show (l.take k).filter (fun p => !(p.1 == x)) = d0 from HD0.out]; simpa using HN.out, HBN.out⟩
    · have hke : k = l.length := by omega
      subst hke
      clear ho hB
      go_wp2_with fail
      go_ret
      exact ⟨⟨_, rfl, by have h := HO.out; simp only [List.take_length] at h ⊢; exact h⟩, HB.out⟩
end Go.Proofs.Ytejmbhckfdfoeaa
/-
  THE REFERENCE'S `made`: a change made on a list of names.
-/
set_option linter.unusedVariables false
set_option linter.unusedSimpArgs false
namespace Go.Proofs.Ytejmbhckfdfoeaa
open Go.RowKit Go.Maps
theorem ecells_one (l : NM) : ∀ u ∈ ecells l, u.oneCell' = true := fun u hu => by
  obtain ⟨p, hp, h⟩ := List.mem_flatMap.1 hu
  simp at h
  rcases h with rfl | rfl
  · rfl
  · rfl
theorem run_append_ent {P : Program} (w : World) (t ty : TypeId) (B : Nat) (i : TypeInfo) (z : Value) (ht : P.underlying t = some (.slice 89)) (hi : P.info? 89 = some i) (hz : i.zero = some z) (hsize : i.size = 2) (hby : i.bytes = 24) (hzs : z.cells.size = 2)
    (v : Value) (xs : NM) (hown : EOwn w B v xs) (u : Value) (ys : NM) (hr : EntRd w u ys) (hl : xs.length + ys.length ≤ 1000000) (hbase : B ≤ w.heap.size) :
    ∃ v' w', (Builtin.append_ #[t, t] ty #[v, u]).run P w = .ok v' w' ∧ EOwn w' B v' (xs ++ ys) ∧ w.grownBy w' v.ownBlock := by
  obtain ⟨o, c, rfl, _, _, hc⟩ := hr
  by_cases h0 : ys.length = 0
  · have : ys = [] := List.eq_nil_of_length_eq_zero h0
    subst this
    obtain ⟨ov, cap, rfl, hle⟩ := own_caps hown
    refine ⟨_, w, run_append_empty w t ty _ i ht hi _ _ _ _ _ hle, ?_, ⟨rfl, rfl, rfl, Nat.le_refl _, fun _ _ _ => rfl⟩⟩
    rw [List.append_nil]; exact hown
  · obtain ⟨b, off, rfl, _⟩ := hc 0 (by omega)
    obtain ⟨v', w', hrun, h2, h3, _, _⟩ := run_append_own_at (P := P) w B t ty _ i z 2 24 ht hi hz hsize hby hzs (by decide) v xs.length _ hown ⟨b, off, none⟩ ys.length c (ecells ys) (ecells_length ys) (fun j x hj => by
        have hjl : j < ys.length * 2 := by have := (List.getElem?_eq_some_iff.1 hj).1; rwa [ecells_length] at this
        obtain ⟨b', off', he, h0', h1', _⟩ := hc (j / 2) (by omega)
        cases he
        obtain ⟨a0, a1⟩ := ecells_at ys (j / 2) (by omega)
        rw [enth_eq ys (j / 2) (by omega)] at h0' h1'
        rw [Addr.add_lit]
        rcases Nat.mod_two_eq_zero_or_one j with hm | hm
        · have hj2 : j / 2 * 2 = j := by omega
          rw [hj2] at h0' a0
          rw [hj] at a0
          rw [h0', Option.some.inj a0]
        · have hj2 : j / 2 * 2 + 1 = j := by omega
          rw [show off + j / 2 * 2 + 1 = off + (j / 2 * 2 + 1) by omega, hj2] at h1'
          rw [hj2] at a1
          rw [hj] at a1
          rw [h1', Option.some.inj a1]) (ecells_one ys) (by unfold maxLen; omega) (by omega) hbase
    refine ⟨v', w', hrun, ?_, h3⟩
    show w'.ownsRow B _ 2 v' (xs ++ ys).length (ecells (xs ++ ys))
    rw [ecells_append, List.length_append]
    exact h2
theorem wpList_append_ent {P : Program} {ops : Array Oper} {rest : List Oper} {o : Oper} {a : Act} {w : World} {Q : Exit → Act → World → Prop} (hgd : o.guard = none) (s x : Operand) (t : TypeId)
    (ho : o.op = .call { callee := .builtin .append, args := #[s, x], argTypes := #[t, t] })
    (B : Nat) (i : TypeInfo) (z : Value) (ht : P.underlying t = some (.slice 89)) (hi : P.info? 89 = some i) (hz : i.zero = some z) (hsize : i.size = 2) (hby : i.bytes = 24) (hzs : z.cells.size = 2)
    (v : Value) (xs : NM) (hs : a.eval s = v) (hown : EOwn w B v xs) (u : Value) (ys : NM) (hx : a.eval x = u) (hr : EntRd w u ys) (hl : xs.length + ys.length ≤ 1000000) (hbase : B ≤ w.heap.size)
    (h : ∀ v' w', EOwn w' B v' (xs ++ ys) → w.grownBy w' v.ownBlock → wpList P ops Q rest (a.put o.dst v') w') :
    wpList P ops Q (o :: rest) a w := by
  refine wpList_plain hgd fun K' hK => ?_
  obtain ⟨v', w', hrun, h2, h3⟩ := run_append_ent (P := P) w t o.type B i z ht hi hz hsize hby hzs v xs hown u ys hr hl hbase
  unfold Oper.wp execOp
  simp only [ho, resolve, invoke, builtin, Sem.run_bind, Sem.run_pure, Result.andThen_ok, List.map_toArray, List.map_cons, List.map_nil, hs, hx, hrun]
  exact hK _ _ (h v' w' h2 h3)
theorem EntRd.one {w : World} {nm : List UInt8} {f : Nat} (hn : nm.length ≤ maxLen) : EntRd (w.alloc (.cells #[encStr nm, ptrV (some f)] 89)) (.slice (some ⟨w.heap.size, 0, none⟩) 1 1) [(nm, f)] := by
  refine ⟨_, 1, rfl, Nat.le_refl _, by omega, fun i hi => ?_⟩
  have : i = 0 := by simp at hi; omega
  subst this
  have hb := Box.new w 89 #[encStr nm, ptrV (some f)]
  exact ⟨w.heap.size, 0, rfl, hb.cell 0 rfl, hb.cell 1 rfl, hn⟩
theorem EntRd.drop {w : World} {o : Option Addr} {cap : Nat} {l : NM} (h : EntRd w (.slice o l.length cap) l) (k : Nat) (hk : k ≤ l.length) : EntRd w (.slice (if cap = k then o else o.map fun a => a.add (k * 2)) (l.length - k) (cap - k)) (l.drop k) := by
  obtain ⟨o', cap', he, h1, h2, hc⟩ := h
  simp at he
  obtain ⟨rfl, rfl⟩ := he
  refine ⟨_, _, by rw [List.length_drop], by rw [List.length_drop]; omega, by omega, fun i hi => ?_⟩
  rw [List.length_drop] at hi
  obtain ⟨b, off, rfl, c0, c1, hn⟩ := hc (k + i) (by omega)
  have e : enth (l.drop k) i = enth l (k + i) := by rw [enth_eq _ _ (by rw [List.length_drop]; omega), enth_eq _ _ (by omega), List.getElem_drop]
  rw [if_neg (by omega), e]
  exact ⟨b, off + k * 2, by simp [Addr.add_lit], by rw [show off + k * 2 + i * 2 = off + (k + i) * 2 by omega]; exact c0, by rw [show off + k * 2 + i * 2 + 1 = off + (k + i) * 2 + 1 by omega]; exact c1, hn⟩
def madeM (m : NM) (x : List UInt8) : Option Nat → NM
  | none => m
  | some f => lins x f m
def madeL (l : NM) (x : List UInt8) (fo : Option Nat) (g : List UInt8) : NM := madeM (ldel (ldel l x) g) x fo
theorem lins_at (x : List UInt8) (f : Nat) : ∀ (l : NM) (k : Nat), k ≤ l.length → (∀ i, i < k → (enth l i).1 < x) → (k < l.length → ¬ (enth l k).1 < x) → lins x f l = l.take k ++ [(x, f)] ++ l.drop k
  | [], k, hk, _, _ => by
    have : k = 0 := by simpa using hk
    subst this
    rfl
  | p :: r, k, hk, h1, h2 => by
    cases k with
    | zero =>
      have := h2 (by simp)
      rw [enth_eq _ _ (by simp)] at this
      unfold lins
      rw [if_neg (by simpa using this)]
      rfl
    | succ k =>
      have h0 := h1 0 (by omega)
      rw [enth_eq _ _ (by simp)] at h0
      unfold lins
      rw [if_pos (by simpa using h0), lins_at x f r k (by simpa using hk) (fun i hi => by
        have := h1 (i + 1) (by omega)
        rw [enth_eq _ _ (by simp at hk ⊢; omega)] at this
        rw [enth_eq _ _ (by simp at hk; omega)]
        simpa using this) (fun hlt => by
        have := h2 (by simpa using hlt)
        rw [enth_eq _ _ (by simpa using hlt)] at this
        rw [enth_eq _ _ hlt]
        simpa using this)]
      simp
theorem ldel_len (l : NM) (x : List UInt8) : (ldel l x).length ≤ l.length := List.length_filter_le _ _
end Go.Proofs.Ytejmbhckfdfoeaa
