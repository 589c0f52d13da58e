/-
  Write.
-/
import Derived.Test.YtejmbhckfdfoeaaDAlt
import Derived.Deep.DeepCutAuto
set_option linter.unusedVariables false
set_option linter.unusedSimpArgs false
namespace Go.Proofs.Ytejmbhckfdfoeaa
open Go.RowKit Go.Maps
theorem Box.new_at {w : World} {B : Nat} {T : TypeId} {cs : Array Value} (h : w.heap.size = B) : Box (w.alloc (.cells cs T)) B T cs := by
  subst h
  exact Box.new w T cs
theorem goodNm_len {x : List UInt8} (h : goodNm x = true) : 1 ≤ x.length ∧ x.length ≤ 32 := by
  rw [goodNm, Bool.and_eq_true, Bool.and_eq_true, decide_eq_true_eq, decide_eq_true_eq] at h
  exact h.2
def updF (g : Nat → List Int) (f : Nat) (xs : List Int) : Nat → List Int := fun k => if k = f then xs else g k
def addS (s : DSt) (f : Nat) (xs ys : List Int) : DSt := { s with ids := f :: s.ids, by_ := updF s.by_ f xs, sf := updF s.sf f ys }
theorem DRepr.idLt {B : Nat} {w : World} {p bs bf : Nat} {cv : Value} {vs : List Value} {s : DSt} (h : DRepr B w p bs bf cv vs s) {f : Nat} (hf : f ∈ s.ids) : f < w.heap.size := by
  obtain ⟨⟨vb, vs', h1, _⟩, _⟩ := h.files f hf
  exact h1.lt
theorem DRepr.add {B : Nat} {w : World} {p bs bf : Nat} {cv : Value} {vs : List Value} {s : DSt} (h : DRepr B w p bs bf cv vs s) {f : Nat} {xs ys : List Int} (hf : FileRep B w f xs ys) (hn : f ∉ s.ids) : DRepr B w p bs bf cv vs (addS s f xs ys) := by
  refine ⟨h.box, h.seen, h.safe, h.ne, h.row, h.chs, fun g hg => ?_, fun q hq => List.mem_cons_of_mem _ (h.in1 q hq), fun q hq => List.mem_cons_of_mem _ (h.in2 q hq), h.nm1, h.hp, h.hs, h.hf, h.strk, h.offb, h.chl, h.many⟩
  by_cases e : g = f
  · subst e
    simp only [addS, updF, if_true]
    exact hf
  · simp only [addS, updF, if_neg e]
    exact h.files g ((List.mem_cons.1 hg).resolve_left e)
theorem lput_mem {l : NM} {x : List UInt8} {i : Nat} {q : List UInt8 × Nat} (h : q ∈ lput l x i) : q = (x, i) ∨ q ∈ l := by
  rcases lins_mem.1 h with h | h
  · exact .inl h
  · exact .inr (List.mem_filter.1 h).1
def writeS (s : DSt) (x : List UInt8) (f : Nat) (xs : List Int) : DSt := chgS (addS s f xs []) (.put x f)
theorem fits_put {B : Nat} {w : World} {p bs bf : Nat} {cv : Value} {vs : List Value} {s : DSt} (h : DRepr B w p bs bf cv vs s) (x : List UInt8) (f : Nat) (xs : List Int) (hx : x.length ≤ maxLen) (h1 : s.chs.length < 1000000) (h2 : s.seen.length < 1000000) : Fits (addS s f xs []) (.put x f) := by
  refine ⟨fun q hq => ?_, fun q hq => ?_, ?_, h1⟩
  · rcases lput_mem hq with rfl | hq
    · exact List.mem_cons_self ..
    · exact List.mem_cons_of_mem _ (h.in1 q hq)
  · rcases lput_mem hq with rfl | hq
    · exact hx
    · exact h.nm1 q hq
  · show (lput s.seen x f).length ≤ _
    rw [lput_length h.seen.ris]
    split <;> omega
set_option maxRecDepth 100000 in
set_option maxHeartbeats 4000000 in
theorem write_ok {B : Nat} {w : World} {p bs bf : Nat} {cv : Value} {vs : List Value} {s : DSt} (x : List UInt8) (v : Value) (xs : List Int) (h : DRepr B w p bs bf cv vs s) (hx : goodNm x = true) (hr : BytesRep 0 w v xs)
    (hd : s.dead = false) (hfull : ¬ (lget s.seen x = none ∧ s.seen.length = 16)) (hst : s.strokes < 1000000) (hch : s.chs.length < 1000000) (hse : s.seen.length < 1000000) :
    Calls Try.prog 13 #[.pointer (some ⟨p, 0, none⟩), .string ⟨x.toArray⟩, v] w fun e w' => e = .returned (.int .i64 (toldI (offB s))) ∧ (∃ f cv' vs', DRepr B w' p bs bf cv' vs' (writeS (strokeS s) x f xs) ∧ w.heap.size ≤ f) ∧ Step B w w' := by
  obtain ⟨o, cap, rfl⟩ := rd_slice hr.rd
  have hxl := hr.len
  obtain ⟨W1, hW1⟩ : ∃ W1, W1 = w.alloc (.cells #[.string ⟨x.toArray⟩] 9) := ⟨_, rfl⟩
  have hB0 : B ≤ w.heap.size := Nat.le_of_lt h.baseLt
  have hb : Below w.heap.size w W1 := by rw [hW1]; exact (Below.refl _ _).alloc (Nat.le_refl _) _
  have HBN := Lib.hid (show Box W1 w.heap.size 9 #[.string ⟨x.toArray⟩] by rw [hW1]; exact Box.new _ _ _)
  have HD1 := Lib.hid (h.next hb hB0)
  have HR1 := Lib.hid (hr.step (Step.of_below (B := 0) hb (Nat.zero_le _)))
  have HS1 := Lib.hid (Step.of_below (B := B) hb hB0)
  have HX := Lib.hid hx
  have HXL := Lib.hid (show x.length ≤ maxLen by have := (goodNm_len hx).2; unfold maxLen; omega)
  have hsz1 := hb.size
  have HFU := Lib.hid hfull
  have HDD := Lib.hid hd
  have HW1 := Lib.hid hW1
  clear h hb hr hx hfull hd hW1
  have c0 := HBN.out.cell 0 rfl
  have c5 := HD1.out.box.cell 5 rfl
  rw [HW1.out] at c0
  go_enter Try.func13, Try.ntmps13
  go_wp2_with fail
  rw [← HW1.out]
  clear c0
  refine (diskGood_nm x _ HXL.out).mono ?_
  rintro e w' ⟨rfl, rfl⟩
  rw [HX.out]
  have hle : decide ((xs.length : Int) ≤ 4194304) = true := decide_eq_true (by omega)
  go_wp2_with fail
  refine (ask_any p s.dead true _ c5).mono ?_
  rintro e w' ⟨rfl, rfl⟩
  rw [HDD.out, show askI false true = 0 from rfl]
  clear c5 HW1
  go_wp2_with fail
  refine (stroke_any HD1.out hst).mono ?_
  rintro e w2 ⟨rfl, hd2, hs2, hz2⟩
  have HD2 := Lib.hid hd2
  have HS2 := Lib.hid (HS1.out.trans hs2)
  have HBN2 := Lib.hid (HBN.out.step hs2 rfl)
  have HR2 := Lib.hid (HR1.out.step hs2)
  have HLK := Lib.hid (fun (k : Nat) => (hd2.seen.block (w' := w2.drewN k) rfl).lookup x HXL.out)
  have HLN := Lib.hid (fun (k : Nat) => (hd2.seen.block (w' := w2.drewN k) rfl).len 3)
  have c0 := hd2.box.cell 0 rfl
  have cn := HBN2.out.cell 0 rfl
  have hsz2 : w.heap.size < w2.heap.size := by rw [hz2]; exact HBN.out.lt
  have HSZ2 := Lib.hid hz2
  clear hd2 hs2 hz2 HD1 HBN HS1 HR1
  have hlk := HLK.out
  have hln := HLN.out
  go_wp2_with fail
  go_cut [38] (fun v wx => v = .bool false ∧ Same w2 wx)
  case first =>
    cases hg : lget s.seen x with
    | some f0 =>
      have hlk2 : ∀ k, (Instr.lookup 62 (.map (some bs)) (.string ⟨x.toArray⟩) false).run Try.prog (w2.drewN k) = .ok (.pointer (some ⟨f0, 0, none⟩)) (w2.drewN k) := fun k => by have := hlk k; rw [show (strokeS s).seen = s.seen from rfl, hg] at this; exact this
      have hl0 := hlk2 0
      clear hlk hln hg
      go_quiet (fail)
      all_goals (go_wp2_with fail; go_meet; exact ⟨rfl, ⟨_, rfl⟩⟩)
    | none =>
      have hlk2 : ∀ k, (Instr.lookup 62 (.map (some bs)) (.string ⟨x.toArray⟩) false).run Try.prog (w2.drewN k) = .ok (.pointer none) (w2.drewN k) := fun k => by have := hlk k; rw [show (strokeS s).seen = s.seen from rfl, hg] at this; exact this
      have hne : ((s.seen.length : Int) == 16) = false := by
        rw [beq_eq_false_iff_ne]
        intro e
        exact HFU.out ⟨hg, by omega⟩
      have hln2 : ∀ k, (Builtin.len_ #[62] 3 #[.map (some bs)]).run Try.prog (w2.drewN k) = .ok (.int .i64 s.seen.length) (w2.drewN k) := hln
      clear hlk hln hg
      go_quiet (fail)
      all_goals (go_wp2_with fail; go_meet; exact ⟨rfl, ⟨_, rfl⟩⟩)
  case rest =>
    obtain ⟨rfl, hsm⟩ := hcut
    obtain ⟨w3, rfl⟩ : ∃ w3, w3 = wc := ⟨_, rfl⟩
    have hb3 : Below w2.heap.size w2 w3 := hsm.below _
    have hB2 : B ≤ w2.heap.size := by omega
    have HD3 := Lib.hid (HD2.out.next hb3 hB2)
    have HS3 := Lib.hid (HS2.out.trans (Step.of_below hb3 hB2))
    have HBN3 := Lib.hid (HBN2.out.next hb3)
    have HR3 := Lib.hid (HR2.out.step (Step.of_below (B := 0) hb3 (Nat.zero_le _)))
    have hsz3 := hb3.size
    clear hsm hb3 HD2 HS2 HBN2 HR2 hlk hln HLK HLN c0 cn
    go_wp2_with fail
    refine (clone_any _ xs _ HR3.out.rd hxl).mono ?_
    rintro e w4 ⟨v4, rfl, hbr, hb4⟩
    obtain ⟨o4, k4, rfl⟩ := rd_slice hbr.rd
    obtain ⟨W5, hW5⟩ : ∃ W5, W5 = ((w4.alloc (.cells #[.slice o4 xs.length k4, .slice none 0 0] 68)).alloc (.cells #[.pointer (some ⟨w4.heap.size, 0, none⟩)] 66)) := ⟨_, rfl⟩
    have hb45 : Below w4.heap.size w4 W5 := by rw [hW5]; exact ((Below.refl _ _).alloc (Nat.le_refl _) _).alloc (by simp) _
    have hb5 : Below w3.heap.size w3 W5 := hb4.trans (hb45.mono hb4.size)
    have hB3 : B ≤ w3.heap.size := by omega
    have hBF : Box W5 w4.heap.size 68 #[.slice o4 xs.length k4, .slice none 0 0] := by rw [hW5]; exact (Box.new _ _ _).next ((Below.refl _ _).alloc (Nat.le_refl _) _)
    have HBP := Lib.hid (show Box W5 (w4.heap.size + 1) 66 #[ptrV (some w4.heap.size)] by rw [hW5]; exact Box.new_at (by simp))
    have hz4 := hb4.size
    have HFR := Lib.hid (show FileRep B W5 w4.heap.size xs [] from ⟨⟨_, _, hBF, (hbr.step (Step.of_below (B := 0) hb45 (Nat.zero_le _))).mono hB3, BytesRep.nil _ _⟩, by omega⟩)
    have HD5 := Lib.hid (HD3.out.next hb5 hB3)
    have HS5 := Lib.hid (HS3.out.trans (Step.of_below hb5 hB3))
    have HBN5 := Lib.hid (HBN3.out.next hb5)
    have HNI := Lib.hid (show w4.heap.size ∉ (strokeS s).ids from fun hm => by have := HD3.out.idLt hm; omega)
    have HW5 := Lib.hid hW5
    have hmf : ∀ (fn : Fn) (first cap : Array Value) (w : World), (Instr.makeFunc fn first cap).run Try.prog w = .ok (.func fn first cap) w := fun _ _ _ _ => rfl
    clear hbr hb4 hb45 hb5 hBF hW5 HD3 HS3 HBN3 HR3
    go_wp2_with fail
    rw [← HW5.out]
    clear HW5
    have HDA := Lib.hid (HD5.out.add HFR.out HNI.out)
    refine (alter_put w4.heap.size x _ HDA.out ⟨_, _, rfl, HBP.out, HBN5.out, HXL.out⟩ (fits_put HD5.out x w4.heap.size xs HXL.out hch hse)).mono ?_
    rintro e w6 ⟨rfl, ⟨cv6, vs6, hd6⟩, hs6⟩
    have HD6 := Lib.hid hd6
    have HS6 := Lib.hid (HS5.out.trans hs6)
    clear hd6 hs6 HDA HD5 HS5 HBN5 HBP HFR
    go_wp2_with fail
    refine (told_any _ _).mono ?_
    rintro e w' ⟨rfl, rfl⟩
    go_wp2_with fail
    go_ret
    exact ⟨rfl, ⟨w4.heap.size, cv6, vs6, HD6.out, by omega⟩, HS6.out⟩
end Go.Proofs.Ytejmbhckfdfoeaa
