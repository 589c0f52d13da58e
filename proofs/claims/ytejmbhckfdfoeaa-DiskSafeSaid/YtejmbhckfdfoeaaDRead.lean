/-
  Read, Remove, Rename.
-/
import Derived.Test.YtejmbhckfdfoeaaDWrite
set_option linter.unusedVariables false
set_option linter.unusedSimpArgs false
namespace Go.Proofs.Ytejmbhckfdfoeaa
open Go.RowKit Go.Maps
set_option maxRecDepth 100000 in
set_option maxHeartbeats 2000000 in
theorem read_ok {B : Nat} {w : World} {p bs bf : Nat} {cv : Value} {vs : List Value} {s : DSt} (x : List UInt8) (f : Nat) (h : DRepr B w p bs bf cv vs s) (hx : goodNm x = true) (hd : s.dead = false) (hg : lget s.seen x = some f) :
    Calls Try.prog 15 #[.pointer (some ⟨p, 0, none⟩), .string ⟨x.toArray⟩] w fun e w' => (∃ v', e = .returned (.tuple #[v', .int .i64 0]) ∧ BytesRep w.heap.size w' v' (s.by_ f)) ∧ Below w.heap.size w w' := by
  have hxl : x.length ≤ maxLen := by have := (goodNm_len hx).2; unfold maxLen; omega
  have c0 := h.box.cell 0 rfl
  have c5 := h.box.cell 5 rfl
  have hlk := h.seen.lookup x hxl
  rw [hg] at hlk
  obtain ⟨⟨vb, vs', hb, hbr, _⟩, _⟩ := h.files f (h.in1 _ (lget_mem hg))
  obtain ⟨ob, kb, rfl⟩ := rd_slice hbr.rd
  have cf := hb.cell 0 rfl
  have hl4 := hbr.len
  obtain ⟨xs, hxs⟩ : ∃ xs, xs = s.by_ f := ⟨_, rfl⟩
  rw [← hxs] at hbr cf hl4 ⊢
  have HBR := Lib.hid hbr
  have HX := Lib.hid hx
  have HXL := Lib.hid hxl
  have HDD := Lib.hid hd
  simp only [ptrV] at hlk
  clear h hx hd hg hb hbr hxs hxl
  go_enter Try.func15, Try.ntmps15
  go_wp2_with fail
  refine (diskGood_nm x _ HXL.out).mono ?_
  rintro e w' ⟨rfl, rfl⟩
  rw [HX.out]
  go_wp2_with fail
  refine (ask_any p s.dead true _ c5).mono ?_
  rintro e w' ⟨rfl, rfl⟩
  rw [HDD.out, show askI false true = 0 from rfl]
  go_wp2_with fail
  refine (clone_any _ xs _ HBR.out.rd hl4).mono ?_
  rintro e w4 ⟨v4, rfl, hbr, hb4⟩
  obtain ⟨o4, k4, rfl⟩ := rd_slice hbr.rd
  have H4 := Lib.hid hbr
  have HB4 := Lib.hid hb4
  clear hbr hb4 hlk c0 c5 cf
  go_wp2_with fail
  go_ret2
  exact ⟨⟨_, rfl, H4.out⟩, HB4.out⟩
set_option maxRecDepth 100000 in
set_option maxHeartbeats 2000000 in
theorem read_no {B : Nat} {w : World} {p bs bf : Nat} {cv : Value} {vs : List Value} {s : DSt} (x : List UInt8) (h : DRepr B w p bs bf cv vs s) (hx : goodNm x = true) (hd : s.dead = false) (hg : lget s.seen x = none) :
    Calls Try.prog 15 #[.pointer (some ⟨p, 0, none⟩), .string ⟨x.toArray⟩] w fun e w' => e = .returned (.tuple #[.slice none 0 0, .int .i64 6]) ∧ w = w' := by
  have hxl : x.length ≤ maxLen := by have := (goodNm_len hx).2; unfold maxLen; omega
  have c0 := h.box.cell 0 rfl
  have c5 := h.box.cell 5 rfl
  have hlk := h.seen.lookup x hxl
  rw [hg] at hlk
  have HX := Lib.hid hx
  have HXL := Lib.hid hxl
  have HDD := Lib.hid hd
  simp only [ptrV] at hlk
  clear h hx hd hg hxl
  go_enter Try.func15, Try.ntmps15
  go_wp2_with fail
  refine (diskGood_nm x _ HXL.out).mono ?_
  rintro e w' ⟨rfl, rfl⟩
  rw [HX.out]
  go_wp2_with fail
  refine (ask_any p s.dead true _ c5).mono ?_
  rintro e w' ⟨rfl, rfl⟩
  rw [HDD.out, show askI false true = 0 from rfl]
  go_wp2_with fail
  go_ret2
  exact ⟨rfl, rfl⟩
end Go.Proofs.Ytejmbhckfdfoeaa
