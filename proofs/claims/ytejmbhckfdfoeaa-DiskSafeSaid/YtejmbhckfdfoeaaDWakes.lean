/-
  wakes: a file that is written is read.
-/
import Derived.Test.YtejmbhckfdfoeaaDArg
import Derived.Test.YtejmbhckfdfoeaaDMove
import Derived.Laws.BytesArg
set_option linter.unusedVariables false
set_option linter.unusedSimpArgs false
namespace Go.Proofs.Ytejmbhckfdfoeaa
open Go.RowKit Go.Maps
theorem offB_zero {s : DSt} (h : s.off = 0) : offB s = false := by simp [offB, h]
theorem FilesRd.nil (w : World) : FilesRd w (.slice none 0 0) [] := ⟨none, 0, rfl, fun i hi => by simp at hi⟩
theorem conv_bytes {B : Nat} {w : World} {v : Value} {xs : List Int} (h : BytesRep B w v xs) (h0 : 0 < xs.length) : (convert 34 9 v).run Try.prog w = .ok (.string (strOfNums xs)) w := by
  obtain ⟨o, cap, rfl, hc⟩ := h.rd
  obtain ⟨b, off, rfl, _⟩ := hc 0 h0
  refine run_convert_bytes_arg w _ _ Try.underlying34 Try.underlying5 b off xs.length cap xs rfl (fun i hi => ?_) _ Try.underlying9
  obtain ⟨b', off', he, hcell⟩ := hc i hi
  cases he
  exact hcell
set_option maxRecDepth 100000 in
set_option maxHeartbeats 4000000 in
theorem wakes32_any (w : World) : Calls Try.prog 21 #[] w fun e w' => e = .returned (.bool true) ∧ Below w.heap.size w w' := by
  have hcv := fun (W : World) => Lib.run_convert_bytes_const (P := Try.prog) W 34 5 #[.int .u8 120, .int .u8 121] 2 2 Try.underlying34 Try.underlying5
  have HCV := Lib.hid hcv
  clear hcv
  go_enter Try.func21, Try.ntmps21
  go_wp2_with fail
  refine (new_ok (.slice none 0 0) [] 0 _ (FilesRd.nil _) (by rfl) ⟨by omega, by omega⟩).mono ?_
  rintro e w1 ⟨⟨p, bs, bf, s, rfl, hd, hse, hso⟩, hb⟩
  have HD := Lib.hid hd
  have HSE := Lib.hid hse
  have HSO := Lib.hid hso
  have HB := Lib.hid hb
  have hsz := hb.size
  have hcv := HCV.out w1
  clear hd hse hso hb
  go_wp2_with (go_at_call 10; refine (num32_any _ _).mono ?_; rintro e w' ⟨rfl, rfl⟩)
  obtain ⟨w2, hw2⟩ : ∃ w2, w2 = w1.alloc (Obj.cells #[Value.int IntKind.u8 120, Value.int IntKind.u8 121] 5 (2, 3)) := ⟨_, rfl⟩
  have hb2 : Below w1.heap.size w1 w2 := by rw [hw2]; exact (Below.refl _ _).alloc (Nat.le_refl _) _
  have HBR := Lib.hid (show BytesRep 0 w2 (.slice (some ⟨w1.heap.size, 0, none⟩) 2 2) [120, 121] by
    rw [hw2]
    exact ⟨Rd.new w1 .u8 [120, 121] 5 2 (2, 3), fun _ => ⟨w1.heap.size, 0, _, (2, 3), 2, rfl, heap_alloc_new w1 _, Nat.zero_le _⟩, by simp, fun o n c e => by cases e; exact ⟨Nat.le_refl _, by omega⟩⟩)
  have HD2 := Lib.hid (HD.out.next hb2 hsz)
  have HB2 := Lib.hid (HB.out.trans (hb2.mono hsz))
  rw [← hw2]
  clear hw2 hb2 hcv
  have hst := HSE.out.strokes
  have hch := HSE.out.chs
  have hln : s.seen.length = 0 := HSE.out.length
  refine (write_ok [97] _ [120, 121] HD2.out (by decide) HBR.out HSE.out.dead (fun h => by omega) (by omega) (by rw [hch]; simp) (by omega)).mono ?_
  rintro e w3 ⟨rfl, ⟨f, cv3, vs3, hd3, hf3⟩, hs3⟩
  have ho : offB s = false := offB_zero HSO.out
  rw [ho]
  have HD3 := Lib.hid hd3
  have HS3 := Lib.hid (HB2.out.trans hs3.below)
  have HR := Lib.hid HD2.out.seen.ris
  have HO := Lib.hid ho
  clear hd3 hs3 hst hch hln ho
  go_wp2_with (go_at_call 10; refine (num32_any _ _).mono ?_; rintro e w' ⟨rfl, rfl⟩)
  refine (read_ok [97] f HD3.out (by decide) HO.out (lget_put_same HR.out [97] f)).mono ?_
  rintro e w4 ⟨⟨v4, rfl, hbr⟩, hb4⟩
  have hby : (writeS (strokeS s) [97] f [120, 121]).by_ f = [120, 121] := by simp [writeS, chgS, addS, updF]
  rw [hby] at hbr
  obtain ⟨o4, k4, he4⟩ := rd_slice hbr.rd
  subst he4
  have hcv : (convert 34 9 (.slice o4 2 k4)).run Try.prog w4 = .ok (.string ⟨#[120, 121]⟩) w4 := conv_bytes hbr (by simp)
  have HB4 := Lib.hid (HS3.out.trans (hb4.mono HS3.out.size))
  clear hbr hb4 hby
  go_wp2_with (go_at_call 10; refine (num32_any _ _).mono ?_; rintro e w' ⟨rfl, rfl⟩)
  go_ret
  exact ⟨rfl, HB4.out⟩
end Go.Proofs.Ytejmbhckfdfoeaa
