/-
  THE ARGUMENT of a disk's laws, opened: files, calls.
-/
import Derived.Test.YtejmbhckfdfoeaaDScript
import Derived.Test.YtejmbhckfdfoeaaRead
set_option linter.unusedVariables false
set_option linter.unusedSimpArgs false
namespace Go.Proofs.Ytejmbhckfdfoeaa
open Go.RowKit Go.ChangeShapes Go.WideShapes
theorem str_enc (s : ByteArray) : Value.string s = encStr s.data.toList := by
  cases s with
  | mk d => exact congrArg (fun z => Value.string ⟨z⟩) (Array.toArray_toList (xs := d)).symm
theorem RB.str {H : Type} {enc : TypeId × Value → H} {P : Program} {w : World} {t : TypeId} {v : Value} (h : RB enc P w t [v]) (ht : P.underlying t = some .string) :
    ∃ l : List UInt8, v = encStr l ∧ l.length ≤ maxLen := by
  obtain ⟨fuel, d, pl, h, _⟩ := h
  obtain ⟨s, e, _, hs⟩ := DataW.trod_string ht h
  simp at e
  subst e
  exact ⟨s.data.toList, str_enc s, by rw [Array.length_toList]; exact hs⟩
instance : Inhabited FileD := ⟨⟨[], []⟩⟩
instance : Inhabited ActD := ⟨⟨0, [], [], [], []⟩⟩
theorem cellsFile : Try.prog.cellsOf 48 = 2 := by kernel_rfl
theorem bytesFile : Try.prog.bytesOf 48 = 40 := by kernel_rfl
theorem cellsAct : Try.prog.cellsOf 37 = 5 := by kernel_rfl
theorem bytesAct : Try.prog.bytesOf 37 = 88 := by kernel_rfl
theorem cellsStr : Try.prog.cellsOf 9 = 1 := by kernel_rfl
theorem cellsInt : Try.prog.cellsOf 3 = 1 := by kernel_rfl
theorem bytesInt : Try.prog.bytesOf 3 = 8 := by kernel_rfl
theorem cellsU8 : Try.prog.cellsOf 5 = 1 := by kernel_rfl
theorem bytesU8 : Try.prog.bytesOf 5 = 1 := by kernel_rfl
theorem cellsSU8 : Try.prog.cellsOf 34 = 1 := by kernel_rfl
theorem cellsSInt : Try.prog.cellsOf 35 = 1 := by kernel_rfl
theorem RB.files {H : Type} {enc : TypeId × Value → H} {w : World} {v : Value} (h : RB enc Try.prog w 22 [v]) : ∃ fs, FilesRd w v fs ∧ fs.length ≤ 140737488351232 := by
  obtain ⟨o, len, cap, rfl, hr, hel⟩ := h.rows Try.underlying22 (by rw [cellsFile]; omega)
  rw [bytesFile] at hr
  have key : ∀ i, i < len → ∃ f : FileD, FileRd w o i f := fun i hi => by
    obtain ⟨b, off, cs, rfl, hl, hrb, hcell⟩ := hel i hi
    rw [cellsFile] at hl hcell
    obtain ⟨_, hf⟩ := hrb.field Try.underlying48
    obtain ⟨v0, v1, rfl⟩ := list2 hl
    have g0 : RB enc Try.prog w 9 (([v0, v1] : List Value).drop 0 |>.take (Try.prog.cellsOf 9)) := hf 0 _ rfl
    have g1 : RB enc Try.prog w 34 (([v0, v1] : List Value).drop 1 |>.take (Try.prog.cellsOf 34)) := hf 1 _ rfl
    rw [cellsStr] at g0
    rw [cellsSU8] at g1
    obtain ⟨l, rfl, hl1⟩ := RB.str (v := v0) g0 Try.underlying9
    obtain ⟨xs, a1, b1, c1⟩ := RB.ints (v := v1) g1 Try.underlying34 Try.underlying5 cellsU8
    rw [bytesU8] at c1
    unfold reachBytes at c1
    obtain ⟨od, cd, rfl⟩ := rd_slice a1
    exact ⟨⟨l, xs⟩, ⟨b, off, od, cd, rfl, hcell 0 _ rfl, hcell 1 _ rfl, a1⟩, hl1, by simp only; omega⟩
  obtain ⟨f, hf⟩ := Deep.choose_lt (α := FileD) key
  refine ⟨(List.range len).map f, ⟨o, cap, by simp, fun i hi => ?_⟩, by unfold reachBytes at hr; simp; omega⟩
  have hi' : i < len := by simpa using hi
  have : fnth ((List.range len).map f) i = f i := by simp [fnth, List.getD_eq_getElem?_getD, hi']
  rw [this]
  exact hf i hi'
theorem RB.acts {H : Type} {enc : TypeId × Value → H} {w : World} {v : Value} (h : RB enc Try.prog w 23 [v]) : ∃ l, ActsRd w v l ∧ l.length ≤ 140737488351232 ∧ ∀ a ∈ l, -9223372036854775808 ≤ a.act ∧ a.act ≤ 9223372036854775807 := by
  obtain ⟨o, len, cap, rfl, hr, hel⟩ := h.rows Try.underlying23 (by rw [cellsAct]; omega)
  rw [bytesAct] at hr
  have key : ∀ i, i < len → ∃ f : ActD, ActRd w o i f ∧ (-9223372036854775808 ≤ f.act ∧ f.act ≤ 9223372036854775807) := fun i hi => by
    obtain ⟨b, off, cs, rfl, hl, hrb, hcell⟩ := hel i hi
    rw [cellsAct] at hl hcell
    obtain ⟨_, hf⟩ := hrb.field Try.underlying37
    obtain ⟨v0, v1, v2, v3, v4, rfl⟩ := list5 hl
    have g0 : RB enc Try.prog w 3 (([v0, v1, v2, v3, v4] : List Value).drop 0 |>.take (Try.prog.cellsOf 3)) := hf 0 _ rfl
    have g1 : RB enc Try.prog w 9 (([v0, v1, v2, v3, v4] : List Value).drop 1 |>.take (Try.prog.cellsOf 9)) := hf 1 _ rfl
    have g2 : RB enc Try.prog w 9 (([v0, v1, v2, v3, v4] : List Value).drop 2 |>.take (Try.prog.cellsOf 9)) := hf 2 _ rfl
    have g3 : RB enc Try.prog w 34 (([v0, v1, v2, v3, v4] : List Value).drop 3 |>.take (Try.prog.cellsOf 34)) := hf 3 _ rfl
    have g4 : RB enc Try.prog w 35 (([v0, v1, v2, v3, v4] : List Value).drop 4 |>.take (Try.prog.cellsOf 35)) := hf 4 _ rfl
    rw [cellsInt] at g0
    rw [cellsStr] at g1 g2
    rw [cellsSU8] at g3
    rw [cellsSInt] at g4
    obtain ⟨x, rfl, hx⟩ := RB.int (v := v0) g0 Try.underlying3
    obtain ⟨la, rfl, hl1⟩ := RB.str (v := v1) g1 Try.underlying9
    obtain ⟨lb, rfl, hl2⟩ := RB.str (v := v2) g2 Try.underlying9
    obtain ⟨xs, a1, b1, c1⟩ := RB.ints (v := v3) g3 Try.underlying34 Try.underlying5 cellsU8
    obtain ⟨ys, a2, b2, c2⟩ := RB.ints (v := v4) g4 Try.underlying35 Try.underlying3 cellsInt
    rw [bytesU8] at c1
    rw [bytesInt] at c2
    unfold reachBytes at c1 c2
    obtain ⟨od, cd, rfl⟩ := rd_slice a1
    obtain ⟨op, cp, rfl⟩ := rd_slice a2
    exact ⟨⟨x, la, lb, xs, ys⟩, ⟨⟨b, off, od, cd, op, cp, rfl, hcell 0 _ rfl, hcell 1 _ rfl, hcell 2 _ rfl, hcell 3 _ rfl, hcell 4 _ rfl, a1, a2⟩, hl1, hl2, by simp only; omega, by simp only; omega⟩, wf_i64 hx⟩
  obtain ⟨f, hf⟩ := Deep.choose_lt (α := ActD) key
  refine ⟨(List.range len).map f, ⟨o, cap, by simp, fun i hi => ?_⟩, by unfold reachBytes at hr; simp; omega, fun a ha => ?_⟩
  · have hi' : i < len := by simpa using hi
    have : anth ((List.range len).map f) i = f i := by simp [anth, List.getD_eq_getElem?_getD, hi']
    rw [this]
    exact (hf i hi').1
  · obtain ⟨i, hi, rfl⟩ := List.mem_map.1 ha
    exact (hf i (List.mem_range.1 hi)).2
end Go.Proofs.Ytejmbhckfdfoeaa
