/-
  Rows.DataDecodesSaid: for every input the law DataDecodes returns true, and its argument reads as it did. No conditions.
-/
import Derived.Test.YtjhejpeklppmbaaDecodesMain
import Derived.Test.YtjhejpeklppmbaaRead
import Derived.ProofKit
import Derived.OpenShut
import Derived.SizedLaws
import Derived.ChangeOld
set_option linter.unusedVariables false
set_option linter.unusedSimpArgs false
namespace Go.Proofs.Ytjhejpeklppmbaa.dataDecodes
open Go.ChangeShapes Go.WideShapes Go.ChangeAt Go.RowKit
theorem own : ownKnob Try.prog.godebug = none := by kernel_rfl
theorem laidOut : laidOutB Try.prog = true := by kernel_rfl
theorem walk (o : Option Addr) (n cap : Nat) (w : World) (hn : n ≤ 140737488351232) (ha : SlicesB w o n) :
    Calls Try.prog 6 #[.slice o n cap] w fun e w' => e = .returned (.bool true) ∧ Below w.heap.size w w' := decodes_any o n cap w hn ha
theorem bytesS : Try.prog.bytesOf 23 = 24 := by kernel_rfl
theorem cells8 : Try.prog.cellsOf 5 = 1 := by kernel_rfl
theorem bytes8 : Try.prog.bytesOf 5 = 1 := by kernel_rfl
theorem cellsS : Try.prog.cellsOf 23 = 1 := by kernel_rfl
theorem opened {H : Type} {enc : TypeId × Value → H} {W : World} {o : Option Addr} {n cap : Nat} (h : RB enc Try.prog W 59 [.slice o n cap]) :
    n ≤ 140737488351232 ∧ SlicesB W o n := by
  obtain ⟨o', n', cap', he, hr, hel⟩ := h.rows Try.underlying59 (by rw [cellsS]; omega)
  simp at he
  obtain ⟨rfl, rfl, rfl⟩ := he
  rw [bytesS] at hr
  refine ⟨by unfold reachBytes at hr; omega, fun i hi => ?_⟩
  obtain ⟨b, off, cs, ho, hl, hrb, hcell⟩ := hel i hi
  rw [cellsS] at hl hcell
  obtain ⟨v, rfl⟩ := list1 hl
  obtain ⟨xs, h1, h2, h3⟩ := hrb.ints Try.underlying23 Try.underlying5 cells8
  rw [bytes8] at h3
  exact ⟨b, off, v, xs, ho, by have := hcell 0 v rfl; simpa using this, h1, h2, by unfold reachBytes at h3; omega⟩

set_option maxRecDepth 100000 in
theorem lifted (os : Os) (started : os.Started) (H : Type) (enc : TypeId × Value → H) :
    ReturnsInHanded {} Try.checked os 6 .any (Rows.dataDecodesSpec.pre6 enc Try.prog Try.f6 Rows.dataDecodesRow.domain false) (Rows.dataDecodesSpec.post enc Try.prog Try.f6 false true false false) := by
  refine returnsInHanded_of_change_sized (C := Try.checked) own started (by kernel_rfl) Try.func6
    (ChangeSpec.witness6 (enc := enc) (C := Try.checked) false ⟨#[], #[.slice none 0 0], []⟩ 8 (by kernel_rfl) (by kernel_rfl) (by kernel_rfl) (by kernel_rfl)) ?_
  intro W base args ds gs before hval0 hW hcnd hsz _
  have hval : ∀ (j : Nat) t v, Try.f6.params[j]? = some t → args[j]? = some v → Value.okWide Try.prog W .any base t v := hval0
  have hW' := hW
  obtain ⟨p, q, hA0, hV, rfl, hfz, hnd⟩ := hW
  have hA : DataW.TrodAll enc Try.prog W 0 (fun _ => true) true Try.f6.params.toList args.toList ds p := hA0
  have hsz' : (DataW.weightsEach Try.prog (Try.f6.params.toList ++ Rows.dataDecodesSpec.plain.varTypes Try.prog) (ds ++ gs)).all (· ≤ reachBytes) = true := hsz
  rw [Try.params6] at hA hval hsz'
  obtain ⟨v0, vs0, d0, ds0, p0, q0, hargs, rfl, rfl, h0, r0⟩ := trodAll_cons hA
  obtain ⟨rfl, rfl, rfl⟩ := trodAll_nil r0
  obtain rfl : args = #[v0] := by cases args; simp_all
  obtain ⟨rfl, rfl⟩ := trodVars_none hV
  obtain ⟨a0, len0, cap0, rfl⟩ := okWide_slice Try.underlying59 (hval 0 59 v0 rfl rfl)
  have k0 := h0
  have lt0 : ∀ x ∈ p0, x.block < W.heap.size := by obtain ⟨m, hm⟩ := k0; exact DataW.trod_lt m _ _ _ hm
  have hRB : RB enc Try.prog W 59 [.slice a0 len0 cap0] := by
    obtain ⟨m, hm⟩ := h0
    exact ⟨m, d0, p0, hm, fun n hn => by
      have := List.all_eq_true.1 hsz' n (weightsEach_mem (j := 0) (t := 59) (d := d0) rfl rfl n hn)
      simpa using this⟩
  have harg := opened hRB
  clear hA0 hval0
  refine (walk a0 len0 cap0 W harg.1 harg.2).mono fun e W' ⟨he, bel⟩ => ?_
  subst he
  exact ⟨_, rfl, _, _, _, [], _, [], hW', trodAll_mk1 (shut_bool Try.underlying4 _), (trodAll_cons_mk (Below.trod laidOut (by kernel_rfl) (of_decide_eq_true (by kernel_rfl)) k0 bel lt0) trodAll_mk0), rfl, bel.frame _, fun h => by cases h⟩
theorem over : Rows.dataDecodesRow.holds Try.pinned (OpenSpec.ofChange Rows.dataDecodesSpec) :=
  OpenClaim.holds_of_wide 6 Try.f6 rfl rfl rfl rfl rfl rfl rfl ⟨rfl, rfl, rfl, rfl, rfl⟩ rfl rfl rfl rfl rfl (by kernel_rfl) Try.func6 (by kernel_rfl)
    (of_decide_eq_true (by kernel_rfl)) (by unfold Func.isWrapper; first | (rw [if_pos (by decide +kernel)]; kernel_rfl) | (rw [if_neg (by decide +kernel)]; exact ⟨rfl, rfl⟩))
    (fun os started H enc _ => lifted os started H enc)
theorem proved : Rows.DataDecodesSaid := over
end Go.Proofs.Ytjhejpeklppmbaa.dataDecodes
