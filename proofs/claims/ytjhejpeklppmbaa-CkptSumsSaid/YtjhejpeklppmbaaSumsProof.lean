/-
  Rows.CkptSumsSaid: for every input the law CkptSums returns true, and its argument reads as it did. No conditions.
-/
import Derived.Test.YtjhejpeklppmbaaSumsMain
import Derived.Test.YtjhejpeklppmbaaRead
import Derived.ProofKit
import Derived.OpenShut
import Derived.SizedLaws
import Derived.ChangeOld
set_option linter.unusedVariables false
set_option linter.unusedSimpArgs false
namespace Go.Proofs.Ytjhejpeklppmbaa.ckptSums
open Go.ChangeShapes Go.WideShapes Go.ChangeAt Go.RowKit
theorem own : ownKnob Try.prog.godebug = none := by kernel_rfl
theorem laidOut : laidOutB Try.prog = true := by kernel_rfl
theorem walk (o : Option Addr) (n cap : Nat) (w : World) (hn : n ≤ 140737488351232) (ha : BytesArg w o n) :
    Calls Try.prog 3 #[.slice o n cap] w fun e w' => e = .returned (.bool true) ∧ Below w.heap.size w w' := sums_any o n cap w hn ha
theorem cellsB : Try.prog.cellsOf 26 = 2 := by kernel_rfl
theorem bytesB : Try.prog.bytesOf 26 = 32 := by kernel_rfl
theorem cells8 : Try.prog.cellsOf 5 = 1 := by kernel_rfl
theorem bytes8 : Try.prog.bytesOf 5 = 1 := by kernel_rfl
theorem cellsS : Try.prog.cellsOf 23 = 1 := by kernel_rfl
theorem opened {H : Type} {enc : TypeId × Value → H} {W : World} {o : Option Addr} {n cap : Nat} (h : RB enc Try.prog W 22 [.slice o n cap]) :
    n ≤ 140737488351232 ∧ BytesArg W o n := by
  obtain ⟨o', n', cap', he, hr, hel⟩ := h.rows Try.underlying22 (by rw [cellsB]; omega)
  simp at he
  obtain ⟨rfl, rfl, rfl⟩ := he
  rw [bytesB] at hr
  refine ⟨by unfold reachBytes at hr; omega, fun i hi => ?_⟩
  obtain ⟨b, off, cs, ho, hl, hrb, hcell⟩ := hel i hi
  rw [cellsB] at hl hcell
  obtain ⟨_, hf⟩ := hrb.field Try.underlying26
  obtain ⟨v, u, rfl⟩ := list2 hl
  have h0 : RB enc Try.prog W 23 (([v, u] : List Value).drop 0 |>.take (Try.prog.cellsOf 23)) := hf 0 _ rfl
  have e0 : (([v, u] : List Value).drop 0).take (Try.prog.cellsOf 23) = [v] := by rw [cellsS]; rfl
  rw [e0] at h0
  obtain ⟨xs, h1, h2, h3⟩ := h0.ints Try.underlying23 Try.underlying5 cells8
  rw [bytes8] at h3
  exact ⟨b, off, v, xs, ho, hcell 0 v rfl, h1, h2, by unfold reachBytes at h3; omega⟩

set_option maxRecDepth 100000 in
theorem lifted (os : Os) (started : os.Started) (H : Type) (enc : TypeId × Value → H) :
    ReturnsInHanded {} Try.checked os 3 .any (Rows.ckptSumsSpec.pre6 enc Try.prog Try.f3 Rows.ckptSumsRow.domain false) (Rows.ckptSumsSpec.post enc Try.prog Try.f3 false true false false) := by
  refine returnsInHanded_of_change_sized (C := Try.checked) own started (by kernel_rfl) Try.func3
    (ChangeSpec.witness6 (enc := enc) (C := Try.checked) false ⟨#[], #[.slice none 0 0], []⟩ 8 (by kernel_rfl) (by kernel_rfl) (by kernel_rfl) (by kernel_rfl)) ?_
  intro W base args ds gs before hval0 hW hcnd hsz _
  have hval : ∀ (j : Nat) t v, Try.f3.params[j]? = some t → args[j]? = some v → Value.okWide Try.prog W .any base t v := hval0
  have hW' := hW
  obtain ⟨p, q, hA0, hV, rfl, hfz, hnd⟩ := hW
  have hA : DataW.TrodAll enc Try.prog W 0 (fun _ => true) true Try.f3.params.toList args.toList ds p := hA0
  have hsz' : (DataW.weightsEach Try.prog (Try.f3.params.toList ++ Rows.ckptSumsSpec.plain.varTypes Try.prog) (ds ++ gs)).all (· ≤ reachBytes) = true := hsz
  rw [Try.params3] at hA hval hsz'
  obtain ⟨v0, vs0, d0, ds0, p0, q0, hargs, rfl, rfl, h0, r0⟩ := trodAll_cons hA
  obtain ⟨rfl, rfl, rfl⟩ := trodAll_nil r0
  obtain rfl : args = #[v0] := by cases args; simp_all
  obtain ⟨rfl, rfl⟩ := trodVars_none hV
  obtain ⟨a0, len0, cap0, rfl⟩ := okWide_slice Try.underlying22 (hval 0 22 v0 rfl rfl)
  have k0 := h0
  have lt0 : ∀ x ∈ p0, x.block < W.heap.size := by obtain ⟨m, hm⟩ := k0; exact DataW.trod_lt m _ _ _ hm
  have hRB : RB enc Try.prog W 22 [.slice a0 len0 cap0] := by
    obtain ⟨m, hm⟩ := h0
    exact ⟨m, d0, p0, hm, fun n hn => by
      have := List.all_eq_true.1 hsz' n (weightsEach_mem (j := 0) (t := 22) (d := d0) rfl rfl n hn)
      simpa using this⟩
  have harg := opened hRB
  clear hA0 hval0
  refine (walk a0 len0 cap0 W harg.1 harg.2).mono fun e W' ⟨he, bel⟩ => ?_
  subst he
  exact ⟨_, rfl, _, _, _, [], _, [], hW', trodAll_mk1 (shut_bool Try.underlying4 _), (trodAll_cons_mk (Below.trod laidOut (by kernel_rfl) (of_decide_eq_true (by kernel_rfl)) k0 bel lt0) trodAll_mk0), rfl, bel.frame _, fun h => by cases h⟩
theorem over : Rows.ckptSumsRow.holds Try.pinned (OpenSpec.ofChange Rows.ckptSumsSpec) :=
  OpenClaim.holds_of_wide 3 Try.f3 rfl rfl rfl rfl rfl rfl rfl ⟨rfl, rfl, rfl, rfl, rfl⟩ rfl rfl rfl rfl rfl (by kernel_rfl) Try.func3 (by kernel_rfl)
    (of_decide_eq_true (by kernel_rfl)) (by unfold Func.isWrapper; first | (rw [if_pos (by decide +kernel)]; kernel_rfl) | (rw [if_neg (by decide +kernel)]; exact ⟨rfl, rfl⟩))
    (fun os started H enc _ => lifted os started H enc)
theorem proved : Rows.CkptSumsSaid := over
end Go.Proofs.Ytjhejpeklppmbaa.ckptSums
