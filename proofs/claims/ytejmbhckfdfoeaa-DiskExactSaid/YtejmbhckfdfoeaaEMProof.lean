/-
  Rows.DiskExactSaid: for every input the law DiskExact returns true, and its argument reads as it did. No conditions.
-/
import Derived.Test.YtejmbhckfdfoeaaEM19
import Derived.Test.YtejmbhckfdfoeaaEM09
import Derived.ProofKit
import Derived.OpenShut
import Derived.SizedLaws
import Derived.ChangeOld
set_option linter.unusedVariables false
set_option linter.unusedSimpArgs false
namespace Go.Proofs.Ytejmbhckfdfoeaa.diskExact
open Go.ChangeShapes Go.WideShapes Go.ChangeAt Go.RowKit
theorem own : ownKnob Try.prog.godebug = none := by kernel_rfl
theorem laidOut : laidOutB Try.prog = true := by kernel_rfl
theorem cellsScript : Try.prog.cellsOf 25 = 3 := by kernel_rfl
theorem cellsSF : Try.prog.cellsOf 22 = 1 := by kernel_rfl
theorem cellsSA : Try.prog.cellsOf 23 = 1 := by kernel_rfl
theorem opened {H : Type} {enc : TypeId × Value → H} {W : World} {cs : List Value} (h : RB enc Try.prog W 25 cs) (hc : cs.length = 3) :
    ∃ (vf va : Value) (off : Int) (fs : List FileD) (l : List ActD), cs = [vf, .int .i64 off, va] ∧ FilesRd W vf fs ∧ ActsRd W va l ∧ (fs.length ≤ 140737488351232 ∧ l.length ≤ 140737488351232) ∧ (-9223372036854775808 ≤ off ∧ off ≤ 9223372036854775807) ∧ (∀ a ∈ l, -9223372036854775808 ≤ a.act ∧ a.act ≤ 9223372036854775807) ∧ ActsCap W va := by
  obtain ⟨_, hf⟩ := h.field Try.underlying25
  obtain ⟨v0, v1, v2, rfl⟩ := list3 hc
  have g0 : RB enc Try.prog W 22 (([v0, v1, v2] : List Value).drop 0 |>.take (Try.prog.cellsOf 22)) := hf 0 _ rfl
  have g1 : RB enc Try.prog W 3 (([v0, v1, v2] : List Value).drop 1 |>.take (Try.prog.cellsOf 3)) := hf 1 _ rfl
  have g2 : RB enc Try.prog W 23 (([v0, v1, v2] : List Value).drop 2 |>.take (Try.prog.cellsOf 23)) := hf 2 _ rfl
  rw [cellsSF] at g0
  rw [cellsInt] at g1
  rw [cellsSA] at g2
  obtain ⟨fs, h1, h2⟩ := RB.files (v := v0) g0
  obtain ⟨x, rfl, hx⟩ := RB.int (v := v1) g1 Try.underlying3
  obtain ⟨l, h3, h4, h5⟩ := RB.acts (v := v2) g2
  exact ⟨v0, v2, x, fs, l, rfl, h1, h3, ⟨h2, h4⟩, wf_i64 hx, h5, RB.actsCap (v := v2) g2⟩
set_option maxRecDepth 100000 in
theorem lifted (os : Os) (started : os.Started) (H : Type) (enc : TypeId × Value → H) :
    ReturnsInHanded {} Try.checked os 5 .any (Rows.diskExactSpec.pre6 enc Try.prog Try.f5 Rows.diskExactRow.domain false) (Rows.diskExactSpec.post enc Try.prog Try.f5 false true false false) := by
  refine returnsInHanded_of_change_sized (C := Try.checked) own started (by kernel_rfl) Try.func5
    (ChangeSpec.witness6 (enc := enc) (C := Try.checked) false ⟨#[], #[.agg #[.slice none 0 0, .int .i64 0, .slice none 0 0]], []⟩ 8 (by kernel_rfl) (by kernel_rfl) (by kernel_rfl) (by kernel_rfl)) ?_
  intro W base args ds gs before hval0 hW hcnd hsz _
  have hval : ∀ (j : Nat) t v, Try.f5.params[j]? = some t → args[j]? = some v → Value.okWide Try.prog W .any base t v := hval0
  have hW' := hW
  obtain ⟨p, q, hA0, hV, rfl, hfz, hnd⟩ := hW
  have hA : DataW.TrodAll enc Try.prog W 0 (fun _ => true) true Try.f5.params.toList args.toList ds p := hA0
  have hsz' : (DataW.weightsEach Try.prog (Try.f5.params.toList ++ Rows.diskExactSpec.plain.varTypes Try.prog) (ds ++ gs)).all (· ≤ reachBytes) = true := hsz
  rw [Try.params5] at hA hval hsz'
  obtain ⟨v0, vs0, d0, ds0, p0, q0, hargs, rfl, rfl, h0, r0⟩ := trodAll_cons hA
  obtain ⟨rfl, rfl, rfl⟩ := trodAll_nil r0
  obtain rfl : args = #[v0] := by cases args; simp_all
  obtain ⟨rfl, rfl⟩ := trodVars_none hV
  obtain ⟨cs, rfl, hcs⟩ := okWide_struct Try.underlying25 (hval 0 25 v0 rfl rfl)
  have k0 := h0
  have lt0 : ∀ x ∈ p0, x.block < W.heap.size := by obtain ⟨m, hm⟩ := k0; exact DataW.trod_lt m _ _ _ hm
  have hRB : RB enc Try.prog W 25 cs.toList := by
    obtain ⟨m, hm⟩ := h0
    exact ⟨m, d0, p0, hm, fun n hn => by
      have := List.all_eq_true.1 hsz' n (weightsEach_mem (j := 0) (t := 25) (d := d0) rfl rfl n hn)
      simpa using this⟩
  obtain ⟨vf, va, off, fs, l, hcl, h1, h2, h3, h4, h5, h6⟩ := opened hRB (by rw [Array.length_toList, hcs, cellsScript])
  have hce : cs = #[vf, .int .i64 off, va] := by rw [← Array.toArray_toList (xs := cs), hcl]
  subst hce
  clear hA0 hval0
  refine (exact_any vf va off fs l W h1 h2 h3 h6 h4).mono fun e W' ⟨he, bel⟩ => ?_
  subst he
  exact ⟨_, rfl, _, _, _, [], _, [], hW', trodAll_mk1 (shut_bool Try.underlying4 _), (trodAll_cons_mk (Below.trod laidOut (by kernel_rfl) (of_decide_eq_true (by kernel_rfl)) k0 bel lt0) trodAll_mk0), rfl, bel.frame _, fun h => by cases h⟩
theorem over : Rows.diskExactRow.holds Try.pinned (OpenSpec.ofChange Rows.diskExactSpec) :=
  OpenClaim.holds_of_wide 5 Try.f5 rfl rfl rfl rfl rfl rfl rfl ⟨rfl, rfl, rfl, rfl, rfl⟩ rfl rfl rfl rfl rfl (by kernel_rfl) Try.func5 (by kernel_rfl)
    (of_decide_eq_true (by kernel_rfl)) (by unfold Func.isWrapper; first | (rw [if_pos (by decide +kernel)]; kernel_rfl) | (rw [if_neg (by decide +kernel)]; exact ⟨rfl, rfl⟩))
    (fun os started H enc _ => lifted os started H enc)
theorem proved : Rows.DiskExactSaid := over
end Go.Proofs.Ytejmbhckfdfoeaa.diskExact
