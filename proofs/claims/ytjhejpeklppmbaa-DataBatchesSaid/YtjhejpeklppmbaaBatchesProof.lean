/-
  Rows.DataBatchesSaid: for every input the law DataBatches returns true, and its argument reads as it did. No conditions.
-/
import Derived.Test.YtjhejpeklppmbaaBatchesMain
import Derived.Test.YtjhejpeklppmbaaRead
import Derived.ProofKit
import Derived.OpenShut
import Derived.SizedLaws
import Derived.ChangeOld
set_option linter.unusedVariables false
set_option linter.unusedSimpArgs false
namespace Go.Proofs.Ytjhejpeklppmbaa.dataBatches
open Go.ChangeShapes Go.WideShapes Go.ChangeAt Go.RowKit
theorem own : ownKnob Try.prog.godebug = none := by kernel_rfl
theorem laidOut : laidOutB Try.prog = true := by kernel_rfl
theorem walk (o : Option Addr) (n cap : Nat) (w : World) (hn : n ≤ 140737488351232) (ha : AsksArg w o n) :
    Calls Try.prog 5 #[.slice o n cap] w fun e w' => e = .returned (.bool true) ∧ Below w.heap.size w w' := batches_any o n cap w hn ha
theorem bytesE : Try.prog.bytesOf 37 = 120 := by kernel_rfl
theorem cellsE : Try.prog.cellsOf 37 = 5 := by kernel_rfl
theorem cellsSet : Try.prog.cellsOf 35 = 4 := by kernel_rfl
theorem cellsI : Try.prog.cellsOf 3 = 1 := by kernel_rfl
theorem cellsI64 : Try.prog.cellsOf 2 = 1 := by kernel_rfl
theorem bytesI : Try.prog.bytesOf 3 = 8 := by kernel_rfl
theorem bytesI64 : Try.prog.bytesOf 2 = 8 := by kernel_rfl
theorem cellsS : Try.prog.cellsOf 32 = 1 := by kernel_rfl
theorem cellsS64 : Try.prog.cellsOf 33 = 1 := by kernel_rfl
theorem caps {H : Type} {enc : TypeId × Value → H} {W : World} {t e : TypeId} {v : Value} (h : RB enc Try.prog W t [v]) (ht : Try.prog.underlying t = some (.slice e)) (he : Try.prog.bytesOf e = 8) : ∀ o m c, v = .slice o m c → m ≤ c ∧ c ≤ 9223372036854775807 := by
  obtain ⟨o, len, cap, rfl, _, hc, hle, _⟩ := h.slice ht
  intro o' m c e'
  cases e'
  rw [he] at hc
  unfold reachBytes at hc
  exact ⟨hle, by omega⟩
theorem opened {H : Type} {enc : TypeId × Value → H} {W : World} {o : Option Addr} {n cap : Nat} (h : RB enc Try.prog W 31 [.slice o n cap]) :
    n ≤ 140737488351232 ∧ AsksArg W o n := by
  obtain ⟨o', n', cap', he, hr, hel⟩ := h.rows Try.underlying31 (by rw [cellsE]; omega)
  simp at he
  obtain ⟨rfl, rfl, rfl⟩ := he
  rw [bytesE] at hr
  refine ⟨by unfold reachBytes at hr; omega, fun i hi => ?_⟩
  obtain ⟨b, off, cs, ho, hl, hrb, hcell⟩ := hel i hi
  rw [cellsE] at hl hcell
  obtain ⟨_, hf⟩ := hrb.field Try.underlying37
  obtain ⟨v0, v1, v2, v3, v4, rfl⟩ := list5 hl
  have gs := hf 0 _ rfl
  have g4 := hf 1 _ rfl
  have gs : RB enc Try.prog W 35 (([v0, v1, v2, v3, v4] : List Value).drop 0 |>.take (Try.prog.cellsOf 35)) := gs
  have g4 : RB enc Try.prog W 32 (([v0, v1, v2, v3, v4] : List Value).drop 4 |>.take (Try.prog.cellsOf 32)) := g4
  rw [cellsSet] at gs
  rw [cellsS] at g4
  have gs : RB enc Try.prog W 35 [v0, v1, v2, v3] := gs
  obtain ⟨_, hf⟩ := gs.field Try.underlying35
  have g0 := hf 0 _ rfl
  have g1 := hf 1 _ rfl
  have g2 := hf 2 _ rfl
  have g3 := hf 3 _ rfl
  have g0 : RB enc Try.prog W 32 (([v0, v1, v2, v3] : List Value).drop 0 |>.take (Try.prog.cellsOf 32)) := g0
  have g1 : RB enc Try.prog W 33 (([v0, v1, v2, v3] : List Value).drop 1 |>.take (Try.prog.cellsOf 33)) := g1
  have g2 : RB enc Try.prog W 32 (([v0, v1, v2, v3] : List Value).drop 2 |>.take (Try.prog.cellsOf 32)) := g2
  have g3 : RB enc Try.prog W 33 (([v0, v1, v2, v3] : List Value).drop 3 |>.take (Try.prog.cellsOf 33)) := g3
  rw [cellsS] at g0 g2
  rw [cellsS64] at g1 g3
  have k1 := caps (v := v1) g1 Try.underlying33 bytesI64
  have k3 := caps (v := v3) g3 Try.underlying33 bytesI64
  obtain ⟨x0, a0, b0, c0⟩ := RB.ints (v := v0) g0 Try.underlying32 Try.underlying3 cellsI
  obtain ⟨x1, a1, b1, c1⟩ := RB.ints (v := v1) g1 Try.underlying33 Try.underlying2 cellsI64
  obtain ⟨x2, a2, b2, c2⟩ := RB.ints (v := v2) g2 Try.underlying32 Try.underlying3 cellsI
  obtain ⟨x3, a3, b3, c3⟩ := RB.ints (v := v3) g3 Try.underlying33 Try.underlying2 cellsI64
  obtain ⟨x4, a4, b4, c4⟩ := RB.ints (v := v4) g4 Try.underlying32 Try.underlying3 cellsI
  rw [bytesI] at c0 c2 c4
  rw [bytesI64] at c1 c3
  unfold reachBytes at c0 c1 c2 c3 c4
  exact ⟨b, off, v0, v1, v2, v3, v4, ⟨x0, x1, x2, x3⟩, x4, ho, ⟨⟨hcell 0 v0 rfl, hcell 1 v1 rfl, hcell 2 v2 rfl, hcell 3 v3 rfl, ⟨a0, a1, a2, a3⟩, by simp only; omega, by simp only; omega, by simp only; omega, by simp only; omega⟩, hcell 4 v4 rfl, a4, by omega, k1, k3⟩⟩

set_option maxRecDepth 100000 in
theorem lifted (os : Os) (started : os.Started) (H : Type) (enc : TypeId × Value → H) :
    ReturnsInHanded {} Try.checked os 5 .any (Rows.dataBatchesSpec.pre6 enc Try.prog Try.f5 Rows.dataBatchesRow.domain false) (Rows.dataBatchesSpec.post enc Try.prog Try.f5 false true false false) := by
  refine returnsInHanded_of_change_sized (C := Try.checked) own started (by kernel_rfl) Try.func5
    (ChangeSpec.witness6 (enc := enc) (C := Try.checked) false ⟨#[], #[.slice none 0 0], []⟩ 8 (by kernel_rfl) (by kernel_rfl) (by kernel_rfl) (by kernel_rfl)) ?_
  intro W base args ds gs before hval0 hW hcnd hsz _
  have hval : ∀ (j : Nat) t v, Try.f5.params[j]? = some t → args[j]? = some v → Value.okWide Try.prog W .any base t v := hval0
  have hW' := hW
  obtain ⟨p, q, hA0, hV, rfl, hfz, hnd⟩ := hW
  have hA : DataW.TrodAll enc Try.prog W 0 (fun _ => true) true Try.f5.params.toList args.toList ds p := hA0
  have hsz' : (DataW.weightsEach Try.prog (Try.f5.params.toList ++ Rows.dataBatchesSpec.plain.varTypes Try.prog) (ds ++ gs)).all (· ≤ reachBytes) = true := hsz
  rw [Try.params5] at hA hval hsz'
  obtain ⟨v0, vs0, d0, ds0, p0, q0, hargs, rfl, rfl, h0, r0⟩ := trodAll_cons hA
  obtain ⟨rfl, rfl, rfl⟩ := trodAll_nil r0
  obtain rfl : args = #[v0] := by cases args; simp_all
  obtain ⟨rfl, rfl⟩ := trodVars_none hV
  obtain ⟨a0, len0, cap0, rfl⟩ := okWide_slice Try.underlying31 (hval 0 31 v0 rfl rfl)
  have k0 := h0
  have lt0 : ∀ x ∈ p0, x.block < W.heap.size := by obtain ⟨m, hm⟩ := k0; exact DataW.trod_lt m _ _ _ hm
  have hRB : RB enc Try.prog W 31 [.slice a0 len0 cap0] := by
    obtain ⟨m, hm⟩ := h0
    exact ⟨m, d0, p0, hm, fun n hn => by
      have := List.all_eq_true.1 hsz' n (weightsEach_mem (j := 0) (t := 31) (d := d0) rfl rfl n hn)
      simpa using this⟩
  have harg := opened hRB
  clear hA0 hval0
  refine (walk a0 len0 cap0 W harg.1 harg.2).mono fun e W' ⟨he, bel⟩ => ?_
  subst he
  exact ⟨_, rfl, _, _, _, [], _, [], hW', trodAll_mk1 (shut_bool Try.underlying4 _), (trodAll_cons_mk (Below.trod laidOut (by kernel_rfl) (of_decide_eq_true (by kernel_rfl)) k0 bel lt0) trodAll_mk0), rfl, bel.frame _, fun h => by cases h⟩
theorem over : Rows.dataBatchesRow.holds Try.pinned (OpenSpec.ofChange Rows.dataBatchesSpec) :=
  OpenClaim.holds_of_wide 5 Try.f5 rfl rfl rfl rfl rfl rfl rfl ⟨rfl, rfl, rfl, rfl, rfl⟩ rfl rfl rfl rfl rfl (by kernel_rfl) Try.func5 (by kernel_rfl)
    (of_decide_eq_true (by kernel_rfl)) (by unfold Func.isWrapper; first | (rw [if_pos (by decide +kernel)]; kernel_rfl) | (rw [if_neg (by decide +kernel)]; exact ⟨rfl, rfl⟩))
    (fun os started H enc _ => lifted os started H enc)
theorem proved : Rows.DataBatchesSaid := over
end Go.Proofs.Ytjhejpeklppmbaa.dataBatches
