/-
  Rows.CkptEncodesCardSaid: for every input the law CkptEncodes returns true, and its argument reads as it did. No conditions but the card's own (the listed tables lie as the program's text lays them).
-/
import Derived.Test.YtjhkdocidcfpdaaGreatDoorEN46
import Derived.Test.YtjhkdocidcfpdaaGreatDoorEN34
import Derived.Test.YtjhkdocidcfpdaaGreatDoorCards
import Derived.Test.YtjhkdocidcfpdaaGreatDoorTie
import Derived.Test.YtjhkdocidcfpdaaGreatDoorEN02
import Derived.ProofKit
import Derived.OpenShut
import Derived.SizedLaws
import Derived.ChangeOld
import Derived.LaidMore
import Derived.Stop.Joined
import Derived.Lib.LaidTab
import Derived.SevenTiedAt
set_option linter.unusedVariables false
set_option linter.unusedSimpArgs false
namespace Go.Proofs.YtjhkdocidcfpdaaGreatDoor.ckptEncodes
open Go.ChangeShapes Go.WideShapes Go.ChangeAt Go.RowKit
theorem own : ownKnob Tryz.prog.godebug = none := by kernel_rfl
theorem laidOut : laidOutB Tryz.prog = true := by kernel_rfl
def laid3 : List (String × DataW Unit) := [("math/bits.deBruijn32tab", Rows.laid_math_bits_deBruijn32tab), ("math/bits.deBruijn64tab", Rows.laid_math_bits_deBruijn64tab), ("internal/strconv.uint64pow10", Rows.laid_internal_strconv_uint64pow10)]
/-- the door's own heap meets the condition -/
theorem door_met (os : Os) (args : Array Value) : laidMetH Tryz.prog laid3 ((World.doorLaid Tryz.prog 400 os).forCall (fun _ _ => 0) ⟨#[], args, []⟩).memory :=
  laidMetH_of_parts3 (fuel := 8) (laidMet_of_run' 8 (by kernel_rfl) (by kernel_rfl)) (by kernel_rfl) (by kernel_rfl)
theorem powT : ((Tryz.prog.globalNamed "internal/strconv.uint64pow10").bind fun g => (Tryz.prog.globals[g]?).bind fun x => (Tryz.prog.underlying x.type).map fun d => (d, Tryz.prog.cellsOf x.type)) = some (.array 20 40, 20) := by kernel_rfl
theorem aC64 : Tryz.prog.cellsOf 40 = 1 := by kernel_rfl
/-- what the condition gives the walk -/
theorem tab_of0 {P : Program} {n : String} {W : World} {g2 : Nat} {t2 e : TypeId} {cs2 : Array Value} {f2 : Nat} {p2 : List MemPlace} {k : IntKind} {zs : List Int} {m : Nat} {enc : TypeId × Value → Unit} {base : Nat} {sp : Nat → Bool} {held : Bool}
    (hp : ((P.globalNamed n).bind fun g => (P.globals[g]?).bind fun x => (P.underlying x.type).map fun d => (d, P.cellsOf x.type)) = some (.array m e, m)) (he : P.underlying e = some (.int k)) (hce : P.cellsOf e = 1)
    (hg2 : P.globalNamed n = some g2) (ht2 : (P.globals[g2]?).map (·.type) = some t2) (hv2 : W.var? P n = some cs2) (hd2 : DataW.trod enc P W base sp held f2 t2 cs2.toList = some (Lib.tabData k zs, p2)) : Lib.TabIs P W n k zs := by
  rw [hg2, Option.bind_some] at hp
  cases hx : P.globals[g2]? with
  | none => rw [hx] at ht2; cases ht2
  | some x =>
    rw [hx] at ht2 hp
    rw [Option.map_some] at ht2
    injection ht2 with ht2
    subst ht2
    rw [Option.bind_some] at hp
    cases hu : P.underlying x.type with
    | none => rw [hu] at hp; cases hp
    | some d =>
      rw [hu, Option.map_some] at hp
      injection hp with hp
      injection hp with hp1 hp2
      subst hp1
      have hc := Lib.cells_of_tab (k := k) (zs := zs) hu he hce hp2 hd2
      unfold Lib.TabIs
      rw [hv2, ← hc]
theorem tab_of {W : World} (h : laidMetH Tryz.prog laid3 W) : iX W := by
  rw [MakeChecks.laidMetH_plain _ _ _ (by kernel_rfl)] at h
  obtain ⟨ps, ⟨g0, t0, cs0, f0, p0, q0, hg0, ht0, hv0, hd0, ⟨g1, t1, cs1, f1, p1, q1, hg1, ht1, hv1, hd1, ⟨g2, t2, cs2, f2, p2, q2, hg2, ht2, hv2, hd2, _, _⟩, _⟩, _⟩, _, _⟩ := h
  exact tab_of0 powT Tryz.underlying40 aC64 hg2 ht2 hv2 (zs := Lib.pow10Tab) hd2
set_option maxRecDepth 100000 in
theorem lifted (os : Os) (started : os.Started) (H : Type) (enc : TypeId × Value → H) :
    ReturnsInHanded Rows.ckptEncodesRow.assume Tryz.checked os 5 .any (fun w args => (Rows.ckptEncodesSpec.pre enc Tryz.prog Tryz.f5 [] false w args ∧ laidMetH Tryz.prog laid3 w) ∧ sizedMet enc Tryz.prog Tryz.f5 (OpenSpec.ofChange Rows.ckptEncodesSpec) false w args)
      (Rows.ckptEncodesSpec.post enc Tryz.prog Tryz.f5 false true false false) := by
  refine returnsInHanded_of_change_and (C := Tryz.checked) (X := fun w _ => laidMetH Tryz.prog laid3 w) (fun _ _ _ hh h => h.of_heap hh) own started (by kernel_rfl) Tryz.func5
    (ChangeSpec.witness_shaped (enc := enc) (C := Tryz.checked) (os := os) (X := fun w _ => laidMetH Tryz.prog laid3 w) false (World.doorLaid Tryz.prog 400 os) #[.slice none 0 0] 8 rfl (World.shaped_of_RefB (by kernel_rfl) (by kernel_rfl)) (by kernel_rfl) (by kernel_rfl) (by kernel_rfl) (door_met os _)) ?_
  intro W base args ds gs before hval0 hW hcnd hsz hL _
  have hval : ∀ (j : Nat) t v, Tryz.f5.params[j]? = some t → args[j]? = some v → Value.okWide Tryz.prog W .any base t v := hval0
  have hW' := hW
  obtain ⟨p, q, hA0, hV, rfl, hfz, hnd⟩ := hW
  have hA : DataW.TrodAll enc Tryz.prog W 0 (fun _ => true) true Tryz.f5.params.toList args.toList ds p := hA0
  have hsz' : (DataW.weightsEach Tryz.prog (Tryz.f5.params.toList ++ Rows.ckptEncodesSpec.plain.varTypes Tryz.prog) (ds ++ gs)).all (· ≤ reachBytes) = true := hsz
  rw [Tryz.params5] at hA hval hsz'
  obtain ⟨v0, vs0, d0, ds0, p0, q0, hargs, rfl, rfl, h0, r0⟩ := trodAll_cons hA
  obtain ⟨rfl, rfl, rfl⟩ := trodAll_nil r0
  obtain rfl : args = #[v0] := by cases args; simp_all
  obtain ⟨rfl, rfl⟩ := trodVars_none hV
  obtain ⟨a0, len0, cap0, rfl⟩ := okWide_slice Tryz.underlying61 (hval 0 61 v0 rfl rfl)
  have k0 := h0
  have lt0 : ∀ x ∈ p0, x.block < W.heap.size := by obtain ⟨m, hm⟩ := k0; exact DataW.trod_lt m _ _ _ hm
  have hRB : RB enc Tryz.prog W 61 [.slice a0 len0 cap0] := by
    obtain ⟨m, hm⟩ := h0
    exact ⟨m, d0, p0, hm, fun n hn => by
      have := List.all_eq_true.1 hsz' n (xM (j := 0) (t := 61) (d := d0) rfl rfl n hn)
      simpa using this⟩
  obtain ⟨o, len, cap, he, hlen, hel⟩ := hRB.states
  injection he with e1 e2 e3
  subst e1 e2 e3
  have htab := tab_of hL
  clear hA0 hval0
  refine (O5 a0 len0 cap0 W hlen hel htab).mono fun e W' ⟨he, bel⟩ => ?_
  subst he
  exact ⟨_, rfl, _, _, _, [], _, [], hW', trodAll_mk1 (shut_bool Tryz.underlying4 _), (trodAll_cons_mk (Below.trod laidOut (by kernel_rfl) (of_decide_eq_true (by kernel_rfl)) k0 bel lt0) trodAll_mk0), rfl, bel.frame _, fun h => by cases h⟩
theorem over : Rows.ckptEncodesRow.holds Tryz.pinned (OpenSpec.ofChange Rows.ckptEncodesSpec) :=
  OpenClaim.holds_of_wide 5 Tryz.f5 rfl rfl rfl rfl rfl rfl rfl ⟨rfl, rfl, rfl, rfl, rfl⟩ rfl rfl rfl rfl rfl (by kernel_rfl) Tryz.func5 (by kernel_rfl)
    (of_decide_eq_true (by kernel_rfl)) (by unfold Func.isWrapper; first | (rw [if_pos (by decide +kernel)]; kernel_rfl) | (rw [if_neg (by decide +kernel)]; exact ⟨rfl, rfl⟩))
    (fun os started H enc _ => lifted os started H enc)
/-- the card: the row, its listed tables tied to the program's text -/
theorem card : Rows.CkptEncodesCardSaid :=
  Claim7.holds_tied_plain_at .later [] [.data, .data, .data] true Rows.ckptEncodesCard.stood.harness true
    over (fun _ h => by cases h) (by kernel_rfl) (fun _ h => by cases h) ckptEncodes_row_tie rfl ⟨rfl, rfl⟩ (by kernel_rfl) rfl
    (fun f fn hf hfn => by
      obtain rfl : f = 5 := Option.some.inj ((show Tryz.prog.funcNamed "ratchet/ratchetlaw33.CkptEncodes" = some 5 by kernel_rfl).symm.trans hf) |>.symm
      obtain rfl : fn = Tryz.f5 := (Option.some.inj (Tryz.func5.symm.trans hfn)).symm
      exact ⟨by kernel_rfl, fun j t ht => by
        rw [Tryz.params5] at ht
        have hm : t ∈ [61] := by simpa using Array.mem_of_getElem? ht
        have hall : ([61].all fun u => !Tryz.prog.wantsStandIn u) = true := by kernel_rfl
        exact (show Tryz.prog.wantsStandIn t = false by simpa using List.all_eq_true.1 hall t hm)⟩)
    (by kernel_rfl)
#print axioms card
end Go.Proofs.YtjhkdocidcfpdaaGreatDoor.ckptEncodes
