/-
  THE ITERATOR over a shape's indexes: shape.All.
-/
import Derived.Sort.LoopGhostIn
import Derived.RangeFuncNested
import Derived.RangeFuncBound
import Derived.RangeFuncOne
import Derived.OrdersIn
import Derived.StillTail
import Derived.StillTactics
import Derived.RegionIn
import Derived.Stop.RegionWithIn
import Derived.Test.YtipjhdgegfgenaaGreatEV07
import Derived.Test.YtipjhdgegfgenaaGreatEV09
import Derived.Test.YtipjhdgegfgenaaGreatEV02
set_option linter.unusedVariables false
set_option linter.unusedSimpArgs false
namespace Go.Proofs.YtipjhdgegfgenaaGreat
open Go.RowKit Go.Shelf Go
theorem dims_good {ns : List Nat} (h : shapeB (ints ns) = true) : DimsN ns := by
  obtain ⟨h1, h2, _⟩ := (show (ints ns).length ≤ 4 ∧ (ints ns).all dimB = true ∧ prodL (ints ns) ≤ 65536 by
    simp only [shapeB, Bool.and_eq_true, decide_eq_true_eq] at h; exact ⟨h.1.1, h.1.2, h.2⟩)
  refine ⟨fun d hd => ?_, by rw [ints_length] at h1; exact h1⟩
  have := List.all_eq_true.1 h2 (d : Int) (List.mem_map.2 ⟨d, hd, rfl⟩)
  rw [dimB_iff] at this; omega
theorem prod_good {ns : List Nat} (h : shapeB (ints ns) = true) : prodN ns ≤ 65536 := by
  have h3 : prodL (ints ns) ≤ 65536 := by simp only [shapeB, Bool.and_eq_true, decide_eq_true_eq] at h; exact h.2
  rw [prodL_ints] at h3; omega
theorem dims_all {ns : List Nat} (h : shapeB (ints ns) = true) : (ints ns).all dimB = true := by
  simp only [shapeB, Bool.and_eq_true, decide_eq_true_eq] at h; exact h.1.2
set_option maxRecDepth 100000 in
set_option maxHeartbeats 2000000 in
theorem shapeAll_any (v : Value) (ns : List Nat) (w : World) (hr : Rd w .i64 v (ints ns)) (hl : ns.length ≤ 1000) :
    Calls Tryz.prog 99 #[v] w fun e w' => e = .returned (.func (.func 146) #[] #[.pointer (some ⟨w.heap.size, 0, none⟩)]) ∧ Below w.heap.size w w' ∧ ∃ u, Box w' w.heap.size 23 #[u] ∧ OwnI w' w.heap.size 3 .i64 u (ints ns) := by
  have hmf : ∀ (fn : Fn) (first cap : Array Value) (w : World), (Instr.makeFunc fn first cap).run Tryz.prog w = .ok (.func fn first cap) w := fun _ _ _ _ => rfl
  have HR := Lib.hid hr
  obtain ⟨o, cap, rfl⟩ := rd_slice hr
  have hln : (ints ns).length ≤ 1000 := by rw [ints_length]; exact hl
  obtain ⟨W, hW⟩ : ∃ W, W = w.alloc (.cells #[.slice o (ints ns).length cap] 23) := ⟨_, rfl⟩
  have hB : Below w.heap.size w W := by rw [hW]; exact (Below.refl _ _).alloc (Nat.le_refl _) _
  have hbx : Box W w.heap.size 23 #[.slice o (ints ns).length cap] := by rw [hW]; exact Box.new _ _ _
  have HX := Lib.hid (And.intro hB hbx)
  have HW := Lib.hid hW
  clear hr hl hW hB hbx
  go_enter Tryz.func99, Tryz.ntmps99
  go_wp2_with (go_at_call 104; rw [← HW.out]; refine (cloneInts_any _ _ W (HR.out.below HX.out.1 (Nat.le_refl _)) (by omega)).mono ?_; rintro e w1 ⟨⟨va, rfl, hoa⟩, hba⟩; refine stopHere ?_)
  obtain ⟨oa, ca, rfl⟩ := own_slice hoa
  have HX1 := Lib.hid (And.intro (HX.out.1.trans (hba.mono HX.out.1.size)) (HX.out.2.next hba))
  have HOA := Lib.hid hoa
  clear hoa hba
  have HNE := Lib.hid (show ∀ g, (Value.slice oa (ints ns).length ca).ownBlock = some g → w.heap.size < g from fun g hg => Nat.lt_of_lt_of_le HX.out.2.lt (HOA.out.lt g hg).1)
  have c0 := HX1.out.2.cell 0 rfl
  have f0 := HX1.out.2.free 0
  refine goOn ?_
  go_wp2
  go_ret
  refine ⟨rfl, HX1.out.1.setCell (p := ⟨w.heap.size, 0, none⟩) (Nat.le_refl _) _, _, HX1.out.2.set 0 _, ?_⟩
  exact own_mono (ownsRow_setCell_other HOA.out (fun h => by have := HNE.out _ h; simp at this) _) HX.out.1.size
/-- an index handed over: its place, its row -/
structure IxX where
  n : Nat
  v : Value
def ixEnc (x : IxX) : Array Value := #[.int .i64 x.n, x.v]
/-- what the iterator over a shape reads -/
def AllF (ab : Nat) (u : Value) (ns : List Nat) (W : World) : Prop := Box W ab 23 #[u] ∧ Rd W .i64 u (ints ns)
theorem AllF.next {ab : Nat} {u : Value} {ns : List Nat} {W W' : World} (h : AllF ab u ns W) (hb : Below W.heap.size W W') : AllF ab u ns W' := ⟨h.1.next hb, h.2.below hb (Nat.le_refl _)⟩
attribute [local go_sem] Oper.semAt_some
set_option maxRecDepth 100000 in
set_option maxHeartbeats 4000000 in
theorem all1_seq (ik : Obj → Prop) (Kp : World → World → Prop) (n₀ ab : Nat) (u : Value) (ns : List Nat) (w : World) (n : Nat) (hn : 1 ≤ n) (hf : AllF ab u ns w) (hg : shapeB (ints ns) = true) (hn0 : n₀ ≤ w.heap.size)
    (hK : ∀ W W', Kp W W' → W.heap.size ≤ W'.heap.size ∧ (AllF ab u ns W → AllF ab u ns W')) :
    SeqN ik Fence.wide n Tryz.prog 146 #[.pointer (some ⟨ab, 0, none⟩)] ixEnc (fun pre x W => x.n = pre.length ∧ x.n < prodN ns ∧ OwnI W n₀ 3 .i64 x.v (ints (standsN ns x.n)))
      Kp (fun xs => xs.map (·.n) = List.range (prodN ns)) (fun _ => True) w := by
  intro l J Jx W hWw hJ hJx hround h0
  have hfW := hf.next hWw
  have hnW : n₀ ≤ W.heap.size := Nat.le_trans hn0 hWw.size
  obtain ⟨ou, cu, rfl⟩ := rd_slice hfW.2
  obtain ⟨m, hm⟩ : ∃ m, m = (ints ns).length := ⟨_, rfl⟩
  rw [← hm] at hfW hK
  rw [← hm] at hf
  have HJ := Lib.hid hJ
  have HY := Lib.hid hround
  have HG := Lib.hid hg
  have HK := Lib.hid hK
  have HD := Lib.hid (dims_good hg)
  have HM := Lib.hid hm
  have hm4 : m ≤ 4 := by rw [hm, ints_length]; exact (dims_good hg).2
  obtain ⟨N, hN⟩ : ∃ N, N = prodN ns := ⟨_, rfl⟩
  have hN6 : N ≤ 65536 := by rw [hN]; exact prod_good hg
  have HN := Lib.hid hN
  have HGOOD := Lib.hid (show ∀ W', AllF ab (.slice ou m cu) ns W' → Calls Tryz.prog 102 #[.slice ou m cu] W' fun e w' => e = .returned (.bool true) ∧ Same W' w' from fun W' h => by
    have := shapeGood_any _ (ints ns) W' h.2 (by omega)
    rw [HG.out] at this; exact this)
  have HSIZE := Lib.hid (show ∀ W', AllF ab (.slice ou m cu) ns W' → Calls Tryz.prog 110 #[.slice ou m cu] W' fun e w' => e = .returned (.int .i64 (N : Int)) ∧ Same W' w' from fun W' h => by
    have := shapeSize_any _ (ints ns) W' h.2 (dims_all HG.out) (by omega)
    rw [prodL_ints, ← HN.out] at this; exact this)
  have HF := Lib.hid hfW
  have c0 : W.cell? ⟨ab, 0, none⟩ = some (.slice ou m cu) := hfW.1.cell 0 rfl
  have HJ0 := Lib.hid h0
  refine callsIn_of_wp Tryz.func146 rfl trivial ?_ rfl
  simp only [Tryz.ntmps146, List.size_toArray, List.length_cons, List.length_nil, Nat.reduceAdd, Nat.reduceSub, Array.replicate_succ, Array.replicate_zero, List.push_toArray, List.append_toArray, List.nil_append, List.cons_append]
  clear hf hfW hWw hJ hJx hround h0 hg hK hm hN
  gi_wp2_with (refine ⟨trivial, ?_⟩; gi_at_call 102; refine (callsIn_wide.2 (HGOOD.out _ HF.out)).mono ?_; rintro e w1 ⟨rfl, hsm⟩; refine stopHere ?_)
  have HF1 := Lib.hid (HF.out.next (hsm.below _))
  have HJ1 := Lib.hid (HJ.out [] W w1 none HJ0.out ⟨(hsm.below W.heap.size).os, (hsm.below W.heap.size).tape, (hsm.below W.heap.size).output, (hsm.below W.heap.size).size, fun k hk _ => (hsm.below W.heap.size).block k hk⟩ (fun r e => by cases e))
  have hn1 : n₀ ≤ w1.heap.size := Nat.le_trans hnW (hsm.below W.heap.size).size
  clear hsm c0 HF HJ0
  have c0 : w1.cell? ⟨ab, 0, none⟩ = some (.slice ou m cu) := HF1.out.1.cell 0 rfl
  refine goOn ?_
  gi_wp2_with (refine ⟨trivial, ?_⟩; gi_at_call 110; refine (callsIn_wide.2 (HSIZE.out _ HF1.out)).mono ?_; rintro e w2 ⟨rfl, hsm⟩; refine stopHere ?_)
  have HF2 := Lib.hid (HF1.out.next (hsm.below _))
  have HJ2 := Lib.hid (HJ.out [] w1 w2 none HJ1.out ⟨(hsm.below w1.heap.size).os, (hsm.below w1.heap.size).tape, (hsm.below w1.heap.size).output, (hsm.below w1.heap.size).size, fun k hk _ => (hsm.below w1.heap.size).block k hk⟩ (fun r e => by cases e))
  have hn2 : n₀ ≤ w2.heap.size := Nat.le_trans hn1 (hsm.below w1.heap.size).size
  clear hsm c0 HF1 HJ1
  refine goOn ?_
  gi_wp2
  gi_loopg [9] N (fun g i wr => ∃ (k : Nat) (pre : List IxX), g = N - k ∧ k ≤ N ∧ i = .int .i64 k ∧ n₀ ≤ wr.heap.size ∧ Hid (AllF ab (.slice ou m cu) ns wr ∧ J pre wr ∧ pre.map (·.n) = List.range k))
  case atStart => exact ⟨0, [], rfl, Nat.zero_le _, rfl, hn2, Lib.hid ⟨HF2.out, HJ2.out, rfl⟩⟩
  case round =>
    obtain ⟨k, pre, rfl, hk, rfl, hnr, HR⟩ := hrel
    obtain ⟨w3, rfl⟩ : ∃ w3, w3 = wr := ⟨_, rfl⟩
    clear HF2 HJ2
    by_cases hlt : k < N
    · have c0 : w3.cell? ⟨ab, 0, none⟩ = some (.slice ou m cu) := HR.out.1.1.cell 0 rfl
      gi_wp2_with (refine ⟨trivial, ?_⟩; gi_at_call 147; refine (callsIn_wide.2 (shapeStands_any _ ns k w3 HR.out.1.2 HD.out (by omega))).mono ?_; rintro e w4 ⟨⟨v, rfl, hw⟩, hb4⟩; refine stopHere ?_)
      have hj1 := HJ.out pre w3 w4 none HR.out.2.1 ⟨hb4.os, hb4.tape, hb4.output, hb4.size, fun k hk _ => hb4.block k hk⟩ (fun r e => by cases e)
      have HF4 := Lib.hid (HR.out.1.next hb4)
      have hpl : pre.length = k := by have := congrArg List.length HR.out.2.2; simpa using this
      obtain ⟨fn, tmps, assign, body, hy, hR⟩ := HY.out pre ⟨k, v⟩ w4 hj1 ⟨hpl.symm, by rw [← HN.out]; exact hlt, own_mono hw hnr⟩
      have hs4 : n₀ ≤ w4.heap.size := Nat.le_trans hnr hb4.size
      have HRR := Lib.hid hR
      clear hR hj1 hb4 hw c0 hpl
      simp only [ixEnc] at hy
      refine goOn ?_
      gi_wp2
      refine HRR.out.mono ?_
      clear HRR hy
      rintro e W' ⟨_, (⟨rfl, hj', hkp⟩ | ⟨rfl, hjx⟩)⟩
      · have hk2 := HK.out _ _ hkp
        have HF5 := Lib.hid (And.intro (hk2.2 HF4.out) (And.intro hj' (show (pre ++ [(⟨k, v⟩ : IxX)]).map (·.n) = List.range (k + 1) by rw [List.map_append, HR.out.2.2, List.range_succ]; rfl)))
        have hs5 : n₀ ≤ W'.heap.size := Nat.le_trans hs4 hk2.1
        clear hj' hkp hk2
        gi_wp2
        gi_roundg (N - (k + 1))
        case measure => omega
        case rel => exact ⟨k + 1, pre ++ [⟨k, v⟩], rfl, by omega, by go_num, hs5, HF5⟩
      · have HJX := Lib.hid hjx
        clear hjx
        gi_wp2
        refine bodyPost_ret (results_none rfl _ _ _) rfl ?_
        first | exact ⟨⟨_, rfl⟩, .inr ⟨_, trivial, HJX.out⟩⟩ | exact ⟨⟨_, rfl⟩, .inr ⟨_, HJX.out⟩⟩
    · obtain rfl : k = N := by omega
      have HE := Lib.hid (show pre.map (·.n) = List.range (prodN ns) by rw [HR.out.2.2, HN.out])
      gi_wp2
      first | (go_end0; exact ⟨⟨_, rfl⟩, .inl ⟨pre, HE.out, HR.out.2.1⟩⟩) | (refine bodyPost_ret (results_none rfl _ _ _) rfl ?_; exact ⟨⟨_, rfl⟩, .inl ⟨pre, HE.out, HR.out.2.1⟩⟩)
end Go.Proofs.YtipjhdgegfgenaaGreat
/-
  INSIDE A ROUND of a range over a function, under the wide fence: what is shown of an operation, of a region, as ever holds there.
-/
set_option linter.unusedVariables false
set_option linter.unusedSimpArgs false
namespace Go.Proofs.YtipjhdgegfgenaaGreat
open Go
theorem callsIn_round {l n : Nat} {P : Program} {f : FuncId} {args : Array Value} {w : World} {R : Ending → World → Prop} (h : Calls P f args w R) : CallsIn (Fence.wide.inRound l) n P f args w R := by
  have := (callsIn_wide (n := n)).2 h
  exact ⟨trivial, this.2⟩
theorem rowsIn_round {l n : Nat} {P : Program} {row : String} {args : Array Value} {w : World} {R : Value → World → Prop} (h : Rows P row args w R) : RowsIn (Fence.wide.inRound l) n P row args w R := fun c cs _ => by
  obtain ⟨v, w', r, s⟩ := h c cs
  exact ⟨v, w', r, stepsIn_wide.2 s⟩
theorem uponIn_of {l n : Nat} {P : Program} {o : Oper} {a : Act} {K : Act → World → Prop} {Q : Exit → Act → World → Prop} {r : Result Next} (h : o.upon P a K Q r) : o.uponIn (Fence.wide.inRound l) n P a K Q r := by
  cases r with
  | ok x w' =>
    cases x <;> first
      | exact h
      | exact (h : False).elim
      | exact ⟨fun h => by simp [Fence.wide, Fence.inRound] at h, callsIn_round h⟩
      | exact ⟨fun h => by simp [Fence.wide, Fence.inRound] at h, rowsIn_round h⟩
  | halt x w' => cases x <;> exact h
theorem operIn_of {l n : Nat} {P : Program} {o : Oper} {a : Act} {w : World} {K : Act → World → Prop} {Q : Exit → Act → World → Prop} (hd : ∀ c, o.op ≠ .defer c) (h : o.wp P a w K Q) : o.wpIn (Fence.wide.inRound l) n P a w K Q := by
  refine ⟨fun _ _ => trivial, ?_⟩
  rw [Fence.inRound_round, Oper.semAt_some l _ _ hd]
  exact uponIn_of h
theorem wpOpIn_of {l n : Nat} {P : Program} {ops : Array Oper} {i : Nat} {a : Act} {w : World} {K K' : Act → World → Prop} {Q : Exit → Act → World → Prop} (hd : ∀ (j : Nat) (o : Oper) c, ops[j]? = some o → o.op ≠ .defer c) (hL : ¬ LetsOut Q)
    (hK : ∀ a w, K a w → K' a w) (h : wpOp P ops Q i K a w) : wpOpIn (Fence.wide.inRound l) n P ops Q i K' a w := by
  unfold wpOp at h
  unfold wpOpIn
  cases ho : ops[i]? with
  | none => rw [ho] at h; exact hK _ _ h
  | some o =>
    rw [ho] at h
    simp only at h ⊢
    split
    · rename_i hw
      rw [if_pos hw] at h
      rcases h with h | h
      · exact Oper.wpIn_mono hK (operIn_of (fun c => hd i o c ho) h)
      · exact absurd h.2 hL
    · rename_i hw
      rw [if_neg hw] at h
      exact ⟨fun _ _ => trivial, hK _ _ h⟩
theorem wpAnyIn_of {l n : Nat} {P : Program} {md : Region.Mode} {ops : Array Oper} {Q : Exit → Act → World → Prop} (hd : ∀ (j : Nat) (o : Oper) c, ops[j]? = some o → o.op ≠ .defer c) (hL : ¬ LetsOut Q) :
    ∀ (fuel : Nat) (listed : Array Bool) (a : Act) (w : World), wpAny P md ops Q fuel listed a w → wpAnyIn (Fence.wide.inRound l) n P md ops Q fuel listed a w
  | 0, _, _, _, h => h
  | fuel + 1, listed, a, w, h => ⟨h.1, fun i hi => wpOpIn_of hd hL (fun a' w' h' => wpAnyIn_of hd hL fuel _ a' w' h') (h.2 i hi)⟩
/-- a region that draws its order, inside a round: by the walk as ever -/
theorem wpIn_region_of {l n : Nat} {P : Program} {id : Nat} {ops : Array Oper} {Q : Exit → Act → World → Prop} {a : Act} {w : World} (hm : P.follows .mixedOrders = true) (hd : ∀ (j : Nat) (o : Oper) c, ops[j]? = some o → o.op ≠ .defer c) (hL : ¬ LetsOut Q)
    (h : wpAny P .any ops Q ops.size (Array.replicate ops.size false) a w.drew) : (Code.region id ops true).wpIn (Fence.wide.inRound l) n P Q a w :=
  wpIn_region_any hm (wpAnyIn_of hd hL _ _ _ _ h)
theorem operIn_of_still {m : Nat} {P : Program} {o : Oper} {a : Act} {w : World} {K : Act → Prop} {K' : Act → World → Prop} {Q : Exit → Act → World → Prop} (h : ∀ a, K a → K' a w) (hh : o.still P a w K) : o.wpIn Fence.wide m P a w K' Q := by
  refine ⟨fun _ _ => trivial, ?_⟩
  have e : o.semAt Fence.wide.round a.eval = execOp a.eval o := rfl
  rw [e]
  unfold Oper.still at hh
  generalize (execOp a.eval o).run P w = r at *
  cases r with
  | ok x w' =>
    cases x with
    | value v => obtain ⟨rfl, h2⟩ := hh; exact h _ h2
    | skip => obtain ⟨rfl, h2⟩ := hh; exact h _ h2
    | enter f args =>
      obtain ⟨rfl, v, hc, h2⟩ := hh
      exact ⟨fun h => by simp [Fence.wide] at h, callsIn_wide.2 (hc.mono fun e w'' ⟨he, hw⟩ => by subst he; subst hw; exact h _ h2)⟩
    | _ => exact (hh : False).elim
  | halt x w' => cases x <;> exact (hh : False).elim
theorem wpOpIn_of_stOp {m : Nat} {P : Program} {ops : Array Oper} {w : World} {i : Nat} {a : Act} {K : Act → Prop} {K' : Act → World → Prop} {Q : Exit → Act → World → Prop} (h : ∀ a, K a → K' a w) (hh : stOp P ops w i K a) : wpOpIn Fence.wide m P ops Q i K' a w := by
  unfold stOp at hh
  unfold wpOpIn
  cases ho : ops[i]? with
  | none => rw [ho] at hh; exact h _ hh
  | some o =>
    rw [ho] at hh
    simp only at hh ⊢
    split
    · rename_i hw; rw [if_pos hw] at hh; exact operIn_of_still h hh
    · rename_i hw; rw [if_neg hw] at hh; exact ⟨fun _ _ => trivial, h _ hh⟩
theorem wpAnyIn_of_head {m n g : Nat} {P : Program} {md : Region.Mode} {ops : Array Oper} {w : World} {L : Array Bool → Act → Prop} {Q : Exit → Act → World → Prop} (hL : ∀ listed a, L listed a → wpAnyIn Fence.wide m P md ops Q g listed a w) :
    ∀ (f : Nat) (listed : Array Bool) (a : Act), wpAnyL P md ops w n L f listed a → wpAnyIn Fence.wide m P md ops Q (f + g) listed a w
  | 0, listed, a, h => by rw [Nat.zero_add]; exact hL _ _ h
  | f + 1, listed, a, h => by
    rw [show f + 1 + g = (f + g) + 1 by omega]
    exact ⟨fun h0 => absurd h0 h.1, fun i hi => wpOpIn_of_stOp (fun a' h' => wpAnyIn_of_head hL f _ a' h') (h.2 i hi).2⟩
theorem wpAnyIn_of_seq {m : Nat} {P : Program} {md : Region.Mode} {ops : Array Oper} {Q : Exit → Act → World → Prop} : ∀ (l : List Oper) (k : Nat) (listed : Array Bool) (a : Act) (w : World), (∀ j, l[j]? = ops[k + j]?) →
    Region.seqB md ops l.length k listed = true → wpListIn Fence.wide m P ops Q l a w → wpAnyIn Fence.wide m P md ops Q l.length listed a w
  | [], _, _, _, _, _, hB, h => ⟨by simpa [Region.seqB] using hB, h⟩
  | o :: l, k, listed, a, w, hl, hB, h => by
    have h0 : ops[k]? = some o := by simpa using (hl 0).symm
    simp only [List.length_cons, Region.seqB, Bool.and_eq_true, decide_eq_true_eq] at hB
    refine ⟨fun h1 => (by rw [hB.1] at h1; cases h1), fun i hi => ?_⟩
    rw [hB.1] at hi
    have hik : i = k := by simpa using hi
    subst hik
    have hw : wpOpIn Fence.wide m P ops Q i (wpListIn Fence.wide m P ops Q l) a w := by
      unfold wpOpIn
      simp only [h0]
      exact h
    exact wpOpIn_mono (fun a' w' h' => wpAnyIn_of_seq l (i + 1) _ a' w' (fun j => by have := hl (j + 1); simpa [Nat.add_assoc, Nat.add_comm 1 j] using this) hB.2 h') hw
/-- inside the wide fence: a region of which all but its tail, in one forced order, leaves the world alone -/
theorem wpIn_region_still_tail {m : Nat} {P : Program} {id : Nat} {Q : Exit → Act → World → Prop} {a : Act} {w : World} {l : List Oper} (n : Nat) (hm : P.follows .mixedOrders = true) (hB : Region.lexTailB .any l.toArray n = true)
    (h : wpStill P l.toArray w.drew (fun a' => wpListIn Fence.wide m P l.toArray Q (l.drop n) a' w.drew) (l.take n) a) : (Code.region id l.toArray true).wpIn Fence.wide m P Q a w := by
  simp only [Region.lexTailB, Bool.and_eq_true, decide_eq_true_eq] at hB
  obtain ⟨⟨⟨⟨hsel, hn⟩, hs⟩, hc⟩, hlex⟩ := hB
  have hn' : n < l.length := by simpa using hn
  have htl : (l.take n).length = n := by simp; omega
  have hdl : (l.drop n).length = l.toArray.size - n := by simp
  have inv0 : HeadInv .any l.toArray n (Array.replicate l.toArray.size false) :=
    ⟨by simp, fun j oj _ hl => (by rw [getD_replicate_false] at hl; cases hl), fun t _ ht => getD_in (by simpa using ht) (getD_replicate_false _ _)⟩
  have H := wpAnyL_lex (md := .any) (g := l.toArray.size - n) hsel hs hc hn (l.take n) 0 _ a (fun j hj => by
    have hj' : j < n := by rw [htl] at hj; exact hj
    simp [hj']) (by simpa using htl) inv0 (by rw [htl]; exact hlex) h
  refine wpIn_region_any hm ?_
  have := wpAnyIn_of_head (m := m) (Q := Q) (g := l.toArray.size - n) (fun listed a' hL => by
    have := wpAnyIn_of_seq (m := m) (md := .any) (Q := Q) (l.drop n) n listed a' w.drew (fun j => by simp [List.getElem?_drop]) (by rw [hdl]; exact hL.1) hL.2
    rwa [hdl] at this) _ _ _ H
  rw [htl, show n + (l.toArray.size - n) = l.toArray.size by omega] at this
  exact this
end Go.Proofs.YtipjhdgegfgenaaGreat
