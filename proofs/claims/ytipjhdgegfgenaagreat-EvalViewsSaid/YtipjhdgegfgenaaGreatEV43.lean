/-
  IS A VALUE TOO LARGE: ratchetlaw18.large of all kinds, only that it answers.
-/
import Derived.Test.YtipjhdgegfgenaaGreatEV40
import Derived.Test.YtipjhdgegfgenaaGreatEV41
import Derived.Test.YtipjhdgegfgenaaGreatEV42
import Derived.Test.YtipjhdgegfgenaaGreatEV39
import Derived.Test.YtipjhdgegfgenaaGreatEV20
import Derived.Test.YtipjhdgegfgenaaGreatEV35
set_option linter.unusedVariables false
set_option linter.unusedSimpArgs false
namespace Go.Proofs.YtipjhdgegfgenaaGreat
open Go.RowKit Go.Shelf Go
theorem large_any (op word : Int) (oa oi o1 o2 o3 o4 ol : Option Addr) (na ni n1 n2 n3 n4 ca ci c1 c2 c3 c4 nl cl : Nat) (al il : List Int) (cv : ConvD) (ls : List (List Int)) (w : World) (ha : Rd w .i64 (.slice oa na ca) al) (hi : Rd w .i64 (.slice oi ni ci) il) (hal : al.length ≤ 1000) (hil : il.length ≤ 1000)
    (hcv : ConvRd w (.slice o1 n1 c1) (.slice o2 n2 c2) (.slice o3 n3 c3) (.slice o4 n4 c4) cv) (hcn : n1 ≤ 6 ∧ n2 ≤ 6 ∧ n3 ≤ 6 ∧ n4 ≤ 6) (hls : ListsC w (.slice ol nl cl) ls) (hnl : nl ≤ 1000) (hlen : ∀ i, i < nl → (lnth ls i).length ≤ 1000000) :
    Calls Tryz.prog 15 #[.agg #[.int .i64 op, .slice oa na ca, .slice oi ni ci, .int .i64 word, .slice o1 n1 c1, .slice o2 n2 c2, .slice o3 n3 c3, .slice o4 n4 c4], .slice ol nl cl] w (fun e w' => HeavyOut True e ∧ Below w.heap.size w w') := by
  by_cases h1 : op = 23
  · subst h1; exact large_c23 word oa oi o1 o2 o3 o4 ol na ni n1 n2 n3 n4 ca ci c1 c2 c3 c4 nl cl al il cv ls w ha hi hal hil hcv hcn hls hnl hlen
  by_cases h2 : op = 24
  · subst h2; exact large_c24 word oa oi o1 o2 o3 o4 ol na ni n1 n2 n3 n4 ca ci c1 c2 c3 c4 nl cl al il cv ls w ha hi hal hil hcv hcn hls hnl hlen
  by_cases h3 : op = 25
  · subst h3; exact large_c25 word oa oi o1 o2 o3 o4 ol na ni n1 n2 n3 n4 ca ci c1 c2 c3 c4 nl cl al il cv ls w ha hi hal hil hcv hcn hls hnl hlen
  exact large_plain op word oa oi o1 o2 o3 o4 ol na ni n1 n2 n3 n4 ca ci c1 c2 c3 c4 nl cl al il cv ls w ha hi hal hil hcv hcn hls hnl hlen ⟨h1, h2, h3⟩
end Go.Proofs.YtipjhdgegfgenaaGreat
/-
  SHAPES of tensors, each within its capacity: ratchetref18.Shapes.
-/
set_option linter.unusedVariables false
set_option linter.unusedSimpArgs false
namespace Go.Proofs.YtipjhdgegfgenaaGreat
open Go.RowKit Go.Shelf Go
/-- the tensors' shapes lie within their capacities -/
def TCap (w : World) (v : Value) (n : Nat) : Prop := ∀ b off c, v = .slice (some ⟨b, off, none⟩) n c → ∀ i, i < n → ∀ p m k, w.cell? ⟨b, off + i * 2, none⟩ = some (.slice p m k) → m ≤ k
theorem TCap.below {w w' : World} {v : Value} {ts : List TensD} (h : TCap w v ts.length) (hr : TenssRd w v ts) (hb : Below w.heap.size w w') : TCap w' v ts.length := fun b off c hv i hi p m k hc => by
  obtain ⟨o, cap, he, hel⟩ := hr
  rw [hv] at he
  injection he with e1 e2 e3
  subst e1
  obtain ⟨b', off', vs, vd, hbo, h1, _⟩ := hel i hi
  cases hbo
  have h2 := (hb.cell (p := ⟨b, off + i * 2, none⟩) (cell_lt h1)).trans h1
  rw [h2] at hc
  cases hc
  exact h b off c hv i hi p m k h1
set_option maxRecDepth 100000 in
set_option maxHeartbeats 2000000 in
theorem shapesC_any (v : Value) (ts : List TensD) (w : World) (hr : TenssRd w v ts) (hcap : TCap w v ts.length) (hn : ts.length ≤ 1000) :
    Calls Tryz.prog 16 #[v] w fun e w' => (∃ v', e = .returned v' ∧ ListsC w' v' (ts.map TensD.sh)) ∧ Below w.heap.size w w' := by
  obtain ⟨i0, hi, hz0, hz1, hz2⟩ := info_parts info_intsV
  obtain ⟨o, cap, rfl⟩ := hr.slice
  have HR := Lib.hid hr
  have HCAP := Lib.hid hcap
  clear hr hcap
  go_enter Tryz.func16, Tryz.ntmps16
  go_wp2
  go_loopw [3, 4] (fun v i wr => ∃ (k : Nat) (us : List Value) (o7 : Option Addr) (c7 : Nat), k ≤ ts.length ∧ i = .int .i64 k ∧ v = .slice o7 k c7 ∧ us.length = k ∧ Hid (∀ j, j < k → ∃ p m c, us[j]? = some (.slice p m c) ∧ Rd w .i64 (.slice p m c) (tnth ts j).sh ∧ m ≤ c) ∧ Hid (wr.ownsRow w.heap.size 23 1 (.slice o7 k c7) k us ∧ Below w.heap.size w wr)) (fun _ i _ => ts.length - (intOf i).toNat)
  case atStart => exact ⟨0, [], none, 0, Nat.zero_le _, rfl, rfl, rfl, Lib.hid (fun j h => absurd h (by omega)), Lib.hid ⟨World.ownsRow_nil _ _ _ _, Below.refl _ _⟩⟩
  case round =>
    obtain ⟨k, us, o7, c7, hk, rfl, rfl, hul, HU, HO⟩ := hrel
    obtain ⟨w1, rfl⟩ : ∃ w1, w1 = wr := ⟨_, rfl⟩
    by_cases hlt : k < ts.length
    · obtain ⟨b, off, vs, vd, rfl, d0, d1, hs, hd⟩ := HR.out.tens k hlt
      have HS := Lib.hid hs
      obtain ⟨o6, k6, rfl⟩ := rd_slice hs
      have HK6 := Lib.hid (HCAP.out b off cap rfl k hlt _ _ _ d0)
      have e0 := (HO.out.2.cell (p := ⟨b, off + k * 2, none⟩) (cell_lt d0)).trans d0
      clear hs hd d0 d1
      generalize (tnth ts k).sh.length = ns at e0 HS HK6
      go_wp2_with (at_builtin; refine wpList_append_own _ rfl _ _ 29 rfl w.heap.size 23 i0 (.slice none 0 0) 1 24 Tryz.underlying29 hi hz0 hz1 hz2 rfl (by decide) _ _ _ rfl (HO.out.1.alloc _) ⟨w1.heap.size, 0, none⟩ 1 1 [.slice o6 ns k6] rfl rfl (cell_one_new _ _ _) (by simp [Value.oneCell']) (by unfold maxLen; omega) (by omega) (by have := HO.out.2.size; simp; omega) ?_; intro v' w6 hown' hgrow _; refine stopHere ?_)
      have HV := Lib.hid (And.intro hown' (below_append HO.out.2 (Nat.le_refl _) HO.out.1 hgrow))
      clear hown' hgrow e0
      obtain ⟨o9, c9, rfl⟩ := own_slice HV.out.1
      refine goOn ?_
      go_wp2_with fail
      go_roundw
      case rel =>
        refine ⟨k + 1, us ++ [.slice o6 ns k6], o9, c9, by omega, by go_num, rfl, by simp [hul], Lib.hid (fun j hj => ?_), Lib.hid ⟨HV.out.1, HV.out.2⟩⟩
        by_cases hjk : j < k
        · obtain ⟨p, m, c, h1, h2⟩ := HU.out j hjk
          exact ⟨p, m, c, by rw [List.getElem?_append_left (by omega)]; exact h1, h2⟩
        · obtain rfl : j = k := by omega
          exact ⟨_, _, _, by rw [List.getElem?_append_right (by omega), hul]; simp, HS.out, HK6.out⟩
      case measure => simp [intOf]; omega
    · obtain rfl : k = ts.length := by omega
      have HF := Lib.hid (show ListsC w1 (.slice o7 ts.length c7) (ts.map TensD.sh) by
        refine ⟨o7, c7, by simp, fun i hi => ?_⟩
        have hi2 : i < ts.length := by simpa using hi
        obtain ⟨p, m, c, h1, h2, hmc⟩ := HU.out i hi2
        rcases HO.out.1.2 with ⟨h3, _⟩ | ⟨g', cap', cur, h3, _⟩
        · injection h3 with q1 q2 q3; omega
        · simp at h3
          obtain ⟨rfl, _⟩ := h3
          refine ⟨g', 0, p, m, c, rfl, by have := (own_cells HO.out.1 i h1).1; simpa using this, ?_, hmc⟩
          have : lnth (ts.map TensD.sh) i = (tnth ts i).sh := by rw [lnth, List.getD_eq_getElem?_getD, List.getElem?_eq_getElem hi, Option.getD_some, List.getElem_map, tnth_eq ts i hi2]
          rw [this]
          exact h2.below HO.out.2 (Nat.le_refl _))
      go_wp2_with fail
      go_ret
      exact ⟨⟨_, rfl, HF.out⟩, HO.out.2⟩
end Go.Proofs.YtipjhdgegfgenaaGreat
