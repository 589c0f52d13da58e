/-
  What a round over the sorted names must keep.
-/
import Derived.RangeFuncNested
import Derived.RangeFuncBound
import Derived.RangeFuncOne
import Derived.RangeFuncCalls
import Derived.RangeFuncLeaves
import Derived.OwnWalkIn
import Derived.TacticsInMore
import Derived.LoopNIn
import Derived.LoopIn
import Derived.Deep.DeepCutAuto
import Derived.OrdersIn
import Derived.StillTail
import Derived.StillTactics
import Derived.RegionIn
import Derived.Stop.RegionWithIn
import Derived.OrdersHeld
import Derived.Deep.RegionHeld3
import Derived.Maps.AppendAt
import Derived.Test.YtejmbhckfdfoeaaEM02
import Derived.Test.YtejmbhckfdfoeaaEM06
import Derived.Test.YtejmbhckfdfoeaaEM05
import Derived.Test.YtejmbhckfdfoeaaEM04
import Derived.Test.YtejmbhckfdfoeaaEM01
set_option linter.unusedVariables false
set_option linter.unusedSimpArgs false
namespace Go.Proofs.Ytejmbhckfdfoeaa
open Go.RowKit Go.Maps
attribute [local go_sem] Oper.semAt_some
/-- what a round may not turn: maps, rows of strings, boxes of maps -/
def kObj : Obj → Bool
  | .map .. => true
  | .cells _ t _ => t == 9 || t == 62
  | _ => false
structure KeepD (w w' : World) : Prop where
  size : w.heap.size ≤ w'.heap.size
  keep : ∀ (k : Nat) (o : Obj), w.heap[k]? = some o → kObj o = true → w'.heap[k]? = some o
theorem KeepD.refl (w : World) : KeepD w w := ⟨Nat.le_refl _, fun _ _ h _ => h⟩
theorem KeepD.trans {a b c : World} (h : KeepD a b) (k : KeepD b c) : KeepD a c := ⟨Nat.le_trans h.size k.size, fun i o h1 h2 => k.keep i o (h.keep i o h1 h2) h2⟩
theorem KeepD.below {w w' : World} (h : Below w.heap.size w w') : KeepD w w' := ⟨h.size, fun k o hk _ => (h.block k (Array.getElem?_eq_some_iff.1 hk).1).trans hk⟩
theorem KeepD.heap {w w' : World} (h : w'.heap = w.heap) : KeepD w w' := ⟨by rw [h]; exact Nat.le_refl _, fun k o hk _ => by rw [h]; exact hk⟩
theorem KeepD.box {w w' : World} (h : KeepD w w') {b : Nat} {T : TypeId} {cs : Array Value} (hb : Box w b T cs) (hT : kObj (.cells cs T (0, 0)) = true) : Box w' b T cs := h.keep b _ hb hT
theorem KeepD.map {w w' : World} (h : KeepD w w') {b : Nat} {l : NM} (hm : MapRep w b l) : MapRep w' b l := by
  obtain ⟨es, c, hh⟩ := hm.isMap
  exact hm.block ((h.keep b _ hh rfl).trans hh.symm)
theorem KeepD.row {w w' : World} (h : KeepD w w') {B s n : Nat} {v : Value} {xs : List Value} (ho : w.ownsRow B 9 s v n xs) : w'.ownsRow B 9 s v n xs := by
  refine ⟨ho.1, ?_⟩
  rcases ho.2 with hn | ⟨g, cap, cur, rfl, hb, hgg, rest⟩
  · exact .inl hn
  · exact .inr ⟨g, cap, cur, rfl, hb, h.keep g _ hgg rfl, rest⟩
theorem KeepD.grown {w w' : World} {r : Option Nat} (hg : w.grownBy w' r) (hr : ∀ k, r = some k → ∀ o, w.heap[k]? = some o → kObj o = false) : KeepD w w' :=
  ⟨hg.size, fun k o hk ho => (hg.block k (Array.getElem?_eq_some_iff.1 hk).1 (fun e => by have := hr k e.symm o hk; rw [ho] at this; cases this)).trans hk⟩
theorem KeepD.set {w : World} {b j : Nat} {T : TypeId} {cs : Array Value} (hb : Box w b T cs) (hT : kObj (.cells cs T (0, 0)) = false) (v : Value) : KeepD w (w.setCell ⟨b, j, none⟩ v) :=
  ⟨by simp [World.setCell], fun k o hk ho => (Below.heap_setCell _ _ _ _ (fun e => by
    simp at e; subst e; unfold Box at hb; rw [hb] at hk; cases hk; rw [hT] at ho; cases ho)).trans hk⟩
theorem keepD_b {n₀ : Nat} {w : World} (W : World) (l : Nat) (o o' : Obj) (h : W.heap[l]? = some o) (hc : o.isCells = false) (hw : o.isWalk = false) : KeepD W (W.putObj l o') := by
  refine ⟨by simp [World.putObj], fun k o1 hk ho => ?_⟩
  by_cases e : k = l
  · subst e
    rw [h] at hk
    cases hk
    cases o <;> simp_all [kObj, Obj.isCells, Obj.isWalk]
  · exact (World.putObj_heap_other (by omega)).trans hk
theorem own_cell {w : World} {B : Nat} {e : TypeId} {v : Value} {n : Nat} {xs : List Value} (h : w.ownsRow B e 1 v n xs) (j : Nat) (hj : j < n) :
    ∃ g cap, v = .slice (some ⟨g, 0, none⟩) n cap ∧ ∀ u, xs[j]? = some u → w.cell? ⟨g, j, none⟩ = some u := by
  rcases h.2 with ⟨rfl, hn⟩ | ⟨g, cap, cur, rfl, hb, hgg, _, _, _, ht⟩
  · omega
  · refine ⟨g, cap, rfl, fun u hu => ?_⟩
    rw [cell_of_row w g j cur e (0, 0) hgg]
    rw [← ht, List.getElem?_take] at hu
    split at hu
    · simpa using hu
    · cases hu
abbrev nmEnc (l : NM) (i : Fin l.length) : Array Value := #[encStr l[i].1, ptrV (some l[i].2)]
end Go.Proofs.Ytejmbhckfdfoeaa
/-
  The sorted iterator: a round for each name, by rising names.
-/
set_option linter.unusedVariables false
set_option linter.unusedSimpArgs false
namespace Go.Proofs.Ytejmbhckfdfoeaa
open Go.RowKit Go.Maps Go.Shelf
attribute [local go_sem] Oper.semAt_some
set_option maxRecDepth 100000 in
set_option maxHeartbeats 2000000 in
theorem sorted1_stops (m cb b : Nat) (l : NM) (w : World) (hC : Box w cb 62 #[.map (some b)]) (hM : MapRep w b l) (hl : l.length ≤ 1000000) (hnm : ∀ q ∈ l, q.1.length ≤ maxLen) :
    SeqStopsK Fence.wide m Try.prog 56 #[.pointer (some ⟨cb, 0, none⟩)] (nmEnc l) KeepD (fun xs => xs = List.finRange l.length) (fun _ => True) l.length w := fun lp J Jx W hBW hJa hJx hY h0 => by
  refine callsIn_of_wp Try.func56 rfl trivial ?_ rfl
  simp only [Try.ntmps56, List.size_toArray, List.length_cons, List.length_nil, Nat.reduceAdd, Nat.reduceSub, Array.replicate_succ, Array.replicate_zero, List.push_toArray, List.append_toArray, List.nil_append, List.cons_append]
  have HY := Lib.hid hY
  have HC := Lib.hid (hC.next hBW)
  have HM := Lib.hid (hM.next hBW)
  have HJA := Lib.hid hJa
  have HNM := Lib.hid hnm
  have c0 := HC.out.cell 0 rfl
  clear hY hC hM hnm hBW hJa hJx
  gi_wp2_with (first
    | (refine ⟨trivial, fun h => by simp [Fence.wide] at h, ?_⟩; gi_at_call 58; refine (callsIn_wide.2 (callsIn_wide.1 (maps_Keys_58 (some b) _))).mono ?_; rintro e w' ⟨rfl, rfl⟩)
    | (refine ⟨trivial, fun h => by simp [Fence.wide] at h, ?_⟩; gi_at_call 57; refine (callsIn_wide.2 (callsIn_wide.1 (sortedKeys_in HM.out hl))).mono ?_; rintro e w' ⟨vs, rfl, hrow, hbs⟩; obtain ⟨os, ks, rfl⟩ := own_slice hrow))
  have hbw : Below W.heap.size W w' := ((Below.refl _ _).alloc (Nat.le_refl _) _).trans (hbs.mono (Nat.le_succ _))
  have HK0 := Lib.hid (KeepD.below hbw)
  have HJ0 := Lib.hid (HJA.out [] W w' none h0 ⟨hbw.os, hbw.tape, hbw.output, hbw.size, fun k hk _ => hbw.block k hk⟩ (fun r e => by cases e))
  have HROW := Lib.hid hrow
  clear c0 hbw hrow hbs h0
  gi_loopw [4, 9] (fun _ i wr => ∃ k : Nat, k ≤ l.length ∧ i = .int .i64 k ∧ J ((List.finRange l.length).take k) wr ∧ KeepD w' wr) (fun _ i _ => l.length - (intOf i).toNat)
  case atStart => exact ⟨0, Nat.zero_le _, rfl, HJ0.out, KeepD.refl _⟩
  case round =>
    obtain ⟨k, hk, rfl, hJ, hkd⟩ := hrel
    have HJ := Lib.hid hJ
    have HKD := Lib.hid hkd
    clear hJ hkd
    by_cases hlt : k < l.length
    · obtain ⟨g, cap, he, hcell⟩ := own_cell (HKD.out.row HROW.out) k hlt
      simp at he
      obtain ⟨rfl, rfl⟩ := he
      have hx : ((l.map (·.1)).map encStr)[k]? = some (encStr l[k].1) := by simp [hlt]
      have ck := hcell _ hx
      have c0 := (HKD.out.box (HK0.out.box HC.out rfl) rfl).cell 0 rfl
      have hmem : l[k] ∈ l := List.getElem_mem hlt
      have hlk := (HKD.out.map (HK0.out.map HM.out)).lookup l[k].1 (HNM.out _ hmem)
      have hget : lget l l[k].1 = some l[k].2 := (lget_some HM.out.ris).2 hmem
      rw [hget] at hlk
      obtain ⟨nm, hnm⟩ : ∃ nm, nm = l[k].1 := ⟨_, rfl⟩
      obtain ⟨f, hf⟩ : ∃ f, f = l[k].2 := ⟨_, rfl⟩
      rw [← hnm, ← hf] at hlk
      rw [← hnm] at ck
      simp only [encStr] at ck
      simp only [ptrV] at hlk
      have hE : nmEnc l ⟨k, hlt⟩ = #[.string ⟨nm.toArray⟩, .pointer (some ⟨f, 0, none⟩)] := by
        show #[encStr l[k].1, ptrV (some l[k].2)] = _
        rw [← hnm, ← hf]; rfl
      obtain ⟨fn, tmps, assign, body, hy, hR⟩ := HY.out ((List.finRange l.length).take k) ⟨k, hlt⟩ wr HJ.out (by rw [List.length_take, List.length_finRange]; omega)
      rw [hE] at hy
      have HR := Lib.hid hR
      clear hR hE hcell hx hmem hget hnm hf
      gi_wp2
      refine ⟨fun h => by simp [Fence.wide] at h, HR.out.mono ?_⟩
      clear HR hy hlk ck c0
      rintro e W' (⟨rfl, hJ', hK'⟩ | ⟨rfl, hJx'⟩)
      · have HJ' := Lib.hid hJ'
        have HK' := Lib.hid (HKD.out.trans hK')
        clear hJ' hK'
        gi_wp2
        go_roundw
        case rel => exact ⟨k + 1, by omega, by go_num, by rw [List.take_succ_eq_append_getElem (by simpa using hlt)]; simpa using HJ'.out, HK'.out⟩
        case measure => simp [intOf]; omega
      · have HJx' := Lib.hid hJx'
        clear hJx'
        gi_wp2
        refine bodyPost_ret (results_none rfl _ _ _) rfl ?_
        exact ⟨⟨_, rfl⟩, .inr ⟨_, trivial, HJx'.out⟩⟩
    · obtain rfl : k = l.length := by omega
      have HJ2 := Lib.hid (show J (List.finRange l.length) wr by have := HJ.out; rwa [List.take_of_length_le (by simp)] at this)
      gi_wp2
      go_end0
      exact ⟨⟨_, rfl⟩, .inl ⟨_, rfl, HJ2.out⟩⟩
end Go.Proofs.Ytejmbhckfdfoeaa
/-
  THE REFERENCE'S CopyFile and CopyFiles.
-/
set_option linter.unusedVariables false
set_option linter.unusedSimpArgs false
namespace Go.Proofs.Ytejmbhckfdfoeaa
open Go.RowKit Go.Maps
theorem own_setCell {w : World} {B : Nat} {e : TypeId} {s : Nat} {v : Value} {n : Nat} {xs : List Value} (h : w.ownsRow B e s v n xs) {p : Addr} (hp : p.block < B) (u : Value) : (w.setCell p u).ownsRow B e s v n xs := by
  refine ⟨h.1, ?_⟩
  rcases h.2 with hn | ⟨g, cap, cur, rfl, hb, hg, r⟩
  · exact .inl hn
  · exact .inr ⟨g, cap, cur, rfl, hb, by rw [Below.heap_setCell _ _ _ _ (fun e => by omega)]; exact hg, r⟩
set_option maxRecDepth 100000 in
set_option maxHeartbeats 1000000 in
theorem copyFile_any (x : List UInt8) (v : Value) (xs : List Int) (w : World) (hr : Rd w .u8 v xs) (hl : xs.length ≤ 4194304) :
    Calls Try.prog 33 #[.agg #[encStr x, v]] w fun e w' => (∃ v', e = .returned (.agg #[encStr x, v']) ∧ BOwn w.heap.size w' v' xs) ∧ Below w.heap.size w w' := by
  obtain ⟨o, cap, rfl⟩ := rd_slice hr
  have HR := Lib.hid hr
  clear hr
  obtain ⟨W0, hW0⟩ : ∃ W0, W0 = (((w.alloc (.cells #[encStr x, .slice o xs.length cap] 48)).alloc (.cells #[.string ⟨#[]⟩, .slice none 0 0] 48)).alloc (.cells #[encStr x, .slice o xs.length cap] 48)) := ⟨_, rfl⟩
  have HB1 := Lib.hid (show Box W0 w.heap.size 48 #[encStr x, .slice o xs.length cap] by
    rw [hW0]; exact Box.below (C := w.heap.size + 1) (Box.below (C := w.heap.size + 1) (Box.new_at rfl) ((Below.refl _ _).alloc (by simp) _) (by omega)) ((Below.refl _ _).alloc (by simp) _) (by omega))
  have HB2 := Lib.hid (show Box W0 (w.heap.size + 1) 48 #[.string ⟨#[]⟩, .slice none 0 0] by
    rw [hW0]; exact Box.below (C := w.heap.size + 2) (Box.new_at (by simp)) ((Below.refl _ _).alloc (by simp) _) (by omega))
  have HB3 := Lib.hid (show Box W0 (w.heap.size + 2) 48 #[encStr x, .slice o xs.length cap] by rw [hW0]; exact Box.new_at (by simp))
  have HBl := Lib.hid (show Below w.heap.size w W0 by rw [hW0]; exact (((Below.refl _ _).alloc (Nat.le_refl _) _).alloc (by simp) _).alloc (by simp; omega) _)
  have HSZ := Lib.hid (show W0.heap.size = w.heap.size + 3 by rw [hW0]; simp)
  have HW0 := Lib.hid hW0
  have d1 := HB1.out.cell 1 rfl
  rw [hW0] at d1
  clear hW0
  go_enter Try.func33, Try.ntmps33
  go_wp2_with fail
  rw [← HW0.out]
  clear d1 HW0
  refine (copyBytes_any _ xs _ (HR.out.below HBl.out (Nat.le_refl _)) (by omega)).mono ?_
  rintro e w1 ⟨v1, rfl, ho, hb⟩
  obtain ⟨a1, k1, rfl⟩ := own_slice ho
  have HX1 := Lib.hid (HB3.out.next hb)
  have HY1 := Lib.hid (HB2.out.next hb)
  have HB1' := Lib.hid (HBl.out.trans (hb.mono HBl.out.size))
  have HO1 := Lib.hid ho
  have f := HX1.out.free 1
  have c := HX1.out.cell 1 rfl
  have c0 := HX1.out.cell 0 rfl
  have g0 := HY1.out.free 0
  have g1 := HY1.out.free 1
  have y0 := HY1.out.cell 0 rfl
  have y1 := HY1.out.cell 1 rfl
  have hsz := HSZ.out
  clear ho hb
  go_wp2_with fail
  obtain ⟨W2, hW2⟩ : ∃ W2, W2 = (((w1.setCell ⟨w.heap.size + 2, 1, none⟩ (.slice a1 xs.length k1)).setCell ⟨w.heap.size + 1, 0, none⟩ (encStr x)).setCell ⟨w.heap.size + 1, 1, none⟩ (.slice a1 xs.length k1)) := ⟨_, rfl⟩
  have HZ := Lib.hid (show Box W2 (w.heap.size + 1) 48 #[encStr x, .slice a1 xs.length k1] by
    rw [hW2]
    exact ((HY1.out.other (p := ⟨w.heap.size + 2, 1, none⟩) (by simp) (.slice a1 xs.length k1)).set 0 (encStr x)).set 1 (.slice a1 xs.length k1))
  have HO2 := Lib.hid (show OwnI W2 W0.heap.size 5 .u8 (.slice a1 xs.length k1) xs by
    rw [hW2]
    exact own_setCell (own_setCell (own_setCell HO1.out (by simp; omega) _) (by simp; omega) _) (by simp; omega) _)
  have HBf := Lib.hid (show Below w.heap.size w W2 by
    rw [hW2]
    exact ((HB1'.out.setCell (p := ⟨w.heap.size + 2, 1, none⟩) (by simp) _).setCell (p := ⟨w.heap.size + 1, 0, none⟩) (by simp) _).setCell (p := ⟨w.heap.size + 1, 1, none⟩) (by simp) _)
  clear f c c0 g0 g1 y0 y1
  rw [← hW2]
  clear hW2
  have q0 := HZ.out.cell 0 rfl
  have q1 := HZ.out.cell 1 rfl
  exact bodyPost_ret (v := .agg #[encStr x, .slice a1 xs.length k1]) (by simp [results, Try.results33, go_sem, q0, q1]) rfl ⟨⟨_, rfl, BOwn.mono ⟨HO2.out, hl⟩ (by omega)⟩, HBf.out⟩
theorem pair_new (w : World) (a b : Value) (e : TypeId) : ∀ (j : Nat) (u : Value), [a, b][j]? = some u → (w.alloc (.cells #[a, b] e)).cell? ((⟨w.heap.size, 0, none⟩ : Addr).add j) = some u := fun j u h => cells_new w [a, b] e (0, 0) j u h
set_option maxRecDepth 100000 in
set_option maxHeartbeats 2000000 in
theorem copyFiles_any (v : Value) (fs : List FileD) (w : World) (hr : FilesRd w v fs) (hl : fs.length ≤ 1000000) (hd : ∀ f ∈ fs, f.da.length ≤ 4194304) :
    Calls Try.prog 9 #[v] w fun e w' => (∃ v' ps, e = .returned v' ∧ FOwn w' w.heap.size v' ps ∧ ps.map (·.1) = fs) ∧ Below w.heap.size w w' := by
  obtain ⟨o, cap, rfl, hc⟩ := hr
  obtain ⟨i0, hi, hz0, hz1, hz2⟩ := info_parts info_file
  have HC := Lib.hid hc
  have HD := Lib.hid hd
  clear hc hd
  go_enter Try.func9, Try.ntmps9
  go_wp2_with fail
  go_loopg [3, 4] fs.length (fun g v i wr => ∃ (k : Nat) (ps : List FP), g = fs.length - k ∧ k ≤ fs.length ∧ i = .int .i64 k ∧ FOwn wr w.heap.size v ps ∧ ps.map (·.1) = fs.take k ∧ Below w.heap.size w wr)
  case atStart => exact ⟨0, [], rfl, Nat.zero_le _, rfl, FOwn.nil _ _, rfl, Below.refl _ _⟩
  case round =>
    obtain ⟨k, ps, hg, hk, rfl, ho, hps, hB⟩ := hrel
    obtain ⟨w2, rfl⟩ : ∃ w2, w2 = wr := ⟨_, rfl⟩
    have HO := Lib.hid ho
    have HPS := Lib.hid hps
    have HB := Lib.hid hB
    obtain ⟨a0, cap0, rfl⟩ := own_slice ho.row
    have hpl : ps.length ≤ fs.length := by have := congrArg List.length hps; simp at this; omega
    by_cases hlt : k < fs.length
    · obtain ⟨⟨b, off, od, cd, rfl, c0, c1, hrd⟩, hnl, hdl⟩ := (HC.out k hlt).below hB (Nat.le_refl _)
      have hd4 := HD.out _ (fnth_mem fs k hlt)
      obtain ⟨fd, hfd⟩ : ∃ fd, fd = fnth fs k := ⟨_, rfl⟩
      rw [← hfd] at c0 c1 hrd hnl hdl hd4
      obtain ⟨nm, da⟩ := fd
      simp only at c0 c1 hrd hnl hdl hd4
      have HFD := Lib.hid hfd
      have HNL := Lib.hid hnl
      have HR := Lib.hid hrd
      clear hfd hnl hrd ho hps hB hdl
      go_wp2_with fail
      refine (copyFile_any nm _ da _ HR.out hd4).mono ?_
      rintro e w3 ⟨⟨v3, rfl, hbr⟩, hb3⟩
      obtain ⟨o3, k3, he3⟩ := rd_slice hbr.rd
      subst he3
      have HO3 := Lib.hid (HO.out.next hb3)
      have HB3 := Lib.hid (HB.out.trans (hb3.mono HB.out.size))
      have HBR := Lib.hid (hbr.mono HB.out.size)
      have HSP := Lib.hid (HO.out.fresh hbr (Nat.le_refl _))
      have hsz3 := HB3.out.size
      clear hbr hb3 c0 c1
      go_wp2_with (at_builtin; refine stopHere ?_)
      refine goOn ?_
      refine wpList_append_own _ rfl _ _ 22 rfl w.heap.size 48 i0 (.agg #[.string ⟨#[]⟩, .slice none 0 0]) 2 40 Try.underlying22 hi hz0 hz1 hz2 rfl (by decide) _ _ _ rfl (own_below HO3.out.row ((Below.refl _ _).alloc (Nat.le_refl _) _) (Nat.le_refl _)) ⟨w3.heap.size, 0, none⟩ 1 1 [encStr nm, .slice o3 da.length k3] rfl rfl (pair_new _ _ _ _) (by simp [Value.oneCell', encStr]) (by unfold maxLen; omega) (by omega) (by simp; omega) ?_
      intro v' w1 hown' hgrow _
      have HN := Lib.hid (HO3.out.snoc (p := (⟨nm, da⟩, .slice o3 da.length k3)) hown' hgrow HBR.out HSP.out HNL.out)
      have HBN := Lib.hid ((HB3.out.alloc hsz3 _).grown hgrow (by simp; omega) (fun k e => (HO3.out.row.lt k e).1))
      clear hown' hgrow
      go_wp2_with fail
      go_roundg (fs.length - (k + 1))
      case measure => omega
      case rel => exact ⟨k + 1, _, rfl, hlt, by go_num, HN.out, by rw [List.map_append, HPS.out, take_fnth fs k hlt, ← HFD.out]; rfl, HBN.out⟩
    · have hke : k = fs.length := by omega
      subst hke
      rw [List.take_length] at HPS
      clear ho hps hB
      go_wp2_with fail
      go_ret
      exact ⟨⟨_, ps, rfl, HO.out, HPS.out⟩, HB.out⟩
end Go.Proofs.Ytejmbhckfdfoeaa
/-
  INSIDE A ROUND of a range over a function, under the wide fence: what is shown of an operation, of a region, as ever holds there.
-/
set_option linter.unusedVariables false
set_option linter.unusedSimpArgs false
namespace Go.Proofs.Ytejmbhckfdfoeaa
open Go
theorem callsIn_round {l n : Nat} {P : Program} {f : FuncId} {args : Array Value} {w : World} {R : Ending → World → Prop} (h : Calls P f args w R) : CallsIn (Fence.wide.inRound l) n P f args w R := by
  have := (callsIn_wide (n := n)).2 h
  exact ⟨trivial, this.2⟩
theorem rowsIn_round {l n : Nat} {P : Program} {row : String} {args : Array Value} {w : World} {R : Value → World → Prop} (h : Rows P row args w R) : RowsIn (Fence.wide.inRound l) n P row args w R := fun c cs _ => by
  obtain ⟨v, w', r, s⟩ := h c cs
  exact ⟨v, w', r, stepsIn_wide.2 s⟩
theorem uponIn_of {l n : Nat} {P : Program} {o : Oper} {a : Act} {K : Act → World → Prop} {Q : Exit → Act → World → Prop} {r : Result Next} (h : o.upon P a K Q r) : o.uponIn (Fence.wide.inRound l) n P a K Q r := by
  cases r with
  | ok x w' =>
    cases x <;> first
      | exact h
      | exact (h : False).elim
      | exact ⟨fun h => by simp [Fence.wide, Fence.inRound] at h, callsIn_round h⟩
      | exact ⟨fun h => by simp [Fence.wide, Fence.inRound] at h, rowsIn_round h⟩
  | halt x w' => cases x <;> exact h
theorem operIn_of {l n : Nat} {P : Program} {o : Oper} {a : Act} {w : World} {K : Act → World → Prop} {Q : Exit → Act → World → Prop} (hd : ∀ c, o.op ≠ .defer c) (h : o.wp P a w K Q) : o.wpIn (Fence.wide.inRound l) n P a w K Q := by
  refine ⟨fun _ _ => trivial, ?_⟩
  rw [Fence.inRound_round, Oper.semAt_some l _ _ hd]
  exact uponIn_of h
theorem wpOpIn_of {l n : Nat} {P : Program} {ops : Array Oper} {i : Nat} {a : Act} {w : World} {K K' : Act → World → Prop} {Q : Exit → Act → World → Prop} (hd : ∀ (j : Nat) (o : Oper) c, ops[j]? = some o → o.op ≠ .defer c) (hL : ¬ LetsOut Q)
    (hK : ∀ a w, K a w → K' a w) (h : wpOp P ops Q i K a w) : wpOpIn (Fence.wide.inRound l) n P ops Q i K' a w := by
  unfold wpOp at h
  unfold wpOpIn
  cases ho : ops[i]? with
  | none => rw [ho] at h; exact hK _ _ h
  | some o =>
    rw [ho] at h
    simp only at h ⊢
    split
    · rename_i hw
      rw [if_pos hw] at h
      rcases h with h | h
      · exact Oper.wpIn_mono hK (operIn_of (fun c => hd i o c ho) h)
      · exact absurd h.2 hL
    · rename_i hw
      rw [if_neg hw] at h
      exact ⟨fun _ _ => trivial, hK _ _ h⟩
theorem wpAnyIn_of {l n : Nat} {P : Program} {md : Region.Mode} {ops : Array Oper} {Q : Exit → Act → World → Prop} (hd : ∀ (j : Nat) (o : Oper) c, ops[j]? = some o → o.op ≠ .defer c) (hL : ¬ LetsOut Q) :
    ∀ (fuel : Nat) (listed : Array Bool) (a : Act) (w : World), wpAny P md ops Q fuel listed a w → wpAnyIn (Fence.wide.inRound l) n P md ops Q fuel listed a w
  | 0, _, _, _, h => h
  | fuel + 1, listed, a, w, h => ⟨h.1, fun i hi => wpOpIn_of hd hL (fun a' w' h' => wpAnyIn_of hd hL fuel _ a' w' h') (h.2 i hi)⟩
/-- a region that draws its order, inside a round: by the walk as ever -/
theorem wpIn_region_of {l n : Nat} {P : Program} {id : Nat} {ops : Array Oper} {Q : Exit → Act → World → Prop} {a : Act} {w : World} (hm : P.follows .mixedOrders = true) (hd : ∀ (j : Nat) (o : Oper) c, ops[j]? = some o → o.op ≠ .defer c) (hL : ¬ LetsOut Q)
    (h : wpAny P .any ops Q ops.size (Array.replicate ops.size false) a w.drew) : (Code.region id ops true).wpIn (Fence.wide.inRound l) n P Q a w :=
  wpIn_region_any hm (wpAnyIn_of hd hL _ _ _ _ h)
theorem operIn_of_still {m : Nat} {P : Program} {o : Oper} {a : Act} {w : World} {K : Act → Prop} {K' : Act → World → Prop} {Q : Exit → Act → World → Prop} (h : ∀ a, K a → K' a w) (hh : o.still P a w K) : o.wpIn Fence.wide m P a w K' Q := by
  refine ⟨fun _ _ => trivial, ?_⟩
  have e : o.semAt Fence.wide.round a.eval = execOp a.eval o := rfl
  rw [e]
  unfold Oper.still at hh
  generalize (execOp a.eval o).run P w = r at *
  cases r with
  | ok x w' =>
    cases x with
    | value v => obtain ⟨rfl, h2⟩ := hh; exact h _ h2
    | skip => obtain ⟨rfl, h2⟩ := hh; exact h _ h2
    | enter f args =>
      obtain ⟨rfl, v, hc, h2⟩ := hh
      exact ⟨fun h => by simp [Fence.wide] at h, callsIn_wide.2 (hc.mono fun e w'' ⟨he, hw⟩ => by subst he; subst hw; exact h _ h2)⟩
    | _ => exact (hh : False).elim
  | halt x w' => cases x <;> exact (hh : False).elim
theorem wpOpIn_of_stOp {m : Nat} {P : Program} {ops : Array Oper} {w : World} {i : Nat} {a : Act} {K : Act → Prop} {K' : Act → World → Prop} {Q : Exit → Act → World → Prop} (h : ∀ a, K a → K' a w) (hh : stOp P ops w i K a) : wpOpIn Fence.wide m P ops Q i K' a w := by
  unfold stOp at hh
  unfold wpOpIn
  cases ho : ops[i]? with
  | none => rw [ho] at hh; exact h _ hh
  | some o =>
    rw [ho] at hh
    simp only at hh ⊢
    split
    · rename_i hw; rw [if_pos hw] at hh; exact operIn_of_still h hh
    · rename_i hw; rw [if_neg hw] at hh; exact ⟨fun _ _ => trivial, h _ hh⟩
theorem wpAnyIn_of_head {m n g : Nat} {P : Program} {md : Region.Mode} {ops : Array Oper} {w : World} {L : Array Bool → Act → Prop} {Q : Exit → Act → World → Prop} (hL : ∀ listed a, L listed a → wpAnyIn Fence.wide m P md ops Q g listed a w) :
    ∀ (f : Nat) (listed : Array Bool) (a : Act), wpAnyL P md ops w n L f listed a → wpAnyIn Fence.wide m P md ops Q (f + g) listed a w
  | 0, listed, a, h => by rw [Nat.zero_add]; exact hL _ _ h
  | f + 1, listed, a, h => by
    rw [show f + 1 + g = (f + g) + 1 by omega]
    exact ⟨fun h0 => absurd h0 h.1, fun i hi => wpOpIn_of_stOp (fun a' h' => wpAnyIn_of_head hL f _ a' h') (h.2 i hi).2⟩
theorem wpAnyIn_of_seq {m : Nat} {P : Program} {md : Region.Mode} {ops : Array Oper} {Q : Exit → Act → World → Prop} : ∀ (l : List Oper) (k : Nat) (listed : Array Bool) (a : Act) (w : World), (∀ j, l[j]? = ops[k + j]?) →
    Region.seqB md ops l.length k listed = true → wpListIn Fence.wide m P ops Q l a w → wpAnyIn Fence.wide m P md ops Q l.length listed a w
  | [], _, _, _, _, _, hB, h => ⟨by simpa [Region.seqB] using hB, h⟩
  | o :: l, k, listed, a, w, hl, hB, h => by
    have h0 : ops[k]? = some o := by simpa using (hl 0).symm
    simp only [List.length_cons, Region.seqB, Bool.and_eq_true, decide_eq_true_eq] at hB
    refine ⟨fun h1 => (by rw [hB.1] at h1; cases h1), fun i hi => ?_⟩
    rw [hB.1] at hi
    have hik : i = k := by simpa using hi
    subst hik
    have hw : wpOpIn Fence.wide m P ops Q i (wpListIn Fence.wide m P ops Q l) a w := by
      unfold wpOpIn
      simp only [h0]
      exact h
    exact wpOpIn_mono (fun a' w' h' => wpAnyIn_of_seq l (i + 1) _ a' w' (fun j => by have := hl (j + 1); simpa [Nat.add_assoc, Nat.add_comm 1 j] using this) hB.2 h') hw
/-- inside the wide fence: a region of which all but its tail, in one forced order, leaves the world alone -/
theorem wpIn_region_still_tail {m : Nat} {P : Program} {id : Nat} {Q : Exit → Act → World → Prop} {a : Act} {w : World} {l : List Oper} (n : Nat) (hm : P.follows .mixedOrders = true) (hB : Region.lexTailB .any l.toArray n = true)
    (h : wpStill P l.toArray w.drew (fun a' => wpListIn Fence.wide m P l.toArray Q (l.drop n) a' w.drew) (l.take n) a) : (Code.region id l.toArray true).wpIn Fence.wide m P Q a w := by
  simp only [Region.lexTailB, Bool.and_eq_true, decide_eq_true_eq] at hB
  obtain ⟨⟨⟨⟨hsel, hn⟩, hs⟩, hc⟩, hlex⟩ := hB
  have hn' : n < l.length := by simpa using hn
  have htl : (l.take n).length = n := by simp; omega
  have hdl : (l.drop n).length = l.toArray.size - n := by simp
  have inv0 : HeadInv .any l.toArray n (Array.replicate l.toArray.size false) :=
    ⟨by simp, fun j oj _ hl => (by rw [getD_replicate_false] at hl; cases hl), fun t _ ht => getD_in (by simpa using ht) (getD_replicate_false _ _)⟩
  have H := wpAnyL_lex (md := .any) (g := l.toArray.size - n) hsel hs hc hn (l.take n) 0 _ a (fun j hj => by
    have hj' : j < n := by rw [htl] at hj; exact hj
    simp [hj']) (by simpa using htl) inv0 (by rw [htl]; exact hlex) h
  refine wpIn_region_any hm ?_
  have := wpAnyIn_of_head (m := m) (Q := Q) (g := l.toArray.size - n) (fun listed a' hL => by
    have := wpAnyIn_of_seq (m := m) (md := .any) (Q := Q) (l.drop n) n listed a' w.drew (fun j => by simp [List.getElem?_drop]) (by rw [hdl]; exact hL.1) hL.2
    rwa [hdl] at this) _ _ _ H
  rw [htl, show n + (l.toArray.size - n) = l.toArray.size by omega] at this
  exact this
end Go.Proofs.Ytejmbhckfdfoeaa
/-
  List: what its rounds keep.
-/
set_option linter.unusedVariables false
set_option linter.unusedSimpArgs false
namespace Go.Proofs.Ytejmbhckfdfoeaa
open Go.RowKit Go.Maps
/-- below B nothing has turned but for this block -/
structure KeepB (B R : Nat) (w w' : World) : Prop where
  size : w.heap.size ≤ w'.heap.size
  block : ∀ k, k < B → k ≠ R → w'.heap[k]? = w.heap[k]?
  rest : w'.os = w.os ∧ w'.tape = w.tape ∧ w'.output = w.output
theorem KeepB.refl (B R : Nat) (w : World) : KeepB B R w w := ⟨Nat.le_refl _, fun _ _ _ => rfl, rfl, rfl, rfl⟩
theorem KeepB.trans {B R : Nat} {a b c : World} (h : KeepB B R a b) (k : KeepB B R b c) : KeepB B R a c := ⟨Nat.le_trans h.size k.size, fun i h1 h2 => (k.block i h1 h2).trans (h.block i h1 h2), k.rest.1.trans h.rest.1, k.rest.2.1.trans h.rest.2.1, k.rest.2.2.trans h.rest.2.2⟩
theorem KeepB.of_below {B R : Nat} {w w' : World} (h : Below B w w') : KeepB B R w w' := ⟨h.size, fun k hk _ => h.block k hk, h.os, h.tape, h.output⟩
theorem KeepB.set {B R o : Nat} {w : World} (v : Value) : KeepB B R w (w.setCell ⟨R, o, none⟩ v) :=
  ⟨by simp [World.setCell], fun k _ hk => Below.heap_setCell w ⟨R, o, none⟩ v k hk, rfl, rfl, rfl⟩
theorem KeepB.below {B R C : Nat} {w w' : World} (h : KeepB B R w w') (hC : C ≤ B) (hR : C ≤ R) : Below C w w' :=
  ⟨h.rest.1, h.rest.2.1, h.rest.2.2, h.size, fun k hk => h.block k (Nat.lt_of_lt_of_le hk hC) (by omega)⟩
theorem FOwn.mono {w : World} {B C : Nat} {v : Value} {ps : List FP} (h : FOwn w B v ps) (hC : C ≤ B) : FOwn w C v ps := ⟨own_mono h.row hC, fun p hp => (h.by_ p hp).mono hC, h.nm, h.sep⟩
theorem FOwn.set {w : World} {B b j : Nat} {v : Value} {ps : List FP} (h : FOwn w B v ps) (hb : b < B) (u : Value) : FOwn (w.setCell ⟨b, j, none⟩ u) B v ps :=
  ⟨own_setCell h.row hb u, fun p hp => ⟨own_setCell (h.by_ p hp).own hb u, (h.by_ p hp).len⟩, h.nm, h.sep⟩
theorem KeepU.keeps {W W' : World} {row : Option Nat} (hg : W.grownBy W' row) (hr : ∀ r, row = some r → ∃ o : Obj, W.heap[r]? = some o ∧ o.isCells = false) : KeepU W W' := fun k cs fz hk => (grownBy_keeps_cells hg hr hk rfl).trans hk
theorem own_keepsC {W W' : World} {row : Option Nat} {B : Nat} {e : TypeId} {s n : Nat} {v : Value} {xs : List Value} (h : W.ownsRow B e s v n xs) (hg : W.grownBy W' row) (hr : ∀ r, row = some r → ∃ o : Obj, W.heap[r]? = some o ∧ o.isCells = false) : W'.ownsRow B e s v n xs := by
  refine ⟨h.1, ?_⟩
  rcases h.2 with hn | ⟨g, cap, cur, rfl, hb, hgg, rest⟩
  · exact .inl hn
  · exact .inr ⟨g, cap, cur, rfl, hb, (grownBy_keeps_cells hg hr hgg rfl).trans hgg, rest⟩
theorem FOwn.keeps {W W' : World} {B : Nat} {v : Value} {ps : List FP} {row : Option Nat} (h : FOwn W B v ps) (hg : W.grownBy W' row) (hr : ∀ r, row = some r → ∃ o : Obj, W.heap[r]? = some o ∧ o.isCells = false) : FOwn W' B v ps :=
  ⟨own_keepsC h.row hg hr, fun p hp => (h.by_ p hp).moveU (KeepU.keeps hg hr), h.nm, h.sep⟩
theorem putObj_below {W : World} {D C : Nat} {o : Obj} (h : C ≤ D) (hC : C ≤ W.heap.size) : Below C W (W.putObj D o) := (Below.refl _ _).grown (grownBy_putObj' W D o) hC (fun k e => by cases e; exact h)
/-- the loop's invariant: the list in its box; what was there is there -/
def ListAt (B lb : Nat) (w0 : World) (fs : List FileD) (W : World) : Prop :=
  ∃ v ps, Box W lb 22 #[v] ∧ FOwn W B v ps ∧ ps.map (·.1) = fs ∧ KeepB B lb w0 W
theorem listAt_own {β : Type} (B lb : Nat) (w0 : World) (f : β → List FileD) (hB : B ≤ w0.heap.size) : OwnFrom B (fun s W => ListAt B lb w0 (f s) W) := fun s W W' row hs hg hr => by
  obtain ⟨v, ps, h1, h2, h3, h4⟩ := hs
  have hr' : ∀ r, row = some r → ∃ o : Obj, W.heap[r]? = some o ∧ o.isCells = false := fun r e => (hr r e).2
  refine ⟨v, ps, (grownBy_keeps_cells hg hr' h1 rfl).trans h1, ⟨own_keepsC h2.row hg hr', fun p hp => (h2.by_ p hp).moveU (KeepU.keeps hg hr'), h2.nm, h2.sep⟩, h3, ⟨Nat.le_trans h4.size hg.size, fun k hk hne => ?_, hg.os.trans h4.rest.1, hg.tape.trans h4.rest.2.1, hg.output.trans h4.rest.2.2⟩⟩
  exact (hg.block k (by have := h4.size; omega) (fun e => by have := (hr k e.symm).1; omega)).trans (h4.block k hk hne)
/-- inside a round that began at W0: the list's box, a box that is read, the list -/
structure ListMid (B lb f : Nat) (T : TypeId) (cs : Array Value) (w0 W0 : World) (v : Value) (ps : List FP) (W : World) : Prop where
  bx : Box W lb 22 #[v]
  fb : Box W f T cs
  kb : KeepB B lb w0 W
  kd : KeepD W0 W
  o : FOwn W B v ps
  oth : KeepsOthers W0 W
  hB : B ≤ w0.heap.size
theorem ListMid.size {B lb f : Nat} {T : TypeId} {cs : Array Value} {w0 W0 W : World} {v : Value} {ps : List FP} (h : ListMid B lb f T cs w0 W0 v ps W) : B ≤ W.heap.size := Nat.le_trans h.hB h.kb.size
theorem others_below {w w' : World} (h : Below w.heap.size w w') : KeepsOthers w w' := ⟨h.size, fun k o hk _ => (h.block k (Array.getElem?_eq_some_iff.1 hk).1).trans hk⟩
theorem ListMid.next {B lb f : Nat} {T : TypeId} {cs : Array Value} {w0 W0 W W' : World} {v : Value} {ps : List FP} (h : ListMid B lb f T cs w0 W0 v ps W) (hb : Below W.heap.size W W') : ListMid B lb f T cs w0 W0 v ps W' :=
  ⟨h.bx.next hb, h.fb.next hb, h.kb.trans (KeepB.of_below (hb.mono h.size)), h.kd.trans (KeepD.below hb), h.o.next hb, h.oth.trans (others_below hb), h.hB⟩
theorem ListMid.snoc {B lb f : Nat} {T : TypeId} {cs : Array Value} {w0 W0 W W' : World} {v v' : Value} {ps : List FP} {p : FP} {o : Obj} (h : ListMid B lb f T cs w0 W0 v ps W) (hl : lb < B) (hf : f < B) (hr : W'.ownsRow B 48 2 v' (ps.length + 1) (fcells ps ++ [encStr p.1.nm, p.2])) (hg : (W.alloc o).grownBy W' v.ownBlock)
    (hp : BOwn B W p.2 p.1.da) (hs : ∀ q ∈ ps, Sep q.2 p.2) (hn : p.1.nm.length ≤ maxLen) : (Box W' lb 22 #[v] ∧ Box W' f T cs) ∧ KeepB B lb w0 W' ∧ KeepD W0 W' ∧ FOwn W' B v' (ps ++ [p]) ∧ KeepsOthers W0 W' := by
  have ha : Below W.heap.size W (W.alloc o) := (Below.refl _ _).alloc (Nat.le_refl _) _
  have hm := h.next ha
  have hb : Below B (W.alloc o) W' := below_grown' hm.o.row hg hm.size
  refine ⟨⟨hm.bx.below hb hl, hm.fb.below hb hf⟩, hm.kb.trans (KeepB.of_below hb), hm.kd.trans (KeepD.grown hg fun k hk o' ho => ?_), h.o.snoc hr hg hp hs hn, hm.oth.trans (KeepsOthers.of_grownBy hg fun j o' hj ho => ?_)⟩
  · rcases hm.o.row.2 with ⟨rfl, _⟩ | ⟨g, cap, cur, rfl, hbb, hgg, _⟩
    · cases hk
    · cases hk
      rw [hgg] at ho
      cases ho
      rfl
  · rcases hm.o.row.2 with ⟨rfl, _⟩ | ⟨g, cap, cur, rfl, hbb, hgg, _⟩
    · cases hj
    · cases hj
      rw [hgg] at ho
      cases ho
      rfl
end Go.Proofs.Ytejmbhckfdfoeaa
/-
  A REGION THAT DRAWS ITS ORDER INSIDE A ROUND, with loads that may be taken first; append of whole elements at a step of such a region.
-/
set_option linter.unusedVariables false
set_option linter.unusedSimpArgs false
namespace Go.Proofs.Ytejmbhckfdfoeaa
open Go Go.RowKit
def noDeferB (ops : Array Oper) : Bool := ops.all fun o => match o.op with | .defer _ => false | _ => true
theorem noDefer_of {ops : Array Oper} (h : noDeferB ops = true) : ∀ (j : Nat) (o : Oper) c, ops[j]? = some o → o.op ≠ .defer c := fun j o c hj he => by
  obtain ⟨hlt, rfl⟩ := Array.getElem?_eq_some_iff.1 hj
  have := (Array.all_eq_true.1 h) j hlt
  rw [he] at this
  cases this
theorem wpIn_region_heldR {l n : Nat} {P : Program} {id : Nat} {ops : Array Oper} {Q : Exit → Act → World → Prop} {S : World → Prop} {a : Act} {w : World} (hm : P.follows .mixedOrders = true) (hd : noDeferB ops = true) (hL : ¬ LetsOut Q) (hS : S w.drew)
    (h : S w.drew → wpAnyH P .any ops Q S ops.size (Array.replicate ops.size false) a w.drew) : (Code.region id ops true).wpIn (Fence.wide.inRound l) n P Q a w :=
  wpIn_region_of hm (noDefer_of hd) hL (wpAny_of_held _ _ _ _ (h hS))
theorem step_append_own {P : Program} {ops : Array Oper} {o : Oper} {a : Act} {w : World} {K' : Act → World → Prop} {Q : Exit → Act → World → Prop} {E : Prop} (hgd : o.guard = none) (s x : Operand) (t : TypeId)
    (ho : o.op = .call { callee := .builtin .append, args := #[s, x], argTypes := #[t, t] })
    (B : Nat) (e : TypeId) (i : TypeInfo) (z : Value) (size bytes : Nat) (ht : P.underlying t = some (.slice e)) (hi : P.info? e = some i) (hz : i.zero = some z) (hsize : i.size = size) (hby : i.bytes = bytes) (hzs : z.cells.size = size) (hsz : 0 < size)
    (v : Value) (n : Nat) (xs : List Value) (hs : a.eval s = v) (hown : w.ownsRow B e size v n xs) (ad : Addr) (m c : Nat) (news : List Value) (hx : a.eval x = .slice (some ad) m c) (hl : news.length = m * size) (hnews : ∀ j u, news[j]? = some u → w.cell? (ad.add j) = some u) (h1 : ∀ u ∈ news, u.oneCell' = true)
    (h63 : n + m ≤ maxLen) (hbytes : (n + m) * bytes ≤ 140737488355328) (hbase : B ≤ w.heap.size)
    (h : ∀ v' w', w'.ownsRow B e size v' (n + m) (xs ++ news) → w.grownBy w' v.ownBlock → (v'.ownBlock = v.ownBlock ∨ v'.ownBlock = some w.heap.size) → K' (a.put o.dst v') w') :
    if Region.wanted o (yielded ops a.tmps) = true then Oper.wp P o a w K' Q else E := by
  have hw : Region.wanted o (yielded ops a.tmps) = true := by simp [Region.wanted, hgd]
  rw [if_pos hw]
  obtain ⟨v', w', hrun, h2, h3, _, h4⟩ := run_append_own_at (P := P) w B t o.type e i z size bytes ht hi hz hsize hby hzs hsz v n xs hown ad m c news hl hnews h1 h63 hbytes hbase
  unfold Oper.wp execOp
  simp only [ho, resolve, invoke, builtin, Sem.run_bind, Sem.run_pure, Result.andThen_ok, List.map_toArray, List.map_cons, List.map_nil, hs, hx, hrun]
  exact h v' w' h2 h3 h4
end Go.Proofs.Ytejmbhckfdfoeaa
