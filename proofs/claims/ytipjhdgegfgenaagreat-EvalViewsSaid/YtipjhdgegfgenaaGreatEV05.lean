/-
  append OF A PART that may be empty (and nil) onto a row of the call's own.
-/
import Derived.Deep.AppendLies
import Derived.Maps.AppendAt
import Derived.RegionTactic
import Derived.Lib.SlBytesConst
import Derived.Test.YtipjhdgegfgenaaGreatEV04
import Derived.Test.YtipjhdgegfgenaaGreatEV02
set_option linter.unusedVariables false
set_option linter.unusedSimpArgs false
namespace Go.Proofs.YtipjhdgegfgenaaGreat
open Go.RowKit
theorem run_append_empty {P : Program} (w : World) (t ty : TypeId) (e : TypeId) (i : TypeInfo) (ht : P.underlying t = some (.slice e)) (hi : P.info? e = some i) (o o' : Option Addr) (n cap c : Nat) (hc : n ≤ cap) :
    (Builtin.append_ #[t, t] ty #[.slice o n cap, .slice o' 0 c]).run P w = .ok (.slice o n cap) w := by
  cases o <;> cases o' <;> simp [Builtin.append_, run_underlying ht, sizeOf, typeInfo, hi, Builtin.lenOf, Builtin.firstCells, loadCells, loadCellsFrom, storeCells, hc, Result.andThen]
theorem own_caps {w : World} {B : Nat} {e : TypeId} {s n : Nat} {v : Value} {xs : List Value} (h : w.ownsRow B e s v n xs) : ∃ o cap, v = .slice o n cap ∧ n ≤ cap := by
  rcases h.2 with ⟨rfl, rfl⟩ | ⟨g, cap, cur, rfl, hb, hgg, hn, rest⟩
  · exact ⟨none, 0, rfl, Nat.le_refl _⟩
  · exact ⟨_, _, rfl, hn⟩
/-- append of what reads as ys onto a row of the call's own that reads as xs -/
theorem run_append_rd {P : Program} (w : World) (t ty : TypeId) (B : Nat) (e : TypeId) (K : IntKind) (i : TypeInfo) (bytes : Nat) (ht : P.underlying t = some (.slice e)) (hi : P.info? e = some i) (hz : i.zero = some (.int K 0)) (hsize : i.size = 1) (hby : i.bytes = bytes)
    (v : Value) (xs : List Int) (hown : OwnI w B e K v xs) (u : Value) (ys : List Int) (hr : Rd w K u ys)
    (h63 : xs.length + ys.length ≤ maxLen) (hbytes : (xs.length + ys.length) * bytes ≤ 140737488355328) (hbase : B ≤ w.heap.size) :
    ∃ v' w', (Builtin.append_ #[t, t] ty #[v, u]).run P w = .ok v' w' ∧ OwnI w' B e K v' (xs ++ ys) ∧ w.grownBy w' v.ownBlock ∧ (v'.ownBlock = v.ownBlock ∨ v'.ownBlock = some w.heap.size) := by
  obtain ⟨o, c, rfl, hc⟩ := hr
  by_cases h0 : ys.length = 0
  · have : ys = [] := List.eq_nil_of_length_eq_zero h0
    subst this
    obtain ⟨ov, cap, rfl, hle⟩ := own_caps hown
    refine ⟨_, w, run_append_empty w t ty e i ht hi _ _ _ _ _ hle, ?_, ⟨rfl, rfl, rfl, Nat.le_refl _, fun _ _ _ => rfl⟩, .inl rfl⟩
    rw [List.append_nil]; exact hown
  · obtain ⟨b, off, rfl, _⟩ := hc 0 (by omega)
    obtain ⟨v', w', hrun, h2, h3, _, h5⟩ := run_append_own_at (P := P) w B t ty e i (.int K 0) 1 bytes ht hi hz hsize hby rfl (by decide) v xs.length _ hown ⟨b, off, none⟩ ys.length c (ys.map (.int K)) (by simp) (fun j x hj => by
        have hjl : j < ys.length := by have := (List.getElem?_eq_some_iff.1 hj).1; simpa using this
        obtain ⟨b', off', he, hcell⟩ := hc j hjl
        cases he
        have hx : x = .int K (nth ys j) := by
          have h1 : (ys.map (Value.int K))[j]? = some (.int K (nth ys j)) := by rw [List.getElem?_map, List.getElem?_eq_getElem hjl, nth_eq ys j hjl]; rfl
          rw [h1] at hj
          exact (Option.some.inj hj).symm
        rw [hx, Addr.add_lit]
        exact hcell) (fun x hx => by
        obtain ⟨y, _, rfl⟩ := List.mem_map.1 hx
        rfl) h63 hbytes hbase
    exact ⟨v', w', hrun, own_cat h2 rfl, h3, h5⟩
/-- the same at a step of a region that draws -/
theorem step_append_rd {P : Program} {ops : Array Oper} {o : Oper} {a : Act} {w : World} {K' : Act → World → Prop} {Q : Exit → Act → World → Prop} {E : Prop} (hgd : o.guard = none) (s x : Operand) (t : TypeId)
    (ho : o.op = .call { callee := .builtin .append, args := #[s, x], argTypes := #[t, t] })
    (B : Nat) (e : TypeId) (K : IntKind) (i : TypeInfo) (bytes : Nat) (ht : P.underlying t = some (.slice e)) (hi : P.info? e = some i) (hz : i.zero = some (.int K 0)) (hsize : i.size = 1) (hby : i.bytes = bytes)
    (v : Value) (xs : List Int) (hs : a.eval s = v) (hown : OwnI w B e K v xs) (u : Value) (ys : List Int) (hx : a.eval x = u) (hr : Rd w K u ys)
    (h63 : xs.length + ys.length ≤ maxLen) (hbytes : (xs.length + ys.length) * bytes ≤ 140737488355328) (hbase : B ≤ w.heap.size)
    (h : ∀ v' w', OwnI w' B e K v' (xs ++ ys) → w.grownBy w' v.ownBlock → (v'.ownBlock = v.ownBlock ∨ v'.ownBlock = some w.heap.size) → K' (a.put o.dst v') w') :
    if Region.wanted o (yielded ops a.tmps) = true then Oper.wp P o a w K' Q else E := by
  have hw : Region.wanted o (yielded ops a.tmps) = true := by simp [Region.wanted, hgd]
  rw [if_pos hw]
  obtain ⟨v', w', hrun, h2, h3, h4⟩ := run_append_rd (P := P) w t o.type B e K i bytes ht hi hz hsize hby v xs hown u ys hr h63 hbytes hbase
  unfold Oper.wp execOp
  simp only [ho, resolve, invoke, builtin, Sem.run_bind, Sem.run_pure, Result.andThen_ok, List.map_toArray, List.map_cons, List.map_nil, hs, hx, hrun]
  exact h v' w' h2 h3 h4
/-- the same in a plain region's list -/
theorem wpList_append_rd {P : Program} {ops : Array Oper} {rest : List Oper} {o : Oper} {a : Act} {w : World} {Q : Exit → Act → World → Prop} (hgd : o.guard = none) (s x : Operand) (t : TypeId)
    (ho : o.op = .call { callee := .builtin .append, args := #[s, x], argTypes := #[t, t] })
    (B : Nat) (e : TypeId) (K : IntKind) (i : TypeInfo) (bytes : Nat) (ht : P.underlying t = some (.slice e)) (hi : P.info? e = some i) (hz : i.zero = some (.int K 0)) (hsize : i.size = 1) (hby : i.bytes = bytes)
    (v : Value) (xs : List Int) (hs : a.eval s = v) (hown : OwnI w B e K v xs) (u : Value) (ys : List Int) (hx : a.eval x = u) (hr : Rd w K u ys)
    (h63 : xs.length + ys.length ≤ maxLen) (hbytes : (xs.length + ys.length) * bytes ≤ 140737488355328) (hbase : B ≤ w.heap.size)
    (h : ∀ v' w', OwnI w' B e K v' (xs ++ ys) → w.grownBy w' v.ownBlock → (v'.ownBlock = v.ownBlock ∨ v'.ownBlock = some w.heap.size) → wpList P ops Q rest (a.put o.dst v') w') :
    wpList P ops Q (o :: rest) a w := by
  refine wpList_plain hgd fun K' hK => ?_
  obtain ⟨v', w', hrun, h2, h3, h4⟩ := run_append_rd (P := P) w t o.type B e K i bytes ht hi hz hsize hby v xs hown u ys hr h63 hbytes hbase
  unfold Oper.wp execOp
  simp only [ho, resolve, invoke, builtin, Sem.run_bind, Sem.run_pure, Result.andThen_ok, List.map_toArray, List.map_cons, List.map_nil, hs, hx, hrun]
  exact hK _ _ (h v' w' h2 h3 h4)
theorem OwnI.lit (w : World) (K : IntKind) (xs : List Int) (e : TypeId) (h0 : xs.length ≤ maxLen) : OwnI (w.alloc (.cells (xs.map (Value.int K)).toArray e)) w.heap.size e K (.slice (some ⟨w.heap.size, 0, none⟩) xs.length xs.length) xs :=
  ⟨by simp, .inr ⟨w.heap.size, xs.length, _, rfl, Nat.le_refl _, heap_alloc_new w _, Nat.le_refl _, h0, by simp, by simp [List.take_of_length_le]⟩⟩
theorem below_grown' {w w' : World} {B : Nat} {e : TypeId} {s n : Nat} {v : Value} {xs : List Value} (h : w.ownsRow B e s v n xs) (hg : w.grownBy w' v.ownBlock) (hB : B ≤ w.heap.size) : Below B w w' :=
  (Below.refl B w).grown hg hB (fun k hk => (h.lt k hk).1)
end Go.Proofs.YtipjhdgegfgenaaGreat
/-
  slices.Clone of integers.
-/
set_option linter.unusedVariables false
set_option linter.unusedSimpArgs false
namespace Go.Proofs.YtipjhdgegfgenaaGreat
open Go.RowKit
theorem info_int' : (Tryz.prog.info? 3).map (fun i => (i.zero, i.size, i.bytes)) = some (some (.int .i64 0), 1, 8) := by kernel_rfl
set_option maxRecDepth 100000 in
set_option maxHeartbeats 1000000 in
theorem cloneInts_any (v : Value) (xs : List Int) (w : World) (hr : Rd w .i64 v xs) (hl : xs.length ≤ 100000000) :
    Calls Tryz.prog 104 #[v] w fun e w' => (∃ v', e = .returned v' ∧ OwnI w' w.heap.size 3 .i64 v' xs) ∧ Below w.heap.size w w' := by
  obtain ⟨o, cap, rfl, hc⟩ := hr
  cases o with
  | none =>
    have hx : xs = [] := by
      cases xs with
      | nil => rfl
      | cons x xs => obtain ⟨b, off, he, _⟩ := hc 0 (by simp); cases he
    subst hx
    clear hc
    have hq := fun (W : World) => Lib.run_eql_slice_nil (P := Tryz.prog) W 23 3 none 0 cap 0 0 Tryz.underlying23
    go_enter Tryz.func104, Tryz.ntmps104
    go_wp2
    go_ret
    exact ⟨⟨_, rfl, World.ownsRow_nil _ _ _ _⟩, Below.refl _ _⟩
  | some a =>
    have HR := Lib.hid (show Rd w .i64 (.slice (some a) xs.length cap) xs from ⟨_, cap, rfl, hc⟩)
    clear hc
    obtain ⟨i0, hi, hz0, hz1, hz2⟩ := info_parts info_int'
    have hb : Below w.heap.size w (w.alloc (.cells #[] 3)) := (Below.refl _ _).alloc (Nat.le_refl _) _
    have HO := Lib.hid (show OwnI (w.alloc (.cells #[] 3)) w.heap.size 3 .i64 (.slice (some ⟨w.heap.size, 0, none⟩) 0 0) [] from OwnI.lit w .i64 [] 3 (Nat.zero_le _))
    have HB := Lib.hid hb
    clear hb
    have hq := fun (W : World) => Lib.run_eql_slice_nil (P := Tryz.prog) W 23 3 (some a) xs.length cap 0 0 Tryz.underlying23
    go_enter Tryz.func104, Tryz.ntmps104
    go_wp2_with (at_builtin; refine stopHere ?_)
    refine goOn ?_
    refine wpList_append_rd rfl _ _ 23 rfl w.heap.size 3 .i64 i0 8 Tryz.underlying23 hi hz0 hz1 hz2 _ [] rfl HO.out _ xs rfl (HR.out.below HB.out (Nat.le_refl _)) (by unfold maxLen; simp; omega) (by simp; omega) (by simp) ?_
    intro v' w1 hown hg hat
    rw [List.nil_append] at hown
    obtain ⟨a', k', rfl⟩ := own_slice hown
    have HW := Lib.hid hown
    have HB1 := Lib.hid (HB.out.trans (below_grown' HO.out hg (by simp)))
    clear hown hg hat
    go_wp2_with fail
    go_ret
    exact ⟨⟨_, rfl, HW.out⟩, HB1.out⟩
end Go.Proofs.YtipjhdgegfgenaaGreat
/-
  THE REFERENCE'S COPIES: new memory, the same numbers.
-/
set_option linter.unusedVariables false
set_option linter.unusedSimpArgs false
namespace Go.Proofs.YtipjhdgegfgenaaGreat
open Go.RowKit
theorem below_append {w wr w1 : World} {B : Nat} {e : TypeId} {v : Value} {n : Nat} {xs : List Value} {o : Obj} (hB : Below B w wr) (hb : B ≤ w.heap.size) (h : wr.ownsRow B e 1 v n xs) (hg : (wr.alloc o).grownBy w1 v.ownBlock) : Below B w w1 :=
  (hB.alloc (Nat.le_trans hb hB.size) o).grown hg (by have := hB.size; simp; omega) fun k hk => (h.lt k hk).1
theorem info_uint8 : (Tryz.prog.info? 5).map (fun i => (i.zero, i.size, i.bytes)) = some (some (.int .u8 0), 1, 1) := by kernel_rfl
theorem info_int64 : (Tryz.prog.info? 2).map (fun i => (i.zero, i.size, i.bytes)) = some (some (.int .i64 0), 1, 8) := by kernel_rfl
theorem info_int : (Tryz.prog.info? 3).map (fun i => (i.zero, i.size, i.bytes)) = some (some (.int .i64 0), 1, 8) := by kernel_rfl
set_option maxHeartbeats 400000 in
theorem copyWords_any (v : Value) (xs : List Int) (w : World) (hr : Rd w .i64 v xs) (hl : xs.length * 8 ≤ 140737488351232) :
    Calls Tryz.prog 11 #[v] w fun e w' =>
      ∃ v', e = .returned v' ∧ w'.ownsRow w.heap.size 2 1 v' xs.length (xs.map (.int .i64)) ∧ Below w.heap.size w w' := by
  obtain ⟨o, cap, rfl, hc⟩ := hr
  obtain ⟨i0, hi, hz0, hz1, hz2⟩ := info_parts info_int64
  have HC := Lib.hid hc
  clear hc
  go_enter Tryz.func11, Tryz.ntmps11
  go_wp2
  go_loopw [3, 4] (fun v i wr => ∃ k : Nat, k ≤ xs.length ∧ i = .int .i64 k ∧ wr.ownsRow w.heap.size 2 1 v k ((xs.take k).map (.int .i64)) ∧ Below w.heap.size w wr) (fun _ i _ => xs.length - (intOf i).toNat)
  case atStart => exact ⟨0, Nat.zero_le _, rfl, World.ownsRow_nil _ _ _ _, Below.refl _ _⟩
  case round =>
    obtain ⟨k, hk, rfl, hown, hB⟩ := hrel
    by_cases hlt : k < xs.length
    · obtain ⟨b, off, rfl, hcell⟩ := HC.out k hlt
      have hcell' := (hB.cell (p := ⟨b, off + k, none⟩) (cell_lt hcell)).trans hcell
      clear hcell
      go_wp2_with (at_builtin; refine wpList_append_own _ rfl _ _ 34 rfl w.heap.size 2 i0 (.int .i64 0) 1 8 Tryz.underlying34 hi hz0 hz1 hz2 rfl (by decide) _ _ _ rfl (hown.alloc _) ⟨wr.heap.size, 0, none⟩ 1 1 [.int .i64 (nth xs k)] rfl rfl (cell_one_new _ _ _) (by simp [Value.oneCell']) (by unfold maxLen; omega) (by omega) (by have := hB.size; simp; omega) ?_; intro v' w1 hown' hgrow _)
      go_roundw
      case rel => exact ⟨k + 1, by omega, by go_num, by rw [take_succ_nth xs k hlt, List.map_append]; exact hown', below_append hB (Nat.le_refl _) hown hgrow⟩
      case measure => simp [intOf]; omega
    · go_wp2
      go_ret
      obtain rfl : k = xs.length := by omega
      rw [List.take_length] at hown
      exact ⟨_, rfl, hown, hB⟩
set_option maxHeartbeats 400000 in
theorem copyNumbers_any (v : Value) (xs : List Int) (w : World) (hr : Rd w .i64 v xs) (hl : xs.length * 8 ≤ 140737488351232) :
    Calls Tryz.prog 53 #[v] w fun e w' =>
      ∃ v', e = .returned v' ∧ w'.ownsRow w.heap.size 3 1 v' xs.length (xs.map (.int .i64)) ∧ Below w.heap.size w w' := by
  obtain ⟨o, cap, rfl, hc⟩ := hr
  obtain ⟨i0, hi, hz0, hz1, hz2⟩ := info_parts info_int
  have HC := Lib.hid hc
  clear hc
  go_enter Tryz.func53, Tryz.ntmps53
  go_wp2
  go_loopw [3, 4] (fun v i wr => ∃ k : Nat, k ≤ xs.length ∧ i = .int .i64 k ∧ wr.ownsRow w.heap.size 3 1 v k ((xs.take k).map (.int .i64)) ∧ Below w.heap.size w wr) (fun _ i _ => xs.length - (intOf i).toNat)
  case atStart => exact ⟨0, Nat.zero_le _, rfl, World.ownsRow_nil _ _ _ _, Below.refl _ _⟩
  case round =>
    obtain ⟨k, hk, rfl, hown, hB⟩ := hrel
    by_cases hlt : k < xs.length
    · obtain ⟨b, off, rfl, hcell⟩ := HC.out k hlt
      have hcell' := (hB.cell (p := ⟨b, off + k, none⟩) (cell_lt hcell)).trans hcell
      clear hcell
      go_wp2_with (at_builtin; refine wpList_append_own _ rfl _ _ 23 rfl w.heap.size 3 i0 (.int .i64 0) 1 8 Tryz.underlying23 hi hz0 hz1 hz2 rfl (by decide) _ _ _ rfl (hown.alloc _) ⟨wr.heap.size, 0, none⟩ 1 1 [.int .i64 (nth xs k)] rfl rfl (cell_one_new _ _ _) (by simp [Value.oneCell']) (by unfold maxLen; omega) (by omega) (by have := hB.size; simp; omega) ?_; intro v' w1 hown' hgrow _)
      go_roundw
      case rel => exact ⟨k + 1, by omega, by go_num, by rw [take_succ_nth xs k hlt, List.map_append]; exact hown', below_append hB (Nat.le_refl _) hown hgrow⟩
      case measure => simp [intOf]; omega
    · go_wp2
      go_ret
      obtain rfl : k = xs.length := by omega
      rw [List.take_length] at hown
      exact ⟨_, rfl, hown, hB⟩
end Go.Proofs.YtipjhdgegfgenaaGreat
