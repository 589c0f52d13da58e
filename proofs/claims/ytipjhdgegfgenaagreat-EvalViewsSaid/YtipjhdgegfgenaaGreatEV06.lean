/-
  ORDERS: all numbers below n, each once, in the program and in the reference; cursors.
-/
import Derived.Test.YtipjhdgegfgenaaGreatEV04
set_option linter.unusedVariables false
set_option linter.unusedSimpArgs false
namespace Go.Proofs.YtipjhdgegfgenaaGreat
open Go.RowKit Go.Shelf Go
def inB (n : Nat) (a : Int) : Bool := decide (0 ≤ a) && decide (a < n)
/-- all numbers below n, each once -/
def orderB (l : List Int) (n : Nat) : Bool := l.all (inB n) && decide l.Nodup && decide (l.length = n)
theorem nodup_take_succ (l : List Int) (k : Nat) (h : k < l.length) : (l.take (k + 1)).Nodup ↔ (l.take k).Nodup ∧ nth l k ∉ l.take k := by
  rw [take_succ_nth l k h, List.nodup_append]
  constructor
  · rintro ⟨h1, _, h3⟩
    exact ⟨h1, fun hm => h3 _ hm _ (List.mem_singleton.2 rfl) rfl⟩
  · rintro ⟨h1, h2⟩
    refine ⟨h1, (by simp), fun a ha b hb e => ?_⟩
    rw [List.mem_singleton.1 hb] at e
    exact h2 (e ▸ ha)
/-- which numbers have come -/
def cameL (l : List Int) (n : Nat) : List Bool := (List.range n).map fun j : Nat => decide ((j : Int) ∈ l)
theorem cameL_length (l : List Int) (n : Nat) : (cameL l n).length = n := by simp [cameL]
theorem cameL_set (l : List Int) (n j : Nat) (x : Int) (hx : x = j) (hj : j < n) : (cameL l n).set j true = cameL (l ++ [x]) n := by
  subst hx
  apply List.ext_getElem
  · simp [cameL]
  · intro i h1 h2
    rw [List.getElem_set]
    simp only [cameL, List.getElem_map, List.getElem_range, List.mem_append, List.mem_singleton]
    split
    · next h => subst h; simp
    · next h => 
      have : ¬ ((i : Int) = (j : Int)) := by omega
      simp [this]
abbrev OwnBs (w : World) (B : Nat) (e : TypeId) (v : Value) (xs : List Bool) : Prop := w.ownsRow B e 1 v xs.length (xs.map .bool)
theorem own_cells {w : World} {B : Nat} {e : TypeId} {g n cap m : Nat} {xs : List Value} (h : w.ownsRow B e 1 (.slice (some ⟨g, 0, none⟩) n cap) m xs) (j : Nat) {u : Value} (hj : xs[j]? = some u) :
    w.cell? ⟨g, j, none⟩ = some u ∧ w.frozen? ⟨g, j, none⟩ = false := by
  rcases h.2 with ⟨h1, _⟩ | ⟨g', cap', cur, h1, hb, hg, _, _, _, ht⟩
  · simp at h1
  · simp at h1
    obtain ⟨rfl, rfl, _⟩ := h1
    have hl := (List.getElem?_eq_some_iff.1 hj).1
    have hx := hj
    rw [← ht, List.getElem?_take, if_pos (by rw [h.1] at hl; omega)] at hx
    refine ⟨?_, ?_⟩
    · rw [cell_of_row w g j cur e (0, 0) hg]; simpa using hx
    · simp [World.frozen?, hg]
theorem own_set1 {w : World} {B : Nat} {e : TypeId} {g n cap m : Nat} {xs : List Value} (h : w.ownsRow B e 1 (.slice (some ⟨g, 0, none⟩) n cap) m xs) (j : Nat) (u : Value) :
    (w.setCell ⟨g, j, none⟩ u).ownsRow B e 1 (.slice (some ⟨g, 0, none⟩) n cap) m (xs.set j u) := by
  refine ⟨by simpa using h.1, ?_⟩
  rcases h.2 with ⟨h1, _⟩ | ⟨g', cap', cur, h1, hb, hg, h4, h5, h6, ht⟩
  · simp at h1
  · simp at h1
    obtain ⟨rfl, rfl, rfl⟩ := h1
    refine .inr ⟨g, cap, cur.setIfInBounds j u, by simp, hb, by simp [World.setCell, Array.getElem?_modify, hg], by simpa using h4, h5, by simpa using h6, ?_⟩
    rw [Array.toList_setIfInBounds, List.take_set, ht]
theorem madeBools (n : Nat) : (madeCells (Value.bool false).cells (n * 1)).toList = (cameL [] n).map Value.bool := by
  rw [Nat.mul_one]
  apply List.ext_getElem
  · simp [madeCells, cameL]
  · intro i h1 h2
    simp [madeCells, Value.cells, Nat.mod_one, cameL]
theorem info_bool : (Tryz.prog.info? 4).map (fun i => (i.zero, i.size, i.bytes)) = some (some (.bool false), 1, 1) := by kernel_rfl
theorem int_eq_nat (a b : Nat) : ((a : Int) == (b : Int)) = decide (a = b) := by by_cases h : a = b <;> simp [h]; omega
theorem inB_false {n : Nat} {a : Int} (h : inB n a = false) : a < 0 ∨ (n : Int) ≤ a := by
  simp only [inB, Bool.and_eq_false_iff, decide_eq_false_iff_not] at h; omega
theorem inB_true {n : Nat} {a : Int} (h : inB n a = true) : 0 ≤ a ∧ a < n := by
  simp only [inB, Bool.and_eq_true, decide_eq_true_eq] at h; exact h
set_option maxRecDepth 100000 in
set_option maxHeartbeats 1000000 in
theorem viewOrder_any (v : Value) (xs : List Int) (n : Nat) (w : World) (hr : Rd w .i64 v xs) (hl : xs.length ≤ 140737488351232) (hn : n ≤ 100000) :
    Calls Tryz.prog 163 #[v, .int .i64 n] w fun e w' => e = .returned (.bool (orderB xs n)) ∧ Below w.heap.size w w' := by
  obtain ⟨o, cap, rfl, hc⟩ := hr
  obtain ⟨i0, hi, hz0, hz1, hz2⟩ := info_parts info_bool
  have HC := Lib.hid hc
  clear hc
  go_enter Tryz.func163, Tryz.ntmps163
  go_wp2_with (at_make; refine wpList_make_full _ rfl _ _ 224 rfl w.heap.size 4 i0 (.bool false) 1 Tryz.underlying224 hi hz0 hz1 .i64 .i64 _ _ n rfl rfl rfl rfl (by rw [hz2]; omega) (by unfold maxLen; omega) (Nat.le_refl _) ?_; intro w1 hm hg; refine stopHere ?_)
  rw [madeBools] at hm
  have HM := Lib.hid hm
  have HB := Lib.hid (grown_below hg)
  clear hm hg hi hz0 hz1 hz2
  refine goOn ?_
  go_wp2
  go_loopw [12] (fun i wr => ∃ k : Nat, k ≤ xs.length ∧ i = .int .i64 k ∧ wr.ownsRow w.heap.size 4 1 (.slice (some ⟨w.heap.size, 0, none⟩) n n) n ((cameL (xs.take k) n).map .bool) ∧ Below w.heap.size w wr ∧ (xs.take k).all (inB n) = true ∧ (xs.take k).Nodup) (fun i _ => xs.length - (intOf i).toNat)
  case atStart => exact ⟨0, Nat.zero_le _, rfl, HM.out, HB.out, rfl, List.nodup_nil⟩
  case round =>
    obtain ⟨k, hk, rfl, hown, hB, hall, hnd⟩ := hrel
    obtain ⟨w3, rfl⟩ : ∃ w3, w3 = wr := ⟨_, rfl⟩
    have HO := Lib.hid hown
    have HB3 := Lib.hid hB
    have HA := Lib.hid hall
    have HN := Lib.hid hnd
    clear hown hB hall hnd HM HB
    by_cases hlt : k < xs.length
    · obtain ⟨b, off, rfl, hcell⟩ := HC.out k hlt
      have hcell' := (HB3.out.cell (p := ⟨b, off + k, none⟩) (cell_lt hcell)).trans hcell
      clear hcell
      obtain ⟨x, hx⟩ : ∃ x, x = nth xs k := ⟨_, rfl⟩
      rw [← hx] at hcell'
      have HX := Lib.hid hx
      clear hx
      cases hib : inB n x with
      | false =>
        have HI := Lib.hid (show xs.all (inB n) = false from all_false_of _ _ k hlt (by rw [← HX.out]; exact hib))
        rcases inB_false hib with h1 | h1
        · clear hib
          go_wp2
          go_ret
          exact ⟨ret_bool (by rw [orderB, HI.out]; rfl), HB3.out⟩
        · clear hib
          have h0 : ¬ x < 0 := by omega
          go_wp2
          go_ret
          exact ⟨ret_bool (by rw [orderB, HI.out]; rfl), HB3.out⟩
      | true =>
        obtain ⟨h0, h1⟩ := inB_true hib
        have HI := Lib.hid hib
        clear hib
        obtain ⟨j, rfl⟩ : ∃ j : Nat, x = j := ⟨x.toNat, by omega⟩
        have hj : j < n := by omega
        have HJ := Lib.hid hj
        have hcl := own_cells HO.out j (u := .bool (decide ((j : Int) ∈ xs.take k))) (by simp [cameL, hj])
        obtain ⟨hc1, hf1⟩ := hcl
        cases hd : decide ((j : Int) ∈ xs.take k) with
        | true =>
          rw [hd] at hc1
          have HD := Lib.hid (of_decide_eq_true hd)
          clear hd
          go_wp2
          go_ret
          refine ⟨ret_bool ?_, HB3.out⟩
          rw [orderB, decide_eq_false (p := xs.Nodup) (fun h => ?_)]
          · simp
          · have := (nodup_take_succ xs k hlt).1 (h.sublist (List.take_sublist _ _))
            exact this.2 (by rw [← HX.out]; exact HD.out)
        | false =>
          rw [hd] at hc1
          have HD := Lib.hid (of_decide_eq_false hd)
          clear hd
          go_wp2
          go_roundw
          case rel =>
            refine ⟨k + 1, by omega, by go_num, ?_, HB3.out.setCell (p := ⟨w.heap.size, j, none⟩) (Nat.le_refl _) _, ?_, ?_⟩
            · have := own_set1 HO.out j (.bool true)
              rw [← List.map_set, cameL_set _ n j (nth xs k) HX.out.symm HJ.out, ← take_succ_nth xs k hlt] at this
              exact this
            · rw [all_take_succ _ _ _ hlt, HA.out, ← HX.out, HI.out]; rfl
            · exact (nodup_take_succ xs k hlt).2 ⟨HN.out, by rw [← HX.out]; exact HD.out⟩
          case measure => simp [intOf]; omega
    · obtain rfl : k = xs.length := by omega
      have HA' := Lib.hid (show xs.all (inB n) = true by rw [← List.take_length (l := xs)]; exact HA.out)
      have HN' := Lib.hid (show xs.Nodup by rw [← List.take_length (l := xs)]; exact HN.out)
      go_wp2
      go_ret
      exact ⟨ret_bool (by rw [orderB, HA'.out, decide_eq_true HN'.out, Bool.true_and, Bool.true_and, ← int_eq_nat]), HB3.out⟩
set_option maxHeartbeats 1000000 in
theorem ref0In_any (v : Value) (xs : List Int) (x : Int) (w : World) (hr : Rd w .i64 v xs) (hl : xs.length ≤ 140737488351232) :
    Calls Tryz.prog 87 #[v, .int .i64 x] w fun e w' => e = .returned (.bool (decide (x ∈ xs))) ∧ Same w w' := by
  obtain ⟨o, cap, rfl, hc⟩ := hr
  have HC := Lib.hid hc
  clear hc
  go_enter Tryz.func87, Tryz.ntmps87
  go_wp2
  go_loop [5] (fun i => ∃ k : Nat, k ≤ xs.length ∧ i = .int .i64 k ∧ x ∉ xs.take k) (fun i => xs.length - (intOf i).toNat)
  case atStart => exact ⟨0, Nat.zero_le _, rfl, by simp⟩
  case round =>
    obtain ⟨k, hk, rfl, hno⟩ := hrel
    have HN := Lib.hid hno
    clear hno
    by_cases hlt : k < xs.length
    · obtain ⟨b, off, rfl, h1⟩ := HC.out k hlt
      by_cases he : nth xs k = x
      · have hd : (nth xs k == x) = true := by simp [he]
        have HE := Lib.hid he
        clear he
        go_wp2
        go_ret
        exact ⟨ret_bool (decide_eq_true (by rw [← HE.out]; exact nth_mem xs k hlt)).symm, Same.refl _⟩
      · have hd : (nth xs k == x) = false := by simp [he]
        have HE := Lib.hid he
        clear he
        go_wp2
        go_round
        case rel => exact ⟨k + 1, by omega, by go_num, by rw [take_succ_nth xs k hlt, List.mem_append, List.mem_singleton]; exact fun h => h.elim HN.out (fun h => HE.out h.symm)⟩
        case measure => simp [intOf]; omega
    · obtain rfl : k = xs.length := by omega
      have HN' := Lib.hid (show x ∉ xs by rw [← List.take_length (l := xs)]; exact HN.out)
      go_wp2
      go_ret
      exact ⟨ret_bool (decide_eq_false HN'.out).symm, Same.refl _⟩
/-- a list of n numbers that holds all below n is an order -/
theorem order_of_all : ∀ (n : Nat) (l : List Int), l.length = n → (∀ i : Nat, i < n → (i : Int) ∈ l) → (∀ x ∈ l, inB n x = true) ∧ l.Nodup
  | 0, l, hl, _ => by
    obtain rfl := List.eq_nil_of_length_eq_zero hl
    exact ⟨fun x hx => (by cases hx), List.nodup_nil⟩
  | n + 1, l, hl, h => by
    have hm := h n (Nat.lt_succ_self n)
    have hp := List.perm_cons_erase hm
    have hle : (l.erase (n : Int)).length = n := by rw [List.length_erase_of_mem hm, hl]; rfl
    obtain ⟨h1, h2⟩ := order_of_all n (l.erase (n : Int)) hle fun i hi => (List.mem_erase_of_ne (by omega)).2 (h i (by omega))
    refine ⟨fun x hx => ?_, ?_⟩
    · rcases List.mem_cons.1 (hp.mem_iff.1 hx) with rfl | hx
      · simp [inB]; omega
      · have := inB_true (h1 x hx)
        simp only [inB, Bool.and_eq_true, decide_eq_true_eq]; omega
    · rw [hp.nodup_iff, List.nodup_cons]
      exact ⟨fun hx => by have := inB_true (h1 _ hx); omega, h2⟩
theorem mem_of_order : ∀ (n : Nat) (l : List Int), l.length = n → (∀ x ∈ l, inB n x = true) → l.Nodup → ∀ i : Nat, i < n → (i : Int) ∈ l
  | 0, l, hl, _, _, i, hi => absurd hi (Nat.not_lt_zero i)
  | n + 1, l, hl, h, hn, i, hi => by
    by_cases hm : (n : Int) ∈ l
    · by_cases he : i = n
      · subst he; exact hm
      · have hle : (l.erase (n : Int)).length = n := by rw [List.length_erase_of_mem hm, hl]; rfl
        refine List.mem_of_mem_erase (mem_of_order n (l.erase (n : Int)) hle (fun x hx => ?_) (hn.erase _) i (by omega))
        have h1 := inB_true (h x (List.mem_of_mem_erase hx))
        have h2 : x ≠ n := fun e => (List.Nodup.mem_erase_iff hn).1 (e ▸ hx) |>.1 rfl
        simp only [inB, Bool.and_eq_true, decide_eq_true_eq]; omega
    · exfalso
      have hall : ∀ x ∈ l, inB n x = true := fun x hx => by
        have h1 := inB_true (h x hx)
        have h2 : x ≠ n := fun e => hm (e ▸ hx)
        simp only [inB, Bool.and_eq_true, decide_eq_true_eq]; omega
      cases l with
      | nil => simp at hl
      | cons a r =>
        have hr : r.length = n := by simpa using hl
        have := mem_of_order n r hr (fun x hx => hall x (List.mem_cons_of_mem _ hx)) (List.nodup_cons.1 hn).2
        have ha := inB_true (hall a (List.mem_cons_self ..))
        have := this a.toNat (by omega)
        rw [show ((a.toNat : Nat) : Int) = a by omega] at this
        exact (List.nodup_cons.1 hn).1 this
theorem orderB_iff (l : List Int) (n : Nat) : orderB l n = true ↔ l.length = n ∧ ∀ i : Nat, i < n → (i : Int) ∈ l := by
  simp only [orderB, Bool.and_eq_true, decide_eq_true_eq, List.all_eq_true]
  constructor
  · rintro ⟨⟨h1, h2⟩, h3⟩
    exact ⟨h3, mem_of_order n l h3 h1 h2⟩
  · rintro ⟨h1, h2⟩
    exact ⟨order_of_all n l h1 h2, h1⟩
set_option maxHeartbeats 1000000 in
theorem ref6Axes_any (v : Value) (xs : List Int) (n : Nat) (w : World) (hr : Rd w .i64 v xs) (hl : xs.length ≤ 140737488351232) (hn : n ≤ 100000) :
    Calls Tryz.prog 89 #[v, .int .i64 n] w fun e w' => e = .returned (.bool (orderB xs n)) ∧ Same w w' := by
  obtain ⟨o, cap, rfl⟩ := rd_slice hr
  have HR := Lib.hid hr
  clear hr
  by_cases hx : xs.length = n
  · have hd : ((xs.length : Int) != n) = false := by simp [hx]
    have HX := Lib.hid hx
    clear hx
    go_enter Tryz.func89, Tryz.ntmps89
    go_wp2
    go_loopw [5] (fun i wr => ∃ k : Nat, k ≤ n ∧ i = .int .i64 k ∧ (∀ j : Nat, j < k → (j : Int) ∈ xs) ∧ Same w wr) (fun i _ => n - (intOf i).toNat)
    case atStart => exact ⟨0, Nat.zero_le _, rfl, fun j hj => absurd hj (Nat.not_lt_zero j), Same.refl _⟩
    case round =>
      obtain ⟨k, hk, rfl, hall, nq, rfl⟩ := hrel
      have HA := Lib.hid hall
      clear hall
      by_cases hlt : k < n
      · cases hm : decide ((k : Int) ∈ xs) with
        | false =>
          have HM := Lib.hid (of_decide_eq_false hm)
          have HMd := Lib.hid hm
          clear hm
          go_wp2_with fail
          refine (ref0In_any _ xs k _ (HR.out.same ⟨nq, rfl⟩) hl).mono ?_
          rintro e w' ⟨rfl, nr, rfl⟩
          rw [HMd.out]
          go_wp2
          go_ret
          refine ⟨ret_bool ?_, (by first | exact ⟨_, rfl⟩ | exact ⟨_, World.drewN_drewN _ _ _⟩)⟩
          rw [eq_comm, ← Bool.not_eq_true, orderB_iff]
          exact fun h => HM.out (h.2 k hlt)
        | true =>
          have HM := Lib.hid (of_decide_eq_true hm)
          have HMd := Lib.hid hm
          clear hm
          go_wp2_with fail
          refine (ref0In_any _ xs k _ (HR.out.same ⟨nq, rfl⟩) hl).mono ?_
          rintro e w' ⟨rfl, nr, rfl⟩
          rw [HMd.out]
          go_wp2
          go_roundw
          case rel => exact ⟨k + 1, by omega, by go_num, fun j hj => if h : j = k then h ▸ HM.out else HA.out j (by omega), (by first | exact ⟨_, rfl⟩ | exact ⟨_, World.drewN_drewN _ _ _⟩)⟩
          case measure => simp [intOf]; omega
      · obtain rfl : k = n := by omega
        go_wp2
        go_ret
        exact ⟨ret_bool ((orderB_iff xs _).2 ⟨HX.out, HA.out⟩).symm, ⟨nq, rfl⟩⟩
  · have hd : ((xs.length : Int) != n) = true := by simp; omega
    have HX := Lib.hid hx
    clear hx
    go_enter Tryz.func89, Tryz.ntmps89
    go_wp2
    go_ret
    exact ⟨ret_bool (by rw [orderB, decide_eq_false HX.out, Bool.and_false]), Same.refl _⟩
/-- a cursor of n examples -/
def curB (l : List Int) (at_ epoch : Int) (n : Nat) : Bool := decide (1 ≤ n) && (decide (n ≤ 1024) && (orderB l n && (decide (0 ≤ at_) && (decide (at_ ≤ n) && (decide (0 ≤ epoch) && decide (epoch ≤ 1048576))))))
end Go.Proofs.YtipjhdgegfgenaaGreat
