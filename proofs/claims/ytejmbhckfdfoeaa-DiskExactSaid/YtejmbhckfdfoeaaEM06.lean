/-
  THE REFERENCE'S CopyBytes and EqBytes.
-/
import Derived.Carry
import Derived.Test.YtejmbhckfdfoeaaEM02
import Derived.Test.YtejmbhckfdfoeaaEM05
import Derived.Test.YtejmbhckfdfoeaaEM04
set_option linter.unusedVariables false
set_option linter.unusedSimpArgs false
namespace Go.Proofs.Ytejmbhckfdfoeaa
open Go.RowKit
theorem below_append {w wr w1 : World} {B : Nat} {e : TypeId} {v : Value} {n : Nat} {xs : List Value} {o : Obj} (hB : Below B w wr) (hb : B ≤ w.heap.size) (h : wr.ownsRow B e 1 v n xs) (hg : (wr.alloc o).grownBy w1 v.ownBlock) : Below B w w1 :=
  (hB.alloc (Nat.le_trans hb hB.size) o).grown hg (by have := hB.size; simp; omega) fun k hk => (h.lt k hk).1
theorem info_uint8 : (Try.prog.info? 5).map (fun i => (i.zero, i.size, i.bytes)) = some (some (.int .u8 0), 1, 1) := by kernel_rfl
set_option maxHeartbeats 400000 in
theorem copyBytes_any (v : Value) (xs : List Int) (w : World) (hr : Rd w .u8 v xs) (hl : xs.length * 1 ≤ 140737488351232) :
    Calls Try.prog 14 #[v] w fun e w' =>
      ∃ v', e = .returned v' ∧ w'.ownsRow w.heap.size 5 1 v' xs.length (xs.map (.int .u8)) ∧ Below w.heap.size w w' := by
  obtain ⟨o, cap, rfl, hc⟩ := hr
  obtain ⟨i0, hi, hz0, hz1, hz2⟩ := info_parts info_uint8
  have HC := Lib.hid hc
  clear hc
  go_enter Try.func14, Try.ntmps14
  go_wp2
  go_loopw [3, 4] (fun v i wr => ∃ k : Nat, k ≤ xs.length ∧ i = .int .i64 k ∧ wr.ownsRow w.heap.size 5 1 v k ((xs.take k).map (.int .u8)) ∧ Below w.heap.size w wr) (fun _ i _ => xs.length - (intOf i).toNat)
  case atStart => exact ⟨0, Nat.zero_le _, rfl, World.ownsRow_nil _ _ _ _, Below.refl _ _⟩
  case round =>
    obtain ⟨k, hk, rfl, hown, hB⟩ := hrel
    by_cases hlt : k < xs.length
    · obtain ⟨b, off, rfl, hcell⟩ := HC.out k hlt
      have hcell' := (hB.cell (p := ⟨b, off + k, none⟩) (cell_lt hcell)).trans hcell
      clear hcell
      go_wp2_with (at_builtin; refine wpList_append_own _ rfl _ _ 34 rfl w.heap.size 5 i0 (.int .u8 0) 1 1 Try.underlying34 hi hz0 hz1 hz2 rfl (by decide) _ _ _ rfl (hown.alloc _) ⟨wr.heap.size, 0, none⟩ 1 1 [.int .u8 (nth xs k)] rfl rfl (cell_one_new _ _ _) (by simp [Value.oneCell']) (by unfold maxLen; omega) (by omega) (by have := hB.size; simp; omega) ?_; intro v' w1 hown' hgrow _)
      go_roundw
      case rel => exact ⟨k + 1, by omega, by go_num, by rw [take_succ_nth xs k hlt, List.map_append]; exact hown', below_append hB (Nat.le_refl _) hown hgrow⟩
      case measure => simp [intOf]; omega
    · go_wp2
      go_ret
      obtain rfl : k = xs.length := by omega
      rw [List.take_length] at hown
      exact ⟨_, rfl, hown, hB⟩
set_option maxHeartbeats 400000 in
theorem eqBytes_any (v u : Value) (xs ys : List Int) (w : World) (hr : Rd w .u8 v xs) (hs : Rd w .u8 u ys) (hl : xs.length ≤ 140737488351232) :
    Calls Try.prog 16 #[v, u] w fun e w' => e = .returned (.bool (decide (xs = ys))) ∧ Same w w' := by
  obtain ⟨o, cap, rfl, hc⟩ := hr
  obtain ⟨o2, cap2, rfl, hc2⟩ := hs
  have HC := Lib.hid hc
  have HC2 := Lib.hid hc2
  clear hc hc2
  by_cases hlen : xs.length = ys.length
  · have HL := Lib.hid hlen
    clear hlen
    rw [← HL.out]
    go_enter Try.func16, Try.ntmps16
    go_wp2
    go_loopw [5] (fun i wr => ∃ k : Nat, k ≤ xs.length ∧ i = .int .i64 k ∧ (∀ j, j < k → nth xs j = nth ys j) ∧ Same w wr) (fun i _ => xs.length - (intOf i).toNat)
    case atStart => exact ⟨0, Nat.zero_le _, rfl, fun _ h => absurd h (Nat.not_lt_zero _), Same.refl _⟩
    case round =>
      obtain ⟨k, hk, rfl, hpre, nq, rfl⟩ := hrel
      have HP := Lib.hid hpre
      clear hpre
      by_cases hlt : k < xs.length
      · obtain ⟨b, off, rfl, h1⟩ := HC.out k hlt
        obtain ⟨b2, off2, rfl, h2⟩ := HC2.out k (by rw [← HL.out]; exact hlt)
        go_wp2
        go_quiet (fail)
        go_wp2
        · go_ret
          rename_i hne
          exact ⟨by rw [decide_eq_false]; rfl; intro e; rw [e] at hne; simp at hne, by first | exact ⟨_, rfl⟩ | exact ⟨_, World.drewN_drewN _ _ _⟩⟩
        · rename_i he
          have HE := Lib.hid he
          clear he
          go_roundw
          case rel => exact ⟨k + 1, by omega, by go_num, fun j hj => by rcases Nat.lt_succ_iff_lt_or_eq.1 hj with h | h; exact HP.out j h; rw [h]; simpa using HE.out, by first | exact ⟨_, rfl⟩ | exact ⟨_, World.drewN_drewN _ _ _⟩⟩
          case measure => simp [intOf]; omega
      · obtain rfl : k = xs.length := by omega
        have HE : Hid (xs = ys) := Lib.hid (ext_nth HL.out HP.out)
        go_wp2
        go_ret
        exact ⟨by rw [decide_eq_true HE.out]; rfl, _, rfl⟩
  · go_enter Try.func16, Try.ntmps16
    have hb : (((xs.length : Nat) : Int) != ((ys.length : Nat) : Int)) = true := by simp [bne_iff_ne]; omega
    have hne : xs ≠ ys := fun e => hlen (congrArg List.length e)
    have HE := Lib.hid (decide_eq_false hne)
    clear hlen hne
    go_wp2
    go_ret
    exact ⟨by rw [HE.out]; rfl, Same.refl _⟩
end Go.Proofs.Ytejmbhckfdfoeaa
/-
  LEAVES of Crash: modulo, slices.Equal of bytes, next (picks, one by one).
-/
set_option linter.unusedVariables false
set_option linter.unusedSimpArgs false
namespace Go.Proofs.Ytejmbhckfdfoeaa
open Go.RowKit Go.Maps
theorem tmod_emod (a n : Int) (hn : 0 < n) : Int.tmod (Int.tmod a n + n) n = a % n := by
  have h1 : Int.tmod a n = a % n ∨ (Int.tmod a n = a % n - n ∧ 0 < a % n) := by
    rw [Int.tmod_eq_emod]
    by_cases h : 0 ≤ a ∨ n ∣ a
    · rw [if_pos h]; left; omega
    · rw [if_neg h]
      right
      have : a % n ≠ 0 := fun e => h (.inr (Int.dvd_of_emod_eq_zero e))
      have h0 := Int.emod_nonneg a (show n ≠ 0 by omega)
      have : (n.natAbs : Int) = n := Int.natAbs_of_nonneg (by omega)
      constructor <;> omega
  have h0 := Int.emod_nonneg a (show n ≠ 0 by omega)
  have h2 := Int.emod_lt_of_pos a hn
  rcases h1 with h | ⟨h, h3⟩
  · rw [h, Int.tmod_eq_emod_of_nonneg (by omega), Int.add_emod_right, Int.emod_emod]
  · rw [h, Int.tmod_eq_emod_of_nonneg (by omega), Int.sub_add_cancel, Int.emod_emod]
set_option maxHeartbeats 1000000 in
theorem modulo_any (a n : Int) (hn : 0 < n ∧ n ≤ 4294967296) (w : World) : Calls Try.prog 44 #[.int .i64 a, .int .i64 n] w fun e w' => e = .returned (.int .i64 (a % n)) ∧ w = w' := by
  have hne : ¬ n = 0 := by omega
  have hx : -n < Int.tmod a n ∧ Int.tmod a n < n := by
    have h1 := Int.tmod_lt_of_pos a hn.1
    have h2 := Int.tmod_lt_of_pos (-a) hn.1
    rw [Int.neg_tmod] at h2
    omega
  obtain ⟨r, hr⟩ : ∃ r, r = Int.tmod a n := ⟨_, rfl⟩
  have HR := Lib.hid hr
  have e0 : Int.tmod a n = r := hr.symm
  rw [e0] at hx
  have e1 : wrap64 r = r := by unfold wrap64; omega
  have e2 : wrap64 (r + n) = r + n := by unfold wrap64; omega
  have hy : Int.tmod (r + n) n = a % n := by rw [hr]; exact tmod_emod a n hn.1
  have h0 := Int.emod_nonneg a (show n ≠ 0 by omega)
  have h2 := Int.emod_lt_of_pos a hn.1
  have e3 : wrap64 (a % n) = a % n := by unfold wrap64; omega
  have HY := Lib.hid hy
  have HE := Lib.hid (And.intro e0 (And.intro e1 (And.intro e2 e3)))
  clear hr e0 e1 e2 e3 hy h0 h2 HR
  go_enter Try.func44, Try.ntmps44
  go_wp2
  go_ret
  refine ⟨congrArg (fun z => Ending.returned (Value.int .i64 z)) ?_, rfl⟩
  obtain ⟨e0, e1, e2, e3⟩ := HE.out
  simp only [e0, e1, e2, HY.out, e3]
set_option maxHeartbeats 1000000 in
theorem equal8_any (v u : Value) (xs ys : List Int) (w : World) (hr : Rd w .u8 v xs) (hs : Rd w .u8 u ys) (hl : xs.length ≤ 140737488351232) :
    Calls Try.prog 45 #[v, u] w fun e w' => e = .returned (.bool (decide (xs = ys))) ∧ Same w w' := by
  obtain ⟨o, cap, rfl, hc⟩ := hr
  obtain ⟨o2, cap2, rfl, hc2⟩ := hs
  have HC := Lib.hid hc
  have HC2 := Lib.hid hc2
  clear hc hc2
  by_cases hlen : xs.length = ys.length
  · have HL := Lib.hid hlen
    clear hlen
    rw [← HL.out]
    go_enter Try.func45, Try.ntmps45
    go_wp2
    go_loopw [13] (fun i wr => ∃ k : Nat, k ≤ xs.length ∧ i = .int .i64 k ∧ (∀ j, j < k → nth xs j = nth ys j) ∧ Same w wr) (fun i _ => xs.length - (intOf i).toNat)
    case atStart => exact ⟨0, Nat.zero_le _, rfl, fun _ h => absurd h (Nat.not_lt_zero _), Same.refl _⟩
    case round =>
      obtain ⟨k, hk, rfl, hpre, nq, rfl⟩ := hrel
      have HP := Lib.hid hpre
      clear hpre
      by_cases hlt : k < xs.length
      · obtain ⟨b, off, rfl, h1⟩ := HC.out k hlt
        obtain ⟨b2, off2, rfl, h2⟩ := HC2.out k (by rw [← HL.out]; exact hlt)
        go_wp2
        go_quiet (fail)
        go_wp2
        · go_ret
          rename_i hne
          exact ⟨by rw [decide_eq_false]; rfl; intro e; rw [e] at hne; simp at hne, by first | exact ⟨_, rfl⟩ | exact ⟨_, World.drewN_drewN _ _ _⟩⟩
        · rename_i he
          have HE := Lib.hid he
          clear he
          go_roundw
          case rel => exact ⟨k + 1, by omega, by go_num, fun j hj => by rcases Nat.lt_succ_iff_lt_or_eq.1 hj with h | h; exact HP.out j h; rw [h]; simpa using HE.out, by first | exact ⟨_, rfl⟩ | exact ⟨_, World.drewN_drewN _ _ _⟩⟩
          case measure => simp [intOf]; omega
      · obtain rfl : k = xs.length := by omega
        have HE : Hid (xs = ys) := Lib.hid (ext_nth HL.out HP.out)
        go_wp2
        go_ret
        exact ⟨by rw [decide_eq_true HE.out]; rfl, _, rfl⟩
  · go_enter Try.func45, Try.ntmps45
    have hb : (((xs.length : Nat) : Int) != ((ys.length : Nat) : Int)) = true := by simp [bne_iff_ne]; omega
    have hne : xs ≠ ys := fun e => hlen (congrArg List.length e)
    have HE := Lib.hid (decide_eq_false hne)
    clear hlen hne
    go_wp2
    go_ret
    exact ⟨by rw [HE.out]; rfl, Same.refl _⟩
/-- all blocks but this one lie as they lay -/
structure KeepC (c : Nat) (w w' : World) : Prop where
  size : w.heap.size ≤ w'.heap.size
  block : ∀ k, k < w.heap.size → k ≠ c → w'.heap[k]? = w.heap[k]?
  rest : w'.os = w.os ∧ w'.tape = w.tape ∧ w'.output = w.output
theorem KeepC.below {c B : Nat} {w w' : World} (h : KeepC c w w') (hB : B ≤ c) (hz : B ≤ w.heap.size) : Below B w w' := ⟨h.rest.1, h.rest.2.1, h.rest.2.2, h.size, fun k hk => h.block k (by omega) (by omega)⟩
/-- the picks that are left, in their box -/
def PickAt (w0 : World) (c : Nat) (W : World) (pk : List Int) : Prop :=
  ∃ o cap, Box W c 35 #[.slice o pk.length cap] ∧ Rd w0 .i64 (.slice o pk.length cap) pk ∧ pk.length ≤ cap ∧ cap ≤ 9223372036854775807
theorem PickAt.next {w0 W W' : World} {c : Nat} {pk : List Int} (h : PickAt w0 c W pk) (hb : Below W.heap.size W W') : PickAt w0 c W' pk := by
  obtain ⟨o, cap, h1, h2⟩ := h
  exact ⟨o, cap, h1.next hb, h2⟩
theorem rd_tail {w : World} {K : IntKind} {o : Option Addr} {cap : Nat} {x : Int} {r : List Int} (h : Rd w K (.slice o (r.length + 1) cap) (x :: r)) (hc : r.length + 1 ≤ cap) :
    Rd w K (.slice (if cap = 1 then o else o.map (fun a => a.add 1)) r.length (cap - 1)) r := by
  obtain ⟨o', cap', he, hcell⟩ := h
  simp at he
  obtain ⟨rfl, rfl⟩ := he
  refine ⟨_, _, rfl, fun j hj => ?_⟩
  obtain ⟨b, off, rfl, hv⟩ := hcell (j + 1) (by simp; omega)
  have hne : ¬ cap = 1 := by omega
  rw [if_neg hne]
  refine ⟨b, off + 1, by simp [Addr.add_lit], ?_⟩
  rw [show off + 1 + j = off + (j + 1) by omega, hv]
  rfl
set_option maxRecDepth 100000 in
set_option maxHeartbeats 1000000 in
theorem next_any {w0 W : World} {c : Nat} {pk : List Int} (h : PickAt w0 c W pk) (hb : Below w0.heap.size w0 W) (hc : w0.heap.size ≤ c) :
    Calls Try.prog 43 #[.pointer (some ⟨c, 0, none⟩)] W fun e w' => e = .returned (.int .i64 (pk.headD 0)) ∧ PickAt w0 c w' pk.tail ∧ KeepC c W w' := by
  obtain ⟨o, cap, h1, h2, h3, h4⟩ := h
  have HP := Lib.hid (show PickAt w0 c W pk from ⟨o, cap, h1, h2, h3, h4⟩)
  have c0 := h1.cell 0 rfl
  cases pk with
  | nil =>
    clear h1 h2 h3 h4
    go_enter Try.func43, Try.ntmps43
    go_wp2_with fail
    go_ret
    exact ⟨rfl, HP.out, ⟨Nat.le_refl _, fun _ _ _ => rfl, rfl, rfl, rfl⟩⟩
  | cons x r =>
    obtain ⟨b, off, rfl, hx⟩ := h2.cell 0 (by simp)
    have hx' := (hb.cell (p := ⟨b, off + 0, none⟩) (cell_lt hx)).trans hx
    rw [show nth (x :: r) 0 = x from rfl, Nat.add_zero] at hx'
    have HB := Lib.hid h1
    have HR := Lib.hid (show Rd w0 .i64 (.slice (if cap = 1 then some ⟨b, off, none⟩ else some ⟨b, off + 1, none⟩) r.length (cap - 1)) r from by have := rd_tail h2 h3; simpa only [Option.map_some, Addr.add_lit] using this)
    have f0 := h1.free 0
    simp only [List.length_cons] at c0 h3
    have hne : ¬ cap = 1 ∨ cap = 1 := by omega
    clear h1 h2 hx HP
    have hbne : (⟨c, 0, none⟩ : Addr) ≠ ⟨b, off, none⟩ := fun e => by
      cases e
      have c1 : W.cell? ⟨c, 0, none⟩ = some (.slice (some ⟨c, 0, none⟩) (r.length + 1) cap) := c0
      rw [c1] at hx'
      cases hx'
    go_enter Try.func43, Try.ntmps43
    go_wp2_with fail
    go_region
    generalize hu : Value.slice (if cap = 1 then some (Addr.mk b off none) else some (Addr.mk b (off + 1) none)) r.length (cap - 1) = u
    have HU := Lib.hid hu
    clear hu
    go_wp2_with fail
    go_ret
    have hu := HU.out
    subst hu
    exact ⟨rfl, ⟨_, _, (HB.out.set 0 _).same ⟨1, rfl⟩, HR.out, by simp; omega, by omega⟩, ⟨by simp [World.setCell, World.drew], fun k _ hk => Below.heap_setCell W ⟨c, 0, none⟩ _ k hk, rfl, rfl, rfl⟩⟩
end Go.Proofs.Ytejmbhckfdfoeaa
/-
  New, walked at files that may be.
-/
set_option linter.unusedVariables false
set_option linter.unusedSimpArgs false
namespace Go.Proofs.Ytejmbhckfdfoeaa
open Go.RowKit Go.Maps
set_option maxRecDepth 100000 in
set_option maxHeartbeats 4000000 in
theorem new_any (v : Value) (fs : List FileD) (off : Int) (w : World) (hr : FilesRd w v fs) (hfl : fs.length ≤ 1000000) (hoff : -9223372036854775808 ≤ off ∧ off ≤ 9223372036854775807) :
    Calls Try.prog 8 #[v, .int .i64 off] w fun e w' => ((mayB fs = true ∧ ∃ p bs bf s, e = .returned (.tuple #[.pointer (some ⟨p, 0, none⟩), .int .i64 0]) ∧ DRepr w.heap.size w' p bs bf (.slice none 0 0) [] s ∧ SeenIs s fs ∧ s.off = off) ∨ (mayB fs = false ∧ e = .returned (.tuple #[.pointer none, .int .i64 1]))) ∧ Below w.heap.size w w' := by
  obtain ⟨o, cap, rfl, hc⟩ := hr
  have HC := Lib.hid hc
  clear hc
  obtain ⟨W1, hW1⟩ : ∃ W1, W1 = (((w.alloc (.map #[] 0)).alloc (.map #[] 0)).alloc (.cells #[.map (some w.heap.size), .map (some (w.heap.size + 1)), .slice none 0 0, .int .i64 0, .int .i64 off, .bool false] 65)) := ⟨_, rfl⟩
  have hb1 : Below w.heap.size w W1 := by rw [hW1]; exact (((Below.refl _ _).alloc (Nat.le_refl _) _).alloc (by simp) _).alloc (by simp; omega) _
  have HD1 := Lib.hid (show DRepr w.heap.size W1 (w.heap.size + 2) w.heap.size (w.heap.size + 1) (.slice none 0 0) [] (newS off) from by
    refine ⟨?_, ?_, ?_, by omega, World.ownsRow_nil _ _ _ _, fun i c hi => by simp [newS] at hi, fun f hf => by simp [newS] at hf, fun q hq => by simp [newS] at hq, fun q hq => by simp [newS] at hq, fun q hq => by simp [newS] at hq, by omega, Nat.le_refl _, by omega, by simp [newS], hoff, by simp [newS], by simp [newS]⟩
    · rw [hW1]; exact Box.new_at (by simp)
    · rw [hW1]; exact ((MapRep.made w).next ((Below.refl _ _).alloc (Nat.le_refl _) _)).next ((Below.refl _ _).alloc (Nat.le_refl _) _)
    · rw [hW1]
      have := (MapRep.made (w.alloc (.map #[] 0))).next ((Below.refl _ _).alloc (Nat.le_refl _) (.cells #[.map (some w.heap.size), .map (some (w.heap.size + 1)), .slice none 0 0, .int .i64 0, .int .i64 off, .bool false] 65))
      show MapRep _ (w.heap.size + 1) []
      simpa using this)
  have HB1 := Lib.hid hb1
  have HW1 := Lib.hid hW1
  have hmm := @run_makeMap Try.prog
  clear hb1 hW1
  by_cases h16 : 16 < fs.length
  · have e16 : decide ((16 : Int) < fs.length) = true := decide_eq_true (by omega)
    go_enter Try.func8, Try.ntmps8
    go_wp2_with fail
    go_ret2
    exact ⟨.inr ⟨by rw [mayB, decide_eq_false (by omega)]; rfl, rfl⟩, by first | exact HB1.out | (rw [← HW1.out]; exact HB1.out)⟩
  have e16 : decide ((16 : Int) < fs.length) = false := decide_eq_false (by omega)
  have h16 : fs.length ≤ 16 := by omega
  go_enter Try.func8, Try.ntmps8
  go_wp2_with fail
  rw [← HW1.out]
  clear HW1 hmm
  go_loopg [20] fs.length (fun g i wr => ∃ (k : Nat) (s : DSt), g = fs.length - k ∧ k ≤ fs.length ∧ i = .int .i64 k ∧ DRepr w.heap.size wr (w.heap.size + 2) w.heap.size (w.heap.size + 1) (.slice none 0 0) [] s ∧ SeenIs s (fs.take k) ∧ s.off = off ∧ okTo fs k = true ∧ Below w.heap.size w wr)
  case atStart => exact ⟨0, _, rfl, Nat.zero_le _, rfl, HD1.out, ⟨rfl, fun q hq => by simp [newS] at hq, rfl, rfl, rfl, rfl, List.nodup_nil⟩, rfl, rfl, HB1.out⟩
  case round =>
    obtain ⟨k, s, hg, hk, rfl, hd, hse, hso, hto, hbw⟩ := hrel
    have HTK := Lib.hid hto
    obtain ⟨w2, rfl⟩ : ∃ w2, w2 = wr := ⟨_, rfl⟩
    have HD2 := Lib.hid hd
    have HSE := Lib.hid hse
    have HSO := Lib.hid hso
    have HB2 := Lib.hid hbw
    have hwz := hbw.size
    clear hd hse hso hto
    by_cases hlt : k < fs.length
    · have hf := (HC.out k hlt).below hbw (Nat.le_refl _)
      obtain ⟨⟨b, off', od, cd, rfl, c0, c1, hrd⟩, hnl, hdl⟩ := hf
      obtain ⟨ok, hok⟩ : ∃ ok, ok = okAt fs k := ⟨_, rfl⟩
      have hok2 : ok = (goodNm (fnth fs k).nm && (decide ((fnth fs k).da.length ≤ 4194304) && (decide (k = 0) || Op.bytesLess (fnth fs (k - 1)).nm (fnth fs k).nm))) := hok
      have HOKB := Lib.hid hok
      clear hok
      have HP := Lib.hid (fun (h : 0 < k) => (HC.out (k - 1) (by omega)).below hbw (Nat.le_refl _))
      obtain ⟨fd, hfd⟩ : ∃ fd, fd = fnth fs k := ⟨_, rfl⟩
      rw [← hfd] at c0 c1 hrd hnl hdl hok2
      obtain ⟨nm, da⟩ := fd
      simp only at c0 c1 hrd hnl hdl hok2
      have HFD := Lib.hid hfd
      have HOK2 := Lib.hid hok2
      have HNL := Lib.hid hnl
      obtain ⟨W3, hW3⟩ : ∃ W3, W3 = w2.alloc (.cells #[encStr nm, .slice od da.length cd] 48) := ⟨_, rfl⟩
      have hb23 : Below w2.heap.size w2 W3 := by rw [hW3]; exact (Below.refl _ _).alloc (Nat.le_refl _) _
      have HBX3 := Lib.hid (show Box W3 w2.heap.size 48 #[encStr nm, .slice od da.length cd] by rw [hW3]; exact Box.new _ _ _)
      have HD3 := Lib.hid (HD2.out.next hb23 hwz)
      have HR3 := Lib.hid (hrd.below hb23 (Nat.le_refl _))
      have HB3 := Lib.hid (hbw.trans (hb23.mono hwz))
      have HB23 := Lib.hid hb23
      have hz3 := hb23.size
      have HW3 := Lib.hid hW3
      clear hfd hok2 hnl hrd hbw hb23 hW3 HD2
      go_wp2_with fail
      rw [← HW3.out]
      clear HW3 c0 c1
      have t0 := HBX3.out.cell 0 rfl
      have t1 := HBX3.out.cell 1 rfl
      go_cut [49] (fun v wx => v = .bool (!ok) ∧ Same W3 wx)
      case first =>
        cases hgn : goodNm nm with
        | false =>
          have HGN := Lib.hid hgn
          rw [hgn, Bool.false_and] at HOK2
          clear hgn
          go_quiet ((go_at_call 31; exact Calls.quiet_of_same ((diskGood_nm nm _ HNL.out).mono fun e w' ⟨he, hw⟩ => ⟨by rw [he, HGN.out], hw.symm⟩)))
          all_goals (go_wp2_with fail; go_meet; exact ⟨by rw [HOK2.out]; rfl, ⟨_, rfl⟩⟩)
        | true =>
        have HGN := Lib.hid hgn
        rw [hgn, Bool.true_and] at HOK2
        clear hgn
        by_cases hl4 : da.length ≤ 4194304
        · have e2 : decide ((4194304 : Int) < da.length) = false := decide_eq_false (by omega)
          rw [decide_eq_true hl4, Bool.true_and] at HOK2
          by_cases h0 : 0 < k
          · have e3 : decide ((0 : Int) < k) = true := decide_eq_true (by omega)
            rw [decide_eq_false (show ¬ k = 0 by omega), Bool.false_or] at HOK2
            obtain ⟨j, hj⟩ : ∃ j, k = j + 1 := ⟨k - 1, by omega⟩
            obtain ⟨⟨b', off'', od', cd', he, p0, _, _⟩, _, _⟩ := (HP.out h0).below HB23.out (Nat.le_refl _)
            simp at he
            obtain ⟨rfl, rfl⟩ := he
            rw [show k - 1 = j by omega] at p0 HOK2
            obtain ⟨pm, hpm⟩ : ∃ pm, pm = (fnth fs j).nm := ⟨_, rfl⟩
            rw [← hpm] at p0 HOK2
            have hjk : j < fs.length := by omega
            have e4 : IntKind.i64.wrap ((k : Int) - 1) = (j : Int) := by rw [IntWalk.i64_in _ (by omega)]; omega
            have ht1 := nm_toList pm
            have ht2 := nm_toList nm
            clear hpm hj
            cases hcmp : Op.bytesLess pm nm
            all_goals
              rw [hcmp] at HOK2
              go_quiet ((go_at_call 31; exact Calls.quiet_of_same ((diskGood_nm nm _ HNL.out).mono fun e w' ⟨he, hw⟩ => ⟨by rw [he, HGN.out], hw.symm⟩)))
              all_goals (go_wp2_with fail; go_meet; exact ⟨by rw [HOK2.out]; rfl, ⟨_, rfl⟩⟩)
          · have e3 : decide ((0 : Int) < k) = false := decide_eq_false (by omega)
            rw [decide_eq_true (show k = 0 by omega), Bool.true_or] at HOK2
            go_quiet ((go_at_call 31; exact Calls.quiet_of_same ((diskGood_nm nm _ HNL.out).mono fun e w' ⟨he, hw⟩ => ⟨by rw [he, HGN.out], hw.symm⟩)))
            all_goals (go_wp2_with fail; go_meet; exact ⟨by rw [HOK2.out]; rfl, ⟨_, rfl⟩⟩)
        · have e2 : decide ((4194304 : Int) < da.length) = true := decide_eq_true (by omega)
          rw [decide_eq_false hl4, Bool.false_and] at HOK2
          go_quiet ((go_at_call 31; exact Calls.quiet_of_same ((diskGood_nm nm _ HNL.out).mono fun e w' ⟨he, hw⟩ => ⟨by rw [he, HGN.out], hw.symm⟩)))
          all_goals (go_wp2_with fail; go_meet; exact ⟨by rw [HOK2.out]; rfl, ⟨_, rfl⟩⟩)
      case rest =>
        obtain ⟨rfl, hsm⟩ := hcut
        cases ok with
        | false =>
          have HBE := Lib.hid (HB3.out.trans ((hsm.below _).mono (Nat.le_trans hwz hz3)))
          clear hsm
          go_wp2_with fail
          go_ret2
          exact ⟨.inr ⟨by rw [mayB, okTo_no hlt HOKB.out.symm, Bool.and_false], rfl⟩, HBE.out⟩
        | true =>
        have HTO := Lib.hid (show okTo fs (k + 1) = true by rw [okTo_succ, HTK.out, ← HOKB.out]; rfl)
        have hka := HOK2.out.symm
        simp only [Bool.and_eq_true, Bool.or_eq_true, decide_eq_true_eq] at hka
        have hl4 := hka.2.1
        clear hka
        obtain ⟨w4, rfl⟩ : ∃ w4, w4 = wc := ⟨_, rfl⟩
        have hb34 : Below W3.heap.size W3 w4 := hsm.below _
        have hB3 : w.heap.size ≤ W3.heap.size := by omega
        have HD4 := Lib.hid (HD3.out.next hb34 hB3)
        have HBX4 := Lib.hid (HBX3.out.next hb34)
        have HR4 := Lib.hid (HR3.out.below hb34 (Nat.le_refl _))
        have HB4 := Lib.hid (HB3.out.trans (hb34.mono hB3))
        have hz4 := hb34.size
        clear hsm hb34 HD3 HBX3 HR3 HB3 HP t0 t1
        go_wp2_with fail
        have HX := Lib.hid (show Below w4.heap.size w4 w4.drew from Below.drew (Below.refl _ _))
        have tok1 : True := trivial
        have hB4 : w.heap.size ≤ w4.heap.size := by omega
        go_cut [9] (fun v wx => ∃ f, v = .pointer (some ⟨f, 0, none⟩) ∧ FileRep w.heap.size wx f da da ∧ w4.heap.size ≤ f ∧ Below w4.heap.size w4 wx)
        case first =>
          go_region_held3 (fun w' => w'.cell? ⟨w2.heap.size, 1, none⟩ = some (.slice od da.length cd)) (first | exact (HBX4.out.next HX.out).cell 1 rfl | exact (HBX4.out.next (HX.out.alloc HX.out.size _)).cell 1 rfl)
            (first
            | (go_at_call 32; have _t := tok1; refine (clone_any _ da _ (HR4.out.below HX.out (Nat.le_refl _)) hl4).mono ?_; rintro e wz1 ⟨vz1, rfl, hz1, hbz1⟩; obtain ⟨oz1, kz1, rfl⟩ := rd_slice hz1.rd; have HZA := Lib.hid hz1; have hzs1 := HX.out.size; have HX := Lib.hid (HX.out.trans (hbz1.mono HX.out.size)); clear hz1 hbz1 tok1)
            | (go_at_call 32; refine (clone_any _ da _ (HR4.out.below HX.out (Nat.le_refl _)) hl4).mono ?_; rintro e wz2 ⟨vz2, rfl, hz2, hbz2⟩; obtain ⟨oz2, kz2, rfl⟩ := rd_slice hz2.rd; have HZB := Lib.hid hz2; have HZA2 := Lib.hid (HZA.out.step (Step.of_below (B := 0) hbz2 (Nat.zero_le _))); have hzs2 := HX.out.size; have HX := Lib.hid (HX.out.trans (hbz2.mono HX.out.size)); clear hz2 hbz2))
          all_goals (go_wp2_with fail; go_meet)
          have hal : Below wz2.heap.size wz2 (wz2.alloc (.cells #[.slice oz1 da.length kz1, .slice oz2 da.length kz2] 68)) := (Below.refl _ _).alloc (Nat.le_refl _) _
          have hx2 := HX.out.size
          exact ⟨wz2.heap.size, rfl, ⟨⟨_, _, Box.new _ _ _, (HZA2.out.step (Step.of_below (B := 0) hal (Nat.zero_le _))).mono (show w.heap.size ≤ w4.drew.heap.size from hB4), (HZB.out.step (Step.of_below (B := 0) hal (Nat.zero_le _))).mono (by omega)⟩, by omega⟩, hx2, HX.out.alloc hx2 _⟩
        case rest =>
          obtain ⟨f, rfl, hfr, hfl, hb45⟩ := hcut
          obtain ⟨w5, rfl⟩ : ∃ w5, w5 = wc := ⟨_, rfl⟩
          have HD5 := Lib.hid ((HD4.out.next hb45 hB4).add hfr (fun hm => by have := HD4.out.idLt hm; omega))
          have HFN := Lib.hid (show ∀ q ∈ s.seen, q.2 ≠ f from fun q hq e => by have := HD4.out.idLt (HD4.out.in1 q hq); omega)
          have HB5 := Lib.hid (HB4.out.trans (hb45.mono hB4))
          have HBX5 := Lib.hid (HBX4.out.next hb45)
          have hz5 := hb45.size
          clear hb45 hfr HD4 HB4 HBX4 HR4 HX tok1
          have HLT := Lib.hid (show ∀ q ∈ s.seen, q.1 < nm from by have := HSE.out.below_next HTO.out (Nat.lt_succ_self k) hlt; rw [← HFD.out] at this; exact this)
          have HLE := Lib.hid (show s.seen.length = k from by rw [HSE.out.length, List.length_take]; omega)
          have hln : s.seen.length < maxLen := by have := HLE.out; unfold maxLen; omega
          have hd6 : DRepr w.heap.size w5.drew (w.heap.size + 2) w.heap.size (w.heap.size + 1) (.slice none 0 0) [] (addS s f da da) := HD5.out.next (Below.drew (Below.refl _ _)) (by omega)
          obtain ⟨v0, st0, wa, wb, r1, r2, hma, hga, hgb⟩ := hd6.seen.entry nm HNL.out f hln
          obtain ⟨hd7, hs7⟩ := hd6.mapped hma hgb (fun q hq => by
            rcases lput_mem hq with rfl | hq
            · exact List.mem_cons_self ..
            · exact hd6.in1 q hq) (fun q hq => by
            rcases lput_mem hq with rfl | hq
            · exact HNL.out
            · exact hd6.nm1 q hq) (by
            show (lput s.seen nm f).length ≤ _
            rw [lput_last HLT.out]; have := HLE.out; simp; omega)
          obtain ⟨v1, st1, wc', wd, r3, r4, hmb, hgc, hgd⟩ := hd7.safe.entry nm HNL.out f (by show s.safe.length < _; rw [HSE.out.safe]; exact hln)
          obtain ⟨hd8, hs8⟩ := hd7.mappedSafe hmb hgd (fun q hq => by
            rcases lput_mem hq with rfl | hq
            · exact List.mem_cons_self ..
            · exact hd6.in2 q hq)
          have c0 := HD5.out.box.cell 0 rfl
          have c1 := HD5.out.box.cell 1 rfl
          have t0 := HBX5.out.cell 0 rfl
          have hbn6 : Box w5.drew w2.heap.size 48 #[encStr nm, .slice od da.length cd] := HBX5.out.next (Below.drew (Below.refl _ _))
          have hbna := box_grown hbn6 hd6.seen hga
          have hbnb := box_grown hbn6 hd6.seen hgb
          have hbnc := box_grown hbnb hd7.safe hgc
          have hbpa := box_grown hd6.box hd6.seen hga
          have hbpc := box_grown hd7.box hd7.safe hgc
          have ta := hbna.cell 0 rfl
          have tb := hbnb.cell 0 rfl
          have tc := hbnc.cell 0 rfl
          have ca0 := hbpa.cell 0 rfl
          have ca1 := hbpa.cell 1 rfl
          have cb0 := hd7.box.cell 0 rfl
          have cb1 := hd7.box.cell 1 rfl
          have cc0 := hbpc.cell 0 rfl
          have cc1 := hbpc.cell 1 rfl
          clear hbn6 hbna hbnb hbnc hbpa hbpc
          have HD8 := Lib.hid hd8
          have HS8 := Lib.hid (hs7.trans hs8)
          clear hd6 hd7 hs7 hd8 hs8 hma hga hgb hmb hgc hgd HBX5
          go_wp2_with fail
          go_region
          have HBE := Lib.hid ((HB5.out.drew).trans HS8.out.below)
          have HSE8 := Lib.hid (HSE.out.enter (fnth fs k) f HFN.out (by rw [← HFD.out]; exact HLT.out))
          rw [← HFD.out, ] at HSE8
          clear c0 c1 t0 ta tb tc ca0 ca1 cb0 cb1 cc0 cc1 r1 r2 r3 r4
          have e5 : IntKind.i64.wrap ((k : Int) + 1) = ((k + 1 : Nat) : Int) := by rw [IntWalk.i64_in _ (by omega)]; omega
          go_wp2_with fail
          go_roundg (fs.length - (k + 1))
          case measure => omega
          case rel => exact ⟨k + 1, enterS s nm f da, rfl, hlt, rfl, HD8.out, by rw [take_fnth fs k hlt, ← HFD.out]; exact HSE8.out, HSO.out, HTO.out, HBE.out⟩
    · have hke : k = fs.length := by omega
      subst hke
      have HSF := HSE.out
      rw [List.take_length] at HSF
      have HSE2 := Lib.hid HSF
      clear HSE HSF
      go_wp2_with fail
      go_ret2
      exact ⟨.inl ⟨by rw [mayB, HTK.out, decide_eq_true h16]; rfl, _, _, _, s, rfl, HD2.out, HSE2.out, HSO.out⟩, HB2.out⟩
theorem new_ok (v : Value) (fs : List FileD) (off : Int) (w : World) (hr : FilesRd w v fs) (hok : mayB fs = true) (hoff : -9223372036854775808 ≤ off ∧ off ≤ 9223372036854775807) :
    Calls Try.prog 8 #[v, .int .i64 off] w fun e w' => (∃ p bs bf s, e = .returned (.tuple #[.pointer (some ⟨p, 0, none⟩), .int .i64 0]) ∧ DRepr w.heap.size w' p bs bf (.slice none 0 0) [] s ∧ SeenIs s fs ∧ s.off = off) ∧ Below w.heap.size w w' := by
  have hl : fs.length ≤ 16 := by
    have := hok
    rw [mayB, Bool.and_eq_true, decide_eq_true_eq] at this
    exact this.1
  refine (new_any v fs off w hr (by omega) hoff).mono ?_
  rintro e w' ⟨h | h, hb⟩
  · exact ⟨h.2, hb⟩
  · rw [hok] at h; cases h.1
end Go.Proofs.Ytejmbhckfdfoeaa
/-
  LEAF FUNCTIONS of the disk's laws: num, Within, there.
-/
set_option linter.unusedVariables false
set_option linter.unusedSimpArgs false
namespace Go.Proofs.Ytejmbhckfdfoeaa
open Go.RowKit Go.Maps
theorem num32_any (n : Int) (w : World) : Calls Try.prog 10 #[.int .i64 n] w fun e w' => e = .returned (.int .i64 n) ∧ w = w' := by
  go_enter Try.func10, Try.ntmps10
  go_wp2
  go_ret
  exact ⟨rfl, rfl⟩
/-- is the name among these? -/
def thereB (fs : List FileD) (x : List UInt8) : Bool := fs.any fun f => f.nm == x
theorem thereB_yes {fs : List FileD} {x : List UInt8} {k : Nat} (h : k < fs.length) (he : (fnth fs k).nm = x) : thereB fs x = true := by
  rw [thereB, List.any_eq_true]
  refine ⟨fs[k], List.getElem_mem h, ?_⟩
  rw [fnth, List.getD_eq_getElem?_getD, List.getElem?_eq_getElem h] at he
  simpa using he
theorem thereB_no {fs : List FileD} {x : List UInt8} (h : ∀ k, k < fs.length → (fnth fs k).nm ≠ x) : thereB fs x = false := by
  rw [thereB, Bool.eq_false_iff]
  intro hc
  obtain ⟨f, hf, he⟩ := List.any_eq_true.1 hc
  obtain ⟨k, hk, rfl⟩ := List.mem_iff_getElem.1 hf
  have := h k hk
  rw [fnth, List.getD_eq_getElem?_getD, List.getElem?_eq_getElem hk] at this
  exact this (by simpa using he)
set_option maxHeartbeats 4000000 in
theorem there32_any (v : Value) (fs : List FileD) (x : List UInt8) (w : World) (hr : FilesRd w v fs) (hl : fs.length ≤ 140737488351232) :
    Calls Try.prog 18 #[v, .string ⟨x.toArray⟩] w fun e w' => e = .returned (.bool (thereB fs x)) ∧ w = w' := by
  obtain ⟨o, cap, rfl, hc⟩ := hr
  have HC := Lib.hid hc
  clear hc
  go_enter Try.func18, Try.ntmps18
  go_wp2_with fail
  go_loopg [5] fs.length (fun g i wr => ∃ k : Nat, g = fs.length - k ∧ k ≤ fs.length ∧ i = .int .i64 k ∧ (∀ j, j < k → (fnth fs j).nm ≠ x) ∧ wr = w)
  case atStart => exact ⟨0, rfl, Nat.zero_le _, rfl, fun j hj => by omega, rfl⟩
  case round =>
    obtain ⟨k, hg, hk, rfl, hno, rfl⟩ := hrel
    have HNO := Lib.hid hno
    clear hno
    by_cases hlt : k < fs.length
    · obtain ⟨⟨b, off, od, cd, rfl, c0, c1, _⟩, hnl, hdl⟩ := HC.out k hlt
      obtain ⟨nm, hnm⟩ : ∃ nm, nm = (fnth fs k).nm := ⟨_, rfl⟩
      rw [← hnm] at c0
      have HNM := Lib.hid hnm
      clear hnm hnl hdl c1
      simp only [encStr] at c0
      cases hb : (nm == x) with
      | true =>
        go_wp2_with fail
        go_ret
        exact ⟨ret_bool' (thereB_yes hlt (by rw [← HNM.out]; simpa using hb)).symm, rfl⟩
      | false =>
        go_wp2_with fail
        go_roundg (fs.length - (k + 1))
        case measure => omega
        case rel =>
          refine ⟨k + 1, rfl, hlt, rfl, fun j hj => ?_, rfl⟩
          rcases Nat.lt_or_ge j k with h | h
          · exact HNO.out j h
          · have : j = k := by omega
            subst this
            rw [← HNM.out]
            simpa using hb
    · have hke : k = fs.length := by omega
      subst hke
      go_wp2_with fail
      go_ret
      exact ⟨ret_bool' (thereB_no HNO.out).symm, rfl⟩
/-- a number below n, from any number -/
def withinI (a n : Int) : Int := Int.tmod (IntKind.u64.wrap a) n
theorem withinI_in (a n : Int) (hn : 0 < n) : 0 ≤ withinI a n ∧ withinI a n < n := by
  have h0 : 0 ≤ IntKind.u64.wrap a := by simp [IntKind.wrap, IntKind.signed, IntKind.bits]; omega
  exact ⟨Int.tmod_nonneg _ h0, Int.tmod_lt_of_pos _ hn⟩
theorem within_any (a n : Int) (hn : 0 < n ∧ n ≤ 4294967296) (w : World) : Calls Try.prog 19 #[.int .i64 a, .int .i64 n] w fun e w' => e = .returned (.int .i64 (withinI a n)) ∧ w = w' := by
  have e1 : IntKind.u64.wrap n = n := by simp [IntKind.wrap, IntKind.signed, IntKind.bits]; omega
  have hne : ¬ n = 0 := by omega
  have hin := withinI_in a n hn.1
  have e2 : wrap64 (withinI a n) = withinI a n := by unfold wrap64; omega
  have HE2 := Lib.hid e2
  clear e2 hin
  go_enter Try.func19, Try.ntmps19
  go_wp2
  go_ret
  exact ⟨congrArg (fun z => Ending.returned (Value.int .i64 z)) HE2.out, rfl⟩
end Go.Proofs.Ytejmbhckfdfoeaa
/-
  SCRIPTS of a disk's laws: files, where the power goes off, calls. `heavy` walked.
-/
set_option linter.unusedVariables false
set_option linter.unusedSimpArgs false
namespace Go.Proofs.Ytejmbhckfdfoeaa
open Go.RowKit Go.Maps
/-- a call as read: which, two names, bytes, picks -/
structure ActD where
  act : Int
  a : List UInt8
  b : List UInt8
  da : List Int
  pk : List Int
def anth (l : List ActD) (k : Nat) : ActD := l.getD k ⟨0, [], [], [], []⟩
structure ActRd (w : World) (o : Option Addr) (i : Nat) (f : ActD) : Prop where
  ex : ∃ b off od cd op cp, o = some ⟨b, off, none⟩ ∧ w.cell? ⟨b, off + i * 5, none⟩ = some (.int .i64 f.act) ∧ w.cell? ⟨b, off + i * 5 + 1, none⟩ = some (encStr f.a) ∧ w.cell? ⟨b, off + i * 5 + 2, none⟩ = some (encStr f.b) ∧
    w.cell? ⟨b, off + i * 5 + 3, none⟩ = some (.slice od f.da.length cd) ∧ w.cell? ⟨b, off + i * 5 + 4, none⟩ = some (.slice op f.pk.length cp) ∧ Rd w .u8 (.slice od f.da.length cd) f.da ∧ Rd w .i64 (.slice op f.pk.length cp) f.pk
  al : f.a.length ≤ maxLen
  bl : f.b.length ≤ maxLen
  dl : f.da.length ≤ 140737488351232
  pl : f.pk.length ≤ 140737488351232
def ActsRd (w : World) (v : Value) (l : List ActD) : Prop :=
  ∃ o cap, v = .slice o l.length cap ∧ ∀ i, i < l.length → ActRd w o i (anth l i)
theorem ActRd.below {w w' : World} {o : Option Addr} {i : Nat} {f : ActD} {B : Nat} (h : ActRd w o i f) (hB : Below B w w') (hs : w.heap.size ≤ B) : ActRd w' o i f := by
  obtain ⟨b, off, od, cd, op, cp, rfl, h1, h2, h3, h4, h5, h6, h7⟩ := h.ex
  have k : ∀ {n m : Nat} {v : Value}, w.cell? ⟨n, m, none⟩ = some v → w'.cell? ⟨n, m, none⟩ = some v := fun {n m v} hc => (hB.cell (p := ⟨n, m, none⟩) (Nat.lt_of_lt_of_le (cell_lt hc) hs)).trans hc
  exact ⟨⟨b, off, od, cd, op, cp, rfl, k h1, k h2, k h3, k h4, k h5, h6.below hB hs, h7.below hB hs⟩, h.al, h.bl, h.dl, h.pl⟩
theorem ActsRd.below {w w' : World} {v : Value} {l : List ActD} {B : Nat} (h : ActsRd w v l) (hB : Below B w w') (hs : w.heap.size ≤ B) : ActsRd w' v l := by
  obtain ⟨o, cap, rfl, hc⟩ := h
  exact ⟨o, cap, rfl, fun i hi => (hc i hi).below hB hs⟩
/-- the bytes of the first k files -/
def filesTo (fs : List FileD) : Nat → Nat
  | 0 => 0
  | k + 1 => filesTo fs k + (fnth fs k).da.length
/-- the bytes and picks of the first k calls -/
def actsTo (l : List ActD) : Nat → Nat
  | 0 => 0
  | k + 1 => actsTo l k + (anth l k).da.length + (anth l k).pk.length
def heavyB (fs : List FileD) (l : List ActD) : Bool := decide (3000 < filesTo fs (min fs.length 100) + actsTo l (min l.length 25)) || decide (100 < fs.length)
theorem filesTo_le {fs : List FileD} (h : ∀ k, k < fs.length → (fnth fs k).da.length ≤ 140737488351232) : ∀ k, k ≤ fs.length → filesTo fs k ≤ k * 140737488351232
  | 0, _ => by simp [filesTo]
  | k + 1, hk => by
    have := filesTo_le h k (by omega)
    have := h k (by omega)
    rw [filesTo]; omega
theorem actsTo_le {l : List ActD} (h : ∀ k, k < l.length → (anth l k).da.length ≤ 140737488351232 ∧ (anth l k).pk.length ≤ 140737488351232) : ∀ k, k ≤ l.length → actsTo l k ≤ k * 281474976702464
  | 0, _ => by simp [actsTo]
  | k + 1, hk => by
    have := actsTo_le h k (by omega)
    have := h k (by omega)
    rw [actsTo]; omega
set_option maxRecDepth 100000 in
set_option maxHeartbeats 4000000 in
theorem heavy32_any (vf va : Value) (off : Int) (fs : List FileD) (l : List ActD) (w : World) (hf : FilesRd w vf fs) (ha : ActsRd w va l) (hl : fs.length ≤ 140737488351232 ∧ l.length ≤ 140737488351232) :
    Calls Try.prog 6 #[.agg #[vf, .int .i64 off, va]] w fun e w' => e = .returned (.bool (heavyB fs l)) ∧ Below w.heap.size w w' := by
  obtain ⟨of_, cf, rfl, hcf⟩ := hf
  obtain ⟨oa, ca, rfl, hca⟩ := ha
  have HCF := Lib.hid hcf
  have HCA := Lib.hid hca
  clear hcf hca
  go_enter Try.func6, Try.ntmps6
  go_wp2_with fail
  obtain ⟨W1, hW1⟩ : ∃ W1, W1 = (w.alloc (Obj.cells #[Value.slice of_ fs.length cf, Value.int IntKind.i64 off, Value.slice oa l.length ca] 25)) := ⟨_, rfl⟩
  have hbx : Box W1 w.heap.size 25 #[Value.slice of_ fs.length cf, Value.int IntKind.i64 off, Value.slice oa l.length ca] := by rw [hW1]; exact Box.new _ _ _
  have hb1 : Below w.heap.size w W1 := by rw [hW1]; exact (Below.refl _ _).alloc (Nat.le_refl _) _
  have c0 := hbx.cell 0 rfl
  have c2 := hbx.cell 2 rfl
  have HB1 := Lib.hid hb1
  have HBX := Lib.hid hbx
  rw [← hW1]
  clear hb1 hbx hW1
  go_loopg [3, 4] fs.length (fun g n i wr => ∃ k : Nat, g = fs.length - k ∧ k ≤ fs.length ∧ k ≤ 100 ∧ n = .int .i64 (filesTo fs k) ∧ i = .int .i64 k ∧ wr = W1)
  case atStart => exact ⟨0, rfl, Nat.zero_le _, by omega, rfl, rfl, rfl⟩
  case round =>
    obtain ⟨k, hg, hk, hk2, rfl, rfl, rfl⟩ := hrel
    have hbd : filesTo fs k ≤ k * 140737488351232 := filesTo_le (fun j hj => (HCF.out j hj).dl) k hk
    by_cases hin : k < fs.length ∧ k < 100
    · obtain ⟨hlt, h100⟩ := hin
      obtain ⟨⟨b, o1, od, cd, rfl, d0, d1, _⟩, hnl, hdl⟩ := (HCF.out k hlt).below HB1.out (Nat.le_refl _)
      have hbd2 : filesTo fs k ≤ 14073748835123200 := by omega
      clear hbd d0
      go_wp2_with fail
      go_roundg (fs.length - (k + 1))
      case measure => omega
      case rel => exact ⟨k + 1, rfl, hlt, h100, by rw [filesTo]; go_num, by go_num, rfl⟩
    · have hm : min fs.length 100 = k := by omega
      have hcase : (k < fs.length ∧ ¬ k < 100) ∨ ¬ k < fs.length := by omega
      have hbd2 : filesTo fs k ≤ 14073748835123200 := by omega
      obtain ⟨N, hN⟩ : ∃ N, N = filesTo fs k := ⟨_, rfl⟩
      rw [← hN] at hbd2 ⊢
      have HN := Lib.hid (show filesTo fs (min fs.length 100) = N by rw [hm, hN])
      clear hbd hN hg hm hin
      obtain ⟨W2, rfl⟩ : ∃ W2, W2 = wr := ⟨_, rfl⟩
      rcases hcase with ⟨hlt, h100⟩ | hlt
      all_goals go_wp2_with fail
      all_goals (
        clear hlt
        go_loopg [3, 5] l.length (fun g n i wr => ∃ k : Nat, g = l.length - k ∧ k ≤ l.length ∧ k ≤ 25 ∧ n = .int .i64 ((N + actsTo l k : Nat) : Int) ∧ i = .int .i64 k ∧ Same W2 wr)
        case atStart => exact ⟨0, rfl, Nat.zero_le _, by omega, rfl, rfl, Same.refl _⟩
        case round =>
          obtain ⟨m, hg, hk, hk2, rfl, rfl, hsm⟩ := hrel
          obtain ⟨W3, rfl⟩ : ∃ W3, W3 = wr := ⟨_, rfl⟩
          have hbd : actsTo l m ≤ m * 281474976702464 := actsTo_le (fun j hj => ⟨(HCA.out j hj).dl, (HCA.out j hj).pl⟩) m hk
          have hbd3 : actsTo l m ≤ 7036874417561600 := by omega
          have HSM := Lib.hid hsm
          have b0 := (HBX.out.next (hsm.below _)).cell 0 rfl
          have b2 := (HBX.out.next (hsm.below _)).cell 2 rfl
          clear hbd c0 c2
          by_cases hin : m < l.length ∧ m < 25
          · obtain ⟨hlt, h25⟩ := hin
            obtain ⟨⟨b, o1, od, cd, op, cp, rfl, _, _, _, d3, d4, _, _⟩, _, _, hdl, hpl⟩ := (HCA.out m hlt).below (HB1.out.trans (hsm.below _)) (Nat.le_refl _)
            clear hsm
            go_wp2_with fail
            go_quiet (fail)
            all_goals (
              go_wp2_with fail
              go_roundg (l.length - (m + 1))
              case measure => omega
              case rel => exact ⟨m + 1, rfl, hlt, h25, by rw [actsTo]; go_num, by go_num, HSM.out.trans ⟨_, rfl⟩⟩)
          · have hm : min l.length 25 = m := by omega
            have hcase : (m < l.length ∧ ¬ m < 25) ∨ ¬ m < l.length := by omega
            clear hsm
            rcases hcase with ⟨hlt, h25⟩ | hlt
            all_goals by_cases hL : (100 : Int) < fs.length
            all_goals go_wp2_with fail
            all_goals (
              go_ret
              refine ⟨ret_bool' ?_, HB1.out.trans (HSM.out.below _)⟩
              simp [heavyB, HN.out, hm]
              first | omega | (rw [Bool.eq_iff_iff, Bool.or_eq_true, decide_eq_true_eq, decide_eq_true_eq, decide_eq_true_eq]; omega)))
end Go.Proofs.Ytejmbhckfdfoeaa
/-
  The sorted iterator of a disk's names: `sorted`.
-/
set_option linter.unusedVariables false
set_option linter.unusedSimpArgs false
namespace Go.Proofs.Ytejmbhckfdfoeaa
open Go.RowKit Go.Maps
theorem sorted_any (b : Nat) (w : World) : Calls Try.prog 35 #[.map (some b)] w fun e w' => e = .returned (.func (.func 56) #[] #[.pointer (some ⟨w.heap.size, 0, none⟩)]) ∧ w' = w.alloc (.cells #[.map (some b)] 62) := by
  have hmf : ∀ (fn : Fn) (first cap : Array Value) (w : World), (Instr.makeFunc fn first cap).run Try.prog w = .ok (.func fn first cap) w := fun _ _ _ _ => rfl
  go_enter Try.func35, Try.ntmps35
  go_wp2_with fail
  go_ret
  exact ⟨rfl, rfl⟩
end Go.Proofs.Ytejmbhckfdfoeaa
