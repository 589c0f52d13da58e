/-
  LEAVES of Crash: modulo, slices.Equal of bytes, next (picks, one by one).
-/
import Derived.Test.YtejmbhckfdfoeaaDSyncDir
import Derived.Test.YtejmbhckfdfoeaaDCopy
set_option linter.unusedVariables false
set_option linter.unusedSimpArgs false
namespace Go.Proofs.Ytejmbhckfdfoeaa
open Go.RowKit Go.Maps
theorem tmod_emod (a n : Int) (hn : 0 < n) : Int.tmod (Int.tmod a n + n) n = a % n := by
  have h1 : Int.tmod a n = a % n ∨ (Int.tmod a n = a % n - n ∧ 0 < a % n) := by
    rw [Int.tmod_eq_emod]
    by_cases h : 0 ≤ a ∨ n ∣ a
    · rw [if_pos h]; left; omega
    · rw [if_neg h]
      right
      have : a % n ≠ 0 := fun e => h (.inr (Int.dvd_of_emod_eq_zero e))
      have h0 := Int.emod_nonneg a (show n ≠ 0 by omega)
      have : (n.natAbs : Int) = n := Int.natAbs_of_nonneg (by omega)
      constructor <;> omega
  have h0 := Int.emod_nonneg a (show n ≠ 0 by omega)
  have h2 := Int.emod_lt_of_pos a hn
  rcases h1 with h | ⟨h, h3⟩
  · rw [h, Int.tmod_eq_emod_of_nonneg (by omega), Int.add_emod_right, Int.emod_emod]
  · rw [h, Int.tmod_eq_emod_of_nonneg (by omega), Int.sub_add_cancel, Int.emod_emod]
set_option maxHeartbeats 1000000 in
theorem modulo_any (a n : Int) (hn : 0 < n ∧ n ≤ 4294967296) (w : World) : Calls Try.prog 44 #[.int .i64 a, .int .i64 n] w fun e w' => e = .returned (.int .i64 (a % n)) ∧ w = w' := by
  have hne : ¬ n = 0 := by omega
  have hx : -n < Int.tmod a n ∧ Int.tmod a n < n := by
    have h1 := Int.tmod_lt_of_pos a hn.1
    have h2 := Int.tmod_lt_of_pos (-a) hn.1
    rw [Int.neg_tmod] at h2
    omega
  obtain ⟨r, hr⟩ : ∃ r, r = Int.tmod a n := ⟨_, rfl⟩
  have HR := Lib.hid hr
  have e0 : Int.tmod a n = r := hr.symm
  rw [e0] at hx
  have e1 : wrap64 r = r := by unfold wrap64; omega
  have e2 : wrap64 (r + n) = r + n := by unfold wrap64; omega
  have hy : Int.tmod (r + n) n = a % n := by rw [hr]; exact tmod_emod a n hn.1
  have h0 := Int.emod_nonneg a (show n ≠ 0 by omega)
  have h2 := Int.emod_lt_of_pos a hn.1
  have e3 : wrap64 (a % n) = a % n := by unfold wrap64; omega
  have HY := Lib.hid hy
  have HE := Lib.hid (And.intro e0 (And.intro e1 (And.intro e2 e3)))
  clear hr e0 e1 e2 e3 hy h0 h2 HR
  go_enter Try.func44, Try.ntmps44
  go_wp2
  go_ret
  refine ⟨congrArg (fun z => Ending.returned (Value.int .i64 z)) ?_, rfl⟩
  obtain ⟨e0, e1, e2, e3⟩ := HE.out
  simp only [e0, e1, e2, HY.out, e3]
set_option maxHeartbeats 1000000 in
theorem equal8_any (v u : Value) (xs ys : List Int) (w : World) (hr : Rd w .u8 v xs) (hs : Rd w .u8 u ys) (hl : xs.length ≤ 140737488351232) :
    Calls Try.prog 45 #[v, u] w fun e w' => e = .returned (.bool (decide (xs = ys))) ∧ Same w w' := by
  obtain ⟨o, cap, rfl, hc⟩ := hr
  obtain ⟨o2, cap2, rfl, hc2⟩ := hs
  have HC := Lib.hid hc
  have HC2 := Lib.hid hc2
  clear hc hc2
  by_cases hlen : xs.length = ys.length
  · have HL := Lib.hid hlen
    clear hlen
    rw [← HL.out]
    go_enter Try.func45, Try.ntmps45
    go_wp2
    go_loopw [13] (fun i wr => ∃ k : Nat, k ≤ xs.length ∧ i = .int .i64 k ∧ (∀ j, j < k → nth xs j = nth ys j) ∧ Same w wr) (fun i _ => xs.length - (intOf i).toNat)
    case atStart => exact ⟨0, Nat.zero_le _, rfl, fun _ h => absurd h (Nat.not_lt_zero _), Same.refl _⟩
    case round =>
      obtain ⟨k, hk, rfl, hpre, nq, rfl⟩ := hrel
      have HP := Lib.hid hpre
      clear hpre
      by_cases hlt : k < xs.length
      · obtain ⟨b, off, rfl, h1⟩ := HC.out k hlt
        obtain ⟨b2, off2, rfl, h2⟩ := HC2.out k (by rw [← HL.out]; exact hlt)
        go_wp2
        go_quiet (fail)
        go_wp2
        · go_ret
          rename_i hne
          exact ⟨by rw [decide_eq_false]; rfl; intro e; rw [e] at hne; simp at hne, by first | exact ⟨_, rfl⟩ | exact ⟨_, World.drewN_drewN _ _ _⟩⟩
        · rename_i he
          have HE := Lib.hid he
          clear he
          go_roundw
          case rel => exact ⟨k + 1, by omega, by go_num, fun j hj => by rcases Nat.lt_succ_iff_lt_or_eq.1 hj with h | h; exact HP.out j h; rw [h]; simpa using HE.out, by first | exact ⟨_, rfl⟩ | exact ⟨_, World.drewN_drewN _ _ _⟩⟩
          case measure => simp [intOf]; omega
      · obtain rfl : k = xs.length := by omega
        have HE : Hid (xs = ys) := Lib.hid (ext_nth HL.out HP.out)
        go_wp2
        go_ret
        exact ⟨by rw [decide_eq_true HE.out]; rfl, _, rfl⟩
  · go_enter Try.func45, Try.ntmps45
    have hb : (((xs.length : Nat) : Int) != ((ys.length : Nat) : Int)) = true := by simp [bne_iff_ne]; omega
    have hne : xs ≠ ys := fun e => hlen (congrArg List.length e)
    have HE := Lib.hid (decide_eq_false hne)
    clear hlen hne
    go_wp2
    go_ret
    exact ⟨by rw [HE.out]; rfl, Same.refl _⟩
/-- all blocks but this one lie as they lay -/
structure KeepC (c : Nat) (w w' : World) : Prop where
  size : w.heap.size ≤ w'.heap.size
  block : ∀ k, k < w.heap.size → k ≠ c → w'.heap[k]? = w.heap[k]?
  rest : w'.os = w.os ∧ w'.tape = w.tape ∧ w'.output = w.output
theorem KeepC.below {c B : Nat} {w w' : World} (h : KeepC c w w') (hB : B ≤ c) (hz : B ≤ w.heap.size) : Below B w w' := ⟨h.rest.1, h.rest.2.1, h.rest.2.2, h.size, fun k hk => h.block k (by omega) (by omega)⟩
/-- the picks that are left, in their box -/
def PickAt (w0 : World) (c : Nat) (W : World) (pk : List Int) : Prop :=
  ∃ o cap, Box W c 35 #[.slice o pk.length cap] ∧ Rd w0 .i64 (.slice o pk.length cap) pk ∧ pk.length ≤ cap ∧ cap ≤ 9223372036854775807
theorem PickAt.next {w0 W W' : World} {c : Nat} {pk : List Int} (h : PickAt w0 c W pk) (hb : Below W.heap.size W W') : PickAt w0 c W' pk := by
  obtain ⟨o, cap, h1, h2⟩ := h
  exact ⟨o, cap, h1.next hb, h2⟩
theorem rd_tail {w : World} {K : IntKind} {o : Option Addr} {cap : Nat} {x : Int} {r : List Int} (h : Rd w K (.slice o (r.length + 1) cap) (x :: r)) (hc : r.length + 1 ≤ cap) :
    Rd w K (.slice (if cap = 1 then o else o.map (fun a => a.add 1)) r.length (cap - 1)) r := by
  obtain ⟨o', cap', he, hcell⟩ := h
  simp at he
  obtain ⟨rfl, rfl⟩ := he
  refine ⟨_, _, rfl, fun j hj => ?_⟩
  obtain ⟨b, off, rfl, hv⟩ := hcell (j + 1) (by simp; omega)
  have hne : ¬ cap = 1 := by omega
  rw [if_neg hne]
  refine ⟨b, off + 1, by simp [Addr.add_lit], ?_⟩
  rw [show off + 1 + j = off + (j + 1) by omega, hv]
  rfl
set_option maxRecDepth 100000 in
set_option maxHeartbeats 1000000 in
theorem next_any {w0 W : World} {c : Nat} {pk : List Int} (h : PickAt w0 c W pk) (hb : Below w0.heap.size w0 W) (hc : w0.heap.size ≤ c) :
    Calls Try.prog 43 #[.pointer (some ⟨c, 0, none⟩)] W fun e w' => e = .returned (.int .i64 (pk.headD 0)) ∧ PickAt w0 c w' pk.tail ∧ KeepC c W w' := by
  obtain ⟨o, cap, h1, h2, h3, h4⟩ := h
  have HP := Lib.hid (show PickAt w0 c W pk from ⟨o, cap, h1, h2, h3, h4⟩)
  have c0 := h1.cell 0 rfl
  cases pk with
  | nil =>
    clear h1 h2 h3 h4
    go_enter Try.func43, Try.ntmps43
    go_wp2_with fail
    go_ret
    exact ⟨rfl, HP.out, ⟨Nat.le_refl _, fun _ _ _ => rfl, rfl, rfl, rfl⟩⟩
  | cons x r =>
    obtain ⟨b, off, rfl, hx⟩ := h2.cell 0 (by simp)
    have hx' := (hb.cell (p := ⟨b, off + 0, none⟩) (cell_lt hx)).trans hx
    rw [show nth (x :: r) 0 = x from rfl, Nat.add_zero] at hx'
    have HB := Lib.hid h1
    have HR := Lib.hid (show Rd w0 .i64 (.slice (if cap = 1 then some ⟨b, off, none⟩ else some ⟨b, off + 1, none⟩) r.length (cap - 1)) r from by have := rd_tail h2 h3; simpa only [Option.map_some, Addr.add_lit] using this)
    have f0 := h1.free 0
    simp only [List.length_cons] at c0 h3
    have hne : ¬ cap = 1 ∨ cap = 1 := by omega
    clear h1 h2 hx HP
    have hbne : (⟨c, 0, none⟩ : Addr) ≠ ⟨b, off, none⟩ := fun e => by
      cases e
      have c1 : W.cell? ⟨c, 0, none⟩ = some (.slice (some ⟨c, 0, none⟩) (r.length + 1) cap) := c0
      rw [c1] at hx'
      cases hx'
    go_enter Try.func43, Try.ntmps43
    go_wp2_with fail
    go_region
    generalize hu : Value.slice (if cap = 1 then some (Addr.mk b off none) else some (Addr.mk b (off + 1) none)) r.length (cap - 1) = u
    have HU := Lib.hid hu
    clear hu
    go_wp2_with fail
    go_ret
    have hu := HU.out
    subst hu
    exact ⟨rfl, ⟨_, _, (HB.out.set 0 _).same ⟨1, rfl⟩, HR.out, by simp; omega, by omega⟩, ⟨by simp [World.setCell, World.drew], fun k _ hk => Below.heap_setCell W ⟨c, 0, none⟩ _ k hk, rfl, rfl, rfl⟩⟩
end Go.Proofs.Ytejmbhckfdfoeaa
