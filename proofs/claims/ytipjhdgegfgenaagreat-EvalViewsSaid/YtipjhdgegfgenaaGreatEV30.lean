/-
  A CONVOLUTION's numbers: ratchetref11.all, May, Places, Spatial.
-/
import Derived.Test.YtipjhdgegfgenaaGreatEV20
set_option linter.unusedVariables false
set_option linter.unusedSimpArgs false
namespace Go.Proofs.YtipjhdgegfgenaaGreat
open Go.RowKit Go.Shelf Go
def betw (lo hi x : Int) : Bool := decide (lo ≤ x) && decide (x ≤ hi)
theorem betw_iff {lo hi x : Int} : betw lo hi x = true ↔ lo ≤ x ∧ x ≤ hi := by simp [betw]
theorem betw_no {lo hi x : Int} : betw lo hi x = false ↔ x < lo ∨ (¬ x < lo ∧ hi < x) := by
  rw [← Bool.not_eq_true, betw_iff]; omega
set_option maxHeartbeats 2000000 in
theorem all11_any (v : Value) (xs : List Int) (lo hi : Int) (w : World) (hr : Rd w .i64 v xs) (hl : xs.length ≤ 140737488351232) :
    Calls Tryz.prog 44 #[v, .int .i64 lo, .int .i64 hi] w fun e w' => e = .returned (.bool (xs.all (betw lo hi))) ∧ Same w w' := by
  obtain ⟨o, cap, rfl, hc⟩ := hr
  have HC := Lib.hid hc
  clear hc
  go_enter Tryz.func44, Tryz.ntmps44
  go_wp2
  go_loop [7] (fun i => ∃ k : Nat, k ≤ xs.length ∧ i = .int .i64 k ∧ Hid ((xs.take k).all (betw lo hi) = true)) (fun i => xs.length - (intOf i).toNat)
  case atStart => exact ⟨0, Nat.zero_le _, rfl, Lib.hid rfl⟩
  case round =>
    obtain ⟨k, hk, rfl, HA⟩ := hrel
    by_cases hlt : k < xs.length
    · obtain ⟨b, off, rfl, h1⟩ := HC.out k hlt
      cases hd : betw lo hi (nth xs k)
      · have HD := Lib.hid hd
        rcases betw_no.1 hd with h | ⟨h, h2⟩
        all_goals
          clear hd
          go_wp2
          go_ret
          exact ⟨ret_bool (by rw [all_false_of _ _ k hlt HD.out]), Same.refl _⟩
      · have HD := Lib.hid hd
        obtain ⟨hd1, hd2⟩ := betw_iff.1 hd
        clear hd
        go_wp2
        go_round
        case rel => exact ⟨k + 1, by omega, by go_num, Lib.hid (by rw [all_take_succ _ _ _ hlt, HA.out, HD.out]; rfl)⟩
        case measure => simp [intOf]; omega
    · obtain rfl : k = xs.length := by omega
      go_wp2
      go_ret
      exact ⟨ret_bool (by rw [← HA.out, List.take_length]), Same.refl _⟩
/-- a convolution's numbers, of a pool with a kernel -/
structure ConvD where
  ker : List Int
  str : List Int
  pad : List Int
  dil : List Int
def ConvD.Lim (c : ConvD) : Prop := c.ker.length ≤ 140737488351232 ∧ c.str.length ≤ 140737488351232 ∧ c.pad.length ≤ 140737488351232 ∧ c.dil.length ≤ 140737488351232
def convB (c : ConvD) (pool : Bool) : Bool := decide (1 ≤ c.str.length ∧ c.str.length ≤ 2 ∧ c.pad.length = c.str.length ∧ c.dil.length = c.str.length ∧ (if pool then c.ker.length = c.str.length else c.ker.length = 0)) && (c.str.all (betw 1 4096) && (c.dil.all (betw 1 4096) && (c.pad.all (betw 0 4096) && c.ker.all (betw 1 4096))))
structure ConvRd (w : World) (v1 v2 v3 v4 : Value) (c : ConvD) : Prop where
  ker : Rd w .i64 v1 c.ker
  str : Rd w .i64 v2 c.str
  pad : Rd w .i64 v3 c.pad
  dil : Rd w .i64 v4 c.dil
theorem ConvRd.below {w w' : World} {v1 v2 v3 v4 : Value} {c : ConvD} {B : Nat} (h : ConvRd w v1 v2 v3 v4 c) (hb : Below B w w') (hs : w.heap.size ≤ B) : ConvRd w' v1 v2 v3 v4 c :=
  ⟨h.ker.below hb hs, h.str.below hb hs, h.pad.below hb hs, h.dil.below hb hs⟩
set_option maxHeartbeats 4000000 in
set_option maxRecDepth 100000 in
theorem may11_any (v1 v2 v3 v4 : Value) (c : ConvD) (pool : Bool) (w : World) (hr : ConvRd w v1 v2 v3 v4 c) (hl : c.Lim) :
    Calls Tryz.prog 25 #[.agg #[v1, v2, v3, v4], .bool pool] w fun e w' => e = .returned (.bool (convB c pool)) ∧ Below w.heap.size w w' := by
  obtain ⟨k1, k2, k3, k4⟩ := hl
  have g1 := fun lo hi (W : World) (hb : Below w.heap.size w W) => all11_any v1 c.ker lo hi W (hr.ker.below hb (Nat.le_refl _)) k1
  have g2 := fun lo hi (W : World) (hb : Below w.heap.size w W) => all11_any v2 c.str lo hi W (hr.str.below hb (Nat.le_refl _)) k2
  have g3 := fun lo hi (W : World) (hb : Below w.heap.size w W) => all11_any v3 c.pad lo hi W (hr.pad.below hb (Nat.le_refl _)) k3
  have g4 := fun lo hi (W : World) (hb : Below w.heap.size w W) => all11_any v4 c.dil lo hi W (hr.dil.below hb (Nat.le_refl _)) k4
  obtain ⟨o1, c1, rfl⟩ := rd_slice hr.ker
  obtain ⟨o2, c2, rfl⟩ := rd_slice hr.str
  obtain ⟨o3, c3, rfl⟩ := rd_slice hr.pad
  obtain ⟨o4, c4, rfl⟩ := rd_slice hr.dil
  clear hr k1 k2 k3 k4
  have HV := Lib.hid (show convB c pool = (decide (1 ≤ c.str.length ∧ c.str.length ≤ 2 ∧ c.pad.length = c.str.length ∧ c.dil.length = c.str.length ∧ (if pool then c.ker.length = c.str.length else c.ker.length = 0)) && (c.str.all (betw 1 4096) && (c.dil.all (betw 1 4096) && (c.pad.all (betw 0 4096) && c.ker.all (betw 1 4096))))) from rfl)
  obtain ⟨r, hr⟩ : ∃ r, r = convB c pool := ⟨_, rfl⟩
  obtain ⟨r1, hr1⟩ : ∃ r, r = c.ker.all (betw 1 4096) := ⟨_, rfl⟩
  obtain ⟨r2, hr2⟩ : ∃ r, r = c.str.all (betw 1 4096) := ⟨_, rfl⟩
  obtain ⟨r3, hr3⟩ : ∃ r, r = c.pad.all (betw 0 4096) := ⟨_, rfl⟩
  obtain ⟨r4, hr4⟩ : ∃ r, r = c.dil.all (betw 1 4096) := ⟨_, rfl⟩
  have G1 := Lib.hid (show ∀ (W : World), Below w.heap.size w W → Calls Tryz.prog 44 #[.slice o1 c.ker.length c1, .int .i64 1, .int .i64 4096] W fun e w' => e = .returned (.bool r1) ∧ Same W w' from fun W hb => by rw [hr1]; exact g1 1 4096 W hb)
  have G2 := Lib.hid (show ∀ (W : World), Below w.heap.size w W → Calls Tryz.prog 44 #[.slice o2 c.str.length c2, .int .i64 1, .int .i64 4096] W fun e w' => e = .returned (.bool r2) ∧ Same W w' from fun W hb => by rw [hr2]; exact g2 1 4096 W hb)
  have G3 := Lib.hid (show ∀ (W : World), Below w.heap.size w W → Calls Tryz.prog 44 #[.slice o3 c.pad.length c3, .int .i64 0, .int .i64 4096] W fun e w' => e = .returned (.bool r3) ∧ Same W w' from fun W hb => by rw [hr3]; exact g3 0 4096 W hb)
  have G4 := Lib.hid (show ∀ (W : World), Below w.heap.size w W → Calls Tryz.prog 44 #[.slice o4 c.dil.length c4, .int .i64 1, .int .i64 4096] W fun e w' => e = .returned (.bool r4) ∧ Same W w' from fun W hb => by rw [hr4]; exact g4 1 4096 W hb)
  rw [← hr, ← hr1, ← hr2, ← hr3, ← hr4] at HV
  rw [← hr]
  clear g1 g2 g3 g4 hr hr1 hr2 hr3 hr4
  generalize c.ker.length = m1 at G1 HV ⊢
  generalize c.str.length = m2 at G2 HV ⊢
  generalize c.pad.length = m3 at G3 HV ⊢
  generalize c.dil.length = m4 at G4 HV ⊢
  by_cases h0 : 1 ≤ m2 ∧ m2 ≤ 2 ∧ m3 = m2 ∧ m4 = m2 ∧ (if pool then m1 = m2 else m1 = 0)
  case neg =>
    have HF := Lib.hid (show r = false by rw [HV.out, decide_eq_false h0]; rfl)
    clear HV G1 G2 G3 G4
    go_enter Tryz.func25, Tryz.ntmps25
    have H0 := Lib.hid h0
    clear h0
    by_cases a1 : m2 < 1
    · go_wp2
      go_ret
      exact ⟨ret_bool HF.out.symm, (Below.refl _ _).alloc (Nat.le_refl _) _⟩
    by_cases a2 : 2 < m2
    · go_wp2
      go_ret
      exact ⟨ret_bool HF.out.symm, (Below.refl _ _).alloc (Nat.le_refl _) _⟩
    by_cases a3 : m3 = m2
    case neg =>
      have a3i : ¬ (m3 : Int) = m2 := by omega
      clear a3
      go_wp2
      go_ret
      exact ⟨ret_bool HF.out.symm, (Below.refl _ _).alloc (Nat.le_refl _) _⟩
    subst a3
    by_cases a4 : m4 = m3
    case neg =>
      have a4i : ¬ (m4 : Int) = m3 := by omega
      clear a4
      go_wp2
      go_ret
      exact ⟨ret_bool HF.out.symm, (Below.refl _ _).alloc (Nat.le_refl _) _⟩
    subst a4
    cases pool with
    | true =>
      have a5 : ¬ (m1 : Int) = m4 := by have := H0.out; simp at this; omega
      go_wp2
      go_ret
      exact ⟨ret_bool HF.out.symm, (Below.refl _ _).alloc (Nat.le_refl _) _⟩
    | false =>
      have a5 : ((m1 : Int) != 0) = true := by have := H0.out; simp at this; simp; omega
      go_wp2
      go_ret
      exact ⟨ret_bool HF.out.symm, (Below.refl _ _).alloc (Nat.le_refl _) _⟩
  case pos =>
    have HV2 := Lib.hid (show r = (r2 && (r4 && (r3 && r1))) by rw [HV.out, decide_eq_true h0]; rfl)
    obtain ⟨b1, b2, rfl, rfl, b5⟩ := h0
    clear HV
    go_enter Tryz.func25, Tryz.ntmps25
    cases pool with
    | true =>
      obtain rfl : m1 = _ := by simpa using b5
      clear b5
      cases r2 with
      | false =>
        go_wp2_with (first | (go_at_call_of 44 o2; refine (G2.out _ (by first | exact (Below.refl _ _).alloc (Nat.le_refl _) _ | exact below_drewN ((Below.refl _ _).alloc (Nat.le_refl _) _) _ | exact below_drewN (below_drewN ((Below.refl _ _).alloc (Nat.le_refl _) _) _) _ | exact below_drewN (below_drewN (below_drewN ((Below.refl _ _).alloc (Nat.le_refl _) _) _) _) _ | exact below_drewN (below_drewN (below_drewN (below_drewN ((Below.refl _ _).alloc (Nat.le_refl _) _) _) _) _) _)).mono ?_; rintro e w' ⟨rfl, nq, rfl⟩) | (go_at_call_of 44 o4; refine (G4.out _ (by first | exact (Below.refl _ _).alloc (Nat.le_refl _) _ | exact below_drewN ((Below.refl _ _).alloc (Nat.le_refl _) _) _ | exact below_drewN (below_drewN ((Below.refl _ _).alloc (Nat.le_refl _) _) _) _ | exact below_drewN (below_drewN (below_drewN ((Below.refl _ _).alloc (Nat.le_refl _) _) _) _) _ | exact below_drewN (below_drewN (below_drewN (below_drewN ((Below.refl _ _).alloc (Nat.le_refl _) _) _) _) _) _)).mono ?_; rintro e w' ⟨rfl, nq, rfl⟩) | (go_at_call_of 44 o3; refine (G3.out _ (by first | exact (Below.refl _ _).alloc (Nat.le_refl _) _ | exact below_drewN ((Below.refl _ _).alloc (Nat.le_refl _) _) _ | exact below_drewN (below_drewN ((Below.refl _ _).alloc (Nat.le_refl _) _) _) _ | exact below_drewN (below_drewN (below_drewN ((Below.refl _ _).alloc (Nat.le_refl _) _) _) _) _ | exact below_drewN (below_drewN (below_drewN (below_drewN ((Below.refl _ _).alloc (Nat.le_refl _) _) _) _) _) _)).mono ?_; rintro e w' ⟨rfl, nq, rfl⟩) | (go_at_call_of 44 o1; refine (G1.out _ (by first | exact (Below.refl _ _).alloc (Nat.le_refl _) _ | exact below_drewN ((Below.refl _ _).alloc (Nat.le_refl _) _) _ | exact below_drewN (below_drewN ((Below.refl _ _).alloc (Nat.le_refl _) _) _) _ | exact below_drewN (below_drewN (below_drewN ((Below.refl _ _).alloc (Nat.le_refl _) _) _) _) _ | exact below_drewN (below_drewN (below_drewN (below_drewN ((Below.refl _ _).alloc (Nat.le_refl _) _) _) _) _) _)).mono ?_; rintro e w' ⟨rfl, nq, rfl⟩))
        go_ret
        exact ⟨ret_bool (by rw [HV2.out]; rfl), (by first | exact (Below.refl _ _).alloc (Nat.le_refl _) _ | exact below_drewN ((Below.refl _ _).alloc (Nat.le_refl _) _) _ | exact below_drewN (below_drewN ((Below.refl _ _).alloc (Nat.le_refl _) _) _) _ | exact below_drewN (below_drewN (below_drewN ((Below.refl _ _).alloc (Nat.le_refl _) _) _) _) _ | exact below_drewN (below_drewN (below_drewN (below_drewN ((Below.refl _ _).alloc (Nat.le_refl _) _) _) _) _) _)⟩
      | true =>
        cases r4 with
        | false =>
          go_wp2_with (first | (go_at_call_of 44 o2; refine (G2.out _ (by first | exact (Below.refl _ _).alloc (Nat.le_refl _) _ | exact below_drewN ((Below.refl _ _).alloc (Nat.le_refl _) _) _ | exact below_drewN (below_drewN ((Below.refl _ _).alloc (Nat.le_refl _) _) _) _ | exact below_drewN (below_drewN (below_drewN ((Below.refl _ _).alloc (Nat.le_refl _) _) _) _) _ | exact below_drewN (below_drewN (below_drewN (below_drewN ((Below.refl _ _).alloc (Nat.le_refl _) _) _) _) _) _)).mono ?_; rintro e w' ⟨rfl, nq, rfl⟩) | (go_at_call_of 44 o4; refine (G4.out _ (by first | exact (Below.refl _ _).alloc (Nat.le_refl _) _ | exact below_drewN ((Below.refl _ _).alloc (Nat.le_refl _) _) _ | exact below_drewN (below_drewN ((Below.refl _ _).alloc (Nat.le_refl _) _) _) _ | exact below_drewN (below_drewN (below_drewN ((Below.refl _ _).alloc (Nat.le_refl _) _) _) _) _ | exact below_drewN (below_drewN (below_drewN (below_drewN ((Below.refl _ _).alloc (Nat.le_refl _) _) _) _) _) _)).mono ?_; rintro e w' ⟨rfl, nq, rfl⟩) | (go_at_call_of 44 o3; refine (G3.out _ (by first | exact (Below.refl _ _).alloc (Nat.le_refl _) _ | exact below_drewN ((Below.refl _ _).alloc (Nat.le_refl _) _) _ | exact below_drewN (below_drewN ((Below.refl _ _).alloc (Nat.le_refl _) _) _) _ | exact below_drewN (below_drewN (below_drewN ((Below.refl _ _).alloc (Nat.le_refl _) _) _) _) _ | exact below_drewN (below_drewN (below_drewN (below_drewN ((Below.refl _ _).alloc (Nat.le_refl _) _) _) _) _) _)).mono ?_; rintro e w' ⟨rfl, nq, rfl⟩) | (go_at_call_of 44 o1; refine (G1.out _ (by first | exact (Below.refl _ _).alloc (Nat.le_refl _) _ | exact below_drewN ((Below.refl _ _).alloc (Nat.le_refl _) _) _ | exact below_drewN (below_drewN ((Below.refl _ _).alloc (Nat.le_refl _) _) _) _ | exact below_drewN (below_drewN (below_drewN ((Below.refl _ _).alloc (Nat.le_refl _) _) _) _) _ | exact below_drewN (below_drewN (below_drewN (below_drewN ((Below.refl _ _).alloc (Nat.le_refl _) _) _) _) _) _)).mono ?_; rintro e w' ⟨rfl, nq, rfl⟩))
          go_ret
          exact ⟨ret_bool (by rw [HV2.out]; rfl), (by first | exact (Below.refl _ _).alloc (Nat.le_refl _) _ | exact below_drewN ((Below.refl _ _).alloc (Nat.le_refl _) _) _ | exact below_drewN (below_drewN ((Below.refl _ _).alloc (Nat.le_refl _) _) _) _ | exact below_drewN (below_drewN (below_drewN ((Below.refl _ _).alloc (Nat.le_refl _) _) _) _) _ | exact below_drewN (below_drewN (below_drewN (below_drewN ((Below.refl _ _).alloc (Nat.le_refl _) _) _) _) _) _)⟩
        | true =>
          cases r3 with
          | false =>
            go_wp2_with (first | (go_at_call_of 44 o2; refine (G2.out _ (by first | exact (Below.refl _ _).alloc (Nat.le_refl _) _ | exact below_drewN ((Below.refl _ _).alloc (Nat.le_refl _) _) _ | exact below_drewN (below_drewN ((Below.refl _ _).alloc (Nat.le_refl _) _) _) _ | exact below_drewN (below_drewN (below_drewN ((Below.refl _ _).alloc (Nat.le_refl _) _) _) _) _ | exact below_drewN (below_drewN (below_drewN (below_drewN ((Below.refl _ _).alloc (Nat.le_refl _) _) _) _) _) _)).mono ?_; rintro e w' ⟨rfl, nq, rfl⟩) | (go_at_call_of 44 o4; refine (G4.out _ (by first | exact (Below.refl _ _).alloc (Nat.le_refl _) _ | exact below_drewN ((Below.refl _ _).alloc (Nat.le_refl _) _) _ | exact below_drewN (below_drewN ((Below.refl _ _).alloc (Nat.le_refl _) _) _) _ | exact below_drewN (below_drewN (below_drewN ((Below.refl _ _).alloc (Nat.le_refl _) _) _) _) _ | exact below_drewN (below_drewN (below_drewN (below_drewN ((Below.refl _ _).alloc (Nat.le_refl _) _) _) _) _) _)).mono ?_; rintro e w' ⟨rfl, nq, rfl⟩) | (go_at_call_of 44 o3; refine (G3.out _ (by first | exact (Below.refl _ _).alloc (Nat.le_refl _) _ | exact below_drewN ((Below.refl _ _).alloc (Nat.le_refl _) _) _ | exact below_drewN (below_drewN ((Below.refl _ _).alloc (Nat.le_refl _) _) _) _ | exact below_drewN (below_drewN (below_drewN ((Below.refl _ _).alloc (Nat.le_refl _) _) _) _) _ | exact below_drewN (below_drewN (below_drewN (below_drewN ((Below.refl _ _).alloc (Nat.le_refl _) _) _) _) _) _)).mono ?_; rintro e w' ⟨rfl, nq, rfl⟩) | (go_at_call_of 44 o1; refine (G1.out _ (by first | exact (Below.refl _ _).alloc (Nat.le_refl _) _ | exact below_drewN ((Below.refl _ _).alloc (Nat.le_refl _) _) _ | exact below_drewN (below_drewN ((Below.refl _ _).alloc (Nat.le_refl _) _) _) _ | exact below_drewN (below_drewN (below_drewN ((Below.refl _ _).alloc (Nat.le_refl _) _) _) _) _ | exact below_drewN (below_drewN (below_drewN (below_drewN ((Below.refl _ _).alloc (Nat.le_refl _) _) _) _) _) _)).mono ?_; rintro e w' ⟨rfl, nq, rfl⟩))
            go_ret
            exact ⟨ret_bool (by rw [HV2.out]; rfl), (by first | exact (Below.refl _ _).alloc (Nat.le_refl _) _ | exact below_drewN ((Below.refl _ _).alloc (Nat.le_refl _) _) _ | exact below_drewN (below_drewN ((Below.refl _ _).alloc (Nat.le_refl _) _) _) _ | exact below_drewN (below_drewN (below_drewN ((Below.refl _ _).alloc (Nat.le_refl _) _) _) _) _ | exact below_drewN (below_drewN (below_drewN (below_drewN ((Below.refl _ _).alloc (Nat.le_refl _) _) _) _) _) _)⟩
          | true =>
            cases r1 with
            | false =>
              go_wp2_with (first | (go_at_call_of 44 o2; refine (G2.out _ (by first | exact (Below.refl _ _).alloc (Nat.le_refl _) _ | exact below_drewN ((Below.refl _ _).alloc (Nat.le_refl _) _) _ | exact below_drewN (below_drewN ((Below.refl _ _).alloc (Nat.le_refl _) _) _) _ | exact below_drewN (below_drewN (below_drewN ((Below.refl _ _).alloc (Nat.le_refl _) _) _) _) _ | exact below_drewN (below_drewN (below_drewN (below_drewN ((Below.refl _ _).alloc (Nat.le_refl _) _) _) _) _) _)).mono ?_; rintro e w' ⟨rfl, nq, rfl⟩) | (go_at_call_of 44 o4; refine (G4.out _ (by first | exact (Below.refl _ _).alloc (Nat.le_refl _) _ | exact below_drewN ((Below.refl _ _).alloc (Nat.le_refl _) _) _ | exact below_drewN (below_drewN ((Below.refl _ _).alloc (Nat.le_refl _) _) _) _ | exact below_drewN (below_drewN (below_drewN ((Below.refl _ _).alloc (Nat.le_refl _) _) _) _) _ | exact below_drewN (below_drewN (below_drewN (below_drewN ((Below.refl _ _).alloc (Nat.le_refl _) _) _) _) _) _)).mono ?_; rintro e w' ⟨rfl, nq, rfl⟩) | (go_at_call_of 44 o3; refine (G3.out _ (by first | exact (Below.refl _ _).alloc (Nat.le_refl _) _ | exact below_drewN ((Below.refl _ _).alloc (Nat.le_refl _) _) _ | exact below_drewN (below_drewN ((Below.refl _ _).alloc (Nat.le_refl _) _) _) _ | exact below_drewN (below_drewN (below_drewN ((Below.refl _ _).alloc (Nat.le_refl _) _) _) _) _ | exact below_drewN (below_drewN (below_drewN (below_drewN ((Below.refl _ _).alloc (Nat.le_refl _) _) _) _) _) _)).mono ?_; rintro e w' ⟨rfl, nq, rfl⟩) | (go_at_call_of 44 o1; refine (G1.out _ (by first | exact (Below.refl _ _).alloc (Nat.le_refl _) _ | exact below_drewN ((Below.refl _ _).alloc (Nat.le_refl _) _) _ | exact below_drewN (below_drewN ((Below.refl _ _).alloc (Nat.le_refl _) _) _) _ | exact below_drewN (below_drewN (below_drewN ((Below.refl _ _).alloc (Nat.le_refl _) _) _) _) _ | exact below_drewN (below_drewN (below_drewN (below_drewN ((Below.refl _ _).alloc (Nat.le_refl _) _) _) _) _) _)).mono ?_; rintro e w' ⟨rfl, nq, rfl⟩))
              go_ret
              exact ⟨ret_bool (by rw [HV2.out]; rfl), (by first | exact (Below.refl _ _).alloc (Nat.le_refl _) _ | exact below_drewN ((Below.refl _ _).alloc (Nat.le_refl _) _) _ | exact below_drewN (below_drewN ((Below.refl _ _).alloc (Nat.le_refl _) _) _) _ | exact below_drewN (below_drewN (below_drewN ((Below.refl _ _).alloc (Nat.le_refl _) _) _) _) _ | exact below_drewN (below_drewN (below_drewN (below_drewN ((Below.refl _ _).alloc (Nat.le_refl _) _) _) _) _) _)⟩
            | true =>
              go_wp2_with (first | (go_at_call_of 44 o2; refine (G2.out _ (by first | exact (Below.refl _ _).alloc (Nat.le_refl _) _ | exact below_drewN ((Below.refl _ _).alloc (Nat.le_refl _) _) _ | exact below_drewN (below_drewN ((Below.refl _ _).alloc (Nat.le_refl _) _) _) _ | exact below_drewN (below_drewN (below_drewN ((Below.refl _ _).alloc (Nat.le_refl _) _) _) _) _ | exact below_drewN (below_drewN (below_drewN (below_drewN ((Below.refl _ _).alloc (Nat.le_refl _) _) _) _) _) _)).mono ?_; rintro e w' ⟨rfl, nq, rfl⟩) | (go_at_call_of 44 o4; refine (G4.out _ (by first | exact (Below.refl _ _).alloc (Nat.le_refl _) _ | exact below_drewN ((Below.refl _ _).alloc (Nat.le_refl _) _) _ | exact below_drewN (below_drewN ((Below.refl _ _).alloc (Nat.le_refl _) _) _) _ | exact below_drewN (below_drewN (below_drewN ((Below.refl _ _).alloc (Nat.le_refl _) _) _) _) _ | exact below_drewN (below_drewN (below_drewN (below_drewN ((Below.refl _ _).alloc (Nat.le_refl _) _) _) _) _) _)).mono ?_; rintro e w' ⟨rfl, nq, rfl⟩) | (go_at_call_of 44 o3; refine (G3.out _ (by first | exact (Below.refl _ _).alloc (Nat.le_refl _) _ | exact below_drewN ((Below.refl _ _).alloc (Nat.le_refl _) _) _ | exact below_drewN (below_drewN ((Below.refl _ _).alloc (Nat.le_refl _) _) _) _ | exact below_drewN (below_drewN (below_drewN ((Below.refl _ _).alloc (Nat.le_refl _) _) _) _) _ | exact below_drewN (below_drewN (below_drewN (below_drewN ((Below.refl _ _).alloc (Nat.le_refl _) _) _) _) _) _)).mono ?_; rintro e w' ⟨rfl, nq, rfl⟩) | (go_at_call_of 44 o1; refine (G1.out _ (by first | exact (Below.refl _ _).alloc (Nat.le_refl _) _ | exact below_drewN ((Below.refl _ _).alloc (Nat.le_refl _) _) _ | exact below_drewN (below_drewN ((Below.refl _ _).alloc (Nat.le_refl _) _) _) _ | exact below_drewN (below_drewN (below_drewN ((Below.refl _ _).alloc (Nat.le_refl _) _) _) _) _ | exact below_drewN (below_drewN (below_drewN (below_drewN ((Below.refl _ _).alloc (Nat.le_refl _) _) _) _) _) _)).mono ?_; rintro e w' ⟨rfl, nq, rfl⟩))
              go_ret
              exact ⟨ret_bool (by rw [HV2.out]; rfl), (by first | exact (Below.refl _ _).alloc (Nat.le_refl _) _ | exact below_drewN ((Below.refl _ _).alloc (Nat.le_refl _) _) _ | exact below_drewN (below_drewN ((Below.refl _ _).alloc (Nat.le_refl _) _) _) _ | exact below_drewN (below_drewN (below_drewN ((Below.refl _ _).alloc (Nat.le_refl _) _) _) _) _ | exact below_drewN (below_drewN (below_drewN (below_drewN ((Below.refl _ _).alloc (Nat.le_refl _) _) _) _) _) _)⟩
    | false =>
      obtain rfl : m1 = _ := by simpa using b5
      clear b5
      cases r2 with
      | false =>
        go_wp2_with (first | (go_at_call_of 44 o2; refine (G2.out _ (by first | exact (Below.refl _ _).alloc (Nat.le_refl _) _ | exact below_drewN ((Below.refl _ _).alloc (Nat.le_refl _) _) _ | exact below_drewN (below_drewN ((Below.refl _ _).alloc (Nat.le_refl _) _) _) _ | exact below_drewN (below_drewN (below_drewN ((Below.refl _ _).alloc (Nat.le_refl _) _) _) _) _ | exact below_drewN (below_drewN (below_drewN (below_drewN ((Below.refl _ _).alloc (Nat.le_refl _) _) _) _) _) _)).mono ?_; rintro e w' ⟨rfl, nq, rfl⟩) | (go_at_call_of 44 o4; refine (G4.out _ (by first | exact (Below.refl _ _).alloc (Nat.le_refl _) _ | exact below_drewN ((Below.refl _ _).alloc (Nat.le_refl _) _) _ | exact below_drewN (below_drewN ((Below.refl _ _).alloc (Nat.le_refl _) _) _) _ | exact below_drewN (below_drewN (below_drewN ((Below.refl _ _).alloc (Nat.le_refl _) _) _) _) _ | exact below_drewN (below_drewN (below_drewN (below_drewN ((Below.refl _ _).alloc (Nat.le_refl _) _) _) _) _) _)).mono ?_; rintro e w' ⟨rfl, nq, rfl⟩) | (go_at_call_of 44 o3; refine (G3.out _ (by first | exact (Below.refl _ _).alloc (Nat.le_refl _) _ | exact below_drewN ((Below.refl _ _).alloc (Nat.le_refl _) _) _ | exact below_drewN (below_drewN ((Below.refl _ _).alloc (Nat.le_refl _) _) _) _ | exact below_drewN (below_drewN (below_drewN ((Below.refl _ _).alloc (Nat.le_refl _) _) _) _) _ | exact below_drewN (below_drewN (below_drewN (below_drewN ((Below.refl _ _).alloc (Nat.le_refl _) _) _) _) _) _)).mono ?_; rintro e w' ⟨rfl, nq, rfl⟩) | (go_at_call_of 44 o1; refine (G1.out _ (by first | exact (Below.refl _ _).alloc (Nat.le_refl _) _ | exact below_drewN ((Below.refl _ _).alloc (Nat.le_refl _) _) _ | exact below_drewN (below_drewN ((Below.refl _ _).alloc (Nat.le_refl _) _) _) _ | exact below_drewN (below_drewN (below_drewN ((Below.refl _ _).alloc (Nat.le_refl _) _) _) _) _ | exact below_drewN (below_drewN (below_drewN (below_drewN ((Below.refl _ _).alloc (Nat.le_refl _) _) _) _) _) _)).mono ?_; rintro e w' ⟨rfl, nq, rfl⟩))
        go_ret
        exact ⟨ret_bool (by rw [HV2.out]; rfl), (by first | exact (Below.refl _ _).alloc (Nat.le_refl _) _ | exact below_drewN ((Below.refl _ _).alloc (Nat.le_refl _) _) _ | exact below_drewN (below_drewN ((Below.refl _ _).alloc (Nat.le_refl _) _) _) _ | exact below_drewN (below_drewN (below_drewN ((Below.refl _ _).alloc (Nat.le_refl _) _) _) _) _ | exact below_drewN (below_drewN (below_drewN (below_drewN ((Below.refl _ _).alloc (Nat.le_refl _) _) _) _) _) _)⟩
      | true =>
        cases r4 with
        | false =>
          go_wp2_with (first | (go_at_call_of 44 o2; refine (G2.out _ (by first | exact (Below.refl _ _).alloc (Nat.le_refl _) _ | exact below_drewN ((Below.refl _ _).alloc (Nat.le_refl _) _) _ | exact below_drewN (below_drewN ((Below.refl _ _).alloc (Nat.le_refl _) _) _) _ | exact below_drewN (below_drewN (below_drewN ((Below.refl _ _).alloc (Nat.le_refl _) _) _) _) _ | exact below_drewN (below_drewN (below_drewN (below_drewN ((Below.refl _ _).alloc (Nat.le_refl _) _) _) _) _) _)).mono ?_; rintro e w' ⟨rfl, nq, rfl⟩) | (go_at_call_of 44 o4; refine (G4.out _ (by first | exact (Below.refl _ _).alloc (Nat.le_refl _) _ | exact below_drewN ((Below.refl _ _).alloc (Nat.le_refl _) _) _ | exact below_drewN (below_drewN ((Below.refl _ _).alloc (Nat.le_refl _) _) _) _ | exact below_drewN (below_drewN (below_drewN ((Below.refl _ _).alloc (Nat.le_refl _) _) _) _) _ | exact below_drewN (below_drewN (below_drewN (below_drewN ((Below.refl _ _).alloc (Nat.le_refl _) _) _) _) _) _)).mono ?_; rintro e w' ⟨rfl, nq, rfl⟩) | (go_at_call_of 44 o3; refine (G3.out _ (by first | exact (Below.refl _ _).alloc (Nat.le_refl _) _ | exact below_drewN ((Below.refl _ _).alloc (Nat.le_refl _) _) _ | exact below_drewN (below_drewN ((Below.refl _ _).alloc (Nat.le_refl _) _) _) _ | exact below_drewN (below_drewN (below_drewN ((Below.refl _ _).alloc (Nat.le_refl _) _) _) _) _ | exact below_drewN (below_drewN (below_drewN (below_drewN ((Below.refl _ _).alloc (Nat.le_refl _) _) _) _) _) _)).mono ?_; rintro e w' ⟨rfl, nq, rfl⟩) | (go_at_call_of 44 o1; refine (G1.out _ (by first | exact (Below.refl _ _).alloc (Nat.le_refl _) _ | exact below_drewN ((Below.refl _ _).alloc (Nat.le_refl _) _) _ | exact below_drewN (below_drewN ((Below.refl _ _).alloc (Nat.le_refl _) _) _) _ | exact below_drewN (below_drewN (below_drewN ((Below.refl _ _).alloc (Nat.le_refl _) _) _) _) _ | exact below_drewN (below_drewN (below_drewN (below_drewN ((Below.refl _ _).alloc (Nat.le_refl _) _) _) _) _) _)).mono ?_; rintro e w' ⟨rfl, nq, rfl⟩))
          go_ret
          exact ⟨ret_bool (by rw [HV2.out]; rfl), (by first | exact (Below.refl _ _).alloc (Nat.le_refl _) _ | exact below_drewN ((Below.refl _ _).alloc (Nat.le_refl _) _) _ | exact below_drewN (below_drewN ((Below.refl _ _).alloc (Nat.le_refl _) _) _) _ | exact below_drewN (below_drewN (below_drewN ((Below.refl _ _).alloc (Nat.le_refl _) _) _) _) _ | exact below_drewN (below_drewN (below_drewN (below_drewN ((Below.refl _ _).alloc (Nat.le_refl _) _) _) _) _) _)⟩
        | true =>
          cases r3 with
          | false =>
            go_wp2_with (first | (go_at_call_of 44 o2; refine (G2.out _ (by first | exact (Below.refl _ _).alloc (Nat.le_refl _) _ | exact below_drewN ((Below.refl _ _).alloc (Nat.le_refl _) _) _ | exact below_drewN (below_drewN ((Below.refl _ _).alloc (Nat.le_refl _) _) _) _ | exact below_drewN (below_drewN (below_drewN ((Below.refl _ _).alloc (Nat.le_refl _) _) _) _) _ | exact below_drewN (below_drewN (below_drewN (below_drewN ((Below.refl _ _).alloc (Nat.le_refl _) _) _) _) _) _)).mono ?_; rintro e w' ⟨rfl, nq, rfl⟩) | (go_at_call_of 44 o4; refine (G4.out _ (by first | exact (Below.refl _ _).alloc (Nat.le_refl _) _ | exact below_drewN ((Below.refl _ _).alloc (Nat.le_refl _) _) _ | exact below_drewN (below_drewN ((Below.refl _ _).alloc (Nat.le_refl _) _) _) _ | exact below_drewN (below_drewN (below_drewN ((Below.refl _ _).alloc (Nat.le_refl _) _) _) _) _ | exact below_drewN (below_drewN (below_drewN (below_drewN ((Below.refl _ _).alloc (Nat.le_refl _) _) _) _) _) _)).mono ?_; rintro e w' ⟨rfl, nq, rfl⟩) | (go_at_call_of 44 o3; refine (G3.out _ (by first | exact (Below.refl _ _).alloc (Nat.le_refl _) _ | exact below_drewN ((Below.refl _ _).alloc (Nat.le_refl _) _) _ | exact below_drewN (below_drewN ((Below.refl _ _).alloc (Nat.le_refl _) _) _) _ | exact below_drewN (below_drewN (below_drewN ((Below.refl _ _).alloc (Nat.le_refl _) _) _) _) _ | exact below_drewN (below_drewN (below_drewN (below_drewN ((Below.refl _ _).alloc (Nat.le_refl _) _) _) _) _) _)).mono ?_; rintro e w' ⟨rfl, nq, rfl⟩) | (go_at_call_of 44 o1; refine (G1.out _ (by first | exact (Below.refl _ _).alloc (Nat.le_refl _) _ | exact below_drewN ((Below.refl _ _).alloc (Nat.le_refl _) _) _ | exact below_drewN (below_drewN ((Below.refl _ _).alloc (Nat.le_refl _) _) _) _ | exact below_drewN (below_drewN (below_drewN ((Below.refl _ _).alloc (Nat.le_refl _) _) _) _) _ | exact below_drewN (below_drewN (below_drewN (below_drewN ((Below.refl _ _).alloc (Nat.le_refl _) _) _) _) _) _)).mono ?_; rintro e w' ⟨rfl, nq, rfl⟩))
            go_ret
            exact ⟨ret_bool (by rw [HV2.out]; rfl), (by first | exact (Below.refl _ _).alloc (Nat.le_refl _) _ | exact below_drewN ((Below.refl _ _).alloc (Nat.le_refl _) _) _ | exact below_drewN (below_drewN ((Below.refl _ _).alloc (Nat.le_refl _) _) _) _ | exact below_drewN (below_drewN (below_drewN ((Below.refl _ _).alloc (Nat.le_refl _) _) _) _) _ | exact below_drewN (below_drewN (below_drewN (below_drewN ((Below.refl _ _).alloc (Nat.le_refl _) _) _) _) _) _)⟩
          | true =>
            cases r1 with
            | false =>
              go_wp2_with (first | (go_at_call_of 44 o2; refine (G2.out _ (by first | exact (Below.refl _ _).alloc (Nat.le_refl _) _ | exact below_drewN ((Below.refl _ _).alloc (Nat.le_refl _) _) _ | exact below_drewN (below_drewN ((Below.refl _ _).alloc (Nat.le_refl _) _) _) _ | exact below_drewN (below_drewN (below_drewN ((Below.refl _ _).alloc (Nat.le_refl _) _) _) _) _ | exact below_drewN (below_drewN (below_drewN (below_drewN ((Below.refl _ _).alloc (Nat.le_refl _) _) _) _) _) _)).mono ?_; rintro e w' ⟨rfl, nq, rfl⟩) | (go_at_call_of 44 o4; refine (G4.out _ (by first | exact (Below.refl _ _).alloc (Nat.le_refl _) _ | exact below_drewN ((Below.refl _ _).alloc (Nat.le_refl _) _) _ | exact below_drewN (below_drewN ((Below.refl _ _).alloc (Nat.le_refl _) _) _) _ | exact below_drewN (below_drewN (below_drewN ((Below.refl _ _).alloc (Nat.le_refl _) _) _) _) _ | exact below_drewN (below_drewN (below_drewN (below_drewN ((Below.refl _ _).alloc (Nat.le_refl _) _) _) _) _) _)).mono ?_; rintro e w' ⟨rfl, nq, rfl⟩) | (go_at_call_of 44 o3; refine (G3.out _ (by first | exact (Below.refl _ _).alloc (Nat.le_refl _) _ | exact below_drewN ((Below.refl _ _).alloc (Nat.le_refl _) _) _ | exact below_drewN (below_drewN ((Below.refl _ _).alloc (Nat.le_refl _) _) _) _ | exact below_drewN (below_drewN (below_drewN ((Below.refl _ _).alloc (Nat.le_refl _) _) _) _) _ | exact below_drewN (below_drewN (below_drewN (below_drewN ((Below.refl _ _).alloc (Nat.le_refl _) _) _) _) _) _)).mono ?_; rintro e w' ⟨rfl, nq, rfl⟩) | (go_at_call_of 44 o1; refine (G1.out _ (by first | exact (Below.refl _ _).alloc (Nat.le_refl _) _ | exact below_drewN ((Below.refl _ _).alloc (Nat.le_refl _) _) _ | exact below_drewN (below_drewN ((Below.refl _ _).alloc (Nat.le_refl _) _) _) _ | exact below_drewN (below_drewN (below_drewN ((Below.refl _ _).alloc (Nat.le_refl _) _) _) _) _ | exact below_drewN (below_drewN (below_drewN (below_drewN ((Below.refl _ _).alloc (Nat.le_refl _) _) _) _) _) _)).mono ?_; rintro e w' ⟨rfl, nq, rfl⟩))
              go_ret
              exact ⟨ret_bool (by rw [HV2.out]; rfl), (by first | exact (Below.refl _ _).alloc (Nat.le_refl _) _ | exact below_drewN ((Below.refl _ _).alloc (Nat.le_refl _) _) _ | exact below_drewN (below_drewN ((Below.refl _ _).alloc (Nat.le_refl _) _) _) _ | exact below_drewN (below_drewN (below_drewN ((Below.refl _ _).alloc (Nat.le_refl _) _) _) _) _ | exact below_drewN (below_drewN (below_drewN (below_drewN ((Below.refl _ _).alloc (Nat.le_refl _) _) _) _) _) _)⟩
            | true =>
              go_wp2_with (first | (go_at_call_of 44 o2; refine (G2.out _ (by first | exact (Below.refl _ _).alloc (Nat.le_refl _) _ | exact below_drewN ((Below.refl _ _).alloc (Nat.le_refl _) _) _ | exact below_drewN (below_drewN ((Below.refl _ _).alloc (Nat.le_refl _) _) _) _ | exact below_drewN (below_drewN (below_drewN ((Below.refl _ _).alloc (Nat.le_refl _) _) _) _) _ | exact below_drewN (below_drewN (below_drewN (below_drewN ((Below.refl _ _).alloc (Nat.le_refl _) _) _) _) _) _)).mono ?_; rintro e w' ⟨rfl, nq, rfl⟩) | (go_at_call_of 44 o4; refine (G4.out _ (by first | exact (Below.refl _ _).alloc (Nat.le_refl _) _ | exact below_drewN ((Below.refl _ _).alloc (Nat.le_refl _) _) _ | exact below_drewN (below_drewN ((Below.refl _ _).alloc (Nat.le_refl _) _) _) _ | exact below_drewN (below_drewN (below_drewN ((Below.refl _ _).alloc (Nat.le_refl _) _) _) _) _ | exact below_drewN (below_drewN (below_drewN (below_drewN ((Below.refl _ _).alloc (Nat.le_refl _) _) _) _) _) _)).mono ?_; rintro e w' ⟨rfl, nq, rfl⟩) | (go_at_call_of 44 o3; refine (G3.out _ (by first | exact (Below.refl _ _).alloc (Nat.le_refl _) _ | exact below_drewN ((Below.refl _ _).alloc (Nat.le_refl _) _) _ | exact below_drewN (below_drewN ((Below.refl _ _).alloc (Nat.le_refl _) _) _) _ | exact below_drewN (below_drewN (below_drewN ((Below.refl _ _).alloc (Nat.le_refl _) _) _) _) _ | exact below_drewN (below_drewN (below_drewN (below_drewN ((Below.refl _ _).alloc (Nat.le_refl _) _) _) _) _) _)).mono ?_; rintro e w' ⟨rfl, nq, rfl⟩) | (go_at_call_of 44 o1; refine (G1.out _ (by first | exact (Below.refl _ _).alloc (Nat.le_refl _) _ | exact below_drewN ((Below.refl _ _).alloc (Nat.le_refl _) _) _ | exact below_drewN (below_drewN ((Below.refl _ _).alloc (Nat.le_refl _) _) _) _ | exact below_drewN (below_drewN (below_drewN ((Below.refl _ _).alloc (Nat.le_refl _) _) _) _) _ | exact below_drewN (below_drewN (below_drewN (below_drewN ((Below.refl _ _).alloc (Nat.le_refl _) _) _) _) _) _)).mono ?_; rintro e w' ⟨rfl, nq, rfl⟩))
              go_ret
              exact ⟨ret_bool (by rw [HV2.out]; rfl), (by first | exact (Below.refl _ _).alloc (Nat.le_refl _) _ | exact below_drewN ((Below.refl _ _).alloc (Nat.le_refl _) _) _ | exact below_drewN (below_drewN ((Below.refl _ _).alloc (Nat.le_refl _) _) _) _ | exact below_drewN (below_drewN (below_drewN ((Below.refl _ _).alloc (Nat.le_refl _) _) _) _) _ | exact below_drewN (below_drewN (below_drewN (below_drewN ((Below.refl _ _).alloc (Nat.le_refl _) _) _) _) _) _)⟩
end Go.Proofs.YtipjhdgegfgenaaGreat
