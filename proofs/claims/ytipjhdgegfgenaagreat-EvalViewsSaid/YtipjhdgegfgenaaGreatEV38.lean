/-
  PLACES along dimensions: ratchetref11.Places, Spatial, of any numbers that may be.
-/
import Derived.Test.YtipjhdgegfgenaaGreatEV30
import Derived.Test.YtipjhdgegfgenaaGreatEV05
import Derived.Test.YtipjhdgegfgenaaGreatEV33
set_option linter.unusedVariables false
set_option linter.unusedSimpArgs false
namespace Go.Proofs.YtipjhdgegfgenaaGreat
open Go.RowKit Go.Shelf Go
def placeG (x size stride pad dil : Int) : Int := if x + 2 * pad - dil * (size - 1) - 1 < 0 then 0 else (x + 2 * pad - dil * (size - 1) - 1) / stride + 1
theorem taps_bd {dil size : Int} (hd : 1 ≤ dil ∧ dil ≤ 4096) (hs : 1 ≤ size ∧ size ≤ 4096) : 0 ≤ dil * (size - 1) ∧ dil * (size - 1) ≤ 16777216 := by
  refine ⟨Int.mul_nonneg (by omega) (by omega), ?_⟩
  have h1 : dil * (size - 1) ≤ 4096 * (size - 1) := Int.mul_le_mul_of_nonneg_right hd.2 (by omega)
  omega
set_option maxRecDepth 100000 in
set_option maxHeartbeats 1000000 in
theorem placesG_any (x size stride pad dil : Int) (w : World) (hs : 1 ≤ size ∧ size ≤ 4096) (ht : 1 ≤ stride ∧ stride ≤ 4096) (hp : 0 ≤ pad ∧ pad ≤ 4096) (hd : 1 ≤ dil ∧ dil ≤ 4096) (hx : 0 ≤ x ∧ x ≤ 4096) :
    Calls Tryz.prog 45 #[.int .i64 x, .int .i64 size, .int .i64 stride, .int .i64 pad, .int .i64 dil] w fun e w' => e = .returned (.int .i64 (placeG x size stride pad dil)) ∧ Same w w' := by
  have htb := taps_bd hd hs
  obtain ⟨room, hroom⟩ : ∃ room, room = x + 2 * pad - dil * (size - 1) - 1 := ⟨_, rfl⟩
  have HP := Lib.hid (show placeG x size stride pad dil = if room < 0 then 0 else room / stride + 1 by rw [placeG, ← hroom])
  obtain ⟨q, hq⟩ : ∃ q, q = dil * (size - 1) := ⟨_, rfl⟩
  rw [← hq] at htb hroom
  have m1 : IntKind.i64.wrap (2 * pad) = 2 * pad := by rw [IntWalk.i64_in _ (by omega)]
  have m2 : IntKind.i64.wrap (x + 2 * pad) = x + 2 * pad := by rw [IntWalk.i64_in _ (by omega)]
  have m3 : IntKind.i64.wrap (size - 1) = size - 1 := by rw [IntWalk.i64_in _ (by omega)]
  have m4 : IntKind.i64.wrap (dil * (size - 1)) = q := by rw [← hq]; exact IntWalk.i64_in _ (by omega)
  have m5 : IntKind.i64.wrap (x + 2 * pad - q) = x + 2 * pad - q := by rw [IntWalk.i64_in _ (by omega)]
  have m6 : IntKind.i64.wrap (x + 2 * pad - q - 1) = room := by rw [hroom]; exact IntWalk.i64_in _ (by omega)
  have hr1 : -17000000 ≤ room ∧ room ≤ 20000 := by omega
  clear hroom hq htb
  by_cases hneg : room < 0
  · have HR := Lib.hid (show placeG x size stride pad dil = 0 by rw [HP.out, if_pos hneg])
    go_enter Tryz.func45, Tryz.ntmps45
    go_wp2_with fail
    go_ret
    exact ⟨by rw [HR.out]; rfl, Same.refl _⟩
  · obtain ⟨ht1, ht2⟩ := ht
    have HR := Lib.hid (show placeG x size stride pad dil = room / stride + 1 by rw [HP.out, if_neg hneg])
    have hr0 : 0 ≤ room := by omega
    have hq1 : 0 ≤ room / stride := Int.ediv_nonneg hr0 (by omega)
    have hq2 : room / stride ≤ 20000 := Int.le_trans (Int.ediv_le_self _ hr0) hr1.2
    have hwq : IntKind.i64.wrap (room.tdiv stride) = room / stride := IntWalk.i64_quo _ _ (by omega)
    have hws : IntKind.i64.wrap (room / stride + 1) = room / stride + 1 := IntWalk.i64_in _ (by omega)
    have hne0 : ¬ stride = 0 := by omega
    have hne1 : (stride == 0) = false := by simp [hne0]
    go_enter Tryz.func45, Tryz.ntmps45
    go_wp2_with fail
    go_ret
    exact ⟨by rw [HR.out]; rfl, Same.refl _⟩
/-- the places along n dimensions, or none -/
def SpatSome (w0 : World) (n : Nat) (e : Ending) (w' : World) : Prop :=
  Below w0.heap.size w0 w' ∧ (e = .returned (.tuple #[.slice none 0 0, .bool false]) ∨ ∃ v ys, e = .returned (.tuple #[v, .bool true]) ∧ OwnI w' w0.heap.size 3 .i64 v ys ∧ ys.length = n)
def inDim (lo : Int) (xs : List Int) : Prop := ∀ x ∈ xs, lo ≤ x ∧ x ≤ 4096
set_option maxRecDepth 100000 in
set_option maxHeartbeats 2000000 in
theorem spatialG_any (xs ks ss ps ds : List Int) (u : Value) (o1 o2 o3 o4 o5 : Option Addr) (c1 c2 c3 c4 c5 n m : Nat) (w : World) (bx : inDim 0 xs) (bk : inDim 1 ks) (bs : inDim 1 ss) (bp : inDim 0 ps) (bd : inDim 1 ds)
    (hx : xs.length = n + 2) (hk : ks.length = n) (hs : ss.length = n) (hp : ps.length = n) (hd : ds.length = n) (hm : m = n + 2) (hn : n ≤ 4)
    (h1 : Rd w .i64 (.slice o1 m c1) xs) (h2 : Rd w .i64 (.slice o2 n c2) ks) (h3 : Rd w .i64 (.slice o3 n c3) ss) (h4 : Rd w .i64 (.slice o4 n c4) ps) (h5 : Rd w .i64 (.slice o5 n c5) ds) :
    Calls Tryz.prog 26 #[.slice o1 m c1, .slice o2 n c2, .agg #[u, .slice o3 n c3, .slice o4 n c4, .slice o5 n c5]] w (SpatSome w n) := by
  obtain ⟨i0, hi, hz0, hz1, hz2⟩ := info_parts info_int
  have HR := Lib.hid (And.intro h1 (And.intro h2 (And.intro h3 (And.intro h4 h5))))
  have HBD := Lib.hid (And.intro bx (And.intro bk (And.intro bs (And.intro bp bd))))
  have HLN := Lib.hid (And.intro hx (And.intro hk (And.intro hs (And.intro hp hd))))
  have HM := Lib.hid hm
  obtain ⟨W0, hW0⟩ : ∃ W0, W0 = w.alloc (.cells #[u, .slice o3 n c3, .slice o4 n c4, .slice o5 n c5] 25) := ⟨_, rfl⟩
  have hB0 : Below w.heap.size w W0 := by rw [hW0]; exact (Below.refl _ _).alloc (Nat.le_refl _) _
  have hbc : Box W0 w.heap.size 25 #[u, .slice o3 n c3, .slice o4 n c4, .slice o5 n c5] := by rw [hW0]; exact Box.new _ _ _
  have HW0 := Lib.hid hW0
  have HB0 := Lib.hid (And.intro hB0 hbc)
  have hmm : m ≤ 6 := by omega
  clear hW0 hB0 h1 h2 h3 h4 h5 hbc bx bk bs bp bd hx hk hs hp hd hm
  go_enter Tryz.func26, Tryz.ntmps26
  go_wp2
  rw [← HW0.out]
  go_loopw [8, 9] (fun v i wr => ∃ (k : Nat) (ys : List Int) (o7 : Option Addr) (c7 : Nat), k ≤ n ∧ i = .int .i64 k ∧ v = .slice o7 k c7 ∧ ys.length = k ∧ Hid (OwnI wr W0.heap.size 3 .i64 (.slice o7 k c7) ys ∧ Below W0.heap.size W0 wr)) (fun _ i _ => n - (intOf i).toNat)
  case atStart => exact ⟨0, [], none, 0, Nat.zero_le _, rfl, rfl, rfl, Lib.hid ⟨World.ownsRow_nil _ _ _ _, Below.refl _ _⟩⟩
  case round =>
    obtain ⟨k, ys, o7, c7, hk, rfl, rfl, hyl, HO⟩ := hrel
    obtain ⟨w1, rfl⟩ : ∃ w1, w1 = wr := ⟨_, rfl⟩
    by_cases hlt : k < n
    · obtain ⟨r1, r2, r3, r4, r5⟩ := HR.out
      obtain ⟨l1, l2, l3, l4, l5⟩ := HLN.out
      obtain ⟨b1, b2, b3, b4, b5⟩ := HBD.out
      obtain ⟨q1, p1, rfl, d1⟩ := r1.cell (k + 2) (by omega)
      obtain ⟨q2, p2, rfl, d2⟩ := r2.cell k (by omega)
      obtain ⟨q3, p3, rfl, d3⟩ := r3.cell k (by omega)
      obtain ⟨q4, p4, rfl, d4⟩ := r4.cell k (by omega)
      obtain ⟨q5, p5, rfl, d5⟩ := r5.cell k (by omega)
      have hb : Below w.heap.size w w1 := HB0.out.1.trans (HO.out.2.mono HB0.out.1.size)
      have e1 := (hb.cell (p := ⟨q1, p1 + (k + 2), none⟩) (cell_lt d1)).trans d1
      have e2 := (hb.cell (p := ⟨q2, p2 + k, none⟩) (cell_lt d2)).trans d2
      have e3 := (hb.cell (p := ⟨q3, p3 + k, none⟩) (cell_lt d3)).trans d3
      have e4 := (hb.cell (p := ⟨q4, p4 + k, none⟩) (cell_lt d4)).trans d4
      have e5 := (hb.cell (p := ⟨q5, p5 + k, none⟩) (cell_lt d5)).trans d5
      have hbx := HB0.out.2.next HO.out.2
      have a1 : w1.cell? ⟨w.heap.size, 1, none⟩ = some (.slice (some ⟨q3, p3, none⟩) n c3) := hbx.cell 1 rfl
      have a2 : w1.cell? ⟨w.heap.size, 2, none⟩ = some (.slice (some ⟨q4, p4, none⟩) n c4) := hbx.cell 2 rfl
      have a3 : w1.cell? ⟨w.heap.size, 3, none⟩ = some (.slice (some ⟨q5, p5, none⟩) n c5) := hbx.cell 3 rfl
      have HPL := Lib.hid (fun W => placesG_any (nth xs (k + 2)) (nth ks k) (nth ss k) (nth ps k) (nth ds k) W (b2 _ (nth_mem _ _ (by omega))) (b3 _ (nth_mem _ _ (by omega))) (b4 _ (nth_mem _ _ (by omega))) (b5 _ (nth_mem _ _ (by omega))) (b1 _ (nth_mem _ _ (by omega))))
      clear l1 l2 l3 l4 l5 b1 b2 b3 b4 b5
      generalize nth xs (k + 2) = z1 at e1 HPL
      generalize nth ks k = z2 at e2 HPL
      generalize nth ss k = z3 at e3 HPL
      generalize nth ps k = z4 at e4 HPL
      generalize nth ds k = z5 at e5 HPL
      obtain ⟨y, hy⟩ : ∃ y, y = placeG z1 z2 z3 z4 z5 := ⟨_, rfl⟩
      rw [← hy] at HPL
      have htn : (2 + (k : Int)).toNat = k + 2 := by omega
      have hw2 : IntKind.i64.wrap (2 + (k : Int)) = 2 + (k : Int) := by rw [IntKind.wrap_i64]; omega
      clear r1 r2 r3 r4 r5 d1 d2 d3 d4 d5 hb hbx hy
      have hk2 : 2 + (k : Int) < (m : Int) := by have := HM.out; omega
      have hk0 : (0 : Int) ≤ 2 + (k : Int) := by omega
      go_wp2_with fail
      go_quiet (first | (go_at_call 45; exact Calls.quiet_of (HPL.out _)))
      obtain ⟨w2, hw2'⟩ : ∃ w2, w2 = w1.drewN nq := ⟨_, rfl⟩
      rw [← hw2']
      have hsm : Same w1 w2 := ⟨nq, hw2'⟩
      have HO2 := Lib.hid (show w2.ownsRow W0.heap.size 3 1 (.slice o7 k c7) k (ys.map (.int .i64)) ∧ Below W0.heap.size W0 w2 from ⟨by have := own_same HO.out.1 hsm; unfold OwnI at this; rw [hyl] at this; exact this, HO.out.2.trans (hsm.below _)⟩)
      clear e1 e2 e3 e4 e5 a1 a2 a3 HO hsm hw2'
      by_cases hy1 : y < 1
      · have HBB := Lib.hid (HB0.out.1.trans (HO2.out.2.mono HB0.out.1.size))
        go_wp2_with fail
        refine bodyPost_ret (v := .tuple #[.slice none 0 0, .bool false]) (by simp [results, Tryz.results26, go_sem]) rfl ⟨HBB.out, .inl rfl⟩
      · go_wp2_with (at_builtin; refine wpList_append_own _ rfl _ _ 23 rfl W0.heap.size 3 i0 (.int .i64 0) 1 8 Tryz.underlying23 hi hz0 hz1 hz2 rfl (by decide) _ _ _ rfl (HO2.out.1.alloc _) ⟨w2.heap.size, 0, none⟩ 1 1 [.int .i64 y] rfl rfl (cell_one_new _ _ _) (by simp [Value.oneCell']) (by unfold maxLen; omega) (by omega) (by have := HO2.out.2.size; simp; omega) ?_; intro v' w6 hown' hgrow _; refine stopHere ?_)
        have HV := Lib.hid (And.intro hown' (below_append HO2.out.2 (Nat.le_refl _) HO2.out.1 hgrow))
        clear hown' hgrow
        obtain ⟨o9, c9, rfl⟩ := own_slice HV.out.1
        refine goOn ?_
        go_wp2_with fail
        go_roundw
        case rel => exact ⟨k + 1, ys ++ [y], o9, c9, by omega, by go_num, rfl, by simp [hyl], Lib.hid ⟨by rw [OwnI, List.length_append, List.map_append, hyl]; exact HV.out.1, HV.out.2⟩⟩
        case measure => simp [intOf]; omega
    · obtain rfl : k = n := by omega
      have HF := Lib.hid (And.intro (own_mono HO.out.1 HB0.out.1.size) (HB0.out.1.trans (HO.out.2.mono HB0.out.1.size)))
      have HYL := Lib.hid hyl
      clear HO hyl
      go_wp2_with fail
      refine bodyPost_ret (v := .tuple #[.slice o7 k c7, .bool true]) (by simp [results, Tryz.results26, go_sem]) rfl ⟨HF.out.2, .inr ⟨_, ys, rfl, HF.out.1, HYL.out⟩⟩
end Go.Proofs.YtipjhdgegfgenaaGreat
/-
  LONG nodes: ratchetlaw18.LongNode.
-/
set_option linter.unusedVariables false
set_option linter.unusedSimpArgs false
namespace Go.Proofs.YtipjhdgegfgenaaGreat
open Go.RowKit Go.Shelf Go
set_option maxRecDepth 100000 in
set_option maxHeartbeats 2000000 in
theorem longNode_any (op word : Int) (oa oi o1 o2 o3 o4 : Option Addr) (na ni n1 n2 n3 n4 ca ci c1 c2 c3 c4 : Nat) (w : World) :
    Calls Tryz.prog 13 #[.agg #[.int .i64 op, .slice oa na ca, .slice oi ni ci, .int .i64 word, .slice o1 n1 c1, .slice o2 n2 c2, .slice o3 n3 c3, .slice o4 n4 c4]] w
      fun e w' => HeavyOut (na ≤ 6 ∧ ni ≤ 100 ∧ n1 ≤ 6 ∧ n2 ≤ 6 ∧ n3 ≤ 6 ∧ n4 ≤ 6) e ∧ Below w.heap.size w w' := by
  obtain ⟨W, hW⟩ : ∃ W, W = w.alloc (.cells #[.int .i64 op, .slice oa na ca, .slice oi ni ci, .int .i64 word, .slice o1 n1 c1, .slice o2 n2 c2, .slice o3 n3 c3, .slice o4 n4 c4] 27) := ⟨_, rfl⟩
  have HB := Lib.hid (show Below w.heap.size w W by rw [hW]; exact (Below.refl _ _).alloc (Nat.le_refl _) _)
  have HW := Lib.hid hW
  clear hW
  by_cases a1 : 6 < na
  · go_enter Tryz.func13, Tryz.ntmps13
    go_wp2
    go_ret
    exact ⟨⟨_, rfl, fun h => by cases h⟩, (Below.refl _ _).alloc (Nat.le_refl _) _⟩
  by_cases a2 : 100 < ni
  · go_enter Tryz.func13, Tryz.ntmps13
    go_wp2
    all_goals go_ret
    all_goals exact ⟨⟨_, rfl, fun h => by cases h⟩, (Below.refl _ _).alloc (Nat.le_refl _) _⟩
  · go_enter Tryz.func13, Tryz.ntmps13
    go_wp2_with (go_at_call 23; rw [← HW.out]; refine (longConv_any _ _ _ _ _ _ _ _ _ _ _ _ _).mono ?_; rintro e w1 ⟨⟨b, rfl, hb⟩, hba⟩; refine stopHere ?_)
    have HX := Lib.hid (And.intro hb (HB.out.trans (hba.mono HB.out.size)))
    clear hb hba
    refine goOn ?_
    go_wp2
    go_ret
    exact ⟨⟨_, rfl, fun h => ⟨by omega, by omega, HX.out.1 (by simp at h; exact h.2)⟩⟩, HX.out.2⟩
end Go.Proofs.YtipjhdgegfgenaaGreat
