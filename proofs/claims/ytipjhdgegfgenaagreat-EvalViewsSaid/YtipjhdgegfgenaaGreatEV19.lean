/-
  THE REFERENCE'S COMPARISONS: true where the numbers are the same, one by one.
-/
import Derived.Test.YtipjhdgegfgenaaGreatEV05
import Derived.Test.YtipjhdgegfgenaaGreatEV12
set_option linter.unusedVariables false
set_option linter.unusedSimpArgs false
namespace Go.Proofs.YtipjhdgegfgenaaGreat
open Go.RowKit
set_option maxHeartbeats 400000 in
theorem eqWords_any (v u : Value) (xs ys : List Int) (w : World) (hr : Rd w .i64 v xs) (hs : Rd w .i64 u ys) (hl : xs.length ≤ 140737488351232) :
    Calls Tryz.prog 10 #[v, u] w fun e w' => e = .returned (.bool (decide (xs = ys))) ∧ Same w w' := by
  obtain ⟨o, cap, rfl, hc⟩ := hr
  obtain ⟨o2, cap2, rfl, hc2⟩ := hs
  have HC := Lib.hid hc
  have HC2 := Lib.hid hc2
  clear hc hc2
  by_cases hlen : xs.length = ys.length
  · have HL := Lib.hid hlen
    clear hlen
    rw [← HL.out]
    go_enter Tryz.func10, Tryz.ntmps10
    go_wp2
    go_loopw [5] (fun i wr => ∃ k : Nat, k ≤ xs.length ∧ i = .int .i64 k ∧ (∀ j, j < k → nth xs j = nth ys j) ∧ Same w wr) (fun i _ => xs.length - (intOf i).toNat)
    case atStart => exact ⟨0, Nat.zero_le _, rfl, fun _ h => absurd h (Nat.not_lt_zero _), Same.refl _⟩
    case round =>
      obtain ⟨k, hk, rfl, hpre, nq, rfl⟩ := hrel
      have HP := Lib.hid hpre
      clear hpre
      by_cases hlt : k < xs.length
      · obtain ⟨b, off, rfl, h1⟩ := HC.out k hlt
        obtain ⟨b2, off2, rfl, h2⟩ := HC2.out k (by rw [← HL.out]; exact hlt)
        go_wp2
        go_quiet (fail)
        go_wp2
        · go_ret
          rename_i hne
          exact ⟨by rw [decide_eq_false]; rfl; intro e; rw [e] at hne; simp at hne, by first | exact ⟨_, rfl⟩ | exact ⟨_, World.drewN_drewN _ _ _⟩⟩
        · rename_i he
          have HE := Lib.hid he
          clear he
          go_roundw
          case rel => exact ⟨k + 1, by omega, by go_num, fun j hj => by rcases Nat.lt_succ_iff_lt_or_eq.1 hj with h | h; exact HP.out j h; rw [h]; simpa using HE.out, by first | exact ⟨_, rfl⟩ | exact ⟨_, World.drewN_drewN _ _ _⟩⟩
          case measure => simp [intOf]; omega
      · obtain rfl : k = xs.length := by omega
        have HE : Hid (xs = ys) := Lib.hid (ext_nth HL.out HP.out)
        go_wp2
        go_ret
        exact ⟨by rw [decide_eq_true HE.out]; rfl, _, rfl⟩
  · go_enter Tryz.func10, Tryz.ntmps10
    have hb : (((xs.length : Nat) : Int) != ((ys.length : Nat) : Int)) = true := by simp [bne_iff_ne]; omega
    have hne : xs ≠ ys := fun e => hlen (congrArg List.length e)
    have HE := Lib.hid (decide_eq_false hne)
    clear hlen hne
    go_wp2
    go_ret
    exact ⟨by rw [HE.out]; rfl, Same.refl _⟩
set_option maxHeartbeats 400000 in
theorem eqNumbers_any (v u : Value) (xs ys : List Int) (w : World) (hr : Rd w .i64 v xs) (hs : Rd w .i64 u ys) (hl : xs.length ≤ 140737488351232) :
    Calls Tryz.prog 22 #[v, u] w fun e w' => e = .returned (.bool (decide (xs = ys))) ∧ Same w w' := by
  obtain ⟨o, cap, rfl, hc⟩ := hr
  obtain ⟨o2, cap2, rfl, hc2⟩ := hs
  have HC := Lib.hid hc
  have HC2 := Lib.hid hc2
  clear hc hc2
  by_cases hlen : xs.length = ys.length
  · have HL := Lib.hid hlen
    clear hlen
    rw [← HL.out]
    go_enter Tryz.func22, Tryz.ntmps22
    go_wp2
    go_loopw [5] (fun i wr => ∃ k : Nat, k ≤ xs.length ∧ i = .int .i64 k ∧ (∀ j, j < k → nth xs j = nth ys j) ∧ Same w wr) (fun i _ => xs.length - (intOf i).toNat)
    case atStart => exact ⟨0, Nat.zero_le _, rfl, fun _ h => absurd h (Nat.not_lt_zero _), Same.refl _⟩
    case round =>
      obtain ⟨k, hk, rfl, hpre, nq, rfl⟩ := hrel
      have HP := Lib.hid hpre
      clear hpre
      by_cases hlt : k < xs.length
      · obtain ⟨b, off, rfl, h1⟩ := HC.out k hlt
        obtain ⟨b2, off2, rfl, h2⟩ := HC2.out k (by rw [← HL.out]; exact hlt)
        go_wp2
        go_quiet (fail)
        go_wp2
        · go_ret
          rename_i hne
          exact ⟨by rw [decide_eq_false]; rfl; intro e; rw [e] at hne; simp at hne, by first | exact ⟨_, rfl⟩ | exact ⟨_, World.drewN_drewN _ _ _⟩⟩
        · rename_i he
          have HE := Lib.hid he
          clear he
          go_roundw
          case rel => exact ⟨k + 1, by omega, by go_num, fun j hj => by rcases Nat.lt_succ_iff_lt_or_eq.1 hj with h | h; exact HP.out j h; rw [h]; simpa using HE.out, by first | exact ⟨_, rfl⟩ | exact ⟨_, World.drewN_drewN _ _ _⟩⟩
          case measure => simp [intOf]; omega
      · obtain rfl : k = xs.length := by omega
        have HE : Hid (xs = ys) := Lib.hid (ext_nth HL.out HP.out)
        go_wp2
        go_ret
        exact ⟨by rw [decide_eq_true HE.out]; rfl, _, rfl⟩
  · go_enter Tryz.func22, Tryz.ntmps22
    have hb : (((xs.length : Nat) : Int) != ((ys.length : Nat) : Int)) = true := by simp [bne_iff_ne]; omega
    have hne : xs ≠ ys := fun e => hlen (congrArg List.length e)
    have HE := Lib.hid (decide_eq_false hne)
    clear hlen hne
    go_wp2
    go_ret
    exact ⟨by rw [HE.out]; rfl, Same.refl _⟩
end Go.Proofs.YtipjhdgegfgenaaGreat
/-
  LISTS of tensors: all that may be; alike in shapes.
-/
set_option linter.unusedVariables false
set_option linter.unusedSimpArgs false
namespace Go.Proofs.YtipjhdgegfgenaaGreat
open Go.RowKit Go.Shelf Go
theorem tnth_mem (l : List TensD) (k : Nat) (h : k < l.length) : tnth l k ∈ l := by rw [tnth_eq l k h]; exact List.getElem_mem h
theorem ttake_succ (l : List TensD) (k : Nat) (h : k < l.length) : l.take (k + 1) = l.take k ++ [tnth l k] := by
  rw [List.take_succ_eq_append_getElem h, tnth_eq l k h]
theorem tall_take_succ (p : TensD → Bool) (l : List TensD) (k : Nat) (h : k < l.length) : (l.take (k + 1)).all p = ((l.take k).all p && p (tnth l k)) := by
  rw [ttake_succ l k h, List.all_append]; simp
theorem tall_false_of (p : TensD → Bool) (l : List TensD) (k : Nat) (h : k < l.length) (hp : p (tnth l k) = false) : l.all p = false := by
  rw [List.all_eq_false]; exact ⟨_, tnth_mem l k h, by simp [hp]⟩
set_option maxHeartbeats 1000000 in
theorem elemAll1_any (vs vd : Value) (t : TensD) (w : World) (hs : Rd w .i64 vs t.sh) (hd : Rd w .i64 vd t.da) (hl : t.Lim) :
    Calls Tryz.prog 145 #[.agg #[vs, vd]] w fun e w' => e = .returned (.bool (!tensB t)) ∧ Below w.heap.size w w' := by
  have HL := Lib.hid hl
  have HS := Lib.hid hs
  have HD := Lib.hid hd
  obtain ⟨o1, cap1, he1⟩ := rd_slice hs
  obtain ⟨o2, cap2, he2⟩ := rd_slice hd
  subst he1 he2
  clear hs hd hl
  go_enter Tryz.func145, Tryz.ntmps145
  go_wp2_with fail
  refine (elemGood_any _ _ t _ (HS.out.alloc _) (HD.out.alloc _) HL.out).mono ?_
  rintro e w' ⟨rfl, hb⟩
  go_wp2
  go_ret
  exact ⟨rfl, ((Below.refl w.heap.size w).alloc (Nat.le_refl _) _).trans (hb.mono (by simp))⟩
def TLim (ts : List TensD) : Prop := ts.length ≤ 140737488351232 ∧ ∀ t ∈ ts, t.Lim
set_option maxRecDepth 100000 in
set_option maxHeartbeats 1000000 in
theorem indexTens_any (v : Value) (ts : List TensD) (w : World) (hr : TenssRd w v ts) (hl : TLim ts) :
    Calls Tryz.prog 210 #[v, .func (.func 145) #[] #[]] w fun e w' => (∃ i : Int, e = .returned (.int .i64 i) ∧ decide (0 ≤ i) = !ts.all tensB) ∧ Below w.heap.size w w' := by
  obtain ⟨o, cap, rfl⟩ := hr.slice
  have HR := Lib.hid hr
  obtain ⟨hl1, hl2⟩ := hl
  have HL := Lib.hid hl2
  have he : ∀ args w, (callFunc 145 args).run Tryz.prog w = .ok (.enter 145 args) w := enters_of Tryz.func145 (by kernel_rfl) rfl
  clear hr hl2
  go_enter Tryz.func210, Tryz.ntmps210
  go_wp2
  go_loopw [8] (fun i wr => ∃ k : Nat, k ≤ ts.length ∧ i = .int .i64 k ∧ (ts.take k).all tensB = true ∧ Below w.heap.size w wr) (fun i _ => ts.length - (intOf i).toNat)
  case atStart => exact ⟨0, Nat.zero_le _, rfl, rfl, Below.refl _ _⟩
  case round =>
    obtain ⟨k, hk, rfl, hp, hB⟩ := hrel
    obtain ⟨w3, rfl⟩ : ∃ w3, w3 = wr := ⟨_, rfl⟩
    have HP := Lib.hid hp
    have HB := Lib.hid hB
    clear hp hB
    by_cases hlt : k < ts.length
    · obtain ⟨b, off, vs, vd, rfl, c0, c1, hs, hd⟩ := (HR.out.below HB.out (Nat.le_refl _)).tens k hlt
      have HS := Lib.hid hs
      have HD := Lib.hid hd
      have HLk := Lib.hid (HL.out _ (tnth_mem ts k hlt))
      obtain ⟨o1, cap1, rfl⟩ := rd_slice hs
      obtain ⟨o2, cap2, rfl⟩ := rd_slice hd
      clear hs hd
      cases hb : tensB (tnth ts k)
      all_goals
        have HT := Lib.hid hb
        clear hb
        go_wp2_with fail
        refine (elemAll1_any _ _ (tnth ts k) _ HS.out HD.out HLk.out).mono ?_
        rintro e w' ⟨rfl, hbb⟩
        rw [HT.out]
        have HB4 := Lib.hid (HB.out.trans (hbb.mono HB.out.size))
        clear hbb
        go_wp2
      · go_ret
        exact ⟨⟨_, rfl, by rw [tall_false_of _ _ k hlt HT.out]; simp⟩, HB4.out⟩
      · go_roundw
        case rel => exact ⟨k + 1, by omega, by go_num, by rw [tall_take_succ _ _ _ hlt, HP.out, HT.out]; rfl, HB4.out⟩
        case measure => simp [intOf]; omega
    · obtain rfl : k = ts.length := by omega
      have HA : Hid (ts.all tensB = true) := Lib.hid (by have := HP.out; rwa [List.take_length] at this)
      go_wp2
      go_ret
      exact ⟨⟨_, rfl, by rw [HA.out]; simp⟩, HB.out⟩
set_option maxHeartbeats 1000000 in
theorem elemAll_any (v : Value) (ts : List TensD) (w : World) (hr : TenssRd w v ts) (hl : TLim ts) :
    Calls Tryz.prog 97 #[v] w fun e w' => e = .returned (.bool (ts.all tensB)) ∧ Below w.heap.size w w' := by
  have HI := Lib.hid (show Calls Tryz.prog 144 #[v, .func (.func 145) #[] #[]] w fun e w' => e = .returned (.bool (!ts.all tensB)) ∧ Below w.heap.size w w' by
    have HJ := Lib.hid (indexTens_any v ts w hr hl)
    clear hr hl
    go_enter Tryz.func144, Tryz.ntmps144
    go_wp2_with fail
    refine HJ.out.mono ?_
    rintro e w' ⟨⟨i, rfl, hi⟩, hs⟩
    have HX := Lib.hid hi
    have HS := Lib.hid hs
    clear hi hs
    go_wp2
    go_ret
    exact ⟨ret_bool HX.out, HS.out⟩)
  clear hr hl
  go_enter Tryz.func97, Tryz.ntmps97
  go_wp2_with fail
  refine HI.out.mono ?_
  rintro e w' ⟨rfl, hb⟩
  have HB := Lib.hid hb
  clear hb
  go_wp2
  go_ret
  exact ⟨ret_bool (by simp), HB.out⟩
set_option maxHeartbeats 1000000 in
theorem slEqual_any (v u : Value) (xs ys : List Int) (w : World) (hr : Rd w .i64 v xs) (hs : Rd w .i64 u ys) (hl : xs.length ≤ 140737488351232) :
    Calls Tryz.prog 138 #[v, u] w fun e w' => e = .returned (.bool (decide (xs = ys))) ∧ Same w w' := by
  obtain ⟨o, cap, rfl, hc⟩ := hr
  obtain ⟨o2, cap2, rfl, hc2⟩ := hs
  have HC := Lib.hid hc
  have HC2 := Lib.hid hc2
  clear hc hc2
  by_cases hlen : xs.length = ys.length
  · have HL := Lib.hid hlen
    clear hlen
    rw [← HL.out]
    go_enter Tryz.func138, Tryz.ntmps138
    go_wp2
    go_loopw [13] (fun i wr => ∃ k : Nat, k ≤ xs.length ∧ i = .int .i64 k ∧ (∀ j, j < k → nth xs j = nth ys j) ∧ Same w wr) (fun i _ => xs.length - (intOf i).toNat)
    case atStart => exact ⟨0, Nat.zero_le _, rfl, fun _ h => absurd h (Nat.not_lt_zero _), Same.refl _⟩
    case round =>
      obtain ⟨k, hk, rfl, hpre, nq, rfl⟩ := hrel
      have HP := Lib.hid hpre
      clear hpre
      by_cases hlt : k < xs.length
      · obtain ⟨b, off, rfl, h1⟩ := HC.out k hlt
        obtain ⟨b2, off2, rfl, h2⟩ := HC2.out k (by rw [← HL.out]; exact hlt)
        go_wp2
        go_quiet (fail)
        go_wp2
        · go_ret
          rename_i hne
          exact ⟨by rw [decide_eq_false]; rfl; intro e; rw [e] at hne; simp at hne, by first | exact ⟨_, rfl⟩ | exact ⟨_, World.drewN_drewN _ _ _⟩⟩
        · rename_i he
          have HE := Lib.hid he
          clear he
          go_roundw
          case rel => exact ⟨k + 1, by omega, by go_num, fun j hj => by rcases Nat.lt_succ_iff_lt_or_eq.1 hj with h | h; exact HP.out j h; rw [h]; simpa using HE.out, by first | exact ⟨_, rfl⟩ | exact ⟨_, World.drewN_drewN _ _ _⟩⟩
          case measure => simp [intOf]; omega
      · obtain rfl : k = xs.length := by omega
        have HE : Hid (xs = ys) := Lib.hid (ext_nth HL.out HP.out)
        go_wp2
        go_ret
        exact ⟨by rw [decide_eq_true HE.out]; rfl, _, rfl⟩
  · go_enter Tryz.func138, Tryz.ntmps138
    have hb : (((xs.length : Nat) : Int) != ((ys.length : Nat) : Int)) = true := by simp [bne_iff_ne]; omega
    have hne : xs ≠ ys := fun e => hlen (congrArg List.length e)
    have HE := Lib.hid (decide_eq_false hne)
    clear hlen hne
    go_wp2
    go_ret
    exact ⟨by rw [HE.out]; rfl, Same.refl _⟩
/-- the shapes of tensors -/
def shs (l : List TensD) : List (List Int) := l.map TensD.sh
theorem shs_eq_of {a b : List TensD} (hl : a.length = b.length) (h : ∀ k, k < a.length → (tnth a k).sh = (tnth b k).sh) : shs a = shs b := by
  apply List.ext_getElem
  · simp [shs, hl]
  · intro k h1 h2
    have hk : k < a.length := by simpa [shs] using h1
    have := h k hk
    rw [tnth_eq a k hk, tnth_eq b k (by omega)] at this
    simpa [shs] using this
theorem shs_at {a b : List TensD} (h : shs a = shs b) (k : Nat) (hk : k < a.length) : (tnth a k).sh = (tnth b k).sh := by
  have hl : a.length = b.length := by have := congrArg List.length h; simpa [shs] using this
  have h1 : (shs a)[k]? = (shs b)[k]? := by rw [h]
  rw [tnth_eq a k hk, tnth_eq b k (by omega)]
  simpa [shs, hk, show k < b.length by omega] using h1
end Go.Proofs.YtipjhdgegfgenaaGreat
