/-
  THE LAW of views: ratchetlaw18.EvalViews answers true.
-/
import Derived.Deep.DeepCutAuto
import Derived.Deep.RegionHeld3
import Derived.Test.YtipjhdgegfgenaaGreatEV47
import Derived.Test.YtipjhdgegfgenaaGreatEV46
import Derived.Test.YtipjhdgegfgenaaGreatEV05
set_option linter.unusedVariables false
set_option linter.unusedSimpArgs false
namespace Go.Proofs.YtipjhdgegfgenaaGreat
open Go.RowKit Go.Shelf Go
theorem tens_words {t : TensD} (h : tensB t = true) : wordsB t.da = true := by
  simp only [tensB, Bool.and_eq_true] at h; exact h.2.2
theorem tens_mk {sh : List Nat} {da : List Int} (hg : shapeB (ints sh) = true) (hl : da.length = prodN sh) (hw : wordsB da = true) : tensB ⟨ints sh, da⟩ = true := by
  simp only [tensB, Bool.and_eq_true, decide_eq_true_eq]
  exact ⟨hg, by rw [prodL_ints, hl], hw⟩
theorem words_copy {da : List Int} (sh st : List Nat) (off : Nat) (hw : wordsB da = true) (hin : ∀ n, n < prodN sh → off + dotN (standsN sh n) st < da.length) : wordsB (copyN sh st off da) = true := by
  simp only [wordsB, copyN, List.all_eq_true, List.mem_map, List.mem_range] at hw ⊢
  rintro x ⟨n, hn, rfl⟩
  rw [nth_eq _ _ (hin n hn)]
  exact hw _ (List.getElem_mem _)
theorem tens_back {sh : List Nat} {da : List Int} (h : tensB ⟨ints sh, da⟩ = true) : tensB ⟨ints sh.reverse, copyN sh.reverse (stepsN sh).reverse 0 da⟩ = true := by
  obtain ⟨h1, h2⟩ := tens_len h rfl
  have hp : ∀ d ∈ sh, 0 < d := fun d hd => ((dims_good h1).1 d hd).1
  refine tens_mk (all_rev h1) (copyN_length _ _ _ _) (words_copy _ _ _ (tens_words h) fun n hn => ?_)
  rw [Nat.zero_add, show da.length = prodN sh from h2]
  exact turn_lt sh hp n
theorem shape_flat {n : Nat} (h : 0 < n) (hn : n ≤ 4096) : shapeB (ints [n]) = true := by
  simp [shapeB, ints, dimB, prodL]; omega
theorem wt_da : ∀ (ts : List TensD), 0 < ts.length → (tnth ts 0).da.length ≤ wt ts
  | [], h => absurd h (by simp)
  | t :: r, h => by rw [tnth_eq _ _ h]; simp [wt]; omega
theorem back_succ (m j : Nat) (h : j < m) : (ints (backN m)).take (j + 1) = (ints (backN m)).take j ++ [((m - 1 - j : Nat) : Int)] := by
  have hl : j < (ints (backN m)).length := by rw [ints_length, backN, List.length_reverse, List.length_range]; exact h
  rw [List.take_succ_eq_append_getElem hl]
  simp [ints, backN, List.getElem_reverse]
theorem back_len (m : Nat) : (ints (backN m)).length = m := by rw [ints_length, backN, List.length_reverse, List.length_range]
theorem one_box (w : World) (T : TypeId) (c : Array Value) {W : World} (hW : W = w.alloc (.cells c T)) : Box W w.heap.size T c ∧ Below w.heap.size w W := by
  subst hW; exact ⟨Box.new _ _ _, (Below.refl _ _).alloc (Nat.le_refl _) _⟩
theorem three_box (w : World) (T1 T2 T3 : TypeId) (c1 c2 c3 : Array Value) {W : World} (hW : W = ((w.alloc (.cells c1 T1)).alloc (.cells c2 T2)).alloc (.cells c3 T3)) :
    Box W w.heap.size T1 c1 ∧ Box W (w.heap.size + 1) T2 c2 ∧ Box W (w.heap.size + 2) T3 c3 ∧ Below w.heap.size w W := by
  subst hW
  have h2 := Box.new (w.alloc (.cells c1 T1)) T2 c2
  have h3 := Box.new ((w.alloc (.cells c1 T1)).alloc (.cells c2 T2)) T3 c3
  rw [World.size_alloc] at h2
  rw [World.size_alloc, World.size_alloc] at h3
  exact ⟨box_st_alloc (box_st_alloc (Box.new w T1 c1)), box_st_alloc h2, h3, below_st_alloc (below_st_alloc (below_st_alloc (Below.refl _ _) (Nat.le_refl _)) (Nat.le_refl _)) (Nat.le_refl _)⟩
set_option maxRecDepth 1000000 in
set_option maxHeartbeats 64000000 in
theorem views_any (o : Option Addr) (n cap : Nat) (w : World) (hn : n ≤ 140737488351232) (ha : ∀ i, i < n → AskAt w o i) :
    Calls Tryz.prog 3 #[.slice o n cap] w fun e w' => e = .returned (.bool true) ∧ Below w.heap.size w w' := by
  obtain ⟨i0, hi, hI0, hI1, hI2⟩ := info_parts info_int
  have HI := Lib.hid hi
  have HA := Lib.hid ha
  clear ha hi
  go_enter Tryz.func3, Tryz.ntmps3
  go_wp2_with fail
  go_loopw [3] (fun i wr => ∃ k : Nat, k ≤ n ∧ i = .int .i64 k ∧ Hid (Below w.heap.size w wr)) (fun i _ => n - (intOf i).toNat)
  case atStart => exact ⟨0, Nat.zero_le _, rfl, Lib.hid (Below.refl _ _)⟩
  case round =>
    obtain ⟨k, hk, rfl, HB1⟩ := hrel
    obtain ⟨w1, rfl⟩ : ∃ w1, w1 = wr := ⟨_, rfl⟩
    by_cases hlt : k < n
    case neg =>
      obtain rfl : k = n := by omega
      go_wp2_with (go_at_call 12; refine (wakes18_any _).mono ?_; rintro e w2 ⟨rfl, hb2⟩; refine stopHere ?_)
      have HB2 := Lib.hid (HB1.out.trans (hb2.mono HB1.out.size))
      clear hb2
      refine goOn ?_
      go_wp2_with fail
      go_ret
      exact ⟨rfl, HB2.out⟩
    by_cases h6 : k < 6
    case neg =>
      go_wp2_with (go_at_call 12; refine (wakes18_any _).mono ?_; rintro e w2 ⟨rfl, hb2⟩; refine stopHere ?_)
      have HB2 := Lib.hid (HB1.out.trans (hb2.mono HB1.out.size))
      clear hb2
      refine goOn ?_
      go_wp2_with fail
      go_ret
      exact ⟨rfl, HB2.out⟩
    obtain ⟨b, off, a, rfl, hcell, hrd⟩ := HA.out k hlt
    rcases a with ⟨op, word, f, oa, oi, o1, o2, o3, o4, ot, ol, na, ni, n1, n2, n3, n4, nt, nl, ca, ci, c1, c2, c3, c4, ct, cl, al, il, cv, ts, ls⟩
    have HRD := Lib.hid hrd
    have HCELL := Lib.hid hcell
    have e0 : w1.cell? ⟨b, off + k * 11, none⟩ = some (.int .i64 op) := (HB1.out.cell (p := ⟨b, off + k * 11 + 0, none⟩) (cell_lt (hcell 0 _ rfl))).trans (hcell 0 _ rfl)
    have e1 : w1.cell? ⟨b, off + k * 11 + 1, none⟩ = some (.slice oa na ca) := (HB1.out.cell (p := ⟨b, off + k * 11 + 1, none⟩) (cell_lt (hcell 1 _ rfl))).trans (hcell 1 _ rfl)
    have e2 : w1.cell? ⟨b, off + k * 11 + 2, none⟩ = some (.slice oi ni ci) := (HB1.out.cell (p := ⟨b, off + k * 11 + 2, none⟩) (cell_lt (hcell 2 _ rfl))).trans (hcell 2 _ rfl)
    have e3 : w1.cell? ⟨b, off + k * 11 + 3, none⟩ = some (.int .i64 word) := (HB1.out.cell (p := ⟨b, off + k * 11 + 3, none⟩) (cell_lt (hcell 3 _ rfl))).trans (hcell 3 _ rfl)
    have e4 : w1.cell? ⟨b, off + k * 11 + 4, none⟩ = some (.slice o1 n1 c1) := (HB1.out.cell (p := ⟨b, off + k * 11 + 4, none⟩) (cell_lt (hcell 4 _ rfl))).trans (hcell 4 _ rfl)
    have e5 : w1.cell? ⟨b, off + k * 11 + 5, none⟩ = some (.slice o2 n2 c2) := (HB1.out.cell (p := ⟨b, off + k * 11 + 5, none⟩) (cell_lt (hcell 5 _ rfl))).trans (hcell 5 _ rfl)
    have e6 : w1.cell? ⟨b, off + k * 11 + 6, none⟩ = some (.slice o3 n3 c3) := (HB1.out.cell (p := ⟨b, off + k * 11 + 6, none⟩) (cell_lt (hcell 6 _ rfl))).trans (hcell 6 _ rfl)
    have e7 : w1.cell? ⟨b, off + k * 11 + 7, none⟩ = some (.slice o4 n4 c4) := (HB1.out.cell (p := ⟨b, off + k * 11 + 7, none⟩) (cell_lt (hcell 7 _ rfl))).trans (hcell 7 _ rfl)
    have e8 : w1.cell? ⟨b, off + k * 11 + 8, none⟩ = some (.slice ot nt ct) := (HB1.out.cell (p := ⟨b, off + k * 11 + 8, none⟩) (cell_lt (hcell 8 _ rfl))).trans (hcell 8 _ rfl)
    have e9 : w1.cell? ⟨b, off + k * 11 + 9, none⟩ = some (.int .i64 f) := (HB1.out.cell (p := ⟨b, off + k * 11 + 9, none⟩) (cell_lt (hcell 9 _ rfl))).trans (hcell 9 _ rfl)
    have e10 : w1.cell? ⟨b, off + k * 11 + 10, none⟩ = some (.slice ol nl cl) := (HB1.out.cell (p := ⟨b, off + k * 11 + 10, none⟩) (cell_lt (hcell 10 _ rfl))).trans (hcell 10 _ rfl)
    clear hcell hrd
    obtain ⟨W2, hW2⟩ : ∃ W2, W2 = w1.alloc (.cells #[.int .i64 op, .slice oa na ca, .slice oi ni ci, .int .i64 word, .slice o1 n1 c1, .slice o2 n2 c2, .slice o3 n3 c3, .slice o4 n4 c4, .slice ot nt ct, .int .i64 f, .slice ol nl cl] 31) := ⟨_, rfl⟩
    have HX2 := Lib.hid (one_box w1 _ _ hW2)
    have HW2 := Lib.hid hW2
    have HB2 := Lib.hid (HB1.out.trans (HX2.out.2.mono HB1.out.size))
    clear hW2
    go_upto_region 5 with fail
    rw [← HW2.out]
    have d0 : W2.cell? ⟨w1.heap.size, 0, none⟩ = some (.int .i64 op) := HX2.out.1.cell 0 rfl
    have d1 : W2.cell? ⟨w1.heap.size, 1, none⟩ = some (.slice oa na ca) := HX2.out.1.cell 1 rfl
    have d2 : W2.cell? ⟨w1.heap.size, 2, none⟩ = some (.slice oi ni ci) := HX2.out.1.cell 2 rfl
    have d3 : W2.cell? ⟨w1.heap.size, 3, none⟩ = some (.int .i64 word) := HX2.out.1.cell 3 rfl
    have d4 : W2.cell? ⟨w1.heap.size, 4, none⟩ = some (.slice o1 n1 c1) := HX2.out.1.cell 4 rfl
    have d5 : W2.cell? ⟨w1.heap.size, 5, none⟩ = some (.slice o2 n2 c2) := HX2.out.1.cell 5 rfl
    have d6 : W2.cell? ⟨w1.heap.size, 6, none⟩ = some (.slice o3 n3 c3) := HX2.out.1.cell 6 rfl
    have d7 : W2.cell? ⟨w1.heap.size, 7, none⟩ = some (.slice o4 n4 c4) := HX2.out.1.cell 7 rfl
    have d8 : W2.cell? ⟨w1.heap.size, 8, none⟩ = some (.slice ot nt ct) := HX2.out.1.cell 8 rfl
    have d9 : W2.cell? ⟨w1.heap.size, 9, none⟩ = some (.int .i64 f) := HX2.out.1.cell 9 rfl
    have d10 : W2.cell? ⟨w1.heap.size, 10, none⟩ = some (.slice ol nl cl) := HX2.out.1.cell 10 rfl
    clear e0 e1 e2 e3 e4 e5 e6 e7 e8 e9 e10 HW2
    have HR2 := Lib.hid (HRD.out.below HB2.out)
    go_wp2_with (go_at_call 4; refine (heavy18_any op word f oa oi o1 o2 o3 o4 ot ol na ni n1 n2 n3 n4 nt nl ca ci c1 c2 c3 c4 ct cl al il cv ts ls W2 HR2.out.ha HR2.out.hi HR2.out.hcv HR2.out.ht HR2.out.htl HR2.out.htc HR2.out.hls).mono ?_; rintro e w3 ⟨⟨hv, rfl, hlv⟩, hb3⟩; refine stopHere ?_)
    have HLV := Lib.hid hlv
    have HX3 := Lib.hid (HX2.out.1.next hb3)
    have HB3 := Lib.hid (HB2.out.trans (hb3.mono HB2.out.size))
    have HT3 := Lib.hid (show TenssRd w3 (.slice ot nt ct) ts from HR2.out.ht.below hb3 (Nat.le_refl _))
    have HNT := Lib.hid (show nt = ts.length by obtain ⟨o, cap, he⟩ := HR2.out.ht.slice; injection he)
    have d8 : w3.cell? ⟨w1.heap.size, 8, none⟩ = some (.slice ot nt ct) := HX3.out.cell 8 rfl
    clear hlv hb3 d0 d1 d2 d3 d4 d5 d6 d7 d9 d10
    refine goOn ?_
    cases hv with
    | true =>
      go_wp2_with fail
      go_roundw
      case rel => exact ⟨k + 1, by omega, by go_num, HB3⟩
      case measure => simp [intOf]; omega
    | false =>
      have HLT := Lib.hid (show LightV na ni n1 n2 n3 n4 ts from HLV.out (by trivial))
      clear HLV
      by_cases hz : nt = 0
      case pos =>
        have hz2 : ((nt : Int) == 0) = true := by simp; exact hz
        clear hz
        go_wp2_with fail
        go_roundw
        case rel => exact ⟨k + 1, by omega, by go_num, HB3⟩
        case measure => simp [intOf]; omega
      have hz2 : ((nt : Int) == 0) = false := by simp; exact hz
      have hnt0 : 0 < nt := by omega
      have hnt1 : (0 : Int) < (nt : Int) := by omega
      obtain ⟨bt, ft, vs, vd, hot, t0, t1, hts, htd⟩ := HT3.out.tens 0 (by have := HNT.out; omega)
      subst hot
      rw [Nat.zero_mul, Nat.add_zero] at t0 t1
      obtain ⟨t, htt⟩ : ∃ t, t = tnth ts 0 := ⟨_, rfl⟩
      have HTL := Lib.hid (show t.da.length ≤ 40 by rw [htt]; have := wt_da ts (by have := HNT.out; omega); have h2 := HLT.out.2.1; omega)
      have HLM := Lib.hid (show t.Lim by rw [htt]; exact HR2.out.htl.2 _ (by rw [tnth_eq ts 0 (by have := HNT.out; omega)]; exact List.getElem_mem _))
      rw [← htt] at hts htd
      clear htt
      obtain ⟨so, sc, rfl⟩ := rd_slice hts
      obtain ⟨qo, qc, rfl⟩ := rd_slice htd
      have HTS := Lib.hid (And.intro hts htd)
      obtain ⟨sn, hsn⟩ : ∃ sn, sn = t.sh.length := ⟨_, rfl⟩
      obtain ⟨qn, hqn⟩ : ∃ qn, qn = t.da.length := ⟨_, rfl⟩
      have HSN := Lib.hid (And.intro hsn hqn)
      rw [← hsn] at t0 HTS
      rw [← hqn] at t1 HTS
      clear hts htd hsn hqn hz
      have hbt3 : bt < w3.heap.size := cell_lt t0
      go_wp2_with (go_at_call 5; refine (ref8TMay_any _ _ t w3 HTS.out.1 HTS.out.2 HLM.out).mono ?_; rintro e w4 ⟨rfl, hb4⟩; refine stopHere ?_)
      obtain ⟨tb, htb⟩ : ∃ tb, tb = tensB t := ⟨_, rfl⟩
      have HTB := Lib.hid htb
      rw [← htb]
      have HX4 := Lib.hid (HX3.out.next hb4)
      have HB4 := Lib.hid (HB3.out.trans (hb4.mono HB3.out.size))
      have u0 := (hb4.cell (p := ⟨bt, ft, none⟩) hbt3).trans t0
      have u1 := (hb4.cell (p := ⟨bt, ft + 1, none⟩) hbt3).trans t1
      have HTS4 := Lib.hid (And.intro (HTS.out.1.below hb4 (Nat.le_refl _)) (HTS.out.2.below hb4 (Nat.le_refl _)))
      have hbt4 : bt < w4.heap.size := Nat.lt_of_lt_of_le hbt3 hb4.size
      clear htb hb4 t0 t1 d8 hbt3
      have d8 : w4.cell? ⟨w1.heap.size, 8, none⟩ = some (.slice (some ⟨bt, ft, none⟩) nt ct) := HX4.out.cell 8 rfl
      refine goOn ?_
      cases tb with
      | false =>
        go_wp2_with fail
        go_roundw
        case rel => exact ⟨k + 1, by omega, by go_num, HB4⟩
        case measure => simp [intOf]; omega
      | true =>
        have hz3 : ((nt : Int) == 0) = false := hz2
        obtain ⟨sh, hsh⟩ : ∃ sh, t.sh = ints sh := ⟨t.sh.map Int.toNat, (ints_of _ (shape_nonneg (by have := HTB.out.symm; simp only [tensB, Bool.and_eq_true] at this; exact this.1))).symm⟩
        obtain ⟨sh0, da⟩ := t
        simp only at hsh
        subst hsh
        have HG := Lib.hid (show tensB ⟨ints sh, da⟩ = true from HTB.out.symm)
        have HP := Lib.hid (tens_len HG.out rfl)
        have HLN := Lib.hid (show sn = sh.length ∧ qn = da.length ∧ sh.length ≤ 4 ∧ da.length ≤ 40 ∧ 0 < prodN sh from ⟨by have := HSN.out.1; rw [ints_length] at this; exact this, HSN.out.2, (dims_good HP.out.1).2, HTL.out, prodN_pos fun d hd => ((dims_good HP.out.1).1 d hd).1⟩)
        obtain ⟨W5, hW5⟩ : ∃ W5, W5 = w4.alloc (.cells #[.slice so sn sc, .slice qo qn qc] 36) := ⟨_, rfl⟩
        have HT5 := Lib.hid (show TBox W5 w4.heap.size so sn sc qo qn qc ⟨ints sh, da⟩ by rw [hW5]; exact TBox.new (t := ⟨ints sh, da⟩) HTS4.out.1 HTS4.out.2)
        have HB5 := Lib.hid (show Below w.heap.size w W5 by rw [hW5]; exact HB4.out.alloc HB4.out.size _)
        have HW5 := Lib.hid hW5
        clear hW5
        go_upto_region 7 with fail
        rw [← HW5.out]
        clear u0 u1 d8 hbt4 HW5 hz3 HX4 HX3 HX2 HTS HTS4 HT3 HTB HTL HLM HSN
        have u0 : W5.cell? ⟨w4.heap.size, 0, none⟩ = some (.slice so sn sc) := HT5.out.box.cell 0 rfl
        have HCT := Lib.hid (show Calls Tryz.prog 6 #[.slice so sn sc] W5 fun e w' => e = .returned (.int .i64 ((prodN sh : Nat) : Int)) ∧ Same W5 w' from by
          have := ref6Count_any _ (ints sh) W5 HT5.out.sh (shape_all HP.out.1) (shape_len HP.out.1)
          rwa [cnt_good HP.out.1, prodL_ints] at this)
        obtain ⟨p, hp⟩ : ∃ p, p = prodN sh := ⟨_, rfl⟩
        have HPP := Lib.hid hp
        rw [← hp] at HCT
        clear hp
        go_wp2_with (go_at_call 6; refine HCT.out.mono ?_; rintro e w6 ⟨rfl, hsm⟩; refine stopHere ?_)
        have HT6 := Lib.hid (HT5.out.next (hsm.below _))
        have HB6 := Lib.hid (HB5.out.trans (hsm.below _))
        clear hsm HCT u0
        obtain ⟨W7, hW7⟩ : ∃ W7, W7 = w6.alloc (.cells #[.int .i64 (p : Int)] 3) := ⟨_, rfl⟩
        have HX7 := Lib.hid (one_box w6 _ _ hW7)
        have HT7 := Lib.hid (HT6.out.next HX7.out.2)
        have HB7 := Lib.hid (HB6.out.trans (HX7.out.2.mono HB6.out.size))
        have HW7 := Lib.hid hW7
        clear hW7
        refine goOn ?_
        go_upto_region 9 with fail
        rw [← HW7.out]
        clear HW7
        have HPL := Lib.hid (show shapeB (ints [p]) = true ∧ prodN [p] = prodN sh ∧ da.length = p by
          have h1 := HLN.out
          have h2 := HPP.out
          have h3 := HP.out.2
          refine ⟨shape_flat (by omega) (by have : da.length = prodN sh := h3; omega), by simp [prodN]; exact h2, by rw [h2]; exact h3⟩)
        have HFI := Lib.hid (rd_box1 HX7.out.1)
        have hw6 : w6.heap.size < W7.heap.size := HX7.out.1.lt
        have u0 : W7.cell? ⟨w4.heap.size, 0, none⟩ = some (.slice so sn sc) := HT7.out.box.cell 0 rfl
        have u1 : W7.cell? ⟨w4.heap.size, 1, none⟩ = some (.slice qo qn qc) := HT7.out.box.cell 1 rfl
        have hgl : w4.heap.size < W7.heap.size := HT7.out.box.lt
        obtain ⟨X9, hX9⟩ : ∃ X, X = (W7.alloc (.cells #[.int .i64 0] 3)).alloc (.cells #[.slice so sn sc, .slice qo qn qc] 36) := ⟨_, rfl⟩
        have HAW := Lib.hid (ask_world HT7.out hX9)
        have HBX := Lib.hid (HB7.out.trans (HAW.out.2.2.mono HB7.out.size))
        have HXE := Lib.hid hX9
        clear hX9
        have HCL := Lib.hid (call19 8 (some ⟨w6.heap.size, 0, none⟩) (some ⟨W7.heap.size + 1, 0, none⟩) W7.heap.size 0 1 1 1 1 ⟨ints sh, da⟩ sh [p] X9 HAW.out.2.1 rfl HG.out HAW.out.1 (HFI.out.below HAW.out.2.2 (Nat.le_refl _)) HPL.out.1 HPL.out.2.1 (by decide))
        go_wp2_with (go_at_call 7; rw [← HXE.out]; refine HCL.out.mono ?_; rintro e wy ⟨hby, va, vb, rfl, hva, hvb⟩; refine stopHere ?_)
        obtain ⟨ao, an, ac, ao2, an2, ac2, rfl, rfl, htn⟩ := seen_box hby hva hvb
        obtain ⟨W9, hW9⟩ : ∃ X, X = wy.alloc (.cells #[.slice ao an ac, .slice ao2 an2 ac2] 36) := ⟨_, rfl⟩
        rw [← hW9] at htn
        have HTW9 := Lib.hid htn
        have hbo : Below W7.heap.size W7 W9 := by rw [hW9]; exact below_st_alloc (HAW.out.2.2.trans (hby.mono HAW.out.2.2.size)) (Nat.le_refl _)
        have HBW9 := Lib.hid (HB7.out.trans (hbo.mono HB7.out.size))
        have HLEW9 := Lib.hid (hbo)
        have HT9 := Lib.hid (HT7.out.next hbo)
        obtain ⟨gW9, hgW9⟩ : ∃ g, g = wy.heap.size := ⟨_, rfl⟩
        have HE := Lib.hid hW9
        refine goOn ?_
        go_upto_region 10 with fail
        rw [← HE.out, ← hgW9]
        rw [← hgW9] at HTW9
        clear hby hva hvb htn hbo hgW9 hW9 HAW HBX HXE HCL HE u0 u1 hgl
        have u0 : W9.cell? ⟨gW9, 0, none⟩ = some (.slice ao an ac) := HTW9.out.box.cell 0 rfl
        have u1 : W9.cell? ⟨gW9, 1, none⟩ = some (.slice ao2 an2 ac2) := HTW9.out.box.cell 1 rfl
        have hgl : gW9 < W9.heap.size := HTW9.out.box.lt
        have x0 : W9.cell? ⟨w4.heap.size, 0, none⟩ = some (.slice so sn sc) := HT9.out.box.cell 0 rfl
        have hgl9 : w4.heap.size < W9.heap.size := HT9.out.box.lt
        obtain ⟨X10, hX10⟩ : ∃ X, X = (W9.alloc (.cells #[.int .i64 0] 3)).alloc (.cells #[.slice ao an ac, .slice ao2 an2 ac2] 36) := ⟨_, rfl⟩
        have HAW := Lib.hid (ask_world HTW9.out hX10)
        have HBX := Lib.hid (HBW9.out.trans (HAW.out.2.2.mono HBW9.out.size))
        have HXE := Lib.hid hX10
        clear hX10
        have HCL := Lib.hid (call19 8 so (some ⟨W9.heap.size + 1, 0, none⟩) W9.heap.size 0 sn 1 sc 1 ⟨ints [p], da⟩ [p] sh X10 HAW.out.2.1 rfl (tens_mk HPL.out.1 (by rw [HPL.out.2.2, prodN, prodN, Nat.mul_one]) (tens_words HG.out)) HAW.out.1 (HT9.out.sh.below HAW.out.2.2 (Nat.le_refl _)) HP.out.1 HPL.out.2.1.symm (by decide))
        go_wp2_with (go_at_call 7; rw [← HXE.out]; refine HCL.out.mono ?_; rintro e wy ⟨hby, va, vb, rfl, hva, hvb⟩; refine stopHere ?_)
        obtain ⟨bo, bn, bc, bo2, bn2, bc2, rfl, rfl, htn⟩ := seen_box hby hva hvb
        obtain ⟨W11, hW11⟩ : ∃ X, X = wy.alloc (.cells #[.slice bo bn bc, .slice bo2 bn2 bc2] 36) := ⟨_, rfl⟩
        rw [← hW11] at htn
        have HTW11 := Lib.hid htn
        have hbo : Below W9.heap.size W9 W11 := by rw [hW11]; exact below_st_alloc (HAW.out.2.2.trans (hby.mono HAW.out.2.2.size)) (Nat.le_refl _)
        have HBW11 := Lib.hid (HBW9.out.trans (hbo.mono HBW9.out.size))
        have HLEW11 := Lib.hid (hbo)
        have HT11 := Lib.hid (HT9.out.next hbo)
        obtain ⟨gW11, hgW11⟩ : ∃ g, g = wy.heap.size := ⟨_, rfl⟩
        have HE := Lib.hid hW11
        refine goOn ?_
        go_upto_region 11 with fail
        rw [← HE.out, ← hgW11]
        rw [← hgW11] at HTW11
        clear hby hva hvb htn hbo hgW11 hW11 HAW HBX HXE HCL HE u0 u1 hgl
        clear x0 hgl9
        have u0 : W11.cell? ⟨gW11, 0, none⟩ = some (.slice bo bn bc) := HTW11.out.box.cell 0 rfl
        have u1 : W11.cell? ⟨gW11, 1, none⟩ = some (.slice bo2 bn2 bc2) := HTW11.out.box.cell 1 rfl
        have x0 : W11.cell? ⟨w4.heap.size, 0, none⟩ = some (.slice so sn sc) := HT11.out.box.cell 0 rfl
        have x1 : W11.cell? ⟨w4.heap.size, 1, none⟩ = some (.slice qo qn qc) := HT11.out.box.cell 1 rfl
        have HEQ := Lib.hid (eqTensor_yes _ _ _ _ ⟨ints sh, da⟩ W11 HTW11.out.sh HTW11.out.da HT11.out.sh HT11.out.da (tens_lim HG.out))
        go_wp2_with (first | (go_at_call 8; refine (num18_any _ _).mono ?_; rintro e w' ⟨rfl, rfl⟩) | (go_at_call 9; refine HEQ.out.mono ?_; rintro e w12 ⟨rfl, hbo⟩; refine stopHere ?_))
        have HTw12 := Lib.hid (HT11.out.next hbo)
        have HBw12 := Lib.hid (HBW11.out.trans (hbo.mono HBW11.out.size))
        clear hbo u0 u1 x0 x1 HEQ
        refine goOn ?_
        have hsn4 : sn ≤ 4 := by have := HLN.out; omega
        have hws : IntKind.i64.wrap ((sn : Int) - 1) = (sn : Int) - 1 := IntWalk.i64_in _ (by omega)
        go_wp2_with fail
        clear hws
        go_loopw [14, 15] (fun v i wr => ∃ (j : Nat) (o7 : Option Addr) (c7 : Nat), j ≤ sn ∧ i = .int .i64 ((sn : Int) - 1 - j) ∧ v = .slice o7 j c7 ∧ Hid (wr.ownsRow w12.heap.size 3 1 (.slice o7 j c7) j (((ints (backN sn)).take j).map (.int .i64)) ∧ Below w12.heap.size w12 wr)) (fun _ i _ => (intOf i + 1).toNat)
        case atStart => exact ⟨0, none, 0, Nat.zero_le _, by simp, rfl, Lib.hid ⟨World.ownsRow_nil _ _ _ _, Below.refl _ _⟩⟩
        case round =>
          obtain ⟨j, o7, c7, hj, rfl, rfl, HO⟩ := hrel
          obtain ⟨w13, rfl⟩ : ∃ w13, w13 = wr := ⟨_, rfl⟩
          by_cases hjl : j < sn
          · have hge : decide ((0 : Int) ≤ (sn : Int) - 1 - j) = true := decide_eq_true (by omega)
            obtain ⟨q, hq⟩ : ∃ q : Int, q = (sn : Int) - 1 - j := ⟨_, rfl⟩
            have HQ := Lib.hid (show ((sn - 1 - j : Nat) : Int) = q by omega)
            have HQ2 := Lib.hid hq
            have hqr : 0 ≤ q ∧ q ≤ 4 := by omega
            obtain ⟨hq0, hq1⟩ := hqr
            have hwq : IntKind.i64.wrap (q - 1) = q - 1 := IntWalk.i64_in _ (by omega)
            rw [← hq] at hge ⊢
            clear hq
            go_wp2_with (at_builtin; refine wpList_append_own _ rfl _ _ 23 rfl w12.heap.size 3 i0 (.int .i64 0) 1 8 Tryz.underlying23 HI.out hI0 hI1 hI2 rfl (by decide) _ _ _ rfl (HO.out.1.alloc _) ⟨w13.heap.size, 0, none⟩ 1 1 [.int .i64 q] rfl rfl (cell_one_new _ _ _) (by simp [Value.oneCell']) (by unfold maxLen; omega) (by omega) (by have := HO.out.2.size; simp; omega) ?_; intro v' w14 hown' hgrow _; refine stopHere ?_)
            have HV := Lib.hid (And.intro hown' (below_append HO.out.2 (by omega) HO.out.1 hgrow))
            clear hown' hgrow
            obtain ⟨o9, c9, rfl⟩ := own_slice HV.out.1
            refine goOn ?_
            go_wp2_with fail
            go_roundw
            case rel => exact ⟨j + 1, o9, c9, by omega, by have := HQ2.out; congr 1; omega, rfl, Lib.hid ⟨by rw [back_succ sn j hjl, List.map_append, HQ.out]; exact HV.out.1, HV.out.2⟩⟩
            case measure => simp [intOf]; omega
          · obtain rfl : j = sn := by omega
            have HOW := Lib.hid (show Rd w13 .i64 (.slice o7 j c7) (ints (backN j)) ∧ Below w12.heap.size w12 w13 by
              refine ⟨?_, HO.out.2⟩
              have h1 := HO.out.1
              rw [List.take_of_length_le (by rw [back_len]; exact Nat.le_refl _)] at h1
              exact Rd.of_own h1)
            have HT13 := Lib.hid (HTw12.out.next HOW.out.2)
            have HB13 := Lib.hid (HBw12.out.trans (HOW.out.2.mono HBw12.out.size))
            have hge : decide ((0 : Int) ≤ (j : Int) - 1 - j) = false := decide_eq_false (by omega)
            go_upto_region 18 with fail
            clear HO hge hjl
            have HNJ := Lib.hid (show j = sh.length from HLN.out.1)
            have HAX := Lib.hid (show Rd w13 .i64 (.slice o7 j c7) (ints (backN sh.length)) by rw [← HNJ.out]; exact HOW.out.1)
            have u0 : w13.cell? ⟨w4.heap.size, 0, none⟩ = some (.slice so j sc) := HT13.out.box.cell 0 rfl
            have u1 : w13.cell? ⟨w4.heap.size, 1, none⟩ = some (.slice qo qn qc) := HT13.out.box.cell 1 rfl
            have hgl : w4.heap.size < w13.heap.size := HT13.out.box.lt
            obtain ⟨X18, hX18⟩ : ∃ X, X = (w13.alloc (.cells #[.int .i64 0] 3)).alloc (.cells #[.slice so j sc, .slice qo qn qc] 36) := ⟨_, rfl⟩
            have HAW := Lib.hid (ask_world HT13.out hX18)
            have HBX := Lib.hid (HB13.out.trans (HAW.out.2.2.mono HB13.out.size))
            have HXE := Lib.hid hX18
            clear hX18
            have HCL := Lib.hid (call20 8 o7 (some ⟨w13.heap.size + 1, 0, none⟩) w13.heap.size 0 j 1 c7 1 ⟨ints sh, da⟩ sh X18 HAW.out.2.1 rfl HG.out HAW.out.1 (HAX.out.below HAW.out.2.2 (Nat.le_refl _)) (by decide))
            go_wp2_with (go_at_call 7; rw [← HXE.out]; refine HCL.out.mono ?_; rintro e wy ⟨hby, va, vb, rfl, hva, hvb⟩; refine stopHere ?_)
            obtain ⟨co, cn, cc, co2, cn2, cc2, rfl, rfl, htn⟩ := seen_box hby hva hvb
            obtain ⟨W18, hW18⟩ : ∃ X, X = wy.alloc (.cells #[.slice co cn cc, .slice co2 cn2 cc2] 36) := ⟨_, rfl⟩
            rw [← hW18] at htn
            have HTW18 := Lib.hid htn
            have hbo : Below w13.heap.size w13 W18 := by rw [hW18]; exact below_st_alloc (HAW.out.2.2.trans (hby.mono HAW.out.2.2.size)) (Nat.le_refl _)
            have HBW18 := Lib.hid (HB13.out.trans (hbo.mono HB13.out.size))
            have HLEW18 := Lib.hid (hbo)
            have HT18 := Lib.hid (HT13.out.next hbo)
            obtain ⟨gW18, hgW18⟩ : ∃ g, g = wy.heap.size := ⟨_, rfl⟩
            have HE := Lib.hid hW18
            refine goOn ?_
            go_upto_region 19 with fail
            rw [← HE.out, ← hgW18]
            rw [← hgW18] at HTW18
            clear hby hva hvb htn hbo hgW18 hW18 HAW HBX HXE HCL HE u0 u1 hgl
            have HAX2 := Lib.hid (HAX.out.below HLEW18.out (Nat.le_refl _))
            have u0 : W18.cell? ⟨gW18, 0, none⟩ = some (.slice co cn cc) := HTW18.out.box.cell 0 rfl
            have u1 : W18.cell? ⟨gW18, 1, none⟩ = some (.slice co2 cn2 cc2) := HTW18.out.box.cell 1 rfl
            have hgl : gW18 < W18.heap.size := HTW18.out.box.lt
            obtain ⟨X19, hX19⟩ : ∃ X, X = (W18.alloc (.cells #[.int .i64 0] 3)).alloc (.cells #[.slice co cn cc, .slice co2 cn2 cc2] 36) := ⟨_, rfl⟩
            have HAW := Lib.hid (ask_world HTW18.out hX19)
            have HBX := Lib.hid (HBW18.out.trans (HAW.out.2.2.mono HBW18.out.size))
            have HXE := Lib.hid hX19
            clear hX19
            have HCL := Lib.hid (call20 8 o7 (some ⟨W18.heap.size + 1, 0, none⟩) W18.heap.size 0 j 1 c7 1 ⟨ints sh.reverse, copyN sh.reverse (stepsN sh).reverse 0 da⟩ sh.reverse X19 HAW.out.2.1 rfl (tens_back HG.out) HAW.out.1 (by rw [List.length_reverse]; exact HAX2.out.below HAW.out.2.2 (Nat.le_refl _)) (by decide))
            go_wp2_with (go_at_call 7; rw [← HXE.out]; refine HCL.out.mono ?_; rintro e wy ⟨hby, va, vb, rfl, hva, hvb⟩; refine stopHere ?_)
            obtain ⟨do_, dn, dc, do2, dn2, dc2, rfl, rfl, htn⟩ := seen_box hby hva hvb
            obtain ⟨W19, hW19⟩ : ∃ X, X = wy.alloc (.cells #[.slice do_ dn dc, .slice do2 dn2 dc2] 36) := ⟨_, rfl⟩
            rw [← hW19] at htn
            have HTW19 := Lib.hid htn
            have hbo : Below W18.heap.size W18 W19 := by rw [hW19]; exact below_st_alloc (HAW.out.2.2.trans (hby.mono HAW.out.2.2.size)) (Nat.le_refl _)
            have HBW19 := Lib.hid (HBW18.out.trans (hbo.mono HBW18.out.size))
            have HLEW19 := Lib.hid (hbo)
            have HT19 := Lib.hid (HT18.out.next hbo)
            obtain ⟨gW19, hgW19⟩ : ∃ g, g = wy.heap.size := ⟨_, rfl⟩
            have HE := Lib.hid hW19
            refine goOn ?_
            go_upto_region 20 with fail
            rw [← HE.out, ← hgW19]
            rw [← hgW19] at HTW19
            clear hby hva hvb htn hbo hgW19 hW19 HAW HBX HXE HCL HE u0 u1 hgl
            have HTD := Lib.hid (show TBox W19 gW19 do_ dn dc do2 dn2 dc2 ⟨ints sh, da⟩ by
              have := HTW19.out
              rw [List.reverse_reverse, copy_turn sh da (fun d hd => ((dims_good HP.out.1).1 d hd).1) HP.out.2] at this
              exact this)
            have u0 : W19.cell? ⟨gW19, 0, none⟩ = some (.slice do_ dn dc) := HTD.out.box.cell 0 rfl
            have u1 : W19.cell? ⟨gW19, 1, none⟩ = some (.slice do2 dn2 dc2) := HTD.out.box.cell 1 rfl
            have x0 : W19.cell? ⟨w4.heap.size, 0, none⟩ = some (.slice so j sc) := HT19.out.box.cell 0 rfl
            have x1 : W19.cell? ⟨w4.heap.size, 1, none⟩ = some (.slice qo qn qc) := HT19.out.box.cell 1 rfl
            have HEQ := Lib.hid (eqTensor_yes _ _ _ _ ⟨ints sh, da⟩ W19 HTD.out.sh HTD.out.da HT19.out.sh HT19.out.da (tens_lim HG.out))
            go_wp2_with (first | (go_at_call 8; refine (num18_any _ _).mono ?_; rintro e w' ⟨rfl, rfl⟩) | (go_at_call 9; refine HEQ.out.mono ?_; rintro e w20 ⟨rfl, hbo⟩; refine stopHere ?_))
            have HTw20 := Lib.hid (HT19.out.next hbo)
            have HBw20 := Lib.hid (HBW19.out.trans (hbo.mono HBW19.out.size))
            clear hbo u0 u1 x0 x1 HEQ
            refine goOn ?_
            have x0 : w20.cell? ⟨w4.heap.size, 0, none⟩ = some (.slice so j sc) := HTw20.out.box.cell 0 rfl
            by_cases hj0 : j = 0
            case pos =>
              have hz4 : ((j : Int) == 0) = true := by simp; exact hj0
              clear hj0
              go_wp2_with fail
              go_roundw
              case rel => exact ⟨k + 1, by omega, by go_num, HBw20⟩
              case measure => simp [intOf]; omega
            have hz4 : ((j : Int) == 0) = false := by simp; exact hj0
            have hjp : 0 < j := by omega
            obtain ⟨d, r, hdr⟩ : ∃ d r, sh = d :: r := by
              cases sh with
              | nil => exact absurd HNJ.out (by simp; omega)
              | cons d r => exact ⟨d, r, rfl⟩
            subst hdr
            obtain ⟨bs, fs, hso, hc0⟩ := HTw20.out.sh.cell 0 (by simp [ints])
            subst hso
            have hc0 : w20.cell? ⟨bs, fs, none⟩ = some (.int .i64 (d : Int)) := by
              rw [Nat.add_zero] at hc0
              rw [hc0, show nth (ints (d :: r)) 0 = (d : Int) from rfl]
            by_cases hd2 : d < 2
            case pos =>
              go_wp2_with fail
              go_roundw
              case rel => exact ⟨k + 1, by omega, by go_num, HBw20⟩
              case measure => simp [intOf]; omega
            have HD2 := Lib.hid (show 2 ≤ d by omega)
            have HDM := Lib.hid (show d ≤ 4096 from ((dims_good HP.out.1).1 d (by simp)).2)
            go_upto_region 23 with fail
            clear x0 hz4 hc0 hj0 hd2 hjp
            have u0 : w20.cell? ⟨w4.heap.size, 0, none⟩ = some (.slice (some ⟨bs, fs, none⟩) j sc) := HTw20.out.box.cell 0 rfl
            have u1 : w20.cell? ⟨w4.heap.size, 1, none⟩ = some (.slice qo qn qc) := HTw20.out.box.cell 1 rfl
            have hgl : w4.heap.size < w20.heap.size := HTw20.out.box.lt
            obtain ⟨X23, hX23⟩ : ∃ X, X = ((w20.alloc (.cells #[.int .i64 0] 3)).alloc (.cells #[.int .i64 0, .int .i64 0, .int .i64 1] 3)).alloc (.cells #[.slice (some ⟨bs, fs, none⟩) j sc, .slice qo qn qc] 36) := ⟨_, rfl⟩
            have HAW := Lib.hid (three_box w20 _ _ _ _ _ _ hX23)
            have HTX := Lib.hid (show TBox X23 (w20.heap.size + 2) (some ⟨bs, fs, none⟩) j sc qo qn qc ⟨ints (d :: r), da⟩ from ⟨HAW.out.2.2.1, (HTw20.out.next HAW.out.2.2.2).sh, (HTw20.out.next HAW.out.2.2.2).da⟩)
            have HXE := Lib.hid hX23
            clear hX23
            have HCL := Lib.hid (call21 8 (some ⟨w20.heap.size + 1, 0, none⟩) (some ⟨w20.heap.size + 2, 0, none⟩) w20.heap.size 0 1 3 1 ⟨ints (d :: r), da⟩ d r 0 1 X23 HTX.out.row rfl HG.out (HAW.out.1.cell 0 rfl) (rd_box3 HAW.out.2.1) (by omega) (by have := HD2.out; omega) (by rw [Nat.zero_mul]; exact view_one HP.out.1) (by decide))
            go_wp2_with (go_at_call 7; rw [← HXE.out]; refine HCL.out.mono ?_; rintro e wy ⟨hby, va, vb, rfl, hva, hvb⟩; refine stopHere ?_)
            obtain ⟨xo, xn, xc, xo2, xn2, xc2, rfl, rfl, htn⟩ := seen_box hby hva hvb
            obtain ⟨W23, hW23⟩ : ∃ X, X = wy.alloc (.cells #[.slice xo xn xc, .slice xo2 xn2 xc2] 36) := ⟨_, rfl⟩
            rw [← hW23] at htn
            have HTX23 := Lib.hid htn
            have hbo : Below w20.heap.size w20 W23 := by rw [hW23]; exact below_st_alloc (HAW.out.2.2.2.trans (hby.mono HAW.out.2.2.2.size)) (Nat.le_refl _)
            have HBW23 := Lib.hid (HBw20.out.trans (hbo.mono HBw20.out.size))
            have HT23 := Lib.hid (HTw20.out.next hbo)
            obtain ⟨gx, hgx⟩ : ∃ g, g = wy.heap.size := ⟨_, rfl⟩
            have HE := Lib.hid hW23
            refine goOn ?_
            go_upto_region 24 with fail
            rw [← HE.out, ← hgx]
            rw [← hgx] at HTX23
            clear hby hva hvb htn hbo hgx hW23 HAW HXE HCL HE u0 u1 hgl HTX
            obtain ⟨w23, rfl⟩ : ∃ w23, w23 = W23 := ⟨_, rfl⟩
            have HC24 := Lib.hid (show w23.cell? ⟨w4.heap.size, 0, none⟩ = some (.slice (some ⟨bs, fs, none⟩) j sc) ∧ w23.cell? ⟨w4.heap.size, 1, none⟩ = some (.slice qo qn qc) ∧ w23.cell? ⟨bs, fs, none⟩ = some (.int .i64 (d : Int)) from ⟨HT23.out.box.cell 0 rfl, HT23.out.box.cell 1 rfl, by
              obtain ⟨b', f', he, hc⟩ := HT23.out.sh.cell 0 (by simp [ints])
              cases he
              rw [Nat.add_zero] at hc
              rw [hc, show nth (ints (d :: r)) 0 = (d : Int) from rfl]⟩)
            have hbs : bs < w23.heap.size := cell_lt HC24.out.2.2
            have hg4 : w4.heap.size < w23.heap.size := HT23.out.box.lt
            have HJ0 := Lib.hid HNJ.out
            have hjp : 0 < j := by have := HJ0.out; simp at this; omega
            have hjp2 : (0 : Int) < (j : Int) := by omega
            have HCL := Lib.hid (show ∀ X ba bi bt, Below w23.heap.size w23 X → Box X ba 3 #[.int .i64 0] → Box X bi 3 #[.int .i64 0, .int .i64 1, .int .i64 (d : Int)] → Box X bt 36 #[.slice (some ⟨bs, fs, none⟩) j sc, .slice qo qn qc] →
                Calls Tryz.prog 7 #[.agg #[.int .i64 21, .slice (some ⟨ba, 0, none⟩) 1 1, .slice (some ⟨bi, 0, none⟩) 3 3, .int .i64 0, .slice none 0 0, .slice none 0 0, .slice none 0 0, .slice none 0 0], .slice (some ⟨bt, 0, none⟩) 1 1, .int .i64 8] X (SeenOut X (ints ((d - 1) :: r)) (copyN ((d - 1) :: r) (stepsN (d :: r)) (prodN r) da)) from fun X ba bi bt hX h1 h2 h3 => by
              have := call21 8 (some ⟨bi, 0, none⟩) (some ⟨bt, 0, none⟩) ba 0 1 3 1 ⟨ints (d :: r), da⟩ d r 1 d X (TBox.row ⟨h3, (HT23.out.next hX).sh, (HT23.out.next hX).da⟩) rfl HG.out (h1.cell 0 rfl) (rd_box3 h2) (by have := HD2.out; omega) (Nat.le_refl _) (by rw [Nat.one_mul]; exact view_rest HD2.out HP.out.1) (by decide)
              rwa [Nat.one_mul] at this)
            have HXW := Lib.hid (Below.refl w23.heap.size w23)
            obtain ⟨YS, hYS⟩ : ∃ l, l = ints ((d - 1) :: r) := ⟨_, rfl⟩
            obtain ⟨YD, hYD⟩ : ∃ l, l = copyN ((d - 1) :: r) (stepsN (d :: r)) (prodN r) da := ⟨_, rfl⟩
            rw [← hYS, ← hYD] at HCL
            have HYD := Lib.hid hYD
            clear hYS hYD
            go_cut [25, 27] (fun s25 s27 wx => ∃ g yo yn yc yo2 yn2 yc2, s25 = .pointer (some ⟨g, 0, none⟩) ∧ s27 = .int .i64 0 ∧ TenEnd w23 wx (.slice yo yn yc) (.slice yo2 yn2 yc2) g YS YD)
            case first =>
              refine Code.wp_mono onlyNV_out2 ?_
              refine views_r24 w23 w4.heap.size bs fs j sc qn qc d qo YS YD _ _ _ _ _ _ _ _ _ _ _ _ _ _ _ _ _ _ _ _ _ _ _ _ _ _ _ _ _ _ _ _ _ _ _ _ _ _ _ _ _ _ _ _ _ _ _ _ _ _ _ _ _ _ _ _ _ _ _ _ _ _ _ _ _ _ _ _ _ _ _ _ _ _ _ _ _ _ _ _ _ _ _ _ _ _ _ _ _ _ _ _ _ _ _ _ _ _ _ _ _ _ _ _ _ _ _ _ _ _ _ _ _ _ _ _ _ _ _ _ _ _ _ _ _ _ _ _ _ _ _ _ _ _ _ _ _ _ _ _ _ _ _ _ _ _ _ _ _ _ _ _ _ _ _ _ _ _ _ _ _ _ _ _ _ _ _ _ _ _ _ _ _ _ _ _ _ _ _ _ _ _ _ _ _ _ _ _ _ _ _ _ _ _ _ _ _ _ _ _ _ HC24.out hjp HCL.out _ ?_
              intro t26 t167 t168 t169 t170 t171 t172 t173 t174 t175 t176 t177 t178 t179 t180 g yo yn yc yo2 yn2 yc2 w7 hte
              have HTE := Lib.hid hte
              clear hte
              dsimp only
              go_wp2_with fail
              go_meet
              exact ⟨g, yo, yn, yc, yo2, yn2, yc2, rfl, rfl, HTE.out⟩
            case rest =>
              obtain ⟨gy, yo, yn, yc, yo2, yn2, yc2, rfl, rfl, hTE⟩ := hcut
              obtain ⟨w24, rfl⟩ : ∃ w24, w24 = wc := ⟨_, rfl⟩
              have HTY := Lib.hid hTE.tbox
              have HT24 := Lib.hid (HT23.out.next hTE.low)
              have HTX24 := Lib.hid (HTX23.out.next hTE.low)
              have HB24 := Lib.hid (HBW23.out.trans (hTE.low.mono HBW23.out.size))
              clear hTE HC24 HCL HXW hbs hg4 hjp hjp2
              obtain ⟨XD, hXD⟩ : ∃ l, l = copyN (1 :: r) (stepsN (d :: r)) 0 da := ⟨_, rfl⟩
              have HXD := Lib.hid (show Rd w24 .i64 (.slice xo2 xn2 xc2) XD ∧ XD ++ YD = da ∧ XD.length ≤ 40 ∧ YD.length ≤ 40 by
                have h1 := HTX24.out.da
                rw [Nat.zero_mul] at h1
                have h2 := copy_parts d r da (fun x hx => ((dims_good HP.out.1).1 x hx).1) HD2.out HP.out.2
                rw [← hXD, ← HYD.out] at h2
                have h3 := congrArg List.length h2
                rw [List.length_append] at h3
                have h4 := HLN.out
                exact ⟨hXD ▸ h1, h2, by omega, by omega⟩)
              clear hXD
              have HC25 := Lib.hid (show w24.cell? ⟨gx, 1, none⟩ = some (.slice xo2 xn2 xc2) ∧ w24.cell? ⟨gy, 1, none⟩ = some (.slice yo2 yn2 yc2) ∧ w24.cell? ⟨w4.heap.size, 1, none⟩ = some (.slice qo qn qc) from ⟨HTX24.out.box.cell 1 rfl, HTY.out.box.cell 1 rfl, HT24.out.box.cell 1 rfl⟩)
              obtain ⟨i1, hj1, hy0, hy1, hy2⟩ := info_parts info_int64V
              have HZ1 := Lib.hid (And.intro hj1 (And.intro hy0 (And.intro hy1 hy2)))
              have HXW := Lib.hid (Below.refl w24.heap.size w24)
              clear hj1 hy0 hy1 hy2
              go_upto_region 25 with fail
              go_cut [200] (fun s wx => s = .bool false ∧ Below w24.heap.size w24 wx)
              case first =>
                go_region_held3 (fun w' => w'.cell? ⟨gx, 1, none⟩ = some (.slice xo2 xn2 xc2) ∧ w'.cell? ⟨gy, 1, none⟩ = some (.slice yo2 yn2 yc2) ∧ w'.cell? ⟨w4.heap.size, 1, none⟩ = some (.slice qo qn qc))
                  ((refine keep3W HC25.out ?_; (repeat (first | with_reducible exact HXW.out | with_reducible exact Below.refl _ _ | with_reducible refine Below.drew ?_))))
                  ((first
                  | (go_at_call 8; refine (num18_any _ _).mono ?_; rintro e w' ⟨rfl, rfl⟩)
                  | (go_at_call 11; refine (copyWords_any _ XD _ (HXD.out.1.below (show Below w24.heap.size w24 _ from (by repeat (first | with_reducible exact HXW.out | with_reducible exact Below.refl _ _ | with_reducible refine Below.drew ?_))) (Nat.le_refl _)) (by have := HXD.out.2.2.1; omega)).mono ?_; rintro e wz ⟨vz, rfl, hoz, hbz⟩; obtain ⟨az, kz, rfl⟩ := own_slice hoz; have HOX := Lib.hid hoz; have HXW := Lib.hid (show Below w24.heap.size w24 wz from (show Below w24.heap.size w24 _ from (by repeat (first | with_reducible exact HXW.out | with_reducible exact Below.refl _ _ | with_reducible refine Below.drew ?_))).trans (hbz.mono (by first | exact Nat.le_refl _ | (simp; done)))); have HSZ := Lib.hid hbz.size; clear hoz hbz)
                  | (refine step_append_rdgV rfl (.tmp 192) (.tmp 194) 34 rfl _ 2 .i64 i1 8 Tryz.underlying34 HZ1.out.1 HZ1.out.2.1 HZ1.out.2.2.1 HZ1.out.2.2.2 _ XD rfl HOX.out _ YD rfl (HTY.out.da.below HXW.out (Nat.le_refl _)) (by have := HXD.out; unfold maxLen; omega) (by have := HXD.out; omega) HSZ.out ?_; intro va wa hoa hga hata; have HXW := Lib.hid (HXW.out.trans (below_grownV HOX.out hga (by first | exact Nat.le_refl _ | (simp; done) | (have := HSZ.out; have := HXW.out.size; simp at *; omega)) HSZ.out)); rw [HXD.out.2.1] at hoa; obtain ⟨aa, ka, rfl⟩ := own_slice hoa; have HAX := Lib.hid hoa; clear hoa hga hata)
                  | (go_at_call 10; refine (eqW_yes _ _ da _ (Rd.of_own HAX.out) (HT24.out.da.below HXW.out (Nat.le_refl _)) (by have := HLN.out; omega)).mono ?_; rintro e we ⟨rfl, hsm⟩; have HXW := Lib.hid (HXW.out.trans (hsm.below _)); clear hsm)))
                all_goals (go_wp2_with fail; go_meet; exact ⟨rfl, HXW.out⟩)
              case rest =>
                obtain ⟨rfl, hb⟩ := hcut
                obtain ⟨w25, rfl⟩ : ∃ w25, w25 = wc := ⟨_, rfl⟩
                have HB25 := Lib.hid (HB24.out.trans (hb.mono HB24.out.size))
                clear hb
                go_wp2_with fail
                go_roundw
                case rel => exact ⟨k + 1, by omega, by go_num, HB25⟩
                case measure => simp [intOf]; omega
end Go.Proofs.YtipjhdgegfgenaaGreat
