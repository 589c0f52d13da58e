/-
  THE REFERENCE'S Encode OF A DATASET: the same bytes.
-/
import Derived.Test.YtjhejpeklppmbaaEncode
import Derived.Test.YtjhejpeklppmbaaSetRef
set_option linter.unusedVariables false
set_option linter.unusedSimpArgs false
namespace Go.Proofs.Ytjhejpeklppmbaa
open Go.RowKit Go.Shelf
set_option maxRecDepth 100000 in
set_option maxHeartbeats 2000000 in
theorem ref30Encode_any (a b c d : Value) (s : SetD) (w : World) (hr : RdSet w a b c d s) (hg : goodSet s = true) (hl : LimSet s) :
    Calls Try.prog 34 #[.agg #[a, b, c, d]] w fun e w' => ∃ v, e = .returned v ∧ OwnI w' w.heap.size 5 .u8 v (encSet s) ∧ Below w.heap.size w w' := by
  obtain ⟨o1, cap1, he1⟩ := rd_slice hr.sh
  obtain ⟨o2, cap2, he2⟩ := rd_slice hr.x
  obtain ⟨o3, cap3, he3⟩ := rd_slice hr.lb
  obtain ⟨o4, cap4, he4⟩ := rd_slice hr.y
  subst he1 he2 he3 he4
  have hl1 := hl.sh
  have hl2 := hl.x
  have hl3 := hl.lb
  have hl4 := hl.y
  have HR := Lib.hid hr
  have HL := Lib.hid hl
  obtain ⟨g1, g2, g3, g4, g5, g6, g7, g8, g9, g10⟩ := goodSet_parts hg
  have HS := Lib.hid g1
  obtain ⟨n, hn⟩ : ∃ n, n = countS s := ⟨_, rfl⟩
  have g4' := g4
  rw [← hn] at g4 g5
  have HN := Lib.hid hn
  have HG4 := Lib.hid g4'
  have HG9 := Lib.hid g9
  have HG10 := Lib.hid g10
  clear hr hl hg g1 g6 g7 g8 g9 g10 hn g4'
  have kc := fun (w : World) (C : Array Value) (n c : Nat) => Lib.run_convert_bytes_const (P := Try.prog) w 23 5 C n c Try.underlying23 Try.underlying5
  obtain ⟨i0, hi, hz0, hz1, hz2'⟩ := info_parts info_u8
  have kc' := kc (w.alloc (.cells #[.slice o1 s.sh.length cap1, .slice o2 s.x.length cap2, .slice o3 s.lb.length cap3, .slice o4 s.y.length cap4] 35)) #[.int .u8 82, .int .u8 83, .int .u8 69, .int .u8 84] 4 4
  rw [World.size_alloc] at kc'
  clear kc
  go_enter Try.func34, Try.ntmps34
  go_wp2_with (at_builtin; refine wpList_append_grows _ rfl _ _ 23 rfl 5 i0 (.int .u8 0) 1 1 Try.underlying23 hi hz0 hz1 hz2' rfl (by decide) (some ⟨w.heap.size + 1, 0, none⟩) 4 4 (([82, 83, 69, 84] : List Int).map (Value.int .u8)) rfl (fun h => by cases h) rfl (fun b hb => by cases hb; have h := cells_past (w.alloc (.cells #[.slice o1 s.sh.length cap1, .slice o2 s.x.length cap2, .slice o3 s.lb.length cap3, .slice o4 s.y.length cap4] 35)) (([82, 83, 69, 84] : List Int).map (Value.int .u8)) 5 (4, 5) (.cells ((([1, (s.sh.length : Int)] : List Int).map (Value.int .u8)).toArray) 5); rw [World.size_alloc] at h; exact h) ⟨w.heap.size + 1 + 1, 0, none⟩ 2 2 (([1, (s.sh.length : Int)] : List Int).map (Value.int .u8)) rfl rfl (by have h := cells_new ((w.alloc (.cells #[.slice o1 s.sh.length cap1, .slice o2 s.x.length cap2, .slice o3 s.lb.length cap3, .slice o4 s.y.length cap4] 35)).alloc (.cells ((([82, 83, 69, 84] : List Int).map (Value.int .u8)).toArray) 5 (4, 5))) (([1, (s.sh.length : Int)] : List Int).map (Value.int .u8)) 5 (0, 0); rw [World.size_alloc, World.size_alloc] at h; exact h) (by simp [Value.oneCell']) (by omega) (by unfold maxLen; omega) (by omega) ?_; intro v3 w3 hown3 hgrow3; refine stopHere ?_)
  refine goOn ?_
  obtain ⟨w2, hw2⟩ : ∃ w2, w2 = w.alloc (.cells #[.slice o1 s.sh.length cap1, .slice o2 s.x.length cap2, .slice o3 s.lb.length cap3, .slice o4 s.y.length cap4] 35) := ⟨_, rfl⟩
  rw [← hw2] at hown3 hgrow3
  have hB2 : Below w.heap.size w w2 := by rw [hw2]; exact (Below.refl _ _).alloc (Nat.le_refl _) _
  have hz2 : w.heap.size < w2.heap.size := by rw [hw2]; simp
  have HBX2 := Lib.hid (show Box w2 w.heap.size 35 #[.slice o1 s.sh.length cap1, .slice o2 s.x.length cap2, .slice o3 s.lb.length cap3, .slice o4 s.y.length cap4] by rw [hw2]; exact Box.new _ _ _)
  have HB2 := Lib.hid hB2
  have HR2 := Lib.hid (HR.out.below hB2 (Nat.le_refl _))
  have hB3 : Below w2.heap.size w2 w3 := ((((Below.refl w2.heap.size w2).alloc (Nat.le_refl _) _).alloc (by simp) _).trans ((grown_below hgrow3).mono (by simp; omega)))
  have HO := Lib.hid (show OwnI w3 w2.heap.size 5 .u8 v3 ([82, 83, 69, 84, 1, (s.sh.length : Int)] : List Int) from own_mono hown3 (by simp; omega))
  have HB := Lib.hid hB3
  clear hB3 hown3 hgrow3 kc' hi hz0 hz1 hz2' hB2 hw2
  have c0 := (HBX2.out.below HB.out hz2).cell 0 rfl
  have c1 := (HBX2.out.below HB.out hz2).cell 1 rfl
  have c2 := (HBX2.out.below HB.out hz2).cell 2 rfl
  have c3 := (HBX2.out.below HB.out hz2).cell 3 rfl
  go_wp2_with fail
  go_loopw [3, 4] (fun u i wr => ∃ k : Nat, k ≤ s.sh.length ∧ i = .int .i64 k ∧ OwnI wr w2.heap.size 5 .u8 u (([82, 83, 69, 84, 1, (s.sh.length : Int)] : List Int) ++ be4L (s.sh.take k)) ∧ Below w2.heap.size w2 wr) (fun _ i _ => s.sh.length - (intOf i).toNat)
  case atStart => exact ⟨0, Nat.zero_le _, rfl, by rw [List.take_zero]; simp only [be4L, List.flatMap_nil, List.append_nil]; exact HO.out, HB.out⟩
  case round =>
  obtain ⟨k, hk, rfl, hown, hBw⟩ := hrel
  obtain ⟨w4, rfl⟩ : ∃ w4 : World, w4 = wr := ⟨_, rfl⟩
  clear HO HB c0 c1 c2 c3
  have HO := Lib.hid hown
  have HB := Lib.hid hBw
  clear hown hBw
  have c0 := (HBX2.out.below HB.out hz2).cell 0 rfl
  have c1 := (HBX2.out.below HB.out hz2).cell 1 rfl
  have c2 := (HBX2.out.below HB.out hz2).cell 2 rfl
  have c3 := (HBX2.out.below HB.out hz2).cell 3 rfl
  by_cases hlt : k < s.sh.length
  · obtain ⟨b', off', he', hcell⟩ := HR2.out.sh.cell k hlt
    subst he'
    have hc' := (HB.out.cell (p := ⟨b', off' + k, none⟩) (cell_lt hcell)).trans hcell
    clear hcell
    go_wp2_with fail
    rw [u64N_eq']
    refine (four_any u3 _ (u64N (nth s.sh k)) w2.heap.size _ HO.out HB.out.size (u64N_lt _) (by simp only [List.length_append, be4L_length, be8L_length, beB_length, List.length_take, List.length_cons, List.length_nil]; omega)).mono ?_
    rintro e w4 ⟨v4, rfl, hown4, hB4⟩
    rw [List.append_assoc, ← be4L_succ _ _ hlt] at hown4
    have HO4 := Lib.hid hown4
    have HB4 := Lib.hid (HB.out.trans hB4)
    clear hown4 hB4 HO HB
    go_wp2
    go_roundw
    case rel => exact ⟨k + 1, by omega, by go_num, HO4.out, HB4.out⟩
    case measure => simp [intOf]; omega
  obtain rfl : k = s.sh.length := by omega
  rw [List.take_length] at HO
  clear hk
  go_wp2_with fail
  refine (ref30Count_any _ _ _ _ s _ (HR2.out.below HB.out (Nat.le_refl _)) HS.out HL.out).mono ?_
  rintro e w4' ⟨rfl, hB4⟩
  rw [← HN.out]
  have HO4 := Lib.hid (own_below HO.out hB4 (Nat.le_refl _))
  have HB4 := Lib.hid (HB.out.trans (hB4.mono HB.out.size))
  clear hB4 HO HB c0 c1 c2 c3
  go_wp2_with fail
  rw [show Value.int .u64 n = .int .u64 (u64N n : Nat) by rw [u64N_small n (by omega) (by omega)]]
  refine (four_any _ _ (u64N n) w2.heap.size _ HO4.out HB4.out.size (u64N_lt _) (by simp only [List.length_append, be4L_length, List.length_cons, List.length_nil]; omega)).mono ?_
  rintro e w5 ⟨v5, rfl, hown5, hB5⟩
  have HO5 := Lib.hid hown5
  have HB5 := Lib.hid (HB4.out.trans hB5)
  clear hown5 hB5 HO4 HB4
  have HB := HB5
  have c0 := (HBX2.out.below HB.out hz2).cell 0 rfl
  have c1 := (HBX2.out.below HB.out hz2).cell 1 rfl
  have c2 := (HBX2.out.below HB.out hz2).cell 2 rfl
  have c3 := (HBX2.out.below HB.out hz2).cell 3 rfl
  clear HB
  obtain ⟨i0, hi, hz0, hz1, hz2'⟩ := info_parts info_u8
  have hbl : ([82, 83, 69, 84, 1, (s.sh.length : Int)] ++ be4L s.sh ++ beB (u64N n) 4).length ≤ 100 := by simp only [List.length_append, be4L_length, beB_length, List.length_cons, List.length_nil]; omega
  obtain ⟨bs, hbs⟩ : ∃ bs : List Int, bs = [82, 83, 69, 84, 1, (s.sh.length : Int)] ++ be4L s.sh ++ beB (u64N n) 4 := ⟨_, rfl⟩
  rw [← hbs] at HO5 hbl
  have HBS := Lib.hid hbs
  clear hbs
  obtain ⟨mid, hmid⟩ : ∃ mid : List Int, mid = (if 0 < s.lb.length then [0] else [1] ++ beB (u64N ((s.y.length : Int) / n)) 4) := ⟨_, rfl⟩
  have HM := Lib.hid hmid
  clear hmid
  have hml : mid.length ≤ 5 := by rw [HM.out]; split <;> simp [beB_length]
  by_cases z : 0 < s.lb.length
  rotate_left
  · have hy : 0 < s.y.length := (HG10.out z).1
    have HEa := Lib.hid (show eachS s = (s.y.length : Int) / n by rw [eachS, HN.out])
    go_wp2_with fail
    go_region_held3 (fun w' => w'.cell? ⟨w.heap.size, 0, none⟩ = some (.slice o1 s.sh.length cap1) ∧ w'.cell? ⟨w.heap.size, 1, none⟩ = some (.slice o2 s.x.length cap2) ∧ w'.cell? ⟨w.heap.size, 2, none⟩ = some (.slice o3 s.lb.length cap3) ∧ w'.cell? ⟨w.heap.size, 3, none⟩ = some (.slice o4 s.y.length cap4))
      (first
        | exact ⟨d0, d1, d2, d3⟩
        | go_keep)
      (first
        | (refine step_append_lies _ (by rfl) (.tmp 44) (.tmp 45) 23 (by rfl) w2.heap.size 5 i0 (.int .u8 0) 1 1 Try.underlying23 hi hz0 hz1 hz2' rfl (by decide) v5 _ _ ?_ ((HO5.out.alloc _).drew) ⟨w5.heap.size, 0, none⟩ 1 1 [.int .u8 1] ?_ rfl (World.news_of_block (cs := #[.int .u8 1]) (t := 5) (fr := (0, 0)) (heap_alloc_new w5 _)) ?_ (by decide) ?_ ?_ ?_ (w5.heap.size + 1) ?_ ?_; rfl; rfl; simp [Value.oneCell']; (unfold maxLen; omega); omega; (have := HB5.out.size; simp; omega); simp; intro gg cap6 w6 hown6 hgrow6 hat hlt6; have HO6 := Lib.hid hown6; have HB6 := Lib.hid (below_append2 HB5.out HO5.out hgrow6); have d0 := (HBX2.out.below HB6.out hz2).cell 0 rfl; have d1 := (HBX2.out.below HB6.out hz2).cell 1 rfl; have d2 := (HBX2.out.below HB6.out hz2).cell 2 rfl; have d3 := (HBX2.out.below HB6.out hz2).cell 3 rfl; clear hown6 hgrow6 hat hlt6)
        | (go_at_call 48; refine (ref30Each_any _ _ _ _ s _ (HR2.out.below HB6.out (Nat.le_refl _)) HS.out HG4.out HL.out).mono ?_; rintro e w7 ⟨rfl, hB7⟩; rw [HEa.out]; have HO7 := Lib.hid (own_snoc (own_below HO6.out hB7 (Nat.le_refl _))); have HB7 := Lib.hid (HB6.out.trans (hB7.mono HB6.out.size)); have d0 := (HBX2.out.below HB7.out hz2).cell 0 rfl; have d1 := (HBX2.out.below HB7.out hz2).cell 1 rfl; have d2 := (HBX2.out.below HB7.out hz2).cell 2 rfl; have d3 := (HBX2.out.below HB7.out hz2).cell 3 rfl; clear hB7)
        | (go_at_call 59; rw [u64N_eq']; refine (four_any _ (bs ++ [1]) (u64N ((s.y.length : Int) / n)) w2.heap.size _ HO7.out HB7.out.size (u64N_lt _) (by rw [List.length_append, List.length_singleton]; omega)).mono ?_; rintro e w8 ⟨v8, rfl, hown8, hB8⟩; have HO8 := Lib.hid (show OwnI w8 w2.heap.size 5 .u8 v8 (bs ++ mid) by rw [HM.out, if_neg z, ← List.append_assoc]; exact hown8); have HB8 := Lib.hid (HB7.out.trans hB8); have d0 := (HBX2.out.below HB8.out hz2).cell 0 rfl; have d1 := (HBX2.out.below HB8.out hz2).cell 1 rfl; have d2 := (HBX2.out.below HB8.out hz2).cell 2 rfl; have d3 := (HBX2.out.below HB8.out hz2).cell 3 rfl; clear hown8 hB8))
    clear hi hz0 hz1 hz2' HO5 HB5 HO6 HB6 HO7 HB7
    have HO := HO8
    have HB := HB8
    clear HO8 HB8
    have c0 := (HBX2.out.below HB.out hz2).cell 0 rfl
    have c1 := (HBX2.out.below HB.out hz2).cell 1 rfl
    have c2 := (HBX2.out.below HB.out hz2).cell 2 rfl
    have c3 := (HBX2.out.below HB.out hz2).cell 3 rfl
    go_wp2_with fail
    go_loopw [3, 5] (fun u i wr => ∃ k : Nat, k ≤ s.x.length ∧ i = .int .i64 k ∧ OwnI wr w2.heap.size 5 .u8 u ((bs ++ mid) ++ be8L (s.x.take k)) ∧ Below w2.heap.size w2 wr) (fun _ i _ => s.x.length - (intOf i).toNat)
    case atStart => exact ⟨0, Nat.zero_le _, rfl, by rw [List.take_zero]; simp only [be8L, List.flatMap_nil, List.append_nil]; exact HO.out, HB.out⟩
    case round =>
    obtain ⟨k, hk, rfl, hown, hBw⟩ := hrel
    obtain ⟨w9, rfl⟩ : ∃ w9 : World, w9 = wr := ⟨_, rfl⟩
    clear HO HB c0 c1 c2 c3
    have HO := Lib.hid hown
    have HB := Lib.hid hBw
    clear hown hBw
    have c0 := (HBX2.out.below HB.out hz2).cell 0 rfl
    have c1 := (HBX2.out.below HB.out hz2).cell 1 rfl
    have c2 := (HBX2.out.below HB.out hz2).cell 2 rfl
    have c3 := (HBX2.out.below HB.out hz2).cell 3 rfl
    by_cases hlt : k < s.x.length
    · obtain ⟨b', off', he', hcell⟩ := HR2.out.x.cell k hlt
      subst he'
      have hc' := (HB.out.cell (p := ⟨b', off' + k, none⟩) (cell_lt hcell)).trans hcell
      clear hcell
      go_wp2_with fail
      rw [u64N_eq']
      refine (eight_any u3 _ (u64N (nth s.x k)) w2.heap.size _ HO.out HB.out.size (u64N_lt _) (by simp only [List.length_append, be4L_length, be8L_length, beB_length, List.length_take, List.length_cons, List.length_nil]; omega)).mono ?_
      rintro e w4 ⟨v4, rfl, hown4, hB4⟩
      rw [List.append_assoc, ← be8L_succ _ _ hlt] at hown4
      have HO4 := Lib.hid hown4
      have HB4 := Lib.hid (HB.out.trans hB4)
      clear hown4 hB4 HO HB
      go_wp2
      go_roundw
      case rel => exact ⟨k + 1, by omega, by go_num, HO4.out, HB4.out⟩
      case measure => simp [intOf]; omega
    obtain rfl : k = s.x.length := by omega
    rw [List.take_length] at HO
    clear hk
    go_wp2_with fail
    go_loopw [3, 6] (fun u i wr => ∃ k : Nat, k ≤ s.lb.length ∧ i = .int .i64 k ∧ OwnI wr w2.heap.size 5 .u8 u ((bs ++ mid ++ be8L s.x) ++ be4L (s.lb.take k)) ∧ Below w2.heap.size w2 wr) (fun _ i _ => s.lb.length - (intOf i).toNat)
    case atStart => exact ⟨0, Nat.zero_le _, rfl, by rw [List.take_zero]; simp only [be4L, List.flatMap_nil, List.append_nil]; exact HO.out, HB.out⟩
    case round =>
    obtain ⟨k, hk, rfl, hown, hBw⟩ := hrel
    obtain ⟨w10, rfl⟩ : ∃ w10 : World, w10 = wr := ⟨_, rfl⟩
    clear HO HB c0 c1 c2 c3
    have HO := Lib.hid hown
    have HB := Lib.hid hBw
    clear hown hBw
    have c0 := (HBX2.out.below HB.out hz2).cell 0 rfl
    have c1 := (HBX2.out.below HB.out hz2).cell 1 rfl
    have c2 := (HBX2.out.below HB.out hz2).cell 2 rfl
    have c3 := (HBX2.out.below HB.out hz2).cell 3 rfl
    by_cases hlt : k < s.lb.length
    · exact absurd hlt (by omega)
    obtain rfl : k = s.lb.length := by omega
    rw [List.take_length] at HO
    clear hk
    go_wp2_with fail
    go_loopw [3, 7] (fun u i wr => ∃ k : Nat, k ≤ s.y.length ∧ i = .int .i64 k ∧ OwnI wr w2.heap.size 5 .u8 u ((bs ++ mid ++ be8L s.x ++ be4L s.lb) ++ be8L (s.y.take k)) ∧ Below w2.heap.size w2 wr) (fun _ i _ => s.y.length - (intOf i).toNat)
    case atStart => exact ⟨0, Nat.zero_le _, rfl, by rw [List.take_zero]; simp only [be8L, List.flatMap_nil, List.append_nil]; exact HO.out, HB.out⟩
    case round =>
    obtain ⟨k, hk, rfl, hown, hBw⟩ := hrel
    obtain ⟨w11, rfl⟩ : ∃ w11 : World, w11 = wr := ⟨_, rfl⟩
    clear HO HB c0 c1 c2 c3
    have HO := Lib.hid hown
    have HB := Lib.hid hBw
    clear hown hBw
    have c0 := (HBX2.out.below HB.out hz2).cell 0 rfl
    have c1 := (HBX2.out.below HB.out hz2).cell 1 rfl
    have c2 := (HBX2.out.below HB.out hz2).cell 2 rfl
    have c3 := (HBX2.out.below HB.out hz2).cell 3 rfl
    by_cases hlt : k < s.y.length
    · obtain ⟨b', off', he', hcell⟩ := HR2.out.y.cell k hlt
      subst he'
      have hc' := (HB.out.cell (p := ⟨b', off' + k, none⟩) (cell_lt hcell)).trans hcell
      clear hcell
      go_wp2_with fail
      rw [u64N_eq']
      refine (eight_any u3 _ (u64N (nth s.y k)) w2.heap.size _ HO.out HB.out.size (u64N_lt _) (by simp only [List.length_append, be4L_length, be8L_length, beB_length, List.length_take, List.length_cons, List.length_nil]; omega)).mono ?_
      rintro e w4 ⟨v4, rfl, hown4, hB4⟩
      rw [List.append_assoc, ← be8L_succ _ _ hlt] at hown4
      have HO4 := Lib.hid hown4
      have HB4 := Lib.hid (HB.out.trans hB4)
      clear hown4 hB4 HO HB
      go_wp2
      go_roundw
      case rel => exact ⟨k + 1, by omega, by go_num, HO4.out, HB4.out⟩
      case measure => simp [intOf]; omega
    obtain rfl : k = s.y.length := by omega
    rw [List.take_length] at HO
    clear hk
    have HE : Hid (encSet s = bs ++ mid ++ be8L s.x ++ be4L s.lb ++ be8L s.y) := Lib.hid (by rw [HBS.out, HM.out, encSet, ← HN.out])
    go_wp2
    go_ret
    exact ⟨_, rfl, by rw [HE.out]; exact own_mono HO.out (Nat.le_of_lt hz2), HB2.out.trans (HB.out.mono (Nat.le_of_lt hz2))⟩
  · go_wp2_with (at_builtin; refine wpList_append_own _ rfl _ _ 23 rfl w2.heap.size 5 i0 (.int .u8 0) 1 1 Try.underlying23 hi hz0 hz1 hz2' rfl (by decide) _ _ _ rfl (HO5.out.alloc _) ⟨w5.heap.size, 0, none⟩ 1 1 [.int .u8 0] rfl rfl (cell_one_new _ _ _) (by simp [Value.oneCell']) (by unfold maxLen; omega) (by omega) (by have := HB5.out.size; simp; omega) ?_; intro v8 w8 hown8 hgrow8 _; refine stopHere ?_)
    refine goOn ?_
    have HB8 := Lib.hid (below_append' HB5.out (Nat.le_refl _) HO5.out hgrow8)
    have HO8 := Lib.hid (show OwnI w8 w2.heap.size 5 .u8 v8 (bs ++ mid) by rw [HM.out, if_pos z]; exact own_snoc hown8)
    clear hown8 hgrow8 hi hz0 hz1 hz2' HO5 HB5
    have HO := HO8
    have HB := HB8
    clear HO8 HB8
    have c0 := (HBX2.out.below HB.out hz2).cell 0 rfl
    have c1 := (HBX2.out.below HB.out hz2).cell 1 rfl
    have c2 := (HBX2.out.below HB.out hz2).cell 2 rfl
    have c3 := (HBX2.out.below HB.out hz2).cell 3 rfl
    go_wp2_with fail
    go_loopw [3, 5] (fun u i wr => ∃ k : Nat, k ≤ s.x.length ∧ i = .int .i64 k ∧ OwnI wr w2.heap.size 5 .u8 u ((bs ++ mid) ++ be8L (s.x.take k)) ∧ Below w2.heap.size w2 wr) (fun _ i _ => s.x.length - (intOf i).toNat)
    case atStart => exact ⟨0, Nat.zero_le _, rfl, by rw [List.take_zero]; simp only [be8L, List.flatMap_nil, List.append_nil]; exact HO.out, HB.out⟩
    case round =>
    obtain ⟨k, hk, rfl, hown, hBw⟩ := hrel
    obtain ⟨w9, rfl⟩ : ∃ w9 : World, w9 = wr := ⟨_, rfl⟩
    clear HO HB c0 c1 c2 c3
    have HO := Lib.hid hown
    have HB := Lib.hid hBw
    clear hown hBw
    have c0 := (HBX2.out.below HB.out hz2).cell 0 rfl
    have c1 := (HBX2.out.below HB.out hz2).cell 1 rfl
    have c2 := (HBX2.out.below HB.out hz2).cell 2 rfl
    have c3 := (HBX2.out.below HB.out hz2).cell 3 rfl
    by_cases hlt : k < s.x.length
    · obtain ⟨b', off', he', hcell⟩ := HR2.out.x.cell k hlt
      subst he'
      have hc' := (HB.out.cell (p := ⟨b', off' + k, none⟩) (cell_lt hcell)).trans hcell
      clear hcell
      go_wp2_with fail
      rw [u64N_eq']
      refine (eight_any u3 _ (u64N (nth s.x k)) w2.heap.size _ HO.out HB.out.size (u64N_lt _) (by simp only [List.length_append, be4L_length, be8L_length, beB_length, List.length_take, List.length_cons, List.length_nil]; omega)).mono ?_
      rintro e w4 ⟨v4, rfl, hown4, hB4⟩
      rw [List.append_assoc, ← be8L_succ _ _ hlt] at hown4
      have HO4 := Lib.hid hown4
      have HB4 := Lib.hid (HB.out.trans hB4)
      clear hown4 hB4 HO HB
      go_wp2
      go_roundw
      case rel => exact ⟨k + 1, by omega, by go_num, HO4.out, HB4.out⟩
      case measure => simp [intOf]; omega
    obtain rfl : k = s.x.length := by omega
    rw [List.take_length] at HO
    clear hk
    go_wp2_with fail
    go_loopw [3, 6] (fun u i wr => ∃ k : Nat, k ≤ s.lb.length ∧ i = .int .i64 k ∧ OwnI wr w2.heap.size 5 .u8 u ((bs ++ mid ++ be8L s.x) ++ be4L (s.lb.take k)) ∧ Below w2.heap.size w2 wr) (fun _ i _ => s.lb.length - (intOf i).toNat)
    case atStart => exact ⟨0, Nat.zero_le _, rfl, by rw [List.take_zero]; simp only [be4L, List.flatMap_nil, List.append_nil]; exact HO.out, HB.out⟩
    case round =>
    obtain ⟨k, hk, rfl, hown, hBw⟩ := hrel
    obtain ⟨w10, rfl⟩ : ∃ w10 : World, w10 = wr := ⟨_, rfl⟩
    clear HO HB c0 c1 c2 c3
    have HO := Lib.hid hown
    have HB := Lib.hid hBw
    clear hown hBw
    have c0 := (HBX2.out.below HB.out hz2).cell 0 rfl
    have c1 := (HBX2.out.below HB.out hz2).cell 1 rfl
    have c2 := (HBX2.out.below HB.out hz2).cell 2 rfl
    have c3 := (HBX2.out.below HB.out hz2).cell 3 rfl
    by_cases hlt : k < s.lb.length
    · obtain ⟨b', off', he', hcell⟩ := HR2.out.lb.cell k hlt
      subst he'
      have hc' := (HB.out.cell (p := ⟨b', off' + k, none⟩) (cell_lt hcell)).trans hcell
      clear hcell
      go_wp2_with fail
      rw [u64N_eq']
      refine (four_any u3 _ (u64N (nth s.lb k)) w2.heap.size _ HO.out HB.out.size (u64N_lt _) (by simp only [List.length_append, be4L_length, be8L_length, beB_length, List.length_take, List.length_cons, List.length_nil]; omega)).mono ?_
      rintro e w4 ⟨v4, rfl, hown4, hB4⟩
      rw [List.append_assoc, ← be4L_succ _ _ hlt] at hown4
      have HO4 := Lib.hid hown4
      have HB4 := Lib.hid (HB.out.trans hB4)
      clear hown4 hB4 HO HB
      go_wp2
      go_roundw
      case rel => exact ⟨k + 1, by omega, by go_num, HO4.out, HB4.out⟩
      case measure => simp [intOf]; omega
    obtain rfl : k = s.lb.length := by omega
    rw [List.take_length] at HO
    clear hk
    go_wp2_with fail
    go_loopw [3, 7] (fun u i wr => ∃ k : Nat, k ≤ s.y.length ∧ i = .int .i64 k ∧ OwnI wr w2.heap.size 5 .u8 u ((bs ++ mid ++ be8L s.x ++ be4L s.lb) ++ be8L (s.y.take k)) ∧ Below w2.heap.size w2 wr) (fun _ i _ => s.y.length - (intOf i).toNat)
    case atStart => exact ⟨0, Nat.zero_le _, rfl, by rw [List.take_zero]; simp only [be8L, List.flatMap_nil, List.append_nil]; exact HO.out, HB.out⟩
    case round =>
    obtain ⟨k, hk, rfl, hown, hBw⟩ := hrel
    obtain ⟨w11, rfl⟩ : ∃ w11 : World, w11 = wr := ⟨_, rfl⟩
    clear HO HB c0 c1 c2 c3
    have HO := Lib.hid hown
    have HB := Lib.hid hBw
    clear hown hBw
    have c0 := (HBX2.out.below HB.out hz2).cell 0 rfl
    have c1 := (HBX2.out.below HB.out hz2).cell 1 rfl
    have c2 := (HBX2.out.below HB.out hz2).cell 2 rfl
    have c3 := (HBX2.out.below HB.out hz2).cell 3 rfl
    by_cases hlt : k < s.y.length
    · obtain ⟨b', off', he', hcell⟩ := HR2.out.y.cell k hlt
      subst he'
      have hc' := (HB.out.cell (p := ⟨b', off' + k, none⟩) (cell_lt hcell)).trans hcell
      clear hcell
      go_wp2_with fail
      rw [u64N_eq']
      refine (eight_any u3 _ (u64N (nth s.y k)) w2.heap.size _ HO.out HB.out.size (u64N_lt _) (by simp only [List.length_append, be4L_length, be8L_length, beB_length, List.length_take, List.length_cons, List.length_nil]; omega)).mono ?_
      rintro e w4 ⟨v4, rfl, hown4, hB4⟩
      rw [List.append_assoc, ← be8L_succ _ _ hlt] at hown4
      have HO4 := Lib.hid hown4
      have HB4 := Lib.hid (HB.out.trans hB4)
      clear hown4 hB4 HO HB
      go_wp2
      go_roundw
      case rel => exact ⟨k + 1, by omega, by go_num, HO4.out, HB4.out⟩
      case measure => simp [intOf]; omega
    obtain rfl : k = s.y.length := by omega
    rw [List.take_length] at HO
    clear hk
    have HE : Hid (encSet s = bs ++ mid ++ be8L s.x ++ be4L s.lb ++ be8L s.y) := Lib.hid (by rw [HBS.out, HM.out, encSet, ← HN.out])
    go_wp2
    go_ret
    exact ⟨_, rfl, by rw [HE.out]; exact own_mono HO.out (Nat.le_of_lt hz2), HB2.out.trans (HB.out.mono (Nat.le_of_lt hz2))⟩
end Go.Proofs.Ytjhejpeklppmbaa
