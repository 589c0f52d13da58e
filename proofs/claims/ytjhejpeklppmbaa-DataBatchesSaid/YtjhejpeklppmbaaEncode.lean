/-
  data.Encode: the dataset's bytes.
-/
import Derived.Test.YtjhejpeklppmbaaPut
import Derived.Test.YtjhejpeklppmbaaSet
import Derived.Deep.RegionHeld3
import Derived.Deep.AppendLies
set_option linter.unusedVariables false
set_option linter.unusedSimpArgs false
namespace Go.Proofs.Ytjhejpeklppmbaa
open Go.RowKit Go.Shelf
def u64N (v : Int) : Nat := (v % 18446744073709551616).toNat
def be4L (l : List Int) : List Int := l.flatMap fun v => beB (u64N v) 4
def be8L (l : List Int) : List Int := l.flatMap fun v => beB (u64N v) 8
/-- a dataset's bytes -/
def encSet (s : SetD) : List Int :=
  [82, 83, 69, 84, 1, (s.sh.length : Int)] ++ be4L s.sh ++ beB (u64N (countS s)) 4 ++ (if 0 < s.lb.length then [0] else [1] ++ beB (u64N ((s.y.length : Int) / countS s)) 4) ++ be8L s.x ++ be4L s.lb ++ be8L s.y
theorem goodSet_parts {s : SetD} (h : goodSet s = true) : shapeB s.sh = true ∧ 1 ≤ s.sh.length ∧ s.sh.length ≤ 3 ∧ 1 ≤ countS s ∧ countS s ≤ 1024 ∧ (s.x.length : Int) = countS s * prodL s.sh ∧ wordsB s.x = true ∧ wordsB s.y = true ∧
    (0 < s.lb.length → (s.lb.length : Int) = countS s ∧ s.y.length = 0 ∧ s.lb.all labelB = true) ∧ (¬ 0 < s.lb.length → 0 < s.y.length ∧ (s.y.length : Int) % countS s = 0 ∧ (s.y.length : Int) / countS s ≤ 65536) := by
  simp only [goodSet, Bool.and_eq_true, decide_eq_true_eq] at h
  obtain ⟨⟨⟨⟨⟨h1, h2, h3⟩, h4, h5, h6⟩, h7⟩, h8⟩, h9⟩ := h
  refine ⟨h1, h2, h3, h4, h5, h6, h7, h8, fun hz => ?_, fun hz => ?_⟩
  · rw [if_pos hz, Bool.and_eq_true, decide_eq_true_eq] at h9
    exact ⟨h9.1.1, h9.1.2, h9.2⟩
  · rw [if_neg hz, decide_eq_true_eq] at h9
    exact h9
theorem be4L_length (l : List Int) : (be4L l).length = 4 * l.length := by
  induction l with
  | nil => rfl
  | cons x l ih => rw [be4L, List.flatMap_cons, List.length_append, beB_length, List.length_cons]; have : (l.flatMap fun v => beB (u64N v) 4).length = 4 * l.length := ih; omega
theorem be8L_length (l : List Int) : (be8L l).length = 8 * l.length := by
  induction l with
  | nil => rfl
  | cons x l ih => rw [be8L, List.flatMap_cons, List.length_append, beB_length, List.length_cons]; have : (l.flatMap fun v => beB (u64N v) 8).length = 8 * l.length := ih; omega
theorem be4L_succ (l : List Int) (k : Nat) (h : k < l.length) : be4L (l.take (k + 1)) = be4L (l.take k) ++ beB (u64N (nth l k)) 4 := by
  rw [take_succ_nth l k h, be4L, be4L, List.flatMap_append]; simp
theorem be8L_succ (l : List Int) (k : Nat) (h : k < l.length) : be8L (l.take (k + 1)) = be8L (l.take k) ++ beB (u64N (nth l k)) 8 := by
  rw [take_succ_nth l k h, be8L, be8L, List.flatMap_append]; simp
theorem u64N_lt (v : Int) : u64N v < 18446744073709551616 := by unfold u64N; omega
theorem u64N_eq (v : Int) : IntKind.u64.wrap v = (u64N v : Nat) := by
  rw [IntKind.wrap_u64]; unfold u64N; omega
theorem u64N_eq' (v : Int) : Value.int .u64 (IntKind.u64.wrap v) = .int .u64 (u64N v : Nat) := by rw [u64N_eq]
theorem u64N_small (v : Int) (h0 : 0 ≤ v) (h1 : v ≤ 9223372036854775807) : ((u64N v : Nat) : Int) = v := by unfold u64N; omega
theorem below_append2 {w wr w1 : World} {e : TypeId} {s : Nat} {v : Value} {n : Nat} {xs : List Value} {o : Obj} (hB : Below w.heap.size w wr) (h : wr.ownsRow w.heap.size e s v n xs) (hg : (wr.alloc o).drew.grownBy w1 v.ownBlock) : Below w.heap.size w w1 :=
  ((hB.alloc hB.size o).drew).grown hg (by have := hB.size; simp; omega) fun k hk => (h.lt k hk).1
theorem cells_past (w : World) (l : List Value) (e : TypeId) (fz : Nat × Nat) (o : Obj) : ∀ (j : Nat) (u : Value), l[j]? = some u → ((w.alloc (.cells l.toArray e fz)).alloc o).cell? ((⟨w.heap.size, 0, none⟩ : Addr).add j) = some u := fun j u h => by
  have h1 := cells_new w l e fz j u h
  rw [Addr.add_lit] at h1 ⊢
  rw [World.cell?_alloc_past _ _ _ (by simp)]
  exact h1
set_option maxRecDepth 100000 in
set_option maxHeartbeats 2000000 in
theorem dataEncode_good (a b c d : Value) (s : SetD) (w : World) (hr : RdSet w a b c d s) (hg : goodSet s = true) (hl : LimSet s) :
    Calls Try.prog 32 #[.agg #[a, b, c, d]] w fun e w' => ∃ v, e = .returned (.tuple #[v, .int .i64 0]) ∧ OwnI w' w.heap.size 5 .u8 v (encSet s) ∧ Below w.heap.size w w' := by
  obtain ⟨o1, cap1, he1⟩ := rd_slice hr.sh
  obtain ⟨o2, cap2, he2⟩ := rd_slice hr.x
  obtain ⟨o3, cap3, he3⟩ := rd_slice hr.lb
  obtain ⟨o4, cap4, he4⟩ := rd_slice hr.y
  subst he1 he2 he3 he4
  have hl1 := hl.sh
  have hl2 := hl.x
  have hl3 := hl.lb
  have hl4 := hl.y
  have HR := Lib.hid hr
  have HL := Lib.hid hl
  have HG := Lib.hid hg
  clear hr hl hg
  have kc := fun (w : World) (C : Array Value) (n c : Nat) => Lib.run_convert_bytes_const (P := Try.prog) w 23 5 C n c Try.underlying23 Try.underlying5
  go_enter Try.func32, Try.ntmps32
  go_wp2_with fail
  refine (dataGood_any _ _ _ _ s _ (HR.out.alloc _) HL.out).mono ?_
  rintro e w1 ⟨rfl, hB1⟩
  have HBX := Lib.hid ((Box.new w _ _).next hB1)
  have HB1 := Lib.hid (((Below.refl w.heap.size w).alloc (Nat.le_refl _) _).trans (hB1.mono (by simp)))
  have hz : w.heap.size < w1.heap.size := HBX.out.lt
  clear hB1
  rw [HG.out]
  have HR1 := Lib.hid (HR.out.below HB1.out (Nat.le_refl _))
  have c0 := HBX.out.cell 0 rfl
  have c1 := HBX.out.cell 1 rfl
  have c2 := HBX.out.cell 2 rfl
  have c3 := HBX.out.cell 3 rfl
  obtain ⟨g1, g2, g3, g4, g5, g6, g7, g8, g9, g10⟩ := goodSet_parts HG.out
  obtain ⟨s4, sall, s6⟩ := shapeB_parts g1
  have HS := Lib.hid sall
  obtain ⟨n, hn⟩ : ∃ n, n = countS s := ⟨_, rfl⟩
  rw [← hn] at g4 g5
  have HN := Lib.hid hn
  have HG9 := Lib.hid g9
  have HG10 := Lib.hid g10
  clear g1 g6 g7 g8 g9 g10 sall s6 hn
  go_wp2_with fail
  refine (dataCount_any _ _ _ _ s _ HR1.out HS.out s4 HL.out).mono ?_
  rintro e w2 ⟨rfl, hB2⟩
  have HBX2 := Lib.hid (HBX.out.next hB2)
  have HB2 := Lib.hid (HB1.out.trans (hB2.mono HB1.out.size))
  have hz2 : w.heap.size < w2.heap.size := HBX2.out.lt
  have HR2 := Lib.hid (HR1.out.below hB2 (Nat.le_refl _))
  clear hB2 c0 c1 c2 c3 HR1 HB1 HBX hz
  rw [← HN.out]
  have c0 := HBX2.out.cell 0 rfl
  obtain ⟨i0, hi, hz0, hz1, hz2'⟩ := info_parts info_u8
  go_wp2_with (at_builtin; refine wpList_append_grows _ rfl _ _ 23 rfl 5 i0 (.int .u8 0) 1 1 Try.underlying23 hi hz0 hz1 hz2' rfl (by decide) (some ⟨w2.heap.size, 0, none⟩) 4 4 (([82, 83, 69, 84] : List Int).map (Value.int .u8)) rfl (fun h => by cases h) rfl (fun b hb => by cases hb; exact cells_past _ _ _ _ _) ⟨w2.heap.size + 1, 0, none⟩ 2 2 (([1, (s.sh.length : Int)] : List Int).map (Value.int .u8)) rfl rfl (by have h := cells_new (w2.alloc (.cells ((([82, 83, 69, 84] : List Int).map (Value.int .u8)).toArray) 5 (4, 5))) (([1, (s.sh.length : Int)] : List Int).map (Value.int .u8)) 5 (0, 0); rw [World.size_alloc] at h; exact h) (by simp [Value.oneCell']) (by omega) (by unfold maxLen; omega) (by omega) ?_; intro v3 w3 hown3 hgrow3; refine stopHere ?_)
  refine goOn ?_
  have hB3 : Below w2.heap.size w2 w3 := ((((Below.refl w2.heap.size w2).alloc (Nat.le_refl _) _).alloc (by simp) _).trans ((grown_below hgrow3).mono (by simp; omega)))
  have HO := Lib.hid (show OwnI w3 w2.heap.size 5 .u8 v3 ([82, 83, 69, 84, 1, (s.sh.length : Int)] : List Int) from own_mono hown3 (by simp; omega))
  have HB := Lib.hid hB3
  clear hB3 hown3 hgrow3 kc hi hz0 hz1 hz2' c0
  have c0 := (HBX2.out.below HB.out hz2).cell 0 rfl
  go_wp2_with fail
  go_loopw [5, 30] (fun u i wr => ∃ k : Nat, k ≤ s.sh.length ∧ i = .int .i64 k ∧ OwnI wr w2.heap.size 5 .u8 u (([82, 83, 69, 84, 1, (s.sh.length : Int)] : List Int) ++ be4L (s.sh.take k)) ∧ Below w2.heap.size w2 wr) (fun _ i _ => s.sh.length - (intOf i).toNat)
  case atStart => exact ⟨0, Nat.zero_le _, rfl, by rw [List.take_zero]; simp only [be4L, List.flatMap_nil, List.append_nil]; exact HO.out, HB.out⟩
  case round =>
  obtain ⟨k, hk, rfl, hown, hBw⟩ := hrel
  obtain ⟨w3, rfl⟩ : ∃ w3 : World, w3 = wr := ⟨_, rfl⟩
  clear HO HB
  have HO := Lib.hid hown
  have HB := Lib.hid hBw
  clear hown hBw
  by_cases hlt : k < s.sh.length
  · obtain ⟨b', off', he', hcell⟩ := HR2.out.sh.cell k hlt
    subst he'
    have hc' := (HB.out.cell (p := ⟨b', off' + k, none⟩) (cell_lt hcell)).trans hcell
    clear hcell
    go_wp2_with fail
    rw [u64N_eq']
    refine (put_any u5 _ (u64N (nth s.sh k)) 4 w2.heap.size _ HO.out HB.out.size (u64N_lt _) (by omega) (by simp only [List.length_append, be4L_length, be8L_length, beB_length, List.length_take, List.length_cons, List.length_nil]; omega)).mono ?_
    rintro e w4 ⟨v4, rfl, hown4, hB4⟩
    rw [List.append_assoc, ← be4L_succ _ _ hlt] at hown4
    have HO4 := Lib.hid hown4
    have HB4 := Lib.hid (HB.out.trans hB4)
    clear hown4 hB4 HO HB
    go_wp2
    go_roundw
    case rel => exact ⟨k + 1, by omega, by go_num, HO4.out, HB4.out⟩
    case measure => simp [intOf]; omega
  obtain rfl : k = s.sh.length := by omega
  rw [List.take_length] at HO
  clear hlt hk
  have c0 := (HBX2.out.below HB.out hz2).cell 0 rfl
  have c1 := (HBX2.out.below HB.out hz2).cell 1 rfl
  have c2 := (HBX2.out.below HB.out hz2).cell 2 rfl
  have c3 := (HBX2.out.below HB.out hz2).cell 3 rfl
  go_wp2_with fail
  rw [show Value.int .u64 n = .int .u64 (u64N n : Nat) by rw [u64N_small n (by omega) (by omega)]]
  refine (put_any u5 _ (u64N n) 4 w2.heap.size _ HO.out HB.out.size (u64N_lt _) (by omega) (by simp only [List.length_append, be4L_length, List.length_cons, List.length_nil]; omega)).mono ?_
  rintro e w5 ⟨v5, rfl, hown5, hB5⟩
  have HO5 := Lib.hid hown5
  have HB5 := Lib.hid (HB.out.trans hB5)
  clear hown5 hB5 HO HB c0 c1 c2 c3
  have c0 := (HBX2.out.below HB5.out hz2).cell 0 rfl
  have c1 := (HBX2.out.below HB5.out hz2).cell 1 rfl
  have c2 := (HBX2.out.below HB5.out hz2).cell 2 rfl
  have c3 := (HBX2.out.below HB5.out hz2).cell 3 rfl
  obtain ⟨i0, hi, hz0, hz1, hz2'⟩ := info_parts info_u8
  have hbl : ([82, 83, 69, 84, 1, (s.sh.length : Int)] ++ be4L s.sh ++ beB (u64N n) 4).length ≤ 100 := by simp only [List.length_append, be4L_length, beB_length, List.length_cons, List.length_nil]; omega
  obtain ⟨bs, hbs⟩ : ∃ bs : List Int, bs = [82, 83, 69, 84, 1, (s.sh.length : Int)] ++ be4L s.sh ++ beB (u64N n) 4 := ⟨_, rfl⟩
  rw [← hbs] at HO5 hbl
  have HBS := Lib.hid hbs
  clear hbs
  obtain ⟨mid, hmid⟩ : ∃ mid : List Int, mid = (if 0 < s.lb.length then [0] else [1] ++ beB (u64N ((s.y.length : Int) / n)) 4) := ⟨_, rfl⟩
  have HM := Lib.hid hmid
  clear hmid
  have hml : mid.length ≤ 5 := by rw [HM.out]; split <;> simp [beB_length]
  by_cases z : 0 < s.lb.length
  rotate_left
  · have hy : 0 < s.y.length := (HG10.out z).1
    go_wp2_with fail
    go_region_held3 (fun w' => w'.cell? ⟨w.heap.size, 0, none⟩ = some (.slice o1 s.sh.length cap1) ∧ w'.cell? ⟨w.heap.size, 1, none⟩ = some (.slice o2 s.x.length cap2) ∧ w'.cell? ⟨w.heap.size, 2, none⟩ = some (.slice o3 s.lb.length cap3) ∧ w'.cell? ⟨w.heap.size, 3, none⟩ = some (.slice o4 s.y.length cap4))
      (first
        | exact ⟨d0, d1, d2, d3⟩
        | go_keep)
      (first
        | (refine step_append_lies _ (by rfl) (.tmp 50) (.tmp 51) 23 (by rfl) w2.heap.size 5 i0 (.int .u8 0) 1 1 Try.underlying23 hi hz0 hz1 hz2' rfl (by decide) v5 _ _ ?_ ((HO5.out.alloc _).drew) ⟨w5.heap.size, 0, none⟩ 1 1 [.int .u8 1] ?_ rfl (World.news_of_block (cs := #[.int .u8 1]) (t := 5) (fr := (0, 0)) (heap_alloc_new w5 _)) ?_ (by decide) ?_ ?_ ?_ (w5.heap.size + 1) ?_ ?_; rfl; rfl; simp [Value.oneCell']; (unfold maxLen; omega); omega; (have := HB5.out.size; simp; omega); simp; intro gg cap6 w6 hown6 hgrow6 hat hlt6; have HO6 := Lib.hid hown6; have HB6 := Lib.hid (below_append2 HB5.out HO5.out hgrow6); have d0 := (HBX2.out.below HB6.out hz2).cell 0 rfl; have d1 := (HBX2.out.below HB6.out hz2).cell 1 rfl; have d2 := (HBX2.out.below HB6.out hz2).cell 2 rfl; have d3 := (HBX2.out.below HB6.out hz2).cell 3 rfl; clear hown6 hgrow6 hat hlt6)
        | (go_at_call 45; refine (dataEach_any _ _ _ _ s n _ (HR2.out.below HB6.out (Nat.le_refl _)) (by omega) HL.out).mono ?_; rintro e w7 ⟨rfl, hB7⟩; have HO7 := Lib.hid (own_snoc (own_below HO6.out hB7 (Nat.le_refl _))); have HB7 := Lib.hid (HB6.out.trans (hB7.mono HB6.out.size)); have d0 := (HBX2.out.below HB7.out hz2).cell 0 rfl; have d1 := (HBX2.out.below HB7.out hz2).cell 1 rfl; have d2 := (HBX2.out.below HB7.out hz2).cell 2 rfl; have d3 := (HBX2.out.below HB7.out hz2).cell 3 rfl; clear hB7)
        | (go_at_call 58; rw [u64N_eq']; refine (put_any _ (bs ++ [1]) (u64N ((s.y.length : Int) / n)) 4 w2.heap.size _ HO7.out HB7.out.size (u64N_lt _) (by omega) (by rw [List.length_append, List.length_singleton]; omega)).mono ?_; rintro e w8 ⟨v8, rfl, hown8, hB8⟩; have HO8 := Lib.hid (show OwnI w8 w2.heap.size 5 .u8 v8 (bs ++ mid) by rw [HM.out, if_neg z, ← List.append_assoc]; exact hown8); have HB8 := Lib.hid (HB7.out.trans hB8); have d0 := (HBX2.out.below HB8.out hz2).cell 0 rfl; have d1 := (HBX2.out.below HB8.out hz2).cell 1 rfl; have d2 := (HBX2.out.below HB8.out hz2).cell 2 rfl; have d3 := (HBX2.out.below HB8.out hz2).cell 3 rfl; clear hown8 hB8))
    clear hi hz0 hz1 hz2' HO5 HB5 HO6 HB6 HO7 HB7
    have HO := HO8
    have HB := HB8
    clear HO8 HB8
    go_wp2_with fail
    go_loopw [5, 61] (fun u i wr => ∃ k : Nat, k ≤ s.x.length ∧ i = .int .i64 k ∧ OwnI wr w2.heap.size 5 .u8 u ((bs ++ mid) ++ be8L (s.x.take k)) ∧ Below w2.heap.size w2 wr) (fun _ i _ => s.x.length - (intOf i).toNat)
    case atStart => exact ⟨0, Nat.zero_le _, rfl, by rw [List.take_zero]; simp only [be8L, List.flatMap_nil, List.append_nil]; exact HO.out, HB.out⟩
    case round =>
    obtain ⟨k, hk, rfl, hown, hBw⟩ := hrel
    obtain ⟨w9, rfl⟩ : ∃ w9 : World, w9 = wr := ⟨_, rfl⟩
    clear HO HB
    have HO := Lib.hid hown
    have HB := Lib.hid hBw
    clear hown hBw
    by_cases hlt : k < s.x.length
    · obtain ⟨b', off', he', hcell⟩ := HR2.out.x.cell k hlt
      subst he'
      have hc' := (HB.out.cell (p := ⟨b', off' + k, none⟩) (cell_lt hcell)).trans hcell
      clear hcell
      go_wp2_with fail
      rw [u64N_eq']
      refine (put_any u5 _ (u64N (nth s.x k)) 8 w2.heap.size _ HO.out HB.out.size (u64N_lt _) (by omega) (by simp only [List.length_append, be4L_length, be8L_length, beB_length, List.length_take, List.length_cons, List.length_nil]; omega)).mono ?_
      rintro e w4 ⟨v4, rfl, hown4, hB4⟩
      rw [List.append_assoc, ← be8L_succ _ _ hlt] at hown4
      have HO4 := Lib.hid hown4
      have HB4 := Lib.hid (HB.out.trans hB4)
      clear hown4 hB4 HO HB
      go_wp2
      go_roundw
      case rel => exact ⟨k + 1, by omega, by go_num, HO4.out, HB4.out⟩
      case measure => simp [intOf]; omega
    obtain rfl : k = s.x.length := by omega
    rw [List.take_length] at HO
    clear hlt hk
    have c0 := (HBX2.out.below HB.out hz2).cell 0 rfl
    have c1 := (HBX2.out.below HB.out hz2).cell 1 rfl
    have c2 := (HBX2.out.below HB.out hz2).cell 2 rfl
    have c3 := (HBX2.out.below HB.out hz2).cell 3 rfl
    go_wp2_with fail
    go_loopw [5, 73] (fun u i wr => ∃ k : Nat, k ≤ s.lb.length ∧ i = .int .i64 k ∧ OwnI wr w2.heap.size 5 .u8 u ((bs ++ mid ++ be8L s.x) ++ be4L (s.lb.take k)) ∧ Below w2.heap.size w2 wr) (fun _ i _ => s.lb.length - (intOf i).toNat)
    case atStart => exact ⟨0, Nat.zero_le _, rfl, by rw [List.take_zero]; simp only [be4L, List.flatMap_nil, List.append_nil]; exact HO.out, HB.out⟩
    case round =>
    obtain ⟨k, hk, rfl, hown, hBw⟩ := hrel
    obtain ⟨w10, rfl⟩ : ∃ w10 : World, w10 = wr := ⟨_, rfl⟩
    clear HO HB
    have HO := Lib.hid hown
    have HB := Lib.hid hBw
    clear hown hBw
    by_cases hlt : k < s.lb.length
    · exact absurd hlt (by omega)
    obtain rfl : k = s.lb.length := by omega
    rw [List.take_length] at HO
    clear hlt hk
    have c0 := (HBX2.out.below HB.out hz2).cell 0 rfl
    have c1 := (HBX2.out.below HB.out hz2).cell 1 rfl
    have c2 := (HBX2.out.below HB.out hz2).cell 2 rfl
    have c3 := (HBX2.out.below HB.out hz2).cell 3 rfl
    go_wp2_with fail
    go_loopw [5, 85] (fun u i wr => ∃ k : Nat, k ≤ s.y.length ∧ i = .int .i64 k ∧ OwnI wr w2.heap.size 5 .u8 u ((bs ++ mid ++ be8L s.x ++ be4L s.lb) ++ be8L (s.y.take k)) ∧ Below w2.heap.size w2 wr) (fun _ i _ => s.y.length - (intOf i).toNat)
    case atStart => exact ⟨0, Nat.zero_le _, rfl, by rw [List.take_zero]; simp only [be8L, List.flatMap_nil, List.append_nil]; exact HO.out, HB.out⟩
    case round =>
    obtain ⟨k, hk, rfl, hown, hBw⟩ := hrel
    obtain ⟨w11, rfl⟩ : ∃ w11 : World, w11 = wr := ⟨_, rfl⟩
    clear HO HB
    have HO := Lib.hid hown
    have HB := Lib.hid hBw
    clear hown hBw
    by_cases hlt : k < s.y.length
    · obtain ⟨b', off', he', hcell⟩ := HR2.out.y.cell k hlt
      subst he'
      have hc' := (HB.out.cell (p := ⟨b', off' + k, none⟩) (cell_lt hcell)).trans hcell
      clear hcell
      go_wp2_with fail
      rw [u64N_eq']
      refine (put_any u5 _ (u64N (nth s.y k)) 8 w2.heap.size _ HO.out HB.out.size (u64N_lt _) (by omega) (by simp only [List.length_append, be4L_length, be8L_length, beB_length, List.length_take, List.length_cons, List.length_nil]; omega)).mono ?_
      rintro e w4 ⟨v4, rfl, hown4, hB4⟩
      rw [List.append_assoc, ← be8L_succ _ _ hlt] at hown4
      have HO4 := Lib.hid hown4
      have HB4 := Lib.hid (HB.out.trans hB4)
      clear hown4 hB4 HO HB
      go_wp2
      go_roundw
      case rel => exact ⟨k + 1, by omega, by go_num, HO4.out, HB4.out⟩
      case measure => simp [intOf]; omega
    obtain rfl : k = s.y.length := by omega
    rw [List.take_length] at HO
    clear hlt hk
    have c0 := (HBX2.out.below HB.out hz2).cell 0 rfl
    have c1 := (HBX2.out.below HB.out hz2).cell 1 rfl
    have c2 := (HBX2.out.below HB.out hz2).cell 2 rfl
    have c3 := (HBX2.out.below HB.out hz2).cell 3 rfl
    have HE : Hid (encSet s = bs ++ mid ++ be8L s.x ++ be4L s.lb ++ be8L s.y) := Lib.hid (by rw [HBS.out, HM.out, encSet, ← HN.out])
    go_wp2
    go_ret2
    exact ⟨_, rfl, by rw [HE.out]; exact own_mono HO.out (Nat.le_of_lt hz2), HB2.out.trans (HB.out.mono (Nat.le_of_lt hz2))⟩
  · go_wp2_with (at_builtin; refine wpList_append_own _ rfl _ _ 23 rfl w2.heap.size 5 i0 (.int .u8 0) 1 1 Try.underlying23 hi hz0 hz1 hz2' rfl (by decide) _ _ _ rfl (HO5.out.alloc _) ⟨w5.heap.size, 0, none⟩ 1 1 [.int .u8 0] rfl rfl (cell_one_new _ _ _) (by simp [Value.oneCell']) (by unfold maxLen; omega) (by omega) (by have := HB5.out.size; simp; omega) ?_; intro v8 w8 hown8 hgrow8 _; refine stopHere ?_)
    refine goOn ?_
    have HB8 := Lib.hid (below_append' HB5.out (Nat.le_refl _) HO5.out hgrow8)
    have HO8 := Lib.hid (show OwnI w8 w2.heap.size 5 .u8 v8 (bs ++ mid) by rw [HM.out, if_pos z]; exact own_snoc hown8)
    clear hown8 hgrow8
    have d0 := (HBX2.out.below HB8.out hz2).cell 0 rfl
    have d1 := (HBX2.out.below HB8.out hz2).cell 1 rfl
    have d2 := (HBX2.out.below HB8.out hz2).cell 2 rfl
    have d3 := (HBX2.out.below HB8.out hz2).cell 3 rfl
    clear hi hz0 hz1 hz2' HO5 HB5
    have HO := HO8
    have HB := HB8
    clear HO8 HB8
    go_wp2_with fail
    go_loopw [5, 61] (fun u i wr => ∃ k : Nat, k ≤ s.x.length ∧ i = .int .i64 k ∧ OwnI wr w2.heap.size 5 .u8 u ((bs ++ mid) ++ be8L (s.x.take k)) ∧ Below w2.heap.size w2 wr) (fun _ i _ => s.x.length - (intOf i).toNat)
    case atStart => exact ⟨0, Nat.zero_le _, rfl, by rw [List.take_zero]; simp only [be8L, List.flatMap_nil, List.append_nil]; exact HO.out, HB.out⟩
    case round =>
    obtain ⟨k, hk, rfl, hown, hBw⟩ := hrel
    obtain ⟨w9, rfl⟩ : ∃ w9 : World, w9 = wr := ⟨_, rfl⟩
    clear HO HB
    have HO := Lib.hid hown
    have HB := Lib.hid hBw
    clear hown hBw
    by_cases hlt : k < s.x.length
    · obtain ⟨b', off', he', hcell⟩ := HR2.out.x.cell k hlt
      subst he'
      have hc' := (HB.out.cell (p := ⟨b', off' + k, none⟩) (cell_lt hcell)).trans hcell
      clear hcell
      go_wp2_with fail
      rw [u64N_eq']
      refine (put_any u5 _ (u64N (nth s.x k)) 8 w2.heap.size _ HO.out HB.out.size (u64N_lt _) (by omega) (by simp only [List.length_append, be4L_length, be8L_length, beB_length, List.length_take, List.length_cons, List.length_nil]; omega)).mono ?_
      rintro e w4 ⟨v4, rfl, hown4, hB4⟩
      rw [List.append_assoc, ← be8L_succ _ _ hlt] at hown4
      have HO4 := Lib.hid hown4
      have HB4 := Lib.hid (HB.out.trans hB4)
      clear hown4 hB4 HO HB
      go_wp2
      go_roundw
      case rel => exact ⟨k + 1, by omega, by go_num, HO4.out, HB4.out⟩
      case measure => simp [intOf]; omega
    obtain rfl : k = s.x.length := by omega
    rw [List.take_length] at HO
    clear hlt hk
    have c0 := (HBX2.out.below HB.out hz2).cell 0 rfl
    have c1 := (HBX2.out.below HB.out hz2).cell 1 rfl
    have c2 := (HBX2.out.below HB.out hz2).cell 2 rfl
    have c3 := (HBX2.out.below HB.out hz2).cell 3 rfl
    go_wp2_with fail
    go_loopw [5, 73] (fun u i wr => ∃ k : Nat, k ≤ s.lb.length ∧ i = .int .i64 k ∧ OwnI wr w2.heap.size 5 .u8 u ((bs ++ mid ++ be8L s.x) ++ be4L (s.lb.take k)) ∧ Below w2.heap.size w2 wr) (fun _ i _ => s.lb.length - (intOf i).toNat)
    case atStart => exact ⟨0, Nat.zero_le _, rfl, by rw [List.take_zero]; simp only [be4L, List.flatMap_nil, List.append_nil]; exact HO.out, HB.out⟩
    case round =>
    obtain ⟨k, hk, rfl, hown, hBw⟩ := hrel
    obtain ⟨w10, rfl⟩ : ∃ w10 : World, w10 = wr := ⟨_, rfl⟩
    clear HO HB
    have HO := Lib.hid hown
    have HB := Lib.hid hBw
    clear hown hBw
    by_cases hlt : k < s.lb.length
    · obtain ⟨b', off', he', hcell⟩ := HR2.out.lb.cell k hlt
      subst he'
      have hc' := (HB.out.cell (p := ⟨b', off' + k, none⟩) (cell_lt hcell)).trans hcell
      clear hcell
      go_wp2_with fail
      rw [u64N_eq']
      refine (put_any u5 _ (u64N (nth s.lb k)) 4 w2.heap.size _ HO.out HB.out.size (u64N_lt _) (by omega) (by simp only [List.length_append, be4L_length, be8L_length, beB_length, List.length_take, List.length_cons, List.length_nil]; omega)).mono ?_
      rintro e w4 ⟨v4, rfl, hown4, hB4⟩
      rw [List.append_assoc, ← be4L_succ _ _ hlt] at hown4
      have HO4 := Lib.hid hown4
      have HB4 := Lib.hid (HB.out.trans hB4)
      clear hown4 hB4 HO HB
      go_wp2
      go_roundw
      case rel => exact ⟨k + 1, by omega, by go_num, HO4.out, HB4.out⟩
      case measure => simp [intOf]; omega
    obtain rfl : k = s.lb.length := by omega
    rw [List.take_length] at HO
    clear hlt hk
    have c0 := (HBX2.out.below HB.out hz2).cell 0 rfl
    have c1 := (HBX2.out.below HB.out hz2).cell 1 rfl
    have c2 := (HBX2.out.below HB.out hz2).cell 2 rfl
    have c3 := (HBX2.out.below HB.out hz2).cell 3 rfl
    go_wp2_with fail
    go_loopw [5, 85] (fun u i wr => ∃ k : Nat, k ≤ s.y.length ∧ i = .int .i64 k ∧ OwnI wr w2.heap.size 5 .u8 u ((bs ++ mid ++ be8L s.x ++ be4L s.lb) ++ be8L (s.y.take k)) ∧ Below w2.heap.size w2 wr) (fun _ i _ => s.y.length - (intOf i).toNat)
    case atStart => exact ⟨0, Nat.zero_le _, rfl, by rw [List.take_zero]; simp only [be8L, List.flatMap_nil, List.append_nil]; exact HO.out, HB.out⟩
    case round =>
    obtain ⟨k, hk, rfl, hown, hBw⟩ := hrel
    obtain ⟨w11, rfl⟩ : ∃ w11 : World, w11 = wr := ⟨_, rfl⟩
    clear HO HB
    have HO := Lib.hid hown
    have HB := Lib.hid hBw
    clear hown hBw
    by_cases hlt : k < s.y.length
    · obtain ⟨b', off', he', hcell⟩ := HR2.out.y.cell k hlt
      subst he'
      have hc' := (HB.out.cell (p := ⟨b', off' + k, none⟩) (cell_lt hcell)).trans hcell
      clear hcell
      go_wp2_with fail
      rw [u64N_eq']
      refine (put_any u5 _ (u64N (nth s.y k)) 8 w2.heap.size _ HO.out HB.out.size (u64N_lt _) (by omega) (by simp only [List.length_append, be4L_length, be8L_length, beB_length, List.length_take, List.length_cons, List.length_nil]; omega)).mono ?_
      rintro e w4 ⟨v4, rfl, hown4, hB4⟩
      rw [List.append_assoc, ← be8L_succ _ _ hlt] at hown4
      have HO4 := Lib.hid hown4
      have HB4 := Lib.hid (HB.out.trans hB4)
      clear hown4 hB4 HO HB
      go_wp2
      go_roundw
      case rel => exact ⟨k + 1, by omega, by go_num, HO4.out, HB4.out⟩
      case measure => simp [intOf]; omega
    obtain rfl : k = s.y.length := by omega
    rw [List.take_length] at HO
    clear hlt hk
    have c0 := (HBX2.out.below HB.out hz2).cell 0 rfl
    have c1 := (HBX2.out.below HB.out hz2).cell 1 rfl
    have c2 := (HBX2.out.below HB.out hz2).cell 2 rfl
    have c3 := (HBX2.out.below HB.out hz2).cell 3 rfl
    have HE : Hid (encSet s = bs ++ mid ++ be8L s.x ++ be4L s.lb ++ be8L s.y) := Lib.hid (by rw [HBS.out, HM.out, encSet, ← HN.out])
    go_wp2
    go_ret2
    exact ⟨_, rfl, by rw [HE.out]; exact own_mono HO.out (Nat.le_of_lt hz2), HB2.out.trans (HB.out.mono (Nat.le_of_lt hz2))⟩
end Go.Proofs.Ytjhejpeklppmbaa
