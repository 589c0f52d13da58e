/-
  data.examples: an iterator over examples' words; its contract.
-/
import Derived.Test.YtjhejpeklppmbaaInRound
import Derived.Test.YtjhejpeklppmbaaSetMay
import Derived.RangeFuncCalls
import Derived.RangeFuncLeaves
import Derived.OwnWalkIn
import Derived.TacticsInMore
import Derived.LoopNIn
import Derived.LoopIn
import Derived.Deep.DeepCutAuto
import Derived.Laws.NewBlocks
import Derived.Deep.RegionHeld3
set_option linter.unusedVariables false
set_option linter.unusedSimpArgs false
namespace Go.Proofs.Ytjhejpeklppmbaa
open Go.RowKit Go.Shelf
attribute [local go_sem] Oper.semAt_some
/-- below B nothing has turned but for these two blocks -/
structure KeepX (B R S : Nat) (w w' : World) : Prop where
  size : w.heap.size ≤ w'.heap.size
  block : ∀ k, k < B → k ≠ R → k ≠ S → w'.heap[k]? = w.heap[k]?
  rest : w'.os = w.os ∧ w'.tape = w.tape ∧ w'.output = w.output
theorem KeepX.refl (B R S : Nat) (w : World) : KeepX B R S w w := ⟨Nat.le_refl _, fun _ _ _ _ => rfl, rfl, rfl, rfl⟩
theorem KeepX.trans {B R S : Nat} {a b c : World} (h : KeepX B R S a b) (k : KeepX B R S b c) : KeepX B R S a c := ⟨Nat.le_trans h.size k.size, fun i h1 h2 h3 => (k.block i h1 h2 h3).trans (h.block i h1 h2 h3), k.rest.1.trans h.rest.1, k.rest.2.1.trans h.rest.2.1, k.rest.2.2.trans h.rest.2.2⟩
theorem KeepX.box {B R S b : Nat} {T : TypeId} {cs : Array Value} {w w' : World} (h : KeepX B R S w w') (hb : Box w b T cs) (h1 : b < B) (h2 : b ≠ R) (h3 : b ≠ S) : Box w' b T cs := (h.block b h1 h2 h3).trans hb
theorem KeepX.cell {B R S : Nat} {w w' : World} (h : KeepX B R S w w') {b o : Nat} {v : Value} (hc : w.cell? ⟨b, o, none⟩ = some v) (h1 : b < B) (h2 : b ≠ R) (h3 : b ≠ S) : w'.cell? ⟨b, o, none⟩ = some v :=
  (World.cell?_of_block (w := w) (a := ⟨b, o, none⟩) (h.block b h1 h2 h3)).trans hc
/-- the part of a slice between two places -/
def partV (v : Value) (lo hi : Nat) : Value :=
  match v with
  | .slice o n cap => .slice (if cap = lo then o else o.map (fun x => x.add lo)) (hi - lo) (cap - lo)
  | v => v
abbrev exEnc (v1 v3 : Value) (ids : List Int) (size many : Nat) (i : Fin ids.length) : Array Value :=
  #[partV v1 ((nth ids i.1).toNat * size) (((nth ids i.1).toNat + 1) * size), partV v3 ((nth ids i.1).toNat * many) (((nth ids i.1).toNat + 1) * many)]
set_option maxRecDepth 100000 in
set_option maxHeartbeats 2000000 in
theorem examples1_stops (m B R S bI bS bZ bM : Nat) (ids : List Int) (oi : Option Addr) (ci : Nat) (v0 v2 : Value) (ox oy : Option Addr) (nx ny cx cy size many cnt : Nat) (w : World)
    (hI : Box w bI 32 #[.slice oi ids.length ci]) (hS : Box w bS 35 #[v0, .slice ox nx cx, v2, .slice oy ny cy]) (hZ : w.cell? ⟨bZ, 0, none⟩ = some (.int .i64 size)) (hM : w.cell? ⟨bM, 0, none⟩ = some (.int .i64 many))
    (hB : bI < B ∧ bS < B ∧ bZ < B ∧ bM < B) (hR : bI ≠ R ∧ bS ≠ R ∧ bZ ≠ R ∧ bM ≠ R) (hSS : bI ≠ S ∧ bS ≠ S ∧ bZ ≠ S ∧ bM ≠ S)
    (hids : ∀ i, i < ids.length → ∃ b off, oi = some ⟨b, off, none⟩ ∧ w.cell? ⟨b, off + i, none⟩ = some (.int .i64 (nth ids i)) ∧ b < B ∧ b ≠ R ∧ b ≠ S)
    (hk : ∀ i, i < ids.length → 0 ≤ nth ids i ∧ nth ids i < cnt) (hsz : size ≤ 65536) (hmn : many ≤ 65536) (hcn : cnt ≤ 1024) (hnx : cnt * size ≤ nx) (hny : cnt * many ≤ ny) (hcx : nx ≤ cx) (hcy : ny ≤ cy) (hl : ids.length ≤ 4096) (hcl : cx ≤ 9223372036854775807 ∧ cy ≤ 9223372036854775807) (hW : B ≤ w.heap.size) :
    SeqStopsK Fence.wide m Try.prog 67 #[.pointer (some ⟨bI, 0, none⟩), .pointer (some ⟨bS, 0, none⟩), .pointer (some ⟨bZ, 0, none⟩), .pointer (some ⟨bM, 0, none⟩)]
      (exEnc (.slice ox nx cx) (.slice oy ny cy) ids size many) (KeepX B R S) (fun xs => xs = List.finRange ids.length) (fun _ => True) ids.length w := fun l J Jx W hBW hJa hJx hY h0 => by
  refine callsIn_of_wp Try.func67 rfl trivial ?_ rfl
  simp only [Try.ntmps67, List.size_toArray, List.length_cons, List.length_nil, Nat.reduceAdd, Nat.reduceSub, Array.replicate_succ, Array.replicate_zero, List.push_toArray, List.append_toArray, List.nil_append, List.cons_append]
  have HY := Lib.hid hY
  have HK0 := Lib.hid (show KeepX B R S w W from ⟨hBW.size, fun k h1 _ _ => hBW.block k (by omega), hBW.os, hBW.tape, hBW.output⟩)
  have HI := Lib.hid hI
  have HS := Lib.hid hS
  have HZ := Lib.hid hZ
  have HM := Lib.hid hM
  have HIDS := Lib.hid hids
  have HKK := Lib.hid hk
  have HJA := Lib.hid (show ∀ s W', J s W' → J s W'.drew from fun s W' hj => hJa s W' W'.drew none hj ⟨rfl, rfl, rfl, Nat.le_refl _, fun _ _ _ => rfl⟩ (fun r e => by cases e))
  clear hY hI hS hZ hM hids hk hBW hJa hJx
  obtain ⟨hB1, hB2, hB3, hB4⟩ := hB
  obtain ⟨hR1, hR2, hR3, hR4⟩ := hR
  obtain ⟨hS1, hS2, hS3, hS4⟩ := hSS
  have c0 : W.cell? ⟨bI, 0, none⟩ = some (.slice oi ids.length ci) := (HK0.out.box HI.out hB1 hR1 hS1).cell 0 rfl
  gi_wp2
  gi_loopw [7, 10] (fun _ i wr => ∃ k : Nat, k ≤ ids.length ∧ i = .int .i64 k ∧ J ((List.finRange ids.length).take k) wr ∧ KeepX B R S w wr) (fun _ i _ => ids.length - (intOf i).toNat)
  case atStart => exact ⟨0, by omega, rfl, h0, HK0.out⟩
  case round =>
    obtain ⟨k, hk, rfl, hJ, hkx⟩ := hrel
    have HJ := Lib.hid hJ
    have HKX := Lib.hid hkx
    clear hJ h0 hkx c0
    by_cases hlt : k < ids.length
    · obtain ⟨b, off, rfl, hc, hb1, hb2, hb3⟩ := HIDS.out k hlt
      have ci := HKX.out.cell hc hb1 hb2 hb3
      have c1 : wr.cell? ⟨bS, 1, none⟩ = some (.slice ox nx cx) := (HKX.out.box HS.out hB2 hR2 hS2).cell 1 rfl
      have c3 : wr.cell? ⟨bS, 3, none⟩ = some (.slice oy ny cy) := (HKX.out.box HS.out hB2 hR2 hS2).cell 3 rfl
      have cz : wr.cell? ⟨bZ, 0, none⟩ = some (.int .i64 size) := HKX.out.cell HZ.out hB3 hR3 hS3
      have cm : wr.cell? ⟨bM, 0, none⟩ = some (.int .i64 many) := HKX.out.cell HM.out hB4 hR4 hS4
      obtain ⟨hk0, hk1⟩ := HKK.out k hlt
      clear hc
      obtain ⟨q, hq⟩ : ∃ q : Nat, (q : Int) = nth ids k := ⟨(nth ids k).toNat, by omega⟩
      have hqc : q < cnt := by omega
      rw [← hq] at ci hk0 hk1
      have HQ := Lib.hid hq
      obtain ⟨q1, hq1⟩ : ∃ q1, q1 = q + 1 := ⟨_, rfl⟩
      obtain ⟨A, hA⟩ : ∃ A, A = q * size := ⟨_, rfl⟩
      obtain ⟨A1, hA1⟩ : ∃ A1, A1 = q1 * size := ⟨_, rfl⟩
      obtain ⟨C, hC⟩ : ∃ C, C = q * many := ⟨_, rfl⟩
      obtain ⟨C1, hC1⟩ : ∃ C1, C1 = q1 * many := ⟨_, rfl⟩
      have m1 : q1 * size ≤ cnt * size := Nat.mul_le_mul_right _ (by omega)
      have m2 : q1 * many ≤ cnt * many := Nat.mul_le_mul_right _ (by omega)
      have m3 : A1 = A + size := by rw [hA1, hA, hq1, Nat.add_mul, Nat.one_mul]
      have m4 : C1 = C + many := by rw [hC1, hC, hq1, Nat.add_mul, Nat.one_mul]
      have n1 : A ≤ A1 := by omega
      have n2 : A1 ≤ nx := by omega
      have n3 : C ≤ C1 := by omega
      have n4 : C1 ≤ ny := by omega
      have n5 : A1 ≤ cx := by omega
      have n6 : C1 ≤ cy := by omega
      have e1 : IntKind.i64.wrap ((q : Int) * size) = (A : Int) := by rw [IntWalk.i64_in _ (by rw [← Int.natCast_mul, ← hA]; omega), hA, Int.natCast_mul]
      have e2 : IntKind.i64.wrap ((q : Int) + 1) = (q1 : Int) := by rw [IntWalk.i64_in _ (by omega)]; omega
      have e3 : IntKind.i64.wrap ((q1 : Int) * size) = (A1 : Int) := by rw [IntWalk.i64_in _ (by rw [← Int.natCast_mul, ← hA1]; omega), hA1, Int.natCast_mul]
      have e4 : IntKind.i64.wrap ((q : Int) * many) = (C : Int) := by rw [IntWalk.i64_in _ (by rw [← Int.natCast_mul, ← hC]; omega), hC, Int.natCast_mul]
      have e5 : IntKind.i64.wrap ((q1 : Int) * many) = (C1 : Int) := by rw [IntWalk.i64_in _ (by rw [← Int.natCast_mul, ← hC1]; omega), hC1, Int.natCast_mul]
      have HAll := Lib.hid (And.intro hq1 (And.intro hA (And.intro hA1 (And.intro hC hC1))))
      clear hq hq1 hA hA1 hC hC1 m1 m2 m3 m4 hk0 hk1
      gi_wp2
      refine wpIn_region_still_tail 21 (by kernel_rfl) (by kernel_rfl) ?_
      simp only [List.take_succ_cons, List.take_zero, List.drop_succ_cons, List.drop_zero]
      repeat still_step
      refine wpStill_nil ?_
      have hE : exEnc (.slice ox nx cx) (.slice oy ny cy) ids size many ⟨k, hlt⟩ = #[.slice (if cx = A then ox else ox.map (fun x => x.add A)) (A1 - A) (cx - A), .slice (if cy = C then oy else oy.map (fun x => x.add C)) (C1 - C) (cy - C)] := by
        obtain ⟨a1, a2, a3, a4, a5⟩ := HAll.out
        have hqt : (nth ids k).toNat = q := by rw [← HQ.out, Int.toNat_natCast]
        simp only [exEnc, partV, hqt]
        rw [a2, a3, a4, a5, a1]
      obtain ⟨fn, tmps, assign, body, hy, hR⟩ := HY.out ((List.finRange ids.length).take k) ⟨k, hlt⟩ wr.drew (HJA.out _ _ HJ.out) (by rw [List.length_take, List.length_finRange]; omega)
      rw [hE] at hy
      have HR := Lib.hid hR
      clear hR hE e1 e2 e3 e4 e5 ci c1 c3 cz cm
      generalize Value.slice (if cx = A then ox else ox.map (fun x => x.add A)) (A1 - A) (cx - A) = sx at hy ⊢
      generalize Value.slice (if cy = C then oy else oy.map (fun x => x.add C)) (C1 - C) (cy - C) = sy at hy ⊢
      gi_wp2
      refine ⟨fun h => by simp [Fence.wide] at h, HR.out.mono ?_⟩
      clear HR hy
      rintro e W' (⟨rfl, hJ', hK'⟩ | ⟨rfl, hJx'⟩)
      · have HJ' := Lib.hid hJ'
        have HK' := Lib.hid (HKX.out.trans (KeepX.trans (b := wr.drew) ⟨Nat.le_refl _, fun _ _ _ _ => rfl, rfl, rfl, rfl⟩ hK'))
        clear hJ' hK'
        gi_wp2
        go_roundw
        case rel => exact ⟨k + 1, by omega, by go_num, by rw [List.take_succ_eq_append_getElem (by simpa using hlt)]; simpa using HJ'.out, HK'.out⟩
        case measure => simp [intOf]; omega
      · have HJx' := Lib.hid hJx'
        clear hJx'
        gi_wp2
        refine bodyPost_ret (results_none rfl _ _ _) rfl ?_
        exact ⟨⟨_, rfl⟩, .inr ⟨_, trivial, HJx'.out⟩⟩
    · obtain rfl : k = ids.length := by omega
      have HJ2 := Lib.hid (show J (List.finRange ids.length) wr by have := HJ.out; rwa [List.take_of_length_le (by simp)] at this)
      gi_wp2
      go_end0
      exact ⟨⟨_, rfl⟩, .inl ⟨_, rfl, HJ2.out⟩⟩
set_option maxHeartbeats 400000 in
theorem dataEach_exact (o1 o2 o3 o4 : Option Addr) (n1 n2 n3 n4 k1 k2 k3 k4 : Nat) (n : Int) (w : World) (hn : 1 ≤ n) (hl : n4 ≤ 100000) :
    Calls Try.prog 45 #[.agg #[.slice o1 n1 k1, .slice o2 n2 k2, .slice o3 n3 k3, .slice o4 n4 k4], .int .i64 n] w fun e w' => e = .returned (.int .i64 ((n4 : Int) / n)) ∧ w.alloc (.cells #[.slice o1 n1 k1, .slice o2 n2 k2, .slice o3 n3 k3, .slice o4 n4 k4] 35) = w' := by
  have hq1 : 0 ≤ (n4 : Int) / n := Int.ediv_nonneg (by omega) (by omega)
  have hq2 : (n4 : Int) / n ≤ 100000 := Int.le_trans (Int.ediv_le_self _ (by omega)) (by omega)
  go_enter Try.func45, Try.ntmps45
  go_wp2
  go_ret
  exact ⟨rfl, rfl⟩
theorem below_more {a w : World} (h : Below a.heap.size a w) (o : Obj) : Below a.heap.size a (w.alloc o) := h.alloc h.size o
theorem keep4 {w W : World} {b : Nat} {T : TypeId} {x0 x1 x2 x3 : Value} (hb : Box w b T #[x0, x1, x2, x3]) (hB : Below w.heap.size w W) :
    W.cell? ⟨b, 0, none⟩ = some x0 ∧ W.cell? ⟨b, 1, none⟩ = some x1 ∧ W.cell? ⟨b, 2, none⟩ = some x2 ∧ W.cell? ⟨b, 3, none⟩ = some x3 :=
  ⟨(hb.next hB).cell 0 rfl, (hb.next hB).cell 1 rfl, (hb.next hB).cell 2 rfl, (hb.next hB).cell 3 rfl⟩
/-- what examples hands back: a closure over four blocks of its own -/
structure ExAt (B0 : Nat) (w : World) (bI bS bZ bM : Nat) (vi v0 v1 v2 v3 : Value) (size many : Nat) : Prop where
  hI : Box w bI 32 #[vi]
  hS : Box w bS 35 #[v0, v1, v2, v3]
  hZ : w.cell? ⟨bZ, 0, none⟩ = some (.int .i64 size)
  hM : w.cell? ⟨bM, 0, none⟩ = some (.int .i64 many)
  g : B0 ≤ bI ∧ B0 ≤ bS ∧ B0 ≤ bZ ∧ B0 ≤ bM
set_option maxRecDepth 100000 in
set_option maxHeartbeats 2000000 in
theorem examples_any (a b c d : Value) (s : SetD) (oi : Option Addr) (ni ci size many : Nat) (w : World) (hr : RdSet w a b c d s) (hs : s.sh.all dimB = true) (h4 : s.sh.length ≤ 4) (hl : LimSet s) (hn : 1 ≤ countS s) (hsz : (size : Int) = prodL s.sh) (hmn : (many : Int) = (s.y.length : Int) / countS s) :
    Calls Try.prog 47 #[.agg #[a, b, c, d], .slice oi ni ci] w fun e w' => ∃ bI bS bZ bM, e = .returned (.func (.func 67) #[] #[.pointer (some ⟨bI, 0, none⟩), .pointer (some ⟨bS, 0, none⟩), .pointer (some ⟨bZ, 0, none⟩), .pointer (some ⟨bM, 0, none⟩)]) ∧
      ExAt w.heap.size w' bI bS bZ bM (.slice oi ni ci) a b c d size many ∧ Below w.heap.size w w' := by
  obtain ⟨o1, cap1, he1⟩ := rd_slice hr.sh
  obtain ⟨o2, cap2, he2⟩ := rd_slice hr.x
  obtain ⟨o3, cap3, he3⟩ := rd_slice hr.lb
  obtain ⟨o4, cap4, he4⟩ := rd_slice hr.y
  subst he1 he2 he3 he4
  have hmf : ∀ (fn : Fn) (first cap : Array Value) (w : World), (Instr.makeFunc fn first cap).run Try.prog w = .ok (.func fn first cap) w := fun _ _ _ _ => rfl
  obtain ⟨n, hne⟩ : ∃ n, n = countS s := ⟨_, rfl⟩
  rw [← hne] at hn hmn
  have HN := Lib.hid hne
  have HR := Lib.hid hr
  have HA := Lib.hid hs
  have HL := Lib.hid hl
  have HSZ := Lib.hid hsz
  have HMN := Lib.hid hmn
  obtain ⟨W2, hW2⟩ : ∃ W2, W2 = ((w.alloc (.cells #[.slice o1 s.sh.length cap1, .slice o2 s.x.length cap2, .slice o3 s.lb.length cap3, .slice o4 s.y.length cap4] 35)).alloc (.cells #[.slice oi ni ci] 32)) := ⟨_, rfl⟩
  have HBl := Lib.hid (show Below w.heap.size w W2 by rw [hW2]; exact ((Below.refl _ _).alloc (Nat.le_refl _) _).alloc (by simp) _)
  have HXS := Lib.hid (show Box W2 w.heap.size 35 #[.slice o1 s.sh.length cap1, .slice o2 s.x.length cap2, .slice o3 s.lb.length cap3, .slice o4 s.y.length cap4] by
    rw [hW2]; exact (Box.new w _ _).next ((Below.refl _ _).alloc (Nat.le_refl _) _))
  have HXI := Lib.hid (show Box W2 (w.heap.size + 1) 32 #[.slice oi ni ci] by rw [hW2]; have := Box.new (w.alloc (.cells #[.slice o1 s.sh.length cap1, .slice o2 s.x.length cap2, .slice o3 s.lb.length cap3, .slice o4 s.y.length cap4] 35)) 32 #[.slice oi ni ci]; simpa using this)
  have HW2 := Lib.hid hW2
  clear hr hs hl hsz hmn hne
  have d0 : W2.cell? ⟨w.heap.size, 0, none⟩ = some (.slice o1 s.sh.length cap1) := HXS.out.cell 0 rfl
  have d1 : W2.cell? ⟨w.heap.size, 1, none⟩ = some (.slice o2 s.x.length cap2) := HXS.out.cell 1 rfl
  have d2 : W2.cell? ⟨w.heap.size, 2, none⟩ = some (.slice o3 s.lb.length cap3) := HXS.out.cell 2 rfl
  have d3 : W2.cell? ⟨w.heap.size, 3, none⟩ = some (.slice o4 s.y.length cap4) := HXS.out.cell 3 rfl
  rw [hW2] at d0 d1 d2 d3
  clear hW2
  go_enter Try.func47, Try.ntmps47
  go_wp2_with fail
  rw [← HW2.out]
  clear HW2 d0 d1 d2 d3
  refine (dataCount_any _ _ _ _ s _ (HR.out.below HBl.out (Nat.le_refl _)) HA.out h4 HL.out).mono ?_
  rintro e w3 ⟨rfl, hb3⟩
  rw [← HN.out]
  have HB3 := Lib.hid (HBl.out.trans (hb3.mono HBl.out.size))
  have HXS3 := Lib.hid (HXS.out.next hb3)
  have HXI3 := Lib.hid (HXI.out.next hb3)
  have HR3 := Lib.hid (HR.out.below HB3.out (Nat.le_refl _))
  have d0 : w3.cell? ⟨w.heap.size, 0, none⟩ = some (.slice o1 s.sh.length cap1) := HXS3.out.cell 0 rfl
  have d1 : w3.cell? ⟨w.heap.size, 1, none⟩ = some (.slice o2 s.x.length cap2) := HXS3.out.cell 1 rfl
  have d2 : w3.cell? ⟨w.heap.size, 2, none⟩ = some (.slice o3 s.lb.length cap3) := HXS3.out.cell 2 rfl
  have d3 : w3.cell? ⟨w.heap.size, 3, none⟩ = some (.slice o4 s.y.length cap4) := HXS3.out.cell 3 rfl
  clear hb3 HBl HXS HXI
  go_wp2_with fail
  have HX := Lib.hid (show Below w3.heap.size w3 w3.drew from Below.drew (Below.refl _ _))
  go_cut [6, 7] (fun s6 s7 wx => ∃ bZ bM, s6 = .pointer (some ⟨bZ, 0, none⟩) ∧ s7 = .pointer (some ⟨bM, 0, none⟩) ∧ wx.cell? ⟨bZ, 0, none⟩ = some (.int .i64 size) ∧ wx.cell? ⟨bM, 0, none⟩ = some (.int .i64 many) ∧ w3.heap.size ≤ bZ ∧ w3.heap.size ≤ bM ∧ Below w3.heap.size w3 wx)
  case first =>
    have hly := HL.out.y
    have hpc : ∀ (W : World) (bb oo : Nat) (ob : Obj), bb < W.heap.size → (W.alloc ob).cell? ⟨bb, oo, none⟩ = W.cell? ⟨bb, oo, none⟩ := fun W bb oo ob hlt => World.cell?_of_block (w := W) (a := ⟨bb, oo, none⟩) (Below.heap_alloc W ob bb hlt)
    have hpf : ∀ (W : World) (bb oo : Nat) (ob : Obj), bb < W.heap.size → (W.alloc ob).frozen? ⟨bb, oo, none⟩ = W.frozen? ⟨bb, oo, none⟩ := fun W bb oo ob hlt => World.frozen?_of_block (w := W) (a := ⟨bb, oo, none⟩) (Below.heap_alloc W ob bb hlt)
    have hn1 : ∀ (kk i : Nat) (cc : Array Value) (t : TypeId), ((w3.drewN kk).alloc (.cells cc t)).cell? ⟨w3.heap.size, i, none⟩ = cc[i]? := fun kk i cc t => World.cell?_alloc_new (w := w3.drewN kk) cc t i
    have hn2 : ∀ (kk i : Nat) (cc : Array Value) (t : TypeId), ((w3.drewN kk).alloc (.cells cc t)).frozen? ⟨w3.heap.size, i, none⟩ = false := fun kk i cc t => World.frozen?_alloc_new (w := w3.drewN kk) cc t i
    have hl0 : w.heap.size < w3.heap.size := HXS3.out.lt
    have hl1 : w.heap.size < w3.heap.size + 1 := by omega
    have hl2 : w.heap.size < w3.heap.size + 1 + 1 := by omega
    have hl2' : w.heap.size < w3.heap.size + 2 := by omega
    have hl3 : w.heap.size < w3.heap.size + 3 := by omega
    have en0 := World.new_ne w3 _ d0
    have en1 := World.new_ne w3 _ d1
    have en2 := World.new_ne w3 _ d2
    have en3 := World.new_ne w3 _ d3
    go_region_held3 (fun w' => w'.cell? ⟨w.heap.size, 0, none⟩ = some (.slice o1 s.sh.length cap1) ∧ w'.cell? ⟨w.heap.size, 1, none⟩ = some (.slice o2 s.x.length cap2) ∧ w'.cell? ⟨w.heap.size, 2, none⟩ = some (.slice o3 s.lb.length cap3) ∧ w'.cell? ⟨w.heap.size, 3, none⟩ = some (.slice o4 s.y.length cap4)) (first | (with_reducible exact ⟨d0, d1, d2, d3⟩) | (refine keep4 HXS3.out ?_; (repeat first | refine below_more ?_ _ | (refine Below.setCell ?_ ?_ _; rotate_left; (first | exact Nat.le_refl _ | exact Nat.le_succ _ | (simp; done) | (simp; omega))) | refine below_drewN ?_ _ | refine Below.drew ?_ | exact Below.refl _ _)))
      (first
      | (go_at_call 63; refine (shapeSize_any _ s.sh _ (HR3.out.sh.below (by first | exact below_drewN (Below.refl _ _) _ | exact (below_drewN ((Below.refl _ _).alloc (Nat.le_refl _) _) _) | exact (below_drewN (((Below.refl _ _).alloc (Nat.le_refl _) _).alloc (by simp) _) _) | exact Below.drew (Below.refl _ _) | exact Below.drew ((Below.refl _ _).alloc (Nat.le_refl _) _) | exact Below.drew (((Below.refl _ _).alloc (Nat.le_refl _) _).alloc (by simp) _)) (Nat.le_refl _)) HA.out h4).mono ?_; rintro e w4 ⟨rfl, nq, rfl⟩; rw [← HSZ.out])
      | (go_at_call 45; refine (dataEach_exact _ _ _ _ _ _ _ _ _ _ _ _ n _ hn hly).mono ?_; rintro e w5 ⟨rfl, rfl⟩; rw [← HMN.out]))
    all_goals go_wp2_with fail
    all_goals go_meet
    all_goals refine ⟨_, _, rfl, rfl, ?_, ?_, ?_, ?_, ?_⟩
    all_goals first | omega | exact Nat.le_refl _ | (go_simp; done) | (repeat first | refine below_more ?_ _ | (refine Below.setCell ?_ ?_ _; rotate_left; (first | exact Nat.le_refl _ | exact Nat.le_succ _ | (simp; done) | (simp; omega))) | refine below_drewN ?_ _ | refine Below.drew ?_ | exact Below.refl _ _)
  case rest =>
    obtain ⟨bZ, bM, rfl, rfl, hz, hm, g1, g2, hb⟩ := hcut
    obtain ⟨w6, rfl⟩ : ∃ w6, w6 = wc := ⟨_, rfl⟩
    have HZZ := Lib.hid hz
    have HMM := Lib.hid hm
    have HBB := Lib.hid hb
    clear hz hm hb d0 d1 d2 d3 HX
    go_wp2
    go_ret
    have hsz3 := HB3.out.size
    exact ⟨_, _, _, _, rfl, ⟨HXI3.out.next HBB.out, HXS3.out.next HBB.out, HZZ.out, HMM.out, by omega, by omega, by omega, by omega⟩, HB3.out.trans (HBB.out.mono hsz3)⟩
end Go.Proofs.Ytjhejpeklppmbaa
