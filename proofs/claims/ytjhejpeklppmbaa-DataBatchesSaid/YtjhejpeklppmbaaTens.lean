/-
  TENSORS: compared, written over; law 8's Is.
-/
import Derived.Test.YtjhejpeklppmbaaAllPlain
set_option linter.unusedVariables false
set_option linter.unusedSimpArgs false
namespace Go.Proofs.Ytjhejpeklppmbaa
open Go.RowKit Go.Shelf
structure RdT (w : World) (a b : Value) (sh da : List Int) : Prop where
  sh : Rd w .i64 a sh
  da : Rd w .i64 b da
theorem RdT.below {w w' : World} {a b : Value} {sh da : List Int} {B : Nat} (h : RdT w a b sh da) (hB : Below B w w') (hs : w.heap.size ≤ B) : RdT w' a b sh da := ⟨h.sh.below hB hs, h.da.below hB hs⟩
theorem num8_any (n : Int) (w : World) : Calls Try.prog 49 #[.int .i64 n] w fun e w' => e = .returned (.int .i64 n) ∧ w = w' := by
  go_enter Try.func49, Try.ntmps49
  go_wp2
  go_ret
  exact ⟨rfl, rfl⟩
set_option maxRecDepth 100000 in
set_option maxHeartbeats 1000000 in
theorem eqTensor_yes (a b c d : Value) (sh da : List Int) (w : World) (hr : RdT w a b sh da) (hs : RdT w c d sh da) (h1 : sh.length ≤ 140737488351232) (h2 : da.length ≤ 140737488351232) :
    Calls Try.prog 24 #[.agg #[a, b], .agg #[c, d]] w fun e w' => e = .returned (.bool true) ∧ Below w.heap.size w w' := by
  obtain ⟨o1, cap1, he1⟩ := rd_slice hr.sh
  obtain ⟨o2, cap2, he2⟩ := rd_slice hr.da
  obtain ⟨p1, kap1, hf1⟩ := rd_slice hs.sh
  obtain ⟨p2, kap2, hf2⟩ := rd_slice hs.da
  subst he1 he2 hf1 hf2
  have HR := Lib.hid hr
  have HS := Lib.hid hs
  clear hr hs
  have HB := Lib.hid (show Below w.heap.size w ((w.alloc (.cells #[.slice o1 sh.length cap1, .slice o2 da.length cap2] 41)).alloc (.cells #[.slice p1 sh.length kap1, .slice p2 da.length kap2] 41)) from ((Below.refl _ _).alloc (Nat.le_refl _) _).alloc (by simp) _)
  go_enter Try.func24, Try.ntmps24
  go_wp2_with fail
  refine (eqNumbers_yes (xs := sh) (HR.out.below HB.out (Nat.le_refl _)).sh (HS.out.below HB.out (Nat.le_refl _)).sh h1).mono ?_
  rintro e w1 ⟨rfl, n1, rfl⟩
  go_wp2_with fail
  refine (eqWords_yes (xs := da) ((HR.out.below HB.out (Nat.le_refl _)).da.same ⟨_, rfl⟩) ((HS.out.below HB.out (Nat.le_refl _)).da.same ⟨_, rfl⟩) h2).mono ?_
  rintro e w1 ⟨rfl, n2, rfl⟩
  go_wp2_with fail
  go_ret
  exact ⟨rfl, below_drewN HB.out _⟩
/-- these two rows are written over -/
structure Spoil2 (C : Nat) (xs xd : Value) (w w' : World) : Prop where
  below : Below C w w'
  block : ∀ k, k < w.heap.size → some k ≠ xs.ownBlock → some k ≠ xd.ownBlock → w'.heap[k]? = w.heap[k]?
theorem Spoil2.own {C : Nat} {xs xd : Value} {w w' : World} (h : Spoil2 C xs xd w w') {B : Nat} {e : TypeId} {s : Nat} {v : Value} {n : Nat} {l : List Value} (ho : w.ownsRow B e s v n l) (h1 : Sep xs v) (h2 : Sep xd v) : w'.ownsRow B e s v n l := by
  refine ⟨ho.1, ?_⟩
  rcases ho.2 with hn | ⟨g, cap, cur, rfl, hb, hgg, rest⟩
  · exact .inl hn
  · exact .inr ⟨g, cap, cur, rfl, hb, by rw [h.block g (Array.getElem?_eq_some_iff.1 hgg).1 (fun e => h1 g e.symm rfl) (fun e => h2 g e.symm rfl)]; exact hgg, rest⟩
theorem Spoil2.box {C : Nat} {xs xd : Value} {w w' : World} (h : Spoil2 C xs xd w w') {b : Nat} {T : TypeId} {cs : Array Value} (hb : Box w b T cs) (h1 : ∀ g, xs.ownBlock = some g → g ≠ b) (h2 : ∀ g, xd.ownBlock = some g → g ≠ b) : Box w' b T cs :=
  (h.block b hb.lt (fun e => h1 b e.symm rfl) (fun e => h2 b e.symm rfl)).trans hb
theorem Spoil2.after {C : Nat} {xs xd : Value} {w0 w w' : World} (h : Spoil2 C xs xd w w') (hb : Below w0.heap.size w0 w) (hC : C ≤ w0.heap.size) : Spoil2 C xs xd w0 w' :=
  ⟨(hb.mono hC).trans h.below, fun k hk h1 h2 => (h.block k (Nat.lt_of_lt_of_le hk hb.size) h1 h2).trans (hb.block k hk)⟩
theorem Spoil2.of_below {C : Nat} {xs xd : Value} {w w' : World} (hb : Below w.heap.size w w') (hC : C ≤ w.heap.size) : Spoil2 C xs xd w w' := ⟨hb.mono hC, fun k hk _ _ => hb.block k hk⟩
set_option maxRecDepth 100000 in
set_option maxHeartbeats 1000000 in
theorem law0Tensor_any (a b : Value) (sh da : List Int) (C : Nat) (w : World) (h1 : OwnI w C 3 .i64 a sh) (h2 : OwnI w C 2 .i64 b da) (hC : C ≤ w.heap.size) (l1 : sh.length ≤ 100000000) (l2 : da.length ≤ 100000000) :
    Calls Try.prog 27 #[.agg #[a, b]] w fun e w' => e = .returned (.tuple #[]) ∧ Spoil2 C a b w w' := by
  obtain ⟨o1, cap1, rfl⟩ := own_slice h1
  obtain ⟨o2, cap2, rfl⟩ := own_slice h2
  have HS := Lib.hid (sep_type h1 h2 (by decide))
  obtain ⟨W0, hW0⟩ : ∃ W0, W0 = w.alloc (.cells #[.slice o1 sh.length cap1, .slice o2 da.length cap2] 41) := ⟨_, rfl⟩
  have hb : Below w.heap.size w W0 := by rw [hW0]; exact (Below.refl _ _).alloc (Nat.le_refl _) _
  have HX := Lib.hid (show Box W0 w.heap.size 41 #[.slice o1 sh.length cap1, .slice o2 da.length cap2] by rw [hW0]; exact Box.new _ _ _)
  have HO1 := Lib.hid (own_below h1 hb (Nat.le_refl _))
  have HO2 := Lib.hid (own_below h2 hb (Nat.le_refl _))
  have HL1 := Lib.hid (fun g hg => (h1.lt g hg).2)
  have HL2 := Lib.hid (fun g hg => (h2.lt g hg).2)
  have HB := Lib.hid hb
  have hs0 := hb.size
  have HW := Lib.hid hW0
  clear h1 h2 hb hW0
  have c0 := HX.out.cell 0 rfl
  rw [HW.out] at c0
  go_enter Try.func27, Try.ntmps27
  go_wp2_with fail
  rw [← HW.out]
  clear c0 HW
  refine (law0Numbers_any _ sh C _ HO1.out (by omega) l1).mono ?_
  rintro e w1 ⟨rfl, hg1⟩
  have HG1 := Lib.hid hg1
  have HO21 := Lib.hid (own_grown HO2.out hg1 HS.out)
  have c1 : w1.cell? ⟨w.heap.size, 1, none⟩ = some (.slice o2 da.length cap2) := by
    have hx : Box w1 w.heap.size 41 #[.slice o1 sh.length cap1, .slice o2 da.length cap2] := (hg1.block _ HX.out.lt (fun e => by have := HL1.out _ e.symm; omega)).trans HX.out
    exact hx.cell 1 rfl
  have hsz1 := hg1.size
  clear hg1
  go_wp2_with fail
  refine (law0Words_any _ da C _ HO21.out (by omega) l2).mono ?_
  rintro e w2 ⟨rfl, hg2⟩
  have HG2 := Lib.hid hg2
  clear hg2 c1
  go_wp2_with fail
  go_end0
  refine ⟨rfl, Spoil2.after (w := W0) ⟨(below_grown HO1.out HG1.out (by omega)).trans (below_grown HO21.out HG2.out (by omega)), fun k hk h1 h2 => (HG2.out.block k (Nat.lt_of_lt_of_le hk HG1.out.size) h2).trans (HG1.out.block k hk h1)⟩ HB.out hC⟩
/-- refused: nothing but two answers of nils is compared -/
theorem is_bad (n : Int) (c d : Value) (w : World) (hn : n ≠ 0) (h1 : (n == 0) = false) (hc : ∃ o m k, c = .slice o m k) (hd : ∃ o m k, d = .slice o m k) :
    Calls Try.prog 25 #[.agg #[.slice none 0 0, .slice none 0 0], .int .i64 n, .agg #[c, d], .int .i64 n] w fun e w' => e = .returned (.bool true) ∧ Below w.heap.size w w' := by
  obtain ⟨o1, m1, k1, rfl⟩ := hc
  obtain ⟨o2, m2, k2, rfl⟩ := hd
  have hnn : (n == n) = true := beq_self_eq_true n
  have HB := Lib.hid (show Below w.heap.size w ((w.alloc (.cells #[.slice none 0 0, .slice none 0 0] 41)).alloc (.cells #[.slice o1 m1 k1, .slice o2 m2 k2] 41)) from ((Below.refl _ _).alloc (Nat.le_refl _) _).alloc (by simp) _)
  go_enter Try.func25, Try.ntmps25
  go_wp2_with fail
  refine (num8_any _ _).mono ?_
  rintro e w' ⟨rfl, rfl⟩
  go_wp2_with fail
  refine (eqTensor_yes _ _ _ _ [] [] _ ⟨Rd.nil _ _ _ _, Rd.nil _ _ _ _⟩ ⟨Rd.nil _ _ _ _, Rd.nil _ _ _ _⟩ (by simp) (by simp)).mono ?_
  rintro e w1 ⟨rfl, hb⟩
  have HB1 := Lib.hid (HB.out.trans (hb.mono HB.out.size))
  clear hb
  go_wp2_with fail
  go_ret
  exact ⟨rfl, HB1.out⟩
set_option maxRecDepth 100000 in
set_option maxHeartbeats 1000000 in
theorem is_ok (a b c d : Value) (sh da : List Int) (C : Nat) (w : World) (h1 : OwnI w C 3 .i64 a sh) (h2 : OwnI w C 2 .i64 b da) (hs : RdT w c d sh da) (hC : C ≤ w.heap.size) (l1 : sh.length ≤ 100000000) (l2 : da.length ≤ 100000000) :
    Calls Try.prog 25 #[.agg #[a, b], .int .i64 0, .agg #[c, d], .int .i64 0] w fun e w' => e = .returned (.bool true) ∧ Spoil2 C a b w w' := by
  obtain ⟨o1, cap1, rfl⟩ := own_slice h1
  obtain ⟨o2, cap2, rfl⟩ := own_slice h2
  obtain ⟨p1, kap1, hf1⟩ := rd_slice hs.sh
  obtain ⟨p2, kap2, hf2⟩ := rd_slice hs.da
  subst hf1 hf2
  obtain ⟨W0, hW0⟩ : ∃ W0, W0 = (w.alloc (.cells #[.slice o1 sh.length cap1, .slice o2 da.length cap2] 41)).alloc (.cells #[.slice p1 sh.length kap1, .slice p2 da.length kap2] 41) := ⟨_, rfl⟩
  have hb : Below w.heap.size w W0 := by rw [hW0]; exact ((Below.refl _ _).alloc (Nat.le_refl _) _).alloc (by simp) _
  have HX := Lib.hid (show Box W0 w.heap.size 41 #[.slice o1 sh.length cap1, .slice o2 da.length cap2] by rw [hW0]; exact (Box.new _ _ _).next ((Below.refl _ _).alloc (Nat.le_refl _) _))
  have HO1 := Lib.hid (own_below h1 hb (Nat.le_refl _))
  have HO2 := Lib.hid (own_below h2 hb (Nat.le_refl _))
  have HRD := Lib.hid (hs.below hb (Nat.le_refl _))
  have HB := Lib.hid hb
  have hs0 := hb.size
  have HW := Lib.hid hW0
  clear h1 h2 hs hb hW0
  go_enter Try.func25, Try.ntmps25
  go_wp2_with fail
  rw [← HW.out]
  refine (num8_any _ _).mono ?_
  rintro e w' ⟨rfl, rfl⟩
  have HY := Lib.hid (show Box W0 (w.heap.size + 1) 41 #[.slice p1 sh.length kap1, .slice p2 da.length kap2] by rw [HW.out]; exact Box.new_at (by simp))
  have c0 := HX.out.cell 0 rfl
  have c1 := HX.out.cell 1 rfl
  have c2 := HY.out.cell 0 rfl
  have c3 := HY.out.cell 1 rfl
  clear HW
  go_wp2_with fail
  refine (eqTensor_yes _ _ _ _ sh da _ ⟨Rd.of_own HO1.out, Rd.of_own HO2.out⟩ HRD.out (by omega) (by omega)).mono ?_
  rintro e w1 ⟨rfl, hb1⟩
  have hX1 := HX.out.next hb1
  clear c0 c1 c2 c3
  have c0 := hX1.cell 0 rfl
  have c1 := hX1.cell 1 rfl
  have HB1 := Lib.hid (HB.out.trans (hb1.mono HB.out.size))
  have HO11 := Lib.hid (own_below HO1.out hb1 (Nat.le_refl _))
  have HO21 := Lib.hid (own_below HO2.out hb1 (Nat.le_refl _))
  have hs1 := hb1.size
  clear hb1 hX1
  go_wp2_with fail
  refine (law0Tensor_any _ _ sh da C _ HO11.out HO21.out (by omega) l1 l2).mono ?_
  rintro e w2 ⟨rfl, hsp⟩
  have HSP := Lib.hid (hsp.after HB1.out hC)
  clear hsp c0 c1
  go_wp2_with fail
  go_ret
  exact ⟨rfl, HSP.out⟩
end Go.Proofs.Ytjhejpeklppmbaa
