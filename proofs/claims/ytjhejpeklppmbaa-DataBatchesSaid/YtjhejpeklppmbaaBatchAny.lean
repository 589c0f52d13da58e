/-
  data.Batch and the reference's Batch: one answer for all cases.
-/
import Derived.Test.YtjhejpeklppmbaaRefBatch
set_option linter.unusedVariables false
set_option linter.unusedSimpArgs false
namespace Go.Proofs.Ytjhejpeklppmbaa
open Go.RowKit Go.Shelf
def cdB (s : SetD) (ids : List Int) : Int := bif goodSet s then (bif idsBad s ids then 2 else bif budB s ids then 5 else 0) else 1
def lsB (s : SetD) (ids : List Int) (l : List Int) : List Int := if cdB s ids = 0 then l else []
/-- the parts of the answer, the call's own -/
structure BatchV (B : Nat) (W : World) (xs xd vl ys yd : Value) (s : SetD) (ids : List Int) : Prop where
  oxs : OwnI W B 3 .i64 xs (lsB s ids ((ids.length : Int) :: s.sh))
  oxd : OwnI W B 2 .i64 xd (lsB s ids (batchX s ids))
  ovl : OwnI W B 3 .i64 vl (lsB s ids (batchL s ids))
  oys : OwnI W B 3 .i64 ys (lsB s ids (yShape s ids))
  oyd : OwnI W B 2 .i64 yd (lsB s ids (batchY s ids))
  s1 : Sep xs vl
  s2 : Sep xs ys
  s3 : Sep vl ys
  s4 : Sep xd yd
theorem lsB_no {s : SetD} {ids l : List Int} (h : cdB s ids ≠ 0) : lsB s ids l = [] := by rw [lsB, if_neg h]
theorem lsB_ok {s : SetD} {ids l : List Int} (h : cdB s ids = 0) : lsB s ids l = l := by rw [lsB, if_pos h]
theorem BatchV.nil {B : Nat} {W : World} {s : SetD} {ids : List Int} (h : cdB s ids ≠ 0) : BatchV B W (.slice none 0 0) (.slice none 0 0) (.slice none 0 0) (.slice none 0 0) (.slice none 0 0) s ids := by
  refine ⟨?_, ?_, ?_, ?_, ?_, ?_, ?_, ?_, ?_⟩
  all_goals first | (rw [lsB_no h]; exact World.ownsRow_nil _ _ _ _) | exact fun g h1 h2 => by cases h1
theorem BatchV.ok {B : Nat} {W : World} {v : Value} {s : SetD} {ids : List Int} (h : cdB s ids = 0) (hb : BatchOk B W v s ids) : ∃ xs xd vl ys yd, v = .tuple #[.agg #[xs, xd], vl, .agg #[ys, yd], .int .i64 0] ∧ BatchV B W xs xd vl ys yd s ids := by
  obtain ⟨xs, xd, vl, ys, yd, he, h1, h2, h3, h4, h5, h6, h7, h8, h9⟩ := hb
  exact ⟨xs, xd, vl, ys, yd, he, ⟨by rw [lsB_ok h]; exact h1, by rw [lsB_ok h]; exact h2, by rw [lsB_ok h]; exact h3, by rw [lsB_ok h]; exact h4, by rw [lsB_ok h]; exact h5, h6, h7, h8, h9⟩⟩
def BatchR (w : World) (s : SetD) (ids : List Int) (e : Ending) (w' : World) : Prop :=
  (∃ xs xd vl ys yd, e = .returned (.tuple #[.agg #[xs, xd], vl, .agg #[ys, yd], .int .i64 (cdB s ids)]) ∧ BatchV w.heap.size w' xs xd vl ys yd s ids) ∧ Below w.heap.size w w'
theorem BatchR.refused {w w' : World} {s : SetD} {ids : List Int} {e : Ending} {c : Int} (h : cdB s ids = c) (hc : c ≠ 0) (he : e = .returned (.tuple #[.agg #[.slice none 0 0, .slice none 0 0], .slice none 0 0, .agg #[.slice none 0 0, .slice none 0 0], .int .i64 c])) (hb : Below w.heap.size w w') : BatchR w s ids e w' := by
  subst h
  exact ⟨⟨_, _, _, _, _, he, BatchV.nil hc⟩, hb⟩
theorem BatchR.good {w w' : World} {s : SetD} {ids : List Int} {v : Value} (h : cdB s ids = 0) (hv : BatchOk w.heap.size w' v s ids) (hb : Below w.heap.size w w') : BatchR w s ids (.returned v) w' := by
  obtain ⟨xs, xd, vl, ys, yd, rfl, hV⟩ := BatchV.ok h hv
  exact ⟨⟨xs, xd, vl, ys, yd, by rw [h], hV⟩, hb⟩
theorem batch_any (a b c d : Value) (s : SetD) (oi : Option Addr) (ci : Nat) (ids : List Int) (w : World) (hr : RdSet w a b c d s) (hl : LimSet s) (hi : Rd w .i64 (.slice oi ids.length ci) ids) (hli : ids.length ≤ 100000)
    (hcb : ∀ o m c, b = .slice o m c → m ≤ c ∧ c ≤ 9223372036854775807) (hcd : ∀ o m c, d = .slice o m c → m ≤ c ∧ c ≤ 9223372036854775807) :
    Calls Try.prog 15 #[.agg #[a, b, c, d], .slice oi ids.length ci] w (BatchR w s ids) := by
  cases hg : goodSet s with
  | false => exact (batch_bad a b c d s oi ci ids w hr hl hg).mono fun e w' ⟨he, hb⟩ => BatchR.refused (by rw [cdB, hg]; rfl) (by decide) he hb
  | true =>
    cases hid : idsBad s ids with
    | true => exact (batch_shape a b c d s oi ci ids w hr hl hg hi hli hid).mono fun e w' ⟨he, hb⟩ => BatchR.refused (by rw [cdB, hg, hid]; rfl) (by decide) he hb
    | false =>
      refine ((callsIn_wide (n := 9)).1 (batch_go a b c d s oi ci ids w hr hl hg hi hli hid hcb hcd)).mono ?_
      rintro e w' (⟨h, he, hb⟩ | ⟨h, v, rfl, hv, hb⟩)
      · exact BatchR.refused (by rw [cdB, hg, hid, h]; rfl) (by decide) he hb
      · exact BatchR.good (by rw [cdB, hg, hid, h]; rfl) hv hb
theorem ref30Batch_all (a b c d : Value) (s : SetD) (oi : Option Addr) (ci : Nat) (ids : List Int) (w : World) (hr : RdSet w a b c d s) (hl : LimSet s) (hg : goodSet s = true) (hi : Rd w .i64 (.slice oi ids.length ci) ids) (hli : ids.length ≤ 100000)
    (hcb : ∀ o m c, b = .slice o m c → m ≤ c ∧ c ≤ 9223372036854775807) (hcd : ∀ o m c, d = .slice o m c → m ≤ c ∧ c ≤ 9223372036854775807) :
    Calls Try.prog 22 #[.agg #[a, b, c, d], .slice oi ids.length ci] w (BatchR w s ids) := by
  refine (ref30Batch_any a b c d s oi ci ids w hr hl hg hi hli hcb hcd).mono ?_
  rintro e w' (⟨h, he, hb⟩ | ⟨h, h2, he, hb⟩ | ⟨h, h2, v, rfl, hv, hb⟩)
  · exact BatchR.refused (by rw [cdB, hg, h]; rfl) (by decide) he hb
  · exact BatchR.refused (by rw [cdB, hg, h, h2]; rfl) (by decide) he hb
  · exact BatchR.good (by rw [cdB, hg, h, h2]; rfl) hv hb
set_option maxRecDepth 100000 in
theorem is_no (n : Int) (a b c d : Value) (C : Nat) (w : World) (h1 : (n == 0) = false) (hr : RdT w a b [] []) (hs : RdT w c d [] []) (hC : C ≤ w.heap.size) :
    Calls Try.prog 25 #[.agg #[a, b], .int .i64 n, .agg #[c, d], .int .i64 n] w fun e w' => e = .returned (.bool true) ∧ Spoil2 C a b w w' := by
  obtain ⟨o1, cap1, he1⟩ := rd_slice hr.sh
  obtain ⟨o2, cap2, he2⟩ := rd_slice hr.da
  obtain ⟨o3, cap3, he3⟩ := rd_slice hs.sh
  obtain ⟨o4, cap4, he4⟩ := rd_slice hs.da
  subst he1 he2 he3 he4
  have hnn : (n == n) = true := beq_self_eq_true n
  have HR := Lib.hid hr
  clear hr hs
  have HB := Lib.hid (show Below w.heap.size w ((w.alloc (.cells #[.slice o1 0 cap1, .slice o2 0 cap2] 41)).alloc (.cells #[.slice o3 0 cap3, .slice o4 0 cap4] 41)) from ((Below.refl _ _).alloc (Nat.le_refl _) _).alloc (by simp) _)
  go_enter Try.func25, Try.ntmps25
  go_wp2_with fail
  refine (num8_any _ _).mono ?_
  rintro e w' ⟨rfl, rfl⟩
  go_wp2_with fail
  refine (eqTensor_yes _ _ _ _ [] [] _ (HR.out.below HB.out (Nat.le_refl _)) ⟨Rd.nil _ _ _ _, Rd.nil _ _ _ _⟩ (by simp) (by simp)).mono ?_
  rintro e w1 ⟨rfl, hb⟩
  have HB1 := Lib.hid (HB.out.trans (hb.mono HB.out.size))
  clear hb
  go_wp2_with fail
  go_ret
  exact ⟨rfl, Spoil2.of_below HB1.out hC⟩
theorem is_any (n : Int) (a b c d : Value) (sh da : List Int) (C : Nat) (w : World) (h1 : OwnI w C 3 .i64 a sh) (h2 : OwnI w C 2 .i64 b da) (hs : RdT w c d sh da) (hn : n ≠ 0 → sh = [] ∧ da = []) (hC : C ≤ w.heap.size) (l1 : sh.length ≤ 100000000) (l2 : da.length ≤ 100000000) :
    Calls Try.prog 25 #[.agg #[a, b], .int .i64 n, .agg #[c, d], .int .i64 n] w fun e w' => e = .returned (.bool true) ∧ Spoil2 C a b w w' := by
  by_cases h0 : n = 0
  · subst h0
    exact is_ok a b c d sh da C w h1 h2 hs hC l1 l2
  · obtain ⟨rfl, rfl⟩ := hn h0
    exact is_no n a b c d C w (beq_eq_false_iff_ne.2 h0) ⟨Rd.of_own h1, Rd.of_own h2⟩ hs hC
theorem lsB_len (s : SetD) (ids l : List Int) : (lsB s ids l).length ≤ l.length := by
  rw [lsB]
  split
  · exact Nat.le_refl _
  · exact Nat.zero_le _
theorem parts_len (ids xs : List Int) (g : Int → Nat) (m : Nat) (hx : xs.length ≤ 400) (hi : ids.length ≤ 200) : (ids.flatMap fun k => (xs.drop (g k)).take m).length ≤ 80000 := by
  have := flat_len ids (fun k => (xs.drop (g k)).take m) 400 (fun x _ => by simp; omega)
  have h2 := Nat.mul_le_mul_right 400 hi
  omega
theorem batchX_len (s : SetD) (ids : List Int) (hx : s.x.length ≤ 400) (hi : ids.length ≤ 200) : (lsB s ids (batchX s ids)).length ≤ 80000 := Nat.le_trans (lsB_len _ _ _) (parts_len ids s.x _ _ hx hi)
theorem batchY_len (s : SetD) (ids : List Int) (hx : s.y.length ≤ 400) (hi : ids.length ≤ 200) : (lsB s ids (batchY s ids)).length ≤ 80000 := Nat.le_trans (lsB_len _ _ _) (parts_len ids s.y _ _ hx hi)
theorem batchL_len (s : SetD) (ids : List Int) (hi : ids.length ≤ 200) : (lsB s ids (batchL s ids)).length ≤ 80000 := by
  refine Nat.le_trans (lsB_len _ _ _) ?_
  rw [batchL]
  split
  · simp; omega
  · simp
theorem yShape_len (s : SetD) (ids : List Int) : (lsB s ids (yShape s ids)).length ≤ 80000 := by
  refine Nat.le_trans (lsB_len _ _ _) ?_
  rw [yShape]
  split <;> simp
theorem xShape_len (s : SetD) (ids : List Int) (h : s.sh.length ≤ 8) : (lsB s ids ((ids.length : Int) :: s.sh)).length ≤ 80000 := by
  refine Nat.le_trans (lsB_len _ _ _) ?_
  simp; omega
theorem own_cap63 {w : World} {B : Nat} {e : TypeId} {s n : Nat} {v : Value} {xs : List Value} (h : w.ownsRow B e s v n xs) : ∀ o m c, v = .slice o m c → m ≤ c ∧ c ≤ 9223372036854775807 := by
  intro o m c hv
  rcases h.2 with ⟨rfl, _⟩ | ⟨g, cap, cur, rfl, hb, hgg, hn, hc, rest⟩
  · cases hv
    exact ⟨Nat.le_refl _, Nat.zero_le _⟩
  · cases hv
    unfold maxLen at hc
    exact ⟨hn, by omega⟩
end Go.Proofs.Ytjhejpeklppmbaa
