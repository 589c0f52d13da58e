/-
  THE REFERENCE's READER: Left, Number, Words, Numbers.
-/
import Derived.Test.YtjhejpeklppmbaaReader
import Derived.Deep.LoopGhost
set_option linter.unusedVariables false
set_option linter.unusedSimpArgs false
namespace Go.Proofs.Ytjhejpeklppmbaa
open Go.RowKit Go.Shelf
/-- the reader in block R: what is left, whether there were too few -/
structure RefAt (w : World) (R : Nat) (rem : List Int) (bad : Bool) : Prop where
  ex : ∃ (bs : List Int) (at_ : Nat) (o : Option Addr) (cap : Nat), Box w R 95 #[.slice o bs.length cap, .int .i64 at_, .bool bad] ∧ at_ ≤ bs.length ∧ rem = bs.drop at_ ∧
    Rd w .u8 (.slice o bs.length cap) bs ∧ Wf .u8 bs ∧ bs.length ≤ 100000 ∧ (0 < bs.length → ∀ a, o = some a → a.block < R)
theorem RefAt.lt {w : World} {R : Nat} {rem : List Int} {bad : Bool} (h : RefAt w R rem bad) : R < w.heap.size := by
  obtain ⟨⟨bs, at_, o, cap, hb, _⟩⟩ := h
  exact hb.lt
theorem RefAt.wf {w : World} {R : Nat} {rem : List Int} {bad : Bool} (h : RefAt w R rem bad) : Wf .u8 rem ∧ rem.length ≤ 100000 := by
  obtain ⟨⟨bs, at_, o, cap, hb, h1, rfl, hr, hw, hl, _⟩⟩ := h
  exact ⟨wf_drop hw _, by rw [List.length_drop]; omega⟩
theorem rd_low {w w' : World} {R : Nat} {K : IntKind} {o : Option Addr} {n cap : Nat} {xs : List Int} (h : Rd w K (.slice o n cap) xs) (hB : Below R w w') (hlow : 0 < xs.length → ∀ a, o = some a → a.block < R) : Rd w' K (.slice o n cap) xs := by
  obtain ⟨o', cap', he, hcell⟩ := h
  refine ⟨o', cap', he, fun j hj => ?_⟩
  obtain ⟨b, off, ho, h1⟩ := hcell j hj
  refine ⟨b, off, ho, ?_⟩
  simp only [Value.slice.injEq] at he
  have hlt := hlow (by omega) ⟨b, off, none⟩ (by rw [he.1, ho])
  exact (hB.cell (p := ⟨b, off + j, none⟩) hlt).trans h1
theorem RefAt.low {w w' : World} {R : Nat} {rem : List Int} {bad : Bool} (h : RefAt w R rem bad) (hB : Below (R + 1) w w') : RefAt w' R rem bad := by
  obtain ⟨⟨bs, at_, o, cap, hb, h1, h2, hr, hw, hl, hlow⟩⟩ := h
  exact ⟨⟨bs, at_, o, cap, hb.below hB (Nat.lt_succ_self R), h1, h2, rd_low hr (hB.mono (Nat.le_succ R)) hlow, hw, hl, hlow⟩⟩
theorem RefAt.same {w w' : World} {R : Nat} {rem : List Int} {bad : Bool} (h : RefAt w R rem bad) (hs : Same w w') : RefAt w' R rem bad := h.low (hs.below _)
theorem RefAt.drew {w : World} {R : Nat} {rem : List Int} {bad : Bool} (h : RefAt w R rem bad) : RefAt w.drew R rem bad := h.same ⟨1, rfl⟩
set_option maxHeartbeats 400000 in
theorem refLeft_any (R : Nat) (rem : List Int) (bad : Bool) (w : World) (h : RefAt w R rem bad) :
    Calls Try.prog 57 #[.pointer (some ⟨R, 0, none⟩)] w fun e w' => e = .returned (.int .i64 (rem.length : Nat)) ∧ Same w w' := by
  obtain ⟨⟨bs, at_, o, cap, hb, h1, h2, hr, hw, hl, hlow⟩⟩ := h
  have c0 : w.cell? ⟨R, 0, none⟩ = some (.slice o bs.length cap) := hb.cell 0 rfl
  have c1 : w.cell? ⟨R, 1, none⟩ = some (.int .i64 at_) := hb.cell 1 rfl
  have HE := Lib.hid (show rem.length = bs.length - at_ by rw [h2, List.length_drop])
  clear hb h2 hr hw hlow
  go_enter Try.func57, Try.ntmps57
  go_wp2
  go_quiet (fail)
  go_wp2
  go_ret
  exact ⟨ret_int (by rw [HE.out]; omega), ⟨_, rfl⟩⟩
theorem moved_at (w : World) (R j : Nat) (v : Value) : Moved w (w.setCell ⟨R, j, none⟩ v) R :=
  ⟨rfl, rfl, rfl, by simp [World.setCell], fun k _ hk => Below.heap_setCell _ _ _ _ (fun e => hk (by simp at e; rw [e]))⟩
theorem set_low {w : World} {R j : Nat} (v : Value) : Below R w (w.setCell ⟨R, j, none⟩ v) := (Below.refl _ _).setCell (by simp) v
/-- the number that is read, and what is left -/
def rNum (k : Nat) (rem : List Int) (bad : Bool) : Nat × List Int × Bool := bif decide (rem.length < k) then (0, [], true) else (beVal (rem.take k), rem.drop k, bad)
set_option maxHeartbeats 400000 in
theorem refNumber_no (R k : Nat) (rem : List Int) (bad : Bool) (w : World) (h : RefAt w R rem bad) (hk : rem.length < k) (hk8 : k ≤ 8) :
    Calls Try.prog 54 #[.pointer (some ⟨R, 0, none⟩), .int .i64 k] w fun e w' => e = .returned (.int .u64 0) ∧ RefAt w' R [] true ∧ Moved w w' R := by
  have HA := Lib.hid h
  obtain ⟨⟨bs, at_, o, cap, hb, h1, h2, hr, hw, hl, hlow⟩⟩ := h
  have HB := Lib.hid hb
  have HR := Lib.hid (And.intro hr (And.intro hw hlow))
  clear hb h2 hr hw hlow
  go_enter Try.func54, Try.ntmps54
  go_wp2_with fail
  refine (refLeft_any R rem bad _ HA.out).mono ?_
  rintro e w1 ⟨rfl, hs⟩
  have HB1 := Lib.hid (HB.out.same hs)
  have HS := Lib.hid hs
  have c0 : w1.cell? ⟨R, 0, none⟩ = some (.slice o bs.length cap) := HB1.out.cell 0 rfl
  have c1 : w1.cell? ⟨R, 1, none⟩ = some (.int .i64 at_) := HB1.out.cell 1 rfl
  have c2 : w1.cell? ⟨R, 2, none⟩ = some (.bool bad) := HB1.out.cell 2 rfl
  have f1 := HB1.out.free 1
  have f2 := HB1.out.free 2
  clear hs
  go_wp2
  go_ret
  have hB : Below R w ((w1.setCell ⟨R, 2, none⟩ (.bool true)).setCell ⟨R, 1, none⟩ (.int .i64 bs.length)) := ((HS.out.below _).trans (set_low _)).trans (set_low _)
  refine ⟨rfl, ⟨⟨bs, bs.length, o, cap, (HB1.out.set 2 (.bool true)).set 1 (.int .i64 bs.length), Nat.le_refl _, by simp, rd_low HR.out.1 hB HR.out.2.2, HR.out.2.1, hl, HR.out.2.2⟩⟩, ?_⟩
  exact ((moved_below (HS.out.below _)).trans (moved_at _ _ _ _)).trans (moved_at _ _ _ _)
set_option maxRecDepth 100000 in
set_option maxHeartbeats 1000000 in
theorem refNumber_yes (R k : Nat) (rem : List Int) (bad : Bool) (w : World) (h : RefAt w R rem bad) (hk : k ≤ rem.length) (hk8 : k ≤ 8) :
    Calls Try.prog 54 #[.pointer (some ⟨R, 0, none⟩), .int .i64 k] w fun e w' => e = .returned (.int .u64 (beVal (rem.take k) : Nat)) ∧ RefAt w' R (rem.drop k) bad ∧ Moved w w' R := by
  have HA := Lib.hid h
  obtain ⟨⟨bs, at_, o, cap, hb, h1, h2, hr, hw, hl, hlow⟩⟩ := h
  have hrl : rem.length = bs.length - at_ := by rw [h2, List.length_drop]
  have HW := Lib.hid (show Wf .u8 (rem.take k) by rw [h2]; exact (wf_drop hw at_).take k)
  have HTL := Lib.hid (show (rem.take k).length = k by rw [List.length_take]; omega)
  have hka : at_ + k ≤ bs.length := by omega
  have HNT := Lib.hid (show ∀ i, i < k → nth (rem.take k) i = nth bs (at_ + i) from fun i hi => by
    rw [nth_eq _ _ (by rw [List.length_take]; omega), nth_eq _ _ (by omega), List.getElem_take]
    simp only [h2, List.getElem_drop])
  have HD := Lib.hid (show rem.drop k = bs.drop (at_ + k) by rw [h2, List.drop_drop])
  have HB := Lib.hid hb
  have HR := Lib.hid (And.intro hr (And.intro hw hlow))
  clear hb h2 hr hw hlow hrl
  go_enter Try.func54, Try.ntmps54
  go_wp2_with fail
  refine (refLeft_any R rem bad _ HA.out).mono ?_
  rintro e w1 ⟨rfl, hs⟩
  have HS1 := Lib.hid hs
  clear hs
  go_wp2
  go_loopg [5, 6] k (fun g p i wr => ∃ m : Nat, g = k - m ∧ m ≤ k ∧ i = .int .i64 m ∧ p = .int .u64 (beVal ((rem.take k).take m) : Nat) ∧ Same w wr)
  case atStart => exact ⟨0, rfl, Nat.zero_le _, rfl, rfl, HS1.out⟩
  case round =>
    obtain ⟨m, hg, hm, rfl, rfl, hs⟩ := hrel
    have HBw := Lib.hid (HB.out.same hs)
    have HRw := Lib.hid (HR.out.1.same hs)
    have HS := Lib.hid hs
    have c0 : wr.cell? ⟨R, 0, none⟩ = some (.slice o bs.length cap) := HBw.out.cell 0 rfl
    have c1 : wr.cell? ⟨R, 1, none⟩ = some (.int .i64 at_) := HBw.out.cell 1 rfl
    have f1 := HBw.out.free 1
    clear hs
    by_cases hlt : m < k
    · obtain ⟨b, off, ho, h3⟩ := HRw.out.cell (at_ + m) (by omega)
      subst ho
      rw [← HNT.out m hlt] at h3
      have q1 : (at_ : Int) + m < bs.length := by omega
      have q2 : IntKind.i64.wrap ((at_ : Int) + m) = (at_ : Int) + m := IntWalk.i64_in _ (by omega)
      have q3 : 0 ≤ (at_ : Int) + m := by omega
      have q4 : ((at_ : Int) + m).toNat = at_ + m := by omega
      have hx := wf_u8 (HW.out.nth m (by rw [HTL.out]; exact hlt))
      obtain ⟨S, hSe⟩ : ∃ S, S = beVal ((rem.take k).take m) := ⟨_, rfl⟩
      have hS := beVal_lt ((rem.take k).take m)
      rw [← hSe] at hS ⊢
      have HS0 := Lib.hid hSe
      have HS2 := Lib.hid hS
      clear hSe hS
      have HOr := Lib.hid (or_step S (nth (rem.take k) m) hx)
      go_wp2_with fail
      go_quiet (fail)
      clear q2 q4
      go_wp2
      go_roundg (k - (m + 1))
      case rel => exact ⟨m + 1, rfl, by omega, by go_num, by rw [HOr.out, take_succ_nth _ m (by rw [HTL.out]; exact hlt), beVal_snoc, ← HS0.out], HS.out.trans ⟨_, rfl⟩⟩
      case measure => omega
    · obtain rfl : m = k := by omega
      go_wp2
      go_ret
      refine ⟨ret_int (by rw [List.take_of_length_le (Nat.le_of_eq HTL.out)]), ⟨⟨bs, at_ + m, o, cap, ?_, hka, HD.out, rd_low HR.out.1 ((HS.out.below R).trans (set_low _)) HR.out.2.2, HR.out.2.1, hl, HR.out.2.2⟩⟩, (moved_below (HS.out.below _)).trans (moved_at _ _ _ _)⟩
      exact HBw.out.set 1 (.int .i64 ((at_ : Int) + m))
--GEN
theorem ref_step {w w4 w5 : World} {R : Nat} {rem : List Int} {bad : Bool} {e : TypeId} {K : IntKind} {v v' : Value} {ds : List Int} {x : Int} {o : Obj} (hm : Moved w w4 R) (ha : RefAt w4 R rem bad) (hR : R < w.heap.size) (ho : OwnI w4 w.heap.size e K v ds)
    (hown : w5.ownsRow w.heap.size e 1 v' (ds.length + 1) (ds.map (Value.int K) ++ [.int K x])) (hg : (w4.alloc o).grownBy w5 v.ownBlock) :
    OwnI w5 w.heap.size e K v' (ds ++ [x]) ∧ RefAt w5 R rem bad ∧ Moved w w5 R := by
  have hB : Below w.heap.size w4 w5 := below_append' (C := w.heap.size) (Below.refl _ _) hm.size ho hg
  exact ⟨own_snoc hown, ha.low (hB.mono (by omega)), moved_low hm hB (Nat.le_refl _)⟩
theorem beVal4_lt (l : List Int) (hw : Wf .u8 l) (h : l.length ≤ 4) : beVal l < 4294967296 := by
  match l, h with
  | [], _ => decide
  | [a], _ => have := wf_u8 (hw a (by simp)); simp [beVal]; omega
  | [a, b], _ => have := wf_u8 (hw a (by simp)); have := wf_u8 (hw b (by simp)); simp [beVal]; omega
  | [a, b, c], _ => have := wf_u8 (hw a (by simp)); have := wf_u8 (hw b (by simp)); have := wf_u8 (hw c (by simp)); simp [beVal]; omega
  | [a, b, c, d], _ => have := wf_u8 (hw a (by simp)); have := wf_u8 (hw b (by simp)); have := wf_u8 (hw c (by simp)); have := wf_u8 (hw d (by simp)); simp [beVal]; omega

def wordsR : Nat → List Int → List Int
  | 0, _ => []
  | n + 1, rem => wordV (beVal (rem.take 8)) :: wordsR n (rem.drop 8)
theorem wordsR_zero (rem : List Int) : wordsR 0 rem = [] := by rw [wordsR]
theorem wordsR_succ (n : Nat) (rem : List Int) : wordsR (n + 1) rem = wordV (beVal (rem.take 8)) :: wordsR n (rem.drop 8) := by rw [wordsR]
theorem wordsR_length (n : Nat) : ∀ rem, (wordsR n rem).length = n := by
  induction n with
  | zero => intro rem; rfl
  | succ n ih => intro rem; rw [wordsR_succ, List.length_cons, ih]
theorem wordsR_snoc (n : Nat) : ∀ rem, wordsR (n + 1) rem = wordsR n rem ++ [wordV (beVal ((rem.drop (8 * n)).take 8))] := by
  induction n with
  | zero => intro rem; rw [wordsR_succ, wordsR_zero, wordsR_zero]; rfl
  | succ n ih =>
    intro rem
    rw [wordsR_succ, ih, wordsR_succ n rem, List.cons_append, List.drop_drop, show 8 + 8 * n = 8 * (n + 1) by omega]
set_option maxHeartbeats 400000 in
theorem refWords_no (R n : Nat) (rem : List Int) (bad : Bool) (w : World) (h : RefAt w R rem bad) (hn : rem.length / 8 < n) (hn2 : n ≤ 9000000000000000000) :
    Calls Try.prog 56 #[.pointer (some ⟨R, 0, none⟩), .int .i64 n] w fun e w' => e = .returned (.slice none 0 0) ∧ RefAt w' R rem true ∧ Moved w w' R := by
  have HA := Lib.hid h
  obtain ⟨⟨bs, at_, o, cap, hb, h1, h2, hr, hw, hl, hlow⟩⟩ := h
  have HB := Lib.hid hb
  have HR := Lib.hid (And.intro hr (And.intro hw (And.intro hlow h2)))
  have hrl := HA.out.wf.2
  have hnd : (rem.length : Int) / 8 < n := by omega
  clear hb h2 hr hw hlow
  go_enter Try.func56, Try.ntmps56
  go_wp2_with fail
  refine (refLeft_any R rem bad _ HA.out).mono ?_
  rintro e w1 ⟨rfl, hs⟩
  have HB1 := Lib.hid (HB.out.same hs)
  have HS := Lib.hid hs
  have c2 : w1.cell? ⟨R, 2, none⟩ = some (.bool bad) := HB1.out.cell 2 rfl
  have f2 := HB1.out.free 2
  clear hs
  go_wp2
  go_ret
  have hB : Below R w (w1.setCell ⟨R, 2, none⟩ (.bool true)) := (HS.out.below _).trans (set_low _)
  exact ⟨rfl, ⟨⟨bs, at_, o, cap, HB1.out.set 2 (.bool true), h1, HR.out.2.2.2, rd_low HR.out.1 hB HR.out.2.2.1, HR.out.2.1, hl, HR.out.2.2.1⟩⟩, (moved_below (HS.out.below _)).trans (moved_at _ _ _ _)⟩
set_option maxRecDepth 100000 in
set_option maxHeartbeats 1000000 in
theorem refWords_yes (R n : Nat) (rem : List Int) (bad : Bool) (w : World) (h : RefAt w R rem bad) (hn : n ≤ rem.length / 8) :
    Calls Try.prog 56 #[.pointer (some ⟨R, 0, none⟩), .int .i64 n] w fun e w' => (∃ v, e = .returned v ∧ OwnI w' w.heap.size 2 .i64 v (wordsR n rem)) ∧ RefAt w' R (rem.drop (8 * n)) bad ∧ Moved w w' R := by
  obtain ⟨i0, hi, hz0, hz1, hz2⟩ := info_parts info_int64
  have HA := Lib.hid h
  have hrl := h.wf.2
  have HLT := Lib.hid h.lt
  have hnd : (n : Int) ≤ (rem.length : Int) / 8 := by omega
  clear h
  go_enter Try.func56, Try.ntmps56
  go_wp2_with fail
  refine (refLeft_any R rem bad _ HA.out).mono ?_
  rintro e w1 ⟨rfl, hs⟩
  have HS := Lib.hid hs
  have HA1 := Lib.hid (HA.out.same hs)
  clear hs
  go_wp2
  go_loopg [5, 6] n (fun g u i wr => ∃ m : Nat, g = n - m ∧ m ≤ n ∧ i = .int .i64 m ∧ OwnI wr w.heap.size 2 .i64 u (wordsR m rem) ∧ RefAt wr R (rem.drop (8 * m)) bad ∧ Moved w wr R)
  case atStart => exact ⟨0, rfl, Nat.zero_le _, rfl, ⟨rfl, .inl ⟨rfl, rfl⟩⟩, HA1.out, moved_below (HS.out.below _)⟩
  case round =>
    obtain ⟨m, hg, hm, rfl, hown, ha, hmv⟩ := hrel
    obtain ⟨w3, rfl⟩ : ∃ w3, w3 = wr := ⟨_, rfl⟩
    have HO := Lib.hid hown
    have HA3 := Lib.hid ha
    have HM := Lib.hid hmv
    clear hown ha hmv HA1 HS
    by_cases hlt : m < n
    · have hlen : (wordsR m rem).length = m := wordsR_length m rem
      have HL := Lib.hid hlen
      have hml : (wordsR m rem).length ≤ 100000 := by omega
      have h8 : 8 ≤ (rem.drop (8 * m)).length := by rw [List.length_drop]; omega
      clear hlen
      go_wp2_with (first
        | (at_builtin; refine wpList_append_own _ rfl _ _ 33 rfl w.heap.size 2 i0 (.int .i64 0) 1 8 Try.underlying33 hi hz0 hz1 hz2 rfl (by decide) _ _ _ rfl (HO4.out.alloc _) ⟨w4.heap.size, 0, none⟩ 1 1 [.int .i64 (wrap64 ((beVal ((rem.drop (8 * m)).take 8) : Nat) : Int))] rfl rfl (cell_one_new _ _ _) (by simp [Value.oneCell']) (by unfold maxLen; omega) (by omega) (by have := HM4.out.size; simp; omega) ?_; intro v' w5 hown5 hgrow5 _; have HX := Lib.hid (ref_step HM4.out HA4.out HLT.out HO4.out hown5 hgrow5); clear hown5 hgrow5)
        | (go_at_call 54; refine (refNumber_yes R 8 _ bad _ HA3.out h8 (by omega)).mono ?_; rintro e w4 ⟨rfl, ha4, hm4⟩; have HA4 := Lib.hid ha4; have HM4 := Lib.hid (HM.out.trans hm4); have HO4 := Lib.hid (own_moved HO.out hm4 HLT.out); clear ha4 hm4))
      go_roundg (n - (m + 1))
      case rel =>
        obtain ⟨x1, x2, x3⟩ := HX.out
        exact ⟨m + 1, rfl, by omega, by go_num, by rw [wordsR_snoc]; exact x1, by rw [List.drop_drop] at x2; rw [show 8 * (m + 1) = 8 * m + 8 by omega]; exact x2, x3⟩
      case measure => omega
    · obtain rfl : m = n := by omega
      go_wp2
      go_ret
      exact ⟨⟨_, rfl, HO.out⟩, HA3.out, HM.out⟩

def numsR : Nat → List Int → List Int
  | 0, _ => []
  | n + 1, rem => ((beVal (rem.take 4) : Nat) : Int) :: numsR n (rem.drop 4)
theorem numsR_zero (rem : List Int) : numsR 0 rem = [] := by rw [numsR]
theorem numsR_succ (n : Nat) (rem : List Int) : numsR (n + 1) rem = ((beVal (rem.take 4) : Nat) : Int) :: numsR n (rem.drop 4) := by rw [numsR]
theorem numsR_length (n : Nat) : ∀ rem, (numsR n rem).length = n := by
  induction n with
  | zero => intro rem; rfl
  | succ n ih => intro rem; rw [numsR_succ, List.length_cons, ih]
theorem numsR_snoc (n : Nat) : ∀ rem, numsR (n + 1) rem = numsR n rem ++ [((beVal ((rem.drop (4 * n)).take 4) : Nat) : Int)] := by
  induction n with
  | zero => intro rem; rw [numsR_succ, numsR_zero, numsR_zero]; rfl
  | succ n ih =>
    intro rem
    rw [numsR_succ, ih, numsR_succ n rem, List.cons_append, List.drop_drop, show 4 + 4 * n = 4 * (n + 1) by omega]
set_option maxHeartbeats 400000 in
theorem refNumbers_no (R n : Nat) (rem : List Int) (bad : Bool) (w : World) (h : RefAt w R rem bad) (hn : rem.length / 4 < n) (hn2 : n ≤ 9000000000000000000) :
    Calls Try.prog 55 #[.pointer (some ⟨R, 0, none⟩), .int .i64 n] w fun e w' => e = .returned (.slice none 0 0) ∧ RefAt w' R rem true ∧ Moved w w' R := by
  have HA := Lib.hid h
  obtain ⟨⟨bs, at_, o, cap, hb, h1, h2, hr, hw, hl, hlow⟩⟩ := h
  have HB := Lib.hid hb
  have HR := Lib.hid (And.intro hr (And.intro hw (And.intro hlow h2)))
  have hrl := HA.out.wf.2
  have hnd : (rem.length : Int) / 4 < n := by omega
  clear hb h2 hr hw hlow
  go_enter Try.func55, Try.ntmps55
  go_wp2_with fail
  refine (refLeft_any R rem bad _ HA.out).mono ?_
  rintro e w1 ⟨rfl, hs⟩
  have HB1 := Lib.hid (HB.out.same hs)
  have HS := Lib.hid hs
  have c2 : w1.cell? ⟨R, 2, none⟩ = some (.bool bad) := HB1.out.cell 2 rfl
  have f2 := HB1.out.free 2
  clear hs
  go_wp2
  go_ret
  have hB : Below R w (w1.setCell ⟨R, 2, none⟩ (.bool true)) := (HS.out.below _).trans (set_low _)
  exact ⟨rfl, ⟨⟨bs, at_, o, cap, HB1.out.set 2 (.bool true), h1, HR.out.2.2.2, rd_low HR.out.1 hB HR.out.2.2.1, HR.out.2.1, hl, HR.out.2.2.1⟩⟩, (moved_below (HS.out.below _)).trans (moved_at _ _ _ _)⟩
set_option maxRecDepth 100000 in
set_option maxHeartbeats 1000000 in
theorem refNumbers_yes (R n : Nat) (rem : List Int) (bad : Bool) (w : World) (h : RefAt w R rem bad) (hn : n ≤ rem.length / 4) :
    Calls Try.prog 55 #[.pointer (some ⟨R, 0, none⟩), .int .i64 n] w fun e w' => (∃ v, e = .returned v ∧ OwnI w' w.heap.size 3 .i64 v (numsR n rem)) ∧ RefAt w' R (rem.drop (4 * n)) bad ∧ Moved w w' R := by
  obtain ⟨i0, hi, hz0, hz1, hz2⟩ := info_parts info_int
  have HA := Lib.hid h
  have hrl := h.wf.2
  have HLT := Lib.hid h.lt
  have hnd : (n : Int) ≤ (rem.length : Int) / 4 := by omega
  clear h
  go_enter Try.func55, Try.ntmps55
  go_wp2_with fail
  refine (refLeft_any R rem bad _ HA.out).mono ?_
  rintro e w1 ⟨rfl, hs⟩
  have HS := Lib.hid hs
  have HA1 := Lib.hid (HA.out.same hs)
  clear hs
  go_wp2
  go_loopg [5, 6] n (fun g u i wr => ∃ m : Nat, g = n - m ∧ m ≤ n ∧ i = .int .i64 m ∧ OwnI wr w.heap.size 3 .i64 u (numsR m rem) ∧ RefAt wr R (rem.drop (4 * m)) bad ∧ Moved w wr R)
  case atStart => exact ⟨0, rfl, Nat.zero_le _, rfl, ⟨rfl, .inl ⟨rfl, rfl⟩⟩, HA1.out, moved_below (HS.out.below _)⟩
  case round =>
    obtain ⟨m, hg, hm, rfl, hown, ha, hmv⟩ := hrel
    obtain ⟨w3, rfl⟩ : ∃ w3, w3 = wr := ⟨_, rfl⟩
    have HO := Lib.hid hown
    have HA3 := Lib.hid ha
    have HM := Lib.hid hmv
    clear hown ha hmv HA1 HS
    by_cases hlt : m < n
    · have hlen : (numsR m rem).length = m := numsR_length m rem
      have HL := Lib.hid hlen
      have hml : (numsR m rem).length ≤ 100000 := by omega
      have h8 : 4 ≤ (rem.drop (4 * m)).length := by rw [List.length_drop]; omega
      clear hlen
      go_wp2_with (first
        | (at_builtin; refine wpList_append_own _ rfl _ _ 32 rfl w.heap.size 3 i0 (.int .i64 0) 1 8 Try.underlying32 hi hz0 hz1 hz2 rfl (by decide) _ _ _ rfl (HO4.out.alloc _) ⟨w4.heap.size, 0, none⟩ 1 1 [.int .i64 ((beVal ((rem.drop (4 * m)).take 4) : Nat) : Int)] rfl rfl (cell_one_new _ _ _) (by simp [Value.oneCell']) (by unfold maxLen; omega) (by omega) (by have := HM4.out.size; simp; omega) ?_; intro v' w5 hown5 hgrow5 _; have HX := Lib.hid (ref_step HM4.out HA4.out HLT.out HO4.out hown5 hgrow5); clear hown5 hgrow5)
        | (go_at_call 54; refine (refNumber_yes R 4 _ bad _ HA3.out h8 (by omega)).mono ?_; rintro e w4 ⟨rfl, ha4, hm4⟩; have hb4 : beVal ((rem.drop (4 * m)).take 4) < 4294967296 := beVal4_lt _ (HA3.out.wf.1.take 4) (by rw [List.length_take]; omega); have HA4 := Lib.hid ha4; have HM4 := Lib.hid (HM.out.trans hm4); have HO4 := Lib.hid (own_moved HO.out hm4 HLT.out); clear ha4 hm4))
      go_roundg (n - (m + 1))
      case rel =>
        obtain ⟨x1, x2, x3⟩ := HX.out
        exact ⟨m + 1, rfl, by omega, by go_num, by rw [numsR_snoc]; exact x1, by rw [List.drop_drop] at x2; rw [show 4 * (m + 1) = 4 * m + 4 by omega]; exact x2, x3⟩
      case measure => omega
    · obtain rfl : m = n := by omega
      go_wp2
      go_ret
      exact ⟨⟨_, rfl, HO.out⟩, HA3.out, HM.out⟩
end Go.Proofs.Ytjhejpeklppmbaa
