/-
  A READER OF BYTES: data.Reader's methods; where bytes end it panics with 'ended'.
-/
import Derived.Test.YtjhejpeklppmbaaPut
import Derived.Test.YtjhejpeklppmbaaCopies
import Derived.Test.YtjhejpeklppmbaaLeaf
import Derived.Laws.BitsAllLaws
set_option linter.unusedVariables false
set_option linter.unusedSimpArgs false
namespace Go.Proofs.Ytjhejpeklppmbaa
open Go.RowKit Go.Shelf
/-- what a reader throws -/
def endedV : PanicEntry := { v := .iface 107 (.agg #[]), recovered := false }
/-- the reader in block R reads these bytes -/
def RdrAt (w : World) (R : Nat) (rem : List Int) : Prop := ∃ o cap, Box w R 110 #[.slice o rem.length cap] ∧ rem.length ≤ cap ∧ Rd w .u8 (.slice o rem.length cap) rem ∧ (0 < rem.length → ∀ a, o = some a → a.block < R)
/-- nothing has turned but for the reader and what is new -/
abbrev Moved (w w' : World) (R : Nat) : Prop := w.grownBy w' (some R)
theorem cell_other {w : World} {a b : Addr} {u v : Value} (h : w.cell? b = some v) (hne : a.block ≠ b.block ∨ a.off ≠ b.off) (hs : b.spot = none) : (w.setCell a u).cell? b = some v := by
  obtain ⟨bb, bo, bs⟩ := b
  simp at hs
  subst hs
  obtain ⟨ab, ao, asp⟩ := a
  unfold World.cell? World.setCell at *
  simp only [Array.getElem?_modify] at *
  by_cases e : ab = bb
  · subst e
    simp only [if_true] at *
    cases hh : w.heap[ab]? with
    | none => rw [hh] at h; simp at h
    | some o =>
      rw [hh] at h
      cases o <;> simp_all
      split
      · exact h
      · rw [Array.getElem?_setIfInBounds, if_neg (by omega)]; exact h
  · rw [if_neg (fun h => e h)]
    exact h
theorem Rd.setOther {w : World} {K : IntKind} {v : Value} {xs : List Int} {R n cap : Nat} {o : Option Addr} (h : Rd w K v xs) (c : w.cell? ⟨R, 0, none⟩ = some (.slice o n cap)) {u : Value} : Rd (w.setCell ⟨R, 0, none⟩ u) K v xs := by
  obtain ⟨o', cap', rfl, hc⟩ := h
  refine ⟨o', cap', rfl, fun j hj => ?_⟩
  obtain ⟨b, off, rfl, hcell⟩ := hc j hj
  refine ⟨b, off, rfl, cell_other hcell ?_ rfl⟩
  by_cases e : R = b
  · right
    subst e
    intro e2
    simp at e2
    rw [← e2, c] at hcell
    simp at hcell
  · exact .inl e
theorem Rd.take {w : World} {K : IntKind} {o : Option Addr} {n cap : Nat} {xs : List Int} (h : Rd w K (.slice o n cap) xs) (k : Nat) (hk : k ≤ xs.length) {c : Nat} : Rd w K (.slice o k c) (xs.take k) := by
  have hl : (xs.take k).length = k := by rw [List.length_take]; omega
  refine ⟨o, c, by rw [hl], fun j hj => ?_⟩
  rw [hl] at hj
  obtain ⟨b, off, ho, hc⟩ := h.cell j (by omega)
  refine ⟨b, off, ho, ?_⟩
  rw [hc, nth_eq _ _ (by omega : j < xs.length), nth_eq _ _ (by omega : j < (xs.take k).length), List.getElem_take]
theorem Rd.drop {w : World} {K : IntKind} {o : Option Addr} {n cap : Nat} {xs : List Int} (h : Rd w K (.slice o n cap) xs) (k : Nat) (hk : k ≤ xs.length) {c : Nat} : Rd w K (.slice (o.map (·.add k)) (xs.length - k) c) (xs.drop k) := by
  refine ⟨o.map (·.add k), c, by rw [List.length_drop], fun j hj => ?_⟩
  rw [List.length_drop] at hj
  obtain ⟨b, off, ho, hc⟩ := h.cell (k + j) (by omega)
  refine ⟨b, off + k, by rw [ho]; simp [Addr.add_lit], ?_⟩
  rw [Nat.add_assoc, hc, nth_eq _ _ (by omega : k + j < xs.length), nth_eq _ _ (by rw [List.length_drop]; omega), List.getElem_drop]
theorem moved_set (w : World) (R : Nat) (v : Value) : Moved w (w.setCell ⟨R, 0, none⟩ v) R :=
  ⟨rfl, rfl, rfl, by simp [World.setCell], fun k _ hk => Below.heap_setCell _ _ _ _ (fun e => hk (by simp at e; rw [e]))⟩
theorem Moved.trans {a b c : World} {R : Nat} (h : Moved a b R) (k : Moved b c R) : Moved a c R :=
  ⟨k.os.trans h.os, k.tape.trans h.tape, k.output.trans h.output, Nat.le_trans h.size k.size, fun i hi hne => (k.block i (Nat.lt_of_lt_of_le hi h.size) hne).trans (h.block i hi hne)⟩
theorem Moved.refl (w : World) (R : Nat) : Moved w w R := ⟨rfl, rfl, rfl, Nat.le_refl _, fun _ _ _ => rfl⟩
theorem Moved.below {w w' : World} {R B : Nat} (h : Moved w w' R) (hB : B ≤ R) (hs : B ≤ w.heap.size) : Below B w w' :=
  (Below.refl B w).grown h hs (fun k e => by cases e; exact hB)
theorem moved_below {w w' : World} {R : Nat} (h : Below w.heap.size w w') : Moved w w' R := ⟨h.os, h.tape, h.output, h.size, fun k hk _ => h.block k hk⟩
set_option maxHeartbeats 400000 in
theorem fail_any (p : Value) (w : World) : Calls Try.prog 77 #[p] w fun e w' => e = .panicked [endedV] ∧ w = w' := by
  go_enter Try.func77, Try.ntmps77
  go_wp2
  exact ⟨rfl, rfl, rfl⟩
set_option maxHeartbeats 400000 in
theorem must_yes (p : Value) (w : World) : Calls Try.prog 69 #[p, .bool true] w fun e w' => e = .returned (.tuple #[]) ∧ w = w' := by
  go_enter Try.func69, Try.ntmps69
  go_wp2
  go_end0
  exact ⟨rfl, rfl⟩
set_option maxHeartbeats 400000 in
theorem must_no (p : Value) (w : World) : Calls Try.prog 69 #[p, .bool false] w fun e w' => e = .panicked [endedV] ∧ w = w' := by
  go_enter Try.func69, Try.ntmps69
  go_wp2_with fail
  refine (fail_any _ _).mono ?_
  rintro e w' ⟨rfl, rfl⟩
  go_wp2
  exact ⟨rfl, rfl, rfl⟩
set_option maxHeartbeats 400000 in
theorem take_yes (R n : Nat) (rem : List Int) (w : World) (h : RdrAt w R rem) (hn : n ≤ rem.length) (hl : rem.length ≤ 140737488351232) :
    Calls Try.prog 70 #[.pointer (some ⟨R, 0, none⟩), .int .i64 n] w fun e w' => ∃ v, e = .returned v ∧ Rd w' .u8 v (rem.take n) ∧ RdrAt w' R (rem.drop n) ∧ Moved w w' R := by
  obtain ⟨o, cap, hbox, hcap, hrd, hlow⟩ := h
  have c0 := hbox.cell 0 rfl
  have f0 := hbox.free 0
  have HBX := Lib.hid hbox
  have HR := Lib.hid hrd
  have HLW := Lib.hid hlow
  clear hbox hrd hlow
  go_enter Try.func70, Try.ntmps70
  go_wp2_with (go_at_call 69; refine (must_yes _ _).mono ?_; rintro e w' ⟨rfl, rfl⟩)
  all_goals go_ret
  · have hR := HR.out
    have e : rem.length - n = 0 := by omega
    have e2 : rem.drop n = [] := List.drop_eq_nil_of_le (by omega)
    exact ⟨_, rfl, (hR.take n hn).setOther c0, ⟨_, _, by rw [List.length_drop]; exact HBX.out.set 0 _, by rw [List.length_drop]; omega, by rw [e2]; rw [e]; exact Rd.nil _ _ _ _, by rw [e2]; intro h; exact absurd h (Nat.lt_irrefl _)⟩, moved_set _ _ _⟩
  · have hR := HR.out
    exact ⟨_, rfl, (hR.take n hn).setOther c0, ⟨_, _, by rw [List.length_drop]; exact HBX.out.set 0 _, by rw [List.length_drop]; omega, by rw [List.length_drop]; exact (hR.drop n hn).setOther c0, fun h0 a ha => by
      have hl0 : 0 < rem.length := by rw [List.length_drop] at h0; omega
      cases o with
      | none => simp at ha
      | some b => simp at ha; subst ha; have := HLW.out hl0 b rfl; unfold Addr.add; split <;> exact this⟩, moved_set _ _ _⟩
set_option maxHeartbeats 400000 in
theorem take_no (R n : Nat) (rem : List Int) (w : World) (h : RdrAt w R rem) (hn : rem.length < n) (hl : n ≤ 140737488351232) :
    Calls Try.prog 70 #[.pointer (some ⟨R, 0, none⟩), .int .i64 n] w fun e w' => e = .panicked [endedV] ∧ w = w' := by
  obtain ⟨o, cap, hbox, hcap, hrd, hlow⟩ := h
  have c0 := hbox.cell 0 rfl
  have hd : decide (n ≤ rem.length) = false := decide_eq_false (by omega)
  clear hbox hrd hlow
  go_enter Try.func70, Try.ntmps70
  go_wp2_with (go_at_call 69; refine (must_no _ _).mono ?_; rintro e w' ⟨rfl, rfl⟩)
  exact ⟨rfl, rfl, rfl⟩
/-- a number out of bytes, the highest first -/
def beVal (l : List Int) : Nat := l.foldl (fun n x => (n * 256 + x.toNat) % 18446744073709551616) 0
theorem beVal_lt (l : List Int) : beVal l < 18446744073709551616 := by
  rcases List.eq_nil_or_concat l with rfl | ⟨l', x, rfl⟩
  · decide
  · rw [beVal, List.concat_eq_append, List.foldl_append]
    exact Nat.mod_lt _ (by omega)
theorem or_step (S : Nat) (x : Int) (hx : 0 ≤ x ∧ x < 256) : bits BinOp.or IntKind.u64 (IntKind.u64.wrap ((S : Int) * 256)) x = (((S * 256 + x.toNat) % 18446744073709551616 : Nat) : Int) := by
  have e : IntKind.u64.wrap ((S : Int) * 256) = ((S * 256 % 18446744073709551616 : Nat) : Int) := by rw [IntKind.wrap_u64]; omega
  rw [e, u64_or _ _ (by omega) (by omega) hx.1 (by omega), Int.toNat_natCast, nat_join 8 _ _ (by omega) (by omega)]
  congr 1
  omega
theorem beVal_snoc (l : List Int) (x : Int) : beVal (l ++ [x]) = (beVal l * 256 + x.toNat) % 18446744073709551616 := by simp [beVal]
set_option maxRecDepth 100000 in
set_option maxHeartbeats 400000 in
theorem number_yes (R n : Nat) (rem : List Int) (w : World) (h : RdrAt w R rem) (hw : Wf .u8 rem) (hn : n ≤ rem.length) (hn8 : n ≤ 8) (hl : rem.length ≤ 140737488351232) :
    Calls Try.prog 71 #[.pointer (some ⟨R, 0, none⟩), .int .i64 n] w fun e w' => e = .returned (.int .u64 (beVal (rem.take n) : Nat)) ∧ RdrAt w' R (rem.drop n) ∧ Moved w w' R := by
  have HR := Lib.hid h
  have HW := Lib.hid (Wf.take hw n)
  have htl : (rem.take n).length = n := by rw [List.length_take]; omega
  have HTL := Lib.hid htl
  clear h hw htl
  go_enter Try.func71, Try.ntmps71
  go_wp2_with fail
  refine (take_yes R n rem _ HR.out hn hl).mono ?_
  rintro e w1 ⟨v, rfl, hrd, hrr, hm⟩
  obtain ⟨o, cap, rfl, hc⟩ := hrd
  have HC := Lib.hid hc
  have HRR := Lib.hid hrr
  have HM := Lib.hid hm
  clear hc hrr hm
  rw [HTL.out] at HC ⊢
  go_wp2
  go_loop [4, 11] (fun p i => ∃ k : Nat, k ≤ n ∧ i = .int .i64 k ∧ p = .int .u64 (beVal ((rem.take n).take k) : Nat)) (fun _ i => n - (intOf i).toNat)
  case atStart => exact ⟨0, Nat.zero_le _, rfl, rfl⟩
  case round =>
    obtain ⟨k, hk, rfl, rfl⟩ := hrel
    by_cases hlt : k < n
    · obtain ⟨b, off, rfl, h1⟩ := HC.out k hlt
      have hx := wf_u8 (HW.out.nth k (by rw [HTL.out]; exact hlt))
      have hS := beVal_lt ((rem.take n).take k)
      obtain ⟨S, hSe⟩ : ∃ S, S = beVal ((rem.take n).take k) := ⟨_, rfl⟩
      rw [← hSe] at hS ⊢
      have HS := Lib.hid hSe
      have HS2 := Lib.hid hS
      clear hSe hS
      have ho := or_step S (nth (rem.take n) k) hx
      have HOr := Lib.hid ho
      clear ho
      go_wp2
      go_round
      case rel => exact ⟨k + 1, by omega, by go_num, by rw [HOr.out, take_succ_nth _ k (by rw [HTL.out]; exact hlt), beVal_snoc, ← HS.out]⟩
      case measure => simp [intOf]; omega
    · obtain rfl : k = n := by omega
      go_wp2
      go_ret
      exact ⟨ret_int (by rw [List.take_of_length_le (Nat.le_of_eq HTL.out)]), HRR.out, HM.out⟩
set_option maxHeartbeats 400000 in
theorem number_no (R n : Nat) (rem : List Int) (w : World) (h : RdrAt w R rem) (hn : rem.length < n) (hn8 : n ≤ 8) :
    Calls Try.prog 71 #[.pointer (some ⟨R, 0, none⟩), .int .i64 n] w fun e w' => e = .panicked [endedV] ∧ w = w' := by
  have HR := Lib.hid h
  clear h
  go_enter Try.func71, Try.ntmps71
  go_wp2_with fail
  refine (take_no R n rem _ HR.out hn (by omega)).mono ?_
  rintro e w1 ⟨rfl, rfl⟩
  go_wp2
  exact ⟨rfl, rfl, rfl⟩
/-- what a read came to: a value and the rest, or a panic -/
def Out {α : Type} (w : World) (R : Nat) (res : Option (α × List Int)) (val : α → World → Value → Prop) (e : Ending) (w' : World) : Prop :=
  Moved w w' R ∧ match res with
  | some (x, rest) => (∃ v, e = .returned v ∧ val x w' v) ∧ RdrAt w' R rest
  | none => e = .panicked [endedV]
def numP (k : Nat) (rem : List Int) : Option (Nat × List Int) := if k ≤ rem.length then some (beVal (rem.take k), rem.drop k) else none
theorem number_any (R n : Nat) (rem : List Int) (w : World) (h : RdrAt w R rem) (hw : Wf .u8 rem) (hn8 : n ≤ 8) (hl : rem.length ≤ 140737488351232) :
    Calls Try.prog 71 #[.pointer (some ⟨R, 0, none⟩), .int .i64 n] w (Out w R (numP n rem) fun x _ v => v = .int .u64 (x : Nat)) := by
  unfold numP
  split
  · rename_i hn
    exact (number_yes R n rem w h hw hn hn8 hl).mono fun e w' ⟨he, hr, hm⟩ => ⟨hm, ⟨_, he, rfl⟩, hr⟩
  · rename_i hn
    exact (number_no R n rem w h (by omega) hn8).mono fun e w' ⟨he, hm⟩ => ⟨by rw [← hm]; exact Moved.refl _ _, he⟩
def smallP (most : Nat) (rem : List Int) : Option (Nat × List Int) := (numP 4 rem).bind fun p => if p.1 ≤ most then some p else none
theorem numP_lt {k : Nat} {rem : List Int} {p : Nat × List Int} (h : numP k rem = some p) : p.1 < 18446744073709551616 := by
  unfold numP at h
  split at h
  · cases h; exact beVal_lt _
  · cases h
set_option maxHeartbeats 400000 in
theorem small_any (R most : Nat) (rem : List Int) (w : World) (h : RdrAt w R rem) (hw : Wf .u8 rem) (hm : most ≤ 4294967296) (hl : rem.length ≤ 140737488351232) :
    Calls Try.prog 72 #[.pointer (some ⟨R, 0, none⟩), .int .i64 most] w (Out w R (smallP most rem) fun x _ v => v = .int .i64 (x : Nat)) := by
  have HR := Lib.hid h
  have HW := Lib.hid hw
  clear h hw
  go_enter Try.func72, Try.ntmps72
  go_wp2_with fail
  refine (number_any R 4 rem _ HR.out HW.out (by omega) hl).mono ?_
  rintro e w1 ⟨hmv, ho⟩
  cases hp : numP 4 rem with
  | none =>
    rw [hp] at ho
    have hs : smallP most rem = none := by unfold smallP; rw [hp]; rfl
    dsimp only at ho
    subst ho
    have HM := Lib.hid hmv
    have HS := Lib.hid hs
    clear hmv hp hs
    go_wp2
    refine ⟨rfl, ?_⟩
    rw [HS.out]
    exact ⟨HM.out, rfl⟩
  | some p =>
    obtain ⟨n, rest⟩ := p
    have hlt := numP_lt hp
    dsimp only at hlt
    rw [hp] at ho
    obtain ⟨⟨v, rfl, rfl⟩, hrr⟩ := ho
    have HM := Lib.hid hmv
    have HRR := Lib.hid hrr
    have HLT := Lib.hid hlt
    by_cases hle : n ≤ most
    · have hs : Hid (smallP most rem = some (n, rest)) := Lib.hid (by unfold smallP; rw [hp]; simp [hle])
      clear hmv hp hrr hlt
      go_wp2_with (go_at_call 69; refine (must_yes _ _).mono ?_; rintro e w' ⟨rfl, rfl⟩)
      go_ret
      rw [hs.out]
      exact ⟨HM.out, ⟨_, rfl, rfl⟩, HRR.out⟩
    · have hs : Hid (smallP most rem = none) := Lib.hid (by unfold smallP; rw [hp]; simp [hle])
      clear hmv hp hrr hlt
      go_wp2_with fail
      refine (must_no _ _).mono ?_
      rintro e w' ⟨rfl, rfl⟩
      go_wp2
      refine ⟨rfl, ?_⟩
      rw [hs.out]
      exact ⟨HM.out, rfl⟩
/-- a word out of its eight bytes -/
def wordV (n : Nat) : Int := wrap64 (n : Int)
def wordStep (n : Nat) : Option Int := bif wordB (wordV n) then some (wordV n) else none
theorem wordStep_some {n : Nat} {u : Int} (hu : u = wordV n) (h : wordB u = true) : wordStep n = some u := by subst hu; rw [wordStep, h, cond_true]
theorem wordStep_none {n : Nat} {u : Int} (hu : u = wordV n) (h : wordB u = false) : wordStep n = none := by subst hu; rw [wordStep, h, cond_false]
def wordsP : Nat → List Int → Option (List Int × List Int)
  | 0, rem => some ([], rem)
  | n + 1, rem => (numP 8 rem).bind fun p => (wordStep p.1).bind fun u => (wordsP n p.2).map fun q => (u :: q.1, q.2)
theorem wordsP_zero (rem : List Int) : wordsP 0 rem = some ([], rem) := by rw [wordsP]
theorem wordsP_succ (n : Nat) (rem : List Int) : wordsP (n + 1) rem = (numP 8 rem).bind fun p => (wordStep p.1).bind fun u => (wordsP n p.2).map fun q => (u :: q.1, q.2) := by rw [wordsP]
theorem numP_none {k : Nat} {rem : List Int} (h : rem.length < k) : numP k rem = none := by unfold numP; rw [if_neg (by omega)]
theorem numP_some {k : Nat} {rem : List Int} (h : k ≤ rem.length) : numP k rem = some (beVal (rem.take k), rem.drop k) := by unfold numP; rw [if_pos h]
theorem wordsP_short (n : Nat) : ∀ rem : List Int, rem.length < 8 * n → wordsP n rem = none := by
  induction n with
  | zero => intro rem h; omega
  | succ n ih =>
    intro rem h
    rw [wordsP_succ]
    by_cases h8 : 8 ≤ rem.length
    · rw [numP_some h8, Option.bind_some]
      dsimp only
      rw [ih _ (by rw [List.length_drop]; omega)]
      cases wordStep (beVal (List.take 8 rem)) with
      | none => rw [Option.bind_none]
      | some u => rw [Option.bind_some, Option.map_none]
    · rw [numP_none (by omega), Option.bind_none]
theorem Rd.setOwn {w : World} {v : Value} {xs ys : List Int} {B g n cap : Nat} {e : TypeId} (h : Rd w .u8 v xs) (ho : OwnI w B e .i64 (.slice (some ⟨g, 0, none⟩) n cap) ys) {k : Nat} (hk : k < ys.length) (u : Value) : Rd (w.setCell ⟨g, k, none⟩ u) .u8 v xs := by
  obtain ⟨o', cap', rfl, hc⟩ := h
  refine ⟨o', cap', rfl, fun j hj => ?_⟩
  obtain ⟨b, off, rfl, hcell⟩ := hc j hj
  refine ⟨b, off, rfl, cell_other hcell ?_ rfl⟩
  by_cases e : g = b
  · right
    subst e
    intro e2
    have := (ho.cell k hk).1
    simp at e2
    rw [← e2, this] at hcell
    simp at hcell
  · exact .inl e
theorem RdrAt.setOwn {w : World} {R : Nat} {xs ys : List Int} {B g n cap : Nat} {e : TypeId} (h : RdrAt w R xs) (hR : R ≠ g) (ho : OwnI w B e .i64 (.slice (some ⟨g, 0, none⟩) n cap) ys) {k : Nat} (hk : k < ys.length) (u : Value) : RdrAt (w.setCell ⟨g, k, none⟩ u) R xs := by
  obtain ⟨o, cap, hb, hc, hr, hlow⟩ := h
  exact ⟨o, cap, hb.other (fun e => hR e.symm) _, hc, hr.setOwn ho hk u, hlow⟩
theorem moved_own {w w' : World} {R g : Nat} (h : Moved w w' R) (hg : w.heap.size ≤ g) (k : Nat) (u : Value) : Moved w (w'.setCell ⟨g, k, none⟩ u) R :=
  ⟨h.os, h.tape, h.output, by simpa [World.setCell] using h.size, fun i hi hne => by rw [Below.heap_setCell _ _ _ _ (by simp; omega)]; exact h.block i hi hne⟩
theorem own_moved {w w' : World} {B : Nat} {e : TypeId} {s : Nat} {v : Value} {n R : Nat} {xs : List Value} (h : w.ownsRow B e s v n xs) (hm : Moved w w' R) (hR : R < B) : w'.ownsRow B e s v n xs := by
  refine ⟨h.1, ?_⟩
  rcases h.2 with hn | ⟨g, cap, cur, rfl, hb, hgg, rest⟩
  · exact .inl hn
  · exact .inr ⟨g, cap, cur, rfl, hb, by rw [hm.block g (Array.getElem?_eq_some_iff.1 hgg).1 (by intro e; cases e; omega)]; exact hgg, rest⟩
theorem RdrAt.below {w w' : World} {R : Nat} {xs : List Int} (h : RdrAt w R xs) (hB : Below w.heap.size w w') (hR : R < w.heap.size) : RdrAt w' R xs := by
  obtain ⟨o, cap, hb, hc, hr, hlow⟩ := h
  exact ⟨o, cap, hb.below hB hR, hc, hr.below hB (Nat.le_refl _), hlow⟩
theorem wf_drop {K : IntKind} {xs : List Int} (h : Wf K xs) (k : Nat) : Wf K (xs.drop k) := fun x hx => h x (List.mem_of_mem_drop hx)
theorem numP_rest {k : Nat} {rem : List Int} {p : Nat × List Int} (h : numP k rem = some p) (hw : Wf .u8 rem) : Wf .u8 p.2 ∧ p.2.length + k = rem.length := by
  unfold numP at h
  split at h
  · cases h; exact ⟨wf_drop hw k, by simp; omega⟩
  · cases h
set_option maxRecDepth 100000 in
set_option maxHeartbeats 400000 in
theorem words_any (R n : Nat) (rem : List Int) (w : World) (h : RdrAt w R rem) (hw : Wf .u8 rem) (hn : n ≤ 9000000000000000000) (hl : rem.length ≤ 140737488351232) :
    Calls Try.prog 73 #[.pointer (some ⟨R, 0, none⟩), .int .i64 n] w (Out w R (wordsP n rem) fun xs w' v => OwnI w' w.heap.size 2 .i64 v xs) := by
  obtain ⟨i0, hi, hz0, hz1, hz2⟩ := info_parts info_int64
  obtain ⟨o, cap, hbox, hcap, hrd, hlow⟩ := h
  have c0 : w.cell? ⟨R, 0, none⟩ = some (.slice o rem.length cap) := hbox.cell 0 rfl
  have HR := Lib.hid (show RdrAt w R rem from ⟨o, cap, hbox, hcap, hrd, hlow⟩)
  have HLT := Lib.hid hbox.lt
  have HW := Lib.hid hw
  clear hbox hrd hw hlow
  by_cases hle : n ≤ rem.length / 8
  · have hd := Lib.hid (show decide ((n : Int) ≤ (rem.length : Int) / 8) = true from decide_eq_true (by omega))
    have HLE := Lib.hid hle
    clear hle
    go_enter Try.func73, Try.ntmps73
    go_wp2_with fail
    rw [hd.out]
    refine (must_yes _ _).mono ?_
    rintro e w' ⟨rfl, rfl⟩
    have hle := HLE.out
    go_wp2_with (at_make; refine wpList_make_full _ rfl _ _ 33 rfl w.heap.size 2 i0 (.int .i64 0) 1 Try.underlying33 hi hz0 hz1 .i64 .i64 _ _ n rfl rfl rfl rfl (by rw [hz2]; omega) (by unfold maxLen; omega) (Nat.le_refl _) ?_; intro w1 hm hg; refine stopHere ?_)
    have hB1 : Moved w w1 R := moved_below (grown_below hg)
    have hO1 : OwnI w1 w.heap.size 2 .i64 (.slice (some ⟨w.heap.size, 0, none⟩) n n) ([] ++ List.replicate (n - 0) 0) := OwnI.made hm
    have hR1 : RdrAt w1 R rem := HR.out.below (grown_below hg) HLT.out
    have hN : n ≤ 100000000000000 := by omega
    clear hi hz0 hz1 hz2 hm hg hle c0 hcap
    have HO1 := Lib.hid hO1
    have HB1 := Lib.hid hB1
    have HR1 := Lib.hid hR1
    clear hO1 hB1 hR1
    refine goOn ?_
    go_wp2
    go_loopw [25] (fun i wr => ∃ (k : Nat) (done rest : List Int), k ≤ n ∧ i = .int .i64 k ∧ done.length = k ∧ OwnI wr w.heap.size 2 .i64 (.slice (some ⟨w.heap.size, 0, none⟩) n n) (done ++ List.replicate (n - k) 0) ∧ RdrAt wr R rest ∧ Moved w wr R ∧ Wf .u8 rest ∧ rest.length ≤ rem.length ∧ wordsP n rem = (wordsP (n - k) rest).map (fun q => (done ++ q.1, q.2))) (fun i _ => n - (intOf i).toNat)
    case atStart => exact ⟨0, [], rem, Nat.zero_le _, rfl, rfl, HO1.out, HR1.out, HB1.out, HW.out, Nat.le_refl _, by simp⟩
    case round =>
      obtain ⟨k, done, rest, hk, rfl, hdl, hown, hrr, hmv, hwr, hrl, heq⟩ := hrel
      obtain ⟨w3, rfl⟩ : ∃ w3, w3 = wr := ⟨_, rfl⟩
      have HOW := Lib.hid hown
      have HRR := Lib.hid hrr
      have HMV := Lib.hid hmv
      have HWR := Lib.hid hwr
      have HEQ := Lib.hid heq
      have HDL := Lib.hid hdl
      have hrl' : rest.length ≤ 140737488351232 := by omega
      have HRL := Lib.hid hrl
      clear hown hrr hmv hwr heq hdl hrl
      by_cases hlt : k < n
      · have hkl : k < (done ++ List.replicate (n - k) (0 : Int)).length := by rw [List.length_append, HDL.out, List.length_replicate]; omega
        have HKL := Lib.hid hkl
        clear hkl
        go_wp2_with fail
        refine (number_any R 8 rest _ HRR.out HWR.out (by omega) hrl').mono ?_
        rintro e w4 ⟨hmv4, ho⟩
        cases hp : numP 8 rest with
        | none =>
          rw [hp] at ho
          have hs : wordsP n rem = none := by
            rw [HEQ.out, show n - k = (n - k - 1) + 1 by omega, wordsP_succ, hp, Option.bind_none, Option.map_none]
          dsimp only at ho
          subst ho
          have HM := Lib.hid (HMV.out.trans hmv4)
          have HS := Lib.hid hs
          clear hmv4 hp hs
          go_wp2
          refine ⟨rfl, ?_⟩
          rw [HS.out]
          exact ⟨HM.out, rfl⟩
        | some p =>
          obtain ⟨x, rest2⟩ := p
          have hpr := numP_rest hp HWR.out
          rw [hp] at ho
          obtain ⟨⟨v, rfl, rfl⟩, hrr4⟩ := ho
          have HM4 := Lib.hid (HMV.out.trans hmv4)
          have hown4 := own_moved HOW.out hmv4 HLT.out
          have hc4 := OwnI.cell hown4 k HKL.out
          have c4 := hc4.1
          have f4 := hc4.2
          have HO4 := Lib.hid hown4
          have HR4 := Lib.hid hrr4
          have HPR := Lib.hid hpr
          have HP := Lib.hid hp
          clear hmv4 hpr hp hrr4 hown4 hc4
          go_wp2_with fail
          obtain ⟨u, hu⟩ : ∃ u, u = wordV x := ⟨_, rfl⟩
          rw [show wrap64 (x : Int) = u from hu.symm]
          have HU := Lib.hid hu
          clear hu
          refine (fxGood_any _ _).mono ?_
          rintro e w5 ⟨rfl, hsm⟩
          have hO5 : OwnI w5 w.heap.size 2 .i64 (.slice (some ⟨w.heap.size, 0, none⟩) n n) ((done ++ [u]) ++ List.replicate (n - (k + 1)) 0) := by
            have := own_same (OwnI.set HO4.out k u) hsm
            have e : (done ++ List.replicate (n - k) (0 : Int)).set k u = (done ++ [u]) ++ List.replicate (n - (k + 1)) 0 := by
              rw [show n - k = (n - (k + 1)) + 1 by omega, List.replicate_succ, List.set_append_right _ _ (by rw [HDL.out]; exact Nat.le_refl _), HDL.out, Nat.sub_self, List.set_cons_zero, List.append_assoc]; rfl
            rw [e] at this
            have e2 : (done ++ List.replicate (n - k) (0 : Int)).length = ((done ++ [u]) ++ List.replicate (n - (k + 1)) 0).length := by rw [← e, List.length_set]
            simpa only [OwnI, e2] using this
          have hR5 : RdrAt w5 R rest2 := (HR4.out.setOwn (Nat.ne_of_lt HLT.out) HO4.out HKL.out (.int .i64 u)).below (hsm.below _) (by simp [World.setCell]; have := HM4.out.size; have := HLT.out; omega)
          have hM5 : Moved w w5 R := (moved_own HM4.out (Nat.le_refl _) k (.int .i64 u)).trans (moved_below (hsm.below _))
          have HO5 := Lib.hid hO5
          have HR5 := Lib.hid hR5
          have HM5 := Lib.hid hM5
          clear hO5 hR5 hM5 hsm c4 f4
          cases hb : wordB u with
          | true =>
            have HEB := Lib.hid hb
            clear hb
            go_wp2_with (go_at_call 69; refine (must_yes _ _).mono ?_; rintro e w' ⟨rfl, rfl⟩)
            go_roundw
            case rel => exact ⟨k + 1, done ++ [u], rest2, by omega, by go_num, by rw [List.length_append, HDL.out]; rfl, HO5.out, HR5.out, HM5.out, HPR.out.1, by have := HPR.out.2; have := HRL.out; omega, by
              rw [HEQ.out, show n - k = (n - (k + 1)) + 1 by omega, wordsP_succ, HP.out, Option.bind_some, wordStep_some HU.out HEB.out, Option.bind_some, Option.map_map]
              congr 1
              funext q
              simp⟩
            case measure => simp [intOf]; omega
          | false =>
            have hs : wordsP n rem = none := by
              rw [HEQ.out, show n - k = (n - k - 1) + 1 by omega, wordsP_succ, HP.out, Option.bind_some, wordStep_none HU.out hb, Option.bind_none, Option.map_none]
            have HS := Lib.hid hs
            clear hs hb
            go_wp2_with fail
            refine (must_no _ _).mono ?_
            rintro e w' ⟨rfl, rfl⟩
            go_wp2
            refine ⟨rfl, ?_⟩
            rw [HS.out]
            exact ⟨HM5.out, rfl⟩
      · obtain rfl : k = n := by omega
        go_wp2
        go_ret
        have e : wordsP k rem = some (done, rest) := by
          rw [HEQ.out, Nat.sub_self, wordsP_zero, Option.map_some, List.append_nil]
        refine ⟨HMV.out, ?_⟩
        rw [e]
        exact ⟨⟨_, rfl, by have := HOW.out; rw [Nat.sub_self, List.replicate_zero, List.append_nil] at this; exact this⟩, HRR.out⟩
  · have hd := Lib.hid (show decide ((n : Int) ≤ (rem.length : Int) / 8) = false from decide_eq_false (by omega))
    have HS := Lib.hid (wordsP_short n rem (by omega))
    clear hle
    go_enter Try.func73, Try.ntmps73
    go_wp2_with fail
    rw [hd.out]
    refine (must_no _ _).mono ?_
    rintro e w' ⟨rfl, rfl⟩
    go_wp2
    refine ⟨rfl, ?_⟩
    rw [HS.out]
    exact ⟨Moved.refl _ _, rfl⟩
theorem RdrAt.low {w w' : World} {R : Nat} {xs : List Int} (h : RdrAt w R xs) (hB : Below (R + 1) w w') : RdrAt w' R xs := by
  obtain ⟨o, cap, hb, hc, hr, hlow⟩ := h
  refine ⟨o, cap, hb.below hB (Nat.lt_succ_self R), hc, ?_, hlow⟩
  obtain ⟨o', cap', he, hcell⟩ := hr
  refine ⟨o', cap', he, fun j hj => ?_⟩
  obtain ⟨b, off, ho, h1⟩ := hcell j hj
  refine ⟨b, off, ho, ?_⟩
  simp only [Value.slice.injEq] at he
  have hlt := hlow (by omega) ⟨b, off, none⟩ (by rw [he.1, ho])
  exact (hB.cell (p := ⟨b, off + j, none⟩) (Nat.lt_succ_of_lt hlt)).trans h1
/-- the reader R, since the world w0, reads these bytes -/
structure RdrS (w0 w : World) (R : Nat) (rem : List Int) : Prop where
  at_ : RdrAt w R rem
  wf : Wf .u8 rem
  len : rem.length ≤ 100000
  moved : Moved w0 w R
  lt : R < w0.heap.size
theorem moved_low {w0 w w' : World} {R B : Nat} (h : Moved w0 w R) (hB : Below B w w') (hb : w0.heap.size ≤ B) : Moved w0 w' R :=
  ⟨hB.os.trans h.os, hB.tape.trans h.tape, hB.output.trans h.output, Nat.le_trans h.size hB.size, fun k hk hne => (hB.block k (by omega)).trans (h.block k hk hne)⟩
theorem RdrS.low {w0 w w' : World} {R B : Nat} {xs : List Int} (h : RdrS w0 w R xs) (hB : Below B w w') (hb : w0.heap.size ≤ B) : RdrS w0 w' R xs :=
  ⟨h.at_.low (hB.mono (by have := h.lt; omega)), h.wf, h.len, moved_low h.moved hB hb, h.lt⟩
theorem RdrS.start {w : World} {R : Nat} {xs : List Int} (h : RdrAt w R xs) (hw : Wf .u8 xs) (hl : xs.length ≤ 100000) : RdrS w w R xs :=
  ⟨h, hw, hl, Moved.refl _ _, by obtain ⟨o, cap, hb, _⟩ := h; exact hb.lt⟩
theorem RdrS.drew {w0 w : World} {R : Nat} {xs : List Int} (h : RdrS w0 w R xs) : RdrS w0 w.drew R xs :=
  h.low (B := w0.heap.size) (Below.refl _ _).drew (Nat.le_refl _)
theorem fin_no {α : Type} {w w' : World} {R : Nat} {res : Option (α × List Int)} {val : α → World → Value → Prop} (hs : res = none) (hm : Moved w w' R) : Out w R res val (.panicked [endedV]) w' := by
  subst hs; exact ⟨hm, rfl⟩
theorem fin_yes {α : Type} {w w' : World} {R : Nat} {res : Option (α × List Int)} {val : α → World → Value → Prop} {x : α} {rest : List Int} {v : Value} (hs : res = some (x, rest)) (hm : Moved w w' R) (hv : val x w' v) (hr : RdrAt w' R rest) : Out w R res val (.returned v) w' := by
  subst hs; exact ⟨hm, ⟨v, rfl, hv⟩, hr⟩
theorem Out.moved {α : Type} {w w' : World} {R : Nat} {res : Option (α × List Int)} {val : α → World → Value → Prop} {e : Ending} (h : Out w R res val e w') : Moved w w' R := h.1
theorem number_some {w0 w : World} {R n : Nat} {rem rest : List Int} {x : Nat} (h : RdrS w0 w R rem) (hn8 : n ≤ 8) (hp : numP n rem = some (x, rest)) :
    Calls Try.prog 71 #[.pointer (some ⟨R, 0, none⟩), .int .i64 n] w fun e w' => e = .returned (.int .u64 (x : Nat)) ∧ RdrS w0 w' R rest ∧ Moved w w' R :=
  (number_any R n rem w h.at_ h.wf hn8 (by have := h.len; omega)).mono fun e w' ho => by
    have hr := numP_rest hp h.wf
    rw [hp] at ho
    obtain ⟨hm, ⟨v, rfl, rfl⟩, hr2⟩ := ho
    exact ⟨rfl, ⟨hr2, hr.1, by have := h.len; have := hr.2; dsimp only at this ⊢; omega, h.moved.trans hm, h.lt⟩, hm⟩
theorem number_none {w0 w : World} {R n : Nat} {rem : List Int} (h : RdrS w0 w R rem) (hn8 : n ≤ 8) (hp : numP n rem = none) :
    Calls Try.prog 71 #[.pointer (some ⟨R, 0, none⟩), .int .i64 n] w fun e w' => e = .panicked [endedV] ∧ Moved w0 w' R :=
  (number_any R n rem w h.at_ h.wf hn8 (by have := h.len; omega)).mono fun e w' ho => by
    rw [hp] at ho
    exact ⟨ho.2, h.moved.trans ho.1⟩
theorem smallP_num {most : Nat} {rem rest : List Int} {x : Nat} (hp : smallP most rem = some (x, rest)) : numP 4 rem = some (x, rest) ∧ x ≤ most := by
  unfold smallP at hp
  rw [Option.bind_eq_some_iff] at hp
  obtain ⟨p, h1, h2⟩ := hp
  split at h2
  · cases h2; exact ⟨h1, by assumption⟩
  · cases h2
theorem small_some {w0 w : World} {R most : Nat} {rem rest : List Int} {x : Nat} (h : RdrS w0 w R rem) (hm : most ≤ 4294967296) (hp : smallP most rem = some (x, rest)) :
    Calls Try.prog 72 #[.pointer (some ⟨R, 0, none⟩), .int .i64 most] w fun e w' => e = .returned (.int .i64 (x : Nat)) ∧ RdrS w0 w' R rest ∧ Moved w w' R :=
  (small_any R most rem w h.at_ h.wf hm (by have := h.len; omega)).mono fun e w' ho => by
    have hr := numP_rest (smallP_num hp).1 h.wf
    rw [hp] at ho
    obtain ⟨hm, ⟨v, rfl, rfl⟩, hr2⟩ := ho
    exact ⟨rfl, ⟨hr2, hr.1, by have := h.len; have := hr.2; dsimp only at this ⊢; omega, h.moved.trans hm, h.lt⟩, hm⟩
theorem small_none {w0 w : World} {R most : Nat} {rem : List Int} (h : RdrS w0 w R rem) (hm : most ≤ 4294967296) (hp : smallP most rem = none) :
    Calls Try.prog 72 #[.pointer (some ⟨R, 0, none⟩), .int .i64 most] w fun e w' => e = .panicked [endedV] ∧ Moved w0 w' R :=
  (small_any R most rem w h.at_ h.wf hm (by have := h.len; omega)).mono fun e w' ho => by
    rw [hp] at ho
    exact ⟨ho.2, h.moved.trans ho.1⟩
theorem wordStep_val {n : Nat} {u : Int} (h : wordStep n = some u) : u = wordV n ∧ wordB u = true := by
  unfold wordStep at h
  cases hb : wordB (wordV n) with
  | true => rw [hb, cond_true] at h; cases h; exact ⟨rfl, hb⟩
  | false => rw [hb, cond_false] at h; cases h
theorem wordsP_rest (n : Nat) : ∀ {rem rest xs : List Int}, wordsP n rem = some (xs, rest) → Wf .u8 rem → Wf .u8 rest ∧ rest.length + 8 * n = rem.length ∧ xs.length = n ∧ wordsB xs = true := by
  induction n with
  | zero => intro rem rest xs h hw; rw [wordsP_zero] at h; cases h; exact ⟨hw, by omega, rfl, rfl⟩
  | succ n ih =>
    intro rem rest xs h hw
    rw [wordsP_succ, Option.bind_eq_some_iff] at h
    obtain ⟨p, h1, h2⟩ := h
    rw [Option.bind_eq_some_iff] at h2
    obtain ⟨u, h3, h4⟩ := h2
    rw [Option.map_eq_some_iff] at h4
    obtain ⟨q, h5, h6⟩ := h4
    cases h6
    have a := numP_rest h1 hw
    obtain ⟨b1, b2, b3, b4⟩ := ih h5 a.1
    refine ⟨b1, by omega, by simp [b3], ?_⟩
    rw [wordsB, List.all_cons, (wordStep_val h3).2, ← wordsB, b4]; rfl
theorem words_some {w0 w : World} {R n : Nat} {rem rest xs : List Int} (h : RdrS w0 w R rem) (hn : n ≤ 9000000000000000000) (hp : wordsP n rem = some (xs, rest)) :
    Calls Try.prog 73 #[.pointer (some ⟨R, 0, none⟩), .int .i64 n] w fun e w' => (∃ v, e = .returned v ∧ OwnI w' w.heap.size 2 .i64 v xs) ∧ RdrS w0 w' R rest ∧ Moved w w' R :=
  (words_any R n rem w h.at_ h.wf hn (by have := h.len; omega)).mono fun e w' ho => by
    have hr := wordsP_rest n hp h.wf
    rw [hp] at ho
    obtain ⟨hm, hv, hr2⟩ := ho
    exact ⟨hv, ⟨hr2, hr.1, by have := h.len; have := hr.2.1; omega, h.moved.trans hm, h.lt⟩, hm⟩
theorem words_none {w0 w : World} {R n : Nat} {rem : List Int} (h : RdrS w0 w R rem) (hn : n ≤ 9000000000000000000) (hp : wordsP n rem = none) :
    Calls Try.prog 73 #[.pointer (some ⟨R, 0, none⟩), .int .i64 n] w fun e w' => e = .panicked [endedV] ∧ Moved w0 w' R :=
  (words_any R n rem w h.at_ h.wf hn (by have := h.len; omega)).mono fun e w' ho => by
    rw [hp] at ho
    exact ⟨ho.2, h.moved.trans ho.1⟩
theorem must_y {p : Value} {w : World} {b : Bool} (hb : b = true) : Calls Try.prog 69 #[p, .bool b] w fun e w' => e = .returned (.tuple #[]) ∧ w = w' := by subst hb; exact must_yes p w
theorem must_n {p : Value} {w : World} {b : Bool} (hb : b = false) : Calls Try.prog 69 #[p, .bool b] w fun e w' => e = .panicked [endedV] ∧ w = w' := by subst hb; exact must_no p w
theorem words_s {w0 w : World} {R n : Nat} {m : Int} {rem rest xs : List Int} (hm : m = n) (h : RdrS w0 w R rem) (hn : n ≤ 9000000000000000000) (hp : wordsP n rem = some (xs, rest)) :
    Calls Try.prog 73 #[.pointer (some ⟨R, 0, none⟩), .int .i64 m] w fun e w' => (∃ v, e = .returned v ∧ OwnI w' w.heap.size 2 .i64 v xs) ∧ RdrS w0 w' R rest ∧ Moved w w' R := by subst hm; exact words_some h hn hp
theorem words_n {w0 w : World} {R n : Nat} {m : Int} {rem : List Int} (hm : m = n) (h : RdrS w0 w R rem) (hn : n ≤ 9000000000000000000) (hp : wordsP n rem = none) :
    Calls Try.prog 73 #[.pointer (some ⟨R, 0, none⟩), .int .i64 m] w fun e w' => e = .panicked [endedV] ∧ Moved w0 w' R := by subst hm; exact words_none h hn hp
theorem RdrS.same {w0 w w' : World} {R : Nat} {xs : List Int} (h : RdrS w0 w R xs) (hs : Same w w') : RdrS w0 w' R xs := h.low (hs.below w0.heap.size) (Nat.le_refl _)
end Go.Proofs.Ytjhejpeklppmbaa
