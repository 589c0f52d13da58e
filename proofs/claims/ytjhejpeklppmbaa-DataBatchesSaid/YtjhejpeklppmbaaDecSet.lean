/-
  THE READER'S DATASET: data.Reader.set.
-/
import Derived.Test.YtjhejpeklppmbaaReader
import Derived.Test.YtjhejpeklppmbaaEncode
import Derived.Deep.RegionHeld3
import Derived.Deep.RegionLaw
import Derived.Deep.LoopGhost
import Derived.Deep.DeepCutAuto
import Derived.Deep.AppendLies
import Derived.Laws.BytesArg
set_option linter.unusedVariables false
set_option linter.unusedSimpArgs false
namespace Go.Proofs.Ytjhejpeklppmbaa
open Go.RowKit Go.Shelf
def labelsP : Nat → List Int → Option (List Int × List Int)
  | 0, rem => some ([], rem)
  | n + 1, rem => (smallP 4096 rem).bind fun p => (labelsP n p.2).map fun q => ((p.1 : Int) :: q.1, q.2)
theorem labelsP_zero (rem : List Int) : labelsP 0 rem = some ([], rem) := by rw [labelsP]
theorem labelsP_succ (n : Nat) (rem : List Int) : labelsP (n + 1) rem = (smallP 4096 rem).bind fun p => (labelsP n p.2).map fun q => ((p.1 : Int) :: q.1, q.2) := by rw [labelsP]
def dimsP (c : Nat) (rem : List Int) : Option (List Int × List Int) := bif decide (c ≤ 3) then labelsP c rem else none
def setE (sh x : List Int) (n many : Nat) (kind : Nat) (rem : List Int) : Option (SetD × List Int) :=
  bif kind == 1 then (wordsP (n * many) rem).map fun p => (⟨sh, x, [], p.1⟩, p.2) else (labelsP n rem).map fun p => (⟨sh, x, p.1, []⟩, p.2)
def setD (sh : List Int) (n kind : Nat) (rem : List Int) : Option (SetD × List Int) :=
  (bif kind == 1 then smallP 65536 rem else some (0, rem)).bind fun p => (wordsP (n * (prodL sh).toNat) p.2).bind fun q => setE sh q.1 n p.1 kind q.2
def setC (sh rem : List Int) : Option (SetD × List Int) :=
  (smallP 1024 rem).bind fun p => (numP 1 p.2).bind fun q => bif decide (q.1 ≤ 1) then setD sh p.1 q.1 q.2 else none
def setB (rem : List Int) : Option (SetD × List Int) :=
  (numP 1 rem).bind fun p => (dimsP p.1 p.2).bind fun q => bif shapeB q.1 then setC q.1 q.2 else none
def setA (rem : List Int) : Option (SetD × List Int) :=
  (numP 1 rem).bind fun p => bif p.1 == 1 then setB p.2 else none
def setP (rem : List Int) : Option (SetD × List Int) :=
  bif decide (4 ≤ rem.length) && decide (rem.take 4 = [82, 83, 69, 84]) then setA (rem.drop 4) else none
/-- nothing has turned but for these two blocks and what is new -/
structure Kept (w w' : World) (R S : Nat) : Prop where
  os : w'.os = w.os
  tape : w'.tape = w.tape
  output : w'.output = w.output
  size : w.heap.size ≤ w'.heap.size
  block : ∀ k, k < w.heap.size → k ≠ R → k ≠ S → w'.heap[k]? = w.heap[k]?
theorem Kept.refl (w : World) (R S : Nat) : Kept w w R S := ⟨rfl, rfl, rfl, Nat.le_refl _, fun _ _ _ _ => rfl⟩
theorem Kept.trans {a b c : World} {R S : Nat} (h : Kept a b R S) (k : Kept b c R S) : Kept a c R S :=
  ⟨k.os.trans h.os, k.tape.trans h.tape, k.output.trans h.output, Nat.le_trans h.size k.size, fun i hi h1 h2 => (k.block i (Nat.lt_of_lt_of_le hi h.size) h1 h2).trans (h.block i hi h1 h2)⟩
theorem Kept.of_moved {w w' : World} {R S : Nat} (h : Moved w w' R) : Kept w w' R S := ⟨h.os, h.tape, h.output, h.size, fun k hk hR _ => h.block k hk (fun e => hR (by cases e; rfl))⟩
theorem Kept.of_below {w w' : World} {R S : Nat} (h : Below w.heap.size w w') : Kept w w' R S := ⟨h.os, h.tape, h.output, h.size, fun k hk _ _ => h.block k hk⟩
theorem Kept.moved {w w1 w' : World} {R S : Nat} (h : Moved w w1 R) (k : Kept w1 w' R S) (hS : w.heap.size ≤ S) : Moved w w' R :=
  ⟨k.os.trans h.os, k.tape.trans h.tape, k.output.trans h.output, Nat.le_trans h.size k.size, fun i hi hne => (k.block i (Nat.lt_of_lt_of_le hi h.size) (fun e => hne (by rw [e])) (by omega)).trans (h.block i hi hne)⟩
theorem Kept.set {w w' : World} {R S : Nat} (h : Kept w w' R S) (j : Nat) (v : Value) : Kept w (w'.setCell ⟨S, j, none⟩ v) R S :=
  ⟨h.os, h.tape, h.output, by simpa [World.setCell] using h.size, fun k hk h1 h2 => (Below.heap_setCell _ _ _ _ (fun e => h2 (by simp at e; exact e))).trans (h.block k hk h1 h2)⟩
theorem own_kept {w w' : World} {B : Nat} {e : TypeId} {s : Nat} {v : Value} {n R S : Nat} {xs : List Value} (h : w.ownsRow B e s v n xs) (hm : Kept w w' R S) (hR : R < B) (hS : S < B) : w'.ownsRow B e s v n xs := by
  refine ⟨h.1, ?_⟩
  rcases h.2 with hn | ⟨g, cap, cur, rfl, hb, hgg, rest⟩
  · exact .inl hn
  · exact .inr ⟨g, cap, cur, rfl, hb, by rw [hm.block g (Array.getElem?_eq_some_iff.1 hgg).1 (by omega) (by omega)]; exact hgg, rest⟩
theorem Box.moved {w w' : World} {S R : Nat} {T : TypeId} {cs : Array Value} (h : Box w S T cs) (hm : Moved w w' R) (hne : S ≠ R) : Box w' S T cs := (hm.block S h.lt (fun e => hne (by cases e; rfl))).trans h
theorem Rd.setAt {w : World} {K : IntKind} {v : Value} {xs : List Int} {S j n cap : Nat} {o : Option Addr} (h : Rd w K v xs) (c : w.cell? ⟨S, j, none⟩ = some (.slice o n cap)) (u : Value) : Rd (w.setCell ⟨S, j, none⟩ u) K v xs := by
  obtain ⟨o', cap', rfl, hc⟩ := h
  refine ⟨o', cap', rfl, fun i hi => ?_⟩
  obtain ⟨b, off, rfl, hcell⟩ := hc i hi
  refine ⟨b, off, rfl, cell_other hcell ?_ rfl⟩
  by_cases e : S = b
  · right
    subst e
    intro e2
    simp at e2
    rw [← e2, c] at hcell
    simp at hcell
  · exact .inl e
theorem RdrAt.setAt {w : World} {R S j n cap : Nat} {o : Option Addr} {xs : List Int} (h : RdrAt w R xs) (hne : S ≠ R) (c : w.cell? ⟨S, j, none⟩ = some (.slice o n cap)) (u : Value) : RdrAt (w.setCell ⟨S, j, none⟩ u) R xs := by
  obtain ⟨o', cap', hb, hc, hr, hlow⟩ := h
  exact ⟨o', cap', hb.other hne _, hc, hr.setAt c u, hlow⟩
theorem own_setLt {w : World} {B : Nat} {e : TypeId} {s : Nat} {v : Value} {n : Nat} {xs : List Value} (h : w.ownsRow B e s v n xs) {S j : Nat} (hS : S < B) (u : Value) : (w.setCell ⟨S, j, none⟩ u).ownsRow B e s v n xs :=
  own_kept (R := S) (S := S) h ((Kept.refl w S S).set j u) hS hS
theorem str_of_rd {w : World} {v : Value} {xs : List Int} (h : Rd w .u8 v xs) (h0 : 0 < xs.length) :
    (convert 23 9 v).run Try.prog w = .ok (.string (strOfNums xs)) w := by
  obtain ⟨o, cap, rfl, hc⟩ := h
  obtain ⟨b, off, rfl, _⟩ := hc 0 h0
  refine run_convert_bytes_arg w _ _ Try.underlying23 Try.underlying5 b off _ cap xs rfl (fun i hi => ?_) _ Try.underlying9
  obtain ⟨b', off', e, hcell⟩ := hc i hi
  simp at e
  obtain ⟨rfl, rfl⟩ := e
  rw [hcell, nth_eq _ _ hi]
  simp [hi]
theorem str_magic : strOfNums [82, 83, 69, 84] = { data := #[82, 83, 69, 84] } := rfl
theorem nums_inj : ∀ (xs ys : List Int), Wf .u8 xs → Wf .u8 ys → xs.map (fun n => UInt8.ofNat n.toNat) = ys.map (fun n => UInt8.ofNat n.toNat) → xs = ys
  | [], [], _, _, _ => rfl
  | [], y :: ys, _, _, h => by simp at h
  | x :: xs, [], _, _, h => by simp at h
  | x :: xs, y :: ys, hx, hy, h => by
    simp only [List.map_cons, List.cons.injEq] at h
    obtain ⟨h1, h2⟩ := h
    have e1 := wf_u8 (hx x (by simp))
    have e2 := wf_u8 (hy y (by simp))
    have h3 := congrArg UInt8.toNat h1
    rw [UInt8.toNat_ofNat', UInt8.toNat_ofNat'] at h3
    rw [nums_inj xs ys (fun a ha => hx a (by simp [ha])) (fun a ha => hy a (by simp [ha])) h2]
    congr 1
    omega
theorem str_other {xs : List Int} (hw : Wf .u8 xs) (h : xs ≠ [82, 83, 69, 84]) : ¬ (strOfNums xs).toList = [82, 83, 69, 84] := fun e => h (by
  rw [ByteArray.toList_eq, strOfNums_data] at e
  exact nums_inj xs _ hw (by intro x hx; simp at hx; rcases hx with rfl | rfl | rfl | rfl <;> rfl) e)
theorem setP_none {rem : List Int} (h : ¬ (4 ≤ rem.length ∧ rem.take 4 = [82, 83, 69, 84])) : setP rem = none := by
  unfold setP
  rw [show (decide (4 ≤ rem.length) && decide (rem.take 4 = [82, 83, 69, 84])) = false from by rw [← Bool.decide_and]; exact decide_eq_false h, cond_false]
theorem setP_some {rem : List Int} (h : 4 ≤ rem.length) (h2 : rem.take 4 = [82, 83, 69, 84]) : setP rem = setA (rem.drop 4) := by
  unfold setP
  rw [show (decide (4 ≤ rem.length) && decide (rem.take 4 = [82, 83, 69, 84])) = true from by rw [← Bool.decide_and]; exact decide_eq_true ⟨h, h2⟩, cond_true]
theorem labelsP_rest (n : Nat) : ∀ {rem rest xs : List Int}, labelsP n rem = some (xs, rest) → Wf .u8 rem → Wf .u8 rest ∧ rest.length + 4 * n = rem.length ∧ xs.length = n := by
  induction n with
  | zero => intro rem rest xs h hw; rw [labelsP_zero] at h; cases h; exact ⟨hw, by omega, rfl⟩
  | succ n ih =>
    intro rem rest xs h hw
    rw [labelsP_succ, Option.bind_eq_some_iff] at h
    obtain ⟨p, h1, h2⟩ := h
    rw [Option.map_eq_some_iff] at h2
    obtain ⟨q, h3, h4⟩ := h2
    cases h4
    have a := numP_rest (smallP_num h1).1 hw
    obtain ⟨b1, b2, b3⟩ := ih h3 a.1
    have a2 := a.2
    dsimp only at a2
    exact ⟨b1, by omega, by simp [b3]⟩
/-- two slices in different blocks -/
def Sep (v u : Value) : Prop := ∀ g, v.ownBlock = some g → u.ownBlock = some g → False
theorem sep_nil (v : Value) : Sep v (.slice none 0 0) := fun g _ h => by cases h
theorem nil_sep (v : Value) : Sep (.slice none 0 0) v := fun g h _ => by cases h
theorem sep_base {w w' : World} {B C : Nat} {e e' : TypeId} {s s' n n' : Nat} {v u : Value} {xs ys : List Value} (h : w.ownsRow B e s v n xs) (h' : w'.ownsRow C e' s' u n' ys) (hC : w.heap.size ≤ C) : Sep v u := fun g h1 h2 => by
  have a := (h.lt g h1).2
  have b := (h'.lt g h2).1
  omega
/-- a dataset of the call's own -/
def SetVal (B : Nat) (s : SetD) (w' : World) (v : Value) : Prop := ∃ a b c d, v = .agg #[a, b, c, d] ∧ OwnI w' B 3 .i64 a s.sh ∧ OwnI w' B 2 .i64 b s.x ∧ OwnI w' B 3 .i64 c s.lb ∧ OwnI w' B 2 .i64 d s.y ∧ Sep a c ∧ Sep b d
/-- inside a region that draws: a way out by a panic -/
theorem panic_done {p : Prop} {P : Program} {w : World} (h : p) : wpAny P .any #[] (fun _ _ _ => True) 0 #[] ⟨#[], []⟩ w → p := fun _ => h
theorem info_i : (Try.prog.info? 3).map (fun i => (i.zero, i.size, i.bytes)) = some (some (.int .i64 0), 1, 8) := by kernel_rfl
/-- one element appended to the slice in a struct's field, and the field written -/
theorem field_step {w0 w3 w4 : World} {R S D j : Nat} {T e : TypeId} {cs : Array Value} {K : IntKind} {v v' : Value} {ds : List Int} {x : Int} {rest : List Int} {o : Obj}
    (hq : RdrS w0 w3 R rest) (hS : S = w0.heap.size) (hD : S < D) (hb : Box w3 S T cs) (ho : OwnI w3 D e K v ds)
    (hown : w4.ownsRow D e 1 v' (ds.length + 1) (ds.map (Value.int K) ++ [.int K x])) (hg : (w3.alloc o).grownBy w4 v.ownBlock) :
    RdrS w0 (w4.setCell ⟨S, j, none⟩ v') R rest ∧ Box (w4.setCell ⟨S, j, none⟩ v') S T (cs.setIfInBounds j v') ∧ OwnI (w4.setCell ⟨S, j, none⟩ v') D e K v' (ds ++ [x]) := by
  have hB : Below (S + 1) w3 w4 := below_append' (Below.refl _ _) (by have := hb.lt; omega) ho hg (by omega)
  have hb4 := hb.below hB (Nat.lt_succ_self S)
  refine ⟨?_, hb4.set j v', own_setLt (own_snoc hown) hD v'⟩
  refine hq.low (B := S) ?_ (by omega)
  exact (hB.mono (by omega)).setCell (by simp) v'
theorem field_free {w3 w4 : World} {S D j : Nat} {T e : TypeId} {cs : Array Value} {K : IntKind} {v c : Value} {ds : List Int} {o : Obj}
    (hb : Box w3 S T cs) (hj : cs[j]? = some c) (hD : S < D) (ho : OwnI w3 D e K v ds) (hg : (w3.alloc o).grownBy w4 v.ownBlock) : w4.cell? ⟨S, j, none⟩ = some c ∧ w4.frozen? ⟨S, j, none⟩ = false := by
  have hb4 := hb.below (below_append' (C := S + 1) (Below.refl _ _) (by have := hb.lt; omega) ho hg (by omega)) (Nat.lt_succ_self S)
  exact ⟨hb4.cell j hj, hb4.free j⟩
theorem Kept.low {w0 w w' : World} {R S B : Nat} (h : Kept w0 w R S) (hB : Below B w w') (hb : w0.heap.size ≤ B) : Kept w0 w' R S :=
  ⟨hB.os.trans h.os, hB.tape.trans h.tape, hB.output.trans h.output, Nat.le_trans h.size hB.size, fun k hk h1 h2 => (hB.block k (by omega)).trans (h.block k hk h1 h2)⟩
theorem field_kept {w0 w3 w4 : World} {R S j : Nat} {e : TypeId} {K : IntKind} {v v' : Value} {ds : List Int} {o : Obj} (hk : Kept w0 w3 R S) (ho : OwnI w3 w0.heap.size e K v ds) (hg : (w3.alloc o).grownBy w4 v.ownBlock) :
    Kept w0 (w4.setCell ⟨S, j, none⟩ v') R S :=
  (hk.low (below_append' (Below.refl _ _) hk.size ho hg) (Nat.le_refl _)).set j v'
theorem box_store {w0 w : World} {R S j : Nat} {T : TypeId} {cs : Array Value} {rest : List Int} (hq : RdrS w0 w R rest) (hS : S = w0.heap.size) (hb : Box w S T cs) (v : Value) :
    RdrS w0 (w.setCell ⟨S, j, none⟩ v) R rest ∧ Box (w.setCell ⟨S, j, none⟩ v) S T (cs.setIfInBounds j v) :=
  ⟨hq.low (B := S) ((Below.refl _ _).setCell (by simp) v) (by omega), hb.set j v⟩
theorem set_same {w : World} {B j : Nat} {T : TypeId} {cs : Array Value} {v : Value} (h : Box w B T cs) (hj : cs[j]? = some v) : w.setCell ⟨B, j, none⟩ v = w := by
  have hs : cs.setIfInBounds j v = cs := by
    apply Array.ext_getElem?
    intro i
    rw [Array.getElem?_setIfInBounds]
    split
    · rename_i e; subst e; split
      · exact hj.symm
      · rename_i h1; rw [Array.getElem?_eq_none (by omega)]
    · rfl
  unfold Box at h
  have hm : (w.heap.modify B fun x => match x with | .cells c e f => .cells (c.setIfInBounds j v) e f | o => o) = w.heap := by
    apply Array.ext_getElem?
    intro i
    rw [Array.getElem?_modify]
    split
    · rename_i e; subst e; rw [h]; simp [hs]
    · rfl
  exact congrArg (fun hh => { w with heap := hh }) hm
theorem setD_one (ds : List Int) (n P : Nat) (re : List Int) (hP : (P : Int) = prodL ds) : setD ds n 1 re = (smallP 65536 re).bind fun p => (wordsP (n * P) p.2).bind fun q => (wordsP (n * p.1) q.2).map fun t => (⟨ds, q.1, [], t.1⟩, t.2) := by
  rw [setD, ← hP, Int.toNat_natCast]; rfl
theorem setD_zero (ds : List Int) (n P : Nat) (re : List Int) (hP : (P : Int) = prodL ds) : setD ds n 0 re = (wordsP (n * P) re).bind fun q => (labelsP n q.2).map fun t => (⟨ds, q.1, t.1, []⟩, t.2) := by
  rw [setD, ← hP, Int.toNat_natCast]; rfl
theorem bnd_mul {n P b : Nat} (h : n * P ≤ b) : 0 ≤ (n : Int) * (P : Int) ∧ (n : Int) * (P : Int) ≤ b := by
  rw [← Int.natCast_mul]; exact ⟨by omega, by omega⟩
set_option maxRecDepth 100000 in
set_option maxHeartbeats 4000000 in
theorem set_any (R : Nat) (rem : List Int) (w : World) (hq : RdrS w w R rem) :
    Calls Try.prog 53 #[.pointer (some ⟨R, 0, none⟩)] w (Out w R (setP rem) (SetVal w.heap.size)) := by
  have HQ := Lib.hid hq
  clear hq
  by_cases h4 : 4 ≤ rem.length
  · go_enter Try.func53, Try.ntmps53
    go_wp2_with fail
    refine (take_yes R 4 rem _ (HQ.out.at_.low ((Below.refl _ _).alloc (by have := HQ.out.lt; omega) _)) h4 (by have := HQ.out.len; omega)).mono ?_
    rintro e w1 ⟨v, rfl, hrd, hrr, hm⟩
    have HBX := Lib.hid ((Box.new w _ _).moved hm (Nat.ne_of_gt HQ.out.lt))
    have HQ1 := Lib.hid (show RdrS w w1 R (rem.drop 4) from ⟨hrr, wf_drop HQ.out.wf 4, by have := HQ.out.len; rw [List.length_drop]; omega, (moved_below ((Below.refl w.heap.size w).alloc (Nat.le_refl _) _)).trans hm, HQ.out.lt⟩)
    have HRD := Lib.hid hrd
    have HWT := Lib.hid (HQ.out.wf.take 4)
    clear hm hrr hrd
    have hlen : 0 < (rem.take 4).length := by rw [List.length_take]; omega
    have hk := str_of_rd HRD.out hlen
    by_cases hmg : rem.take 4 = [82, 83, 69, 84]
    · rw [hmg, str_magic] at hk
      have HS := Lib.hid (setP_some h4 hmg)
      obtain ⟨ra, hra⟩ : ∃ ra, ra = rem.drop 4 := ⟨_, rfl⟩
      rw [← hra] at HS HQ1
      clear hmg hlen HRD hra HQ HWT
      have HQ := HQ1
      clear HQ1
      cases hp : numP 1 ra with
      | none =>
        have HSN := Lib.hid (show setP rem = none by rw [HS.out, setA, hp, Option.bind_none])
        have HP := Lib.hid hp
        clear hp
        go_wp2_with fail
        refine (number_none HQ.out (by omega) HP.out).mono ?_
        rintro e w2 ⟨rfl, hm⟩
        have HM := Lib.hid hm
        clear hm hk
        go_wp2
        exact ⟨rfl, fin_no HSN.out HM.out⟩
      | some p =>
        obtain ⟨n1, rb⟩ := p
        have HS2 := Lib.hid (show setP rem = bif n1 == 1 then setB rb else none by rw [HS.out, setA, hp, Option.bind_some])
        have HP := Lib.hid hp
        clear hp HS
        go_wp2_with fail
        refine (number_some HQ.out (by omega) HP.out).mono ?_
        rintro e w2 ⟨rfl, hq2, hm⟩
        have HBX2 := Lib.hid (HBX.out.moved hm (Nat.ne_of_gt HQ.out.lt))
        have HQ2 := Lib.hid hq2
        clear hm hq2 hk HQ HBX HP
        by_cases h1 : n1 = 1
        · subst h1
          have HS := Lib.hid (show setP rem = setB rb by rw [HS2.out]; rfl)
          clear HS2
          have HQ := HQ2
          have HBX := HBX2
          clear HQ2 HBX2
          cases hp : numP 1 rb with
          | none =>
            have HSN := Lib.hid (show setP rem = none by rw [HS.out, setB, hp, Option.bind_none])
            have HP := Lib.hid hp
            clear hp
            go_wp2_with (go_at_call 69; refine (must_yes _ _).mono ?_; rintro e w' ⟨rfl, rfl⟩)
            refine (number_none HQ.out (by omega) HP.out).mono ?_
            rintro e w2 ⟨rfl, hm⟩
            have HM := Lib.hid hm
            clear hm
            go_wp2
            exact ⟨rfl, fin_no HSN.out HM.out⟩
          | some p =>
            obtain ⟨c, rc⟩ := p
            have HS2 := Lib.hid (show setP rem = (dimsP c rc).bind fun q => bif shapeB q.1 then setC q.1 q.2 else none by rw [HS.out, setB, hp, Option.bind_some])
            have HP := Lib.hid hp
            have hclt := numP_lt hp
            have HCL := Lib.hid hclt
            clear hp HS hclt
            go_wp2_with (go_at_call 69; refine (must_yes _ _).mono ?_; rintro e w' ⟨rfl, rfl⟩)
            refine (number_some HQ.out (by omega) HP.out).mono ?_
            rintro e w2 ⟨rfl, hq2, hm⟩
            have HBX2 := Lib.hid (HBX.out.moved hm (Nat.ne_of_gt HQ.out.lt))
            have HQ2 := Lib.hid hq2
            clear hm hq2 HQ HBX HP
            have hw2 : w.heap.size < w2.heap.size := HBX2.out.lt
            go_wp2_with fail
            go_loopg [19] c (fun g i wr => ∃ (k : Nat) (ds rest : List Int) (u : Value), g = c - k ∧ k ≤ c ∧ k ≤ 3 ∧ i = .int .u64 k ∧ ds.length = k ∧ Box wr w.heap.size 35 #[u, .slice none 0 0, .slice none 0 0, .slice none 0 0] ∧ OwnI wr (w.heap.size + 1) 3 .i64 u ds ∧ RdrS w wr R rest ∧ labelsP c rc = (labelsP (c - k) rest).map (fun q => (ds ++ q.1, q.2)))
            case atStart => exact ⟨0, [], rc, .slice none 0 0, rfl, Nat.zero_le _, Nat.zero_le _, rfl, rfl, HBX2.out, ⟨rfl, .inl ⟨rfl, rfl⟩⟩, HQ2.out, by simp⟩
            case round =>
              obtain ⟨k, ds, rest, u, hgk, hk, hk3, rfl, hdl, hbx, hown, hq3, heq⟩ := hrel
              obtain ⟨w3, rfl⟩ : ∃ w3, w3 = wr := ⟨_, rfl⟩
              obtain ⟨au, capu, rfl⟩ := own_slice hown
              clear HQ2 HBX2 hw2
              have HQ := Lib.hid hq3
              have HBX := Lib.hid hbx
              have HO := Lib.hid hown
              have HE := Lib.hid heq
              have HDL := Lib.hid hdl
              have c0 : w3.cell? ⟨w.heap.size, 0, none⟩ = some (.slice au ds.length capu) := hbx.cell 0 rfl
              clear hq3 hbx hown heq hdl
              by_cases hlt : k < c
              · --<A
                cases hp : smallP 4096 rest with
                | none =>
                  have hl : labelsP c rc = none := by rw [HE.out, show c - k = (c - k - 1) + 1 by omega, labelsP_succ, hp, Option.bind_none, Option.map_none]
                  have HSN := Lib.hid (show setP rem = none by
                    have : dimsP c rc = none := by unfold dimsP; rw [hl]; cases decide (c ≤ 3) <;> rfl
                    rw [HS2.out, this, Option.bind_none])
                  have HP := Lib.hid hp
                  clear hp hl
                  go_wp2_with fail
                  go_region_with (go_at_call 72; refine (small_none HQ.out.drew (by omega) HP.out).mono ?_; rintro e w4 ⟨rfl, hm⟩; refine panic_done (P := Try.prog) (w := w4) ⟨rfl, fin_no HSN.out hm⟩ ?_; clear hm)
                  all_goals trivial
                | some p =>
                  obtain ⟨x, rest2⟩ := p
                  have hx := (smallP_num hp).2
                  have hdl3 : ds.length ≤ 3 := by have := HDL.out; omega
                  have HP := Lib.hid hp
                  clear hp
                  obtain ⟨i0, hi, hz0, hz1, hz2⟩ := info_parts info_i
                  go_wp2_with fail
                  go_cut [] (fun wx => ∃ gg cap6 : Nat, RdrS w wx R rest2 ∧ Box wx w.heap.size 35 #[.slice (some ⟨gg, 0, none⟩) (ds.length + 1) cap6, .slice none 0 0, .slice none 0 0, .slice none 0 0] ∧ OwnI wx (w.heap.size + 1) 3 .i64 (.slice (some ⟨gg, 0, none⟩) (ds.length + 1) cap6) (ds ++ [(x : Int)]))
                  case first =>
                    go_region_law (first
                        | (refine step_append_lies _ (by rfl) (.tmp 22) (.tmp 25) 32 (by rfl) (w.heap.size + 1) 3 i0 (.int .i64 0) 1 8 Try.underlying32 hi hz0 hz1 hz2 rfl (by decide) (.slice au ds.length capu) _ _ ?_ (HO4.out.alloc _) ⟨w4.heap.size, 0, none⟩ 1 1 [.int .i64 x] ?_ rfl (World.news_of_block (cs := #[.int .i64 x]) (t := 3) (fr := (0, 0)) (heap_alloc_new w4 _)) ?_ (by decide) ?_ ?_ ?_ (w4.heap.size + 1) ?_ ?_; rfl; rfl; simp [Value.oneCell']; (unfold maxLen; omega); omega; (simp; omega); simp; intro gg cap6 w6 hown6 hgrow6 hat hlt6; have HX := Lib.hid (field_step (j := 0) HQ4.out rfl (Nat.lt_succ_self _) HBX4.out HO4.out hown6 hgrow6); have hcf := field_free HBX4.out rfl (j := 0) (Nat.lt_succ_self _) HO4.out hgrow6; have c0 := hcf.1; have f0 := hcf.2; clear hcf hown6 hgrow6 hat hlt6)
                        | (go_simp; go_at_call 72; refine (small_some HQ.out.drew (by omega) HP.out).mono ?_; rintro e w4 ⟨rfl, hq4, hm4⟩; have HQ4 := Lib.hid hq4; have HBX4 := Lib.hid (HBX.out.moved ((moved_below (Below.refl _ _).drew).trans hm4) (Nat.ne_of_gt HQ.out.lt)); have HO4 := Lib.hid (own_moved HO.out ((moved_below (Below.refl _ _).drew).trans hm4) (by have := HQ.out.lt; omega)); have c0 : w4.cell? ⟨w.heap.size, 0, none⟩ = some (.slice au ds.length capu) := HBX4.out.cell 0 rfl; have hw4 : w.heap.size < w4.heap.size := HBX4.out.lt; clear hq4 hm4))
                    all_goals (go_wp2_with fail; go_meet; exact ⟨gg, cap6, HX.out⟩)
                  case rest =>
                    obtain ⟨gg, cap6, hq5, hb5, ho5⟩ := hcut
                    obtain ⟨w7, rfl⟩ : ∃ w7, w7 = wc := ⟨_, rfl⟩
                    have HQ5 := Lib.hid hq5
                    have HB5 := Lib.hid hb5
                    have HO5 := Lib.hid ho5
                    clear HQ HBX HO hq5 hb5 ho5 hi hz0 hz1 hz2
                    have c7 : w7.cell? ⟨w.heap.size, 0, none⟩ = some (.slice (some ⟨gg, 0, none⟩) (ds.length + 1) cap6) := HB5.out.cell 0 rfl
                    by_cases h3 : ds.length + 1 ≤ 3
                    · have hd3 : decide ((ds.length : Int) + 1 ≤ 3) = true := decide_eq_true (by omega)
                      go_wp2_with (go_at_call 69; refine (must_yes _ _).mono ?_; rintro e w' ⟨rfl, rfl⟩)
                      go_roundg (c - (k + 1))
                      case rel =>
                        refine ⟨k + 1, ds ++ [(x : Int)], rest2, .slice (some ⟨gg, 0, none⟩) (ds.length + 1) cap6, rfl, by omega, by have := HDL.out; omega, ?_, by rw [List.length_append, HDL.out]; rfl, HB5.out, HO5.out, HQ5.out, ?_⟩
                        · go_num
                        · rw [HE.out, show c - k = (c - (k + 1)) + 1 by omega, labelsP_succ, HP.out, Option.bind_some, Option.map_map]
                          congr 1
                          funext q
                          simp
                      case measure => omega
                    · have hd3 : decide ((ds.length : Int) + 1 ≤ 3) = false := decide_eq_false (by omega)
                      have HSN := Lib.hid (show setP rem = none by
                        have : dimsP c rc = none := by unfold dimsP; rw [decide_eq_false (by have := HDL.out; omega)]; rfl
                        rw [HS2.out, this, Option.bind_none])
                      go_wp2_with (go_at_call 69; refine (must_no _ _).mono ?_; rintro e w' ⟨rfl, rfl⟩)
                      exact ⟨rfl, fin_no HSN.out HQ5.out.moved⟩
                --A>
              · obtain rfl : k = c := by omega
                have HS := Lib.hid (show setP rem = bif shapeB ds then setC ds rest else none by
                  rw [HS2.out, dimsP, decide_eq_true hk3, cond_true, HE.out, Nat.sub_self, labelsP_zero, Option.map_some, Option.bind_some, List.append_nil])
                have hdl3 : ds.length ≤ 3 := by have := HDL.out; omega
                clear HS2 HE hgk hk
                cases hb : shapeB ds with
                | false =>
                  have HB := Lib.hid hb
                  have HSN := Lib.hid (show setP rem = none by rw [HS.out, hb, cond_false])
                  clear hb HS
                  go_wp2_with (first
                    | (go_at_call 46; refine (shapeGood_any _ ds _ (Rd.of_own HO.out) (by omega)).mono ?_; rintro e w4 ⟨rfl, hsm⟩; have HSM := Lib.hid hsm; clear hsm)
                    | (go_at_call 69; refine (must_n HB.out).mono ?_; rintro e w' ⟨rfl, rfl⟩))
                  exact ⟨rfl, fin_no HSN.out (HQ.out.same HSM.out).moved⟩
                | true =>
                  have HB := Lib.hid hb
                  have HS2 := Lib.hid (show setP rem = setC ds rest by rw [HS.out, hb, cond_true])
                  clear hb HS
                  go_wp2_with (first
                    | (go_at_call 46; refine (shapeGood_any _ ds _ (Rd.of_own HO.out) (by omega)).mono ?_; rintro e w4 ⟨rfl, hsm⟩; have HQ4 := Lib.hid (HQ.out.same hsm); have HBX4 := Lib.hid (HBX.out.same hsm); have HO4 := Lib.hid (own_same HO.out hsm); clear hsm HQ HBX HO c0)
                    | (go_at_call 69; refine (must_y HB.out).mono ?_; rintro e w' ⟨rfl, rfl⟩))
                  have HQ := HQ4
                  have HBX := HBX4
                  have HO := HO4
                  clear HQ4 HBX4 HO4
                  cases hp : smallP 1024 rest with
                  | none =>
                    have HSN := Lib.hid (show setP rem = none by rw [HS2.out, setC, hp, Option.bind_none])
                    have HP := Lib.hid hp
                    clear hp
                    refine (small_none HQ.out (by omega) HP.out).mono ?_
                    rintro e w5 ⟨rfl, hm⟩
                    have HM := Lib.hid hm
                    clear hm
                    go_wp2
                    exact ⟨rfl, fin_no HSN.out HM.out⟩
                  | some p =>
                    obtain ⟨n, rd⟩ := p
                    have hn := (smallP_num hp).2
                    have HS := Lib.hid (show setP rem = (numP 1 rd).bind fun q => bif decide (q.1 ≤ 1) then setD ds n q.1 q.2 else none by rw [HS2.out, setC, hp, Option.bind_some])
                    have HP := Lib.hid hp
                    clear hp HS2
                    refine (small_some HQ.out (by omega) HP.out).mono ?_
                    rintro e w5 ⟨rfl, hq5, hm5⟩
                    have HQ5 := Lib.hid hq5
                    have HBX5 := Lib.hid (HBX.out.moved hm5 (Nat.ne_of_gt HQ.out.lt))
                    have HO5 := Lib.hid (own_moved HO.out hm5 (by have := HQ.out.lt; omega))
                    clear hq5 hm5 HQ HBX HO HP
                    have HQ := HQ5
                    have HBX := HBX5
                    have HO := HO5
                    clear HQ5 HBX5 HO5
                    cases hp : numP 1 rd with
                    | none =>
                      have HSN := Lib.hid (show setP rem = none by rw [HS.out, hp, Option.bind_none])
                      have HP := Lib.hid hp
                      clear hp
                      go_wp2_with fail
                      refine (number_none HQ.out (by omega) HP.out).mono ?_
                      rintro e w5 ⟨rfl, hm⟩
                      have HM := Lib.hid hm
                      clear hm
                      go_wp2
                      exact ⟨rfl, fin_no HSN.out HM.out⟩
                    | some p =>
                      obtain ⟨q, re⟩ := p
                      have HS2 := Lib.hid (show setP rem = bif decide (q ≤ 1) then setD ds n q re else none by rw [HS.out, hp, Option.bind_some])
                      have HP := Lib.hid hp
                      clear hp HS
                      go_wp2_with fail
                      refine (number_some HQ.out (by omega) HP.out).mono ?_
                      rintro e w6 ⟨rfl, hq6, hm6⟩
                      have HQ6 := Lib.hid hq6
                      have HBX6 := Lib.hid (HBX.out.moved hm6 (Nat.ne_of_gt HQ.out.lt))
                      have HO6 := Lib.hid (own_moved HO.out hm6 (by have := HQ.out.lt; omega))
                      clear hq6 hm6 HQ HBX HO HP
                      by_cases hq1 : q ≤ 1
                      · have hqd : decide ((q : Int) ≤ 1) = true := decide_eq_true (by omega)
                        have HS := Lib.hid (show setP rem = setD ds n q re by rw [HS2.out, decide_eq_true hq1, cond_true])
                        clear HS2
                        obtain ⟨p1, p2⟩ := prodL_bd ds (shapeB_parts HB.out).2.1
                        have p3 := (shapeB_parts HB.out).2.2
                        obtain ⟨P, hP⟩ : ∃ P : Nat, (P : Int) = prodL ds := ⟨(prodL ds).toNat, by omega⟩
                        have hP1 : 1 ≤ P := by omega
                        have hP2 : P ≤ 65536 := by omega
                        have HPP := Lib.hid hP
                        have hnP : n * P ≤ 67108864 := Nat.mul_le_mul hn hP2
                        clear p1 p2 p3 hP
                        by_cases hq : q = 1
                        · subst hq
                          have HS2 := Lib.hid (HS.out.trans (setD_one ds n P re HPP.out))
                          clear hq1 hqd HS
                          have HQ := HQ6
                          have HBX := HBX6
                          have HO := HO6
                          clear HQ6 HBX6 HO6
                          cases hp : smallP 65536 re with
                          | none =>
                            have HSN := Lib.hid (show setP rem = none by rw [HS2.out, hp, Option.bind_none])
                            have HP := Lib.hid hp
                            clear hp
                            go_wp2_with (first
                              | (go_at_call 69; refine (must_y (by rfl)).mono ?_; rintro e w' ⟨rfl, rfl⟩)
                              | (go_at_call 72; refine (small_none HQ.out (by omega) HP.out).mono ?_; rintro e w7 ⟨rfl, hm⟩; have HM := Lib.hid hm; clear hm))
                            exact ⟨rfl, fin_no HSN.out HM.out⟩
                          | some p =>
                            obtain ⟨m, rf⟩ := p
                            have hm := (smallP_num hp).2
                            have HS := Lib.hid (show setP rem = (wordsP (n * P) rf).bind fun q => (wordsP (n * m) q.2).map fun t => (⟨ds, q.1, [], t.1⟩, t.2) by rw [HS2.out, hp, Option.bind_some])
                            have HP := Lib.hid hp
                            have hnm : n * m ≤ 67108864 := Nat.mul_le_mul hn hm
                            obtain ⟨hb1, hb2⟩ := bnd_mul hnP
                            obtain ⟨hb3, hb4⟩ := bnd_mul hnm
                            clear hp HS2
                            go_wp2_with (go_at_call 69; refine (must_y (by rfl)).mono ?_; rintro e w' ⟨rfl, rfl⟩)
                            refine (small_some HQ.out (by omega) HP.out).mono ?_
                            rintro e w7 ⟨rfl, hq7, hm7⟩
                            have HQ7 := Lib.hid hq7
                            have HBX7 := Lib.hid (HBX.out.moved hm7 (Nat.ne_of_gt HQ.out.lt))
                            have HO7 := Lib.hid (own_moved HO.out hm7 (by have := HQ.out.lt; omega))
                            have c0 : w7.cell? ⟨w.heap.size, 0, none⟩ = some (.slice au ds.length capu) := HBX7.out.cell 0 rfl
                            clear hq7 hm7 HQ HBX HO HP
                            go_wp2_with (go_at_call 63; refine (shapeSize_any _ ds _ (Rd.of_own HO7.out) (shapeB_parts HB.out).2.1 (by omega)).mono ?_; rintro e w8 ⟨rfl, hsm⟩; rw [← HPP.out]; have HQ8 := Lib.hid (HQ7.out.same hsm); have HBX8 := Lib.hid (HBX7.out.same hsm); have HO8 := Lib.hid (own_same HO7.out hsm); clear hsm HQ7 HBX7 HO7 c0)
                            have HQ := HQ8
                            have HBX := HBX8
                            have HO := HO8
                            clear HQ8 HBX8 HO8
                            cases hp : wordsP (n * P) rf with
                            | none =>
                              have HSN := Lib.hid (show setP rem = none by rw [HS.out, hp, Option.bind_none])
                              have HP := Lib.hid hp
                              clear hp
                              refine (words_n (Int.natCast_mul n P).symm HQ.out (by omega) HP.out).mono ?_
                              rintro e w9 ⟨rfl, hm⟩
                              have HM := Lib.hid hm
                              clear hm
                              go_wp2
                              exact ⟨rfl, fin_no HSN.out HM.out⟩
                            | some p =>
                              obtain ⟨xs, rg⟩ := p
                              have HS2 := Lib.hid (show setP rem = (wordsP (n * m) rg).map fun t => (⟨ds, xs, [], t.1⟩, t.2) by rw [HS.out, hp, Option.bind_some])
                              have HP := Lib.hid hp
                              clear hp HS
                              refine (words_s (Int.natCast_mul n P).symm HQ.out (by omega) HP.out).mono ?_
                              rintro e w9 ⟨⟨vx, rfl, hox⟩, hq9, hm9⟩
                              obtain ⟨ax, capx, rfl⟩ := own_slice hox
                              have HB9 := Lib.hid (HBX.out.moved hm9 (Nat.ne_of_gt HQ.out.lt))
                              have HST := Lib.hid (box_store (j := 1) hq9 rfl HB9.out (.slice ax xs.length capx))
                              have HOX := Lib.hid (own_setLt (j := 1) (own_mono hox (show w.heap.size + 1 ≤ w8.heap.size from HBX.out.lt)) (Nat.lt_succ_self w.heap.size) (.slice ax xs.length capx))
                              have HO9 := Lib.hid (own_setLt (j := 1) (own_moved HO.out hm9 (by have := HQ.out.lt; omega)) (Nat.lt_succ_self w.heap.size) (.slice ax xs.length capx))
                              have c1 : w9.cell? ⟨w.heap.size, 1, none⟩ = some (.slice none 0 0) := HB9.out.cell 1 rfl
                              have f1 : w9.frozen? ⟨w.heap.size, 1, none⟩ = false := HB9.out.free 1
                              clear hox hq9 hm9 HQ HBX HO HP
                              go_wp2_with fail
                              clear c1 f1 HB9
                              generalize (w9.setCell ⟨w.heap.size, 1, none⟩ (Value.slice ax xs.length capx)) = w10 at HST HOX HO9 ⊢
                              have HQ := Lib.hid HST.out.1
                              have HBX := Lib.hid (show Box w10 w.heap.size 35 #[.slice au ds.length capu, .slice ax xs.length capx, .slice none 0 0, .slice none 0 0] from HST.out.2)
                              have HO := HO9
                              clear HST HO9
                              cases hp : wordsP (n * m) rg with
                              | none =>
                                have HSN := Lib.hid (show setP rem = none by rw [HS2.out, hp, Option.map_none])
                                have HP := Lib.hid hp
                                clear hp
                                refine (words_n (Int.natCast_mul n m).symm HQ.out (by omega) HP.out).mono ?_
                                rintro e w9 ⟨rfl, hm⟩
                                have HM := Lib.hid hm
                                clear hm
                                go_wp2
                                exact ⟨rfl, fin_no HSN.out HM.out⟩
                              | some p =>
                                obtain ⟨ys, rh⟩ := p
                                have HS := Lib.hid (show setP rem = some (⟨ds, xs, [], ys⟩, rh) by rw [HS2.out, hp, Option.map_some])
                                have HP := Lib.hid hp
                                clear hp HS2
                                refine (words_s (Int.natCast_mul n m).symm HQ.out (by omega) HP.out).mono ?_
                                rintro e w11 ⟨⟨vy, rfl, hoy⟩, hq9, hm9⟩
                                obtain ⟨ay, capy, rfl⟩ := own_slice hoy
                                have HSP := Lib.hid (sep_base HOX.out hoy (Nat.le_refl _))
                                have HB9 := Lib.hid (HBX.out.moved hm9 (Nat.ne_of_gt HQ.out.lt))
                                have HST := Lib.hid (box_store (j := 3) hq9 rfl HB9.out (.slice ay ys.length capy))
                                have HOY := Lib.hid (own_setLt (j := 3) (own_mono hoy (show w.heap.size + 1 ≤ w10.heap.size from HBX.out.lt)) (Nat.lt_succ_self w.heap.size) (.slice ay ys.length capy))
                                have HO9 := Lib.hid (own_setLt (j := 3) (own_moved HO.out hm9 (by have := HQ.out.lt; omega)) (Nat.lt_succ_self w.heap.size) (.slice ay ys.length capy))
                                have HX9 := Lib.hid (own_setLt (j := 3) (own_moved HOX.out hm9 (by have := HQ.out.lt; omega)) (Nat.lt_succ_self w.heap.size) (.slice ay ys.length capy))
                                have c3 : w11.cell? ⟨w.heap.size, 3, none⟩ = some (.slice none 0 0) := HB9.out.cell 3 rfl
                                have f3 : w11.frozen? ⟨w.heap.size, 3, none⟩ = false := HB9.out.free 3
                                clear hoy hq9 hm9 HQ HBX HO HP HOX
                                have d0 : (w11.setCell ⟨w.heap.size, 3, none⟩ (.slice ay ys.length capy)).cell? ⟨w.heap.size, 0, none⟩ = some (.slice au ds.length capu) := HST.out.2.cell 0 rfl
                                have d1 : (w11.setCell ⟨w.heap.size, 3, none⟩ (.slice ay ys.length capy)).cell? ⟨w.heap.size, 1, none⟩ = some (.slice ax xs.length capx) := HST.out.2.cell 1 rfl
                                have d2 : (w11.setCell ⟨w.heap.size, 3, none⟩ (.slice ay ys.length capy)).cell? ⟨w.heap.size, 2, none⟩ = some (.slice none 0 0) := HST.out.2.cell 2 rfl
                                have d3 : (w11.setCell ⟨w.heap.size, 3, none⟩ (.slice ay ys.length capy)).cell? ⟨w.heap.size, 3, none⟩ = some (.slice ay ys.length capy) := HST.out.2.cell 3 rfl
                                have e0 := HST.out.2.free 0
                                have e1 := HST.out.2.free 1
                                have e2 := HST.out.2.free 2
                                have e3 := HST.out.2.free 3
                                go_wp2_with fail
                                rw [set_same (v := .slice au ds.length capu) HST.out.2 rfl, set_same (v := .slice ax xs.length capx) HST.out.2 rfl, set_same (v := .slice none 0 0) HST.out.2 rfl, set_same (v := .slice ay ys.length capy) HST.out.2 rfl]
                                exact bodyPost_ret (v := .agg #[.slice au ds.length capu, .slice ax xs.length capx, .slice none 0 0, .slice ay ys.length capy]) (by simp [results, Try.results53, go_sem, d0, d1, d2, d3]) rfl (fin_yes HS.out HST.out.1.moved ⟨_, _, _, _, rfl, own_mono HO9.out (Nat.le_succ _), own_mono HX9.out (Nat.le_succ _), ⟨rfl, .inl ⟨rfl, rfl⟩⟩, own_mono HOY.out (Nat.le_succ _), sep_nil _, HSP.out⟩ HST.out.1.at_)
                        · obtain rfl : q = 0 := by omega
                          have HS2 := Lib.hid (HS.out.trans (setD_zero ds n P re HPP.out))
                          clear hq1 hqd HS hq
                          have HQ7 := HQ6
                          have HBX7 := HBX6
                          have HO7 := HO6
                          clear HQ6 HBX6 HO6
                          obtain ⟨hb1, hb2⟩ := bnd_mul hnP
                          have c0 : w6.cell? ⟨w.heap.size, 0, none⟩ = some (.slice au ds.length capu) := HBX7.out.cell 0 rfl
                          go_wp2_with (first
                            | (go_at_call 69; refine (must_y (by rfl)).mono ?_; rintro e w' ⟨rfl, rfl⟩)
                            | (go_at_call 63; refine (shapeSize_any _ ds _ (Rd.of_own HO7.out) (shapeB_parts HB.out).2.1 (by omega)).mono ?_; rintro e w8 ⟨rfl, hsm⟩; rw [← HPP.out]; have HQ8 := Lib.hid (HQ7.out.same hsm); have HBX8 := Lib.hid (HBX7.out.same hsm); have HO8 := Lib.hid (own_same HO7.out hsm); clear hsm HQ7 HBX7 HO7 c0))
                          have HQ := HQ8
                          have HBX := HBX8
                          have HO := HO8
                          clear HQ8 HBX8 HO8
                          cases hp : wordsP (n * P) re with
                          | none =>
                            have HSN := Lib.hid (show setP rem = none by rw [HS2.out, hp, Option.bind_none])
                            have HP := Lib.hid hp
                            clear hp
                            refine (words_n (Int.natCast_mul n P).symm HQ.out (by omega) HP.out).mono ?_
                            rintro e w9 ⟨rfl, hm⟩
                            have HM := Lib.hid hm
                            clear hm
                            go_wp2
                            exact ⟨rfl, fin_no HSN.out HM.out⟩
                          | some p =>
                            obtain ⟨xs, rg⟩ := p
                            have HS := Lib.hid (show setP rem = (labelsP n rg).map fun t => (⟨ds, xs, t.1, []⟩, t.2) by rw [HS2.out, hp, Option.bind_some])
                            have HP := Lib.hid hp
                            clear hp HS2
                            refine (words_s (Int.natCast_mul n P).symm HQ.out (by omega) HP.out).mono ?_
                            rintro e w9 ⟨⟨vx, rfl, hox⟩, hq9, hm9⟩
                            obtain ⟨ax, capx, rfl⟩ := own_slice hox
                            have HB9 := Lib.hid (HBX.out.moved hm9 (Nat.ne_of_gt HQ.out.lt))
                            have HST := Lib.hid (box_store (j := 1) hq9 rfl HB9.out (.slice ax xs.length capx))
                            have HOX := Lib.hid (own_setLt (j := 1) (own_mono hox (show w.heap.size + 1 ≤ w8.heap.size from HBX.out.lt)) (Nat.lt_succ_self w.heap.size) (.slice ax xs.length capx))
                            have HO9 := Lib.hid (own_setLt (j := 1) (own_moved HO.out hm9 (by have := HQ.out.lt; omega)) (Nat.lt_succ_self w.heap.size) (.slice ax xs.length capx))
                            have c1 : w9.cell? ⟨w.heap.size, 1, none⟩ = some (.slice none 0 0) := HB9.out.cell 1 rfl
                            have f1 : w9.frozen? ⟨w.heap.size, 1, none⟩ = false := HB9.out.free 1
                            clear hox hq9 hm9 HQ HBX HO HP
                            go_wp2_with fail
                            clear c1 f1 HB9
                            generalize (w9.setCell ⟨w.heap.size, 1, none⟩ (Value.slice ax xs.length capx)) = w10 at HST HOX HO9 ⊢
                            have HQ0 := Lib.hid HST.out.1
                            have HBX0 := Lib.hid (show Box w10 w.heap.size 35 #[.slice au ds.length capu, .slice ax xs.length capx, .slice none 0 0, .slice none 0 0] from HST.out.2)
                            clear HST
                            go_loopg [70] n (fun g i wr => ∃ (k : Nat) (ls rest : List Int) (u : Value), g = n - k ∧ k ≤ n ∧ i = .int .i64 k ∧ ls.length = k ∧ Box wr w.heap.size 35 #[.slice au ds.length capu, .slice ax xs.length capx, u, .slice none 0 0] ∧ OwnI wr w10.heap.size 3 .i64 u ls ∧ Kept w10 wr R w.heap.size ∧ RdrS w wr R rest ∧ labelsP n rg = (labelsP (n - k) rest).map (fun q => (ls ++ q.1, q.2)))
                            case atStart => exact ⟨0, [], rg, .slice none 0 0, rfl, Nat.zero_le _, rfl, rfl, HBX0.out, ⟨rfl, .inl ⟨rfl, rfl⟩⟩, Kept.refl _ _ _, HQ0.out, by simp⟩
                            case round =>
                              obtain ⟨k, ls, rest, u, hgk, hk, rfl, hll, hbx, hown, hkp, hq3, heq⟩ := hrel
                              obtain ⟨w3, rfl⟩ : ∃ w3, w3 = wr := ⟨_, rfl⟩
                              obtain ⟨al, capl, rfl⟩ := own_slice hown
                              have hsz : w.heap.size < w10.heap.size := HBX0.out.lt
                              clear HQ0 HBX0
                              have HQ := Lib.hid hq3
                              have HBX := Lib.hid hbx
                              have HO := Lib.hid hown
                              have HK := Lib.hid hkp
                              have HE := Lib.hid heq
                              have HLL := Lib.hid hll
                              clear hq3 hbx hown heq hll hkp
                              have c2 : w3.cell? ⟨w.heap.size, 2, none⟩ = some (.slice al ls.length capl) := HBX.out.cell 2 rfl
                              by_cases hlt : k < n
                              · cases hp : smallP 4096 rest with
                                | none =>
                                  have hl : labelsP n rg = none := by rw [HE.out, show n - k = (n - k - 1) + 1 by omega, labelsP_succ, hp, Option.bind_none, Option.map_none]
                                  have HSN := Lib.hid (show setP rem = none by rw [HS.out, hl, Option.map_none])
                                  have HP := Lib.hid hp
                                  clear hp hl
                                  go_wp2_with fail
                                  go_region_with (go_at_call 72; refine (small_none HQ.out.drew (by omega) HP.out).mono ?_; rintro e w4 ⟨rfl, hm⟩; refine panic_done (P := Try.prog) (w := w4) ⟨rfl, fin_no HSN.out hm⟩ ?_; clear hm)
                                  all_goals trivial
                                | some p =>
                                  obtain ⟨x, rest2⟩ := p
                                  have hx := (smallP_num hp).2
                                  have hll3 : ls.length ≤ 1024 := by have := HLL.out; omega
                                  have HP := Lib.hid hp
                                  clear hp
                                  obtain ⟨i0, hi, hz0, hz1, hz2⟩ := info_parts info_i
                                  go_wp2_with fail
                                  go_region_law (first
                                      | (refine step_append_lies _ (by rfl) (.tmp 73) (.tmp 76) 32 (by rfl) w10.heap.size 3 i0 (.int .i64 0) 1 8 Try.underlying32 hi hz0 hz1 hz2 rfl (by decide) (.slice al ls.length capl) _ _ ?_ (HO4.out.alloc _) ⟨w4.heap.size, 0, none⟩ 1 1 [.int .i64 x] ?_ rfl (World.news_of_block (cs := #[.int .i64 x]) (t := 3) (fr := (0, 0)) (heap_alloc_new w4 _)) ?_ (by decide) ?_ ?_ ?_ (w4.heap.size + 1) ?_ ?_; rfl; rfl; simp [Value.oneCell']; (unfold maxLen; omega); omega; (have := HK4.out.size; simp; omega); simp; intro gg cap6 w6 hown6 hgrow6 hat hlt6; have HX := Lib.hid (field_step (j := 2) HQ4.out rfl hsz HBX4.out HO4.out hown6 hgrow6); have HKK := Lib.hid (field_kept (j := 2) (v' := .slice (some ⟨gg, 0, none⟩) (ls.length + 1) cap6) HK4.out HO4.out hgrow6); have hcf := field_free HBX4.out rfl (j := 2) hsz HO4.out hgrow6; have c2 := hcf.1; have f2 := hcf.2; clear hcf hown6 hgrow6 hat hlt6)
                                      | (go_simp; go_at_call 72; refine (small_some HQ.out.drew (by omega) HP.out).mono ?_; rintro e w4 ⟨rfl, hq4, hm4⟩; have HQ4 := Lib.hid hq4; have HM4 := Lib.hid ((moved_below (Below.refl _ _).drew).trans hm4); have HBX4 := Lib.hid (HBX.out.moved HM4.out (Nat.ne_of_gt HQ.out.lt)); have HO4 := Lib.hid (own_moved HO.out HM4.out (by have := HQ.out.lt; omega)); have HK4 := Lib.hid (HK.out.trans (Kept.of_moved HM4.out)); have c2 : w4.cell? ⟨w.heap.size, 2, none⟩ = some (.slice al ls.length capl) := HBX4.out.cell 2 rfl; have hw4 : w.heap.size < w4.heap.size := HBX4.out.lt; clear hq4 hm4))
                                  all_goals
                                    obtain ⟨hq5, hb5, ho5⟩ := HX.out
                                    have HQ5 := Lib.hid hq5
                                    have HB5 := Lib.hid (show Box _ w.heap.size 35 #[.slice au ds.length capu, .slice ax xs.length capx, .slice (some ⟨gg, 0, none⟩) (ls.length + 1) cap6, .slice none 0 0] from hb5)
                                    have HO5 := Lib.hid ho5
                                    have HK5 := HKK
                                    clear HX HQ HBX HO HQ4 HBX4 HO4 HKK HK4 HM4 hq5 hb5 ho5 hi hz0 hz1 hz2 c2 f2
                                    generalize (w6.setCell ⟨w.heap.size, 2, none⟩ (Value.slice (some ⟨gg, 0, none⟩) (ls.length + 1) cap6)) = w7 at HQ5 HB5 HO5 HK5 ⊢
                                    go_wp2_with fail
                                    go_roundg (n - (k + 1))
                                    case rel =>
                                      refine ⟨k + 1, ls ++ [(x : Int)], rest2, .slice (some ⟨gg, 0, none⟩) (ls.length + 1) cap6, rfl, by omega, ?_, by rw [List.length_append, HLL.out]; rfl, HB5.out, HO5.out, HK5.out, HQ5.out, ?_⟩
                                      · go_num
                                      · rw [HE.out, show n - k = (n - (k + 1)) + 1 by omega, labelsP_succ, HP.out, Option.bind_some, Option.map_map]
                                        congr 1
                                        funext q
                                        simp
                                    case measure => omega
                              · obtain rfl : k = n := by omega
                                have HS2 := Lib.hid (show setP rem = some (⟨ds, xs, ls, []⟩, rest) by rw [HS.out, HE.out, Nat.sub_self, labelsP_zero, Option.map_some, List.append_nil]; rfl)
                                have HD := Lib.hid (own_kept HO9.out HK.out (by have := HQ.out.lt; omega) (Nat.lt_succ_self _))
                                have HX := Lib.hid (own_kept HOX.out HK.out (by have := HQ.out.lt; omega) (Nat.lt_succ_self _))
                                have d0 : w3.cell? ⟨w.heap.size, 0, none⟩ = some (.slice au ds.length capu) := HBX.out.cell 0 rfl
                                have d1 : w3.cell? ⟨w.heap.size, 1, none⟩ = some (.slice ax xs.length capx) := HBX.out.cell 1 rfl
                                have d3 : w3.cell? ⟨w.heap.size, 3, none⟩ = some (.slice none 0 0) := HBX.out.cell 3 rfl
                                have e0 := HBX.out.free 0
                                have e1 := HBX.out.free 1
                                have e2 := HBX.out.free 2
                                have e3 := HBX.out.free 3
                                clear HE HS hgk hk
                                go_wp2_with fail
                                rw [set_same (v := .slice au ds.length capu) HBX.out rfl, set_same (v := .slice ax xs.length capx) HBX.out rfl, set_same (v := .slice al ls.length capl) HBX.out rfl, set_same (v := .slice none 0 0) HBX.out rfl]
                                exact bodyPost_ret (v := .agg #[.slice au ds.length capu, .slice ax xs.length capx, .slice al ls.length capl, .slice none 0 0]) (by simp [results, Try.results53, go_sem, d0, d1, c2, d3]) rfl (fin_yes HS2.out HQ.out.moved ⟨_, _, _, _, rfl, own_mono HD.out (Nat.le_succ _), own_mono HX.out (Nat.le_succ _), own_mono HO.out (Nat.le_of_lt hsz), ⟨rfl, .inl ⟨rfl, rfl⟩⟩, sep_base HO9.out HO.out (Nat.le_refl _), sep_nil _⟩ HQ.out.at_)
                      · have hqd : decide ((q : Int) ≤ 1) = false := decide_eq_false (by omega)
                        have HSN := Lib.hid (show setP rem = none by rw [HS2.out, decide_eq_false hq1, cond_false])
                        clear hq1
                        go_wp2_with fail
                        refine (must_n (by first | rfl | exact hqd)).mono ?_
                        rintro e w' ⟨rfl, rfl⟩
                        go_wp2
                        exact ⟨rfl, fin_no HSN.out HQ6.out.moved⟩
        · have hn1 : ((n1 : Int) == 1) = false := by simp; omega
          have HSN := Lib.hid (show setP rem = none by rw [HS2.out, show (n1 == 1) = false by simp [h1], cond_false])
          clear h1
          go_wp2_with fail
          refine (must_no _ _).mono ?_
          rintro e w2 ⟨rfl, rfl⟩
          go_wp2
          exact ⟨rfl, fin_no HSN.out HQ2.out.moved⟩
    · obtain ⟨q, hq⟩ : ∃ q, q = strOfNums (rem.take 4) := ⟨_, rfl⟩
      have hq2 : ¬ q.toList = [82, 83, 69, 84] := by
        rw [hq]
        exact str_other HWT.out hmg
      rw [← hq] at hk
      have HS := Lib.hid (setP_none (fun h => hmg h.2))
      clear hmg hlen hq
      go_wp2_with fail
      refine (must_no _ _).mono ?_
      rintro e w2 ⟨rfl, rfl⟩
      go_wp2
      exact ⟨rfl, fin_no HS.out HQ1.out.moved⟩
  · have HS := Lib.hid (setP_none (fun h => h4 h.1))
    go_enter Try.func53, Try.ntmps53
    go_wp2_with fail
    refine (take_no R 4 rem _ (HQ.out.at_.low ((Below.refl _ _).alloc (by have := HQ.out.lt; omega) _)) (by omega) (by omega)).mono ?_
    rintro e w1 ⟨rfl, rfl⟩
    go_wp2
    exact ⟨rfl, fin_no HS.out (moved_below ((Below.refl _ _).alloc (Nat.le_refl _) _))⟩
end Go.Proofs.Ytjhejpeklppmbaa
