/-
  READING: data.Reading (a deferred closure that recovers 'ended'), the closure of data.Decode, data.Decode.
-/
import Derived.Test.YtjhejpeklppmbaaDecSet
import Derived.Defers
import Derived.Recover
import Derived.Laws.Pointers
set_option linter.unusedVariables false
set_option linter.unusedSimpArgs false
namespace Go.Proofs.Ytjhejpeklppmbaa
open Go.RowKit Go.Shelf
theorem assert_ended (w : World) : (Instr.typeAssert (.iface 107 (.agg #[])) 20 107 true).run Try.prog w = .ok (.tuple #[.agg #[], .bool true]) w := by kernel_rfl
set_option maxRecDepth 100000 in
theorem catch_panicking (B : Nat) (x : Bool) (w : World) (hb : Box w B 4 #[.bool x]) :
    CallsD Try.prog 68 #[.pointer (some ⟨B, 0, none⟩)] (.panicking [endedV]) w fun e u' w' =>
      e = .returned (.tuple #[]) ∧ u' = .panicking [{ v := .iface 107 (.agg #[]), recovered := true }] ∧ w' = (w.alloc (.cells #[] 107)).setCell ⟨B, 0, none⟩ (.bool false) := by
  have hta := assert_ended
  have hb2 := hb.next ((Below.refl _ _).alloc (Nat.le_refl _) (.cells #[] 107))
  have c0 : (w.alloc (.cells #[] 107)).cell? ⟨B, 0, none⟩ = some (.bool x) := hb2.cell 0 rfl
  have f0 := hb2.free 0
  clear hb hb2
  refine callsD_of_wpS Try.func68 rfl fun c₀ cs hu => ?_
  apply wpS_seq
  apply wpS_region
  simp [wpOpsS, go_sem, recoverD, hu, Try.ntmps68, Exit.thenS, endedV]
  refine wpS_of_wp ?_
  simp [Array.replicate]
  go_wp2
  cases c₀
  simp_all [bodyPostS, results, Try.results68]
theorem catch_idle (p : Addr) (w : World) :
    CallsD Try.prog 68 #[.pointer (some p)] .returning w fun e u' w' => e = .returned (.tuple #[]) ∧ u' = .returning ∧ w' = w := by
  refine callsD_of_wpS Try.func68 rfl fun c₀ cs hu => ?_
  apply wpS_seq
  apply wpS_region
  simp [wpOpsS, go_sem, recoverD, hu, Try.ntmps68, Exit.thenS]
  refine wpS_of_wp ?_
  simp [Array.replicate]
  go_wp2
  cases c₀
  simp_all [bodyPostS, results, Try.results68]
/-- bytes are read by a closure that meets them all -/
theorem reading_some (o : Option Addr) (n cap : Nat) (F : Nat) (cs : Array Value) (w : World) (rest : List Int) (Post : World → Prop) {B : Nat} (hB : w.heap.size = B) (he : ∀ args w, (callFunc F args).run Try.prog w = .ok (.enter F args) w)
    (hf : Calls Try.prog F (#[.pointer (some ⟨B + 1, 0, none⟩)] ++ cs) ((w.alloc (.cells #[.bool false] 4)).alloc (.cells #[.slice o n cap] 110)) fun e w' => e = .returned (.tuple #[]) ∧ Post w' ∧ Box w' B 4 #[.bool false] ∧ RdrAt w' (B + 1) rest) :
    Calls Try.prog 51 #[.slice o n cap, .func (.func F) #[] cs] w fun e w' => e = .returned (.bool (rest.length == 0)) ∧ ∃ w1 b, Post w1 ∧ w' = w1.setCell ⟨B, 0, none⟩ (.bool b) := by
  subst hB
  have hmf : ∀ (fn : Fn) (first cap : Array Value) (w : World), (Instr.makeFunc fn first cap).run Try.prog w = .ok (.func fn first cap) w := fun _ _ _ _ => rfl
  have HF := Lib.hid hf
  clear hf
  go_enter_defers Try.func51, Try.ntmps51
  go_wp2_with fail
  refine HF.out.mono ?_
  rintro e w1 ⟨rfl, hp, hb, hr⟩
  obtain ⟨o1, cap1, hbr, _, _, _⟩ := hr
  have c0 : w1.cell? ⟨w.heap.size, 0, none⟩ = some (.bool false) := hb.cell 0 rfl
  have f0 := hb.free 0
  have c1 : w1.cell? ⟨w.heap.size + 1, 0, none⟩ = some (.slice o1 rest.length cap1) := hbr.cell 0 rfl
  have HP := Lib.hid hp
  have HB := Lib.hid hb
  clear hp hb hbr
  go_wp2_with fail
  refine leaves_cons (f := 68) (args := #[.pointer (some ⟨w.heap.size, 0, none⟩)]) (by simp) (by simp [go_sem]) ?_
  refine (catch_idle ⟨w.heap.size, 0, none⟩ _).mono ?_
  rintro e u' w'' ⟨rfl, rfl, rfl⟩
  have c9 := (HB.out.set 0 (.bool ((rest.length : Int) == 0))).cell 0 rfl
  have e9 : ((rest.length : Int) == 0) = (rest.length == 0) := by
    rw [Bool.eq_iff_iff, beq_iff_eq, beq_iff_eq]; omega
  simp [Leaves, settle, results, Try.results51, go_sem, c9]
  refine ⟨e9, w1, HP.out, ?_⟩
  cases ((rest.length : Int) == 0) <;> simp
theorem reading_none (o : Option Addr) (n cap : Nat) (F : Nat) (cs : Array Value) (w : World) (Post : World → Prop) {B : Nat} (hB : w.heap.size = B) (he : ∀ args w, (callFunc F args).run Try.prog w = .ok (.enter F args) w)
    (hf : Calls Try.prog F (#[.pointer (some ⟨B + 1, 0, none⟩)] ++ cs) ((w.alloc (.cells #[.bool false] 4)).alloc (.cells #[.slice o n cap] 110)) fun e w' => e = .panicked [endedV] ∧ Post w' ∧ Box w' B 4 #[.bool false]) :
    Calls Try.prog 51 #[.slice o n cap, .func (.func F) #[] cs] w fun e w' => e = .returned (.bool false) ∧ ∃ w1, Post w1 ∧ w' = (w1.alloc (.cells #[] 107)).setCell ⟨B, 0, none⟩ (.bool false) := by
  subst hB
  have hmf : ∀ (fn : Fn) (first cap : Array Value) (w : World), (Instr.makeFunc fn first cap).run Try.prog w = .ok (.func fn first cap) w := fun _ _ _ _ => rfl
  have HF := Lib.hid hf
  clear hf
  go_enter_defers Try.func51, Try.ntmps51
  go_wp2_with fail
  refine HF.out.mono ?_
  rintro e w1 ⟨rfl, hp, hb⟩
  have HP := Lib.hid hp
  have HB := Lib.hid hb
  clear hp hb
  go_wp2_with fail
  refine leaves_cons (f := 68) (args := #[.pointer (some ⟨w.heap.size, 0, none⟩)]) (by simp) (by simp [go_sem]) ?_
  refine (catch_panicking w.heap.size false _ HB.out).mono ?_
  rintro e u' w'' ⟨rfl, rfl, rfl⟩
  have c9 := ((HB.out.next ((Below.refl _ _).alloc (Nat.le_refl _) (.cells #[] 107))).set 0 (.bool false)).cell 0 rfl
  simp [Leaves, settle, results, Try.results51, go_sem, c9]
  exact ⟨w1, HP.out, rfl⟩
/-- four stores of slices into a struct's block -/
theorem four_stores {w : World} {R S n0 n1 n2 n3 k0 k1 k2 k3 : Nat} {o0 o1 o2 o3 : Option Addr} {T : TypeId} {rest : List Int} {a b c d : Value}
    (hb : Box w S T #[.slice o0 n0 k0, .slice o1 n1 k1, .slice o2 n2 k2, .slice o3 n3 k3]) (hr : RdrAt w R rest) (hne : S ≠ R) :
    Box ((((w.setCell ⟨S, 0, none⟩ a).setCell ⟨S, 1, none⟩ b).setCell ⟨S, 2, none⟩ c).setCell ⟨S, 3, none⟩ d) S T #[a, b, c, d] ∧
    RdrAt ((((w.setCell ⟨S, 0, none⟩ a).setCell ⟨S, 1, none⟩ b).setCell ⟨S, 2, none⟩ c).setCell ⟨S, 3, none⟩ d) R rest := by
  have b1 : Box _ S T #[a, .slice o1 n1 k1, .slice o2 n2 k2, .slice o3 n3 k3] := hb.set 0 a
  have b2 : Box _ S T #[a, b, .slice o2 n2 k2, .slice o3 n3 k3] := b1.set 1 b
  have b3 : Box _ S T #[a, b, c, .slice o3 n3 k3] := b2.set 2 c
  have b4 : Box _ S T #[a, b, c, d] := b3.set 3 d
  exact ⟨b4, (((hr.setAt hne (hb.cell 0 rfl) a).setAt hne (b1.cell 1 rfl) b).setAt hne (b2.cell 2 rfl) c).setAt hne (b3.cell 3 rfl) d⟩
theorem decode1_some (R S : Nat) (rem rest : List Int) (s : SetD) (w : World) (hq : RdrS w w R rem) (hb : Box w S 35 #[.slice none 0 0, .slice none 0 0, .slice none 0 0, .slice none 0 0]) (hne : S ≠ R) (hp : setP rem = some (s, rest)) :
    Calls Try.prog 52 #[.pointer (some ⟨R, 0, none⟩), .pointer (some ⟨S, 0, none⟩)] w fun e w' => e = .returned (.tuple #[]) ∧ RdrAt w' R rest ∧ Kept w w' R S ∧
      ∃ a b c d, Box w' S 35 #[a, b, c, d] ∧ OwnI w' w.heap.size 3 .i64 a s.sh ∧ OwnI w' w.heap.size 2 .i64 b s.x ∧ OwnI w' w.heap.size 3 .i64 c s.lb ∧ OwnI w' w.heap.size 2 .i64 d s.y ∧ Sep a c ∧ Sep b d := by
  have HQ := Lib.hid hq
  have HP := Lib.hid hp
  have HB := Lib.hid hb
  clear hq hp hb
  go_enter Try.func52, Try.ntmps52
  go_wp2_with fail
  refine (set_any R rem _ HQ.out).mono ?_
  rintro e w1 ho
  rw [HP.out] at ho
  obtain ⟨hm, ⟨v, rfl, a, b, c, d, rfl, oa, ob, oc, od, osep⟩, hr⟩ := ho
  obtain ⟨aa, na, rfl⟩ := own_slice oa
  obtain ⟨ab, nb, rfl⟩ := own_slice ob
  obtain ⟨ac, nc, rfl⟩ := own_slice oc
  obtain ⟨ad, nd, rfl⟩ := own_slice od
  have hb1 := HB.out.moved hm hne
  have c0 : w1.cell? ⟨S, 0, none⟩ = some (.slice none 0 0) := hb1.cell 0 rfl
  have c1 : w1.cell? ⟨S, 1, none⟩ = some (.slice none 0 0) := hb1.cell 1 rfl
  have c2 : w1.cell? ⟨S, 2, none⟩ = some (.slice none 0 0) := hb1.cell 2 rfl
  have c3 : w1.cell? ⟨S, 3, none⟩ = some (.slice none 0 0) := hb1.cell 3 rfl
  have f0 := hb1.free 0
  have f1 := hb1.free 1
  have f2 := hb1.free 2
  have f3 := hb1.free 3
  have HK := Lib.hid (((((Kept.of_moved (S := S) hm).set 0 (.slice aa s.sh.length na)).set 1 (.slice ab s.x.length nb)).set 2 (.slice ac s.lb.length nc)).set 3 (.slice ad s.y.length nd))
  have HF := Lib.hid (four_stores (a := .slice aa s.sh.length na) (b := .slice ab s.x.length nb) (c := .slice ac s.lb.length nc) (d := .slice ad s.y.length nd) hb1 hr hne)
  have HS : S < w.heap.size := HB.out.lt
  have carry : ∀ {e : TypeId} {v : Value} {n : Nat} {xs : List Value}, w1.ownsRow w.heap.size e 1 v n xs → ((((w1.setCell ⟨S, 0, none⟩ (.slice aa s.sh.length na)).setCell ⟨S, 1, none⟩ (.slice ab s.x.length nb)).setCell ⟨S, 2, none⟩ (.slice ac s.lb.length nc)).setCell ⟨S, 3, none⟩ (.slice ad s.y.length nd)).ownsRow w.heap.size e 1 v n xs :=
    fun h => own_setLt (own_setLt (own_setLt (own_setLt h HS _) HS _) HS _) HS _
  have HOW := Lib.hid (And.intro (carry oa) (And.intro (carry ob) (And.intro (carry oc) (And.intro (carry od) osep))))
  clear carry oa ob oc od osep hb1 hr hm
  go_wp2
  go_end0
  exact ⟨rfl, HF.out.2, HK.out, _, _, _, _, HF.out.1, HOW.out⟩
theorem decode1_none (R S : Nat) (rem : List Int) (w : World) (hq : RdrS w w R rem) (hp : setP rem = none) :
    Calls Try.prog 52 #[.pointer (some ⟨R, 0, none⟩), .pointer (some ⟨S, 0, none⟩)] w fun e w' => e = .panicked [endedV] ∧ Moved w w' R := by
  have HQ := Lib.hid hq
  have HP := Lib.hid hp
  clear hq hp
  go_enter Try.func52, Try.ntmps52
  go_wp2_with fail
  refine (set_any R rem _ HQ.out).mono ?_
  rintro e w1 ho
  rw [HP.out] at ho
  obtain ⟨hm, rfl⟩ := ho
  have HM := Lib.hid hm
  clear hm
  go_wp2
  exact ⟨rfl, rfl, HM.out⟩
theorem setP_lens {rem rest : List Int} {s : SetD} (h : setP rem = some (s, rest)) (hw : Wf .u8 rem) : s.sh.length ≤ 3 ∧ s.x.length ≤ rem.length ∧ s.lb.length ≤ rem.length ∧ s.y.length ≤ rem.length := by
  unfold setP at h
  cases hc : (decide (4 ≤ rem.length) && decide (rem.take 4 = [82, 83, 69, 84])) with
  | false => rw [hc, cond_false] at h; cases h
  | true =>
    rw [hc, cond_true, setA, Option.bind_eq_some_iff] at h
    obtain ⟨p1, h1, h⟩ := h
    have r1 := numP_rest h1 (wf_drop hw 4)
    have r1b := r1.2
    rw [List.length_drop] at r1b
    cases hc1 : (p1.1 == 1) with
    | false => rw [hc1, cond_false] at h; cases h
    | true =>
      rw [hc1, cond_true, setB, Option.bind_eq_some_iff] at h
      obtain ⟨p2, h2, h⟩ := h
      have r2 := numP_rest h2 r1.1
      rw [Option.bind_eq_some_iff] at h
      obtain ⟨p3, h3, h⟩ := h
      unfold dimsP at h3
      cases hc3 : decide (p2.1 ≤ 3) with
      | false => rw [hc3, cond_false] at h3; cases h3
      | true =>
        rw [hc3, cond_true] at h3
        have l3 := of_decide_eq_true hc3
        have r3 := labelsP_rest _ h3 r2.1
        cases hc4 : shapeB p3.1 with
        | false => rw [hc4, cond_false] at h; cases h
        | true =>
          rw [hc4, cond_true, setC, Option.bind_eq_some_iff] at h
          obtain ⟨p4, h4, h⟩ := h
          have r4 := numP_rest (smallP_num h4).1 r3.1
          rw [Option.bind_eq_some_iff] at h
          obtain ⟨p5, h5, h⟩ := h
          have r5 := numP_rest h5 r4.1
          cases hc5 : decide (p5.1 ≤ 1) with
          | false => rw [hc5, cond_false] at h; cases h
          | true =>
            rw [hc5, cond_true, setD, Option.bind_eq_some_iff] at h
            obtain ⟨p6, h6, h⟩ := h
            have r6 : Wf .u8 p6.2 ∧ p6.2.length ≤ p5.2.length := by
              cases hk : (p5.1 == 1) with
              | false => rw [hk, cond_false] at h6; cases h6; exact ⟨r5.1, Nat.le_refl _⟩
              | true =>
                rw [hk, cond_true] at h6
                have r := numP_rest (smallP_num h6).1 r5.1
                have r2 := r.2
                dsimp only at r2
                exact ⟨r.1, by omega⟩
            rw [Option.bind_eq_some_iff] at h
            obtain ⟨p7, h7, h⟩ := h
            have r7 := wordsP_rest _ h7 r6.1
            have r2b := r2.2
            have r4b := r4.2
            have r5b := r5.2
            have r3b := r3.2
            dsimp only at r1b r2b r3b r4b r5b
            unfold setE at h
            cases hk : (p5.1 == 1) with
            | false =>
              rw [hk, cond_false, Option.map_eq_some_iff] at h
              obtain ⟨p8, h8, h⟩ := h
              have r8 := labelsP_rest _ h8 r7.1
              cases h
              exact ⟨by simp only; omega, by simp only; omega, by simp only; omega, by simp⟩
            | true =>
              rw [hk, cond_true, Option.map_eq_some_iff] at h
              obtain ⟨p8, h8, h⟩ := h
              have r8 := wordsP_rest _ h8 r7.1
              cases h
              exact ⟨by simp only; omega, by simp only; omega, by simp, by simp only; omega⟩
/-- the dataset that bytes tell -/
def decP (bs : List Int) : Option SetD :=
  match setP bs with
  | some (s, []) => bif goodSet s then some s else none
  | _ => none
theorem decP_none {bs : List Int} (h : setP bs = none) : decP bs = none := by unfold decP; rw [h]
theorem decP_left {bs rest : List Int} {s : SetD} (h : setP bs = some (s, rest)) (hr : 0 < rest.length) : decP bs = none := by
  unfold decP; rw [h]; cases rest with
  | nil => exact absurd hr (Nat.lt_irrefl _)
  | cons _ _ => rfl
theorem decP_all {bs : List Int} {s : SetD} (h : setP bs = some (s, [])) : decP bs = bif goodSet s then some s else none := by unfold decP; rw [h]
theorem Box.new_at {w : World} {T : TypeId} {cs : Array Value} {B : Nat} (h : w.heap.size = B) : Box (w.alloc (.cells cs T)) B T cs := by subst h; exact Box.new w T cs
theorem box_four {w : World} {S : Nat} {T : TypeId} {x0 x1 x2 x3 a b c d : Value} (hb : Box w S T #[x0, x1, x2, x3]) :
    Box ((((w.setCell ⟨S, 0, none⟩ a).setCell ⟨S, 1, none⟩ b).setCell ⟨S, 2, none⟩ c).setCell ⟨S, 3, none⟩ d) S T #[a, b, c, d] :=
  (((hb.set 0 a).set 1 b).set 2 c).set 3 d
theorem below_four {W w : World} {B S : Nat} {a b c d : Value} (h : Below B W w) (hS : B ≤ S) :
    Below B W ((((w.setCell ⟨S, 0, none⟩ a).setCell ⟨S, 1, none⟩ b).setCell ⟨S, 2, none⟩ c).setCell ⟨S, 3, none⟩ d) :=
  (((h.setCell hS a).setCell hS b).setCell hS c).setCell hS d
/-- what Decode hands back -/
def DecOut (B : Nat) (res : Option SetD) (e : Ending) (w' : World) : Prop :=
  match res with
  | some s => ∃ a b c d, e = .returned (.tuple #[.agg #[a, b, c, d], .int .i64 0]) ∧ OwnI w' B 3 .i64 a s.sh ∧ OwnI w' B 2 .i64 b s.x ∧ OwnI w' B 3 .i64 c s.lb ∧ OwnI w' B 2 .i64 d s.y
  | none => e = .returned (.tuple #[.agg #[.slice none 0 0, .slice none 0 0, .slice none 0 0, .slice none 0 0], .int .i64 1])
theorem kept_below2 {w w' : World} {R S B : Nat} (h : Kept w w' R S) (hR : B ≤ R) (hS : B ≤ S) (hB : B ≤ w.heap.size) : Below B w w' :=
  ⟨h.os, h.tape, h.output, h.size, fun k hk => h.block k (by omega) (by omega) (by omega)⟩
set_option maxRecDepth 100000 in
set_option maxHeartbeats 1000000 in
theorem decode_any (v : Value) (bs : List Int) (w : World) (hr : Rd w .u8 v bs) (hw : Wf .u8 bs) (hl : bs.length ≤ 100000) (hcap : ∀ o n cap, v = .slice o n cap → n ≤ cap) :
    Calls Try.prog 29 #[v] w fun e w' => DecOut w.heap.size (decP bs) e w' ∧ Below w.heap.size w w' ∧ ∀ a b c d x, e = .returned (.tuple #[.agg #[a, b, c, d], x]) → Sep a c ∧ Sep b d := by
  obtain ⟨o, cap, rfl⟩ := rd_slice hr
  have hc := hcap _ _ _ rfl
  have HR := Lib.hid hr
  have HW := Lib.hid hw
  have hmf : ∀ (fn : Fn) (first cap : Array Value) (w : World), (Instr.makeFunc fn first cap).run Try.prog w = .ok (.func fn first cap) w := fun _ _ _ _ => rfl
  have HE := Lib.hid (fun (args : Array Value) (u : World) => enters_of (P := Try.prog) Try.func52 (by kernel_rfl) rfl args u)
  have HQ := Lib.hid (show RdrS _ (((w.alloc (.cells #[.slice none 0 0, .slice none 0 0, .slice none 0 0, .slice none 0 0] 35)).alloc (.cells #[.bool false] 4)).alloc (.cells #[.slice o bs.length cap] 110)) (w.heap.size + 2) bs from
    RdrS.start ⟨o, cap, Box.new_at (by simp), hc, ((HR.out.alloc _).alloc _).alloc _, fun h0 a ha => by
      obtain ⟨b, off, ho, hcell⟩ := HR.out.cell 0 h0
      have := cell_lt hcell
      rw [ho] at ha
      cases ha
      simp only
      omega⟩ HW.out hl)
  clear hr hw hcap
  have hFR : w.heap.size + 1 ≠ w.heap.size + 2 := by omega
  have hSR : w.heap.size ≠ w.heap.size + 2 := by omega
  obtain ⟨W3, hW3⟩ : ∃ W3, W3 = (((w.alloc (.cells #[.slice none 0 0, .slice none 0 0, .slice none 0 0, .slice none 0 0] 35)).alloc (.cells #[.bool false] 4)).alloc (.cells #[.slice o bs.length cap] 110)) := ⟨_, rfl⟩
  rw [← hW3] at HQ
  have HBF := Lib.hid (show Box W3 (w.heap.size + 1) 4 #[.bool false] by
    rw [hW3]; exact Box.below (C := w.heap.size + 2) (Box.new_at (by simp)) ((Below.refl _ _).alloc (by simp) _) (by omega))
  have HBS := Lib.hid (show Box W3 w.heap.size 35 #[.slice none 0 0, .slice none 0 0, .slice none 0 0, .slice none 0 0] by
    rw [hW3]; exact Box.below (C := w.heap.size + 1) (Box.below (C := w.heap.size + 1) (Box.new_at rfl) ((Below.refl _ _).alloc (by simp) _) (by omega)) ((Below.refl _ _).alloc (by simp) _) (by omega))
  have HB3 := Lib.hid (show Below w.heap.size w W3 by
    rw [hW3]; exact (((Below.refl _ _).alloc (Nat.le_refl _) _).alloc (by simp) _).alloc (by simp; omega) _)
  have HSZ := Lib.hid (show W3.heap.size = w.heap.size + 3 by rw [hW3]; simp)
  have HW3 := Lib.hid hW3
  clear hW3
  cases hp : setP bs with
  | none =>
    have HD := Lib.hid (decP_none hp)
    have HRD := Lib.hid (reading_none o bs.length cap 52 #[.pointer (some ⟨w.heap.size, 0, none⟩)] (w.alloc (.cells #[.slice none 0 0, .slice none 0 0, .slice none 0 0, .slice none 0 0] 35)) (fun w' => Moved W3 w' (w.heap.size + 2)) (B := w.heap.size + 1) (by simp) HE.out
      (HW3.out ▸ (decode1_none (w.heap.size + 2) w.heap.size bs _ HQ.out hp).mono fun e w' ⟨he, hm⟩ => ⟨he, hm, HBF.out.moved hm hFR⟩))
    clear hp
    go_enter Try.func29, Try.ntmps29
    go_wp2_with fail
    refine HRD.out.mono ?_
    rintro e w' ⟨rfl, w1, hm, rfl⟩
    have HBS1 := Lib.hid (HBS.out.moved hm hSR)
    have HM1 := Lib.hid (HB3.out.trans ((hm.below (B := w.heap.size) (by omega) (by rw [HSZ.out]; omega))))
    have HZ := Lib.hid (show w.heap.size < w1.heap.size from HBS1.out.lt)
    have HB5 := Lib.hid (Box.other (p := ⟨w.heap.size + 1, 0, none⟩) (HBS1.out.next ((Below.refl _ _).alloc (Nat.le_refl _) (.cells #[] 107))) (by show w.heap.size + 1 ≠ w.heap.size; omega) (.bool false))
    have HM5 := Lib.hid ((HM1.out.alloc (Nat.le_of_lt HZ.out) (.cells #[] 107)).setCell (p := ⟨w.heap.size + 1, 0, none⟩) (by show w.heap.size ≤ w.heap.size + 1; omega) (.bool false))
    clear hm
    generalize ((w1.alloc (.cells #[] 107)).setCell ⟨w.heap.size + 1, 0, none⟩ (.bool false)) = w5 at HB5 HM5 ⊢
    have f0 := HB5.out.free 0
    have f1 := HB5.out.free 1
    have f2 := HB5.out.free 2
    have f3 := HB5.out.free 3
    have c0 : w5.cell? ⟨w.heap.size, 0, none⟩ = some (.slice none 0 0) := HB5.out.cell 0 rfl
    have c1 : w5.cell? ⟨w.heap.size, 1, none⟩ = some (.slice none 0 0) := HB5.out.cell 1 rfl
    have c2 : w5.cell? ⟨w.heap.size, 2, none⟩ = some (.slice none 0 0) := HB5.out.cell 2 rfl
    have c3 : w5.cell? ⟨w.heap.size, 3, none⟩ = some (.slice none 0 0) := HB5.out.cell 3 rfl
    go_wp2_with fail
    have HB6 := Lib.hid (box_four (a := .slice none 0 0) (b := .slice none 0 0) (c := .slice none 0 0) (d := .slice none 0 0) HB5.out)
    have HM6 := Lib.hid (below_four (S := w.heap.size) (a := .slice none 0 0) (b := .slice none 0 0) (c := .slice none 0 0) (d := .slice none 0 0) HM5.out (Nat.le_refl _))
    clear c0 c1 c2 c3 f0 f1 f2 f3 HB5 HM5
    generalize ((((w5.setCell ⟨w.heap.size, 0, none⟩ (Value.slice none 0 0)).setCell ⟨w.heap.size, 1, none⟩ (.slice none 0 0)).setCell ⟨w.heap.size, 2, none⟩ (.slice none 0 0)).setCell ⟨w.heap.size, 3, none⟩ (.slice none 0 0)) = w6 at HB6 HM6 ⊢
    have d0 : w6.cell? ⟨w.heap.size, 0, none⟩ = some (.slice none 0 0) := HB6.out.cell 0 rfl
    have d1 : w6.cell? ⟨w.heap.size, 1, none⟩ = some (.slice none 0 0) := HB6.out.cell 1 rfl
    have d2 : w6.cell? ⟨w.heap.size, 2, none⟩ = some (.slice none 0 0) := HB6.out.cell 2 rfl
    have d3 : w6.cell? ⟨w.heap.size, 3, none⟩ = some (.slice none 0 0) := HB6.out.cell 3 rfl
    exact bodyPost_ret (v := .tuple #[.agg #[.slice none 0 0, .slice none 0 0, .slice none 0 0, .slice none 0 0], .int .i64 1]) (by simp [results, Try.results29, go_sem, d0, d1, d2, d3]) rfl ⟨by rw [HD.out]; exact rfl, HM6.out, fun a b c d x h => by simp at h; rw [← h.1.1, ← h.1.2.1]; exact ⟨nil_sep _, nil_sep _⟩⟩
  | some p =>
    obtain ⟨s, rest⟩ := p
    have hlen := setP_lens hp HW.out
    have HLM := Lib.hid (show LimSet s from ⟨by omega, by omega, by omega, by omega⟩)
    have HRD := Lib.hid (reading_some o bs.length cap 52 #[.pointer (some ⟨w.heap.size, 0, none⟩)] (w.alloc (.cells #[.slice none 0 0, .slice none 0 0, .slice none 0 0, .slice none 0 0] 35)) rest (fun w' => Kept W3 w' (w.heap.size + 2) w.heap.size ∧ ∃ a b c d, Box w' w.heap.size 35 #[a, b, c, d] ∧ OwnI w' W3.heap.size 3 .i64 a s.sh ∧ OwnI w' W3.heap.size 2 .i64 b s.x ∧ OwnI w' W3.heap.size 3 .i64 c s.lb ∧ OwnI w' W3.heap.size 2 .i64 d s.y ∧ Sep a c ∧ Sep b d) (B := w.heap.size + 1) (by simp) HE.out
      (HW3.out ▸ (decode1_some (w.heap.size + 2) w.heap.size bs rest s W3 HQ.out HBS.out hSR hp).mono fun e w' ⟨he, hr, hk, hx⟩ => ⟨he, ⟨hk, hx⟩, (hk.block (w.heap.size + 1) (by rw [HSZ.out]; omega) hFR (by omega)).trans HBF.out, hr⟩))
    have HP := Lib.hid hp
    clear hp hlen
    go_enter Try.func29, Try.ntmps29
    go_wp2_with fail
    refine HRD.out.mono ?_
    rintro e w' ⟨rfl, w1, bq, ⟨hk, a, b, c, d, hbs, oa, ob, oc, od, osep⟩, rfl⟩
    obtain ⟨aa, na, rfl⟩ := own_slice oa
    obtain ⟨ab, nb, rfl⟩ := own_slice ob
    obtain ⟨ac, nc, rfl⟩ := own_slice oc
    obtain ⟨ad, nd, rfl⟩ := own_slice od
    have HSEP := Lib.hid osep
    clear osep
    have hlt : w.heap.size + 1 < W3.heap.size := by rw [HSZ.out]; omega
    have HOW := Lib.hid (And.intro (own_setLt (j := 0) oa hlt (.bool bq)) (And.intro (own_setLt (j := 0) ob hlt (.bool bq)) (And.intro (own_setLt (j := 0) oc hlt (.bool bq)) (own_setLt (j := 0) od hlt (.bool bq)))))
    have HB5 := Lib.hid (Box.other (p := ⟨w.heap.size + 1, 0, none⟩) hbs (by show w.heap.size + 1 ≠ w.heap.size; omega) (.bool bq))
    have HM5 := Lib.hid ((HB3.out.trans (kept_below2 hk (by omega) (Nat.le_refl _) (by omega))).setCell (p := ⟨w.heap.size + 1, 0, none⟩) (by show w.heap.size ≤ w.heap.size + 1; omega) (.bool bq))
    have HZ := Lib.hid (show W3.heap.size ≤ (w1.setCell ⟨w.heap.size + 1, 0, none⟩ (.bool bq)).heap.size by simp [World.setCell]; exact hk.size)
    clear hk hbs oa ob oc od
    generalize (w1.setCell ⟨w.heap.size + 1, 0, none⟩ (.bool bq)) = w5 at HB5 HM5 HOW HZ ⊢
    have f0 := HB5.out.free 0
    have f1 := HB5.out.free 1
    have f2 := HB5.out.free 2
    have f3 := HB5.out.free 3
    have c0 : w5.cell? ⟨w.heap.size, 0, none⟩ = some (.slice aa s.sh.length na) := HB5.out.cell 0 rfl
    have c1 : w5.cell? ⟨w.heap.size, 1, none⟩ = some (.slice ab s.x.length nb) := HB5.out.cell 1 rfl
    have c2 : w5.cell? ⟨w.heap.size, 2, none⟩ = some (.slice ac s.lb.length nc) := HB5.out.cell 2 rfl
    have c3 : w5.cell? ⟨w.heap.size, 3, none⟩ = some (.slice ad s.y.length nd) := HB5.out.cell 3 rfl
    by_cases hz : rest.length = 0
    · obtain rfl : rest = [] := List.eq_nil_of_length_eq_zero hz
      have HD0 := Lib.hid (decP_all HP.out)
      clear hz
      have HRS := Lib.hid (show RdSet w5 (.slice aa s.sh.length na) (.slice ab s.x.length nb) (.slice ac s.lb.length nc) (.slice ad s.y.length nd) s from ⟨Rd.of_own HOW.out.1, Rd.of_own HOW.out.2.1, Rd.of_own HOW.out.2.2.1, Rd.of_own HOW.out.2.2.2⟩)
      cases hg : goodSet s with
      | false =>
        have HD := Lib.hid (show decP bs = none by rw [HD0.out, hg, cond_false])
        have HG := Lib.hid hg
        clear hg
        go_wp2_with fail
        refine (dataGood_any _ _ _ _ s _ HRS.out HLM.out).mono ?_
        rintro e w6 ⟨rfl, hb6⟩
        rw [HG.out]
        have HOW6 := Lib.hid (And.intro (own_below HOW.out.1 hb6 (Nat.le_refl _)) (And.intro (own_below HOW.out.2.1 hb6 (Nat.le_refl _)) (And.intro (own_below HOW.out.2.2.1 hb6 (Nat.le_refl _)) (own_below HOW.out.2.2.2 hb6 (Nat.le_refl _)))))
        have HM7 := Lib.hid (HM5.out.trans (hb6.mono HM5.out.size))
        have HB7 := Lib.hid (HB5.out.next hb6)
        clear hb6 c0 c1 c2 c3 f0 f1 f2 f3 HB5 HM5
        obtain ⟨w5, rfl⟩ : ∃ w7, w7 = w6 := ⟨_, rfl⟩
        have HB5 := HB7
        have HM5 := HM7
        clear HB7 HM7
        have f0 := HB5.out.free 0
        have f1 := HB5.out.free 1
        have f2 := HB5.out.free 2
        have f3 := HB5.out.free 3
        have c0 : w5.cell? ⟨w.heap.size, 0, none⟩ = some (.slice aa s.sh.length na) := HB5.out.cell 0 rfl
        have c1 : w5.cell? ⟨w.heap.size, 1, none⟩ = some (.slice ab s.x.length nb) := HB5.out.cell 1 rfl
        have c2 : w5.cell? ⟨w.heap.size, 2, none⟩ = some (.slice ac s.lb.length nc) := HB5.out.cell 2 rfl
        have c3 : w5.cell? ⟨w.heap.size, 3, none⟩ = some (.slice ad s.y.length nd) := HB5.out.cell 3 rfl
        go_wp2_with fail
        have HB6 := Lib.hid (box_four (a := .slice none 0 0) (b := .slice none 0 0) (c := .slice none 0 0) (d := .slice none 0 0) HB5.out)
        have HM6 := Lib.hid (below_four (S := w.heap.size) (a := .slice none 0 0) (b := .slice none 0 0) (c := .slice none 0 0) (d := .slice none 0 0) HM5.out (Nat.le_refl _))
        clear c0 c1 c2 c3 f0 f1 f2 f3 HB5 HM5
        generalize ((((w5.setCell ⟨w.heap.size, 0, none⟩ (Value.slice none 0 0)).setCell ⟨w.heap.size, 1, none⟩ (.slice none 0 0)).setCell ⟨w.heap.size, 2, none⟩ (.slice none 0 0)).setCell ⟨w.heap.size, 3, none⟩ (.slice none 0 0)) = w6 at HB6 HM6 ⊢
        have d0 : w6.cell? ⟨w.heap.size, 0, none⟩ = some (.slice none 0 0) := HB6.out.cell 0 rfl
        have d1 : w6.cell? ⟨w.heap.size, 1, none⟩ = some (.slice none 0 0) := HB6.out.cell 1 rfl
        have d2 : w6.cell? ⟨w.heap.size, 2, none⟩ = some (.slice none 0 0) := HB6.out.cell 2 rfl
        have d3 : w6.cell? ⟨w.heap.size, 3, none⟩ = some (.slice none 0 0) := HB6.out.cell 3 rfl
        exact bodyPost_ret (v := .tuple #[.agg #[.slice none 0 0, .slice none 0 0, .slice none 0 0, .slice none 0 0], .int .i64 1]) (by simp [results, Try.results29, go_sem, d0, d1, d2, d3]) rfl ⟨by rw [HD.out]; exact rfl, HM6.out, fun a b c d x h => by simp at h; rw [← h.1.1, ← h.1.2.1]; exact ⟨nil_sep _, nil_sep _⟩⟩
      | true =>
        have HD := Lib.hid (show decP bs = some s by rw [HD0.out, hg, cond_true])
        have HG := Lib.hid hg
        clear hg
        go_wp2_with fail
        refine (dataGood_any _ _ _ _ s _ HRS.out HLM.out).mono ?_
        rintro e w6 ⟨rfl, hb6⟩
        rw [HG.out]
        have HOW6 := Lib.hid (And.intro (own_below HOW.out.1 hb6 (Nat.le_refl _)) (And.intro (own_below HOW.out.2.1 hb6 (Nat.le_refl _)) (And.intro (own_below HOW.out.2.2.1 hb6 (Nat.le_refl _)) (own_below HOW.out.2.2.2 hb6 (Nat.le_refl _)))))
        have HM7 := Lib.hid (HM5.out.trans (hb6.mono HM5.out.size))
        have HB7 := Lib.hid (HB5.out.next hb6)
        clear hb6 c0 c1 c2 c3 f0 f1 f2 f3 HB5 HM5
        obtain ⟨w5, rfl⟩ : ∃ w7, w7 = w6 := ⟨_, rfl⟩
        have HB5 := HB7
        have HM5 := HM7
        clear HB7 HM7
        have f0 := HB5.out.free 0
        have f1 := HB5.out.free 1
        have f2 := HB5.out.free 2
        have f3 := HB5.out.free 3
        have c0 : w5.cell? ⟨w.heap.size, 0, none⟩ = some (.slice aa s.sh.length na) := HB5.out.cell 0 rfl
        have c1 : w5.cell? ⟨w.heap.size, 1, none⟩ = some (.slice ab s.x.length nb) := HB5.out.cell 1 rfl
        have c2 : w5.cell? ⟨w.heap.size, 2, none⟩ = some (.slice ac s.lb.length nc) := HB5.out.cell 2 rfl
        have c3 : w5.cell? ⟨w.heap.size, 3, none⟩ = some (.slice ad s.y.length nd) := HB5.out.cell 3 rfl
        go_wp2_with fail
        rw [set_same (v := .slice aa s.sh.length na) HB5.out rfl, set_same (v := .slice ab s.x.length nb) HB5.out rfl, set_same (v := .slice ac s.lb.length nc) HB5.out rfl, set_same (v := .slice ad s.y.length nd) HB5.out rfl]
        have hW3 : w.heap.size ≤ W3.heap.size := HB3.out.size
        exact bodyPost_ret (v := .tuple #[.agg #[.slice aa s.sh.length na, .slice ab s.x.length nb, .slice ac s.lb.length nc, .slice ad s.y.length nd], .int .i64 0]) (by simp [results, Try.results29, go_sem, c0, c1, c2, c3]) rfl ⟨by rw [HD.out]; exact ⟨_, _, _, _, rfl, own_mono HOW6.out.1 hW3, own_mono HOW6.out.2.1 hW3, own_mono HOW6.out.2.2.1 hW3, own_mono HOW6.out.2.2.2 hW3⟩, HM5.out, fun a b c d x h => by simp at h; rw [← h.1.1, ← h.1.2.1, ← h.1.2.2.1, ← h.1.2.2.2]; exact HSEP.out⟩
    · have hzb : (rest.length == 0) = false := by simp [hz]
      have HD := Lib.hid (decP_left HP.out (by omega))
      clear hz
      go_wp2_with fail
      have HB6 := Lib.hid (box_four (a := .slice none 0 0) (b := .slice none 0 0) (c := .slice none 0 0) (d := .slice none 0 0) HB5.out)
      have HM6 := Lib.hid (below_four (S := w.heap.size) (a := .slice none 0 0) (b := .slice none 0 0) (c := .slice none 0 0) (d := .slice none 0 0) HM5.out (Nat.le_refl _))
      clear c0 c1 c2 c3 f0 f1 f2 f3 HB5 HM5
      generalize ((((w5.setCell ⟨w.heap.size, 0, none⟩ (Value.slice none 0 0)).setCell ⟨w.heap.size, 1, none⟩ (.slice none 0 0)).setCell ⟨w.heap.size, 2, none⟩ (.slice none 0 0)).setCell ⟨w.heap.size, 3, none⟩ (.slice none 0 0)) = w6 at HB6 HM6 ⊢
      have d0 : w6.cell? ⟨w.heap.size, 0, none⟩ = some (.slice none 0 0) := HB6.out.cell 0 rfl
      have d1 : w6.cell? ⟨w.heap.size, 1, none⟩ = some (.slice none 0 0) := HB6.out.cell 1 rfl
      have d2 : w6.cell? ⟨w.heap.size, 2, none⟩ = some (.slice none 0 0) := HB6.out.cell 2 rfl
      have d3 : w6.cell? ⟨w.heap.size, 3, none⟩ = some (.slice none 0 0) := HB6.out.cell 3 rfl
      exact bodyPost_ret (v := .tuple #[.agg #[.slice none 0 0, .slice none 0 0, .slice none 0 0, .slice none 0 0], .int .i64 1]) (by simp [results, Try.results29, go_sem, d0, d1, d2, d3]) rfl ⟨by rw [HD.out]; exact rfl, HM6.out, fun a b c d x h => by simp at h; rw [← h.1.1, ← h.1.2.1]; exact ⟨nil_sep _, nil_sep _⟩⟩
end Go.Proofs.Ytjhejpeklppmbaa
