/-
  THE PROGRAM'S calls, each in all its cases: one step; the reference's mod.
-/
import Derived.Test.YtejmbhckfdfoeaaEM12
import Derived.Test.YtejmbhckfdfoeaaEM09
import Derived.Test.YtejmbhckfdfoeaaEM05
import Derived.Test.YtejmbhckfdfoeaaEM03
import Derived.Test.YtejmbhckfdfoeaaEM08
set_option linter.unusedVariables false
set_option linter.unusedSimpArgs false
namespace Go.Proofs.Ytejmbhckfdfoeaa
open Go.RowKit Go.Maps
set_option maxHeartbeats 1000000 in
theorem rmod_any (p n : Int) (hn : 0 < n ∧ n ≤ 4294967296) (w : World) : Calls Try.prog 64 #[.int .i64 p, .int .i64 n] w fun e w' => e = .returned (.int .i64 (p % n)) ∧ w = w' := by
  have hne : ¬ n = 0 := by omega
  have h0 := Int.emod_nonneg p (show n ≠ 0 by omega)
  have h2 := Int.emod_lt_of_pos p hn.1
  have hc : Int.tmod p n = p % n ∨ (Int.tmod p n = p % n - n ∧ 0 < p % n) := by
    rw [Int.tmod_eq_emod]
    by_cases h : 0 ≤ p ∨ n ∣ p
    · rw [if_pos h]; left; omega
    · rw [if_neg h]
      right
      have h3 : p % n ≠ 0 := fun e => h (.inr (Int.dvd_of_emod_eq_zero e))
      have : (n.natAbs : Int) = n := Int.natAbs_of_nonneg (by omega)
      constructor <;> omega
  obtain ⟨q, hq⟩ : ∃ q, q = p % n := ⟨_, rfl⟩
  obtain ⟨r, hr⟩ : ∃ r, r = Int.tmod p n := ⟨_, rfl⟩
  rw [← hq] at h0 h2 hc ⊢
  rw [← hr] at hc
  have HR := Lib.hid hr
  have e0 : Int.tmod p n = r := hr.symm
  clear hq hr
  have e1 : wrap64 r = r := by unfold wrap64; omega
  by_cases hneg : r < 0
  · have hrq : r + n = q := by omega
    have e2 : wrap64 (r + n) = r + n := by unfold wrap64; omega
    have HE := Lib.hid (And.intro e0 (And.intro e1 (And.intro e2 hrq)))
    have d1 : decide (Int.tmod p n < 0) = true := by rw [e0]; exact decide_eq_true hneg
    clear e0 e1 e2 hrq hc HR
    go_enter Try.func64, Try.ntmps64
    go_wp2
    go_ret
    exact ⟨congrArg (fun z => Ending.returned (Value.int .i64 z)) (by obtain ⟨e0, e1, e2, e3⟩ := HE.out; rw [e0, e2, e3]), rfl⟩
  · have hrq : r = q := by omega
    have HE := Lib.hid (And.intro e0 (And.intro e1 hrq))
    have d1 : decide (Int.tmod p n < 0) = false := by rw [e0]; exact decide_eq_false hneg
    clear e0 e1 hrq hc HR
    go_enter Try.func64, Try.ntmps64
    go_wp2
    go_ret
    exact ⟨congrArg (fun z => Ending.returned (Value.int .i64 z)) (by obtain ⟨e0, e1, e3⟩ := HE.out; rw [e0, e3]), rfl⟩
theorem sync_any {B : Nat} {w : World} {p bs bf : Nat} {cv : Value} {vs : List Value} {s : DSt} (x : List UInt8) (h : DRepr B w p bs bf cv vs s) (hx : x.length ≤ maxLen) (hst : s.strokes < 1000000) :
    Calls Try.prog 22 #[.pointer (some ⟨p, 0, none⟩), .string ⟨x.toArray⟩] w fun e w' => e = .returned (.int .i64 (stepSync s x).1) ∧ DRepr B w' p bs bf cv vs (stepSync s x).2 ∧ Step B w w' := by
  have hB : B ≤ w.heap.size := Nat.le_of_lt h.baseLt
  cases hd : s.dead with
  | true =>
    refine (sync_ref x h hx (.inl hd)).mono ?_
    rintro e w' ⟨rfl, hb⟩
    rw [stepSync, if_pos hd, hd]
    exact ⟨by cases goodNm x <;> rfl, h.next hb hB, Step.of_below hb hB⟩
  | false =>
    have hnd : ¬ s.dead = true := by rw [hd]; decide
    cases hg : goodNm x with
    | false =>
      refine (sync_ref x h hx (.inr hg)).mono ?_
      rintro e w' ⟨rfl, hb⟩
      rw [stepSync, if_neg hnd, if_neg (by rw [hg]; decide), hd, hg]
      exact ⟨rfl, h.next hb hB, Step.of_below hb hB⟩
    | true =>
      cases hget : lget s.seen x with
      | none =>
        refine (sync_no x h hg hd hget hst).mono ?_
        rintro e w' ⟨rfl, hd', hs'⟩
        rw [stepSync, if_neg hnd, if_pos hg, hget]
        exact ⟨rfl, hd', hs'⟩
      | some f =>
        refine (sync_ok x f h hg hd hget hst).mono ?_
        rintro e w' ⟨rfl, hd', hs'⟩
        rw [stepSync, if_neg hnd, if_pos hg, hget]
        exact ⟨rfl, hd', hs'⟩
theorem remove_any {B : Nat} {w : World} {p bs bf : Nat} {cv : Value} {vs : List Value} {s : DSt} (x : List UInt8) (h : DRepr B w p bs bf cv vs s) (hx : x.length ≤ maxLen) (hst : s.strokes < 1000000) (hch : s.chs.length < 1000000) :
    Calls Try.prog 20 #[.pointer (some ⟨p, 0, none⟩), .string ⟨x.toArray⟩] w fun e w' => e = .returned (.int .i64 (stepRemove s x).1) ∧ (∃ cv' vs', DRepr B w' p bs bf cv' vs' (stepRemove s x).2) ∧ Step B w w' := by
  have hB : B ≤ w.heap.size := Nat.le_of_lt h.baseLt
  cases hd : s.dead with
  | true =>
    refine (remove_ref x h hx (.inl hd)).mono ?_
    rintro e w' ⟨rfl, hb⟩
    rw [stepRemove, if_pos hd, hd]
    exact ⟨by cases goodNm x <;> rfl, ⟨_, _, h.next hb hB⟩, Step.of_below hb hB⟩
  | false =>
    have hnd : ¬ s.dead = true := by rw [hd]; decide
    cases hg : goodNm x with
    | false =>
      refine (remove_ref x h hx (.inr hg)).mono ?_
      rintro e w' ⟨rfl, hb⟩
      rw [stepRemove, if_neg hnd, if_neg (by rw [hg]; decide), hd, hg]
      exact ⟨rfl, ⟨_, _, h.next hb hB⟩, Step.of_below hb hB⟩
    | true =>
      cases hget : lget s.seen x with
      | none =>
        refine (remove_no x h hg hd hget hst hch).mono ?_
        rintro e w' ⟨rfl, hd', hs'⟩
        rw [stepRemove, if_neg hnd, if_pos hg, hget]
        exact ⟨rfl, ⟨_, _, hd'⟩, hs'⟩
      | some f =>
        refine (remove_ok x f h hg hd hget hst hch).mono ?_
        rintro e w' ⟨rfl, hd', hs'⟩
        rw [stepRemove, if_neg hnd, if_pos hg, hget]
        exact ⟨rfl, hd', hs'⟩
theorem rename_any {B : Nat} {w : World} {p bs bf : Nat} {cv : Value} {vs : List Value} {s : DSt} (x b : List UInt8) (h : DRepr B w p bs bf cv vs s) (hx : x.length ≤ maxLen) (hxb : b.length ≤ maxLen) (hst : s.strokes < 1000000) (hch : s.chs.length < 1000000) (hse : s.seen.length < 1000000) :
    Calls Try.prog 17 #[.pointer (some ⟨p, 0, none⟩), .string ⟨x.toArray⟩, .string ⟨b.toArray⟩] w fun e w' => e = .returned (.int .i64 (stepRename s x b).1) ∧ (∃ cv' vs', DRepr B w' p bs bf cv' vs' (stepRename s x b).2) ∧ Step B w w' := by
  have hB : B ≤ w.heap.size := Nat.le_of_lt h.baseLt
  cases hd : s.dead with
  | true =>
    refine (rename_ref x b h hx hxb (.inl hd)).mono ?_
    rintro e w' ⟨rfl, hb⟩
    rw [stepRename, if_pos hd, hd]
    exact ⟨by cases (goodNm x && goodNm b) <;> rfl, ⟨_, _, h.next hb hB⟩, Step.of_below hb hB⟩
  | false =>
    have hnd : ¬ s.dead = true := by rw [hd]; decide
    cases hg : (goodNm x && goodNm b) with
    | false =>
      refine (rename_ref x b h hx hxb (.inr hg)).mono ?_
      rintro e w' ⟨rfl, hb⟩
      rw [stepRename, if_neg hnd, if_neg (by rw [hg]; decide), hd, hg]
      exact ⟨rfl, ⟨_, _, h.next hb hB⟩, Step.of_below hb hB⟩
    | true =>
      have hg2 := hg
      rw [Bool.and_eq_true] at hg2
      cases hget : lget s.seen x with
      | none =>
        refine (rename_no x b h hg2.1 hg2.2 hd hget hst).mono ?_
        rintro e w' ⟨rfl, hd', hs'⟩
        rw [stepRename, if_neg hnd, if_pos hg, hget]
        exact ⟨rfl, ⟨_, _, hd'⟩, hs'⟩
      | some f =>
        refine (rename_ok x b f h hg2.1 hg2.2 hd hget hst hch hse).mono ?_
        rintro e w' ⟨rfl, hd', hs'⟩
        rw [stepRename, if_neg hnd, if_pos hg, hget]
        exact ⟨rfl, hd', hs'⟩
theorem write_any {B : Nat} {w : World} {p bs bf : Nat} {cv : Value} {vs : List Value} {s : DSt} (x : List UInt8) (v : Value) (xs : List Int) (h : DRepr B w p bs bf cv vs s) (hx : x.length ≤ maxLen) (hr : BytesRep 0 w v xs) (hst : s.strokes < 1000000) (hch : s.chs.length < 1000000) (hse : s.seen.length < 1000000) :
    Calls Try.prog 13 #[.pointer (some ⟨p, 0, none⟩), .string ⟨x.toArray⟩, v] w fun e w' => ∃ f, w.heap.size ≤ f ∧ e = .returned (.int .i64 (stepWrite s x xs f).1) ∧ (∃ cv' vs', DRepr B w' p bs bf cv' vs' (stepWrite s x xs f).2) ∧ Step B w w' := by
  have hB : B ≤ w.heap.size := Nat.le_of_lt h.baseLt
  cases hd : s.dead with
  | true =>
    refine (write_ref x v xs hr h hx (.inl hd)).mono ?_
    rintro e w' ⟨rfl, hb⟩
    refine ⟨w.heap.size, Nat.le_refl _, ?_⟩
    rw [stepWrite, if_pos hd, hd]
    exact ⟨by cases goodNm x <;> rfl, ⟨_, _, h.next hb hB⟩, Step.of_below hb hB⟩
  | false =>
    have hnd : ¬ s.dead = true := by rw [hd]; decide
    cases hg : goodNm x with
    | false =>
      refine (write_ref x v xs hr h hx (.inr hg)).mono ?_
      rintro e w' ⟨rfl, hb⟩
      refine ⟨w.heap.size, Nat.le_refl _, ?_⟩
      rw [stepWrite, if_neg hnd, if_neg (by rw [hg]; decide), hd, hg]
      exact ⟨rfl, ⟨_, _, h.next hb hB⟩, Step.of_below hb hB⟩
    | true =>
      by_cases hfull : lget s.seen x = none ∧ s.seen.length = 16
      · refine (write_full x v xs h hg hr hd hfull hst).mono ?_
        rintro e w' ⟨rfl, hd', hs'⟩
        refine ⟨w.heap.size, Nat.le_refl _, ?_⟩
        rw [stepWrite, if_neg hnd, if_pos hg, if_pos hfull]
        exact ⟨rfl, ⟨_, _, hd'⟩, hs'⟩
      · refine (write_ok x v xs h hg hr hd hfull hst hch hse).mono ?_
        rintro e w' ⟨rfl, ⟨f, cv', vs', hd', hf'⟩, hs'⟩
        refine ⟨f, hf', ?_⟩
        rw [stepWrite, if_neg hnd, if_pos hg, if_neg hfull]
        exact ⟨rfl, ⟨_, _, hd'⟩, hs'⟩
end Go.Proofs.Ytejmbhckfdfoeaa
/-
  THE PROGRAM'S STATE AND THE REFERENCE'S: the same but for the numbers of files; each step keeps them so. Plain.
-/
set_option linter.unusedVariables false
set_option linter.unusedSimpArgs false
namespace Go.Proofs.Ytejmbhckfdfoeaa
open Go.RowKit Go.Maps
def mp (φ : Nat → Nat) (p : List UInt8 × Nat) : List UInt8 × Nat := (p.1, φ p.2)
def mc (φ : Nat → Nat) : Chg → Chg
  | .put x f => .put x (φ f)
  | .mv a b f => .mv a b (φ f)
  | .del x => .del x
theorem ldel_mp (φ : Nat → Nat) (l : NM) (x : List UInt8) : ldel (l.map (mp φ)) x = (ldel l x).map (mp φ) := by
  simp only [ldel, List.filter_map]
  rfl
theorem lins_mp (φ : Nat → Nat) (x : List UInt8) (f : Nat) : ∀ l : NM, lins x (φ f) (l.map (mp φ)) = (lins x f l).map (mp φ)
  | [] => rfl
  | p :: r => by
    rw [List.map_cons]
    unfold lins
    by_cases h : p.1 < x
    · rw [if_pos (show (mp φ p).1 < x from h), if_pos h, List.map_cons, lins_mp φ x f r]
    · rw [if_neg (show ¬ (mp φ p).1 < x from h), if_neg h]; rfl
theorem lput_mp (φ : Nat → Nat) (l : NM) (x : List UInt8) (f : Nat) : lput (l.map (mp φ)) x (φ f) = (lput l x f).map (mp φ) := by
  rw [lput, lput, ldel_mp, lins_mp]
theorem lget_mp (φ : Nat → Nat) (l : NM) (x : List UInt8) : lget (l.map (mp φ)) x = (lget l x).map φ := by
  unfold lget
  rw [List.find?_map]
  simp only [Option.map_map]
  rfl
theorem on_mp (φ : Nat → Nat) (l : NM) (c : Chg) : (mc φ c).on (l.map (mp φ)) = (c.on l).map (mp φ) := by
  cases c with
  | put x f => exact lput_mp φ l x f
  | mv a b f => show lput (ldel (l.map (mp φ)) a) b (φ f) = _; rw [ldel_mp, lput_mp]; rfl
  | del x => exact ldel_mp φ l x
structure Corr (φ : Nat → Nat) (s t : DSt) : Prop where
  safe : t.safe = s.safe.map (mp φ)
  seen : t.seen = s.seen.map (mp φ)
  chs : t.chs = s.chs.map (mc φ)
  strokes : t.strokes = s.strokes
  off : t.off = s.off
  dead : t.dead = s.dead
  ids : t.ids = s.ids.map φ
  hby : ∀ f ∈ s.ids, t.by_ (φ f) = s.by_ f
  hsf : ∀ f ∈ s.ids, t.sf (φ f) = s.sf f
  inj : ∀ f ∈ s.ids, ∀ g ∈ s.ids, φ f = φ g → f = g
theorem Corr.offB {φ : Nat → Nat} {s t : DSt} (h : Corr φ s t) : offB t = Go.Proofs.Ytejmbhckfdfoeaa.offB s := by unfold Go.Proofs.Ytejmbhckfdfoeaa.offB; rw [h.off, h.strokes]
theorem Corr.stroke {φ : Nat → Nat} {s t : DSt} (h : Corr φ s t) : Corr φ (strokeS s) (strokeS t) :=
  ⟨h.safe, h.seen, h.chs, by show t.strokes + 1 = s.strokes + 1; rw [h.strokes], h.off, h.offB, h.ids, h.hby, h.hsf, h.inj⟩
theorem Corr.chg {φ : Nat → Nat} {s t : DSt} (h : Corr φ s t) (c : Chg) : Corr φ (chgS s c) (chgS t (mc φ c)) :=
  ⟨h.safe, by show (mc φ c).on t.seen = (c.on s.seen).map (mp φ); rw [h.seen, on_mp], by show t.chs ++ [mc φ c] = (s.chs ++ [c]).map (mc φ); rw [h.chs]; simp, h.strokes, h.off, h.dead, h.ids, h.hby, h.hsf, h.inj⟩
theorem Corr.sync {φ : Nat → Nat} {s t : DSt} (h : Corr φ s t) {f : Nat} (hf : f ∈ s.ids) : Corr φ (syncS s f) (syncS t (φ f)) := by
  unfold syncS
  rw [h.offB]
  cases Go.Proofs.Ytejmbhckfdfoeaa.offB s with
  | true => exact h.stroke
  | false =>
    have hs := h.stroke
    refine ⟨hs.safe, hs.seen, hs.chs, hs.strokes, hs.off, hs.dead, hs.ids, hs.hby, fun g hg => ?_, hs.inj⟩
    show updF t.sf (φ f) (t.by_ (φ f)) (φ g) = updF s.sf f (s.by_ f) g
    unfold updF
    by_cases e : g = f
    · subst e
      rw [if_pos rfl, if_pos rfl]
      exact h.hby g hf
    · rw [if_neg (fun e' => e (h.inj g hg f hf e')), if_neg e]
      exact h.hsf g hg
theorem Corr.dir {φ : Nat → Nat} {s t : DSt} (h : Corr φ s t) : Corr φ (syncDirS s) (syncDirS t) := by
  unfold syncDirS
  rw [h.offB]
  cases Go.Proofs.Ytejmbhckfdfoeaa.offB s with
  | true => exact h.stroke
  | false =>
    have hs := h.stroke
    exact ⟨h.seen, hs.seen, rfl, hs.strokes, hs.off, hs.dead, hs.ids, hs.hby, hs.hsf, hs.inj⟩
theorem corr_sync {φ : Nat → Nat} {s t : DSt} (h : Corr φ s t) (hin : ∀ q ∈ s.seen, q.2 ∈ s.ids) (x : List UInt8) : (stepSync t x).1 = (stepSync s x).1 ∧ Corr φ (stepSync s x).2 (stepSync t x).2 := by
  unfold stepSync
  rw [h.dead, h.seen, lget_mp, h.offB]
  by_cases hd : s.dead = true
  · rw [if_pos hd, if_pos hd]; exact ⟨rfl, h⟩
  · rw [if_neg hd, if_neg hd]
    by_cases hg : goodNm x = true
    · rw [if_pos hg, if_pos hg]
      cases hget : lget s.seen x with
      | none => exact ⟨rfl, h.stroke⟩
      | some f => exact ⟨rfl, h.sync (hin _ (lget_mem hget))⟩
    · rw [if_neg hg, if_neg hg]; exact ⟨rfl, h⟩
theorem corr_remove {φ : Nat → Nat} {s t : DSt} (h : Corr φ s t) (x : List UInt8) : (stepRemove t x).1 = (stepRemove s x).1 ∧ Corr φ (stepRemove s x).2 (stepRemove t x).2 := by
  unfold stepRemove
  rw [h.dead, h.seen, lget_mp, h.offB]
  by_cases hd : s.dead = true
  · rw [if_pos hd, if_pos hd]; exact ⟨rfl, h⟩
  · rw [if_neg hd, if_neg hd]
    by_cases hg : goodNm x = true
    · rw [if_pos hg, if_pos hg]
      cases hget : lget s.seen x with
      | none => exact ⟨rfl, h.stroke⟩
      | some f => exact ⟨rfl, h.stroke.chg (.del x)⟩
    · rw [if_neg hg, if_neg hg]; exact ⟨rfl, h⟩
theorem corr_rename {φ : Nat → Nat} {s t : DSt} (h : Corr φ s t) (x b : List UInt8) : (stepRename t x b).1 = (stepRename s x b).1 ∧ Corr φ (stepRename s x b).2 (stepRename t x b).2 := by
  unfold stepRename
  rw [h.dead, h.seen, lget_mp, h.offB]
  by_cases hd : s.dead = true
  · rw [if_pos hd, if_pos hd]; exact ⟨rfl, h⟩
  · rw [if_neg hd, if_neg hd]
    by_cases hg : (goodNm x && goodNm b) = true
    · rw [if_pos hg, if_pos hg]
      cases hget : lget s.seen x with
      | none => exact ⟨rfl, h.stroke⟩
      | some f => exact ⟨rfl, h.stroke.chg (.mv x b f)⟩
    · rw [if_neg hg, if_neg hg]; exact ⟨rfl, h⟩
theorem corr_dir {φ : Nat → Nat} {s t : DSt} (h : Corr φ s t) : (stepDir t).1 = (stepDir s).1 ∧ Corr φ (stepDir s).2 (stepDir t).2 := by
  unfold stepDir
  rw [h.dead, h.offB]
  by_cases hd : s.dead = true
  · rw [if_pos hd, if_pos hd]; exact ⟨rfl, h⟩
  · rw [if_neg hd, if_neg hd]; exact ⟨rfl, h.dir⟩
end Go.Proofs.Ytejmbhckfdfoeaa
/-
  The two states: Write, Read, List, Crash. Plain.
-/
set_option linter.unusedVariables false
set_option linter.unusedSimpArgs false
namespace Go.Proofs.Ytejmbhckfdfoeaa
open Go.RowKit Go.Maps
/-- all files that the state speaks of are its own -/
structure InIds (s : DSt) : Prop where
  seen : ∀ q ∈ s.seen, q.2 ∈ s.ids
  safe : ∀ q ∈ s.safe, q.2 ∈ s.ids
  chs : ∀ c ∈ s.chs, ∀ g, chgFile c = some g → g ∈ s.ids
def phi' (φ : Nat → Nat) (f f' : Nat) : Nat → Nat := fun k => if k = f then f' else φ k
theorem mp_same {φ : Nat → Nat} {f f' : Nat} {l : NM} {ids : List Nat} (h : ∀ q ∈ l, q.2 ∈ ids) (hf : f ∉ ids) : l.map (mp (phi' φ f f')) = l.map (mp φ) :=
  List.map_congr_left fun q hq => by
    have : q.2 ≠ f := fun e => hf (e ▸ h q hq)
    simp [mp, phi', this]
theorem mc_same {φ : Nat → Nat} {f f' : Nat} {l : List Chg} {ids : List Nat} (h : ∀ c ∈ l, ∀ g, chgFile c = some g → g ∈ ids) (hf : f ∉ ids) : l.map (mc (phi' φ f f')) = l.map (mc φ) :=
  List.map_congr_left fun c hc => by
    have h1 := h c hc
    cases c with
    | put x g => have : g ≠ f := fun e => hf (e ▸ h1 g rfl); simp [mc, phi', this]
    | mv a b g => have : g ≠ f := fun e => hf (e ▸ h1 g rfl); simp [mc, phi', this]
    | del x => rfl
theorem Corr.addF {φ : Nat → Nat} {s t : DSt} (h : Corr φ s t) (hin : InIds s) {f f' : Nat} (hf : f ∉ s.ids) (hf' : f' ∉ t.ids) (xs ys : List Int) : Corr (phi' φ f f') (addS s f xs ys) (addS t f' xs ys) := by
  have hne : ∀ g ∈ s.ids, g ≠ f := fun g hg e => hf (e ▸ hg)
  have hid : ∀ g ∈ s.ids, φ g ≠ f' := fun g hg e => hf' (by rw [h.ids, ← e]; exact List.mem_map.2 ⟨g, hg, rfl⟩)
  refine ⟨?_, ?_, ?_, h.strokes, h.off, h.dead, ?_, fun g hg => ?_, fun g hg => ?_, fun g hg k hk e => ?_⟩
  · show t.safe = s.safe.map _; rw [mp_same hin.safe hf]; exact h.safe
  · show t.seen = s.seen.map _; rw [mp_same hin.seen hf]; exact h.seen
  · show t.chs = s.chs.map _; rw [mc_same hin.chs hf]; exact h.chs
  · show f' :: t.ids = (f :: s.ids).map _
    rw [List.map_cons, h.ids]
    exact (congr (congrArg List.cons (by simp [phi'])) (List.map_congr_left fun g hg => by simp [phi', hne g hg]))
  · show updF t.by_ f' xs (phi' φ f f' g) = updF s.by_ f xs g
    unfold updF phi'
    by_cases e : g = f
    · simp [e]
    · have hg' : g ∈ s.ids := (List.mem_cons.1 hg).resolve_left e
      simp only [if_neg e, if_neg (hid g hg')]
      exact h.hby g hg'
  · show updF t.sf f' ys (phi' φ f f' g) = updF s.sf f ys g
    unfold updF phi'
    by_cases e : g = f
    · simp [e]
    · have hg' : g ∈ s.ids := (List.mem_cons.1 hg).resolve_left e
      simp only [if_neg e, if_neg (hid g hg')]
      exact h.hsf g hg'
  · unfold phi' at e
    by_cases e1 : g = f
    · by_cases e2 : k = f
      · rw [e1, e2]
      · have hk' : k ∈ s.ids := (List.mem_cons.1 hk).resolve_left e2
        simp only [if_pos e1, if_neg e2] at e
        exact absurd e.symm (hid k hk')
    · have hg' : g ∈ s.ids := (List.mem_cons.1 hg).resolve_left e1
      by_cases e2 : k = f
      · simp only [if_neg e1, if_pos e2] at e
        exact absurd e (hid g hg')
      · have hk' : k ∈ s.ids := (List.mem_cons.1 hk).resolve_left e2
        simp only [if_neg e1, if_neg e2] at e
        exact h.inj g hg' k hk' e
theorem corr_write {φ : Nat → Nat} {s t : DSt} (h : Corr φ s t) (hin : InIds s) (x : List UInt8) (xs : List Int) {f f' : Nat} (hf : f ∉ s.ids) (hf' : f' ∉ t.ids) :
    (stepWrite t x xs f').1 = (stepWrite s x xs f).1 ∧ ∃ ψ, Corr ψ (stepWrite s x xs f).2 (stepWrite t x xs f').2 := by
  unfold stepWrite
  rw [h.dead, h.offB]
  by_cases hd : s.dead = true
  · rw [if_pos hd, if_pos hd]; exact ⟨rfl, φ, h⟩
  · rw [if_neg hd, if_neg hd]
    by_cases hg : goodNm x = true
    · rw [if_pos hg, if_pos hg]
      have hc : (lget t.seen x = none ∧ t.seen.length = 16) ↔ (lget s.seen x = none ∧ s.seen.length = 16) := by
        rw [h.seen, lget_mp, List.length_map]
        cases lget s.seen x <;> simp
      by_cases hf2 : lget s.seen x = none ∧ s.seen.length = 16
      · rw [if_pos hf2, if_pos (hc.2 hf2)]; exact ⟨rfl, φ, h.stroke⟩
      · rw [if_neg hf2, if_neg (fun hh => hf2 (hc.1 hh))]
        refine ⟨rfl, phi' φ f f', ?_⟩
        have h1 : Corr (phi' φ f f') (addS (strokeS s) f xs []) (addS (strokeS t) f' xs []) := h.stroke.addF ⟨hin.seen, hin.safe, hin.chs⟩ hf hf' xs []
        have h2 := h1.chg (.put x f)
        have e : mc (phi' φ f f') (.put x f) = .put x f' := by simp [mc, phi']
        rw [e] at h2
        exact h2
    · rw [if_neg hg, if_neg hg]; exact ⟨rfl, φ, h⟩
theorem corr_read {φ : Nat → Nat} {s t : DSt} (h : Corr φ s t) (hin : InIds s) (x : List UInt8) : readR t x = readR s x := by
  unfold readR
  rw [h.dead, h.seen, lget_mp]
  cases hget : lget s.seen x with
  | none => rfl
  | some f => simp only [Option.map_some]; rw [h.hby f (hin.seen _ (lget_mem hget))]
theorem corr_list {φ : Nat → Nat} {s t : DSt} (h : Corr φ s t) (hin : InIds s) : t.seen.map (fdOf t) = s.seen.map (fdOf s) := by
  rw [h.seen, List.map_map]
  refine List.map_congr_left fun q hq => ?_
  show (⟨q.1, t.by_ (φ q.2)⟩ : FileD) = ⟨q.1, s.by_ q.2⟩
  rw [h.hby _ (hin.seen q hq)]
theorem runC_mp (φ : Nat → Nat) (cs : List Chg) : ∀ l : NM, runC (l.map (mp φ)) (cs.map (mc φ)) = (runC l cs).map (mp φ) := by
  induction cs with
  | nil => intro l; rfl
  | cons c r ih => intro l; show runC ((mc φ c).on (l.map (mp φ))) (r.map (mc φ)) = _; rw [on_mp, ih]; rfl
theorem crash_corr {φ : Nat → Nat} {s t : DSt} (h : Corr φ s t) : ∀ (l : NM) (acc : List FileD × List Int), (∀ q ∈ l, q.2 ∈ s.ids) → (l.map (mp φ)).foldl (crashStep t) acc = l.foldl (crashStep s) acc
  | [], _, _ => rfl
  | q :: r, acc, hl => by
    rw [List.map_cons, List.foldl_cons, List.foldl_cons]
    have hq := hl q (List.mem_cons_self ..)
    have e : crashStep t acc (mp φ q) = crashStep s acc q := by
      unfold crashStep pickB
      simp only [mp, h.hby _ hq, h.hsf _ hq]
    rw [e]
    exact crash_corr h r _ (fun q' hq' => hl q' (List.mem_cons_of_mem _ hq'))
theorem corr_crash {φ : Nat → Nat} {s t : DSt} (h : Corr φ s t) (pk : List Int) (hl : ∀ q ∈ crashLeft s pk, q.2 ∈ s.ids) : crashR t pk = crashR s pk := by
  have hn : crashN t pk = crashN s pk := by unfold crashN; rw [h.chs, List.length_map]
  have hleft : crashLeft t pk = (crashLeft s pk).map (mp φ) := by
    unfold crashLeft
    rw [hn, h.safe, h.chs, ← List.map_take, runC_mp]
  unfold crashR crashOf
  rw [hleft, crash_corr h _ _ hl]
end Go.Proofs.Ytejmbhckfdfoeaa
/-
  What the two states keep at each step. Plain.
-/
set_option linter.unusedVariables false
set_option linter.unusedSimpArgs false
namespace Go.Proofs.Ytejmbhckfdfoeaa
open Go.RowKit Go.Maps
theorem InIds.stroke {s : DSt} (h : InIds s) : InIds (strokeS s) := ⟨h.seen, h.safe, h.chs⟩
theorem InIds.add {s : DSt} (h : InIds s) (f : Nat) (xs ys : List Int) : InIds (addS s f xs ys) :=
  ⟨fun q hq => List.mem_cons_of_mem _ (h.seen q hq), fun q hq => List.mem_cons_of_mem _ (h.safe q hq), fun c hc g hg => List.mem_cons_of_mem _ (h.chs c hc g hg)⟩
theorem InIds.chg {s : DSt} (h : InIds s) {c : Chg} (hc : ∀ g, chgFile c = some g → g ∈ s.ids) : InIds (chgS s c) := by
  refine ⟨fun q hq => ?_, h.safe, fun d hd g hg => ?_⟩
  · show q.2 ∈ s.ids
    have hq : q ∈ c.on s.seen := hq
    cases c with
    | put x f =>
      rcases lput_mem hq with rfl | hq
      · exact hc f rfl
      · exact h.seen q hq
    | mv a b f =>
      rcases lput_mem hq with rfl | hq
      · exact hc f rfl
      · exact h.seen q (ldel_mem hq)
    | del x => exact h.seen q (ldel_mem hq)
  · show g ∈ s.ids
    rcases List.mem_append.1 hd with hd | hd
    · exact h.chs d hd g hg
    · rw [List.mem_singleton.1 hd] at hg
      exact hc g hg
theorem InIds.sync {s : DSt} (h : InIds s) (f : Nat) : InIds (syncS s f) := by
  unfold syncS
  cases offB s with
  | true => exact h.stroke
  | false => exact ⟨h.seen, h.safe, h.chs⟩
theorem InIds.dir {s : DSt} (h : InIds s) : InIds (syncDirS s) := by
  unfold syncDirS
  cases offB s with
  | true => exact h.stroke
  | false => exact ⟨h.seen, h.seen, fun c hc => nomatch hc⟩
theorem lget_in {s : DSt} (h : InIds s) {x : List UInt8} {f : Nat} (hg : lget s.seen x = some f) : f ∈ s.ids := h.seen (x, f) (lget_mem hg)
theorem InIds.stepSync {s : DSt} (h : InIds s) (x : List UInt8) : InIds (stepSync s x).2 := by
  unfold Go.Proofs.Ytejmbhckfdfoeaa.stepSync
  split
  · exact h
  · split
    · split
      · exact h.stroke
      · exact h.sync _
    · exact h
theorem InIds.stepRemove {s : DSt} (h : InIds s) (x : List UInt8) : InIds (stepRemove s x).2 := by
  unfold Go.Proofs.Ytejmbhckfdfoeaa.stepRemove
  split
  · exact h
  · split
    · split
      · exact h.stroke
      · exact h.stroke.chg fun g hg => nomatch hg
    · exact h
theorem InIds.stepRename {s : DSt} (h : InIds s) (x b : List UInt8) : InIds (stepRename s x b).2 := by
  unfold Go.Proofs.Ytejmbhckfdfoeaa.stepRename
  split
  · exact h
  · split
    · split
      · exact h.stroke
      · next f hf => exact h.stroke.chg fun g hg => by cases hg; exact lget_in h hf
    · exact h
theorem InIds.stepWrite {s : DSt} (h : InIds s) (x : List UInt8) (xs : List Int) (f : Nat) : InIds (stepWrite s x xs f).2 := by
  unfold Go.Proofs.Ytejmbhckfdfoeaa.stepWrite
  split
  · exact h
  · split
    · split
      · exact h.stroke
      · exact (h.stroke.add f xs []).chg fun g hg => by cases hg; exact List.mem_cons_self ..
    · exact h
theorem InIds.stepDir {s : DSt} (h : InIds s) : InIds (stepDir s).2 := by
  unfold Go.Proofs.Ytejmbhckfdfoeaa.stepDir
  split
  · exact h
  · exact h.dir
theorem RInv.stroke {t : DSt} (h : RInv t) (hs : t.strokes + 1 < 1000000) : RInv (strokeS t) := by
  refine ⟨h.wf.stroke, h.ris, h.run, fun hd => ?_, ⟨?_, hs⟩, h.ob⟩
  · have hd : offB t = false := hd
    show t.off < 1 ∨ t.strokes + 1 < t.off
    unfold offB at hd
    simp at hd
    omega
  · show 0 ≤ t.strokes + 1
    have := h.st.1
    omega
theorem runC_risR {l : NM} (h : Ris l) : ∀ cs : List Chg, Ris (runC l cs) := by
  intro cs
  induction cs generalizing l with
  | nil => exact h
  | cons c r ih => exact ih (Chg.ris h c)
theorem RInv.risSeen {t : DSt} (h : RInv t) : Ris t.seen := by rw [h.run]; exact runC_risR h.ris _
theorem RInv.seenAll {t : DSt} (h : RInv t) : (∀ q ∈ t.seen, q.2 ∈ t.ids ∧ goodNm q.1 = true) ∧ t.seen.length ≤ 16 := by
  have := h.wf.all t.chs.length (Nat.le_refl _)
  rw [List.take_length, ← h.run] at this
  exact this
theorem RInv.sync {t : DSt} (h : RInv t) (hs : t.strokes + 1 < 1000000) (f : Nat) : RInv (syncS t f) := by
  have h1 := h.stroke hs
  unfold syncS
  cases offB t with
  | true => exact h1
  | false => exact ⟨⟨h1.wf.all, h1.wf.nm, h1.wf.chl⟩, h1.ris, h1.run, h1.pw, h1.st, h1.ob⟩
theorem RInv.dir {t : DSt} (h : RInv t) (hs : t.strokes + 1 < 1000000) : RInv (syncDirS t) := by
  have h1 := h.stroke hs
  unfold syncDirS
  cases offB t with
  | true => exact h1
  | false => exact ⟨⟨fun n hn => by have hn : n = 0 := Nat.le_zero.1 hn; subst hn; exact h.seenAll, fun c hc => (nomatch hc), Nat.zero_le _⟩, h.risSeen, rfl, h1.pw, h1.st, h1.ob⟩
theorem RInv.add {t : DSt} (h : RInv t) (f : Nat) (xs ys : List Int) : RInv (addS t f xs ys) :=
  ⟨⟨fun n hn => ⟨fun q hq => ⟨List.mem_cons_of_mem _ ((h.wf.all n hn).1 q hq).1, ((h.wf.all n hn).1 q hq).2⟩, (h.wf.all n hn).2⟩, h.wf.nm, h.wf.chl⟩, h.ris, h.run, h.pw, h.st, h.ob⟩
theorem RInv.chg {t : DSt} (h : RInv t) {c : Chg} (h1 : ∀ q ∈ c.on t.seen, q.2 ∈ t.ids ∧ goodNm q.1 = true) (h2 : (c.on t.seen).length ≤ 16) (h3 : (cName c).length ≤ maxLen ∧ (cGone c).length ≤ maxLen) (h4 : t.chs.length + 1 ≤ 1000) : RInv (chgS t c) := by
  refine ⟨⟨fun n hn => ?_, fun d hd => ?_, ?_⟩, h.ris, ?_, h.pw, h.st, h.ob⟩
  · show (∀ q ∈ runC t.safe ((t.chs ++ [c]).take n), q.2 ∈ t.ids ∧ goodNm q.1 = true) ∧ (runC t.safe ((t.chs ++ [c]).take n)).length ≤ 16
    have hn : n ≤ (t.chs ++ [c]).length := hn
    rw [List.length_append, List.length_singleton] at hn
    by_cases e : n ≤ t.chs.length
    · rw [List.take_append_of_le_length e]
      exact h.wf.all n e
    · have e : n = t.chs.length + 1 := by omega
      rw [List.take_of_length_le (by rw [List.length_append, List.length_singleton]; omega), runC_snoc, ← h.run]
      exact ⟨h1, h2⟩
  · rcases List.mem_append.1 hd with hd | hd
    · exact h.wf.nm d hd
    · rw [List.mem_singleton.1 hd]
      exact h3
  · show (t.chs ++ [c]).length ≤ 1000
    rw [List.length_append, List.length_singleton]
    exact h4
  · show c.on t.seen = runC t.safe (t.chs ++ [c])
    rw [runC_snoc, ← h.run]
theorem goodNm_max {x : List UInt8} (h : goodNm x = true) : x.length ≤ maxLen := by have := (goodNm_len h).2; unfold maxLen; omega
theorem RInv.stepSync {t : DSt} (h : RInv t) (hs : t.strokes + 1 < 1000000) (x : List UInt8) : RInv (stepSync t x).2 := by
  unfold Go.Proofs.Ytejmbhckfdfoeaa.stepSync
  split
  · exact h
  · split
    · split
      · exact h.stroke hs
      · exact h.sync hs _
    · exact h
theorem RInv.stepDir {t : DSt} (h : RInv t) (hs : t.strokes + 1 < 1000000) : RInv (stepDir t).2 := by
  unfold Go.Proofs.Ytejmbhckfdfoeaa.stepDir
  split
  · exact h
  · exact h.dir hs
theorem RInv.stepRemove {t : DSt} (h : RInv t) (hs : t.strokes + 1 < 1000000) (hc : t.chs.length + 1 ≤ 1000) (x : List UInt8) : RInv (stepRemove t x).2 := by
  unfold Go.Proofs.Ytejmbhckfdfoeaa.stepRemove
  split
  · exact h
  · split
    · next hx =>
      split
      · exact h.stroke hs
      · refine (h.stroke hs).chg (fun q hq => h.seenAll.1 q (ldel_mem hq)) (Nat.le_trans (ldel_len _ _) h.seenAll.2) ⟨goodNm_max hx, ?_⟩ hc
        exact Nat.zero_le _
    · exact h
theorem RInv.stepRename {t : DSt} (h : RInv t) (hs : t.strokes + 1 < 1000000) (hc : t.chs.length + 1 ≤ 1000) (x b : List UInt8) : RInv (stepRename t x b).2 := by
  unfold Go.Proofs.Ytejmbhckfdfoeaa.stepRename
  split
  · exact h
  · split
    · next hx =>
      rw [Bool.and_eq_true] at hx
      split
      · exact h.stroke hs
      · next f hf =>
        refine (h.stroke hs).chg (fun q hq => ?_) ?_ ⟨goodNm_max hx.2, goodNm_max hx.1⟩ hc
        · rcases lput_mem hq with rfl | hq
          · exact ⟨(h.seenAll.1 _ (lget_mem hf)).1, hx.2⟩
          · exact h.seenAll.1 q (ldel_mem hq)
        · show (lput (ldel t.seen x) b f).length ≤ 16
          have h1 := ldel_length h.risSeen x
          have h2 := lput_length (h.risSeen.del x) b f
          have h3 := h.seenAll.2
          rw [hf] at h1
          simp at h1
          rw [h2]
          split <;> omega
    · exact h
theorem RInv.stepWrite {t : DSt} (h : RInv t) (hs : t.strokes + 1 < 1000000) (hc : t.chs.length + 1 ≤ 1000) (x : List UInt8) (xs : List Int) (f : Nat) : RInv (stepWrite t x xs f).2 := by
  unfold Go.Proofs.Ytejmbhckfdfoeaa.stepWrite
  split
  · exact h
  · split
    · next hx =>
      split
      · exact h.stroke hs
      · next hn =>
        refine ((h.stroke hs).add f xs []).chg (fun q hq => ?_) ?_ ⟨goodNm_max hx, Nat.zero_le _⟩ hc
        · rcases lput_mem hq with rfl | hq
          · exact ⟨List.mem_cons_self .., hx⟩
          · exact ⟨List.mem_cons_of_mem _ (h.seenAll.1 q hq).1, (h.seenAll.1 q hq).2⟩
        · show (lput t.seen x f).length ≤ 16
          have h3 := h.seenAll.2
          rw [lput_length h.risSeen x f]
          cases hg : lget t.seen x with
          | some g => simpa using h3
          | none =>
            have : t.seen.length ≠ 16 := fun e => hn ⟨hg, e⟩
            simp
            omega
    · exact h
end Go.Proofs.Ytejmbhckfdfoeaa
/-
  The program's SyncDir in one step.
-/
set_option linter.unusedVariables false
set_option linter.unusedSimpArgs false
namespace Go.Proofs.Ytejmbhckfdfoeaa
open Go.RowKit Go.Maps
set_option maxRecDepth 100000 in
set_option maxHeartbeats 4000000 in
theorem syncDir_dark {B : Nat} {w : World} {p bs bf : Nat} {cv : Value} {vs : List Value} {s : DSt} (h : DRepr B w p bs bf cv vs s) (hd : s.dead = true) :
    Calls Try.prog 23 #[.pointer (some ⟨p, 0, none⟩)] w fun e w' => e = .returned (.int .i64 6) ∧ w' = w := by
  have c5 := h.box.cell 5 rfl
  have HDD := Lib.hid hd
  clear h hd
  go_enter Try.func23, Try.ntmps23
  go_wp2_with fail
  refine (ask_any p s.dead true _ c5).mono ?_
  rintro e w' ⟨rfl, rfl⟩
  rw [HDD.out, show askI true true = 6 from rfl]
  clear c5
  go_wp2_with fail
  go_ret
  exact ⟨rfl, rfl⟩
theorem syncDir_any {B : Nat} {w : World} {p bs bf : Nat} {cv : Value} {vs : List Value} {s : DSt} (h : DRepr B w p bs bf cv vs s) (hst : s.strokes < 1000000) :
    Calls Try.prog 23 #[.pointer (some ⟨p, 0, none⟩)] w fun e w' => e = .returned (.int .i64 (stepDir s).1) ∧ (∃ bf' cv' vs', DRepr B w' p bs bf' cv' vs' (stepDir s).2) ∧ Step B w w' := by
  have hB : B ≤ w.heap.size := Nat.le_of_lt h.baseLt
  cases hd : s.dead with
  | true =>
    refine (syncDir_dark h hd).mono ?_
    rintro e w' ⟨rfl, rfl⟩
    rw [stepDir, if_pos hd]
    exact ⟨rfl, ⟨_, _, _, h⟩, Step.of_below (Below.refl _ _) hB⟩
  | false =>
    refine (syncDir_ok h hd hst).mono ?_
    rintro e w' ⟨rfl, hd', hs'⟩
    rw [stepDir, if_neg (by rw [hd]; decide)]
    exact ⟨rfl, hd', hs'⟩
set_option maxRecDepth 100000 in
set_option maxHeartbeats 4000000 in
theorem read_ref {w : World} {p : Nat} (dd : Bool) (x : List UInt8) (c5 : w.cell? ⟨p, 5, none⟩ = some (.bool dd)) (hx : x.length ≤ maxLen) (hq : dd = true ∨ goodNm x = false) :
    Calls Try.prog 15 #[.pointer (some ⟨p, 0, none⟩), .string ⟨x.toArray⟩] w fun e w' => e = .returned (.tuple #[.slice none 0 0, .int .i64 (askI dd (goodNm x))]) ∧ w' = w := by
  have HLx := Lib.hid hx
  obtain ⟨gx, hgx⟩ : ∃ gx, gx = goodNm x := ⟨_, rfl⟩
  rw [← hgx] at hq ⊢
  have HGx := Lib.hid hgx
  clear hgx hx
  cases dd <;> cases gx <;> simp only [Bool.true_eq_false, Bool.false_eq_true, or_false, or_true, false_or, or_self, true_or] at hq
  all_goals clear hq
  all_goals go_enter Try.func15, Try.ntmps15
  all_goals go_wp2_with fail
  all_goals (refine (diskGood_nm x _ HLx.out).mono ?_; rintro e w' ⟨rfl, rfl⟩; rw [← HGx.out]; go_wp2_with fail)
  all_goals (refine (ask_any p _ _ _ c5).mono ?_; rintro e w' ⟨rfl, rfl⟩)
  all_goals simp only [askI, Bool.and_true, Bool.and_false, Bool.true_and, Bool.false_and, cond_true, cond_false]
  all_goals go_wp2_with fail
  all_goals go_ret2
  all_goals exact ⟨rfl, rfl⟩
set_option maxRecDepth 100000 in
set_option maxHeartbeats 2000000 in
theorem read_own {B : Nat} {w : World} {p bs bf : Nat} {cv : Value} {vs : List Value} {s : DSt} (x : List UInt8) (f : Nat) (h : DRepr B w p bs bf cv vs s) (hx : goodNm x = true) (hd : s.dead = false) (hg : lget s.seen x = some f) :
    Calls Try.prog 15 #[.pointer (some ⟨p, 0, none⟩), .string ⟨x.toArray⟩] w fun e w' => (∃ v', e = .returned (.tuple #[v', .int .i64 0]) ∧ BOwn w.heap.size w' v' (s.by_ f)) ∧ Below w.heap.size w w' := by
  have hxl : x.length ≤ maxLen := by have := (goodNm_len hx).2; unfold maxLen; omega
  have c0 := h.box.cell 0 rfl
  have c5 := h.box.cell 5 rfl
  have hlk := h.seen.lookup x hxl
  rw [hg] at hlk
  obtain ⟨⟨vb, vs', hb, hbr, _⟩, _⟩ := h.files f (h.in1 _ (lget_mem hg))
  obtain ⟨ob, kb, rfl⟩ := rd_slice hbr.rd
  have cf := hb.cell 0 rfl
  have hl4 := hbr.len
  obtain ⟨xs, hxs⟩ : ∃ xs, xs = s.by_ f := ⟨_, rfl⟩
  rw [← hxs] at hbr cf hl4 ⊢
  have HBR := Lib.hid hbr
  have HX := Lib.hid hx
  have HXL := Lib.hid hxl
  have HDD := Lib.hid hd
  simp only [ptrV] at hlk
  clear h hx hd hg hb hbr hxs hxl
  go_enter Try.func15, Try.ntmps15
  go_wp2_with fail
  refine (diskGood_nm x _ HXL.out).mono ?_
  rintro e w' ⟨rfl, rfl⟩
  rw [HX.out]
  go_wp2_with fail
  refine (ask_any p s.dead true _ c5).mono ?_
  rintro e w' ⟨rfl, rfl⟩
  rw [HDD.out, show askI false true = 0 from rfl]
  go_wp2_with fail
  refine (clone_own _ xs _ HBR.out.rd hl4).mono ?_
  rintro e w4 ⟨v4, rfl, hbr, hb4⟩
  obtain ⟨o4, k4, rfl⟩ := rd_slice hbr.rd
  have H4 := Lib.hid hbr
  have HB4 := Lib.hid hb4
  clear hbr hb4 hlk c0 c5 cf
  go_wp2_with fail
  go_ret2
  exact ⟨⟨_, rfl, H4.out⟩, HB4.out⟩
theorem read_any {B : Nat} {w : World} {p bs bf : Nat} {cv : Value} {vs : List Value} {s : DSt} (x : List UInt8) (h : DRepr B w p bs bf cv vs s) (hx : x.length ≤ maxLen) :
    Calls Try.prog 15 #[.pointer (some ⟨p, 0, none⟩), .string ⟨x.toArray⟩] w fun e w' => (∃ v', e = .returned (.tuple #[v', .int .i64 (readR s x).2]) ∧ BOwn w.heap.size w' v' (readR s x).1) ∧ Below w.heap.size w w' := by
  have c5 := h.box.cell 5 rfl
  cases hd : s.dead with
  | true =>
    rw [hd] at c5
    refine (read_ref true x c5 hx (.inl rfl)).mono ?_
    rintro e w' ⟨rfl, rfl⟩
    rw [readR, if_pos hd]
    exact ⟨⟨_, by cases goodNm x <;> rfl, BOwn.nil _ _⟩, Below.refl _ _⟩
  | false =>
    have hnd : ¬ s.dead = true := by rw [hd]; decide
    cases hg : goodNm x with
    | false =>
      rw [hd] at c5
      refine (read_ref false x c5 hx (.inr hg)).mono ?_
      rintro e w' ⟨rfl, rfl⟩
      rw [readR, if_neg hnd, if_neg (by rw [hg]; decide), hg]
      exact ⟨⟨_, rfl, BOwn.nil _ _⟩, Below.refl _ _⟩
    | true =>
      cases hget : lget s.seen x with
      | none =>
        refine (read_no x h hg hd hget).mono ?_
        rintro e w' ⟨rfl, rfl⟩
        rw [readR, if_neg hnd, if_pos hg, hget]
        exact ⟨⟨_, rfl, BOwn.nil _ _⟩, Below.refl _ _⟩
      | some f =>
        refine (read_own x f h hg hd hget).mono ?_
        rintro e w' ⟨⟨v', rfl, hb⟩, hbl⟩
        rw [readR, if_neg hnd, if_pos hg, hget]
        exact ⟨⟨_, rfl, hb⟩, hbl⟩
end Go.Proofs.Ytejmbhckfdfoeaa
/-
  The program's List of a dead disk.
-/
set_option linter.unusedVariables false
set_option linter.unusedSimpArgs false
namespace Go.Proofs.Ytejmbhckfdfoeaa
open Go.RowKit Go.Maps
set_option maxRecDepth 100000 in
set_option maxHeartbeats 4000000 in
theorem list_dark {B : Nat} {w : World} {p bs bf : Nat} {cv : Value} {vs : List Value} {s : DSt} (h : DRepr B w p bs bf cv vs s) (hd : s.dead = true) :
    CallsIn Fence.wide 9 Try.prog 12 #[.pointer (some ⟨p, 0, none⟩)] w fun e w' => e = .returned (.tuple #[.slice none 0 0, .int .i64 6]) ∧ Below w.heap.size w w' := by
  have HDD := Lib.hid hd
  have c5 := h.box.cell 5 rfl
  clear h hd
  refine callsIn_of_wp_marks Try.func12 rfl trivial ?_ rfl
  simp only [Try.ntmps12, List.size_toArray, List.length_cons, List.length_nil, Nat.reduceAdd, Nat.reduceSub, Array.replicate_succ, Array.replicate_zero, List.push_toArray, List.append_toArray, List.nil_append, List.cons_append]
  refine wpIn_wide.2 ?_
  go_wp2_with fail
  refine (ask_any p s.dead true _ c5).mono ?_
  rintro e w' ⟨rfl, rfl⟩
  rw [HDD.out, show askI true true = 6 from rfl]
  clear c5
  go_wp2_with fail
  refine ⟨.tuple #[.slice none 0 0, .int .i64 6], by simp [results, Try.results12, go_sem], ?_⟩
  exact ⟨rfl, Below.refl _ _⟩
end Go.Proofs.Ytejmbhckfdfoeaa
