/-
  BOTH DISKS in one world, alike; each call on the one and then on the other answers the same, and they are alike again.
-/
import Derived.Deep.LoopGhost
import Derived.Test.YtejmbhckfdfoeaaEM13
import Derived.Test.YtejmbhckfdfoeaaEM14
import Derived.Test.YtejmbhckfdfoeaaEM15
import Derived.Test.YtejmbhckfdfoeaaEM16
import Derived.Test.YtejmbhckfdfoeaaEM07
set_option linter.unusedVariables false
set_option linter.unusedSimpArgs false
namespace Go.Proofs.Ytejmbhckfdfoeaa
open Go.RowKit Go.Maps
/-- calls that make no file -/
inductive Cl where
  | sync (x : List UInt8)
  | remove (x : List UInt8)
  | rename (x b : List UInt8)
  | dir
def Cl.step : Cl → DSt → Int × DSt
  | .sync x, s => stepSync s x
  | .remove x, s => stepRemove s x
  | .rename x b, s => stepRename s x b
  | .dir, s => stepDir s
theorem Cl.corr (c : Cl) {φ : Nat → Nat} {s t : DSt} (h : Corr φ s t) (hi : InIds s) : (c.step t).1 = (c.step s).1 ∧ Corr φ (c.step s).2 (c.step t).2 := by
  cases c with
  | sync x => exact corr_sync h hi.seen x
  | remove x => exact corr_remove h x
  | rename x b => exact corr_rename h x b
  | dir => exact corr_dir h
theorem Cl.inIds (c : Cl) {s : DSt} (h : InIds s) : InIds (c.step s).2 := by
  cases c with
  | sync x => exact h.stepSync x
  | remove x => exact h.stepRemove x
  | rename x b => exact h.stepRename x b
  | dir => exact h.stepDir
theorem Cl.rinv (c : Cl) {t : DSt} (h : RInv t) (hs : t.strokes + 1 < 1000000) (hc : t.chs.length + 1 ≤ 1000) : RInv (c.step t).2 := by
  cases c with
  | sync x => exact h.stepSync hs x
  | remove x => exact h.stepRemove hs hc x
  | rename x b => exact h.stepRename hs hc x b
  | dir => exact h.stepDir hs
theorem strokeS_st (s : DSt) : (strokeS s).strokes = s.strokes + 1 ∧ (strokeS s).chs = s.chs := ⟨rfl, rfl⟩
theorem stepSync_more (s : DSt) (x : List UInt8) : (stepSync s x).2.strokes ≤ s.strokes + 1 ∧ (stepSync s x).2.chs.length ≤ s.chs.length + 1 := by
  unfold stepSync
  split
  · exact ⟨by show s.strokes ≤ _; omega, by show s.chs.length ≤ _; omega⟩
  · split
    · split
      · exact ⟨Int.le_refl _, Nat.le_succ _⟩
      · unfold syncS
        cases offB s <;> exact ⟨Int.le_refl _, Nat.le_succ _⟩
    · exact ⟨by show s.strokes ≤ _; omega, by show s.chs.length ≤ _; omega⟩
theorem stepRemove_more (s : DSt) (x : List UInt8) : (stepRemove s x).2.strokes ≤ s.strokes + 1 ∧ (stepRemove s x).2.chs.length ≤ s.chs.length + 1 := by
  unfold stepRemove
  split
  · exact ⟨by show s.strokes ≤ _; omega, by show s.chs.length ≤ _; omega⟩
  · split
    · split
      · exact ⟨Int.le_refl _, Nat.le_succ _⟩
      · exact ⟨Int.le_refl _, by simp [chgS, strokeS]⟩
    · exact ⟨by show s.strokes ≤ _; omega, by show s.chs.length ≤ _; omega⟩
theorem stepRename_more (s : DSt) (x b : List UInt8) : (stepRename s x b).2.strokes ≤ s.strokes + 1 ∧ (stepRename s x b).2.chs.length ≤ s.chs.length + 1 := by
  unfold stepRename
  split
  · exact ⟨by show s.strokes ≤ _; omega, by show s.chs.length ≤ _; omega⟩
  · split
    · split
      · exact ⟨Int.le_refl _, Nat.le_succ _⟩
      · exact ⟨Int.le_refl _, by simp [chgS, strokeS]⟩
    · exact ⟨by show s.strokes ≤ _; omega, by show s.chs.length ≤ _; omega⟩
theorem stepDir_more (s : DSt) : (stepDir s).2.strokes ≤ s.strokes + 1 ∧ (stepDir s).2.chs.length ≤ s.chs.length + 1 := by
  unfold stepDir
  split
  · exact ⟨by show s.strokes ≤ _; omega, by show s.chs.length ≤ _; omega⟩
  · unfold syncDirS
    cases offB s
    · exact ⟨Int.le_refl _, Nat.zero_le _⟩
    · exact ⟨Int.le_refl _, Nat.le_succ _⟩
theorem Cl.more (c : Cl) (s : DSt) : (c.step s).2.strokes ≤ s.strokes + 1 ∧ (c.step s).2.chs.length ≤ s.chs.length + 1 := by
  cases c with
  | sync x => exact stepSync_more s x
  | remove x => exact stepRemove_more s x
  | rename x b => exact stepRename_more s x b
  | dir => exact stepDir_more s
theorem stepWrite_more (s : DSt) (x : List UInt8) (xs : List Int) (f : Nat) : (stepWrite s x xs f).2.strokes ≤ s.strokes + 1 ∧ (stepWrite s x xs f).2.chs.length ≤ s.chs.length + 1 := by
  unfold stepWrite
  split
  · exact ⟨by show s.strokes ≤ _; omega, by show s.chs.length ≤ _; omega⟩
  · split
    · split
      · exact ⟨Int.le_refl _, Nat.le_succ _⟩
      · exact ⟨Int.le_refl _, by simp [writeS, chgS, addS, strokeS]⟩
    · exact ⟨by show s.strokes ≤ _; omega, by show s.chs.length ≤ _; omega⟩
theorem runC_in {ids : List Nat} : ∀ (cs : List Chg) (l : NM), (∀ q ∈ l, q.2 ∈ ids) → (∀ c ∈ cs, ∀ g, chgFile c = some g → g ∈ ids) → ∀ q ∈ runC l cs, q.2 ∈ ids
  | [], l, hl, _, q, hq => hl q hq
  | c :: r, l, hl, hc, q, hq => by
    refine runC_in r (c.on l) (fun q hq => ?_) (fun d hd => hc d (List.mem_cons_of_mem _ hd)) q hq
    have hc' := hc c (List.mem_cons_self ..)
    cases c with
    | put x f =>
      rcases lput_mem hq with rfl | hq
      · exact hc' f rfl
      · exact hl q hq
    | mv a b f =>
      rcases lput_mem hq with rfl | hq
      · exact hc' f rfl
      · exact hl q (ldel_mem hq)
    | del x => exact hl q (ldel_mem hq)
theorem InIds.run {s : DSt} (h : InIds s) (n : Nat) : ∀ q ∈ runC s.safe (s.chs.take n), q.2 ∈ s.ids :=
  runC_in _ _ h.safe fun c hc => h.chs c (List.mem_of_mem_take hc)
theorem Corr.run {φ : Nat → Nat} {s t : DSt} (h : Corr φ s t) (n : Nat) : runC t.safe (t.chs.take n) = (runC s.safe (s.chs.take n)).map (mp φ) := by
  rw [h.safe, h.chs, ← List.map_take, runC_mp]
/-- both disks, alike, after so many calls -/
structure TwoD (B p r k : Nat) (W : World) (φ : Nat → Nat) (s t : DSt) (bs bf : Nat) (cv : Value) (vs : List Value) (vl vr : Value) : Prop where
  d : DRepr B W p bs bf cv vs s
  r : RRepr B W r vl vr t
  c : Corr φ s t
  i : InIds s
  v : RInv t
  st : s.strokes ≤ k
  ch : s.chs.length ≤ k
/-- between two calls -/
structure Two (w0 : World) (scs : Array Value) (B p r k : Nat) (W : World) : Prop where
  two : ∃ φ s t bs bf cv vs vl vr, TwoD B p r k W φ s t bs bf cv vs vl vr
  s : Box W w0.heap.size 25 scs
  b : Below w0.heap.size w0 W
  hB : w0.heap.size < B
theorem Two.base {w0 : World} {scs : Array Value} {B p r k : Nat} {W : World} (h : Two w0 scs B p r k W) : B ≤ W.heap.size := by
  obtain ⟨φ, s, t, bs, bf, cv, vs, vl, vr, h⟩ := h.two
  exact Nat.le_of_lt h.d.baseLt
theorem TwoD.next {B p r k : Nat} {W W' : World} {φ : Nat → Nat} {s t : DSt} {bs bf : Nat} {cv : Value} {vs : List Value} {vl vr : Value} (h : TwoD B p r k W φ s t bs bf cv vs vl vr) (hb : Below W.heap.size W W') : TwoD B p r k W' φ s t bs bf cv vs vl vr :=
  ⟨h.d.next hb (Nat.le_of_lt h.d.baseLt), h.r.next hb, h.c, h.i, h.v, h.st, h.ch⟩
theorem Two.next {w0 : World} {scs : Array Value} {B p r k : Nat} {W W' : World} (h : Two w0 scs B p r k W) (hb : Below W.heap.size W W') : Two w0 scs B p r k W' := by
  obtain ⟨φ, s, t, bs, bf, cv, vs, vl, vr, h2⟩ := h.two
  exact ⟨⟨φ, s, t, bs, bf, cv, vs, vl, vr, h2.next hb⟩, h.s.next hb, h.b.trans (hb.mono h.b.size), h.hB⟩
theorem Two.more {w0 : World} {scs : Array Value} {B p r k m : Nat} {W : World} (h : Two w0 scs B p r k W) (hm : k ≤ m) : Two w0 scs B p r m W := by
  obtain ⟨φ, s, t, bs, bf, cv, vs, vl, vr, h2⟩ := h.two
  exact ⟨⟨φ, s, t, bs, bf, cv, vs, vl, vr, h2.d, h2.r, h2.c, h2.i, h2.v, by have := h2.st; omega, Nat.le_trans h2.ch hm⟩, h.s, h.b, h.hB⟩
/-- the program's disk is one call ahead: it answered v -/
structure Ahead (st : DSt → Int × DSt → Prop) (w0 : World) (scs : Array Value) (B p r k : Nat) (v : Int) (W : World) : Prop where
  two : ∃ φ s t u bs bf cv vs vl vr, DRepr B W p bs bf cv vs u ∧ st s (v, u) ∧ RRepr B W r vl vr t ∧ Corr φ s t ∧ InIds s ∧ RInv t ∧ s.strokes ≤ k ∧ s.chs.length ≤ k
  s : Box W w0.heap.size 25 scs
  b : Below w0.heap.size w0 W
  hB : w0.heap.size < B
theorem Ahead.base {st : DSt → Int × DSt → Prop} {w0 : World} {scs : Array Value} {B p r k : Nat} {v : Int} {W : World} (h : Ahead st w0 scs B p r k v W) : B ≤ W.heap.size := by
  obtain ⟨φ, s, t, u, bs, bf, cv, vs, vl, vr, h, _⟩ := h.two
  exact Nat.le_of_lt h.baseLt
theorem Ahead.next {st : DSt → Int × DSt → Prop} {w0 : World} {scs : Array Value} {B p r k : Nat} {v : Int} {W W' : World} (h : Ahead st w0 scs B p r k v W) (hb : Below W.heap.size W W') : Ahead st w0 scs B p r k v W' := by
  obtain ⟨φ, s, t, u, bs, bf, cv, vs, vl, vr, h1, h2, h3, h4⟩ := h.two
  exact ⟨⟨φ, s, t, u, bs, bf, cv, vs, vl, vr, h1.next hb (Nat.le_of_lt h1.baseLt), h2, h3.next hb, h4⟩, h.s.next hb, h.b.trans (hb.mono h.b.size), h.hB⟩
def Cl.To (c : Cl) (s : DSt) (u : Int × DSt) : Prop := u = c.step s
def WriteTo (x : List UInt8) (xs : List Int) (s : DSt) (u : Int × DSt) : Prop := ∃ f, f ∉ s.ids ∧ u = stepWrite s x xs f
theorem Two.ahead {st : DSt → Int × DSt → Prop} {w0 : World} {scs : Array Value} {B p r k : Nat} {W W' : World} (h : Two w0 scs B p r k W) {φ : Nat → Nat} {s t u : DSt} {bs bf : Nat} {cv : Value} {vs : List Value} {vl vr : Value} (h2 : TwoD B p r k W φ s t bs bf cv vs vl vr) {bs' bf' : Nat} {cv' : Value} {vs' : List Value} {v : Int}
    (hd : DRepr B W' p bs' bf' cv' vs' u) (hst : st s (v, u)) (hs : Step B W W') : Ahead st w0 scs B p r k v W' :=
  ⟨⟨φ, s, t, u, bs', bf', cv', vs', vl, vr, hd, hst, h2.r.stepD hs, h2.c, h2.i, h2.v, h2.st, h2.ch⟩, h.s.below hs.below h.hB, h.b.trans (hs.below.mono (Nat.le_of_lt h.hB)), h.hB⟩
theorem sync_two {w0 : World} {scs : Array Value} {B p r k : Nat} {W : World} (h : Two w0 scs B p r k W) (hk : k < 900) (x : List UInt8) (hx : x.length ≤ maxLen) :
    Calls Try.prog 22 #[.pointer (some ⟨p, 0, none⟩), .string ⟨x.toArray⟩] W fun e w' => ∃ v, e = .returned (.int .i64 v) ∧ Ahead (Cl.sync x).To w0 scs B p r k v w' ∧ Step B W w' := by
  obtain ⟨φ, s, t, bs, bf, cv, vs, vl, vr, h2⟩ := h.two
  refine (sync_any x h2.d hx (by have := h2.st; omega)).mono ?_
  rintro e w' ⟨rfl, hd, hs⟩
  exact ⟨_, rfl, h.ahead h2 hd rfl hs, hs⟩
theorem remove_two {w0 : World} {scs : Array Value} {B p r k : Nat} {W : World} (h : Two w0 scs B p r k W) (hk : k < 900) (x : List UInt8) (hx : x.length ≤ maxLen) :
    Calls Try.prog 20 #[.pointer (some ⟨p, 0, none⟩), .string ⟨x.toArray⟩] W fun e w' => ∃ v, e = .returned (.int .i64 v) ∧ Ahead (Cl.remove x).To w0 scs B p r k v w' ∧ Step B W w' := by
  obtain ⟨φ, s, t, bs, bf, cv, vs, vl, vr, h2⟩ := h.two
  refine (remove_any x h2.d hx (by have := h2.st; omega) (by have := h2.ch; omega)).mono ?_
  rintro e w' ⟨rfl, ⟨cv', vs', hd⟩, hs⟩
  exact ⟨_, rfl, h.ahead h2 hd rfl hs, hs⟩
theorem TwoD.many {B p r k : Nat} {W : World} {φ : Nat → Nat} {s t : DSt} {bs bf : Nat} {cv : Value} {vs : List Value} {vl vr : Value} (h : TwoD B p r k W φ s t bs bf cv vs vl vr) : s.seen.length ≤ 16 := by
  have := h.v.seenAll.2
  rw [h.c.seen, List.length_map] at this
  exact this
theorem rename_two {w0 : World} {scs : Array Value} {B p r k : Nat} {W : World} (h : Two w0 scs B p r k W) (hk : k < 900) (x b : List UInt8) (hx : x.length ≤ maxLen) (hb : b.length ≤ maxLen) :
    Calls Try.prog 17 #[.pointer (some ⟨p, 0, none⟩), .string ⟨x.toArray⟩, .string ⟨b.toArray⟩] W fun e w' => ∃ v, e = .returned (.int .i64 v) ∧ Ahead (Cl.rename x b).To w0 scs B p r k v w' ∧ Step B W w' := by
  obtain ⟨φ, s, t, bs, bf, cv, vs, vl, vr, h2⟩ := h.two
  refine (rename_any x b h2.d hx hb (by have := h2.st; omega) (by have := h2.ch; omega) (by have := h2.many; omega)).mono ?_
  rintro e w' ⟨rfl, ⟨cv', vs', hd⟩, hs⟩
  exact ⟨_, rfl, h.ahead h2 hd rfl hs, hs⟩
theorem dir_two {w0 : World} {scs : Array Value} {B p r k : Nat} {W : World} (h : Two w0 scs B p r k W) (hk : k < 900) :
    Calls Try.prog 23 #[.pointer (some ⟨p, 0, none⟩)] W fun e w' => ∃ v, e = .returned (.int .i64 v) ∧ Ahead Cl.dir.To w0 scs B p r k v w' ∧ Step B W w' := by
  obtain ⟨φ, s, t, bs, bf, cv, vs, vl, vr, h2⟩ := h.two
  refine (syncDir_any h2.d (by have := h2.st; omega)).mono ?_
  rintro e w' ⟨rfl, ⟨bf', cv', vs', hd⟩, hs⟩
  exact ⟨_, rfl, h.ahead h2 hd rfl hs, hs⟩
theorem write_two {w0 : World} {scs : Array Value} {B p r k : Nat} {W : World} (h : Two w0 scs B p r k W) (hk : k < 900) (x : List UInt8) (hx : x.length ≤ maxLen) (v : Value) (xs : List Int) (hv : BytesRep 0 W v xs) :
    Calls Try.prog 13 #[.pointer (some ⟨p, 0, none⟩), .string ⟨x.toArray⟩, v] W fun e w' => ∃ v, e = .returned (.int .i64 v) ∧ Ahead (WriteTo x xs) w0 scs B p r k v w' ∧ Step B W w' := by
  obtain ⟨φ, s, t, bs, bf, cv, vs, vl, vr, h2⟩ := h.two
  refine (write_any x v xs h2.d hx hv (by have := h2.st; omega) (by have := h2.ch; omega) (by have := h2.many; omega)).mono ?_
  rintro e w' ⟨f, hf, rfl, ⟨cv', vs', hd⟩, hs⟩
  exact ⟨_, rfl, h.ahead h2 hd ⟨f, fun hm => by have := h2.d.idLt hm; omega, rfl⟩ hs, hs⟩
/-- the reference's call catches up -/
theorem Ahead.caught {st : DSt → Int × DSt → Prop} {w0 : World} {scs : Array Value} {B p r k : Nat} {v : Int} {W W' : World} (h : Ahead st w0 scs B p r k v W) {ψ : Nat → Nat} {s u t' : DSt} {bs bf : Nat} {cv : Value} {vs : List Value} {vl' vr' : Value} (hd : DRepr B W p bs bf cv vs u) (hr : RRepr B W' r vl' vr' t') (hs : StepR B W W') (hc : Corr ψ u t') (hi : InIds u) (hv : RInv t') (h1 : u.strokes ≤ s.strokes + 1) (h2 : u.chs.length ≤ s.chs.length + 1) (h3 : s.strokes ≤ k) (h4 : s.chs.length ≤ k) : Two w0 scs B p r (k + 1) W' :=
  ⟨⟨ψ, u, t', bs, bf, cv, vs, vl', vr', hd.stepR hs, hr, hc, hi, hv, by omega, by omega⟩, h.s.below hs.below h.hB, h.b.trans (hs.below.mono (Nat.le_of_lt h.hB)), h.hB⟩
theorem Cl.caught (c : Cl) {w0 : World} {scs : Array Value} {B p r k : Nat} {v : Int} {W : World} (h : Ahead c.To w0 scs B p r k v W) (hk : k < 900) {f : FuncId} {args : Array Value}
    (hcall : ∀ {vl vr : Value} {t : DSt}, RRepr B W r vl vr t → RInv t → Calls Try.prog f args W fun e w' => e = .returned (.int .i64 (c.step t).1) ∧ (∃ vl' vr', RRepr B w' r vl' vr' (c.step t).2) ∧ StepR B W w') :
    Calls Try.prog f args W fun e w' => e = .returned (.int .i64 v) ∧ Two w0 scs B p r (k + 1) w' ∧ StepR B W w' := by
  obtain ⟨φ, s, t, u, bs, bf, cv, vs, vl, vr, h1, h2, h3, h4, h5, h6, h7, h8⟩ := h.two
  refine (hcall h3 h6).mono ?_
  rintro e w' ⟨rfl, ⟨vl', vr', hr⟩, hs⟩
  obtain ⟨e1, e2⟩ := c.corr h4 h5
  have hu : (v, u) = c.step s := h2
  have hu1 : v = (c.step s).1 := congrArg Prod.fst hu
  have hu2 : u = (c.step s).2 := congrArg Prod.snd hu
  subst hu1 hu2
  refine ⟨by rw [e1], h.caught h1 hr hs e2 (c.inIds h5) (c.rinv h6 ?_ ?_) (c.more s).1 (c.more s).2 h7 h8, hs⟩
  · rw [h4.strokes]; omega
  · rw [h4.chs, List.length_map]; omega
theorem rsync_two {w0 : World} {scs : Array Value} {B p r k : Nat} {v : Int} {W : World} (x : List UInt8) (hx : x.length ≤ maxLen) (h : Ahead (Cl.sync x).To w0 scs B p r k v W) (hk : k < 900) :
    Calls Try.prog 49 #[.pointer (some ⟨r, 0, none⟩), .string ⟨x.toArray⟩] W fun e w' => e = .returned (.int .i64 v) ∧ Two w0 scs B p r (k + 1) w' ∧ StepR B W w' :=
  (Cl.sync x).caught h hk fun hr hi => rsync_any hr hi x hx
theorem rremove_two {w0 : World} {scs : Array Value} {B p r k : Nat} {v : Int} {W : World} (x : List UInt8) (hx : x.length ≤ maxLen) (h : Ahead (Cl.remove x).To w0 scs B p r k v W) (hk : k < 900) :
    Calls Try.prog 51 #[.pointer (some ⟨r, 0, none⟩), .string ⟨x.toArray⟩] W fun e w' => e = .returned (.int .i64 v) ∧ Two w0 scs B p r (k + 1) w' ∧ StepR B W w' :=
  (Cl.remove x).caught h hk fun hr hi => rremove_any hr hi x hx
theorem rrename_two {w0 : World} {scs : Array Value} {B p r k : Nat} {v : Int} {W : World} (x b : List UInt8) (hx : x.length ≤ maxLen) (hb : b.length ≤ maxLen) (h : Ahead (Cl.rename x b).To w0 scs B p r k v W) (hk : k < 900) :
    Calls Try.prog 50 #[.pointer (some ⟨r, 0, none⟩), .string ⟨x.toArray⟩, .string ⟨b.toArray⟩] W fun e w' => e = .returned (.int .i64 v) ∧ Two w0 scs B p r (k + 1) w' ∧ StepR B W w' :=
  (Cl.rename x b).caught h hk fun hr hi => rrename_any hr hi x b hx hb
theorem rdir_two {w0 : World} {scs : Array Value} {B p r k : Nat} {v : Int} {W : World} (h : Ahead Cl.dir.To w0 scs B p r k v W) (hk : k < 900) :
    Calls Try.prog 52 #[.pointer (some ⟨r, 0, none⟩)] W fun e w' => e = .returned (.int .i64 v) ∧ Two w0 scs B p r (k + 1) w' ∧ StepR B W w' :=
  Cl.dir.caught h hk fun hr hi => rsyncDir_any hr hi
theorem rwrite_two {w0 : World} {scs : Array Value} {B p r k : Nat} {v : Int} {W : World} (x : List UInt8) (hx : x.length ≤ maxLen) (va : Value) (xs : List Int) (hv : Rd w0 .u8 va xs) (hxl : xs.length ≤ 4194304) (h : Ahead (WriteTo x xs) w0 scs B p r k v W) (hk : k < 900) :
    Calls Try.prog 48 #[.pointer (some ⟨r, 0, none⟩), .string ⟨x.toArray⟩, va] W fun e w' => e = .returned (.int .i64 v) ∧ Two w0 scs B p r (k + 1) w' ∧ StepR B W w' := by
  obtain ⟨φ, s, t, u, bs, bf, cv, vs, vl, vr, h1, ⟨f, hf, hu⟩, h3, h4, h5, h6, h7, h8⟩ := h.two
  refine (rwrite_any h3 h6 x hx va xs (fun w' hs => hv.below (h.b.trans (hs.below.mono (Nat.le_of_lt h.hB))) (Nat.le_refl _)) hxl).mono ?_
  rintro e w' ⟨f', hf', rfl, ⟨vl', vr', hr⟩, hs⟩
  obtain ⟨e1, ψ, e2⟩ := corr_write h4 h5 x xs hf (show f' ∉ t.ids from fun hm => by have := h3.idLt hm; omega)
  have hu1 : v = (stepWrite s x xs f).1 := congrArg Prod.fst hu
  have hu2 : u = (stepWrite s x xs f).2 := congrArg Prod.snd hu
  subst hu1 hu2
  refine ⟨by rw [e1], h.caught h1 hr hs e2 (h5.stepWrite x xs f) (h6.stepWrite ?_ ?_ x xs f') (stepWrite_more s x xs f).1 (stepWrite_more s x xs f).2 h7 h8, hs⟩
  · rw [h4.strokes]; omega
  · rw [h4.chs, List.length_map]; omega
end Go.Proofs.Ytejmbhckfdfoeaa
/-
  Both disks: List, Crash, Strokes.
-/
set_option linter.unusedVariables false
set_option linter.unusedSimpArgs false
namespace Go.Proofs.Ytejmbhckfdfoeaa
open Go.RowKit Go.Maps
def listErr (s : DSt) : Int := bif s.dead then 6 else 0
def listFs (s : DSt) : List FileD := bif s.dead then [] else s.seen.map (fdOf s)
theorem list_all {B : Nat} {w : World} {p bs bf : Nat} {cv : Value} {vs : List Value} {s : DSt} (h : DRepr B w p bs bf cv vs s) :
    CallsIn Fence.wide 9 Try.prog 12 #[.pointer (some ⟨p, 0, none⟩)] w fun e w' => (∃ v ps, e = .returned (.tuple #[v, .int .i64 (listErr s)]) ∧ FOwn w' w.heap.size v ps ∧ ps.map (·.1) = listFs s) ∧ Below w.heap.size w w' := by
  cases hd : s.dead with
  | true =>
    refine (list_dark h hd).mono ?_
    rintro e w' ⟨rfl, hb⟩
    exact ⟨⟨_, [], by rw [listErr, hd]; rfl, FOwn.nil _ _, by rw [listFs, hd]; rfl⟩, hb⟩
  | false =>
    refine (list_in h hd).mono ?_
    rintro e w' ⟨⟨v, ps, rfl, h1, h2⟩, hb⟩
    exact ⟨⟨v, ps, by rw [listErr, hd]; rfl, h1, by rw [listFs, hd]; exact h2⟩, hb⟩
set_option maxHeartbeats 1000000 in
theorem rlist_dark {B : Nat} {w : World} {r : Nat} {vl vr : Value} {t : DSt} (h : RRepr B w r vl vr t) (hd : t.dead = true) :
    Calls Try.prog 54 #[.pointer (some ⟨r, 0, none⟩)] w fun e w' => e = .returned (.tuple #[.slice none 0 0, .int .i64 6]) ∧ Below w.heap.size w w' := by
  have c4 := h.box.cell 4 rfl
  rw [hd] at c4
  clear h hd
  go_enter Try.func54, Try.ntmps54
  go_wp2_with fail
  go_ret2
  exact ⟨rfl, Below.refl _ _⟩
theorem rlist_all {B : Nat} {w : World} {r : Nat} {vl vr : Value} {t : DSt} (h : RRepr B w r vl vr t) (hi : RInv t) :
    Calls Try.prog 54 #[.pointer (some ⟨r, 0, none⟩)] w fun e w' => (∃ v ps, e = .returned (.tuple #[v, .int .i64 (listErr t)]) ∧ FOwn w' w.heap.size v ps ∧ ps.map (·.1) = listFs t) ∧ Below w.heap.size w w' := by
  cases hd : t.dead with
  | true =>
    refine (rlist_dark h hd).mono ?_
    rintro e w' ⟨rfl, hb⟩
    exact ⟨⟨_, [], by rw [listErr, hd]; rfl, FOwn.nil _ _, by rw [listFs, hd]; rfl⟩, hb⟩
  | false =>
    refine (rlistR_any h hi hd).mono ?_
    rintro e w' ⟨⟨v, ps, rfl, h1, h2⟩, hb⟩
    exact ⟨⟨v, ps, by rw [listErr, hd]; rfl, h1, by rw [listFs, hd]; exact h2⟩, hb⟩
theorem corr_listE {φ : Nat → Nat} {s t : DSt} (h : Corr φ s t) : listErr t = listErr s := by unfold listErr; rw [h.dead]
theorem corr_listF {φ : Nat → Nat} {s t : DSt} (h : Corr φ s t) (hi : InIds s) : listFs t = listFs s := by
  unfold listFs
  rw [h.dead, corr_list h hi]
theorem TwoD.left {B p r k : Nat} {W : World} {φ : Nat → Nat} {s t : DSt} {bs bf : Nat} {cv : Value} {vs : List Value} {vl vr : Value} (h : TwoD B p r k W φ s t bs bf cv vs vl vr) (pk : List Int) : ∀ q ∈ crashLeft s pk, q.2 ∈ s.ids ∧ q.1.length ≤ maxLen := fun q hq => by
  refine ⟨h.i.run _ q hq, ?_⟩
  have h1 := h.v.wf.all (crashN s pk) (by rw [h.c.chs, List.length_map]; exact crashN_le s pk)
  rw [h.c.run] at h1
  have h2 := (h1.1 (mp φ q) (List.mem_map.2 ⟨q, hq, rfl⟩)).2
  exact goodNm_max h2
theorem TwoD.lens {B p r k : Nat} {W : World} {φ : Nat → Nat} {s t : DSt} {bs bf : Nat} {cv : Value} {vs : List Value} {vl vr : Value} (h : TwoD B p r k W φ s t bs bf cv vs vl vr) (pk : List Int) : ∀ n, n ≤ crashN s pk → (runC s.safe (s.chs.take n)).length ≤ 16 := fun n hn => by
  have h1 := (h.v.wf.all n (by rw [h.c.chs, List.length_map]; exact Nat.le_trans hn (crashN_le s pk))).2
  rw [h.c.run, List.length_map] at h1
  exact h1
theorem crash_two {B p r k : Nat} {W : World} {φ : Nat → Nat} {s t : DSt} {bs bf : Nat} {cv : Value} {vs : List Value} {vl vr : Value} (h : TwoD B p r k W φ s t bs bf cv vs vl vr) (op : Option Addr) (cp : Nat) (pk : List Int) (hp : Rd W .i64 (.slice op pk.length cp) pk) (hpc : pk.length ≤ cp ∧ cp ≤ 9223372036854775807) :
    Calls Try.prog 24 #[.pointer (some ⟨p, 0, none⟩), .slice op pk.length cp] W fun e w' => (∃ v ps, e = .returned v ∧ FOwn w' W.heap.size v ps ∧ ps.map (·.1) = crashR s pk) ∧ Below W.heap.size W w' :=
  callsIn_wide.1 (crash_in op cp pk h.d hp hpc (h.left pk) (fun n hn => by have := h.lens pk n hn; omega))
theorem rcrash_two {B p r k : Nat} {W : World} {φ : Nat → Nat} {s t : DSt} {bs bf : Nat} {cv : Value} {vs : List Value} {vl vr : Value} (h : TwoD B p r k W φ s t bs bf cv vs vl vr) (op : Option Addr) (cp : Nat) (pk : List Int) (hp : Rd W .i64 (.slice op pk.length cp) pk) (hpl : pk.length ≤ 1000000) :
    Calls Try.prog 55 #[.pointer (some ⟨r, 0, none⟩), .slice op pk.length cp] W fun e w' => (∃ v ps, e = .returned v ∧ FOwn w' W.heap.size v ps ∧ ps.map (·.1) = crashR s pk) ∧ Below W.heap.size W w' := by
  rw [← corr_crash h.c pk (fun q hq => (h.left pk q hq).1)]
  exact rcrash_any h.r h.v op cp pk hp hpl
theorem crash_small {B p r k : Nat} {W : World} {φ : Nat → Nat} {s t : DSt} {bs bf : Nat} {cv : Value} {vs : List Value} {vl vr : Value} (h : TwoD B p r k W φ s t bs bf cv vs vl vr) (pk : List Int) : (crashR s pk).length ≤ 16 := by
  rw [crashR, crashOf_len]
  exact h.lens pk _ (Nat.le_refl _)
set_option maxHeartbeats 1000000 in
theorem strokes_any {B : Nat} {w : World} {p bs bf : Nat} {cv : Value} {vs : List Value} {s : DSt} (h : DRepr B w p bs bf cv vs s) :
    Calls Try.prog 29 #[.pointer (some ⟨p, 0, none⟩)] w fun e w' => e = .returned (.int .i64 s.strokes) ∧ w = w' := by
  have c3 := h.box.cell 3 rfl
  clear h
  go_enter Try.func29, Try.ntmps29
  go_wp2_with fail
  go_ret
  exact ⟨rfl, rfl⟩
set_option maxHeartbeats 1000000 in
theorem rstrokes_any {B : Nat} {w : World} {r : Nat} {vl vr : Value} {t : DSt} (h : RRepr B w r vl vr t) :
    Calls Try.prog 30 #[.pointer (some ⟨r, 0, none⟩)] w fun e w' => e = .returned (.int .i64 t.strokes) ∧ w = w' := by
  have c2 := h.box.cell 2 rfl
  clear h
  go_enter Try.func30, Try.ntmps30
  go_wp2_with fail
  go_ret
  exact ⟨rfl, rfl⟩
end Go.Proofs.Ytejmbhckfdfoeaa
/-
  ANSWERS WRITTEN OVER: the law's Bytes and Files; they turn nothing but the answer.
-/
set_option linter.unusedVariables false
set_option linter.unusedSimpArgs false
namespace Go.Proofs.Ytejmbhckfdfoeaa
open Go.RowKit Go.Maps
theorem grownR_refl (w : World) (r : Option Nat) : w.grownBy w r := ⟨rfl, rfl, rfl, Nat.le_refl _, fun _ _ _ => rfl⟩
theorem grownR_alloc (w : World) (o : Obj) (r : Option Nat) : w.grownBy (w.alloc o) r := ⟨rfl, rfl, rfl, by simp, fun k hk _ => Below.heap_alloc _ _ _ hk⟩
theorem grownR_set {w w' : World} {r : Option Nat} {g k : Nat} {u : Value} (h : w.grownBy w' r) (hr : r = some g) : w.grownBy (w'.setCell ⟨g, k, none⟩ u) r :=
  ⟨h.os, h.tape, h.output, by simpa [World.setCell] using h.size, fun i hi hne => (Below.heap_setCell _ _ _ _ (fun e => hne (by rw [hr]; simp at e; rw [e]))).trans (h.block i hi hne)⟩
theorem ownR_grown {w w' : World} {B : Nat} {e : TypeId} {s n : Nat} {v u : Value} {xs : List Value} (h : w.ownsRow B e s u n xs) (hg : w.grownBy w' v.ownBlock) (hs : Sep v u) : w'.ownsRow B e s u n xs := by
  refine ⟨h.1, ?_⟩
  rcases h.2 with hn | ⟨g, cap, cur, rfl, hb, hgg, rest⟩
  · exact .inl hn
  · exact .inr ⟨g, cap, cur, rfl, hb, by rw [hg.block g (Array.getElem?_eq_some_iff.1 hgg).1 (fun e => hs g e.symm rfl)]; exact hgg, rest⟩
theorem sepR_type {w : World} {B C : Nat} {e e' : TypeId} {s s' n n' : Nat} {v u : Value} {xs ys : List Value} (h : w.ownsRow B e s v n xs) (h' : w.ownsRow C e' s' u n' ys) (hne : e ≠ e') : Sep v u := fun g h1 h2 => by
  rcases h.2 with ⟨rfl, _⟩ | ⟨g1, cap, cur, rfl, hb, hgg, rest⟩
  · cases h1
  · rcases h'.2 with ⟨rfl, _⟩ | ⟨g2, cap2, cur2, rfl, hb2, hgg2, rest2⟩
    · cases h2
    · cases h1
      cases h2
      rw [hgg] at hgg2
      simp only [Option.some.injEq, Obj.cells.injEq] at hgg2
      exact hne hgg2.2.1
/-- a cell of a row set -/
theorem rowR_set {w : World} {B : Nat} {e : TypeId} {s g n cap : Nat} {xs : List Value} (h : w.ownsRow B e s (.slice (some ⟨g, 0, none⟩) n cap) n xs) (j : Nat) (u : Value) : (w.setCell ⟨g, j, none⟩ u).ownsRow B e s (.slice (some ⟨g, 0, none⟩) n cap) n (xs.set j u) := by
  refine ⟨by rw [List.length_set]; exact h.1, ?_⟩
  rcases h.2 with ⟨h1, _⟩ | ⟨g', cap', cur, h1, hb, hg, h4, h5, h6, ht⟩
  · simp at h1
  · simp at h1
    obtain ⟨rfl, rfl⟩ := h1
    refine .inr ⟨g, cap, cur.setIfInBounds j u, by simp, hb, by simp [World.setCell, Array.getElem?_modify, hg], h4, h5, by simpa using h6, ?_⟩
    rw [Array.toList_setIfInBounds, List.take_set, ht]
theorem rowR_cell {w : World} {B : Nat} {e : TypeId} {s g n cap : Nat} {xs : List Value} (h : w.ownsRow B e s (.slice (some ⟨g, 0, none⟩) n cap) n xs) {j : Nat} {u : Value} (hj : xs[j]? = some u) : w.cell? ⟨g, j, none⟩ = some u ∧ w.frozen? ⟨g, j, none⟩ = false := by
  rcases h.2 with ⟨h1, _⟩ | ⟨g', cap', cur, h1, hb, hg, h4, h5, h6, ht⟩
  · simp at h1
  · simp at h1
    obtain ⟨rfl, rfl⟩ := h1
    refine ⟨?_, by simp [World.frozen?, hg]⟩
    rw [cell_of_row w g j cur e (0, 0) hg]
    rw [← ht, List.getElem?_take] at hj
    split at hj
    · simpa using hj
    · cases hj
set_option maxRecDepth 100000 in
set_option maxHeartbeats 1000000 in
theorem spoilBytes_any (v : Value) (xs : List Int) (B : Nat) (w : World) (hown : OwnI w B 5 .u8 v xs) (hB : B ≤ w.heap.size) (hl : xs.length ≤ 100000000) :
    Calls Try.prog 47 #[v] w fun e w' => e = .returned (.tuple #[]) ∧ w.grownBy w' v.ownBlock := by
  obtain ⟨i0, hi, hz0, hz1, hz2⟩ := info_parts info_u8
  obtain ⟨o, cap, rfl⟩ := own_slice hown
  have HO := Lib.hid hown
  clear hown
  go_enter Try.func47, Try.ntmps47
  go_wp2
  go_loopg [2] xs.length (fun g i wr => ∃ (k : Nat) (ys : List Int), g = xs.length - k ∧ k ≤ xs.length ∧ i = .int .i64 k ∧ ys.length = xs.length ∧ OwnI wr B 5 .u8 (.slice o xs.length cap) ys ∧ w.grownBy wr (Value.slice o xs.length cap).ownBlock)
  case atStart => exact ⟨0, xs, rfl, Nat.zero_le _, rfl, rfl, HO.out, grownR_refl _ _⟩
  case round =>
    obtain ⟨k, ys, hg, hk, rfl, hyl, hown, hBl⟩ := hrel
    obtain ⟨w3, rfl⟩ : ∃ w3, w3 = wr := ⟨_, rfl⟩
    have HOw := Lib.hid hown
    have HBl := Lib.hid hBl
    have HYL := Lib.hid hyl
    clear hown hBl hyl
    by_cases hlt : k < xs.length
    · have hky : k < ys.length := by rw [HYL.out]; exact hlt
      obtain ⟨gg, cap2, he, hb1, hb2⟩ := OwnI.at HOw.out (by omega)
      simp only [Value.slice.injEq] at he
      obtain ⟨rfl, _, rfl⟩ := he
      obtain ⟨hc, hf⟩ := OwnI.cell HOw.out k hky
      have HX := Lib.hid (OwnI.set HOw.out k (bits BinOp.xor IntKind.u8 (nth ys k) 85))
      have HBX := Lib.hid (grownR_set (g := gg) (k := k) (u := .int .u8 (bits BinOp.xor IntKind.u8 (nth ys k) 85)) HBl.out rfl)
      clear hky
      go_wp2
      go_roundg (xs.length - (k + 1))
      case rel => exact ⟨k + 1, ys.set k (bits BinOp.xor IntKind.u8 (nth ys k) 85), rfl, by omega, by go_num, by rw [List.length_set, HYL.out], by have := HX.out; simpa [OwnI] using this, HBX.out⟩
      case measure => omega
    · obtain rfl : k = xs.length := by omega
      have HOw2 := Lib.hid (show w3.ownsRow B 5 1 (.slice o xs.length cap) xs.length (ys.map (Value.int .u8)) by have := HOw.out; rw [OwnI, HYL.out] at this; exact this)
      go_wp2_with (at_builtin; refine wpList_append_own _ rfl _ _ 34 rfl B 5 i0 (.int .u8 0) 1 1 Try.underlying34 hi hz0 hz1 hz2 rfl (by decide) _ _ _ rfl (HOw2.out.alloc _) ⟨w3.heap.size, 0, none⟩ 1 1 [.int .u8 5] rfl rfl (cell_one_new _ _ _) (by simp [Value.oneCell']) (by unfold maxLen; omega) (by omega) (by have := HBl.out.size; simp; omega) ?_; intro v' w1 hown' hgrow _; have HBX := Lib.hid (HBl.out.trans ((grownR_alloc _ _ _).trans hgrow)); clear hown' hgrow)
      go_end0
      exact ⟨rfl, HBX.out⟩
/-- the row of files where the first k are written over -/
def spoiltCells (k : Nat) (ps : List FP) : List Value := (List.replicate k [encStr [115, 112, 111, 105, 108, 116], Value.slice none 0 0]).flatten ++ fcells (ps.drop k)
theorem spoilt_len (k : Nat) (ps : List FP) : ((List.replicate k [encStr [115, 112, 111, 105, 108, 116], Value.slice none 0 0]).flatten).length = k * 2 := by simp
theorem spoilt_at {k : Nat} {ps : List FP} (hk : k < ps.length) : (spoiltCells k ps)[k * 2]? = some (encStr ps[k].1.nm) ∧ (spoiltCells k ps)[k * 2 + 1]? = some ps[k].2 := by
  have h0 : 0 < (ps.drop k).length := by simp; omega
  obtain ⟨a, b⟩ := fcells_at (ps.drop k) 0 h0
  have hl := spoilt_len k ps
  refine ⟨?_, ?_⟩
  · rw [spoiltCells, List.getElem?_append_right (by omega), hl, Nat.sub_self]
    simpa using a
  · rw [spoiltCells, List.getElem?_append_right (by omega), hl, show k * 2 + 1 - k * 2 = 1 by omega]
    simpa using b
theorem spoilt_set {k : Nat} {ps : List FP} (hk : k < ps.length) : ((spoiltCells k ps).set (k * 2) (encStr [115, 112, 111, 105, 108, 116])).set (k * 2 + 1) (Value.slice none 0 0) = spoiltCells (k + 1) ps := by
  have hl := spoilt_len k ps
  have hd : ps.drop k = ps[k] :: ps.drop (k + 1) := List.drop_eq_getElem_cons hk
  have hrep : (List.replicate (k + 1) [encStr [115, 112, 111, 105, 108, 116], Value.slice none 0 0]).flatten = (List.replicate k [encStr [115, 112, 111, 105, 108, 116], Value.slice none 0 0]).flatten ++ [encStr [115, 112, 111, 105, 108, 116], Value.slice none 0 0] := by
    rw [List.replicate_succ', List.flatten_append]; simp
  rw [spoiltCells, spoiltCells, hrep, hd]
  generalize (List.replicate k [encStr [115, 112, 111, 105, 108, 116], Value.slice none 0 0]).flatten = A at *
  rw [show fcells (ps[k] :: ps.drop (k + 1)) = encStr ps[k].1.nm :: ps[k].2 :: fcells (ps.drop (k + 1)) from rfl]
  rw [List.set_append_right _ _ (by omega), hl, Nat.sub_self, List.set_cons_zero, List.set_append_right _ _ (by omega), hl, show k * 2 + 1 - k * 2 = 1 by omega, List.set_cons_succ, List.set_cons_zero]
  simp
/-- nothing is turned but the row of files and their bytes -/
structure OnlyRows (v : Value) (ps : List FP) (w w' : World) : Prop where
  rest : w'.os = w.os ∧ w'.tape = w.tape ∧ w'.output = w.output
  size : w.heap.size ≤ w'.heap.size
  block : ∀ k, k < w.heap.size → v.ownBlock ≠ some k → (∀ p ∈ ps, p.2.ownBlock ≠ some k) → w'.heap[k]? = w.heap[k]?
theorem OnlyRows.refl (v : Value) (ps : List FP) (w : World) : OnlyRows v ps w w := ⟨⟨rfl, rfl, rfl⟩, Nat.le_refl _, fun _ _ _ _ => rfl⟩
theorem OnlyRows.trans {v : Value} {ps : List FP} {a b c : World} (h : OnlyRows v ps a b) (k : OnlyRows v ps b c) : OnlyRows v ps a c :=
  ⟨⟨k.rest.1.trans h.rest.1, k.rest.2.1.trans h.rest.2.1, k.rest.2.2.trans h.rest.2.2⟩, Nat.le_trans h.size k.size, fun i h1 h2 h3 => (k.block i (Nat.lt_of_lt_of_le h1 h.size) h2 h3).trans (h.block i h1 h2 h3)⟩
theorem OnlyRows.row {v : Value} {ps : List FP} {w w' : World} (h : w.grownBy w' v.ownBlock) : OnlyRows v ps w w' :=
  ⟨⟨h.os, h.tape, h.output⟩, h.size, fun k h1 h2 _ => h.block k h1 (fun e => h2 e.symm)⟩
theorem OnlyRows.data {v : Value} {ps : List FP} {w w' : World} {p : FP} (hp : p ∈ ps) (h : w.grownBy w' p.2.ownBlock) : OnlyRows v ps w w' :=
  ⟨⟨h.os, h.tape, h.output⟩, h.size, fun k h1 _ h3 => h.block k h1 (fun e => h3 p hp e.symm)⟩
theorem OnlyRows.below {v : Value} {ps : List FP} {w w' : World} {B : Nat} (h : OnlyRows v ps w w') (hf : FOwn w B v ps) (hB : B ≤ w.heap.size) : Below B w w' :=
  ⟨h.rest.1, h.rest.2.1, h.rest.2.2, h.size, fun k hk => h.block k (Nat.lt_of_lt_of_le hk hB) (fun e => by have := (hf.row.lt k e).1; omega) (fun p hp e => by have := ((hf.by_ p hp).lt k e).1; omega)⟩
set_option maxRecDepth 100000 in
set_option maxHeartbeats 4000000 in
theorem spoilFiles_any (v : Value) (ps : List FP) (B : Nat) (w : World) (hf : FOwn w B v ps) (hB : B ≤ w.heap.size) (hl : ps.length ≤ 1000000) :
    Calls Try.prog 26 #[v] w fun e w' => e = .returned (.tuple #[]) ∧ OnlyRows v ps w w' := by
  obtain ⟨i0, hi, hz0, hz1, hz2⟩ := info_parts info_file
  obtain ⟨o, cap, rfl⟩ := own_slice hf.row
  have HF := Lib.hid hf
  clear hf
  go_enter Try.func26, Try.ntmps26
  go_wp2_with fail
  go_loopg [2] ps.length (fun g i wr => ∃ (k : Nat), g = ps.length - k ∧ k ≤ ps.length ∧ i = .int .i64 k ∧ wr.ownsRow B 48 2 (.slice o ps.length cap) ps.length (spoiltCells k ps) ∧ (∀ p ∈ ps.drop k, BOwn B wr p.2 p.1.da) ∧ OnlyRows (.slice o ps.length cap) ps w wr)
  case atStart => exact ⟨0, rfl, Nat.zero_le _, rfl, by simpa [spoiltCells] using HF.out.row, fun p hp => HF.out.by_ p (by simpa using hp), OnlyRows.refl _ _ _⟩
  case round =>
    obtain ⟨k, hg, hk, rfl, hrow, hdat, hBl⟩ := hrel
    obtain ⟨w3, rfl⟩ : ∃ w3, w3 = wr := ⟨_, rfl⟩
    have HR := Lib.hid hrow
    have HD := Lib.hid hdat
    have HB := Lib.hid hBl
    have hz3 := hBl.size
    by_cases hlt : k < ps.length
    · have hdk : ps.drop k = ps[k] :: ps.drop (k + 1) := List.drop_eq_getElem_cons hlt
      obtain ⟨g4, cap4, he, hcell⟩ : ∃ g4 cap4, Value.slice o ps.length cap = .slice (some ⟨g4, 0, none⟩) ps.length cap4 ∧ B ≤ g4 := by
        rcases hrow.2 with ⟨he, hn⟩ | ⟨g, c2, cur, he, hb, _⟩
        · omega
        · exact ⟨g, c2, he, hb⟩
      simp only [Value.slice.injEq] at he
      obtain ⟨rfl, _, rfl⟩ := he
      obtain ⟨s0, s1⟩ := spoilt_at hlt
      have c1 := (rowR_cell hrow s1).1
      have hbo := HD.out ps[k] (by rw [hdk]; exact List.mem_cons_self ..)
      have HSEP := Lib.hid (show ∀ p ∈ ps.drop (k + 1), Sep ps[k].2 p.2 from by
        have h1 := List.Pairwise.drop (i := k) HF.out.sep
        rw [hdk] at h1
        exact (List.pairwise_cons.1 h1).1)
      obtain ⟨q, hq⟩ : ∃ q, q = ps[k] := ⟨_, rfl⟩
      rw [← hq] at c1 s0 s1 hbo HSEP
      have HQ := Lib.hid hq
      obtain ⟨⟨nm, da⟩, vd⟩ := q
      simp only at c1 s0 s1 hbo
      have HBO := Lib.hid hbo
      have hdl := hbo.len
      obtain ⟨od, cd, rfl⟩ := own_slice hbo.own
      have HDK := Lib.hid hdk
      clear hrow hdat hBl hq hbo s0 s1 hdk
      go_wp2_with fail
      refine (spoilBytes_any _ da B _ HBO.out.own (Nat.le_trans hB hz3) (by omega)).mono ?_
      rintro e w4 ⟨rfl, hg4⟩
      have HR4 := Lib.hid (ownR_grown HR.out hg4 (sepR_type HBO.out.own HR.out (by decide)))
      have HD4 := Lib.hid (show ∀ p ∈ ps.drop (k + 1), BOwn B w4 p.2 p.1.da from fun p hp => ⟨ownR_grown (HD.out p (by rw [HDK.out]; exact List.mem_cons_of_mem _ hp)).own hg4 (HSEP.out p hp), (HD.out p (by rw [HDK.out]; exact List.mem_cons_of_mem _ hp)).len⟩)
      have HB4 := Lib.hid (HB.out.trans (OnlyRows.data (p := (⟨nm, da⟩, .slice od da.length cd)) (by rw [HQ.out]; exact List.getElem_mem hlt) hg4))
      clear hg4 c1
      obtain ⟨s0, s1⟩ := spoilt_at hlt
      have f0 := rowR_cell HR4.out s0
      have f1 := rowR_cell HR4.out s1
      obtain ⟨f00, f01⟩ := f0
      obtain ⟨f10, f11⟩ := f1
      clear s0 s1
      go_wp2_with fail
      clear f00 f01 f10 f11
      have HR5 := Lib.hid (show ((w4.setCell ⟨g4, k * 2, none⟩ (encStr [115, 112, 111, 105, 108, 116])).setCell ⟨g4, k * 2 + 1, none⟩ (.slice none 0 0)).ownsRow B 48 2 (.slice (some ⟨g4, 0, none⟩) ps.length cap) ps.length (spoiltCells (k + 1) ps) from by rw [← spoilt_set hlt]; exact rowR_set (rowR_set HR4.out _ _) _ _)
      have HG5 := Lib.hid (show w4.grownBy ((w4.setCell ⟨g4, k * 2, none⟩ (encStr [115, 112, 111, 105, 108, 116])).setCell ⟨g4, k * 2 + 1, none⟩ (.slice none 0 0)) (Value.slice (some ⟨g4, 0, none⟩) ps.length cap).ownBlock from grownR_set (grownR_set (grownR_refl _ _) rfl) rfl)
      go_roundg (ps.length - (k + 1))
      case measure => omega
      case rel => exact ⟨k + 1, rfl, hlt, by go_num, HR5.out, fun p hp => ⟨ownR_grown (HD4.out p hp).own HG5.out (sepR_type HR4.out (HD4.out p hp).own (by decide)), (HD4.out p hp).len⟩, HB4.out.trans (OnlyRows.row HG5.out)⟩
    · have hke : k = ps.length := by omega
      subst hke
      clear hrow hdat hBl
      have hB3 : B ≤ w3.heap.size := Nat.le_trans hB hz3
      go_wp2_with (at_builtin; refine wpList_append_own _ rfl _ _ 22 rfl B 48 i0 (.agg #[.string ⟨#[]⟩, .slice none 0 0]) 2 40 Try.underlying22 hi hz0 hz1 hz2 rfl (by decide) _ _ _ rfl (own_below HR.out ((Below.refl _ _).alloc (Nat.le_refl _) _) (Nat.le_refl _)) ⟨w3.heap.size, 0, none⟩ 1 1 [encStr [], .slice none 0 0] rfl rfl (pair_new _ _ _ _) (by simp [Value.oneCell', encStr]) (by unfold maxLen; omega) (by omega) (by simp; omega) ?_; intro v' w1 hown' hgrow _; have HBX := Lib.hid (HB.out.trans (OnlyRows.row ((grownR_alloc _ _ _).trans hgrow))); clear hown' hgrow)
      go_end0
      exact ⟨rfl, HBX.out⟩
end Go.Proofs.Ytejmbhckfdfoeaa
/-
  THE REFERENCE'S EqFile, EqFiles, at lists that are the same.
-/
set_option linter.unusedVariables false
set_option linter.unusedSimpArgs false
namespace Go.Proofs.Ytejmbhckfdfoeaa
open Go.RowKit Go.Maps
set_option maxRecDepth 100000 in
set_option maxHeartbeats 1000000 in
theorem eqFile_same (x : List UInt8) (v u : Value) (xs : List Int) (w : World) (hr : Rd w .u8 v xs) (hs : Rd w .u8 u xs) (hl : xs.length ≤ 140737488351232) :
    Calls Try.prog 46 #[.agg #[encStr x, v], .agg #[encStr x, u]] w fun e w' => e = .returned (.bool true) ∧ Below w.heap.size w w' := by
  obtain ⟨o, cap, rfl⟩ := rd_slice hr
  obtain ⟨o2, cap2, rfl⟩ := rd_slice hs
  have HR := Lib.hid hr
  have HS := Lib.hid hs
  clear hr hs
  obtain ⟨W0, hW0⟩ : ∃ W0, W0 = ((w.alloc (.cells #[encStr x, .slice o xs.length cap] 48)).alloc (.cells #[encStr x, .slice o2 xs.length cap2] 48)) := ⟨_, rfl⟩
  have HB1 := Lib.hid (show Box W0 w.heap.size 48 #[encStr x, .slice o xs.length cap] by
    rw [hW0]; exact Box.below (C := w.heap.size + 1) (Box.new_at rfl) ((Below.refl _ _).alloc (by simp) _) (by omega))
  have HB2 := Lib.hid (show Box W0 (w.heap.size + 1) 48 #[encStr x, .slice o2 xs.length cap2] by rw [hW0]; exact Box.new_at (by simp))
  have HBl := Lib.hid (show Below w.heap.size w W0 by rw [hW0]; exact ((Below.refl _ _).alloc (Nat.le_refl _) _).alloc (by simp) _)
  have HW0 := Lib.hid hW0
  have d0 := HB1.out.cell 0 rfl
  have d1 := HB1.out.cell 1 rfl
  have e0 := HB2.out.cell 0 rfl
  have e1 := HB2.out.cell 1 rfl
  simp only [encStr] at d0 e0
  rw [hW0] at d0 d1 e0 e1
  clear hW0
  go_enter Try.func46, Try.ntmps46
  go_wp2_with fail
  rw [← HW0.out] at d0 d1 e0 e1 ⊢
  clear HW0
  refine (eqBytes_any _ _ xs xs _ (HR.out.below HBl.out (Nat.le_refl _)) (HS.out.below HBl.out (Nat.le_refl _)) hl).mono ?_
  rintro e w1 ⟨rfl, hs⟩
  rw [decide_eq_true rfl]
  have HF := Lib.hid (HBl.out.trans (hs.below _))
  clear hs d0 d1 e0 e1
  go_wp2_with fail
  go_ret
  exact ⟨rfl, HF.out⟩
set_option maxRecDepth 100000 in
set_option maxHeartbeats 2000000 in
theorem eqFiles_same (v u : Value) (fs : List FileD) (w : World) (hr : FilesRd w v fs) (hs : FilesRd w u fs) (hl : fs.length ≤ 140737488351232) :
    Calls Try.prog 25 #[v, u] w fun e w' => e = .returned (.bool true) ∧ Below w.heap.size w w' := by
  obtain ⟨o, cap, rfl, hc⟩ := hr
  obtain ⟨o2, cap2, rfl, hc2⟩ := hs
  have HC := Lib.hid hc
  have HC2 := Lib.hid hc2
  clear hc hc2
  go_enter Try.func25, Try.ntmps25
  go_wp2_with fail
  go_loopg [5] fs.length (fun g i wr => ∃ k : Nat, g = fs.length - k ∧ k ≤ fs.length ∧ i = .int .i64 k ∧ Below w.heap.size w wr)
  case atStart => exact ⟨0, rfl, Nat.zero_le _, rfl, Below.refl _ _⟩
  case round =>
    obtain ⟨k, hg, hk, rfl, hB⟩ := hrel
    obtain ⟨w2, rfl⟩ : ∃ w2, w2 = wr := ⟨_, rfl⟩
    have HB := Lib.hid hB
    by_cases hlt : k < fs.length
    · obtain ⟨⟨b, off, od, cd, rfl, c0, c1, hrd⟩, hnl, hdl⟩ := (HC.out k hlt).below hB (Nat.le_refl _)
      obtain ⟨⟨b2, off2, od2, cd2, rfl, e0, e1, hrd2⟩, _, _⟩ := (HC2.out k hlt).below hB (Nat.le_refl _)
      obtain ⟨fd, hfd⟩ : ∃ fd, fd = fnth fs k := ⟨_, rfl⟩
      rw [← hfd] at c0 c1 hrd hnl hdl e0 e1 hrd2
      obtain ⟨nm, da⟩ := fd
      simp only at c0 c1 hrd hnl hdl e0 e1 hrd2
      have HR := Lib.hid hrd
      have HR2 := Lib.hid hrd2
      have HC0 := Lib.hid (And.intro c0 (And.intro c1 (And.intro e0 e1)))
      clear hfd hnl hrd hrd2 hB
      have HX := Lib.hid (show Below w2.heap.size w2 w2.drew from Below.drew (Below.refl _ _))
      go_wp2_with fail
      go_region_held3 (fun w' => w'.cell? ⟨b, off + k * 2, none⟩ = some (encStr nm) ∧ w'.cell? ⟨b, off + k * 2 + 1, none⟩ = some (.slice od da.length cd) ∧ w'.cell? ⟨b2, off2 + k * 2, none⟩ = some (encStr nm) ∧ w'.cell? ⟨b2, off2 + k * 2 + 1, none⟩ = some (.slice od2 da.length cd2))
        (exact ⟨(HX.out.cell (cell_lt HC0.out.1)).trans HC0.out.1, (HX.out.cell (cell_lt HC0.out.2.1)).trans HC0.out.2.1, (HX.out.cell (cell_lt HC0.out.2.2.1)).trans HC0.out.2.2.1, (HX.out.cell (cell_lt HC0.out.2.2.2)).trans HC0.out.2.2.2⟩)
        (first
        | (go_at_call 46; refine (eqFile_same nm _ _ da _ (HR.out.below HX.out (Nat.le_refl _)) (HR2.out.below HX.out (Nat.le_refl _)) hdl).mono ?_; rintro e wy ⟨rfl, hby⟩; have HX := Lib.hid (HX.out.trans (hby.mono HX.out.size)); clear hby))
      clear c0 c1 e0 e1
      have HN := Lib.hid (HB.out.trans (HX.out.mono HB.out.size))
      go_wp2_with fail
      go_roundg (fs.length - (k + 1))
      case measure => omega
      case rel => exact ⟨k + 1, rfl, hlt, by go_num, HN.out⟩
    · have hke : k = fs.length := by omega
      subst hke
      clear hB
      go_wp2_with fail
      go_ret
      exact ⟨rfl, HB.out⟩
end Go.Proofs.Ytejmbhckfdfoeaa
