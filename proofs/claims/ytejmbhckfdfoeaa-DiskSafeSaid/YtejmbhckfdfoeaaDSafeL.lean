/-
  DiskSafe: its calls, whatever names they are asked with, keep what is kept.
-/
import Derived.Test.YtejmbhckfdfoeaaDSafeS
import Derived.Test.YtejmbhckfdfoeaaDArg
set_option linter.unusedVariables false
set_option linter.unusedSimpArgs false
namespace Go.Proofs.Ytejmbhckfdfoeaa
open Go.RowKit Go.Maps Go.ChangeShapes Go.WideShapes
/-- between two calls: a disk that keeps the kept file; the box of a call; the script's box -/
structure LawK (w0 : World) (scs : Array Value) (B p ab : Nat) (acs : Array Value) (f k : Nat) (W : World) : Prop where
  d : ∃ s bs bf cv vs, DRepr B W p bs bf cv vs s ∧ Inv s f ∧ Lim s k
  a : Box W ab 37 acs
  s : Box W w0.heap.size 25 scs
  b : Below w0.heap.size w0 W
  hB : w0.heap.size < B
theorem LawK.base {w0 : World} {scs : Array Value} {B p ab f k : Nat} {acs : Array Value} {W : World} (h : LawK w0 scs B p ab acs f k W) : B ≤ W.heap.size := by
  obtain ⟨s, bs, bf, cv, vs, hd, _⟩ := h.d
  exact Nat.le_of_lt hd.baseLt
theorem LawK.next {w0 : World} {scs : Array Value} {B p ab f k : Nat} {acs : Array Value} {W W' : World} (h : LawK w0 scs B p ab acs f k W) (hb : Below W.heap.size W W') : LawK w0 scs B p ab acs f k W' := by
  obtain ⟨s, bs, bf, cv, vs, hd, hi, hl⟩ := h.d
  exact ⟨⟨s, bs, bf, cv, vs, hd.next hb h.base, hi, hl⟩, h.a.next hb, h.s.next hb, h.b.trans (hb.mono h.b.size), h.hB⟩
theorem LawK.more {w0 : World} {scs : Array Value} {B p ab f k m : Nat} {acs : Array Value} {W : World} (h : LawK w0 scs B p ab acs f k W) (hm : k ≤ m) : LawK w0 scs B p ab acs f m W := by
  obtain ⟨s, bs, bf, cv, vs, hd, hi, hl⟩ := h.d
  exact ⟨⟨s, bs, bf, cv, vs, hd, hi, hl.mono hm⟩, h.a, h.s, h.b, h.hB⟩
theorem LawK.step {w0 : World} {scs : Array Value} {B p ab f k m bs' bf' : Nat} {acs : Array Value} {W W' : World} {s' : DSt} {cv' : Value} {vs' : List Value} (h : LawK w0 scs B p ab acs f k W) (hs : Step B W W') (hd : DRepr B W' p bs' bf' cv' vs' s') (hi : Inv s' f) (hl : Lim s' m) : LawK w0 scs B p ab acs f m W' :=
  ⟨⟨s', bs', bf', cv', vs', hd, hi, hl⟩, h.a.step hs rfl, h.s.below hs.below h.hB, h.b.trans (hs.below.mono (Nat.le_of_lt h.hB)), h.hB⟩
theorem Lim.of {s s' : DSt} {k f : Nat} (h : Lim s k) (hi : Inv s' f) (ho : s'.off = s.off) (hd : s'.dead = offB s) (hs : s'.strokes = s.strokes + 1) (hc : s'.chs.length ≤ s.chs.length + 1) : Lim s' (k + 1) :=
  ⟨by rw [hd]; exact offB_zero h.off, by rw [ho]; exact h.off, by have := h.st; rw [hs]; omega, by have := h.ch; omega, hi.now.len⟩
theorem write_law {w0 : World} {scs : Array Value} {B p ab f k : Nat} {acs : Array Value} {W : World} (h : LawK w0 scs B p ab acs f k W) (hk : k < 1000) (x : List UInt8) (hx : x.length ≤ maxLen) (hne : x ≠ keptN) (v : Value) (xs : List Int) (hr : BytesRep 0 W v xs) :
    Calls Try.prog 13 #[.pointer (some ⟨p, 0, none⟩), .string ⟨x.toArray⟩, v] W fun e w' => (∃ r, e = .returned (.int .i64 r)) ∧ LawK w0 scs B p ab acs f (k + 1) w' := by
  obtain ⟨s, bs, bf, cv, vs, hd, hi, hl⟩ := h.d
  have h1 := hl.st
  have h2 := hl.ch
  have h3 := hl.many
  cases hg : goodNm x with
  | false =>
    refine (write_ref x v xs hr hd hx (.inr hg)).mono ?_
    rintro e w' ⟨rfl, hb⟩
    exact ⟨⟨_, rfl⟩, (h.next hb).more (Nat.le_succ _)⟩
  | true =>
    by_cases hfull : lget s.seen x = none ∧ s.seen.length = 16
    · refine (write_full x v xs hd hg hr hl.dead hfull (by omega)).mono ?_
      rintro e w' ⟨rfl, hd', hs'⟩
      exact ⟨⟨_, rfl⟩, h.step hs' hd' hi.stroke hl.stroke⟩
    · refine (write_ok x v xs hd hg hr hl.dead hfull (by omega) (by omega) (by omega)).mono ?_
      rintro e w' ⟨rfl, ⟨g, cv', vs', hd', hge⟩, hs'⟩
      have hi' : Inv (writeS (strokeS s) x g xs) f := hi.write x xs hg hne (fun hm => by have := hd.idLt hm; omega) hfull
      exact ⟨⟨_, rfl⟩, h.step hs' hd' hi' (hl.of hi' rfl rfl rfl (by simp [writeS, chgS, addS, strokeS]))⟩
theorem sync_law {w0 : World} {scs : Array Value} {B p ab f k : Nat} {acs : Array Value} {W : World} (h : LawK w0 scs B p ab acs f k W) (hk : k < 1000) (x : List UInt8) (hx : x.length ≤ maxLen) :
    Calls Try.prog 22 #[.pointer (some ⟨p, 0, none⟩), .string ⟨x.toArray⟩] W fun e w' => (∃ r, e = .returned (.int .i64 r)) ∧ LawK w0 scs B p ab acs f (k + 1) w' := by
  obtain ⟨s, bs, bf, cv, vs, hd, hi, hl⟩ := h.d
  have h1 := hl.st
  cases hg : goodNm x with
  | false =>
    refine (sync_ref x hd hx (.inr hg)).mono ?_
    rintro e w' ⟨rfl, hb⟩
    exact ⟨⟨_, rfl⟩, (h.next hb).more (Nat.le_succ _)⟩
  | true =>
    cases hget : lget s.seen x with
    | none =>
      refine (sync_no x hd hg hl.dead hget (by omega)).mono ?_
      rintro e w' ⟨rfl, hd', hs'⟩
      exact ⟨⟨_, rfl⟩, h.step hs' hd' hi.stroke hl.stroke⟩
    | some g =>
      refine (sync_ok x g hd hg hl.dead hget (by omega)).mono ?_
      rintro e w' ⟨rfl, hd', hs'⟩
      have hi' : Inv (syncS s g) f := hi.sync g
      have ho : offB s = false := offB_zero hl.off
      exact ⟨⟨_, rfl⟩, h.step hs' hd' hi' (hl.of hi' (by rw [syncS, ho]; rfl) (by rw [syncS, ho]; exact ho) (by rw [syncS, ho]; rfl) (by rw [syncS, ho]; exact Nat.le_succ _))⟩
theorem rename_law {w0 : World} {scs : Array Value} {B p ab f k : Nat} {acs : Array Value} {W : World} (h : LawK w0 scs B p ab acs f k W) (hk : k < 1000) (a b : List UInt8) (ha : a.length ≤ maxLen) (hb : b.length ≤ maxLen) (hna : a ≠ keptN) (hnb : b ≠ keptN) :
    Calls Try.prog 17 #[.pointer (some ⟨p, 0, none⟩), .string ⟨a.toArray⟩, .string ⟨b.toArray⟩] W fun e w' => (∃ r, e = .returned (.int .i64 r)) ∧ LawK w0 scs B p ab acs f (k + 1) w' := by
  obtain ⟨s, bs, bf, cv, vs, hd, hi, hl⟩ := h.d
  have h1 := hl.st
  have h2 := hl.ch
  have h3 := hl.many
  cases hg : (goodNm a && goodNm b) with
  | false =>
    refine (rename_ref a b hd ha hb (.inr hg)).mono ?_
    rintro e w' ⟨rfl, hb⟩
    exact ⟨⟨_, rfl⟩, (h.next hb).more (Nat.le_succ _)⟩
  | true =>
    rw [Bool.and_eq_true] at hg
    cases hget : lget s.seen a with
    | none =>
      refine (rename_no a b hd hg.1 hg.2 hl.dead hget (by omega)).mono ?_
      rintro e w' ⟨rfl, hd', hs'⟩
      exact ⟨⟨_, rfl⟩, h.step hs' hd' hi.stroke hl.stroke⟩
    | some g =>
      refine (rename_ok a b g hd hg.1 hg.2 hl.dead hget (by omega) (by omega) (by omega)).mono ?_
      rintro e w' ⟨rfl, ⟨cv', vs', hd'⟩, hs'⟩
      have hi' : Inv (chgS (strokeS s) (.mv a b g)) f := hi.rename a b hg.2 hna hnb hget
      exact ⟨⟨_, rfl⟩, h.step hs' hd' hi' (hl.of hi' rfl rfl rfl (by simp [chgS, strokeS]))⟩
theorem remove_law {w0 : World} {scs : Array Value} {B p ab f k : Nat} {acs : Array Value} {W : World} (h : LawK w0 scs B p ab acs f k W) (hk : k < 1000) (x : List UInt8) (hx : x.length ≤ maxLen) (hne : x ≠ keptN) :
    Calls Try.prog 20 #[.pointer (some ⟨p, 0, none⟩), .string ⟨x.toArray⟩] W fun e w' => (∃ r, e = .returned (.int .i64 r)) ∧ LawK w0 scs B p ab acs f (k + 1) w' := by
  obtain ⟨s, bs, bf, cv, vs, hd, hi, hl⟩ := h.d
  have h1 := hl.st
  have h2 := hl.ch
  cases hg : goodNm x with
  | false =>
    refine (remove_ref x hd hx (.inr hg)).mono ?_
    rintro e w' ⟨rfl, hb⟩
    exact ⟨⟨_, rfl⟩, (h.next hb).more (Nat.le_succ _)⟩
  | true =>
    cases hget : lget s.seen x with
    | none =>
      refine (remove_no x hd hg hl.dead hget (by omega) (by omega)).mono ?_
      rintro e w' ⟨rfl, hd', hs'⟩
      exact ⟨⟨_, rfl⟩, h.step hs' hd' hi.stroke hl.stroke⟩
    | some g =>
      refine (remove_ok x g hd hg hl.dead hget (by omega) (by omega)).mono ?_
      rintro e w' ⟨rfl, ⟨cv', vs', hd'⟩, hs'⟩
      have hi' : Inv (chgS (strokeS s) (.del x)) f := hi.remove x hne
      exact ⟨⟨_, rfl⟩, h.step hs' hd' hi' (hl.of hi' rfl rfl rfl (by simp [chgS, strokeS]))⟩
theorem syncDir_law {w0 : World} {scs : Array Value} {B p ab f k : Nat} {acs : Array Value} {W : World} (h : LawK w0 scs B p ab acs f k W) (hk : k < 1000) :
    Calls Try.prog 23 #[.pointer (some ⟨p, 0, none⟩)] W fun e w' => (∃ r, e = .returned (.int .i64 r)) ∧ LawK w0 scs B p ab acs f (k + 1) w' := by
  obtain ⟨s, bs, bf, cv, vs, hd, hi, hl⟩ := h.d
  have h1 := hl.st
  refine (syncDir_ok hd hl.dead (by omega)).mono ?_
  rintro e w' ⟨rfl, ⟨bf', cv', vs', hd'⟩, hs'⟩
  have hi' : Inv (syncDirS s) f := hi.dir
  have ho : offB s = false := offB_zero hl.off
  exact ⟨⟨_, rfl⟩, h.step hs' hd' hi' (hl.of hi' (by rw [syncDirS, ho]; rfl) (by rw [syncDirS, ho]; exact ho) (by rw [syncDirS, ho]; rfl) (by rw [syncDirS, ho]; exact Nat.zero_le _))⟩
/-- the picks of the calls lie in slices whose length is within their room -/
def ActsCap (w : World) (v : Value) : Prop :=
  ∀ o len cap, v = .slice o len cap → ∀ i, i < len → ∀ b off, o = some ⟨b, off, none⟩ → ∀ op n cp, w.cell? ⟨b, off + i * 5 + 4, none⟩ = some (.slice op n cp) → n ≤ cp ∧ cp ≤ 9223372036854775807
theorem RB.actsCap {H : Type} {enc : TypeId × Value → H} {w : World} {v : Value} (h : RB enc Try.prog w 23 [v]) : ActsCap w v := by
  obtain ⟨o, len, cap, rfl, hr, hel⟩ := h.rows Try.underlying23 (by rw [cellsAct]; omega)
  intro o' len' cap' he i hi b off ho op n cp hc
  cases he
  obtain ⟨b', off', cs, ho', hl, hrb, hcell⟩ := hel i hi
  rw [ho] at ho'
  cases ho'
  rw [cellsAct] at hl hcell
  obtain ⟨_, hf⟩ := hrb.field Try.underlying37
  obtain ⟨v0, v1, v2, v3, v4, rfl⟩ := list5 hl
  have g4 : RB enc Try.prog w 35 (([v0, v1, v2, v3, v4] : List Value).drop 4 |>.take (Try.prog.cellsOf 35)) := hf 4 _ rfl
  rw [cellsSInt] at g4
  have h4 := hcell 4 v4 rfl
  rw [hc] at h4
  cases h4
  obtain ⟨o4, n4, c4, he4, _, hc4, hle, _⟩ := RB.slice (v := .slice op n cp) g4 Try.underlying35
  cases he4
  rw [bytesInt] at hc4
  unfold reachBytes at hc4
  exact ⟨hle, by omega⟩
theorem conv_rd {w : World} {v : Value} {xs : List Int} (h : Rd w .u8 v xs) : ∃ s : ByteArray, (convert 34 9 v).run Try.prog w = .ok (.string s) w ∧ (xs = keptB → s = ⟨#[107, 101, 112, 116]⟩) := by
  by_cases h0 : 0 < xs.length
  · obtain ⟨o, cap, rfl, hc⟩ := h
    obtain ⟨b, off, rfl, _⟩ := hc 0 h0
    refine ⟨strOfNums xs, run_convert_bytes_arg w _ _ Try.underlying34 Try.underlying5 b off xs.length cap xs rfl (fun i hi => ?_) _ Try.underlying9, fun e => ?_⟩
    · obtain ⟨b', off', he, hcell⟩ := hc i hi
      cases he
      exact hcell
    · rw [e]; rfl
  · obtain ⟨o, cap, rfl, hc⟩ := h
    have hx : xs = [] := List.eq_nil_of_length_eq_zero (by omega)
    subst hx
    refine ⟨ByteArray.empty, ?_, fun e => by simp [keptB] at e⟩
    rw [run_convert_bytes_string w _ _ _ o _ cap Try.underlying34 Try.underlying5 Try.underlying9]
    cases o <;> simp [Conv.bytesToString, loadCells]
    all_goals rfl
/-- between two rounds -/
structure LoopK (w0 : World) (scs : Array Value) (B p f k : Nat) (W : World) : Prop where
  d : ∃ s bs bf cv vs, DRepr B W p bs bf cv vs s ∧ Inv s f ∧ Lim s k
  s : Box W w0.heap.size 25 scs
  b : Below w0.heap.size w0 W
  hB : w0.heap.size < B
theorem LawK.loop {w0 : World} {scs : Array Value} {B p ab f k : Nat} {acs : Array Value} {W : World} (h : LawK w0 scs B p ab acs f k W) : LoopK w0 scs B p f k W := ⟨h.d, h.s, h.b, h.hB⟩
theorem LoopK.act {w0 : World} {scs : Array Value} {B p f k : Nat} {W : World} (h : LoopK w0 scs B p f k W) (acs : Array Value) : LawK w0 scs B p W.heap.size acs f k (W.alloc (.cells acs 37)) := by
  obtain ⟨s, bs, bf, cv, vs, hd, hi, hl⟩ := h.d
  have hb : Below W.heap.size W (W.alloc (.cells acs 37)) := (Below.refl _ _).alloc (Nat.le_refl _) _
  exact ⟨⟨s, bs, bf, cv, vs, hd.next hb (Nat.le_of_lt hd.baseLt), hi, hl⟩, Box.new _ _ _, h.s.next hb, h.b.trans (hb.mono h.b.size), h.hB⟩
theorem LoopK.more {w0 : World} {scs : Array Value} {B p f k m : Nat} {W : World} (h : LoopK w0 scs B p f k W) (hm : k ≤ m) : LoopK w0 scs B p f m W := by
  obtain ⟨s, bs, bf, cv, vs, hd, hi, hl⟩ := h.d
  exact ⟨⟨s, bs, bf, cv, vs, hd, hi, hl.mono hm⟩, h.s, h.b, h.hB⟩
theorem inv_start {s : DSt} {fs : List FileD} (hse : SeenIs s fs) (hmay : mayB fs = true) (h10 : fs.length ≤ 10) (hr : Ris s.seen) (hin : ∀ q ∈ s.seen, q.2 ∈ s.ids) (hoff : s.off = 0) (f : Nat) :
    Inv (syncDirS (syncS (writeS (strokeS s) keptN f keptB) f)) f ∧ Lim (syncDirS (syncS (writeS (strokeS s) keptN f keptB) f)) 3 := by
  obtain ⟨s1, hs1⟩ : ∃ s1, s1 = writeS (strokeS s) keptN f keptB := ⟨_, rfl⟩
  have o1 : offB s1 = false := offB_zero (by rw [hs1]; exact hoff)
  have e2 : syncS s1 f = { strokeS s1 with sf := updF s1.sf f (s1.by_ f) } := by rw [syncS, o1]; rfl
  have o2 : offB (syncS s1 f) = false := offB_zero (by rw [e2, hs1]; exact hoff)
  have e3 : syncDirS (syncS s1 f) = { strokeS (syncS s1 f) with safe := (syncS s1 f).seen, chs := [] } := by rw [syncDirS, o2]; rfl
  have hby : s1.by_ f = keptB := by rw [hs1]; simp [writeS, chgS, addS, updF]
  have hlen : (lput s.seen keptN f).length ≤ 16 := by
    rw [lput_length hr]
    have := hse.length
    split <;> omega
  have hgood : ∀ q ∈ s.seen, goodNm q.1 = true := fun q hq => by
    have hm : q.1 ∈ fs.map (·.nm) := by rw [← hse.names]; exact List.mem_map.2 ⟨q, hq, rfl⟩
    obtain ⟨g, hg, he⟩ := List.mem_map.1 hm
    obtain ⟨i, hi, rfl⟩ := List.mem_iff_getElem.1 hg
    rw [mayB, Bool.and_eq_true] at hmay
    have := okTo_at hmay.2 hi
    simp only [okAt, Bool.and_eq_true] at this
    have h1 := this.1
    rw [fnth, List.getD_eq_getElem?_getD, List.getElem?_eq_getElem hi] at h1
    rw [← he]; exact h1
  have hok : OkL (f :: s.ids) f (lput s.seen keptN f) := by
    refine ⟨fun q hq => ?_, hlen, lget_put_same hr keptN f⟩
    rcases lput_mem hq with rfl | hq
    · exact ⟨List.mem_cons_self .., show goodNm keptN = true by decide⟩
    · exact ⟨List.mem_cons_of_mem _ (hin q hq), hgood q hq⟩
  have hseen : (syncS s1 f).seen = lput s.seen keptN f := by rw [e2, hs1]; rfl
  have hids : (syncS s1 f).ids = f :: s.ids := by rw [e2, hs1]; rfl
  have hsf : (syncS s1 f).sf f = keptB := by rw [e2]; show updF s1.sf f (s1.by_ f) f = keptB; simp [updF, hby]
  have hby2 : (syncS s1 f).by_ f = keptB := by rw [e2]; exact hby
  have hstr : (syncS s1 f).strokes = 2 := by rw [e2, hs1]; show s.strokes + 1 + 1 = 2; rw [hse.strokes]; rfl
  have hoff2 : (syncS s1 f).off = 0 := by rw [e2, hs1]; exact hoff
  rw [← hs1, e3]
  generalize syncS s1 f = s2 at *
  refine ⟨⟨rfl, fun n hn => ?_, by show Ris s2.seen; rw [hseen]; exact hr.put keptN f, hby2, hsf⟩, ⟨o2, hoff2, by show s2.strokes + 1 ≤ _; omega, Nat.zero_le _, by show s2.seen.length ≤ 16; rw [hseen]; exact hlen⟩⟩
  have hn0 : n = 0 := by simpa using hn
  subst hn0
  show OkL s2.ids f s2.seen
  rw [hids, hseen]
  exact hok
end Go.Proofs.Ytejmbhckfdfoeaa
