/-
  A MAP FROM NAMES TO FILES in a world: what its block is good for.
-/
import Derived.Maps.OwnOps
import Derived.OwnWalk
import Derived.Deep.AppendLies
import Derived.StillTailTactics
import Derived.Deep.QuietTactic
import Derived.BigQuiet
import Derived.Maps.AppendAt
import Derived.RegionTactic
import Derived.Test.YtejmbhckfdfoeaaEM01
set_option linter.unusedVariables false
set_option linter.unusedSimpArgs false
namespace Go.Proofs.Ytejmbhckfdfoeaa
open Go.RowKit Go.Maps
def ptrV : Option Nat → Value
  | some b => .pointer (some ⟨b, 0, none⟩)
  | none => .pointer none
/-- how a pointer to a file reads -/
def ptrElem : Value → Option (DataW Unit × List MemPlace)
  | .pointer (some a) => if a.off = 0 ∧ a.spot = none then some (idD a.block, []) else none
  | .pointer none => some (nilD, [])
  | _ => none
theorem ptrElem_mk (o : Option Nat) : ptrElem (ptrV o) = some (optD o, []) := by cases o <;> simp [ptrElem, ptrV, optD]
theorem ptrElem_inv {v : Value} {o : Option Nat} {ps : List MemPlace} (h : ptrElem v = some (optD o, ps)) : v = ptrV o := by
  unfold ptrElem at h
  split at h
  · rename_i a
    split at h
    · rename_i hc
      obtain ⟨blk, off, spot⟩ := a
      simp at hc
      obtain ⟨rfl, rfl⟩ := hc
      cases o with
      | none => simp [optD] at h
      | some b =>
        simp [optD] at h
        obtain ⟨h, _⟩ := h
        have : blk = b := by omega
        subst this
        rfl
    · cases h
  · cases o with
    | none => rfl
    | some b => simp [optD] at h
  · cases h
abbrev keyed : Keyed Try.prog 9 := string_keyed Try.underlying9
theorem keyOf_nm (x : List UInt8) (hx : x.length ≤ maxLen) : keyOf Try.prog 9 (.string ⟨x.toArray⟩) = some (.string x) := by
  simp [keyOf, Try.underlying9, mapKey, hx, ByteArray.size]
theorem zero_ptr (w : World) : (zeroValue 66).run Try.prog w = .ok (.pointer none) w := by kernel_rfl
/-- block b is a map that reads as this list -/
structure MapRep (w : World) (b : Nat) (l : NM) : Prop where
  ex : ∃ D, w.ownsMap Try.prog 9 ptrElem b l.length D ∧ DRep D l
theorem own_atSize {w : World} {P : Program} {k : TypeId} {R : Value → Option (DataW Unit × List MemPlace)} {b n : Nat} {D : DataW Unit} (h : w.ownsMap P k R b n D) : w.ownsMap P k R b (size D) D := by
  obtain ⟨es, clock, hb, F, hs, rfl⟩ := h
  exact ⟨es, clock, hb, F, by rw [size_eq, length_sorted]; simp, rfl⟩
theorem MapRep.of {w : World} {b n : Nat} {l : NM} {D : DataW Unit} (h : w.ownsMap Try.prog 9 ptrElem b n D) (hD : DRep D l) : MapRep w b l := ⟨⟨D, by rw [← hD.size_]; exact own_atSize h, hD⟩⟩
theorem MapRep.made (w : World) : MapRep (w.alloc (.map #[] 0)) w.heap.size [] := MapRep.of (World.ownsMap_made w _ _ _) DRep.nil
theorem MapRep.lt {w : World} {b : Nat} {l : NM} (h : MapRep w b l) : b < w.heap.size := by
  obtain ⟨D, ho, _⟩ := h.ex
  exact ho.lt
theorem MapRep.ris {w : World} {b : Nat} {l : NM} (h : MapRep w b l) : Ris l := by
  obtain ⟨D, _, hD⟩ := h.ex
  exact hD.ris
theorem MapRep.isMap {w : World} {b : Nat} {l : NM} (h : MapRep w b l) : ∃ es c, w.heap[b]? = some (.map es c) := by
  obtain ⟨D, ⟨es, c, hb, _⟩, _⟩ := h.ex
  exact ⟨es, c, hb⟩
theorem MapRep.block {w w' : World} {b : Nat} {l : NM} (h : MapRep w b l) (hb : w'.heap[b]? = w.heap[b]?) : MapRep w' b l := by
  obtain ⟨D, ⟨es, c, h1, h2⟩, hD⟩ := h.ex
  exact ⟨⟨D, ⟨es, c, hb.trans h1, h2⟩, hD⟩⟩
theorem MapRep.below {w w' : World} {b C : Nat} {l : NM} (h : MapRep w b l) (hB : Below C w w') (hC : b < C) : MapRep w' b l := h.block (hB.block b hC)
theorem MapRep.next {w w' : World} {b : Nat} {l : NM} (h : MapRep w b l) (hB : Below w.heap.size w w') : MapRep w' b l := h.below hB h.lt
theorem MapRep.lookup {w : World} {b : Nat} {l : NM} (h : MapRep w b l) (x : List UInt8) (hx : x.length ≤ maxLen) :
    (Instr.lookup 62 (.map (some b)) (.string ⟨x.toArray⟩) false).run Try.prog w = .ok (ptrV (lget l x)) w := by
  obtain ⟨D, ho, hD⟩ := h.ex
  obtain ⟨v, ps, hrun, hv⟩ := ho.lookup keyed Try.underlying62 (zero_ptr w) (ptrElem_mk none) (keyOf_nm x hx)
  have : v = ptrV (lget l x) := ptrElem_inv (ps := ps) (by rw [hv]; exact congrArg (fun z => some (z, ps)) (hD.at_ x))
  rw [hrun, this]
theorem MapRep.update {w : World} {b : Nat} {l : NM} (h : MapRep w b l) (x : List UInt8) (hx : x.length ≤ maxLen) (f : Nat) (hl : l.length < maxLen) :
    ∃ w', (Instr.mapUpdate 62 (.map (some b)) (.string ⟨x.toArray⟩) (ptrV (some f))).run Try.prog w = .ok () w' ∧ MapRep w' b (lput l x f) ∧ w.grownBy w' (some b) := by
  obtain ⟨D, ho, hD⟩ := h.ex
  obtain ⟨w', hrun, ho', hg⟩ := ho.update keyed Try.underlying62 hl (keyOf_nm x hx) (ptrElem_mk (some f))
  exact ⟨w', hrun, MapRep.of ho' (hD.put x f trivial), hg⟩
theorem MapRep.len {w : World} {b : Nat} {l : NM} (h : MapRep w b l) (ty : TypeId) : (Builtin.len_ #[62] ty #[.map (some b)]).run Try.prog w = .ok (.int .i64 l.length) w := by
  obtain ⟨D, ho, hD⟩ := h.ex
  rw [ho.len Try.underlying62 ty, hD.size_]
theorem MapRep.drop {w : World} {b : Nat} {l : NM} (h : MapRep w b l) (x : List UInt8) (hx : x.length ≤ maxLen) (ty : TypeId) :
    ∃ w', (Builtin.delete_ #[62, 9] ty #[.map (some b), .string ⟨x.toArray⟩]).run Try.prog w = .ok (.tuple #[]) w' ∧ MapRep w' b (ldel l x) ∧ w.grownBy w' (some b) := by
  obtain ⟨D, ho, hD⟩ := h.ex
  obtain ⟨w', hrun, ho', hg⟩ := ho.drop keyed Try.underlying62 (keyOf_nm x hx) ty
  exact ⟨w', hrun, MapRep.of ho' (hD.del x), hg.grown⟩
end Go.Proofs.Ytejmbhckfdfoeaa
/-
  A DISK in a world: its box, its maps, its changes, its files; what a call of it turns.
-/
set_option linter.unusedVariables false
set_option linter.unusedSimpArgs false
namespace Go.Proofs.Ytejmbhckfdfoeaa
open Go.RowKit Go.Maps
/-- a change of names -/
inductive Chg where
  | put (x : List UInt8) (f : Nat)
  | mv (a b : List UInt8) (f : Nat)
  | del (x : List UInt8)
def Chg.on (l : NM) : Chg → NM
  | .put x f => lput l x f
  | .mv a b f => lput (ldel l a) b f
  | .del x => ldel l x
/-- the closure v is this change -/
def ChgRep (w : World) (v : Value) : Chg → Prop
  | .put x f => ∃ cf cx, v = .func (.func 38) #[] #[.pointer (some ⟨cf, 0, none⟩), .pointer (some ⟨cx, 0, none⟩)] ∧ Box w cf 66 #[ptrV (some f)] ∧ Box w cx 9 #[.string ⟨x.toArray⟩] ∧ x.length ≤ maxLen
  | .mv a b f => ∃ ca cf cb, v = .func (.func 40) #[] #[.pointer (some ⟨ca, 0, none⟩), .pointer (some ⟨cf, 0, none⟩), .pointer (some ⟨cb, 0, none⟩)] ∧ Box w ca 9 #[.string ⟨a.toArray⟩] ∧ Box w cf 66 #[ptrV (some f)] ∧ Box w cb 9 #[.string ⟨b.toArray⟩] ∧ a.length ≤ maxLen ∧ b.length ≤ maxLen
  | .del x => ∃ cx, v = .func (.func 41) #[] #[.pointer (some ⟨cx, 0, none⟩)] ∧ Box w cx 9 #[.string ⟨x.toArray⟩] ∧ x.length ≤ maxLen
/-- what a disk's calls may write: maps, disks, rows of changes, files -/
def dObj : Obj → Bool
  | .map .. => true
  | .cells _ t _ => t == 65 || t == 78 || t == 68
  | _ => false
/-- a step that turns nothing below B, and of all blocks only such -/
structure Step (B : Nat) (w w' : World) : Prop where
  below : Below B w w'
  keep : ∀ (k : Nat) (o : Obj), w.heap[k]? = some o → dObj o = false → w'.heap[k]? = some o
theorem Step.refl (B : Nat) (w : World) : Step B w w := ⟨Below.refl B w, fun _ _ h _ => h⟩
theorem Step.trans {B : Nat} {a b c : World} (h : Step B a b) (k : Step B b c) : Step B a c := ⟨h.below.trans k.below, fun i o hi ho => k.keep i o (h.keep i o hi ho) ho⟩
theorem Step.of_below {B : Nat} {w w' : World} (h : Below w.heap.size w w') (hB : B ≤ w.heap.size) : Step B w w' := ⟨h.mono hB, fun k o hk _ => (h.block k (Array.getElem?_eq_some_iff.1 hk).1).trans hk⟩
theorem Step.of_grown {B : Nat} {w w' : World} {r : Nat} {o : Obj} (hg : w.grownBy w' (some r)) (hr : w.heap[r]? = some o) (ho : dObj o = true) (hB : B ≤ r) : Step B w w' :=
  ⟨(Below.refl B w).grown hg (Nat.le_of_lt (Nat.lt_of_le_of_lt hB (Array.getElem?_eq_some_iff.1 hr).1)) (fun k hk => by cases hk; exact hB), fun k o' hk hd => (hg.block k (Array.getElem?_eq_some_iff.1 hk).1 (fun e => by cases e; rw [hr] at hk; cases hk; rw [ho] at hd; cases hd)).trans hk⟩
theorem Step.of_set {B : Nat} {w : World} {b j : Nat} {T : TypeId} {cs : Array Value} (hb : Box w b T cs) (hT : dObj (.cells cs T (0, 0)) = true) (hB : B ≤ b) (v : Value) : Step B w (w.setCell ⟨b, j, none⟩ v) :=
  ⟨(Below.refl B w).setCell (p := ⟨b, j, none⟩) hB v, fun k o hk hd => (Below.heap_setCell _ _ _ _ (fun e => by
    simp at e; subst e; rw [hb] at hk; cases hk; rw [hT] at hd; cases hd)).trans hk⟩
theorem Box.step {w w' : World} {B b : Nat} {T : TypeId} {cs : Array Value} (h : Box w b T cs) (hs : Step B w w') (hT : dObj (.cells cs T (0, 0)) = false) : Box w' b T cs := hs.keep b _ h hT
theorem ChgRep.step {w w' : World} {B : Nat} {v : Value} {c : Chg} (h : ChgRep w v c) (hs : Step B w w') : ChgRep w' v c := by
  cases c with
  | put x f => obtain ⟨cf, cx, e, h1, h2, h3⟩ := h; exact ⟨cf, cx, e, h1.step hs rfl, h2.step hs rfl, h3⟩
  | mv a b f => obtain ⟨ca, cf, cb, e, h1, h2, h3, h4⟩ := h; exact ⟨ca, cf, cb, e, h1.step hs rfl, h2.step hs rfl, h3.step hs rfl, h4⟩
  | del x => obtain ⟨cx, e, h1, h2⟩ := h; exact ⟨cx, e, h1.step hs rfl, h2⟩
/-- bytes in memory of their own: none, or in a block of bytes -/
structure BytesRep (B : Nat) (w : World) (v : Value) (xs : List Int) : Prop where
  rd : Rd w .u8 v xs
  home : 0 < xs.length → ∃ b off cs fz c, v = .slice (some ⟨b, off, none⟩) xs.length c ∧ w.heap[b]? = some (.cells cs 5 fz) ∧ B ≤ b
  len : xs.length ≤ 4194304
  cap : ∀ o n c, v = .slice o n c → n ≤ c ∧ c ≤ 9223372036854775807
theorem BytesRep.move {B : Nat} {w w' : World} {v : Value} {xs : List Int} (h : BytesRep B w v xs) (hk : ∀ (k : Nat) (o : Obj), w.heap[k]? = some o → dObj o = false → w'.heap[k]? = some o) : BytesRep B w' v xs := by
  refine ⟨?_, fun h0 => ?_, h.len, h.cap⟩
  · obtain ⟨o, cap, rfl, hc⟩ := h.rd
    refine ⟨o, cap, rfl, fun j hj => ?_⟩
    obtain ⟨b, off, rfl, hcell⟩ := hc j hj
    obtain ⟨b', off', cs, fz, c, he, hb, _⟩ := h.home (by omega)
    simp at he
    obtain ⟨⟨rfl, rfl⟩, _⟩ := he
    exact ⟨b, off, rfl, (World.cell?_of_block (w := w) (a := ⟨b, off + j, none⟩) ((hk b _ hb rfl).trans hb.symm)).trans hcell⟩
  · obtain ⟨b, off, cs, fz, c, he, hb, hB⟩ := h.home h0
    exact ⟨b, off, cs, fz, c, he, hk _ _ hb rfl, hB⟩
theorem BytesRep.step {B C : Nat} {w w' : World} {v : Value} {xs : List Int} (h : BytesRep C w v xs) (hs : Step B w w') : BytesRep C w' v xs := h.move hs.keep
theorem BytesRep.mono {B C : Nat} {w : World} {v : Value} {xs : List Int} (h : BytesRep C w v xs) (hB : B ≤ C) : BytesRep B w v xs :=
  ⟨h.rd, fun h0 => let ⟨b, off, cs, fz, c, he, hb, hC⟩ := h.home h0; ⟨b, off, cs, fz, c, he, hb, Nat.le_trans hB hC⟩, h.len, h.cap⟩
theorem BytesRep.nil (B : Nat) (w : World) : BytesRep B w (.slice none 0 0) [] :=
  ⟨Rd.nil _ _ _ _, fun h => absurd h (Nat.lt_irrefl _), Nat.zero_le _, fun o n c e => by cases e; exact ⟨Nat.le_refl _, Nat.zero_le _⟩⟩
theorem BytesRep.own {B : Nat} {w : World} {v : Value} {xs : List Int} (h : OwnI w B 5 .u8 v xs) (hl : xs.length ≤ 4194304) : BytesRep B w v xs := by
  refine ⟨Rd.of_own h, fun h0 => ?_, hl, fun o n c e => ?_⟩
  · rcases h.2 with ⟨_, hn⟩ | ⟨g, cap, cur, rfl, hb, hgg, _⟩
    · omega
    · exact ⟨g, 0, cur, (0, 0), cap, rfl, hgg, hb⟩
  · rcases h.2 with ⟨rfl, hn⟩ | ⟨g, cap, cur, rfl, hb, hgg, hn, hc, _⟩
    · cases e; exact ⟨Nat.le_refl _, Nat.zero_le _⟩
    · cases e
      unfold maxLen at hc
      exact ⟨hn, by omega⟩
/-- a disk's state -/
structure DSt where
  seen : NM
  safe : NM
  chs : List Chg
  strokes : Int
  off : Int
  dead : Bool
  by_ : Nat → List Int
  sf : Nat → List Int
  ids : List Nat
structure FileRep (B : Nat) (w : World) (f : Nat) (xs ys : List Int) : Prop where
  ex : ∃ vb vs, Box w f 68 #[vb, vs] ∧ BytesRep B w vb xs ∧ BytesRep B w vs ys
  ge : B ≤ f
/-- the block p is such a disk, all its memory from B on -/
structure DRepr (B : Nat) (w : World) (p bs bf : Nat) (cv : Value) (vs : List Value) (s : DSt) : Prop where
  box : Box w p 65 #[.map (some bs), .map (some bf), cv, .int .i64 s.strokes, .int .i64 s.off, .bool s.dead]
  seen : MapRep w bs s.seen
  safe : MapRep w bf s.safe
  ne : bs ≠ bf
  row : w.ownsRow B 78 1 cv s.chs.length vs
  chs : ∀ (i : Nat) (c : Chg), s.chs[i]? = some c → ∃ v, vs[i]? = some v ∧ ChgRep w v c
  files : ∀ f ∈ s.ids, FileRep B w f (s.by_ f) (s.sf f)
  in1 : ∀ q ∈ s.seen, q.2 ∈ s.ids
  in2 : ∀ q ∈ s.safe, q.2 ∈ s.ids
  nm1 : ∀ q ∈ s.seen, q.1.length ≤ maxLen
  hp : B ≤ p
  hs : B ≤ bs
  hf : B ≤ bf
  strk : 0 ≤ s.strokes ∧ s.strokes ≤ 1000000
  offb : -9223372036854775808 ≤ s.off ∧ s.off ≤ 9223372036854775807
  chl : s.chs.length ≤ 1000000
  many : s.seen.length ≤ 1000000
/-- a step of others: nothing of the disk's is written -/
theorem DRepr.next {B : Nat} {w w' : World} {p bs bf : Nat} {cv : Value} {vs : List Value} {s : DSt} (h : DRepr B w p bs bf cv vs s) (hb : Below w.heap.size w w') (hB : B ≤ w.heap.size) : DRepr B w' p bs bf cv vs s := by
  have hst : Step B w w' := Step.of_below hb hB
  exact ⟨h.box.next hb, h.seen.next hb, h.safe.next hb, h.ne, own_below h.row hb (Nat.le_refl _), fun i c hi => let ⟨v, h1, h2⟩ := h.chs i c hi; ⟨v, h1, h2.step hst⟩,
    fun f hf => let ⟨⟨vb, vs', h1, h2, h3⟩, h4⟩ := h.files f hf; ⟨⟨vb, vs', h1.next hb, h2.step hst, h3.step hst⟩, h4⟩, h.in1, h.in2, h.nm1, h.hp, h.hs, h.hf, h.strk, h.offb, h.chl, h.many⟩
theorem DRepr.baseLt {B : Nat} {w : World} {p bs bf : Nat} {cv : Value} {vs : List Value} {s : DSt} (h : DRepr B w p bs bf cv vs s) : B < w.heap.size := Nat.lt_of_le_of_lt h.hp h.box.lt
end Go.Proofs.Ytejmbhckfdfoeaa
/-
  SMALL FUNCTIONS of a disk: what stands against a call; a stroke; the changes of names.
-/
set_option linter.unusedVariables false
set_option linter.unusedSimpArgs false
namespace Go.Proofs.Ytejmbhckfdfoeaa
open Go.RowKit Go.Maps
def askI (dead form : Bool) : Int := bif dead then 6 else bif form then 0 else 1
theorem ask_any (p : Nat) (dead form : Bool) (w : World) (h : w.cell? ⟨p, 5, none⟩ = some (.bool dead)) :
    Calls Try.prog 34 #[.pointer (some ⟨p, 0, none⟩), .bool form] w fun e w' => e = .returned (.int .i64 (askI dead form)) ∧ w = w' := by
  cases dead with
  | true =>
    go_enter Try.func34, Try.ntmps34
    go_wp2
    go_ret
    exact ⟨rfl, rfl⟩
  | false =>
    cases form with
    | true =>
      go_enter Try.func34, Try.ntmps34
      go_wp2
      go_ret
      exact ⟨rfl, rfl⟩
    | false =>
      go_enter Try.func34, Try.ntmps34
      go_wp2
      go_ret
      exact ⟨rfl, rfl⟩
def toldI (off : Bool) : Int := bif off then 6 else 0
theorem told_any (off : Bool) (w : World) :
    Calls Try.prog 39 #[.bool off] w fun e w' => e = .returned (.int .i64 (toldI off)) ∧ w = w' := by
  cases off with
  | true =>
    go_enter Try.func39, Try.ntmps39
    go_wp2
    go_ret
    exact ⟨rfl, rfl⟩
  | false =>
    go_enter Try.func39, Try.ntmps39
    go_wp2
    go_ret
    exact ⟨rfl, rfl⟩
def offB (s : DSt) : Bool := decide (1 ≤ s.off) && decide (s.off ≤ s.strokes + 1)
def strokeS (s : DSt) : DSt := { s with strokes := s.strokes + 1, dead := offB s }
theorem DRepr.turn {B : Nat} {w w' : World} {p bs bf : Nat} {cv : Value} {vs : List Value} {s : DSt} (h : DRepr B w p bs bf cv vs s) {st : Int} {dd : Bool} (hst : 0 ≤ st ∧ st ≤ 1000000)
    (hb : Box w' p 65 #[.map (some bs), .map (some bf), cv, .int .i64 st, .int .i64 s.off, .bool dd]) (hs : Step B w w') (hk : ∀ k, k < w.heap.size → k ≠ p → w'.heap[k]? = w.heap[k]?) :
    DRepr B w' p bs bf cv vs { s with strokes := st, dead := dd } := by
  have hmap : ∀ {b : Nat} {l : NM}, MapRep w b l → MapRep w' b l := fun {b l} hm => hm.block (hk b hm.lt fun e => by
    subst e
    obtain ⟨es, c, hh⟩ := hm.isMap
    have hbx := h.box
    unfold Box at hbx
    rw [hh] at hbx
    cases hbx)
  have hrow : w'.ownsRow B 78 1 cv s.chs.length vs := by
    refine ⟨h.row.1, ?_⟩
    rcases h.row.2 with hn | ⟨g, cap, cur, rfl, hbb, hgg, rest⟩
    · exact .inl hn
    · have hne : g ≠ p := fun e => by
        subst e
        have hbx := h.box
        unfold Box at hbx
        rw [hgg] at hbx
        simp at hbx
      exact .inr ⟨g, cap, cur, rfl, hbb, by rw [hk g (Array.getElem?_eq_some_iff.1 hgg).1 hne]; exact hgg, rest⟩
  refine ⟨hb, hmap h.seen, hmap h.safe, h.ne, hrow, fun i c hi => let ⟨v, h1, h2⟩ := h.chs i c hi; ⟨v, h1, h2.step hs⟩, fun f hf => ?_, h.in1, h.in2, h.nm1, h.hp, h.hs, h.hf, hst, h.offb, h.chl, h.many⟩
  obtain ⟨⟨vb, vs', h1, h2, h3⟩, h4⟩ := h.files f hf
  refine ⟨⟨vb, vs', ?_, h2.step hs, h3.step hs⟩, h4⟩
  unfold Box
  rw [hk f h1.lt fun e => by
    subst e
    have hbx := h.box
    unfold Box at hbx h1
    rw [h1] at hbx
    simp at hbx]
  exact h1
set_option maxRecDepth 100000 in
set_option maxHeartbeats 1000000 in
theorem stroke_any {B : Nat} {w : World} {p bs bf : Nat} {cv : Value} {vs : List Value} {s : DSt} (h : DRepr B w p bs bf cv vs s) (hlt : s.strokes < 1000000) :
    Calls Try.prog 36 #[.pointer (some ⟨p, 0, none⟩)] w fun e w' => e = .returned (.bool (offB s)) ∧ DRepr B w' p bs bf cv vs (strokeS s) ∧ Step B w w' ∧ w'.heap.size = w.heap.size := by
  obtain ⟨ss, hss⟩ : ∃ ss, ss = s.strokes := ⟨_, rfl⟩
  obtain ⟨of, hof⟩ : ∃ of, of = s.off := ⟨_, rfl⟩
  have hb := h.box
  rw [← hss, ← hof] at hb
  have h1 := h.strk
  have h2 := h.offb
  rw [← hss] at h1 hlt
  rw [← hof] at h2
  have HD := Lib.hid h
  have HB := Lib.hid hb
  have HSS := Lib.hid hss
  have HOF := Lib.hid hof
  have HO : Hid (offB s = (decide (1 ≤ of) && decide (of ≤ ss + 1))) := Lib.hid (by rw [offB, hss, hof])
  clear h hb hss hof
  have c3 := HB.out.cell 3 rfl
  have f3 := HB.out.free 3
  obtain ⟨w1, hw1⟩ : ∃ w1, w1 = w.setCell ⟨p, 3, none⟩ (.int .i64 (ss + 1)) := ⟨_, rfl⟩
  have HB1 := Lib.hid (show Box w1 p 65 #[.map (some bs), .map (some bf), cv, .int .i64 (ss + 1), .int .i64 of, .bool s.dead] by rw [hw1]; exact HB.out.set 3 _)
  have HW1 := Lib.hid hw1
  clear hw1
  have c3' := HB1.out.cell 3 rfl
  have c4' := HB1.out.cell 4 rfl
  have c5' := HB1.out.cell 5 rfl
  have f5' := HB1.out.free 5
  obtain ⟨w2, hw2⟩ : ∃ w2, w2 = (w1.setCell ⟨p, 5, none⟩ (.bool (offB s))).drew := ⟨_, rfl⟩
  have HB2 := Lib.hid (show Box w2 p 65 #[.map (some bs), .map (some bf), cv, .int .i64 (ss + 1), .int .i64 of, .bool (offB s)] by rw [hw2]; exact (HB1.out.set 5 _).same ⟨1, rfl⟩)
  have c5'' := HB2.out.cell 5 rfl
  have HW2 := Lib.hid hw2
  have HST := Lib.hid (show Step B w w2 from by
    rw [hw2, HW1.out]
    exact ((Step.of_set HB.out rfl HD.out.hp _).trans (Step.of_set (HB.out.set 3 _) rfl HD.out.hp _)).trans ⟨Below.drew (Below.refl _ _), fun _ _ h _ => h⟩)
  have HK := Lib.hid (show ∀ k, k < w.heap.size → k ≠ p → w2.heap[k]? = w.heap[k]? from fun k _ hk => by
    rw [hw2, HW1.out]
    show ((w.setCell _ _).setCell _ _).heap[k]? = _
    rw [Below.heap_setCell _ _ _ _ hk, Below.heap_setCell _ _ _ _ hk])
  have HZ := Lib.hid (show w2.heap.size = w.heap.size from by rw [hw2, HW1.out]; simp [World.setCell, World.drew])
  clear hw2
  have HEND := Lib.hid (show DRepr B w2 p bs bf cv vs (strokeS s) from by
    have := HD.out.turn (st := ss + 1) (dd := offB s) ⟨by omega, by omega⟩ (by rw [← HOF.out]; exact HB2.out) HST.out HK.out
    rw [strokeS, ← HSS.out]; exact this)
  rw [HW1.out] at c3' c4' c5' f5'
  go_enter Try.func36, Try.ntmps36
  go_wp2_with fail
  rw [← HW1.out] at c3' c4' c5' f5' ⊢
  by_cases g1 : 1 ≤ of
  · have e1 : decide (1 ≤ of) = true := decide_eq_true g1
    go_still_tail 19, (by kernel_rfl)
    have HX := Lib.hid (show (w1.setCell ⟨p, 5, none⟩ (.bool (decide (of ≤ ss + 1)))).drew = w2 by rw [HW2.out, HO.out, e1, Bool.true_and])
    have HY := Lib.hid (show decide (of ≤ ss + 1) = offB s by rw [HO.out, e1, Bool.true_and])
    go_upto_region 3 with (fail)
    rw [HX.out]
    go_wp2_with fail
    go_ret
    exact ⟨rfl, HEND.out, HST.out, HZ.out⟩
  · have e1 : decide (1 ≤ of) = false := decide_eq_false g1
    go_region
    have HX := Lib.hid (show (w1.setCell ⟨p, 5, none⟩ (.bool false)).drew = w2 by rw [HW2.out, HO.out, e1, Bool.false_and])
    go_upto_region 3 with (fail)
    rw [HX.out]
    go_wp2_with fail
    go_ret
    exact ⟨rfl, HEND.out, HST.out, HZ.out⟩
end Go.Proofs.Ytejmbhckfdfoeaa
/-
  append OF A PART that may be empty (and nil) onto a row of the call's own.
-/
set_option linter.unusedVariables false
set_option linter.unusedSimpArgs false
namespace Go.Proofs.Ytejmbhckfdfoeaa
open Go.RowKit
theorem run_append_empty {P : Program} (w : World) (t ty : TypeId) (e : TypeId) (i : TypeInfo) (ht : P.underlying t = some (.slice e)) (hi : P.info? e = some i) (o o' : Option Addr) (n cap c : Nat) (hc : n ≤ cap) :
    (Builtin.append_ #[t, t] ty #[.slice o n cap, .slice o' 0 c]).run P w = .ok (.slice o n cap) w := by
  cases o <;> cases o' <;> simp [Builtin.append_, run_underlying ht, sizeOf, typeInfo, hi, Builtin.lenOf, Builtin.firstCells, loadCells, loadCellsFrom, storeCells, hc, Result.andThen]
theorem own_caps {w : World} {B : Nat} {e : TypeId} {s n : Nat} {v : Value} {xs : List Value} (h : w.ownsRow B e s v n xs) : ∃ o cap, v = .slice o n cap ∧ n ≤ cap := by
  rcases h.2 with ⟨rfl, rfl⟩ | ⟨g, cap, cur, rfl, hb, hgg, hn, rest⟩
  · exact ⟨none, 0, rfl, Nat.le_refl _⟩
  · exact ⟨_, _, rfl, hn⟩
/-- append of what reads as ys onto a row of the call's own that reads as xs -/
theorem run_append_rd {P : Program} (w : World) (t ty : TypeId) (B : Nat) (e : TypeId) (K : IntKind) (i : TypeInfo) (bytes : Nat) (ht : P.underlying t = some (.slice e)) (hi : P.info? e = some i) (hz : i.zero = some (.int K 0)) (hsize : i.size = 1) (hby : i.bytes = bytes)
    (v : Value) (xs : List Int) (hown : OwnI w B e K v xs) (u : Value) (ys : List Int) (hr : Rd w K u ys)
    (h63 : xs.length + ys.length ≤ maxLen) (hbytes : (xs.length + ys.length) * bytes ≤ 140737488355328) (hbase : B ≤ w.heap.size) :
    ∃ v' w', (Builtin.append_ #[t, t] ty #[v, u]).run P w = .ok v' w' ∧ OwnI w' B e K v' (xs ++ ys) ∧ w.grownBy w' v.ownBlock ∧ (v'.ownBlock = v.ownBlock ∨ v'.ownBlock = some w.heap.size) := by
  obtain ⟨o, c, rfl, hc⟩ := hr
  by_cases h0 : ys.length = 0
  · have : ys = [] := List.eq_nil_of_length_eq_zero h0
    subst this
    obtain ⟨ov, cap, rfl, hle⟩ := own_caps hown
    refine ⟨_, w, run_append_empty w t ty e i ht hi _ _ _ _ _ hle, ?_, ⟨rfl, rfl, rfl, Nat.le_refl _, fun _ _ _ => rfl⟩, .inl rfl⟩
    rw [List.append_nil]; exact hown
  · obtain ⟨b, off, rfl, _⟩ := hc 0 (by omega)
    obtain ⟨v', w', hrun, h2, h3, _, h5⟩ := run_append_own_at (P := P) w B t ty e i (.int K 0) 1 bytes ht hi hz hsize hby rfl (by decide) v xs.length _ hown ⟨b, off, none⟩ ys.length c (ys.map (.int K)) (by simp) (fun j x hj => by
        have hjl : j < ys.length := by have := (List.getElem?_eq_some_iff.1 hj).1; simpa using this
        obtain ⟨b', off', he, hcell⟩ := hc j hjl
        cases he
        have hx : x = .int K (nth ys j) := by
          have h1 : (ys.map (Value.int K))[j]? = some (.int K (nth ys j)) := by rw [List.getElem?_map, List.getElem?_eq_getElem hjl, nth_eq ys j hjl]; rfl
          rw [h1] at hj
          exact (Option.some.inj hj).symm
        rw [hx, Addr.add_lit]
        exact hcell) (fun x hx => by
        obtain ⟨y, _, rfl⟩ := List.mem_map.1 hx
        rfl) h63 hbytes hbase
    exact ⟨v', w', hrun, own_cat h2 rfl, h3, h5⟩
/-- the same at a step of a region that draws -/
theorem step_append_rd {P : Program} {ops : Array Oper} {o : Oper} {a : Act} {w : World} {K' : Act → World → Prop} {Q : Exit → Act → World → Prop} {E : Prop} (hgd : o.guard = none) (s x : Operand) (t : TypeId)
    (ho : o.op = .call { callee := .builtin .append, args := #[s, x], argTypes := #[t, t] })
    (B : Nat) (e : TypeId) (K : IntKind) (i : TypeInfo) (bytes : Nat) (ht : P.underlying t = some (.slice e)) (hi : P.info? e = some i) (hz : i.zero = some (.int K 0)) (hsize : i.size = 1) (hby : i.bytes = bytes)
    (v : Value) (xs : List Int) (hs : a.eval s = v) (hown : OwnI w B e K v xs) (u : Value) (ys : List Int) (hx : a.eval x = u) (hr : Rd w K u ys)
    (h63 : xs.length + ys.length ≤ maxLen) (hbytes : (xs.length + ys.length) * bytes ≤ 140737488355328) (hbase : B ≤ w.heap.size)
    (h : ∀ v' w', OwnI w' B e K v' (xs ++ ys) → w.grownBy w' v.ownBlock → (v'.ownBlock = v.ownBlock ∨ v'.ownBlock = some w.heap.size) → K' (a.put o.dst v') w') :
    if Region.wanted o (yielded ops a.tmps) = true then Oper.wp P o a w K' Q else E := by
  have hw : Region.wanted o (yielded ops a.tmps) = true := by simp [Region.wanted, hgd]
  rw [if_pos hw]
  obtain ⟨v', w', hrun, h2, h3, h4⟩ := run_append_rd (P := P) w t o.type B e K i bytes ht hi hz hsize hby v xs hown u ys hr h63 hbytes hbase
  unfold Oper.wp execOp
  simp only [ho, resolve, invoke, builtin, Sem.run_bind, Sem.run_pure, Result.andThen_ok, List.map_toArray, List.map_cons, List.map_nil, hs, hx, hrun]
  exact h v' w' h2 h3 h4
/-- the same in a plain region's list -/
theorem wpList_append_rd {P : Program} {ops : Array Oper} {rest : List Oper} {o : Oper} {a : Act} {w : World} {Q : Exit → Act → World → Prop} (hgd : o.guard = none) (s x : Operand) (t : TypeId)
    (ho : o.op = .call { callee := .builtin .append, args := #[s, x], argTypes := #[t, t] })
    (B : Nat) (e : TypeId) (K : IntKind) (i : TypeInfo) (bytes : Nat) (ht : P.underlying t = some (.slice e)) (hi : P.info? e = some i) (hz : i.zero = some (.int K 0)) (hsize : i.size = 1) (hby : i.bytes = bytes)
    (v : Value) (xs : List Int) (hs : a.eval s = v) (hown : OwnI w B e K v xs) (u : Value) (ys : List Int) (hx : a.eval x = u) (hr : Rd w K u ys)
    (h63 : xs.length + ys.length ≤ maxLen) (hbytes : (xs.length + ys.length) * bytes ≤ 140737488355328) (hbase : B ≤ w.heap.size)
    (h : ∀ v' w', OwnI w' B e K v' (xs ++ ys) → w.grownBy w' v.ownBlock → (v'.ownBlock = v.ownBlock ∨ v'.ownBlock = some w.heap.size) → wpList P ops Q rest (a.put o.dst v') w') :
    wpList P ops Q (o :: rest) a w := by
  refine wpList_plain hgd fun K' hK => ?_
  obtain ⟨v', w', hrun, h2, h3, h4⟩ := run_append_rd (P := P) w t o.type B e K i bytes ht hi hz hsize hby v xs hown u ys hr h63 hbytes hbase
  unfold Oper.wp execOp
  simp only [ho, resolve, invoke, builtin, Sem.run_bind, Sem.run_pure, Result.andThen_ok, List.map_toArray, List.map_cons, List.map_nil, hs, hx, hrun]
  exact hK _ _ (h v' w' h2 h3 h4)
theorem OwnI.lit (w : World) (K : IntKind) (xs : List Int) (e : TypeId) (h0 : xs.length ≤ maxLen) : OwnI (w.alloc (.cells (xs.map (Value.int K)).toArray e)) w.heap.size e K (.slice (some ⟨w.heap.size, 0, none⟩) xs.length xs.length) xs :=
  ⟨by simp, .inr ⟨w.heap.size, xs.length, _, rfl, Nat.le_refl _, heap_alloc_new w _, Nat.le_refl _, h0, by simp, by simp [List.take_of_length_le]⟩⟩
theorem below_grown' {w w' : World} {B : Nat} {e : TypeId} {s n : Nat} {v : Value} {xs : List Value} (h : w.ownsRow B e s v n xs) (hg : w.grownBy w' v.ownBlock) (hB : B ≤ w.heap.size) : Below B w w' :=
  (Below.refl B w).grown hg hB (fun k hk => (h.lt k hk).1)
end Go.Proofs.Ytejmbhckfdfoeaa
/-
  slices.Clone of bytes; bytes compared (slices.Equal); the references' CopyBytes, EqBytes.
-/
set_option linter.unusedVariables false
set_option linter.unusedSimpArgs false
namespace Go.Proofs.Ytejmbhckfdfoeaa
open Go.RowKit Go.Maps
theorem info_u8 : (Try.prog.info? 5).map (fun i => (i.zero, i.size, i.bytes)) = some (some (.int .u8 0), 1, 1) := by kernel_rfl
/-- bytes of the call's own, that may be written -/
structure BOwn (B : Nat) (w : World) (v : Value) (xs : List Int) : Prop where
  own : OwnI w B 5 .u8 v xs
  len : xs.length ≤ 4194304
theorem BOwn.rep {B : Nat} {w : World} {v : Value} {xs : List Int} (h : BOwn B w v xs) : BytesRep B w v xs := BytesRep.own h.own h.len
theorem BOwn.rd {B : Nat} {w : World} {v : Value} {xs : List Int} (h : BOwn B w v xs) : Rd w .u8 v xs := Rd.of_own h.own
theorem BOwn.mono {B C : Nat} {w : World} {v : Value} {xs : List Int} (h : BOwn C w v xs) (hB : B ≤ C) : BOwn B w v xs := ⟨own_mono h.own hB, h.len⟩
theorem BOwn.nil (B : Nat) (w : World) : BOwn B w (.slice none 0 0) [] := ⟨World.ownsRow_nil _ _ _ _, Nat.zero_le _⟩
set_option maxRecDepth 100000 in
set_option maxHeartbeats 1000000 in
theorem clone_own (v : Value) (xs : List Int) (w : World) (hr : Rd w .u8 v xs) (hl : xs.length ≤ 4194304) :
    Calls Try.prog 32 #[v] w fun e w' => ∃ v', e = .returned v' ∧ BOwn w.heap.size w' v' xs ∧ Below w.heap.size w w' := by
  obtain ⟨o, cap, rfl, hc⟩ := hr
  cases o with
  | none =>
    have hx : xs = [] := by
      cases xs with
      | nil => rfl
      | cons x xs => obtain ⟨b, off, he, _⟩ := hc 0 (by simp); cases he
    subst hx
    clear hc
    have hq := fun (W : World) => Lib.run_eql_slice_nil (P := Try.prog) W 34 5 none 0 cap 0 0 Try.underlying34
    go_enter Try.func32, Try.ntmps32
    go_wp2
    go_ret
    exact ⟨_, rfl, BOwn.nil _ _, Below.refl _ _⟩
  | some a =>
    have HR := Lib.hid (show Rd w .u8 (.slice (some a) xs.length cap) xs from ⟨_, cap, rfl, hc⟩)
    clear hc
    obtain ⟨i0, hi, hz0, hz1, hz2⟩ := info_parts info_u8
    have hb : Below w.heap.size w (w.alloc (.cells #[] 5)) := (Below.refl _ _).alloc (Nat.le_refl _) _
    have HO := Lib.hid (show OwnI (w.alloc (.cells #[] 5)) w.heap.size 5 .u8 (.slice (some ⟨w.heap.size, 0, none⟩) 0 0) [] from OwnI.lit w .u8 [] 5 (Nat.zero_le _))
    have HB := Lib.hid hb
    clear hb
    have hq := fun (W : World) => Lib.run_eql_slice_nil (P := Try.prog) W 34 5 (some a) xs.length cap 0 0 Try.underlying34
    go_enter Try.func32, Try.ntmps32
    go_wp2_with (at_builtin; refine stopHere ?_)
    refine goOn ?_
    refine wpList_append_rd rfl _ _ 34 rfl w.heap.size 5 .u8 i0 1 Try.underlying34 hi hz0 hz1 hz2 _ [] rfl HO.out _ xs rfl (HR.out.below HB.out (Nat.le_refl _)) (by unfold maxLen; simp; omega) (by simp; omega) (by simp) ?_
    intro v' w1 hown hg hat
    rw [List.nil_append] at hown
    obtain ⟨a', k', rfl⟩ := own_slice hown
    have HW := Lib.hid hown
    have HB1 := Lib.hid (HB.out.trans (below_grown' HO.out hg (by simp)))
    clear hown hg hat
    go_wp2_with fail
    go_ret
    exact ⟨_, rfl, ⟨HW.out, hl⟩, HB1.out⟩
theorem clone_any (v : Value) (xs : List Int) (w : World) (hr : Rd w .u8 v xs) (hl : xs.length ≤ 4194304) :
    Calls Try.prog 32 #[v] w fun e w' => ∃ v', e = .returned v' ∧ BytesRep w.heap.size w' v' xs ∧ Below w.heap.size w w' :=
  (clone_own v xs w hr hl).mono fun e w' ⟨v', h1, h2, h3⟩ => ⟨v', h1, h2.rep, h3⟩
end Go.Proofs.Ytejmbhckfdfoeaa
/-
  ROWS OF FILES of a call's own: names and bytes, side by side.
-/
set_option linter.unusedVariables false
set_option linter.unusedSimpArgs false
namespace Go.Proofs.Ytejmbhckfdfoeaa
open Go.RowKit Go.Maps
theorem info_file : (Try.prog.info? 48).map (fun i => (i.zero, i.size, i.bytes)) = some (some (.agg #[.string ⟨#[]⟩, .slice none 0 0]), 2, 40) := by kernel_rfl
/-- bytes' blocks lie as they lay -/
def KeepU (w w' : World) : Prop := ∀ (k : Nat) (cs : Array Value) (fz : Nat × Nat), w.heap[k]? = some (.cells cs 5 fz) → w'.heap[k]? = some (.cells cs 5 fz)
theorem KeepU.refl (w : World) : KeepU w w := fun _ _ _ h => h
theorem KeepU.trans {a b c : World} (h : KeepU a b) (k : KeepU b c) : KeepU a c := fun i cs fz hi => k i cs fz (h i cs fz hi)
theorem KeepU.below {w w' : World} (h : Below w.heap.size w w') : KeepU w w' := fun k cs fz hk => (h.block k (Array.getElem?_eq_some_iff.1 hk).1).trans hk
theorem KeepU.grown {w w' : World} {r : Option Nat} (h : w.grownBy w' r) (hr : ∀ k, r = some k → ∀ cs fz, w.heap[k]? ≠ some (.cells cs 5 fz)) : KeepU w w' := fun k cs fz hk =>
  (h.block k (Array.getElem?_eq_some_iff.1 hk).1 (fun e => hr k e.symm cs fz hk)).trans hk
theorem BytesRep.moveU {B : Nat} {w w' : World} {v : Value} {xs : List Int} (h : BytesRep B w v xs) (hk : KeepU w w') : BytesRep B w' v xs := by
  refine ⟨?_, fun h0 => ?_, h.len, h.cap⟩
  · obtain ⟨o, cap, rfl, hc⟩ := h.rd
    refine ⟨o, cap, rfl, fun j hj => ?_⟩
    obtain ⟨b, off, rfl, hcell⟩ := hc j hj
    obtain ⟨b', off', cs, fz, c, he, hb, _⟩ := h.home (by omega)
    simp at he
    obtain ⟨⟨rfl, rfl⟩, _⟩ := he
    exact ⟨b, off, rfl, (World.cell?_of_block (w := w) (a := ⟨b, off + j, none⟩) ((hk b _ _ hb).trans hb.symm)).trans hcell⟩
  · obtain ⟨b, off, cs, fz, c, he, hb, hB⟩ := h.home h0
    exact ⟨b, off, cs, fz, c, he, hk _ _ _ hb, hB⟩
theorem BOwn.moveU {B : Nat} {w w' : World} {v : Value} {xs : List Int} (h : BOwn B w v xs) (hk : KeepU w w') : BOwn B w' v xs := by
  refine ⟨⟨h.own.1, ?_⟩, h.len⟩
  rcases h.own.2 with hn | ⟨g, cap, cur, e, hb, hgg, rest⟩
  · exact .inl hn
  · exact .inr ⟨g, cap, cur, e, hb, hk _ _ _ hgg, rest⟩
abbrev FP := FileD × Value
def fcells (ps : List FP) : List Value := ps.flatMap fun p => [encStr p.1.nm, p.2]
theorem fcells_length (ps : List FP) : (fcells ps).length = ps.length * 2 := by
  induction ps with
  | nil => rfl
  | cons p ps ih => rw [show fcells (p :: ps) = encStr p.1.nm :: p.2 :: fcells ps from rfl, List.length_cons, List.length_cons, ih, List.length_cons]; omega
theorem fcells_at (ps : List FP) : ∀ (i : Nat) (h : i < ps.length), (fcells ps)[i * 2]? = some (encStr ps[i].1.nm) ∧ (fcells ps)[i * 2 + 1]? = some ps[i].2 := by
  induction ps with
  | nil => intro i h; simp at h
  | cons p ps ih =>
    intro i h
    rw [show fcells (p :: ps) = encStr p.1.nm :: p.2 :: fcells ps from rfl]
    cases i with
    | zero => simp
    | succ i =>
      have := ih i (by simpa using h)
      rw [show (i + 1) * 2 = i * 2 + 1 + 1 by omega]
      simpa using this
theorem fcells_snoc (ps : List FP) (p : FP) : fcells (ps ++ [p]) = fcells ps ++ [encStr p.1.nm, p.2] := by simp [fcells]
/-- no block of both -/
def Sep (v u : Value) : Prop := ∀ g, v.ownBlock = some g → u.ownBlock = some g → False
theorem BOwn.lt {B : Nat} {w : World} {v : Value} {xs : List Int} (h : BOwn B w v xs) (g : Nat) (hg : v.ownBlock = some g) : B ≤ g ∧ g < w.heap.size := by
  rcases h.own.2 with ⟨rfl, _⟩ | ⟨g', cap, cur, rfl, hb, hgg, _⟩
  · cases hg
  · cases hg
    exact ⟨hb, (Array.getElem?_eq_some_iff.1 hgg).1⟩
/-- a row of files of the call's own -/
structure FOwn (w : World) (B : Nat) (v : Value) (ps : List FP) : Prop where
  row : w.ownsRow B 48 2 v ps.length (fcells ps)
  by_ : ∀ p ∈ ps, BOwn B w p.2 p.1.da
  nm : ∀ p ∈ ps, p.1.nm.length ≤ maxLen
  sep : ps.Pairwise fun p q => Sep p.2 q.2
theorem FOwn.nil (w : World) (B : Nat) : FOwn w B (.slice none 0 0) [] := ⟨World.ownsRow_nil _ _ _ _, fun p h => by simp at h, fun p h => by simp at h, List.Pairwise.nil⟩
theorem FOwn.below {w w' : World} {B C : Nat} {v : Value} {ps : List FP} (h : FOwn w B v ps) (hB : Below C w w') (hC : w.heap.size ≤ C) : FOwn w' B v ps :=
  ⟨own_below h.row hB hC, fun p hp => (h.by_ p hp).moveU (KeepU.below (hB.mono hC)), h.nm, h.sep⟩
theorem FOwn.next {w w' : World} {B : Nat} {v : Value} {ps : List FP} (h : FOwn w B v ps) (hB : Below w.heap.size w w') : FOwn w' B v ps := h.below hB (Nat.le_refl _)
theorem own_noU {w : World} {B : Nat} {v : Value} {n s : Nat} {xs : List Value} (h : w.ownsRow B 48 s v n xs) : ∀ k, v.ownBlock = some k → ∀ cs fz, w.heap[k]? ≠ some (.cells cs 5 fz) := fun k hk cs fz e => by
  rcases h.2 with ⟨rfl, _⟩ | ⟨g, cap, cur, rfl, hb, hgg, _⟩
  · cases hk
  · cases hk
    rw [hgg] at e
    simp at e
theorem FOwn.snoc {w w' : World} {B : Nat} {v v' : Value} {ps : List FP} {p : FP} {o : Obj} (h : FOwn w B v ps) (hr : w'.ownsRow B 48 2 v' (ps.length + 1) (fcells ps ++ [encStr p.1.nm, p.2])) (hg : (w.alloc o).grownBy w' v.ownBlock) (hp : BOwn B w p.2 p.1.da) (hs : ∀ q ∈ ps, Sep q.2 p.2) (hn : p.1.nm.length ≤ maxLen) : FOwn w' B v' (ps ++ [p]) := by
  have ha : Below w.heap.size w (w.alloc o) := (Below.refl _ _).alloc (Nat.le_refl _) _
  have hk : KeepU w w' := (KeepU.below ha).trans (KeepU.grown hg (own_noU (own_below h.row ha (Nat.le_refl _))))
  refine ⟨by rw [fcells_snoc]; simpa using hr, fun q hq => ?_, fun q hq => ?_, List.pairwise_append.2 ⟨h.sep, List.pairwise_singleton _ _, fun q hq u hu => by rw [List.mem_singleton.1 hu]; exact hs q hq⟩⟩
  · rcases List.mem_append.1 hq with hq | hq
    · exact (h.by_ q hq).moveU hk
    · rw [List.mem_singleton.1 hq]; exact hp.moveU hk
  · rcases List.mem_append.1 hq with hq | hq
    · exact h.nm q hq
    · rw [List.mem_singleton.1 hq]; exact hn
theorem FOwn.fresh {w w' : World} {B C : Nat} {v u : Value} {ps : List FP} {xs : List Int} (h : FOwn w B v ps) (hp : BOwn C w' u xs) (hC : w.heap.size ≤ C) : ∀ q ∈ ps, Sep q.2 u := fun q hq g h1 h2 => by
  have := ((h.by_ q hq).lt g h1).2
  have := (hp.lt g h2).1
  omega
theorem fnth_map (ps : List FP) (i : Nat) (h : i < ps.length) : fnth (ps.map (·.1)) i = ps[i].1 := by
  simp [fnth, List.getD_eq_getElem?_getD, h]
theorem FOwn.files {w : World} {B : Nat} {v : Value} {ps : List FP} (h : FOwn w B v ps) : FilesRd w v (ps.map (·.1)) := by
  rcases h.row.2 with ⟨rfl, h0⟩ | ⟨g, cap, cur, rfl, hb, hgg, h1, h2, h3, ht⟩
  · have : ps = [] := List.eq_nil_of_length_eq_zero h0
    subst this
    exact ⟨none, 0, rfl, fun i hi => by simp at hi⟩
  · refine ⟨some ⟨g, 0, none⟩, cap, by simp, fun i hi => ?_⟩
    have hi' : i < ps.length := by simpa using hi
    rw [fnth_map ps i hi']
    have hbr := h.by_ ps[i] (List.getElem_mem hi')
    obtain ⟨od, cd, he⟩ := rd_slice hbr.rd
    obtain ⟨a0, a1⟩ := fcells_at ps i hi'
    have key : ∀ (j : Nat) (u : Value), (fcells ps)[j]? = some u → w.cell? ⟨g, 0 + j, none⟩ = some u := fun j u hj => by
      rw [Nat.zero_add, cell_of_row w g j cur _ (0, 0) hgg]
      rw [← ht, List.getElem?_take] at hj
      split at hj
      · simpa using hj
      · cases hj
    refine ⟨⟨g, 0, od, cd, rfl, key _ _ a0, by rw [Nat.add_assoc]; exact (key _ _ a1).trans (by rw [he]), by rw [← he]; exact hbr.rd⟩, h.nm _ (List.getElem_mem hi'), by have := hbr.len; omega⟩
end Go.Proofs.Ytejmbhckfdfoeaa
