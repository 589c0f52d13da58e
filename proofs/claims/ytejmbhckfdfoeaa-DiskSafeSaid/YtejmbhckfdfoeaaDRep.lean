/-
  A DISK in a world: its box, its maps, its changes, its files; what a call of it turns.
-/
import Derived.Test.YtejmbhckfdfoeaaDMap
import Derived.Deep.AppendLies
import Derived.OwnWalk
set_option linter.unusedVariables false
set_option linter.unusedSimpArgs false
namespace Go.Proofs.Ytejmbhckfdfoeaa
open Go.RowKit Go.Maps
/-- a change of names -/
inductive Chg where
  | put (x : List UInt8) (f : Nat)
  | mv (a b : List UInt8) (f : Nat)
  | del (x : List UInt8)
def Chg.on (l : NM) : Chg → NM
  | .put x f => lput l x f
  | .mv a b f => lput (ldel l a) b f
  | .del x => ldel l x
/-- the closure v is this change -/
def ChgRep (w : World) (v : Value) : Chg → Prop
  | .put x f => ∃ cf cx, v = .func (.func 38) #[] #[.pointer (some ⟨cf, 0, none⟩), .pointer (some ⟨cx, 0, none⟩)] ∧ Box w cf 66 #[ptrV (some f)] ∧ Box w cx 9 #[.string ⟨x.toArray⟩] ∧ x.length ≤ maxLen
  | .mv a b f => ∃ ca cf cb, v = .func (.func 40) #[] #[.pointer (some ⟨ca, 0, none⟩), .pointer (some ⟨cf, 0, none⟩), .pointer (some ⟨cb, 0, none⟩)] ∧ Box w ca 9 #[.string ⟨a.toArray⟩] ∧ Box w cf 66 #[ptrV (some f)] ∧ Box w cb 9 #[.string ⟨b.toArray⟩] ∧ a.length ≤ maxLen ∧ b.length ≤ maxLen
  | .del x => ∃ cx, v = .func (.func 41) #[] #[.pointer (some ⟨cx, 0, none⟩)] ∧ Box w cx 9 #[.string ⟨x.toArray⟩] ∧ x.length ≤ maxLen
/-- what a disk's calls may write: maps, disks, rows of changes, files -/
def dObj : Obj → Bool
  | .map .. => true
  | .cells _ t _ => t == 65 || t == 78 || t == 68
  | _ => false
/-- a step that turns nothing below B, and of all blocks only such -/
structure Step (B : Nat) (w w' : World) : Prop where
  below : Below B w w'
  keep : ∀ (k : Nat) (o : Obj), w.heap[k]? = some o → dObj o = false → w'.heap[k]? = some o
theorem Step.refl (B : Nat) (w : World) : Step B w w := ⟨Below.refl B w, fun _ _ h _ => h⟩
theorem Step.trans {B : Nat} {a b c : World} (h : Step B a b) (k : Step B b c) : Step B a c := ⟨h.below.trans k.below, fun i o hi ho => k.keep i o (h.keep i o hi ho) ho⟩
theorem Step.of_below {B : Nat} {w w' : World} (h : Below w.heap.size w w') (hB : B ≤ w.heap.size) : Step B w w' := ⟨h.mono hB, fun k o hk _ => (h.block k (Array.getElem?_eq_some_iff.1 hk).1).trans hk⟩
theorem Step.of_grown {B : Nat} {w w' : World} {r : Nat} {o : Obj} (hg : w.grownBy w' (some r)) (hr : w.heap[r]? = some o) (ho : dObj o = true) (hB : B ≤ r) : Step B w w' :=
  ⟨(Below.refl B w).grown hg (Nat.le_of_lt (Nat.lt_of_le_of_lt hB (Array.getElem?_eq_some_iff.1 hr).1)) (fun k hk => by cases hk; exact hB), fun k o' hk hd => (hg.block k (Array.getElem?_eq_some_iff.1 hk).1 (fun e => by cases e; rw [hr] at hk; cases hk; rw [ho] at hd; cases hd)).trans hk⟩
theorem Step.of_set {B : Nat} {w : World} {b j : Nat} {T : TypeId} {cs : Array Value} (hb : Box w b T cs) (hT : dObj (.cells cs T (0, 0)) = true) (hB : B ≤ b) (v : Value) : Step B w (w.setCell ⟨b, j, none⟩ v) :=
  ⟨(Below.refl B w).setCell (p := ⟨b, j, none⟩) hB v, fun k o hk hd => (Below.heap_setCell _ _ _ _ (fun e => by
    simp at e; subst e; rw [hb] at hk; cases hk; rw [hT] at hd; cases hd)).trans hk⟩
theorem Box.step {w w' : World} {B b : Nat} {T : TypeId} {cs : Array Value} (h : Box w b T cs) (hs : Step B w w') (hT : dObj (.cells cs T (0, 0)) = false) : Box w' b T cs := hs.keep b _ h hT
theorem ChgRep.step {w w' : World} {B : Nat} {v : Value} {c : Chg} (h : ChgRep w v c) (hs : Step B w w') : ChgRep w' v c := by
  cases c with
  | put x f => obtain ⟨cf, cx, e, h1, h2, h3⟩ := h; exact ⟨cf, cx, e, h1.step hs rfl, h2.step hs rfl, h3⟩
  | mv a b f => obtain ⟨ca, cf, cb, e, h1, h2, h3, h4⟩ := h; exact ⟨ca, cf, cb, e, h1.step hs rfl, h2.step hs rfl, h3.step hs rfl, h4⟩
  | del x => obtain ⟨cx, e, h1, h2⟩ := h; exact ⟨cx, e, h1.step hs rfl, h2⟩
/-- bytes in memory of their own: none, or in a block of bytes -/
structure BytesRep (B : Nat) (w : World) (v : Value) (xs : List Int) : Prop where
  rd : Rd w .u8 v xs
  home : 0 < xs.length → ∃ b off cs fz c, v = .slice (some ⟨b, off, none⟩) xs.length c ∧ w.heap[b]? = some (.cells cs 5 fz) ∧ B ≤ b
  len : xs.length ≤ 4194304
  cap : ∀ o n c, v = .slice o n c → n ≤ c ∧ c ≤ 9223372036854775807
theorem BytesRep.move {B : Nat} {w w' : World} {v : Value} {xs : List Int} (h : BytesRep B w v xs) (hk : ∀ (k : Nat) (o : Obj), w.heap[k]? = some o → dObj o = false → w'.heap[k]? = some o) : BytesRep B w' v xs := by
  refine ⟨?_, fun h0 => ?_, h.len, h.cap⟩
  · obtain ⟨o, cap, rfl, hc⟩ := h.rd
    refine ⟨o, cap, rfl, fun j hj => ?_⟩
    obtain ⟨b, off, rfl, hcell⟩ := hc j hj
    obtain ⟨b', off', cs, fz, c, he, hb, _⟩ := h.home (by omega)
    simp at he
    obtain ⟨⟨rfl, rfl⟩, _⟩ := he
    exact ⟨b, off, rfl, (World.cell?_of_block (w := w) (a := ⟨b, off + j, none⟩) ((hk b _ hb rfl).trans hb.symm)).trans hcell⟩
  · obtain ⟨b, off, cs, fz, c, he, hb, hB⟩ := h.home h0
    exact ⟨b, off, cs, fz, c, he, hk _ _ hb rfl, hB⟩
theorem BytesRep.step {B C : Nat} {w w' : World} {v : Value} {xs : List Int} (h : BytesRep C w v xs) (hs : Step B w w') : BytesRep C w' v xs := h.move hs.keep
theorem BytesRep.mono {B C : Nat} {w : World} {v : Value} {xs : List Int} (h : BytesRep C w v xs) (hB : B ≤ C) : BytesRep B w v xs :=
  ⟨h.rd, fun h0 => let ⟨b, off, cs, fz, c, he, hb, hC⟩ := h.home h0; ⟨b, off, cs, fz, c, he, hb, Nat.le_trans hB hC⟩, h.len, h.cap⟩
theorem BytesRep.nil (B : Nat) (w : World) : BytesRep B w (.slice none 0 0) [] :=
  ⟨Rd.nil _ _ _ _, fun h => absurd h (Nat.lt_irrefl _), Nat.zero_le _, fun o n c e => by cases e; exact ⟨Nat.le_refl _, Nat.zero_le _⟩⟩
theorem BytesRep.own {B : Nat} {w : World} {v : Value} {xs : List Int} (h : OwnI w B 5 .u8 v xs) (hl : xs.length ≤ 4194304) : BytesRep B w v xs := by
  refine ⟨Rd.of_own h, fun h0 => ?_, hl, fun o n c e => ?_⟩
  · rcases h.2 with ⟨_, hn⟩ | ⟨g, cap, cur, rfl, hb, hgg, _⟩
    · omega
    · exact ⟨g, 0, cur, (0, 0), cap, rfl, hgg, hb⟩
  · rcases h.2 with ⟨rfl, hn⟩ | ⟨g, cap, cur, rfl, hb, hgg, hn, hc, _⟩
    · cases e; exact ⟨Nat.le_refl _, Nat.zero_le _⟩
    · cases e
      unfold maxLen at hc
      exact ⟨hn, by omega⟩
/-- a disk's state -/
structure DSt where
  seen : NM
  safe : NM
  chs : List Chg
  strokes : Int
  off : Int
  dead : Bool
  by_ : Nat → List Int
  sf : Nat → List Int
  ids : List Nat
structure FileRep (B : Nat) (w : World) (f : Nat) (xs ys : List Int) : Prop where
  ex : ∃ vb vs, Box w f 68 #[vb, vs] ∧ BytesRep B w vb xs ∧ BytesRep B w vs ys
  ge : B ≤ f
/-- the block p is such a disk, all its memory from B on -/
structure DRepr (B : Nat) (w : World) (p bs bf : Nat) (cv : Value) (vs : List Value) (s : DSt) : Prop where
  box : Box w p 65 #[.map (some bs), .map (some bf), cv, .int .i64 s.strokes, .int .i64 s.off, .bool s.dead]
  seen : MapRep w bs s.seen
  safe : MapRep w bf s.safe
  ne : bs ≠ bf
  row : w.ownsRow B 78 1 cv s.chs.length vs
  chs : ∀ (i : Nat) (c : Chg), s.chs[i]? = some c → ∃ v, vs[i]? = some v ∧ ChgRep w v c
  files : ∀ f ∈ s.ids, FileRep B w f (s.by_ f) (s.sf f)
  in1 : ∀ q ∈ s.seen, q.2 ∈ s.ids
  in2 : ∀ q ∈ s.safe, q.2 ∈ s.ids
  nm1 : ∀ q ∈ s.seen, q.1.length ≤ maxLen
  hp : B ≤ p
  hs : B ≤ bs
  hf : B ≤ bf
  strk : 0 ≤ s.strokes ∧ s.strokes ≤ 1000000
  offb : -9223372036854775808 ≤ s.off ∧ s.off ≤ 9223372036854775807
  chl : s.chs.length ≤ 1000000
  many : s.seen.length ≤ 1000000
/-- a step of others: nothing of the disk's is written -/
theorem DRepr.next {B : Nat} {w w' : World} {p bs bf : Nat} {cv : Value} {vs : List Value} {s : DSt} (h : DRepr B w p bs bf cv vs s) (hb : Below w.heap.size w w') (hB : B ≤ w.heap.size) : DRepr B w' p bs bf cv vs s := by
  have hst : Step B w w' := Step.of_below hb hB
  exact ⟨h.box.next hb, h.seen.next hb, h.safe.next hb, h.ne, own_below h.row hb (Nat.le_refl _), fun i c hi => let ⟨v, h1, h2⟩ := h.chs i c hi; ⟨v, h1, h2.step hst⟩,
    fun f hf => let ⟨⟨vb, vs', h1, h2, h3⟩, h4⟩ := h.files f hf; ⟨⟨vb, vs', h1.next hb, h2.step hst, h3.step hst⟩, h4⟩, h.in1, h.in2, h.nm1, h.hp, h.hs, h.hf, h.strk, h.offb, h.chl, h.many⟩
theorem DRepr.baseLt {B : Nat} {w : World} {p bs bf : Nat} {cv : Value} {vs : List Value} {s : DSt} (h : DRepr B w p bs bf cv vs s) : B < w.heap.size := Nat.lt_of_le_of_lt h.hp h.box.lt
end Go.Proofs.Ytejmbhckfdfoeaa
