/-
  WHAT A CRASH LEAVES, in plain; what its walk holds.
-/
import Derived.Test.YtejmbhckfdfoeaaDCrashL
import Derived.Test.YtejmbhckfdfoeaaDListW
set_option linter.unusedVariables false
set_option linter.unusedSimpArgs false
namespace Go.Proofs.Ytejmbhckfdfoeaa
open Go.RowKit Go.Maps
def runC (l : NM) (cs : List Chg) : NM := cs.foldl Chg.on l
theorem runC_snoc (l : NM) (cs : List Chg) (c : Chg) : runC l (cs ++ [c]) = Chg.on (runC l cs) c := by simp [runC]
theorem runC_append (l : NM) (cs ds : List Chg) : runC l (cs ++ ds) = runC (runC l cs) ds := by simp [runC]
def chgFile : Chg → Option Nat
  | .put _ f => some f
  | .mv _ _ f => some f
  | .del _ => none
/-- a file's bytes behind a crash, where they were not safe -/
def pickB (s : DSt) (f : Nat) (p : Int) : List Int := if p % 2 = 1 then (s.by_ f).take ((p / 2) % ((s.by_ f).length + 1 : Int)).toNat else s.sf f
def crashStep (s : DSt) (acc : List FileD × List Int) (q : List UInt8 × Nat) : List FileD × List Int :=
  if s.by_ q.2 = s.sf q.2 then (acc.1 ++ [⟨q.1, s.sf q.2⟩], acc.2) else (acc.1 ++ [⟨q.1, pickB s q.2 (acc.2.headD 0)⟩], acc.2.tail)
def crashOf (s : DSt) (left : NM) (pk : List Int) : List FileD × List Int := left.foldl (crashStep s) ([], pk)
def crashN (s : DSt) (pk : List Int) : Nat := ((pk.headD 0) % ((s.chs.length : Int) + 1)).toNat
def crashLeft (s : DSt) (pk : List Int) : NM := runC s.safe (s.chs.take (crashN s pk))
def crashR (s : DSt) (pk : List Int) : List FileD := (crashOf s (crashLeft s pk) pk.tail).1
theorem crashN_le (s : DSt) (pk : List Int) : crashN s pk ≤ s.chs.length := by
  have h1 := Int.emod_nonneg (pk.headD 0) (show ((s.chs.length : Int) + 1) ≠ 0 by omega)
  have h2 := Int.emod_lt_of_pos (pk.headD 0) (show 0 < ((s.chs.length : Int) + 1) by omega)
  unfold crashN
  omega
theorem crashOf_snoc (s : DSt) (l : NM) (q : List UInt8 × Nat) (pk : List Int) : crashOf s (l ++ [q]) pk = crashStep s (crashOf s l pk) q := by simp [crashOf]
theorem crashStep_len (s : DSt) (acc : List FileD × List Int) (q : List UInt8 × Nat) : (crashStep s acc q).1.length = acc.1.length + 1 := by
  unfold crashStep
  split <;> simp
theorem crashOf_len (s : DSt) (l : NM) (pk : List Int) : (crashOf s l pk).1.length = l.length := by
  unfold crashOf
  have : ∀ (l : NM) (acc : List FileD × List Int), (l.foldl (crashStep s) acc).1.length = acc.1.length + l.length := by
    intro l
    induction l with
    | nil => intro acc; simp
    | cons q r ih => intro acc; rw [List.foldl_cons, ih, crashStep_len]; simp; omega
  simpa using this l ([], pk)
/-- what lies while a crash is reckoned: the disk, the picks, the closure's box -/
structure CrAt (w0 : World) (B p bs bf : Nat) (cv : Value) (vs : List Value) (s : DSt) (c fb : Nat) (rest : List Int) (W : World) : Prop where
  d : DRepr B W p bs bf cv vs s
  pk : PickAt w0 c W rest
  f : Box W fb 60 #[.func (.func 43) #[] #[.pointer (some ⟨c, 0, none⟩)]]
  b : Below w0.heap.size w0 W
  c0 : w0.heap.size ≤ c
theorem CrAt.next {w0 W W' : World} {B p bs bf c fb : Nat} {cv : Value} {vs : List Value} {s : DSt} {rest : List Int} (h : CrAt w0 B p bs bf cv vs s c fb rest W) (hb : Below W.heap.size W W') : CrAt w0 B p bs bf cv vs s c fb rest W' :=
  ⟨h.d.next hb (Nat.le_of_lt h.d.baseLt), h.pk.next hb, h.f.next hb, h.b.trans (hb.mono h.b.size), h.c0⟩
theorem DRepr.below {B C : Nat} {w w' : World} {p bs bf : Nat} {cv : Value} {vs : List Value} {s : DSt} (h : DRepr B w p bs bf cv vs s) (hb : Below w.heap.size w w') : DRepr B w' p bs bf cv vs s := h.next hb (Nat.le_of_lt h.baseLt)
theorem CrAt.grown {w0 W W' : World} {B p bs bf c fb m : Nat} {cv : Value} {vs : List Value} {s : DSt} {rest : List Int} {l : NM} (h : CrAt w0 B p bs bf cv vs s c fb rest W) (hd0 : DRepr B w0 p bs bf cv vs s) (hm : MapRep W m l) (hg : W.grownBy W' (some m)) (hml : w0.heap.size ≤ m) : CrAt w0 B p bs bf cv vs s c fb rest W' := by
  have hb : Below w0.heap.size W W' := (Below.refl _ _).grown hg h.b.size (fun k e => by cases e; exact hml)
  have hb' := h.b.trans hb
  obtain ⟨o, cap, h1, h2⟩ := h.pk
  exact ⟨hd0.next hb' (Nat.le_of_lt hd0.baseLt), ⟨o, cap, box_grown h1 hm hg, h2⟩, box_grown h.f hm hg, hb', h.c0⟩
theorem CrAt.picked {w0 W W' : World} {B p bs bf c fb : Nat} {cv : Value} {vs : List Value} {s : DSt} {rest rest' : List Int} (h : CrAt w0 B p bs bf cv vs s c fb rest W) (hd0 : DRepr B w0 p bs bf cv vs s) (hp : PickAt w0 c W' rest') (hk : KeepC c W W') (hne : fb ≠ c) : CrAt w0 B p bs bf cv vs s c fb rest' W' := by
  have hb' := h.b.trans (hk.below h.c0 h.b.size)
  exact ⟨hd0.next hb' (Nat.le_of_lt hd0.baseLt), hp, (hk.block fb h.f.lt hne).trans h.f, hb', h.c0⟩
/-- below B nothing has turned but for these two blocks -/
structure KeepP (B R S : Nat) (w w' : World) : Prop where
  size : w.heap.size ≤ w'.heap.size
  block : ∀ k, k < B → k ≠ R → k ≠ S → w'.heap[k]? = w.heap[k]?
  rest : w'.os = w.os ∧ w'.tape = w.tape ∧ w'.output = w.output
theorem KeepP.refl (B R S : Nat) (w : World) : KeepP B R S w w := ⟨Nat.le_refl _, fun _ _ _ _ => rfl, rfl, rfl, rfl⟩
theorem KeepP.trans {B R S : Nat} {a b c : World} (h : KeepP B R S a b) (k : KeepP B R S b c) : KeepP B R S a c := ⟨Nat.le_trans h.size k.size, fun i h1 h2 h3 => (k.block i h1 h2 h3).trans (h.block i h1 h2 h3), k.rest.1.trans h.rest.1, k.rest.2.1.trans h.rest.2.1, k.rest.2.2.trans h.rest.2.2⟩
theorem KeepP.ofB {B R S : Nat} {w w' : World} (h : KeepB B R w w') : KeepP B R S w w' := ⟨h.size, fun k h1 h2 _ => h.block k h1 h2, h.rest⟩
theorem KeepP.ofC {B R S : Nat} {w w' : World} (h : KeepC S w w') (hB : B ≤ w.heap.size) : KeepP B R S w w' := ⟨h.size, fun k h1 _ h3 => h.block k (by omega) h3, h.rest⟩
theorem KeepP.of_below {B R S : Nat} {w w' : World} (h : Below B w w') : KeepP B R S w w' := ⟨h.size, fun k h1 _ _ => h.block k h1, h.os, h.tape, h.output⟩
theorem KeepP.below {B R S C : Nat} {w w' : World} (h : KeepP B R S w w') (hC : C ≤ B) (hR : C ≤ R) (hS : C ≤ S) : Below C w w' := ⟨h.rest.1, h.rest.2.1, h.rest.2.2, h.size, fun k hk => h.block k (by omega) (by omega) (by omega)⟩
theorem KeepP.box {B R S b : Nat} {w w' : World} {T : TypeId} {cs : Array Value} (h : KeepP B R S w w') (hb : Box w b T cs) (h1 : b < B) (h2 : b ≠ R) (h3 : b ≠ S) : Box w' b T cs := (h.block b h1 h2 h3).trans hb
theorem KeepP.u8 {R S : Nat} {w w' : World} {T U : TypeId} {cs ds : Array Value} (h : KeepP w.heap.size R S w w') (hR : Box w R T cs) (hT : T ≠ 5) (hS : Box w S U ds) (hU : U ≠ 5) : KeepU w w' := fun k cs' fz hk => by
  refine (h.block k (Array.getElem?_eq_some_iff.1 hk).1 (fun e => ?_) (fun e => ?_)).trans hk
  · subst e
    unfold Box at hR
    rw [hR] at hk
    simp at hk
    exact hT hk.2.1
  · subst e
    unfold Box at hS
    rw [hS] at hk
    simp at hk
    exact hU hk.2.1
/-- the invariant of a crash's rounds -/
def CrI (w0 : World) (B lb c : Nat) (w2 : World) (acc : List FileD × List Int) (W : World) : Prop :=
  ∃ v ps, Box W lb 22 #[v] ∧ FOwn W B v ps ∧ ps.map (·.1) = acc.1 ∧ PickAt w0 c W acc.2 ∧ KeepP B lb c w2 W
theorem crI_own {β : Type} (w0 : World) (B lb c : Nat) (w2 : World) (f : β → List FileD × List Int) (hB : B ≤ w2.heap.size) : OwnFrom B (fun s W => CrI w0 B lb c w2 (f s) W) := fun s W W' row hs hg hr => by
  obtain ⟨v, ps, h1, h2, h3, ⟨o, cap, h4, h5⟩, h6⟩ := hs
  have hr' : ∀ r, row = some r → ∃ o : Obj, W.heap[r]? = some o ∧ o.isCells = false := fun r e => (hr r e).2
  refine ⟨v, ps, (grownBy_keeps_cells hg hr' h1 rfl).trans h1, h2.keeps hg hr', h3, ⟨o, cap, (grownBy_keeps_cells hg hr' h4 rfl).trans h4, h5⟩, ⟨Nat.le_trans h6.size hg.size, fun k hk hne hne2 => ?_, hg.os.trans h6.rest.1, hg.tape.trans h6.rest.2.1, hg.output.trans h6.rest.2.2⟩⟩
  exact (hg.block k (by have := h6.size; omega) (fun e => by have := (hr k e.symm).1; omega)).trans (h6.block k hk hne hne2)
theorem KeepC.keepD {c : Nat} {W W' : World} {T : TypeId} {cs : Array Value} (h : KeepC c W W') (hb : Box W c T cs) (hT : kObj (.cells cs T (0, 0)) = false) : KeepD W W' :=
  ⟨h.size, fun k o hk ho => (h.block k (Array.getElem?_eq_some_iff.1 hk).1 (fun e => by subst e; unfold Box at hb; rw [hb] at hk; cases hk; rw [hT] at ho; cases ho)).trans hk⟩
theorem KeepC.others {c : Nat} {W W' : World} {T : TypeId} {cs : Array Value} (h : KeepC c W W') (hb : Box W c T cs) : KeepsOthers W W' :=
  ⟨h.size, fun k o hk ho => (h.block k (Array.getElem?_eq_some_iff.1 hk).1 (fun e => by subst e; unfold Box at hb; rw [hb] at hk; cases hk; cases ho)).trans hk⟩
theorem FOwn.high {W W' : World} {B : Nat} {v : Value} {ps : List FP} (h : FOwn W B v ps) (hk : ∀ k, B ≤ k → k < W.heap.size → W'.heap[k]? = W.heap[k]?) : FOwn W' B v ps := by
  refine ⟨⟨h.row.1, ?_⟩, fun p hp => ?_, h.nm⟩
  · rcases h.row.2 with hn | ⟨g, cap, cur, e, hb, hgg, rest⟩
    · exact .inl hn
    · exact .inr ⟨g, cap, cur, e, hb, (hk g hb (Array.getElem?_eq_some_iff.1 hgg).1).trans hgg, rest⟩
  · have hr := h.by_ p hp
    refine ⟨?_, fun h0 => ?_, hr.len, hr.cap⟩
    · obtain ⟨o, cap, he, hc⟩ := hr.rd
      refine ⟨o, cap, he, fun i hi => ?_⟩
      obtain ⟨b', off, ho, hcell⟩ := hc i hi
      obtain ⟨b2, off2, cs, fz, c, he2, hh, hB⟩ := hr.home (by omega)
      have hbb : b' = b2 := by
        have := he.symm.trans he2
        rw [ho] at this
        simp at this
        exact this.1.1
      subst hbb
      exact ⟨b', off, ho, (World.cell?_of_block (w := W) (a := ⟨b', off + i, none⟩) (hk b' hB (cell_lt hcell))).trans hcell⟩
    · obtain ⟨b', off, cs, fz, c, he, hh, hB⟩ := hr.home h0
      exact ⟨b', off, cs, fz, c, he, (hk b' hB (Array.getElem?_eq_some_iff.1 hh).1).trans hh, hB⟩
theorem PickAt.keepB {w0 W W' : World} {B c lb : Nat} {pk : List Int} (h : PickAt w0 c W pk) (hk : KeepB B lb W W') (hc : c < B) (hne : c ≠ lb) : PickAt w0 c W' pk := by
  obtain ⟨o, cap, h1, h2⟩ := h
  exact ⟨o, cap, (hk.block c hc hne).trans h1, h2⟩
theorem BytesRep.part {B : Nat} {w : World} {o : Option Addr} {cap : Nat} {xs : List Int} (h : BytesRep B w (.slice o xs.length cap) xs) (m : Nat) (hm : m ≤ xs.length) : Rd w .u8 (.slice o (xs.take m).length cap) (xs.take m) := by
  obtain ⟨o', cap', he, hc⟩ := h.rd
  simp at he
  obtain ⟨rfl, rfl⟩ := he
  refine ⟨_, _, rfl, fun j hj => ?_⟩
  have hj' : j < m := by simp at hj; omega
  obtain ⟨b, off, ho, hcell⟩ := hc j (by omega)
  refine ⟨b, off, ho, ?_⟩
  rw [hcell]
  simp [nth, List.getD_eq_getElem?_getD, List.getElem?_take, hj']
/-- within a round of a crash that began at W -/
structure RoundAt (w w6 : World) (lb c f : Nat) (fcs : Array Value) (W : World) (v : Value) (ps : List FP) (rest : List Int) (Wr : World) : Prop where
  kp : KeepP w6.heap.size lb c w6 Wr
  bx : Box Wr lb 22 #[v]
  fb : Box Wr f 68 fcs
  o : FOwn Wr w6.heap.size v ps
  pk : PickAt w c Wr rest
  kd : KeepD W Wr
  oth : KeepsOthers W Wr
theorem RoundAt.next {w w6 W Wr Wr' : World} {lb c f : Nat} {fcs : Array Value} {v : Value} {ps : List FP} {rest : List Int} (h : RoundAt w w6 lb c f fcs W v ps rest Wr) (hb : Below Wr.heap.size Wr Wr') : RoundAt w w6 lb c f fcs W v ps rest Wr' :=
  ⟨h.kp.trans (KeepP.of_below (hb.mono h.kp.size)), h.bx.next hb, h.fb.next hb, h.o.next hb, h.pk.next hb, h.kd.trans (KeepD.below hb), h.oth.trans (others_below hb)⟩
theorem RoundAt.same {w w6 W Wr Wr' : World} {lb c f : Nat} {fcs : Array Value} {v : Value} {ps : List FP} {rest : List Int} (h : RoundAt w w6 lb c f fcs W v ps rest Wr) (hs : Same Wr Wr') : RoundAt w w6 lb c f fcs W v ps rest Wr' := h.next (hs.below _)
theorem RoundAt.picked {w w6 W Wr Wr' : World} {lb c f : Nat} {fcs : Array Value} {v : Value} {ps : List FP} {rest rest' : List Int} (h : RoundAt w w6 lb c f fcs W v ps rest Wr) (hp : PickAt w c Wr' rest') (hk : KeepC c Wr Wr') (hc : c < w6.heap.size) (hcl : lb ≠ c) (hcf : f ≠ c) : RoundAt w w6 lb c f fcs W v ps rest' Wr' := by
  obtain ⟨o, cap, h1, _⟩ := h.pk
  refine ⟨h.kp.trans (KeepP.ofC hk h.kp.size), (hk.block lb h.bx.lt hcl).trans h.bx, (hk.block f h.fb.lt hcf).trans h.fb, h.o.high (fun k hk1 hk2 => hk.block k hk2 (by omega)), hp, h.kd.trans (hk.keepD h1 rfl), h.oth.trans (hk.others h1)⟩
theorem RoundAt.mid {w w6 W Wr : World} {lb c f : Nat} {fcs : Array Value} {v : Value} {ps : List FP} {rest : List Int} (h : RoundAt w w6 lb c f fcs W v ps rest Wr) : ListMid w6.heap.size lb f 68 fcs Wr W v ps Wr.drew :=
  have hb : Below Wr.heap.size Wr Wr.drew := Below.drew (Below.refl _ _)
  ⟨h.bx.next hb, h.fb.next hb, KeepB.of_below (hb.mono h.kp.size), h.kd.trans (KeepD.below hb), h.o.next hb, h.oth.trans (others_below hb), h.kp.size⟩
theorem RoundAt.u8 {w w6 W Wr W' : World} {lb c f : Nat} {fcs : Array Value} {v : Value} {ps : List FP} {rest : List Int} {cs ds : Array Value} (h : RoundAt w w6 lb c f fcs W v ps rest Wr) (hl : Box w6 lb 22 cs) (hc : Box w6 c 35 ds) (hk : KeepB w6.heap.size lb Wr W') : KeepU w6 W' :=
  (h.kp.trans (KeepP.ofB hk)).u8 hl (by decide) hc (by decide)
end Go.Proofs.Ytejmbhckfdfoeaa
