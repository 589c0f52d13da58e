/-
  A RANGE OVER A FUNCTION, as RLaw has it, where the iterator may lay and turn loops of its own (an iterator that ranges over another one).
-/
import Derived.Test.YtipjhdgegfgenaaGreatEV08
set_option linter.unusedVariables false
set_option linter.unusedSimpArgs false
namespace Go.Proofs.YtipjhdgegfgenaaGreat
open Go.RowKit Go
/-- an iterator's contract: a round turns no block but cells from the iterator's start on -/
def SeqN {α : Type} (ik : Obj → Prop) (F : Fence) (n : Nat) (P : Program) (g : Nat) (lb : Array Value) (encs : α → Array Value) (Rdy : List α → α → World → Prop) (Kp : World → World → Prop) (S Sp : List α → Prop) (w : World) : Prop :=
  ∀ (l : Nat) (J Jx : List α → World → Prop) (W : World), Below w.heap.size w W → AbidesI ik W.heap.size J → AbidesI ik W.heap.size Jx →
    (∀ pre x W1, J pre W1 → Rdy pre x W1 → YieldAt F (n - 1) P l (encs x) W1 fun e W' => KeepsFrom W.heap.size W1 W' ∧
      ((e = .returned (.bool true) ∧ J (pre ++ [x]) W' ∧ Kp W1 W') ∨ (e = .returned (.bool false) ∧ Jx (pre ++ [x]) W'))) →
    J [] W →
    CallsIn F n P g (#[.func (.yield l) #[] #[]] ++ lb) W fun e W' => (∃ v, e = .returned v) ∧ ((∃ xs, S xs ∧ J xs W') ∨ (∃ pre, Sp pre ∧ Jx pre W'))
section
variable {F : Fence} {n : Nat} {P : Program}
theorem wpIn_rangeFunc_N {α : Type} {ik : Obj → Prop} {g : Operand} {ps : Array Tmp} {assign body : Code} {Q : Exit → Act → World → Prop} {a : Act} {w : World}
    (hro : F.round = none) (h1 : 1 ≤ n) {gf : Nat} {lb : Array Value} (hg : a.eval g = .func (.func gf) #[] lb) (hFg : F.fn gf) (eg : ∀ args w, (callFunc gf args).run P w = .ok (.enter gf args) w)
    {encs : α → Array Value} {Rdy : List α → α → World → Prop} {Kp : World → World → Prop} {S Sp : List α → Prop} {w0 : World} (hseq : SeqN ik F (n - 1) P gf lb encs Rdy Kp S Sp w0)
    (hKt : ∀ {A B C : World}, Kp A B → Kp B C → Kp A C) (hKb : ∀ (W : World) (l : Nat) (o o' : Obj), w.heap.size ≤ l → W.heap[l]? = some o → o.isCells = false → o.isWalk = false → Kp W (W.putObj l o')) (hb0 : Below w0.heap.size w0 w) (hps : ∀ x, (encs x).size = ps.size)
    (I : List α → World → Prop) (Ix : Code → List α → World → Prop) (hI : OwnR ik w.heap.size I) (hIx : ∀ c, OwnR ik w.heap.size (Ix c)) (h0 : I [] w) (Ax : List α → α → Act → World → Prop) (hAx : ∀ p x a', OwnR ik w.heap.size (fun (_ : Unit) W => Ax p x a' W))
    (hassign : ∀ (l : Nat) (pre : List α) (x : α) (W : World) (K : Act → World → Prop), I pre W → Rdy pre x W → (∀ a' W', KeepsFrom w.heap.size W W' → Kp W W' → I pre W' → Ax pre x a' W' → K a' W') →
      assign.wpIn (F.inRound l) (n - 1 - 1) P (Exit.then K (fun _ _ _ => False)) { tmps := (ps.zip (encs x)).foldl (fun t (p, v) => t.setIfInBounds p v) a.tmps, defers := [] } W)
    (hbody : ∀ (l : Nat) (pre : List α) (x : α) (a' : Act) (W : World), I pre W → Ax pre x a' W → body.wpIn (F.inRound l) (n - 1 - 1) P (ownPostG w.heap.size Kp I Ix (pre ++ [x]) W) a' W)
    (hdone : ∀ (D : Nat) (xs : List α) (W : World), w.heap.size ≤ D → S xs → I xs W → W.heap[D]? = some (.deferred (some [])) → Q .normal { a with defers := { target := .collected D, args := #[] } :: a.defers } W)
    (hstop : ∀ (D : Nat) (c : Code) (pre : List α) (W : World), w.heap.size ≤ D → Sp pre → Ix c pre W → W.heap[D]? = some (.deferred (some [])) → c.wpIn F n P Q { a with defers := { target := .collected D, args := #[] } :: a.defers } W) :
    (Code.rangeFunc g ps assign body).wpIn F n P Q a w := by
  refine wpIn_rangeFunc ?_
  intro fn hfn
  rw [hro]
  obtain ⟨rec, hrec⟩ : ∃ rec : LoopState → Option Code → Loop, rec = fun st pe => { state := st, pending := pe, fn, tmps := a.tmps, params := ps, assign, body, defers := w.heap.size } := ⟨_, rfl⟩
  obtain ⟨L, hL⟩ : ∃ L, L = w.heap.size + 1 := ⟨_, rfl⟩
  obtain ⟨D, hD⟩ : ∃ D, D = w.heap.size := ⟨_, rfl⟩
  obtain ⟨W1, hW1⟩ : ∃ W1, (w.alloc (.deferred (some []))).alloc (.loop (rec .ready none)) = W1 := ⟨_, rfl⟩
  have hL1 : W1.heap[L]? = some (.loop (rec .ready none)) := by
    rw [hL, ← hW1]
    have := World.alloc_heap_new (w.alloc (.deferred (some []))) (.loop (rec .ready none))
    rwa [World.size_alloc] at this
  have hD1 : W1.heap[D]? = some (.deferred (some [])) := by
    rw [hD, ← hW1]
    exact (Below.heap_alloc _ _ _ (by simp)).trans (World.alloc_heap_new w _)
  have hs1 : w.heap.size ≤ W1.heap.size := by rw [← hW1]; simp; omega
  have hLD : w.heap.size ≤ L ∧ w.heap.size ≤ D ∧ L ≠ D := by omega
  -- the two records lie through a step of the iterator's
  have hrec2 : ∀ {A B : World} {row : Option Nat} {st : LoopState} {pe : Option Code}, A.grownBy B row → (∀ r, row = some r → W1.heap.size ≤ r ∧ ∃ o : Obj, A.heap[r]? = some o ∧ ik o) → A.heap[L]? = some (.loop (rec st pe)) → A.heap[D]? = some (.deferred (some [])) →
      B.heap[L]? = some (.loop (rec st pe)) ∧ B.heap[D]? = some (.deferred (some [])) := fun hg' hr hl hd =>
        ⟨(hg'.block L (Array.getElem?_eq_some_iff.1 hl).1 (fun e => by have h1 := (hr _ e.symm).1; have h2 := (Array.getElem?_eq_some_iff.1 hL1).1; omega)).trans hl,
         (hg'.block D (Array.getElem?_eq_some_iff.1 hd).1 (fun e => by have h1 := (hr _ e.symm).1; have h2 := (Array.getElem?_eq_some_iff.1 hD1).1; omega)).trans hd⟩
  have hrow : ∀ {A : World} {row : Option Nat}, (∀ r, row = some r → W1.heap.size ≤ r ∧ ∃ o : Obj, A.heap[r]? = some o ∧ ik o) → ∀ r, row = some r → w.heap.size ≤ r ∧ ∃ o : Obj, A.heap[r]? = some o ∧ (o.isCells = false ∨ ik o) :=
    fun hr r e => by obtain ⟨h2, o, ho, hi⟩ := hr r e; exact ⟨by omega, o, ho, .inr hi⟩
  refine ⟨L, [{ target := .collected D, args := #[] }], W1, { target := .fn (.func gf) lb, args := #[.func (.yield L) #[] #[]] }, W1, gf, #[.func (.yield L) #[] #[]] ++ lb, W1, ?_, ?_, ?_, ?_, fun _ => h1, ?_⟩
  · rw [← hW1, hrec, hL, hD]; exact run_enterLoop_outer _ _ _ _ _
  · simp only [resolve, hg]
    simp [go_sem]
  · intro f' hf'
    simp [Target.leads] at hf'
    subst hf'
    exact hFg
  · simp [invoke, go_sem, eg]
  have hcall := hseq L (fun pre W => I pre W ∧ W.heap[L]? = some (.loop (rec .ready none)) ∧ W.heap[D]? = some (.deferred (some [])))
    (fun pre W => ∃ c, Ix c pre W ∧ W.heap[L]? = some (.loop (rec .done (some c))) ∧ W.heap[D]? = some (.deferred (some []))) W1
    (by rw [← hW1]; exact hb0.trans ((((Below.refl _ w).alloc (Nat.le_refl _) _).alloc (by simp) _).mono hb0.size))
    (fun s A B row hs hg' hr => ⟨hI s A B row hs.1 hg' (hrow hr), hrec2 hg' hr hs.2.1 hs.2.2⟩)
    (fun s A B row hs hg' hr => by obtain ⟨c, hc, hl, hd⟩ := hs; exact ⟨c, hIx c s A B row hc hg' (hrow hr), hrec2 hg' hr hl hd⟩)
    ?round ⟨by rw [← hW1]; exact hI.alloc _ (hI.alloc _ h0), hL1, hD1⟩
  case round =>
    rintro pre x W ⟨hi, hl, hd⟩ hx
    have hlt : L < W.heap.size := (Array.getElem?_eq_some_iff.1 hl).1
    have hy := run_yield (P := P) (args := encs x) hl (by rw [hrec]; exact hps x)
    rw [hrec] at hy
    refine ⟨fn, _, assign, body, hy, roundIn_of_wpIn hfn (hassign _ pre x W _ hi hx ?_)⟩
    clear hy
    intro a' Wa hka hkpa hia hax
    have hla := hka.same _ _ hLD.1 hl rfl
    have hda := hka.same _ _ hLD.2.1 hd rfl
    have hlta : L < Wa.heap.size := (Array.getElem?_eq_some_iff.1 hla).1
    refine ⟨_, run_beginRound hla (by rw [hrec]), ?_⟩
    obtain ⟨busy, hbusy⟩ : ∃ busy : Loop, busy = { rec .ready none with state := .busy } := ⟨_, rfl⟩
    rw [← hbusy]
    have hl2 : (Wa.putObj L (.loop busy)).heap[L]? = some (.loop busy) := World.putObj_heap_same hlta
    have hd2 : (Wa.putObj L (.loop busy)).heap[D]? = some (.deferred (some [])) := (World.putObj_heap_other hLD.2.2.symm).trans hda
    refine wpIn_mono (hbody _ pre x a' _ (hI.put _ hia hLD.1 hla rfl) ((hAx pre x a').put (s := ()) _ hax hLD.1 hla rfl)) ?_
    have fin : ∀ (jump : Option Code) (W3 : World), KeepsFrom w.heap.size (Wa.putObj L (.loop busy)) W3 →
        (Instr.endRound L jump).run P W3 = .ok (.bool jump.isNone) (W3.putObj L (.loop (rec (if jump.isNone then .ready else .done) jump))) ∧
        W3.heap[L]? = some (.loop busy) ∧
        (W3.putObj L (.loop (rec (if jump.isNone then .ready else .done) jump))).heap[L]? = some (.loop (rec (if jump.isNone then .ready else .done) jump)) ∧
        (W3.putObj L (.loop (rec (if jump.isNone then .ready else .done) jump))).heap[D]? = some (.deferred (some [])) := fun jump W3 hk => by
      have hl3 := hk.same _ _ hLD.1 hl2 rfl
      have he := run_endRound (P := P) jump hl3
      rw [hbusy, hrec] at he
      rw [hrec] at *
      exact ⟨he, hl3, World.putObj_heap_same (Array.getElem?_eq_some_iff.1 hl3).1, (World.putObj_heap_other hLD.2.2.symm).trans (hk.same _ _ hLD.2.1 hd2 rfl)⟩
    have keep : ∀ (W3 : World) (o : Obj), KeepsFrom w.heap.size (Wa.putObj L (.loop busy)) W3 → KeepsFrom W1.heap.size W (W3.putObj L o) := fun W3 o hk3 =>
      ⟨Nat.le_trans hka.size (Nat.le_trans (by simp [World.putObj]) (Nat.le_trans hk3.size (by simp [World.putObj]))), fun k o' hB hk0 ho => by
        have hL0 := (Array.getElem?_eq_some_iff.1 hL1).1
        have hkL : k ≠ L := by omega
        have h1 := hka.same k o' (by omega) hk0 ho
        have h2 := hk3.same k o' (by omega) ((World.putObj_heap_other hkL).trans h1) ho
        exact (World.putObj_heap_other hkL).trans h2⟩
    rintro e a3 W3 hp
    have out : ∀ c, KeepsFrom w.heap.size (Wa.putObj L (.loop busy)) W3 → Ix c (pre ++ [x]) W3 → ∃ v W4, (Instr.endRound L (some c)).run P W3 = .ok v W4 ∧ KeepsFrom W1.heap.size W W4 ∧ (((Ending.returned v = .returned (.bool true) ∧ (I (pre ++ [x]) W4 ∧ W4.heap[L]? = some (.loop (rec .ready none)) ∧ W4.heap[D]? = some (.deferred (some []))) ∧ Kp W W4)) ∨
        (Ending.returned v = .returned (.bool false) ∧ ∃ c, Ix c (pre ++ [x]) W4 ∧ W4.heap[L]? = some (.loop (rec .done (some c))) ∧ W4.heap[D]? = some (.deferred (some [])))) := fun c hk3 hi3 => by
      obtain ⟨hr, hl3, hl4, hd4⟩ := fin (some c) W3 hk3
      exact ⟨_, _, hr, keep _ _ hk3, .inr ⟨rfl, c, (hIx _).put _ hi3 hLD.1 hl3 rfl, hl4, hd4⟩⟩
    cases e with
    | normal =>
      obtain ⟨hk3, hkp3, hi3⟩ := hp
      obtain ⟨hr, hl3, hl4, hd4⟩ := fin none W3 hk3
      exact ⟨_, _, hr, keep _ _ hk3, .inl ⟨rfl, ⟨hI.put _ hi3 hLD.1 hl3 rfl, hl4, hd4⟩, hKt hkpa (hKt (hKt (hKb _ _ _ _ hLD.1 hla rfl rfl) hkp3) (hKb _ _ _ _ hLD.1 hl3 rfl rfl))⟩⟩
    | ret => exact out _ hp.1 hp.2
    | exit id => exact out _ hp.1 hp.2
    | goto t => exact out _ hp.1 hp.2
    | panic ch => exact hp.elim
    | outgrown => exact hp.elim
  refine hcall.mono ?_
  rintro e W2 ⟨⟨v, rfl⟩, (⟨xs, hS, hi, hl, hd⟩ | ⟨pre, hSp, c, hi, hl, hd⟩)⟩
  · exact ⟨none, _, by have := run_endLoop (P := P) hl (by rw [hrec]; simp); rw [hrec] at this; exact this, hdone _ xs _ hLD.2.1 hS (hI.put _ hi hLD.1 hl rfl) ((World.putObj_heap_other hLD.2.2.symm).trans hd)⟩
  · exact ⟨some c, _, by have := run_endLoop (P := P) hl (by rw [hrec]; simp); rw [hrec] at this; exact this, hstop _ c pre _ hLD.2.1 hSp ((hIx c).put _ hi hLD.1 hl rfl) ((World.putObj_heap_other hLD.2.2.symm).trans hd)⟩
end
end Go.Proofs.YtipjhdgegfgenaaGreat
