/-
  What a state is, in plain Lean: layers (trees), definitions, tensors, hyperparameters, moments, generators, cursors; and what reads as them.
-/
import Derived.Lib.ItoaLen
import Derived.Laws.StructEq
import Derived.Test.YtipjhdgegfgenaaGreatEV03
set_option linter.unusedVariables false
set_option linter.unusedSimpArgs false
namespace Go.Proofs.YtipjhdgegfgenaaGreat
open Go.RowKit
/-- a layer's numbers -/
structure LayN where
  kind : Int
  inn : Int
  out : Int
  size : Int
  stride : Int
  pad : Int
  percent : Int
  heads : Int
deriving DecidableEq
inductive LayD where
  | mk (n : LayN) (body : List LayD)
def LayD.n : LayD → LayN
  | .mk n _ => n
def LayD.body : LayD → List LayD
  | .mk _ b => b
theorem LayD.eta (l : LayD) : l = .mk l.n l.body := by cases l; rfl
/-- a layer's cells, its body's slice last -/
def LayN.cells (n : LayN) (v : Value) : List Value := [.int .i64 n.kind, .int .i64 n.inn, .int .i64 n.out, .int .i64 n.size, .int .i64 n.stride, .int .i64 n.pad, .int .i64 n.percent, .int .i64 n.heads, v]
theorem LayN.cells_len (n : LayN) (v : Value) : (n.cells v).length = 9 := rfl
def LayN.agg (n : LayN) (v : Value) : Value := .agg #[.int .i64 n.kind, .int .i64 n.inn, .int .i64 n.out, .int .i64 n.size, .int .i64 n.stride, .int .i64 n.pad, .int .i64 n.percent, .int .i64 n.heads, v]
mutual
/-- cell row i of an array of layers -/
def LayRd (w : World) (o : Option Addr) (i : Nat) : LayD → Prop
  | .mk n body => ∃ b off ob cb, o = some ⟨b, off, none⟩ ∧ body.length ≤ 140737488351232 ∧ (∀ j u, (n.cells (.slice ob body.length cb))[j]? = some u → w.cell? ⟨b, off + i * 9 + j, none⟩ = some u) ∧ LaysAt w ob 0 body
def LaysAt (w : World) (o : Option Addr) (i : Nat) : List LayD → Prop
  | [] => True
  | l :: r => LayRd w o i l ∧ LaysAt w o (i + 1) r
end
/-- the slice value v reads as these layers -/
def LaysRd (w : World) (v : Value) (ls : List LayD) : Prop := ∃ o cap, v = .slice o ls.length cap ∧ LaysAt w o 0 ls
mutual
theorem LayRd.below {w w' : World} {B : Nat} (hB : Below B w w') (hs : w.heap.size ≤ B) : ∀ (l : LayD) {o : Option Addr} {i : Nat}, LayRd w o i l → LayRd w' o i l
  | .mk n body, o, i, h => by
    rw [LayRd] at h ⊢
    obtain ⟨b, off, ob, cb, rfl, hlim, hc, hl⟩ := h
    exact ⟨b, off, ob, cb, rfl, hlim, fun j u hj => (hB.cell (p := ⟨b, off + i * 9 + j, none⟩) (Nat.lt_of_lt_of_le (cell_lt (hc j u hj)) hs)).trans (hc j u hj), LaysAt.below hB hs body hl⟩
theorem LaysAt.below {w w' : World} {B : Nat} (hB : Below B w w') (hs : w.heap.size ≤ B) : ∀ (ls : List LayD) {o : Option Addr} {i : Nat}, LaysAt w o i ls → LaysAt w' o i ls
  | [], o, i, _ => by rw [LaysAt]; trivial
  | l :: r, o, i, h => by
    rw [LaysAt] at h ⊢
    exact ⟨LayRd.below hB hs l h.1, LaysAt.below hB hs r h.2⟩
end
theorem LaysRd.below {w w' : World} {B : Nat} {v : Value} {ls : List LayD} (h : LaysRd w v ls) (hB : Below B w w') (hs : w.heap.size ≤ B) : LaysRd w' v ls := by
  obtain ⟨o, cap, rfl, h⟩ := h
  exact ⟨o, cap, rfl, LaysAt.below hB hs ls h⟩
theorem LaysRd.next {w w' : World} {v : Value} {ls : List LayD} (h : LaysRd w v ls) (hB : Below w.heap.size w w') : LaysRd w' v ls := h.below hB (Nat.le_refl _)
theorem LaysRd.same {w w' : World} {v : Value} {ls : List LayD} (h : LaysRd w v ls) (hs : Same w w') : LaysRd w' v ls := h.next (hs.below _)
theorem LaysAt.at {w : World} {o : Option Addr} (ls : List LayD) : ∀ {i : Nat}, LaysAt w o i ls → ∀ k (hk : k < ls.length), LayRd w o (i + k) ls[k] := by
  induction ls with
  | nil => intro i h k hk; simp at hk
  | cons l r ih =>
    intro i h k hk
    rw [LaysAt] at h
    cases k with
    | zero => exact h.1
    | succ k =>
      have := ih h.2 k (by simpa using hk)
      rw [show i + 1 + k = i + (k + 1) by omega] at this
      exact this
theorem LaysAt.mk {w : World} {o : Option Addr} (ls : List LayD) : ∀ {i : Nat}, (∀ k (hk : k < ls.length), LayRd w o (i + k) ls[k]) → LaysAt w o i ls := by
  induction ls with
  | nil => intro i _; rw [LaysAt]; trivial
  | cons l r ih =>
    intro i h
    rw [LaysAt]
    refine ⟨h 0 (by simp), ih fun k hk => ?_⟩
    have := h (k + 1) (by simpa using hk)
    rw [show i + 1 + k = i + (k + 1) by omega]
    exact this
/-- layer k of a row that reads as layers -/
theorem LaysRd.lay {w : World} {o : Option Addr} {n cap : Nat} {ls : List LayD} (h : LaysRd w (.slice o n cap) ls) (k : Nat) (hk : k < ls.length) :
    ∃ b off vb, o = some ⟨b, off, none⟩ ∧ (∀ j u, ((ls[k]).n.cells vb)[j]? = some u → w.cell? ⟨b, off + k * 9 + j, none⟩ = some u) ∧ LaysRd w vb (ls[k]).body ∧ (ls[k]).body.length ≤ 140737488351232 := by
  obtain ⟨o', cap', he, h⟩ := h
  simp at he
  obtain ⟨rfl, _, _⟩ := he
  have h1 := LaysAt.at ls h k hk
  rw [Nat.zero_add] at h1
  generalize ls[k] = l at h1
  cases l with
  | mk n body =>
    rw [LayRd] at h1
    obtain ⟨b, off, ob, cb, rfl, hlim, hc, hl⟩ := h1
    exact ⟨b, off, _, rfl, hc, ⟨ob, cb, rfl, hl⟩, hlim⟩
theorem LaysRd.len {w : World} {v : Value} {ls : List LayD} (h : LaysRd w v ls) : ∃ o cap, v = .slice o ls.length cap := by
  obtain ⟨o, cap, rfl, _⟩ := h
  exact ⟨o, cap, rfl⟩
mutual
/-- how many layers, with bodies -/
def LayD.count : LayD → Nat
  | .mk _ b => 1 + countL b
def countL : List LayD → Nat
  | [] => 0
  | l :: r => l.count + countL r
end
theorem LayD.count_eq (l : LayD) : l.count = 1 + countL l.body := by
  cases l with
  | mk n b => rw [LayD.count, LayD.body]
structure TensD where
  sh : List Int
  da : List Int
deriving DecidableEq, Inhabited
structure HypD where
  kind : Int
  rate : Int
  mu : Int
  nu : Int
  eps : Int
  decay : Int
  clip : Int
  sched : Int
  every : Int
deriving DecidableEq, Inhabited
structure MomD where
  m : List TensD
  v : List TensD
  powMu : Int
  powNu : Int
  steps : Int
deriving DecidableEq, Inhabited
structure DefD where
  input : List Int
  lays : List LayD
  loss : Int
structure RandD where
  script : List Int
  s0 : Int
  s1 : Int
  s2 : Int
  s3 : Int
deriving DecidableEq, Inhabited
structure CurD where
  order : List Int
  at_ : Int
  epoch : Int
deriving DecidableEq, Inhabited
structure StD where
  f : Int
  d : DefD
  h : HypD
  ps : List TensD
  m : MomD
  r : RandD
  c : CurD
instance : Inhabited LayD := ⟨.mk ⟨0, 0, 0, 0, 0, 0, 0, 0⟩ []⟩
def tnth (l : List TensD) (k : Nat) : TensD := l.getD k ⟨[], []⟩
theorem tnth_eq (l : List TensD) (k : Nat) (h : k < l.length) : tnth l k = l[k] := by
  rw [tnth, List.getD_eq_getElem?_getD, List.getElem?_eq_getElem h]; rfl
/-- row i of an array of tensors -/
def TensRd (w : World) (o : Option Addr) (i : Nat) (t : TensD) : Prop :=
  ∃ b off vs vd, o = some ⟨b, off, none⟩ ∧ w.cell? ⟨b, off + i * 2, none⟩ = some vs ∧ w.cell? ⟨b, off + i * 2 + 1, none⟩ = some vd ∧ Rd w .i64 vs t.sh ∧ Rd w .i64 vd t.da
def TenssRd (w : World) (v : Value) (ts : List TensD) : Prop := ∃ o cap, v = .slice o ts.length cap ∧ ∀ i, i < ts.length → TensRd w o i (tnth ts i)
theorem TensRd.below {w w' : World} {B : Nat} {o : Option Addr} {i : Nat} {t : TensD} (h : TensRd w o i t) (hB : Below B w w') (hs : w.heap.size ≤ B) : TensRd w' o i t := by
  obtain ⟨b, off, vs, vd, rfl, h1, h2, h3, h4⟩ := h
  exact ⟨b, off, vs, vd, rfl, (hB.cell (p := ⟨b, off + i * 2, none⟩) (Nat.lt_of_lt_of_le (cell_lt h1) hs)).trans h1, (hB.cell (p := ⟨b, off + i * 2 + 1, none⟩) (Nat.lt_of_lt_of_le (cell_lt h2) hs)).trans h2, h3.below hB hs, h4.below hB hs⟩
theorem TenssRd.below {w w' : World} {B : Nat} {v : Value} {ts : List TensD} (h : TenssRd w v ts) (hB : Below B w w') (hs : w.heap.size ≤ B) : TenssRd w' v ts := by
  obtain ⟨o, cap, rfl, h⟩ := h
  exact ⟨o, cap, rfl, fun i hi => (h i hi).below hB hs⟩
theorem TenssRd.next {w w' : World} {v : Value} {ts : List TensD} (h : TenssRd w v ts) (hB : Below w.heap.size w w') : TenssRd w' v ts := h.below hB (Nat.le_refl _)
theorem TenssRd.same {w w' : World} {v : Value} {ts : List TensD} (h : TenssRd w v ts) (hs : Same w w') : TenssRd w' v ts := h.next (hs.below _)
theorem TenssRd.slice {w : World} {v : Value} {ts : List TensD} (h : TenssRd w v ts) : ∃ o cap, v = .slice o ts.length cap := by
  obtain ⟨o, cap, rfl, _⟩ := h
  exact ⟨o, cap, rfl⟩
theorem TenssRd.tens {w : World} {o : Option Addr} {n cap : Nat} {ts : List TensD} (h : TenssRd w (.slice o n cap) ts) (i : Nat) (hi : i < ts.length) : TensRd w o i (tnth ts i) := by
  obtain ⟨o', cap', he, h⟩ := h
  simp at he
  obtain ⟨rfl, _, _⟩ := he
  exact h i hi
end Go.Proofs.YtipjhdgegfgenaaGreat
/-
  PLAIN: what may be, and the text of a definition, as the program has it: rows of kinds, layers with their bodies.
-/
set_option linter.unusedVariables false
set_option linter.unusedSimpArgs false
namespace Go.Proofs.YtipjhdgegfgenaaGreat
/-- a kind's row: its word, where its numbers stand in a layer, their bounds -/
structure RowD where
  kind : Int
  word : List UInt8
  at_ : List Nat
  low : List Int
  high : List Int
def rowsD : List RowD := [
  ⟨1, [108, 105, 110, 101, 97, 114], [1, 2], [1, 1], [4096, 4096]⟩,
  ⟨2, [99, 111, 110, 118], [1, 2, 3, 4, 5], [1, 1, 1, 1, 0], [4096, 4096, 4096, 4096, 4096]⟩,
  ⟨3, [114, 101, 108, 117], [], [], []⟩,
  ⟨4, [116, 97, 110, 104], [], [], []⟩,
  ⟨5, [115, 105, 103, 109, 111, 105, 100], [], [], []⟩,
  ⟨6, [110, 111, 114, 109], [], [], []⟩,
  ⟨10, [102, 108, 97, 116, 116, 101, 110], [], [], []⟩,
  ⟨7, [100, 114, 111, 112], [6], [0], [99]⟩,
  ⟨8, [109, 97, 120, 112, 111, 111, 108], [3], [1], [4096]⟩,
  ⟨9, [97, 118, 103, 112, 111, 111, 108], [3], [1], [4096]⟩,
  ⟨11, [101, 109, 98, 101, 100], [1, 2], [1, 1], [4096, 4096]⟩,
  ⟨12, [97, 116, 116, 101, 110, 116, 105, 111, 110], [1, 7], [1, 1], [4096, 4096]⟩]
def LayN.fld (n : LayN) : Nat → Int
  | 1 => n.inn
  | 2 => n.out
  | 3 => n.size
  | 4 => n.stride
  | 5 => n.pad
  | 6 => n.percent
  | 7 => n.heads
  | _ => n.kind
def LayN.put (n : LayN) (i : Nat) (x : Int) : LayN := match i with
  | 1 => { n with inn := x }
  | 2 => { n with out := x }
  | 3 => { n with size := x }
  | 4 => { n with stride := x }
  | 5 => { n with pad := x }
  | 6 => { n with percent := x }
  | 7 => { n with heads := x }
  | _ => { n with kind := x }
def zeroN : LayN := ⟨0, 0, 0, 0, 0, 0, 0, 0⟩
def plainB (l m : LayN) : Bool := decide (l.inn = m.inn) && decide (l.out = m.out) && decide (l.size = m.size) && decide (l.stride = m.stride) && decide (l.pad = m.pad) && decide (l.percent = m.percent) && decide (l.heads = m.heads)
def RowD.fits (r : RowD) (n : LayN) (k : Nat) : Bool := decide (r.low.getD k 0 ≤ n.fld (r.at_.getD k 0)) && decide (n.fld (r.at_.getD k 0) ≤ r.high.getD k 0)
def RowD.fitsTo (r : RowD) (n : LayN) : Nat → Bool
  | 0 => true
  | k + 1 => r.fitsTo n k && r.fits n k
def RowD.made (r : RowD) (n : LayN) : Nat → LayN
  | 0 => zeroN
  | k + 1 => (r.made n k).put (r.at_.getD k 0) (n.fld (r.at_.getD k 0))
/-- a layer that is no residual -/
def oneB (r : RowD) (n : LayN) (body : List LayD) : Bool := r.fitsTo n r.at_.length && (decide (body.length = 0) && plainB n (r.made n r.at_.length))
def rowOf (k : Int) : Option RowD := rowsD.find? fun r => r.kind == k
def leafB (n : LayN) (body : List LayD) : Bool := match rowOf n.kind with
  | none => false
  | some r => oneB r n body
mutual
/-- how many layers there may be behind it, if it may be -/
def goodLay (deep : Nat) (left : Int) : LayD → Option Int
  | .mk n body => bif decide (left - 1 < 0) then none else bif decide (n.kind = 13) then (bif decide (deep < 4) && plainB n zeroN then goodLays (deep + 1) (left - 1) body else none) else bif leafB n body then some (left - 1) else none
def goodLays (deep : Nat) (left : Int) : List LayD → Option Int
  | [] => some left
  | l :: r => match goodLay deep left l with
    | none => none
    | some k => goodLays deep k r
end
def lossB (k : Int) : Bool := decide (k = 1) || decide (k = 2)
def inputB (s : List Int) : Bool := decide (1 ≤ s.length) && decide (s.length ≤ 3) && s.all dimB
def goodDef (d : DefD) : Bool := inputB d.input && lossB d.loss && (goodLays 0 64 d.lays).isSome
def numsText (n : LayN) : List Nat → List UInt8
  | [] => []
  | i :: r => 32 :: (Lib.itoa (n.fld i) ++ numsText n r)
def RowD.text (r : RowD) (n : LayN) : List UInt8 := r.word ++ numsText n r.at_ ++ [10]
def leafText (n : LayN) : List UInt8 := match rowOf n.kind with
  | none => []
  | some r => r.text n
def residualW : List UInt8 := [114, 101, 115, 105, 100, 117, 97, 108]
def endW : List UInt8 := [101, 110, 100]
def lossW : List UInt8 := [108, 111, 115, 115]
def inputW : List UInt8 := [105, 110, 112, 117, 116]
mutual
def layText : LayD → List UInt8
  | .mk n body => bif decide (n.kind = 13) then residualW ++ [10] ++ laysText body ++ endW ++ [10] else leafText n
def laysText : List LayD → List UInt8
  | [] => []
  | l :: r => layText l ++ laysText r
end
def inputText : List Int → List UInt8
  | [] => []
  | x :: r => 32 :: (Lib.itoa x ++ inputText r)
def lossText (k : Int) : List UInt8 := bif decide (k = 1) then [120, 101, 110, 116] else [115, 113, 117, 97, 114, 101]
def defText (d : DefD) : List UInt8 := inputW ++ inputText d.input ++ [10] ++ laysText d.lays ++ lossW ++ [32] ++ lossText d.loss ++ [10]
end Go.Proofs.YtipjhdgegfgenaaGreat
/-
  SMALL FUNCTIONS of a state's check: fraction bits, generators, orders, cursors.
-/
set_option linter.unusedVariables false
set_option linter.unusedSimpArgs false
namespace Go.Proofs.YtipjhdgegfgenaaGreat
open Go.RowKit Go.Shelf Go
def goodFB (f : Int) : Bool := decide (8 ≤ f) && decide (f ≤ 32)
set_option maxHeartbeats 400000 in
theorem fxGoodF_any (v : Int) (w : World) :
    Calls Tryz.prog 21 #[.int .i64 v] w fun e w' => e = .returned (.bool (goodFB v)) ∧ Same w w' := by
  by_cases h1 : 8 ≤ v
  · by_cases h2 : v ≤ 32
    all_goals
      go_enter Tryz.func21, Tryz.ntmps21
      go_wp2
      go_ret
      exact ⟨ret_bool (by simp [goodFB]; omega), Same.refl _⟩
  · go_enter Tryz.func21, Tryz.ntmps21
    go_wp2
    go_ret
    exact ⟨ret_bool (by simp [goodFB]; omega), Same.refl _⟩
theorem size_u64 (w : World) : (sizeOf 150).run Tryz.prog w = .ok 1 w := by kernel_rfl
theorem agg_u64 (w : World) : (isAgg 150).run Tryz.prog w = .ok false w := by kernel_rfl
/-- a generator that may be -/
def randB (n : Nat) (a b c d : Int) : Bool := decide (n ≤ 4096) && (decide (a ≠ 0) || decide (b ≠ 0) || decide (c ≠ 0) || decide (d ≠ 0))
end Go.Proofs.YtipjhdgegfgenaaGreat
