/-
  PLAIN FACTS, with no program in sight: lists of integers read by 'nth'; the sum of bytes (CRC32) as numbers.
-/
import Derived.Below
import Derived.WalkKit
import Derived.WalkSpells
import Derived.WalkLawsBesides
import Derived.Deep.QuietTactic
import Derived.BigQuiet
import Derived.Lib.Hide
import Derived.Lib.SlBytesConst
import Derived.Lib.Strings
import Derived.Deep.LoopGhost
import Derived.Deep.RegionHeld3
import Derived.Deep.DeepCutAuto
import Derived.Sort.EncStr
import Derived.Maps.Views
import Derived.Maps.OwnSet
import Derived.Sort.KeysCollected
import Derived.Test.YtejmbhckfdfoeaaRows
set_option linter.unusedVariables false
set_option linter.unusedSimpArgs false
namespace Go.Proofs.Ytejmbhckfdfoeaa
def nth (l : List Int) (k : Nat) : Int := l.getD k 0
theorem take_succ_nth (l : List Int) (k : Nat) (h : k < l.length) : l.take (k + 1) = l.take k ++ [nth l k] := by
  rw [List.take_succ_eq_append_getElem h, nth, List.getD_eq_getElem?_getD, List.getElem?_eq_getElem h]; rfl
theorem nth_eq (l : List Int) (k : Nat) (h : k < l.length) : nth l k = l[k] := by
  rw [nth, List.getD_eq_getElem?_getD, List.getElem?_eq_getElem h]; rfl
theorem nth_mem (l : List Int) (k : Nat) (h : k < l.length) : nth l k ∈ l := by
  rw [nth_eq l k h]; exact List.getElem_mem h
theorem ext_nth {a b : List Int} (hl : a.length = b.length) (h : ∀ k, k < a.length → nth a k = nth b k) : a = b := by
  apply List.ext_getElem hl
  intro k h1 h2
  have := h k h1
  rwa [nth_eq a k h1, nth_eq b k h2] at this
theorem beq0_false (n : Nat) (h : n ≠ 0) : ((n : Int) == 0) = false := by rw [beq_eq_false_iff_ne]; omega
theorem beq0_true (n : Nat) (h : n = 0) : ((n : Int) == 0) = true := by rw [beq_iff_eq]; omega
theorem set_set_nth (l : List Int) (j : Nat) (x : Int) (h : j < l.length) : (l.set j x).set j (nth l j) = l := by
  rw [List.set_set, nth_eq l j h, List.set_getElem_self]
theorem nth_set (l : List Int) (j : Nat) (x : Int) (h : j < l.length) : nth (l.set j x) j = x := by
  rw [nth_eq _ _ (by simpa using h), List.getElem_set_self]
theorem nth_set_ne (l : List Int) (j k : Nat) (x : Int) (h : j ≠ k) : nth (l.set j x) k = nth l k := by
  simp [nth, List.getD_eq_getElem?_getD, List.getElem?_set_ne h]
theorem list1 {α : Type} {l : List α} (h : l.length = 1) : ∃ a, l = [a] := match l, h with | [a], _ => ⟨a, rfl⟩
theorem list2 {α : Type} {l : List α} (h : l.length = 2) : ∃ a b, l = [a, b] := match l, h with | [a, b], _ => ⟨a, b, rfl⟩
theorem list3 {α : Type} {l : List α} (h : l.length = 3) : ∃ a b c, l = [a, b, c] := match l, h with | [a, b, c], _ => ⟨a, b, c, rfl⟩
theorem list4 {α : Type} {l : List α} (h : l.length = 4) : ∃ a b c d, l = [a, b, c, d] := match l, h with | [a, b, c, d], _ => ⟨a, b, c, d, rfl⟩
theorem list5 {α : Type} {l : List α} (h : l.length = 5) : ∃ a b c d e, l = [a, b, c, d, e] := match l, h with | [a, b, c, d, e], _ => ⟨a, b, c, d, e, rfl⟩
/-- one bit of the sum's step -/
def crcBit (x : Nat) : Nat := if x % 2 = 1 then (x / 2) ^^^ 3988292384 else x / 2
def crcBits : Nat → Nat → Nat
  | 0, x => x
  | n + 1, x => crcBits n (crcBit x)
theorem crcBits_succ (n x : Nat) : crcBits (n + 1) x = crcBit (crcBits n x) := by
  induction n generalizing x with
  | zero => rfl
  | succ n ih => rw [crcBits, ih]; rfl
def crcTab (k : Nat) : Nat := crcBits 8 k
def crcStep (s c : Nat) : Nat := (s / 256) ^^^ crcTab ((s % 256) ^^^ c)
def crcRun (s : Nat) (l : List Int) : Nat := l.foldl (fun s c => crcStep s c.toNat) s
def crcSum (l : List Int) : Nat := crcRun 4294967295 l ^^^ 4294967295
theorem crcBit_lt (x : Nat) (h : x < 4294967296) : crcBit x < 4294967296 := by
  unfold crcBit
  split
  · exact Nat.xor_lt_two_pow (n := 32) (by omega) (by omega)
  · omega
theorem crcBits_lt (n x : Nat) (h : x < 4294967296) : crcBits n x < 4294967296 := by
  induction n generalizing x with
  | zero => exact h
  | succ n ih => exact ih _ (crcBit_lt x h)
theorem crcTab_lt (k : Nat) (h : k < 256) : crcTab k < 4294967296 := crcBits_lt 8 k (by omega)
theorem crcStep_lt (s c : Nat) (hs : s < 4294967296) (hc : c < 256) : crcStep s c < 4294967296 :=
  Nat.xor_lt_two_pow (n := 32) (by omega) (crcTab_lt _ (Nat.xor_lt_two_pow (n := 8) (by omega) (by omega)))
theorem crcRun_snoc (s : Nat) (l : List Int) (c : Int) : crcRun s (l ++ [c]) = crcStep (crcRun s l) c.toNat := by simp [crcRun]
theorem crcRun_lt (s : Nat) (l : List Int) (hs : s < 4294967296) (h : ∀ x ∈ l, 0 ≤ x ∧ x < 256) : crcRun s l < 4294967296 := by
  induction l generalizing s with
  | nil => exact hs
  | cons c l ih =>
    have hc := h c (List.mem_cons_self ..)
    exact ih _ (crcStep_lt s c.toNat hs (by omega)) (fun x hx => h x (List.mem_cons_of_mem _ hx))
end Go.Proofs.Ytejmbhckfdfoeaa
/-
  The vocabulary of this seat's contracts: what a slice reads, what a call keeps.
-/
set_option linter.unusedVariables false
set_option linter.unusedSimpArgs false
namespace Go.Proofs.Ytejmbhckfdfoeaa
open Go.RowKit
/-- the slice value v reads as these integers -/
def Rd (w : World) (K : IntKind) (v : Value) (xs : List Int) : Prop :=
  ∃ o cap, v = .slice o xs.length cap ∧ ∀ j, j < xs.length → ∃ b off, o = some ⟨b, off, none⟩ ∧ w.cell? ⟨b, off + j, none⟩ = some (.int K (nth xs j))
/-- all these integers are of the kind -/
def Wf (K : IntKind) (xs : List Int) : Prop := ∀ x ∈ xs, (Lit.int K x).wf = true
theorem Wf.nth {K : IntKind} {xs : List Int} (h : Wf K xs) (k : Nat) (hk : k < xs.length) : (Lit.int K (nth xs k)).wf = true := h _ (nth_mem xs k hk)
theorem Wf.take {K : IntKind} {xs : List Int} (h : Wf K xs) (k : Nat) : Wf K (xs.take k) := fun x hx => h x (List.mem_of_mem_take hx)
theorem wf_set {K : IntKind} {xs : List Int} (h : Wf K xs) {j : Nat} {x : Int} (hx : (Lit.int K x).wf = true) : Wf K (xs.set j x) := fun y hy => by
  rcases List.mem_or_eq_of_mem_set hy with h' | rfl
  · exact h y h'
  · exact hx
theorem wf_u8 {x : Int} (h : (Lit.int .u8 x).wf = true) : 0 ≤ x ∧ x < 256 := by
  simp [Lit.wf, IntKind.min, IntKind.max, IntKind.signed, IntKind.bits] at h; omega
theorem wf_u32 {x : Int} (h : (Lit.int .u32 x).wf = true) : 0 ≤ x ∧ x < 4294967296 := by
  simp [Lit.wf, IntKind.min, IntKind.max, IntKind.signed, IntKind.bits] at h; omega
theorem wf_u64 {x : Int} (h : (Lit.int .u64 x).wf = true) : 0 ≤ x ∧ x < 18446744073709551616 := by
  simp [Lit.wf, IntKind.min, IntKind.max, IntKind.signed, IntKind.bits] at h; omega
theorem wf_i64 {x : Int} (h : (Lit.int .i64 x).wf = true) : -9223372036854775808 ≤ x ∧ x ≤ 9223372036854775807 := by
  simp [Lit.wf, IntKind.min, IntKind.max, IntKind.signed, IntKind.bits] at h; omega
/-- nothing has turned but for what was drawn -/
def Same (w w' : World) : Prop := ∃ n, w' = w.drewN n
theorem Same.refl (w : World) : Same w w := ⟨0, rfl⟩
theorem Same.trans {a b c : World} (h : Same a b) (k : Same b c) : Same a c := by
  obtain ⟨n, rfl⟩ := h
  obtain ⟨m, rfl⟩ := k
  exact ⟨n + m, World.drewN_drewN _ _ _⟩
theorem Same.below {w w' : World} (h : Same w w') (B : Nat) : Below B w w' := by
  obtain ⟨n, rfl⟩ := h
  exact ⟨rfl, rfl, rfl, Nat.le_refl _, fun _ _ => rfl⟩
theorem Same.heap {w w' : World} (h : Same w w') : w'.heap = w.heap := by
  obtain ⟨n, rfl⟩ := h
  rfl
theorem cell_lt {w : World} {b o : Nat} {v : Value} (h : w.cell? ⟨b, o, none⟩ = some v) : b < w.heap.size := World.block_lt_of_cell? w _ h
theorem Rd.below {w w' : World} {K : IntKind} {v : Value} {xs : List Int} {B : Nat} (h : Rd w K v xs) (hB : Below B w w') (hs : w.heap.size ≤ B) : Rd w' K v xs := by
  obtain ⟨o, cap, rfl, hc⟩ := h
  refine ⟨o, cap, rfl, fun j hj => ?_⟩
  obtain ⟨b, off, rfl, h⟩ := hc j hj
  exact ⟨b, off, rfl, (hB.cell (p := ⟨b, off + j, none⟩) (Nat.lt_of_lt_of_le (cell_lt h) hs)).trans h⟩
theorem Rd.nil (w : World) (K : IntKind) (o : Option Addr) (cap : Nat) : Rd w K (.slice o 0 cap) [] := ⟨o, cap, rfl, fun _ h => absurd h (Nat.not_lt_zero _)⟩
theorem Rd.of_own {w : World} {B : Nat} {e : TypeId} {K : IntKind} {v : Value} {n : Nat} {xs : List Int} (h : w.ownsRow B e 1 v n (xs.map (.int K))) : Rd w K v xs := by
  obtain ⟨h1, h2⟩ := h
  have hl : xs.length = n := by simpa using h1
  subst hl
  rcases h2 with ⟨rfl, h0⟩ | ⟨g, cap, cur, rfl, _, hg, _, _, _, ht⟩
  · have : xs = [] := List.eq_nil_of_length_eq_zero h0
    subst this
    exact Rd.nil _ _ _ _
  · refine ⟨_, cap, rfl, fun j hj => ⟨g, 0, rfl, ?_⟩⟩
    have hx : (xs.map (Value.int K))[j]? = some (.int K (nth xs j)) := by
      rw [List.getElem?_map, List.getElem?_eq_getElem hj, nth_eq xs j hj]; rfl
    rw [← ht, List.getElem?_take, if_pos (by omega)] at hx
    rw [Nat.zero_add, cell_of_row w g j cur e (0, 0) hg]
    simpa using hx
theorem Rd.alloc {w : World} {K : IntKind} {v : Value} {xs : List Int} (h : Rd w K v xs) (o : Obj) : Rd (w.alloc o) K v xs :=
  h.below ((Below.refl _ _).alloc (Nat.le_refl _) o) (Nat.le_refl _)
theorem own_below {w w' : World} {B C : Nat} {e : TypeId} {s : Nat} {v : Value} {n : Nat} {xs : List Value} (h : w.ownsRow B e s v n xs) (hB : Below C w w') (hs : w.heap.size ≤ C) : w'.ownsRow B e s v n xs := by
  refine ⟨h.1, ?_⟩
  rcases h.2 with hn | ⟨g, cap, cur, rfl, hb, hgg, rest⟩
  · exact .inl hn
  · exact .inr ⟨g, cap, cur, rfl, hb, by rw [hB.block g (Nat.lt_of_lt_of_le (Array.getElem?_eq_some_iff.1 hgg).1 hs)]; exact hgg, rest⟩
theorem Rd.same {w w' : World} {K : IntKind} {v : Value} {xs : List Int} (h : Rd w K v xs) (hs : Same w w') : Rd w' K v xs := h.below (hs.below w.heap.size) (Nat.le_refl _)
theorem own_same {w w' : World} {B : Nat} {e : TypeId} {s : Nat} {v : Value} {n : Nat} {xs : List Value} (h : w.ownsRow B e s v n xs) (hs : Same w w') : w'.ownsRow B e s v n xs := own_below h (hs.below w.heap.size) (Nat.le_refl _)
theorem Rd.new (w : World) (K : IntKind) (xs : List Int) (e : TypeId) (c : Nat) (fz : Nat × Nat) : Rd (w.alloc (.cells (xs.map (Value.int K)).toArray e fz)) K (.slice (some ⟨w.heap.size, 0, none⟩) xs.length c) xs := by
  refine ⟨_, c, rfl, fun j hj => ⟨w.heap.size, 0, rfl, ?_⟩⟩
  rw [Nat.zero_add, cell_of_row _ w.heap.size j _ e fz (heap_alloc_new w _)]
  simp [nth_eq xs j hj, hj]
/-- a row of the call's own, of integers -/
abbrev OwnI (w : World) (B : Nat) (e : TypeId) (K : IntKind) (v : Value) (xs : List Int) : Prop := w.ownsRow B e 1 v xs.length (xs.map (.int K))
theorem own_slice {w : World} {B : Nat} {e : TypeId} {s : Nat} {v : Value} {n : Nat} {xs : List Value} (h : w.ownsRow B e s v n xs) : ∃ a cap, v = .slice a n cap := by
  rcases h.2 with ⟨rfl, rfl⟩ | ⟨g, cap, cur, rfl, _⟩
  · exact ⟨none, 0, rfl⟩
  · exact ⟨_, cap, rfl⟩
theorem own_mono {w : World} {B C : Nat} {e : TypeId} {s : Nat} {v : Value} {n : Nat} {xs : List Value} (h : w.ownsRow B e s v n xs) (hC : C ≤ B) : w.ownsRow C e s v n xs := by
  refine ⟨h.1, ?_⟩
  rcases h.2 with hn | ⟨g, cap, cur, rfl, hb, rest⟩
  · exact .inl hn
  · exact .inr ⟨g, cap, cur, rfl, Nat.le_trans hC hb, rest⟩
theorem madeInts (K : IntKind) (n : Nat) : (madeCells (Value.int K 0).cells (n * 1)).toList = (List.replicate n (0 : Int)).map (Value.int K) := by
  rw [Nat.mul_one]
  apply List.ext_getElem
  · simp [madeCells]
  · intro i h1 h2
    simp [madeCells, Value.cells, Nat.mod_one]
theorem OwnI.made {w : World} {B : Nat} {e : TypeId} {K : IntKind} {v : Value} {n : Nat} (h : w.ownsRow B e 1 v n (madeCells (Value.int K 0).cells (n * 1)).toList) : OwnI w B e K v (List.replicate n 0) := by
  rw [madeInts] at h
  simpa [OwnI] using h
theorem grown_below {w w' : World} (h : w.grownBy w' none) : Below w.heap.size w w' :=
  (Below.refl _ _).grown h (Nat.le_refl _) (fun _ e => by cases e)
theorem own_set_other {w : World} {B : Nat} {e : TypeId} {s g n cap m : Nat} {xs : List Value} (h : w.ownsRow B e s (.slice (some ⟨g, 0, none⟩) n cap) m xs) {p : Addr} (hp : p.block ≠ g) (u : Value) :
    (w.setCell p u).ownsRow B e s (.slice (some ⟨g, 0, none⟩) n cap) m xs := by
  refine ⟨h.1, ?_⟩
  rcases h.2 with ⟨h1, _⟩ | ⟨g', cap', cur, h1, hb, hg, r⟩
  · simp at h1
  · simp at h1
    obtain ⟨rfl, rfl, rfl⟩ := h1
    exact .inr ⟨g, cap, cur, rfl, hb, by rw [Below.heap_setCell _ _ _ _ (fun e => hp e.symm)]; exact hg, r⟩
theorem rd_slice {w : World} {K : IntKind} {v : Value} {xs : List Int} (h : Rd w K v xs) : ∃ o cap, v = .slice o xs.length cap := by
  obtain ⟨o, cap, rfl, _⟩ := h
  exact ⟨o, cap, rfl⟩
theorem Rd.cell {w : World} {K : IntKind} {o : Option Addr} {n cap : Nat} {xs : List Int} (h : Rd w K (.slice o n cap) xs) (j : Nat) (hj : j < xs.length) :
    ∃ b off, o = some ⟨b, off, none⟩ ∧ w.cell? ⟨b, off + j, none⟩ = some (.int K (nth xs j)) := by
  obtain ⟨o', cap', he, hc⟩ := h
  simp at he
  obtain ⟨rfl, _, _⟩ := he
  exact hc j hj
/-- block B holds just these cells -/
def Box (w : World) (B : Nat) (T : TypeId) (cs : Array Value) : Prop := w.heap[B]? = some (.cells cs T (0, 0))
theorem Box.new (w : World) (T : TypeId) (cs : Array Value) : Box (w.alloc (.cells cs T)) w.heap.size T cs := heap_alloc_new w _
theorem Box.below {w w' : World} {B C : Nat} {T : TypeId} {cs : Array Value} (h : Box w B T cs) (hB : Below C w w') (hC : B < C) : Box w' B T cs := (hB.block B hC).trans h
theorem Box.lt {w : World} {B : Nat} {T : TypeId} {cs : Array Value} (h : Box w B T cs) : B < w.heap.size := (Array.getElem?_eq_some_iff.1 h).1
theorem Box.same {w w' : World} {B : Nat} {T : TypeId} {cs : Array Value} (h : Box w B T cs) (hs : Same w w') : Box w' B T cs := h.below (hs.below w.heap.size) h.lt
theorem Box.next {w w' : World} {B : Nat} {T : TypeId} {cs : Array Value} (h : Box w B T cs) (hB : Below w.heap.size w w') : Box w' B T cs := h.below hB h.lt
theorem Box.cell {w : World} {B : Nat} {T : TypeId} {cs : Array Value} (h : Box w B T cs) (j : Nat) {v : Value} (hj : cs[j]? = some v) : w.cell? ⟨B, j, none⟩ = some v := by
  rw [cell_of_row w B j cs T (0, 0) h]; exact hj
theorem Box.free {w : World} {B : Nat} {T : TypeId} {cs : Array Value} (h : Box w B T cs) (j : Nat) : w.frozen? ⟨B, j, none⟩ = false := by
  unfold Box at h; simp [World.frozen?, h]
theorem Box.set {w : World} {B : Nat} {T : TypeId} {cs : Array Value} (h : Box w B T cs) (j : Nat) (v : Value) : Box (w.setCell ⟨B, j, none⟩ v) B T (cs.setIfInBounds j v) := by
  unfold Box at h ⊢; simp [World.setCell, Array.getElem?_modify, h]
theorem Box.other {w : World} {B : Nat} {T : TypeId} {cs : Array Value} (h : Box w B T cs) {p : Addr} (hp : p.block ≠ B) (v : Value) : Box (w.setCell p v) B T cs := by
  unfold Box at h ⊢; rw [Below.heap_setCell _ _ _ _ (fun e => hp e.symm)]; exact h
theorem own_snoc {w : World} {B : Nat} {e : TypeId} {K : IntKind} {v : Value} {xs : List Int} {x : Int} (h : w.ownsRow B e 1 v (xs.length + 1) (xs.map (Value.int K) ++ [.int K x])) : OwnI w B e K v (xs ++ [x]) := by
  simpa [OwnI] using h
theorem own_cat {w : World} {B : Nat} {e : TypeId} {K : IntKind} {v : Value} {xs ys : List Int} {m : Nat} (h : w.ownsRow B e 1 v (xs.length + m) (xs.map (Value.int K) ++ ys.map (Value.int K))) (hm : m = ys.length) : OwnI w B e K v (xs ++ ys) := by
  subst hm
  simpa [OwnI] using h
theorem below_append' {w wr w1 : World} {B C : Nat} {e : TypeId} {s : Nat} {v : Value} {n : Nat} {xs : List Value} {o : Obj} (hB : Below C w wr) (hb : C ≤ w.heap.size) (h : wr.ownsRow B e s v n xs) (hg : (wr.alloc o).grownBy w1 v.ownBlock) (hC : C ≤ B := by exact Nat.le_refl _) : Below C w w1 :=
  (hB.alloc (Nat.le_trans hb hB.size) o).grown hg (by have := hB.size; simp; omega) fun k hk => Nat.le_trans hC (h.lt k hk).1
theorem cells_new (w : World) (l : List Value) (e : TypeId) (fz : Nat × Nat) : ∀ (j : Nat) (u : Value), l[j]? = some u → (w.alloc (.cells l.toArray e fz)).cell? ((⟨w.heap.size, 0, none⟩ : Addr).add j) = some u := fun j u h => by
  rw [Addr.add_lit, Nat.zero_add, cell_of_row _ w.heap.size j _ e fz (heap_alloc_new w _)]
  simpa using h
/-- the walk stands here till it is told to go on -/
theorem stopHere {p : Prop} (h : Hid p) : p := h
theorem goOn {p : Prop} (h : p) : Hid p := h
theorem OwnI.at {w : World} {B : Nat} {e : TypeId} {K : IntKind} {v : Value} {xs : List Int} (h : OwnI w B e K v xs) (h0 : 0 < xs.length) :
    ∃ g cap, v = .slice (some ⟨g, 0, none⟩) xs.length cap ∧ B ≤ g ∧ g < w.heap.size := by
  rcases h.2 with ⟨rfl, hn⟩ | ⟨g, cap, cur, rfl, hb, hg, _⟩
  · omega
  · exact ⟨g, cap, rfl, hb, (Array.getElem?_eq_some_iff.1 hg).1⟩
theorem OwnI.cell {w : World} {B : Nat} {e : TypeId} {K : IntKind} {g n cap : Nat} {xs : List Int} (h : OwnI w B e K (.slice (some ⟨g, 0, none⟩) n cap) xs) (j : Nat) (hj : j < xs.length) :
    w.cell? ⟨g, j, none⟩ = some (.int K (nth xs j)) ∧ w.frozen? ⟨g, j, none⟩ = false := by
  rcases h.2 with ⟨h1, _⟩ | ⟨g', cap', cur, h1, hb, hg, _, _, _, ht⟩
  · simp at h1
  · simp at h1
    obtain ⟨rfl, _, _⟩ := h1
    have hx : (xs.map (Value.int K))[j]? = some (.int K (nth xs j)) := by rw [List.getElem?_map, List.getElem?_eq_getElem hj, nth_eq xs j hj]; rfl
    rw [← ht, List.getElem?_take, if_pos (by omega)] at hx
    refine ⟨?_, ?_⟩
    · rw [cell_of_row w g j cur e (0, 0) hg]; simpa using hx
    · simp [World.frozen?, hg]
theorem OwnI.set {w : World} {B : Nat} {e : TypeId} {K : IntKind} {g n cap : Nat} {xs : List Int} (h : OwnI w B e K (.slice (some ⟨g, 0, none⟩) n cap) xs) (j : Nat) (x : Int) :
    OwnI (w.setCell ⟨g, j, none⟩ (.int K x)) B e K (.slice (some ⟨g, 0, none⟩) n cap) (xs.set j x) := by
  refine ⟨by simp, ?_⟩
  rcases h.2 with ⟨h1, _⟩ | ⟨g', cap', cur, h1, hb, hg, h4, h5, h6, ht⟩
  · simp at h1
  · simp at h1
    obtain ⟨rfl, rfl, rfl⟩ := h1
    refine .inr ⟨g, cap, cur.setIfInBounds j (.int K x), by simp, hb, by simp [World.setCell, Array.getElem?_modify, hg], by simpa using h4, h5, by simpa using h6, ?_⟩
    rw [Array.toList_setIfInBounds, List.take_set, List.length_set, ht, List.map_set]
end Go.Proofs.Ytejmbhckfdfoeaa
/-
  NAMES of files: which strings are such.
-/
set_option linter.unusedVariables false
set_option linter.unusedSimpArgs false
namespace Go.Proofs.Ytejmbhckfdfoeaa
open Go.RowKit
def goodC (c : UInt8) : Bool := decide ((97 ≤ (c.toNat : Int) ∧ (c.toNat : Int) ≤ 122) ∨ (48 ≤ (c.toNat : Int) ∧ (c.toNat : Int) ≤ 57) ∨ (c.toNat : Int) = 46 ∨ (c.toNat : Int) = 95)
theorem goodC_yes {c : UInt8} (h : (97 ≤ (c.toNat : Int) ∧ (c.toNat : Int) ≤ 122) ∨ (48 ≤ (c.toNat : Int) ∧ (c.toNat : Int) ≤ 57) ∨ (c.toNat : Int) = 46 ∨ (c.toNat : Int) = 95) : goodC c = true := decide_eq_true h
theorem goodC_no {c : UInt8} (h : ¬ ((97 ≤ (c.toNat : Int) ∧ (c.toNat : Int) ≤ 122) ∨ (48 ≤ (c.toNat : Int) ∧ (c.toNat : Int) ≤ 57) ∨ (c.toNat : Int) = 46 ∨ (c.toNat : Int) = 95)) : goodC c = false := decide_eq_false h
/-- a file's name -/
def goodNm (l : List UInt8) : Bool := l.all goodC && (decide (1 ≤ l.length) && decide (l.length ≤ 32))
theorem take_snocB (s : ByteArray) (k : Nat) (h : k < s.size) : s.data.toList.take (k + 1) = s.data.toList.take k ++ [s[k]] := by
  rw [List.take_succ_eq_append_getElem (by simpa using h)]; rfl
theorem all_not {s : ByteArray} {k : Nat} (h : k < s.size) (hc : goodC s[k] = false) : s.data.toList.all goodC = false := by
  rw [List.all_eq_false]
  exact ⟨s[k], by rw [show s[k] = s.data.toList[k]'(by simpa using h) from rfl]; exact List.getElem_mem _, by rw [hc]; decide⟩
theorem ret_bool' {a b : Bool} (h : a = b) : Ending.returned (.bool a) = .returned (.bool b) := by rw [h]
set_option maxHeartbeats 1000000 in
theorem diskGood_any (s : ByteArray) (w : World) (hs : s.size ≤ maxLen) :
    Calls Try.prog 31 #[.string s] w fun e w' => e = .returned (.bool (goodNm s.data.toList)) ∧ w = w' := by
  unfold maxLen at hs
  go_enter Try.func31, Try.ntmps31
  go_wp2
  go_loop [7] (fun i => ∃ k : Nat, k ≤ s.size ∧ i = .int .i64 k ∧ (s.data.toList.take k).all goodC = true) (fun i => s.size - (intOf i).toNat)
  case atStart => exact ⟨0, Nat.zero_le _, rfl, rfl⟩
  case round =>
    obtain ⟨k, hk, rfl, hal⟩ := hrel
    by_cases hlt : k < s.size
    · have HAL := Lib.hid hal
      have HTS := Lib.hid (take_snocB s k hlt)
      have HNO := Lib.hid (fun h => all_not (s := s) hlt h)
      clear hal
      go_wp2
      all_goals first
        | (go_ret; refine ⟨ret_bool' ?_, rfl⟩; rw [goodNm, HNO.out (goodC_no (by (try simp only [bne_iff_ne, ne_eq, bne_eq_false_iff_eq] at *); omega)), Bool.false_and])
        | (go_round
           case rel => exact ⟨k + 1, by omega, by go_num, by rw [HTS.out, List.all_append, HAL.out, Bool.true_and, List.all_cons, List.all_nil, Bool.and_true]; exact goodC_yes (by (try simp only [bne_iff_ne, ne_eq, bne_eq_false_iff_eq] at *); omega)⟩
           case measure => simp [intOf]; omega)
    · obtain rfl : k = s.size := by omega
      have hal' : s.data.toList.all goodC = true := by rwa [List.take_of_length_le (by simp)] at hal
      have HAL := Lib.hid hal'
      clear hal hal'
      by_cases h1 : 1 ≤ s.size
      · by_cases h2 : s.size ≤ 32
        · go_wp2
          go_ret
          refine ⟨ret_bool' ?_, rfl⟩
          rw [goodNm, HAL.out, Bool.true_and, show s.data.toList.length = s.size from by simp, decide_eq_true h1, Bool.true_and]; first | exact (decide_eq_true h2).symm | exact (decide_eq_false h2).symm | exact decide_eq_decide.2 (by omega)
        · go_wp2
          go_ret
          refine ⟨ret_bool' ?_, rfl⟩
          rw [goodNm, HAL.out, Bool.true_and, show s.data.toList.length = s.size from by simp, decide_eq_true h1, Bool.true_and]; first | exact (decide_eq_true h2).symm | exact (decide_eq_false h2).symm | exact decide_eq_decide.2 (by omega)
      · go_wp2
        go_ret
        refine ⟨ret_bool' ?_, rfl⟩
        rw [goodNm, HAL.out]; simp [h1]; done
end Go.Proofs.Ytejmbhckfdfoeaa
/-
  THE REFERENCE'S Name: the same answer as disk.good.
-/
set_option linter.unusedVariables false
set_option linter.unusedSimpArgs false
namespace Go.Proofs.Ytejmbhckfdfoeaa
open Go.RowKit
set_option maxHeartbeats 1000000 in
theorem refName_any (s : ByteArray) (w : World) (hs : s.size ≤ maxLen) :
    Calls Try.prog 11 #[.string s] w fun e w' => e = .returned (.bool (goodNm s.data.toList)) ∧ w = w' := by
  unfold maxLen at hs
  by_cases h1 : s.size < 1
  · have e1 : decide ((s.size : Int) < 1) = true := decide_eq_true (by omega)
    go_enter Try.func11, Try.ntmps11
    go_wp2
    go_ret
    exact ⟨ret_bool' (by rw [goodNm, show s.data.toList.length = s.size from by simp, decide_eq_false (by omega : ¬ 1 ≤ s.size), Bool.false_and, Bool.and_false]), rfl⟩
  · have e1 : decide ((s.size : Int) < 1) = false := decide_eq_false (by omega)
    by_cases h2 : 32 < s.size
    · have e2 : decide ((32 : Int) < s.size) = true := decide_eq_true (by omega)
      go_enter Try.func11, Try.ntmps11
      go_wp2
      go_ret
      exact ⟨ret_bool' (by rw [goodNm, show s.data.toList.length = s.size from by simp, decide_eq_false (by omega : ¬ s.size ≤ 32), Bool.and_false, Bool.and_false]), rfl⟩
    · have e2 : decide ((32 : Int) < s.size) = false := decide_eq_false (by omega)
      go_enter Try.func11, Try.ntmps11
      go_wp2
      go_loop [3] (fun i => ∃ k : Nat, k ≤ s.size ∧ i = .int .i64 k ∧ (s.data.toList.take k).all goodC = true) (fun i => s.size - (intOf i).toNat)
      case atStart => exact ⟨0, Nat.zero_le _, rfl, rfl⟩
      case round =>
        obtain ⟨k, hk, rfl, hal⟩ := hrel
        by_cases hlt : k < s.size
        · have HAL := Lib.hid hal
          have HTS := Lib.hid (take_snocB s k hlt)
          have HNO := Lib.hid (fun h => all_not (s := s) hlt h)
          clear hal
          go_wp2
          all_goals first
            | (go_ret; refine ⟨ret_bool' ?_, rfl⟩; rw [goodNm, HNO.out (goodC_no (by (try simp only [bne_iff_ne, ne_eq, bne_eq_false_iff_eq] at *); omega)), Bool.false_and])
            | (go_round
               case rel => exact ⟨k + 1, by omega, by go_num, by rw [HTS.out, List.all_append, HAL.out, Bool.true_and, List.all_cons, List.all_nil, Bool.and_true]; exact goodC_yes (by (try simp only [bne_iff_ne, ne_eq, bne_eq_false_iff_eq] at *); omega)⟩
               case measure => simp [intOf]; omega)
        · obtain rfl : k = s.size := by omega
          have hal' : s.data.toList.all goodC = true := by rwa [List.take_of_length_le (by simp)] at hal
          have HAL := Lib.hid hal'
          clear hal hal'
          go_wp2
          go_ret
          exact ⟨ret_bool' (by rw [goodNm, HAL.out, Bool.true_and, show s.data.toList.length = s.size from by simp, decide_eq_true (by omega : 1 ≤ s.size), decide_eq_true (by omega : s.size ≤ 32)]; rfl), rfl⟩
end Go.Proofs.Ytejmbhckfdfoeaa
/-
  FILES: a slice of (name, bytes) as the walk reads it; the reference's May.
-/
set_option linter.unusedVariables false
set_option linter.unusedSimpArgs false
namespace Go.Proofs.Ytejmbhckfdfoeaa
open Go.RowKit
structure FileD where
  nm : List UInt8
  da : List Int
def fnth (fs : List FileD) (i : Nat) : FileD := fs.getD i ⟨[], []⟩
theorem fnth_mem (fs : List FileD) (k : Nat) (h : k < fs.length) : fnth fs k ∈ fs := by
  rw [fnth, List.getD_eq_getElem?_getD, List.getElem?_eq_getElem h]; exact List.getElem_mem h
theorem bytesLess_eq : ∀ (x y : List UInt8), Op.bytesLess x y = decide (x < y)
  | [], [] => by simp [Op.bytesLess]
  | _ :: _, [] => by simp [Op.bytesLess]
  | [], _ :: _ => by simp [Op.bytesLess]
  | a :: x, b :: y => by
    rw [Op.bytesLess, bytesLess_eq x y]
    simp only [List.cons_lt_cons_iff]
    by_cases h1 : a < b <;> by_cases h2 : a = b <;> by_cases h3 : x < y <;> simp [h1, h2, h3]
/-- one of the files: its cells -/
structure FileRd (w : World) (o : Option Addr) (i : Nat) (f : FileD) : Prop where
  ex : ∃ b off od cd, o = some ⟨b, off, none⟩ ∧ w.cell? ⟨b, off + i * 2, none⟩ = some (encStr f.nm) ∧ w.cell? ⟨b, off + i * 2 + 1, none⟩ = some (.slice od f.da.length cd) ∧ Rd w .u8 (.slice od f.da.length cd) f.da
  nl : f.nm.length ≤ maxLen
  dl : f.da.length ≤ 140737488351232
/-- the slice value v reads as these files -/
def FilesRd (w : World) (v : Value) (fs : List FileD) : Prop :=
  ∃ o cap, v = .slice o fs.length cap ∧ ∀ i, i < fs.length → FileRd w o i (fnth fs i)
theorem FileRd.below {w w' : World} {o : Option Addr} {i : Nat} {f : FileD} {B : Nat} (h : FileRd w o i f) (hB : Below B w w') (hs : w.heap.size ≤ B) : FileRd w' o i f := by
  obtain ⟨b, off, od, cd, rfl, h1, h2, h3⟩ := h.ex
  exact ⟨⟨b, off, od, cd, rfl, (hB.cell (p := ⟨b, off + i * 2, none⟩) (Nat.lt_of_lt_of_le (cell_lt h1) hs)).trans h1, (hB.cell (p := ⟨b, off + i * 2 + 1, none⟩) (Nat.lt_of_lt_of_le (cell_lt h2) hs)).trans h2, h3.below hB hs⟩, h.nl, h.dl⟩
theorem FilesRd.below {w w' : World} {v : Value} {fs : List FileD} {B : Nat} (h : FilesRd w v fs) (hB : Below B w w') (hs : w.heap.size ≤ B) : FilesRd w' v fs := by
  obtain ⟨o, cap, rfl, hc⟩ := h
  exact ⟨o, cap, rfl, fun i hi => (hc i hi).below hB hs⟩
theorem FilesRd.same {w w' : World} {v : Value} {fs : List FileD} (h : FilesRd w v fs) (hs : Same w w') : FilesRd w' v fs := h.below (hs.below w.heap.size) (Nat.le_refl _)
def okAt (fs : List FileD) (i : Nat) : Bool := goodNm (fnth fs i).nm && (decide ((fnth fs i).da.length ≤ 4194304) && (decide (i = 0) || Op.bytesLess (fnth fs (i - 1)).nm (fnth fs i).nm))
def okTo (fs : List FileD) (n : Nat) : Bool := (List.range n).all (okAt fs)
/-- what a disk may begin with -/
def mayB (fs : List FileD) : Bool := decide (fs.length ≤ 16) && okTo fs fs.length
theorem okTo_succ (fs : List FileD) (n : Nat) : okTo fs (n + 1) = (okTo fs n && okAt fs n) := by simp [okTo, List.range_succ]
theorem okTo_no {fs : List FileD} {k n : Nat} (h : k < n) (hk : okAt fs k = false) : okTo fs n = false := by
  rw [okTo, List.all_eq_false]
  exact ⟨k, List.mem_range.2 h, by rw [hk]; decide⟩
theorem nm_toList (l : List UInt8) : ByteArray.toList ⟨l.toArray⟩ = l := by rw [Lib.toList_data]
theorem nm_size (l : List UInt8) : (⟨l.toArray⟩ : ByteArray).size = l.length := by simp [ByteArray.size]
theorem refName_nm (l : List UInt8) (w : World) (hs : l.length ≤ maxLen) :
    Calls Try.prog 11 #[.string ⟨l.toArray⟩] w fun e w' => e = .returned (.bool (goodNm l)) ∧ w = w' := by
  have := refName_any ⟨l.toArray⟩ w (by rw [nm_size]; exact hs)
  simpa using this
theorem diskGood_nm (l : List UInt8) (w : World) (hs : l.length ≤ maxLen) :
    Calls Try.prog 31 #[.string ⟨l.toArray⟩] w fun e w' => e = .returned (.bool (goodNm l)) ∧ w = w' := by
  have := diskGood_any ⟨l.toArray⟩ w (by rw [nm_size]; exact hs)
  simpa using this
set_option maxHeartbeats 4000000 in
theorem refMay_any (v : Value) (fs : List FileD) (w : World) (hr : FilesRd w v fs) (hl : fs.length ≤ 140737488351232) :
    Calls Try.prog 7 #[v] w fun e w' => e = .returned (.bool (mayB fs)) ∧ Same w w' := by
  obtain ⟨o, cap, rfl, hc⟩ := hr
  have HC := Lib.hid hc
  clear hc
  by_cases h16 : 16 < fs.length
  · have e1 : decide ((16 : Int) < fs.length) = true := decide_eq_true (by omega)
    go_enter Try.func7, Try.ntmps7
    go_wp2
    go_ret
    exact ⟨ret_bool' (by rw [mayB, decide_eq_false (by omega : ¬ fs.length ≤ 16), Bool.false_and]), Same.refl _⟩
  · have e1 : decide ((16 : Int) < fs.length) = false := decide_eq_false (by omega)
    go_enter Try.func7, Try.ntmps7
    go_wp2_with fail
    go_loopg [3] fs.length (fun g i wr => ∃ k : Nat, g = fs.length - k ∧ k ≤ fs.length ∧ i = .int .i64 k ∧ okTo fs k = true ∧ Same w wr)
    case atStart => exact ⟨0, rfl, Nat.zero_le _, rfl, rfl, Same.refl _⟩
    case round =>
      obtain ⟨k, hg, hk, rfl, hok, hsm⟩ := hrel
      obtain ⟨w0, rfl⟩ : ∃ w0, w0 = wr := ⟨_, rfl⟩
      have HOK := Lib.hid hok
      have HSM := Lib.hid hsm
      clear hok
      by_cases hlt : k < fs.length
      · have hf := (HC.out k hlt).below (hsm.below w.heap.size) (Nat.le_refl _)
        obtain ⟨⟨b, off, od, cd, rfl, c0, c1, _⟩, hnl, hdl⟩ := hf
        have HP := Lib.hid (fun (h : 0 < k) => (HC.out (k - 1) (by omega)).below (hsm.below w.heap.size) (Nat.le_refl _))
        have hnl0 : (fnth fs k).nm.length ≤ maxLen := hnl
        obtain ⟨nm, hnm⟩ : ∃ nm, nm = (fnth fs k).nm := ⟨_, rfl⟩
        obtain ⟨dl, hdl'⟩ : ∃ dl, dl = (fnth fs k).da.length := ⟨_, rfl⟩
        rw [← hdl'] at c1 hdl
        rw [← hnm] at c0 hnl hnl0
        have HNM := Lib.hid hnm
        have HDL := Lib.hid hdl'
        have HNL := Lib.hid hnl0
        clear hsm hnm hdl' hnl hnl0
        have HOKA : Hid (okAt fs k = (goodNm nm && (decide (dl ≤ 4194304) && (decide (k = 0) || Op.bytesLess (fnth fs (k - 1)).nm nm)))) := Lib.hid (by rw [okAt, HNM.out, HDL.out])
        go_wp2_with fail
        have HX := Lib.hid (Same.refl w0)
        go_cut [46] (fun v wx => v = .bool (!okAt fs k) ∧ Same w0 wx)
        case first =>
          cases hgn : goodNm nm with
          | false =>
            have HGN := Lib.hid hgn
            clear hgn
            go_quiet ((go_at_call 11; exact Calls.quiet_of_same ((refName_nm nm _ HNL.out).mono fun e w' ⟨he, hw⟩ => ⟨by rw [he, HGN.out], hw.symm⟩)))
            all_goals (go_wp2_with fail; go_meet; exact ⟨by rw [HOKA.out, HGN.out]; rfl, ⟨_, rfl⟩⟩)
          | true =>
            have HGN := Lib.hid hgn
            clear hgn
            by_cases h4 : 4194304 < dl
            · have e2 : decide ((4194304 : Int) < dl) = true := decide_eq_true (by omega)
              go_quiet ((go_at_call 11; exact Calls.quiet_of_same ((refName_nm nm _ HNL.out).mono fun e w' ⟨he, hw⟩ => ⟨by rw [he, HGN.out], hw.symm⟩)))
              all_goals (go_wp2_with fail; go_meet; exact ⟨by rw [HOKA.out, HGN.out, decide_eq_false (by omega : ¬ dl ≤ 4194304)]; rfl, ⟨_, rfl⟩⟩)
            · have e2 : decide ((4194304 : Int) < dl) = false := decide_eq_false (by omega)
              by_cases h0 : 0 < k
              · have e3 : decide ((0 : Int) < k) = true := decide_eq_true (by omega)
                obtain ⟨j, hj⟩ : ∃ j, k = j + 1 := ⟨k - 1, by omega⟩
                obtain ⟨⟨b', off', od', cd', he, p0, _, _⟩, _, _⟩ := HP.out h0
                simp at he
                obtain ⟨rfl, rfl⟩ := he
                rw [show k - 1 = j by omega] at p0
                obtain ⟨pm, hpm⟩ : ∃ pm, pm = (fnth fs j).nm := ⟨_, rfl⟩
                rw [← hpm] at p0
                have HPM := Lib.hid hpm
                have hjk : j < fs.length := by omega
                have e4 : IntKind.i64.wrap ((k : Int) - 1) = (j : Int) := by rw [IntWalk.i64_in _ (by omega)]; omega
                have HJ := Lib.hid hj
                have ht1 := nm_toList pm
                have ht2 := nm_toList nm
                clear hpm hj
                go_quiet ((go_at_call 11; exact Calls.quiet_of_same ((refName_nm nm _ HNL.out).mono fun e w' ⟨he, hw⟩ => ⟨by rw [he, HGN.out], hw.symm⟩)))
                all_goals (go_wp2_with fail; go_meet; exact ⟨by rw [HOKA.out, HGN.out, decide_eq_true (by omega : dl ≤ 4194304), decide_eq_false (by omega : ¬ k = 0), show k - 1 = j from by have := HJ.out; omega, ← HPM.out]; rfl, ⟨_, rfl⟩⟩)
              · have e3 : decide ((0 : Int) < k) = false := decide_eq_false (by omega)
                go_quiet ((go_at_call 11; exact Calls.quiet_of_same ((refName_nm nm _ HNL.out).mono fun e w' ⟨he, hw⟩ => ⟨by rw [he, HGN.out], hw.symm⟩)))
                all_goals (go_wp2_with fail; go_meet; exact ⟨by rw [HOKA.out, HGN.out, decide_eq_true (by omega : dl ≤ 4194304), decide_eq_true (by omega : k = 0)]; rfl, ⟨_, rfl⟩⟩)
        case rest =>
          obtain ⟨rfl, hs⟩ := hcut
          obtain ⟨w1, rfl⟩ : ∃ w1, w1 = wc := ⟨_, rfl⟩
          have HS1 := Lib.hid (HSM.out.trans hs)
          clear hs c0 c1
          cases hka : okAt fs k with
          | false =>
            have HKA := Lib.hid hka
            clear hka
            go_wp2_with fail
            go_ret
            exact ⟨ret_bool' (by rw [mayB, okTo_no hlt HKA.out, Bool.and_false]), HS1.out⟩
          | true =>
            have HKA := Lib.hid hka
            clear hka
            go_wp2_with fail
            go_roundg (fs.length - (k + 1))
            case rel => exact ⟨k + 1, rfl, by omega, by go_num, by rw [okTo_succ, HOK.out, HKA.out]; rfl, HS1.out⟩
            case measure => omega
      · obtain rfl : k = fs.length := by omega
        clear hsm
        go_wp2_with fail
        go_ret
        exact ⟨ret_bool' (by rw [mayB, decide_eq_true (by omega : fs.length ≤ 16), HOK.out]; rfl), HSM.out⟩
end Go.Proofs.Ytejmbhckfdfoeaa
/-
  NAMES AND FILES as a rising list; as a map's datum: plain laws.
-/
set_option linter.unusedVariables false
set_option linter.unusedSimpArgs false
namespace Go.Proofs.Ytejmbhckfdfoeaa
open Go.Maps
abbrev NM := List (List UInt8 × Nat)
def lget (l : NM) (x : List UInt8) : Option Nat := (l.find? fun p => p.1 == x).map (·.2)
def ldel (l : NM) (x : List UInt8) : NM := l.filter fun p => !(p.1 == x)
def lins (x : List UInt8) (i : Nat) : NM → NM
  | [] => [(x, i)]
  | p :: r => if p.1 < x then p :: lins x i r else (x, i) :: p :: r
def lput (l : NM) (x : List UInt8) (i : Nat) : NM := lins x i (ldel l x)
/-- names rise -/
def Ris (l : NM) : Prop := l.Pairwise fun p q => p.1 < q.1
theorem Ris.nil : Ris [] := List.Pairwise.nil
theorem lins_mem {x : List UInt8} {i : Nat} {p : List UInt8 × Nat} : ∀ {l : NM}, p ∈ lins x i l ↔ p = (x, i) ∨ p ∈ l
  | [] => by simp [lins]
  | q :: r => by
    unfold lins
    split
    · simp only [List.mem_cons, lins_mem (l := r)]
      constructor
      · rintro (h | h | h) <;> simp [h]
      · rintro (h | h | h) <;> simp [h]
    · simp
theorem lins_length (x : List UInt8) (i : Nat) : ∀ l : NM, (lins x i l).length = l.length + 1
  | [] => rfl
  | q :: r => by
    unfold lins
    split
    · simp [lins_length x i r]
    · simp
theorem nm_lt_of {x y : List UInt8} (h : ¬ y < x) (hne : y ≠ x) : x < y := by
  rcases Decidable.em (x < y) with h' | h'
  · exact h'
  · exact absurd (List.le_antisymm (List.not_lt.1 h') (List.not_lt.1 h)) hne
theorem nm_trans {x y z : List UInt8} (h : x < y) (k : y < z) : x < z := List.lt_trans h k
theorem nm_irr (x : List UInt8) : ¬ x < x := List.lt_irrefl x
theorem Ris.ins {x : List UInt8} {i : Nat} : ∀ {l : NM}, Ris l → (∀ p ∈ l, p.1 ≠ x) → Ris (lins x i l)
  | [], _, _ => by simp [lins, Ris]
  | q :: r, h, hne => by
    obtain ⟨h1, h2⟩ := List.pairwise_cons.1 h
    unfold lins
    split
    · rename_i hlt
      refine List.pairwise_cons.2 ⟨fun p hp => ?_, Ris.ins h2 fun p hp => hne p (List.mem_cons_of_mem _ hp)⟩
      rcases lins_mem.1 hp with rfl | hp
      · exact hlt
      · exact h1 p hp
    · rename_i hlt
      have hxq := nm_lt_of hlt (hne q (List.mem_cons_self ..))
      refine List.pairwise_cons.2 ⟨fun p hp => ?_, h⟩
      rcases List.mem_cons.1 hp with rfl | hp
      · exact hxq
      · exact nm_trans hxq (h1 p hp)
theorem Ris.del {l : NM} (h : Ris l) (x : List UInt8) : Ris (ldel l x) := h.filter _
theorem ldel_ne {l : NM} {x : List UInt8} {p : List UInt8 × Nat} (h : p ∈ ldel l x) : p.1 ≠ x := by
  have := (List.mem_filter.1 h).2
  simpa using this
theorem Ris.put {l : NM} (h : Ris l) (x : List UInt8) (i : Nat) : Ris (lput l x i) := Ris.ins (h.del x) fun p hp => ldel_ne hp
theorem lget_some {l : NM} (h : Ris l) {x : List UInt8} {i : Nat} : lget l x = some i ↔ (x, i) ∈ l := by
  unfold lget
  induction l with
  | nil => simp
  | cons q r ih =>
    obtain ⟨h1, h2⟩ := List.pairwise_cons.1 h
    rw [List.find?_cons]
    by_cases hq : q.1 = x
    · simp only [hq, beq_self_eq_true, Option.map_some, Option.some.injEq, List.mem_cons]
      constructor
      · rintro rfl; left; rw [← hq]
      · rintro (e | e)
        · rw [← e]
        · have := h1 _ e; rw [hq] at this; exact absurd this (nm_irr x)
    · have : (q.1 == x) = false := by simpa using hq
      simp only [this, List.mem_cons]
      rw [ih h2]
      constructor
      · exact Or.inr
      · rintro (e | e)
        · exact absurd (by rw [← e]) hq
        · exact e
theorem lget_none {l : NM} {x : List UInt8} : lget l x = none ↔ ∀ p ∈ l, p.1 ≠ x := by
  unfold lget
  simp
theorem lget_mem {l : NM} {x : List UInt8} {i : Nat} (h : lget l x = some i) : (x, i) ∈ l := by
  unfold lget at h
  cases hf : l.find? fun p => p.1 == x with
  | none => rw [hf] at h; cases h
  | some p =>
    rw [hf] at h
    simp at h
    have h1 := List.find?_some hf
    have h2 := List.mem_of_find?_eq_some hf
    simp at h1
    subst h h1
    exact h2
theorem lget_del_same (l : NM) (x : List UInt8) : lget (ldel l x) x = none := lget_none.2 fun p hp => ldel_ne hp
theorem lget_del_other {l : NM} (h : Ris l) {x y : List UInt8} (hne : y ≠ x) : lget (ldel l x) y = lget l y := by
  apply Option.ext
  intro i
  rw [lget_some (h.del x), lget_some h]
  simp [ldel, hne]
theorem lget_put_same {l : NM} (h : Ris l) (x : List UInt8) (i : Nat) : lget (lput l x i) x = some i := (lget_some (h.put x i)).2 (lins_mem.2 (.inl rfl))
theorem lget_put_other {l : NM} (h : Ris l) {x y : List UInt8} (hne : y ≠ x) (i : Nat) : lget (lput l x i) y = lget l y := by
  apply Option.ext
  intro j
  rw [lget_some (h.put x i), lget_some h, lput, lins_mem]
  simp [ldel, hne]
theorem ldel_length {l : NM} (h : Ris l) (x : List UInt8) : (ldel l x).length + (lget l x).isSome.toNat = l.length := by
  induction l with
  | nil => simp [ldel, lget]
  | cons q r ih =>
    obtain ⟨h1, h2⟩ := List.pairwise_cons.1 h
    by_cases hq : q.1 = x
    · have hn : lget r x = none := lget_none.2 fun p hp e => by have := h1 p hp; rw [hq, e] at this; exact nm_irr x this
      have := ih h2
      rw [hn] at this
      simp only [ldel, lget, List.filter_cons, List.find?_cons, hq, beq_self_eq_true, Bool.not_true, List.length_cons] at this ⊢
      simpa using this
    · have hb : (q.1 == x) = false := by simpa using hq
      have := ih h2
      simp only [ldel, lget, List.filter_cons, List.find?_cons, hb, Bool.not_false, List.length_cons, if_true] at this ⊢
      omega
theorem lput_length {l : NM} (h : Ris l) (x : List UInt8) (i : Nat) : (lput l x i).length = if (lget l x).isSome then l.length else l.length + 1 := by
  have := ldel_length h x
  rw [lput, lins_length]
  cases hg : (lget l x).isSome with
  | true => rw [hg] at this; simp at this ⊢; omega
  | false => rw [hg] at this; simp at this ⊢; omega
theorem nm_key (x : List UInt8) (hx : x.length ≤ maxLen) : WideAt.IsKeyLit (.string x) := trivial
/-! ### as a datum -/
abbrev nilD : DataW Unit := .lit (.int .i64 (-1))
abbrev idD (b : Nat) : DataW Unit := .lit (.int .i64 b)
def optD : Option Nat → DataW Unit
  | some b => idD b
  | none => nilD
structure DRep (D : DataW Unit) (l : NM) : Prop where
  tidy : Tidy D
  ris : Ris l
  at_ : ∀ x, D.atKey (.string x) nilD = optD (lget l x)
  has_ : ∀ x, has D (.string x) = (lget l x).isSome
  size_ : size D = l.length
theorem DRep.nil : DRep (.map []) [] := ⟨tidy_empty, Ris.nil, fun _ => rfl, fun _ => rfl, rfl⟩
theorem str_ne {x y : List UInt8} (h : y ≠ x) : (Lit.string y) ≠ .string x := fun e => h (by simpa using e)
theorem DRep.put {D : DataW Unit} {l : NM} (h : DRep D l) (x : List UInt8) (b : Nat) (hk : WideAt.IsKeyLit (.string x)) : DRep (D.put (.string x) (idD b)) (lput l x b) := by
  refine ⟨h.tidy.put hk _, h.ris.put x b, fun y => ?_, fun y => ?_, ?_⟩
  · by_cases hy : y = x
    · subst hy; rw [atKey_put_same h.tidy.isMap hk, lget_put_same h.ris]; rfl
    · rw [atKey_put_other (str_ne hy), lget_put_other h.ris hy, h.at_]
  · by_cases hy : y = x
    · subst hy; rw [has_put_same h.tidy.isMap hk, lget_put_same h.ris]; rfl
    · rw [has_put_other (str_ne hy), lget_put_other h.ris hy, h.has_]
  · rw [size_put h.tidy, lput_length h.ris, h.has_, h.size_]
theorem DRep.del {D : DataW Unit} {l : NM} (h : DRep D l) (x : List UInt8) : DRep (D.del (.string x)) (ldel l x) := by
  refine ⟨h.tidy.del _, h.ris.del x, fun y => ?_, fun y => ?_, ?_⟩
  · by_cases hy : y = x
    · subst hy; rw [atKey_del_same, lget_del_same]; rfl
    · rw [atKey_del_other (str_ne hy), lget_del_other h.ris hy, h.at_]
  · by_cases hy : y = x
    · subst hy; rw [has_del_same, lget_del_same]; rfl
    · rw [has_del_other (str_ne hy), lget_del_other h.ris hy, h.has_]
  · have h1 := size_del (k := .string x) h.tidy
    have h2 := ldel_length h.ris x
    rw [h.has_, h.size_] at h1
    cases hg : (lget l x).isSome with
    | true => rw [hg] at h1 h2; simp at h1 h2; omega
    | false => rw [hg] at h1 h2; simp at h1 h2; omega
end Go.Proofs.Ytejmbhckfdfoeaa
