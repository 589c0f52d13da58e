/-
  PLAIN: what is copied of a plain view, of one turned round twice, of two parts side by side.
-/
import Derived.WalkKit
import Derived.WalkSpells
import Derived.WalkLawsBesides
import Derived.Deep.QuietTactic
import Derived.BigQuiet
import Derived.Lib.Hide
import Derived.Lib.SlBytesConst
import Derived.Test.YtipjhdgegfgenaaGreatEV01
import Derived.Test.YtipjhdgegfgenaaGreatRows
set_option linter.unusedVariables false
set_option linter.unusedSimpArgs false
namespace Go.Proofs.YtipjhdgegfgenaaGreat
/-- a list of counts as whole numbers -/
def ints (ns : List Nat) : List Int := ns.map fun n : Nat => (n : Int)
theorem ints_length (ns : List Nat) : (ints ns).length = ns.length := by simp [ints]
theorem ints_app (a b : List Nat) : ints (a ++ b) = ints a ++ ints b := by simp [ints]
theorem ints_take (a : List Nat) (k : Nat) : (ints a).take k = ints (a.take k) := by simp [ints, List.map_take]
theorem ints_get (a : List Nat) (k : Nat) (h : k < a.length) : nth (ints a) k = (a[k] : Int) := by
  rw [nth_eq _ _ (by rw [ints_length]; exact h)]; simp [ints]
theorem ints_inj {a b : List Nat} (h : ints a = ints b) : a = b := by
  have := congrArg (List.map Int.toNat) h
  simpa [ints, List.map_map, Function.comp_def] using this
theorem ints_of (l : List Int) (h : ∀ x ∈ l, 0 ≤ x) : ints (l.map Int.toNat) = l := by
  rw [ints, List.map_map]
  conv => rhs; rw [← List.map_id l]
  exact List.map_congr_left fun x hx => by simp [Int.toNat_of_nonneg (h x hx)]
theorem prodL_ints : ∀ ns : List Nat, prodL (ints ns) = (prodN ns : Int)
  | [] => rfl
  | d :: r => by
    show prodL ((d : Int) :: ints r) = _
    rw [prodL_cons, prodL_ints r, prodN]; simp
/-- the words that are seen -/
def copyN (sh st : List Nat) (off : Nat) (da : List Int) : List Int := (List.range (prodN sh)).map fun n => nth da (off + dotN (standsN sh n) st)
theorem copyN_length (sh st : List Nat) (off : Nat) (da : List Int) : (copyN sh st off da).length = prodN sh := by simp [copyN]
theorem copyN_nth (sh st : List Nat) (off : Nat) (da : List Int) (n : Nat) (h : n < prodN sh) : nth (copyN sh st off da) n = nth da (off + dotN (standsN sh n) st) := by
  rw [nth_eq _ _ (by rw [copyN_length]; exact h)]; simp [copyN]
theorem nth_ext (a b : List Int) (hl : a.length = b.length) (h : ∀ n, n < b.length → nth a n = nth b n) : a = b := by
  refine List.ext_getElem hl fun n h1 h2 => ?_
  have := h n h2
  rwa [nth_eq _ _ h1, nth_eq _ _ h2] at this
theorem copy_plain (sh : List Nat) (da : List Int) (h : da.length = prodN sh) : copyN sh (stepsN sh) 0 da = da :=
  nth_ext _ _ (by rw [copyN_length, h]) fun n hn => by
    rw [h] at hn
    rw [copyN_nth _ _ _ _ _ hn, dot_stands, Nat.mod_eq_of_lt hn, Nat.zero_add]
theorem copy_turn (sh : List Nat) (da : List Int) (hp : ∀ d ∈ sh, 0 < d) (h : da.length = prodN sh) :
    copyN sh (stepsN sh.reverse).reverse 0 (copyN sh.reverse (stepsN sh).reverse 0 da) = da :=
  nth_ext _ _ (by rw [copyN_length, h]) fun n hn => by
    rw [h] at hn
    have h1 := turn_turn sh hp n hn
    have h2 := turn_lt sh.reverse (fun d hd => hp d (List.mem_reverse.1 hd)) n
    rw [copyN_nth _ _ _ _ _ hn, Nat.zero_add]
    rw [turnN, turnN, List.reverse_reverse] at h1
    rw [turnN, List.reverse_reverse] at h2
    rw [copyN_nth _ _ _ _ _ h2, Nat.zero_add, h1]
theorem copy_parts (d : Nat) (r : List Nat) (da : List Int) (hp : ∀ x ∈ d :: r, 0 < x) (hd : 2 ≤ d) (h : da.length = prodN (d :: r)) :
    copyN (1 :: r) (stepsN (d :: r)) 0 da ++ copyN ((d - 1) :: r) (stepsN (d :: r)) (prodN r) da = da := by
  have hr : ∀ x ∈ r, 0 < x := fun x hx => hp x (by simp [hx])
  have hq := prodN_pos hr
  have hsp : d * prodN r = prodN r + (d - 1) * prodN r := by
    conv => lhs; rw [show d = (d - 1) + 1 by omega, Nat.add_mul]
    omega
  rw [prodN] at h
  have e1 : prodN (1 :: r) = prodN r := by rw [prodN, Nat.one_mul]
  have e2 : prodN ((d - 1) :: r) = (d - 1) * prodN r := by rw [prodN]
  refine nth_ext _ _ (by rw [List.length_append, copyN_length, copyN_length, e1, e2, h, hsp]) fun n hn => ?_
  rw [h] at hn
  by_cases hlt : n < prodN r
  · have : nth (copyN (1 :: r) (stepsN (d :: r)) 0 da ++ copyN ((d - 1) :: r) (stepsN (d :: r)) (prodN r) da) n = nth (copyN (1 :: r) (stepsN (d :: r)) 0 da) n := by
      simp only [nth, List.getD_eq_getElem?_getD]
      rw [List.getElem?_append_left (by rw [copyN_length, e1]; exact hlt)]
    rw [this, copyN_nth _ _ _ _ _ (by rw [e1]; exact hlt), standsN, stepsN, dotN_cons, dot_stands, Nat.mod_one, Nat.zero_mul, Nat.zero_add, Nat.mod_eq_of_lt hlt, Nat.zero_add]
  · have hm : n - prodN r < (d - 1) * prodN r := by omega
    have : nth (copyN (1 :: r) (stepsN (d :: r)) 0 da ++ copyN ((d - 1) :: r) (stepsN (d :: r)) (prodN r) da) n = nth (copyN ((d - 1) :: r) (stepsN (d :: r)) (prodN r) da) (n - prodN r) := by
      simp only [nth, List.getD_eq_getElem?_getD]
      rw [List.getElem?_append_right (by rw [copyN_length, e1]; omega), copyN_length, e1]
    rw [this, copyN_nth _ _ _ _ _ (by rw [e2]; exact hm), standsN, stepsN, dotN_cons, dot_stands]
    have hdv : (n - prodN r) / prodN r < d - 1 := Nat.div_lt_of_lt_mul (by rw [Nat.mul_comm]; exact hm)
    rw [Nat.mod_eq_of_lt hdv]
    have := Nat.div_add_mod (n - prodN r) (prodN r)
    rw [Nat.mul_comm] at this
    congr 1
    omega
/-- the farthest place of a view, from its first -/
def farN (sh st : List Nat) : Nat := dotN (sh.map (· - 1)) st
theorem far_plain : ∀ (sh : List Nat), (∀ d ∈ sh, 0 < d) → farN sh (stepsN sh) + 1 = prodN sh
  | [], _ => rfl
  | d :: r, h => by
    have hr : ∀ x ∈ r, 0 < x := fun x hx => h x (by simp [hx])
    have h1 := far_plain r hr
    have h0 := h d (by simp)
    rw [farN, List.map_cons, stepsN, dotN_cons, ← farN, prodN, Nat.add_assoc, h1]
    conv => rhs; rw [show d = (d - 1) + 1 by omega, Nat.add_mul, Nat.one_mul]
theorem far_rev (sh st : List Nat) (h : sh.length = st.length) : farN sh.reverse st.reverse = farN sh st := by
  rw [farN, List.map_reverse, dot_rev _ _ (by simpa using h), farN]
theorem dot_le : ∀ {i sh st : List Nat}, InN sh i → dotN i st ≤ farN sh st
  | [], [], st, _ => by simp [dotN]
  | x :: i, d :: sh, [], _ => by simp [dotN]
  | x :: i, d :: sh, s :: st, h => by
    have h1 := dot_le (st := st) h.2
    have h2 : x * s ≤ (d - 1) * s := Nat.mul_le_mul_right _ (by have := h.1; omega)
    rw [farN, List.map_cons, dotN_cons, dotN_cons, ← farN]; omega
  | [], _ :: _, _, h => h.elim
  | _ :: _, [], _, h => h.elim
theorem far_one (d : Nat) (r : List Nat) (hp : ∀ x ∈ d :: r, 0 < x) : farN (1 :: r) (stepsN (d :: r)) < prodN (d :: r) := by
  have h1 := far_plain r fun x hx => hp x (by simp [hx])
  have h2 : prodN r ≤ d * prodN r := Nat.le_mul_of_pos_left _ (hp d (by simp))
  rw [farN, List.map_cons, stepsN, dotN_cons, ← farN, prodN]; omega
theorem far_rest (d : Nat) (r : List Nat) (hp : ∀ x ∈ d :: r, 0 < x) (hd : 2 ≤ d) : prodN r + farN ((d - 1) :: r) (stepsN (d :: r)) < prodN (d :: r) := by
  have h1 := far_plain r fun x hx => hp x (by simp [hx])
  rw [farN, List.map_cons, stepsN, dotN_cons, ← farN, prodN]
  have : d * prodN r = prodN r + ((d - 1 - 1) * prodN r + prodN r) := by
    conv => lhs; rw [show d = 1 + ((d - 1 - 1) + 1) by omega, Nat.add_mul, Nat.add_mul, Nat.one_mul]
  omega
end Go.Proofs.YtipjhdgegfgenaaGreat
/-
  The vocabulary of this seat's contracts: what a slice reads, what a call keeps.
-/
set_option linter.unusedVariables false
set_option linter.unusedSimpArgs false
namespace Go.Proofs.YtipjhdgegfgenaaGreat
open Go.RowKit
/-- the slice value v reads as these integers -/
def Rd (w : World) (K : IntKind) (v : Value) (xs : List Int) : Prop :=
  ∃ o cap, v = .slice o xs.length cap ∧ ∀ j, j < xs.length → ∃ b off, o = some ⟨b, off, none⟩ ∧ w.cell? ⟨b, off + j, none⟩ = some (.int K (nth xs j))
/-- all these integers are of the kind -/
def Wf (K : IntKind) (xs : List Int) : Prop := ∀ x ∈ xs, (Lit.int K x).wf = true
theorem Wf.nth {K : IntKind} {xs : List Int} (h : Wf K xs) (k : Nat) (hk : k < xs.length) : (Lit.int K (nth xs k)).wf = true := h _ (nth_mem xs k hk)
theorem Wf.take {K : IntKind} {xs : List Int} (h : Wf K xs) (k : Nat) : Wf K (xs.take k) := fun x hx => h x (List.mem_of_mem_take hx)
theorem wf_set {K : IntKind} {xs : List Int} (h : Wf K xs) {j : Nat} {x : Int} (hx : (Lit.int K x).wf = true) : Wf K (xs.set j x) := fun y hy => by
  rcases List.mem_or_eq_of_mem_set hy with h' | rfl
  · exact h y h'
  · exact hx
theorem wf_u8 {x : Int} (h : (Lit.int .u8 x).wf = true) : 0 ≤ x ∧ x < 256 := by
  simp [Lit.wf, IntKind.min, IntKind.max, IntKind.signed, IntKind.bits] at h; omega
theorem wf_u32 {x : Int} (h : (Lit.int .u32 x).wf = true) : 0 ≤ x ∧ x < 4294967296 := by
  simp [Lit.wf, IntKind.min, IntKind.max, IntKind.signed, IntKind.bits] at h; omega
theorem wf_u64 {x : Int} (h : (Lit.int .u64 x).wf = true) : 0 ≤ x ∧ x < 18446744073709551616 := by
  simp [Lit.wf, IntKind.min, IntKind.max, IntKind.signed, IntKind.bits] at h; omega
theorem wf_i64 {x : Int} (h : (Lit.int .i64 x).wf = true) : -9223372036854775808 ≤ x ∧ x ≤ 9223372036854775807 := by
  simp [Lit.wf, IntKind.min, IntKind.max, IntKind.signed, IntKind.bits] at h; omega
/-- nothing has turned but for what was drawn -/
def Same (w w' : World) : Prop := ∃ n, w' = w.drewN n
theorem Same.refl (w : World) : Same w w := ⟨0, rfl⟩
theorem Same.trans {a b c : World} (h : Same a b) (k : Same b c) : Same a c := by
  obtain ⟨n, rfl⟩ := h
  obtain ⟨m, rfl⟩ := k
  exact ⟨n + m, World.drewN_drewN _ _ _⟩
theorem Same.below {w w' : World} (h : Same w w') (B : Nat) : Below B w w' := by
  obtain ⟨n, rfl⟩ := h
  exact ⟨rfl, rfl, rfl, Nat.le_refl _, fun _ _ => rfl⟩
theorem Same.heap {w w' : World} (h : Same w w') : w'.heap = w.heap := by
  obtain ⟨n, rfl⟩ := h
  rfl
theorem cell_lt {w : World} {b o : Nat} {v : Value} (h : w.cell? ⟨b, o, none⟩ = some v) : b < w.heap.size := World.block_lt_of_cell? w _ h
theorem Rd.below {w w' : World} {K : IntKind} {v : Value} {xs : List Int} {B : Nat} (h : Rd w K v xs) (hB : Below B w w') (hs : w.heap.size ≤ B) : Rd w' K v xs := by
  obtain ⟨o, cap, rfl, hc⟩ := h
  refine ⟨o, cap, rfl, fun j hj => ?_⟩
  obtain ⟨b, off, rfl, h⟩ := hc j hj
  exact ⟨b, off, rfl, (hB.cell (p := ⟨b, off + j, none⟩) (Nat.lt_of_lt_of_le (cell_lt h) hs)).trans h⟩
theorem Rd.nil (w : World) (K : IntKind) (o : Option Addr) (cap : Nat) : Rd w K (.slice o 0 cap) [] := ⟨o, cap, rfl, fun _ h => absurd h (Nat.not_lt_zero _)⟩
theorem Rd.of_own {w : World} {B : Nat} {e : TypeId} {K : IntKind} {v : Value} {n : Nat} {xs : List Int} (h : w.ownsRow B e 1 v n (xs.map (.int K))) : Rd w K v xs := by
  obtain ⟨h1, h2⟩ := h
  have hl : xs.length = n := by simpa using h1
  subst hl
  rcases h2 with ⟨rfl, h0⟩ | ⟨g, cap, cur, rfl, _, hg, _, _, _, ht⟩
  · have : xs = [] := List.eq_nil_of_length_eq_zero h0
    subst this
    exact Rd.nil _ _ _ _
  · refine ⟨_, cap, rfl, fun j hj => ⟨g, 0, rfl, ?_⟩⟩
    have hx : (xs.map (Value.int K))[j]? = some (.int K (nth xs j)) := by
      rw [List.getElem?_map, List.getElem?_eq_getElem hj, nth_eq xs j hj]; rfl
    rw [← ht, List.getElem?_take, if_pos (by omega)] at hx
    rw [Nat.zero_add, cell_of_row w g j cur e (0, 0) hg]
    simpa using hx
theorem Rd.alloc {w : World} {K : IntKind} {v : Value} {xs : List Int} (h : Rd w K v xs) (o : Obj) : Rd (w.alloc o) K v xs :=
  h.below ((Below.refl _ _).alloc (Nat.le_refl _) o) (Nat.le_refl _)
theorem own_below {w w' : World} {B C : Nat} {e : TypeId} {s : Nat} {v : Value} {n : Nat} {xs : List Value} (h : w.ownsRow B e s v n xs) (hB : Below C w w') (hs : w.heap.size ≤ C) : w'.ownsRow B e s v n xs := by
  refine ⟨h.1, ?_⟩
  rcases h.2 with hn | ⟨g, cap, cur, rfl, hb, hgg, rest⟩
  · exact .inl hn
  · exact .inr ⟨g, cap, cur, rfl, hb, by rw [hB.block g (Nat.lt_of_lt_of_le (Array.getElem?_eq_some_iff.1 hgg).1 hs)]; exact hgg, rest⟩
theorem Rd.same {w w' : World} {K : IntKind} {v : Value} {xs : List Int} (h : Rd w K v xs) (hs : Same w w') : Rd w' K v xs := h.below (hs.below w.heap.size) (Nat.le_refl _)
theorem own_same {w w' : World} {B : Nat} {e : TypeId} {s : Nat} {v : Value} {n : Nat} {xs : List Value} (h : w.ownsRow B e s v n xs) (hs : Same w w') : w'.ownsRow B e s v n xs := own_below h (hs.below w.heap.size) (Nat.le_refl _)
theorem Rd.new (w : World) (K : IntKind) (xs : List Int) (e : TypeId) (c : Nat) (fz : Nat × Nat) : Rd (w.alloc (.cells (xs.map (Value.int K)).toArray e fz)) K (.slice (some ⟨w.heap.size, 0, none⟩) xs.length c) xs := by
  refine ⟨_, c, rfl, fun j hj => ⟨w.heap.size, 0, rfl, ?_⟩⟩
  rw [Nat.zero_add, cell_of_row _ w.heap.size j _ e fz (heap_alloc_new w _)]
  simp [nth_eq xs j hj, hj]
/-- a row of the call's own, of integers -/
abbrev OwnI (w : World) (B : Nat) (e : TypeId) (K : IntKind) (v : Value) (xs : List Int) : Prop := w.ownsRow B e 1 v xs.length (xs.map (.int K))
theorem own_slice {w : World} {B : Nat} {e : TypeId} {s : Nat} {v : Value} {n : Nat} {xs : List Value} (h : w.ownsRow B e s v n xs) : ∃ a cap, v = .slice a n cap := by
  rcases h.2 with ⟨rfl, rfl⟩ | ⟨g, cap, cur, rfl, _⟩
  · exact ⟨none, 0, rfl⟩
  · exact ⟨_, cap, rfl⟩
theorem own_mono {w : World} {B C : Nat} {e : TypeId} {s : Nat} {v : Value} {n : Nat} {xs : List Value} (h : w.ownsRow B e s v n xs) (hC : C ≤ B) : w.ownsRow C e s v n xs := by
  refine ⟨h.1, ?_⟩
  rcases h.2 with hn | ⟨g, cap, cur, rfl, hb, rest⟩
  · exact .inl hn
  · exact .inr ⟨g, cap, cur, rfl, Nat.le_trans hC hb, rest⟩
theorem madeInts (K : IntKind) (n : Nat) : (madeCells (Value.int K 0).cells (n * 1)).toList = (List.replicate n (0 : Int)).map (Value.int K) := by
  rw [Nat.mul_one]
  apply List.ext_getElem
  · simp [madeCells]
  · intro i h1 h2
    simp [madeCells, Value.cells, Nat.mod_one]
theorem OwnI.made {w : World} {B : Nat} {e : TypeId} {K : IntKind} {v : Value} {n : Nat} (h : w.ownsRow B e 1 v n (madeCells (Value.int K 0).cells (n * 1)).toList) : OwnI w B e K v (List.replicate n 0) := by
  rw [madeInts] at h
  simpa [OwnI] using h
theorem grown_below {w w' : World} (h : w.grownBy w' none) : Below w.heap.size w w' :=
  (Below.refl _ _).grown h (Nat.le_refl _) (fun _ e => by cases e)
theorem own_set_other {w : World} {B : Nat} {e : TypeId} {s g n cap m : Nat} {xs : List Value} (h : w.ownsRow B e s (.slice (some ⟨g, 0, none⟩) n cap) m xs) {p : Addr} (hp : p.block ≠ g) (u : Value) :
    (w.setCell p u).ownsRow B e s (.slice (some ⟨g, 0, none⟩) n cap) m xs := by
  refine ⟨h.1, ?_⟩
  rcases h.2 with ⟨h1, _⟩ | ⟨g', cap', cur, h1, hb, hg, r⟩
  · simp at h1
  · simp at h1
    obtain ⟨rfl, rfl, rfl⟩ := h1
    exact .inr ⟨g, cap, cur, rfl, hb, by rw [Below.heap_setCell _ _ _ _ (fun e => hp e.symm)]; exact hg, r⟩
theorem rd_slice {w : World} {K : IntKind} {v : Value} {xs : List Int} (h : Rd w K v xs) : ∃ o cap, v = .slice o xs.length cap := by
  obtain ⟨o, cap, rfl, _⟩ := h
  exact ⟨o, cap, rfl⟩
theorem Rd.cell {w : World} {K : IntKind} {o : Option Addr} {n cap : Nat} {xs : List Int} (h : Rd w K (.slice o n cap) xs) (j : Nat) (hj : j < xs.length) :
    ∃ b off, o = some ⟨b, off, none⟩ ∧ w.cell? ⟨b, off + j, none⟩ = some (.int K (nth xs j)) := by
  obtain ⟨o', cap', he, hc⟩ := h
  simp at he
  obtain ⟨rfl, _, _⟩ := he
  exact hc j hj
/-- block B holds just these cells -/
def Box (w : World) (B : Nat) (T : TypeId) (cs : Array Value) : Prop := w.heap[B]? = some (.cells cs T (0, 0))
theorem Box.new (w : World) (T : TypeId) (cs : Array Value) : Box (w.alloc (.cells cs T)) w.heap.size T cs := heap_alloc_new w _
theorem Box.below {w w' : World} {B C : Nat} {T : TypeId} {cs : Array Value} (h : Box w B T cs) (hB : Below C w w') (hC : B < C) : Box w' B T cs := (hB.block B hC).trans h
theorem Box.lt {w : World} {B : Nat} {T : TypeId} {cs : Array Value} (h : Box w B T cs) : B < w.heap.size := (Array.getElem?_eq_some_iff.1 h).1
theorem Box.same {w w' : World} {B : Nat} {T : TypeId} {cs : Array Value} (h : Box w B T cs) (hs : Same w w') : Box w' B T cs := h.below (hs.below w.heap.size) h.lt
theorem Box.next {w w' : World} {B : Nat} {T : TypeId} {cs : Array Value} (h : Box w B T cs) (hB : Below w.heap.size w w') : Box w' B T cs := h.below hB h.lt
theorem Box.cell {w : World} {B : Nat} {T : TypeId} {cs : Array Value} (h : Box w B T cs) (j : Nat) {v : Value} (hj : cs[j]? = some v) : w.cell? ⟨B, j, none⟩ = some v := by
  rw [cell_of_row w B j cs T (0, 0) h]; exact hj
theorem Box.free {w : World} {B : Nat} {T : TypeId} {cs : Array Value} (h : Box w B T cs) (j : Nat) : w.frozen? ⟨B, j, none⟩ = false := by
  unfold Box at h; simp [World.frozen?, h]
theorem Box.set {w : World} {B : Nat} {T : TypeId} {cs : Array Value} (h : Box w B T cs) (j : Nat) (v : Value) : Box (w.setCell ⟨B, j, none⟩ v) B T (cs.setIfInBounds j v) := by
  unfold Box at h ⊢; simp [World.setCell, Array.getElem?_modify, h]
theorem Box.other {w : World} {B : Nat} {T : TypeId} {cs : Array Value} (h : Box w B T cs) {p : Addr} (hp : p.block ≠ B) (v : Value) : Box (w.setCell p v) B T cs := by
  unfold Box at h ⊢; rw [Below.heap_setCell _ _ _ _ (fun e => hp e.symm)]; exact h
theorem own_snoc {w : World} {B : Nat} {e : TypeId} {K : IntKind} {v : Value} {xs : List Int} {x : Int} (h : w.ownsRow B e 1 v (xs.length + 1) (xs.map (Value.int K) ++ [.int K x])) : OwnI w B e K v (xs ++ [x]) := by
  simpa [OwnI] using h
theorem own_cat {w : World} {B : Nat} {e : TypeId} {K : IntKind} {v : Value} {xs ys : List Int} {m : Nat} (h : w.ownsRow B e 1 v (xs.length + m) (xs.map (Value.int K) ++ ys.map (Value.int K))) (hm : m = ys.length) : OwnI w B e K v (xs ++ ys) := by
  subst hm
  simpa [OwnI] using h
theorem below_append' {w wr w1 : World} {B C : Nat} {e : TypeId} {s : Nat} {v : Value} {n : Nat} {xs : List Value} {o : Obj} (hB : Below C w wr) (hb : C ≤ w.heap.size) (h : wr.ownsRow B e s v n xs) (hg : (wr.alloc o).grownBy w1 v.ownBlock) (hC : C ≤ B := by exact Nat.le_refl _) : Below C w w1 :=
  (hB.alloc (Nat.le_trans hb hB.size) o).grown hg (by have := hB.size; simp; omega) fun k hk => Nat.le_trans hC (h.lt k hk).1
theorem cells_new (w : World) (l : List Value) (e : TypeId) (fz : Nat × Nat) : ∀ (j : Nat) (u : Value), l[j]? = some u → (w.alloc (.cells l.toArray e fz)).cell? ((⟨w.heap.size, 0, none⟩ : Addr).add j) = some u := fun j u h => by
  rw [Addr.add_lit, Nat.zero_add, cell_of_row _ w.heap.size j _ e fz (heap_alloc_new w _)]
  simpa using h
/-- the walk stands here till it is told to go on -/
theorem stopHere {p : Prop} (h : Hid p) : p := h
theorem goOn {p : Prop} (h : p) : Hid p := h
theorem OwnI.at {w : World} {B : Nat} {e : TypeId} {K : IntKind} {v : Value} {xs : List Int} (h : OwnI w B e K v xs) (h0 : 0 < xs.length) :
    ∃ g cap, v = .slice (some ⟨g, 0, none⟩) xs.length cap ∧ B ≤ g ∧ g < w.heap.size := by
  rcases h.2 with ⟨rfl, hn⟩ | ⟨g, cap, cur, rfl, hb, hg, _⟩
  · omega
  · exact ⟨g, cap, rfl, hb, (Array.getElem?_eq_some_iff.1 hg).1⟩
theorem OwnI.cell {w : World} {B : Nat} {e : TypeId} {K : IntKind} {g n cap : Nat} {xs : List Int} (h : OwnI w B e K (.slice (some ⟨g, 0, none⟩) n cap) xs) (j : Nat) (hj : j < xs.length) :
    w.cell? ⟨g, j, none⟩ = some (.int K (nth xs j)) ∧ w.frozen? ⟨g, j, none⟩ = false := by
  rcases h.2 with ⟨h1, _⟩ | ⟨g', cap', cur, h1, hb, hg, _, _, _, ht⟩
  · simp at h1
  · simp at h1
    obtain ⟨rfl, _, _⟩ := h1
    have hx : (xs.map (Value.int K))[j]? = some (.int K (nth xs j)) := by rw [List.getElem?_map, List.getElem?_eq_getElem hj, nth_eq xs j hj]; rfl
    rw [← ht, List.getElem?_take, if_pos (by omega)] at hx
    refine ⟨?_, ?_⟩
    · rw [cell_of_row w g j cur e (0, 0) hg]; simpa using hx
    · simp [World.frozen?, hg]
theorem OwnI.set {w : World} {B : Nat} {e : TypeId} {K : IntKind} {g n cap : Nat} {xs : List Int} (h : OwnI w B e K (.slice (some ⟨g, 0, none⟩) n cap) xs) (j : Nat) (x : Int) :
    OwnI (w.setCell ⟨g, j, none⟩ (.int K x)) B e K (.slice (some ⟨g, 0, none⟩) n cap) (xs.set j x) := by
  refine ⟨by simp, ?_⟩
  rcases h.2 with ⟨h1, _⟩ | ⟨g', cap', cur, h1, hb, hg, h4, h5, h6, ht⟩
  · simp at h1
  · simp at h1
    obtain ⟨rfl, rfl, rfl⟩ := h1
    refine .inr ⟨g, cap, cur.setIfInBounds j (.int K x), by simp, hb, by simp [World.setCell, Array.getElem?_modify, hg], by simpa using h4, h5, by simpa using h6, ?_⟩
    rw [Array.toList_setIfInBounds, List.take_set, List.length_set, ht, List.map_set]
end Go.Proofs.YtipjhdgegfgenaaGreat
