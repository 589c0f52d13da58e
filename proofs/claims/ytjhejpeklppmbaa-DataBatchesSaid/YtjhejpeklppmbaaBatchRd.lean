/-
  data.Batch: small laws for the body of its round: a part of a slice, and what a round keeps.
-/
import Derived.Test.YtjhejpeklppmbaaBatchReg
set_option linter.unusedVariables false
set_option linter.unusedSimpArgs false
namespace Go.Proofs.Ytjhejpeklppmbaa
open Go.RowKit Go.Shelf
theorem rd_part {w : World} {K : IntKind} {o : Option Addr} {n cap : Nat} {xs : List Int} (h : Rd w K (.slice o n cap) xs) (lo hi m : Nat) (hhi : hi = lo + m) (hlo : lo + m ≤ xs.length) (hc : xs.length ≤ cap) :
    Rd w K (partV (.slice o n cap) lo hi) ((xs.drop lo).take m) := by
  have hl : ((xs.drop lo).take m).length = m := by simp; omega
  refine ⟨if cap = lo then o else o.map (fun x => x.add lo), cap - lo, ?_, fun j hj => ?_⟩
  · rw [hl, partV, hhi, Nat.add_sub_cancel_left]
  · rw [hl] at hj
    obtain ⟨b, off, rfl, hcell⟩ := h.cell (lo + j) (by omega)
    refine ⟨b, off + lo, ?_, ?_⟩
    · rw [if_neg (by omega)]; simp [Addr.add_lit]
    · rw [Nat.add_assoc, hcell]
      simp only [nth, List.getD_eq_getElem?_getD, List.getElem?_take, List.getElem?_drop, if_pos hj]
theorem rd_keepx {w w1 W : World} {K : IntKind} {v : Value} {xs : List Int} {B X Y : Nat} (h : Rd w K v xs) (hb : Below w.heap.size w w1) (hk : KeepX B X Y w1 W) (h1 : w.heap.size ≤ X) (h2 : w.heap.size ≤ Y) (h3 : w.heap.size ≤ B) : Rd W K v xs := by
  obtain ⟨o, cap, rfl, hc⟩ := h.below hb (Nat.le_refl _)
  obtain ⟨o', cap', he, hc'⟩ := h
  refine ⟨o, cap, rfl, fun j hj => ?_⟩
  obtain ⟨b, off, rfl, hcell⟩ := hc j hj
  obtain ⟨b', off', he', hcell'⟩ := hc' j hj
  cases he
  cases he'
  have := cell_lt hcell'
  exact ⟨b, off, rfl, hk.cell hcell (by omega) (by omega) (by omega)⟩
theorem flat_len {α : Type} (l : List α) (f : α → List Int) (m : Nat) (h : ∀ x ∈ l, (f x).length ≤ m) : (l.flatMap f).length ≤ l.length * m := by
  induction l with
  | nil => simp
  | cons a l ih =>
    have h1 := h a (List.mem_cons_self ..)
    have h2 := ih fun x hx => h x (List.mem_cons_of_mem _ hx)
    simp only [List.flatMap_cons, List.length_append, List.length_cons, Nat.add_mul, Nat.one_mul]
    omega
theorem flat_take_len {α : Type} (l : List α) (xs : List Int) (g : α → Nat) (m N : Nat) (hl : l.length < N) (hN : N ≤ 4096) (hm : m ≤ 65536) (q : Nat) : (l.flatMap fun i => (xs.drop (g i)).take m).length + ((xs.drop q).take m).length ≤ 1099511627776 := by
  have h1 := flat_len l (fun i => (xs.drop (g i)).take m) m (fun x _ => List.length_take_le _ _)
  have h2 : ((xs.drop q).take m).length ≤ m := List.length_take_le _ _
  have h3 : l.length * m ≤ 4096 * 65536 := Nat.mul_le_mul (by omega) hm
  omega
theorem own_keepx {w1 W : World} {B X Y C : Nat} {e : TypeId} {s : Nat} {v : Value} {n : Nat} {xs : List Value} (h : w1.ownsRow C e s v n xs) (hk : KeepX B X Y w1 W) (hB : w1.heap.size ≤ B) (h1 : X < C) (h2 : Y < C) : W.ownsRow C e s v n xs := by
  refine ⟨h.1, ?_⟩
  rcases h.2 with hn | ⟨g, cap, cur, rfl, hb, hgg, rest⟩
  · exact .inl hn
  · have := (Array.getElem?_eq_some_iff.1 hgg).1
    exact .inr ⟨g, cap, cur, rfl, hb, by rw [hk.block g (by omega) (by omega) (by omega)]; exact hgg, rest⟩
theorem finRange_flat (ids : List Int) (f : Int → List Int) : ((List.finRange ids.length).flatMap fun i => f (nth ids i.1)) = ids.flatMap f := by
  have : ids = (List.finRange ids.length).map (fun i => nth ids i.1) := by
    apply List.ext_getElem
    · simp
    · intro k h1 h2
      simp [nth_eq ids k h1]
  conv => rhs; rw [this]
  rw [List.flatMap_map]
theorem box_put {w : World} {B D : Nat} {T : TypeId} {cs : Array Value} (h : Box w B T cs) (o : Obj) (hne : B ≠ D) : Box (w.putObj D o) B T cs := by
  unfold Box at h ⊢
  rw [World.putObj_heap_other hne]; exact h
theorem own_put {w : World} {B D : Nat} {e : TypeId} {s : Nat} {v : Value} {n : Nat} {xs : List Value} (h : w.ownsRow B e s v n xs) {q : Obj} (hq : w.heap[D]? = some q) (hc : q.isCells = false) (o : Obj) : (w.putObj D o).ownsRow B e s v n xs := by
  refine ⟨h.1, ?_⟩
  rcases h.2 with hn | ⟨g, cap, cur, rfl, hb, hgg, rest⟩
  · exact .inl hn
  · have hne : g ≠ D := fun e => by subst e; rw [hgg] at hq; cases hq; cases hc
    exact .inr ⟨g, cap, cur, rfl, hb, by rw [World.putObj_heap_other hne]; exact hgg, rest⟩
/-- the world behind the last region and the marks -/
abbrev finW (W : World) (X Y D : Nat) (x0 x1 y0 y1 : Value) : World := ((((W.setCell ⟨X, 0, none⟩ x0).setCell ⟨X, 1, none⟩ x1).setCell ⟨Y, 0, none⟩ y0).setCell ⟨Y, 1, none⟩ y1).drew.putObj D (.deferred none)
theorem fin_mark {W : World} {X Y D : Nat} (hD : W.heap[D]? = some (.deferred (some []))) (h1 : X ≠ D) (h2 : Y ≠ D) (x0 x1 y0 y1 : Value) :
    ((((W.setCell ⟨X, 0, none⟩ x0).setCell ⟨X, 1, none⟩ x1).setCell ⟨Y, 0, none⟩ y0).setCell ⟨Y, 1, none⟩ y1).drew.heap[D]? = some (.deferred (some [])) := by
  show ((((W.setCell ⟨X, 0, none⟩ x0).setCell ⟨X, 1, none⟩ x1).setCell ⟨Y, 0, none⟩ y0).setCell ⟨Y, 1, none⟩ y1).heap[D]? = _
  rw [Below.heap_setCell _ _ _ _ (fun e => h2 e.symm), Below.heap_setCell _ _ _ _ (fun e => h2 e.symm), Below.heap_setCell _ _ _ _ (fun e => h1 e.symm), Below.heap_setCell _ _ _ _ (fun e => h1 e.symm)]
  exact hD
theorem fin_boxes {W : World} {X Y D : Nat} {T T' : TypeId} {x0 x1 y0 y1 : Value} (hX : Box W X T #[x0, x1]) (hY : Box W Y T' #[y0, y1]) (hne : X ≠ Y) (h1 : X ≠ D) (h2 : Y ≠ D) :
    Box (finW W X Y D x0 x1 y0 y1) X T #[x0, x1] ∧ Box (finW W X Y D x0 x1 y0 y1) Y T' #[y0, y1] := by
  have h1' : Box ((W.setCell ⟨X, 0, none⟩ x0).setCell ⟨X, 1, none⟩ x1) X T #[x0, x1] := (hX.set 0 x0).set 1 x1
  have h2' : Box ((W.setCell ⟨X, 0, none⟩ x0).setCell ⟨X, 1, none⟩ x1) Y T' #[y0, y1] := (hY.other (by exact hne) x0).other (by exact hne) x1
  have a := (h1'.other (p := ⟨Y, 0, none⟩) (fun e => hne e.symm) y0).other (p := ⟨Y, 1, none⟩) (fun e => hne e.symm) y1
  have b := (h2'.set 0 y0).set 1 y1
  exact ⟨box_put (a.same ⟨1, rfl⟩) _ h1, box_put (b.same ⟨1, rfl⟩) _ h2⟩
theorem fin_own {W : World} {X Y D C : Nat} {e : TypeId} {s : Nat} {v : Value} {n : Nat} {xs : List Value} (h : W.ownsRow C e s v n xs) (hD : W.heap[D]? = some (.deferred (some []))) (h1 : X < C) (h2 : Y < C) (h3 : X ≠ D) (h4 : Y ≠ D) (x0 x1 y0 y1 : Value) : (finW W X Y D x0 x1 y0 y1).ownsRow C e s v n xs :=
  own_put (own_same (own_setLt (own_setLt (own_setLt (own_setLt h h1 x0) h1 x1) h2 y0) h2 y1) ⟨1, rfl⟩) (fin_mark hD h3 h4 x0 x1 y0 y1) rfl _
theorem fin_below {w W : World} {X Y D : Nat} {x0 x1 y0 y1 : Value} (h : Below w.heap.size w W) (h1 : w.heap.size ≤ X) (h2 : w.heap.size ≤ Y) (h3 : w.heap.size ≤ D) : Below w.heap.size w (finW W X Y D x0 x1 y0 y1) := by
  have hb := ((((h.setCell (p := ⟨X, 0, none⟩) h1 x0).setCell (p := ⟨X, 1, none⟩) h1 x1).setCell (p := ⟨Y, 0, none⟩) h2 y0).setCell (p := ⟨Y, 1, none⟩) h2 y1).drew
  exact hb.trans ⟨rfl, rfl, rfl, by simp [World.putObj], fun k hk => World.putObj_heap_other (by omega)⟩
theorem own_sep {w w1 : World} {C E : Nat} {e e' : TypeId} {s s' n n' : Nat} {v u : Value} {xs ys : List Value} (h : w.ownsRow C e s v n xs) (h' : w1.ownsRow E e' s' u n' ys) (hE : w.heap.size ≤ E) : Sep v u := fun g h1 h2 => by
  have := (h.lt g h1).2
  have := (h'.lt g h2).1
  omega
end Go.Proofs.Ytjhejpeklppmbaa
