/-
  data.Batch: the region of its round: two appends and two stores, in whatever order, over any frame.
-/
import Derived.Test.YtjhejpeklppmbaaBatchRnd
set_option linter.unusedVariables false
set_option linter.unusedSimpArgs false
namespace Go.Proofs.Ytjhejpeklppmbaa
open Go.RowKit Go.Shelf
theorem eval_put_same {a : Act} {i : Nat} {v : Value} (h : i < a.tmps.size) : (a.put (some i) v).eval (.tmp i) = v := by
  simp [Act.put, Act.eval, h]
theorem eval_put_ne {a : Act} {i j : Nat} {v : Value} (h : i ≠ j) : (a.put (some i) v).eval (.tmp j) = a.eval (.tmp j) := by
  simp [Act.put, Act.eval, Array.getElem?_setIfInBounds_ne h]
theorem eval_put_none {a : Act} {v : Value} {x : Operand} : (a.put none v).eval x = a.eval x := rfl
theorem size_put {a : Act} {d : Option Tmp} {v : Value} : (a.put d v).tmps.size = a.tmps.size := by
  cases d <;> simp [Act.put]
def appOps : Array Oper := #[
  { dst := some 70, op := Op.fieldAddr 41 (Operand.tmp 4) 1, type := 0, pos := "data.go:211", after := #[], guard := none },
  { dst := some 71, op := Op.load 33 (Operand.tmp 70), type := 33, pos := "data.go:211", after := #[{ on := 0, ground := Ground.data }], guard := none },
  { dst := some 72, op := Op.move (Operand.tmp 9), type := 33, pos := "data.go:211", after := #[], guard := none },
  { dst := some 73, op := Op.call { callee := Callee.builtin Builtin.append, args := #[Operand.tmp 71, Operand.tmp 72], argTypes := #[33, 33] }, type := 33, pos := "data.go:211", after := #[{ on := 1, ground := Ground.data }, { on := 2, ground := Ground.data }], guard := none },
  { dst := some 74, op := Op.fieldAddr 41 (Operand.tmp 6) 1, type := 0, pos := "data.go:211", after := #[], guard := none },
  { dst := some 75, op := Op.load 33 (Operand.tmp 74), type := 33, pos := "data.go:211", after := #[{ on := 4, ground := Ground.data }], guard := none },
  { dst := some 76, op := Op.move (Operand.tmp 10), type := 33, pos := "data.go:211", after := #[], guard := none },
  { dst := some 77, op := Op.call { callee := Callee.builtin Builtin.append, args := #[Operand.tmp 75, Operand.tmp 76], argTypes := #[33, 33] }, type := 33, pos := "data.go:211", after := #[{ on := 5, ground := Ground.data }, { on := 6, ground := Ground.data }, { on := 3, ground := Ground.chain }], guard := none },
  { dst := some 78, op := Op.fieldAddr 41 (Operand.tmp 4) 1, type := 0, pos := "data.go:211", after := #[{ on := 0, ground := Ground.phase }, { on := 1, ground := Ground.phase }, { on := 2, ground := Ground.phase }, { on := 3, ground := Ground.phase }, { on := 4, ground := Ground.textOnly Departure.lateStores }, { on := 5, ground := Ground.textOnly Departure.inlinedCapture }, { on := 6, ground := Ground.textOnly Departure.lateStores }, { on := 7, ground := Ground.textOnly Departure.lateStoresUnsure }], guard := none },
  { dst := none, op := Op.store 33 (Operand.tmp 78) (Operand.tmp 73), type := 0, pos := "data.go:211", after := #[{ on := 8, ground := Ground.data }, { on := 3, ground := Ground.data }, { on := 7, ground := Ground.chain }, { on := 0, ground := Ground.phase }, { on := 1, ground := Ground.phase }, { on := 2, ground := Ground.phase }, { on := 3, ground := Ground.phase }, { on := 4, ground := Ground.textOnly Departure.lateStores }, { on := 5, ground := Ground.textOnly Departure.inlinedCapture }, { on := 6, ground := Ground.textOnly Departure.lateStores }, { on := 7, ground := Ground.textOnly Departure.lateStoresUnsure }], guard := none },
  { dst := some 79, op := Op.fieldAddr 41 (Operand.tmp 6) 1, type := 0, pos := "data.go:211", after := #[{ on := 0, ground := Ground.phase }, { on := 1, ground := Ground.phase }, { on := 2, ground := Ground.phase }, { on := 3, ground := Ground.phase }, { on := 4, ground := Ground.phase }, { on := 5, ground := Ground.phase }, { on := 6, ground := Ground.phase }, { on := 7, ground := Ground.phase }, { on := 8, ground := Ground.phase }, { on := 9, ground := Ground.phase }], guard := none },
  { dst := none, op := Op.store 33 (Operand.tmp 79) (Operand.tmp 77), type := 0, pos := "data.go:211", after := #[{ on := 10, ground := Ground.data }, { on := 7, ground := Ground.data }, { on := 9, ground := Ground.chain }, { on := 0, ground := Ground.phase }, { on := 1, ground := Ground.phase }, { on := 2, ground := Ground.phase }, { on := 3, ground := Ground.phase }, { on := 4, ground := Ground.phase }, { on := 5, ground := Ground.phase }, { on := 6, ground := Ground.phase }, { on := 7, ground := Ground.phase }, { on := 8, ground := Ground.phase }, { on := 9, ground := Ground.phase }], guard := none }]
theorem appOp0 : appOps[0]? = some { dst := some 70, op := Op.fieldAddr 41 (Operand.tmp 4) 1, type := 0, pos := "data.go:211", after := #[], guard := none } := rfl
theorem appOp1 : appOps[1]? = some { dst := some 71, op := Op.load 33 (Operand.tmp 70), type := 33, pos := "data.go:211", after := #[{ on := 0, ground := Ground.data }], guard := none } := rfl
theorem appOp2 : appOps[2]? = some { dst := some 72, op := Op.move (Operand.tmp 9), type := 33, pos := "data.go:211", after := #[], guard := none } := rfl
theorem appOp3 : appOps[3]? = some { dst := some 73, op := Op.call { callee := Callee.builtin Builtin.append, args := #[Operand.tmp 71, Operand.tmp 72], argTypes := #[33, 33] }, type := 33, pos := "data.go:211", after := #[{ on := 1, ground := Ground.data }, { on := 2, ground := Ground.data }], guard := none } := rfl
theorem appOp4 : appOps[4]? = some { dst := some 74, op := Op.fieldAddr 41 (Operand.tmp 6) 1, type := 0, pos := "data.go:211", after := #[], guard := none } := rfl
theorem appOp5 : appOps[5]? = some { dst := some 75, op := Op.load 33 (Operand.tmp 74), type := 33, pos := "data.go:211", after := #[{ on := 4, ground := Ground.data }], guard := none } := rfl
theorem appOp6 : appOps[6]? = some { dst := some 76, op := Op.move (Operand.tmp 10), type := 33, pos := "data.go:211", after := #[], guard := none } := rfl
theorem appOp7 : appOps[7]? = some { dst := some 77, op := Op.call { callee := Callee.builtin Builtin.append, args := #[Operand.tmp 75, Operand.tmp 76], argTypes := #[33, 33] }, type := 33, pos := "data.go:211", after := #[{ on := 5, ground := Ground.data }, { on := 6, ground := Ground.data }, { on := 3, ground := Ground.chain }], guard := none } := rfl
theorem appOp8 : appOps[8]? = some { dst := some 78, op := Op.fieldAddr 41 (Operand.tmp 4) 1, type := 0, pos := "data.go:211", after := #[{ on := 0, ground := Ground.phase }, { on := 1, ground := Ground.phase }, { on := 2, ground := Ground.phase }, { on := 3, ground := Ground.phase }, { on := 4, ground := Ground.textOnly Departure.lateStores }, { on := 5, ground := Ground.textOnly Departure.inlinedCapture }, { on := 6, ground := Ground.textOnly Departure.lateStores }, { on := 7, ground := Ground.textOnly Departure.lateStoresUnsure }], guard := none } := rfl
theorem appOp9 : appOps[9]? = some { dst := none, op := Op.store 33 (Operand.tmp 78) (Operand.tmp 73), type := 0, pos := "data.go:211", after := #[{ on := 8, ground := Ground.data }, { on := 3, ground := Ground.data }, { on := 7, ground := Ground.chain }, { on := 0, ground := Ground.phase }, { on := 1, ground := Ground.phase }, { on := 2, ground := Ground.phase }, { on := 3, ground := Ground.phase }, { on := 4, ground := Ground.textOnly Departure.lateStores }, { on := 5, ground := Ground.textOnly Departure.inlinedCapture }, { on := 6, ground := Ground.textOnly Departure.lateStores }, { on := 7, ground := Ground.textOnly Departure.lateStoresUnsure }], guard := none } := rfl
theorem appOp10 : appOps[10]? = some { dst := some 79, op := Op.fieldAddr 41 (Operand.tmp 6) 1, type := 0, pos := "data.go:211", after := #[{ on := 0, ground := Ground.phase }, { on := 1, ground := Ground.phase }, { on := 2, ground := Ground.phase }, { on := 3, ground := Ground.phase }, { on := 4, ground := Ground.phase }, { on := 5, ground := Ground.phase }, { on := 6, ground := Ground.phase }, { on := 7, ground := Ground.phase }, { on := 8, ground := Ground.phase }, { on := 9, ground := Ground.phase }], guard := none } := rfl
theorem appOp11 : appOps[11]? = some { dst := none, op := Op.store 33 (Operand.tmp 79) (Operand.tmp 77), type := 0, pos := "data.go:211", after := #[{ on := 10, ground := Ground.data }, { on := 7, ground := Ground.data }, { on := 9, ground := Ground.chain }, { on := 0, ground := Ground.phase }, { on := 1, ground := Ground.phase }, { on := 2, ground := Ground.phase }, { on := 3, ground := Ground.phase }, { on := 4, ground := Ground.phase }, { on := 5, ground := Ground.phase }, { on := 6, ground := Ground.phase }, { on := 7, ground := Ground.phase }, { on := 8, ground := Ground.phase }, { on := 9, ground := Ground.phase }], guard := none } := rfl
theorem info_int64' : (Try.prog.info? 2).map (fun i => (i.zero, i.size, i.bytes)) = some (some (.int .i64 0), 1, 8) := by kernel_rfl
theorem put_same {a : Act} {i : Nat} {v : Value} (h : Hid (a.tmps.size = 102)) (hi : i < 102) : (a.put (some i) v).tmps[i]? = some v := by
  have := h.out
  simp [Act.put, this, hi]
theorem put_ne {a : Act} {i j : Nat} {v u : Value} (h : i ≠ j) (hj : a.tmps[j]? = some u) : (a.put (some i) v).tmps[j]? = some u := by
  simpa [Act.put, Array.getElem?_setIfInBounds_ne h] using hj
theorem put_size {a : Act} {d : Option Tmp} {v : Value} (h : Hid (a.tmps.size = 102)) : Hid ((a.put d v).tmps.size = 102) := Lib.hid (by rw [size_put]; exact h.out)
theorem eval_of {a : Act} {i : Nat} {v : Value} (h : a.tmps[i]? = some v) : a.eval (.tmp i) = v := by simp [Act.eval, h]
theorem bxm_size {B X Y : Nat} {w0 W0 W : World} {xs ys xd yd c1 c2 : Value} {xl yl : List Int} (h : BxMid B X Y w0 W0 xs ys xd yd c1 c2 xl yl W) (hB : B ≤ w0.heap.size) : B ≤ W.heap.size := Nat.le_trans hB h.far.size
/-- what the region asks and never turns -/
structure RegH (B X Y : Nat) (w0 : World) (u v : Value) (ul vl xl yl : List Int) : Prop where
  hX : X < B
  hY : Y < B
  ne : X ≠ Y
  hB : B ≤ w0.heap.size
  ru : ∀ W, KeepX B X Y w0 W → Rd W .i64 u ul
  rv : ∀ W, KeepX B X Y w0 W → Rd W .i64 v vl
  lx : xl.length + ul.length ≤ 1099511627776
  ly : yl.length + vl.length ≤ 1099511627776
set_option maxHeartbeats 1000000 in
theorem reg11 {B X Y : Nat} {w0 W0 W : World} {xs ys xd yd u v v1 v2 : Value} {xl yl ul vl : List Int} {Q : Exit → Act → World → Prop} {a : Act} {fuel : Nat} (H : RegH B X Y w0 u v ul vl xl yl) (hs : Hid (a.tmps.size = 102)) (hp : ∀ c a a' w, Q (.panic c) a w → Q (.panic c) a' w) (hQ : ∀ a' W' v1 v2, BxMid B X Y w0 W0 xs ys v1 v2 v1 v2 (xl ++ ul) (yl ++ vl) W' → Q .normal a' W') (t77 : a.tmps[77]? = some (v2)) (t79 : a.tmps[79]? = some (.pointer (some ⟨Y, 1, none⟩))) (hm : Hid (BxMid B X Y w0 W0 xs ys v1 v2 v1 yd (xl ++ ul) (yl ++ vl) W)) : wpAny Try.prog .any appOps Q (fuel + 1) #[true, true, true, true, true, true, true, true, true, true, true, false] a W := by
  refine wpAny_ready (rs := [11]) (by kernel_rfl) (by simp) ?_
  refine AllReady.cons appOp11 (fun K hK => ?_) AllReady.nil
  obtain ⟨av, cv, rfl⟩ := own_slice hm.out.oy
  have hc := hm.out.y.cell 1 rfl
  have hf := hm.out.y.free 1
  go_simp
  simp only [← List.length_append]
  refine hK _ _ ?_
  refine wpAny_done (by kernel_rfl) ?_ _
  exact hQ _ _ _ _ (hm.out.setY H.hY H.ne _)
set_option maxRecDepth 100000 in
set_option maxHeartbeats 1000000 in
theorem reg10 {B X Y : Nat} {w0 W0 W : World} {xs ys xd yd u v v1 v2 : Value} {xl yl ul vl : List Int} {Q : Exit → Act → World → Prop} {a : Act} {fuel : Nat} (H : RegH B X Y w0 u v ul vl xl yl) (hs : Hid (a.tmps.size = 102)) (hp : ∀ c a a' w, Q (.panic c) a w → Q (.panic c) a' w) (hQ : ∀ a' W' v1 v2, BxMid B X Y w0 W0 xs ys v1 v2 v1 v2 (xl ++ ul) (yl ++ vl) W' → Q .normal a' W') (t6 : a.tmps[6]? = some (.pointer (some ⟨Y, 0, none⟩))) (t77 : a.tmps[77]? = some (v2)) (hm : Hid (BxMid B X Y w0 W0 xs ys v1 v2 v1 yd (xl ++ ul) (yl ++ vl) W)) : wpAny Try.prog .any appOps Q (fuel + 2) #[true, true, true, true, true, true, true, true, true, true, false, false] a W := by
  refine wpAny_take (i := 10) (v := .pointer (some ⟨Y, 1, none⟩)) appOp10 (by kernel_rfl) (by kernel_rfl) (by kernel_rfl) (fun _ _ _ h => hp _ _ _ _ h) (Or.inl ⟨rfl, ?_⟩) ?_
  · intro w
    go_simp
  exact reg11 (xd := xd) (yd := yd) (v1 := v1) (v2 := v2) H (put_size hs) hp hQ (put_ne (by omega) t77) (put_same hs (by omega)) hm
set_option maxRecDepth 100000 in
set_option maxHeartbeats 1000000 in
theorem reg9 {B X Y : Nat} {w0 W0 W : World} {xs ys xd yd u v v1 v2 : Value} {xl yl ul vl : List Int} {Q : Exit → Act → World → Prop} {a : Act} {fuel : Nat} (H : RegH B X Y w0 u v ul vl xl yl) (hs : Hid (a.tmps.size = 102)) (hp : ∀ c a a' w, Q (.panic c) a w → Q (.panic c) a' w) (hQ : ∀ a' W' v1 v2, BxMid B X Y w0 W0 xs ys v1 v2 v1 v2 (xl ++ ul) (yl ++ vl) W' → Q .normal a' W') (t6 : a.tmps[6]? = some (.pointer (some ⟨Y, 0, none⟩))) (t73 : a.tmps[73]? = some (v1)) (t77 : a.tmps[77]? = some (v2)) (t78 : a.tmps[78]? = some (.pointer (some ⟨X, 1, none⟩))) (hm : Hid (BxMid B X Y w0 W0 xs ys v1 v2 xd yd (xl ++ ul) (yl ++ vl) W)) : wpAny Try.prog .any appOps Q (fuel + 3) #[true, true, true, true, true, true, true, true, true, false, false, false] a W := by
  refine wpAny_ready (rs := [9]) (by kernel_rfl) (by simp) ?_
  refine AllReady.cons appOp9 (fun K hK => ?_) ?_
  · obtain ⟨av, cv, rfl⟩ := own_slice hm.out.ox
    have hc := hm.out.x.cell 1 rfl
    have hf := hm.out.x.free 1
    go_simp
    simp only [← List.length_append]
    refine hK _ _ ?_
    exact reg10 (xd := xd) (yd := yd)   H hs hp hQ t6 t77 (Lib.hid (hm.out.setX H.hX H.ne _))
  exact AllReady.nil
set_option maxRecDepth 100000 in
set_option maxHeartbeats 1000000 in
theorem reg7 {B X Y : Nat} {w0 W0 W : World} {xs ys xd yd u v v1 v2 : Value} {xl yl ul vl : List Int} {Q : Exit → Act → World → Prop} {a : Act} {fuel : Nat} (H : RegH B X Y w0 u v ul vl xl yl) (hs : Hid (a.tmps.size = 102)) (hp : ∀ c a a' w, Q (.panic c) a w → Q (.panic c) a' w) (hQ : ∀ a' W' v1 v2, BxMid B X Y w0 W0 xs ys v1 v2 v1 v2 (xl ++ ul) (yl ++ vl) W' → Q .normal a' W') (t6 : a.tmps[6]? = some (.pointer (some ⟨Y, 0, none⟩))) (t73 : a.tmps[73]? = some (v1)) (t75 : a.tmps[75]? = some (yd)) (t76 : a.tmps[76]? = some (v)) (t78 : a.tmps[78]? = some (.pointer (some ⟨X, 1, none⟩))) (hm : Hid (BxMid B X Y w0 W0 xs ys v1 yd xd yd (xl ++ ul) yl W)) : wpAny Try.prog .any appOps Q (fuel + 4) #[true, true, true, true, true, true, true, false, true, false, false, false] a W := by
  refine wpAny_ready (rs := [7]) (by kernel_rfl) (by simp) ?_
  refine AllReady.cons appOp7 (fun K hK => ?_) ?_
  · obtain ⟨i0, hi0, hz0, hz1, hz2⟩ := info_parts info_int64'
    refine step_append_rd rfl (.tmp 75) (.tmp 76) 33 rfl B 2 .i64 i0 8 Try.underlying33 hi0 hz0 hz1 hz2 _ _ (eval_of t75) hm.out.oy _ vl (eval_of t76) (H.rv _ hm.out.far) (by have := H.ly; unfold maxLen; omega) (by have := H.ly; omega) (bxm_size hm.out H.hB) ?_
    intro v' W' hown hgrow hat
    refine hK _ _ ?_
    exact reg9 (xd := xd) (yd := yd) (v1 := v1) H (put_size hs) hp hQ (put_ne (by omega) t6) (put_ne (by omega) t73) (put_same hs (by omega)) (put_ne (by omega) t78) (Lib.hid (hm.out.appY H.hX H.hY (bxm_size hm.out H.hB) hown hgrow hat))
  exact AllReady.nil
set_option maxRecDepth 100000 in
set_option maxHeartbeats 1000000 in
theorem reg8 {B X Y : Nat} {w0 W0 W : World} {xs ys xd yd u v v1 v2 : Value} {xl yl ul vl : List Int} {Q : Exit → Act → World → Prop} {a : Act} {fuel : Nat} (H : RegH B X Y w0 u v ul vl xl yl) (hs : Hid (a.tmps.size = 102)) (hp : ∀ c a a' w, Q (.panic c) a w → Q (.panic c) a' w) (hQ : ∀ a' W' v1 v2, BxMid B X Y w0 W0 xs ys v1 v2 v1 v2 (xl ++ ul) (yl ++ vl) W' → Q .normal a' W') (t4 : a.tmps[4]? = some (.pointer (some ⟨X, 0, none⟩))) (t6 : a.tmps[6]? = some (.pointer (some ⟨Y, 0, none⟩))) (t73 : a.tmps[73]? = some (v1)) (t75 : a.tmps[75]? = some (yd)) (t76 : a.tmps[76]? = some (v)) (hm : Hid (BxMid B X Y w0 W0 xs ys v1 yd xd yd (xl ++ ul) yl W)) : wpAny Try.prog .any appOps Q (fuel + 5) #[true, true, true, true, true, true, true, false, false, false, false, false] a W := by
  refine wpAny_take (i := 8) (v := .pointer (some ⟨X, 1, none⟩)) appOp8 (by kernel_rfl) (by kernel_rfl) (by kernel_rfl) (fun _ _ _ h => hp _ _ _ _ h) (Or.inl ⟨rfl, ?_⟩) ?_
  · intro w
    go_simp
  exact reg7 (xd := xd) (yd := yd) (v1 := v1) (v2 := v2) H (put_size hs) hp hQ (put_ne (by omega) t6) (put_ne (by omega) t73) (put_ne (by omega) t75) (put_ne (by omega) t76) (put_same hs (by omega)) hm
set_option maxRecDepth 100000 in
set_option maxHeartbeats 1000000 in
theorem reg5c {B X Y : Nat} {w0 W0 W : World} {xs ys xd yd u v v1 v2 : Value} {xl yl ul vl : List Int} {Q : Exit → Act → World → Prop} {a : Act} {fuel : Nat} (H : RegH B X Y w0 u v ul vl xl yl) (hs : Hid (a.tmps.size = 102)) (hp : ∀ c a a' w, Q (.panic c) a w → Q (.panic c) a' w) (hQ : ∀ a' W' v1 v2, BxMid B X Y w0 W0 xs ys v1 v2 v1 v2 (xl ++ ul) (yl ++ vl) W' → Q .normal a' W') (t6 : a.tmps[6]? = some (.pointer (some ⟨Y, 0, none⟩))) (t73 : a.tmps[73]? = some (v1)) (t74 : a.tmps[74]? = some (.pointer (some ⟨Y, 1, none⟩))) (t76 : a.tmps[76]? = some (v)) (t78 : a.tmps[78]? = some (.pointer (some ⟨X, 1, none⟩))) (hm : Hid (BxMid B X Y w0 W0 xs ys v1 yd xd yd (xl ++ ul) yl W)) : wpAny Try.prog .any appOps Q (fuel + 5) #[true, true, true, true, true, false, true, false, true, false, false, false] a W := by
  refine wpAny_ready (rs := [5]) (by kernel_rfl) (by simp) ?_
  refine AllReady.cons appOp5 (fun K hK => ?_) ?_
  · have hc := hm.out.y.cell 1 rfl
    go_simp
    refine hK _ _ ?_
    change wpAny Try.prog .any appOps Q _ _ (a.put (some 75) yd) W
    exact reg7 (xd := xd) (yd := yd) (v1 := v1) (v2 := v2) H (put_size hs) hp hQ (put_ne (by omega) t6) (put_ne (by omega) t73) (put_same hs (by omega)) (put_ne (by omega) t76) (put_ne (by omega) t78) hm
  exact AllReady.nil
set_option maxRecDepth 100000 in
set_option maxHeartbeats 1000000 in
theorem reg5b {B X Y : Nat} {w0 W0 W : World} {xs ys xd yd u v v1 v2 : Value} {xl yl ul vl : List Int} {Q : Exit → Act → World → Prop} {a : Act} {fuel : Nat} (H : RegH B X Y w0 u v ul vl xl yl) (hs : Hid (a.tmps.size = 102)) (hp : ∀ c a a' w, Q (.panic c) a w → Q (.panic c) a' w) (hQ : ∀ a' W' v1 v2, BxMid B X Y w0 W0 xs ys v1 v2 v1 v2 (xl ++ ul) (yl ++ vl) W' → Q .normal a' W') (t4 : a.tmps[4]? = some (.pointer (some ⟨X, 0, none⟩))) (t6 : a.tmps[6]? = some (.pointer (some ⟨Y, 0, none⟩))) (t73 : a.tmps[73]? = some (v1)) (t74 : a.tmps[74]? = some (.pointer (some ⟨Y, 1, none⟩))) (t76 : a.tmps[76]? = some (v)) (hm : Hid (BxMid B X Y w0 W0 xs ys v1 yd xd yd (xl ++ ul) yl W)) : wpAny Try.prog .any appOps Q (fuel + 6) #[true, true, true, true, true, false, true, false, false, false, false, false] a W := by
  refine wpAny_take (i := 8) (v := .pointer (some ⟨X, 1, none⟩)) appOp8 (by kernel_rfl) (by kernel_rfl) (by kernel_rfl) (fun _ _ _ h => hp _ _ _ _ h) (Or.inl ⟨rfl, ?_⟩) ?_
  · intro w
    go_simp
  exact reg5c (xd := xd) (yd := yd) (v1 := v1) (v2 := v2) H (put_size hs) hp hQ (put_ne (by omega) t6) (put_ne (by omega) t73) (put_ne (by omega) t74) (put_ne (by omega) t76) (put_same hs (by omega)) hm
set_option maxRecDepth 100000 in
set_option maxHeartbeats 1000000 in
theorem reg3 {B X Y : Nat} {w0 W0 W : World} {xs ys xd yd u v v1 v2 : Value} {xl yl ul vl : List Int} {Q : Exit → Act → World → Prop} {a : Act} {fuel : Nat} (H : RegH B X Y w0 u v ul vl xl yl) (hs : Hid (a.tmps.size = 102)) (hp : ∀ c a a' w, Q (.panic c) a w → Q (.panic c) a' w) (hQ : ∀ a' W' v1 v2, BxMid B X Y w0 W0 xs ys v1 v2 v1 v2 (xl ++ ul) (yl ++ vl) W' → Q .normal a' W') (t4 : a.tmps[4]? = some (.pointer (some ⟨X, 0, none⟩))) (t6 : a.tmps[6]? = some (.pointer (some ⟨Y, 0, none⟩))) (t71 : a.tmps[71]? = some (xd)) (t72 : a.tmps[72]? = some (u)) (t75 : a.tmps[75]? = some (yd)) (t76 : a.tmps[76]? = some (v)) (hm : Hid (BxMid B X Y w0 W0 xs ys xd yd xd yd xl yl W)) : wpAny Try.prog .any appOps Q (fuel + 6) #[true, true, true, false, true, true, true, false, false, false, false, false] a W := by
  refine wpAny_ready (rs := [3]) (by kernel_rfl) (by simp) ?_
  refine AllReady.cons appOp3 (fun K hK => ?_) ?_
  · obtain ⟨i0, hi0, hz0, hz1, hz2⟩ := info_parts info_int64'
    refine step_append_rd rfl (.tmp 71) (.tmp 72) 33 rfl B 2 .i64 i0 8 Try.underlying33 hi0 hz0 hz1 hz2 _ _ (eval_of t71) hm.out.ox _ ul (eval_of t72) (H.ru _ hm.out.far) (by have := H.lx; unfold maxLen; omega) (by have := H.lx; omega) (bxm_size hm.out H.hB) ?_
    intro v' W' hown hgrow hat
    refine hK _ _ ?_
    exact reg8 (xd := xd) (yd := yd) (v2 := v2) H (put_size hs) hp hQ (put_ne (by omega) t4) (put_ne (by omega) t6) (put_same hs (by omega)) (put_ne (by omega) t75) (put_ne (by omega) t76) (Lib.hid (hm.out.appX H.hX H.hY (bxm_size hm.out H.hB) hown hgrow hat))
  exact AllReady.nil
set_option maxRecDepth 100000 in
set_option maxHeartbeats 1000000 in
theorem reg35 {B X Y : Nat} {w0 W0 W : World} {xs ys xd yd u v v1 v2 : Value} {xl yl ul vl : List Int} {Q : Exit → Act → World → Prop} {a : Act} {fuel : Nat} (H : RegH B X Y w0 u v ul vl xl yl) (hs : Hid (a.tmps.size = 102)) (hp : ∀ c a a' w, Q (.panic c) a w → Q (.panic c) a' w) (hQ : ∀ a' W' v1 v2, BxMid B X Y w0 W0 xs ys v1 v2 v1 v2 (xl ++ ul) (yl ++ vl) W' → Q .normal a' W') (t4 : a.tmps[4]? = some (.pointer (some ⟨X, 0, none⟩))) (t6 : a.tmps[6]? = some (.pointer (some ⟨Y, 0, none⟩))) (t71 : a.tmps[71]? = some (xd)) (t72 : a.tmps[72]? = some (u)) (t74 : a.tmps[74]? = some (.pointer (some ⟨Y, 1, none⟩))) (t76 : a.tmps[76]? = some (v)) (hm : Hid (BxMid B X Y w0 W0 xs ys xd yd xd yd xl yl W)) : wpAny Try.prog .any appOps Q (fuel + 7) #[true, true, true, false, true, false, true, false, false, false, false, false] a W := by
  refine wpAny_ready (rs := [3, 5]) (by kernel_rfl) (by simp) ?_
  refine AllReady.cons appOp3 (fun K hK => ?_) ?_
  · obtain ⟨i0, hi0, hz0, hz1, hz2⟩ := info_parts info_int64'
    refine step_append_rd rfl (.tmp 71) (.tmp 72) 33 rfl B 2 .i64 i0 8 Try.underlying33 hi0 hz0 hz1 hz2 _ _ (eval_of t71) hm.out.ox _ ul (eval_of t72) (H.ru _ hm.out.far) (by have := H.lx; unfold maxLen; omega) (by have := H.lx; omega) (bxm_size hm.out H.hB) ?_
    intro v' W' hown hgrow hat
    refine hK _ _ ?_
    exact reg5b (xd := xd) (yd := yd) (v2 := v2) H (put_size hs) hp hQ (put_ne (by omega) t4) (put_ne (by omega) t6) (put_same hs (by omega)) (put_ne (by omega) t74) (put_ne (by omega) t76) (Lib.hid (hm.out.appX H.hX H.hY (bxm_size hm.out H.hB) hown hgrow hat))
  refine AllReady.cons appOp5 (fun K hK => ?_) ?_
  · have hc := hm.out.y.cell 1 rfl
    go_simp
    refine hK _ _ ?_
    change wpAny Try.prog .any appOps Q _ _ (a.put (some 75) yd) W
    exact reg3 (xd := xd) (yd := yd) (v1 := v1) (v2 := v2) H (put_size hs) hp hQ (put_ne (by omega) t4) (put_ne (by omega) t6) (put_ne (by omega) t71) (put_ne (by omega) t72) (put_same hs (by omega)) (put_ne (by omega) t76) hm
  exact AllReady.nil
set_option maxRecDepth 100000 in
set_option maxHeartbeats 1000000 in
theorem reg1 {B X Y : Nat} {w0 W0 W : World} {xs ys xd yd u v v1 v2 : Value} {xl yl ul vl : List Int} {Q : Exit → Act → World → Prop} {a : Act} {fuel : Nat} (H : RegH B X Y w0 u v ul vl xl yl) (hs : Hid (a.tmps.size = 102)) (hp : ∀ c a a' w, Q (.panic c) a w → Q (.panic c) a' w) (hQ : ∀ a' W' v1 v2, BxMid B X Y w0 W0 xs ys v1 v2 v1 v2 (xl ++ ul) (yl ++ vl) W' → Q .normal a' W') (t4 : a.tmps[4]? = some (.pointer (some ⟨X, 0, none⟩))) (t6 : a.tmps[6]? = some (.pointer (some ⟨Y, 0, none⟩))) (t70 : a.tmps[70]? = some (.pointer (some ⟨X, 1, none⟩))) (t72 : a.tmps[72]? = some (u)) (t75 : a.tmps[75]? = some (yd)) (t76 : a.tmps[76]? = some (v)) (hm : Hid (BxMid B X Y w0 W0 xs ys xd yd xd yd xl yl W)) : wpAny Try.prog .any appOps Q (fuel + 7) #[true, false, true, false, true, true, true, false, false, false, false, false] a W := by
  refine wpAny_ready (rs := [1]) (by kernel_rfl) (by simp) ?_
  refine AllReady.cons appOp1 (fun K hK => ?_) ?_
  · have hc := hm.out.x.cell 1 rfl
    go_simp
    refine hK _ _ ?_
    change wpAny Try.prog .any appOps Q _ _ (a.put (some 71) xd) W
    exact reg3 (xd := xd) (yd := yd) (v1 := v1) (v2 := v2) H (put_size hs) hp hQ (put_ne (by omega) t4) (put_ne (by omega) t6) (put_same hs (by omega)) (put_ne (by omega) t72) (put_ne (by omega) t75) (put_ne (by omega) t76) hm
  exact AllReady.nil
set_option maxRecDepth 100000 in
set_option maxHeartbeats 1000000 in
theorem reg15 {B X Y : Nat} {w0 W0 W : World} {xs ys xd yd u v v1 v2 : Value} {xl yl ul vl : List Int} {Q : Exit → Act → World → Prop} {a : Act} {fuel : Nat} (H : RegH B X Y w0 u v ul vl xl yl) (hs : Hid (a.tmps.size = 102)) (hp : ∀ c a a' w, Q (.panic c) a w → Q (.panic c) a' w) (hQ : ∀ a' W' v1 v2, BxMid B X Y w0 W0 xs ys v1 v2 v1 v2 (xl ++ ul) (yl ++ vl) W' → Q .normal a' W') (t4 : a.tmps[4]? = some (.pointer (some ⟨X, 0, none⟩))) (t6 : a.tmps[6]? = some (.pointer (some ⟨Y, 0, none⟩))) (t70 : a.tmps[70]? = some (.pointer (some ⟨X, 1, none⟩))) (t72 : a.tmps[72]? = some (u)) (t74 : a.tmps[74]? = some (.pointer (some ⟨Y, 1, none⟩))) (t76 : a.tmps[76]? = some (v)) (hm : Hid (BxMid B X Y w0 W0 xs ys xd yd xd yd xl yl W)) : wpAny Try.prog .any appOps Q (fuel + 8) #[true, false, true, false, true, false, true, false, false, false, false, false] a W := by
  refine wpAny_ready (rs := [1, 5]) (by kernel_rfl) (by simp) ?_
  refine AllReady.cons appOp1 (fun K hK => ?_) ?_
  · have hc := hm.out.x.cell 1 rfl
    go_simp
    refine hK _ _ ?_
    change wpAny Try.prog .any appOps Q _ _ (a.put (some 71) xd) W
    exact reg35 (xd := xd) (yd := yd) (v1 := v1) (v2 := v2) H (put_size hs) hp hQ (put_ne (by omega) t4) (put_ne (by omega) t6) (put_same hs (by omega)) (put_ne (by omega) t72) (put_ne (by omega) t74) (put_ne (by omega) t76) hm
  refine AllReady.cons appOp5 (fun K hK => ?_) ?_
  · have hc := hm.out.y.cell 1 rfl
    go_simp
    refine hK _ _ ?_
    change wpAny Try.prog .any appOps Q _ _ (a.put (some 75) yd) W
    exact reg1 (xd := xd) (yd := yd) (v1 := v1) (v2 := v2) H (put_size hs) hp hQ (put_ne (by omega) t4) (put_ne (by omega) t6) (put_ne (by omega) t70) (put_ne (by omega) t72) (put_same hs (by omega)) (put_ne (by omega) t76) hm
  exact AllReady.nil
set_option maxRecDepth 100000 in
set_option maxHeartbeats 1000000 in
theorem reg6 {B X Y : Nat} {w0 W0 W : World} {xs ys xd yd u v v1 v2 : Value} {xl yl ul vl : List Int} {Q : Exit → Act → World → Prop} {a : Act} {fuel : Nat} (H : RegH B X Y w0 u v ul vl xl yl) (hs : Hid (a.tmps.size = 102)) (hp : ∀ c a a' w, Q (.panic c) a w → Q (.panic c) a' w) (hQ : ∀ a' W' v1 v2, BxMid B X Y w0 W0 xs ys v1 v2 v1 v2 (xl ++ ul) (yl ++ vl) W' → Q .normal a' W') (t4 : a.tmps[4]? = some (.pointer (some ⟨X, 0, none⟩))) (t6 : a.tmps[6]? = some (.pointer (some ⟨Y, 0, none⟩))) (t10 : a.tmps[10]? = some (v)) (t70 : a.tmps[70]? = some (.pointer (some ⟨X, 1, none⟩))) (t72 : a.tmps[72]? = some (u)) (t74 : a.tmps[74]? = some (.pointer (some ⟨Y, 1, none⟩))) (hm : Hid (BxMid B X Y w0 W0 xs ys xd yd xd yd xl yl W)) : wpAny Try.prog .any appOps Q (fuel + 9) #[true, false, true, false, true, false, false, false, false, false, false, false] a W := by
  refine wpAny_take (i := 6) (v := v) appOp6 (by kernel_rfl) (by kernel_rfl) (by kernel_rfl) (fun _ _ _ h => hp _ _ _ _ h) (Or.inl ⟨rfl, ?_⟩) ?_
  · intro w
    go_simp
  exact reg15 (xd := xd) (yd := yd) (v1 := v1) (v2 := v2) H (put_size hs) hp hQ (put_ne (by omega) t4) (put_ne (by omega) t6) (put_ne (by omega) t70) (put_ne (by omega) t72) (put_ne (by omega) t74) (put_same hs (by omega)) hm
set_option maxRecDepth 100000 in
set_option maxHeartbeats 1000000 in
theorem reg4 {B X Y : Nat} {w0 W0 W : World} {xs ys xd yd u v v1 v2 : Value} {xl yl ul vl : List Int} {Q : Exit → Act → World → Prop} {a : Act} {fuel : Nat} (H : RegH B X Y w0 u v ul vl xl yl) (hs : Hid (a.tmps.size = 102)) (hp : ∀ c a a' w, Q (.panic c) a w → Q (.panic c) a' w) (hQ : ∀ a' W' v1 v2, BxMid B X Y w0 W0 xs ys v1 v2 v1 v2 (xl ++ ul) (yl ++ vl) W' → Q .normal a' W') (t4 : a.tmps[4]? = some (.pointer (some ⟨X, 0, none⟩))) (t6 : a.tmps[6]? = some (.pointer (some ⟨Y, 0, none⟩))) (t10 : a.tmps[10]? = some (v)) (t70 : a.tmps[70]? = some (.pointer (some ⟨X, 1, none⟩))) (t72 : a.tmps[72]? = some (u)) (hm : Hid (BxMid B X Y w0 W0 xs ys xd yd xd yd xl yl W)) : wpAny Try.prog .any appOps Q (fuel + 10) #[true, false, true, false, false, false, false, false, false, false, false, false] a W := by
  refine wpAny_take (i := 4) (v := .pointer (some ⟨Y, 1, none⟩)) appOp4 (by kernel_rfl) (by kernel_rfl) (by kernel_rfl) (fun _ _ _ h => hp _ _ _ _ h) (Or.inl ⟨rfl, ?_⟩) ?_
  · intro w
    go_simp
  exact reg6 (xd := xd) (yd := yd) (v1 := v1) (v2 := v2) H (put_size hs) hp hQ (put_ne (by omega) t4) (put_ne (by omega) t6) (put_ne (by omega) t10) (put_ne (by omega) t70) (put_ne (by omega) t72) (put_same hs (by omega)) hm
set_option maxRecDepth 100000 in
set_option maxHeartbeats 1000000 in
theorem reg2 {B X Y : Nat} {w0 W0 W : World} {xs ys xd yd u v v1 v2 : Value} {xl yl ul vl : List Int} {Q : Exit → Act → World → Prop} {a : Act} {fuel : Nat} (H : RegH B X Y w0 u v ul vl xl yl) (hs : Hid (a.tmps.size = 102)) (hp : ∀ c a a' w, Q (.panic c) a w → Q (.panic c) a' w) (hQ : ∀ a' W' v1 v2, BxMid B X Y w0 W0 xs ys v1 v2 v1 v2 (xl ++ ul) (yl ++ vl) W' → Q .normal a' W') (t4 : a.tmps[4]? = some (.pointer (some ⟨X, 0, none⟩))) (t6 : a.tmps[6]? = some (.pointer (some ⟨Y, 0, none⟩))) (t9 : a.tmps[9]? = some (u)) (t10 : a.tmps[10]? = some (v)) (t70 : a.tmps[70]? = some (.pointer (some ⟨X, 1, none⟩))) (hm : Hid (BxMid B X Y w0 W0 xs ys xd yd xd yd xl yl W)) : wpAny Try.prog .any appOps Q (fuel + 11) #[true, false, false, false, false, false, false, false, false, false, false, false] a W := by
  refine wpAny_take (i := 2) (v := u) appOp2 (by kernel_rfl) (by kernel_rfl) (by kernel_rfl) (fun _ _ _ h => hp _ _ _ _ h) (Or.inl ⟨rfl, ?_⟩) ?_
  · intro w
    go_simp
  exact reg4 (xd := xd) (yd := yd) (v1 := v1) (v2 := v2) H (put_size hs) hp hQ (put_ne (by omega) t4) (put_ne (by omega) t6) (put_ne (by omega) t10) (put_ne (by omega) t70) (put_same hs (by omega)) hm
set_option maxRecDepth 100000 in
set_option maxHeartbeats 1000000 in
theorem reg0 {B X Y : Nat} {w0 W0 W : World} {xs ys xd yd u v v1 v2 : Value} {xl yl ul vl : List Int} {Q : Exit → Act → World → Prop} {a : Act} {fuel : Nat} (H : RegH B X Y w0 u v ul vl xl yl) (hs : Hid (a.tmps.size = 102)) (hp : ∀ c a a' w, Q (.panic c) a w → Q (.panic c) a' w) (hQ : ∀ a' W' v1 v2, BxMid B X Y w0 W0 xs ys v1 v2 v1 v2 (xl ++ ul) (yl ++ vl) W' → Q .normal a' W') (t4 : a.tmps[4]? = some (.pointer (some ⟨X, 0, none⟩))) (t6 : a.tmps[6]? = some (.pointer (some ⟨Y, 0, none⟩))) (t9 : a.tmps[9]? = some (u)) (t10 : a.tmps[10]? = some (v)) (hm : Hid (BxMid B X Y w0 W0 xs ys xd yd xd yd xl yl W)) : wpAny Try.prog .any appOps Q (fuel + 12) #[false, false, false, false, false, false, false, false, false, false, false, false] a W := by
  refine wpAny_take (i := 0) (v := .pointer (some ⟨X, 1, none⟩)) appOp0 (by kernel_rfl) (by kernel_rfl) (by kernel_rfl) (fun _ _ _ h => hp _ _ _ _ h) (Or.inl ⟨rfl, ?_⟩) ?_
  · intro w
    go_simp
  exact reg2 (xd := xd) (yd := yd) (v1 := v1) (v2 := v2) H (put_size hs) hp hQ (put_ne (by omega) t4) (put_ne (by omega) t6) (put_ne (by omega) t9) (put_ne (by omega) t10) (put_same hs (by omega)) hm
end Go.Proofs.Ytjhejpeklppmbaa
