/-
  data.Batch: the round over examples: what it keeps.
-/
import Derived.Test.YtjhejpeklppmbaaSpoils
import Derived.Test.YtjhejpeklppmbaaExamples
import Derived.Test.YtjhejpeklppmbaaPart
set_option linter.unusedVariables false
set_option linter.unusedSimpArgs false
namespace Go.Proofs.Ytjhejpeklppmbaa
open Go.RowKit Go.Shelf
/-- two tensors' boxes, their words the call's own -/
def BxAt (B X Y : Nat) (w0 : World) (xs ys : Value) (xl yl : List Int) (W : World) : Prop :=
  ∃ xd yd, Box W X 41 #[xs, xd] ∧ Box W Y 41 #[ys, yd] ∧ OwnI W B 2 .i64 xd xl ∧ OwnI W B 2 .i64 yd yl ∧ Sep xd yd ∧ KeepX B X Y w0 W
theorem own_keeps {W W' : World} {row : Option Nat} {B : Nat} {e : TypeId} {s n : Nat} {v : Value} {xs : List Value} (h : W.ownsRow B e s v n xs) (hg : W.grownBy W' row) (hr : ∀ r, row = some r → ∃ o : Obj, W.heap[r]? = some o ∧ o.isCells = false) : W'.ownsRow B e s v n xs := by
  refine ⟨h.1, ?_⟩
  rcases h.2 with hn | ⟨g, cap, cur, rfl, hb, hgg, rest⟩
  · exact .inl hn
  · exact .inr ⟨g, cap, cur, rfl, hb, (grownBy_keeps_cells hg hr hgg rfl).trans hgg, rest⟩
theorem bx_own {β : Type} (B X Y : Nat) (w0 : World) (xs ys : Value) (f g : β → List Int) (hB : B ≤ w0.heap.size) : OwnFrom B (fun s W => BxAt B X Y w0 xs ys (f s) (g s) W) := fun s W W' row hs hg hr => by
  obtain ⟨xd, yd, h1, h2, h3, h4, h5, h6⟩ := hs
  have hr' : ∀ r, row = some r → ∃ o : Obj, W.heap[r]? = some o ∧ o.isCells = false := fun r e => (hr r e).2
  refine ⟨xd, yd, (grownBy_keeps_cells hg hr' h1 rfl).trans h1, (grownBy_keeps_cells hg hr' h2 rfl).trans h2, own_keeps h3 hg hr', own_keeps h4 hg hr', h5, ⟨Nat.le_trans h6.size hg.size, fun k hk h7 h8 => ?_, hg.os.trans h6.rest.1, hg.tape.trans h6.rest.2.1, hg.output.trans h6.rest.2.2⟩⟩
  have hb := h6.block k hk h7 h8
  have hl : k < W.heap.size := by have := h6.size; omega
  exact (hg.block k hl (fun e => by have := (hr k e.symm).1; omega)).trans hb
/-- inside a round: W0 the round's start; the boxes hold c1, c2; the rows lie in xd, yd -/
structure BxMid (B X Y : Nat) (w0 W0 : World) (xs ys xd yd c1 c2 : Value) (xl yl : List Int) (W : World) : Prop where
  x : Box W X 41 #[xs, c1]
  y : Box W Y 41 #[ys, c2]
  ox : OwnI W B 2 .i64 xd xl
  oy : OwnI W B 2 .i64 yd yl
  sep : Sep xd yd
  far : KeepX B X Y w0 W
  near : KeepX B X Y W0 W
  others : KeepsOthers W0 W
theorem KeepX.below {B X Y : Nat} {a b c : World} (h : KeepX B X Y a b) (hb : Below B b c) : KeepX B X Y a c := h.trans ⟨hb.size, fun k hk _ _ => hb.block k hk, hb.os, hb.tape, hb.output⟩
theorem own_cells {W : World} {B : Nat} {e : TypeId} {s n : Nat} {v : Value} {xs : List Value} (h : W.ownsRow B e s v n xs) : ∀ (j : Nat) (o : Obj), v.ownBlock = some j → W.heap[j]? = some o → o.isCells = true := fun j o hj ho => by
  rcases h.2 with ⟨rfl, _⟩ | ⟨g, cap, cur, rfl, hb, hgg, rest⟩
  · cases hj
  · cases hj
    rw [hgg] at ho
    cases ho
    rfl
theorem sep_at {W : World} {B : Nat} {e : TypeId} {s n : Nat} {v v' u : Value} {xs : List Value} (hs : Sep v u) (hu : W.ownsRow B e s u n xs) (hat : v'.ownBlock = v.ownBlock ∨ v'.ownBlock = some W.heap.size) : Sep v' u := fun g h1 h2 => by
  rcases hat with h | h
  · exact hs g (h ▸ h1) h2
  · rw [h] at h1
    cases h1
    exact absurd (hu.lt _ h2).2 (Nat.lt_irrefl _)
theorem Sep.symm {v u : Value} (h : Sep v u) : Sep u v := fun g h1 h2 => h g h2 h1
theorem BxMid.appX {B X Y : Nat} {w0 W0 W W1 : World} {xs ys xd yd c1 c2 v' : Value} {xl yl zl : List Int} (h : BxMid B X Y w0 W0 xs ys xd yd c1 c2 xl yl W) (hX : X < B) (hY : Y < B) (hB : B ≤ W.heap.size)
    (ho : OwnI W1 B 2 .i64 v' zl) (hg : W.grownBy W1 xd.ownBlock) (hat : v'.ownBlock = xd.ownBlock ∨ v'.ownBlock = some W.heap.size) : BxMid B X Y w0 W0 xs ys v' yd c1 c2 zl yl W1 :=
  have hb := below_grown h.ox hg hB
  ⟨h.x.below hb hX, h.y.below hb hY, ho, own_grown h.oy hg h.sep, sep_at h.sep h.oy hat, h.far.below hb, h.near.below hb, h.others.trans (KeepsOthers.of_grownBy hg (own_cells h.ox))⟩
theorem BxMid.appY {B X Y : Nat} {w0 W0 W W1 : World} {xs ys xd yd c1 c2 v' : Value} {xl yl zl : List Int} (h : BxMid B X Y w0 W0 xs ys xd yd c1 c2 xl yl W) (hX : X < B) (hY : Y < B) (hB : B ≤ W.heap.size)
    (ho : OwnI W1 B 2 .i64 v' zl) (hg : W.grownBy W1 yd.ownBlock) (hat : v'.ownBlock = yd.ownBlock ∨ v'.ownBlock = some W.heap.size) : BxMid B X Y w0 W0 xs ys xd v' c1 c2 xl zl W1 :=
  have hb := below_grown h.oy hg hB
  ⟨h.x.below hb hX, h.y.below hb hY, own_grown h.ox hg h.sep.symm, ho, (sep_at h.sep.symm h.ox hat).symm, h.far.below hb, h.near.below hb, h.others.trans (KeepsOthers.of_grownBy hg (own_cells h.oy))⟩
theorem keepx_set {B X Y b o : Nat} {a W : World} (h : KeepX B X Y a W) (v : Value) (hb : b = X ∨ b = Y) : KeepX B X Y a (W.setCell ⟨b, o, none⟩ v) :=
  ⟨by simpa [World.setCell] using h.size, fun k hk h1 h2 => (Below.heap_setCell W ⟨b, o, none⟩ v k (fun e => by rcases hb with rfl | rfl <;> simp_all)).trans (h.block k hk h1 h2), h.rest⟩
theorem BxMid.setX {B X Y : Nat} {w0 W0 W : World} {xs ys xd yd c1 c2 : Value} {xl yl : List Int} (h : BxMid B X Y w0 W0 xs ys xd yd c1 c2 xl yl W) (hX : X < B) (hne : X ≠ Y) (v : Value) : BxMid B X Y w0 W0 xs ys xd yd v c2 xl yl (W.setCell ⟨X, 1, none⟩ v) :=
  ⟨h.x.set 1 v, h.y.other (by exact hne) v, own_setLt h.ox hX v, own_setLt h.oy hX v, h.sep, keepx_set h.far v (.inl rfl), keepx_set h.near v (.inl rfl), h.others.trans (KeepsOthers.setCell _ _ _)⟩
theorem BxMid.setY {B X Y : Nat} {w0 W0 W : World} {xs ys xd yd c1 c2 : Value} {xl yl : List Int} (h : BxMid B X Y w0 W0 xs ys xd yd c1 c2 xl yl W) (hY : Y < B) (hne : X ≠ Y) (v : Value) : BxMid B X Y w0 W0 xs ys xd yd c1 v xl yl (W.setCell ⟨Y, 1, none⟩ v) :=
  ⟨h.x.other (fun e => hne e.symm) v, h.y.set 1 v, own_setLt h.ox hY v, own_setLt h.oy hY v, h.sep, keepx_set h.far v (.inr rfl), keepx_set h.near v (.inr rfl), h.others.trans (KeepsOthers.setCell _ _ _)⟩
theorem BxMid.start {B X Y : Nat} {w0 W : World} {xs ys xd yd : Value} {xl yl : List Int} (h1 : Box W X 41 #[xs, xd]) (h2 : Box W Y 41 #[ys, yd]) (h3 : OwnI W B 2 .i64 xd xl) (h4 : OwnI W B 2 .i64 yd yl) (h5 : Sep xd yd) (h6 : KeepX B X Y w0 W) :
    BxMid B X Y w0 W xs ys xd yd xd yd xl yl W.drew :=
  have hs : Same W W.drew := ⟨1, rfl⟩
  ⟨h1.same hs, h2.same hs, own_same h3 hs, own_same h4 hs, h5, h6.below (hs.below B), (KeepX.refl B X Y W).below (hs.below B), ⟨Nat.le_refl _, fun _ _ h _ => h⟩⟩
end Go.Proofs.Ytjhejpeklppmbaa
