/-
  AXES in another order: ratchetref6.Transpose.
-/
import Derived.Deep.AppendLies
import Derived.StillTailTactics
import Derived.Test.YtipjhdgegfgenaaGreatEV15
set_option linter.unusedVariables false
set_option linter.unusedSimpArgs false
namespace Go.Proofs.YtipjhdgegfgenaaGreat
open Go.RowKit Go.Shelf Go
/-- a list's elements at these places -/
def permN (l ax : List Nat) : List Nat := ax.map fun a => l.getD a 0
theorem permN_succ (l ax : List Nat) (k : Nat) (hk : k < ax.length) (hl : ax[k] < l.length) : ints (permN l (ax.take (k + 1))) = ints (permN l (ax.take k)) ++ [((l[ax[k]] : Nat) : Int)] := by
  rw [List.take_succ_eq_append_getElem hk, permN, permN, List.map_append, ints_app]
  congr 1
  simp [ints, List.getD_eq_getElem?_getD, List.getElem?_eq_getElem hl]
theorem permN_length (l ax : List Nat) : (permN l ax).length = ax.length := by simp [permN]
theorem own_grownV {w w' : World} {B : Nat} {e : TypeId} {s n : Nat} {v : Value} {xs : List Value} {row : Option Nat} (h : w.ownsRow B e s v n xs) (hg : w.grownBy w' row) (hne : ∀ j, v.ownBlock = some j → row ≠ some j) : w'.ownsRow B e s v n xs := by
  refine ⟨h.1, ?_⟩
  rcases h.2 with hn | ⟨g, cap, cur, rfl, hb, hgg, rest⟩
  · exact .inl hn
  · exact .inr ⟨g, cap, cur, rfl, hb, (hg.block g (Array.getElem?_eq_some_iff.1 hgg).1 (fun e => hne g rfl e.symm)).trans hgg, rest⟩
/-- a view in the making: its box at g, its rows behind -/
structure TurnI (w0 : World) (vb : Nat) (cs zs : Array Value) (g na nb : Nat) (off : Int) (p q a b : Value) (xs ys : List Int) (W : World) : Prop where
  kv : Box W vb 81 cs
  kr : Box W (vb + 1) 81 zs
  hvg : vb + 1 < g
  low : Below w0.heap.size w0 W
  hg : w0.heap.size ≤ g
  box : Box W g 81 #[p, q, .int .i64 off]
  ra : W.ownsRow (g + 1) 3 1 a na (xs.map (.int .i64))
  rb : W.ownsRow (g + 1) 3 1 b nb (ys.map (.int .i64))
  ne : ∀ j, a.ownBlock = some j → b.ownBlock ≠ some j
section
variable {w0 W W1 w' : World} {vb : Nat} {cs zs : Array Value} {g na nb : Nat} {off : Int} {p q a b v' : Value} {xs ys : List Int} {x : Int}
theorem TurnI.same (h : TurnI w0 vb cs zs g na nb off p q a b xs ys W) (hs : Same W W1) : TurnI w0 vb cs zs g na nb off p q a b xs ys W1 := ⟨h.kv.same hs, h.kr.same hs, h.hvg, h.low.trans (hs.below _), h.hg, h.box.same hs, own_same h.ra hs, own_same h.rb hs, h.ne⟩
theorem TurnI.next (h : TurnI w0 vb cs zs g na nb off p q a b xs ys W) (hb : Below W.heap.size W W1) : TurnI w0 vb cs zs g na nb off p q a b xs ys W1 := ⟨h.kv.next hb, h.kr.next hb, h.hvg, h.low.trans (hb.mono h.low.size), h.hg, h.box.next hb, own_st_next hb h.ra, own_st_next hb h.rb, h.ne⟩
theorem TurnI.appA (h0 : TurnI w0 vb cs zs g na nb off p q a b xs ys W) (h1 : Below W.heap.size W W1) (hrow : w'.ownsRow (g + 1) 3 1 v' (na + 1) (xs.map (.int .i64) ++ [.int .i64 x])) (hg : W1.grownBy w' a.ownBlock) (hat : v'.ownBlock = a.ownBlock ∨ v'.ownBlock = some W1.heap.size) :
    TurnI w0 vb cs zs g (na + 1) nb off p q v' b (xs ++ [x]) ys w' := by
  have h := h0.next h1
  refine ⟨(hg.block vb h.kv.lt (fun e => by have := (h.ra.lt vb e.symm).1; have := h.hvg; omega)).trans h.kv, (hg.block (vb + 1) h.kr.lt (fun e => by have := (h.ra.lt (vb + 1) e.symm).1; have := h.hvg; omega)).trans h.kr, h.hvg, h.low.grown hg h.low.size (fun k e => by have := (h.ra.lt k e).1; have := h.hg; omega), h.hg, (hg.block g h.box.lt (fun e => by have := (h.ra.lt g e.symm).1; omega)).trans h.box, by rw [List.map_append]; exact hrow, own_grownV h.rb hg (fun j hj e => h.ne j e hj), fun j hj hb => ?_⟩
  rcases hat with e | e
  · rw [e] at hj; exact h.ne j hj hb
  · rw [e] at hj; cases hj
    have := (h0.rb.lt _ hb).2; have := h1.size; omega
theorem TurnI.swap (h : TurnI w0 vb cs zs g na nb off p q a b xs ys W) : W.ownsRow (g + 1) 3 1 b nb (ys.map (.int .i64)) := h.rb
theorem TurnI.appB (h0 : TurnI w0 vb cs zs g na nb off p q a b xs ys W) (h1 : Below W.heap.size W W1) (hrow : w'.ownsRow (g + 1) 3 1 v' (nb + 1) (ys.map (.int .i64) ++ [.int .i64 x])) (hg : W1.grownBy w' b.ownBlock) (hat : v'.ownBlock = b.ownBlock ∨ v'.ownBlock = some W1.heap.size) :
    TurnI w0 vb cs zs g na (nb + 1) off p q a v' xs (ys ++ [x]) w' := by
  have h := h0.next h1
  refine ⟨(hg.block vb h.kv.lt (fun e => by have := (h.rb.lt vb e.symm).1; have := h.hvg; omega)).trans h.kv, (hg.block (vb + 1) h.kr.lt (fun e => by have := (h.rb.lt (vb + 1) e.symm).1; have := h.hvg; omega)).trans h.kr, h.hvg, h.low.grown hg h.low.size (fun k e => by have := (h.rb.lt k e).1; have := h.hg; omega), h.hg, (hg.block g h.box.lt (fun e => by have := (h.rb.lt g e.symm).1; omega)).trans h.box, own_grownV h.ra hg (fun j hj e => h.ne j hj e), by rw [List.map_append]; exact hrow, fun j hj hb => ?_⟩
  rcases hat with e | e
  · rw [e] at hb; exact h.ne j hj hb
  · rw [e] at hb; cases hb
    have := (h0.ra.lt _ hj).2; have := h1.size; omega
theorem TurnI.set0 (h : TurnI w0 vb cs zs g na nb off p q a b xs ys W) (u : Value) : TurnI w0 vb cs zs g na nb off u q a b xs ys (W.setCell ⟨g, 0, none⟩ u) :=
  ⟨h.kv.other (by show g ≠ vb; have := h.hvg; omega) u, h.kr.other (by show g ≠ vb + 1; have := h.hvg; omega) u, h.hvg, below_st_set h.low h.hg, h.hg, h.box.set 0 u, own_st_set h.ra (fun j hj e => by have := (h.ra.lt j hj).1; omega), own_st_set h.rb (fun j hj e => by have := (h.rb.lt j hj).1; omega), h.ne⟩
theorem TurnI.set1 (h : TurnI w0 vb cs zs g na nb off p q a b xs ys W) (u : Value) : TurnI w0 vb cs zs g na nb off p u a b xs ys (W.setCell ⟨g, 1, none⟩ u) :=
  ⟨h.kv.other (by show g ≠ vb; have := h.hvg; omega) u, h.kr.other (by show g ≠ vb + 1; have := h.hvg; omega) u, h.hvg, below_st_set h.low h.hg, h.hg, h.box.set 1 u, own_st_set h.ra (fun j hj e => by have := (h.ra.lt j hj).1; omega), own_st_set h.rb (fun j hj e => by have := (h.rb.lt j hj).1; omega), h.ne⟩
end
/-- one number more for a row of one's own, at a step of a region that draws its order -/
theorem turn_app {ops : Array Oper} {o : Oper} {a : Act} {w : World} {K' : Act → World → Prop} {Q : Exit → Act → World → Prop} {E : Prop} (hgd : o.guard = none) (s x : Operand)
    (ho : o.op = .call { callee := .builtin .append, args := #[s, x], argTypes := #[23, 23] }) (B n : Nat) (xs : List Int) (v : Value) (hs : a.eval s = v) (hown : w.ownsRow B 3 1 v n (xs.map (.int .i64))) (h0 : Nat) (u : Int)
    (hx : a.eval x = .slice (some ⟨h0, 0, none⟩) 1 1) (hc : w.cell? ⟨h0, 0, none⟩ = some (.int .i64 u)) (hn : n ≤ 100000) (hB : B ≤ w.heap.size)
    (h : ∀ o' c' w', w'.ownsRow B 3 1 (.slice o' (n + 1) c') (n + 1) (xs.map (.int .i64) ++ [.int .i64 u]) → w.grownBy w' v.ownBlock → ((Value.slice o' (n + 1) c').ownBlock = v.ownBlock ∨ (Value.slice o' (n + 1) c').ownBlock = some w.heap.size) → K' (a.put o.dst (.slice o' (n + 1) c')) w') :
    if Region.wanted o (yielded ops a.tmps) = true then Oper.wp Tryz.prog o a w K' Q else E := by
  obtain ⟨i0, hi, hz0, hz1, hz2⟩ := info_parts info_int
  refine step_append_own hgd s x 23 ho B 3 i0 (.int .i64 0) 1 8 Tryz.underlying23 hi hz0 hz1 hz2 rfl (by decide) v n _ hs hown ⟨h0, 0, none⟩ 1 1 [.int .i64 u] hx rfl ?_ (by simp [Value.oneCell']) (by unfold maxLen; omega) (by omega) hB ?_
  · intro j y hj
    cases j with
    | zero => simp at hj; subst hj; simpa [Addr.add] using hc
    | succ j => simp at hj
  · intro v' w' h1 h2 h3
    obtain ⟨o', c', rfl⟩ := own_slice h1
    exact h o' c' w' h1 h2 h3
set_option maxRecDepth 100000 in
set_option maxHeartbeats 8000000 in
theorem ref6Transpose_any (va vb vx : Value) (sh st ax : List Nat) (off : Nat) (w : World) (ha : Rd w .i64 va (ints sh)) (hb : Rd w .i64 vb (ints st)) (hx : Rd w .i64 vx (ints ax)) (hl : st.length = sh.length) (hax : ∀ x ∈ ax, x < sh.length) (hlen : ax.length ≤ 1000) (hsl : sh.length ≤ 1000) :
    Calls Tryz.prog 90 #[.agg #[va, vb, .int .i64 off], vx] w (ViewOut w (ints (permN sh ax)) (ints (permN st ax)) off) := by
  obtain ⟨i0, hi, hz0, hz1, hz2⟩ := info_parts info_int
  obtain ⟨oa, ca, rfl⟩ := rd_slice ha
  obtain ⟨ob, cb, rfl⟩ := rd_slice hb
  obtain ⟨ox, cx, rfl⟩ := rd_slice hx
  have hl2 : (ints st).length = (ints sh).length := by rw [ints_length, ints_length, hl]
  rw [hl2] at hb ⊢
  obtain ⟨m, hm⟩ : ∃ m, m = (ints sh).length := ⟨_, rfl⟩
  obtain ⟨n, hn⟩ : ∃ n, n = (ints ax).length := ⟨_, rfl⟩
  rw [← hm] at ha hb ⊢
  rw [← hn] at hx ⊢
  have HR := Lib.hid (And.intro ha (And.intro hb hx))
  have HL := Lib.hid (And.intro (show m = sh.length by rw [hm, ints_length]) (And.intro (show n = ax.length by rw [hn, ints_length]) (And.intro hl hax)))
  have hn3 : n ≤ 1000 := by rw [HL.out.2.1]; exact hlen
  have hm3 : m ≤ 1000 := by rw [HL.out.1]; exact hsl
  obtain ⟨W, hW⟩ : ∃ W, W = ((w.alloc (.cells #[.slice oa m ca, .slice ob m cb, .int .i64 off] 81)).alloc (.cells #[.slice none 0 0, .slice none 0 0, .int .i64 0] 81)).alloc (.cells #[.slice none 0 0, .slice none 0 0, .int .i64 off] 81) := ⟨_, rfl⟩
  have HX := Lib.hid (three_boxV w _ _ _ _ _ _ hW)
  have HW := Lib.hid hW
  clear ha hb hx hl hax hl2 hm hn hW hlen hsl
  go_enter Tryz.func90, Tryz.ntmps90
  go_wp2
  rw [← HW.out]
  go_loopg [6] n (fun gh i wr => ∃ (k : Nat) (a b : Value), gh = n - k ∧ k ≤ n ∧ i = .int .i64 k ∧ Hid (TurnI w w.heap.size #[.slice oa m ca, .slice ob m cb, .int .i64 off] #[.slice none 0 0, .slice none 0 0, .int .i64 0] (w.heap.size + 2) k k off a b a b (ints (permN sh (ax.take k))) (ints (permN st (ax.take k))) wr))
  case atStart => exact ⟨0, _, _, rfl, Nat.zero_le _, rfl, Lib.hid ⟨HX.out.1, HX.out.2.1, by omega, HX.out.2.2.2, by omega, HX.out.2.2.1, World.ownsRow_nil _ _ _ _, World.ownsRow_nil _ _ _ _, fun j hj => by cases hj⟩⟩
  case round =>
    obtain ⟨k, a, b, rfl, hk, rfl, HI⟩ := hrel
    obtain ⟨w1, rfl⟩ : ∃ w1, w1 = wr := ⟨_, rfl⟩
    obtain ⟨op, cp, hap⟩ := own_slice HI.out.ra
    obtain ⟨oq, cq, hbq⟩ := own_slice HI.out.rb
    subst hap
    subst hbq
    by_cases hlt : k < n
    · have hk1 : k < ax.length := by rw [← HL.out.2.1]; exact hlt
      have hk2 : ax[k] < sh.length := HL.out.2.2.2 _ (List.getElem_mem hk1)
      have hk3 : ax[k] < st.length := by rw [HL.out.2.2.1]; exact hk2
      obtain ⟨b1, f1, hoa, h1⟩ := HR.out.1.cell ax[k] (by rw [ints_length]; exact hk2)
      obtain ⟨b2, f2, hob, h2⟩ := HR.out.2.1.cell ax[k] (by rw [ints_length]; exact hk3)
      obtain ⟨b3, f3, hox, h3⟩ := HR.out.2.2.cell k (by rw [ints_length]; exact hk1)
      subst hoa
      subst hob
      subst hox
      rw [ints_get _ _ hk2] at h1
      rw [ints_get _ _ hk3] at h2
      rw [ints_get _ _ hk1] at h3
      have e1 := (HI.out.low.cell (p := ⟨b1, f1 + ax[k], none⟩) (cell_lt h1)).trans h1
      have e2 := (HI.out.low.cell (p := ⟨b2, f2 + ax[k], none⟩) (cell_lt h2)).trans h2
      have e3 := (HI.out.low.cell (p := ⟨b3, f3 + k, none⟩) (cell_lt h3)).trans h3
      have HS1 := Lib.hid (permN_succ sh ax k hk1 hk2)
      have HS2 := Lib.hid (permN_succ st ax k hk1 hk3)
      have hy : ax[k] < m := by rw [HL.out.1]; exact hk2
      obtain ⟨y, hyy⟩ : ∃ y, y = ax[k] := ⟨_, rfl⟩
      obtain ⟨z1, hz1'⟩ : ∃ z, z = sh[ax[k]] := ⟨_, rfl⟩
      obtain ⟨z2, hz2'⟩ : ∃ z, z = st[ax[k]] := ⟨_, rfl⟩
      rw [← hz1'] at e1 HS1
      rw [← hz2'] at e2 HS2
      rw [← hyy] at e1 e2 e3 hy
      rw [← hz2', ← hyy] at h2
      rw [← hyy] at h3
      have HLT := Lib.hid (And.intro (cell_lt h2) (And.intro h2 (And.intro (cell_lt h3) h3)))
      clear h1 h2 h3 hk1 hk2 hk3 hyy hz1' hz2'
      have g0 : w1.cell? ⟨w.heap.size + 2, 0, none⟩ = some (.slice op k cp) := HI.out.box.cell 0 rfl
      have v0 : w1.cell? ⟨w.heap.size, 0, none⟩ = some (.slice (some ⟨b1, f1, none⟩) m ca) := HI.out.kv.cell 0 rfl
      have v1 : w1.cell? ⟨w.heap.size, 1, none⟩ = some (.slice (some ⟨b2, f2, none⟩) m cb) := HI.out.kv.cell 1 rfl
      have hgl : w.heap.size + 1 + 1 < w1.heap.size := HI.out.box.lt
      go_upto_region 5 with fail
      go_cut [] (fun wx => ∃ o6 c6, TurnI w w.heap.size #[.slice (some ⟨b1, f1, none⟩) m ca, .slice (some ⟨b2, f2, none⟩) m cb, .int .i64 off] #[.slice none 0 0, .slice none 0 0, .int .i64 0] (w.heap.size + 2) (k + 1) k off (.slice o6 (k + 1) c6) (.slice oq k cq) (.slice o6 (k + 1) c6) (.slice oq k cq) (ints (permN sh (ax.take k)) ++ [(z1 : Int)]) (ints (permN st (ax.take k))) wx)
      case first =>
        go_region_law (refine turn_app (by rfl) (.tmp 17) (.tmp 26) (by rfl) (w.heap.size + 2 + 1) k (ints (permN sh (ax.take k))) (.slice op k cp) ?_ (by repeat (first | exact HI.out.ra | refine own_st_alloc ?_ | refine own_st_drew ?_)) w1.heap.size (z1 : Nat) ?_ ((Box.new w1 3 #[.int .i64 (z1 : Nat)]).cell 0 rfl) ?_ ?_ ?_; rfl; rfl; omega; (have := HI.out.box.lt; simp; omega); intro o6 c6 w6 hr6 hg6 ha6; have HJ := Lib.hid (HI.out.appA (Below.drew ((Below.refl _ _).alloc (Nat.le_refl _) (.cells #[.int .i64 (z1 : Nat)] 3))) hr6 hg6 ha6); have j0 : w6.cell? ⟨w.heap.size + 2, 0, none⟩ = some (.slice op k cp) := HJ.out.box.cell 0 rfl; have j1 := HJ.out.box.free 0; clear hr6 hg6 ha6)
        all_goals
          go_wp2_with fail
          go_meet
          exact ⟨_, _, HJ.out.set0 _⟩
      case rest =>
        obtain ⟨o6, c6, hc⟩ := hcut
        obtain ⟨w2, rfl⟩ : ∃ w2, w2 = wc := ⟨_, rfl⟩
        have HI2 := Lib.hid hc
        clear hc e1 e2 e3 g0 v0 v1 hgl
        have e2 := (HI2.out.low.cell (p := ⟨b2, f2 + y, none⟩) HLT.out.1).trans HLT.out.2.1
        have e3 := (HI2.out.low.cell (p := ⟨b3, f3 + k, none⟩) HLT.out.2.2.1).trans HLT.out.2.2.2
        have g1 : w2.cell? ⟨w.heap.size + 2, 1, none⟩ = some (.slice oq k cq) := HI2.out.box.cell 1 rfl
        have v1 : w2.cell? ⟨w.heap.size, 1, none⟩ = some (.slice (some ⟨b2, f2, none⟩) m cb) := HI2.out.kv.cell 1 rfl
        have hgl : w.heap.size + 1 + 1 < w2.heap.size := HI2.out.box.lt
        go_upto_region 6 with fail
        go_region_law (refine turn_app (by rfl) (.tmp 30) (.tmp 39) (by rfl) (w.heap.size + 2 + 1) k (ints (permN st (ax.take k))) (.slice oq k cq) ?_ (by repeat (first | exact HI2.out.rb | refine own_st_alloc ?_ | refine own_st_drew ?_)) w2.heap.size (z2 : Nat) ?_ ((Box.new w2 3 #[.int .i64 (z2 : Nat)]).cell 0 rfl) ?_ ?_ ?_; rfl; rfl; omega; (have := HI2.out.box.lt; simp; omega); intro o8 c8 w6 hr6 hg6 ha6; have HJ := Lib.hid (HI2.out.appB (Below.drew ((Below.refl _ _).alloc (Nat.le_refl _) (.cells #[.int .i64 (z2 : Nat)] 3))) hr6 hg6 ha6); have j0 : w6.cell? ⟨w.heap.size + 2, 1, none⟩ = some (.slice oq k cq) := HJ.out.box.cell 1 rfl; have j1 := HJ.out.box.free 1; clear hr6 hg6 ha6)
        all_goals
          have HI3 := Lib.hid (HJ.out.set1 (.slice o8 (k + 1) c8))
          clear HJ e2 e3 g1 v1
          go_wp2_with fail
          go_roundg (n - (k + 1))
          case measure => omega
          case rel => exact ⟨k + 1, _, _, rfl, by omega, by go_num, Lib.hid (by have := HI3.out; rw [← HS1.out, ← HS2.out] at this; exact this)⟩
    · obtain rfl : k = n := by omega
      have HF := Lib.hid (show ax.take k = ax by rw [HL.out.2.1, List.take_length])
      have g0 : w1.cell? ⟨w.heap.size + 2, 0, none⟩ = some (.slice op k cp) := HI.out.box.cell 0 rfl
      have g1 : w1.cell? ⟨w.heap.size + 2, 1, none⟩ = some (.slice oq k cq) := HI.out.box.cell 1 rfl
      have g2 : w1.cell? ⟨w.heap.size + 2, 2, none⟩ = some (.int .i64 off) := HI.out.box.cell 2 rfl
      have r0 : w1.cell? ⟨w.heap.size + 1, 0, none⟩ = some (.slice none 0 0) := HI.out.kr.cell 0 rfl
      have r1 : w1.cell? ⟨w.heap.size + 1, 1, none⟩ = some (.slice none 0 0) := HI.out.kr.cell 1 rfl
      have r2 : w1.cell? ⟨w.heap.size + 1, 2, none⟩ = some (.int .i64 0) := HI.out.kr.cell 2 rfl
      have q0 := HI.out.kr.free 0
      have q1 := HI.out.kr.free 1
      have q2 := HI.out.kr.free 2
      go_wp2_with fail
      have hb3 := (((HI.out.kr.put 0 (.slice op k cp)).put 1 (.slice oq k cq)).put 2 (.int .i64 off))
      have own3 : ∀ {v : Value} {j : Nat} {l : List Value} (u0 u1 u2 : Value), w1.ownsRow (w.heap.size + 2 + 1) 3 1 v j l →
          (((w1.setCell ⟨w.heap.size + 1, 0, none⟩ u0).setCell ⟨w.heap.size + 1, 1, none⟩ u1).setCell ⟨w.heap.size + 1, 2, none⟩ u2).ownsRow (w.heap.size + 2 + 1) 3 1 v j l := fun u0 u1 u2 h =>
        own_st_set (own_st_set (own_st_set h (fun j hj => by have := (h.lt j hj).1; omega)) (fun j hj => by have := (h.lt j hj).1; omega)) (fun j hj => by have := (h.lt j hj).1; omega)
      have hbel := below_st_set (j := 2) (u := (Value.int .i64 off)) (below_st_set (j := 1) (u := (.slice oq k cq)) (below_st_set (j := 0) (u := (.slice op k cp)) HI.out.low (Nat.le_succ w.heap.size)) (Nat.le_succ w.heap.size)) (Nat.le_succ w.heap.size)
      have hra := own_mono (own3 (.slice op k cp) (.slice oq k cq) (.int .i64 off) HI.out.ra) (show w.heap.size ≤ w.heap.size + 2 + 1 by omega)
      have hrb := own_mono (own3 (.slice op k cp) (.slice oq k cq) (.int .i64 off) HI.out.rb) (show w.heap.size ≤ w.heap.size + 2 + 1 by omega)
      rw [HF.out] at hra hrb
      refine bodyPost_ret (v := .agg #[.slice op k cp, .slice oq k cq, .int .i64 off]) (results_cell_row rfl _ _ (w.heap.size + 1) 81 _ (0, 0) _ rfl hb3 Tryz.underlying81 rfl (by kernel_rfl)) rfl ⟨hbel, _, _, rfl, ?_, ?_⟩
      · rw [OwnI, ints_length, permN_length, ← HL.out.2.1]; exact hra
      · rw [OwnI, ints_length, permN_length, ← HL.out.2.1]; exact hrb
end Go.Proofs.YtipjhdgegfgenaaGreat
