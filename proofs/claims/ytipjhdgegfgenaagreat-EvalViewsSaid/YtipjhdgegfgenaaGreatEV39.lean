/-
  IS A VALUE TOO LARGE: ratchetlaw18.large, only that it answers.
-/
import Derived.Test.YtipjhdgegfgenaaGreatEV37
import Derived.Test.YtipjhdgegfgenaaGreatEV25
import Derived.Test.YtipjhdgegfgenaaGreatEV38
set_option linter.unusedVariables false
set_option linter.unusedSimpArgs false
namespace Go.Proofs.YtipjhdgegfgenaaGreat
open Go.RowKit Go.Shelf Go
def lnth (ls : List (List Int)) (i : Nat) : List Int := ls.getD i []
/-- the slice value v reads as these lists, each within its own capacity -/
def ListsC (w : World) (v : Value) (ls : List (List Int)) : Prop :=
  ∃ o cap, v = .slice o ls.length cap ∧ ∀ i, i < ls.length → ∃ b off p m k, o = some ⟨b, off, none⟩ ∧ w.cell? ⟨b, off + i, none⟩ = some (.slice p m k) ∧ Rd w .i64 (.slice p m k) (lnth ls i) ∧ m ≤ k
theorem ListsC.below {w w' : World} {v : Value} {ls : List (List Int)} (h : ListsC w v ls) (hb : Below w.heap.size w w') : ListsC w' v ls := by
  obtain ⟨o, cap, rfl, hc⟩ := h
  refine ⟨o, cap, rfl, fun i hi => ?_⟩
  obtain ⟨b, off, p, m, k, ho, h1, h2, h3⟩ := hc i hi
  exact ⟨b, off, p, m, k, ho, (hb.cell (p := ⟨b, off + i, none⟩) (cell_lt h1)).trans h1, h2.below hb (Nat.le_refl _), h3⟩
theorem ListsC.at {w : World} {o : Option Addr} {n cap : Nat} {ls : List (List Int)} (h : ListsC w (.slice o n cap) ls) (i : Nat) (hi : i < n) : ∃ b off p m k, o = some ⟨b, off, none⟩ ∧ w.cell? ⟨b, off + i, none⟩ = some (.slice p m k) ∧ Rd w .i64 (.slice p m k) (lnth ls i) ∧ m ≤ k := by
  obtain ⟨o', cap', he, hc⟩ := h
  injection he with e1 e2 e3
  subst e1
  exact hc i (by omega)
theorem ListsC.len {w : World} {o : Option Addr} {n cap : Nat} {ls : List (List Int)} (h : ListsC w (.slice o n cap) ls) : n = ls.length := by
  obtain ⟨o', cap', he, hc⟩ := h
  injection he
/-- where all of them are shapes -/
theorem ListsC.sh {w : World} {b off n cap : Nat} {ls : List (List Int)} (h : ListsC w (.slice (some ⟨b, off, none⟩) n cap) ls) (i : Nat) (hi : i < n) (hg : shapeB (lnth ls i) = true) : ∃ p m k x, lnth ls i = ints x ∧ ShAt w b (off + i) p m k x := by
  obtain ⟨b', off', p, m, k, he, h1, h2, h3⟩ := h.at i hi
  cases he
  have hx := (ints_of _ (shape_nonneg hg)).symm
  exact ⟨p, m, k, _, hx, h1, hx ▸ h2, h3, hx ▸ hg⟩
theorem argsN_in {op : Int} {n : Nat} (h : argsN op = (n : Int)) (h0 : 0 < n) : 3 ≤ op ∧ op ≤ 33 := by
  unfold argsN at h
  split at h
  · omega
  · split at h
    · omega
    · split at h <;> omega
theorem argsN_two {op : Int} {n : Nat} (h : argsN op = (n : Int)) (h0 : 0 < n) (ho : op = 3 ∨ op = 4 ∨ op = 5 ∨ op = 6 ∨ op = 22 ∨ op = 23 ∨ op = 32 ∨ op = 33) : 1 < n := by
  unfold argsN at h
  rw [if_neg (by omega), if_pos ho] at h
  omega
set_option maxRecDepth 100000 in
theorem shape18_any (op word : Int) (oa oi o1 o2 o3 o4 p0 : Option Addr) (na ni n1 n2 n3 n4 ca ci c1 c2 c3 c4 bl fl nl cl m0 k0 : Nat) (il : List Int) (x0 : List Nat) (w : World) (hi : Rd w .i64 (.slice oi ni ci) il) (hil : il.length ≤ 1000) (h0 : ShAt w bl fl p0 m0 k0 x0)
    (h1 : 1 < nl → ∃ p1 m1 k1 x1, ShAt w bl (fl + 1) p1 m1 k1 x1) (hnl : 0 < nl) (hna : argsN op = (nl : Int)) (hp : op ≠ 23 ∧ op ≠ 24 ∧ op ≠ 25) (h21 : op = 21 → il.length = 3) :
    Calls Tryz.prog 27 #[.agg #[.int .i64 op, .slice oa na ca, .slice oi ni ci, .int .i64 word, .slice o1 n1 c1, .slice o2 n2 c2, .slice o3 n3 c3, .slice o4 n4 c4], .slice (some ⟨bl, fl, none⟩) nl cl] w (ShOut w 1000) := by
  have hr := argsN_in hna hnl
  by_cases t : op = 3 ∨ op = 4 ∨ op = 5 ∨ op = 6
  · have h2 := argsN_two hna hnl (by omega)
    obtain ⟨p1, m1, k1, x1, h1⟩ := h1 h2
    exact shape_two op word oa oi o1 o2 o3 o4 p0 p1 na ni n1 n2 n3 n4 ca ci c1 c2 c3 c4 bl fl nl cl m0 k0 m1 k1 il x0 x1 w hi hil h0 h1 h2 t
  by_cases t2 : op = 16 ∨ op = 17 ∨ op = 18
  · exact shape_fold op word oa oi o1 o2 o3 o4 p0 na ni n1 n2 n3 n4 ca ci c1 c2 c3 c4 bl fl nl cl m0 k0 il x0 w hi hil h0 hnl t2
  by_cases t3 : op = 19
  · subst t3; exact shape_see19 word oa oi o1 o2 o3 o4 p0 na ni n1 n2 n3 n4 ca ci c1 c2 c3 c4 bl fl nl cl m0 k0 il x0 w hi hil h0 hnl
  by_cases t4 : op = 20
  · subst t4; exact shape_see20 word oa oi o1 o2 o3 o4 p0 na ni n1 n2 n3 n4 ca ci c1 c2 c3 c4 bl fl nl cl m0 k0 il x0 w hi hil h0 hnl
  by_cases t5 : op = 21
  · subst t5; exact shape_see21 word oa oi o1 o2 o3 o4 p0 na ni n1 n2 n3 n4 ca ci c1 c2 c3 c4 bl fl nl cl m0 k0 il x0 w hi hil h0 hnl (h21 rfl)
  by_cases t6 : op = 22
  · have h2 := argsN_two hna hnl (by omega)
    obtain ⟨p1, m1, k1, x1, h1⟩ := h1 h2
    exact shape_mul op word oa oi o1 o2 o3 o4 p0 p1 na ni n1 n2 n3 n4 ca ci c1 c2 c3 c4 bl fl nl cl m0 k0 m1 k1 il x0 x1 w hi hil h0 h1 h2 t6
  by_cases t7 : op = 26
  · subst t7; exact shape_rows26 word oa oi o1 o2 o3 o4 p0 na ni n1 n2 n3 n4 ca ci c1 c2 c3 c4 bl fl nl cl m0 k0 il x0 w hi hil h0 hnl
  by_cases t8 : op = 27
  · subst t8; exact shape_rows27 word oa oi o1 o2 o3 o4 p0 na ni n1 n2 n3 n4 ca ci c1 c2 c3 c4 bl fl nl cl m0 k0 il x0 w hi hil h0 hnl
  by_cases t9 : op = 28
  · subst t9; exact shape_rows28 word oa oi o1 o2 o3 o4 p0 na ni n1 n2 n3 n4 ca ci c1 c2 c3 c4 bl fl nl cl m0 k0 il x0 w hi hil h0 hnl
  by_cases t10 : op = 29
  · exact shape_embed op word oa oi o1 o2 o3 o4 p0 na ni n1 n2 n3 n4 ca ci c1 c2 c3 c4 bl fl nl cl m0 k0 il x0 w hi hil h0 hnl t10
  by_cases t11 : op = 30
  · subst t11; exact shape_drop word oa oi o1 o2 o3 o4 p0 na ni n1 n2 n3 n4 ca ci c1 c2 c3 c4 bl fl nl cl m0 k0 il x0 w hi hil h0 hnl
  by_cases t12 : op = 31
  · exact shape_xent op word oa oi o1 o2 o3 o4 p0 na ni n1 n2 n3 n4 ca ci c1 c2 c3 c4 bl fl nl cl m0 k0 il x0 w hi hil h0 hnl t12
  by_cases t13 : op = 32
  · subst t13
    have h2 := argsN_two hna hnl (by omega)
    obtain ⟨p1, m1, k1, x1, h1⟩ := h1 h2
    exact shape_pair32 word oa oi o1 o2 o3 o4 p0 p1 na ni n1 n2 n3 n4 ca ci c1 c2 c3 c4 bl fl nl cl m0 k0 m1 k1 il x0 x1 w hi hil h0 h1 h2
  by_cases t14 : op = 33
  · subst t14
    have h2 := argsN_two hna hnl (by omega)
    obtain ⟨p1, m1, k1, x1, h1⟩ := h1 h2
    exact shape_pair33 word oa oi o1 o2 o3 o4 p0 p1 na ni n1 n2 n3 n4 ca ci c1 c2 c3 c4 bl fl nl cl m0 k0 m1 k1 il x0 x1 w hi hil h0 h1 h2
  exact shape_same op word oa oi o1 o2 o3 o4 p0 na ni n1 n2 n3 n4 ca ci c1 c2 c3 c4 bl fl nl cl m0 k0 il x0 w hi hil h0 hnl (by omega)
theorem yes {w w' : World} (b : Bool) (h : Below w.heap.size w w') : HeavyOut True (.returned (.bool b)) ∧ Below w.heap.size w w' := ⟨⟨b, rfl, fun _ => trivial⟩, h⟩
theorem rd_drop2 {w : World} {K : IntKind} {b off n cap : Nat} {xs : List Int} (h : Rd w K (.slice (some ⟨b, off, none⟩) n cap) xs) (hn : 2 ≤ n) : Rd w K (.slice (some ⟨b, off + 2, none⟩) (n - 2) (cap - 2)) (xs.drop 2) := by
  obtain ⟨o', cap', he, hc⟩ := h
  injection he with e1 e2 e3
  subst e1 e3
  refine ⟨_, _, by rw [List.length_drop, ← e2], fun j hj => ?_⟩
  rw [List.length_drop] at hj
  obtain ⟨b', off', hb, h1⟩ := hc (2 + j) (by omega)
  cases hb
  refine ⟨b, off + 2, rfl, ?_⟩
  rw [nth_eq _ _ (show j < (xs.drop 2).length by rw [List.length_drop]; omega), List.getElem_drop, ← nth_eq _ _ (show 2 + j < xs.length by omega)]
  rw [Nat.add_assoc]; exact h1
theorem conv_lens {w : World} {o1 o2 o3 o4 : Option Addr} {n1 n2 n3 n4 c1 c2 c3 c4 : Nat} {cv : ConvD} (h : ConvRd w (.slice o1 n1 c1) (.slice o2 n2 c2) (.slice o3 n3 c3) (.slice o4 n4 c4) cv) : n1 = cv.ker.length ∧ n2 = cv.str.length ∧ n3 = cv.pad.length ∧ n4 = cv.dil.length := by
  refine ⟨?_, ?_, ?_, ?_⟩
  · obtain ⟨o, cap, he⟩ := rd_slice h.ker; injection he
  · obtain ⟨o, cap, he⟩ := rd_slice h.str; injection he
  · obtain ⟨o, cap, he⟩ := rd_slice h.pad; injection he
  · obtain ⟨o, cap, he⟩ := rd_slice h.dil; injection he
theorem conv_parts {c : ConvD} {pool : Bool} (h : convB c pool = true) : 1 ≤ c.str.length ∧ c.pad.length = c.str.length ∧ c.dil.length = c.str.length ∧ (pool = true → c.ker.length = c.str.length) ∧ c.str.all (betw 1 4096) = true ∧ c.dil.all (betw 1 4096) = true ∧ c.pad.all (betw 0 4096) = true ∧ c.ker.all (betw 1 4096) = true ∧ c.str.length ≤ 2 := by
  simp only [convB, Bool.and_eq_true, decide_eq_true_eq] at h
  obtain ⟨⟨h1, h2, h3, h4, h5⟩, h6, h7, h8, h9⟩ := h
  exact ⟨h1, h3, h4, fun hp => by rw [if_pos hp] at h5; exact h5, h6, h7, h8, h9, h2⟩
theorem conv_lim {w : World} {o1 o2 o3 o4 : Option Addr} {n1 n2 n3 n4 c1 c2 c3 c4 : Nat} {cv : ConvD} (h : ConvRd w (.slice o1 n1 c1) (.slice o2 n2 c2) (.slice o3 n3 c3) (.slice o4 n4 c4) cv) (hn : n1 ≤ 6 ∧ n2 ≤ 6 ∧ n3 ≤ 6 ∧ n4 ≤ 6) : cv.Lim := by
  have l1 : n1 = cv.ker.length := by obtain ⟨o, cap, he⟩ := rd_slice h.ker; injection he
  have l2 : n2 = cv.str.length := by obtain ⟨o, cap, he⟩ := rd_slice h.str; injection he
  have l3 : n3 = cv.pad.length := by obtain ⟨o, cap, he⟩ := rd_slice h.pad; injection he
  have l4 : n4 = cv.dil.length := by obtain ⟨o, cap, he⟩ := rd_slice h.dil; injection he
  exact ⟨by omega, by omega, by omega, by omega⟩
def SpatB (w0 : World) (n : Nat) (e : Ending) (w' : World) : Prop := ∃ v ys b, e = .returned (.tuple #[v, .bool b]) ∧ OwnI w' w0.heap.size 3 .i64 v ys ∧ (if b then ys.length = n else ys.length = 0) ∧ Below w0.heap.size w0 w'
theorem SpatSome.any {w0 w' : World} {n : Nat} {e : Ending} (h : SpatSome w0 n e w') : SpatB w0 n e w' := by
  obtain ⟨h1, rfl | ⟨v, ys, rfl, h2, h3⟩⟩ := h
  · exact ⟨_, [], false, rfl, World.ownsRow_nil _ _ _ _, rfl, h1⟩
  · exact ⟨v, ys, true, rfl, h2, h3, h1⟩
theorem keep6L {w2 W : World} {a0 a1 a2 a3 a4 a5 : Addr} {v0 v1 v2 v3 v4 v5 : Value} (hc : w2.cell? a0 = some v0 ∧ w2.cell? a1 = some v1 ∧ w2.cell? a2 = some v2 ∧ w2.cell? a3 = some v3 ∧ w2.cell? a4 = some v4 ∧ w2.cell? a5 = some v5) (h : Below w2.heap.size w2 W) : W.cell? a0 = some v0 ∧ W.cell? a1 = some v1 ∧ W.cell? a2 = some v2 ∧ W.cell? a3 = some v3 ∧ W.cell? a4 = some v4 ∧ W.cell? a5 = some v5 :=
  ⟨(h.cell (World.block_lt_of_cell? w2 a0 hc.1)).trans hc.1, (h.cell (World.block_lt_of_cell? w2 a1 hc.2.1)).trans hc.2.1, (h.cell (World.block_lt_of_cell? w2 a2 hc.2.2.1)).trans hc.2.2.1, (h.cell (World.block_lt_of_cell? w2 a3 hc.2.2.2.1)).trans hc.2.2.2.1, (h.cell (World.block_lt_of_cell? w2 a4 hc.2.2.2.2.1)).trans hc.2.2.2.2.1, (h.cell (World.block_lt_of_cell? w2 a5 hc.2.2.2.2.2)).trans hc.2.2.2.2.2⟩
theorem inDim_shape {xs : List Int} (h : shapeB xs = true) : inDim 1 xs := fun x hx => by
  have := shape_all h
  simp only [List.all_eq_true, dimB, Bool.and_eq_true, decide_eq_true_eq] at this
  exact this x hx
theorem inDim_betw {xs : List Int} {lo : Int} (h : xs.all (betw lo 4096) = true) : inDim lo xs := fun x hx => by
  simp only [List.all_eq_true, betw, Bool.and_eq_true, decide_eq_true_eq] at h
  exact h x hx
set_option maxRecDepth 1000000 in
set_option maxHeartbeats 16000000 in
theorem large_plain (op word : Int) (oa oi o1 o2 o3 o4 ol : Option Addr) (na ni n1 n2 n3 n4 ca ci c1 c2 c3 c4 nl cl : Nat) (al il : List Int) (cv : ConvD) (ls : List (List Int)) (w : World) (ha : Rd w .i64 (.slice oa na ca) al) (hi : Rd w .i64 (.slice oi ni ci) il) (hal : al.length ≤ 1000) (hil : il.length ≤ 1000)
    (hcv : ConvRd w (.slice o1 n1 c1) (.slice o2 n2 c2) (.slice o3 n3 c3) (.slice o4 n4 c4) cv) (hcn : n1 ≤ 6 ∧ n2 ≤ 6 ∧ n3 ≤ 6 ∧ n4 ≤ 6) (hls : ListsC w (.slice ol nl cl) ls) (hnl : nl ≤ 1000) (hlen : ∀ i, i < nl → (lnth ls i).length ≤ 1000000) (hop : op ≠ 23 ∧ op ≠ 24 ∧ op ≠ 25) :
    Calls Tryz.prog 15 #[.agg #[.int .i64 op, .slice oa na ca, .slice oi ni ci, .int .i64 word, .slice o1 n1 c1, .slice o2 n2 c2, .slice o3 n3 c3, .slice o4 n4 c4], .slice ol nl cl] w (fun e w' => HeavyOut True e ∧ Below w.heap.size w w') := by
  have HI := Lib.hid (And.intro ha (And.intro hi (And.intro hal hil)))
  have HCV := Lib.hid hcv
  have HLS := Lib.hid hls
  have HLEN := Lib.hid hlen
  have HNA := Lib.hid (show na = al.length by obtain ⟨o, cap, he⟩ := rd_slice ha; injection he)
  have hna : na ≤ 1000 := by have := HNA.out; omega
  have hni : ni ≤ 1000 := by have : ni = il.length := (by obtain ⟨o, cap, he⟩ := rd_slice hi; injection he); omega
  have HNI := Lib.hid (show ni = il.length by obtain ⟨o, cap, he⟩ := rd_slice hi; injection he)
  have HCN := Lib.hid hcn
  have HNL := Lib.hid hls.len
  obtain ⟨W, hW⟩ : ∃ W, W = w.alloc (.cells #[.int .i64 op, .slice oa na ca, .slice oi ni ci, .int .i64 word, .slice o1 n1 c1, .slice o2 n2 c2, .slice o3 n3 c3, .slice o4 n4 c4] 27) := ⟨_, rfl⟩
  have hB : Below w.heap.size w W := by rw [hW]; exact (Below.refl _ _).alloc (Nat.le_refl _) _
  have hbx : Box W w.heap.size 27 #[.int .i64 op, .slice oa na ca, .slice oi ni ci, .int .i64 word, .slice o1 n1 c1, .slice o2 n2 c2, .slice o3 n3 c3, .slice o4 n4 c4] := by rw [hW]; exact Box.new _ _ _
  have HX := Lib.hid (And.intro hB hbx)
  have HW := Lib.hid hW
  have HM := Lib.hid (ref18May_any op word (.slice oa na ca) (.slice oi ni ci) al il o1 o2 o3 o4 n1 n2 n3 n4 c1 c2 c3 c4 W (ha.below hB (Nat.le_refl _)) (hi.below hB (Nat.le_refl _)) hal hil)
  obtain ⟨r, hr⟩ : ∃ r, r = mayB op word al il (decide (n1 + n2 + n3 + n4 = 0)) := ⟨_, rfl⟩
  have HR := Lib.hid hr
  rw [← hr] at HM
  clear hr hcv hls hlen hcn ha hi hal hil hW hB hbx
  go_enter Tryz.func15, Tryz.ntmps15
  go_wp2_with (go_at_call 24; rw [← HW.out]; refine HM.out.mono ?_; rintro e w1 ⟨rfl, hb1⟩; refine stopHere ?_)
  have HX1 := Lib.hid (And.intro (HX.out.1.trans (hb1.mono HX.out.1.size)) (HX.out.2.next hb1))
  have d1 : w1.cell? ⟨w.heap.size, 1, none⟩ = some (.slice oa na ca) := HX1.out.2.cell 1 rfl
  clear hb1
  refine goOn ?_
  cases r with
  | false =>
    go_wp2_with fail
    go_ret
    exact yes _ HX1.out.1
  | true =>
    by_cases hnn : na = nl
    case neg =>
      have hq : ((na : Int) != (nl : Int)) = true := by simp; omega
      clear hnn
      go_wp2_with fail
      go_ret
      exact yes _ HX1.out.1
    subst hnn
    have hq : ((na : Int) != (na : Int)) = false := by simp
    by_cases hz : na = 0
    case pos =>
      have hq0 : ((na : Int) == 0) = true := by simp; exact hz
      clear hz
      go_wp2_with fail
      go_ret
      exact yes _ HX1.out.1
    have hq0 : ((na : Int) == 0) = false := by simp; exact hz
    have HZ := Lib.hid (show 0 < na by omega)
    have HARG := Lib.hid (show argsN op = (na : Int) by
      have := HR.out.symm
      simp only [mayB, mayA, Bool.and_eq_true, decide_eq_true_eq] at this
      rw [HNA.out]; exact this.1.1)
    have HTL := Lib.hid (show op = 21 → il.length = 3 from fun h => by
      have := HR.out.symm
      subst h
      simp only [mayB, Bool.and_eq_true] at this
      have h2 := this.2.2.2
      simpa [mayTail] using h2)
    clear hz HM
    go_wp2_with fail
    clear hq hq0 d1
    go_loopw [5] (fun i wr => ∃ k : Nat, k ≤ na ∧ i = .int .i64 k ∧ Hid (Same w1 wr ∧ ∀ j, j < k → shapeB (lnth ls j) = true)) (fun i _ => na - (intOf i).toNat)
    case atStart => exact ⟨0, Nat.zero_le _, rfl, Lib.hid ⟨Same.refl _, fun j h => absurd h (by omega)⟩⟩
    case round =>
      obtain ⟨k, hk, rfl, HS⟩ := hrel
      obtain ⟨w2, rfl⟩ : ∃ w2, w2 = wr := ⟨_, rfl⟩
      have HB2 := Lib.hid (HX1.out.1.trans (HS.out.1.below _))
      by_cases hlt : k < na
      · obtain ⟨b, off, p, m, kk, rfl, h1, h2, h3⟩ := HLS.out.at k hlt
        have e1 := (HB2.out.cell (p := ⟨b, off + k, none⟩) (cell_lt h1)).trans h1
        have HMAY := Lib.hid (ref6May_any _ (lnth ls k) w2 (h2.below HB2.out (Nat.le_refl _)) (by have := HLEN.out k hlt; omega))
        obtain ⟨r, hr⟩ : ∃ r, r = shapeB (lnth ls k) := ⟨_, rfl⟩
        have HRR := Lib.hid hr
        rw [← hr] at HMAY
        clear h1 h2 h3 hr
        go_wp2_with (go_at_call 17; refine HMAY.out.mono ?_; rintro e w3 ⟨rfl, hsm⟩; refine stopHere ?_)
        have HS3 := Lib.hid (HS.out.1.trans hsm)
        clear hsm HMAY e1
        refine goOn ?_
        cases r with
        | false =>
          go_wp2_with fail
          go_ret
          exact yes _ (HX1.out.1.trans (HS3.out.below _))
        | true =>
          go_wp2_with fail
          go_roundw
          case rel => exact ⟨k + 1, by omega, by go_num, Lib.hid ⟨HS3.out, fun j hj => by
            by_cases hjk : j < k
            · exact HS.out.2 j hjk
            · obtain rfl : j = k := by omega
              exact HRR.out.symm⟩⟩
          case measure => simp [intOf]; omega
      · obtain rfl : k = na := by omega
        have HX2 := Lib.hid (And.intro HB2.out (HX1.out.2.same HS.out.1))
        have HSH := Lib.hid HS.out.2
        obtain ⟨bl, fl, _, _, _, hol, _, _, _⟩ := HLS.out.at 0 HZ.out
        subst hol
        obtain ⟨p0, m0, k0, x0, hx0, h0⟩ := (HLS.out.below HB2.out).sh 0 HZ.out (HSH.out 0 HZ.out)
        rw [Nat.add_zero] at h0
        have H0 := Lib.hid h0
        have HX0 := Lib.hid hx0
        have d0 : w2.cell? ⟨w.heap.size, 0, none⟩ = some (.int .i64 op) := HX2.out.2.cell 0 rfl
        clear h0 hx0 HS HB2 hlt hk
        have q23 : (op == 23) = false := by simp; exact hop.1
        have q24 : (op == 24) = false := by simp; exact hop.2.1
        have q25 : (op == 25) = false := by simp; exact hop.2.2
        have HSP := Lib.hid (shape18_any op word oa oi o1 o2 o3 o4 p0 k ni n1 n2 n3 n4 ca ci c1 c2 c3 c4 bl fl k cl m0 k0 il x0 w2 (HI.out.2.1.below HX2.out.1 (Nat.le_refl _)) HI.out.2.2.2 H0.out (fun h => by
          obtain ⟨p1, m1, k1, x1, _, h1⟩ := (HLS.out.below HX2.out.1).sh 1 h (HSH.out 1 h)
          exact ⟨p1, m1, k1, x1, h1⟩) HZ.out HARG.out hop HTL.out)
        have d1 : w2.cell? ⟨w.heap.size, 1, none⟩ = some (.slice oa k ca) := HX2.out.2.cell 1 rfl
        have d2 : w2.cell? ⟨w.heap.size, 2, none⟩ = some (.slice oi ni ci) := HX2.out.2.cell 2 rfl
        have d3 : w2.cell? ⟨w.heap.size, 3, none⟩ = some (.int .i64 word) := HX2.out.2.cell 3 rfl
        have d4 : w2.cell? ⟨w.heap.size, 4, none⟩ = some (.slice o1 n1 c1) := HX2.out.2.cell 4 rfl
        have d5 : w2.cell? ⟨w.heap.size, 5, none⟩ = some (.slice o2 n2 c2) := HX2.out.2.cell 5 rfl
        have d6 : w2.cell? ⟨w.heap.size, 6, none⟩ = some (.slice o3 n3 c3) := HX2.out.2.cell 6 rfl
        have d7 : w2.cell? ⟨w.heap.size, 7, none⟩ = some (.slice o4 n4 c4) := HX2.out.2.cell 7 rfl
        go_wp2_with (go_at_call 27; refine HSP.out.mono ?_; rintro e w5 ⟨hb5, v5, ys, k5, rfl, ho5, hl5⟩; obtain ⟨o5, c5, rfl⟩ := own_slice ho5; refine stopHere ?_)
        have HB5 := Lib.hid (And.intro (HX2.out.1.trans (hb5.mono HX2.out.1.size)) (And.intro (Rd.of_own ho5) hl5))
        have HYL := Lib.hid hl5
        clear hb5 ho5 hl5 d0 d1 d2 d3 d4 d5 d6 d7 HSP
        obtain ⟨ny, hny⟩ : ∃ ny, ny = ys.length := ⟨_, rfl⟩
        rw [← hny] at HB5 ⊢
        clear hny
        refine goOn ?_
        by_cases h5 : k5 = 0
        case neg =>
          have hq : (k5 == 0) = false := by simp; exact h5
          clear h5
          go_wp2_with fail
          go_ret
          exact yes _ HB5.out.1
        subst h5
        go_wp2_with (go_at_call 6; refine (ref6Count_some _ ys w5 HB5.out.2.1 (by have := HYL.out; omega)).mono ?_; rintro e w6 ⟨⟨m6, rfl⟩, hsm⟩; refine stopHere ?_)
        have HB6 := Lib.hid (HB5.out.1.trans (hsm.below _))
        clear hsm
        refine goOn ?_
        go_wp2_with fail
        all_goals
          go_ret
          exact yes _ HB6.out
end Go.Proofs.YtipjhdgegfgenaaGreat
