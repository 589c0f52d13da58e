/-
  THE REFERENCE'S Batch: its answer, the same as data.Batch's.
-/
import Derived.Test.YtjhejpeklppmbaaTens
import Derived.StillTailTactics
set_option linter.unusedVariables false
set_option linter.unusedSimpArgs false
namespace Go.Proofs.Ytjhejpeklppmbaa
open Go.RowKit Go.Shelf
theorem BxMid.begin {B X Y : Nat} {w0 W : World} {xs ys xd yd : Value} {xl yl : List Int} (h1 : Box W X 41 #[xs, xd]) (h2 : Box W Y 41 #[ys, yd]) (h3 : OwnI W B 2 .i64 xd xl) (h4 : OwnI W B 2 .i64 yd yl) (h5 : Sep xd yd) (h6 : KeepX B X Y w0 W) :
    BxMid B X Y w0 W xs ys xd yd xd yd xl yl W := ⟨h1, h2, h3, h4, h5, h6, KeepX.refl _ _ _ _, ⟨Nat.le_refl _, fun _ _ h _ => h⟩⟩
theorem BxMid.drew {B X Y : Nat} {w0 W0 W : World} {xs ys xd yd c1 c2 : Value} {xl yl : List Int} (h : BxMid B X Y w0 W0 xs ys xd yd c1 c2 xl yl W) : BxMid B X Y w0 W0 xs ys xd yd c1 c2 xl yl W.drew :=
  have hs : Same W W.drew := ⟨1, rfl⟩
  ⟨h.x.same hs, h.y.same hs, own_same h.ox hs, own_same h.oy hs, h.sep, h.far.below (hs.below B), h.near.below (hs.below B), h.others.trans ⟨Nat.le_refl _, fun _ _ h _ => h⟩⟩
/-- another row grows, of another type of elements, behind a block that was made -/
theorem BxMid.grown_other {B X Y : Nat} {w0 W0 W W1 W2 : World} {xs ys xd yd c1 c2 : Value} {xl yl : List Int} (h : BxMid B X Y w0 W0 xs ys xd yd c1 c2 xl yl W) {C : Nat} (hal : Below C W W1) (hblk : ∀ k, k < W.heap.size → W1.heap[k]? = W.heap[k]?) {e : TypeId} {n : Nat} {v : Value} {l : List Value} (hg : W1.grownBy W2 v.ownBlock) (ho : W1.ownsRow B e 1 v n l) (hne : e ≠ 2) (hX : X < B) (hY : Y < B) (hB : B ≤ W.heap.size) : BxMid B X Y w0 W0 xs ys xd yd c1 c2 xl yl W2 :=
  have hb1 : Below W.heap.size W W1 := ⟨hal.os, hal.tape, hal.output, hal.size, hblk⟩
  have ox := own_below h.ox hb1 (Nat.le_refl _)
  have oy := own_below h.oy hb1 (Nat.le_refl _)
  have hb2 := below_grown ho hg (Nat.le_trans hB hal.size)
  have hbB : Below B W W1 := ⟨hal.os, hal.tape, hal.output, hal.size, fun k hk => hblk k (by omega)⟩
  ⟨(h.x.below hbB hX).below hb2 hX, (h.y.below hbB hY).below hb2 hY, own_grown ox hg (sep_type ho ox hne), own_grown oy hg (sep_type ho oy hne), h.sep, (h.far.below hbB).below hb2, (h.near.below hbB).below hb2,
    (h.others.trans ⟨hal.size, fun k o hk _ => (hblk k (Array.getElem?_eq_some_iff.1 hk).1).trans hk⟩).trans (KeepsOthers.of_grownBy hg (own_cells ho))⟩
theorem keep3 {w W : World} {C a b c i j k : Nat} {x y z : Value} (hx : w.cell? ⟨a, i, none⟩ = some x) (ha : a < C) (hy : w.cell? ⟨b, j, none⟩ = some y) (hb : b < C) (hz : w.cell? ⟨c, k, none⟩ = some z) (hc : c < C) (hB : Below C w W) :
    W.cell? ⟨a, i, none⟩ = some x ∧ W.cell? ⟨b, j, none⟩ = some y ∧ W.cell? ⟨c, k, none⟩ = some z :=
  ⟨(hB.cell (p := ⟨a, i, none⟩) ha).trans hx, (hB.cell (p := ⟨b, j, none⟩) hb).trans hy, (hB.cell (p := ⟨c, k, none⟩) hc).trans hz⟩
theorem own_keepx_box {w1 W : World} {B X Y C : Nat} {e T T' : TypeId} {s : Nat} {v : Value} {n : Nat} {xs : List Value} {cs cs' : Array Value} (h : w1.ownsRow C e s v n xs) (hk : KeepX B X Y w1 W) (hB : w1.heap.size ≤ B) (hx : Box w1 X T cs) (hy : Box w1 Y T' cs') (h1 : e ≠ T) (h2 : e ≠ T') : W.ownsRow C e s v n xs := by
  refine ⟨h.1, ?_⟩
  rcases h.2 with hn | ⟨g, cap, cur, rfl, hb, hgg, rest⟩
  · exact .inl hn
  · have := (Array.getElem?_eq_some_iff.1 hgg).1
    have n1 : g ≠ X := fun e' => by
      subst e'
      rw [hx] at hgg
      simp only [Option.some.injEq, Obj.cells.injEq] at hgg
      exact h1 hgg.2.1.symm
    have n2 : g ≠ Y := fun e' => by
      subst e'
      rw [hy] at hgg
      simp only [Option.some.injEq, Obj.cells.injEq] at hgg
      exact h2 hgg.2.1.symm
    exact .inr ⟨g, cap, cur, rfl, hb, by rw [hk.block g (by omega) n1 n2]; exact hgg, rest⟩
abbrev endW (W : World) (X Y : Nat) (x0 x1 y0 y1 : Value) : World := ((((W.setCell ⟨X, 0, none⟩ x0).setCell ⟨X, 1, none⟩ x1).setCell ⟨Y, 0, none⟩ y0).setCell ⟨Y, 1, none⟩ y1).drew
theorem end_own {W : World} {X Y C : Nat} {e : TypeId} {s : Nat} {v : Value} {n : Nat} {xs : List Value} (h : W.ownsRow C e s v n xs) (h1 : X < C) (h2 : Y < C) (x0 x1 y0 y1 : Value) : (endW W X Y x0 x1 y0 y1).ownsRow C e s v n xs :=
  own_same (own_setLt (own_setLt (own_setLt (own_setLt h h1 x0) h1 x1) h2 y0) h2 y1) ⟨1, rfl⟩
theorem end_below {w W : World} {X Y : Nat} {x0 x1 y0 y1 : Value} (h : Below w.heap.size w W) (h1 : w.heap.size ≤ X) (h2 : w.heap.size ≤ Y) : Below w.heap.size w (endW W X Y x0 x1 y0 y1) :=
  ((((h.setCell (p := ⟨X, 0, none⟩) h1 x0).setCell (p := ⟨X, 1, none⟩) h1 x1).setCell (p := ⟨Y, 0, none⟩) h2 y0).setCell (p := ⟨Y, 1, none⟩) h2 y1).drew
theorem own_set_blk {w : World} {B Y : Nat} {e T : TypeId} {s n : Nat} {v : Value} {xs : List Value} {cs : Array Value} (h : w.ownsRow B e s v n xs) (hy : Box w Y T cs) (hne : e ≠ T) (j : Nat) (u : Value) : (w.setCell ⟨Y, j, none⟩ u).ownsRow B e s v n xs := by
  refine ⟨h.1, ?_⟩
  rcases h.2 with hn | ⟨g, cap, cur, rfl, hb, hgg, rest⟩
  · exact .inl hn
  · have hgy : g ≠ Y := fun e' => by
      subst e'
      rw [hy] at hgg
      simp only [Option.some.injEq, Obj.cells.injEq] at hgg
      exact hne hgg.2.1.symm
    exact .inr ⟨g, cap, cur, rfl, hb, by rw [Below.heap_setCell _ _ _ _ hgy]; exact hgg, rest⟩
def RBPost (w : World) (s : SetD) (ids : List Int) (e : Ending) (w' : World) : Prop :=
  (idsBad s ids = true ∧ e = .returned (.tuple #[.agg #[.slice none 0 0, .slice none 0 0], .slice none 0 0, .agg #[.slice none 0 0, .slice none 0 0], .int .i64 2]) ∧ Below w.heap.size w w') ∨ (idsBad s ids = false ∧ budB s ids = true ∧ e = .returned (.tuple #[.agg #[.slice none 0 0, .slice none 0 0], .slice none 0 0, .agg #[.slice none 0 0, .slice none 0 0], .int .i64 5]) ∧ Below w.heap.size w w') ∨
    (idsBad s ids = false ∧ budB s ids = false ∧ ∃ v, e = .returned v ∧ BatchOk w.heap.size w' v s ids ∧ Below w.heap.size w w')
theorem idsB_at {n : Int} {ids : List Int} {k : Nat} (hk : k < ids.length) (h : (decide (nth ids k < 0) || decide (n ≤ nth ids k)) = true) : idsB n ids = true := by
  rw [idsB, List.any_eq_true]
  exact ⟨_, nth_mem ids k hk, h⟩
theorem idsB_one (n q : Int) : idsB n [q] = (decide (q < 0) || decide (n ≤ q)) := by simp [idsB]
set_option maxRecDepth 100000 in
set_option maxHeartbeats 8000000 in
theorem ref30Batch_any (a b c d : Value) (s : SetD) (oi : Option Addr) (ci : Nat) (ids : List Int) (w : World) (hr : RdSet w a b c d s) (hl : LimSet s) (hg : goodSet s = true) (hi : Rd w .i64 (.slice oi ids.length ci) ids) (hli : ids.length ≤ 100000)
    (hcb : ∀ o m c, b = .slice o m c → m ≤ c ∧ c ≤ 9223372036854775807) (hcd : ∀ o m c, d = .slice o m c → m ≤ c ∧ c ≤ 9223372036854775807) :
    Calls Try.prog 22 #[.agg #[a, b, c, d], .slice oi ids.length ci] w (RBPost w s ids) := by
  have HCB := Lib.hid hcb
  have HCD := Lib.hid hcd
  clear hcb hcd

  obtain ⟨o1, cap1, he1⟩ := rd_slice hr.sh
  obtain ⟨o2, cap2, he2⟩ := rd_slice hr.x
  obtain ⟨o3, cap3, he3⟩ := rd_slice hr.lb
  obtain ⟨o4, cap4, he4⟩ := rd_slice hr.y
  subst he1 he2 he3 he4
  have HR := Lib.hid hr
  have HL := Lib.hid hl
  obtain ⟨W0, hW0⟩ : ∃ W0, W0 = (((w.alloc (.cells #[.slice o1 s.sh.length cap1, .slice o2 s.x.length cap2, .slice o3 s.lb.length cap3, .slice o4 s.y.length cap4] 35)).alloc (.cells #[.slice none 0 0, .slice none 0 0] 41)).alloc (.cells #[.slice none 0 0, .slice none 0 0] 41)) := ⟨_, rfl⟩
  have HBS := Lib.hid (show Box W0 w.heap.size 35 #[.slice o1 s.sh.length cap1, .slice o2 s.x.length cap2, .slice o3 s.lb.length cap3, .slice o4 s.y.length cap4] by
    rw [hW0]; exact ((Box.new w _ _).next ((Below.refl _ _).alloc (Nat.le_refl _) _)).next ((Below.refl _ _).alloc (Nat.le_refl _) _))
  have HBX := Lib.hid (show Box W0 (w.heap.size + 1) 41 #[.slice none 0 0, .slice none 0 0] by
    rw [hW0]; exact (Box.new_at (by simp)).next ((Below.refl _ _).alloc (Nat.le_refl _) _))
  have HBY := Lib.hid (show Box W0 (w.heap.size + 2) 41 #[.slice none 0 0, .slice none 0 0] by rw [hW0]; exact Box.new_at (by simp))
  have HB0 := Lib.hid (show Below w.heap.size w W0 by rw [hW0]; exact (((Below.refl _ _).alloc (Nat.le_refl _) _).alloc (by simp) _).alloc (by simp; omega) _)
  have HSZ := Lib.hid (show W0.heap.size = w.heap.size + 3 by rw [hW0]; simp)
  have HW0 := Lib.hid hW0
  have d0 : W0.cell? ⟨w.heap.size, 0, none⟩ = some (.slice o1 s.sh.length cap1) := HBS.out.cell 0 rfl
  have d1 : W0.cell? ⟨w.heap.size, 1, none⟩ = some (.slice o2 s.x.length cap2) := HBS.out.cell 1 rfl
  have d2 : W0.cell? ⟨w.heap.size, 2, none⟩ = some (.slice o3 s.lb.length cap3) := HBS.out.cell 2 rfl
  have d3 : W0.cell? ⟨w.heap.size, 3, none⟩ = some (.slice o4 s.y.length cap4) := HBS.out.cell 3 rfl
  rw [hW0] at d0 d1 d2 d3
  clear hr hl hW0
  have HG := Lib.hid hg
  have HGP := Lib.hid (goodSet_parts hg).1
  have HSH := Lib.hid (shapeB_parts (goodSet_parts hg).1)
  have HI := Lib.hid hi
  obtain ⟨n, hne⟩ : ∃ n, n = countS s := ⟨_, rfl⟩
  have hn1 : 1 ≤ n ∧ n ≤ 1024 := by rw [hne]; exact ⟨(goodSet_parts hg).2.2.2.1, (goodSet_parts hg).2.2.2.2.1⟩
  have HN := Lib.hid hne
  clear hg hi hne
  go_enter Try.func22, Try.ntmps22
  go_upto_region 1 with (fail)
  rw [← HW0.out]
  clear HW0 d0 d1 d2 d3
  have HB := HB0
  by_cases h1 : ids.length < 1
  · have e1 : decide ((ids.length : Int) < 1) = true := decide_eq_true (by omega)

    have x0 := HBX.out.cell 0 rfl
    have x1 := HBX.out.cell 1 rfl
    have y0 := HBY.out.cell 0 rfl
    have y1 := HBY.out.cell 1 rfl
    have fx0 := HBX.out.free 0
    have fx1 := HBX.out.free 1
    have fy0 := HBY.out.free 0
    have fy1 := HBY.out.free 1
    go_wp2_with fail
    have HTT := Lib.hid (tens_two (a := .slice none 0 0) (b := .slice none 0 0) (c := .slice none 0 0) (d := .slice none 0 0) HBX.out HBY.out (by omega))
    have HBF := Lib.hid (show Below w.heap.size w ((((W0.setCell ⟨w.heap.size + 1, 0, none⟩ (.slice none 0 0)).setCell ⟨w.heap.size + 1, 1, none⟩ (.slice none 0 0)).setCell ⟨w.heap.size + 2, 0, none⟩ (.slice none 0 0)).setCell ⟨w.heap.size + 2, 1, none⟩ (.slice none 0 0)) from
      ((((HB.out.setCell (p := ⟨w.heap.size + 1, 0, none⟩) (Nat.le_succ _) _).setCell (p := ⟨w.heap.size + 1, 1, none⟩) (Nat.le_succ _) _).setCell (p := ⟨w.heap.size + 2, 0, none⟩) (Nat.le_add_right _ _) _).setCell (p := ⟨w.heap.size + 2, 1, none⟩) (Nat.le_add_right _ _) _))
    clear x0 x1 y0 y1 fx0 fx1 fy0 fy1
    generalize ((((W0.setCell ⟨w.heap.size + 1, 0, none⟩ (.slice none 0 0)).setCell ⟨w.heap.size + 1, 1, none⟩ (.slice none 0 0)).setCell ⟨w.heap.size + 2, 0, none⟩ (.slice none 0 0)).setCell ⟨w.heap.size + 2, 1, none⟩ (.slice none 0 0)) = wz at HTT HBF ⊢
    have x0 : wz.cell? ⟨w.heap.size + 1, 0, none⟩ = some (.slice none 0 0) := HTT.out.1.cell 0 rfl
    have x1 : wz.cell? ⟨w.heap.size + 1, 1, none⟩ = some (.slice none 0 0) := HTT.out.1.cell 1 rfl
    have y0 : wz.cell? ⟨w.heap.size + 2, 0, none⟩ = some (.slice none 0 0) := HTT.out.2.cell 0 rfl
    have y1 : wz.cell? ⟨w.heap.size + 2, 1, none⟩ = some (.slice none 0 0) := HTT.out.2.cell 1 rfl
    exact bodyPost_ret (v := .tuple #[.agg #[.slice none 0 0, .slice none 0 0], .slice none 0 0, .agg #[.slice none 0 0, .slice none 0 0], .int .i64 2]) (by simp [results, Try.results22, go_sem, x0, x1, y0, y1]) rfl (.inl ⟨by rw [idsBad, decide_eq_true h1]; rfl, rfl, HBF.out⟩)
  have e1 : decide ((ids.length : Int) < 1) = false := decide_eq_false (by omega)
  by_cases h2 : 4096 < ids.length
  · have e2 : decide ((4096 : Int) < ids.length) = true := decide_eq_true (by omega)

    have x0 := HBX.out.cell 0 rfl
    have x1 := HBX.out.cell 1 rfl
    have y0 := HBY.out.cell 0 rfl
    have y1 := HBY.out.cell 1 rfl
    have fx0 := HBX.out.free 0
    have fx1 := HBX.out.free 1
    have fy0 := HBY.out.free 0
    have fy1 := HBY.out.free 1
    go_wp2_with fail
    have HTT := Lib.hid (tens_two (a := .slice none 0 0) (b := .slice none 0 0) (c := .slice none 0 0) (d := .slice none 0 0) HBX.out HBY.out (by omega))
    have HBF := Lib.hid (show Below w.heap.size w ((((W0.setCell ⟨w.heap.size + 1, 0, none⟩ (.slice none 0 0)).setCell ⟨w.heap.size + 1, 1, none⟩ (.slice none 0 0)).setCell ⟨w.heap.size + 2, 0, none⟩ (.slice none 0 0)).setCell ⟨w.heap.size + 2, 1, none⟩ (.slice none 0 0)) from
      ((((HB.out.setCell (p := ⟨w.heap.size + 1, 0, none⟩) (Nat.le_succ _) _).setCell (p := ⟨w.heap.size + 1, 1, none⟩) (Nat.le_succ _) _).setCell (p := ⟨w.heap.size + 2, 0, none⟩) (Nat.le_add_right _ _) _).setCell (p := ⟨w.heap.size + 2, 1, none⟩) (Nat.le_add_right _ _) _))
    clear x0 x1 y0 y1 fx0 fx1 fy0 fy1
    generalize ((((W0.setCell ⟨w.heap.size + 1, 0, none⟩ (.slice none 0 0)).setCell ⟨w.heap.size + 1, 1, none⟩ (.slice none 0 0)).setCell ⟨w.heap.size + 2, 0, none⟩ (.slice none 0 0)).setCell ⟨w.heap.size + 2, 1, none⟩ (.slice none 0 0)) = wz at HTT HBF ⊢
    have x0 : wz.cell? ⟨w.heap.size + 1, 0, none⟩ = some (.slice none 0 0) := HTT.out.1.cell 0 rfl
    have x1 : wz.cell? ⟨w.heap.size + 1, 1, none⟩ = some (.slice none 0 0) := HTT.out.1.cell 1 rfl
    have y0 : wz.cell? ⟨w.heap.size + 2, 0, none⟩ = some (.slice none 0 0) := HTT.out.2.cell 0 rfl
    have y1 : wz.cell? ⟨w.heap.size + 2, 1, none⟩ = some (.slice none 0 0) := HTT.out.2.cell 1 rfl
    exact bodyPost_ret (v := .tuple #[.agg #[.slice none 0 0, .slice none 0 0], .slice none 0 0, .agg #[.slice none 0 0, .slice none 0 0], .int .i64 2]) (by simp [results, Try.results22, go_sem, x0, x1, y0, y1]) rfl (.inl ⟨by rw [idsBad, decide_eq_true h2, Bool.true_or, Bool.or_true], rfl, HBF.out⟩)
  have e2 : decide ((4096 : Int) < ids.length) = false := decide_eq_false (by omega)
  go_wp2_with fail
  go_loopg [8] ids.length (fun g i wr => ∃ k : Nat, g = ids.length - k ∧ k ≤ ids.length ∧ i = .int .i64 k ∧ idsB n (ids.take k) = false ∧ Below W0.heap.size W0 wr)
  case atStart => exact ⟨0, rfl, Nat.zero_le _, rfl, rfl, Below.refl _ _⟩
  case round =>
    obtain ⟨k, hgk, hk, rfl, hids, hbw⟩ := hrel
    obtain ⟨w1, rfl⟩ : ∃ w1, w1 = wr := ⟨_, rfl⟩
    have HIDS := Lib.hid hids
    have HBS1 := Lib.hid (HBS.out.next hbw)
    have HBX1 := Lib.hid (HBX.out.next hbw)
    have HBY1 := Lib.hid (HBY.out.next hbw)
    have HB1 := Lib.hid (HB0.out.trans (hbw.mono HB0.out.size))
    have HBW := Lib.hid hbw
    have hsz1 := hbw.size
    clear hids hbw
    by_cases hlt : k < ids.length
    · obtain ⟨bi, off, rfl, hci⟩ := HI.out.cell k hlt
      have hci1 := (HB1.out.cell (p := ⟨bi, off + k, none⟩) (cell_lt hci)).trans hci
      obtain ⟨q, hq⟩ : ∃ q, q = nth ids k := ⟨_, rfl⟩
      rw [← hq] at hci1
      have HQ := Lib.hid hq
      clear hci hq
      go_wp2_with fail
      go_cut [44] (fun v wx => v = .bool (decide (q < 0) || decide (n ≤ q)) ∧ Below w1.heap.size w1 wx)
      case first =>
        by_cases h3 : q < 0
        · have e3 : decide (q < 0) = true := decide_eq_true h3
          go_quiet (fail)
          all_goals (go_wp2_with fail; go_meet; exact ⟨by simp [h3], below_drewN (Below.refl _ _) _⟩)
        · have e3 : decide (q < 0) = false := decide_eq_false h3
          have HX := Lib.hid (show Below w1.heap.size w1 w1.drew from Below.drew (Below.refl _ _))
          have d0 : w1.cell? ⟨w.heap.size, 0, none⟩ = some (.slice o1 s.sh.length cap1) := HBS1.out.cell 0 rfl
          have d1 : w1.cell? ⟨w.heap.size, 1, none⟩ = some (.slice o2 s.x.length cap2) := HBS1.out.cell 1 rfl
          have d2 : w1.cell? ⟨w.heap.size, 2, none⟩ = some (.slice o3 s.lb.length cap3) := HBS1.out.cell 2 rfl
          have d3 : w1.cell? ⟨w.heap.size, 3, none⟩ = some (.slice o4 s.y.length cap4) := HBS1.out.cell 3 rfl
          go_region_held3 (fun w' => w'.cell? ⟨bi, off + k, none⟩ = some (.int .i64 q) ∧ w'.cell? ⟨w.heap.size, 0, none⟩ = some (.slice o1 s.sh.length cap1) ∧ w'.cell? ⟨w.heap.size, 1, none⟩ = some (.slice o2 s.x.length cap2) ∧ w'.cell? ⟨w.heap.size, 2, none⟩ = some (.slice o3 s.lb.length cap3) ∧ w'.cell? ⟨w.heap.size, 3, none⟩ = some (.slice o4 s.y.length cap4)) (exact ⟨(HX.out.cell (p := ⟨bi, off + k, none⟩) (cell_lt hci1)).trans hci1, keep4 HBS1.out HX.out⟩)
            (first
            | (go_at_call 40; refine (ref30Count_any _ _ _ _ s _ ((HR.out.below HB1.out (Nat.le_refl _)).below HX.out (Nat.le_refl _)) HGP.out HL.out).mono ?_; rintro e w2 ⟨rfl, hbc⟩; rw [← HN.out]; have HX := Lib.hid (HX.out.trans (hbc.mono HX.out.size)); clear hbc))
          all_goals (go_wp2_with fail; go_meet; exact ⟨by first | rw [e3, Bool.false_or] | (simp; omega), HX.out⟩)
      case rest =>
        obtain ⟨rfl, hb⟩ := hcut
        obtain ⟨w2, rfl⟩ : ∃ w2, w2 = wc := ⟨_, rfl⟩
        have HBX2 := Lib.hid (HBX1.out.next hb)
        have HBY2 := Lib.hid (HBY1.out.next hb)
        have HB2 := Lib.hid (HB1.out.trans (hb.mono HB1.out.size))
        have HBW2 := Lib.hid (HBW.out.trans (hb.mono HBW.out.size))
        clear hb hci1
        cases hbq : (decide (q < 0) || decide (n ≤ q)) with
        | true =>
          have HBQ := Lib.hid hbq
          clear hbq
          have x0 := HBX2.out.cell 0 rfl
          have x1 := HBX2.out.cell 1 rfl
          have y0 := HBY2.out.cell 0 rfl
          have y1 := HBY2.out.cell 1 rfl
          have fx0 := HBX2.out.free 0
          have fx1 := HBX2.out.free 1
          have fy0 := HBY2.out.free 0
          have fy1 := HBY2.out.free 1
          go_wp2_with fail
          have HTT := Lib.hid (tens_two (a := .slice none 0 0) (b := .slice none 0 0) (c := .slice none 0 0) (d := .slice none 0 0) HBX2.out HBY2.out (by omega))
          have HBF := Lib.hid (show Below w.heap.size w ((((w2.setCell ⟨w.heap.size + 1, 0, none⟩ (.slice none 0 0)).setCell ⟨w.heap.size + 1, 1, none⟩ (.slice none 0 0)).setCell ⟨w.heap.size + 2, 0, none⟩ (.slice none 0 0)).setCell ⟨w.heap.size + 2, 1, none⟩ (.slice none 0 0)) from
            ((((HB2.out.setCell (p := ⟨w.heap.size + 1, 0, none⟩) (Nat.le_succ _) _).setCell (p := ⟨w.heap.size + 1, 1, none⟩) (Nat.le_succ _) _).setCell (p := ⟨w.heap.size + 2, 0, none⟩) (Nat.le_add_right _ _) _).setCell (p := ⟨w.heap.size + 2, 1, none⟩) (Nat.le_add_right _ _) _))
          clear x0 x1 y0 y1 fx0 fx1 fy0 fy1
          generalize ((((w2.setCell ⟨w.heap.size + 1, 0, none⟩ (.slice none 0 0)).setCell ⟨w.heap.size + 1, 1, none⟩ (.slice none 0 0)).setCell ⟨w.heap.size + 2, 0, none⟩ (.slice none 0 0)).setCell ⟨w.heap.size + 2, 1, none⟩ (.slice none 0 0)) = wz at HTT HBF ⊢
          have x0 : wz.cell? ⟨w.heap.size + 1, 0, none⟩ = some (.slice none 0 0) := HTT.out.1.cell 0 rfl
          have x1 : wz.cell? ⟨w.heap.size + 1, 1, none⟩ = some (.slice none 0 0) := HTT.out.1.cell 1 rfl
          have y0 : wz.cell? ⟨w.heap.size + 2, 0, none⟩ = some (.slice none 0 0) := HTT.out.2.cell 0 rfl
          have y1 : wz.cell? ⟨w.heap.size + 2, 1, none⟩ = some (.slice none 0 0) := HTT.out.2.cell 1 rfl
          exact bodyPost_ret (v := .tuple #[.agg #[.slice none 0 0, .slice none 0 0], .slice none 0 0, .agg #[.slice none 0 0, .slice none 0 0], .int .i64 2]) (by simp [results, Try.results22, go_sem, x0, x1, y0, y1]) rfl (.inl ⟨by rw [idsBad, ← HN.out, idsB_at hlt (by rw [← HQ.out]; exact HBQ.out), Bool.or_true, Bool.or_true], rfl, HBF.out⟩)
        | false =>
          have HBQ := Lib.hid hbq
          clear hbq
          go_wp2_with fail
          go_roundg (ids.length - (k + 1))
          case rel => exact ⟨k + 1, rfl, by omega, by go_num, by rw [take_succ_nth ids k hlt, idsB_append, HIDS.out, ← HQ.out, idsB_one, HBQ.out]; rfl, HBW2.out⟩
          case measure => omega
    · obtain rfl : k = ids.length := by omega
      rw [List.take_length] at HIDS
      have hbad : idsBad s ids = false := by rw [idsBad, ← HN.out, HIDS.out, decide_eq_false h1, decide_eq_false h2]; rfl
      have HBAD := Lib.hid hbad
      clear hbad
      obtain ⟨i0, hi0, hz0, hz1, hz2⟩ := info_parts info_i
      have HZZ := Lib.hid (And.intro hi0 (And.intro hz0 (And.intro hz1 hz2)))
      have ha5 : Below w1.heap.size w1 (w1.alloc (.cells #[.int .i64 ids.length] 3)) := (Below.refl _ _).alloc (Nat.le_refl _) _
      have HO5 := Lib.hid (show OwnI (w1.alloc (.cells #[.int .i64 ids.length] 3)) w1.heap.size 3 .i64 (.slice (some ⟨w1.heap.size, 0, none⟩) 1 1) [(ids.length : Int)] from OwnI.lit w1 .i64 [(ids.length : Int)] 3 (Nat.le_of_ble_eq_true rfl))
      have HB5 := Lib.hid (HB1.out.trans (ha5.mono HB1.out.size))
      have HA5 := Lib.hid ha5
      have d0 : (w1.alloc (.cells #[.int .i64 ids.length] 3)).cell? ⟨w.heap.size, 0, none⟩ = some (.slice o1 s.sh.length cap1) := (HBS1.out.next ha5).cell 0 rfl
      have hsl := HSH.out.1
      have hm1 : [(ids.length : Int)].length + s.sh.length ≤ maxLen := by unfold maxLen; rw [List.length_singleton]; omega
      have hm2 : ([(ids.length : Int)].length + s.sh.length) * 8 ≤ 140737488355328 := by rw [List.length_singleton]; omega
      have hm3 : w1.heap.size ≤ (w1.alloc (.cells #[.int .i64 ids.length] 3)).heap.size := by simp
      clear ha5
      go_wp2_with (at_builtin; refine stopHere ?_)
      refine goOn ?_
      refine wpList_append_rd rfl _ _ 32 rfl w1.heap.size 3 .i64 i0 8 Try.underlying32 hi0 hz0 hz1 hz2 _ _ rfl HO5.out _ s.sh rfl (HR.out.below HB5.out (Nat.le_refl _)).sh hm1 hm2 hm3 ?_
      intro v6 w6 hown6 hgrow6 hat6
      obtain ⟨xs, hxs⟩ : ∃ xs, xs = [(ids.length : Int)] ++ s.sh := ⟨_, rfl⟩
      have hxl : xs.length = s.sh.length + 1 := by rw [hxs]; simp
      rw [← hxs] at hown6
      obtain ⟨o6, cap6, rfl⟩ := own_slice hown6
      have hb6 : Below w1.heap.size w1 w6 := HA5.out.trans (below_grown HO5.out hgrow6 hm3)
      have HXS := Lib.hid hxs
      have HXL := Lib.hid hxl
      have HO6 := Lib.hid hown6
      have HBS6 := Lib.hid (HBS1.out.next hb6)
      have HBX6 := Lib.hid (HBX1.out.next hb6)
      have HBY6 := Lib.hid (HBY1.out.next hb6)
      have HB6 := Lib.hid (HB1.out.trans (hb6.mono HB1.out.size))
      have hsz6 := hb6.size
      clear hxl hown6 hat6 hgrow6 hm1 hm2 hm3 hi0 hz0 hz1 hz2 hxs hb6 d0 HA5 HO5 HB5 HBS1 HBX1 HBY1 HB1 HBW
      go_upto_region 10 with (fail)
      obtain ⟨W7, hW7⟩ : ∃ W7, W7 = ((w6.alloc (.cells #[.slice o6 xs.length cap6, .slice none 0 0] 41)).alloc (.cells #[.slice none 0 0, .slice none 0 0] 41)) := ⟨_, rfl⟩
      have hb : Below w6.heap.size w6 W7 := by rw [hW7]; exact ((Below.refl _ _).alloc (Nat.le_refl _) _).alloc (by simp) _
      have HP7 := Lib.hid (show Box W7 w6.heap.size 41 #[.slice o6 xs.length cap6, .slice none 0 0] by rw [hW7]; exact (Box.new _ _ _).next ((Below.refl _ _).alloc (Nat.le_refl _) _))
      have HQ7 := Lib.hid (show Box W7 (w6.heap.size + 1) 41 #[.slice none 0 0, .slice none 0 0] by rw [hW7]; exact Box.new_at (by simp))
      rw [← hW7]
      clear hW7
      have HB6s := Lib.hid HB6.out.size
      have hw6 : w.heap.size + 2 < w6.heap.size := HBY6.out.lt
      have HBS7 := Lib.hid (HBS6.out.next hb)
      have HBX7 := Lib.hid (HBX6.out.next hb)
      have HBY7 := Lib.hid (HBY6.out.next hb)
      have HO7 := Lib.hid (own_below HO6.out hb (Nat.le_refl _))
      have HB7 := Lib.hid (HB6.out.trans (hb.mono HB6.out.size))
      have hsz7 := hb.size
      clear hb HB6 HBS6 HBX6 HBY6 HO6
      have d0 : W7.cell? ⟨w.heap.size, 0, none⟩ = some (.slice o1 s.sh.length cap1) := HBS7.out.cell 0 rfl
      have d1 : W7.cell? ⟨w.heap.size, 1, none⟩ = some (.slice o2 s.x.length cap2) := HBS7.out.cell 1 rfl
      have d2 : W7.cell? ⟨w.heap.size, 2, none⟩ = some (.slice o3 s.lb.length cap3) := HBS7.out.cell 2 rfl
      have d3 : W7.cell? ⟨w.heap.size, 3, none⟩ = some (.slice o4 s.y.length cap4) := HBS7.out.cell 3 rfl
      go_wp2_with fail
      clear d0 d1 d2 d3
      refine (ref30Each_any _ _ _ _ s _ (HR.out.below HB7.out (Nat.le_refl _)) HGP.out (by rw [← HN.out]; exact hn1.1) HL.out).mono ?_
      rintro e w8 ⟨rfl, hb⟩
      have HBS8 := Lib.hid (HBS7.out.next hb)
      have HBX8 := Lib.hid (HBX7.out.next hb)
      have HBY8 := Lib.hid (HBY7.out.next hb)
      have HP8 := Lib.hid (HP7.out.next hb)
      have HQ8 := Lib.hid (HQ7.out.next hb)
      have HO8 := Lib.hid (own_below HO7.out hb (Nat.le_refl _))
      have HB8 := Lib.hid (HB7.out.trans (hb.mono HB7.out.size))
      have hsz8 := hb.size
      clear hb HB7 HBS7 HBX7 HBY7 HP7 HQ7 HO7
      obtain ⟨k, hk'⟩ : ∃ k : Nat, (k : Int) = (s.y.length : Int) / n := ⟨((s.y.length : Int) / n).toNat, Int.toNat_of_nonneg (Int.ediv_nonneg (by omega) (by omega))⟩
      rw [show eachS s = (k : Int) from by rw [hk', eachS, HN.out]]
      have HK := Lib.hid hk'
      clear hk'
      by_cases hy : 0 < s.y.length
      · have hk1 : 1 ≤ k := by
          have hr := ((goodSet_parts HG.out).2.2.2.2.2.2.2.2.2 (fun h0 => by have := ((goodSet_parts HG.out).2.2.2.2.2.2.2.2.1 h0).2.1; omega)).2.1
          have hm := Int.mul_ediv_add_emod (s.y.length : Int) n
          rw [HN.out, hr, ← HN.out, ← HK.out] at hm
          rcases Nat.eq_zero_or_pos k with h0 | h0
          · rw [h0] at hm; simp at hm; omega
          · exact h0
        have e3 : decide ((0 : Int) < k) = true := decide_eq_true (by omega)
        have hb : Below w8.heap.size w8 (w8.alloc (.cells #[.int .i64 ids.length, .int .i64 k] 3)) := (Below.refl _ _).alloc (Nat.le_refl _) _
        have HOY9' := Lib.hid (show OwnI (w8.alloc (.cells #[.int .i64 ids.length, .int .i64 k] 3)) w8.heap.size 3 .i64 (.slice (some ⟨w8.heap.size, 0, none⟩) 2 2) [(ids.length : Int), (k : Int)] from OwnI.lit w8 .i64 [(ids.length : Int), (k : Int)] 3 (Nat.le_of_ble_eq_true rfl))
        have hQ8 := HQ8.out.next hb
        have y0 := hQ8.cell 0 rfl
        have fy0 := hQ8.free 0
        have hlS := HBS8.out.lt
        have hlX := HBX8.out.lt
        have hlY := HBY8.out.lt
        have hlP := HP8.out.lt
        have hlQ := HQ8.out.lt
        have HBS9 := Lib.hid ((HBS8.out.next hb).other (p := ⟨w6.heap.size + 1, 0, none⟩) (by simp; omega) (.slice (some ⟨w8.heap.size, 0, none⟩) 2 2))
        have HBX9 := Lib.hid ((HBX8.out.next hb).other (p := ⟨w6.heap.size + 1, 0, none⟩) (by simp; omega) (.slice (some ⟨w8.heap.size, 0, none⟩) 2 2))
        have HBY9 := Lib.hid ((HBY8.out.next hb).other (p := ⟨w6.heap.size + 1, 0, none⟩) (by simp; omega) (.slice (some ⟨w8.heap.size, 0, none⟩) 2 2))
        have HP9 := Lib.hid ((HP8.out.next hb).other (p := ⟨w6.heap.size + 1, 0, none⟩) (by simp) (.slice (some ⟨w8.heap.size, 0, none⟩) 2 2))
        have HQ9 := Lib.hid (hQ8.set 0 (.slice (some ⟨w8.heap.size, 0, none⟩) 2 2))
        have HO9 := Lib.hid (own_set_blk (own_below HO8.out hb (Nat.le_refl _)) hQ8 (by decide) 0 (.slice (some ⟨w8.heap.size, 0, none⟩) 2 2))
        have HOY9 := Lib.hid (own_set_blk HOY9'.out hQ8 (by decide) 0 (.slice (some ⟨w8.heap.size, 0, none⟩) 2 2))
        have HB9 := Lib.hid ((HB8.out.trans (hb.mono HB8.out.size)).setCell (p := ⟨w6.heap.size + 1, 0, none⟩) (by have := HB6s.out; simp; omega) (.slice (some ⟨w8.heap.size, 0, none⟩) 2 2))
        have HSEP := Lib.hid (show Sep (.slice o6 xs.length cap6) (.slice (some ⟨w8.heap.size, 0, none⟩) 2 2) from own_sep HO8.out HOY9'.out (Nat.le_refl _))
        have hsz9 : w8.heap.size ≤ ((w8.alloc (.cells #[.int .i64 ids.length, .int .i64 k] 3)).setCell ⟨w6.heap.size + 1, 0, none⟩ (.slice (some ⟨w8.heap.size, 0, none⟩) 2 2)).heap.size := by simp
        clear hb hQ8 HOY9' HBS8 HBX8 HBY8 HP8 HQ8 HO8 HB8 hlS hlX hlY hlP hlQ
        go_upto_region 13 with (fail)
        clear y0 fy0
        generalize (w8.alloc (.cells #[.int .i64 ids.length, .int .i64 k] 3)).setCell ⟨w6.heap.size + 1, 0, none⟩ (.slice (some ⟨w8.heap.size, 0, none⟩) 2 2) = w9 at HBS9 HBX9 HBY9 HP9 HQ9 HO9 HOY9 HB9 hsz9 ⊢
        generalize some (Addr.mk w8.heap.size 0 none) = oy at HQ9 HOY9 HSEP ⊢
        have xx : w9.cell? ⟨w6.heap.size, 0, none⟩ = some (.slice o6 xs.length cap6) := HP9.out.cell 0 rfl
        go_wp2_with fail
        refine (ref6May_any _ xs _ (Rd.of_own HO9.out) (by have := HXL.out; omega)).mono ?_
        rintro e w10 ⟨rfl, hs⟩
        have hb := hs.below w9.heap.size
        clear hs xx
        have HBS10 := Lib.hid (HBS9.out.next hb)
        have HBX10 := Lib.hid (HBX9.out.next hb)
        have HBY10 := Lib.hid (HBY9.out.next hb)
        have HP10 := Lib.hid (HP9.out.next hb)
        have HQ10 := Lib.hid (HQ9.out.next hb)
        have HO10 := Lib.hid (own_below HO9.out hb (Nat.le_refl _))
        have HOY10 := Lib.hid (own_below HOY9.out hb (Nat.le_refl _))
        have HB10 := Lib.hid (HB9.out.trans (hb.mono HB9.out.size))
        have hsz10 := hb.size
        clear hb HB9 HBS9 HBX9 HBY9 HP9 HQ9 HO9 HOY9
        by_cases hgx : shapeB xs = true
        · rw [hgx]
          have xx : w10.cell? ⟨w6.heap.size + 1, 0, none⟩ = some (.slice oy 2 2) := HQ10.out.cell 0 rfl
          go_wp2_with fail
          refine (ref6May_any _ [(ids.length : Int), (k : Int)] _ (Rd.of_own HOY10.out) (by simp)).mono ?_
          rintro e w11 ⟨rfl, hs⟩
          have hb := hs.below w10.heap.size
          clear hs xx
          have HBS11 := Lib.hid (HBS10.out.next hb)
          have HBX11 := Lib.hid (HBX10.out.next hb)
          have HBY11 := Lib.hid (HBY10.out.next hb)
          have HP11 := Lib.hid (HP10.out.next hb)
          have HQ11 := Lib.hid (HQ10.out.next hb)
          have HO11 := Lib.hid (own_below HO10.out hb (Nat.le_refl _))
          have HOY11 := Lib.hid (own_below HOY10.out hb (Nat.le_refl _))
          have HB11 := Lib.hid (HB10.out.trans (hb.mono HB10.out.size))
          have hsz11 := hb.size
          clear hb HB10 HBS10 HBX10 HBY10 HP10 HQ10 HO10 HOY10
          by_cases hgy : shapeB [(ids.length : Int), (k : Int)] = true
          · rw [hgy]
            have d0 := HBS11.out.cell 0 rfl
            go_wp2_with fail
            clear d0
            refine (ref6Count_any _ s.sh _ (HR.out.below HB11.out (Nat.le_refl _)).sh HSH.out.2.1 HSH.out.1).mono ?_
            rintro e w12 ⟨rfl, hs⟩
            have hb := hs.below w11.heap.size
            clear hs
            obtain ⟨cnt, size, many, hGN⟩ := goodN HG.out
            rw [cnt_of HSH.out.2.2, ← hGN.hs]
            have hcn : (cnt : Int) = n := by rw [HN.out]; exact hGN.hn
            have hsz1' : 1 ≤ size := hGN.s1
            have hsb : size ≤ 65536 := by have := hGN.hs; have := HSH.out.2.2; omega
            have HxN := Lib.hid hGN.hx
            obtain rfl : k = many := by
              have h1 := hGN.hm
              have h2 := HK.out
              rw [← HN.out, ← h2] at h1
              omega
            have HyN := Lib.hid hGN.hy
            have hkb : k ≤ 65536 := by
              have hq := ((goodSet_parts HG.out).2.2.2.2.2.2.2.2.2 (fun h0 => by have := ((goodSet_parts HG.out).2.2.2.2.2.2.2.2.1 h0).2.1; omega)).2.2
              rw [← HN.out, ← HK.out] at hq
              omega
            have HLB0 := Lib.hid (show s.lb.length = 0 from by
              rcases Nat.eq_zero_or_pos s.lb.length with h | h
              · exact h
              · have := ((goodSet_parts HG.out).2.2.2.2.2.2.2.2.1 h).2.1; omega)
            have HGN := Lib.hid hGN
            clear hGN
            have HBS12 := Lib.hid (HBS11.out.next hb)
            have HBX12 := Lib.hid (HBX11.out.next hb)
            have HBY12 := Lib.hid (HBY11.out.next hb)
            have HP12 := Lib.hid (HP11.out.next hb)
            have HQ12 := Lib.hid (HQ11.out.next hb)
            have HO12 := Lib.hid (own_below HO11.out hb (Nat.le_refl _))
            have HOY12 := Lib.hid (own_below HOY11.out hb (Nat.le_refl _))
            have HB12 := Lib.hid (HB11.out.trans (hb.mono HB11.out.size))
            have hsz12 := hb.size
            clear hb HB11 HBS11 HBX11 HBY11 HP11 HQ11 HO11 HOY11
            have HQR := Lib.hid (show ∀ i, i < ids.length → 0 ≤ nth ids i ∧ nth ids i < cnt from by
              intro i hi
              have hidn := HIDS.out
              have hx : ∀ k ∈ ids, (decide (k < 0) || decide (n ≤ k)) = false := fun k hk => by
                have := List.any_eq_false.1 hidn k hk
                simpa using this
              have := hx _ (nth_mem ids i hi)
              simp only [Bool.or_eq_false_iff, decide_eq_false_iff_not] at this
              omega)
            obtain ⟨i1, hj, hy0, hy1, hy2⟩ := info_parts info_int64'
            have HZ1 := Lib.hid (And.intro hj (And.intro hy0 (And.intro hy1 hy2)))
            clear hj hy0 hy1 hy2
            have hw7 : w6.heap.size + 1 < w12.heap.size := HQ12.out.lt
            have hS1 : w.heap.size < w12.heap.size := by omega
            have hS2 : w.heap.size ≠ w6.heap.size := by omega
            have hS3 : w.heap.size ≠ w6.heap.size + 1 := by omega
            go_wp2_with fail
            go_loopg [12, 14] ids.length (fun g v i wr => ∃ j : Nat, g = ids.length - j ∧ j ≤ ids.length ∧ v = .slice none 0 0 ∧ i = .int .i64 j ∧ BxAt w12.heap.size w6.heap.size (w6.heap.size + 1) w12 (.slice o6 xs.length cap6) (.slice oy 2 2) ((ids.take j).flatMap fun z => (s.x.drop (z.toNat * size)).take size) ((ids.take j).flatMap fun z => (s.y.drop (z.toNat * k)).take k) wr)
            case atStart => exact ⟨0, rfl, Nat.zero_le _, rfl, rfl, .slice none 0 0, .slice none 0 0, HP12.out, HQ12.out, World.ownsRow_nil _ _ _ _, World.ownsRow_nil _ _ _ _, (fun g h1 h2 => by cases h1), KeepX.refl _ _ _ _⟩
            case round =>
              obtain ⟨j, hgj, hj, rfl, rfl, xd, yd, q1, q2, q3, q4, q5, q6⟩ := hrel
              obtain ⟨w14, rfl⟩ : ∃ w14, w14 = wr := ⟨_, rfl⟩
              obtain ⟨xl, hxl⟩ : ∃ xl, xl = ((ids.take j).flatMap fun z => (s.x.drop (z.toNat * size)).take size) := ⟨_, rfl⟩
              obtain ⟨yl, hyl⟩ : ∃ yl : List Int, yl = ((ids.take j).flatMap fun z => (s.y.drop (z.toNat * k)).take k) := ⟨_, rfl⟩
              rw [← hxl] at q3
              rw [← hyl] at q4
              have hxll : xl.length ≤ j * size := by
                rw [hxl]
                have := flat_len (ids.take j) (fun z => (s.x.drop (z.toNat * size)).take size) size (fun x _ => List.length_take_le _ _)
                rwa [List.length_take, Nat.min_eq_left hj] at this
              have hxl2 : j * size ≤ 4096 * 65536 := Nat.mul_le_mul (by omega) hsb
              have hyll : yl.length ≤ j * k := by
                rw [hyl]
                have := flat_len (ids.take j) (fun z => (s.y.drop (z.toNat * k)).take k) k (fun x _ => List.length_take_le _ _)
                rwa [List.length_take, Nat.min_eq_left hj] at this
              have hyl2 : j * k ≤ 4096 * 65536 := Nat.mul_le_mul (by omega) hkb
              have hxl3 : xl.length ≤ 268435456 := by omega
              have hyl3 : yl.length ≤ 268435456 := by omega
              clear hyll hyl2
              have HXL := Lib.hid hxl
              have HYL := Lib.hid hyl
              clear hxl hyl hxll hxl2
              have HV := Lib.hid (BxMid.begin q1 q2 q3 q4 q5 q6)
              clear q1 q2 q3 q4 q5 q6
              by_cases hlt : j < ids.length
              · obtain ⟨bi, off, rfl, hci⟩ := HI.out.cell j hlt
                have hbi := cell_lt hci
                have hci12 := (HB12.out.cell (p := ⟨bi, off + j, none⟩) hbi).trans hci
                have hqq := HQR.out j hlt
                obtain ⟨q, hq⟩ : ∃ q : Nat, (q : Int) = nth ids j := ⟨(nth ids j).toNat, by omega⟩
                rw [← hq] at hci12
                have hqc : q < cnt := by omega
                have hqt : (nth ids j).toNat = q := by omega
                have HQQ := Lib.hid hqt
                obtain ⟨q1, hq1⟩ : ∃ q1, q1 = q + 1 := ⟨_, rfl⟩
                have HQ1 := Lib.hid hq1
                have hI1 : bi < w12.heap.size := by omega
                have hI2 : bi ≠ w6.heap.size := by omega
                have hI3 : bi ≠ w6.heap.size + 1 := by omega
                clear hci hq hqt hq1 hqq
                obtain ⟨A, hA⟩ : ∃ A, A = q * size := ⟨_, rfl⟩
                obtain ⟨A1, hA1⟩ : ∃ A1, A1 = q1 * size := ⟨_, rfl⟩
                have m3 : A1 = A + size := by rw [hA1, hA, HQ1.out, Nat.add_mul, Nat.one_mul]
                have m1 : q1 * size ≤ cnt * size := Nat.mul_le_mul_right _ (by have := HQ1.out; omega)
                have hxN := HxN.out
                have hcap := (HCB.out _ _ _ rfl).1
                have hlf := HL.out.x
                have n1 : A ≤ A1 := by omega
                have n2 : A1 ≤ s.x.length := by omega
                have n5 : A1 ≤ cap2 := by omega
                have e1 : IntKind.i64.wrap ((q : Int) * size) = (A : Int) := by rw [IntWalk.i64_in _ (by rw [← Int.natCast_mul, ← hA]; omega), hA, Int.natCast_mul]
                have e2 : IntKind.i64.wrap ((q : Int) + 1) = (q1 : Int) := by have := HQ1.out; rw [IntWalk.i64_in _ (by omega)]; omega
                have e3 : IntKind.i64.wrap ((q1 : Int) * size) = (A1 : Int) := by rw [IntWalk.i64_in _ (by rw [← Int.natCast_mul, ← hA1]; omega), hA1, Int.natCast_mul]
                have hne : ¬ cap2 = A := by omega
                have HMD := Lib.hid HV.out.drew
                have hsrc : Rd w14.drew .i64 (.slice (o2.map fun x => x.add A) (A1 - A) (cap2 - A)) ((s.x.drop (q * size)).take size) := by
                  have := rd_part (rd_keepx HR.out.x HB12.out HMD.out.far (by omega) (by omega) (by omega)) A A1 size m3 (by omega) hcap
                  simp only [partV, if_neg hne] at this
                  rw [← hA]; exact this
                obtain ⟨Zx, hZ⟩ : ∃ Z, Z = (s.x.drop (q * size)).take size := ⟨_, rfl⟩
                have hzl : Zx.length ≤ size := by rw [hZ]; exact List.length_take_le _ _
                rw [← hZ] at hsrc
                have HZx := Lib.hid hZ
                have HSRC := Lib.hid hsrc
                have cP := HV.out.x.cell 1 rfl
                have cS := (HV.out.far.box HBS12.out hS1 hS2 hS3).cell 1 rfl
                have cI := HV.out.far.cell hci12 hI1 hI2 hI3
                have hB2 : w12.heap.size ≤ w14.heap.size := HV.out.far.size
                have HLN := Lib.hid (show xl.length + Zx.length ≤ 1099511627776 by omega)
                clear hZ hA hA1 m3 m1 hxN hsrc hlf hcap hzl
                go_wp2_with fail
                go_still_tail 18, (by kernel_rfl)
                refine wpList_append_rd rfl _ _ 33 rfl w12.heap.size 2 .i64 i1 8 Try.underlying33 HZ1.out.1 HZ1.out.2.1 HZ1.out.2.2.1 HZ1.out.2.2.2 _ _ rfl HMD.out.ox _ Zx rfl HSRC.out (by have := HLN.out; unfold maxLen; omega) (by have := HLN.out; omega) hB2 ?_
                intro v' wax hown hgrow hat
                obtain ⟨oax, cax, rfl⟩ := own_slice hown
                have HAM := Lib.hid (HMD.out.appX (by omega) (by omega) hB2 hown hgrow hat)
                clear hown hgrow hat e1 e2 e3 n1 n2 n5 hne cP cS cI HMD HSRC HV HLN
                have cP := HAM.out.x.cell 1 rfl
                have fP := HAM.out.x.free 1
                go_upto_region 21 with (fail)
                obtain ⟨lz, hlz⟩ : ∃ lz, lz = (xl ++ Zx).length := ⟨_, rfl⟩
                have HSx := Lib.hid (HAM.out.setX (by omega) (by omega) (.slice oax (xl ++ Zx).length cax))
                clear cP fP HAM lz hlz
                try simp only [← List.length_append]
                generalize wax.setCell ⟨w6.heap.size, 1, none⟩ (.slice oax (xl ++ Zx).length cax) = w15 at HSx ⊢
                obtain ⟨A, hA⟩ : ∃ A, A = q * k := ⟨_, rfl⟩
                obtain ⟨A1, hA1⟩ : ∃ A1, A1 = q1 * k := ⟨_, rfl⟩
                have m3 : A1 = A + k := by rw [hA1, hA, HQ1.out, Nat.add_mul, Nat.one_mul]
                have m1 : q1 * k ≤ cnt * k := Nat.mul_le_mul_right _ (by have := HQ1.out; omega)
                have hxN := HyN.out
                have hcap := (HCD.out _ _ _ rfl).1
                have hlf := HL.out.y
                have n1 : A ≤ A1 := by omega
                have n2 : A1 ≤ s.y.length := by omega
                have n5 : A1 ≤ cap4 := by omega
                have e1 : IntKind.i64.wrap ((q : Int) * k) = (A : Int) := by rw [IntWalk.i64_in _ (by rw [← Int.natCast_mul, ← hA]; omega), hA, Int.natCast_mul]
                have e2 : IntKind.i64.wrap ((q : Int) + 1) = (q1 : Int) := by have := HQ1.out; rw [IntWalk.i64_in _ (by omega)]; omega
                have e3 : IntKind.i64.wrap ((q1 : Int) * k) = (A1 : Int) := by rw [IntWalk.i64_in _ (by rw [← Int.natCast_mul, ← hA1]; omega), hA1, Int.natCast_mul]
                have hne : ¬ cap4 = A := by omega
                have HMD := Lib.hid HSx.out.drew
                have hsrc : Rd w15.drew .i64 (.slice (o4.map fun x => x.add A) (A1 - A) (cap4 - A)) ((s.y.drop (q * k)).take k) := by
                  have := rd_part (rd_keepx HR.out.y HB12.out HMD.out.far (by omega) (by omega) (by omega)) A A1 k m3 (by omega) hcap
                  simp only [partV, if_neg hne] at this
                  rw [← hA]; exact this
                obtain ⟨Zy, hZ⟩ : ∃ Z, Z = (s.y.drop (q * k)).take k := ⟨_, rfl⟩
                have hzl : Zy.length ≤ k := by rw [hZ]; exact List.length_take_le _ _
                rw [← hZ] at hsrc
                have HZy := Lib.hid hZ
                have HSRC := Lib.hid hsrc
                have cP := HSx.out.y.cell 1 rfl
                have cS := (HSx.out.far.box HBS12.out hS1 hS2 hS3).cell 3 rfl
                have cI := HSx.out.far.cell hci12 hI1 hI2 hI3
                have hB2 : w12.heap.size ≤ w15.heap.size := HSx.out.far.size
                have HLN := Lib.hid (show yl.length + Zy.length ≤ 1099511627776 by omega)
                clear hZ hA hA1 m3 m1 hxN hsrc hlf hcap hzl
                go_wp2_with fail
                go_still_tail 18, (by kernel_rfl)
                refine wpList_append_rd rfl _ _ 33 rfl w12.heap.size 2 .i64 i1 8 Try.underlying33 HZ1.out.1 HZ1.out.2.1 HZ1.out.2.2.1 HZ1.out.2.2.2 _ _ rfl HMD.out.oy _ Zy rfl HSRC.out (by have := HLN.out; unfold maxLen; omega) (by have := HLN.out; omega) hB2 ?_
                intro v' way hown hgrow hat
                obtain ⟨oay, cay, rfl⟩ := own_slice hown
                have HAM := Lib.hid (HMD.out.appY (by omega) (by omega) hB2 hown hgrow hat)
                clear hown hgrow hat e1 e2 e3 n1 n2 n5 hne cP cS cI HMD HSRC HSx HLN
                have cP := HAM.out.y.cell 1 rfl
                have fP := HAM.out.y.free 1
                go_upto_region 19 with (fail)
                obtain ⟨lz, hlz⟩ : ∃ lz, lz = (yl ++ Zy).length := ⟨_, rfl⟩
                have HSy := Lib.hid (HAM.out.setY (by omega) (by omega) (.slice oay (yl ++ Zy).length cay))
                clear cP fP HAM lz hlz
                try simp only [← List.length_append]
                generalize way.setCell ⟨w6.heap.size + 1, 1, none⟩ (.slice oay (yl ++ Zy).length cay) = w16 at HSy ⊢
                go_wp2_with fail
                go_roundg (ids.length - (j + 1))
                case rel =>
                  refine ⟨j + 1, rfl, by omega, rfl, by go_num, _, _, HSy.out.x, HSy.out.y, ?_, ?_, HSy.out.sep, HSy.out.far⟩
                  · rw [take_succ_nth ids j hlt, List.flatMap_append, List.flatMap_singleton, ← HXL.out, HQQ.out, ← HZx.out]; exact HSy.out.ox
                  · rw [take_succ_nth ids j hlt, List.flatMap_append, List.flatMap_singleton, ← HYL.out, HQQ.out, ← HZy.out]; exact HSy.out.oy
                case measure => omega
              · obtain rfl : j = ids.length := by omega
                rw [List.take_length] at HXL HYL
                have HOf := Lib.hid (own_keepx_box HO12.out HV.out.far (Nat.le_refl _) HP12.out HQ12.out (by decide) (by decide))
                have HOYf := Lib.hid (own_keepx_box HOY12.out HV.out.far (Nat.le_refl _) HP12.out HQ12.out (by decide) (by decide))
                have HBXf := Lib.hid (HV.out.far.box HBX12.out (by omega) (by omega) (by omega))
                have HBYf := Lib.hid (HV.out.far.box HBY12.out (by omega) (by omega) (by omega))
                have HBf := Lib.hid (show Below w.heap.size w w14 from HB12.out.trans ⟨HV.out.far.rest.1, HV.out.far.rest.2.1, HV.out.far.rest.2.2, HV.out.far.size, fun k hk => HV.out.far.block k (by omega) (by omega) (by omega)⟩)
                have HXB := Lib.hid (show xl = batchX s ids by
                  have : (prodL s.sh).toNat = size := by have := HGN.out.hs; omega
                  rw [batchX, this]; exact HXL.out)
                have HYB := Lib.hid (show yl = batchY s ids by
                  have : ((s.y.length : Int) / countS s).toNat = k := by have := HGN.out.hm; omega
                  rw [batchY, this]; exact HYL.out)
                have HLL := Lib.hid (show OwnI w14 w12.heap.size 3 .i64 (.slice none 0 0) (batchL s ids) by
                  rw [batchL, if_neg (by have := HLB0.out; omega)]; exact World.ownsRow_nil _ _ _ _)
                obtain ⟨axd, cxd, rfl⟩ := own_slice HV.out.ox
                obtain ⟨ayd, cyd, rfl⟩ := own_slice HV.out.oy
                have p0 := HV.out.x.cell 0 rfl
                have p1 := HV.out.x.cell 1 rfl
                have p2 := HV.out.y.cell 0 rfl
                have p3 := HV.out.y.cell 1 rfl
                have x0 := HBXf.out.cell 0 rfl
                have x1 := HBXf.out.cell 1 rfl
                have y0 := HBYf.out.cell 0 rfl
                have y1 := HBYf.out.cell 1 rfl
                have fx0 := HBXf.out.free 0
                have fx1 := HBXf.out.free 1
                have fy0 := HBYf.out.free 0
                have fy1 := HBYf.out.free 1
                have hyx : yl.length ≤ 1099511627776 := by omega
                go_wp2_with fail
                go_region
                all_goals go_wp2_with fail
                clear p0 p1 p2 p3 x0 x1 y0 y1 fx0 fx1 fy0 fy1
                have hbud : budB s ids = false := by
                  have hx := HXS.out
                  have hN := HN.out
                  have hYY : yShape s ids = [(ids.length : Int), (k : Int)] := by rw [yShape, if_pos hy, ← hN, ← HK.out]
                  rw [budB, hYY, show (ids.length : Int) :: s.sh = xs from hx.symm, hgx, hgy]; rfl
                have HTT := Lib.hid (tens_two (a := (.slice o6 xs.length cap6)) (b := .slice axd xl.length cxd) (c := (.slice oy 2 2)) (d := .slice ayd yl.length cyd) HBXf.out HBYf.out (by omega))
                have HQ1 := Lib.hid (end_own (X := w.heap.size + 1) (Y := w.heap.size + 2) HOf.out (by have := HSZ.out; omega) (by have := HSZ.out; omega) (.slice o6 xs.length cap6) (.slice axd xl.length cxd) (.slice oy 2 2) (.slice ayd yl.length cyd))
                have HQ2 := Lib.hid (end_own (X := w.heap.size + 1) (Y := w.heap.size + 2) HOYf.out (by omega) (by omega) (.slice o6 xs.length cap6) (.slice axd xl.length cxd) (.slice oy 2 2) (.slice ayd yl.length cyd))
                have HQ3 := Lib.hid (end_own (X := w.heap.size + 1) (Y := w.heap.size + 2) HV.out.ox (by omega) (by omega) (.slice o6 xs.length cap6) (.slice axd xl.length cxd) (.slice oy 2 2) (.slice ayd yl.length cyd))
                have HQ4 := Lib.hid (end_own (X := w.heap.size + 1) (Y := w.heap.size + 2) HV.out.oy (by omega) (by omega) (.slice o6 xs.length cap6) (.slice axd xl.length cxd) (.slice oy 2 2) (.slice ayd yl.length cyd))
                have HQ5 := Lib.hid (end_own (X := w.heap.size + 1) (Y := w.heap.size + 2) HLL.out (by omega) (by omega) (.slice o6 xs.length cap6) (.slice axd xl.length cxd) (.slice oy 2 2) (.slice ayd yl.length cyd))
                have HQB := Lib.hid (end_below (X := w.heap.size + 1) (Y := w.heap.size + 2) (x0 := (.slice o6 xs.length cap6)) (x1 := .slice axd xl.length cxd) (y0 := (.slice oy 2 2)) (y1 := .slice ayd yl.length cyd) HBf.out (by omega) (by omega))
                have HQX := Lib.hid (HTT.out.1.same (⟨1, rfl⟩ : Same _ (endW w14 (w.heap.size + 1) (w.heap.size + 2) (.slice o6 xs.length cap6) (.slice axd xl.length cxd) (.slice oy 2 2) (.slice ayd yl.length cyd))))
                have HQY := Lib.hid (HTT.out.2.same (⟨1, rfl⟩ : Same _ (endW w14 (w.heap.size + 1) (w.heap.size + 2) (.slice o6 xs.length cap6) (.slice axd xl.length cxd) (.slice oy 2 2) (.slice ayd yl.length cyd))))
                clear HTT
                unfold endW at HQ1 HQ2 HQ3 HQ4 HQ5 HQB HQX HQY
                generalize ((((w14.setCell ⟨w.heap.size + 1, 0, none⟩ (.slice o6 xs.length cap6)).setCell ⟨w.heap.size + 1, 1, none⟩ (.slice axd xl.length cxd)).setCell ⟨w.heap.size + 2, 0, none⟩ (.slice oy 2 2)).setCell ⟨w.heap.size + 2, 1, none⟩ (.slice ayd yl.length cyd)).drew = wq at HQ1 HQ2 HQ3 HQ4 HQ5 HQB HQX HQY ⊢
                have x0 := HQX.out.cell 0 rfl
                have x1 := HQX.out.cell 1 rfl
                have y0 := HQY.out.cell 0 rfl
                have y1 := HQY.out.cell 1 rfl
                refine bodyPost_ret (v := .tuple #[.agg #[(.slice o6 xs.length cap6), .slice axd xl.length cxd], (.slice none 0 0), .agg #[(.slice oy 2 2), .slice ayd yl.length cyd], .int .i64 0]) (by simp [results, Try.results22, go_sem, x0, x1, y0, y1]) rfl (.inr (.inr ⟨HBAD.out, hbud, _, rfl, ⟨_, _, _, _, _, rfl, ?_, ?_, ?_, ?_, ?_, ?_, ?_, ?_, ?_⟩, HQB.out⟩))
                · have hx := HXS.out
                  rw [show (ids.length : Int) :: s.sh = xs from hx.symm]
                  exact own_mono HQ1.out (by have := HSZ.out; omega)
                · rw [← HXB.out]; exact own_mono HQ3.out (by omega)
                · exact own_mono HQ5.out (by omega)
                · rw [show yShape s ids = [(ids.length : Int), (k : Int)] from by rw [yShape, if_pos hy, ← HN.out, ← HK.out]]; exact own_mono HQ2.out (by omega)
                · rw [← HYB.out]; exact own_mono HQ4.out (by omega)
                · exact fun g h1 h2 => by cases h2
                · exact HSEP.out
                · exact fun g h1 h2 => by cases h1
                · exact HV.out.sep
          · have hgy := Bool.eq_false_iff.2 hgy
            rw [hgy]
            have hbud : budB s ids = true := by
              have hx := HXS.out
              have hN := HN.out
              have hYY : yShape s ids = [(ids.length : Int), (k : Int)] := by rw [yShape, if_pos hy, ← hN, ← HK.out]
              rw [budB, hYY, show (ids.length : Int) :: s.sh = xs from hx.symm, hgx, hgy]; rfl

            have x0 := HBX11.out.cell 0 rfl
            have x1 := HBX11.out.cell 1 rfl
            have y0 := HBY11.out.cell 0 rfl
            have y1 := HBY11.out.cell 1 rfl
            have fx0 := HBX11.out.free 0
            have fx1 := HBX11.out.free 1
            have fy0 := HBY11.out.free 0
            have fy1 := HBY11.out.free 1
            go_wp2_with fail
            have HTT := Lib.hid (tens_two (a := .slice none 0 0) (b := .slice none 0 0) (c := .slice none 0 0) (d := .slice none 0 0) HBX11.out HBY11.out (by omega))
            have HBF := Lib.hid (show Below w.heap.size w ((((w11.setCell ⟨w.heap.size + 1, 0, none⟩ (.slice none 0 0)).setCell ⟨w.heap.size + 1, 1, none⟩ (.slice none 0 0)).setCell ⟨w.heap.size + 2, 0, none⟩ (.slice none 0 0)).setCell ⟨w.heap.size + 2, 1, none⟩ (.slice none 0 0)) from
              ((((HB11.out.setCell (p := ⟨w.heap.size + 1, 0, none⟩) (Nat.le_succ _) _).setCell (p := ⟨w.heap.size + 1, 1, none⟩) (Nat.le_succ _) _).setCell (p := ⟨w.heap.size + 2, 0, none⟩) (Nat.le_add_right _ _) _).setCell (p := ⟨w.heap.size + 2, 1, none⟩) (Nat.le_add_right _ _) _))
            clear x0 x1 y0 y1 fx0 fx1 fy0 fy1
            generalize ((((w11.setCell ⟨w.heap.size + 1, 0, none⟩ (.slice none 0 0)).setCell ⟨w.heap.size + 1, 1, none⟩ (.slice none 0 0)).setCell ⟨w.heap.size + 2, 0, none⟩ (.slice none 0 0)).setCell ⟨w.heap.size + 2, 1, none⟩ (.slice none 0 0)) = wz at HTT HBF ⊢
            have x0 : wz.cell? ⟨w.heap.size + 1, 0, none⟩ = some (.slice none 0 0) := HTT.out.1.cell 0 rfl
            have x1 : wz.cell? ⟨w.heap.size + 1, 1, none⟩ = some (.slice none 0 0) := HTT.out.1.cell 1 rfl
            have y0 : wz.cell? ⟨w.heap.size + 2, 0, none⟩ = some (.slice none 0 0) := HTT.out.2.cell 0 rfl
            have y1 : wz.cell? ⟨w.heap.size + 2, 1, none⟩ = some (.slice none 0 0) := HTT.out.2.cell 1 rfl
            exact bodyPost_ret (v := .tuple #[.agg #[.slice none 0 0, .slice none 0 0], .slice none 0 0, .agg #[.slice none 0 0, .slice none 0 0], .int .i64 5]) (by simp [results, Try.results22, go_sem, x0, x1, y0, y1]) rfl (.inr (.inl ⟨HBAD.out, hbud, rfl, HBF.out⟩))
        · have hgx := Bool.eq_false_iff.2 hgx
          rw [hgx]
          have hbud : budB s ids = true := by
            have hx := HXS.out
            have hN := HN.out
            have hYY : yShape s ids = [(ids.length : Int), (k : Int)] := by rw [yShape, if_pos hy, ← hN, ← HK.out]
            rw [budB, hYY, show (ids.length : Int) :: s.sh = xs from hx.symm, hgx]; rfl

          have x0 := HBX10.out.cell 0 rfl
          have x1 := HBX10.out.cell 1 rfl
          have y0 := HBY10.out.cell 0 rfl
          have y1 := HBY10.out.cell 1 rfl
          have fx0 := HBX10.out.free 0
          have fx1 := HBX10.out.free 1
          have fy0 := HBY10.out.free 0
          have fy1 := HBY10.out.free 1
          go_wp2_with fail
          have HTT := Lib.hid (tens_two (a := .slice none 0 0) (b := .slice none 0 0) (c := .slice none 0 0) (d := .slice none 0 0) HBX10.out HBY10.out (by omega))
          have HBF := Lib.hid (show Below w.heap.size w ((((w10.setCell ⟨w.heap.size + 1, 0, none⟩ (.slice none 0 0)).setCell ⟨w.heap.size + 1, 1, none⟩ (.slice none 0 0)).setCell ⟨w.heap.size + 2, 0, none⟩ (.slice none 0 0)).setCell ⟨w.heap.size + 2, 1, none⟩ (.slice none 0 0)) from
            ((((HB10.out.setCell (p := ⟨w.heap.size + 1, 0, none⟩) (Nat.le_succ _) _).setCell (p := ⟨w.heap.size + 1, 1, none⟩) (Nat.le_succ _) _).setCell (p := ⟨w.heap.size + 2, 0, none⟩) (Nat.le_add_right _ _) _).setCell (p := ⟨w.heap.size + 2, 1, none⟩) (Nat.le_add_right _ _) _))
          clear x0 x1 y0 y1 fx0 fx1 fy0 fy1
          generalize ((((w10.setCell ⟨w.heap.size + 1, 0, none⟩ (.slice none 0 0)).setCell ⟨w.heap.size + 1, 1, none⟩ (.slice none 0 0)).setCell ⟨w.heap.size + 2, 0, none⟩ (.slice none 0 0)).setCell ⟨w.heap.size + 2, 1, none⟩ (.slice none 0 0)) = wz at HTT HBF ⊢
          have x0 : wz.cell? ⟨w.heap.size + 1, 0, none⟩ = some (.slice none 0 0) := HTT.out.1.cell 0 rfl
          have x1 : wz.cell? ⟨w.heap.size + 1, 1, none⟩ = some (.slice none 0 0) := HTT.out.1.cell 1 rfl
          have y0 : wz.cell? ⟨w.heap.size + 2, 0, none⟩ = some (.slice none 0 0) := HTT.out.2.cell 0 rfl
          have y1 : wz.cell? ⟨w.heap.size + 2, 1, none⟩ = some (.slice none 0 0) := HTT.out.2.cell 1 rfl
          exact bodyPost_ret (v := .tuple #[.agg #[.slice none 0 0, .slice none 0 0], .slice none 0 0, .agg #[.slice none 0 0, .slice none 0 0], .int .i64 5]) (by simp [results, Try.results22, go_sem, x0, x1, y0, y1]) rfl (.inr (.inl ⟨HBAD.out, hbud, rfl, HBF.out⟩))
      · have hk0 : k = 0 := by
          have hm := HK.out
          rw [show s.y.length = 0 by omega] at hm
          simp at hm; omega
        subst hk0
        have e3 : decide ((0 : Int) < ((0 : Nat) : Int)) = false := by decide
        have HSEP := Lib.hid (show Sep (.slice o6 xs.length cap6) (.slice none 0 0) from fun g h1 h2 => by cases h2)
        have HOY8 := Lib.hid (show OwnI w8 w8.heap.size 3 .i64 (.slice none 0 0) [] from World.ownsRow_nil _ _ _ _)
        obtain ⟨w9, rfl⟩ : ∃ w9, w9 = w8 := ⟨_, rfl⟩
        have HBS9 := HBS8
        have HBX9 := HBX8
        have HBY9 := HBY8
        have HP9 := HP8
        have HQ9 := HQ8
        have HO9 := HO8
        have HOY9 := HOY8
        have HB9 := HB8
        have hsz9 : W7.heap.size ≤ w9.heap.size := hsz8
        clear HBS8 HBX8 HBY8 HP8 HQ8 HO8 HOY8 HB8
        have xx : w9.cell? ⟨w6.heap.size, 0, none⟩ = some (.slice o6 xs.length cap6) := HP9.out.cell 0 rfl
        go_wp2_with fail
        refine (ref6May_any _ xs _ (Rd.of_own HO9.out) (by have := HXL.out; omega)).mono ?_
        rintro e w10 ⟨rfl, hs⟩
        have hb := hs.below w9.heap.size
        clear hs xx
        have HBS10 := Lib.hid (HBS9.out.next hb)
        have HBX10 := Lib.hid (HBX9.out.next hb)
        have HBY10 := Lib.hid (HBY9.out.next hb)
        have HP10 := Lib.hid (HP9.out.next hb)
        have HQ10 := Lib.hid (HQ9.out.next hb)
        have HO10 := Lib.hid (own_below HO9.out hb (Nat.le_refl _))
        have HOY10 := Lib.hid (own_below HOY9.out hb (Nat.le_refl _))
        have HB10 := Lib.hid (HB9.out.trans (hb.mono HB9.out.size))
        have hsz10 := hb.size
        clear hb HB9 HBS9 HBX9 HBY9 HP9 HQ9 HO9 HOY9
        by_cases hgx : shapeB xs = true
        · rw [hgx]
          have hgy : shapeB [] = true := by decide
          obtain ⟨w11, rfl⟩ : ∃ w11, w11 = w10 := ⟨_, rfl⟩
          have HBS11 := HBS10
          have HBX11 := HBX10
          have HBY11 := HBY10
          have HP11 := HP10
          have HQ11 := HQ10
          have HO11 := HO10
          have HOY11 := HOY10
          have HB11 := HB10
          have hsz11 : w9.heap.size ≤ w11.heap.size := hsz10
          clear HBS10 HBX10 HBY10 HP10 HQ10 HO10 HOY10 HB10
          have d0 := HBS11.out.cell 0 rfl
          go_wp2_with fail
          clear d0
          refine (ref6Count_any _ s.sh _ (HR.out.below HB11.out (Nat.le_refl _)).sh HSH.out.2.1 HSH.out.1).mono ?_
          rintro e w12 ⟨rfl, hs⟩
          have hb := hs.below w11.heap.size
          clear hs
          obtain ⟨cnt, size, many, hGN⟩ := goodN HG.out
          rw [cnt_of HSH.out.2.2, ← hGN.hs]
          have hcn : (cnt : Int) = n := by rw [HN.out]; exact hGN.hn
          have hsz1' : 1 ≤ size := hGN.s1
          have hsb : size ≤ 65536 := by have := hGN.hs; have := HSH.out.2.2; omega
          have HxN := Lib.hid hGN.hx
          have hl0 : 0 < s.lb.length := by
            rcases Nat.eq_zero_or_pos s.lb.length with h | h
            · have := ((goodSet_parts HG.out).2.2.2.2.2.2.2.2.2 (by omega)).1; omega
            · exact h
          have HLBN := Lib.hid (show s.lb.length = cnt from (hGN.lb hl0).1)
          have HGN := Lib.hid hGN
          clear hGN
          have HBS12 := Lib.hid (HBS11.out.next hb)
          have HBX12 := Lib.hid (HBX11.out.next hb)
          have HBY12 := Lib.hid (HBY11.out.next hb)
          have HP12 := Lib.hid (HP11.out.next hb)
          have HQ12 := Lib.hid (HQ11.out.next hb)
          have HO12 := Lib.hid (own_below HO11.out hb (Nat.le_refl _))
          have HOY12 := Lib.hid (own_below HOY11.out hb (Nat.le_refl _))
          have HB12 := Lib.hid (HB11.out.trans (hb.mono HB11.out.size))
          have hsz12 := hb.size
          clear hb HB11 HBS11 HBX11 HBY11 HP11 HQ11 HO11 HOY11
          have HQR := Lib.hid (show ∀ i, i < ids.length → 0 ≤ nth ids i ∧ nth ids i < cnt from by
            intro i hi
            have hidn := HIDS.out
            have hx : ∀ k ∈ ids, (decide (k < 0) || decide (n ≤ k)) = false := fun k hk => by
              have := List.any_eq_false.1 hidn k hk
              simpa using this
            have := hx _ (nth_mem ids i hi)
            simp only [Bool.or_eq_false_iff, decide_eq_false_iff_not] at this
            omega)
          obtain ⟨i1, hj, hy0, hy1, hy2⟩ := info_parts info_int64'
          have HZ1 := Lib.hid (And.intro hj (And.intro hy0 (And.intro hy1 hy2)))
          clear hj hy0 hy1 hy2
          have hw7 : w6.heap.size + 1 < w12.heap.size := HQ12.out.lt
          have hS1 : w.heap.size < w12.heap.size := by omega
          have hS2 : w.heap.size ≠ w6.heap.size := by omega
          have hS3 : w.heap.size ≠ w6.heap.size + 1 := by omega
          go_wp2_with fail
          go_loopg [12, 14] ids.length (fun g v i wr => ∃ j : Nat, g = ids.length - j ∧ j ≤ ids.length ∧ OwnI wr w12.heap.size 3 .i64 v ((ids.take j).map fun q => nth s.lb q.toNat) ∧ i = .int .i64 j ∧ BxAt w12.heap.size w6.heap.size (w6.heap.size + 1) w12 (.slice o6 xs.length cap6) (.slice none 0 0) ((ids.take j).flatMap fun z => (s.x.drop (z.toNat * size)).take size) [] wr)
          case atStart => exact ⟨0, rfl, Nat.zero_le _, World.ownsRow_nil _ _ _ _, rfl, .slice none 0 0, .slice none 0 0, HP12.out, HQ12.out, World.ownsRow_nil _ _ _ _, World.ownsRow_nil _ _ _ _, (fun g h1 h2 => by cases h1), KeepX.refl _ _ _ _⟩
          case round =>
            obtain ⟨j, hgj, hj, hlab, rfl, xd, yd, q1, q2, q3, q4, q5, q6⟩ := hrel
            obtain ⟨w14, rfl⟩ : ∃ w14, w14 = wr := ⟨_, rfl⟩
            obtain ⟨xl, hxl⟩ : ∃ xl, xl = ((ids.take j).flatMap fun z => (s.x.drop (z.toNat * size)).take size) := ⟨_, rfl⟩
            obtain ⟨yl, hyl⟩ : ∃ yl : List Int, yl = [] := ⟨_, rfl⟩
            rw [← hxl] at q3
            rw [← hyl] at q4
            have hxll : xl.length ≤ j * size := by
              rw [hxl]
              have := flat_len (ids.take j) (fun z => (s.x.drop (z.toNat * size)).take size) size (fun x _ => List.length_take_le _ _)
              rwa [List.length_take, Nat.min_eq_left hj] at this
            have hxl2 : j * size ≤ 4096 * 65536 := Nat.mul_le_mul (by omega) hsb
            have hxl3 : xl.length ≤ 268435456 := by omega
            have HXL := Lib.hid hxl
            have HYL := Lib.hid hyl
            clear hxl hyl hxll hxl2
            have HV := Lib.hid (BxMid.begin q1 q2 q3 q4 q5 q6)
            clear q1 q2 q3 q4 q5 q6
            obtain ⟨LJ, hLJ⟩ : ∃ LJ, LJ = (ids.take j).map fun q => nth s.lb q.toNat := ⟨_, rfl⟩
            rw [← hLJ] at hlab
            have hljl : LJ.length = j := by rw [hLJ]; simp; omega
            obtain ⟨av, cv, rfl⟩ := own_slice hlab
            have HLAB := Lib.hid hlab
            have HLJ := Lib.hid hLJ
            have HLJL := Lib.hid hljl
            clear hlab hLJ hljl
            by_cases hlt : j < ids.length
            · obtain ⟨bi, off, rfl, hci⟩ := HI.out.cell j hlt
              have hbi := cell_lt hci
              have hci12 := (HB12.out.cell (p := ⟨bi, off + j, none⟩) hbi).trans hci
              have hqq := HQR.out j hlt
              obtain ⟨q, hq⟩ : ∃ q : Nat, (q : Int) = nth ids j := ⟨(nth ids j).toNat, by omega⟩
              rw [← hq] at hci12
              have hqc : q < cnt := by omega
              have hqt : (nth ids j).toNat = q := by omega
              have HQQ := Lib.hid hqt
              obtain ⟨q1, hq1⟩ : ∃ q1, q1 = q + 1 := ⟨_, rfl⟩
              have HQ1 := Lib.hid hq1
              have hI1 : bi < w12.heap.size := by omega
              have hI2 : bi ≠ w6.heap.size := by omega
              have hI3 : bi ≠ w6.heap.size + 1 := by omega
              clear hci hq hqt hq1 hqq
              obtain ⟨A, hA⟩ : ∃ A, A = q * size := ⟨_, rfl⟩
              obtain ⟨A1, hA1⟩ : ∃ A1, A1 = q1 * size := ⟨_, rfl⟩
              have m3 : A1 = A + size := by rw [hA1, hA, HQ1.out, Nat.add_mul, Nat.one_mul]
              have m1 : q1 * size ≤ cnt * size := Nat.mul_le_mul_right _ (by have := HQ1.out; omega)
              have hxN := HxN.out
              have hcap := (HCB.out _ _ _ rfl).1
              have hlf := HL.out.x
              have n1 : A ≤ A1 := by omega
              have n2 : A1 ≤ s.x.length := by omega
              have n5 : A1 ≤ cap2 := by omega
              have e1 : IntKind.i64.wrap ((q : Int) * size) = (A : Int) := by rw [IntWalk.i64_in _ (by rw [← Int.natCast_mul, ← hA]; omega), hA, Int.natCast_mul]
              have e2 : IntKind.i64.wrap ((q : Int) + 1) = (q1 : Int) := by have := HQ1.out; rw [IntWalk.i64_in _ (by omega)]; omega
              have e3 : IntKind.i64.wrap ((q1 : Int) * size) = (A1 : Int) := by rw [IntWalk.i64_in _ (by rw [← Int.natCast_mul, ← hA1]; omega), hA1, Int.natCast_mul]
              have hne : ¬ cap2 = A := by omega
              have HMD := Lib.hid HV.out.drew
              have hsrc : Rd w14.drew .i64 (.slice (o2.map fun x => x.add A) (A1 - A) (cap2 - A)) ((s.x.drop (q * size)).take size) := by
                have := rd_part (rd_keepx HR.out.x HB12.out HMD.out.far (by omega) (by omega) (by omega)) A A1 size m3 (by omega) hcap
                simp only [partV, if_neg hne] at this
                rw [← hA]; exact this
              obtain ⟨Zx, hZ⟩ : ∃ Z, Z = (s.x.drop (q * size)).take size := ⟨_, rfl⟩
              have hzl : Zx.length ≤ size := by rw [hZ]; exact List.length_take_le _ _
              rw [← hZ] at hsrc
              have HZx := Lib.hid hZ
              have HSRC := Lib.hid hsrc
              have cP := HV.out.x.cell 1 rfl
              have cS := (HV.out.far.box HBS12.out hS1 hS2 hS3).cell 1 rfl
              have cI := HV.out.far.cell hci12 hI1 hI2 hI3
              have hB2 : w12.heap.size ≤ w14.heap.size := HV.out.far.size
              have HLN := Lib.hid (show xl.length + Zx.length ≤ 1099511627776 by omega)
              clear hZ hA hA1 m3 m1 hxN hsrc hlf hcap hzl
              go_wp2_with fail
              go_still_tail 18, (by kernel_rfl)
              refine wpList_append_rd rfl _ _ 33 rfl w12.heap.size 2 .i64 i1 8 Try.underlying33 HZ1.out.1 HZ1.out.2.1 HZ1.out.2.2.1 HZ1.out.2.2.2 _ _ rfl HMD.out.ox _ Zx rfl HSRC.out (by have := HLN.out; unfold maxLen; omega) (by have := HLN.out; omega) hB2 ?_
              intro v' wax hown hgrow hat
              obtain ⟨oax, cax, rfl⟩ := own_slice hown
              have HAM := Lib.hid (HMD.out.appX (by omega) (by omega) hB2 hown hgrow hat)
              have HLA := Lib.hid (own_grown (own_same HLAB.out ⟨1, rfl⟩) hgrow (sep_type HMD.out.ox (own_same HLAB.out ⟨1, rfl⟩) (by decide)))
              clear hown hgrow hat e1 e2 e3 n1 n2 n5 hne cP cS cI HMD HSRC HV HLN
              have cP := HAM.out.x.cell 1 rfl
              have fP := HAM.out.x.free 1
              go_upto_region 21 with (fail)
              obtain ⟨lz, hlz⟩ : ∃ lz, lz = (xl ++ Zx).length := ⟨_, rfl⟩
              have HSx := Lib.hid (HAM.out.setX (by omega) (by omega) (.slice oax (xl ++ Zx).length cax))
              have HLB := Lib.hid (own_setLt (S := w6.heap.size) (j := 1) HLA.out (by omega) (.slice oax (xl ++ Zx).length cax))
              clear HLA
              clear cP fP HAM lz hlz
              try simp only [← List.length_append]
              generalize wax.setCell ⟨w6.heap.size, 1, none⟩ (.slice oax (xl ++ Zx).length cax) = w15 at HSx HLB ⊢
              obtain ⟨bl, ol, rfl, hcl⟩ := HR.out.lb.cell q (by have := HLBN.out; omega)
              have hbl := cell_lt hcl
              have cL := HSx.out.far.cell ((HB12.out.cell (p := ⟨bl, ol + q, none⟩) hbl).trans hcl) (by omega) (by omega) (by omega)
              have cS := (HSx.out.far.box HBS12.out hS1 hS2 hS3).cell 2 rfl
              have cI := HSx.out.far.cell hci12 hI1 hI2 hI3
              have hqlb : q < s.lb.length := by have := HLBN.out; omega
              obtain ⟨y1, hy1⟩ : ∃ y1, y1 = nth s.lb q := ⟨_, rfl⟩
              rw [← hy1] at cL
              have HY1 := Lib.hid hy1
              have HSD := Lib.hid HSx.out.drew
              have HLD := Lib.hid (own_same HLB.out ⟨1, rfl⟩ : OwnI w15.drew w12.heap.size 3 .i64 (.slice av LJ.length cv) LJ)
              have hB2 : w12.heap.size ≤ w15.heap.size := HSx.out.far.size
              have hal : Below w15.heap.size w15.drew (w15.drew.alloc (.cells #[.int .i64 y1] 3)) := (Below.refl w15.heap.size w15.drew).alloc (Nat.le_refl w15.heap.size) _
              have hdr : Below w12.heap.size w15 w15.drew := ⟨rfl, rfl, rfl, Nat.le_refl _, fun _ _ => rfl⟩
              have hal2 : Below w12.heap.size w15 (w15.drew.alloc (.cells #[.int .i64 y1] 3)) := hdr.trans (hal.mono hB2)
              have hLD2 := (HLD.out.alloc (.cells #[.int .i64 y1] 3))
              have hnew : Rd (w15.drew.alloc (.cells #[.int .i64 y1] 3)) .i64 (.slice (some ⟨w15.heap.size, 0, none⟩) 1 1) [y1] := Rd.of_own (OwnI.lit w15.drew .i64 [y1] 3 (Nat.le_of_ble_eq_true rfl))
              have hLB1 : w12.heap.size ≤ (w15.drew.alloc (.cells #[.int .i64 y1] 3)).heap.size := by simp; omega
              have hIW : bl < w12.heap.size := by omega
              have HH := Lib.hid (And.intro hal (And.intro hdr (And.intro hal2 (And.intro hLD2 (And.intro hnew hLB1)))))
              have HCI := Lib.hid cI
              have HCS := Lib.hid cS
              have HCL := Lib.hid cL
              clear hcl hy1 hal hdr hal2 hLD2 hnew hLB1
              go_wp2_with fail
              go_region_held3 (fun w' => w'.cell? ⟨bi, off + j, none⟩ = some (.int .i64 q) ∧ w'.cell? ⟨w.heap.size, 2, none⟩ = some (.slice (some ⟨bl, ol, none⟩) s.lb.length cap3) ∧ w'.cell? ⟨bl, ol + q, none⟩ = some (.int .i64 y1)) ((refine keep3 HCI.out hI1 HCS.out hS1 HCL.out hIW ?_; first | exact HX.out | exact HH.out.2.1 | exact HH.out.2.2.1))
                (first
                | (refine step_append_rd rfl (.tmp 131) (.tmp 140) 32 rfl w12.heap.size 3 .i64 i0 8 Try.underlying32 HZZ.out.1 HZZ.out.2.1 HZZ.out.2.2.1 HZZ.out.2.2.2 _ LJ rfl HH.out.2.2.2.1 _ [y1] rfl HH.out.2.2.2.2.1 (by have := HLJL.out; unfold maxLen; simp; omega) (by have := HLJL.out; simp; omega) HH.out.2.2.2.2.2 ?_; intro v' w16 hown' hgrow hat; have HX := Lib.hid (HH.out.2.2.1.trans (below_grown HH.out.2.2.2.1 hgrow HH.out.2.2.2.2.2)); have HQM := Lib.hid (HSD.out.grown_other (HH.out.1.mono hB2) (fun k hk => HH.out.1.block k hk) hgrow HH.out.2.2.2.1 (by decide) (by omega) (by omega) hB2); obtain ⟨av2, cv2, rfl⟩ := own_slice hown'; have HOW' := Lib.hid hown'; clear hown' hgrow hat))
              go_wp2_with fail
              go_roundg (ids.length - (j + 1))
              case rel =>
                refine ⟨j + 1, rfl, by omega, ?_, by go_num, _, _, HQM.out.x, HQM.out.y, ?_, ?_, HQM.out.sep, HQM.out.far⟩
                · rw [take_succ_nth ids j hlt, List.map_append, ← HLJ.out, List.map_singleton, HQQ.out, ← HY1.out]; exact (by simpa [OwnI] using HOW'.out)
                · rw [take_succ_nth ids j hlt, List.flatMap_append, List.flatMap_singleton, ← HXL.out, HQQ.out, ← HZx.out]; exact HQM.out.ox
                · rw [← HYL.out]; exact HQM.out.oy
              case measure => omega
            · obtain rfl : j = ids.length := by omega
              rw [List.take_length] at HXL HLJ
              have HOf := Lib.hid (own_keepx_box HO12.out HV.out.far (Nat.le_refl _) HP12.out HQ12.out (by decide) (by decide))
              have HOYf := Lib.hid (own_keepx_box HOY12.out HV.out.far (Nat.le_refl _) HP12.out HQ12.out (by decide) (by decide))
              have HBXf := Lib.hid (HV.out.far.box HBX12.out (by omega) (by omega) (by omega))
              have HBYf := Lib.hid (HV.out.far.box HBY12.out (by omega) (by omega) (by omega))
              have HBf := Lib.hid (show Below w.heap.size w w14 from HB12.out.trans ⟨HV.out.far.rest.1, HV.out.far.rest.2.1, HV.out.far.rest.2.2, HV.out.far.size, fun k hk => HV.out.far.block k (by omega) (by omega) (by omega)⟩)
              have HXB := Lib.hid (show xl = batchX s ids by
                have : (prodL s.sh).toNat = size := by have := HGN.out.hs; omega
                rw [batchX, this]; exact HXL.out)
              have HYB := Lib.hid (show yl = batchY s ids by
                have : ((s.y.length : Int) / countS s).toNat = 0 := by rw [show s.y.length = 0 by omega]; simp
                rw [batchY, this, HYL.out]; simp)
              have HLL := Lib.hid (show OwnI w14 w12.heap.size 3 .i64 (.slice av LJ.length cv) (batchL s ids) by
                rw [batchL, if_pos hl0, ← HLJ.out]; exact HLAB.out)
              obtain ⟨axd, cxd, rfl⟩ := own_slice HV.out.ox
              obtain ⟨ayd, cyd, rfl⟩ := own_slice HV.out.oy
              have p0 := HV.out.x.cell 0 rfl
              have p1 := HV.out.x.cell 1 rfl
              have p2 := HV.out.y.cell 0 rfl
              have p3 := HV.out.y.cell 1 rfl
              have x0 := HBXf.out.cell 0 rfl
              have x1 := HBXf.out.cell 1 rfl
              have y0 := HBYf.out.cell 0 rfl
              have y1 := HBYf.out.cell 1 rfl
              have fx0 := HBXf.out.free 0
              have fx1 := HBXf.out.free 1
              have fy0 := HBYf.out.free 0
              have fy1 := HBYf.out.free 1
              have hyx : yl.length ≤ 1099511627776 := by rw [HYL.out]; simp
              go_wp2_with fail
              go_region
              all_goals go_wp2_with fail
              clear p0 p1 p2 p3 x0 x1 y0 y1 fx0 fx1 fy0 fy1
              have hbud : budB s ids = false := by
                have hx := HXS.out
                have hN := HN.out
                have hYY : yShape s ids = [] := by rw [yShape, if_neg hy]
                rw [budB, hYY, show (ids.length : Int) :: s.sh = xs from hx.symm, hgx, hgy]; rfl
              have HTT := Lib.hid (tens_two (a := (.slice o6 xs.length cap6)) (b := .slice axd xl.length cxd) (c := (.slice none 0 0)) (d := .slice ayd yl.length cyd) HBXf.out HBYf.out (by omega))
              have HQ1 := Lib.hid (end_own (X := w.heap.size + 1) (Y := w.heap.size + 2) HOf.out (by have := HSZ.out; omega) (by have := HSZ.out; omega) (.slice o6 xs.length cap6) (.slice axd xl.length cxd) (.slice none 0 0) (.slice ayd yl.length cyd))
              have HQ2 := Lib.hid (end_own (X := w.heap.size + 1) (Y := w.heap.size + 2) HOYf.out (by omega) (by omega) (.slice o6 xs.length cap6) (.slice axd xl.length cxd) (.slice none 0 0) (.slice ayd yl.length cyd))
              have HQ3 := Lib.hid (end_own (X := w.heap.size + 1) (Y := w.heap.size + 2) HV.out.ox (by omega) (by omega) (.slice o6 xs.length cap6) (.slice axd xl.length cxd) (.slice none 0 0) (.slice ayd yl.length cyd))
              have HQ4 := Lib.hid (end_own (X := w.heap.size + 1) (Y := w.heap.size + 2) HV.out.oy (by omega) (by omega) (.slice o6 xs.length cap6) (.slice axd xl.length cxd) (.slice none 0 0) (.slice ayd yl.length cyd))
              have HQ5 := Lib.hid (end_own (X := w.heap.size + 1) (Y := w.heap.size + 2) HLL.out (by omega) (by omega) (.slice o6 xs.length cap6) (.slice axd xl.length cxd) (.slice none 0 0) (.slice ayd yl.length cyd))
              have HQB := Lib.hid (end_below (X := w.heap.size + 1) (Y := w.heap.size + 2) (x0 := (.slice o6 xs.length cap6)) (x1 := .slice axd xl.length cxd) (y0 := (.slice none 0 0)) (y1 := .slice ayd yl.length cyd) HBf.out (by omega) (by omega))
              have HQX := Lib.hid (HTT.out.1.same (⟨1, rfl⟩ : Same _ (endW w14 (w.heap.size + 1) (w.heap.size + 2) (.slice o6 xs.length cap6) (.slice axd xl.length cxd) (.slice none 0 0) (.slice ayd yl.length cyd))))
              have HQY := Lib.hid (HTT.out.2.same (⟨1, rfl⟩ : Same _ (endW w14 (w.heap.size + 1) (w.heap.size + 2) (.slice o6 xs.length cap6) (.slice axd xl.length cxd) (.slice none 0 0) (.slice ayd yl.length cyd))))
              clear HTT
              unfold endW at HQ1 HQ2 HQ3 HQ4 HQ5 HQB HQX HQY
              generalize ((((w14.setCell ⟨w.heap.size + 1, 0, none⟩ (.slice o6 xs.length cap6)).setCell ⟨w.heap.size + 1, 1, none⟩ (.slice axd xl.length cxd)).setCell ⟨w.heap.size + 2, 0, none⟩ (.slice none 0 0)).setCell ⟨w.heap.size + 2, 1, none⟩ (.slice ayd yl.length cyd)).drew = wq at HQ1 HQ2 HQ3 HQ4 HQ5 HQB HQX HQY ⊢
              have x0 := HQX.out.cell 0 rfl
              have x1 := HQX.out.cell 1 rfl
              have y0 := HQY.out.cell 0 rfl
              have y1 := HQY.out.cell 1 rfl
              refine bodyPost_ret (v := .tuple #[.agg #[(.slice o6 xs.length cap6), .slice axd xl.length cxd], (.slice av LJ.length cv), .agg #[(.slice none 0 0), .slice ayd yl.length cyd], .int .i64 0]) (by simp [results, Try.results22, go_sem, x0, x1, y0, y1]) rfl (.inr (.inr ⟨HBAD.out, hbud, _, rfl, ⟨_, _, _, _, _, rfl, ?_, ?_, ?_, ?_, ?_, ?_, ?_, ?_, ?_⟩, HQB.out⟩))
              · have hx := HXS.out
                rw [show (ids.length : Int) :: s.sh = xs from hx.symm]
                exact own_mono HQ1.out (by have := HSZ.out; omega)
              · rw [← HXB.out]; exact own_mono HQ3.out (by omega)
              · exact own_mono HQ5.out (by omega)
              · rw [show yShape s ids = [] from by rw [yShape, if_neg hy]]; exact own_mono HQ2.out (by omega)
              · rw [← HYB.out]; exact own_mono HQ4.out (by omega)
              · exact own_sep HO12.out HLL.out (Nat.le_refl _)
              · exact HSEP.out
              · exact fun g h1 h2 => by cases h2
              · exact HV.out.sep
        · have hgx := Bool.eq_false_iff.2 hgx
          rw [hgx]
          have hbud : budB s ids = true := by
            have hx := HXS.out
            have hN := HN.out
            have hYY : yShape s ids = [] := by rw [yShape, if_neg hy]
            rw [budB, hYY, show (ids.length : Int) :: s.sh = xs from hx.symm, hgx]; rfl

          have x0 := HBX10.out.cell 0 rfl
          have x1 := HBX10.out.cell 1 rfl
          have y0 := HBY10.out.cell 0 rfl
          have y1 := HBY10.out.cell 1 rfl
          have fx0 := HBX10.out.free 0
          have fx1 := HBX10.out.free 1
          have fy0 := HBY10.out.free 0
          have fy1 := HBY10.out.free 1
          go_wp2_with fail
          have HTT := Lib.hid (tens_two (a := .slice none 0 0) (b := .slice none 0 0) (c := .slice none 0 0) (d := .slice none 0 0) HBX10.out HBY10.out (by omega))
          have HBF := Lib.hid (show Below w.heap.size w ((((w10.setCell ⟨w.heap.size + 1, 0, none⟩ (.slice none 0 0)).setCell ⟨w.heap.size + 1, 1, none⟩ (.slice none 0 0)).setCell ⟨w.heap.size + 2, 0, none⟩ (.slice none 0 0)).setCell ⟨w.heap.size + 2, 1, none⟩ (.slice none 0 0)) from
            ((((HB10.out.setCell (p := ⟨w.heap.size + 1, 0, none⟩) (Nat.le_succ _) _).setCell (p := ⟨w.heap.size + 1, 1, none⟩) (Nat.le_succ _) _).setCell (p := ⟨w.heap.size + 2, 0, none⟩) (Nat.le_add_right _ _) _).setCell (p := ⟨w.heap.size + 2, 1, none⟩) (Nat.le_add_right _ _) _))
          clear x0 x1 y0 y1 fx0 fx1 fy0 fy1
          generalize ((((w10.setCell ⟨w.heap.size + 1, 0, none⟩ (.slice none 0 0)).setCell ⟨w.heap.size + 1, 1, none⟩ (.slice none 0 0)).setCell ⟨w.heap.size + 2, 0, none⟩ (.slice none 0 0)).setCell ⟨w.heap.size + 2, 1, none⟩ (.slice none 0 0)) = wz at HTT HBF ⊢
          have x0 : wz.cell? ⟨w.heap.size + 1, 0, none⟩ = some (.slice none 0 0) := HTT.out.1.cell 0 rfl
          have x1 : wz.cell? ⟨w.heap.size + 1, 1, none⟩ = some (.slice none 0 0) := HTT.out.1.cell 1 rfl
          have y0 : wz.cell? ⟨w.heap.size + 2, 0, none⟩ = some (.slice none 0 0) := HTT.out.2.cell 0 rfl
          have y1 : wz.cell? ⟨w.heap.size + 2, 1, none⟩ = some (.slice none 0 0) := HTT.out.2.cell 1 rfl
          exact bodyPost_ret (v := .tuple #[.agg #[.slice none 0 0, .slice none 0 0], .slice none 0 0, .agg #[.slice none 0 0, .slice none 0 0], .int .i64 5]) (by simp [results, Try.results22, go_sem, x0, x1, y0, y1]) rfl (.inr (.inl ⟨HBAD.out, hbud, rfl, HBF.out⟩))
end Go.Proofs.Ytjhejpeklppmbaa
