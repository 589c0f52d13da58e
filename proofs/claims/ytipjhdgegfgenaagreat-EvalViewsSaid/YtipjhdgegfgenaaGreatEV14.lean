/-
  REGIONS that draw, with calls that make rows and blocks laid at free places: rows and boxes through one step more.
-/
import Derived.Deep.RegionLaw
import Derived.Deep.DeepCutAuto
import Derived.OrdersHeld
import Derived.Deep.RegionHeld3
import Derived.Maps.AppendAt
import Derived.StillTailTactics
import Derived.Test.YtipjhdgegfgenaaGreatEV11
import Derived.Test.YtipjhdgegfgenaaGreatEV12
import Derived.Test.YtipjhdgegfgenaaGreatEV13
import Derived.Test.YtipjhdgegfgenaaGreatEV10
set_option linter.unusedVariables false
set_option linter.unusedSimpArgs false
namespace Go.Proofs.YtipjhdgegfgenaaGreat
open Go.RowKit Go.Shelf Go
/-- the region of this number -/
def findRV (n : Nat) : Code → Option Code
  | .region id ops d => if id = n then some (.region id ops d) else none
  | .seq a b => match findRV n a with
    | some c => some c
    | none => findRV n b
  | .loop c => findRV n c
  | .block _ c => findRV n c
  | .scope c => findRV n c
  | .cond _ a b => match findRV n a with
    | some c => some c
    | none => findRV n b
  | _ => none
/-- it ends as it should, and no other way -/
def onlyNV (K : Act → World → Prop) : Exit → Act → World → Prop
  | .normal, a, w => K a w
  | _, _, _ => False
theorem onlyNV_out {K : Act → World → Prop} {Q : Exit → Act → World → Prop} : ∀ e a w, onlyNV K e a w → Exit.then K Q e a w := fun e a w h => by
  cases e <;> first | exact h | exact h.elim
theorem onlyNV_ret {K : Act → World → Prop} {a : Act} {w : World} (h : K a w) : onlyNV K .normal a w := h
theorem own_st_drew {w : World} {B : Nat} {e : TypeId} {s n : Nat} {v : Value} {xs : List Value} (h : w.ownsRow B e s v n xs) : w.drew.ownsRow B e s v n xs := own_same h ⟨1, rfl⟩
theorem own_st_alloc {w : World} {B : Nat} {e : TypeId} {s n : Nat} {v : Value} {xs : List Value} {o : Obj} (h : w.ownsRow B e s v n xs) : (w.alloc o).ownsRow B e s v n xs := own_below h ((Below.refl _ _).alloc (Nat.le_refl _) o) (Nat.le_refl _)
theorem own_st_next {w w' : World} {B : Nat} {e : TypeId} {s n : Nat} {v : Value} {xs : List Value} (hb : Below w.heap.size w w') (h : w.ownsRow B e s v n xs) : w'.ownsRow B e s v n xs := own_below h hb (Nat.le_refl _)
theorem own_st_set {w : World} {B b j : Nat} {e : TypeId} {s n : Nat} {v u : Value} {xs : List Value} (h : w.ownsRow B e s v n xs) (hne : ∀ g, v.ownBlock = some g → g ≠ b) : (w.setCell ⟨b, j, none⟩ u).ownsRow B e s v n xs :=
  ownsRow_setCell_other h (fun h0 => hne b h0 rfl) u
theorem box_st_drew {w : World} {b : Nat} {T : TypeId} {cs : Array Value} (h : Box w b T cs) : Box w.drew b T cs := h.same ⟨1, rfl⟩
theorem box_st_alloc {w : World} {b : Nat} {T : TypeId} {cs : Array Value} {o : Obj} (h : Box w b T cs) : Box (w.alloc o) b T cs := h.next ((Below.refl _ _).alloc (Nat.le_refl _) o)
theorem below_st_alloc {B : Nat} {w0 w : World} {o : Obj} (h : Below B w0 w) (hB : B ≤ w0.heap.size) : Below B w0 (w.alloc o) := h.alloc (Nat.le_trans hB h.size) o
theorem below_st_next {B : Nat} {w0 w w' : World} (hb : Below w.heap.size w w') (h : Below B w0 w) (hB : B ≤ w0.heap.size) : Below B w0 w' := h.trans (hb.mono (Nat.le_trans hB h.size))
theorem below_st_set {B b j : Nat} {w0 w : World} {u : Value} (h : Below B w0 w) (hb : B ≤ b) : Below B w0 (w.setCell ⟨b, j, none⟩ u) := h.setCell (p := ⟨b, j, none⟩) hb u
theorem info_i64V : (Tryz.prog.info? 2).map (fun i => (i.zero, i.size, i.bytes)) = some (some (.int .i64 0), 1, 8) := by kernel_rfl
theorem made_runV (n : Nat) (w : World) (h : n ≤ 65536) {M : Array Value} (hM : M = madeCells (Value.int .i64 0).cells n) :
    (Instr.makeSlice 34 (.int .i64 n) (.int .i64 n)).run Tryz.prog w = .ok (.slice (some ⟨w.heap.size, 0, none⟩) n n) (w.alloc (.cells M 2)) := by
  obtain ⟨i8, hi8, hz80, hz81, hz82⟩ := info_parts info_i64V
  have := run_makeSlice w 34 2 i8 (.int .i64 0) Tryz.underlying34 hi8 hz80 .i64 .i64 (n : Int) n (by omega) (Int.le_refl _) (by rw [hz81]; simp; omega) (by rw [hz82]; omega) (by omega)
  rw [hz81, Nat.mul_one, Int.toNat_natCast] at this
  rw [hM]
  exact this
theorem made_ownV {w : World} {B n : Nat} {M : Array Value} (hM : M = madeCells (Value.int .i64 0).cells n) (h : n ≤ 65536) (hB : B ≤ w.heap.size) : OwnI (w.alloc (.cells M 2)) B 2 .i64 (.slice (some ⟨w.heap.size, 0, none⟩) n n) (List.replicate n 0) := by
  have h1 : M.size = n := by rw [hM, size_madeCells]
  have h2 := World.ownsRow_lit (base := B) (size := 1) (e := 2) w M n hB (by unfold maxLen; omega) (by rw [h1, Nat.mul_one])
  have h3 : M.toList = (List.replicate n (0 : Int)).map (Value.int .i64) := by
    have := madeInts .i64 n
    rw [Nat.mul_one] at this
    rw [hM, this]
  rw [h3] at h2
  rw [OwnI, List.length_replicate]; exact h2
theorem new_next {w w' : World} {T : TypeId} {cs : Array Value} (hb : Below (w.alloc (.cells cs T)).heap.size (w.alloc (.cells cs T)) w') : Box w' w.heap.size T cs := (Box.new w T cs).next hb
theorem new_nextD {w w' : World} {T : TypeId} {cs : Array Value} (hb : Below ((w.alloc (.cells cs T)).drew).heap.size ((w.alloc (.cells cs T)).drew) w') : Box w' w.heap.size T cs := (box_st_drew (Box.new w T cs)).next hb
/-- a tensor's box, its two rows: a shape's, and noughts -/
structure CopyEnd (w2 w' : World) (v : Value) (g3 g n : Nat) (xs : List Int) : Prop where
  low : Below w2.heap.size w2 w'
  le : w2.heap.size ≤ g3
  box : Box w' g3 36 #[v, .slice (some ⟨g, 0, none⟩) n n]
  vs : OwnI w' w2.heap.size 3 .i64 v xs
  vd : OwnI w' w2.heap.size 2 .i64 (.slice (some ⟨g, 0, none⟩) n n) (List.replicate n 0)
  ne : g ≠ g3
  off : ∀ j, v.ownBlock = some j → j ≠ g3 ∧ j ≠ g
theorem CopyEnd.e1 {w2 w7 : World} {v : Value} {n : Nat} {xs : List Int} {M : Array Value} (hM : M = madeCells (Value.int .i64 0).cells n) (hn : n ≤ 65536) (hx : Below w2.heap.size w2 w7) (hv : OwnI w7 w2.heap.size 3 .i64 v xs) (hl : ∀ j, v.ownBlock = some j → j < w7.heap.size) :
    CopyEnd w2 ((w7.alloc (.cells M 2)).alloc (.cells #[v, .slice (some ⟨w7.heap.size, 0, none⟩) n n] 36)) v (w7.heap.size + 1) w7.heap.size n xs := by
  have hb := Box.new (w7.alloc (.cells M 2)) 36 #[v, .slice (some ⟨w7.heap.size, 0, none⟩) n n]
  rw [World.size_alloc] at hb
  exact ⟨below_st_alloc (below_st_alloc hx (Nat.le_refl _)) (Nat.le_refl _), Nat.le_trans hx.size (Nat.le_succ _), hb, own_st_alloc (own_st_alloc hv), own_st_alloc (made_ownV hM hn hx.size), by omega, fun j hj => by have := hl j hj; omega⟩
theorem CopyEnd.e2 {w2 w7 : World} {v : Value} {n : Nat} {xs : List Int} {M : Array Value} (hM : M = madeCells (Value.int .i64 0).cells n) (hn : n ≤ 65536) (hx : Below w2.heap.size w2 w7) (hv : OwnI w7 w2.heap.size 3 .i64 v xs) (hl : ∀ j, v.ownBlock = some j → j < w7.heap.size) :
    CopyEnd w2 ((w7.alloc (.cells #[v, .slice (some ⟨w7.heap.size + 1, 0, none⟩) n n] 36)).alloc (.cells M 2)) v w7.heap.size (w7.heap.size + 1) n xs := by
  have hd := made_ownV (w := w7.alloc (.cells #[v, .slice (some ⟨w7.heap.size + 1, 0, none⟩) n n] 36)) (B := w2.heap.size) hM hn (by rw [World.size_alloc]; have := hx.size; omega)
  rw [World.size_alloc] at hd
  exact ⟨below_st_alloc (below_st_alloc hx (Nat.le_refl _)) (Nat.le_refl _), hx.size, box_st_alloc (Box.new _ _ _), own_st_alloc (own_st_alloc hv), hd, by omega, fun j hj => by have := hl j hj; omega⟩
theorem CopyEnd.e3 {w2 w7 : World} {b : Nat} {v : Value} {n : Nat} {xs : List Int} {M : Array Value} (hM : M = madeCells (Value.int .i64 0).cells n) (hn : n ≤ 65536) (hz : Box w7 b 36 #[.slice none 0 0, .slice none 0 0]) (hle : w2.heap.size ≤ b) (hx : Below w2.heap.size w2 w7) (hv : OwnI w7 w2.heap.size 3 .i64 v xs) (hl : ∀ j, v.ownBlock = some j → j < w7.heap.size) (hne : ∀ j, v.ownBlock = some j → j ≠ b) :
    CopyEnd w2 (((w7.setCell ⟨b, 0, none⟩ v).setCell ⟨b, 1, none⟩ (.slice (some ⟨w7.heap.size, 0, none⟩) n n)).alloc (.cells M 2)) v b w7.heap.size n xs := by
  have hs : ((w7.setCell ⟨b, 0, none⟩ v).setCell ⟨b, 1, none⟩ (.slice (some ⟨w7.heap.size, 0, none⟩) n n)).heap.size = w7.heap.size := by simp [World.setCell]
  have hd := made_ownV (w := (w7.setCell ⟨b, 0, none⟩ v).setCell ⟨b, 1, none⟩ (.slice (some ⟨w7.heap.size, 0, none⟩) n n)) (B := w2.heap.size) hM hn (by rw [hs]; exact hx.size)
  rw [hs] at hd
  exact ⟨below_st_alloc (below_st_set (below_st_set hx hle) hle) (Nat.le_refl _), hle, box_st_alloc ((hz.set 0 v).set 1 _), own_st_alloc (own_st_set (own_st_set hv hne) hne), hd, by have := hz.lt; omega, fun j hj => ⟨hne j hj, by have := hl j hj; omega⟩⟩
noncomputable def copyR (n : Nat) : Code := (Tryz.f67.body.bind (findRV n)).getD .skip
set_option maxRecDepth 1000000 in
set_option maxHeartbeats 8000000 in
theorem copy_r3 (b n m ca cb : Nat) (off : Nat) (oa ob : Option Addr) (sh : List Nat) (w2 : World) (u13 u14 u15 u16 u17 u18 u19 u20 u21 u22 u23 u24 u25 u26 u27 u28 u29 u30 u31 u32 u33 u34 u35 u36 u37 u38 u39 u40 u0 u1 u3 u4 u5 u6 u7 u8 u9 u10 u11 u12 : Value)
    (hb : Box w2 b 81 #[.slice oa m ca, .slice ob m cb, .int .i64 off]) (hrd : Rd w2 .i64 (.slice oa m ca) (ints sh)) (hm : m = sh.length) (hn : n = prodN sh) (hg : shapeB (ints sh) = true)
    (K : Act → World → Prop) (hQ : ∀ (vs : Value) (g3 g : Nat) (t20 t21 t22 t23 t24 t25 t26 t27 : Value) (w' : World), CopyEnd w2 w' vs g3 g n (ints sh) →
      K ⟨#[u0, u1, .pointer (some ⟨b, 0, none⟩), u3, u4, u5, .pointer (some ⟨g3, 0, none⟩), u7, u8, u9, u10, u11, u12, u13, u14, u15, u16, u17, u18, u19, t20, t21, t22, t23, t24, t25, t26, t27, u28, u29, u30, u31, u32, u33, u34, u35, u36, u37, u38, u39, u40], []⟩ w') :
    Code.wp Tryz.prog (copyR 3) (onlyNV K) ⟨#[u0, u1, .pointer (some ⟨b, 0, none⟩), u3, u4, u5, u6, u7, u8, u9, u10, u11, u12, u13, u14, u15, u16, u17, u18, u19, u20, u21, u22, u23, u24, u25, u26, u27, u28, u29, u30, u31, u32, u33, u34, u35, u36, u37, u38, u39, u40], []⟩ w2 := by
  have HQ := Lib.hid hQ
  have HBX := Lib.hid hb
  have HR := Lib.hid hrd
  have HG := Lib.hid hg
  have HN := Lib.hid hn
  have hn6 : n ≤ 65536 := by rw [hn]; exact prod_good hg
  have hlt : b < w2.heap.size := hb.lt
  have HML := Lib.hid (show m = (ints sh).length by rw [ints_length]; exact hm)
  have hm4 : (ints sh).length ≤ 4 := by rw [ints_length]; exact (dims_good hg).2
  have HSZ := Lib.hid (show ∀ W, Rd W .i64 (.slice oa m ca) (ints sh) → Calls Tryz.prog 110 #[.slice oa m ca] W fun e w' => e = .returned (.int .i64 (n : Int)) ∧ Same W w' from fun W h => by
    have := shapeSize_any _ (ints sh) W h (dims_all HG.out) hm4
    rw [prodL_ints, ← HN.out] at this; exact this)
  obtain ⟨M, hM⟩ : ∃ M, M = madeCells (Value.int .i64 0).cells n := ⟨_, rfl⟩
  have hmk := fun w => made_runV n w hn6 hM
  have HM := Lib.hid hM
  have d0 : w2.cell? ⟨b, 0, none⟩ = some (.slice oa m ca) := hb.cell 0 rfl
  have HX := Lib.hid (Below.refl w2.heap.size w2)
  clear hb hrd hm hn hg hQ hM
  conv => arg 2; whnf
  go_region_law (first
    | (go_simp; go_at_call 104; refine (cloneInts_any _ (ints sh) _ (HR.out.below (by repeat (first | exact HX.out | exact Below.refl _ _ | refine Below.drew ?_ | refine below_st_alloc ?_ (Nat.le_refl _))) (Nat.le_refl _)) (by omega)).mono ?_; rintro e w6 ⟨⟨v6, rfl, ho6⟩, hb6⟩; obtain ⟨o6, k6, rfl⟩ := own_slice ho6;
       have hx6 : Below w2.heap.size w2 w6 := (by refine below_st_next hb6 ?_ (Nat.le_refl _); repeat (first | exact HX.out | exact Below.refl _ _ | refine Below.drew ?_ | refine below_st_alloc ?_ (Nat.le_refl _)));
       have hl6 : ∀ j, (Value.slice o6 (ints sh).length k6).ownBlock = some j → w2.heap.size ≤ j ∧ j < w6.heap.size := (fun j hj => by have := ho6.lt j hj; simp at this; omega);
       (first | (with_reducible have hz : Box w6 w2.heap.size 36 #[.slice none 0 0, .slice none 0 0] := by first | exact new_next hb6 | exact new_nextD hb6); have hl6' : ∀ j, (Value.slice o6 (ints sh).length k6).ownBlock = some j → w2.heap.size < j := (fun j hj => by have := ho6.lt j hj; simp at this; omega) | skip);
       have d6 : w6.cell? ⟨b, 0, none⟩ = some (.slice oa m ca) := (HBX.out.next hx6).cell 0 rfl; have hlt6 := Nat.lt_of_lt_of_le hlt hx6.size)
    | (go_simp; go_at_call 110; refine (HSZ.out _ (HR.out.below (by repeat (first | exact hx6 | refine Below.drew ?_ | refine below_st_alloc ?_ (Nat.le_refl _))) (Nat.le_refl _))).mono ?_; rintro e w7 ⟨rfl, hs7⟩;
       (first | (with_reducible have hz : Box w7 w6.heap.size 36 #[.slice none 0 0, .slice none 0 0] := by first | exact new_next (hs7.below _) | exact new_nextD (hs7.below _)); have hq : w6.heap.size < w7.heap.size := hz.lt | (have hz : Box w7 w2.heap.size 36 #[.slice none 0 0, .slice none 0 0] := hz.next (hs7.below _)); have hq : w2.heap.size < w7.heap.size := hz.lt | skip);
       have hb7 : Below w6.heap.size w6 w7 := (by refine below_st_next (hs7.below _) ?_ (Nat.le_refl _); repeat (first | exact Below.refl _ _ | refine Below.drew ?_ | refine below_st_alloc ?_ (Nat.le_refl _)));
       (first | (have z0 : w7.cell? ⟨w2.heap.size, 0, none⟩ = some (.slice none 0 0) := hz.cell 0 rfl; have z1 : w7.cell? ⟨w2.heap.size, 1, none⟩ = some (.slice none 0 0) := hz.cell 1 rfl; have zf0 := hz.free 0; have zf1 := hz.free 1) | (have z0 : w7.cell? ⟨w6.heap.size, 0, none⟩ = some (.slice none 0 0) := hz.cell 0 rfl; have z1 : w7.cell? ⟨w6.heap.size, 1, none⟩ = some (.slice none 0 0) := hz.cell 1 rfl; have zf0 := hz.free 0; have zf1 := hz.free 1) | skip)))
  all_goals
    have hx7 : Below w2.heap.size w2 w7 := below_st_next hb7 hx6 (Nat.le_refl _)
    have hv7 := own_mono (own_st_next hb7 ho6) (show w2.heap.size ≤ _ by first | exact Nat.le_refl _ | (simp; done) | (simp; omega))
    have hl7 : ∀ j, (Value.slice o6 (ints sh).length k6).ownBlock = some j → j < w7.heap.size := fun j hj => Nat.lt_of_lt_of_le (hl6 j hj).2 hb7.size
    first
      | exact HQ.out _ _ _ _ _ _ _ _ _ _ _ _ (CopyEnd.e1 HM.out hn6 hx7 hv7 hl7)
      | exact HQ.out _ _ _ _ _ _ _ _ _ _ _ _ (CopyEnd.e2 HM.out hn6 hx7 hv7 hl7)
      | exact HQ.out _ _ _ _ _ _ _ _ _ _ _ _ (CopyEnd.e3 HM.out hn6 hz (Nat.le_refl _) hx7 hv7 hl7 (fun j hj => by have := hl6' j hj; omega))
      | exact HQ.out _ _ _ _ _ _ _ _ _ _ _ _ (CopyEnd.e3 HM.out hn6 hz hx6.size hx7 hv7 hl7 (fun j hj => by have := (hl6 j hj).2; omega))
end Go.Proofs.YtipjhdgegfgenaaGreat
/-
  A REGION THAT DRAWS ITS ORDER INSIDE A ROUND, with loads that may be taken first; append of whole elements at a step of such a region.
-/
set_option linter.unusedVariables false
set_option linter.unusedSimpArgs false
namespace Go.Proofs.YtipjhdgegfgenaaGreat
open Go Go.RowKit
def noDeferB (ops : Array Oper) : Bool := ops.all fun o => match o.op with | .defer _ => false | _ => true
theorem noDefer_of {ops : Array Oper} (h : noDeferB ops = true) : ∀ (j : Nat) (o : Oper) c, ops[j]? = some o → o.op ≠ .defer c := fun j o c hj he => by
  obtain ⟨hlt, rfl⟩ := Array.getElem?_eq_some_iff.1 hj
  have := (Array.all_eq_true.1 h) j hlt
  rw [he] at this
  cases this
theorem wpIn_region_heldR {l n : Nat} {P : Program} {id : Nat} {ops : Array Oper} {Q : Exit → Act → World → Prop} {S : World → Prop} {a : Act} {w : World} (hm : P.follows .mixedOrders = true) (hd : noDeferB ops = true) (hL : ¬ LetsOut Q) (hS : S w.drew)
    (h : S w.drew → wpAnyH P .any ops Q S ops.size (Array.replicate ops.size false) a w.drew) : (Code.region id ops true).wpIn (Fence.wide.inRound l) n P Q a w :=
  wpIn_region_of hm (noDefer_of hd) hL (wpAny_of_held _ _ _ _ (h hS))
theorem step_append_own {P : Program} {ops : Array Oper} {o : Oper} {a : Act} {w : World} {K' : Act → World → Prop} {Q : Exit → Act → World → Prop} {E : Prop} (hgd : o.guard = none) (s x : Operand) (t : TypeId)
    (ho : o.op = .call { callee := .builtin .append, args := #[s, x], argTypes := #[t, t] })
    (B : Nat) (e : TypeId) (i : TypeInfo) (z : Value) (size bytes : Nat) (ht : P.underlying t = some (.slice e)) (hi : P.info? e = some i) (hz : i.zero = some z) (hsize : i.size = size) (hby : i.bytes = bytes) (hzs : z.cells.size = size) (hsz : 0 < size)
    (v : Value) (n : Nat) (xs : List Value) (hs : a.eval s = v) (hown : w.ownsRow B e size v n xs) (ad : Addr) (m c : Nat) (news : List Value) (hx : a.eval x = .slice (some ad) m c) (hl : news.length = m * size) (hnews : ∀ j u, news[j]? = some u → w.cell? (ad.add j) = some u) (h1 : ∀ u ∈ news, u.oneCell' = true)
    (h63 : n + m ≤ maxLen) (hbytes : (n + m) * bytes ≤ 140737488355328) (hbase : B ≤ w.heap.size)
    (h : ∀ v' w', w'.ownsRow B e size v' (n + m) (xs ++ news) → w.grownBy w' v.ownBlock → (v'.ownBlock = v.ownBlock ∨ v'.ownBlock = some w.heap.size) → K' (a.put o.dst v') w') :
    if Region.wanted o (yielded ops a.tmps) = true then Oper.wp P o a w K' Q else E := by
  have hw : Region.wanted o (yielded ops a.tmps) = true := by simp [Region.wanted, hgd]
  rw [if_pos hw]
  obtain ⟨v', w', hrun, h2, h3, _, h4⟩ := run_append_own_at (P := P) w B t o.type e i z size bytes ht hi hz hsize hby hzs hsz v n xs hown ad m c news hl hnews h1 h63 hbytes hbase
  unfold Oper.wp execOp
  simp only [ho, resolve, invoke, builtin, Sem.run_bind, Sem.run_pure, Result.andThen_ok, List.map_toArray, List.map_cons, List.map_nil, hs, hx, hrun]
  exact h v' w' h2 h3 h4
end Go.Proofs.YtipjhdgegfgenaaGreat
/-
  INSIDE A ROUND of a range over a function: a region of which all but its tail, in one forced order, leaves the world alone.
-/
set_option linter.unusedVariables false
set_option linter.unusedSimpArgs false
namespace Go.Proofs.YtipjhdgegfgenaaGreat
open Go
theorem wpIn_round_still_tail {l' m : Nat} {P : Program} {id : Nat} {Q : Exit → Act → World → Prop} {a : Act} {w : World} {l : List Oper} (n : Nat) (hm : P.follows .mixedOrders = true) (hd : noDeferB l.toArray = true) (hL : ¬ LetsOut Q) (hB : Region.lexTailB .any l.toArray n = true)
    (h : wpStill P l.toArray w.drew (fun a' => wpList P l.toArray Q (l.drop n) a' w.drew) (l.take n) a) : (Code.region id l.toArray true).wpIn (Fence.wide.inRound l') m P Q a w := by
  simp only [Region.lexTailB, Bool.and_eq_true, decide_eq_true_eq] at hB
  obtain ⟨⟨⟨⟨hsel, hn⟩, hs⟩, hc⟩, hlex⟩ := hB
  have hn' : n < l.length := by simpa using hn
  have htl : (l.take n).length = n := by simp; omega
  have hdl : (l.drop n).length = l.toArray.size - n := by simp
  have inv0 : HeadInv .any l.toArray n (Array.replicate l.toArray.size false) :=
    ⟨by simp, fun j oj _ hl => (by rw [getD_replicate_false] at hl; cases hl), fun t _ ht => getD_in (by simpa using ht) (getD_replicate_false _ _)⟩
  have H := wpAnyL_lex (md := .any) (g := l.toArray.size - n) hsel hs hc hn (l.take n) 0 _ a (fun j hj => by
    have hj' : j < n := by rw [htl] at hj; exact hj
    simp [hj']) (by simpa using htl) inv0 (by rw [htl]; exact hlex) h
  refine wpIn_region_of hm (noDefer_of hd) hL ?_
  have := wpAny_of_head (Q' := Q) (g := l.toArray.size - n) (fun listed a' hL => by
    have := wpAny_of_seq (md := .any) (Q' := Q) (l.drop n) n listed a' w.drew (fun j => by simp [List.getElem?_drop]) (by rw [hdl]; exact hL.1) hL.2
    rwa [hdl] at this) _ _ _ H
  rw [htl, show n + (l.toArray.size - n) = l.toArray.size by omega] at this
  exact this
end Go.Proofs.YtipjhdgegfgenaaGreat
