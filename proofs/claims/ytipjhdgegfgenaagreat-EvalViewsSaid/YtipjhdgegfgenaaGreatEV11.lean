/-
  THE ITERATOR over a view's places: view.Places.
-/
import Derived.Test.YtipjhdgegfgenaaGreatEV10
set_option linter.unusedVariables false
set_option linter.unusedSimpArgs false
namespace Go.Proofs.YtipjhdgegfgenaaGreat
open Go.RowKit Go.Shelf Go
theorem yieldAt_wideV {n m : Nat} {P : Program} {l : Nat} {args : Array Value} {w : World} {R : Ending → World → Prop} (h : YieldAt Fence.wide n P l args w R) : YieldAt Fence.wide m P l args w R := by
  obtain ⟨fn, tmps, assign, body, hy, hR⟩ := h
  exact ⟨fn, tmps, assign, body, hy, hR.1, fun c cs _ => hR.2 c cs (room_wide _)⟩
theorem roundIn_in {n : Nat} {P : Program} {l : Nat} {f : FuncId} {tmps : Array Value} {assign body : Code} {w : World} {R : Ending → World → Prop} (l' m : Nat) (h : RoundIn Fence.wide n P l f tmps assign body w R) : RoundIn (Fence.wide.inRound l') m P l f tmps assign body w R :=
  ⟨h.1, fun c cs _ => h.2 c cs (room_wide _)⟩
/-- all cells but block g's lie as they lay -/
structure LieG (g : Nat) (W W' : World) : Prop where
  size : W.heap.size ≤ W'.heap.size
  kept : ∀ (k : Nat) (o : Obj), k ≠ g → o.isCells = true → W.heap[k]? = some o → W'.heap[k]? = some o
theorem LieG.refl (g : Nat) (W : World) : LieG g W W := ⟨Nat.le_refl _, fun _ _ _ _ h => h⟩
theorem LieG.trans {g : Nat} {A B C : World} (h : LieG g A B) (k : LieG g B C) : LieG g A C := ⟨Nat.le_trans h.size k.size, fun i o hi ho hk => k.kept i o hi ho (h.kept i o hi ho hk)⟩
theorem LieG.put {g l : Nat} {W : World} {o : Obj} (o' : Obj) (hl : W.heap[l]? = some o) (ho : o.isCells = false) : LieG g W (W.putObj l o') :=
  ⟨by simp [World.putObj], fun k o2 _ h2 hk => (World.putObj_heap_other (fun e => by subst e; rw [hl] at hk; cases hk; rw [ho] at h2; cases h2)).trans hk⟩
theorem LieG.grown {g : Nat} {W W' : World} {row : Option Nat} (hg : W.grownBy W' row) (hr : ∀ r, row = some r → ∃ o : Obj, W.heap[r]? = some o ∧ o.isCells = false) : LieG g W W' :=
  ⟨hg.size, fun k o _ ho hk => (hg.block k (Array.getElem?_eq_some_iff.1 hk).1 (fun e => by obtain ⟨o2, h1, h2⟩ := hr k e.symm; rw [hk] at h1; cases h1; rw [ho] at h2; cases h2)).trans hk⟩
theorem LieG.below {g : Nat} {W W' : World} (h : Below W.heap.size W W') : LieG g W W' := ⟨h.size, fun k o _ _ hk => (h.block k (Array.getElem?_eq_some_iff.1 hk).1).trans hk⟩
theorem LieG.cell {g : Nat} {W W' : World} {p : Addr} {v : Value} (h : LieG g W W') (hp : p.block ≠ g) (hc : W.cell? p = some v) : W'.cell? p = some v := by
  have hb : ∃ c e f, W.heap[p.block]? = some (.cells c e f) := by
    unfold World.cell? at hc; split at hc
    · next c e f heq => exact ⟨c, e, f, heq⟩
    · cases hc
  obtain ⟨c, e, f, hb⟩ := hb
  have hk := h.kept _ _ hp rfl hb
  unfold World.cell? at hc ⊢
  rw [hk]; rw [hb] at hc; exact hc
/-- a slice that does not lie in block g -/
def OffG (g : Nat) (v : Value) : Prop := ∀ b off n c, v = .slice (some ⟨b, off, none⟩) n c → b ≠ g
theorem Box.lieG {g b : Nat} {w w' : World} {T : TypeId} {cs : Array Value} (h : Box w b T cs) (hs : LieG g w w') (hne : b ≠ g) : Box w' b T cs := hs.kept b _ hne rfl h
/-- likewise, where it has an element -/
def OffR (g : Nat) (v : Value) : Prop := ∀ b off n c, v = .slice (some ⟨b, off, none⟩) n c → 0 < n → b ≠ g
theorem OffG.weak {g : Nat} {v : Value} (h : OffG g v) : OffR g v := fun b off n c hv _ => h b off n c hv
theorem rd_off {w : World} {K : IntKind} {v : Value} {xs : List Int} {g : Nat} (h : Rd w K v xs) (hg : w.heap.size ≤ g) : OffR g v := fun b off n c hv hn => by
  obtain ⟨o, cap, he, hc⟩ := h
  rw [hv] at he
  simp at he
  obtain ⟨h1, h2, _⟩ := he
  obtain ⟨b', off', ho, hcell⟩ := hc 0 (by omega)
  rw [← h1] at ho
  simp at ho
  have := cell_lt hcell
  omega
theorem Rd.lieG {g : Nat} {w w' : World} {K : IntKind} {v : Value} {xs : List Int} (h : Rd w K v xs) (hs : LieG g w w') (hne : OffR g v) : Rd w' K v xs := by
  obtain ⟨o, cap, rfl, hc⟩ := h
  refine ⟨o, cap, rfl, fun j hj => ?_⟩
  obtain ⟨b, off, rfl, h1⟩ := hc j hj
  exact ⟨b, off, rfl, hs.cell (hne b off _ _ rfl (by omega)) h1⟩
theorem own_lieG {w w' : World} {g B : Nat} {e : TypeId} {s n : Nat} {v : Value} {xs : List Value} (h : w.ownsRow B e s v n xs) (hs : LieG g w w') (hne : OffG g v) : w'.ownsRow B e s v n xs := by
  refine ⟨h.1, ?_⟩
  rcases h.2 with hn | ⟨g', cap, cur, rfl, hb, hg, r⟩
  · exact .inl hn
  · exact .inr ⟨g', cap, cur, rfl, hb, hs.kept g' _ (hne g' 0 _ _ rfl) rfl hg, r⟩
theorem own_off {w : World} {g B : Nat} {e : TypeId} {s n : Nat} {v : Value} {xs : List Value} (h : w.ownsRow B e s v n xs) (hg : g < B) : OffG g v := fun b off n c hv => by
  subst hv; have := (h.lt b rfl).1; omega
/-- what the iterator over a view's places reads -/
def PlF (vb : Nat) (a b : Value) (off : Nat) (sh st : List Nat) (W : World) : Prop := Box W vb 81 #[a, b, .int .i64 off] ∧ Rd W .i64 a (ints sh) ∧ Rd W .i64 b (ints st)
theorem PlF.lieG {vb g : Nat} {a b : Value} {off : Nat} {sh st : List Nat} {W W' : World} (h : PlF vb a b off sh st W) (hs : LieG g W W') (h1 : vb ≠ g) (h2 : OffR g a) (h3 : OffR g b) : PlF vb a b off sh st W' :=
  ⟨h.1.lieG hs h1, h.2.1.lieG hs h2, h.2.2.lieG hs h3⟩
theorem PlF.next {vb : Nat} {a b : Value} {off : Nat} {sh st : List Nat} {W W' : World} (h : PlF vb a b off sh st W) (hb : Below W.heap.size W W') : PlF vb a b off sh st W' :=
  ⟨h.1.next hb, h.2.1.below hb (Nat.le_refl _), h.2.2.below hb (Nat.le_refl _)⟩
theorem AllF.lieG {ab g : Nat} {u : Value} {ns : List Nat} {W W' : World} (h : AllF ab u ns W) (hs : LieG g W W') (h1 : ab ≠ g) (h2 : OffR g u) : AllF ab u ns W' := ⟨h.1.lieG hs h1, h.2.lieG hs h2⟩
/-- where the n-th word of a view stands -/
def placeN (sh st : List Nat) (off n : Nat) : Nat := off + dotN (standsN sh n) st
def plEnc (sh st : List Nat) (off : Nat) (n : Nat) : Array Value := #[.int .i64 n, .int .i64 (placeN sh st off n)]
theorem dot_take_succ (i st : List Nat) (k : Nat) (h1 : k < i.length) (h2 : k < st.length) : dotN (i.take (k + 1)) (st.take (k + 1)) = dotN (i.take k) (st.take k) + i[k] * st[k] := by
  rw [dotN, dotN, ← List.take_zipWith, ← List.take_zipWith, List.take_succ_eq_append_getElem (by simp; omega), List.sum_append]
  simp
theorem dot_take_le (i st : List Nat) (k : Nat) : dotN (i.take k) (st.take k) ≤ dotN i st := by
  rw [dotN, dotN, ← List.take_zipWith]
  have := List.take_append_drop k (List.zipWith (· * ·) i st)
  conv => rhs; rw [← this, List.sum_append]
  omega
set_option maxRecDepth 100000 in
theorem viewPlaces_any (a b : Value) (off : Nat) (w : World) :
    Calls Tryz.prog 119 #[.agg #[a, b, .int .i64 off]] w fun e w' => e = .returned (.func (.func 165) #[] #[.pointer (some ⟨w.heap.size, 0, none⟩)]) ∧ w' = w.alloc (.cells #[a, b, .int .i64 off] 81) := by
  have hmf : ∀ (fn : Fn) (first cap : Array Value) (w : World), (Instr.makeFunc fn first cap).run Tryz.prog w = .ok (.func fn first cap) w := fun _ _ _ _ => rfl
  go_enter Tryz.func119, Tryz.ntmps119
  go_wp2
  go_ret
  exact ⟨rfl, rfl⟩
/-- what holds between two rounds of the iterator's own loop -/
structure PlI (J : List Nat → World → Prop) (B yb l vb : Nat) (a b : Value) (off : Nat) (sh st : List Nat) (ab : Nat) (u : Value) (pre : List IxX) (W : World) : Prop where
  j : J (pre.map (·.n)) W
  pl : PlF vb a b off sh st W
  al : AllF ab u sh W
  yb : Box W yb 158 #[.func (.yield l) #[] #[]]
  size : B ≤ W.heap.size
def PlX (Jx : List Nat → World → Prop) (c : Code) (pre : List IxX) (W : World) : Prop := c = .ret ∧ Jx (pre.map (·.n)) W
def PlA (n₀ N : Nat) (sh : List Nat) (pre : List IxX) (x : IxX) (W : World) : Prop := x.n = pre.length ∧ x.n < N ∧ OwnI W n₀ 3 .i64 x.v (ints (standsN sh x.n))
theorem not_cells {X : World} {row : Option Nat} {B : Nat} (hr : ∀ r, row = some r → B ≤ r ∧ ∃ o : Obj, X.heap[r]? = some o ∧ (o.isCells = false ∨ False)) : ∀ r, row = some r → ∃ o : Obj, X.heap[r]? = some o ∧ o.isCells = false := fun r e => by
  obtain ⟨_, o, h1, h2⟩ := hr r e
  exact ⟨o, h1, h2.resolve_right id⟩
theorem plI_own {ik : Obj → Prop} (hik : ∀ o : Obj, o.isCells = false → ik o) {J : List Nat → World → Prop} {B C g yb l vb : Nat} {a b : Value} {off : Nat} {sh st : List Nat} {ab : Nat} {u : Value} (hJ : AbidesI ik B J) (hBC : B ≤ C)
    (h1 : vb ≠ g) (h2 : OffR g a) (h3 : OffR g b) (h4 : ab ≠ g) (h5 : OffR g u) (h6 : yb ≠ g) : OwnR (fun _ => False) C (PlI J B yb l vb a b off sh st ab u) := fun s X Y row hs hg hr => by
  have hl := LieG.grown (g := g) hg (not_cells hr)
  exact ⟨hJ _ _ _ row hs.j hg (fun r e => by obtain ⟨q1, o, q2, q3⟩ := hr r e; exact ⟨by omega, o, q2, hik o (q3.resolve_right id)⟩), hs.pl.lieG hl h1 h2 h3, hs.al.lieG hl h4 h5, hs.yb.lieG hl h6, Nat.le_trans hs.size hg.size⟩
theorem plX_own {ik : Obj → Prop} (hik : ∀ o : Obj, o.isCells = false → ik o) {Jx : List Nat → World → Prop} {B C : Nat} (hJ : AbidesI ik B Jx) (hBC : B ≤ C) (c : Code) : OwnR (fun _ => False) C (PlX Jx c) := fun s X Y row hs hg hr =>
  ⟨hs.1, hJ _ _ _ row hs.2 hg (fun r e => by obtain ⟨q1, o, q2, q3⟩ := hr r e; exact ⟨by omega, o, q2, hik o (q3.resolve_right id)⟩)⟩
theorem plA_own {C n₀ N : Nat} {sh : List Nat} {p : List IxX} {x : IxX} {q : Prop} : OwnR (fun _ => False) C (fun (_ : Unit) W => q ∧ PlA n₀ N sh p x W) := fun s X Y row hs hg hr => by
  obtain ⟨h0, h1, h2, h3⟩ := hs
  refine ⟨h0, h1, h2, ?_⟩
  obtain ⟨gg, hgg⟩ : ∃ gg, ∀ b off n c, x.v = .slice (some ⟨b, off, none⟩) n c → b < gg := by
    obtain ⟨o, c, hv⟩ := own_slice h3
    cases o with
    | none => exact ⟨0, fun b off n c h => by rw [hv] at h; cases h⟩
    | some ad => exact ⟨ad.block + 1, fun b off n c h => by rw [hv] at h; cases h; exact Nat.lt_succ_self _⟩
  exact own_lieG h3 (LieG.grown (g := gg) hg (not_cells hr)) (fun b off n c h => by have := hgg b off n c h; omega)
theorem keepsFrom_mono {B C : Nat} {W W' : World} (h : KeepsFrom B W W') (hBC : B ≤ C) : KeepsFrom C W W' := ⟨h.size, fun k o hk => h.same k o (Nat.le_trans hBC hk)⟩
attribute [local go_sem] Oper.semAt_some
set_option maxRecDepth 100000 in
set_option maxHeartbeats 4000000 in
theorem places1_seq (ik : Obj → Prop) (hik : ∀ o : Obj, o.isCells = false → ik o) (g vb : Nat) (a b : Value) (off : Nat) (sh st : List Nat) (w : World) (n : Nat) (hn : 2 ≤ n) (hf : PlF vb a b off sh st w) (hg : shapeB (ints sh) = true)
    (hst : st.length = sh.length) (hfar : off + farN sh st ≤ 100000) (hst6 : ∀ x ∈ st, x ≤ 65536) (hgw : g < w.heap.size) (hvg : vb ≠ g) (hag : OffR g a) (hbg : OffR g b) :
    SeqN ik Fence.wide n Tryz.prog 165 #[.pointer (some ⟨vb, 0, none⟩)] (plEnc sh st off) (fun pre x W => x = pre.length ∧ x < prodN sh)
      (LieG g) (fun xs => xs = List.range (prodN sh)) (fun _ => True) w := by
  intro l J Jx W hWw hJ hJx hround h0
  have hn1 : 1 ≤ n := by omega
  have hfW := hf.next hWw
  have hgW : g < W.heap.size := Nat.lt_of_lt_of_le hgw hWw.size
  obtain ⟨oa, ca, rfl⟩ := rd_slice hfW.2.1
  obtain ⟨ob, cb, rfl⟩ := rd_slice hfW.2.2
  obtain ⟨W2, hW2⟩ : ∃ W2, W2 = W.alloc (.cells #[.func (.yield l) #[] #[]] 158) := ⟨_, rfl⟩
  have hB2 : Below W.heap.size W W2 := by rw [hW2]; exact (Below.refl _ _).alloc (Nat.le_refl _) _
  have hyb : Box W2 W.heap.size 158 #[.func (.yield l) #[] #[]] := by rw [hW2]; exact Box.new _ _ _
  have hF2 := hfW.next hB2
  have hj2 : J [] W2 := hJ [] W W2 none h0 ⟨hB2.os, hB2.tape, hB2.output, hB2.size, fun k hk _ => hB2.block k hk⟩ (fun r e => by cases e)
  have HJ := Lib.hid (And.intro hJ hJx)
  have HY := Lib.hid hround
  have HG := Lib.hid hg
  have HD := Lib.hid (dims_good hg)
  have hs2 : (ints sh).length = (ints st).length := by rw [ints_length, ints_length, hst]
  obtain ⟨m, hm⟩ : ∃ m, m = (ints sh).length := ⟨_, rfl⟩
  rw [← hs2] at hF2 hbg
  rw [← hm] at hF2 hag hbg
  have HM := Lib.hid (And.intro (show m = sh.length by rw [hm, ints_length]) (show m = st.length by rw [hm, ints_length, hst]))
  have HF2 := Lib.hid (And.intro hF2 (And.intro hyb hj2))
  have HW2 := Lib.hid hW2
  have HGS := Lib.hid (And.intro hgW (And.intro hvg (And.intro hag hbg)))
  have hsz2 : W.heap.size < W2.heap.size := hyb.lt
  have hvlt : vb < W.heap.size := hfW.1.lt
  have c0 : W.cell? ⟨vb, 0, none⟩ = some (.slice oa m ca) := by rw [hm]; exact hfW.1.cell 0 rfl
  refine callsIn_of_wp_marks Tryz.func165 rfl trivial ?_ rfl
  simp only [Tryz.ntmps165, List.size_toArray, List.length_cons, List.length_nil, Nat.reduceAdd, Nat.reduceSub, Array.replicate_succ, Array.replicate_zero, List.push_toArray, List.append_toArray, List.nil_append, List.cons_append]
  clear hf hfW hWw hJ hJx hround h0 hg hm hst hF2 hyb hj2 hB2 hs2 hW2 hag hbg
  gi_wp2_with (refine ⟨trivial, ?_⟩; gi_at_call 99; rw [← HW2.out]; refine (callsIn_wide.2 (shapeAll_any _ sh W2 HF2.out.1.2.1 (by have := HD.out.2; omega))).mono ?_; rintro e w3 ⟨rfl, hb3, u, hbx3, hou3⟩; refine stopHere ?_)
  have hou : OffR g u := (own_off hou3 (by omega)).weak
  have hB3 : Below W.heap.size W W2 := by rw [HW2.out]; exact (Below.refl _ _).alloc (Nat.le_refl _) _
  have HI3 := Lib.hid (show PlI J W.heap.size W.heap.size l vb (.slice oa m ca) (.slice ob m cb) off sh st W2.heap.size u [] w3 from
    ⟨HJ.out.1 [] W2 w3 none HF2.out.2.2 ⟨hb3.os, hb3.tape, hb3.output, hb3.size, fun k hk _ => hb3.block k hk⟩ (fun r e => by cases e), HF2.out.1.next hb3, ⟨hbx3, Rd.of_own hou3⟩, HF2.out.2.1.next hb3, Nat.le_trans (Nat.le_of_lt hsz2) hb3.size⟩)
  have hs3 : W2.heap.size < w3.heap.size := hbx3.lt
  have HSQ := Lib.hid (all1_seq (fun _ => False) (LieG g) w3.heap.size W2.heap.size u sh w3 (n - 1) (by omega) ⟨hbx3, Rd.of_own hou3⟩ HG.out (Nat.le_refl _) (fun X Y hk => ⟨hk.size, fun h => h.lieG hk (by omega) hou⟩))
  have HOU := Lib.hid hou
  clear hou hb3 hbx3 hou3 hB3 c0
  refine goOn ?_
  gi_wp2
  refine wpIn_rangeFunc_N (ik := fun _ => False) rfl (by omega) (gf := 146) (lb := #[.pointer (some ⟨W2.heap.size, 0, none⟩)]) rfl trivial (enters_of Tryz.func146 (by kernel_rfl) rfl)
    HSQ.out (fun h k => h.trans k) (fun X r o o' _ hl ho _ => LieG.put o' hl ho) (Below.refl _ _) (fun _ => rfl)
    (PlI J W.heap.size W.heap.size l vb (.slice oa m ca) (.slice ob m cb) off sh st W2.heap.size u) (PlX Jx)
    (plI_own hik HJ.out.1 (by omega) HGS.out.2.1 HGS.out.2.2.1 HGS.out.2.2.2 (by omega) HOU.out (by omega)) (plX_own hik HJ.out.2 (by omega)) HI3.out
    (fun p x a' X => a' = { tmps := #[.func (.yield l) #[] #[], .pointer (some ⟨vb, 0, none⟩), .pointer (some ⟨W.heap.size, 0, none⟩), .int .i64 x.n, x.v, undef, undef, undef, .pointer (some ⟨vb, 0, none⟩), .slice oa m ca, .func (.func 146) #[] #[.pointer (some ⟨W2.heap.size, 0, none⟩)], .int .i64 x.n, x.v, undef, undef, undef, undef, undef, undef, undef, undef, undef, undef, undef, undef, undef, undef, undef, undef, undef, undef, undef, undef, undef, undef, undef, undef], defers := [] } ∧ PlA w3.heap.size (prodN sh) sh p x X) (fun p x a' => plA_own) ?assign ?body ?done ?stop
  case assign =>
    intro l' pre x X K hI hrdy hK
    have HI := Lib.hid hI
    have HR := Lib.hid hrdy
    have HK := Lib.hid hK
    clear hI hrdy hK
    simp only [ixEnc]
    gi_wp2
    exact HK.out _ _ (KeepsFrom.refl _ _) (LieG.refl _ _) HI.out ⟨rfl, HR.out⟩
  case body =>
    rintro l' pre x a' X hI ⟨rfl, hxn, hxN, hxo⟩
    obtain ⟨xn, xv⟩ := x
    simp only at hxn hxN hxo ⊢
    have HI := Lib.hid hI
    obtain ⟨ix, hix⟩ : ∃ ix, ix = standsN sh xn := ⟨_, rfl⟩
    have hil : ix.length = m := by rw [hix, standsN_length, HM.out.1]
    have HP := Lib.hid (show dotN ix st ≤ farN sh st by rw [hix]; exact dot_le (stands_in sh xn (fun d hd => (HD.out.1 d hd).1)))
    have HPL := Lib.hid (show off + dotN ix st = placeN sh st off xn by rw [placeN, hix])
    rw [← hix] at hxo
    have hxr := Rd.of_own hxo
    obtain ⟨ox, cx, hov⟩ := rd_slice hxr
    subst hov
    rw [ints_length, hil] at hxr
    obtain ⟨fn, tmps, assign, body, hy, hR⟩ := HY.out (pre.map (·.n)) xn X hI.j ⟨by rw [List.length_map]; exact hxn, hxN⟩
    have HRR := Lib.hid hR
    have HXR := Lib.hid hxr
    have HIL := Lib.hid hil
    have hoff : off ≤ 100000 := by omega
    simp only [plEnc] at hy
    obtain ⟨P, hPe⟩ : ∃ P, P = placeN sh st off xn := ⟨_, rfl⟩
    rw [← hPe] at hy HPL
    obtain ⟨Q, hQ⟩ : ∃ Q : Nat → Nat, Q = fun k => off + dotN (ix.take k) (st.take k) := ⟨_, rfl⟩
    have HQ0 := Lib.hid (show Q 0 = off by rw [hQ]; simp [dotN])
    have HQM := Lib.hid (show Q m = P by
      rw [hQ, ← HPL.out]; show off + dotN (ix.take m) (st.take m) = _
      rw [List.take_of_length_le (by omega), List.take_of_length_le (by rw [← HM.out.2]; omega)])
    have HQS := Lib.hid (show ∀ k (h1 : k < ix.length) (h2 : k < st.length), Q (k + 1) = Q k + ix[k] * st[k] from fun k h1 h2 => by
      rw [hQ]; show off + dotN (ix.take (k + 1)) (st.take (k + 1)) = _
      rw [dot_take_succ ix st k h1 h2, Nat.add_assoc])
    have HQL := Lib.hid (show ∀ k, Q k ≤ 100000 from fun k => by
      rw [hQ]; show off + dotN (ix.take k) (st.take k) ≤ _
      have h1 := dot_take_le ix st k; have h2 := HP.out; omega)
    have p0 : X.cell? ⟨vb, 2, none⟩ = some (.int .i64 off) := hI.pl.1.cell 2 rfl
    have p1 : X.cell? ⟨vb, 1, none⟩ = some (.slice ob m cb) := hI.pl.1.cell 1 rfl
    have hy0 : X.cell? ⟨W.heap.size, 0, none⟩ = some (.func (.yield l) #[] #[]) := hI.yb.cell 0 rfl
    have hm4 : m ≤ 4 := by rw [HM.out.1]; exact HD.out.2
    have hlen : (ints (standsN sh xn)).length = m := by rw [ints_length, ← hix]; exact hil
    have hlen2 : (ints ix).length = m := by rw [ints_length]; exact hil
    rw [hlen2]
    clear hI hix hil hxo hxr hR hxn hxN hPe hQ hlen hlen2 hfar
    gi_wp2
    gi_loop [5, 6, 7, 17] (fun p _ _ i => ∃ k : Nat, k ≤ m ∧ i = .int .i64 k ∧ p = .int .i64 (Q k : Nat)) (fun _ _ _ i => m - (intOf i).toNat)
    case atStart => exact ⟨0, Nat.zero_le _, rfl, by rw [HQ0.out]⟩
    case round =>
      obtain ⟨k, hk, rfl, rfl⟩ := hrel
      by_cases hlt : k < m
      · have hk1 : k < ix.length := by rw [HIL.out]; exact hlt
        have hk2 : k < st.length := by rw [← HM.out.2]; exact hlt
        obtain ⟨b1, f1, rfl, h1⟩ := HXR.out.cell k (by rw [ints_length]; exact hk1)
        obtain ⟨b2, f2, rfl, h2⟩ := HI.out.pl.2.2.cell k (by rw [ints_length]; exact hk2)
        rw [ints_get _ _ hk1] at h1
        rw [ints_get _ _ hk2] at h2
        have hqs := HQS.out k hk1 hk2
        have hq1 := HQL.out k
        have hq2 := HQL.out (k + 1)
        obtain ⟨y, hy2⟩ : ∃ y, y = ix[k] := ⟨_, rfl⟩
        obtain ⟨z, hz2⟩ : ∃ z, z = st[k] := ⟨_, rfl⟩
        rw [← hy2] at h1 hqs
        rw [← hz2] at h2 hqs
        obtain ⟨q, hq⟩ : ∃ q, q = Q k := ⟨_, rfl⟩
        rw [← hq] at hqs hq1 ⊢
        have HQN := Lib.hid hqs
        have hwm : IntKind.i64.wrap ((y : Int) * (z : Int)) = ((y * z : Nat) : Int) := by
          rw [show (y : Int) * (z : Int) = ((y * z : Nat) : Int) by push_cast; rfl]; exact IntWalk.i64_in _ (by omega)
        have hwa : IntKind.i64.wrap ((q : Int) + ((y * z : Nat) : Int)) = ((q + y * z : Nat) : Int) := by
          rw [IntWalk.i64_in _ (by omega)]; push_cast; rfl
        have hyz : (y : Int) * (z : Int) ≤ 100000 := by
          have h : ((y * z : Nat) : Int) ≤ 100000 := by omega
          rwa [Int.natCast_mul] at h
        have hyz0 : (0 : Int) ≤ (y : Int) * (z : Int) := Int.mul_nonneg (by omega) (by omega)
        clear hqs hq2 hy2 hz2 hq hwm hwa
        gi_wp2
        go_round
        case rel =>
          refine ⟨_, _, _, _, ⟨k + 1, by omega, ?_, ?_⟩, rfl, rfl, rfl, rfl⟩
          · go_num
          · rw [HQN.out]; push_cast; rfl
        case measure => simp [intOf]; omega
      · obtain rfl : k = m := by omega
        rw [HQM.out]
        gi_wp2
        refine ⟨by simp [Fence.wide, Fence.inRound], ?_⟩
        refine (roundIn_in l' (n - 1 - 1 - 1) HRR.out).mono ?_
        clear HRR hy
        rintro e W' ⟨hkf, (⟨rfl, hj', hlie⟩ | ⟨rfl, hjx⟩)⟩
        · have HF := Lib.hid (And.intro (keepsFrom_mono hkf (show W.heap.size ≤ w3.heap.size by omega)) (And.intro hlie hj'))
          clear hkf hj' hlie
          gi_wp2
          refine ⟨HF.out.1, HF.out.2.1, ?_, HI.out.pl.lieG HF.out.2.1 HGS.out.2.1 HGS.out.2.2.1 HGS.out.2.2.2, HI.out.al.lieG HF.out.2.1 (by omega) HOU.out, HI.out.yb.lieG HF.out.2.1 (by omega), Nat.le_trans HI.out.size HF.out.2.1.size⟩
          rw [List.map_append]; exact HF.out.2.2
        · have HF := Lib.hid (And.intro (keepsFrom_mono hkf (show W.heap.size ≤ w3.heap.size by omega)) hjx)
          clear hkf hjx
          gi_wp2
          refine ⟨HF.out.1, rfl, ?_⟩
          rw [List.map_append]; exact HF.out.2
  case done =>
    rintro D xs X hD hS hI hK
    have HI := Lib.hid hI
    have HK := Lib.hid hK
    have HS := Lib.hid hS
    clear hI hK hS
    gi_wp2
    refine ⟨by simp, .inl ⟨_, _, rfl, run_takeDeferred HK.out, ?_⟩⟩
    refine ⟨_, results_none rfl _ _ _, ⟨_, rfl⟩, .inl ⟨_, rfl, ?_⟩⟩
    have := HJ.out.1 _ X _ (some D) HI.out.j (grownBy_putObj' X D (.deferred none)) (fun r e => by cases e; exact ⟨by omega, _, HK.out, hik _ rfl⟩)
    rw [HS.out] at this
    exact this
  case stop =>
    rintro D c pre X hD _ ⟨rfl, hx⟩ hK
    have HX := Lib.hid hx
    have HK := Lib.hid hK
    clear hx hK
    gi_wp2
    refine ⟨by simp, .inl ⟨_, _, rfl, run_takeDeferred HK.out, ?_⟩⟩
    refine ⟨_, results_none rfl _ _ _, ⟨_, rfl⟩, .inr ⟨pre.map (·.n), trivial, ?_⟩⟩
    exact HJ.out.2 _ X _ (some D) HX.out (grownBy_putObj' X D (.deferred none)) (fun r e => by cases e; exact ⟨by omega, _, HK.out, hik _ rfl⟩)
end Go.Proofs.YtipjhdgegfgenaaGreat
