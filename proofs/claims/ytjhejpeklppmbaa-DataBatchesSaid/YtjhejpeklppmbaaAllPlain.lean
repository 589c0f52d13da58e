/-
  data.Batch of all examples, of all twice, and of one: what is put together, in plain lists.
-/
import Derived.Test.YtjhejpeklppmbaaBatchGo
set_option linter.unusedVariables false
set_option linter.unusedSimpArgs false
namespace Go.Proofs.Ytjhejpeklppmbaa
open Go.RowKit Go.Shelf
def rangeI (n : Nat) : List Int := (List.range n).map fun (k : Nat) => (k : Int)
theorem rangeI_length (n : Nat) : (rangeI n).length = n := by simp [rangeI]
theorem rangeI_succ (n : Nat) : rangeI (n + 1) = rangeI n ++ [(n : Int)] := by simp [rangeI, List.range_succ]
theorem rangeI_mem {n : Nat} {k : Int} (h : k ∈ rangeI n) : 0 ≤ k ∧ k < n := by
  simp only [rangeI, List.mem_map, List.mem_range] at h
  obtain ⟨j, hj, rfl⟩ := h
  omega
theorem chunks (xs : List Int) (m n : Nat) : ((rangeI n).flatMap fun k => (xs.drop (k.toNat * m)).take m) = xs.take (n * m) := by
  induction n with
  | zero => simp [rangeI]
  | succ n ih =>
    rw [rangeI_succ, List.flatMap_append, ih, List.flatMap_singleton, Int.toNat_natCast, Nat.add_mul, Nat.one_mul, List.take_add]
theorem nth_all (xs : List Int) (n : Nat) (h : xs.length = n) : ((rangeI n).map fun k => nth xs k.toNat) = xs := by
  subst h
  apply List.ext_getElem
  · simp [rangeI]
  · intro k h1 h2
    simp [rangeI, nth_eq xs k h2]
theorem idsB_range (n : Nat) (N : Int) (h : (n : Int) ≤ N) : idsB N (rangeI n) = false := by
  rw [idsB, List.any_eq_false]
  intro k hk
  have := rangeI_mem hk
  simp
  omega
theorem idsB_append (N : Int) (a b : List Int) : idsB N (a ++ b) = (idsB N a || idsB N b) := by rw [idsB, List.any_append]; rfl
theorem batchX_append (s : SetD) (a b : List Int) : batchX s (a ++ b) = batchX s a ++ batchX s b := by rw [batchX, List.flatMap_append]; rfl
theorem batchY_append (s : SetD) (a b : List Int) : batchY s (a ++ b) = batchY s a ++ batchY s b := by rw [batchY, List.flatMap_append]; rfl
theorem batchL_append (s : SetD) (a b : List Int) : batchL s (a ++ b) = batchL s a ++ batchL s b := by
  simp only [batchL]
  split <;> simp
/-- what a dataset that is gives -/
structure GoodN (s : SetD) (n size many : Nat) : Prop where
  hn : (n : Int) = countS s
  hs : (size : Int) = prodL s.sh
  hm : (many : Int) = (s.y.length : Int) / countS s
  n1 : 1 ≤ n
  s1 : 1 ≤ size
  hx : s.x.length = n * size
  hy : s.y.length = n * many
  lb : 0 < s.lb.length → s.lb.length = n ∧ s.y.length = 0
  ly : ¬ 0 < s.lb.length → 0 < s.y.length
theorem shapeB_iff {l : List Int} : shapeB l = true ↔ l.length ≤ 4 ∧ l.all dimB = true ∧ prodL l ≤ 65536 := by
  simp only [shapeB, Bool.and_eq_true, decide_eq_true_eq, and_assoc]
theorem dimB_prod (l : List Int) (h : l.all dimB = true) : 1 ≤ prodL l := by have := (prodL_bd l h).1; omega
theorem goodN {s : SetD} (h : goodSet s = true) : ∃ n size many, GoodN s n size many := by
  obtain ⟨h1, h2, h3, h4, h5, h6, h7, h8, h9, h10⟩ := goodSet_parts h
  obtain ⟨_, hall, _⟩ := shapeB_parts h1
  have hp := dimB_prod _ hall
  have e1 : ((countS s).toNat : Int) = countS s := by omega
  have e2 : ((prodL s.sh).toNat : Int) = prodL s.sh := by omega
  have hq : 0 ≤ (s.y.length : Int) / countS s := Int.ediv_nonneg (by omega) (by omega)
  have e3 : (((s.y.length : Int) / countS s).toNat : Int) = (s.y.length : Int) / countS s := by omega
  refine ⟨(countS s).toNat, (prodL s.sh).toNat, ((s.y.length : Int) / countS s).toNat, e1, e2, e3, by omega, by omega, ?_, ?_, fun hl => ?_, fun hl => (h10 hl).1⟩
  · have : (s.x.length : Int) = (((countS s).toNat * (prodL s.sh).toNat : Nat) : Int) := by rw [Int.natCast_mul, e1, e2]; exact h6
    omega
  · have : (s.y.length : Int) = (((countS s).toNat * ((s.y.length : Int) / countS s).toNat : Nat) : Int) := by
      rw [Int.natCast_mul, e1, e3]
      by_cases hl : 0 < s.lb.length
      · have := (h9 hl).2.1
        rw [this]; simp
      · have hr := (h10 hl).2.1
        have := Int.mul_ediv_add_emod (s.y.length : Int) (countS s)
        rw [hr] at this
        omega
    omega
  · have := h9 hl
    omega
theorem batchX_all {s : SetD} {n size many : Nat} (h : GoodN s n size many) : batchX s (rangeI n) = s.x := by
  have : (prodL s.sh).toNat = size := by have := h.hs; omega
  rw [batchX, this, chunks, ← h.hx, List.take_length]
theorem batchY_all {s : SetD} {n size many : Nat} (h : GoodN s n size many) : batchY s (rangeI n) = s.y := by
  have : ((s.y.length : Int) / countS s).toNat = many := by have := h.hm; omega
  rw [batchY, this, chunks, ← h.hy, List.take_length]
theorem batchL_all {s : SetD} {n size many : Nat} (h : GoodN s n size many) : batchL s (rangeI n) = s.lb := by
  rw [batchL]
  split
  · rename_i hl
    exact nth_all s.lb n (h.lb hl).1
  · rename_i hl
    exact (List.eq_nil_of_length_eq_zero (by omega)).symm
theorem batchX_one {s : SetD} {n size many : Nat} (h : GoodN s n size many) (k : Nat) : batchX s [(k : Int)] = (s.x.drop (k * size)).take size := by
  have : (prodL s.sh).toNat = size := by have := h.hs; omega
  rw [batchX, this, List.flatMap_singleton, Int.toNat_natCast]
/-- where little is asked nothing is too much -/
theorem bud_ok {s : SetD} {n size many : Nat} (h : GoodN s n size many) (hg : goodSet s = true) (ids : List Int) (h1 : 1 ≤ ids.length) (h2 : ids.length ≤ 2 * n) (hx : s.x.length ≤ 400) (hy : s.y.length ≤ 400) : budB s ids = false := by
  obtain ⟨h3, hall, hp⟩ := shapeB_parts (goodSet_parts hg).1
  have hr := (goodSet_parts hg).2.2.1
  have hns : n ≤ n * size := Nat.le_mul_of_pos_right _ h.s1
  have hnx := h.hx
  have hn : n ≤ 400 := by omega
  have hprod : ids.length * size ≤ 800 := by
    have := Nat.mul_le_mul_right size h2
    rw [Nat.mul_assoc] at this
    omega
  have hpr : prodL ((ids.length : Int) :: s.sh) = (ids.length : Int) * prodL s.sh := by rw [prodL, List.foldl_cons, Int.one_mul, foldl_mul]
  have e1 : shapeB ((ids.length : Int) :: s.sh) = true := by
    rw [shapeB_iff]
    refine ⟨by simp; omega, ?_, ?_⟩
    · rw [List.all_cons, hall, Bool.and_true, dimB]
      simp; omega
    · rw [hpr, ← h.hs, ← Int.natCast_mul]; omega
  have e2 : shapeB (yShape s ids) = true := by
    rw [yShape]
    split
    · rename_i hl
      have hmm : many ≤ n * many := Nat.le_mul_of_pos_left _ h.n1
      have hny := h.hy
      have hm1 : 1 ≤ many := by
        rcases Nat.eq_zero_or_pos many with h0 | h0
        · rw [h0] at hny; omega
        · exact h0
      have hq : ids.length * many ≤ 800 := by
        have := Nat.mul_le_mul_right many h2
        rw [Nat.mul_assoc] at this
        omega
      rw [shapeB_iff, ← h.hm]
      refine ⟨by simp, ?_, ?_⟩
      · simp [dimB]; omega
      · simp only [prodL, List.foldl_cons, List.foldl_nil, Int.one_mul]
        rw [← Int.natCast_mul]; omega
    · decide
  rw [budB, e1, e2]; rfl
theorem not_bad {s : SetD} {n size many : Nat} (h : GoodN s n size many) (hx : s.x.length ≤ 400) (ids : List Int) (h1 : 1 ≤ ids.length) (h2 : ids.length ≤ 2 * n) (hi : idsB n ids = false) : idsBad s ids = false := by
  have hns : n ≤ n * size := Nat.le_mul_of_pos_right _ h.s1
  have hnx := h.hx
  rw [idsBad, ← h.hn, hi, decide_eq_false (by omega), decide_eq_false (by omega)]; rfl
theorem batch_ok (a b c d : Value) (s : SetD) (oi : Option Addr) (ci : Nat) (ids : List Int) (w : World) (hr : RdSet w a b c d s) (hl : LimSet s) (hg : goodSet s = true) (hi : Rd w .i64 (.slice oi ids.length ci) ids) (hli : ids.length ≤ 100000) (hbad : idsBad s ids = false) (hbud : budB s ids = false)
    (hcb : ∀ o m c, b = .slice o m c → m ≤ c ∧ c ≤ 9223372036854775807) (hcd : ∀ o m c, d = .slice o m c → m ≤ c ∧ c ≤ 9223372036854775807) :
    Calls Try.prog 15 #[.agg #[a, b, c, d], .slice oi ids.length ci] w fun e w' => ∃ xs xd vl ys yd, e = .returned (.tuple #[.agg #[xs, xd], vl, .agg #[ys, yd], .int .i64 0]) ∧
      OwnI w' w.heap.size 3 .i64 xs ((ids.length : Int) :: s.sh) ∧ OwnI w' w.heap.size 2 .i64 xd (batchX s ids) ∧ OwnI w' w.heap.size 3 .i64 vl (batchL s ids) ∧
      OwnI w' w.heap.size 3 .i64 ys (yShape s ids) ∧ OwnI w' w.heap.size 2 .i64 yd (batchY s ids) ∧ Below w.heap.size w w' := by
  refine ((callsIn_wide (n := 9)).1 (batch_go a b c d s oi ci ids w hr hl hg hi hli hbad hcb hcd)).mono ?_
  rintro e w' (⟨h, _⟩ | ⟨_, v, rfl, ⟨xs, xd, vl, ys, yd, rfl, h1, h2, h3, h4, h5, _⟩, hb⟩)
  · rw [hbud] at h; cases h
  · exact ⟨xs, xd, vl, ys, yd, rfl, h1, h2, h3, h4, h5, hb⟩
/-- append of what reads, at a step of a region that draws, where the step is wanted -/
theorem step_append_rdg {P : Program} {ops : Array Oper} {o : Oper} {a : Act} {w : World} {K' : Act → World → Prop} {Q : Exit → Act → World → Prop} {E : Prop} (hw : Region.wanted o (yielded ops a.tmps) = true) (s x : Operand) (t : TypeId)
    (ho : o.op = .call { callee := .builtin .append, args := #[s, x], argTypes := #[t, t] })
    (B : Nat) (e : TypeId) (K : IntKind) (i : TypeInfo) (bytes : Nat) (ht : P.underlying t = some (.slice e)) (hi : P.info? e = some i) (hz : i.zero = some (.int K 0)) (hsize : i.size = 1) (hby : i.bytes = bytes)
    (v : Value) (xs : List Int) (hs : a.eval s = v) (hown : OwnI w B e K v xs) (u : Value) (ys : List Int) (hx : a.eval x = u) (hr : Rd w K u ys)
    (h63 : xs.length + ys.length ≤ maxLen) (hbytes : (xs.length + ys.length) * bytes ≤ 140737488355328) (hbase : B ≤ w.heap.size)
    (h : ∀ v' w', OwnI w' B e K v' (xs ++ ys) → w.grownBy w' v.ownBlock → (v'.ownBlock = v.ownBlock ∨ v'.ownBlock = some w.heap.size) → K' (a.put o.dst v') w') :
    if Region.wanted o (yielded ops a.tmps) = true then Oper.wp P o a w K' Q else E := by
  rw [if_pos hw]
  obtain ⟨v', w', hrun, h2, h3, h4⟩ := run_append_rd (P := P) w t o.type B e K i bytes ht hi hz hsize hby v xs hown u ys hr h63 hbytes hbase
  unfold Oper.wp execOp
  simp only [ho, resolve, invoke, builtin, Sem.run_bind, Sem.run_pure, Result.andThen_ok, List.map_toArray, List.map_cons, List.map_nil, hs, hx, hrun]
  exact h v' w' h2 h3 h4
/-- five cells of three boxes -/
theorem keep5 {w W : World} {a b c : Nat} {T U : TypeId} {x0 x1 x2 x3 y0 y1 z0 z1 : Value} (hx : Box w a T #[x0, x1, x2, x3]) (hy : Box w b U #[y0, y1]) (hz : Box w c U #[z0, z1]) (hB : Below w.heap.size w W) :
    W.cell? ⟨a, 1, none⟩ = some x1 ∧ W.cell? ⟨a, 2, none⟩ = some x2 ∧ W.cell? ⟨a, 3, none⟩ = some x3 ∧ W.cell? ⟨b, 1, none⟩ = some y1 ∧ W.cell? ⟨c, 1, none⟩ = some z1 :=
  ⟨(hx.next hB).cell 1 rfl, (hx.next hB).cell 2 rfl, (hx.next hB).cell 3 rfl, (hy.next hB).cell 1 rfl, (hz.next hB).cell 1 rfl⟩
end Go.Proofs.Ytjhejpeklppmbaa
