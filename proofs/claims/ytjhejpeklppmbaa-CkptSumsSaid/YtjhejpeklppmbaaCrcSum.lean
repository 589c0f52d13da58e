/-
  ckpt.Sum: its contract: the sum of the bytes, whatever they are.
-/
import Derived.Test.YtjhejpeklppmbaaCrcRows
set_option linter.unusedVariables false
set_option linter.unusedSimpArgs false
namespace Go.Proofs.Ytjhejpeklppmbaa
open Go.RowKit Go.Shelf
attribute [local go_sem] Oper.semAt_some
/-- block B is the sum's table, as far as these numbers' rows go -/
def TabRow (B : Nat) (pre : List (Fin 256)) (W : World) : Prop :=
  ∃ cur : Array Value, W.heap[B]? = some (.cells cur 74 (0, 0)) ∧ cur.size = 256 ∧ ∀ k ∈ pre, cur[k.1]? = some (.int .u32 (crcTab k.1 : Nat))
theorem tabRow_own (B : Nat) : Own (TabRow B) := fun s W W' row hs hg hr => by
  obtain ⟨cur, h1, h2⟩ := hs
  exact ⟨cur, (grownBy_keeps_cells hg hr h1 rfl).trans h1, h2⟩
theorem tabRow_start (w : World) : TabRow w.heap.size [] (w.alloc (.cells Try.zeroCells74 74)) :=
  ⟨_, World.alloc_heap_new w _, by kernel_rfl, fun _ h => by cases h⟩
theorem TabRow.cell {B : Nat} {pre : List (Fin 256)} {W : World} (h : TabRow B pre W) (j : Nat) (hj : j < 256) :
    ∃ v, W.cell? ⟨B, j, none⟩ = some v ∧ W.frozen? ⟨B, j, none⟩ = false := by
  obtain ⟨cur, h1, h2, _⟩ := h
  refine ⟨cur[j], ?_, ?_⟩
  · rw [cell_of_row W B j cur _ _ h1]; exact Array.getElem?_eq_getElem (by omega)
  · simp [World.frozen?, h1]
theorem TabRow.read {B : Nat} {W : World} (h : TabRow B (List.finRange 256) W) (j : Nat) (hj : j < 256) :
    W.cell? ⟨B, j, none⟩ = some (.int .u32 (crcTab j : Nat)) := by
  obtain ⟨cur, h1, h2, h3⟩ := h
  rw [cell_of_row W B j cur _ _ h1]
  exact h3 ⟨j, hj⟩ (List.mem_finRange _)
theorem TabRow.set {B : Nat} {pre : List (Fin 256)} {W : World} (h : TabRow B pre W) (x : Fin 256) :
    TabRow B (pre ++ [x]) (W.setCell ⟨B, x.1, none⟩ (.int .u32 (crcTab x.1 : Nat))) := by
  obtain ⟨cur, h1, h2, h3⟩ := h
  refine ⟨cur.setIfInBounds x.1 (.int .u32 (crcTab x.1 : Nat)), ?_, by simpa using h2, fun k hk => ?_⟩
  · simp [World.setCell, Array.getElem?_modify, h1]
  · rw [Array.getElem?_setIfInBounds]
    have := x.2
    by_cases e : x = k
    · subst e; simp [h2]
    · rw [if_neg (fun he => e (Fin.ext he))]
      rcases List.mem_append.1 hk with hk | hk
      · exact h3 k hk
      · exact absurd (List.mem_singleton.1 hk).symm e
set_option maxRecDepth 100000 in
set_option maxHeartbeats 1000000 in
theorem sum_in (v : Value) (xs : List Int) (w : World) (hr : Rd w .u8 v xs) (hw : Wf .u8 xs) (hl : xs.length ≤ 140737488351232) :
    CallsIn Fence.wide 9 Try.prog 10 #[v] w fun e w' => e = .returned (.int .u32 (crcSum xs : Nat)) ∧ Below w.heap.size w w' := by
  obtain ⟨o, cap, rfl, hc⟩ := hr
  have HC := Lib.hid hc
  clear hc
  refine callsIn_of_wp_marks Try.func10 rfl trivial ?_ rfl
  simp only [Try.ntmps10, List.size_toArray, List.length_cons, List.length_nil, Nat.reduceAdd, Nat.reduceSub, Array.replicate_succ, Array.replicate_zero, List.push_toArray, List.append_toArray, List.nil_append, List.cons_append]
  gi_wp2_with (refine ⟨trivial, ?_⟩; gi_at_call 37; refine (rows_in Fence.wide 8 trivial rfl _).mono ?_; rintro e w' ⟨rfl, rfl⟩)
  refine wpIn_rangeFunc_ownF rfl (by omega) (gf := 61) (lb := #[]) rfl trivial (enters_of Try.func61 (by kernel_rfl) rfl)
    (rows1_stops Fence.wide 8 trivial rfl (by omega) _) walksK_t (walksK_b (w := w.alloc (.cells Try.zeroCells74 74))) (Below.refl _ _) (fun _ => rfl)
    (fun pre W => TabRow w.heap.size pre W ∧ Below w.heap.size w W)
    (fun _ _ _ => False)
    (OwnFrom.and (Own.from (tabRow_own _) _) (ownFrom_below (Nat.le_refl _) (by simp)))
    (fun _ _ _ _ _ h _ _ => h)
    ⟨tabRow_start w, (Below.refl _ _).alloc (Nat.le_refl _) _⟩
    (fun x => { tmps := #[.slice o xs.length cap, undef, .int .u32 0, .pointer (some ⟨w.heap.size, 0, none⟩), .int .i64 (x.1 : Nat), .int .u32 (crcTab x.1 : Nat), undef, undef, undef, .func (.func 61) #[] #[], .int .i64 (x.1 : Nat), .int .u32 (crcTab x.1 : Nat), undef, undef, undef, undef, undef, undef, undef, undef, undef, undef, undef, undef, undef, undef, undef, undef, undef, undef, undef, undef, undef], defers := [] }) ?assign ?body ?done ?stop
  case assign =>
    intro l x W K hK
    gi_wp2
    exact hK
  case body =>
    rintro l pre x W ⟨hT, hB⟩ _
    obtain ⟨old, ho, hf⟩ := hT.cell x.1 x.2
    have hx := x.2
    have HT := Lib.hid hT
    have HB := Lib.hid hB
    clear hT hB
    gi_wp2
    exact ⟨KeepsOthers.setCell _ _ _, KeepsWalks.setCell _ _ _, HT.out.set x, HB.out.setCell (p := ⟨w.heap.size, x.1, none⟩) (Nat.le_refl _) _⟩
  case done =>
    rintro D ys W hD rfl ⟨hT, hB⟩ hK
    rw [crcPre_all] at hT
    have HT := Lib.hid hT
    have HB := Lib.hid hB
    have HK := Lib.hid hK
    have HD := Lib.hid hD
    have HW := Lib.hid hw
    clear hT hB hK hD hw
    gi_wp2
    gi_loop [6, 17] (fun s i => ∃ k : Nat, k ≤ xs.length ∧ i = .int .i64 k ∧ s = .int .u32 (crcRun 4294967295 (xs.take k) : Nat)) (fun _ i => xs.length - (intOf i).toNat)
    case atStart => exact ⟨0, by omega, rfl, rfl⟩
    case round =>
      obtain ⟨k, hk, rfl, rfl⟩ := hrel
      by_cases hlt : k < xs.length
      · obtain ⟨b, off, rfl, hcell⟩ := HC.out k hlt
        have hcell' := (HB.out.cell (p := ⟨b, off + k, none⟩) (cell_lt hcell)).trans hcell
        clear hcell
        have hc := wf_u8 (HW.out.nth k hlt)
        have hS : crcRun 4294967295 (xs.take k) < 4294967296 := crcRun_lt _ _ (by omega) fun x hx => wf_u8 (HW.out.take k x hx)
        obtain ⟨S, hSe⟩ : ∃ S, S = crcRun 4294967295 (xs.take k) := ⟨_, rfl⟩
        rw [← hSe] at hS ⊢
        have HS := Lib.hid hSe
        clear hSe
        obtain ⟨j, hje⟩ : ∃ j : Nat, j = (S % 256) ^^^ (nth xs k).toNat := ⟨_, rfl⟩
        have hj : j < 256 := by rw [hje]; exact Nat.xor_lt_two_pow (n := 8) (by omega) (by omega)
        have ht : bits BinOp.xor IntKind.u8 ((S : Int) % 256) (nth xs k) = (j : Int) := by
          rw [u8_xor _ _ (by omega) (by omega) hc.1 hc.2, hje]; congr 1
        have hx : bits BinOp.xor IntKind.u32 ((S : Int) / 256) (crcTab j : Nat) = (crcStep S (nth xs k).toNat : Nat) := by
          have := crcTab_lt j hj
          rw [show ((S : Int) / 256) = ((S / 256 : Nat) : Int) from by omega, u32_xor_nat _ _ (by omega) this, crcStep, ← hje]
        have HJ := Lib.hid hje
        clear hje
        have htab := HT.out.read j hj
        gi_wp2
        go_round
        case rel => exact ⟨k + 1, by omega, by go_num, by rw [take_succ_nth xs k hlt, crcRun_snoc, ← HS.out]⟩
        case measure => simp [intOf]; omega
      · obtain rfl : k = xs.length := by omega
        have hS : crcRun 4294967295 xs < 4294967296 := crcRun_lt _ _ (by omega) fun x hx => wf_u8 (HW.out x hx)
        have he : bits BinOp.xor IntKind.u32 IntKind.u32.max ↑(crcRun 4294967295 xs) = ((crcSum xs : Nat) : Int) := by
          show bits BinOp.xor IntKind.u32 ((4294967295 : Nat) : Int) _ = _
          rw [u32_xor_nat _ _ (by omega) hS, Nat.xor_comm]; rfl
        gi_wp2
        refine ⟨by simp, .inl ⟨_, _, rfl, run_takeDeferred HK.out, ?_⟩⟩
        refine ⟨_, results_tmp rfl _ _ _, rfl, ?_⟩
        exact HB.out.trans (belowK_b (w := w) (Nat.le_refl _) W D _ _ (by have := HD.out; simp at this; omega) HK.out rfl rfl)
  case stop =>
    rintro D c pre W _ _ h _
    exact h.elim
end Go.Proofs.Ytjhejpeklppmbaa
