/-
  SCRIPTS of a disk's laws: files, where the power goes off, calls. `heavy` walked.
-/
import Derived.Test.YtejmbhckfdfoeaaDLeaf
set_option linter.unusedVariables false
set_option linter.unusedSimpArgs false
namespace Go.Proofs.Ytejmbhckfdfoeaa
open Go.RowKit Go.Maps
/-- a call as read: which, two names, bytes, picks -/
structure ActD where
  act : Int
  a : List UInt8
  b : List UInt8
  da : List Int
  pk : List Int
def anth (l : List ActD) (k : Nat) : ActD := l.getD k ⟨0, [], [], [], []⟩
structure ActRd (w : World) (o : Option Addr) (i : Nat) (f : ActD) : Prop where
  ex : ∃ b off od cd op cp, o = some ⟨b, off, none⟩ ∧ w.cell? ⟨b, off + i * 5, none⟩ = some (.int .i64 f.act) ∧ w.cell? ⟨b, off + i * 5 + 1, none⟩ = some (encStr f.a) ∧ w.cell? ⟨b, off + i * 5 + 2, none⟩ = some (encStr f.b) ∧
    w.cell? ⟨b, off + i * 5 + 3, none⟩ = some (.slice od f.da.length cd) ∧ w.cell? ⟨b, off + i * 5 + 4, none⟩ = some (.slice op f.pk.length cp) ∧ Rd w .u8 (.slice od f.da.length cd) f.da ∧ Rd w .i64 (.slice op f.pk.length cp) f.pk
  al : f.a.length ≤ maxLen
  bl : f.b.length ≤ maxLen
  dl : f.da.length ≤ 140737488351232
  pl : f.pk.length ≤ 140737488351232
def ActsRd (w : World) (v : Value) (l : List ActD) : Prop :=
  ∃ o cap, v = .slice o l.length cap ∧ ∀ i, i < l.length → ActRd w o i (anth l i)
theorem ActRd.below {w w' : World} {o : Option Addr} {i : Nat} {f : ActD} {B : Nat} (h : ActRd w o i f) (hB : Below B w w') (hs : w.heap.size ≤ B) : ActRd w' o i f := by
  obtain ⟨b, off, od, cd, op, cp, rfl, h1, h2, h3, h4, h5, h6, h7⟩ := h.ex
  have k : ∀ {n m : Nat} {v : Value}, w.cell? ⟨n, m, none⟩ = some v → w'.cell? ⟨n, m, none⟩ = some v := fun {n m v} hc => (hB.cell (p := ⟨n, m, none⟩) (Nat.lt_of_lt_of_le (cell_lt hc) hs)).trans hc
  exact ⟨⟨b, off, od, cd, op, cp, rfl, k h1, k h2, k h3, k h4, k h5, h6.below hB hs, h7.below hB hs⟩, h.al, h.bl, h.dl, h.pl⟩
theorem ActsRd.below {w w' : World} {v : Value} {l : List ActD} {B : Nat} (h : ActsRd w v l) (hB : Below B w w') (hs : w.heap.size ≤ B) : ActsRd w' v l := by
  obtain ⟨o, cap, rfl, hc⟩ := h
  exact ⟨o, cap, rfl, fun i hi => (hc i hi).below hB hs⟩
/-- the bytes of the first k files -/
def filesTo (fs : List FileD) : Nat → Nat
  | 0 => 0
  | k + 1 => filesTo fs k + (fnth fs k).da.length
/-- the bytes and picks of the first k calls -/
def actsTo (l : List ActD) : Nat → Nat
  | 0 => 0
  | k + 1 => actsTo l k + (anth l k).da.length + (anth l k).pk.length
def heavyB (fs : List FileD) (l : List ActD) : Bool := decide (3000 < filesTo fs (min fs.length 100) + actsTo l (min l.length 25)) || decide (100 < fs.length)
theorem filesTo_le {fs : List FileD} (h : ∀ k, k < fs.length → (fnth fs k).da.length ≤ 140737488351232) : ∀ k, k ≤ fs.length → filesTo fs k ≤ k * 140737488351232
  | 0, _ => by simp [filesTo]
  | k + 1, hk => by
    have := filesTo_le h k (by omega)
    have := h k (by omega)
    rw [filesTo]; omega
theorem actsTo_le {l : List ActD} (h : ∀ k, k < l.length → (anth l k).da.length ≤ 140737488351232 ∧ (anth l k).pk.length ≤ 140737488351232) : ∀ k, k ≤ l.length → actsTo l k ≤ k * 281474976702464
  | 0, _ => by simp [actsTo]
  | k + 1, hk => by
    have := actsTo_le h k (by omega)
    have := h k (by omega)
    rw [actsTo]; omega
set_option maxRecDepth 100000 in
set_option maxHeartbeats 4000000 in
theorem heavy32_any (vf va : Value) (off : Int) (fs : List FileD) (l : List ActD) (w : World) (hf : FilesRd w vf fs) (ha : ActsRd w va l) (hl : fs.length ≤ 140737488351232 ∧ l.length ≤ 140737488351232) :
    Calls Try.prog 6 #[.agg #[vf, .int .i64 off, va]] w fun e w' => e = .returned (.bool (heavyB fs l)) ∧ Below w.heap.size w w' := by
  obtain ⟨of_, cf, rfl, hcf⟩ := hf
  obtain ⟨oa, ca, rfl, hca⟩ := ha
  have HCF := Lib.hid hcf
  have HCA := Lib.hid hca
  clear hcf hca
  go_enter Try.func6, Try.ntmps6
  go_wp2_with fail
  obtain ⟨W1, hW1⟩ : ∃ W1, W1 = (w.alloc (Obj.cells #[Value.slice of_ fs.length cf, Value.int IntKind.i64 off, Value.slice oa l.length ca] 25)) := ⟨_, rfl⟩
  have hbx : Box W1 w.heap.size 25 #[Value.slice of_ fs.length cf, Value.int IntKind.i64 off, Value.slice oa l.length ca] := by rw [hW1]; exact Box.new _ _ _
  have hb1 : Below w.heap.size w W1 := by rw [hW1]; exact (Below.refl _ _).alloc (Nat.le_refl _) _
  have c0 := hbx.cell 0 rfl
  have c2 := hbx.cell 2 rfl
  have HB1 := Lib.hid hb1
  have HBX := Lib.hid hbx
  rw [← hW1]
  clear hb1 hbx hW1
  go_loopg [3, 4] fs.length (fun g n i wr => ∃ k : Nat, g = fs.length - k ∧ k ≤ fs.length ∧ k ≤ 100 ∧ n = .int .i64 (filesTo fs k) ∧ i = .int .i64 k ∧ wr = W1)
  case atStart => exact ⟨0, rfl, Nat.zero_le _, by omega, rfl, rfl, rfl⟩
  case round =>
    obtain ⟨k, hg, hk, hk2, rfl, rfl, rfl⟩ := hrel
    have hbd : filesTo fs k ≤ k * 140737488351232 := filesTo_le (fun j hj => (HCF.out j hj).dl) k hk
    by_cases hin : k < fs.length ∧ k < 100
    · obtain ⟨hlt, h100⟩ := hin
      obtain ⟨⟨b, o1, od, cd, rfl, d0, d1, _⟩, hnl, hdl⟩ := (HCF.out k hlt).below HB1.out (Nat.le_refl _)
      have hbd2 : filesTo fs k ≤ 14073748835123200 := by omega
      clear hbd d0
      go_wp2_with fail
      go_roundg (fs.length - (k + 1))
      case measure => omega
      case rel => exact ⟨k + 1, rfl, hlt, h100, by rw [filesTo]; go_num, by go_num, rfl⟩
    · have hm : min fs.length 100 = k := by omega
      have hcase : (k < fs.length ∧ ¬ k < 100) ∨ ¬ k < fs.length := by omega
      have hbd2 : filesTo fs k ≤ 14073748835123200 := by omega
      obtain ⟨N, hN⟩ : ∃ N, N = filesTo fs k := ⟨_, rfl⟩
      rw [← hN] at hbd2 ⊢
      have HN := Lib.hid (show filesTo fs (min fs.length 100) = N by rw [hm, hN])
      clear hbd hN hg hm hin
      obtain ⟨W2, rfl⟩ : ∃ W2, W2 = wr := ⟨_, rfl⟩
      rcases hcase with ⟨hlt, h100⟩ | hlt
      all_goals go_wp2_with fail
      all_goals (
        clear hlt
        go_loopg [3, 5] l.length (fun g n i wr => ∃ k : Nat, g = l.length - k ∧ k ≤ l.length ∧ k ≤ 25 ∧ n = .int .i64 ((N + actsTo l k : Nat) : Int) ∧ i = .int .i64 k ∧ Same W2 wr)
        case atStart => exact ⟨0, rfl, Nat.zero_le _, by omega, rfl, rfl, Same.refl _⟩
        case round =>
          obtain ⟨m, hg, hk, hk2, rfl, rfl, hsm⟩ := hrel
          obtain ⟨W3, rfl⟩ : ∃ W3, W3 = wr := ⟨_, rfl⟩
          have hbd : actsTo l m ≤ m * 281474976702464 := actsTo_le (fun j hj => ⟨(HCA.out j hj).dl, (HCA.out j hj).pl⟩) m hk
          have hbd3 : actsTo l m ≤ 7036874417561600 := by omega
          have HSM := Lib.hid hsm
          have b0 := (HBX.out.next (hsm.below _)).cell 0 rfl
          have b2 := (HBX.out.next (hsm.below _)).cell 2 rfl
          clear hbd c0 c2
          by_cases hin : m < l.length ∧ m < 25
          · obtain ⟨hlt, h25⟩ := hin
            obtain ⟨⟨b, o1, od, cd, op, cp, rfl, _, _, _, d3, d4, _, _⟩, _, _, hdl, hpl⟩ := (HCA.out m hlt).below (HB1.out.trans (hsm.below _)) (Nat.le_refl _)
            clear hsm
            go_wp2_with fail
            go_quiet (fail)
            all_goals (
              go_wp2_with fail
              go_roundg (l.length - (m + 1))
              case measure => omega
              case rel => exact ⟨m + 1, rfl, hlt, h25, by rw [actsTo]; go_num, by go_num, HSM.out.trans ⟨_, rfl⟩⟩)
          · have hm : min l.length 25 = m := by omega
            have hcase : (m < l.length ∧ ¬ m < 25) ∨ ¬ m < l.length := by omega
            clear hsm
            rcases hcase with ⟨hlt, h25⟩ | hlt
            all_goals by_cases hL : (100 : Int) < fs.length
            all_goals go_wp2_with fail
            all_goals (
              go_ret
              refine ⟨ret_bool' ?_, HB1.out.trans (HSM.out.below _)⟩
              simp [heavyB, HN.out, hm]
              first | omega | (rw [Bool.eq_iff_iff, Bool.or_eq_true, decide_eq_true_eq, decide_eq_true_eq, decide_eq_true_eq]; omega)))
end Go.Proofs.Ytejmbhckfdfoeaa
