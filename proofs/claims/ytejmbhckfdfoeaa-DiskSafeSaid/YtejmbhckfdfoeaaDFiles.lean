/-
  FILES: a slice of (name, bytes) as the walk reads it; the reference's May.
-/
import Derived.Test.YtejmbhckfdfoeaaDName
import Derived.Lib.Strings
import Derived.Deep.LoopGhost
import Derived.Deep.RegionHeld3
import Derived.Deep.DeepCutAuto
import Derived.Sort.EncStr
set_option linter.unusedVariables false
set_option linter.unusedSimpArgs false
namespace Go.Proofs.Ytejmbhckfdfoeaa
open Go.RowKit
structure FileD where
  nm : List UInt8
  da : List Int
def fnth (fs : List FileD) (i : Nat) : FileD := fs.getD i ⟨[], []⟩
theorem fnth_mem (fs : List FileD) (k : Nat) (h : k < fs.length) : fnth fs k ∈ fs := by
  rw [fnth, List.getD_eq_getElem?_getD, List.getElem?_eq_getElem h]; exact List.getElem_mem h
theorem bytesLess_eq : ∀ (x y : List UInt8), Op.bytesLess x y = decide (x < y)
  | [], [] => by simp [Op.bytesLess]
  | _ :: _, [] => by simp [Op.bytesLess]
  | [], _ :: _ => by simp [Op.bytesLess]
  | a :: x, b :: y => by
    rw [Op.bytesLess, bytesLess_eq x y]
    simp only [List.cons_lt_cons_iff]
    by_cases h1 : a < b <;> by_cases h2 : a = b <;> by_cases h3 : x < y <;> simp [h1, h2, h3]
/-- one of the files: its cells -/
structure FileRd (w : World) (o : Option Addr) (i : Nat) (f : FileD) : Prop where
  ex : ∃ b off od cd, o = some ⟨b, off, none⟩ ∧ w.cell? ⟨b, off + i * 2, none⟩ = some (encStr f.nm) ∧ w.cell? ⟨b, off + i * 2 + 1, none⟩ = some (.slice od f.da.length cd) ∧ Rd w .u8 (.slice od f.da.length cd) f.da
  nl : f.nm.length ≤ maxLen
  dl : f.da.length ≤ 140737488351232
/-- the slice value v reads as these files -/
def FilesRd (w : World) (v : Value) (fs : List FileD) : Prop :=
  ∃ o cap, v = .slice o fs.length cap ∧ ∀ i, i < fs.length → FileRd w o i (fnth fs i)
theorem FileRd.below {w w' : World} {o : Option Addr} {i : Nat} {f : FileD} {B : Nat} (h : FileRd w o i f) (hB : Below B w w') (hs : w.heap.size ≤ B) : FileRd w' o i f := by
  obtain ⟨b, off, od, cd, rfl, h1, h2, h3⟩ := h.ex
  exact ⟨⟨b, off, od, cd, rfl, (hB.cell (p := ⟨b, off + i * 2, none⟩) (Nat.lt_of_lt_of_le (cell_lt h1) hs)).trans h1, (hB.cell (p := ⟨b, off + i * 2 + 1, none⟩) (Nat.lt_of_lt_of_le (cell_lt h2) hs)).trans h2, h3.below hB hs⟩, h.nl, h.dl⟩
theorem FilesRd.below {w w' : World} {v : Value} {fs : List FileD} {B : Nat} (h : FilesRd w v fs) (hB : Below B w w') (hs : w.heap.size ≤ B) : FilesRd w' v fs := by
  obtain ⟨o, cap, rfl, hc⟩ := h
  exact ⟨o, cap, rfl, fun i hi => (hc i hi).below hB hs⟩
theorem FilesRd.same {w w' : World} {v : Value} {fs : List FileD} (h : FilesRd w v fs) (hs : Same w w') : FilesRd w' v fs := h.below (hs.below w.heap.size) (Nat.le_refl _)
def okAt (fs : List FileD) (i : Nat) : Bool := goodNm (fnth fs i).nm && (decide ((fnth fs i).da.length ≤ 4194304) && (decide (i = 0) || Op.bytesLess (fnth fs (i - 1)).nm (fnth fs i).nm))
def okTo (fs : List FileD) (n : Nat) : Bool := (List.range n).all (okAt fs)
/-- what a disk may begin with -/
def mayB (fs : List FileD) : Bool := decide (fs.length ≤ 16) && okTo fs fs.length
theorem okTo_succ (fs : List FileD) (n : Nat) : okTo fs (n + 1) = (okTo fs n && okAt fs n) := by simp [okTo, List.range_succ]
theorem okTo_no {fs : List FileD} {k n : Nat} (h : k < n) (hk : okAt fs k = false) : okTo fs n = false := by
  rw [okTo, List.all_eq_false]
  exact ⟨k, List.mem_range.2 h, by rw [hk]; decide⟩
theorem nm_toList (l : List UInt8) : ByteArray.toList ⟨l.toArray⟩ = l := by rw [Lib.toList_data]
theorem nm_size (l : List UInt8) : (⟨l.toArray⟩ : ByteArray).size = l.length := by simp [ByteArray.size]
theorem refName_nm (l : List UInt8) (w : World) (hs : l.length ≤ maxLen) :
    Calls Try.prog 11 #[.string ⟨l.toArray⟩] w fun e w' => e = .returned (.bool (goodNm l)) ∧ w = w' := by
  have := refName_any ⟨l.toArray⟩ w (by rw [nm_size]; exact hs)
  simpa using this
theorem diskGood_nm (l : List UInt8) (w : World) (hs : l.length ≤ maxLen) :
    Calls Try.prog 31 #[.string ⟨l.toArray⟩] w fun e w' => e = .returned (.bool (goodNm l)) ∧ w = w' := by
  have := diskGood_any ⟨l.toArray⟩ w (by rw [nm_size]; exact hs)
  simpa using this
set_option maxHeartbeats 4000000 in
theorem refMay_any (v : Value) (fs : List FileD) (w : World) (hr : FilesRd w v fs) (hl : fs.length ≤ 140737488351232) :
    Calls Try.prog 7 #[v] w fun e w' => e = .returned (.bool (mayB fs)) ∧ Same w w' := by
  obtain ⟨o, cap, rfl, hc⟩ := hr
  have HC := Lib.hid hc
  clear hc
  by_cases h16 : 16 < fs.length
  · have e1 : decide ((16 : Int) < fs.length) = true := decide_eq_true (by omega)
    go_enter Try.func7, Try.ntmps7
    go_wp2
    go_ret
    exact ⟨ret_bool' (by rw [mayB, decide_eq_false (by omega : ¬ fs.length ≤ 16), Bool.false_and]), Same.refl _⟩
  · have e1 : decide ((16 : Int) < fs.length) = false := decide_eq_false (by omega)
    go_enter Try.func7, Try.ntmps7
    go_wp2_with fail
    go_loopg [3] fs.length (fun g i wr => ∃ k : Nat, g = fs.length - k ∧ k ≤ fs.length ∧ i = .int .i64 k ∧ okTo fs k = true ∧ Same w wr)
    case atStart => exact ⟨0, rfl, Nat.zero_le _, rfl, rfl, Same.refl _⟩
    case round =>
      obtain ⟨k, hg, hk, rfl, hok, hsm⟩ := hrel
      obtain ⟨w0, rfl⟩ : ∃ w0, w0 = wr := ⟨_, rfl⟩
      have HOK := Lib.hid hok
      have HSM := Lib.hid hsm
      clear hok
      by_cases hlt : k < fs.length
      · have hf := (HC.out k hlt).below (hsm.below w.heap.size) (Nat.le_refl _)
        obtain ⟨⟨b, off, od, cd, rfl, c0, c1, _⟩, hnl, hdl⟩ := hf
        have HP := Lib.hid (fun (h : 0 < k) => (HC.out (k - 1) (by omega)).below (hsm.below w.heap.size) (Nat.le_refl _))
        have hnl0 : (fnth fs k).nm.length ≤ maxLen := hnl
        obtain ⟨nm, hnm⟩ : ∃ nm, nm = (fnth fs k).nm := ⟨_, rfl⟩
        obtain ⟨dl, hdl'⟩ : ∃ dl, dl = (fnth fs k).da.length := ⟨_, rfl⟩
        rw [← hdl'] at c1 hdl
        rw [← hnm] at c0 hnl hnl0
        have HNM := Lib.hid hnm
        have HDL := Lib.hid hdl'
        have HNL := Lib.hid hnl0
        clear hsm hnm hdl' hnl hnl0
        have HOKA : Hid (okAt fs k = (goodNm nm && (decide (dl ≤ 4194304) && (decide (k = 0) || Op.bytesLess (fnth fs (k - 1)).nm nm)))) := Lib.hid (by rw [okAt, HNM.out, HDL.out])
        go_wp2_with fail
        have HX := Lib.hid (Same.refl w0)
        go_cut [46] (fun v wx => v = .bool (!okAt fs k) ∧ Same w0 wx)
        case first =>
          cases hgn : goodNm nm with
          | false =>
            have HGN := Lib.hid hgn
            clear hgn
            go_quiet ((go_at_call 11; exact Calls.quiet_of_same ((refName_nm nm _ HNL.out).mono fun e w' ⟨he, hw⟩ => ⟨by rw [he, HGN.out], hw.symm⟩)))
            all_goals (go_wp2_with fail; go_meet; exact ⟨by rw [HOKA.out, HGN.out]; rfl, ⟨_, rfl⟩⟩)
          | true =>
            have HGN := Lib.hid hgn
            clear hgn
            by_cases h4 : 4194304 < dl
            · have e2 : decide ((4194304 : Int) < dl) = true := decide_eq_true (by omega)
              go_quiet ((go_at_call 11; exact Calls.quiet_of_same ((refName_nm nm _ HNL.out).mono fun e w' ⟨he, hw⟩ => ⟨by rw [he, HGN.out], hw.symm⟩)))
              all_goals (go_wp2_with fail; go_meet; exact ⟨by rw [HOKA.out, HGN.out, decide_eq_false (by omega : ¬ dl ≤ 4194304)]; rfl, ⟨_, rfl⟩⟩)
            · have e2 : decide ((4194304 : Int) < dl) = false := decide_eq_false (by omega)
              by_cases h0 : 0 < k
              · have e3 : decide ((0 : Int) < k) = true := decide_eq_true (by omega)
                obtain ⟨j, hj⟩ : ∃ j, k = j + 1 := ⟨k - 1, by omega⟩
                obtain ⟨⟨b', off', od', cd', he, p0, _, _⟩, _, _⟩ := HP.out h0
                simp at he
                obtain ⟨rfl, rfl⟩ := he
                rw [show k - 1 = j by omega] at p0
                obtain ⟨pm, hpm⟩ : ∃ pm, pm = (fnth fs j).nm := ⟨_, rfl⟩
                rw [← hpm] at p0
                have HPM := Lib.hid hpm
                have hjk : j < fs.length := by omega
                have e4 : IntKind.i64.wrap ((k : Int) - 1) = (j : Int) := by rw [IntWalk.i64_in _ (by omega)]; omega
                have HJ := Lib.hid hj
                have ht1 := nm_toList pm
                have ht2 := nm_toList nm
                clear hpm hj
                go_quiet ((go_at_call 11; exact Calls.quiet_of_same ((refName_nm nm _ HNL.out).mono fun e w' ⟨he, hw⟩ => ⟨by rw [he, HGN.out], hw.symm⟩)))
                all_goals (go_wp2_with fail; go_meet; exact ⟨by rw [HOKA.out, HGN.out, decide_eq_true (by omega : dl ≤ 4194304), decide_eq_false (by omega : ¬ k = 0), show k - 1 = j from by have := HJ.out; omega, ← HPM.out]; rfl, ⟨_, rfl⟩⟩)
              · have e3 : decide ((0 : Int) < k) = false := decide_eq_false (by omega)
                go_quiet ((go_at_call 11; exact Calls.quiet_of_same ((refName_nm nm _ HNL.out).mono fun e w' ⟨he, hw⟩ => ⟨by rw [he, HGN.out], hw.symm⟩)))
                all_goals (go_wp2_with fail; go_meet; exact ⟨by rw [HOKA.out, HGN.out, decide_eq_true (by omega : dl ≤ 4194304), decide_eq_true (by omega : k = 0)]; rfl, ⟨_, rfl⟩⟩)
        case rest =>
          obtain ⟨rfl, hs⟩ := hcut
          obtain ⟨w1, rfl⟩ : ∃ w1, w1 = wc := ⟨_, rfl⟩
          have HS1 := Lib.hid (HSM.out.trans hs)
          clear hs c0 c1
          cases hka : okAt fs k with
          | false =>
            have HKA := Lib.hid hka
            clear hka
            go_wp2_with fail
            go_ret
            exact ⟨ret_bool' (by rw [mayB, okTo_no hlt HKA.out, Bool.and_false]), HS1.out⟩
          | true =>
            have HKA := Lib.hid hka
            clear hka
            go_wp2_with fail
            go_roundg (fs.length - (k + 1))
            case rel => exact ⟨k + 1, rfl, by omega, by go_num, by rw [okTo_succ, HOK.out, HKA.out]; rfl, HS1.out⟩
            case measure => omega
      · obtain rfl : k = fs.length := by omega
        clear hsm
        go_wp2_with fail
        go_ret
        exact ⟨ret_bool' (by rw [mayB, decide_eq_true (by omega : fs.length ≤ 16), HOK.out]; rfl), HSM.out⟩
end Go.Proofs.Ytejmbhckfdfoeaa
