/-
  THE REFERENCE'S CopyFile and CopyFiles.
-/
import Derived.Test.YtejmbhckfdfoeaaDCopy
import Derived.Test.YtejmbhckfdfoeaaDNew
set_option linter.unusedVariables false
set_option linter.unusedSimpArgs false
namespace Go.Proofs.Ytejmbhckfdfoeaa
open Go.RowKit Go.Maps
theorem own_setCell {w : World} {B : Nat} {e : TypeId} {s : Nat} {v : Value} {n : Nat} {xs : List Value} (h : w.ownsRow B e s v n xs) {p : Addr} (hp : p.block < B) (u : Value) : (w.setCell p u).ownsRow B e s v n xs := by
  refine ⟨h.1, ?_⟩
  rcases h.2 with hn | ⟨g, cap, cur, rfl, hb, hg, r⟩
  · exact .inl hn
  · exact .inr ⟨g, cap, cur, rfl, hb, by rw [Below.heap_setCell _ _ _ _ (fun e => by omega)]; exact hg, r⟩
set_option maxRecDepth 100000 in
set_option maxHeartbeats 1000000 in
theorem copyFile_any (x : List UInt8) (v : Value) (xs : List Int) (w : World) (hr : Rd w .u8 v xs) (hl : xs.length ≤ 4194304) :
    Calls Try.prog 33 #[.agg #[encStr x, v]] w fun e w' => (∃ v', e = .returned (.agg #[encStr x, v']) ∧ BytesRep w.heap.size w' v' xs) ∧ Below w.heap.size w w' := by
  obtain ⟨o, cap, rfl⟩ := rd_slice hr
  have HR := Lib.hid hr
  clear hr
  obtain ⟨W0, hW0⟩ : ∃ W0, W0 = (((w.alloc (.cells #[encStr x, .slice o xs.length cap] 48)).alloc (.cells #[.string ⟨#[]⟩, .slice none 0 0] 48)).alloc (.cells #[encStr x, .slice o xs.length cap] 48)) := ⟨_, rfl⟩
  have HB1 := Lib.hid (show Box W0 w.heap.size 48 #[encStr x, .slice o xs.length cap] by
    rw [hW0]; exact Box.below (C := w.heap.size + 1) (Box.below (C := w.heap.size + 1) (Box.new_at rfl) ((Below.refl _ _).alloc (by simp) _) (by omega)) ((Below.refl _ _).alloc (by simp) _) (by omega))
  have HB2 := Lib.hid (show Box W0 (w.heap.size + 1) 48 #[.string ⟨#[]⟩, .slice none 0 0] by
    rw [hW0]; exact Box.below (C := w.heap.size + 2) (Box.new_at (by simp)) ((Below.refl _ _).alloc (by simp) _) (by omega))
  have HB3 := Lib.hid (show Box W0 (w.heap.size + 2) 48 #[encStr x, .slice o xs.length cap] by rw [hW0]; exact Box.new_at (by simp))
  have HBl := Lib.hid (show Below w.heap.size w W0 by rw [hW0]; exact (((Below.refl _ _).alloc (Nat.le_refl _) _).alloc (by simp) _).alloc (by simp; omega) _)
  have HSZ := Lib.hid (show W0.heap.size = w.heap.size + 3 by rw [hW0]; simp)
  have HW0 := Lib.hid hW0
  have d1 := HB1.out.cell 1 rfl
  rw [hW0] at d1
  clear hW0
  go_enter Try.func33, Try.ntmps33
  go_wp2_with fail
  rw [← HW0.out]
  clear d1 HW0
  refine (copyBytes_any _ xs _ (HR.out.below HBl.out (Nat.le_refl _)) (by omega)).mono ?_
  rintro e w1 ⟨v1, rfl, ho, hb⟩
  obtain ⟨a1, k1, rfl⟩ := own_slice ho
  have HX1 := Lib.hid (HB3.out.next hb)
  have HY1 := Lib.hid (HB2.out.next hb)
  have HB1' := Lib.hid (HBl.out.trans (hb.mono HBl.out.size))
  have HO1 := Lib.hid ho
  have f := HX1.out.free 1
  have c := HX1.out.cell 1 rfl
  have c0 := HX1.out.cell 0 rfl
  have g0 := HY1.out.free 0
  have g1 := HY1.out.free 1
  have y0 := HY1.out.cell 0 rfl
  have y1 := HY1.out.cell 1 rfl
  have hsz := HSZ.out
  clear ho hb
  go_wp2_with fail
  obtain ⟨W2, hW2⟩ : ∃ W2, W2 = (((w1.setCell ⟨w.heap.size + 2, 1, none⟩ (.slice a1 xs.length k1)).setCell ⟨w.heap.size + 1, 0, none⟩ (encStr x)).setCell ⟨w.heap.size + 1, 1, none⟩ (.slice a1 xs.length k1)) := ⟨_, rfl⟩
  have HZ := Lib.hid (show Box W2 (w.heap.size + 1) 48 #[encStr x, .slice a1 xs.length k1] by
    rw [hW2]
    exact ((HY1.out.other (p := ⟨w.heap.size + 2, 1, none⟩) (by simp) (.slice a1 xs.length k1)).set 0 (encStr x)).set 1 (.slice a1 xs.length k1))
  have HO2 := Lib.hid (show OwnI W2 W0.heap.size 5 .u8 (.slice a1 xs.length k1) xs by
    rw [hW2]
    exact own_setCell (own_setCell (own_setCell HO1.out (by simp; omega) _) (by simp; omega) _) (by simp; omega) _)
  have HBf := Lib.hid (show Below w.heap.size w W2 by
    rw [hW2]
    exact ((HB1'.out.setCell (p := ⟨w.heap.size + 2, 1, none⟩) (by simp) _).setCell (p := ⟨w.heap.size + 1, 0, none⟩) (by simp) _).setCell (p := ⟨w.heap.size + 1, 1, none⟩) (by simp) _)
  clear f c c0 g0 g1 y0 y1
  rw [← hW2]
  clear hW2
  have q0 := HZ.out.cell 0 rfl
  have q1 := HZ.out.cell 1 rfl
  exact bodyPost_ret (v := .agg #[encStr x, .slice a1 xs.length k1]) (by simp [results, Try.results33, go_sem, q0, q1]) rfl ⟨⟨_, rfl, (BytesRep.own HO2.out hl).mono (by omega)⟩, HBf.out⟩
theorem pair_new (w : World) (a b : Value) (e : TypeId) : ∀ (j : Nat) (u : Value), [a, b][j]? = some u → (w.alloc (.cells #[a, b] e)).cell? ((⟨w.heap.size, 0, none⟩ : Addr).add j) = some u := fun j u h => cells_new w [a, b] e (0, 0) j u h
set_option maxRecDepth 100000 in
set_option maxHeartbeats 2000000 in
theorem copyFiles_any (v : Value) (fs : List FileD) (w : World) (hr : FilesRd w v fs) (hl : fs.length ≤ 1000000) (hd : ∀ f ∈ fs, f.da.length ≤ 4194304) :
    Calls Try.prog 9 #[v] w fun e w' => (∃ v' ps, e = .returned v' ∧ FOwn w' w.heap.size v' ps ∧ ps.map (·.1) = fs) ∧ Below w.heap.size w w' := by
  obtain ⟨o, cap, rfl, hc⟩ := hr
  obtain ⟨i0, hi, hz0, hz1, hz2⟩ := info_parts info_file
  have HC := Lib.hid hc
  have HD := Lib.hid hd
  clear hc hd
  go_enter Try.func9, Try.ntmps9
  go_wp2_with fail
  go_loopg [3, 4] fs.length (fun g v i wr => ∃ (k : Nat) (ps : List FP), g = fs.length - k ∧ k ≤ fs.length ∧ i = .int .i64 k ∧ FOwn wr w.heap.size v ps ∧ ps.map (·.1) = fs.take k ∧ Below w.heap.size w wr)
  case atStart => exact ⟨0, [], rfl, Nat.zero_le _, rfl, FOwn.nil _ _, rfl, Below.refl _ _⟩
  case round =>
    obtain ⟨k, ps, hg, hk, rfl, ho, hps, hB⟩ := hrel
    obtain ⟨w2, rfl⟩ : ∃ w2, w2 = wr := ⟨_, rfl⟩
    have HO := Lib.hid ho
    have HPS := Lib.hid hps
    have HB := Lib.hid hB
    obtain ⟨a0, cap0, rfl⟩ := own_slice ho.row
    have hpl : ps.length ≤ fs.length := by have := congrArg List.length hps; simp at this; omega
    by_cases hlt : k < fs.length
    · obtain ⟨⟨b, off, od, cd, rfl, c0, c1, hrd⟩, hnl, hdl⟩ := (HC.out k hlt).below hB (Nat.le_refl _)
      have hd4 := HD.out _ (fnth_mem fs k hlt)
      obtain ⟨fd, hfd⟩ : ∃ fd, fd = fnth fs k := ⟨_, rfl⟩
      rw [← hfd] at c0 c1 hrd hnl hdl hd4
      obtain ⟨nm, da⟩ := fd
      simp only at c0 c1 hrd hnl hdl hd4
      have HFD := Lib.hid hfd
      have HNL := Lib.hid hnl
      have HR := Lib.hid hrd
      clear hfd hnl hrd ho hps hB hdl
      go_wp2_with fail
      refine (copyFile_any nm _ da _ HR.out hd4).mono ?_
      rintro e w3 ⟨⟨v3, rfl, hbr⟩, hb3⟩
      obtain ⟨o3, k3, he3⟩ := rd_slice hbr.rd
      subst he3
      have HO3 := Lib.hid (HO.out.next hb3)
      have HB3 := Lib.hid (HB.out.trans (hb3.mono HB.out.size))
      have HBR := Lib.hid (hbr.mono HB.out.size)
      have hsz3 := HB3.out.size
      clear hbr hb3 c0 c1
      go_wp2_with (at_builtin; refine stopHere ?_)
      refine goOn ?_
      refine wpList_append_own _ rfl _ _ 22 rfl w.heap.size 48 i0 (.agg #[.string ⟨#[]⟩, .slice none 0 0]) 2 40 Try.underlying22 hi hz0 hz1 hz2 rfl (by decide) _ _ _ rfl (own_below HO3.out.row ((Below.refl _ _).alloc (Nat.le_refl _) _) (Nat.le_refl _)) ⟨w3.heap.size, 0, none⟩ 1 1 [encStr nm, .slice o3 da.length k3] rfl rfl (pair_new _ _ _ _) (by simp [Value.oneCell', encStr]) (by unfold maxLen; omega) (by omega) (by simp; omega) ?_
      intro v' w1 hown' hgrow _
      have HN := Lib.hid (HO3.out.snoc (p := (⟨nm, da⟩, .slice o3 da.length k3)) hown' hgrow HBR.out HNL.out)
      have HBN := Lib.hid ((HB3.out.alloc hsz3 _).grown hgrow (by simp; omega) (fun k e => (HO3.out.row.lt k e).1))
      clear hown' hgrow
      go_wp2_with fail
      go_roundg (fs.length - (k + 1))
      case measure => omega
      case rel => exact ⟨k + 1, _, rfl, hlt, by go_num, HN.out, by rw [List.map_append, HPS.out, take_fnth fs k hlt, ← HFD.out]; rfl, HBN.out⟩
    · have hke : k = fs.length := by omega
      subst hke
      rw [List.take_length] at HPS
      clear ho hps hB
      go_wp2_with fail
      go_ret
      exact ⟨⟨_, ps, rfl, HO.out, HPS.out⟩, HB.out⟩
end Go.Proofs.Ytejmbhckfdfoeaa
