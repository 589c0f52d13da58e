/-
  THE REFERENCE'S New.
-/
import Derived.Test.YtejmbhckfdfoeaaEM11
import Derived.Test.YtejmbhckfdfoeaaEM07
set_option linter.unusedVariables false
set_option linter.unusedSimpArgs false
namespace Go.Proofs.Ytejmbhckfdfoeaa
open Go.RowKit Go.Maps
theorem RRepr.more {B : Nat} {w w1 : World} {r : Nat} {vl vl' : Value} {t : DSt} {x : List UInt8} {f : Nat} {xs : List Int} {o : Obj} (h : RRepr B w r vl (.slice none 0 0) (addS t f xs xs)) (hc : t.chs = []) (hl : lput t.safe x f = t.safe ++ [(x, f)])
    (hrow : w1.ownsRow B 89 2 vl' (t.safe.length + 1) (ecells t.safe ++ [encStr x, ptrV (some f)])) (hg : (w.alloc o).grownBy w1 vl.ownBlock) : RRepr B (w1.setCell ⟨r, 0, none⟩ vl') r vl' (.slice none 0 0) (enterS t x f xs) ∧ Box w1 r 84 #[vl, .slice none 0 0, .int .i64 t.strokes, .int .i64 t.off, .bool t.dead] := by
  have ha : Below w.heap.size w (w.alloc o) := (Below.refl _ _).alloc (Nat.le_refl _) _
  have hra := h.next ha
  have hkeep : ∀ (k : Nat) (ob : Obj), (w.alloc o).heap[k]? = some ob → (∀ cur, ob ≠ .cells cur 89 (0, 0)) → w1.heap[k]? = some ob := fun k ob hk hne => by
    refine (hg.block k (Array.getElem?_eq_some_iff.1 hk).1 fun e => ?_).trans hk
    rcases hra.safe.2 with ⟨rfl, _⟩ | ⟨g, cap, cur, rfl, hb, hgg, rest⟩
    · cases e
    · cases e
      rw [hgg] at hk
      cases hk
      exact hne cur rfl
  have hbx : Box w1 r 84 #[vl, .slice none 0 0, .int .i64 t.strokes, .int .i64 t.off, .bool t.dead] := hkeep r _ hra.box (fun cur e => by simp at e)
  have hu : KeepU (w.alloc o) w1 := fun k cs fz hk => hkeep k _ hk (fun cur e => by simp at e)
  have hu2 : KeepU w1 (w1.setCell ⟨r, 0, none⟩ vl') := fun k cs fz hk => (Below.heap_setCell w1 ⟨r, 0, none⟩ vl' k (fun e => by simp at e; subst e; unfold Box at hbx; rw [hbx] at hk; simp at hk)).trans hk
  refine ⟨⟨hbx.set 0 vl', ?_, ?_, fun g hg' => ?_, h.hr⟩, hbx⟩
  · show EOwn _ B vl' (lput t.safe x f)
    rw [hl]
    exact own_ne (p := ⟨r, 0, none⟩) (EOwn.snoc (p := (x, f)) hrow) hbx (by decide) vl'
  · show World.ownsRow _ B _ 3 _ t.chs.length (ccells t.chs)
    rw [hc]
    exact World.ownsRow_nil _ _ _ _
  · obtain ⟨va, vb, k1, k2, k3, k4⟩ := hra.files g hg'
    have k1' : Box w1 g 87 #[va, vb] := hkeep g _ k1 (fun cur e => by simp at e)
    exact ⟨va, vb, k1'.other (show r ≠ g from fun e => hbx.ne_type k1' (by decide) e) vl', (k2.moveU hu).moveU hu2, (k3.moveU hu).moveU hu2, k4⟩
theorem RRepr.addI {B : Nat} {w : World} {r : Nat} {vl vr : Value} {t : DSt} (h : RRepr B w r vl vr t) {f : Nat} {va vb : Value} {xs ys : List Int} (hb : Box w f 87 #[va, vb]) (h1 : BytesRep B w va ys) (h2 : BytesRep B w vb xs) (hf : B ≤ f) : RRepr B w r vl vr (addS t f xs ys) := by
  refine ⟨h.box, h.safe, h.row, fun g hg => ?_, h.hr⟩
  by_cases e : g = f
  · subst e
    simp only [addS, updF, if_true]
    exact ⟨va, vb, hb, h1, h2, hf⟩
  · simp only [addS, updF, if_neg e]
    exact h.files g ((List.mem_cons.1 hg).resolve_left e)
theorem RRepr.idLt {B : Nat} {w : World} {r : Nat} {vl vr : Value} {t : DSt} (h : RRepr B w r vl vr t) {f : Nat} (hf : f ∈ t.ids) : f < w.heap.size := by
  obtain ⟨va, vb, k1, _⟩ := h.files f hf
  exact k1.lt
theorem mayB_dataR {fs : List FileD} (h : mayB fs = true) : ∀ f ∈ fs, f.da.length ≤ 4194304 := by
  intro f hf
  rw [mayB, Bool.and_eq_true] at h
  obtain ⟨k, hk, rfl⟩ := List.mem_iff_getElem.1 hf
  have := okTo_at h.2 hk
  simp only [okAt, Bool.and_eq_true, decide_eq_true_eq] at this
  have h2 := this.2.1
  rwa [fnth, List.getD_eq_getElem?_getD, List.getElem?_eq_getElem hk] at h2
set_option maxRecDepth 100000 in
set_option maxHeartbeats 4000000 in
theorem rnew_any (v : Value) (fs : List FileD) (off : Int) (w : World) (hr : FilesRd w v fs) (hok : mayB fs = true) :
    Calls Try.prog 27 #[v, .int .i64 off] w fun e w' => (∃ r vl t, e = .returned (.pointer (some ⟨r, 0, none⟩)) ∧ RRepr w.heap.size w' r vl (.slice none 0 0) t ∧ SeenIs t fs ∧ t.off = off ∧ Ris t.seen ∧ (∀ q ∈ t.seen, q.2 ∈ t.ids)) ∧ Below w.heap.size w w' := by
  have hmay := hok
  rw [mayB, Bool.and_eq_true, decide_eq_true_eq] at hmay
  obtain ⟨h16, hto⟩ := hmay
  obtain ⟨o, cap, rfl, hc⟩ := hr
  have HC := Lib.hid hc
  have HTO := Lib.hid hto
  have HD4 := Lib.hid (mayB_dataR hok)
  clear hc hto hok
  obtain ⟨i0, hi0, hz0, hz1, hzz⟩ := info_parts info_entry
  obtain ⟨W1, hW1⟩ : ∃ W1, W1 = w.alloc (.cells #[.slice none 0 0, .slice none 0 0, .int .i64 0, .int .i64 off, .bool false] 84) := ⟨_, rfl⟩
  have HB1 := Lib.hid (show Below w.heap.size w W1 by rw [hW1]; exact (Below.refl _ _).alloc (Nat.le_refl _) _)
  have HR1 := Lib.hid (show RRepr w.heap.size W1 w.heap.size (.slice none 0 0) (.slice none 0 0) (newS off) from
    ⟨by rw [hW1]; exact Box.new _ _ _, World.ownsRow_nil _ _ _ _, World.ownsRow_nil _ _ _ _, fun f hf => by simp [newS] at hf, Nat.le_refl _⟩)
  have HW1 := Lib.hid hW1
  clear hW1
  go_enter Try.func27, Try.ntmps27
  go_wp2_with fail
  rw [← HW1.out]
  clear HW1
  go_loopg [6] fs.length (fun g i wr => ∃ (k : Nat) (vl : Value) (t : DSt), g = fs.length - k ∧ k ≤ fs.length ∧ i = .int .i64 k ∧ RRepr w.heap.size wr w.heap.size vl (.slice none 0 0) t ∧ SeenIs t (fs.take k) ∧ t.off = off ∧ (Ris t.seen ∧ ∀ q ∈ t.seen, q.2 ∈ t.ids) ∧ Below w.heap.size w wr)
  case atStart => exact ⟨0, _, _, rfl, Nat.zero_le _, rfl, HR1.out, ⟨rfl, fun q hq => by simp [newS] at hq, rfl, rfl, rfl, rfl, List.nodup_nil⟩, rfl, ⟨Ris.nil, fun q hq => by simp [newS] at hq⟩, HB1.out⟩
  case round =>
    obtain ⟨k, vl, t, hg, hk, rfl, hrr, hse, hso, hri, hbw⟩ := hrel
    obtain ⟨w2, rfl⟩ : ∃ w2, w2 = wr := ⟨_, rfl⟩
    have HR2 := Lib.hid hrr
    have HSE := Lib.hid hse
    have HSO := Lib.hid hso
    have HRI := Lib.hid hri
    have HB2 := Lib.hid hbw
    have hwz := hbw.size
    clear hrr hse hso hri HR1 HB1
    by_cases hlt : k < fs.length
    · obtain ⟨⟨b, off', od, cd, rfl, c0, c1, hrd⟩, hnl, hdl⟩ := (HC.out k hlt).below hbw (Nat.le_refl _)
      have hl4 := HD4.out _ (fnth_mem fs k hlt)
      obtain ⟨fd, hfd⟩ : ∃ fd, fd = fnth fs k := ⟨_, rfl⟩
      rw [← hfd] at c0 c1 hrd hnl hdl hl4
      obtain ⟨nm, da⟩ := fd
      simp only at c0 c1 hrd hnl hdl hl4
      have HFD := Lib.hid hfd
      have HRD := Lib.hid hrd
      have HC0 := Lib.hid c0
      clear hfd hrd hnl hdl hbw c0
      go_wp2_with fail
      clear c1
      refine (copyBytes_any _ da _ HRD.out (by omega)).mono ?_
      rintro e w3 ⟨v3, rfl, ho, hb3⟩
      obtain ⟨o3, k3, rfl⟩ := own_slice ho
      have HBY := Lib.hid ((BytesRep.own ho hl4).mono hwz)
      have HR3 := Lib.hid (HR2.out.next hb3)
      have HB3 := Lib.hid (HB2.out.trans (hb3.mono hwz))
      have c0 := ((hb3.cell (p := ⟨b, off' + k * 2, none⟩) (cell_lt HC0.out)).trans HC0.out)
      have hz3 := hb3.size
      have hsl : t.safe.length ≤ 16 := by have h1 := HSE.out.length; rw [HSE.out.safe, h1, List.length_take]; omega
      have HLT := Lib.hid (show ∀ q ∈ t.safe, q.1 < nm from by rw [HSE.out.safe]; have := HSE.out.below_next HTO.out hlt hlt; rw [← HFD.out] at this; exact this)
      have HLP := Lib.hid (fun g => lput_last (i := g) HLT.out)
      clear ho hb3 HRD HC0
      obtain ⟨avl, kvl, hvl⟩ := own_slice HR3.out.safe
      rw [hvl] at HR3
      clear hvl
      go_wp2_with fail
      have HR3 := Lib.hid (HR3.out.next (w' := w3.drew) (Below.drew (Below.refl _ _)))
      have HBY := Lib.hid (HBY.out.moveU (w' := w3.drew) (KeepU.below (Below.drew (Below.refl _ _))))
      have HB3 := Lib.hid (show Below w.heap.size w w3.drew from HB3.out.drew)
      have hz3 : w.heap.size ≤ w3.drew.heap.size := Nat.le_trans hwz hz3
      have HCD := Lib.hid (show w3.drew.cell? ⟨b, off' + k * 2, none⟩ = some (encStr nm) from c0)
      clear c0
      refine wp_region_held_drew (S := fun w' => w'.cell? ⟨b, off' + k * 2, none⟩ = some (encStr nm)) (by kernel_rfl) HCD.out (fun hHeld => ?_)
      refine wpAnyH_take (i := 0) (v := ?_) rfl (by kernel_rfl) (by kernel_rfl) (by kernel_rfl) (fun _ _ _ h => h) (Or.inl ⟨by rfl, ?_⟩) (by assumption) ?_
      rotate_left
      · (intro w hSw; (try dsimp only at hSw); go_simp; (try with_reducible rfl))
      (try simp only [Act.put, List.setIfInBounds_toArray, List.set_cons_zero, List.set_cons_succ])
      refine wpAnyH_take (i := 1) (v := ?_) rfl (by kernel_rfl) (by kernel_rfl) (by kernel_rfl) (fun _ _ _ h => h) (Or.inl ⟨by rfl, ?_⟩) (by assumption) ?_
      rotate_left
      · (intro w hSw; (try dsimp only at hSw); go_simp; (try with_reducible rfl))
      (try simp only [Act.put, List.setIfInBounds_toArray, List.set_cons_zero, List.set_cons_succ])
      refine wpAnyH_take (i := 2) (v := ?_) rfl (by kernel_rfl) (by kernel_rfl) (by kernel_rfl) (fun _ _ _ h => h) (Or.inl ⟨by rfl, ?_⟩) (by assumption) ?_
      rotate_left
      · (intro w hSw; (try dsimp only at hSw); go_simp; (try with_reducible rfl))
      (try simp only [Act.put, List.setIfInBounds_toArray, List.set_cons_zero, List.set_cons_succ])
      refine wpAnyH_take (i := 3) (v := ?_) rfl (by kernel_rfl) (by kernel_rfl) (by kernel_rfl) (fun _ _ _ h => h) (Or.inl ⟨by rfl, ?_⟩) (by assumption) ?_
      rotate_left
      · (intro w hSw; (try dsimp only at hSw); go_simp; (try with_reducible rfl))
      (try simp only [Act.put, List.setIfInBounds_toArray, List.set_cons_zero, List.set_cons_succ])
      refine wpAnyH_take (i := 5) (v := ?_) rfl (by kernel_rfl) (by kernel_rfl) (by kernel_rfl) (fun _ _ _ h => h) (Or.inl ⟨by rfl, ?_⟩) (by assumption) ?_
      rotate_left
      · (intro w hSw; (try dsimp only at hSw); go_simp; (try with_reducible rfl))
      (try simp only [Act.put, List.setIfInBounds_toArray, List.set_cons_zero, List.set_cons_succ])
      refine wpAnyH_take (i := 6) (v := ?_) rfl (by kernel_rfl) (by kernel_rfl) (by kernel_rfl) (fun _ _ _ h => h) (Or.inl ⟨by rfl, ?_⟩) (by assumption) ?_
      rotate_left
      · (intro w hSw; (try dsimp only at hSw); go_simp; (try with_reducible rfl))
      (try simp only [Act.put, List.setIfInBounds_toArray, List.set_cons_zero, List.set_cons_succ])
      refine wpAnyH_take (i := 7) (v := ?_) rfl (by kernel_rfl) (by kernel_rfl) (by kernel_rfl) (fun _ _ _ h => h) (Or.inl ⟨by rfl, ?_⟩) (by assumption) ?_
      rotate_left
      · (intro w hSw; (try dsimp only at hSw); go_simp; (try with_reducible rfl))
      (try simp only [Act.put, List.setIfInBounds_toArray, List.set_cons_zero, List.set_cons_succ])
      refine wpAnyH_take (i := 8) (v := ?_) rfl (by kernel_rfl) (by kernel_rfl) (by kernel_rfl) (fun _ _ _ h => h) (Or.inl ⟨by rfl, ?_⟩) (by assumption) ?_
      rotate_left
      · (intro w hSw; (try dsimp only at hSw); go_simp; (try with_reducible rfl))
      (try simp only [Act.put, List.setIfInBounds_toArray, List.set_cons_zero, List.set_cons_succ])
      refine wpAnyH_take (i := 9) (v := ?_) rfl (by kernel_rfl) (by kernel_rfl) (by kernel_rfl) (fun _ _ _ h => h) (Or.inl ⟨by rfl, ?_⟩) (by assumption) ?_
      rotate_left
      · (intro w hSw; (try dsimp only at hSw); go_simp; (try with_reducible rfl))
      (try simp only [Act.put, List.setIfInBounds_toArray, List.set_cons_zero, List.set_cons_succ])
      refine wpAnyH_take (i := 10) (v := ?_) rfl (by kernel_rfl) (by kernel_rfl) (by kernel_rfl) (fun _ _ _ h => h) (Or.inl ⟨by rfl, ?_⟩) (by assumption) ?_
      rotate_left
      · (intro w hSw; (try dsimp only at hSw); go_simp; (try with_reducible rfl))
      (try simp only [Act.put, List.setIfInBounds_toArray, List.set_cons_zero, List.set_cons_succ])
      refine wpAnyH_take (i := 11) (v := ?_) rfl (by kernel_rfl) (by kernel_rfl) (by kernel_rfl) (fun _ _ _ h => h) (Or.inl ⟨by rfl, ?_⟩) (by assumption) ?_
      rotate_left
      · (intro w hSw; (try dsimp only at hSw); go_simp; (try with_reducible rfl))
      (try simp only [Act.put, List.setIfInBounds_toArray, List.set_cons_zero, List.set_cons_succ])
      refine wpAnyH_take (i := 12) (v := ?_) rfl (by kernel_rfl) (by kernel_rfl) (by kernel_rfl) (fun _ _ _ h => h) (Or.inl ⟨by rfl, ?_⟩) (by assumption) ?_
      rotate_left
      · (intro w hSw; (try dsimp only at hSw); go_simp; (try with_reducible rfl))
      (try simp only [Act.put, List.setIfInBounds_toArray, List.set_cons_zero, List.set_cons_succ])
      refine wpAnyH_ready (rs := [4, 13]) (by kernel_rfl) (by simp) ?_
      refine AllReadyH.cons rfl (fun K hK => ?_) (AllReadyH.cons rfl (fun K hK => ?_) AllReadyH.nil)
      · have cl := HR3.out.box.cell 0 rfl
        go_simp
        refine hK.out _ _ HCD.out (fun hHeld => ?_)
        clear hK K cl
        (try simp only [Act.put, List.setIfInBounds_toArray, List.set_cons_zero, List.set_cons_succ])
        refine wpAnyH_ready (rs := [13]) (by kernel_rfl) (by simp) ?_
        refine AllReadyH.cons rfl (fun K hK => ?_) AllReadyH.nil
        go_simp
        obtain ⟨w4, hw4⟩ : ∃ w4, w4 = (w3.alloc (.cells #[.slice o3 da.length k3, .slice o3 da.length k3] 87)).drew := ⟨_, rfl⟩
        have hb4 : Below w3.drew.heap.size w3.drew w4 := by rw [hw4]; exact (Below.refl w3.drew.heap.size w3.drew).alloc (Nat.le_refl _) (.cells #[.slice o3 da.length k3, .slice o3 da.length k3] 87)
        have HBI := Lib.hid (show Box w4 w3.heap.size 87 #[.slice o3 da.length k3, .slice o3 da.length k3] by rw [hw4]; exact Box.new w3.drew _ _)
        have HR4 := Lib.hid ((HR3.out.next hb4).addI HBI.out (HBY.out.moveU (KeepU.below hb4)) (HBY.out.moveU (KeepU.below hb4)) hz3)
        have HB4 := Lib.hid (HB3.out.trans (hb4.mono hz3))
        have HCL4 := Lib.hid hb4
        have hz4 := hb4.size
        rw [← hw4]
        clear hw4 hb4
        refine hK.out _ _ ((HCL4.out.cell (cell_lt HCD.out)).trans HCD.out) (fun hHeld => ?_)
        clear hK K
        (try simp only [Act.put, List.setIfInBounds_toArray, List.set_cons_zero, List.set_cons_succ])
        refine wpAnyH_take (i := 14) (v := ?_) rfl (by kernel_rfl) (by kernel_rfl) (by kernel_rfl) (fun _ _ _ h => h) (Or.inl ⟨by rfl, ?_⟩) (by assumption) ?_
        rotate_left
        · (intro w hSw; (try dsimp only at hSw); go_simp; (try with_reducible rfl))
        (try simp only [Act.put, List.setIfInBounds_toArray, List.set_cons_zero, List.set_cons_succ])
        refine wpAnyH_ready (rs := [15]) (by kernel_rfl) (by simp) ?_
        refine AllReadyH.cons rfl (fun K hK => ?_) AllReadyH.nil
        go_simp
        obtain ⟨w5, hw5⟩ : ∃ w5, w5 = w4.alloc (.cells #[encStr nm, .pointer (some ⟨w3.heap.size, 0, none⟩)] 89) := ⟨_, rfl⟩
        have hb5 : Below w4.heap.size w4 w5 := by rw [hw5]; exact (Below.refl _ _).alloc (Nat.le_refl _) _
        have HR5 := Lib.hid (HR4.out.next hb5)
        have HPN := Lib.hid (show ∀ (j : Nat) (u : Value), [encStr nm, .pointer (some ⟨w3.heap.size, 0, none⟩)][j]? = some u → w5.cell? ((⟨w4.heap.size, 0, none⟩ : Addr).add j) = some u by rw [hw5]; exact cells_new w4 [_, _] _ (0, 0))
        have HCL5 := Lib.hid (HCL4.out.trans (hb5.mono HCL4.out.size))
        have hz5 := hb5.size
        rw [← hw5]
        have HW5 := Lib.hid hw5
        clear hb5 hw5
        refine hK.out _ _ ((HCL5.out.cell (cell_lt HCD.out)).trans HCD.out) (fun hHeld => ?_)
        clear hK K
        (try simp only [Act.put, List.setIfInBounds_toArray, List.set_cons_zero, List.set_cons_succ])
        refine wpAnyH_ready (rs := [16]) (by kernel_rfl) (by simp) ?_
        refine AllReadyH.cons rfl (fun K hK => ?_) AllReadyH.nil
        refine step_append_own rfl _ _ 81 rfl w.heap.size 89 i0 (.agg #[.string ⟨#[]⟩, .pointer none]) 2 24 Try.underlying81 hi0 hz0 hz1 hzz rfl (by decide) _ _ _ rfl HR5.out.safe ⟨w4.heap.size, 0, none⟩ 1 1 [encStr nm, .pointer (some ⟨w3.heap.size, 0, none⟩)] rfl rfl HPN.out (by simp [Value.oneCell', encStr]) (by unfold maxLen; have : (addS t w3.heap.size da da).safe.length = t.safe.length := rfl; omega) (by have : (addS t w3.heap.size da da).safe.length = t.safe.length := rfl; omega) (Nat.le_of_lt HR5.out.base) ?_
        intro v6 w6 hown6 hg6 _
        obtain ⟨a6, k6, rfl⟩ := own_slice hown6
        have HB6 := Lib.hid ((HB4.out.alloc HB4.out.size (.cells #[encStr nm, .pointer (some ⟨w3.heap.size, 0, none⟩)] 89)).grown (by rw [HW5.out] at hg6; exact hg6) (by have := HB4.out.size; simp; omega) (fun k' e => (HR5.out.safe.lt k' e).1))
        have hcell6 : w6.cell? ⟨b, off' + k * 2, none⟩ = some (encStr nm) := by
          have hc5 := ((HCL5.out.cell (cell_lt HCD.out)).trans HCD.out)
          refine (World.cell?_of_block (w := w5) (a := ⟨b, off' + k * 2, none⟩) (hg6.block b (cell_lt hc5) fun e => ?_)).trans hc5
          have h1 := (HR5.out.safe.lt b e.symm).1
          have h2 := cell_lt ((HC.out k hlt).ex.choose_spec.choose_spec.choose_spec.choose_spec.2.1)
          obtain ⟨b', off'', od', cd', he', hcx, _⟩ := (HC.out k hlt).ex
          cases he'
          have := cell_lt hcx
          omega
        rw [HW5.out] at hg6
        have HF := Lib.hid (HR4.out.more (x := nm) HSE.out.chs (HLP.out _) hown6 hg6)
        clear hown6 hg6
        refine hK.out _ _ hcell6 (fun hHeld => ?_)
        clear hK K
        (try simp only [Act.put, List.setIfInBounds_toArray, List.set_cons_zero, List.set_cons_succ])
        refine wpAnyH_take (i := 17) (v := ?_) rfl (by kernel_rfl) (by kernel_rfl) (by kernel_rfl) (fun _ _ _ h => h) (Or.inl ⟨by rfl, ?_⟩) (by assumption) ?_
        rotate_left
        · (intro w hSw; (try dsimp only at hSw); go_simp; (try with_reducible rfl))
        (try simp only [Act.put, List.setIfInBounds_toArray, List.set_cons_zero, List.set_cons_succ])
        refine wpAnyH_take (i := 18) (v := ?_) rfl (by kernel_rfl) (by kernel_rfl) (by kernel_rfl) (fun _ _ _ h => h) (Or.inl ⟨by rfl, ?_⟩) (by assumption) ?_
        rotate_left
        · (intro w hSw; (try dsimp only at hSw); go_simp; (try with_reducible rfl))
        (try simp only [Act.put, List.setIfInBounds_toArray, List.set_cons_zero, List.set_cons_succ])
        refine wpAnyH_ready (rs := [19]) (by kernel_rfl) (by simp) ?_
        refine AllReadyH.cons rfl (fun K hK => ?_) AllReadyH.nil
        have cl := HF.out.2.cell 0 rfl
        have fl := HF.out.2.free 0
        have hne : b ≠ w.heap.size := by
          obtain ⟨b', off'', od', cd', he', hcx, _⟩ := (HC.out k hlt).ex
          cases he'
          have := cell_lt hcx
          omega
        go_simp
        refine hK.out _ _ ((World.cell?_of_block (w := w6) (a := ⟨b, off' + k * 2, none⟩) (Below.heap_setCell w6 ⟨w.heap.size, 0, none⟩ _ b hne)).trans hcell6) (fun hHeld => ?_)
        clear hK K cl fl hcell6 hne
        (try simp only [Act.put, List.setIfInBounds_toArray, List.set_cons_zero, List.set_cons_succ])
        refine wpAnyH_done (by kernel_rfl) ?_ _
        have HB7 := Lib.hid (HB6.out.setCell (p := ⟨w.heap.size, 0, none⟩) (Nat.le_refl _) (.slice a6 (t.safe.length + 1) k6))
        have HNI := Lib.hid (show w3.heap.size ∉ t.ids from fun hm => by have h1 := HR3.out.idLt hm; have h2 : w3.drew.heap.size = w3.heap.size := rfl; omega)
        have HE := Lib.hid (HSE.out.enter (fnth fs k) w3.heap.size (fun q hq e => HNI.out (e ▸ HRI.out.2 q hq)) (by rw [← HFD.out, ← HSE.out.safe]; exact HLT.out))
        go_wp2_with fail
        go_roundg (fs.length - (k + 1))
        case measure => omega
        case rel =>
          refine ⟨k + 1, _, enterS t nm w3.heap.size da, rfl, hlt, by go_num, HF.out.1, by rw [take_fnth fs k hlt, ← HFD.out]; have h := HE.out; rw [← HFD.out] at h; exact h, HSO.out, ⟨HRI.out.1.put nm _, fun q hq => ?_⟩, HB7.out⟩
          rcases lput_mem hq with rfl | hq
          · exact List.mem_cons_self ..
          · exact List.mem_cons_of_mem _ (HRI.out.2 q hq)
      · go_simp
        obtain ⟨w4, hw4⟩ : ∃ w4, w4 = (w3.alloc (.cells #[.slice o3 da.length k3, .slice o3 da.length k3] 87)).drew := ⟨_, rfl⟩
        have hb4 : Below w3.drew.heap.size w3.drew w4 := by rw [hw4]; exact (Below.refl w3.drew.heap.size w3.drew).alloc (Nat.le_refl _) (.cells #[.slice o3 da.length k3, .slice o3 da.length k3] 87)
        have HBI := Lib.hid (show Box w4 w3.heap.size 87 #[.slice o3 da.length k3, .slice o3 da.length k3] by rw [hw4]; exact Box.new w3.drew _ _)
        have HR4 := Lib.hid ((HR3.out.next hb4).addI HBI.out (HBY.out.moveU (KeepU.below hb4)) (HBY.out.moveU (KeepU.below hb4)) hz3)
        have HB4 := Lib.hid (HB3.out.trans (hb4.mono hz3))
        have HCL4 := Lib.hid hb4
        have hz4 := hb4.size
        rw [← hw4]
        clear hw4 hb4
        refine hK.out _ _ ((HCL4.out.cell (cell_lt HCD.out)).trans HCD.out) (fun hHeld => ?_)
        clear hK K
        (try simp only [Act.put, List.setIfInBounds_toArray, List.set_cons_zero, List.set_cons_succ])
        refine wpAnyH_take (i := 14) (v := ?_) rfl (by kernel_rfl) (by kernel_rfl) (by kernel_rfl) (fun _ _ _ h => h) (Or.inl ⟨by rfl, ?_⟩) (by assumption) ?_
        rotate_left
        · (intro w hSw; (try dsimp only at hSw); go_simp; (try with_reducible rfl))
        (try simp only [Act.put, List.setIfInBounds_toArray, List.set_cons_zero, List.set_cons_succ])
        refine wpAnyH_ready (rs := [4, 15]) (by kernel_rfl) (by simp) ?_
        refine AllReadyH.cons rfl (fun K hK => ?_) (AllReadyH.cons rfl (fun K hK => ?_) AllReadyH.nil)
        · have cl := HR4.out.box.cell 0 rfl
          go_simp
          refine hK.out _ _ ((HCL4.out.cell (cell_lt HCD.out)).trans HCD.out) (fun hHeld => ?_)
          clear hK K cl
          (try simp only [Act.put, List.setIfInBounds_toArray, List.set_cons_zero, List.set_cons_succ])
          refine wpAnyH_ready (rs := [15]) (by kernel_rfl) (by simp) ?_
          refine AllReadyH.cons rfl (fun K hK => ?_) AllReadyH.nil
          go_simp
          obtain ⟨w5, hw5⟩ : ∃ w5, w5 = w4.alloc (.cells #[encStr nm, .pointer (some ⟨w3.heap.size, 0, none⟩)] 89) := ⟨_, rfl⟩
          have hb5 : Below w4.heap.size w4 w5 := by rw [hw5]; exact (Below.refl _ _).alloc (Nat.le_refl _) _
          have HR5 := Lib.hid (HR4.out.next hb5)
          have HPN := Lib.hid (show ∀ (j : Nat) (u : Value), [encStr nm, .pointer (some ⟨w3.heap.size, 0, none⟩)][j]? = some u → w5.cell? ((⟨w4.heap.size, 0, none⟩ : Addr).add j) = some u by rw [hw5]; exact cells_new w4 [_, _] _ (0, 0))
          have HCL5 := Lib.hid (HCL4.out.trans (hb5.mono HCL4.out.size))
          have hz5 := hb5.size
          rw [← hw5]
          have HW5 := Lib.hid hw5
          clear hb5 hw5
          refine hK.out _ _ ((HCL5.out.cell (cell_lt HCD.out)).trans HCD.out) (fun hHeld => ?_)
          clear hK K
          (try simp only [Act.put, List.setIfInBounds_toArray, List.set_cons_zero, List.set_cons_succ])
          refine wpAnyH_ready (rs := [16]) (by kernel_rfl) (by simp) ?_
          refine AllReadyH.cons rfl (fun K hK => ?_) AllReadyH.nil
          refine step_append_own rfl _ _ 81 rfl w.heap.size 89 i0 (.agg #[.string ⟨#[]⟩, .pointer none]) 2 24 Try.underlying81 hi0 hz0 hz1 hzz rfl (by decide) _ _ _ rfl HR5.out.safe ⟨w4.heap.size, 0, none⟩ 1 1 [encStr nm, .pointer (some ⟨w3.heap.size, 0, none⟩)] rfl rfl HPN.out (by simp [Value.oneCell', encStr]) (by unfold maxLen; have : (addS t w3.heap.size da da).safe.length = t.safe.length := rfl; omega) (by have : (addS t w3.heap.size da da).safe.length = t.safe.length := rfl; omega) (Nat.le_of_lt HR5.out.base) ?_
          intro v6 w6 hown6 hg6 _
          obtain ⟨a6, k6, rfl⟩ := own_slice hown6
          have HB6 := Lib.hid ((HB4.out.alloc HB4.out.size (.cells #[encStr nm, .pointer (some ⟨w3.heap.size, 0, none⟩)] 89)).grown (by rw [HW5.out] at hg6; exact hg6) (by have := HB4.out.size; simp; omega) (fun k' e => (HR5.out.safe.lt k' e).1))
          have hcell6 : w6.cell? ⟨b, off' + k * 2, none⟩ = some (encStr nm) := by
            have hc5 := ((HCL5.out.cell (cell_lt HCD.out)).trans HCD.out)
            refine (World.cell?_of_block (w := w5) (a := ⟨b, off' + k * 2, none⟩) (hg6.block b (cell_lt hc5) fun e => ?_)).trans hc5
            have h1 := (HR5.out.safe.lt b e.symm).1
            have h2 := cell_lt ((HC.out k hlt).ex.choose_spec.choose_spec.choose_spec.choose_spec.2.1)
            obtain ⟨b', off'', od', cd', he', hcx, _⟩ := (HC.out k hlt).ex
            cases he'
            have := cell_lt hcx
            omega
          rw [HW5.out] at hg6
          have HF := Lib.hid (HR4.out.more (x := nm) HSE.out.chs (HLP.out _) hown6 hg6)
          clear hown6 hg6
          refine hK.out _ _ hcell6 (fun hHeld => ?_)
          clear hK K
          (try simp only [Act.put, List.setIfInBounds_toArray, List.set_cons_zero, List.set_cons_succ])
          refine wpAnyH_take (i := 17) (v := ?_) rfl (by kernel_rfl) (by kernel_rfl) (by kernel_rfl) (fun _ _ _ h => h) (Or.inl ⟨by rfl, ?_⟩) (by assumption) ?_
          rotate_left
          · (intro w hSw; (try dsimp only at hSw); go_simp; (try with_reducible rfl))
          (try simp only [Act.put, List.setIfInBounds_toArray, List.set_cons_zero, List.set_cons_succ])
          refine wpAnyH_take (i := 18) (v := ?_) rfl (by kernel_rfl) (by kernel_rfl) (by kernel_rfl) (fun _ _ _ h => h) (Or.inl ⟨by rfl, ?_⟩) (by assumption) ?_
          rotate_left
          · (intro w hSw; (try dsimp only at hSw); go_simp; (try with_reducible rfl))
          (try simp only [Act.put, List.setIfInBounds_toArray, List.set_cons_zero, List.set_cons_succ])
          refine wpAnyH_ready (rs := [19]) (by kernel_rfl) (by simp) ?_
          refine AllReadyH.cons rfl (fun K hK => ?_) AllReadyH.nil
          have cl := HF.out.2.cell 0 rfl
          have fl := HF.out.2.free 0
          have hne : b ≠ w.heap.size := by
            obtain ⟨b', off'', od', cd', he', hcx, _⟩ := (HC.out k hlt).ex
            cases he'
            have := cell_lt hcx
            omega
          go_simp
          refine hK.out _ _ ((World.cell?_of_block (w := w6) (a := ⟨b, off' + k * 2, none⟩) (Below.heap_setCell w6 ⟨w.heap.size, 0, none⟩ _ b hne)).trans hcell6) (fun hHeld => ?_)
          clear hK K cl fl hcell6 hne
          (try simp only [Act.put, List.setIfInBounds_toArray, List.set_cons_zero, List.set_cons_succ])
          refine wpAnyH_done (by kernel_rfl) ?_ _
          have HB7 := Lib.hid (HB6.out.setCell (p := ⟨w.heap.size, 0, none⟩) (Nat.le_refl _) (.slice a6 (t.safe.length + 1) k6))
          have HNI := Lib.hid (show w3.heap.size ∉ t.ids from fun hm => by have h1 := HR3.out.idLt hm; have h2 : w3.drew.heap.size = w3.heap.size := rfl; omega)
          have HE := Lib.hid (HSE.out.enter (fnth fs k) w3.heap.size (fun q hq e => HNI.out (e ▸ HRI.out.2 q hq)) (by rw [← HFD.out, ← HSE.out.safe]; exact HLT.out))
          go_wp2_with fail
          go_roundg (fs.length - (k + 1))
          case measure => omega
          case rel =>
            refine ⟨k + 1, _, enterS t nm w3.heap.size da, rfl, hlt, by go_num, HF.out.1, by rw [take_fnth fs k hlt, ← HFD.out]; have h := HE.out; rw [← HFD.out] at h; exact h, HSO.out, ⟨HRI.out.1.put nm _, fun q hq => ?_⟩, HB7.out⟩
            rcases lput_mem hq with rfl | hq
            · exact List.mem_cons_self ..
            · exact List.mem_cons_of_mem _ (HRI.out.2 q hq)
        · go_simp
          obtain ⟨w5, hw5⟩ : ∃ w5, w5 = w4.alloc (.cells #[encStr nm, .pointer (some ⟨w3.heap.size, 0, none⟩)] 89) := ⟨_, rfl⟩
          have hb5 : Below w4.heap.size w4 w5 := by rw [hw5]; exact (Below.refl _ _).alloc (Nat.le_refl _) _
          have HR5 := Lib.hid (HR4.out.next hb5)
          have HPN := Lib.hid (show ∀ (j : Nat) (u : Value), [encStr nm, .pointer (some ⟨w3.heap.size, 0, none⟩)][j]? = some u → w5.cell? ((⟨w4.heap.size, 0, none⟩ : Addr).add j) = some u by rw [hw5]; exact cells_new w4 [_, _] _ (0, 0))
          have HCL5 := Lib.hid (HCL4.out.trans (hb5.mono HCL4.out.size))
          have hz5 := hb5.size
          rw [← hw5]
          have HW5 := Lib.hid hw5
          clear hb5 hw5
          refine hK.out _ _ ((HCL5.out.cell (cell_lt HCD.out)).trans HCD.out) (fun hHeld => ?_)
          clear hK K
          (try simp only [Act.put, List.setIfInBounds_toArray, List.set_cons_zero, List.set_cons_succ])
          refine wpAnyH_ready (rs := [4]) (by kernel_rfl) (by simp) ?_
          refine AllReadyH.cons rfl (fun K hK => ?_) AllReadyH.nil
          have cl := HR5.out.box.cell 0 rfl
          go_simp
          refine hK.out _ _ ((HCL5.out.cell (cell_lt HCD.out)).trans HCD.out) (fun hHeld => ?_)
          clear hK K cl
          (try simp only [Act.put, List.setIfInBounds_toArray, List.set_cons_zero, List.set_cons_succ])
          refine wpAnyH_ready (rs := [16]) (by kernel_rfl) (by simp) ?_
          refine AllReadyH.cons rfl (fun K hK => ?_) AllReadyH.nil
          refine step_append_own rfl _ _ 81 rfl w.heap.size 89 i0 (.agg #[.string ⟨#[]⟩, .pointer none]) 2 24 Try.underlying81 hi0 hz0 hz1 hzz rfl (by decide) _ _ _ rfl HR5.out.safe ⟨w4.heap.size, 0, none⟩ 1 1 [encStr nm, .pointer (some ⟨w3.heap.size, 0, none⟩)] rfl rfl HPN.out (by simp [Value.oneCell', encStr]) (by unfold maxLen; have : (addS t w3.heap.size da da).safe.length = t.safe.length := rfl; omega) (by have : (addS t w3.heap.size da da).safe.length = t.safe.length := rfl; omega) (Nat.le_of_lt HR5.out.base) ?_
          intro v6 w6 hown6 hg6 _
          obtain ⟨a6, k6, rfl⟩ := own_slice hown6
          have HB6 := Lib.hid ((HB4.out.alloc HB4.out.size (.cells #[encStr nm, .pointer (some ⟨w3.heap.size, 0, none⟩)] 89)).grown (by rw [HW5.out] at hg6; exact hg6) (by have := HB4.out.size; simp; omega) (fun k' e => (HR5.out.safe.lt k' e).1))
          have hcell6 : w6.cell? ⟨b, off' + k * 2, none⟩ = some (encStr nm) := by
            have hc5 := ((HCL5.out.cell (cell_lt HCD.out)).trans HCD.out)
            refine (World.cell?_of_block (w := w5) (a := ⟨b, off' + k * 2, none⟩) (hg6.block b (cell_lt hc5) fun e => ?_)).trans hc5
            have h1 := (HR5.out.safe.lt b e.symm).1
            have h2 := cell_lt ((HC.out k hlt).ex.choose_spec.choose_spec.choose_spec.choose_spec.2.1)
            obtain ⟨b', off'', od', cd', he', hcx, _⟩ := (HC.out k hlt).ex
            cases he'
            have := cell_lt hcx
            omega
          rw [HW5.out] at hg6
          have HF := Lib.hid (HR4.out.more (x := nm) HSE.out.chs (HLP.out _) hown6 hg6)
          clear hown6 hg6
          refine hK.out _ _ hcell6 (fun hHeld => ?_)
          clear hK K
          (try simp only [Act.put, List.setIfInBounds_toArray, List.set_cons_zero, List.set_cons_succ])
          refine wpAnyH_take (i := 17) (v := ?_) rfl (by kernel_rfl) (by kernel_rfl) (by kernel_rfl) (fun _ _ _ h => h) (Or.inl ⟨by rfl, ?_⟩) (by assumption) ?_
          rotate_left
          · (intro w hSw; (try dsimp only at hSw); go_simp; (try with_reducible rfl))
          (try simp only [Act.put, List.setIfInBounds_toArray, List.set_cons_zero, List.set_cons_succ])
          refine wpAnyH_take (i := 18) (v := ?_) rfl (by kernel_rfl) (by kernel_rfl) (by kernel_rfl) (fun _ _ _ h => h) (Or.inl ⟨by rfl, ?_⟩) (by assumption) ?_
          rotate_left
          · (intro w hSw; (try dsimp only at hSw); go_simp; (try with_reducible rfl))
          (try simp only [Act.put, List.setIfInBounds_toArray, List.set_cons_zero, List.set_cons_succ])
          refine wpAnyH_ready (rs := [19]) (by kernel_rfl) (by simp) ?_
          refine AllReadyH.cons rfl (fun K hK => ?_) AllReadyH.nil
          have cl := HF.out.2.cell 0 rfl
          have fl := HF.out.2.free 0
          have hne : b ≠ w.heap.size := by
            obtain ⟨b', off'', od', cd', he', hcx, _⟩ := (HC.out k hlt).ex
            cases he'
            have := cell_lt hcx
            omega
          go_simp
          refine hK.out _ _ ((World.cell?_of_block (w := w6) (a := ⟨b, off' + k * 2, none⟩) (Below.heap_setCell w6 ⟨w.heap.size, 0, none⟩ _ b hne)).trans hcell6) (fun hHeld => ?_)
          clear hK K cl fl hcell6 hne
          (try simp only [Act.put, List.setIfInBounds_toArray, List.set_cons_zero, List.set_cons_succ])
          refine wpAnyH_done (by kernel_rfl) ?_ _
          have HB7 := Lib.hid (HB6.out.setCell (p := ⟨w.heap.size, 0, none⟩) (Nat.le_refl _) (.slice a6 (t.safe.length + 1) k6))
          have HNI := Lib.hid (show w3.heap.size ∉ t.ids from fun hm => by have h1 := HR3.out.idLt hm; have h2 : w3.drew.heap.size = w3.heap.size := rfl; omega)
          have HE := Lib.hid (HSE.out.enter (fnth fs k) w3.heap.size (fun q hq e => HNI.out (e ▸ HRI.out.2 q hq)) (by rw [← HFD.out, ← HSE.out.safe]; exact HLT.out))
          go_wp2_with fail
          go_roundg (fs.length - (k + 1))
          case measure => omega
          case rel =>
            refine ⟨k + 1, _, enterS t nm w3.heap.size da, rfl, hlt, by go_num, HF.out.1, by rw [take_fnth fs k hlt, ← HFD.out]; have h := HE.out; rw [← HFD.out] at h; exact h, HSO.out, ⟨HRI.out.1.put nm _, fun q hq => ?_⟩, HB7.out⟩
            rcases lput_mem hq with rfl | hq
            · exact List.mem_cons_self ..
            · exact List.mem_cons_of_mem _ (HRI.out.2 q hq)
    · have hke : k = fs.length := by omega
      subst hke
      have HSF := HSE.out
      rw [List.take_length] at HSF
      have HSE2 := Lib.hid HSF
      clear HSE HSF hbw
      go_wp2_with fail
      go_ret
      exact ⟨⟨_, _, t, rfl, HR2.out, HSE2.out, HSO.out, HRI.out.1, HRI.out.2⟩, HB2.out⟩
end Go.Proofs.Ytejmbhckfdfoeaa
