/-
  Crash, walked.
-/
import Derived.Laws.EntriesVeiled
import Derived.Test.YtejmbhckfdfoeaaEM08
set_option linter.unusedVariables false
set_option linter.unusedSimpArgs false
namespace Go.Proofs.Ytejmbhckfdfoeaa
open Go.RowKit Go.Maps Go.Shelf
attribute [local go_sem] Oper.semAt_some
theorem fin_self {α : Type} (l : List α) : (List.finRange l.length).map (fun i => l[i]) = l := by
  apply List.ext_getElem
  · simp
  · intro i h1 h2; simp
set_option maxRecDepth 100000 in
set_option maxHeartbeats 4000000 in
theorem crash_in {B : Nat} {w : World} {p bs bf : Nat} {cv : Value} {vs : List Value} {s : DSt} (op : Option Addr) (cp : Nat) (pk : List Int) (h : DRepr B w p bs bf cv vs s) (hp : Rd w .i64 (.slice op pk.length cp) pk) (hpc : pk.length ≤ cp ∧ cp ≤ 9223372036854775807)
    (hin : ∀ q ∈ crashLeft s pk, q.2 ∈ s.ids ∧ q.1.length ≤ maxLen) (hlen : ∀ n, n ≤ crashN s pk → (runC s.safe (s.chs.take n)).length ≤ 1000000) :
    CallsIn Fence.wide 9 Try.prog 24 #[.pointer (some ⟨p, 0, none⟩), .slice op pk.length cp] w fun e w' => (∃ v ps, e = .returned v ∧ FOwn w' w.heap.size v ps ∧ ps.map (·.1) = crashR s pk) ∧ Below w.heap.size w w' := by
  have HD0 := Lib.hid h
  have HIN := Lib.hid hin
  have HLEN := Lib.hid hlen
  have hB0 : B ≤ w.heap.size := Nat.le_of_lt h.baseLt
  obtain ⟨oc, kc, hcv, hcc⟩ : ∃ o cap, cv = .slice o s.chs.length cap ∧ s.chs.length ≤ cap := own_caps h.row
  subst hcv
  obtain ⟨W1, hW1⟩ : ∃ W1, W1 = ((w.alloc (.cells #[.slice op pk.length cp] 35)).alloc (.cells #[.func (.func 43) #[] #[.pointer (some ⟨w.heap.size, 0, none⟩)]] 60)) := ⟨_, rfl⟩
  have hb1 : Below w.heap.size w W1 := by rw [hW1]; exact ((Below.refl _ _).alloc (Nat.le_refl _) _).alloc (by simp) _
  have HM1 := Lib.hid (show CrAt w B p bs bf (.slice oc s.chs.length kc) vs s w.heap.size (w.heap.size + 1) pk W1 from
    ⟨h.next hb1 hB0, ⟨op, cp, by rw [hW1]; exact (Box.new _ _ _).next ((Below.refl _ _).alloc (Nat.le_refl _) _), hp, hpc.1, hpc.2⟩, by rw [hW1]; exact Box.new_at (by simp), hb1, Nat.le_refl _⟩)
  have hmf : ∀ (fn : Fn) (first cap : Array Value) (w : World), (Instr.makeFunc fn first cap).run Try.prog w = .ok (.func fn first cap) w := fun _ _ _ _ => rfl
  have hz1 : W1.heap.size = w.heap.size + 2 := by rw [hW1]; simp
  have HW1 := Lib.hid hW1
  have c1 := HM1.out.d.box.cell 1 rfl
  rw [hW1] at c1
  clear h hp hin hlen hb1 hW1
  refine callsIn_of_wp_marks Try.func24 rfl trivial ?_ rfl
  simp only [Try.ntmps24, List.size_toArray, List.length_cons, List.length_nil, Nat.reduceAdd, Nat.reduceSub, Array.replicate_succ, Array.replicate_zero, List.push_toArray, List.append_toArray, List.nil_append, List.cons_append]
  refine wpIn_wide.2 ?_
  go_wp2_with fail
  rw [← HW1.out] at c1 ⊢
  clear HW1
  refine (mapsClone_any HM1.out.d.safe).mono ?_
  rintro e w2 ⟨rfl, hm2, hb2⟩
  rw [hz1] at hm2
  have HM2 := Lib.hid (HM1.out.next hb2)
  have HMP2 := Lib.hid hm2
  have hz2 : W1.heap.size ≤ w2.heap.size := hb2.size
  clear hb2 hm2 c1 HM1
  obtain ⟨n, hn⟩ : ∃ n, n = crashN s pk := ⟨_, rfl⟩
  have hnle : n ≤ s.chs.length := by rw [hn]; exact crashN_le s pk
  have hchl : s.chs.length ≤ 1000000 := HM2.out.d.chl
  have hmod : (pk.headD 0) % ((s.chs.length : Int) + 1) = (n : Int) := by
    rw [hn, crashN]
    have h1 := Int.emod_nonneg (pk.headD 0) (show ((s.chs.length : Int) + 1) ≠ 0 by omega)
    omega
  obtain ⟨p0, hp0⟩ : ∃ p0, p0 = pk.headD 0 := ⟨_, rfl⟩
  rw [← hp0] at hmod
  have HN := Lib.hid hn
  have HMOD := Lib.hid hmod
  have HP0 := Lib.hid hp0
  have HWR := Lib.hid (show IntKind.i64.wrap ((s.chs.length : Int) + 1) = (s.chs.length : Int) + 1 from by rw [IntWalk.i64_in _ (by omega)])
  clear hn hmod hp0
  go_wp2_with fail
  have c2 := HM2.out.d.box.cell 2 rfl
  have cf := HM2.out.f.cell 0 rfl
  have HX := Lib.hid (show CrAt w B p bs bf (.slice oc s.chs.length kc) vs s w.heap.size (w.heap.size + 1) pk w2.drew from HM2.out.next (Below.drew (Below.refl _ _)))
  have HY := Lib.hid (show MapRep w2.drew (w.heap.size + 2) s.safe from HMP2.out.next (Below.drew (Below.refl _ _)))
  have HZ := Lib.hid (show w2.heap.size ≤ w2.drew.heap.size from Nat.le_refl _)
  have hn0 : (0 : Int) ≤ n := by omega
  have hn1 : (n : Int) ≤ kc := by omega
  have hn2 : (n : Int) ≤ s.chs.length := by omega
  have hk9 : (kc : Int) ≤ 9223372036854775807 := by
    have := HD0.out.row
    rcases this.2 with ⟨h1, _⟩ | ⟨g, cap, cur, h1, _, _, _, h2, _⟩
    · simp at h1; omega
    · simp at h1
      obtain ⟨_, rfl⟩ := h1
      unfold maxLen at h2
      omega
  go_region_held3 (fun w' => w'.cell? ⟨p, 2, none⟩ = some (.slice oc s.chs.length kc) ∧ w'.cell? ⟨w.heap.size + 1, 0, none⟩ = some (.func (.func 43) #[] #[.pointer (some ⟨w.heap.size, 0, none⟩)])) (exact ⟨HX.out.d.box.cell 2 rfl, HX.out.f.cell 0 rfl⟩)
    (first
    | (go_at_call 43; refine (next_any HX.out.pk HX.out.b (Nat.le_refl _)).mono ?_; rintro e wy ⟨rfl, hpk, hkc⟩; rw [← HP0.out]; have HY := Lib.hid (HY.out.block (hkc.block _ HY.out.lt (by omega))); have HX := Lib.hid (HX.out.picked HD0.out hpk hkc (by omega)); clear hpk hkc)
    | (go_at_call 44; rw [HWR.out]; refine (modulo_any p0 ((s.chs.length : Int) + 1) ⟨by omega, by omega⟩ _).mono ?_; rintro e w' ⟨rfl, rfl⟩; rw [HMOD.out]))
  obtain ⟨w3, rfl⟩ : ∃ w3, w3 = wy := ⟨_, rfl⟩
  have HM3 := HX
  have HR3 := HY
  clear HX HY HZ c2 cf HM2 HMP2
  go_wp2_with fail
  clear hn0 hn1 hn2 hmf
  go_loopg [8, 35] n (fun g c i wr => ∃ k : Nat, g = n - k ∧ k ≤ n ∧ i = .int .i64 k ∧ CrAt w B p bs bf (.slice oc s.chs.length kc) vs s w.heap.size (w.heap.size + 1) pk.tail wr ∧ MapRep wr (w.heap.size + 2) (runC s.safe (s.chs.take k)))
  case atStart => exact ⟨0, rfl, Nat.zero_le _, rfl, HM3.out, HR3.out⟩
  case round =>
    obtain ⟨k, hg, hk, rfl, hcr, hmr⟩ := hrel
    obtain ⟨w4, rfl⟩ : ∃ w4, w4 = wr := ⟨_, rfl⟩
    have HM4 := Lib.hid hcr
    have HR4 := Lib.hid hmr
    clear hcr hmr HM3 HR3
    by_cases hlt : k < n
    · have hkl : k < s.chs.length := by omega
      obtain ⟨v, hv, hrep⟩ := HM4.out.d.chs k s.chs[k] (List.getElem?_eq_getElem hkl)
      obtain ⟨g4, cap4, he4, hcell⟩ := own_cell HM4.out.d.row k hkl
      simp at he4
      obtain ⟨rfl, rfl⟩ := he4
      have cv4 := hcell v hv
      have hll : (runC s.safe (s.chs.take k)).length < maxLen := by have := HLEN.out k (by rw [← HN.out]; omega); unfold maxLen; omega
      clear hcell hv
      cases hc : s.chs[k] with
      | put x f =>
        rw [hc] at hrep
        obtain ⟨cf, cx, rfl, hb1, hb2, hx⟩ := hrep
        go_wp2_with fail
        refine (wput_any cf cx _ f x _ _ hb1 hb2 hx HR4.out hll).mono ?_
        rintro e w5 ⟨rfl, hm5, hg5⟩
        have HM5 := Lib.hid (HM4.out.grown HD0.out HR4.out hg5 (by omega))
        have HR5 := Lib.hid (show MapRep w5 (w.heap.size + 2) (runC s.safe (s.chs.take (k + 1))) by rw [List.take_succ_eq_append_getElem hkl, runC_snoc, hc]; exact hm5)
        clear hm5 hg5 cv4
        go_wp2_with fail
        go_roundg (n - (k + 1))
        case measure => omega
        case rel => exact ⟨k + 1, rfl, hlt, by go_num, HM5.out, HR5.out⟩
      | mv x y f =>
        rw [hc] at hrep
        obtain ⟨ca, cf, cb, rfl, hb1, hb2, hb3, hx, hy⟩ := hrep
        go_wp2_with fail
        refine (wmv_any ca cf cb _ f x y _ _ hb1 hb2 hb3 hx hy HR4.out hll).mono ?_
        rintro e w5 ⟨rfl, hm5, hg5⟩
        have HM5 := Lib.hid (HM4.out.grown HD0.out HR4.out hg5 (by omega))
        have HR5 := Lib.hid (show MapRep w5 (w.heap.size + 2) (runC s.safe (s.chs.take (k + 1))) by rw [List.take_succ_eq_append_getElem hkl, runC_snoc, hc]; exact hm5)
        clear hm5 hg5 cv4
        go_wp2_with fail
        go_roundg (n - (k + 1))
        case measure => omega
        case rel => exact ⟨k + 1, rfl, hlt, by go_num, HM5.out, HR5.out⟩
      | del x =>
        rw [hc] at hrep
        obtain ⟨cx, rfl, hb1, hx⟩ := hrep
        go_wp2_with fail
        refine (wdel_any cx _ x _ _ hb1 hx HR4.out).mono ?_
        rintro e w5 ⟨rfl, hm5, hg5⟩
        have HM5 := Lib.hid (HM4.out.grown HD0.out HR4.out hg5 (by omega))
        have HR5 := Lib.hid (show MapRep w5 (w.heap.size + 2) (runC s.safe (s.chs.take (k + 1))) by rw [List.take_succ_eq_append_getElem hkl, runC_snoc, hc]; exact hm5)
        clear hm5 hg5 cv4
        go_wp2_with fail
        go_roundg (n - (k + 1))
        case measure => omega
        case rel => exact ⟨k + 1, rfl, hlt, by go_num, HM5.out, HR5.out⟩
    · have hke : k = n := by omega
      subst hke
      obtain ⟨left, hleft⟩ : ∃ left, left = crashLeft s pk := ⟨_, rfl⟩
      have HLF := Lib.hid hleft
      have HR4 := Lib.hid (show MapRep w4 (w.heap.size + 2) left by have := HR4.out; rw [HN.out] at this; rw [hleft]; exact this)
      have HIN := Lib.hid (show ∀ q ∈ left, q.2 ∈ s.ids ∧ q.1.length ≤ maxLen by rw [hleft]; exact HIN.out)
      have hll : left.length ≤ 1000000 := by rw [hleft]; exact HLEN.out _ (Nat.le_refl _)
      clear hleft hg hlt
      obtain ⟨W5, hW5⟩ : ∃ W5, W5 = w4.alloc (.cells #[.slice none 0 0] 22) := ⟨_, rfl⟩
      have hb5 : Below w4.heap.size w4 W5 := by rw [hW5]; exact (Below.refl _ _).alloc (Nat.le_refl _) _
      have HBL := Lib.hid (show Box W5 w4.heap.size 22 #[.slice none 0 0] by rw [hW5]; exact Box.new _ _ _)
      have HM5 := Lib.hid (HM4.out.next hb5)
      have HR5 := Lib.hid (HR4.out.next hb5)
      have hz5 : W5.heap.size = w4.heap.size + 1 := by rw [hW5]; simp
      have HW5 := Lib.hid hW5
      clear hW5 hb5
      have hlc : w.heap.size + 1 < w4.heap.size := HM4.out.f.lt
      clear HM4 HR4
      go_wp2_with fail
      rw [← HW5.out]
      clear HW5
      refine (sorted_any (w.heap.size + 2) _).mono ?_
      rintro e w6 ⟨rfl, hw6⟩
      have hb6 : Below W5.heap.size W5 w6 := by rw [hw6]; exact (Below.refl _ _).alloc (Nat.le_refl _) _
      have HC6 := Lib.hid (show Box w6 (w4.heap.size + 1) 62 #[.map (some (w.heap.size + 2))] by rw [hw6, ← hz5]; exact Box.new _ _ _)
      have HM6 := Lib.hid (HM5.out.next hb6)
      have HR6 := Lib.hid (HR5.out.next hb6)
      have HBL6 := Lib.hid (HBL.out.next hb6)
      clear hb6 hw6 HM5 HR5 HBL
      go_wp2_with fail
      refine (wpIn_wide (n := 9)).1 ?_
      refine wpIn_rangeFunc_ownF rfl (by omega) (gf := 56) (lb := #[.pointer (some ⟨w4.heap.size + 1, 0, none⟩)]) rfl trivial (enters_of Try.func56 (by kernel_rfl) rfl)
        (sorted1_stops 8 (w4.heap.size + 1) (w.heap.size + 2) left w6 HC6.out HR6.out hll (fun q hq => (HIN.out q hq).2))
        (fun h k => h.trans k) ?hkb (Below.refl _ _) (fun _ => rfl)
        (fun pre W => CrI w w6.heap.size w4.heap.size w.heap.size w6 (crashOf s (pre.map fun i => left[i]) pk.tail) W)
        (fun _ _ _ => False)
        (crI_own _ _ _ _ _ _ (Nat.le_refl _))
        (fun _ _ _ _ _ h _ _ => h)
        ?h0 ?a1 ?assign ?body ?done ?stop
      case hkb => exact fun W l o o' _ h1 h2 h3 => keepD_b (n₀ := 0) (w := W) W l o o' h1 h2 h3
      case h0 => exact ⟨_, [], HBL6.out, FOwn.nil _ _, rfl, HM6.out.pk, KeepP.refl _ _ _ _⟩
      case assign =>
        intro l x W K hK
        gi_wp2
        exact hK
      case stop =>
        rintro D c pre W _ _ h _
        exact h.elim
      case done =>
        rintro D zs W hD rfl ⟨v, ps, hbx, ho, hps, hpk, hkp⟩ hK
        rw [fin_self] at hps
        obtain ⟨av, kv, rfl⟩ := own_slice ho.row
        have HO := Lib.hid ho
        have HPS := Lib.hid (show ps.map (·.1) = crashR s pk by rw [hps, HLF.out]; rfl)
        have HKP := Lib.hid hkp
        have HK := Lib.hid hK
        have HDD2 := Lib.hid hD
        have hwl : w.heap.size ≤ w6.heap.size := by have := HM6.out.b.size; omega
        have cl := hbx.cell 0 rfl
        clear ho hps hkp hK hD hbx hpk
        go_wp2_with fail
        refine ⟨by simp, .inl ⟨_, _, rfl, run_takeDeferred HK.out, ?_⟩⟩
        refine ⟨.slice av ps.length kv, by simp [results, Try.results24, go_sem], ?_⟩
        have hb : Below w.heap.size w W := HM6.out.b.trans (HKP.out.below hwl (by omega) (Nat.le_refl _))
        exact ⟨⟨_, ps, rfl, (HO.out.keeps (grownBy_putObj' W D _) (fun r e => by cases e; exact ⟨_, HK.out, rfl⟩)).mono hwl, HPS.out⟩, hb.trans (putObj_below (by have := HDD2.out; omega) hb.size)⟩
      case body =>
        rintro lp pre x W ⟨v, ps, hbx, ho, hps, hpk, hkp⟩ hpl
        obtain ⟨q, hq⟩ : ∃ q, q = left[x] := ⟨_, rfl⟩
        have hmem : q ∈ left := by rw [hq]; exact List.getElem_mem x.2
        have hqn : left[x.1].1 = q.1 := by rw [hq]; rfl
        have hqf : left[x.1].2 = q.2 := by rw [hq]; rfl
        obtain ⟨acc, hacc⟩ : ∃ acc, acc = crashOf s (pre.map fun i => left[i]) pk.tail := ⟨_, rfl⟩
        have HAC := Lib.hid (show crashOf s ((pre ++ [x]).map fun i => left[i]) pk.tail = crashStep s acc q by rw [List.map_append, List.map_singleton, crashOf_snoc, ← hacc, ← hq])
        have hal : acc.1.length = pre.length := by rw [hacc, crashOf_len]; simp
        rw [← hacc] at hps hpk
        obtain ⟨⟨vb, vs', hfb, hbr, hbs⟩, hBf⟩ := HM6.out.d.files _ (HIN.out q hmem).1
        obtain ⟨o1, k1, rfl⟩ := rd_slice hbr.rd
        obtain ⟨o2, k2, rfl⟩ := rd_slice hbs.rd
        obtain ⟨xs, hxs⟩ : ∃ xs, xs = s.by_ q.2 := ⟨_, rfl⟩
        obtain ⟨ys, hys⟩ : ∃ ys, ys = s.sf q.2 := ⟨_, rfl⟩
        rw [← hxs, ← hys] at hfb
        rw [← hxs] at hbr
        rw [← hys] at hbs
        have hxl := hbr.len
        have hyl := hbs.len
        have hxc := hbr.cap _ _ _ rfl
        have hfl : q.2 < w6.heap.size := hfb.lt
        have hWl : w4.heap.size < w6.heap.size := HBL6.out.lt
        have hcl : w.heap.size < w6.heap.size := by omega
        have hfne : w4.heap.size ≠ q.2 := fun e => hfb.ne_type HBL6.out (by decide) e.symm
        have hfc : q.2 ≠ w.heap.size := by obtain ⟨o, cap, h1, _⟩ := HM6.out.pk; exact hfb.ne_type h1 (by decide)
        have hpl2 : ps.length ≤ 1000000 := by have h1 := congrArg List.length hps; simp at h1; omega
        have HBR := Lib.hid hbr
        have HBS := Lib.hid hbs
        have HFB := Lib.hid hfb
        have HKP := Lib.hid hkp
        have HBX := Lib.hid hbx
        have HO := Lib.hid ho
        have HPS := Lib.hid hps
        have HPK := Lib.hid hpk
        have HXS := Lib.hid (And.intro hxs hys)
        have HNL := Lib.hid (HIN.out q hmem).2
        clear hxs hys hbr hbs hfb hkp hbx ho hps hpk hacc hal hmem hBf hq
        refine wpIn_block ?_
        rw [hqn, hqf]
        simp only [ptrV]
        clear hqn hqf
        have hfb0 := HKP.out.box HFB.out hfl (fun e => hfne e.symm) hfc
        have s1 := hfb0.cell 1 rfl
        gi_wp2
        clear s1
        have s0 := hfb0.cell 0 rfl
        have HPKB := Lib.hid HM6.out.pk
        have HKU := Lib.hid (show KeepU w6 W by obtain ⟨o, cap, h1, _⟩ := HPKB.out; exact HKP.out.u8 HBL6.out (by decide) h1 (by decide))
        obtain ⟨bxy, hbxy⟩ : ∃ bxy, bxy = decide (xs = ys) := ⟨_, rfl⟩
        have HBXY := Lib.hid hbxy
        clear hbxy
        have HFB13 := Lib.hid (show Box W.drew q.2 68 #[.slice o1 xs.length k1, .slice o2 ys.length k2] from hfb0.same ⟨1, rfl⟩)
        clear hfb0 s0
        refine wpIn_region_heldR (S := fun w' => w'.cell? ⟨q.2, 0, none⟩ = some (.slice o1 xs.length k1) ∧ w'.cell? ⟨q.2, 1, none⟩ = some (.slice o2 ys.length k2)) (by kernel_rfl) (by kernel_rfl) (fun h => by obtain ⟨a, w, h⟩ := h; exact h) ⟨HFB13.out.cell 0 rfl, HFB13.out.cell 1 rfl⟩ (fun hHeld => ?_)
        refine wpAnyH_take (i := 0) (v := ?_) rfl (by kernel_rfl) (by kernel_rfl) (by kernel_rfl) (fun _ _ _ h => h) (Or.inl ⟨by rfl, ?_⟩) (by assumption) ?_
        rotate_left
        · (intro w hSw; (try dsimp only at hSw); go_simp; (try with_reducible rfl))
        (try simp only [Act.put, List.setIfInBounds_toArray, List.set_cons_zero, List.set_cons_succ])
        refine wpAnyH_take (i := 1) (v := ?_) rfl (by kernel_rfl) (by kernel_rfl) (by kernel_rfl) (fun _ _ _ h => h) (Or.inl ⟨by rfl, ?_⟩) (by assumption) ?_
        rotate_left
        · (intro w hSw; (try dsimp only at hSw); go_simp; (try with_reducible rfl))
        (try simp only [Act.put, List.setIfInBounds_toArray, List.set_cons_zero, List.set_cons_succ])
        refine wpAnyH_take (i := 2) (v := ?_) rfl (by kernel_rfl) (by kernel_rfl) (by kernel_rfl) (fun _ _ _ h => h) (Or.inl ⟨by rfl, ?_⟩) (by assumption) ?_
        rotate_left
        · (intro w hSw; (try dsimp only at hSw); go_simp; (try with_reducible rfl))
        (try simp only [Act.put, List.setIfInBounds_toArray, List.set_cons_zero, List.set_cons_succ])
        refine wpAnyH_take (i := 3) (v := ?_) rfl (by kernel_rfl) (by kernel_rfl) (by kernel_rfl) (fun _ _ _ h => h) (Or.inl ⟨by rfl, ?_⟩) (by assumption) ?_
        rotate_left
        · (intro w hSw; (try dsimp only at hSw); go_simp; (try with_reducible rfl))
        (try simp only [Act.put, List.setIfInBounds_toArray, List.set_cons_zero, List.set_cons_succ])
        refine wpAnyH_take (i := 4) (v := ?_) rfl (by kernel_rfl) (by kernel_rfl) (by kernel_rfl) (fun _ _ _ h => h) (Or.inl ⟨by rfl, ?_⟩) (by assumption) ?_
        rotate_left
        · (intro w hSw; (try dsimp only at hSw); go_simp; (try with_reducible rfl))
        (try simp only [Act.put, List.setIfInBounds_toArray, List.set_cons_zero, List.set_cons_succ])
        refine wpAnyH_take (i := 5) (v := ?_) rfl (by kernel_rfl) (by kernel_rfl) (by kernel_rfl) (fun _ _ _ h => h) (Or.inl ⟨by rfl, ?_⟩) (by assumption) ?_
        rotate_left
        · (intro w hSw; (try dsimp only at hSw); go_simp; (try with_reducible rfl))
        (try simp only [Act.put, List.setIfInBounds_toArray, List.set_cons_zero, List.set_cons_succ])
        refine wpAnyH_take (i := 6) (v := ?_) rfl (by kernel_rfl) (by kernel_rfl) (by kernel_rfl) (fun _ _ _ h => h) (Or.inl ⟨by rfl, ?_⟩) (by assumption) ?_
        rotate_left
        · (intro w hSw; (try dsimp only at hSw); go_simp; (try with_reducible rfl))
        (try simp only [Act.put, List.setIfInBounds_toArray, List.set_cons_zero, List.set_cons_succ])
        refine wpAnyH_take (i := 7) (v := ?_) rfl (by kernel_rfl) (by kernel_rfl) (by kernel_rfl) (fun _ _ _ h => h) (Or.inl ⟨by rfl, ?_⟩) (by assumption) ?_
        rotate_left
        · (intro w hSw; (try dsimp only at hSw); go_simp; (try with_reducible rfl))
        (try simp only [Act.put, List.setIfInBounds_toArray, List.set_cons_zero, List.set_cons_succ])
        refine wpAnyH_ready (rs := [8]) (by kernel_rfl) (by simp) ?_
        refine AllReadyH.cons rfl (fun K hK => ?_) AllReadyH.nil
        go_simp
        go_at_call 45
        refine (equal8_any _ _ xs ys _ ((HBR.out.moveU HKU.out).rd.same ⟨1, rfl⟩) ((HBS.out.moveU HKU.out).rd.same ⟨1, rfl⟩) (by omega)).mono ?_
        rintro e w13 ⟨rfl, hs13⟩
        rw [← HBXY.out]
        have HFB14 := Lib.hid (HFB13.out.same hs13)
        have HR13 := Lib.hid ((show RoundAt w w6 w4.heap.size w.heap.size q.2 #[.slice o1 xs.length k1, .slice o2 ys.length k2] W v ps acc.2 W.drew from
          ⟨HKP.out.trans (KeepP.of_below (Below.drew (Below.refl _ _))), HBX.out.same ⟨1, rfl⟩, HFB13.out, HO.out.next (Below.drew (Below.refl _ _)), HPK.out.next (Below.drew (Below.refl _ _)), KeepD.heap rfl, others_below (Below.drew (Below.refl _ _))⟩).same hs13)
        clear hs13 hHeld
        go_wp2_with fail
        refine hK.out _ _ ⟨HFB14.out.cell 0 rfl, HFB14.out.cell 1 rfl⟩ (fun hHeld => ?_)
        clear hK K
        (try simp only [Act.put, List.setIfInBounds_toArray, List.set_cons_zero, List.set_cons_succ])
        refine wpAnyH_take (i := 9) (v := ?_) rfl (by kernel_rfl) (by kernel_rfl) (by kernel_rfl) (fun _ _ _ h => h) (Or.inl ⟨by rfl, ?_⟩) (by assumption) ?_
        rotate_left
        · (intro w hSw; (try dsimp only at hSw); go_simp; (try with_reducible rfl))
        (try simp only [Act.put, List.setIfInBounds_toArray, List.set_cons_zero, List.set_cons_succ])
        refine wpAnyH_done (by kernel_rfl) ?_ _
        simp only [List.getElem_toArray, List.getElem_cons_zero, List.getElem_cons_succ, Act.put, List.setIfInBounds_toArray, List.set_cons_zero, List.set_cons_succ]
        clear hHeld
        have hcne : w.heap.size ≠ w4.heap.size := by omega
        cases bxy with
        | true =>
          have hxe : xs = ys := of_decide_eq_true HBXY.out.symm
          have HXE := Lib.hid hxe
          clear hxe
          --<A
          gi_wp2
          have HRW := HR13
          obtain ⟨oc1, capc1, hcb1, _⟩ := HPKB.out
          have HRD := Lib.hid (fun W' (hk : KeepB w6.heap.size w4.heap.size _ W') => show Rd W' .u8 (.slice o2 ys.length k2) ys from (HBS.out.moveU (HRW.out.u8 HBL6.out hcb1 hk)).rd)
          have HST := Lib.hid (show crashStep s acc q = (acc.1 ++ [⟨q.1, ys⟩], acc.2) from by rw [crashStep, if_pos (by rw [← HXS.out.1, ← HXS.out.2, HXE.out]), ← HXS.out.2])
          have hl4 : ys.length ≤ 4194304 := by exact hyl
          have HM := Lib.hid HRW.out.mid
          obtain ⟨i0, hi, hz0, hz1, hz2'⟩ := info_parts info_file
          obtain ⟨av, kv, rfl⟩ := own_slice HRW.out.o.row
          clear hcb1
          refine wpIn_region_heldR (S := fun w' => w'.cell? ⟨q.2, 0, none⟩ = some (.slice o1 xs.length k1)) (by kernel_rfl) (by kernel_rfl) (fun h => by obtain ⟨a, w, h⟩ := h; exact h) (HM.out.fb.cell 0 rfl) (fun hHeld => ?_)
          refine wpAnyH_take (i := 1) (v := ?_) rfl (by kernel_rfl) (by kernel_rfl) (by kernel_rfl) (fun _ _ _ h => h) (Or.inl ⟨by rfl, ?_⟩) (by assumption) ?_
          rotate_left
          · (intro w hSw; (try dsimp only at hSw); go_simp; (try with_reducible rfl))
          (try simp only [Act.put, List.setIfInBounds_toArray, List.set_cons_zero, List.set_cons_succ])
          refine wpAnyH_take (i := 2) (v := ?_) rfl (by kernel_rfl) (by kernel_rfl) (by kernel_rfl) (fun _ _ _ h => h) (Or.inl ⟨by rfl, ?_⟩) (by assumption) ?_
          rotate_left
          · (intro w hSw; (try dsimp only at hSw); go_simp; (try with_reducible rfl))
          (try simp only [Act.put, List.setIfInBounds_toArray, List.set_cons_zero, List.set_cons_succ])
          refine wpAnyH_ready (rs := [0, 3]) (by kernel_rfl) (by simp) ?_
          refine AllReadyH.cons rfl (fun K hK => ?_) (AllReadyH.cons rfl (fun K hK => ?_) AllReadyH.nil)
          · have cl := HM.out.bx.cell 0 rfl
            go_simp
            refine hK.out _ _ (HM.out.fb.cell 0 rfl) (fun hHeld0 => ?_)
            clear hK K cl
            (try simp only [Act.put, List.setIfInBounds_toArray, List.set_cons_zero, List.set_cons_succ])
            refine wpAnyH_ready (rs := [3]) (by kernel_rfl) (by simp) ?_
            refine AllReadyH.cons rfl (fun K hK => ?_) AllReadyH.nil
            go_simp
            go_at_call 32
            refine (clone_own _ ys _ (HRD.out _ HM.out.kb) hl4).mono ?_
            rintro e w4 ⟨v4, rfl, hbr, hb4⟩
            obtain ⟨o4, k4, rfl⟩ := rd_slice hbr.rd
            have HM4 := Lib.hid (HM.out.next hb4)
            have HBR4 := Lib.hid (hbr.mono HM.out.size); have HSP4 := Lib.hid (HM.out.o.fresh hbr (Nat.le_refl _))
            clear hbr hb4
            go_wp2_with fail
            refine hK.out _ _ (HM4.out.fb.cell 0 rfl) (fun hHeld4 => ?_)
            clear hK K
            (try simp only [Act.put, List.setIfInBounds_toArray, List.set_cons_zero, List.set_cons_succ])
            refine wpAnyH_take (i := 4) (v := ?_) rfl (by kernel_rfl) (by kernel_rfl) (by kernel_rfl) (fun _ _ _ h => h) (Or.inl ⟨by rfl, ?_⟩) (by assumption) ?_
            rotate_left
            · (intro w hSw; (try dsimp only at hSw); go_simp; (try with_reducible rfl))
            (try simp only [Act.put, List.setIfInBounds_toArray, List.set_cons_zero, List.set_cons_succ])
            refine wpAnyH_ready (rs := [5]) (by kernel_rfl) (by simp) ?_
            refine AllReadyH.cons rfl (fun K hK => ?_) AllReadyH.nil
            go_simp
            obtain ⟨w5, hw5⟩ : ∃ w5, w5 = w4.alloc (.cells #[encStr q.1, .slice o4 ys.length k4] 48) := ⟨_, rfl⟩
            have HM5 := Lib.hid (show ListMid _ _ _ _ _ _ _ _ _ w5 by rw [hw5]; exact HM4.out.next ((Below.refl _ _).alloc (Nat.le_refl _) _))
            have HPN := Lib.hid (show ∀ (j : Nat) (u : Value), [encStr q.1, .slice o4 ys.length k4][j]? = some u → w5.cell? ((⟨w4.heap.size, 0, none⟩ : Addr).add j) = some u by rw [hw5]; exact pair_new w4 _ _ _)
            rw [← hw5]
            have HW5 := Lib.hid hw5
            clear hw5
            refine hK.out _ _ (HM5.out.fb.cell 0 rfl) (fun hHeld5 => ?_)
            clear hK K
            (try simp only [Act.put, List.setIfInBounds_toArray, List.set_cons_zero, List.set_cons_succ])
            refine wpAnyH_ready (rs := [6]) (by kernel_rfl) (by simp) ?_
            refine AllReadyH.cons rfl (fun K hK => ?_) AllReadyH.nil
            refine step_append_own rfl _ _ 22 rfl _ 48 i0 (.agg #[.string ⟨#[]⟩, .slice none 0 0]) 2 40 Try.underlying22 hi hz0 hz1 hz2' rfl (by decide) _ _ _ rfl HM5.out.o.row ⟨w4.heap.size, 0, none⟩ 1 1 [encStr q.1, .slice o4 ys.length k4] rfl rfl HPN.out (by simp [Value.oneCell', encStr]) (by unfold maxLen; omega) (by omega) HM5.out.size ?_
            intro v6 w6 hown6 hg6 _
            obtain ⟨a6, k6, rfl⟩ := own_slice hown6
            rw [HW5.out] at hg6
            have HF := Lib.hid (HM4.out.snoc (p := (⟨q.1, ys⟩, .slice o4 ys.length k4)) hWl hfl hown6 hg6 HBR4.out HSP4.out HNL.out)
            clear hown6 hg6
            refine hK.out _ _ (HF.out.1.2.cell 0 rfl) (fun hHeld6 => ?_)
            clear hK K
            (try simp only [Act.put, List.setIfInBounds_toArray, List.set_cons_zero, List.set_cons_succ])
            refine wpAnyH_ready (rs := [7]) (by kernel_rfl) (by simp) ?_
            refine AllReadyH.cons rfl (fun K hK => ?_) AllReadyH.nil
            have cl := HF.out.1.1.cell 0 rfl
            have fl := HF.out.1.1.free 0
            go_simp
            refine hK.out _ _ ((HF.out.1.2.other (by exact hfne) _).cell 0 rfl) (fun hHeld7 => ?_)
            clear hK K cl fl
            (try simp only [Act.put, List.setIfInBounds_toArray, List.set_cons_zero, List.set_cons_succ])
            refine wpAnyH_done (by kernel_rfl) ?_ _
            obtain ⟨⟨f1, f2⟩, f3, f4, f5, f6⟩ := HF.out
            refine ⟨f6.trans (KeepsOthers.setCell _ _ _), f4.trans (KeepD.set f1 rfl _), ?_⟩
            show CrI _ _ _ _ _ (crashOf s ((pre ++ [x]).map fun i => left[i]) pk.tail) _
            rw [HAC.out, HST.out]
            exact ⟨_, _, f1.set 0 _, f5.set hWl _, by rw [List.map_append, HPS.out]; rfl, HRW.out.pk.keepB (f3.trans (KeepB.set _)) hcl hcne, HRW.out.kp.trans (KeepP.ofB (f3.trans (KeepB.set _)))⟩
          · go_simp
            go_at_call 32
            refine (clone_own _ ys _ (HRD.out _ HM.out.kb) hl4).mono ?_
            rintro e w4 ⟨v4, rfl, hbr, hb4⟩
            obtain ⟨o4, k4, rfl⟩ := rd_slice hbr.rd
            have HM4 := Lib.hid (HM.out.next hb4)
            have HBR4 := Lib.hid (hbr.mono HM.out.size); have HSP4 := Lib.hid (HM.out.o.fresh hbr (Nat.le_refl _))
            clear hbr hb4
            go_wp2_with fail
            refine hK.out _ _ (HM4.out.fb.cell 0 rfl) (fun hHeld4 => ?_)
            clear hK K
            (try simp only [Act.put, List.setIfInBounds_toArray, List.set_cons_zero, List.set_cons_succ])
            refine wpAnyH_take (i := 4) (v := ?_) rfl (by kernel_rfl) (by kernel_rfl) (by kernel_rfl) (fun _ _ _ h => h) (Or.inl ⟨by rfl, ?_⟩) (by assumption) ?_
            rotate_left
            · (intro w hSw; (try dsimp only at hSw); go_simp; (try with_reducible rfl))
            (try simp only [Act.put, List.setIfInBounds_toArray, List.set_cons_zero, List.set_cons_succ])
            refine wpAnyH_ready (rs := [0, 5]) (by kernel_rfl) (by simp) ?_
            refine AllReadyH.cons rfl (fun K hK => ?_) (AllReadyH.cons rfl (fun K hK => ?_) AllReadyH.nil)
            · have cl := HM4.out.bx.cell 0 rfl
              go_simp
              refine hK.out _ _ (HM4.out.fb.cell 0 rfl) (fun hHeld1 => ?_)
              clear hK K cl
              (try simp only [Act.put, List.setIfInBounds_toArray, List.set_cons_zero, List.set_cons_succ])
              refine wpAnyH_ready (rs := [5]) (by kernel_rfl) (by simp) ?_
              refine AllReadyH.cons rfl (fun K hK => ?_) AllReadyH.nil
              go_simp
              obtain ⟨w5, hw5⟩ : ∃ w5, w5 = w4.alloc (.cells #[encStr q.1, .slice o4 ys.length k4] 48) := ⟨_, rfl⟩
              have HM5 := Lib.hid (show ListMid _ _ _ _ _ _ _ _ _ w5 by rw [hw5]; exact HM4.out.next ((Below.refl _ _).alloc (Nat.le_refl _) _))
              have HPN := Lib.hid (show ∀ (j : Nat) (u : Value), [encStr q.1, .slice o4 ys.length k4][j]? = some u → w5.cell? ((⟨w4.heap.size, 0, none⟩ : Addr).add j) = some u by rw [hw5]; exact pair_new w4 _ _ _)
              rw [← hw5]
              have HW5 := Lib.hid hw5
              clear hw5
              refine hK.out _ _ (HM5.out.fb.cell 0 rfl) (fun hHeld5 => ?_)
              clear hK K
              (try simp only [Act.put, List.setIfInBounds_toArray, List.set_cons_zero, List.set_cons_succ])
              refine wpAnyH_ready (rs := [6]) (by kernel_rfl) (by simp) ?_
              refine AllReadyH.cons rfl (fun K hK => ?_) AllReadyH.nil
              refine step_append_own rfl _ _ 22 rfl _ 48 i0 (.agg #[.string ⟨#[]⟩, .slice none 0 0]) 2 40 Try.underlying22 hi hz0 hz1 hz2' rfl (by decide) _ _ _ rfl HM5.out.o.row ⟨w4.heap.size, 0, none⟩ 1 1 [encStr q.1, .slice o4 ys.length k4] rfl rfl HPN.out (by simp [Value.oneCell', encStr]) (by unfold maxLen; omega) (by omega) HM5.out.size ?_
              intro v6 w6 hown6 hg6 _
              obtain ⟨a6, k6, rfl⟩ := own_slice hown6
              rw [HW5.out] at hg6
              have HF := Lib.hid (HM4.out.snoc (p := (⟨q.1, ys⟩, .slice o4 ys.length k4)) hWl hfl hown6 hg6 HBR4.out HSP4.out HNL.out)
              clear hown6 hg6
              refine hK.out _ _ (HF.out.1.2.cell 0 rfl) (fun hHeld6 => ?_)
              clear hK K
              (try simp only [Act.put, List.setIfInBounds_toArray, List.set_cons_zero, List.set_cons_succ])
              refine wpAnyH_ready (rs := [7]) (by kernel_rfl) (by simp) ?_
              refine AllReadyH.cons rfl (fun K hK => ?_) AllReadyH.nil
              have cl := HF.out.1.1.cell 0 rfl
              have fl := HF.out.1.1.free 0
              go_simp
              refine hK.out _ _ ((HF.out.1.2.other (by exact hfne) _).cell 0 rfl) (fun hHeld7 => ?_)
              clear hK K cl fl
              (try simp only [Act.put, List.setIfInBounds_toArray, List.set_cons_zero, List.set_cons_succ])
              refine wpAnyH_done (by kernel_rfl) ?_ _
              obtain ⟨⟨f1, f2⟩, f3, f4, f5, f6⟩ := HF.out
              refine ⟨f6.trans (KeepsOthers.setCell _ _ _), f4.trans (KeepD.set f1 rfl _), ?_⟩
              show CrI _ _ _ _ _ (crashOf s ((pre ++ [x]).map fun i => left[i]) pk.tail) _
              rw [HAC.out, HST.out]
              exact ⟨_, _, f1.set 0 _, f5.set hWl _, by rw [List.map_append, HPS.out]; rfl, HRW.out.pk.keepB (f3.trans (KeepB.set _)) hcl hcne, HRW.out.kp.trans (KeepP.ofB (f3.trans (KeepB.set _)))⟩
            · go_simp
              obtain ⟨w5, hw5⟩ : ∃ w5, w5 = w4.alloc (.cells #[encStr q.1, .slice o4 ys.length k4] 48) := ⟨_, rfl⟩
              have HM5 := Lib.hid (show ListMid _ _ _ _ _ _ _ _ _ w5 by rw [hw5]; exact HM4.out.next ((Below.refl _ _).alloc (Nat.le_refl _) _))
              have HPN := Lib.hid (show ∀ (j : Nat) (u : Value), [encStr q.1, .slice o4 ys.length k4][j]? = some u → w5.cell? ((⟨w4.heap.size, 0, none⟩ : Addr).add j) = some u by rw [hw5]; exact pair_new w4 _ _ _)
              rw [← hw5]
              have HW5 := Lib.hid hw5
              clear hw5
              refine hK.out _ _ (HM5.out.fb.cell 0 rfl) (fun hHeld5 => ?_)
              clear hK K
              (try simp only [Act.put, List.setIfInBounds_toArray, List.set_cons_zero, List.set_cons_succ])
              refine wpAnyH_ready (rs := [0]) (by kernel_rfl) (by simp) ?_
              refine AllReadyH.cons rfl (fun K hK => ?_) AllReadyH.nil
              have cl := HM5.out.bx.cell 0 rfl
              go_simp
              refine hK.out _ _ (HM5.out.fb.cell 0 rfl) (fun hHeld2 => ?_)
              clear hK K cl
              (try simp only [Act.put, List.setIfInBounds_toArray, List.set_cons_zero, List.set_cons_succ])
              refine wpAnyH_ready (rs := [6]) (by kernel_rfl) (by simp) ?_
              refine AllReadyH.cons rfl (fun K hK => ?_) AllReadyH.nil
              refine step_append_own rfl _ _ 22 rfl _ 48 i0 (.agg #[.string ⟨#[]⟩, .slice none 0 0]) 2 40 Try.underlying22 hi hz0 hz1 hz2' rfl (by decide) _ _ _ rfl HM5.out.o.row ⟨w4.heap.size, 0, none⟩ 1 1 [encStr q.1, .slice o4 ys.length k4] rfl rfl HPN.out (by simp [Value.oneCell', encStr]) (by unfold maxLen; omega) (by omega) HM5.out.size ?_
              intro v6 w6 hown6 hg6 _
              obtain ⟨a6, k6, rfl⟩ := own_slice hown6
              rw [HW5.out] at hg6
              have HF := Lib.hid (HM4.out.snoc (p := (⟨q.1, ys⟩, .slice o4 ys.length k4)) hWl hfl hown6 hg6 HBR4.out HSP4.out HNL.out)
              clear hown6 hg6
              refine hK.out _ _ (HF.out.1.2.cell 0 rfl) (fun hHeld6 => ?_)
              clear hK K
              (try simp only [Act.put, List.setIfInBounds_toArray, List.set_cons_zero, List.set_cons_succ])
              refine wpAnyH_ready (rs := [7]) (by kernel_rfl) (by simp) ?_
              refine AllReadyH.cons rfl (fun K hK => ?_) AllReadyH.nil
              have cl := HF.out.1.1.cell 0 rfl
              have fl := HF.out.1.1.free 0
              go_simp
              refine hK.out _ _ ((HF.out.1.2.other (by exact hfne) _).cell 0 rfl) (fun hHeld7 => ?_)
              clear hK K cl fl
              (try simp only [Act.put, List.setIfInBounds_toArray, List.set_cons_zero, List.set_cons_succ])
              refine wpAnyH_done (by kernel_rfl) ?_ _
              obtain ⟨⟨f1, f2⟩, f3, f4, f5, f6⟩ := HF.out
              refine ⟨f6.trans (KeepsOthers.setCell _ _ _), f4.trans (KeepD.set f1 rfl _), ?_⟩
              show CrI _ _ _ _ _ (crashOf s ((pre ++ [x]).map fun i => left[i]) pk.tail) _
              rw [HAC.out, HST.out]
              exact ⟨_, _, f1.set 0 _, f5.set hWl _, by rw [List.map_append, HPS.out]; rfl, HRW.out.pk.keepB (f3.trans (KeepB.set _)) hcl hcne, HRW.out.kp.trans (KeepP.ofB (f3.trans (KeepB.set _)))⟩
          --A>
        | false =>
          have hxe : xs ≠ ys := of_decide_eq_false HBXY.out.symm
          have HXE := Lib.hid hxe
          clear hxe
          have tf := (HR13.out.kp.box HM6.out.f (show w.heap.size + 1 < w6.heap.size from HM6.out.f.lt) (by omega) (by omega)).cell 0 rfl
          have hb14 : Below w.heap.size w w13 := HM6.out.b.trans (HR13.out.kp.below (by omega) (by omega) (Nat.le_refl _))
          obtain ⟨p1, hp1⟩ : ∃ p1, p1 = acc.2.headD 0 := ⟨_, rfl⟩
          have HP1 := Lib.hid hp1
          clear hp1
          gi_wp2_with (first
            | (refine ⟨trivial, ?_⟩; gi_at_call 43; refine (callsIn_round (next_any HR13.out.pk hb14 (Nat.le_refl _))).mono ?_; rintro e w15 ⟨rfl, hpk15, hkc15⟩; rw [← HP1.out]; have HR15 := Lib.hid (HR13.out.picked hpk15 hkc15 hcl (fun e => hcne e.symm) hfc); clear hpk15 hkc15)
            | (refine ⟨trivial, ?_⟩; gi_at_call 44; refine (callsIn_round (modulo_any p1 2 ⟨by omega, by omega⟩ _)).mono ?_; rintro e w' ⟨rfl, rfl⟩))
          · rename_i hodd
            have HOD := Lib.hid (show p1 % 2 = 1 from by simpa using hodd)
            clear hodd tf
            have HF15 := Lib.hid (HR15.out.fb.same (w' := w15.drew) ⟨1, rfl⟩)
            obtain ⟨m, hm⟩ : ∃ m : Nat, (m : Int) = (p1 / 2) % ((xs.length : Int) + 1) := ⟨((p1 / 2) % ((xs.length : Int) + 1)).toNat, Int.toNat_of_nonneg (Int.emod_nonneg _ (by omega))⟩
            have hmx : m ≤ xs.length := by have := Int.emod_lt_of_pos (p1 / 2) (show 0 < (xs.length : Int) + 1 by omega); omega
            have hm1 : (0 : Int) ≤ m := by omega
            have hm2 : (m : Int) ≤ k1 := by omega
            have hm3 : (k1 : Int) ≤ 9223372036854775807 := by omega
            have HMM := Lib.hid hm
            have HWX := Lib.hid (show IntKind.i64.wrap ((xs.length : Int) + 1) = (xs.length : Int) + 1 from by rw [IntWalk.i64_in _ (by omega)])
            clear hm
            refine wpIn_region_heldR (S := fun w' => w'.cell? ⟨q.2, 0, none⟩ = some (.slice o1 xs.length k1)) (by kernel_rfl) (by kernel_rfl) (fun h => by obtain ⟨a, w, h⟩ := h; exact h) (HF15.out.cell 0 rfl) (fun hHeld => ?_)
            refine wpAnyH_take (i := 0) (v := ?_) rfl (by kernel_rfl) (by kernel_rfl) (by kernel_rfl) (fun _ _ _ h => h) (Or.inl ⟨by rfl, ?_⟩) (by assumption) ?_
            rotate_left
            · (intro w hSw; (try dsimp only at hSw); go_simp; (try with_reducible rfl))
            (try simp only [Act.put, List.setIfInBounds_toArray, List.set_cons_zero, List.set_cons_succ])
            refine wpAnyH_take (i := 1) (v := ?_) rfl (by kernel_rfl) (by kernel_rfl) (by kernel_rfl) (fun _ _ _ h => h) (Or.inl ⟨by rfl, ?_⟩) (by assumption) ?_
            rotate_left
            · (intro w hSw; (try dsimp only at hSw); go_simp; (try with_reducible rfl))
            (try simp only [Act.put, List.setIfInBounds_toArray, List.set_cons_zero, List.set_cons_succ])
            refine wpAnyH_take (i := 2) (v := ?_) rfl (by kernel_rfl) (by kernel_rfl) (by kernel_rfl) (fun _ _ _ h => h) (Or.inl ⟨by rfl, ?_⟩) (by assumption) ?_
            rotate_left
            · (intro w hSw; (try dsimp only at hSw); go_simp; (try with_reducible rfl))
            (try simp only [Act.put, List.setIfInBounds_toArray, List.set_cons_zero, List.set_cons_succ])
            refine wpAnyH_take (i := 3) (v := ?_) rfl (by kernel_rfl) (by kernel_rfl) (by kernel_rfl) (fun _ _ _ h => h) (Or.inl ⟨by rfl, ?_⟩) (by assumption) ?_
            rotate_left
            · (intro w hSw; (try dsimp only at hSw); go_simp; (try with_reducible rfl))
            (try simp only [Act.put, List.setIfInBounds_toArray, List.set_cons_zero, List.set_cons_succ])
            refine wpAnyH_take (i := 4) (v := ?_) rfl (by kernel_rfl) (by kernel_rfl) (by kernel_rfl) (fun _ _ _ h => h) (Or.inl ⟨by rfl, ?_⟩) (by assumption) ?_
            rotate_left
            · (intro w hSw; (try dsimp only at hSw); go_simp; (try with_reducible rfl))
            (try simp only [Act.put, List.setIfInBounds_toArray, List.set_cons_zero, List.set_cons_succ])
            refine wpAnyH_take (i := 5) (v := ?_) rfl (by kernel_rfl) (by kernel_rfl) (by kernel_rfl) (fun _ _ _ h => h) (Or.inl ⟨by rfl, ?_⟩) (by assumption) ?_
            rotate_left
            · (intro w hSw; (try dsimp only at hSw); go_simp; (try with_reducible rfl))
            (try simp only [Act.put, List.setIfInBounds_toArray, List.set_cons_zero, List.set_cons_succ])
            refine wpAnyH_take (i := 6) (v := ?_) rfl (by kernel_rfl) (by kernel_rfl) (by kernel_rfl) (fun _ _ _ h => h) (Or.inl ⟨by rfl, ?_⟩) (by assumption) ?_
            rotate_left
            · (intro w hSw; (try dsimp only at hSw); go_simp; (try with_reducible rfl))
            (try simp only [Act.put, List.setIfInBounds_toArray, List.set_cons_zero, List.set_cons_succ])
            refine wpAnyH_take (i := 7) (v := ?_) rfl (by kernel_rfl) (by kernel_rfl) (by kernel_rfl) (fun _ _ _ h => h) (Or.inl ⟨by rfl, ?_⟩) (by assumption) ?_
            rotate_left
            · (intro w hSw; (try dsimp only at hSw); go_simp; (try with_reducible rfl))
            (try simp only [Act.put, List.setIfInBounds_toArray, List.set_cons_zero, List.set_cons_succ])
            refine wpAnyH_take (i := 8) (v := ?_) rfl (by kernel_rfl) (by kernel_rfl) (by kernel_rfl) (fun _ _ _ h => h) (Or.inl ⟨by rfl, ?_⟩) (by assumption) ?_
            rotate_left
            · (intro w hSw; (try dsimp only at hSw); go_simp; (try with_reducible rfl))
            (try simp only [Act.put, List.setIfInBounds_toArray, List.set_cons_zero, List.set_cons_succ])
            refine wpAnyH_take (i := 9) (v := ?_) rfl (by kernel_rfl) (by kernel_rfl) (by kernel_rfl) (fun _ _ _ h => h) (Or.inl ⟨by rfl, ?_⟩) (by assumption) ?_
            rotate_left
            · (intro w hSw; (try dsimp only at hSw); go_simp; (try with_reducible rfl))
            (try simp only [Act.put, List.setIfInBounds_toArray, List.set_cons_zero, List.set_cons_succ])
            refine wpAnyH_take (i := 10) (v := ?_) rfl (by kernel_rfl) (by kernel_rfl) (by kernel_rfl) (fun _ _ _ h => h) (Or.inl ⟨by rfl, ?_⟩) (by assumption) ?_
            rotate_left
            · (intro w hSw; (try dsimp only at hSw); go_simp; (try with_reducible rfl))
            (try simp only [Act.put, List.setIfInBounds_toArray, List.set_cons_zero, List.set_cons_succ])
            refine wpAnyH_take (i := 11) (v := ?_) rfl (by kernel_rfl) (by kernel_rfl) (by kernel_rfl) (fun _ _ _ h => h) (Or.inl ⟨by rfl, ?_⟩) (by assumption) ?_
            rotate_left
            · (intro w hSw; (try dsimp only at hSw); go_simp; (try with_reducible rfl))
            (try simp only [Act.put, List.setIfInBounds_toArray, List.set_cons_zero, List.set_cons_succ])
            refine wpAnyH_ready (rs := [12]) (by kernel_rfl) (by simp) ?_
            refine AllReadyH.cons rfl (fun K hK => ?_) AllReadyH.nil
            go_simp
            go_at_call 44
            rw [HWX.out]
            refine (modulo_any (p1 / 2) ((xs.length : Int) + 1) ⟨by omega, by omega⟩ _).mono ?_
            rintro e w' ⟨rfl, rfl⟩
            rw [← HMM.out]
            clear hHeld
            go_wp2_with fail
            refine hK.out _ _ (HF15.out.cell 0 rfl) (fun hHeld => ?_)
            clear hK K
            (try simp only [Act.put, List.setIfInBounds_toArray, List.set_cons_zero, List.set_cons_succ])
            refine wpAnyH_take (i := 13) (v := ?_) rfl (by kernel_rfl) (by kernel_rfl) (by kernel_rfl) (fun _ _ _ h => h) (Or.inl ⟨by rfl, ?_⟩) (by assumption) ?_
            rotate_left
            · (intro w hSw; (try dsimp only at hSw); go_simp; (try with_reducible rfl))
            (try simp only [Act.put, List.setIfInBounds_toArray, List.set_cons_zero, List.set_cons_succ])
            refine wpAnyH_take (i := 14) (v := ?_) rfl (by kernel_rfl) (by kernel_rfl) (by kernel_rfl) (fun _ _ _ h => h) (Or.inl ⟨by rfl, ?_⟩) (by assumption) ?_
            rotate_left
            · (intro w hSw; (try dsimp only at hSw); go_simp; (try with_reducible rfl))
            (try simp only [Act.put, List.setIfInBounds_toArray, List.set_cons_zero, List.set_cons_succ])
            refine wpAnyH_done (by kernel_rfl) ?_ _
            simp only [List.getElem_toArray, List.getElem_cons_zero, List.getElem_cons_succ, Act.put, List.setIfInBounds_toArray, List.set_cons_zero, List.set_cons_succ]
            clear hHeld
            gi_wp2
            have HRW := Lib.hid (HR15.out.same (Wr' := w15.drew) ⟨1, rfl⟩)
            obtain ⟨oc1, capc1, hcb1, _⟩ := HPKB.out
            obtain ⟨zs, hzs⟩ : ∃ zs, zs = xs.take m := ⟨_, rfl⟩
            have HRD0 := Lib.hid (fun W' (hk : KeepB w6.heap.size w4.heap.size _ W') => show Rd W' .u8 (.slice o1 (xs.take m).length k1) (xs.take m) from (HBR.out.moveU (HRW.out.u8 HBL6.out hcb1 hk)).part m hmx)
            have HST := Lib.hid (show crashStep s acc q = (acc.1 ++ [⟨q.1, xs.take m⟩], acc.2.tail) from by rw [crashStep, if_neg (by rw [← HXS.out.1, ← HXS.out.2]; exact HXE.out), ← HP1.out, pickB, if_pos HOD.out, ← HXS.out.1, ← HMM.out, Int.toNat_natCast])
            have hzl : m = zs.length := by rw [hzs]; simp; omega
            rw [← hzs] at HRD0 HST
            have hl4 : zs.length ≤ 4194304 := by omega
            clear HMM hm1 hm2 hmx hzs
            subst hzl
            have HRD := HRD0
            have HM := Lib.hid HRW.out.mid
            obtain ⟨i0, hi, hz0, hz1, hz2'⟩ := info_parts info_file
            obtain ⟨av, kv, rfl⟩ := own_slice HRW.out.o.row
            clear hcb1
            refine wpIn_region_heldR (S := fun w' => w'.cell? ⟨q.2, 0, none⟩ = some (.slice o1 xs.length k1)) (by kernel_rfl) (by kernel_rfl) (fun h => by obtain ⟨a, w, h⟩ := h; exact h) (HM.out.fb.cell 0 rfl) (fun hHeld => ?_)
            refine wpAnyH_take (i := 1) (v := ?_) rfl (by kernel_rfl) (by kernel_rfl) (by kernel_rfl) (fun _ _ _ h => h) (Or.inl ⟨by rfl, ?_⟩) (by assumption) ?_
            rotate_left
            · (intro w hSw; (try dsimp only at hSw); go_simp; (try with_reducible rfl))
            (try simp only [Act.put, List.setIfInBounds_toArray, List.set_cons_zero, List.set_cons_succ])
            refine wpAnyH_take (i := 2) (v := ?_) rfl (by kernel_rfl) (by kernel_rfl) (by kernel_rfl) (fun _ _ _ h => h) (Or.inl ⟨by rfl, ?_⟩) (by assumption) ?_
            rotate_left
            · (intro w hSw; (try dsimp only at hSw); go_simp; (try with_reducible rfl))
            (try simp only [Act.put, List.setIfInBounds_toArray, List.set_cons_zero, List.set_cons_succ])
            refine wpAnyH_ready (rs := [0, 3]) (by kernel_rfl) (by simp) ?_
            refine AllReadyH.cons rfl (fun K hK => ?_) (AllReadyH.cons rfl (fun K hK => ?_) AllReadyH.nil)
            · have cl := HM.out.bx.cell 0 rfl
              go_simp
              refine hK.out _ _ (HM.out.fb.cell 0 rfl) (fun hHeld0 => ?_)
              clear hK K cl
              (try simp only [Act.put, List.setIfInBounds_toArray, List.set_cons_zero, List.set_cons_succ])
              refine wpAnyH_ready (rs := [3]) (by kernel_rfl) (by simp) ?_
              refine AllReadyH.cons rfl (fun K hK => ?_) AllReadyH.nil
              go_simp
              go_at_call 32
              refine (clone_own _ zs _ (HRD.out _ HM.out.kb) hl4).mono ?_
              rintro e w4 ⟨v4, rfl, hbr, hb4⟩
              obtain ⟨o4, k4, rfl⟩ := rd_slice hbr.rd
              have HM4 := Lib.hid (HM.out.next hb4)
              have HBR4 := Lib.hid (hbr.mono HM.out.size); have HSP4 := Lib.hid (HM.out.o.fresh hbr (Nat.le_refl _))
              clear hbr hb4
              go_wp2_with fail
              refine hK.out _ _ (HM4.out.fb.cell 0 rfl) (fun hHeld4 => ?_)
              clear hK K
              (try simp only [Act.put, List.setIfInBounds_toArray, List.set_cons_zero, List.set_cons_succ])
              refine wpAnyH_take (i := 4) (v := ?_) rfl (by kernel_rfl) (by kernel_rfl) (by kernel_rfl) (fun _ _ _ h => h) (Or.inl ⟨by rfl, ?_⟩) (by assumption) ?_
              rotate_left
              · (intro w hSw; (try dsimp only at hSw); go_simp; (try with_reducible rfl))
              (try simp only [Act.put, List.setIfInBounds_toArray, List.set_cons_zero, List.set_cons_succ])
              refine wpAnyH_ready (rs := [5]) (by kernel_rfl) (by simp) ?_
              refine AllReadyH.cons rfl (fun K hK => ?_) AllReadyH.nil
              go_simp
              obtain ⟨w5, hw5⟩ : ∃ w5, w5 = w4.alloc (.cells #[encStr q.1, .slice o4 zs.length k4] 48) := ⟨_, rfl⟩
              have HM5 := Lib.hid (show ListMid _ _ _ _ _ _ _ _ _ w5 by rw [hw5]; exact HM4.out.next ((Below.refl _ _).alloc (Nat.le_refl _) _))
              have HPN := Lib.hid (show ∀ (j : Nat) (u : Value), [encStr q.1, .slice o4 zs.length k4][j]? = some u → w5.cell? ((⟨w4.heap.size, 0, none⟩ : Addr).add j) = some u by rw [hw5]; exact pair_new w4 _ _ _)
              rw [← hw5]
              have HW5 := Lib.hid hw5
              clear hw5
              refine hK.out _ _ (HM5.out.fb.cell 0 rfl) (fun hHeld5 => ?_)
              clear hK K
              (try simp only [Act.put, List.setIfInBounds_toArray, List.set_cons_zero, List.set_cons_succ])
              refine wpAnyH_ready (rs := [6]) (by kernel_rfl) (by simp) ?_
              refine AllReadyH.cons rfl (fun K hK => ?_) AllReadyH.nil
              refine step_append_own rfl _ _ 22 rfl _ 48 i0 (.agg #[.string ⟨#[]⟩, .slice none 0 0]) 2 40 Try.underlying22 hi hz0 hz1 hz2' rfl (by decide) _ _ _ rfl HM5.out.o.row ⟨w4.heap.size, 0, none⟩ 1 1 [encStr q.1, .slice o4 zs.length k4] rfl rfl HPN.out (by simp [Value.oneCell', encStr]) (by unfold maxLen; omega) (by omega) HM5.out.size ?_
              intro v6 w6 hown6 hg6 _
              obtain ⟨a6, k6, rfl⟩ := own_slice hown6
              rw [HW5.out] at hg6
              have HF := Lib.hid (HM4.out.snoc (p := (⟨q.1, zs⟩, .slice o4 zs.length k4)) hWl hfl hown6 hg6 HBR4.out HSP4.out HNL.out)
              clear hown6 hg6
              refine hK.out _ _ (HF.out.1.2.cell 0 rfl) (fun hHeld6 => ?_)
              clear hK K
              (try simp only [Act.put, List.setIfInBounds_toArray, List.set_cons_zero, List.set_cons_succ])
              refine wpAnyH_ready (rs := [7]) (by kernel_rfl) (by simp) ?_
              refine AllReadyH.cons rfl (fun K hK => ?_) AllReadyH.nil
              have cl := HF.out.1.1.cell 0 rfl
              have fl := HF.out.1.1.free 0
              go_simp
              refine hK.out _ _ ((HF.out.1.2.other (by exact hfne) _).cell 0 rfl) (fun hHeld7 => ?_)
              clear hK K cl fl
              (try simp only [Act.put, List.setIfInBounds_toArray, List.set_cons_zero, List.set_cons_succ])
              refine wpAnyH_done (by kernel_rfl) ?_ _
              obtain ⟨⟨f1, f2⟩, f3, f4, f5, f6⟩ := HF.out
              refine ⟨f6.trans (KeepsOthers.setCell _ _ _), f4.trans (KeepD.set f1 rfl _), ?_⟩
              show CrI _ _ _ _ _ (crashOf s ((pre ++ [x]).map fun i => left[i]) pk.tail) _
              rw [HAC.out, HST.out]
              exact ⟨_, _, f1.set 0 _, f5.set hWl _, by rw [List.map_append, HPS.out]; rfl, HRW.out.pk.keepB (f3.trans (KeepB.set _)) hcl hcne, HRW.out.kp.trans (KeepP.ofB (f3.trans (KeepB.set _)))⟩
            · go_simp
              go_at_call 32
              refine (clone_own _ zs _ (HRD.out _ HM.out.kb) hl4).mono ?_
              rintro e w4 ⟨v4, rfl, hbr, hb4⟩
              obtain ⟨o4, k4, rfl⟩ := rd_slice hbr.rd
              have HM4 := Lib.hid (HM.out.next hb4)
              have HBR4 := Lib.hid (hbr.mono HM.out.size); have HSP4 := Lib.hid (HM.out.o.fresh hbr (Nat.le_refl _))
              clear hbr hb4
              go_wp2_with fail
              refine hK.out _ _ (HM4.out.fb.cell 0 rfl) (fun hHeld4 => ?_)
              clear hK K
              (try simp only [Act.put, List.setIfInBounds_toArray, List.set_cons_zero, List.set_cons_succ])
              refine wpAnyH_take (i := 4) (v := ?_) rfl (by kernel_rfl) (by kernel_rfl) (by kernel_rfl) (fun _ _ _ h => h) (Or.inl ⟨by rfl, ?_⟩) (by assumption) ?_
              rotate_left
              · (intro w hSw; (try dsimp only at hSw); go_simp; (try with_reducible rfl))
              (try simp only [Act.put, List.setIfInBounds_toArray, List.set_cons_zero, List.set_cons_succ])
              refine wpAnyH_ready (rs := [0, 5]) (by kernel_rfl) (by simp) ?_
              refine AllReadyH.cons rfl (fun K hK => ?_) (AllReadyH.cons rfl (fun K hK => ?_) AllReadyH.nil)
              · have cl := HM4.out.bx.cell 0 rfl
                go_simp
                refine hK.out _ _ (HM4.out.fb.cell 0 rfl) (fun hHeld1 => ?_)
                clear hK K cl
                (try simp only [Act.put, List.setIfInBounds_toArray, List.set_cons_zero, List.set_cons_succ])
                refine wpAnyH_ready (rs := [5]) (by kernel_rfl) (by simp) ?_
                refine AllReadyH.cons rfl (fun K hK => ?_) AllReadyH.nil
                go_simp
                obtain ⟨w5, hw5⟩ : ∃ w5, w5 = w4.alloc (.cells #[encStr q.1, .slice o4 zs.length k4] 48) := ⟨_, rfl⟩
                have HM5 := Lib.hid (show ListMid _ _ _ _ _ _ _ _ _ w5 by rw [hw5]; exact HM4.out.next ((Below.refl _ _).alloc (Nat.le_refl _) _))
                have HPN := Lib.hid (show ∀ (j : Nat) (u : Value), [encStr q.1, .slice o4 zs.length k4][j]? = some u → w5.cell? ((⟨w4.heap.size, 0, none⟩ : Addr).add j) = some u by rw [hw5]; exact pair_new w4 _ _ _)
                rw [← hw5]
                have HW5 := Lib.hid hw5
                clear hw5
                refine hK.out _ _ (HM5.out.fb.cell 0 rfl) (fun hHeld5 => ?_)
                clear hK K
                (try simp only [Act.put, List.setIfInBounds_toArray, List.set_cons_zero, List.set_cons_succ])
                refine wpAnyH_ready (rs := [6]) (by kernel_rfl) (by simp) ?_
                refine AllReadyH.cons rfl (fun K hK => ?_) AllReadyH.nil
                refine step_append_own rfl _ _ 22 rfl _ 48 i0 (.agg #[.string ⟨#[]⟩, .slice none 0 0]) 2 40 Try.underlying22 hi hz0 hz1 hz2' rfl (by decide) _ _ _ rfl HM5.out.o.row ⟨w4.heap.size, 0, none⟩ 1 1 [encStr q.1, .slice o4 zs.length k4] rfl rfl HPN.out (by simp [Value.oneCell', encStr]) (by unfold maxLen; omega) (by omega) HM5.out.size ?_
                intro v6 w6 hown6 hg6 _
                obtain ⟨a6, k6, rfl⟩ := own_slice hown6
                rw [HW5.out] at hg6
                have HF := Lib.hid (HM4.out.snoc (p := (⟨q.1, zs⟩, .slice o4 zs.length k4)) hWl hfl hown6 hg6 HBR4.out HSP4.out HNL.out)
                clear hown6 hg6
                refine hK.out _ _ (HF.out.1.2.cell 0 rfl) (fun hHeld6 => ?_)
                clear hK K
                (try simp only [Act.put, List.setIfInBounds_toArray, List.set_cons_zero, List.set_cons_succ])
                refine wpAnyH_ready (rs := [7]) (by kernel_rfl) (by simp) ?_
                refine AllReadyH.cons rfl (fun K hK => ?_) AllReadyH.nil
                have cl := HF.out.1.1.cell 0 rfl
                have fl := HF.out.1.1.free 0
                go_simp
                refine hK.out _ _ ((HF.out.1.2.other (by exact hfne) _).cell 0 rfl) (fun hHeld7 => ?_)
                clear hK K cl fl
                (try simp only [Act.put, List.setIfInBounds_toArray, List.set_cons_zero, List.set_cons_succ])
                refine wpAnyH_done (by kernel_rfl) ?_ _
                obtain ⟨⟨f1, f2⟩, f3, f4, f5, f6⟩ := HF.out
                refine ⟨f6.trans (KeepsOthers.setCell _ _ _), f4.trans (KeepD.set f1 rfl _), ?_⟩
                show CrI _ _ _ _ _ (crashOf s ((pre ++ [x]).map fun i => left[i]) pk.tail) _
                rw [HAC.out, HST.out]
                exact ⟨_, _, f1.set 0 _, f5.set hWl _, by rw [List.map_append, HPS.out]; rfl, HRW.out.pk.keepB (f3.trans (KeepB.set _)) hcl hcne, HRW.out.kp.trans (KeepP.ofB (f3.trans (KeepB.set _)))⟩
              · go_simp
                obtain ⟨w5, hw5⟩ : ∃ w5, w5 = w4.alloc (.cells #[encStr q.1, .slice o4 zs.length k4] 48) := ⟨_, rfl⟩
                have HM5 := Lib.hid (show ListMid _ _ _ _ _ _ _ _ _ w5 by rw [hw5]; exact HM4.out.next ((Below.refl _ _).alloc (Nat.le_refl _) _))
                have HPN := Lib.hid (show ∀ (j : Nat) (u : Value), [encStr q.1, .slice o4 zs.length k4][j]? = some u → w5.cell? ((⟨w4.heap.size, 0, none⟩ : Addr).add j) = some u by rw [hw5]; exact pair_new w4 _ _ _)
                rw [← hw5]
                have HW5 := Lib.hid hw5
                clear hw5
                refine hK.out _ _ (HM5.out.fb.cell 0 rfl) (fun hHeld5 => ?_)
                clear hK K
                (try simp only [Act.put, List.setIfInBounds_toArray, List.set_cons_zero, List.set_cons_succ])
                refine wpAnyH_ready (rs := [0]) (by kernel_rfl) (by simp) ?_
                refine AllReadyH.cons rfl (fun K hK => ?_) AllReadyH.nil
                have cl := HM5.out.bx.cell 0 rfl
                go_simp
                refine hK.out _ _ (HM5.out.fb.cell 0 rfl) (fun hHeld2 => ?_)
                clear hK K cl
                (try simp only [Act.put, List.setIfInBounds_toArray, List.set_cons_zero, List.set_cons_succ])
                refine wpAnyH_ready (rs := [6]) (by kernel_rfl) (by simp) ?_
                refine AllReadyH.cons rfl (fun K hK => ?_) AllReadyH.nil
                refine step_append_own rfl _ _ 22 rfl _ 48 i0 (.agg #[.string ⟨#[]⟩, .slice none 0 0]) 2 40 Try.underlying22 hi hz0 hz1 hz2' rfl (by decide) _ _ _ rfl HM5.out.o.row ⟨w4.heap.size, 0, none⟩ 1 1 [encStr q.1, .slice o4 zs.length k4] rfl rfl HPN.out (by simp [Value.oneCell', encStr]) (by unfold maxLen; omega) (by omega) HM5.out.size ?_
                intro v6 w6 hown6 hg6 _
                obtain ⟨a6, k6, rfl⟩ := own_slice hown6
                rw [HW5.out] at hg6
                have HF := Lib.hid (HM4.out.snoc (p := (⟨q.1, zs⟩, .slice o4 zs.length k4)) hWl hfl hown6 hg6 HBR4.out HSP4.out HNL.out)
                clear hown6 hg6
                refine hK.out _ _ (HF.out.1.2.cell 0 rfl) (fun hHeld6 => ?_)
                clear hK K
                (try simp only [Act.put, List.setIfInBounds_toArray, List.set_cons_zero, List.set_cons_succ])
                refine wpAnyH_ready (rs := [7]) (by kernel_rfl) (by simp) ?_
                refine AllReadyH.cons rfl (fun K hK => ?_) AllReadyH.nil
                have cl := HF.out.1.1.cell 0 rfl
                have fl := HF.out.1.1.free 0
                go_simp
                refine hK.out _ _ ((HF.out.1.2.other (by exact hfne) _).cell 0 rfl) (fun hHeld7 => ?_)
                clear hK K cl fl
                (try simp only [Act.put, List.setIfInBounds_toArray, List.set_cons_zero, List.set_cons_succ])
                refine wpAnyH_done (by kernel_rfl) ?_ _
                obtain ⟨⟨f1, f2⟩, f3, f4, f5, f6⟩ := HF.out
                refine ⟨f6.trans (KeepsOthers.setCell _ _ _), f4.trans (KeepD.set f1 rfl _), ?_⟩
                show CrI _ _ _ _ _ (crashOf s ((pre ++ [x]).map fun i => left[i]) pk.tail) _
                rw [HAC.out, HST.out]
                exact ⟨_, _, f1.set 0 _, f5.set hWl _, by rw [List.map_append, HPS.out]; rfl, HRW.out.pk.keepB (f3.trans (KeepB.set _)) hcl hcne, HRW.out.kp.trans (KeepP.ofB (f3.trans (KeepB.set _)))⟩
          · rename_i hev
            --<B
            have HEV := Lib.hid (show ¬ p1 % 2 = 1 from by simpa using hev)
            clear hev tf
            have HRW := HR15
            obtain ⟨oc1, capc1, hcb1, _⟩ := HPKB.out
            have HRD := Lib.hid (fun W' (hk : KeepB w6.heap.size w4.heap.size _ W') => show Rd W' .u8 (.slice o2 ys.length k2) ys from (HBS.out.moveU (HRW.out.u8 HBL6.out hcb1 hk)).rd)
            have HST := Lib.hid (show crashStep s acc q = (acc.1 ++ [⟨q.1, ys⟩], acc.2.tail) from by rw [crashStep, if_neg (by rw [← HXS.out.1, ← HXS.out.2]; exact HXE.out), ← HP1.out, pickB, if_neg HEV.out, ← HXS.out.2])
            have hl4 : ys.length ≤ 4194304 := by exact hyl
            have HM := Lib.hid HRW.out.mid
            obtain ⟨i0, hi, hz0, hz1, hz2'⟩ := info_parts info_file
            obtain ⟨av, kv, rfl⟩ := own_slice HRW.out.o.row
            clear hcb1
            refine wpIn_region_heldR (S := fun w' => w'.cell? ⟨q.2, 0, none⟩ = some (.slice o1 xs.length k1)) (by kernel_rfl) (by kernel_rfl) (fun h => by obtain ⟨a, w, h⟩ := h; exact h) (HM.out.fb.cell 0 rfl) (fun hHeld => ?_)
            refine wpAnyH_take (i := 1) (v := ?_) rfl (by kernel_rfl) (by kernel_rfl) (by kernel_rfl) (fun _ _ _ h => h) (Or.inl ⟨by rfl, ?_⟩) (by assumption) ?_
            rotate_left
            · (intro w hSw; (try dsimp only at hSw); go_simp; (try with_reducible rfl))
            (try simp only [Act.put, List.setIfInBounds_toArray, List.set_cons_zero, List.set_cons_succ])
            refine wpAnyH_take (i := 2) (v := ?_) rfl (by kernel_rfl) (by kernel_rfl) (by kernel_rfl) (fun _ _ _ h => h) (Or.inl ⟨by rfl, ?_⟩) (by assumption) ?_
            rotate_left
            · (intro w hSw; (try dsimp only at hSw); go_simp; (try with_reducible rfl))
            (try simp only [Act.put, List.setIfInBounds_toArray, List.set_cons_zero, List.set_cons_succ])
            refine wpAnyH_ready (rs := [0, 3]) (by kernel_rfl) (by simp) ?_
            refine AllReadyH.cons rfl (fun K hK => ?_) (AllReadyH.cons rfl (fun K hK => ?_) AllReadyH.nil)
            · have cl := HM.out.bx.cell 0 rfl
              go_simp
              refine hK.out _ _ (HM.out.fb.cell 0 rfl) (fun hHeld0 => ?_)
              clear hK K cl
              (try simp only [Act.put, List.setIfInBounds_toArray, List.set_cons_zero, List.set_cons_succ])
              refine wpAnyH_ready (rs := [3]) (by kernel_rfl) (by simp) ?_
              refine AllReadyH.cons rfl (fun K hK => ?_) AllReadyH.nil
              go_simp
              go_at_call 32
              refine (clone_own _ ys _ (HRD.out _ HM.out.kb) hl4).mono ?_
              rintro e w4 ⟨v4, rfl, hbr, hb4⟩
              obtain ⟨o4, k4, rfl⟩ := rd_slice hbr.rd
              have HM4 := Lib.hid (HM.out.next hb4)
              have HBR4 := Lib.hid (hbr.mono HM.out.size); have HSP4 := Lib.hid (HM.out.o.fresh hbr (Nat.le_refl _))
              clear hbr hb4
              go_wp2_with fail
              refine hK.out _ _ (HM4.out.fb.cell 0 rfl) (fun hHeld4 => ?_)
              clear hK K
              (try simp only [Act.put, List.setIfInBounds_toArray, List.set_cons_zero, List.set_cons_succ])
              refine wpAnyH_take (i := 4) (v := ?_) rfl (by kernel_rfl) (by kernel_rfl) (by kernel_rfl) (fun _ _ _ h => h) (Or.inl ⟨by rfl, ?_⟩) (by assumption) ?_
              rotate_left
              · (intro w hSw; (try dsimp only at hSw); go_simp; (try with_reducible rfl))
              (try simp only [Act.put, List.setIfInBounds_toArray, List.set_cons_zero, List.set_cons_succ])
              refine wpAnyH_ready (rs := [5]) (by kernel_rfl) (by simp) ?_
              refine AllReadyH.cons rfl (fun K hK => ?_) AllReadyH.nil
              go_simp
              obtain ⟨w5, hw5⟩ : ∃ w5, w5 = w4.alloc (.cells #[encStr q.1, .slice o4 ys.length k4] 48) := ⟨_, rfl⟩
              have HM5 := Lib.hid (show ListMid _ _ _ _ _ _ _ _ _ w5 by rw [hw5]; exact HM4.out.next ((Below.refl _ _).alloc (Nat.le_refl _) _))
              have HPN := Lib.hid (show ∀ (j : Nat) (u : Value), [encStr q.1, .slice o4 ys.length k4][j]? = some u → w5.cell? ((⟨w4.heap.size, 0, none⟩ : Addr).add j) = some u by rw [hw5]; exact pair_new w4 _ _ _)
              rw [← hw5]
              have HW5 := Lib.hid hw5
              clear hw5
              refine hK.out _ _ (HM5.out.fb.cell 0 rfl) (fun hHeld5 => ?_)
              clear hK K
              (try simp only [Act.put, List.setIfInBounds_toArray, List.set_cons_zero, List.set_cons_succ])
              refine wpAnyH_ready (rs := [6]) (by kernel_rfl) (by simp) ?_
              refine AllReadyH.cons rfl (fun K hK => ?_) AllReadyH.nil
              refine step_append_own rfl _ _ 22 rfl _ 48 i0 (.agg #[.string ⟨#[]⟩, .slice none 0 0]) 2 40 Try.underlying22 hi hz0 hz1 hz2' rfl (by decide) _ _ _ rfl HM5.out.o.row ⟨w4.heap.size, 0, none⟩ 1 1 [encStr q.1, .slice o4 ys.length k4] rfl rfl HPN.out (by simp [Value.oneCell', encStr]) (by unfold maxLen; omega) (by omega) HM5.out.size ?_
              intro v6 w6 hown6 hg6 _
              obtain ⟨a6, k6, rfl⟩ := own_slice hown6
              rw [HW5.out] at hg6
              have HF := Lib.hid (HM4.out.snoc (p := (⟨q.1, ys⟩, .slice o4 ys.length k4)) hWl hfl hown6 hg6 HBR4.out HSP4.out HNL.out)
              clear hown6 hg6
              refine hK.out _ _ (HF.out.1.2.cell 0 rfl) (fun hHeld6 => ?_)
              clear hK K
              (try simp only [Act.put, List.setIfInBounds_toArray, List.set_cons_zero, List.set_cons_succ])
              refine wpAnyH_ready (rs := [7]) (by kernel_rfl) (by simp) ?_
              refine AllReadyH.cons rfl (fun K hK => ?_) AllReadyH.nil
              have cl := HF.out.1.1.cell 0 rfl
              have fl := HF.out.1.1.free 0
              go_simp
              refine hK.out _ _ ((HF.out.1.2.other (by exact hfne) _).cell 0 rfl) (fun hHeld7 => ?_)
              clear hK K cl fl
              (try simp only [Act.put, List.setIfInBounds_toArray, List.set_cons_zero, List.set_cons_succ])
              refine wpAnyH_done (by kernel_rfl) ?_ _
              obtain ⟨⟨f1, f2⟩, f3, f4, f5, f6⟩ := HF.out
              refine ⟨f6.trans (KeepsOthers.setCell _ _ _), f4.trans (KeepD.set f1 rfl _), ?_⟩
              show CrI _ _ _ _ _ (crashOf s ((pre ++ [x]).map fun i => left[i]) pk.tail) _
              rw [HAC.out, HST.out]
              exact ⟨_, _, f1.set 0 _, f5.set hWl _, by rw [List.map_append, HPS.out]; rfl, HRW.out.pk.keepB (f3.trans (KeepB.set _)) hcl hcne, HRW.out.kp.trans (KeepP.ofB (f3.trans (KeepB.set _)))⟩
            · go_simp
              go_at_call 32
              refine (clone_own _ ys _ (HRD.out _ HM.out.kb) hl4).mono ?_
              rintro e w4 ⟨v4, rfl, hbr, hb4⟩
              obtain ⟨o4, k4, rfl⟩ := rd_slice hbr.rd
              have HM4 := Lib.hid (HM.out.next hb4)
              have HBR4 := Lib.hid (hbr.mono HM.out.size); have HSP4 := Lib.hid (HM.out.o.fresh hbr (Nat.le_refl _))
              clear hbr hb4
              go_wp2_with fail
              refine hK.out _ _ (HM4.out.fb.cell 0 rfl) (fun hHeld4 => ?_)
              clear hK K
              (try simp only [Act.put, List.setIfInBounds_toArray, List.set_cons_zero, List.set_cons_succ])
              refine wpAnyH_take (i := 4) (v := ?_) rfl (by kernel_rfl) (by kernel_rfl) (by kernel_rfl) (fun _ _ _ h => h) (Or.inl ⟨by rfl, ?_⟩) (by assumption) ?_
              rotate_left
              · (intro w hSw; (try dsimp only at hSw); go_simp; (try with_reducible rfl))
              (try simp only [Act.put, List.setIfInBounds_toArray, List.set_cons_zero, List.set_cons_succ])
              refine wpAnyH_ready (rs := [0, 5]) (by kernel_rfl) (by simp) ?_
              refine AllReadyH.cons rfl (fun K hK => ?_) (AllReadyH.cons rfl (fun K hK => ?_) AllReadyH.nil)
              · have cl := HM4.out.bx.cell 0 rfl
                go_simp
                refine hK.out _ _ (HM4.out.fb.cell 0 rfl) (fun hHeld1 => ?_)
                clear hK K cl
                (try simp only [Act.put, List.setIfInBounds_toArray, List.set_cons_zero, List.set_cons_succ])
                refine wpAnyH_ready (rs := [5]) (by kernel_rfl) (by simp) ?_
                refine AllReadyH.cons rfl (fun K hK => ?_) AllReadyH.nil
                go_simp
                obtain ⟨w5, hw5⟩ : ∃ w5, w5 = w4.alloc (.cells #[encStr q.1, .slice o4 ys.length k4] 48) := ⟨_, rfl⟩
                have HM5 := Lib.hid (show ListMid _ _ _ _ _ _ _ _ _ w5 by rw [hw5]; exact HM4.out.next ((Below.refl _ _).alloc (Nat.le_refl _) _))
                have HPN := Lib.hid (show ∀ (j : Nat) (u : Value), [encStr q.1, .slice o4 ys.length k4][j]? = some u → w5.cell? ((⟨w4.heap.size, 0, none⟩ : Addr).add j) = some u by rw [hw5]; exact pair_new w4 _ _ _)
                rw [← hw5]
                have HW5 := Lib.hid hw5
                clear hw5
                refine hK.out _ _ (HM5.out.fb.cell 0 rfl) (fun hHeld5 => ?_)
                clear hK K
                (try simp only [Act.put, List.setIfInBounds_toArray, List.set_cons_zero, List.set_cons_succ])
                refine wpAnyH_ready (rs := [6]) (by kernel_rfl) (by simp) ?_
                refine AllReadyH.cons rfl (fun K hK => ?_) AllReadyH.nil
                refine step_append_own rfl _ _ 22 rfl _ 48 i0 (.agg #[.string ⟨#[]⟩, .slice none 0 0]) 2 40 Try.underlying22 hi hz0 hz1 hz2' rfl (by decide) _ _ _ rfl HM5.out.o.row ⟨w4.heap.size, 0, none⟩ 1 1 [encStr q.1, .slice o4 ys.length k4] rfl rfl HPN.out (by simp [Value.oneCell', encStr]) (by unfold maxLen; omega) (by omega) HM5.out.size ?_
                intro v6 w6 hown6 hg6 _
                obtain ⟨a6, k6, rfl⟩ := own_slice hown6
                rw [HW5.out] at hg6
                have HF := Lib.hid (HM4.out.snoc (p := (⟨q.1, ys⟩, .slice o4 ys.length k4)) hWl hfl hown6 hg6 HBR4.out HSP4.out HNL.out)
                clear hown6 hg6
                refine hK.out _ _ (HF.out.1.2.cell 0 rfl) (fun hHeld6 => ?_)
                clear hK K
                (try simp only [Act.put, List.setIfInBounds_toArray, List.set_cons_zero, List.set_cons_succ])
                refine wpAnyH_ready (rs := [7]) (by kernel_rfl) (by simp) ?_
                refine AllReadyH.cons rfl (fun K hK => ?_) AllReadyH.nil
                have cl := HF.out.1.1.cell 0 rfl
                have fl := HF.out.1.1.free 0
                go_simp
                refine hK.out _ _ ((HF.out.1.2.other (by exact hfne) _).cell 0 rfl) (fun hHeld7 => ?_)
                clear hK K cl fl
                (try simp only [Act.put, List.setIfInBounds_toArray, List.set_cons_zero, List.set_cons_succ])
                refine wpAnyH_done (by kernel_rfl) ?_ _
                obtain ⟨⟨f1, f2⟩, f3, f4, f5, f6⟩ := HF.out
                refine ⟨f6.trans (KeepsOthers.setCell _ _ _), f4.trans (KeepD.set f1 rfl _), ?_⟩
                show CrI _ _ _ _ _ (crashOf s ((pre ++ [x]).map fun i => left[i]) pk.tail) _
                rw [HAC.out, HST.out]
                exact ⟨_, _, f1.set 0 _, f5.set hWl _, by rw [List.map_append, HPS.out]; rfl, HRW.out.pk.keepB (f3.trans (KeepB.set _)) hcl hcne, HRW.out.kp.trans (KeepP.ofB (f3.trans (KeepB.set _)))⟩
              · go_simp
                obtain ⟨w5, hw5⟩ : ∃ w5, w5 = w4.alloc (.cells #[encStr q.1, .slice o4 ys.length k4] 48) := ⟨_, rfl⟩
                have HM5 := Lib.hid (show ListMid _ _ _ _ _ _ _ _ _ w5 by rw [hw5]; exact HM4.out.next ((Below.refl _ _).alloc (Nat.le_refl _) _))
                have HPN := Lib.hid (show ∀ (j : Nat) (u : Value), [encStr q.1, .slice o4 ys.length k4][j]? = some u → w5.cell? ((⟨w4.heap.size, 0, none⟩ : Addr).add j) = some u by rw [hw5]; exact pair_new w4 _ _ _)
                rw [← hw5]
                have HW5 := Lib.hid hw5
                clear hw5
                refine hK.out _ _ (HM5.out.fb.cell 0 rfl) (fun hHeld5 => ?_)
                clear hK K
                (try simp only [Act.put, List.setIfInBounds_toArray, List.set_cons_zero, List.set_cons_succ])
                refine wpAnyH_ready (rs := [0]) (by kernel_rfl) (by simp) ?_
                refine AllReadyH.cons rfl (fun K hK => ?_) AllReadyH.nil
                have cl := HM5.out.bx.cell 0 rfl
                go_simp
                refine hK.out _ _ (HM5.out.fb.cell 0 rfl) (fun hHeld2 => ?_)
                clear hK K cl
                (try simp only [Act.put, List.setIfInBounds_toArray, List.set_cons_zero, List.set_cons_succ])
                refine wpAnyH_ready (rs := [6]) (by kernel_rfl) (by simp) ?_
                refine AllReadyH.cons rfl (fun K hK => ?_) AllReadyH.nil
                refine step_append_own rfl _ _ 22 rfl _ 48 i0 (.agg #[.string ⟨#[]⟩, .slice none 0 0]) 2 40 Try.underlying22 hi hz0 hz1 hz2' rfl (by decide) _ _ _ rfl HM5.out.o.row ⟨w4.heap.size, 0, none⟩ 1 1 [encStr q.1, .slice o4 ys.length k4] rfl rfl HPN.out (by simp [Value.oneCell', encStr]) (by unfold maxLen; omega) (by omega) HM5.out.size ?_
                intro v6 w6 hown6 hg6 _
                obtain ⟨a6, k6, rfl⟩ := own_slice hown6
                rw [HW5.out] at hg6
                have HF := Lib.hid (HM4.out.snoc (p := (⟨q.1, ys⟩, .slice o4 ys.length k4)) hWl hfl hown6 hg6 HBR4.out HSP4.out HNL.out)
                clear hown6 hg6
                refine hK.out _ _ (HF.out.1.2.cell 0 rfl) (fun hHeld6 => ?_)
                clear hK K
                (try simp only [Act.put, List.setIfInBounds_toArray, List.set_cons_zero, List.set_cons_succ])
                refine wpAnyH_ready (rs := [7]) (by kernel_rfl) (by simp) ?_
                refine AllReadyH.cons rfl (fun K hK => ?_) AllReadyH.nil
                have cl := HF.out.1.1.cell 0 rfl
                have fl := HF.out.1.1.free 0
                go_simp
                refine hK.out _ _ ((HF.out.1.2.other (by exact hfne) _).cell 0 rfl) (fun hHeld7 => ?_)
                clear hK K cl fl
                (try simp only [Act.put, List.setIfInBounds_toArray, List.set_cons_zero, List.set_cons_succ])
                refine wpAnyH_done (by kernel_rfl) ?_ _
                obtain ⟨⟨f1, f2⟩, f3, f4, f5, f6⟩ := HF.out
                refine ⟨f6.trans (KeepsOthers.setCell _ _ _), f4.trans (KeepD.set f1 rfl _), ?_⟩
                show CrI _ _ _ _ _ (crashOf s ((pre ++ [x]).map fun i => left[i]) pk.tail) _
                rw [HAC.out, HST.out]
                exact ⟨_, _, f1.set 0 _, f5.set hWl _, by rw [List.map_append, HPS.out]; rfl, HRW.out.pk.keepB (f3.trans (KeepB.set _)) hcl hcne, HRW.out.kp.trans (KeepP.ofB (f3.trans (KeepB.set _)))⟩
            --B>
end Go.Proofs.Ytejmbhckfdfoeaa
