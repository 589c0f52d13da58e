/-
  THE REFERENCE'S List.
-/
import Derived.Test.YtejmbhckfdfoeaaEM11
import Derived.Test.YtejmbhckfdfoeaaEM07
import Derived.Test.YtejmbhckfdfoeaaEM08
import Derived.Test.YtejmbhckfdfoeaaEM13
set_option linter.unusedVariables false
set_option linter.unusedSimpArgs false
namespace Go.Proofs.Ytejmbhckfdfoeaa
open Go.RowKit Go.Maps
set_option maxRecDepth 100000 in
set_option maxHeartbeats 4000000 in
theorem rlistR_any {B : Nat} {w : World} {r : Nat} {vl vr : Value} {t : DSt} (h : RRepr B w r vl vr t) (hi : RInv t) (hd : t.dead = false) :
    Calls Try.prog 54 #[.pointer (some ⟨r, 0, none⟩)] w fun e w' => (∃ v ps, e = .returned (.tuple #[v, .int .i64 0]) ∧ FOwn w' w.heap.size v ps ∧ ps.map (·.1) = t.seen.map (fdOf t)) ∧ Below w.heap.size w w' := by
  have HR := Lib.hid h
  have HI := Lib.hid hi
  have c4 := h.box.cell 4 rfl
  rw [hd] at c4
  have c1 := h.box.cell 1 rfl
  obtain ⟨avr, kvr, hvr⟩ := own_slice h.row
  rw [hvr] at c1
  have hcl := hi.wf.chl
  obtain ⟨i0, hi0, hz0, hz1, hzz⟩ := info_parts info_file
  clear h hi hd hvr
  go_enter Try.func54, Try.ntmps54
  go_wp2_with fail
  clear c4 c1
  refine (rlist_any HR.out HI.out.wf t.chs.length (Nat.le_refl _)).mono ?_
  rintro e w2 ⟨⟨v2, rfl, ho2⟩, hb2⟩
  rw [show runC t.safe (t.chs.take t.chs.length) = t.seen from by rw [List.take_length]; exact HI.out.run.symm] at ho2
  obtain ⟨a2, k2, rfl⟩ := own_slice ho2
  have hml : t.seen.length ≤ 16 := by have := (HI.out.wf.all _ (Nat.le_refl _)).2; rwa [List.take_length, ← HI.out.run] at this
  have HLN := Lib.hid (show ∀ p ∈ t.seen, p.1.length ≤ maxLen by have := HI.out.wf.lens (Nat.le_refl _); rwa [List.take_length, ← HI.out.run] at this)
  have HE := Lib.hid (ho2.rd HLN.out).cells
  have HB := Lib.hid hb2
  have HR2 := Lib.hid (HR.out.next hb2)
  have HID := Lib.hid (show ∀ p ∈ t.seen, p.2 ∈ t.ids from fun p hp => by
    have := (HI.out.wf.all t.chs.length (Nat.le_refl _)).1 p (by rw [List.take_length, ← HI.out.run]; exact hp)
    exact this.1)
  clear ho2 hb2
  go_wp2_with fail
  go_loopg [4, 6] t.seen.length (fun g v i wr => ∃ (k : Nat) (ps : List FP), g = t.seen.length - k ∧ k ≤ t.seen.length ∧ i = .int .i64 k ∧ FOwn wr w2.heap.size v ps ∧ ps.map (·.1) = (t.seen.take k).map (fdOf t) ∧ Below w2.heap.size w2 wr)
  case atStart => exact ⟨0, [], rfl, Nat.zero_le _, rfl, FOwn.nil _ _, rfl, Below.refl _ _⟩
  case round =>
    obtain ⟨k, ps, hg, hk, rfl, ho, hps, hB⟩ := hrel
    obtain ⟨w3, rfl⟩ : ∃ w3, w3 = wr := ⟨_, rfl⟩
    have HO := Lib.hid ho
    have HPS := Lib.hid hps
    have HB3 := Lib.hid hB
    obtain ⟨a0, cap0, rfl⟩ := own_slice ho.row
    have hpl : ps.length ≤ 16 := by have := congrArg List.length hps; simp at this; omega
    by_cases hlt : k < t.seen.length
    · obtain ⟨b, off, rfl, c0', c1'⟩ := HE.out.2.2.2 k hlt
      have c0 := (hB.cell (p := ⟨b, off + k * 2, none⟩) (cell_lt c0')).trans c0'
      have c1 := (hB.cell (p := ⟨b, off + k * 2 + 1, none⟩) (cell_lt c1')).trans c1'
      have hmem : enth t.seen k ∈ t.seen := by rw [enth_eq t.seen k hlt]; exact List.getElem_mem hlt
      have hnl := HLN.out _ hmem
      obtain ⟨va, vb, hfb, _, h2w, _⟩ := HR2.out.files _ (HID.out _ hmem)
      have h2 := h2w.moveU (KeepU.below hB)
      have HFD := Lib.hid (show (t.seen.take (k + 1)).map (fdOf t) = (t.seen.take k).map (fdOf t) ++ [fdOf t (enth t.seen k)] by rw [take_enth t.seen k hlt, List.map_append]; rfl)
      obtain ⟨q, hq⟩ : ∃ q, q = enth t.seen k := ⟨_, rfl⟩
      rw [← hq] at c0 c1 c0' c1' hnl hfb h2 HFD
      obtain ⟨nm, f⟩ := q
      simp only at c0 c1 c0' c1' hnl hfb h2
      obtain ⟨ob, kb, rfl⟩ := rd_slice h2.rd
      have hl := h2.len
      obtain ⟨xs, hxs⟩ : ∃ xs, xs = t.by_ f := ⟨_, rfl⟩
      rw [← hxs] at hfb h2 hl
      have HFD := Lib.hid (show (t.seen.take (k + 1)).map (fdOf t) = (t.seen.take k).map (fdOf t) ++ [⟨nm, xs⟩] by rw [HFD.out, hxs]; rfl)
      have HBR := Lib.hid h2
      have HFB := Lib.hid hfb
      have HNL := Lib.hid hnl
      simp only [ptrV] at c1 c1'
      have HC := Lib.hid (And.intro c0' c1')
      have HY := Lib.hid (show Below w2.heap.size w2 w3.drew from HB3.out.drew)
      have hsz := hB.size
      clear c0' c1' hmem hfb h2 h2w hxs hq ho hps hB hnl
      have HX := Lib.hid (show Below w3.heap.size w3 w3.drew from Below.drew (Below.refl _ _))
      go_wp2_with fail
      clear c0 c1
      go_region_held3 (fun w' => w'.cell? ⟨b, off + k * 2, none⟩ = some (encStr nm) ∧ w'.cell? ⟨b, off + k * 2 + 1, none⟩ = some (.pointer (some ⟨f, 0, none⟩)) ∧ w'.cell? ⟨f, 1, none⟩ = some (.slice ob xs.length kb))
        (first | exact ⟨(HY.out.cell (cell_lt HC.out.1)).trans HC.out.1, (HY.out.cell (cell_lt HC.out.2)).trans HC.out.2, (HFB.out.below HY.out HFB.out.lt).cell 1 rfl⟩ | exact ⟨((HY.out.alloc HY.out.size _).cell (cell_lt HC.out.1)).trans HC.out.1, ((HY.out.alloc HY.out.size _).cell (cell_lt HC.out.2)).trans HC.out.2, (HFB.out.below (HY.out.alloc HY.out.size _) HFB.out.lt).cell 1 rfl⟩)
        (first
        | (go_at_call 14; refine (copyBytes_any _ xs _ (HBR.out.moveU (KeepU.below HX.out)).rd (by omega)).mono ?_; rintro e w4 ⟨v4, rfl, hoy, hby⟩; obtain ⟨o4, k4, rfl⟩ := own_slice hoy; have HBY := Lib.hid ((BOwn.mk hoy hl).mono (Nat.le_trans hsz HX.out.size)); have HSP := Lib.hid (HO.out.fresh (BOwn.mk hoy hl) HX.out.size); have HX := Lib.hid (HX.out.trans (hby.mono HX.out.size)); have HY := Lib.hid (HY.out.trans (hby.mono HY.out.size)); have HO4 := Lib.hid (HO.out.next HX.out); clear hoy hby)
        | (refine step_append_own rfl _ _ 22 rfl w2.heap.size 48 i0 (.agg #[.string ⟨#[]⟩, .slice none 0 0]) 2 40 Try.underlying22 hi0 hz0 hz1 hzz rfl (by decide) _ _ _ rfl (own_below HO4.out.row ((Below.refl _ _).alloc (Nat.le_refl _) _) (Nat.le_refl _)) ⟨w4.heap.size, 0, none⟩ 1 1 [encStr nm, .slice o4 xs.length k4] rfl rfl (pair_new _ _ _ _) (by simp [Value.oneCell', encStr]) (by unfold maxLen; omega) (by omega) (by have := HX.out.size; simp; omega) ?_; intro v6 w6 hown6 hg6 _; obtain ⟨a6, k6, rfl⟩ := own_slice hown6; have HF := Lib.hid (HO4.out.snoc (p := (⟨nm, xs⟩, .slice o4 xs.length k4)) hown6 hg6 HBY.out HSP.out HNL.out); have HY := Lib.hid ((HY.out.alloc HY.out.size _).grown hg6 (by have := HY.out.size; simp; omega) (fun k' e => (HO4.out.row.lt k' e).1)); clear hown6 hg6))
      go_wp2_with fail
      go_roundg (t.seen.length - (k + 1))
      case measure => omega
      case rel => exact ⟨k + 1, _, rfl, hlt, by go_num, HF.out, by rw [HFD.out, List.map_append, HPS.out]; rfl, HY.out⟩
    · have hke : k = t.seen.length := by omega
      subst hke
      rw [List.take_length] at HPS
      clear ho hps hB
      go_wp2_with fail
      go_ret2
      exact ⟨⟨_, ps, rfl, HO.out.mono HB.out.size, HPS.out⟩, HB.out.trans (HB3.out.mono HB.out.size)⟩
end Go.Proofs.Ytejmbhckfdfoeaa
/-
  THE REFERENCE'S Crash.
-/
set_option linter.unusedVariables false
set_option linter.unusedSimpArgs false
namespace Go.Proofs.Ytejmbhckfdfoeaa
open Go.RowKit Go.Maps
theorem drop_headD (pk : List Int) (n : Nat) : (pk.drop n).headD 0 = if n < pk.length then nth pk n else 0 := by
  by_cases h : n < pk.length
  · rw [if_pos h, List.drop_eq_getElem_cons h, List.headD_cons, nth_eq pk n h]
  · rw [if_neg h, List.drop_of_length_le (by omega)]; rfl
theorem crash_take (t : DSt) (left : NM) (pk : List Int) (k : Nat) (hk : k < left.length) : crashOf t (left.take (k + 1)) pk = crashStep t (crashOf t (left.take k) pk) (enth left k) := by
  rw [take_enth left k hk, crashOf_snoc]
set_option maxRecDepth 100000 in
set_option maxHeartbeats 8000000 in
theorem rcrash_any {B : Nat} {w : World} {r : Nat} {vl vr : Value} {t : DSt} (h : RRepr B w r vl vr t) (hi : RInv t) (op : Option Addr) (cp : Nat) (pk : List Int) (hp : Rd w .i64 (.slice op pk.length cp) pk) (hpl : pk.length ≤ 1000000) :
    Calls Try.prog 55 #[.pointer (some ⟨r, 0, none⟩), .slice op pk.length cp] w fun e w' => (∃ v ps, e = .returned v ∧ FOwn w' w.heap.size v ps ∧ ps.map (·.1) = crashR t pk) ∧ Below w.heap.size w w' := by
  have HR := Lib.hid h
  have HI := Lib.hid hi
  have HP := Lib.hid hp
  have c1 := h.box.cell 1 rfl
  obtain ⟨avr, kvr, hvr⟩ := own_slice h.row
  rw [hvr] at c1
  have hcl := hi.wf.chl
  obtain ⟨i0, hi0, hz0, hz1, hzz⟩ := info_parts info_file
  clear h hi hvr hp
  go_enter Try.func55, Try.ntmps55
  go_upto_if 15 with fail
  go_cut [5, 6] (fun nx n wx => n = .int .i64 (crashN t pk) ∧ (∃ k : Nat, nx = .int .i64 k ∧ k ≤ 1 ∧ pk.tail = pk.drop k) ∧ Same w wx)
  case first =>
    by_cases h0 : 0 < pk.length
    · have e0 : decide ((0 : Int) < pk.length) = true := decide_eq_true (by omega)
      obtain ⟨p0, rest, rfl⟩ : ∃ p0 rest, pk = p0 :: rest := by cases pk with | nil => simp at h0 | cons a b => exact ⟨a, b, rfl⟩
      obtain ⟨b, off, hopp, d0⟩ := HP.out.cell 0 h0
      subst hopp
      rw [show nth (p0 :: rest) 0 = p0 from by rw [nth_eq _ 0 h0]; rfl, Nat.add_zero] at d0
      have ew : IntKind.i64.wrap ((t.chs.length : Int) + 1) = (t.chs.length : Int) + 1 := by rw [IntWalk.i64_in _ (by omega)]
      have hlen : (p0 :: rest).length = rest.length + 1 := rfl
      generalize hpl2 : (p0 :: rest).length = n0 at *
      go_wp2_with fail
      go_quiet ((go_at_call 64; exact Calls.quiet_of_same ((rmod_any p0 ((t.chs.length : Int) + 1) ⟨by omega, by omega⟩ _).mono fun e w' ⟨he, hw⟩ => ⟨he, hw.symm⟩)))
      all_goals (go_wp2_with fail; go_meet)
      case rel =>
        have hnn := Int.emod_nonneg p0 (show ((t.chs.length : Int) + 1) ≠ 0 by omega)
        exact ⟨congrArg (Value.int .i64) (by rw [crashN, List.headD_cons, Int.toNat_of_nonneg hnn]), ⟨1, rfl, Nat.le_refl _, rfl⟩, ⟨_, rfl⟩⟩
    · have e0 : decide ((0 : Int) < pk.length) = false := decide_eq_false (by omega)
      have hnil : pk = [] := List.eq_nil_of_length_eq_zero (by omega)
      go_wp2_with fail
      go_meet
      case rel => exact ⟨by rw [hnil]; simp [crashN], ⟨0, rfl, Nat.zero_le _, by rw [hnil]; rfl⟩, Same.refl _⟩
  case rest =>
    obtain ⟨rfl, ⟨nx0, rfl, hnx0, htl⟩, hsm⟩ := hcut
    obtain ⟨w1, rfl⟩ : ∃ w1, w1 = wc := ⟨_, rfl⟩
    have hb1 : Below w.heap.size w w1 := hsm.below _
    have HR1 := Lib.hid (HR.out.next hb1)
    have HP1 := Lib.hid (HP.out.below hb1 (Nat.le_refl _))
    have HB1 := Lib.hid hb1
    have HTL := Lib.hid htl
    obtain ⟨n, hn⟩ : ∃ n, n = crashN t pk := ⟨_, rfl⟩
    have hnl : n ≤ t.chs.length := by rw [hn]; exact crashN_le t pk
    rw [← hn]
    have HN := Lib.hid hn
    clear hsm hb1 htl hn c1 HR HP
    go_wp2_with fail
    refine (rlist_any HR1.out HI.out.wf n hnl).mono ?_
    rintro e w2 ⟨⟨v2, rfl, ho2⟩, hb2⟩
    obtain ⟨left, hleft⟩ : ∃ left, left = runC t.safe (t.chs.take n) := ⟨_, rfl⟩
    rw [← hleft] at ho2
    have HLF := Lib.hid (show left = crashLeft t pk from by rw [hleft, crashLeft, HN.out])
    obtain ⟨a2, k2, rfl⟩ := own_slice ho2
    have hml : left.length ≤ 16 := by rw [hleft]; exact (HI.out.wf.all _ hnl).2
    have HLN := Lib.hid (show ∀ p ∈ left, p.1.length ≤ maxLen by rw [hleft]; exact HI.out.wf.lens hnl)
    have HE := Lib.hid (ho2.rd HLN.out).cells
    have HB := Lib.hid (HB1.out.trans (hb2.mono HB1.out.size))
    have HR2 := Lib.hid (HR1.out.next hb2)
    have HP2 := Lib.hid (HP1.out.below hb2 (Nat.le_refl _))
    have HID := Lib.hid (show ∀ p ∈ left, p.2 ∈ t.ids from fun p hp => ((HI.out.wf.all n hnl).1 p (by rw [← hleft]; exact hp)).1)
    clear ho2 hb2 hleft HR1 HP1
    go_wp2_with fail
    go_loopg [5, 7, 9] left.length (fun g x v i wr => ∃ (k nx : Nat) (ps : List FP), g = left.length - k ∧ k ≤ left.length ∧ i = .int .i64 k ∧ x = .int .i64 nx ∧ nx ≤ k + 1 ∧ FOwn wr w2.heap.size v ps ∧ ps.map (·.1) = (crashOf t (left.take k) pk.tail).1 ∧ (crashOf t (left.take k) pk.tail).2 = pk.drop nx ∧ Below w2.heap.size w2 wr)
    case atStart => exact ⟨0, nx0, [], rfl, Nat.zero_le _, rfl, rfl, by omega, FOwn.nil _ _, rfl, HTL.out, Below.refl _ _⟩
    case round =>
      obtain ⟨k, nx, ps, hg, hk, rfl, rfl, hnx, ho, hps, hac, hB⟩ := hrel
      obtain ⟨w3, rfl⟩ : ∃ w3, w3 = wr := ⟨_, rfl⟩
      have HO := Lib.hid ho
      have HPS := Lib.hid hps
      have HAC := Lib.hid hac
      have HB3 := Lib.hid hB
      obtain ⟨a0, cap0, rfl⟩ := own_slice ho.row
      have hpl2 : ps.length ≤ 16 := by have := congrArg List.length hps; rw [List.length_map, crashOf_len] at this; simp at this; omega
      by_cases hlt : k < left.length
      · obtain ⟨b, off, rfl, c0', c1'⟩ := HE.out.2.2.2 k hlt
        have c0 := (hB.cell (p := ⟨b, off + k * 2, none⟩) (cell_lt c0')).trans c0'
        have c1 := (hB.cell (p := ⟨b, off + k * 2 + 1, none⟩) (cell_lt c1')).trans c1'
        have hmem : enth left k ∈ left := by rw [enth_eq left k hlt]; exact List.getElem_mem hlt
        have hnl' := HLN.out _ hmem
        obtain ⟨va, vb, hfb, h1w, h2w, _⟩ := HR2.out.files _ (HID.out _ hmem)
        have h1 := h1w.moveU (KeepU.below hB)
        have h2 := h2w.moveU (KeepU.below hB)
        have HST := Lib.hid (crash_take t left pk.tail k hlt)
        obtain ⟨q, hq⟩ : ∃ q, q = enth left k := ⟨_, rfl⟩
        rw [← hq] at c0 c1 c0' c1' hnl' hfb h1 h2 HST
        obtain ⟨nm, f⟩ := q
        simp only at c0 c1 c0' c1' hnl' hfb h1 h2
        obtain ⟨oa, ka, rfl⟩ := rd_slice h1.rd
        obtain ⟨ob, kb, rfl⟩ := rd_slice h2.rd
        have hla := h1.len
        have hlb := h2.len
        have hcb := h2.cap _ _ _ rfl
        obtain ⟨xs, hxs⟩ : ∃ xs, xs = t.by_ f := ⟨_, rfl⟩
        obtain ⟨ys, hys⟩ : ∃ ys, ys = t.sf f := ⟨_, rfl⟩
        rw [← hxs] at h2 hlb hcb
        rw [← hys] at h1 hla
        rw [← hxs, ← hys] at hfb
        have HXY := Lib.hid (And.intro hxs hys)
        have HS := Lib.hid h1
        have HV := Lib.hid h2
        have HFB := Lib.hid (hfb.next hB)
        have HNL := Lib.hid hnl'
        simp only [ptrV] at c1 c1'
        have HC := Lib.hid (And.intro c0' c1')
        have hsz := hB.size
        have f0 := HFB.out.cell 0 rfl
        have f1 := HFB.out.cell 1 rfl
        have HP3 := Lib.hid (HP2.out.below hB (Nat.le_refl _))
        clear c0' c1' hmem hfb h1 h2 h1w h2w hxs hys hq ho hps hB hnl' hac
        go_wp2_with fail
        go_cut [53] (fun v wx => v = .bool (!decide (ys = xs)) ∧ Same w3 wx)
        case first =>
          have HX := Lib.hid (show Same w3 w3.drew from ⟨1, rfl⟩)
          go_region_held3 (fun w' => w'.cell? ⟨f, 0, none⟩ = some (.slice oa ys.length ka) ∧ w'.cell? ⟨f, 1, none⟩ = some (.slice ob xs.length kb)) (exact ⟨(HFB.out.same HX.out).cell 0 rfl, (HFB.out.same HX.out).cell 1 rfl⟩)
            (first | (go_at_call 16; refine (eqBytes_any _ _ ys xs _ (HS.out.rd.same HX.out) (HV.out.rd.same HX.out) (by omega)).mono ?_; rintro e wy ⟨rfl, hby⟩; have HX := Lib.hid (HX.out.trans hby); clear hby))
          all_goals (go_wp2_with fail; go_meet; exact ⟨rfl, HX.out⟩)
        case rest =>
          obtain ⟨rfl, hsm⟩ := hcut
          obtain ⟨w4, rfl⟩ : ∃ w4, w4 = wc := ⟨_, rfl⟩
          have HSM := Lib.hid hsm
          have f0 := (HFB.out.same hsm).cell 0 rfl
          have f1 := (HFB.out.same hsm).cell 1 rfl
          have HP4 := Lib.hid (HP3.out.same hsm)
          have HS4 := Lib.hid (HS.out.moveU (KeepU.below (hsm.below _)))
          have HV4 := Lib.hid (HV.out.moveU (KeepU.below (hsm.below _)))
          clear hsm c0 c1
          go_upto_if 53 with fail
          go_cut [5, 11] (fun x v wx => ∃ (nx' : Nat) (o : Option Addr) (c : Nat) (zs : List Int), x = .int .i64 nx' ∧ v = .slice o zs.length c ∧ Rd wx .u8 (.slice o zs.length c) zs ∧ zs.length ≤ 4194304 ∧ nx' ≤ k + 2 ∧ crashStep t (crashOf t (left.take k) pk.tail) (nm, f) = ((crashOf t (left.take k) pk.tail).1 ++ [⟨nm, zs⟩], pk.drop nx') ∧ Same w3 wx)
          case first =>
            by_cases hxy : ys = xs
            · have d1 : decide (ys = xs) = true := decide_eq_true hxy
              rw [d1]
              clear d1
              go_wp2_with fail
              go_meet
              case rel => exact ⟨nx, oa, ka, ys, rfl, rfl, HS4.out.rd, hla, by omega, by rw [crashStep, if_pos (by rw [← HXY.out.1, ← HXY.out.2]; exact hxy.symm), HAC.out, ← HXY.out.2], HSM.out⟩
            · have d1 : decide (ys = xs) = false := decide_eq_false hxy
              have HNE := Lib.hid hxy
              rw [d1]
              clear d1 hxy
              obtain ⟨p1, hp1⟩ : ∃ p1, p1 = (pk.drop nx).headD 0 := ⟨_, rfl⟩
              have HP1 := Lib.hid hp1
              rw [drop_headD] at hp1
              go_upto_if 57 with fail
              go_cut [12] (fun v wx => v = .int .i64 p1 ∧ wx = w4)
              case first =>
                by_cases hn2 : nx < pk.length
                · have d2 : decide ((nx : Int) < pk.length) = true := decide_eq_true (by omega)
                  rw [if_pos hn2] at hp1
                  obtain ⟨bp, fp, rfl, dp⟩ := HP4.out.cell nx hn2
                  rw [← hp1] at dp
                  clear hp1
                  go_wp2_with fail
                  go_meet
                  case rel => exact ⟨rfl, rfl⟩
                · have d2 : decide ((nx : Int) < pk.length) = false := decide_eq_false (by omega)
                  rw [if_neg hn2] at hp1
                  subst hp1
                  go_wp2_with fail
                  go_meet
                  case rel => exact ⟨rfl, rfl⟩
              case rest =>
                obtain ⟨rfl, rfl⟩ := hcut
                clear hp1
                go_wp2_with (go_at_call 64; refine (rmod_any p1 2 ⟨by omega, by omega⟩ _).mono ?_; rintro e w' ⟨rfl, rfl⟩)
                · rename_i hodd
                  have HOD := Lib.hid (show p1 % 2 = 1 from by simpa using hodd)
                  clear hodd
                  obtain ⟨m, hm⟩ : ∃ m : Nat, (m : Int) = (p1 / 2) % ((xs.length : Int) + 1) := ⟨((p1 / 2) % ((xs.length : Int) + 1)).toNat, Int.toNat_of_nonneg (Int.emod_nonneg _ (by omega))⟩
                  have hmx : m ≤ xs.length := by have := Int.emod_lt_of_pos (p1 / 2) (show 0 < (xs.length : Int) + 1 by omega); omega
                  have hm1 : (0 : Int) ≤ m := by omega
                  have hm2 : (m : Int) ≤ kb := by omega
                  have hm3 : (kb : Int) ≤ 9223372036854775807 := by omega
                  have HMM := Lib.hid hm
                  have ew2 : IntKind.i64.wrap ((xs.length : Int) + 1) = (xs.length : Int) + 1 := by rw [IntWalk.i64_in _ (by omega)]
                  clear hm
                  go_quiet ((go_at_call 64; exact Calls.quiet_of_same ((rmod_any (p1 / 2) ((xs.length : Int) + 1) ⟨by omega, by omega⟩ _).mono fun e w' ⟨he, hw⟩ => ⟨by rw [he, ← HMM.out], hw.symm⟩)))
                  all_goals (go_wp2_with fail; go_meet)
                  case rel =>
                    have hzl : m = (xs.take m).length := by simp; omega
                    have hsm2 : Same wc (wc.drewN nq) := ⟨_, rfl⟩
                    refine ⟨nx + 1, ob, kb, xs.take m, by go_num, by rw [← hzl], (HV4.out.part m hmx).same hsm2, by rw [← hzl]; omega, by omega, ?_, HSM.out.trans hsm2⟩
                    rw [crashStep, if_neg (by rw [← HXY.out.1, ← HXY.out.2]; exact fun e => HNE.out e.symm), HAC.out, ← HP1.out, pickB, if_pos HOD.out, ← HXY.out.1, ← HMM.out, Int.toNat_natCast, List.tail_drop]
                · rename_i hodd
                  have HOD := Lib.hid (show ¬ p1 % 2 = 1 from by simpa using hodd)
                  clear hodd
                  go_meet
                  case rel =>
                    refine ⟨nx + 1, oa, ka, ys, by go_num, rfl, HS4.out.rd, hla, by omega, ?_, HSM.out⟩
                    rw [crashStep, if_neg (by rw [← HXY.out.1, ← HXY.out.2]; exact fun e => HNE.out e.symm), HAC.out, ← HP1.out, pickB, if_neg HOD.out, ← HXY.out.2, List.tail_drop]
          case rest =>
            obtain ⟨nx', ozs, czs, zs, rfl, rfl, hzr, hzl, hnx', hcs, hsm5⟩ := hcut
            obtain ⟨w5, rfl⟩ : ∃ w5, w5 = wc := ⟨_, rfl⟩
            rw [hcs] at HST
            have HZR := Lib.hid hzr
            have HO5 := Lib.hid (HO.out.next (hsm5.below _))
            have HY := Lib.hid (show Below w2.heap.size w2 w5.drew from (HB3.out.trans ((hsm5.below _).mono HB3.out.size)).drew)
            have hz5 : w2.heap.size ≤ w5.heap.size := (HB3.out.trans ((hsm5.below w3.heap.size).mono HB3.out.size)).size
            have HX := Lib.hid (show Below w5.heap.size w5 w5.drew from Below.drew (Below.refl _ _))
            have c0 := (HB3.out.trans ((hsm5.below _).mono HB3.out.size)).cell (p := ⟨b, off + k * 2, none⟩) (cell_lt HC.out.1)
            rw [HC.out.1] at c0
            clear hsm5 hzr hcs HS HV HFB HSM HP4 HS4 HV4 f0 f1
            go_wp2_with fail
            clear c0
            go_region_held3 (fun w' => w'.cell? ⟨b, off + k * 2, none⟩ = some (encStr nm))
              (first | exact (HY.out.cell (cell_lt HC.out.1)).trans HC.out.1 | exact ((HY.out.alloc HY.out.size _).cell (cell_lt HC.out.1)).trans HC.out.1)
              (first
              | (go_at_call 14; refine (copyBytes_any _ zs _ (HZR.out.below HX.out (Nat.le_refl _)) (by omega)).mono ?_; rintro e w6 ⟨v6, rfl, hoy, hby⟩; obtain ⟨o6, k6, rfl⟩ := own_slice hoy; have HBY := Lib.hid ((BOwn.mk hoy hzl).mono (Nat.le_trans hz5 HX.out.size)); have HSP := Lib.hid (HO5.out.fresh (BOwn.mk hoy hzl) HX.out.size); have HX := Lib.hid (HX.out.trans (hby.mono HX.out.size)); have HY := Lib.hid (HY.out.trans (hby.mono HY.out.size)); have HO6 := Lib.hid (HO5.out.next HX.out); clear hoy hby)
              | (refine step_append_own rfl _ _ 22 rfl w2.heap.size 48 i0 (.agg #[.string ⟨#[]⟩, .slice none 0 0]) 2 40 Try.underlying22 hi0 hz0 hz1 hzz rfl (by decide) _ _ _ rfl (own_below HO6.out.row ((Below.refl _ _).alloc (Nat.le_refl _) _) (Nat.le_refl _)) ⟨w6.heap.size, 0, none⟩ 1 1 [encStr nm, .slice o6 zs.length k6] rfl rfl (pair_new _ _ _ _) (by simp [Value.oneCell', encStr]) (by unfold maxLen; omega) (by omega) (by have := HX.out.size; simp; omega) ?_; intro v7 w7 hown7 hg7 _; obtain ⟨a7, k7, rfl⟩ := own_slice hown7; have HF := Lib.hid (HO6.out.snoc (p := (⟨nm, zs⟩, .slice o6 zs.length k6)) hown7 hg7 HBY.out HSP.out HNL.out); have HY := Lib.hid ((HY.out.alloc HY.out.size _).grown hg7 (by have := HY.out.size; simp; omega) (fun k' e => (HO6.out.row.lt k' e).1)); clear hown7 hg7))
            go_wp2_with fail
            go_roundg (left.length - (k + 1))
            case measure => omega
            case rel => exact ⟨k + 1, nx', _, rfl, hlt, by go_num, rfl, by omega, HF.out, by rw [List.map_append, HPS.out, HST.out]; rfl, by rw [HST.out], HY.out⟩
      · have hke : k = left.length := by omega
        subst hke
        rw [List.take_length] at HPS
        clear ho hps hB hac
        go_wp2_with fail
        go_ret
        exact ⟨⟨_, ps, rfl, HO.out.mono HB.out.size, by rw [HPS.out, HLF.out]; rfl⟩, HB.out.trans (HB3.out.mono HB.out.size)⟩
end Go.Proofs.Ytejmbhckfdfoeaa
