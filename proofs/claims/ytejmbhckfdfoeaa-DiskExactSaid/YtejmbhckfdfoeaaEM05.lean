/-
  THE REFERENCE'S `made`, walked.
-/
import Derived.Deep.DeepCutAuto
import Derived.Shelf.SlIter.Nil
import Derived.Shelf.SortM.Plain
import Derived.Shelf.SortM.SortNone
import Derived.Shelf.SlMaps.Clone
import Derived.Ground.GgzProg
import Derived.Ground.SlgmProg
import Derived.Ground.SlmcProg
import Derived.Test.YtejmbhckfdfoeaaEM04
import Derived.Test.YtejmbhckfdfoeaaRows
import Derived.Test.YtejmbhckfdfoeaaEM02
set_option linter.unusedVariables false
set_option linter.unusedSimpArgs false
namespace Go.Proofs.Ytejmbhckfdfoeaa
open Go.RowKit Go.Maps
theorem EntRd.names {w : World} {v : Value} {l : NM} (h : EntRd w v l) : ∀ p ∈ l, p.1.length ≤ maxLen := fun p hp => by
  obtain ⟨o, cap, _, _, _, hc⟩ := h
  obtain ⟨i, hi, rfl⟩ := List.mem_iff_getElem.1 hp
  obtain ⟨_, _, _, _, _, hn⟩ := hc i hi
  rwa [enth_eq l i hi] at hn
theorem EntRd.cells {w : World} {o : Option Addr} {n cap : Nat} {l : NM} (h : EntRd w (.slice o n cap) l) : n = l.length ∧ l.length ≤ cap ∧ cap ≤ 9223372036854775807 ∧ ∀ i, i < l.length → ∃ b off, o = some ⟨b, off, none⟩ ∧ w.cell? ⟨b, off + i * 2, none⟩ = some (encStr (enth l i).1) ∧ w.cell? ⟨b, off + i * 2 + 1, none⟩ = some (ptrV (some (enth l i).2)) := by
  obtain ⟨o', cap', he, h1, h2, hc⟩ := h
  simp at he
  obtain ⟨rfl, rfl, rfl⟩ := he
  exact ⟨rfl, h1, h2, fun i hi => let ⟨b, off, a, b', c, _⟩ := hc i hi; ⟨b, off, a, b', c⟩⟩
set_option maxRecDepth 100000 in
set_option maxHeartbeats 4000000 in
theorem made_any (v : Value) (l : NM) (x g : List UInt8) (fo : Option Nat) (w : World) (hr : EntRd w v l) (hl : l.length ≤ 100000) (hx : x.length ≤ maxLen) :
    Calls Try.prog 68 #[v, .agg #[encStr x, ptrV fo, encStr g]] w fun e w' => (∃ v', e = .returned v' ∧ EOwn w' w.heap.size v' (madeL l x fo g)) ∧ Below w.heap.size w w' := by
  obtain ⟨o, cap, rfl, _⟩ := id hr
  obtain ⟨i0, hi, hz0, hz1, hz2⟩ := info_parts info_entry
  have HR := Lib.hid hr
  have HNM := Lib.hid hr.names
  obtain ⟨W0, hW0⟩ : ∃ W0, W0 = w.alloc (.cells #[encStr x, ptrV fo, encStr g] 107) := ⟨_, rfl⟩
  have HBX := Lib.hid (show Box W0 w.heap.size 107 #[.string ⟨x.toArray⟩, ptrV fo, .string ⟨g.toArray⟩] by rw [hW0]; exact Box.new _ _ _)
  have HB0 := Lib.hid (show Below w.heap.size w W0 by rw [hW0]; exact (Below.refl _ _).alloc (Nat.le_refl _) _)
  have HW0 := Lib.hid hW0
  clear hr hW0
  go_enter Try.func68, Try.ntmps68
  go_wp2_with fail
  rw [← HW0.out]
  clear HW0
  have HX := Lib.hid (show Below W0.heap.size W0 W0.drew from Below.drew (Below.refl _ _))
  have tok1 : True := trivial
  go_region_held3 (fun w' => w'.cell? ⟨w.heap.size, 0, none⟩ = some (.string ⟨x.toArray⟩) ∧ w'.cell? ⟨w.heap.size, 2, none⟩ = some (.string ⟨g.toArray⟩)) (exact ⟨(HBX.out.next HX.out).cell 0 rfl, (HBX.out.next HX.out).cell 2 rfl⟩)
    (first
    | (go_at_call 72; have _t := tok1; refine (without_any _ l x _ (HR.out.below (HB0.out.trans (HX.out.mono HB0.out.size)) (Nat.le_refl _)) (by omega)).mono ?_; rintro e wa ⟨⟨va, rfl, hoa⟩, hba⟩; obtain ⟨oa, ka, rfl⟩ := own_slice hoa; have HOA := Lib.hid hoa; have hla := ldel_len l x; have HX := Lib.hid (HX.out.trans (hba.mono HX.out.size)); have hza := HX.out.size; clear hoa hba tok1)
    | (go_at_call 72; refine (without_any _ (ldel l x) g _ (HOA.out.rd (fun p hp => HNM.out p (ldel_mem hp))) (by omega)).mono ?_; rintro e wb ⟨⟨vb, rfl, hob⟩, hbb⟩; obtain ⟨ob, kb, rfl⟩ := own_slice hob; have HOB := Lib.hid hob; have hlb := ldel_len (ldel l x) g; have HX := Lib.hid (HX.out.trans (hbb.mono HX.out.size)); clear hob hbb))
  have HZA := Lib.hid (show w.heap.size ≤ wa.heap.size from Nat.le_trans HB0.out.size hza)
  have HL2 := Lib.hid (HOB.out.rd (fun p hp => HNM.out p (ldel_mem (ldel_mem hp))))
  have HBX2 := Lib.hid (HBX.out.next HX.out)
  have HB2 := Lib.hid (HB0.out.trans (HX.out.mono HB0.out.size))
  have hlz : (ldel (ldel l x) g).length ≤ 100000 := by omega
  have HNM2 := Lib.hid (show ∀ p ∈ ldel (ldel l x) g, p.1.length ≤ maxLen from fun p hp => HNM.out p (ldel_mem (ldel_mem hp)))
  have HML := Lib.hid (show madeL l x fo g = madeM (ldel (ldel l x) g) x fo from rfl)
  clear hla hlb HX HOA HBX HB0
  generalize ldel (ldel l x) g = m at HOB HL2 hlz HNM2 HML ⊢
  obtain ⟨w2, rfl⟩ : ∃ w2, w2 = wb := ⟨_, rfl⟩
  have b1 := HBX2.out.cell 1 rfl
  cases fo with
  | none =>
    simp only [ptrV] at b1
    go_wp2_with fail
    go_ret
    exact ⟨⟨_, rfl, by rw [HML.out]; exact own_mono HOB.out HZA.out⟩, HB2.out⟩
  | some f =>
    simp only [ptrV] at b1
    have HOB2 := HOB
    clear HOB
    go_wp2_with fail
    clear b1
    have HLE := Lib.hid HL2.out.cells
    go_loopg [5, 6] m.length (fun gg v i wr => ∃ k : Nat, gg = m.length - k ∧ k ≤ m.length ∧ i = .int .i64 k ∧ EOwn wr w2.heap.size v (m.take k) ∧ Below w2.heap.size w2 wr ∧ ∀ j, j < k → (enth m j).1 < x)
    case atStart => exact ⟨0, rfl, Nat.zero_le _, rfl, World.ownsRow_nil _ _ _ _, Below.refl _ _, fun j hj => by omega⟩
    case round =>
      obtain ⟨k, hg, hk, rfl, ho, hB, hlo⟩ := hrel
      obtain ⟨w3, rfl⟩ : ∃ w3, w3 = wr := ⟨_, rfl⟩
      have HB := Lib.hid hB
      have HLO := Lib.hid hlo
      obtain ⟨a0, cap0, rfl⟩ := own_slice ho
      have hkl : (m.take k).length = k := by simp; omega
      have HO := Lib.hid (show w3.ownsRow w2.heap.size 89 2 (.slice a0 k cap0) k (ecells (m.take k)) by have := ho; unfold EOwn at this; rw [hkl] at this; exact this)
      rw [hkl]
      have HKL := Lib.hid hkl
      have bx0 := (HBX2.out.next hB).cell 0 rfl
      have bx1 := (HBX2.out.next hB).cell 1 rfl
      simp only [ptrV] at bx1
      have hsz := hB.size
      clear ho hlo hkl
      have HEXIT := Lib.hid (fun (h : k < m.length → ¬ (enth m k).1 < x) => lins_at x f m k hk HLO.out h)
      by_cases hlt : k < m.length
      · obtain ⟨b, off, rfl, c0', c1'⟩ := HLE.out.2.2.2 k hlt
        have c0 := (hB.cell (p := ⟨b, off + k * 2, none⟩) (cell_lt c0')).trans c0'
        have c1 := (hB.cell (p := ⟨b, off + k * 2 + 1, none⟩) (cell_lt c1')).trans c1'
        have hnl := HNM2.out _ (by rw [enth_eq m k hlt]; exact List.getElem_mem hlt : enth m k ∈ m)
        obtain ⟨q, hq⟩ : ∃ q, q = enth m k := ⟨_, rfl⟩
        rw [← hq] at c0 c1 hnl
        obtain ⟨nm, fq⟩ := q
        simp only at c0 c1 hnl
        simp only [ptrV] at c1
        simp only [encStr] at c0
        have HQ := Lib.hid hq
        have HNL := Lib.hid hnl
        have ht1 := nm_toList nm
        have ht2 := nm_toList x
        clear c0' c1' hq hB hnl
        cases hbl : Op.bytesLess nm x with
        | true =>
          go_wp2_with fail
          go_cut [32] (fun v wx => v = .bool true ∧ Same w3 wx)
          case first =>
            go_quiet (fail)
            all_goals (go_wp2_with fail; go_meet; exact ⟨rfl, ⟨_, rfl⟩⟩)
          case rest =>
            obtain ⟨rfl, hs⟩ := hcut
            obtain ⟨w4, rfl⟩ : ∃ w4, w4 = wc := ⟨_, rfl⟩
            have HB4 := Lib.hid (HB.out.trans (hs.below _))
            have HO4 := Lib.hid (own_same HO.out hs)
            have hz4 := (hs.below 0).size
            have d0 := ((hs.below w3.heap.size).cell (p := ⟨b, off + k * 2, none⟩) (cell_lt c0)).trans c0
            have d1 := ((hs.below w3.heap.size).cell (p := ⟨b, off + k * 2 + 1, none⟩) (cell_lt c1)).trans c1
            have HBL := Lib.hid (show nm < x by rw [bytesLess_eq, decide_eq_true_eq] at hbl; exact hbl)
            clear hs c0 c1 bx0 bx1 hbl ht1 ht2
            go_wp2_with (at_builtin; refine stopHere ?_)
            refine goOn ?_
            refine wpList_append_ent rfl _ _ 81 rfl w2.heap.size i0 (.agg #[.string ⟨#[]⟩, .pointer none]) Try.underlying81 hi hz0 hz1 hz2 rfl _ (m.take k) rfl (show EOwn _ _ (.slice a0 k cap0) _ by unfold EOwn; rw [HKL.out]; exact own_below HO4.out ((Below.refl _ _).alloc (Nat.le_refl _) _) (Nat.le_refl _)) _ [(nm, fq)] rfl (EntRd.one HNL.out) (by have := HKL.out; simp; omega) (by simp; omega) ?_
            intro v' w5 hown' hgrow
            have HN := Lib.hid (show EOwn w5 w2.heap.size v' (m.take (k + 1)) by rw [take_enth m k hlt, ← HQ.out]; exact hown')
            have HBN := Lib.hid ((HB4.out.alloc (Nat.le_trans hsz hz4) _).grown hgrow (by simp; omega) (fun k' e => (HO4.out.lt k' e).1))
            clear hown' hgrow d0 d1
            go_wp2_with fail
            go_roundg (m.length - (k + 1))
            case measure => omega
            case rel =>
              refine ⟨k + 1, rfl, hlt, by go_num, HN.out, HBN.out, fun j hj => ?_⟩
              rcases Nat.lt_or_ge j k with h | h
              · exact HLO.out j h
              · have : j = k := by omega
                subst this
                rw [← HQ.out]; exact HBL.out
        | false =>
          have HBL := Lib.hid (show ¬ nm < x by rw [bytesLess_eq, decide_eq_false_iff_not] at hbl; exact hbl)
          go_wp2_with fail
          go_cut [32] (fun v wx => v = .bool false ∧ Same w3 wx)
          case first =>
            go_quiet (fail)
            all_goals (go_wp2_with fail; go_meet; exact ⟨rfl, ⟨_, rfl⟩⟩)
          case rest =>
            obtain ⟨rfl, hs⟩ := hcut
            obtain ⟨w4, rfl⟩ : ∃ w4, w4 = wc := ⟨_, rfl⟩
            have HB4 := Lib.hid (HB.out.trans (hs.below _))
            have HO4 := Lib.hid (own_same HO.out hs)
            have hz4 := (hs.below 0).size
            have HEX := Lib.hid (HEXIT.out (fun _ => by rw [← HQ.out]; exact HBL.out))
            have bx0 := (HBX2.out.next HB4.out).cell 0 rfl
            have bx1 := (HBX2.out.next HB4.out).cell 1 rfl
            simp only [ptrV] at bx1
            have HL4 := Lib.hid (HL2.out.below HB4.out (Nat.le_refl _))
            clear hs c0 c1 hbl ht1 ht2
            go_upto_region 10 with (fail)
            go_wp2_with (at_builtin; refine stopHere ?_)
            refine goOn ?_
            refine wpList_append_ent rfl _ _ 81 rfl w2.heap.size i0 (.agg #[.string ⟨#[]⟩, .pointer none]) Try.underlying81 hi hz0 hz1 hz2 rfl _ (m.take k) rfl (show EOwn _ _ (.slice a0 k cap0) _ by unfold EOwn; rw [HKL.out]; exact own_below HO4.out ((Below.refl _ _).alloc (Nat.le_refl _) _) (Nat.le_refl _)) _ [(x, f)] rfl (EntRd.one hx) (by have := HKL.out; simp; omega) (by simp; omega) ?_
            intro v' w5 hown' hgrow
            obtain ⟨a5, cap5, rfl⟩ := own_slice hown'
            have hk1 : (m.take k ++ [(x, f)]).length = k + 1 := by have := HKL.out; simp; omega
            have HN5 := Lib.hid (show EOwn w5 w2.heap.size (.slice a5 (k + 1) cap5) (m.take k ++ [(x, f)]) by rw [← hk1]; exact hown')
            rw [hk1]
            clear hk1
            have hb45 : Below w2.heap.size w4 w5 := ((Below.refl w2.heap.size w4).alloc (by omega) _).grown hgrow (by simp; omega) (fun k' e => (HO4.out.lt k' e).1)
            have HBN5 := Lib.hid (HB4.out.trans hb45)
            have HL5 := Lib.hid (HL2.out.below HBN5.out (Nat.le_refl _))
            have hz5 := hb45.size
            have e1 : (k : Int) ≤ m.length := by omega
            have e2 : (m.length : Int) ≤ kb := by have := HLE.out.2.1; omega
            have e3 : (kb : Int) ≤ 9223372036854775807 := by have := HLE.out.2.2.1; omega
            clear hown' hgrow hb45 bx0 bx1
            by_cases hkb : kb = k
            all_goals (
              go_wp2_with (at_builtin; refine stopHere ?_)
              refine goOn ?_
              clear e1 e2 e3
              refine wpList_append_ent rfl _ _ 81 rfl w2.heap.size i0 (.agg #[.string ⟨#[]⟩, .pointer none]) Try.underlying81 hi hz0 hz1 hz2 rfl _ (m.take k ++ [(x, f)]) rfl HN5.out _ (m.drop k) rfl (by
                  have h := HL5.out.drop k hk
                  first
                    | (rw [if_neg hkb] at h; first | exact h | (simp only [Option.map_some, Addr.add_lit] at h; exact h))
                    | (rw [if_pos hkb, hkb, Nat.sub_self] at h; exact h)) (by simp; omega) (by omega) ?_
              intro v' w6 hown' hgrow
              have HF := Lib.hid (show EOwn w6 w.heap.size v' (madeL l x (some f) g) by
                rw [HML.out]
                show EOwn w6 w.heap.size v' (lins x f m)
                rw [HEX.out]
                exact own_mono hown' HB2.out.size)
              have HBF := Lib.hid (show Below w.heap.size w w6 from HB2.out.trans ((HBN5.out.trans (below_grown' HN5.out hgrow (by omega))).mono HB2.out.size))
              clear hown' hgrow
              go_wp2_with fail
              go_ret
              exact ⟨⟨_, rfl, HF.out⟩, HBF.out⟩)
      · clear hB
        go_wp2_with fail
        go_cut [32] (fun v wx => v = .bool false ∧ Same w3 wx)
        case first =>
          go_quiet (fail)
          all_goals (go_wp2_with fail; go_meet; exact ⟨rfl, ⟨_, rfl⟩⟩)
        case rest =>
          obtain ⟨rfl, hs⟩ := hcut
          obtain ⟨w4, rfl⟩ : ∃ w4, w4 = wc := ⟨_, rfl⟩
          have HB4 := Lib.hid (HB.out.trans (hs.below _))
          have HO4 := Lib.hid (own_same HO.out hs)
          have hz4 := (hs.below 0).size
          have HEX := Lib.hid (HEXIT.out (fun h => absurd h hlt))
          have bx0 := (HBX2.out.next HB4.out).cell 0 rfl
          have bx1 := (HBX2.out.next HB4.out).cell 1 rfl
          simp only [ptrV] at bx1
          have HL4 := Lib.hid (HL2.out.below HB4.out (Nat.le_refl _))
          clear hs
          go_upto_region 10 with (fail)
          go_wp2_with (at_builtin; refine stopHere ?_)
          refine goOn ?_
          refine wpList_append_ent rfl _ _ 81 rfl w2.heap.size i0 (.agg #[.string ⟨#[]⟩, .pointer none]) Try.underlying81 hi hz0 hz1 hz2 rfl _ (m.take k) rfl (show EOwn _ _ (.slice a0 k cap0) _ by unfold EOwn; rw [HKL.out]; exact own_below HO4.out ((Below.refl _ _).alloc (Nat.le_refl _) _) (Nat.le_refl _)) _ [(x, f)] rfl (EntRd.one hx) (by have := HKL.out; simp; omega) (by simp; omega) ?_
          intro v' w5 hown' hgrow
          obtain ⟨a5, cap5, rfl⟩ := own_slice hown'
          have hk1 : (m.take k ++ [(x, f)]).length = k + 1 := by have := HKL.out; simp; omega
          have HN5 := Lib.hid (show EOwn w5 w2.heap.size (.slice a5 (k + 1) cap5) (m.take k ++ [(x, f)]) by rw [← hk1]; exact hown')
          rw [hk1]
          clear hk1
          have hb45 : Below w2.heap.size w4 w5 := ((Below.refl w2.heap.size w4).alloc (by omega) _).grown hgrow (by simp; omega) (fun k' e => (HO4.out.lt k' e).1)
          have HBN5 := Lib.hid (HB4.out.trans hb45)
          have HL5 := Lib.hid (HL2.out.below HBN5.out (Nat.le_refl _))
          have hz5 := hb45.size
          have e1 : (k : Int) ≤ m.length := by omega
          have e2 : (m.length : Int) ≤ kb := by have := HLE.out.2.1; omega
          have e3 : (kb : Int) ≤ 9223372036854775807 := by have := HLE.out.2.2.1; omega
          clear hown' hgrow hb45 bx0 bx1
          by_cases hkb : kb = k
          all_goals (
            go_wp2_with (at_builtin; refine stopHere ?_)
            refine goOn ?_
            clear e1 e2 e3
            refine wpList_append_ent rfl _ _ 81 rfl w2.heap.size i0 (.agg #[.string ⟨#[]⟩, .pointer none]) Try.underlying81 hi hz0 hz1 hz2 rfl _ (m.take k ++ [(x, f)]) rfl HN5.out _ (m.drop k) rfl (by
                  have h := HL5.out.drop k hk
                  first
                    | (rw [if_neg hkb] at h; first | exact h | (simp only [Option.map_some, Addr.add_lit] at h; exact h))
                    | (rw [if_pos hkb, hkb, Nat.sub_self] at h; exact h)) (by simp; omega) (by omega) ?_
            intro v' w6 hown' hgrow
            have HF := Lib.hid (show EOwn w6 w.heap.size v' (madeL l x (some f) g) by
              rw [HML.out]
              show EOwn w6 w.heap.size v' (lins x f m)
              rw [HEX.out]
              exact own_mono hown' HB2.out.size)
            have HBF := Lib.hid (show Below w.heap.size w w6 from HB2.out.trans ((HBN5.out.trans (below_grown' HN5.out hgrow (by omega))).mono HB2.out.size))
            clear hown' hgrow
            go_wp2_with fail
            go_ret
            exact ⟨⟨_, rfl, HF.out⟩, HBF.out⟩)
end Go.Proofs.Ytejmbhckfdfoeaa
/-
  Sync.
-/
set_option linter.unusedVariables false
set_option linter.unusedSimpArgs false
namespace Go.Proofs.Ytejmbhckfdfoeaa
open Go.RowKit Go.Maps
def syncS (s : DSt) (f : Nat) : DSt := bif offB s then strokeS s else { strokeS s with sf := updF s.sf f (s.by_ f) }
theorem Box.ne_type {w : World} {a b : Nat} {T U : TypeId} {cs ds : Array Value} (h : Box w a T cs) (k : Box w b U ds) (hTU : T ≠ U) : a ≠ b := fun e => by
  subst e
  unfold Box at h k
  rw [h] at k
  simp at k
  exact hTU k.2
theorem MapRep.ne_box {w : World} {a b : Nat} {l : NM} {T : TypeId} {cs : Array Value} (h : MapRep w a l) (k : Box w b T cs) : a ≠ b := fun e => by
  subst e
  obtain ⟨es, c, hh⟩ := h.isMap
  unfold Box at k
  rw [hh] at k
  cases k
theorem own_ne {w : World} {B : Nat} {e : TypeId} {s n : Nat} {v : Value} {xs : List Value} (h : w.ownsRow B e s v n xs) {p : Addr} {T : TypeId} {cs : Array Value} (hb : Box w p.block T cs) (hT : e ≠ T) (u : Value) : (w.setCell p u).ownsRow B e s v n xs := by
  refine ⟨h.1, ?_⟩
  rcases h.2 with hn | ⟨g, cap, cur, rfl, hbb, hg, r⟩
  · exact .inl hn
  · have hne : g ≠ p.block := fun he => by
      subst he
      unfold Box at hb
      rw [hg] at hb
      simp at hb
      exact hT hb.2
    exact .inr ⟨g, cap, cur, rfl, hbb, (Below.heap_setCell w p u g hne).trans hg, r⟩
theorem DRepr.setSafe {B : Nat} {w : World} {p bs bf : Nat} {cv : Value} {vs : List Value} {s : DSt} (h : DRepr B w p bs bf cv vs s) {f : Nat} (hf : f ∈ s.ids) {v : Value} {ys : List Int} (hv : BytesRep B w v ys) :
    DRepr B (w.setCell ⟨f, 1, none⟩ v) p bs bf cv vs { s with sf := updF s.sf f ys } ∧ Step B w (w.setCell ⟨f, 1, none⟩ v) := by
  obtain ⟨⟨vb, vs1, hfb, hb1, hb2⟩, hge⟩ := h.files f hf
  have hst : Step B w (w.setCell ⟨f, 1, none⟩ v) := Step.of_set hfb rfl hge v
  have hmap : ∀ {b : Nat} {l : NM}, MapRep w b l → MapRep (w.setCell ⟨f, 1, none⟩ v) b l := fun {b l} hm => hm.block (Below.heap_setCell _ _ _ _ (hm.ne_box hfb))
  refine ⟨⟨h.box.other (show f ≠ p from hfb.ne_type h.box (by decide)) v, hmap h.seen, hmap h.safe, h.ne, own_ne h.row hfb (by decide) v, fun i c hi => let ⟨v', h1, h2⟩ := h.chs i c hi; ⟨v', h1, h2.step hst⟩, fun g hg => ?_, h.in1, h.in2, h.nm1, h.hp, h.hs, h.hf, h.strk, h.offb, h.chl, h.many⟩, hst⟩
  obtain ⟨⟨vb', vs', k1, k2, k3⟩, k4⟩ := h.files g hg
  by_cases e : g = f
  · subst e
    refine ⟨⟨vb', v, k1.set 1 v, k2.step hst, ?_⟩, k4⟩
    simp only [updF, if_true]
    exact hv.step hst
  · refine ⟨⟨vb', vs', k1.other (show f ≠ g from fun h => e h.symm) v, k2.step hst, ?_⟩, k4⟩
    simp only [updF, if_neg e]
    exact k3.step hst
set_option maxRecDepth 100000 in
set_option maxHeartbeats 4000000 in
theorem sync_ok {B : Nat} {w : World} {p bs bf : Nat} {cv : Value} {vs : List Value} {s : DSt} (x : List UInt8) (f : Nat) (h : DRepr B w p bs bf cv vs s) (hxx : goodNm x = true) (hd : s.dead = false) (hg : lget s.seen x = some f) (hst : s.strokes < 1000000) :
    Calls Try.prog 22 #[.pointer (some ⟨p, 0, none⟩), .string ⟨x.toArray⟩] w fun e w' => e = .returned (.int .i64 (toldI (offB s))) ∧ DRepr B w' p bs bf cv vs (syncS s f) ∧ Step B w w' := by
  have hxl : x.length ≤ maxLen := by have := (goodNm_len hxx).2; unfold maxLen; omega
  have hB0 : B ≤ w.heap.size := Nat.le_of_lt h.baseLt
  have c5 := h.box.cell 5 rfl
  have HD := Lib.hid h
  have HX := Lib.hid hxx
  have HXL := Lib.hid hxl
  have HDD := Lib.hid hd
  have HG := Lib.hid hg
  clear h hxx hxl hd hg
  go_enter Try.func22, Try.ntmps22
  go_wp2_with fail
  refine (diskGood_nm x _ HXL.out).mono ?_
  rintro e w' ⟨rfl, rfl⟩
  rw [HX.out]
  go_wp2_with fail
  refine (ask_any p s.dead true _ c5).mono ?_
  rintro e w' ⟨rfl, rfl⟩
  rw [HDD.out, show askI false true = 0 from rfl]
  clear c5
  go_wp2_with fail
  refine (stroke_any HD.out hst).mono ?_
  rintro e w2 ⟨rfl, hd2, hs2, hz2⟩
  have c0 := hd2.box.cell 0 rfl
  have hlk := hd2.seen.lookup x HXL.out
  rw [show (strokeS s).seen = s.seen from rfl, HG.out] at hlk
  simp only [ptrV] at hlk
  have hid : f ∈ (strokeS s).ids := hd2.in1 (x, f) (lget_mem HG.out)
  obtain ⟨⟨vb, vs1, hfb, hbr, _⟩, _⟩ := hd2.files f hid
  obtain ⟨ob, kb, rfl⟩ := rd_slice hbr.rd
  have hxl4 := hbr.len
  obtain ⟨xs, hxs⟩ : ∃ xs, xs = s.by_ f := ⟨_, rfl⟩
  have hsb : (strokeS s).by_ f = xs := hxs.symm
  rw [hsb] at hfb hbr hxl4
  have HD2 := Lib.hid hd2
  have HS2 := Lib.hid hs2
  have HBR := Lib.hid hbr
  have HFB := Lib.hid hfb
  have HID := Lib.hid hid
  have HXS := Lib.hid hxs
  have hz2' : B ≤ w2.heap.size := by omega
  clear hd2 hs2 hz2 hfb hbr hid hxs hsb
  cases hof : offB s with
  | true =>
    have HOF := Lib.hid hof
    clear hof
    go_wp2_with fail
    refine (told_any true _).mono ?_
    rintro e w' ⟨rfl, rfl⟩
    go_wp2_with fail
    go_ret
    exact ⟨by rw [HOF.out]; rfl, by rw [syncS, HOF.out]; exact HD2.out, HS2.out⟩
  | false =>
    have HOF := Lib.hid hof
    have cb := HFB.out.cell 0 rfl
    clear hof
    go_wp2_with fail
    refine (clone_any _ xs _ HBR.out.rd hxl4).mono ?_
    rintro e w3 ⟨v3, rfl, hbr3, hb3⟩
    obtain ⟨o3, k3, rfl⟩ := rd_slice hbr3.rd
    have HD3 := Lib.hid (HD2.out.next hb3 hz2')
    have HS3 := Lib.hid (HS2.out.trans (Step.of_below hb3 hz2'))
    have HB3 := Lib.hid (hbr3.mono hz2')
    have c1 := (HFB.out.next hb3).cell 1 rfl
    have f1 := (HFB.out.next hb3).free 1
    clear hbr3 hb3 cb c0 hlk
    go_wp2_with fail
    have HF := Lib.hid (HD3.out.setSafe HID.out HB3.out)
    clear c1 f1
    refine (told_any false _).mono ?_
    rintro e w' ⟨rfl, rfl⟩
    go_wp2_with fail
    go_ret
    exact ⟨by rw [HOF.out]; rfl, by rw [syncS, HOF.out, ← HXS.out]; exact HF.out.1, HS3.out.trans HF.out.2⟩
set_option maxRecDepth 100000 in
set_option maxHeartbeats 4000000 in
theorem sync_no {B : Nat} {w : World} {p bs bf : Nat} {cv : Value} {vs : List Value} {s : DSt} (x : List UInt8) (h : DRepr B w p bs bf cv vs s) (hxx : goodNm x = true) (hd : s.dead = false) (hg : lget s.seen x = none) (hst : s.strokes < 1000000) :
    Calls Try.prog 22 #[.pointer (some ⟨p, 0, none⟩), .string ⟨x.toArray⟩] w fun e w' => e = .returned (.int .i64 6) ∧ DRepr B w' p bs bf cv vs (strokeS s) ∧ Step B w w' := by
  have hxl : x.length ≤ maxLen := by have := (goodNm_len hxx).2; unfold maxLen; omega
  have c5 := h.box.cell 5 rfl
  have HD := Lib.hid h
  have HX := Lib.hid hxx
  have HXL := Lib.hid hxl
  have HDD := Lib.hid hd
  have HG := Lib.hid hg
  clear h hxx hxl hd hg
  go_enter Try.func22, Try.ntmps22
  go_wp2_with fail
  refine (diskGood_nm x _ HXL.out).mono ?_
  rintro e w' ⟨rfl, rfl⟩
  rw [HX.out]
  go_wp2_with fail
  refine (ask_any p s.dead true _ c5).mono ?_
  rintro e w' ⟨rfl, rfl⟩
  rw [HDD.out, show askI false true = 0 from rfl]
  clear c5
  go_wp2_with fail
  refine (stroke_any HD.out hst).mono ?_
  rintro e w2 ⟨rfl, hd2, hs2, hz2⟩
  have c0 := hd2.box.cell 0 rfl
  have hlk := hd2.seen.lookup x HXL.out
  rw [show (strokeS s).seen = s.seen from rfl, HG.out] at hlk
  simp only [ptrV] at hlk
  have HD2 := Lib.hid hd2
  have HS2 := Lib.hid hs2
  clear hd2 hs2 hz2
  go_wp2_with fail
  go_ret
  exact ⟨rfl, HD2.out, HS2.out⟩
end Go.Proofs.Ytejmbhckfdfoeaa
/-
  The library's contracts on slices.Sorted(maps.Keys(m)), slices.Sort and maps.Clone at this dump (printed by the kit's tools; no walk of the library's text).
-/
namespace Go.Proofs.Ytejmbhckfdfoeaa
open Go.RowKit Go.Maps Go.Sort Go.Shelf
def keys58_ren : Go.Shelf.Ren := ⟨fun | 7 => 58 | 10 => 67 | n => n, fun | 23 => 62 | 26 => 9 | 3 => 66 | 28 => 101 | 0 => 0 | 27 => 100 | 33 => 38 | 4 => 4 | n => n, fun | n => n⟩
theorem keys58 : Go.Proofs.SlLaysZ.n7 Try.prog keys58_ren := {
  mixed := by kernel_rfl
  f7 := ⟨Try.f58.name, by decide, Try.func58.trans (congrArg some (by kernel_rfl))⟩
  f10 := ⟨Try.f67.name, by decide, Try.func67.trans (congrArg some (by kernel_rfl))⟩
  t0 := Try.underlying0
  a0 := Try.isAgg0
  z0 := Try.sizeOf0
  v0 := Try.zeroValue0
  t4 := Try.underlying4
  a4 := Try.isAgg4
  z4 := Try.sizeOf4
  v4 := Try.zeroValue4
  t23 := Try.underlying62
  a23 := Try.isAgg62
  z23 := Try.sizeOf62
  v23 := Try.zeroValue62
  t26 := Try.underlying9
  a26 := Try.isAgg9
  z26 := Try.sizeOf9
  v26 := Try.zeroValue9
  t27 := Try.underlying100
  a27 := Try.isAgg100
  z27 := Try.sizeOf100
  v27 := Try.zeroValue100
  t28 := Try.underlying101
  a28 := Try.isAgg101
  z28 := Try.sizeOf101
  v28 := Try.zeroValue101
  t33 := Try.underlying38
  a33 := Try.isAgg38
  z33 := Try.sizeOf38
  v33 := Try.zeroValue38 }
def sorted57_ren : Go.Shelf.Ren := ⟨fun | 6 => 57 | 8 => 65 | 9 => 66 | 11 => 69 | 13 => 71 | 12 => 70 | 23 => 82 | 24 => 83 | 14 => 73 | 15 => 74 | 16 => 75 | 17 => 76 | 18 => 77 | 19 => 78 | 20 => 79 | 21 => 80 | 22 => 81 | 25 => 84 | 26 => 85 | 27 => 86 | 28 => 87 | 29 => 88 | 30 => 89 | 31 => 90 | n => n, fun | 26 => 9 | 28 => 101 | 24 => 98 | 0 => 0 | 3 => 3 | 37 => 76 | 48 => 125 | 50 => 127 | 4 => 4 | 40 => 117 | 39 => 116 | 45 => 122 | 5 => 5 | 9 => 9 | 51 => 128 | 55 => 132 | 57 => 134 | 58 => 135 | 33 => 38 | n => n, fun | n => n⟩
theorem sorted57 : Go.Proofs.SlLaysZ.n6 Try.prog sorted57_ren := {
  mixed := by kernel_rfl
  f6 := ⟨Try.f57.name, by decide, Try.func57.trans (congrArg some (by kernel_rfl))⟩
  f8 := ⟨Try.f65.name, by decide, Try.func65.trans (congrArg some (by kernel_rfl))⟩
  f11 := ⟨Try.f69.name, by decide, Try.func69.trans (congrArg some (by kernel_rfl))⟩
  t0 := Try.underlying0
  a0 := Try.isAgg0
  z0 := Try.sizeOf0
  v0 := Try.zeroValue0
  t24 := Try.underlying98
  a24 := Try.isAgg98
  z24 := Try.sizeOf98
  v24 := Try.zeroValue98
  t26 := Try.underlying9
  a26 := Try.isAgg9
  z26 := Try.sizeOf9
  v26 := Try.zeroValue9
  t28 := Try.underlying101
  a28 := Try.isAgg101
  z28 := Try.sizeOf101
  v28 := Try.zeroValue101
  i26 := by kernel_rfl }
def sort66_ren : Go.Shelf.Ren := ⟨fun | 6 => 66 | 8 => 71 | 9 => 70 | 19 => 82 | 20 => 83 | 21 => 73 | 22 => 74 | 23 => 75 | 24 => 76 | 25 => 77 | 26 => 78 | 27 => 79 | 28 => 80 | 29 => 81 | 36 => 84 | 31 => 85 | 32 => 86 | 37 => 87 | 38 => 88 | 39 => 89 | 41 => 90 | n => n, fun | 27 => 98 | 29 => 9 | 3 => 3 | 32 => 76 | 26 => 98 | 0 => 0 | 44 => 125 | 46 => 127 | 4 => 4 | 36 => 117 | 35 => 116 | 41 => 122 | 5 => 5 | 9 => 9 | 53 => 128 | 57 => 132 | 63 => 134 | 64 => 135 | n => n, fun | n => n⟩
theorem sort66 : Go.Proofs.SlLaysM.n6 Try.prog sort66_ren := {
  mixed := by kernel_rfl
  f6 := ⟨Try.f66.name, by decide, Try.func66.trans (congrArg some (by kernel_rfl))⟩
  f8 := Try.func71.trans (congrArg some (by kernel_rfl))
  f9 := ⟨Try.f70.name, by decide, Try.func70.trans (congrArg some (by kernel_rfl))⟩
  f19 := Try.func82.trans (congrArg some (by kernel_rfl))
  f20 := Try.func83.trans (congrArg some (by kernel_rfl))
  f21 := ⟨Try.f73.name, by decide, Try.func73.trans (congrArg some (by kernel_rfl))⟩
  f22 := ⟨Try.f74.name, by decide, Try.func74.trans (congrArg some (by kernel_rfl))⟩
  f23 := ⟨Try.f75.name, by decide, Try.func75.trans (congrArg some (by kernel_rfl))⟩
  f24 := ⟨Try.f76.name, by decide, Try.func76.trans (congrArg some (by kernel_rfl))⟩
  f25 := ⟨Try.f77.name, by decide, Try.func77.trans (congrArg some (by kernel_rfl))⟩
  f26 := ⟨Try.f78.name, by decide, Try.func78.trans (congrArg some (by kernel_rfl))⟩
  f27 := ⟨Try.f79.name, by decide, Try.func79.trans (congrArg some (by kernel_rfl))⟩
  f28 := ⟨Try.f80.name, by decide, Try.func80.trans (congrArg some (by kernel_rfl))⟩
  f29 := ⟨Try.f81.name, by decide, Try.func81.trans (congrArg some (by kernel_rfl))⟩
  f31 := Try.func85.trans (congrArg some (by kernel_rfl))
  f32 := Try.func86.trans (congrArg some (by kernel_rfl))
  f36 := ⟨Try.f84.name, by decide, Try.func84.trans (congrArg some (by kernel_rfl))⟩
  f37 := ⟨Try.f87.name, by decide, Try.func87.trans (congrArg some (by kernel_rfl))⟩
  f38 := ⟨Try.f88.name, by decide, Try.func88.trans (congrArg some (by kernel_rfl))⟩
  f39 := ⟨Try.f89.name, by decide, Try.func89.trans (congrArg some (by kernel_rfl))⟩
  f41 := ⟨Try.f90.name, by decide, Try.func90.trans (congrArg some (by kernel_rfl))⟩
  t0 := Try.underlying0
  a0 := Try.isAgg0
  z0 := Try.sizeOf0
  v0 := Try.zeroValue0
  t3 := Try.underlying3
  a3 := Try.isAgg3
  z3 := Try.sizeOf3
  v3 := Try.zeroValue3
  t4 := Try.underlying4
  a4 := Try.isAgg4
  z4 := Try.sizeOf4
  v4 := Try.zeroValue4
  t5 := Try.underlying5
  a5 := Try.isAgg5
  z5 := Try.sizeOf5
  v5 := Try.zeroValue5
  t9 := Try.underlying9
  a9 := Try.isAgg9
  z9 := Try.sizeOf9
  v9 := Try.zeroValue9
  t26 := Try.underlying98
  a26 := Try.isAgg98
  z26 := Try.sizeOf98
  v26 := Try.zeroValue98
  t27 := Try.underlying98
  a27 := Try.isAgg98
  z27 := Try.sizeOf98
  v27 := Try.zeroValue98
  t29 := Try.underlying9
  a29 := Try.isAgg9
  z29 := Try.sizeOf9
  v29 := Try.zeroValue9
  t32 := Try.underlying76
  a32 := Try.isAgg76
  z32 := Try.sizeOf76
  v32 := Try.zeroValue76
  t35 := Try.underlying116
  a35 := Try.isAgg116
  z35 := Try.sizeOf116
  v35 := Try.zeroValue116
  t36 := Try.underlying117
  a36 := Try.isAgg117
  z36 := Try.sizeOf117
  v36 := Try.zeroValue117
  t41 := Try.underlying122
  a41 := Try.isAgg122
  z41 := Try.sizeOf122
  v41 := Try.zeroValue122
  t44 := Try.underlying125
  a44 := Try.isAgg125
  z44 := Try.sizeOf125
  v44 := Try.zeroValue125
  t46 := Try.underlying127
  a46 := Try.isAgg127
  z46 := Try.sizeOf127
  v46 := Try.zeroValue127
  t53 := Try.underlying128
  a53 := Try.isAgg128
  z53 := Try.sizeOf128
  v53 := Try.zeroValue128
  t57 := Try.underlying132
  a57 := Try.isAgg132
  z57 := Try.sizeOf132
  v57 := Try.zeroValue132
  t63 := Try.underlying134
  a63 := Try.isAgg134
  z63 := Try.sizeOf134
  v63 := Try.zeroValue134
  t64 := Try.underlying135
  a64 := Try.isAgg135
  z64 := Try.sizeOf135
  v64 := Try.zeroValue135 }
def cloneM_ren : Go.Shelf.Ren := ⟨fun | 5 => 42 | 7 => 59 | n => n, fun | 23 => 62 | 25 => 9 | 3 => 66 | 4 => 4 | 20 => 20 | n => n, fun | n => n⟩
theorem cloneM : Go.Proofs.SlLaysW.n5 Try.prog cloneM_ren := {
  mixed := by kernel_rfl
  f5 := ⟨Try.f42.name, by decide, Try.func42.trans (congrArg some (by kernel_rfl))⟩
  f7 := Try.func59.trans (congrArg some (by kernel_rfl))
  t4 := Try.underlying4
  a4 := Try.isAgg4
  z4 := Try.sizeOf4
  v4 := Try.zeroValue4
  t20 := Try.underlying20
  a20 := Try.isAgg20
  z20 := Try.sizeOf20
  v20 := Try.zeroValue20
  t23 := Try.underlying62
  a23 := Try.isAgg62
  z23 := Try.sizeOf62
  v23 := Try.zeroValue62 }
theorem sorts57 (m : Nat) : AnyZ.SortsIn Try.prog sorted57_ren Fence.wide m :=
  ⟨fun blk off cap ss W hH hblk hsz => callsIn_wide.2 (AnyM.slices_Sort_string sort66 blk off cap ss W hH hblk hsz),
   fun p cap W => callsIn_wide.2 (AnyM.slices_Sort_string_none sort66 p cap W)⟩

theorem maps_Keys_58 (mb : Option Nat) (W : World) : CallsIn Fence.wide 5 Try.prog 58 #[.map mb] W fun e w' => e = .returned (.func (.func 67) #[] #[.pointer (some ⟨W.heap.size, 0, none⟩)]) ∧ w' = W.alloc (.cells #[.map mb] 62) :=
  AnyZ.keys_in keys58 Fence.wide 5 trivial rfl mb W

set_option maxHeartbeats 1000000 in
theorem slices_Sorted_keys_57_58 {H : Type} (b nn : Nat) (D0 : DataW H) (R : Value → Option (DataW H × List MemPlace)) (w : World) (hown : w.ownsMap Try.prog 9 R b nn D0) (hmax : Maps.size D0 ≤ maxLen) (hbytes : Maps.size D0 * 16 ≤ 140737488355328) :
    CallsIn Fence.wide 5 Try.prog 57 #[.func (.func 67) #[] #[.pointer (some ⟨w.heap.size, 0, none⟩)]] (w.alloc (.cells #[.map (some b)] 62)) fun e w' => ∃ (v : Value) (ss : List (List UInt8)), e = .returned v ∧ ss.Perm (strKeys D0) ∧
      w'.ownsRow (w.alloc (.cells #[.map (some b)] 62)).heap.size 9 1 v ss.length ((ss.mergeSort (fun x y => decide (x ≤ y))).map encStr) ∧ (v = .slice none 0 0 ↔ ss = []) ∧ Below (w.alloc (.cells #[.map (some b)] 62)).heap.size (w.alloc (.cells #[.map (some b)] 62)) w' := by
  have hbl := hown.lt
  have hseq : SeqGives Fence.wide 2 Try.prog 67 #[.pointer (some ⟨w.heap.size, 0, none⟩)] encStr (fun ss => ss.Perm (strKeys D0)) (Maps.size D0) (w.alloc (.cells #[.map (some b)] 62)) :=
    AnyZ.keys_gives (ρ := keys58_ren) { keys58 with } Fence.wide _ trivial rfl (by omega) w.heap.size b nn D0 _ (by simp) (by simp) (by
      obtain ⟨es, clock, hb, Ft, hs, hD⟩ := hown
      exact ⟨es, clock, (Below.heap_alloc _ _ b hbl).trans hb, Ft, hs, hD⟩)
  exact AnyZ.sorted_in sorted57 Fence.wide 5 trivial trivial trivial trivial rfl (by omega) (sorts57 _) (enters_of Try.func66 (by kernel_rfl) rfl) 67 #[.pointer (some ⟨w.heap.size, 0, none⟩)] trivial (enters_of Try.func67 (by kernel_rfl) rfl) _ _ hmax hbytes _ hseq

set_option maxHeartbeats 1000000 in
theorem slices_Sorted_keys_nil_57_58 (w : World) :
    CallsIn Fence.wide 5 Try.prog 57 #[.func (.func 67) #[] #[.pointer (some ⟨w.heap.size, 0, none⟩)]] (w.alloc (.cells #[.map none] 62)) fun e w' => ∃ (v : Value) (ss : List (List UInt8)), e = .returned v ∧ ss = [] ∧
      w'.ownsRow (w.alloc (.cells #[.map none] 62)).heap.size 9 1 v ss.length ((ss.mergeSort (fun x y => decide (x ≤ y))).map encStr) ∧ (v = .slice none 0 0 ↔ ss = []) ∧ Below (w.alloc (.cells #[.map none] 62)).heap.size (w.alloc (.cells #[.map none] 62)) w' := by
  have hseq : SeqGives Fence.wide 2 Try.prog 67 #[.pointer (some ⟨w.heap.size, 0, none⟩)] encStr (fun ss : List (List UInt8) => ss = []) 0 (w.alloc (.cells #[.map none] 62)) :=
    AnyZ.keys_gives_nil (ρ := keys58_ren) { keys58 with } Fence.wide _ trivial rfl w.heap.size _ (by simp) (by simp)
  exact AnyZ.sorted_in sorted57 Fence.wide 5 trivial trivial trivial trivial rfl (by omega) (sorts57 _) (enters_of Try.func66 (by kernel_rfl) rfl) 67 #[.pointer (some ⟨w.heap.size, 0, none⟩)] trivial (enters_of Try.func67 (by kernel_rfl) rfl) _ 0 (Nat.zero_le _) (by omega) _ hseq

end Go.Proofs.Ytejmbhckfdfoeaa
/-
  THE SORTED KEYS of a map from names to files.
-/
set_option linter.unusedVariables false
set_option linter.unusedSimpArgs false
namespace Go.Proofs.Ytejmbhckfdfoeaa
open Go.RowKit Go.Maps
theorem ris_nodup {l : NM} (h : Ris l) : (l.map (·.1)).Nodup := by
  rw [List.Nodup, List.pairwise_map]
  refine List.Pairwise.imp ?_ h
  intro p q hlt e
  rw [e] at hlt
  exact nm_irr q.1 hlt
theorem mem_names {l : NM} {x : List UInt8} : x ∈ l.map (·.1) ↔ (lget l x).isSome = true := by
  rw [List.mem_map]
  constructor
  · rintro ⟨p, hp, rfl⟩
    cases hg : lget l p.1 with
    | none => exact absurd rfl (lget_none.1 hg p hp)
    | some i => rfl
  · intro h
    obtain ⟨i, hi⟩ := Option.isSome_iff_exists.1 h
    exact ⟨(x, i), lget_mem hi, rfl⟩
theorem keys_sorted {w : World} {b n : Nat} {D : DataW Unit} {l : NM} (h : w.ownsMap Try.prog 9 ptrElem b n D) (hD : DRep D l) {ss : List (List UInt8)} (hp : ss.Perm (strKeys D)) :
    ss.mergeSort leB = l.map (·.1) ∧ ss.length = l.length := by
  obtain ⟨es, rfl, hk⟩ := h.keysOf
  obtain ⟨es', he, hpw⟩ := hD.tidy
  cases he
  have hq : (l.map (·.1)).Perm (strKeys (.map es)) := perm_strKeys hpw (fun p hp => by
    obtain ⟨v, hv⟩ := hk p hp
    obtain ⟨x, _, hx, _⟩ := Maps.keyOf_str Try.underlying9 hv
    exact ⟨x, hx⟩) (ris_nodup hD.ris) (fun x => by rw [hD.has_ x]; exact mem_names)
  refine ⟨?_, by have := (hp.trans hq.symm).length_eq; simpa using this⟩
  rw [mergeSort_of_perm (hp.trans hq.symm)]
  refine List.mergeSort_of_pairwise ?_
  rw [List.pairwise_map]
  exact hD.ris.imp fun {p q} hlt => decide_eq_true (List.le_of_lt hlt)
theorem sortedKeys_in {w : World} {b : Nat} {l : NM} (h : MapRep w b l) (hl : l.length ≤ 1000000) :
    CallsIn Fence.wide 5 Try.prog 57 #[.func (.func 67) #[] #[.pointer (some ⟨w.heap.size, 0, none⟩)]] (w.alloc (.cells #[.map (some b)] 62)) fun e w' => ∃ v, e = .returned v ∧
      w'.ownsRow (w.heap.size + 1) 9 1 v l.length ((l.map (·.1)).map encStr) ∧ Below (w.heap.size + 1) (w.alloc (.cells #[.map (some b)] 62)) w' := by
  obtain ⟨D, ho, hD⟩ := h.ex
  have hz : size D ≤ 1000000 := by rw [hD.size_]; exact hl
  refine CallsIn.mono (slices_Sorted_keys_57_58 b l.length D ptrElem w ho (by unfold maxLen; omega) (by omega)) ?_
  rintro e w' ⟨v, ss, rfl, hp, hrow, _, hb⟩
  obtain ⟨k1, k2⟩ := keys_sorted ho hD hp
  rw [World.size_alloc] at hrow hb
  rw [k2] at hrow
  exact ⟨v, rfl, by rw [← k1]; exact hrow, hb⟩
end Go.Proofs.Ytejmbhckfdfoeaa
/-
  SyncDir.
-/
set_option linter.unusedVariables false
set_option linter.unusedSimpArgs false
namespace Go.Proofs.Ytejmbhckfdfoeaa
open Go.RowKit Go.Maps
theorem mapsClone_any {b : Nat} {l : NM} {w : World} (h : MapRep w b l) :
    Calls Try.prog 42 #[.map (some b)] w fun e w' => e = .returned (.map (some w.heap.size)) ∧ MapRep w' w.heap.size l ∧ Below w.heap.size w w' := by
  obtain ⟨D, ⟨es, c, hb, hr⟩, hD⟩ := h.ex
  refine (AnyW.maps_Clone cloneM b es c w hb).mono ?_
  rintro e w' ⟨rfl, rfl⟩
  exact ⟨rfl, ⟨⟨D, ⟨es, c, World.alloc_heap_new w _, hr⟩, hD⟩⟩, (Below.refl _ _).alloc (Nat.le_refl _) _⟩
def syncDirS (s : DSt) : DSt := bif offB s then strokeS s else { strokeS s with safe := s.seen, chs := [] }
theorem DRepr.setDir {B : Nat} {w : World} {p bs bf m : Nat} {cv : Value} {vs : List Value} {s : DSt} (h : DRepr B w p bs bf cv vs s) (hm : MapRep w m s.seen) (hne : bs ≠ m) (hB : B ≤ m) :
    DRepr B ((w.setCell ⟨p, 1, none⟩ (.map (some m))).setCell ⟨p, 2, none⟩ (.slice none 0 0)) p bs m (.slice none 0 0) [] { s with safe := s.seen, chs := [] } ∧ Step B w ((w.setCell ⟨p, 1, none⟩ (.map (some m))).setCell ⟨p, 2, none⟩ (.slice none 0 0)) := by
  have hst : Step B w ((w.setCell ⟨p, 1, none⟩ (.map (some m))).setCell ⟨p, 2, none⟩ (.slice none 0 0)) := (Step.of_set h.box rfl h.hp _).trans (Step.of_set (h.box.set 1 _) rfl h.hp _)
  have hk : ∀ k, k ≠ p → ((w.setCell ⟨p, 1, none⟩ (.map (some m))).setCell ⟨p, 2, none⟩ (.slice none 0 0)).heap[k]? = w.heap[k]? := fun k hk => by
    rw [Below.heap_setCell _ _ _ _ hk, Below.heap_setCell _ _ _ _ hk]
  refine ⟨⟨(h.box.set 1 _).set 2 _, h.seen.block (hk bs (h.seen.ne_box h.box)), hm.block (hk m (hm.ne_box h.box)), hne, World.ownsRow_nil _ _ _ _, fun i c hi => by simp at hi, fun g hg => ?_, h.in1, h.in1, h.nm1, h.hp, h.hs, hB, h.strk, h.offb, by simp, h.many⟩, hst⟩
  obtain ⟨⟨vb', vs', k1, k2, k3⟩, k4⟩ := h.files g hg
  exact ⟨⟨vb', vs', (hk g (k1.ne_type h.box (by decide))).trans k1, k2.step hst, k3.step hst⟩, k4⟩
set_option maxRecDepth 100000 in
set_option maxHeartbeats 4000000 in
theorem syncDir_ok {B : Nat} {w : World} {p bs bf : Nat} {cv : Value} {vs : List Value} {s : DSt} (h : DRepr B w p bs bf cv vs s) (hd : s.dead = false) (hst : s.strokes < 1000000) :
    Calls Try.prog 23 #[.pointer (some ⟨p, 0, none⟩)] w fun e w' => e = .returned (.int .i64 (toldI (offB s))) ∧ (∃ bf' cv' vs', DRepr B w' p bs bf' cv' vs' (syncDirS s)) ∧ Step B w w' := by
  have c5 := h.box.cell 5 rfl
  have hB0 : B ≤ w.heap.size := Nat.le_of_lt h.baseLt
  have HD := Lib.hid h
  have HDD := Lib.hid hd
  clear h hd
  go_enter Try.func23, Try.ntmps23
  go_wp2_with fail
  refine (ask_any p s.dead true _ c5).mono ?_
  rintro e w' ⟨rfl, rfl⟩
  rw [HDD.out, show askI false true = 0 from rfl]
  clear c5
  go_wp2_with fail
  refine (stroke_any HD.out hst).mono ?_
  rintro e w2 ⟨rfl, hd2, hs2, hz2⟩
  have HD2 := Lib.hid hd2
  have HS2 := Lib.hid hs2
  have hz2' : B ≤ w2.heap.size := by omega
  clear hd2 hs2 hz2
  cases hof : offB s with
  | true =>
    have HOF := Lib.hid hof
    clear hof
    go_wp2_with fail
    refine (told_any true _).mono ?_
    rintro e w' ⟨rfl, rfl⟩
    go_wp2_with fail
    go_ret
    exact ⟨by rw [HOF.out]; rfl, ⟨bf, cv, vs, by rw [syncDirS, HOF.out]; exact HD2.out⟩, HS2.out⟩
  | false =>
    have HOF := Lib.hid hof
    have c0 := HD2.out.box.cell 0 rfl
    clear hof
    go_wp2_with fail
    refine (mapsClone_any HD2.out.seen).mono ?_
    rintro e w3 ⟨rfl, hm3, hb3⟩
    have hlt : bs < w2.heap.size := HD2.out.seen.lt
    have HD3 := Lib.hid (HD2.out.next hb3 hz2')
    have HS3 := Lib.hid (HS2.out.trans (Step.of_below hb3 hz2'))
    have HM3 := Lib.hid hm3
    have c1 := HD3.out.box.cell 1 rfl
    have f1 := HD3.out.box.free 1
    have c2 := (HD3.out.box.set 1 (.map (some w2.heap.size))).cell 2 rfl
    have f2 := (HD3.out.box.set 1 (.map (some w2.heap.size))).free 2
    clear hm3 hb3 c0
    go_wp2_with fail
    have HF := Lib.hid (HD3.out.setDir HM3.out (by omega) hz2')
    clear c1 f1 c2 f2
    refine (told_any false _).mono ?_
    rintro e w' ⟨rfl, rfl⟩
    go_wp2_with fail
    go_ret
    exact ⟨by rw [HOF.out]; rfl, ⟨_, _, _, by rw [syncDirS, HOF.out]; exact HF.out.1⟩, HS3.out.trans HF.out.2⟩
end Go.Proofs.Ytejmbhckfdfoeaa
