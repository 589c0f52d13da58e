/-
  The sorted iterator: a round for each name, by rising names.
-/
import Derived.Test.YtejmbhckfdfoeaaDKeys
import Derived.Test.YtejmbhckfdfoeaaDKeep
set_option linter.unusedVariables false
set_option linter.unusedSimpArgs false
namespace Go.Proofs.Ytejmbhckfdfoeaa
open Go.RowKit Go.Maps Go.Shelf
attribute [local go_sem] Oper.semAt_some
set_option maxRecDepth 100000 in
set_option maxHeartbeats 2000000 in
theorem sorted1_stops (m cb b : Nat) (l : NM) (w : World) (hC : Box w cb 62 #[.map (some b)]) (hM : MapRep w b l) (hl : l.length ≤ 1000000) (hnm : ∀ q ∈ l, q.1.length ≤ maxLen) :
    SeqStopsK Fence.wide m Try.prog 56 #[.pointer (some ⟨cb, 0, none⟩)] (nmEnc l) KeepD (fun xs => xs = List.finRange l.length) (fun _ => True) l.length w := fun lp J Jx W hBW hJa hJx hY h0 => by
  refine callsIn_of_wp Try.func56 rfl trivial ?_ rfl
  simp only [Try.ntmps56, List.size_toArray, List.length_cons, List.length_nil, Nat.reduceAdd, Nat.reduceSub, Array.replicate_succ, Array.replicate_zero, List.push_toArray, List.append_toArray, List.nil_append, List.cons_append]
  have HY := Lib.hid hY
  have HC := Lib.hid (hC.next hBW)
  have HM := Lib.hid (hM.next hBW)
  have HJA := Lib.hid hJa
  have HNM := Lib.hid hnm
  have c0 := HC.out.cell 0 rfl
  clear hY hC hM hnm hBW hJa hJx
  gi_wp2_with (first
    | (refine ⟨trivial, fun h => by simp [Fence.wide] at h, ?_⟩; gi_at_call 58; refine (callsIn_wide.2 (callsIn_wide.1 (maps_Keys_58 (some b) _))).mono ?_; rintro e w' ⟨rfl, rfl⟩)
    | (refine ⟨trivial, fun h => by simp [Fence.wide] at h, ?_⟩; gi_at_call 57; refine (callsIn_wide.2 (callsIn_wide.1 (sortedKeys_in HM.out hl))).mono ?_; rintro e w' ⟨vs, rfl, hrow, hbs⟩; obtain ⟨os, ks, rfl⟩ := own_slice hrow))
  have hbw : Below W.heap.size W w' := ((Below.refl _ _).alloc (Nat.le_refl _) _).trans (hbs.mono (Nat.le_succ _))
  have HK0 := Lib.hid (KeepD.below hbw)
  have HJ0 := Lib.hid (HJA.out [] W w' none h0 ⟨hbw.os, hbw.tape, hbw.output, hbw.size, fun k hk _ => hbw.block k hk⟩ (fun r e => by cases e))
  have HROW := Lib.hid hrow
  clear c0 hbw hrow hbs h0
  gi_loopw [4, 9] (fun _ i wr => ∃ k : Nat, k ≤ l.length ∧ i = .int .i64 k ∧ J ((List.finRange l.length).take k) wr ∧ KeepD w' wr) (fun _ i _ => l.length - (intOf i).toNat)
  case atStart => exact ⟨0, Nat.zero_le _, rfl, HJ0.out, KeepD.refl _⟩
  case round =>
    obtain ⟨k, hk, rfl, hJ, hkd⟩ := hrel
    have HJ := Lib.hid hJ
    have HKD := Lib.hid hkd
    clear hJ hkd
    by_cases hlt : k < l.length
    · obtain ⟨g, cap, he, hcell⟩ := own_cell (HKD.out.row HROW.out) k hlt
      simp at he
      obtain ⟨rfl, rfl⟩ := he
      have hx : ((l.map (·.1)).map encStr)[k]? = some (encStr l[k].1) := by simp [hlt]
      have ck := hcell _ hx
      have c0 := (HKD.out.box (HK0.out.box HC.out rfl) rfl).cell 0 rfl
      have hmem : l[k] ∈ l := List.getElem_mem hlt
      have hlk := (HKD.out.map (HK0.out.map HM.out)).lookup l[k].1 (HNM.out _ hmem)
      have hget : lget l l[k].1 = some l[k].2 := (lget_some HM.out.ris).2 hmem
      rw [hget] at hlk
      obtain ⟨nm, hnm⟩ : ∃ nm, nm = l[k].1 := ⟨_, rfl⟩
      obtain ⟨f, hf⟩ : ∃ f, f = l[k].2 := ⟨_, rfl⟩
      rw [← hnm, ← hf] at hlk
      rw [← hnm] at ck
      simp only [encStr] at ck
      simp only [ptrV] at hlk
      have hE : nmEnc l ⟨k, hlt⟩ = #[.string ⟨nm.toArray⟩, .pointer (some ⟨f, 0, none⟩)] := by
        show #[encStr l[k].1, ptrV (some l[k].2)] = _
        rw [← hnm, ← hf]; rfl
      obtain ⟨fn, tmps, assign, body, hy, hR⟩ := HY.out ((List.finRange l.length).take k) ⟨k, hlt⟩ wr HJ.out (by rw [List.length_take, List.length_finRange]; omega)
      rw [hE] at hy
      have HR := Lib.hid hR
      clear hR hE hcell hx hmem hget hnm hf
      gi_wp2
      refine ⟨fun h => by simp [Fence.wide] at h, HR.out.mono ?_⟩
      clear HR hy hlk ck c0
      rintro e W' (⟨rfl, hJ', hK'⟩ | ⟨rfl, hJx'⟩)
      · have HJ' := Lib.hid hJ'
        have HK' := Lib.hid (HKD.out.trans hK')
        clear hJ' hK'
        gi_wp2
        go_roundw
        case rel => exact ⟨k + 1, by omega, by go_num, by rw [List.take_succ_eq_append_getElem (by simpa using hlt)]; simpa using HJ'.out, HK'.out⟩
        case measure => simp [intOf]; omega
      · have HJx' := Lib.hid hJx'
        clear hJx'
        gi_wp2
        refine bodyPost_ret (results_none rfl _ _ _) rfl ?_
        exact ⟨⟨_, rfl⟩, .inr ⟨_, trivial, HJx'.out⟩⟩
    · obtain rfl : k = l.length := by omega
      have HJ2 := Lib.hid (show J (List.finRange l.length) wr by have := HJ.out; rwa [List.take_of_length_le (by simp)] at this)
      gi_wp2
      go_end0
      exact ⟨⟨_, rfl⟩, .inl ⟨_, rfl, HJ2.out⟩⟩
end Go.Proofs.Ytejmbhckfdfoeaa
