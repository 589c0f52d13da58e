/-
  ckpt.rows: its contract: 256 pairs (k, what eight bits make of k).
-/
import Derived.Test.YtjhejpeklppmbaaKit
import Derived.RangeFuncNested
import Derived.RangeFuncBound
import Derived.RangeFuncCalls
import Derived.RangeFuncLeaves
import Derived.Shelf.Abstract
import Derived.Shelf.RegionOpen
import Derived.OwnWalkIn
import Derived.TacticsInMore
import Derived.LoopNIn
import Derived.LoopIn
import Derived.Laws.BitsAllLaws
set_option linter.unusedVariables false
set_option linter.unusedSimpArgs false
namespace Go.Proofs.Ytjhejpeklppmbaa
open Go.RowKit Go.Shelf
attribute [local go_sem] Oper.semAt_some
abbrev crcEnc (p : Fin 256) : Array Value := #[.int .i64 (p.1 : Nat), .int .u32 (crcTab p.1 : Nat)]
def crcPre (k : Nat) : List (Fin 256) := (List.finRange 256).take k
theorem crcPre_succ (k : Nat) (h : k < 256) : crcPre (k + 1) = crcPre k ++ [⟨k, h⟩] := by
  unfold crcPre
  rw [List.take_succ_eq_append_getElem (by simpa using h)]
  simp
theorem crcPre_length (k : Nat) (h : k ≤ 256) : (crcPre k).length = k := by simp [crcPre]; omega
theorem crcPre_all : crcPre 256 = List.finRange 256 := by
  unfold crcPre; exact List.take_of_length_le (by simp)
theorem crc_odd (x m k : Nat) (hx : x < 4294967296) (he : Hid (x = crcBits m k)) (h : (bits BinOp.and IntKind.u32 (↑x) 1 == 1) = true) :
    bits BinOp.xor IntKind.u32 (↑x / 2) 3988292384 = ↑(crcBits (m + 1) k) := by
  have h1 : bits BinOp.and IntKind.u32 (↑x) (1 : Int) = ((x &&& 1 : Nat) : Int) := u32_and_nat x 1 hx (by omega)
  have h2 : bits BinOp.xor IntKind.u32 ((x : Int) / 2) (3988292384 : Int) = (((x / 2) ^^^ 3988292384 : Nat) : Int) := u32_xor_nat (x / 2) 3988292384 (by omega) (by omega)
  rw [h1, nat_mask1] at h
  rw [h2, crcBits_succ, ← he.out, crcBit, if_pos (by simp at h; omega)]
theorem crc_even (x m k : Nat) (hx : x < 4294967296) (he : Hid (x = crcBits m k)) (h : (bits BinOp.and IntKind.u32 (↑x) 1 == 1) = false) :
    ((x : Int) / 2) = ↑(crcBits (m + 1) k) := by
  have h1 : bits BinOp.and IntKind.u32 (↑x) (1 : Int) = ((x &&& 1 : Nat) : Int) := u32_and_nat x 1 hx (by omega)
  rw [h1, nat_mask1] at h
  rw [crcBits_succ, ← he.out, crcBit, if_neg (by simp at h; omega)]
  omega
set_option maxRecDepth 100000 in
set_option maxHeartbeats 1000000 in
theorem rows1_stops (F : Fence) (n : Nat) (h5 : F.fn 61) (hro : F.round = none) (hn : 1 ≤ n) (w : World) :
    SeqStopsA F n Try.prog 61 #[] crcEnc (fun xs => xs = crcPre 256) (fun _ => True) 256 w := fun l J Jx W _ _ _ hY h0 => by
  refine callsIn_of_wp Try.func61 rfl h5 ?_ hro
  simp only [Try.ntmps61, List.size_toArray, List.length_cons, List.length_nil, Nat.reduceAdd, Nat.reduceSub, Array.replicate_succ, Array.replicate_zero, List.push_toArray, List.append_toArray, List.nil_append, List.cons_append]
  have HY := Lib.hid hY
  clear hY
  gi_wp2
  gi_loopw [2, 5] (fun _ i wr => ∃ k : Nat, k ≤ 256 ∧ i = .int .i64 k ∧ J (crcPre k) wr) (fun _ i _ => 256 - (intOf i).toNat)
  case atStart => exact ⟨0, by omega, rfl, h0⟩
  case round =>
    obtain ⟨k, hk, rfl, hJ⟩ := hrel
    have HJ := Lib.hid hJ
    clear hJ h0
    by_cases hlt : k < 256
    · gi_wp2
      gi_loop [3, 10] (fun x j => ∃ m : Nat, m ≤ 8 ∧ j = .int .i64 m ∧ x = .int .u32 (crcBits m k : Nat)) (fun _ j => 8 - (intOf j).toNat)
      case atStart => exact ⟨0, by omega, rfl, rfl⟩
      case round =>
        obtain ⟨m, hm, rfl, rfl⟩ := hrel
        have hx := crcBits_lt m k (by omega)
        obtain ⟨x, hxe⟩ : ∃ x, x = crcBits m k := ⟨_, rfl⟩
        rw [← hxe] at hx ⊢
        have he := Lib.hid hxe
        clear hxe
        by_cases hlt2 : m < 8
        · gi_wp2
          · go_round
            case rel => exact ⟨m + 1, by omega, by go_num, by rw [crc_odd x m k hx he (by assumption)]⟩
            case measure => simp [intOf]; omega
          · go_round
            case rel => exact ⟨m + 1, by omega, by go_num, by rw [crc_even x m k hx he (by assumption)]⟩
            case measure => simp [intOf]; omega
        · have e8 : m = 8 := by omega
          have ht : x = crcTab k := by rw [he.out, e8]; rfl
          clear e8
          subst ht
          obtain ⟨fn, tmps, assign, body, hy, hR⟩ := HY.out (crcPre k) ⟨k, hlt⟩ wr HJ.out (by rw [crcPre_length k (by omega)]; exact hlt)
          have HR := Lib.hid hR
          clear hR
          gi_wp2
          refine HR.out.mono ?_
          clear HR hy
          rintro e W' (⟨rfl, hJ', _⟩ | ⟨rfl, hJx'⟩)
          · have HJ' := Lib.hid hJ'
            clear hJ'
            gi_wp2
            go_roundw
            case rel => exact ⟨k + 1, by omega, by go_num, by rw [crcPre_succ k hlt]; exact HJ'.out⟩
            case measure => simp [intOf]; omega
          · have HJx' := Lib.hid hJx'
            clear hJx'
            gi_wp2
            refine bodyPost_ret (results_none rfl _ _ _) rfl ?_
            exact ⟨⟨_, rfl⟩, .inr ⟨_, trivial, HJx'.out⟩⟩
    · obtain rfl : k = 256 := by omega
      gi_wp2
      go_end0
      exact ⟨⟨_, rfl⟩, .inl ⟨_, rfl, HJ.out⟩⟩
theorem rows_in (F : Fence) (n : Nat) (hF : F.fn 37) (hro : F.round = none) (w : World) :
    CallsIn F n Try.prog 37 #[] w fun e w' => e = .returned (.func (.func 61) #[] #[]) ∧ w = w' := by
  refine callsIn_of_wp Try.func37 rfl hF ?_ hro
  simp only [Try.ntmps37, List.size_toArray, List.length_cons, List.length_nil, Nat.reduceAdd, Nat.reduceSub, Array.replicate_succ, Array.replicate_zero, List.push_toArray, List.append_toArray, List.nil_append, List.cons_append]
  gi_wp2
  go_ret
  exact ⟨rfl, rfl⟩
end Go.Proofs.Ytjhejpeklppmbaa
