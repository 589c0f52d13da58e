/-
  ratchetlaw33.CkptSums: the walk of the law itself.
-/
import Derived.Test.YtjhejpeklppmbaaSumsLaw
import Derived.Deep.RegionWith
set_option linter.unusedVariables false
set_option linter.unusedSimpArgs false
namespace Go.Proofs.Ytjhejpeklppmbaa
open Go.RowKit
/-- what the walk needs of the law's argument -/
def BytesArg (w : World) (o : Option Addr) (n : Nat) : Prop :=
  ∀ i, i < n → ∃ b off v xs, o = some ⟨b, off, none⟩ ∧ w.cell? ⟨b, off + i * 2, none⟩ = some v ∧ Rd w .u8 v xs ∧ Wf .u8 xs ∧ xs.length ≤ 140737488351232
theorem turned_bits (x : Int) (j : Nat) (h : 0 ≤ x ∧ x < 256) : bits BinOp.xor IntKind.u8 x (2 ^ (j % 8) % 256) = turned x j := by
  have h2 := two_pow_lt j
  have h3 : ((2 ^ (j % 8) : Nat) : Int) = (2 : Int) ^ (j % 8) := Int.natCast_pow 2 _
  have e : ((2 : Int) ^ (j % 8) % 256) = ((2 ^ (j % 8) : Nat) : Int) := by
    rw [← h3]; exact Int.emod_eq_of_lt (Int.natCast_nonneg _) (Int.ofNat_lt.2 h2)
  rw [e, u8_xor _ _ h.1 h.2 (by omega) (by omega), turned, Int.toNat_natCast]
theorem keep_call {wr W w' : World} (h : Below wr.heap.size wr W) (hB : Below W.heap.size W w') : Below wr.heap.size wr w' := h.trans (hB.mono h.size)
def zeros8 (n : Nat) : Array Value := madeCells (Value.int .u8 0).cells n
theorem rd_zero0 (u : World) (n : Nat) : Rd (u.alloc (.cells (zeros8 n) 5)) .u8 (.slice (some ⟨u.heap.size, 0, none⟩) n n) (List.replicate n 0) := by
  have h := Rd.new u .u8 (List.replicate n 0) 5 n (0, 0)
  have e : ((List.replicate n (0 : Int)).map (Value.int .u8)).toArray = zeros8 n := by
    have := madeInts .u8 n
    rw [Nat.mul_one] at this
    rw [← this]
    rfl
  rw [e] at h
  simpa using h
theorem rd_zero1 {u w' : World} {n : Nat} (hB : Below (u.alloc (.cells (zeros8 n) 5)).heap.size (u.alloc (.cells (zeros8 n) 5)) w') : Rd w' .u8 (.slice (some ⟨u.heap.size, 0, none⟩) n n) (List.replicate n 0) :=
  (rd_zero0 u n).below hB (Nat.le_refl _)
theorem rd_zero2 {u w' : World} {n : Nat} (hB : Below (u.alloc (.cells (zeros8 n) 5)).drew.heap.size (u.alloc (.cells (zeros8 n) 5)).drew w') : Rd w' .u8 (.slice (some ⟨u.heap.size, 0, none⟩) n n) (List.replicate n 0) :=
  Rd.below ((rd_zero0 u n).below (Below.drew (Below.refl _ _)) (Nat.le_refl _)) hB (Nat.le_refl _)
theorem nth_replicate (n i : Nat) : (nth (List.replicate n 0) i).toNat = 0 := by
  unfold nth
  rw [List.getD_eq_getElem?_getD, List.getElem?_replicate]
  split <;> rfl
theorem wf_of_u8 {x : Int} (h : 0 ≤ x ∧ x < 256) : (Lit.int .u8 x).wf = true := WalkArith.wf_u8 ⟨h.1, by omega⟩
theorem own_drew {w : World} {B : Nat} {e : TypeId} {s : Nat} {v : Value} {n : Nat} {xs : List Value} (h : w.ownsRow B e s v n xs) : w.drew.ownsRow B e s v n xs :=
  own_below h (Below.drew (Below.refl w.heap.size w)) (Nat.le_refl _)
set_option maxRecDepth 100000 in
set_option maxHeartbeats 1000000 in
theorem sums_any (o : Option Addr) (n cap : Nat) (w : World) (hn : n ≤ 140737488351232) (ha : BytesArg w o n) :
    Calls Try.prog 3 #[.slice o n cap] w fun e w' => e = .returned (.bool true) ∧ Below w.heap.size w w' := by
  have HA := Lib.hid ha
  clear ha
  go_enter Try.func3, Try.ntmps3
  go_wp2_with fail
  go_loopw [3] (fun i wr => ∃ k : Nat, k ≤ n ∧ i = .int .i64 k ∧ Below w.heap.size w wr) (fun i _ => n - (intOf i).toNat)
  case atStart => exact ⟨0, Nat.zero_le _, rfl, Below.refl _ _⟩
  case round =>
    obtain ⟨k, hk, rfl, hB⟩ := hrel
    obtain ⟨wo, rfl⟩ : ∃ wo : World, wo = wr := ⟨_, rfl⟩
    have HB := Lib.hid hB
    clear hB
    by_cases hlt4 : k < n ∧ k < 4
    · obtain ⟨hlt, h4⟩ := hlt4
      obtain ⟨b, off, v, xs, rfl, hcell, hr, hwf, hlen⟩ := HA.out k hlt
      have hcell' := (HB.out.cell (p := ⟨b, off + k * 2, none⟩) (cell_lt hcell)).trans hcell
      have HR := Lib.hid (hr.below HB.out (Nat.le_refl _))
      have HW := Lib.hid hwf
      clear hr hwf hcell
      go_wp2_with fail
      refine (copyBytes_any v xs _ HR.out (by omega)).mono ?_
      rintro e w1 ⟨v1, rfl, hown, hB1⟩
      obtain ⟨a1, c1, rfl⟩ := own_slice hown
      have HO := Lib.hid hown
      have HB1 := Lib.hid hB1
      clear hown hB1
      by_cases hsz : 0 < xs.length ∧ xs.length ≤ 3000
      · obtain ⟨hs0, hs3⟩ := hsz
        obtain ⟨g, c2, he, hg1, hg2⟩ := OwnI.at HO.out hs0
        cases he
        have hb0 : (((xs.length : Nat) : Int) == 0) = false := beq0_false _ (by omega)
        go_wp2_with fail
        refine (copyBytes_any _ xs _ (Rd.of_own HO.out) (by omega)).mono ?_
        rintro e w2 ⟨v2, rfl, hown2, hB2⟩
        have HO2 := Lib.hid hown2
        have HB2 := Lib.hid hB2
        clear hown2 hB2
        go_wp2_with fail
        refine (sum_any v2 xs _ (Rd.of_own HO2.out) HW.out (by omega)).mono ?_
        rintro e w3 ⟨rfl, hB3⟩
        have HB3 := Lib.hid ((HB2.out.trans (hB3.mono HB2.out.size)).mono (Nat.le_refl _))
        have HO3 := Lib.hid (own_below HO.out HB3.out (Nat.le_refl _))
        clear hB3 HO2 HB2
        go_wp2_with fail
        have HB4 := Lib.hid (HB1.out.trans (HB3.out.mono HB1.out.size))
        clear HB3 HO HB1
        go_loopw [6] (fun i wr => ∃ j : Nat, j ≤ 10000 ∧ i = .int .i64 j ∧ OwnI wr wo.heap.size 5 .u8 (.slice (some ⟨g, 0, none⟩) xs.length c1) xs ∧ Below wo.heap.size wo wr) (fun i _ => xs.length - (intOf i).toNat)
        case atStart => exact ⟨0, Nat.zero_le _, rfl, HO3.out, HB4.out⟩
        case round =>
          obtain ⟨j, hj, rfl, hown, hB⟩ := hrel
          have HO := Lib.hid hown
          have HBi := Lib.hid hB
          clear hown hB
          by_cases hlj : j < xs.length
          · obtain ⟨hc1, hf1⟩ := OwnI.cell HO.out j hlj
            have hwx := wf_u8 (HW.out.nth j hlj)
            have ht1 := turned_bits (nth xs j) j hwx
            have ht2 := turned_bits _ j (turned_lt (nth xs j) j hwx)
            rw [turned_back _ _ hwx.1] at ht2
            go_wp2
            go_region
            have HT2 := Lib.hid ht2
            clear ht1 ht2 hc1 hf1
            have HO5 := Lib.hid (own_drew (OwnI.set HO.out j (turned (nth xs j) j)))
            have HB5 := Lib.hid ((HBi.out.setCell (p := ⟨g, j, none⟩) hg1 (.int .u8 (turned (nth xs j) j))).drew)
            clear HO HBi
            go_wp2_with fail
            refine (copyBytes_any _ (xs.set j (turned (nth xs j) j)) _ (Rd.of_own HO5.out) (by simp; omega)).mono ?_
            rintro e w6 ⟨v6, rfl, hown6, hB6⟩
            have HO6 := Lib.hid hown6
            have HO7 := Lib.hid (own_below HO5.out hB6 (Nat.le_refl _))
            have HB7 := Lib.hid (HB5.out.trans (hB6.mono HB5.out.size))
            clear hown6 hB6 HO5 HB5
            go_wp2_with fail
            have hwt : Wf .u8 (xs.set j (turned (nth xs j) j)) := fun x hx => by
              rcases List.mem_or_eq_of_mem_set hx with h | rfl
              · exact HW.out x h
              · exact wf_of_u8 (turned_lt _ j hwx)
            refine (sum_any v6 _ _ (Rd.of_own HO6.out) hwt (by simp; omega)).mono ?_
            rintro e w8 ⟨rfl, hB8⟩
            have hne : (((crcSum (xs.set j (turned (nth xs j) j)) : Nat) : Int) == ((crcSum xs : Nat) : Int)) = false := by
              rw [beq_eq_false_iff_ne]
              have := crcSum_set xs j _ (fun x hx => wf_u8 (HW.out x hx)) hlj (turned_lt _ j hwx) (turned_ne _ j hwx.1)
              omega
            have HO9 := Lib.hid (own_below HO7.out hB8 (Nat.le_refl _))
            have HB9 := Lib.hid (HB7.out.trans (hB8.mono HB7.out.size))
            clear hB8 HO6 HO7 HB7 hwt
            obtain ⟨hc9, hf9⟩ := OwnI.cell HO9.out j (by simpa using hlj)
            rw [nth_set _ _ _ hlj] at hc9
            have ht2 := HT2.out
            go_wp2
            go_region
            clear hc9 hf9 ht2
            have HO10 := own_drew (OwnI.set HO9.out j (nth xs j))
            rw [set_set_nth xs j _ hlj] at HO10
            have HB10 := (HB9.out.setCell (p := ⟨g, j, none⟩) hg1 (.int .u8 (nth xs j))).drew
            clear HO9 HB9
            have HO11 := Lib.hid HO10
            have HB11 := Lib.hid HB10
            clear HO10 HB10
            go_wp2
            go_roundw
            case rel => exact ⟨j + 1 + xs.length / 20, by omega, by go_num, HO11.out, HB11.out⟩
            case measure => simp [intOf]; omega
          · obtain ⟨i0, hi, hz0, hz1, hz2⟩ := info_parts info_uint8
            go_wp2_with (at_make; refine wpList_make_full _ rfl _ _ 23 rfl wo.heap.size 5 i0 (.int .u8 0) 1 Try.underlying23 hi hz0 hz1 .i64 .i64 _ _ xs.length rfl rfl rfl rfl (by rw [hz2]; omega) (by unfold maxLen; omega) HBi.out.size ?_; intro w11 hm hg; refine stopHere ?_)
            refine goOn ?_
            have HC := Lib.hid (OwnI.made hm)
            have HB11 := Lib.hid (HBi.out.trans ((grown_below hg).mono HBi.out.size))
            have HO11 := Lib.hid (own_below HO.out (grown_below hg) (Nat.le_refl _))
            have hgc : wo.heap.size ≤ wr.heap.size := HBi.out.size
            have hlt1 : wr.heap.size < w11.heap.size := (HC.out.lt _ rfl).2
            have hgg : g < wr.heap.size := (HO.out.lt _ rfl).2
            clear hm hg HO HBi
            go_wp2_with (at_make; refine wpList_make_full _ rfl _ _ 23 rfl wo.heap.size 5 i0 (.int .u8 0) 1 Try.underlying23 hi hz0 hz1 .i64 .i64 _ _ xs.length rfl rfl rfl rfl (by rw [hz2]; omega) (by unfold maxLen; omega) HB11.out.size ?_; intro w12 hm hg; refine stopHere ?_)
            refine goOn ?_
            have HD := Lib.hid (OwnI.made hm)
            have HB12 := Lib.hid (HB11.out.trans ((grown_below hg).mono HB11.out.size))
            have HO12 := Lib.hid (own_below HO11.out (grown_below hg) (Nat.le_refl _))
            have HC12 := Lib.hid (own_below HC.out (grown_below hg) (Nat.le_refl _))
            clear hm hg HO11 HB11 HC hi hz0 hz1 hz2
            obtain ⟨gc, hgce⟩ : ∃ gc, gc = wr.heap.size := ⟨_, rfl⟩
            obtain ⟨gd, hgde⟩ : ∃ gd, gd = w11.heap.size := ⟨_, rfl⟩
            rw [← hgce] at HC12 hgc hlt1 hgg ⊢
            rw [← hgde] at HD hlt1 ⊢
            clear hgce hgde
            go_wp2_with fail
            go_loopw [9] (fun i wr => ∃ (j : Nat) (cs ds : List Int), j ≤ xs.length ∧ i = .int .i64 j ∧ cs.length = xs.length ∧ ds.length = xs.length ∧
              OwnI wr wo.heap.size 5 .u8 (.slice (some ⟨gc, 0, none⟩) xs.length xs.length) cs ∧ OwnI wr wo.heap.size 5 .u8 (.slice (some ⟨gd, 0, none⟩) xs.length xs.length) ds ∧
              OwnI wr wo.heap.size 5 .u8 (.slice (some ⟨g, 0, none⟩) xs.length c1) xs ∧ Below wo.heap.size wo wr ∧ Wf .u8 cs ∧ Wf .u8 ds ∧
              (∀ i, i < j → (nth xs i).toNat ^^^ (nth cs i).toNat ^^^ (nth ds i).toNat = 0)) (fun i _ => xs.length - (intOf i).toNat)
            case atStart =>
              refine ⟨0, _, _, Nat.zero_le _, rfl, by simp, by simp, HC12.out, HD.out, HO12.out, HB12.out, ?_, ?_, fun _ h => absurd h (Nat.not_lt_zero _)⟩ <;>
                (intro x hx; rw [(List.mem_replicate.1 hx).2]; rfl)
            case round =>
              obtain ⟨j, cs, ds, hj, rfl, hcl, hdl, hC, hD, hO, hB, hcw, hdw, hpre⟩ := hrel
              have HCl := Lib.hid hcl
              have HDl := Lib.hid hdl
              have HC := Lib.hid hC
              have HD := Lib.hid hD
              have HO := Lib.hid hO
              have HBi := Lib.hid hB
              have HCw := Lib.hid hcw
              have HDw := Lib.hid hdw
              have HP := Lib.hid hpre
              clear hcl hdl hC hD hO hB hcw hdw hpre
              by_cases hlj : j < xs.length
              · have hjc : j < cs.length := by rw [HCl.out]; exact hlj
                have hjd : j < ds.length := by rw [HDl.out]; exact hlj
                obtain ⟨hc1, hf1⟩ := OwnI.cell HC.out j hjc
                obtain ⟨hc2, hf2⟩ := OwnI.cell HD.out j hjd
                obtain ⟨hc3, hf3⟩ := OwnI.cell HO.out j hlj
                have hwx := wf_u8 (HW.out.nth j hlj)
                go_wp2_with fail
                obtain ⟨y, hye⟩ : ∃ y : Int, y = (j : Int) * 37 % 256 := ⟨_, rfl⟩
                have hy : 0 ≤ y ∧ y < 256 := by omega
                rw [← hye]
                clear hye hc1 hf1 hc2 hf2 hc3 hf3
                have HC1 := Lib.hid (OwnI.set HC.out j y)
                have HD1 := Lib.hid (own_set_other HD.out (p := ⟨gc, j, none⟩) (by show gc ≠ gd; omega) (.int .u8 y))
                have HO1 := Lib.hid (own_set_other HO.out (p := ⟨gc, j, none⟩) (by show gc ≠ g; omega) (.int .u8 y))
                have HB1 := Lib.hid (HBi.out.setCell (p := ⟨gc, j, none⟩) hgc (.int .u8 y))
                clear HC HD HO HBi
                generalize wr.setCell ⟨gc, j, none⟩ (.int .u8 y) = W at HC1 HD1 HO1 HB1 ⊢
                obtain ⟨hc1, hf1⟩ := OwnI.cell HC1.out j (by simpa using hjc)
                rw [nth_set _ _ _ hjc] at hc1
                obtain ⟨hc2, hf2⟩ := OwnI.cell HD1.out j hjd
                obtain ⟨hc3, hf3⟩ := OwnI.cell HO1.out j hlj
                obtain ⟨z, hze⟩ : ∃ z : Int, z = (((nth xs j).toNat ^^^ y.toNat : Nat) : Int) := ⟨_, rfl⟩
                have hz : bits BinOp.xor IntKind.u8 (nth xs j) y = z := by rw [u8_xor _ _ hwx.1 hwx.2 hy.1 hy.2, hze]
                have hz2 : 0 ≤ z ∧ z < 256 := by
                  have := Nat.xor_lt_two_pow (n := 8) (x := (nth xs j).toNat) (y := y.toNat) (by omega) (by omega)
                  omega
                have HZ := Lib.hid hze
                clear hze
                go_region
                clear hc1 hf1 hc2 hf2 hc3 hf3 hz
                have HC2 := Lib.hid (own_drew (own_set_other HC1.out (p := ⟨gd, j, none⟩) (by show gd ≠ gc; omega) (.int .u8 z)))
                have HD2 := Lib.hid (own_drew (OwnI.set HD1.out j z))
                have HO2 := Lib.hid (own_drew (own_set_other HO1.out (p := ⟨gd, j, none⟩) (by show gd ≠ g; omega) (.int .u8 z)))
                have HB2 := Lib.hid ((HB1.out.setCell (p := ⟨gd, j, none⟩) (by show wo.heap.size ≤ gd; omega) (.int .u8 z)).drew)
                clear HC1 HD1 HO1 HB1
                go_wp2
                go_roundw
                case rel =>
                  refine ⟨j + 1, cs.set j y, ds.set j z, by omega, by go_num, by simpa using HCl.out, by simpa using HDl.out, HC2.out, HD2.out, HO2.out, HB2.out, ?_, ?_, ?_⟩
                  · exact wf_set HCw.out (wf_of_u8 hy)
                  · exact wf_set HDw.out (wf_of_u8 hz2)
                  · intro i hi
                    by_cases e : i = j
                    · subst e
                      rw [nth_set _ _ _ hjc, nth_set _ _ _ hjd, HZ.out, Int.toNat_natCast, Nat.xor_self]
                    · rw [nth_set_ne _ _ _ _ (Ne.symm e), nth_set_ne _ _ _ _ (Ne.symm e)]
                      exact HP.out i (by omega)
                case measure => simp [intOf]; omega
              · obtain rfl : j = xs.length := by omega
                obtain ⟨i0, hi, hz0, hz1, hz2⟩ := info_parts info_uint8
                have hmk : ∀ u : World, (Instr.makeSlice 23 (.int .i64 (xs.length : Int)) (.int .i64 (xs.length : Int))).run Try.prog u =
                    .ok (.slice (some ⟨u.heap.size, 0, none⟩) xs.length xs.length) (u.alloc (.cells (zeros8 xs.length) 5)) := fun u => by
                  have h := run_make (P := Try.prog) u 23 5 i0 (.int .u8 0) Try.underlying23 hi hz0 .i64 .i64 (xs.length : Int) (xs.length : Int) (by omega) (Int.le_refl _) (by rw [hz2]; omega) (by omega)
                  simpa [hz1, zeros8] using h
                clear hi hz0 hz1 hz2
                have hfin : ((((crcSum xs ^^^ crcSum cs ^^^ crcSum ds : Nat) : Int) != ((crcSum (List.replicate xs.length 0) : Nat) : Int))) = false := by
                  rw [crcSum_xor xs cs ds (List.replicate xs.length 0) HCl.out HDl.out (by simp) (fun i hi => by rw [HP.out i hi, nth_replicate])]
                  simp
                have hx1 : bits BinOp.xor IntKind.u32 (crcSum xs : Nat) (crcSum cs : Nat) = ((crcSum xs ^^^ crcSum cs : Nat) : Int) :=
                  u32_xor_nat _ _ (crcSum_lt _ fun x hx => wf_u8 (HW.out x hx)) (crcSum_lt _ fun x hx => wf_u8 (HCw.out x hx))
                have hx2 : bits BinOp.xor IntKind.u32 (crcSum xs ^^^ crcSum cs : Nat) (crcSum ds : Nat) = ((crcSum xs ^^^ crcSum cs ^^^ crcSum ds : Nat) : Int) :=
                  u32_xor_nat _ _ (Nat.xor_lt_two_pow (n := 32) (crcSum_lt _ fun x hx => wf_u8 (HW.out x hx)) (crcSum_lt _ fun x hx => wf_u8 (HCw.out x hx))) (crcSum_lt _ fun x hx => wf_u8 (HDw.out x hx))
                have hcl3 : cs.length ≤ 3000 := by rw [HCl.out]; exact hs3
                have hdl3 : ds.length ≤ 3000 := by rw [HDl.out]; exact hs3
                go_wp2_with fail
                go_region_with (first
                  | (go_at_call_of 10 gc; refine (sum_any _ cs _ ?_ HCw.out (by omega)).mono ?_; exact (Rd.of_own HC.out).below (by first | exact HX.out | exact Below.drew (Below.refl _ _) | exact HX.out.alloc HX.out.size _ | exact Below.drew ((Below.refl _ _).alloc (Nat.le_refl _) _)) (Nat.le_refl _); rintro e w' ⟨rfl, hB⟩; have HX := Lib.hid (keep_call (wr := wr) (by first | exact HX.out | exact Below.drew (Below.refl _ _) | exact HX.out.alloc HX.out.size _ | exact Below.drew ((Below.refl _ _).alloc (Nat.le_refl _) _)) hB); (first | have HZ := Lib.hid (HZ.out.below hB (Nat.le_refl _)) | have HZ := Lib.hid (rd_zero1 hB) | have HZ := Lib.hid (rd_zero2 hB) | skip); clear hB)
                  | (go_at_call_of 10 gd; refine (sum_any _ ds _ ?_ HDw.out (by omega)).mono ?_; exact (Rd.of_own HD.out).below (by first | exact HX.out | exact Below.drew (Below.refl _ _) | exact HX.out.alloc HX.out.size _ | exact Below.drew ((Below.refl _ _).alloc (Nat.le_refl _) _)) (Nat.le_refl _); rintro e w' ⟨rfl, hB⟩; have HX := Lib.hid (keep_call (wr := wr) (by first | exact HX.out | exact Below.drew (Below.refl _ _) | exact HX.out.alloc HX.out.size _ | exact Below.drew ((Below.refl _ _).alloc (Nat.le_refl _) _)) hB); (first | have HZ := Lib.hid (HZ.out.below hB (Nat.le_refl _)) | have HZ := Lib.hid (rd_zero1 hB) | have HZ := Lib.hid (rd_zero2 hB) | skip); clear hB)
                  | (go_at_call 10; refine (sum_any _ (List.replicate xs.length 0) _ ?_ (fun x hx => by rw [(List.mem_replicate.1 hx).2]; rfl) (by simp; omega)).mono ?_; (first | exact HZ.out | exact rd_zero1 (Below.refl _ _)); rintro e w' ⟨rfl, hB⟩; have HX := Lib.hid (keep_call (wr := wr) (by first | exact HX.out | exact HX.out.alloc HX.out.size _) hB); clear hB))
                all_goals
                  have HB20 := Lib.hid (HB.out.trans ((HBi.out.trans (HX.out.mono HBi.out.size)).mono HB.out.size))
                  clear HX HBi HC HD HO hmk hfin hx1 hx2
                  go_wp2
                  go_roundw
                  case rel => exact ⟨k + 1, by omega, by go_num, HB20.out⟩
                  case measure => simp [intOf]; omega
      · by_cases h0 : xs.length = 0
        · have hb0 : (((xs.length : Nat) : Int) == 0) = true := beq0_true _ h0
          clear h0 hsz
          go_wp2
          go_roundw
          case rel => exact ⟨k + 1, by omega, by go_num, HB.out.trans (HB1.out.mono HB.out.size)⟩
          case measure => simp [intOf]; omega
        · have hb0 : (((xs.length : Nat) : Int) == 0) = false := beq0_false _ h0
          have hb3 : 3000 < xs.length := by omega
          clear h0 hsz
          go_wp2
          go_roundw
          case rel => exact ⟨k + 1, by omega, by go_num, HB.out.trans (HB1.out.mono HB.out.size)⟩
          case measure => simp [intOf]; omega
    · by_cases hlt : k < n
      · have h4 : 4 ≤ k := by omega
        go_wp2_with fail
        refine (wakes33_any _).mono ?_
        rintro e w1 ⟨rfl, hB1⟩
        have HB1 := Lib.hid (HB.out.trans (hB1.mono HB.out.size))
        clear hB1
        go_wp2
        go_ret
        exact ⟨rfl, HB1.out⟩
      · go_wp2_with fail
        refine (wakes33_any _).mono ?_
        rintro e w1 ⟨rfl, hB1⟩
        have HB1 := Lib.hid (HB.out.trans (hB1.mono HB.out.size))
        clear hB1
        go_wp2
        go_ret
        exact ⟨rfl, HB1.out⟩
end Go.Proofs.Ytjhejpeklppmbaa
