/-
  alter: a change is made, and kept.
-/
import Derived.Test.YtejmbhckfdfoeaaDAlter
set_option linter.unusedVariables false
set_option linter.unusedSimpArgs false
namespace Go.Proofs.Ytejmbhckfdfoeaa
open Go.RowKit Go.Maps
def AltPost (B : Nat) (w : World) (p bs bf : Nat) (s : DSt) (c : Chg) (e : Ending) (w' : World) : Prop := e = .returned (.tuple #[]) ∧ (∃ cv vs, DRepr B w' p bs bf cv vs (chgS s c)) ∧ Step B w w'
set_option maxRecDepth 100000 in
set_option maxHeartbeats 1000000 in
theorem alter_put {B : Nat} {w : World} {p bs bf : Nat} {cv : Value} {vs : List Value} {s : DSt} (f : Nat) (x : List UInt8) (v : Value) (h : DRepr B w p bs bf cv vs s) (hc : ChgRep w v (.put x f)) (hf : Fits s (.put x f)) :
    Calls Try.prog 37 #[.pointer (some ⟨p, 0, none⟩), v] w (AltPost B w p bs bf s (.put x f)) := by
  have HC := Lib.hid hc
  obtain ⟨cf, cx, rfl, k1, k2, k3⟩ := hc
  have HD := Lib.hid h
  have HF := Lib.hid hf
  have HM := Lib.hid h.seen
  have hml : s.seen.length < maxLen := by have := h.many; unfold maxLen; omega
  obtain ⟨i0, hi, hz0, hz1, hz2⟩ := info_parts info_chg
  have HZ := Lib.hid (And.intro hi (And.intro hz0 (And.intro hz1 hz2)))
  obtain ⟨ac, kc, rfl⟩ := own_slice h.row
  have c0 := h.box.cell 0 rfl
  have hchl := hf.chl
  have HCON := Lib.hid (wput_any cf cx bs f x _ _ k1 k2 k3 HM.out hml)
  clear h hf hi hz0 hz1 hz2 k1 k2 k3 hml
  go_enter Try.func37, Try.ntmps37
  go_wp2_with fail
  refine HCON.out.mono ?_
  rintro e w1 ⟨rfl, hm1, hg1⟩
  have HM1 := Lib.hid hm1
  have HG1 := Lib.hid hg1
  have HD1 := Lib.hid (HD.out.mapped (l := Chg.on s.seen (.put x f)) hm1 hg1 HF.out.in_ HF.out.nm HF.out.len)
  clear hm1 hg1 c0 HCON
  have c2 := HD1.out.1.box.cell 2 rfl
  have hb1 : B ≤ w1.heap.size := Nat.le_of_lt HD1.out.1.baseLt
  go_wp2_with (at_builtin; refine stopHere ?_)
  refine goOn ?_
  refine wpList_append_own _ rfl _ _ 63 rfl B 78 i0 .nilFunc 1 8 Try.underlying63 HZ.out.1 HZ.out.2.1 HZ.out.2.2.1 HZ.out.2.2.2 rfl (by decide) (.slice ac s.chs.length kc) s.chs.length vs rfl (HD1.out.1.row.alloc _) ⟨w1.heap.size, 0, none⟩ 1 1 [(.func (.func 38) #[] #[.pointer (some ⟨cf, 0, none⟩), .pointer (some ⟨cx, 0, none⟩)])] rfl rfl (cell_one_new _ _ _) (by simp [Value.oneCell']) (by unfold maxLen; omega) (by omega) (by simp; omega) ?_
  intro v' w2 hown hgrow hat
  obtain ⟨a2, k2', rfl⟩ := own_slice hown
  have HEND := Lib.hid (HD.out.changed HC.out HF.out HM1.out HG1.out hown hgrow)
  have hbx : Box w2 p 65 #[.map (some bs), .map (some bf), .slice ac s.chs.length kc, .int .i64 s.strokes, .int .i64 s.off, .bool s.dead] := by
    refine (hgrow.block p (by simp; have := HD1.out.1.box.lt; omega) fun e => ?_).trans ((Below.heap_alloc _ _ _ HD1.out.1.box.lt).trans HD1.out.1.box)
    have hr := HD1.out.1.row
    rcases hr.2 with ⟨h0, _⟩ | ⟨g, cap, cur, h0, hb, hgg, rest⟩
    · rw [h0] at e; cases e
    · rw [h0] at e
      cases e
      have hx := HD1.out.1.box
      unfold Box at hx
      rw [hgg] at hx
      simp at hx
  have c2' := hbx.cell 2 rfl
  have f2' := hbx.free 2
  clear hown hgrow hat hbx c2
  go_wp2_with fail
  go_end0
  exact ⟨rfl, ⟨_, _, HEND.out.1⟩, HEND.out.2⟩
set_option maxRecDepth 100000 in
set_option maxHeartbeats 1000000 in
theorem alter_mv {B : Nat} {w : World} {p bs bf : Nat} {cv : Value} {vs : List Value} {s : DSt} (f : Nat) (a b : List UInt8) (v : Value) (h : DRepr B w p bs bf cv vs s) (hc : ChgRep w v (.mv a b f)) (hf : Fits s (.mv a b f)) :
    Calls Try.prog 37 #[.pointer (some ⟨p, 0, none⟩), v] w (AltPost B w p bs bf s (.mv a b f)) := by
  have HC := Lib.hid hc
  obtain ⟨ca, cf, cb, rfl, k1, k2, k3, k4, k5⟩ := hc
  have HD := Lib.hid h
  have HF := Lib.hid hf
  have HM := Lib.hid h.seen
  have hml : s.seen.length < maxLen := by have := h.many; unfold maxLen; omega
  obtain ⟨i0, hi, hz0, hz1, hz2⟩ := info_parts info_chg
  have HZ := Lib.hid (And.intro hi (And.intro hz0 (And.intro hz1 hz2)))
  obtain ⟨ac, kc, rfl⟩ := own_slice h.row
  have c0 := h.box.cell 0 rfl
  have hchl := hf.chl
  have HCON := Lib.hid (wmv_any ca cf cb bs f a b _ _ k1 k2 k3 k4 k5 HM.out hml)
  clear h hf hi hz0 hz1 hz2 k1 k2 k3 k4 k5 hml
  go_enter Try.func37, Try.ntmps37
  go_wp2_with fail
  refine HCON.out.mono ?_
  rintro e w1 ⟨rfl, hm1, hg1⟩
  have HM1 := Lib.hid hm1
  have HG1 := Lib.hid hg1
  have HD1 := Lib.hid (HD.out.mapped (l := Chg.on s.seen (.mv a b f)) hm1 hg1 HF.out.in_ HF.out.nm HF.out.len)
  clear hm1 hg1 c0 HCON
  have c2 := HD1.out.1.box.cell 2 rfl
  have hb1 : B ≤ w1.heap.size := Nat.le_of_lt HD1.out.1.baseLt
  go_wp2_with (at_builtin; refine stopHere ?_)
  refine goOn ?_
  refine wpList_append_own _ rfl _ _ 63 rfl B 78 i0 .nilFunc 1 8 Try.underlying63 HZ.out.1 HZ.out.2.1 HZ.out.2.2.1 HZ.out.2.2.2 rfl (by decide) (.slice ac s.chs.length kc) s.chs.length vs rfl (HD1.out.1.row.alloc _) ⟨w1.heap.size, 0, none⟩ 1 1 [(.func (.func 40) #[] #[.pointer (some ⟨ca, 0, none⟩), .pointer (some ⟨cf, 0, none⟩), .pointer (some ⟨cb, 0, none⟩)])] rfl rfl (cell_one_new _ _ _) (by simp [Value.oneCell']) (by unfold maxLen; omega) (by omega) (by simp; omega) ?_
  intro v' w2 hown hgrow hat
  obtain ⟨a2, k2', rfl⟩ := own_slice hown
  have HEND := Lib.hid (HD.out.changed HC.out HF.out HM1.out HG1.out hown hgrow)
  have hbx : Box w2 p 65 #[.map (some bs), .map (some bf), .slice ac s.chs.length kc, .int .i64 s.strokes, .int .i64 s.off, .bool s.dead] := by
    refine (hgrow.block p (by simp; have := HD1.out.1.box.lt; omega) fun e => ?_).trans ((Below.heap_alloc _ _ _ HD1.out.1.box.lt).trans HD1.out.1.box)
    have hr := HD1.out.1.row
    rcases hr.2 with ⟨h0, _⟩ | ⟨g, cap, cur, h0, hb, hgg, rest⟩
    · rw [h0] at e; cases e
    · rw [h0] at e
      cases e
      have hx := HD1.out.1.box
      unfold Box at hx
      rw [hgg] at hx
      simp at hx
  have c2' := hbx.cell 2 rfl
  have f2' := hbx.free 2
  clear hown hgrow hat hbx c2
  go_wp2_with fail
  go_end0
  exact ⟨rfl, ⟨_, _, HEND.out.1⟩, HEND.out.2⟩
set_option maxRecDepth 100000 in
set_option maxHeartbeats 1000000 in
theorem alter_del {B : Nat} {w : World} {p bs bf : Nat} {cv : Value} {vs : List Value} {s : DSt} (x : List UInt8)  (v : Value) (h : DRepr B w p bs bf cv vs s) (hc : ChgRep w v (.del x)) (hf : Fits s (.del x)) :
    Calls Try.prog 37 #[.pointer (some ⟨p, 0, none⟩), v] w (AltPost B w p bs bf s (.del x)) := by
  have HC := Lib.hid hc
  obtain ⟨cx, rfl, k1, k2⟩ := hc
  have HD := Lib.hid h
  have HF := Lib.hid hf
  have HM := Lib.hid h.seen
  have hml : s.seen.length < maxLen := by have := h.many; unfold maxLen; omega
  obtain ⟨i0, hi, hz0, hz1, hz2⟩ := info_parts info_chg
  have HZ := Lib.hid (And.intro hi (And.intro hz0 (And.intro hz1 hz2)))
  obtain ⟨ac, kc, rfl⟩ := own_slice h.row
  have c0 := h.box.cell 0 rfl
  have hchl := hf.chl
  have HCON := Lib.hid (wdel_any cx bs x _ _ k1 k2 HM.out)
  clear h hf hi hz0 hz1 hz2 k1 k2 hml
  go_enter Try.func37, Try.ntmps37
  go_wp2_with fail
  refine HCON.out.mono ?_
  rintro e w1 ⟨rfl, hm1, hg1⟩
  have HM1 := Lib.hid hm1
  have HG1 := Lib.hid hg1
  have HD1 := Lib.hid (HD.out.mapped (l := Chg.on s.seen (.del x)) hm1 hg1 HF.out.in_ HF.out.nm HF.out.len)
  clear hm1 hg1 c0 HCON
  have c2 := HD1.out.1.box.cell 2 rfl
  have hb1 : B ≤ w1.heap.size := Nat.le_of_lt HD1.out.1.baseLt
  go_wp2_with (at_builtin; refine stopHere ?_)
  refine goOn ?_
  refine wpList_append_own _ rfl _ _ 63 rfl B 78 i0 .nilFunc 1 8 Try.underlying63 HZ.out.1 HZ.out.2.1 HZ.out.2.2.1 HZ.out.2.2.2 rfl (by decide) (.slice ac s.chs.length kc) s.chs.length vs rfl (HD1.out.1.row.alloc _) ⟨w1.heap.size, 0, none⟩ 1 1 [(.func (.func 41) #[] #[.pointer (some ⟨cx, 0, none⟩)])] rfl rfl (cell_one_new _ _ _) (by simp [Value.oneCell']) (by unfold maxLen; omega) (by omega) (by simp; omega) ?_
  intro v' w2 hown hgrow hat
  obtain ⟨a2, k2', rfl⟩ := own_slice hown
  have HEND := Lib.hid (HD.out.changed HC.out HF.out HM1.out HG1.out hown hgrow)
  have hbx : Box w2 p 65 #[.map (some bs), .map (some bf), .slice ac s.chs.length kc, .int .i64 s.strokes, .int .i64 s.off, .bool s.dead] := by
    refine (hgrow.block p (by simp; have := HD1.out.1.box.lt; omega) fun e => ?_).trans ((Below.heap_alloc _ _ _ HD1.out.1.box.lt).trans HD1.out.1.box)
    have hr := HD1.out.1.row
    rcases hr.2 with ⟨h0, _⟩ | ⟨g, cap, cur, h0, hb, hgg, rest⟩
    · rw [h0] at e; cases e
    · rw [h0] at e
      cases e
      have hx := HD1.out.1.box
      unfold Box at hx
      rw [hgg] at hx
      simp at hx
  have c2' := hbx.cell 2 rfl
  have f2' := hbx.free 2
  clear hown hgrow hat hbx c2
  go_wp2_with fail
  go_end0
  exact ⟨rfl, ⟨_, _, HEND.out.1⟩, HEND.out.2⟩
end Go.Proofs.Ytejmbhckfdfoeaa
