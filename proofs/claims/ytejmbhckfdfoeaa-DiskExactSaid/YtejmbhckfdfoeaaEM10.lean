/-
  DiskSafe, in plain: what is kept of a name that was synced; what a crash leaves may be a disk's files.
-/
import Derived.Test.YtejmbhckfdfoeaaEM08
import Derived.Test.YtejmbhckfdfoeaaEM09
set_option linter.unusedVariables false
set_option linter.unusedSimpArgs false
namespace Go.Proofs.Ytejmbhckfdfoeaa
open Go.RowKit Go.Maps
def keptN : List UInt8 := [107, 101, 112, 116]
def keptB : List Int := [107, 101, 112, 116]
/-- a list of names that may be, that leads from the kept name to this file -/
structure OkL (ids : List Nat) (f : Nat) (l : NM) : Prop where
  mem : ∀ q ∈ l, q.2 ∈ ids ∧ goodNm q.1 = true
  len : l.length ≤ 16
  get : lget l keptN = some f
theorem OkL.mono {ids ids' : List Nat} {f : Nat} {l : NM} (h : OkL ids f l) (hi : ∀ k ∈ ids, k ∈ ids') : OkL ids' f l := ⟨fun q hq => ⟨hi _ (h.mem q hq).1, (h.mem q hq).2⟩, h.len, h.get⟩
theorem OkL.id {ids : List Nat} {f : Nat} {l : NM} (h : OkL ids f l) : f ∈ ids := (h.mem _ (lget_mem h.get)).1
theorem Chg.ris {l : NM} (h : Ris l) (c : Chg) : Ris (c.on l) := by
  cases c with
  | put x f => exact h.put x f
  | mv a b f => exact (h.del a).put b f
  | del x => exact h.del x
theorem runC_ris {l : NM} (h : Ris l) (cs : List Chg) : Ris (runC l cs) := by
  induction cs generalizing l with
  | nil => exact h
  | cons c r ih => exact ih (Chg.ris h c)
structure Inv (s : DSt) (f : Nat) : Prop where
  run : s.seen = runC s.safe s.chs
  all : ∀ n, n ≤ s.chs.length → OkL s.ids f (runC s.safe (s.chs.take n))
  ris : Ris s.safe
  hby : s.by_ f = keptB
  hsf : s.sf f = keptB
theorem Inv.now {s : DSt} {f : Nat} (h : Inv s f) : OkL s.ids f s.seen := by
  have := h.all s.chs.length (Nat.le_refl _)
  rwa [List.take_length, ← h.run] at this
theorem Inv.seenRis {s : DSt} {f : Nat} (h : Inv s f) : Ris s.seen := by rw [h.run]; exact runC_ris h.ris _
theorem Inv.stroke {s : DSt} {f : Nat} (h : Inv s f) : Inv (strokeS s) f := ⟨h.run, h.all, h.ris, h.hby, h.hsf⟩
theorem Inv.change {s s' : DSt} {f : Nat} (h : Inv s f) (c : Chg) (h1 : s'.seen = c.on s.seen) (h2 : s'.safe = s.safe) (h3 : s'.chs = s.chs ++ [c]) (hi : ∀ k ∈ s.ids, k ∈ s'.ids) (hb : s'.by_ f = keptB) (hf : s'.sf f = keptB) (hok : OkL s'.ids f (c.on s.seen)) : Inv s' f := by
  refine ⟨by rw [h1, h2, h3, runC_snoc, ← h.run], fun n hn => ?_, by rw [h2]; exact h.ris, hb, hf⟩
  rw [h2, h3]
  rw [h3, List.length_append, List.length_singleton] at hn
  rcases Nat.lt_or_ge n (s.chs.length + 1) with hlt | hge
  · rw [List.take_append_of_le_length (by omega)]
    exact (h.all n (by omega)).mono hi
  · rw [List.take_of_length_le (by simp; omega), runC_snoc, ← h.run]
    exact hok
theorem okL_put {ids : List Nat} {f g : Nat} {l : NM} (h : OkL ids f l) (hr : Ris l) (x : List UInt8) (hx : goodNm x = true) (hne : x ≠ keptN) (hg : g ∈ ids) (hlen : ¬ (lget l x = none ∧ l.length = 16)) : OkL ids f (lput l x g) := by
  refine ⟨fun q hq => ?_, ?_, by rw [lget_put_other hr (fun e => hne e.symm)]; exact h.get⟩
  · rcases lput_mem hq with rfl | hq
    · exact ⟨hg, hx⟩
    · exact h.mem q hq
  · rw [lput_length hr]
    have := h.len
    cases hgx : lget l x with
    | some k => simpa using this
    | none =>
      have h15 : l.length ≠ 16 := fun e => hlen ⟨hgx, e⟩
      simp
      omega
theorem okL_del {ids : List Nat} {f : Nat} {l : NM} (h : OkL ids f l) (hr : Ris l) (x : List UInt8) (hne : x ≠ keptN) : OkL ids f (ldel l x) :=
  ⟨fun q hq => h.mem q (ldel_mem hq), Nat.le_trans (List.length_filter_le _ _) h.len, by rw [lget_del_other hr (fun e => hne e.symm)]; exact h.get⟩
theorem Inv.write {s : DSt} {f g : Nat} (h : Inv s f) (x : List UInt8) (xs : List Int) (hx : goodNm x = true) (hne : x ≠ keptN) (hg : g ∉ s.ids) (hlen : ¬ (lget s.seen x = none ∧ s.seen.length = 16)) : Inv (writeS (strokeS s) x g xs) f := by
  have hfg : f ≠ g := fun e => hg (e ▸ h.now.id)
  refine h.change (.put x g) rfl rfl rfl (fun k hk => List.mem_cons_of_mem _ hk) ?_ ?_ ?_
  · show updF s.by_ g xs f = keptB
    simp only [updF, if_neg hfg]; exact h.hby
  · show updF s.sf g [] f = keptB
    simp only [updF, if_neg hfg]; exact h.hsf
  · exact okL_put (h.now.mono fun k hk => List.mem_cons_of_mem _ hk) h.seenRis x hx hne (List.mem_cons_self ..) hlen
theorem Inv.rename {s : DSt} {f g : Nat} (h : Inv s f) (a b : List UInt8) (hb : goodNm b = true) (hna : a ≠ keptN) (hnb : b ≠ keptN) (hg : lget s.seen a = some g) : Inv (chgS (strokeS s) (.mv a b g)) f := by
  refine h.change (.mv a b g) rfl rfl rfl (fun k hk => hk) h.hby h.hsf ?_
  refine okL_put (okL_del h.now h.seenRis a hna) (h.seenRis.del a) b hb hnb (h.now.mem _ (lget_mem hg)).1 (fun hc => ?_)
  have := ldel_length h.seenRis a
  rw [hg] at this
  have h16 := h.now.len
  simp at this
  omega
theorem Inv.remove {s : DSt} {f : Nat} (h : Inv s f) (x : List UInt8) (hne : x ≠ keptN) : Inv (chgS (strokeS s) (.del x)) f :=
  h.change (.del x) rfl rfl rfl (fun k hk => hk) h.hby h.hsf (okL_del h.now h.seenRis x hne)
theorem Inv.sync {s : DSt} {f : Nat} (h : Inv s f) (g : Nat) : Inv (syncS s g) f := by
  unfold syncS
  cases offB s with
  | true => exact h.stroke
  | false =>
    refine ⟨h.run, h.all, h.ris, h.hby, ?_⟩
    show updF s.sf g (s.by_ g) f = keptB
    unfold updF
    split
    · rename_i e; rw [← e]; exact h.hby
    · exact h.hsf
theorem Inv.dir {s : DSt} {f : Nat} (h : Inv s f) : Inv (syncDirS s) f := by
  unfold syncDirS
  cases offB s with
  | true => exact h.stroke
  | false =>
    refine ⟨rfl, fun n hn => ?_, h.seenRis, h.hby, h.hsf⟩
    have : n = 0 := by simpa using hn
    subst this
    exact h.now
/-! ### what a crash leaves -/
theorem crash_keep (s : DSt) : ∀ (l : NM) (acc : List FileD × List Int) (g : FileD), g ∈ acc.1 → g ∈ (l.foldl (crashStep s) acc).1
  | [], _, _, h => h
  | q :: r, acc, g, h => by
    rw [List.foldl_cons]
    refine crash_keep s r _ g ?_
    unfold crashStep
    split <;> simp [h]
theorem crash_mem (s : DSt) {q : List UInt8 × Nat} (he : s.by_ q.2 = s.sf q.2) : ∀ (l : NM) (acc : List FileD × List Int), q ∈ l → (⟨q.1, s.sf q.2⟩ : FileD) ∈ (l.foldl (crashStep s) acc).1
  | q' :: r, acc, h => by
    rw [List.foldl_cons]
    rcases List.mem_cons.1 h with rfl | h
    · refine crash_keep s r _ _ ?_
      unfold crashStep
      rw [if_pos he]
      simp
    · exact crash_mem s he r _ h
theorem crash_names (s : DSt) : ∀ (l : NM) (acc : List FileD × List Int), (l.foldl (crashStep s) acc).1.map (·.nm) = acc.1.map (·.nm) ++ l.map (·.1)
  | [], acc => by simp
  | q :: r, acc => by
    rw [List.foldl_cons, crash_names s r]
    unfold crashStep
    split <;> simp
theorem crash_data (s : DSt) {N : Nat} : ∀ (l : NM) (acc : List FileD × List Int), (∀ g ∈ acc.1, g.da.length ≤ N) → (∀ q ∈ l, (s.by_ q.2).length ≤ N ∧ (s.sf q.2).length ≤ N) → ∀ g ∈ (l.foldl (crashStep s) acc).1, g.da.length ≤ N
  | [], _, h, _ => h
  | q :: r, acc, h, hl => by
    rw [List.foldl_cons]
    have hq := hl q (List.mem_cons_self ..)
    refine crash_data s r _ (fun g hg => ?_) (fun q' hq' => hl q' (List.mem_cons_of_mem _ hq'))
    unfold crashStep at hg
    split at hg
    · rcases List.mem_append.1 hg with hg | hg
      · exact h g hg
      · rw [List.mem_singleton.1 hg]; exact hq.2
    · rcases List.mem_append.1 hg with hg | hg
      · exact h g hg
      · rw [List.mem_singleton.1 hg]
        show (pickB s q.2 _).length ≤ N
        unfold pickB
        split
        · exact Nat.le_trans (by simp; omega) hq.1
        · exact hq.2
theorem mayB_of {fs : List FileD} {l : NM} (hn : fs.map (·.nm) = l.map (·.1)) (hr : Ris l) (hg : ∀ q ∈ l, goodNm q.1 = true) (hl : l.length ≤ 16) (hd : ∀ g ∈ fs, g.da.length ≤ 4194304) : mayB fs = true := by
  have hlen : fs.length = l.length := by have := congrArg List.length hn; simpa using this
  have hnm : ∀ i (hi : i < fs.length), (fnth fs i).nm = (l[i]'(by omega)).1 := fun i hi => by
    have h1 : (fs.map (·.nm))[i]? = (l.map (·.1))[i]? := by rw [hn]
    rw [List.getElem?_map, List.getElem?_map, List.getElem?_eq_getElem hi, List.getElem?_eq_getElem (by omega)] at h1
    simp at h1
    rw [fnth, List.getD_eq_getElem?_getD, List.getElem?_eq_getElem hi]
    exact h1
  rw [mayB, Bool.and_eq_true, decide_eq_true_eq]
  refine ⟨by omega, List.all_eq_true.2 fun i hi => ?_⟩
  have hi' : i < fs.length := List.mem_range.1 hi
  simp only [okAt, Bool.and_eq_true, Bool.or_eq_true, decide_eq_true_eq]
  refine ⟨?_, hd _ (fnth_mem fs i hi'), ?_⟩
  · rw [hnm i hi']; exact hg _ (List.getElem_mem _)
  · rcases Nat.eq_zero_or_pos i with h0 | h0
    · exact .inl h0
    · refine .inr ?_
      rw [bytesLess_eq, decide_eq_true_eq, hnm i hi', hnm (i - 1) (by omega)]
      exact List.pairwise_iff_getElem.1 hr (i - 1) i (by omega) (by omega) (by omega)
theorem Inv.left {s : DSt} {f : Nat} (h : Inv s f) (pk : List Int) : OkL s.ids f (crashLeft s pk) := h.all _ (crashN_le s pk)
theorem Inv.leftRis {s : DSt} {f : Nat} (h : Inv s f) (pk : List Int) : Ris (crashLeft s pk) := runC_ris h.ris _
theorem Inv.crashNames {s : DSt} {f : Nat} (h : Inv s f) (pk : List Int) : (crashR s pk).map (·.nm) = (crashLeft s pk).map (·.1) := by
  have := crash_names s (crashLeft s pk) ([], pk.tail)
  simpa [crashR, crashOf] using this
theorem Inv.crashMay {B : Nat} {w : World} {p bs bf : Nat} {cv : Value} {vs : List Value} {s : DSt} {f : Nat} (h : Inv s f) (hd : DRepr B w p bs bf cv vs s) (pk : List Int) : mayB (crashR s pk) = true := by
  refine mayB_of (h.crashNames pk) (h.leftRis pk) (fun q hq => ((h.left pk).mem q hq).2) (h.left pk).len ?_
  refine crash_data s (crashLeft s pk) ([], pk.tail) (fun g hg => by simp at hg) (fun q hq => ?_)
  obtain ⟨⟨vb, vs', _, h1, h2⟩, _⟩ := hd.files _ ((h.left pk).mem q hq).1
  exact ⟨h1.len, h2.len⟩
theorem Inv.crashLen {s : DSt} {f : Nat} (h : Inv s f) (pk : List Int) : (crashR s pk).length ≤ 16 := by
  have := congrArg List.length (h.crashNames pk)
  have h2 := (h.left pk).len
  simp at this
  omega
theorem Inv.crashKept {s : DSt} {f : Nat} (h : Inv s f) (pk : List Int) : (⟨keptN, keptB⟩ : FileD) ∈ crashR s pk := by
  have := crash_mem s (q := (keptN, f)) (by rw [h.hby, h.hsf]) (crashLeft s pk) ([], pk.tail) (lget_mem (h.left pk).get)
  rw [h.hsf] at this
  exact this
theorem SeenIs.list {s : DSt} {l : List FileD} (h : SeenIs s l) : s.seen.map (fdOf s) = l := by
  have := congrArg (List.map fun (p : List UInt8 × List Int) => (⟨p.1, p.2⟩ : FileD)) h.seen
  show s.seen.map (fun q => (⟨q.1, s.by_ q.2⟩ : FileD)) = l
  simpa [Function.comp_def] using this
end Go.Proofs.Ytejmbhckfdfoeaa
/-
  THE REFERENCE'S find, stroke, end.
-/
set_option linter.unusedVariables false
set_option linter.unusedSimpArgs false
namespace Go.Proofs.Ytejmbhckfdfoeaa
open Go.RowKit Go.Maps
theorem lget_at {l : NM} (hr : Ris l) {k : Nat} (hk : k < l.length) : lget l (enth l k).1 = some (enth l k).2 := (lget_some hr).2 (by rw [enth_eq l k hk]; exact List.getElem_mem hk)
theorem lget_no {l : NM} {x : List UInt8} (h : ∀ j, j < l.length → (enth l j).1 ≠ x) : lget l x = none := lget_none.2 fun p hp => by
  obtain ⟨i, hi, rfl⟩ := List.mem_iff_getElem.1 hp
  have := h i hi
  rwa [enth_eq l i hi] at this
set_option maxRecDepth 100000 in
set_option maxHeartbeats 4000000 in
theorem rfind_any {B : Nat} {w : World} {r : Nat} {vl vr : Value} {t : DSt} (h : RRepr B w r vl vr t) (hw : RWf t) (hris : Ris t.safe) (x : List UInt8) :
    Calls Try.prog 61 #[.pointer (some ⟨r, 0, none⟩), .string ⟨x.toArray⟩] w fun e w' => e = .returned (ptrV (lget (runC t.safe t.chs) x)) ∧ Below w.heap.size w w' := by
  have HR := Lib.hid h
  have HW := Lib.hid hw
  have hchl := hw.chl
  have c1 := h.box.cell 1 rfl
  obtain ⟨avr, kvr, rfl⟩ := own_slice h.row
  have hris' := runC_ris hris t.chs
  obtain ⟨m, hm⟩ : ∃ m, m = runC t.safe t.chs := ⟨_, rfl⟩
  rw [← hm] at hris' ⊢
  have HRIS := Lib.hid hris'
  have HMM := Lib.hid (show runC t.safe (t.chs.take t.chs.length) = m by rw [List.take_length, hm])
  have HLN := Lib.hid (show ∀ p ∈ m, p.1.length ≤ maxLen by have := hw.lens (Nat.le_refl _); rwa [List.take_length, ← hm] at this)
  have hml : m.length ≤ 16 := by have := (hw.all _ (Nat.le_refl _)).2; rwa [List.take_length, ← hm] at this
  clear h hw hris hris' hm
  go_enter Try.func61, Try.ntmps61
  go_wp2_with fail
  clear c1
  refine (rlist_any HR.out HW.out t.chs.length (Nat.le_refl _)).mono ?_
  rintro e w2 ⟨⟨v2, rfl, ho2⟩, hb2⟩
  rw [HMM.out] at ho2
  obtain ⟨a2, k2, rfl⟩ := own_slice ho2
  have HE := Lib.hid (ho2.rd HLN.out).cells
  have HB := Lib.hid hb2
  clear ho2 hb2
  go_wp2_with fail
  go_loopg [6] m.length (fun g i wr => ∃ k : Nat, g = m.length - k ∧ k ≤ m.length ∧ i = .int .i64 k ∧ (∀ j, j < k → (enth m j).1 ≠ x) ∧ wr = w2)
  case atStart => exact ⟨0, rfl, Nat.zero_le _, rfl, fun j hj => by omega, rfl⟩
  case round =>
    obtain ⟨k, hg, hk, rfl, hno, rfl⟩ := hrel
    have HNO := Lib.hid hno
    clear hno
    by_cases hlt : k < m.length
    · obtain ⟨b, off, rfl, c0, c1⟩ := HE.out.2.2.2 k hlt
      have HG := Lib.hid (lget_at HRIS.out hlt)
      obtain ⟨q, hq⟩ : ∃ q, q = enth m k := ⟨_, rfl⟩
      rw [← hq] at c0 c1 HG
      obtain ⟨nm, f⟩ := q
      simp only at c0 c1
      simp only [encStr] at c0
      simp only [ptrV] at c1
      have HQ := Lib.hid hq
      clear hq
      cases hb : (nm == x) with
      | true =>
        have HX := Lib.hid (show nm = x by simpa using hb)
        go_wp2_with fail
        clear hb
        go_ret
        exact ⟨by have h : lget m nm = some f := HG.out; rw [HX.out] at h; rw [h]; rfl, HB.out⟩
      | false =>
        have HX := Lib.hid (show nm ≠ x by simpa using hb)
        go_wp2_with fail
        clear hb c0 c1
        go_roundg (m.length - (k + 1))
        case measure => omega
        case rel =>
          refine ⟨k + 1, rfl, hlt, by go_num, fun j hj => ?_, rfl⟩
          rcases Nat.lt_or_ge j k with h | h
          · exact HNO.out j h
          · have : j = k := by omega
            subst this
            rw [← HQ.out]; exact HX.out
    · have hke : k = m.length := by omega
      subst hke
      go_wp2_with fail
      go_ret
      exact ⟨by rw [lget_no HNO.out]; rfl, HB.out⟩
theorem rend_any {w : World} {r : Nat} {b : Bool} {e0 : Int} (h : w.cell? ⟨r, 4, none⟩ = some (.bool b)) :
    Calls Try.prog 63 #[.pointer (some ⟨r, 0, none⟩), .int .i64 e0] w fun e w' => e = .returned (.int .i64 (bif b then 6 else e0)) ∧ w = w' := by
  cases b with
  | true =>
    go_enter Try.func63, Try.ntmps63
    go_wp2
    go_ret
    exact ⟨rfl, rfl⟩
  | false =>
    go_enter Try.func63, Try.ntmps63
    go_wp2
    go_ret
    exact ⟨rfl, rfl⟩
theorem RRepr.boxed {B : Nat} {w w' : World} {r : Nat} {vl vr : Value} {t t' : DSt} (h : RRepr B w r vl vr t) (hk : ∀ k, k ≠ r → w'.heap[k]? = w.heap[k]?) (hb : Box w' r 84 #[vl, vr, .int .i64 t'.strokes, .int .i64 t'.off, .bool t'.dead])
    (h1 : t'.safe = t.safe) (h2 : t'.chs = t.chs) (h3 : t'.ids = t.ids) (h4 : t'.by_ = t.by_) (h5 : t'.sf = t.sf) : RRepr B w' r vl vr t' := by
  have hrow : ∀ {e : TypeId} {s n : Nat} {v : Value} {xs : List Value}, w.ownsRow B e s v n xs → e ≠ 84 → w'.ownsRow B e s v n xs := fun {e s n v xs} ho hne => by
    refine ⟨ho.1, ?_⟩
    rcases ho.2 with hn | ⟨g, cap, cur, rfl, hbb, hgg, rest⟩
    · exact .inl hn
    · refine .inr ⟨g, cap, cur, rfl, hbb, (hk g fun e' => ?_).trans hgg, rest⟩
      subst e'
      have := h.box
      unfold Box at this
      rw [hgg] at this
      simp at this
      exact hne this.2
  have hu : KeepU w w' := fun k cs fz hkk => (hk k fun e' => by
    subst e'
    have := h.box
    unfold Box at this
    rw [hkk] at this
    simp at this).trans hkk
  refine ⟨hb, by rw [h1]; exact hrow h.safe (by decide), by rw [h2]; exact hrow h.row (by decide), fun f hf => ?_, h.hr⟩
  rw [h3] at hf
  obtain ⟨va, vb, k1, k2, k3, k4⟩ := h.files f hf
  rw [h4, h5]
  exact ⟨va, vb, (hk f (k1.ne_type h.box (by decide))).trans k1, k2.moveU hu, k3.moveU hu, k4⟩
set_option maxRecDepth 100000 in
set_option maxHeartbeats 2000000 in
theorem rstroke_any {B : Nat} {w : World} {r : Nat} {vl vr : Value} {t : DSt} (h : RRepr B w r vl vr t) (hst : 0 ≤ t.strokes ∧ t.strokes < 1000000) (hd : t.dead = false) (ho : t.off < 1 ∨ t.strokes < t.off) (hob : -9223372036854775808 ≤ t.off ∧ t.off ≤ 9223372036854775807) :
    Calls Try.prog 60 #[.pointer (some ⟨r, 0, none⟩)] w fun e w' => e = .returned (.bool (offB t)) ∧ RRepr B w' r vl vr (strokeS t) ∧ Below B w w' ∧ w'.heap.size = w.heap.size ∧ ∀ k, k ≠ r → w'.heap[k]? = w.heap[k]? := by
  obtain ⟨ss, hss⟩ : ∃ ss, ss = t.strokes := ⟨_, rfl⟩
  obtain ⟨of, hof⟩ : ∃ of, of = t.off := ⟨_, rfl⟩
  have hb := h.box
  rw [← hss, ← hof, hd] at hb
  rw [← hss] at hst ho
  rw [← hof] at ho hob
  have HB := Lib.hid hb
  have HR := Lib.hid h
  have hBr := h.hr
  have hBw : B ≤ w.heap.size := Nat.le_of_lt h.base
  have c2 := hb.cell 2 rfl
  have f2 := hb.free 2
  obtain ⟨w1, hw1⟩ : ∃ w1, w1 = w.setCell ⟨r, 2, none⟩ (.int .i64 (ss + 1)) := ⟨_, rfl⟩
  have HB1 := Lib.hid (show Box w1 r 84 #[vl, vr, .int .i64 (ss + 1), .int .i64 of, .bool false] by rw [hw1]; exact hb.set 2 _)
  have HK1 := Lib.hid (show ∀ k, k ≠ r → w1.heap[k]? = w.heap[k]? from fun k hk => by rw [hw1]; exact Below.heap_setCell _ _ _ _ hk)
  have HL1 := Lib.hid (show Below B w w1 ∧ w1.heap.size = w.heap.size from ⟨by rw [hw1]; exact (Below.refl B w).setCell (p := ⟨r, 2, none⟩) hBr _, by rw [hw1]; simp [World.setCell]⟩)
  have HW1 := Lib.hid hw1
  have HO : Hid (offB t = decide (1 ≤ of ∧ of = ss + 1)) := Lib.hid (by
    rw [offB, ← hss, ← hof, Bool.eq_iff_iff, Bool.and_eq_true, decide_eq_true_eq, decide_eq_true_eq, decide_eq_true_eq]
    omega)
  have HT := Lib.hid (And.intro hss (And.intro hof hd))
  clear h hb hss hof hd hw1
  go_enter Try.func60, Try.ntmps60
  go_wp2_with fail
  rw [← HW1.out]
  clear HW1 c2 f2
  have b2 := HB1.out.cell 2 rfl
  have b3 := HB1.out.cell 3 rfl
  have HEND := Lib.hid (fun (w' : World) (dd : Bool) (hb' : Box w' r 84 #[vl, vr, .int .i64 (ss + 1), .int .i64 of, .bool dd]) (hk : ∀ k, k ≠ r → w'.heap[k]? = w.heap[k]?) (hd : offB t = dd) => show RRepr B w' r vl vr (strokeS t) from HR.out.boxed hk (by
    have h1 := HT.out
    show Box w' r _ #[vl, vr, .int .i64 (t.strokes + 1), .int .i64 t.off, .bool (offB t)]
    rw [← h1.1, ← h1.2.1, hd]; exact hb') rfl rfl rfl rfl rfl)
  by_cases hc : 1 ≤ of ∧ of = ss + 1
  · have HC := Lib.hid (show offB t = true by rw [HO.out]; exact decide_eq_true hc)
    obtain ⟨g1, g2⟩ := hc
    subst g2
    have e1 : decide (1 ≤ ss + 1) = true := decide_eq_true g1
    go_cut [25] (fun v wx => v = .bool true ∧ Same w1 wx)
    case first =>
      go_quiet (fail)
      all_goals (go_wp2_with fail; go_meet; exact ⟨rfl, ⟨_, rfl⟩⟩)
    case rest =>
      obtain ⟨rfl, hs⟩ := hcut
      obtain ⟨w2, rfl⟩ : ∃ w2, w2 = wc := ⟨_, rfl⟩
      have HB2 := Lib.hid (HB1.out.same hs)
      have hhp := hs.heap
      have HK2 := Lib.hid (show ∀ k, k ≠ r → w2.heap[k]? = w.heap[k]? from fun k hk => by rw [hhp]; exact HK1.out k hk)
      have HL2 := Lib.hid (show Below B w w2 ∧ w2.heap.size = w.heap.size from ⟨HL1.out.1.trans (hs.below B), by rw [hhp]; exact HL1.out.2⟩)
      have c4 := HB2.out.cell 4 rfl
      have f4 := HB2.out.free 4
      clear hs hhp b2 b3 e1
      go_wp2_with fail
      have HB3 := Lib.hid (HB2.out.set 4 (.bool true))
      have q4 := HB3.out.cell 4 rfl
      clear c4 f4
      go_wp2_with fail
      go_ret
      exact ⟨by rw [HC.out]; rfl, HEND.out _ true HB3.out (fun k hk => (Below.heap_setCell w2 ⟨r, 4, none⟩ _ k hk).trans (HK2.out k hk)) HC.out, HL2.out.1.setCell (p := ⟨r, 4, none⟩) hBr _, by simp [World.setCell]; exact HL2.out.2, fun k hk => (Below.heap_setCell w2 ⟨r, 4, none⟩ _ k hk).trans (HK2.out k hk)⟩
  · have HC := Lib.hid (show offB t = false by rw [HO.out]; exact decide_eq_false hc)
    have hcase : (¬ 1 ≤ of) ∨ (1 ≤ of ∧ ¬ of = ss + 1) := by omega
    go_cut [25] (fun v wx => v = .bool false ∧ Same w1 wx)
    case first =>
      rcases hcase with g1 | ⟨g1, g2⟩
      · have e1 : decide (1 ≤ of) = false := decide_eq_false g1
        go_quiet (fail)
        all_goals (go_wp2_with fail; go_meet; exact ⟨rfl, ⟨_, rfl⟩⟩)
      · have e1 : decide (1 ≤ of) = true := decide_eq_true g1
        have e2 : ((ss + 1 : Int) == of) = false := by rw [beq_eq_false_iff_ne]; omega
        go_quiet (fail)
        all_goals (go_wp2_with fail; go_meet; exact ⟨rfl, ⟨_, rfl⟩⟩)
    case rest =>
      obtain ⟨rfl, hs⟩ := hcut
      obtain ⟨w2, rfl⟩ : ∃ w2, w2 = wc := ⟨_, rfl⟩
      have HB2 := Lib.hid (HB1.out.same hs)
      have hhp := hs.heap
      have HK2 := Lib.hid (show ∀ k, k ≠ r → w2.heap[k]? = w.heap[k]? from fun k hk => by rw [hhp]; exact HK1.out k hk)
      have HL2 := Lib.hid (show Below B w w2 ∧ w2.heap.size = w.heap.size from ⟨HL1.out.1.trans (hs.below B), by rw [hhp]; exact HL1.out.2⟩)
      have c4 := HB2.out.cell 4 rfl
      clear hs hhp b2 b3
      go_wp2_with fail
      go_ret
      exact ⟨by rw [HC.out]; rfl, HEND.out _ false HB2.out HK2.out HC.out, HL2.out.1, HL2.out.2, HK2.out⟩
end Go.Proofs.Ytejmbhckfdfoeaa
/-
  THE REFERENCE'S calls: what they may write; Read, Sync.
-/
set_option linter.unusedVariables false
set_option linter.unusedSimpArgs false
namespace Go.Proofs.Ytejmbhckfdfoeaa
open Go.RowKit Go.Maps
/-- what the reference's calls may write: its disks, its files, its rows of changes -/
def rObj : Obj → Bool
  | .cells _ t _ => t == 84 || t == 87 || t == 107
  | _ => false
structure StepR (B : Nat) (w w' : World) : Prop where
  below : Below B w w'
  keep : ∀ (k : Nat) (o : Obj), w.heap[k]? = some o → rObj o = false → w'.heap[k]? = some o
theorem StepR.of_below {B : Nat} {w w' : World} (h : Below w.heap.size w w') (hB : B ≤ w.heap.size) : StepR B w w' := ⟨h.mono hB, fun k o hk _ => (h.block k (Array.getElem?_eq_some_iff.1 hk).1).trans hk⟩
theorem StepR.trans {B : Nat} {a b c : World} (h : StepR B a b) (k : StepR B b c) : StepR B a c := ⟨h.below.trans k.below, fun i o hi ho => k.keep i o (h.keep i o hi ho) ho⟩
theorem StepR.refl (B : Nat) (w : World) : StepR B w w := ⟨Below.refl B w, fun _ _ h _ => h⟩
theorem StepR.of_set {B : Nat} {w : World} {b j : Nat} {T : TypeId} {cs : Array Value} (hb : Box w b T cs) (hT : rObj (.cells cs T (0, 0)) = true) (hB : B ≤ b) (v : Value) : StepR B w (w.setCell ⟨b, j, none⟩ v) :=
  ⟨(Below.refl B w).setCell (p := ⟨b, j, none⟩) hB v, fun k o hk hd => (Below.heap_setCell _ _ _ _ (fun e => by
    simp at e; subst e; unfold Box at hb; rw [hb] at hk; cases hk; rw [hT] at hd; cases hd)).trans hk⟩
/-- what is none of the reference's lies as it lay: the program's disk too -/
theorem DRepr.stepR {B C : Nat} {w w' : World} {p bs bf : Nat} {cv : Value} {vs : List Value} {s : DSt} (h : DRepr B w p bs bf cv vs s) (hs : StepR C w w') : DRepr B w' p bs bf cv vs s := by
  have hbox : ∀ {b : Nat} {T : TypeId} {cs : Array Value}, Box w b T cs → rObj (.cells cs T (0, 0)) = false → Box w' b T cs := fun hb hT => hs.keep _ _ hb hT
  have hmap : ∀ {b : Nat} {l : NM}, MapRep w b l → MapRep w' b l := fun {b l} hm => by
    obtain ⟨es, c, hh⟩ := hm.isMap
    exact hm.block ((hs.keep b _ hh rfl).trans hh.symm)
  have hu : KeepU w w' := fun k cs fz hk => hs.keep k _ hk rfl
  refine ⟨hbox h.box rfl, hmap h.seen, hmap h.safe, h.ne, ⟨h.row.1, ?_⟩, fun i c hi => ?_, fun f hf => ?_, h.in1, h.in2, h.nm1, h.hp, h.hs, h.hf, h.strk, h.offb, h.chl, h.many⟩
  · rcases h.row.2 with hn | ⟨g, cap, cur, rfl, hb, hgg, rest⟩
    · exact .inl hn
    · exact .inr ⟨g, cap, cur, rfl, hb, hs.keep g _ hgg rfl, rest⟩
  · obtain ⟨v, h1, h2⟩ := h.chs i c hi
    refine ⟨v, h1, ?_⟩
    cases c with
    | put x f => obtain ⟨cf, cx, e, k1, k2, k3⟩ := h2; exact ⟨cf, cx, e, hbox k1 rfl, hbox k2 rfl, k3⟩
    | mv a b f => obtain ⟨ca, cf, cb, e, k1, k2, k3, k4⟩ := h2; exact ⟨ca, cf, cb, e, hbox k1 rfl, hbox k2 rfl, hbox k3 rfl, k4⟩
    | del x => obtain ⟨cx, e, k1, k2⟩ := h2; exact ⟨cx, e, hbox k1 rfl, k2⟩
  · obtain ⟨⟨vb, vs', k1, k2, k3⟩, k4⟩ := h.files f hf
    exact ⟨⟨vb, vs', hbox k1 rfl, k2.moveU hu, k3.moveU hu⟩, k4⟩
/-- what is none of the program's lies as it lay: the reference's disk too -/
theorem RRepr.stepD {B C : Nat} {w w' : World} {r : Nat} {vl vr : Value} {t : DSt} (h : RRepr B w r vl vr t) (hs : Step C w w') : RRepr B w' r vl vr t := by
  have hu : KeepU w w' := fun k cs fz hk => hs.keep k _ hk rfl
  have hrow : ∀ {e : TypeId} {n m : Nat} {v : Value} {xs : List Value}, w.ownsRow B e n v m xs → (∀ cur, dObj (.cells cur e (0, 0)) = false) → w'.ownsRow B e n v m xs := fun {e n m v xs} ho hd => by
    refine ⟨ho.1, ?_⟩
    rcases ho.2 with hn | ⟨g, cap, cur, rfl, hb, hgg, rest⟩
    · exact .inl hn
    · exact .inr ⟨g, cap, cur, rfl, hb, hs.keep g _ hgg (hd cur), rest⟩
  exact ⟨hs.keep _ _ h.box rfl, hrow h.safe (fun _ => rfl), hrow h.row (fun _ => rfl), fun f hf => let ⟨va, vb, k1, k2, k3, k4⟩ := h.files f hf; ⟨va, vb, hs.keep _ _ k1 rfl, k2.moveU hu, k3.moveU hu, k4⟩, h.hr⟩
/-- the reference's state: lists on the way, the power -/
structure RInv (t : DSt) : Prop where
  wf : RWf t
  ris : Ris t.safe
  run : t.seen = runC t.safe t.chs
  pw : t.dead = false → t.off < 1 ∨ t.strokes < t.off
  st : 0 ≤ t.strokes ∧ t.strokes < 1000000
  ob : -9223372036854775808 ≤ t.off ∧ t.off ≤ 9223372036854775807
theorem RInv.inIds {t : DSt} (h : RInv t) {x : List UInt8} {f : Nat} (hg : lget t.seen x = some f) : f ∈ t.ids := by
  rw [h.run] at hg
  have := (h.wf.all t.chs.length (Nat.le_refl _)).1 (x, f) (by rw [List.take_length]; exact lget_mem hg)
  exact this.1
/-- what Read answers: the bytes, the error -/
def readR (t : DSt) (x : List UInt8) : List Int × Int :=
  if t.dead then ([], 6) else if goodNm x then (match lget t.seen x with | none => ([], 6) | some f => (t.by_ f, 0)) else ([], 1)
set_option maxRecDepth 100000 in
set_option maxHeartbeats 2000000 in
theorem rread_any {B : Nat} {w : World} {r : Nat} {vl vr : Value} {t : DSt} (h : RRepr B w r vl vr t) (hi : RInv t) (x : List UInt8) (hx : x.length ≤ maxLen) :
    Calls Try.prog 53 #[.pointer (some ⟨r, 0, none⟩), .string ⟨x.toArray⟩] w fun e w' => (∃ v', e = .returned (.tuple #[v', .int .i64 (readR t x).2]) ∧ Rd w' .u8 v' (readR t x).1) ∧ Below w.heap.size w w' := by
  have HR := Lib.hid h
  have HI := Lib.hid hi
  have HX := Lib.hid hx
  have c4 := h.box.cell 4 rfl
  obtain ⟨dd, hdd⟩ : ∃ dd, dd = t.dead := ⟨_, rfl⟩
  have c4' : w.cell? ⟨r, 4, none⟩ = some (.bool dd) := by rw [hdd]; exact c4
  have HDD := Lib.hid hdd
  clear h hi hx c4 hdd
  cases dd with
  | true =>
    go_enter Try.func53, Try.ntmps53
    go_wp2_with fail
    go_ret2
    rw [readR, if_pos HDD.out.symm]
    exact ⟨⟨_, rfl, Rd.nil _ _ _ _⟩, Below.refl _ _⟩
  | false =>
    go_enter Try.func53, Try.ntmps53
    go_wp2_with fail
    clear c4'
    refine (refName_nm x _ HX.out).mono ?_
    rintro e w' ⟨rfl, rfl⟩
    have HND := Lib.hid (show ¬ t.dead = true by rw [← HDD.out]; decide)
    cases hg : goodNm x with
    | false =>
      have HG := Lib.hid hg
      clear hg
      go_wp2_with fail
      go_ret2
      rw [readR, if_neg HND.out, if_neg (by rw [HG.out]; decide)]
      exact ⟨⟨_, rfl, Rd.nil _ _ _ _⟩, Below.refl _ _⟩
    | true =>
      have HG := Lib.hid hg
      clear hg
      go_wp2_with fail
      refine (rfind_any HR.out HI.out.wf HI.out.ris x).mono ?_
      rintro e w2 ⟨rfl, hb2⟩
      rw [← HI.out.run]
      cases hget : lget t.seen x with
      | none =>
        have HGE := Lib.hid hget
        have HB := Lib.hid hb2
        clear hget hb2
        simp only [ptrV]
        go_wp2_with fail
        go_ret2
        rw [readR, if_neg HND.out, if_pos HG.out, HGE.out]
        exact ⟨⟨_, rfl, Rd.nil _ _ _ _⟩, HB.out⟩
      | some f =>
        obtain ⟨va, vb, hfb, h1, h2, _⟩ := (HR.out.next hb2).files f (HI.out.inIds hget)
        have HGE := Lib.hid hget
        have HB := Lib.hid hb2
        obtain ⟨ob, kb, rfl⟩ := rd_slice h2.rd
        have hl := h2.len
        obtain ⟨xs, hxs⟩ : ∃ xs, xs = t.by_ f := ⟨_, rfl⟩
        rw [← hxs] at hfb h2 hl
        have HBR := Lib.hid h2
        have HXS := Lib.hid hxs
        have d1 := hfb.cell 1 rfl
        clear hget hb2 hfb h1 h2 hxs
        simp only [ptrV]
        go_wp2_with fail
        refine (copyBytes_any _ xs _ HBR.out.rd (by omega)).mono ?_
        rintro e w3 ⟨v3, rfl, ho, hb3⟩
        obtain ⟨o3, k3, rfl⟩ := own_slice ho
        have HO := Lib.hid ho
        have HB3 := Lib.hid (HB.out.trans (hb3.mono HB.out.size))
        clear ho hb3 d1
        go_wp2_with fail
        go_ret2
        rw [readR, if_neg HND.out, if_pos HG.out, HGE.out]
        exact ⟨⟨_, rfl, by show Rd _ _ _ (t.by_ f); rw [← HXS.out]; exact Rd.of_own HO.out⟩, HB3.out⟩
end Go.Proofs.Ytejmbhckfdfoeaa
/-
  THE REFERENCE'S Sync, Remove, Rename.
-/
set_option linter.unusedVariables false
set_option linter.unusedSimpArgs false
namespace Go.Proofs.Ytejmbhckfdfoeaa
open Go.RowKit Go.Maps
/-- what a call that is a stroke answers, and the state behind it: the power, the names, what is asked for -/
def stepSync (s : DSt) (x : List UInt8) : Int × DSt :=
  if s.dead then (6, s) else if goodNm x then (match lget s.seen x with | none => (6, strokeS s) | some f => (toldI (offB s), syncS s f)) else (1, s)
theorem RWf.stroke {t : DSt} (h : RWf t) : RWf (strokeS t) := ⟨h.all, h.nm, h.chl⟩
theorem RRepr.setSafe {B : Nat} {w : World} {r : Nat} {vl vr : Value} {t : DSt} (h : RRepr B w r vl vr t) {f : Nat} (hf : f ∈ t.ids) {v : Value} {ys : List Int} (hv : BytesRep B w v ys) :
    RRepr B (w.setCell ⟨f, 0, none⟩ v) r vl vr { t with sf := updF t.sf f ys } ∧ StepR B w (w.setCell ⟨f, 0, none⟩ v) := by
  obtain ⟨va, vb, hfb, h1, h2, hge⟩ := h.files f hf
  have hst : StepR B w (w.setCell ⟨f, 0, none⟩ v) := StepR.of_set hfb rfl hge v
  have hu : KeepU w (w.setCell ⟨f, 0, none⟩ v) := fun k cs fz hk => hst.keep k _ hk rfl
  refine ⟨⟨h.box.other (show f ≠ r from hfb.ne_type h.box (by decide)) v, own_ne h.safe hfb (by decide) v, own_ne h.row hfb (by decide) v, fun g hg => ?_, h.hr⟩, hst⟩
  obtain ⟨va', vb', k1, k2, k3, k4⟩ := h.files g hg
  by_cases e : g = f
  · subst e
    refine ⟨v, vb', k1.set 0 v, ?_, k3.moveU hu, k4⟩
    simp only [updF, if_true]
    exact hv.moveU hu
  · refine ⟨va', vb', k1.other (show f ≠ g from fun h => e h.symm) v, ?_, k3.moveU hu, k4⟩
    simp only [updF, if_neg e]
    exact k2.moveU hu
theorem stepR_stroke {B : Nat} {w w' : World} {r : Nat} {T : TypeId} {cs : Array Value} (h : Below B w w') (hb : Box w r T cs) (hT : rObj (.cells cs T (0, 0)) = true) (hk : ∀ k, k ≠ r → k < w.heap.size → w'.heap[k]? = w.heap[k]?) : StepR B w w' :=
  ⟨h, fun k o hk' ho => (hk k (fun e => by subst e; unfold Box at hb; rw [hb] at hk'; cases hk'; rw [hT] at ho; cases ho) (Array.getElem?_eq_some_iff.1 hk').1).trans hk'⟩
set_option maxRecDepth 100000 in
set_option maxHeartbeats 4000000 in
theorem rsync_any {B : Nat} {w : World} {r : Nat} {vl vr : Value} {t : DSt} (h : RRepr B w r vl vr t) (hi : RInv t) (x : List UInt8) (hx : x.length ≤ maxLen) :
    Calls Try.prog 49 #[.pointer (some ⟨r, 0, none⟩), .string ⟨x.toArray⟩] w fun e w' => e = .returned (.int .i64 (stepSync t x).1) ∧ (∃ vl' vr', RRepr B w' r vl' vr' (stepSync t x).2) ∧ StepR B w w' := by
  have HR := Lib.hid h
  have HI := Lib.hid hi
  have HX := Lib.hid hx
  have c4 := h.box.cell 4 rfl
  have hBw : B ≤ w.heap.size := Nat.le_of_lt h.base
  obtain ⟨dd, hdd⟩ : ∃ dd, dd = t.dead := ⟨_, rfl⟩
  have c4' : w.cell? ⟨r, 4, none⟩ = some (.bool dd) := by rw [hdd]; exact c4
  have HDD := Lib.hid hdd
  clear h hi hx c4 hdd
  cases dd with
  | true =>
    go_enter Try.func49, Try.ntmps49
    go_wp2_with fail
    go_ret
    rw [stepSync, if_pos HDD.out.symm]
    exact ⟨rfl, ⟨vl, vr, HR.out⟩, StepR.refl _ _⟩
  | false =>
    go_enter Try.func49, Try.ntmps49
    go_wp2_with fail
    clear c4'
    refine (refName_nm x _ HX.out).mono ?_
    rintro e w' ⟨rfl, rfl⟩
    have HND := Lib.hid (show ¬ t.dead = true by rw [← HDD.out]; decide)
    cases hg : goodNm x with
    | false =>
      have HG := Lib.hid hg
      clear hg
      go_wp2_with fail
      go_ret
      rw [stepSync, if_neg HND.out, if_neg (by rw [HG.out]; decide)]
      exact ⟨rfl, ⟨vl, vr, HR.out⟩, StepR.refl _ _⟩
    | true =>
      have HG := Lib.hid hg
      clear hg
      go_wp2_with fail
      refine (rstroke_any HR.out HI.out.st HDD.out.symm (HI.out.pw HDD.out.symm) HI.out.ob).mono ?_
      rintro e w2 ⟨rfl, hr2, hb2, hz2, hk2⟩
      have HR2 := Lib.hid hr2
      have HS2 := Lib.hid (stepR_stroke hb2 HR.out.box rfl (fun k h1 _ => hk2 k h1))
      have hz2' : B ≤ w2.heap.size := by omega
      clear hr2 hb2 hz2 hk2
      go_wp2_with fail
      refine (rfind_any HR2.out HI.out.wf.stroke HI.out.ris x).mono ?_
      rintro e w3 ⟨rfl, hb3⟩
      rw [show runC (strokeS t).safe (strokeS t).chs = t.seen from HI.out.run.symm]
      have HR3 := Lib.hid (HR2.out.next hb3)
      have HS3 := Lib.hid (HS2.out.trans (StepR.of_below hb3 hz2'))
      have hz3 := hb3.size
      clear hb3
      cases hget : lget t.seen x with
      | none =>
        have HGE := Lib.hid hget
        clear hget
        simp only [ptrV]
        go_wp2_with fail
        go_ret
        rw [stepSync, if_neg HND.out, if_pos HG.out, HGE.out]
        exact ⟨rfl, ⟨vl, vr, HR3.out⟩, HS3.out⟩
      | some f =>
        have HGE := Lib.hid hget
        have HID := Lib.hid (HI.out.inIds hget)
        clear hget
        simp only [ptrV]
        obtain ⟨ob, hob⟩ : ∃ ob, ob = offB t := ⟨_, rfl⟩
        rw [← hob]
        have HOB := Lib.hid hob
        clear hob
        cases ob with
        | true =>
          have d4 := HR3.out.box.cell 4 rfl
          rw [show (strokeS t).dead = true from HOB.out.symm] at d4
          go_wp2_with fail
          refine (rend_any (b := true) d4).mono ?_
          rintro e w' ⟨rfl, rfl⟩
          clear d4
          go_wp2_with fail
          go_ret
          rw [stepSync, if_neg HND.out, if_pos HG.out, HGE.out]
          exact ⟨by show _ = Ending.returned (.int .i64 (toldI (offB t))); rw [← HOB.out]; rfl, ⟨vl, vr, by show RRepr B w3 r vl vr (syncS t f); rw [syncS, ← HOB.out]; exact HR3.out⟩, HS3.out⟩
        | false =>
          obtain ⟨va, vb, hfb, h1, h2, _⟩ := HR3.out.files f HID.out
          have e0 := hfb.cell 0 rfl
          have e1 := hfb.cell 1 rfl
          have g0 := hfb.free 0
          obtain ⟨ob1, kb1, rfl⟩ := rd_slice h2.rd
          obtain ⟨oa1, ka1, rfl⟩ := rd_slice h1.rd
          have HF := Lib.hid (HR3.out.setSafe HID.out h2)
          clear hfb h1 h2
          go_wp2_with fail
          clear e0 e1 g0
          have d4 := HF.out.1.box.cell 4 rfl
          rw [show (strokeS t).dead = false from HOB.out.symm] at d4
          refine (rend_any (b := false) d4).mono ?_
          rintro e w' ⟨rfl, rfl⟩
          clear d4
          go_wp2_with fail
          go_ret
          rw [stepSync, if_neg HND.out, if_pos HG.out, HGE.out]
          exact ⟨by show _ = Ending.returned (.int .i64 (toldI (offB t))); rw [← HOB.out]; rfl, ⟨vl, vr, by show RRepr B _ r vl vr (syncS t f); rw [syncS, ← HOB.out]; exact HF.out.1⟩, HS3.out.trans HF.out.2⟩
end Go.Proofs.Ytejmbhckfdfoeaa
