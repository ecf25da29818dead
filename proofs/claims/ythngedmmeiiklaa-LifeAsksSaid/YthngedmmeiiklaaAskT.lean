/- (*life.book).retire: its contract. -/
import Derived.Test.YthngedmmeiiklaaAskI
import Derived.BigRegion
namespace Go.Proofs.Ythngedmmeiiklaa
open Go.RowKit

set_option maxHeartbeats 8000000 in
set_option maxRecDepth 100000 in
theorem prog_ret_none (B p : Nat) (v1 v2 : Value) (L : List Lf) (R : List Rq) (id kd bk wt an now drain : Int) (w : World) (h : BkAt B w p v1 v2 L R) (h12 : L.length ≤ 12) (he : idxOf (lfIs bk) L = -1) :
    Calls Try.prog 30 #[.pointer (some ⟨p, 0, none⟩), .agg #[.int .i64 id, .int .i64 kd, .int .i64 bk, .int .i64 wt, .int .i64 an], .int .i64 now, .int .i64 drain] w (JnPost B w p v2 L R 8) := by
  have H := Lib.hid h; have lp := h.lt; have hB := h.hB; have K0 := Lib.hid (h.below ((Below.refl w.heap.size w).alloc (Nat.le_refl _) (.cells #[.int .i64 id, .int .i64 kd, .int .i64 bk, .int .i64 wt, .int .i64 an] 31))); have B0 := Lib.hid ((Below.refl B w).alloc (by omega) (.cells #[.int .i64 id, .int .i64 kd, .int .i64 bk, .int .i64 wt, .int .i64 an] 31))
  obtain ⟨a, cap, rfl, _, _⟩ := owns_shape h.o1
  have HV : Hid (fdV (.slice a L.length cap) (idxOf (lfIs bk) L) = .pointer none) := by show fdV _ _ = _; rw [he]; cases a <;> simp [fdV]
  clear h he
  go_enter Try.func30, Try.ntmps30
  go_wp2_with fail
  refine (prog_find B p _ v2 L R bk _ K0.out h12).mono ?_
  rintro e w2 ⟨rfl, hb2⟩
  rw [HV.out]
  have K2 := Lib.hid (K0.out.below hb2)
  have B2 := Lib.hid (B0.out.trans (hb2.mono (by simp; omega)))
  clear hb2
  go_wp2
  all_goals first | (go_ret; exact ⟨rfl, ⟨_, K2.out.o⟩, B2.out⟩) | (exfalso; first | omega | (simp at *; omega) | (simp at *; done))

set_option maxHeartbeats 8000000 in
set_option maxRecDepth 100000 in
theorem prog_ret_no (B p : Nat) (v1 v2 : Value) (L : List Lf) (R : List Rq) (id kd bk wt an now drain : Int) (i : Nat) (ans : Int) (w : World) (h : BkAt B w p v1 v2 L R) (h12 : L.length ≤ 12) (hi : i < L.length) (he : idxOf (lfIs bk) L = i) (hs : ((L.getD i Lf.zero).state = 4 ∧ ans = 8) ∨ ((L.getD i Lf.zero).state = 3 ∧ ans = 12)) :
    Calls Try.prog 30 #[.pointer (some ⟨p, 0, none⟩), .agg #[.int .i64 id, .int .i64 kd, .int .i64 bk, .int .i64 wt, .int .i64 an], .int .i64 now, .int .i64 drain] w (JnPost B w p v2 L R ans) := by
  have H := Lib.hid h; have lp := h.lt; have hB := h.hB; have K0 := Lib.hid (h.below ((Below.refl w.heap.size w).alloc (Nat.le_refl _) (.cells #[.int .i64 id, .int .i64 kd, .int .i64 bk, .int .i64 wt, .int .i64 an] 31))); have B0 := Lib.hid ((Below.refl B w).alloc (by omega) (.cells #[.int .i64 id, .int .i64 kd, .int .i64 bk, .int .i64 wt, .int .i64 an] 31))
  obtain ⟨g, cap, rfl, hg1, hg2⟩ := h.addr hi
  have HV : Hid (fdV (.slice (some ⟨g, 0, none⟩) L.length cap) (idxOf (lfIs bk) L) = .pointer (some ⟨g, i * 6, none⟩)) := by show fdV _ _ = _; rw [he]; simp [fdV]
  obtain ⟨s, hs'⟩ : ∃ s, s = L.getD i Lf.zero := ⟨_, rfl⟩
  rw [← hs'] at hs
  have HS := Lib.hid hs'
  obtain ⟨c0, c1, c2, c3, c4, c5⟩ := s
  simp only at hs
  clear h hs' he
  rcases hs with ⟨rfl, rfl⟩ | ⟨rfl, rfl⟩
  all_goals
    go_enter Try.func30, Try.ntmps30
    go_wp2_with fail
    refine (prog_find B p _ v2 L R bk _ K0.out h12).mono ?_
    rintro e w2 ⟨rfl, hb2⟩
    rw [HV.out]
    have hy2 := hb2.size
    simp at hy2
    have K2 := Lib.hid (K0.out.below hb2)
    have B2 := Lib.hid (B0.out.trans (hb2.mono (by simp; omega)))
    have q1 := (K2.out.cell hi (j := 1) (by omega)).1
    rw [← HS.out] at q1
    simp [Lf.cells] at q1
    clear hb2
    go_wp2
    all_goals first | (go_ret; exact ⟨rfl, ⟨_, K2.out.o⟩, B2.out⟩) | (exfalso; first | omega | (simp at *; omega) | (simp at *; done))

theorem BkAt.three {B : Nat} {w : World} {p g cap : Nat} {v2 : Value} {L : List Lf} {R : List Rq} {i : Nat} (h : BkAt B w p (.slice (some ⟨g, 0, none⟩) L.length cap) v2 L R) (hi : i < L.length) (b e f : Int) :
    BkAt B (((w.setCell ⟨g, i * 6 + 1, none⟩ (.int .i64 b)).setCell ⟨g, i * 6 + 4, none⟩ (.int .i64 e)).setCell ⟨g, i * 6 + 5, none⟩ (.int .i64 f)) p (.slice (some ⟨g, 0, none⟩) L.length cap) v2 (L.set i { L.getD i Lf.zero with state := b, until_ := e, request := f }) R := by
  obtain ⟨s, hs⟩ : ∃ s, s = L.getD i Lf.zero := ⟨_, rfl⟩
  rw [← hs]
  obtain ⟨x0, x1, x2, x3, x4, x5⟩ := s
  have gd : ∀ (M : List Lf) (y : Lf), M.length = L.length → (M.set i y).getD i Lf.zero = y := fun M y hM => by simp [List.getD, hM, hi]
  have k1 := BkAt.field (j := 1) (v := .int .i64 b) (x := ⟨x0, b, x2, x3, x4, x5⟩) h hi (by omega) (by rw [← hs]; rfl)
  have k4 := BkAt.field (j := 4) (v := .int .i64 e) (x := ⟨x0, b, x2, x3, e, x5⟩) (L := L.set i ⟨x0, b, x2, x3, x4, x5⟩) (by rw [List.length_set]; exact k1) (by rw [List.length_set]; exact hi) (by omega) (by rw [gd _ _ rfl]; rfl)
  rw [List.set_set, List.length_set] at k4
  have k5 := BkAt.field (j := 5) (v := .int .i64 f) (x := ⟨x0, b, x2, x3, e, f⟩) (L := L.set i ⟨x0, b, x2, x3, e, x5⟩) (by rw [List.length_set]; exact k4) (by rw [List.length_set]; exact hi) (by omega) (by rw [gd _ _ rfl]; rfl)
  rw [List.set_set, List.length_set] at k5
  exact k5

set_option maxHeartbeats 8000000 in
set_option maxRecDepth 100000 in
theorem prog_ret_yes (B p : Nat) (v1 v2 : Value) (L : List Lf) (R : List Rq) (id kd bk wt an now drain : Int) (i : Nat) (w : World) (h : BkAt B w p v1 v2 L R) (h12 : L.length ≤ 12) (hnd : (0 ≤ now ∧ now ≤ 1099511627776) ∧ (0 ≤ drain ∧ drain ≤ 500)) (hi : i < L.length) (he : idxOf (lfIs bk) L = i) (hs : (L.getD i Lf.zero).state ≠ 4 ∧ (L.getD i Lf.zero).state ≠ 3) :
    Calls Try.prog 30 #[.pointer (some ⟨p, 0, none⟩), .agg #[.int .i64 id, .int .i64 kd, .int .i64 bk, .int .i64 wt, .int .i64 an], .int .i64 now, .int .i64 drain] w (JnPost B w p v2 (L.set i (lfEnd (L.getD i Lf.zero) ⟨id, kd, bk, wt, an⟩ now drain)) R 0) := by
  have H := Lib.hid h; have lp := h.lt; have hB := h.hB; have K0 := Lib.hid (h.below ((Below.refl w.heap.size w).alloc (Nat.le_refl _) (.cells #[.int .i64 id, .int .i64 kd, .int .i64 bk, .int .i64 wt, .int .i64 an] 31))); have B0 := Lib.hid ((Below.refl B w).alloc (by omega) (.cells #[.int .i64 id, .int .i64 kd, .int .i64 bk, .int .i64 wt, .int .i64 an] 31))
  obtain ⟨g, cap, rfl, hg1, hg2⟩ := h.addr hi
  have HV : Hid (fdV (.slice (some ⟨g, 0, none⟩) L.length cap) (idxOf (lfIs bk) L) = .pointer (some ⟨g, i * 6, none⟩)) := by show fdV _ _ = _; rw [he]; simp [fdV]
  have HSet : Hid (∀ (w' : World) (b : Int), b = (if (L.getD i Lf.zero).state = 1 then 4 else 3) → BkAt B w' p (.slice (some ⟨g, 0, none⟩) L.length cap) v2 L R → BkAt B (((w'.setCell ⟨g, i * 6 + 1, none⟩ (.int .i64 b)).setCell ⟨g, i * 6 + 4, none⟩ (.int .i64 (now + drain))).setCell ⟨g, i * 6 + 5, none⟩ (.int .i64 id)) p (.slice (some ⟨g, 0, none⟩) L.length cap) v2 (L.set i (lfEnd (L.getD i Lf.zero) ⟨id, kd, bk, wt, an⟩ now drain)) R) := fun w' b hb hk => by
    have := hk.three hi b (now + drain) id
    rw [hb] at this ⊢
    exact this
  obtain ⟨s, hs'⟩ : ∃ s, s = L.getD i Lf.zero := ⟨_, rfl⟩
  rw [← hs'] at hs HSet
  have HS := Lib.hid hs'
  obtain ⟨c0, c1, c2, c3, c4, c5⟩ := s
  simp only at hs
  obtain ⟨n4, n3⟩ := hs
  obtain ⟨⟨r0, r1⟩, r2, r3⟩ := hnd
  have hlr : Hid (lfEnd (L.getD i Lf.zero) ⟨id, kd, bk, wt, an⟩ now drain = lfEnd ⟨c0, c1, c2, c3, c4, c5⟩ ⟨id, kd, bk, wt, an⟩ now drain) := by show _ = _; rw [hs']
  rw [hlr.out]
  clear h hs' he
  by_cases n1 : c1 = 1
  · subst n1
    go_enter Try.func30, Try.ntmps30
    go_wp2_with fail
    refine (prog_find B p _ v2 L R bk _ K0.out h12).mono ?_
    rintro e w2 ⟨rfl, hb2⟩
    rw [HV.out]
    have hy2 := hb2.size
    simp at hy2
    have K2 := Lib.hid (K0.out.below hb2)
    have B2 := Lib.hid (B0.out.trans (hb2.mono (by simp; omega)))
    have xr := blk_below hb2 (heap_at (w := w) (.cells #[.int .i64 id, .int .i64 kd, .int .i64 bk, .int .i64 wt, .int .i64 an] 31) rfl) (by simp)
    have d0 := blk_cell xr 0
    simp at d0
    have q1 := (K2.out.cell hi (j := 1) (by omega)).1
    have q4 := (K2.out.cell hi (j := 4) (by omega)).1
    have q5 := (K2.out.cell hi (j := 5) (by omega)).1
    have f1 := (K2.out.cell hi (j := 1) (by omega)).2
    have f4 := (K2.out.cell hi (j := 4) (by omega)).2
    have f5 := (K2.out.cell hi (j := 5) (by omega)).2
    rw [← HS.out] at q1 q4 q5
    simp [Lf.cells] at q1 q4 q5
    have lg : g < w2.heap.size := cell_lt q1
    have ng : g < w.heap.size := by omega
    have ngw : w.heap.size ≠ g := by omega
    have lw2 : w.heap.size < w2.heap.size := by omega
    clear hb2 xr
    have KF := Lib.hid (HSet.out w2 4 rfl K2.out)
    have BF := Lib.hid (((B2.out.setCell (p := ⟨g, i * 6 + 1, none⟩) hg1 (.int .i64 4)).setCell (p := ⟨g, i * 6 + 4, none⟩) hg1 (.int .i64 (now + drain))).setCell (p := ⟨g, i * 6 + 5, none⟩) hg1 (.int .i64 id))
    go_wp2_with fail
    go_region
    all_goals go_wp2
    all_goals (refine bodyPost_ret (v := .int .i64 0) ?_ rfl ⟨rfl, ⟨_, KF.out.o.below ((Below.refl _ _).drew)⟩, BF.out.drew⟩; simp [results, Try.results30, go_sem, *])
  · have e1 : (c1 == 1) = false := by simpa using n1
    have e3 : (c1 == 3) = false := by simpa using n3
    have e4 : (c1 == 4) = false := by simpa using n4
    go_enter Try.func30, Try.ntmps30
    go_wp2_with fail
    refine (prog_find B p _ v2 L R bk _ K0.out h12).mono ?_
    rintro e w2 ⟨rfl, hb2⟩
    rw [HV.out]
    have hy2 := hb2.size
    simp at hy2
    have K2 := Lib.hid (K0.out.below hb2)
    have B2 := Lib.hid (B0.out.trans (hb2.mono (by simp; omega)))
    have xr := blk_below hb2 (heap_at (w := w) (.cells #[.int .i64 id, .int .i64 kd, .int .i64 bk, .int .i64 wt, .int .i64 an] 31) rfl) (by simp)
    have d0 := blk_cell xr 0
    simp at d0
    have q1 := (K2.out.cell hi (j := 1) (by omega)).1
    have q4 := (K2.out.cell hi (j := 4) (by omega)).1
    have q5 := (K2.out.cell hi (j := 5) (by omega)).1
    have f1 := (K2.out.cell hi (j := 1) (by omega)).2
    have f4 := (K2.out.cell hi (j := 4) (by omega)).2
    have f5 := (K2.out.cell hi (j := 5) (by omega)).2
    rw [← HS.out] at q1 q4 q5
    simp [Lf.cells] at q1 q4 q5
    have lg : g < w2.heap.size := cell_lt q1
    have ng : g < w.heap.size := by omega
    have ngw : w.heap.size ≠ g := by omega
    have lw2 : w.heap.size < w2.heap.size := by omega
    clear hb2 xr
    have KF := Lib.hid (HSet.out w2 3 (by rw [if_neg n1]) K2.out)
    have BF := Lib.hid (((B2.out.setCell (p := ⟨g, i * 6 + 1, none⟩) hg1 (.int .i64 3)).setCell (p := ⟨g, i * 6 + 4, none⟩) hg1 (.int .i64 (now + drain))).setCell (p := ⟨g, i * 6 + 5, none⟩) hg1 (.int .i64 id))
    go_wp2_with fail
    go_region
    all_goals go_wp2
    all_goals (refine bodyPost_ret (v := .int .i64 0) ?_ rfl ⟨rfl, ⟨_, KF.out.o.below ((Below.refl _ _).drew)⟩, BF.out.drew⟩; simp [results, Try.results30, go_sem, *])
end Go.Proofs.Ythngedmmeiiklaa
