/- (*life.book).join: its contract. -/
import Derived.Test.YthngedmmeiiklaaAskS
import Derived.Deep.QuietTactic
import Derived.BigQuiet
import Derived.Deep.RegionLaw
namespace Go.Proofs.Ythngedmmeiiklaa
open Go.RowKit

/-- A book at work: a block with two rows of its own, in whatever order they lie. -/
structure BkO (B : Nat) (w : World) (p : Nat) (v1 v2 : Value) (L : List Lf) (R : List Rq) : Prop where
  hB : B ≤ p
  hh : w.heap[p]? = some (.cells #[v1, v2] 56 (0, 0))
  o1 : w.ownsRow B 44 6 v1 L.length (L.map Lf.cells).flatten
  o2 : w.ownsRow B 31 5 v2 R.length (R.map Rq.cells).flatten
theorem BkAt.o {B : Nat} {w : World} {p : Nat} {v1 v2 : Value} {L : List Lf} {R : List Rq} (h : BkAt B w p v1 v2 L R) : BkO B w p v1 v2 L R := ⟨h.hB, h.hh, h.o1, h.o2⟩
theorem BkO.lt {B : Nat} {w : World} {p : Nat} {v1 v2 : Value} {L : List Lf} {R : List Rq} (h : BkO B w p v1 v2 L R) : p < w.heap.size := lt_of_block h.hh
theorem BkO.below {B : Nat} {w w' : World} {p : Nat} {v1 v2 : Value} {L : List Lf} {R : List Rq} (h : BkO B w p v1 v2 L R) (hb : Below w.heap.size w w') : BkO B w' p v1 v2 L R :=
  ⟨h.hB, blk_below hb h.hh h.lt, own_keep h.o1 hb, own_keep h.o2 hb⟩
def JnPost (B : Nat) (w : World) (p : Nat) (v2 : Value) (L' : List Lf) (R : List Rq) (ans : Int) (e : Ending) (w' : World) : Prop := e = .returned (.int .i64 ans) ∧ (∃ v1, BkO B w' p v1 v2 L' R) ∧ Below B w w'
theorem BkAt.six {B : Nat} {w : World} {p g cap : Nat} {v2 : Value} {L : List Lf} {R : List Rq} {i : Nat} (h : BkAt B w p (.slice (some ⟨g, 0, none⟩) L.length cap) v2 L R) (hi : i < L.length) (a b c d e f : Int) :
    BkAt B ((((((w.setCell ⟨g, i * 6, none⟩ (.int .i64 a)).setCell ⟨g, i * 6 + 1, none⟩ (.int .i64 b)).setCell ⟨g, i * 6 + 2, none⟩ (.int .i64 c)).setCell ⟨g, i * 6 + 3, none⟩ (.int .i64 d)).setCell ⟨g, i * 6 + 4, none⟩ (.int .i64 e)).setCell ⟨g, i * 6 + 5, none⟩ (.int .i64 f)) p (.slice (some ⟨g, 0, none⟩) L.length cap) v2 (L.set i ⟨a, b, c, d, e, f⟩) R := by
  obtain ⟨s, hs⟩ : ∃ s, s = L.getD i Lf.zero := ⟨_, rfl⟩
  obtain ⟨x0, x1, x2, x3, x4, x5⟩ := s
  have gd : ∀ (M : List Lf) (y : Lf), M.length = L.length → (M.set i y).getD i Lf.zero = y := fun M y hM => by simp [List.getD, hM, hi]
  have k0 := BkAt.field (j := 0) (v := .int .i64 a) (x := ⟨a, x1, x2, x3, x4, x5⟩) h hi (by omega) (by rw [← hs]; rfl)
  rw [Nat.add_zero] at k0
  have l0 : (L.set i ⟨a, x1, x2, x3, x4, x5⟩).length = L.length := List.length_set ..
  have k1 := BkAt.field (j := 1) (v := .int .i64 b) (x := ⟨a, b, x2, x3, x4, x5⟩) (L := L.set i ⟨a, x1, x2, x3, x4, x5⟩) (by rw [l0]; exact k0) (by rw [l0]; exact hi) (by omega) (by rw [gd _ _ rfl]; rfl)
  rw [List.set_set, l0] at k1
  have k2 := BkAt.field (j := 2) (v := .int .i64 c) (x := ⟨a, b, c, x3, x4, x5⟩) (L := L.set i ⟨a, b, x2, x3, x4, x5⟩) (by rw [List.length_set]; exact k1) (by rw [List.length_set]; exact hi) (by omega) (by rw [gd _ _ rfl]; rfl)
  rw [List.set_set, List.length_set] at k2
  have k3 := BkAt.field (j := 3) (v := .int .i64 d) (x := ⟨a, b, c, d, x4, x5⟩) (L := L.set i ⟨a, b, c, x3, x4, x5⟩) (by rw [List.length_set]; exact k2) (by rw [List.length_set]; exact hi) (by omega) (by rw [gd _ _ rfl]; rfl)
  rw [List.set_set, List.length_set] at k3
  have k4 := BkAt.field (j := 4) (v := .int .i64 e) (x := ⟨a, b, c, d, e, x5⟩) (L := L.set i ⟨a, b, c, d, x4, x5⟩) (by rw [List.length_set]; exact k3) (by rw [List.length_set]; exact hi) (by omega) (by rw [gd _ _ rfl]; rfl)
  rw [List.set_set, List.length_set] at k4
  have k5 := BkAt.field (j := 5) (v := .int .i64 f) (x := ⟨a, b, c, d, e, f⟩) (L := L.set i ⟨a, b, c, d, e, x5⟩) (by rw [List.length_set]; exact k4) (by rw [List.length_set]; exact hi) (by omega) (by rw [gd _ _ rfl]; rfl)
  rw [List.set_set, List.length_set] at k5
  exact k5

set_option maxHeartbeats 8000000 in
set_option maxRecDepth 100000 in
theorem prog_join_bad (B p : Nat) (v1 v2 : Value) (L : List Lf) (R : List Rq) (id kd bk wt an : Int) (w : World) (h : BkAt B w p v1 v2 L R) (hr : ¬ ((0 ≤ bk ∧ bk ≤ 11) ∧ (1 ≤ wt ∧ wt ≤ 8))) :
    Calls Try.prog 29 #[.pointer (some ⟨p, 0, none⟩), .agg #[.int .i64 id, .int .i64 kd, .int .i64 bk, .int .i64 wt, .int .i64 an]] w (JnPost B w p v2 L R 2) := by
  have H := Lib.hid h
  have lp := h.lt
  have hB := h.hB
  clear h
  rcases (show bk < 0 ∨ (0 ≤ bk ∧ 12 ≤ bk) ∨ (0 ≤ bk ∧ bk ≤ 11 ∧ wt < 1) ∨ (0 ≤ bk ∧ bk ≤ 11 ∧ 1 ≤ wt ∧ 8 < wt) by omega) with h0 | ⟨h0, h1⟩ | ⟨h0, h1, h2⟩ | ⟨h0, h1, h2, h3⟩
  all_goals
    clear hr
    have K := Lib.hid (H.out.below (((Below.refl w.heap.size w).alloc (Nat.le_refl _) (.cells #[.int .i64 id, .int .i64 kd, .int .i64 bk, .int .i64 wt, .int .i64 an] 31))))
    have BB : Below B w (w.alloc (.cells #[.int .i64 id, .int .i64 kd, .int .i64 bk, .int .i64 wt, .int .i64 an] 31)) := (Below.refl B w).alloc (by omega) _
    go_enter Try.func29, Try.ntmps29
    go_wp2
    all_goals first | (go_ret; exact ⟨rfl, ⟨_, K.out.o⟩, BB⟩) | (exfalso; first | omega | (simp at *; omega) | (simp at *; done))


set_option maxHeartbeats 8000000 in
set_option maxRecDepth 100000 in
theorem prog_join_twice (B p : Nat) (v1 v2 : Value) (L : List Lf) (R : List Rq) (id kd bk wt an : Int) (i : Nat) (w : World) (h : BkAt B w p v1 v2 L R) (h12 : L.length ≤ 12) (hr : (0 ≤ bk ∧ bk ≤ 11) ∧ (1 ≤ wt ∧ wt ≤ 8)) (hi : i < L.length) (he : idxOf (lfIs bk) L = i) (hs : (L.getD i Lf.zero).state ≠ 4) :
    Calls Try.prog 29 #[.pointer (some ⟨p, 0, none⟩), .agg #[.int .i64 id, .int .i64 kd, .int .i64 bk, .int .i64 wt, .int .i64 an]] w (JnPost B w p v2 L R 7) := by
  have H := Lib.hid h; have lp := h.lt; have hB := h.hB; have K0 := Lib.hid (h.below (((Below.refl w.heap.size w).alloc (Nat.le_refl _) (.cells #[.int .i64 id, .int .i64 kd, .int .i64 bk, .int .i64 wt, .int .i64 an] 31)).alloc (by simp) (.cells #[.int .i64 bk, .int .i64 1, .int .i64 wt, .int .i64 0, .int .i64 0, .int .i64 0] 44))); have B0 := Lib.hid (((Below.refl B w).alloc (by omega) (.cells #[.int .i64 id, .int .i64 kd, .int .i64 bk, .int .i64 wt, .int .i64 an] 31)).alloc (by simp; omega) (.cells #[.int .i64 bk, .int .i64 1, .int .i64 wt, .int .i64 0, .int .i64 0, .int .i64 0] 44))
  obtain ⟨g, cap, rfl, hg1, hg2⟩ := h.addr hi
  have HV : Hid (fdV (.slice (some ⟨g, 0, none⟩) L.length cap) (idxOf (lfIs bk) L) = .pointer (some ⟨g, i * 6, none⟩)) := by show fdV _ _ = _; rw [he]; simp [fdV]
  obtain ⟨s, hs'⟩ : ∃ s, s = L.getD i Lf.zero := ⟨_, rfl⟩
  rw [← hs'] at hs
  have HS := Lib.hid hs'
  obtain ⟨c0, c1, c2, c3, c4, c5⟩ := s
  simp only at hs
  have e1 : (c1 != 4) = true := by simpa using hs
  obtain ⟨⟨r0, r1⟩, r2, r3⟩ := hr
  clear h hs hs' he
  go_enter Try.func29, Try.ntmps29
  go_wp2_with fail
  refine (prog_find B p _ v2 L R bk _ K0.out h12).mono ?_
  rintro e w2 ⟨rfl, hb2⟩
  rw [HV.out]
  have hy2 := hb2.size
  simp at hy2
  have K2 := Lib.hid (K0.out.below hb2)
  have B2 := Lib.hid (B0.out.trans (hb2.mono (by simp; omega)))
  have q1 := (K2.out.cell hi (j := 1) (by omega)).1
  rw [← HS.out] at q1
  simp [Lf.cells] at q1
  clear hb2
  go_wp2
  all_goals first | (go_ret; exact ⟨rfl, ⟨_, K2.out.o⟩, B2.out⟩) | (exfalso; first | omega | (simp at *; omega) | (simp at *; done))

set_option maxHeartbeats 8000000 in
set_option maxRecDepth 100000 in
theorem prog_join_set (B p : Nat) (v1 v2 : Value) (L : List Lf) (R : List Rq) (id kd bk wt an : Int) (i : Nat) (w : World) (h : BkAt B w p v1 v2 L R) (h12 : L.length ≤ 12) (hr : (0 ≤ bk ∧ bk ≤ 11) ∧ (1 ≤ wt ∧ wt ≤ 8)) (hi : i < L.length) (he : idxOf (lfIs bk) L = i) (hs : (L.getD i Lf.zero).state = 4) :
    Calls Try.prog 29 #[.pointer (some ⟨p, 0, none⟩), .agg #[.int .i64 id, .int .i64 kd, .int .i64 bk, .int .i64 wt, .int .i64 an]] w (JnPost B w p v2 (L.set i ⟨bk, 1, wt, 0, 0, 0⟩) R 0) := by
  have H := Lib.hid h; have lp := h.lt; have hB := h.hB; have K0 := Lib.hid (h.below (((Below.refl w.heap.size w).alloc (Nat.le_refl _) (.cells #[.int .i64 id, .int .i64 kd, .int .i64 bk, .int .i64 wt, .int .i64 an] 31)).alloc (by simp) (.cells #[.int .i64 bk, .int .i64 1, .int .i64 wt, .int .i64 0, .int .i64 0, .int .i64 0] 44))); have B0 := Lib.hid (((Below.refl B w).alloc (by omega) (.cells #[.int .i64 id, .int .i64 kd, .int .i64 bk, .int .i64 wt, .int .i64 an] 31)).alloc (by simp; omega) (.cells #[.int .i64 bk, .int .i64 1, .int .i64 wt, .int .i64 0, .int .i64 0, .int .i64 0] 44))
  obtain ⟨g, cap, rfl, hg1, hg2⟩ := h.addr hi
  have HV : Hid (fdV (.slice (some ⟨g, 0, none⟩) L.length cap) (idxOf (lfIs bk) L) = .pointer (some ⟨g, i * 6, none⟩)) := by show fdV _ _ = _; rw [he]; simp [fdV]
  obtain ⟨s, hs'⟩ : ∃ s, s = L.getD i Lf.zero := ⟨_, rfl⟩
  rw [← hs'] at hs
  have HS := Lib.hid hs'
  obtain ⟨c0, c1, c2, c3, c4, c5⟩ := s
  simp only at hs
  subst hs
  obtain ⟨⟨r0, r1⟩, r2, r3⟩ := hr
  clear h hs' he
  go_enter Try.func29, Try.ntmps29
  go_wp2_with fail
  refine (prog_find B p _ v2 L R bk _ K0.out h12).mono ?_
  rintro e w2 ⟨rfl, hb2⟩
  rw [HV.out]
  have hy2 := hb2.size
  simp at hy2
  have K2 := Lib.hid (K0.out.below hb2)
  have B2 := Lib.hid (B0.out.trans (hb2.mono (by simp; omega)))
  have xx := blk_below hb2 (heap_at (w := w.alloc (.cells #[.int .i64 id, .int .i64 kd, .int .i64 bk, .int .i64 wt, .int .i64 an] 31)) (k := w.heap.size + 1) (.cells #[.int .i64 bk, .int .i64 1, .int .i64 wt, .int .i64 0, .int .i64 0, .int .i64 0] 44) (by simp)) (by simp)
  have d0 := blk_cell xx 0
  have d1 := blk_cell xx 1
  have d2 := blk_cell xx 2
  have d3 := blk_cell xx 3
  have d4 := blk_cell xx 4
  have d5 := blk_cell xx 5
  simp at d0 d1 d2 d3 d4 d5
  have q0 := (K2.out.cell hi (j := 0) (by omega)).1
  have q1 := (K2.out.cell hi (j := 1) (by omega)).1
  have q2 := (K2.out.cell hi (j := 2) (by omega)).1
  have q3 := (K2.out.cell hi (j := 3) (by omega)).1
  have q4 := (K2.out.cell hi (j := 4) (by omega)).1
  have q5 := (K2.out.cell hi (j := 5) (by omega)).1
  have f0 := (K2.out.cell hi (j := 0) (by omega)).2
  have f1 := (K2.out.cell hi (j := 1) (by omega)).2
  have f2 := (K2.out.cell hi (j := 2) (by omega)).2
  have f3 := (K2.out.cell hi (j := 3) (by omega)).2
  have f4 := (K2.out.cell hi (j := 4) (by omega)).2
  have f5 := (K2.out.cell hi (j := 5) (by omega)).2
  rw [← HS.out] at q0 q1 q2 q3 q4 q5
  simp [Lf.cells] at q0 q1 q2 q3 q4 q5 f0
  have lg : g < w2.heap.size := cell_lt q0
  have ng : g < w.heap.size := by omega
  have K6 := Lib.hid (K2.out.six hi bk 1 wt 0 0 0)
  have B6 := Lib.hid ((((((B2.out.setCell (p := ⟨g, i * 6, none⟩) hg1 (.int .i64 bk)).setCell (p := ⟨g, i * 6 + 1, none⟩) hg1 (.int .i64 1)).setCell (p := ⟨g, i * 6 + 2, none⟩) hg1 (.int .i64 wt)).setCell (p := ⟨g, i * 6 + 3, none⟩) hg1 (.int .i64 0)).setCell (p := ⟨g, i * 6 + 4, none⟩) hg1 (.int .i64 0)).setCell (p := ⟨g, i * 6 + 5, none⟩) hg1 (.int .i64 0))
  clear hb2 xx
  go_wp2
  all_goals first | (go_ret; exact ⟨rfl, ⟨_, K6.out.o⟩, B6.out⟩) | (exfalso; first | omega | (simp at *; omega) | (simp at *; done))
end Go.Proofs.Ythngedmmeiiklaa
