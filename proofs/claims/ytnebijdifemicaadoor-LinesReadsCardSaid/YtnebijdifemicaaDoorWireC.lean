/- wire.rest: its contract. -/
import Derived.Test.YtnebijdifemicaaDoorWire
namespace Go.Proofs.YtnebijdifemicaaDoor
open Go.RowKit

def Ev.agg (x : Ev) : Value := .agg #[.int .i64 x.kind, .int .i64 x.key, .int .i64 x.slot, .int .i64 x.gen, .bool x.good, .int .i64 x.request, .int .i64 x.backend, .int .i64 x.weight]
/-- What an event's kind does not use. -/
def restE (e : Ev) : Ev :=
  if e.kind = 1 then ⟨0, 0, e.slot, e.gen, e.good, e.request, e.backend, e.weight⟩
  else if e.kind = 2 ∨ e.kind = 3 then ⟨0, e.key, 0, 0, e.good, e.request, e.backend, e.weight⟩
  else if e.kind = 4 then ⟨0, e.key, 0, 0, false, e.request, e.backend, e.weight⟩
  else if e.kind = 5 then ⟨0, e.key, e.slot, e.gen, e.good, 0, 0, 0⟩
  else if e.kind = 6 then ⟨0, e.key, e.slot, e.gen, e.good, 0, 0, e.weight⟩
  else ⟨0, e.key, e.slot, e.gen, e.good, e.request, e.backend, e.weight⟩
/-- What holds at the head of rest's loop: the event, the result, the number, the row. -/
def RtRel (w wr : World) (b0 : Nat) (w1 : World) (c : Array Value) : Prop := Below w.heap.size w wr ∧ wr.heap[w.heap.size]? = some (.cells c 37 (0, 0)) ∧ wr.heap[w.heap.size + 1]? = some (.cells #[.int .i64 0, .int .i64 0, .int .i64 0, .int .i64 0, .bool false, .int .i64 0, .int .i64 0, .int .i64 0] 37 (0, 0)) ∧ wr.heap[w.heap.size + 1 + 1]? = some (.cells #[.int .i64 0] 3 (0, 0)) ∧ (∀ o, wr.cell? ⟨b0, o, none⟩ = w1.cell? ⟨b0, o, none⟩) ∧ w.heap.size + 3 ≤ b0 ∧ b0 < wr.heap.size
theorem RtRel_step {w wr : World} {b0 : Nat} {w1 : World} {c : Array Value} {X : Obj} {j : Nat} {v : Value} (h : RtRel w wr b0 w1 c) : RtRel w ((wr.setCell ⟨w.heap.size, j, none⟩ v).alloc X) b0 w1 (c.setIfInBounds j v) := by
  obtain ⟨h1, h2, h3, h4, h5, h6, h7⟩ := h
  have l2 := lt_of_block h2
  have l3 := lt_of_block h3
  have l4 := lt_of_block h4
  refine ⟨(h1.setCell (by simp) _).alloc (by simp; omega) _, (Below.heap_alloc _ _ _ (by simpa using l2)).trans (blk_set h2 _), (Below.heap_alloc _ _ _ (by simpa using l3)).trans (blk_set_ne h3 (by omega)), (Below.heap_alloc _ _ _ (by simpa using l4)).trans (blk_set_ne h4 (by omega)), fun o => ?_, h6, by simp; omega⟩
  rw [((Below.refl _ _).alloc (Nat.le_refl _) X).cell (p := ⟨b0, o, none⟩) (by simpa using h7), cell_set_ne (by omega)]
  exact h5 o
theorem RtRel_stepg {w wr : World} {b0 : Nat} {w1 : World} {c : Array Value} {X : Obj} (h : RtRel w wr b0 w1 c) : RtRel w ((wr.setCell ⟨w.heap.size + 1 + 1, 0, none⟩ (.int .i64 0)).alloc X) b0 w1 c := by
  obtain ⟨h1, h2, h3, h4, h5, h6, h7⟩ := h
  have l2 := lt_of_block h2
  have l3 := lt_of_block h3
  have l4 := lt_of_block h4
  refine ⟨(h1.setCell (by simp; omega) _).alloc (by simp; omega) _, (Below.heap_alloc _ _ _ (by simpa using l2)).trans (blk_set_ne h2 (by omega)), (Below.heap_alloc _ _ _ (by simpa using l3)).trans (blk_set_ne h3 (by omega)), (Below.heap_alloc _ _ _ (by simpa using l4)).trans (blk_set h4 _), fun o => ?_, h6, by simp; omega⟩
  rw [((Below.refl _ _).alloc (Nat.le_refl _) X).cell (p := ⟨b0, o, none⟩) (by simpa using h7), cell_set_ne (by omega)]
  exact h5 o

set_option maxHeartbeats 4000000 in
set_option maxRecDepth 100000 in
theorem rest_1 (ky sl gn : Int) (gd : Bool) (rq bk wt : Int) (w : World) :
    Calls Tryd.prog 21 #[.agg #[.int .i64 1, .int .i64 ky, .int .i64 sl, .int .i64 gn, .bool gd, .int .i64 rq, .int .i64 bk, .int .i64 wt]] w fun e w' => e = .returned (restE ⟨1, ky, sl, gn, gd, rq, bk, wt⟩).agg ∧ Below w.heap.size w w' := by
  go_enter Tryd.func21, Tryd.ntmps21
  go_wp2_with fail
  refine (prog_fields ⟨1, ky, sl, gn, gd, rq, bk, wt⟩ w.heap.size (w.heap.size + 1 + 1) 0 true _ (by go_simp) rfl).mono ?_
  rintro e w1 ⟨v1, rfl, R1, hb1⟩
  have B1 := Lib.hid (((((Below.refl w.heap.size w).alloc (Nat.le_refl _) (.cells #[.int .i64 1, .int .i64 ky, .int .i64 sl, .int .i64 gn, .bool gd, .int .i64 rq, .int .i64 bk, .int .i64 wt] 37)).alloc (by simp) (.cells #[.int .i64 0, .int .i64 0, .int .i64 0, .int .i64 0, .bool false, .int .i64 0, .int .i64 0, .int .i64 0] 37)).alloc (by first | omega | (simp; done) | (simp; omega)) (.cells #[.int .i64 0] 3)).trans (hb1.mono (by first | omega | (simp; done) | (simp; omega))))
  have x0 := blk_below hb1 ((Below.heap_alloc (w := World.alloc _ _) _ _ (by first | omega | (simp; done) | (simp; omega))).trans ((Below.heap_alloc (w := w.alloc (.cells #[.int .i64 1, .int .i64 ky, .int .i64 sl, .int .i64 gn, .bool gd, .int .i64 rq, .int .i64 bk, .int .i64 wt] 37)) (.cells #[.int .i64 0, .int .i64 0, .int .i64 0, .int .i64 0, .bool false, .int .i64 0, .int .i64 0, .int .i64 0] 37) w.heap.size (by simp)).trans (heap_at _ rfl))) (by first | omega | (simp; done) | (simp; omega))
  have x1 := blk_below hb1 ((Below.heap_alloc (w := World.alloc _ _) (.cells #[.int .i64 0] 3) (w.heap.size + 1) (by simp)).trans (heap_at (w := w.alloc (.cells #[.int .i64 1, .int .i64 ky, .int .i64 sl, .int .i64 gn, .bool gd, .int .i64 rq, .int .i64 bk, .int .i64 wt] 37)) (.cells #[.int .i64 0, .int .i64 0, .int .i64 0, .int .i64 0, .bool false, .int .i64 0, .int .i64 0, .int .i64 0] 37) (by simp))) (by first | omega | (simp; done) | (simp; omega))
  have x2 := blk_below hb1 (heap_at (w := World.alloc _ _) (k := w.heap.size + 1 + 1) (.cells #[.int .i64 0] 3) (by simp)) (by first | omega | (simp; done) | (simp; omega))
  have s1 := hb1.size
  simp at s1
  obtain ⟨a, cap, hv, _, _, _, p⟩ := RowAt_fn ⟨⟨0, 0, none⟩, 0, 0, 0⟩ R1.1
  obtain ⟨b0, o0, rfl, hb0, q⟩ := p (by simp [evF])
  have hv : v1 = .slice (some ⟨b0, o0, none⟩) 1 cap := hv
  subst hv
  have hB0 := R1.2 _ _ _ rfl
  simp at hB0
  have q00 := q 0 0 (by simp [evF]) (by omega)
  have q01 := q 0 1 (by simp [evF]) (by omega)
  have q02 := q 0 2 (by simp [evF]) (by omega)
  simp [evF, FD.cells] at q00 q01 q02
  clear q p R1
  have HR0 : Hid (RtRel w w1 b0 w1 #[.int .i64 1, .int .i64 ky, .int .i64 sl, .int .i64 gn, .bool gd, .int .i64 rq, .int .i64 bk, .int .i64 wt]) := ⟨B1.out, x0, x1, x2, fun _ => rfl, by omega, hb0⟩
  have d0 := blk_cell x0 0
  simp at d0
  have m0 : w.heap.size < w1.heap.size := by omega
  clear hb1 x0 x1 x2
  go_wp2_with fail
  go_loopw [18] (fun i wr => (i = .int .i64 0 ∧ RtRel w wr b0 w1 #[.int .i64 1, .int .i64 ky, .int .i64 sl, .int .i64 gn, .bool gd, .int .i64 rq, .int .i64 bk, .int .i64 wt]) ∨ (i = .int .i64 1 ∧ RtRel w wr b0 w1 #[.int .i64 1, .int .i64 0, .int .i64 sl, .int .i64 gn, .bool gd, .int .i64 rq, .int .i64 bk, .int .i64 wt])) (fun i _ => 1 - (intOf i).toNat)
  case atStart => exact Or.inl ⟨rfl, HR0.out⟩
  case round =>
    clear HR0
    rcases hrel with ⟨rfl, hrel⟩ | ⟨rfl, hrel⟩
    · have HR := Lib.hid hrel
      obtain ⟨h1, h2, h3, h4, h5, h6, h7⟩ := hrel
      have r0 := (h5 _).trans q00
      have r1 := (h5 _).trans q01
      have r2 := (h5 _).trans q02
      have t0 := blk_cell h2 1
      have t1 := blk_free h2 1
      simp at t0
      have l0 := lt_of_block h2
      clear h1 h2 h3 h4 h5
      go_wp2
      go_roundw
      case rel => exact Or.inr (⟨by go_num, RtRel_step HR.out⟩)
      case measure => simp [intOf]
    · obtain ⟨h1, h2, h3, h4, h5, h6, h7⟩ := hrel
      have g0 := blk_free h2 0
      have d0 := blk_cell h2 0
      have d1 := blk_cell h2 1
      have d2 := blk_cell h2 2
      have d3 := blk_cell h2 3
      have d4 := blk_cell h2 4
      have d5 := blk_cell h2 5
      have d6 := blk_cell h2 6
      have d7 := blk_cell h2 7
      have y0 := blk_cell h3 0
      have z0 := blk_free h3 0
      have y1 := blk_cell h3 1
      have z1 := blk_free h3 1
      have y2 := blk_cell h3 2
      have z2 := blk_free h3 2
      have y3 := blk_cell h3 3
      have z3 := blk_free h3 3
      have y4 := blk_cell h3 4
      have z4 := blk_free h3 4
      have y5 := blk_cell h3 5
      have z5 := blk_free h3 5
      have y6 := blk_cell h3 6
      have z6 := blk_free h3 6
      have y7 := blk_cell h3 7
      have z7 := blk_free h3 7
      simp at d0 d1 d2 d3 d4 d5 d6 d7 y0 y1 y2 y3 y4 y5 y6 y7
      have m1 : w.heap.size < wr.heap.size := by omega
      have m2 : w.heap.size + 1 < wr.heap.size := by omega
      clear h2 h3 h4 h5
      go_wp2
      refine bodyPost_ret (v := .agg #[.int .i64 0, .int .i64 0, .int .i64 sl, .int .i64 gn, .bool gd, .int .i64 rq, .int .i64 bk, .int .i64 wt]) ?_ rfl ⟨rfl, (by repeat (first | (with_reducible exact Below.refl _ _) | (with_reducible assumption) | (with_reducible refine Below.drew ?_) | (with_reducible refine Below_drewN ?_) | (with_reducible refine Below.alloc ?_ (by first | omega | (simp; done) | (simp; omega)) _) | (with_reducible refine Below.setCell ?_ (by first | omega | (simp; done) | (simp; omega)) _) | (with_reducible refine Below.trans ?_ (Below.mono (by assumption) (by first | omega | (simp; done) | (simp; omega))))))⟩
      simp [results, Tryd.results21, go_sem, *]

set_option maxHeartbeats 4000000 in
set_option maxRecDepth 100000 in
theorem rest_2 (ky sl gn : Int) (gd : Bool) (rq bk wt : Int) (w : World) :
    Calls Tryd.prog 21 #[.agg #[.int .i64 2, .int .i64 ky, .int .i64 sl, .int .i64 gn, .bool gd, .int .i64 rq, .int .i64 bk, .int .i64 wt]] w fun e w' => e = .returned (restE ⟨2, ky, sl, gn, gd, rq, bk, wt⟩).agg ∧ Below w.heap.size w w' := by
  go_enter Tryd.func21, Tryd.ntmps21
  go_wp2_with fail
  refine (prog_fields ⟨2, ky, sl, gn, gd, rq, bk, wt⟩ w.heap.size (w.heap.size + 1 + 1) 0 true _ (by go_simp) rfl).mono ?_
  rintro e w1 ⟨v1, rfl, R1, hb1⟩
  have B1 := Lib.hid (((((Below.refl w.heap.size w).alloc (Nat.le_refl _) (.cells #[.int .i64 2, .int .i64 ky, .int .i64 sl, .int .i64 gn, .bool gd, .int .i64 rq, .int .i64 bk, .int .i64 wt] 37)).alloc (by simp) (.cells #[.int .i64 0, .int .i64 0, .int .i64 0, .int .i64 0, .bool false, .int .i64 0, .int .i64 0, .int .i64 0] 37)).alloc (by first | omega | (simp; done) | (simp; omega)) (.cells #[.int .i64 0] 3)).trans (hb1.mono (by first | omega | (simp; done) | (simp; omega))))
  have x0 := blk_below hb1 ((Below.heap_alloc (w := World.alloc _ _) _ _ (by first | omega | (simp; done) | (simp; omega))).trans ((Below.heap_alloc (w := w.alloc (.cells #[.int .i64 2, .int .i64 ky, .int .i64 sl, .int .i64 gn, .bool gd, .int .i64 rq, .int .i64 bk, .int .i64 wt] 37)) (.cells #[.int .i64 0, .int .i64 0, .int .i64 0, .int .i64 0, .bool false, .int .i64 0, .int .i64 0, .int .i64 0] 37) w.heap.size (by simp)).trans (heap_at _ rfl))) (by first | omega | (simp; done) | (simp; omega))
  have x1 := blk_below hb1 ((Below.heap_alloc (w := World.alloc _ _) (.cells #[.int .i64 0] 3) (w.heap.size + 1) (by simp)).trans (heap_at (w := w.alloc (.cells #[.int .i64 2, .int .i64 ky, .int .i64 sl, .int .i64 gn, .bool gd, .int .i64 rq, .int .i64 bk, .int .i64 wt] 37)) (.cells #[.int .i64 0, .int .i64 0, .int .i64 0, .int .i64 0, .bool false, .int .i64 0, .int .i64 0, .int .i64 0] 37) (by simp))) (by first | omega | (simp; done) | (simp; omega))
  have x2 := blk_below hb1 (heap_at (w := World.alloc _ _) (k := w.heap.size + 1 + 1) (.cells #[.int .i64 0] 3) (by simp)) (by first | omega | (simp; done) | (simp; omega))
  have s1 := hb1.size
  simp at s1
  obtain ⟨a, cap, hv, _, _, _, p⟩ := RowAt_fn ⟨⟨0, 0, none⟩, 0, 0, 0⟩ R1.1
  obtain ⟨b0, o0, rfl, hb0, q⟩ := p (by simp [evF])
  have hv : v1 = .slice (some ⟨b0, o0, none⟩) 2 cap := hv
  subst hv
  have hB0 := R1.2 _ _ _ rfl
  simp at hB0
  have q00 := q 0 0 (by simp [evF]) (by omega)
  have q01 := q 0 1 (by simp [evF]) (by omega)
  have q02 := q 0 2 (by simp [evF]) (by omega)
  have q10 := q 1 0 (by simp [evF]) (by omega)
  have q11 := q 1 1 (by simp [evF]) (by omega)
  have q12 := q 1 2 (by simp [evF]) (by omega)
  simp [evF, FD.cells] at q00 q01 q02 q10 q11 q12
  clear q p R1
  have HR0 : Hid (RtRel w w1 b0 w1 #[.int .i64 2, .int .i64 ky, .int .i64 sl, .int .i64 gn, .bool gd, .int .i64 rq, .int .i64 bk, .int .i64 wt]) := ⟨B1.out, x0, x1, x2, fun _ => rfl, by omega, hb0⟩
  have d0 := blk_cell x0 0
  simp at d0
  have m0 : w.heap.size < w1.heap.size := by omega
  clear hb1 x0 x1 x2
  go_wp2_with fail
  go_loopw [18] (fun i wr => (i = .int .i64 0 ∧ RtRel w wr b0 w1 #[.int .i64 2, .int .i64 ky, .int .i64 sl, .int .i64 gn, .bool gd, .int .i64 rq, .int .i64 bk, .int .i64 wt]) ∨ (i = .int .i64 1 ∧ RtRel w wr b0 w1 #[.int .i64 2, .int .i64 ky, .int .i64 0, .int .i64 gn, .bool gd, .int .i64 rq, .int .i64 bk, .int .i64 wt]) ∨ (i = .int .i64 2 ∧ RtRel w wr b0 w1 #[.int .i64 2, .int .i64 ky, .int .i64 0, .int .i64 0, .bool gd, .int .i64 rq, .int .i64 bk, .int .i64 wt])) (fun i _ => 2 - (intOf i).toNat)
  case atStart => exact Or.inl ⟨rfl, HR0.out⟩
  case round =>
    clear HR0
    rcases hrel with ⟨rfl, hrel⟩ | ⟨rfl, hrel⟩ | ⟨rfl, hrel⟩
    · have HR := Lib.hid hrel
      obtain ⟨h1, h2, h3, h4, h5, h6, h7⟩ := hrel
      have r0 := (h5 _).trans q00
      have r1 := (h5 _).trans q01
      have r2 := (h5 _).trans q02
      have t0 := blk_cell h2 2
      have t1 := blk_free h2 2
      simp at t0
      have l0 := lt_of_block h2
      clear h1 h2 h3 h4 h5
      go_wp2
      go_roundw
      case rel => exact Or.inr (Or.inl ⟨by go_num, RtRel_step HR.out⟩)
      case measure => simp [intOf]
    · have HR := Lib.hid hrel
      obtain ⟨h1, h2, h3, h4, h5, h6, h7⟩ := hrel
      have r0 := (h5 _).trans q10
      have r1 := (h5 _).trans q11
      have r2 := (h5 _).trans q12
      have t0 := blk_cell h2 3
      have t1 := blk_free h2 3
      simp at t0
      have l0 := lt_of_block h2
      clear h1 h2 h3 h4 h5
      go_wp2
      go_roundw
      case rel => exact Or.inr (Or.inr (⟨by go_num, RtRel_step HR.out⟩))
      case measure => simp [intOf]
    · obtain ⟨h1, h2, h3, h4, h5, h6, h7⟩ := hrel
      have g0 := blk_free h2 0
      have d0 := blk_cell h2 0
      have d1 := blk_cell h2 1
      have d2 := blk_cell h2 2
      have d3 := blk_cell h2 3
      have d4 := blk_cell h2 4
      have d5 := blk_cell h2 5
      have d6 := blk_cell h2 6
      have d7 := blk_cell h2 7
      have y0 := blk_cell h3 0
      have z0 := blk_free h3 0
      have y1 := blk_cell h3 1
      have z1 := blk_free h3 1
      have y2 := blk_cell h3 2
      have z2 := blk_free h3 2
      have y3 := blk_cell h3 3
      have z3 := blk_free h3 3
      have y4 := blk_cell h3 4
      have z4 := blk_free h3 4
      have y5 := blk_cell h3 5
      have z5 := blk_free h3 5
      have y6 := blk_cell h3 6
      have z6 := blk_free h3 6
      have y7 := blk_cell h3 7
      have z7 := blk_free h3 7
      simp at d0 d1 d2 d3 d4 d5 d6 d7 y0 y1 y2 y3 y4 y5 y6 y7
      have m1 : w.heap.size < wr.heap.size := by omega
      have m2 : w.heap.size + 1 < wr.heap.size := by omega
      clear h2 h3 h4 h5
      go_wp2
      refine bodyPost_ret (v := .agg #[.int .i64 0, .int .i64 ky, .int .i64 0, .int .i64 0, .bool gd, .int .i64 rq, .int .i64 bk, .int .i64 wt]) ?_ rfl ⟨rfl, (by repeat (first | (with_reducible exact Below.refl _ _) | (with_reducible assumption) | (with_reducible refine Below.drew ?_) | (with_reducible refine Below_drewN ?_) | (with_reducible refine Below.alloc ?_ (by first | omega | (simp; done) | (simp; omega)) _) | (with_reducible refine Below.setCell ?_ (by first | omega | (simp; done) | (simp; omega)) _) | (with_reducible refine Below.trans ?_ (Below.mono (by assumption) (by first | omega | (simp; done) | (simp; omega))))))⟩
      simp [results, Tryd.results21, go_sem, *]

set_option maxHeartbeats 4000000 in
set_option maxRecDepth 100000 in
theorem rest_3 (ky sl gn : Int) (gd : Bool) (rq bk wt : Int) (w : World) :
    Calls Tryd.prog 21 #[.agg #[.int .i64 3, .int .i64 ky, .int .i64 sl, .int .i64 gn, .bool gd, .int .i64 rq, .int .i64 bk, .int .i64 wt]] w fun e w' => e = .returned (restE ⟨3, ky, sl, gn, gd, rq, bk, wt⟩).agg ∧ Below w.heap.size w w' := by
  go_enter Tryd.func21, Tryd.ntmps21
  go_wp2_with fail
  refine (prog_fields ⟨3, ky, sl, gn, gd, rq, bk, wt⟩ w.heap.size (w.heap.size + 1 + 1) 0 true _ (by go_simp) rfl).mono ?_
  rintro e w1 ⟨v1, rfl, R1, hb1⟩
  have B1 := Lib.hid (((((Below.refl w.heap.size w).alloc (Nat.le_refl _) (.cells #[.int .i64 3, .int .i64 ky, .int .i64 sl, .int .i64 gn, .bool gd, .int .i64 rq, .int .i64 bk, .int .i64 wt] 37)).alloc (by simp) (.cells #[.int .i64 0, .int .i64 0, .int .i64 0, .int .i64 0, .bool false, .int .i64 0, .int .i64 0, .int .i64 0] 37)).alloc (by first | omega | (simp; done) | (simp; omega)) (.cells #[.int .i64 0] 3)).trans (hb1.mono (by first | omega | (simp; done) | (simp; omega))))
  have x0 := blk_below hb1 ((Below.heap_alloc (w := World.alloc _ _) _ _ (by first | omega | (simp; done) | (simp; omega))).trans ((Below.heap_alloc (w := w.alloc (.cells #[.int .i64 3, .int .i64 ky, .int .i64 sl, .int .i64 gn, .bool gd, .int .i64 rq, .int .i64 bk, .int .i64 wt] 37)) (.cells #[.int .i64 0, .int .i64 0, .int .i64 0, .int .i64 0, .bool false, .int .i64 0, .int .i64 0, .int .i64 0] 37) w.heap.size (by simp)).trans (heap_at _ rfl))) (by first | omega | (simp; done) | (simp; omega))
  have x1 := blk_below hb1 ((Below.heap_alloc (w := World.alloc _ _) (.cells #[.int .i64 0] 3) (w.heap.size + 1) (by simp)).trans (heap_at (w := w.alloc (.cells #[.int .i64 3, .int .i64 ky, .int .i64 sl, .int .i64 gn, .bool gd, .int .i64 rq, .int .i64 bk, .int .i64 wt] 37)) (.cells #[.int .i64 0, .int .i64 0, .int .i64 0, .int .i64 0, .bool false, .int .i64 0, .int .i64 0, .int .i64 0] 37) (by simp))) (by first | omega | (simp; done) | (simp; omega))
  have x2 := blk_below hb1 (heap_at (w := World.alloc _ _) (k := w.heap.size + 1 + 1) (.cells #[.int .i64 0] 3) (by simp)) (by first | omega | (simp; done) | (simp; omega))
  have s1 := hb1.size
  simp at s1
  obtain ⟨a, cap, hv, _, _, _, p⟩ := RowAt_fn ⟨⟨0, 0, none⟩, 0, 0, 0⟩ R1.1
  obtain ⟨b0, o0, rfl, hb0, q⟩ := p (by simp [evF])
  have hv : v1 = .slice (some ⟨b0, o0, none⟩) 2 cap := hv
  subst hv
  have hB0 := R1.2 _ _ _ rfl
  simp at hB0
  have q00 := q 0 0 (by simp [evF]) (by omega)
  have q01 := q 0 1 (by simp [evF]) (by omega)
  have q02 := q 0 2 (by simp [evF]) (by omega)
  have q10 := q 1 0 (by simp [evF]) (by omega)
  have q11 := q 1 1 (by simp [evF]) (by omega)
  have q12 := q 1 2 (by simp [evF]) (by omega)
  simp [evF, FD.cells] at q00 q01 q02 q10 q11 q12
  clear q p R1
  have HR0 : Hid (RtRel w w1 b0 w1 #[.int .i64 3, .int .i64 ky, .int .i64 sl, .int .i64 gn, .bool gd, .int .i64 rq, .int .i64 bk, .int .i64 wt]) := ⟨B1.out, x0, x1, x2, fun _ => rfl, by omega, hb0⟩
  have d0 := blk_cell x0 0
  simp at d0
  have m0 : w.heap.size < w1.heap.size := by omega
  clear hb1 x0 x1 x2
  go_wp2_with fail
  go_loopw [18] (fun i wr => (i = .int .i64 0 ∧ RtRel w wr b0 w1 #[.int .i64 3, .int .i64 ky, .int .i64 sl, .int .i64 gn, .bool gd, .int .i64 rq, .int .i64 bk, .int .i64 wt]) ∨ (i = .int .i64 1 ∧ RtRel w wr b0 w1 #[.int .i64 3, .int .i64 ky, .int .i64 0, .int .i64 gn, .bool gd, .int .i64 rq, .int .i64 bk, .int .i64 wt]) ∨ (i = .int .i64 2 ∧ RtRel w wr b0 w1 #[.int .i64 3, .int .i64 ky, .int .i64 0, .int .i64 0, .bool gd, .int .i64 rq, .int .i64 bk, .int .i64 wt])) (fun i _ => 2 - (intOf i).toNat)
  case atStart => exact Or.inl ⟨rfl, HR0.out⟩
  case round =>
    clear HR0
    rcases hrel with ⟨rfl, hrel⟩ | ⟨rfl, hrel⟩ | ⟨rfl, hrel⟩
    · have HR := Lib.hid hrel
      obtain ⟨h1, h2, h3, h4, h5, h6, h7⟩ := hrel
      have r0 := (h5 _).trans q00
      have r1 := (h5 _).trans q01
      have r2 := (h5 _).trans q02
      have t0 := blk_cell h2 2
      have t1 := blk_free h2 2
      simp at t0
      have l0 := lt_of_block h2
      clear h1 h2 h3 h4 h5
      go_wp2
      go_roundw
      case rel => exact Or.inr (Or.inl ⟨by go_num, RtRel_step HR.out⟩)
      case measure => simp [intOf]
    · have HR := Lib.hid hrel
      obtain ⟨h1, h2, h3, h4, h5, h6, h7⟩ := hrel
      have r0 := (h5 _).trans q10
      have r1 := (h5 _).trans q11
      have r2 := (h5 _).trans q12
      have t0 := blk_cell h2 3
      have t1 := blk_free h2 3
      simp at t0
      have l0 := lt_of_block h2
      clear h1 h2 h3 h4 h5
      go_wp2
      go_roundw
      case rel => exact Or.inr (Or.inr (⟨by go_num, RtRel_step HR.out⟩))
      case measure => simp [intOf]
    · obtain ⟨h1, h2, h3, h4, h5, h6, h7⟩ := hrel
      have g0 := blk_free h2 0
      have d0 := blk_cell h2 0
      have d1 := blk_cell h2 1
      have d2 := blk_cell h2 2
      have d3 := blk_cell h2 3
      have d4 := blk_cell h2 4
      have d5 := blk_cell h2 5
      have d6 := blk_cell h2 6
      have d7 := blk_cell h2 7
      have y0 := blk_cell h3 0
      have z0 := blk_free h3 0
      have y1 := blk_cell h3 1
      have z1 := blk_free h3 1
      have y2 := blk_cell h3 2
      have z2 := blk_free h3 2
      have y3 := blk_cell h3 3
      have z3 := blk_free h3 3
      have y4 := blk_cell h3 4
      have z4 := blk_free h3 4
      have y5 := blk_cell h3 5
      have z5 := blk_free h3 5
      have y6 := blk_cell h3 6
      have z6 := blk_free h3 6
      have y7 := blk_cell h3 7
      have z7 := blk_free h3 7
      simp at d0 d1 d2 d3 d4 d5 d6 d7 y0 y1 y2 y3 y4 y5 y6 y7
      have m1 : w.heap.size < wr.heap.size := by omega
      have m2 : w.heap.size + 1 < wr.heap.size := by omega
      clear h2 h3 h4 h5
      go_wp2
      refine bodyPost_ret (v := .agg #[.int .i64 0, .int .i64 ky, .int .i64 0, .int .i64 0, .bool gd, .int .i64 rq, .int .i64 bk, .int .i64 wt]) ?_ rfl ⟨rfl, (by repeat (first | (with_reducible exact Below.refl _ _) | (with_reducible assumption) | (with_reducible refine Below.drew ?_) | (with_reducible refine Below_drewN ?_) | (with_reducible refine Below.alloc ?_ (by first | omega | (simp; done) | (simp; omega)) _) | (with_reducible refine Below.setCell ?_ (by first | omega | (simp; done) | (simp; omega)) _) | (with_reducible refine Below.trans ?_ (Below.mono (by assumption) (by first | omega | (simp; done) | (simp; omega))))))⟩
      simp [results, Tryd.results21, go_sem, *]

set_option maxHeartbeats 4000000 in
set_option maxRecDepth 100000 in
theorem rest_4 (ky sl gn : Int) (gd : Bool) (rq bk wt : Int) (w : World) :
    Calls Tryd.prog 21 #[.agg #[.int .i64 4, .int .i64 ky, .int .i64 sl, .int .i64 gn, .bool gd, .int .i64 rq, .int .i64 bk, .int .i64 wt]] w fun e w' => e = .returned (restE ⟨4, ky, sl, gn, gd, rq, bk, wt⟩).agg ∧ Below w.heap.size w w' := by
  go_enter Tryd.func21, Tryd.ntmps21
  go_wp2_with fail
  refine (prog_fields ⟨4, ky, sl, gn, gd, rq, bk, wt⟩ w.heap.size (w.heap.size + 1 + 1) 0 true _ (by go_simp) rfl).mono ?_
  rintro e w1 ⟨v1, rfl, R1, hb1⟩
  have B1 := Lib.hid (((((Below.refl w.heap.size w).alloc (Nat.le_refl _) (.cells #[.int .i64 4, .int .i64 ky, .int .i64 sl, .int .i64 gn, .bool gd, .int .i64 rq, .int .i64 bk, .int .i64 wt] 37)).alloc (by simp) (.cells #[.int .i64 0, .int .i64 0, .int .i64 0, .int .i64 0, .bool false, .int .i64 0, .int .i64 0, .int .i64 0] 37)).alloc (by first | omega | (simp; done) | (simp; omega)) (.cells #[.int .i64 0] 3)).trans (hb1.mono (by first | omega | (simp; done) | (simp; omega))))
  have x0 := blk_below hb1 ((Below.heap_alloc (w := World.alloc _ _) _ _ (by first | omega | (simp; done) | (simp; omega))).trans ((Below.heap_alloc (w := w.alloc (.cells #[.int .i64 4, .int .i64 ky, .int .i64 sl, .int .i64 gn, .bool gd, .int .i64 rq, .int .i64 bk, .int .i64 wt] 37)) (.cells #[.int .i64 0, .int .i64 0, .int .i64 0, .int .i64 0, .bool false, .int .i64 0, .int .i64 0, .int .i64 0] 37) w.heap.size (by simp)).trans (heap_at _ rfl))) (by first | omega | (simp; done) | (simp; omega))
  have x1 := blk_below hb1 ((Below.heap_alloc (w := World.alloc _ _) (.cells #[.int .i64 0] 3) (w.heap.size + 1) (by simp)).trans (heap_at (w := w.alloc (.cells #[.int .i64 4, .int .i64 ky, .int .i64 sl, .int .i64 gn, .bool gd, .int .i64 rq, .int .i64 bk, .int .i64 wt] 37)) (.cells #[.int .i64 0, .int .i64 0, .int .i64 0, .int .i64 0, .bool false, .int .i64 0, .int .i64 0, .int .i64 0] 37) (by simp))) (by first | omega | (simp; done) | (simp; omega))
  have x2 := blk_below hb1 (heap_at (w := World.alloc _ _) (k := w.heap.size + 1 + 1) (.cells #[.int .i64 0] 3) (by simp)) (by first | omega | (simp; done) | (simp; omega))
  have s1 := hb1.size
  simp at s1
  obtain ⟨a, cap, hv, _, _, _, p⟩ := RowAt_fn ⟨⟨0, 0, none⟩, 0, 0, 0⟩ R1.1
  obtain ⟨b0, o0, rfl, hb0, q⟩ := p (by simp [evF])
  have hv : v1 = .slice (some ⟨b0, o0, none⟩) 3 cap := hv
  subst hv
  have hB0 := R1.2 _ _ _ rfl
  simp at hB0
  have q00 := q 0 0 (by simp [evF]) (by omega)
  have q01 := q 0 1 (by simp [evF]) (by omega)
  have q02 := q 0 2 (by simp [evF]) (by omega)
  have q10 := q 1 0 (by simp [evF]) (by omega)
  have q11 := q 1 1 (by simp [evF]) (by omega)
  have q12 := q 1 2 (by simp [evF]) (by omega)
  have q20 := q 2 0 (by simp [evF]) (by omega)
  have q21 := q 2 1 (by simp [evF]) (by omega)
  have q22 := q 2 2 (by simp [evF]) (by omega)
  simp [evF, FD.cells] at q00 q01 q02 q10 q11 q12 q20 q21 q22
  clear q p R1
  have HR0 : Hid (RtRel w w1 b0 w1 #[.int .i64 4, .int .i64 ky, .int .i64 sl, .int .i64 gn, .bool gd, .int .i64 rq, .int .i64 bk, .int .i64 wt]) := ⟨B1.out, x0, x1, x2, fun _ => rfl, by omega, hb0⟩
  have d0 := blk_cell x0 0
  simp at d0
  have d4 := blk_cell x0 4
  have g4 := blk_free x0 4
  simp at d4
  have m0 : w.heap.size < w1.heap.size := by omega
  clear hb1 x0 x1 x2
  go_wp2_with fail
  go_loopw [18] (fun i wr => (i = .int .i64 0 ∧ RtRel w wr b0 w1 #[.int .i64 4, .int .i64 ky, .int .i64 sl, .int .i64 gn, .bool false, .int .i64 rq, .int .i64 bk, .int .i64 wt]) ∨ (i = .int .i64 1 ∧ RtRel w wr b0 w1 #[.int .i64 4, .int .i64 ky, .int .i64 0, .int .i64 gn, .bool false, .int .i64 rq, .int .i64 bk, .int .i64 wt]) ∨ (i = .int .i64 2 ∧ RtRel w wr b0 w1 #[.int .i64 4, .int .i64 ky, .int .i64 0, .int .i64 0, .bool false, .int .i64 rq, .int .i64 bk, .int .i64 wt]) ∨ (i = .int .i64 3 ∧ RtRel w wr b0 w1 #[.int .i64 4, .int .i64 ky, .int .i64 0, .int .i64 0, .bool false, .int .i64 rq, .int .i64 bk, .int .i64 wt])) (fun i _ => 3 - (intOf i).toNat)
  case atStart =>
    refine Or.inl ⟨rfl, ?_⟩
    obtain ⟨h1, h2, h3, h4, h5, h6, h7⟩ := HR0.out
    refine ⟨h1.setCell (by simp) _, blk_set h2 _, blk_set_ne h3 (by omega), blk_set_ne h4 (by omega), fun o => ?_, h6, by simpa using h7⟩
    rw [cell_set_ne (by omega)]
  case round =>
    clear HR0
    rcases hrel with ⟨rfl, hrel⟩ | ⟨rfl, hrel⟩ | ⟨rfl, hrel⟩ | ⟨rfl, hrel⟩
    · have HR := Lib.hid hrel
      obtain ⟨h1, h2, h3, h4, h5, h6, h7⟩ := hrel
      have r0 := (h5 _).trans q00
      have r1 := (h5 _).trans q01
      have r2 := (h5 _).trans q02
      have t0 := blk_cell h2 2
      have t1 := blk_free h2 2
      simp at t0
      have l0 := lt_of_block h2
      clear h1 h2 h3 h4 h5
      go_wp2
      go_roundw
      case rel => exact Or.inr (Or.inl ⟨by go_num, RtRel_step HR.out⟩)
      case measure => simp [intOf]
    · have HR := Lib.hid hrel
      obtain ⟨h1, h2, h3, h4, h5, h6, h7⟩ := hrel
      have r0 := (h5 _).trans q10
      have r1 := (h5 _).trans q11
      have r2 := (h5 _).trans q12
      have t0 := blk_cell h2 3
      have t1 := blk_free h2 3
      simp at t0
      have l0 := lt_of_block h2
      clear h1 h2 h3 h4 h5
      go_wp2
      go_roundw
      case rel => exact Or.inr (Or.inr (Or.inl ⟨by go_num, RtRel_step HR.out⟩))
      case measure => simp [intOf]
    · have HR := Lib.hid hrel
      obtain ⟨h1, h2, h3, h4, h5, h6, h7⟩ := hrel
      have r0 := (h5 _).trans q20
      have r1 := (h5 _).trans q21
      have r2 := (h5 _).trans q22
      have t0 := blk_cell h4 0
      have t1 := blk_free h4 0
      simp at t0
      have l0 := lt_of_block h4
      clear h1 h2 h3 h4 h5
      go_wp2
      go_roundw
      case rel => exact Or.inr (Or.inr (Or.inr (⟨by go_num, RtRel_stepg HR.out⟩)))
      case measure => simp [intOf]
    · obtain ⟨h1, h2, h3, h4, h5, h6, h7⟩ := hrel
      have g0 := blk_free h2 0
      have d0 := blk_cell h2 0
      have d1 := blk_cell h2 1
      have d2 := blk_cell h2 2
      have d3 := blk_cell h2 3
      have d4 := blk_cell h2 4
      have d5 := blk_cell h2 5
      have d6 := blk_cell h2 6
      have d7 := blk_cell h2 7
      have y0 := blk_cell h3 0
      have z0 := blk_free h3 0
      have y1 := blk_cell h3 1
      have z1 := blk_free h3 1
      have y2 := blk_cell h3 2
      have z2 := blk_free h3 2
      have y3 := blk_cell h3 3
      have z3 := blk_free h3 3
      have y4 := blk_cell h3 4
      have z4 := blk_free h3 4
      have y5 := blk_cell h3 5
      have z5 := blk_free h3 5
      have y6 := blk_cell h3 6
      have z6 := blk_free h3 6
      have y7 := blk_cell h3 7
      have z7 := blk_free h3 7
      simp at d0 d1 d2 d3 d4 d5 d6 d7 y0 y1 y2 y3 y4 y5 y6 y7
      have m1 : w.heap.size < wr.heap.size := by omega
      have m2 : w.heap.size + 1 < wr.heap.size := by omega
      clear h2 h3 h4 h5
      go_wp2
      refine bodyPost_ret (v := .agg #[.int .i64 0, .int .i64 ky, .int .i64 0, .int .i64 0, .bool false, .int .i64 rq, .int .i64 bk, .int .i64 wt]) ?_ rfl ⟨rfl, (by repeat (first | (with_reducible exact Below.refl _ _) | (with_reducible assumption) | (with_reducible refine Below.drew ?_) | (with_reducible refine Below_drewN ?_) | (with_reducible refine Below.alloc ?_ (by first | omega | (simp; done) | (simp; omega)) _) | (with_reducible refine Below.setCell ?_ (by first | omega | (simp; done) | (simp; omega)) _) | (with_reducible refine Below.trans ?_ (Below.mono (by assumption) (by first | omega | (simp; done) | (simp; omega))))))⟩
      simp [results, Tryd.results21, go_sem, *]

set_option maxHeartbeats 4000000 in
set_option maxRecDepth 100000 in
theorem rest_5 (ky sl gn : Int) (gd : Bool) (rq bk wt : Int) (w : World) :
    Calls Tryd.prog 21 #[.agg #[.int .i64 5, .int .i64 ky, .int .i64 sl, .int .i64 gn, .bool gd, .int .i64 rq, .int .i64 bk, .int .i64 wt]] w fun e w' => e = .returned (restE ⟨5, ky, sl, gn, gd, rq, bk, wt⟩).agg ∧ Below w.heap.size w w' := by
  go_enter Tryd.func21, Tryd.ntmps21
  go_wp2_with fail
  refine (prog_fields ⟨5, ky, sl, gn, gd, rq, bk, wt⟩ w.heap.size (w.heap.size + 1 + 1) 0 true _ (by go_simp) rfl).mono ?_
  rintro e w1 ⟨v1, rfl, R1, hb1⟩
  have B1 := Lib.hid (((((Below.refl w.heap.size w).alloc (Nat.le_refl _) (.cells #[.int .i64 5, .int .i64 ky, .int .i64 sl, .int .i64 gn, .bool gd, .int .i64 rq, .int .i64 bk, .int .i64 wt] 37)).alloc (by simp) (.cells #[.int .i64 0, .int .i64 0, .int .i64 0, .int .i64 0, .bool false, .int .i64 0, .int .i64 0, .int .i64 0] 37)).alloc (by first | omega | (simp; done) | (simp; omega)) (.cells #[.int .i64 0] 3)).trans (hb1.mono (by first | omega | (simp; done) | (simp; omega))))
  have x0 := blk_below hb1 ((Below.heap_alloc (w := World.alloc _ _) _ _ (by first | omega | (simp; done) | (simp; omega))).trans ((Below.heap_alloc (w := w.alloc (.cells #[.int .i64 5, .int .i64 ky, .int .i64 sl, .int .i64 gn, .bool gd, .int .i64 rq, .int .i64 bk, .int .i64 wt] 37)) (.cells #[.int .i64 0, .int .i64 0, .int .i64 0, .int .i64 0, .bool false, .int .i64 0, .int .i64 0, .int .i64 0] 37) w.heap.size (by simp)).trans (heap_at _ rfl))) (by first | omega | (simp; done) | (simp; omega))
  have x1 := blk_below hb1 ((Below.heap_alloc (w := World.alloc _ _) (.cells #[.int .i64 0] 3) (w.heap.size + 1) (by simp)).trans (heap_at (w := w.alloc (.cells #[.int .i64 5, .int .i64 ky, .int .i64 sl, .int .i64 gn, .bool gd, .int .i64 rq, .int .i64 bk, .int .i64 wt] 37)) (.cells #[.int .i64 0, .int .i64 0, .int .i64 0, .int .i64 0, .bool false, .int .i64 0, .int .i64 0, .int .i64 0] 37) (by simp))) (by first | omega | (simp; done) | (simp; omega))
  have x2 := blk_below hb1 (heap_at (w := World.alloc _ _) (k := w.heap.size + 1 + 1) (.cells #[.int .i64 0] 3) (by simp)) (by first | omega | (simp; done) | (simp; omega))
  have s1 := hb1.size
  simp at s1
  obtain ⟨a, cap, hv, _, _, _, p⟩ := RowAt_fn ⟨⟨0, 0, none⟩, 0, 0, 0⟩ R1.1
  obtain ⟨b0, o0, rfl, hb0, q⟩ := p (by simp [evF])
  have hv : v1 = .slice (some ⟨b0, o0, none⟩) 3 cap := hv
  subst hv
  have hB0 := R1.2 _ _ _ rfl
  simp at hB0
  have q00 := q 0 0 (by simp [evF]) (by omega)
  have q01 := q 0 1 (by simp [evF]) (by omega)
  have q02 := q 0 2 (by simp [evF]) (by omega)
  have q10 := q 1 0 (by simp [evF]) (by omega)
  have q11 := q 1 1 (by simp [evF]) (by omega)
  have q12 := q 1 2 (by simp [evF]) (by omega)
  have q20 := q 2 0 (by simp [evF]) (by omega)
  have q21 := q 2 1 (by simp [evF]) (by omega)
  have q22 := q 2 2 (by simp [evF]) (by omega)
  simp [evF, FD.cells] at q00 q01 q02 q10 q11 q12 q20 q21 q22
  clear q p R1
  have HR0 : Hid (RtRel w w1 b0 w1 #[.int .i64 5, .int .i64 ky, .int .i64 sl, .int .i64 gn, .bool gd, .int .i64 rq, .int .i64 bk, .int .i64 wt]) := ⟨B1.out, x0, x1, x2, fun _ => rfl, by omega, hb0⟩
  have d0 := blk_cell x0 0
  simp at d0
  have m0 : w.heap.size < w1.heap.size := by omega
  clear hb1 x0 x1 x2
  go_wp2_with fail
  go_loopw [18] (fun i wr => (i = .int .i64 0 ∧ RtRel w wr b0 w1 #[.int .i64 5, .int .i64 ky, .int .i64 sl, .int .i64 gn, .bool gd, .int .i64 rq, .int .i64 bk, .int .i64 wt]) ∨ (i = .int .i64 1 ∧ RtRel w wr b0 w1 #[.int .i64 5, .int .i64 ky, .int .i64 sl, .int .i64 gn, .bool gd, .int .i64 0, .int .i64 bk, .int .i64 wt]) ∨ (i = .int .i64 2 ∧ RtRel w wr b0 w1 #[.int .i64 5, .int .i64 ky, .int .i64 sl, .int .i64 gn, .bool gd, .int .i64 0, .int .i64 0, .int .i64 wt]) ∨ (i = .int .i64 3 ∧ RtRel w wr b0 w1 #[.int .i64 5, .int .i64 ky, .int .i64 sl, .int .i64 gn, .bool gd, .int .i64 0, .int .i64 0, .int .i64 0])) (fun i _ => 3 - (intOf i).toNat)
  case atStart => exact Or.inl ⟨rfl, HR0.out⟩
  case round =>
    clear HR0
    rcases hrel with ⟨rfl, hrel⟩ | ⟨rfl, hrel⟩ | ⟨rfl, hrel⟩ | ⟨rfl, hrel⟩
    · have HR := Lib.hid hrel
      obtain ⟨h1, h2, h3, h4, h5, h6, h7⟩ := hrel
      have r0 := (h5 _).trans q00
      have r1 := (h5 _).trans q01
      have r2 := (h5 _).trans q02
      have t0 := blk_cell h2 5
      have t1 := blk_free h2 5
      simp at t0
      have l0 := lt_of_block h2
      clear h1 h2 h3 h4 h5
      go_wp2
      go_roundw
      case rel => exact Or.inr (Or.inl ⟨by go_num, RtRel_step HR.out⟩)
      case measure => simp [intOf]
    · have HR := Lib.hid hrel
      obtain ⟨h1, h2, h3, h4, h5, h6, h7⟩ := hrel
      have r0 := (h5 _).trans q10
      have r1 := (h5 _).trans q11
      have r2 := (h5 _).trans q12
      have t0 := blk_cell h2 6
      have t1 := blk_free h2 6
      simp at t0
      have l0 := lt_of_block h2
      clear h1 h2 h3 h4 h5
      go_wp2
      go_roundw
      case rel => exact Or.inr (Or.inr (Or.inl ⟨by go_num, RtRel_step HR.out⟩))
      case measure => simp [intOf]
    · have HR := Lib.hid hrel
      obtain ⟨h1, h2, h3, h4, h5, h6, h7⟩ := hrel
      have r0 := (h5 _).trans q20
      have r1 := (h5 _).trans q21
      have r2 := (h5 _).trans q22
      have t0 := blk_cell h2 7
      have t1 := blk_free h2 7
      simp at t0
      have l0 := lt_of_block h2
      clear h1 h2 h3 h4 h5
      go_wp2
      go_roundw
      case rel => exact Or.inr (Or.inr (Or.inr (⟨by go_num, RtRel_step HR.out⟩)))
      case measure => simp [intOf]
    · obtain ⟨h1, h2, h3, h4, h5, h6, h7⟩ := hrel
      have g0 := blk_free h2 0
      have d0 := blk_cell h2 0
      have d1 := blk_cell h2 1
      have d2 := blk_cell h2 2
      have d3 := blk_cell h2 3
      have d4 := blk_cell h2 4
      have d5 := blk_cell h2 5
      have d6 := blk_cell h2 6
      have d7 := blk_cell h2 7
      have y0 := blk_cell h3 0
      have z0 := blk_free h3 0
      have y1 := blk_cell h3 1
      have z1 := blk_free h3 1
      have y2 := blk_cell h3 2
      have z2 := blk_free h3 2
      have y3 := blk_cell h3 3
      have z3 := blk_free h3 3
      have y4 := blk_cell h3 4
      have z4 := blk_free h3 4
      have y5 := blk_cell h3 5
      have z5 := blk_free h3 5
      have y6 := blk_cell h3 6
      have z6 := blk_free h3 6
      have y7 := blk_cell h3 7
      have z7 := blk_free h3 7
      simp at d0 d1 d2 d3 d4 d5 d6 d7 y0 y1 y2 y3 y4 y5 y6 y7
      have m1 : w.heap.size < wr.heap.size := by omega
      have m2 : w.heap.size + 1 < wr.heap.size := by omega
      clear h2 h3 h4 h5
      go_wp2
      refine bodyPost_ret (v := .agg #[.int .i64 0, .int .i64 ky, .int .i64 sl, .int .i64 gn, .bool gd, .int .i64 0, .int .i64 0, .int .i64 0]) ?_ rfl ⟨rfl, (by repeat (first | (with_reducible exact Below.refl _ _) | (with_reducible assumption) | (with_reducible refine Below.drew ?_) | (with_reducible refine Below_drewN ?_) | (with_reducible refine Below.alloc ?_ (by first | omega | (simp; done) | (simp; omega)) _) | (with_reducible refine Below.setCell ?_ (by first | omega | (simp; done) | (simp; omega)) _) | (with_reducible refine Below.trans ?_ (Below.mono (by assumption) (by first | omega | (simp; done) | (simp; omega))))))⟩
      simp [results, Tryd.results21, go_sem, *]

set_option maxHeartbeats 4000000 in
set_option maxRecDepth 100000 in
theorem rest_6 (ky sl gn : Int) (gd : Bool) (rq bk wt : Int) (w : World) :
    Calls Tryd.prog 21 #[.agg #[.int .i64 6, .int .i64 ky, .int .i64 sl, .int .i64 gn, .bool gd, .int .i64 rq, .int .i64 bk, .int .i64 wt]] w fun e w' => e = .returned (restE ⟨6, ky, sl, gn, gd, rq, bk, wt⟩).agg ∧ Below w.heap.size w w' := by
  go_enter Tryd.func21, Tryd.ntmps21
  go_wp2_with fail
  refine (prog_fields ⟨6, ky, sl, gn, gd, rq, bk, wt⟩ w.heap.size (w.heap.size + 1 + 1) 0 true _ (by go_simp) rfl).mono ?_
  rintro e w1 ⟨v1, rfl, R1, hb1⟩
  have B1 := Lib.hid (((((Below.refl w.heap.size w).alloc (Nat.le_refl _) (.cells #[.int .i64 6, .int .i64 ky, .int .i64 sl, .int .i64 gn, .bool gd, .int .i64 rq, .int .i64 bk, .int .i64 wt] 37)).alloc (by simp) (.cells #[.int .i64 0, .int .i64 0, .int .i64 0, .int .i64 0, .bool false, .int .i64 0, .int .i64 0, .int .i64 0] 37)).alloc (by first | omega | (simp; done) | (simp; omega)) (.cells #[.int .i64 0] 3)).trans (hb1.mono (by first | omega | (simp; done) | (simp; omega))))
  have x0 := blk_below hb1 ((Below.heap_alloc (w := World.alloc _ _) _ _ (by first | omega | (simp; done) | (simp; omega))).trans ((Below.heap_alloc (w := w.alloc (.cells #[.int .i64 6, .int .i64 ky, .int .i64 sl, .int .i64 gn, .bool gd, .int .i64 rq, .int .i64 bk, .int .i64 wt] 37)) (.cells #[.int .i64 0, .int .i64 0, .int .i64 0, .int .i64 0, .bool false, .int .i64 0, .int .i64 0, .int .i64 0] 37) w.heap.size (by simp)).trans (heap_at _ rfl))) (by first | omega | (simp; done) | (simp; omega))
  have x1 := blk_below hb1 ((Below.heap_alloc (w := World.alloc _ _) (.cells #[.int .i64 0] 3) (w.heap.size + 1) (by simp)).trans (heap_at (w := w.alloc (.cells #[.int .i64 6, .int .i64 ky, .int .i64 sl, .int .i64 gn, .bool gd, .int .i64 rq, .int .i64 bk, .int .i64 wt] 37)) (.cells #[.int .i64 0, .int .i64 0, .int .i64 0, .int .i64 0, .bool false, .int .i64 0, .int .i64 0, .int .i64 0] 37) (by simp))) (by first | omega | (simp; done) | (simp; omega))
  have x2 := blk_below hb1 (heap_at (w := World.alloc _ _) (k := w.heap.size + 1 + 1) (.cells #[.int .i64 0] 3) (by simp)) (by first | omega | (simp; done) | (simp; omega))
  have s1 := hb1.size
  simp at s1
  obtain ⟨a, cap, hv, _, _, _, p⟩ := RowAt_fn ⟨⟨0, 0, none⟩, 0, 0, 0⟩ R1.1
  obtain ⟨b0, o0, rfl, hb0, q⟩ := p (by simp [evF])
  have hv : v1 = .slice (some ⟨b0, o0, none⟩) 2 cap := hv
  subst hv
  have hB0 := R1.2 _ _ _ rfl
  simp at hB0
  have q00 := q 0 0 (by simp [evF]) (by omega)
  have q01 := q 0 1 (by simp [evF]) (by omega)
  have q02 := q 0 2 (by simp [evF]) (by omega)
  have q10 := q 1 0 (by simp [evF]) (by omega)
  have q11 := q 1 1 (by simp [evF]) (by omega)
  have q12 := q 1 2 (by simp [evF]) (by omega)
  simp [evF, FD.cells] at q00 q01 q02 q10 q11 q12
  clear q p R1
  have HR0 : Hid (RtRel w w1 b0 w1 #[.int .i64 6, .int .i64 ky, .int .i64 sl, .int .i64 gn, .bool gd, .int .i64 rq, .int .i64 bk, .int .i64 wt]) := ⟨B1.out, x0, x1, x2, fun _ => rfl, by omega, hb0⟩
  have d0 := blk_cell x0 0
  simp at d0
  have m0 : w.heap.size < w1.heap.size := by omega
  clear hb1 x0 x1 x2
  go_wp2_with fail
  go_loopw [18] (fun i wr => (i = .int .i64 0 ∧ RtRel w wr b0 w1 #[.int .i64 6, .int .i64 ky, .int .i64 sl, .int .i64 gn, .bool gd, .int .i64 rq, .int .i64 bk, .int .i64 wt]) ∨ (i = .int .i64 1 ∧ RtRel w wr b0 w1 #[.int .i64 6, .int .i64 ky, .int .i64 sl, .int .i64 gn, .bool gd, .int .i64 0, .int .i64 bk, .int .i64 wt]) ∨ (i = .int .i64 2 ∧ RtRel w wr b0 w1 #[.int .i64 6, .int .i64 ky, .int .i64 sl, .int .i64 gn, .bool gd, .int .i64 0, .int .i64 0, .int .i64 wt])) (fun i _ => 2 - (intOf i).toNat)
  case atStart => exact Or.inl ⟨rfl, HR0.out⟩
  case round =>
    clear HR0
    rcases hrel with ⟨rfl, hrel⟩ | ⟨rfl, hrel⟩ | ⟨rfl, hrel⟩
    · have HR := Lib.hid hrel
      obtain ⟨h1, h2, h3, h4, h5, h6, h7⟩ := hrel
      have r0 := (h5 _).trans q00
      have r1 := (h5 _).trans q01
      have r2 := (h5 _).trans q02
      have t0 := blk_cell h2 5
      have t1 := blk_free h2 5
      simp at t0
      have l0 := lt_of_block h2
      clear h1 h2 h3 h4 h5
      go_wp2
      go_roundw
      case rel => exact Or.inr (Or.inl ⟨by go_num, RtRel_step HR.out⟩)
      case measure => simp [intOf]
    · have HR := Lib.hid hrel
      obtain ⟨h1, h2, h3, h4, h5, h6, h7⟩ := hrel
      have r0 := (h5 _).trans q10
      have r1 := (h5 _).trans q11
      have r2 := (h5 _).trans q12
      have t0 := blk_cell h2 6
      have t1 := blk_free h2 6
      simp at t0
      have l0 := lt_of_block h2
      clear h1 h2 h3 h4 h5
      go_wp2
      go_roundw
      case rel => exact Or.inr (Or.inr (⟨by go_num, RtRel_step HR.out⟩))
      case measure => simp [intOf]
    · obtain ⟨h1, h2, h3, h4, h5, h6, h7⟩ := hrel
      have g0 := blk_free h2 0
      have d0 := blk_cell h2 0
      have d1 := blk_cell h2 1
      have d2 := blk_cell h2 2
      have d3 := blk_cell h2 3
      have d4 := blk_cell h2 4
      have d5 := blk_cell h2 5
      have d6 := blk_cell h2 6
      have d7 := blk_cell h2 7
      have y0 := blk_cell h3 0
      have z0 := blk_free h3 0
      have y1 := blk_cell h3 1
      have z1 := blk_free h3 1
      have y2 := blk_cell h3 2
      have z2 := blk_free h3 2
      have y3 := blk_cell h3 3
      have z3 := blk_free h3 3
      have y4 := blk_cell h3 4
      have z4 := blk_free h3 4
      have y5 := blk_cell h3 5
      have z5 := blk_free h3 5
      have y6 := blk_cell h3 6
      have z6 := blk_free h3 6
      have y7 := blk_cell h3 7
      have z7 := blk_free h3 7
      simp at d0 d1 d2 d3 d4 d5 d6 d7 y0 y1 y2 y3 y4 y5 y6 y7
      have m1 : w.heap.size < wr.heap.size := by omega
      have m2 : w.heap.size + 1 < wr.heap.size := by omega
      clear h2 h3 h4 h5
      go_wp2
      refine bodyPost_ret (v := .agg #[.int .i64 0, .int .i64 ky, .int .i64 sl, .int .i64 gn, .bool gd, .int .i64 0, .int .i64 0, .int .i64 wt]) ?_ rfl ⟨rfl, (by repeat (first | (with_reducible exact Below.refl _ _) | (with_reducible assumption) | (with_reducible refine Below.drew ?_) | (with_reducible refine Below_drewN ?_) | (with_reducible refine Below.alloc ?_ (by first | omega | (simp; done) | (simp; omega)) _) | (with_reducible refine Below.setCell ?_ (by first | omega | (simp; done) | (simp; omega)) _) | (with_reducible refine Below.trans ?_ (Below.mono (by assumption) (by first | omega | (simp; done) | (simp; omega))))))⟩
      simp [results, Tryd.results21, go_sem, *]

set_option maxHeartbeats 4000000 in
set_option maxRecDepth 100000 in
theorem rest_7 (ky sl gn : Int) (gd : Bool) (rq bk wt : Int) (w : World) :
    Calls Tryd.prog 21 #[.agg #[.int .i64 7, .int .i64 ky, .int .i64 sl, .int .i64 gn, .bool gd, .int .i64 rq, .int .i64 bk, .int .i64 wt]] w fun e w' => e = .returned (restE ⟨7, ky, sl, gn, gd, rq, bk, wt⟩).agg ∧ Below w.heap.size w w' := by
  go_enter Tryd.func21, Tryd.ntmps21
  go_wp2_with fail
  refine (prog_fields ⟨7, ky, sl, gn, gd, rq, bk, wt⟩ w.heap.size (w.heap.size + 1 + 1) 0 true _ (by go_simp) rfl).mono ?_
  rintro e w1 ⟨v1, rfl, R1, hb1⟩
  have B1 := Lib.hid (((((Below.refl w.heap.size w).alloc (Nat.le_refl _) (.cells #[.int .i64 7, .int .i64 ky, .int .i64 sl, .int .i64 gn, .bool gd, .int .i64 rq, .int .i64 bk, .int .i64 wt] 37)).alloc (by simp) (.cells #[.int .i64 0, .int .i64 0, .int .i64 0, .int .i64 0, .bool false, .int .i64 0, .int .i64 0, .int .i64 0] 37)).alloc (by first | omega | (simp; done) | (simp; omega)) (.cells #[.int .i64 0] 3)).trans (hb1.mono (by first | omega | (simp; done) | (simp; omega))))
  have x0 := blk_below hb1 ((Below.heap_alloc (w := World.alloc _ _) _ _ (by first | omega | (simp; done) | (simp; omega))).trans ((Below.heap_alloc (w := w.alloc (.cells #[.int .i64 7, .int .i64 ky, .int .i64 sl, .int .i64 gn, .bool gd, .int .i64 rq, .int .i64 bk, .int .i64 wt] 37)) (.cells #[.int .i64 0, .int .i64 0, .int .i64 0, .int .i64 0, .bool false, .int .i64 0, .int .i64 0, .int .i64 0] 37) w.heap.size (by simp)).trans (heap_at _ rfl))) (by first | omega | (simp; done) | (simp; omega))
  have x1 := blk_below hb1 ((Below.heap_alloc (w := World.alloc _ _) (.cells #[.int .i64 0] 3) (w.heap.size + 1) (by simp)).trans (heap_at (w := w.alloc (.cells #[.int .i64 7, .int .i64 ky, .int .i64 sl, .int .i64 gn, .bool gd, .int .i64 rq, .int .i64 bk, .int .i64 wt] 37)) (.cells #[.int .i64 0, .int .i64 0, .int .i64 0, .int .i64 0, .bool false, .int .i64 0, .int .i64 0, .int .i64 0] 37) (by simp))) (by first | omega | (simp; done) | (simp; omega))
  have x2 := blk_below hb1 (heap_at (w := World.alloc _ _) (k := w.heap.size + 1 + 1) (.cells #[.int .i64 0] 3) (by simp)) (by first | omega | (simp; done) | (simp; omega))
  have s1 := hb1.size
  simp at s1
  obtain ⟨a, cap, hv, _⟩ := RowAt_shape R1.1
  have hv : v1 = .slice a 0 cap := hv
  subst hv
  clear R1
  have d0 := blk_cell x0 0
  have g0 := blk_free x0 0
  have d1 := blk_cell x0 1
  have d2 := blk_cell x0 2
  have d3 := blk_cell x0 3
  have d4 := blk_cell x0 4
  have d5 := blk_cell x0 5
  have d6 := blk_cell x0 6
  have d7 := blk_cell x0 7
  have y0 := blk_cell x1 0
  have z0 := blk_free x1 0
  have y1 := blk_cell x1 1
  have z1 := blk_free x1 1
  have y2 := blk_cell x1 2
  have z2 := blk_free x1 2
  have y3 := blk_cell x1 3
  have z3 := blk_free x1 3
  have y4 := blk_cell x1 4
  have z4 := blk_free x1 4
  have y5 := blk_cell x1 5
  have z5 := blk_free x1 5
  have y6 := blk_cell x1 6
  have z6 := blk_free x1 6
  have y7 := blk_cell x1 7
  have z7 := blk_free x1 7
  simp at d0 d1 d2 d3 d4 d5 d6 d7 y0 y1 y2 y3 y4 y5 y6 y7
  have B1' := B1.out
  have m0 : w.heap.size < w1.heap.size := by omega
  have m1 : w.heap.size + 1 < w1.heap.size := by omega
  clear hb1 x0 x1 x2
  go_wp2_with fail
  refine wp_loop_rounds 1 ?_
  rw [rounds_succ]
  go_wp2
  refine bodyPost_ret (v := .agg #[.int .i64 0, .int .i64 ky, .int .i64 sl, .int .i64 gn, .bool gd, .int .i64 rq, .int .i64 bk, .int .i64 wt]) ?_ rfl ⟨rfl, (by repeat (first | (with_reducible exact Below.refl _ _) | (with_reducible assumption) | (with_reducible refine Below.drew ?_) | (with_reducible refine Below_drewN ?_) | (with_reducible refine Below.alloc ?_ (by first | omega | (simp; done) | (simp; omega)) _) | (with_reducible refine Below.setCell ?_ (by first | omega | (simp; done) | (simp; omega)) _) | (with_reducible refine Below.trans ?_ (Below.mono (by assumption) (by first | omega | (simp; done) | (simp; omega))))))⟩
  simp [results, Tryd.results21, go_sem, *]

end Go.Proofs.YtnebijdifemicaaDoor
