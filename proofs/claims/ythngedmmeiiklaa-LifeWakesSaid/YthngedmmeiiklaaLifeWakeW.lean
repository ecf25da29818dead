/- The walk of LifeWakes. -/
import Derived.Test.YthngedmmeiiklaaLifeWakeP
import Derived.Test.YthngedmmeiiklaaLifeWakeR
import Derived.Test.YthngedmmeiiklaaSameBook
import Derived.Test.YthngedmmeiiklaaSameInts
namespace Go.Proofs.Ythngedmmeiiklaa
open Go.RowKit

set_option maxHeartbeats 4000000 in
set_option maxRecDepth 100000 in
theorem walk_LifeWakes (v0 v1 : Value) (W : World) (o0 : Is_Book W v0) (o1 : Is_int W v1) :
    Calls Try.prog 5 #[v0, v1] W fun e w' => e = .returned (.bool true) ∧ Below W.heap.size W w' := by
  obtain ⟨vl, vr, L, R, rfl, hl, hr, _, _, hn1, hn2⟩ := o0
  obtain ⟨now, rfl, _⟩ := o1
  obtain ⟨L', R', Y, code, hA⟩ := WkAns_total L R now
  have HA := Lib.hid hA
  have HL := Lib.hid hl
  have HR := Lib.hid hr
  obtain ⟨a, c, rfl, _⟩ := RowAt_shape hl
  obtain ⟨a', c', rfl, _⟩ := RowAt_shape hr
  clear hl hr hA
  go_enter Try.func5, Try.ntmps5
  go_wp2_with fail
  refine (law_books _ _ L R _ (RowAt_alloc HL.out _) (RowAt_alloc HR.out _) hn1 hn2).mono ?_
  rintro e w1 ⟨v1, v2, rfl, R1, R2, hb1⟩
  obtain ⟨a1, c1, rfl, _⟩ := RowAt_shape R1.1
  obtain ⟨a2, c2, rfl, _⟩ := RowAt_shape R2.1
  have hN1 := Lib.hid (blk_below hb1 (heap_at (w := W) _ rfl) (by simp))
  have B1 := Lib.hid ((((Below.refl W.heap.size W).alloc (Nat.le_refl _) _)).trans (hb1.mono (by simp)))
  have R1' := Lib.hid (RowAt_alloc R1.1 (.cells #[.slice a1 L.length c1, .slice a2 R.length c2] 25))
  have R2' := Lib.hid (RowAt_alloc R2.1 (.cells #[.slice a1 L.length c1, .slice a2 R.length c2] 25))
  have s1 := hb1.size
  simp at s1
  clear R1 R2 hb1
  go_wp2_with fail
  refine (prog_Wake _ _ L R now L' R' Y code _ R1'.out R2'.out HA.out).mono ?_
  rintro e w2 ⟨v3, v4, v7, rfl, R3, R4, R7, hb2⟩
  obtain ⟨a3, c3, rfl, _⟩ := RowAt_shape R3
  obtain ⟨a4, c4, rfl, _⟩ := RowAt_shape R4
  obtain ⟨a7, c7, rfl, _⟩ := RowAt_shape R7
  have hN2 := Lib.hid (blk_below hb2 ((Below.heap_alloc _ _ _ (by omega)).trans hN1.out) (by simp; omega))
  have hM2 := Lib.hid (blk_below hb2 (heap_at (w := w1) _ rfl) (by simp))
  have B2 := Lib.hid ((B1.out.alloc (by omega) (.cells #[.slice a1 L.length c1, .slice a2 R.length c2] 25)).trans (hb2.mono (by simp; omega)))
  have s2 := hb2.size
  simp at s2
  have L2 := Lib.hid (RowAt_alloc (RowAt_below HL.out B2.out) (.cells #[.slice a3 L'.length c3, .slice a4 R'.length c4] 25))
  have Q2 := Lib.hid (RowAt_alloc (RowAt_below HR.out B2.out) (.cells #[.slice a3 L'.length c3, .slice a4 R'.length c4] 25))
  have R1b := Lib.hid (RowAt_below R1'.out hb2)
  have R2b := Lib.hid (RowAt_below R2'.out hb2)
  have R3' := Lib.hid R3
  have R4' := Lib.hid R4
  have R7' := Lib.hid R7
  have d0 := blk_cell hN2.out 0
  have d1 := blk_cell hN2.out 1
  simp at d0 d1
  have k1 : W.heap.size < w2.heap.size := by omega
  have k2 : w1.heap.size < w2.heap.size := by omega
  clear hb2 B1 R1' R2' hN1 R3 R4 R7
  go_wp2_with fail
  refine (ref_Wake _ _ L R now L' R' Y code _ L2.out Q2.out HA.out).mono ?_
  rintro e w3 ⟨v5, v6, v8, rfl, R5, R6, R8, hb3⟩
  obtain ⟨a5, c5, rfl, _⟩ := RowAt_shape R5
  obtain ⟨a6, c6, rfl, _⟩ := RowAt_shape R6
  obtain ⟨a8, c8, rfl, _⟩ := RowAt_shape R8
  have hN3 := blk_below hb3 ((Below.heap_alloc _ _ _ (by omega)).trans hN2.out) (by simp; omega)
  have hM3 := blk_below hb3 ((Below.heap_alloc _ _ _ (by omega)).trans hM2.out) (by simp; omega)
  have hP3 := blk_below hb3 (heap_at (w := w2) _ rfl) (by simp)
  have B3 := Lib.hid ((B2.out.alloc (by omega) (.cells #[.slice a3 L'.length c3, .slice a4 R'.length c4] 25)).trans (hb3.mono (by simp; omega)))
  have s3 := hb3.size
  simp at s3
  have k3 : W.heap.size < w3.heap.size := by omega
  have k4 : w1.heap.size < w3.heap.size := by omega
  have k5 : w2.heap.size < w3.heap.size := by omega
  have e0 := cell_alloc (.cells #[.slice a5 L'.length c5, .slice a6 R'.length c6] 25) ((blk_cell hN3 0).trans rfl)
  have e1 := cell_alloc (.cells #[.slice a5 L'.length c5, .slice a6 R'.length c6] 25) ((blk_cell hN3 1).trans rfl)
  have f0 := cell_alloc (.cells #[.slice a5 L'.length c5, .slice a6 R'.length c6] 25) ((blk_cell hM3 0).trans rfl)
  have f1 := cell_alloc (.cells #[.slice a5 L'.length c5, .slice a6 R'.length c6] 25) ((blk_cell hM3 1).trans rfl)
  have g0 := cell_alloc (.cells #[.slice a5 L'.length c5, .slice a6 R'.length c6] 25) ((blk_cell hP3 0).trans rfl)
  have g1 := cell_alloc (.cells #[.slice a5 L'.length c5, .slice a6 R'.length c6] 25) ((blk_cell hP3 1).trans rfl)
  have X1 := Lib.hid (RowAt_alloc (RowAt_below (RowAt_alloc R3'.out _) hb3) (.cells #[.slice a5 L'.length c5, .slice a6 R'.length c6] 25))
  have X2 := Lib.hid (RowAt_alloc (RowAt_below (RowAt_alloc R4'.out _) hb3) (.cells #[.slice a5 L'.length c5, .slice a6 R'.length c6] 25))
  have X7 := Lib.hid (RowAt_alloc (RowAt_below (RowAt_alloc R7'.out _) hb3) (.cells #[.slice a5 L'.length c5, .slice a6 R'.length c6] 25))
  have X3 := Lib.hid (RowAt_alloc R5 (.cells #[.slice a5 L'.length c5, .slice a6 R'.length c6] 25))
  have X4 := Lib.hid (RowAt_alloc R6 (.cells #[.slice a5 L'.length c5, .slice a6 R'.length c6] 25))
  have X8 := Lib.hid (RowAt_alloc R8 (.cells #[.slice a5 L'.length c5, .slice a6 R'.length c6] 25))
  have B4 := Lib.hid (B3.out.alloc (by omega) (.cells #[.slice a5 L'.length c5, .slice a6 R'.length c6] 25))
  have Y1 := Lib.hid (RowAt_alloc (RowAt_below (RowAt_alloc R1b.out _) hb3) (.cells #[.slice a5 L'.length c5, .slice a6 R'.length c6] 25))
  have Y2 := Lib.hid (RowAt_alloc (RowAt_below (RowAt_alloc R2b.out _) hb3) (.cells #[.slice a5 L'.length c5, .slice a6 R'.length c6] 25))
  clear hb3 hN3 hM3 hP3 hN2 hM2 R5 R6 R8 d0 d1
  go_wp2_with fail
  refine (sameInts_yes _ _ Y _ X7.out X8.out).mono ?_
  rintro e w6 ⟨rfl, hb6⟩
  have s6 := hb6.size
  simp at s6
  have B5 := Lib.hid (B4.out.trans (hb6.mono (by simp; omega)))
  have U1 := Lib.hid (RowAt_below X1.out hb6)
  have U2 := Lib.hid (RowAt_below X2.out hb6)
  have U3 := Lib.hid (RowAt_below X3.out hb6)
  have U4 := Lib.hid (RowAt_below X4.out hb6)
  have V1 := Lib.hid (RowAt_below Y1.out hb6)
  have V2 := Lib.hid (RowAt_below Y2.out hb6)
  have e2 := cell_below' hb6 e0
  have e3 := cell_below' hb6 e1
  have f2 := cell_below' hb6 f0
  have f3 := cell_below' hb6 f1
  have g2 := cell_below' hb6 g0
  have g3 := cell_below' hb6 g1
  have g4 : w6.cell? ⟨w3.heap.size, 0, none⟩ = some (.slice a5 L'.length c5) := cell_below' hb6 (by simp)
  have g5 : w6.cell? ⟨w3.heap.size, 1, none⟩ = some (.slice a6 R'.length c6) := cell_below' hb6 (by simp)
  clear hb6 e0 e1 f0 f1 g0 g1
  go_wp2_with fail
  refine (sameBook_yes _ _ _ _ L' R' _ U1.out U2.out U3.out U4.out).mono ?_
  rintro e w4 ⟨rfl, hb4⟩
  have s4 := hb4.size
  have B6 := Lib.hid (B5.out.trans (hb4.mono (by omega)))
  have e4 := cell_below' hb4 e2
  have e5 := cell_below' hb4 e3
  have f4 := cell_below' hb4 f2
  have f5 := cell_below' hb4 f3
  have Z1 := Lib.hid (RowAt_below V1.out hb4)
  have Z2 := Lib.hid (RowAt_below V2.out hb4)
  have Z3 := Lib.hid (RowAt_below HL.out B6.out)
  have Z4 := Lib.hid (RowAt_below HR.out B6.out)
  clear hb4 e2 e3 f2 f3 g2 g3 g4 g5
  go_wp2_with fail
  refine (sameBook_yes _ _ _ _ L R _ Z1.out Z2.out Z3.out Z4.out).mono ?_
  rintro e w5 ⟨rfl, hb5⟩
  have B7 := Lib.hid (B6.out.trans (hb5.mono (by omega)))
  clear hb5
  go_wp2
  all_goals first | (go_ret; exact ⟨rfl, B7.out⟩) | (exfalso; first | omega | (simp at *; omega) | (simp at *; done))
end Go.Proofs.Ythngedmmeiiklaa
