/- The walk of LifeOfs. -/
import Derived.Test.YthngedmmeiiklaaLifeOf
import Derived.Test.YthngedmmeiiklaaLifeChkW
namespace Go.Proofs.Ythngedmmeiiklaa
open Go.RowKit

set_option maxHeartbeats 4000000 in
set_option maxRecDepth 100000 in
theorem walk_LifeOfs (v0 v1 : Value) (W : World) (o0 : Is_Book W v0) (o1 : Is_int W v1) :
    Calls Try.prog 7 #[v0, v1] W fun e w' => e = .returned (.bool true) ∧ Below W.heap.size W w' := by
  obtain ⟨vl, vr, L, R, rfl, hl, hr, _, _, hn1, hn2⟩ := o0
  obtain ⟨b, rfl, _⟩ := o1
  obtain ⟨x, code, hA⟩ := LoAns_total L R b
  have HA := Lib.hid hA
  have HL := Lib.hid hl
  have HR := Lib.hid hr
  obtain ⟨a, c, rfl, _⟩ := RowAt_shape hl
  obtain ⟨a', c', rfl, _⟩ := RowAt_shape hr
  clear hl hr hA
  obtain ⟨bk, st, wt, si, un, rq⟩ := x
  go_enter Try.func7, Try.ntmps7
  go_wp2_with fail
  refine (law_books _ _ L R _ (RowAt_alloc HL.out _) (RowAt_alloc HR.out _) hn1 hn2).mono ?_
  rintro e w1 ⟨v1, v2, rfl, R1, R2, hb1⟩
  obtain ⟨a1, c1, rfl, _⟩ := RowAt_shape R1.1
  obtain ⟨a2, c2, rfl, _⟩ := RowAt_shape R2.1
  have hN1 := Lib.hid (blk_below hb1 (heap_at (w := W) _ rfl) (by simp))
  have B1 := Lib.hid ((((Below.refl W.heap.size W).alloc (Nat.le_refl _) _)).trans (hb1.mono (by simp)))
  have R1' := Lib.hid R1.1
  have R2' := Lib.hid R2.1
  have s1 := hb1.size
  simp at s1
  clear R1 R2 hb1
  go_wp2_with fail
  refine (prog_LOf _ _ L R b ⟨bk, st, wt, si, un, rq⟩ code _ R1'.out R2'.out HA.out).mono ?_
  rintro e w2 ⟨rfl, hb2⟩
  unfold Lf.agg
  have hN2 := blk_below hb2 hN1.out (by omega)
  have B2 := Lib.hid (B1.out.trans (hb2.mono (by omega)))
  have s2 := hb2.size
  have L2 := Lib.hid (RowAt_below HL.out B2.out)
  have Q2 := Lib.hid (RowAt_below HR.out B2.out)
  have d0 := blk_cell hN2 0
  have d1 := blk_cell hN2 1
  simp at d0 d1
  have k1 : W.heap.size < w2.heap.size := by omega
  clear hb2 B1 R1' R2' hN1 hN2
  go_wp2_with fail
  refine (ref_LOf _ _ L R b ⟨bk, st, wt, si, un, rq⟩ code _ (RowAt_alloc L2.out _) (RowAt_alloc Q2.out _) HA.out).mono ?_
  rintro e w3 ⟨rfl, hb3⟩
  unfold Lf.agg
  have hN3 := blk_below hb3 (heap_at (w := w2) (.cells #[.int .i64 bk, .int .i64 st, .int .i64 wt, .int .i64 si, .int .i64 un, .int .i64 rq] 44) rfl) (by simp)
  have B3 := Lib.hid ((B2.out.alloc (by omega) _).trans (hb3.mono (by simp; omega)))
  have s3 := hb3.size
  simp at s3
  have k3 : w2.heap.size < w3.heap.size := by omega
  have f0 := blk_cell hN3 0
  have f1 := blk_cell hN3 1
  have f2 := blk_cell hN3 2
  have f3 := blk_cell hN3 3
  have f4 := blk_cell hN3 4
  have f5 := blk_cell hN3 5
  simp at f0 f1 f2 f3 f4 f5
  clear hb3 hN3
  go_wp2
  all_goals first | (go_ret; exact ⟨rfl, B3.out.alloc (by omega) _⟩) | (exfalso; first | omega | (simp at *; omega) | (simp at *; done))
end Go.Proofs.Ythngedmmeiiklaa
