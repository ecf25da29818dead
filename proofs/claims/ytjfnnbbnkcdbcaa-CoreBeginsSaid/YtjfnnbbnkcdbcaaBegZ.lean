/- usherlaw.sameWorld on two zero worlds. -/
import Derived.Test.YtjfnnbbnkcdbcaaBegS
import Derived.Test.YtjfnnbbnkcdbcaaSameTable
import Derived.Test.YtjfnnbbnkcdbcaaOwn
import Derived.Test.YtjfnnbbnkcdbcaaSameBools
import Derived.Deep.RegionWith
import Derived.Deep.RegionHeld3
namespace Go.Proofs.Ytjfnnbbnkcdbcaa
open Go.RowKit

set_option maxHeartbeats 8000000 in
set_option maxRecDepth 100000 in
theorem sameWorld_z (w : World) : Calls Try.prog 21 #[.agg zWorld, .agg zWorld] w fun e w' => e = .returned (.bool true) ∧ Below w.heap.size w w' := by
  have HB : Hid (Below w.heap.size w ((w.alloc (.cells zWorld 61)).alloc (.cells zWorld 61))) := ((Below.refl _ _).alloc (Nat.le_refl _) _).alloc (by simp) _
  have X1 : Hid (((w.alloc (.cells zWorld 61)).alloc (.cells zWorld 61)).heap[w.heap.size]? = some (.cells zWorld 61 (0, 0))) := (Below.heap_alloc (w := World.alloc w _) _ _ (by simp)).trans (heap_at (w := w) _ rfl)
  have X2 : Hid (((w.alloc (.cells zWorld 61)).alloc (.cells zWorld 61)).heap[w.heap.size + 1]? = some (.cells zWorld 61 (0, 0))) := heap_at (w := World.alloc w _) (k := w.heap.size + 1) _ (by simp)
  have hzz : ((w.alloc (.cells zWorld 61)).alloc (.cells zWorld 61)).heap.size = w.heap.size + 1 + 1 := by simp
  unfold zWorld wArr
  go_enter Try.func21, Try.ntmps21
  go_wp2
  refine wp_loop_rounds 1 ?_
  rw [rounds_succ]
  go_wp2
  refine wp_loop_rounds 1 ?_
  rw [rounds_succ]
  go_wp2_with fail
  refine (sameTable_nil _ _ _ _ _).mono ?_
  rintro e w1 ⟨rfl, hb1⟩
  have HB1 := Lib.hid (HB.out.trans (hb1.mono HB.out.size))
  have x1 := blk_below hb1 X1.out (lt_of_block X1.out)
  have x2 := blk_below hb1 X2.out (lt_of_block X2.out)
  have Y1 := Lib.hid x1
  have Y2 := Lib.hid x2
  have zz1 := lt_of_block x1
  have zz2 := lt_of_block x2
  have d19 := blk_cell x1 19
  have d20 := blk_cell x1 20
  have d21 := blk_cell x1 21
  have d24 := blk_cell x1 24
  have d25 := blk_cell x1 25
  simp only [zWorld, wArr, List.getElem?_toArray, List.getElem?_cons_succ, List.getElem?_cons_zero] at d19 d20 d21 d24 d25
  have e19 := blk_cell x2 19
  have e20 := blk_cell x2 20
  have e21 := blk_cell x2 21
  have e24 := blk_cell x2 24
  have e25 := blk_cell x2 25
  simp only [zWorld, wArr, List.getElem?_toArray, List.getElem?_cons_succ, List.getElem?_cons_zero] at e19 e20 e21 e24 e25
  clear hb1 x1 x2 hzz
  go_wp2_with fail
  refine (sameBook_z _).mono ?_
  rintro e w2 ⟨rfl, hb2⟩
  have HB2 := Lib.hid (HB1.out.trans (hb2.mono HB1.out.size))
  have x1 := blk_below hb2 Y1.out zz1
  have x2 := blk_below hb2 Y2.out zz2
  have U1 := Lib.hid x1
  have U2 := Lib.hid x2
  have zu1 := lt_of_block x1
  have zu2 := lt_of_block x2
  clear d19 e19 d20 e20 d21 e21 d24 e24 d25 e25
  have d21 := blk_cell x1 21
  have d24 := blk_cell x1 24
  have d25 := blk_cell x1 25
  simp only [zWorld, wArr, List.getElem?_toArray, List.getElem?_cons_succ, List.getElem?_cons_zero] at d21 d24 d25
  have e21 := blk_cell x2 21
  have e24 := blk_cell x2 24
  have e25 := blk_cell x2 25
  simp only [zWorld, wArr, List.getElem?_toArray, List.getElem?_cons_succ, List.getElem?_cons_zero] at e21 e24 e25
  clear hb2 x1 x2
  go_wp2_with fail
  refine (SameRing_z _).mono ?_
  rintro e w3 ⟨rfl, hb3⟩
  have HB3 := Lib.hid (HB2.out.trans (hb3.mono HB2.out.size))
  have x1 := blk_below hb3 U1.out zu1
  have x2 := blk_below hb3 U2.out zu2
  have zv1 := lt_of_block x1
  have zv2 := lt_of_block x2
  clear d21 e21 d24 e24 d25 e25
  have d24 := blk_cell x1 24
  have d25 := blk_cell x1 25
  simp only [zWorld, wArr, List.getElem?_toArray, List.getElem?_cons_succ, List.getElem?_cons_zero] at d24 d25
  have e24 := blk_cell x2 24
  have e25 := blk_cell x2 25
  simp only [zWorld, wArr, List.getElem?_toArray, List.getElem?_cons_succ, List.getElem?_cons_zero] at e24 e25
  clear hb3 x1 x2
  go_wp2_with fail
  refine (SameWheel_zero _).mono ?_
  rintro e w4 ⟨rfl, hb4⟩
  have HB4 := HB3.out.trans (hb4.mono HB3.out.size)
  clear hb4 d24 e24 d25 e25
  go_wp2
  all_goals first | (go_ret; exact ⟨rfl, HB4⟩) | (exfalso; first | omega | (simp at *; omega) | (simp at *; done))
end Go.Proofs.Ytjfnnbbnkcdbcaa
