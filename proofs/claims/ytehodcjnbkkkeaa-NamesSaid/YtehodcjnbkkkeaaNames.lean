/- The walk of Names. -/
import Derived.Test.YtehodcjnbkkkeaaSameInts
import Derived.Test.YtehodcjnbkkkeaaOpen
namespace Go.Proofs.Ytehodcjnbkkkeaa
open Go.RowKit

theorem RowAt_block {w : World} {b sz : Nat} {cs : Array Value} {T : TypeId} {fr : Nat × Nat} {L : List (List Value)} (h : w.heap[b]? = some (.cells cs T fr)) (hc : cs.toList = L.flatten) (hl : ∀ c ∈ L, c.length = sz) (hm : L.length ≤ maxLen) : RowAt w sz (.slice (some ⟨b, 0, none⟩) L.length L.length) L := by
  refine ⟨_, _, rfl, Nat.le_refl _, hm, by simp, fun _ => ⟨b, 0, rfl, lt_of_block h, fun i j hi hj => ?_⟩⟩
  rw [← flatten_get hl i j hi hj, ← hc]
  simp [World.cell?, h]

theorem RowAt_lit {w : World} {b : Nat} {T : TypeId} (X : List Int) (h : w.heap[b]? = some (.cells (X.map (Value.int .i64)).toArray T (0, 0))) (hm : X.length ≤ maxLen) : RowAt w 1 (.slice (some ⟨b, 0, none⟩) X.length X.length) (X.map fun x => [Value.int .i64 (x)]) := by
  have := RowAt_block (L := X.map fun x => [Value.int .i64 (x)]) (sz := 1) h (by
    simp only
    clear h hm
    induction X with
    | nil => rfl
    | cons x X ih => simpa using ih) (by simp) (by simpa using hm)
  simpa using this

set_option maxHeartbeats 4000000 in
set_option maxRecDepth 100000 in
theorem walk_Names (W : World) : Calls Try.prog 3 #[] W fun e w' => e = .returned (.bool true) ∧ Below W.heap.size W w' := by
  go_enter Try.func3, Try.ntmps3
  go_wp2
  refine wp_loop_rounds 14 ?_
  rw [rounds_succ]
  go_wp2
  rw [rounds_succ]
  go_wp2
  rw [rounds_succ]
  go_wp2
  rw [rounds_succ]
  go_wp2
  rw [rounds_succ]
  go_wp2
  rw [rounds_succ]
  go_wp2
  rw [rounds_succ]
  go_wp2
  rw [rounds_succ]
  go_wp2
  rw [rounds_succ]
  go_wp2
  rw [rounds_succ]
  go_wp2
  rw [rounds_succ]
  go_wp2
  rw [rounds_succ]
  go_wp2
  rw [rounds_succ]
  go_wp2
  rw [rounds_succ]
  go_wp2_with fail
  refine (sameInts_yes _ _ [1, 2, 3, 4, 1, 2, 1, 2, 3, 4, 5, 6, 7, 1, 2, 3, 4, 5, 6, 7, 8, 9, 10, 1, 2, 3, 4, 5] _ (RowAt_lit [1, 2, 3, 4, 1, 2, 1, 2, 3, 4, 5, 6, 7, 1, 2, 3, 4, 5, 6, 7, 8, 9, 10, 1, 2, 3, 4, 5] (by rw [Below.heap_alloc _ _ _ (by simp)]; exact heap_at _ (by simp)) (by unfold maxLen; decide)) (RowAt_lit [1, 2, 3, 4, 1, 2, 1, 2, 3, 4, 5, 6, 7, 1, 2, 3, 4, 5, 6, 7, 8, 9, 10, 1, 2, 3, 4, 5] (heap_at _ (by simp)) (by unfold maxLen; decide))).mono ?_
  rintro e w1 ⟨rfl, hb1⟩
  have hy1 := hb1.size
  simp at hy1
  go_wp2_with fail
  refine (sameInts_yes _ _ [4294967295, 12, 8, 4, 40, 1048576, 1099511627776, 200, 64, 500, 20, 16, 1048576, 100, 4000, 200000] _ (RowAt_lit [4294967295, 12, 8, 4, 40, 1048576, 1099511627776, 200, 64, 500, 20, 16, 1048576, 100, 4000, 200000] (by rw [Below.heap_alloc _ _ _ (by simp)]; exact heap_at _ (by simp)) (by unfold maxLen; decide)) (RowAt_lit [4294967295, 12, 8, 4, 40, 1048576, 1099511627776, 200, 64, 500, 20, 16, 1048576, 100, 4000, 200000] (heap_at _ (by simp)) (by unfold maxLen; decide))).mono ?_
  rintro e w2 ⟨rfl, hb2⟩
  have hy2 := hb2.size
  simp at hy2
  go_wp2
  all_goals first | (go_ret; exact ⟨rfl, (by repeat (first | exact Below.refl _ _ | (refine Below.drew ?_) | (refine Below_drewN ?_) | (refine Below.alloc ?_ (by first | omega | (simp; done) | (simp; omega)) _) | (refine Below.setCell ?_ (by first | omega | (simp; done) | (simp; omega)) _) | (refine Below.trans ?_ (Below.mono (by assumption) (by first | omega | (simp; done) | (simp; omega))))))⟩) | (exfalso; first | omega | (simp at *; omega) | (simp at *; done))
end Go.Proofs.Ytehodcjnbkkkeaa
