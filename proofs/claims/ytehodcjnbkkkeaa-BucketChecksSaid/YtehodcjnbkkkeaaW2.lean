/- Walks of the small laws over plain numbers. -/
import Derived.Test.YtehodcjnbkkkeaaOpen
import Derived.WalkKit
import Derived.WalkSpells
import Derived.WalkLawsBesides
namespace Go.Proofs.Ytehodcjnbkkkeaa
open Go.RowKit

set_option maxHeartbeats 2000000 in
theorem walk_BucketChecks (v0 : Value) (W : World) (o0 : Is_Budget W v0) :
    Calls Try.prog 7 #[v0] W fun e w' => e = .returned (.bool true) ∧ Below W.heap.size W w' := by
  obtain ⟨a, b, c, rfl, ha, hb, hc⟩ := o0
  clear ha hb hc
  rcases (show ((a < 0)) ∨ ((0 ≤ a) ∧ (20 < a)) ∨ ((0 ≤ a) ∧ (a ≤ 20) ∧ (b < 1)) ∨ ((0 ≤ a) ∧ (a ≤ 20) ∧ (1 ≤ b) ∧ (20 < b)) ∨ ((0 ≤ a) ∧ (a ≤ 20) ∧ (1 ≤ b) ∧ (b ≤ 20) ∧ (c < 0)) ∨ ((0 ≤ a) ∧ (a ≤ 20) ∧ (1 ≤ b) ∧ (b ≤ 20) ∧ (0 ≤ c) ∧ (20 < c)) ∨ ((0 ≤ a) ∧ (a ≤ 20) ∧ (1 ≤ b) ∧ (b ≤ 20) ∧ (0 ≤ c) ∧ (c ≤ 20)) by omega) with hs0 | ⟨hs0, hs1⟩ | ⟨hs0, hs1, hs2⟩ | ⟨hs0, hs1, hs2, hs3⟩ | ⟨hs0, hs1, hs2, hs3, hs4⟩ | ⟨hs0, hs1, hs2, hs3, hs4, hs5⟩ | ⟨hs0, hs1, hs2, hs3, hs4, hs5⟩
  all_goals
    go_enter Try.func7, Try.ntmps7
    go_wp2
    all_goals first | (go_ret; exact ⟨rfl, (by repeat (first | exact Below.refl _ _ | refine Below.drew ?_ | refine Below.alloc ?_ (by simp; try omega) _))⟩) | (exfalso; simp only [Bool.not_eq_eq_eq_not, Bool.not_true, Bool.not_false, decide_eq_true_eq, decide_eq_false_iff_not] at *; omega)

end Go.Proofs.Ytehodcjnbkkkeaa
