/- Walks of the small laws over plain numbers. -/
import Derived.Test.YtehodcjnbkkkeaaOpen
import Derived.WalkKit
import Derived.WalkSpells
import Derived.WalkLawsBesides
namespace Go.Proofs.Ytehodcjnbkkkeaa
open Go.RowKit

set_option maxHeartbeats 1000000 in
theorem walk_RampFulls (v0 v1 : Value) (W : World) (o0 : Is_int W v0) (o1 : Is_int W v1) :
    Calls Try.prog 6 #[v0, v1] W fun e w' => e = .returned (.bool true) ∧ Below W.heap.size W w' := by
  obtain ⟨a, rfl, ha⟩ := o0
  obtain ⟨b, rfl, hb⟩ := o1
  clear ha hb
  rcases (show ((b < 0)) ∨ ((0 ≤ b) ∧ (500 < b)) ∨ ((0 ≤ b) ∧ (b ≤ 500) ∧ (a < 0)) ∨ ((0 ≤ b) ∧ (b ≤ 500) ∧ (0 ≤ a) ∧ (1099511627776 < a)) ∨ ((0 ≤ b) ∧ (b ≤ 500) ∧ (0 ≤ a) ∧ (a ≤ 1099511627776)) by omega) with hs0 | ⟨hs0, hs1⟩ | ⟨hs0, hs1, hs2⟩ | ⟨hs0, hs1, hs2, hs3⟩ | ⟨hs0, hs1, hs2, hs3⟩
  all_goals
    go_enter Try.func6, Try.ntmps6
    go_wp2
    all_goals first | (go_ret; exact ⟨rfl, (by repeat (first | exact Below.refl _ _ | refine Below.drew ?_ | refine Below.alloc ?_ (by simp; try omega) _))⟩) | (exfalso; first | omega | (simp at *; omega) | (simp at *; done))

set_option maxHeartbeats 1000000 in
theorem walk_HealthAlloweds (v0 v1 v2 : Value) (W : World) (o0 : Is_int W v0) (o1 : Is_int W v1) (o2 : Is_int W v2) :
    Calls Try.prog 9 #[v0, v1, v2] W fun e w' => e = .returned (.bool true) ∧ Below W.heap.size W w' := by
  obtain ⟨a, rfl, ha⟩ := o0
  obtain ⟨b, rfl, hb⟩ := o1
  obtain ⟨c, rfl, hc⟩ := o2
  clear ha hb hc
  rcases (show ((b < 0)) ∨ ((0 ≤ b) ∧ (12 < b)) ∨ ((0 ≤ b) ∧ (b ≤ 12) ∧ (a < 0)) ∨ ((0 ≤ b) ∧ (b ≤ 12) ∧ (0 ≤ a) ∧ (b < a)) ∨ ((0 ≤ b) ∧ (b ≤ 12) ∧ (0 ≤ a) ∧ (a ≤ b) ∧ (c < 0)) ∨ ((0 ≤ b) ∧ (b ≤ 12) ∧ (0 ≤ a) ∧ (a ≤ b) ∧ (0 ≤ c) ∧ (100 < c)) ∨ ((0 ≤ b) ∧ (b ≤ 12) ∧ (0 ≤ a) ∧ (a ≤ b) ∧ (0 ≤ c) ∧ (c ≤ 100)) by omega) with hs0 | ⟨hs0, hs1⟩ | ⟨hs0, hs1, hs2⟩ | ⟨hs0, hs1, hs2, hs3⟩ | ⟨hs0, hs1, hs2, hs3, hs4⟩ | ⟨hs0, hs1, hs2, hs3, hs4, hs5⟩ | ⟨hs0, hs1, hs2, hs3, hs4, hs5⟩
  all_goals
    go_enter Try.func9, Try.ntmps9
    go_wp2
    all_goals first | (go_ret; exact ⟨rfl, (by repeat (first | exact Below.refl _ _ | refine Below.drew ?_ | refine Below.alloc ?_ (by simp; try omega) _))⟩) | (exfalso; first | omega | (simp at *; omega) | (simp at *; done))

end Go.Proofs.Ytehodcjnbkkkeaa
