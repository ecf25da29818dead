/- health.Check and usherref.WatchFault: contracts, and the law HealthChecks. -/
import Derived.Test.YtjfnnbbnkcdbcaaOpen
namespace Go.Proofs.Ytjfnnbbnkcdbcaa
open Go.RowKit

/-- May a watch be? -/
def WatMay (a b c : Int) : Prop := 1 ≤ a ∧ a ≤ 16 ∧ 1 ≤ b ∧ b ≤ a ∧ 1 ≤ c ∧ c ≤ 500
theorem not_WatMay {a b c : Int} (h : ¬ WatMay a b c) : a < 1 ∨ (1 ≤ a ∧ 16 < a) ∨ (1 ≤ a ∧ a ≤ 16 ∧ b < 1) ∨ (1 ≤ a ∧ a ≤ 16 ∧ 1 ≤ b ∧ a < b) ∨ (1 ≤ a ∧ a ≤ 16 ∧ 1 ≤ b ∧ b ≤ a ∧ c < 1) ∨ (1 ≤ a ∧ a ≤ 16 ∧ 1 ≤ b ∧ b ≤ a ∧ 1 ≤ c ∧ 500 < c) := by
  unfold WatMay at h; omega

set_option maxHeartbeats 4000000 in
theorem prog_HCheck_ok (a b c : Int) (w : World) (h : WatMay a b c) : Calls Try.prog 39 #[.agg #[.int .i64 a, .int .i64 b, .int .i64 c]] w fun e w' => e = .returned (.int .i64 0) ∧ Below w.heap.size w w' := by
  obtain ⟨h1, h2, h3, h4, h5, h6⟩ := h
  go_enter Try.func39, Try.ntmps39
  go_wp2
  all_goals first | (go_ret; exact ⟨rfl, (by repeat (first | (with_reducible exact Below.refl _ _) | (with_reducible assumption) | (with_reducible refine Below.drew ?_) | (with_reducible refine Below_drewN ?_) | (with_reducible refine Below.alloc ?_ (by first | omega | (simp; done) | (simp; omega)) _) | (with_reducible refine Below.setCell ?_ (by first | omega | (simp; done) | (simp; omega)) _) | (with_reducible refine Below.trans ?_ (Below.mono (by assumption) (by first | omega | (simp; done) | (simp; omega))))))⟩) | (exfalso; first | omega | (simp at *; omega) | (simp at *; done))

set_option maxHeartbeats 4000000 in
theorem prog_HCheck_bad (a b c : Int) (w : World) (h : ¬ WatMay a b c) : Calls Try.prog 39 #[.agg #[.int .i64 a, .int .i64 b, .int .i64 c]] w fun e w' => e = .returned (.int .i64 2) ∧ Below w.heap.size w w' := by
  rcases not_WatMay h with h1 | ⟨h1, h2⟩ | ⟨h1, h2, h3⟩ | ⟨h1, h2, h3, h4⟩ | ⟨h1, h2, h3, h4, h5⟩ | ⟨h1, h2, h3, h4, h5, h6⟩
  all_goals
    clear h
    go_enter Try.func39, Try.ntmps39
    go_wp2
    all_goals first | (go_ret; exact ⟨rfl, (by repeat (first | (with_reducible exact Below.refl _ _) | (with_reducible assumption) | (with_reducible refine Below.drew ?_) | (with_reducible refine Below_drewN ?_) | (with_reducible refine Below.alloc ?_ (by first | omega | (simp; done) | (simp; omega)) _) | (with_reducible refine Below.setCell ?_ (by first | omega | (simp; done) | (simp; omega)) _) | (with_reducible refine Below.trans ?_ (Below.mono (by assumption) (by first | omega | (simp; done) | (simp; omega))))))⟩) | (exfalso; first | omega | (simp at *; omega) | (simp at *; done))

set_option maxHeartbeats 4000000 in
theorem ref_WatchFault_ok (a b c : Int) (w : World) (h : WatMay a b c) : Calls Try.prog 42 #[.agg #[.int .i64 a, .int .i64 b, .int .i64 c]] w fun e w' => e = .returned (.int .i64 0) ∧ Below w.heap.size w w' := by
  obtain ⟨h1, h2, h3, h4, h5, h6⟩ := h
  go_enter Try.func42, Try.ntmps42
  go_wp2_with (go_at_call 31; first | (refine (In_yes _ _ _ _ (by omega) (by omega)).mono ?_; rintro e w' ⟨rfl, rfl⟩) | (refine (In_no _ _ _ _ (by omega)).mono ?_; rintro e w' ⟨rfl, rfl⟩))
  all_goals first | (go_ret; exact ⟨rfl, (by repeat (first | (with_reducible exact Below.refl _ _) | (with_reducible assumption) | (with_reducible refine Below.drew ?_) | (with_reducible refine Below_drewN ?_) | (with_reducible refine Below.alloc ?_ (by first | omega | (simp; done) | (simp; omega)) _) | (with_reducible refine Below.setCell ?_ (by first | omega | (simp; done) | (simp; omega)) _) | (with_reducible refine Below.trans ?_ (Below.mono (by assumption) (by first | omega | (simp; done) | (simp; omega))))))⟩) | (exfalso; first | omega | (simp at *; omega) | (simp at *; done))

set_option maxHeartbeats 4000000 in
theorem ref_WatchFault_bad (a b c : Int) (w : World) (h : ¬ WatMay a b c) : Calls Try.prog 42 #[.agg #[.int .i64 a, .int .i64 b, .int .i64 c]] w fun e w' => e = .returned (.int .i64 2) ∧ Below w.heap.size w w' := by
  rcases not_WatMay h with h1 | ⟨h1, h2⟩ | ⟨h1, h2, h3⟩ | ⟨h1, h2, h3, h4⟩ | ⟨h1, h2, h3, h4, h5⟩ | ⟨h1, h2, h3, h4, h5, h6⟩
  all_goals
    clear h
    go_enter Try.func42, Try.ntmps42
    go_wp2_with (go_at_call 31; first | (refine (In_yes _ _ _ _ (by omega) (by omega)).mono ?_; rintro e w' ⟨rfl, rfl⟩) | (refine (In_no _ _ _ _ (by omega)).mono ?_; rintro e w' ⟨rfl, rfl⟩))
    all_goals first | (go_ret; exact ⟨rfl, (by repeat (first | (with_reducible exact Below.refl _ _) | (with_reducible assumption) | (with_reducible refine Below.drew ?_) | (with_reducible refine Below_drewN ?_) | (with_reducible refine Below.alloc ?_ (by first | omega | (simp; done) | (simp; omega)) _) | (with_reducible refine Below.setCell ?_ (by first | omega | (simp; done) | (simp; omega)) _) | (with_reducible refine Below.trans ?_ (Below.mono (by assumption) (by first | omega | (simp; done) | (simp; omega))))))⟩) | (exfalso; first | omega | (simp at *; omega) | (simp at *; done))
end Go.Proofs.Ytjfnnbbnkcdbcaa
