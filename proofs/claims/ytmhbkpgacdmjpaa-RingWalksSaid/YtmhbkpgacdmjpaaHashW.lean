/- Walks of HashKeys and HashSpots. -/
import Derived.Test.YtmhbkpgacdmjpaaHash
namespace Go.Proofs.Ytmhbkpgacdmjpaa
open Go.RowKit

set_option maxHeartbeats 4000000 in
theorem prog_Key_ok (K : Nat) (w : World) (h : K < 4294967296) : Calls Try.prog 28 #[.int .i64 K] w fun e w' => e = .returned (.tuple #[.int .i64 (mix4 (K % 256) (K / 256 % 256) (K / 65536 % 256) (K / 16777216)), .int .i64 0]) ∧ Below w.heap.size w w' := by
  go_enter Try.func28, Try.ntmps28
  go_wp2_with fail
  refine (prog_mix w.heap.size (K % 256) (K / 256 % 256) (K / 65536 % 256) (K / 16777216) _ (by omega) (by omega) (by omega) (by omega) (by simp) (by simp) (by simp) (by simp)).mono ?_
  rintro e w1 ⟨rfl, rfl⟩
  go_wp2
  all_goals first | (go_ret2; exact ⟨rII rfl rfl, (by repeat (first | (with_reducible exact Below.refl _ _) | (with_reducible assumption) | (with_reducible refine Below.drew ?_) | (with_reducible refine Below_drewN ?_) | (with_reducible refine Below.alloc ?_ (by first | omega | (simp; done) | (simp; omega)) _) | (with_reducible refine Below.setCell ?_ (by first | omega | (simp; done) | (simp; omega)) _) | (with_reducible refine Below.trans ?_ (Below.mono (by assumption) (by first | omega | (simp; done) | (simp; omega))))))⟩) | (exfalso; first | omega | (simp at *; omega) | (simp at *; done))

set_option maxHeartbeats 4000000 in
theorem prog_Key_bad (k : Int) (w : World) (h : k < 0 ∨ (0 ≤ k ∧ 4294967295 < k)) : Calls Try.prog 28 #[.int .i64 k] w fun e w' => e = .returned (.tuple #[.int .i64 0, .int .i64 2]) ∧ Below w.heap.size w w' := by
  rcases h with h | ⟨h, h2⟩
  all_goals
    go_enter Try.func28, Try.ntmps28
    go_wp2
    all_goals first | (go_ret2; exact ⟨rII rfl rfl, (by repeat (first | (with_reducible exact Below.refl _ _) | (with_reducible assumption) | (with_reducible refine Below.drew ?_) | (with_reducible refine Below_drewN ?_) | (with_reducible refine Below.alloc ?_ (by first | omega | (simp; done) | (simp; omega)) _) | (with_reducible refine Below.setCell ?_ (by first | omega | (simp; done) | (simp; omega)) _) | (with_reducible refine Below.trans ?_ (Below.mono (by assumption) (by first | omega | (simp; done) | (simp; omega))))))⟩) | (exfalso; first | omega | (simp at *; omega) | (simp at *; done))

set_option maxHeartbeats 4000000 in
theorem ref_KeyAt_ok (K : Nat) (w : World) (h : K < 4294967296) : Calls Try.prog 31 #[.int .i64 K] w fun e w' => e = .returned (.tuple #[.int .i64 (mix4 (K % 256) (K / 256 % 256) (K / 65536 % 256) (K / 16777216)), .int .i64 0]) ∧ Below w.heap.size w w' := by
  go_enter Try.func31, Try.ntmps31
  go_wp2_with (go_at_call 24; first | (refine (In_yes _ _ _ _ (by omega) (by omega)).mono ?_; rintro e w' ⟨rfl, rfl⟩) | (refine (In_no _ _ _ _ (by omega)).mono ?_; rintro e w' ⟨rfl, rfl⟩))
  go_wp2_with fail
  refine (ref_mixed w.heap.size (K % 256) (K / 256 % 256) (K / 65536 % 256) (K / 16777216) _ (by omega) (by omega) (by omega) (by omega) (by simp) (by simp) (by simp) (by simp)).mono ?_
  rintro e w1 ⟨rfl, rfl⟩
  go_wp2
  all_goals first | (go_ret2; exact ⟨rII rfl rfl, (by repeat (first | (with_reducible exact Below.refl _ _) | (with_reducible assumption) | (with_reducible refine Below.drew ?_) | (with_reducible refine Below_drewN ?_) | (with_reducible refine Below.alloc ?_ (by first | omega | (simp; done) | (simp; omega)) _) | (with_reducible refine Below.setCell ?_ (by first | omega | (simp; done) | (simp; omega)) _) | (with_reducible refine Below.trans ?_ (Below.mono (by assumption) (by first | omega | (simp; done) | (simp; omega))))))⟩) | (exfalso; first | omega | (simp at *; omega) | (simp at *; done))

set_option maxHeartbeats 4000000 in
theorem ref_KeyAt_bad (k : Int) (w : World) (h : k < 0 ∨ (0 ≤ k ∧ 4294967295 < k)) : Calls Try.prog 31 #[.int .i64 k] w fun e w' => e = .returned (.tuple #[.int .i64 0, .int .i64 2]) ∧ Below w.heap.size w w' := by
  rcases h with h | ⟨h, h2⟩
  all_goals
    go_enter Try.func31, Try.ntmps31
    go_wp2_with (go_at_call 24; first | (refine (In_yes _ _ _ _ (by omega) (by omega)).mono ?_; rintro e w' ⟨rfl, rfl⟩) | (refine (In_no _ _ _ _ (by omega)).mono ?_; rintro e w' ⟨rfl, rfl⟩))
    all_goals first | (go_ret2; exact ⟨rII rfl rfl, (by repeat (first | (with_reducible exact Below.refl _ _) | (with_reducible assumption) | (with_reducible refine Below.drew ?_) | (with_reducible refine Below_drewN ?_) | (with_reducible refine Below.alloc ?_ (by first | omega | (simp; done) | (simp; omega)) _) | (with_reducible refine Below.setCell ?_ (by first | omega | (simp; done) | (simp; omega)) _) | (with_reducible refine Below.trans ?_ (Below.mono (by assumption) (by first | omega | (simp; done) | (simp; omega))))))⟩) | (exfalso; first | omega | (simp at *; omega) | (simp at *; done))

set_option maxHeartbeats 4000000 in
theorem prog_Spot_ok (b i : Nat) (w : World) (hb : b ≤ 11) (hi : i ≤ 31) : Calls Try.prog 33 #[.int .i64 b, .int .i64 i] w fun e w' => e = .returned (.tuple #[.int .i64 (mix4 98 b i 115), .int .i64 0]) ∧ Below w.heap.size w w' := by
  have eb : (b : Int) % 256 = b := by omega
  have ei : (i : Int) % 256 = i := by omega
  go_enter Try.func33, Try.ntmps33
  go_wp2_with fail
  refine (prog_mix w.heap.size 98 b i 115 _ (by omega) (by omega) (by omega) (by omega) (by simp) (by simp) (by simp) (by simp)).mono ?_
  rintro e w1 ⟨rfl, rfl⟩
  go_wp2
  all_goals first | (go_ret2; exact ⟨rII rfl rfl, (by repeat (first | (with_reducible exact Below.refl _ _) | (with_reducible assumption) | (with_reducible refine Below.drew ?_) | (with_reducible refine Below_drewN ?_) | (with_reducible refine Below.alloc ?_ (by first | omega | (simp; done) | (simp; omega)) _) | (with_reducible refine Below.setCell ?_ (by first | omega | (simp; done) | (simp; omega)) _) | (with_reducible refine Below.trans ?_ (Below.mono (by assumption) (by first | omega | (simp; done) | (simp; omega))))))⟩) | (exfalso; first | omega | (simp at *; omega) | (simp at *; done))

set_option maxHeartbeats 4000000 in
theorem prog_Spot_bad (b i : Int) (w : World) (h : b < 0 ∨ (0 ≤ b ∧ 11 < b) ∨ (0 ≤ b ∧ b ≤ 11 ∧ i < 0) ∨ (0 ≤ b ∧ b ≤ 11 ∧ 0 ≤ i ∧ 31 < i)) : Calls Try.prog 33 #[.int .i64 b, .int .i64 i] w fun e w' => e = .returned (.tuple #[.int .i64 0, .int .i64 2]) ∧ Below w.heap.size w w' := by
  rcases h with h | ⟨h, h2⟩ | ⟨h, h2, h3⟩ | ⟨h, h2, h3, h4⟩
  all_goals
    go_enter Try.func33, Try.ntmps33
    go_wp2
    all_goals first | (go_ret2; exact ⟨rII rfl rfl, (by repeat (first | (with_reducible exact Below.refl _ _) | (with_reducible assumption) | (with_reducible refine Below.drew ?_) | (with_reducible refine Below_drewN ?_) | (with_reducible refine Below.alloc ?_ (by first | omega | (simp; done) | (simp; omega)) _) | (with_reducible refine Below.setCell ?_ (by first | omega | (simp; done) | (simp; omega)) _) | (with_reducible refine Below.trans ?_ (Below.mono (by assumption) (by first | omega | (simp; done) | (simp; omega))))))⟩) | (exfalso; first | omega | (simp at *; omega) | (simp at *; done))

set_option maxHeartbeats 4000000 in
theorem ref_SpotAt_ok (b i : Nat) (w : World) (hb : b ≤ 11) (hi : i ≤ 31) : Calls Try.prog 38 #[.int .i64 b, .int .i64 i] w fun e w' => e = .returned (.tuple #[.int .i64 (mix4 98 b i 115), .int .i64 0]) ∧ Below w.heap.size w w' := by
  go_enter Try.func38, Try.ntmps38
  go_wp2_with (go_at_call 24; first | (refine (In_yes _ _ _ _ (by omega) (by omega)).mono ?_; rintro e w' ⟨rfl, rfl⟩) | (refine (In_no _ _ _ _ (by omega)).mono ?_; rintro e w' ⟨rfl, rfl⟩))
  go_wp2_with fail
  refine (ref_mixed w.heap.size 98 b i 115 _ (by omega) (by omega) (by omega) (by omega) (by simp) (by simp) (by simp) (by simp)).mono ?_
  rintro e w1 ⟨rfl, rfl⟩
  go_wp2
  all_goals first | (go_ret2; exact ⟨rII rfl rfl, (by repeat (first | (with_reducible exact Below.refl _ _) | (with_reducible assumption) | (with_reducible refine Below.drew ?_) | (with_reducible refine Below_drewN ?_) | (with_reducible refine Below.alloc ?_ (by first | omega | (simp; done) | (simp; omega)) _) | (with_reducible refine Below.setCell ?_ (by first | omega | (simp; done) | (simp; omega)) _) | (with_reducible refine Below.trans ?_ (Below.mono (by assumption) (by first | omega | (simp; done) | (simp; omega))))))⟩) | (exfalso; first | omega | (simp at *; omega) | (simp at *; done))

set_option maxHeartbeats 4000000 in
theorem ref_SpotAt_bad (b i : Int) (w : World) (h : b < 0 ∨ (0 ≤ b ∧ 11 < b) ∨ (0 ≤ b ∧ b ≤ 11 ∧ i < 0) ∨ (0 ≤ b ∧ b ≤ 11 ∧ 0 ≤ i ∧ 31 < i)) : Calls Try.prog 38 #[.int .i64 b, .int .i64 i] w fun e w' => e = .returned (.tuple #[.int .i64 0, .int .i64 2]) ∧ Below w.heap.size w w' := by
  rcases h with h | ⟨h, h2⟩ | ⟨h, h2, h3⟩ | ⟨h, h2, h3, h4⟩
  all_goals
    go_enter Try.func38, Try.ntmps38
    go_wp2_with (go_at_call 24; first | (refine (In_yes _ _ _ _ (by omega) (by omega)).mono ?_; rintro e w' ⟨rfl, rfl⟩) | (refine (In_no _ _ _ _ (by omega)).mono ?_; rintro e w' ⟨rfl, rfl⟩))
    all_goals first | (go_ret2; exact ⟨rII rfl rfl, (by repeat (first | (with_reducible exact Below.refl _ _) | (with_reducible assumption) | (with_reducible refine Below.drew ?_) | (with_reducible refine Below_drewN ?_) | (with_reducible refine Below.alloc ?_ (by first | omega | (simp; done) | (simp; omega)) _) | (with_reducible refine Below.setCell ?_ (by first | omega | (simp; done) | (simp; omega)) _) | (with_reducible refine Below.trans ?_ (Below.mono (by assumption) (by first | omega | (simp; done) | (simp; omega))))))⟩) | (exfalso; first | omega | (simp at *; omega) | (simp at *; done))
end Go.Proofs.Ytmhbkpgacdmjpaa
