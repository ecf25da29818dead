/- Walk of RampWeights. -/
import Derived.Test.YtehodcjnbkkkeaaIn
import Derived.WalkKit
import Derived.WalkSpells
import Derived.WalkLawsBesides
import Derived.Lib.Hide
namespace Go.Proofs.Ytehodcjnbkkkeaa
open Go.RowKit

/-- The weight that counts: d ticks since it became active. -/
def rampW (weight d warm : Int) : Int := if warm ≤ d then weight else max (weight * d / warm) 1

theorem mul_bd {a d : Int} (A D : Int) (h1 : 0 ≤ a) (h2 : a ≤ A) (h3 : 0 ≤ d) (h4 : d ≤ D) : 0 ≤ a * d ∧ a * d ≤ A * D :=
  ⟨Int.mul_nonneg h1 h3, Int.mul_le_mul h2 h4 h3 (by omega)⟩

theorem rampW_of {weight d warm n : Int} (h1 : 1 ≤ weight) (h2 : 0 ≤ warm) (h3 : 0 ≤ d) (hn : 1 ≤ n) (hw : n ≤ weight) (ha : n = 1 ∨ n * warm ≤ weight * d) (hb : n = weight ∨ weight * d < (n + 1) * warm) : n = rampW weight d warm := by
  unfold rampW
  by_cases hc : warm ≤ d
  · rw [if_pos hc]
    rcases hb with hb | hb
    · exact hb
    · by_cases hnw : n = weight
      · exact hnw
      · exfalso
        have : (n + 1) * warm ≤ weight * d := Int.mul_le_mul (by omega) hc h2 (by omega)
        omega
  · rw [if_neg hc]
    have hwp : 0 < warm := by omega
    have hlt : weight * d < (n + 1) * warm := by
      rcases hb with rfl | hb
      · have h5 : n * d ≤ n * warm := Int.mul_le_mul_of_nonneg_left (by omega) (by omega)
        rw [Int.add_mul]; omega
      · exact hb
    have hup : weight * d / warm < n + 1 := Int.ediv_lt_of_lt_mul hwp hlt
    rcases ha with rfl | ha
    · omega
    · have hlo : n ≤ weight * d / warm := Int.le_ediv_of_mul_le hwp ha
      omega

set_option maxHeartbeats 2000000 in
theorem ref_RampWeight (weight since now warm : Int) (w : World) (h1 : 1 ≤ weight) (h2 : weight ≤ 8) (h3 : 0 ≤ warm) (h4 : warm ≤ 500) (h5 : 0 ≤ since) (h6 : since ≤ 1099511627776) (h7 : since ≤ now) (h8 : now ≤ 1099511627776) :
    Calls Try.prog 38 #[.int .i64 weight, .int .i64 since, .int .i64 now, .int .i64 warm] w fun e w' => e = .returned (.tuple #[.int .i64 (rampW weight (now - since) warm), .int .i64 0]) ∧ w = w' := by
  have hX := mul_bd (a := weight) (d := now - since) 8 1099511627776 (by omega) (by omega) (by omega) (by omega)
  obtain ⟨hX0, hX1⟩ := hX
  go_enter Try.func38, Try.ntmps38
  go_wp2_with (go_at_call 58; first | (refine (In_yes _ _ _ _ (by omega) (by omega)).mono ?_; rintro e w' ⟨rfl, rfl⟩) | (refine (In_no _ _ _ _ (by omega)).mono ?_; rintro e w' ⟨rfl, rfl⟩))
  go_loop [10, 11] (fun n i => ∃ k m : Int, 2 ≤ k ∧ k ≤ weight + 1 ∧ i = .int .i64 k ∧ n = .int .i64 m ∧ 1 ≤ m ∧ m ≤ k - 1 ∧ (m = 1 ∨ m * warm ≤ weight * (now - since)) ∧ (m = k - 1 ∨ weight * (now - since) < (m + 1) * warm)) (fun _ i => (weight + 1 - intOf i).toNat)
  case atStart => exact ⟨2, 1, by omega, by omega, rfl, rfl, by omega, by omega, Or.inl rfl, Or.inl rfl⟩
  case round =>
    obtain ⟨k, m, hk, hk2, rfl, rfl, hm1, hm2, ha, hb⟩ := hrel
    have A := Lib.hid (And.intro ha hb)
    clear ha hb
    have hK := mul_bd (a := k) (d := warm) 9 500 (by omega) (by omega) (by omega) (by omega)
    obtain ⟨hK0, hK1⟩ := hK
    by_cases hlt : k ≤ weight
    · by_cases hc : k * warm ≤ weight * (now - since)
      · go_wp2
        go_round
        case rel => exact ⟨k + 1, k, by omega, by omega, rfl, rfl, by omega, by omega, Or.inr hc, Or.inl (by omega)⟩
        case measure => simp [intOf]; omega
      · go_wp2
        go_round
        case rel =>
          obtain ⟨ha, hb⟩ := A.out
          refine ⟨k + 1, m, by omega, by omega, rfl, rfl, by omega, by omega, ha, Or.inr ?_⟩
          rcases hb with rfl | hb
          · rw [Int.sub_add_cancel]; omega
          · exact hb
        case measure => simp [intOf]; omega
    · have hgt : weight < k := by omega
      go_wp2
      go_ret2
      obtain ⟨ha, hb⟩ := A.out
      exact ⟨rII (rampW_of h1 h3 (by omega) hm1 (by omega) ha (by rcases hb with hb | hb; exact Or.inl (by omega); exact Or.inr hb)) rfl, rfl⟩

set_option maxHeartbeats 2000000 in
theorem prog_RampWeight (weight since now warm : Int) (w : World) (h1 : 1 ≤ weight) (h2 : weight ≤ 8) (h3 : 0 ≤ warm) (h4 : warm ≤ 500) (h5 : 0 ≤ since) (h6 : since ≤ 1099511627776) (h7 : since ≤ now) (h8 : now ≤ 1099511627776) :
    Calls Try.prog 37 #[.int .i64 weight, .int .i64 since, .int .i64 now, .int .i64 warm] w fun e w' => e = .returned (.tuple #[.int .i64 (rampW weight (now - since) warm), .int .i64 0]) ∧ w = w' := by
  have hX := mul_bd (a := weight) (d := now - since) 8 1099511627776 (by omega) (by omega) (by omega) (by omega)
  obtain ⟨hX0, hX1⟩ := hX
  by_cases hc : warm ≤ now - since
  · go_enter Try.func37, Try.ntmps37
    go_wp2
    all_goals first | (go_ret2; exact ⟨rII (by rw [rampW, if_pos hc]) rfl, rfl⟩) | (exfalso; first | omega | (simp at *; omega) | (simp at *; done))
  · by_cases hd : weight * (now - since) / warm < 1
    all_goals
      go_enter Try.func37, Try.ntmps37
      go_wp2
      all_goals first | (go_ret2; exact ⟨rII (by rw [rampW, if_neg (by omega)]; omega) rfl, rfl⟩) | (exfalso; first | omega | (simp at *; omega) | (simp at *; done))

set_option maxHeartbeats 2000000 in
theorem walk_RampWeights (v0 v1 v2 v3 : Value) (W : World) (o0 : Is_int W v0) (o1 : Is_int W v1) (o2 : Is_int W v2) (o3 : Is_int W v3) :
    Calls Try.prog 11 #[v0, v1, v2, v3] W fun e w' => e = .returned (.bool true) ∧ Below W.heap.size W w' := by
  obtain ⟨weight, rfl, ha⟩ := o0
  obtain ⟨since, rfl, hb⟩ := o1
  obtain ⟨now, rfl, hc⟩ := o2
  obtain ⟨warm, rfl, hd⟩ := o3
  clear ha hb hc hd
  rcases (show ((weight < 1)) ∨ ((1 ≤ weight) ∧ (8 < weight)) ∨ ((1 ≤ weight) ∧ (weight ≤ 8) ∧ (warm < 0)) ∨ ((1 ≤ weight) ∧ (weight ≤ 8) ∧ (0 ≤ warm) ∧ (500 < warm)) ∨ ((1 ≤ weight) ∧ (weight ≤ 8) ∧ (0 ≤ warm) ∧ (warm ≤ 500) ∧ (since < 0)) ∨ ((1 ≤ weight) ∧ (weight ≤ 8) ∧ (0 ≤ warm) ∧ (warm ≤ 500) ∧ (0 ≤ since) ∧ (now < since)) ∨ ((1 ≤ weight) ∧ (weight ≤ 8) ∧ (0 ≤ warm) ∧ (warm ≤ 500) ∧ (0 ≤ since) ∧ (since ≤ now) ∧ (1099511627776 < now)) ∨ ((1 ≤ weight) ∧ (weight ≤ 8) ∧ (0 ≤ warm) ∧ (warm ≤ 500) ∧ (0 ≤ since) ∧ (since ≤ now) ∧ (now ≤ 1099511627776)) by omega) with hs0 | ⟨hs0, hs1⟩ | ⟨hs0, hs1, hs2⟩ | ⟨hs0, hs1, hs2, hs3⟩ | ⟨hs0, hs1, hs2, hs3, hs4⟩ | ⟨hs0, hs1, hs2, hs3, hs4, hs5⟩ | ⟨hs0, hs1, hs2, hs3, hs4, hs5, hs6⟩ | ⟨hs0, hs1, hs2, hs3, hs4, hs5, hs6⟩
  rotate_right
  · go_enter Try.func11, Try.ntmps11
    go_wp2_with (first | (go_at_call 37; refine (prog_RampWeight _ _ _ _ _ (by omega) (by omega) (by omega) (by omega) (by omega) (by omega) (by omega) (by omega)).mono ?_; rintro e w' ⟨rfl, rfl⟩) | (go_at_call 38; refine (ref_RampWeight _ _ _ _ _ (by omega) (by omega) (by omega) (by omega) (by omega) (by omega) (by omega) (by omega)).mono ?_; rintro e w' ⟨rfl, rfl⟩))
    all_goals first | (go_ret; exact ⟨rfl, (by repeat (first | exact Below.refl _ _ | refine Below.drew ?_ | refine Below.alloc ?_ (by simp; try omega) _))⟩) | (exfalso; first | omega | (simp at *; omega) | (simp at *; done))
  all_goals
    go_enter Try.func11, Try.ntmps11
    go_wp2
    all_goals first | (go_ret; exact ⟨rfl, (by repeat (first | exact Below.refl _ _ | refine Below.drew ?_ | refine Below.alloc ?_ (by simp; try omega) _))⟩) | (exfalso; first | omega | (simp at *; omega) | (simp at *; done))
end Go.Proofs.Ytehodcjnbkkkeaa
