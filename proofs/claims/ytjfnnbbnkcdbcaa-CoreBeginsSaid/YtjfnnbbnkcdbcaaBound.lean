/- Walk of BoundCap; the contracts of bound.Cap and usherref.CapOf. -/
import Derived.Test.YtjfnnbbnkcdbcaaOpen
namespace Go.Proofs.Ytjfnnbbnkcdbcaa
open Go.RowKit

/-- P7.1 at arguments that may be. -/
def capOf (num den flows weight total : Int) : Int := (num * (flows + 1) * weight + den * total - 1) / (den * total)

/-- May they be? -/
def CapMay (num den flows weight total : Int) : Prop := 1 ≤ den ∧ den ≤ num ∧ num ≤ 20 ∧ 0 ≤ flows ∧ flows ≤ 40 ∧ 1 ≤ weight ∧ weight ≤ total ∧ total ≤ 96

theorem capOf_of {U D k : Int} (hD : 1 ≤ D) (hk : 0 ≤ k) (hU : 1 ≤ U) (h1 : k = 0 ∨ (k - 1) * D < U) (h2 : U ≤ k * D) : k = (U + D - 1) / D := by
  have e : (k - 1) * D = k * D - D := by rw [Int.sub_mul, Int.one_mul]
  have hlo : k ≤ (U + D - 1) / D := by
    refine Int.le_ediv_of_mul_le (by omega) ?_
    rcases h1 with rfl | h1 <;> omega
  have hup : (U + D - 1) / D < k + 1 := by
    refine Int.ediv_lt_of_lt_mul (by omega) ?_
    rw [Int.add_mul]; omega
  omega

set_option maxHeartbeats 2000000 in
theorem ref_CapOf (num den flows weight total : Int) (w : World) (h : CapMay num den flows weight total) :
    Calls Try.prog 72 #[.int .i64 num, .int .i64 den, .int .i64 flows, .int .i64 weight, .int .i64 total] w fun e w' => e = .returned (.tuple #[.int .i64 (capOf num den flows weight total), .int .i64 0]) ∧ w = w' := by
  obtain ⟨h1, h2, h3, h4, h5, h6, h7, h8⟩ := h
  obtain ⟨a1, a2⟩ := mul_bd2 (a := num) (d := flows + 1) (A := 20) (D := 41) (by omega) (by omega) (by omega) (by omega)
  obtain ⟨b1, b2⟩ := mul_bd2 (a := num * (flows + 1)) (d := weight) (A := 820) (D := 96) (by omega) (by omega) (by omega) (by omega)
  obtain ⟨c1, c2⟩ := mul_bd2 (a := den) (d := total) (A := 20) (D := 96) (by omega) (by omega) (by omega) (by omega)
  have hU : 1 ≤ num * (flows + 1) * weight := Int.mul_pos (Int.mul_pos (by omega) (by omega)) (by omega)
  have hD : 1 ≤ den * total := Int.mul_pos (by omega) (by omega)
  go_enter Try.func72, Try.ntmps72
  go_wp2_with (first | (go_at_call 31; first | (refine (In_yes _ _ _ _ (by omega) (by omega)).mono ?_; rintro e w' ⟨rfl, rfl⟩) | (refine (In_no _ _ _ _ (by omega)).mono ?_; rintro e w' ⟨rfl, rfl⟩)) | go_in)
  go_loop [12] (fun n => ∃ k : Int, 0 ≤ k ∧ n = .int .i64 k ∧ k ≤ num * (flows + 1) * weight ∧ (k = 0 ∨ (k - 1) * (den * total) < num * (flows + 1) * weight)) (fun n => (num * (flows + 1) * weight - intOf n).toNat)
  case atStart => exact ⟨0, by omega, rfl, by omega, Or.inl rfl⟩
  case round =>
    obtain ⟨k, hk, rfl, hkU, ha⟩ := hrel
    have A := Lib.hid ha
    clear ha
    obtain ⟨d1, d2⟩ := mul_bd2 (a := k) (d := den) (A := 78720) (D := 20) (by omega) (by omega) (by omega) (by omega)
    obtain ⟨f1, f2⟩ := mul_bd2 (a := k * den) (d := total) (A := 1574400) (D := 96) (by omega) (by omega) (by omega) (by omega)
    by_cases hlt : k * den * total < num * (flows + 1) * weight
    · have hk2 : k < num * (flows + 1) * weight := by
        have : k * 1 ≤ k * (den * total) := Int.mul_le_mul_of_nonneg_left hD hk
        rw [← Int.mul_assoc] at this
        omega
      go_wp2
      go_round
      case rel => exact ⟨k + 1, by omega, rfl, by omega, Or.inr (by rw [show k + 1 - 1 = k by omega, ← Int.mul_assoc]; exact hlt)⟩
      case measure => simp [intOf]; omega
    · have hge : num * (flows + 1) * weight ≤ k * den * total := by omega
      go_wp2
      all_goals first | (go_ret2; exact ⟨rII (capOf_of hD hk hU A.out (by rw [← Int.mul_assoc]; exact hge)) rfl, rfl⟩) | (exfalso; first | omega | (simp at *; omega) | (simp at *; done))

set_option maxHeartbeats 2000000 in
theorem prog_Cap (num den flows weight total : Int) (w : World) (h : CapMay num den flows weight total) :
    Calls Try.prog 62 #[.int .i64 num, .int .i64 den, .int .i64 flows, .int .i64 weight, .int .i64 total] w fun e w' => e = .returned (.tuple #[.int .i64 (capOf num den flows weight total), .int .i64 0]) ∧ w = w' := by
  obtain ⟨h1, h2, h3, h4, h5, h6, h7, h8⟩ := h
  obtain ⟨a1, a2⟩ := mul_bd2 (a := num) (d := flows + 1) (A := 20) (D := 41) (by omega) (by omega) (by omega) (by omega)
  obtain ⟨b1, b2⟩ := mul_bd2 (a := num * (flows + 1)) (d := weight) (A := 820) (D := 96) (by omega) (by omega) (by omega) (by omega)
  obtain ⟨c1, c2⟩ := mul_bd2 (a := den) (d := total) (A := 20) (D := 96) (by omega) (by omega) (by omega) (by omega)
  have hU : 1 ≤ num * (flows + 1) * weight := Int.mul_pos (Int.mul_pos (by omega) (by omega)) (by omega)
  have hD : 1 ≤ den * total := Int.mul_pos (by omega) (by omega)
  go_enter Try.func62, Try.ntmps62
  go_wp2
  all_goals first | (go_ret2; exact ⟨rII rfl rfl, rfl⟩) | (exfalso; first | omega | (simp at *; omega) | (simp at *; done))

end Go.Proofs.Ytjfnnbbnkcdbcaa
