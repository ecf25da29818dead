/- Walks of HashKeys and HashSpots. -/
import Derived.Test.YtehodcjnbkkkeaaHashW
namespace Go.Proofs.Ytehodcjnbkkkeaa
open Go.RowKit

set_option maxHeartbeats 4000000 in
theorem walk_HashKeys (v0 : Value) (W : World) (o0 : Is_int W v0) :
    Calls Try.prog 12 #[v0] W fun e w' => e = .returned (.bool true) ∧ Below W.heap.size W w' := by
  obtain ⟨k, rfl, ha⟩ := o0
  clear ha
  rcases (show (k < 0 ∨ (0 ≤ k ∧ 4294967295 < k)) ∨ (0 ≤ k ∧ k ≤ 4294967295) by omega) with h | ⟨h1, h2⟩
  · have h' := Lib.hid h
    clear h
    go_enter Try.func12, Try.ntmps12
    go_wp2_with (first | (go_at_call 39; refine (prog_Key_bad _ _ h'.out).mono ?_; rintro e w1 ⟨rfl, hb1⟩; obtain ⟨hc1, hf1⟩ := bcell hb1; have hz1 := blt hb1; have hy1 := hb1.size; (try simp at hy1)) | (go_at_call 40; refine (ref_KeyAt_bad _ _ h'.out).mono ?_; rintro e w1 ⟨rfl, hb1⟩; obtain ⟨hc1, hf1⟩ := bcell hb1; have hz1 := blt hb1; have hy1 := hb1.size; (try simp at hy1)))
    all_goals first | (go_ret; exact ⟨rfl, (by repeat (first | exact Below.refl _ _ | (refine Below.drew ?_) | (refine Below_drewN ?_) | (refine Below.alloc ?_ (by first | omega | (simp; done) | (simp; omega)) _) | (refine Below.setCell ?_ (by first | omega | (simp; done) | (simp; omega)) _) | (refine Below.trans ?_ (Below.mono (by assumption) (by first | omega | (simp; done) | (simp; omega))))))⟩) | (exfalso; first | omega | (simp at *; omega) | (simp at *; done))
  · obtain ⟨K, rfl⟩ := Int.eq_ofNat_of_zero_le h1
    have h3 : K < 4294967296 := by omega
    clear h1 h2
    go_enter Try.func12, Try.ntmps12
    go_wp2_with (first | (go_at_call 39; refine (prog_Key_ok _ _ h3).mono ?_; rintro e w1 ⟨rfl, hb1⟩; obtain ⟨hc1, hf1⟩ := bcell hb1; have hz1 := blt hb1; have hy1 := hb1.size; (try simp at hy1)) | (go_at_call 40; refine (ref_KeyAt_ok _ _ h3).mono ?_; rintro e w1 ⟨rfl, hb1⟩; obtain ⟨hc1, hf1⟩ := bcell hb1; have hz1 := blt hb1; have hy1 := hb1.size; (try simp at hy1)))
    all_goals first | (go_ret; exact ⟨rfl, (by repeat (first | exact Below.refl _ _ | (refine Below.drew ?_) | (refine Below_drewN ?_) | (refine Below.alloc ?_ (by first | omega | (simp; done) | (simp; omega)) _) | (refine Below.setCell ?_ (by first | omega | (simp; done) | (simp; omega)) _) | (refine Below.trans ?_ (Below.mono (by assumption) (by first | omega | (simp; done) | (simp; omega))))))⟩) | (exfalso; first | omega | (simp at *; omega) | (simp at *; done))

set_option maxHeartbeats 4000000 in
theorem walk_HashSpots (v0 v1 : Value) (W : World) (o0 : Is_int W v0) (o1 : Is_int W v1) :
    Calls Try.prog 13 #[v0, v1] W fun e w' => e = .returned (.bool true) ∧ Below W.heap.size W w' := by
  obtain ⟨b, rfl, ha⟩ := o0
  obtain ⟨i, rfl, hc⟩ := o1
  clear ha hc
  rcases (show (b < 0 ∨ (0 ≤ b ∧ 11 < b) ∨ (0 ≤ b ∧ b ≤ 11 ∧ i < 0) ∨ (0 ≤ b ∧ b ≤ 11 ∧ 0 ≤ i ∧ 31 < i)) ∨ (0 ≤ b ∧ b ≤ 11 ∧ 0 ≤ i ∧ i ≤ 31) by omega) with h | ⟨h1, h2, h3, h4⟩
  · have h' := Lib.hid h
    clear h
    go_enter Try.func13, Try.ntmps13
    go_wp2_with (first | (go_at_call 41; refine (prog_Spot_bad _ _ _ h'.out).mono ?_; rintro e w1 ⟨rfl, hb1⟩; obtain ⟨hc1, hf1⟩ := bcell hb1; have hz1 := blt hb1; have hy1 := hb1.size; (try simp at hy1)) | (go_at_call 42; refine (ref_SpotAt_bad _ _ _ h'.out).mono ?_; rintro e w1 ⟨rfl, hb1⟩; obtain ⟨hc1, hf1⟩ := bcell hb1; have hz1 := blt hb1; have hy1 := hb1.size; (try simp at hy1)))
    all_goals first | (go_ret; exact ⟨rfl, (by repeat (first | exact Below.refl _ _ | (refine Below.drew ?_) | (refine Below_drewN ?_) | (refine Below.alloc ?_ (by first | omega | (simp; done) | (simp; omega)) _) | (refine Below.setCell ?_ (by first | omega | (simp; done) | (simp; omega)) _) | (refine Below.trans ?_ (Below.mono (by assumption) (by first | omega | (simp; done) | (simp; omega))))))⟩) | (exfalso; first | omega | (simp at *; omega) | (simp at *; done))
  · obtain ⟨B, rfl⟩ := Int.eq_ofNat_of_zero_le h1
    obtain ⟨I, rfl⟩ := Int.eq_ofNat_of_zero_le h3
    have h5 : B ≤ 11 := by omega
    have h6 : I ≤ 31 := by omega
    clear h1 h2 h3 h4
    go_enter Try.func13, Try.ntmps13
    go_wp2_with (first | (go_at_call 41; refine (prog_Spot_ok _ _ _ h5 h6).mono ?_; rintro e w1 ⟨rfl, hb1⟩; obtain ⟨hc1, hf1⟩ := bcell hb1; have hz1 := blt hb1; have hy1 := hb1.size; (try simp at hy1)) | (go_at_call 42; refine (ref_SpotAt_ok _ _ _ h5 h6).mono ?_; rintro e w1 ⟨rfl, hb1⟩; obtain ⟨hc1, hf1⟩ := bcell hb1; have hz1 := blt hb1; have hy1 := hb1.size; (try simp at hy1)))
    all_goals first | (go_ret; exact ⟨rfl, (by repeat (first | exact Below.refl _ _ | (refine Below.drew ?_) | (refine Below_drewN ?_) | (refine Below.alloc ?_ (by first | omega | (simp; done) | (simp; omega)) _) | (refine Below.setCell ?_ (by first | omega | (simp; done) | (simp; omega)) _) | (refine Below.trans ?_ (Below.mono (by assumption) (by first | omega | (simp; done) | (simp; omega))))))⟩) | (exfalso; first | omega | (simp at *; omega) | (simp at *; done))
end Go.Proofs.Ytehodcjnbkkkeaa
