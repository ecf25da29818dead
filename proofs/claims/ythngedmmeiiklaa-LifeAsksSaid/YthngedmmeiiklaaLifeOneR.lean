/- usherref.lifeMay: its contract. -/
import Derived.Test.YthngedmmeiiklaaLifeOne
namespace Go.Proofs.Ythngedmmeiiklaa
open Go.RowKit

set_option maxHeartbeats 4000000 in
set_option maxRecDepth 100000 in
theorem ref_lifeMay (b s wt si un rq : Int) (r : Bool) (w : World) (hr : (LfMay ⟨b, s, wt, si, un, rq⟩ ∧ r = true) ∨ (¬ LfMay ⟨b, s, wt, si, un, rq⟩ ∧ r = false)) :
    Calls Try.prog 24 #[.agg #[.int .i64 b, .int .i64 s, .int .i64 wt, .int .i64 si, .int .i64 un, .int .i64 rq]] w fun e w' => e = .returned (.bool r) ∧ Below w.heap.size w w' := by
  rcases (show ((b < 0)) ∨ ((0 ≤ b) ∧ (11 < b)) ∨ ((0 ≤ b) ∧ (b ≤ 11) ∧ (s < 1)) ∨ ((0 ≤ b) ∧ (b ≤ 11) ∧ (1 ≤ s) ∧ (4 < s)) ∨ ((0 ≤ b) ∧ (b ≤ 11) ∧ (1 ≤ s) ∧ (s ≤ 4) ∧ (wt < 1)) ∨ ((0 ≤ b) ∧ (b ≤ 11) ∧ (1 ≤ s) ∧ (s ≤ 4) ∧ (1 ≤ wt) ∧ (8 < wt)) ∨ ((0 ≤ b) ∧ (b ≤ 11) ∧ (1 ≤ s) ∧ (s ≤ 4) ∧ (1 ≤ wt) ∧ (wt ≤ 8) ∧ (si < 0)) ∨ ((0 ≤ b) ∧ (b ≤ 11) ∧ (1 ≤ s) ∧ (s ≤ 4) ∧ (1 ≤ wt) ∧ (wt ≤ 8) ∧ (0 ≤ si) ∧ (1099511627776 < si)) ∨ ((0 ≤ b) ∧ (b ≤ 11) ∧ (1 ≤ s) ∧ (s ≤ 4) ∧ (1 ≤ wt) ∧ (wt ≤ 8) ∧ (0 ≤ si) ∧ (si ≤ 1099511627776) ∧ (un < 0)) ∨ ((0 ≤ b) ∧ (b ≤ 11) ∧ (1 ≤ s) ∧ (s ≤ 4) ∧ (1 ≤ wt) ∧ (wt ≤ 8) ∧ (0 ≤ si) ∧ (si ≤ 1099511627776) ∧ (0 ≤ un) ∧ (1099511628276 < un)) ∨ ((0 ≤ b) ∧ (b ≤ 11) ∧ (1 ≤ s) ∧ (s ≤ 4) ∧ (1 ≤ wt) ∧ (wt ≤ 8) ∧ (0 ≤ si) ∧ (si ≤ 1099511627776) ∧ (0 ≤ un) ∧ (un ≤ 1099511628276) ∧ (rq < 0)) ∨ ((0 ≤ b) ∧ (b ≤ 11) ∧ (1 ≤ s) ∧ (s ≤ 4) ∧ (1 ≤ wt) ∧ (wt ≤ 8) ∧ (0 ≤ si) ∧ (si ≤ 1099511627776) ∧ (0 ≤ un) ∧ (un ≤ 1099511628276) ∧ (0 ≤ rq) ∧ (1048576 < rq)) ∨ ((0 ≤ b) ∧ (b ≤ 11) ∧ (1 ≤ s) ∧ (s ≤ 4) ∧ (1 ≤ wt) ∧ (wt ≤ 8) ∧ (0 ≤ si) ∧ (si ≤ 1099511627776) ∧ (0 ≤ un) ∧ (un ≤ 1099511628276) ∧ (0 ≤ rq) ∧ (rq ≤ 1048576)) by (rcases (show (b < 0) ∨ (0 ≤ b) by omega) with hx0 | hx0; exact Or.inl hx0; (rcases (show (11 < b) ∨ (b ≤ 11) by omega) with hx1 | hx1; exact Or.inr (Or.inl ⟨hx0, hx1⟩); (rcases (show (s < 1) ∨ (1 ≤ s) by omega) with hx2 | hx2; exact Or.inr (Or.inr (Or.inl ⟨hx0, hx1, hx2⟩)); (rcases (show (4 < s) ∨ (s ≤ 4) by omega) with hx3 | hx3; exact Or.inr (Or.inr (Or.inr (Or.inl ⟨hx0, hx1, hx2, hx3⟩))); (rcases (show (wt < 1) ∨ (1 ≤ wt) by omega) with hx4 | hx4; exact Or.inr (Or.inr (Or.inr (Or.inr (Or.inl ⟨hx0, hx1, hx2, hx3, hx4⟩)))); (rcases (show (8 < wt) ∨ (wt ≤ 8) by omega) with hx5 | hx5; exact Or.inr (Or.inr (Or.inr (Or.inr (Or.inr (Or.inl ⟨hx0, hx1, hx2, hx3, hx4, hx5⟩))))); (rcases (show (si < 0) ∨ (0 ≤ si) by omega) with hx6 | hx6; exact Or.inr (Or.inr (Or.inr (Or.inr (Or.inr (Or.inr (Or.inl ⟨hx0, hx1, hx2, hx3, hx4, hx5, hx6⟩)))))); (rcases (show (1099511627776 < si) ∨ (si ≤ 1099511627776) by omega) with hx7 | hx7; exact Or.inr (Or.inr (Or.inr (Or.inr (Or.inr (Or.inr (Or.inr (Or.inl ⟨hx0, hx1, hx2, hx3, hx4, hx5, hx6, hx7⟩))))))); (rcases (show (un < 0) ∨ (0 ≤ un) by omega) with hx8 | hx8; exact Or.inr (Or.inr (Or.inr (Or.inr (Or.inr (Or.inr (Or.inr (Or.inr (Or.inl ⟨hx0, hx1, hx2, hx3, hx4, hx5, hx6, hx7, hx8⟩)))))))); (rcases (show (1099511628276 < un) ∨ (un ≤ 1099511628276) by omega) with hx9 | hx9; exact Or.inr (Or.inr (Or.inr (Or.inr (Or.inr (Or.inr (Or.inr (Or.inr (Or.inr (Or.inl ⟨hx0, hx1, hx2, hx3, hx4, hx5, hx6, hx7, hx8, hx9⟩))))))))); (rcases (show (rq < 0) ∨ (0 ≤ rq) by omega) with hx10 | hx10; exact Or.inr (Or.inr (Or.inr (Or.inr (Or.inr (Or.inr (Or.inr (Or.inr (Or.inr (Or.inr (Or.inl ⟨hx0, hx1, hx2, hx3, hx4, hx5, hx6, hx7, hx8, hx9, hx10⟩)))))))))); (rcases (show (1048576 < rq) ∨ (rq ≤ 1048576) by omega) with hx11 | hx11; exact Or.inr (Or.inr (Or.inr (Or.inr (Or.inr (Or.inr (Or.inr (Or.inr (Or.inr (Or.inr (Or.inr (Or.inl ⟨hx0, hx1, hx2, hx3, hx4, hx5, hx6, hx7, hx8, hx9, hx10, hx11⟩))))))))))); exact Or.inr (Or.inr (Or.inr (Or.inr (Or.inr (Or.inr (Or.inr (Or.inr (Or.inr (Or.inr (Or.inr (Or.inr (⟨hx0, hx1, hx2, hx3, hx4, hx5, hx6, hx7, hx8, hx9, hx10, hx11⟩))))))))))))))))))))))))) with hs0 | ⟨hs0, hs1⟩ | ⟨hs0, hs1, hs2⟩ | ⟨hs0, hs1, hs2, hs3⟩ | ⟨hs0, hs1, hs2, hs3, hs4⟩ | ⟨hs0, hs1, hs2, hs3, hs4, hs5⟩ | ⟨hs0, hs1, hs2, hs3, hs4, hs5, hs6⟩ | ⟨hs0, hs1, hs2, hs3, hs4, hs5, hs6, hs7⟩ | ⟨hs0, hs1, hs2, hs3, hs4, hs5, hs6, hs7, hs8⟩ | ⟨hs0, hs1, hs2, hs3, hs4, hs5, hs6, hs7, hs8, hs9⟩ | ⟨hs0, hs1, hs2, hs3, hs4, hs5, hs6, hs7, hs8, hs9, hs10⟩ | ⟨hs0, hs1, hs2, hs3, hs4, hs5, hs6, hs7, hs8, hs9, hs10, hs11⟩ | ⟨hs0, hs1, hs2, hs3, hs4, hs5, hs6, hs7, hs8, hs9, hs10, hs11⟩
  rotate_right
  · rcases (show s = 1 ∨ s = 2 ∨ s = 3 ∨ s = 4 ∨ (s ≠ 1 ∧ s ≠ 2 ∧ s ≠ 3 ∧ s ≠ 4) by omega) with rfl | rfl | rfl | rfl | ⟨h1, h2, h3, h4⟩
    · by_cases h1 : si = 0
      · subst h1
        · by_cases h1 : un = 0
          · subst h1
            · by_cases h1 : rq = 0
              · subst h1
                · obtain rfl : r = true := by rcases hr with ⟨_, h⟩ | ⟨h, _⟩; exact h; (refine absurd ?_ h; simp only [LfMay]; first | omega | (simp; done) | (simp; omega))
                  clear hr
                  go_enter Try.func24, Try.ntmps24
                  go_wp2_with (go_at_call 31; first | (refine (In_yes _ _ _ _ (by omega) (by omega)).mono ?_; rintro e w' ⟨rfl, rfl⟩) | (refine (In_no _ _ _ _ (by omega)).mono ?_; rintro e w' ⟨rfl, rfl⟩))
                  all_goals first | (go_ret; exact ⟨rfl, (by repeat (first | (with_reducible exact Below.refl _ _) | (with_reducible assumption) | (with_reducible refine Below.drew ?_) | (with_reducible refine Below_drewN ?_) | (with_reducible refine Below.alloc ?_ (by first | omega | (simp; done) | (simp; omega)) _) | (with_reducible refine Below.setCell ?_ (by first | omega | (simp; done) | (simp; omega)) _) | (with_reducible refine Below.trans ?_ (Below.mono (by assumption) (by first | omega | (simp; done) | (simp; omega))))))⟩) | (exfalso; first | omega | (simp at *; omega) | (simp at *; done))
              · obtain rfl : r = false := by rcases hr with ⟨h, _⟩ | ⟨_, h⟩; (simp only [LfMay] at h; omega); exact h
                have e1 : (rq == 0) = false := by simpa using h1
                clear hr h1
                go_enter Try.func24, Try.ntmps24
                go_wp2_with (go_at_call 31; first | (refine (In_yes _ _ _ _ (by omega) (by omega)).mono ?_; rintro e w' ⟨rfl, rfl⟩) | (refine (In_no _ _ _ _ (by omega)).mono ?_; rintro e w' ⟨rfl, rfl⟩))
                all_goals first | (go_ret; exact ⟨rfl, (by repeat (first | (with_reducible exact Below.refl _ _) | (with_reducible assumption) | (with_reducible refine Below.drew ?_) | (with_reducible refine Below_drewN ?_) | (with_reducible refine Below.alloc ?_ (by first | omega | (simp; done) | (simp; omega)) _) | (with_reducible refine Below.setCell ?_ (by first | omega | (simp; done) | (simp; omega)) _) | (with_reducible refine Below.trans ?_ (Below.mono (by assumption) (by first | omega | (simp; done) | (simp; omega))))))⟩) | (exfalso; first | omega | (simp at *; omega) | (simp at *; done))
          · obtain rfl : r = false := by rcases hr with ⟨h, _⟩ | ⟨_, h⟩; (simp only [LfMay] at h; omega); exact h
            have e1 : (un == 0) = false := by simpa using h1
            clear hr h1
            go_enter Try.func24, Try.ntmps24
            go_wp2_with (go_at_call 31; first | (refine (In_yes _ _ _ _ (by omega) (by omega)).mono ?_; rintro e w' ⟨rfl, rfl⟩) | (refine (In_no _ _ _ _ (by omega)).mono ?_; rintro e w' ⟨rfl, rfl⟩))
            all_goals first | (go_ret; exact ⟨rfl, (by repeat (first | (with_reducible exact Below.refl _ _) | (with_reducible assumption) | (with_reducible refine Below.drew ?_) | (with_reducible refine Below_drewN ?_) | (with_reducible refine Below.alloc ?_ (by first | omega | (simp; done) | (simp; omega)) _) | (with_reducible refine Below.setCell ?_ (by first | omega | (simp; done) | (simp; omega)) _) | (with_reducible refine Below.trans ?_ (Below.mono (by assumption) (by first | omega | (simp; done) | (simp; omega))))))⟩) | (exfalso; first | omega | (simp at *; omega) | (simp at *; done))
      · obtain rfl : r = false := by rcases hr with ⟨h, _⟩ | ⟨_, h⟩; (simp only [LfMay] at h; omega); exact h
        have e1 : (si == 0) = false := by simpa using h1
        have e2 : (si != 0) = true := by simpa using h1
        clear hr h1
        go_enter Try.func24, Try.ntmps24
        go_wp2_with (go_at_call 31; first | (refine (In_yes _ _ _ _ (by omega) (by omega)).mono ?_; rintro e w' ⟨rfl, rfl⟩) | (refine (In_no _ _ _ _ (by omega)).mono ?_; rintro e w' ⟨rfl, rfl⟩))
        all_goals first | (go_ret; exact ⟨rfl, (by repeat (first | (with_reducible exact Below.refl _ _) | (with_reducible assumption) | (with_reducible refine Below.drew ?_) | (with_reducible refine Below_drewN ?_) | (with_reducible refine Below.alloc ?_ (by first | omega | (simp; done) | (simp; omega)) _) | (with_reducible refine Below.setCell ?_ (by first | omega | (simp; done) | (simp; omega)) _) | (with_reducible refine Below.trans ?_ (Below.mono (by assumption) (by first | omega | (simp; done) | (simp; omega))))))⟩) | (exfalso; first | omega | (simp at *; omega) | (simp at *; done))
    · by_cases h1 : un = 0
      · subst h1
        · by_cases h1 : rq = 0
          · subst h1
            · obtain rfl : r = true := by rcases hr with ⟨_, h⟩ | ⟨h, _⟩; exact h; (refine absurd ?_ h; simp only [LfMay]; first | omega | (simp; done) | (simp; omega))
              clear hr
              go_enter Try.func24, Try.ntmps24
              go_wp2_with (go_at_call 31; first | (refine (In_yes _ _ _ _ (by omega) (by omega)).mono ?_; rintro e w' ⟨rfl, rfl⟩) | (refine (In_no _ _ _ _ (by omega)).mono ?_; rintro e w' ⟨rfl, rfl⟩))
              all_goals first | (go_ret; exact ⟨rfl, (by repeat (first | (with_reducible exact Below.refl _ _) | (with_reducible assumption) | (with_reducible refine Below.drew ?_) | (with_reducible refine Below_drewN ?_) | (with_reducible refine Below.alloc ?_ (by first | omega | (simp; done) | (simp; omega)) _) | (with_reducible refine Below.setCell ?_ (by first | omega | (simp; done) | (simp; omega)) _) | (with_reducible refine Below.trans ?_ (Below.mono (by assumption) (by first | omega | (simp; done) | (simp; omega))))))⟩) | (exfalso; first | omega | (simp at *; omega) | (simp at *; done))
          · obtain rfl : r = false := by rcases hr with ⟨h, _⟩ | ⟨_, h⟩; (simp only [LfMay] at h; omega); exact h
            have e1 : (rq == 0) = false := by simpa using h1
            clear hr h1
            go_enter Try.func24, Try.ntmps24
            go_wp2_with (go_at_call 31; first | (refine (In_yes _ _ _ _ (by omega) (by omega)).mono ?_; rintro e w' ⟨rfl, rfl⟩) | (refine (In_no _ _ _ _ (by omega)).mono ?_; rintro e w' ⟨rfl, rfl⟩))
            all_goals first | (go_ret; exact ⟨rfl, (by repeat (first | (with_reducible exact Below.refl _ _) | (with_reducible assumption) | (with_reducible refine Below.drew ?_) | (with_reducible refine Below_drewN ?_) | (with_reducible refine Below.alloc ?_ (by first | omega | (simp; done) | (simp; omega)) _) | (with_reducible refine Below.setCell ?_ (by first | omega | (simp; done) | (simp; omega)) _) | (with_reducible refine Below.trans ?_ (Below.mono (by assumption) (by first | omega | (simp; done) | (simp; omega))))))⟩) | (exfalso; first | omega | (simp at *; omega) | (simp at *; done))
      · obtain rfl : r = false := by rcases hr with ⟨h, _⟩ | ⟨_, h⟩; (simp only [LfMay] at h; omega); exact h
        have e1 : (un == 0) = false := by simpa using h1
        clear hr h1
        go_enter Try.func24, Try.ntmps24
        go_wp2_with (go_at_call 31; first | (refine (In_yes _ _ _ _ (by omega) (by omega)).mono ?_; rintro e w' ⟨rfl, rfl⟩) | (refine (In_no _ _ _ _ (by omega)).mono ?_; rintro e w' ⟨rfl, rfl⟩))
        all_goals first | (go_ret; exact ⟨rfl, (by repeat (first | (with_reducible exact Below.refl _ _) | (with_reducible assumption) | (with_reducible refine Below.drew ?_) | (with_reducible refine Below_drewN ?_) | (with_reducible refine Below.alloc ?_ (by first | omega | (simp; done) | (simp; omega)) _) | (with_reducible refine Below.setCell ?_ (by first | omega | (simp; done) | (simp; omega)) _) | (with_reducible refine Below.trans ?_ (Below.mono (by assumption) (by first | omega | (simp; done) | (simp; omega))))))⟩) | (exfalso; first | omega | (simp at *; omega) | (simp at *; done))
    · obtain rfl : r = true := by rcases hr with ⟨_, h⟩ | ⟨h, _⟩; exact h; (refine absurd ?_ h; simp only [LfMay]; first | omega | (simp; done) | (simp; omega))
      clear hr
      go_enter Try.func24, Try.ntmps24
      go_wp2_with (go_at_call 31; first | (refine (In_yes _ _ _ _ (by omega) (by omega)).mono ?_; rintro e w' ⟨rfl, rfl⟩) | (refine (In_no _ _ _ _ (by omega)).mono ?_; rintro e w' ⟨rfl, rfl⟩))
      all_goals first | (go_ret; exact ⟨rfl, (by repeat (first | (with_reducible exact Below.refl _ _) | (with_reducible assumption) | (with_reducible refine Below.drew ?_) | (with_reducible refine Below_drewN ?_) | (with_reducible refine Below.alloc ?_ (by first | omega | (simp; done) | (simp; omega)) _) | (with_reducible refine Below.setCell ?_ (by first | omega | (simp; done) | (simp; omega)) _) | (with_reducible refine Below.trans ?_ (Below.mono (by assumption) (by first | omega | (simp; done) | (simp; omega))))))⟩) | (exfalso; first | omega | (simp at *; omega) | (simp at *; done))
    · obtain rfl : r = true := by rcases hr with ⟨_, h⟩ | ⟨h, _⟩; exact h; (refine absurd ?_ h; simp only [LfMay]; first | omega | (simp; done) | (simp; omega))
      clear hr
      go_enter Try.func24, Try.ntmps24
      go_wp2_with (go_at_call 31; first | (refine (In_yes _ _ _ _ (by omega) (by omega)).mono ?_; rintro e w' ⟨rfl, rfl⟩) | (refine (In_no _ _ _ _ (by omega)).mono ?_; rintro e w' ⟨rfl, rfl⟩))
      all_goals first | (go_ret; exact ⟨rfl, (by repeat (first | (with_reducible exact Below.refl _ _) | (with_reducible assumption) | (with_reducible refine Below.drew ?_) | (with_reducible refine Below_drewN ?_) | (with_reducible refine Below.alloc ?_ (by first | omega | (simp; done) | (simp; omega)) _) | (with_reducible refine Below.setCell ?_ (by first | omega | (simp; done) | (simp; omega)) _) | (with_reducible refine Below.trans ?_ (Below.mono (by assumption) (by first | omega | (simp; done) | (simp; omega))))))⟩) | (exfalso; first | omega | (simp at *; omega) | (simp at *; done))
    · exfalso; omega
  all_goals
    obtain rfl : r = false := by rcases hr with ⟨h, _⟩ | ⟨_, h⟩; (simp only [LfMay] at h; omega); exact h
    clear hr
    go_enter Try.func24, Try.ntmps24
    go_wp2_with (go_at_call 31; first | (refine (In_yes _ _ _ _ (by omega) (by omega)).mono ?_; rintro e w' ⟨rfl, rfl⟩) | (refine (In_no _ _ _ _ (by omega)).mono ?_; rintro e w' ⟨rfl, rfl⟩))
    all_goals first | (go_ret; exact ⟨rfl, (by repeat (first | (with_reducible exact Below.refl _ _) | (with_reducible assumption) | (with_reducible refine Below.drew ?_) | (with_reducible refine Below_drewN ?_) | (with_reducible refine Below.alloc ?_ (by first | omega | (simp; done) | (simp; omega)) _) | (with_reducible refine Below.setCell ?_ (by first | omega | (simp; done) | (simp; omega)) _) | (with_reducible refine Below.trans ?_ (Below.mono (by assumption) (by first | omega | (simp; done) | (simp; omega))))))⟩) | (exfalso; first | omega | (simp at *; omega) | (simp at *; done))

end Go.Proofs.Ythngedmmeiiklaa
