/- life.one, life.request, usherref.lifeMay, usherref.RequestMay: their contracts. -/
import Derived.Test.YthngedmmeiiklaaBook
namespace Go.Proofs.Ythngedmmeiiklaa
open Go.RowKit

/-- P11.1: may a life be? -/
def LfMay (x : Lf) : Prop := 0 ≤ x.backend ∧ x.backend ≤ 11 ∧ 1 ≤ x.weight ∧ x.weight ≤ 8 ∧ 0 ≤ x.since ∧ x.since ≤ 1099511627776 ∧ 0 ≤ x.until_ ∧ x.until_ ≤ 1099511628276 ∧ 0 ≤ x.request ∧ x.request ≤ 1048576 ∧
  ((x.state = 1 ∧ x.since = 0 ∧ x.until_ = 0 ∧ x.request = 0) ∨ (x.state = 2 ∧ x.until_ = 0 ∧ x.request = 0) ∨ x.state = 3 ∨ x.state = 4)
/-- P11.2: may a request be? -/
def RqMay (x : Rq) : Prop := 0 ≤ x.id ∧ x.id ≤ 1048576 ∧ (x.kind = 1 ∨ x.kind = 2)

set_option maxHeartbeats 4000000 in
set_option maxRecDepth 100000 in
theorem prog_one (b s wt si un rq : Int) (r : Bool) (w : World) (hr : (LfMay ⟨b, s, wt, si, un, rq⟩ ∧ r = true) ∨ (¬ LfMay ⟨b, s, wt, si, un, rq⟩ ∧ r = false)) :
    Calls Try.prog 21 #[.agg #[.int .i64 b, .int .i64 s, .int .i64 wt, .int .i64 si, .int .i64 un, .int .i64 rq]] w fun e w' => e = .returned (.bool r) ∧ Below w.heap.size w w' := by
  rcases (show ((b < 0)) ∨ ((0 ≤ b) ∧ (12 ≤ b)) ∨ ((0 ≤ b) ∧ (b < 12) ∧ (wt < 1)) ∨ ((0 ≤ b) ∧ (b < 12) ∧ (1 ≤ wt) ∧ (8 < wt)) ∨ ((0 ≤ b) ∧ (b < 12) ∧ (1 ≤ wt) ∧ (wt ≤ 8) ∧ (si < 0)) ∨ ((0 ≤ b) ∧ (b < 12) ∧ (1 ≤ wt) ∧ (wt ≤ 8) ∧ (0 ≤ si) ∧ (1099511627776 < si)) ∨ ((0 ≤ b) ∧ (b < 12) ∧ (1 ≤ wt) ∧ (wt ≤ 8) ∧ (0 ≤ si) ∧ (si ≤ 1099511627776) ∧ (un < 0)) ∨ ((0 ≤ b) ∧ (b < 12) ∧ (1 ≤ wt) ∧ (wt ≤ 8) ∧ (0 ≤ si) ∧ (si ≤ 1099511627776) ∧ (0 ≤ un) ∧ (1099511628276 < un)) ∨ ((0 ≤ b) ∧ (b < 12) ∧ (1 ≤ wt) ∧ (wt ≤ 8) ∧ (0 ≤ si) ∧ (si ≤ 1099511627776) ∧ (0 ≤ un) ∧ (un ≤ 1099511628276) ∧ (rq < 0)) ∨ ((0 ≤ b) ∧ (b < 12) ∧ (1 ≤ wt) ∧ (wt ≤ 8) ∧ (0 ≤ si) ∧ (si ≤ 1099511627776) ∧ (0 ≤ un) ∧ (un ≤ 1099511628276) ∧ (0 ≤ rq) ∧ (1048576 < rq)) ∨ ((0 ≤ b) ∧ (b < 12) ∧ (1 ≤ wt) ∧ (wt ≤ 8) ∧ (0 ≤ si) ∧ (si ≤ 1099511627776) ∧ (0 ≤ un) ∧ (un ≤ 1099511628276) ∧ (0 ≤ rq) ∧ (rq ≤ 1048576)) by (rcases (show (b < 0) ∨ (0 ≤ b) by omega) with hx0 | hx0; exact Or.inl hx0; (rcases (show (12 ≤ b) ∨ (b < 12) by omega) with hx1 | hx1; exact Or.inr (Or.inl ⟨hx0, hx1⟩); (rcases (show (wt < 1) ∨ (1 ≤ wt) by omega) with hx2 | hx2; exact Or.inr (Or.inr (Or.inl ⟨hx0, hx1, hx2⟩)); (rcases (show (8 < wt) ∨ (wt ≤ 8) by omega) with hx3 | hx3; exact Or.inr (Or.inr (Or.inr (Or.inl ⟨hx0, hx1, hx2, hx3⟩))); (rcases (show (si < 0) ∨ (0 ≤ si) by omega) with hx4 | hx4; exact Or.inr (Or.inr (Or.inr (Or.inr (Or.inl ⟨hx0, hx1, hx2, hx3, hx4⟩)))); (rcases (show (1099511627776 < si) ∨ (si ≤ 1099511627776) by omega) with hx5 | hx5; exact Or.inr (Or.inr (Or.inr (Or.inr (Or.inr (Or.inl ⟨hx0, hx1, hx2, hx3, hx4, hx5⟩))))); (rcases (show (un < 0) ∨ (0 ≤ un) by omega) with hx6 | hx6; exact Or.inr (Or.inr (Or.inr (Or.inr (Or.inr (Or.inr (Or.inl ⟨hx0, hx1, hx2, hx3, hx4, hx5, hx6⟩)))))); (rcases (show (1099511628276 < un) ∨ (un ≤ 1099511628276) by omega) with hx7 | hx7; exact Or.inr (Or.inr (Or.inr (Or.inr (Or.inr (Or.inr (Or.inr (Or.inl ⟨hx0, hx1, hx2, hx3, hx4, hx5, hx6, hx7⟩))))))); (rcases (show (rq < 0) ∨ (0 ≤ rq) by omega) with hx8 | hx8; exact Or.inr (Or.inr (Or.inr (Or.inr (Or.inr (Or.inr (Or.inr (Or.inr (Or.inl ⟨hx0, hx1, hx2, hx3, hx4, hx5, hx6, hx7, hx8⟩)))))))); (rcases (show (1048576 < rq) ∨ (rq ≤ 1048576) by omega) with hx9 | hx9; exact Or.inr (Or.inr (Or.inr (Or.inr (Or.inr (Or.inr (Or.inr (Or.inr (Or.inr (Or.inl ⟨hx0, hx1, hx2, hx3, hx4, hx5, hx6, hx7, hx8, hx9⟩))))))))); exact Or.inr (Or.inr (Or.inr (Or.inr (Or.inr (Or.inr (Or.inr (Or.inr (Or.inr (Or.inr (⟨hx0, hx1, hx2, hx3, hx4, hx5, hx6, hx7, hx8, hx9⟩))))))))))))))))))))) with hs0 | ⟨hs0, hs1⟩ | ⟨hs0, hs1, hs2⟩ | ⟨hs0, hs1, hs2, hs3⟩ | ⟨hs0, hs1, hs2, hs3, hs4⟩ | ⟨hs0, hs1, hs2, hs3, hs4, hs5⟩ | ⟨hs0, hs1, hs2, hs3, hs4, hs5, hs6⟩ | ⟨hs0, hs1, hs2, hs3, hs4, hs5, hs6, hs7⟩ | ⟨hs0, hs1, hs2, hs3, hs4, hs5, hs6, hs7, hs8⟩ | ⟨hs0, hs1, hs2, hs3, hs4, hs5, hs6, hs7, hs8, hs9⟩ | ⟨hs0, hs1, hs2, hs3, hs4, hs5, hs6, hs7, hs8, hs9⟩
  rotate_right
  · rcases (show s = 1 ∨ s = 2 ∨ s = 3 ∨ s = 4 ∨ (s ≠ 1 ∧ s ≠ 2 ∧ s ≠ 3 ∧ s ≠ 4) by omega) with rfl | rfl | rfl | rfl | ⟨h1, h2, h3, h4⟩
    · by_cases h1 : si = 0
      · subst h1
        · by_cases h1 : un = 0
          · subst h1
            · by_cases h1 : rq = 0
              · subst h1
                · obtain rfl : r = true := by rcases hr with ⟨_, h⟩ | ⟨h, _⟩; exact h; (refine absurd ?_ h; simp only [LfMay]; first | omega | (simp; done) | (simp; omega))
                  clear hr
                  go_enter Try.func21, Try.ntmps21
                  go_wp2
                  all_goals first | (go_ret; exact ⟨rfl, (by repeat (first | (with_reducible exact Below.refl _ _) | (with_reducible assumption) | (with_reducible refine Below.drew ?_) | (with_reducible refine Below_drewN ?_) | (with_reducible refine Below.alloc ?_ (by first | omega | (simp; done) | (simp; omega)) _) | (with_reducible refine Below.setCell ?_ (by first | omega | (simp; done) | (simp; omega)) _) | (with_reducible refine Below.trans ?_ (Below.mono (by assumption) (by first | omega | (simp; done) | (simp; omega))))))⟩) | (exfalso; first | omega | (simp at *; omega) | (simp at *; done))
              · obtain rfl : r = false := by rcases hr with ⟨h, _⟩ | ⟨_, h⟩; (simp only [LfMay] at h; omega); exact h
                have e1 : (rq == 0) = false := by simpa using h1
                clear hr h1
                go_enter Try.func21, Try.ntmps21
                go_wp2
                all_goals first | (go_ret; exact ⟨rfl, (by repeat (first | (with_reducible exact Below.refl _ _) | (with_reducible assumption) | (with_reducible refine Below.drew ?_) | (with_reducible refine Below_drewN ?_) | (with_reducible refine Below.alloc ?_ (by first | omega | (simp; done) | (simp; omega)) _) | (with_reducible refine Below.setCell ?_ (by first | omega | (simp; done) | (simp; omega)) _) | (with_reducible refine Below.trans ?_ (Below.mono (by assumption) (by first | omega | (simp; done) | (simp; omega))))))⟩) | (exfalso; first | omega | (simp at *; omega) | (simp at *; done))
          · obtain rfl : r = false := by rcases hr with ⟨h, _⟩ | ⟨_, h⟩; (simp only [LfMay] at h; omega); exact h
            have e1 : (un == 0) = false := by simpa using h1
            clear hr h1
            go_enter Try.func21, Try.ntmps21
            go_wp2
            all_goals first | (go_ret; exact ⟨rfl, (by repeat (first | (with_reducible exact Below.refl _ _) | (with_reducible assumption) | (with_reducible refine Below.drew ?_) | (with_reducible refine Below_drewN ?_) | (with_reducible refine Below.alloc ?_ (by first | omega | (simp; done) | (simp; omega)) _) | (with_reducible refine Below.setCell ?_ (by first | omega | (simp; done) | (simp; omega)) _) | (with_reducible refine Below.trans ?_ (Below.mono (by assumption) (by first | omega | (simp; done) | (simp; omega))))))⟩) | (exfalso; first | omega | (simp at *; omega) | (simp at *; done))
      · obtain rfl : r = false := by rcases hr with ⟨h, _⟩ | ⟨_, h⟩; (simp only [LfMay] at h; omega); exact h
        have e1 : (si == 0) = false := by simpa using h1
        clear hr h1
        go_enter Try.func21, Try.ntmps21
        go_wp2
        all_goals first | (go_ret; exact ⟨rfl, (by repeat (first | (with_reducible exact Below.refl _ _) | (with_reducible assumption) | (with_reducible refine Below.drew ?_) | (with_reducible refine Below_drewN ?_) | (with_reducible refine Below.alloc ?_ (by first | omega | (simp; done) | (simp; omega)) _) | (with_reducible refine Below.setCell ?_ (by first | omega | (simp; done) | (simp; omega)) _) | (with_reducible refine Below.trans ?_ (Below.mono (by assumption) (by first | omega | (simp; done) | (simp; omega))))))⟩) | (exfalso; first | omega | (simp at *; omega) | (simp at *; done))
    · by_cases h1 : un = 0
      · subst h1
        · by_cases h1 : rq = 0
          · subst h1
            · obtain rfl : r = true := by rcases hr with ⟨_, h⟩ | ⟨h, _⟩; exact h; (refine absurd ?_ h; simp only [LfMay]; first | omega | (simp; done) | (simp; omega))
              clear hr
              go_enter Try.func21, Try.ntmps21
              go_wp2
              all_goals first | (go_ret; exact ⟨rfl, (by repeat (first | (with_reducible exact Below.refl _ _) | (with_reducible assumption) | (with_reducible refine Below.drew ?_) | (with_reducible refine Below_drewN ?_) | (with_reducible refine Below.alloc ?_ (by first | omega | (simp; done) | (simp; omega)) _) | (with_reducible refine Below.setCell ?_ (by first | omega | (simp; done) | (simp; omega)) _) | (with_reducible refine Below.trans ?_ (Below.mono (by assumption) (by first | omega | (simp; done) | (simp; omega))))))⟩) | (exfalso; first | omega | (simp at *; omega) | (simp at *; done))
          · obtain rfl : r = false := by rcases hr with ⟨h, _⟩ | ⟨_, h⟩; (simp only [LfMay] at h; omega); exact h
            have e1 : (rq == 0) = false := by simpa using h1
            clear hr h1
            go_enter Try.func21, Try.ntmps21
            go_wp2
            all_goals first | (go_ret; exact ⟨rfl, (by repeat (first | (with_reducible exact Below.refl _ _) | (with_reducible assumption) | (with_reducible refine Below.drew ?_) | (with_reducible refine Below_drewN ?_) | (with_reducible refine Below.alloc ?_ (by first | omega | (simp; done) | (simp; omega)) _) | (with_reducible refine Below.setCell ?_ (by first | omega | (simp; done) | (simp; omega)) _) | (with_reducible refine Below.trans ?_ (Below.mono (by assumption) (by first | omega | (simp; done) | (simp; omega))))))⟩) | (exfalso; first | omega | (simp at *; omega) | (simp at *; done))
      · obtain rfl : r = false := by rcases hr with ⟨h, _⟩ | ⟨_, h⟩; (simp only [LfMay] at h; omega); exact h
        have e1 : (un == 0) = false := by simpa using h1
        clear hr h1
        go_enter Try.func21, Try.ntmps21
        go_wp2
        all_goals first | (go_ret; exact ⟨rfl, (by repeat (first | (with_reducible exact Below.refl _ _) | (with_reducible assumption) | (with_reducible refine Below.drew ?_) | (with_reducible refine Below_drewN ?_) | (with_reducible refine Below.alloc ?_ (by first | omega | (simp; done) | (simp; omega)) _) | (with_reducible refine Below.setCell ?_ (by first | omega | (simp; done) | (simp; omega)) _) | (with_reducible refine Below.trans ?_ (Below.mono (by assumption) (by first | omega | (simp; done) | (simp; omega))))))⟩) | (exfalso; first | omega | (simp at *; omega) | (simp at *; done))
    · obtain rfl : r = true := by rcases hr with ⟨_, h⟩ | ⟨h, _⟩; exact h; (refine absurd ?_ h; simp only [LfMay]; first | omega | (simp; done) | (simp; omega))
      clear hr
      go_enter Try.func21, Try.ntmps21
      go_wp2
      all_goals first | (go_ret; exact ⟨rfl, (by repeat (first | (with_reducible exact Below.refl _ _) | (with_reducible assumption) | (with_reducible refine Below.drew ?_) | (with_reducible refine Below_drewN ?_) | (with_reducible refine Below.alloc ?_ (by first | omega | (simp; done) | (simp; omega)) _) | (with_reducible refine Below.setCell ?_ (by first | omega | (simp; done) | (simp; omega)) _) | (with_reducible refine Below.trans ?_ (Below.mono (by assumption) (by first | omega | (simp; done) | (simp; omega))))))⟩) | (exfalso; first | omega | (simp at *; omega) | (simp at *; done))
    · obtain rfl : r = true := by rcases hr with ⟨_, h⟩ | ⟨h, _⟩; exact h; (refine absurd ?_ h; simp only [LfMay]; first | omega | (simp; done) | (simp; omega))
      clear hr
      go_enter Try.func21, Try.ntmps21
      go_wp2
      all_goals first | (go_ret; exact ⟨rfl, (by repeat (first | (with_reducible exact Below.refl _ _) | (with_reducible assumption) | (with_reducible refine Below.drew ?_) | (with_reducible refine Below_drewN ?_) | (with_reducible refine Below.alloc ?_ (by first | omega | (simp; done) | (simp; omega)) _) | (with_reducible refine Below.setCell ?_ (by first | omega | (simp; done) | (simp; omega)) _) | (with_reducible refine Below.trans ?_ (Below.mono (by assumption) (by first | omega | (simp; done) | (simp; omega))))))⟩) | (exfalso; first | omega | (simp at *; omega) | (simp at *; done))
    · obtain rfl : r = false := by rcases hr with ⟨h, _⟩ | ⟨_, h⟩; (simp only [LfMay] at h; omega); exact h
      have e1 : (s == 1) = false := by simpa using h1
      have e2 : (s == 2) = false := by simpa using h2
      have e3 : (s == 3) = false := by simpa using h3
      have e4 : (s == 4) = false := by simpa using h4
      clear hr h1 h2 h3 h4
      go_enter Try.func21, Try.ntmps21
      go_wp2
      all_goals first | (go_ret; exact ⟨rfl, (by repeat (first | (with_reducible exact Below.refl _ _) | (with_reducible assumption) | (with_reducible refine Below.drew ?_) | (with_reducible refine Below_drewN ?_) | (with_reducible refine Below.alloc ?_ (by first | omega | (simp; done) | (simp; omega)) _) | (with_reducible refine Below.setCell ?_ (by first | omega | (simp; done) | (simp; omega)) _) | (with_reducible refine Below.trans ?_ (Below.mono (by assumption) (by first | omega | (simp; done) | (simp; omega))))))⟩) | (exfalso; first | omega | (simp at *; omega) | (simp at *; done))
  all_goals
    obtain rfl : r = false := by rcases hr with ⟨h, _⟩ | ⟨_, h⟩; (simp only [LfMay] at h; omega); exact h
    clear hr
    go_enter Try.func21, Try.ntmps21
    go_wp2
    all_goals first | (go_ret; exact ⟨rfl, (by repeat (first | (with_reducible exact Below.refl _ _) | (with_reducible assumption) | (with_reducible refine Below.drew ?_) | (with_reducible refine Below_drewN ?_) | (with_reducible refine Below.alloc ?_ (by first | omega | (simp; done) | (simp; omega)) _) | (with_reducible refine Below.setCell ?_ (by first | omega | (simp; done) | (simp; omega)) _) | (with_reducible refine Below.trans ?_ (Below.mono (by assumption) (by first | omega | (simp; done) | (simp; omega))))))⟩) | (exfalso; first | omega | (simp at *; omega) | (simp at *; done))


set_option maxHeartbeats 4000000 in
set_option maxRecDepth 100000 in
theorem prog_request (id kd b wt an : Int) (r : Bool) (w : World) (hr : (RqMay ⟨id, kd, b, wt, an⟩ ∧ r = true) ∨ (¬ RqMay ⟨id, kd, b, wt, an⟩ ∧ r = false)) :
    Calls Try.prog 22 #[.agg #[.int .i64 id, .int .i64 kd, .int .i64 b, .int .i64 wt, .int .i64 an]] w fun e w' => e = .returned (.bool r) ∧ Below w.heap.size w w' := by
  rcases (show id < 0 ∨ (0 ≤ id ∧ 1048576 < id) ∨ (0 ≤ id ∧ id ≤ 1048576 ∧ kd = 1) ∨ (0 ≤ id ∧ id ≤ 1048576 ∧ kd = 2) ∨ (0 ≤ id ∧ id ≤ 1048576 ∧ kd ≠ 1 ∧ kd ≠ 2) by omega) with h0 | ⟨h0, h1⟩ | ⟨h0, h1, rfl⟩ | ⟨h0, h1, rfl⟩ | ⟨h0, h1, h2, h3⟩
  · obtain rfl : r = false := by rcases hr with ⟨h, _⟩ | ⟨_, h⟩; (simp only [RqMay] at h; omega); exact h
    clear hr
    have e0 : decide (0 ≤ id) = false := by simp; omega
    go_enter Try.func22, Try.ntmps22
    go_wp2
    all_goals first | (go_ret; exact ⟨rfl, (by repeat (first | (with_reducible exact Below.refl _ _) | (with_reducible assumption) | (with_reducible refine Below.drew ?_) | (with_reducible refine Below_drewN ?_) | (with_reducible refine Below.alloc ?_ (by first | omega | (simp; done) | (simp; omega)) _) | (with_reducible refine Below.setCell ?_ (by first | omega | (simp; done) | (simp; omega)) _) | (with_reducible refine Below.trans ?_ (Below.mono (by assumption) (by first | omega | (simp; done) | (simp; omega))))))⟩) | (exfalso; first | omega | (simp at *; omega) | (simp at *; done))
  · obtain rfl : r = false := by rcases hr with ⟨h, _⟩ | ⟨_, h⟩; (simp only [RqMay] at h; omega); exact h
    clear hr
    have e0 : decide (id ≤ 1048576) = false := by simp; omega
    go_enter Try.func22, Try.ntmps22
    go_wp2
    all_goals first | (go_ret; exact ⟨rfl, (by repeat (first | (with_reducible exact Below.refl _ _) | (with_reducible assumption) | (with_reducible refine Below.drew ?_) | (with_reducible refine Below_drewN ?_) | (with_reducible refine Below.alloc ?_ (by first | omega | (simp; done) | (simp; omega)) _) | (with_reducible refine Below.setCell ?_ (by first | omega | (simp; done) | (simp; omega)) _) | (with_reducible refine Below.trans ?_ (Below.mono (by assumption) (by first | omega | (simp; done) | (simp; omega))))))⟩) | (exfalso; first | omega | (simp at *; omega) | (simp at *; done))
  · obtain rfl : r = true := by rcases hr with ⟨_, h⟩ | ⟨h, _⟩; exact h; (refine absurd ?_ h; simp only [RqMay]; first | omega | (simp; done) | (simp; omega))
    clear hr
    go_enter Try.func22, Try.ntmps22
    go_wp2
    all_goals first | (go_ret; exact ⟨rfl, (by repeat (first | (with_reducible exact Below.refl _ _) | (with_reducible assumption) | (with_reducible refine Below.drew ?_) | (with_reducible refine Below_drewN ?_) | (with_reducible refine Below.alloc ?_ (by first | omega | (simp; done) | (simp; omega)) _) | (with_reducible refine Below.setCell ?_ (by first | omega | (simp; done) | (simp; omega)) _) | (with_reducible refine Below.trans ?_ (Below.mono (by assumption) (by first | omega | (simp; done) | (simp; omega))))))⟩) | (exfalso; first | omega | (simp at *; omega) | (simp at *; done))
  · obtain rfl : r = true := by rcases hr with ⟨_, h⟩ | ⟨h, _⟩; exact h; (refine absurd ?_ h; simp only [RqMay]; first | omega | (simp; done) | (simp; omega))
    clear hr
    go_enter Try.func22, Try.ntmps22
    go_wp2
    all_goals first | (go_ret; exact ⟨rfl, (by repeat (first | (with_reducible exact Below.refl _ _) | (with_reducible assumption) | (with_reducible refine Below.drew ?_) | (with_reducible refine Below_drewN ?_) | (with_reducible refine Below.alloc ?_ (by first | omega | (simp; done) | (simp; omega)) _) | (with_reducible refine Below.setCell ?_ (by first | omega | (simp; done) | (simp; omega)) _) | (with_reducible refine Below.trans ?_ (Below.mono (by assumption) (by first | omega | (simp; done) | (simp; omega))))))⟩) | (exfalso; first | omega | (simp at *; omega) | (simp at *; done))
  · obtain rfl : r = false := by rcases hr with ⟨h, _⟩ | ⟨_, h⟩; (simp only [RqMay] at h; omega); exact h
    have e2 : (kd == 1) = false := by simpa using h2
    have e3 : (kd == 2) = false := by simpa using h3
    clear hr h2 h3
    go_enter Try.func22, Try.ntmps22
    go_wp2
    all_goals first | (go_ret; exact ⟨rfl, (by repeat (first | (with_reducible exact Below.refl _ _) | (with_reducible assumption) | (with_reducible refine Below.drew ?_) | (with_reducible refine Below_drewN ?_) | (with_reducible refine Below.alloc ?_ (by first | omega | (simp; done) | (simp; omega)) _) | (with_reducible refine Below.setCell ?_ (by first | omega | (simp; done) | (simp; omega)) _) | (with_reducible refine Below.trans ?_ (Below.mono (by assumption) (by first | omega | (simp; done) | (simp; omega))))))⟩) | (exfalso; first | omega | (simp at *; omega) | (simp at *; done))

set_option maxHeartbeats 4000000 in
set_option maxRecDepth 100000 in
theorem ref_RequestMay (id kd b wt an : Int) (r : Bool) (w : World) (hr : (RqMay ⟨id, kd, b, wt, an⟩ ∧ r = true) ∨ (¬ RqMay ⟨id, kd, b, wt, an⟩ ∧ r = false)) :
    Calls Try.prog 25 #[.agg #[.int .i64 id, .int .i64 kd, .int .i64 b, .int .i64 wt, .int .i64 an]] w fun e w' => e = .returned (.bool r) ∧ Below w.heap.size w w' := by
  rcases (show ((id < 0)) ∨ ((0 ≤ id) ∧ (1048576 < id)) ∨ ((0 ≤ id) ∧ (id ≤ 1048576) ∧ (kd < 1)) ∨ ((0 ≤ id) ∧ (id ≤ 1048576) ∧ (1 ≤ kd) ∧ (2 < kd)) ∨ ((0 ≤ id) ∧ (id ≤ 1048576) ∧ (1 ≤ kd) ∧ (kd ≤ 2)) by (rcases (show (id < 0) ∨ (0 ≤ id) by omega) with hx0 | hx0; exact Or.inl hx0; (rcases (show (1048576 < id) ∨ (id ≤ 1048576) by omega) with hx1 | hx1; exact Or.inr (Or.inl ⟨hx0, hx1⟩); (rcases (show (kd < 1) ∨ (1 ≤ kd) by omega) with hx2 | hx2; exact Or.inr (Or.inr (Or.inl ⟨hx0, hx1, hx2⟩)); (rcases (show (2 < kd) ∨ (kd ≤ 2) by omega) with hx3 | hx3; exact Or.inr (Or.inr (Or.inr (Or.inl ⟨hx0, hx1, hx2, hx3⟩))); exact Or.inr (Or.inr (Or.inr (Or.inr (⟨hx0, hx1, hx2, hx3⟩))))))))) with hs0 | ⟨hs0, hs1⟩ | ⟨hs0, hs1, hs2⟩ | ⟨hs0, hs1, hs2, hs3⟩ | ⟨hs0, hs1, hs2, hs3⟩
  rotate_right
  · obtain rfl : r = true := by rcases hr with ⟨_, h⟩ | ⟨h, _⟩; exact h; (refine absurd ?_ h; simp only [RqMay]; first | omega | (simp; done) | (simp; omega))
    clear hr
    go_enter Try.func25, Try.ntmps25
    go_wp2_with (go_at_call 31; first | (refine (In_yes _ _ _ _ (by omega) (by omega)).mono ?_; rintro e w' ⟨rfl, rfl⟩) | (refine (In_no _ _ _ _ (by omega)).mono ?_; rintro e w' ⟨rfl, rfl⟩))
    all_goals first | (go_ret; exact ⟨rfl, (by repeat (first | (with_reducible exact Below.refl _ _) | (with_reducible assumption) | (with_reducible refine Below.drew ?_) | (with_reducible refine Below_drewN ?_) | (with_reducible refine Below.alloc ?_ (by first | omega | (simp; done) | (simp; omega)) _) | (with_reducible refine Below.setCell ?_ (by first | omega | (simp; done) | (simp; omega)) _) | (with_reducible refine Below.trans ?_ (Below.mono (by assumption) (by first | omega | (simp; done) | (simp; omega))))))⟩) | (exfalso; first | omega | (simp at *; omega) | (simp at *; done))
  all_goals
    obtain rfl : r = false := by rcases hr with ⟨h, _⟩ | ⟨_, h⟩; (simp only [RqMay] at h; omega); exact h
    clear hr
    go_enter Try.func25, Try.ntmps25
    go_wp2_with (go_at_call 31; first | (refine (In_yes _ _ _ _ (by omega) (by omega)).mono ?_; rintro e w' ⟨rfl, rfl⟩) | (refine (In_no _ _ _ _ (by omega)).mono ?_; rintro e w' ⟨rfl, rfl⟩))
    all_goals first | (go_ret; exact ⟨rfl, (by repeat (first | (with_reducible exact Below.refl _ _) | (with_reducible assumption) | (with_reducible refine Below.drew ?_) | (with_reducible refine Below_drewN ?_) | (with_reducible refine Below.alloc ?_ (by first | omega | (simp; done) | (simp; omega)) _) | (with_reducible refine Below.setCell ?_ (by first | omega | (simp; done) | (simp; omega)) _) | (with_reducible refine Below.trans ?_ (Below.mono (by assumption) (by first | omega | (simp; done) | (simp; omega))))))⟩) | (exfalso; first | omega | (simp at *; omega) | (simp at *; done))
end Go.Proofs.Ythngedmmeiiklaa
